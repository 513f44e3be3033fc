import Derived.Test.YthanhdmbelbfcaaGreatX5
set_option linter.defProp false
namespace Wh
end Wh
open Wh
open Go Go.Ab
noncomputable section
def oget {α β:Type}[Inhabited β](f:α→Option β)(x:α):β:=match f x with | some y=>y|none=>default
abbrev YJ:Ty:=(.pair (.int .i64) (.pair (.int .i64) (.pair .bool (.pair (.int .u8) .unit))))
abbrev YJ.D:Type:=Int×Int×Bool×Int×Unit
abbrev YK:Ty:=(.pair .str (.pair (.int .u64) .unit))
abbrev YK.D:Type:=List UInt8×Int×Unit
abbrev gT:Ty:=(.pair (.int .i64) (.pair (.int .i64) (.pair (.lst (.int .i64)) (.pair (.lst (.int .i64)) .unit))))
abbrev gT.D:Type:=Int×Int×List Int×List Int×Unit
abbrev fk:Ty:=(.pair (.int .i64) (.pair (.int .i64) (.pair (.lst (.pair (.lst (.int .i64)) (.pair .str .unit))) .unit)))
abbrev fk.D:Type:=Int×Int×List (List Int×List UInt8×Unit)×Unit
abbrev r5:Ty:=(.pair gT (.pair fk .unit))
abbrev r5.D:Type:=gT.D×fk.D×Unit
abbrev bn:Ty:=(.pair (.int .i64) (.pair (.int .i64) (.pair (.int .i64) (.pair .str (.pair (.int .i64) (.pair r5 .unit))))))
abbrev bn.D:Type:=Int×Int×Int×List UInt8×Int×r5.D×Unit
abbrev eL:Ty:=(.pair (.int .i64) (.pair (.int .i64) (.pair (.int .i64) (.pair (.int .i64) (.pair (.int .i64) (.pair .str (.pair .str .unit)))))))
abbrev eL.D:Type:=Int×Int×Int×Int×Int×List UInt8×List UInt8×Unit
abbrev gh:Ty:=(.pair (.int .i64) (.pair (.lst (.pair (.int .i64) (.pair .str (.pair (.int .i64) (.pair .str .unit))))) .unit))
abbrev gh.D:Type:=Int×List (Int×List UInt8×Int×List UInt8×Unit)×Unit
abbrev iL:Ty:=(.pair (.lst (.pair (.int .i64) (.pair (.int .i64) (.pair (.int .i64) (.pair (.int .i64) (.pair .bool .unit)))))) (.pair (.int .i64) .unit))
abbrev iL.D:Type:=List (Int×Int×Int×Int×Bool×Unit)×Int×Unit
abbrev b7:Ty:=(.pair .bool (.pair (.int .i64) (.pair .str (.pair gh (.pair iL (.pair (.lst (.pair (.int .i64) (.pair (.int .i64) (.pair (.int .i64) (.pair (.int .i64) .unit))))) (.pair (.lst (.pair (.int .i64) (.pair (.int .i64) (.pair (.int .i64) (.pair (.int .i64) (.pair (.int .i64) (.pair (.int .i64) .unit))))))) .unit)))))))
abbrev b7.D:Type:=Bool×Int×List UInt8×gh.D×iL.D×List (Int×Int×Int×Int×Unit)×List (Int×Int×Int×Int×Int×Int×Unit)×Unit
abbrev fy:Ty:=(.pair b7 (.pair (.lst bn) (.pair (.lst (.pair (.int .i64) (.pair .str (.pair .bool .unit)))) (.pair (.lst (.pair (.int .i64) (.pair .str (.pair (.int .i64) (.pair .str .unit))))) .unit))))
abbrev fy.D:Type:=b7.D×List bn.D×List (Int×List UInt8×Bool×Unit)×List (Int×List UInt8×Int×List UInt8×Unit)×Unit
abbrev dz:Ty:=(.pair (.lst (.int .u8)) (.pair (.int .i64) .unit))
abbrev dz.D:Type:=List Int×Int×Unit
abbrev gv:Ty:=(.pair (.lst (.int .i64)) (.pair .str .unit))
abbrev gv.D:Type:=List Int×List UInt8×Unit
abbrev an:Ty:=(.pair (.int .i64) (.pair .str (.pair (.int .i64) (.pair .str .unit))))
abbrev an.D:Type:=Int×List UInt8×Int×List UInt8×Unit
abbrev b9:Ty:=(.pair (.int .i64) (.pair .str (.pair .bool .unit)))
abbrev b9.D:Type:=Int×List UInt8×Bool×Unit
abbrev di:Ty:=(.pair (.int .i64) (.pair (.int .i64) (.pair (.int .i64) (.pair .str (.pair .str (.pair .bool .unit))))))
abbrev di.D:Type:=Int×Int×Int×List UInt8×List UInt8×Bool×Unit
abbrev cw:Ty:=(.pair (.int .i64) (.pair (.int .i64) (.pair (.int .i64) (.pair (.int .i64) .unit))))
abbrev cw.D:Type:=Int×Int×Int×Int×Unit
abbrev Br:Ty:=(.pair (.int .i64) (.pair (.int .i64) (.pair (.int .i64) .unit)))
abbrev Br.D:Type:=Int×Int×Int×Unit
abbrev cp:Ty:=(.pair (.int .i64) (.pair (.int .i64) cw))
abbrev cp.D:Type:=Int×Int×cw.D
abbrev cg:Ty:=(.pair (.int .i64) (.pair (.int .i64) (.pair (.int .i64) (.pair (.int .i64) (.pair .bool .unit)))))
abbrev cg.D:Type:=Int×Int×Int×Int×Bool×Unit
def Wh.JY (xs:List Int):Option (dz.D×Unit):=
 let GQ:=xs;bif decide ((↑(List.length GQ):Int)>2000) then
  let v_2:List Int:=List.take (Int.toNat ((2000:Int)-0)) (List.drop (Int.toNat 0) GQ);bif kL [true,true,decide (2000≤(↑(List.length GQ):Int))] then
   some ((v_2,0,()),())
  else none
 else
  some ((GQ,0,()),())
def Wh.He (_:Unit):Option ((((List (cg.D))×((Int)×(Unit))))×(Unit)):=
 let pb_0:List (cg.D):=[(0,0,0,0,false,()),(0,0,0,0,false,()),(0,0,0,0,false,()),(0,0,0,0,false,()),(0,0,0,0,false,()),(0,0,0,0,false,()),(0,0,0,0,false,()),(0,0,0,0,false,())];some ((pb_0,0,()),())
abbrev Wh.afr:Type:=(Int×Int×Unit)×List cw.D
abbrev Wh.amv:Type:=Unit×List cw.D
def Wh.LS (x:afr):Option (afr⊕amv):=
 let h_8:=x.1.1;let now_9:=x.1.2.1;let Ic:=x.2;bif decide (h_8<2) then
  let X2:List (cw.D):=[(40,40,8,now_9,())];let S_:List (cw.D):=Ic++X2;bif kL [decide (List.length Ic+(1:Nat)≤eV)] then
   some (.inl (((IntKind.wrap .i64 (h_8+1)),now_9,()),S_))
  else none
 else
  some (.inr ((),Ic))
def Wh.afs:Unit×List cw.D:=default
def Wh.Hr (xs:Int):Option (List cw.D×Unit):=
 let now_0:=xs;ia LS afs (((0,now_0,()),[])) fun y_16=>
  let s9:=y_16.2;some (s9,())
def Wh.q40 (_:Unit):Option ((((Bool)×((Int)×((List UInt8)×(((Int)×((List (an.D))×(Unit)))×(((List (cg.D))×((Int)×(Unit)))×((List (cw.D))×((List (cp.D))×(Unit)))))))))×(Unit)):=
 b8 (zog He ()) fun v5=>
 b8 (zog Hr 0) fun r_1=>
 bif kL [qu (Hr 0),qu (He ())] then
  some ((true,0,[],(0,[],()),v5.1,r_1.1,[],()),())
 else none
def Wh.g7 (xs:Int×Int×Int):Option (Bool×Unit):=
 let Dp:=xs.1;let Xt:=xs.2.1;let Xc:=xs.2.2;let oc:=bif decide (Dp≥Xt) then decide (Dp≤Xc) else false;some (oc,())
def Wh.q38 (xs:Int):Option ((Int×Int×Int×List UInt8×Int×((Int×Int×List Int×List Int×Unit)×(Int×Int×List gv.D×Unit)×Unit)×Unit)×Unit):=
 let id_0:=xs;dj g7 (id_0,0,3) fun r_1=>
  bif !r_1.1 then
   some ((0,0,0,[],0,((0,0,[],[],()),(0,0,[],()),()),()),())
  else
   some ((id_0,0,0,[],0,((0,0,[],[],()),(0,0,[],()),()),()),())
abbrev Wh.afT:Type:=(Int×Unit×Unit)×((Bool×Int×List UInt8×(Int×Unit×Unit)×(Unit×Int×Unit)×Unit×Unit×Unit)×Unit×Unit×Unit×Unit)×((Bool×Int×List UInt8×(Int×Unit×Unit)×(Unit×Int×Unit)×Unit×Unit×Unit)×Unit×Unit×Unit×Unit)×List an.D×List cg.D×List cw.D×List cp.D×List bn.D×List b9.D×List an.D×List an.D×List cg.D×List cw.D×List cp.D×List bn.D×List b9.D×List an.D
abbrev Wh.amJ:Type:=(Unit×Unit)×((Bool×Int×List UInt8×(Int×Unit×Unit)×(Unit×Int×Unit)×Unit×Unit×Unit)×Unit×Unit×Unit×Unit)×((Bool×Int×List UInt8×(Int×Unit×Unit)×(Unit×Int×Unit)×Unit×Unit×Unit)×Unit×Unit×Unit×Unit)×List an.D×List cg.D×List cw.D×List cp.D×List bn.D×List b9.D×List an.D×List an.D×List cg.D×List cw.D×List cp.D×List bn.D×List b9.D×List an.D
def Wh.PK (x:afT):Option (afT⊕amJ):=
 let Dg:=x.1.1;let nE:=x.2.1.1.1;let AR:=x.2.1.1.2.1;let AU:=x.2.1.1.2.2.1;let AG:=x.2.1.1.2.2.2.1.1;let AH:=x.2.1.1.2.2.2.1.2.2;let nI:=x.2.1.1.2.2.2.2.1.2;let zC:=x.2.1.1.2.2.2.2.2.2.2;let vT:=x.2.1.2.2.2.2;let w8:=x.2.2.1.1.1;let AV:=x.2.2.1.1.2.1;let qe:=x.2.2.1.1.2.2.1;let z9:=x.2.2.1.1.2.2.2.1.1;let nG:=x.2.2.1.1.2.2.2.1.2.2;let wm:=x.2.2.1.1.2.2.2.2.1.2;let tc:=x.2.2.1.1.2.2.2.2.2.2.2;let Az:=x.2.2.1.2.2.2.2;let AW:=x.2.2.2.1;let AI:=x.2.2.2.2.1;let nS:=x.2.2.2.2.2.1;let AB:=x.2.2.2.2.2.2.1;let Cm:=x.2.2.2.2.2.2.2.1;let Cc:=x.2.2.2.2.2.2.2.2.1;let Bb:=x.2.2.2.2.2.2.2.2.2.1;let BL:=x.2.2.2.2.2.2.2.2.2.2.1;let Cd:=x.2.2.2.2.2.2.2.2.2.2.2.1;let Bc:=x.2.2.2.2.2.2.2.2.2.2.2.2.1;let AX:=x.2.2.2.2.2.2.2.2.2.2.2.2.2.1;let BM:=x.2.2.2.2.2.2.2.2.2.2.2.2.2.2.1;let CS:=x.2.2.2.2.2.2.2.2.2.2.2.2.2.2.2.1;let BD:=x.2.2.2.2.2.2.2.2.2.2.2.2.2.2.2.2;bif decide (Dg<4) then
  b8 (zog q38 Dg) fun r_69=>
  let Bn:=Cm ++ [r_69.1];bif kL [decide (List.length Cm+(1:Nat)≤eV),qu (q38 Dg)] then
   some (.inl (((IntKind.wrap .i64 (Dg+1)),(),()),((nE,AR,AU,(AG,(),AH),((),nI),(),(),zC),(),(),(),vT),((w8,AV,qe,(z9,(),nG),((),wm),(),(),tc),(),(),(),Az),AW,AI,nS,AB,Bn,Cc,Bb,BL,Cd,Bc,AX,BM,CS,BD))
  else none
 else
  some (.inr (((),()),((w8,AV,qe,(z9,(),nG),((),wm),(),(),tc),(),(),(),Az),((nE,AR,AU,(AG,(),AH),((),nI),(),(),zC),(),(),(),vT),BL,Cd,Bc,AX,BM,CS,BD,AW,AI,nS,AB,Cm,Cc,Bb))
def Wh.afU:(Unit×Unit)×((Bool×Int×List UInt8×(Int×Unit×Unit)×(Unit×Int×Unit)×Unit×Unit×Unit)×Unit×Unit×Unit×Unit)×((Bool×Int×List UInt8×(Int×Unit×Unit)×(Unit×Int×Unit)×Unit×Unit×Unit)×Unit×Unit×Unit×Unit)×List an.D×List cg.D×List cw.D×List cp.D×List bn.D×List b9.D×List an.D×List an.D×List cg.D×List cw.D×List cp.D×List bn.D×List b9.D×List an.D:=(default,(default,default,default,default,default,default,default,default,default,default,default,default,default,default,default,default))
def Wh.q64 (_:Unit):Option (((fy.D))×(Unit)):=
 dj q40 () fun v5=>
  ia PK afU (((0,(),()),((v5.1.1,v5.1.2.1,v5.1.2.2.1,(v5.1.2.2.2.1.1,(),v5.1.2.2.2.1.2.2),((),v5.1.2.2.2.2.1.2),(),(),v5.1.2.2.2.2.2.2.2),(),(),(),()),((false,0,[],(0,(),()),((),0,()),(),(),()),(),(),(),()),v5.1.2.2.2.1.2.1,v5.1.2.2.2.2.1.1,v5.1.2.2.2.2.2.1,v5.1.2.2.2.2.2.2.1,[],[],[],[],[],[],[],[],[],[])) fun By=>
   let DI:=By.2.2.1.1.1;let CV:=By.2.2.1.1.2.1;let Dm:=By.2.2.1.1.2.2.1;let Ld:=By.2.2.1.1.2.2.2.1.1;let Pk:=By.2.2.1.1.2.2.2.1.2.2;let Pm:=By.2.2.1.1.2.2.2.2.1.2;let Le:=By.2.2.1.1.2.2.2.2.2.2.2;let XF:=By.2.2.1.2.2.2.2;let Fw:=By.2.2.2.2.2.2.2.2.2.2.1;let Il:=By.2.2.2.2.2.2.2.2.2.2.2.1;let MT:=By.2.2.2.2.2.2.2.2.2.2.2.2.1;let K7:=By.2.2.2.2.2.2.2.2.2.2.2.2.2.1;let Dj:=By.2.2.2.2.2.2.2.2.2.2.2.2.2.2.1;let Ie:=By.2.2.2.2.2.2.2.2.2.2.2.2.2.2.2.1;let AA:=By.2.2.2.2.2.2.2.2.2.2.2.2.2.2.2.2;some (((DI,CV,Dm,(Ld,Fw,Pk),(Il,Pm),MT,K7,Le),Dj,Ie,AA,XF),())
def Wh.m6 (xs:dz.D×Int):Option (Int×dz.D×Unit):=
 let v5:=xs.1;let n_1:=xs.2;let BW:=IntKind.wrap .i64 (v5.2.1+1);let AL:=bif decide (n_1<1) then true else(↑(List.length v5.1):Int)==0;bif AL then
  some (0,(v5.1,BW,v5.2.2),())
 else
  let oc:=IntKind.wrap .i64 (BW-1);let n4:Int:=(↑(List.length v5.1):Int);bif decide (oc<n4) then
   let FX:=List.getD v5.1 (Int.toNat oc) 0;bif kL [n_1 != 0,decide (0≤oc),decide (oc<n4)] then
    some (Int.tmod (IntKind.wrap .i64 FX) n_1,(v5.1,BW,v5.2.2),())
   else none
  else
   let BP:=IntKind.wrap .i64 (oc*7);let x_25:=IntKind.wrap .i64 (IntKind.wrap .i64 (IntKind.wrap .i64 (IntKind.wrap .i64 (IntKind.wrap .i64 (List.getD v5.1 (Int.toNat (Int.tmod oc n4)) 0)*131)+IntKind.wrap .i64 (IntKind.wrap .i64 (List.getD v5.1 (Int.toNat (Int.tmod (IntKind.wrap .i64 (BP+3)) n4)) 0)*1117))+(IntKind.wrap .i64 (oc*29)))+IntKind.wrap .i64 (IntKind.wrap .i64 (Int.tdiv oc n4)*53));bif kL [n4 != 0,decide (0≤Int.tmod (IntKind.wrap .i64 (BP+3)) n4),decide (Int.tmod (IntKind.wrap .i64 (BP+3)) n4<n4),n4 != 0,decide (0≤Int.tmod oc n4),decide (Int.tmod oc n4<n4),n4 != 0] then
    bif kL [n_1 != 0] then
     some ((Int.tmod (pZ Go.BinOp.xor Go.IntKind.i64 x_25 (IntKind.wrap .i64 (Int.tdiv x_25 64))) n_1),(v5.1,BW,v5.2.2),())
    else none
   else none
def Wh.Lv (xs:dz.D×List (List UInt8)):Option (List UInt8×dz.D×Unit):=
 let v5:=xs.1;let Xr:=xs.2;b8 (zog m6 (v5,(↑(List.length Xr):Int))) fun r_2=>
 let AK:Int:=(↑(List.length Xr):Int);let n4:=List.getD Xr (Int.toNat r_2.1) [];bif kL [decide (0≤r_2.1),decide (r_2.1<AK),qu (m6 (v5,AK))] then
  some (n4,r_2.2.1,())
 else none
def Wh.BY (xs:Int):Option (Int×Unit):=
 let Ww:=xs;some ((Int.tmod Ww 2),())
def Wh.JS (xs:Bool):Option (Int×Unit):=
 let BH:=xs;bif BH then
  some (1,())
 else
  some (0,())
abbrev Wh.afZ:Type:=(Int×Unit×Unit×Int)×dz.D×List Int
abbrev Wh.amM:Type:=Unit×dz.D×List Int
def Wh.PM (x:afZ):Option (afZ⊕amM):=
 let CB:=x.1.1;let aby:=x.1.2.2.2;let X4:=x.2.1;let wh:=x.2.2;bif decide (CB<aby) then
  b8 (zog m6 (X4,8)) fun Db=>
  let BA:=wh ++ [(↑(UInt8.toNat (List.getD [(97:UInt8),(98:UInt8),(99:UInt8),(100:UInt8),(101:UInt8),(102:UInt8),(103:UInt8),(104:UInt8)] (Int.toNat Db.1) (0:UInt8))):Int)];bif kL [decide (List.length wh+(1:Nat)≤eV),decide (0≤Db.1),decide (Db.1<(↑(8:Nat):Int)),qu (m6 (X4,8))] then
   some (.inl (((IntKind.wrap .i64 (CB+1)),(),(),aby),Db.2.1,BA))
  else none
 else
  some (.inr ((),X4,wh))
def Wh.af0:Unit×dz.D×List Int:=default
def Wh.Hu (xs:dz.D×Int):Option (List UInt8×dz.D×Unit):=
 let v5:=xs.1;let long_1:=xs.2;ia PM af0 (((0,(),(),long_1),v5,[])) fun HH=>
  let JG:=HH.2.1;let A_:=HH.2.2;some (tv A_,JG,())
def Wh.q19 (x:(Unit×Int×Int)×dz.D×di.D):Option ((Bool×Unit×Int)×dz.D×di.D):=
 let Z3:=x.1.2.1;let v_435:=x.1.2.2;let ads:=x.2.1;let abQ:=x.2.2;let v_438:=v_435==24;bif v_438 then
  some (((v_438,(),Z3),ads,abQ))
 else
  let v_439:=v_435==25;some (((v_439,(),Z3),ads,abQ))
def Wh.TR (x:((Unit)×(Int)×(Int))×((dz.D)×(di.D))):(((Bool)×(Unit)×(Int))×((dz.D)×(di.D))):=match q19 x with | some y=>y|none=>default
def Wh.q19_v (x:((Unit)×(Int)×(Int))×((dz.D)×(di.D)))(y:(((Bool)×(Unit)×(Int))×((dz.D)×(di.D))))(h:q19 x=some y):TR x=y:=by unfold TR;rw[h]
def Wh.q18 (x:(Unit×Int×Int)×dz.D×di.D):Option ((Bool×Unit×Int×Int)×dz.D×di.D):=
 let Z0:=x.1.2.1;let Uw:=x.1.2.2;let adq:=x.2.1;let abP:=x.2.2;let v_419:=Uw==22;bif v_419 then
  some (((v_419,(),Z0,Uw),adq,abP))
 else
  let v_420:=Uw==23;some (((v_420,(),Z0,Uw),adq,abP))
def Wh.TQ (x:((Unit)×(Int)×(Int))×((dz.D)×(di.D))):(((Bool)×(Unit)×(Int)×(Int))×((dz.D)×(di.D))):=match q18 x with | some y=>y|none=>default
def Wh.q18_v (x:((Unit)×(Int)×(Int))×((dz.D)×(di.D)))(y:(((Bool)×(Unit)×(Int)×(Int))×((dz.D)×(di.D))))(h:q18 x=some y):TQ x=y:=by unfold TQ;rw[h]
def Wh.q17 (x:(Unit×Unit×Int×List UInt8×Int)×dz.D×di.D):Option ((Bool×Unit×Unit×Int×List UInt8×Int)×dz.D×di.D):=
 let ZZ:=x.1.2.2.1;let ac3:=x.1.2.2.2.1;let Uu:=x.1.2.2.2.2;let ado:=x.2.1;let abO:=x.2.2;let v_357:=Uu==17;bif v_357 then
  some (((v_357,(),(),ZZ,ac3,Uu),ado,abO))
 else
  let v_358:=Uu==18;some (((v_358,(),(),ZZ,ac3,Uu),ado,abO))
def Wh.TN (x:((Unit)×(Unit)×(Int)×(List UInt8)×(Int))×((dz.D)×(di.D))):(((Bool)×(Unit)×(Unit)×(Int)×(List UInt8)×(Int))×((dz.D)×(di.D))):=match q17 x with | some y=>y|none=>default
def Wh.q17_v (x:((Unit)×(Unit)×(Int)×(List UInt8)×(Int))×((dz.D)×(di.D)))(y:(((Bool)×(Unit)×(Unit)×(Int)×(List UInt8)×(Int))×((dz.D)×(di.D))))(h:q17 x=some y):TN x=y:=by unfold TN;rw[h]
def Wh.q16 (x:(Unit×Unit×Int×List UInt8×Int)×dz.D×di.D):Option ((Bool×Unit×Unit×Int×List UInt8×Int)×dz.D×di.D):=
 let Jl:=x.1.2.2.1;let JF:=x.1.2.2.2.1;let D5:=x.1.2.2.2.2;let JH:=x.2.1;let JD:=x.2.2;let v_329:=D5==9;bif v_329 then
  some (((v_329,(),(),Jl,JF,D5),JH,JD))
 else
  let v_330:=D5==10;bif v_330 then
   some (((v_330,(),(),Jl,JF,D5),JH,JD))
  else
   let v_331:=D5==11;bif v_331 then
    some (((v_331,(),(),Jl,JF,D5),JH,JD))
   else
    let v_332:=D5==12;bif v_332 then
     some (((v_332,(),(),Jl,JF,D5),JH,JD))
    else
     let v_333:=D5==13;bif v_333 then
      some (((v_333,(),(),Jl,JF,D5),JH,JD))
     else
      let v_334:=D5==14;bif v_334 then
       some (((v_334,(),(),Jl,JF,D5),JH,JD))
      else
       let v_335:=D5==15;bif v_335 then
        some (((v_335,(),(),Jl,JF,D5),JH,JD))
       else
        let v_336:=D5==16;some (((v_336,(),(),Jl,JF,D5),JH,JD))
def Wh.TM (x:((Unit)×(Unit)×(Int)×(List UInt8)×(Int))×((dz.D)×(di.D))):(((Bool)×(Unit)×(Unit)×(Int)×(List UInt8)×(Int))×((dz.D)×(di.D))):=match q16 x with | some y=>y|none=>default
def Wh.q16_v (x:((Unit)×(Unit)×(Int)×(List UInt8)×(Int))×((dz.D)×(di.D)))(y:(((Bool)×(Unit)×(Unit)×(Int)×(List UInt8)×(Int))×((dz.D)×(di.D))))(h:q16 x=some y):TM x=y:=by unfold TM;rw[h]
def Wh.q15 (x:(Unit×List UInt8×Int×Unit×Int×Int)×dz.D×di.D):Option ((Bool×Unit×List UInt8×Int×Unit×Int×Int)×dz.D×di.D):=
 let XU:=x.1.2.1;let YT:=x.1.2.2.1;let Wn:=x.1.2.2.2.2.1;let NF:=x.1.2.2.2.2.2;let X9:=x.2.1;let XE:=x.2.2;let v_295:=NF==4;bif v_295 then
  some (((v_295,(),XU,YT,(),Wn,NF),X9,XE))
 else
  let v_296:=NF==5;bif v_296 then
   some (((v_296,(),XU,YT,(),Wn,NF),X9,XE))
  else
   let v_297:=NF==6;some (((v_297,(),XU,YT,(),Wn,NF),X9,XE))
def Wh.TL (x:((Unit)×(List UInt8)×(Int)×(Unit)×(Int)×(Int))×((dz.D)×(di.D))):(((Bool)×(Unit)×(List UInt8)×(Int)×(Unit)×(Int)×(Int))×((dz.D)×(di.D))):=match q15 x with | some y=>y|none=>default
def Wh.q15_v (x:((Unit)×(List UInt8)×(Int)×(Unit)×(Int)×(Int))×((dz.D)×(di.D)))(y:(((Bool)×(Unit)×(List UInt8)×(Int)×(Unit)×(Int)×(Int))×((dz.D)×(di.D))))(h:q15 x=some y):TL x=y:=by unfold TL;rw[h]
def Wh.q14 (x:(Unit×Unit×List UInt8×Int×Int×Int)×dz.D×di.D):Option ((Bool×Unit×Unit×List UInt8×Int×Int×Int)×dz.D×di.D):=
 let XS:=x.1.2.2.1;let YS:=x.1.2.2.2.1;let Wm:=x.1.2.2.2.2.1;let ND:=x.1.2.2.2.2.2;let X6:=x.2.1;let Ge:=x.2.2;let v_202:=ND==0;bif v_202 then
  some (((v_202,(),(),XS,YS,Wm,ND),X6,Ge))
 else
  let v_203:=ND==1;bif v_203 then
   some (((v_203,(),(),XS,YS,Wm,ND),X6,Ge))
  else
   let v_204:=ND==2;some (((v_204,(),(),XS,YS,Wm,ND),X6,Ge))
def Wh.TK (x:((Unit)×(Unit)×(List UInt8)×(Int)×(Int)×(Int))×((dz.D)×(di.D))):(((Bool)×(Unit)×(Unit)×(List UInt8)×(Int)×(Int)×(Int))×((dz.D)×(di.D))):=match q14 x with | some y=>y|none=>default
def Wh.q14_v (x:((Unit)×(Unit)×(List UInt8)×(Int)×(Int)×(Int))×((dz.D)×(di.D)))(y:(((Bool)×(Unit)×(Unit)×(List UInt8)×(Int)×(Int)×(Int))×((dz.D)×(di.D))))(h:q14 x=some y):TK x=y:=by unfold TK;rw[h]
def Wh.q13 (x:(Unit×Unit×Int×List UInt8×Int×Unit)×dz.D×di.D×fy.D):Option (Unit×dz.D×di.D⊕(Unit×Unit×List UInt8×Int×Int)×dz.D×di.D):=
 let D6:=x.1.2.2.1;let ac0:=x.1.2.2.2.1;let ZY:=x.1.2.2.2.2.1;let adm:=x.2.1;let MV:=x.2.2.1;let Ik:=x.2.2.2;let L9:Int:=(↑(List.length Ik.2.1):Int);let v_153:=bif decide (D6<L9) then bif(((List.getD Ik.2.1 (Int.toNat D6) (0,0,0,[],0,((0,0,[],[],()),(0,0,[],()),()),())).2).2).1==2 then true else(((List.getD Ik.2.1 (Int.toNat D6) (0,0,0,[],0,((0,0,[],[],()),(0,0,[],()),()),())).2).2).1==1 else false;bif kL [!(!(((List.getD Ik.2.1 (Int.toNat D6) (0,0,0,[],0,((0,0,[],[],()),(0,0,[],()),()),())).2).2).1==2&&decide (D6<L9)) || decide (0≤D6),!(!(((List.getD Ik.2.1 (Int.toNat D6) (0,0,0,[],0,((0,0,[],[],()),(0,0,[],()),()),())).2).2).1==2&&decide (D6<L9)) || decide (D6<L9),!decide (D6<L9) || decide (0≤D6),!decide (D6<L9) || decide (D6<L9)] then
  bif v_153 then
   dj m6 (adm,3) fun TW=>
    bif(TW.1==0) then
     b8 (zog m6 (TW.2.1,4)) fun PO=>
     b8 (zog m6 (PO.2.1,2)) fun Ym=>
     b8 (zog JS (Ym.1==0)) fun r_159=>
     let XB:=List.getD [(6:Int),6,7,8] (Int.toNat PO.1) 0;bif kL [qu (JS (Ym.1==0)),qu (m6 (PO.2.1,2)),decide (0≤PO.1),decide (PO.1<(↑(4:Nat):Int)),qu (m6 (TW.2.1,4))] then
      some (.inl (((),Ym.2.1,XB,(IntKind.wrap .i64 (D6*r_159.1)),0,[],[],false,())))
     else none
    else
     some (.inr ((((),(),ac0,D6,ZY),TW.2.1,MV)))
  else
   some (.inr ((((),(),ac0,D6,ZY),adm,MV)))
 else none
def Wh.TJ (x:((Unit)×(Unit)×(Int)×(List UInt8)×(Int)×(Unit))×((dz.D)×(di.D)×(fy.D))):((Unit)×((dz.D)×(di.D)))⊕(((Unit)×(Unit)×(List UInt8)×(Int)×(Int))×((dz.D)×(di.D))):=match q13 x with | some y=>y|none=>.inl default
def Wh.q13_v (x:((Unit)×(Unit)×(Int)×(List UInt8)×(Int)×(Unit))×((dz.D)×(di.D)×(fy.D)))(y:((Unit)×((dz.D)×(di.D)))⊕(((Unit)×(Unit)×(List UInt8)×(Int)×(Int))×((dz.D)×(di.D))))(h:q13 x=some y):TJ x=y:=by unfold TJ;rw[h]
abbrev Wh.afV:Type:=(Int×Unit×Int×Unit×Unit×List UInt8×Int)×dz.D×fy.D×di.D
abbrev Wh.amK:Type:=(Unit×Unit×Int×List UInt8×Int×Unit)×dz.D×di.D×fy.D
def Wh.Ni (x:afV):Option (afV⊕amK):=
 let H_:=x.1.1;let Ql:=x.1.2.2.1;let ac5:=x.1.2.2.2.2.2.1;let Wp:=x.1.2.2.2.2.2.2;let Tx:=x.2.1;let BD:=x.2.2.1;let Cs:=x.2.2.2;let Fc:Int:=(↑(List.length (BD.1.2.2.2.1.2.1)):Int);bif decide (H_<Fc) then
  let Tz:an.D:=List.getD (BD.1.2.2.2.1.2.1) (Int.toNat H_) (0,[],0,[],());bif kL [decide (0≤H_),decide (H_<Fc)] then
   b8 (zog BY Ql) fun Ku=>
   b8 (zog m6 (Tx,2)) fun r_73=>
   let M6:dz.D:=bif Tz.1==Ku.1 then r_73.2.1 else Tx;let v_77:=bif Tz.1==Ku.1 then r_73.1==0 else false;bif kL [!Tz.1==Ku.1 || qu (m6 (Tx,2)),qu (BY Ql)] then
    bif v_77 then
     some (.inl (((IntKind.wrap .i64 (H_+1)),(),Ql,(),(),Tz.2.1,Wp),M6,BD,Cs))
    else
     some (.inl (((IntKind.wrap .i64 (H_+1)),(),Ql,(),(),ac5,Wp),M6,BD,Cs))
   else none
  else none
 else
  some (.inr (((),(),Ql,ac5,Wp,()),Tx,Cs,BD))
def Wh.afW:(Unit×Unit×Int×List UInt8×Int×Unit)×dz.D×di.D×fy.D:=default
def Wh.q12 (x:(Unit×Int×Unit×Unit×List UInt8×Int)×dz.D×fy.D×di.D):Option ((Unit×Unit×Int×List UInt8×Int×Unit)×dz.D×di.D×fy.D):=
 let ahb:=x.1.2.1;let ac6:=x.1.2.2.2.2.1;let at_90:=x.1.2.2.2.2.2;let pb_91:=x.2.1;let MX:=x.2.2.1;let MY:=x.2.2.2;dj m6 (pb_91,3) fun r_94=>
  bif decide (r_94.1>0) then
   ia Ni afW (((0,(),ahb,(),(),ac6,at_90),r_94.2.1,MX,MY)) fun NT=>
    let who_98:=NT.1.2.2.1;let ajJ:=NT.1.2.2.2.1;let at_100:=NT.1.2.2.2.2.1;let pb_101:=NT.2.1;let Dj:=NT.2.2.1;let Ie:=NT.2.2.2;some ((((),(),who_98,ajJ,at_100,()),pb_101,Dj,Ie))
  else
   some ((((),(),ahb,ac6,at_90,()),r_94.2.1,MY,MX))
def Wh.TH (x:((Unit)×(Int)×(Unit)×(Unit)×(List UInt8)×(Int))×((dz.D)×(fy.D)×(di.D))):(((Unit)×(Unit)×(Int)×(List UInt8)×(Int)×(Unit))×((dz.D)×(di.D)×(fy.D))):=match q12 x with | some y=>y|none=>default
def Wh.q12_v (x:((Unit)×(Int)×(Unit)×(Unit)×(List UInt8)×(Int))×((dz.D)×(fy.D)×(di.D)))(y:(((Unit)×(Unit)×(Int)×(List UInt8)×(Int)×(Unit))×((dz.D)×(di.D)×(fy.D))))(h:q12 x=some y):TH x=y:=by unfold TH;rw[h]
def Wh.q11 (x:(Unit×Unit×Unit×Int)×dz.D×fy.D×di.D):Option ((Unit×Unit×Unit×Int)×dz.D×fy.D×di.D):=
 let Sn:=x.1.2.2.2;let Pv:=x.2.1;let s9:=x.2.2.1;let AE:=x.2.2.2;b8 (zog m6 (Pv,2)) fun Hz=>
 let BN:dz.D:=bif decide ((↑(List.length (s9.2.2.1)):Int)>0) then Hz.2.1 else Pv;let x3:Int:=(↑(List.length (s9.2.2.1)):Int);let BQ:=bif decide (x3>0) then Hz.1==0 else false;bif kL [!decide (x3>0) || qu (m6 (Pv,2))] then
  bif BQ then
   dj m6 (BN,x3) fun Dc=>
    some ((((),(),(),Dc.1),Dc.2.1,s9,AE))
  else
   some ((((),(),(),Sn),BN,s9,AE))
 else none
def Wh.TE (x:((Unit)×(Unit)×(Unit)×(Int))×((dz.D)×(fy.D)×(di.D))):(((Unit)×(Unit)×(Unit)×(Int))×((dz.D)×(fy.D)×(di.D))):=match q11 x with | some y=>y|none=>default
def Wh.q11_v (x:((Unit)×(Unit)×(Unit)×(Int))×((dz.D)×(fy.D)×(di.D)))(y:(((Unit)×(Unit)×(Unit)×(Int))×((dz.D)×(fy.D)×(di.D))))(h:q11 x=some y):TE x=y:=by unfold TE;rw[h]
def Wh.q72 (xs:dz.D×fy.D):Option (di.D×dz.D×Unit):=
 let v5:=xs.1;let w_1:=xs.2;CL q11 TE ((((),(),(),0),v5,w_1,0,0,0,[],[],false,())) fun C4=>
  let at_30:=C4.1.2.2.2;let xb:=C4.2.1;let AF:=C4.2.2.1;let Ba:=C4.2.2.2;dj Lv (xb,[[(97:UInt8)],[(97:UInt8)],[(98:UInt8)],[(99:UInt8),(99:UInt8)]]) fun r_34=>
   dj m6 (r_34.2.1,4) fun DL=>
    CL q12 TH ((((),DL.1,(),(),r_34.1,at_30),DL.2.1,AF,Ba)) fun NM=>
     let ap6:=NM.1.2.2.1;let ajG:=NM.1.2.2.2.1;let at_108:=NM.1.2.2.2.2.1;let pb_109:=NM.2.1;let Jz:=NM.2.2.1;let JA:=NM.2.2.2;CL q13 TJ ((((),(),ap6,ajG,at_108,()),pb_109,Jz,JA)) fun q_=>
      sumC q_ (fun y_177=>
       let pb_179:=y_177.2.1;let ls_180:=y_177.2.2;some (ls_180,pb_179,())) (fun Qv=>
       let ajH:=Qv.1.2.2.1;let ap7:=Qv.1.2.2.2.1;let at_183:=Qv.1.2.2.2.2;let pb_184:=Qv.2.1;let La:=Qv.2.2;dj m6 (pb_184,40) fun r_186=>
        CL q14 TK ((((),(),ajH,ap7,at_183,r_186.1),r_186.2.1,La)) fun Me=>
         let Ut:=Me.1.1;let XT:=Me.1.2.2.2.1;let ap8:=Me.1.2.2.2.2.1;let at_210:=Me.1.2.2.2.2.2.1;let v_211:=Me.1.2.2.2.2.2.2;let Ts:=Me.2.1;let ls_213:=Me.2.2;bif Ut then
          b8 (zog m6 (Ts,2)) fun Yn=>
          b8 (zog m6 (Yn.2.1,30)) fun TX=>
          b8 (zog m6 (TX.2.1,90)) fun TY=>
          b8 (zog m6 (TY.2.1,250)) fun TZ=>
          b8 (zog m6 (TZ.2.1,3)) fun Nl=>
          b8 (zog Hu (Nl.2.1,List.getD [IntKind.wrap .i64 (1+TX.1),IntKind.wrap .i64 (1+TY.1),IntKind.wrap .i64 (1+TZ.1)] (Int.toNat Nl.1) 0)) fun r_233=>
          bif kL [qu (Hu (Nl.2.1,List.getD [IntKind.wrap .i64 (1+TX.1),IntKind.wrap .i64 (1+TY.1),IntKind.wrap .i64 (1+TZ.1)] (Int.toNat (Nl.1)) 0)),decide (0≤Nl.1),decide (Nl.1<(↑(3:Nat):Int)),qu (m6 (TZ.2.1,3)),qu (m6 (TY.2.1,250)),qu (m6 (TX.2.1,90)),qu (m6 (Yn.2.1,30)),qu (m6 (Ts,2))] then
           some ((1,Yn.1,0,XT,r_233.1,false,()),r_233.2.1,())
          else none
         else
          let v_278:=v_211==3;bif v_278 then
           dj m6 (Ts,2) fun r_279=>
            some ((2,r_279.1,0,XT,[],false,()),r_279.2.1,())
          else
           CL q15 TL ((((),XT,ap8,(),at_210,v_211),Ts,ls_213)) fun Mh=>
            let v_300:=Mh.1.1;let ac2:=Mh.1.2.2.1;let ap9:=Mh.1.2.2.2.1;let at_303:=Mh.1.2.2.2.2.2.1;let YQ:=Mh.1.2.2.2.2.2.2;let Tt:=Mh.2.1;let ls_306:=Mh.2.2;bif v_300 then
             some ((3,ap9,0,ac2,[],false,()),Tt,())
            else
             let v_307:=YQ==7;bif v_307 then
              dj m6 (Tt,4) fun r_308=>
               some ((4,r_308.1,0,[],[],false,()),r_308.2.1,())
             else
              let v_309:=YQ==8;bif v_309 then
               dj m6 (Tt,4) fun r_310=>
                some ((5,r_310.1,0,[],[],false,()),r_310.2.1,())
              else
               CL q16 TM ((((),(),at_303,ac2,YQ),Tt,ls_306)) fun NO=>
                let v_339:=NO.1.1;let at_340:=NO.1.2.2.2.1;let ajI:=NO.1.2.2.2.2.1;let v_342:=NO.1.2.2.2.2.2;let adn:=NO.2.1;let ls_344:=NO.2.2;bif v_339 then
                 some ((6,0,0,[],[],false,()),adn,())
                else
                 CL q17 TN ((((),(),at_340,ajI,v_342),adn,ls_344)) fun NP=>
                  let v_361:=NP.1.1;let Wo:=NP.1.2.2.2.1;let ac4:=NP.1.2.2.2.2.1;let Uv:=NP.1.2.2.2.2.2;let Ll:=NP.2.1;let ls_366:=NP.2.2;bif v_361 then
                   dj m6 (Ll,4) fun r_367=>
                    some ((7,r_367.1,0,[],[],false,()),r_367.2.1,())
                  else
                   let v_368:=Uv==19;bif v_368 then
                    some ((9,Wo,0,[],[],false,()),Ll,())
                   else
                    let v_369:=Uv==20;bif v_369 then
                     b8 (zog m6 (Ll,256)) fun Yo=>
                     b8 (zog m6 (Yo.2.1,256)) fun r_371=>
                     bif kL [qu (m6 (Yo.2.1,256)),qu (m6 (Ll,256))] then
                      some ((10,Wo,(IntKind.wrap .i64 (IntKind.wrap .i64 (Yo.1*256)+r_371.1)),[],[],false,()),r_371.2.1,())
                     else none
                    else
                     let v_380:=Uv==21;bif v_380 then
                      b8 (zog m6 (Ll,2)) fun T0=>
                      b8 (zog m6 (T0.2.1,40)) fun Yp=>
                      b8 (zog m6 (Yp.2.1,3)) fun T1=>
                      let adp:=List.getD [(0:Int),Yp.1,9999] (Int.toNat T1.1) 0;bif kL [decide (0≤T1.1),decide (T1.1<(↑(3:Nat):Int)),qu (m6 (Yp.2.1,3)),qu (m6 (T0.2.1,40)),qu (m6 (Ll,2))] then
                       dj m6 (T1.2.1,3) fun T4=>
                        bif decide (T4.1>0) then
                         b8 (zog m6 (T4.2.1,90)) fun T5=>
                         b8 (zog Hu (T5.2.1,IntKind.wrap .i64 (1+T5.1))) fun r_405=>
                         bif kL [qu (Hu (T5.2.1,IntKind.wrap .i64 (1+T5.1))),qu (m6 (T4.2.1,90))] then
                          some ((11,T0.1,adp,ac4,r_405.1,false,()),r_405.2.1,())
                         else none
                        else
                         some ((11,T0.1,adp,ac4,[],false,()),T4.2.1,())
                      else none
                     else
                      CL q18 TQ ((((),Wo,Uv),Ll,ls_366)) fun Qr=>
                       let v_423:=Qr.1.1;let at_424:=Qr.1.2.2.1;let v_425:=Qr.1.2.2.2;let adr:=Qr.2.1;let ls_427:=Qr.2.2;bif v_423 then
                        some ((12,0,0,[],[],false,()),adr,())
                       else
                        CL q19 TR ((((),at_424,v_425),adr,ls_427)) fun YZ=>
                         let v_442:=YZ.1.1;let Z4:=YZ.1.2.2;let adt:=YZ.2.1;bif v_442 then
                          some ((8,Z4,0,[],[],true,()),adt,())
                         else
                          some ((8,Z4,0,[],[],false,()),adt,()))
def Wh.Gs (xs:gh.D):Option ((Int×List an.D×Unit)×Unit):=
 let cx:gh.D:=xs;let EZ:List (an.D):=[]++cx.2.1;bif kL [decide ((0:Nat)+List.length cx.2.1≤eV)] then
  some ((cx.1,EZ,cx.2.2),())
 else none
def Wh.FO (xs:iL.D):Option ((List cg.D×Int×Unit)×Unit):=
 let g8:iL.D:=xs;let EZ:List (cg.D):=[]++g8.1;bif kL [decide ((0:Nat)+List.length g8.1≤eV)] then
  some ((EZ,g8.2),())
 else none
def Wh.E_ (xs:b7.D):Option ((Bool×Int×List UInt8×(Int×List an.D×Unit)×(List cg.D×Int×Unit)×List cw.D×List cp.D×Unit)×Unit):=
 let c9:b7.D:=xs;dj Gs (c9.2.2.2.1) fun r_1=>
  dj FO (c9.2.2.2.2.1) fun r_2=>
   let Dq:List (cw.D):=[]++c9.2.2.2.2.2.1;bif kL [decide ((0:Nat)+List.length (c9.2.2.2.2.2.1)≤eV)] then
    let Px:List (cp.D):=[]++c9.2.2.2.2.2.2.1;bif kL [decide ((0:Nat)+List.length (c9.2.2.2.2.2.2.1)≤eV)] then
     some ((c9.1,c9.2.1,c9.2.2.1,r_1.1,r_2.1,Dq,Px,c9.2.2.2.2.2.2.2),())
    else none
   else none
def Wh.Hh (xs:gT.D):Option ((Int×Int×List Int×List Int×Unit)×Unit):=
 let g8:gT.D:=xs;let EZ:List Int:=[]++g8.2.2.1;bif kL [decide ((0:Nat)+List.length (g8.2.2.1)≤eV)] then
  let BW:List Int:=[]++g8.2.2.2.1;bif kL [decide ((0:Nat)+List.length (g8.2.2.2.1)≤eV)] then
   some ((g8.1,g8.2.1,EZ,BW,g8.2.2.2.2),())
  else none
 else none
abbrev Wh.aeg:Type:=(Int×Unit×Unit×Unit)×(Int×Int×Unit×Unit)×fk.D×(Int×Int×Unit×Unit)×List gv.D×List gv.D
abbrev Wh.alW:Type:=(Unit×Unit)×(Int×Int×Unit×Unit)×(Int×Int×Unit×Unit)×List gv.D×List gv.D
def Wh.LC (x:aeg):Option (aeg⊕alW):=
 let Bg:=x.1.1;let BA:=x.2.1.1;let DH:=x.2.1.2.1;let CD:=x.2.1.2.2.2;let Ay:=x.2.2.1;let Cb:=x.2.2.2.1.1;let Bi:=x.2.2.2.1.2.1;let A_:=x.2.2.2.1.2.2.2;let BV:=x.2.2.2.2.1;let BB:=x.2.2.2.2.2;let v9:Int:=(↑(List.length (Ay.2.2.1)):Int);bif decide (Bg<v9) then
  let E0:List Int:=[]++(List.getD (Ay.2.2.1) (Int.toNat Bg) ([],[],())).1;let AF:=BV ++ [(E0,((List.getD (Ay.2.2.1) (Int.toNat Bg) ([],[],())).2).1,())];let Cg:=List.getD (Ay.2.2.1) (Int.toNat Bg) ([],[],());bif kL [decide (List.length BV+(1:Nat)≤eV),decide (0≤Bg),decide (Bg<v9),decide ((0:Nat)+List.length Cg.1≤eV),decide (0≤Bg),decide (Bg<v9)] then
   some (.inl (((IntKind.wrap .i64 (Bg+1)),(),(),()),(BA,DH,(),CD),Ay,(Cb,Bi,(),A_),AF,BB))
  else none
 else
  some (.inr (((),()),(Cb,Bi,(),A_),(BA,DH,(),CD),BB,BV))
def Wh.aeh:(Unit×Unit)×(Int×Int×Unit×Unit)×(Int×Int×Unit×Unit)×List gv.D×List gv.D:=default
def Wh.Ix (xs:fk.D):Option ((Int×Int×List gv.D×Unit)×Unit):=
 let c9:=xs;ia LC aeh (((0,(),(),()),(c9.1,c9.2.1,(),()),c9,(0,0,(),()),[],[])) fun UH=>
  let AU:=UH.2.2.1.1;let AG:=UH.2.2.1.2.1;let AH:=UH.2.2.1.2.2.2;let zC:=UH.2.2.2.2;some ((AU,AG,zC,AH),())
def Wh.J1 (xs:r5.D):Option (((Int×Int×List Int×List Int×Unit)×(Int×Int×List gv.D×Unit)×Unit)×Unit):=
 let n5:=xs;b8 (zog Hh n5.1) fun r_1=>
 b8 (zog Ix n5.2.1) fun r_2=>
 bif kL [qu (Ix n5.2.1),qu (Hh n5.1)] then
  some ((r_1.1,r_2.1,()),())
 else none
def Wh.Gm (xs:bn.D):Option ((Int×Int×Int×List UInt8×Int×((Int×Int×List Int×List Int×Unit)×(Int×Int×List gv.D×Unit)×Unit)×Unit)×Unit):=
 let cx:=xs;bif decide (cx.2.2.2.2.1>0) then
  dj J1 (cx.2.2.2.2.2.1) fun r_2=>
   some ((cx.1,cx.2.1,cx.2.2.1,cx.2.2.2.1,cx.2.2.2.2.1,r_2.1,cx.2.2.2.2.2.2),())
 else
  some ((cx.1,cx.2.1,cx.2.2.1,cx.2.2.2.1,cx.2.2.2.2.1,((0,0,[],[],()),(0,0,[],()),()),cx.2.2.2.2.2.2),())
abbrev Wh.adG:Type:=(Int×Unit×Unit×Unit)×((Bool×Int×List UInt8×(Int×Unit×Unit)×(Unit×Int×Unit)×Unit×Unit×Unit)×Unit×Unit×Unit×Unit)×fy.D×((Bool×Int×List UInt8×(Int×Unit×Unit)×(Unit×Int×Unit)×Unit×Unit×Unit)×Unit×Unit×Unit×Unit)×List an.D×List cg.D×List cw.D×List cp.D×List bn.D×List b9.D×List an.D×List an.D×List cg.D×List cw.D×List cp.D×List bn.D×List b9.D×List an.D
abbrev Wh.alD:Type:=(Unit×Unit)×((Bool×Int×List UInt8×(Int×Unit×Unit)×(Unit×Int×Unit)×Unit×Unit×Unit)×Unit×Unit×Unit×Unit)×((Bool×Int×List UInt8×(Int×Unit×Unit)×(Unit×Int×Unit)×Unit×Unit×Unit)×Unit×Unit×Unit×Unit)×List an.D×List cg.D×List cw.D×List cp.D×List bn.D×List b9.D×List an.D×List an.D×List cg.D×List cw.D×List cp.D×List bn.D×List b9.D×List an.D
def Wh.PD (x:adG):Option (adG⊕alD):=
 let MP:=x.1.1;let zC:=x.2.1.1.1;let vT:=x.2.1.1.2.1;let w8:=x.2.1.1.2.2.1;let AV:=x.2.1.1.2.2.2.1.1;let qe:=x.2.1.1.2.2.2.1.2.2;let z9:=x.2.1.1.2.2.2.2.1.2;let nG:=x.2.1.1.2.2.2.2.2.2.2;let wm:=x.2.1.2.2.2.2;let tc:=x.2.2.1;let Az:=x.2.2.2.1.1.1;let AW:=x.2.2.2.1.1.2.1;let AI:=x.2.2.2.1.1.2.2.1;let nS:=x.2.2.2.1.1.2.2.2.1.1;let AB:=x.2.2.2.1.1.2.2.2.1.2.2;let Cm:=x.2.2.2.1.1.2.2.2.2.1.2;let Cc:=x.2.2.2.1.1.2.2.2.2.2.2.2;let Bb:=x.2.2.2.1.2.2.2.2;let BL:=x.2.2.2.2.1;let Cd:=x.2.2.2.2.2.1;let Bc:=x.2.2.2.2.2.2.1;let AX:=x.2.2.2.2.2.2.2.1;let BM:=x.2.2.2.2.2.2.2.2.1;let CS:=x.2.2.2.2.2.2.2.2.2.1;let BD:=x.2.2.2.2.2.2.2.2.2.2.1;let Cs:=x.2.2.2.2.2.2.2.2.2.2.2.1;let EW:=x.2.2.2.2.2.2.2.2.2.2.2.2.1;let Dl:=x.2.2.2.2.2.2.2.2.2.2.2.2.2.1;let Bn:=x.2.2.2.2.2.2.2.2.2.2.2.2.2.2.1;let A1:=x.2.2.2.2.2.2.2.2.2.2.2.2.2.2.2.1;let CE:=x.2.2.2.2.2.2.2.2.2.2.2.2.2.2.2.2.1;let Ce:=x.2.2.2.2.2.2.2.2.2.2.2.2.2.2.2.2.2;let UA:Int:=(↑(List.length tc.2.1):Int);bif decide (MP<UA) then
  b8 (zog Gm (List.getD tc.2.1 (Int.toNat MP) (0,0,0,[],0,((0,0,[],[],()),(0,0,[],()),()),()))) fun PV=>
  let EX:=BM ++ [PV.1];let v_80:=List.getD tc.2.1 (Int.toNat MP) (0,0,0,[],0,((0,0,[],[],()),(0,0,[],()),()),());bif kL [decide (List.length BM+(1:Nat)≤eV),qu (Gm v_80),decide (0≤MP),decide (MP<UA)] then
   some (.inl (((IntKind.wrap .i64 (MP+1)),(),(),()),((zC,vT,w8,(AV,(),qe),((),z9),(),(),nG),(),(),(),wm),tc,((Az,AW,AI,(nS,(),AB),((),Cm),(),(),Cc),(),(),(),Bb),BL,Cd,Bc,AX,EX,CS,BD,Cs,EW,Dl,Bn,A1,CE,Ce))
  else none
 else
  some (.inr (((),()),((Az,AW,AI,(nS,(),AB),((),Cm),(),(),Cc),(),(),(),Bb),((zC,vT,w8,(AV,(),qe),((),z9),(),(),nG),(),(),(),wm),Cs,EW,Dl,Bn,A1,CE,Ce,BL,Cd,Bc,AX,BM,CS,BD))
def Wh.adH:(Unit×Unit)×((Bool×Int×List UInt8×(Int×Unit×Unit)×(Unit×Int×Unit)×Unit×Unit×Unit)×Unit×Unit×Unit×Unit)×((Bool×Int×List UInt8×(Int×Unit×Unit)×(Unit×Int×Unit)×Unit×Unit×Unit)×Unit×Unit×Unit×Unit)×List an.D×List cg.D×List cw.D×List cp.D×List bn.D×List b9.D×List an.D×List an.D×List cg.D×List cw.D×List cp.D×List bn.D×List b9.D×List an.D:=(default,(default,default,default,default,default,default,default,default,default,default,default,default,default,default,default,default))
def Wh.G9 (xs:fy.D):Option ((b7.D×List bn.D×List b9.D×List an.D×Unit)×Unit):=
 let w_0:=xs;b8 (zog E_ w_0.1) fun r_1=>
 let BW:List (b9.D):=[]++w_0.2.2.1;let Dq:List (an.D):=[]++w_0.2.2.2.1;bif kL [decide ((0:Nat)+List.length (w_0.2.2.2.1)≤eV),decide ((0:Nat)+List.length (w_0.2.2.1)≤eV),qu (E_ w_0.1)] then
  ia PD adH (((0,(),(),()),((r_1.1.1,r_1.1.2.1,r_1.1.2.2.1,(r_1.1.2.2.2.1.1,(),r_1.1.2.2.2.1.2.2),((),r_1.1.2.2.2.2.1.2),(),(),r_1.1.2.2.2.2.2.2.2),(),(),(),()),w_0,((false,0,[],(0,(),()),((),0,()),(),(),()),(),(),(),()),r_1.1.2.2.2.1.2.1,r_1.1.2.2.2.2.1.1,r_1.1.2.2.2.2.2.1,r_1.1.2.2.2.2.2.2.1,[],BW,Dq,[],[],[],[],[],[],[])) fun Ek=>
   let MX:=Ek.2.2.1.1.1;let MY:=Ek.2.2.1.1.2.1;let Eb:=Ek.2.2.1.1.2.2.1;let ls_95:=Ek.2.2.1.1.2.2.2.1.1;let ls_96:=Ek.2.2.1.1.2.2.2.1.2.2;let Lf:=Ek.2.2.1.1.2.2.2.2.1.2;let Fw:=Ek.2.2.1.1.2.2.2.2.2.2.2;let Il:=Ek.2.2.1.2.2.2.2;let Fv:=Ek.2.2.2.2.2.2.2.2.2.2.1;let G1:=Ek.2.2.2.2.2.2.2.2.2.2.2.1;let Jy:=Ek.2.2.2.2.2.2.2.2.2.2.2.2.1;let Jz:=Ek.2.2.2.2.2.2.2.2.2.2.2.2.2.1;let JA:=Ek.2.2.2.2.2.2.2.2.2.2.2.2.2.2.1;let MU:=Ek.2.2.2.2.2.2.2.2.2.2.2.2.2.2.2.1;let JB:=Ek.2.2.2.2.2.2.2.2.2.2.2.2.2.2.2.2;some (((MX,MY,Eb,(ls_95,Fv,ls_96),(G1,Lf),Jy,Jz,Fw),JA,MU,JB,Il),())
 else none
abbrev Wh.aes:Type:=(Int×Int×List UInt8)×Unit
abbrev Wh.al2:Type:=Int×Unit⊕Unit×Unit
def Wh.FA (x:aes):Option (aes⊕al2):=
 let Fs:=x.1.1;let b_11:=x.1.2.1;let s_12:=x.1.2.2;let BP:=decide (Fs<(↑(List.length s_12):Int));bif BP then
  let pg:Int:=(↑(UInt8.toNat (List.getD s_12 (Int.toNat Fs) (0:UInt8))):Int);let Bt:=pg==b_11;bif kL [decide (0≤Fs),BP] then
   bif Bt then
    some (.inr (.inl (Fs,())))
   else
    some (.inl (((IntKind.wrap .i64 (Fs+1)),b_11,s_12),()))
  else none
 else
  some (.inr (.inr ((),())))
def Wh.aet:Int×Unit⊕Unit×Unit:=.inl default
def Wh.Co (xs:List UInt8×Int×Int):Option (Int×Unit):=
 let c9:=xs.1;let C8:=xs.2.1;let b_2:=xs.2.2;ia FA aet (((C8,b_2,c9),())) fun q_=>
  sumC q_ (fun Qq=>
   let mb:=Qq.1;some (mb,())) (fun _=>
   some (-1,()))
abbrev Wh.aem:Type:=(Int×Int×List UInt8×Unit×Int)×List (List UInt8)
abbrev Wh.alZ:Type:=(Int×List UInt8×Unit)×List (List UInt8)
def Wh.Du (x:aem):Option (aem⊕alZ):=
 let Ax:=x.1.1;let MK:=x.1.2.1;let L5:=x.1.2.2.1;let Wl:=x.1.2.2.2.2;let BA:=x.2;let mb:=decide (Ax<(↑(List.length L5):Int));bif mb then
  let x3:Int:=(↑(UInt8.toNat (List.getD L5 (Int.toNat Ax) (0:UInt8))):Int);let nT:=x3==Wl;bif kL [decide (0≤Ax),mb] then
   bif nT then
    let X7:List (List UInt8):=[List.take (Int.toNat (Ax-MK)) (List.drop (Int.toNat MK) L5)];let Bi:List (List UInt8):=BA++X7;bif kL [decide (List.length BA+(1:Nat)≤eV),decide (0≤MK),decide (MK≤Ax),decide (Ax≤(↑(List.length L5):Int))] then
     let vN:=IntKind.wrap .i64 (Ax+1);some (.inl ((vN,vN,L5,(),Wl),Bi))
    else none
   else
    some (.inl (((IntKind.wrap .i64 (Ax+1)),MK,L5,(),Wl),BA))
  else none
 else
  some (.inr ((MK,L5,()),BA))
def Wh.aen:(Int×List UInt8×Unit)×List (List UInt8):=default
def Wh.Dt (xs:List UInt8×Int):Option (List (List UInt8)×Unit):=
 let c9:=xs.1;let C8:=xs.2;ia Du aen (((0,0,c9,(),C8),[])) fun C4=>
  let SL:=C4.1.1;let P3:=C4.1.2.1;let AF:=C4.2;let X_:List (List UInt8):=[List.take (Int.toNat ((↑(List.length P3):Int)-SL)) (List.drop (Int.toNat SL) P3)];let w7:List (List UInt8):=AF++X_;bif kL [decide (List.length AF+(1:Nat)≤eV),decide (0≤SL),decide (SL≤(↑(List.length P3):Int)),decide ((↑(List.length P3):Int)≤(↑(List.length P3):Int))] then
   some (w7,())
  else none
abbrev Wh.ae_:Type:=(Int×List UInt8×Int)×Unit
abbrev Wh.amn:Type:=Int×Unit⊕Int×Unit
def Wh.LO (x:ae_):Option (ae_⊕amn):=
 let CC:=x.1.1;let Nu:=x.1.2.1;let n_19:=x.1.2.2;let mb:=decide (CC<(↑(List.length Nu):Int));bif mb then
  let x3:Int:=(↑(UInt8.toNat (List.getD Nu (Int.toNat CC) (0:UInt8))):Int);let BQ:=bif decide (x3<48) then true else decide (x3>57);bif kL [!!decide (x3<48) || decide (0≤CC),!!decide (x3<48) || mb,decide (0≤CC),mb] then
   bif BQ then
    some (.inr (.inl (-1,())))
   else
    bif kL [decide (0≤CC),mb] then
     some (.inl (((IntKind.wrap .i64 (CC+1)),Nu,(IntKind.wrap .i64 ((IntKind.wrap .i64 (n_19*10))+IntKind.wrap .i64 (IntKind.wrap .u8 (x3-48))))),()))
    else none
  else none
 else
  some (.inr (.inr (n_19,())))
def Wh.afa:Int×Unit⊕Int×Unit:=.inl default
def Wh.As (xs:List UInt8):Option (Int×Unit):=
 let c9:=xs;b8 (zog g7 ((↑(List.length c9):Int),1,6)) fun r_1=>
 let v_2:=bif !r_1.1 then true else bif decide ((↑(List.length c9):Int)>1) then(↑(UInt8.toNat (List.getD c9 (Int.toNat 0) (0:UInt8))):Int)==48 else false;bif kL [!(decide ((↑(List.length c9):Int)>1) && !!r_1.1) || decide ((0:Int)≤0),!(decide ((↑(List.length c9):Int)>1) && !!r_1.1) || decide (0<(↑(List.length c9):Int)),qu (g7 ((↑(List.length c9):Int),1,6))] then
  bif v_2 then
   some (-1,())
  else
   ia LO afa (((0,c9,0),())) fun q_=>
    sumC q_ (fun y_32=>
     let FU:=y_32.1;some (FU,())) (fun z_33=>
     let n_35:=z_33.1;some (n_35,()))
 else none
abbrev Wh.ad5:Type:=(Int×List UInt8)×Unit
abbrev Wh.alQ:Type:=Bool×Unit⊕List UInt8×Unit
def Wh.E4 (x:ad5):Option (ad5⊕alQ):=
 let CP:=x.1.1;let Uq:=x.1.2;let CJ:=decide (CP<(↑(List.length Uq):Int));bif CJ then
  let AZ:Int:=(↑(UInt8.toNat (List.getD Uq (Int.toNat CP) (0:UInt8))):Int);let Bt:=bif decide (AZ<97) then true else decide (AZ>122);bif kL [!!decide (AZ<97) || decide (0≤CP),!!decide (AZ<97) || CJ,decide (0≤CP),CJ] then
   bif Bt then
    some (.inr (.inl (false,())))
   else
    some (.inl (((IntKind.wrap .i64 (CP+1)),Uq),()))
  else none
 else
  some (.inr (.inr (Uq,())))
def Wh.ad6:Bool×Unit⊕List UInt8×Unit:=.inl default
def Wh.DJ (xs:List UInt8):Option (Bool×Unit):=
 let Bf:=xs;ia E4 ad6 (((0,Bf),())) fun q_=>
  sumC q_ (fun Qq=>
   let mb:=Qq.1;some (mb,())) (fun z_19=>
   let apV:=z_19.1;dj g7 ((↑(List.length apV):Int),1,6) fun r_22=>
    some (r_22.1,()))
def Wh.Eg (xs:eL.D):Option (Bool×Unit):=
 let w_0:=xs;b8 (zog g7 (w_0.2.1,0,99999)) fun r_1=>
 b8 (zog g7 (w_0.2.2.1,1,99999)) fun r_2=>
 b8 (zog g7 (w_0.2.2.2.1,0,99999)) fun ic=>
 b8 (zog g7 (w_0.2.2.2.2.1,0,99999)) fun Be=>
 let CJ:=bif bif bif bif !r_1.1 then true else !r_2.1 then true else !ic.1 then true else !Be.1 then true else decide ((↑(List.length (w_0.2.2.2.2.2.2.1)):Int)>80);bif kL [(!!bif bif !r_1.1 then true else !r_2.1 then true else !ic.1) || qu (g7 (w_0.2.2.2.2.1,0,99999)),(!!bif !r_1.1 then true else !r_2.1) || qu (g7 (w_0.2.2.2.1,0,99999)),!!!r_1.1 || qu (g7 (w_0.2.2.1,1,99999)),qu (g7 (w_0.2.1,0,99999))] then
  bif CJ then
   some (false,())
  else
   let AZ:=w_0.1==1;b8 (zog DJ (w_0.2.2.2.2.2.1)) fun Dv=>
   let se:=bif bif AZ then !Dv.1 else false then true else bif !AZ then !w_0.2.2.2.2.2.1 == [] else false;bif kL [!AZ || qu (DJ (w_0.2.2.2.2.2.1))] then
    bif se then
     some (false,())
    else
     bif AZ then
      bif AZ then
       let xe:=bif(w_0.2.2.2.2.1==0) then w_0.2.2.2.2.2.2.1 == [] else false;some (xe,())
      else
       bif(w_0.1==2) then
        let I7:=bif bif decide (w_0.2.2.2.1>0) then w_0.2.2.2.2.1==0 else false then !w_0.2.2.2.2.2.2.1 == [] else false;some (I7,())
       else
        bif(w_0.1==3) then
         let CK:=bif decide (w_0.2.2.2.1>0) then !w_0.2.2.2.2.2.2.1 == [] else false;some (CK,())
        else
         let B4:=w_0.1==4;bif B4 then
          bif B4 then
           let Cg:=bif decide (w_0.2.2.2.1>0) then w_0.2.2.2.2.2.2.1 == [] else false;some (Cg,())
          else
           some (false,())
         else
          bif(w_0.1==5) then
           let EM:=bif decide (w_0.2.2.2.1>0) then w_0.2.2.2.2.2.2.1 == [] else false;some (EM,())
          else
           some (false,())
     else
      bif(w_0.1==6) then
       let L_:=bif(w_0.2.2.2.2.1==0) then w_0.2.2.2.2.2.2.1 == [] else false;some (L_,())
      else
       bif(w_0.1==2) then
        let v_47:=bif bif decide (w_0.2.2.2.1>0) then w_0.2.2.2.2.1==0 else false then !w_0.2.2.2.2.2.2.1 == [] else false;some (v_47,())
       else
        bif(w_0.1==3) then
         let B6:=bif decide (w_0.2.2.2.1>0) then !w_0.2.2.2.2.2.2.1 == [] else false;some (B6,())
        else
         let Ux:=w_0.1==4;bif Ux then
          bif Ux then
           let KB:=bif decide (w_0.2.2.2.1>0) then w_0.2.2.2.2.2.2.1 == [] else false;some (KB,())
          else
           some (false,())
         else
          bif(w_0.1==5) then
           let Qh:=bif decide (w_0.2.2.2.1>0) then w_0.2.2.2.2.2.2.1 == [] else false;some (Qh,())
          else
           some (false,())
   else none
 else none
def Wh.q36 (ags:(Int)→Option (((List UInt8))×(Unit)))(T8:(Int)→((List UInt8))×(Unit))(xs:(Int)):Option (((List UInt8))×(Unit)):=
 let Dp:=xs;bif decide (Dp < -9223372036854775807) then
  some ([(45:UInt8),(57:UInt8),(50:UInt8),(50:UInt8),(51:UInt8),(51:UInt8),(55:UInt8),(50:UInt8),(48:UInt8),(51:UInt8),(54:UInt8),(56:UInt8),(53:UInt8),(52:UInt8),(55:UInt8),(55:UInt8),(53:UInt8),(56:UInt8),(48:UInt8),(56:UInt8)],())
 else
  bif decide (Dp<0) then
   let AK:=IntKind.wrap .i64 (0-Dp);let AO:=T8 AK;let FX:List UInt8:=[(45:UInt8)]++AO.1;bif kL [decide ((1:Nat)+List.length ((T8 AK).1)≤eV),qu (ags AK)] then
    some (FX,())
   else none
  else
   bif decide (Dp<10) then
    let X1:List Int:=[IntKind.wrap .u8 (IntKind.wrap .i64 (48+Dp))];some (tv X1,())
   else
    let X2:List Int:=[IntKind.wrap .u8 (IntKind.wrap .i64 (48+Int.tmod Dp 10))];let BP:=IntKind.wrap .i64 (Int.tdiv Dp 10);let CF:=T8 BP;let x3:=CF.1++tv X2;bif kL [decide (List.length ((T8 BP).1)+(1:Nat)≤eV),true,qu (ags BP),true] then
     some (x3,())
    else none
def Wh.E3:Nat→(Int)→Option (((List UInt8))×(Unit))
 |0,_=>none
 |n+1,xs=>q36 (E3 n) (fun x=>match E3 n x with | some y=>y|none=>default) xs
def Wh.Yk (n:Nat):E3 (n+1)=q36 (E3 n) (fun x=>match E3 n x with | some y=>y|none=>default):=rfl
def Wh.Ar (xs:Int):Option (List UInt8×Unit):=E3 20 xs
def Wh.Ly (xs:eL.D):Option (List UInt8×Unit):=
 let w_0:=xs;b8 (zog Ar w_0.1) fun r_1=>
 b8 (zog Ar w_0.2.1) fun r_3=>
 b8 (zog Ar (w_0.2.2.1)) fun n_=>
 b8 (zog Ar (w_0.2.2.2.1)) fun xd=>
 b8 (zog Ar (w_0.2.2.2.2.1)) fun BE=>
 let s5:=r_1.1 ++ [(32:UInt8)]++r_3.1 ++ [(32:UInt8)]++n_.1 ++ [(32:UInt8)]++xd.1 ++ [(32:UInt8)]++BE.1 ++ [(32:UInt8)]++w_0.2.2.2.2.2.1 ++ [(58:UInt8)]++w_0.2.2.2.2.2.2.1;bif kL [decide (List.length (r_1.1 ++ [(32:UInt8)]++r_3.1 ++ [(32:UInt8)]++n_.1 ++ [(32:UInt8)]++xd.1 ++ [(32:UInt8)]++BE.1 ++ [(32:UInt8)]++w_0.2.2.2.2.2.1 ++ [(58:UInt8)])+List.length (w_0.2.2.2.2.2.2.1)≤eV),decide (List.length (r_1.1 ++ [(32:UInt8)]++r_3.1 ++ [(32:UInt8)]++n_.1 ++ [(32:UInt8)]++xd.1 ++ [(32:UInt8)]++BE.1 ++ [(32:UInt8)]++w_0.2.2.2.2.2.1)+(1:Nat)≤eV),decide (List.length (r_1.1 ++ [(32:UInt8)]++r_3.1 ++ [(32:UInt8)]++n_.1 ++ [(32:UInt8)]++xd.1 ++ [(32:UInt8)]++BE.1 ++ [(32:UInt8)])+List.length (w_0.2.2.2.2.2.1)≤eV),decide (List.length (r_1.1 ++ [(32:UInt8)]++r_3.1 ++ [(32:UInt8)]++n_.1 ++ [(32:UInt8)]++xd.1 ++ [(32:UInt8)]++BE.1)+(1:Nat)≤eV),decide (List.length (r_1.1 ++ [(32:UInt8)]++r_3.1 ++ [(32:UInt8)]++n_.1 ++ [(32:UInt8)]++xd.1 ++ [(32:UInt8)])+List.length BE.1≤eV),qu (Ar (w_0.2.2.2.2.1)),decide (List.length (r_1.1 ++ [(32:UInt8)]++r_3.1 ++ [(32:UInt8)]++n_.1 ++ [(32:UInt8)]++xd.1)+(1:Nat)≤eV),decide (List.length (r_1.1 ++ [(32:UInt8)]++r_3.1 ++ [(32:UInt8)]++n_.1 ++ [(32:UInt8)])+List.length xd.1≤eV),qu (Ar (w_0.2.2.2.1)),decide (List.length (r_1.1 ++ [(32:UInt8)]++r_3.1 ++ [(32:UInt8)]++n_.1)+(1:Nat)≤eV),decide (List.length (r_1.1 ++ [(32:UInt8)]++r_3.1 ++ [(32:UInt8)])+List.length n_.1≤eV),qu (Ar (w_0.2.2.1)),decide (List.length (r_1.1 ++ [(32:UInt8)]++r_3.1)+(1:Nat)≤eV),decide (List.length (r_1.1 ++ [(32:UInt8)])+List.length r_3.1≤eV),qu (Ar w_0.2.1),decide (List.length r_1.1+(1:Nat)≤eV),qu (Ar w_0.1)] then
  some (s5,())
 else none
abbrev Wh.afd:Type:=List UInt8×Unit
abbrev Wh.amp:Type:=List UInt8×Unit
def Wh.Nd (x:afd):Option (afd⊕amp):=
 let Ua:=x.1;bif decide ((↑(List.length Ua):Int)<7) then
  let GH:List UInt8:=[(48:UInt8)]++Ua;bif kL [decide ((1:Nat)+List.length Ua≤eV)] then
   some (.inl (GH,()))
  else none
 else
  some (.inr (Ua,()))
def Wh.afe:List UInt8×Unit:=default
abbrev Wh.afb:Type:=(Int×List UInt8×Int)×Unit
abbrev Wh.amo:Type:=Int×Unit
def Wh.PG (x:afb):Option (afb⊕amo):=
 let CB:=x.1.1;let YM:=x.1.2.1;let n_14:=x.1.2.2;let Bt:=decide (CB<(↑(List.length YM):Int));bif Bt then
  let AQ:Int:=(↑(UInt8.toNat (List.getD YM (Int.toNat CB) (0:UInt8))):Int);bif kL [true,decide (0≤CB),Bt] then
   some (.inl (((IntKind.wrap .i64 (CB+1)),YM,(Int.tmod (IntKind.wrap .i64 (IntKind.wrap .i64 ((IntKind.wrap .i64 (n_14*31))+IntKind.wrap .i64 AQ)+7)) 1000003)),()))
  else none
 else
  some (.inr (n_14,()))
def Wh.afc:Int×Unit:=default
def Wh.Kd (xs:List UInt8):Option (List UInt8×Unit):=
 let Bf:=xs;ia PG afc (((0,Bf,1),())) fun y_24=>
  let n_25:=y_24.1;dj Ar n_25 fun IY=>
   ia Nd afe ((IY.1,())) fun Mi=>
    let s_35:=Mi.1;some (s_35,())
def Wh.Hs (xs:eL.D):Option (List UInt8×Unit):=
 let w_0:=xs;dj Eg w_0 fun r_1=>
  bif !r_1.1 then
   some ([],())
  else
   dj Ly w_0 fun r_2=>
    b8 (zog Kd r_2.1) fun r_3=>
    let oc:=r_3.1++r_2.1;bif kL [decide (List.length r_3.1+List.length r_2.1≤eV),qu (Kd r_2.1)] then
     some (oc,())
    else none
def Wh.q63 (xs:List UInt8):Option ((eL.D×Bool)×Unit):=
 let Bf:=xs;dj Co (Bf,7,58) fun r_1=>
  let AK:=bif decide (r_1.1<0) then true else decide ((↑(List.length Bf):Int)>160);bif AK then
   some (((0,0,0,0,0,[],[],()),false),())
  else
   b8 (zog Dt (List.take (Int.toNat (r_1.1-7)) (List.drop (Int.toNat 7) Bf),32)) fun e_=>
   let oc:List UInt8:=List.take (Int.toNat (r_1.1-7)) (List.drop (Int.toNat 7) Bf);bif kL [qu (Dt (oc,32)),true,decide (7≤r_1.1),decide (r_1.1≤(↑(List.length Bf):Int))] then
    let n4:Int:=(↑(List.length e_.1):Int);let nP:=n4 != 6;bif nP then
     some (((0,0,0,0,0,[],[],()),false),())
    else
     let Ln:List UInt8:=List.take (Int.toNat ((↑(List.length Bf):Int)-IntKind.wrap .i64 (r_1.1+1))) (List.drop (Int.toNat (IntKind.wrap .i64 (r_1.1+1))) Bf);let JI:=List.getD e_.1 (Int.toNat 5) [];b8 (zog As (List.getD e_.1 (Int.toNat 4) [])) fun A3=>
     b8 (zog As (List.getD e_.1 (Int.toNat 3) [])) fun Cf=>
     b8 (zog As (List.getD e_.1 (Int.toNat 2) [])) fun BE=>
     b8 (zog As (List.getD e_.1 (Int.toNat 1) [])) fun Dv=>
     b8 (zog As (List.getD e_.1 (Int.toNat 0) [])) fun BZ=>
     let Bt:=List.getD e_.1 (Int.toNat 0) [];let se:=List.getD e_.1 (Int.toNat 1) [];let AQ:=List.getD e_.1 (Int.toNat 2) [];let s5:=List.getD e_.1 (Int.toNat 3) [];let xe:=List.getD e_.1 (Int.toNat 4) [];let mb:=IntKind.wrap .i64 (r_1.1+1);bif kL [decide (0≤mb),decide (mb≤(↑(List.length Bf):Int)),decide ((↑(List.length Bf):Int)≤(↑(List.length Bf):Int)),true,decide (5<n4),qu (As xe),true,decide (4<n4),qu (As s5),true,decide (3<n4),qu (As AQ),true,decide (2<n4),qu (As se),true,decide (1<n4),qu (As Bt),true,decide (0<n4)] then
      b8 (zog Eg (BZ.1,Dv.1,BE.1,Cf.1,A3.1,JI,Ln,())) fun D0=>
      b8 (zog Hs (BZ.1,Dv.1,BE.1,Cf.1,A3.1,JI,Ln,())) fun r_22=>
      let r_:=bif !D0.1 then true else !r_22.1==Bf;bif kL [!!!D0.1 || qu (Hs (BZ.1,Dv.1,BE.1,Cf.1,A3.1,JI,Ln,())),qu (Eg (BZ.1,Dv.1,BE.1,Cf.1,A3.1,JI,Ln,()))] then
       bif r_ then
        some (((0,0,0,0,0,[],[],()),false),())
       else
        some (((BZ.1,Dv.1,BE.1,Cf.1,A3.1,JI,Ln,()),true),())
      else none
     else none
   else none
abbrev Wh.af3:Type:=(Int×Int×Unit)×List Int
abbrev Wh.amO:Type:=Unit×List Int
def Wh.Nj (x:af3):Option (af3⊕amO):=
 let BK:=x.1.1;let n_28:=x.1.2.1;let CR:=x.2;bif decide (BK≥0) then
  let xb:List Int:=[IntKind.wrap .u8 (Int.fdiv n_28 (2 ^ Min.min (Int.toNat (IntKind.wrap .i64 (8*BK))) (Go.IntKind.bits Go.IntKind.i64)))];let AF:=CR++xb;bif kL [decide (List.length CR+(1:Nat)≤eV),decide (0≤(IntKind.wrap .i64 (8*BK)))] then
   some (.inl (((IntKind.wrap .i64 (BK-1)),n_28,()),AF))
  else none
 else
  some (.inr ((),CR))
def Wh.af4:Unit×List Int:=default
abbrev Wh.af1:Type:=(Unit×List UInt8)×List Int
abbrev Wh.amN:Type:=(Unit×List UInt8)×List Int
def Wh.LX (x:af1):Option (af1⊕amN):=
 let ag4:=x.1.2;let JE:=x.2;let Cy:Bool:=(Int.tmod (↑(List.length JE):Int) 64) != 56;bif Cy then
  let O2:=JE ++ [(0:Int)];bif kL [decide (List.length JE+(1:Nat)≤eV)] then
   some (.inl (((),ag4),O2))
  else none
 else
  some (.inr (((),ag4),JE))
def Wh.af2:(Unit×List UInt8)×List Int:=default
def Wh.q77 (xs:List UInt8):Option (List Int×Unit):=
 let Bf:=xs;let EZ:List Int:=bytesOf Bf ++ [(128:Int)];bif kL [decide (List.length (bytesOf Bf)+(1:Nat)≤eV),decide (List.length Bf≤eV)] then
  ia LX af2 ((((),Bf),EZ)) fun y_13=>
   let apU:=y_13.1.2;let wh:=y_13.2;ia Nj af4 (((7,(IntKind.wrap .i64 ((↑(List.length apU):Int)*8)),()),wh)) fun y_38=>
    let AR:=y_38.2;some (AR,())
 else none
def Wh.wv (xs:Int×Int):Option (Int×Unit):=
 let x_0:=xs.1;let n_1:=xs.2;let v_2:Int:=Int.fdiv x_0 (2 ^ Min.min (Int.toNat n_1) (Go.IntKind.bits Go.IntKind.u32));let AK:=IntKind.wrap .i64 (32-n_1);let n4:Int:=pZ Go.BinOp.or Go.IntKind.u32 v_2 (IntKind.wrap .u32 (x_0*2 ^ Min.min (Int.toNat AK) (Go.IntKind.bits Go.IntKind.u32)));bif kL [decide (0≤AK),decide (0≤n_1)] then
  some (n4,())
 else none
abbrev Wh.adT:Type:=(Int×Unit)×List Int
abbrev Wh.alK:Type:=Unit×List Int
def Wh.M_ (x:adT):Option (adT⊕alK):=
 let Ju:=x.1.1;let Eb:=x.2;bif decide (Ju<64) then
  let v_96:=IntKind.wrap .i64 (Ju-15);let Qn:=List.getD Eb (Int.toNat v_96) 0;bif kL [decide (0≤v_96),decide (v_96<(↑(List.length Eb):Int))] then
   let v_99:=IntKind.wrap .i64 (Ju-2);let Qo:=List.getD Eb (Int.toNat v_99) 0;bif kL [decide (0≤v_99),decide (v_99<(↑(List.length Eb):Int))] then
    b8 (zog wv (Qn,7)) fun r_102=>
    b8 (zog wv (Qn,18)) fun r_103=>
    let v_105:Int:=Int.fdiv Qn (2 ^ Min.min (Int.toNat 3) (Go.IntKind.bits Go.IntKind.u32));let a_107:Int:=pZ Go.BinOp.xor Go.IntKind.u32 (pZ Go.BinOp.xor Go.IntKind.u32 r_102.1 r_103.1) v_105;bif kL [true,qu (wv (Qn,18)),qu (wv (Qn,7))] then
     b8 (zog wv (Qo,17)) fun r_108=>
     b8 (zog wv (Qo,19)) fun r_109=>
     let v_111:Int:=Int.fdiv Qo (2 ^ Min.min (Int.toNat 10) (Go.IntKind.bits Go.IntKind.u32));let c_113:Int:=pZ Go.BinOp.xor Go.IntKind.u32 (pZ Go.BinOp.xor Go.IntKind.u32 r_108.1 r_109.1) v_111;bif kL [true,qu (wv (Qo,19)),qu (wv (Qo,17))] then
      let pb_114:List Int:=[IntKind.wrap .u32 (IntKind.wrap .u32 (IntKind.wrap .u32 (List.getD Eb (Int.toNat (IntKind.wrap .i64 (Ju-16))) 0+a_107)+List.getD Eb (Int.toNat (IntKind.wrap .i64 (Ju-7))) 0)+c_113)];let F9:=Eb++pb_114;let v_116:=IntKind.wrap .i64 (Ju-16);let v_119:=IntKind.wrap .i64 (Ju-7);bif kL [decide (List.length Eb+(1:Nat)≤eV),decide (0≤v_119),decide (v_119<(↑(List.length Eb):Int)),decide (0≤v_116),decide (v_116<(↑(List.length Eb):Int))] then
       some (.inl (((IntKind.wrap .i64 (Ju+1)),()),F9))
      else none
     else none
    else none
   else none
  else none
 else
  some (.inr ((),Eb))
def Wh.adU:Unit×List Int:=default
abbrev Wh.adR:Type:=(Int×List Int×Unit)×List Int
abbrev Wh.alJ:Type:=Unit×List Int
def Wh.M9 (x:adR):Option (adR⊕alJ):=
 let K4:=x.1.1;let HS:=x.1.2.1;let AF:=x.2;bif decide (K4<16) then
  let Tu:List Int:=[pZ Go.BinOp.or Go.IntKind.u32 (pZ Go.BinOp.or Go.IntKind.u32 (pZ Go.BinOp.or Go.IntKind.u32 (IntKind.wrap .u32 (IntKind.wrap .u32 (List.getD HS (Int.toNat (IntKind.wrap .i64 (4*K4))) 0)*2 ^ Min.min (Int.toNat 24) (Go.IntKind.bits Go.IntKind.u32))) (IntKind.wrap .u32 (IntKind.wrap .u32 (List.getD HS (Int.toNat (IntKind.wrap .i64 (IntKind.wrap .i64 (4*K4)+1))) 0)*2 ^ Min.min (Int.toNat 16) (Go.IntKind.bits Go.IntKind.u32)))) (IntKind.wrap .u32 (IntKind.wrap .u32 (List.getD HS (Int.toNat (IntKind.wrap .i64 (IntKind.wrap .i64 (4*K4)+2))) 0)*2 ^ Min.min (Int.toNat 8) (Go.IntKind.bits Go.IntKind.u32)))) (IntKind.wrap .u32 (List.getD HS (Int.toNat (IntKind.wrap .i64 (IntKind.wrap .i64 (4*K4)+3))) 0))];let ng:=AF++Tu;let C3:=IntKind.wrap .i64 (4*K4);bif kL [decide (List.length AF+(1:Nat)≤eV),decide (0≤IntKind.wrap .i64 (C3+3)),decide (IntKind.wrap .i64 (C3+3)<(↑(List.length HS):Int)),true,decide (0≤IntKind.wrap .i64 (C3+2)),decide (IntKind.wrap .i64 (C3+2)<(↑(List.length HS):Int)),true,decide (0≤IntKind.wrap .i64 (C3+1)),decide (IntKind.wrap .i64 (C3+1)<(↑(List.length HS):Int)),true,decide (0≤C3),decide (C3<(↑(List.length HS):Int))] then
   some (.inl (((IntKind.wrap .i64 (K4+1)),HS,()),ng))
  else none
 else
  some (.inr ((),AF))
def Wh.adS:Unit×List Int:=default
def Wh.Lw (xs:List Int):Option (List Int×Unit):=
 let BH:=xs;ia M9 adS (((0,BH,()),[])) fun y_60=>
  let BL:=y_60.2;ia M_ adU (((16,()),BL)) fun y_125=>
   let G3:=y_125.2;some (G3,())
def Wh.q76 (_:Unit):Option (((List (Int)))×(Unit)):=
 let pb_0:List Int:=[(1116352408:Int),1899447441,3049323471,3921009573,961987163,1508970993,2453635748,2870763221,3624381080,310598401,607225278,1426881987,1925078388,2162078206,2614888103,3248222580,3835390401,4022224774,264347078,604807628,770255983,1249150122,1555081692,1996064986,2554220882,2821834349,2952996808,3210313671,3336571891,3584528711,113926993,338241895,666307205,773529912,1294757372,1396182291,1695183700,1986661051,2177026350,2456956037,2730485921,2820302411,3259730800,3345764771,3516065817,3600352804,4094571909,275423344,430227734,506948616,659060556,883997877,958139571,1322822218,1537002063,1747873779,1955562222,2024104815,2227730452,2361852424,2428436474,2756734187,3204031479,3329325298];some (pb_0,())
abbrev Wh.adP:Type:=(Int×Unit×List Int×Unit)×List Int×List Int
abbrev Wh.alI:Type:=Unit×List Int
def Wh.TG (x:adP):Option (adP⊕alI):=
 let Jp:=x.1.1;let Xa:=x.1.2.2.1;let Gc:=x.2.1;let Gd:=x.2.2;bif decide (Jp<8) then
  let pb_193:List Int:=[IntKind.wrap .u32 (List.getD Xa (Int.toNat Jp) 0+List.getD Gc (Int.toNat Jp) 0)];let Lc:=Gd++pb_193;bif kL [decide (List.length Gd+(1:Nat)≤eV),decide (0≤Jp),decide (Jp<(↑(List.length Gc):Int)),decide (0≤Jp),decide (Jp<(↑(List.length Xa):Int))] then
   some (.inl (((IntKind.wrap .i64 (Jp+1)),(),Xa,()),Gc,Lc))
  else none
 else
  some (.inr ((),Gd))
def Wh.adQ:Unit×List Int:=default
abbrev Wh.adO:Type:=(Int×Unit×Unit×Unit×List Int×Int×Int×Int×Int)×List Int×List Int×List Int
abbrev Wh.alH:Type:=(Unit×Unit×Unit×List Int×Int×Int×Int×Int)×List Int×List Int×List Int
def Wh.TF (x:adO):Option (adO⊕alH):=
 let M0:=x.1.1;let h_73:=x.1.2.2.2.2.1;let i_74:=x.1.2.2.2.2.2.1;let acU:=x.1.2.2.2.2.2.2.1;let a_76:=x.1.2.2.2.2.2.2.2.1;let t_77:=x.1.2.2.2.2.2.2.2.2;let Ez:=x.2.1;let EX:=x.2.2.1;let Ea:=x.2.2.2;bif decide (M0>0) then
  let CU:=List.set Ez (Int.toNat M0) (List.getD Ez (Int.toNat (IntKind.wrap .i64 (M0-1))) 0);let Jd:=IntKind.wrap .i64 (M0-1);bif kL [decide (0≤M0),decide (M0<(↑(List.length Ez):Int)),decide (0≤Jd),decide (Jd<(↑(List.length Ez):Int))] then
   some (.inl ((Jd,(),(),(),h_73,i_74,acU,a_76,t_77),CU,EX,Ea))
  else none
 else
  some (.inr (((),(),(),h_73,i_74,acU,a_76,t_77),Ez,EX,Ea))
def Wh.Yj:(Unit×Unit×Unit×List Int×Int×Int×Int×Int)×List Int×List Int×List Int:=default
abbrev Wh.adM:Type:=(Unit×Int×Unit×Unit×List Int)×List Int×List Int×List Int
abbrev Wh.alG:Type:=(Unit×List Int)×List Int
def Wh.M8 (x:adM):Option (adM⊕alG):=
 let Jo:=x.1.2.1;let h_103:=x.1.2.2.2.2;let AA:=x.2.1;let Eu:=x.2.2.1;let Ev:=x.2.2.2;bif decide (Jo<64) then
  let Kz:=List.getD AA (Int.toNat 4) 0;b8 (zog wv (Kz,6)) fun r_119=>
  b8 (zog wv (Kz,11)) fun IW=>
  b8 (zog wv (Kz,25)) fun r_121=>
  let e_122:Int:=pZ Go.BinOp.xor Go.IntKind.u32 (pZ Go.BinOp.xor Go.IntKind.u32 r_119.1 IW.1) r_121.1;bif kL [qu (wv (Kz,25)),true,decide (4<(↑(List.length AA):Int)),qu (wv (Kz,11)),true,decide (4<(↑(List.length AA):Int)),qu (wv (Kz,6)),true,decide (4<(↑(List.length AA):Int))] then
   let v_123:=List.getD AA (Int.toNat 5) 0;let v_124:=List.getD AA (Int.toNat 6) 0;let ch_127:Int:=pZ Go.BinOp.xor Go.IntKind.u32 (pZ Go.BinOp.and Go.IntKind.u32 Kz v_123) (pZ Go.BinOp.and Go.IntKind.u32 (pZ Go.BinOp.xor Go.IntKind.u32 (Go.IntKind.max Go.IntKind.u32) Kz) v_124);bif kL [true,decide (6<(↑(List.length AA):Int)),true,decide (4<(↑(List.length AA):Int)),true,decide (5<(↑(List.length AA):Int)),true,decide (4<(↑(List.length AA):Int))] then
    let Us:=List.getD AA (Int.toNat 7) 0;let v_131:=List.getD Ev (Int.toNat Jo) 0;let YP:=List.getD Eu (Int.toNat Jo) 0;bif kL [decide (0≤Jo),decide (Jo<(↑(List.length Eu):Int)),decide (0≤Jo),decide (Jo<(↑(List.length Ev):Int)),true,decide (7<(↑(List.length AA):Int))] then
     let HF:=List.getD AA (Int.toNat 0) 0;b8 (zog wv (HF,2)) fun r_147=>
     b8 (zog wv (HF,13)) fun r_148=>
     b8 (zog wv (HF,22)) fun r_149=>
     let a_150:Int:=pZ Go.BinOp.xor Go.IntKind.u32 (pZ Go.BinOp.xor Go.IntKind.u32 r_147.1 r_148.1) r_149.1;bif kL [qu (wv (HF,22)),true,decide (0<(↑(List.length AA):Int)),qu (wv (HF,13)),true,decide (0<(↑(List.length AA):Int)),qu (wv (HF,2)),true,decide (0<(↑(List.length AA):Int))] then
      let v_151:=List.getD AA (Int.toNat 1) 0;let v_152:=List.getD AA (Int.toNat 2) 0;let ajx:Int:=pZ Go.BinOp.xor Go.IntKind.u32 (pZ Go.BinOp.xor Go.IntKind.u32 (pZ Go.BinOp.and Go.IntKind.u32 HF v_151) (pZ Go.BinOp.and Go.IntKind.u32 HF v_152)) (pZ Go.BinOp.and Go.IntKind.u32 v_151 v_152);bif kL [true,decide (2<(↑(List.length AA):Int)),true,decide (1<(↑(List.length AA):Int)),true,decide (2<(↑(List.length AA):Int)),true,decide (0<(↑(List.length AA):Int)),true,decide (1<(↑(List.length AA):Int)),true,decide (0<(↑(List.length AA):Int))] then
       ia TF Yj (((7,(),(),(),h_103,Jo,ajx,a_150,(IntKind.wrap .u32 (IntKind.wrap .u32 (IntKind.wrap .u32 (IntKind.wrap .u32 (Us+e_122)+ch_127)+v_131)+YP))),AA,Eu,Ev)) fun KF=>
        let h_158:=KF.1.2.2.2.1;let i_159:=KF.1.2.2.2.2.1;let ajy:=KF.1.2.2.2.2.2.1;let a_161:=KF.1.2.2.2.2.2.2.1;let t_162:=KF.1.2.2.2.2.2.2.2;let MW:=KF.2.1;let XC:=KF.2.2.1;let XD:=KF.2.2.2;let abI:=List.set MW (Int.toNat 4) (IntKind.wrap .u32 (List.getD MW (Int.toNat 4) 0+t_162));bif kL [true,decide (4<(↑(List.length MW):Int)),true,decide (4<(↑(List.length MW):Int))] then
         let ls_169:=List.set abI (Int.toNat 0) (IntKind.wrap .u32 (IntKind.wrap .u32 (t_162+a_161)+ajy));bif kL [true,decide (0<(↑(List.length abI):Int))] then
          some (.inl (((),(IntKind.wrap .i64 (i_159+1)),(),(),h_158),ls_169,XC,XD))
         else none
        else none
      else none
     else none
    else none
   else none
  else none
 else
  some (.inr (((),h_103),AA))
def Wh.adN:(Unit×List Int)×List Int:=default
def Wh.JT (xs:List Int×List Int):Option (List Int×Unit):=
 let h_0:=xs.1;let b_1:=xs.2;dj Lw b_1 fun r_2=>
  dj q76 () fun r_3=>
   let Px:List Int:=[]++h_0;bif kL [decide ((0:Nat)+List.length h_0≤eV)] then
    ia M8 adN ((((),0,(),(),h_0),Px,r_2.1,r_3.1)) fun y_174=>
     let h_175:=y_174.1.2;let ls_176:=y_174.2;ia TG adQ (((0,(),h_175,()),ls_176,[])) fun y_200=>
      let Ge:=y_200.2;some (Ge,())
   else none
abbrev Wh.aeQ:Type:=(Int×Unit×Unit)×List Int×List Int
abbrev Wh.amd:Type:=Unit×List Int
def Wh.TP (x:aeQ):Option (aeQ⊕amd):=
 let Ep:=x.1.1;let w7:=x.2.1;let ng:=x.2.2;bif decide (Ep<8) then
  let Ya:List Int:=[IntKind.wrap .u8 (Int.fdiv (List.getD w7 (Int.toNat Ep) 0) (2 ^ Min.min (Int.toNat 24) (Go.IntKind.bits Go.IntKind.u32))),IntKind.wrap .u8 (Int.fdiv (List.getD w7 (Int.toNat Ep) 0) (2 ^ Min.min (Int.toNat 16) (Go.IntKind.bits Go.IntKind.u32))),IntKind.wrap .u8 (Int.fdiv (List.getD w7 (Int.toNat Ep) 0) (2 ^ Min.min (Int.toNat 8) (Go.IntKind.bits Go.IntKind.u32))),IntKind.wrap .u8 (List.getD w7 (Int.toNat Ep) 0)];let nE:=ng++Ya;bif kL [decide (List.length ng+(4:Nat)≤eV),decide (0≤Ep),decide (Ep<(↑(List.length w7):Int)),true,decide (0≤Ep),decide (Ep<(↑(List.length w7):Int)),true,decide (0≤Ep),decide (Ep<(↑(List.length w7):Int)),true,decide (0≤Ep),decide (Ep<(↑(List.length w7):Int))] then
   some (.inl (((IntKind.wrap .i64 (Ep+1)),(),()),w7,nE))
  else none
 else
  some (.inr ((),ng))
def Wh.aeR:Unit×List Int:=default
abbrev Wh.aeO:Type:=(Int×Unit×Unit)×List Int×List Int
abbrev Wh.amc:Type:=Unit×List Int
def Wh.LI (x:aeO):Option (aeO⊕amc):=
 let CP:=x.1.1;let Ic:=x.2.1;let O2:=x.2.2;bif decide (CP<(↑(List.length Ic):Int)) then
  b8 (zog JT (O2,List.take (Int.toNat (IntKind.wrap .i64 (CP+64)-CP)) (List.drop (Int.toNat CP) Ic))) fun Dv=>
  let pg:=IntKind.wrap .i64 (CP+64);bif kL [qu (JT (O2,List.take (Int.toNat (pg-CP)) (List.drop (Int.toNat CP) Ic))),decide (0≤CP),decide (CP≤pg),decide (pg≤(↑(List.length Ic):Int))] then
   some (.inl ((pg,(),()),Ic,Dv.1))
  else none
 else
  some (.inr ((),O2))
def Wh.aeP:Unit×List Int:=default
def Wh.J9 (xs:List UInt8):Option (List UInt8×Unit):=
 let Bf:=xs;dj q77 Bf fun r_1=>
  ia LI aeP (((0,(),()),r_1.1,[(1779033703:Int),3144134277,1013904242,2773480762,1359893119,2600822924,528734635,1541459225])) fun y_17=>
   let AE:=y_17.2;ia TP aeR (((0,(),()),AE,[])) fun y_48=>
    let z9:=y_48.2;some (tv z9,())
abbrev Wh.aeM:Type:=(Int×List UInt8×Unit)×List Int
abbrev Wh.amb:Type:=Unit×List Int
def Wh.LH (x:aeM):Option (aeM⊕amb):=
 let BJ:=x.1.1;let D3:=x.1.2.1;let wh:=x.2;let se:=decide (BJ<(↑(List.length D3):Int));bif se then
  let X5:List Int:=[(↑(UInt8.toNat (List.getD [(48:UInt8),(49:UInt8),(50:UInt8),(51:UInt8),(52:UInt8),(53:UInt8),(54:UInt8),(55:UInt8),(56:UInt8),(57:UInt8),(97:UInt8),(98:UInt8),(99:UInt8),(100:UInt8),(101:UInt8),(102:UInt8)] (Int.toNat (IntKind.wrap .u8 (Int.tdiv (↑(UInt8.toNat (List.getD D3 (Int.toNat BJ) (0:UInt8))):Int) 16))) (0:UInt8))):Int),(↑(UInt8.toNat (List.getD [(48:UInt8),(49:UInt8),(50:UInt8),(51:UInt8),(52:UInt8),(53:UInt8),(54:UInt8),(55:UInt8),(56:UInt8),(57:UInt8),(97:UInt8),(98:UInt8),(99:UInt8),(100:UInt8),(101:UInt8),(102:UInt8)] (Int.toNat (Int.tmod (↑(UInt8.toNat (List.getD D3 (Int.toNat BJ) (0:UInt8))):Int) 16)) (0:UInt8))):Int)];let AE:=wh++X5;let xe:Int:=(↑(UInt8.toNat (List.getD D3 (Int.toNat BJ) (0:UInt8))):Int);bif kL [decide (List.length wh+(2:Nat)≤eV),decide (0≤Int.tmod xe 16),decide (Int.tmod xe 16<(↑(16:Nat):Int)),true,decide (0≤BJ),se,decide (0≤IntKind.wrap .u8 (Int.tdiv xe 16)),decide (IntKind.wrap .u8 (Int.tdiv xe 16)<(↑(16:Nat):Int)),true,decide (0≤BJ),se] then
   some (.inl (((IntKind.wrap .i64 (BJ+1)),D3,()),AE))
  else none
 else
  some (.inr ((),wh))
def Wh.aeN:Unit×List Int:=default
def Wh.Hp (xs:List UInt8):Option (List UInt8×Unit):=
 let c9:=xs;ia LH aeN (((0,c9,()),[])) fun KG=>
  let BB:=KG.2;some (tv BB,())
def Wh.q84 (xs:List UInt8):Option (List UInt8×Unit):=
 let Bf:=xs;b8 (zog J9 Bf) fun r_1=>
 b8 (zog Hp r_1.1) fun r_3=>
 bif kL [qu (Hp r_1.1),qu (J9 Bf)] then
  some (r_3.1,())
 else none
def Wh.Hi (xs:Int×List UInt8):Option (List UInt8×Unit):=
 let Dp:=xs.1;let CZ:=xs.2;b8 (zog Ar Dp) fun r_2=>
 b8 (zog Ar (↑(List.length CZ):Int)) fun e_=>
 let K0:=r_2.1 ++ [(32:UInt8)]++e_.1 ++ [(32:UInt8)];bif kL [decide (List.length (r_2.1 ++ [(32:UInt8)]++e_.1)+(1:Nat)≤eV),decide (List.length (r_2.1 ++ [(32:UInt8)])+List.length e_.1≤eV),qu (Ar (↑(List.length CZ):Int)),decide (List.length r_2.1+(1:Nat)≤eV),qu (Ar Dp)] then
  let FX:List UInt8:=K0++CZ;b8 (zog q84 FX) fun CF=>
  let x3:List UInt8:=K0++List.take (Int.toNat ((16:Int)-0)) (List.drop (Int.toNat 0) CF.1) ++ [(32:UInt8)]++CZ ++ [(10:UInt8)];bif kL [decide (List.length (K0++List.take (Int.toNat ((16:Int)-0)) (List.drop (Int.toNat 0) (CF.1)) ++ [(32:UInt8)]++CZ)+(1:Nat)≤eV),decide (List.length (K0++List.take (Int.toNat ((16:Int)-0)) (List.drop (Int.toNat 0) (CF.1)) ++ [(32:UInt8)])+List.length CZ≤eV),decide (List.length (K0++List.take (Int.toNat ((16:Int)-0)) (List.drop (Int.toNat 0) (CF.1)))+(1:Nat)≤eV),decide (List.length K0+List.length (List.take (Int.toNat ((16:Int)-0)) (List.drop (Int.toNat 0) (CF.1)))≤eV),true,true,decide (16≤(↑(List.length (CF.1)):Int)),qu (q84 FX),decide (List.length K0+List.length CZ≤eV)] then
   some (x3,())
  else none
 else none
def Wh.IB (xs:List UInt8×Int×Int):Option ((List UInt8×Int)×Unit):=
 let A6:=xs.1;let C8:=xs.2.1;let XV:=xs.2.2;dj Co (A6,C8,32) fun r_3=>
  let AL:=decide (r_3.1<0);b8 (zog As (List.take (Int.toNat (r_3.1-C8)) (List.drop (Int.toNat C8) A6))) fun ic=>
  let n4:=bif AL then true else ic.1 != XV;bif kL [!!AL || qu (As (List.take (Int.toNat (r_3.1-C8)) (List.drop (Int.toNat C8) A6))),!!AL || decide (0≤C8),!!AL || decide (C8≤r_3.1),!!AL || decide (r_3.1≤(↑(List.length A6):Int))] then
   bif n4 then
    some (([],0),())
   else
    let nP:=IntKind.wrap .i64 (r_3.1+1);dj Co (A6,nP,32) fun xd=>
     bif decide (xd.1<0) then
      some (([],0),())
     else
      b8 (zog As (List.take (Int.toNat (xd.1-nP)) (List.drop (Int.toNat nP) A6))) fun Dv=>
      bif kL [qu (As (List.take (Int.toNat (xd.1-nP)) (List.drop (Int.toNat nP) A6))),decide (0≤nP),decide (nP≤xd.1),decide (xd.1≤(↑(List.length A6):Int))] then
       let pg:=IntKind.wrap .i64 (xd.1+18);b8 (zog g7 (Dv.1,1,500)) fun Fa=>
       let se:=bif !Fa.1 then true else decide (IntKind.wrap .i64 (IntKind.wrap .i64 (pg+Dv.1)+1)>(↑(List.length A6):Int));bif kL [qu (g7 (Dv.1,1,500))] then
        bif se then
         some (([],0),())
        else
         let AQ:=IntKind.wrap .i64 (pg+Dv.1);b8 (zog Hi (XV,List.take (Int.toNat (AQ-pg)) (List.drop (Int.toNat pg) A6))) fun CF=>
         bif kL [qu (Hi (XV,List.take (Int.toNat (AQ-pg)) (List.drop (Int.toNat pg) A6))),decide (0≤pg),decide (pg≤AQ),decide (AQ≤(↑(List.length A6):Int))] then
          bif kL [decide (0≤C8),decide (C8≤IntKind.wrap .i64 (AQ+1)),decide (IntKind.wrap .i64 (AQ+1)≤(↑(List.length A6):Int))] then
           bif(!List.take (Int.toNat (IntKind.wrap .i64 (AQ+1)-C8)) (List.drop (Int.toNat C8) A6)==CF.1) then
            some (([],0),())
           else
            let I7:Int:=(↑(List.length CF.1):Int);let vN:List UInt8:=List.take (Int.toNat (AQ-pg)) (List.drop (Int.toNat pg) A6);bif kL [decide (0≤pg),decide (pg≤AQ),decide (AQ≤(↑(List.length A6):Int))] then
             some ((vN,I7),())
            else none
          else none
         else none
       else none
      else none
  else none
abbrev Wh.aeu:Type:=(Int×Unit×List UInt8)×List (List UInt8)
abbrev Wh.al3:Type:=(Unit×Int)×List (List UInt8)
def Wh.LD (x:aeu):Option (aeu⊕al3):=
 let Wk:=x.1.1;let abx:=x.1.2.2;let BA:=x.2;let mb:Int:=(↑(List.length BA):Int);dj IB (abx,Wk,mb) fun FP=>
  bif(FP.1.2==0) then
   some (.inr (((),Wk),BA))
  else
   let E0:List (List UInt8):=[FP.1.1];let Bk:List (List UInt8):=BA++E0;bif kL [decide (List.length BA+(1:Nat)≤eV)] then
    some (.inl (((IntKind.wrap .i64 (Wk+FP.1.2)),(),abx),Bk))
   else none
def Wh.aev:(Unit×Int)×List (List UInt8):=default
def Wh.E6 (xs:List UInt8):Option ((List (List UInt8)×Int)×Unit):=
 let A6:=xs;ia LD aev (((0,(),A6),[])) fun Mi=>
  let B5:=Mi.1.2;let AN:=Mi.2;some ((AN,B5),())
def Wh.Gv (xs:an.D):Option (Bool×Unit):=
 let t_0:an.D:=xs;b8 (zog g7 (t_0.1,0,1)) fun r_1=>
 b8 (zog DJ t_0.2.1) fun r_2=>
 b8 (zog g7 ((↑(List.length (t_0.2.2.2.1)):Int),1,300)) fun ic=>
 let nP:=bif bif r_1.1 then r_2.1 else false then ic.1 else false;bif kL [(!bif r_1.1 then r_2.1 else false) || qu (g7 ((↑(List.length (t_0.2.2.2.1)):Int),1,300)),!r_1.1 || qu (DJ t_0.2.1),qu (g7 (t_0.1,0,1))] then
  some (nP,())
 else none
def Wh.EH (xs:Int×List UInt8×List UInt8):Option (List UInt8×Unit):=
 let MN:=xs.1;let Ee:=xs.2.1;let NB:=xs.2.2;let AK:=NB == [];bif AK then
  dj Gv (MN,Ee,0,[(120:UInt8)],()) fun e_=>
   bif !e_.1 then
    some ([],())
   else
    b8 (zog Ar MN) fun ic=>
    let Cy:=ic.1 ++ [(32:UInt8)]++Ee ++ [(58:UInt8)]++NB;bif kL [decide (List.length (ic.1 ++ [(32:UInt8)]++Ee ++ [(58:UInt8)])+List.length NB≤eV),decide (List.length (ic.1 ++ [(32:UInt8)]++Ee)+(1:Nat)≤eV),decide (List.length (ic.1 ++ [(32:UInt8)])+List.length Ee≤eV),decide (List.length ic.1+(1:Nat)≤eV),qu (Ar MN)] then
     some (Cy,())
    else none
 else
  dj Gv (MN,Ee,0,NB,()) fun Cf=>
   bif !Cf.1 then
    some ([],())
   else
    b8 (zog Ar MN) fun BE=>
    let AQ:=BE.1 ++ [(32:UInt8)]++Ee ++ [(58:UInt8)]++NB;bif kL [decide (List.length (BE.1 ++ [(32:UInt8)]++Ee ++ [(58:UInt8)])+List.length NB≤eV),decide (List.length (BE.1 ++ [(32:UInt8)]++Ee)+(1:Nat)≤eV),decide (List.length (BE.1 ++ [(32:UInt8)])+List.length Ee≤eV),decide (List.length BE.1+(1:Nat)≤eV),qu (Ar MN)] then
     some (AQ,())
    else none
def Wh.IC (xs:an.D×Int×List UInt8):Option (Bool×Unit):=
 let El:=xs.1;let A0:=xs.2.1;let Da:=xs.2.2;let oc:=bif decide (El.1<A0) then true else bif El.1==A0 then Go.Op.bytesLess El.2.1 Da else false;some (oc,())
abbrev Wh.adX:Type:=(Int×List an.D×Int×Int)×Unit
abbrev Wh.alM:Type:=Int×Unit
def Wh.JU (x:adX):Option (adX⊕alM):=
 let Ax:=x.1.1;let S6:=x.1.2.1;let n_17:=x.1.2.2.1;let Xe:=x.1.2.2.2;let xe:Int:=(↑(List.length S6):Int);bif decide (Ax<xe) then
  let x3:an.D:=List.getD S6 (Int.toNat Ax) (0,[],0,[],());bif kL [decide (0≤Ax),decide (Ax<xe)] then
   bif(x3.1==Xe) then
    bif kL [decide (0≤Ax),decide (Ax<xe)] then
     some (.inl (((IntKind.wrap .i64 (Ax+1)),S6,(IntKind.wrap .i64 (n_17+(↑(List.length (x3.2.2.2.1)):Int))),Xe),()))
    else none
   else
    some (.inl (((IntKind.wrap .i64 (Ax+1)),S6,n_17,Xe),()))
  else none
 else
  some (.inr (n_17,()))
def Wh.adY:Int×Unit:=default
def Wh.Is (xs:List an.D×Int):Option (Int×Unit):=
 let K6:=xs.1;let A0:=xs.2;ia JU adY (((0,K6,0,A0),())) fun C4=>
  let n_30:=C4.1;some (n_30,())
abbrev Wh.aeE:Type:=(Int×Unit)×gh.D
abbrev Wh.al8:Type:=Bool×Unit⊕Unit×Unit
def Wh.Nc (x:aeE):Option (aeE⊕al8):=
 let h_66:=x.1.1;let BD:=x.2;bif decide (h_66<2) then
  dj Is (BD.2.1,h_66) fun r_69=>
   bif decide (r_69.1>500) then
    some (.inr (.inl (false,())))
   else
    some (.inl (((IntKind.wrap .i64 (h_66+1)),()),BD))
 else
  some (.inr (.inr ((),())))
def Wh.aeF:Bool×Unit⊕Unit×Unit:=.inl default
abbrev Wh.aeC:Type:=(Int×Unit×Unit×Int)×an.D×gh.D
abbrev Wh.al7:Type:=Bool×Unit⊕(Unit×Int)×gh.D
def Wh.LG (x:aeC):Option (aeC⊕al7):=
 let OY:=x.1.1;let i_23:=x.1.2.2.2;let Bi:=x.2.1;let A_:=x.2.2;bif decide (OY<i_23) then
  let Dx:an.D:=List.getD A_.2.1 (Int.toNat OY) (0,[],0,[],());bif kL [decide (0≤OY),decide (OY<(↑(List.length A_.2.1):Int))] then
   bif(Dx.2.2.1==Bi.2.2.1) then
    some (.inr (.inl (false,())))
   else
    some (.inl (((IntKind.wrap .i64 (OY+1)),(),(),i_23),Bi,A_))
  else none
 else
  some (.inr (.inr (((),i_23),A_)))
def Wh.aeD:Bool×Unit⊕(Unit×Int)×gh.D:=.inl default
abbrev Wh.aeA:Type:=(Unit×Int)×gh.D
abbrev Wh.al6:Type:=Bool×Unit⊕Unit×gh.D
def Wh.J4 (x:aeA):Option (aeA⊕al6):=
 let Dg:=x.1.2;let nE:=x.2;let EN:Int:=(↑(List.length nE.2.1):Int);bif decide (Dg<EN) then
  let Ir:an.D:=List.getD nE.2.1 (Int.toNat Dg) (0,[],0,[],());bif kL [decide (0≤Dg),decide (Dg<EN)] then
   b8 (zog Gv Ir) fun PR=>
   b8 (zog g7 (Ir.2.2.1,1,nE.1)) fun EK=>
   b8 (zog IC (List.getD nE.2.1 (Int.toNat (IntKind.wrap .i64 (Dg-1))) (0,[],0,[],()),Ir.1,Ir.2.1)) fun PU=>
   let v_47:=bif bif !PR.1 then true else !EK.1 then true else bif decide (Dg>0) then !PU.1 else false;bif kL [!(decide (Dg>0) && !bif !PR.1 then true else !EK.1) || qu (IC (List.getD nE.2.1 (Int.toNat (IntKind.wrap .i64 (Dg-1))) (0,[],0,[],()),Ir.1,Ir.2.1)),!(decide (Dg>0) && !bif !PR.1 then true else !EK.1) || decide (0≤IntKind.wrap .i64 (Dg-1)),!(decide (Dg>0) && !bif !PR.1 then true else !EK.1) || decide (IntKind.wrap .i64 (Dg-1)<EN),!!!PR.1 || qu (g7 (Ir.2.2.1,1,nE.1)),qu (Gv Ir)] then
    bif v_47 then
     some (.inr (.inl (false,())))
    else
     ia LG aeD (((0,(),(),Dg),Ir,nE)) fun q_=>
      sumC q_ (fun NQ=>
       let B6:=NQ.1;some (.inr (.inl (B6,())))) (fun z_50=>
       let i_52:=z_50.1.2;let Az:=z_50.2;some (.inl (((),(IntKind.wrap .i64 (i_52+1))),Az)))
   else none
  else none
 else
  some (.inr (.inr ((),nE)))
def Wh.aeB:Bool×Unit⊕Unit×gh.D:=.inl default
def Wh.Hl (xs:gh.D):Option (Bool×Unit):=
 let cx:gh.D:=xs;b8 (zog g7 (cx.1,0,99999)) fun r_1=>
 let v_2:=bif !r_1.1 then true else decide ((↑(List.length cx.2.1):Int)>8);bif kL [qu (g7 (cx.1,0,99999))] then
  bif v_2 then
   some (false,())
  else
   ia J4 aeB ((((),0),cx)) fun q_=>
    sumC q_ (fun FY=>
     let NH:=FY.1;some (NH,())) (fun z_57=>
     let Cc:=z_57.2;ia Nc aeF (((0,()),Cc)) fun q_=>
      sumC q_ (fun Qs=>
       let UA:=Qs.1;some (UA,())) (fun _=>
       some (true,())))
 else none
abbrev Wh.afj:Type:=(Int×List UInt8×Unit×Int)×gh.D
abbrev Wh.ams:Type:=Int×Unit⊕Unit×Unit
def Wh.Kf (x:afj):Option (afj⊕ams):=
 let z5:=x.1.1;let ac1:=x.1.2.1;let SP:=x.1.2.2.2;let s9:=x.2;let s5:Int:=(↑(List.length s9.2.1):Int);bif decide (z5<s5) then
  let mb:an.D:=List.getD s9.2.1 (Int.toNat z5) (0,[],0,[],());let r_:=bif mb.1==SP then mb.2.1==ac1 else false;bif kL [!mb.1==SP || decide (0≤z5),!mb.1==SP || decide (z5<s5),decide (0≤z5),decide (z5<s5)] then
   bif r_ then
    some (.inr (.inl (z5,())))
   else
    some (.inl (((IntKind.wrap .i64 (z5+1)),ac1,(),SP),s9))
  else none
 else
  some (.inr (.inr ((),())))
def Wh.afk:Int×Unit⊕Unit×Unit:=.inl default
def Wh.FG (xs:gh.D×Int×List UInt8):Option (Int×Unit):=
 let cx:=xs.1;let A0:=xs.2.1;let Da:=xs.2.2;ia Kf afk (((0,Da,(),A0),cx)) fun q_=>
  sumC q_ (fun KG=>
   let v9:=KG.1;some (v9,())) (fun _=>
   some (-1,()))
def Wh.LF (xs:gh.D×Int):Option ((Int×List an.D×Unit)×Unit):=
 let cx:=xs.1;let k_1:=xs.2;let BW:List (an.D):=[]++List.take (Int.toNat (k_1-0)) (List.drop (Int.toNat 0) cx.2.1);let Dq:List (an.D):=BW++List.take (Int.toNat ((↑(List.length cx.2.1):Int)-IntKind.wrap .i64 (k_1+1))) (List.drop (Int.toNat (IntKind.wrap .i64 (k_1+1))) cx.2.1);let AL:List (an.D):=List.take (Int.toNat (k_1-0)) (List.drop (Int.toNat 0) cx.2.1);let oc:=IntKind.wrap .i64 (k_1+1);bif kL [decide (List.length BW+List.length (List.take (Int.toNat ((↑(List.length cx.2.1):Int)-oc)) (List.drop (Int.toNat oc) cx.2.1))≤eV),decide (0≤oc),decide (oc≤(↑(List.length cx.2.1):Int)),decide ((↑(List.length cx.2.1):Int)≤(↑(List.length cx.2.1):Int)),decide ((0:Nat)+List.length AL≤eV),true,decide (0≤k_1),decide (k_1≤(↑(List.length cx.2.1):Int))] then
  some ((cx.1,Dq,()),())
 else none
def Wh.Hv (xs:gh.D×Int×List UInt8):Option (((Int×List an.D×Unit)×Int)×Unit):=
 let cx:=xs.1;let A0:=xs.2.1;let Da:=xs.2.2;dj Hl cx fun r_3=>
  bif !r_3.1 then
   some (((0,[],()),1),())
  else
   dj FG (cx,A0,Da) fun e_=>
    bif decide (e_.1<0) then
     dj Gs cx fun n_=>
      some ((n_.1,3),())
    else
     dj LF (cx,e_.1) fun AO=>
      some ((AO.1,0),())
abbrev Wh.aff:Type:=(Int×Unit×Unit×Unit)×(Int×Unit×Unit)×gh.D×an.D×List an.D
abbrev Wh.amq:Type:=(Unit×Int×Unit×Unit)×(Int×Unit×Unit)×gh.D×an.D×List an.D
def Wh.Ke (x:aff):Option (aff⊕amq):=
 let GV:=x.1.1;let wh:=x.2.1.1;let Ey:=x.2.1.2.2;let s9:=x.2.2.1;let AE:=x.2.2.2.1;let BA:=x.2.2.2.2;let mb:Int:=(↑(List.length s9.2.1):Int);b8 (zog IC (List.getD s9.2.1 (Int.toNat GV) (0,[],0,[],()),AE.1,AE.2.1)) fun GB=>
 let BQ:=bif decide (GV<mb) then GB.1 else false;bif kL [!decide (GV<mb) || qu (IC (List.getD s9.2.1 (Int.toNat GV) (0,[],0,[],()),AE.1,AE.2.1)),!decide (GV<mb) || decide (0≤GV),!decide (GV<mb) || decide (GV<mb)] then
  bif BQ then
   some (.inl (((IntKind.wrap .i64 (GV+1)),(),(),()),(wh,(),Ey),s9,AE,BA))
  else
   some (.inr (((),GV,(),()),(wh,(),Ey),s9,AE,BA))
 else none
def Wh.afg:(Unit×Int×Unit×Unit)×(Int×Unit×Unit)×gh.D×an.D×List an.D:=default
def Wh.LP (xs:gh.D×an.D):Option ((Int×List an.D×Unit)×Unit):=
 let cx:=xs.1;let t_1:=xs.2;ia Ke afg (((0,(),(),()),(0,(),()),cx,t_1,[])) fun Fg=>
  let GX:=Fg.1.2.1;let Bk:=Fg.2.2.1;let AF:=Fg.2.2.2.1;let Tu:=IntKind.wrap .i64 (Bk.1+1);let Pw:List (an.D):=[]++List.take (Int.toNat (GX-0)) (List.drop (Int.toNat 0) Bk.2.1);let pb_36:List (an.D):=[(AF.1,AF.2.1,Tu,AF.2.2.2)];let pb_38:List (an.D):=Pw++pb_36++List.take (Int.toNat ((↑(List.length Bk.2.1):Int)-GX)) (List.drop (Int.toNat GX) Bk.2.1);let EN:List (an.D):=List.take (Int.toNat (GX-0)) (List.drop (Int.toNat 0) Bk.2.1);let FV:List (an.D):=List.take (Int.toNat ((↑(List.length Bk.2.1):Int)-GX)) (List.drop (Int.toNat GX) Bk.2.1);bif kL [decide (List.length (Pw++pb_36)+List.length FV≤eV),decide (0≤GX),decide (GX≤(↑(List.length Bk.2.1):Int)),decide ((↑(List.length Bk.2.1):Int)≤(↑(List.length Bk.2.1):Int)),decide (List.length Pw+(1:Nat)≤eV),decide ((0:Nat)+List.length EN≤eV),true,decide (0≤GX),decide (GX≤(↑(List.length Bk.2.1):Int))] then
   some ((Tu,pb_38,()),())
  else none
def Wh.Fy (xs:gh.D×Int×List UInt8×List UInt8):Option (((Int×List an.D×Unit)×Int)×Unit):=
 let cx:=xs.1;let A0:=xs.2.1;let Da:=xs.2.2.1;let L7:=xs.2.2.2;dj Hl cx fun e_=>
  bif !e_.1 then
   some (((0,[],()),1),())
  else
   dj Gv (A0,Da,0,L7,()) fun ic=>
    bif !ic.1 then
     dj Gs cx fun n_=>
      some ((n_.1,1),())
    else
     dj FG (cx,A0,Da) fun AO=>
      bif decide (AO.1≥0) then
       dj Gs cx fun A3=>
        some ((A3.1,2),())
      else
       let CJ:Int:=(↑(List.length cx.2.1):Int);b8 (zog Is (cx.2.1,A0)) fun IX=>
       let s5:=bif bif decide (CJ≥8) then true else decide (cx.1≥99999) then true else decide (IntKind.wrap .i64 (IX.1+(↑(List.length L7):Int))>500);bif kL [(!!bif decide (CJ≥8) then true else decide (cx.1≥99999)) || qu (Is (cx.2.1,A0))] then
        bif s5 then
         dj Gs cx fun Hz=>
          some ((Hz.1,4),())
        else
         dj LP (cx,A0,Da,0,L7,()) fun CF=>
          some ((CF.1,0),())
       else none
def Wh.FB (xs:gh.D×List UInt8):Option (((Int×List an.D×Unit)×Bool)×Unit):=
 let cx:=xs.1;let s_1:=xs.2;dj Co (s_1,0,58) fun r_2=>
  bif decide (r_2.1<0) then
   some (((0,[],()),false),())
  else
   b8 (zog Dt (List.take (Int.toNat (r_2.1-0)) (List.drop (Int.toNat 0) s_1),32)) fun e_=>
   let oc:List UInt8:=List.take (Int.toNat (r_2.1-0)) (List.drop (Int.toNat 0) s_1);bif kL [qu (Dt (oc,32)),true,decide (0≤r_2.1),decide (r_2.1≤(↑(List.length s_1):Int))] then
    let n4:=IntKind.wrap .i64 (r_2.1+1);let NC:List UInt8:=List.take (Int.toNat ((↑(List.length s_1):Int)-n4)) (List.drop (Int.toNat n4) s_1);bif kL [decide (0≤n4),decide (n4≤(↑(List.length s_1):Int)),decide ((↑(List.length s_1):Int)≤(↑(List.length s_1):Int))] then
     let A4:Int:=(↑(List.length e_.1):Int);b8 (zog As (List.getD e_.1 (Int.toNat 0) [])) fun BE=>
     b8 (zog EH (BE.1,List.getD e_.1 (Int.toNat 1) [],NC)) fun Dv=>
     let pg:=bif A4 != 2 then true else !Dv.1==s_1;bif kL [!!A4 != 2 || qu (EH (BE.1,List.getD e_.1 (Int.toNat 1) [],NC)),!!A4 != 2 || decide ((0:Int)≤1),!!A4 != 2 || decide (1<A4),!!A4 != 2 || qu (As (List.getD e_.1 (Int.toNat 0) [])),!!A4 != 2 || decide ((0:Int)≤0),!!A4 != 2 || decide (0<A4)] then
      bif pg then
       some (((0,[],()),false),())
      else
       let Bt:=NC == [];bif Bt then
        b8 (zog Hv (cx,BE.1,List.getD e_.1 (Int.toNat 1) [])) fun IX=>
        let xe:=List.getD e_.1 (Int.toNat 0) [];let mb:=List.getD e_.1 (Int.toNat 1) [];b8 (zog Hv (cx,BE.1,mb)) fun r_30=>
        bif kL [qu (Hv (cx,BE.1,mb)),true,decide (1<A4),qu (As xe),true,decide (0<A4)] then
         some (((IX.1.1.1,IX.1.1.2.1,IX.1.1.2.2),(r_30.1.2==0)),())
        else none
       else
        b8 (zog Fy (cx,BE.1,List.getD e_.1 (Int.toNat 1) [],NC)) fun CX=>
        let B5:=List.getD e_.1 (Int.toNat 0) [];let C3:=List.getD e_.1 (Int.toNat 1) [];b8 (zog Fy (cx,BE.1,C3,NC)) fun PU=>
        bif kL [qu (Fy (cx,BE.1,C3,NC)),true,decide (1<A4),qu (As B5),true,decide (0<A4)] then
         some (((CX.1.1.1,CX.1.1.2.1,CX.1.1.2.2),(PU.1.2==0)),())
        else none
     else none
    else none
   else none
abbrev Wh.aey:Type:=(Unit×Int×Unit×List (List UInt8))×(Int×Unit×Unit)×(Int×Unit×Unit)×List an.D×List an.D
abbrev Wh.al5:Type:=(Unit×Bool)×(Int×Unit×Unit)×List an.D⊕(Unit×Unit)×(Int×Unit×Unit)×(Int×Unit×Unit)×List an.D×List an.D
def Wh.J3 (x:aey):Option (aey⊕al5):=
 let Ax:=x.1.2.1;let T9:=x.1.2.2.2;let s9:=x.2.1.1;let AE:=x.2.1.2.2;let BA:=x.2.2.1.1;let DH:=x.2.2.1.2.2;let CD:=x.2.2.2.1;let Ay:=x.2.2.2.2;let r_:Int:=(↑(List.length T9):Int);bif decide (Ax<r_) then
  b8 (zog FB ((BA,Ay,DH),List.getD T9 (Int.toNat Ax) [])) fun Dc=>
  let vN:=List.getD T9 (Int.toNat Ax) [];bif kL [qu (FB ((BA,Ay,DH),vN)),decide (0≤Ax),decide (Ax<r_)] then
   bif(!Dc.1.2) then
    some (.inr (.inl (((),false),(0,(),()),[])))
   else
    some (.inl (((),(IntKind.wrap .i64 (Ax+1)),(),T9),(s9,(),AE),(Dc.1.1.1,(),Dc.1.1.2.2),CD,Dc.1.1.2.1))
  else none
 else
  some (.inr (.inr (((),()),(s9,(),AE),(BA,(),DH),CD,Ay)))
def Wh.aez:(Unit×Bool)×(Int×Unit×Unit)×List an.D⊕(Unit×Unit)×(Int×Unit×Unit)×(Int×Unit×Unit)×List an.D×List an.D:=.inl default
def Wh.IF (xs:List (List UInt8)):Option (((Int×List an.D×Unit)×Bool)×Unit):=
 let aoJ:List (List UInt8):=xs;ia J3 aez ((((),0,(),aoJ),(0,(),()),(0,(),()),[],[])) fun q_=>
  sumC q_ (fun NN=>
   let GH:=NN.1.2;let Ba:=NN.2.1.1;let w7:=NN.2.1.2.2;let ng:=NN.2.2;some (((Ba,ng,w7),GH),())) (fun z_31=>
   let nE:=z_31.2.2.1.1;let AR:=z_31.2.2.1.2.2;let AG:=z_31.2.2.2.2;some (((nE,AG,AR),true),()))
def Wh.q99 (xs:b7.D):Option (Bool×Unit):=
 let c9:b7.D:=xs;dj E6 (c9.2.2.1) fun r_1=>
  dj IF r_1.1.1 fun r_2=>
   some (r_2.1.2,())
abbrev Wh.ago:Type:=(Int×Unit×Unit)×gh.D×gh.D
abbrev Wh.am0:Type:=Bool×Unit⊕Unit×Unit
def Wh.Kp (x:ago):Option (ago⊕am0):=
 let BJ:=x.1.1;let Ga:=x.2.1;let wh:=x.2.2;let se:Int:=(↑(List.length wh.2.1):Int);bif decide (BJ<se) then
  let s5:an.D:=List.getD wh.2.1 (Int.toNat BJ) (0,[],0,[],());let xe:an.D:=List.getD Ga.2.1 (Int.toNat BJ) (0,[],0,[],());bif kL [decide (0≤BJ),decide (BJ<(↑(List.length Ga.2.1):Int)),decide (0≤BJ),decide (BJ<se)] then
   bif(!(s5.1==xe.1&&(s5.2.1==xe.2.1&&(s5.2.2.1==xe.2.2.1&&(s5.2.2.2.1==xe.2.2.2.1&&true))))) then
    some (.inr (.inl (false,())))
   else
    some (.inl (((IntKind.wrap .i64 (BJ+1)),(),()),Ga,wh))
  else none
 else
  some (.inr (.inr ((),())))
def Wh.agp:Bool×Unit⊕Unit×Unit:=.inl default
def Wh.Hy (xs:gh.D×gh.D):Option (Bool×Unit):=
 let El:=xs.1;let b_1:=xs.2;let AK:=bif(El.1 != b_1.1) then true else(↑(List.length El.2.1):Int) != (↑(List.length b_1.2.1):Int);bif AK then
  some (false,())
 else
  ia Kp agp (((0,(),()),b_1,El)) fun q_=>
   sumC q_ (fun HH=>
    let I7:=HH.1;some (I7,())) (fun _=>
    some (true,()))
def Wh.II (xs:cg.D):Option (Bool×Unit):=
 let Eo:cg.D:=xs;bif(Eo.2.1==0) then
  some ((Eo.1==0&&(Eo.2.1==0&&(Eo.2.2.1==0&&(Eo.2.2.2.1==0&&(Eo.2.2.2.2.1==false&&true))))),())
 else
  b8 (zog g7 (Eo.1,0,1)) fun r_3=>
  b8 (zog g7 (Eo.2.1,1,99999)) fun e_=>
  b8 (zog g7 (Eo.2.2.1,0,23)) fun AO=>
  b8 (zog g7 (Eo.2.2.2.1,0,99999)) fun A3=>
  let AZ:=bif bif bif r_3.1 then e_.1 else false then AO.1 else false then A3.1 else false;bif kL [(!bif bif r_3.1 then e_.1 else false then AO.1 else false) || qu (g7 (Eo.2.2.2.1,0,99999)),(!bif r_3.1 then e_.1 else false) || qu (g7 (Eo.2.2.1,0,23)),!r_3.1 || qu (g7 (Eo.2.1,1,99999)),qu (g7 (Eo.1,0,1))] then
   some (AZ,())
  else none
abbrev Wh.aeI:Type:=(Int×Int×Int×Unit)×iL.D
abbrev Wh.al_:Type:=Int×Unit
def Wh.J7 (x:aeI):Option (aeI⊕al_):=
 let Ax:=x.1.1;let n_16:=x.1.2.1;let Xd:=x.1.2.2.1;let AE:=x.2;let xe:Int:=(↑(List.length AE.1):Int);bif decide (Ax<xe) then
  let x3:cg.D:=List.getD AE.1 (Int.toNat Ax) (0,0,0,0,false,());let BQ:=bif decide (x3.2.1>0) then x3.1==Xd else false;bif kL [!decide (x3.2.1>0) || decide (0≤Ax),!decide (x3.2.1>0) || decide (Ax<xe),decide (0≤Ax),decide (Ax<xe)] then
   bif BQ then
    some (.inl (((IntKind.wrap .i64 (Ax+1)),(IntKind.wrap .i64 (n_16+1)),Xd,()),AE))
   else
    some (.inl (((IntKind.wrap .i64 (Ax+1)),n_16,Xd,()),AE))
  else none
 else
  some (.inr (n_16,()))
def Wh.aeJ:Int×Unit:=default
def Wh.J6 (xs:iL.D×Int):Option (Int×Unit):=
 let g8:=xs.1;let A0:=xs.2;ia J7 aeJ (((0,0,A0,()),g8)) fun C4=>
  let n_30:=C4.1;some (n_30,())
abbrev Wh.aec:Type:=(Int×Unit)×iL.D
abbrev Wh.alU:Type:=Bool×Unit⊕Unit×Unit
def Wh.Iw (x:aec):Option (aec⊕alU):=
 let h_67:=x.1.1;let Cs:=x.2;bif decide (h_67<2) then
  dj J6 (Cs,h_67) fun r_70=>
   bif decide (r_70.1>5) then
    some (.inr (.inl (false,())))
   else
    some (.inl (((IntKind.wrap .i64 (h_67+1)),()),Cs))
 else
  some (.inr (.inr ((),())))
def Wh.aed:Bool×Unit⊕Unit×Unit:=.inl default
abbrev Wh.aea:Type:=(Int×Unit×Int)×iL.D
abbrev Wh.alT:Type:=Bool×Unit⊕(Unit×Int)×iL.D
def Wh.E5 (x:aea):Option (aea⊕alT):=
 let Fu:=x.1.1;let A9:=x.1.2.2;let BV:=x.2;bif decide (Fu<A9) then
  let v9:cg.D:=List.getD BV.1 (Int.toNat A9) (0,0,0,0,false,());let Cg:=bif bif decide (v9.2.1>0) then v9.2.1==((List.getD BV.1 (Int.toNat Fu) (0,0,0,0,false,())).2).1 else false then v9.2.2.1==(((List.getD BV.1 (Int.toNat Fu) (0,0,0,0,false,())).2).2).1 else false;bif kL [(!bif decide (v9.2.1>0) then v9.2.1==((List.getD BV.1 (Int.toNat Fu) (0,0,0,0,false,())).2).1 else false) || decide (0≤Fu),(!bif decide (v9.2.1>0) then v9.2.1==((List.getD BV.1 (Int.toNat Fu) (0,0,0,0,false,())).2).1 else false) || decide (Fu<(↑(List.length BV.1):Int)),(!bif decide (v9.2.1>0) then v9.2.1==((List.getD BV.1 (Int.toNat Fu) (0,0,0,0,false,())).2).1 else false) || decide (0≤A9),(!bif decide (v9.2.1>0) then v9.2.1==((List.getD BV.1 (Int.toNat Fu) (0,0,0,0,false,())).2).1 else false) || decide (A9<(↑(List.length BV.1):Int)),!decide (v9.2.1>0) || decide (0≤Fu),!decide (v9.2.1>0) || decide (Fu<(↑(List.length BV.1):Int)),!decide (v9.2.1>0) || decide (0≤A9),!decide (v9.2.1>0) || decide (A9<(↑(List.length BV.1):Int)),decide (0≤A9),decide (A9<(↑(List.length BV.1):Int))] then
   bif Cg then
    some (.inr (.inl (false,())))
   else
    some (.inl (((IntKind.wrap .i64 (Fu+1)),(),A9),BV))
  else none
 else
  some (.inr (.inr (((),A9),BV)))
def Wh.aeb:Bool×Unit⊕(Unit×Int)×iL.D:=.inl default
abbrev Wh.ad9:Type:=(Unit×Int)×iL.D
abbrev Wh.alS:Type:=Bool×Unit⊕Unit×iL.D
def Wh.Iv (x:ad9):Option (ad9⊕alS):=
 let OW:=x.1.2;let nI:=x.2;let HG:Int:=(↑(List.length nI.1):Int);bif decide (OW<HG) then
  let Mb:cg.D:=List.getD nI.1 (Int.toNat OW) (0,0,0,0,false,());b8 (zog II Mb) fun r_48=>
  bif kL [qu (II Mb),decide (0≤OW),decide (OW<HG)] then
   bif !r_48.1 then
    some (.inr (.inl (false,())))
   else
    ia E5 aeb (((0,(),OW),nI)) fun q_=>
     sumC q_ (fun y_50=>
      let Ux:=y_50.1;some (.inr (.inl (Ux,())))) (fun z_51=>
      let i_53:=z_51.1.2;let AW:=z_51.2;some (.inl (((),(IntKind.wrap .i64 (i_53+1))),AW)))
  else none
 else
  some (.inr (.inr ((),nI)))
def Wh.ad_:Bool×Unit⊕Unit×iL.D:=.inl default
def Wh.G_ (xs:iL.D):Option (Bool×Unit):=
 let g8:iL.D:=xs;let v_1:Int:=(↑(List.length g8.1):Int);b8 (zog g7 (g8.2.1,0,7)) fun e_=>
 let oc:=bif v_1 != 8 then true else !e_.1;bif kL [!!v_1 != 8 || qu (g7 (g8.2.1,0,7))] then
  bif oc then
   some (false,())
  else
   ia Iv ad_ ((((),0),g8)) fun q_=>
    sumC q_ (fun y_57=>
     let Qh:=y_57.1;some (Qh,())) (fun z_58=>
     let Bb:=z_58.2;ia Iw aed (((0,()),Bb)) fun q_=>
      sumC q_ (fun By=>
       let v_76:=By.1;some (v_76,())) (fun _=>
       some (true,())))
 else none
abbrev Wh.afD:Type:=(Unit×Int×Unit×Int)×an.D×gh.D
abbrev Wh.amB:Type:=(Unit×Bool)×an.D⊕Unit×an.D
def Wh.Ki (x:afD):Option (afD⊕amB):=
 let K3:=x.1.2.1;let aax:=x.1.2.2.2;let S_:=x.2.1;let Ga:=x.2.2;let Bt:Int:=(↑(List.length Ga.2.1):Int);bif decide (K3<Bt) then
  let AQ:an.D:=List.getD Ga.2.1 (Int.toNat K3) (0,[],0,[],());bif kL [decide (0≤K3),decide (K3<Bt)] then
   bif(AQ.2.2.1==aax) then
    bif kL [decide (0≤K3),decide (K3<Bt)] then
     some (.inr (.inl (((),true),AQ)))
    else none
   else
    some (.inl (((),(IntKind.wrap .i64 (K3+1)),(),aax),S_,Ga))
  else none
 else
  some (.inr (.inr ((),S_)))
def Wh.afE:(Unit×Bool)×an.D⊕Unit×an.D:=.inl default
def Wh.FI (xs:gh.D×Int):Option ((an.D×Bool)×Unit):=
 let cx:=xs.1;let OK:=xs.2;ia Ki afE ((((),0,(),OK),(0,[],0,[],()),cx)) fun q_=>
  sumC q_ (fun y_21=>
   let r_:=y_21.1.2;let Bi:=y_21.2;some ((Bi,r_),())) (fun _=>
   some (((0,[],0,[],()),false),()))
abbrev Wh.afx:Type:=(Int×Unit)×b7.D
abbrev Wh.amy:Type:=Bool×Unit⊕Unit×Unit
def Wh.IN (x:afx):Option (afx⊕amy):=
 let BK:=x.1.1;let s_:=x.2;let CK:Int:=(↑(List.length (s_.2.2.2.2.2.2.1)):Int);bif decide (BK<CK) then
  let xb:cp.D:=List.getD (s_.2.2.2.2.2.2.1) (Int.toNat BK) (0,0,0,0,0,0,());bif kL [decide (0≤BK),decide (BK<CK)] then
   b8 (zog g7 (xb.1,0,3)) fun CX=>
   b8 (zog g7 (xb.2.1,1,99999)) fun DL=>
   b8 (zog g7 (xb.2.2.1,1,s_.2.2.2.1.1)) fun IZ=>
   b8 (zog g7 (xb.2.2.2.1,0,9999)) fun Nn=>
   b8 (zog g7 (xb.2.2.2.2.1,0,3)) fun No=>
   b8 (zog g7 (xb.2.2.2.2.2.1,0,s_.2.1)) fun HA=>
   let v_48:=bif bif bif bif bif bif !CX.1 then true else bif decide (BK>0) then decide ((List.getD (s_.2.2.2.2.2.2.1) (Int.toNat (IntKind.wrap .i64 (BK-1))) (0,0,0,0,0,0,())).1≥xb.1) else false then true else !DL.1 then true else !IZ.1 then true else !Nn.1 then true else !No.1 then true else !HA.1;bif kL [(!!bif bif bif bif bif !CX.1 then true else bif decide (BK>0) then decide ((List.getD (s_.2.2.2.2.2.2.1) (Int.toNat (IntKind.wrap .i64 (BK-1))) (0,0,0,0,0,0,())).1≥xb.1) else false then true else !DL.1 then true else !IZ.1 then true else !Nn.1 then true else !No.1) || qu (g7 (xb.2.2.2.2.2.1,0,s_.2.1)),(!!bif bif bif bif !CX.1 then true else bif decide (BK>0) then decide ((List.getD (s_.2.2.2.2.2.2.1) (Int.toNat (IntKind.wrap .i64 (BK-1))) (0,0,0,0,0,0,())).1≥xb.1) else false then true else !DL.1 then true else !IZ.1 then true else !Nn.1) || qu (g7 (xb.2.2.2.2.1,0,3)),(!!bif bif bif !CX.1 then true else bif decide (BK>0) then decide ((List.getD (s_.2.2.2.2.2.2.1) (Int.toNat (IntKind.wrap .i64 (BK-1))) (0,0,0,0,0,0,())).1≥xb.1) else false then true else !DL.1 then true else !IZ.1) || qu (g7 (xb.2.2.2.1,0,9999)),(!!bif bif !CX.1 then true else bif decide (BK>0) then decide ((List.getD (s_.2.2.2.2.2.2.1) (Int.toNat (IntKind.wrap .i64 (BK-1))) (0,0,0,0,0,0,())).1≥xb.1) else false then true else !DL.1) || qu (g7 (xb.2.2.1,1,s_.2.2.2.1.1)),(!!bif !CX.1 then true else bif decide (BK>0) then decide ((List.getD (s_.2.2.2.2.2.2.1) (Int.toNat (IntKind.wrap .i64 (BK-1))) (0,0,0,0,0,0,())).1≥xb.1) else false) || qu (g7 (xb.2.1,1,99999)),!(decide (BK>0) && !!CX.1) || decide (0≤IntKind.wrap .i64 (BK-1)),!(decide (BK>0) && !!CX.1) || decide (IntKind.wrap .i64 (BK-1)<CK),qu (g7 (xb.1,0,3))] then
    bif v_48 then
     some (.inr (.inl (false,())))
    else
     dj FI (s_.2.2.2.1,xb.2.2.1) fun HB=>
      b8 (zog BY xb.1) fun r_50=>
      let B6:=bif HB.1.2 then HB.1.1.1 != r_50.1 else false;bif kL [!HB.1.2 || qu (BY xb.1)] then
       bif B6 then
        some (.inr (.inl (false,())))
       else
        some (.inl (((IntKind.wrap .i64 (BK+1)),()),s_))
      else none
   else none
  else none
 else
  some (.inr (.inr ((),())))
def Wh.afy:Bool×Unit⊕Unit×Unit:=.inl default
def Wh.q45 (xs:b7.D):Option (Bool×Unit):=
 let c9:b7.D:=xs;ia IN afy (((0,()),c9)) fun q_=>
  sumC q_ (fun y_54=>
   let FW:=y_54.1;some (FW,())) (fun _=>
   some (true,()))
def Wh.Bd (xs:gT.D):Option (Int×Unit):=
 let g8:gT.D:=xs;bif kL [g8.2.1 != 0] then
  some ((IntKind.wrap .i64 (Int.tdiv (IntKind.wrap .i64 ((IntKind.wrap .i64 (g8.1+g8.2.1))-1)) g8.2.1)),())
 else none
abbrev Wh.ae8:Type:=(Unit×Unit)×(Int×Int×Unit×Unit×Unit)×(Int×Int×Unit×Unit×Unit)×List Int×List Int×List Int×List Int
abbrev Wh.amm:Type:=(Unit×Unit)×(Int×Int×Unit×Unit×Unit)×(Int×Int×Unit×Unit×Unit)×List Int×List Int×List Int×List Int
def Wh.E8 (x:ae8):Option (ae8⊕amm):=
 let Ga:=x.2.1.1;let wh:=x.2.1.2.1;let Ey:=x.2.1.2.2.2.2;let s9:=x.2.2.1.1;let AE:=x.2.2.1.2.1;let BA:=x.2.2.1.2.2.2.2;let DH:=x.2.2.2.1;let CD:=x.2.2.2.2.1;let Ay:=x.2.2.2.2.2.1;let Cb:=x.2.2.2.2.2.2;dj Bd (Ga,wh,DH,CD,Ey) fun L0=>
  bif decide (L0.1>24) then
   some (.inl (((),()),(Ga,(IntKind.wrap .i64 (wh+1)),(),(),Ey),(s9,AE,(),(),BA),DH,CD,Ay,Cb))
  else
   some (.inr (((),()),(s9,AE,(),(),BA),(Ga,wh,(),(),Ey),Ay,Cb,DH,CD))
def Wh.ae9:(Unit×Unit)×(Int×Int×Unit×Unit×Unit)×(Int×Int×Unit×Unit×Unit)×List Int×List Int×List Int×List Int:=default
def Wh.BX (xs:Int):Option ((Int×Int×List Int×List Int×Unit)×Unit):=
 let S9:=xs;ia E8 ae9 ((((),()),(S9,8,(),(),()),(0,0,(),(),()),[],[],[],[])) fun Mg=>
  let AF:=Mg.2.2.1.1;let Ba:=Mg.2.2.1.2.1;let w7:=Mg.2.2.1.2.2.2.2;let Bl:=Mg.2.2.2.2.2.1;let nE:=Mg.2.2.2.2.2.2;dj Bd (AF,Ba,Bl,nE,w7) fun I1=>
   let OZ:=IntKind.wrap .i64 (Int.tdiv (IntKind.wrap .i64 (I1.1+3)) 4);bif decide (OZ<I1.1) then
    let pb_44:List Int:=[OZ,I1.1];some ((AF,Ba,pb_44,[(2:Int),3],w7),())
   else
    let Yb:List Int:=[I1.1];some ((AF,Ba,Yb,[(1:Int)],w7),())
def Wh.q58 (xs:cw.D):Option (Bool×Unit):=
 let BH:cw.D:=xs;b8 (zog g7 (BH.2.1,0,99999)) fun r_1=>
 b8 (zog g7 (BH.1,0,BH.2.1)) fun r_2=>
 b8 (zog g7 (BH.2.2.1,0,99999)) fun ic=>
 b8 (zog g7 (BH.2.2.2.1,0,99999)) fun Be=>
 let Cy:=bif bif bif r_1.1 then r_2.1 else false then ic.1 else false then Be.1 else false;bif kL [(!bif bif r_1.1 then r_2.1 else false then ic.1 else false) || qu (g7 (BH.2.2.2.1,0,99999)),(!bif r_1.1 then r_2.1 else false) || qu (g7 (BH.2.2.1,0,99999)),!r_1.1 || qu (g7 (BH.1,0,BH.2.1)),qu (g7 (BH.2.1,0,99999))] then
  some (Cy,())
 else none
abbrev Wh.afL:Type:=(Int×Unit)×b7.D
abbrev Wh.amF:Type:=Bool×Unit⊕Unit×Unit
def Wh.Kj (x:afL):Option (afL⊕amF):=
 let h_80:=x.1.1;let G4:=x.2;let NJ:Int:=(↑(List.length (G4.2.2.2.2.2.1)):Int);bif decide (h_80<NJ) then
  let PA:cw.D:=List.getD (G4.2.2.2.2.2.1) (Int.toNat h_80) (0,0,0,0,());bif kL [decide (0≤h_80),decide (h_80<NJ)] then
   b8 (zog q58 PA) fun r_85=>
   let v_90:=bif bif bif !r_85.1 then true else PA.2.1 != 40 then true else PA.2.2.1 != 8 then true else decide (PA.2.2.2.1>G4.2.1);bif kL [qu (q58 PA)] then
    bif v_90 then
     some (.inr (.inl (false,())))
    else
     some (.inl (((IntKind.wrap .i64 (h_80+1)),()),G4))
   else none
  else none
 else
  some (.inr (.inr ((),())))
def Wh.afM:Bool×Unit⊕Unit×Unit:=.inl default
abbrev Wh.afJ:Type:=(Int×Unit)×b7.D
abbrev Wh.amE:Type:=Bool×Unit⊕Unit×b7.D
def Wh.FM (x:afJ):Option (afJ⊕amE):=
 let Er:=x.1.1;let nG:=x.2;let B6:Int:=(↑(List.length (nG.2.2.2.2.1.1)):Int);bif decide (Er<B6) then
  b8 (zog FI (nG.2.2.2.1,((List.getD (nG.2.2.2.2.1.1) (Int.toNat Er) (0,0,0,0,false,())).2).1)) fun B3=>
  let Av:cg.D:=List.getD (nG.2.2.2.2.1.1) (Int.toNat Er) (0,0,0,0,false,());bif kL [qu (FI (nG.2.2.2.1,Av.2.1)),decide (0≤Er),decide (Er<B6)] then
   b8 (zog BX (↑(List.length (B3.1.1.2.2.2.1)):Int)) fun FQ=>
   b8 (zog Bd (FQ.1.1,FQ.1.2.1,bif(!bif !B3.1.2 then true else B3.1.1.1 != Av.1)&&(decide (Av.2.1>0) && !decide (Av.2.2.2.1>0)) then FQ.1.2.2.1 else [],bif(!bif !B3.1.2 then true else B3.1.1.1 != Av.1)&&(decide (Av.2.1>0) && !decide (Av.2.2.2.1>0)) then FQ.1.2.2.2.1 else [],FQ.1.2.2.2.2)) fun r_60=>
   let v_61:=bif decide (Av.2.2.2.1>0) then true else bif decide (Av.2.1>0) then bif bif !B3.1.2 then true else B3.1.1.1 != Av.1 then true else decide (Av.2.2.1≥r_60.1) else false;bif kL [!((!bif !B3.1.2 then true else B3.1.1.1 != Av.1)&&(decide (Av.2.1>0) && !decide (Av.2.2.2.1>0))) || qu (Bd (FQ.1.1,FQ.1.2.1,bif(!bif !B3.1.2 then true else B3.1.1.1 != Av.1)&&(decide (Av.2.1>0) && !decide (Av.2.2.2.1>0)) then FQ.1.2.2.1 else [],bif(!bif !B3.1.2 then true else B3.1.1.1 != Av.1)&&(decide (Av.2.1>0) && !decide (Av.2.2.2.1>0)) then FQ.1.2.2.2.1 else [],FQ.1.2.2.2.2)),!((!bif !B3.1.2 then true else B3.1.1.1 != Av.1)&&(decide (Av.2.1>0) && !decide (Av.2.2.2.1>0))) || qu (BX (↑(List.length (B3.1.1.2.2.2.1)):Int)),!((!bif !B3.1.2 then true else B3.1.1.1 != Av.1)&&(decide (Av.2.1>0) && !decide (Av.2.2.2.1>0))) || decide (0≤Er),!((!bif !B3.1.2 then true else B3.1.1.1 != Av.1)&&(decide (Av.2.1>0) && !decide (Av.2.2.2.1>0))) || decide (Er<B6),!(!!B3.1.2&&(decide (Av.2.1>0) && !decide (Av.2.2.2.1>0))) || decide (0≤Er),!(!!B3.1.2&&(decide (Av.2.1>0) && !decide (Av.2.2.2.1>0))) || decide (Er<B6),!!decide (Av.2.2.2.1>0) || decide (0≤Er),!!decide (Av.2.2.2.1>0) || decide (Er<B6),decide (0≤Er),decide (Er<B6)] then
    bif v_61 then
     some (.inr (.inl (false,())))
    else
     some (.inl (((IntKind.wrap .i64 (Er+1)),()),nG))
   else none
  else none
 else
  some (.inr (.inr ((),nG)))
def Wh.afK:Bool×Unit⊕Unit×b7.D:=.inl default
def Wh.FL (xs:b7.D):Option (Bool×Unit):=
 let c9:b7.D:=xs;b8 (zog g7 (c9.2.1,0,99999)) fun r_1=>
 let v_2:=bif !r_1.1 then true else decide ((↑(List.length (c9.2.2.1)):Int)>9000);bif kL [qu (g7 (c9.2.1,0,99999))] then
  bif v_2 then
   some (false,())
  else
   bif(!c9.1) then
    let AL:Int:=(↑(List.length (c9.2.2.2.1.2.1)):Int);b8 (zog q99 c9) fun Db=>
    let xe:=bif bif bif bif bif bif AL==0 then c9.2.2.2.1.1==0 else false then(↑(List.length (c9.2.2.2.2.1.1)):Int)==0 else false then c9.2.2.2.2.1.2.1==0 else false then(↑(List.length (c9.2.2.2.2.2.1)):Int)==0 else false then(↑(List.length (c9.2.2.2.2.2.2.1)):Int)==0 else false then Db.1 else false;bif kL [(!bif bif bif bif bif AL==0 then c9.2.2.2.1.1==0 else false then(↑(List.length (c9.2.2.2.2.1.1)):Int)==0 else false then c9.2.2.2.2.1.2.1==0 else false then(↑(List.length (c9.2.2.2.2.2.1)):Int)==0 else false then(↑(List.length (c9.2.2.2.2.2.2.1)):Int)==0 else false) || qu (q99 c9)] then
     some (xe,())
    else none
   else
    dj E6 (c9.2.2.1) fun CF=>
     dj IF CF.1.1 fun D0=>
      let nT:= !D0.1.2;b8 (zog Hy (D0.1.1,c9.2.2.2.1)) fun Dc=>
      b8 (zog G_ (c9.2.2.2.2.1)) fun Nm=>
      b8 (zog q45 c9) fun L1=>
      let FU:=bif bif bif bif bif nT then true else CF.1.2 != (↑(List.length (c9.2.2.1)):Int) then true else !Dc.1 then true else !Nm.1 then true else(↑(List.length (c9.2.2.2.2.2.1)):Int) != 2 then true else !L1.1;bif kL [(!!bif bif bif bif nT then true else CF.1.2 != (↑(List.length (c9.2.2.1)):Int) then true else !Dc.1 then true else !Nm.1 then true else(↑(List.length (c9.2.2.2.2.2.1)):Int) != 2) || qu (q45 c9),(!!bif bif nT then true else CF.1.2 != (↑(List.length (c9.2.2.1)):Int) then true else !Dc.1) || qu (G_ (c9.2.2.2.2.1)),(!!bif nT then true else CF.1.2 != (↑(List.length (c9.2.2.1)):Int)) || qu (Hy (D0.1.1,c9.2.2.2.1))] then
       bif FU then
        some (false,())
       else
        ia FM afK (((0,()),c9)) fun q_=>
         sumC q_ (fun FZ=>
          let Uy:=FZ.1;some (Uy,())) (fun z_65=>
          let BD:=z_65.2;ia Kj afM (((0,()),BD)) fun q_=>
           sumC q_ (fun y_93=>
            let v_95:=y_93.1;some (v_95,())) (fun _=>
            some (true,())))
      else none
 else none
abbrev Wh.aeK:Type:=(Int×Int×Unit)×b7.D
abbrev Wh.ama:Type:=Int×Unit⊕Unit×Unit
def Wh.E7 (x:aeK):Option (aeK⊕ama):=
 let Fs:=x.1.1;let aae:=x.1.2.1;let K8:=x.2;let BP:Int:=(↑(List.length (K8.2.2.2.2.2.2.1)):Int);bif decide (Fs<BP) then
  let Bt:cp.D:=List.getD (K8.2.2.2.2.2.2.1) (Int.toNat Fs) (0,0,0,0,0,0,());bif kL [decide (0≤Fs),decide (Fs<BP)] then
   bif(Bt.1==aae) then
    some (.inr (.inl (Fs,())))
   else
    some (.inl (((IntKind.wrap .i64 (Fs+1)),aae,()),K8))
  else none
 else
  some (.inr (.inr ((),())))
def Wh.aeL:Int×Unit⊕Unit×Unit:=.inl default
def Wh.FD (xs:b7.D×Int):Option (Int×Unit):=
 let c9:=xs.1;let Oy:=xs.2;ia E7 aeL (((0,Oy,()),c9)) fun q_=>
  sumC q_ (fun y_19=>
   let x3:=y_19.1;some (x3,())) (fun _=>
   some (-1,()))
def Wh.DX (xs:gh.D×Int×List UInt8):Option ((an.D×Bool)×Unit):=
 let cx:=xs.1;let A0:=xs.2.1;let Da:=xs.2.2;dj FG (cx,A0,Da) fun r_3=>
  b8 (zog Hl cx) fun e_=>
  let oc:=bif !e_.1 then true else decide (r_3.1<0);bif kL [qu (Hl cx)] then
   bif oc then
    some (((0,[],0,[],()),false),())
   else
    let Py:an.D:=List.getD cx.2.1 (Int.toNat r_3.1) (0,[],0,[],());bif kL [decide (0≤r_3.1),decide (r_3.1<(↑(List.length cx.2.1):Int))] then
     some ((Py,true),())
    else none
  else none
abbrev Wh.aft:Type:=(Int×Unit×Unit×Int×Unit)×b7.D×List cp.D×(Bool×Int×List UInt8×(Int×Unit×Unit)×(Unit×Int×Unit)×Unit×Unit×Unit)×List an.D×List cg.D×List cw.D×List cp.D
abbrev Wh.amw:Type:=(Unit×Unit×Unit)×(Bool×Int×List UInt8×(Int×Unit×Unit)×(Unit×Int×Unit)×Unit×Unit×Unit)×b7.D×List cp.D×List an.D×List cg.D×List cw.D×List cp.D
def Wh.Kg (x:aft):Option (aft⊕amw):=
 let A9:=x.1.1;let Wx:=x.1.2.2.2.1;let BB:=x.2.1;let s_:=x.2.2.1;let CR:=x.2.2.2.1.1;let Bj:=x.2.2.2.1.2.1;let Bk:=x.2.2.2.1.2.2.1;let AF:=x.2.2.2.1.2.2.2.1.1;let Ba:=x.2.2.2.1.2.2.2.1.2.2;let w7:=x.2.2.2.1.2.2.2.2.1.2;let ng:=x.2.2.2.1.2.2.2.2.2.2.2;let AN:=x.2.2.2.2.1;let Bl:=x.2.2.2.2.2.1;let nE:=x.2.2.2.2.2.2.1;let AR:=x.2.2.2.2.2.2.2;let FV:Int:=(↑(List.length (BB.2.2.2.2.2.2.1)):Int);bif decide (A9<FV) then
  let Ma:cp.D:=List.getD (BB.2.2.2.2.2.2.1) (Int.toNat A9) (0,0,0,0,0,0,());bif kL [decide (0≤A9),decide (A9<FV)] then
   bif(Ma.1 != Wx) then
    let vT:List (cp.D):=s_ ++ [Ma];bif kL [decide (List.length s_+(1:Nat)≤eV),decide (0≤A9),decide (A9<FV)] then
     some (.inl (((IntKind.wrap .i64 (A9+1)),(),(),Wx,()),BB,vT,(CR,Bj,Bk,(AF,(),Ba),((),w7),(),(),ng),AN,Bl,nE,AR))
    else none
   else
    some (.inl (((IntKind.wrap .i64 (A9+1)),(),(),Wx,()),BB,s_,(CR,Bj,Bk,(AF,(),Ba),((),w7),(),(),ng),AN,Bl,nE,AR))
  else none
 else
  some (.inr (((),(),()),(CR,Bj,Bk,(AF,(),Ba),((),w7),(),(),ng),BB,s_,AN,Bl,nE,AR))
def Wh.afu:(Unit×Unit×Unit)×(Bool×Int×List UInt8×(Int×Unit×Unit)×(Unit×Int×Unit)×Unit×Unit×Unit)×b7.D×List cp.D×List an.D×List cg.D×List cw.D×List cp.D:=default
def Wh.Gw (xs:b7.D×Int):Option ((Bool×Int×List UInt8×gh.D×iL.D×List cw.D×List cp.D×Unit)×Unit):=
 let c9:=xs.1;let Oy:=xs.2;ia Kg afu (((0,(),(),Oy,()),c9,[],(false,0,[],(0,(),()),((),0,()),(),(),()),[],[],[],[])) fun NQ=>
  let AB:=NQ.2.2.1;let Cm:=NQ.2.2.2.1;some ((AB.1,AB.2.1,AB.2.2.1,AB.2.2.2.1,AB.2.2.2.2.1,AB.2.2.2.2.2.1,Cm,AB.2.2.2.2.2.2.2),())
def Wh.IV (xs:Int×Int×Int):Option (List eL.D×Unit):=
 let Ww:=xs.1;let try_1:=xs.2.1;let Sz:=xs.2.2;let Dq:List (eL.D):=[(6,Ww,try_1,Sz,0,[],[],())];some (Dq,())
abbrev Wh.adE:Type:=(Int×Unit×Unit×Unit)×(Bool×Int×List UInt8×(Int×Unit×Unit)×(Unit×Int×Unit)×Unit×Unit×Unit)×(Bool×Int×List UInt8×gh.D×iL.D×List cw.D×Unit×Unit)×cp.D×List an.D×List cg.D×List cw.D×List cp.D×List cp.D
abbrev Wh.alC:Type:=(Unit×Unit×Int×Unit)×(Bool×Int×List UInt8×(Int×Unit×Unit)×(Unit×Int×Unit)×Unit×Unit×Unit)×(Bool×Int×List UInt8×gh.D×iL.D×List cw.D×Unit×Unit)×cp.D×List an.D×List cg.D×List cw.D×List cp.D×List cp.D
def Wh.JM (x:adE):Option (adE⊕alC):=
 let Jw:=x.1.1;let Bj:=x.2.1.1;let Bk:=x.2.1.2.1;let AF:=x.2.1.2.2.1;let Ba:=x.2.1.2.2.2.1.1;let w7:=x.2.1.2.2.2.1.2.2;let ng:=x.2.1.2.2.2.2.1.2;let AN:=x.2.1.2.2.2.2.2.2.2;let Bl:=x.2.2.1.1;let nE:=x.2.2.1.2.1;let AR:=x.2.2.1.2.2.1;let AU:=x.2.2.1.2.2.2.1;let AG:=x.2.2.1.2.2.2.2.1;let AH:=x.2.2.1.2.2.2.2.2.1;let nI:=x.2.2.1.2.2.2.2.2.2.2;let zC:=x.2.2.2.1;let vT:=x.2.2.2.2.1;let w8:=x.2.2.2.2.2.1;let AV:=x.2.2.2.2.2.2.1;let qe:=x.2.2.2.2.2.2.2.1;let z9:=x.2.2.2.2.2.2.2.2;let I_:Int:=(↑(List.length z9):Int);let Ja:=bif decide (Jw<I_) then decide ((List.getD z9 (Int.toNat Jw) (0,0,0,0,0,0,())).1<zC.1) else false;bif kL [!decide (Jw<I_) || decide (0≤Jw),!decide (Jw<I_) || decide (Jw<I_)] then
  bif Ja then
   some (.inl (((IntKind.wrap .i64 (Jw+1)),(),(),()),(Bj,Bk,AF,(Ba,(),w7),((),ng),(),(),AN),(Bl,nE,AR,AU,AG,AH,(),nI),zC,vT,w8,AV,qe,z9))
  else
   some (.inr (((),(),Jw,()),(Bj,Bk,AF,(Ba,(),w7),((),ng),(),(),AN),(Bl,nE,AR,AU,AG,AH,(),nI),zC,vT,w8,AV,qe,z9))
 else none
def Wh.adF:(Unit×Unit×Int×Unit)×(Bool×Int×List UInt8×(Int×Unit×Unit)×(Unit×Int×Unit)×Unit×Unit×Unit)×(Bool×Int×List UInt8×gh.D×iL.D×List cw.D×Unit×Unit)×cp.D×List an.D×List cg.D×List cw.D×List cp.D×List cp.D:=default
def Wh.Lt (xs:b7.D×cp.D):Option ((Bool×Int×List UInt8×gh.D×iL.D×List cw.D×List cp.D×Unit)×Unit):=
 let c9:=xs.1;let v_1:=xs.2;dj Gw (c9,v_1.1) fun r_2=>
  ia JM adF (((0,(),(),()),(false,0,[],(0,(),()),((),0,()),(),(),()),(r_2.1.1,r_2.1.2.1,r_2.1.2.2.1,r_2.1.2.2.2.1,r_2.1.2.2.2.2.1,r_2.1.2.2.2.2.2.1,(),r_2.1.2.2.2.2.2.2.2),v_1,[],[],[],[],r_2.1.2.2.2.2.2.2.1)) fun FY=>
   let GY:=FY.1.2.2.1;let BM:=FY.2.2.1.1;let CS:=FY.2.2.1.2.1;let BD:=FY.2.2.1.2.2.1;let Cs:=FY.2.2.1.2.2.2.1;let EW:=FY.2.2.1.2.2.2.2.1;let Dl:=FY.2.2.1.2.2.2.2.2.1;let Bn:=FY.2.2.1.2.2.2.2.2.2.2;let A1:=FY.2.2.2.1;let Bo:=FY.2.2.2.2.2.2.2.2;let Ye:List (cp.D):=[]++List.take (Int.toNat (GY-0)) (List.drop (Int.toNat 0) Bo);let TA:List (cp.D):=[A1];let pb_81:List (cp.D):=Ye++TA++List.take (Int.toNat ((↑(List.length Bo):Int)-GY)) (List.drop (Int.toNat GY) Bo);let NJ:Nat:=Int.toNat (GY-0);let Jd:Nat:=Int.toNat ((↑(List.length Bo):Int)-GY);bif kL [decide (List.length (Ye++TA)+List.length (List.take Jd (List.drop (Int.toNat GY) Bo))≤eV),decide (0≤GY),decide (GY≤(↑(List.length Bo):Int)),decide ((↑(List.length Bo):Int)≤(↑(List.length Bo):Int)),decide (List.length Ye+(1:Nat)≤eV),decide ((0:Nat)+List.length (List.take NJ (List.drop (Int.toNat 0) Bo))≤eV),true,decide (0≤GY),decide (GY≤(↑(List.length Bo):Int))] then
    some ((BM,CS,BD,Cs,EW,Dl,pb_81,Bn),())
   else none
abbrev Wh.ad7:Type:=(Int×Unit)×gT.D
abbrev Wh.alR:Type:=Bool×Unit⊕Unit×gT.D
def Wh.Gr (x:ad7):Option (ad7⊕alR):=
 let BT:=x.1.1;let ng:=x.2;let C3:Int:=(↑(List.length (ng.2.2.1)):Int);bif decide (BT<C3) then
  let NG:=List.getD (ng.2.2.1) (Int.toNat BT) 0;b8 (zog Bd ng) fun I1=>
  b8 (zog g7 (NG,1,I1.1)) fun HA=>
  b8 (zog g7 (List.getD (ng.2.2.2.1) (Int.toNat BT) 0,1,99)) fun r_48=>
  let KA:=bif bif !HA.1 then true else bif decide (BT>0) then decide (List.getD (ng.2.2.1) (Int.toNat (IntKind.wrap .i64 (BT-1))) 0≥NG) else false then true else !r_48.1;bif kL [(!!bif !HA.1 then true else bif decide (BT>0) then decide (List.getD (ng.2.2.1) (Int.toNat (IntKind.wrap .i64 (BT-1))) 0≥NG) else false) || qu (g7 (List.getD (ng.2.2.2.1) (Int.toNat BT) 0,1,99)),(!!bif !HA.1 then true else bif decide (BT>0) then decide (List.getD (ng.2.2.1) (Int.toNat (IntKind.wrap .i64 (BT-1))) 0≥NG) else false) || decide (0≤BT),(!!bif !HA.1 then true else bif decide (BT>0) then decide (List.getD (ng.2.2.1) (Int.toNat (IntKind.wrap .i64 (BT-1))) 0≥NG) else false) || decide (BT<(↑(List.length (ng.2.2.2.1)):Int)),!(decide (BT>0) && !!HA.1) || decide (0≤BT),!(decide (BT>0) && !!HA.1) || decide (BT<C3),!(decide (BT>0) && !!HA.1) || decide (0≤IntKind.wrap .i64 (BT-1)),!(decide (BT>0) && !!HA.1) || decide (IntKind.wrap .i64 (BT-1)<C3),qu (g7 (NG,1,I1.1)),qu (Bd ng),decide (0≤BT),decide (BT<C3)] then
   bif KA then
    some (.inr (.inl (false,())))
   else
    some (.inl (((IntKind.wrap .i64 (BT+1)),()),ng))
  else none
 else
  some (.inr (.inr ((),ng)))
def Wh.ad8:Bool×Unit⊕Unit×gT.D:=.inl default
def Wh.DY (xs:gT.D):Option (Bool×Unit):=
 let g8:gT.D:=xs;b8 (zog g7 (g8.1,1,300)) fun r_1=>
 b8 (zog g7 (g8.2.1,1,16)) fun r_2=>
 b8 (zog Bd g8) fun ic=>
 b8 (zog g7 ((↑(List.length (g8.2.2.1)):Int),1,3)) fun Cf=>
 b8 (zog g7 (ic.1,1,24)) fun Fa=>
 let se:=bif bif bif bif !r_1.1 then true else !r_2.1 then true else !Fa.1 then true else !Cf.1 then true else(↑(List.length (g8.2.2.2.1)):Int) != (↑(List.length (g8.2.2.1)):Int);bif kL [(!!bif bif !r_1.1 then true else !r_2.1 then true else !Fa.1) || qu (g7 ((↑(List.length (g8.2.2.1)):Int),1,3)),(!!bif !r_1.1 then true else !r_2.1) || qu (g7 (ic.1,1,24)),(!!bif !r_1.1 then true else !r_2.1) || qu (Bd g8),!!!r_1.1 || qu (g7 (g8.2.1,1,16)),qu (g7 (g8.1,1,300))] then
  bif se then
   some (false,())
  else
   ia Gr ad8 (((0,()),g8)) fun q_=>
    sumC q_ (fun y_52=>
     let Av:=y_52.1;some (Av,())) (fun z_53=>
     let AI:=z_53.2;let FW:Int:=(↑(List.length (AI.2.2.1)):Int);b8 (zog Bd AI) fun r_60=>
     let v_62:=List.getD (AI.2.2.1) (Int.toNat (IntKind.wrap .i64 (FW-1))) 0==r_60.1;bif kL [qu (Bd AI),decide (0≤IntKind.wrap .i64 (FW-1)),decide (IntKind.wrap .i64 (FW-1)<FW)] then
      some (v_62,())
     else none)
 else none
abbrev Wh.aeo:Type:=(Int×List Int×List UInt8)×Unit
abbrev Wh.al0:Type:=List UInt8×Unit
def Wh.PF (x:aeo):Option (aeo⊕al0):=
 let C_:=x.1.1;let O1:=x.1.2.1;let Pu:=x.1.2.2;let BQ:=decide (C_<(↑(List.length O1):Int));bif BQ then
  bif decide (C_>0) then
   let vN:List UInt8:=Pu ++ [(44:UInt8)];bif kL [decide (List.length Pu+(1:Nat)≤eV)] then
    let Dx:=List.getD O1 (Int.toNat C_) 0;b8 (zog Ar Dx) fun Fb=>
    let out_32:List UInt8:=vN++Fb.1;bif kL [decide (List.length vN+List.length (Fb.1)≤eV),qu (Ar Dx),decide (0≤C_),BQ] then
     some (.inl (((IntKind.wrap .i64 (C_+1)),O1,out_32),()))
    else none
   else none
  else
   let FU:=List.getD O1 (Int.toNat C_) 0;b8 (zog Ar FU) fun IZ=>
   let out_39:List UInt8:=Pu++IZ.1;bif kL [decide (List.length Pu+List.length (IZ.1)≤eV),qu (Ar FU),decide (0≤C_),BQ] then
    some (.inl (((IntKind.wrap .i64 (C_+1)),O1,out_39),()))
   else none
 else
  some (.inr (Pu,()))
def Wh.aep:List UInt8×Unit:=default
def Wh.Hf (xs:List Int):Option (List UInt8×Unit):=
 let K6:=xs;ia PF aep (((0,K6,[]),())) fun y_42=>
  let out_43:=y_42.1;some (out_43,())
def Wh.EI (xs:gT.D):Option (List UInt8×Unit):=
 let g8:gT.D:=xs;dj DY g8 fun r_1=>
  bif !r_1.1 then
   some ([],())
  else
   b8 (zog Ar g8.1) fun r_2=>
   b8 (zog Ar g8.2.1) fun e_=>
   b8 (zog Hf (g8.2.2.1)) fun AO=>
   b8 (zog Hf (g8.2.2.2.1)) fun A3=>
   let AZ:=r_2.1 ++ [(47:UInt8)]++e_.1 ++ [(58:UInt8)]++AO.1 ++ [(58:UInt8)]++A3.1;bif kL [decide (List.length (r_2.1 ++ [(47:UInt8)]++e_.1 ++ [(58:UInt8)]++AO.1 ++ [(58:UInt8)])+List.length A3.1≤eV),qu (Hf (g8.2.2.2.1)),decide (List.length (r_2.1 ++ [(47:UInt8)]++e_.1 ++ [(58:UInt8)]++AO.1)+(1:Nat)≤eV),decide (List.length (r_2.1 ++ [(47:UInt8)]++e_.1 ++ [(58:UInt8)])+List.length AO.1≤eV),qu (Hf (g8.2.2.1)),decide (List.length (r_2.1 ++ [(47:UInt8)]++e_.1)+(1:Nat)≤eV),decide (List.length (r_2.1 ++ [(47:UInt8)])+List.length e_.1≤eV),qu (Ar g8.2.1),decide (List.length r_2.1+(1:Nat)≤eV),qu (Ar g8.1)] then
    some (AZ,())
   else none
def Wh.q97 (xs:(Bool×Int×List UInt8×(Int×List an.D×Unit)×(List cg.D×Int×Unit)×List cw.D×List cp.D×Unit)×eL.D):Option (((Bool×Int×List UInt8×gh.D×iL.D×List cw.D×List cp.D×Unit)×List eL.D)×Unit):=
 let c9:=xs.1;let w_1:=xs.2;dj FD (c9,w_1.2.1) fun r_2=>
  let AK:=decide (r_2.1≥0);let AL:=bif AK then decide (((List.getD (c9.2.2.2.2.2.2.1) (Int.toNat r_2.1) (0,0,0,0,0,0,())).2).1>w_1.2.2.1) else false;bif kL [!AK || decide (0≤r_2.1),!AK || decide (r_2.1<(↑(List.length (c9.2.2.2.2.2.2.1)):Int))] then
   bif AL then
    some ((c9,[]),())
   else
    b8 (zog BY w_1.2.1) fun ic=>
    b8 (zog DX (c9.2.2.2.1,ic.1,w_1.2.2.2.2.2.1)) fun n_=>
    bif kL [qu (DX (c9.2.2.2.1,ic.1,w_1.2.2.2.2.2.1)),qu (BY w_1.2.1)] then
     let Bt:=bif(!n_.1.2) then true else bif decide (w_1.2.2.2.1>0) then n_.1.1.2.2.1 != w_1.2.2.2.1 else false;bif Bt then
      let se:=bif AK then decide (((List.getD (c9.2.2.2.2.2.2.1) (Int.toNat r_2.1) (0,0,0,0,0,0,())).2).1<w_1.2.2.1) else false;bif kL [!AK || decide (0≤r_2.1),!AK || decide (r_2.1<(↑(List.length (c9.2.2.2.2.2.2.1)):Int))] then
       bif se then
        dj Gw (c9,w_1.2.1) fun Db=>
         dj IV (w_1.2.1,w_1.2.2.1,w_1.2.2.2.1) fun Kq=>
          some ((Db.1,Kq.1),())
       else
        dj IV (w_1.2.1,w_1.2.2.1,w_1.2.2.2.1) fun Hz=>
         some ((c9,Hz.1),())
      else none
     else
      let mb:=decide (r_2.1<0);let r_:=bif bif mb then true else decide (((List.getD (c9.2.2.2.2.2.2.1) (Int.toNat r_2.1) (0,0,0,0,0,0,())).2).1<w_1.2.2.1) then true else(((List.getD (c9.2.2.2.2.2.2.1) (Int.toNat r_2.1) (0,0,0,0,0,0,())).2).2).1 != n_.1.1.2.2.1;bif kL [(!!bif mb then true else decide (((List.getD (c9.2.2.2.2.2.2.1) (Int.toNat r_2.1) (0,0,0,0,0,0,())).2).1<w_1.2.2.1)) || decide (0≤r_2.1),(!!bif mb then true else decide (((List.getD (c9.2.2.2.2.2.2.1) (Int.toNat r_2.1) (0,0,0,0,0,0,())).2).1<w_1.2.2.1)) || decide (r_2.1<(↑(List.length (c9.2.2.2.2.2.2.1)):Int)),!!mb || decide (0≤r_2.1),!!mb || decide (r_2.1<(↑(List.length (c9.2.2.2.2.2.2.1)):Int))] then
       bif r_ then
        dj Lt (c9,w_1.2.1,w_1.2.2.1,n_.1.1.2.2.1,0,0,c9.2.1,()) fun L0=>
         b8 (zog BX (↑(List.length (n_.1.1.2.2.2.1)):Int)) fun Dc=>
         b8 (zog EI Dc.1) fun IY=>
         let X8:List (eL.D):=[(2,w_1.2.1,w_1.2.2.1,n_.1.1.2.2.1,0,[],IY.1,())];let v9:Int:=(↑(List.length (n_.1.1.2.2.2.1)):Int);bif kL [qu (EI Dc.1),qu (BX v9)] then
          some ((L0.1,X8),())
         else none
       else
        b8 (zog BX (↑(List.length (n_.1.1.2.2.2.1)):Int)) fun Fb=>
        b8 (zog EI Fb.1) fun CX=>
        let X_:List (eL.D):=[(2,w_1.2.1,w_1.2.2.1,n_.1.1.2.2.1,0,[],CX.1,())];let FU:Int:=(↑(List.length (n_.1.1.2.2.2.1)):Int);bif kL [qu (EI Fb.1),qu (BX FU)] then
         some ((c9,X_),())
        else none
      else none
    else none
  else none
def Wh.q33 (x:(Unit×Unit×Unit×Int)×(Bool×Int×List UInt8×(Int×Unit×Unit)×(Unit×Int×Unit)×Unit×Unit×Unit)×(Bool×Int×List UInt8×(Int×Unit×Unit)×(Unit×Int×Unit)×Unit×Unit×Unit)×eL.D×List an.D×List cg.D×List cw.D×List cp.D×List an.D×List cg.D×List cw.D×List cp.D):Option ((Unit×Unit)×(Bool×Int×List UInt8×(Int×Unit×Unit)×(Unit×Int×Unit)×Unit×Unit×Unit)×(Bool×Int×List UInt8×gh.D×iL.D×List cw.D×Unit×Unit)×List an.D×List cg.D×List cw.D×List cp.D×List cp.D⊕(Unit×Unit)×(Bool×Int×List UInt8×(Int×Unit×Unit)×(Unit×Int×Unit)×Unit×Unit×Unit)×(Bool×Int×List UInt8×(Int×Unit×Unit)×(Unit×Int×Unit)×Unit×Unit×Unit)×List an.D×List cg.D×List cw.D×List cp.D×List an.D×List cg.D×List cw.D×List cp.D):=
 let F7:=x.1.2.2.2;let AH:=x.2.1.1;let nI:=x.2.1.2.1;let zC:=x.2.1.2.2.1;let vT:=x.2.1.2.2.2.1.1;let w8:=x.2.1.2.2.2.1.2.2;let AV:=x.2.1.2.2.2.2.1.2;let qe:=x.2.1.2.2.2.2.2.2.2;let z9:=x.2.2.1.1;let nG:=x.2.2.1.2.1;let wm:=x.2.2.1.2.2.1;let tc:=x.2.2.1.2.2.2.1.1;let Az:=x.2.2.1.2.2.2.1.2.2;let AW:=x.2.2.1.2.2.2.2.1.2;let AI:=x.2.2.1.2.2.2.2.2.2.2;let nS:=x.2.2.2.1;let AB:=x.2.2.2.2.1;let Cm:=x.2.2.2.2.2.1;let Cc:=x.2.2.2.2.2.2.1;let Bb:=x.2.2.2.2.2.2.2.1;let BL:=x.2.2.2.2.2.2.2.2.1;let Cd:=x.2.2.2.2.2.2.2.2.2.1;let Bc:=x.2.2.2.2.2.2.2.2.2.2.1;let AX:=x.2.2.2.2.2.2.2.2.2.2.2;bif(nS.1==5) then
  dj Gw ((z9,nG,wm,(tc,BL,Az),(Cd,AW),Bc,AX,AI),nS.2.1) fun Kr=>
   some (.inl ((((),()),(AH,nI,zC,(vT,(),w8),((),AV),(),(),qe),(Kr.1.1,Kr.1.2.1,Kr.1.2.2.1,Kr.1.2.2.2.1,Kr.1.2.2.2.2.1,Kr.1.2.2.2.2.2.1,(),Kr.1.2.2.2.2.2.2.2),AB,Cm,Cc,Bb,Kr.1.2.2.2.2.2.2.1)))
 else
  let Jc:=nS.1==4;let v_71:=bif bif Jc then decide (nS.2.2.2.2.1≤3) else false then decide (nS.2.2.2.2.1>(((((List.getD AX (Int.toNat F7) (0,0,0,0,0,0,())).2).2).2).2).1) else false;bif kL [(!bif Jc then decide (nS.2.2.2.2.1≤3) else false) || decide (0≤F7),(!bif Jc then decide (nS.2.2.2.2.1≤3) else false) || decide (F7<(↑(List.length AX):Int))] then
   bif v_71 then
    let A1:List (cp.D):=List.set AX (Int.toNat F7) ((List.getD AX (Int.toNat F7) (0,0,0,0,0,0,())).1,((List.getD AX (Int.toNat F7) (0,0,0,0,0,0,())).2).1,(((List.getD AX (Int.toNat F7) (0,0,0,0,0,0,())).2).2).1,((((List.getD AX (Int.toNat F7) (0,0,0,0,0,0,())).2).2).2).1,nS.2.2.2.2.1,(((((List.getD AX (Int.toNat F7) (0,0,0,0,0,0,())).2).2).2).2).2);bif kL [decide (0≤F7),decide (F7<(↑(List.length AX):Int))] then
     some (.inr ((((),()),(AH,nI,zC,(vT,(),w8),((),AV),(),(),qe),(z9,nG,wm,(tc,(),Az),((),AW),(),(),AI),AB,Cm,Cc,Bb,BL,Cd,Bc,A1)))
    else none
   else
    some (.inr ((((),()),(AH,nI,zC,(vT,(),w8),((),AV),(),(),qe),(z9,nG,wm,(tc,(),Az),((),AW),(),(),AI),AB,Cm,Cc,Bb,BL,Cd,Bc,AX)))
  else none
def Wh.TS (x:((Unit)×(Unit)×(Unit)×(Int))×(((Bool)×((Int)×((List UInt8)×(((Int)×((Unit)×(Unit)))×(((Unit)×((Int)×(Unit)))×((Unit)×((Unit)×(Unit))))))))×((Bool)×((Int)×((List UInt8)×(((Int)×((Unit)×(Unit)))×(((Unit)×((Int)×(Unit)))×((Unit)×((Unit)×(Unit))))))))×(eL.D)×(List (an.D))×(List (cg.D))×(List (cw.D))×(List (cp.D))×(List (an.D))×(List (cg.D))×(List (cw.D))×(List (cp.D)))):(((Unit)×(Unit))×(((Bool)×((Int)×((List UInt8)×(((Int)×((Unit)×(Unit)))×(((Unit)×((Int)×(Unit)))×((Unit)×((Unit)×(Unit))))))))×((Bool)×((Int)×((List UInt8)×((gh.D)×((iL.D)×((List (cw.D))×((Unit)×(Unit))))))))×(List (an.D))×(List (cg.D))×(List (cw.D))×(List (cp.D))×(List (cp.D))))⊕(((Unit)×(Unit))×(((Bool)×((Int)×((List UInt8)×(((Int)×((Unit)×(Unit)))×(((Unit)×((Int)×(Unit)))×((Unit)×((Unit)×(Unit))))))))×((Bool)×((Int)×((List UInt8)×(((Int)×((Unit)×(Unit)))×(((Unit)×((Int)×(Unit)))×((Unit)×((Unit)×(Unit))))))))×(List (an.D))×(List (cg.D))×(List (cw.D))×(List (cp.D))×(List (an.D))×(List (cg.D))×(List (cw.D))×(List (cp.D)))):=match q33 x with | some y=>y|none=>.inl (default,(default,default,default,default,default,default,default))
def Wh.q33_v (x:((Unit)×(Unit)×(Unit)×(Int))×(((Bool)×((Int)×((List UInt8)×(((Int)×((Unit)×(Unit)))×(((Unit)×((Int)×(Unit)))×((Unit)×((Unit)×(Unit))))))))×((Bool)×((Int)×((List UInt8)×(((Int)×((Unit)×(Unit)))×(((Unit)×((Int)×(Unit)))×((Unit)×((Unit)×(Unit))))))))×(eL.D)×(List (an.D))×(List (cg.D))×(List (cw.D))×(List (cp.D))×(List (an.D))×(List (cg.D))×(List (cw.D))×(List (cp.D))))(y:(((Unit)×(Unit))×(((Bool)×((Int)×((List UInt8)×(((Int)×((Unit)×(Unit)))×(((Unit)×((Int)×(Unit)))×((Unit)×((Unit)×(Unit))))))))×((Bool)×((Int)×((List UInt8)×((gh.D)×((iL.D)×((List (cw.D))×((Unit)×(Unit))))))))×(List (an.D))×(List (cg.D))×(List (cw.D))×(List (cp.D))×(List (cp.D))))⊕(((Unit)×(Unit))×(((Bool)×((Int)×((List UInt8)×(((Int)×((Unit)×(Unit)))×(((Unit)×((Int)×(Unit)))×((Unit)×((Unit)×(Unit))))))))×((Bool)×((Int)×((List UInt8)×(((Int)×((Unit)×(Unit)))×(((Unit)×((Int)×(Unit)))×((Unit)×((Unit)×(Unit))))))))×(List (an.D))×(List (cg.D))×(List (cw.D))×(List (cp.D))×(List (an.D))×(List (cg.D))×(List (cw.D))×(List (cp.D)))))(h:q33 x=some y):TS x=y:=by unfold TS;rw[h]
def Wh.q95 (xs:(Bool×Int×List UInt8×(Int×List an.D×Unit)×(List cg.D×Int×Unit)×List cw.D×List cp.D×Unit)×eL.D):Option (((Bool×Int×List UInt8×gh.D×iL.D×List cw.D×List cp.D×Unit)×List eL.D)×Unit):=
 let c9:=xs.1;let w_1:=xs.2;bif(w_1.1==1) then
  dj q97 (c9,w_1) fun r_3=>
   some (r_3.1,())
 else
  dj FD (c9,w_1.2.1) fun e_=>
   let oc:=decide (e_.1<0);let FX:=bif bif oc then true else((List.getD (c9.2.2.2.2.2.2.1) (Int.toNat e_.1) (0,0,0,0,0,0,())).2).1 != w_1.2.2.1 then true else(((List.getD (c9.2.2.2.2.2.2.1) (Int.toNat e_.1) (0,0,0,0,0,0,())).2).2).1 != w_1.2.2.2.1;bif kL [(!!bif oc then true else((List.getD (c9.2.2.2.2.2.2.1) (Int.toNat e_.1) (0,0,0,0,0,0,())).2).1 != w_1.2.2.1) || decide (0≤e_.1),(!!bif oc then true else((List.getD (c9.2.2.2.2.2.2.1) (Int.toNat e_.1) (0,0,0,0,0,0,())).2).1 != w_1.2.2.1) || decide (e_.1<(↑(List.length (c9.2.2.2.2.2.2.1)):Int)),!!oc || decide (0≤e_.1),!!oc || decide (e_.1<(↑(List.length (c9.2.2.2.2.2.2.1)):Int))] then
    bif FX then
     some ((c9,[]),())
    else
     CL q33 TS ((((),(),(),e_.1),(false,0,[],(0,(),()),((),0,()),(),(),()),(c9.1,c9.2.1,c9.2.2.1,(c9.2.2.2.1.1,(),c9.2.2.2.1.2.2),((),c9.2.2.2.2.1.2),(),(),c9.2.2.2.2.2.2.2),w_1,[],[],[],[],c9.2.2.2.1.2.1,c9.2.2.2.2.1.1,c9.2.2.2.2.2.1,c9.2.2.2.2.2.2.1)) fun q_=>
      sumC q_ (fun By=>
       let DI:=By.2.2.1.1;let CV:=By.2.2.1.2.1;let Dm:=By.2.2.1.2.2.1;let Ld:=By.2.2.1.2.2.2.1;let Pk:=By.2.2.1.2.2.2.2.1;let Pm:=By.2.2.1.2.2.2.2.2.1;let Le:=By.2.2.1.2.2.2.2.2.2.2;let Eb:=By.2.2.2.2.2.2.2;some (((DI,CV,Dm,Ld,Pk,Pm,Eb,Le),[]),())) (fun GL=>
       let Dj:=GL.2.2.1.1;let Ie:=GL.2.2.1.2.1;let AA:=GL.2.2.1.2.2.1;let Eu:=GL.2.2.1.2.2.2.1.1;let Ev:=GL.2.2.1.2.2.2.1.2.2;let Fv:=GL.2.2.1.2.2.2.2.1.2;let G1:=GL.2.2.1.2.2.2.2.2.2.2;let JB:=GL.2.2.2.2.2.2.2.1;let Ig:=GL.2.2.2.2.2.2.2.2.1;let F9:=GL.2.2.2.2.2.2.2.2.2.1;let F_:=GL.2.2.2.2.2.2.2.2.2.2;some (((Dj,Ie,AA,(Eu,JB,Ev),(Ig,Fv),F9,F_,G1),[]),()))
   else none
def Wh.q28 (xs:b7.D×eL.D):Option ((b7.D×List eL.D)×Unit):=
 let c9:=xs.1;let w_1:=xs.2;dj FL c9 fun r_2=>
  bif !r_2.1 then
   some (((false,0,[],(0,[],()),([],0,()),[],[],()),[]),())
  else
   dj E_ c9 fun r_3=>
    let AL:= !c9.1;b8 (zog Eg w_1) fun ic=>
    let FX:=bif bif AL then true else !ic.1 then true else decide (w_1.2.1≥4);bif kL [!!AL || qu (Eg w_1)] then
     bif FX then
      some ((r_3.1,[]),())
     else
      dj q95 (r_3.1,w_1) fun xd=>
       some (xd.1,())
    else none
def Wh.q35 (x:(Unit×List eL.D×Int×Unit×Int×Int)×(b7.D×Unit×Unit×Unit×Unit)×((Bool×Int×List UInt8×(Int×Unit×Unit)×(Unit×Int×Unit)×Unit×Unit×Unit)×Unit×Unit×Unit×Unit)×List bn.D×List b9.D×List an.D×List an.D×List cg.D×List cw.D×List cp.D×List bn.D×List b9.D×List an.D):Option ((Unit×List eL.D×Int×Unit×Int×Int)×(b7.D×Unit×Unit×Unit×Unit)×((Bool×Int×List UInt8×(Int×Unit×Unit)×(Unit×Int×Unit)×Unit×Unit×Unit)×Unit×Unit×Unit×Unit)×List bn.D×List b9.D×List an.D×List an.D×List cg.D×List cw.D×List cp.D×List bn.D×List b9.D×List an.D):=
 let S7:=x.1.2.1;let to_57:=x.1.2.2.1;let OX:=x.1.2.2.2.2.1;let at_59:=x.1.2.2.2.2.2;let Bb:=x.2.1.1;let BL:=x.2.1.2.2.2.2;let Cd:=x.2.2.1.1.1;let Bc:=x.2.2.1.1.2.1;let AX:=x.2.2.1.1.2.2.1;let BM:=x.2.2.1.1.2.2.2.1.1;let CS:=x.2.2.1.1.2.2.2.1.2.2;let BD:=x.2.2.1.1.2.2.2.2.1.2;let Cs:=x.2.2.1.1.2.2.2.2.2.2.2;let EW:=x.2.2.1.2.2.2.2;let Dl:=x.2.2.2.1;let Bn:=x.2.2.2.2.1;let A1:=x.2.2.2.2.2.1;let CE:=x.2.2.2.2.2.2.1;let Ce:=x.2.2.2.2.2.2.2.1;let Cu:=x.2.2.2.2.2.2.2.2.1;let CT:=x.2.2.2.2.2.2.2.2.2.1;let Bo:=x.2.2.2.2.2.2.2.2.2.2.1;let Ez:=x.2.2.2.2.2.2.2.2.2.2.2.1;let EX:=x.2.2.2.2.2.2.2.2.2.2.2.2;bif decide (at_59<0) then
  let v_81:=List.getD S7 (Int.toNat OX) (0,0,0,0,0,[],[],());bif kL [decide (0≤OX),decide (OX<(↑(List.length S7):Int))] then
   some ((((),S7,to_57,(),OX,v_81.2.1),(Bb,(),(),(),BL),((Cd,Bc,AX,(BM,(),CS),((),BD),(),(),Cs),(),(),(),EW),Dl,Bn,A1,CE,Ce,Cu,CT,Bo,Ez,EX))
  else none
 else
  some ((((),S7,to_57,(),OX,at_59),(Bb,(),(),(),BL),((Cd,Bc,AX,(BM,(),CS),((),BD),(),(),Cs),(),(),(),EW),Dl,Bn,A1,CE,Ce,Cu,CT,Bo,Ez,EX))
def Wh.Nh (x:((Unit)×(List (eL.D))×(Int)×(Unit)×(Int)×(Int))×(((b7.D)×((Unit)×((Unit)×((Unit)×(Unit)))))×(((Bool)×((Int)×((List UInt8)×(((Int)×((Unit)×(Unit)))×(((Unit)×((Int)×(Unit)))×((Unit)×((Unit)×(Unit))))))))×((Unit)×((Unit)×((Unit)×(Unit)))))×(List (bn.D))×(List (b9.D))×(List (an.D))×(List (an.D))×(List (cg.D))×(List (cw.D))×(List (cp.D))×(List (bn.D))×(List (b9.D))×(List (an.D)))):(((Unit)×(List (eL.D))×(Int)×(Unit)×(Int)×(Int))×(((b7.D)×((Unit)×((Unit)×((Unit)×(Unit)))))×(((Bool)×((Int)×((List UInt8)×(((Int)×((Unit)×(Unit)))×(((Unit)×((Int)×(Unit)))×((Unit)×((Unit)×(Unit))))))))×((Unit)×((Unit)×((Unit)×(Unit)))))×(List (bn.D))×(List (b9.D))×(List (an.D))×(List (an.D))×(List (cg.D))×(List (cw.D))×(List (cp.D))×(List (bn.D))×(List (b9.D))×(List (an.D)))):=match q35 x with | some y=>y|none=>(default,(default,default,default,default,default,default,default,default,default,default,default,default))
def Wh.q35_v (x:((Unit)×(List (eL.D))×(Int)×(Unit)×(Int)×(Int))×(((b7.D)×((Unit)×((Unit)×((Unit)×(Unit)))))×(((Bool)×((Int)×((List UInt8)×(((Int)×((Unit)×(Unit)))×(((Unit)×((Int)×(Unit)))×((Unit)×((Unit)×(Unit))))))))×((Unit)×((Unit)×((Unit)×(Unit)))))×(List (bn.D))×(List (b9.D))×(List (an.D))×(List (an.D))×(List (cg.D))×(List (cw.D))×(List (cp.D))×(List (bn.D))×(List (b9.D))×(List (an.D))))(y:(((Unit)×(List (eL.D))×(Int)×(Unit)×(Int)×(Int))×(((b7.D)×((Unit)×((Unit)×((Unit)×(Unit)))))×(((Bool)×((Int)×((List UInt8)×(((Int)×((Unit)×(Unit)))×(((Unit)×((Int)×(Unit)))×((Unit)×((Unit)×(Unit))))))))×((Unit)×((Unit)×((Unit)×(Unit)))))×(List (bn.D))×(List (b9.D))×(List (an.D))×(List (an.D))×(List (cg.D))×(List (cw.D))×(List (cp.D))×(List (bn.D))×(List (b9.D))×(List (an.D)))))(h:q35 x=some y):Nh x=y:=by unfold Nh;rw[h]
abbrev Wh.adK:Type:=(Int×Unit×List eL.D×Int×Unit)×(b7.D×Unit×Unit×Unit×Unit)×((Bool×Int×List UInt8×(Int×Unit×Unit)×(Unit×Int×Unit)×Unit×Unit×Unit)×Unit×Unit×Unit×Unit)×List bn.D×List b9.D×List an.D×List an.D×List cg.D×List cw.D×List cp.D×List bn.D×List b9.D×List an.D
abbrev Wh.alF:Type:=(Unit×Unit)×((Bool×Int×List UInt8×(Int×Unit×Unit)×(Unit×Int×Unit)×Unit×Unit×Unit)×Unit×Unit×Unit×Unit)×(b7.D×Unit×Unit×Unit×Unit)×List an.D×List cg.D×List cw.D×List cp.D×List bn.D×List b9.D×List an.D×List bn.D×List b9.D×List an.D
def Wh.Lu (x:adK):Option (adK⊕alF):=
 let i_113:=x.1.1;let abu:=x.1.2.2.1;let ag7:=x.1.2.2.2.1;let F_:=x.2.1.1;let Ih:=x.2.1.2.2.2.2;let EU:=x.2.2.1.1.1;let Ew:=x.2.2.1.1.2.1;let K9:=x.2.2.1.1.2.2.1;let Ii:=x.2.2.1.1.2.2.2.1.1;let K_:=x.2.2.1.1.2.2.2.1.2.2;let G2:=x.2.2.1.1.2.2.2.2.1.2;let Dk:=x.2.2.1.1.2.2.2.2.2.2.2;let Ij:=x.2.2.1.2.2.2.2;let G3:=x.2.2.2.1;let JC:=x.2.2.2.2.1;let O3:=x.2.2.2.2.2.1;let abz:=x.2.2.2.2.2.2.1;let abA:=x.2.2.2.2.2.2.2.1;let abB:=x.2.2.2.2.2.2.2.2.1;let abC:=x.2.2.2.2.2.2.2.2.2.1;let abD:=x.2.2.2.2.2.2.2.2.2.2.1;let Ta:=x.2.2.2.2.2.2.2.2.2.2.2.1;let Tb:=x.2.2.2.2.2.2.2.2.2.2.2.2;let HF:Int:=(↑(List.length abu):Int);let v_139:=bif decide (i_113<HF) then decide ((↑(List.length JC):Int)<60) else false;bif v_139 then
  CL q35 Nh ((((),abu,ag7,(),i_113,ag7),(F_,(),(),(),Ih),((EU,Ew,K9,(Ii,(),K_),((),G2),(),(),Dk),(),(),(),Ij),G3,JC,O3,abz,abA,abB,abC,abD,Ta,Tb)) fun Ch=>
   let S5:=Ch.1.2.1;let to_143:=Ch.1.2.2.1;let OV:=Ch.1.2.2.2.2.1;let at_145:=Ch.1.2.2.2.2.2;let Xx:=Ch.2.1.1;let Xy:=Ch.2.1.2.2.2.2;let MV:=Ch.2.2.1.1.1;let Ik:=Ch.2.2.1.1.2.1;let Xz:=Ch.2.2.1.1.2.2.1;let XA:=Ch.2.2.1.1.2.2.2.1.1;let Td:=Ch.2.2.1.1.2.2.2.1.2.2;let Te:=Ch.2.2.1.1.2.2.2.2.1.2;let Tf:=Ch.2.2.1.1.2.2.2.2.2.2.2;let ls_155:=Ch.2.2.1.2.2.2.2;let ls_156:=Ch.2.2.2.1;let abH:=Ch.2.2.2.2.1;let ls_158:=Ch.2.2.2.2.2.1;let ls_159:=Ch.2.2.2.2.2.2.1;let ls_160:=Ch.2.2.2.2.2.2.2.1;let XB:=Ch.2.2.2.2.2.2.2.2.1;let ls_162:=Ch.2.2.2.2.2.2.2.2.2.1;let MW:=Ch.2.2.2.2.2.2.2.2.2.2.1;let XC:=Ch.2.2.2.2.2.2.2.2.2.2.2.1;let XD:=Ch.2.2.2.2.2.2.2.2.2.2.2.2;b8 (zog Hs (List.getD S5 (Int.toNat OV) (0,0,0,0,0,[],[],()))) fun r_166=>
   let ls_168:=abH ++ [(at_145,r_166.1,false,())];let v_169:=List.getD S5 (Int.toNat OV) (0,0,0,0,0,[],[],());bif kL [decide (List.length abH+(1:Nat)≤eV),qu (Hs v_169),decide (0≤OV),decide (OV<(↑(List.length S5):Int))] then
    some (.inl (((IntKind.wrap .i64 (OV+1)),(),S5,to_143,()),(Xx,(),(),(),Xy),((MV,Ik,Xz,(XA,(),Td),((),Te),(),(),Tf),(),(),(),ls_155),ls_156,ls_168,ls_158,ls_159,ls_160,XB,ls_162,MW,XC,XD))
   else none
 else
  some (.inr (((),()),((EU,Ew,K9,(Ii,(),K_),((),G2),(),(),Dk),(),(),(),Ij),(F_,(),(),(),Ih),abz,abA,abB,abC,abD,Ta,Tb,G3,JC,O3))
def Wh.adL:(Unit×Unit)×((Bool×Int×List UInt8×(Int×Unit×Unit)×(Unit×Int×Unit)×Unit×Unit×Unit)×Unit×Unit×Unit×Unit)×(b7.D×Unit×Unit×Unit×Unit)×List an.D×List cg.D×List cw.D×List cp.D×List bn.D×List b9.D×List an.D×List bn.D×List b9.D×List an.D:=default
def Wh.Gn (xs:(b7.D×List bn.D×List b9.D×List an.D×Unit)×Int×List eL.D):Option ((b7.D×List bn.D×List b9.D×List an.D×Unit)×Unit):=
 let w_0:=xs.1;let to_1:=xs.2.1;let list_2:=xs.2.2;ia Lu adL (((0,(),list_2,to_1,()),(w_0.1,(),(),(),w_0.2.2.2.2),((false,0,[],(0,(),()),((),0,()),(),(),()),(),(),(),()),w_0.2.1,w_0.2.2.1,w_0.2.2.2.1,[],[],[],[],[],[],[])) fun Qp=>
  let ls_181:=Qp.2.2.1.1;let ls_182:=Qp.2.2.1.2.2.2.2;let Gc:=Qp.2.2.2.2.2.2.2.2.2.2.1;let Gd:=Qp.2.2.2.2.2.2.2.2.2.2.2.1;let Lb:=Qp.2.2.2.2.2.2.2.2.2.2.2.2;some ((ls_181,Gc,Gd,Lb,ls_182),())
def Wh.JQ (xs:bn.D):Option (Bool×Unit):=
 let cx:=xs;let v_1:Int:=(↑(List.length (cx.2.2.2.2.2.1.1.2.2.1)):Int);let Bt:=bif bif bif bif bif bif v_1==0 then(↑(List.length (cx.2.2.2.2.2.1.1.2.2.2.1)):Int)==0 else false then cx.2.2.2.2.2.1.1.1==0 else false then cx.2.2.2.2.2.1.1.2.1==0 else false then cx.2.2.2.2.2.1.2.1.1==0 else false then cx.2.2.2.2.2.1.2.1.2.1==0 else false then(↑(List.length (cx.2.2.2.2.2.1.2.1.2.2.1)):Int)==0 else false;some (Bt,())
abbrev Wh.aeG:Type:=(Int×List Int×Int)×Unit
abbrev Wh.al9:Type:=Bool×Unit⊕Int×Unit
def Wh.IG (x:aeG):Option (aeG⊕al9):=
 let z5:=x.1.1;let PZ:=x.1.2.1;let WA:=x.1.2.2;let AQ:=decide (z5<(↑(List.length PZ):Int));bif AQ then
  let s5:=List.getD PZ (Int.toNat z5) 0;let xe:=IntKind.wrap .i64 (WA-1);b8 (zog g7 (s5,0,xe)) fun GB=>
  let BQ:=bif !GB.1 then true else bif decide (z5>0) then decide (List.getD PZ (Int.toNat (IntKind.wrap .i64 (z5-1))) 0≥s5) else false;bif kL [!(decide (z5>0) && !!GB.1) || decide (0≤z5),!(decide (z5>0) && !!GB.1) || AQ,!(decide (z5>0) && !!GB.1) || decide (0≤IntKind.wrap .i64 (z5-1)),!(decide (z5>0) && !!GB.1) || decide (IntKind.wrap .i64 (z5-1)<(↑(List.length PZ):Int)),qu (g7 (s5,0,xe)),decide (0≤z5),AQ] then
   bif BQ then
    some (.inr (.inl (false,())))
   else
    some (.inl (((IntKind.wrap .i64 (z5+1)),PZ,WA),()))
  else none
 else
  some (.inr (.inr (WA,())))
def Wh.aeH:Bool×Unit⊕Int×Unit:=.inl default
def Wh.Ho (xs:List Int×Int):Option (Bool×Unit):=
 let HD:=xs.1;let Wz:=xs.2;ia IG aeH (((0,HD,Wz),())) fun q_=>
  sumC q_ (fun Fg=>
   let CK:=Fg.1;some (CK,())) (fun z_28=>
   let ahI:=z_28.1;dj g7 (ahI,0,24) fun Fb=>
    some (Fb.1,()))
abbrev Wh.ae0:Type:=(Int×Int×List Int)×Unit
abbrev Wh.ami:Type:=Bool×Unit⊕Unit×Unit
def Wh.LL (x:ae0):Option (ae0⊕ami):=
 let CP:=x.1.1;let Ed:=x.1.2.1;let Yv:=x.1.2.2;let AZ:=decide (CP<(↑(List.length Yv):Int));bif AZ then
  let BP:=List.getD Yv (Int.toNat CP) 0;let pg:=BP==Ed;bif kL [decide (0≤CP),AZ] then
   bif pg then
    some (.inr (.inl (true,())))
   else
    some (.inl (((IntKind.wrap .i64 (CP+1)),Ed,Yv),()))
  else none
 else
  some (.inr (.inr ((),())))
def Wh.ae1:Bool×Unit⊕Unit×Unit:=.inl default
def Wh.Ei (xs:List Int×Int):Option (Bool×Unit):=
 let HD:=xs.1;let n_1:=xs.2;ia LL ae1 (((0,n_1,HD),())) fun q_=>
  sumC q_ (fun y_17=>
   let xe:=y_17.1;some (xe,())) (fun _=>
   some (false,()))
abbrev Wh.afR:Type:=(Int×Int×Unit)×fk.D
abbrev Wh.amI:Type:=Bool×Unit⊕(Unit×Int)×fk.D
def Wh.LW (x:afR):Option (afR⊕amI):=
 let K5:=x.1.1;let Dh:=x.1.2.1;let qe:=x.2;let KA:Int:=(↑(List.length (qe.2.2.1)):Int);bif decide (K5<KA) then
  let B6:=K5 != Dh;b8 (zog Ei ((List.getD (qe.2.2.1) (Int.toNat K5) ([],[],())).1,List.getD ((List.getD (qe.2.2.1) (Int.toNat Dh) ([],[],())).1) (Int.toNat 0) 0)) fun r_52=>
  let Ja:=bif B6 then r_52.1 else false;bif kL [!B6 || qu (Ei ((List.getD (qe.2.2.1) (Int.toNat K5) ([],[],())).1,List.getD ((List.getD (qe.2.2.1) (Int.toNat Dh) ([],[],())).1) (Int.toNat 0) 0)),!B6 || decide ((0:Int)≤0),!B6 || decide (0<(↑(List.length ((List.getD (qe.2.2.1) (Int.toNat Dh) ([],[],())).1)):Int)),!B6 || decide (0≤Dh),!B6 || decide (Dh<KA),!B6 || decide (0≤K5),!B6 || decide (K5<KA)] then
   bif Ja then
    some (.inr (.inl (false,())))
   else
    some (.inl (((IntKind.wrap .i64 (K5+1)),Dh,()),qe))
  else none
 else
  some (.inr (.inr (((),Dh),qe)))
def Wh.afS:Bool×Unit⊕(Unit×Int)×fk.D:=.inl default
abbrev Wh.afP:Type:=(Int×Unit)×fk.D
abbrev Wh.amH:Type:=Bool×Unit⊕Unit×Unit
def Wh.LV (x:afP):Option (afP⊕amH):=
 let H_:=x.1.1;let Bc:=x.2;let v_64:Int:=(↑(List.length (Bc.2.2.1)):Int);bif decide (H_<v_64) then
  ia LW afS (((0,H_,()),Bc)) fun q_=>
   sumC q_ (fun y_67=>
    let Fc:=y_67.1;some (.inr (.inl (Fc,())))) (fun z_68=>
    let i_70:=z_68.1.2;let Bn:=z_68.2;some (.inl (((IntKind.wrap .i64 (i_70+1)),()),Bn)))
 else
  some (.inr (.inr ((),())))
def Wh.afQ:Bool×Unit⊕Unit×Unit:=.inl default
abbrev Wh.afN:Type:=(Int×Unit)×fk.D
abbrev Wh.amG:Type:=Bool×Unit⊕Unit×fk.D
def Wh.Kk (x:afN):Option (afN⊕amG):=
 let DS:=x.1.1;let s9:=x.2;let s5:Int:=(↑(List.length (s9.2.2.1)):Int);bif decide (DS<s5) then
  let BN:=List.getD (s9.2.2.1) (Int.toNat DS) ([],[],());bif kL [decide (0≤DS),decide (DS<s5)] then
   b8 (zog Ho (BN.1,s9.1)) fun D0=>
   let vN:=bif bif bif !D0.1 then true else(↑(List.length BN.1):Int)==0 then true else(↑(List.length BN.2.1):Int) != s9.2.1 then true else bif decide (DS>0) then decide (List.getD ((List.getD (s9.2.2.1) (Int.toNat (IntKind.wrap .i64 (DS-1))) ([],[],())).1) (Int.toNat 0) 0≥List.getD BN.1 (Int.toNat 0) 0) else false;bif kL [!(decide (DS>0) && !bif bif !D0.1 then true else(↑(List.length BN.1):Int)==0 then true else(↑(List.length BN.2.1):Int) != s9.2.1) || decide ((0:Int)≤0),!(decide (DS>0) && !bif bif !D0.1 then true else(↑(List.length BN.1):Int)==0 then true else(↑(List.length BN.2.1):Int) != s9.2.1) || decide (0<(↑(List.length BN.1):Int)),!(decide (DS>0) && !bif bif !D0.1 then true else(↑(List.length BN.1):Int)==0 then true else(↑(List.length BN.2.1):Int) != s9.2.1) || decide ((0:Int)≤0),!(decide (DS>0) && !bif bif !D0.1 then true else(↑(List.length BN.1):Int)==0 then true else(↑(List.length BN.2.1):Int) != s9.2.1) || decide (0<(↑(List.length ((List.getD (s9.2.2.1) (Int.toNat (IntKind.wrap .i64 (DS-1))) ([],[],())).1)):Int)),!(decide (DS>0) && !bif bif !D0.1 then true else(↑(List.length BN.1):Int)==0 then true else(↑(List.length BN.2.1):Int) != s9.2.1) || decide (0≤IntKind.wrap .i64 (DS-1)),!(decide (DS>0) && !bif bif !D0.1 then true else(↑(List.length BN.1):Int)==0 then true else(↑(List.length BN.2.1):Int) != s9.2.1) || decide (IntKind.wrap .i64 (DS-1)<s5),qu (Ho (BN.1,s9.1))] then
    bif vN then
     some (.inr (.inl (false,())))
    else
     some (.inl (((IntKind.wrap .i64 (DS+1)),()),s9))
   else none
  else none
 else
  some (.inr (.inr ((),s9)))
def Wh.afO:Bool×Unit⊕Unit×fk.D:=.inl default
def Wh.FN (xs:fk.D):Option (Bool×Unit):=
 let c9:=xs;b8 (zog g7 (c9.1,1,24)) fun r_1=>
 b8 (zog g7 (c9.2.1,1,16)) fun r_2=>
 let AK:=bif !r_1.1 then true else !r_2.1;bif kL [!!!r_1.1 || qu (g7 (c9.2.1,1,16)),qu (g7 (c9.1,1,24))] then
  bif AK then
   some (false,())
  else
   ia Kk afO (((0,()),c9)) fun q_=>
    sumC q_ (fun C4=>
     let I9:=C4.1;some (I9,())) (fun z_30=>
     let AF:=z_30.2;ia LV afQ (((0,()),AF)) fun q_=>
      sumC q_ (fun By=>
       let v_76:=By.1;some (v_76,())) (fun _=>
       some (true,())))
 else none
def Wh.FC (xs:r5.D):Option (Bool×Unit):=
 let n5:=xs;b8 (zog DY n5.1) fun r_1=>
 b8 (zog FN n5.2.1) fun r_2=>
 b8 (zog Bd n5.1) fun ic=>
 let A4:=bif bif bif r_1.1 then r_2.1 else false then n5.2.1.1==ic.1 else false then n5.2.1.2.1==n5.1.2.1 else false;bif kL [(!bif r_1.1 then r_2.1 else false) || qu (Bd n5.1),!r_1.1 || qu (FN n5.2.1),qu (DY n5.1)] then
  some (A4,())
 else none
def Wh.EJ (xs:r5.D):Option (Bool×Unit):=
 let n5:=xs;b8 (zog FC n5) fun r_1=>
 b8 (zog Bd n5.1) fun r_2=>
 let AL:=bif r_1.1 then(↑(List.length (n5.2.1.2.2.1)):Int)==r_2.1 else false;bif kL [!r_1.1 || qu (Bd n5.1),qu (FC n5)] then
  some (AL,())
 else none
def Wh.DK (xs:bn.D):Option (Bool×Unit):=
 let cx:=xs;b8 (zog g7 (cx.1,0,3)) fun r_1=>
 b8 (zog g7 (cx.2.1,0,99999)) fun r_2=>
 b8 (zog g7 (cx.2.2.1,0,4)) fun ic=>
 b8 (zog g7 (cx.2.2.2.2.1,0,99999)) fun Be=>
 let A4:=bif bif bif !r_1.1 then true else !r_2.1 then true else !ic.1 then true else !Be.1;bif kL [(!!bif bif !r_1.1 then true else !r_2.1 then true else !ic.1) || qu (g7 (cx.2.2.2.2.1,0,99999)),(!!bif !r_1.1 then true else !r_2.1) || qu (g7 (cx.2.2.1,0,4)),!!!r_1.1 || qu (g7 (cx.2.1,0,99999)),qu (g7 (cx.1,0,3))] then
  bif A4 then
   some (false,())
  else
   let Cy:=cx.2.2.2.2.1==0;b8 (zog JQ cx) fun Cf=>
   b8 (zog FC (cx.2.2.2.2.2.1)) fun BZ=>
   let Bt:=bif bif Cy then !Cf.1 else false then true else bif decide (cx.2.2.2.2.1>0) then !BZ.1 else false;bif kL [!(decide (cx.2.2.2.2.1>0) && !bif Cy then !Cf.1 else false) || qu (FC (cx.2.2.2.2.2.1)),!Cy || qu (JQ cx)] then
    bif Bt then
     some (false,())
    else
     bif(cx.2.2.1==0) then
      let AQ:=cx.2.2.2.1 == [];some (bif AQ then Cy else false,())
     else
      let s5:=cx.2.1==0;b8 (zog DJ (cx.2.2.2.1)) fun Hz=>
      let mb:=bif s5 then true else !Hz.1;bif kL [!!s5 || qu (DJ (cx.2.2.2.1))] then
       bif mb then
        some (false,())
       else
        bif(cx.2.2.1==2) then
         let nT:=decide (cx.2.2.2.2.1>0);b8 (zog EJ (cx.2.2.2.2.2.1)) fun GB=>
         let I7:=bif nT then !GB.1 else false;bif kL [!nT || qu (EJ (cx.2.2.2.2.2.1))] then
          some (I7,())
         else none
        else
         bif(cx.2.2.1==3) then
          let Dx:=decide (cx.2.2.2.2.1>0);b8 (zog EJ (cx.2.2.2.2.2.1)) fun Nm=>
          let B4:=bif Dx then Nm.1 else false;bif kL [!Dx || qu (EJ (cx.2.2.2.2.2.1))] then
           some (B4,())
          else none
         else
          b8 (zog EJ (cx.2.2.2.2.2.1)) fun Fb=>
          let Cg:=bif Cy then true else !Fb.1;bif kL [!!Cy || qu (EJ (cx.2.2.2.2.2.1))] then
           some (Cg,())
          else none
      else none
   else none
 else none
def Wh.JP (xs:eL.D):Option (List eL.D×Unit):=
 let w_0:=xs;let EZ:List (eL.D):=[(5,w_0.2.1,w_0.2.2.1,w_0.2.2.2.1,0,[],[],())];some (EZ,())
abbrev Wh.aeq:Type:=(Int×Unit×Unit)×List (List UInt8)×List Int
abbrev Wh.al1:Type:=Unit×List Int
def Wh.Nb (x:aeq):Option (aeq⊕al1):=
 let z5:=x.1.1;let wh:=x.2.1;let Ey:=x.2.2;let AQ:Int:=(↑(List.length wh):Int);let mb:=bif decide (z5<AQ) then decide (z5≤3) else false;bif mb then
  b8 (zog As (List.getD wh (Int.toNat z5) [])) fun D0=>
  let Cb:=Ey ++ [D0.1];let BQ:=List.getD wh (Int.toNat z5) [];bif kL [decide (List.length Ey+(1:Nat)≤eV),qu (As BQ),decide (0≤z5),decide (z5<AQ)] then
   some (.inl (((IntKind.wrap .i64 (z5+1)),(),()),wh,Cb))
  else none
 else
  some (.inr ((),Ey))
def Wh.aer:Unit×List Int:=default
def Wh.Hg (xs:List UInt8):Option (List Int×Unit):=
 let c9:=xs;dj Dt (c9,44) fun r_1=>
  ia Nb aer (((0,(),()),r_1.1,[])) fun Fg=>
   let s_:=Fg.2;some (s_,())
def Wh.q60 (xs:List UInt8):Option (((Int×Int×List Int×List Int×Unit)×Bool)×Unit):=
 let Bf:=xs;dj Dt (Bf,58) fun r_1=>
  let v_2:Int:=(↑(List.length r_1.1):Int);let AK:=v_2 != 3;bif AK then
   some (((0,0,[],[],()),false),())
  else
   b8 (zog Dt (List.getD r_1.1 (Int.toNat 0) [],47)) fun e_=>
   let oc:=List.getD r_1.1 (Int.toNat 0) [];bif kL [qu (Dt (oc,47)),true,decide (0<v_2)] then
    let n4:Int:=(↑(List.length e_.1):Int);let nP:=n4 != 2;bif nP then
     some (((0,0,[],[],()),false),())
    else
     b8 (zog Hg (List.getD r_1.1 (Int.toNat 1) [])) fun Be=>
     b8 (zog Hg (List.getD r_1.1 (Int.toNat 2) [])) fun xd=>
     b8 (zog As (List.getD e_.1 (Int.toNat 1) [])) fun A3=>
     b8 (zog As (List.getD e_.1 (Int.toNat 0) [])) fun Cf=>
     let AZ:=List.getD e_.1 (Int.toNat 0) [];let BP:=List.getD e_.1 (Int.toNat 1) [];let pg:=List.getD r_1.1 (Int.toNat 1) [];let Bt:=List.getD r_1.1 (Int.toNat 2) [];bif kL [qu (Hg Bt),true,decide (2<v_2),qu (Hg pg),true,decide (1<v_2),qu (As BP),true,decide (1<n4),qu (As AZ),true,decide (0<n4)] then
      dj EI (Cf.1,A3.1,Be.1,xd.1,()) fun IX=>
       bif(!IX.1==Bf) then
        some (((0,0,[],[],()),false),())
       else
        some (((Cf.1,A3.1,Be.1,xd.1,()),true),())
     else none
   else none
def Wh.q42 (xs:Int×Int):Option ((Int×Int×List gv.D×Unit)×Unit):=
 let Fl:=xs.1;let size_1:=xs.2;b8 (zog g7 (Fl,1,24)) fun r_2=>
 b8 (zog g7 (size_1,1,16)) fun r_3=>
 let AL:=bif !r_2.1 then true else !r_3.1;bif kL [!!!r_2.1 || qu (g7 (size_1,1,16)),qu (g7 (Fl,1,24))] then
  bif AL then
   some ((0,0,[],()),())
  else
   some ((Fl,size_1,[],()),())
 else none
def Wh.LA (xs:gT.D):Option (((Int×Int×List Int×List Int×Unit)×(Int×Int×List gv.D×Unit)×Unit)×Unit):=
 let g8:gT.D:=xs;dj DY g8 fun r_1=>
  bif !r_1.1 then
   some (((0,0,[],[],()),(0,0,[],()),()),())
  else
   b8 (zog Hh g8) fun r_2=>
   b8 (zog Bd g8) fun r_3=>
   b8 (zog q42 (r_3.1,g8.2.1)) fun e_=>
   bif kL [qu (q42 (r_3.1,g8.2.1)),qu (Bd g8),qu (Hh g8)] then
    some ((r_2.1,(e_.1.1,e_.1.2.1,e_.1.2.2.1,e_.1.2.2.2),()),())
   else none
def Wh.q46 (xs:bn.D×eL.D):Option (bn.D×Unit):=
 let cx:=xs.1;let w_1:=xs.2;dj q60 (w_1.2.2.2.2.2.2.1) fun r_2=>
  let AL:=bif(cx.2.2.1 != 1) then true else !r_2.1.2;bif AL then
   some (cx,())
  else
   bif(cx.2.2.2.2.1==0) then
    dj LA r_2.1.1 fun n_=>
     some ((cx.1,cx.2.1,2,cx.2.2.2.1,w_1.2.2.2.1,n_.1,cx.2.2.2.2.2.2),())
   else
    let nP:=cx.2.2.2.2.1==w_1.2.2.2.1;b8 (zog EI (cx.2.2.2.2.2.1.1)) fun Be=>
    let A4:=bif nP then Be.1==w_1.2.2.2.2.2.2.1 else false;bif kL [!nP || qu (EI (cx.2.2.2.2.2.1.1))] then
     bif A4 then
      some ((cx.1,cx.2.1,2,cx.2.2.2),())
     else
      some (cx,())
    else none
abbrev Wh.aeY:Type:=(Int×Unit×Int)×fk.D
abbrev Wh.amh:Type:=(List UInt8×Bool)×Unit⊕Unit×Unit
def Wh.LK (x:aeY):Option (aeY⊕amh):=
 let BJ:=x.1.1;let at_14:=x.1.2.2;let wh:=x.2;let se:Int:=(↑(List.length (wh.2.2.1)):Int);bif decide (BJ<se) then
  let s5:=List.getD (wh.2.2.1) (Int.toNat BJ) ([],[],());let nT:=bif(↑(List.length s5.1):Int)==1 then List.getD s5.1 (Int.toNat 0) 0==at_14 else false;bif kL [!(↑(List.length s5.1):Int)==1 || decide ((0:Int)≤0),!(↑(List.length s5.1):Int)==1 || decide (0<(↑(List.length s5.1):Int)),!(↑(List.length s5.1):Int)==1 || decide (0≤BJ),!(↑(List.length s5.1):Int)==1 || decide (BJ<se),decide (0≤BJ),decide (BJ<se)] then
   bif nT then
    bif kL [decide (0≤BJ),decide (BJ<se)] then
     some (.inr (.inl ((s5.2.1,true),())))
    else none
   else
    some (.inl (((IntKind.wrap .i64 (BJ+1)),(),at_14),wh))
  else none
 else
  some (.inr (.inr ((),())))
def Wh.aeZ:(List UInt8×Bool)×Unit⊕Unit×Unit:=.inl default
def Wh.J_ (xs:fk.D×Int):Option ((List UInt8×Bool)×Unit):=
 let c9:=xs.1;let C8:=xs.2;ia LK aeZ (((0,(),C8),c9)) fun q_=>
  sumC q_ (fun UG=>
   let Dx:=UG.1.1;let v9:=UG.1.2;some ((Dx,v9),())) (fun _=>
   some (([],false),()))
abbrev Wh.af5:Type:=(Int×Unit)×fk.D
abbrev Wh.amP:Type:=Int×Unit
def Wh.PN (x:af5):Option (af5⊕amP):=
 let n_6:=x.1.1;let ls_7:=x.2;dj J_ (ls_7,n_6) fun Be=>
  bif(!Be.1.2) then
   some (.inr (n_6,()))
  else
   some (.inl (((IntKind.wrap .i64 (n_6+1)),()),ls_7))
def Wh.af6:Int×Unit:=default
def Wh.q78 (xs:fk.D):Option (Int×Unit):=
 let c9:=xs;ia PN af6 (((0,()),c9)) fun y_12=>
  let BP:=y_12.1;some (BP,())
abbrev Wh.afB:Type:=(Int×Int×Unit)×r5.D
abbrev Wh.amA:Type:=Int×Unit
def Wh.PJ (x:afB):Option (afB⊕amA):=
 let Ed:=x.1.1;let k_11:=x.1.2.1;let K8:=x.2;let BP:Int:=(↑(List.length (K8.1.2.2.1)):Int);let se:=bif decide (Ed<BP) then decide (List.getD (K8.1.2.2.1) (Int.toNat Ed) 0≤k_11) else false;bif kL [!decide (Ed<BP) || decide (0≤Ed),!decide (Ed<BP) || decide (Ed<BP)] then
  bif se then
   some (.inl (((IntKind.wrap .i64 (Ed+1)),k_11,()),K8))
  else
   some (.inr (Ed,()))
 else none
def Wh.afC:Int×Unit:=default
def Wh.IQ (xs:r5.D):Option (Int×Unit):=
 let n5:=xs;dj q78 n5.2.1 fun r_1=>
  ia PJ afC (((0,r_1.1,()),n5)) fun y_19=>
   let n_20:=y_19.1;some (n_20,())
def Wh.EG (xs:Int):Option (Int×Unit):=
 let Yz:=xs;some ((Int.tmod (IntKind.wrap .i64 ((IntKind.wrap .i64 (Yz*1103515245))+12345)) 2147483648),())
def Wh.Eh (xs:Int×Int):Option (Int×Unit):=
 let Yz:=xs.1;let n_1:=xs.2;bif kL [n_1 != 0,true] then
  some (Int.tmod (IntKind.wrap .i64 (Int.tdiv Yz 256)) n_1,())
 else none
abbrev Wh.aga:Type:=(Int×Unit×Int)×gT.D
abbrev Wh.amS:Type:=Int×Unit⊕Unit×gT.D
def Wh.IU (x:aga):Option (aga⊕amS):=
 let GU:=x.1.1;let OZ:=x.1.2.2;let nI:=x.2;let HG:Int:=(↑(List.length (nI.2.2.2.1)):Int);bif decide (GU<HG) then
  let Mb:=List.getD (nI.2.2.2.1) (Int.toNat GU) 0;bif kL [decide (0≤GU),decide (GU<HG)] then
   bif decide (OZ<Mb) then
    let v_48:=List.getD (nI.2.2.1) (Int.toNat GU) 0;bif kL [decide (0≤GU),decide (GU<(↑(List.length (nI.2.2.1)):Int))] then
     some (.inr (.inl (v_48,())))
    else none
   else
    bif kL [decide (0≤GU),decide (GU<HG)] then
     some (.inl (((IntKind.wrap .i64 (GU+1)),(),(IntKind.wrap .i64 (OZ-Mb))),nI))
    else none
  else none
 else
  some (.inr (.inr ((),nI)))
def Wh.agb:Int×Unit⊕Unit×gT.D:=.inl default
abbrev Wh.af9:Type:=(Int×Unit×Int×Int)×gT.D
abbrev Wh.amR:Type:=(Unit×Int×Int)×gT.D
def Wh.IT (x:af9):Option (af9⊕amR):=
 let CB:=x.1.1;let ag2:=x.1.2.2.1;let agB:=x.1.2.2.2;let wh:=x.2;let se:Int:=(↑(List.length (wh.2.2.2.1)):Int);bif decide (CB<se) then
  let s5:=List.getD (wh.2.2.2.1) (Int.toNat CB) 0;bif kL [decide (0≤CB),decide (CB<se)] then
   some (.inl (((IntKind.wrap .i64 (CB+1)),(),(IntKind.wrap .i64 (ag2+s5)),agB),wh))
  else none
 else
  some (.inr (((),ag2,agB),wh))
def Wh.af_:(Unit×Int×Int)×gT.D:=default
def Wh.Gy (xs:gT.D×Int):Option (Int×Unit):=
 let g8:=xs.1;let Uc:=xs.2;ia IT af_ (((0,(),0,Uc),g8)) fun HH=>
  let ag3:=HH.1.2.1;let agC:=HH.1.2.2;let BV:=HH.2;b8 (zog EG agC) fun FP=>
  b8 (zog Eh (FP.1,ag3)) fun r_29=>
  bif kL [qu (Eh (FP.1,ag3)),qu (EG agC)] then
   ia IU agb (((0,(),r_29.1),BV)) fun q_=>
    sumC q_ (fun B7=>
     let KB:=B7.1;some (KB,())) (fun z_54=>
     let nS:=z_54.2;dj Bd nS fun r_57=>
      some (r_57.1,()))
  else none
abbrev Wh.afz:Type:=(Int×Int×Unit×Int)×List Int
abbrev Wh.amz:Type:=(Int×Unit)×List Int
def Wh.IP (x:afz):Option (afz⊕amz):=
 let HW:=x.1.1;let F8:=x.1.2.1;let HV:=x.1.2.2.2;let ng:=x.2;bif decide (HW<HV) then
  let EM:=IntKind.wrap .i64 (Int.tdiv 65536 HV);bif kL [HV != 0] then
   bif decide (HW>1) then
    let EN:=IntKind.wrap .i64 (HW-1);let n_44:=IntKind.wrap .i64 (Int.tdiv (IntKind.wrap .i64 (IntKind.wrap .i64 (Int.tdiv 65536 (IntKind.wrap .i64 (HW*EN)))*7)) 8);bif kL [true,IntKind.wrap .i64 (HW*EN) != 0] then
     bif decide (n_44>F8) then
      let Yc:List Int:=[F8];let AV:=ng++Yc;bif kL [decide (List.length ng+(1:Nat)≤eV)] then
       some (.inl (((IntKind.wrap .i64 (HW+1)),(IntKind.wrap .i64 (F8-F8)),(),HV),AV))
      else none
     else
      let pb_50:List Int:=[n_44];let wm:=ng++pb_50;bif kL [decide (List.length ng+(1:Nat)≤eV)] then
       some (.inl (((IntKind.wrap .i64 (HW+1)),(IntKind.wrap .i64 (F8-n_44)),(),HV),wm))
      else none
    else none
   else
    bif decide (EM>F8) then
     let Tv:List Int:=[F8];let nS:=ng++Tv;bif kL [decide (List.length ng+(1:Nat)≤eV)] then
      some (.inl (((IntKind.wrap .i64 (HW+1)),(IntKind.wrap .i64 (F8-F8)),(),HV),nS))
     else none
    else
     let Yd:List Int:=[EM];let Bb:=ng++Yd;bif kL [decide (List.length ng+(1:Nat)≤eV)] then
      some (.inl (((IntKind.wrap .i64 (HW+1)),(IntKind.wrap .i64 (F8-EM)),(),HV),Bb))
     else none
  else none
 else
  some (.inr ((F8,()),ng))
def Wh.afA:(Int×Unit)×List Int:=default
def Wh.q52 (xs:Int):Option (List Int×Unit):=
 let Fl:=xs;ia IP afA (((1,65536,(),Fl),[])) fun FZ=>
  let ajh:=FZ.1.1;let CS:=FZ.2;let pb_67:List Int:=[ajh];let Cs:=CS++pb_67;bif kL [decide (List.length CS+(1:Nat)≤eV)] then
   some (Cs,())
  else none
abbrev Wh.af7:Type:=(Int×Unit×Int×Int)×List Int
abbrev Wh.amQ:Type:=Int×Unit⊕Int×Unit
def Wh.Kl (x:af7):Option (af7⊕amQ):=
 let Su:=x.1.1;let adj:=x.1.2.2.1;let aaj:=x.1.2.2.2;let AE:=x.2;bif decide (Su<(↑(List.length AE):Int)) then
  let mb:=IntKind.wrap .i64 (Su-1);bif kL [decide (0≤mb),decide (mb<(↑(List.length AE):Int))] then
   bif decide (adj<List.getD AE (Int.toNat mb) 0) then
    some (.inr (.inl (Su,())))
   else
    bif kL [decide (0≤mb),decide (mb<(↑(List.length AE):Int))] then
     some (.inl (((IntKind.wrap .i64 (Su+1)),(),(IntKind.wrap .i64 (adj-List.getD AE (Int.toNat mb) 0)),aaj),AE))
    else none
  else none
 else
  some (.inr (.inr (aaj,())))
def Wh.af8:Int×Unit⊕Int×Unit:=.inl default
def Wh.q79 (xs:Int×Int):Option (Int×Unit):=
 let Fl:=xs.1;let part_1:=xs.2;dj q52 Fl fun r_2=>
  ia Kl af8 (((1,(),part_1,Fl),r_2.1)) fun q_=>
   sumC q_ (fun Mg=>
    let B4:=Mg.1;some (B4,())) (fun z_29=>
    let ahJ:=z_29.1;some (ahJ,()))
abbrev Wh.aek:Type:=(Int×List Int×Int)×Unit
abbrev Wh.alY:Type:=(Int×List Int×Int)×Unit
def Wh.IA (x:aek):Option (aek⊕alY):=
 let k_8:=x.1.1;let S8:=x.1.2.1;let Ed:=x.1.2.2;let CJ:=decide (k_8<(↑(List.length S8):Int));let AZ:=bif CJ then decide (List.getD S8 (Int.toNat k_8) 0<Ed) else false;bif kL [!CJ || decide (0≤k_8),!CJ || CJ] then
  bif AZ then
   some (.inl (((IntKind.wrap .i64 (k_8+1)),S8,Ed),()))
  else
   some (.inr ((k_8,S8,Ed),()))
 else none
def Wh.ael:(Int×List Int×Int)×Unit:=default
def Wh.Iz (xs:List Int×Int):Option (List Int×Unit):=
 let K6:=xs.1;let n_1:=xs.2;ia IA ael (((0,K6,n_1),())) fun y_15=>
  let GW:=y_15.1.1;let G0:=y_15.1.2.1;let n_18:=y_15.1.2.2;let Lk:List Int:=[]++List.take (Int.toNat (GW-0)) (List.drop (Int.toNat 0) G0);let BN:List Int:=[n_18];let pb_22:List Int:=Lk++BN++List.take (Int.toNat ((↑(List.length G0):Int)-GW)) (List.drop (Int.toNat GW) G0);let r_:List Int:=List.take (Int.toNat (GW-0)) (List.drop (Int.toNat 0) G0);let BQ:List Int:=List.take (Int.toNat ((↑(List.length G0):Int)-GW)) (List.drop (Int.toNat GW) G0);bif kL [decide (List.length (Lk++BN)+List.length BQ≤eV),decide (0≤GW),decide (GW≤(↑(List.length G0):Int)),decide ((↑(List.length G0):Int)≤(↑(List.length G0):Int)),decide (List.length Lk+(1:Nat)≤eV),decide ((0:Nat)+List.length r_≤eV),true,decide (0≤GW),decide (GW≤(↑(List.length G0):Int))] then
   some (pb_22,())
  else none
end
