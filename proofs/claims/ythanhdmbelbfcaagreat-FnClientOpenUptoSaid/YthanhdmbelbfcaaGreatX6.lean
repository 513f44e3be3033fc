import Derived.Test.YthanhdmbelbfcaaGreatX5
set_option linter.defProp false
namespace Wh
end Wh
open Wh
open Go Go.Ab
noncomputable section
abbrev Uv:Ty:=(.pair (.int .i64) (.pair (.int .i64) (.pair .bool (.pair (.int .u8) .unit))))
abbrev Uv.D:Type:=Int×Int×Bool×Int×Unit
abbrev Uw:Ty:=(.pair .str (.pair (.int .u64) .unit))
abbrev Uw.D:Type:=List UInt8×Int×Unit
abbrev gT:Ty:=(.pair (.int .i64) (.pair (.int .i64) (.pair (.lst (.int .i64)) (.pair (.lst (.int .i64)) .unit))))
abbrev gT.D:Type:=Int×Int×List Int×List Int×Unit
abbrev ei:Ty:=(.pair (.int .i64) (.pair (.int .i64) (.pair (.lst (.pair (.lst (.int .i64)) (.pair .str .unit))) .unit)))
abbrev ei.D:Type:=Int×Int×List (List Int×List UInt8×Unit)×Unit
abbrev nT:Ty:=(.pair gT (.pair ei .unit))
abbrev nT.D:Type:=gT.D×ei.D×Unit
abbrev bm:Ty:=(.pair (.int .i64) (.pair (.int .i64) (.pair (.int .i64) (.pair .str (.pair (.int .i64) (.pair nT .unit))))))
abbrev bm.D:Type:=Int×Int×Int×List UInt8×Int×nT.D×Unit
abbrev eL:Ty:=(.pair (.int .i64) (.pair (.int .i64) (.pair (.int .i64) (.pair (.int .i64) (.pair (.int .i64) (.pair .str (.pair .str .unit)))))))
abbrev eL.D:Type:=Int×Int×Int×Int×Int×List UInt8×List UInt8×Unit
abbrev g9:Ty:=(.pair (.int .i64) (.pair (.lst (.pair (.int .i64) (.pair .str (.pair (.int .i64) (.pair .str .unit))))) .unit))
abbrev g9.D:Type:=Int×List (Int×List UInt8×Int×List UInt8×Unit)×Unit
abbrev mb:Ty:=(.pair (.lst (.pair (.int .i64) (.pair (.int .i64) (.pair (.int .i64) (.pair (.int .i64) (.pair .bool .unit)))))) (.pair (.int .i64) .unit))
abbrev mb.D:Type:=List (Int×Int×Int×Int×Bool×Unit)×Int×Unit
abbrev b7:Ty:=(.pair .bool (.pair (.int .i64) (.pair .str (.pair g9 (.pair mb (.pair (.lst (.pair (.int .i64) (.pair (.int .i64) (.pair (.int .i64) (.pair (.int .i64) .unit))))) (.pair (.lst (.pair (.int .i64) (.pair (.int .i64) (.pair (.int .i64) (.pair (.int .i64) (.pair (.int .i64) (.pair (.int .i64) .unit))))))) .unit)))))))
abbrev b7.D:Type:=Bool×Int×List UInt8×g9.D×mb.D×List (Int×Int×Int×Int×Unit)×List (Int×Int×Int×Int×Int×Int×Unit)×Unit
abbrev fk:Ty:=(.pair b7 (.pair (.lst bm) (.pair (.lst (.pair (.int .i64) (.pair .str (.pair .bool .unit)))) (.pair (.lst (.pair (.int .i64) (.pair .str (.pair (.int .i64) (.pair .str .unit))))) .unit))))
abbrev fk.D:Type:=b7.D×List bm.D×List (Int×List UInt8×Bool×Unit)×List (Int×List UInt8×Int×List UInt8×Unit)×Unit
abbrev dj:Ty:=(.pair (.lst (.int .u8)) (.pair (.int .i64) .unit))
abbrev dj.D:Type:=List Int×Int×Unit
abbrev e_:Ty:=(.pair (.lst (.int .i64)) (.pair .str .unit))
abbrev e_.D:Type:=List Int×List UInt8×Unit
abbrev an:Ty:=(.pair (.int .i64) (.pair .str (.pair (.int .i64) (.pair .str .unit))))
abbrev an.D:Type:=Int×List UInt8×Int×List UInt8×Unit
abbrev cp:Ty:=(.pair (.int .i64) (.pair .str (.pair .bool .unit)))
abbrev cp.D:Type:=Int×List UInt8×Bool×Unit
abbrev di:Ty:=(.pair (.int .i64) (.pair (.int .i64) (.pair (.int .i64) (.pair .str (.pair .str (.pair .bool .unit))))))
abbrev di.D:Type:=Int×Int×Int×List UInt8×List UInt8×Bool×Unit
abbrev cw:Ty:=(.pair (.int .i64) (.pair (.int .i64) (.pair (.int .i64) (.pair (.int .i64) .unit))))
abbrev cw.D:Type:=Int×Int×Int×Int×Unit
abbrev BX:Ty:=(.pair (.int .i64) (.pair (.int .i64) (.pair (.int .i64) .unit)))
abbrev BX.D:Type:=Int×Int×Int×Unit
abbrev cg:Ty:=(.pair (.int .i64) (.pair (.int .i64) cw))
abbrev cg.D:Type:=Int×Int×cw.D
abbrev b9:Ty:=(.pair (.int .i64) (.pair (.int .i64) (.pair (.int .i64) (.pair (.int .i64) (.pair .bool .unit)))))
abbrev b9.D:Type:=Int×Int×Int×Int×Bool×Unit
def Wh.Ml (xs:List Int):Option (dj.D×Unit):=
 let HC:=xs;bif decide ((↑(List.length HC):Int)>2000) then
  let v_2:List Int:=List.take (Int.toNat ((2000:Int)-0)) (List.drop (Int.toNat 0) HC);bif kL [true,true,decide (2000≤(↑(List.length HC):Int))] then
   some ((v_2,0,()),())
  else none
 else
  some ((HC,0,()),())
def Wh.Ib (_:Unit):Option ((((List (b9.D))×((Int)×(Unit))))×(Unit)):=
 let pb_0:List (b9.D):=[(0,0,0,0,false,()),(0,0,0,0,false,()),(0,0,0,0,false,()),(0,0,0,0,false,()),(0,0,0,0,false,()),(0,0,0,0,false,()),(0,0,0,0,false,()),(0,0,0,0,false,())];some ((pb_0,0,()),())
abbrev Wh.abH:Type:=(Int×Int×Unit)×List cw.D
abbrev Wh.aix:Type:=Unit×List cw.D
def Wh.MA (x:abH):Option (abH⊕aix):=
 let h_8:=x.1.1;let now_9:=x.1.2.1;let HP:=x.2;bif decide (h_8<2) then
  let TK:List (cw.D):=[(40,40,8,now_9,())];let Qk:List (cw.D):=HP++TK;bif kL [decide (List.length HP+(1:Nat)≤eV)] then
   some (.inl (((IntKind.wrap .i64 (h_8+1)),now_9,()),Qk))
  else none
 else
  some (.inr ((),HP))
def Wh.abI:Unit×List cw.D:=default
def Wh.Ip (xs:Int):Option (List cw.D×Unit):=
 let now_0:=xs;g8 MA abI (((0,now_0,()),[])) fun y_16=>
  let tc:=y_16.2;some (tc,())
def Wh.q46 (_:Unit):Option ((((Bool)×((Int)×((List UInt8)×(((Int)×((List (an.D))×(Unit)))×(((List (b9.D))×((Int)×(Unit)))×((List (cw.D))×((List (cg.D))×(Unit)))))))))×(Unit)):=
 bn (zog Ib ()) fun w8=>
 bn (zog Ip 0) fun r_1=>
 bif kL [qu (Ip 0),qu (Ib ())] then
  some ((true,0,[],(0,[],()),w8.1,r_1.1,[],()),())
 else none
def Wh.gh (xs:Int×Int×Int):Option (Bool×Unit):=
 let Du:=xs.1;let Th:=xs.2.1;let SX:=xs.2.2;let oc:=bif decide (Du≥Th) then decide (Du≤SX) else false;some (oc,())
def Wh.q44 (xs:Int):Option ((Int×Int×Int×List UInt8×Int×((Int×Int×List Int×List Int×Unit)×(Int×Int×List e_.D×Unit)×Unit)×Unit)×Unit):=
 let id_0:=xs;c9 gh (id_0,0,3) fun r_1=>
  bif !r_1.1 then
   some ((0,0,0,[],0,((0,0,[],[],()),(0,0,[],()),()),()),())
  else
   some ((id_0,0,0,[],0,((0,0,[],[],()),(0,0,[],()),()),()),())
abbrev Wh.acf:Type:=(Int×Unit×Unit)×((Bool×Int×List UInt8×(Int×Unit×Unit)×(Unit×Int×Unit)×Unit×Unit×Unit)×Unit×Unit×Unit×Unit)×((Bool×Int×List UInt8×(Int×Unit×Unit)×(Unit×Int×Unit)×Unit×Unit×Unit)×Unit×Unit×Unit×Unit)×List an.D×List b9.D×List cw.D×List cg.D×List bm.D×List cp.D×List an.D×List an.D×List b9.D×List cw.D×List cg.D×List bm.D×List cp.D×List an.D
abbrev Wh.aiM:Type:=(Unit×Unit)×((Bool×Int×List UInt8×(Int×Unit×Unit)×(Unit×Int×Unit)×Unit×Unit×Unit)×Unit×Unit×Unit×Unit)×((Bool×Int×List UInt8×(Int×Unit×Unit)×(Unit×Int×Unit)×Unit×Unit×Unit)×Unit×Unit×Unit×Unit)×List an.D×List b9.D×List cw.D×List cg.D×List bm.D×List cp.D×List an.D×List an.D×List b9.D×List cw.D×List cg.D×List bm.D×List cp.D×List an.D
def Wh.Q2 (x:acf):Option (acf⊕aiM):=
 let Dl:=x.1.1;let ng:=x.2.1.1.1;let AI:=x.2.1.1.2.1;let AJ:=x.2.1.1.2.2.1;let xd:=x.2.1.1.2.2.2.1.1;let wm:=x.2.1.1.2.2.2.1.2.2;let nE:=x.2.1.1.2.2.2.2.1.2;let w7:=x.2.1.1.2.2.2.2.2.2.2;let s9:=x.2.1.2.2.2.2;let zC:=x.2.2.1.1.1;let AK:=x.2.2.1.1.2.1;let s_:=x.2.2.1.1.2.2.1;let Av:=x.2.2.1.1.2.2.2.1.1;let nP:=x.2.2.1.1.2.2.2.1.2.2;let xe:=x.2.2.1.1.2.2.2.2.1.2;let tn:=x.2.2.1.1.2.2.2.2.2.2.2;let AE:=x.2.2.1.2.2.2.2;let A1:=x.2.2.2.1;let AP:=x.2.2.2.2.1;let n5:=x.2.2.2.2.2.1;let AL:=x.2.2.2.2.2.2.1;let Cp:=x.2.2.2.2.2.2.2.1;let Ce:=x.2.2.2.2.2.2.2.2.1;let Bl:=x.2.2.2.2.2.2.2.2.2.1;let BR:=x.2.2.2.2.2.2.2.2.2.2.1;let Cf:=x.2.2.2.2.2.2.2.2.2.2.2.1;let Bn:=x.2.2.2.2.2.2.2.2.2.2.2.2.1;let A2:=x.2.2.2.2.2.2.2.2.2.2.2.2.2.1;let BT:=x.2.2.2.2.2.2.2.2.2.2.2.2.2.2.1;let CU:=x.2.2.2.2.2.2.2.2.2.2.2.2.2.2.2.1;let BH:=x.2.2.2.2.2.2.2.2.2.2.2.2.2.2.2.2;bif decide (Dl<4) then
  bn (zog q44 Dl) fun r_69=>
  let Bx:=Cp ++ [r_69.1];bif kL [decide (List.length Cp+(1:Nat)≤eV),qu (q44 Dl)] then
   some (.inl (((IntKind.wrap .i64 (Dl+1)),(),()),((ng,AI,AJ,(xd,(),wm),((),nE),(),(),w7),(),(),(),s9),((zC,AK,s_,(Av,(),nP),((),xe),(),(),tn),(),(),(),AE),A1,AP,n5,AL,Bx,Ce,Bl,BR,Cf,Bn,A2,BT,CU,BH))
  else none
 else
  some (.inr (((),()),((zC,AK,s_,(Av,(),nP),((),xe),(),(),tn),(),(),(),AE),((ng,AI,AJ,(xd,(),wm),((),nE),(),(),w7),(),(),(),s9),BR,Cf,Bn,A2,BT,CU,BH,A1,AP,n5,AL,Cp,Ce,Bl))
def Wh.acg:(Unit×Unit)×((Bool×Int×List UInt8×(Int×Unit×Unit)×(Unit×Int×Unit)×Unit×Unit×Unit)×Unit×Unit×Unit×Unit)×((Bool×Int×List UInt8×(Int×Unit×Unit)×(Unit×Int×Unit)×Unit×Unit×Unit)×Unit×Unit×Unit×Unit)×List an.D×List b9.D×List cw.D×List cg.D×List bm.D×List cp.D×List an.D×List an.D×List b9.D×List cw.D×List cg.D×List bm.D×List cp.D×List an.D:=(default,(default,default,default,default,default,default,default,default,default,default,default,default,default,default,default,default))
def Wh.q73 (_:Unit):Option (((fk.D))×(Unit)):=
 c9 q46 () fun w8=>
  g8 Q2 acg (((0,(),()),((w8.1.1,w8.1.2.1,w8.1.2.2.1,(w8.1.2.2.2.1.1,(),w8.1.2.2.2.1.2.2),((),w8.1.2.2.2.2.1.2),(),(),w8.1.2.2.2.2.2.2.2),(),(),(),()),((false,0,[],(0,(),()),((),0,()),(),(),()),(),(),(),()),w8.1.2.2.2.1.2.1,w8.1.2.2.2.2.1.1,w8.1.2.2.2.2.2.1,w8.1.2.2.2.2.2.2.1,[],[],[],[],[],[],[],[],[],[])) fun BE=>
   let DH:=BE.2.2.1.1.1;let CY:=BE.2.2.1.1.2.1;let Dr:=BE.2.2.1.1.2.2.1;let Kf:=BE.2.2.1.1.2.2.2.1.1;let Oi:=BE.2.2.1.1.2.2.2.1.2.2;let Oj:=BE.2.2.1.1.2.2.2.2.1.2;let Kg:=BE.2.2.1.1.2.2.2.2.2.2.2;let Tt:=BE.2.2.1.2.2.2.2;let Fs:=BE.2.2.2.2.2.2.2.2.2.2.1;let HW:=BE.2.2.2.2.2.2.2.2.2.2.2.1;let LS:=BE.2.2.2.2.2.2.2.2.2.2.2.2.1;let J9:=BE.2.2.2.2.2.2.2.2.2.2.2.2.2.1;let Dn:=BE.2.2.2.2.2.2.2.2.2.2.2.2.2.2.1;let HQ:=BE.2.2.2.2.2.2.2.2.2.2.2.2.2.2.2.1;let AH:=BE.2.2.2.2.2.2.2.2.2.2.2.2.2.2.2.2;some (((DH,CY,Dr,(Kf,Fs,Oi),(HW,Oj),LS,J9,Kg),Dn,HQ,AH,Tt),())
def Wh.m5 (xs:dj.D×Int):Option (Int×dj.D×Unit):=
 let w8:=xs.1;let n_1:=xs.2;let BI:=IntKind.wrap .i64 (w8.2.1+1);let AG:=bif decide (n_1<1) then true else(↑(List.length w8.1):Int)==0;bif AG then
  some (0,(w8.1,BI,w8.2.2),())
 else
  let oc:=IntKind.wrap .i64 (BI-1);let r5:Int:=(↑(List.length w8.1):Int);bif decide (oc<r5) then
   let FG:=List.getD w8.1 (Int.toNat oc) 0;bif kL [n_1 != 0,decide (0≤oc),decide (oc<r5)] then
    some (Int.tmod (IntKind.wrap .i64 FG) n_1,(w8.1,BI,w8.2.2),())
   else none
  else
   let A_:=IntKind.wrap .i64 (oc*7);let x_25:=IntKind.wrap .i64 (IntKind.wrap .i64 (IntKind.wrap .i64 (IntKind.wrap .i64 (IntKind.wrap .i64 (List.getD w8.1 (Int.toNat (Int.tmod oc r5)) 0)*131)+IntKind.wrap .i64 (IntKind.wrap .i64 (List.getD w8.1 (Int.toNat (Int.tmod (IntKind.wrap .i64 (A_+3)) r5)) 0)*1117))+(IntKind.wrap .i64 (oc*29)))+IntKind.wrap .i64 (IntKind.wrap .i64 (Int.tdiv oc r5)*53));bif kL [r5 != 0,decide (0≤Int.tmod (IntKind.wrap .i64 (A_+3)) r5),decide (Int.tmod (IntKind.wrap .i64 (A_+3)) r5<r5),r5 != 0,decide (0≤Int.tmod oc r5),decide (Int.tmod oc r5<r5),r5 != 0] then
    bif kL [n_1 != 0] then
     some ((Int.tmod (pZ Go.BinOp.xor Go.IntKind.i64 x_25 (IntKind.wrap .i64 (Int.tdiv x_25 64))) n_1),(w8.1,BI,w8.2.2),())
    else none
   else none
def Wh.KI (xs:dj.D×List (List UInt8)):Option (List UInt8×dj.D×Unit):=
 let w8:=xs.1;let Tf:=xs.2;bn (zog m5 (w8,(↑(List.length Tf):Int))) fun r_2=>
 let AR:Int:=(↑(List.length Tf):Int);let r5:=List.getD Tf (Int.toNat r_2.1) [];bif kL [decide (0≤r_2.1),decide (r_2.1<AR),qu (m5 (w8,AR))] then
  some (r5,r_2.2.1,())
 else none
def Wh.Cj (xs:Int):Option (Int×Unit):=
 let Sf:=xs;some ((Int.tmod Sf 2),())
def Wh.KG (xs:Bool):Option (Int×Unit):=
 let BM:=xs;bif BM then
  some (1,())
 else
  some (0,())
abbrev Wh.acm:Type:=(Int×Unit×Unit×Int)×dj.D×List Int
abbrev Wh.aiP:Type:=Unit×dj.D×List Int
def Wh.Q7 (x:acm):Option (acm⊕aiP):=
 let CF:=x.1.1;let YB:=x.1.2.2.2;let TM:=x.2.1;let xb:=x.2.2;bif decide (CF<YB) then
  bn (zog m5 (TM,8)) fun Df=>
  let Bd:=xb ++ [(↑(UInt8.toNat (List.getD [(97:UInt8),(98:UInt8),(99:UInt8),(100:UInt8),(101:UInt8),(102:UInt8),(103:UInt8),(104:UInt8)] (Int.toNat Df.1) (0:UInt8))):Int)];bif kL [decide (List.length xb+(1:Nat)≤eV),decide (0≤Df.1),decide (Df.1<(↑(8:Nat):Int)),qu (m5 (TM,8))] then
   some (.inl (((IntKind.wrap .i64 (CF+1)),(),(),YB),Df.2.1,Bd))
  else none
 else
  some (.inr ((),TM,xb))
def Wh.acn:Unit×dj.D×List Int:=default
def Wh.Iu (xs:dj.D×Int):Option (List UInt8×dj.D×Unit):=
 let w8:=xs.1;let long_1:=xs.2;g8 Q7 acn (((0,(),(),long_1),w8,[])) fun Hu=>
  let Jf:=Hu.2.1;let AZ:=Hu.2.2;some (tv AZ,Jf,())
def Wh.q22 (x:(Unit×Int×Int)×dj.D×di.D):Option ((Bool×Unit×Int)×dj.D×di.D):=
 let WW:=x.1.2.1;let v_435:=x.1.2.2;let Zv:=x.2.1;let YT:=x.2.2;let v_438:=v_435==24;bif v_438 then
  some (((v_438,(),WW),Zv,YT))
 else
  let v_439:=v_435==25;some (((v_439,(),WW),Zv,YT))
def Wh.QZ (x:((Unit)×(Int)×(Int))×((dj.D)×(di.D))):(((Bool)×(Unit)×(Int))×((dj.D)×(di.D))):=match q22 x with | some y=>y|none=>default
def Wh.q22_v (x:((Unit)×(Int)×(Int))×((dj.D)×(di.D)))(y:(((Bool)×(Unit)×(Int))×((dj.D)×(di.D))))(h:q22 x=some y):QZ x=y:=by unfold QZ;rw[h]
def Wh.q21 (x:(Unit×Int×Int)×dj.D×di.D):Option ((Bool×Unit×Int×Int)×dj.D×di.D):=
 let WV:=x.1.2.1;let RJ:=x.1.2.2;let Zt:=x.2.1;let YS:=x.2.2;let v_419:=RJ==22;bif v_419 then
  some (((v_419,(),WV,RJ),Zt,YS))
 else
  let v_420:=RJ==23;some (((v_420,(),WV,RJ),Zt,YS))
def Wh.QY (x:((Unit)×(Int)×(Int))×((dj.D)×(di.D))):(((Bool)×(Unit)×(Int)×(Int))×((dj.D)×(di.D))):=match q21 x with | some y=>y|none=>default
def Wh.q21_v (x:((Unit)×(Int)×(Int))×((dj.D)×(di.D)))(y:(((Bool)×(Unit)×(Int)×(Int))×((dj.D)×(di.D))))(h:q21 x=some y):QY x=y:=by unfold QY;rw[h]
def Wh.q20 (x:(Unit×Unit×Int×List UInt8×Int)×dj.D×di.D):Option ((Bool×Unit×Unit×Int×List UInt8×Int)×dj.D×di.D):=
 let WU:=x.1.2.2.1;let Y7:=x.1.2.2.2.1;let RH:=x.1.2.2.2.2;let Zq:=x.2.1;let YR:=x.2.2;let v_357:=RH==17;bif v_357 then
  some (((v_357,(),(),WU,Y7,RH),Zq,YR))
 else
  let v_358:=RH==18;some (((v_358,(),(),WU,Y7,RH),Zq,YR))
def Wh.QX (x:((Unit)×(Unit)×(Int)×(List UInt8)×(Int))×((dj.D)×(di.D))):(((Bool)×(Unit)×(Unit)×(Int)×(List UInt8)×(Int))×((dj.D)×(di.D))):=match q20 x with | some y=>y|none=>default
def Wh.q20_v (x:((Unit)×(Unit)×(Int)×(List UInt8)×(Int))×((dj.D)×(di.D)))(y:(((Bool)×(Unit)×(Unit)×(Int)×(List UInt8)×(Int))×((dj.D)×(di.D))))(h:q20 x=some y):QX x=y:=by unfold QX;rw[h]
def Wh.q19 (x:(Unit×Unit×Int×List UInt8×Int)×dj.D×di.D):Option ((Bool×Unit×Unit×Int×List UInt8×Int)×dj.D×di.D):=
 let IM:=x.1.2.2.1;let Je:=x.1.2.2.2.1;let D5:=x.1.2.2.2.2;let Jg:=x.2.1;let Jc:=x.2.2;let v_329:=D5==9;bif v_329 then
  some (((v_329,(),(),IM,Je,D5),Jg,Jc))
 else
  let v_330:=D5==10;bif v_330 then
   some (((v_330,(),(),IM,Je,D5),Jg,Jc))
  else
   let v_331:=D5==11;bif v_331 then
    some (((v_331,(),(),IM,Je,D5),Jg,Jc))
   else
    let v_332:=D5==12;bif v_332 then
     some (((v_332,(),(),IM,Je,D5),Jg,Jc))
    else
     let v_333:=D5==13;bif v_333 then
      some (((v_333,(),(),IM,Je,D5),Jg,Jc))
     else
      let v_334:=D5==14;bif v_334 then
       some (((v_334,(),(),IM,Je,D5),Jg,Jc))
      else
       let v_335:=D5==15;bif v_335 then
        some (((v_335,(),(),IM,Je,D5),Jg,Jc))
       else
        let v_336:=D5==16;some (((v_336,(),(),IM,Je,D5),Jg,Jc))
def Wh.QV (x:((Unit)×(Unit)×(Int)×(List UInt8)×(Int))×((dj.D)×(di.D))):(((Bool)×(Unit)×(Unit)×(Int)×(List UInt8)×(Int))×((dj.D)×(di.D))):=match q19 x with | some y=>y|none=>default
def Wh.q19_v (x:((Unit)×(Unit)×(Int)×(List UInt8)×(Int))×((dj.D)×(di.D)))(y:(((Bool)×(Unit)×(Unit)×(Int)×(List UInt8)×(Int))×((dj.D)×(di.D))))(h:q19 x=some y):QV x=y:=by unfold QV;rw[h]
def Wh.q18 (x:(Unit×List UInt8×Int×Unit×Int×Int)×dj.D×di.D):Option ((Bool×Unit×List UInt8×Int×Unit×Int×Int)×dj.D×di.D):=
 let TA:=x.1.2.1;let UJ:=x.1.2.2.1;let R8:=x.1.2.2.2.2.1;let M7:=x.1.2.2.2.2.2;let TS:=x.2.1;let Ts:=x.2.2;let v_295:=M7==4;bif v_295 then
  some (((v_295,(),TA,UJ,(),R8,M7),TS,Ts))
 else
  let v_296:=M7==5;bif v_296 then
   some (((v_296,(),TA,UJ,(),R8,M7),TS,Ts))
  else
   let v_297:=M7==6;some (((v_297,(),TA,UJ,(),R8,M7),TS,Ts))
def Wh.QU (x:((Unit)×(List UInt8)×(Int)×(Unit)×(Int)×(Int))×((dj.D)×(di.D))):(((Bool)×(Unit)×(List UInt8)×(Int)×(Unit)×(Int)×(Int))×((dj.D)×(di.D))):=match q18 x with | some y=>y|none=>default
def Wh.q18_v (x:((Unit)×(List UInt8)×(Int)×(Unit)×(Int)×(Int))×((dj.D)×(di.D)))(y:(((Bool)×(Unit)×(List UInt8)×(Int)×(Unit)×(Int)×(Int))×((dj.D)×(di.D))))(h:q18 x=some y):QU x=y:=by unfold QU;rw[h]
def Wh.q17 (x:(Unit×Unit×List UInt8×Int×Int×Int)×dj.D×di.D):Option ((Bool×Unit×Unit×List UInt8×Int×Int×Int)×dj.D×di.D):=
 let Tx:=x.1.2.2.1;let UI:=x.1.2.2.2.1;let R7:=x.1.2.2.2.2.1;let M6:=x.1.2.2.2.2.2;let TP:=x.2.1;let FY:=x.2.2;let v_202:=M6==0;bif v_202 then
  some (((v_202,(),(),Tx,UI,R7,M6),TP,FY))
 else
  let v_203:=M6==1;bif v_203 then
   some (((v_203,(),(),Tx,UI,R7,M6),TP,FY))
  else
   let v_204:=M6==2;some (((v_204,(),(),Tx,UI,R7,M6),TP,FY))
def Wh.QT (x:((Unit)×(Unit)×(List UInt8)×(Int)×(Int)×(Int))×((dj.D)×(di.D))):(((Bool)×(Unit)×(Unit)×(List UInt8)×(Int)×(Int)×(Int))×((dj.D)×(di.D))):=match q17 x with | some y=>y|none=>default
def Wh.q17_v (x:((Unit)×(Unit)×(List UInt8)×(Int)×(Int)×(Int))×((dj.D)×(di.D)))(y:(((Bool)×(Unit)×(Unit)×(List UInt8)×(Int)×(Int)×(Int))×((dj.D)×(di.D))))(h:q17 x=some y):QT x=y:=by unfold QT;rw[h]
def Wh.q16 (x:(Unit×Unit×Int×List UInt8×Int×Unit)×dj.D×di.D×fk.D):Option (Unit×dj.D×di.D⊕(Unit×Unit×List UInt8×Int×Int)×dj.D×di.D):=
 let D6:=x.1.2.2.1;let Y4:=x.1.2.2.2.1;let WT:=x.1.2.2.2.2.1;let Zo:=x.2.1;let LV:=x.2.2.1;let HV:=x.2.2.2;let Lm:Int:=(↑(List.length HV.2.1):Int);let v_153:=bif decide (D6<Lm) then bif(((List.getD HV.2.1 (Int.toNat D6) (0,0,0,[],0,((0,0,[],[],()),(0,0,[],()),()),())).2).2).1==2 then true else(((List.getD HV.2.1 (Int.toNat D6) (0,0,0,[],0,((0,0,[],[],()),(0,0,[],()),()),())).2).2).1==1 else false;bif kL [!(!(((List.getD HV.2.1 (Int.toNat D6) (0,0,0,[],0,((0,0,[],[],()),(0,0,[],()),()),())).2).2).1==2&&decide (D6<Lm)) || decide (0≤D6),!(!(((List.getD HV.2.1 (Int.toNat D6) (0,0,0,[],0,((0,0,[],[],()),(0,0,[],()),()),())).2).2).1==2&&decide (D6<Lm)) || decide (D6<Lm),!decide (D6<Lm) || decide (0≤D6),!decide (D6<Lm) || decide (D6<Lm)] then
  bif v_153 then
   c9 m5 (Zo,3) fun Q9=>
    bif(Q9.1==0) then
     bn (zog m5 (Q9.2.1,4)) fun OP=>
     bn (zog m5 (OP.2.1,2)) fun T_=>
     bn (zog KG (T_.1==0)) fun r_159=>
     let Tp:=List.getD [(6:Int),6,7,8] (Int.toNat OP.1) 0;bif kL [qu (KG (T_.1==0)),qu (m5 (OP.2.1,2)),decide (0≤OP.1),decide (OP.1<(↑(4:Nat):Int)),qu (m5 (Q9.2.1,4))] then
      some (.inl (((),T_.2.1,Tp,(IntKind.wrap .i64 (D6*r_159.1)),0,[],[],false,())))
     else none
    else
     some (.inr ((((),(),Y4,D6,WT),Q9.2.1,LV)))
  else
   some (.inr ((((),(),Y4,D6,WT),Zo,LV)))
 else none
def Wh.QS (x:((Unit)×(Unit)×(Int)×(List UInt8)×(Int)×(Unit))×((dj.D)×(di.D)×(fk.D))):((Unit)×((dj.D)×(di.D)))⊕(((Unit)×(Unit)×(List UInt8)×(Int)×(Int))×((dj.D)×(di.D))):=match q16 x with | some y=>y|none=>.inl default
def Wh.q16_v (x:((Unit)×(Unit)×(Int)×(List UInt8)×(Int)×(Unit))×((dj.D)×(di.D)×(fk.D)))(y:((Unit)×((dj.D)×(di.D)))⊕(((Unit)×(Unit)×(List UInt8)×(Int)×(Int))×((dj.D)×(di.D))))(h:q16 x=some y):QS x=y:=by unfold QS;rw[h]
abbrev Wh.ach:Type:=(Int×Unit×Int×Unit×Unit×List UInt8×Int)×dj.D×fk.D×di.D
abbrev Wh.aiN:Type:=(Unit×Unit×Int×List UInt8×Int×Unit)×dj.D×di.D×fk.D
def Wh.OM (x:ach):Option (ach⊕aiN):=
 let HM:=x.1.1;let Pg:=x.1.2.2.1;let Y9:=x.1.2.2.2.2.2.1;let R_:=x.1.2.2.2.2.2.2;let QF:=x.2.1;let BH:=x.2.2.1;let Cg:=x.2.2.2;let Fa:Int:=(↑(List.length (BH.1.2.2.2.1.2.1)):Int);bif decide (HM<Fa) then
  let QG:an.D:=List.getD (BH.1.2.2.2.1.2.1) (Int.toNat HM) (0,[],0,[],());bif kL [decide (0≤HM),decide (HM<Fa)] then
   bn (zog Cj Pg) fun JI=>
   bn (zog m5 (QF,2)) fun Rh=>
   let L6:dj.D:=bif QG.1==JI.1 then Rh.2.1 else QF;let v_77:=bif QG.1==JI.1 then Rh.1==0 else false;bif kL [!QG.1==JI.1 || qu (m5 (QF,2)),qu (Cj Pg)] then
    bif v_77 then
     some (.inl (((IntKind.wrap .i64 (HM+1)),(),Pg,(),(),QG.2.1,R_),L6,BH,Cg))
    else
     some (.inl (((IntKind.wrap .i64 (HM+1)),(),Pg,(),(),Y9,R_),L6,BH,Cg))
   else none
  else none
 else
  some (.inr (((),(),Pg,Y9,R_,()),QF,Cg,BH))
def Wh.aci:(Unit×Unit×Int×List UInt8×Int×Unit)×dj.D×di.D×fk.D:=default
def Wh.q15 (x:(Unit×Int×Unit×Unit×List UInt8×Int)×dj.D×fk.D×di.D):Option ((Unit×Unit×Int×List UInt8×Int×Unit)×dj.D×di.D×fk.D):=
 let adw:=x.1.2.1;let Y_:=x.1.2.2.2.2.1;let at_90:=x.1.2.2.2.2.2;let pb_91:=x.2.1;let LX:=x.2.2.1;let LY:=x.2.2.2;c9 m5 (pb_91,3) fun r_94=>
  bif decide (r_94.1>0) then
   g8 OM aci (((0,(),adw,(),(),Y_,at_90),r_94.2.1,LX,LY)) fun No=>
    let who_98:=No.1.2.2.1;let agZ:=No.1.2.2.2.1;let at_100:=No.1.2.2.2.2.1;let pb_101:=No.2.1;let Dn:=No.2.2.1;let HQ:=No.2.2.2;some ((((),(),who_98,agZ,at_100,()),pb_101,Dn,HQ))
  else
   some ((((),(),adw,Y_,at_90,()),r_94.2.1,LY,LX))
def Wh.QN (x:((Unit)×(Int)×(Unit)×(Unit)×(List UInt8)×(Int))×((dj.D)×(fk.D)×(di.D))):(((Unit)×(Unit)×(Int)×(List UInt8)×(Int)×(Unit))×((dj.D)×(di.D)×(fk.D))):=match q15 x with | some y=>y|none=>default
def Wh.q15_v (x:((Unit)×(Int)×(Unit)×(Unit)×(List UInt8)×(Int))×((dj.D)×(fk.D)×(di.D)))(y:(((Unit)×(Unit)×(Int)×(List UInt8)×(Int)×(Unit))×((dj.D)×(di.D)×(fk.D))))(h:q15 x=some y):QN x=y:=by unfold QN;rw[h]
def Wh.q14 (x:(Unit×Unit×Unit×Int)×dj.D×fk.D×di.D):Option ((Unit×Unit×Unit×Int)×dj.D×fk.D×di.D):=
 let Px:=x.1.2.2.2;let Ou:=x.2.1;let tc:=x.2.2.1;let AO:=x.2.2.2;bn (zog m5 (Ou,2)) fun Hi=>
 let BU:dj.D:=bif decide ((↑(List.length (tc.2.2.1)):Int)>0) then Hi.2.1 else Ou;let A4:Int:=(↑(List.length (tc.2.2.1)):Int);let AX:=bif decide (A4>0) then Hi.1==0 else false;bif kL [!decide (A4>0) || qu (m5 (Ou,2))] then
  bif AX then
   c9 m5 (BU,A4) fun Dg=>
    some ((((),(),(),Dg.1),Dg.2.1,tc,AO))
  else
   some ((((),(),(),Px),BU,tc,AO))
 else none
def Wh.QM (x:((Unit)×(Unit)×(Unit)×(Int))×((dj.D)×(fk.D)×(di.D))):(((Unit)×(Unit)×(Unit)×(Int))×((dj.D)×(fk.D)×(di.D))):=match q14 x with | some y=>y|none=>default
def Wh.q14_v (x:((Unit)×(Unit)×(Unit)×(Int))×((dj.D)×(fk.D)×(di.D)))(y:(((Unit)×(Unit)×(Unit)×(Int))×((dj.D)×(fk.D)×(di.D))))(h:q14 x=some y):QM x=y:=by unfold QM;rw[h]
def Wh.q81 (xs:dj.D×fk.D):Option (di.D×dj.D×Unit):=
 let w8:=xs.1;let w_1:=xs.2;CC q14 QM ((((),(),(),0),w8,w_1,0,0,0,[],[],false,())) fun C6=>
  let at_30:=C6.1.2.2.2;let vT:=C6.2.1;let Au:=C6.2.2.1;let A0:=C6.2.2.2;c9 KI (vT,[[(97:UInt8)],[(97:UInt8)],[(98:UInt8)],[(99:UInt8),(99:UInt8)]]) fun r_34=>
   c9 m5 (r_34.2.1,4) fun DL=>
    CC q15 QN ((((),DL.1,(),(),r_34.1,at_30),DL.2.1,Au,A0)) fun Nf=>
     let akI:=Nf.1.2.2.1;let agW:=Nf.1.2.2.2.1;let at_108:=Nf.1.2.2.2.2.1;let pb_109:=Nf.2.1;let I7:=Nf.2.2.1;let I9:=Nf.2.2.2;CC q16 QS ((((),(),akI,agW,at_108,()),pb_109,I7,I9)) fun q_=>
      sumC q_ (fun y_177=>
       let pb_179:=y_177.2.1;let ls_180:=y_177.2.2;some (ls_180,pb_179,())) (fun Pt=>
       let agX:=Pt.1.2.2.1;let akJ:=Pt.1.2.2.2.1;let at_183:=Pt.1.2.2.2.2;let pb_184:=Pt.2.1;let Kc:=Pt.2.2;c9 m5 (pb_184,40) fun r_186=>
        CC q17 QT ((((),(),agX,akJ,at_183,r_186.1),r_186.2.1,Kc)) fun Lt=>
         let RG:=Lt.1.1;let Tz:=Lt.1.2.2.2.1;let akK:=Lt.1.2.2.2.2.1;let at_210:=Lt.1.2.2.2.2.2.1;let v_211:=Lt.1.2.2.2.2.2.2;let QA:=Lt.2.1;let ls_213:=Lt.2.2;bif RG then
          bn (zog m5 (QA,2)) fun Ua=>
          bn (zog m5 (Ua.2.1,30)) fun Q_=>
          bn (zog m5 (Q_.2.1,90)) fun Ra=>
          bn (zog m5 (Ra.2.1,250)) fun Rb=>
          bn (zog m5 (Rb.2.1,3)) fun MM=>
          bn (zog Iu (MM.2.1,List.getD [IntKind.wrap .i64 (1+Q_.1),IntKind.wrap .i64 (1+Ra.1),IntKind.wrap .i64 (1+Rb.1)] (Int.toNat MM.1) 0)) fun r_233=>
          bif kL [qu (Iu (MM.2.1,List.getD [IntKind.wrap .i64 (1+Q_.1),IntKind.wrap .i64 (1+Ra.1),IntKind.wrap .i64 (1+Rb.1)] (Int.toNat (MM.1)) 0)),decide (0≤MM.1),decide (MM.1<(↑(3:Nat):Int)),qu (m5 (Rb.2.1,3)),qu (m5 (Ra.2.1,250)),qu (m5 (Q_.2.1,90)),qu (m5 (Ua.2.1,30)),qu (m5 (QA,2))] then
           some ((1,Ua.1,0,Tz,r_233.1,false,()),r_233.2.1,())
          else none
         else
          let v_278:=v_211==3;bif v_278 then
           c9 m5 (QA,2) fun r_279=>
            some ((2,r_279.1,0,Tz,[],false,()),r_279.2.1,())
          else
           CC q18 QU ((((),Tz,akK,(),at_210,v_211),QA,ls_213)) fun Lw=>
            let v_300:=Lw.1.1;let Y6:=Lw.1.2.2.1;let akL:=Lw.1.2.2.2.1;let at_303:=Lw.1.2.2.2.2.2.1;let UE:=Lw.1.2.2.2.2.2.2;let QB:=Lw.2.1;let ls_306:=Lw.2.2;bif v_300 then
             some ((3,akL,0,Y6,[],false,()),QB,())
            else
             let v_307:=UE==7;bif v_307 then
              c9 m5 (QB,4) fun r_308=>
               some ((4,r_308.1,0,[],[],false,()),r_308.2.1,())
             else
              let v_309:=UE==8;bif v_309 then
               c9 m5 (QB,4) fun r_310=>
                some ((5,r_310.1,0,[],[],false,()),r_310.2.1,())
              else
               CC q19 QV ((((),(),at_303,Y6,UE),QB,ls_306)) fun Ni=>
                let v_339:=Ni.1.1;let at_340:=Ni.1.2.2.2.1;let agY:=Ni.1.2.2.2.2.1;let v_342:=Ni.1.2.2.2.2.2;let Zp:=Ni.2.1;let ls_344:=Ni.2.2;bif v_339 then
                 some ((6,0,0,[],[],false,()),Zp,())
                else
                 CC q20 QX ((((),(),at_340,agY,v_342),Zp,ls_344)) fun Nj=>
                  let v_361:=Nj.1.1;let R9:=Nj.1.2.2.2.1;let Y8:=Nj.1.2.2.2.2.1;let RI:=Nj.1.2.2.2.2.2;let Kn:=Nj.2.1;let ls_366:=Nj.2.2;bif v_361 then
                   c9 m5 (Kn,4) fun r_367=>
                    some ((7,r_367.1,0,[],[],false,()),r_367.2.1,())
                  else
                   let v_368:=RI==19;bif v_368 then
                    some ((9,R9,0,[],[],false,()),Kn,())
                   else
                    let v_369:=RI==20;bif v_369 then
                     bn (zog m5 (Kn,256)) fun Ub=>
                     bn (zog m5 (Ub.2.1,256)) fun r_371=>
                     bif kL [qu (m5 (Ub.2.1,256)),qu (m5 (Kn,256))] then
                      some ((10,R9,(IntKind.wrap .i64 (IntKind.wrap .i64 (Ub.1*256)+r_371.1)),[],[],false,()),r_371.2.1,())
                     else none
                    else
                     let v_380:=RI==21;bif v_380 then
                      bn (zog m5 (Kn,2)) fun Rc=>
                      bn (zog m5 (Rc.2.1,40)) fun Uc=>
                      bn (zog m5 (Uc.2.1,3)) fun Rd=>
                      let Zr:=List.getD [(0:Int),Uc.1,9999] (Int.toNat Rd.1) 0;bif kL [decide (0≤Rd.1),decide (Rd.1<(↑(3:Nat):Int)),qu (m5 (Uc.2.1,3)),qu (m5 (Rc.2.1,40)),qu (m5 (Kn,2))] then
                       c9 m5 (Rd.2.1,3) fun Rf=>
                        bif decide (Rf.1>0) then
                         bn (zog m5 (Rf.2.1,90)) fun Rg=>
                         bn (zog Iu (Rg.2.1,IntKind.wrap .i64 (1+Rg.1))) fun r_405=>
                         bif kL [qu (Iu (Rg.2.1,IntKind.wrap .i64 (1+Rg.1))),qu (m5 (Rf.2.1,90))] then
                          some ((11,Rc.1,Zr,Y8,r_405.1,false,()),r_405.2.1,())
                         else none
                        else
                         some ((11,Rc.1,Zr,Y8,[],false,()),Rf.2.1,())
                      else none
                     else
                      CC q21 QY ((((),R9,RI),Kn,ls_366)) fun Pp=>
                       let v_423:=Pp.1.1;let at_424:=Pp.1.2.2.1;let v_425:=Pp.1.2.2.2;let Zu:=Pp.2.1;let ls_427:=Pp.2.2;bif v_423 then
                        some ((12,0,0,[],[],false,()),Zu,())
                       else
                        CC q22 QZ ((((),at_424,v_425),Zu,ls_427)) fun UP=>
                         let v_442:=UP.1.1;let WX:=UP.1.2.2;let Zw:=UP.2.1;bif v_442 then
                          some ((8,WX,0,[],[],true,()),Zw,())
                         else
                          some ((8,WX,0,[],[],false,()),Zw,()))
def Wh.G6 (xs:g9.D):Option ((Int×List an.D×Unit)×Unit):=
 let b8:g9.D:=xs;let Eh:List (an.D):=[]++b8.2.1;bif kL [decide ((0:Nat)+List.length b8.2.1≤eV)] then
  some ((b8.1,Eh,b8.2.2),())
 else none
def Wh.Gm (xs:mb.D):Option ((List b9.D×Int×Unit)×Unit):=
 let fy:mb.D:=xs;let Eh:List (b9.D):=[]++fy.1;bif kL [decide ((0:Nat)+List.length fy.1≤eV)] then
  some ((Eh,fy.2),())
 else none
def Wh.Ft (xs:b7.D):Option ((Bool×Int×List UInt8×(Int×List an.D×Unit)×(List b9.D×Int×Unit)×List cw.D×List cg.D×Unit)×Unit):=
 let cx:b7.D:=xs;c9 G6 (cx.2.2.2.1) fun r_1=>
  c9 Gm (cx.2.2.2.2.1) fun r_2=>
   let Dv:List (cw.D):=[]++cx.2.2.2.2.2.1;bif kL [decide ((0:Nat)+List.length (cx.2.2.2.2.2.1)≤eV)] then
    let Ow:List (cg.D):=[]++cx.2.2.2.2.2.2.1;bif kL [decide ((0:Nat)+List.length (cx.2.2.2.2.2.2.1)≤eV)] then
     some ((cx.1,cx.2.1,cx.2.2.1,r_1.1,r_2.1,Dv,Ow,cx.2.2.2.2.2.2.2),())
    else none
   else none
def Wh.Ig (xs:gT.D):Option ((Int×Int×List Int×List Int×Unit)×Unit):=
 let fy:gT.D:=xs;let Eh:List Int:=[]++fy.2.2.1;bif kL [decide ((0:Nat)+List.length (fy.2.2.1)≤eV)] then
  let BI:List Int:=[]++fy.2.2.2.1;bif kL [decide ((0:Nat)+List.length (fy.2.2.2.1)≤eV)] then
   some ((fy.1,fy.2.1,Eh,BI,fy.2.2.2.2),())
  else none
 else none
abbrev Wh.aax:Type:=(Int×Unit×Unit×Unit)×(Int×Int×Unit×Unit)×ei.D×(Int×Int×Unit×Unit)×List e_.D×List e_.D
abbrev Wh.ahX:Type:=(Unit×Unit)×(Int×Int×Unit×Unit)×(Int×Int×Unit×Unit)×List e_.D×List e_.D
def Wh.Mm (x:aax):Option (aax⊕ahX):=
 let wX:=x.1.1;let Bd:=x.2.1.1;let CH:=x.2.1.2.1;let CJ:=x.2.1.2.2.2;let wh:=x.2.2.1;let BG:=x.2.2.2.1.1;let Be:=x.2.2.2.1.2.1;let AZ:=x.2.2.2.1.2.2.2;let BB:=x.2.2.2.2.1;let Bq:=x.2.2.2.2.2;let we:Int:=(↑(List.length (wh.2.2.1)):Int);bif decide (wX<we) then
  let EZ:List Int:=[]++(List.getD (wh.2.2.1) (Int.toNat wX) ([],[],())).1;let Au:=BB ++ [(EZ,((List.getD (wh.2.2.1) (Int.toNat wX) ([],[],())).2).1,())];let BY:=List.getD (wh.2.2.1) (Int.toNat wX) ([],[],());bif kL [decide (List.length BB+(1:Nat)≤eV),decide (0≤wX),decide (wX<we),decide ((0:Nat)+List.length BY.1≤eV),decide (0≤wX),decide (wX<we)] then
   some (.inl (((IntKind.wrap .i64 (wX+1)),(),(),()),(Bd,CH,(),CJ),wh,(BG,Be,(),AZ),Au,Bq))
  else none
 else
  some (.inr (((),()),(BG,Be,(),AZ),(Bd,CH,(),CJ),Bq,BB))
def Wh.aay:(Unit×Unit)×(Int×Int×Unit×Unit)×(Int×Int×Unit×Unit)×List e_.D×List e_.D:=default
def Wh.Jq (xs:ei.D):Option ((Int×Int×List e_.D×Unit)×Unit):=
 let cx:=xs;g8 Mm aay (((0,(),(),()),(cx.1,cx.2.1,(),()),cx,(0,0,(),()),[],[])) fun RT=>
  let AJ:=RT.2.2.1.1;let xd:=RT.2.2.1.2.1;let wm:=RT.2.2.1.2.2.2;let w7:=RT.2.2.2.2;some ((AJ,xd,w7,wm),())
def Wh.KQ (xs:nT.D):Option (((Int×Int×List Int×List Int×Unit)×(Int×Int×List e_.D×Unit)×Unit)×Unit):=
 let nC:=xs;bn (zog Ig nC.1) fun r_1=>
 bn (zog Jq nC.2.1) fun r_2=>
 bif kL [qu (Jq nC.2.1),qu (Ig nC.1)] then
  some ((r_1.1,r_2.1,()),())
 else none
def Wh.F4 (xs:bm.D):Option ((Int×Int×Int×List UInt8×Int×((Int×Int×List Int×List Int×Unit)×(Int×Int×List e_.D×Unit)×Unit)×Unit)×Unit):=
 let b8:=xs;bif decide (b8.2.2.2.2.1>0) then
  c9 KQ (b8.2.2.2.2.2.1) fun r_2=>
   some ((b8.1,b8.2.1,b8.2.2.1,b8.2.2.2.1,b8.2.2.2.2.1,r_2.1,b8.2.2.2.2.2.2),())
 else
  some ((b8.1,b8.2.1,b8.2.2.1,b8.2.2.2.1,b8.2.2.2.2.1,((0,0,[],[],()),(0,0,[],()),()),b8.2.2.2.2.2.2),())
abbrev Wh.ZT:Type:=(Int×Unit×Unit×Unit)×((Bool×Int×List UInt8×(Int×Unit×Unit)×(Unit×Int×Unit)×Unit×Unit×Unit)×Unit×Unit×Unit×Unit)×fk.D×((Bool×Int×List UInt8×(Int×Unit×Unit)×(Unit×Int×Unit)×Unit×Unit×Unit)×Unit×Unit×Unit×Unit)×List an.D×List b9.D×List cw.D×List cg.D×List bm.D×List cp.D×List an.D×List an.D×List b9.D×List cw.D×List cg.D×List bm.D×List cp.D×List an.D
abbrev Wh.ahD:Type:=(Unit×Unit)×((Bool×Int×List UInt8×(Int×Unit×Unit)×(Unit×Int×Unit)×Unit×Unit×Unit)×Unit×Unit×Unit×Unit)×((Bool×Int×List UInt8×(Int×Unit×Unit)×(Unit×Int×Unit)×Unit×Unit×Unit)×Unit×Unit×Unit×Unit)×List an.D×List b9.D×List cw.D×List cg.D×List bm.D×List cp.D×List an.D×List an.D×List b9.D×List cw.D×List cg.D×List bm.D×List cp.D×List an.D
def Wh.QJ (x:ZT):Option (ZT⊕ahD):=
 let LO:=x.1.1;let w7:=x.2.1.1.1;let s9:=x.2.1.1.2.1;let zC:=x.2.1.1.2.2.1;let AK:=x.2.1.1.2.2.2.1.1;let s_:=x.2.1.1.2.2.2.1.2.2;let Av:=x.2.1.1.2.2.2.2.1.2;let nP:=x.2.1.1.2.2.2.2.2.2.2;let xe:=x.2.1.2.2.2.2;let tn:=x.2.2.1;let AE:=x.2.2.2.1.1.1;let A1:=x.2.2.2.1.1.2.1;let AP:=x.2.2.2.1.1.2.2.1;let n5:=x.2.2.2.1.1.2.2.2.1.1;let AL:=x.2.2.2.1.1.2.2.2.1.2.2;let Cp:=x.2.2.2.1.1.2.2.2.2.1.2;let Ce:=x.2.2.2.1.1.2.2.2.2.2.2.2;let Bl:=x.2.2.2.1.2.2.2.2;let BR:=x.2.2.2.2.1;let Cf:=x.2.2.2.2.2.1;let Bn:=x.2.2.2.2.2.2.1;let A2:=x.2.2.2.2.2.2.2.1;let BT:=x.2.2.2.2.2.2.2.2.1;let CU:=x.2.2.2.2.2.2.2.2.2.1;let BH:=x.2.2.2.2.2.2.2.2.2.2.1;let Cg:=x.2.2.2.2.2.2.2.2.2.2.2.1;let Ec:=x.2.2.2.2.2.2.2.2.2.2.2.2.1;let Dq:=x.2.2.2.2.2.2.2.2.2.2.2.2.2.1;let Bx:=x.2.2.2.2.2.2.2.2.2.2.2.2.2.2.1;let A6:=x.2.2.2.2.2.2.2.2.2.2.2.2.2.2.2.1;let CK:=x.2.2.2.2.2.2.2.2.2.2.2.2.2.2.2.2.1;let Ch:=x.2.2.2.2.2.2.2.2.2.2.2.2.2.2.2.2.2;let RN:Int:=(↑(List.length tn.2.1):Int);bif decide (LO<RN) then
  bn (zog F4 (List.getD tn.2.1 (Int.toNat LO) (0,0,0,[],0,((0,0,[],[],()),(0,0,[],()),()),()))) fun OR=>
  let EX:=BT ++ [OR.1];let v_80:=List.getD tn.2.1 (Int.toNat LO) (0,0,0,[],0,((0,0,[],[],()),(0,0,[],()),()),());bif kL [decide (List.length BT+(1:Nat)≤eV),qu (F4 v_80),decide (0≤LO),decide (LO<RN)] then
   some (.inl (((IntKind.wrap .i64 (LO+1)),(),(),()),((w7,s9,zC,(AK,(),s_),((),Av),(),(),nP),(),(),(),xe),tn,((AE,A1,AP,(n5,(),AL),((),Cp),(),(),Ce),(),(),(),Bl),BR,Cf,Bn,A2,EX,CU,BH,Cg,Ec,Dq,Bx,A6,CK,Ch))
  else none
 else
  some (.inr (((),()),((AE,A1,AP,(n5,(),AL),((),Cp),(),(),Ce),(),(),(),Bl),((w7,s9,zC,(AK,(),s_),((),Av),(),(),nP),(),(),(),xe),Cg,Ec,Dq,Bx,A6,CK,Ch,BR,Cf,Bn,A2,BT,CU,BH))
def Wh.ZU:(Unit×Unit)×((Bool×Int×List UInt8×(Int×Unit×Unit)×(Unit×Int×Unit)×Unit×Unit×Unit)×Unit×Unit×Unit×Unit)×((Bool×Int×List UInt8×(Int×Unit×Unit)×(Unit×Int×Unit)×Unit×Unit×Unit)×Unit×Unit×Unit×Unit)×List an.D×List b9.D×List cw.D×List cg.D×List bm.D×List cp.D×List an.D×List an.D×List b9.D×List cw.D×List cg.D×List bm.D×List cp.D×List an.D:=(default,(default,default,default,default,default,default,default,default,default,default,default,default,default,default,default,default))
def Wh.H_ (xs:fk.D):Option ((b7.D×List bm.D×List cp.D×List an.D×Unit)×Unit):=
 let w_0:=xs;bn (zog Ft w_0.1) fun r_1=>
 let BI:List (cp.D):=[]++w_0.2.2.1;let Dv:List (an.D):=[]++w_0.2.2.2.1;bif kL [decide ((0:Nat)+List.length (w_0.2.2.2.1)≤eV),decide ((0:Nat)+List.length (w_0.2.2.1)≤eV),qu (Ft w_0.1)] then
  g8 QJ ZU (((0,(),(),()),((r_1.1.1,r_1.1.2.1,r_1.1.2.2.1,(r_1.1.2.2.2.1.1,(),r_1.1.2.2.2.1.2.2),((),r_1.1.2.2.2.2.1.2),(),(),r_1.1.2.2.2.2.2.2.2),(),(),(),()),w_0,((false,0,[],(0,(),()),((),0,()),(),(),()),(),(),(),()),r_1.1.2.2.2.1.2.1,r_1.1.2.2.2.2.1.1,r_1.1.2.2.2.2.2.1,r_1.1.2.2.2.2.2.2.1,[],BI,Dv,[],[],[],[],[],[],[])) fun Em=>
   let LX:=Em.2.2.1.1.1;let LY:=Em.2.2.1.1.2.1;let Ee:=Em.2.2.1.1.2.2.1;let ls_95:=Em.2.2.1.1.2.2.2.1.1;let ls_96:=Em.2.2.1.1.2.2.2.1.2.2;let Kh:=Em.2.2.1.1.2.2.2.2.1.2;let Fs:=Em.2.2.1.1.2.2.2.2.2.2.2;let HW:=Em.2.2.1.2.2.2.2;let Fq:=Em.2.2.2.2.2.2.2.2.2.2.1;let GP:=Em.2.2.2.2.2.2.2.2.2.2.2.1;let I5:=Em.2.2.2.2.2.2.2.2.2.2.2.2.1;let I7:=Em.2.2.2.2.2.2.2.2.2.2.2.2.2.1;let I9:=Em.2.2.2.2.2.2.2.2.2.2.2.2.2.2.1;let LU:=Em.2.2.2.2.2.2.2.2.2.2.2.2.2.2.2.1;let I_:=Em.2.2.2.2.2.2.2.2.2.2.2.2.2.2.2.2;some (((LX,LY,Ee,(ls_95,Fq,ls_96),(GP,Kh),I5,I7,Fs),I9,LU,I_,HW),())
 else none
abbrev Wh.aaJ:Type:=(Int×Int×List UInt8)×Unit
abbrev Wh.ah3:Type:=Int×Unit⊕Unit×Unit
def Wh.F9 (x:aaJ):Option (aaJ⊕ah3):=
 let Fm:=x.1.1;let b_11:=x.1.2.1;let s_12:=x.1.2.2;let A_:=decide (Fm<(↑(List.length s_12):Int));bif A_ then
  let r_:Int:=(↑(UInt8.toNat (List.getD s_12 (Int.toNat Fm) (0:UInt8))):Int);let Bp:=r_==b_11;bif kL [decide (0≤Fm),A_] then
   bif Bp then
    some (.inr (.inl (Fm,())))
   else
    some (.inl (((IntKind.wrap .i64 (Fm+1)),b_11,s_12),()))
  else none
 else
  some (.inr (.inr ((),())))
def Wh.aaK:Int×Unit⊕Unit×Unit:=.inl default
def Wh.Cz (xs:List UInt8×Int×Int):Option (Int×Unit):=
 let cx:=xs.1;let Da:=xs.2.1;let b_2:=xs.2.2;g8 F9 aaK (((Da,b_2,cx),())) fun q_=>
  sumC q_ (fun Pn=>
   let iL:=Pn.1;some (iL,())) (fun _=>
   some (-1,()))
abbrev Wh.aaD:Type:=(Int×Int×List UInt8×Unit×Int)×List (List UInt8)
abbrev Wh.ah0:Type:=(Int×List UInt8×Unit)×List (List UInt8)
def Wh.DK (x:aaD):Option (aaD⊕ah0):=
 let AB:=x.1.1;let LJ:=x.1.2.1;let Li:=x.1.2.2.1;let R6:=x.1.2.2.2.2;let Bd:=x.2;let iL:=decide (AB<(↑(List.length Li):Int));bif iL then
  let A4:Int:=(↑(UInt8.toNat (List.getD Li (Int.toNat AB) (0:UInt8))):Int);let nW:=A4==R6;bif kL [decide (0≤AB),iL] then
   bif nW then
    let TQ:List (List UInt8):=[List.take (Int.toNat (AB-LJ)) (List.drop (Int.toNat LJ) Li)];let Be:List (List UInt8):=Bd++TQ;bif kL [decide (List.length Bd+(1:Nat)≤eV),decide (0≤LJ),decide (LJ≤AB),decide (AB≤(↑(List.length Li):Int))] then
     let x3:=IntKind.wrap .i64 (AB+1);some (.inl ((x3,x3,Li,(),R6),Be))
    else none
   else
    some (.inl (((IntKind.wrap .i64 (AB+1)),LJ,Li,(),R6),Bd))
  else none
 else
  some (.inr ((LJ,Li,()),Bd))
def Wh.aaE:(Int×List UInt8×Unit)×List (List UInt8):=default
def Wh.DJ (xs:List UInt8×Int):Option (List (List UInt8)×Unit):=
 let cx:=xs.1;let Da:=xs.2;g8 DK aaE (((0,0,cx,(),Da),[])) fun C6=>
  let PX:=C6.1.1;let OW:=C6.1.2.1;let Au:=C6.2;let TT:List (List UInt8):=[List.take (Int.toNat ((↑(List.length OW):Int)-PX)) (List.drop (Int.toNat PX) OW)];let th:List (List UInt8):=Au++TT;bif kL [decide (List.length Au+(1:Nat)≤eV),decide (0≤PX),decide (PX≤(↑(List.length OW):Int)),decide ((↑(List.length OW):Int)≤(↑(List.length OW):Int))] then
   some (th,())
  else none
abbrev Wh.abq:Type:=(Int×List UInt8×Int)×Unit
abbrev Wh.aip:Type:=Int×Unit⊕Int×Unit
def Wh.Mx (x:abq):Option (abq⊕aip):=
 let CG:=x.1.1;let MW:=x.1.2.1;let n_19:=x.1.2.2;let iL:=decide (CG<(↑(List.length MW):Int));bif iL then
  let A4:Int:=(↑(UInt8.toNat (List.getD MW (Int.toNat CG) (0:UInt8))):Int);let AX:=bif decide (A4<48) then true else decide (A4>57);bif kL [!!decide (A4<48) || decide (0≤CG),!!decide (A4<48) || iL,decide (0≤CG),iL] then
   bif AX then
    some (.inr (.inl (-1,())))
   else
    bif kL [decide (0≤CG),iL] then
     some (.inl (((IntKind.wrap .i64 (CG+1)),MW,(IntKind.wrap .i64 ((IntKind.wrap .i64 (n_19*10))+IntKind.wrap .i64 (IntKind.wrap .u8 (A4-48))))),()))
    else none
  else none
 else
  some (.inr (.inr (n_19,())))
def Wh.abr:Int×Unit⊕Int×Unit:=.inl default
def Wh.AF (xs:List UInt8):Option (Int×Unit):=
 let cx:=xs;bn (zog gh ((↑(List.length cx):Int),1,6)) fun r_1=>
 let v_2:=bif !r_1.1 then true else bif decide ((↑(List.length cx):Int)>1) then(↑(UInt8.toNat (List.getD cx (Int.toNat 0) (0:UInt8))):Int)==48 else false;bif kL [!(decide ((↑(List.length cx):Int)>1) && !!r_1.1) || decide ((0:Int)≤0),!(decide ((↑(List.length cx):Int)>1) && !!r_1.1) || decide (0<(↑(List.length cx):Int)),qu (gh ((↑(List.length cx):Int),1,6))] then
  bif v_2 then
   some (-1,())
  else
   g8 Mx abr (((0,cx,0),())) fun q_=>
    sumC q_ (fun y_32=>
     let FD:=y_32.1;some (FD,())) (fun z_33=>
     let n_35:=z_33.1;some (n_35,()))
 else none
abbrev Wh.aal:Type:=(Int×List UInt8)×Unit
abbrev Wh.ahR:Type:=Bool×Unit⊕List UInt8×Unit
def Wh.Fu (x:aal):Option (aal⊕ahR):=
 let CS:=x.1.1;let RD:=x.1.2;let B7:=decide (CS<(↑(List.length RD):Int));bif B7 then
  let A3:Int:=(↑(UInt8.toNat (List.getD RD (Int.toNat CS) (0:UInt8))):Int);let Bp:=bif decide (A3<97) then true else decide (A3>122);bif kL [!!decide (A3<97) || decide (0≤CS),!!decide (A3<97) || B7,decide (0≤CS),B7] then
   bif Bp then
    some (.inr (.inl (false,())))
   else
    some (.inl (((IntKind.wrap .i64 (CS+1)),RD),()))
  else none
 else
  some (.inr (.inr (RD,())))
def Wh.aam:Bool×Unit⊕List UInt8×Unit:=.inl default
def Wh.DX (xs:List UInt8):Option (Bool×Unit):=
 let Bo:=xs;g8 Fu aam (((0,Bo),())) fun q_=>
  sumC q_ (fun Pn=>
   let iL:=Pn.1;some (iL,())) (fun z_19=>
   let akv:=z_19.1;c9 gh ((↑(List.length akv):Int),1,6) fun r_22=>
    some (r_22.1,()))
def Wh.EG (xs:eL.D):Option (Bool×Unit):=
 let w_0:=xs;bn (zog gh (w_0.2.1,0,99999)) fun r_1=>
 bn (zog gh (w_0.2.2.1,1,99999)) fun r_2=>
 bn (zog gh (w_0.2.2.2.1,0,99999)) fun gv=>
 bn (zog gh (w_0.2.2.2.2.1,0,99999)) fun A9=>
 let B7:=bif bif bif bif !r_1.1 then true else !r_2.1 then true else !gv.1 then true else !A9.1 then true else decide ((↑(List.length (w_0.2.2.2.2.2.2.1)):Int)>80);bif kL [(!!bif bif !r_1.1 then true else !r_2.1 then true else !gv.1) || qu (gh (w_0.2.2.2.2.1,0,99999)),(!!bif !r_1.1 then true else !r_2.1) || qu (gh (w_0.2.2.2.1,0,99999)),!!!r_1.1 || qu (gh (w_0.2.2.1,1,99999)),qu (gh (w_0.2.1,0,99999))] then
  bif B7 then
   some (false,())
  else
   let A3:=w_0.1==1;bn (zog DX (w_0.2.2.2.2.2.1)) fun Dx=>
   let qe:=bif bif A3 then !Dx.1 else false then true else bif !A3 then !w_0.2.2.2.2.2.1 == [] else false;bif kL [!A3 || qu (DX (w_0.2.2.2.2.2.1))] then
    bif qe then
     some (false,())
    else
     bif A3 then
      bif A3 then
       let n_:=bif(w_0.2.2.2.2.1==0) then w_0.2.2.2.2.2.2.1 == [] else false;some (n_,())
      else
       bif(w_0.1==2) then
        let Gu:=bif bif decide (w_0.2.2.2.1>0) then w_0.2.2.2.2.1==0 else false then !w_0.2.2.2.2.2.2.1 == [] else false;some (Gu,())
       else
        bif(w_0.1==3) then
         let CP:=bif decide (w_0.2.2.2.1>0) then !w_0.2.2.2.2.2.2.1 == [] else false;some (CP,())
        else
         let B8:=w_0.1==4;bif B8 then
          bif B8 then
           let BY:=bif decide (w_0.2.2.2.1>0) then w_0.2.2.2.2.2.2.1 == [] else false;some (BY,())
          else
           some (false,())
         else
          bif(w_0.1==5) then
           let EM:=bif decide (w_0.2.2.2.1>0) then w_0.2.2.2.2.2.2.1 == [] else false;some (EM,())
          else
           some (false,())
     else
      bif(w_0.1==6) then
       let Ln:=bif(w_0.2.2.2.2.1==0) then w_0.2.2.2.2.2.2.1 == [] else false;some (Ln,())
      else
       bif(w_0.1==2) then
        let v_47:=bif bif decide (w_0.2.2.2.1>0) then w_0.2.2.2.2.1==0 else false then !w_0.2.2.2.2.2.2.1 == [] else false;some (v_47,())
       else
        bif(w_0.1==3) then
         let B9:=bif decide (w_0.2.2.2.1>0) then !w_0.2.2.2.2.2.2.1 == [] else false;some (B9,())
        else
         let RK:=w_0.1==4;bif RK then
          bif RK then
           let JN:=bif decide (w_0.2.2.2.1>0) then w_0.2.2.2.2.2.2.1 == [] else false;some (JN,())
          else
           some (false,())
         else
          bif(w_0.1==5) then
           let Pb:=bif decide (w_0.2.2.2.1>0) then w_0.2.2.2.2.2.2.1 == [] else false;some (Pb,())
          else
           some (false,())
   else none
 else none
def Wh.q40 (acL:(Int)→Option (((List UInt8))×(Unit)))(Rk:(Int)→((List UInt8))×(Unit))(xs:(Int)):Option (((List UInt8))×(Unit)):=
 let Du:=xs;bif decide (Du < -9223372036854775807) then
  some ([(45:UInt8),(57:UInt8),(50:UInt8),(50:UInt8),(51:UInt8),(51:UInt8),(55:UInt8),(50:UInt8),(48:UInt8),(51:UInt8),(54:UInt8),(56:UInt8),(53:UInt8),(52:UInt8),(55:UInt8),(55:UInt8),(53:UInt8),(56:UInt8),(48:UInt8),(56:UInt8)],())
 else
  bif decide (Du<0) then
   let AR:=IntKind.wrap .i64 (0-Du);let AM:=Rk AR;let FG:List UInt8:=[(45:UInt8)]++AM.1;bif kL [decide ((1:Nat)+List.length ((Rk AR).1)≤eV),qu (acL AR)] then
    some (FG,())
   else none
  else
   bif decide (Du<10) then
    let TJ:List Int:=[IntKind.wrap .u8 (IntKind.wrap .i64 (48+Du))];some (tv TJ,())
   else
    let TK:List Int:=[IntKind.wrap .u8 (IntKind.wrap .i64 (48+Int.tmod Du 10))];let A_:=IntKind.wrap .i64 (Int.tdiv Du 10);let CL:=Rk A_;let A4:=CL.1++tv TK;bif kL [decide (List.length ((Rk A_).1)+(1:Nat)≤eV),true,qu (acL A_),true] then
     some (A4,())
    else none
def Wh.E0:Nat→(Int)→Option (((List UInt8))×(Unit))
 |0,_=>none
 |n+1,xs=>q40 (E0 n) (fun x=>match E0 n x with | some y=>y|none=>default) xs
def Wh.T7 (n:Nat):E0 (n+1)=q40 (E0 n) (fun x=>match E0 n x with | some y=>y|none=>default):=rfl
def Wh.Aw (xs:Int):Option (List UInt8×Unit):=E0 20 xs
def Wh.Mg (xs:eL.D):Option (List UInt8×Unit):=
 let w_0:=xs;bn (zog Aw w_0.1) fun r_1=>
 bn (zog Aw w_0.2.1) fun r_3=>
 bn (zog Aw (w_0.2.2.1)) fun nS=>
 bn (zog Aw (w_0.2.2.2.1)) fun z5=>
 bn (zog Aw (w_0.2.2.2.2.1)) fun BJ=>
 let v9:=r_1.1 ++ [(32:UInt8)]++r_3.1 ++ [(32:UInt8)]++nS.1 ++ [(32:UInt8)]++z5.1 ++ [(32:UInt8)]++BJ.1 ++ [(32:UInt8)]++w_0.2.2.2.2.2.1 ++ [(58:UInt8)]++w_0.2.2.2.2.2.2.1;bif kL [decide (List.length (r_1.1 ++ [(32:UInt8)]++r_3.1 ++ [(32:UInt8)]++nS.1 ++ [(32:UInt8)]++z5.1 ++ [(32:UInt8)]++BJ.1 ++ [(32:UInt8)]++w_0.2.2.2.2.2.1 ++ [(58:UInt8)])+List.length (w_0.2.2.2.2.2.2.1)≤eV),decide (List.length (r_1.1 ++ [(32:UInt8)]++r_3.1 ++ [(32:UInt8)]++nS.1 ++ [(32:UInt8)]++z5.1 ++ [(32:UInt8)]++BJ.1 ++ [(32:UInt8)]++w_0.2.2.2.2.2.1)+(1:Nat)≤eV),decide (List.length (r_1.1 ++ [(32:UInt8)]++r_3.1 ++ [(32:UInt8)]++nS.1 ++ [(32:UInt8)]++z5.1 ++ [(32:UInt8)]++BJ.1 ++ [(32:UInt8)])+List.length (w_0.2.2.2.2.2.1)≤eV),decide (List.length (r_1.1 ++ [(32:UInt8)]++r_3.1 ++ [(32:UInt8)]++nS.1 ++ [(32:UInt8)]++z5.1 ++ [(32:UInt8)]++BJ.1)+(1:Nat)≤eV),decide (List.length (r_1.1 ++ [(32:UInt8)]++r_3.1 ++ [(32:UInt8)]++nS.1 ++ [(32:UInt8)]++z5.1 ++ [(32:UInt8)])+List.length BJ.1≤eV),qu (Aw (w_0.2.2.2.2.1)),decide (List.length (r_1.1 ++ [(32:UInt8)]++r_3.1 ++ [(32:UInt8)]++nS.1 ++ [(32:UInt8)]++z5.1)+(1:Nat)≤eV),decide (List.length (r_1.1 ++ [(32:UInt8)]++r_3.1 ++ [(32:UInt8)]++nS.1 ++ [(32:UInt8)])+List.length z5.1≤eV),qu (Aw (w_0.2.2.2.1)),decide (List.length (r_1.1 ++ [(32:UInt8)]++r_3.1 ++ [(32:UInt8)]++nS.1)+(1:Nat)≤eV),decide (List.length (r_1.1 ++ [(32:UInt8)]++r_3.1 ++ [(32:UInt8)])+List.length nS.1≤eV),qu (Aw (w_0.2.2.1)),decide (List.length (r_1.1 ++ [(32:UInt8)]++r_3.1)+(1:Nat)≤eV),decide (List.length (r_1.1 ++ [(32:UInt8)])+List.length r_3.1≤eV),qu (Aw w_0.2.1),decide (List.length r_1.1+(1:Nat)≤eV),qu (Aw w_0.1)] then
  some (v9,())
 else none
abbrev Wh.abv:Type:=List UInt8×Unit
abbrev Wh.air:Type:=List UInt8×Unit
def Wh.OJ (x:abv):Option (abv⊕air):=
 let Rn:=x.1;bif decide ((↑(List.length Rn):Int)<7) then
  let Gv:List UInt8:=[(48:UInt8)]++Rn;bif kL [decide ((1:Nat)+List.length Rn≤eV)] then
   some (.inl (Gv,()))
  else none
 else
  some (.inr (Rn,()))
def Wh.abw:List UInt8×Unit:=default
abbrev Wh.abt:Type:=(Int×List UInt8×Int)×Unit
abbrev Wh.aiq:Type:=Int×Unit
def Wh.QW (x:abt):Option (abt⊕aiq):=
 let CF:=x.1.1;let Uz:=x.1.2.1;let n_14:=x.1.2.2;let Bp:=decide (CF<(↑(List.length Uz):Int));bif Bp then
  let z9:Int:=(↑(UInt8.toNat (List.getD Uz (Int.toNat CF) (0:UInt8))):Int);bif kL [true,decide (0≤CF),Bp] then
   some (.inl (((IntKind.wrap .i64 (CF+1)),Uz,(Int.tmod (IntKind.wrap .i64 (IntKind.wrap .i64 ((IntKind.wrap .i64 (n_14*31))+IntKind.wrap .i64 z9)+7)) 1000003)),()))
  else none
 else
  some (.inr (n_14,()))
def Wh.abu:Int×Unit:=default
def Wh.K5 (xs:List UInt8):Option (List UInt8×Unit):=
 let Bo:=xs;g8 QW abu (((0,Bo,1),())) fun y_24=>
  let n_25:=y_24.1;c9 Aw n_25 fun D0=>
   g8 OJ abw ((D0.1,())) fun Lx=>
    let s_35:=Lx.1;some (s_35,())
def Wh.Iq (xs:eL.D):Option (List UInt8×Unit):=
 let w_0:=xs;c9 EG w_0 fun r_1=>
  bif !r_1.1 then
   some ([],())
  else
   c9 Mg w_0 fun r_2=>
    bn (zog K5 r_2.1) fun r_3=>
    let oc:=r_3.1++r_2.1;bif kL [decide (List.length r_3.1+List.length r_2.1≤eV),qu (K5 r_2.1)] then
     some (oc,())
    else none
def Wh.q72 (xs:List UInt8):Option ((eL.D×Bool)×Unit):=
 let Bo:=xs;c9 Cz (Bo,7,58) fun r_1=>
  let AR:=bif decide (r_1.1<0) then true else decide ((↑(List.length Bo):Int)>160);bif AR then
   some (((0,0,0,0,0,[],[],()),false),())
  else
   bn (zog DJ (List.take (Int.toNat (r_1.1-7)) (List.drop (Int.toNat 7) Bo),32)) fun dz=>
   let oc:List UInt8:=List.take (Int.toNat (r_1.1-7)) (List.drop (Int.toNat 7) Bo);bif kL [qu (DJ (oc,32)),true,decide (7≤r_1.1),decide (r_1.1≤(↑(List.length Bo):Int))] then
    let r5:Int:=(↑(List.length dz.1):Int);let n4:=r5 != 6;bif n4 then
     some (((0,0,0,0,0,[],[],()),false),())
    else
     let Kp:List UInt8:=List.take (Int.toNat ((↑(List.length Bo):Int)-IntKind.wrap .i64 (r_1.1+1))) (List.drop (Int.toNat (IntKind.wrap .i64 (r_1.1+1))) Bo);let Ji:=List.getD dz.1 (Int.toNat 5) [];bn (zog AF (List.getD dz.1 (Int.toNat 4) [])) fun A8=>
     bn (zog AF (List.getD dz.1 (Int.toNat 3) [])) fun BW=>
     bn (zog AF (List.getD dz.1 (Int.toNat 2) [])) fun BJ=>
     bn (zog AF (List.getD dz.1 (Int.toNat 1) [])) fun Dx=>
     bn (zog AF (List.getD dz.1 (Int.toNat 0) [])) fun De=>
     let Bp:=List.getD dz.1 (Int.toNat 0) [];let qe:=List.getD dz.1 (Int.toNat 1) [];let z9:=List.getD dz.1 (Int.toNat 2) [];let v9:=List.getD dz.1 (Int.toNat 3) [];let n_:=List.getD dz.1 (Int.toNat 4) [];let iL:=IntKind.wrap .i64 (r_1.1+1);bif kL [decide (0≤iL),decide (iL≤(↑(List.length Bo):Int)),decide ((↑(List.length Bo):Int)≤(↑(List.length Bo):Int)),true,decide (5<r5),qu (AF n_),true,decide (4<r5),qu (AF v9),true,decide (3<r5),qu (AF z9),true,decide (2<r5),qu (AF qe),true,decide (1<r5),qu (AF Bp),true,decide (0<r5)] then
      bn (zog EG (De.1,Dx.1,BJ.1,BW.1,A8.1,Ji,Kp,())) fun DZ=>
      bn (zog Iq (De.1,Dx.1,BJ.1,BW.1,A8.1,Ji,Kp,())) fun r_22=>
      let nI:=bif !DZ.1 then true else !r_22.1==Bo;bif kL [!!!DZ.1 || qu (Iq (De.1,Dx.1,BJ.1,BW.1,A8.1,Ji,Kp,())),qu (EG (De.1,Dx.1,BJ.1,BW.1,A8.1,Ji,Kp,()))] then
       bif nI then
        some (((0,0,0,0,0,[],[],()),false),())
       else
        some (((De.1,Dx.1,BJ.1,BW.1,A8.1,Ji,Kp,()),true),())
      else none
     else none
   else none
abbrev Wh.acq:Type:=(Int×Int×Unit)×List Int
abbrev Wh.aiR:Type:=Unit×List Int
def Wh.ON (x:acq):Option (acq⊕aiR):=
 let BP:=x.1.1;let n_28:=x.1.2.1;let BQ:=x.2;bif decide (BP≥0) then
  let vT:List Int:=[IntKind.wrap .u8 (Int.fdiv n_28 (2 ^ Min.min (Int.toNat (IntKind.wrap .i64 (8*BP))) (Go.IntKind.bits Go.IntKind.i64)))];let Au:=BQ++vT;bif kL [decide (List.length BQ+(1:Nat)≤eV),decide (0≤(IntKind.wrap .i64 (8*BP)))] then
   some (.inl (((IntKind.wrap .i64 (BP-1)),n_28,()),Au))
  else none
 else
  some (.inr ((),BQ))
def Wh.acr:Unit×List Int:=default
abbrev Wh.aco:Type:=(Unit×List UInt8)×List Int
abbrev Wh.aiQ:Type:=(Unit×List UInt8)×List Int
def Wh.MJ (x:aco):Option (aco⊕aiQ):=
 let adp:=x.1.2;let Jd:=x.2;let Ck:Bool:=(Int.tmod (↑(List.length Jd):Int) 64) != 56;bif Ck then
  let N2:=Jd ++ [(0:Int)];bif kL [decide (List.length Jd+(1:Nat)≤eV)] then
   some (.inl (((),adp),N2))
  else none
 else
  some (.inr (((),adp),Jd))
def Wh.acp:(Unit×List UInt8)×List Int:=default
def Wh.q86 (xs:List UInt8):Option (List Int×Unit):=
 let Bo:=xs;let Eh:List Int:=bytesOf Bo ++ [(128:Int)];bif kL [decide (List.length (bytesOf Bo)+(1:Nat)≤eV),decide (List.length Bo≤eV)] then
  g8 MJ acp ((((),Bo),Eh)) fun y_13=>
   let aku:=y_13.1.2;let xb:=y_13.2;g8 ON acr (((7,(IntKind.wrap .i64 ((↑(List.length aku):Int)*8)),()),xb)) fun y_38=>
    let AI:=y_38.2;some (AI,())
 else none
def Wh.z4 (xs:Int×Int):Option (Int×Unit):=
 let x_0:=xs.1;let n_1:=xs.2;let v_2:Int:=Int.fdiv x_0 (2 ^ Min.min (Int.toNat n_1) (Go.IntKind.bits Go.IntKind.u32));let AR:=IntKind.wrap .i64 (32-n_1);let r5:Int:=pZ Go.BinOp.or Go.IntKind.u32 v_2 (IntKind.wrap .u32 (x_0*2 ^ Min.min (Int.toNat AR) (Go.IntKind.bits Go.IntKind.u32)));bif kL [decide (0≤AR),decide (0≤n_1)] then
  some (r5,())
 else none
abbrev Wh.Z8:Type:=(Int×Unit)×List Int
abbrev Wh.ahK:Type:=Unit×List Int
def Wh.OF (x:Z8):Option (Z8⊕ahK):=
 let IY:=x.1.1;let Ee:=x.2;bif decide (IY<64) then
  let v_96:=IntKind.wrap .i64 (IY-15);let Pj:=List.getD Ee (Int.toNat v_96) 0;bif kL [decide (0≤v_96),decide (v_96<(↑(List.length Ee):Int))] then
   let v_99:=IntKind.wrap .i64 (IY-2);let Pk:=List.getD Ee (Int.toNat v_99) 0;bif kL [decide (0≤v_99),decide (v_99<(↑(List.length Ee):Int))] then
    bn (zog z4 (Pj,7)) fun r_102=>
    bn (zog z4 (Pj,18)) fun r_103=>
    let v_105:Int:=Int.fdiv Pj (2 ^ Min.min (Int.toNat 3) (Go.IntKind.bits Go.IntKind.u32));let a_107:Int:=pZ Go.BinOp.xor Go.IntKind.u32 (pZ Go.BinOp.xor Go.IntKind.u32 r_102.1 r_103.1) v_105;bif kL [true,qu (z4 (Pj,18)),qu (z4 (Pj,7))] then
     bn (zog z4 (Pk,17)) fun r_108=>
     bn (zog z4 (Pk,19)) fun r_109=>
     let v_111:Int:=Int.fdiv Pk (2 ^ Min.min (Int.toNat 10) (Go.IntKind.bits Go.IntKind.u32));let c_113:Int:=pZ Go.BinOp.xor Go.IntKind.u32 (pZ Go.BinOp.xor Go.IntKind.u32 r_108.1 r_109.1) v_111;bif kL [true,qu (z4 (Pk,19)),qu (z4 (Pk,17))] then
      let pb_114:List Int:=[IntKind.wrap .u32 (IntKind.wrap .u32 (IntKind.wrap .u32 (List.getD Ee (Int.toNat (IntKind.wrap .i64 (IY-16))) 0+a_107)+List.getD Ee (Int.toNat (IntKind.wrap .i64 (IY-7))) 0)+c_113)];let FU:=Ee++pb_114;let v_116:=IntKind.wrap .i64 (IY-16);let v_119:=IntKind.wrap .i64 (IY-7);bif kL [decide (List.length Ee+(1:Nat)≤eV),decide (0≤v_119),decide (v_119<(↑(List.length Ee):Int)),decide (0≤v_116),decide (v_116<(↑(List.length Ee):Int))] then
       some (.inl (((IntKind.wrap .i64 (IY+1)),()),FU))
      else none
     else none
    else none
   else none
  else none
 else
  some (.inr ((),Ee))
def Wh.Z9:Unit×List Int:=default
abbrev Wh.Z6:Type:=(Int×List Int×Unit)×List Int
abbrev Wh.ahJ:Type:=Unit×List Int
def Wh.OE (x:Z6):Option (Z6⊕ahJ):=
 let J6:=x.1.1;let Hz:=x.1.2.1;let Au:=x.2;bif decide (J6<16) then
  let QC:List Int:=[pZ Go.BinOp.or Go.IntKind.u32 (pZ Go.BinOp.or Go.IntKind.u32 (pZ Go.BinOp.or Go.IntKind.u32 (IntKind.wrap .u32 (IntKind.wrap .u32 (List.getD Hz (Int.toNat (IntKind.wrap .i64 (4*J6))) 0)*2 ^ Min.min (Int.toNat 24) (Go.IntKind.bits Go.IntKind.u32))) (IntKind.wrap .u32 (IntKind.wrap .u32 (List.getD Hz (Int.toNat (IntKind.wrap .i64 (IntKind.wrap .i64 (4*J6)+1))) 0)*2 ^ Min.min (Int.toNat 16) (Go.IntKind.bits Go.IntKind.u32)))) (IntKind.wrap .u32 (IntKind.wrap .u32 (List.getD Hz (Int.toNat (IntKind.wrap .i64 (IntKind.wrap .i64 (4*J6)+2))) 0)*2 ^ Min.min (Int.toNat 8) (Go.IntKind.bits Go.IntKind.u32)))) (IntKind.wrap .u32 (List.getD Hz (Int.toNat (IntKind.wrap .i64 (IntKind.wrap .i64 (4*J6)+3))) 0))];let m6:=Au++QC;let C5:=IntKind.wrap .i64 (4*J6);bif kL [decide (List.length Au+(1:Nat)≤eV),decide (0≤IntKind.wrap .i64 (C5+3)),decide (IntKind.wrap .i64 (C5+3)<(↑(List.length Hz):Int)),true,decide (0≤IntKind.wrap .i64 (C5+2)),decide (IntKind.wrap .i64 (C5+2)<(↑(List.length Hz):Int)),true,decide (0≤IntKind.wrap .i64 (C5+1)),decide (IntKind.wrap .i64 (C5+1)<(↑(List.length Hz):Int)),true,decide (0≤C5),decide (C5<(↑(List.length Hz):Int))] then
   some (.inl (((IntKind.wrap .i64 (J6+1)),Hz,()),m6))
  else none
 else
  some (.inr ((),Au))
def Wh.Z7:Unit×List Int:=default
def Wh.Me (xs:List Int):Option (List Int×Unit):=
 let BM:=xs;g8 OE Z7 (((0,BM,()),[])) fun y_60=>
  let BR:=y_60.2;g8 OF Z9 (((16,()),BR)) fun y_125=>
   let GR:=y_125.2;some (GR,())
def Wh.q85 (_:Unit):Option (((List (Int)))×(Unit)):=
 let pb_0:List Int:=[(1116352408:Int),1899447441,3049323471,3921009573,961987163,1508970993,2453635748,2870763221,3624381080,310598401,607225278,1426881987,1925078388,2162078206,2614888103,3248222580,3835390401,4022224774,264347078,604807628,770255983,1249150122,1555081692,1996064986,2554220882,2821834349,2952996808,3210313671,3336571891,3584528711,113926993,338241895,666307205,773529912,1294757372,1396182291,1695183700,1986661051,2177026350,2456956037,2730485921,2820302411,3259730800,3345764771,3516065817,3600352804,4094571909,275423344,430227734,506948616,659060556,883997877,958139571,1322822218,1537002063,1747873779,1955562222,2024104815,2227730452,2361852424,2428436474,2756734187,3204031479,3329325298];some (pb_0,())
abbrev Wh.Z4:Type:=(Int×Unit×List Int×Unit)×List Int×List Int
abbrev Wh.ahI:Type:=Unit×List Int
def Wh.T6 (x:Z4):Option (Z4⊕ahI):=
 let IT:=x.1.1;let SV:=x.1.2.2.1;let FW:=x.2.1;let FX:=x.2.2;bif decide (IT<8) then
  let pb_193:List Int:=[IntKind.wrap .u32 (List.getD SV (Int.toNat IT) 0+List.getD FW (Int.toNat IT) 0)];let Ke:=FX++pb_193;bif kL [decide (List.length FX+(1:Nat)≤eV),decide (0≤IT),decide (IT<(↑(List.length FW):Int)),decide (0≤IT),decide (IT<(↑(List.length SV):Int))] then
   some (.inl (((IntKind.wrap .i64 (IT+1)),(),SV,()),FW,Ke))
  else none
 else
  some (.inr ((),FX))
def Wh.Z5:Unit×List Int:=default
abbrev Wh.Z3:Type:=(Int×Unit×Unit×Unit×List Int×Int×Int×Int×Int)×List Int×List Int×List Int
abbrev Wh.ahH:Type:=(Unit×Unit×Unit×List Int×Int×Int×Int×Int)×List Int×List Int×List Int
def Wh.T4 (x:Z3):Option (Z3⊕ahH):=
 let L0:=x.1.1;let h_73:=x.1.2.2.2.2.1;let i_74:=x.1.2.2.2.2.2.1;let YY:=x.1.2.2.2.2.2.2.1;let a_76:=x.1.2.2.2.2.2.2.2.1;let t_77:=x.1.2.2.2.2.2.2.2.2;let EA:=x.2.1;let EX:=x.2.2.1;let Ed:=x.2.2.2;bif decide (L0>0) then
  let CX:=List.set EA (Int.toNat L0) (List.getD EA (Int.toNat (IntKind.wrap .i64 (L0-1))) 0);let II:=IntKind.wrap .i64 (L0-1);bif kL [decide (0≤L0),decide (L0<(↑(List.length EA):Int)),decide (0≤II),decide (II<(↑(List.length EA):Int))] then
   some (.inl ((II,(),(),(),h_73,i_74,YY,a_76,t_77),CX,EX,Ed))
  else none
 else
  some (.inr (((),(),(),h_73,i_74,YY,a_76,t_77),EA,EX,Ed))
def Wh.T5:(Unit×Unit×Unit×List Int×Int×Int×Int×Int)×List Int×List Int×List Int:=default
abbrev Wh.ZZ:Type:=(Unit×Int×Unit×Unit×List Int)×List Int×List Int×List Int
abbrev Wh.ahG:Type:=(Unit×List Int)×List Int
def Wh.OD (x:ZZ):Option (ZZ⊕ahG):=
 let IS:=x.1.2.1;let h_103:=x.1.2.2.2.2;let AH:=x.2.1;let Ev:=x.2.2.1;let Ew:=x.2.2.2;bif decide (IS<64) then
  let JM:=List.getD AH (Int.toNat 4) 0;bn (zog z4 (JM,6)) fun r_119=>
  bn (zog z4 (JM,11)) fun Iw=>
  bn (zog z4 (JM,25)) fun r_121=>
  let e_122:Int:=pZ Go.BinOp.xor Go.IntKind.u32 (pZ Go.BinOp.xor Go.IntKind.u32 r_119.1 Iw.1) r_121.1;bif kL [qu (z4 (JM,25)),true,decide (4<(↑(List.length AH):Int)),qu (z4 (JM,11)),true,decide (4<(↑(List.length AH):Int)),qu (z4 (JM,6)),true,decide (4<(↑(List.length AH):Int))] then
   let v_123:=List.getD AH (Int.toNat 5) 0;let v_124:=List.getD AH (Int.toNat 6) 0;let ch_127:Int:=pZ Go.BinOp.xor Go.IntKind.u32 (pZ Go.BinOp.and Go.IntKind.u32 JM v_123) (pZ Go.BinOp.and Go.IntKind.u32 (pZ Go.BinOp.xor Go.IntKind.u32 (Go.IntKind.max Go.IntKind.u32) JM) v_124);bif kL [true,decide (6<(↑(List.length AH):Int)),true,decide (4<(↑(List.length AH):Int)),true,decide (5<(↑(List.length AH):Int)),true,decide (4<(↑(List.length AH):Int))] then
    let RF:=List.getD AH (Int.toNat 7) 0;let v_131:=List.getD Ew (Int.toNat IS) 0;let UD:=List.getD Ev (Int.toNat IS) 0;bif kL [decide (0≤IS),decide (IS<(↑(List.length Ev):Int)),decide (0≤IS),decide (IS<(↑(List.length Ew):Int)),true,decide (7<(↑(List.length AH):Int))] then
     let Hr:=List.getD AH (Int.toNat 0) 0;bn (zog z4 (Hr,2)) fun r_147=>
     bn (zog z4 (Hr,13)) fun r_148=>
     bn (zog z4 (Hr,22)) fun r_149=>
     let a_150:Int:=pZ Go.BinOp.xor Go.IntKind.u32 (pZ Go.BinOp.xor Go.IntKind.u32 r_147.1 r_148.1) r_149.1;bif kL [qu (z4 (Hr,22)),true,decide (0<(↑(List.length AH):Int)),qu (z4 (Hr,13)),true,decide (0<(↑(List.length AH):Int)),qu (z4 (Hr,2)),true,decide (0<(↑(List.length AH):Int))] then
      let v_151:=List.getD AH (Int.toNat 1) 0;let v_152:=List.getD AH (Int.toNat 2) 0;let agN:Int:=pZ Go.BinOp.xor Go.IntKind.u32 (pZ Go.BinOp.xor Go.IntKind.u32 (pZ Go.BinOp.and Go.IntKind.u32 Hr v_151) (pZ Go.BinOp.and Go.IntKind.u32 Hr v_152)) (pZ Go.BinOp.and Go.IntKind.u32 v_151 v_152);bif kL [true,decide (2<(↑(List.length AH):Int)),true,decide (1<(↑(List.length AH):Int)),true,decide (2<(↑(List.length AH):Int)),true,decide (0<(↑(List.length AH):Int)),true,decide (1<(↑(List.length AH):Int)),true,decide (0<(↑(List.length AH):Int))] then
       g8 T4 T5 (((7,(),(),(),h_103,IS,agN,a_150,(IntKind.wrap .u32 (IntKind.wrap .u32 (IntKind.wrap .u32 (IntKind.wrap .u32 (RF+e_122)+ch_127)+v_131)+UD))),AH,Ev,Ew)) fun JR=>
        let h_158:=JR.1.2.2.2.1;let i_159:=JR.1.2.2.2.2.1;let agO:=JR.1.2.2.2.2.2.1;let a_161:=JR.1.2.2.2.2.2.2.1;let t_162:=JR.1.2.2.2.2.2.2.2;let LW:=JR.2.1;let Tq:=JR.2.2.1;let Tr:=JR.2.2.2;let YL:=List.set LW (Int.toNat 4) (IntKind.wrap .u32 (List.getD LW (Int.toNat 4) 0+t_162));bif kL [true,decide (4<(↑(List.length LW):Int)),true,decide (4<(↑(List.length LW):Int))] then
         let ls_169:=List.set YL (Int.toNat 0) (IntKind.wrap .u32 (IntKind.wrap .u32 (t_162+a_161)+agO));bif kL [true,decide (0<(↑(List.length YL):Int))] then
          some (.inl (((),(IntKind.wrap .i64 (i_159+1)),(),(),h_158),ls_169,Tq,Tr))
         else none
        else none
      else none
     else none
    else none
   else none
  else none
 else
  some (.inr (((),h_103),AH))
def Wh.Z0:(Unit×List Int)×List Int:=default
def Wh.KH (xs:List Int×List Int):Option (List Int×Unit):=
 let h_0:=xs.1;let b_1:=xs.2;c9 Me b_1 fun r_2=>
  c9 q85 () fun r_3=>
   let Ow:List Int:=[]++h_0;bif kL [decide ((0:Nat)+List.length h_0≤eV)] then
    g8 OD Z0 ((((),0,(),(),h_0),Ow,r_2.1,r_3.1)) fun y_174=>
     let h_175:=y_174.1.2;let ls_176:=y_174.2;g8 T6 Z5 (((0,(),h_175,()),ls_176,[])) fun y_200=>
      let FY:=y_200.2;some (FY,())
   else none
abbrev Wh.aa7:Type:=(Int×Unit×Unit)×List Int×List Int
abbrev Wh.aie:Type:=Unit×List Int
def Wh.T8 (x:aa7):Option (aa7⊕aie):=
 let Er:=x.1.1;let th:=x.2.1;let m6:=x.2.2;bif decide (Er<8) then
  let TU:List Int:=[IntKind.wrap .u8 (Int.fdiv (List.getD th (Int.toNat Er) 0) (2 ^ Min.min (Int.toNat 24) (Go.IntKind.bits Go.IntKind.u32))),IntKind.wrap .u8 (Int.fdiv (List.getD th (Int.toNat Er) 0) (2 ^ Min.min (Int.toNat 16) (Go.IntKind.bits Go.IntKind.u32))),IntKind.wrap .u8 (Int.fdiv (List.getD th (Int.toNat Er) 0) (2 ^ Min.min (Int.toNat 8) (Go.IntKind.bits Go.IntKind.u32))),IntKind.wrap .u8 (List.getD th (Int.toNat Er) 0)];let ng:=m6++TU;bif kL [decide (List.length m6+(4:Nat)≤eV),decide (0≤Er),decide (Er<(↑(List.length th):Int)),true,decide (0≤Er),decide (Er<(↑(List.length th):Int)),true,decide (0≤Er),decide (Er<(↑(List.length th):Int)),true,decide (0≤Er),decide (Er<(↑(List.length th):Int))] then
   some (.inl (((IntKind.wrap .i64 (Er+1)),(),()),th,ng))
  else none
 else
  some (.inr ((),m6))
def Wh.aa8:Unit×List Int:=default
abbrev Wh.aa5:Type:=(Int×Unit×Unit)×List Int×List Int
abbrev Wh.aid:Type:=Unit×List Int
def Wh.Mr (x:aa5):Option (aa5⊕aid):=
 let CS:=x.1.1;let HP:=x.2.1;let N2:=x.2.2;bif decide (CS<(↑(List.length HP):Int)) then
  bn (zog KH (N2,List.take (Int.toNat (IntKind.wrap .i64 (CS+64)-CS)) (List.drop (Int.toNat CS) HP))) fun Dx=>
  let r_:=IntKind.wrap .i64 (CS+64);bif kL [qu (KH (N2,List.take (Int.toNat (r_-CS)) (List.drop (Int.toNat CS) HP))),decide (0≤CS),decide (CS≤r_),decide (r_≤(↑(List.length HP):Int))] then
   some (.inl ((r_,(),()),HP,Dx.1))
  else none
 else
  some (.inr ((),N2))
def Wh.aa6:Unit×List Int:=default
def Wh.KY (xs:List UInt8):Option (List UInt8×Unit):=
 let Bo:=xs;c9 q86 Bo fun r_1=>
  g8 Mr aa6 (((0,(),()),r_1.1,[(1779033703:Int),3144134277,1013904242,2773480762,1359893119,2600822924,528734635,1541459225])) fun y_17=>
   let AO:=y_17.2;g8 T8 aa8 (((0,(),()),AO,[])) fun y_48=>
    let Av:=y_48.2;some (tv Av,())
abbrev Wh.aa3:Type:=(Int×List UInt8×Unit)×List Int
abbrev Wh.aic:Type:=Unit×List Int
def Wh.Mq (x:aa3):Option (aa3⊕aic):=
 let BO:=x.1.1;let D3:=x.1.2.1;let xb:=x.2;let qe:=decide (BO<(↑(List.length D3):Int));bif qe then
  let TN:List Int:=[(↑(UInt8.toNat (List.getD [(48:UInt8),(49:UInt8),(50:UInt8),(51:UInt8),(52:UInt8),(53:UInt8),(54:UInt8),(55:UInt8),(56:UInt8),(57:UInt8),(97:UInt8),(98:UInt8),(99:UInt8),(100:UInt8),(101:UInt8),(102:UInt8)] (Int.toNat (IntKind.wrap .u8 (Int.tdiv (↑(UInt8.toNat (List.getD D3 (Int.toNat BO) (0:UInt8))):Int) 16))) (0:UInt8))):Int),(↑(UInt8.toNat (List.getD [(48:UInt8),(49:UInt8),(50:UInt8),(51:UInt8),(52:UInt8),(53:UInt8),(54:UInt8),(55:UInt8),(56:UInt8),(57:UInt8),(97:UInt8),(98:UInt8),(99:UInt8),(100:UInt8),(101:UInt8),(102:UInt8)] (Int.toNat (Int.tmod (↑(UInt8.toNat (List.getD D3 (Int.toNat BO) (0:UInt8))):Int) 16)) (0:UInt8))):Int)];let AO:=xb++TN;let n_:Int:=(↑(UInt8.toNat (List.getD D3 (Int.toNat BO) (0:UInt8))):Int);bif kL [decide (List.length xb+(2:Nat)≤eV),decide (0≤Int.tmod n_ 16),decide (Int.tmod n_ 16<(↑(16:Nat):Int)),true,decide (0≤BO),qe,decide (0≤IntKind.wrap .u8 (Int.tdiv n_ 16)),decide (IntKind.wrap .u8 (Int.tdiv n_ 16)<(↑(16:Nat):Int)),true,decide (0≤BO),qe] then
   some (.inl (((IntKind.wrap .i64 (BO+1)),D3,()),AO))
  else none
 else
  some (.inr ((),xb))
def Wh.aa4:Unit×List Int:=default
def Wh.Im (xs:List UInt8):Option (List UInt8×Unit):=
 let cx:=xs;g8 Mq aa4 (((0,cx,()),[])) fun JS=>
  let Bq:=JS.2;some (tv Bq,())
def Wh.q94 (xs:List UInt8):Option (List UInt8×Unit):=
 let Bo:=xs;bn (zog KY Bo) fun r_1=>
 bn (zog Im r_1.1) fun r_3=>
 bif kL [qu (Im r_1.1),qu (KY Bo)] then
  some (r_3.1,())
 else none
def Wh.Ih (xs:Int×List UInt8):Option (List UInt8×Unit):=
 let Du:=xs.1;let C4:=xs.2;bn (zog Aw Du) fun r_2=>
 bn (zog Aw (↑(List.length C4):Int)) fun dz=>
 let J5:=r_2.1 ++ [(32:UInt8)]++dz.1 ++ [(32:UInt8)];bif kL [decide (List.length (r_2.1 ++ [(32:UInt8)]++dz.1)+(1:Nat)≤eV),decide (List.length (r_2.1 ++ [(32:UInt8)])+List.length dz.1≤eV),qu (Aw (↑(List.length C4):Int)),decide (List.length r_2.1+(1:Nat)≤eV),qu (Aw Du)] then
  let FG:List UInt8:=J5++C4;bn (zog q94 FG) fun CL=>
  let A4:List UInt8:=J5++List.take (Int.toNat ((16:Int)-0)) (List.drop (Int.toNat 0) CL.1) ++ [(32:UInt8)]++C4 ++ [(10:UInt8)];bif kL [decide (List.length (J5++List.take (Int.toNat ((16:Int)-0)) (List.drop (Int.toNat 0) (CL.1)) ++ [(32:UInt8)]++C4)+(1:Nat)≤eV),decide (List.length (J5++List.take (Int.toNat ((16:Int)-0)) (List.drop (Int.toNat 0) (CL.1)) ++ [(32:UInt8)])+List.length C4≤eV),decide (List.length (J5++List.take (Int.toNat ((16:Int)-0)) (List.drop (Int.toNat 0) (CL.1)))+(1:Nat)≤eV),decide (List.length J5+List.length (List.take (Int.toNat ((16:Int)-0)) (List.drop (Int.toNat 0) (CL.1)))≤eV),true,true,decide (16≤(↑(List.length (CL.1)):Int)),qu (q94 FG),decide (List.length J5+List.length C4≤eV)] then
   some (A4,())
  else none
 else none
def Wh.Ju (xs:List UInt8×Int×Int):Option ((List UInt8×Int)×Unit):=
 let Bc:=xs.1;let Da:=xs.2.1;let TC:=xs.2.2;c9 Cz (Bc,Da,32) fun r_3=>
  let AG:=decide (r_3.1<0);bn (zog AF (List.take (Int.toNat (r_3.1-Da)) (List.drop (Int.toNat Da) Bc))) fun gv=>
  let r5:=bif AG then true else gv.1 != TC;bif kL [!!AG || qu (AF (List.take (Int.toNat (r_3.1-Da)) (List.drop (Int.toNat Da) Bc))),!!AG || decide (0≤Da),!!AG || decide (Da≤r_3.1),!!AG || decide (r_3.1≤(↑(List.length Bc):Int))] then
   bif r5 then
    some (([],0),())
   else
    let n4:=IntKind.wrap .i64 (r_3.1+1);c9 Cz (Bc,n4,32) fun z5=>
     bif decide (z5.1<0) then
      some (([],0),())
     else
      bn (zog AF (List.take (Int.toNat (z5.1-n4)) (List.drop (Int.toNat n4) Bc))) fun Dx=>
      bif kL [qu (AF (List.take (Int.toNat (z5.1-n4)) (List.drop (Int.toNat n4) Bc))),decide (0≤n4),decide (n4≤z5.1),decide (z5.1≤(↑(List.length Bc):Int))] then
       let r_:=IntKind.wrap .i64 (z5.1+18);bn (zog gh (Dx.1,1,500)) fun E9=>
       let qe:=bif !E9.1 then true else decide (IntKind.wrap .i64 (IntKind.wrap .i64 (r_+Dx.1)+1)>(↑(List.length Bc):Int));bif kL [qu (gh (Dx.1,1,500))] then
        bif qe then
         some (([],0),())
        else
         let z9:=IntKind.wrap .i64 (r_+Dx.1);bn (zog Ih (TC,List.take (Int.toNat (z9-r_)) (List.drop (Int.toNat r_) Bc))) fun CL=>
         bif kL [qu (Ih (TC,List.take (Int.toNat (z9-r_)) (List.drop (Int.toNat r_) Bc))),decide (0≤r_),decide (r_≤z9),decide (z9≤(↑(List.length Bc):Int))] then
          bif kL [decide (0≤Da),decide (Da≤IntKind.wrap .i64 (z9+1)),decide (IntKind.wrap .i64 (z9+1)≤(↑(List.length Bc):Int))] then
           bif(!List.take (Int.toNat (IntKind.wrap .i64 (z9+1)-Da)) (List.drop (Int.toNat Da) Bc)==CL.1) then
            some (([],0),())
           else
            let Gu:Int:=(↑(List.length CL.1):Int);let x3:List UInt8:=List.take (Int.toNat (z9-r_)) (List.drop (Int.toNat r_) Bc);bif kL [decide (0≤r_),decide (r_≤z9),decide (z9≤(↑(List.length Bc):Int))] then
             some ((x3,Gu),())
            else none
          else none
         else none
       else none
      else none
  else none
abbrev Wh.aaL:Type:=(Int×Unit×List UInt8)×List (List UInt8)
abbrev Wh.ah4:Type:=(Unit×Int)×List (List UInt8)
def Wh.Mn (x:aaL):Option (aaL⊕ah4):=
 let R5:=x.1.1;let YA:=x.1.2.2;let Bd:=x.2;let iL:Int:=(↑(List.length Bd):Int);c9 Ju (YA,R5,iL) fun EJ=>
  bif(EJ.1.2==0) then
   some (.inr (((),R5),Bd))
  else
   let EZ:List (List UInt8):=[EJ.1.1];let Bg:List (List UInt8):=Bd++EZ;bif kL [decide (List.length Bd+(1:Nat)≤eV)] then
    some (.inl (((IntKind.wrap .i64 (R5+EJ.1.2)),(),YA),Bg))
   else none
def Wh.aaM:(Unit×Int)×List (List UInt8):=default
def Wh.Fw (xs:List UInt8):Option ((List (List UInt8)×Int)×Unit):=
 let Bc:=xs;g8 Mn aaM (((0,(),Bc),[])) fun Lx=>
  let BK:=Lx.1.2;let AD:=Lx.2;some ((AD,BK),())
def Wh.G9 (xs:an.D):Option (Bool×Unit):=
 let t_0:an.D:=xs;bn (zog gh (t_0.1,0,1)) fun r_1=>
 bn (zog DX t_0.2.1) fun r_2=>
 bn (zog gh ((↑(List.length (t_0.2.2.2.1)):Int),1,300)) fun gv=>
 let n4:=bif bif r_1.1 then r_2.1 else false then gv.1 else false;bif kL [(!bif r_1.1 then r_2.1 else false) || qu (gh ((↑(List.length (t_0.2.2.2.1)):Int),1,300)),!r_1.1 || qu (DX t_0.2.1),qu (gh (t_0.1,0,1))] then
  some (n4,())
 else none
def Wh.E5 (xs:Int×List UInt8×List UInt8):Option (List UInt8×Unit):=
 let LM:=xs.1;let CZ:=xs.2.1;let M4:=xs.2.2;let AR:=M4 == [];bif AR then
  c9 G9 (LM,CZ,0,[(120:UInt8)],()) fun dz=>
   bif !dz.1 then
    some ([],())
   else
    bn (zog Aw LM) fun gv=>
    let Ck:=gv.1 ++ [(32:UInt8)]++CZ ++ [(58:UInt8)]++M4;bif kL [decide (List.length (gv.1 ++ [(32:UInt8)]++CZ ++ [(58:UInt8)])+List.length M4≤eV),decide (List.length (gv.1 ++ [(32:UInt8)]++CZ)+(1:Nat)≤eV),decide (List.length (gv.1 ++ [(32:UInt8)])+List.length CZ≤eV),decide (List.length gv.1+(1:Nat)≤eV),qu (Aw LM)] then
     some (Ck,())
    else none
 else
  c9 G9 (LM,CZ,0,M4,()) fun BW=>
   bif !BW.1 then
    some ([],())
   else
    bn (zog Aw LM) fun BJ=>
    let z9:=BJ.1 ++ [(32:UInt8)]++CZ ++ [(58:UInt8)]++M4;bif kL [decide (List.length (BJ.1 ++ [(32:UInt8)]++CZ ++ [(58:UInt8)])+List.length M4≤eV),decide (List.length (BJ.1 ++ [(32:UInt8)]++CZ)+(1:Nat)≤eV),decide (List.length (BJ.1 ++ [(32:UInt8)])+List.length CZ≤eV),decide (List.length BJ.1+(1:Nat)≤eV),qu (Aw LM)] then
     some (z9,())
    else none
def Wh.Jv (xs:an.D×Int×List UInt8):Option (Bool×Unit):=
 let s5:=xs.1;let A5:=xs.2.1;let Dd:=xs.2.2;let oc:=bif decide (s5.1<A5) then true else bif s5.1==A5 then Go.Op.bytesLess s5.2.1 Dd else false;some (oc,())
abbrev Wh.aab:Type:=(Int×List an.D×Int×Int)×Unit
abbrev Wh.ahM:Type:=Int×Unit
def Wh.KJ (x:aab):Option (aab⊕ahM):=
 let AB:=x.1.1;let Qg:=x.1.2.1;let n_17:=x.1.2.2.1;let SZ:=x.1.2.2.2;let n_:Int:=(↑(List.length Qg):Int);bif decide (AB<n_) then
  let A4:an.D:=List.getD Qg (Int.toNat AB) (0,[],0,[],());bif kL [decide (0≤AB),decide (AB<n_)] then
   bif(A4.1==SZ) then
    bif kL [decide (0≤AB),decide (AB<n_)] then
     some (.inl (((IntKind.wrap .i64 (AB+1)),Qg,(IntKind.wrap .i64 (n_17+(↑(List.length (A4.2.2.2.1)):Int))),SZ),()))
    else none
   else
    some (.inl (((IntKind.wrap .i64 (AB+1)),Qg,n_17,SZ),()))
  else none
 else
  some (.inr (n_17,()))
def Wh.aac:Int×Unit:=default
def Wh.Jn (xs:List an.D×Int):Option (Int×Unit):=
 let J8:=xs.1;let A5:=xs.2;g8 KJ aac (((0,J8,0,A5),())) fun C6=>
  let n_30:=C6.1;some (n_30,())
abbrev Wh.aaV:Type:=(Int×Unit)×g9.D
abbrev Wh.ah9:Type:=Bool×Unit⊕Unit×Unit
def Wh.OI (x:aaV):Option (aaV⊕ah9):=
 let h_66:=x.1.1;let BH:=x.2;bif decide (h_66<2) then
  c9 Jn (BH.2.1,h_66) fun r_69=>
   bif decide (r_69.1>500) then
    some (.inr (.inl (false,())))
   else
    some (.inl (((IntKind.wrap .i64 (h_66+1)),()),BH))
 else
  some (.inr (.inr ((),())))
def Wh.aaW:Bool×Unit⊕Unit×Unit:=.inl default
abbrev Wh.aaT:Type:=(Int×Unit×Unit×Int)×an.D×g9.D
abbrev Wh.ah8:Type:=Bool×Unit⊕(Unit×Int)×g9.D
def Wh.Mp (x:aaT):Option (aaT⊕ah8):=
 let NW:=x.1.1;let i_23:=x.1.2.2.2;let Be:=x.2.1;let AZ:=x.2.2;bif decide (NW<i_23) then
  let Dz:an.D:=List.getD AZ.2.1 (Int.toNat NW) (0,[],0,[],());bif kL [decide (0≤NW),decide (NW<(↑(List.length AZ.2.1):Int))] then
   bif(Dz.2.2.1==Be.2.2.1) then
    some (.inr (.inl (false,())))
   else
    some (.inl (((IntKind.wrap .i64 (NW+1)),(),(),i_23),Be,AZ))
  else none
 else
  some (.inr (.inr (((),i_23),AZ)))
def Wh.aaU:Bool×Unit⊕(Unit×Int)×g9.D:=.inl default
abbrev Wh.aaR:Type:=(Unit×Int)×g9.D
abbrev Wh.ah7:Type:=Bool×Unit⊕Unit×g9.D
def Wh.KT (x:aaR):Option (aaR⊕ah7):=
 let Dl:=x.1.2;let ng:=x.2;let EN:Int:=(↑(List.length ng.2.1):Int);bif decide (Dl<EN) then
  let H6:an.D:=List.getD ng.2.1 (Int.toNat Dl) (0,[],0,[],());bif kL [decide (0≤Dl),decide (Dl<EN)] then
   bn (zog G9 H6) fun OQ=>
   bn (zog gh (H6.2.2.1,1,ng.1)) fun EK=>
   bn (zog Jv (List.getD ng.2.1 (Int.toNat (IntKind.wrap .i64 (Dl-1))) (0,[],0,[],()),H6.1,H6.2.1)) fun JG=>
   let v_47:=bif bif !OQ.1 then true else !EK.1 then true else bif decide (Dl>0) then !JG.1 else false;bif kL [!(decide (Dl>0) && !bif !OQ.1 then true else !EK.1) || qu (Jv (List.getD ng.2.1 (Int.toNat (IntKind.wrap .i64 (Dl-1))) (0,[],0,[],()),H6.1,H6.2.1)),!(decide (Dl>0) && !bif !OQ.1 then true else !EK.1) || decide (0≤IntKind.wrap .i64 (Dl-1)),!(decide (Dl>0) && !bif !OQ.1 then true else !EK.1) || decide (IntKind.wrap .i64 (Dl-1)<EN),!!!OQ.1 || qu (gh (H6.2.2.1,1,ng.1)),qu (G9 H6)] then
    bif v_47 then
     some (.inr (.inl (false,())))
    else
     g8 Mp aaU (((0,(),(),Dl),H6,ng)) fun q_=>
      sumC q_ (fun Nk=>
       let B9:=Nk.1;some (.inr (.inl (B9,())))) (fun z_50=>
       let i_52:=z_50.1.2;let AE:=z_50.2;some (.inl (((),(IntKind.wrap .i64 (i_52+1))),AE)))
   else none
  else none
 else
  some (.inr (.inr ((),ng)))
def Wh.aaS:Bool×Unit⊕Unit×g9.D:=.inl default
def Wh.Ik (xs:g9.D):Option (Bool×Unit):=
 let b8:g9.D:=xs;bn (zog gh (b8.1,0,99999)) fun r_1=>
 let v_2:=bif !r_1.1 then true else decide ((↑(List.length b8.2.1):Int)>8);bif kL [qu (gh (b8.1,0,99999))] then
  bif v_2 then
   some (false,())
  else
   g8 KT aaS ((((),0),b8)) fun q_=>
    sumC q_ (fun FH=>
     let M_:=FH.1;some (M_,())) (fun z_57=>
     let Ce:=z_57.2;g8 OI aaW (((0,()),Ce)) fun q_=>
      sumC q_ (fun Pq=>
       let RN:=Pq.1;some (RN,())) (fun _=>
       some (true,())))
 else none
abbrev Wh.abB:Type:=(Int×List UInt8×Unit×Int)×g9.D
abbrev Wh.aiu:Type:=Int×Unit⊕Unit×Unit
def Wh.K7 (x:abB):Option (abB⊕aiu):=
 let At:=x.1.1;let Y5:=x.1.2.1;let P4:=x.1.2.2.2;let tc:=x.2;let v9:Int:=(↑(List.length tc.2.1):Int);bif decide (At<v9) then
  let iL:an.D:=List.getD tc.2.1 (Int.toNat At) (0,[],0,[],());let nI:=bif iL.1==P4 then iL.2.1==Y5 else false;bif kL [!iL.1==P4 || decide (0≤At),!iL.1==P4 || decide (At<v9),decide (0≤At),decide (At<v9)] then
   bif nI then
    some (.inr (.inl (At,())))
   else
    some (.inl (((IntKind.wrap .i64 (At+1)),Y5,(),P4),tc))
  else none
 else
  some (.inr (.inr ((),())))
def Wh.abC:Int×Unit⊕Unit×Unit:=.inl default
def Wh.Gf (xs:g9.D×Int×List UInt8):Option (Int×Unit):=
 let b8:=xs.1;let A5:=xs.2.1;let Dd:=xs.2.2;g8 K7 abC (((0,Dd,(),A5),b8)) fun q_=>
  sumC q_ (fun JS=>
   let we:=JS.1;some (we,())) (fun _=>
   some (-1,()))
def Wh.Mo (xs:g9.D×Int):Option ((Int×List an.D×Unit)×Unit):=
 let b8:=xs.1;let k_1:=xs.2;let BI:List (an.D):=[]++List.take (Int.toNat (k_1-0)) (List.drop (Int.toNat 0) b8.2.1);let Dv:List (an.D):=BI++List.take (Int.toNat ((↑(List.length b8.2.1):Int)-IntKind.wrap .i64 (k_1+1))) (List.drop (Int.toNat (IntKind.wrap .i64 (k_1+1))) b8.2.1);let AG:List (an.D):=List.take (Int.toNat (k_1-0)) (List.drop (Int.toNat 0) b8.2.1);let oc:=IntKind.wrap .i64 (k_1+1);bif kL [decide (List.length BI+List.length (List.take (Int.toNat ((↑(List.length b8.2.1):Int)-oc)) (List.drop (Int.toNat oc) b8.2.1))≤eV),decide (0≤oc),decide (oc≤(↑(List.length b8.2.1):Int)),decide ((↑(List.length b8.2.1):Int)≤(↑(List.length b8.2.1):Int)),decide ((0:Nat)+List.length AG≤eV),true,decide (0≤k_1),decide (k_1≤(↑(List.length b8.2.1):Int))] then
  some ((b8.1,Dv,()),())
 else none
def Wh.Iv (xs:g9.D×Int×List UInt8):Option (((Int×List an.D×Unit)×Int)×Unit):=
 let b8:=xs.1;let A5:=xs.2.1;let Dd:=xs.2.2;c9 Ik b8 fun r_3=>
  bif !r_3.1 then
   some (((0,[],()),1),())
  else
   c9 Gf (b8,A5,Dd) fun dz=>
    bif decide (dz.1<0) then
     c9 G6 b8 fun nS=>
      some ((nS.1,3),())
    else
     c9 Mo (b8,dz.1) fun AM=>
      some ((AM.1,0),())
abbrev Wh.abx:Type:=(Int×Unit×Unit×Unit)×(Int×Unit×Unit)×g9.D×an.D×List an.D
abbrev Wh.ais:Type:=(Unit×Int×Unit×Unit)×(Int×Unit×Unit)×g9.D×an.D×List an.D
def Wh.K6 (x:abx):Option (abx⊕ais):=
 let GJ:=x.1.1;let xb:=x.2.1.1;let Ez:=x.2.1.2.2;let tc:=x.2.2.1;let AO:=x.2.2.2.1;let Bd:=x.2.2.2.2;let iL:Int:=(↑(List.length tc.2.1):Int);bn (zog Jv (List.getD tc.2.1 (Int.toNat GJ) (0,[],0,[],()),AO.1,AO.2.1)) fun Gp=>
 let AX:=bif decide (GJ<iL) then Gp.1 else false;bif kL [!decide (GJ<iL) || qu (Jv (List.getD tc.2.1 (Int.toNat GJ) (0,[],0,[],()),AO.1,AO.2.1)),!decide (GJ<iL) || decide (0≤GJ),!decide (GJ<iL) || decide (GJ<iL)] then
  bif AX then
   some (.inl (((IntKind.wrap .i64 (GJ+1)),(),(),()),(xb,(),Ez),tc,AO,Bd))
  else
   some (.inr (((),GJ,(),()),(xb,(),Ez),tc,AO,Bd))
 else none
def Wh.aby:(Unit×Int×Unit×Unit)×(Int×Unit×Unit)×g9.D×an.D×List an.D:=default
def Wh.My (xs:g9.D×an.D):Option ((Int×List an.D×Unit)×Unit):=
 let b8:=xs.1;let t_1:=xs.2;g8 K6 aby (((0,(),(),()),(0,(),()),b8,t_1,[])) fun Fe=>
  let GL:=Fe.1.2.1;let Bg:=Fe.2.2.1;let Au:=Fe.2.2.2.1;let QC:=IntKind.wrap .i64 (Bg.1+1);let Ov:List (an.D):=[]++List.take (Int.toNat (GL-0)) (List.drop (Int.toNat 0) Bg.2.1);let pb_36:List (an.D):=[(Au.1,Au.2.1,QC,Au.2.2.2)];let pb_38:List (an.D):=Ov++pb_36++List.take (Int.toNat ((↑(List.length Bg.2.1):Int)-GL)) (List.drop (Int.toNat GL) Bg.2.1);let EN:List (an.D):=List.take (Int.toNat (GL-0)) (List.drop (Int.toNat 0) Bg.2.1);let FE:List (an.D):=List.take (Int.toNat ((↑(List.length Bg.2.1):Int)-GL)) (List.drop (Int.toNat GL) Bg.2.1);bif kL [decide (List.length (Ov++pb_36)+List.length FE≤eV),decide (0≤GL),decide (GL≤(↑(List.length Bg.2.1):Int)),decide ((↑(List.length Bg.2.1):Int)≤(↑(List.length Bg.2.1):Int)),decide (List.length Ov+(1:Nat)≤eV),decide ((0:Nat)+List.length EN≤eV),true,decide (0≤GL),decide (GL≤(↑(List.length Bg.2.1):Int))] then
   some ((QC,pb_38,()),())
  else none
def Wh.F7 (xs:g9.D×Int×List UInt8×List UInt8):Option (((Int×List an.D×Unit)×Int)×Unit):=
 let b8:=xs.1;let A5:=xs.2.1;let Dd:=xs.2.2.1;let Lk:=xs.2.2.2;c9 Ik b8 fun dz=>
  bif !dz.1 then
   some (((0,[],()),1),())
  else
   c9 G9 (A5,Dd,0,Lk,()) fun gv=>
    bif !gv.1 then
     c9 G6 b8 fun nS=>
      some ((nS.1,1),())
    else
     c9 Gf (b8,A5,Dd) fun AM=>
      bif decide (AM.1≥0) then
       c9 G6 b8 fun A8=>
        some ((A8.1,2),())
      else
       let B7:Int:=(↑(List.length b8.2.1):Int);bn (zog Jn (b8.2.1,A5)) fun FA=>
       let v9:=bif bif decide (B7≥8) then true else decide (b8.1≥99999) then true else decide (IntKind.wrap .i64 (FA.1+(↑(List.length Lk):Int))>500);bif kL [(!!bif decide (B7≥8) then true else decide (b8.1≥99999)) || qu (Jn (b8.2.1,A5))] then
        bif v9 then
         c9 G6 b8 fun Hi=>
          some ((Hi.1,4),())
        else
         c9 My (b8,A5,Dd,0,Lk,()) fun CL=>
          some ((CL.1,0),())
       else none
def Wh.F_ (xs:g9.D×List UInt8):Option (((Int×List an.D×Unit)×Bool)×Unit):=
 let b8:=xs.1;let s_1:=xs.2;c9 Cz (s_1,0,58) fun r_2=>
  bif decide (r_2.1<0) then
   some (((0,[],()),false),())
  else
   bn (zog DJ (List.take (Int.toNat (r_2.1-0)) (List.drop (Int.toNat 0) s_1),32)) fun dz=>
   let oc:List UInt8:=List.take (Int.toNat (r_2.1-0)) (List.drop (Int.toNat 0) s_1);bif kL [qu (DJ (oc,32)),true,decide (0≤r_2.1),decide (r_2.1≤(↑(List.length s_1):Int))] then
    let r5:=IntKind.wrap .i64 (r_2.1+1);let M5:List UInt8:=List.take (Int.toNat ((↑(List.length s_1):Int)-r5)) (List.drop (Int.toNat r5) s_1);bif kL [decide (0≤r5),decide (r5≤(↑(List.length s_1):Int)),decide ((↑(List.length s_1):Int)≤(↑(List.length s_1):Int))] then
     let Ba:Int:=(↑(List.length dz.1):Int);bn (zog AF (List.getD dz.1 (Int.toNat 0) [])) fun BJ=>
     bn (zog E5 (BJ.1,List.getD dz.1 (Int.toNat 1) [],M5)) fun Dx=>
     let r_:=bif Ba != 2 then true else !Dx.1==s_1;bif kL [!!Ba != 2 || qu (E5 (BJ.1,List.getD dz.1 (Int.toNat 1) [],M5)),!!Ba != 2 || decide ((0:Int)≤1),!!Ba != 2 || decide (1<Ba),!!Ba != 2 || qu (AF (List.getD dz.1 (Int.toNat 0) [])),!!Ba != 2 || decide ((0:Int)≤0),!!Ba != 2 || decide (0<Ba)] then
      bif r_ then
       some (((0,[],()),false),())
      else
       let Bp:=M5 == [];bif Bp then
        bn (zog Iv (b8,BJ.1,List.getD dz.1 (Int.toNat 1) [])) fun FA=>
        let n_:=List.getD dz.1 (Int.toNat 0) [];let iL:=List.getD dz.1 (Int.toNat 1) [];bn (zog Iv (b8,BJ.1,iL)) fun r_30=>
        bif kL [qu (Iv (b8,BJ.1,iL)),true,decide (1<Ba),qu (AF n_),true,decide (0<Ba)] then
         some (((FA.1.1.1,FA.1.1.2.1,FA.1.1.2.2),(r_30.1.2==0)),())
        else none
       else
        bn (zog F7 (b8,BJ.1,List.getD dz.1 (Int.toNat 1) [],M5)) fun C0=>
        let BK:=List.getD dz.1 (Int.toNat 0) [];let C5:=List.getD dz.1 (Int.toNat 1) [];bn (zog F7 (b8,BJ.1,C5,M5)) fun JG=>
        bif kL [qu (F7 (b8,BJ.1,C5,M5)),true,decide (1<Ba),qu (AF BK),true,decide (0<Ba)] then
         some (((C0.1.1.1,C0.1.1.2.1,C0.1.1.2.2),(JG.1.2==0)),())
        else none
     else none
    else none
   else none
abbrev Wh.aaP:Type:=(Unit×Int×Unit×List (List UInt8))×(Int×Unit×Unit)×(Int×Unit×Unit)×List an.D×List an.D
abbrev Wh.ah6:Type:=(Unit×Bool)×(Int×Unit×Unit)×List an.D⊕(Unit×Unit)×(Int×Unit×Unit)×(Int×Unit×Unit)×List an.D×List an.D
def Wh.KS (x:aaP):Option (aaP⊕ah6):=
 let AB:=x.1.2.1;let Rl:=x.1.2.2.2;let tc:=x.2.1.1;let AO:=x.2.1.2.2;let Bd:=x.2.2.1.1;let CH:=x.2.2.1.2.2;let CJ:=x.2.2.2.1;let wh:=x.2.2.2.2;let nI:Int:=(↑(List.length Rl):Int);bif decide (AB<nI) then
  bn (zog F_ ((Bd,wh,CH),List.getD Rl (Int.toNat AB) [])) fun Dg=>
  let x3:=List.getD Rl (Int.toNat AB) [];bif kL [qu (F_ ((Bd,wh,CH),x3)),decide (0≤AB),decide (AB<nI)] then
   bif(!Dg.1.2) then
    some (.inr (.inl (((),false),(0,(),()),[])))
   else
    some (.inl (((),(IntKind.wrap .i64 (AB+1)),(),Rl),(tc,(),AO),(Dg.1.1.1,(),Dg.1.1.2.2),CJ,Dg.1.1.2.1))
  else none
 else
  some (.inr (.inr (((),()),(tc,(),AO),(Bd,(),CH),CJ,wh)))
def Wh.aaQ:(Unit×Bool)×(Int×Unit×Unit)×List an.D⊕(Unit×Unit)×(Int×Unit×Unit)×(Int×Unit×Unit)×List an.D×List an.D:=.inl default
def Wh.Jx (xs:List (List UInt8)):Option (((Int×List an.D×Unit)×Bool)×Unit):=
 let ajj:List (List UInt8):=xs;g8 KS aaQ ((((),0,(),ajj),(0,(),()),(0,(),()),[],[])) fun q_=>
  sumC q_ (fun Nh=>
   let Gv:=Nh.1.2;let A0:=Nh.2.1.1;let th:=Nh.2.1.2.2;let m6:=Nh.2.2;some (((A0,m6,th),Gv),())) (fun z_31=>
   let ng:=z_31.2.2.1.1;let AI:=z_31.2.2.1.2.2;let xd:=z_31.2.2.2.2;some (((ng,xd,AI),true),()))
def Wh.Kz (xs:b7.D):Option (Bool×Unit):=
 let cx:b7.D:=xs;c9 Fw (cx.2.2.1) fun r_1=>
  c9 Jx r_1.1.1 fun r_2=>
   some (r_2.1.2,())
abbrev Wh.ZL:Type:=(Int×Unit×Unit)×g9.D×g9.D
abbrev Wh.ahz:Type:=Bool×Unit⊕Unit×Unit
def Wh.Ky (x:ZL):Option (ZL⊕ahz):=
 let BO:=x.1.1;let Eb:=x.2.1;let xb:=x.2.2;let qe:Int:=(↑(List.length xb.2.1):Int);bif decide (BO<qe) then
  let v9:an.D:=List.getD xb.2.1 (Int.toNat BO) (0,[],0,[],());let n_:an.D:=List.getD Eb.2.1 (Int.toNat BO) (0,[],0,[],());bif kL [decide (0≤BO),decide (BO<(↑(List.length Eb.2.1):Int)),decide (0≤BO),decide (BO<qe)] then
   bif(!(v9.1==n_.1&&(v9.2.1==n_.2.1&&(v9.2.2.1==n_.2.2.1&&(v9.2.2.2.1==n_.2.2.2.1&&true))))) then
    some (.inr (.inl (false,())))
   else
    some (.inl (((IntKind.wrap .i64 (BO+1)),(),()),Eb,xb))
  else none
 else
  some (.inr (.inr ((),())))
def Wh.ZM:Bool×Unit⊕Unit×Unit:=.inl default
def Wh.H9 (xs:g9.D×g9.D):Option (Bool×Unit):=
 let s5:=xs.1;let b_1:=xs.2;let AR:=bif(s5.1 != b_1.1) then true else(↑(List.length s5.2.1):Int) != (↑(List.length b_1.2.1):Int);bif AR then
  some (false,())
 else
  g8 Ky ZM (((0,(),()),b_1,s5)) fun q_=>
   sumC q_ (fun Hu=>
    let Gu:=Hu.1;some (Gu,())) (fun _=>
    some (true,()))
def Wh.Jz (xs:b9.D):Option (Bool×Unit):=
 let Ep:b9.D:=xs;bif(Ep.2.1==0) then
  some ((Ep.1==0&&(Ep.2.1==0&&(Ep.2.2.1==0&&(Ep.2.2.2.1==0&&(Ep.2.2.2.2.1==false&&true))))),())
 else
  bn (zog gh (Ep.1,0,1)) fun r_3=>
  bn (zog gh (Ep.2.1,1,99999)) fun dz=>
  bn (zog gh (Ep.2.2.1,0,23)) fun AM=>
  bn (zog gh (Ep.2.2.2.1,0,99999)) fun A8=>
  let A3:=bif bif bif r_3.1 then dz.1 else false then AM.1 else false then A8.1 else false;bif kL [(!bif bif r_3.1 then dz.1 else false then AM.1 else false) || qu (gh (Ep.2.2.2.1,0,99999)),(!bif r_3.1 then dz.1 else false) || qu (gh (Ep.2.2.1,0,23)),!r_3.1 || qu (gh (Ep.2.1,1,99999)),qu (gh (Ep.1,0,1))] then
   some (A3,())
  else none
abbrev Wh.aaZ:Type:=(Int×Int×Int×Unit)×mb.D
abbrev Wh.aia:Type:=Int×Unit
def Wh.KW (x:aaZ):Option (aaZ⊕aia):=
 let AB:=x.1.1;let n_16:=x.1.2.1;let SY:=x.1.2.2.1;let AO:=x.2;let n_:Int:=(↑(List.length AO.1):Int);bif decide (AB<n_) then
  let A4:b9.D:=List.getD AO.1 (Int.toNat AB) (0,0,0,0,false,());let AX:=bif decide (A4.2.1>0) then A4.1==SY else false;bif kL [!decide (A4.2.1>0) || decide (0≤AB),!decide (A4.2.1>0) || decide (AB<n_),decide (0≤AB),decide (AB<n_)] then
   bif AX then
    some (.inl (((IntKind.wrap .i64 (AB+1)),(IntKind.wrap .i64 (n_16+1)),SY,()),AO))
   else
    some (.inl (((IntKind.wrap .i64 (AB+1)),n_16,SY,()),AO))
  else none
 else
  some (.inr (n_16,()))
def Wh.aa0:Int×Unit:=default
def Wh.KV (xs:mb.D×Int):Option (Int×Unit):=
 let fy:=xs.1;let A5:=xs.2;g8 KW aa0 (((0,0,A5,()),fy)) fun C6=>
  let n_30:=C6.1;some (n_30,())
abbrev Wh.aat:Type:=(Int×Unit)×mb.D
abbrev Wh.ahV:Type:=Bool×Unit⊕Unit×Unit
def Wh.Jp (x:aat):Option (aat⊕ahV):=
 let h_67:=x.1.1;let Cg:=x.2;bif decide (h_67<2) then
  c9 KV (Cg,h_67) fun r_70=>
   bif decide (r_70.1>5) then
    some (.inr (.inl (false,())))
   else
    some (.inl (((IntKind.wrap .i64 (h_67+1)),()),Cg))
 else
  some (.inr (.inr ((),())))
def Wh.aau:Bool×Unit⊕Unit×Unit:=.inl default
abbrev Wh.aar:Type:=(Int×Unit×Int)×mb.D
abbrev Wh.ahU:Type:=Bool×Unit⊕(Unit×Int)×mb.D
def Wh.Fv (x:aar):Option (aar⊕ahU):=
 let Fp:=x.1.1;let Bk:=x.1.2.2;let BB:=x.2;bif decide (Fp<Bk) then
  let we:b9.D:=List.getD BB.1 (Int.toNat Bk) (0,0,0,0,false,());let BY:=bif bif decide (we.2.1>0) then we.2.1==((List.getD BB.1 (Int.toNat Fp) (0,0,0,0,false,())).2).1 else false then we.2.2.1==(((List.getD BB.1 (Int.toNat Fp) (0,0,0,0,false,())).2).2).1 else false;bif kL [(!bif decide (we.2.1>0) then we.2.1==((List.getD BB.1 (Int.toNat Fp) (0,0,0,0,false,())).2).1 else false) || decide (0≤Fp),(!bif decide (we.2.1>0) then we.2.1==((List.getD BB.1 (Int.toNat Fp) (0,0,0,0,false,())).2).1 else false) || decide (Fp<(↑(List.length BB.1):Int)),(!bif decide (we.2.1>0) then we.2.1==((List.getD BB.1 (Int.toNat Fp) (0,0,0,0,false,())).2).1 else false) || decide (0≤Bk),(!bif decide (we.2.1>0) then we.2.1==((List.getD BB.1 (Int.toNat Fp) (0,0,0,0,false,())).2).1 else false) || decide (Bk<(↑(List.length BB.1):Int)),!decide (we.2.1>0) || decide (0≤Fp),!decide (we.2.1>0) || decide (Fp<(↑(List.length BB.1):Int)),!decide (we.2.1>0) || decide (0≤Bk),!decide (we.2.1>0) || decide (Bk<(↑(List.length BB.1):Int)),decide (0≤Bk),decide (Bk<(↑(List.length BB.1):Int))] then
   bif BY then
    some (.inr (.inl (false,())))
   else
    some (.inl (((IntKind.wrap .i64 (Fp+1)),(),Bk),BB))
  else none
 else
  some (.inr (.inr (((),Bk),BB)))
def Wh.aas:Bool×Unit⊕(Unit×Int)×mb.D:=.inl default
abbrev Wh.aap:Type:=(Unit×Int)×mb.D
abbrev Wh.ahT:Type:=Bool×Unit⊕Unit×mb.D
def Wh.Jo (x:aap):Option (aap⊕ahT):=
 let NU:=x.1.2;let nE:=x.2;let Hs:Int:=(↑(List.length nE.1):Int);bif decide (NU<Hs) then
  let Lp:b9.D:=List.getD nE.1 (Int.toNat NU) (0,0,0,0,false,());bn (zog Jz Lp) fun r_48=>
  bif kL [qu (Jz Lp),decide (0≤NU),decide (NU<Hs)] then
   bif !r_48.1 then
    some (.inr (.inl (false,())))
   else
    g8 Fv aas (((0,(),NU),nE)) fun q_=>
     sumC q_ (fun y_50=>
      let RK:=y_50.1;some (.inr (.inl (RK,())))) (fun z_51=>
      let i_53:=z_51.1.2;let A1:=z_51.2;some (.inl (((),(IntKind.wrap .i64 (i_53+1))),A1)))
  else none
 else
  some (.inr (.inr ((),nE)))
def Wh.aaq:Bool×Unit⊕Unit×mb.D:=.inl default
def Wh.Ia (xs:mb.D):Option (Bool×Unit):=
 let fy:mb.D:=xs;let v_1:Int:=(↑(List.length fy.1):Int);bn (zog gh (fy.2.1,0,7)) fun dz=>
 let oc:=bif v_1 != 8 then true else !dz.1;bif kL [!!v_1 != 8 || qu (gh (fy.2.1,0,7))] then
  bif oc then
   some (false,())
  else
   g8 Jo aaq ((((),0),fy)) fun q_=>
    sumC q_ (fun y_57=>
     let Pb:=y_57.1;some (Pb,())) (fun z_58=>
     let Bl:=z_58.2;g8 Jp aau (((0,()),Bl)) fun q_=>
      sumC q_ (fun BE=>
       let v_76:=BE.1;some (v_76,())) (fun _=>
       some (true,())))
 else none
abbrev Wh.abV:Type:=(Unit×Int×Unit×Int)×an.D×g9.D
abbrev Wh.aiD:Type:=(Unit×Bool)×an.D⊕Unit×an.D
def Wh.K_ (x:abV):Option (abV⊕aiD):=
 let D_:=x.1.2.1;let Xs:=x.1.2.2.2;let Qk:=x.2.1;let Eb:=x.2.2;let Bp:Int:=(↑(List.length Eb.2.1):Int);bif decide (D_<Bp) then
  let z9:an.D:=List.getD Eb.2.1 (Int.toNat D_) (0,[],0,[],());bif kL [decide (0≤D_),decide (D_<Bp)] then
   bif(z9.2.2.1==Xs) then
    bif kL [decide (0≤D_),decide (D_<Bp)] then
     some (.inr (.inl (((),true),z9)))
    else none
   else
    some (.inl (((),(IntKind.wrap .i64 (D_+1)),(),Xs),Qk,Eb))
  else none
 else
  some (.inr (.inr ((),Qk)))
def Wh.abW:(Unit×Bool)×an.D⊕Unit×an.D:=.inl default
def Wh.Gg (xs:g9.D×Int):Option ((an.D×Bool)×Unit):=
 let b8:=xs.1;let NI:=xs.2;g8 K_ abW ((((),0,(),NI),(0,[],0,[],()),b8)) fun q_=>
  sumC q_ (fun y_21=>
   let nI:=y_21.1.2;let Be:=y_21.2;some ((Be,nI),())) (fun _=>
   some (((0,[],0,[],()),false),()))
abbrev Wh.abP:Type:=(Int×Unit)×b7.D
abbrev Wh.aiA:Type:=Bool×Unit⊕Unit×Unit
def Wh.JC (x:abP):Option (abP⊕aiA):=
 let BP:=x.1.1;let ov:=x.2;let CP:Int:=(↑(List.length (ov.2.2.2.2.2.2.1)):Int);bif decide (BP<CP) then
  let vT:cg.D:=List.getD (ov.2.2.2.2.2.2.1) (Int.toNat BP) (0,0,0,0,0,0,());bif kL [decide (0≤BP),decide (BP<CP)] then
   bn (zog gh (vT.1,0,3)) fun C0=>
   bn (zog gh (vT.2.1,1,99999)) fun DL=>
   bn (zog gh (vT.2.2.1,1,ov.2.2.2.1.1)) fun Iy=>
   bn (zog gh (vT.2.2.2.1,0,9999)) fun MO=>
   bn (zog gh (vT.2.2.2.2.1,0,3)) fun MP=>
   bn (zog gh (vT.2.2.2.2.2.1,0,ov.2.1)) fun Hj=>
   let M9:=bif bif bif bif bif bif !C0.1 then true else bif decide (BP>0) then decide ((List.getD (ov.2.2.2.2.2.2.1) (Int.toNat (IntKind.wrap .i64 (BP-1))) (0,0,0,0,0,0,())).1≥vT.1) else false then true else !DL.1 then true else !Iy.1 then true else !MO.1 then true else !MP.1 then true else !Hj.1;bif kL [(!!bif bif bif bif bif !C0.1 then true else bif decide (BP>0) then decide ((List.getD (ov.2.2.2.2.2.2.1) (Int.toNat (IntKind.wrap .i64 (BP-1))) (0,0,0,0,0,0,())).1≥vT.1) else false then true else !DL.1 then true else !Iy.1 then true else !MO.1 then true else !MP.1) || qu (gh (vT.2.2.2.2.2.1,0,ov.2.1)),(!!bif bif bif bif !C0.1 then true else bif decide (BP>0) then decide ((List.getD (ov.2.2.2.2.2.2.1) (Int.toNat (IntKind.wrap .i64 (BP-1))) (0,0,0,0,0,0,())).1≥vT.1) else false then true else !DL.1 then true else !Iy.1 then true else !MO.1) || qu (gh (vT.2.2.2.2.1,0,3)),(!!bif bif bif !C0.1 then true else bif decide (BP>0) then decide ((List.getD (ov.2.2.2.2.2.2.1) (Int.toNat (IntKind.wrap .i64 (BP-1))) (0,0,0,0,0,0,())).1≥vT.1) else false then true else !DL.1 then true else !Iy.1) || qu (gh (vT.2.2.2.1,0,9999)),(!!bif bif !C0.1 then true else bif decide (BP>0) then decide ((List.getD (ov.2.2.2.2.2.2.1) (Int.toNat (IntKind.wrap .i64 (BP-1))) (0,0,0,0,0,0,())).1≥vT.1) else false then true else !DL.1) || qu (gh (vT.2.2.1,1,ov.2.2.2.1.1)),(!!bif !C0.1 then true else bif decide (BP>0) then decide ((List.getD (ov.2.2.2.2.2.2.1) (Int.toNat (IntKind.wrap .i64 (BP-1))) (0,0,0,0,0,0,())).1≥vT.1) else false) || qu (gh (vT.2.1,1,99999)),!(decide (BP>0) && !!C0.1) || decide (0≤IntKind.wrap .i64 (BP-1)),!(decide (BP>0) && !!C0.1) || decide (IntKind.wrap .i64 (BP-1)<CP),qu (gh (vT.1,0,3))] then
    bif M9 then
     some (.inr (.inl (false,())))
    else
     c9 Gg (ov.2.2.2.1,vT.2.2.1) fun Hl=>
      bn (zog Cj vT.1) fun MQ=>
      let B9:=bif Hl.1.2 then Hl.1.1.1 != MQ.1 else false;bif kL [!Hl.1.2 || qu (Cj vT.1)] then
       bif B9 then
        some (.inr (.inl (false,())))
       else
        some (.inl (((IntKind.wrap .i64 (BP+1)),()),ov))
      else none
   else none
  else none
 else
  some (.inr (.inr ((),())))
def Wh.abQ:Bool×Unit⊕Unit×Unit:=.inl default
def Wh.q51 (xs:b7.D):Option (Bool×Unit):=
 let cx:b7.D:=xs;g8 JC abQ (((0,()),cx)) fun q_=>
  sumC q_ (fun Nl=>
   let FF:=Nl.1;some (FF,())) (fun _=>
   some (true,()))
def Wh.Br (xs:gT.D):Option (Int×Unit):=
 let fy:gT.D:=xs;bif kL [fy.2.1 != 0] then
  some ((IntKind.wrap .i64 (Int.tdiv (IntKind.wrap .i64 ((IntKind.wrap .i64 (fy.1+fy.2.1))-1)) fy.2.1)),())
 else none
abbrev Wh.abo:Type:=(Unit×Unit)×(Int×Int×Unit×Unit×Unit)×(Int×Int×Unit×Unit×Unit)×List Int×List Int×List Int×List Int
abbrev Wh.aio:Type:=(Unit×Unit)×(Int×Int×Unit×Unit×Unit)×(Int×Int×Unit×Unit×Unit)×List Int×List Int×List Int×List Int
def Wh.Fy (x:abo):Option (abo⊕aio):=
 let Eb:=x.2.1.1;let xb:=x.2.1.2.1;let Ez:=x.2.1.2.2.2.2;let tc:=x.2.2.1.1;let AO:=x.2.2.1.2.1;let Bd:=x.2.2.1.2.2.2.2;let CH:=x.2.2.2.1;let CJ:=x.2.2.2.2.1;let wh:=x.2.2.2.2.2.1;let BG:=x.2.2.2.2.2.2;c9 Br (Eb,xb,CH,CJ,Ez) fun Le=>
  bif decide (Le.1>24) then
   some (.inl (((),()),(Eb,(IntKind.wrap .i64 (xb+1)),(),(),Ez),(tc,AO,(),(),Bd),CH,CJ,wh,BG))
  else
   some (.inr (((),()),(tc,AO,(),(),Bd),(Eb,xb,(),(),Ez),wh,BG,CH,CJ))
def Wh.abp:(Unit×Unit)×(Int×Int×Unit×Unit×Unit)×(Int×Int×Unit×Unit×Unit)×List Int×List Int×List Int×List Int:=default
def Wh.Ci (xs:Int):Option ((Int×Int×List Int×List Int×Unit)×Unit):=
 let Qj:=xs;g8 Fy abp ((((),()),(Qj,8,(),(),()),(0,0,(),(),()),[],[],[],[])) fun Lv=>
  let Au:=Lv.2.2.1.1;let A0:=Lv.2.2.1.2.1;let th:=Lv.2.2.1.2.2.2.2;let Bh:=Lv.2.2.2.2.2.1;let ng:=Lv.2.2.2.2.2.2;c9 Br (Au,A0,Bh,ng,th) fun Iz=>
   let NX:=IntKind.wrap .i64 (Int.tdiv (IntKind.wrap .i64 (Iz.1+3)) 4);bif decide (NX<Iz.1) then
    let pb_44:List Int:=[NX,Iz.1];some ((Au,A0,pb_44,[(2:Int),3],th),())
   else
    let TV:List Int:=[Iz.1];some ((Au,A0,TV,[(1:Int)],th),())
def Wh.q67 (xs:cw.D):Option (Bool×Unit):=
 let BM:cw.D:=xs;bn (zog gh (BM.2.1,0,99999)) fun r_1=>
 bn (zog gh (BM.1,0,BM.2.1)) fun r_2=>
 bn (zog gh (BM.2.2.1,0,99999)) fun gv=>
 bn (zog gh (BM.2.2.2.1,0,99999)) fun A9=>
 let Ck:=bif bif bif r_1.1 then r_2.1 else false then gv.1 else false then A9.1 else false;bif kL [(!bif bif r_1.1 then r_2.1 else false then gv.1 else false) || qu (gh (BM.2.2.2.1,0,99999)),(!bif r_1.1 then r_2.1 else false) || qu (gh (BM.2.2.1,0,99999)),!r_1.1 || qu (gh (BM.1,0,BM.2.1)),qu (gh (BM.2.1,0,99999))] then
  some (Ck,())
 else none
abbrev Wh.ab5:Type:=(Int×Unit)×b7.D
abbrev Wh.aiI:Type:=Bool×Unit⊕Unit×Unit
def Wh.La (x:ab5):Option (ab5⊕aiI):=
 let h_80:=x.1.1;let GS:=x.2;let Nb:Int:=(↑(List.length (GS.2.2.2.2.2.1)):Int);bif decide (h_80<Nb) then
  let Oy:cw.D:=List.getD (GS.2.2.2.2.2.1) (Int.toNat h_80) (0,0,0,0,());bif kL [decide (0≤h_80),decide (h_80<Nb)] then
   bn (zog q67 Oy) fun r_85=>
   let v_90:=bif bif bif !r_85.1 then true else Oy.2.1 != 40 then true else Oy.2.2.1 != 8 then true else decide (Oy.2.2.2.1>GS.2.1);bif kL [qu (q67 Oy)] then
    bif v_90 then
     some (.inr (.inl (false,())))
    else
     some (.inl (((IntKind.wrap .i64 (h_80+1)),()),GS))
   else none
  else none
 else
  some (.inr (.inr ((),())))
def Wh.ab6:Bool×Unit⊕Unit×Unit:=.inl default
abbrev Wh.ab3:Type:=(Int×Unit)×b7.D
abbrev Wh.aiH:Type:=Bool×Unit⊕Unit×b7.D
def Wh.Gj (x:ab3):Option (ab3⊕aiH):=
 let Es:=x.1.1;let nP:=x.2;let B9:Int:=(↑(List.length (nP.2.2.2.2.1.1)):Int);bif decide (Es<B9) then
  bn (zog Gg (nP.2.2.2.1,((List.getD (nP.2.2.2.2.1.1) (Int.toNat Es) (0,0,0,0,false,())).2).1)) fun B6=>
  let Az:b9.D:=List.getD (nP.2.2.2.2.1.1) (Int.toNat Es) (0,0,0,0,false,());bif kL [qu (Gg (nP.2.2.2.1,Az.2.1)),decide (0≤Es),decide (Es<B9)] then
   bn (zog Ci (↑(List.length (B6.1.1.2.2.2.1)):Int)) fun FB=>
   bn (zog Br (FB.1.1,FB.1.2.1,bif(!bif !B6.1.2 then true else B6.1.1.1 != Az.1)&&(decide (Az.2.1>0) && !decide (Az.2.2.2.1>0)) then FB.1.2.2.1 else [],bif(!bif !B6.1.2 then true else B6.1.1.1 != Az.1)&&(decide (Az.2.1>0) && !decide (Az.2.2.2.1>0)) then FB.1.2.2.2.1 else [],FB.1.2.2.2.2)) fun r_60=>
   let v_61:=bif decide (Az.2.2.2.1>0) then true else bif decide (Az.2.1>0) then bif bif !B6.1.2 then true else B6.1.1.1 != Az.1 then true else decide (Az.2.2.1≥r_60.1) else false;bif kL [!((!bif !B6.1.2 then true else B6.1.1.1 != Az.1)&&(decide (Az.2.1>0) && !decide (Az.2.2.2.1>0))) || qu (Br (FB.1.1,FB.1.2.1,bif(!bif !B6.1.2 then true else B6.1.1.1 != Az.1)&&(decide (Az.2.1>0) && !decide (Az.2.2.2.1>0)) then FB.1.2.2.1 else [],bif(!bif !B6.1.2 then true else B6.1.1.1 != Az.1)&&(decide (Az.2.1>0) && !decide (Az.2.2.2.1>0)) then FB.1.2.2.2.1 else [],FB.1.2.2.2.2)),!((!bif !B6.1.2 then true else B6.1.1.1 != Az.1)&&(decide (Az.2.1>0) && !decide (Az.2.2.2.1>0))) || qu (Ci (↑(List.length (B6.1.1.2.2.2.1)):Int)),!((!bif !B6.1.2 then true else B6.1.1.1 != Az.1)&&(decide (Az.2.1>0) && !decide (Az.2.2.2.1>0))) || decide (0≤Es),!((!bif !B6.1.2 then true else B6.1.1.1 != Az.1)&&(decide (Az.2.1>0) && !decide (Az.2.2.2.1>0))) || decide (Es<B9),!(!!B6.1.2&&(decide (Az.2.1>0) && !decide (Az.2.2.2.1>0))) || decide (0≤Es),!(!!B6.1.2&&(decide (Az.2.1>0) && !decide (Az.2.2.2.1>0))) || decide (Es<B9),!!decide (Az.2.2.2.1>0) || decide (0≤Es),!!decide (Az.2.2.2.1>0) || decide (Es<B9),decide (0≤Es),decide (Es<B9)] then
    bif v_61 then
     some (.inr (.inl (false,())))
    else
     some (.inl (((IntKind.wrap .i64 (Es+1)),()),nP))
   else none
  else none
 else
  some (.inr (.inr ((),nP)))
def Wh.ab4:Bool×Unit⊕Unit×b7.D:=.inl default
def Wh.Gi (xs:b7.D):Option (Bool×Unit):=
 let cx:b7.D:=xs;bn (zog gh (cx.2.1,0,99999)) fun r_1=>
 let v_2:=bif !r_1.1 then true else decide ((↑(List.length (cx.2.2.1)):Int)>9000);bif kL [qu (gh (cx.2.1,0,99999))] then
  bif v_2 then
   some (false,())
  else
   bif(!cx.1) then
    let AG:Int:=(↑(List.length (cx.2.2.2.1.2.1)):Int);bn (zog Kz cx) fun Df=>
    let n_:=bif bif bif bif bif bif AG==0 then cx.2.2.2.1.1==0 else false then(↑(List.length (cx.2.2.2.2.1.1)):Int)==0 else false then cx.2.2.2.2.1.2.1==0 else false then(↑(List.length (cx.2.2.2.2.2.1)):Int)==0 else false then(↑(List.length (cx.2.2.2.2.2.2.1)):Int)==0 else false then Df.1 else false;bif kL [(!bif bif bif bif bif AG==0 then cx.2.2.2.1.1==0 else false then(↑(List.length (cx.2.2.2.2.1.1)):Int)==0 else false then cx.2.2.2.2.1.2.1==0 else false then(↑(List.length (cx.2.2.2.2.2.1)):Int)==0 else false then(↑(List.length (cx.2.2.2.2.2.2.1)):Int)==0 else false) || qu (Kz cx)] then
     some (n_,())
    else none
   else
    c9 Fw (cx.2.2.1) fun CL=>
     c9 Jx CL.1.1 fun DZ=>
      let nW:= !DZ.1.2;bn (zog H9 (DZ.1.1,cx.2.2.2.1)) fun Dg=>
      bn (zog Ia (cx.2.2.2.2.1)) fun MN=>
      bn (zog q51 cx) fun Ix=>
      let FD:=bif bif bif bif bif nW then true else CL.1.2 != (↑(List.length (cx.2.2.1)):Int) then true else !Dg.1 then true else !MN.1 then true else(↑(List.length (cx.2.2.2.2.2.1)):Int) != 2 then true else !Ix.1;bif kL [(!!bif bif bif bif nW then true else CL.1.2 != (↑(List.length (cx.2.2.1)):Int) then true else !Dg.1 then true else !MN.1 then true else(↑(List.length (cx.2.2.2.2.2.1)):Int) != 2) || qu (q51 cx),(!!bif bif nW then true else CL.1.2 != (↑(List.length (cx.2.2.1)):Int) then true else !Dg.1) || qu (Ia (cx.2.2.2.2.1)),(!!bif nW then true else CL.1.2 != (↑(List.length (cx.2.2.1)):Int)) || qu (H9 (DZ.1.1,cx.2.2.2.1))] then
       bif FD then
        some (false,())
       else
        g8 Gj ab4 (((0,()),cx)) fun q_=>
         sumC q_ (fun FI=>
          let RL:=FI.1;some (RL,())) (fun z_65=>
          let BH:=z_65.2;g8 La ab6 (((0,()),BH)) fun q_=>
           sumC q_ (fun y_93=>
            let v_95:=y_93.1;some (v_95,())) (fun _=>
            some (true,())))
      else none
 else none
abbrev Wh.aa1:Type:=(Int×Int×Unit)×b7.D
abbrev Wh.aib:Type:=Int×Unit⊕Unit×Unit
def Wh.Fx (x:aa1):Option (aa1⊕aib):=
 let Fm:=x.1.1;let W_:=x.1.2.1;let J_:=x.2;let A_:Int:=(↑(List.length (J_.2.2.2.2.2.2.1)):Int);bif decide (Fm<A_) then
  let Bp:cg.D:=List.getD (J_.2.2.2.2.2.2.1) (Int.toNat Fm) (0,0,0,0,0,0,());bif kL [decide (0≤Fm),decide (Fm<A_)] then
   bif(Bp.1==W_) then
    some (.inr (.inl (Fm,())))
   else
    some (.inl (((IntKind.wrap .i64 (Fm+1)),W_,()),J_))
  else none
 else
  some (.inr (.inr ((),())))
def Wh.aa2:Int×Unit⊕Unit×Unit:=.inl default
def Wh.Gc (xs:b7.D×Int):Option (Int×Unit):=
 let cx:=xs.1;let Nv:=xs.2;g8 Fx aa2 (((0,Nv,()),cx)) fun q_=>
  sumC q_ (fun y_19=>
   let A4:=y_19.1;some (A4,())) (fun _=>
   some (-1,()))
def Wh.Ei (xs:g9.D×Int×List UInt8):Option ((an.D×Bool)×Unit):=
 let b8:=xs.1;let A5:=xs.2.1;let Dd:=xs.2.2;c9 Gf (b8,A5,Dd) fun r_3=>
  bn (zog Ik b8) fun dz=>
  let oc:=bif !dz.1 then true else decide (r_3.1<0);bif kL [qu (Ik b8)] then
   bif oc then
    some (((0,[],0,[],()),false),())
   else
    let Jh:an.D:=List.getD b8.2.1 (Int.toNat r_3.1) (0,[],0,[],());bif kL [decide (0≤r_3.1),decide (r_3.1<(↑(List.length b8.2.1):Int))] then
     some ((Jh,true),())
    else none
  else none
abbrev Wh.abJ:Type:=(Int×Unit×Unit×Int×Unit)×b7.D×List cg.D×(Bool×Int×List UInt8×(Int×Unit×Unit)×(Unit×Int×Unit)×Unit×Unit×Unit)×List an.D×List b9.D×List cw.D×List cg.D
abbrev Wh.aiy:Type:=(Unit×Unit×Unit)×(Bool×Int×List UInt8×(Int×Unit×Unit)×(Unit×Int×Unit)×Unit×Unit×Unit)×b7.D×List cg.D×List an.D×List b9.D×List cw.D×List cg.D
def Wh.K8 (x:abJ):Option (abJ⊕aiy):=
 let Bk:=x.1.1;let Sg:=x.1.2.2.2.1;let Bq:=x.2.1;let ov:=x.2.2.1;let BQ:=x.2.2.2.1.1;let Bf:=x.2.2.2.1.2.1;let Bg:=x.2.2.2.1.2.2.1;let Au:=x.2.2.2.1.2.2.2.1.1;let A0:=x.2.2.2.1.2.2.2.1.2.2;let th:=x.2.2.2.1.2.2.2.2.1.2;let m6:=x.2.2.2.1.2.2.2.2.2.2.2;let AD:=x.2.2.2.2.1;let Bh:=x.2.2.2.2.2.1;let ng:=x.2.2.2.2.2.2.1;let AI:=x.2.2.2.2.2.2.2;let FE:Int:=(↑(List.length (Bq.2.2.2.2.2.2.1)):Int);bif decide (Bk<FE) then
  let Lo:cg.D:=List.getD (Bq.2.2.2.2.2.2.1) (Int.toNat Bk) (0,0,0,0,0,0,());bif kL [decide (0≤Bk),decide (Bk<FE)] then
   bif(Lo.1 != Sg) then
    let s9:List (cg.D):=ov ++ [Lo];bif kL [decide (List.length ov+(1:Nat)≤eV),decide (0≤Bk),decide (Bk<FE)] then
     some (.inl (((IntKind.wrap .i64 (Bk+1)),(),(),Sg,()),Bq,s9,(BQ,Bf,Bg,(Au,(),A0),((),th),(),(),m6),AD,Bh,ng,AI))
    else none
   else
    some (.inl (((IntKind.wrap .i64 (Bk+1)),(),(),Sg,()),Bq,ov,(BQ,Bf,Bg,(Au,(),A0),((),th),(),(),m6),AD,Bh,ng,AI))
  else none
 else
  some (.inr (((),(),()),(BQ,Bf,Bg,(Au,(),A0),((),th),(),(),m6),Bq,ov,AD,Bh,ng,AI))
def Wh.abK:(Unit×Unit×Unit)×(Bool×Int×List UInt8×(Int×Unit×Unit)×(Unit×Int×Unit)×Unit×Unit×Unit)×b7.D×List cg.D×List an.D×List b9.D×List cw.D×List cg.D:=default
def Wh.Hf (xs:b7.D×Int):Option ((Bool×Int×List UInt8×g9.D×mb.D×List cw.D×List cg.D×Unit)×Unit):=
 let cx:=xs.1;let Nv:=xs.2;g8 K8 abK (((0,(),(),Nv,()),cx,[],(false,0,[],(0,(),()),((),0,()),(),(),()),[],[],[],[])) fun Nk=>
  let AL:=Nk.2.2.1;let Cp:=Nk.2.2.2.1;some ((AL.1,AL.2.1,AL.2.2.1,AL.2.2.2.1,AL.2.2.2.2.1,AL.2.2.2.2.2.1,Cp,AL.2.2.2.2.2.2.2),())
def Wh.Jm (xs:Int×Int×Int):Option (List eL.D×Unit):=
 let Sf:=xs.1;let try_1:=xs.2.1;let PJ:=xs.2.2;let Dv:List (eL.D):=[(6,Sf,try_1,PJ,0,[],[],())];some (Dv,())
abbrev Wh.ZR:Type:=(Int×Unit×Unit×Unit)×(Bool×Int×List UInt8×(Int×Unit×Unit)×(Unit×Int×Unit)×Unit×Unit×Unit)×(Bool×Int×List UInt8×g9.D×mb.D×List cw.D×Unit×Unit)×cg.D×List an.D×List b9.D×List cw.D×List cg.D×List cg.D
abbrev Wh.ahC:Type:=(Unit×Unit×Int×Unit)×(Bool×Int×List UInt8×(Int×Unit×Unit)×(Unit×Int×Unit)×Unit×Unit×Unit)×(Bool×Int×List UInt8×g9.D×mb.D×List cw.D×Unit×Unit)×cg.D×List an.D×List b9.D×List cw.D×List cg.D×List cg.D
def Wh.KA (x:ZR):Option (ZR⊕ahC):=
 let I1:=x.1.1;let Bf:=x.2.1.1;let Bg:=x.2.1.2.1;let Au:=x.2.1.2.2.1;let A0:=x.2.1.2.2.2.1.1;let th:=x.2.1.2.2.2.1.2.2;let m6:=x.2.1.2.2.2.2.1.2;let AD:=x.2.1.2.2.2.2.2.2.2;let Bh:=x.2.2.1.1;let ng:=x.2.2.1.2.1;let AI:=x.2.2.1.2.2.1;let AJ:=x.2.2.1.2.2.2.1;let xd:=x.2.2.1.2.2.2.2.1;let wm:=x.2.2.1.2.2.2.2.2.1;let nE:=x.2.2.1.2.2.2.2.2.2.2;let w7:=x.2.2.2.1;let s9:=x.2.2.2.2.1;let zC:=x.2.2.2.2.2.1;let AK:=x.2.2.2.2.2.2.1;let s_:=x.2.2.2.2.2.2.2.1;let Av:=x.2.2.2.2.2.2.2.2;let IE:Int:=(↑(List.length Av):Int);let IF:=bif decide (I1<IE) then decide ((List.getD Av (Int.toNat I1) (0,0,0,0,0,0,())).1<w7.1) else false;bif kL [!decide (I1<IE) || decide (0≤I1),!decide (I1<IE) || decide (I1<IE)] then
  bif IF then
   some (.inl (((IntKind.wrap .i64 (I1+1)),(),(),()),(Bf,Bg,Au,(A0,(),th),((),m6),(),(),AD),(Bh,ng,AI,AJ,xd,wm,(),nE),w7,s9,zC,AK,s_,Av))
  else
   some (.inr (((),(),I1,()),(Bf,Bg,Au,(A0,(),th),((),m6),(),(),AD),(Bh,ng,AI,AJ,xd,wm,(),nE),w7,s9,zC,AK,s_,Av))
 else none
def Wh.ZS:(Unit×Unit×Int×Unit)×(Bool×Int×List UInt8×(Int×Unit×Unit)×(Unit×Int×Unit)×Unit×Unit×Unit)×(Bool×Int×List UInt8×g9.D×mb.D×List cw.D×Unit×Unit)×cg.D×List an.D×List b9.D×List cw.D×List cg.D×List cg.D:=default
def Wh.Mc (xs:b7.D×cg.D):Option ((Bool×Int×List UInt8×g9.D×mb.D×List cw.D×List cg.D×Unit)×Unit):=
 let cx:=xs.1;let v_1:=xs.2;c9 Hf (cx,v_1.1) fun r_2=>
  g8 KA ZS (((0,(),(),()),(false,0,[],(0,(),()),((),0,()),(),(),()),(r_2.1.1,r_2.1.2.1,r_2.1.2.2.1,r_2.1.2.2.2.1,r_2.1.2.2.2.2.1,r_2.1.2.2.2.2.2.1,(),r_2.1.2.2.2.2.2.2.2),v_1,[],[],[],[],r_2.1.2.2.2.2.2.2.1)) fun FH=>
   let GM:=FH.1.2.2.1;let BT:=FH.2.2.1.1;let CU:=FH.2.2.1.2.1;let BH:=FH.2.2.1.2.2.1;let Cg:=FH.2.2.1.2.2.2.1;let Ec:=FH.2.2.1.2.2.2.2.1;let Dq:=FH.2.2.1.2.2.2.2.2.1;let Bx:=FH.2.2.1.2.2.2.2.2.2.2;let A6:=FH.2.2.2.1;let By:=FH.2.2.2.2.2.2.2.2;let TY:List (cg.D):=[]++List.take (Int.toNat (GM-0)) (List.drop (Int.toNat 0) By);let QH:List (cg.D):=[A6];let pb_81:List (cg.D):=TY++QH++List.take (Int.toNat ((↑(List.length By):Int)-GM)) (List.drop (Int.toNat GM) By);let Nb:Nat:=Int.toNat (GM-0);let II:Nat:=Int.toNat ((↑(List.length By):Int)-GM);bif kL [decide (List.length (TY++QH)+List.length (List.take II (List.drop (Int.toNat GM) By))≤eV),decide (0≤GM),decide (GM≤(↑(List.length By):Int)),decide ((↑(List.length By):Int)≤(↑(List.length By):Int)),decide (List.length TY+(1:Nat)≤eV),decide ((0:Nat)+List.length (List.take Nb (List.drop (Int.toNat 0) By))≤eV),true,decide (0≤GM),decide (GM≤(↑(List.length By):Int))] then
    some ((BT,CU,BH,Cg,Ec,Dq,pb_81,Bx),())
   else none
abbrev Wh.aan:Type:=(Int×Unit)×gT.D
abbrev Wh.ahS:Type:=Bool×Unit⊕Unit×gT.D
def Wh.G5 (x:aan):Option (aan⊕ahS):=
 let B4:=x.1.1;let m6:=x.2;let C5:Int:=(↑(List.length (m6.2.2.1)):Int);bif decide (B4<C5) then
  let M8:=List.getD (m6.2.2.1) (Int.toNat B4) 0;bn (zog Br m6) fun Iz=>
  bn (zog gh (M8,1,Iz.1)) fun Hj=>
  bn (zog gh (List.getD (m6.2.2.2.1) (Int.toNat B4) 0,1,99)) fun r_48=>
  let Ht:=bif bif !Hj.1 then true else bif decide (B4>0) then decide (List.getD (m6.2.2.1) (Int.toNat (IntKind.wrap .i64 (B4-1))) 0≥M8) else false then true else !r_48.1;bif kL [(!!bif !Hj.1 then true else bif decide (B4>0) then decide (List.getD (m6.2.2.1) (Int.toNat (IntKind.wrap .i64 (B4-1))) 0≥M8) else false) || qu (gh (List.getD (m6.2.2.2.1) (Int.toNat B4) 0,1,99)),(!!bif !Hj.1 then true else bif decide (B4>0) then decide (List.getD (m6.2.2.1) (Int.toNat (IntKind.wrap .i64 (B4-1))) 0≥M8) else false) || decide (0≤B4),(!!bif !Hj.1 then true else bif decide (B4>0) then decide (List.getD (m6.2.2.1) (Int.toNat (IntKind.wrap .i64 (B4-1))) 0≥M8) else false) || decide (B4<(↑(List.length (m6.2.2.2.1)):Int)),!(decide (B4>0) && !!Hj.1) || decide (0≤B4),!(decide (B4>0) && !!Hj.1) || decide (B4<C5),!(decide (B4>0) && !!Hj.1) || decide (0≤IntKind.wrap .i64 (B4-1)),!(decide (B4>0) && !!Hj.1) || decide (IntKind.wrap .i64 (B4-1)<C5),qu (gh (M8,1,Iz.1)),qu (Br m6),decide (0≤B4),decide (B4<C5)] then
   bif Ht then
    some (.inr (.inl (false,())))
   else
    some (.inl (((IntKind.wrap .i64 (B4+1)),()),m6))
  else none
 else
  some (.inr (.inr ((),m6)))
def Wh.aao:Bool×Unit⊕Unit×gT.D:=.inl default
def Wh.Ej (xs:gT.D):Option (Bool×Unit):=
 let fy:gT.D:=xs;bn (zog gh (fy.1,1,300)) fun r_1=>
 bn (zog gh (fy.2.1,1,16)) fun r_2=>
 bn (zog Br fy) fun gv=>
 bn (zog gh ((↑(List.length (fy.2.2.1)):Int),1,3)) fun BW=>
 bn (zog gh (gv.1,1,24)) fun E9=>
 let qe:=bif bif bif bif !r_1.1 then true else !r_2.1 then true else !E9.1 then true else !BW.1 then true else(↑(List.length (fy.2.2.2.1)):Int) != (↑(List.length (fy.2.2.1)):Int);bif kL [(!!bif bif !r_1.1 then true else !r_2.1 then true else !E9.1) || qu (gh ((↑(List.length (fy.2.2.1)):Int),1,3)),(!!bif !r_1.1 then true else !r_2.1) || qu (gh (gv.1,1,24)),(!!bif !r_1.1 then true else !r_2.1) || qu (Br fy),!!!r_1.1 || qu (gh (fy.2.1,1,16)),qu (gh (fy.1,1,300))] then
  bif qe then
   some (false,())
  else
   g8 G5 aao (((0,()),fy)) fun q_=>
    sumC q_ (fun y_52=>
     let Az:=y_52.1;some (Az,())) (fun z_53=>
     let AP:=z_53.2;let FF:Int:=(↑(List.length (AP.2.2.1)):Int);bn (zog Br AP) fun r_60=>
     let v_62:=List.getD (AP.2.2.1) (Int.toNat (IntKind.wrap .i64 (FF-1))) 0==r_60.1;bif kL [qu (Br AP),decide (0≤IntKind.wrap .i64 (FF-1)),decide (IntKind.wrap .i64 (FF-1)<FF)] then
      some (v_62,())
     else none)
 else none
abbrev Wh.aaF:Type:=(Int×List Int×List UInt8)×Unit
abbrev Wh.ah1:Type:=List UInt8×Unit
def Wh.QO (x:aaF):Option (aaF⊕ah1):=
 let Dc:=x.1.1;let N0:=x.1.2.1;let Ot:=x.1.2.2;let AX:=decide (Dc<(↑(List.length N0):Int));bif AX then
  bif decide (Dc>0) then
   let x3:List UInt8:=Ot ++ [(44:UInt8)];bif kL [decide (List.length Ot+(1:Nat)≤eV)] then
    let Dz:=List.getD N0 (Int.toNat Dc) 0;bn (zog Aw Dz) fun E_=>
    let out_32:List UInt8:=x3++E_.1;bif kL [decide (List.length x3+List.length (E_.1)≤eV),qu (Aw Dz),decide (0≤Dc),AX] then
     some (.inl (((IntKind.wrap .i64 (Dc+1)),N0,out_32),()))
    else none
   else none
  else
   let FD:=List.getD N0 (Int.toNat Dc) 0;bn (zog Aw FD) fun Iy=>
   let out_39:List UInt8:=Ot++Iy.1;bif kL [decide (List.length Ot+List.length (Iy.1)≤eV),qu (Aw FD),decide (0≤Dc),AX] then
    some (.inl (((IntKind.wrap .i64 (Dc+1)),N0,out_39),()))
   else none
 else
  some (.inr (Ot,()))
def Wh.aaG:List UInt8×Unit:=default
def Wh.Ic (xs:List Int):Option (List UInt8×Unit):=
 let J8:=xs;g8 QO aaG (((0,J8,[]),())) fun y_42=>
  let out_43:=y_42.1;some (out_43,())
def Wh.E6 (xs:gT.D):Option (List UInt8×Unit):=
 let fy:gT.D:=xs;c9 Ej fy fun r_1=>
  bif !r_1.1 then
   some ([],())
  else
   bn (zog Aw fy.1) fun r_2=>
   bn (zog Aw fy.2.1) fun dz=>
   bn (zog Ic (fy.2.2.1)) fun AM=>
   bn (zog Ic (fy.2.2.2.1)) fun A8=>
   let A3:=r_2.1 ++ [(47:UInt8)]++dz.1 ++ [(58:UInt8)]++AM.1 ++ [(58:UInt8)]++A8.1;bif kL [decide (List.length (r_2.1 ++ [(47:UInt8)]++dz.1 ++ [(58:UInt8)]++AM.1 ++ [(58:UInt8)])+List.length A8.1≤eV),qu (Ic (fy.2.2.2.1)),decide (List.length (r_2.1 ++ [(47:UInt8)]++dz.1 ++ [(58:UInt8)]++AM.1)+(1:Nat)≤eV),decide (List.length (r_2.1 ++ [(47:UInt8)]++dz.1 ++ [(58:UInt8)])+List.length AM.1≤eV),qu (Ic (fy.2.2.1)),decide (List.length (r_2.1 ++ [(47:UInt8)]++dz.1)+(1:Nat)≤eV),decide (List.length (r_2.1 ++ [(47:UInt8)])+List.length dz.1≤eV),qu (Aw fy.2.1),decide (List.length r_2.1+(1:Nat)≤eV),qu (Aw fy.1)] then
    some (A3,())
   else none
def Wh.L_ (xs:(Bool×Int×List UInt8×(Int×List an.D×Unit)×(List b9.D×Int×Unit)×List cw.D×List cg.D×Unit)×eL.D):Option (((Bool×Int×List UInt8×g9.D×mb.D×List cw.D×List cg.D×Unit)×List eL.D)×Unit):=
 let cx:=xs.1;let w_1:=xs.2;c9 Gc (cx,w_1.2.1) fun r_2=>
  let AR:=decide (r_2.1≥0);let AG:=bif AR then decide (((List.getD (cx.2.2.2.2.2.2.1) (Int.toNat r_2.1) (0,0,0,0,0,0,())).2).1>w_1.2.2.1) else false;bif kL [!AR || decide (0≤r_2.1),!AR || decide (r_2.1<(↑(List.length (cx.2.2.2.2.2.2.1)):Int))] then
   bif AG then
    some ((cx,[]),())
   else
    bn (zog Cj w_1.2.1) fun gv=>
    bn (zog Ei (cx.2.2.2.1,gv.1,w_1.2.2.2.2.2.1)) fun nS=>
    bif kL [qu (Ei (cx.2.2.2.1,gv.1,w_1.2.2.2.2.2.1)),qu (Cj w_1.2.1)] then
     let Bp:=bif(!nS.1.2) then true else bif decide (w_1.2.2.2.1>0) then nS.1.1.2.2.1 != w_1.2.2.2.1 else false;bif Bp then
      let qe:=bif AR then decide (((List.getD (cx.2.2.2.2.2.2.1) (Int.toNat r_2.1) (0,0,0,0,0,0,())).2).1<w_1.2.2.1) else false;bif kL [!AR || decide (0≤r_2.1),!AR || decide (r_2.1<(↑(List.length (cx.2.2.2.2.2.2.1)):Int))] then
       bif qe then
        c9 Hf (cx,w_1.2.1) fun Df=>
         c9 Jm (w_1.2.1,w_1.2.2.1,w_1.2.2.2.1) fun Hh=>
          some ((Df.1,Hh.1),())
       else
        c9 Jm (w_1.2.1,w_1.2.2.1,w_1.2.2.2.1) fun Hi=>
         some ((cx,Hi.1),())
      else none
     else
      let iL:=decide (r_2.1<0);let nI:=bif bif iL then true else decide (((List.getD (cx.2.2.2.2.2.2.1) (Int.toNat r_2.1) (0,0,0,0,0,0,())).2).1<w_1.2.2.1) then true else(((List.getD (cx.2.2.2.2.2.2.1) (Int.toNat r_2.1) (0,0,0,0,0,0,())).2).2).1 != nS.1.1.2.2.1;bif kL [(!!bif iL then true else decide (((List.getD (cx.2.2.2.2.2.2.1) (Int.toNat r_2.1) (0,0,0,0,0,0,())).2).1<w_1.2.2.1)) || decide (0≤r_2.1),(!!bif iL then true else decide (((List.getD (cx.2.2.2.2.2.2.1) (Int.toNat r_2.1) (0,0,0,0,0,0,())).2).1<w_1.2.2.1)) || decide (r_2.1<(↑(List.length (cx.2.2.2.2.2.2.1)):Int)),!!iL || decide (0≤r_2.1),!!iL || decide (r_2.1<(↑(List.length (cx.2.2.2.2.2.2.1)):Int))] then
       bif nI then
        c9 Mc (cx,w_1.2.1,w_1.2.2.1,nS.1.1.2.2.1,0,0,cx.2.1,()) fun Le=>
         bn (zog Ci (↑(List.length (nS.1.1.2.2.2.1)):Int)) fun Dg=>
         bn (zog E6 Dg.1) fun D0=>
         let TR:List (eL.D):=[(2,w_1.2.1,w_1.2.2.1,nS.1.1.2.2.1,0,[],D0.1,())];let we:Int:=(↑(List.length (nS.1.1.2.2.2.1)):Int);bif kL [qu (E6 Dg.1),qu (Ci we)] then
          some ((Le.1,TR),())
         else none
       else
        bn (zog Ci (↑(List.length (nS.1.1.2.2.2.1)):Int)) fun E_=>
        bn (zog E6 E_.1) fun C0=>
        let TT:List (eL.D):=[(2,w_1.2.1,w_1.2.2.1,nS.1.1.2.2.1,0,[],C0.1,())];let FD:Int:=(↑(List.length (nS.1.1.2.2.2.1)):Int);bif kL [qu (E6 E_.1),qu (Ci FD)] then
         some ((cx,TT),())
        else none
      else none
    else none
  else none
def Wh.q37 (x:(Unit×Unit×Unit×Int)×(Bool×Int×List UInt8×(Int×Unit×Unit)×(Unit×Int×Unit)×Unit×Unit×Unit)×(Bool×Int×List UInt8×(Int×Unit×Unit)×(Unit×Int×Unit)×Unit×Unit×Unit)×eL.D×List an.D×List b9.D×List cw.D×List cg.D×List an.D×List b9.D×List cw.D×List cg.D):Option ((Unit×Unit)×(Bool×Int×List UInt8×(Int×Unit×Unit)×(Unit×Int×Unit)×Unit×Unit×Unit)×(Bool×Int×List UInt8×g9.D×mb.D×List cw.D×Unit×Unit)×List an.D×List b9.D×List cw.D×List cg.D×List cg.D⊕(Unit×Unit)×(Bool×Int×List UInt8×(Int×Unit×Unit)×(Unit×Int×Unit)×Unit×Unit×Unit)×(Bool×Int×List UInt8×(Int×Unit×Unit)×(Unit×Int×Unit)×Unit×Unit×Unit)×List an.D×List b9.D×List cw.D×List cg.D×List an.D×List b9.D×List cw.D×List cg.D):=
 let FQ:=x.1.2.2.2;let wm:=x.2.1.1;let nE:=x.2.1.2.1;let w7:=x.2.1.2.2.1;let s9:=x.2.1.2.2.2.1.1;let zC:=x.2.1.2.2.2.1.2.2;let AK:=x.2.1.2.2.2.2.1.2;let s_:=x.2.1.2.2.2.2.2.2.2;let Av:=x.2.2.1.1;let nP:=x.2.2.1.2.1;let xe:=x.2.2.1.2.2.1;let tn:=x.2.2.1.2.2.2.1.1;let AE:=x.2.2.1.2.2.2.1.2.2;let A1:=x.2.2.1.2.2.2.2.1.2;let AP:=x.2.2.1.2.2.2.2.2.2.2;let n5:=x.2.2.2.1;let AL:=x.2.2.2.2.1;let Cp:=x.2.2.2.2.2.1;let Ce:=x.2.2.2.2.2.2.1;let Bl:=x.2.2.2.2.2.2.2.1;let BR:=x.2.2.2.2.2.2.2.2.1;let Cf:=x.2.2.2.2.2.2.2.2.2.1;let Bn:=x.2.2.2.2.2.2.2.2.2.2.1;let A2:=x.2.2.2.2.2.2.2.2.2.2.2;bif(n5.1==5) then
  c9 Hf ((Av,nP,xe,(tn,BR,AE),(Cf,A1),Bn,A2,AP),n5.2.1) fun JH=>
   some (.inl ((((),()),(wm,nE,w7,(s9,(),zC),((),AK),(),(),s_),(JH.1.1,JH.1.2.1,JH.1.2.2.1,JH.1.2.2.2.1,JH.1.2.2.2.2.1,JH.1.2.2.2.2.2.1,(),JH.1.2.2.2.2.2.2.2),AL,Cp,Ce,Bl,JH.1.2.2.2.2.2.2.1)))
 else
  let IG:=n5.1==4;let v_71:=bif bif IG then decide (n5.2.2.2.2.1≤3) else false then decide (n5.2.2.2.2.1>(((((List.getD A2 (Int.toNat FQ) (0,0,0,0,0,0,())).2).2).2).2).1) else false;bif kL [(!bif IG then decide (n5.2.2.2.2.1≤3) else false) || decide (0≤FQ),(!bif IG then decide (n5.2.2.2.2.1≤3) else false) || decide (FQ<(↑(List.length A2):Int))] then
   bif v_71 then
    let A6:List (cg.D):=List.set A2 (Int.toNat FQ) ((List.getD A2 (Int.toNat FQ) (0,0,0,0,0,0,())).1,((List.getD A2 (Int.toNat FQ) (0,0,0,0,0,0,())).2).1,(((List.getD A2 (Int.toNat FQ) (0,0,0,0,0,0,())).2).2).1,((((List.getD A2 (Int.toNat FQ) (0,0,0,0,0,0,())).2).2).2).1,n5.2.2.2.2.1,(((((List.getD A2 (Int.toNat FQ) (0,0,0,0,0,0,())).2).2).2).2).2);bif kL [decide (0≤FQ),decide (FQ<(↑(List.length A2):Int))] then
     some (.inr ((((),()),(wm,nE,w7,(s9,(),zC),((),AK),(),(),s_),(Av,nP,xe,(tn,(),AE),((),A1),(),(),AP),AL,Cp,Ce,Bl,BR,Cf,Bn,A6)))
    else none
   else
    some (.inr ((((),()),(wm,nE,w7,(s9,(),zC),((),AK),(),(),s_),(Av,nP,xe,(tn,(),AE),((),A1),(),(),AP),AL,Cp,Ce,Bl,BR,Cf,Bn,A2)))
  else none
def Wh.Q0 (x:((Unit)×(Unit)×(Unit)×(Int))×(((Bool)×((Int)×((List UInt8)×(((Int)×((Unit)×(Unit)))×(((Unit)×((Int)×(Unit)))×((Unit)×((Unit)×(Unit))))))))×((Bool)×((Int)×((List UInt8)×(((Int)×((Unit)×(Unit)))×(((Unit)×((Int)×(Unit)))×((Unit)×((Unit)×(Unit))))))))×(eL.D)×(List (an.D))×(List (b9.D))×(List (cw.D))×(List (cg.D))×(List (an.D))×(List (b9.D))×(List (cw.D))×(List (cg.D)))):(((Unit)×(Unit))×(((Bool)×((Int)×((List UInt8)×(((Int)×((Unit)×(Unit)))×(((Unit)×((Int)×(Unit)))×((Unit)×((Unit)×(Unit))))))))×((Bool)×((Int)×((List UInt8)×((g9.D)×((mb.D)×((List (cw.D))×((Unit)×(Unit))))))))×(List (an.D))×(List (b9.D))×(List (cw.D))×(List (cg.D))×(List (cg.D))))⊕(((Unit)×(Unit))×(((Bool)×((Int)×((List UInt8)×(((Int)×((Unit)×(Unit)))×(((Unit)×((Int)×(Unit)))×((Unit)×((Unit)×(Unit))))))))×((Bool)×((Int)×((List UInt8)×(((Int)×((Unit)×(Unit)))×(((Unit)×((Int)×(Unit)))×((Unit)×((Unit)×(Unit))))))))×(List (an.D))×(List (b9.D))×(List (cw.D))×(List (cg.D))×(List (an.D))×(List (b9.D))×(List (cw.D))×(List (cg.D)))):=match q37 x with | some y=>y|none=>.inl (default,(default,default,default,default,default,default,default))
def Wh.q37_v (x:((Unit)×(Unit)×(Unit)×(Int))×(((Bool)×((Int)×((List UInt8)×(((Int)×((Unit)×(Unit)))×(((Unit)×((Int)×(Unit)))×((Unit)×((Unit)×(Unit))))))))×((Bool)×((Int)×((List UInt8)×(((Int)×((Unit)×(Unit)))×(((Unit)×((Int)×(Unit)))×((Unit)×((Unit)×(Unit))))))))×(eL.D)×(List (an.D))×(List (b9.D))×(List (cw.D))×(List (cg.D))×(List (an.D))×(List (b9.D))×(List (cw.D))×(List (cg.D))))(y:(((Unit)×(Unit))×(((Bool)×((Int)×((List UInt8)×(((Int)×((Unit)×(Unit)))×(((Unit)×((Int)×(Unit)))×((Unit)×((Unit)×(Unit))))))))×((Bool)×((Int)×((List UInt8)×((g9.D)×((mb.D)×((List (cw.D))×((Unit)×(Unit))))))))×(List (an.D))×(List (b9.D))×(List (cw.D))×(List (cg.D))×(List (cg.D))))⊕(((Unit)×(Unit))×(((Bool)×((Int)×((List UInt8)×(((Int)×((Unit)×(Unit)))×(((Unit)×((Int)×(Unit)))×((Unit)×((Unit)×(Unit))))))))×((Bool)×((Int)×((List UInt8)×(((Int)×((Unit)×(Unit)))×(((Unit)×((Int)×(Unit)))×((Unit)×((Unit)×(Unit))))))))×(List (an.D))×(List (b9.D))×(List (cw.D))×(List (cg.D))×(List (an.D))×(List (b9.D))×(List (cw.D))×(List (cg.D)))))(h:q37 x=some y):Q0 x=y:=by unfold Q0;rw[h]
def Wh.L8 (xs:(Bool×Int×List UInt8×(Int×List an.D×Unit)×(List b9.D×Int×Unit)×List cw.D×List cg.D×Unit)×eL.D):Option (((Bool×Int×List UInt8×g9.D×mb.D×List cw.D×List cg.D×Unit)×List eL.D)×Unit):=
 let cx:=xs.1;let w_1:=xs.2;bif(w_1.1==1) then
  c9 L_ (cx,w_1) fun r_3=>
   some (r_3.1,())
 else
  c9 Gc (cx,w_1.2.1) fun dz=>
   let oc:=decide (dz.1<0);let FG:=bif bif oc then true else((List.getD (cx.2.2.2.2.2.2.1) (Int.toNat dz.1) (0,0,0,0,0,0,())).2).1 != w_1.2.2.1 then true else(((List.getD (cx.2.2.2.2.2.2.1) (Int.toNat dz.1) (0,0,0,0,0,0,())).2).2).1 != w_1.2.2.2.1;bif kL [(!!bif oc then true else((List.getD (cx.2.2.2.2.2.2.1) (Int.toNat dz.1) (0,0,0,0,0,0,())).2).1 != w_1.2.2.1) || decide (0≤dz.1),(!!bif oc then true else((List.getD (cx.2.2.2.2.2.2.1) (Int.toNat dz.1) (0,0,0,0,0,0,())).2).1 != w_1.2.2.1) || decide (dz.1<(↑(List.length (cx.2.2.2.2.2.2.1)):Int)),!!oc || decide (0≤dz.1),!!oc || decide (dz.1<(↑(List.length (cx.2.2.2.2.2.2.1)):Int))] then
    bif FG then
     some ((cx,[]),())
    else
     CC q37 Q0 ((((),(),(),dz.1),(false,0,[],(0,(),()),((),0,()),(),(),()),(cx.1,cx.2.1,cx.2.2.1,(cx.2.2.2.1.1,(),cx.2.2.2.1.2.2),((),cx.2.2.2.2.1.2),(),(),cx.2.2.2.2.2.2.2),w_1,[],[],[],[],cx.2.2.2.1.2.1,cx.2.2.2.2.1.1,cx.2.2.2.2.2.1,cx.2.2.2.2.2.2.1)) fun q_=>
      sumC q_ (fun BE=>
       let DH:=BE.2.2.1.1;let CY:=BE.2.2.1.2.1;let Dr:=BE.2.2.1.2.2.1;let Kf:=BE.2.2.1.2.2.2.1;let Oi:=BE.2.2.1.2.2.2.2.1;let Oj:=BE.2.2.1.2.2.2.2.2.1;let Kg:=BE.2.2.1.2.2.2.2.2.2.2;let Ee:=BE.2.2.2.2.2.2.2;some (((DH,CY,Dr,Kf,Oi,Oj,Ee,Kg),[]),())) (fun Gz=>
       let Dn:=Gz.2.2.1.1;let HQ:=Gz.2.2.1.2.1;let AH:=Gz.2.2.1.2.2.1;let Ev:=Gz.2.2.1.2.2.2.1.1;let Ew:=Gz.2.2.1.2.2.2.1.2.2;let Fq:=Gz.2.2.1.2.2.2.2.1.2;let GP:=Gz.2.2.1.2.2.2.2.2.2.2;let I_:=Gz.2.2.2.2.2.2.2.1;let HR:=Gz.2.2.2.2.2.2.2.2.1;let FU:=Gz.2.2.2.2.2.2.2.2.2.1;let FV:=Gz.2.2.2.2.2.2.2.2.2.2;some (((Dn,HQ,AH,(Ev,I_,Ew),(HR,Fq),FU,FV,GP),[]),()))
   else none
def Wh.q32 (xs:b7.D×eL.D):Option ((b7.D×List eL.D)×Unit):=
 let cx:=xs.1;let w_1:=xs.2;c9 Gi cx fun r_2=>
  bif !r_2.1 then
   some (((false,0,[],(0,[],()),([],0,()),[],[],()),[]),())
  else
   c9 Ft cx fun r_3=>
    let AG:= !cx.1;bn (zog EG w_1) fun gv=>
    let FG:=bif bif AG then true else !gv.1 then true else decide (w_1.2.1≥4);bif kL [!!AG || qu (EG w_1)] then
     bif FG then
      some ((r_3.1,[]),())
     else
      c9 L8 (r_3.1,w_1) fun z5=>
       some (z5.1,())
    else none
def Wh.q39 (x:(Unit×List eL.D×Int×Unit×Int×Int)×(b7.D×Unit×Unit×Unit×Unit)×((Bool×Int×List UInt8×(Int×Unit×Unit)×(Unit×Int×Unit)×Unit×Unit×Unit)×Unit×Unit×Unit×Unit)×List bm.D×List cp.D×List an.D×List an.D×List b9.D×List cw.D×List cg.D×List bm.D×List cp.D×List an.D):Option ((Unit×List eL.D×Int×Unit×Int×Int)×(b7.D×Unit×Unit×Unit×Unit)×((Bool×Int×List UInt8×(Int×Unit×Unit)×(Unit×Int×Unit)×Unit×Unit×Unit)×Unit×Unit×Unit×Unit)×List bm.D×List cp.D×List an.D×List an.D×List b9.D×List cw.D×List cg.D×List bm.D×List cp.D×List an.D):=
 let Qh:=x.1.2.1;let to_57:=x.1.2.2.1;let NV:=x.1.2.2.2.2.1;let at_59:=x.1.2.2.2.2.2;let Bl:=x.2.1.1;let BR:=x.2.1.2.2.2.2;let Cf:=x.2.2.1.1.1;let Bn:=x.2.2.1.1.2.1;let A2:=x.2.2.1.1.2.2.1;let BT:=x.2.2.1.1.2.2.2.1.1;let CU:=x.2.2.1.1.2.2.2.1.2.2;let BH:=x.2.2.1.1.2.2.2.2.1.2;let Cg:=x.2.2.1.1.2.2.2.2.2.2.2;let Ec:=x.2.2.1.2.2.2.2;let Dq:=x.2.2.2.1;let Bx:=x.2.2.2.2.1;let A6:=x.2.2.2.2.2.1;let CK:=x.2.2.2.2.2.2.1;let Ch:=x.2.2.2.2.2.2.2.1;let Cw:=x.2.2.2.2.2.2.2.2.1;let CV:=x.2.2.2.2.2.2.2.2.2.1;let By:=x.2.2.2.2.2.2.2.2.2.2.1;let EA:=x.2.2.2.2.2.2.2.2.2.2.2.1;let EX:=x.2.2.2.2.2.2.2.2.2.2.2.2;bif decide (at_59<0) then
  let v_81:=List.getD Qh (Int.toNat NV) (0,0,0,0,0,[],[],());bif kL [decide (0≤NV),decide (NV<(↑(List.length Qh):Int))] then
   some ((((),Qh,to_57,(),NV,v_81.2.1),(Bl,(),(),(),BR),((Cf,Bn,A2,(BT,(),CU),((),BH),(),(),Cg),(),(),(),Ec),Dq,Bx,A6,CK,Ch,Cw,CV,By,EA,EX))
  else none
 else
  some ((((),Qh,to_57,(),NV,at_59),(Bl,(),(),(),BR),((Cf,Bn,A2,(BT,(),CU),((),BH),(),(),Cg),(),(),(),Ec),Dq,Bx,A6,CK,Ch,Cw,CV,By,EA,EX))
def Wh.MB (x:((Unit)×(List (eL.D))×(Int)×(Unit)×(Int)×(Int))×(((b7.D)×((Unit)×((Unit)×((Unit)×(Unit)))))×(((Bool)×((Int)×((List UInt8)×(((Int)×((Unit)×(Unit)))×(((Unit)×((Int)×(Unit)))×((Unit)×((Unit)×(Unit))))))))×((Unit)×((Unit)×((Unit)×(Unit)))))×(List (bm.D))×(List (cp.D))×(List (an.D))×(List (an.D))×(List (b9.D))×(List (cw.D))×(List (cg.D))×(List (bm.D))×(List (cp.D))×(List (an.D)))):(((Unit)×(List (eL.D))×(Int)×(Unit)×(Int)×(Int))×(((b7.D)×((Unit)×((Unit)×((Unit)×(Unit)))))×(((Bool)×((Int)×((List UInt8)×(((Int)×((Unit)×(Unit)))×(((Unit)×((Int)×(Unit)))×((Unit)×((Unit)×(Unit))))))))×((Unit)×((Unit)×((Unit)×(Unit)))))×(List (bm.D))×(List (cp.D))×(List (an.D))×(List (an.D))×(List (b9.D))×(List (cw.D))×(List (cg.D))×(List (bm.D))×(List (cp.D))×(List (an.D)))):=match q39 x with | some y=>y|none=>(default,(default,default,default,default,default,default,default,default,default,default,default,default))
def Wh.q39_v (x:((Unit)×(List (eL.D))×(Int)×(Unit)×(Int)×(Int))×(((b7.D)×((Unit)×((Unit)×((Unit)×(Unit)))))×(((Bool)×((Int)×((List UInt8)×(((Int)×((Unit)×(Unit)))×(((Unit)×((Int)×(Unit)))×((Unit)×((Unit)×(Unit))))))))×((Unit)×((Unit)×((Unit)×(Unit)))))×(List (bm.D))×(List (cp.D))×(List (an.D))×(List (an.D))×(List (b9.D))×(List (cw.D))×(List (cg.D))×(List (bm.D))×(List (cp.D))×(List (an.D))))(y:(((Unit)×(List (eL.D))×(Int)×(Unit)×(Int)×(Int))×(((b7.D)×((Unit)×((Unit)×((Unit)×(Unit)))))×(((Bool)×((Int)×((List UInt8)×(((Int)×((Unit)×(Unit)))×(((Unit)×((Int)×(Unit)))×((Unit)×((Unit)×(Unit))))))))×((Unit)×((Unit)×((Unit)×(Unit)))))×(List (bm.D))×(List (cp.D))×(List (an.D))×(List (an.D))×(List (b9.D))×(List (cw.D))×(List (cg.D))×(List (bm.D))×(List (cp.D))×(List (an.D)))))(h:q39 x=some y):MB x=y:=by unfold MB;rw[h]
abbrev Wh.ZX:Type:=(Int×Unit×List eL.D×Int×Unit)×(b7.D×Unit×Unit×Unit×Unit)×((Bool×Int×List UInt8×(Int×Unit×Unit)×(Unit×Int×Unit)×Unit×Unit×Unit)×Unit×Unit×Unit×Unit)×List bm.D×List cp.D×List an.D×List an.D×List b9.D×List cw.D×List cg.D×List bm.D×List cp.D×List an.D
abbrev Wh.ahF:Type:=(Unit×Unit)×((Bool×Int×List UInt8×(Int×Unit×Unit)×(Unit×Int×Unit)×Unit×Unit×Unit)×Unit×Unit×Unit×Unit)×(b7.D×Unit×Unit×Unit×Unit)×List an.D×List b9.D×List cw.D×List cg.D×List bm.D×List cp.D×List an.D×List bm.D×List cp.D×List an.D
def Wh.Md (x:ZX):Option (ZX⊕ahF):=
 let i_113:=x.1.1;let Yx:=x.1.2.2.1;let ads:=x.1.2.2.2.1;let FV:=x.2.1.1;let HS:=x.2.1.2.2.2.2;let EW:=x.2.2.1.1.1;let Ey:=x.2.2.1.1.2.1;let Ka:=x.2.2.1.1.2.2.1;let HT:=x.2.2.1.1.2.2.2.1.1;let Kb:=x.2.2.1.1.2.2.2.1.2.2;let GQ:=x.2.2.1.1.2.2.2.2.1.2;let Dp:=x.2.2.1.1.2.2.2.2.2.2.2;let HU:=x.2.2.1.2.2.2.2;let GR:=x.2.2.2.1;let Ja:=x.2.2.2.2.1;let N3:=x.2.2.2.2.2.1;let YC:=x.2.2.2.2.2.2.1;let YD:=x.2.2.2.2.2.2.2.1;let YE:=x.2.2.2.2.2.2.2.2.1;let YF:=x.2.2.2.2.2.2.2.2.2.1;let YG:=x.2.2.2.2.2.2.2.2.2.2.1;let Ql:=x.2.2.2.2.2.2.2.2.2.2.2.1;let Qm:=x.2.2.2.2.2.2.2.2.2.2.2.2;let Hr:Int:=(↑(List.length Yx):Int);let v_139:=bif decide (i_113<Hr) then decide ((↑(List.length Ja):Int)<60) else false;bif v_139 then
  CC q39 MB ((((),Yx,ads,(),i_113,ads),(FV,(),(),(),HS),((EW,Ey,Ka,(HT,(),Kb),((),GQ),(),(),Dp),(),(),(),HU),GR,Ja,N3,YC,YD,YE,YF,YG,Ql,Qm)) fun Cl=>
   let Qf:=Cl.1.2.1;let to_143:=Cl.1.2.2.1;let NT:=Cl.1.2.2.2.2.1;let at_145:=Cl.1.2.2.2.2.2;let Tl:=Cl.2.1.1;let Tm:=Cl.2.1.2.2.2.2;let LV:=Cl.2.2.1.1.1;let HV:=Cl.2.2.1.1.2.1;let Tn:=Cl.2.2.1.1.2.2.1;let To:=Cl.2.2.1.1.2.2.2.1.1;let Qo:=Cl.2.2.1.1.2.2.2.1.2.2;let Qp:=Cl.2.2.1.1.2.2.2.2.1.2;let Qq:=Cl.2.2.1.1.2.2.2.2.2.2.2;let ls_155:=Cl.2.2.1.2.2.2.2;let ls_156:=Cl.2.2.2.1;let YK:=Cl.2.2.2.2.1;let ls_158:=Cl.2.2.2.2.2.1;let ls_159:=Cl.2.2.2.2.2.2.1;let ls_160:=Cl.2.2.2.2.2.2.2.1;let Tp:=Cl.2.2.2.2.2.2.2.2.1;let ls_162:=Cl.2.2.2.2.2.2.2.2.2.1;let LW:=Cl.2.2.2.2.2.2.2.2.2.2.1;let Tq:=Cl.2.2.2.2.2.2.2.2.2.2.2.1;let Tr:=Cl.2.2.2.2.2.2.2.2.2.2.2.2;bn (zog Iq (List.getD Qf (Int.toNat NT) (0,0,0,0,0,[],[],()))) fun r_166=>
   let ls_168:=YK ++ [(at_145,r_166.1,false,())];let v_169:=List.getD Qf (Int.toNat NT) (0,0,0,0,0,[],[],());bif kL [decide (List.length YK+(1:Nat)≤eV),qu (Iq v_169),decide (0≤NT),decide (NT<(↑(List.length Qf):Int))] then
    some (.inl (((IntKind.wrap .i64 (NT+1)),(),Qf,to_143,()),(Tl,(),(),(),Tm),((LV,HV,Tn,(To,(),Qo),((),Qp),(),(),Qq),(),(),(),ls_155),ls_156,ls_168,ls_158,ls_159,ls_160,Tp,ls_162,LW,Tq,Tr))
   else none
 else
  some (.inr (((),()),((EW,Ey,Ka,(HT,(),Kb),((),GQ),(),(),Dp),(),(),(),HU),(FV,(),(),(),HS),YC,YD,YE,YF,YG,Ql,Qm,GR,Ja,N3))
def Wh.ZY:(Unit×Unit)×((Bool×Int×List UInt8×(Int×Unit×Unit)×(Unit×Int×Unit)×Unit×Unit×Unit)×Unit×Unit×Unit×Unit)×(b7.D×Unit×Unit×Unit×Unit)×List an.D×List b9.D×List cw.D×List cg.D×List bm.D×List cp.D×List an.D×List bm.D×List cp.D×List an.D:=default
def Wh.G1 (xs:(b7.D×List bm.D×List cp.D×List an.D×Unit)×Int×List eL.D):Option ((b7.D×List bm.D×List cp.D×List an.D×Unit)×Unit):=
 let w_0:=xs.1;let to_1:=xs.2.1;let list_2:=xs.2.2;g8 Md ZY (((0,(),list_2,to_1,()),(w_0.1,(),(),(),w_0.2.2.2.2),((false,0,[],(0,(),()),((),0,()),(),(),()),(),(),(),()),w_0.2.1,w_0.2.2.1,w_0.2.2.2.1,[],[],[],[],[],[],[])) fun Pm=>
  let ls_181:=Pm.2.2.1.1;let ls_182:=Pm.2.2.1.2.2.2.2;let FW:=Pm.2.2.2.2.2.2.2.2.2.2.1;let FX:=Pm.2.2.2.2.2.2.2.2.2.2.2.1;let Kd:=Pm.2.2.2.2.2.2.2.2.2.2.2.2;some ((ls_181,FW,FX,Kd,ls_182),())
def Wh.KE (xs:bm.D):Option (Bool×Unit):=
 let b8:=xs;let v_1:Int:=(↑(List.length (b8.2.2.2.2.2.1.1.2.2.1)):Int);let Bp:=bif bif bif bif bif bif v_1==0 then(↑(List.length (b8.2.2.2.2.2.1.1.2.2.2.1)):Int)==0 else false then b8.2.2.2.2.2.1.1.1==0 else false then b8.2.2.2.2.2.1.1.2.1==0 else false then b8.2.2.2.2.2.1.2.1.1==0 else false then b8.2.2.2.2.2.1.2.1.2.1==0 else false then(↑(List.length (b8.2.2.2.2.2.1.2.1.2.2.1)):Int)==0 else false;some (Bp,())
abbrev Wh.aaX:Type:=(Int×List Int×Int)×Unit
abbrev Wh.ah_:Type:=Bool×Unit⊕Int×Unit
def Wh.Jy (x:aaX):Option (aaX⊕ah_):=
 let At:=x.1.1;let OV:=x.1.2.1;let Sk:=x.1.2.2;let z9:=decide (At<(↑(List.length OV):Int));bif z9 then
  let v9:=List.getD OV (Int.toNat At) 0;let n_:=IntKind.wrap .i64 (Sk-1);bn (zog gh (v9,0,n_)) fun Gp=>
  let AX:=bif !Gp.1 then true else bif decide (At>0) then decide (List.getD OV (Int.toNat (IntKind.wrap .i64 (At-1))) 0≥v9) else false;bif kL [!(decide (At>0) && !!Gp.1) || decide (0≤At),!(decide (At>0) && !!Gp.1) || z9,!(decide (At>0) && !!Gp.1) || decide (0≤IntKind.wrap .i64 (At-1)),!(decide (At>0) && !!Gp.1) || decide (IntKind.wrap .i64 (At-1)<(↑(List.length OV):Int)),qu (gh (v9,0,n_)),decide (0≤At),z9] then
   bif AX then
    some (.inr (.inl (false,())))
   else
    some (.inl (((IntKind.wrap .i64 (At+1)),OV,Sk),()))
  else none
 else
  some (.inr (.inr (Sk,())))
def Wh.aaY:Bool×Unit⊕Int×Unit:=.inl default
def Wh.Il (xs:List Int×Int):Option (Bool×Unit):=
 let Hp:=xs.1;let Sj:=xs.2;g8 Jy aaY (((0,Hp,Sj),())) fun q_=>
  sumC q_ (fun Fe=>
   let CP:=Fe.1;some (CP,())) (fun z_28=>
   let ad6:=z_28.1;c9 gh (ad6,0,24) fun E_=>
    some (E_.1,()))
abbrev Wh.abg:Type:=(Int×Int×List Int)×Unit
abbrev Wh.aik:Type:=Bool×Unit⊕Unit×Unit
def Wh.Mu (x:abg):Option (abg⊕aik):=
 let CS:=x.1.1;let Eg:=x.1.2.1;let Uh:=x.1.2.2;let A3:=decide (CS<(↑(List.length Uh):Int));bif A3 then
  let A_:=List.getD Uh (Int.toNat CS) 0;let r_:=A_==Eg;bif kL [decide (0≤CS),A3] then
   bif r_ then
    some (.inr (.inl (true,())))
   else
    some (.inl (((IntKind.wrap .i64 (CS+1)),Eg,Uh),()))
  else none
 else
  some (.inr (.inr ((),())))
def Wh.abh:Bool×Unit⊕Unit×Unit:=.inl default
def Wh.EI (xs:List Int×Int):Option (Bool×Unit):=
 let Hp:=xs.1;let n_1:=xs.2;g8 Mu abh (((0,n_1,Hp),())) fun q_=>
  sumC q_ (fun y_17=>
   let n_:=y_17.1;some (n_,())) (fun _=>
   some (false,()))
abbrev Wh.acd:Type:=(Int×Int×Unit)×ei.D
abbrev Wh.aiL:Type:=Bool×Unit⊕(Unit×Int)×ei.D
def Wh.MH (x:acd):Option (acd⊕aiL):=
 let J7:=x.1.1;let Dm:=x.1.2.1;let s_:=x.2;let Ht:Int:=(↑(List.length (s_.2.2.1)):Int);bif decide (J7<Ht) then
  let B9:=J7 != Dm;bn (zog EI ((List.getD (s_.2.2.1) (Int.toNat J7) ([],[],())).1,List.getD ((List.getD (s_.2.2.1) (Int.toNat Dm) ([],[],())).1) (Int.toNat 0) 0)) fun r_52=>
  let IF:=bif B9 then r_52.1 else false;bif kL [!B9 || qu (EI ((List.getD (s_.2.2.1) (Int.toNat J7) ([],[],())).1,List.getD ((List.getD (s_.2.2.1) (Int.toNat Dm) ([],[],())).1) (Int.toNat 0) 0)),!B9 || decide ((0:Int)≤0),!B9 || decide (0<(↑(List.length ((List.getD (s_.2.2.1) (Int.toNat Dm) ([],[],())).1)):Int)),!B9 || decide (0≤Dm),!B9 || decide (Dm<Ht),!B9 || decide (0≤J7),!B9 || decide (J7<Ht)] then
   bif IF then
    some (.inr (.inl (false,())))
   else
    some (.inl (((IntKind.wrap .i64 (J7+1)),Dm,()),s_))
  else none
 else
  some (.inr (.inr (((),Dm),s_)))
def Wh.ace:Bool×Unit⊕(Unit×Int)×ei.D:=.inl default
abbrev Wh.ab9:Type:=(Int×Unit)×ei.D
abbrev Wh.aiK:Type:=Bool×Unit⊕Unit×Unit
def Wh.MG (x:ab9):Option (ab9⊕aiK):=
 let HM:=x.1.1;let Bn:=x.2;let v_64:Int:=(↑(List.length (Bn.2.2.1)):Int);bif decide (HM<v_64) then
  g8 MH ace (((0,HM,()),Bn)) fun q_=>
   sumC q_ (fun y_67=>
    let Fa:=y_67.1;some (.inr (.inl (Fa,())))) (fun z_68=>
    let i_70:=z_68.1.2;let Bx:=z_68.2;some (.inl (((IntKind.wrap .i64 (i_70+1)),()),Bx)))
 else
  some (.inr (.inr ((),())))
def Wh.ab_:Bool×Unit⊕Unit×Unit:=.inl default
abbrev Wh.ab7:Type:=(Int×Unit)×ei.D
abbrev Wh.aiJ:Type:=Bool×Unit⊕Unit×ei.D
def Wh.Lb (x:ab7):Option (ab7⊕aiJ):=
 let DR:=x.1.1;let tc:=x.2;let v9:Int:=(↑(List.length (tc.2.2.1)):Int);bif decide (DR<v9) then
  let BU:=List.getD (tc.2.2.1) (Int.toNat DR) ([],[],());bif kL [decide (0≤DR),decide (DR<v9)] then
   bn (zog Il (BU.1,tc.1)) fun DZ=>
   let x3:=bif bif bif !DZ.1 then true else(↑(List.length BU.1):Int)==0 then true else(↑(List.length BU.2.1):Int) != tc.2.1 then true else bif decide (DR>0) then decide (List.getD ((List.getD (tc.2.2.1) (Int.toNat (IntKind.wrap .i64 (DR-1))) ([],[],())).1) (Int.toNat 0) 0≥List.getD BU.1 (Int.toNat 0) 0) else false;bif kL [!(decide (DR>0) && !bif bif !DZ.1 then true else(↑(List.length BU.1):Int)==0 then true else(↑(List.length BU.2.1):Int) != tc.2.1) || decide ((0:Int)≤0),!(decide (DR>0) && !bif bif !DZ.1 then true else(↑(List.length BU.1):Int)==0 then true else(↑(List.length BU.2.1):Int) != tc.2.1) || decide (0<(↑(List.length BU.1):Int)),!(decide (DR>0) && !bif bif !DZ.1 then true else(↑(List.length BU.1):Int)==0 then true else(↑(List.length BU.2.1):Int) != tc.2.1) || decide ((0:Int)≤0),!(decide (DR>0) && !bif bif !DZ.1 then true else(↑(List.length BU.1):Int)==0 then true else(↑(List.length BU.2.1):Int) != tc.2.1) || decide (0<(↑(List.length ((List.getD (tc.2.2.1) (Int.toNat (IntKind.wrap .i64 (DR-1))) ([],[],())).1)):Int)),!(decide (DR>0) && !bif bif !DZ.1 then true else(↑(List.length BU.1):Int)==0 then true else(↑(List.length BU.2.1):Int) != tc.2.1) || decide (0≤IntKind.wrap .i64 (DR-1)),!(decide (DR>0) && !bif bif !DZ.1 then true else(↑(List.length BU.1):Int)==0 then true else(↑(List.length BU.2.1):Int) != tc.2.1) || decide (IntKind.wrap .i64 (DR-1)<v9),qu (Il (BU.1,tc.1))] then
    bif x3 then
     some (.inr (.inl (false,())))
    else
     some (.inl (((IntKind.wrap .i64 (DR+1)),()),tc))
   else none
  else none
 else
  some (.inr (.inr ((),tc)))
def Wh.ab8:Bool×Unit⊕Unit×ei.D:=.inl default
def Wh.Gk (xs:ei.D):Option (Bool×Unit):=
 let cx:=xs;bn (zog gh (cx.1,1,24)) fun r_1=>
 bn (zog gh (cx.2.1,1,16)) fun r_2=>
 let AR:=bif !r_1.1 then true else !r_2.1;bif kL [!!!r_1.1 || qu (gh (cx.2.1,1,16)),qu (gh (cx.1,1,24))] then
  bif AR then
   some (false,())
  else
   g8 Lb ab8 (((0,()),cx)) fun q_=>
    sumC q_ (fun C6=>
     let ID:=C6.1;some (ID,())) (fun z_30=>
     let Au:=z_30.2;g8 MG ab_ (((0,()),Au)) fun q_=>
      sumC q_ (fun BE=>
       let v_76:=BE.1;some (v_76,())) (fun _=>
       some (true,())))
 else none
def Wh.Ga (xs:nT.D):Option (Bool×Unit):=
 let nC:=xs;bn (zog Ej nC.1) fun r_1=>
 bn (zog Gk nC.2.1) fun r_2=>
 bn (zog Br nC.1) fun gv=>
 let Ba:=bif bif bif r_1.1 then r_2.1 else false then nC.2.1.1==gv.1 else false then nC.2.1.2.1==nC.1.2.1 else false;bif kL [(!bif r_1.1 then r_2.1 else false) || qu (Br nC.1),!r_1.1 || qu (Gk nC.2.1),qu (Ej nC.1)] then
  some (Ba,())
 else none
def Wh.E8 (xs:nT.D):Option (Bool×Unit):=
 let nC:=xs;bn (zog Ga nC) fun r_1=>
 bn (zog Br nC.1) fun r_2=>
 let AG:=bif r_1.1 then(↑(List.length (nC.2.1.2.2.1)):Int)==r_2.1 else false;bif kL [!r_1.1 || qu (Br nC.1),qu (Ga nC)] then
  some (AG,())
 else none
def Wh.DY (xs:bm.D):Option (Bool×Unit):=
 let b8:=xs;bn (zog gh (b8.1,0,3)) fun r_1=>
 bn (zog gh (b8.2.1,0,99999)) fun r_2=>
 bn (zog gh (b8.2.2.1,0,4)) fun gv=>
 bn (zog gh (b8.2.2.2.2.1,0,99999)) fun A9=>
 let Ba:=bif bif bif !r_1.1 then true else !r_2.1 then true else !gv.1 then true else !A9.1;bif kL [(!!bif bif !r_1.1 then true else !r_2.1 then true else !gv.1) || qu (gh (b8.2.2.2.2.1,0,99999)),(!!bif !r_1.1 then true else !r_2.1) || qu (gh (b8.2.2.1,0,4)),!!!r_1.1 || qu (gh (b8.2.1,0,99999)),qu (gh (b8.1,0,3))] then
  bif Ba then
   some (false,())
  else
   let Ck:=b8.2.2.2.2.1==0;bn (zog KE b8) fun BW=>
   bn (zog Ga (b8.2.2.2.2.2.1)) fun De=>
   let Bp:=bif bif Ck then !BW.1 else false then true else bif decide (b8.2.2.2.2.1>0) then !De.1 else false;bif kL [!(decide (b8.2.2.2.2.1>0) && !bif Ck then !BW.1 else false) || qu (Ga (b8.2.2.2.2.2.1)),!Ck || qu (KE b8)] then
    bif Bp then
     some (false,())
    else
     bif(b8.2.2.1==0) then
      let z9:=b8.2.2.2.1 == [];some (bif z9 then Ck else false,())
     else
      let v9:=b8.2.1==0;bn (zog DX (b8.2.2.2.1)) fun Hi=>
      let iL:=bif v9 then true else !Hi.1;bif kL [!!v9 || qu (DX (b8.2.2.2.1))] then
       bif iL then
        some (false,())
       else
        bif(b8.2.2.1==2) then
         let nW:=decide (b8.2.2.2.2.1>0);bn (zog E8 (b8.2.2.2.2.2.1)) fun Gp=>
         let Gu:=bif nW then !Gp.1 else false;bif kL [!nW || qu (E8 (b8.2.2.2.2.2.1))] then
          some (Gu,())
         else none
        else
         bif(b8.2.2.1==3) then
          let Dz:=decide (b8.2.2.2.2.1>0);bn (zog E8 (b8.2.2.2.2.2.1)) fun MN=>
          let B8:=bif Dz then MN.1 else false;bif kL [!Dz || qu (E8 (b8.2.2.2.2.2.1))] then
           some (B8,())
          else none
         else
          bn (zog E8 (b8.2.2.2.2.2.1)) fun E_=>
          let BY:=bif Ck then true else !E_.1;bif kL [!!Ck || qu (E8 (b8.2.2.2.2.2.1))] then
           some (BY,())
          else none
      else none
   else none
 else none
def Wh.KD (xs:eL.D):Option (List eL.D×Unit):=
 let w_0:=xs;let Eh:List (eL.D):=[(5,w_0.2.1,w_0.2.2.1,w_0.2.2.2.1,0,[],[],())];some (Eh,())
abbrev Wh.aaH:Type:=(Int×Unit×Unit)×List (List UInt8)×List Int
abbrev Wh.ah2:Type:=Unit×List Int
def Wh.OH (x:aaH):Option (aaH⊕ah2):=
 let At:=x.1.1;let xb:=x.2.1;let Ez:=x.2.2;let z9:Int:=(↑(List.length xb):Int);let iL:=bif decide (At<z9) then decide (At≤3) else false;bif iL then
  bn (zog AF (List.getD xb (Int.toNat At) [])) fun DZ=>
  let BG:=Ez ++ [DZ.1];let AX:=List.getD xb (Int.toNat At) [];bif kL [decide (List.length Ez+(1:Nat)≤eV),qu (AF AX),decide (0≤At),decide (At<z9)] then
   some (.inl (((IntKind.wrap .i64 (At+1)),(),()),xb,BG))
  else none
 else
  some (.inr ((),Ez))
def Wh.aaI:Unit×List Int:=default
def Wh.Ie (xs:List UInt8):Option (List Int×Unit):=
 let cx:=xs;c9 DJ (cx,44) fun r_1=>
  g8 OH aaI (((0,(),()),r_1.1,[])) fun Fe=>
   let ov:=Fe.2;some (ov,())
def Wh.q69 (xs:List UInt8):Option (((Int×Int×List Int×List Int×Unit)×Bool)×Unit):=
 let Bo:=xs;c9 DJ (Bo,58) fun r_1=>
  let v_2:Int:=(↑(List.length r_1.1):Int);let AR:=v_2 != 3;bif AR then
   some (((0,0,[],[],()),false),())
  else
   bn (zog DJ (List.getD r_1.1 (Int.toNat 0) [],47)) fun dz=>
   let oc:=List.getD r_1.1 (Int.toNat 0) [];bif kL [qu (DJ (oc,47)),true,decide (0<v_2)] then
    let r5:Int:=(↑(List.length dz.1):Int);let n4:=r5 != 2;bif n4 then
     some (((0,0,[],[],()),false),())
    else
     bn (zog Ie (List.getD r_1.1 (Int.toNat 1) [])) fun A9=>
     bn (zog Ie (List.getD r_1.1 (Int.toNat 2) [])) fun z5=>
     bn (zog AF (List.getD dz.1 (Int.toNat 1) [])) fun A8=>
     bn (zog AF (List.getD dz.1 (Int.toNat 0) [])) fun BW=>
     let A3:=List.getD dz.1 (Int.toNat 0) [];let A_:=List.getD dz.1 (Int.toNat 1) [];let r_:=List.getD r_1.1 (Int.toNat 1) [];let Bp:=List.getD r_1.1 (Int.toNat 2) [];bif kL [qu (Ie Bp),true,decide (2<v_2),qu (Ie r_),true,decide (1<v_2),qu (AF A_),true,decide (1<r5),qu (AF A3),true,decide (0<r5)] then
      c9 E6 (BW.1,A8.1,A9.1,z5.1,()) fun FA=>
       bif(!FA.1==Bo) then
        some (((0,0,[],[],()),false),())
       else
        some (((BW.1,A8.1,A9.1,z5.1,()),true),())
     else none
   else none
def Wh.q48 (xs:Int×Int):Option ((Int×Int×List e_.D×Unit)×Unit):=
 let Fi:=xs.1;let size_1:=xs.2;bn (zog gh (Fi,1,24)) fun r_2=>
 bn (zog gh (size_1,1,16)) fun r_3=>
 let AG:=bif !r_2.1 then true else !r_3.1;bif kL [!!!r_2.1 || qu (gh (size_1,1,16)),qu (gh (Fi,1,24))] then
  bif AG then
   some ((0,0,[],()),())
  else
   some ((Fi,size_1,[],()),())
 else none
def Wh.Mj (xs:gT.D):Option (((Int×Int×List Int×List Int×Unit)×(Int×Int×List e_.D×Unit)×Unit)×Unit):=
 let fy:gT.D:=xs;c9 Ej fy fun r_1=>
  bif !r_1.1 then
   some (((0,0,[],[],()),(0,0,[],()),()),())
  else
   bn (zog Ig fy) fun r_2=>
   bn (zog Br fy) fun r_3=>
   bn (zog q48 (r_3.1,fy.2.1)) fun dz=>
   bif kL [qu (q48 (r_3.1,fy.2.1)),qu (Br fy),qu (Ig fy)] then
    some ((r_2.1,(dz.1.1,dz.1.2.1,dz.1.2.2.1,dz.1.2.2.2),()),())
   else none
def Wh.q52 (xs:bm.D×eL.D):Option (bm.D×Unit):=
 let b8:=xs.1;let w_1:=xs.2;c9 q69 (w_1.2.2.2.2.2.2.1) fun r_2=>
  let AG:=bif(b8.2.2.1 != 1) then true else !r_2.1.2;bif AG then
   some (b8,())
  else
   bif(b8.2.2.2.2.1==0) then
    c9 Mj r_2.1.1 fun nS=>
     some ((b8.1,b8.2.1,2,b8.2.2.2.1,w_1.2.2.2.1,nS.1,b8.2.2.2.2.2.2),())
   else
    let n4:=b8.2.2.2.2.1==w_1.2.2.2.1;bn (zog E6 (b8.2.2.2.2.2.1.1)) fun A9=>
    let Ba:=bif n4 then A9.1==w_1.2.2.2.2.2.2.1 else false;bif kL [!n4 || qu (E6 (b8.2.2.2.2.2.1.1))] then
     bif Ba then
      some ((b8.1,b8.2.1,2,b8.2.2.2),())
     else
      some (b8,())
    else none
abbrev Wh.abe:Type:=(Int×Unit×Int)×ei.D
abbrev Wh.aij:Type:=(List UInt8×Bool)×Unit⊕Unit×Unit
def Wh.Mt (x:abe):Option (abe⊕aij):=
 let BO:=x.1.1;let at_14:=x.1.2.2;let xb:=x.2;let qe:Int:=(↑(List.length (xb.2.2.1)):Int);bif decide (BO<qe) then
  let v9:=List.getD (xb.2.2.1) (Int.toNat BO) ([],[],());let nW:=bif(↑(List.length v9.1):Int)==1 then List.getD v9.1 (Int.toNat 0) 0==at_14 else false;bif kL [!(↑(List.length v9.1):Int)==1 || decide ((0:Int)≤0),!(↑(List.length v9.1):Int)==1 || decide (0<(↑(List.length v9.1):Int)),!(↑(List.length v9.1):Int)==1 || decide (0≤BO),!(↑(List.length v9.1):Int)==1 || decide (BO<qe),decide (0≤BO),decide (BO<qe)] then
   bif nW then
    bif kL [decide (0≤BO),decide (BO<qe)] then
     some (.inr (.inl ((v9.2.1,true),())))
    else none
   else
    some (.inl (((IntKind.wrap .i64 (BO+1)),(),at_14),xb))
  else none
 else
  some (.inr (.inr ((),())))
def Wh.abf:(List UInt8×Bool)×Unit⊕Unit×Unit:=.inl default
def Wh.KZ (xs:ei.D×Int):Option ((List UInt8×Bool)×Unit):=
 let cx:=xs.1;let Da:=xs.2;g8 Mt abf (((0,(),Da),cx)) fun q_=>
  sumC q_ (fun RS=>
   let Dz:=RS.1.1;let we:=RS.1.2;some ((Dz,we),())) (fun _=>
   some (([],false),()))
abbrev Wh.acs:Type:=(Int×Unit)×ei.D
abbrev Wh.aiS:Type:=Int×Unit
def Wh.Q8 (x:acs):Option (acs⊕aiS):=
 let n_6:=x.1.1;let ls_7:=x.2;c9 KZ (ls_7,n_6) fun A9=>
  bif(!A9.1.2) then
   some (.inr (n_6,()))
  else
   some (.inl (((IntKind.wrap .i64 (n_6+1)),()),ls_7))
def Wh.acu:Int×Unit:=default
def Wh.q87 (xs:ei.D):Option (Int×Unit):=
 let cx:=xs;g8 Q8 acu (((0,()),cx)) fun y_12=>
  let A_:=y_12.1;some (A_,())
abbrev Wh.abT:Type:=(Int×Int×Unit)×nT.D
abbrev Wh.aiC:Type:=Int×Unit
def Wh.Q1 (x:abT):Option (abT⊕aiC):=
 let Eg:=x.1.1;let k_11:=x.1.2.1;let J_:=x.2;let A_:Int:=(↑(List.length (J_.1.2.2.1)):Int);let qe:=bif decide (Eg<A_) then decide (List.getD (J_.1.2.2.1) (Int.toNat Eg) 0≤k_11) else false;bif kL [!decide (Eg<A_) || decide (0≤Eg),!decide (Eg<A_) || decide (Eg<A_)] then
  bif qe then
   some (.inl (((IntKind.wrap .i64 (Eg+1)),k_11,()),J_))
  else
   some (.inr (Eg,()))
 else none
def Wh.abU:Int×Unit:=default
def Wh.q59 (xs:nT.D):Option (Int×Unit):=
 let nC:=xs;c9 q87 nC.2.1 fun r_1=>
  g8 Q1 abU (((0,r_1.1,()),nC)) fun y_19=>
   let n_20:=y_19.1;some (n_20,())
def Wh.E4 (xs:Int):Option (Int×Unit):=
 let Ul:=xs;some ((Int.tmod (IntKind.wrap .i64 ((IntKind.wrap .i64 (Ul*1103515245))+12345)) 2147483648),())
def Wh.EH (xs:Int×Int):Option (Int×Unit):=
 let Ul:=xs.1;let n_1:=xs.2;bif kL [n_1 != 0,true] then
  some (Int.tmod (IntKind.wrap .i64 (Int.tdiv Ul 256)) n_1,())
 else none
abbrev Wh.acA:Type:=(Int×Unit×Int)×gT.D
abbrev Wh.aiV:Type:=Int×Unit⊕Unit×gT.D
def Wh.JF (x:acA):Option (acA⊕aiV):=
 let GH:=x.1.1;let NX:=x.1.2.2;let nE:=x.2;let Hs:Int:=(↑(List.length (nE.2.2.2.1)):Int);bif decide (GH<Hs) then
  let Lp:=List.getD (nE.2.2.2.1) (Int.toNat GH) 0;bif kL [decide (0≤GH),decide (GH<Hs)] then
   bif decide (NX<Lp) then
    let M9:=List.getD (nE.2.2.1) (Int.toNat GH) 0;bif kL [decide (0≤GH),decide (GH<(↑(List.length (nE.2.2.1)):Int))] then
     some (.inr (.inl (M9,())))
    else none
   else
    bif kL [decide (0≤GH),decide (GH<Hs)] then
     some (.inl (((IntKind.wrap .i64 (GH+1)),(),(IntKind.wrap .i64 (NX-Lp))),nE))
    else none
  else none
 else
  some (.inr (.inr ((),nE)))
def Wh.acB:Int×Unit⊕Unit×gT.D:=.inl default
abbrev Wh.acy:Type:=(Int×Unit×Int×Int)×gT.D
abbrev Wh.aiU:Type:=(Unit×Int×Int)×gT.D
def Wh.JE (x:acy):Option (acy⊕aiU):=
 let CF:=x.1.1;let adl:=x.1.2.2.1;let acU:=x.1.2.2.2;let xb:=x.2;let qe:Int:=(↑(List.length (xb.2.2.2.1)):Int);bif decide (CF<qe) then
  let v9:=List.getD (xb.2.2.2.1) (Int.toNat CF) 0;bif kL [decide (0≤CF),decide (CF<qe)] then
   some (.inl (((IntKind.wrap .i64 (CF+1)),(),(IntKind.wrap .i64 (adl+v9)),acU),xb))
  else none
 else
  some (.inr (((),adl,acU),xb))
def Wh.acz:(Unit×Int×Int)×gT.D:=default
def Wh.Hg (xs:gT.D×Int):Option (Int×Unit):=
 let fy:=xs.1;let Ro:=xs.2;g8 JE acz (((0,(),0,Ro),fy)) fun Hu=>
  let adm:=Hu.1.2.1;let acV:=Hu.1.2.2;let BB:=Hu.2;bn (zog E4 acV) fun EJ=>
  bn (zog EH (EJ.1,adm)) fun r_29=>
  bif kL [qu (EH (EJ.1,adm)),qu (E4 acV)] then
   g8 JF acB (((0,(),r_29.1),BB)) fun q_=>
    sumC q_ (fun B_=>
     let JN:=B_.1;some (JN,())) (fun z_54=>
     let n5:=z_54.2;c9 Br n5 fun r_57=>
      some (r_57.1,()))
  else none
abbrev Wh.abR:Type:=(Int×Int×Unit×Int)×List Int
abbrev Wh.aiB:Type:=(Int×Unit)×List Int
def Wh.JD (x:abR):Option (abR⊕aiB):=
 let HE:=x.1.1;let FR:=x.1.2.1;let HD:=x.1.2.2.2;let m6:=x.2;bif decide (HE<HD) then
  let EM:=IntKind.wrap .i64 (Int.tdiv 65536 HD);bif kL [HD != 0] then
   bif decide (HE>1) then
    let EN:=IntKind.wrap .i64 (HE-1);let n_44:=IntKind.wrap .i64 (Int.tdiv (IntKind.wrap .i64 (IntKind.wrap .i64 (Int.tdiv 65536 (IntKind.wrap .i64 (HE*EN)))*7)) 8);bif kL [true,IntKind.wrap .i64 (HE*EN) != 0] then
     bif decide (n_44>FR) then
      let TW:List Int:=[FR];let AK:=m6++TW;bif kL [decide (List.length m6+(1:Nat)≤eV)] then
       some (.inl (((IntKind.wrap .i64 (HE+1)),(IntKind.wrap .i64 (FR-FR)),(),HD),AK))
      else none
     else
      let pb_50:List Int:=[n_44];let xe:=m6++pb_50;bif kL [decide (List.length m6+(1:Nat)≤eV)] then
       some (.inl (((IntKind.wrap .i64 (HE+1)),(IntKind.wrap .i64 (FR-n_44)),(),HD),xe))
      else none
    else none
   else
    bif decide (EM>FR) then
     let QD:List Int:=[FR];let n5:=m6++QD;bif kL [decide (List.length m6+(1:Nat)≤eV)] then
      some (.inl (((IntKind.wrap .i64 (HE+1)),(IntKind.wrap .i64 (FR-FR)),(),HD),n5))
     else none
    else
     let TX:List Int:=[EM];let Bl:=m6++TX;bif kL [decide (List.length m6+(1:Nat)≤eV)] then
      some (.inl (((IntKind.wrap .i64 (HE+1)),(IntKind.wrap .i64 (FR-EM)),(),HD),Bl))
     else none
  else none
 else
  some (.inr ((FR,()),m6))
def Wh.abS:(Int×Unit)×List Int:=default
def Wh.q58 (xs:Int):Option (List Int×Unit):=
 let Fi:=xs;g8 JD abS (((1,65536,(),Fi),[])) fun FI=>
  let afK:=FI.1.1;let CU:=FI.2;let pb_67:List Int:=[afK];let Cg:=CU++pb_67;bif kL [decide (List.length CU+(1:Nat)≤eV)] then
   some (Cg,())
  else none
abbrev Wh.acv:Type:=(Int×Unit×Int×Int)×List Int
abbrev Wh.aiT:Type:=Int×Unit⊕Int×Unit
def Wh.Lc (x:acv):Option (acv⊕aiT):=
 let PD:=x.1.1;let Zl:=x.1.2.2.1;let Xe:=x.1.2.2.2;let AO:=x.2;bif decide (PD<(↑(List.length AO):Int)) then
  let iL:=IntKind.wrap .i64 (PD-1);bif kL [decide (0≤iL),decide (iL<(↑(List.length AO):Int))] then
   bif decide (Zl<List.getD AO (Int.toNat iL) 0) then
    some (.inr (.inl (PD,())))
   else
    bif kL [decide (0≤iL),decide (iL<(↑(List.length AO):Int))] then
     some (.inl (((IntKind.wrap .i64 (PD+1)),(),(IntKind.wrap .i64 (Zl-List.getD AO (Int.toNat iL) 0)),Xe),AO))
    else none
  else none
 else
  some (.inr (.inr (Xe,())))
def Wh.acw:Int×Unit⊕Int×Unit:=.inl default
def Wh.q88 (xs:Int×Int):Option (Int×Unit):=
 let Fi:=xs.1;let part_1:=xs.2;c9 q58 Fi fun r_2=>
  g8 Lc acw (((1,(),part_1,Fi),r_2.1)) fun q_=>
   sumC q_ (fun Lv=>
    let B8:=Lv.1;some (B8,())) (fun z_29=>
    let ad7:=z_29.1;some (ad7,()))
abbrev Wh.aaB:Type:=(Int×List Int×Int)×Unit
abbrev Wh.ahZ:Type:=(Int×List Int×Int)×Unit
def Wh.Jt (x:aaB):Option (aaB⊕ahZ):=
 let k_8:=x.1.1;let Qi:=x.1.2.1;let Eg:=x.1.2.2;let B7:=decide (k_8<(↑(List.length Qi):Int));let A3:=bif B7 then decide (List.getD Qi (Int.toNat k_8) 0<Eg) else false;bif kL [!B7 || decide (0≤k_8),!B7 || B7] then
  bif A3 then
   some (.inl (((IntKind.wrap .i64 (k_8+1)),Qi,Eg),()))
  else
   some (.inr ((k_8,Qi,Eg),()))
 else none
def Wh.aaC:(Int×List Int×Int)×Unit:=default
def Wh.Js (xs:List Int×Int):Option (List Int×Unit):=
 let J8:=xs.1;let n_1:=xs.2;g8 Jt aaC (((0,J8,n_1),())) fun y_15=>
  let GK:=y_15.1.1;let GO:=y_15.1.2.1;let n_18:=y_15.1.2.2;let Km:List Int:=[]++List.take (Int.toNat (GK-0)) (List.drop (Int.toNat 0) GO);let BU:List Int:=[n_18];let pb_22:List Int:=Km++BU++List.take (Int.toNat ((↑(List.length GO):Int)-GK)) (List.drop (Int.toNat GK) GO);let nI:List Int:=List.take (Int.toNat (GK-0)) (List.drop (Int.toNat 0) GO);let AX:List Int:=List.take (Int.toNat ((↑(List.length GO):Int)-GK)) (List.drop (Int.toNat GK) GO);bif kL [decide (List.length (Km++BU)+List.length AX≤eV),decide (0≤GK),decide (GK≤(↑(List.length GO):Int)),decide ((↑(List.length GO):Int)≤(↑(List.length GO):Int)),decide (List.length Km+(1:Nat)≤eV),decide ((0:Nat)+List.length nI≤eV),true,decide (0≤GK),decide (GK≤(↑(List.length GO):Int))] then
   some (pb_22,())
  else none
end
