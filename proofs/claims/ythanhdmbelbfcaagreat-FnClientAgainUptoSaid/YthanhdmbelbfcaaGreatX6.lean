import Derived.Test.YthanhdmbelbfcaaGreatX5
set_option linter.defProp false
namespace Wh
end Wh
open Wh
open Go Go.Ab
noncomputable section
abbrev Un:Ty:=(.pair (.int .i64) (.pair (.int .i64) (.pair .bool (.pair (.int .u8) .unit))))
abbrev Un.D:Type:=Int×Int×Bool×Int×Unit
abbrev Uo:Ty:=(.pair .str (.pair (.int .u64) .unit))
abbrev Uo.D:Type:=List UInt8×Int×Unit
abbrev gv:Ty:=(.pair (.int .i64) (.pair (.int .i64) (.pair (.lst (.int .i64)) (.pair (.lst (.int .i64)) .unit))))
abbrev gv.D:Type:=Int×Int×List Int×List Int×Unit
abbrev ei:Ty:=(.pair (.int .i64) (.pair (.int .i64) (.pair (.lst (.pair (.lst (.int .i64)) (.pair .str .unit))) .unit)))
abbrev ei.D:Type:=Int×Int×List (List Int×List UInt8×Unit)×Unit
abbrev nT:Ty:=(.pair gv (.pair ei .unit))
abbrev nT.D:Type:=gv.D×ei.D×Unit
abbrev bm:Ty:=(.pair (.int .i64) (.pair (.int .i64) (.pair (.int .i64) (.pair .str (.pair (.int .i64) (.pair nT .unit))))))
abbrev bm.D:Type:=Int×Int×Int×List UInt8×Int×nT.D×Unit
abbrev eL:Ty:=(.pair (.int .i64) (.pair (.int .i64) (.pair (.int .i64) (.pair (.int .i64) (.pair (.int .i64) (.pair .str (.pair .str .unit)))))))
abbrev eL.D:Type:=Int×Int×Int×Int×Int×List UInt8×List UInt8×Unit
abbrev g9:Ty:=(.pair (.int .i64) (.pair (.lst (.pair (.int .i64) (.pair .str (.pair (.int .i64) (.pair .str .unit))))) .unit))
abbrev g9.D:Type:=Int×List (Int×List UInt8×Int×List UInt8×Unit)×Unit
abbrev mb:Ty:=(.pair (.lst (.pair (.int .i64) (.pair (.int .i64) (.pair (.int .i64) (.pair (.int .i64) (.pair .bool .unit)))))) (.pair (.int .i64) .unit))
abbrev mb.D:Type:=List (Int×Int×Int×Int×Bool×Unit)×Int×Unit
abbrev b7:Ty:=(.pair .bool (.pair (.int .i64) (.pair .str (.pair g9 (.pair mb (.pair (.lst (.pair (.int .i64) (.pair (.int .i64) (.pair (.int .i64) (.pair (.int .i64) .unit))))) (.pair (.lst (.pair (.int .i64) (.pair (.int .i64) (.pair (.int .i64) (.pair (.int .i64) (.pair (.int .i64) (.pair (.int .i64) .unit))))))) .unit)))))))
abbrev b7.D:Type:=Bool×Int×List UInt8×g9.D×mb.D×List (Int×Int×Int×Int×Unit)×List (Int×Int×Int×Int×Int×Int×Unit)×Unit
abbrev fk:Ty:=(.pair b7 (.pair (.lst bm) (.pair (.lst (.pair (.int .i64) (.pair .str (.pair .bool .unit)))) (.pair (.lst (.pair (.int .i64) (.pair .str (.pair (.int .i64) (.pair .str .unit))))) .unit))))
abbrev fk.D:Type:=b7.D×List bm.D×List (Int×List UInt8×Bool×Unit)×List (Int×List UInt8×Int×List UInt8×Unit)×Unit
abbrev dj:Ty:=(.pair (.lst (.int .u8)) (.pair (.int .i64) .unit))
abbrev dj.D:Type:=List Int×Int×Unit
abbrev e_:Ty:=(.pair (.lst (.int .i64)) (.pair .str .unit))
abbrev e_.D:Type:=List Int×List UInt8×Unit
abbrev an:Ty:=(.pair (.int .i64) (.pair .str (.pair (.int .i64) (.pair .str .unit))))
abbrev an.D:Type:=Int×List UInt8×Int×List UInt8×Unit
abbrev cp:Ty:=(.pair (.int .i64) (.pair .str (.pair .bool .unit)))
abbrev cp.D:Type:=Int×List UInt8×Bool×Unit
abbrev di:Ty:=(.pair (.int .i64) (.pair (.int .i64) (.pair (.int .i64) (.pair .str (.pair .str (.pair .bool .unit))))))
abbrev di.D:Type:=Int×Int×Int×List UInt8×List UInt8×Bool×Unit
abbrev cw:Ty:=(.pair (.int .i64) (.pair (.int .i64) (.pair (.int .i64) (.pair (.int .i64) .unit))))
abbrev cw.D:Type:=Int×Int×Int×Int×Unit
abbrev BV:Ty:=(.pair (.int .i64) (.pair (.int .i64) (.pair (.int .i64) .unit)))
abbrev BV.D:Type:=Int×Int×Int×Unit
abbrev cg:Ty:=(.pair (.int .i64) (.pair (.int .i64) cw))
abbrev cg.D:Type:=Int×Int×cw.D
abbrev b9:Ty:=(.pair (.int .i64) (.pair (.int .i64) (.pair (.int .i64) (.pair (.int .i64) (.pair .bool .unit)))))
abbrev b9.D:Type:=Int×Int×Int×Int×Bool×Unit
def Wh.Mk (xs:List Int):Option (dj.D×Unit):=
 let HB:=xs;bif decide ((↑(List.length HB):Int)>2000) then
  let v_2:List Int:=List.take (Int.toNat ((2000:Int)-0)) (List.drop (Int.toNat 0) HB);bif kL [true,true,decide (2000≤(↑(List.length HB):Int))] then
   some ((v_2,0,()),())
  else none
 else
  some ((HB,0,()),())
def Wh.Ia (_:Unit):Option ((((List (b9.D))×((Int)×(Unit))))×(Unit)):=
 let pb_0:List (b9.D):=[(0,0,0,0,false,()),(0,0,0,0,false,()),(0,0,0,0,false,()),(0,0,0,0,false,()),(0,0,0,0,false,()),(0,0,0,0,false,()),(0,0,0,0,false,()),(0,0,0,0,false,())];some ((pb_0,0,()),())
abbrev Wh.abx:Type:=(Int×Int×Unit)×List cw.D
abbrev Wh.ain:Type:=Unit×List cw.D
def Wh.MA (x:abx):Option (abx⊕ain):=
 let h_8:=x.1.1;let now_9:=x.1.2.1;let HO:=x.2;bif decide (h_8<2) then
  let TC:List (cw.D):=[(40,40,8,now_9,())];let Qh:List (cw.D):=HO++TC;bif kL [decide (List.length HO+(1:Nat)≤eV)] then
   some (.inl (((IntKind.wrap .i64 (h_8+1)),now_9,()),Qh))
  else none
 else
  some (.inr ((),HO))
def Wh.aby:Unit×List cw.D:=default
def Wh.Io (xs:Int):Option (List cw.D×Unit):=
 let now_0:=xs;g8 MA aby (((0,now_0,()),[])) fun y_16=>
  let s_:=y_16.2;some (s_,())
def Wh.q45 (_:Unit):Option ((((Bool)×((Int)×((List UInt8)×(((Int)×((List (an.D))×(Unit)))×(((List (b9.D))×((Int)×(Unit)))×((List (cw.D))×((List (cg.D))×(Unit)))))))))×(Unit)):=
 bn (zog Ia ()) fun wX=>
 bn (zog Io 0) fun r_1=>
 bif kL [qu (Io 0),qu (Ia ())] then
  some ((true,0,[],(0,[],()),wX.1,r_1.1,[],()),())
 else none
def Wh.gh (xs:Int×Int×Int):Option (Bool×Unit):=
 let Dt:=xs.1;let Ta:=xs.2.1;let SQ:=xs.2.2;let nP:=bif decide (Dt≥Ta) then decide (Dt≤SQ) else false;some (nP,())
def Wh.q43 (xs:Int):Option ((Int×Int×Int×List UInt8×Int×((Int×Int×List Int×List Int×Unit)×(Int×Int×List e_.D×Unit)×Unit)×Unit)×Unit):=
 let id_0:=xs;c9 gh (id_0,0,3) fun r_1=>
  bif !r_1.1 then
   some ((0,0,0,[],0,((0,0,[],[],()),(0,0,[],()),()),()),())
  else
   some ((id_0,0,0,[],0,((0,0,[],[],()),(0,0,[],()),()),()),())
abbrev Wh.ab1:Type:=(Int×Unit×Unit)×((Bool×Int×List UInt8×(Int×Unit×Unit)×(Unit×Int×Unit)×Unit×Unit×Unit)×Unit×Unit×Unit×Unit)×((Bool×Int×List UInt8×(Int×Unit×Unit)×(Unit×Int×Unit)×Unit×Unit×Unit)×Unit×Unit×Unit×Unit)×List an.D×List b9.D×List cw.D×List cg.D×List bm.D×List cp.D×List an.D×List an.D×List b9.D×List cw.D×List cg.D×List bm.D×List cp.D×List an.D
abbrev Wh.aiC:Type:=(Unit×Unit)×((Bool×Int×List UInt8×(Int×Unit×Unit)×(Unit×Int×Unit)×Unit×Unit×Unit)×Unit×Unit×Unit×Unit)×((Bool×Int×List UInt8×(Int×Unit×Unit)×(Unit×Int×Unit)×Unit×Unit×Unit)×Unit×Unit×Unit×Unit)×List an.D×List b9.D×List cw.D×List cg.D×List bm.D×List cp.D×List an.D×List an.D×List b9.D×List cw.D×List cg.D×List bm.D×List cp.D×List an.D
def Wh.QZ (x:ab1):Option (ab1⊕aiC):=
 let Dk:=x.1.1;let nG:=x.2.1.1.1;let AZ:=x.2.1.1.2.1;let A0:=x.2.1.1.2.2.1;let Az:=x.2.1.1.2.2.2.1.1;let AA:=x.2.1.1.2.2.2.1.2.2;let nI:=x.2.1.1.2.2.2.2.1.2;let zP:=x.2.1.1.2.2.2.2.2.2.2;let tn:=x.2.1.2.2.2.2;let xd:=x.2.2.1.1.1;let A1:=x.2.2.1.1.2.1;let s5:=x.2.2.1.1.2.2.1;let Ar:=x.2.2.1.1.2.2.2.1.1;let nS:=x.2.2.1.1.2.2.2.1.2.2;let w8:=x.2.2.1.1.2.2.2.2.1.2;let tc:=x.2.2.1.1.2.2.2.2.2.2.2;let AB:=x.2.2.1.2.2.2.2;let A2:=x.2.2.2.1;let AK:=x.2.2.2.2.1;let oc:=x.2.2.2.2.2.1;let AF:=x.2.2.2.2.2.2.1;let Co:=x.2.2.2.2.2.2.2.1;let Ce:=x.2.2.2.2.2.2.2.2.1;let Bh:=x.2.2.2.2.2.2.2.2.2.1;let BP:=x.2.2.2.2.2.2.2.2.2.2.1;let Cf:=x.2.2.2.2.2.2.2.2.2.2.2.1;let Bi:=x.2.2.2.2.2.2.2.2.2.2.2.2.1;let A3:=x.2.2.2.2.2.2.2.2.2.2.2.2.2.1;let BQ:=x.2.2.2.2.2.2.2.2.2.2.2.2.2.2.1;let CV:=x.2.2.2.2.2.2.2.2.2.2.2.2.2.2.2.1;let BH:=x.2.2.2.2.2.2.2.2.2.2.2.2.2.2.2.2;bif decide (Dk<4) then
  bn (zog q43 Dk) fun r_69=>
  let Bt:=Co ++ [r_69.1];bif kL [decide (List.length Co+(1:Nat)≤eV),qu (q43 Dk)] then
   some (.inl (((IntKind.wrap .i64 (Dk+1)),(),()),((nG,AZ,A0,(Az,(),AA),((),nI),(),(),zP),(),(),(),tn),((xd,A1,s5,(Ar,(),nS),((),w8),(),(),tc),(),(),(),AB),A2,AK,oc,AF,Bt,Ce,Bh,BP,Cf,Bi,A3,BQ,CV,BH))
  else none
 else
  some (.inr (((),()),((xd,A1,s5,(Ar,(),nS),((),w8),(),(),tc),(),(),(),AB),((nG,AZ,A0,(Az,(),AA),((),nI),(),(),zP),(),(),(),tn),BP,Cf,Bi,A3,BQ,CV,BH,A2,AK,oc,AF,Co,Ce,Bh))
def Wh.ab2:(Unit×Unit)×((Bool×Int×List UInt8×(Int×Unit×Unit)×(Unit×Int×Unit)×Unit×Unit×Unit)×Unit×Unit×Unit×Unit)×((Bool×Int×List UInt8×(Int×Unit×Unit)×(Unit×Int×Unit)×Unit×Unit×Unit)×Unit×Unit×Unit×Unit)×List an.D×List b9.D×List cw.D×List cg.D×List bm.D×List cp.D×List an.D×List an.D×List b9.D×List cw.D×List cg.D×List bm.D×List cp.D×List an.D:=(default,(default,default,default,default,default,default,default,default,default,default,default,default,default,default,default,default))
def Wh.q72 (_:Unit):Option (((fk.D))×(Unit)):=
 c9 q45 () fun wX=>
  g8 QZ ab2 (((0,(),()),((wX.1.1,wX.1.2.1,wX.1.2.2.1,(wX.1.2.2.2.1.1,(),wX.1.2.2.2.1.2.2),((),wX.1.2.2.2.2.1.2),(),(),wX.1.2.2.2.2.2.2.2),(),(),(),()),((false,0,[],(0,(),()),((),0,()),(),(),()),(),(),(),()),wX.1.2.2.2.1.2.1,wX.1.2.2.2.2.1.1,wX.1.2.2.2.2.2.1,wX.1.2.2.2.2.2.2.1,[],[],[],[],[],[],[],[],[],[])) fun BE=>
   let DG:=BE.2.2.1.1.1;let CZ:=BE.2.2.1.1.2.1;let Dq:=BE.2.2.1.1.2.2.1;let Kc:=BE.2.2.1.1.2.2.2.1.1;let Oe:=BE.2.2.1.1.2.2.2.1.2.2;let Of:=BE.2.2.1.1.2.2.2.2.1.2;let Kd:=BE.2.2.1.1.2.2.2.2.2.2.2;let Tm:=BE.2.2.1.2.2.2.2;let Fo:=BE.2.2.2.2.2.2.2.2.2.2.1;let HV:=BE.2.2.2.2.2.2.2.2.2.2.2.1;let LR:=BE.2.2.2.2.2.2.2.2.2.2.2.2.1;let J6:=BE.2.2.2.2.2.2.2.2.2.2.2.2.2.1;let Dm:=BE.2.2.2.2.2.2.2.2.2.2.2.2.2.2.1;let HP:=BE.2.2.2.2.2.2.2.2.2.2.2.2.2.2.2.1;let AE:=BE.2.2.2.2.2.2.2.2.2.2.2.2.2.2.2.2;some (((DG,CZ,Dq,(Kc,Fo,Oe),(HV,Of),LR,J6,Kd),Dm,HP,AE,Tm),())
def Wh.m5 (xs:dj.D×Int):Option (Int×dj.D×Unit):=
 let wX:=xs.1;let n_1:=xs.2;let BI:=IntKind.wrap .i64 (wX.2.1+1);let AP:=bif decide (n_1<1) then true else(↑(List.length wX.1):Int)==0;bif AP then
  some (0,(wX.1,BI,wX.2.2),())
 else
  let nP:=IntKind.wrap .i64 (BI-1);let n4:Int:=(↑(List.length wX.1):Int);bif decide (nP<n4) then
   let FG:=List.getD wX.1 (Int.toNat nP) 0;bif kL [n_1 != 0,decide (0≤nP),decide (nP<n4)] then
    some (Int.tmod (IntKind.wrap .i64 FG) n_1,(wX.1,BI,wX.2.2),())
   else none
  else
   let A4:=IntKind.wrap .i64 (nP*7);let x_25:=IntKind.wrap .i64 (IntKind.wrap .i64 (IntKind.wrap .i64 (IntKind.wrap .i64 (IntKind.wrap .i64 (List.getD wX.1 (Int.toNat (Int.tmod nP n4)) 0)*131)+IntKind.wrap .i64 (IntKind.wrap .i64 (List.getD wX.1 (Int.toNat (Int.tmod (IntKind.wrap .i64 (A4+3)) n4)) 0)*1117))+(IntKind.wrap .i64 (nP*29)))+IntKind.wrap .i64 (IntKind.wrap .i64 (Int.tdiv nP n4)*53));bif kL [n4 != 0,decide (0≤Int.tmod (IntKind.wrap .i64 (A4+3)) n4),decide (Int.tmod (IntKind.wrap .i64 (A4+3)) n4<n4),n4 != 0,decide (0≤Int.tmod nP n4),decide (Int.tmod nP n4<n4),n4 != 0] then
    bif kL [n_1 != 0] then
     some ((Int.tmod (pZ Go.BinOp.xor Go.IntKind.i64 x_25 (IntKind.wrap .i64 (Int.tdiv x_25 64))) n_1),(wX.1,BI,wX.2.2),())
    else none
   else none
def Wh.Mc (xs:dj.D×List (List UInt8)):Option (List UInt8×dj.D×Unit):=
 let wX:=xs.1;let S9:=xs.2;bn (zog m5 (wX,(↑(List.length S9):Int))) fun r_2=>
 let AO:Int:=(↑(List.length S9):Int);let n4:=List.getD S9 (Int.toNat r_2.1) [];bif kL [decide (0≤r_2.1),decide (r_2.1<AO),qu (m5 (wX,AO))] then
  some (n4,r_2.2.1,())
 else none
def Wh.Ci (xs:Int):Option (Int×Unit):=
 let R_:=xs;some ((Int.tmod R_ 2),())
def Wh.KC (xs:Bool):Option (Int×Unit):=
 let BL:=xs;bif BL then
  some (1,())
 else
  some (0,())
abbrev Wh.ab7:Type:=(Int×Unit×Unit×Int)×dj.D×List Int
abbrev Wh.aiF:Type:=Unit×dj.D×List Int
def Wh.Q4 (x:ab7):Option (ab7⊕aiF):=
 let CF:=x.1.1;let Yq:=x.1.2.2.2;let TE:=x.2.1;let w7:=x.2.2;bif decide (CF<Yq) then
  bn (zog m5 (TE,8)) fun De=>
  let Bb:=w7 ++ [(↑(UInt8.toNat (List.getD [(97:UInt8),(98:UInt8),(99:UInt8),(100:UInt8),(101:UInt8),(102:UInt8),(103:UInt8),(104:UInt8)] (Int.toNat De.1) (0:UInt8))):Int)];bif kL [decide (List.length w7+(1:Nat)≤eV),decide (0≤De.1),decide (De.1<(↑(8:Nat):Int)),qu (m5 (TE,8))] then
   some (.inl (((IntKind.wrap .i64 (CF+1)),(),(),Yq),De.2.1,Bb))
  else none
 else
  some (.inr ((),TE,w7))
def Wh.ab8:Unit×dj.D×List Int:=default
def Wh.Is (xs:dj.D×Int):Option (List UInt8×dj.D×Unit):=
 let wX:=xs.1;let long_1:=xs.2;g8 Q4 ab8 (((0,(),(),long_1),wX,[])) fun Ht=>
  let Jd:=Ht.2.1;let AY:=Ht.2.2;some (tv AY,Jd,())
def Wh.q22 (x:(Unit×Int×Int)×dj.D×di.D):Option ((Bool×Unit×Int)×dj.D×di.D):=
 let WK:=x.1.2.1;let v_435:=x.1.2.2;let Zk:=x.2.1;let YJ:=x.2.2;let v_438:=v_435==24;bif v_438 then
  some (((v_438,(),WK),Zk,YJ))
 else
  let v_439:=v_435==25;some (((v_439,(),WK),Zk,YJ))
def Wh.QW (x:((Unit)×(Int)×(Int))×((dj.D)×(di.D))):(((Bool)×(Unit)×(Int))×((dj.D)×(di.D))):=match q22 x with | some y=>y|none=>default
def Wh.q22_v (x:((Unit)×(Int)×(Int))×((dj.D)×(di.D)))(y:(((Bool)×(Unit)×(Int))×((dj.D)×(di.D))))(h:q22 x=some y):QW x=y:=by unfold QW;rw[h]
def Wh.q21 (x:(Unit×Int×Int)×dj.D×di.D):Option ((Bool×Unit×Int×Int)×dj.D×di.D):=
 let WJ:=x.1.2.1;let RF:=x.1.2.2;let Zi:=x.2.1;let YI:=x.2.2;let v_419:=RF==22;bif v_419 then
  some (((v_419,(),WJ,RF),Zi,YI))
 else
  let v_420:=RF==23;some (((v_420,(),WJ,RF),Zi,YI))
def Wh.QV (x:((Unit)×(Int)×(Int))×((dj.D)×(di.D))):(((Bool)×(Unit)×(Int)×(Int))×((dj.D)×(di.D))):=match q21 x with | some y=>y|none=>default
def Wh.q21_v (x:((Unit)×(Int)×(Int))×((dj.D)×(di.D)))(y:(((Bool)×(Unit)×(Int)×(Int))×((dj.D)×(di.D))))(h:q21 x=some y):QV x=y:=by unfold QV;rw[h]
def Wh.q20 (x:(Unit×Unit×Int×List UInt8×Int)×dj.D×di.D):Option ((Bool×Unit×Unit×Int×List UInt8×Int)×dj.D×di.D):=
 let WH:=x.1.2.2.1;let YX:=x.1.2.2.2.1;let RD:=x.1.2.2.2.2;let Zg:=x.2.1;let YH:=x.2.2;let v_357:=RD==17;bif v_357 then
  some (((v_357,(),(),WH,YX,RD),Zg,YH))
 else
  let v_358:=RD==18;some (((v_358,(),(),WH,YX,RD),Zg,YH))
def Wh.QU (x:((Unit)×(Unit)×(Int)×(List UInt8)×(Int))×((dj.D)×(di.D))):(((Bool)×(Unit)×(Unit)×(Int)×(List UInt8)×(Int))×((dj.D)×(di.D))):=match q20 x with | some y=>y|none=>default
def Wh.q20_v (x:((Unit)×(Unit)×(Int)×(List UInt8)×(Int))×((dj.D)×(di.D)))(y:(((Bool)×(Unit)×(Unit)×(Int)×(List UInt8)×(Int))×((dj.D)×(di.D))))(h:q20 x=some y):QU x=y:=by unfold QU;rw[h]
def Wh.q19 (x:(Unit×Unit×Int×List UInt8×Int)×dj.D×di.D):Option ((Bool×Unit×Unit×Int×List UInt8×Int)×dj.D×di.D):=
 let IJ:=x.1.2.2.1;let Jc:=x.1.2.2.2.1;let DZ:=x.1.2.2.2.2;let Je:=x.2.1;let I_:=x.2.2;let v_329:=DZ==9;bif v_329 then
  some (((v_329,(),(),IJ,Jc,DZ),Je,I_))
 else
  let v_330:=DZ==10;bif v_330 then
   some (((v_330,(),(),IJ,Jc,DZ),Je,I_))
  else
   let v_331:=DZ==11;bif v_331 then
    some (((v_331,(),(),IJ,Jc,DZ),Je,I_))
   else
    let v_332:=DZ==12;bif v_332 then
     some (((v_332,(),(),IJ,Jc,DZ),Je,I_))
    else
     let v_333:=DZ==13;bif v_333 then
      some (((v_333,(),(),IJ,Jc,DZ),Je,I_))
     else
      let v_334:=DZ==14;bif v_334 then
       some (((v_334,(),(),IJ,Jc,DZ),Je,I_))
      else
       let v_335:=DZ==15;bif v_335 then
        some (((v_335,(),(),IJ,Jc,DZ),Je,I_))
       else
        let v_336:=DZ==16;some (((v_336,(),(),IJ,Jc,DZ),Je,I_))
def Wh.QS (x:((Unit)×(Unit)×(Int)×(List UInt8)×(Int))×((dj.D)×(di.D))):(((Bool)×(Unit)×(Unit)×(Int)×(List UInt8)×(Int))×((dj.D)×(di.D))):=match q19 x with | some y=>y|none=>default
def Wh.q19_v (x:((Unit)×(Unit)×(Int)×(List UInt8)×(Int))×((dj.D)×(di.D)))(y:(((Bool)×(Unit)×(Unit)×(Int)×(List UInt8)×(Int))×((dj.D)×(di.D))))(h:q19 x=some y):QS x=y:=by unfold QS;rw[h]
def Wh.q18 (x:(Unit×List UInt8×Int×Unit×Int×Int)×dj.D×di.D):Option ((Bool×Unit×List UInt8×Int×Unit×Int×Int)×dj.D×di.D):=
 let Ts:=x.1.2.1;let UA:=x.1.2.2.1;let R2:=x.1.2.2.2.2.1;let M4:=x.1.2.2.2.2.2;let TK:=x.2.1;let Tl:=x.2.2;let v_295:=M4==4;bif v_295 then
  some (((v_295,(),Ts,UA,(),R2,M4),TK,Tl))
 else
  let v_296:=M4==5;bif v_296 then
   some (((v_296,(),Ts,UA,(),R2,M4),TK,Tl))
  else
   let v_297:=M4==6;some (((v_297,(),Ts,UA,(),R2,M4),TK,Tl))
def Wh.QO (x:((Unit)×(List UInt8)×(Int)×(Unit)×(Int)×(Int))×((dj.D)×(di.D))):(((Bool)×(Unit)×(List UInt8)×(Int)×(Unit)×(Int)×(Int))×((dj.D)×(di.D))):=match q18 x with | some y=>y|none=>default
def Wh.q18_v (x:((Unit)×(List UInt8)×(Int)×(Unit)×(Int)×(Int))×((dj.D)×(di.D)))(y:(((Bool)×(Unit)×(List UInt8)×(Int)×(Unit)×(Int)×(Int))×((dj.D)×(di.D))))(h:q18 x=some y):QO x=y:=by unfold QO;rw[h]
def Wh.q17 (x:(Unit×Unit×List UInt8×Int×Int×Int)×dj.D×di.D):Option ((Bool×Unit×Unit×List UInt8×Int×Int×Int)×dj.D×di.D):=
 let Tq:=x.1.2.2.1;let Uz:=x.1.2.2.2.1;let R1:=x.1.2.2.2.2.1;let M3:=x.1.2.2.2.2.2;let TG:=x.2.1;let FY:=x.2.2;let v_202:=M3==0;bif v_202 then
  some (((v_202,(),(),Tq,Uz,R1,M3),TG,FY))
 else
  let v_203:=M3==1;bif v_203 then
   some (((v_203,(),(),Tq,Uz,R1,M3),TG,FY))
  else
   let v_204:=M3==2;some (((v_204,(),(),Tq,Uz,R1,M3),TG,FY))
def Wh.QN (x:((Unit)×(Unit)×(List UInt8)×(Int)×(Int)×(Int))×((dj.D)×(di.D))):(((Bool)×(Unit)×(Unit)×(List UInt8)×(Int)×(Int)×(Int))×((dj.D)×(di.D))):=match q17 x with | some y=>y|none=>default
def Wh.q17_v (x:((Unit)×(Unit)×(List UInt8)×(Int)×(Int)×(Int))×((dj.D)×(di.D)))(y:(((Bool)×(Unit)×(Unit)×(List UInt8)×(Int)×(Int)×(Int))×((dj.D)×(di.D))))(h:q17 x=some y):QN x=y:=by unfold QN;rw[h]
def Wh.q16 (x:(Unit×Unit×Int×List UInt8×Int×Unit)×dj.D×di.D×fk.D):Option (Unit×dj.D×di.D⊕(Unit×Unit×List UInt8×Int×Int)×dj.D×di.D):=
 let D0:=x.1.2.2.1;let YU:=x.1.2.2.2.1;let WG:=x.1.2.2.2.2.1;let Ze:=x.2.1;let LU:=x.2.2.1;let HU:=x.2.2.2;let Lk:Int:=(↑(List.length HU.2.1):Int);let v_153:=bif decide (D0<Lk) then bif(((List.getD HU.2.1 (Int.toNat D0) (0,0,0,[],0,((0,0,[],[],()),(0,0,[],()),()),())).2).2).1==2 then true else(((List.getD HU.2.1 (Int.toNat D0) (0,0,0,[],0,((0,0,[],[],()),(0,0,[],()),()),())).2).2).1==1 else false;bif kL [!(!(((List.getD HU.2.1 (Int.toNat D0) (0,0,0,[],0,((0,0,[],[],()),(0,0,[],()),()),())).2).2).1==2&&decide (D0<Lk)) || decide (0≤D0),!(!(((List.getD HU.2.1 (Int.toNat D0) (0,0,0,[],0,((0,0,[],[],()),(0,0,[],()),()),())).2).2).1==2&&decide (D0<Lk)) || decide (D0<Lk),!decide (D0<Lk) || decide (0≤D0),!decide (D0<Lk) || decide (D0<Lk)] then
  bif v_153 then
   c9 m5 (Ze,3) fun Q6=>
    bif(Q6.1==0) then
     bn (zog m5 (Q6.2.1,4)) fun OK=>
     bn (zog m5 (OK.2.1,2)) fun T3=>
     bn (zog KC (T3.1==0)) fun r_159=>
     let Ti:=List.getD [(6:Int),6,7,8] (Int.toNat OK.1) 0;bif kL [qu (KC (T3.1==0)),qu (m5 (OK.2.1,2)),decide (0≤OK.1),decide (OK.1<(↑(4:Nat):Int)),qu (m5 (Q6.2.1,4))] then
      some (.inl (((),T3.2.1,Ti,(IntKind.wrap .i64 (D0*r_159.1)),0,[],[],false,())))
     else none
    else
     some (.inr ((((),(),YU,D0,WG),Q6.2.1,LU)))
  else
   some (.inr ((((),(),YU,D0,WG),Ze,LU)))
 else none
def Wh.QM (x:((Unit)×(Unit)×(Int)×(List UInt8)×(Int)×(Unit))×((dj.D)×(di.D)×(fk.D))):((Unit)×((dj.D)×(di.D)))⊕(((Unit)×(Unit)×(List UInt8)×(Int)×(Int))×((dj.D)×(di.D))):=match q16 x with | some y=>y|none=>.inl default
def Wh.q16_v (x:((Unit)×(Unit)×(Int)×(List UInt8)×(Int)×(Unit))×((dj.D)×(di.D)×(fk.D)))(y:((Unit)×((dj.D)×(di.D)))⊕(((Unit)×(Unit)×(List UInt8)×(Int)×(Int))×((dj.D)×(di.D))))(h:q16 x=some y):QM x=y:=by unfold QM;rw[h]
abbrev Wh.ab3:Type:=(Int×Unit×Int×Unit×Unit×List UInt8×Int)×dj.D×fk.D×di.D
abbrev Wh.aiD:Type:=(Unit×Unit×Int×List UInt8×Int×Unit)×dj.D×di.D×fk.D
def Wh.OH (x:ab3):Option (ab3⊕aiD):=
 let HL:=x.1.1;let Pd:=x.1.2.2.1;let YZ:=x.1.2.2.2.2.2.1;let R4:=x.1.2.2.2.2.2.2;let QC:=x.2.1;let BH:=x.2.2.1;let Cv:=x.2.2.2;let E8:Int:=(↑(List.length (BH.1.2.2.2.1.2.1)):Int);bif decide (HL<E8) then
  let QD:an.D:=List.getD (BH.1.2.2.2.1.2.1) (Int.toNat HL) (0,[],0,[],());bif kL [decide (0≤HL),decide (HL<E8)] then
   bn (zog Ci Pd) fun JG=>
   bn (zog m5 (QC,2)) fun r_73=>
   let L5:dj.D:=bif QD.1==JG.1 then r_73.2.1 else QC;let v_77:=bif QD.1==JG.1 then r_73.1==0 else false;bif kL [!QD.1==JG.1 || qu (m5 (QC,2)),qu (Ci Pd)] then
    bif v_77 then
     some (.inl (((IntKind.wrap .i64 (HL+1)),(),Pd,(),(),QD.2.1,R4),L5,BH,Cv))
    else
     some (.inl (((IntKind.wrap .i64 (HL+1)),(),Pd,(),(),YZ,R4),L5,BH,Cv))
   else none
  else none
 else
  some (.inr (((),(),Pd,YZ,R4,()),QC,Cv,BH))
def Wh.ab4:(Unit×Unit×Int×List UInt8×Int×Unit)×dj.D×di.D×fk.D:=default
def Wh.q15 (x:(Unit×Int×Unit×Unit×List UInt8×Int)×dj.D×fk.D×di.D):Option ((Unit×Unit×Int×List UInt8×Int×Unit)×dj.D×di.D×fk.D):=
 let adn:=x.1.2.1;let Y0:=x.1.2.2.2.2.1;let at_90:=x.1.2.2.2.2.2;let pb_91:=x.2.1;let LW:=x.2.2.1;let LX:=x.2.2.2;c9 m5 (pb_91,3) fun r_94=>
  bif decide (r_94.1>0) then
   g8 OH ab4 (((0,(),adn,(),(),Y0,at_90),r_94.2.1,LW,LX)) fun Nj=>
    let who_98:=Nj.1.2.2.1;let agT:=Nj.1.2.2.2.1;let at_100:=Nj.1.2.2.2.2.1;let pb_101:=Nj.2.1;let Dm:=Nj.2.2.1;let HP:=Nj.2.2.2;some ((((),(),who_98,agT,at_100,()),pb_101,Dm,HP))
  else
   some ((((),(),adn,Y0,at_90,()),r_94.2.1,LX,LW))
def Wh.QK (x:((Unit)×(Int)×(Unit)×(Unit)×(List UInt8)×(Int))×((dj.D)×(fk.D)×(di.D))):(((Unit)×(Unit)×(Int)×(List UInt8)×(Int)×(Unit))×((dj.D)×(di.D)×(fk.D))):=match q15 x with | some y=>y|none=>default
def Wh.q15_v (x:((Unit)×(Int)×(Unit)×(Unit)×(List UInt8)×(Int))×((dj.D)×(fk.D)×(di.D)))(y:(((Unit)×(Unit)×(Int)×(List UInt8)×(Int)×(Unit))×((dj.D)×(di.D)×(fk.D))))(h:q15 x=some y):QK x=y:=by unfold QK;rw[h]
def Wh.q14 (x:(Unit×Unit×Unit×Int)×dj.D×fk.D×di.D):Option ((Unit×Unit×Unit×Int)×dj.D×fk.D×di.D):=
 let Pu:=x.1.2.2.2;let Om:=x.2.1;let s_:=x.2.2.1;let AI:=x.2.2.2;bn (zog m5 (Om,2)) fun Hi=>
 let BR:dj.D:=bif decide ((↑(List.length (s_.2.2.1)):Int)>0) then Hi.2.1 else Om;let A5:Int:=(↑(List.length (s_.2.2.1)):Int);let AW:=bif decide (A5>0) then Hi.1==0 else false;bif kL [!decide (A5>0) || qu (m5 (Om,2))] then
  bif AW then
   c9 m5 (BR,A5) fun CA=>
    some ((((),(),(),CA.1),CA.2.1,s_,AI))
  else
   some ((((),(),(),Pu),BR,s_,AI))
 else none
def Wh.QJ (x:((Unit)×(Unit)×(Unit)×(Int))×((dj.D)×(fk.D)×(di.D))):(((Unit)×(Unit)×(Unit)×(Int))×((dj.D)×(fk.D)×(di.D))):=match q14 x with | some y=>y|none=>default
def Wh.q14_v (x:((Unit)×(Unit)×(Unit)×(Int))×((dj.D)×(fk.D)×(di.D)))(y:(((Unit)×(Unit)×(Unit)×(Int))×((dj.D)×(fk.D)×(di.D))))(h:q14 x=some y):QJ x=y:=by unfold QJ;rw[h]
def Wh.q80 (xs:dj.D×fk.D):Option (di.D×dj.D×Unit):=
 let wX:=xs.1;let w_1:=xs.2;CQ q14 QJ ((((),(),(),0),wX,w_1,0,0,0,[],[],false,())) fun C6=>
  let at_30:=C6.1.2.2.2;let vN:=C6.2.1;let AJ:=C6.2.2.1;let Bg:=C6.2.2.2;c9 Mc (vN,[[(97:UInt8)],[(97:UInt8)],[(98:UInt8)],[(99:UInt8),(99:UInt8)]]) fun r_34=>
   c9 m5 (r_34.2.1,4) fun DJ=>
    CQ q15 QK ((((),DJ.1,(),(),r_34.1,at_30),DJ.2.1,AJ,Bg)) fun Na=>
     let aky:=Na.1.2.2.1;let agQ:=Na.1.2.2.2.1;let at_108:=Na.1.2.2.2.2.1;let pb_109:=Na.2.1;let I4:=Na.2.2.1;let I5:=Na.2.2.2;CQ q16 QM ((((),(),aky,agQ,at_108,()),pb_109,I4,I5)) fun q_=>
      sumC q_ (fun y_177=>
       let pb_179:=y_177.2.1;let ls_180:=y_177.2.2;some (ls_180,pb_179,())) (fun Pp=>
       let agR:=Pp.1.2.2.1;let akz:=Pp.1.2.2.2.1;let at_183:=Pp.1.2.2.2.2;let pb_184:=Pp.2.1;let J_:=Pp.2.2;c9 m5 (pb_184,40) fun r_186=>
        CQ q17 QN ((((),(),agR,akz,at_183,r_186.1),r_186.2.1,J_)) fun Lq=>
         let RC:=Lq.1.1;let Tr:=Lq.1.2.2.2.1;let akA:=Lq.1.2.2.2.2.1;let at_210:=Lq.1.2.2.2.2.2.1;let v_211:=Lq.1.2.2.2.2.2.2;let Qx:=Lq.2.1;let ls_213:=Lq.2.2;bif RC then
          bn (zog m5 (Qx,2)) fun T4=>
          bn (zog m5 (T4.2.1,30)) fun Q7=>
          bn (zog m5 (Q7.2.1,90)) fun Q8=>
          bn (zog m5 (Q8.2.1,250)) fun Q9=>
          bn (zog m5 (Q9.2.1,3)) fun MK=>
          bn (zog Is (MK.2.1,List.getD [IntKind.wrap .i64 (1+Q7.1),IntKind.wrap .i64 (1+Q8.1),IntKind.wrap .i64 (1+Q9.1)] (Int.toNat MK.1) 0)) fun r_233=>
          bif kL [qu (Is (MK.2.1,List.getD [IntKind.wrap .i64 (1+Q7.1),IntKind.wrap .i64 (1+Q8.1),IntKind.wrap .i64 (1+Q9.1)] (Int.toNat (MK.1)) 0)),decide (0≤MK.1),decide (MK.1<(↑(3:Nat):Int)),qu (m5 (Q9.2.1,3)),qu (m5 (Q8.2.1,250)),qu (m5 (Q7.2.1,90)),qu (m5 (T4.2.1,30)),qu (m5 (Qx,2))] then
           some ((1,T4.1,0,Tr,r_233.1,false,()),r_233.2.1,())
          else none
         else
          let v_278:=v_211==3;bif v_278 then
           c9 m5 (Qx,2) fun r_279=>
            some ((2,r_279.1,0,Tr,[],false,()),r_279.2.1,())
          else
           CQ q18 QO ((((),Tr,akA,(),at_210,v_211),Qx,ls_213)) fun Lu=>
            let v_300:=Lu.1.1;let YW:=Lu.1.2.2.1;let akB:=Lu.1.2.2.2.1;let at_303:=Lu.1.2.2.2.2.2.1;let Uv:=Lu.1.2.2.2.2.2.2;let Qy:=Lu.2.1;let ls_306:=Lu.2.2;bif v_300 then
             some ((3,akB,0,YW,[],false,()),Qy,())
            else
             let v_307:=Uv==7;bif v_307 then
              c9 m5 (Qy,4) fun r_308=>
               some ((4,r_308.1,0,[],[],false,()),r_308.2.1,())
             else
              let v_309:=Uv==8;bif v_309 then
               c9 m5 (Qy,4) fun r_310=>
                some ((5,r_310.1,0,[],[],false,()),r_310.2.1,())
              else
               CQ q19 QS ((((),(),at_303,YW,Uv),Qy,ls_306)) fun Nd=>
                let v_339:=Nd.1.1;let at_340:=Nd.1.2.2.2.1;let agS:=Nd.1.2.2.2.2.1;let v_342:=Nd.1.2.2.2.2.2;let Zf:=Nd.2.1;let ls_344:=Nd.2.2;bif v_339 then
                 some ((6,0,0,[],[],false,()),Zf,())
                else
                 CQ q20 QU ((((),(),at_340,agS,v_342),Zf,ls_344)) fun Nf=>
                  let v_361:=Nf.1.1;let R3:=Nf.1.2.2.2.1;let YY:=Nf.1.2.2.2.2.1;let RE:=Nf.1.2.2.2.2.2;let Kk:=Nf.2.1;let ls_366:=Nf.2.2;bif v_361 then
                   c9 m5 (Kk,4) fun r_367=>
                    some ((7,r_367.1,0,[],[],false,()),r_367.2.1,())
                  else
                   let v_368:=RE==19;bif v_368 then
                    some ((9,R3,0,[],[],false,()),Kk,())
                   else
                    let v_369:=RE==20;bif v_369 then
                     bn (zog m5 (Kk,256)) fun T5=>
                     bn (zog m5 (T5.2.1,256)) fun r_371=>
                     bif kL [qu (m5 (T5.2.1,256)),qu (m5 (Kk,256))] then
                      some ((10,R3,(IntKind.wrap .i64 (IntKind.wrap .i64 (T5.1*256)+r_371.1)),[],[],false,()),r_371.2.1,())
                     else none
                    else
                     let v_380:=RE==21;bif v_380 then
                      bn (zog m5 (Kk,2)) fun Q_=>
                      bn (zog m5 (Q_.2.1,40)) fun T6=>
                      bn (zog m5 (T6.2.1,3)) fun Ra=>
                      let Zh:=List.getD [(0:Int),T6.1,9999] (Int.toNat Ra.1) 0;bif kL [decide (0≤Ra.1),decide (Ra.1<(↑(3:Nat):Int)),qu (m5 (T6.2.1,3)),qu (m5 (Q_.2.1,40)),qu (m5 (Kk,2))] then
                       c9 m5 (Ra.2.1,3) fun Rc=>
                        bif decide (Rc.1>0) then
                         bn (zog m5 (Rc.2.1,90)) fun Rd=>
                         bn (zog Is (Rd.2.1,IntKind.wrap .i64 (1+Rd.1))) fun r_405=>
                         bif kL [qu (Is (Rd.2.1,IntKind.wrap .i64 (1+Rd.1))),qu (m5 (Rc.2.1,90))] then
                          some ((11,Q_.1,Zh,YY,r_405.1,false,()),r_405.2.1,())
                         else none
                        else
                         some ((11,Q_.1,Zh,YY,[],false,()),Rc.2.1,())
                      else none
                     else
                      CQ q21 QV ((((),R3,RE),Kk,ls_366)) fun Pk=>
                       let v_423:=Pk.1.1;let at_424:=Pk.1.2.2.1;let v_425:=Pk.1.2.2.2;let Zj:=Pk.2.1;let ls_427:=Pk.2.2;bif v_423 then
                        some ((12,0,0,[],[],false,()),Zj,())
                       else
                        CQ q22 QW ((((),at_424,v_425),Zj,ls_427)) fun UH=>
                         let v_442:=UH.1.1;let WL:=UH.1.2.2;let Zl:=UH.2.1;bif v_442 then
                          some ((8,WL,0,[],[],true,()),Zl,())
                         else
                          some ((8,WL,0,[],[],false,()),Zl,()))
def Wh.G9 (xs:g9.D):Option ((Int×List an.D×Unit)×Unit):=
 let b8:g9.D:=xs;let Ed:List (an.D):=[]++b8.2.1;bif kL [decide ((0:Nat)+List.length b8.2.1≤eV)] then
  some ((b8.1,Ed,b8.2.2),())
 else none
def Wh.Gm (xs:mb.D):Option ((List b9.D×Int×Unit)×Unit):=
 let fy:mb.D:=xs;let Ed:List (b9.D):=[]++fy.1;bif kL [decide ((0:Nat)+List.length fy.1≤eV)] then
  some ((Ed,fy.2),())
 else none
def Wh.Fq (xs:b7.D):Option ((Bool×Int×List UInt8×(Int×List an.D×Unit)×(List b9.D×Int×Unit)×List cw.D×List cg.D×Unit)×Unit):=
 let cx:b7.D:=xs;c9 G9 (cx.2.2.2.1) fun r_1=>
  c9 Gm (cx.2.2.2.2.1) fun r_2=>
   let Du:List (cw.D):=[]++cx.2.2.2.2.2.1;bif kL [decide ((0:Nat)+List.length (cx.2.2.2.2.2.1)≤eV)] then
    let Kl:List (cg.D):=[]++cx.2.2.2.2.2.2.1;bif kL [decide ((0:Nat)+List.length (cx.2.2.2.2.2.2.1)≤eV)] then
     some ((cx.1,cx.2.1,cx.2.2.1,r_1.1,r_2.1,Du,Kl,cx.2.2.2.2.2.2.2),())
    else none
   else none
def Wh.Ie (xs:gv.D):Option ((Int×Int×List Int×List Int×Unit)×Unit):=
 let fy:gv.D:=xs;let Ed:List Int:=[]++fy.2.2.1;bif kL [decide ((0:Nat)+List.length (fy.2.2.1)≤eV)] then
  let BI:List Int:=[]++fy.2.2.2.1;bif kL [decide ((0:Nat)+List.length (fy.2.2.2.1)≤eV)] then
   some ((fy.1,fy.2.1,Ed,BI,fy.2.2.2.2),())
  else none
 else none
abbrev Wh.aal:Type:=(Int×Unit×Unit×Unit)×(Int×Int×Unit×Unit)×ei.D×(Int×Int×Unit×Unit)×List e_.D×List e_.D
abbrev Wh.ahN:Type:=(Unit×Unit)×(Int×Int×Unit×Unit)×(Int×Int×Unit×Unit)×List e_.D×List e_.D
def Wh.Ml (x:aal):Option (aal⊕ahN):=
 let wm:=x.1.1;let Bb:=x.2.1.1;let CH:=x.2.1.2.1;let CJ:=x.2.1.2.2.2;let we:=x.2.2.1;let BG:=x.2.2.2.1.1;let Bc:=x.2.2.2.1.2.1;let AY:=x.2.2.2.1.2.2.2;let BB:=x.2.2.2.2.1;let Bl:=x.2.2.2.2.2;let v9:Int:=(↑(List.length (we.2.2.1)):Int);bif decide (wm<v9) then
  let EY:List Int:=[]++(List.getD (we.2.2.1) (Int.toNat wm) ([],[],())).1;let AJ:=BB ++ [(EY,((List.getD (we.2.2.1) (Int.toNat wm) ([],[],())).2).1,())];let BX:=List.getD (we.2.2.1) (Int.toNat wm) ([],[],());bif kL [decide (List.length BB+(1:Nat)≤eV),decide (0≤wm),decide (wm<v9),decide ((0:Nat)+List.length BX.1≤eV),decide (0≤wm),decide (wm<v9)] then
   some (.inl (((IntKind.wrap .i64 (wm+1)),(),(),()),(Bb,CH,(),CJ),we,(BG,Bc,(),AY),AJ,Bl))
  else none
 else
  some (.inr (((),()),(BG,Bc,(),AY),(Bb,CH,(),CJ),Bl,BB))
def Wh.aam:(Unit×Unit)×(Int×Int×Unit×Unit)×(Int×Int×Unit×Unit)×List e_.D×List e_.D:=default
def Wh.Jo (xs:ei.D):Option ((Int×Int×List e_.D×Unit)×Unit):=
 let cx:=xs;g8 Ml aam (((0,(),(),()),(cx.1,cx.2.1,(),()),cx,(0,0,(),()),[],[])) fun RP=>
  let A0:=RP.2.2.1.1;let Az:=RP.2.2.1.2.1;let AA:=RP.2.2.1.2.2.2;let zP:=RP.2.2.2.2;some ((A0,Az,zP,AA),())
def Wh.KL (xs:nT.D):Option (((Int×Int×List Int×List Int×Unit)×(Int×Int×List e_.D×Unit)×Unit)×Unit):=
 let nc:=xs;bn (zog Ie nc.1) fun r_1=>
 bn (zog Jo nc.2.1) fun r_2=>
 bif kL [qu (Jo nc.2.1),qu (Ie nc.1)] then
  some ((r_1.1,r_2.1,()),())
 else none
def Wh.F3 (xs:bm.D):Option ((Int×Int×Int×List UInt8×Int×((Int×Int×List Int×List Int×Unit)×(Int×Int×List e_.D×Unit)×Unit)×Unit)×Unit):=
 let b8:=xs;bif decide (b8.2.2.2.2.1>0) then
  c9 KL (b8.2.2.2.2.2.1) fun r_2=>
   some ((b8.1,b8.2.1,b8.2.2.1,b8.2.2.2.1,b8.2.2.2.2.1,r_2.1,b8.2.2.2.2.2.2),())
 else
  some ((b8.1,b8.2.1,b8.2.2.1,b8.2.2.2.1,b8.2.2.2.2.1,((0,0,[],[],()),(0,0,[],()),()),b8.2.2.2.2.2.2),())
abbrev Wh.ZH:Type:=(Int×Unit×Unit×Unit)×((Bool×Int×List UInt8×(Int×Unit×Unit)×(Unit×Int×Unit)×Unit×Unit×Unit)×Unit×Unit×Unit×Unit)×fk.D×((Bool×Int×List UInt8×(Int×Unit×Unit)×(Unit×Int×Unit)×Unit×Unit×Unit)×Unit×Unit×Unit×Unit)×List an.D×List b9.D×List cw.D×List cg.D×List bm.D×List cp.D×List an.D×List an.D×List b9.D×List cw.D×List cg.D×List bm.D×List cp.D×List an.D
abbrev Wh.aht:Type:=(Unit×Unit)×((Bool×Int×List UInt8×(Int×Unit×Unit)×(Unit×Int×Unit)×Unit×Unit×Unit)×Unit×Unit×Unit×Unit)×((Bool×Int×List UInt8×(Int×Unit×Unit)×(Unit×Int×Unit)×Unit×Unit×Unit)×Unit×Unit×Unit×Unit)×List an.D×List b9.D×List cw.D×List cg.D×List bm.D×List cp.D×List an.D×List an.D×List b9.D×List cw.D×List cg.D×List bm.D×List cp.D×List an.D
def Wh.QG (x:ZH):Option (ZH⊕aht):=
 let LN:=x.1.1;let zP:=x.2.1.1.1;let tn:=x.2.1.1.2.1;let xd:=x.2.1.1.2.2.1;let A1:=x.2.1.1.2.2.2.1.1;let s5:=x.2.1.1.2.2.2.1.2.2;let Ar:=x.2.1.1.2.2.2.2.1.2;let nS:=x.2.1.1.2.2.2.2.2.2.2;let w8:=x.2.1.2.2.2.2;let tc:=x.2.2.1;let AB:=x.2.2.2.1.1.1;let A2:=x.2.2.2.1.1.2.1;let AK:=x.2.2.2.1.1.2.2.1;let oc:=x.2.2.2.1.1.2.2.2.1.1;let AF:=x.2.2.2.1.1.2.2.2.1.2.2;let Co:=x.2.2.2.1.1.2.2.2.2.1.2;let Ce:=x.2.2.2.1.1.2.2.2.2.2.2.2;let Bh:=x.2.2.2.1.2.2.2.2;let BP:=x.2.2.2.2.1;let Cf:=x.2.2.2.2.2.1;let Bi:=x.2.2.2.2.2.2.1;let A3:=x.2.2.2.2.2.2.2.1;let BQ:=x.2.2.2.2.2.2.2.2.1;let CV:=x.2.2.2.2.2.2.2.2.2.1;let BH:=x.2.2.2.2.2.2.2.2.2.2.1;let Cv:=x.2.2.2.2.2.2.2.2.2.2.2.1;let EU:=x.2.2.2.2.2.2.2.2.2.2.2.2.1;let Dp:=x.2.2.2.2.2.2.2.2.2.2.2.2.2.1;let Bt:=x.2.2.2.2.2.2.2.2.2.2.2.2.2.2.1;let A7:=x.2.2.2.2.2.2.2.2.2.2.2.2.2.2.2.1;let CK:=x.2.2.2.2.2.2.2.2.2.2.2.2.2.2.2.2.1;let Cg:=x.2.2.2.2.2.2.2.2.2.2.2.2.2.2.2.2.2;let RJ:Int:=(↑(List.length tc.2.1):Int);bif decide (LN<RJ) then
  bn (zog F3 (List.getD tc.2.1 (Int.toNat LN) (0,0,0,[],0,((0,0,[],[],()),(0,0,[],()),()),()))) fun OO=>
  let EW:=BQ ++ [OO.1];let v_80:=List.getD tc.2.1 (Int.toNat LN) (0,0,0,[],0,((0,0,[],[],()),(0,0,[],()),()),());bif kL [decide (List.length BQ+(1:Nat)≤eV),qu (F3 v_80),decide (0≤LN),decide (LN<RJ)] then
   some (.inl (((IntKind.wrap .i64 (LN+1)),(),(),()),((zP,tn,xd,(A1,(),s5),((),Ar),(),(),nS),(),(),(),w8),tc,((AB,A2,AK,(oc,(),AF),((),Co),(),(),Ce),(),(),(),Bh),BP,Cf,Bi,A3,EW,CV,BH,Cv,EU,Dp,Bt,A7,CK,Cg))
  else none
 else
  some (.inr (((),()),((AB,A2,AK,(oc,(),AF),((),Co),(),(),Ce),(),(),(),Bh),((zP,tn,xd,(A1,(),s5),((),Ar),(),(),nS),(),(),(),w8),Cv,EU,Dp,Bt,A7,CK,Cg,BP,Cf,Bi,A3,BQ,CV,BH))
def Wh.ZI:(Unit×Unit)×((Bool×Int×List UInt8×(Int×Unit×Unit)×(Unit×Int×Unit)×Unit×Unit×Unit)×Unit×Unit×Unit×Unit)×((Bool×Int×List UInt8×(Int×Unit×Unit)×(Unit×Int×Unit)×Unit×Unit×Unit)×Unit×Unit×Unit×Unit)×List an.D×List b9.D×List cw.D×List cg.D×List bm.D×List cp.D×List an.D×List an.D×List b9.D×List cw.D×List cg.D×List bm.D×List cp.D×List an.D:=(default,(default,default,default,default,default,default,default,default,default,default,default,default,default,default,default,default))
def Wh.H9 (xs:fk.D):Option ((b7.D×List bm.D×List cp.D×List an.D×Unit)×Unit):=
 let w_0:=xs;bn (zog Fq w_0.1) fun r_1=>
 let BI:List (cp.D):=[]++w_0.2.2.1;let Du:List (an.D):=[]++w_0.2.2.2.1;bif kL [decide ((0:Nat)+List.length (w_0.2.2.2.1)≤eV),decide ((0:Nat)+List.length (w_0.2.2.1)≤eV),qu (Fq w_0.1)] then
  g8 QG ZI (((0,(),(),()),((r_1.1.1,r_1.1.2.1,r_1.1.2.2.1,(r_1.1.2.2.2.1.1,(),r_1.1.2.2.2.1.2.2),((),r_1.1.2.2.2.2.1.2),(),(),r_1.1.2.2.2.2.2.2.2),(),(),(),()),w_0,((false,0,[],(0,(),()),((),0,()),(),(),()),(),(),(),()),r_1.1.2.2.2.1.2.1,r_1.1.2.2.2.2.1.1,r_1.1.2.2.2.2.2.1,r_1.1.2.2.2.2.2.2.1,[],BI,Du,[],[],[],[],[],[],[])) fun Ek=>
   let LW:=Ek.2.2.1.1.1;let LX:=Ek.2.2.1.1.2.1;let D_:=Ek.2.2.1.1.2.2.1;let ls_95:=Ek.2.2.1.1.2.2.2.1.1;let ls_96:=Ek.2.2.1.1.2.2.2.1.2.2;let Ke:=Ek.2.2.1.1.2.2.2.2.1.2;let Fo:=Ek.2.2.1.1.2.2.2.2.2.2.2;let HV:=Ek.2.2.1.2.2.2.2;let Fm:=Ek.2.2.2.2.2.2.2.2.2.2.1;let GR:=Ek.2.2.2.2.2.2.2.2.2.2.2.1;let I1:=Ek.2.2.2.2.2.2.2.2.2.2.2.2.1;let I4:=Ek.2.2.2.2.2.2.2.2.2.2.2.2.2.1;let I5:=Ek.2.2.2.2.2.2.2.2.2.2.2.2.2.2.1;let LS:=Ek.2.2.2.2.2.2.2.2.2.2.2.2.2.2.2.1;let I7:=Ek.2.2.2.2.2.2.2.2.2.2.2.2.2.2.2.2;some (((LW,LX,D_,(ls_95,Fm,ls_96),(GR,Ke),I1,I4,Fo),I5,LS,I7,HV),())
 else none
abbrev Wh.aax:Type:=(Int×Int×List UInt8)×Unit
abbrev Wh.ahT:Type:=Int×Unit⊕Unit×Unit
def Wh.F8 (x:aax):Option (aax⊕ahT):=
 let Fj:=x.1.1;let b_11:=x.1.2.1;let s_12:=x.1.2.2;let A4:=decide (Fj<(↑(List.length s_12):Int));bif A4 then
  let pg:Int:=(↑(UInt8.toNat (List.getD s_12 (Int.toNat Fj) (0:UInt8))):Int);let BA:=pg==b_11;bif kL [decide (0≤Fj),A4] then
   bif BA then
    some (.inr (.inl (Fj,())))
   else
    some (.inl (((IntKind.wrap .i64 (Fj+1)),b_11,s_12),()))
  else none
 else
  some (.inr (.inr ((),())))
def Wh.aay:Int×Unit⊕Unit×Unit:=.inl default
def Wh.Cz (xs:List UInt8×Int×Int):Option (Int×Unit):=
 let cx:=xs.1;let C_:=xs.2.1;let b_2:=xs.2.2;g8 F8 aay (((C_,b_2,cx),())) fun q_=>
  sumC q_ (fun Pj=>
   let iL:=Pj.1;some (iL,())) (fun _=>
   some (-1,()))
abbrev Wh.aar:Type:=(Int×Int×List UInt8×Unit×Int)×List (List UInt8)
abbrev Wh.ahQ:Type:=(Int×List UInt8×Unit)×List (List UInt8)
def Wh.DI (x:aar):Option (aar⊕ahQ):=
 let Ay:=x.1.1;let LI:=x.1.2.1;let Lg:=x.1.2.2.1;let R0:=x.1.2.2.2.2;let Bb:=x.2;let iL:=decide (Ay<(↑(List.length Lg):Int));bif iL then
  let A5:Int:=(↑(UInt8.toNat (List.getD Lg (Int.toNat Ay) (0:UInt8))):Int);let nW:=A5==R0;bif kL [decide (0≤Ay),iL] then
   bif nW then
    let TH:List (List UInt8):=[List.take (Int.toNat (Ay-LI)) (List.drop (Int.toNat LI) Lg)];let Bc:List (List UInt8):=Bb++TH;bif kL [decide (List.length Bb+(1:Nat)≤eV),decide (0≤LI),decide (LI≤Ay),decide (Ay≤(↑(List.length Lg):Int))] then
     let w9:=IntKind.wrap .i64 (Ay+1);some (.inl ((w9,w9,Lg,(),R0),Bc))
    else none
   else
    some (.inl (((IntKind.wrap .i64 (Ay+1)),LI,Lg,(),R0),Bb))
  else none
 else
  some (.inr ((LI,Lg,()),Bb))
def Wh.aas:(Int×List UInt8×Unit)×List (List UInt8):=default
def Wh.DH (xs:List UInt8×Int):Option (List (List UInt8)×Unit):=
 let cx:=xs.1;let C_:=xs.2;g8 DI aas (((0,0,cx,(),C_),[])) fun C6=>
  let PU:=C6.1.1;let OT:=C6.1.2.1;let AJ:=C6.2;let TL:List (List UInt8):=[List.take (Int.toNat ((↑(List.length OT):Int)-PU)) (List.drop (Int.toNat PU) OT)];let wv:List (List UInt8):=AJ++TL;bif kL [decide (List.length AJ+(1:Nat)≤eV),decide (0≤PU),decide (PU≤(↑(List.length OT):Int)),decide ((↑(List.length OT):Int)≤(↑(List.length OT):Int))] then
   some (wv,())
  else none
abbrev Wh.abe:Type:=(Int×List UInt8×Int)×Unit
abbrev Wh.aie:Type:=Int×Unit⊕Int×Unit
def Wh.Mw (x:abe):Option (abe⊕aie):=
 let CG:=x.1.1;let MT:=x.1.2.1;let n_19:=x.1.2.2;let iL:=decide (CG<(↑(List.length MT):Int));bif iL then
  let A5:Int:=(↑(UInt8.toNat (List.getD MT (Int.toNat CG) (0:UInt8))):Int);let AW:=bif decide (A5<48) then true else decide (A5>57);bif kL [!!decide (A5<48) || decide (0≤CG),!!decide (A5<48) || iL,decide (0≤CG),iL] then
   bif AW then
    some (.inr (.inl (-1,())))
   else
    bif kL [decide (0≤CG),iL] then
     some (.inl (((IntKind.wrap .i64 (CG+1)),MT,(IntKind.wrap .i64 ((IntKind.wrap .i64 (n_19*10))+IntKind.wrap .i64 (IntKind.wrap .u8 (A5-48))))),()))
    else none
  else none
 else
  some (.inr (.inr (n_19,())))
def Wh.abf:Int×Unit⊕Int×Unit:=.inl default
def Wh.AD (xs:List UInt8):Option (Int×Unit):=
 let cx:=xs;bn (zog gh ((↑(List.length cx):Int),1,6)) fun r_1=>
 let v_2:=bif !r_1.1 then true else bif decide ((↑(List.length cx):Int)>1) then(↑(UInt8.toNat (List.getD cx (Int.toNat 0) (0:UInt8))):Int)==48 else false;bif kL [!(decide ((↑(List.length cx):Int)>1) && !!r_1.1) || decide ((0:Int)≤0),!(decide ((↑(List.length cx):Int)>1) && !!r_1.1) || decide (0<(↑(List.length cx):Int)),qu (gh ((↑(List.length cx):Int),1,6))] then
  bif v_2 then
   some (-1,())
  else
   g8 Mw abf (((0,cx,0),())) fun q_=>
    sumC q_ (fun y_32=>
     let FD:=y_32.1;some (FD,())) (fun z_33=>
     let n_35:=z_33.1;some (n_35,()))
 else none
abbrev Wh.Z_:Type:=(Int×List UInt8)×Unit
abbrev Wh.ahH:Type:=Bool×Unit⊕List UInt8×Unit
def Wh.Fs (x:Z_):Option (Z_⊕ahH):=
 let CT:=x.1.1;let Rz:=x.1.2;let B6:=decide (CT<(↑(List.length Rz):Int));bif B6 then
  let AN:Int:=(↑(UInt8.toNat (List.getD Rz (Int.toNat CT) (0:UInt8))):Int);let BA:=bif decide (AN<97) then true else decide (AN>122);bif kL [!!decide (AN<97) || decide (0≤CT),!!decide (AN<97) || B6,decide (0≤CT),B6] then
   bif BA then
    some (.inr (.inl (false,())))
   else
    some (.inl (((IntKind.wrap .i64 (CT+1)),Rz),()))
  else none
 else
  some (.inr (.inr (Rz,())))
def Wh.aaa:Bool×Unit⊕List UInt8×Unit:=.inl default
def Wh.DU (xs:List UInt8):Option (Bool×Unit):=
 let Bj:=xs;g8 Fs aaa (((0,Bj),())) fun q_=>
  sumC q_ (fun Pj=>
   let iL:=Pj.1;some (iL,())) (fun z_19=>
   let akl:=z_19.1;c9 gh ((↑(List.length akl):Int),1,6) fun r_22=>
    some (r_22.1,()))
def Wh.EE (xs:eL.D):Option (Bool×Unit):=
 let w_0:=xs;bn (zog gh (w_0.2.1,0,99999)) fun r_1=>
 bn (zog gh (w_0.2.2.1,1,99999)) fun r_2=>
 bn (zog gh (w_0.2.2.2.1,0,99999)) fun gT=>
 bn (zog gh (w_0.2.2.2.2.1,0,99999)) fun AU=>
 let B6:=bif bif bif bif !r_1.1 then true else !r_2.1 then true else !gT.1 then true else !AU.1 then true else decide ((↑(List.length (w_0.2.2.2.2.2.2.1)):Int)>80);bif kL [(!!bif bif !r_1.1 then true else !r_2.1 then true else !gT.1) || qu (gh (w_0.2.2.2.2.1,0,99999)),(!!bif !r_1.1 then true else !r_2.1) || qu (gh (w_0.2.2.2.1,0,99999)),!!!r_1.1 || qu (gh (w_0.2.2.1,1,99999)),qu (gh (w_0.2.1,0,99999))] then
  bif B6 then
   some (false,())
  else
   let AN:=w_0.1==1;bn (zog DU (w_0.2.2.2.2.2.1)) fun Dw=>
   let n5:=bif bif AN then !Dw.1 else false then true else bif !AN then !w_0.2.2.2.2.2.1 == [] else false;bif kL [!AN || qu (DU (w_0.2.2.2.2.2.1))] then
    bif n5 then
     some (false,())
    else
     bif AN then
      bif AN then
       let s9:=bif(w_0.2.2.2.2.1==0) then w_0.2.2.2.2.2.2.1 == [] else false;some (s9,())
      else
       bif(w_0.1==2) then
        let Gu:=bif bif decide (w_0.2.2.2.1>0) then w_0.2.2.2.2.1==0 else false then !w_0.2.2.2.2.2.2.1 == [] else false;some (Gu,())
       else
        bif(w_0.1==3) then
         let CP:=bif decide (w_0.2.2.2.1>0) then !w_0.2.2.2.2.2.2.1 == [] else false;some (CP,())
        else
         let B7:=w_0.1==4;bif B7 then
          bif B7 then
           let BX:=bif decide (w_0.2.2.2.1>0) then w_0.2.2.2.2.2.2.1 == [] else false;some (BX,())
          else
           some (false,())
         else
          bif(w_0.1==5) then
           let EL:=bif decide (w_0.2.2.2.1>0) then w_0.2.2.2.2.2.2.1 == [] else false;some (EL,())
          else
           some (false,())
     else
      bif(w_0.1==6) then
       let Ll:=bif(w_0.2.2.2.2.1==0) then w_0.2.2.2.2.2.2.1 == [] else false;some (Ll,())
      else
       bif(w_0.1==2) then
        let v_47:=bif bif decide (w_0.2.2.2.1>0) then w_0.2.2.2.2.1==0 else false then !w_0.2.2.2.2.2.2.1 == [] else false;some (v_47,())
       else
        bif(w_0.1==3) then
         let B9:=bif decide (w_0.2.2.2.1>0) then !w_0.2.2.2.2.2.2.1 == [] else false;some (B9,())
        else
         let RG:=w_0.1==4;bif RG then
          bif RG then
           let JM:=bif decide (w_0.2.2.2.1>0) then w_0.2.2.2.2.2.2.1 == [] else false;some (JM,())
          else
           some (false,())
         else
          bif(w_0.1==5) then
           let O9:=bif decide (w_0.2.2.2.1>0) then w_0.2.2.2.2.2.2.1 == [] else false;some (O9,())
          else
           some (false,())
   else none
 else none
def Wh.q39 (acB:(Int)→Option (((List UInt8))×(Unit)))(Rg:(Int)→((List UInt8))×(Unit))(xs:(Int)):Option (((List UInt8))×(Unit)):=
 let Dt:=xs;bif decide (Dt < -9223372036854775807) then
  some ([(45:UInt8),(57:UInt8),(50:UInt8),(50:UInt8),(51:UInt8),(51:UInt8),(55:UInt8),(50:UInt8),(48:UInt8),(51:UInt8),(54:UInt8),(56:UInt8),(53:UInt8),(52:UInt8),(55:UInt8),(55:UInt8),(53:UInt8),(56:UInt8),(48:UInt8),(56:UInt8)],())
 else
  bif decide (Dt<0) then
   let AO:=IntKind.wrap .i64 (0-Dt);let AG:=Rg AO;let FG:List UInt8:=[(45:UInt8)]++AG.1;bif kL [decide ((1:Nat)+List.length ((Rg AO).1)≤eV),qu (acB AO)] then
    some (FG,())
   else none
  else
   bif decide (Dt<10) then
    let TA:List Int:=[IntKind.wrap .u8 (IntKind.wrap .i64 (48+Dt))];some (tv TA,())
   else
    let TC:List Int:=[IntKind.wrap .u8 (IntKind.wrap .i64 (48+Int.tmod Dt 10))];let A4:=IntKind.wrap .i64 (Int.tdiv Dt 10);let CL:=Rg A4;let A5:=CL.1++tv TC;bif kL [decide (List.length ((Rg A4).1)+(1:Nat)≤eV),true,qu (acB A4),true] then
     some (A5,())
    else none
def Wh.EZ:Nat→(Int)→Option (((List UInt8))×(Unit))
 |0,_=>none
 |n+1,xs=>q39 (EZ n) (fun x=>match EZ n x with | some y=>y|none=>default) xs
def Wh.TZ (n:Nat):EZ (n+1)=q39 (EZ n) (fun x=>match EZ n x with | some y=>y|none=>default):=rfl
def Wh.As (xs:Int):Option (List UInt8×Unit):=EZ 20 xs
def Wh.Mf (xs:eL.D):Option (List UInt8×Unit):=
 let w_0:=xs;bn (zog As w_0.1) fun r_1=>
 bn (zog As w_0.2.1) fun r_3=>
 bn (zog As (w_0.2.2.1)) fun ov=>
 bn (zog As (w_0.2.2.2.1)) fun z4=>
 bn (zog As (w_0.2.2.2.2.1)) fun BJ=>
 let v5:=r_1.1 ++ [(32:UInt8)]++r_3.1 ++ [(32:UInt8)]++ov.1 ++ [(32:UInt8)]++z4.1 ++ [(32:UInt8)]++BJ.1 ++ [(32:UInt8)]++w_0.2.2.2.2.2.1 ++ [(58:UInt8)]++w_0.2.2.2.2.2.2.1;bif kL [decide (List.length (r_1.1 ++ [(32:UInt8)]++r_3.1 ++ [(32:UInt8)]++ov.1 ++ [(32:UInt8)]++z4.1 ++ [(32:UInt8)]++BJ.1 ++ [(32:UInt8)]++w_0.2.2.2.2.2.1 ++ [(58:UInt8)])+List.length (w_0.2.2.2.2.2.2.1)≤eV),decide (List.length (r_1.1 ++ [(32:UInt8)]++r_3.1 ++ [(32:UInt8)]++ov.1 ++ [(32:UInt8)]++z4.1 ++ [(32:UInt8)]++BJ.1 ++ [(32:UInt8)]++w_0.2.2.2.2.2.1)+(1:Nat)≤eV),decide (List.length (r_1.1 ++ [(32:UInt8)]++r_3.1 ++ [(32:UInt8)]++ov.1 ++ [(32:UInt8)]++z4.1 ++ [(32:UInt8)]++BJ.1 ++ [(32:UInt8)])+List.length (w_0.2.2.2.2.2.1)≤eV),decide (List.length (r_1.1 ++ [(32:UInt8)]++r_3.1 ++ [(32:UInt8)]++ov.1 ++ [(32:UInt8)]++z4.1 ++ [(32:UInt8)]++BJ.1)+(1:Nat)≤eV),decide (List.length (r_1.1 ++ [(32:UInt8)]++r_3.1 ++ [(32:UInt8)]++ov.1 ++ [(32:UInt8)]++z4.1 ++ [(32:UInt8)])+List.length BJ.1≤eV),qu (As (w_0.2.2.2.2.1)),decide (List.length (r_1.1 ++ [(32:UInt8)]++r_3.1 ++ [(32:UInt8)]++ov.1 ++ [(32:UInt8)]++z4.1)+(1:Nat)≤eV),decide (List.length (r_1.1 ++ [(32:UInt8)]++r_3.1 ++ [(32:UInt8)]++ov.1 ++ [(32:UInt8)])+List.length z4.1≤eV),qu (As (w_0.2.2.2.1)),decide (List.length (r_1.1 ++ [(32:UInt8)]++r_3.1 ++ [(32:UInt8)]++ov.1)+(1:Nat)≤eV),decide (List.length (r_1.1 ++ [(32:UInt8)]++r_3.1 ++ [(32:UInt8)])+List.length ov.1≤eV),qu (As (w_0.2.2.1)),decide (List.length (r_1.1 ++ [(32:UInt8)]++r_3.1)+(1:Nat)≤eV),decide (List.length (r_1.1 ++ [(32:UInt8)])+List.length r_3.1≤eV),qu (As w_0.2.1),decide (List.length r_1.1+(1:Nat)≤eV),qu (As w_0.1)] then
  some (v5,())
 else none
abbrev Wh.abi:Type:=List UInt8×Unit
abbrev Wh.aih:Type:=List UInt8×Unit
def Wh.OE (x:abi):Option (abi⊕aih):=
 let Rj:=x.1;bif decide ((↑(List.length Rj):Int)<7) then
  let Gw:List UInt8:=[(48:UInt8)]++Rj;bif kL [decide ((1:Nat)+List.length Rj≤eV)] then
   some (.inl (Gw,()))
  else none
 else
  some (.inr (Rj,()))
def Wh.abj:List UInt8×Unit:=default
abbrev Wh.abg:Type:=(Int×List UInt8×Int)×Unit
abbrev Wh.aif:Type:=Int×Unit
def Wh.QT (x:abg):Option (abg⊕aif):=
 let CF:=x.1.1;let Ur:=x.1.2.1;let n_14:=x.1.2.2;let BA:=decide (CF<(↑(List.length Ur):Int));bif BA then
  let Av:Int:=(↑(UInt8.toNat (List.getD Ur (Int.toNat CF) (0:UInt8))):Int);bif kL [true,decide (0≤CF),BA] then
   some (.inl (((IntKind.wrap .i64 (CF+1)),Ur,(Int.tmod (IntKind.wrap .i64 (IntKind.wrap .i64 ((IntKind.wrap .i64 (n_14*31))+IntKind.wrap .i64 Av)+7)) 1000003)),()))
  else none
 else
  some (.inr (n_14,()))
def Wh.abh:Int×Unit:=default
def Wh.KY (xs:List UInt8):Option (List UInt8×Unit):=
 let Bj:=xs;g8 QT abh (((0,Bj,1),())) fun y_24=>
  let n_25:=y_24.1;c9 As n_25 fun FA=>
   g8 OE abj ((FA.1,())) fun Lv=>
    let s_35:=Lv.1;some (s_35,())
def Wh.Ip (xs:eL.D):Option (List UInt8×Unit):=
 let w_0:=xs;c9 EE w_0 fun r_1=>
  bif !r_1.1 then
   some ([],())
  else
   c9 Mf w_0 fun r_2=>
    bn (zog KY r_2.1) fun r_3=>
    let nP:=r_3.1++r_2.1;bif kL [decide (List.length r_3.1+List.length r_2.1≤eV),qu (KY r_2.1)] then
     some (nP,())
    else none
def Wh.q71 (xs:List UInt8):Option ((eL.D×Bool)×Unit):=
 let Bj:=xs;c9 Cz (Bj,7,58) fun r_1=>
  let AO:=bif decide (r_1.1<0) then true else decide ((↑(List.length Bj):Int)>160);bif AO then
   some (((0,0,0,0,0,[],[],()),false),())
  else
   bn (zog DH (List.take (Int.toNat (r_1.1-7)) (List.drop (Int.toNat 7) Bj),32)) fun dz=>
   let nP:List UInt8:=List.take (Int.toNat (r_1.1-7)) (List.drop (Int.toNat 7) Bj);bif kL [qu (DH (nP,32)),true,decide (7≤r_1.1),decide (r_1.1≤(↑(List.length Bj):Int))] then
    let n4:Int:=(↑(List.length dz.1):Int);let n_:=n4 != 6;bif n_ then
     some (((0,0,0,0,0,[],[],()),false),())
    else
     let Km:List UInt8:=List.take (Int.toNat ((↑(List.length Bj):Int)-IntKind.wrap .i64 (r_1.1+1))) (List.drop (Int.toNat (IntKind.wrap .i64 (r_1.1+1))) Bj);let Jf:=List.getD dz.1 (Int.toNat 5) [];bn (zog AD (List.getD dz.1 (Int.toNat 4) [])) fun By=>
     bn (zog AD (List.getD dz.1 (Int.toNat 3) [])) fun BU=>
     bn (zog AD (List.getD dz.1 (Int.toNat 2) [])) fun BJ=>
     bn (zog AD (List.getD dz.1 (Int.toNat 1) [])) fun Dw=>
     bn (zog AD (List.getD dz.1 (Int.toNat 0) [])) fun Dd=>
     let BA:=List.getD dz.1 (Int.toNat 0) [];let n5:=List.getD dz.1 (Int.toNat 1) [];let Av:=List.getD dz.1 (Int.toNat 2) [];let v5:=List.getD dz.1 (Int.toNat 3) [];let s9:=List.getD dz.1 (Int.toNat 4) [];let iL:=IntKind.wrap .i64 (r_1.1+1);bif kL [decide (0≤iL),decide (iL≤(↑(List.length Bj):Int)),decide ((↑(List.length Bj):Int)≤(↑(List.length Bj):Int)),true,decide (5<n4),qu (AD s9),true,decide (4<n4),qu (AD v5),true,decide (3<n4),qu (AD Av),true,decide (2<n4),qu (AD n5),true,decide (1<n4),qu (AD BA),true,decide (0<n4)] then
      bn (zog EE (Dd.1,Dw.1,BJ.1,BU.1,By.1,Jf,Km,())) fun DW=>
      bn (zog Ip (Dd.1,Dw.1,BJ.1,BU.1,By.1,Jf,Km,())) fun r_22=>
      let nE:=bif !DW.1 then true else !r_22.1==Bj;bif kL [!!!DW.1 || qu (Ip (Dd.1,Dw.1,BJ.1,BU.1,By.1,Jf,Km,())),qu (EE (Dd.1,Dw.1,BJ.1,BU.1,By.1,Jf,Km,()))] then
       bif nE then
        some (((0,0,0,0,0,[],[],()),false),())
       else
        some (((Dd.1,Dw.1,BJ.1,BU.1,By.1,Jf,Km,()),true),())
      else none
     else none
   else none
abbrev Wh.acd:Type:=(Int×Int×Unit)×List Int
abbrev Wh.aiH:Type:=Unit×List Int
def Wh.OI (x:acd):Option (acd⊕aiH):=
 let BO:=x.1.1;let n_28:=x.1.2.1;let Cn:=x.2;bif decide (BO≥0) then
  let vN:List Int:=[IntKind.wrap .u8 (Int.fdiv n_28 (2 ^ Min.min (Int.toNat (IntKind.wrap .i64 (8*BO))) (Go.IntKind.bits Go.IntKind.i64)))];let AJ:=Cn++vN;bif kL [decide (List.length Cn+(1:Nat)≤eV),decide (0≤(IntKind.wrap .i64 (8*BO)))] then
   some (.inl (((IntKind.wrap .i64 (BO-1)),n_28,()),AJ))
  else none
 else
  some (.inr ((),Cn))
def Wh.ace:Unit×List Int:=default
abbrev Wh.ab9:Type:=(Unit×List UInt8)×List Int
abbrev Wh.aiG:Type:=(Unit×List UInt8)×List Int
def Wh.MH (x:ab9):Option (ab9⊕aiG):=
 let adg:=x.1.2;let Ja:=x.2;let BW:Bool:=(Int.tmod (↑(List.length Ja):Int) 64) != 56;bif BW then
  let NX:=Ja ++ [(0:Int)];bif kL [decide (List.length Ja+(1:Nat)≤eV)] then
   some (.inl (((),adg),NX))
  else none
 else
  some (.inr (((),adg),Ja))
def Wh.ab_:(Unit×List UInt8)×List Int:=default
def Wh.q85 (xs:List UInt8):Option (List Int×Unit):=
 let Bj:=xs;let Ed:List Int:=bytesOf Bj ++ [(128:Int)];bif kL [decide (List.length (bytesOf Bj)+(1:Nat)≤eV),decide (List.length Bj≤eV)] then
  g8 MH ab_ ((((),Bj),Ed)) fun y_13=>
   let akk:=y_13.1.2;let w7:=y_13.2;g8 OI ace (((7,(IntKind.wrap .i64 ((↑(List.length akk):Int)*8)),()),w7)) fun y_38=>
    let AZ:=y_38.2;some (AZ,())
 else none
def Wh.x3 (xs:Int×Int):Option (Int×Unit):=
 let x_0:=xs.1;let n_1:=xs.2;let v_2:Int:=Int.fdiv x_0 (2 ^ Min.min (Int.toNat n_1) (Go.IntKind.bits Go.IntKind.u32));let AO:=IntKind.wrap .i64 (32-n_1);let n4:Int:=pZ Go.BinOp.or Go.IntKind.u32 v_2 (IntKind.wrap .u32 (x_0*2 ^ Min.min (Int.toNat AO) (Go.IntKind.bits Go.IntKind.u32)));bif kL [decide (0≤AO),decide (0≤n_1)] then
  some (n4,())
 else none
abbrev Wh.ZU:Type:=(Int×Unit)×List Int
abbrev Wh.ahA:Type:=Unit×List Int
def Wh.OA (x:ZU):Option (ZU⊕ahA):=
 let IW:=x.1.1;let D_:=x.2;bif decide (IW<64) then
  let v_96:=IntKind.wrap .i64 (IW-15);let Pf:=List.getD D_ (Int.toNat v_96) 0;bif kL [decide (0≤v_96),decide (v_96<(↑(List.length D_):Int))] then
   let v_99:=IntKind.wrap .i64 (IW-2);let Pg:=List.getD D_ (Int.toNat v_99) 0;bif kL [decide (0≤v_99),decide (v_99<(↑(List.length D_):Int))] then
    bn (zog x3 (Pf,7)) fun r_102=>
    bn (zog x3 (Pf,18)) fun r_103=>
    let v_105:Int:=Int.fdiv Pf (2 ^ Min.min (Int.toNat 3) (Go.IntKind.bits Go.IntKind.u32));let a_107:Int:=pZ Go.BinOp.xor Go.IntKind.u32 (pZ Go.BinOp.xor Go.IntKind.u32 r_102.1 r_103.1) v_105;bif kL [true,qu (x3 (Pf,18)),qu (x3 (Pf,7))] then
     bn (zog x3 (Pg,17)) fun r_108=>
     bn (zog x3 (Pg,19)) fun r_109=>
     let v_111:Int:=Int.fdiv Pg (2 ^ Min.min (Int.toNat 10) (Go.IntKind.bits Go.IntKind.u32));let c_113:Int:=pZ Go.BinOp.xor Go.IntKind.u32 (pZ Go.BinOp.xor Go.IntKind.u32 r_108.1 r_109.1) v_111;bif kL [true,qu (x3 (Pg,19)),qu (x3 (Pg,17))] then
      let pb_114:List Int:=[IntKind.wrap .u32 (IntKind.wrap .u32 (IntKind.wrap .u32 (List.getD D_ (Int.toNat (IntKind.wrap .i64 (IW-16))) 0+a_107)+List.getD D_ (Int.toNat (IntKind.wrap .i64 (IW-7))) 0)+c_113)];let FU:=D_++pb_114;let v_116:=IntKind.wrap .i64 (IW-16);let v_119:=IntKind.wrap .i64 (IW-7);bif kL [decide (List.length D_+(1:Nat)≤eV),decide (0≤v_119),decide (v_119<(↑(List.length D_):Int)),decide (0≤v_116),decide (v_116<(↑(List.length D_):Int))] then
       some (.inl (((IntKind.wrap .i64 (IW+1)),()),FU))
      else none
     else none
    else none
   else none
  else none
 else
  some (.inr ((),D_))
def Wh.ZV:Unit×List Int:=default
abbrev Wh.ZS:Type:=(Int×List Int×Unit)×List Int
abbrev Wh.ahz:Type:=Unit×List Int
def Wh.Oz (x:ZS):Option (ZS⊕ahz):=
 let J3:=x.1.1;let Hy:=x.1.2.1;let AJ:=x.2;bif decide (J3<16) then
  let Qz:List Int:=[pZ Go.BinOp.or Go.IntKind.u32 (pZ Go.BinOp.or Go.IntKind.u32 (pZ Go.BinOp.or Go.IntKind.u32 (IntKind.wrap .u32 (IntKind.wrap .u32 (List.getD Hy (Int.toNat (IntKind.wrap .i64 (4*J3))) 0)*2 ^ Min.min (Int.toNat 24) (Go.IntKind.bits Go.IntKind.u32))) (IntKind.wrap .u32 (IntKind.wrap .u32 (List.getD Hy (Int.toNat (IntKind.wrap .i64 (IntKind.wrap .i64 (4*J3)+1))) 0)*2 ^ Min.min (Int.toNat 16) (Go.IntKind.bits Go.IntKind.u32)))) (IntKind.wrap .u32 (IntKind.wrap .u32 (List.getD Hy (Int.toNat (IntKind.wrap .i64 (IntKind.wrap .i64 (4*J3)+2))) 0)*2 ^ Min.min (Int.toNat 8) (Go.IntKind.bits Go.IntKind.u32)))) (IntKind.wrap .u32 (List.getD Hy (Int.toNat (IntKind.wrap .i64 (IntKind.wrap .i64 (4*J3)+3))) 0))];let ng:=AJ++Qz;let C5:=IntKind.wrap .i64 (4*J3);bif kL [decide (List.length AJ+(1:Nat)≤eV),decide (0≤IntKind.wrap .i64 (C5+3)),decide (IntKind.wrap .i64 (C5+3)<(↑(List.length Hy):Int)),true,decide (0≤IntKind.wrap .i64 (C5+2)),decide (IntKind.wrap .i64 (C5+2)<(↑(List.length Hy):Int)),true,decide (0≤IntKind.wrap .i64 (C5+1)),decide (IntKind.wrap .i64 (C5+1)<(↑(List.length Hy):Int)),true,decide (0≤C5),decide (C5<(↑(List.length Hy):Int))] then
   some (.inl (((IntKind.wrap .i64 (J3+1)),Hy,()),ng))
  else none
 else
  some (.inr ((),AJ))
def Wh.ZT:Unit×List Int:=default
def Wh.Md (xs:List Int):Option (List Int×Unit):=
 let BL:=xs;g8 Oz ZT (((0,BL,()),[])) fun y_60=>
  let BP:=y_60.2;g8 OA ZV (((16,()),BP)) fun y_125=>
   let GU:=y_125.2;some (GU,())
def Wh.q84 (_:Unit):Option (((List (Int)))×(Unit)):=
 let pb_0:List Int:=[(1116352408:Int),1899447441,3049323471,3921009573,961987163,1508970993,2453635748,2870763221,3624381080,310598401,607225278,1426881987,1925078388,2162078206,2614888103,3248222580,3835390401,4022224774,264347078,604807628,770255983,1249150122,1555081692,1996064986,2554220882,2821834349,2952996808,3210313671,3336571891,3584528711,113926993,338241895,666307205,773529912,1294757372,1396182291,1695183700,1986661051,2177026350,2456956037,2730485921,2820302411,3259730800,3345764771,3516065817,3600352804,4094571909,275423344,430227734,506948616,659060556,883997877,958139571,1322822218,1537002063,1747873779,1955562222,2024104815,2227730452,2361852424,2428436474,2756734187,3204031479,3329325298];some (pb_0,())
abbrev Wh.ZQ:Type:=(Int×Unit×List Int×Unit)×List Int×List Int
abbrev Wh.ahy:Type:=Unit×List Int
def Wh.TY (x:ZQ):Option (ZQ⊕ahy):=
 let IQ:=x.1.1;let SO:=x.1.2.2.1;let FW:=x.2.1;let FX:=x.2.2;bif decide (IQ<8) then
  let pb_193:List Int:=[IntKind.wrap .u32 (List.getD SO (Int.toNat IQ) 0+List.getD FW (Int.toNat IQ) 0)];let Kb:=FX++pb_193;bif kL [decide (List.length FX+(1:Nat)≤eV),decide (0≤IQ),decide (IQ<(↑(List.length FW):Int)),decide (0≤IQ),decide (IQ<(↑(List.length SO):Int))] then
   some (.inl (((IntKind.wrap .i64 (IQ+1)),(),SO,()),FW,Kb))
  else none
 else
  some (.inr ((),FX))
def Wh.ZR:Unit×List Int:=default
abbrev Wh.ZP:Type:=(Int×Unit×Unit×Unit×List Int×Int×Int×Int×Int)×List Int×List Int×List Int
abbrev Wh.ahx:Type:=(Unit×Unit×Unit×List Int×Int×Int×Int×Int)×List Int×List Int×List Int
def Wh.TW (x:ZP):Option (ZP⊕ahx):=
 let LZ:=x.1.1;let h_73:=x.1.2.2.2.2.1;let i_74:=x.1.2.2.2.2.2.1;let YO:=x.1.2.2.2.2.2.2.1;let a_76:=x.1.2.2.2.2.2.2.2.1;let t_77:=x.1.2.2.2.2.2.2.2.2;let Ez:=x.2.1;let EW:=x.2.2.1;let D9:=x.2.2.2;bif decide (LZ>0) then
  let CY:=List.set Ez (Int.toNat LZ) (List.getD Ez (Int.toNat (IntKind.wrap .i64 (LZ-1))) 0);let IE:=IntKind.wrap .i64 (LZ-1);bif kL [decide (0≤LZ),decide (LZ<(↑(List.length Ez):Int)),decide (0≤IE),decide (IE<(↑(List.length Ez):Int))] then
   some (.inl ((IE,(),(),(),h_73,i_74,YO,a_76,t_77),CY,EW,D9))
  else none
 else
  some (.inr (((),(),(),h_73,i_74,YO,a_76,t_77),Ez,EW,D9))
def Wh.TX:(Unit×Unit×Unit×List Int×Int×Int×Int×Int)×List Int×List Int×List Int:=default
abbrev Wh.ZN:Type:=(Unit×Int×Unit×Unit×List Int)×List Int×List Int×List Int
abbrev Wh.ahw:Type:=(Unit×List Int)×List Int
def Wh.Oy (x:ZN):Option (ZN⊕ahw):=
 let IP:=x.1.2.1;let h_103:=x.1.2.2.2.2;let AE:=x.2.1;let Eu:=x.2.2.1;let Ev:=x.2.2.2;bif decide (IP<64) then
  let JK:=List.getD AE (Int.toNat 4) 0;bn (zog x3 (JK,6)) fun r_119=>
  bn (zog x3 (JK,11)) fun Iv=>
  bn (zog x3 (JK,25)) fun r_121=>
  let e_122:Int:=pZ Go.BinOp.xor Go.IntKind.u32 (pZ Go.BinOp.xor Go.IntKind.u32 r_119.1 Iv.1) r_121.1;bif kL [qu (x3 (JK,25)),true,decide (4<(↑(List.length AE):Int)),qu (x3 (JK,11)),true,decide (4<(↑(List.length AE):Int)),qu (x3 (JK,6)),true,decide (4<(↑(List.length AE):Int))] then
   let v_123:=List.getD AE (Int.toNat 5) 0;let v_124:=List.getD AE (Int.toNat 6) 0;let ch_127:Int:=pZ Go.BinOp.xor Go.IntKind.u32 (pZ Go.BinOp.and Go.IntKind.u32 JK v_123) (pZ Go.BinOp.and Go.IntKind.u32 (pZ Go.BinOp.xor Go.IntKind.u32 (Go.IntKind.max Go.IntKind.u32) JK) v_124);bif kL [true,decide (6<(↑(List.length AE):Int)),true,decide (4<(↑(List.length AE):Int)),true,decide (5<(↑(List.length AE):Int)),true,decide (4<(↑(List.length AE):Int))] then
    let RB:=List.getD AE (Int.toNat 7) 0;let v_131:=List.getD Ev (Int.toNat IP) 0;let Uu:=List.getD Eu (Int.toNat IP) 0;bif kL [decide (0≤IP),decide (IP<(↑(List.length Eu):Int)),decide (0≤IP),decide (IP<(↑(List.length Ev):Int)),true,decide (7<(↑(List.length AE):Int))] then
     let Hr:=List.getD AE (Int.toNat 0) 0;bn (zog x3 (Hr,2)) fun r_147=>
     bn (zog x3 (Hr,13)) fun r_148=>
     bn (zog x3 (Hr,22)) fun r_149=>
     let a_150:Int:=pZ Go.BinOp.xor Go.IntKind.u32 (pZ Go.BinOp.xor Go.IntKind.u32 r_147.1 r_148.1) r_149.1;bif kL [qu (x3 (Hr,22)),true,decide (0<(↑(List.length AE):Int)),qu (x3 (Hr,13)),true,decide (0<(↑(List.length AE):Int)),qu (x3 (Hr,2)),true,decide (0<(↑(List.length AE):Int))] then
      let v_151:=List.getD AE (Int.toNat 1) 0;let v_152:=List.getD AE (Int.toNat 2) 0;let agH:Int:=pZ Go.BinOp.xor Go.IntKind.u32 (pZ Go.BinOp.xor Go.IntKind.u32 (pZ Go.BinOp.and Go.IntKind.u32 Hr v_151) (pZ Go.BinOp.and Go.IntKind.u32 Hr v_152)) (pZ Go.BinOp.and Go.IntKind.u32 v_151 v_152);bif kL [true,decide (2<(↑(List.length AE):Int)),true,decide (1<(↑(List.length AE):Int)),true,decide (2<(↑(List.length AE):Int)),true,decide (0<(↑(List.length AE):Int)),true,decide (1<(↑(List.length AE):Int)),true,decide (0<(↑(List.length AE):Int))] then
       g8 TW TX (((7,(),(),(),h_103,IP,agH,a_150,(IntKind.wrap .u32 (IntKind.wrap .u32 (IntKind.wrap .u32 (IntKind.wrap .u32 (RB+e_122)+ch_127)+v_131)+Uu))),AE,Eu,Ev)) fun JQ=>
        let h_158:=JQ.1.2.2.2.1;let i_159:=JQ.1.2.2.2.2.1;let agI:=JQ.1.2.2.2.2.2.1;let a_161:=JQ.1.2.2.2.2.2.2.1;let t_162:=JQ.1.2.2.2.2.2.2.2;let LV:=JQ.2.1;let Tj:=JQ.2.2.1;let Tk:=JQ.2.2.2;let YB:=List.set LV (Int.toNat 4) (IntKind.wrap .u32 (List.getD LV (Int.toNat 4) 0+t_162));bif kL [true,decide (4<(↑(List.length LV):Int)),true,decide (4<(↑(List.length LV):Int))] then
         let ls_169:=List.set YB (Int.toNat 0) (IntKind.wrap .u32 (IntKind.wrap .u32 (t_162+a_161)+agI));bif kL [true,decide (0<(↑(List.length YB):Int))] then
          some (.inl (((),(IntKind.wrap .i64 (i_159+1)),(),(),h_158),ls_169,Tj,Tk))
         else none
        else none
      else none
     else none
    else none
   else none
  else none
 else
  some (.inr (((),h_103),AE))
def Wh.ZO:(Unit×List Int)×List Int:=default
def Wh.KD (xs:List Int×List Int):Option (List Int×Unit):=
 let h_0:=xs.1;let b_1:=xs.2;c9 Md b_1 fun r_2=>
  c9 q84 () fun r_3=>
   let Kl:List Int:=[]++h_0;bif kL [decide ((0:Nat)+List.length h_0≤eV)] then
    g8 Oy ZO ((((),0,(),(),h_0),Kl,r_2.1,r_3.1)) fun y_174=>
     let h_175:=y_174.1.2;let ls_176:=y_174.2;g8 TY ZR (((0,(),h_175,()),ls_176,[])) fun y_200=>
      let FY:=y_200.2;some (FY,())
   else none
abbrev Wh.aaV:Type:=(Int×Unit×Unit)×List Int×List Int
abbrev Wh.ah5:Type:=Unit×List Int
def Wh.T0 (x:aaV):Option (aaV⊕ah5):=
 let Ep:=x.1.1;let wv:=x.2.1;let ng:=x.2.2;bif decide (Ep<8) then
  let TM:List Int:=[IntKind.wrap .u8 (Int.fdiv (List.getD wv (Int.toNat Ep) 0) (2 ^ Min.min (Int.toNat 24) (Go.IntKind.bits Go.IntKind.u32))),IntKind.wrap .u8 (Int.fdiv (List.getD wv (Int.toNat Ep) 0) (2 ^ Min.min (Int.toNat 16) (Go.IntKind.bits Go.IntKind.u32))),IntKind.wrap .u8 (Int.fdiv (List.getD wv (Int.toNat Ep) 0) (2 ^ Min.min (Int.toNat 8) (Go.IntKind.bits Go.IntKind.u32))),IntKind.wrap .u8 (List.getD wv (Int.toNat Ep) 0)];let nG:=ng++TM;bif kL [decide (List.length ng+(4:Nat)≤eV),decide (0≤Ep),decide (Ep<(↑(List.length wv):Int)),true,decide (0≤Ep),decide (Ep<(↑(List.length wv):Int)),true,decide (0≤Ep),decide (Ep<(↑(List.length wv):Int)),true,decide (0≤Ep),decide (Ep<(↑(List.length wv):Int))] then
   some (.inl (((IntKind.wrap .i64 (Ep+1)),(),()),wv,nG))
  else none
 else
  some (.inr ((),ng))
def Wh.aaW:Unit×List Int:=default
abbrev Wh.aaT:Type:=(Int×Unit×Unit)×List Int×List Int
abbrev Wh.ah4:Type:=Unit×List Int
def Wh.Mq (x:aaT):Option (aaT⊕ah4):=
 let CT:=x.1.1;let HO:=x.2.1;let NX:=x.2.2;bif decide (CT<(↑(List.length HO):Int)) then
  bn (zog KD (NX,List.take (Int.toNat (IntKind.wrap .i64 (CT+64)-CT)) (List.drop (Int.toNat CT) HO))) fun Dw=>
  let pg:=IntKind.wrap .i64 (CT+64);bif kL [qu (KD (NX,List.take (Int.toNat (pg-CT)) (List.drop (Int.toNat CT) HO))),decide (0≤CT),decide (CT≤pg),decide (pg≤(↑(List.length HO):Int))] then
   some (.inl ((pg,(),()),HO,Dw.1))
  else none
 else
  some (.inr ((),NX))
def Wh.aaU:Unit×List Int:=default
def Wh.KT (xs:List UInt8):Option (List UInt8×Unit):=
 let Bj:=xs;c9 q85 Bj fun r_1=>
  g8 Mq aaU (((0,(),()),r_1.1,[(1779033703:Int),3144134277,1013904242,2773480762,1359893119,2600822924,528734635,1541459225])) fun y_17=>
   let AI:=y_17.2;g8 T0 aaW (((0,(),()),AI,[])) fun y_48=>
    let Ar:=y_48.2;some (tv Ar,())
abbrev Wh.aaR:Type:=(Int×List UInt8×Unit)×List Int
abbrev Wh.ah3:Type:=Unit×List Int
def Wh.Mp (x:aaR):Option (aaR⊕ah3):=
 let BN:=x.1.1;let DX:=x.1.2.1;let w7:=x.2;let n5:=decide (BN<(↑(List.length DX):Int));bif n5 then
  let TF:List Int:=[(↑(UInt8.toNat (List.getD [(48:UInt8),(49:UInt8),(50:UInt8),(51:UInt8),(52:UInt8),(53:UInt8),(54:UInt8),(55:UInt8),(56:UInt8),(57:UInt8),(97:UInt8),(98:UInt8),(99:UInt8),(100:UInt8),(101:UInt8),(102:UInt8)] (Int.toNat (IntKind.wrap .u8 (Int.tdiv (↑(UInt8.toNat (List.getD DX (Int.toNat BN) (0:UInt8))):Int) 16))) (0:UInt8))):Int),(↑(UInt8.toNat (List.getD [(48:UInt8),(49:UInt8),(50:UInt8),(51:UInt8),(52:UInt8),(53:UInt8),(54:UInt8),(55:UInt8),(56:UInt8),(57:UInt8),(97:UInt8),(98:UInt8),(99:UInt8),(100:UInt8),(101:UInt8),(102:UInt8)] (Int.toNat (Int.tmod (↑(UInt8.toNat (List.getD DX (Int.toNat BN) (0:UInt8))):Int) 16)) (0:UInt8))):Int)];let AI:=w7++TF;let s9:Int:=(↑(UInt8.toNat (List.getD DX (Int.toNat BN) (0:UInt8))):Int);bif kL [decide (List.length w7+(2:Nat)≤eV),decide (0≤Int.tmod s9 16),decide (Int.tmod s9 16<(↑(16:Nat):Int)),true,decide (0≤BN),n5,decide (0≤IntKind.wrap .u8 (Int.tdiv s9 16)),decide (IntKind.wrap .u8 (Int.tdiv s9 16)<(↑(16:Nat):Int)),true,decide (0≤BN),n5] then
   some (.inl (((IntKind.wrap .i64 (BN+1)),DX,()),AI))
  else none
 else
  some (.inr ((),w7))
def Wh.aaS:Unit×List Int:=default
def Wh.Il (xs:List UInt8):Option (List UInt8×Unit):=
 let cx:=xs;g8 Mp aaS (((0,cx,()),[])) fun JR=>
  let Bl:=JR.2;some (tv Bl,())
def Wh.q93 (xs:List UInt8):Option (List UInt8×Unit):=
 let Bj:=xs;bn (zog KT Bj) fun r_1=>
 bn (zog Il r_1.1) fun r_3=>
 bif kL [qu (Il r_1.1),qu (KT Bj)] then
  some (r_3.1,())
 else none
def Wh.Ig (xs:Int×List UInt8):Option (List UInt8×Unit):=
 let Dt:=xs.1;let C4:=xs.2;bn (zog As Dt) fun r_2=>
 bn (zog As (↑(List.length C4):Int)) fun dz=>
 let J2:=r_2.1 ++ [(32:UInt8)]++dz.1 ++ [(32:UInt8)];bif kL [decide (List.length (r_2.1 ++ [(32:UInt8)]++dz.1)+(1:Nat)≤eV),decide (List.length (r_2.1 ++ [(32:UInt8)])+List.length dz.1≤eV),qu (As (↑(List.length C4):Int)),decide (List.length r_2.1+(1:Nat)≤eV),qu (As Dt)] then
  let FG:List UInt8:=J2++C4;bn (zog q93 FG) fun CL=>
  let A5:List UInt8:=J2++List.take (Int.toNat ((16:Int)-0)) (List.drop (Int.toNat 0) CL.1) ++ [(32:UInt8)]++C4 ++ [(10:UInt8)];bif kL [decide (List.length (J2++List.take (Int.toNat ((16:Int)-0)) (List.drop (Int.toNat 0) (CL.1)) ++ [(32:UInt8)]++C4)+(1:Nat)≤eV),decide (List.length (J2++List.take (Int.toNat ((16:Int)-0)) (List.drop (Int.toNat 0) (CL.1)) ++ [(32:UInt8)])+List.length C4≤eV),decide (List.length (J2++List.take (Int.toNat ((16:Int)-0)) (List.drop (Int.toNat 0) (CL.1)))+(1:Nat)≤eV),decide (List.length J2+List.length (List.take (Int.toNat ((16:Int)-0)) (List.drop (Int.toNat 0) (CL.1)))≤eV),true,true,decide (16≤(↑(List.length (CL.1)):Int)),qu (q93 FG),decide (List.length J2+List.length C4≤eV)] then
   some (A5,())
  else none
 else none
def Wh.Js (xs:List UInt8×Int×Int):Option ((List UInt8×Int)×Unit):=
 let Ba:=xs.1;let C_:=xs.2.1;let Tt:=xs.2.2;c9 Cz (Ba,C_,32) fun r_3=>
  let AP:=decide (r_3.1<0);bn (zog AD (List.take (Int.toNat (r_3.1-C_)) (List.drop (Int.toNat C_) Ba))) fun gT=>
  let n4:=bif AP then true else gT.1 != Tt;bif kL [!!AP || qu (AD (List.take (Int.toNat (r_3.1-C_)) (List.drop (Int.toNat C_) Ba))),!!AP || decide (0≤C_),!!AP || decide (C_≤r_3.1),!!AP || decide (r_3.1≤(↑(List.length Ba):Int))] then
   bif n4 then
    some (([],0),())
   else
    let n_:=IntKind.wrap .i64 (r_3.1+1);c9 Cz (Ba,n_,32) fun z4=>
     bif decide (z4.1<0) then
      some (([],0),())
     else
      bn (zog AD (List.take (Int.toNat (z4.1-n_)) (List.drop (Int.toNat n_) Ba))) fun Dw=>
      bif kL [qu (AD (List.take (Int.toNat (z4.1-n_)) (List.drop (Int.toNat n_) Ba))),decide (0≤n_),decide (n_≤z4.1),decide (z4.1≤(↑(List.length Ba):Int))] then
       let pg:=IntKind.wrap .i64 (z4.1+18);bn (zog gh (Dw.1,1,500)) fun Ei=>
       let n5:=bif !Ei.1 then true else decide (IntKind.wrap .i64 (IntKind.wrap .i64 (pg+Dw.1)+1)>(↑(List.length Ba):Int));bif kL [qu (gh (Dw.1,1,500))] then
        bif n5 then
         some (([],0),())
        else
         let Av:=IntKind.wrap .i64 (pg+Dw.1);bn (zog Ig (Tt,List.take (Int.toNat (Av-pg)) (List.drop (Int.toNat pg) Ba))) fun CL=>
         bif kL [qu (Ig (Tt,List.take (Int.toNat (Av-pg)) (List.drop (Int.toNat pg) Ba))),decide (0≤pg),decide (pg≤Av),decide (Av≤(↑(List.length Ba):Int))] then
          bif kL [decide (0≤C_),decide (C_≤IntKind.wrap .i64 (Av+1)),decide (IntKind.wrap .i64 (Av+1)≤(↑(List.length Ba):Int))] then
           bif(!List.take (Int.toNat (IntKind.wrap .i64 (Av+1)-C_)) (List.drop (Int.toNat C_) Ba)==CL.1) then
            some (([],0),())
           else
            let Gu:Int:=(↑(List.length CL.1):Int);let w9:List UInt8:=List.take (Int.toNat (Av-pg)) (List.drop (Int.toNat pg) Ba);bif kL [decide (0≤pg),decide (pg≤Av),decide (Av≤(↑(List.length Ba):Int))] then
             some ((w9,Gu),())
            else none
          else none
         else none
       else none
      else none
  else none
abbrev Wh.aaz:Type:=(Int×Unit×List UInt8)×List (List UInt8)
abbrev Wh.ahU:Type:=(Unit×Int)×List (List UInt8)
def Wh.Mm (x:aaz):Option (aaz⊕ahU):=
 let RZ:=x.1.1;let Yp:=x.1.2.2;let Bb:=x.2;let iL:Int:=(↑(List.length Bb):Int);c9 Js (Yp,RZ,iL) fun EI=>
  bif(EI.1.2==0) then
   some (.inr (((),RZ),Bb))
  else
   let EY:List (List UInt8):=[EI.1.1];let Bq:List (List UInt8):=Bb++EY;bif kL [decide (List.length Bb+(1:Nat)≤eV)] then
    some (.inl (((IntKind.wrap .i64 (RZ+EI.1.2)),(),Yp),Bq))
   else none
def Wh.aaA:(Unit×Int)×List (List UInt8):=default
def Wh.Fu (xs:List UInt8):Option ((List (List UInt8)×Int)×Unit):=
 let Ba:=xs;g8 Mm aaA (((0,(),Ba),[])) fun Lv=>
  let B8:=Lv.1.2;let AR:=Lv.2;some ((AR,B8),())
def Wh.Hf (xs:an.D):Option (Bool×Unit):=
 let t_0:an.D:=xs;bn (zog gh (t_0.1,0,1)) fun r_1=>
 bn (zog DU t_0.2.1) fun r_2=>
 bn (zog gh ((↑(List.length (t_0.2.2.2.1)):Int),1,300)) fun gT=>
 let n_:=bif bif r_1.1 then r_2.1 else false then gT.1 else false;bif kL [(!bif r_1.1 then r_2.1 else false) || qu (gh ((↑(List.length (t_0.2.2.2.1)):Int),1,300)),!r_1.1 || qu (DU t_0.2.1),qu (gh (t_0.1,0,1))] then
  some (n_,())
 else none
def Wh.E4 (xs:Int×List UInt8×List UInt8):Option (List UInt8×Unit):=
 let LL:=xs.1;let Ec:=xs.2.1;let M0:=xs.2.2;let AO:=M0 == [];bif AO then
  c9 Hf (LL,Ec,0,[(120:UInt8)],()) fun dz=>
   bif !dz.1 then
    some ([],())
   else
    bn (zog As LL) fun gT=>
    let BW:=gT.1 ++ [(32:UInt8)]++Ec ++ [(58:UInt8)]++M0;bif kL [decide (List.length (gT.1 ++ [(32:UInt8)]++Ec ++ [(58:UInt8)])+List.length M0≤eV),decide (List.length (gT.1 ++ [(32:UInt8)]++Ec)+(1:Nat)≤eV),decide (List.length (gT.1 ++ [(32:UInt8)])+List.length Ec≤eV),decide (List.length gT.1+(1:Nat)≤eV),qu (As LL)] then
     some (BW,())
    else none
 else
  c9 Hf (LL,Ec,0,M0,()) fun BU=>
   bif !BU.1 then
    some ([],())
   else
    bn (zog As LL) fun BJ=>
    let Av:=BJ.1 ++ [(32:UInt8)]++Ec ++ [(58:UInt8)]++M0;bif kL [decide (List.length (BJ.1 ++ [(32:UInt8)]++Ec ++ [(58:UInt8)])+List.length M0≤eV),decide (List.length (BJ.1 ++ [(32:UInt8)]++Ec)+(1:Nat)≤eV),decide (List.length (BJ.1 ++ [(32:UInt8)])+List.length Ec≤eV),decide (List.length BJ.1+(1:Nat)≤eV),qu (As LL)] then
     some (Av,())
    else none
def Wh.Jt (xs:an.D×Int×List UInt8):Option (Bool×Unit):=
 let se:=xs.1;let A6:=xs.2.1;let Dc:=xs.2.2;let nP:=bif decide (se.1<A6) then true else bif se.1==A6 then Go.Op.bytesLess se.2.1 Dc else false;some (nP,())
abbrev Wh.ZY:Type:=(Int×List an.D×Int×Int)×Unit
abbrev Wh.ahC:Type:=Int×Unit
def Wh.KE (x:ZY):Option (ZY⊕ahC):=
 let Ay:=x.1.1;let Qd:=x.1.2.1;let n_17:=x.1.2.2.1;let SS:=x.1.2.2.2;let s9:Int:=(↑(List.length Qd):Int);bif decide (Ay<s9) then
  let A5:an.D:=List.getD Qd (Int.toNat Ay) (0,[],0,[],());bif kL [decide (0≤Ay),decide (Ay<s9)] then
   bif(A5.1==SS) then
    bif kL [decide (0≤Ay),decide (Ay<s9)] then
     some (.inl (((IntKind.wrap .i64 (Ay+1)),Qd,(IntKind.wrap .i64 (n_17+(↑(List.length (A5.2.2.2.1)):Int))),SS),()))
    else none
   else
    some (.inl (((IntKind.wrap .i64 (Ay+1)),Qd,n_17,SS),()))
  else none
 else
  some (.inr (n_17,()))
def Wh.ZZ:Int×Unit:=default
def Wh.Jk (xs:List an.D×Int):Option (Int×Unit):=
 let J5:=xs.1;let A6:=xs.2;g8 KE ZZ (((0,J5,0,A6),())) fun C6=>
  let n_30:=C6.1;some (n_30,())
abbrev Wh.aaJ:Type:=(Int×Unit)×g9.D
abbrev Wh.ahZ:Type:=Bool×Unit⊕Unit×Unit
def Wh.OD (x:aaJ):Option (aaJ⊕ahZ):=
 let h_66:=x.1.1;let BH:=x.2;bif decide (h_66<2) then
  c9 Jk (BH.2.1,h_66) fun r_69=>
   bif decide (r_69.1>500) then
    some (.inr (.inl (false,())))
   else
    some (.inl (((IntKind.wrap .i64 (h_66+1)),()),BH))
 else
  some (.inr (.inr ((),())))
def Wh.aaK:Bool×Unit⊕Unit×Unit:=.inl default
abbrev Wh.aaH:Type:=(Int×Unit×Unit×Int)×an.D×g9.D
abbrev Wh.ahY:Type:=Bool×Unit⊕(Unit×Int)×g9.D
def Wh.Mo (x:aaH):Option (aaH⊕ahY):=
 let NS:=x.1.1;let i_23:=x.1.2.2.2;let Bc:=x.2.1;let AY:=x.2.2;bif decide (NS<i_23) then
  let Dy:an.D:=List.getD AY.2.1 (Int.toNat NS) (0,[],0,[],());bif kL [decide (0≤NS),decide (NS<(↑(List.length AY.2.1):Int))] then
   bif(Dy.2.2.1==Bc.2.2.1) then
    some (.inr (.inl (false,())))
   else
    some (.inl (((IntKind.wrap .i64 (NS+1)),(),(),i_23),Bc,AY))
  else none
 else
  some (.inr (.inr (((),i_23),AY)))
def Wh.aaI:Bool×Unit⊕(Unit×Int)×g9.D:=.inl default
abbrev Wh.aaF:Type:=(Unit×Int)×g9.D
abbrev Wh.ahX:Type:=Bool×Unit⊕Unit×g9.D
def Wh.KO (x:aaF):Option (aaF⊕ahX):=
 let Dk:=x.1.2;let nG:=x.2;let EM:Int:=(↑(List.length nG.2.1):Int);bif decide (Dk<EM) then
  let HZ:an.D:=List.getD nG.2.1 (Int.toNat Dk) (0,[],0,[],());bif kL [decide (0≤Dk),decide (Dk<EM)] then
   bn (zog Hf HZ) fun OM=>
   bn (zog gh (HZ.2.2.1,1,nG.1)) fun EJ=>
   bn (zog Jt (List.getD nG.2.1 (Int.toNat (IntKind.wrap .i64 (Dk-1))) (0,[],0,[],()),HZ.1,HZ.2.1)) fun ON=>
   let v_47:=bif bif !OM.1 then true else !EJ.1 then true else bif decide (Dk>0) then !ON.1 else false;bif kL [!(decide (Dk>0) && !bif !OM.1 then true else !EJ.1) || qu (Jt (List.getD nG.2.1 (Int.toNat (IntKind.wrap .i64 (Dk-1))) (0,[],0,[],()),HZ.1,HZ.2.1)),!(decide (Dk>0) && !bif !OM.1 then true else !EJ.1) || decide (0≤IntKind.wrap .i64 (Dk-1)),!(decide (Dk>0) && !bif !OM.1 then true else !EJ.1) || decide (IntKind.wrap .i64 (Dk-1)<EM),!!!OM.1 || qu (gh (HZ.2.2.1,1,nG.1)),qu (Hf HZ)] then
    bif v_47 then
     some (.inr (.inl (false,())))
    else
     g8 Mo aaI (((0,(),(),Dk),HZ,nG)) fun q_=>
      sumC q_ (fun Ng=>
       let B9:=Ng.1;some (.inr (.inl (B9,())))) (fun z_50=>
       let i_52:=z_50.1.2;let AB:=z_50.2;some (.inl (((),(IntKind.wrap .i64 (i_52+1))),AB)))
   else none
  else none
 else
  some (.inr (.inr ((),nG)))
def Wh.aaG:Bool×Unit⊕Unit×g9.D:=.inl default
def Wh.Ij (xs:g9.D):Option (Bool×Unit):=
 let b8:g9.D:=xs;bn (zog gh (b8.1,0,99999)) fun r_1=>
 let v_2:=bif !r_1.1 then true else decide ((↑(List.length b8.2.1):Int)>8);bif kL [qu (gh (b8.1,0,99999))] then
  bif v_2 then
   some (false,())
  else
   g8 KO aaG ((((),0),b8)) fun q_=>
    sumC q_ (fun FH=>
     let M6:=FH.1;some (M6,())) (fun z_57=>
     let Ce:=z_57.2;g8 OD aaK (((0,()),Ce)) fun q_=>
      sumC q_ (fun Pm=>
       let RJ:=Pm.1;some (RJ,())) (fun _=>
       some (true,())))
 else none
abbrev Wh.abo:Type:=(Int×List UInt8×Unit×Int)×g9.D
abbrev Wh.aik:Type:=Int×Unit⊕Unit×Unit
def Wh.K0 (x:abo):Option (abo⊕aik):=
 let z9:=x.1.1;let YV:=x.1.2.1;let PZ:=x.1.2.2.2;let s_:=x.2;let v5:Int:=(↑(List.length s_.2.1):Int);bif decide (z9<v5) then
  let iL:an.D:=List.getD s_.2.1 (Int.toNat z9) (0,[],0,[],());let nE:=bif iL.1==PZ then iL.2.1==YV else false;bif kL [!iL.1==PZ || decide (0≤z9),!iL.1==PZ || decide (z9<v5),decide (0≤z9),decide (z9<v5)] then
   bif nE then
    some (.inr (.inl (z9,())))
   else
    some (.inl (((IntKind.wrap .i64 (z9+1)),YV,(),PZ),s_))
  else none
 else
  some (.inr (.inr ((),())))
def Wh.abp:Int×Unit⊕Unit×Unit:=.inl default
def Wh.Ge (xs:g9.D×Int×List UInt8):Option (Int×Unit):=
 let b8:=xs.1;let A6:=xs.2.1;let Dc:=xs.2.2;g8 K0 abp (((0,Dc,(),A6),b8)) fun q_=>
  sumC q_ (fun JR=>
   let v9:=JR.1;some (v9,())) (fun _=>
   some (-1,()))
def Wh.Mn (xs:g9.D×Int):Option ((Int×List an.D×Unit)×Unit):=
 let b8:=xs.1;let k_1:=xs.2;let BI:List (an.D):=[]++List.take (Int.toNat (k_1-0)) (List.drop (Int.toNat 0) b8.2.1);let Du:List (an.D):=BI++List.take (Int.toNat ((↑(List.length b8.2.1):Int)-IntKind.wrap .i64 (k_1+1))) (List.drop (Int.toNat (IntKind.wrap .i64 (k_1+1))) b8.2.1);let AP:List (an.D):=List.take (Int.toNat (k_1-0)) (List.drop (Int.toNat 0) b8.2.1);let nP:=IntKind.wrap .i64 (k_1+1);bif kL [decide (List.length BI+List.length (List.take (Int.toNat ((↑(List.length b8.2.1):Int)-nP)) (List.drop (Int.toNat nP) b8.2.1))≤eV),decide (0≤nP),decide (nP≤(↑(List.length b8.2.1):Int)),decide ((↑(List.length b8.2.1):Int)≤(↑(List.length b8.2.1):Int)),decide ((0:Nat)+List.length AP≤eV),true,decide (0≤k_1),decide (k_1≤(↑(List.length b8.2.1):Int))] then
  some ((b8.1,Du,()),())
 else none
def Wh.Iu (xs:g9.D×Int×List UInt8):Option (((Int×List an.D×Unit)×Int)×Unit):=
 let b8:=xs.1;let A6:=xs.2.1;let Dc:=xs.2.2;c9 Ij b8 fun r_3=>
  bif !r_3.1 then
   some (((0,[],()),1),())
  else
   c9 Ge (b8,A6,Dc) fun dz=>
    bif decide (dz.1<0) then
     c9 G9 b8 fun ov=>
      some ((ov.1,3),())
    else
     c9 Mn (b8,dz.1) fun AG=>
      some ((AG.1,0),())
abbrev Wh.abk:Type:=(Int×Unit×Unit×Unit)×(Int×Unit×Unit)×g9.D×an.D×List an.D
abbrev Wh.aii:Type:=(Unit×Int×Unit×Unit)×(Int×Unit×Unit)×g9.D×an.D×List an.D
def Wh.KZ (x:abk):Option (abk⊕aii):=
 let GL:=x.1.1;let w7:=x.2.1.1;let Ey:=x.2.1.2.2;let s_:=x.2.2.1;let AI:=x.2.2.2.1;let Bb:=x.2.2.2.2;let iL:Int:=(↑(List.length s_.2.1):Int);bn (zog Jt (List.getD s_.2.1 (Int.toNat GL) (0,[],0,[],()),AI.1,AI.2.1)) fun Gp=>
 let AW:=bif decide (GL<iL) then Gp.1 else false;bif kL [!decide (GL<iL) || qu (Jt (List.getD s_.2.1 (Int.toNat GL) (0,[],0,[],()),AI.1,AI.2.1)),!decide (GL<iL) || decide (0≤GL),!decide (GL<iL) || decide (GL<iL)] then
  bif AW then
   some (.inl (((IntKind.wrap .i64 (GL+1)),(),(),()),(w7,(),Ey),s_,AI,Bb))
  else
   some (.inr (((),GL,(),()),(w7,(),Ey),s_,AI,Bb))
 else none
def Wh.abl:(Unit×Int×Unit×Unit)×(Int×Unit×Unit)×g9.D×an.D×List an.D:=default
def Wh.Mx (xs:g9.D×an.D):Option ((Int×List an.D×Unit)×Unit):=
 let b8:=xs.1;let t_1:=xs.2;g8 KZ abl (((0,(),(),()),(0,(),()),b8,t_1,[])) fun Fa=>
  let GN:=Fa.1.2.1;let Bq:=Fa.2.2.1;let AJ:=Fa.2.2.2.1;let Qz:=IntKind.wrap .i64 (Bq.1+1);let On:List (an.D):=[]++List.take (Int.toNat (GN-0)) (List.drop (Int.toNat 0) Bq.2.1);let pb_36:List (an.D):=[(AJ.1,AJ.2.1,Qz,AJ.2.2.2)];let pb_38:List (an.D):=On++pb_36++List.take (Int.toNat ((↑(List.length Bq.2.1):Int)-GN)) (List.drop (Int.toNat GN) Bq.2.1);let EM:List (an.D):=List.take (Int.toNat (GN-0)) (List.drop (Int.toNat 0) Bq.2.1);let FE:List (an.D):=List.take (Int.toNat ((↑(List.length Bq.2.1):Int)-GN)) (List.drop (Int.toNat GN) Bq.2.1);bif kL [decide (List.length (On++pb_36)+List.length FE≤eV),decide (0≤GN),decide (GN≤(↑(List.length Bq.2.1):Int)),decide ((↑(List.length Bq.2.1):Int)≤(↑(List.length Bq.2.1):Int)),decide (List.length On+(1:Nat)≤eV),decide ((0:Nat)+List.length EM≤eV),true,decide (0≤GN),decide (GN≤(↑(List.length Bq.2.1):Int))] then
   some ((Qz,pb_38,()),())
  else none
def Wh.F6 (xs:g9.D×Int×List UInt8×List UInt8):Option (((Int×List an.D×Unit)×Int)×Unit):=
 let b8:=xs.1;let A6:=xs.2.1;let Dc:=xs.2.2.1;let Li:=xs.2.2.2;c9 Ij b8 fun dz=>
  bif !dz.1 then
   some (((0,[],()),1),())
  else
   c9 Hf (A6,Dc,0,Li,()) fun gT=>
    bif !gT.1 then
     c9 G9 b8 fun ov=>
      some ((ov.1,1),())
    else
     c9 Ge (b8,A6,Dc) fun AG=>
      bif decide (AG.1≥0) then
       c9 G9 b8 fun By=>
        some ((By.1,2),())
      else
       let B6:Int:=(↑(List.length b8.2.1):Int);bn (zog Jk (b8.2.1,A6)) fun Fz=>
       let v5:=bif bif decide (B6≥8) then true else decide (b8.1≥99999) then true else decide (IntKind.wrap .i64 (Fz.1+(↑(List.length Li):Int))>500);bif kL [(!!bif decide (B6≥8) then true else decide (b8.1≥99999)) || qu (Jk (b8.2.1,A6))] then
        bif v5 then
         c9 G9 b8 fun Hi=>
          some ((Hi.1,4),())
        else
         c9 Mx (b8,A6,Dc,0,Li,()) fun CL=>
          some ((CL.1,0),())
       else none
def Wh.F9 (xs:g9.D×List UInt8):Option (((Int×List an.D×Unit)×Bool)×Unit):=
 let b8:=xs.1;let s_1:=xs.2;c9 Cz (s_1,0,58) fun r_2=>
  bif decide (r_2.1<0) then
   some (((0,[],()),false),())
  else
   bn (zog DH (List.take (Int.toNat (r_2.1-0)) (List.drop (Int.toNat 0) s_1),32)) fun dz=>
   let nP:List UInt8:=List.take (Int.toNat (r_2.1-0)) (List.drop (Int.toNat 0) s_1);bif kL [qu (DH (nP,32)),true,decide (0≤r_2.1),decide (r_2.1≤(↑(List.length s_1):Int))] then
    let n4:=IntKind.wrap .i64 (r_2.1+1);let M1:List UInt8:=List.take (Int.toNat ((↑(List.length s_1):Int)-n4)) (List.drop (Int.toNat n4) s_1);bif kL [decide (0≤n4),decide (n4≤(↑(List.length s_1):Int)),decide ((↑(List.length s_1):Int)≤(↑(List.length s_1):Int))] then
     let A9:Int:=(↑(List.length dz.1):Int);bn (zog AD (List.getD dz.1 (Int.toNat 0) [])) fun BJ=>
     bn (zog E4 (BJ.1,List.getD dz.1 (Int.toNat 1) [],M1)) fun Dw=>
     let pg:=bif A9 != 2 then true else !Dw.1==s_1;bif kL [!!A9 != 2 || qu (E4 (BJ.1,List.getD dz.1 (Int.toNat 1) [],M1)),!!A9 != 2 || decide ((0:Int)≤1),!!A9 != 2 || decide (1<A9),!!A9 != 2 || qu (AD (List.getD dz.1 (Int.toNat 0) [])),!!A9 != 2 || decide ((0:Int)≤0),!!A9 != 2 || decide (0<A9)] then
      bif pg then
       some (((0,[],()),false),())
      else
       let BA:=M1 == [];bif BA then
        bn (zog Iu (b8,BJ.1,List.getD dz.1 (Int.toNat 1) [])) fun Fz=>
        let s9:=List.getD dz.1 (Int.toNat 0) [];let iL:=List.getD dz.1 (Int.toNat 1) [];bn (zog Iu (b8,BJ.1,iL)) fun r_30=>
        bif kL [qu (Iu (b8,BJ.1,iL)),true,decide (1<A9),qu (AD s9),true,decide (0<A9)] then
         some (((Fz.1.1.1,Fz.1.1.2.1,Fz.1.1.2.2),(r_30.1.2==0)),())
        else none
       else
        bn (zog F6 (b8,BJ.1,List.getD dz.1 (Int.toNat 1) [],M1)) fun C0=>
        let B8:=List.getD dz.1 (Int.toNat 0) [];let C5:=List.getD dz.1 (Int.toNat 1) [];bn (zog F6 (b8,BJ.1,C5,M1)) fun ON=>
        bif kL [qu (F6 (b8,BJ.1,C5,M1)),true,decide (1<A9),qu (AD B8),true,decide (0<A9)] then
         some (((C0.1.1.1,C0.1.1.2.1,C0.1.1.2.2),(ON.1.2==0)),())
        else none
     else none
    else none
   else none
abbrev Wh.aaD:Type:=(Unit×Int×Unit×List (List UInt8))×(Int×Unit×Unit)×(Int×Unit×Unit)×List an.D×List an.D
abbrev Wh.ahW:Type:=(Unit×Bool)×(Int×Unit×Unit)×List an.D⊕(Unit×Unit)×(Int×Unit×Unit)×(Int×Unit×Unit)×List an.D×List an.D
def Wh.KN (x:aaD):Option (aaD⊕ahW):=
 let Ay:=x.1.2.1;let Rh:=x.1.2.2.2;let s_:=x.2.1.1;let AI:=x.2.1.2.2;let Bb:=x.2.2.1.1;let CH:=x.2.2.1.2.2;let CJ:=x.2.2.2.1;let we:=x.2.2.2.2;let nE:Int:=(↑(List.length Rh):Int);bif decide (Ay<nE) then
  bn (zog F9 ((Bb,we,CH),List.getD Rh (Int.toNat Ay) [])) fun CA=>
  let w9:=List.getD Rh (Int.toNat Ay) [];bif kL [qu (F9 ((Bb,we,CH),w9)),decide (0≤Ay),decide (Ay<nE)] then
   bif(!CA.1.2) then
    some (.inr (.inl (((),false),(0,(),()),[])))
   else
    some (.inl (((),(IntKind.wrap .i64 (Ay+1)),(),Rh),(s_,(),AI),(CA.1.1.1,(),CA.1.1.2.2),CJ,CA.1.1.2.1))
  else none
 else
  some (.inr (.inr (((),()),(s_,(),AI),(Bb,(),CH),CJ,we)))
def Wh.aaE:(Unit×Bool)×(Int×Unit×Unit)×List an.D⊕(Unit×Unit)×(Int×Unit×Unit)×(Int×Unit×Unit)×List an.D×List an.D:=.inl default
def Wh.Jv (xs:List (List UInt8)):Option (((Int×List an.D×Unit)×Bool)×Unit):=
 let ai_:List (List UInt8):=xs;g8 KN aaE ((((),0,(),ai_),(0,(),()),(0,(),()),[],[])) fun q_=>
  sumC q_ (fun Nc=>
   let Gw:=Nc.1.2;let Bg:=Nc.2.1.1;let wv:=Nc.2.1.2.2;let ng:=Nc.2.2;some (((Bg,ng,wv),Gw),())) (fun z_31=>
   let nG:=z_31.2.2.1.1;let AZ:=z_31.2.2.1.2.2;let Az:=z_31.2.2.2.2;some (((nG,Az,AZ),true),()))
def Wh.Ku (xs:b7.D):Option (Bool×Unit):=
 let cx:b7.D:=xs;c9 Fu (cx.2.2.1) fun r_1=>
  c9 Jv r_1.1.1 fun r_2=>
   some (r_2.1.2,())
abbrev Wh.Zz:Type:=(Int×Unit×Unit)×g9.D×g9.D
abbrev Wh.ahp:Type:=Bool×Unit⊕Unit×Unit
def Wh.Kr (x:Zz):Option (Zz⊕ahp):=
 let BN:=x.1.1;let D8:=x.2.1;let w7:=x.2.2;let n5:Int:=(↑(List.length w7.2.1):Int);bif decide (BN<n5) then
  let v5:an.D:=List.getD w7.2.1 (Int.toNat BN) (0,[],0,[],());let s9:an.D:=List.getD D8.2.1 (Int.toNat BN) (0,[],0,[],());bif kL [decide (0≤BN),decide (BN<(↑(List.length D8.2.1):Int)),decide (0≤BN),decide (BN<n5)] then
   bif(!(v5.1==s9.1&&(v5.2.1==s9.2.1&&(v5.2.2.1==s9.2.2.1&&(v5.2.2.2.1==s9.2.2.2.1&&true))))) then
    some (.inr (.inl (false,())))
   else
    some (.inl (((IntKind.wrap .i64 (BN+1)),(),()),D8,w7))
  else none
 else
  some (.inr (.inr ((),())))
def Wh.ZA:Bool×Unit⊕Unit×Unit:=.inl default
def Wh.H8 (xs:g9.D×g9.D):Option (Bool×Unit):=
 let se:=xs.1;let b_1:=xs.2;let AO:=bif(se.1 != b_1.1) then true else(↑(List.length se.2.1):Int) != (↑(List.length b_1.2.1):Int);bif AO then
  some (false,())
 else
  g8 Kr ZA (((0,(),()),b_1,se)) fun q_=>
   sumC q_ (fun Ht=>
    let Gu:=Ht.1;some (Gu,())) (fun _=>
    some (true,()))
def Wh.Jx (xs:b9.D):Option (Bool×Unit):=
 let En:b9.D:=xs;bif(En.2.1==0) then
  some ((En.1==0&&(En.2.1==0&&(En.2.2.1==0&&(En.2.2.2.1==0&&(En.2.2.2.2.1==false&&true))))),())
 else
  bn (zog gh (En.1,0,1)) fun r_3=>
  bn (zog gh (En.2.1,1,99999)) fun dz=>
  bn (zog gh (En.2.2.1,0,23)) fun AG=>
  bn (zog gh (En.2.2.2.1,0,99999)) fun By=>
  let AN:=bif bif bif r_3.1 then dz.1 else false then AG.1 else false then By.1 else false;bif kL [(!bif bif r_3.1 then dz.1 else false then AG.1 else false) || qu (gh (En.2.2.2.1,0,99999)),(!bif r_3.1 then dz.1 else false) || qu (gh (En.2.2.1,0,23)),!r_3.1 || qu (gh (En.2.1,1,99999)),qu (gh (En.1,0,1))] then
   some (AN,())
  else none
abbrev Wh.aaN:Type:=(Int×Int×Int×Unit)×mb.D
abbrev Wh.ah1:Type:=Int×Unit
def Wh.KR (x:aaN):Option (aaN⊕ah1):=
 let Ay:=x.1.1;let n_16:=x.1.2.1;let SR:=x.1.2.2.1;let AI:=x.2;let s9:Int:=(↑(List.length AI.1):Int);bif decide (Ay<s9) then
  let A5:b9.D:=List.getD AI.1 (Int.toNat Ay) (0,0,0,0,false,());let AW:=bif decide (A5.2.1>0) then A5.1==SR else false;bif kL [!decide (A5.2.1>0) || decide (0≤Ay),!decide (A5.2.1>0) || decide (Ay<s9),decide (0≤Ay),decide (Ay<s9)] then
   bif AW then
    some (.inl (((IntKind.wrap .i64 (Ay+1)),(IntKind.wrap .i64 (n_16+1)),SR,()),AI))
   else
    some (.inl (((IntKind.wrap .i64 (Ay+1)),n_16,SR,()),AI))
  else none
 else
  some (.inr (n_16,()))
def Wh.aaO:Int×Unit:=default
def Wh.KQ (xs:mb.D×Int):Option (Int×Unit):=
 let fy:=xs.1;let A6:=xs.2;g8 KR aaO (((0,0,A6,()),fy)) fun C6=>
  let n_30:=C6.1;some (n_30,())
abbrev Wh.aah:Type:=(Int×Unit)×mb.D
abbrev Wh.ahL:Type:=Bool×Unit⊕Unit×Unit
def Wh.Jn (x:aah):Option (aah⊕ahL):=
 let h_67:=x.1.1;let Cv:=x.2;bif decide (h_67<2) then
  c9 KQ (Cv,h_67) fun r_70=>
   bif decide (r_70.1>5) then
    some (.inr (.inl (false,())))
   else
    some (.inl (((IntKind.wrap .i64 (h_67+1)),()),Cv))
 else
  some (.inr (.inr ((),())))
def Wh.aai:Bool×Unit⊕Unit×Unit:=.inl default
abbrev Wh.aaf:Type:=(Int×Unit×Int)×mb.D
abbrev Wh.ahK:Type:=Bool×Unit⊕(Unit×Int)×mb.D
def Wh.Ft (x:aaf):Option (aaf⊕ahK):=
 let Fl:=x.1.1;let Bf:=x.1.2.2;let BB:=x.2;bif decide (Fl<Bf) then
  let v9:b9.D:=List.getD BB.1 (Int.toNat Bf) (0,0,0,0,false,());let BX:=bif bif decide (v9.2.1>0) then v9.2.1==((List.getD BB.1 (Int.toNat Fl) (0,0,0,0,false,())).2).1 else false then v9.2.2.1==(((List.getD BB.1 (Int.toNat Fl) (0,0,0,0,false,())).2).2).1 else false;bif kL [(!bif decide (v9.2.1>0) then v9.2.1==((List.getD BB.1 (Int.toNat Fl) (0,0,0,0,false,())).2).1 else false) || decide (0≤Fl),(!bif decide (v9.2.1>0) then v9.2.1==((List.getD BB.1 (Int.toNat Fl) (0,0,0,0,false,())).2).1 else false) || decide (Fl<(↑(List.length BB.1):Int)),(!bif decide (v9.2.1>0) then v9.2.1==((List.getD BB.1 (Int.toNat Fl) (0,0,0,0,false,())).2).1 else false) || decide (0≤Bf),(!bif decide (v9.2.1>0) then v9.2.1==((List.getD BB.1 (Int.toNat Fl) (0,0,0,0,false,())).2).1 else false) || decide (Bf<(↑(List.length BB.1):Int)),!decide (v9.2.1>0) || decide (0≤Fl),!decide (v9.2.1>0) || decide (Fl<(↑(List.length BB.1):Int)),!decide (v9.2.1>0) || decide (0≤Bf),!decide (v9.2.1>0) || decide (Bf<(↑(List.length BB.1):Int)),decide (0≤Bf),decide (Bf<(↑(List.length BB.1):Int))] then
   bif BX then
    some (.inr (.inl (false,())))
   else
    some (.inl (((IntKind.wrap .i64 (Fl+1)),(),Bf),BB))
  else none
 else
  some (.inr (.inr (((),Bf),BB)))
def Wh.aag:Bool×Unit⊕(Unit×Int)×mb.D:=.inl default
abbrev Wh.aad:Type:=(Unit×Int)×mb.D
abbrev Wh.ahJ:Type:=Bool×Unit⊕Unit×mb.D
def Wh.Jm (x:aad):Option (aad⊕ahJ):=
 let NQ:=x.1.2;let nI:=x.2;let Hs:Int:=(↑(List.length nI.1):Int);bif decide (NQ<Hs) then
  let Ln:b9.D:=List.getD nI.1 (Int.toNat NQ) (0,0,0,0,false,());bn (zog Jx Ln) fun r_48=>
  bif kL [qu (Jx Ln),decide (0≤NQ),decide (NQ<Hs)] then
   bif !r_48.1 then
    some (.inr (.inl (false,())))
   else
    g8 Ft aag (((0,(),NQ),nI)) fun q_=>
     sumC q_ (fun y_50=>
      let RG:=y_50.1;some (.inr (.inl (RG,())))) (fun z_51=>
      let i_53:=z_51.1.2;let A2:=z_51.2;some (.inl (((),(IntKind.wrap .i64 (i_53+1))),A2)))
  else none
 else
  some (.inr (.inr ((),nI)))
def Wh.aae:Bool×Unit⊕Unit×mb.D:=.inl default
def Wh.H_ (xs:mb.D):Option (Bool×Unit):=
 let fy:mb.D:=xs;let v_1:Int:=(↑(List.length fy.1):Int);bn (zog gh (fy.2.1,0,7)) fun dz=>
 let nP:=bif v_1 != 8 then true else !dz.1;bif kL [!!v_1 != 8 || qu (gh (fy.2.1,0,7))] then
  bif nP then
   some (false,())
  else
   g8 Jm aae ((((),0),fy)) fun q_=>
    sumC q_ (fun y_57=>
     let O9:=y_57.1;some (O9,())) (fun z_58=>
     let Bh:=z_58.2;g8 Jn aai (((0,()),Bh)) fun q_=>
      sumC q_ (fun BE=>
       let v_76:=BE.1;some (v_76,())) (fun _=>
       some (true,())))
 else none
abbrev Wh.abJ:Type:=(Unit×Int×Unit×Int)×an.D×g9.D
abbrev Wh.ait:Type:=(Unit×Bool)×an.D⊕Unit×an.D
def Wh.K5 (x:abJ):Option (abJ⊕ait):=
 let D6:=x.1.2.1;let Xj:=x.1.2.2.2;let Qh:=x.2.1;let D8:=x.2.2;let BA:Int:=(↑(List.length D8.2.1):Int);bif decide (D6<BA) then
  let Av:an.D:=List.getD D8.2.1 (Int.toNat D6) (0,[],0,[],());bif kL [decide (0≤D6),decide (D6<BA)] then
   bif(Av.2.2.1==Xj) then
    bif kL [decide (0≤D6),decide (D6<BA)] then
     some (.inr (.inl (((),true),Av)))
    else none
   else
    some (.inl (((),(IntKind.wrap .i64 (D6+1)),(),Xj),Qh,D8))
  else none
 else
  some (.inr (.inr ((),Qh)))
def Wh.abK:(Unit×Bool)×an.D⊕Unit×an.D:=.inl default
def Wh.Gf (xs:g9.D×Int):Option ((an.D×Bool)×Unit):=
 let b8:=xs.1;let ND:=xs.2;g8 K5 abK ((((),0,(),ND),(0,[],0,[],()),b8)) fun q_=>
  sumC q_ (fun y_21=>
   let nE:=y_21.1.2;let Bc:=y_21.2;some ((Bc,nE),())) (fun _=>
   some (((0,[],0,[],()),false),()))
abbrev Wh.abD:Type:=(Int×Unit)×b7.D
abbrev Wh.aiq:Type:=Bool×Unit⊕Unit×Unit
def Wh.JA (x:abD):Option (abD⊕aiq):=
 let BO:=x.1.1;let r5:=x.2;let CP:Int:=(↑(List.length (r5.2.2.2.2.2.2.1)):Int);bif decide (BO<CP) then
  let vN:cg.D:=List.getD (r5.2.2.2.2.2.2.1) (Int.toNat BO) (0,0,0,0,0,0,());bif kL [decide (0≤BO),decide (BO<CP)] then
   bn (zog gh (vN.1,0,3)) fun C0=>
   bn (zog gh (vN.2.1,1,99999)) fun DJ=>
   bn (zog gh (vN.2.2.1,1,r5.2.2.2.1.1)) fun Iw=>
   bn (zog gh (vN.2.2.2.1,0,9999)) fun MM=>
   bn (zog gh (vN.2.2.2.2.1,0,3)) fun MN=>
   bn (zog gh (vN.2.2.2.2.2.1,0,r5.2.1)) fun Hj=>
   let v_48:=bif bif bif bif bif bif !C0.1 then true else bif decide (BO>0) then decide ((List.getD (r5.2.2.2.2.2.2.1) (Int.toNat (IntKind.wrap .i64 (BO-1))) (0,0,0,0,0,0,())).1≥vN.1) else false then true else !DJ.1 then true else !Iw.1 then true else !MM.1 then true else !MN.1 then true else !Hj.1;bif kL [(!!bif bif bif bif bif !C0.1 then true else bif decide (BO>0) then decide ((List.getD (r5.2.2.2.2.2.2.1) (Int.toNat (IntKind.wrap .i64 (BO-1))) (0,0,0,0,0,0,())).1≥vN.1) else false then true else !DJ.1 then true else !Iw.1 then true else !MM.1 then true else !MN.1) || qu (gh (vN.2.2.2.2.2.1,0,r5.2.1)),(!!bif bif bif bif !C0.1 then true else bif decide (BO>0) then decide ((List.getD (r5.2.2.2.2.2.2.1) (Int.toNat (IntKind.wrap .i64 (BO-1))) (0,0,0,0,0,0,())).1≥vN.1) else false then true else !DJ.1 then true else !Iw.1 then true else !MM.1) || qu (gh (vN.2.2.2.2.1,0,3)),(!!bif bif bif !C0.1 then true else bif decide (BO>0) then decide ((List.getD (r5.2.2.2.2.2.2.1) (Int.toNat (IntKind.wrap .i64 (BO-1))) (0,0,0,0,0,0,())).1≥vN.1) else false then true else !DJ.1 then true else !Iw.1) || qu (gh (vN.2.2.2.1,0,9999)),(!!bif bif !C0.1 then true else bif decide (BO>0) then decide ((List.getD (r5.2.2.2.2.2.2.1) (Int.toNat (IntKind.wrap .i64 (BO-1))) (0,0,0,0,0,0,())).1≥vN.1) else false then true else !DJ.1) || qu (gh (vN.2.2.1,1,r5.2.2.2.1.1)),(!!bif !C0.1 then true else bif decide (BO>0) then decide ((List.getD (r5.2.2.2.2.2.2.1) (Int.toNat (IntKind.wrap .i64 (BO-1))) (0,0,0,0,0,0,())).1≥vN.1) else false) || qu (gh (vN.2.1,1,99999)),!(decide (BO>0) && !!C0.1) || decide (0≤IntKind.wrap .i64 (BO-1)),!(decide (BO>0) && !!C0.1) || decide (IntKind.wrap .i64 (BO-1)<CP),qu (gh (vN.1,0,3))] then
    bif v_48 then
     some (.inr (.inl (false,())))
    else
     c9 Gf (r5.2.2.2.1,vN.2.2.1) fun Hl=>
      bn (zog Ci vN.1) fun r_50=>
      let B9:=bif Hl.1.2 then Hl.1.1.1 != r_50.1 else false;bif kL [!Hl.1.2 || qu (Ci vN.1)] then
       bif B9 then
        some (.inr (.inl (false,())))
       else
        some (.inl (((IntKind.wrap .i64 (BO+1)),()),r5))
      else none
   else none
  else none
 else
  some (.inr (.inr ((),())))
def Wh.abE:Bool×Unit⊕Unit×Unit:=.inl default
def Wh.q50 (xs:b7.D):Option (Bool×Unit):=
 let cx:b7.D:=xs;g8 JA abE (((0,()),cx)) fun q_=>
  sumC q_ (fun y_54=>
   let FF:=y_54.1;some (FF,())) (fun _=>
   some (true,()))
def Wh.Bn (xs:gv.D):Option (Int×Unit):=
 let fy:gv.D:=xs;bif kL [fy.2.1 != 0] then
  some ((IntKind.wrap .i64 (Int.tdiv (IntKind.wrap .i64 ((IntKind.wrap .i64 (fy.1+fy.2.1))-1)) fy.2.1)),())
 else none
abbrev Wh.abc:Type:=(Unit×Unit)×(Int×Int×Unit×Unit×Unit)×(Int×Int×Unit×Unit×Unit)×List Int×List Int×List Int×List Int
abbrev Wh.aid:Type:=(Unit×Unit)×(Int×Int×Unit×Unit×Unit)×(Int×Int×Unit×Unit×Unit)×List Int×List Int×List Int×List Int
def Wh.Fw (x:abc):Option (abc⊕aid):=
 let D8:=x.2.1.1;let w7:=x.2.1.2.1;let Ey:=x.2.1.2.2.2.2;let s_:=x.2.2.1.1;let AI:=x.2.2.1.2.1;let Bb:=x.2.2.1.2.2.2.2;let CH:=x.2.2.2.1;let CJ:=x.2.2.2.2.1;let we:=x.2.2.2.2.2.1;let BG:=x.2.2.2.2.2.2;c9 Bn (D8,w7,CH,CJ,Ey) fun Lb=>
  bif decide (Lb.1>24) then
   some (.inl (((),()),(D8,(IntKind.wrap .i64 (w7+1)),(),(),Ey),(s_,AI,(),(),Bb),CH,CJ,we,BG))
  else
   some (.inr (((),()),(s_,AI,(),(),Bb),(D8,w7,(),(),Ey),we,BG,CH,CJ))
def Wh.abd:(Unit×Unit)×(Int×Int×Unit×Unit×Unit)×(Int×Int×Unit×Unit×Unit)×List Int×List Int×List Int×List Int:=default
def Wh.Ch (xs:Int):Option ((Int×Int×List Int×List Int×Unit)×Unit):=
 let Qg:=xs;g8 Fw abd ((((),()),(Qg,8,(),(),()),(0,0,(),(),()),[],[],[],[])) fun Lt=>
  let AJ:=Lt.2.2.1.1;let Bg:=Lt.2.2.1.2.1;let wv:=Lt.2.2.1.2.2.2.2;let Br:=Lt.2.2.2.2.2.1;let nG:=Lt.2.2.2.2.2.2;c9 Bn (AJ,Bg,Br,nG,wv) fun Ix=>
   let NT:=IntKind.wrap .i64 (Int.tdiv (IntKind.wrap .i64 (Ix.1+3)) 4);bif decide (NT<Ix.1) then
    let pb_44:List Int:=[NT,Ix.1];some ((AJ,Bg,pb_44,[(2:Int),3],wv),())
   else
    let TN:List Int:=[Ix.1];some ((AJ,Bg,TN,[(1:Int)],wv),())
def Wh.q66 (xs:cw.D):Option (Bool×Unit):=
 let BL:cw.D:=xs;bn (zog gh (BL.2.1,0,99999)) fun r_1=>
 bn (zog gh (BL.1,0,BL.2.1)) fun r_2=>
 bn (zog gh (BL.2.2.1,0,99999)) fun gT=>
 bn (zog gh (BL.2.2.2.1,0,99999)) fun AU=>
 let BW:=bif bif bif r_1.1 then r_2.1 else false then gT.1 else false then AU.1 else false;bif kL [(!bif bif r_1.1 then r_2.1 else false then gT.1 else false) || qu (gh (BL.2.2.2.1,0,99999)),(!bif r_1.1 then r_2.1 else false) || qu (gh (BL.2.2.1,0,99999)),!r_1.1 || qu (gh (BL.1,0,BL.2.1)),qu (gh (BL.2.1,0,99999))] then
  some (BW,())
 else none
abbrev Wh.abT:Type:=(Int×Unit)×b7.D
abbrev Wh.aiy:Type:=Bool×Unit⊕Unit×Unit
def Wh.K6 (x:abT):Option (abT⊕aiy):=
 let h_80:=x.1.1;let GV:=x.2;let M8:Int:=(↑(List.length (GV.2.2.2.2.2.1)):Int);bif decide (h_80<M8) then
  let Ot:cw.D:=List.getD (GV.2.2.2.2.2.1) (Int.toNat h_80) (0,0,0,0,());bif kL [decide (0≤h_80),decide (h_80<M8)] then
   bn (zog q66 Ot) fun r_85=>
   let v_90:=bif bif bif !r_85.1 then true else Ot.2.1 != 40 then true else Ot.2.2.1 != 8 then true else decide (Ot.2.2.2.1>GV.2.1);bif kL [qu (q66 Ot)] then
    bif v_90 then
     some (.inr (.inl (false,())))
    else
     some (.inl (((IntKind.wrap .i64 (h_80+1)),()),GV))
   else none
  else none
 else
  some (.inr (.inr ((),())))
def Wh.abU:Bool×Unit⊕Unit×Unit:=.inl default
abbrev Wh.abR:Type:=(Int×Unit)×b7.D
abbrev Wh.aix:Type:=Bool×Unit⊕Unit×b7.D
def Wh.Gj (x:abR):Option (abR⊕aix):=
 let Er:=x.1.1;let nS:=x.2;let B9:Int:=(↑(List.length (nS.2.2.2.2.1.1)):Int);bif decide (Er<B9) then
  bn (zog Gf (nS.2.2.2.1,((List.getD (nS.2.2.2.2.1.1) (Int.toNat Er) (0,0,0,0,false,())).2).1)) fun B5=>
  let Aw:b9.D:=List.getD (nS.2.2.2.2.1.1) (Int.toNat Er) (0,0,0,0,false,());bif kL [qu (Gf (nS.2.2.2.1,Aw.2.1)),decide (0≤Er),decide (Er<B9)] then
   bn (zog Ch (↑(List.length (B5.1.1.2.2.2.1)):Int)) fun FB=>
   bn (zog Bn (FB.1.1,FB.1.2.1,bif(!bif !B5.1.2 then true else B5.1.1.1 != Aw.1)&&(decide (Aw.2.1>0) && !decide (Aw.2.2.2.1>0)) then FB.1.2.2.1 else [],bif(!bif !B5.1.2 then true else B5.1.1.1 != Aw.1)&&(decide (Aw.2.1>0) && !decide (Aw.2.2.2.1>0)) then FB.1.2.2.2.1 else [],FB.1.2.2.2.2)) fun r_60=>
   let v_61:=bif decide (Aw.2.2.2.1>0) then true else bif decide (Aw.2.1>0) then bif bif !B5.1.2 then true else B5.1.1.1 != Aw.1 then true else decide (Aw.2.2.1≥r_60.1) else false;bif kL [!((!bif !B5.1.2 then true else B5.1.1.1 != Aw.1)&&(decide (Aw.2.1>0) && !decide (Aw.2.2.2.1>0))) || qu (Bn (FB.1.1,FB.1.2.1,bif(!bif !B5.1.2 then true else B5.1.1.1 != Aw.1)&&(decide (Aw.2.1>0) && !decide (Aw.2.2.2.1>0)) then FB.1.2.2.1 else [],bif(!bif !B5.1.2 then true else B5.1.1.1 != Aw.1)&&(decide (Aw.2.1>0) && !decide (Aw.2.2.2.1>0)) then FB.1.2.2.2.1 else [],FB.1.2.2.2.2)),!((!bif !B5.1.2 then true else B5.1.1.1 != Aw.1)&&(decide (Aw.2.1>0) && !decide (Aw.2.2.2.1>0))) || qu (Ch (↑(List.length (B5.1.1.2.2.2.1)):Int)),!((!bif !B5.1.2 then true else B5.1.1.1 != Aw.1)&&(decide (Aw.2.1>0) && !decide (Aw.2.2.2.1>0))) || decide (0≤Er),!((!bif !B5.1.2 then true else B5.1.1.1 != Aw.1)&&(decide (Aw.2.1>0) && !decide (Aw.2.2.2.1>0))) || decide (Er<B9),!(!!B5.1.2&&(decide (Aw.2.1>0) && !decide (Aw.2.2.2.1>0))) || decide (0≤Er),!(!!B5.1.2&&(decide (Aw.2.1>0) && !decide (Aw.2.2.2.1>0))) || decide (Er<B9),!!decide (Aw.2.2.2.1>0) || decide (0≤Er),!!decide (Aw.2.2.2.1>0) || decide (Er<B9),decide (0≤Er),decide (Er<B9)] then
    bif v_61 then
     some (.inr (.inl (false,())))
    else
     some (.inl (((IntKind.wrap .i64 (Er+1)),()),nS))
   else none
  else none
 else
  some (.inr (.inr ((),nS)))
def Wh.abS:Bool×Unit⊕Unit×b7.D:=.inl default
def Wh.Gi (xs:b7.D):Option (Bool×Unit):=
 let cx:b7.D:=xs;bn (zog gh (cx.2.1,0,99999)) fun r_1=>
 let v_2:=bif !r_1.1 then true else decide ((↑(List.length (cx.2.2.1)):Int)>9000);bif kL [qu (gh (cx.2.1,0,99999))] then
  bif v_2 then
   some (false,())
  else
   bif(!cx.1) then
    let AP:Int:=(↑(List.length (cx.2.2.2.1.2.1)):Int);bn (zog Ku cx) fun De=>
    let s9:=bif bif bif bif bif bif AP==0 then cx.2.2.2.1.1==0 else false then(↑(List.length (cx.2.2.2.2.1.1)):Int)==0 else false then cx.2.2.2.2.1.2.1==0 else false then(↑(List.length (cx.2.2.2.2.2.1)):Int)==0 else false then(↑(List.length (cx.2.2.2.2.2.2.1)):Int)==0 else false then De.1 else false;bif kL [(!bif bif bif bif bif AP==0 then cx.2.2.2.1.1==0 else false then(↑(List.length (cx.2.2.2.2.1.1)):Int)==0 else false then cx.2.2.2.2.1.2.1==0 else false then(↑(List.length (cx.2.2.2.2.2.1)):Int)==0 else false then(↑(List.length (cx.2.2.2.2.2.2.1)):Int)==0 else false) || qu (Ku cx)] then
     some (s9,())
    else none
   else
    c9 Fu (cx.2.2.1) fun CL=>
     c9 Jv CL.1.1 fun DW=>
      let nW:= !DW.1.2;bn (zog H8 (DW.1.1,cx.2.2.2.1)) fun CA=>
      bn (zog H_ (cx.2.2.2.2.1)) fun ML=>
      bn (zog q50 cx) fun Lc=>
      let FD:=bif bif bif bif bif nW then true else CL.1.2 != (↑(List.length (cx.2.2.1)):Int) then true else !CA.1 then true else !ML.1 then true else(↑(List.length (cx.2.2.2.2.2.1)):Int) != 2 then true else !Lc.1;bif kL [(!!bif bif bif bif nW then true else CL.1.2 != (↑(List.length (cx.2.2.1)):Int) then true else !CA.1 then true else !ML.1 then true else(↑(List.length (cx.2.2.2.2.2.1)):Int) != 2) || qu (q50 cx),(!!bif bif nW then true else CL.1.2 != (↑(List.length (cx.2.2.1)):Int) then true else !CA.1) || qu (H_ (cx.2.2.2.2.1)),(!!bif nW then true else CL.1.2 != (↑(List.length (cx.2.2.1)):Int)) || qu (H8 (DW.1.1,cx.2.2.2.1))] then
       bif FD then
        some (false,())
       else
        g8 Gj abS (((0,()),cx)) fun q_=>
         sumC q_ (fun FI=>
          let RH:=FI.1;some (RH,())) (fun z_65=>
          let BH:=z_65.2;g8 K6 abU (((0,()),BH)) fun q_=>
           sumC q_ (fun y_93=>
            let v_95:=y_93.1;some (v_95,())) (fun _=>
            some (true,())))
      else none
 else none
abbrev Wh.aaP:Type:=(Int×Int×Unit)×b7.D
abbrev Wh.ah2:Type:=Int×Unit⊕Unit×Unit
def Wh.Fv (x:aaP):Option (aaP⊕ah2):=
 let Fj:=x.1.1;let WZ:=x.1.2.1;let J7:=x.2;let A4:Int:=(↑(List.length (J7.2.2.2.2.2.2.1)):Int);bif decide (Fj<A4) then
  let BA:cg.D:=List.getD (J7.2.2.2.2.2.2.1) (Int.toNat Fj) (0,0,0,0,0,0,());bif kL [decide (0≤Fj),decide (Fj<A4)] then
   bif(BA.1==WZ) then
    some (.inr (.inl (Fj,())))
   else
    some (.inl (((IntKind.wrap .i64 (Fj+1)),WZ,()),J7))
  else none
 else
  some (.inr (.inr ((),())))
def Wh.aaQ:Int×Unit⊕Unit×Unit:=.inl default
def Wh.Ga (xs:b7.D×Int):Option (Int×Unit):=
 let cx:=xs.1;let Nr:=xs.2;g8 Fv aaQ (((0,Nr,()),cx)) fun q_=>
  sumC q_ (fun y_19=>
   let A5:=y_19.1;some (A5,())) (fun _=>
   some (-1,()))
def Wh.Ee (xs:g9.D×Int×List UInt8):Option ((an.D×Bool)×Unit):=
 let b8:=xs.1;let A6:=xs.2.1;let Dc:=xs.2.2;c9 Ge (b8,A6,Dc) fun r_3=>
  bn (zog Ij b8) fun dz=>
  let nP:=bif !dz.1 then true else decide (r_3.1<0);bif kL [qu (Ij b8)] then
   bif nP then
    some (((0,[],0,[],()),false),())
   else
    let Oo:an.D:=List.getD b8.2.1 (Int.toNat r_3.1) (0,[],0,[],());bif kL [decide (0≤r_3.1),decide (r_3.1<(↑(List.length b8.2.1):Int))] then
     some ((Oo,true),())
    else none
  else none
abbrev Wh.abz:Type:=(Int×Unit×Unit×Int×Unit)×b7.D×List cg.D×(Bool×Int×List UInt8×(Int×Unit×Unit)×(Unit×Int×Unit)×Unit×Unit×Unit)×List an.D×List b9.D×List cw.D×List cg.D
abbrev Wh.aio:Type:=(Unit×Unit×Unit)×(Bool×Int×List UInt8×(Int×Unit×Unit)×(Unit×Int×Unit)×Unit×Unit×Unit)×b7.D×List cg.D×List an.D×List b9.D×List cw.D×List cg.D
def Wh.K3 (x:abz):Option (abz⊕aio):=
 let Bf:=x.1.1;let Sa:=x.1.2.2.2.1;let Bl:=x.2.1;let r5:=x.2.2.1;let Cn:=x.2.2.2.1.1;let Bp:=x.2.2.2.1.2.1;let Bq:=x.2.2.2.1.2.2.1;let AJ:=x.2.2.2.1.2.2.2.1.1;let Bg:=x.2.2.2.1.2.2.2.1.2.2;let wv:=x.2.2.2.1.2.2.2.2.1.2;let ng:=x.2.2.2.1.2.2.2.2.2.2.2;let AR:=x.2.2.2.2.1;let Br:=x.2.2.2.2.2.1;let nG:=x.2.2.2.2.2.2.1;let AZ:=x.2.2.2.2.2.2.2;let FE:Int:=(↑(List.length (Bl.2.2.2.2.2.2.1)):Int);bif decide (Bf<FE) then
  let Lm:cg.D:=List.getD (Bl.2.2.2.2.2.2.1) (Int.toNat Bf) (0,0,0,0,0,0,());bif kL [decide (0≤Bf),decide (Bf<FE)] then
   bif(Lm.1 != Sa) then
    let tn:List (cg.D):=r5 ++ [Lm];bif kL [decide (List.length r5+(1:Nat)≤eV),decide (0≤Bf),decide (Bf<FE)] then
     some (.inl (((IntKind.wrap .i64 (Bf+1)),(),(),Sa,()),Bl,tn,(Cn,Bp,Bq,(AJ,(),Bg),((),wv),(),(),ng),AR,Br,nG,AZ))
    else none
   else
    some (.inl (((IntKind.wrap .i64 (Bf+1)),(),(),Sa,()),Bl,r5,(Cn,Bp,Bq,(AJ,(),Bg),((),wv),(),(),ng),AR,Br,nG,AZ))
  else none
 else
  some (.inr (((),(),()),(Cn,Bp,Bq,(AJ,(),Bg),((),wv),(),(),ng),Bl,r5,AR,Br,nG,AZ))
def Wh.abA:(Unit×Unit×Unit)×(Bool×Int×List UInt8×(Int×Unit×Unit)×(Unit×Int×Unit)×Unit×Unit×Unit)×b7.D×List cg.D×List an.D×List b9.D×List cw.D×List cg.D:=default
def Wh.Hg (xs:b7.D×Int):Option ((Bool×Int×List UInt8×g9.D×mb.D×List cw.D×List cg.D×Unit)×Unit):=
 let cx:=xs.1;let Nr:=xs.2;g8 K3 abA (((0,(),(),Nr,()),cx,[],(false,0,[],(0,(),()),((),0,()),(),(),()),[],[],[],[])) fun Ng=>
  let AF:=Ng.2.2.1;let Co:=Ng.2.2.2.1;some ((AF.1,AF.2.1,AF.2.2.1,AF.2.2.2.1,AF.2.2.2.2.1,AF.2.2.2.2.2.1,Co,AF.2.2.2.2.2.2.2),())
def Wh.Jj (xs:Int×Int×Int):Option (List eL.D×Unit):=
 let R_:=xs.1;let try_1:=xs.2.1;let PE:=xs.2.2;let Du:List (eL.D):=[(6,R_,try_1,PE,0,[],[],())];some (Du,())
abbrev Wh.ZF:Type:=(Int×Unit×Unit×Unit)×(Bool×Int×List UInt8×(Int×Unit×Unit)×(Unit×Int×Unit)×Unit×Unit×Unit)×(Bool×Int×List UInt8×g9.D×mb.D×List cw.D×Unit×Unit)×cg.D×List an.D×List b9.D×List cw.D×List cg.D×List cg.D
abbrev Wh.ahs:Type:=(Unit×Unit×Int×Unit)×(Bool×Int×List UInt8×(Int×Unit×Unit)×(Unit×Int×Unit)×Unit×Unit×Unit)×(Bool×Int×List UInt8×g9.D×mb.D×List cw.D×Unit×Unit)×cg.D×List an.D×List b9.D×List cw.D×List cg.D×List cg.D
def Wh.Kw (x:ZF):Option (ZF⊕ahs):=
 let IY:=x.1.1;let Bp:=x.2.1.1;let Bq:=x.2.1.2.1;let AJ:=x.2.1.2.2.1;let Bg:=x.2.1.2.2.2.1.1;let wv:=x.2.1.2.2.2.1.2.2;let ng:=x.2.1.2.2.2.2.1.2;let AR:=x.2.1.2.2.2.2.2.2.2;let Br:=x.2.2.1.1;let nG:=x.2.2.1.2.1;let AZ:=x.2.2.1.2.2.1;let A0:=x.2.2.1.2.2.2.1;let Az:=x.2.2.1.2.2.2.2.1;let AA:=x.2.2.1.2.2.2.2.2.1;let nI:=x.2.2.1.2.2.2.2.2.2.2;let zP:=x.2.2.2.1;let tn:=x.2.2.2.2.1;let xd:=x.2.2.2.2.2.1;let A1:=x.2.2.2.2.2.2.1;let s5:=x.2.2.2.2.2.2.2.1;let Ar:=x.2.2.2.2.2.2.2.2;let IB:Int:=(↑(List.length Ar):Int);let IC:=bif decide (IY<IB) then decide ((List.getD Ar (Int.toNat IY) (0,0,0,0,0,0,())).1<zP.1) else false;bif kL [!decide (IY<IB) || decide (0≤IY),!decide (IY<IB) || decide (IY<IB)] then
  bif IC then
   some (.inl (((IntKind.wrap .i64 (IY+1)),(),(),()),(Bp,Bq,AJ,(Bg,(),wv),((),ng),(),(),AR),(Br,nG,AZ,A0,Az,AA,(),nI),zP,tn,xd,A1,s5,Ar))
  else
   some (.inr (((),(),IY,()),(Bp,Bq,AJ,(Bg,(),wv),((),ng),(),(),AR),(Br,nG,AZ,A0,Az,AA,(),nI),zP,tn,xd,A1,s5,Ar))
 else none
def Wh.ZG:(Unit×Unit×Int×Unit)×(Bool×Int×List UInt8×(Int×Unit×Unit)×(Unit×Int×Unit)×Unit×Unit×Unit)×(Bool×Int×List UInt8×g9.D×mb.D×List cw.D×Unit×Unit)×cg.D×List an.D×List b9.D×List cw.D×List cg.D×List cg.D:=default
def Wh.Ma (xs:b7.D×cg.D):Option ((Bool×Int×List UInt8×g9.D×mb.D×List cw.D×List cg.D×Unit)×Unit):=
 let cx:=xs.1;let v_1:=xs.2;c9 Hg (cx,v_1.1) fun r_2=>
  g8 Kw ZG (((0,(),(),()),(false,0,[],(0,(),()),((),0,()),(),(),()),(r_2.1.1,r_2.1.2.1,r_2.1.2.2.1,r_2.1.2.2.2.1,r_2.1.2.2.2.2.1,r_2.1.2.2.2.2.2.1,(),r_2.1.2.2.2.2.2.2.2),v_1,[],[],[],[],r_2.1.2.2.2.2.2.2.1)) fun FH=>
   let GO:=FH.1.2.2.1;let BQ:=FH.2.2.1.1;let CV:=FH.2.2.1.2.1;let BH:=FH.2.2.1.2.2.1;let Cv:=FH.2.2.1.2.2.2.1;let EU:=FH.2.2.1.2.2.2.2.1;let Dp:=FH.2.2.1.2.2.2.2.2.1;let Bt:=FH.2.2.1.2.2.2.2.2.2.2;let A7:=FH.2.2.2.1;let Bw:=FH.2.2.2.2.2.2.2.2;let TR:List (cg.D):=[]++List.take (Int.toNat (GO-0)) (List.drop (Int.toNat 0) Bw);let QE:List (cg.D):=[A7];let pb_81:List (cg.D):=TR++QE++List.take (Int.toNat ((↑(List.length Bw):Int)-GO)) (List.drop (Int.toNat GO) Bw);let M8:Nat:=Int.toNat (GO-0);let IE:Nat:=Int.toNat ((↑(List.length Bw):Int)-GO);bif kL [decide (List.length (TR++QE)+List.length (List.take IE (List.drop (Int.toNat GO) Bw))≤eV),decide (0≤GO),decide (GO≤(↑(List.length Bw):Int)),decide ((↑(List.length Bw):Int)≤(↑(List.length Bw):Int)),decide (List.length TR+(1:Nat)≤eV),decide ((0:Nat)+List.length (List.take M8 (List.drop (Int.toNat 0) Bw))≤eV),true,decide (0≤GO),decide (GO≤(↑(List.length Bw):Int))] then
    some ((BQ,CV,BH,Cv,EU,Dp,pb_81,Bt),())
   else none
abbrev Wh.aab:Type:=(Int×Unit)×gv.D
abbrev Wh.ahI:Type:=Bool×Unit⊕Unit×gv.D
def Wh.G8 (x:aab):Option (aab⊕ahI):=
 let B3:=x.1.1;let ng:=x.2;let C5:Int:=(↑(List.length (ng.2.2.1)):Int);bif decide (B3<C5) then
  let M5:=List.getD (ng.2.2.1) (Int.toNat B3) 0;bn (zog Bn ng) fun Ix=>
  bn (zog gh (M5,1,Ix.1)) fun Hj=>
  bn (zog gh (List.getD (ng.2.2.2.1) (Int.toNat B3) 0,1,99)) fun r_48=>
  let JL:=bif bif !Hj.1 then true else bif decide (B3>0) then decide (List.getD (ng.2.2.1) (Int.toNat (IntKind.wrap .i64 (B3-1))) 0≥M5) else false then true else !r_48.1;bif kL [(!!bif !Hj.1 then true else bif decide (B3>0) then decide (List.getD (ng.2.2.1) (Int.toNat (IntKind.wrap .i64 (B3-1))) 0≥M5) else false) || qu (gh (List.getD (ng.2.2.2.1) (Int.toNat B3) 0,1,99)),(!!bif !Hj.1 then true else bif decide (B3>0) then decide (List.getD (ng.2.2.1) (Int.toNat (IntKind.wrap .i64 (B3-1))) 0≥M5) else false) || decide (0≤B3),(!!bif !Hj.1 then true else bif decide (B3>0) then decide (List.getD (ng.2.2.1) (Int.toNat (IntKind.wrap .i64 (B3-1))) 0≥M5) else false) || decide (B3<(↑(List.length (ng.2.2.2.1)):Int)),!(decide (B3>0) && !!Hj.1) || decide (0≤B3),!(decide (B3>0) && !!Hj.1) || decide (B3<C5),!(decide (B3>0) && !!Hj.1) || decide (0≤IntKind.wrap .i64 (B3-1)),!(decide (B3>0) && !!Hj.1) || decide (IntKind.wrap .i64 (B3-1)<C5),qu (gh (M5,1,Ix.1)),qu (Bn ng),decide (0≤B3),decide (B3<C5)] then
   bif JL then
    some (.inr (.inl (false,())))
   else
    some (.inl (((IntKind.wrap .i64 (B3+1)),()),ng))
  else none
 else
  some (.inr (.inr ((),ng)))
def Wh.aac:Bool×Unit⊕Unit×gv.D:=.inl default
def Wh.Ef (xs:gv.D):Option (Bool×Unit):=
 let fy:gv.D:=xs;bn (zog gh (fy.1,1,300)) fun r_1=>
 bn (zog gh (fy.2.1,1,16)) fun r_2=>
 bn (zog Bn fy) fun gT=>
 bn (zog gh ((↑(List.length (fy.2.2.1)):Int),1,3)) fun BU=>
 bn (zog gh (gT.1,1,24)) fun Ei=>
 let n5:=bif bif bif bif !r_1.1 then true else !r_2.1 then true else !Ei.1 then true else !BU.1 then true else(↑(List.length (fy.2.2.2.1)):Int) != (↑(List.length (fy.2.2.1)):Int);bif kL [(!!bif bif !r_1.1 then true else !r_2.1 then true else !Ei.1) || qu (gh ((↑(List.length (fy.2.2.1)):Int),1,3)),(!!bif !r_1.1 then true else !r_2.1) || qu (gh (gT.1,1,24)),(!!bif !r_1.1 then true else !r_2.1) || qu (Bn fy),!!!r_1.1 || qu (gh (fy.2.1,1,16)),qu (gh (fy.1,1,300))] then
  bif n5 then
   some (false,())
  else
   g8 G8 aac (((0,()),fy)) fun q_=>
    sumC q_ (fun y_52=>
     let Aw:=y_52.1;some (Aw,())) (fun z_53=>
     let AK:=z_53.2;let FF:Int:=(↑(List.length (AK.2.2.1)):Int);bn (zog Bn AK) fun r_60=>
     let v_62:=List.getD (AK.2.2.1) (Int.toNat (IntKind.wrap .i64 (FF-1))) 0==r_60.1;bif kL [qu (Bn AK),decide (0≤IntKind.wrap .i64 (FF-1)),decide (IntKind.wrap .i64 (FF-1)<FF)] then
      some (v_62,())
     else none)
 else none
abbrev Wh.aat:Type:=(Int×List Int×List UInt8)×Unit
abbrev Wh.ahR:Type:=List UInt8×Unit
def Wh.QL (x:aat):Option (aat⊕ahR):=
 let Db:=x.1.1;let NW:=x.1.2.1;let Ol:=x.1.2.2;let AW:=decide (Db<(↑(List.length NW):Int));bif AW then
  bif decide (Db>0) then
   let w9:List UInt8:=Ol ++ [(44:UInt8)];bif kL [decide (List.length Ol+(1:Nat)≤eV)] then
    let Dy:=List.getD NW (Int.toNat Db) 0;bn (zog As Dy) fun E7=>
    let out_32:List UInt8:=w9++E7.1;bif kL [decide (List.length w9+List.length (E7.1)≤eV),qu (As Dy),decide (0≤Db),AW] then
     some (.inl (((IntKind.wrap .i64 (Db+1)),NW,out_32),()))
    else none
   else none
  else
   let FD:=List.getD NW (Int.toNat Db) 0;bn (zog As FD) fun Iw=>
   let out_39:List UInt8:=Ol++Iw.1;bif kL [decide (List.length Ol+List.length (Iw.1)≤eV),qu (As FD),decide (0≤Db),AW] then
    some (.inl (((IntKind.wrap .i64 (Db+1)),NW,out_39),()))
   else none
 else
  some (.inr (Ol,()))
def Wh.aau:List UInt8×Unit:=default
def Wh.Ib (xs:List Int):Option (List UInt8×Unit):=
 let J5:=xs;g8 QL aau (((0,J5,[]),())) fun y_42=>
  let out_43:=y_42.1;some (out_43,())
def Wh.E5 (xs:gv.D):Option (List UInt8×Unit):=
 let fy:gv.D:=xs;c9 Ef fy fun r_1=>
  bif !r_1.1 then
   some ([],())
  else
   bn (zog As fy.1) fun r_2=>
   bn (zog As fy.2.1) fun dz=>
   bn (zog Ib (fy.2.2.1)) fun AG=>
   bn (zog Ib (fy.2.2.2.1)) fun By=>
   let AN:=r_2.1 ++ [(47:UInt8)]++dz.1 ++ [(58:UInt8)]++AG.1 ++ [(58:UInt8)]++By.1;bif kL [decide (List.length (r_2.1 ++ [(47:UInt8)]++dz.1 ++ [(58:UInt8)]++AG.1 ++ [(58:UInt8)])+List.length By.1≤eV),qu (Ib (fy.2.2.2.1)),decide (List.length (r_2.1 ++ [(47:UInt8)]++dz.1 ++ [(58:UInt8)]++AG.1)+(1:Nat)≤eV),decide (List.length (r_2.1 ++ [(47:UInt8)]++dz.1 ++ [(58:UInt8)])+List.length AG.1≤eV),qu (Ib (fy.2.2.1)),decide (List.length (r_2.1 ++ [(47:UInt8)]++dz.1)+(1:Nat)≤eV),decide (List.length (r_2.1 ++ [(47:UInt8)])+List.length dz.1≤eV),qu (As fy.2.1),decide (List.length r_2.1+(1:Nat)≤eV),qu (As fy.1)] then
    some (AN,())
   else none
def Wh.L8 (xs:(Bool×Int×List UInt8×(Int×List an.D×Unit)×(List b9.D×Int×Unit)×List cw.D×List cg.D×Unit)×eL.D):Option (((Bool×Int×List UInt8×g9.D×mb.D×List cw.D×List cg.D×Unit)×List eL.D)×Unit):=
 let cx:=xs.1;let w_1:=xs.2;c9 Ga (cx,w_1.2.1) fun r_2=>
  let AO:=decide (r_2.1≥0);let AP:=bif AO then decide (((List.getD (cx.2.2.2.2.2.2.1) (Int.toNat r_2.1) (0,0,0,0,0,0,())).2).1>w_1.2.2.1) else false;bif kL [!AO || decide (0≤r_2.1),!AO || decide (r_2.1<(↑(List.length (cx.2.2.2.2.2.2.1)):Int))] then
   bif AP then
    some ((cx,[]),())
   else
    bn (zog Ci w_1.2.1) fun gT=>
    bn (zog Ee (cx.2.2.2.1,gT.1,w_1.2.2.2.2.2.1)) fun ov=>
    bif kL [qu (Ee (cx.2.2.2.1,gT.1,w_1.2.2.2.2.2.1)),qu (Ci w_1.2.1)] then
     let BA:=bif(!ov.1.2) then true else bif decide (w_1.2.2.2.1>0) then ov.1.1.2.2.1 != w_1.2.2.2.1 else false;bif BA then
      let n5:=bif AO then decide (((List.getD (cx.2.2.2.2.2.2.1) (Int.toNat r_2.1) (0,0,0,0,0,0,())).2).1<w_1.2.2.1) else false;bif kL [!AO || decide (0≤r_2.1),!AO || decide (r_2.1<(↑(List.length (cx.2.2.2.2.2.2.1)):Int))] then
       bif n5 then
        c9 Hg (cx,w_1.2.1) fun De=>
         c9 Jj (w_1.2.1,w_1.2.2.1,w_1.2.2.2.1) fun JE=>
          some ((De.1,JE.1),())
       else
        c9 Jj (w_1.2.1,w_1.2.2.1,w_1.2.2.2.1) fun Hi=>
         some ((cx,Hi.1),())
      else none
     else
      let iL:=decide (r_2.1<0);let nE:=bif bif iL then true else decide (((List.getD (cx.2.2.2.2.2.2.1) (Int.toNat r_2.1) (0,0,0,0,0,0,())).2).1<w_1.2.2.1) then true else(((List.getD (cx.2.2.2.2.2.2.1) (Int.toNat r_2.1) (0,0,0,0,0,0,())).2).2).1 != ov.1.1.2.2.1;bif kL [(!!bif iL then true else decide (((List.getD (cx.2.2.2.2.2.2.1) (Int.toNat r_2.1) (0,0,0,0,0,0,())).2).1<w_1.2.2.1)) || decide (0≤r_2.1),(!!bif iL then true else decide (((List.getD (cx.2.2.2.2.2.2.1) (Int.toNat r_2.1) (0,0,0,0,0,0,())).2).1<w_1.2.2.1)) || decide (r_2.1<(↑(List.length (cx.2.2.2.2.2.2.1)):Int)),!!iL || decide (0≤r_2.1),!!iL || decide (r_2.1<(↑(List.length (cx.2.2.2.2.2.2.1)):Int))] then
       bif nE then
        c9 Ma (cx,w_1.2.1,w_1.2.2.1,ov.1.1.2.2.1,0,0,cx.2.1,()) fun Lb=>
         bn (zog Ch (↑(List.length (ov.1.1.2.2.2.1)):Int)) fun CA=>
         bn (zog E5 CA.1) fun FA=>
         let TJ:List (eL.D):=[(2,w_1.2.1,w_1.2.2.1,ov.1.1.2.2.1,0,[],FA.1,())];let v9:Int:=(↑(List.length (ov.1.1.2.2.2.1)):Int);bif kL [qu (E5 CA.1),qu (Ch v9)] then
          some ((Lb.1,TJ),())
         else none
       else
        bn (zog Ch (↑(List.length (ov.1.1.2.2.2.1)):Int)) fun E7=>
        bn (zog E5 E7.1) fun C0=>
        let TL:List (eL.D):=[(2,w_1.2.1,w_1.2.2.1,ov.1.1.2.2.1,0,[],C0.1,())];let FD:Int:=(↑(List.length (ov.1.1.2.2.2.1)):Int);bif kL [qu (E5 E7.1),qu (Ch FD)] then
         some ((cx,TL),())
        else none
      else none
    else none
  else none
def Wh.q36 (x:(Unit×Unit×Unit×Int)×(Bool×Int×List UInt8×(Int×Unit×Unit)×(Unit×Int×Unit)×Unit×Unit×Unit)×(Bool×Int×List UInt8×(Int×Unit×Unit)×(Unit×Int×Unit)×Unit×Unit×Unit)×eL.D×List an.D×List b9.D×List cw.D×List cg.D×List an.D×List b9.D×List cw.D×List cg.D):Option ((Unit×Unit)×(Bool×Int×List UInt8×(Int×Unit×Unit)×(Unit×Int×Unit)×Unit×Unit×Unit)×(Bool×Int×List UInt8×g9.D×mb.D×List cw.D×Unit×Unit)×List an.D×List b9.D×List cw.D×List cg.D×List cg.D⊕(Unit×Unit)×(Bool×Int×List UInt8×(Int×Unit×Unit)×(Unit×Int×Unit)×Unit×Unit×Unit)×(Bool×Int×List UInt8×(Int×Unit×Unit)×(Unit×Int×Unit)×Unit×Unit×Unit)×List an.D×List b9.D×List cw.D×List cg.D×List an.D×List b9.D×List cw.D×List cg.D):=
 let FQ:=x.1.2.2.2;let AA:=x.2.1.1;let nI:=x.2.1.2.1;let zP:=x.2.1.2.2.1;let tn:=x.2.1.2.2.2.1.1;let xd:=x.2.1.2.2.2.1.2.2;let A1:=x.2.1.2.2.2.2.1.2;let s5:=x.2.1.2.2.2.2.2.2.2;let Ar:=x.2.2.1.1;let nS:=x.2.2.1.2.1;let w8:=x.2.2.1.2.2.1;let tc:=x.2.2.1.2.2.2.1.1;let AB:=x.2.2.1.2.2.2.1.2.2;let A2:=x.2.2.1.2.2.2.2.1.2;let AK:=x.2.2.1.2.2.2.2.2.2.2;let oc:=x.2.2.2.1;let AF:=x.2.2.2.2.1;let Co:=x.2.2.2.2.2.1;let Ce:=x.2.2.2.2.2.2.1;let Bh:=x.2.2.2.2.2.2.2.1;let BP:=x.2.2.2.2.2.2.2.2.1;let Cf:=x.2.2.2.2.2.2.2.2.2.1;let Bi:=x.2.2.2.2.2.2.2.2.2.2.1;let A3:=x.2.2.2.2.2.2.2.2.2.2.2;bif(oc.1==5) then
  c9 Hg ((Ar,nS,w8,(tc,BP,AB),(Cf,A2),Bi,A3,AK),oc.2.1) fun JF=>
   some (.inl ((((),()),(AA,nI,zP,(tn,(),xd),((),A1),(),(),s5),(JF.1.1,JF.1.2.1,JF.1.2.2.1,JF.1.2.2.2.1,JF.1.2.2.2.2.1,JF.1.2.2.2.2.2.1,(),JF.1.2.2.2.2.2.2.2),AF,Co,Ce,Bh,JF.1.2.2.2.2.2.2.1)))
 else
  let ID:=oc.1==4;let v_71:=bif bif ID then decide (oc.2.2.2.2.1≤3) else false then decide (oc.2.2.2.2.1>(((((List.getD A3 (Int.toNat FQ) (0,0,0,0,0,0,())).2).2).2).2).1) else false;bif kL [(!bif ID then decide (oc.2.2.2.2.1≤3) else false) || decide (0≤FQ),(!bif ID then decide (oc.2.2.2.2.1≤3) else false) || decide (FQ<(↑(List.length A3):Int))] then
   bif v_71 then
    let A7:List (cg.D):=List.set A3 (Int.toNat FQ) ((List.getD A3 (Int.toNat FQ) (0,0,0,0,0,0,())).1,((List.getD A3 (Int.toNat FQ) (0,0,0,0,0,0,())).2).1,(((List.getD A3 (Int.toNat FQ) (0,0,0,0,0,0,())).2).2).1,((((List.getD A3 (Int.toNat FQ) (0,0,0,0,0,0,())).2).2).2).1,oc.2.2.2.2.1,(((((List.getD A3 (Int.toNat FQ) (0,0,0,0,0,0,())).2).2).2).2).2);bif kL [decide (0≤FQ),decide (FQ<(↑(List.length A3):Int))] then
     some (.inr ((((),()),(AA,nI,zP,(tn,(),xd),((),A1),(),(),s5),(Ar,nS,w8,(tc,(),AB),((),A2),(),(),AK),AF,Co,Ce,Bh,BP,Cf,Bi,A7)))
    else none
   else
    some (.inr ((((),()),(AA,nI,zP,(tn,(),xd),((),A1),(),(),s5),(Ar,nS,w8,(tc,(),AB),((),A2),(),(),AK),AF,Co,Ce,Bh,BP,Cf,Bi,A3)))
  else none
def Wh.QX (x:((Unit)×(Unit)×(Unit)×(Int))×(((Bool)×((Int)×((List UInt8)×(((Int)×((Unit)×(Unit)))×(((Unit)×((Int)×(Unit)))×((Unit)×((Unit)×(Unit))))))))×((Bool)×((Int)×((List UInt8)×(((Int)×((Unit)×(Unit)))×(((Unit)×((Int)×(Unit)))×((Unit)×((Unit)×(Unit))))))))×(eL.D)×(List (an.D))×(List (b9.D))×(List (cw.D))×(List (cg.D))×(List (an.D))×(List (b9.D))×(List (cw.D))×(List (cg.D)))):(((Unit)×(Unit))×(((Bool)×((Int)×((List UInt8)×(((Int)×((Unit)×(Unit)))×(((Unit)×((Int)×(Unit)))×((Unit)×((Unit)×(Unit))))))))×((Bool)×((Int)×((List UInt8)×((g9.D)×((mb.D)×((List (cw.D))×((Unit)×(Unit))))))))×(List (an.D))×(List (b9.D))×(List (cw.D))×(List (cg.D))×(List (cg.D))))⊕(((Unit)×(Unit))×(((Bool)×((Int)×((List UInt8)×(((Int)×((Unit)×(Unit)))×(((Unit)×((Int)×(Unit)))×((Unit)×((Unit)×(Unit))))))))×((Bool)×((Int)×((List UInt8)×(((Int)×((Unit)×(Unit)))×(((Unit)×((Int)×(Unit)))×((Unit)×((Unit)×(Unit))))))))×(List (an.D))×(List (b9.D))×(List (cw.D))×(List (cg.D))×(List (an.D))×(List (b9.D))×(List (cw.D))×(List (cg.D)))):=match q36 x with | some y=>y|none=>.inl (default,(default,default,default,default,default,default,default))
def Wh.q36_v (x:((Unit)×(Unit)×(Unit)×(Int))×(((Bool)×((Int)×((List UInt8)×(((Int)×((Unit)×(Unit)))×(((Unit)×((Int)×(Unit)))×((Unit)×((Unit)×(Unit))))))))×((Bool)×((Int)×((List UInt8)×(((Int)×((Unit)×(Unit)))×(((Unit)×((Int)×(Unit)))×((Unit)×((Unit)×(Unit))))))))×(eL.D)×(List (an.D))×(List (b9.D))×(List (cw.D))×(List (cg.D))×(List (an.D))×(List (b9.D))×(List (cw.D))×(List (cg.D))))(y:(((Unit)×(Unit))×(((Bool)×((Int)×((List UInt8)×(((Int)×((Unit)×(Unit)))×(((Unit)×((Int)×(Unit)))×((Unit)×((Unit)×(Unit))))))))×((Bool)×((Int)×((List UInt8)×((g9.D)×((mb.D)×((List (cw.D))×((Unit)×(Unit))))))))×(List (an.D))×(List (b9.D))×(List (cw.D))×(List (cg.D))×(List (cg.D))))⊕(((Unit)×(Unit))×(((Bool)×((Int)×((List UInt8)×(((Int)×((Unit)×(Unit)))×(((Unit)×((Int)×(Unit)))×((Unit)×((Unit)×(Unit))))))))×((Bool)×((Int)×((List UInt8)×(((Int)×((Unit)×(Unit)))×(((Unit)×((Int)×(Unit)))×((Unit)×((Unit)×(Unit))))))))×(List (an.D))×(List (b9.D))×(List (cw.D))×(List (cg.D))×(List (an.D))×(List (b9.D))×(List (cw.D))×(List (cg.D)))))(h:q36 x=some y):QX x=y:=by unfold QX;rw[h]
def Wh.L6 (xs:(Bool×Int×List UInt8×(Int×List an.D×Unit)×(List b9.D×Int×Unit)×List cw.D×List cg.D×Unit)×eL.D):Option (((Bool×Int×List UInt8×g9.D×mb.D×List cw.D×List cg.D×Unit)×List eL.D)×Unit):=
 let cx:=xs.1;let w_1:=xs.2;bif(w_1.1==1) then
  c9 L8 (cx,w_1) fun r_3=>
   some (r_3.1,())
 else
  c9 Ga (cx,w_1.2.1) fun dz=>
   let nP:=decide (dz.1<0);let FG:=bif bif nP then true else((List.getD (cx.2.2.2.2.2.2.1) (Int.toNat dz.1) (0,0,0,0,0,0,())).2).1 != w_1.2.2.1 then true else(((List.getD (cx.2.2.2.2.2.2.1) (Int.toNat dz.1) (0,0,0,0,0,0,())).2).2).1 != w_1.2.2.2.1;bif kL [(!!bif nP then true else((List.getD (cx.2.2.2.2.2.2.1) (Int.toNat dz.1) (0,0,0,0,0,0,())).2).1 != w_1.2.2.1) || decide (0≤dz.1),(!!bif nP then true else((List.getD (cx.2.2.2.2.2.2.1) (Int.toNat dz.1) (0,0,0,0,0,0,())).2).1 != w_1.2.2.1) || decide (dz.1<(↑(List.length (cx.2.2.2.2.2.2.1)):Int)),!!nP || decide (0≤dz.1),!!nP || decide (dz.1<(↑(List.length (cx.2.2.2.2.2.2.1)):Int))] then
    bif FG then
     some ((cx,[]),())
    else
     CQ q36 QX ((((),(),(),dz.1),(false,0,[],(0,(),()),((),0,()),(),(),()),(cx.1,cx.2.1,cx.2.2.1,(cx.2.2.2.1.1,(),cx.2.2.2.1.2.2),((),cx.2.2.2.2.1.2),(),(),cx.2.2.2.2.2.2.2),w_1,[],[],[],[],cx.2.2.2.1.2.1,cx.2.2.2.2.1.1,cx.2.2.2.2.2.1,cx.2.2.2.2.2.2.1)) fun q_=>
      sumC q_ (fun BE=>
       let DG:=BE.2.2.1.1;let CZ:=BE.2.2.1.2.1;let Dq:=BE.2.2.1.2.2.1;let Kc:=BE.2.2.1.2.2.2.1;let Oe:=BE.2.2.1.2.2.2.2.1;let Of:=BE.2.2.1.2.2.2.2.2.1;let Kd:=BE.2.2.1.2.2.2.2.2.2.2;let D_:=BE.2.2.2.2.2.2.2;some (((DG,CZ,Dq,Kc,Oe,Of,D_,Kd),[]),())) (fun GA=>
       let Dm:=GA.2.2.1.1;let HP:=GA.2.2.1.2.1;let AE:=GA.2.2.1.2.2.1;let Eu:=GA.2.2.1.2.2.2.1.1;let Ev:=GA.2.2.1.2.2.2.1.2.2;let Fm:=GA.2.2.1.2.2.2.2.1.2;let GR:=GA.2.2.1.2.2.2.2.2.2.2;let I7:=GA.2.2.2.2.2.2.2.1;let HQ:=GA.2.2.2.2.2.2.2.2.1;let FU:=GA.2.2.2.2.2.2.2.2.2.1;let FV:=GA.2.2.2.2.2.2.2.2.2.2;some (((Dm,HP,AE,(Eu,I7,Ev),(HQ,Fm),FU,FV,GR),[]),()))
   else none
def Wh.q31 (xs:b7.D×eL.D):Option ((b7.D×List eL.D)×Unit):=
 let cx:=xs.1;let w_1:=xs.2;c9 Gi cx fun r_2=>
  bif !r_2.1 then
   some (((false,0,[],(0,[],()),([],0,()),[],[],()),[]),())
  else
   c9 Fq cx fun r_3=>
    let AP:= !cx.1;bn (zog EE w_1) fun gT=>
    let FG:=bif bif AP then true else !gT.1 then true else decide (w_1.2.1≥4);bif kL [!!AP || qu (EE w_1)] then
     bif FG then
      some ((r_3.1,[]),())
     else
      c9 L6 (r_3.1,w_1) fun z4=>
       some (z4.1,())
    else none
def Wh.q38 (x:(Unit×List eL.D×Int×Unit×Int×Int)×(b7.D×Unit×Unit×Unit×Unit)×((Bool×Int×List UInt8×(Int×Unit×Unit)×(Unit×Int×Unit)×Unit×Unit×Unit)×Unit×Unit×Unit×Unit)×List bm.D×List cp.D×List an.D×List an.D×List b9.D×List cw.D×List cg.D×List bm.D×List cp.D×List an.D):Option ((Unit×List eL.D×Int×Unit×Int×Int)×(b7.D×Unit×Unit×Unit×Unit)×((Bool×Int×List UInt8×(Int×Unit×Unit)×(Unit×Int×Unit)×Unit×Unit×Unit)×Unit×Unit×Unit×Unit)×List bm.D×List cp.D×List an.D×List an.D×List b9.D×List cw.D×List cg.D×List bm.D×List cp.D×List an.D):=
 let Qe:=x.1.2.1;let to_57:=x.1.2.2.1;let NR:=x.1.2.2.2.2.1;let at_59:=x.1.2.2.2.2.2;let Bh:=x.2.1.1;let BP:=x.2.1.2.2.2.2;let Cf:=x.2.2.1.1.1;let Bi:=x.2.2.1.1.2.1;let A3:=x.2.2.1.1.2.2.1;let BQ:=x.2.2.1.1.2.2.2.1.1;let CV:=x.2.2.1.1.2.2.2.1.2.2;let BH:=x.2.2.1.1.2.2.2.2.1.2;let Cv:=x.2.2.1.1.2.2.2.2.2.2.2;let EU:=x.2.2.1.2.2.2.2;let Dp:=x.2.2.2.1;let Bt:=x.2.2.2.2.1;let A7:=x.2.2.2.2.2.1;let CK:=x.2.2.2.2.2.2.1;let Cg:=x.2.2.2.2.2.2.2.1;let Cw:=x.2.2.2.2.2.2.2.2.1;let CX:=x.2.2.2.2.2.2.2.2.2.1;let Bw:=x.2.2.2.2.2.2.2.2.2.2.1;let Ez:=x.2.2.2.2.2.2.2.2.2.2.2.1;let EW:=x.2.2.2.2.2.2.2.2.2.2.2.2;bif decide (at_59<0) then
  let v_81:=List.getD Qe (Int.toNat NR) (0,0,0,0,0,[],[],());bif kL [decide (0≤NR),decide (NR<(↑(List.length Qe):Int))] then
   some ((((),Qe,to_57,(),NR,v_81.2.1),(Bh,(),(),(),BP),((Cf,Bi,A3,(BQ,(),CV),((),BH),(),(),Cv),(),(),(),EU),Dp,Bt,A7,CK,Cg,Cw,CX,Bw,Ez,EW))
  else none
 else
  some ((((),Qe,to_57,(),NR,at_59),(Bh,(),(),(),BP),((Cf,Bi,A3,(BQ,(),CV),((),BH),(),(),Cv),(),(),(),EU),Dp,Bt,A7,CK,Cg,Cw,CX,Bw,Ez,EW))
def Wh.MB (x:((Unit)×(List (eL.D))×(Int)×(Unit)×(Int)×(Int))×(((b7.D)×((Unit)×((Unit)×((Unit)×(Unit)))))×(((Bool)×((Int)×((List UInt8)×(((Int)×((Unit)×(Unit)))×(((Unit)×((Int)×(Unit)))×((Unit)×((Unit)×(Unit))))))))×((Unit)×((Unit)×((Unit)×(Unit)))))×(List (bm.D))×(List (cp.D))×(List (an.D))×(List (an.D))×(List (b9.D))×(List (cw.D))×(List (cg.D))×(List (bm.D))×(List (cp.D))×(List (an.D)))):(((Unit)×(List (eL.D))×(Int)×(Unit)×(Int)×(Int))×(((b7.D)×((Unit)×((Unit)×((Unit)×(Unit)))))×(((Bool)×((Int)×((List UInt8)×(((Int)×((Unit)×(Unit)))×(((Unit)×((Int)×(Unit)))×((Unit)×((Unit)×(Unit))))))))×((Unit)×((Unit)×((Unit)×(Unit)))))×(List (bm.D))×(List (cp.D))×(List (an.D))×(List (an.D))×(List (b9.D))×(List (cw.D))×(List (cg.D))×(List (bm.D))×(List (cp.D))×(List (an.D)))):=match q38 x with | some y=>y|none=>(default,(default,default,default,default,default,default,default,default,default,default,default,default))
def Wh.q38_v (x:((Unit)×(List (eL.D))×(Int)×(Unit)×(Int)×(Int))×(((b7.D)×((Unit)×((Unit)×((Unit)×(Unit)))))×(((Bool)×((Int)×((List UInt8)×(((Int)×((Unit)×(Unit)))×(((Unit)×((Int)×(Unit)))×((Unit)×((Unit)×(Unit))))))))×((Unit)×((Unit)×((Unit)×(Unit)))))×(List (bm.D))×(List (cp.D))×(List (an.D))×(List (an.D))×(List (b9.D))×(List (cw.D))×(List (cg.D))×(List (bm.D))×(List (cp.D))×(List (an.D))))(y:(((Unit)×(List (eL.D))×(Int)×(Unit)×(Int)×(Int))×(((b7.D)×((Unit)×((Unit)×((Unit)×(Unit)))))×(((Bool)×((Int)×((List UInt8)×(((Int)×((Unit)×(Unit)))×(((Unit)×((Int)×(Unit)))×((Unit)×((Unit)×(Unit))))))))×((Unit)×((Unit)×((Unit)×(Unit)))))×(List (bm.D))×(List (cp.D))×(List (an.D))×(List (an.D))×(List (b9.D))×(List (cw.D))×(List (cg.D))×(List (bm.D))×(List (cp.D))×(List (an.D)))))(h:q38 x=some y):MB x=y:=by unfold MB;rw[h]
abbrev Wh.ZL:Type:=(Int×Unit×List eL.D×Int×Unit)×(b7.D×Unit×Unit×Unit×Unit)×((Bool×Int×List UInt8×(Int×Unit×Unit)×(Unit×Int×Unit)×Unit×Unit×Unit)×Unit×Unit×Unit×Unit)×List bm.D×List cp.D×List an.D×List an.D×List b9.D×List cw.D×List cg.D×List bm.D×List cp.D×List an.D
abbrev Wh.ahv:Type:=(Unit×Unit)×((Bool×Int×List UInt8×(Int×Unit×Unit)×(Unit×Int×Unit)×Unit×Unit×Unit)×Unit×Unit×Unit×Unit)×(b7.D×Unit×Unit×Unit×Unit)×List an.D×List b9.D×List cw.D×List cg.D×List bm.D×List cp.D×List an.D×List bm.D×List cp.D×List an.D
def Wh.Mb (x:ZL):Option (ZL⊕ahv):=
 let i_113:=x.1.1;let Ym:=x.1.2.2.1;let adj:=x.1.2.2.2.1;let FV:=x.2.1.1;let HR:=x.2.1.2.2.2.2;let ET:=x.2.2.1.1.1;let Ew:=x.2.2.1.1.2.1;let J8:=x.2.2.1.1.2.2.1;let HS:=x.2.2.1.1.2.2.2.1.1;let J9:=x.2.2.1.1.2.2.2.1.2.2;let GS:=x.2.2.1.1.2.2.2.2.1.2;let Dn:=x.2.2.1.1.2.2.2.2.2.2.2;let HT:=x.2.2.1.2.2.2.2;let GU:=x.2.2.2.1;let I9:=x.2.2.2.2.1;let NY:=x.2.2.2.2.2.1;let Yr:=x.2.2.2.2.2.2.1;let Yt:=x.2.2.2.2.2.2.2.1;let Yu:=x.2.2.2.2.2.2.2.2.1;let Yv:=x.2.2.2.2.2.2.2.2.2.1;let Yw:=x.2.2.2.2.2.2.2.2.2.2.1;let Qi:=x.2.2.2.2.2.2.2.2.2.2.2.1;let Qj:=x.2.2.2.2.2.2.2.2.2.2.2.2;let Hr:Int:=(↑(List.length Ym):Int);let v_139:=bif decide (i_113<Hr) then decide ((↑(List.length I9):Int)<60) else false;bif v_139 then
  CQ q38 MB ((((),Ym,adj,(),i_113,adj),(FV,(),(),(),HR),((ET,Ew,J8,(HS,(),J9),((),GS),(),(),Dn),(),(),(),HT),GU,I9,NY,Yr,Yt,Yu,Yv,Yw,Qi,Qj)) fun Cj=>
   let Qc:=Cj.1.2.1;let to_143:=Cj.1.2.2.1;let NP:=Cj.1.2.2.2.2.1;let at_145:=Cj.1.2.2.2.2.2;let Te:=Cj.2.1.1;let Tf:=Cj.2.1.2.2.2.2;let LU:=Cj.2.2.1.1.1;let HU:=Cj.2.2.1.1.2.1;let Tg:=Cj.2.2.1.1.2.2.1;let Th:=Cj.2.2.1.1.2.2.2.1.1;let Ql:=Cj.2.2.1.1.2.2.2.1.2.2;let Qm:=Cj.2.2.1.1.2.2.2.2.1.2;let Qn:=Cj.2.2.1.1.2.2.2.2.2.2.2;let ls_155:=Cj.2.2.1.2.2.2.2;let ls_156:=Cj.2.2.2.1;let YA:=Cj.2.2.2.2.1;let ls_158:=Cj.2.2.2.2.2.1;let ls_159:=Cj.2.2.2.2.2.2.1;let ls_160:=Cj.2.2.2.2.2.2.2.1;let Ti:=Cj.2.2.2.2.2.2.2.2.1;let ls_162:=Cj.2.2.2.2.2.2.2.2.2.1;let LV:=Cj.2.2.2.2.2.2.2.2.2.2.1;let Tj:=Cj.2.2.2.2.2.2.2.2.2.2.2.1;let Tk:=Cj.2.2.2.2.2.2.2.2.2.2.2.2;bn (zog Ip (List.getD Qc (Int.toNat NP) (0,0,0,0,0,[],[],()))) fun r_166=>
   let ls_168:=YA ++ [(at_145,r_166.1,false,())];let v_169:=List.getD Qc (Int.toNat NP) (0,0,0,0,0,[],[],());bif kL [decide (List.length YA+(1:Nat)≤eV),qu (Ip v_169),decide (0≤NP),decide (NP<(↑(List.length Qc):Int))] then
    some (.inl (((IntKind.wrap .i64 (NP+1)),(),Qc,to_143,()),(Te,(),(),(),Tf),((LU,HU,Tg,(Th,(),Ql),((),Qm),(),(),Qn),(),(),(),ls_155),ls_156,ls_168,ls_158,ls_159,ls_160,Ti,ls_162,LV,Tj,Tk))
   else none
 else
  some (.inr (((),()),((ET,Ew,J8,(HS,(),J9),((),GS),(),(),Dn),(),(),(),HT),(FV,(),(),(),HR),Yr,Yt,Yu,Yv,Yw,Qi,Qj,GU,I9,NY))
def Wh.ZM:(Unit×Unit)×((Bool×Int×List UInt8×(Int×Unit×Unit)×(Unit×Int×Unit)×Unit×Unit×Unit)×Unit×Unit×Unit×Unit)×(b7.D×Unit×Unit×Unit×Unit)×List an.D×List b9.D×List cw.D×List cg.D×List bm.D×List cp.D×List an.D×List bm.D×List cp.D×List an.D:=default
def Wh.G5 (xs:(b7.D×List bm.D×List cp.D×List an.D×Unit)×Int×List eL.D):Option ((b7.D×List bm.D×List cp.D×List an.D×Unit)×Unit):=
 let w_0:=xs.1;let to_1:=xs.2.1;let list_2:=xs.2.2;g8 Mb ZM (((0,(),list_2,to_1,()),(w_0.1,(),(),(),w_0.2.2.2.2),((false,0,[],(0,(),()),((),0,()),(),(),()),(),(),(),()),w_0.2.1,w_0.2.2.1,w_0.2.2.2.1,[],[],[],[],[],[],[])) fun Ph=>
  let ls_181:=Ph.2.2.1.1;let ls_182:=Ph.2.2.1.2.2.2.2;let FW:=Ph.2.2.2.2.2.2.2.2.2.2.1;let FX:=Ph.2.2.2.2.2.2.2.2.2.2.2.1;let Ka:=Ph.2.2.2.2.2.2.2.2.2.2.2.2;some ((ls_181,FW,FX,Ka,ls_182),())
def Wh.KA (xs:bm.D):Option (Bool×Unit):=
 let b8:=xs;let v_1:Int:=(↑(List.length (b8.2.2.2.2.2.1.1.2.2.1)):Int);let BA:=bif bif bif bif bif bif v_1==0 then(↑(List.length (b8.2.2.2.2.2.1.1.2.2.2.1)):Int)==0 else false then b8.2.2.2.2.2.1.1.1==0 else false then b8.2.2.2.2.2.1.1.2.1==0 else false then b8.2.2.2.2.2.1.2.1.1==0 else false then b8.2.2.2.2.2.1.2.1.2.1==0 else false then(↑(List.length (b8.2.2.2.2.2.1.2.1.2.2.1)):Int)==0 else false;some (BA,())
abbrev Wh.aaL:Type:=(Int×List Int×Int)×Unit
abbrev Wh.ah0:Type:=Bool×Unit⊕Int×Unit
def Wh.Jw (x:aaL):Option (aaL⊕ah0):=
 let z9:=x.1.1;let OS:=x.1.2.1;let Sd:=x.1.2.2;let Av:=decide (z9<(↑(List.length OS):Int));bif Av then
  let v5:=List.getD OS (Int.toNat z9) 0;let s9:=IntKind.wrap .i64 (Sd-1);bn (zog gh (v5,0,s9)) fun Gp=>
  let AW:=bif !Gp.1 then true else bif decide (z9>0) then decide (List.getD OS (Int.toNat (IntKind.wrap .i64 (z9-1))) 0≥v5) else false;bif kL [!(decide (z9>0) && !!Gp.1) || decide (0≤z9),!(decide (z9>0) && !!Gp.1) || Av,!(decide (z9>0) && !!Gp.1) || decide (0≤IntKind.wrap .i64 (z9-1)),!(decide (z9>0) && !!Gp.1) || decide (IntKind.wrap .i64 (z9-1)<(↑(List.length OS):Int)),qu (gh (v5,0,s9)),decide (0≤z9),Av] then
   bif AW then
    some (.inr (.inl (false,())))
   else
    some (.inl (((IntKind.wrap .i64 (z9+1)),OS,Sd),()))
  else none
 else
  some (.inr (.inr (Sd,())))
def Wh.aaM:Bool×Unit⊕Int×Unit:=.inl default
def Wh.Ik (xs:List Int×Int):Option (Bool×Unit):=
 let Hp:=xs.1;let Sc:=xs.2;g8 Jw aaM (((0,Hp,Sc),())) fun q_=>
  sumC q_ (fun Fa=>
   let CP:=Fa.1;some (CP,())) (fun z_28=>
   let ad0:=z_28.1;c9 gh (ad0,0,24) fun E7=>
    some (E7.1,()))
abbrev Wh.aa5:Type:=(Int×Int×List Int)×Unit
abbrev Wh.ah_:Type:=Bool×Unit⊕Unit×Unit
def Wh.Mt (x:aa5):Option (aa5⊕ah_):=
 let CT:=x.1.1;let Eb:=x.1.2.1;let Ua:=x.1.2.2;let AN:=decide (CT<(↑(List.length Ua):Int));bif AN then
  let A4:=List.getD Ua (Int.toNat CT) 0;let pg:=A4==Eb;bif kL [decide (0≤CT),AN] then
   bif pg then
    some (.inr (.inl (true,())))
   else
    some (.inl (((IntKind.wrap .i64 (CT+1)),Eb,Ua),()))
  else none
 else
  some (.inr (.inr ((),())))
def Wh.aa6:Bool×Unit⊕Unit×Unit:=.inl default
def Wh.EH (xs:List Int×Int):Option (Bool×Unit):=
 let Hp:=xs.1;let n_1:=xs.2;g8 Mt aa6 (((0,n_1,Hp),())) fun q_=>
  sumC q_ (fun y_17=>
   let s9:=y_17.1;some (s9,())) (fun _=>
   some (false,()))
abbrev Wh.abZ:Type:=(Int×Int×Unit)×ei.D
abbrev Wh.aiB:Type:=Bool×Unit⊕(Unit×Int)×ei.D
def Wh.MG (x:abZ):Option (abZ⊕aiB):=
 let J4:=x.1.1;let Dl:=x.1.2.1;let s5:=x.2;let JL:Int:=(↑(List.length (s5.2.2.1)):Int);bif decide (J4<JL) then
  let B9:=J4 != Dl;bn (zog EH ((List.getD (s5.2.2.1) (Int.toNat J4) ([],[],())).1,List.getD ((List.getD (s5.2.2.1) (Int.toNat Dl) ([],[],())).1) (Int.toNat 0) 0)) fun r_52=>
  let IC:=bif B9 then r_52.1 else false;bif kL [!B9 || qu (EH ((List.getD (s5.2.2.1) (Int.toNat J4) ([],[],())).1,List.getD ((List.getD (s5.2.2.1) (Int.toNat Dl) ([],[],())).1) (Int.toNat 0) 0)),!B9 || decide ((0:Int)≤0),!B9 || decide (0<(↑(List.length ((List.getD (s5.2.2.1) (Int.toNat Dl) ([],[],())).1)):Int)),!B9 || decide (0≤Dl),!B9 || decide (Dl<JL),!B9 || decide (0≤J4),!B9 || decide (J4<JL)] then
   bif IC then
    some (.inr (.inl (false,())))
   else
    some (.inl (((IntKind.wrap .i64 (J4+1)),Dl,()),s5))
  else none
 else
  some (.inr (.inr (((),Dl),s5)))
def Wh.ab0:Bool×Unit⊕(Unit×Int)×ei.D:=.inl default
abbrev Wh.abX:Type:=(Int×Unit)×ei.D
abbrev Wh.aiA:Type:=Bool×Unit⊕Unit×Unit
def Wh.ME (x:abX):Option (abX⊕aiA):=
 let HL:=x.1.1;let Bi:=x.2;let v_64:Int:=(↑(List.length (Bi.2.2.1)):Int);bif decide (HL<v_64) then
  g8 MG ab0 (((0,HL,()),Bi)) fun q_=>
   sumC q_ (fun y_67=>
    let E8:=y_67.1;some (.inr (.inl (E8,())))) (fun z_68=>
    let i_70:=z_68.1.2;let Bt:=z_68.2;some (.inl (((IntKind.wrap .i64 (i_70+1)),()),Bt)))
 else
  some (.inr (.inr ((),())))
def Wh.abY:Bool×Unit⊕Unit×Unit:=.inl default
abbrev Wh.abV:Type:=(Int×Unit)×ei.D
abbrev Wh.aiz:Type:=Bool×Unit⊕Unit×ei.D
def Wh.K7 (x:abV):Option (abV⊕aiz):=
 let DP:=x.1.1;let s_:=x.2;let v5:Int:=(↑(List.length (s_.2.2.1)):Int);bif decide (DP<v5) then
  let BR:=List.getD (s_.2.2.1) (Int.toNat DP) ([],[],());bif kL [decide (0≤DP),decide (DP<v5)] then
   bn (zog Ik (BR.1,s_.1)) fun DW=>
   let w9:=bif bif bif !DW.1 then true else(↑(List.length BR.1):Int)==0 then true else(↑(List.length BR.2.1):Int) != s_.2.1 then true else bif decide (DP>0) then decide (List.getD ((List.getD (s_.2.2.1) (Int.toNat (IntKind.wrap .i64 (DP-1))) ([],[],())).1) (Int.toNat 0) 0≥List.getD BR.1 (Int.toNat 0) 0) else false;bif kL [!(decide (DP>0) && !bif bif !DW.1 then true else(↑(List.length BR.1):Int)==0 then true else(↑(List.length BR.2.1):Int) != s_.2.1) || decide ((0:Int)≤0),!(decide (DP>0) && !bif bif !DW.1 then true else(↑(List.length BR.1):Int)==0 then true else(↑(List.length BR.2.1):Int) != s_.2.1) || decide (0<(↑(List.length BR.1):Int)),!(decide (DP>0) && !bif bif !DW.1 then true else(↑(List.length BR.1):Int)==0 then true else(↑(List.length BR.2.1):Int) != s_.2.1) || decide ((0:Int)≤0),!(decide (DP>0) && !bif bif !DW.1 then true else(↑(List.length BR.1):Int)==0 then true else(↑(List.length BR.2.1):Int) != s_.2.1) || decide (0<(↑(List.length ((List.getD (s_.2.2.1) (Int.toNat (IntKind.wrap .i64 (DP-1))) ([],[],())).1)):Int)),!(decide (DP>0) && !bif bif !DW.1 then true else(↑(List.length BR.1):Int)==0 then true else(↑(List.length BR.2.1):Int) != s_.2.1) || decide (0≤IntKind.wrap .i64 (DP-1)),!(decide (DP>0) && !bif bif !DW.1 then true else(↑(List.length BR.1):Int)==0 then true else(↑(List.length BR.2.1):Int) != s_.2.1) || decide (IntKind.wrap .i64 (DP-1)<v5),qu (Ik (BR.1,s_.1))] then
    bif w9 then
     some (.inr (.inl (false,())))
    else
     some (.inl (((IntKind.wrap .i64 (DP+1)),()),s_))
   else none
  else none
 else
  some (.inr (.inr ((),s_)))
def Wh.abW:Bool×Unit⊕Unit×ei.D:=.inl default
def Wh.Gk (xs:ei.D):Option (Bool×Unit):=
 let cx:=xs;bn (zog gh (cx.1,1,24)) fun r_1=>
 bn (zog gh (cx.2.1,1,16)) fun r_2=>
 let AO:=bif !r_1.1 then true else !r_2.1;bif kL [!!!r_1.1 || qu (gh (cx.2.1,1,16)),qu (gh (cx.1,1,24))] then
  bif AO then
   some (false,())
  else
   g8 K7 abW (((0,()),cx)) fun q_=>
    sumC q_ (fun C6=>
     let Gv:=C6.1;some (Gv,())) (fun z_30=>
     let AJ:=z_30.2;g8 ME abY (((0,()),AJ)) fun q_=>
      sumC q_ (fun BE=>
       let v_76:=BE.1;some (v_76,())) (fun _=>
       some (true,())))
 else none
def Wh.F_ (xs:nT.D):Option (Bool×Unit):=
 let nc:=xs;bn (zog Ef nc.1) fun r_1=>
 bn (zog Gk nc.2.1) fun r_2=>
 bn (zog Bn nc.1) fun gT=>
 let A9:=bif bif bif r_1.1 then r_2.1 else false then nc.2.1.1==gT.1 else false then nc.2.1.2.1==nc.1.2.1 else false;bif kL [(!bif r_1.1 then r_2.1 else false) || qu (Bn nc.1),!r_1.1 || qu (Gk nc.2.1),qu (Ef nc.1)] then
  some (A9,())
 else none
def Wh.E6 (xs:nT.D):Option (Bool×Unit):=
 let nc:=xs;bn (zog F_ nc) fun r_1=>
 bn (zog Bn nc.1) fun r_2=>
 let AP:=bif r_1.1 then(↑(List.length (nc.2.1.2.2.1)):Int)==r_2.1 else false;bif kL [!r_1.1 || qu (Bn nc.1),qu (F_ nc)] then
  some (AP,())
 else none
def Wh.Eh (xs:bm.D):Option (Bool×Unit):=
 let b8:=xs;bn (zog gh (b8.1,0,3)) fun r_1=>
 bn (zog gh (b8.2.1,0,99999)) fun r_2=>
 bn (zog gh (b8.2.2.1,0,4)) fun gT=>
 bn (zog gh (b8.2.2.2.2.1,0,99999)) fun AU=>
 let A9:=bif bif bif !r_1.1 then true else !r_2.1 then true else !gT.1 then true else !AU.1;bif kL [(!!bif bif !r_1.1 then true else !r_2.1 then true else !gT.1) || qu (gh (b8.2.2.2.2.1,0,99999)),(!!bif !r_1.1 then true else !r_2.1) || qu (gh (b8.2.2.1,0,4)),!!!r_1.1 || qu (gh (b8.2.1,0,99999)),qu (gh (b8.1,0,3))] then
  bif A9 then
   some (false,())
  else
   let BW:=b8.2.2.2.2.1==0;bn (zog KA b8) fun BU=>
   bn (zog F_ (b8.2.2.2.2.2.1)) fun Dd=>
   let BA:=bif bif BW then !BU.1 else false then true else bif decide (b8.2.2.2.2.1>0) then !Dd.1 else false;bif kL [!(decide (b8.2.2.2.2.1>0) && !bif BW then !BU.1 else false) || qu (F_ (b8.2.2.2.2.2.1)),!BW || qu (KA b8)] then
    bif BA then
     some (false,())
    else
     bif(b8.2.2.1==0) then
      let Av:=b8.2.2.2.1 == [];some (bif Av then BW else false,())
     else
      let v5:=b8.2.1==0;bn (zog DU (b8.2.2.2.1)) fun Hi=>
      let iL:=bif v5 then true else !Hi.1;bif kL [!!v5 || qu (DU (b8.2.2.2.1))] then
       bif iL then
        some (false,())
       else
        bif(b8.2.2.1==2) then
         let nW:=decide (b8.2.2.2.2.1>0);bn (zog E6 (b8.2.2.2.2.2.1)) fun Gp=>
         let Gu:=bif nW then !Gp.1 else false;bif kL [!nW || qu (E6 (b8.2.2.2.2.2.1))] then
          some (Gu,())
         else none
        else
         bif(b8.2.2.1==3) then
          let Dy:=decide (b8.2.2.2.2.1>0);bn (zog E6 (b8.2.2.2.2.2.1)) fun ML=>
          let B7:=bif Dy then ML.1 else false;bif kL [!Dy || qu (E6 (b8.2.2.2.2.2.1))] then
           some (B7,())
          else none
         else
          bn (zog E6 (b8.2.2.2.2.2.1)) fun E7=>
          let BX:=bif BW then true else !E7.1;bif kL [!!BW || qu (E6 (b8.2.2.2.2.2.1))] then
           some (BX,())
          else none
      else none
   else none
 else none
def Wh.Kz (xs:eL.D):Option (List eL.D×Unit):=
 let w_0:=xs;let Ed:List (eL.D):=[(5,w_0.2.1,w_0.2.2.1,w_0.2.2.2.1,0,[],[],())];some (Ed,())
abbrev Wh.aav:Type:=(Int×Unit×Unit)×List (List UInt8)×List Int
abbrev Wh.ahS:Type:=Unit×List Int
def Wh.OC (x:aav):Option (aav⊕ahS):=
 let z9:=x.1.1;let w7:=x.2.1;let Ey:=x.2.2;let Av:Int:=(↑(List.length w7):Int);let iL:=bif decide (z9<Av) then decide (z9≤3) else false;bif iL then
  bn (zog AD (List.getD w7 (Int.toNat z9) [])) fun DW=>
  let BG:=Ey ++ [DW.1];let AW:=List.getD w7 (Int.toNat z9) [];bif kL [decide (List.length Ey+(1:Nat)≤eV),qu (AD AW),decide (0≤z9),decide (z9<Av)] then
   some (.inl (((IntKind.wrap .i64 (z9+1)),(),()),w7,BG))
  else none
 else
  some (.inr ((),Ey))
def Wh.aaw:Unit×List Int:=default
def Wh.Ic (xs:List UInt8):Option (List Int×Unit):=
 let cx:=xs;c9 DH (cx,44) fun r_1=>
  g8 OC aaw (((0,(),()),r_1.1,[])) fun Fa=>
   let r5:=Fa.2;some (r5,())
def Wh.q68 (xs:List UInt8):Option (((Int×Int×List Int×List Int×Unit)×Bool)×Unit):=
 let Bj:=xs;c9 DH (Bj,58) fun r_1=>
  let v_2:Int:=(↑(List.length r_1.1):Int);let AO:=v_2 != 3;bif AO then
   some (((0,0,[],[],()),false),())
  else
   bn (zog DH (List.getD r_1.1 (Int.toNat 0) [],47)) fun dz=>
   let nP:=List.getD r_1.1 (Int.toNat 0) [];bif kL [qu (DH (nP,47)),true,decide (0<v_2)] then
    let n4:Int:=(↑(List.length dz.1):Int);let n_:=n4 != 2;bif n_ then
     some (((0,0,[],[],()),false),())
    else
     bn (zog Ic (List.getD r_1.1 (Int.toNat 1) [])) fun AU=>
     bn (zog Ic (List.getD r_1.1 (Int.toNat 2) [])) fun z4=>
     bn (zog AD (List.getD dz.1 (Int.toNat 1) [])) fun By=>
     bn (zog AD (List.getD dz.1 (Int.toNat 0) [])) fun BU=>
     let AN:=List.getD dz.1 (Int.toNat 0) [];let A4:=List.getD dz.1 (Int.toNat 1) [];let pg:=List.getD r_1.1 (Int.toNat 1) [];let BA:=List.getD r_1.1 (Int.toNat 2) [];bif kL [qu (Ic BA),true,decide (2<v_2),qu (Ic pg),true,decide (1<v_2),qu (AD A4),true,decide (1<n4),qu (AD AN),true,decide (0<n4)] then
      c9 E5 (BU.1,By.1,AU.1,z4.1,()) fun Fz=>
       bif(!Fz.1==Bj) then
        some (((0,0,[],[],()),false),())
       else
        some (((BU.1,By.1,AU.1,z4.1,()),true),())
     else none
   else none
def Wh.q47 (xs:Int×Int):Option ((Int×Int×List e_.D×Unit)×Unit):=
 let Ff:=xs.1;let size_1:=xs.2;bn (zog gh (Ff,1,24)) fun r_2=>
 bn (zog gh (size_1,1,16)) fun r_3=>
 let AP:=bif !r_2.1 then true else !r_3.1;bif kL [!!!r_2.1 || qu (gh (size_1,1,16)),qu (gh (Ff,1,24))] then
  bif AP then
   some ((0,0,[],()),())
  else
   some ((Ff,size_1,[],()),())
 else none
def Wh.Mi (xs:gv.D):Option (((Int×Int×List Int×List Int×Unit)×(Int×Int×List e_.D×Unit)×Unit)×Unit):=
 let fy:gv.D:=xs;c9 Ef fy fun r_1=>
  bif !r_1.1 then
   some (((0,0,[],[],()),(0,0,[],()),()),())
  else
   bn (zog Ie fy) fun r_2=>
   bn (zog Bn fy) fun r_3=>
   bn (zog q47 (r_3.1,fy.2.1)) fun dz=>
   bif kL [qu (q47 (r_3.1,fy.2.1)),qu (Bn fy),qu (Ie fy)] then
    some ((r_2.1,(dz.1.1,dz.1.2.1,dz.1.2.2.1,dz.1.2.2.2),()),())
   else none
def Wh.q51 (xs:bm.D×eL.D):Option (bm.D×Unit):=
 let b8:=xs.1;let w_1:=xs.2;c9 q68 (w_1.2.2.2.2.2.2.1) fun r_2=>
  let AP:=bif(b8.2.2.1 != 1) then true else !r_2.1.2;bif AP then
   some (b8,())
  else
   bif(b8.2.2.2.2.1==0) then
    c9 Mi r_2.1.1 fun ov=>
     some ((b8.1,b8.2.1,2,b8.2.2.2.1,w_1.2.2.2.1,ov.1,b8.2.2.2.2.2.2),())
   else
    let n_:=b8.2.2.2.2.1==w_1.2.2.2.1;bn (zog E5 (b8.2.2.2.2.2.1.1)) fun AU=>
    let A9:=bif n_ then AU.1==w_1.2.2.2.2.2.2.1 else false;bif kL [!n_ || qu (E5 (b8.2.2.2.2.2.1.1))] then
     bif A9 then
      some ((b8.1,b8.2.1,2,b8.2.2.2),())
     else
      some (b8,())
    else none
abbrev Wh.aa3:Type:=(Int×Unit×Int)×ei.D
abbrev Wh.ah9:Type:=(List UInt8×Bool)×Unit⊕Unit×Unit
def Wh.Ms (x:aa3):Option (aa3⊕ah9):=
 let BN:=x.1.1;let at_14:=x.1.2.2;let w7:=x.2;let n5:Int:=(↑(List.length (w7.2.2.1)):Int);bif decide (BN<n5) then
  let v5:=List.getD (w7.2.2.1) (Int.toNat BN) ([],[],());let nW:=bif(↑(List.length v5.1):Int)==1 then List.getD v5.1 (Int.toNat 0) 0==at_14 else false;bif kL [!(↑(List.length v5.1):Int)==1 || decide ((0:Int)≤0),!(↑(List.length v5.1):Int)==1 || decide (0<(↑(List.length v5.1):Int)),!(↑(List.length v5.1):Int)==1 || decide (0≤BN),!(↑(List.length v5.1):Int)==1 || decide (BN<n5),decide (0≤BN),decide (BN<n5)] then
   bif nW then
    bif kL [decide (0≤BN),decide (BN<n5)] then
     some (.inr (.inl ((v5.2.1,true),())))
    else none
   else
    some (.inl (((IntKind.wrap .i64 (BN+1)),(),at_14),w7))
  else none
 else
  some (.inr (.inr ((),())))
def Wh.aa4:(List UInt8×Bool)×Unit⊕Unit×Unit:=.inl default
def Wh.KU (xs:ei.D×Int):Option ((List UInt8×Bool)×Unit):=
 let cx:=xs.1;let C_:=xs.2;g8 Ms aa4 (((0,(),C_),cx)) fun q_=>
  sumC q_ (fun RO=>
   let Dy:=RO.1.1;let v9:=RO.1.2;some ((Dy,v9),())) (fun _=>
   some (([],false),()))
abbrev Wh.acf:Type:=(Int×Unit)×ei.D
abbrev Wh.aiI:Type:=Int×Unit
def Wh.Q5 (x:acf):Option (acf⊕aiI):=
 let n_6:=x.1.1;let ls_7:=x.2;c9 KU (ls_7,n_6) fun AU=>
  bif(!AU.1.2) then
   some (.inr (n_6,()))
  else
   some (.inl (((IntKind.wrap .i64 (n_6+1)),()),ls_7))
def Wh.acg:Int×Unit:=default
def Wh.q86 (xs:ei.D):Option (Int×Unit):=
 let cx:=xs;g8 Q5 acg (((0,()),cx)) fun y_12=>
  let A4:=y_12.1;some (A4,())
abbrev Wh.abH:Type:=(Int×Int×Unit)×nT.D
abbrev Wh.ais:Type:=Int×Unit
def Wh.QY (x:abH):Option (abH⊕ais):=
 let Eb:=x.1.1;let k_11:=x.1.2.1;let J7:=x.2;let A4:Int:=(↑(List.length (J7.1.2.2.1)):Int);let n5:=bif decide (Eb<A4) then decide (List.getD (J7.1.2.2.1) (Int.toNat Eb) 0≤k_11) else false;bif kL [!decide (Eb<A4) || decide (0≤Eb),!decide (Eb<A4) || decide (Eb<A4)] then
  bif n5 then
   some (.inl (((IntKind.wrap .i64 (Eb+1)),k_11,()),J7))
  else
   some (.inr (Eb,()))
 else none
def Wh.abI:Int×Unit:=default
def Wh.q58 (xs:nT.D):Option (Int×Unit):=
 let nc:=xs;c9 q86 nc.2.1 fun r_1=>
  g8 QY abI (((0,r_1.1,()),nc)) fun y_19=>
   let n_20:=y_19.1;some (n_20,())
def Wh.E3 (xs:Int):Option (Int×Unit):=
 let Ue:=xs;some ((Int.tmod (IntKind.wrap .i64 ((IntKind.wrap .i64 (Ue*1103515245))+12345)) 2147483648),())
def Wh.EG (xs:Int×Int):Option (Int×Unit):=
 let Ue:=xs.1;let n_1:=xs.2;bif kL [n_1 != 0,true] then
  some (Int.tmod (IntKind.wrap .i64 (Int.tdiv Ue 256)) n_1,())
 else none
abbrev Wh.acm:Type:=(Int×Unit×Int)×gv.D
abbrev Wh.aiL:Type:=Int×Unit⊕Unit×gv.D
def Wh.JD (x:acm):Option (acm⊕aiL):=
 let GK:=x.1.1;let NT:=x.1.2.2;let nI:=x.2;let Hs:Int:=(↑(List.length (nI.2.2.2.1)):Int);bif decide (GK<Hs) then
  let Ln:=List.getD (nI.2.2.2.1) (Int.toNat GK) 0;bif kL [decide (0≤GK),decide (GK<Hs)] then
   bif decide (NT<Ln) then
    let v_48:=List.getD (nI.2.2.1) (Int.toNat GK) 0;bif kL [decide (0≤GK),decide (GK<(↑(List.length (nI.2.2.1)):Int))] then
     some (.inr (.inl (v_48,())))
    else none
   else
    bif kL [decide (0≤GK),decide (GK<Hs)] then
     some (.inl (((IntKind.wrap .i64 (GK+1)),(),(IntKind.wrap .i64 (NT-Ln))),nI))
    else none
  else none
 else
  some (.inr (.inr ((),nI)))
def Wh.acn:Int×Unit⊕Unit×gv.D:=.inl default
abbrev Wh.acj:Type:=(Int×Unit×Int×Int)×gv.D
abbrev Wh.aiK:Type:=(Unit×Int×Int)×gv.D
def Wh.JC (x:acj):Option (acj⊕aiK):=
 let CF:=x.1.1;let ada:=x.1.2.2.1;let acK:=x.1.2.2.2;let w7:=x.2;let n5:Int:=(↑(List.length (w7.2.2.2.1)):Int);bif decide (CF<n5) then
  let v5:=List.getD (w7.2.2.2.1) (Int.toNat CF) 0;bif kL [decide (0≤CF),decide (CF<n5)] then
   some (.inl (((IntKind.wrap .i64 (CF+1)),(),(IntKind.wrap .i64 (ada+v5)),acK),w7))
  else none
 else
  some (.inr (((),ada,acK),w7))
def Wh.ack:(Unit×Int×Int)×gv.D:=default
def Wh.Hh (xs:gv.D×Int):Option (Int×Unit):=
 let fy:=xs.1;let Rk:=xs.2;g8 JC ack (((0,(),0,Rk),fy)) fun Ht=>
  let adb:=Ht.1.2.1;let acL:=Ht.1.2.2;let BB:=Ht.2;bn (zog E3 acL) fun EI=>
  bn (zog EG (EI.1,adb)) fun OL=>
  bif kL [qu (EG (EI.1,adb)),qu (E3 acL)] then
   g8 JD acn (((0,(),OL.1),BB)) fun q_=>
    sumC q_ (fun B_=>
     let JM:=B_.1;some (JM,())) (fun z_54=>
     let oc:=z_54.2;c9 Bn oc fun r_57=>
      some (r_57.1,()))
  else none
abbrev Wh.abF:Type:=(Int×Int×Unit×Int)×List Int
abbrev Wh.air:Type:=(Int×Unit)×List Int
def Wh.JB (x:abF):Option (abF⊕air):=
 let HD:=x.1.1;let FR:=x.1.2.1;let HC:=x.1.2.2.2;let ng:=x.2;bif decide (HD<HC) then
  let EL:=IntKind.wrap .i64 (Int.tdiv 65536 HC);bif kL [HC != 0] then
   bif decide (HD>1) then
    let EM:=IntKind.wrap .i64 (HD-1);let n_44:=IntKind.wrap .i64 (Int.tdiv (IntKind.wrap .i64 (IntKind.wrap .i64 (Int.tdiv 65536 (IntKind.wrap .i64 (HD*EM)))*7)) 8);bif kL [true,IntKind.wrap .i64 (HD*EM) != 0] then
     bif decide (n_44>FR) then
      let TP:List Int:=[FR];let A1:=ng++TP;bif kL [decide (List.length ng+(1:Nat)≤eV)] then
       some (.inl (((IntKind.wrap .i64 (HD+1)),(IntKind.wrap .i64 (FR-FR)),(),HC),A1))
      else none
     else
      let pb_50:List Int:=[n_44];let w8:=ng++pb_50;bif kL [decide (List.length ng+(1:Nat)≤eV)] then
       some (.inl (((IntKind.wrap .i64 (HD+1)),(IntKind.wrap .i64 (FR-n_44)),(),HC),w8))
      else none
    else none
   else
    bif decide (EL>FR) then
     let QA:List Int:=[FR];let oc:=ng++QA;bif kL [decide (List.length ng+(1:Nat)≤eV)] then
      some (.inl (((IntKind.wrap .i64 (HD+1)),(IntKind.wrap .i64 (FR-FR)),(),HC),oc))
     else none
    else
     let TQ:List Int:=[EL];let Bh:=ng++TQ;bif kL [decide (List.length ng+(1:Nat)≤eV)] then
      some (.inl (((IntKind.wrap .i64 (HD+1)),(IntKind.wrap .i64 (FR-EL)),(),HC),Bh))
     else none
  else none
 else
  some (.inr ((FR,()),ng))
def Wh.abG:(Int×Unit)×List Int:=default
def Wh.q57 (xs:Int):Option (List Int×Unit):=
 let Ff:=xs;g8 JB abG (((1,65536,(),Ff),[])) fun FI=>
  let afF:=FI.1.1;let CV:=FI.2;let pb_67:List Int:=[afF];let Cv:=CV++pb_67;bif kL [decide (List.length CV+(1:Nat)≤eV)] then
   some (Cv,())
  else none
abbrev Wh.ach:Type:=(Int×Unit×Int×Int)×List Int
abbrev Wh.aiJ:Type:=Int×Unit⊕Int×Unit
def Wh.K9 (x:ach):Option (ach⊕aiJ):=
 let PA:=x.1.1;let Zb:=x.1.2.2.1;let W6:=x.1.2.2.2;let AI:=x.2;bif decide (PA<(↑(List.length AI):Int)) then
  let iL:=IntKind.wrap .i64 (PA-1);bif kL [decide (0≤iL),decide (iL<(↑(List.length AI):Int))] then
   bif decide (Zb<List.getD AI (Int.toNat iL) 0) then
    some (.inr (.inl (PA,())))
   else
    bif kL [decide (0≤iL),decide (iL<(↑(List.length AI):Int))] then
     some (.inl (((IntKind.wrap .i64 (PA+1)),(),(IntKind.wrap .i64 (Zb-List.getD AI (Int.toNat iL) 0)),W6),AI))
    else none
  else none
 else
  some (.inr (.inr (W6,())))
def Wh.aci:Int×Unit⊕Int×Unit:=.inl default
def Wh.q87 (xs:Int×Int):Option (Int×Unit):=
 let Ff:=xs.1;let part_1:=xs.2;c9 q57 Ff fun r_2=>
  g8 K9 aci (((1,(),part_1,Ff),r_2.1)) fun q_=>
   sumC q_ (fun Lt=>
    let B7:=Lt.1;some (B7,())) (fun z_29=>
    let ad1:=z_29.1;some (ad1,()))
abbrev Wh.aap:Type:=(Int×List Int×Int)×Unit
abbrev Wh.ahP:Type:=(Int×List Int×Int)×Unit
def Wh.Jr (x:aap):Option (aap⊕ahP):=
 let k_8:=x.1.1;let Qf:=x.1.2.1;let Eb:=x.1.2.2;let B6:=decide (k_8<(↑(List.length Qf):Int));let AN:=bif B6 then decide (List.getD Qf (Int.toNat k_8) 0<Eb) else false;bif kL [!B6 || decide (0≤k_8),!B6 || B6] then
  bif AN then
   some (.inl (((IntKind.wrap .i64 (k_8+1)),Qf,Eb),()))
  else
   some (.inr ((k_8,Qf,Eb),()))
 else none
def Wh.aaq:(Int×List Int×Int)×Unit:=default
def Wh.Jq (xs:List Int×Int):Option (List Int×Unit):=
 let J5:=xs.1;let n_1:=xs.2;g8 Jr aaq (((0,J5,n_1),())) fun y_15=>
  let GM:=y_15.1.1;let GQ:=y_15.1.2.1;let n_18:=y_15.1.2.2;let Kj:List Int:=[]++List.take (Int.toNat (GM-0)) (List.drop (Int.toNat 0) GQ);let BR:List Int:=[n_18];let pb_22:List Int:=Kj++BR++List.take (Int.toNat ((↑(List.length GQ):Int)-GM)) (List.drop (Int.toNat GM) GQ);let nE:List Int:=List.take (Int.toNat (GM-0)) (List.drop (Int.toNat 0) GQ);let AW:List Int:=List.take (Int.toNat ((↑(List.length GQ):Int)-GM)) (List.drop (Int.toNat GM) GQ);bif kL [decide (List.length (Kj++BR)+List.length AW≤eV),decide (0≤GM),decide (GM≤(↑(List.length GQ):Int)),decide ((↑(List.length GQ):Int)≤(↑(List.length GQ):Int)),decide (List.length Kj+(1:Nat)≤eV),decide ((0:Nat)+List.length nE≤eV),true,decide (0≤GM),decide (GM≤(↑(List.length GQ):Int))] then
   some (pb_22,())
  else none
end
