import Derived.Test.YthanhdmbelbfcaaGreatX5
set_option linter.defProp false
namespace Wh
end Wh
open Wh
open Go Go.Ab
noncomputable section
abbrev T0:Ty:=(.pair (.int .i64) (.pair (.int .i64) (.pair .bool (.pair (.int .u8) .unit))))
abbrev T0.D:Type:=Int×Int×Bool×Int×Unit
abbrev T1:Ty:=(.pair .str (.pair (.int .u64) .unit))
abbrev T1.D:Type:=List UInt8×Int×Unit
abbrev gh:Ty:=(.pair (.int .i64) (.pair (.int .i64) (.pair (.lst (.int .i64)) (.pair (.lst (.int .i64)) .unit))))
abbrev gh.D:Type:=Int×Int×List Int×List Int×Unit
abbrev e_:Ty:=(.pair (.int .i64) (.pair (.int .i64) (.pair (.lst (.pair (.lst (.int .i64)) (.pair .str .unit))) .unit)))
abbrev e_.D:Type:=Int×Int×List (List Int×List UInt8×Unit)×Unit
abbrev x4:Ty:=(.pair gh (.pair e_ .unit))
abbrev x4.D:Type:=gh.D×e_.D×Unit
abbrev bm:Ty:=(.pair (.int .i64) (.pair (.int .i64) (.pair (.int .i64) (.pair .str (.pair (.int .i64) (.pair x4 .unit))))))
abbrev bm.D:Type:=Int×Int×Int×List UInt8×Int×x4.D×Unit
abbrev ei:Ty:=(.pair (.int .i64) (.pair (.int .i64) (.pair (.int .i64) (.pair (.int .i64) (.pair (.int .i64) (.pair .str (.pair .str .unit)))))))
abbrev ei.D:Type:=Int×Int×Int×Int×Int×List UInt8×List UInt8×Unit
abbrev g7:Ty:=(.pair (.int .i64) (.pair (.lst (.pair (.int .i64) (.pair .str (.pair (.int .i64) (.pair .str .unit))))) .unit))
abbrev g7.D:Type:=Int×List (Int×List UInt8×Int×List UInt8×Unit)×Unit
abbrev mb:Ty:=(.pair (.lst (.pair (.int .i64) (.pair (.int .i64) (.pair (.int .i64) (.pair (.int .i64) (.pair .bool .unit)))))) (.pair (.int .i64) .unit))
abbrev mb.D:Type:=List (Int×Int×Int×Int×Bool×Unit)×Int×Unit
abbrev b7:Ty:=(.pair .bool (.pair (.int .i64) (.pair .str (.pair g7 (.pair mb (.pair (.lst (.pair (.int .i64) (.pair (.int .i64) (.pair (.int .i64) (.pair (.int .i64) .unit))))) (.pair (.lst (.pair (.int .i64) (.pair (.int .i64) (.pair (.int .i64) (.pair (.int .i64) (.pair (.int .i64) (.pair (.int .i64) .unit))))))) .unit)))))))
abbrev b7.D:Type:=Bool×Int×List UInt8×g7.D×mb.D×List (Int×Int×Int×Int×Unit)×List (Int×Int×Int×Int×Int×Int×Unit)×Unit
abbrev eL:Ty:=(.pair b7 (.pair (.lst bm) (.pair (.lst (.pair (.int .i64) (.pair .str (.pair .bool .unit)))) (.pair (.lst (.pair (.int .i64) (.pair .str (.pair (.int .i64) (.pair .str .unit))))) .unit))))
abbrev eL.D:Type:=b7.D×List bm.D×List (Int×List UInt8×Bool×Unit)×List (Int×List UInt8×Int×List UInt8×Unit)×Unit
abbrev dj:Ty:=(.pair (.lst (.int .u8)) (.pair (.int .i64) .unit))
abbrev dj.D:Type:=List Int×Int×Unit
abbrev gv:Ty:=(.pair (.lst (.int .i64)) (.pair .str .unit))
abbrev gv.D:Type:=List Int×List UInt8×Unit
abbrev an:Ty:=(.pair (.int .i64) (.pair .str (.pair (.int .i64) (.pair .str .unit))))
abbrev an.D:Type:=Int×List UInt8×Int×List UInt8×Unit
abbrev cg:Ty:=(.pair (.int .i64) (.pair .str (.pair .bool .unit)))
abbrev cg.D:Type:=Int×List UInt8×Bool×Unit
abbrev di:Ty:=(.pair (.int .i64) (.pair (.int .i64) (.pair (.int .i64) (.pair .str (.pair .str (.pair .bool .unit))))))
abbrev di.D:Type:=Int×Int×Int×List UInt8×List UInt8×Bool×Unit
abbrev cw:Ty:=(.pair (.int .i64) (.pair (.int .i64) (.pair (.int .i64) (.pair (.int .i64) .unit))))
abbrev cw.D:Type:=Int×Int×Int×Int×Unit
abbrev BM:Ty:=(.pair (.int .i64) (.pair (.int .i64) (.pair (.int .i64) .unit)))
abbrev BM.D:Type:=Int×Int×Int×Unit
abbrev b9:Ty:=(.pair (.int .i64) (.pair (.int .i64) cw))
abbrev b9.D:Type:=Int×Int×cw.D
abbrev b8:Ty:=(.pair (.int .i64) (.pair (.int .i64) (.pair (.int .i64) (.pair (.int .i64) (.pair .bool .unit)))))
abbrev b8.D:Type:=Int×Int×Int×Int×Bool×Unit
def Wh.Ky (xs:List Int):Option (dj.D×Unit):=
 let Gw:=xs;bif decide ((↑(List.length Gw):Int)>2000) then
  let v_2:List Int:=List.take (Int.toNat ((2000:Int)-0)) (List.drop (Int.toNat 0) Gw);bif kL [true,true,decide (2000≤(↑(List.length Gw):Int))] then
   some ((v_2,0,()),())
  else none
 else
  some ((Gw,0,()),())
def Wh.HT (_:Unit):Option ((((List (b8.D))×((Int)×(Unit))))×(Unit)):=
 let pb_0:List (b8.D):=[(0,0,0,0,false,()),(0,0,0,0,false,()),(0,0,0,0,false,()),(0,0,0,0,false,()),(0,0,0,0,false,()),(0,0,0,0,false,()),(0,0,0,0,false,()),(0,0,0,0,false,())];some ((pb_0,0,()),())
abbrev Wh.aaN:Type:=(Int×Int×Unit)×List cw.D
abbrev Wh.ahg:Type:=Unit×List cw.D
def Wh.Mk (x:aaN):Option (aaN⊕ahg):=
 let h_8:=x.1.1;let now_9:=x.1.2.1;let HE:=x.2;bif decide (h_8<2) then
  let Tc:List (cw.D):=[(40,40,8,now_9,())];let PV:List (cw.D):=HE++Tc;bif kL [decide (List.length HE+(1:Nat)≤eV)] then
   some (.inl (((IntKind.wrap .i64 (h_8+1)),now_9,()),PV))
  else none
 else
  some (.inr ((),HE))
def Wh.aaO:Unit×List cw.D:=default
def Wh.H9 (xs:Int):Option (List cw.D×Unit):=
 let now_0:=xs;g8 Mk aaO (((0,now_0,()),[])) fun y_16=>
  let se:=y_16.2;some (se,())
def Wh.q40 (_:Unit):Option ((((Bool)×((Int)×((List UInt8)×(((Int)×((List (an.D))×(Unit)))×(((List (b8.D))×((Int)×(Unit)))×((List (cw.D))×((List (b9.D))×(Unit)))))))))×(Unit)):=
 bn (zog HT ()) fun vN=>
 bn (zog H9 0) fun r_1=>
 bif kL [qu (H9 0),qu (HT ())] then
  some ((true,0,[],(0,[],()),vN.1,r_1.1,[],()),())
 else none
def Wh.fN (xs:Int×Int×Int):Option (Bool×Unit):=
 let Dn:=xs.1;let SL:=xs.2.1;let Sq:=xs.2.2;let n_:=bif decide (Dn≥SL) then decide (Dn≤Sq) else false;some (n_,())
def Wh.q38 (xs:Int):Option ((Int×Int×Int×List UInt8×Int×((Int×Int×List Int×List Int×Unit)×(Int×Int×List gv.D×Unit)×Unit)×Unit)×Unit):=
 let id_0:=xs;c9 fN (id_0,0,3) fun r_1=>
  bif !r_1.1 then
   some ((0,0,0,[],0,((0,0,[],[],()),(0,0,[],()),()),()),())
  else
   some ((id_0,0,0,[],0,((0,0,[],[],()),(0,0,[],()),()),()),())
abbrev Wh.abe:Type:=(Int×Unit×Unit)×((Bool×Int×List UInt8×(Int×Unit×Unit)×(Unit×Int×Unit)×Unit×Unit×Unit)×Unit×Unit×Unit×Unit)×((Bool×Int×List UInt8×(Int×Unit×Unit)×(Unit×Int×Unit)×Unit×Unit×Unit)×Unit×Unit×Unit×Unit)×List an.D×List b8.D×List cw.D×List b9.D×List bm.D×List cg.D×List an.D×List an.D×List b8.D×List cw.D×List b9.D×List bm.D×List cg.D×List an.D
abbrev Wh.ahu:Type:=(Unit×Unit)×((Bool×Int×List UInt8×(Int×Unit×Unit)×(Unit×Int×Unit)×Unit×Unit×Unit)×Unit×Unit×Unit×Unit)×((Bool×Int×List UInt8×(Int×Unit×Unit)×(Unit×Int×Unit)×Unit×Unit×Unit)×Unit×Unit×Unit×Unit)×List an.D×List b8.D×List cw.D×List b9.D×List bm.D×List cg.D×List an.D×List an.D×List b8.D×List cw.D×List b9.D×List bm.D×List cg.D×List an.D
def Wh.QA (x:abe):Option (abe⊕ahu):=
 let Df:=x.1.1;let nC:=x.2.1.1.1;let AQ:=x.2.1.1.2.1;let AR:=x.2.1.1.2.2.1;let AF:=x.2.1.1.2.2.2.1.1;let AG:=x.2.1.1.2.2.2.1.2.2;let nG:=x.2.1.1.2.2.2.2.1.2;let x3:=x.2.1.1.2.2.2.2.2.2.2;let tn:=x.2.1.2.2.2.2;let wv:=x.2.2.1.1.1;let AU:=x.2.2.1.1.2.1;let pg:=x.2.2.1.1.2.2.1;let z5:=x.2.2.1.1.2.2.2.1.1;let nE:=x.2.2.1.1.2.2.2.1.2.2;let we:=x.2.2.1.1.2.2.2.2.1.2;let s9:=x.2.2.1.1.2.2.2.2.2.2.2;let Ax:=x.2.2.1.2.2.2.2;let AV:=x.2.2.2.1;let AH:=x.2.2.2.2.1;let nP:=x.2.2.2.2.2.1;let AA:=x.2.2.2.2.2.2.1;let Ck:=x.2.2.2.2.2.2.2.1;let B9:=x.2.2.2.2.2.2.2.2.1;let Ba:=x.2.2.2.2.2.2.2.2.2.1;let BI:=x.2.2.2.2.2.2.2.2.2.2.1;let B_:=x.2.2.2.2.2.2.2.2.2.2.2.1;let Bb:=x.2.2.2.2.2.2.2.2.2.2.2.2.1;let AW:=x.2.2.2.2.2.2.2.2.2.2.2.2.2.1;let BJ:=x.2.2.2.2.2.2.2.2.2.2.2.2.2.2.1;let CQ:=x.2.2.2.2.2.2.2.2.2.2.2.2.2.2.2.1;let BA:=x.2.2.2.2.2.2.2.2.2.2.2.2.2.2.2.2;bif decide (Df<4) then
  bn (zog q38 Df) fun r_69=>
  let Bl:=Ck ++ [r_69.1];bif kL [decide (List.length Ck+(1:Nat)≤eV),qu (q38 Df)] then
   some (.inl (((IntKind.wrap .i64 (Df+1)),(),()),((nC,AQ,AR,(AF,(),AG),((),nG),(),(),x3),(),(),(),tn),((wv,AU,pg,(z5,(),nE),((),we),(),(),s9),(),(),(),Ax),AV,AH,nP,AA,Bl,B9,Ba,BI,B_,Bb,AW,BJ,CQ,BA))
  else none
 else
  some (.inr (((),()),((wv,AU,pg,(z5,(),nE),((),we),(),(),s9),(),(),(),Ax),((nC,AQ,AR,(AF,(),AG),((),nG),(),(),x3),(),(),(),tn),BI,B_,Bb,AW,BJ,CQ,BA,AV,AH,nP,AA,Ck,B9,Ba))
def Wh.abf:(Unit×Unit)×((Bool×Int×List UInt8×(Int×Unit×Unit)×(Unit×Int×Unit)×Unit×Unit×Unit)×Unit×Unit×Unit×Unit)×((Bool×Int×List UInt8×(Int×Unit×Unit)×(Unit×Int×Unit)×Unit×Unit×Unit)×Unit×Unit×Unit×Unit)×List an.D×List b8.D×List cw.D×List b9.D×List bm.D×List cg.D×List an.D×List an.D×List b8.D×List cw.D×List b9.D×List bm.D×List cg.D×List an.D:=(default,(default,default,default,default,default,default,default,default,default,default,default,default,default,default,default,default))
def Wh.q64 (_:Unit):Option (((eL.D))×(Unit)):=
 c9 q40 () fun vN=>
  g8 QA abf (((0,(),()),((vN.1.1,vN.1.2.1,vN.1.2.2.1,(vN.1.2.2.2.1.1,(),vN.1.2.2.2.1.2.2),((),vN.1.2.2.2.2.1.2),(),(),vN.1.2.2.2.2.2.2.2),(),(),(),()),((false,0,[],(0,(),()),((),0,()),(),(),()),(),(),(),()),vN.1.2.2.2.1.2.1,vN.1.2.2.2.2.1.1,vN.1.2.2.2.2.2.1,vN.1.2.2.2.2.2.2.1,[],[],[],[],[],[],[],[],[],[])) fun Bw=>
   let DF:=Bw.2.2.1.1.1;let CT:=Bw.2.2.1.1.2.1;let Dl:=Bw.2.2.1.1.2.2.1;let J6:=Bw.2.2.1.1.2.2.2.1.1;let NU:=Bw.2.2.1.1.2.2.2.1.2.2;let NV:=Bw.2.2.1.1.2.2.2.2.1.2;let J7:=Bw.2.2.1.1.2.2.2.2.2.2.2;let SY:=Bw.2.2.1.2.2.2.2;let Fl:=Bw.2.2.2.2.2.2.2.2.2.2.1;let HL:=Bw.2.2.2.2.2.2.2.2.2.2.2.1;let LH:=Bw.2.2.2.2.2.2.2.2.2.2.2.2.1;let JZ:=Bw.2.2.2.2.2.2.2.2.2.2.2.2.2.1;let Dh:=Bw.2.2.2.2.2.2.2.2.2.2.2.2.2.2.1;let HF:=Bw.2.2.2.2.2.2.2.2.2.2.2.2.2.2.2.1;let Az:=Bw.2.2.2.2.2.2.2.2.2.2.2.2.2.2.2.2;some (((DF,CT,Dl,(J6,Fl,NU),(HL,NV),LH,JZ,J7),Dh,HF,Az,SY),())
def Wh.m5 (xs:dj.D×Int):Option (Int×dj.D×Unit):=
 let vN:=xs.1;let n_1:=xs.2;let BU:=IntKind.wrap .i64 (vN.2.1+1);let AK:=bif decide (n_1<1) then true else(↑(List.length vN.1):Int)==0;bif AK then
  some (0,(vN.1,BU,vN.2.2),())
 else
  let n_:=IntKind.wrap .i64 (BU-1);let nW:Int:=(↑(List.length vN.1):Int);bif decide (n_<nW) then
   let FB:=List.getD vN.1 (Int.toNat n_) 0;bif kL [n_1 != 0,decide (0≤n_),decide (n_<nW)] then
    some (Int.tmod (IntKind.wrap .i64 FB) n_1,(vN.1,BU,vN.2.2),())
   else none
  else
   let BN:=IntKind.wrap .i64 (n_*7);let x_25:=IntKind.wrap .i64 (IntKind.wrap .i64 (IntKind.wrap .i64 (IntKind.wrap .i64 (IntKind.wrap .i64 (List.getD vN.1 (Int.toNat (Int.tmod n_ nW)) 0)*131)+IntKind.wrap .i64 (IntKind.wrap .i64 (List.getD vN.1 (Int.toNat (Int.tmod (IntKind.wrap .i64 (BN+3)) nW)) 0)*1117))+(IntKind.wrap .i64 (n_*29)))+IntKind.wrap .i64 (IntKind.wrap .i64 (Int.tdiv n_ nW)*53));bif kL [nW != 0,decide (0≤Int.tmod (IntKind.wrap .i64 (BN+3)) nW),decide (Int.tmod (IntKind.wrap .i64 (BN+3)) nW<nW),nW != 0,decide (0≤Int.tmod n_ nW),decide (Int.tmod n_ nW<nW),nW != 0] then
    bif kL [n_1 != 0] then
     some ((Int.tmod (pZ Go.BinOp.xor Go.IntKind.i64 x_25 (IntKind.wrap .i64 (Int.tdiv x_25 64))) n_1),(vN.1,BU,vN.2.2),())
    else none
   else none
def Wh.LY (xs:dj.D×List (List UInt8)):Option (List UInt8×dj.D×Unit):=
 let vN:=xs.1;let SH:=xs.2;bn (zog m5 (vN,(↑(List.length SH):Int))) fun r_2=>
 let AJ:Int:=(↑(List.length SH):Int);let nW:=List.getD SH (Int.toNat r_2.1) [];bif kL [decide (0≤r_2.1),decide (r_2.1<AJ),qu (m5 (vN,AJ))] then
  some (nW,r_2.2.1,())
 else none
def Wh.Cc (xs:Int):Option (Int×Unit):=
 let RN:=xs;some ((Int.tmod RN 2),())
def Wh.Kp (xs:Bool):Option (Int×Unit):=
 let BE:=xs;bif BE then
  some (1,())
 else
  some (0,())
abbrev Wh.abk:Type:=(Int×Unit×Unit×Int)×dj.D×List Int
abbrev Wh.ahx:Type:=Unit×dj.D×List Int
def Wh.QF (x:abk):Option (abk⊕ahx):=
 let Cz:=x.1.1;let XQ:=x.1.2.2.2;let Te:=x.2.1;let v9:=x.2.2;bif decide (Cz<XQ) then
  bn (zog m5 (Te,8)) fun C_=>
  let By:=v9 ++ [(↑(UInt8.toNat (List.getD [(97:UInt8),(98:UInt8),(99:UInt8),(100:UInt8),(101:UInt8),(102:UInt8),(103:UInt8),(104:UInt8)] (Int.toNat C_.1) (0:UInt8))):Int)];bif kL [decide (List.length v9+(1:Nat)≤eV),decide (0≤C_.1),decide (C_.1<(↑(8:Nat):Int)),qu (m5 (Te,8))] then
   some (.inl (((IntKind.wrap .i64 (Cz+1)),(),(),XQ),C_.2.1,By))
  else none
 else
  some (.inr ((),Te,v9))
def Wh.abl:Unit×dj.D×List Int:=default
def Wh.Ib (xs:dj.D×Int):Option (List UInt8×dj.D×Unit):=
 let vN:=xs.1;let long_1:=xs.2;g8 QF abl (((0,(),(),long_1),vN,[])) fun Hg=>
  let IZ:=Hg.2.1;let A9:=Hg.2.2;some (tv A9,IZ,())
def Wh.q19 (x:(Unit×Int×Int)×dj.D×di.D):Option ((Bool×Unit×Int)×dj.D×di.D):=
 let Wc:=x.1.2.1;let v_435:=x.1.2.2;let YL:=x.2.1;let X9:=x.2.2;let v_438:=v_435==24;bif v_438 then
  some (((v_438,(),Wc),YL,X9))
 else
  let v_439:=v_435==25;some (((v_439,(),Wc),YL,X9))
def Wh.Qx (x:((Unit)×(Int)×(Int))×((dj.D)×(di.D))):(((Bool)×(Unit)×(Int))×((dj.D)×(di.D))):=match q19 x with | some y=>y|none=>default
def Wh.q19_v (x:((Unit)×(Int)×(Int))×((dj.D)×(di.D)))(y:(((Bool)×(Unit)×(Int))×((dj.D)×(di.D))))(h:q19 x=some y):Qx x=y:=by unfold Qx;rw[h]
def Wh.q18 (x:(Unit×Int×Int)×dj.D×di.D):Option ((Bool×Unit×Int×Int)×dj.D×di.D):=
 let Wb:=x.1.2.1;let Rj:=x.1.2.2;let YJ:=x.2.1;let X8:=x.2.2;let v_419:=Rj==22;bif v_419 then
  some (((v_419,(),Wb,Rj),YJ,X8))
 else
  let v_420:=Rj==23;some (((v_420,(),Wb,Rj),YJ,X8))
def Wh.Qv (x:((Unit)×(Int)×(Int))×((dj.D)×(di.D))):(((Bool)×(Unit)×(Int)×(Int))×((dj.D)×(di.D))):=match q18 x with | some y=>y|none=>default
def Wh.q18_v (x:((Unit)×(Int)×(Int))×((dj.D)×(di.D)))(y:(((Bool)×(Unit)×(Int)×(Int))×((dj.D)×(di.D))))(h:q18 x=some y):Qv x=y:=by unfold Qv;rw[h]
def Wh.q17 (x:(Unit×Unit×Int×List UInt8×Int)×dj.D×di.D):Option ((Bool×Unit×Unit×Int×List UInt8×Int)×dj.D×di.D):=
 let Wa:=x.1.2.2.1;let Ym:=x.1.2.2.2.1;let Rh:=x.1.2.2.2.2;let YH:=x.2.1;let X7:=x.2.2;let v_357:=Rh==17;bif v_357 then
  some (((v_357,(),(),Wa,Ym,Rh),YH,X7))
 else
  let v_358:=Rh==18;some (((v_358,(),(),Wa,Ym,Rh),YH,X7))
def Wh.Qu (x:((Unit)×(Unit)×(Int)×(List UInt8)×(Int))×((dj.D)×(di.D))):(((Bool)×(Unit)×(Unit)×(Int)×(List UInt8)×(Int))×((dj.D)×(di.D))):=match q17 x with | some y=>y|none=>default
def Wh.q17_v (x:((Unit)×(Unit)×(Int)×(List UInt8)×(Int))×((dj.D)×(di.D)))(y:(((Bool)×(Unit)×(Unit)×(Int)×(List UInt8)×(Int))×((dj.D)×(di.D))))(h:q17 x=some y):Qu x=y:=by unfold Qu;rw[h]
def Wh.q16 (x:(Unit×Unit×Int×List UInt8×Int)×dj.D×di.D):Option ((Bool×Unit×Unit×Int×List UInt8×Int)×dj.D×di.D):=
 let IB:=x.1.2.2.1;let IY:=x.1.2.2.2.1;let DZ:=x.1.2.2.2.2;let I1:=x.2.1;let IW:=x.2.2;let v_329:=DZ==9;bif v_329 then
  some (((v_329,(),(),IB,IY,DZ),I1,IW))
 else
  let v_330:=DZ==10;bif v_330 then
   some (((v_330,(),(),IB,IY,DZ),I1,IW))
  else
   let v_331:=DZ==11;bif v_331 then
    some (((v_331,(),(),IB,IY,DZ),I1,IW))
   else
    let v_332:=DZ==12;bif v_332 then
     some (((v_332,(),(),IB,IY,DZ),I1,IW))
    else
     let v_333:=DZ==13;bif v_333 then
      some (((v_333,(),(),IB,IY,DZ),I1,IW))
     else
      let v_334:=DZ==14;bif v_334 then
       some (((v_334,(),(),IB,IY,DZ),I1,IW))
      else
       let v_335:=DZ==15;bif v_335 then
        some (((v_335,(),(),IB,IY,DZ),I1,IW))
       else
        let v_336:=DZ==16;some (((v_336,(),(),IB,IY,DZ),I1,IW))
def Wh.Qt (x:((Unit)×(Unit)×(Int)×(List UInt8)×(Int))×((dj.D)×(di.D))):(((Bool)×(Unit)×(Unit)×(Int)×(List UInt8)×(Int))×((dj.D)×(di.D))):=match q16 x with | some y=>y|none=>default
def Wh.q16_v (x:((Unit)×(Unit)×(Int)×(List UInt8)×(Int))×((dj.D)×(di.D)))(y:(((Bool)×(Unit)×(Unit)×(Int)×(List UInt8)×(Int))×((dj.D)×(di.D))))(h:q16 x=some y):Qt x=y:=by unfold Qt;rw[h]
def Wh.q15 (x:(Unit×List UInt8×Int×Unit×Int×Int)×dj.D×di.D):Option ((Bool×Unit×List UInt8×Int×Unit×Int×Int)×dj.D×di.D):=
 let S6:=x.1.2.1;let Ua:=x.1.2.2.1;let RF:=x.1.2.2.2.2.1;let MN:=x.1.2.2.2.2.2;let Tj:=x.2.1;let SX:=x.2.2;let v_295:=MN==4;bif v_295 then
  some (((v_295,(),S6,Ua,(),RF,MN),Tj,SX))
 else
  let v_296:=MN==5;bif v_296 then
   some (((v_296,(),S6,Ua,(),RF,MN),Tj,SX))
  else
   let v_297:=MN==6;some (((v_297,(),S6,Ua,(),RF,MN),Tj,SX))
def Wh.Qs (x:((Unit)×(List UInt8)×(Int)×(Unit)×(Int)×(Int))×((dj.D)×(di.D))):(((Bool)×(Unit)×(List UInt8)×(Int)×(Unit)×(Int)×(Int))×((dj.D)×(di.D))):=match q15 x with | some y=>y|none=>default
def Wh.q15_v (x:((Unit)×(List UInt8)×(Int)×(Unit)×(Int)×(Int))×((dj.D)×(di.D)))(y:(((Bool)×(Unit)×(List UInt8)×(Int)×(Unit)×(Int)×(Int))×((dj.D)×(di.D))))(h:q15 x=some y):Qs x=y:=by unfold Qs;rw[h]
def Wh.q14 (x:(Unit×Unit×List UInt8×Int×Int×Int)×dj.D×di.D):Option ((Bool×Unit×Unit×List UInt8×Int×Int×Int)×dj.D×di.D):=
 let S4:=x.1.2.2.1;let T_:=x.1.2.2.2.1;let RE:=x.1.2.2.2.2.1;let MM:=x.1.2.2.2.2.2;let Tg:=x.2.1;let FU:=x.2.2;let v_202:=MM==0;bif v_202 then
  some (((v_202,(),(),S4,T_,RE,MM),Tg,FU))
 else
  let v_203:=MM==1;bif v_203 then
   some (((v_203,(),(),S4,T_,RE,MM),Tg,FU))
  else
   let v_204:=MM==2;some (((v_204,(),(),S4,T_,RE,MM),Tg,FU))
def Wh.Qq (x:((Unit)×(Unit)×(List UInt8)×(Int)×(Int)×(Int))×((dj.D)×(di.D))):(((Bool)×(Unit)×(Unit)×(List UInt8)×(Int)×(Int)×(Int))×((dj.D)×(di.D))):=match q14 x with | some y=>y|none=>default
def Wh.q14_v (x:((Unit)×(Unit)×(List UInt8)×(Int)×(Int)×(Int))×((dj.D)×(di.D)))(y:(((Bool)×(Unit)×(Unit)×(List UInt8)×(Int)×(Int)×(Int))×((dj.D)×(di.D))))(h:q14 x=some y):Qq x=y:=by unfold Qq;rw[h]
def Wh.q13 (x:(Unit×Unit×Int×List UInt8×Int×Unit)×dj.D×di.D×eL.D):Option (Unit×dj.D×di.D⊕(Unit×Unit×List UInt8×Int×Int)×dj.D×di.D):=
 let D0:=x.1.2.2.1;let Yj:=x.1.2.2.2.1;let V_:=x.1.2.2.2.2.1;let YF:=x.2.1;let LJ:=x.2.2.1;let HK:=x.2.2.2;let La:Int:=(↑(List.length HK.2.1):Int);let v_153:=bif decide (D0<La) then bif(((List.getD HK.2.1 (Int.toNat D0) (0,0,0,[],0,((0,0,[],[],()),(0,0,[],()),()),())).2).2).1==2 then true else(((List.getD HK.2.1 (Int.toNat D0) (0,0,0,[],0,((0,0,[],[],()),(0,0,[],()),()),())).2).2).1==1 else false;bif kL [!(!(((List.getD HK.2.1 (Int.toNat D0) (0,0,0,[],0,((0,0,[],[],()),(0,0,[],()),()),())).2).2).1==2&&decide (D0<La)) || decide (0≤D0),!(!(((List.getD HK.2.1 (Int.toNat D0) (0,0,0,[],0,((0,0,[],[],()),(0,0,[],()),()),())).2).2).1==2&&decide (D0<La)) || decide (D0<La),!decide (D0<La) || decide (0≤D0),!decide (D0<La) || decide (D0<La)] then
  bif v_153 then
   c9 m5 (YF,3) fun QH=>
    bif(QH.1==0) then
     bn (zog m5 (QH.2.1,4)) fun Om=>
     bn (zog m5 (Om.2.1,2)) fun TC=>
     bn (zog Kp (TC.1==0)) fun r_159=>
     let SU:=List.getD [(6:Int),6,7,8] (Int.toNat Om.1) 0;bif kL [qu (Kp (TC.1==0)),qu (m5 (Om.2.1,2)),decide (0≤Om.1),decide (Om.1<(↑(4:Nat):Int)),qu (m5 (QH.2.1,4))] then
      some (.inl (((),TC.2.1,SU,(IntKind.wrap .i64 (D0*r_159.1)),0,[],[],false,())))
     else none
    else
     some (.inr ((((),(),Yj,D0,V_),QH.2.1,LJ)))
  else
   some (.inr ((((),(),Yj,D0,V_),YF,LJ)))
 else none
def Wh.Qp (x:((Unit)×(Unit)×(Int)×(List UInt8)×(Int)×(Unit))×((dj.D)×(di.D)×(eL.D))):((Unit)×((dj.D)×(di.D)))⊕(((Unit)×(Unit)×(List UInt8)×(Int)×(Int))×((dj.D)×(di.D))):=match q13 x with | some y=>y|none=>.inl default
def Wh.q13_v (x:((Unit)×(Unit)×(Int)×(List UInt8)×(Int)×(Unit))×((dj.D)×(di.D)×(eL.D)))(y:((Unit)×((dj.D)×(di.D)))⊕(((Unit)×(Unit)×(List UInt8)×(Int)×(Int))×((dj.D)×(di.D))))(h:q13 x=some y):Qp x=y:=by unfold Qp;rw[h]
abbrev Wh.abg:Type:=(Int×Unit×Int×Unit×Unit×List UInt8×Int)×dj.D×eL.D×di.D
abbrev Wh.ahv:Type:=(Unit×Unit×Int×List UInt8×Int×Unit)×dj.D×di.D×eL.D
def Wh.Ok (x:abg):Option (abg⊕ahv):=
 let HB:=x.1.1;let OR:=x.1.2.2.1;let Yo:=x.1.2.2.2.2.2.1;let RH:=x.1.2.2.2.2.2.2;let Qg:=x.2.1;let BA:=x.2.2.1;let Cp:=x.2.2.2;let E5:Int:=(↑(List.length (BA.1.2.2.2.1.2.1)):Int);bif decide (HB<E5) then
  let Qh:an.D:=List.getD (BA.1.2.2.2.1.2.1) (Int.toNat HB) (0,[],0,[],());bif kL [decide (0≤HB),decide (HB<E5)] then
   bn (zog Cc OR) fun Jx=>
   bn (zog m5 (Qg,2)) fun r_73=>
   let LU:dj.D:=bif Qh.1==Jx.1 then r_73.2.1 else Qg;let v_77:=bif Qh.1==Jx.1 then r_73.1==0 else false;bif kL [!Qh.1==Jx.1 || qu (m5 (Qg,2)),qu (Cc OR)] then
    bif v_77 then
     some (.inl (((IntKind.wrap .i64 (HB+1)),(),OR,(),(),Qh.2.1,RH),LU,BA,Cp))
    else
     some (.inl (((IntKind.wrap .i64 (HB+1)),(),OR,(),(),Yo,RH),LU,BA,Cp))
   else none
  else none
 else
  some (.inr (((),(),OR,Yo,RH,()),Qg,Cp,BA))
def Wh.abh:(Unit×Unit×Int×List UInt8×Int×Unit)×dj.D×di.D×eL.D:=default
def Wh.q12 (x:(Unit×Int×Unit×Unit×List UInt8×Int)×dj.D×eL.D×di.D):Option ((Unit×Unit×Int×List UInt8×Int×Unit)×dj.D×di.D×eL.D):=
 let acD:=x.1.2.1;let Yp:=x.1.2.2.2.2.1;let at_90:=x.1.2.2.2.2.2;let pb_91:=x.2.1;let LL:=x.2.2.1;let LM:=x.2.2.2;c9 m5 (pb_91,3) fun r_94=>
  bif decide (r_94.1>0) then
   g8 Ok abh (((0,(),acD,(),(),Yp,at_90),r_94.2.1,LL,LM)) fun M1=>
    let who_98:=M1.1.2.2.1;let afT:=M1.1.2.2.2.1;let at_100:=M1.1.2.2.2.2.1;let pb_101:=M1.2.1;let Dh:=M1.2.2.1;let HF:=M1.2.2.2;some ((((),(),who_98,afT,at_100,()),pb_101,Dh,HF))
  else
   some ((((),(),acD,Yp,at_90,()),r_94.2.1,LM,LL))
def Wh.Qo (x:((Unit)×(Int)×(Unit)×(Unit)×(List UInt8)×(Int))×((dj.D)×(eL.D)×(di.D))):(((Unit)×(Unit)×(Int)×(List UInt8)×(Int)×(Unit))×((dj.D)×(di.D)×(eL.D))):=match q12 x with | some y=>y|none=>default
def Wh.q12_v (x:((Unit)×(Int)×(Unit)×(Unit)×(List UInt8)×(Int))×((dj.D)×(eL.D)×(di.D)))(y:(((Unit)×(Unit)×(Int)×(List UInt8)×(Int)×(Unit))×((dj.D)×(di.D)×(eL.D))))(h:q12 x=some y):Qo x=y:=by unfold Qo;rw[h]
def Wh.q11 (x:(Unit×Unit×Unit×Int)×dj.D×eL.D×di.D):Option ((Unit×Unit×Unit×Int)×dj.D×eL.D×di.D):=
 let O5:=x.1.2.2.2;let N3:=x.2.1;let se:=x.2.2.1;let AD:=x.2.2.2;bn (zog m5 (N3,2)) fun G5=>
 let BK:dj.D:=bif decide ((↑(List.length (se.2.2.1)):Int)>0) then G5.2.1 else N3;let xd:Int:=(↑(List.length (se.2.2.1)):Int);let BO:=bif decide (xd>0) then G5.1==0 else false;bif kL [!decide (xd>0) || qu (m5 (N3,2))] then
  bif BO then
   c9 m5 (BK,xd) fun Da=>
    some ((((),(),(),Da.1),Da.2.1,se,AD))
  else
   some ((((),(),(),O5),BK,se,AD))
 else none
def Wh.Qn (x:((Unit)×(Unit)×(Unit)×(Int))×((dj.D)×(eL.D)×(di.D))):(((Unit)×(Unit)×(Unit)×(Int))×((dj.D)×(eL.D)×(di.D))):=match q11 x with | some y=>y|none=>default
def Wh.q11_v (x:((Unit)×(Unit)×(Unit)×(Int))×((dj.D)×(eL.D)×(di.D)))(y:(((Unit)×(Unit)×(Unit)×(Int))×((dj.D)×(eL.D)×(di.D))))(h:q11 x=some y):Qn x=y:=by unfold Qn;rw[h]
def Wh.q72 (xs:dj.D×eL.D):Option (di.D×dj.D×Unit):=
 let vN:=xs.1;let w_1:=xs.2;CJ q11 Qn ((((),(),(),0),vN,w_1,0,0,0,[],[],false,())) fun C0=>
  let at_30:=C0.1.2.2.2;let w7:=C0.2.1;let AE:=C0.2.2.1;let A_:=C0.2.2.2;c9 LY (w7,[[(97:UInt8)],[(97:UInt8)],[(98:UInt8)],[(99:UInt8),(99:UInt8)]]) fun r_34=>
   c9 m5 (r_34.2.1,4) fun DI=>
    CJ q12 Qo ((((),DI.1,(),(),r_34.1,at_30),DI.2.1,AE,A_)) fun MU=>
     let ajq:=MU.1.2.2.1;let afQ:=MU.1.2.2.2.1;let at_108:=MU.1.2.2.2.2.1;let pb_109:=MU.2.1;let IS:=MU.2.2.1;let IT:=MU.2.2.2;CJ q13 Qp ((((),(),ajq,afQ,at_108,()),pb_109,IS,IT)) fun q_=>
      sumC q_ (fun y_177=>
       let pb_179:=y_177.2.1;let ls_180:=y_177.2.2;some (ls_180,pb_179,())) (fun O1=>
       let afR:=O1.1.2.2.1;let ajr:=O1.1.2.2.2.1;let at_183:=O1.1.2.2.2.2;let pb_184:=O1.2.1;let J3:=O1.2.2;c9 m5 (pb_184,40) fun r_186=>
        CJ q14 Qq ((((),(),afR,ajr,at_183,r_186.1),r_186.2.1,J3)) fun Lg=>
         let Rg:=Lg.1.1;let S5:=Lg.1.2.2.2.1;let ajs:=Lg.1.2.2.2.2.1;let at_210:=Lg.1.2.2.2.2.2.1;let v_211:=Lg.1.2.2.2.2.2.2;let Qb:=Lg.2.1;let ls_213:=Lg.2.2;bif Rg then
          bn (zog m5 (Qb,2)) fun TD=>
          bn (zog m5 (TD.2.1,30)) fun QI=>
          bn (zog m5 (QI.2.1,90)) fun QJ=>
          bn (zog m5 (QJ.2.1,250)) fun QK=>
          bn (zog m5 (QK.2.1,3)) fun Mt=>
          bn (zog Ib (Mt.2.1,List.getD [IntKind.wrap .i64 (1+QI.1),IntKind.wrap .i64 (1+QJ.1),IntKind.wrap .i64 (1+QK.1)] (Int.toNat Mt.1) 0)) fun r_233=>
          bif kL [qu (Ib (Mt.2.1,List.getD [IntKind.wrap .i64 (1+QI.1),IntKind.wrap .i64 (1+QJ.1),IntKind.wrap .i64 (1+QK.1)] (Int.toNat (Mt.1)) 0)),decide (0≤Mt.1),decide (Mt.1<(↑(3:Nat):Int)),qu (m5 (QK.2.1,3)),qu (m5 (QJ.2.1,250)),qu (m5 (QI.2.1,90)),qu (m5 (TD.2.1,30)),qu (m5 (Qb,2))] then
           some ((1,TD.1,0,S5,r_233.1,false,()),r_233.2.1,())
          else none
         else
          let v_278:=v_211==3;bif v_278 then
           c9 m5 (Qb,2) fun r_279=>
            some ((2,r_279.1,0,S5,[],false,()),r_279.2.1,())
          else
           CJ q15 Qs ((((),S5,ajs,(),at_210,v_211),Qb,ls_213)) fun Lj=>
            let v_300:=Lj.1.1;let Yl:=Lj.1.2.2.1;let ajt:=Lj.1.2.2.2.1;let at_303:=Lj.1.2.2.2.2.2.1;let T8:=Lj.1.2.2.2.2.2.2;let Qc:=Lj.2.1;let ls_306:=Lj.2.2;bif v_300 then
             some ((3,ajt,0,Yl,[],false,()),Qc,())
            else
             let v_307:=T8==7;bif v_307 then
              c9 m5 (Qc,4) fun r_308=>
               some ((4,r_308.1,0,[],[],false,()),r_308.2.1,())
             else
              let v_309:=T8==8;bif v_309 then
               c9 m5 (Qc,4) fun r_310=>
                some ((5,r_310.1,0,[],[],false,()),r_310.2.1,())
              else
               CJ q16 Qt ((((),(),at_303,Yl,T8),Qc,ls_306)) fun MW=>
                let v_339:=MW.1.1;let at_340:=MW.1.2.2.2.1;let afS:=MW.1.2.2.2.2.1;let v_342:=MW.1.2.2.2.2.2;let YG:=MW.2.1;let ls_344:=MW.2.2;bif v_339 then
                 some ((6,0,0,[],[],false,()),YG,())
                else
                 CJ q17 Qu ((((),(),at_340,afS,v_342),YG,ls_344)) fun MX=>
                  let v_361:=MX.1.1;let RG:=MX.1.2.2.2.1;let Yn:=MX.1.2.2.2.2.1;let Ri:=MX.1.2.2.2.2.2;let Kd:=MX.2.1;let ls_366:=MX.2.2;bif v_361 then
                   c9 m5 (Kd,4) fun r_367=>
                    some ((7,r_367.1,0,[],[],false,()),r_367.2.1,())
                  else
                   let v_368:=Ri==19;bif v_368 then
                    some ((9,RG,0,[],[],false,()),Kd,())
                   else
                    let v_369:=Ri==20;bif v_369 then
                     bn (zog m5 (Kd,256)) fun TE=>
                     bn (zog m5 (TE.2.1,256)) fun r_371=>
                     bif kL [qu (m5 (TE.2.1,256)),qu (m5 (Kd,256))] then
                      some ((10,RG,(IntKind.wrap .i64 (IntKind.wrap .i64 (TE.1*256)+r_371.1)),[],[],false,()),r_371.2.1,())
                     else none
                    else
                     let v_380:=Ri==21;bif v_380 then
                      bn (zog m5 (Kd,2)) fun QL=>
                      bn (zog m5 (QL.2.1,40)) fun TF=>
                      bn (zog m5 (TF.2.1,3)) fun QM=>
                      let YI:=List.getD [(0:Int),TF.1,9999] (Int.toNat QM.1) 0;bif kL [decide (0≤QM.1),decide (QM.1<(↑(3:Nat):Int)),qu (m5 (TF.2.1,3)),qu (m5 (QL.2.1,40)),qu (m5 (Kd,2))] then
                       c9 m5 (QM.2.1,3) fun QO=>
                        bif decide (QO.1>0) then
                         bn (zog m5 (QO.2.1,90)) fun QS=>
                         bn (zog Ib (QS.2.1,IntKind.wrap .i64 (1+QS.1))) fun r_405=>
                         bif kL [qu (Ib (QS.2.1,IntKind.wrap .i64 (1+QS.1))),qu (m5 (QO.2.1,90))] then
                          some ((11,QL.1,YI,Yn,r_405.1,false,()),r_405.2.1,())
                         else none
                        else
                         some ((11,QL.1,YI,Yn,[],false,()),QO.2.1,())
                      else none
                     else
                      CJ q18 Qv ((((),RG,Ri),Kd,ls_366)) fun OX=>
                       let v_423:=OX.1.1;let at_424:=OX.1.2.2.1;let v_425:=OX.1.2.2.2;let YK:=OX.2.1;let ls_427:=OX.2.2;bif v_423 then
                        some ((12,0,0,[],[],false,()),YK,())
                       else
                        CJ q19 Qx ((((),at_424,v_425),YK,ls_427)) fun Ug=>
                         let v_442:=Ug.1.1;let Wd:=Ug.1.2.2;let YM:=Ug.2.1;bif v_442 then
                          some ((8,Wd,0,[],[],true,()),YM,())
                         else
                          some ((8,Wd,0,[],[],false,()),YM,()))
def Wh.GX (xs:g7.D):Option ((Int×List an.D×Unit)×Unit):=
 let cp:g7.D:=xs;let ES:List (an.D):=[]++cp.2.1;bif kL [decide ((0:Nat)+List.length cp.2.1≤eV)] then
  some ((cp.1,ES,cp.2.2),())
 else none
def Wh.Gg (xs:mb.D):Option ((List b8.D×Int×Unit)×Unit):=
 let fT:mb.D:=xs;let ES:List (b8.D):=[]++fT.1;bif kL [decide ((0:Nat)+List.length fT.1≤eV)] then
  some ((ES,fT.2),())
 else none
def Wh.Fu (xs:b7.D):Option ((Bool×Int×List UInt8×(Int×List an.D×Unit)×(List b8.D×Int×Unit)×List cw.D×List b9.D×Unit)×Unit):=
 let cx:b7.D:=xs;c9 GX (cx.2.2.2.1) fun r_1=>
  c9 Gg (cx.2.2.2.2.1) fun r_2=>
   let Dp:List (cw.D):=[]++cx.2.2.2.2.2.1;bif kL [decide ((0:Nat)+List.length (cx.2.2.2.2.2.1)≤eV)] then
    let N5:List (b9.D):=[]++cx.2.2.2.2.2.2.1;bif kL [decide ((0:Nat)+List.length (cx.2.2.2.2.2.2.1)≤eV)] then
     some ((cx.1,cx.2.1,cx.2.2.1,r_1.1,r_2.1,Dp,N5,cx.2.2.2.2.2.2.2),())
    else none
   else none
def Wh.HW (xs:gh.D):Option ((Int×Int×List Int×List Int×Unit)×Unit):=
 let fT:gh.D:=xs;let ES:List Int:=[]++fT.2.2.1;bif kL [decide ((0:Nat)+List.length (fT.2.2.1)≤eV)] then
  let BU:List Int:=[]++fT.2.2.2.1;bif kL [decide ((0:Nat)+List.length (fT.2.2.2.1)≤eV)] then
   some ((fT.1,fT.2.1,ES,BU,fT.2.2.2.2),())
  else none
 else none
abbrev Wh.ZA:Type:=(Int×Unit×Unit×Unit)×(Int×Int×Unit×Unit)×e_.D×(Int×Int×Unit×Unit)×List gv.D×List gv.D
abbrev Wh.agH:Type:=(Unit×Unit)×(Int×Int×Unit×Unit)×(Int×Int×Unit×Unit)×List gv.D×List gv.D
def Wh.L6 (x:ZA):Option (ZA⊕agH):=
 let Be:=x.1.1;let By:=x.2.1.1;let DE:=x.2.1.2.1;let CB:=x.2.1.2.2.2;let Aw:=x.2.2.1;let B8:=x.2.2.2.1.1;let Bh:=x.2.2.2.1.2.1;let A9:=x.2.2.2.1.2.2.2;let BT:=x.2.2.2.2.1;let Bz:=x.2.2.2.2.2;let vT:Int:=(↑(List.length (Aw.2.2.1)):Int);bif decide (Be<vT) then
  let ET:List Int:=[]++(List.getD (Aw.2.2.1) (Int.toNat Be) ([],[],())).1;let AE:=BT ++ [(ET,((List.getD (Aw.2.2.1) (Int.toNat Be) ([],[],())).2).1,())];let Ce:=List.getD (Aw.2.2.1) (Int.toNat Be) ([],[],());bif kL [decide (List.length BT+(1:Nat)≤eV),decide (0≤Be),decide (Be<vT),decide ((0:Nat)+List.length Ce.1≤eV),decide (0≤Be),decide (Be<vT)] then
   some (.inl (((IntKind.wrap .i64 (Be+1)),(),(),()),(By,DE,(),CB),Aw,(B8,Bh,(),A9),AE,Bz))
  else none
 else
  some (.inr (((),()),(B8,Bh,(),A9),(By,DE,(),CB),Bz,BT))
def Wh.ZB:(Unit×Unit)×(Int×Int×Unit×Unit)×(Int×Int×Unit×Unit)×List gv.D×List gv.D:=default
def Wh.Je (xs:e_.D):Option ((Int×Int×List gv.D×Unit)×Unit):=
 let cx:=xs;g8 L6 ZB (((0,(),(),()),(cx.1,cx.2.1,(),()),cx,(0,0,(),()),[],[])) fun Ru=>
  let AR:=Ru.2.2.1.1;let AF:=Ru.2.2.1.2.1;let AG:=Ru.2.2.1.2.2.2;let x3:=Ru.2.2.2.2;some ((AR,AF,x3,AG),())
def Wh.KB (xs:x4.D):Option (((Int×Int×List Int×List Int×Unit)×(Int×Int×List gv.D×Unit)×Unit)×Unit):=
 let n4:=xs;bn (zog HW n4.1) fun r_1=>
 bn (zog Je n4.2.1) fun r_2=>
 bif kL [qu (Je n4.2.1),qu (HW n4.1)] then
  some ((r_1.1,r_2.1,()),())
 else none
def Wh.GR (xs:bm.D):Option ((Int×Int×Int×List UInt8×Int×((Int×Int×List Int×List Int×Unit)×(Int×Int×List gv.D×Unit)×Unit)×Unit)×Unit):=
 let cp:=xs;bif decide (cp.2.2.2.2.1>0) then
  c9 KB (cp.2.2.2.2.2.1) fun r_2=>
   some ((cp.1,cp.2.1,cp.2.2.1,cp.2.2.2.1,cp.2.2.2.2.1,r_2.1,cp.2.2.2.2.2.2),())
 else
  some ((cp.1,cp.2.1,cp.2.2.1,cp.2.2.2.1,cp.2.2.2.2.1,((0,0,[],[],()),(0,0,[],()),()),cp.2.2.2.2.2.2),())
abbrev Wh.YZ:Type:=(Int×Unit×Unit×Unit)×((Bool×Int×List UInt8×(Int×Unit×Unit)×(Unit×Int×Unit)×Unit×Unit×Unit)×Unit×Unit×Unit×Unit)×eL.D×((Bool×Int×List UInt8×(Int×Unit×Unit)×(Unit×Int×Unit)×Unit×Unit×Unit)×Unit×Unit×Unit×Unit)×List an.D×List b8.D×List cw.D×List b9.D×List bm.D×List cg.D×List an.D×List an.D×List b8.D×List cw.D×List b9.D×List bm.D×List cg.D×List an.D
abbrev Wh.ago:Type:=(Unit×Unit)×((Bool×Int×List UInt8×(Int×Unit×Unit)×(Unit×Int×Unit)×Unit×Unit×Unit)×Unit×Unit×Unit×Unit)×((Bool×Int×List UInt8×(Int×Unit×Unit)×(Unit×Int×Unit)×Unit×Unit×Unit)×Unit×Unit×Unit×Unit)×List an.D×List b8.D×List cw.D×List b9.D×List bm.D×List cg.D×List an.D×List an.D×List b8.D×List cw.D×List b9.D×List bm.D×List cg.D×List an.D
def Wh.Ql (x:YZ):Option (YZ⊕ago):=
 let LC:=x.1.1;let x3:=x.2.1.1.1;let tn:=x.2.1.1.2.1;let wv:=x.2.1.1.2.2.1;let AU:=x.2.1.1.2.2.2.1.1;let pg:=x.2.1.1.2.2.2.1.2.2;let z5:=x.2.1.1.2.2.2.2.1.2;let nE:=x.2.1.1.2.2.2.2.2.2.2;let we:=x.2.1.2.2.2.2;let s9:=x.2.2.1;let Ax:=x.2.2.2.1.1.1;let AV:=x.2.2.2.1.1.2.1;let AH:=x.2.2.2.1.1.2.2.1;let nP:=x.2.2.2.1.1.2.2.2.1.1;let AA:=x.2.2.2.1.1.2.2.2.1.2.2;let Ck:=x.2.2.2.1.1.2.2.2.2.1.2;let B9:=x.2.2.2.1.1.2.2.2.2.2.2.2;let Ba:=x.2.2.2.1.2.2.2.2;let BI:=x.2.2.2.2.1;let B_:=x.2.2.2.2.2.1;let Bb:=x.2.2.2.2.2.2.1;let AW:=x.2.2.2.2.2.2.2.1;let BJ:=x.2.2.2.2.2.2.2.2.1;let CQ:=x.2.2.2.2.2.2.2.2.2.1;let BA:=x.2.2.2.2.2.2.2.2.2.2.1;let Cp:=x.2.2.2.2.2.2.2.2.2.2.2.1;let EO:=x.2.2.2.2.2.2.2.2.2.2.2.2.1;let Dk:=x.2.2.2.2.2.2.2.2.2.2.2.2.2.1;let Bl:=x.2.2.2.2.2.2.2.2.2.2.2.2.2.2.1;let AZ:=x.2.2.2.2.2.2.2.2.2.2.2.2.2.2.2.1;let CC:=x.2.2.2.2.2.2.2.2.2.2.2.2.2.2.2.2.1;let Ca:=x.2.2.2.2.2.2.2.2.2.2.2.2.2.2.2.2.2;let Rn:Int:=(↑(List.length s9.2.1):Int);bif decide (LC<Rn) then
  bn (zog GR (List.getD s9.2.1 (Int.toNat LC) (0,0,0,[],0,((0,0,[],[],()),(0,0,[],()),()),()))) fun Oq=>
  let EP:=BJ ++ [Oq.1];let v_80:=List.getD s9.2.1 (Int.toNat LC) (0,0,0,[],0,((0,0,[],[],()),(0,0,[],()),()),());bif kL [decide (List.length BJ+(1:Nat)≤eV),qu (GR v_80),decide (0≤LC),decide (LC<Rn)] then
   some (.inl (((IntKind.wrap .i64 (LC+1)),(),(),()),((x3,tn,wv,(AU,(),pg),((),z5),(),(),nE),(),(),(),we),s9,((Ax,AV,AH,(nP,(),AA),((),Ck),(),(),B9),(),(),(),Ba),BI,B_,Bb,AW,EP,CQ,BA,Cp,EO,Dk,Bl,AZ,CC,Ca))
  else none
 else
  some (.inr (((),()),((Ax,AV,AH,(nP,(),AA),((),Ck),(),(),B9),(),(),(),Ba),((x3,tn,wv,(AU,(),pg),((),z5),(),(),nE),(),(),(),we),Cp,EO,Dk,Bl,AZ,CC,Ca,BI,B_,Bb,AW,BJ,CQ,BA))
def Wh.Y0:(Unit×Unit)×((Bool×Int×List UInt8×(Int×Unit×Unit)×(Unit×Int×Unit)×Unit×Unit×Unit)×Unit×Unit×Unit×Unit)×((Bool×Int×List UInt8×(Int×Unit×Unit)×(Unit×Int×Unit)×Unit×Unit×Unit)×Unit×Unit×Unit×Unit)×List an.D×List b8.D×List cw.D×List b9.D×List bm.D×List cg.D×List an.D×List an.D×List b8.D×List cw.D×List b9.D×List bm.D×List cg.D×List an.D:=(default,(default,default,default,default,default,default,default,default,default,default,default,default,default,default,default,default))
def Wh.HR (xs:eL.D):Option ((b7.D×List bm.D×List cg.D×List an.D×Unit)×Unit):=
 let w_0:=xs;bn (zog Fu w_0.1) fun r_1=>
 let BU:List (cg.D):=[]++w_0.2.2.1;let Dp:List (an.D):=[]++w_0.2.2.2.1;bif kL [decide ((0:Nat)+List.length (w_0.2.2.2.1)≤eV),decide ((0:Nat)+List.length (w_0.2.2.1)≤eV),qu (Fu w_0.1)] then
  g8 Ql Y0 (((0,(),(),()),((r_1.1.1,r_1.1.2.1,r_1.1.2.2.1,(r_1.1.2.2.2.1.1,(),r_1.1.2.2.2.1.2.2),((),r_1.1.2.2.2.2.1.2),(),(),r_1.1.2.2.2.2.2.2.2),(),(),(),()),w_0,((false,0,[],(0,(),()),((),0,()),(),(),()),(),(),(),()),r_1.1.2.2.2.1.2.1,r_1.1.2.2.2.2.1.1,r_1.1.2.2.2.2.2.1,r_1.1.2.2.2.2.2.2.1,[],BU,Dp,[],[],[],[],[],[],[])) fun Ef=>
   let LL:=Ef.2.2.1.1.1;let LM:=Ef.2.2.1.1.2.1;let D8:=Ef.2.2.1.1.2.2.1;let ls_95:=Ef.2.2.1.1.2.2.2.1.1;let ls_96:=Ef.2.2.1.1.2.2.2.1.2.2;let J8:=Ef.2.2.1.1.2.2.2.2.1.2;let Fl:=Ef.2.2.1.1.2.2.2.2.2.2.2;let HL:=Ef.2.2.1.2.2.2.2;let Fk:=Ef.2.2.2.2.2.2.2.2.2.2.1;let GH:=Ef.2.2.2.2.2.2.2.2.2.2.2.1;let IQ:=Ef.2.2.2.2.2.2.2.2.2.2.2.2.1;let IS:=Ef.2.2.2.2.2.2.2.2.2.2.2.2.2.1;let IT:=Ef.2.2.2.2.2.2.2.2.2.2.2.2.2.2.1;let LI:=Ef.2.2.2.2.2.2.2.2.2.2.2.2.2.2.2.1;let IU:=Ef.2.2.2.2.2.2.2.2.2.2.2.2.2.2.2.2;some (((LL,LM,D8,(ls_95,Fk,ls_96),(GH,J8),IQ,IS,Fl),IT,LI,IU,HL),())
 else none
abbrev Wh.ZM:Type:=(Int×Int×List UInt8)×Unit
abbrev Wh.agN:Type:=Int×Unit⊕Unit×Unit
def Wh.F3 (x:ZM):Option (ZM⊕agN):=
 let Fh:=x.1.1;let b_11:=x.1.2.1;let s_12:=x.1.2.2;let BN:=decide (Fh<(↑(List.length s_12):Int));bif BN then
  let ov:Int:=(↑(UInt8.toNat (List.getD s_12 (Int.toNat Fh) (0:UInt8))):Int);let Bq:=ov==b_11;bif kL [decide (0≤Fh),BN] then
   bif Bq then
    some (.inr (.inl (Fh,())))
   else
    some (.inl (((IntKind.wrap .i64 (Fh+1)),b_11,s_12),()))
  else none
 else
  some (.inr (.inr ((),())))
def Wh.ZN:Int×Unit⊕Unit×Unit:=.inl default
def Wh.Cs (xs:List UInt8×Int×Int):Option (Int×Unit):=
 let cx:=xs.1;let C6:=xs.2.1;let b_2:=xs.2.2;g8 F3 ZN (((C6,b_2,cx),())) fun q_=>
  sumC q_ (fun OW=>
   let je:=OW.1;some (je,())) (fun _=>
   some (-1,()))
abbrev Wh.ZG:Type:=(Int×Int×List UInt8×Unit×Int)×List (List UInt8)
abbrev Wh.agK:Type:=(Int×List UInt8×Unit)×List (List UInt8)
def Wh.DH (x:ZG):Option (ZG⊕agK):=
 let Av:=x.1.1;let Lx:=x.1.2.1;let K7:=x.1.2.2.1;let RD:=x.1.2.2.2.2;let By:=x.2;let je:=decide (Av<(↑(List.length K7):Int));bif je then
  let xd:Int:=(↑(UInt8.toNat (List.getD K7 (Int.toNat Av) (0:UInt8))):Int);let nS:=xd==RD;bif kL [decide (0≤Av),je] then
   bif nS then
    let Th:List (List UInt8):=[List.take (Int.toNat (Av-Lx)) (List.drop (Int.toNat Lx) K7)];let Bh:List (List UInt8):=By++Th;bif kL [decide (List.length By+(1:Nat)≤eV),decide (0≤Lx),decide (Lx≤Av),decide (Av≤(↑(List.length K7):Int))] then
     let th:=IntKind.wrap .i64 (Av+1);some (.inl ((th,th,K7,(),RD),Bh))
    else none
   else
    some (.inl (((IntKind.wrap .i64 (Av+1)),Lx,K7,(),RD),By))
  else none
 else
  some (.inr ((Lx,K7,()),By))
def Wh.ZH:(Int×List UInt8×Unit)×List (List UInt8):=default
def Wh.DG (xs:List UInt8×Int):Option (List (List UInt8)×Unit):=
 let cx:=xs.1;let C6:=xs.2;g8 DH ZH (((0,0,cx,(),C6),[])) fun C0=>
  let Pt:=C0.1.1;let Oy:=C0.1.2.1;let AE:=C0.2;let Tk:List (List UInt8):=[List.take (Int.toNat ((↑(List.length Oy):Int)-Pt)) (List.drop (Int.toNat Pt) Oy)];let wm:List (List UInt8):=AE++Tk;bif kL [decide (List.length AE+(1:Nat)≤eV),decide (0≤Pt),decide (Pt≤(↑(List.length Oy):Int)),decide ((↑(List.length Oy):Int)≤(↑(List.length Oy):Int))] then
   some (wm,())
  else none
abbrev Wh.aav:Type:=(Int×List UInt8×Int)×Unit
abbrev Wh.ag9:Type:=Int×Unit⊕Int×Unit
def Wh.Mg (x:aav):Option (aav⊕ag9):=
 let CA:=x.1.1;let MC:=x.1.2.1;let n_19:=x.1.2.2;let je:=decide (CA<(↑(List.length MC):Int));bif je then
  let xd:Int:=(↑(UInt8.toNat (List.getD MC (Int.toNat CA) (0:UInt8))):Int);let BO:=bif decide (xd<48) then true else decide (xd>57);bif kL [!!decide (xd<48) || decide (0≤CA),!!decide (xd<48) || je,decide (0≤CA),je] then
   bif BO then
    some (.inr (.inl (-1,())))
   else
    bif kL [decide (0≤CA),je] then
     some (.inl (((IntKind.wrap .i64 (CA+1)),MC,(IntKind.wrap .i64 ((IntKind.wrap .i64 (n_19*10))+IntKind.wrap .i64 (IntKind.wrap .u8 (xd-48))))),()))
    else none
  else none
 else
  some (.inr (.inr (n_19,())))
def Wh.aaw:Int×Unit⊕Int×Unit:=.inl default
def Wh.Ay (xs:List UInt8):Option (Int×Unit):=
 let cx:=xs;bn (zog fN ((↑(List.length cx):Int),1,6)) fun r_1=>
 let v_2:=bif !r_1.1 then true else bif decide ((↑(List.length cx):Int)>1) then(↑(UInt8.toNat (List.getD cx (Int.toNat 0) (0:UInt8))):Int)==48 else false;bif kL [!(decide ((↑(List.length cx):Int)>1) && !!r_1.1) || decide ((0:Int)≤0),!(decide ((↑(List.length cx):Int)>1) && !!r_1.1) || decide (0<(↑(List.length cx):Int)),qu (fN ((↑(List.length cx):Int),1,6))] then
  bif v_2 then
   some (-1,())
  else
   g8 Mg aaw (((0,cx,0),())) fun q_=>
    sumC q_ (fun y_32=>
     let Fy:=y_32.1;some (Fy,())) (fun z_33=>
     let n_35:=z_33.1;some (n_35,()))
 else none
abbrev Wh.Zn:Type:=(Int×List UInt8)×Unit
abbrev Wh.agB:Type:=Bool×Unit⊕List UInt8×Unit
def Wh.Fm (x:Zn):Option (Zn⊕agB):=
 let CM:=x.1.1;let Rd:=x.1.2;let CG:=decide (CM<(↑(List.length Rd):Int));bif CG then
  let AX:Int:=(↑(UInt8.toNat (List.getD Rd (Int.toNat CM) (0:UInt8))):Int);let Bq:=bif decide (AX<97) then true else decide (AX>122);bif kL [!!decide (AX<97) || decide (0≤CM),!!decide (AX<97) || CG,decide (0≤CM),CG] then
   bif Bq then
    some (.inr (.inl (false,())))
   else
    some (.inl (((IntKind.wrap .i64 (CM+1)),Rd),()))
  else none
 else
  some (.inr (.inr (Rd,())))
def Wh.Zo:Bool×Unit⊕List UInt8×Unit:=.inl default
def Wh.DT (xs:List UInt8):Option (Bool×Unit):=
 let Bd:=xs;g8 Fm Zo (((0,Bd),())) fun q_=>
  sumC q_ (fun OW=>
   let je:=OW.1;some (je,())) (fun z_19=>
   let ajf:=z_19.1;c9 fN ((↑(List.length ajf):Int),1,6) fun r_22=>
    some (r_22.1,()))
def Wh.EA (xs:ei.D):Option (Bool×Unit):=
 let w_0:=xs;bn (zog fN (w_0.2.1,0,99999)) fun r_1=>
 bn (zog fN (w_0.2.2.1,1,99999)) fun r_2=>
 bn (zog fN (w_0.2.2.2.1,0,99999)) fun g9=>
 bn (zog fN (w_0.2.2.2.2.1,0,99999)) fun Bc=>
 let CG:=bif bif bif bif !r_1.1 then true else !r_2.1 then true else !g9.1 then true else !Bc.1 then true else decide ((↑(List.length (w_0.2.2.2.2.2.2.1)):Int)>80);bif kL [(!!bif bif !r_1.1 then true else !r_2.1 then true else !g9.1) || qu (fN (w_0.2.2.2.2.1,0,99999)),(!!bif !r_1.1 then true else !r_2.1) || qu (fN (w_0.2.2.2.1,0,99999)),!!!r_1.1 || qu (fN (w_0.2.2.1,1,99999)),qu (fN (w_0.2.1,0,99999))] then
  bif CG then
   some (false,())
  else
   let AX:=w_0.1==1;bn (zog DT (w_0.2.2.2.2.2.1)) fun Dr=>
   let r5:=bif bif AX then !Dr.1 else false then true else bif !AX then !w_0.2.2.2.2.2.1 == [] else false;bif kL [!AX || qu (DT (w_0.2.2.2.2.2.1))] then
    bif r5 then
     some (false,())
    else
     bif AX then
      bif AX then
       let xb:=bif(w_0.2.2.2.2.1==0) then w_0.2.2.2.2.2.2.1 == [] else false;some (xb,())
      else
       bif(w_0.1==2) then
        let Iq:=bif bif decide (w_0.2.2.2.1>0) then w_0.2.2.2.2.1==0 else false then !w_0.2.2.2.2.2.2.1 == [] else false;some (Iq,())
       else
        bif(w_0.1==3) then
         let CH:=bif decide (w_0.2.2.2.1>0) then !w_0.2.2.2.2.2.2.1 == [] else false;some (CH,())
        else
         let BX:=w_0.1==4;bif BX then
          bif BX then
           let Ce:=bif decide (w_0.2.2.2.1>0) then w_0.2.2.2.2.2.2.1 == [] else false;some (Ce,())
          else
           some (false,())
         else
          bif(w_0.1==5) then
           let EG:=bif decide (w_0.2.2.2.1>0) then w_0.2.2.2.2.2.2.1 == [] else false;some (EG,())
          else
           some (false,())
     else
      bif(w_0.1==6) then
       let Lb:=bif(w_0.2.2.2.2.1==0) then w_0.2.2.2.2.2.2.1 == [] else false;some (Lb,())
      else
       bif(w_0.1==2) then
        let v_47:=bif bif decide (w_0.2.2.2.1>0) then w_0.2.2.2.2.1==0 else false then !w_0.2.2.2.2.2.2.1 == [] else false;some (v_47,())
       else
        bif(w_0.1==3) then
         let BZ:=bif decide (w_0.2.2.2.1>0) then !w_0.2.2.2.2.2.2.1 == [] else false;some (BZ,())
        else
         let Rk:=w_0.1==4;bif Rk then
          bif Rk then
           let JD:=bif decide (w_0.2.2.2.1>0) then w_0.2.2.2.2.2.2.1 == [] else false;some (JD,())
          else
           some (false,())
         else
          bif(w_0.1==5) then
           let ON:=bif decide (w_0.2.2.2.1>0) then w_0.2.2.2.2.2.2.1 == [] else false;some (ON,())
          else
           some (false,())
   else none
 else none
def Wh.q36 (abO:(Int)→Option (((List UInt8))×(Unit)))(QV:(Int)→((List UInt8))×(Unit))(xs:(Int)):Option (((List UInt8))×(Unit)):=
 let Dn:=xs;bif decide (Dn < -9223372036854775807) then
  some ([(45:UInt8),(57:UInt8),(50:UInt8),(50:UInt8),(51:UInt8),(51:UInt8),(55:UInt8),(50:UInt8),(48:UInt8),(51:UInt8),(54:UInt8),(56:UInt8),(53:UInt8),(52:UInt8),(55:UInt8),(55:UInt8),(53:UInt8),(56:UInt8),(48:UInt8),(56:UInt8)],())
 else
  bif decide (Dn<0) then
   let AJ:=IntKind.wrap .i64 (0-Dn);let AN:=QV AJ;let FB:List UInt8:=[(45:UInt8)]++AN.1;bif kL [decide ((1:Nat)+List.length ((QV AJ).1)≤eV),qu (abO AJ)] then
    some (FB,())
   else none
  else
   bif decide (Dn<10) then
    let Tb:List Int:=[IntKind.wrap .u8 (IntKind.wrap .i64 (48+Dn))];some (tv Tb,())
   else
    let Tc:List Int:=[IntKind.wrap .u8 (IntKind.wrap .i64 (48+Int.tmod Dn 10))];let BN:=IntKind.wrap .i64 (Int.tdiv Dn 10);let CD:=QV BN;let xd:=CD.1++tv Tc;bif kL [decide (List.length ((QV BN).1)+(1:Nat)≤eV),true,qu (abO BN),true] then
     some (xd,())
    else none
def Wh.EU:Nat→(Int)→Option (((List UInt8))×(Unit))
 |0,_=>none
 |n+1,xs=>q36 (EU n) (fun x=>match EU n x with | some y=>y|none=>default) xs
def Wh.Tx (n:Nat):EU (n+1)=q36 (EU n) (fun x=>match EU n x with | some y=>y|none=>default):=rfl
def Wh.z9 (xs:Int):Option (List UInt8×Unit):=EU 20 xs
def Wh.L1 (xs:ei.D):Option (List UInt8×Unit):=
 let w_0:=xs;bn (zog z9 w_0.1) fun r_1=>
 bn (zog z9 w_0.2.1) fun r_3=>
 bn (zog z9 (w_0.2.2.1)) fun n5=>
 bn (zog z9 (w_0.2.2.2.1)) fun w9=>
 bn (zog z9 (w_0.2.2.2.2.1)) fun BB=>
 let r_:=r_1.1 ++ [(32:UInt8)]++r_3.1 ++ [(32:UInt8)]++n5.1 ++ [(32:UInt8)]++w9.1 ++ [(32:UInt8)]++BB.1 ++ [(32:UInt8)]++w_0.2.2.2.2.2.1 ++ [(58:UInt8)]++w_0.2.2.2.2.2.2.1;bif kL [decide (List.length (r_1.1 ++ [(32:UInt8)]++r_3.1 ++ [(32:UInt8)]++n5.1 ++ [(32:UInt8)]++w9.1 ++ [(32:UInt8)]++BB.1 ++ [(32:UInt8)]++w_0.2.2.2.2.2.1 ++ [(58:UInt8)])+List.length (w_0.2.2.2.2.2.2.1)≤eV),decide (List.length (r_1.1 ++ [(32:UInt8)]++r_3.1 ++ [(32:UInt8)]++n5.1 ++ [(32:UInt8)]++w9.1 ++ [(32:UInt8)]++BB.1 ++ [(32:UInt8)]++w_0.2.2.2.2.2.1)+(1:Nat)≤eV),decide (List.length (r_1.1 ++ [(32:UInt8)]++r_3.1 ++ [(32:UInt8)]++n5.1 ++ [(32:UInt8)]++w9.1 ++ [(32:UInt8)]++BB.1 ++ [(32:UInt8)])+List.length (w_0.2.2.2.2.2.1)≤eV),decide (List.length (r_1.1 ++ [(32:UInt8)]++r_3.1 ++ [(32:UInt8)]++n5.1 ++ [(32:UInt8)]++w9.1 ++ [(32:UInt8)]++BB.1)+(1:Nat)≤eV),decide (List.length (r_1.1 ++ [(32:UInt8)]++r_3.1 ++ [(32:UInt8)]++n5.1 ++ [(32:UInt8)]++w9.1 ++ [(32:UInt8)])+List.length BB.1≤eV),qu (z9 (w_0.2.2.2.2.1)),decide (List.length (r_1.1 ++ [(32:UInt8)]++r_3.1 ++ [(32:UInt8)]++n5.1 ++ [(32:UInt8)]++w9.1)+(1:Nat)≤eV),decide (List.length (r_1.1 ++ [(32:UInt8)]++r_3.1 ++ [(32:UInt8)]++n5.1 ++ [(32:UInt8)])+List.length w9.1≤eV),qu (z9 (w_0.2.2.2.1)),decide (List.length (r_1.1 ++ [(32:UInt8)]++r_3.1 ++ [(32:UInt8)]++n5.1)+(1:Nat)≤eV),decide (List.length (r_1.1 ++ [(32:UInt8)]++r_3.1 ++ [(32:UInt8)])+List.length n5.1≤eV),qu (z9 (w_0.2.2.1)),decide (List.length (r_1.1 ++ [(32:UInt8)]++r_3.1)+(1:Nat)≤eV),decide (List.length (r_1.1 ++ [(32:UInt8)])+List.length r_3.1≤eV),qu (z9 w_0.2.1),decide (List.length r_1.1+(1:Nat)≤eV),qu (z9 w_0.1)] then
  some (r_,())
 else none
abbrev Wh.aaz:Type:=List UInt8×Unit
abbrev Wh.aha:Type:=List UInt8×Unit
def Wh.Oh (x:aaz):Option (aaz⊕aha):=
 let QY:=x.1;bif decide ((↑(List.length QY):Int)<7) then
  let Gp:List UInt8:=[(48:UInt8)]++QY;bif kL [decide ((1:Nat)+List.length QY≤eV)] then
   some (.inl (Gp,()))
  else none
 else
  some (.inr (QY,()))
def Wh.aaA:List UInt8×Unit:=default
abbrev Wh.aax:Type:=(Int×List UInt8×Int)×Unit
abbrev Wh.ag_:Type:=Int×Unit
def Wh.Qw (x:aax):Option (aax⊕ag_):=
 let Cz:=x.1.1;let T4:=x.1.2.1;let n_14:=x.1.2.2;let Bq:=decide (Cz<(↑(List.length T4):Int));bif Bq then
  let AP:Int:=(↑(UInt8.toNat (List.getD T4 (Int.toNat Cz) (0:UInt8))):Int);bif kL [true,decide (0≤Cz),Bq] then
   some (.inl (((IntKind.wrap .i64 (Cz+1)),T4,(Int.tmod (IntKind.wrap .i64 (IntKind.wrap .i64 ((IntKind.wrap .i64 (n_14*31))+IntKind.wrap .i64 AP)+7)) 1000003)),()))
  else none
 else
  some (.inr (n_14,()))
def Wh.aay:Int×Unit:=default
def Wh.KO (xs:List UInt8):Option (List UInt8×Unit):=
 let Bd:=xs;g8 Qw aay (((0,Bd,1),())) fun y_24=>
  let n_25:=y_24.1;c9 z9 n_25 fun Ik=>
   g8 Oh aaA ((Ik.1,())) fun Lk=>
    let s_35:=Lk.1;some (s_35,())
def Wh.H_ (xs:ei.D):Option (List UInt8×Unit):=
 let w_0:=xs;c9 EA w_0 fun r_1=>
  bif !r_1.1 then
   some ([],())
  else
   c9 L1 w_0 fun r_2=>
    bn (zog KO r_2.1) fun r_3=>
    let n_:=r_3.1++r_2.1;bif kL [decide (List.length r_3.1+List.length r_2.1≤eV),qu (KO r_2.1)] then
     some (n_,())
    else none
def Wh.q63 (xs:List UInt8):Option ((ei.D×Bool)×Unit):=
 let Bd:=xs;c9 Cs (Bd,7,58) fun r_1=>
  let AJ:=bif decide (r_1.1<0) then true else decide ((↑(List.length Bd):Int)>160);bif AJ then
   some (((0,0,0,0,0,[],[],()),false),())
  else
   bn (zog DG (List.take (Int.toNat (r_1.1-7)) (List.drop (Int.toNat 7) Bd),32)) fun dz=>
   let n_:List UInt8:=List.take (Int.toNat (r_1.1-7)) (List.drop (Int.toNat 7) Bd);bif kL [qu (DG (n_,32)),true,decide (7≤r_1.1),decide (r_1.1≤(↑(List.length Bd):Int))] then
    let nW:Int:=(↑(List.length dz.1):Int);let nI:=nW != 6;bif nI then
     some (((0,0,0,0,0,[],[],()),false),())
    else
     let Kf:List UInt8:=List.take (Int.toNat ((↑(List.length Bd):Int)-IntKind.wrap .i64 (r_1.1+1))) (List.drop (Int.toNat (IntKind.wrap .i64 (r_1.1+1))) Bd);let I4:=List.getD dz.1 (Int.toNat 5) [];bn (zog Ay (List.getD dz.1 (Int.toNat 4) [])) fun A2=>
     bn (zog Ay (List.getD dz.1 (Int.toNat 3) [])) fun Cd=>
     bn (zog Ay (List.getD dz.1 (Int.toNat 2) [])) fun BB=>
     bn (zog Ay (List.getD dz.1 (Int.toNat 1) [])) fun Dr=>
     bn (zog Ay (List.getD dz.1 (Int.toNat 0) [])) fun BV=>
     let Bq:=List.getD dz.1 (Int.toNat 0) [];let r5:=List.getD dz.1 (Int.toNat 1) [];let AP:=List.getD dz.1 (Int.toNat 2) [];let r_:=List.getD dz.1 (Int.toNat 3) [];let xb:=List.getD dz.1 (Int.toNat 4) [];let je:=IntKind.wrap .i64 (r_1.1+1);bif kL [decide (0≤je),decide (je≤(↑(List.length Bd):Int)),decide ((↑(List.length Bd):Int)≤(↑(List.length Bd):Int)),true,decide (5<nW),qu (Ay xb),true,decide (4<nW),qu (Ay r_),true,decide (3<nW),qu (Ay AP),true,decide (2<nW),qu (Ay r5),true,decide (1<nW),qu (Ay Bq),true,decide (0<nW)] then
      bn (zog EA (BV.1,Dr.1,BB.1,Cd.1,A2.1,I4,Kf,())) fun DW=>
      bn (zog H_ (BV.1,Dr.1,BB.1,Cd.1,A2.1,I4,Kf,())) fun r_22=>
      let qe:=bif !DW.1 then true else !r_22.1==Bd;bif kL [!!!DW.1 || qu (H_ (BV.1,Dr.1,BB.1,Cd.1,A2.1,I4,Kf,())),qu (EA (BV.1,Dr.1,BB.1,Cd.1,A2.1,I4,Kf,()))] then
       bif qe then
        some (((0,0,0,0,0,[],[],()),false),())
       else
        some (((BV.1,Dr.1,BB.1,Cd.1,A2.1,I4,Kf,()),true),())
      else none
     else none
   else none
abbrev Wh.abo:Type:=(Int×Int×Unit)×List Int
abbrev Wh.ahz:Type:=Unit×List Int
def Wh.Ol (x:abo):Option (abo⊕ahz):=
 let BH:=x.1.1;let n_28:=x.1.2.1;let CP:=x.2;bif decide (BH≥0) then
  let w7:List Int:=[IntKind.wrap .u8 (Int.fdiv n_28 (2 ^ Min.min (Int.toNat (IntKind.wrap .i64 (8*BH))) (Go.IntKind.bits Go.IntKind.i64)))];let AE:=CP++w7;bif kL [decide (List.length CP+(1:Nat)≤eV),decide (0≤(IntKind.wrap .i64 (8*BH)))] then
   some (.inl (((IntKind.wrap .i64 (BH-1)),n_28,()),AE))
  else none
 else
  some (.inr ((),CP))
def Wh.abp:Unit×List Int:=default
abbrev Wh.abm:Type:=(Unit×List UInt8)×List Int
abbrev Wh.ahy:Type:=(Unit×List UInt8)×List Int
def Wh.Mp (x:abm):Option (abm⊕ahy):=
 let acu:=x.1.2;let IX:=x.2;let Cv:Bool:=(Int.tmod (↑(List.length IX):Int) 64) != 56;bif Cv then
  let NC:=IX ++ [(0:Int)];bif kL [decide (List.length IX+(1:Nat)≤eV)] then
   some (.inl (((),acu),NC))
  else none
 else
  some (.inr (((),acu),IX))
def Wh.abn:(Unit×List UInt8)×List Int:=default
def Wh.q77 (xs:List UInt8):Option (List Int×Unit):=
 let Bd:=xs;let ES:List Int:=bytesOf Bd ++ [(128:Int)];bif kL [decide (List.length (bytesOf Bd)+(1:Nat)≤eV),decide (List.length Bd≤eV)] then
  g8 Mp abn ((((),Bd),ES)) fun y_13=>
   let aje:=y_13.1.2;let v9:=y_13.2;g8 Ol abp (((7,(IntKind.wrap .i64 ((↑(List.length aje):Int)*8)),()),v9)) fun y_38=>
    let AQ:=y_38.2;some (AQ,())
 else none
def Wh.w8 (xs:Int×Int):Option (Int×Unit):=
 let x_0:=xs.1;let n_1:=xs.2;let v_2:Int:=Int.fdiv x_0 (2 ^ Min.min (Int.toNat n_1) (Go.IntKind.bits Go.IntKind.u32));let AJ:=IntKind.wrap .i64 (32-n_1);let nW:Int:=pZ Go.BinOp.or Go.IntKind.u32 v_2 (IntKind.wrap .u32 (x_0*2 ^ Min.min (Int.toNat AJ) (Go.IntKind.bits Go.IntKind.u32)));bif kL [decide (0≤AJ),decide (0≤n_1)] then
  some (nW,())
 else none
abbrev Wh.Zb:Type:=(Int×Unit)×List Int
abbrev Wh.agv:Type:=Unit×List Int
def Wh.Od (x:Zb):Option (Zb⊕agv):=
 let IL:=x.1.1;let D8:=x.2;bif decide (IL<64) then
  let v_96:=IntKind.wrap .i64 (IL-15);let OT:=List.getD D8 (Int.toNat v_96) 0;bif kL [decide (0≤v_96),decide (v_96<(↑(List.length D8):Int))] then
   let v_99:=IntKind.wrap .i64 (IL-2);let OU:=List.getD D8 (Int.toNat v_99) 0;bif kL [decide (0≤v_99),decide (v_99<(↑(List.length D8):Int))] then
    bn (zog w8 (OT,7)) fun r_102=>
    bn (zog w8 (OT,18)) fun r_103=>
    let v_105:Int:=Int.fdiv OT (2 ^ Min.min (Int.toNat 3) (Go.IntKind.bits Go.IntKind.u32));let a_107:Int:=pZ Go.BinOp.xor Go.IntKind.u32 (pZ Go.BinOp.xor Go.IntKind.u32 r_102.1 r_103.1) v_105;bif kL [true,qu (w8 (OT,18)),qu (w8 (OT,7))] then
     bn (zog w8 (OU,17)) fun r_108=>
     bn (zog w8 (OU,19)) fun r_109=>
     let v_111:Int:=Int.fdiv OU (2 ^ Min.min (Int.toNat 10) (Go.IntKind.bits Go.IntKind.u32));let c_113:Int:=pZ Go.BinOp.xor Go.IntKind.u32 (pZ Go.BinOp.xor Go.IntKind.u32 r_108.1 r_109.1) v_111;bif kL [true,qu (w8 (OU,19)),qu (w8 (OU,17))] then
      let pb_114:List Int:=[IntKind.wrap .u32 (IntKind.wrap .u32 (IntKind.wrap .u32 (List.getD D8 (Int.toNat (IntKind.wrap .i64 (IL-16))) 0+a_107)+List.getD D8 (Int.toNat (IntKind.wrap .i64 (IL-7))) 0)+c_113)];let FN:=D8++pb_114;let v_116:=IntKind.wrap .i64 (IL-16);let v_119:=IntKind.wrap .i64 (IL-7);bif kL [decide (List.length D8+(1:Nat)≤eV),decide (0≤v_119),decide (v_119<(↑(List.length D8):Int)),decide (0≤v_116),decide (v_116<(↑(List.length D8):Int))] then
       some (.inl (((IntKind.wrap .i64 (IL+1)),()),FN))
      else none
     else none
    else none
   else none
  else none
 else
  some (.inr ((),D8))
def Wh.Zc:Unit×List Int:=default
abbrev Wh.Y_:Type:=(Int×List Int×Unit)×List Int
abbrev Wh.agu:Type:=Unit×List Int
def Wh.Oc (x:Y_):Option (Y_⊕agu):=
 let JW:=x.1.1;let Hp:=x.1.2.1;let AE:=x.2;bif decide (JW<16) then
  let Qd:List Int:=[pZ Go.BinOp.or Go.IntKind.u32 (pZ Go.BinOp.or Go.IntKind.u32 (pZ Go.BinOp.or Go.IntKind.u32 (IntKind.wrap .u32 (IntKind.wrap .u32 (List.getD Hp (Int.toNat (IntKind.wrap .i64 (4*JW))) 0)*2 ^ Min.min (Int.toNat 24) (Go.IntKind.bits Go.IntKind.u32))) (IntKind.wrap .u32 (IntKind.wrap .u32 (List.getD Hp (Int.toNat (IntKind.wrap .i64 (IntKind.wrap .i64 (4*JW)+1))) 0)*2 ^ Min.min (Int.toNat 16) (Go.IntKind.bits Go.IntKind.u32)))) (IntKind.wrap .u32 (IntKind.wrap .u32 (List.getD Hp (Int.toNat (IntKind.wrap .i64 (IntKind.wrap .i64 (4*JW)+2))) 0)*2 ^ Min.min (Int.toNat 8) (Go.IntKind.bits Go.IntKind.u32)))) (IntKind.wrap .u32 (List.getD Hp (Int.toNat (IntKind.wrap .i64 (IntKind.wrap .i64 (4*JW)+3))) 0))];let nc:=AE++Qd;let CZ:=IntKind.wrap .i64 (4*JW);bif kL [decide (List.length AE+(1:Nat)≤eV),decide (0≤IntKind.wrap .i64 (CZ+3)),decide (IntKind.wrap .i64 (CZ+3)<(↑(List.length Hp):Int)),true,decide (0≤IntKind.wrap .i64 (CZ+2)),decide (IntKind.wrap .i64 (CZ+2)<(↑(List.length Hp):Int)),true,decide (0≤IntKind.wrap .i64 (CZ+1)),decide (IntKind.wrap .i64 (CZ+1)<(↑(List.length Hp):Int)),true,decide (0≤CZ),decide (CZ<(↑(List.length Hp):Int))] then
   some (.inl (((IntKind.wrap .i64 (JW+1)),Hp,()),nc))
  else none
 else
  some (.inr ((),AE))
def Wh.Za:Unit×List Int:=default
def Wh.LZ (xs:List Int):Option (List Int×Unit):=
 let BE:=xs;g8 Oc Za (((0,BE,()),[])) fun y_60=>
  let BI:=y_60.2;g8 Od Zc (((16,()),BI)) fun y_125=>
   let GK:=y_125.2;some (GK,())
def Wh.q76 (_:Unit):Option (((List (Int)))×(Unit)):=
 let pb_0:List Int:=[(1116352408:Int),1899447441,3049323471,3921009573,961987163,1508970993,2453635748,2870763221,3624381080,310598401,607225278,1426881987,1925078388,2162078206,2614888103,3248222580,3835390401,4022224774,264347078,604807628,770255983,1249150122,1555081692,1996064986,2554220882,2821834349,2952996808,3210313671,3336571891,3584528711,113926993,338241895,666307205,773529912,1294757372,1396182291,1695183700,1986661051,2177026350,2456956037,2730485921,2820302411,3259730800,3345764771,3516065817,3600352804,4094571909,275423344,430227734,506948616,659060556,883997877,958139571,1322822218,1537002063,1747873779,1955562222,2024104815,2227730452,2361852424,2428436474,2756734187,3204031479,3329325298];some (pb_0,())
abbrev Wh.Y8:Type:=(Int×Unit×List Int×Unit)×List Int×List Int
abbrev Wh.agt:Type:=Unit×List Int
def Wh.Tw (x:Y8):Option (Y8⊕agt):=
 let IF:=x.1.1;let So:=x.1.2.2.1;let FQ:=x.2.1;let FR:=x.2.2;bif decide (IF<8) then
  let pb_193:List Int:=[IntKind.wrap .u32 (List.getD So (Int.toNat IF) 0+List.getD FQ (Int.toNat IF) 0)];let J5:=FR++pb_193;bif kL [decide (List.length FR+(1:Nat)≤eV),decide (0≤IF),decide (IF<(↑(List.length FQ):Int)),decide (0≤IF),decide (IF<(↑(List.length So):Int))] then
   some (.inl (((IntKind.wrap .i64 (IF+1)),(),So,()),FQ,J5))
  else none
 else
  some (.inr ((),FR))
def Wh.Y9:Unit×List Int:=default
abbrev Wh.Y7:Type:=(Int×Unit×Unit×Unit×List Int×Int×Int×Int×Int)×List Int×List Int×List Int
abbrev Wh.ags:Type:=(Unit×Unit×Unit×List Int×Int×Int×Int×Int)×List Int×List Int×List Int
def Wh.Tu (x:Y7):Option (Y7⊕ags):=
 let LO:=x.1.1;let h_73:=x.1.2.2.2.2.1;let i_74:=x.1.2.2.2.2.2.1;let Yd:=x.1.2.2.2.2.2.2.1;let a_76:=x.1.2.2.2.2.2.2.2.1;let t_77:=x.1.2.2.2.2.2.2.2.2;let Et:=x.2.1;let EP:=x.2.2.1;let D7:=x.2.2.2;bif decide (LO>0) then
  let CS:=List.set Et (Int.toNat LO) (List.getD Et (Int.toNat (IntKind.wrap .i64 (LO-1))) 0);let Iw:=IntKind.wrap .i64 (LO-1);bif kL [decide (0≤LO),decide (LO<(↑(List.length Et):Int)),decide (0≤Iw),decide (Iw<(↑(List.length Et):Int))] then
   some (.inl ((Iw,(),(),(),h_73,i_74,Yd,a_76,t_77),CS,EP,D7))
  else none
 else
  some (.inr (((),(),(),h_73,i_74,Yd,a_76,t_77),Et,EP,D7))
def Wh.Tv:(Unit×Unit×Unit×List Int×Int×Int×Int×Int)×List Int×List Int×List Int:=default
abbrev Wh.Y5:Type:=(Unit×Int×Unit×Unit×List Int)×List Int×List Int×List Int
abbrev Wh.agr:Type:=(Unit×List Int)×List Int
def Wh.Ob (x:Y5):Option (Y5⊕agr):=
 let IE:=x.1.2.1;let h_103:=x.1.2.2.2.2;let Az:=x.2.1;let Eo:=x.2.2.1;let Ep:=x.2.2.2;bif decide (IE<64) then
  let JB:=List.getD Az (Int.toNat 4) 0;bn (zog w8 (JB,6)) fun r_119=>
  bn (zog w8 (JB,11)) fun Ii=>
  bn (zog w8 (JB,25)) fun r_121=>
  let e_122:Int:=pZ Go.BinOp.xor Go.IntKind.u32 (pZ Go.BinOp.xor Go.IntKind.u32 r_119.1 Ii.1) r_121.1;bif kL [qu (w8 (JB,25)),true,decide (4<(↑(List.length Az):Int)),qu (w8 (JB,11)),true,decide (4<(↑(List.length Az):Int)),qu (w8 (JB,6)),true,decide (4<(↑(List.length Az):Int))] then
   let v_123:=List.getD Az (Int.toNat 5) 0;let v_124:=List.getD Az (Int.toNat 6) 0;let ch_127:Int:=pZ Go.BinOp.xor Go.IntKind.u32 (pZ Go.BinOp.and Go.IntKind.u32 JB v_123) (pZ Go.BinOp.and Go.IntKind.u32 (pZ Go.BinOp.xor Go.IntKind.u32 (Go.IntKind.max Go.IntKind.u32) JB) v_124);bif kL [true,decide (6<(↑(List.length Az):Int)),true,decide (4<(↑(List.length Az):Int)),true,decide (5<(↑(List.length Az):Int)),true,decide (4<(↑(List.length Az):Int))] then
    let Rf:=List.getD Az (Int.toNat 7) 0;let v_131:=List.getD Ep (Int.toNat IE) 0;let T7:=List.getD Eo (Int.toNat IE) 0;bif kL [decide (0≤IE),decide (IE<(↑(List.length Eo):Int)),decide (0≤IE),decide (IE<(↑(List.length Ep):Int)),true,decide (7<(↑(List.length Az):Int))] then
     let He:=List.getD Az (Int.toNat 0) 0;bn (zog w8 (He,2)) fun r_147=>
     bn (zog w8 (He,13)) fun r_148=>
     bn (zog w8 (He,22)) fun r_149=>
     let a_150:Int:=pZ Go.BinOp.xor Go.IntKind.u32 (pZ Go.BinOp.xor Go.IntKind.u32 r_147.1 r_148.1) r_149.1;bif kL [qu (w8 (He,22)),true,decide (0<(↑(List.length Az):Int)),qu (w8 (He,13)),true,decide (0<(↑(List.length Az):Int)),qu (w8 (He,2)),true,decide (0<(↑(List.length Az):Int))] then
      let v_151:=List.getD Az (Int.toNat 1) 0;let v_152:=List.getD Az (Int.toNat 2) 0;let afH:Int:=pZ Go.BinOp.xor Go.IntKind.u32 (pZ Go.BinOp.xor Go.IntKind.u32 (pZ Go.BinOp.and Go.IntKind.u32 He v_151) (pZ Go.BinOp.and Go.IntKind.u32 He v_152)) (pZ Go.BinOp.and Go.IntKind.u32 v_151 v_152);bif kL [true,decide (2<(↑(List.length Az):Int)),true,decide (1<(↑(List.length Az):Int)),true,decide (2<(↑(List.length Az):Int)),true,decide (0<(↑(List.length Az):Int)),true,decide (1<(↑(List.length Az):Int)),true,decide (0<(↑(List.length Az):Int))] then
       g8 Tu Tv (((7,(),(),(),h_103,IE,afH,a_150,(IntKind.wrap .u32 (IntKind.wrap .u32 (IntKind.wrap .u32 (IntKind.wrap .u32 (Rf+e_122)+ch_127)+v_131)+T7))),Az,Eo,Ep)) fun JH=>
        let h_158:=JH.1.2.2.2.1;let i_159:=JH.1.2.2.2.2.1;let afI:=JH.1.2.2.2.2.2.1;let a_161:=JH.1.2.2.2.2.2.2.1;let t_162:=JH.1.2.2.2.2.2.2.2;let LK:=JH.2.1;let SV:=JH.2.2.1;let SW:=JH.2.2.2;let X1:=List.set LK (Int.toNat 4) (IntKind.wrap .u32 (List.getD LK (Int.toNat 4) 0+t_162));bif kL [true,decide (4<(↑(List.length LK):Int)),true,decide (4<(↑(List.length LK):Int))] then
         let ls_169:=List.set X1 (Int.toNat 0) (IntKind.wrap .u32 (IntKind.wrap .u32 (t_162+a_161)+afI));bif kL [true,decide (0<(↑(List.length X1):Int))] then
          some (.inl (((),(IntKind.wrap .i64 (i_159+1)),(),(),h_158),ls_169,SV,SW))
         else none
        else none
      else none
     else none
    else none
   else none
  else none
 else
  some (.inr (((),h_103),Az))
def Wh.Y6:(Unit×List Int)×List Int:=default
def Wh.Kq (xs:List Int×List Int):Option (List Int×Unit):=
 let h_0:=xs.1;let b_1:=xs.2;c9 LZ b_1 fun r_2=>
  c9 q76 () fun r_3=>
   let N5:List Int:=[]++h_0;bif kL [decide ((0:Nat)+List.length h_0≤eV)] then
    g8 Ob Y6 ((((),0,(),(),h_0),N5,r_2.1,r_3.1)) fun y_174=>
     let h_175:=y_174.1.2;let ls_176:=y_174.2;g8 Tw Y9 (((0,(),h_175,()),ls_176,[])) fun y_200=>
      let FU:=y_200.2;some (FU,())
   else none
abbrev Wh.aab:Type:=(Int×Unit×Unit)×List Int×List Int
abbrev Wh.agZ:Type:=Unit×List Int
def Wh.Tz (x:aab):Option (aab⊕agZ):=
 let Ek:=x.1.1;let wm:=x.2.1;let nc:=x.2.2;bif decide (Ek<8) then
  let Tl:List Int:=[IntKind.wrap .u8 (Int.fdiv (List.getD wm (Int.toNat Ek) 0) (2 ^ Min.min (Int.toNat 24) (Go.IntKind.bits Go.IntKind.u32))),IntKind.wrap .u8 (Int.fdiv (List.getD wm (Int.toNat Ek) 0) (2 ^ Min.min (Int.toNat 16) (Go.IntKind.bits Go.IntKind.u32))),IntKind.wrap .u8 (Int.fdiv (List.getD wm (Int.toNat Ek) 0) (2 ^ Min.min (Int.toNat 8) (Go.IntKind.bits Go.IntKind.u32))),IntKind.wrap .u8 (List.getD wm (Int.toNat Ek) 0)];let nC:=nc++Tl;bif kL [decide (List.length nc+(4:Nat)≤eV),decide (0≤Ek),decide (Ek<(↑(List.length wm):Int)),true,decide (0≤Ek),decide (Ek<(↑(List.length wm):Int)),true,decide (0≤Ek),decide (Ek<(↑(List.length wm):Int)),true,decide (0≤Ek),decide (Ek<(↑(List.length wm):Int))] then
   some (.inl (((IntKind.wrap .i64 (Ek+1)),(),()),wm,nC))
  else none
 else
  some (.inr ((),nc))
def Wh.aac:Unit×List Int:=default
abbrev Wh.Z_:Type:=(Int×Unit×Unit)×List Int×List Int
abbrev Wh.agY:Type:=Unit×List Int
def Wh.Ma (x:Z_):Option (Z_⊕agY):=
 let CM:=x.1.1;let HE:=x.2.1;let NC:=x.2.2;bif decide (CM<(↑(List.length HE):Int)) then
  bn (zog Kq (NC,List.take (Int.toNat (IntKind.wrap .i64 (CM+64)-CM)) (List.drop (Int.toNat CM) HE))) fun Dr=>
  let ov:=IntKind.wrap .i64 (CM+64);bif kL [qu (Kq (NC,List.take (Int.toNat (ov-CM)) (List.drop (Int.toNat CM) HE))),decide (0≤CM),decide (CM≤ov),decide (ov≤(↑(List.length HE):Int))] then
   some (.inl ((ov,(),()),HE,Dr.1))
  else none
 else
  some (.inr ((),NC))
def Wh.aaa:Unit×List Int:=default
def Wh.KJ (xs:List UInt8):Option (List UInt8×Unit):=
 let Bd:=xs;c9 q77 Bd fun r_1=>
  g8 Ma aaa (((0,(),()),r_1.1,[(1779033703:Int),3144134277,1013904242,2773480762,1359893119,2600822924,528734635,1541459225])) fun y_17=>
   let AD:=y_17.2;g8 Tz aac (((0,(),()),AD,[])) fun y_48=>
    let z5:=y_48.2;some (tv z5,())
abbrev Wh.Z8:Type:=(Int×List UInt8×Unit)×List Int
abbrev Wh.agX:Type:=Unit×List Int
def Wh.L_ (x:Z8):Option (Z8⊕agX):=
 let BG:=x.1.1;let DX:=x.1.2.1;let v9:=x.2;let r5:=decide (BG<(↑(List.length DX):Int));bif r5 then
  let Tf:List Int:=[(↑(UInt8.toNat (List.getD [(48:UInt8),(49:UInt8),(50:UInt8),(51:UInt8),(52:UInt8),(53:UInt8),(54:UInt8),(55:UInt8),(56:UInt8),(57:UInt8),(97:UInt8),(98:UInt8),(99:UInt8),(100:UInt8),(101:UInt8),(102:UInt8)] (Int.toNat (IntKind.wrap .u8 (Int.tdiv (↑(UInt8.toNat (List.getD DX (Int.toNat BG) (0:UInt8))):Int) 16))) (0:UInt8))):Int),(↑(UInt8.toNat (List.getD [(48:UInt8),(49:UInt8),(50:UInt8),(51:UInt8),(52:UInt8),(53:UInt8),(54:UInt8),(55:UInt8),(56:UInt8),(57:UInt8),(97:UInt8),(98:UInt8),(99:UInt8),(100:UInt8),(101:UInt8),(102:UInt8)] (Int.toNat (Int.tmod (↑(UInt8.toNat (List.getD DX (Int.toNat BG) (0:UInt8))):Int) 16)) (0:UInt8))):Int)];let AD:=v9++Tf;let xb:Int:=(↑(UInt8.toNat (List.getD DX (Int.toNat BG) (0:UInt8))):Int);bif kL [decide (List.length v9+(2:Nat)≤eV),decide (0≤Int.tmod xb 16),decide (Int.tmod xb 16<(↑(16:Nat):Int)),true,decide (0≤BG),r5,decide (0≤IntKind.wrap .u8 (Int.tdiv xb 16)),decide (IntKind.wrap .u8 (Int.tdiv xb 16)<(↑(16:Nat):Int)),true,decide (0≤BG),r5] then
   some (.inl (((IntKind.wrap .i64 (BG+1)),DX,()),AD))
  else none
 else
  some (.inr ((),v9))
def Wh.Z9:Unit×List Int:=default
def Wh.H7 (xs:List UInt8):Option (List UInt8×Unit):=
 let cx:=xs;g8 L_ Z9 (((0,cx,()),[])) fun JI=>
  let Bz:=JI.2;some (tv Bz,())
def Wh.q84 (xs:List UInt8):Option (List UInt8×Unit):=
 let Bd:=xs;bn (zog KJ Bd) fun r_1=>
 bn (zog H7 r_1.1) fun r_3=>
 bif kL [qu (H7 r_1.1),qu (KJ Bd)] then
  some (r_3.1,())
 else none
def Wh.HX (xs:Int×List UInt8):Option (List UInt8×Unit):=
 let Dn:=xs.1;let CX:=xs.2;bn (zog z9 Dn) fun r_2=>
 bn (zog z9 (↑(List.length CX):Int)) fun dz=>
 let JU:=r_2.1 ++ [(32:UInt8)]++dz.1 ++ [(32:UInt8)];bif kL [decide (List.length (r_2.1 ++ [(32:UInt8)]++dz.1)+(1:Nat)≤eV),decide (List.length (r_2.1 ++ [(32:UInt8)])+List.length dz.1≤eV),qu (z9 (↑(List.length CX):Int)),decide (List.length r_2.1+(1:Nat)≤eV),qu (z9 Dn)] then
  let FB:List UInt8:=JU++CX;bn (zog q84 FB) fun CD=>
  let xd:List UInt8:=JU++List.take (Int.toNat ((16:Int)-0)) (List.drop (Int.toNat 0) CD.1) ++ [(32:UInt8)]++CX ++ [(10:UInt8)];bif kL [decide (List.length (JU++List.take (Int.toNat ((16:Int)-0)) (List.drop (Int.toNat 0) (CD.1)) ++ [(32:UInt8)]++CX)+(1:Nat)≤eV),decide (List.length (JU++List.take (Int.toNat ((16:Int)-0)) (List.drop (Int.toNat 0) (CD.1)) ++ [(32:UInt8)])+List.length CX≤eV),decide (List.length (JU++List.take (Int.toNat ((16:Int)-0)) (List.drop (Int.toNat 0) (CD.1)))+(1:Nat)≤eV),decide (List.length JU+List.length (List.take (Int.toNat ((16:Int)-0)) (List.drop (Int.toNat 0) (CD.1)))≤eV),true,true,decide (16≤(↑(List.length (CD.1)):Int)),qu (q84 FB),decide (List.length JU+List.length CX≤eV)] then
   some (xd,())
  else none
 else none
def Wh.Ji (xs:List UInt8×Int×Int):Option ((List UInt8×Int)×Unit):=
 let A5:=xs.1;let C6:=xs.2.1;let S7:=xs.2.2;c9 Cs (A5,C6,32) fun r_3=>
  let AK:=decide (r_3.1<0);bn (zog Ay (List.take (Int.toNat (r_3.1-C6)) (List.drop (Int.toNat C6) A5))) fun g9=>
  let nW:=bif AK then true else g9.1 != S7;bif kL [!!AK || qu (Ay (List.take (Int.toNat (r_3.1-C6)) (List.drop (Int.toNat C6) A5))),!!AK || decide (0≤C6),!!AK || decide (C6≤r_3.1),!!AK || decide (r_3.1≤(↑(List.length A5):Int))] then
   bif nW then
    some (([],0),())
   else
    let nI:=IntKind.wrap .i64 (r_3.1+1);c9 Cs (A5,nI,32) fun w9=>
     bif decide (w9.1<0) then
      some (([],0),())
     else
      bn (zog Ay (List.take (Int.toNat (w9.1-nI)) (List.drop (Int.toNat nI) A5))) fun Dr=>
      bif kL [qu (Ay (List.take (Int.toNat (w9.1-nI)) (List.drop (Int.toNat nI) A5))),decide (0≤nI),decide (nI≤w9.1),decide (w9.1≤(↑(List.length A5):Int))] then
       let ov:=IntKind.wrap .i64 (w9.1+18);bn (zog fN (Dr.1,1,500)) fun E3=>
       let r5:=bif !E3.1 then true else decide (IntKind.wrap .i64 (IntKind.wrap .i64 (ov+Dr.1)+1)>(↑(List.length A5):Int));bif kL [qu (fN (Dr.1,1,500))] then
        bif r5 then
         some (([],0),())
        else
         let AP:=IntKind.wrap .i64 (ov+Dr.1);bn (zog HX (S7,List.take (Int.toNat (AP-ov)) (List.drop (Int.toNat ov) A5))) fun CD=>
         bif kL [qu (HX (S7,List.take (Int.toNat (AP-ov)) (List.drop (Int.toNat ov) A5))),decide (0≤ov),decide (ov≤AP),decide (AP≤(↑(List.length A5):Int))] then
          bif kL [decide (0≤C6),decide (C6≤IntKind.wrap .i64 (AP+1)),decide (IntKind.wrap .i64 (AP+1)≤(↑(List.length A5):Int))] then
           bif(!List.take (Int.toNat (IntKind.wrap .i64 (AP+1)-C6)) (List.drop (Int.toNat C6) A5)==CD.1) then
            some (([],0),())
           else
            let Iq:Int:=(↑(List.length CD.1):Int);let th:List UInt8:=List.take (Int.toNat (AP-ov)) (List.drop (Int.toNat ov) A5);bif kL [decide (0≤ov),decide (ov≤AP),decide (AP≤(↑(List.length A5):Int))] then
             some ((th,Iq),())
            else none
          else none
         else none
       else none
      else none
  else none
abbrev Wh.ZO:Type:=(Int×Unit×List UInt8)×List (List UInt8)
abbrev Wh.agO:Type:=(Unit×Int)×List (List UInt8)
def Wh.L7 (x:ZO):Option (ZO⊕agO):=
 let RC:=x.1.1;let XP:=x.1.2.2;let By:=x.2;let je:Int:=(↑(List.length By):Int);c9 Ji (XP,RC,je) fun Fv=>
  bif(Fv.1.2==0) then
   some (.inr (((),RC),By))
  else
   let ET:List (List UInt8):=[Fv.1.1];let Bj:List (List UInt8):=By++ET;bif kL [decide (List.length By+(1:Nat)≤eV)] then
    some (.inl (((IntKind.wrap .i64 (RC+Fv.1.2)),(),XP),Bj))
   else none
def Wh.ZP:(Unit×Int)×List (List UInt8):=default
def Wh.Fp (xs:List UInt8):Option ((List (List UInt8)×Int)×Unit):=
 let A5:=xs;g8 L7 ZP (((0,(),A5),[])) fun Lk=>
  let BY:=Lk.1.2;let AM:=Lk.2;some ((AM,BY),())
def Wh.G0 (xs:an.D):Option (Bool×Unit):=
 let t_0:an.D:=xs;bn (zog fN (t_0.1,0,1)) fun r_1=>
 bn (zog DT t_0.2.1) fun r_2=>
 bn (zog fN ((↑(List.length (t_0.2.2.2.1)):Int),1,300)) fun g9=>
 let nI:=bif bif r_1.1 then r_2.1 else false then g9.1 else false;bif kL [(!bif r_1.1 then r_2.1 else false) || qu (fN ((↑(List.length (t_0.2.2.2.1)):Int),1,300)),!r_1.1 || qu (DT t_0.2.1),qu (fN (t_0.1,0,1))] then
  some (nI,())
 else none
def Wh.EY (xs:Int×List UInt8×List UInt8):Option (List UInt8×Unit):=
 let LA:=xs.1;let Ea:=xs.2.1;let MK:=xs.2.2;let AJ:=MK == [];bif AJ then
  c9 G0 (LA,Ea,0,[(120:UInt8)],()) fun dz=>
   bif !dz.1 then
    some ([],())
   else
    bn (zog z9 LA) fun g9=>
    let Cv:=g9.1 ++ [(32:UInt8)]++Ea ++ [(58:UInt8)]++MK;bif kL [decide (List.length (g9.1 ++ [(32:UInt8)]++Ea ++ [(58:UInt8)])+List.length MK≤eV),decide (List.length (g9.1 ++ [(32:UInt8)]++Ea)+(1:Nat)≤eV),decide (List.length (g9.1 ++ [(32:UInt8)])+List.length Ea≤eV),decide (List.length g9.1+(1:Nat)≤eV),qu (z9 LA)] then
     some (Cv,())
    else none
 else
  c9 G0 (LA,Ea,0,MK,()) fun Cd=>
   bif !Cd.1 then
    some ([],())
   else
    bn (zog z9 LA) fun BB=>
    let AP:=BB.1 ++ [(32:UInt8)]++Ea ++ [(58:UInt8)]++MK;bif kL [decide (List.length (BB.1 ++ [(32:UInt8)]++Ea ++ [(58:UInt8)])+List.length MK≤eV),decide (List.length (BB.1 ++ [(32:UInt8)]++Ea)+(1:Nat)≤eV),decide (List.length (BB.1 ++ [(32:UInt8)])+List.length Ea≤eV),decide (List.length BB.1+(1:Nat)≤eV),qu (z9 LA)] then
     some (AP,())
    else none
def Wh.Jj (xs:an.D×Int×List UInt8):Option (Bool×Unit):=
 let Eg:=xs.1;let AY:=xs.2.1;let C9:=xs.2.2;let n_:=bif decide (Eg.1<AY) then true else bif Eg.1==AY then Go.Op.bytesLess Eg.2.1 C9 else false;some (n_,())
abbrev Wh.Zf:Type:=(Int×List an.D×Int×Int)×Unit
abbrev Wh.agx:Type:=Int×Unit
def Wh.Kr (x:Zf):Option (Zf⊕agx):=
 let Av:=x.1.1;let PN:=x.1.2.1;let n_17:=x.1.2.2.1;let Ss:=x.1.2.2.2;let xb:Int:=(↑(List.length PN):Int);bif decide (Av<xb) then
  let xd:an.D:=List.getD PN (Int.toNat Av) (0,[],0,[],());bif kL [decide (0≤Av),decide (Av<xb)] then
   bif(xd.1==Ss) then
    bif kL [decide (0≤Av),decide (Av<xb)] then
     some (.inl (((IntKind.wrap .i64 (Av+1)),PN,(IntKind.wrap .i64 (n_17+(↑(List.length (xd.2.2.2.1)):Int))),Ss),()))
    else none
   else
    some (.inl (((IntKind.wrap .i64 (Av+1)),PN,n_17,Ss),()))
  else none
 else
  some (.inr (n_17,()))
def Wh.Zg:Int×Unit:=default
def Wh.I_ (xs:List an.D×Int):Option (Int×Unit):=
 let JY:=xs.1;let AY:=xs.2;g8 Kr Zg (((0,JY,0,AY),())) fun C0=>
  let n_30:=C0.1;some (n_30,())
abbrev Wh.ZY:Type:=(Int×Unit)×g7.D
abbrev Wh.agT:Type:=Bool×Unit⊕Unit×Unit
def Wh.Og (x:ZY):Option (ZY⊕agT):=
 let h_66:=x.1.1;let BA:=x.2;bif decide (h_66<2) then
  c9 I_ (BA.2.1,h_66) fun r_69=>
   bif decide (r_69.1>500) then
    some (.inr (.inl (false,())))
   else
    some (.inl (((IntKind.wrap .i64 (h_66+1)),()),BA))
 else
  some (.inr (.inr ((),())))
def Wh.ZZ:Bool×Unit⊕Unit×Unit:=.inl default
abbrev Wh.ZW:Type:=(Int×Unit×Unit×Int)×an.D×g7.D
abbrev Wh.agS:Type:=Bool×Unit⊕(Unit×Int)×g7.D
def Wh.L9 (x:ZW):Option (ZW⊕agS):=
 let Ny:=x.1.1;let i_23:=x.1.2.2.2;let Bh:=x.2.1;let A9:=x.2.2;bif decide (Ny<i_23) then
  let Du:an.D:=List.getD A9.2.1 (Int.toNat Ny) (0,[],0,[],());bif kL [decide (0≤Ny),decide (Ny<(↑(List.length A9.2.1):Int))] then
   bif(Du.2.2.1==Bh.2.2.1) then
    some (.inr (.inl (false,())))
   else
    some (.inl (((IntKind.wrap .i64 (Ny+1)),(),(),i_23),Bh,A9))
  else none
 else
  some (.inr (.inr (((),i_23),A9)))
def Wh.ZX:Bool×Unit⊕(Unit×Int)×g7.D:=.inl default
abbrev Wh.ZU:Type:=(Unit×Int)×g7.D
abbrev Wh.agR:Type:=Bool×Unit⊕Unit×g7.D
def Wh.KE (x:ZU):Option (ZU⊕agR):=
 let Df:=x.1.2;let nC:=x.2;let EH:Int:=(↑(List.length nC.2.1):Int);bif decide (Df<EH) then
  let HQ:an.D:=List.getD nC.2.1 (Int.toNat Df) (0,[],0,[],());bif kL [decide (0≤Df),decide (Df<EH)] then
   bn (zog G0 HQ) fun On=>
   bn (zog fN (HQ.2.2.1,1,nC.1)) fun ED=>
   bn (zog Jj (List.getD nC.2.1 (Int.toNat (IntKind.wrap .i64 (Df-1))) (0,[],0,[],()),HQ.1,HQ.2.1)) fun Oo=>
   let v_47:=bif bif !On.1 then true else !ED.1 then true else bif decide (Df>0) then !Oo.1 else false;bif kL [!(decide (Df>0) && !bif !On.1 then true else !ED.1) || qu (Jj (List.getD nC.2.1 (Int.toNat (IntKind.wrap .i64 (Df-1))) (0,[],0,[],()),HQ.1,HQ.2.1)),!(decide (Df>0) && !bif !On.1 then true else !ED.1) || decide (0≤IntKind.wrap .i64 (Df-1)),!(decide (Df>0) && !bif !On.1 then true else !ED.1) || decide (IntKind.wrap .i64 (Df-1)<EH),!!!On.1 || qu (fN (HQ.2.2.1,1,nC.1)),qu (G0 HQ)] then
    bif v_47 then
     some (.inr (.inl (false,())))
    else
     g8 L9 ZX (((0,(),(),Df),HQ,nC)) fun q_=>
      sumC q_ (fun MY=>
       let BZ:=MY.1;some (.inr (.inl (BZ,())))) (fun z_50=>
       let i_52:=z_50.1.2;let Ax:=z_50.2;some (.inl (((),(IntKind.wrap .i64 (i_52+1))),Ax)))
   else none
  else none
 else
  some (.inr (.inr ((),nC)))
def Wh.ZV:Bool×Unit⊕Unit×g7.D:=.inl default
def Wh.HZ (xs:g7.D):Option (Bool×Unit):=
 let cp:g7.D:=xs;bn (zog fN (cp.1,0,99999)) fun r_1=>
 let v_2:=bif !r_1.1 then true else decide ((↑(List.length cp.2.1):Int)>8);bif kL [qu (fN (cp.1,0,99999))] then
  bif v_2 then
   some (false,())
  else
   g8 KE ZV ((((),0),cp)) fun q_=>
    sumC q_ (fun FC=>
     let MP:=FC.1;some (MP,())) (fun z_57=>
     let B9:=z_57.2;g8 Og ZZ (((0,()),B9)) fun q_=>
      sumC q_ (fun OY=>
       let Rn:=OY.1;some (Rn,())) (fun _=>
       some (true,())))
 else none
abbrev Wh.aaF:Type:=(Int×List UInt8×Unit×Int)×g7.D
abbrev Wh.ahd:Type:=Int×Unit⊕Unit×Unit
def Wh.KQ (x:aaF):Option (aaF⊕ahd):=
 let z4:=x.1.1;let Yk:=x.1.2.1;let Px:=x.1.2.2.2;let se:=x.2;let r_:Int:=(↑(List.length se.2.1):Int);bif decide (z4<r_) then
  let je:an.D:=List.getD se.2.1 (Int.toNat z4) (0,[],0,[],());let qe:=bif je.1==Px then je.2.1==Yk else false;bif kL [!je.1==Px || decide (0≤z4),!je.1==Px || decide (z4<r_),decide (0≤z4),decide (z4<r_)] then
   bif qe then
    some (.inr (.inl (z4,())))
   else
    some (.inl (((IntKind.wrap .i64 (z4+1)),Yk,(),Px),se))
  else none
 else
  some (.inr (.inr ((),())))
def Wh.aaG:Int×Unit⊕Unit×Unit:=.inl default
def Wh.F9 (xs:g7.D×Int×List UInt8):Option (Int×Unit):=
 let cp:=xs.1;let AY:=xs.2.1;let C9:=xs.2.2;g8 KQ aaG (((0,C9,(),AY),cp)) fun q_=>
  sumC q_ (fun JI=>
   let vT:=JI.1;some (vT,())) (fun _=>
   some (-1,()))
def Wh.L8 (xs:g7.D×Int):Option ((Int×List an.D×Unit)×Unit):=
 let cp:=xs.1;let k_1:=xs.2;let BU:List (an.D):=[]++List.take (Int.toNat (k_1-0)) (List.drop (Int.toNat 0) cp.2.1);let Dp:List (an.D):=BU++List.take (Int.toNat ((↑(List.length cp.2.1):Int)-IntKind.wrap .i64 (k_1+1))) (List.drop (Int.toNat (IntKind.wrap .i64 (k_1+1))) cp.2.1);let AK:List (an.D):=List.take (Int.toNat (k_1-0)) (List.drop (Int.toNat 0) cp.2.1);let n_:=IntKind.wrap .i64 (k_1+1);bif kL [decide (List.length BU+List.length (List.take (Int.toNat ((↑(List.length cp.2.1):Int)-n_)) (List.drop (Int.toNat n_) cp.2.1))≤eV),decide (0≤n_),decide (n_≤(↑(List.length cp.2.1):Int)),decide ((↑(List.length cp.2.1):Int)≤(↑(List.length cp.2.1):Int)),decide ((0:Nat)+List.length AK≤eV),true,decide (0≤k_1),decide (k_1≤(↑(List.length cp.2.1):Int))] then
  some ((cp.1,Dp,()),())
 else none
def Wh.Ic (xs:g7.D×Int×List UInt8):Option (((Int×List an.D×Unit)×Int)×Unit):=
 let cp:=xs.1;let AY:=xs.2.1;let C9:=xs.2.2;c9 HZ cp fun r_3=>
  bif !r_3.1 then
   some (((0,[],()),1),())
  else
   c9 F9 (cp,AY,C9) fun dz=>
    bif decide (dz.1<0) then
     c9 GX cp fun n5=>
      some ((n5.1,3),())
    else
     c9 L8 (cp,dz.1) fun AN=>
      some ((AN.1,0),())
abbrev Wh.aaB:Type:=(Int×Unit×Unit×Unit)×(Int×Unit×Unit)×g7.D×an.D×List an.D
abbrev Wh.ahb:Type:=(Unit×Int×Unit×Unit)×(Int×Unit×Unit)×g7.D×an.D×List an.D
def Wh.KP (x:aaB):Option (aaB⊕ahb):=
 let GA:=x.1.1;let v9:=x.2.1.1;let Es:=x.2.1.2.2;let se:=x.2.2.1;let AD:=x.2.2.2.1;let By:=x.2.2.2.2;let je:Int:=(↑(List.length se.2.1):Int);bn (zog Jj (List.getD se.2.1 (Int.toNat GA) (0,[],0,[],()),AD.1,AD.2.1)) fun Gi=>
 let BO:=bif decide (GA<je) then Gi.1 else false;bif kL [!decide (GA<je) || qu (Jj (List.getD se.2.1 (Int.toNat GA) (0,[],0,[],()),AD.1,AD.2.1)),!decide (GA<je) || decide (0≤GA),!decide (GA<je) || decide (GA<je)] then
  bif BO then
   some (.inl (((IntKind.wrap .i64 (GA+1)),(),(),()),(v9,(),Es),se,AD,By))
  else
   some (.inr (((),GA,(),()),(v9,(),Es),se,AD,By))
 else none
def Wh.aaC:(Unit×Int×Unit×Unit)×(Int×Unit×Unit)×g7.D×an.D×List an.D:=default
def Wh.Mh (xs:g7.D×an.D):Option ((Int×List an.D×Unit)×Unit):=
 let cp:=xs.1;let t_1:=xs.2;g8 KP aaC (((0,(),(),()),(0,(),()),cp,t_1,[])) fun E8=>
  let GC:=E8.1.2.1;let Bj:=E8.2.2.1;let AE:=E8.2.2.2.1;let Qd:=IntKind.wrap .i64 (Bj.1+1);let N4:List (an.D):=[]++List.take (Int.toNat (GC-0)) (List.drop (Int.toNat 0) Bj.2.1);let pb_36:List (an.D):=[(AE.1,AE.2.1,Qd,AE.2.2.2)];let pb_38:List (an.D):=N4++pb_36++List.take (Int.toNat ((↑(List.length Bj.2.1):Int)-GC)) (List.drop (Int.toNat GC) Bj.2.1);let EH:List (an.D):=List.take (Int.toNat (GC-0)) (List.drop (Int.toNat 0) Bj.2.1);let Fz:List (an.D):=List.take (Int.toNat ((↑(List.length Bj.2.1):Int)-GC)) (List.drop (Int.toNat GC) Bj.2.1);bif kL [decide (List.length (N4++pb_36)+List.length Fz≤eV),decide (0≤GC),decide (GC≤(↑(List.length Bj.2.1):Int)),decide ((↑(List.length Bj.2.1):Int)≤(↑(List.length Bj.2.1):Int)),decide (List.length N4+(1:Nat)≤eV),decide ((0:Nat)+List.length EH≤eV),true,decide (0≤GC),decide (GC≤(↑(List.length Bj.2.1):Int))] then
   some ((Qd,pb_38,()),())
  else none
def Wh.F1 (xs:g7.D×Int×List UInt8×List UInt8):Option (((Int×List an.D×Unit)×Int)×Unit):=
 let cp:=xs.1;let AY:=xs.2.1;let C9:=xs.2.2.1;let K9:=xs.2.2.2;c9 HZ cp fun dz=>
  bif !dz.1 then
   some (((0,[],()),1),())
  else
   c9 G0 (AY,C9,0,K9,()) fun g9=>
    bif !g9.1 then
     c9 GX cp fun n5=>
      some ((n5.1,1),())
    else
     c9 F9 (cp,AY,C9) fun AN=>
      bif decide (AN.1≥0) then
       c9 GX cp fun A2=>
        some ((A2.1,2),())
      else
       let CG:Int:=(↑(List.length cp.2.1):Int);bn (zog I_ (cp.2.1,AY)) fun Ij=>
       let r_:=bif bif decide (CG≥8) then true else decide (cp.1≥99999) then true else decide (IntKind.wrap .i64 (Ij.1+(↑(List.length K9):Int))>500);bif kL [(!!bif decide (CG≥8) then true else decide (cp.1≥99999)) || qu (I_ (cp.2.1,AY))] then
        bif r_ then
         c9 GX cp fun G5=>
          some ((G5.1,4),())
        else
         c9 Mh (cp,AY,C9,0,K9,()) fun CD=>
          some ((CD.1,0),())
       else none
def Wh.F4 (xs:g7.D×List UInt8):Option (((Int×List an.D×Unit)×Bool)×Unit):=
 let cp:=xs.1;let s_1:=xs.2;c9 Cs (s_1,0,58) fun r_2=>
  bif decide (r_2.1<0) then
   some (((0,[],()),false),())
  else
   bn (zog DG (List.take (Int.toNat (r_2.1-0)) (List.drop (Int.toNat 0) s_1),32)) fun dz=>
   let n_:List UInt8:=List.take (Int.toNat (r_2.1-0)) (List.drop (Int.toNat 0) s_1);bif kL [qu (DG (n_,32)),true,decide (0≤r_2.1),decide (r_2.1≤(↑(List.length s_1):Int))] then
    let nW:=IntKind.wrap .i64 (r_2.1+1);let ML:List UInt8:=List.take (Int.toNat ((↑(List.length s_1):Int)-nW)) (List.drop (Int.toNat nW) s_1);bif kL [decide (0≤nW),decide (nW≤(↑(List.length s_1):Int)),decide ((↑(List.length s_1):Int)≤(↑(List.length s_1):Int))] then
     let A3:Int:=(↑(List.length dz.1):Int);bn (zog Ay (List.getD dz.1 (Int.toNat 0) [])) fun BB=>
     bn (zog EY (BB.1,List.getD dz.1 (Int.toNat 1) [],ML)) fun Dr=>
     let ov:=bif A3 != 2 then true else !Dr.1==s_1;bif kL [!!A3 != 2 || qu (EY (BB.1,List.getD dz.1 (Int.toNat 1) [],ML)),!!A3 != 2 || decide ((0:Int)≤1),!!A3 != 2 || decide (1<A3),!!A3 != 2 || qu (Ay (List.getD dz.1 (Int.toNat 0) [])),!!A3 != 2 || decide ((0:Int)≤0),!!A3 != 2 || decide (0<A3)] then
      bif ov then
       some (((0,[],()),false),())
      else
       let Bq:=ML == [];bif Bq then
        bn (zog Ic (cp,BB.1,List.getD dz.1 (Int.toNat 1) [])) fun Ij=>
        let xb:=List.getD dz.1 (Int.toNat 0) [];let je:=List.getD dz.1 (Int.toNat 1) [];bn (zog Ic (cp,BB.1,je)) fun r_30=>
        bif kL [qu (Ic (cp,BB.1,je)),true,decide (1<A3),qu (Ay xb),true,decide (0<A3)] then
         some (((Ij.1.1.1,Ij.1.1.2.1,Ij.1.1.2.2),(r_30.1.2==0)),())
        else none
       else
        bn (zog F1 (cp,BB.1,List.getD dz.1 (Int.toNat 1) [],ML)) fun CU=>
        let BY:=List.getD dz.1 (Int.toNat 0) [];let CZ:=List.getD dz.1 (Int.toNat 1) [];bn (zog F1 (cp,BB.1,CZ,ML)) fun Oo=>
        bif kL [qu (F1 (cp,BB.1,CZ,ML)),true,decide (1<A3),qu (Ay BY),true,decide (0<A3)] then
         some (((CU.1.1.1,CU.1.1.2.1,CU.1.1.2.2),(Oo.1.2==0)),())
        else none
     else none
    else none
   else none
abbrev Wh.ZS:Type:=(Unit×Int×Unit×List (List UInt8))×(Int×Unit×Unit)×(Int×Unit×Unit)×List an.D×List an.D
abbrev Wh.agQ:Type:=(Unit×Bool)×(Int×Unit×Unit)×List an.D⊕(Unit×Unit)×(Int×Unit×Unit)×(Int×Unit×Unit)×List an.D×List an.D
def Wh.KD (x:ZS):Option (ZS⊕agQ):=
 let Av:=x.1.2.1;let QW:=x.1.2.2.2;let se:=x.2.1.1;let AD:=x.2.1.2.2;let By:=x.2.2.1.1;let DE:=x.2.2.1.2.2;let CB:=x.2.2.2.1;let Aw:=x.2.2.2.2;let qe:Int:=(↑(List.length QW):Int);bif decide (Av<qe) then
  bn (zog F4 ((By,Aw,DE),List.getD QW (Int.toNat Av) [])) fun Da=>
  let th:=List.getD QW (Int.toNat Av) [];bif kL [qu (F4 ((By,Aw,DE),th)),decide (0≤Av),decide (Av<qe)] then
   bif(!Da.1.2) then
    some (.inr (.inl (((),false),(0,(),()),[])))
   else
    some (.inl (((),(IntKind.wrap .i64 (Av+1)),(),QW),(se,(),AD),(Da.1.1.1,(),Da.1.1.2.2),CB,Da.1.1.2.1))
  else none
 else
  some (.inr (.inr (((),()),(se,(),AD),(By,(),DE),CB,Aw)))
def Wh.ZT:(Unit×Bool)×(Int×Unit×Unit)×List an.D⊕(Unit×Unit)×(Int×Unit×Unit)×(Int×Unit×Unit)×List an.D×List an.D:=.inl default
def Wh.Jm (xs:List (List UInt8)):Option (((Int×List an.D×Unit)×Bool)×Unit):=
 let ah4:List (List UInt8):=xs;g8 KD ZT ((((),0,(),ah4),(0,(),()),(0,(),()),[],[])) fun q_=>
  sumC q_ (fun MV=>
   let Gp:=MV.1.2;let A_:=MV.2.1.1;let wm:=MV.2.1.2.2;let nc:=MV.2.2;some (((A_,nc,wm),Gp),())) (fun z_31=>
   let nC:=z_31.2.2.1.1;let AQ:=z_31.2.2.1.2.2;let AF:=z_31.2.2.2.2;some (((nC,AF,AQ),true),()))
def Wh.q99 (xs:b7.D):Option (Bool×Unit):=
 let cx:b7.D:=xs;c9 Fp (cx.2.2.1) fun r_1=>
  c9 Jm r_1.1.1 fun r_2=>
   some (r_2.1.2,())
abbrev Wh.abK:Type:=(Int×Unit×Unit)×g7.D×g7.D
abbrev Wh.ahL:Type:=Bool×Unit⊕Unit×Unit
def Wh.K0 (x:abK):Option (abK⊕ahL):=
 let BG:=x.1.1;let FP:=x.2.1;let v9:=x.2.2;let r5:Int:=(↑(List.length v9.2.1):Int);bif decide (BG<r5) then
  let r_:an.D:=List.getD v9.2.1 (Int.toNat BG) (0,[],0,[],());let xb:an.D:=List.getD FP.2.1 (Int.toNat BG) (0,[],0,[],());bif kL [decide (0≤BG),decide (BG<(↑(List.length FP.2.1):Int)),decide (0≤BG),decide (BG<r5)] then
   bif(!(r_.1==xb.1&&(r_.2.1==xb.2.1&&(r_.2.2.1==xb.2.2.1&&(r_.2.2.2.1==xb.2.2.2.1&&true))))) then
    some (.inr (.inl (false,())))
   else
    some (.inl (((IntKind.wrap .i64 (BG+1)),(),()),FP,v9))
  else none
 else
  some (.inr (.inr ((),())))
def Wh.abL:Bool×Unit⊕Unit×Unit:=.inl default
def Wh.Ih (xs:g7.D×g7.D):Option (Bool×Unit):=
 let Eg:=xs.1;let b_1:=xs.2;let AJ:=bif(Eg.1 != b_1.1) then true else(↑(List.length Eg.2.1):Int) != (↑(List.length b_1.2.1):Int);bif AJ then
  some (false,())
 else
  g8 K0 abL (((0,(),()),b_1,Eg)) fun q_=>
   sumC q_ (fun Hg=>
    let Iq:=Hg.1;some (Iq,())) (fun _=>
    some (true,()))
def Wh.Jo (xs:b8.D):Option (Bool×Unit):=
 let Ej:b8.D:=xs;bif(Ej.2.1==0) then
  some ((Ej.1==0&&(Ej.2.1==0&&(Ej.2.2.1==0&&(Ej.2.2.2.1==0&&(Ej.2.2.2.2.1==false&&true))))),())
 else
  bn (zog fN (Ej.1,0,1)) fun r_3=>
  bn (zog fN (Ej.2.1,1,99999)) fun dz=>
  bn (zog fN (Ej.2.2.1,0,23)) fun AN=>
  bn (zog fN (Ej.2.2.2.1,0,99999)) fun A2=>
  let AX:=bif bif bif r_3.1 then dz.1 else false then AN.1 else false then A2.1 else false;bif kL [(!bif bif r_3.1 then dz.1 else false then AN.1 else false) || qu (fN (Ej.2.2.2.1,0,99999)),(!bif r_3.1 then dz.1 else false) || qu (fN (Ej.2.2.1,0,23)),!r_3.1 || qu (fN (Ej.2.1,1,99999)),qu (fN (Ej.1,0,1))] then
   some (AX,())
  else none
abbrev Wh.Z4:Type:=(Int×Int×Int×Unit)×mb.D
abbrev Wh.agV:Type:=Int×Unit
def Wh.KH (x:Z4):Option (Z4⊕agV):=
 let Av:=x.1.1;let n_16:=x.1.2.1;let Sr:=x.1.2.2.1;let AD:=x.2;let xb:Int:=(↑(List.length AD.1):Int);bif decide (Av<xb) then
  let xd:b8.D:=List.getD AD.1 (Int.toNat Av) (0,0,0,0,false,());let BO:=bif decide (xd.2.1>0) then xd.1==Sr else false;bif kL [!decide (xd.2.1>0) || decide (0≤Av),!decide (xd.2.1>0) || decide (Av<xb),decide (0≤Av),decide (Av<xb)] then
   bif BO then
    some (.inl (((IntKind.wrap .i64 (Av+1)),(IntKind.wrap .i64 (n_16+1)),Sr,()),AD))
   else
    some (.inl (((IntKind.wrap .i64 (Av+1)),n_16,Sr,()),AD))
  else none
 else
  some (.inr (n_16,()))
def Wh.Z5:Int×Unit:=default
def Wh.KG (xs:mb.D×Int):Option (Int×Unit):=
 let fT:=xs.1;let AY:=xs.2;g8 KH Z5 (((0,0,AY,()),fT)) fun C0=>
  let n_30:=C0.1;some (n_30,())
abbrev Wh.Zw:Type:=(Int×Unit)×mb.D
abbrev Wh.agF:Type:=Bool×Unit⊕Unit×Unit
def Wh.Jd (x:Zw):Option (Zw⊕agF):=
 let h_67:=x.1.1;let Cp:=x.2;bif decide (h_67<2) then
  c9 KG (Cp,h_67) fun r_70=>
   bif decide (r_70.1>5) then
    some (.inr (.inl (false,())))
   else
    some (.inl (((IntKind.wrap .i64 (h_67+1)),()),Cp))
 else
  some (.inr (.inr ((),())))
def Wh.Zx:Bool×Unit⊕Unit×Unit:=.inl default
abbrev Wh.Zu:Type:=(Int×Unit×Int)×mb.D
abbrev Wh.agE:Type:=Bool×Unit⊕(Unit×Int)×mb.D
def Wh.Fo (x:Zu):Option (Zu⊕agE):=
 let Fj:=x.1.1;let A8:=x.1.2.2;let BT:=x.2;bif decide (Fj<A8) then
  let vT:b8.D:=List.getD BT.1 (Int.toNat A8) (0,0,0,0,false,());let Ce:=bif bif decide (vT.2.1>0) then vT.2.1==((List.getD BT.1 (Int.toNat Fj) (0,0,0,0,false,())).2).1 else false then vT.2.2.1==(((List.getD BT.1 (Int.toNat Fj) (0,0,0,0,false,())).2).2).1 else false;bif kL [(!bif decide (vT.2.1>0) then vT.2.1==((List.getD BT.1 (Int.toNat Fj) (0,0,0,0,false,())).2).1 else false) || decide (0≤Fj),(!bif decide (vT.2.1>0) then vT.2.1==((List.getD BT.1 (Int.toNat Fj) (0,0,0,0,false,())).2).1 else false) || decide (Fj<(↑(List.length BT.1):Int)),(!bif decide (vT.2.1>0) then vT.2.1==((List.getD BT.1 (Int.toNat Fj) (0,0,0,0,false,())).2).1 else false) || decide (0≤A8),(!bif decide (vT.2.1>0) then vT.2.1==((List.getD BT.1 (Int.toNat Fj) (0,0,0,0,false,())).2).1 else false) || decide (A8<(↑(List.length BT.1):Int)),!decide (vT.2.1>0) || decide (0≤Fj),!decide (vT.2.1>0) || decide (Fj<(↑(List.length BT.1):Int)),!decide (vT.2.1>0) || decide (0≤A8),!decide (vT.2.1>0) || decide (A8<(↑(List.length BT.1):Int)),decide (0≤A8),decide (A8<(↑(List.length BT.1):Int))] then
   bif Ce then
    some (.inr (.inl (false,())))
   else
    some (.inl (((IntKind.wrap .i64 (Fj+1)),(),A8),BT))
  else none
 else
  some (.inr (.inr (((),A8),BT)))
def Wh.Zv:Bool×Unit⊕(Unit×Int)×mb.D:=.inl default
abbrev Wh.Zr:Type:=(Unit×Int)×mb.D
abbrev Wh.agD:Type:=Bool×Unit⊕Unit×mb.D
def Wh.Jc (x:Zr):Option (Zr⊕agD):=
 let Nw:=x.1.2;let nG:=x.2;let Hf:Int:=(↑(List.length nG.1):Int);bif decide (Nw<Hf) then
  let Ld:b8.D:=List.getD nG.1 (Int.toNat Nw) (0,0,0,0,false,());bn (zog Jo Ld) fun r_48=>
  bif kL [qu (Jo Ld),decide (0≤Nw),decide (Nw<Hf)] then
   bif !r_48.1 then
    some (.inr (.inl (false,())))
   else
    g8 Fo Zv (((0,(),Nw),nG)) fun q_=>
     sumC q_ (fun y_50=>
      let Rk:=y_50.1;some (.inr (.inl (Rk,())))) (fun z_51=>
      let i_53:=z_51.1.2;let AV:=z_51.2;some (.inl (((),(IntKind.wrap .i64 (i_53+1))),AV)))
  else none
 else
  some (.inr (.inr ((),nG)))
def Wh.Zt:Bool×Unit⊕Unit×mb.D:=.inl default
def Wh.HS (xs:mb.D):Option (Bool×Unit):=
 let fT:mb.D:=xs;let v_1:Int:=(↑(List.length fT.1):Int);bn (zog fN (fT.2.1,0,7)) fun dz=>
 let n_:=bif v_1 != 8 then true else !dz.1;bif kL [!!v_1 != 8 || qu (fN (fT.2.1,0,7))] then
  bif n_ then
   some (false,())
  else
   g8 Jc Zt ((((),0),fT)) fun q_=>
    sumC q_ (fun y_57=>
     let ON:=y_57.1;some (ON,())) (fun z_58=>
     let Ba:=z_58.2;g8 Jd Zx (((0,()),Ba)) fun q_=>
      sumC q_ (fun Bw=>
       let v_76:=Bw.1;some (v_76,())) (fun _=>
       some (true,())))
 else none
abbrev Wh.aaZ:Type:=(Unit×Int×Unit×Int)×an.D×g7.D
abbrev Wh.ahm:Type:=(Unit×Bool)×an.D⊕Unit×an.D
def Wh.KT (x:aaZ):Option (aaZ⊕ahm):=
 let JV:=x.1.2.1;let WL:=x.1.2.2.2;let PV:=x.2.1;let FP:=x.2.2;let Bq:Int:=(↑(List.length FP.2.1):Int);bif decide (JV<Bq) then
  let AP:an.D:=List.getD FP.2.1 (Int.toNat JV) (0,[],0,[],());bif kL [decide (0≤JV),decide (JV<Bq)] then
   bif(AP.2.2.1==WL) then
    bif kL [decide (0≤JV),decide (JV<Bq)] then
     some (.inr (.inl (((),true),AP)))
    else none
   else
    some (.inl (((),(IntKind.wrap .i64 (JV+1)),(),WL),PV,FP))
  else none
 else
  some (.inr (.inr ((),PV)))
def Wh.aa0:(Unit×Bool)×an.D⊕Unit×an.D:=.inl default
def Wh.Ga (xs:g7.D×Int):Option ((an.D×Bool)×Unit):=
 let cp:=xs.1;let Nk:=xs.2;g8 KT aa0 ((((),0,(),Nk),(0,[],0,[],()),cp)) fun q_=>
  sumC q_ (fun y_21=>
   let qe:=y_21.1.2;let Bh:=y_21.2;some ((Bh,qe),())) (fun _=>
   some (((0,[],0,[],()),false),()))
abbrev Wh.aaT:Type:=(Int×Unit)×b7.D
abbrev Wh.ahj:Type:=Bool×Unit⊕Unit×Unit
def Wh.Jr (x:aaT):Option (aaT⊕ahj):=
 let BH:=x.1.1;let s5:=x.2;let CH:Int:=(↑(List.length (s5.2.2.2.2.2.2.1)):Int);bif decide (BH<CH) then
  let w7:b9.D:=List.getD (s5.2.2.2.2.2.2.1) (Int.toNat BH) (0,0,0,0,0,0,());bif kL [decide (0≤BH),decide (BH<CH)] then
   bn (zog fN (w7.1,0,3)) fun CU=>
   bn (zog fN (w7.2.1,1,99999)) fun DI=>
   bn (zog fN (w7.2.2.1,1,s5.2.2.2.1.1)) fun Il=>
   bn (zog fN (w7.2.2.2.1,0,9999)) fun Mv=>
   bn (zog fN (w7.2.2.2.2.1,0,3)) fun Mw=>
   bn (zog fN (w7.2.2.2.2.2.1,0,s5.2.1)) fun G6=>
   let v_48:=bif bif bif bif bif bif !CU.1 then true else bif decide (BH>0) then decide ((List.getD (s5.2.2.2.2.2.2.1) (Int.toNat (IntKind.wrap .i64 (BH-1))) (0,0,0,0,0,0,())).1≥w7.1) else false then true else !DI.1 then true else !Il.1 then true else !Mv.1 then true else !Mw.1 then true else !G6.1;bif kL [(!!bif bif bif bif bif !CU.1 then true else bif decide (BH>0) then decide ((List.getD (s5.2.2.2.2.2.2.1) (Int.toNat (IntKind.wrap .i64 (BH-1))) (0,0,0,0,0,0,())).1≥w7.1) else false then true else !DI.1 then true else !Il.1 then true else !Mv.1 then true else !Mw.1) || qu (fN (w7.2.2.2.2.2.1,0,s5.2.1)),(!!bif bif bif bif !CU.1 then true else bif decide (BH>0) then decide ((List.getD (s5.2.2.2.2.2.2.1) (Int.toNat (IntKind.wrap .i64 (BH-1))) (0,0,0,0,0,0,())).1≥w7.1) else false then true else !DI.1 then true else !Il.1 then true else !Mv.1) || qu (fN (w7.2.2.2.2.1,0,3)),(!!bif bif bif !CU.1 then true else bif decide (BH>0) then decide ((List.getD (s5.2.2.2.2.2.2.1) (Int.toNat (IntKind.wrap .i64 (BH-1))) (0,0,0,0,0,0,())).1≥w7.1) else false then true else !DI.1 then true else !Il.1) || qu (fN (w7.2.2.2.1,0,9999)),(!!bif bif !CU.1 then true else bif decide (BH>0) then decide ((List.getD (s5.2.2.2.2.2.2.1) (Int.toNat (IntKind.wrap .i64 (BH-1))) (0,0,0,0,0,0,())).1≥w7.1) else false then true else !DI.1) || qu (fN (w7.2.2.1,1,s5.2.2.2.1.1)),(!!bif !CU.1 then true else bif decide (BH>0) then decide ((List.getD (s5.2.2.2.2.2.2.1) (Int.toNat (IntKind.wrap .i64 (BH-1))) (0,0,0,0,0,0,())).1≥w7.1) else false) || qu (fN (w7.2.1,1,99999)),!(decide (BH>0) && !!CU.1) || decide (0≤IntKind.wrap .i64 (BH-1)),!(decide (BH>0) && !!CU.1) || decide (IntKind.wrap .i64 (BH-1)<CH),qu (fN (w7.1,0,3))] then
    bif v_48 then
     some (.inr (.inl (false,())))
    else
     c9 Ga (s5.2.2.2.1,w7.2.2.1) fun G7=>
      bn (zog Cc w7.1) fun r_50=>
      let BZ:=bif G7.1.2 then G7.1.1.1 != r_50.1 else false;bif kL [!G7.1.2 || qu (Cc w7.1)] then
       bif BZ then
        some (.inr (.inl (false,())))
       else
        some (.inl (((IntKind.wrap .i64 (BH+1)),()),s5))
      else none
   else none
  else none
 else
  some (.inr (.inr ((),())))
def Wh.aaU:Bool×Unit⊕Unit×Unit:=.inl default
def Wh.q45 (xs:b7.D):Option (Bool×Unit):=
 let cx:b7.D:=xs;g8 Jr aaU (((0,()),cx)) fun q_=>
  sumC q_ (fun y_54=>
   let FA:=y_54.1;some (FA,())) (fun _=>
   some (true,()))
def Wh.Bf (xs:gh.D):Option (Int×Unit):=
 let fT:gh.D:=xs;bif kL [fT.2.1 != 0] then
  some ((IntKind.wrap .i64 (Int.tdiv (IntKind.wrap .i64 ((IntKind.wrap .i64 (fT.1+fT.2.1))-1)) fT.2.1)),())
 else none
abbrev Wh.aat:Type:=(Unit×Unit)×(Int×Int×Unit×Unit×Unit)×(Int×Int×Unit×Unit×Unit)×List Int×List Int×List Int×List Int
abbrev Wh.ag8:Type:=(Unit×Unit)×(Int×Int×Unit×Unit×Unit)×(Int×Int×Unit×Unit×Unit)×List Int×List Int×List Int×List Int
def Wh.Fs (x:aat):Option (aat⊕ag8):=
 let FP:=x.2.1.1;let v9:=x.2.1.2.1;let Es:=x.2.1.2.2.2.2;let se:=x.2.2.1.1;let AD:=x.2.2.1.2.1;let By:=x.2.2.1.2.2.2.2;let DE:=x.2.2.2.1;let CB:=x.2.2.2.2.1;let Aw:=x.2.2.2.2.2.1;let B8:=x.2.2.2.2.2.2;c9 Bf (FP,v9,DE,CB,Es) fun K3=>
  bif decide (K3.1>24) then
   some (.inl (((),()),(FP,(IntKind.wrap .i64 (v9+1)),(),(),Es),(se,AD,(),(),By),DE,CB,Aw,B8))
  else
   some (.inr (((),()),(se,AD,(),(),By),(FP,v9,(),(),Es),Aw,B8,DE,CB))
def Wh.aau:(Unit×Unit)×(Int×Int×Unit×Unit×Unit)×(Int×Int×Unit×Unit×Unit)×List Int×List Int×List Int×List Int:=default
def Wh.Cb (xs:Int):Option ((Int×Int×List Int×List Int×Unit)×Unit):=
 let PU:=xs;g8 Fs aau ((((),()),(PU,8,(),(),()),(0,0,(),(),()),[],[],[],[])) fun Li=>
  let AE:=Li.2.2.1.1;let A_:=Li.2.2.1.2.1;let wm:=Li.2.2.1.2.2.2.2;let Bk:=Li.2.2.2.2.2.1;let nC:=Li.2.2.2.2.2.2;c9 Bf (AE,A_,Bk,nC,wm) fun Im=>
   let Nz:=IntKind.wrap .i64 (Int.tdiv (IntKind.wrap .i64 (Im.1+3)) 4);bif decide (Nz<Im.1) then
    let pb_44:List Int:=[Nz,Im.1];some ((AE,A_,pb_44,[(2:Int),3],wm),())
   else
    let Tm:List Int:=[Im.1];some ((AE,A_,Tm,[(1:Int)],wm),())
def Wh.q58 (xs:cw.D):Option (Bool×Unit):=
 let BE:cw.D:=xs;bn (zog fN (BE.2.1,0,99999)) fun r_1=>
 bn (zog fN (BE.1,0,BE.2.1)) fun r_2=>
 bn (zog fN (BE.2.2.1,0,99999)) fun g9=>
 bn (zog fN (BE.2.2.2.1,0,99999)) fun Bc=>
 let Cv:=bif bif bif r_1.1 then r_2.1 else false then g9.1 else false then Bc.1 else false;bif kL [(!bif bif r_1.1 then r_2.1 else false then g9.1 else false) || qu (fN (BE.2.2.2.1,0,99999)),(!bif r_1.1 then r_2.1 else false) || qu (fN (BE.2.2.1,0,99999)),!r_1.1 || qu (fN (BE.1,0,BE.2.1)),qu (fN (BE.2.1,0,99999))] then
  some (Cv,())
 else none
abbrev Wh.aa7:Type:=(Int×Unit)×b7.D
abbrev Wh.ahq:Type:=Bool×Unit⊕Unit×Unit
def Wh.KU (x:aa7):Option (aa7⊕ahq):=
 let h_80:=x.1.1;let GL:=x.2;let MR:Int:=(↑(List.length (GL.2.2.2.2.2.1)):Int);bif decide (h_80<MR) then
  let N8:cw.D:=List.getD (GL.2.2.2.2.2.1) (Int.toNat h_80) (0,0,0,0,());bif kL [decide (0≤h_80),decide (h_80<MR)] then
   bn (zog q58 N8) fun r_85=>
   let v_90:=bif bif bif !r_85.1 then true else N8.2.1 != 40 then true else N8.2.2.1 != 8 then true else decide (N8.2.2.2.1>GL.2.1);bif kL [qu (q58 N8)] then
    bif v_90 then
     some (.inr (.inl (false,())))
    else
     some (.inl (((IntKind.wrap .i64 (h_80+1)),()),GL))
   else none
  else none
 else
  some (.inr (.inr ((),())))
def Wh.aa8:Bool×Unit⊕Unit×Unit:=.inl default
abbrev Wh.aa5:Type:=(Int×Unit)×b7.D
abbrev Wh.ahp:Type:=Bool×Unit⊕Unit×b7.D
def Wh.Ge (x:aa5):Option (aa5⊕ahp):=
 let El:=x.1.1;let nE:=x.2;let BZ:Int:=(↑(List.length (nE.2.2.2.2.1.1)):Int);bif decide (El<BZ) then
  bn (zog Ga (nE.2.2.2.1,((List.getD (nE.2.2.2.2.1.1) (Int.toNat El) (0,0,0,0,false,())).2).1)) fun BW=>
  let At:b8.D:=List.getD (nE.2.2.2.2.1.1) (Int.toNat El) (0,0,0,0,false,());bif kL [qu (Ga (nE.2.2.2.1,At.2.1)),decide (0≤El),decide (El<BZ)] then
   bn (zog Cb (↑(List.length (BW.1.1.2.2.2.1)):Int)) fun Fw=>
   bn (zog Bf (Fw.1.1,Fw.1.2.1,bif(!bif !BW.1.2 then true else BW.1.1.1 != At.1)&&(decide (At.2.1>0) && !decide (At.2.2.2.1>0)) then Fw.1.2.2.1 else [],bif(!bif !BW.1.2 then true else BW.1.1.1 != At.1)&&(decide (At.2.1>0) && !decide (At.2.2.2.1>0)) then Fw.1.2.2.2.1 else [],Fw.1.2.2.2.2)) fun r_60=>
   let v_61:=bif decide (At.2.2.2.1>0) then true else bif decide (At.2.1>0) then bif bif !BW.1.2 then true else BW.1.1.1 != At.1 then true else decide (At.2.2.1≥r_60.1) else false;bif kL [!((!bif !BW.1.2 then true else BW.1.1.1 != At.1)&&(decide (At.2.1>0) && !decide (At.2.2.2.1>0))) || qu (Bf (Fw.1.1,Fw.1.2.1,bif(!bif !BW.1.2 then true else BW.1.1.1 != At.1)&&(decide (At.2.1>0) && !decide (At.2.2.2.1>0)) then Fw.1.2.2.1 else [],bif(!bif !BW.1.2 then true else BW.1.1.1 != At.1)&&(decide (At.2.1>0) && !decide (At.2.2.2.1>0)) then Fw.1.2.2.2.1 else [],Fw.1.2.2.2.2)),!((!bif !BW.1.2 then true else BW.1.1.1 != At.1)&&(decide (At.2.1>0) && !decide (At.2.2.2.1>0))) || qu (Cb (↑(List.length (BW.1.1.2.2.2.1)):Int)),!((!bif !BW.1.2 then true else BW.1.1.1 != At.1)&&(decide (At.2.1>0) && !decide (At.2.2.2.1>0))) || decide (0≤El),!((!bif !BW.1.2 then true else BW.1.1.1 != At.1)&&(decide (At.2.1>0) && !decide (At.2.2.2.1>0))) || decide (El<BZ),!(!!BW.1.2&&(decide (At.2.1>0) && !decide (At.2.2.2.1>0))) || decide (0≤El),!(!!BW.1.2&&(decide (At.2.1>0) && !decide (At.2.2.2.1>0))) || decide (El<BZ),!!decide (At.2.2.2.1>0) || decide (0≤El),!!decide (At.2.2.2.1>0) || decide (El<BZ),decide (0≤El),decide (El<BZ)] then
    bif v_61 then
     some (.inr (.inl (false,())))
    else
     some (.inl (((IntKind.wrap .i64 (El+1)),()),nE))
   else none
  else none
 else
  some (.inr (.inr ((),nE)))
def Wh.aa6:Bool×Unit⊕Unit×b7.D:=.inl default
def Wh.Gd (xs:b7.D):Option (Bool×Unit):=
 let cx:b7.D:=xs;bn (zog fN (cx.2.1,0,99999)) fun r_1=>
 let v_2:=bif !r_1.1 then true else decide ((↑(List.length (cx.2.2.1)):Int)>9000);bif kL [qu (fN (cx.2.1,0,99999))] then
  bif v_2 then
   some (false,())
  else
   bif(!cx.1) then
    let AK:Int:=(↑(List.length (cx.2.2.2.1.2.1)):Int);bn (zog q99 cx) fun C_=>
    let xb:=bif bif bif bif bif bif AK==0 then cx.2.2.2.1.1==0 else false then(↑(List.length (cx.2.2.2.2.1.1)):Int)==0 else false then cx.2.2.2.2.1.2.1==0 else false then(↑(List.length (cx.2.2.2.2.2.1)):Int)==0 else false then(↑(List.length (cx.2.2.2.2.2.2.1)):Int)==0 else false then C_.1 else false;bif kL [(!bif bif bif bif bif AK==0 then cx.2.2.2.1.1==0 else false then(↑(List.length (cx.2.2.2.2.1.1)):Int)==0 else false then cx.2.2.2.2.1.2.1==0 else false then(↑(List.length (cx.2.2.2.2.2.1)):Int)==0 else false then(↑(List.length (cx.2.2.2.2.2.2.1)):Int)==0 else false) || qu (q99 cx)] then
     some (xb,())
    else none
   else
    c9 Fp (cx.2.2.1) fun CD=>
     c9 Jm CD.1.1 fun DW=>
      let nS:= !DW.1.2;bn (zog Ih (DW.1.1,cx.2.2.2.1)) fun Da=>
      bn (zog HS (cx.2.2.2.2.1)) fun Mu=>
      bn (zog q45 cx) fun K4=>
      let Fy:=bif bif bif bif bif nS then true else CD.1.2 != (↑(List.length (cx.2.2.1)):Int) then true else !Da.1 then true else !Mu.1 then true else(↑(List.length (cx.2.2.2.2.2.1)):Int) != 2 then true else !K4.1;bif kL [(!!bif bif bif bif nS then true else CD.1.2 != (↑(List.length (cx.2.2.1)):Int) then true else !Da.1 then true else !Mu.1 then true else(↑(List.length (cx.2.2.2.2.2.1)):Int) != 2) || qu (q45 cx),(!!bif bif nS then true else CD.1.2 != (↑(List.length (cx.2.2.1)):Int) then true else !Da.1) || qu (HS (cx.2.2.2.2.1)),(!!bif nS then true else CD.1.2 != (↑(List.length (cx.2.2.1)):Int)) || qu (Ih (DW.1.1,cx.2.2.2.1))] then
       bif Fy then
        some (false,())
       else
        g8 Ge aa6 (((0,()),cx)) fun q_=>
         sumC q_ (fun FD=>
          let Rl:=FD.1;some (Rl,())) (fun z_65=>
          let BA:=z_65.2;g8 KU aa8 (((0,()),BA)) fun q_=>
           sumC q_ (fun y_93=>
            let v_95:=y_93.1;some (v_95,())) (fun _=>
            some (true,())))
      else none
 else none
abbrev Wh.Z6:Type:=(Int×Int×Unit)×b7.D
abbrev Wh.agW:Type:=Int×Unit⊕Unit×Unit
def Wh.Fq (x:Z6):Option (Z6⊕agW):=
 let Fh:=x.1.1;let Wp:=x.1.2.1;let J0:=x.2;let BN:Int:=(↑(List.length (J0.2.2.2.2.2.2.1)):Int);bif decide (Fh<BN) then
  let Bq:b9.D:=List.getD (J0.2.2.2.2.2.2.1) (Int.toNat Fh) (0,0,0,0,0,0,());bif kL [decide (0≤Fh),decide (Fh<BN)] then
   bif(Bq.1==Wp) then
    some (.inr (.inl (Fh,())))
   else
    some (.inl (((IntKind.wrap .i64 (Fh+1)),Wp,()),J0))
  else none
 else
  some (.inr (.inr ((),())))
def Wh.Z7:Int×Unit⊕Unit×Unit:=.inl default
def Wh.F6 (xs:b7.D×Int):Option (Int×Unit):=
 let cx:=xs.1;let M8:=xs.2;g8 Fq Z7 (((0,M8,()),cx)) fun q_=>
  sumC q_ (fun y_19=>
   let xd:=y_19.1;some (xd,())) (fun _=>
   some (-1,()))
def Wh.Eb (xs:g7.D×Int×List UInt8):Option ((an.D×Bool)×Unit):=
 let cp:=xs.1;let AY:=xs.2.1;let C9:=xs.2.2;c9 F9 (cp,AY,C9) fun r_3=>
  bn (zog HZ cp) fun dz=>
  let n_:=bif !dz.1 then true else decide (r_3.1<0);bif kL [qu (HZ cp)] then
   bif n_ then
    some (((0,[],0,[],()),false),())
   else
    let N6:an.D:=List.getD cp.2.1 (Int.toNat r_3.1) (0,[],0,[],());bif kL [decide (0≤r_3.1),decide (r_3.1<(↑(List.length cp.2.1):Int))] then
     some ((N6,true),())
    else none
  else none
abbrev Wh.aaP:Type:=(Int×Unit×Unit×Int×Unit)×b7.D×List b9.D×(Bool×Int×List UInt8×(Int×Unit×Unit)×(Unit×Int×Unit)×Unit×Unit×Unit)×List an.D×List b8.D×List cw.D×List b9.D
abbrev Wh.ahh:Type:=(Unit×Unit×Unit)×(Bool×Int×List UInt8×(Int×Unit×Unit)×(Unit×Int×Unit)×Unit×Unit×Unit)×b7.D×List b9.D×List an.D×List b8.D×List cw.D×List b9.D
def Wh.KR (x:aaP):Option (aaP⊕ahh):=
 let A8:=x.1.1;let RO:=x.1.2.2.2.1;let Bz:=x.2.1;let s5:=x.2.2.1;let CP:=x.2.2.2.1.1;let Bi:=x.2.2.2.1.2.1;let Bj:=x.2.2.2.1.2.2.1;let AE:=x.2.2.2.1.2.2.2.1.1;let A_:=x.2.2.2.1.2.2.2.1.2.2;let wm:=x.2.2.2.1.2.2.2.2.1.2;let nc:=x.2.2.2.1.2.2.2.2.2.2.2;let AM:=x.2.2.2.2.1;let Bk:=x.2.2.2.2.2.1;let nC:=x.2.2.2.2.2.2.1;let AQ:=x.2.2.2.2.2.2.2;let Fz:Int:=(↑(List.length (Bz.2.2.2.2.2.2.1)):Int);bif decide (A8<Fz) then
  let Lc:b9.D:=List.getD (Bz.2.2.2.2.2.2.1) (Int.toNat A8) (0,0,0,0,0,0,());bif kL [decide (0≤A8),decide (A8<Fz)] then
   bif(Lc.1 != RO) then
    let tn:List (b9.D):=s5 ++ [Lc];bif kL [decide (List.length s5+(1:Nat)≤eV),decide (0≤A8),decide (A8<Fz)] then
     some (.inl (((IntKind.wrap .i64 (A8+1)),(),(),RO,()),Bz,tn,(CP,Bi,Bj,(AE,(),A_),((),wm),(),(),nc),AM,Bk,nC,AQ))
    else none
   else
    some (.inl (((IntKind.wrap .i64 (A8+1)),(),(),RO,()),Bz,s5,(CP,Bi,Bj,(AE,(),A_),((),wm),(),(),nc),AM,Bk,nC,AQ))
  else none
 else
  some (.inr (((),(),()),(CP,Bi,Bj,(AE,(),A_),((),wm),(),(),nc),Bz,s5,AM,Bk,nC,AQ))
def Wh.aaQ:(Unit×Unit×Unit)×(Bool×Int×List UInt8×(Int×Unit×Unit)×(Unit×Int×Unit)×Unit×Unit×Unit)×b7.D×List b9.D×List an.D×List b8.D×List cw.D×List b9.D:=default
def Wh.G1 (xs:b7.D×Int):Option ((Bool×Int×List UInt8×g7.D×mb.D×List cw.D×List b9.D×Unit)×Unit):=
 let cx:=xs.1;let M8:=xs.2;g8 KR aaQ (((0,(),(),M8,()),cx,[],(false,0,[],(0,(),()),((),0,()),(),(),()),[],[],[],[])) fun MY=>
  let AA:=MY.2.2.1;let Ck:=MY.2.2.2.1;some ((AA.1,AA.2.1,AA.2.2.1,AA.2.2.2.1,AA.2.2.2.2.1,AA.2.2.2.2.2.1,Ck,AA.2.2.2.2.2.2.2),())
def Wh.q94 (xs:Int×Int×Int):Option (List ei.D×Unit):=
 let RN:=xs.1;let try_1:=xs.2.1;let Pf:=xs.2.2;let Dp:List (ei.D):=[(6,RN,try_1,Pf,0,[],[],())];some (Dp,())
abbrev Wh.YX:Type:=(Int×Unit×Unit×Unit)×(Bool×Int×List UInt8×(Int×Unit×Unit)×(Unit×Int×Unit)×Unit×Unit×Unit)×(Bool×Int×List UInt8×g7.D×mb.D×List cw.D×Unit×Unit)×b9.D×List an.D×List b8.D×List cw.D×List b9.D×List b9.D
abbrev Wh.agn:Type:=(Unit×Unit×Int×Unit)×(Bool×Int×List UInt8×(Int×Unit×Unit)×(Unit×Int×Unit)×Unit×Unit×Unit)×(Bool×Int×List UInt8×g7.D×mb.D×List cw.D×Unit×Unit)×b9.D×List an.D×List b8.D×List cw.D×List b9.D×List b9.D
def Wh.Kj (x:YX):Option (YX⊕agn):=
 let IN:=x.1.1;let Bi:=x.2.1.1;let Bj:=x.2.1.2.1;let AE:=x.2.1.2.2.1;let A_:=x.2.1.2.2.2.1.1;let wm:=x.2.1.2.2.2.1.2.2;let nc:=x.2.1.2.2.2.2.1.2;let AM:=x.2.1.2.2.2.2.2.2.2;let Bk:=x.2.2.1.1;let nC:=x.2.2.1.2.1;let AQ:=x.2.2.1.2.2.1;let AR:=x.2.2.1.2.2.2.1;let AF:=x.2.2.1.2.2.2.2.1;let AG:=x.2.2.1.2.2.2.2.2.1;let nG:=x.2.2.1.2.2.2.2.2.2.2;let x3:=x.2.2.2.1;let tn:=x.2.2.2.2.1;let wv:=x.2.2.2.2.2.1;let AU:=x.2.2.2.2.2.2.1;let pg:=x.2.2.2.2.2.2.2.1;let z5:=x.2.2.2.2.2.2.2.2;let Is:Int:=(↑(List.length z5):Int);let Iu:=bif decide (IN<Is) then decide ((List.getD z5 (Int.toNat IN) (0,0,0,0,0,0,())).1<x3.1) else false;bif kL [!decide (IN<Is) || decide (0≤IN),!decide (IN<Is) || decide (IN<Is)] then
  bif Iu then
   some (.inl (((IntKind.wrap .i64 (IN+1)),(),(),()),(Bi,Bj,AE,(A_,(),wm),((),nc),(),(),AM),(Bk,nC,AQ,AR,AF,AG,(),nG),x3,tn,wv,AU,pg,z5))
  else
   some (.inr (((),(),IN,()),(Bi,Bj,AE,(A_,(),wm),((),nc),(),(),AM),(Bk,nC,AQ,AR,AF,AG,(),nG),x3,tn,wv,AU,pg,z5))
 else none
def Wh.YY:(Unit×Unit×Int×Unit)×(Bool×Int×List UInt8×(Int×Unit×Unit)×(Unit×Int×Unit)×Unit×Unit×Unit)×(Bool×Int×List UInt8×g7.D×mb.D×List cw.D×Unit×Unit)×b9.D×List an.D×List b8.D×List cw.D×List b9.D×List b9.D:=default
def Wh.LW (xs:b7.D×b9.D):Option ((Bool×Int×List UInt8×g7.D×mb.D×List cw.D×List b9.D×Unit)×Unit):=
 let cx:=xs.1;let v_1:=xs.2;c9 G1 (cx,v_1.1) fun r_2=>
  g8 Kj YY (((0,(),(),()),(false,0,[],(0,(),()),((),0,()),(),(),()),(r_2.1.1,r_2.1.2.1,r_2.1.2.2.1,r_2.1.2.2.2.1,r_2.1.2.2.2.2.1,r_2.1.2.2.2.2.2.1,(),r_2.1.2.2.2.2.2.2.2),v_1,[],[],[],[],r_2.1.2.2.2.2.2.2.1)) fun FC=>
   let GD:=FC.1.2.2.1;let BJ:=FC.2.2.1.1;let CQ:=FC.2.2.1.2.1;let BA:=FC.2.2.1.2.2.1;let Cp:=FC.2.2.1.2.2.2.1;let EO:=FC.2.2.1.2.2.2.2.1;let Dk:=FC.2.2.1.2.2.2.2.2.1;let Bl:=FC.2.2.1.2.2.2.2.2.2.2;let AZ:=FC.2.2.2.1;let Bn:=FC.2.2.2.2.2.2.2.2;let Tp:List (b9.D):=[]++List.take (Int.toNat (GD-0)) (List.drop (Int.toNat 0) Bn);let Qi:List (b9.D):=[AZ];let pb_81:List (b9.D):=Tp++Qi++List.take (Int.toNat ((↑(List.length Bn):Int)-GD)) (List.drop (Int.toNat GD) Bn);let MR:Nat:=Int.toNat (GD-0);let Iw:Nat:=Int.toNat ((↑(List.length Bn):Int)-GD);bif kL [decide (List.length (Tp++Qi)+List.length (List.take Iw (List.drop (Int.toNat GD) Bn))≤eV),decide (0≤GD),decide (GD≤(↑(List.length Bn):Int)),decide ((↑(List.length Bn):Int)≤(↑(List.length Bn):Int)),decide (List.length Tp+(1:Nat)≤eV),decide ((0:Nat)+List.length (List.take MR (List.drop (Int.toNat 0) Bn))≤eV),true,decide (0≤GD),decide (GD≤(↑(List.length Bn):Int))] then
    some ((BJ,CQ,BA,Cp,EO,Dk,pb_81,Bl),())
   else none
abbrev Wh.Zp:Type:=(Int×Unit)×gh.D
abbrev Wh.agC:Type:=Bool×Unit⊕Unit×gh.D
def Wh.GW (x:Zp):Option (Zp⊕agC):=
 let BQ:=x.1.1;let nc:=x.2;let CZ:Int:=(↑(List.length (nc.2.2.1)):Int);bif decide (BQ<CZ) then
  let MO:=List.getD (nc.2.2.1) (Int.toNat BQ) 0;bn (zog Bf nc) fun Im=>
  bn (zog fN (MO,1,Im.1)) fun G6=>
  bn (zog fN (List.getD (nc.2.2.2.1) (Int.toNat BQ) 0,1,99)) fun r_48=>
  let JC:=bif bif !G6.1 then true else bif decide (BQ>0) then decide (List.getD (nc.2.2.1) (Int.toNat (IntKind.wrap .i64 (BQ-1))) 0≥MO) else false then true else !r_48.1;bif kL [(!!bif !G6.1 then true else bif decide (BQ>0) then decide (List.getD (nc.2.2.1) (Int.toNat (IntKind.wrap .i64 (BQ-1))) 0≥MO) else false) || qu (fN (List.getD (nc.2.2.2.1) (Int.toNat BQ) 0,1,99)),(!!bif !G6.1 then true else bif decide (BQ>0) then decide (List.getD (nc.2.2.1) (Int.toNat (IntKind.wrap .i64 (BQ-1))) 0≥MO) else false) || decide (0≤BQ),(!!bif !G6.1 then true else bif decide (BQ>0) then decide (List.getD (nc.2.2.1) (Int.toNat (IntKind.wrap .i64 (BQ-1))) 0≥MO) else false) || decide (BQ<(↑(List.length (nc.2.2.2.1)):Int)),!(decide (BQ>0) && !!G6.1) || decide (0≤BQ),!(decide (BQ>0) && !!G6.1) || decide (BQ<CZ),!(decide (BQ>0) && !!G6.1) || decide (0≤IntKind.wrap .i64 (BQ-1)),!(decide (BQ>0) && !!G6.1) || decide (IntKind.wrap .i64 (BQ-1)<CZ),qu (fN (MO,1,Im.1)),qu (Bf nc),decide (0≤BQ),decide (BQ<CZ)] then
   bif JC then
    some (.inr (.inl (false,())))
   else
    some (.inl (((IntKind.wrap .i64 (BQ+1)),()),nc))
  else none
 else
  some (.inr (.inr ((),nc)))
def Wh.Zq:Bool×Unit⊕Unit×gh.D:=.inl default
def Wh.Ec (xs:gh.D):Option (Bool×Unit):=
 let fT:gh.D:=xs;bn (zog fN (fT.1,1,300)) fun r_1=>
 bn (zog fN (fT.2.1,1,16)) fun r_2=>
 bn (zog Bf fT) fun g9=>
 bn (zog fN ((↑(List.length (fT.2.2.1)):Int),1,3)) fun Cd=>
 bn (zog fN (g9.1,1,24)) fun E3=>
 let r5:=bif bif bif bif !r_1.1 then true else !r_2.1 then true else !E3.1 then true else !Cd.1 then true else(↑(List.length (fT.2.2.2.1)):Int) != (↑(List.length (fT.2.2.1)):Int);bif kL [(!!bif bif !r_1.1 then true else !r_2.1 then true else !E3.1) || qu (fN ((↑(List.length (fT.2.2.1)):Int),1,3)),(!!bif !r_1.1 then true else !r_2.1) || qu (fN (g9.1,1,24)),(!!bif !r_1.1 then true else !r_2.1) || qu (Bf fT),!!!r_1.1 || qu (fN (fT.2.1,1,16)),qu (fN (fT.1,1,300))] then
  bif r5 then
   some (false,())
  else
   g8 GW Zq (((0,()),fT)) fun q_=>
    sumC q_ (fun y_52=>
     let At:=y_52.1;some (At,())) (fun z_53=>
     let AH:=z_53.2;let FA:Int:=(↑(List.length (AH.2.2.1)):Int);bn (zog Bf AH) fun r_60=>
     let v_62:=List.getD (AH.2.2.1) (Int.toNat (IntKind.wrap .i64 (FA-1))) 0==r_60.1;bif kL [qu (Bf AH),decide (0≤IntKind.wrap .i64 (FA-1)),decide (IntKind.wrap .i64 (FA-1)<FA)] then
      some (v_62,())
     else none)
 else none
abbrev Wh.ZI:Type:=(Int×List Int×List UInt8)×Unit
abbrev Wh.agL:Type:=List UInt8×Unit
def Wh.Qr (x:ZI):Option (ZI⊕agL):=
 let C8:=x.1.1;let NB:=x.1.2.1;let N2:=x.1.2.2;let BO:=decide (C8<(↑(List.length NB):Int));bif BO then
  bif decide (C8>0) then
   let th:List UInt8:=N2 ++ [(44:UInt8)];bif kL [decide (List.length N2+(1:Nat)≤eV)] then
    let Du:=List.getD NB (Int.toNat C8) 0;bn (zog z9 Du) fun E4=>
    let out_32:List UInt8:=th++E4.1;bif kL [decide (List.length th+List.length (E4.1)≤eV),qu (z9 Du),decide (0≤C8),BO] then
     some (.inl (((IntKind.wrap .i64 (C8+1)),NB,out_32),()))
    else none
   else none
  else
   let Fy:=List.getD NB (Int.toNat C8) 0;bn (zog z9 Fy) fun Il=>
   let out_39:List UInt8:=N2++Il.1;bif kL [decide (List.length N2+List.length (Il.1)≤eV),qu (z9 Fy),decide (0≤C8),BO] then
    some (.inl (((IntKind.wrap .i64 (C8+1)),NB,out_39),()))
   else none
 else
  some (.inr (N2,()))
def Wh.ZJ:List UInt8×Unit:=default
def Wh.HU (xs:List Int):Option (List UInt8×Unit):=
 let JY:=xs;g8 Qr ZJ (((0,JY,[]),())) fun y_42=>
  let out_43:=y_42.1;some (out_43,())
def Wh.EZ (xs:gh.D):Option (List UInt8×Unit):=
 let fT:gh.D:=xs;c9 Ec fT fun r_1=>
  bif !r_1.1 then
   some ([],())
  else
   bn (zog z9 fT.1) fun r_2=>
   bn (zog z9 fT.2.1) fun dz=>
   bn (zog HU (fT.2.2.1)) fun AN=>
   bn (zog HU (fT.2.2.2.1)) fun A2=>
   let AX:=r_2.1 ++ [(47:UInt8)]++dz.1 ++ [(58:UInt8)]++AN.1 ++ [(58:UInt8)]++A2.1;bif kL [decide (List.length (r_2.1 ++ [(47:UInt8)]++dz.1 ++ [(58:UInt8)]++AN.1 ++ [(58:UInt8)])+List.length A2.1≤eV),qu (HU (fT.2.2.2.1)),decide (List.length (r_2.1 ++ [(47:UInt8)]++dz.1 ++ [(58:UInt8)]++AN.1)+(1:Nat)≤eV),decide (List.length (r_2.1 ++ [(47:UInt8)]++dz.1 ++ [(58:UInt8)])+List.length AN.1≤eV),qu (HU (fT.2.2.1)),decide (List.length (r_2.1 ++ [(47:UInt8)]++dz.1)+(1:Nat)≤eV),decide (List.length (r_2.1 ++ [(47:UInt8)])+List.length dz.1≤eV),qu (z9 fT.2.1),decide (List.length r_2.1+(1:Nat)≤eV),qu (z9 fT.1)] then
    some (AX,())
   else none
def Wh.q97 (xs:(Bool×Int×List UInt8×(Int×List an.D×Unit)×(List b8.D×Int×Unit)×List cw.D×List b9.D×Unit)×ei.D):Option (((Bool×Int×List UInt8×g7.D×mb.D×List cw.D×List b9.D×Unit)×List ei.D)×Unit):=
 let cx:=xs.1;let w_1:=xs.2;c9 F6 (cx,w_1.2.1) fun r_2=>
  let AJ:=decide (r_2.1≥0);let AK:=bif AJ then decide (((List.getD (cx.2.2.2.2.2.2.1) (Int.toNat r_2.1) (0,0,0,0,0,0,())).2).1>w_1.2.2.1) else false;bif kL [!AJ || decide (0≤r_2.1),!AJ || decide (r_2.1<(↑(List.length (cx.2.2.2.2.2.2.1)):Int))] then
   bif AK then
    some ((cx,[]),())
   else
    bn (zog Cc w_1.2.1) fun g9=>
    bn (zog Eb (cx.2.2.2.1,g9.1,w_1.2.2.2.2.2.1)) fun n5=>
    bif kL [qu (Eb (cx.2.2.2.1,g9.1,w_1.2.2.2.2.2.1)),qu (Cc w_1.2.1)] then
     let Bq:=bif(!n5.1.2) then true else bif decide (w_1.2.2.2.1>0) then n5.1.1.2.2.1 != w_1.2.2.2.1 else false;bif Bq then
      let r5:=bif AJ then decide (((List.getD (cx.2.2.2.2.2.2.1) (Int.toNat r_2.1) (0,0,0,0,0,0,())).2).1<w_1.2.2.1) else false;bif kL [!AJ || decide (0≤r_2.1),!AJ || decide (r_2.1<(↑(List.length (cx.2.2.2.2.2.2.1)):Int))] then
       bif r5 then
        c9 G1 (cx,w_1.2.1) fun C_=>
         c9 q94 (w_1.2.1,w_1.2.2.1,w_1.2.2.2.1) fun Jv=>
          some ((C_.1,Jv.1),())
       else
        c9 q94 (w_1.2.1,w_1.2.2.1,w_1.2.2.2.1) fun G5=>
         some ((cx,G5.1),())
      else none
     else
      let je:=decide (r_2.1<0);let qe:=bif bif je then true else decide (((List.getD (cx.2.2.2.2.2.2.1) (Int.toNat r_2.1) (0,0,0,0,0,0,())).2).1<w_1.2.2.1) then true else(((List.getD (cx.2.2.2.2.2.2.1) (Int.toNat r_2.1) (0,0,0,0,0,0,())).2).2).1 != n5.1.1.2.2.1;bif kL [(!!bif je then true else decide (((List.getD (cx.2.2.2.2.2.2.1) (Int.toNat r_2.1) (0,0,0,0,0,0,())).2).1<w_1.2.2.1)) || decide (0≤r_2.1),(!!bif je then true else decide (((List.getD (cx.2.2.2.2.2.2.1) (Int.toNat r_2.1) (0,0,0,0,0,0,())).2).1<w_1.2.2.1)) || decide (r_2.1<(↑(List.length (cx.2.2.2.2.2.2.1)):Int)),!!je || decide (0≤r_2.1),!!je || decide (r_2.1<(↑(List.length (cx.2.2.2.2.2.2.1)):Int))] then
       bif qe then
        c9 LW (cx,w_1.2.1,w_1.2.2.1,n5.1.1.2.2.1,0,0,cx.2.1,()) fun K3=>
         bn (zog Cb (↑(List.length (n5.1.1.2.2.2.1)):Int)) fun Da=>
         bn (zog EZ Da.1) fun Ik=>
         let Ti:List (ei.D):=[(2,w_1.2.1,w_1.2.2.1,n5.1.1.2.2.1,0,[],Ik.1,())];let vT:Int:=(↑(List.length (n5.1.1.2.2.2.1)):Int);bif kL [qu (EZ Da.1),qu (Cb vT)] then
          some ((K3.1,Ti),())
         else none
       else
        bn (zog Cb (↑(List.length (n5.1.1.2.2.2.1)):Int)) fun E4=>
        bn (zog EZ E4.1) fun CU=>
        let Tk:List (ei.D):=[(2,w_1.2.1,w_1.2.2.1,n5.1.1.2.2.1,0,[],CU.1,())];let Fy:Int:=(↑(List.length (n5.1.1.2.2.2.1)):Int);bif kL [qu (EZ E4.1),qu (Cb Fy)] then
         some ((cx,Tk),())
        else none
      else none
    else none
  else none
def Wh.q33 (x:(Unit×Unit×Unit×Int)×(Bool×Int×List UInt8×(Int×Unit×Unit)×(Unit×Int×Unit)×Unit×Unit×Unit)×(Bool×Int×List UInt8×(Int×Unit×Unit)×(Unit×Int×Unit)×Unit×Unit×Unit)×ei.D×List an.D×List b8.D×List cw.D×List b9.D×List an.D×List b8.D×List cw.D×List b9.D):Option ((Unit×Unit)×(Bool×Int×List UInt8×(Int×Unit×Unit)×(Unit×Int×Unit)×Unit×Unit×Unit)×(Bool×Int×List UInt8×g7.D×mb.D×List cw.D×Unit×Unit)×List an.D×List b8.D×List cw.D×List b9.D×List b9.D⊕(Unit×Unit)×(Bool×Int×List UInt8×(Int×Unit×Unit)×(Unit×Int×Unit)×Unit×Unit×Unit)×(Bool×Int×List UInt8×(Int×Unit×Unit)×(Unit×Int×Unit)×Unit×Unit×Unit)×List an.D×List b8.D×List cw.D×List b9.D×List an.D×List b8.D×List cw.D×List b9.D):=
 let FL:=x.1.2.2.2;let AG:=x.2.1.1;let nG:=x.2.1.2.1;let x3:=x.2.1.2.2.1;let tn:=x.2.1.2.2.2.1.1;let wv:=x.2.1.2.2.2.1.2.2;let AU:=x.2.1.2.2.2.2.1.2;let pg:=x.2.1.2.2.2.2.2.2.2;let z5:=x.2.2.1.1;let nE:=x.2.2.1.2.1;let we:=x.2.2.1.2.2.1;let s9:=x.2.2.1.2.2.2.1.1;let Ax:=x.2.2.1.2.2.2.1.2.2;let AV:=x.2.2.1.2.2.2.2.1.2;let AH:=x.2.2.1.2.2.2.2.2.2.2;let nP:=x.2.2.2.1;let AA:=x.2.2.2.2.1;let Ck:=x.2.2.2.2.2.1;let B9:=x.2.2.2.2.2.2.1;let Ba:=x.2.2.2.2.2.2.2.1;let BI:=x.2.2.2.2.2.2.2.2.1;let B_:=x.2.2.2.2.2.2.2.2.2.1;let Bb:=x.2.2.2.2.2.2.2.2.2.2.1;let AW:=x.2.2.2.2.2.2.2.2.2.2.2;bif(nP.1==5) then
  c9 G1 ((z5,nE,we,(s9,BI,Ax),(B_,AV),Bb,AW,AH),nP.2.1) fun Jw=>
   some (.inl ((((),()),(AG,nG,x3,(tn,(),wv),((),AU),(),(),pg),(Jw.1.1,Jw.1.2.1,Jw.1.2.2.1,Jw.1.2.2.2.1,Jw.1.2.2.2.2.1,Jw.1.2.2.2.2.2.1,(),Jw.1.2.2.2.2.2.2.2),AA,Ck,B9,Ba,Jw.1.2.2.2.2.2.2.1)))
 else
  let Iv:=nP.1==4;let v_71:=bif bif Iv then decide (nP.2.2.2.2.1≤3) else false then decide (nP.2.2.2.2.1>(((((List.getD AW (Int.toNat FL) (0,0,0,0,0,0,())).2).2).2).2).1) else false;bif kL [(!bif Iv then decide (nP.2.2.2.2.1≤3) else false) || decide (0≤FL),(!bif Iv then decide (nP.2.2.2.2.1≤3) else false) || decide (FL<(↑(List.length AW):Int))] then
   bif v_71 then
    let AZ:List (b9.D):=List.set AW (Int.toNat FL) ((List.getD AW (Int.toNat FL) (0,0,0,0,0,0,())).1,((List.getD AW (Int.toNat FL) (0,0,0,0,0,0,())).2).1,(((List.getD AW (Int.toNat FL) (0,0,0,0,0,0,())).2).2).1,((((List.getD AW (Int.toNat FL) (0,0,0,0,0,0,())).2).2).2).1,nP.2.2.2.2.1,(((((List.getD AW (Int.toNat FL) (0,0,0,0,0,0,())).2).2).2).2).2);bif kL [decide (0≤FL),decide (FL<(↑(List.length AW):Int))] then
     some (.inr ((((),()),(AG,nG,x3,(tn,(),wv),((),AU),(),(),pg),(z5,nE,we,(s9,(),Ax),((),AV),(),(),AH),AA,Ck,B9,Ba,BI,B_,Bb,AZ)))
    else none
   else
    some (.inr ((((),()),(AG,nG,x3,(tn,(),wv),((),AU),(),(),pg),(z5,nE,we,(s9,(),Ax),((),AV),(),(),AH),AA,Ck,B9,Ba,BI,B_,Bb,AW)))
  else none
def Wh.Qy (x:((Unit)×(Unit)×(Unit)×(Int))×(((Bool)×((Int)×((List UInt8)×(((Int)×((Unit)×(Unit)))×(((Unit)×((Int)×(Unit)))×((Unit)×((Unit)×(Unit))))))))×((Bool)×((Int)×((List UInt8)×(((Int)×((Unit)×(Unit)))×(((Unit)×((Int)×(Unit)))×((Unit)×((Unit)×(Unit))))))))×(ei.D)×(List (an.D))×(List (b8.D))×(List (cw.D))×(List (b9.D))×(List (an.D))×(List (b8.D))×(List (cw.D))×(List (b9.D)))):(((Unit)×(Unit))×(((Bool)×((Int)×((List UInt8)×(((Int)×((Unit)×(Unit)))×(((Unit)×((Int)×(Unit)))×((Unit)×((Unit)×(Unit))))))))×((Bool)×((Int)×((List UInt8)×((g7.D)×((mb.D)×((List (cw.D))×((Unit)×(Unit))))))))×(List (an.D))×(List (b8.D))×(List (cw.D))×(List (b9.D))×(List (b9.D))))⊕(((Unit)×(Unit))×(((Bool)×((Int)×((List UInt8)×(((Int)×((Unit)×(Unit)))×(((Unit)×((Int)×(Unit)))×((Unit)×((Unit)×(Unit))))))))×((Bool)×((Int)×((List UInt8)×(((Int)×((Unit)×(Unit)))×(((Unit)×((Int)×(Unit)))×((Unit)×((Unit)×(Unit))))))))×(List (an.D))×(List (b8.D))×(List (cw.D))×(List (b9.D))×(List (an.D))×(List (b8.D))×(List (cw.D))×(List (b9.D)))):=match q33 x with | some y=>y|none=>.inl (default,(default,default,default,default,default,default,default))
def Wh.q33_v (x:((Unit)×(Unit)×(Unit)×(Int))×(((Bool)×((Int)×((List UInt8)×(((Int)×((Unit)×(Unit)))×(((Unit)×((Int)×(Unit)))×((Unit)×((Unit)×(Unit))))))))×((Bool)×((Int)×((List UInt8)×(((Int)×((Unit)×(Unit)))×(((Unit)×((Int)×(Unit)))×((Unit)×((Unit)×(Unit))))))))×(ei.D)×(List (an.D))×(List (b8.D))×(List (cw.D))×(List (b9.D))×(List (an.D))×(List (b8.D))×(List (cw.D))×(List (b9.D))))(y:(((Unit)×(Unit))×(((Bool)×((Int)×((List UInt8)×(((Int)×((Unit)×(Unit)))×(((Unit)×((Int)×(Unit)))×((Unit)×((Unit)×(Unit))))))))×((Bool)×((Int)×((List UInt8)×((g7.D)×((mb.D)×((List (cw.D))×((Unit)×(Unit))))))))×(List (an.D))×(List (b8.D))×(List (cw.D))×(List (b9.D))×(List (b9.D))))⊕(((Unit)×(Unit))×(((Bool)×((Int)×((List UInt8)×(((Int)×((Unit)×(Unit)))×(((Unit)×((Int)×(Unit)))×((Unit)×((Unit)×(Unit))))))))×((Bool)×((Int)×((List UInt8)×(((Int)×((Unit)×(Unit)))×(((Unit)×((Int)×(Unit)))×((Unit)×((Unit)×(Unit))))))))×(List (an.D))×(List (b8.D))×(List (cw.D))×(List (b9.D))×(List (an.D))×(List (b8.D))×(List (cw.D))×(List (b9.D)))))(h:q33 x=some y):Qy x=y:=by unfold Qy;rw[h]
def Wh.q95 (xs:(Bool×Int×List UInt8×(Int×List an.D×Unit)×(List b8.D×Int×Unit)×List cw.D×List b9.D×Unit)×ei.D):Option (((Bool×Int×List UInt8×g7.D×mb.D×List cw.D×List b9.D×Unit)×List ei.D)×Unit):=
 let cx:=xs.1;let w_1:=xs.2;bif(w_1.1==1) then
  c9 q97 (cx,w_1) fun r_3=>
   some (r_3.1,())
 else
  c9 F6 (cx,w_1.2.1) fun dz=>
   let n_:=decide (dz.1<0);let FB:=bif bif n_ then true else((List.getD (cx.2.2.2.2.2.2.1) (Int.toNat dz.1) (0,0,0,0,0,0,())).2).1 != w_1.2.2.1 then true else(((List.getD (cx.2.2.2.2.2.2.1) (Int.toNat dz.1) (0,0,0,0,0,0,())).2).2).1 != w_1.2.2.2.1;bif kL [(!!bif n_ then true else((List.getD (cx.2.2.2.2.2.2.1) (Int.toNat dz.1) (0,0,0,0,0,0,())).2).1 != w_1.2.2.1) || decide (0≤dz.1),(!!bif n_ then true else((List.getD (cx.2.2.2.2.2.2.1) (Int.toNat dz.1) (0,0,0,0,0,0,())).2).1 != w_1.2.2.1) || decide (dz.1<(↑(List.length (cx.2.2.2.2.2.2.1)):Int)),!!n_ || decide (0≤dz.1),!!n_ || decide (dz.1<(↑(List.length (cx.2.2.2.2.2.2.1)):Int))] then
    bif FB then
     some ((cx,[]),())
    else
     CJ q33 Qy ((((),(),(),dz.1),(false,0,[],(0,(),()),((),0,()),(),(),()),(cx.1,cx.2.1,cx.2.2.1,(cx.2.2.2.1.1,(),cx.2.2.2.1.2.2),((),cx.2.2.2.2.1.2),(),(),cx.2.2.2.2.2.2.2),w_1,[],[],[],[],cx.2.2.2.1.2.1,cx.2.2.2.2.1.1,cx.2.2.2.2.2.1,cx.2.2.2.2.2.2.1)) fun q_=>
      sumC q_ (fun Bw=>
       let DF:=Bw.2.2.1.1;let CT:=Bw.2.2.1.2.1;let Dl:=Bw.2.2.1.2.2.1;let J6:=Bw.2.2.1.2.2.2.1;let NU:=Bw.2.2.1.2.2.2.2.1;let NV:=Bw.2.2.1.2.2.2.2.2.1;let J7:=Bw.2.2.1.2.2.2.2.2.2.2;let D8:=Bw.2.2.2.2.2.2.2;some (((DF,CT,Dl,J6,NU,NV,D8,J7),[]),())) (fun Gs=>
       let Dh:=Gs.2.2.1.1;let HF:=Gs.2.2.1.2.1;let Az:=Gs.2.2.1.2.2.1;let Eo:=Gs.2.2.1.2.2.2.1.1;let Ep:=Gs.2.2.1.2.2.2.1.2.2;let Fk:=Gs.2.2.1.2.2.2.2.1.2;let GH:=Gs.2.2.1.2.2.2.2.2.2.2;let IU:=Gs.2.2.2.2.2.2.2.1;let HG:=Gs.2.2.2.2.2.2.2.2.1;let FN:=Gs.2.2.2.2.2.2.2.2.2.1;let FO:=Gs.2.2.2.2.2.2.2.2.2.2;some (((Dh,HF,Az,(Eo,IU,Ep),(HG,Fk),FN,FO,GH),[]),()))
   else none
def Wh.q28 (xs:b7.D×ei.D):Option ((b7.D×List ei.D)×Unit):=
 let cx:=xs.1;let w_1:=xs.2;c9 Gd cx fun r_2=>
  bif !r_2.1 then
   some (((false,0,[],(0,[],()),([],0,()),[],[],()),[]),())
  else
   c9 Fu cx fun r_3=>
    let AK:= !cx.1;bn (zog EA w_1) fun g9=>
    let FB:=bif bif AK then true else !g9.1 then true else decide (w_1.2.1≥4);bif kL [!!AK || qu (EA w_1)] then
     bif FB then
      some ((r_3.1,[]),())
     else
      c9 q95 (r_3.1,w_1) fun w9=>
       some (w9.1,())
    else none
def Wh.q35 (x:(Unit×List ei.D×Int×Unit×Int×Int)×(b7.D×Unit×Unit×Unit×Unit)×((Bool×Int×List UInt8×(Int×Unit×Unit)×(Unit×Int×Unit)×Unit×Unit×Unit)×Unit×Unit×Unit×Unit)×List bm.D×List cg.D×List an.D×List an.D×List b8.D×List cw.D×List b9.D×List bm.D×List cg.D×List an.D):Option ((Unit×List ei.D×Int×Unit×Int×Int)×(b7.D×Unit×Unit×Unit×Unit)×((Bool×Int×List UInt8×(Int×Unit×Unit)×(Unit×Int×Unit)×Unit×Unit×Unit)×Unit×Unit×Unit×Unit)×List bm.D×List cg.D×List an.D×List an.D×List b8.D×List cw.D×List b9.D×List bm.D×List cg.D×List an.D):=
 let PO:=x.1.2.1;let to_57:=x.1.2.2.1;let Nx:=x.1.2.2.2.2.1;let at_59:=x.1.2.2.2.2.2;let Ba:=x.2.1.1;let BI:=x.2.1.2.2.2.2;let B_:=x.2.2.1.1.1;let Bb:=x.2.2.1.1.2.1;let AW:=x.2.2.1.1.2.2.1;let BJ:=x.2.2.1.1.2.2.2.1.1;let CQ:=x.2.2.1.1.2.2.2.1.2.2;let BA:=x.2.2.1.1.2.2.2.2.1.2;let Cp:=x.2.2.1.1.2.2.2.2.2.2.2;let EO:=x.2.2.1.2.2.2.2;let Dk:=x.2.2.2.1;let Bl:=x.2.2.2.2.1;let AZ:=x.2.2.2.2.2.1;let CC:=x.2.2.2.2.2.2.1;let Ca:=x.2.2.2.2.2.2.2.1;let Cq:=x.2.2.2.2.2.2.2.2.1;let CR:=x.2.2.2.2.2.2.2.2.2.1;let Bn:=x.2.2.2.2.2.2.2.2.2.2.1;let Et:=x.2.2.2.2.2.2.2.2.2.2.2.1;let EP:=x.2.2.2.2.2.2.2.2.2.2.2.2;bif decide (at_59<0) then
  let v_81:=List.getD PO (Int.toNat Nx) (0,0,0,0,0,[],[],());bif kL [decide (0≤Nx),decide (Nx<(↑(List.length PO):Int))] then
   some ((((),PO,to_57,(),Nx,v_81.2.1),(Ba,(),(),(),BI),((B_,Bb,AW,(BJ,(),CQ),((),BA),(),(),Cp),(),(),(),EO),Dk,Bl,AZ,CC,Ca,Cq,CR,Bn,Et,EP))
  else none
 else
  some ((((),PO,to_57,(),Nx,at_59),(Ba,(),(),(),BI),((B_,Bb,AW,(BJ,(),CQ),((),BA),(),(),Cp),(),(),(),EO),Dk,Bl,AZ,CC,Ca,Cq,CR,Bn,Et,EP))
def Wh.Ml (x:((Unit)×(List (ei.D))×(Int)×(Unit)×(Int)×(Int))×(((b7.D)×((Unit)×((Unit)×((Unit)×(Unit)))))×(((Bool)×((Int)×((List UInt8)×(((Int)×((Unit)×(Unit)))×(((Unit)×((Int)×(Unit)))×((Unit)×((Unit)×(Unit))))))))×((Unit)×((Unit)×((Unit)×(Unit)))))×(List (bm.D))×(List (cg.D))×(List (an.D))×(List (an.D))×(List (b8.D))×(List (cw.D))×(List (b9.D))×(List (bm.D))×(List (cg.D))×(List (an.D)))):(((Unit)×(List (ei.D))×(Int)×(Unit)×(Int)×(Int))×(((b7.D)×((Unit)×((Unit)×((Unit)×(Unit)))))×(((Bool)×((Int)×((List UInt8)×(((Int)×((Unit)×(Unit)))×(((Unit)×((Int)×(Unit)))×((Unit)×((Unit)×(Unit))))))))×((Unit)×((Unit)×((Unit)×(Unit)))))×(List (bm.D))×(List (cg.D))×(List (an.D))×(List (an.D))×(List (b8.D))×(List (cw.D))×(List (b9.D))×(List (bm.D))×(List (cg.D))×(List (an.D)))):=match q35 x with | some y=>y|none=>(default,(default,default,default,default,default,default,default,default,default,default,default,default))
def Wh.q35_v (x:((Unit)×(List (ei.D))×(Int)×(Unit)×(Int)×(Int))×(((b7.D)×((Unit)×((Unit)×((Unit)×(Unit)))))×(((Bool)×((Int)×((List UInt8)×(((Int)×((Unit)×(Unit)))×(((Unit)×((Int)×(Unit)))×((Unit)×((Unit)×(Unit))))))))×((Unit)×((Unit)×((Unit)×(Unit)))))×(List (bm.D))×(List (cg.D))×(List (an.D))×(List (an.D))×(List (b8.D))×(List (cw.D))×(List (b9.D))×(List (bm.D))×(List (cg.D))×(List (an.D))))(y:(((Unit)×(List (ei.D))×(Int)×(Unit)×(Int)×(Int))×(((b7.D)×((Unit)×((Unit)×((Unit)×(Unit)))))×(((Bool)×((Int)×((List UInt8)×(((Int)×((Unit)×(Unit)))×(((Unit)×((Int)×(Unit)))×((Unit)×((Unit)×(Unit))))))))×((Unit)×((Unit)×((Unit)×(Unit)))))×(List (bm.D))×(List (cg.D))×(List (an.D))×(List (an.D))×(List (b8.D))×(List (cw.D))×(List (b9.D))×(List (bm.D))×(List (cg.D))×(List (an.D)))))(h:q35 x=some y):Ml x=y:=by unfold Ml;rw[h]
abbrev Wh.Y3:Type:=(Int×Unit×List ei.D×Int×Unit)×(b7.D×Unit×Unit×Unit×Unit)×((Bool×Int×List UInt8×(Int×Unit×Unit)×(Unit×Int×Unit)×Unit×Unit×Unit)×Unit×Unit×Unit×Unit)×List bm.D×List cg.D×List an.D×List an.D×List b8.D×List cw.D×List b9.D×List bm.D×List cg.D×List an.D
abbrev Wh.agq:Type:=(Unit×Unit)×((Bool×Int×List UInt8×(Int×Unit×Unit)×(Unit×Int×Unit)×Unit×Unit×Unit)×Unit×Unit×Unit×Unit)×(b7.D×Unit×Unit×Unit×Unit)×List an.D×List b8.D×List cw.D×List b9.D×List bm.D×List cg.D×List an.D×List bm.D×List cg.D×List an.D
def Wh.LX (x:Y3):Option (Y3⊕agq):=
 let i_113:=x.1.1;let XM:=x.1.2.2.1;let acy:=x.1.2.2.2.1;let FO:=x.2.1.1;let HH:=x.2.1.2.2.2.2;let EN:=x.2.2.1.1.1;let Er:=x.2.2.1.1.2.1;let J1:=x.2.2.1.1.2.2.1;let HI:=x.2.2.1.1.2.2.2.1.1;let J2:=x.2.2.1.1.2.2.2.1.2.2;let GJ:=x.2.2.1.1.2.2.2.2.1.2;let Dj:=x.2.2.1.1.2.2.2.2.2.2.2;let HJ:=x.2.2.1.2.2.2.2;let GK:=x.2.2.2.1;let IV:=x.2.2.2.2.1;let ND:=x.2.2.2.2.2.1;let XR:=x.2.2.2.2.2.2.1;let XS:=x.2.2.2.2.2.2.2.1;let XT:=x.2.2.2.2.2.2.2.2.1;let XU:=x.2.2.2.2.2.2.2.2.2.1;let XV:=x.2.2.2.2.2.2.2.2.2.2.1;let PW:=x.2.2.2.2.2.2.2.2.2.2.2.1;let PX:=x.2.2.2.2.2.2.2.2.2.2.2.2;let He:Int:=(↑(List.length XM):Int);let v_139:=bif decide (i_113<He) then decide ((↑(List.length IV):Int)<60) else false;bif v_139 then
  CJ q35 Ml ((((),XM,acy,(),i_113,acy),(FO,(),(),(),HH),((EN,Er,J1,(HI,(),J2),((),GJ),(),(),Dj),(),(),(),HJ),GK,IV,ND,XR,XS,XT,XU,XV,PW,PX)) fun Cf=>
   let PM:=Cf.1.2.1;let to_143:=Cf.1.2.2.1;let Nv:=Cf.1.2.2.2.2.1;let at_145:=Cf.1.2.2.2.2.2;let SP:=Cf.2.1.1;let SQ:=Cf.2.1.2.2.2.2;let LJ:=Cf.2.2.1.1.1;let HK:=Cf.2.2.1.1.2.1;let SR:=Cf.2.2.1.1.2.2.1;let SS:=Cf.2.2.1.1.2.2.2.1.1;let PZ:=Cf.2.2.1.1.2.2.2.1.2.2;let P0:=Cf.2.2.1.1.2.2.2.2.1.2;let P3:=Cf.2.2.1.1.2.2.2.2.2.2.2;let ls_155:=Cf.2.2.1.2.2.2.2;let ls_156:=Cf.2.2.2.1;let XZ:=Cf.2.2.2.2.1;let ls_158:=Cf.2.2.2.2.2.1;let ls_159:=Cf.2.2.2.2.2.2.1;let ls_160:=Cf.2.2.2.2.2.2.2.1;let SU:=Cf.2.2.2.2.2.2.2.2.1;let ls_162:=Cf.2.2.2.2.2.2.2.2.2.1;let LK:=Cf.2.2.2.2.2.2.2.2.2.2.1;let SV:=Cf.2.2.2.2.2.2.2.2.2.2.2.1;let SW:=Cf.2.2.2.2.2.2.2.2.2.2.2.2;bn (zog H_ (List.getD PM (Int.toNat Nv) (0,0,0,0,0,[],[],()))) fun r_166=>
   let ls_168:=XZ ++ [(at_145,r_166.1,false,())];let v_169:=List.getD PM (Int.toNat Nv) (0,0,0,0,0,[],[],());bif kL [decide (List.length XZ+(1:Nat)≤eV),qu (H_ v_169),decide (0≤Nv),decide (Nv<(↑(List.length PM):Int))] then
    some (.inl (((IntKind.wrap .i64 (Nv+1)),(),PM,to_143,()),(SP,(),(),(),SQ),((LJ,HK,SR,(SS,(),PZ),((),P0),(),(),P3),(),(),(),ls_155),ls_156,ls_168,ls_158,ls_159,ls_160,SU,ls_162,LK,SV,SW))
   else none
 else
  some (.inr (((),()),((EN,Er,J1,(HI,(),J2),((),GJ),(),(),Dj),(),(),(),HJ),(FO,(),(),(),HH),XR,XS,XT,XU,XV,PW,PX,GK,IV,ND))
def Wh.Y4:(Unit×Unit)×((Bool×Int×List UInt8×(Int×Unit×Unit)×(Unit×Int×Unit)×Unit×Unit×Unit)×Unit×Unit×Unit×Unit)×(b7.D×Unit×Unit×Unit×Unit)×List an.D×List b8.D×List cw.D×List b9.D×List bm.D×List cg.D×List an.D×List bm.D×List cg.D×List an.D:=default
def Wh.GS (xs:(b7.D×List bm.D×List cg.D×List an.D×Unit)×Int×List ei.D):Option ((b7.D×List bm.D×List cg.D×List an.D×Unit)×Unit):=
 let w_0:=xs.1;let to_1:=xs.2.1;let list_2:=xs.2.2;g8 LX Y4 (((0,(),list_2,to_1,()),(w_0.1,(),(),(),w_0.2.2.2.2),((false,0,[],(0,(),()),((),0,()),(),(),()),(),(),(),()),w_0.2.1,w_0.2.2.1,w_0.2.2.2.1,[],[],[],[],[],[],[])) fun OV=>
  let ls_181:=OV.2.2.1.1;let ls_182:=OV.2.2.1.2.2.2.2;let FQ:=OV.2.2.2.2.2.2.2.2.2.2.1;let FR:=OV.2.2.2.2.2.2.2.2.2.2.2.1;let J4:=OV.2.2.2.2.2.2.2.2.2.2.2.2;some ((ls_181,FQ,FR,J4,ls_182),())
def Wh.Kn (xs:bm.D):Option (Bool×Unit):=
 let cp:=xs;let v_1:Int:=(↑(List.length (cp.2.2.2.2.2.1.1.2.2.1)):Int);let Bq:=bif bif bif bif bif bif v_1==0 then(↑(List.length (cp.2.2.2.2.2.1.1.2.2.2.1)):Int)==0 else false then cp.2.2.2.2.2.1.1.1==0 else false then cp.2.2.2.2.2.1.1.2.1==0 else false then cp.2.2.2.2.2.1.2.1.1==0 else false then cp.2.2.2.2.2.1.2.1.2.1==0 else false then(↑(List.length (cp.2.2.2.2.2.1.2.1.2.2.1)):Int)==0 else false;some (Bq,())
abbrev Wh.Z0:Type:=(Int×List Int×Int)×Unit
abbrev Wh.agU:Type:=Bool×Unit⊕Int×Unit
def Wh.Jn (x:Z0):Option (Z0⊕agU):=
 let z4:=x.1.1;let Ow:=x.1.2.1;let RR:=x.1.2.2;let AP:=decide (z4<(↑(List.length Ow):Int));bif AP then
  let r_:=List.getD Ow (Int.toNat z4) 0;let xb:=IntKind.wrap .i64 (RR-1);bn (zog fN (r_,0,xb)) fun Gi=>
  let BO:=bif !Gi.1 then true else bif decide (z4>0) then decide (List.getD Ow (Int.toNat (IntKind.wrap .i64 (z4-1))) 0≥r_) else false;bif kL [!(decide (z4>0) && !!Gi.1) || decide (0≤z4),!(decide (z4>0) && !!Gi.1) || AP,!(decide (z4>0) && !!Gi.1) || decide (0≤IntKind.wrap .i64 (z4-1)),!(decide (z4>0) && !!Gi.1) || decide (IntKind.wrap .i64 (z4-1)<(↑(List.length Ow):Int)),qu (fN (r_,0,xb)),decide (0≤z4),AP] then
   bif BO then
    some (.inr (.inl (false,())))
   else
    some (.inl (((IntKind.wrap .i64 (z4+1)),Ow,RR),()))
  else none
 else
  some (.inr (.inr (RR,())))
def Wh.Z3:Bool×Unit⊕Int×Unit:=.inl default
def Wh.H6 (xs:List Int×Int):Option (Bool×Unit):=
 let G9:=xs.1;let RQ:=xs.2;g8 Jn Z3 (((0,G9,RQ),())) fun q_=>
  sumC q_ (fun E8=>
   let CH:=E8.1;some (CH,())) (fun z_28=>
   let ac_:=z_28.1;c9 fN (ac_,0,24) fun E4=>
    some (E4.1,()))
abbrev Wh.aal:Type:=(Int×Int×List Int)×Unit
abbrev Wh.ag4:Type:=Bool×Unit⊕Unit×Unit
def Wh.Md (x:aal):Option (aal⊕ag4):=
 let CM:=x.1.1;let D_:=x.1.2.1;let TL:=x.1.2.2;let AX:=decide (CM<(↑(List.length TL):Int));bif AX then
  let BN:=List.getD TL (Int.toNat CM) 0;let ov:=BN==D_;bif kL [decide (0≤CM),AX] then
   bif ov then
    some (.inr (.inl (true,())))
   else
    some (.inl (((IntKind.wrap .i64 (CM+1)),D_,TL),()))
  else none
 else
  some (.inr (.inr ((),())))
def Wh.aam:Bool×Unit⊕Unit×Unit:=.inl default
def Wh.EC (xs:List Int×Int):Option (Bool×Unit):=
 let G9:=xs.1;let n_1:=xs.2;g8 Md aam (((0,n_1,G9),())) fun q_=>
  sumC q_ (fun y_17=>
   let xb:=y_17.1;some (xb,())) (fun _=>
   some (false,()))
abbrev Wh.abc:Type:=(Int×Int×Unit)×e_.D
abbrev Wh.aht:Type:=Bool×Unit⊕(Unit×Int)×e_.D
def Wh.Mo (x:abc):Option (abc⊕aht):=
 let JX:=x.1.1;let Dg:=x.1.2.1;let pg:=x.2;let JC:Int:=(↑(List.length (pg.2.2.1)):Int);bif decide (JX<JC) then
  let BZ:=JX != Dg;bn (zog EC ((List.getD (pg.2.2.1) (Int.toNat JX) ([],[],())).1,List.getD ((List.getD (pg.2.2.1) (Int.toNat Dg) ([],[],())).1) (Int.toNat 0) 0)) fun r_52=>
  let Iu:=bif BZ then r_52.1 else false;bif kL [!BZ || qu (EC ((List.getD (pg.2.2.1) (Int.toNat JX) ([],[],())).1,List.getD ((List.getD (pg.2.2.1) (Int.toNat Dg) ([],[],())).1) (Int.toNat 0) 0)),!BZ || decide ((0:Int)≤0),!BZ || decide (0<(↑(List.length ((List.getD (pg.2.2.1) (Int.toNat Dg) ([],[],())).1)):Int)),!BZ || decide (0≤Dg),!BZ || decide (Dg<JC),!BZ || decide (0≤JX),!BZ || decide (JX<JC)] then
   bif Iu then
    some (.inr (.inl (false,())))
   else
    some (.inl (((IntKind.wrap .i64 (JX+1)),Dg,()),pg))
  else none
 else
  some (.inr (.inr (((),Dg),pg)))
def Wh.abd:Bool×Unit⊕(Unit×Int)×e_.D:=.inl default
abbrev Wh.aba:Type:=(Int×Unit)×e_.D
abbrev Wh.ahs:Type:=Bool×Unit⊕Unit×Unit
def Wh.Mn (x:aba):Option (aba⊕ahs):=
 let HB:=x.1.1;let Bb:=x.2;let v_64:Int:=(↑(List.length (Bb.2.2.1)):Int);bif decide (HB<v_64) then
  g8 Mo abd (((0,HB,()),Bb)) fun q_=>
   sumC q_ (fun y_67=>
    let E5:=y_67.1;some (.inr (.inl (E5,())))) (fun z_68=>
    let i_70:=z_68.1.2;let Bl:=z_68.2;some (.inl (((IntKind.wrap .i64 (i_70+1)),()),Bl)))
 else
  some (.inr (.inr ((),())))
def Wh.abb:Bool×Unit⊕Unit×Unit:=.inl default
abbrev Wh.aa9:Type:=(Int×Unit)×e_.D
abbrev Wh.ahr:Type:=Bool×Unit⊕Unit×e_.D
def Wh.KV (x:aa9):Option (aa9⊕ahr):=
 let DP:=x.1.1;let se:=x.2;let r_:Int:=(↑(List.length (se.2.2.1)):Int);bif decide (DP<r_) then
  let BK:=List.getD (se.2.2.1) (Int.toNat DP) ([],[],());bif kL [decide (0≤DP),decide (DP<r_)] then
   bn (zog H6 (BK.1,se.1)) fun DW=>
   let th:=bif bif bif !DW.1 then true else(↑(List.length BK.1):Int)==0 then true else(↑(List.length BK.2.1):Int) != se.2.1 then true else bif decide (DP>0) then decide (List.getD ((List.getD (se.2.2.1) (Int.toNat (IntKind.wrap .i64 (DP-1))) ([],[],())).1) (Int.toNat 0) 0≥List.getD BK.1 (Int.toNat 0) 0) else false;bif kL [!(decide (DP>0) && !bif bif !DW.1 then true else(↑(List.length BK.1):Int)==0 then true else(↑(List.length BK.2.1):Int) != se.2.1) || decide ((0:Int)≤0),!(decide (DP>0) && !bif bif !DW.1 then true else(↑(List.length BK.1):Int)==0 then true else(↑(List.length BK.2.1):Int) != se.2.1) || decide (0<(↑(List.length BK.1):Int)),!(decide (DP>0) && !bif bif !DW.1 then true else(↑(List.length BK.1):Int)==0 then true else(↑(List.length BK.2.1):Int) != se.2.1) || decide ((0:Int)≤0),!(decide (DP>0) && !bif bif !DW.1 then true else(↑(List.length BK.1):Int)==0 then true else(↑(List.length BK.2.1):Int) != se.2.1) || decide (0<(↑(List.length ((List.getD (se.2.2.1) (Int.toNat (IntKind.wrap .i64 (DP-1))) ([],[],())).1)):Int)),!(decide (DP>0) && !bif bif !DW.1 then true else(↑(List.length BK.1):Int)==0 then true else(↑(List.length BK.2.1):Int) != se.2.1) || decide (0≤IntKind.wrap .i64 (DP-1)),!(decide (DP>0) && !bif bif !DW.1 then true else(↑(List.length BK.1):Int)==0 then true else(↑(List.length BK.2.1):Int) != se.2.1) || decide (IntKind.wrap .i64 (DP-1)<r_),qu (H6 (BK.1,se.1))] then
    bif th then
     some (.inr (.inl (false,())))
    else
     some (.inl (((IntKind.wrap .i64 (DP+1)),()),se))
   else none
  else none
 else
  some (.inr (.inr ((),se)))
def Wh.aa_:Bool×Unit⊕Unit×e_.D:=.inl default
def Wh.Gf (xs:e_.D):Option (Bool×Unit):=
 let cx:=xs;bn (zog fN (cx.1,1,24)) fun r_1=>
 bn (zog fN (cx.2.1,1,16)) fun r_2=>
 let AJ:=bif !r_1.1 then true else !r_2.1;bif kL [!!!r_1.1 || qu (fN (cx.2.1,1,16)),qu (fN (cx.1,1,24))] then
  bif AJ then
   some (false,())
  else
   g8 KV aa_ (((0,()),cx)) fun q_=>
    sumC q_ (fun C0=>
     let Ir:=C0.1;some (Ir,())) (fun z_30=>
     let AE:=z_30.2;g8 Mn abb (((0,()),AE)) fun q_=>
      sumC q_ (fun Bw=>
       let v_76:=Bw.1;some (v_76,())) (fun _=>
       some (true,())))
 else none
def Wh.F5 (xs:x4.D):Option (Bool×Unit):=
 let n4:=xs;bn (zog Ec n4.1) fun r_1=>
 bn (zog Gf n4.2.1) fun r_2=>
 bn (zog Bf n4.1) fun g9=>
 let A3:=bif bif bif r_1.1 then r_2.1 else false then n4.2.1.1==g9.1 else false then n4.2.1.2.1==n4.1.2.1 else false;bif kL [(!bif r_1.1 then r_2.1 else false) || qu (Bf n4.1),!r_1.1 || qu (Gf n4.2.1),qu (Ec n4.1)] then
  some (A3,())
 else none
def Wh.E0 (xs:x4.D):Option (Bool×Unit):=
 let n4:=xs;bn (zog F5 n4) fun r_1=>
 bn (zog Bf n4.1) fun r_2=>
 let AK:=bif r_1.1 then(↑(List.length (n4.2.1.2.2.1)):Int)==r_2.1 else false;bif kL [!r_1.1 || qu (Bf n4.1),qu (F5 n4)] then
  some (AK,())
 else none
def Wh.DU (xs:bm.D):Option (Bool×Unit):=
 let cp:=xs;bn (zog fN (cp.1,0,3)) fun r_1=>
 bn (zog fN (cp.2.1,0,99999)) fun r_2=>
 bn (zog fN (cp.2.2.1,0,4)) fun g9=>
 bn (zog fN (cp.2.2.2.2.1,0,99999)) fun Bc=>
 let A3:=bif bif bif !r_1.1 then true else !r_2.1 then true else !g9.1 then true else !Bc.1;bif kL [(!!bif bif !r_1.1 then true else !r_2.1 then true else !g9.1) || qu (fN (cp.2.2.2.2.1,0,99999)),(!!bif !r_1.1 then true else !r_2.1) || qu (fN (cp.2.2.1,0,4)),!!!r_1.1 || qu (fN (cp.2.1,0,99999)),qu (fN (cp.1,0,3))] then
  bif A3 then
   some (false,())
  else
   let Cv:=cp.2.2.2.2.1==0;bn (zog Kn cp) fun Cd=>
   bn (zog F5 (cp.2.2.2.2.2.1)) fun BV=>
   let Bq:=bif bif Cv then !Cd.1 else false then true else bif decide (cp.2.2.2.2.1>0) then !BV.1 else false;bif kL [!(decide (cp.2.2.2.2.1>0) && !bif Cv then !Cd.1 else false) || qu (F5 (cp.2.2.2.2.2.1)),!Cv || qu (Kn cp)] then
    bif Bq then
     some (false,())
    else
     bif(cp.2.2.1==0) then
      let AP:=cp.2.2.2.1 == [];some (bif AP then Cv else false,())
     else
      let r_:=cp.2.1==0;bn (zog DT (cp.2.2.2.1)) fun G5=>
      let je:=bif r_ then true else !G5.1;bif kL [!!r_ || qu (DT (cp.2.2.2.1))] then
       bif je then
        some (false,())
       else
        bif(cp.2.2.1==2) then
         let nS:=decide (cp.2.2.2.2.1>0);bn (zog E0 (cp.2.2.2.2.2.1)) fun Gi=>
         let Iq:=bif nS then !Gi.1 else false;bif kL [!nS || qu (E0 (cp.2.2.2.2.2.1))] then
          some (Iq,())
         else none
        else
         bif(cp.2.2.1==3) then
          let Du:=decide (cp.2.2.2.2.1>0);bn (zog E0 (cp.2.2.2.2.2.1)) fun Mu=>
          let BX:=bif Du then Mu.1 else false;bif kL [!Du || qu (E0 (cp.2.2.2.2.2.1))] then
           some (BX,())
          else none
         else
          bn (zog E0 (cp.2.2.2.2.2.1)) fun E4=>
          let Ce:=bif Cv then true else !E4.1;bif kL [!!Cv || qu (E0 (cp.2.2.2.2.2.1))] then
           some (Ce,())
          else none
      else none
   else none
 else none
def Wh.Km (xs:ei.D):Option (List ei.D×Unit):=
 let w_0:=xs;let ES:List (ei.D):=[(5,w_0.2.1,w_0.2.2.1,w_0.2.2.2.1,0,[],[],())];some (ES,())
abbrev Wh.ZK:Type:=(Int×Unit×Unit)×List (List UInt8)×List Int
abbrev Wh.agM:Type:=Unit×List Int
def Wh.Of (x:ZK):Option (ZK⊕agM):=
 let z4:=x.1.1;let v9:=x.2.1;let Es:=x.2.2;let AP:Int:=(↑(List.length v9):Int);let je:=bif decide (z4<AP) then decide (z4≤3) else false;bif je then
  bn (zog Ay (List.getD v9 (Int.toNat z4) [])) fun DW=>
  let B8:=Es ++ [DW.1];let BO:=List.getD v9 (Int.toNat z4) [];bif kL [decide (List.length Es+(1:Nat)≤eV),qu (Ay BO),decide (0≤z4),decide (z4<AP)] then
   some (.inl (((IntKind.wrap .i64 (z4+1)),(),()),v9,B8))
  else none
 else
  some (.inr ((),Es))
def Wh.ZL:Unit×List Int:=default
def Wh.HV (xs:List UInt8):Option (List Int×Unit):=
 let cx:=xs;c9 DG (cx,44) fun r_1=>
  g8 Of ZL (((0,(),()),r_1.1,[])) fun E8=>
   let s5:=E8.2;some (s5,())
def Wh.q60 (xs:List UInt8):Option (((Int×Int×List Int×List Int×Unit)×Bool)×Unit):=
 let Bd:=xs;c9 DG (Bd,58) fun r_1=>
  let v_2:Int:=(↑(List.length r_1.1):Int);let AJ:=v_2 != 3;bif AJ then
   some (((0,0,[],[],()),false),())
  else
   bn (zog DG (List.getD r_1.1 (Int.toNat 0) [],47)) fun dz=>
   let n_:=List.getD r_1.1 (Int.toNat 0) [];bif kL [qu (DG (n_,47)),true,decide (0<v_2)] then
    let nW:Int:=(↑(List.length dz.1):Int);let nI:=nW != 2;bif nI then
     some (((0,0,[],[],()),false),())
    else
     bn (zog HV (List.getD r_1.1 (Int.toNat 1) [])) fun Bc=>
     bn (zog HV (List.getD r_1.1 (Int.toNat 2) [])) fun w9=>
     bn (zog Ay (List.getD dz.1 (Int.toNat 1) [])) fun A2=>
     bn (zog Ay (List.getD dz.1 (Int.toNat 0) [])) fun Cd=>
     let AX:=List.getD dz.1 (Int.toNat 0) [];let BN:=List.getD dz.1 (Int.toNat 1) [];let ov:=List.getD r_1.1 (Int.toNat 1) [];let Bq:=List.getD r_1.1 (Int.toNat 2) [];bif kL [qu (HV Bq),true,decide (2<v_2),qu (HV ov),true,decide (1<v_2),qu (Ay BN),true,decide (1<nW),qu (Ay AX),true,decide (0<nW)] then
      c9 EZ (Cd.1,A2.1,Bc.1,w9.1,()) fun Ij=>
       bif(!Ij.1==Bd) then
        some (((0,0,[],[],()),false),())
       else
        some (((Cd.1,A2.1,Bc.1,w9.1,()),true),())
     else none
   else none
def Wh.q42 (xs:Int×Int):Option ((Int×Int×List gv.D×Unit)×Unit):=
 let Fb:=xs.1;let size_1:=xs.2;bn (zog fN (Fb,1,24)) fun r_2=>
 bn (zog fN (size_1,1,16)) fun r_3=>
 let AK:=bif !r_2.1 then true else !r_3.1;bif kL [!!!r_2.1 || qu (fN (size_1,1,16)),qu (fN (Fb,1,24))] then
  bif AK then
   some ((0,0,[],()),())
  else
   some ((Fb,size_1,[],()),())
 else none
def Wh.L4 (xs:gh.D):Option (((Int×Int×List Int×List Int×Unit)×(Int×Int×List gv.D×Unit)×Unit)×Unit):=
 let fT:gh.D:=xs;c9 Ec fT fun r_1=>
  bif !r_1.1 then
   some (((0,0,[],[],()),(0,0,[],()),()),())
  else
   bn (zog HW fT) fun r_2=>
   bn (zog Bf fT) fun r_3=>
   bn (zog q42 (r_3.1,fT.2.1)) fun dz=>
   bif kL [qu (q42 (r_3.1,fT.2.1)),qu (Bf fT),qu (HW fT)] then
    some ((r_2.1,(dz.1.1,dz.1.2.1,dz.1.2.2.1,dz.1.2.2.2),()),())
   else none
def Wh.q46 (xs:bm.D×ei.D):Option (bm.D×Unit):=
 let cp:=xs.1;let w_1:=xs.2;c9 q60 (w_1.2.2.2.2.2.2.1) fun r_2=>
  let AK:=bif(cp.2.2.1 != 1) then true else !r_2.1.2;bif AK then
   some (cp,())
  else
   bif(cp.2.2.2.2.1==0) then
    c9 L4 r_2.1.1 fun n5=>
     some ((cp.1,cp.2.1,2,cp.2.2.2.1,w_1.2.2.2.1,n5.1,cp.2.2.2.2.2.2),())
   else
    let nI:=cp.2.2.2.2.1==w_1.2.2.2.1;bn (zog EZ (cp.2.2.2.2.2.1.1)) fun Bc=>
    let A3:=bif nI then Bc.1==w_1.2.2.2.2.2.2.1 else false;bif kL [!nI || qu (EZ (cp.2.2.2.2.2.1.1))] then
     bif A3 then
      some ((cp.1,cp.2.1,2,cp.2.2.2),())
     else
      some (cp,())
    else none
abbrev Wh.aaj:Type:=(Int×Unit×Int)×e_.D
abbrev Wh.ag3:Type:=(List UInt8×Bool)×Unit⊕Unit×Unit
def Wh.Mc (x:aaj):Option (aaj⊕ag3):=
 let BG:=x.1.1;let at_14:=x.1.2.2;let v9:=x.2;let r5:Int:=(↑(List.length (v9.2.2.1)):Int);bif decide (BG<r5) then
  let r_:=List.getD (v9.2.2.1) (Int.toNat BG) ([],[],());let nS:=bif(↑(List.length r_.1):Int)==1 then List.getD r_.1 (Int.toNat 0) 0==at_14 else false;bif kL [!(↑(List.length r_.1):Int)==1 || decide ((0:Int)≤0),!(↑(List.length r_.1):Int)==1 || decide (0<(↑(List.length r_.1):Int)),!(↑(List.length r_.1):Int)==1 || decide (0≤BG),!(↑(List.length r_.1):Int)==1 || decide (BG<r5),decide (0≤BG),decide (BG<r5)] then
   bif nS then
    bif kL [decide (0≤BG),decide (BG<r5)] then
     some (.inr (.inl ((r_.2.1,true),())))
    else none
   else
    some (.inl (((IntKind.wrap .i64 (BG+1)),(),at_14),v9))
  else none
 else
  some (.inr (.inr ((),())))
def Wh.aak:(List UInt8×Bool)×Unit⊕Unit×Unit:=.inl default
def Wh.KK (xs:e_.D×Int):Option ((List UInt8×Bool)×Unit):=
 let cx:=xs.1;let C6:=xs.2;g8 Mc aak (((0,(),C6),cx)) fun q_=>
  sumC q_ (fun Rs=>
   let Du:=Rs.1.1;let vT:=Rs.1.2;some ((Du,vT),())) (fun _=>
   some (([],false),()))
abbrev Wh.abq:Type:=(Int×Unit)×e_.D
abbrev Wh.ahA:Type:=Int×Unit
def Wh.QG (x:abq):Option (abq⊕ahA):=
 let n_6:=x.1.1;let ls_7:=x.2;c9 KK (ls_7,n_6) fun Bc=>
  bif(!Bc.1.2) then
   some (.inr (n_6,()))
  else
   some (.inl (((IntKind.wrap .i64 (n_6+1)),()),ls_7))
def Wh.abr:Int×Unit:=default
def Wh.q78 (xs:e_.D):Option (Int×Unit):=
 let cx:=xs;g8 QG abr (((0,()),cx)) fun y_12=>
  let BN:=y_12.1;some (BN,())
abbrev Wh.aaX:Type:=(Int×Int×Unit)×x4.D
abbrev Wh.ahl:Type:=Int×Unit
def Wh.Qz (x:aaX):Option (aaX⊕ahl):=
 let D_:=x.1.1;let k_11:=x.1.2.1;let J0:=x.2;let BN:Int:=(↑(List.length (J0.1.2.2.1)):Int);let r5:=bif decide (D_<BN) then decide (List.getD (J0.1.2.2.1) (Int.toNat D_) 0≤k_11) else false;bif kL [!decide (D_<BN) || decide (0≤D_),!decide (D_<BN) || decide (D_<BN)] then
  bif r5 then
   some (.inl (((IntKind.wrap .i64 (D_+1)),k_11,()),J0))
  else
   some (.inr (D_,()))
 else none
def Wh.aaY:Int×Unit:=default
def Wh.q53 (xs:x4.D):Option (Int×Unit):=
 let n4:=xs;c9 q78 n4.2.1 fun r_1=>
  g8 Qz aaY (((0,r_1.1,()),n4)) fun y_19=>
   let n_20:=y_19.1;some (n_20,())
def Wh.EX (xs:Int):Option (Int×Unit):=
 let TQ:=xs;some ((Int.tmod (IntKind.wrap .i64 ((IntKind.wrap .i64 (TQ*1103515245))+12345)) 2147483648),())
def Wh.EB (xs:Int×Int):Option (Int×Unit):=
 let TQ:=xs.1;let n_1:=xs.2;bif kL [n_1 != 0,true] then
  some (Int.tmod (IntKind.wrap .i64 (Int.tdiv TQ 256)) n_1,())
 else none
abbrev Wh.abx:Type:=(Int×Unit×Int)×gh.D
abbrev Wh.ahD:Type:=Int×Unit⊕Unit×gh.D
def Wh.Ju (x:abx):Option (abx⊕ahD):=
 let Gz:=x.1.1;let Nz:=x.1.2.2;let nG:=x.2;let Hf:Int:=(↑(List.length (nG.2.2.2.1)):Int);bif decide (Gz<Hf) then
  let Ld:=List.getD (nG.2.2.2.1) (Int.toNat Gz) 0;bif kL [decide (0≤Gz),decide (Gz<Hf)] then
   bif decide (Nz<Ld) then
    let v_48:=List.getD (nG.2.2.1) (Int.toNat Gz) 0;bif kL [decide (0≤Gz),decide (Gz<(↑(List.length (nG.2.2.1)):Int))] then
     some (.inr (.inl (v_48,())))
    else none
   else
    bif kL [decide (0≤Gz),decide (Gz<Hf)] then
     some (.inl (((IntKind.wrap .i64 (Gz+1)),(),(IntKind.wrap .i64 (Nz-Ld))),nG))
    else none
  else none
 else
  some (.inr (.inr ((),nG)))
def Wh.aby:Int×Unit⊕Unit×gh.D:=.inl default
abbrev Wh.abv:Type:=(Int×Unit×Int×Int)×gh.D
abbrev Wh.ahC:Type:=(Unit×Int×Int)×gh.D
def Wh.Jt (x:abv):Option (abv⊕ahC):=
 let Cz:=x.1.1;let acr:=x.1.2.2.1;let abX:=x.1.2.2.2;let v9:=x.2;let r5:Int:=(↑(List.length (v9.2.2.2.1)):Int);bif decide (Cz<r5) then
  let r_:=List.getD (v9.2.2.2.1) (Int.toNat Cz) 0;bif kL [decide (0≤Cz),decide (Cz<r5)] then
   some (.inl (((IntKind.wrap .i64 (Cz+1)),(),(IntKind.wrap .i64 (acr+r_)),abX),v9))
  else none
 else
  some (.inr (((),acr,abX),v9))
def Wh.abw:(Unit×Int×Int)×gh.D:=default
def Wh.G3 (xs:gh.D×Int):Option (Int×Unit):=
 let fT:=xs.1;let Q0:=xs.2;g8 Jt abw (((0,(),0,Q0),fT)) fun Hg=>
  let acs:=Hg.1.2.1;let abY:=Hg.1.2.2;let BT:=Hg.2;bn (zog EX abY) fun Fv=>
  bn (zog EB (Fv.1,acs)) fun r_29=>
  bif kL [qu (EB (Fv.1,acs)),qu (EX abY)] then
   g8 Ju aby (((0,(),r_29.1),BT)) fun q_=>
    sumC q_ (fun B3=>
     let JD:=B3.1;some (JD,())) (fun z_54=>
     let nP:=z_54.2;c9 Bf nP fun r_57=>
      some (r_57.1,()))
  else none
abbrev Wh.aaV:Type:=(Int×Int×Unit×Int)×List Int
abbrev Wh.ahk:Type:=(Int×Unit)×List Int
def Wh.Js (x:aaV):Option (aaV⊕ahk):=
 let Ht:=x.1.1;let FM:=x.1.2.1;let Hs:=x.1.2.2.2;let nc:=x.2;bif decide (Ht<Hs) then
  let EG:=IntKind.wrap .i64 (Int.tdiv 65536 Hs);bif kL [Hs != 0] then
   bif decide (Ht>1) then
    let EH:=IntKind.wrap .i64 (Ht-1);let n_44:=IntKind.wrap .i64 (Int.tdiv (IntKind.wrap .i64 (IntKind.wrap .i64 (Int.tdiv 65536 (IntKind.wrap .i64 (Ht*EH)))*7)) 8);bif kL [true,IntKind.wrap .i64 (Ht*EH) != 0] then
     bif decide (n_44>FM) then
      let Tn:List Int:=[FM];let AU:=nc++Tn;bif kL [decide (List.length nc+(1:Nat)≤eV)] then
       some (.inl (((IntKind.wrap .i64 (Ht+1)),(IntKind.wrap .i64 (FM-FM)),(),Hs),AU))
      else none
     else
      let pb_50:List Int:=[n_44];let we:=nc++pb_50;bif kL [decide (List.length nc+(1:Nat)≤eV)] then
       some (.inl (((IntKind.wrap .i64 (Ht+1)),(IntKind.wrap .i64 (FM-n_44)),(),Hs),we))
      else none
    else none
   else
    bif decide (EG>FM) then
     let Qe:List Int:=[FM];let nP:=nc++Qe;bif kL [decide (List.length nc+(1:Nat)≤eV)] then
      some (.inl (((IntKind.wrap .i64 (Ht+1)),(IntKind.wrap .i64 (FM-FM)),(),Hs),nP))
     else none
    else
     let To:List Int:=[EG];let Ba:=nc++To;bif kL [decide (List.length nc+(1:Nat)≤eV)] then
      some (.inl (((IntKind.wrap .i64 (Ht+1)),(IntKind.wrap .i64 (FM-EG)),(),Hs),Ba))
     else none
  else none
 else
  some (.inr ((FM,()),nc))
def Wh.aaW:(Int×Unit)×List Int:=default
def Wh.q52 (xs:Int):Option (List Int×Unit):=
 let Fb:=xs;g8 Js aaW (((1,65536,(),Fb),[])) fun FD=>
  let aeK:=FD.1.1;let CQ:=FD.2;let pb_67:List Int:=[aeK];let Cp:=CQ++pb_67;bif kL [decide (List.length CQ+(1:Nat)≤eV)] then
   some (Cp,())
  else none
abbrev Wh.abt:Type:=(Int×Unit×Int×Int)×List Int
abbrev Wh.ahB:Type:=Int×Unit⊕Int×Unit
def Wh.KW (x:abt):Option (abt⊕ahB):=
 let Pa:=x.1.1;let YC:=x.1.2.2.1;let Wv:=x.1.2.2.2;let AD:=x.2;bif decide (Pa<(↑(List.length AD):Int)) then
  let je:=IntKind.wrap .i64 (Pa-1);bif kL [decide (0≤je),decide (je<(↑(List.length AD):Int))] then
   bif decide (YC<List.getD AD (Int.toNat je) 0) then
    some (.inr (.inl (Pa,())))
   else
    bif kL [decide (0≤je),decide (je<(↑(List.length AD):Int))] then
     some (.inl (((IntKind.wrap .i64 (Pa+1)),(),(IntKind.wrap .i64 (YC-List.getD AD (Int.toNat je) 0)),Wv),AD))
    else none
  else none
 else
  some (.inr (.inr (Wv,())))
def Wh.abu:Int×Unit⊕Int×Unit:=.inl default
def Wh.q79 (xs:Int×Int):Option (Int×Unit):=
 let Fb:=xs.1;let part_1:=xs.2;c9 q52 Fb fun r_2=>
  g8 KW abu (((1,(),part_1,Fb),r_2.1)) fun q_=>
   sumC q_ (fun Li=>
    let BX:=Li.1;some (BX,())) (fun z_29=>
    let ada:=z_29.1;some (ada,()))
abbrev Wh.ZE:Type:=(Int×List Int×Int)×Unit
abbrev Wh.agJ:Type:=(Int×List Int×Int)×Unit
def Wh.Jh (x:ZE):Option (ZE⊕agJ):=
 let k_8:=x.1.1;let PR:=x.1.2.1;let D_:=x.1.2.2;let CG:=decide (k_8<(↑(List.length PR):Int));let AX:=bif CG then decide (List.getD PR (Int.toNat k_8) 0<D_) else false;bif kL [!CG || decide (0≤k_8),!CG || CG] then
  bif AX then
   some (.inl (((IntKind.wrap .i64 (k_8+1)),PR,D_),()))
  else
   some (.inr ((k_8,PR,D_),()))
 else none
def Wh.ZF:(Int×List Int×Int)×Unit:=default
def Wh.Jg (xs:List Int×Int):Option (List Int×Unit):=
 let JY:=xs.1;let n_1:=xs.2;g8 Jh ZF (((0,JY,n_1),())) fun y_15=>
  let GB:=y_15.1.1;let GG:=y_15.1.2.1;let n_18:=y_15.1.2.2;let Kc:List Int:=[]++List.take (Int.toNat (GB-0)) (List.drop (Int.toNat 0) GG);let BK:List Int:=[n_18];let pb_22:List Int:=Kc++BK++List.take (Int.toNat ((↑(List.length GG):Int)-GB)) (List.drop (Int.toNat GB) GG);let qe:List Int:=List.take (Int.toNat (GB-0)) (List.drop (Int.toNat 0) GG);let BO:List Int:=List.take (Int.toNat ((↑(List.length GG):Int)-GB)) (List.drop (Int.toNat GB) GG);bif kL [decide (List.length (Kc++BK)+List.length BO≤eV),decide (0≤GB),decide (GB≤(↑(List.length GG):Int)),decide ((↑(List.length GG):Int)≤(↑(List.length GG):Int)),decide (List.length Kc+(1:Nat)≤eV),decide ((0:Nat)+List.length qe≤eV),true,decide (0≤GB),decide (GB≤(↑(List.length GG):Int))] then
   some (pb_22,())
  else none
end
