import Derived.Test.YthanhdmbelbfcaaGreatX6
set_option linter.defProp false
namespace Wh
end Wh
open Wh
open Go Go.Ab
noncomputable section
abbrev Wh.abk:Type:=(Int×Unit×Unit×Int×Int)×List Int×List Int
abbrev Wh.aim:Type:=Unit×List Int
def Wh.K3 (x:abk):Option (abk⊕aim):=
 let Dm:=x.1.1;let s_48:=x.1.2.2.2.1;let d_49:=x.1.2.2.2.2;let nP:=x.2.1;let xe:=x.2.2;bif decide (Dm<d_49) then
  c9 E4 s_48 fun B6=>
   c9 EH (B6.1,(↑(List.length nP):Int)) fun Gr=>
    bn (zog Js (xe,List.getD nP (Int.toNat Gr.1) 0)) fun FB=>
    let FF:=List.getD nP (Int.toNat Gr.1) 0;bif kL [qu (Js (xe,FF)),decide (0≤Gr.1),decide (Gr.1<(↑(List.length nP):Int))] then
     let pb_57:List Int:=[]++List.take (Int.toNat (Gr.1-0)) (List.drop (Int.toNat 0) nP);let QE:List Int:=pb_57++List.take (Int.toNat ((↑(List.length nP):Int)-IntKind.wrap .i64 (Gr.1+1))) (List.drop (Int.toNat (IntKind.wrap .i64 (Gr.1+1))) nP);let Pb:Nat:=Int.toNat (Gr.1-0);let Na:=IntKind.wrap .i64 (Gr.1+1);bif kL [decide (List.length pb_57+List.length (List.take (Int.toNat ((↑(List.length nP):Int)-Na)) (List.drop (Int.toNat Na) nP))≤eV),decide (0≤Na),decide (Na≤(↑(List.length nP):Int)),decide ((↑(List.length nP):Int)≤(↑(List.length nP):Int)),decide ((0:Nat)+List.length (List.take Pb (List.drop (Int.toNat 0) nP))≤eV),true,decide (0≤Gr.1),decide (Gr.1≤(↑(List.length nP):Int))] then
      some (.inl (((IntKind.wrap .i64 (Dm+1)),(),(),B6.1,d_49),QE,FB.1))
     else none
    else none
 else
  some (.inr ((),xe))
def Wh.abl:Unit×List Int:=default
abbrev Wh.abi:Type:=(Int×Unit×Int×Int×Int)×List Int
abbrev Wh.ail:Type:=(Unit×Int×Int)×List Int
def Wh.Mv (x:abi):Option (abi⊕ail):=
 let CG:=x.1.1;let MW:=x.1.2.2.1;let d_19:=x.1.2.2.2.1;let Xf:=x.1.2.2.2.2;let CJ:=x.2;bif decide (CG<Xf) then
  let TQ:List Int:=[CG];let Be:=CJ++TQ;bif kL [decide (List.length CJ+(1:Nat)≤eV)] then
   some (.inl (((IntKind.wrap .i64 (CG+1)),(),MW,d_19,Xf),Be))
  else none
 else
  some (.inr (((),MW,d_19),CJ))
def Wh.abj:(Unit×Int×Int)×List Int:=default
def Wh.K0 (xs:Int×Int):Option (List Int×Unit):=
 let Fi:=xs.1;let Ro:=xs.2;bn (zog E4 Ro) fun r_2=>
 bn (zog E4 r_2.1) fun dz=>
 bif kL [qu (E4 r_2.1),qu (E4 Ro)] then
  bn (zog EH (dz.1,65536)) fun gv=>
  bn (zog q88 (Fi,gv.1)) fun AM=>
  bif kL [qu (q88 (Fi,gv.1)),qu (EH (dz.1,65536))] then
   g8 Mv abj (((0,(),dz.1,AM.1,Fi),[])) fun Fe=>
    let s_28:=Fe.1.2.1;let d_29:=Fe.1.2.2;let Bf:=Fe.2;g8 K3 abl (((0,(),(),s_28,d_29),Bf,[])) fun FI=>
     let BT:=FI.2;some (BT,())
  else none
 else none
def Wh.Fz (xs:gT.D×Int):Option (List Int×Unit):=
 let fy:=xs.1;let FO:=xs.2;c9 Br fy fun r_2=>
  bif decide (FO<r_2.1) then
   let Ow:List Int:=[FO];some (Ow,())
  else
   bn (zog Hg (fy,FO)) fun gv=>
   bn (zog K0 (gv.1,FO)) fun nS=>
   bif kL [qu (K0 (gv.1,FO)),qu (Hg (fy,FO))] then
    some (nS.1,())
   else none
abbrev Wh.aba:Type:=(Int×List Int×Unit×Int×List Int)×List Int
abbrev Wh.aih:Type:=Unit×List Int
def Wh.Gd (x:aba):Option (aba⊕aih):=
 let Bk:=x.1.1;let IL:=x.1.2.1;let Eu:=x.1.2.2.2.1;let FL:=x.1.2.2.2.2;let BQ:=x.2;let B8:=decide (Bk<(↑(List.length IL):Int));let ID:=bif B8 then true else decide (Eu<(↑(List.length FL):Int));bif ID then
  let Gv:=decide (Eu≥(↑(List.length FL):Int));let FD:=bif Gv then true else bif B8 then decide (List.getD IL (Int.toNat Bk) 0<List.getD FL (Int.toNat Eu) 0) else false;bif kL [!(B8 && !Gv) || decide (0≤Eu),!(B8 && !Gv) || decide (Eu<(↑(List.length FL):Int)),!(B8 && !Gv) || decide (0≤Bk),!(B8 && !Gv) || B8] then
   bif FD then
    let Ov:List Int:=[List.getD IL (Int.toNat Bk) 0];let AD:=BQ++Ov;bif kL [decide (List.length BQ+(1:Nat)≤eV),decide (0≤Bk),B8] then
     some (.inl (((IntKind.wrap .i64 (Bk+1)),IL,(),Eu,FL),AD))
    else none
   else
    let EN:=decide (Bk≥(↑(List.length IL):Int));let Ln:=bif EN then true else decide (List.getD FL (Int.toNat Eu) 0<List.getD IL (Int.toNat Bk) 0);bif kL [!!EN || decide (0≤Bk),!!EN || B8,!!EN || decide (0≤Eu),!!EN || decide (Eu<(↑(List.length FL):Int))] then
     bif Ln then
      let pb_42:List Int:=[List.getD FL (Int.toNat Eu) 0];let nE:=BQ++pb_42;bif kL [decide (List.length BQ+(1:Nat)≤eV),decide (0≤Eu),decide (Eu<(↑(List.length FL):Int))] then
       some (.inl ((Bk,IL,(),(IntKind.wrap .i64 (Eu+1)),FL),nE))
      else none
     else
      some (.inl (((IntKind.wrap .i64 (Bk+1)),IL,(),(IntKind.wrap .i64 (Eu+1)),FL),BQ))
    else none
  else none
 else
  some (.inr ((),BQ))
def Wh.abb:Unit×List Int:=default
def Wh.Io (xs:List Int×List Int):Option (List Int×Unit):=
 let s5:=xs.1;let b_1:=xs.2;g8 Gd abb (((0,s5,(),0,b_1),[])) fun Nk=>
  let nP:=Nk.2;some (nP,())
abbrev Wh.Z_:Type:=(Int×List UInt8×List UInt8×Unit)×List Int
abbrev Wh.ahL:Type:=Unit×List Int
def Wh.Mf (x:Z_):Option (Z_⊕ahL):=
 let CF:=x.1.1;let b_13:=x.1.2.1;let a_14:=x.1.2.2.1;let xb:=x.2;let qe:=decide (CF<(↑(List.length a_14):Int));bif qe then
  let TN:List Int:=[pZ Go.BinOp.xor Go.IntKind.u8 (↑(UInt8.toNat (List.getD a_14 (Int.toNat CF) (0:UInt8))):Int) (↑(UInt8.toNat (List.getD b_13 (Int.toNat CF) (0:UInt8))):Int)];let AO:=xb++TN;bif kL [decide (List.length xb+(1:Nat)≤eV),decide (0≤CF),decide (CF<(↑(List.length b_13):Int)),decide (0≤CF),qe] then
   some (.inl (((IntKind.wrap .i64 (CF+1)),b_13,a_14,()),AO))
  else none
 else
  some (.inr ((),xb))
def Wh.aaa:Unit×List Int:=default
def Wh.F5 (xs:List UInt8×List UInt8):Option (List UInt8×Unit):=
 let s5:=xs.1;let b_1:=xs.2;g8 Mf aaa (((0,b_1,s5,()),[])) fun Hu=>
  let Be:=Hu.2;some (tv Be,())
abbrev Wh.aaz:Type:=(Int×Unit×Unit×Unit)×e_.D×ei.D×(Unit×List UInt8×Unit)×List Int
abbrev Wh.ahY:Type:=(Unit×Unit)×(Unit×List UInt8×Unit)×e_.D×List Int
def Wh.KP (x:aaz):Option (aaz⊕ahY):=
 let Dc:=x.1.1;let wh:=x.2.1;let BG:=x.2.2.1;let Be:=x.2.2.2.1.2;let AZ:=x.2.2.2.2;let x3:Int:=(↑(List.length (BG.2.2.1)):Int);bif decide (Dc<x3) then
  let we:=List.getD (BG.2.2.1) (Int.toNat Dc) ([],[],());bn (zog EI (wh.1,List.getD we.1 (Int.toNat 0) 0)) fun E_=>
  bif kL [qu (EI (wh.1,List.getD we.1 (Int.toNat 0) 0)),true,decide (0<(↑(List.length we.1):Int)),decide (0≤Dc),decide (Dc<x3)] then
   bif E_.1 then
    bn (zog F5 (wh.2.1,we.2.1)) fun C0=>
    bn (zog Io (wh.1,we.1)) fun Ix=>
    bif kL [qu (F5 (wh.2.1,we.2.1)),decide (0≤Dc),decide (Dc<x3),qu (Io (wh.1,we.1)),decide (0≤Dc),decide (Dc<x3)] then
     some (.inl (((IntKind.wrap .i64 (Dc+1)),(),(),()),(Ix.1,C0.1,()),BG,((),Be),AZ))
    else none
   else
    some (.inl (((IntKind.wrap .i64 (Dc+1)),(),(),()),wh,BG,((),Be),AZ))
  else none
 else
  some (.inr (((),()),((),Be),wh,AZ))
def Wh.aaA:(Unit×Unit)×(Unit×List UInt8×Unit)×e_.D×List Int:=default
def Wh.KO (xs:ei.D×e_.D):Option (e_.D×Unit):=
 let cx:=xs.1;let e_1:=xs.2;g8 KP aaA (((0,(),(),()),e_1,cx,((),[],()),[])) fun y_41=>
  let nE:=y_41.2.2.1;some (nE,())
abbrev Wh.aav:Type:=(Int×List UInt8×List UInt8)×Unit
abbrev Wh.ahW:Type:=List UInt8×Unit
def Wh.Mk (x:aav):Option (aav⊕ahW):=
 let Qs:=x.1.1;let D3:=x.1.2.1;let Qx:=x.1.2.2;bif decide (Qs>0) then
  let v9:Bool:=(Int.tmod Qs 2)==1;bif v9 then
   let n_:List UInt8:=Qx++D3;bif kL [decide (List.length Qx+List.length D3≤eV)] then
    let iL:List UInt8:=D3++D3;bif kL [decide (List.length D3+List.length D3≤eV)] then
     some (.inl (((IntKind.wrap .i64 (Int.tdiv Qs 2)),iL,n_),()))
    else none
   else none
  else
   let nW:List UInt8:=D3++D3;bif kL [decide (List.length D3+List.length D3≤eV)] then
    some (.inl (((IntKind.wrap .i64 (Int.tdiv Qs 2)),nW,Qx),()))
   else none
 else
  some (.inr (Qx,()))
def Wh.aaw:List UInt8×Unit:=default
def Wh.KN (xs:List UInt8×Int):Option (List UInt8×Unit):=
 let cx:=xs.1;let n_1:=xs.2;g8 Mk aaw (((n_1,cx,[]),())) fun RS=>
  let out_26:=RS.1;some (out_26,())
def Wh.Jr (xs:Int):Option (List UInt8×Unit):=
 let size_0:=xs;c9 KN (tv [(0:Int)],size_0) fun r_1=>
  some (r_1.1,())
abbrev Wh.abc:Type:=(Int×Unit×Unit×Bool×Unit×Unit)×(Int×Int×Unit×Unit)×e_.D×(Int×Int×Unit×Unit)×(Int×Int×Unit×Unit)×List e_.D×List e_.D×List e_.D
abbrev Wh.aii:Type:=(Unit×Unit×Unit×Bool)×(Int×Int×Unit×Unit)×(Int×Int×Unit×Unit)×e_.D×List e_.D×List e_.D
def Wh.Ge (x:abc):Option (abc⊕aii):=
 let IX:=x.1.1;let ES:=x.1.2.2.2.1;let AE:=x.2.1.1;let A1:=x.2.1.2.1;let AP:=x.2.1.2.2.2;let n5:=x.2.2.1;let AL:=x.2.2.2.1.1;let Cp:=x.2.2.2.1.2.1;let Ce:=x.2.2.2.1.2.2.2;let Bl:=x.2.2.2.2.1.1;let BR:=x.2.2.2.2.1.2.1;let Cf:=x.2.2.2.2.1.2.2.2;let Bn:=x.2.2.2.2.2.1;let A2:=x.2.2.2.2.2.2.1;let BT:=x.2.2.2.2.2.2.2;let RL:Int:=(↑(List.length A2):Int);bif decide (IX<RL) then
  let GX:=List.getD A2 (Int.toNat IX) ([],[],());bif kL [decide (0≤IX),decide (IX<RL)] then
   let Fa:=List.getD n5.1 (Int.toNat 0) 0;bn (zog EI (GX.1,Fa)) fun r_70=>
   bif kL [qu (EI (GX.1,Fa)),true,decide (0<(↑(List.length n5.1):Int))] then
    bif r_70.1 then
     bn (zog F5 (GX.2.1,n5.2.1)) fun r_71=>
     bn (zog Io (GX.1,n5.1)) fun JI=>
     bif kL [qu (F5 (GX.2.1,n5.2.1)),qu (Io (GX.1,n5.1))] then
      let RM:=bif !ES then decide (List.getD JI.1 (Int.toNat 0) 0>Fa) else false;bif kL [!!ES || decide ((0:Int)≤0),!!ES || decide (0<(↑(List.length n5.1):Int)),!!ES || decide ((0:Int)≤0),!!ES || decide (0<(↑(List.length JI.1):Int))] then
       bif RM then
        let L6:List (e_.D):=[n5];let Cw:=Bn++L6;bif kL [decide (List.length Bn+(1:Nat)≤eV)] then
         let pb_76:List (e_.D):=[(JI.1,r_71.1,())];let By:=Cw++pb_76;bif kL [decide (List.length Cw+(1:Nat)≤eV)] then
          some (.inl (((IntKind.wrap .i64 (IX+1)),(),(),true,(),()),(AE,A1,(),AP),n5,(AL,Cp,(),Ce),(Bl,BR,(),Cf),By,A2,BT))
         else none
        else none
       else
        let QH:List (e_.D):=[(JI.1,r_71.1,())];let Ed:=Bn++QH;bif kL [decide (List.length Bn+(1:Nat)≤eV)] then
         some (.inl (((IntKind.wrap .i64 (IX+1)),(),(),ES,(),()),(AE,A1,(),AP),n5,(AL,Cp,(),Ce),(Bl,BR,(),Cf),Ed,A2,BT))
        else none
      else none
     else none
    else
     let Nb:=bif !ES then decide (List.getD GX.1 (Int.toNat 0) 0>Fa) else false;bif kL [!!ES || decide ((0:Int)≤0),!!ES || decide (0<(↑(List.length n5.1):Int)),!!ES || decide ((0:Int)≤0),!!ES || decide (0<(↑(List.length GX.1):Int))] then
      bif Nb then
       let pb_83:List (e_.D):=[n5];let CY:=Bn++pb_83;bif kL [decide (List.length Bn+(1:Nat)≤eV)] then
        let pb_85:List (e_.D):=[GX];let Kf:=CY++pb_85;bif kL [decide (List.length CY+(1:Nat)≤eV)] then
         some (.inl (((IntKind.wrap .i64 (IX+1)),(),(),true,(),()),(AE,A1,(),AP),n5,(AL,Cp,(),Ce),(Bl,BR,(),Cf),Kf,A2,BT))
        else none
       else none
      else
       let pb_88:List (e_.D):=[GX];let Kg:=Bn++pb_88;bif kL [decide (List.length Bn+(1:Nat)≤eV)] then
        some (.inl (((IntKind.wrap .i64 (IX+1)),(),(),ES,(),()),(AE,A1,(),AP),n5,(AL,Cp,(),Ce),(Bl,BR,(),Cf),Kg,A2,BT))
       else none
     else none
   else none
  else none
 else
  some (.inr (((),(),(),ES),(Bl,BR,(),Cf),(AE,A1,(),AP),n5,BT,Bn))
def Wh.abd:(Unit×Unit×Unit×Bool)×(Int×Int×Unit×Unit)×(Int×Int×Unit×Unit)×e_.D×List e_.D×List e_.D:=default
def Wh.G8 (xs:ei.D×List Int×List UInt8):Option (((Int×Int×List e_.D×Unit)×Int)×Unit):=
 let cx:=xs.1;let Rm:=xs.2.1;let data_2:=xs.2.2;let Dv:List Int:=[]++Rm;bn (zog KO (cx,Dv,data_2,())) fun dz=>
 bif kL [qu (KO (cx,Dv,data_2,())),decide ((0:Nat)+List.length Rm≤eV)] then
  c9 Jq cx fun nS=>
   let n4:Int:=(↑(List.length dz.1.1):Int);let FG:=n4==0;bif FG then
    c9 Jr cx.2.1 fun z5=>
     bif(dz.1.2.1==z5.1) then
      some ((nS.1,1),())
     else
      some ((nS.1,2),())
   else
    g8 Ge abd (((0,(),(),false,(),()),(cx.1,cx.2.1,(),()),dz.1,(nS.1.1,nS.1.2.1,(),nS.1.2.2.2),(0,0,(),()),[],nS.1.2.2.1,[])) fun Nn=>
     let aei:=Nn.1.2.2.2;let Kh:=Nn.2.2.1.1;let Fs:=Nn.2.2.1.2.1;let HW:=Nn.2.2.1.2.2.2;let LS:=Nn.2.2.2.1;let Dn:=Nn.2.2.2.2.2;bif !aei then
      let pb_103:List (e_.D):=[LS];let AH:=Dn++pb_103;bif kL [decide (List.length Dn+(1:Nat)≤eV)] then
       some (((Kh,Fs,AH,HW),0),())
      else none
     else
      some (((Kh,Fs,Dn,HW),0),())
 else none
def Wh.Mi (xs:nT.D×Int×List UInt8):Option ((((Int×Int×List Int×List Int×Unit)×(Int×Int×List e_.D×Unit)×Unit)×Int)×Unit):=
 let nC:=xs.1;let FO:=xs.2.1;let data_2:=xs.2.2;c9 Ga nC fun r_3=>
  bif !r_3.1 then
   some ((((0,0,[],[],()),(0,0,[],()),()),3),())
  else
   c9 KQ nC fun dz=>
    bn (zog gh (FO,0,9999)) fun gv=>
    let r5:=bif !gv.1 then true else(↑(List.length data_2):Int) != nC.1.2.1;bif kL [qu (gh (FO,0,9999))] then
     bif r5 then
      some ((dz.1,3),())
     else
      bn (zog Fz (nC.1,FO)) fun AM=>
      bn (zog G8 (nC.2.1,AM.1,data_2)) fun A9=>
      bif kL [qu (G8 (nC.2.1,AM.1,data_2)),qu (Fz (nC.1,FO))] then
       some (((dz.1.1,(A9.1.1.1,A9.1.1.2.1,A9.1.1.2.2.1,A9.1.1.2.2.2),dz.1.2.2),A9.1.2),())
      else none
    else none
def Wh.KC (xs:bm.D):Option (List eL.D×Unit):=
 let b8:=xs;bif(b8.2.2.2.2.1==0) then
  some ([],())
 else
  let BI:List (eL.D):=[(5,b8.1,b8.2.1,b8.2.2.2.2.1,0,[],[],())];some (BI,())
def Wh.q53 (xs:bm.D×eL.D):Option ((bm.D×List eL.D)×Unit):=
 let b8:=xs.1;let w_1:=xs.2;bif(b8.2.2.1==1) then
  some ((b8,[]),())
 else
  let AG:=bif(b8.2.2.2.2.1 != w_1.2.2.2.1) then true else b8.2.2.1 != 2;bif AG then
   c9 KD w_1 fun gv=>
    some ((b8,gv.1),())
  else
   c9 q59 (b8.2.2.2.2.2.1) fun nS=>
    c9 Mi (b8.2.2.2.2.2.1,w_1.2.2.2.2.1,w_1.2.2.2.2.2.2.1) fun AM=>
     bif(AM.1.2 != 0) then
      some ((b8,[]),())
     else
      c9 E8 AM.1.1 fun z5=>
       bif z5.1 then
        c9 KC (b8.1,b8.2.1,3,b8.2.2.2.1,b8.2.2.2.2.1,AM.1.1,b8.2.2.2.2.2.2) fun A8=>
         some (((b8.1,b8.2.1,3,b8.2.2.2.1,b8.2.2.2.2.1,AM.1.1,b8.2.2.2.2.2.2),A8.1),())
       else
        c9 q59 AM.1.1 fun BW=>
         bif decide (BW.1>nS.1) then
          let TL:List (eL.D):=[(4,b8.1,b8.2.1,b8.2.2.2.2.1,BW.1,[],[],())];bif kL [qu (q59 AM.1.1)] then
           some (((b8.1,b8.2.1,b8.2.2.1,b8.2.2.2.1,b8.2.2.2.2.1,AM.1.1,b8.2.2.2.2.2.2),TL),())
          else none
         else
          some (((b8.1,b8.2.1,b8.2.2.1,b8.2.2.2.1,b8.2.2.2.2.1,AM.1.1,b8.2.2.2.2.2.2),[]),())
def Wh.q27 (xs:bm.D×eL.D):Option ((bm.D×List eL.D)×Unit):=
 let b8:=xs.1;let w_1:=xs.2;c9 DY b8 fun r_2=>
  bif !r_2.1 then
   some (((0,0,0,[],0,((0,0,[],[],()),(0,0,[],()),()),()),[]),())
  else
   c9 F4 b8 fun r_3=>
    bn (zog EG w_1) fun dz=>
    let n4:=bif bif !dz.1 then true else w_1.2.1 != b8.1 then true else decide (w_1.2.2.1>b8.2.1);bif kL [qu (EG w_1)] then
     bif n4 then
      some ((r_3.1,[]),())
     else
      let Ba:=bif decide (w_1.2.2.1<b8.2.1) then true else b8.2.2.1==0;bif Ba then
       bif(w_1.1==3) then
        c9 KD w_1 fun BW=>
         some ((r_3.1,BW.1),())
       else
        some ((r_3.1,[]),())
      else
       bif(w_1.1==2) then
        c9 q52 (r_3.1,w_1) fun Dx=>
         some ((Dx.1,[]),())
       else
        bif(w_1.1==3) then
         c9 q53 (r_3.1,w_1) fun E9=>
          some (E9.1,())
        else
         bif(w_1.1==6) then
          let iL:=bif bif(b8.2.2.1==1) then true else b8.2.2.1==2 then w_1.2.2.2.1==b8.2.2.2.2.1 else false;bif iL then
           some (((r_3.1.1,r_3.1.2.1,4,r_3.1.2.2.2),[]),())
          else
           some ((r_3.1,[]),())
         else
          some ((r_3.1,[]),())
    else none
def Wh.q12 (x:(Unit×Unit×Unit×Unit)×((Bool×Int×List UInt8×(Int×Unit×Unit)×(Unit×Int×Unit)×Unit×Unit×Unit)×Unit×Unit×Unit×Unit)×(b7.D×Unit×Unit×Unit×Unit)×cp.D×di.D×List an.D×List b9.D×List cw.D×List cg.D×List bm.D×List cp.D×List an.D×List bm.D×List cp.D×List an.D):Option ((Unit×Unit×Unit)×((Bool×Int×List UInt8×(Int×Unit×Unit)×(Unit×Int×Unit)×Unit×Unit×Unit)×Unit×Unit×Unit×Unit)×(b7.D×Unit×Unit×Unit×Unit)×cp.D×List an.D×List b9.D×List cw.D×List cg.D×List bm.D×List cp.D×List an.D×List bm.D×List cp.D×List an.D):=
 let Au:=x.2.1.1.1;let A0:=x.2.1.1.2.1;let th:=x.2.1.1.2.2.1;let m6:=x.2.1.1.2.2.2.1.1;let AD:=x.2.1.1.2.2.2.1.2.2;let Bh:=x.2.1.1.2.2.2.2.1.2;let ng:=x.2.1.1.2.2.2.2.2.2.2;let AI:=x.2.1.2.2.2.2;let AJ:=x.2.2.1.1;let xd:=x.2.2.1.2.2.2.2;let wm:=x.2.2.2.1;let nE:=x.2.2.2.2.1;let w7:=x.2.2.2.2.2.1;let s9:=x.2.2.2.2.2.2.1;let zC:=x.2.2.2.2.2.2.2.1;let AK:=x.2.2.2.2.2.2.2.2.1;let s_:=x.2.2.2.2.2.2.2.2.2.1;let Av:=x.2.2.2.2.2.2.2.2.2.2.1;let nP:=x.2.2.2.2.2.2.2.2.2.2.2.1;let xe:=x.2.2.2.2.2.2.2.2.2.2.2.2.1;let tn:=x.2.2.2.2.2.2.2.2.2.2.2.2.2.1;let AE:=x.2.2.2.2.2.2.2.2.2.2.2.2.2.2;bif(!nE.2.2.2.2.2.1) then
  let QD:List (cp.D):=[]++List.take (Int.toNat (nE.2.1-0)) (List.drop (Int.toNat 0) tn);let pb_56:List (cp.D):=QD++List.take (Int.toNat ((↑(List.length tn):Int)-IntKind.wrap .i64 (nE.2.1+1))) (List.drop (Int.toNat (IntKind.wrap .i64 (nE.2.1+1))) tn);let v_57:Nat:=Int.toNat (nE.2.1-0);let M_:=IntKind.wrap .i64 (nE.2.1+1);bif kL [decide (List.length QD+List.length (List.take (Int.toNat ((↑(List.length tn):Int)-M_)) (List.drop (Int.toNat M_) tn))≤eV),decide (0≤M_),decide (M_≤(↑(List.length tn):Int)),decide ((↑(List.length tn):Int)≤(↑(List.length tn):Int)),decide ((0:Nat)+List.length (List.take v_57 (List.drop (Int.toNat 0) tn))≤eV),true,decide (0≤nE.2.1),decide (nE.2.1≤(↑(List.length tn):Int))] then
   some ((((),(),()),((Au,A0,th,(m6,(),AD),((),Bh),(),(),ng),(),(),(),AI),(AJ,(),(),(),xd),wm,w7,s9,zC,AK,s_,Av,nP,xe,pb_56,AE))
  else none
 else
  some ((((),(),()),((Au,A0,th,(m6,(),AD),((),Bh),(),(),ng),(),(),(),AI),(AJ,(),(),(),xd),wm,w7,s9,zC,AK,s_,Av,nP,xe,tn,AE))
def Wh.QL (x:((Unit)×(Unit)×(Unit)×(Unit))×((((Bool)×((Int)×((List UInt8)×(((Int)×((Unit)×(Unit)))×(((Unit)×((Int)×(Unit)))×((Unit)×((Unit)×(Unit))))))))×((Unit)×((Unit)×((Unit)×(Unit)))))×((b7.D)×((Unit)×((Unit)×((Unit)×(Unit)))))×(cp.D)×(di.D)×(List (an.D))×(List (b9.D))×(List (cw.D))×(List (cg.D))×(List (bm.D))×(List (cp.D))×(List (an.D))×(List (bm.D))×(List (cp.D))×(List (an.D)))):(((Unit)×(Unit)×(Unit))×((((Bool)×((Int)×((List UInt8)×(((Int)×((Unit)×(Unit)))×(((Unit)×((Int)×(Unit)))×((Unit)×((Unit)×(Unit))))))))×((Unit)×((Unit)×((Unit)×(Unit)))))×((b7.D)×((Unit)×((Unit)×((Unit)×(Unit)))))×(cp.D)×(List (an.D))×(List (b9.D))×(List (cw.D))×(List (cg.D))×(List (bm.D))×(List (cp.D))×(List (an.D))×(List (bm.D))×(List (cp.D))×(List (an.D)))):=match q12 x with | some y=>y|none=>(default,(default,default,default,default,default,default,default,default,default,default,default,default,default))
def Wh.q12_v (x:((Unit)×(Unit)×(Unit)×(Unit))×((((Bool)×((Int)×((List UInt8)×(((Int)×((Unit)×(Unit)))×(((Unit)×((Int)×(Unit)))×((Unit)×((Unit)×(Unit))))))))×((Unit)×((Unit)×((Unit)×(Unit)))))×((b7.D)×((Unit)×((Unit)×((Unit)×(Unit)))))×(cp.D)×(di.D)×(List (an.D))×(List (b9.D))×(List (cw.D))×(List (cg.D))×(List (bm.D))×(List (cp.D))×(List (an.D))×(List (bm.D))×(List (cp.D))×(List (an.D))))(y:(((Unit)×(Unit)×(Unit))×((((Bool)×((Int)×((List UInt8)×(((Int)×((Unit)×(Unit)))×(((Unit)×((Int)×(Unit)))×((Unit)×((Unit)×(Unit))))))))×((Unit)×((Unit)×((Unit)×(Unit)))))×((b7.D)×((Unit)×((Unit)×((Unit)×(Unit)))))×(cp.D)×(List (an.D))×(List (b9.D))×(List (cw.D))×(List (cg.D))×(List (bm.D))×(List (cp.D))×(List (an.D))×(List (bm.D))×(List (cp.D))×(List (an.D)))))(h:q12 x=some y):QL x=y:=by unfold QL;rw[h]
def Wh.q75 (xs:(b7.D×List bm.D×List cp.D×List an.D×Unit)×di.D):Option ((b7.D×List bm.D×List cp.D×List an.D×Unit)×Unit):=
 let w_0:=xs.1;let e_1:=xs.2;let BI:=List.getD (w_0.2.2.1) (Int.toNat e_1.2.1) (0,[],false,());bif kL [decide (0≤e_1.2.1),decide (e_1.2.1<(↑(List.length (w_0.2.2.1)):Int))] then
  CC q12 QL ((((),(),(),()),((false,0,[],(0,(),()),((),0,()),(),(),()),(),(),(),()),(w_0.1,(),(),(),w_0.2.2.2.2),BI,e_1,[],[],[],[],[],[],[],w_0.2.1,w_0.2.2.1,w_0.2.2.2.1)) fun Nm=>
   let Dq:=Nm.2.2.1.1;let Bx:=Nm.2.2.1.2.2.2.2;let A6:=Nm.2.2.2.1;let Ed:=Nm.2.2.2.2.2.2.2.2.2.2.2.1;let GS:=Nm.2.2.2.2.2.2.2.2.2.2.2.2.1;let CX:=Nm.2.2.2.2.2.2.2.2.2.2.2.2.2;c9 q72 A6.2.1 fun Rj=>
    bif(!Rj.1.2) then
     some ((Dq,Ed,GS,CX,Bx),())
    else
     bif(A6.1==9) then
      c9 q32 (Dq,Rj.1.1) fun MR=>
       c9 G1 ((MR.1.1,Ed,GS,CX,Bx),-1,MR.1.2) fun MS=>
        some (MS.1,())
     else
      bn (zog q27 (List.getD Ed (Int.toNat A6.1) (0,0,0,[],0,((0,0,[],[],()),(0,0,[],()),()),()),Rj.1.1)) fun r_88=>
      let Pd:Nat:=Int.toNat A6.1;bif kL [qu (q27 (List.getD Ed Pd (0,0,0,[],0,((0,0,[],[],()),(0,0,[],()),()),()),Rj.1.1)),decide (0≤A6.1),decide (A6.1<(↑(List.length Ed):Int))] then
       let Tu:=List.set Ed Pd r_88.1.1;bif kL [decide (0≤A6.1),decide (A6.1<(↑(List.length Ed):Int))] then
        c9 G1 ((Dq,Tu,GS,CX,Bx),9,r_88.1.2) fun MT=>
         some (MT.1,())
       else none
      else none
 else none
def Wh.q80 (xs:cp.D×Int):Option (cp.D×Unit):=
 let fy:=xs.1;let n_1:=xs.2;let BI:List Int:=bytesOf fy.2.1;bif kL [decide (List.length fy.2.1≤eV)] then
  let k_5:Int:=Int.tmod (Int.tmod n_1 4096) (↑(List.length BI):Int);bif kL [(↑(List.length BI):Int) != 0,true] then
   let Jh:=List.set BI (Int.toNat k_5) (pZ Go.BinOp.xor Go.IntKind.u8 (List.getD BI (Int.toNat k_5) 0) (IntKind.wrap .u8 (IntKind.wrap .i64 (1+Int.tmod (IntKind.wrap .i64 (Int.tdiv n_1 4096)) 255))));bif kL [decide (0≤k_5),decide (k_5<(↑(List.length BI):Int)),true,true,decide (0≤k_5),decide (k_5<(↑(List.length BI):Int))] then
    some ((fy.1,tv Jh,true,()),())
   else none
  else none
 else none
def Wh.q79 (xs:(b7.D×List bm.D×List cp.D×List an.D×Unit)×di.D):Option (((b7.D×List bm.D×List cp.D×List an.D×Unit)×Bool)×Unit):=
 let w_0:=xs.1;let e_1:=xs.2;let v_2:Int:=(↑(List.length (w_0.2.2.1)):Int);c9 gh (e_1.2.1,0,IntKind.wrap .i64 (v_2-1)) fun gv=>
  bif !gv.1 then
   some ((w_0,false),())
  else
   bif(e_1.1==8) then
    c9 q75 (w_0,e_1) fun AM=>
     some ((AM.1,true),())
   else
    bif(e_1.1==9) then
     let Ji:List (cp.D):=[]++List.take (Int.toNat (e_1.2.1-0)) (List.drop (Int.toNat 0) (w_0.2.2.1));let TJ:List (cp.D):=Ji++List.take (Int.toNat (v_2-IntKind.wrap .i64 (e_1.2.1+1))) (List.drop (Int.toNat (IntKind.wrap .i64 (e_1.2.1+1))) (w_0.2.2.1));let B7:Nat:=Int.toNat (e_1.2.1-0);let A3:=IntKind.wrap .i64 (e_1.2.1+1);bif kL [decide (List.length Ji+List.length (List.take (Int.toNat (v_2-A3)) (List.drop (Int.toNat A3) (w_0.2.2.1)))≤eV),decide (0≤A3),decide (A3≤v_2),decide (v_2≤v_2),decide ((0:Nat)+List.length (List.take B7 (List.drop (Int.toNat 0) (w_0.2.2.1)))≤eV),true,decide (0≤e_1.2.1),decide (e_1.2.1≤v_2)] then
      some (((w_0.1,w_0.2.1,TJ,w_0.2.2.2),true),())
     else none
    else
     let r_:Nat:=Int.toNat e_1.2.1;let n_:=bif bif(((List.getD (w_0.2.2.1) r_ (0,[],false,())).2).2).1 then true else((List.getD (w_0.2.2.1) r_ (0,[],false,())).2).1 == [] then true else decide (e_1.2.2.1<0);bif kL [!!(((List.getD (w_0.2.2.1) r_ (0,[],false,())).2).2).1 || decide (0≤e_1.2.1),!!(((List.getD (w_0.2.2.1) r_ (0,[],false,())).2).2).1 || decide (e_1.2.1<v_2),decide (0≤e_1.2.1),decide (e_1.2.1<v_2)] then
      bif n_ then
       some ((w_0,false),())
      else
       bn (zog q80 (List.getD (w_0.2.2.1) r_ (0,[],false,()),e_1.2.2.1)) fun CL=>
       let pb_21:=List.set (w_0.2.2.1) r_ CL.1;bif kL [decide (0≤e_1.2.1),decide (e_1.2.1<v_2),qu (q80 (List.getD (w_0.2.2.1) r_ (0,[],false,()),e_1.2.2.1)),decide (0≤e_1.2.1),decide (e_1.2.1<v_2)] then
        some (((w_0.1,w_0.2.1,pb_21,w_0.2.2.2),true),())
       else none
     else none
def Wh.KB (xs:bm.D):Option (List eL.D×Unit):=
 let b8:=xs;let Eh:List (eL.D):=[(1,b8.1,b8.2.1,b8.2.2.2.2.1,0,b8.2.2.2.1,[],())];some (Eh,())
def Wh.He (xs:bm.D×List UInt8):Option (((Int×Int×Int×List UInt8×Int×((Int×Int×List Int×List Int×Unit)×(Int×Int×List e_.D×Unit)×Unit)×Unit)×List eL.D)×Unit):=
 let b8:=xs.1;let CZ:=xs.2;c9 DY b8 fun r_2=>
  bif !r_2.1 then
   some (((0,0,0,[],0,((0,0,[],[],()),(0,0,[],()),()),()),[]),())
  else
   let AR:=decide (b8.2.1≥99999);bn (zog DX CZ) fun dz=>
   let oc:=bif AR then true else !dz.1;bif kL [!!AR || qu (DX CZ)] then
    bif oc then
     c9 F4 b8 fun nS=>
      some ((nS.1,[]),())
    else
     let Ko:=IntKind.wrap .i64 (b8.2.1+1);c9 KB (b8.1,Ko,1,CZ,0,((0,0,[],[],()),(0,0,[],()),()),()) fun A9=>
      some (((b8.1,Ko,1,CZ,0,((0,0,[],[],()),(0,0,[],()),()),()),A9.1),())
   else none
def Wh.q11 (xs:bm.D):Option (((Int×Int×Int×List UInt8×Int×((Int×Int×List Int×List Int×Unit)×(Int×Int×List e_.D×Unit)×Unit)×Unit)×List eL.D)×Unit):=
 let b8:=xs;c9 DY b8 fun r_1=>
  bif !r_1.1 then
   some (((0,0,0,[],0,((0,0,[],[],()),(0,0,[],()),()),()),[]),())
  else
   c9 F4 b8 fun r_2=>
    let r5:=bif bif decide (b8.2.1≥99999) then true else b8.2.2.2.2.1==0 then true else b8.2.2.1==3;bif r5 then
     some ((r_2.1,[]),())
    else
     let Ko:=IntKind.wrap .i64 (b8.2.1+1);c9 KB (r_2.1.1,Ko,1,r_2.1.2.2.2) fun A9=>
      some (((r_2.1.1,Ko,1,r_2.1.2.2.2),A9.1),())
def Wh.q29 (xs:bm.D):Option (((Int×Int×Int×List UInt8×Int×((Int×Int×List Int×List Int×Unit)×(Int×Int×List e_.D×Unit)×Unit)×Unit)×List eL.D)×Unit):=
 let b8:=xs;c9 DY b8 fun r_1=>
  bif !r_1.1 then
   some (((0,0,0,[],0,((0,0,[],[],()),(0,0,[],()),()),()),[]),())
  else
   c9 KC b8 fun r_2=>
    some (((b8.1,b8.2.1,0,[],0,((0,0,[],[],()),(0,0,[],()),()),()),r_2.1),())
def Wh.q30 (xs:bm.D):Option (List eL.D×Unit):=
 let b8:=xs;bn (zog DY b8) fun r_1=>
 let v_2:=bif !r_1.1 then true else bif b8.2.2.1 != 1 then b8.2.2.1 != 2 else false;bif kL [qu (DY b8)] then
  bif v_2 then
   some ([],())
  else
   c9 KB b8 fun r_3=>
    some (r_3.1,())
 else none
def Wh.q7 (x:(Unit×Unit×Unit×Unit×Unit)×((Bool×Int×List UInt8×(Int×Unit×Unit)×(Unit×Int×Unit)×Unit×Unit×Unit)×Unit×Unit×Unit×Unit)×(b7.D×Unit×Unit×Unit×Unit)×di.D×bm.D×bm.D×List an.D×List b9.D×List cw.D×List cg.D×List bm.D×List cp.D×List an.D×List bm.D×List cp.D×List an.D):Option ((Unit×Unit×Unit×Unit×Unit×Unit)×((Bool×Int×List UInt8×(Int×Unit×Unit)×(Unit×Int×Unit)×Unit×Unit×Unit)×Unit×Unit×Unit×Unit)×List eL.D×(b7.D×Unit×Unit×Unit×Unit)×di.D×bm.D×(Int×Int×Int×List UInt8×Int×((Int×Int×Unit×Unit×Unit)×(Int×Int×Unit×Unit)×Unit)×Unit)×List an.D×List b9.D×List cw.D×List cg.D×List bm.D×List cp.D×List an.D×List bm.D×List cp.D×List an.D×List Int×List Int×List e_.D⊕(Unit×Unit×Unit×Unit×Unit×Unit)×((Bool×Int×List UInt8×(Int×Unit×Unit)×(Unit×Int×Unit)×Unit×Unit×Unit)×Unit×Unit×Unit×Unit)×List eL.D×(b7.D×Unit×Unit×Unit×Unit)×di.D×bm.D×bm.D×List an.D×List b9.D×List cw.D×List cg.D×List bm.D×List cp.D×List an.D×List bm.D×List cp.D×List an.D):=
 let m6:=x.2.1.1.1;let AD:=x.2.1.1.2.1;let Bh:=x.2.1.1.2.2.1;let ng:=x.2.1.1.2.2.2.1.1;let AI:=x.2.1.1.2.2.2.1.2.2;let AJ:=x.2.1.1.2.2.2.2.1.2;let xd:=x.2.1.1.2.2.2.2.2.2.2;let wm:=x.2.1.2.2.2.2;let nE:=x.2.2.1.1;let w7:=x.2.2.1.2.2.2.2;let s9:=x.2.2.2.1;let zC:=x.2.2.2.2.1;let AK:=x.2.2.2.2.2.1;let s_:=x.2.2.2.2.2.2.1;let Av:=x.2.2.2.2.2.2.2.1;let nP:=x.2.2.2.2.2.2.2.2.1;let xe:=x.2.2.2.2.2.2.2.2.2.1;let tn:=x.2.2.2.2.2.2.2.2.2.2.1;let AE:=x.2.2.2.2.2.2.2.2.2.2.2.1;let A1:=x.2.2.2.2.2.2.2.2.2.2.2.2.1;let AP:=x.2.2.2.2.2.2.2.2.2.2.2.2.2.1;let n5:=x.2.2.2.2.2.2.2.2.2.2.2.2.2.2.1;let AL:=x.2.2.2.2.2.2.2.2.2.2.2.2.2.2.2;bif(s9.1==3) then
  c9 He (zC,s9.2.2.2.1) fun DM=>
   some (.inl ((((),(),(),(),(),()),((m6,AD,Bh,(ng,(),AI),((),AJ),(),(),xd),(),(),(),wm),DM.1.2,(nE,(),(),(),w7),s9,zC,(DM.1.1.1,DM.1.1.2.1,DM.1.1.2.2.1,DM.1.1.2.2.2.1,DM.1.1.2.2.2.2.1,((DM.1.1.2.2.2.2.2.1.1.1,DM.1.1.2.2.2.2.2.1.1.2.1,(),(),DM.1.1.2.2.2.2.2.1.1.2.2.2.2),(DM.1.1.2.2.2.2.2.1.2.1.1,DM.1.1.2.2.2.2.2.1.2.1.2.1,(),DM.1.1.2.2.2.2.2.1.2.1.2.2.2),DM.1.1.2.2.2.2.2.1.2.2),DM.1.1.2.2.2.2.2.2),s_,Av,nP,xe,tn,AE,A1,AP,n5,AL,DM.1.1.2.2.2.2.2.1.1.2.2.1,DM.1.1.2.2.2.2.2.1.1.2.2.2.1,DM.1.1.2.2.2.2.2.1.2.1.2.2.1)))
 else
  bif(s9.1==4) then
   c9 q11 zC fun C3=>
    some (.inl ((((),(),(),(),(),()),((m6,AD,Bh,(ng,(),AI),((),AJ),(),(),xd),(),(),(),wm),C3.1.2,(nE,(),(),(),w7),s9,zC,(C3.1.1.1,C3.1.1.2.1,C3.1.1.2.2.1,C3.1.1.2.2.2.1,C3.1.1.2.2.2.2.1,((C3.1.1.2.2.2.2.2.1.1.1,C3.1.1.2.2.2.2.2.1.1.2.1,(),(),C3.1.1.2.2.2.2.2.1.1.2.2.2.2),(C3.1.1.2.2.2.2.2.1.2.1.1,C3.1.1.2.2.2.2.2.1.2.1.2.1,(),C3.1.1.2.2.2.2.2.1.2.1.2.2.2),C3.1.1.2.2.2.2.2.1.2.2),C3.1.1.2.2.2.2.2.2),s_,Av,nP,xe,tn,AE,A1,AP,n5,AL,C3.1.1.2.2.2.2.2.1.1.2.2.1,C3.1.1.2.2.2.2.2.1.1.2.2.2.1,C3.1.1.2.2.2.2.2.1.2.1.2.2.1)))
  else
   bif(s9.1==5) then
    c9 q29 zC fun DN=>
     some (.inl ((((),(),(),(),(),()),((m6,AD,Bh,(ng,(),AI),((),AJ),(),(),xd),(),(),(),wm),DN.1.2,(nE,(),(),(),w7),s9,zC,(DN.1.1.1,DN.1.1.2.1,DN.1.1.2.2.1,DN.1.1.2.2.2.1,DN.1.1.2.2.2.2.1,((DN.1.1.2.2.2.2.2.1.1.1,DN.1.1.2.2.2.2.2.1.1.2.1,(),(),DN.1.1.2.2.2.2.2.1.1.2.2.2.2),(DN.1.1.2.2.2.2.2.1.2.1.1,DN.1.1.2.2.2.2.2.1.2.1.2.1,(),DN.1.1.2.2.2.2.2.1.2.1.2.2.2),DN.1.1.2.2.2.2.2.1.2.2),DN.1.1.2.2.2.2.2.2),s_,Av,nP,xe,tn,AE,A1,AP,n5,AL,DN.1.1.2.2.2.2.2.1.1.2.2.1,DN.1.1.2.2.2.2.2.1.1.2.2.2.1,DN.1.1.2.2.2.2.2.1.2.1.2.2.1)))
   else
    c9 q30 zC fun r_64=>
     some (.inr ((((),(),(),(),(),()),((m6,AD,Bh,(ng,(),AI),((),AJ),(),(),xd),(),(),(),wm),r_64.1,(nE,(),(),(),w7),s9,zC,AK,s_,Av,nP,xe,tn,AE,A1,AP,n5,AL)))
def Wh.q7' (x:((Unit)×(Unit)×(Unit)×(Unit)×(Unit))×((((Bool)×((Int)×((List UInt8)×(((Int)×((Unit)×(Unit)))×(((Unit)×((Int)×(Unit)))×((Unit)×((Unit)×(Unit))))))))×((Unit)×((Unit)×((Unit)×(Unit)))))×((b7.D)×((Unit)×((Unit)×((Unit)×(Unit)))))×(di.D)×(bm.D)×(bm.D)×(List (an.D))×(List (b9.D))×(List (cw.D))×(List (cg.D))×(List (bm.D))×(List (cp.D))×(List (an.D))×(List (bm.D))×(List (cp.D))×(List (an.D)))):(((Unit)×(Unit)×(Unit)×(Unit)×(Unit)×(Unit))×((((Bool)×((Int)×((List UInt8)×(((Int)×((Unit)×(Unit)))×(((Unit)×((Int)×(Unit)))×((Unit)×((Unit)×(Unit))))))))×((Unit)×((Unit)×((Unit)×(Unit)))))×(List (eL.D))×((b7.D)×((Unit)×((Unit)×((Unit)×(Unit)))))×(di.D)×(bm.D)×((Int)×((Int)×((Int)×((List UInt8)×((Int)×((((Int)×((Int)×((Unit)×((Unit)×(Unit)))))×(((Int)×((Int)×((Unit)×(Unit))))×(Unit)))×(Unit)))))))×(List (an.D))×(List (b9.D))×(List (cw.D))×(List (cg.D))×(List (bm.D))×(List (cp.D))×(List (an.D))×(List (bm.D))×(List (cp.D))×(List (an.D))×(List (Int))×(List (Int))×(List (e_.D))))⊕(((Unit)×(Unit)×(Unit)×(Unit)×(Unit)×(Unit))×((((Bool)×((Int)×((List UInt8)×(((Int)×((Unit)×(Unit)))×(((Unit)×((Int)×(Unit)))×((Unit)×((Unit)×(Unit))))))))×((Unit)×((Unit)×((Unit)×(Unit)))))×(List (eL.D))×((b7.D)×((Unit)×((Unit)×((Unit)×(Unit)))))×(di.D)×(bm.D)×(bm.D)×(List (an.D))×(List (b9.D))×(List (cw.D))×(List (cg.D))×(List (bm.D))×(List (cp.D))×(List (an.D))×(List (bm.D))×(List (cp.D))×(List (an.D)))):=match Wh.q7 x with | some y=>y|none=>.inl (default,(default,default,default,default,default,default,default,default,default,default,default,default,default,default,default,default,default,default,default))
def Wh.q7_v (x:((Unit)×(Unit)×(Unit)×(Unit)×(Unit))×((((Bool)×((Int)×((List UInt8)×(((Int)×((Unit)×(Unit)))×(((Unit)×((Int)×(Unit)))×((Unit)×((Unit)×(Unit))))))))×((Unit)×((Unit)×((Unit)×(Unit)))))×((b7.D)×((Unit)×((Unit)×((Unit)×(Unit)))))×(di.D)×(bm.D)×(bm.D)×(List (an.D))×(List (b9.D))×(List (cw.D))×(List (cg.D))×(List (bm.D))×(List (cp.D))×(List (an.D))×(List (bm.D))×(List (cp.D))×(List (an.D))))(y:(((Unit)×(Unit)×(Unit)×(Unit)×(Unit)×(Unit))×((((Bool)×((Int)×((List UInt8)×(((Int)×((Unit)×(Unit)))×(((Unit)×((Int)×(Unit)))×((Unit)×((Unit)×(Unit))))))))×((Unit)×((Unit)×((Unit)×(Unit)))))×(List (eL.D))×((b7.D)×((Unit)×((Unit)×((Unit)×(Unit)))))×(di.D)×(bm.D)×((Int)×((Int)×((Int)×((List UInt8)×((Int)×((((Int)×((Int)×((Unit)×((Unit)×(Unit)))))×(((Int)×((Int)×((Unit)×(Unit))))×(Unit)))×(Unit)))))))×(List (an.D))×(List (b9.D))×(List (cw.D))×(List (cg.D))×(List (bm.D))×(List (cp.D))×(List (an.D))×(List (bm.D))×(List (cp.D))×(List (an.D))×(List (Int))×(List (Int))×(List (e_.D))))⊕(((Unit)×(Unit)×(Unit)×(Unit)×(Unit)×(Unit))×((((Bool)×((Int)×((List UInt8)×(((Int)×((Unit)×(Unit)))×(((Unit)×((Int)×(Unit)))×((Unit)×((Unit)×(Unit))))))))×((Unit)×((Unit)×((Unit)×(Unit)))))×(List (eL.D))×((b7.D)×((Unit)×((Unit)×((Unit)×(Unit)))))×(di.D)×(bm.D)×(bm.D)×(List (an.D))×(List (b9.D))×(List (cw.D))×(List (cg.D))×(List (bm.D))×(List (cp.D))×(List (an.D))×(List (bm.D))×(List (cp.D))×(List (an.D)))))(h:Wh.q7 x=some y):q7' x=y:=by unfold q7';rw[h]
def Wh.q54 (xs:(b7.D×List bm.D×List cp.D×List an.D×Unit)×di.D):Option (((b7.D×List bm.D×List cp.D×List an.D×Unit)×Bool)×Unit):=
 let w_0:=xs.1;let e_1:=xs.2;c9 gh (e_1.2.1,0,3) fun r_2=>
  bif !r_2.1 then
   some ((w_0,false),())
  else
   let Dv:=List.getD w_0.2.1 (Int.toNat e_1.2.1) (0,0,0,[],0,((0,0,[],[],()),(0,0,[],()),()),());bif kL [decide (0≤e_1.2.1),decide (e_1.2.1<(↑(List.length w_0.2.1):Int))] then
    CC Wh.q7 q7' ((((),(),(),(),()),((false,0,[],(0,(),()),((),0,()),(),(),()),(),(),(),()),(w_0.1,(),(),(),w_0.2.2.2.2),e_1,Dv,Dv,[],[],[],[],[],[],[],w_0.2.1,w_0.2.2.1,w_0.2.2.2.1)) fun q_=>
     sumC q_ (fun Cm=>
      let CV:=Cm.2.2.1;let By:=Cm.2.2.2.1.1;let EA:=Cm.2.2.2.1.2.2.2.2;let EX:=Cm.2.2.2.2.1;let Ed:=Cm.2.2.2.2.2.1;let GS:=Cm.2.2.2.2.2.2.1.1;let CX:=Cm.2.2.2.2.2.2.1.2.1;let DH:=Cm.2.2.2.2.2.2.1.2.2.1;let CY:=Cm.2.2.2.2.2.2.1.2.2.2.1;let Dr:=Cm.2.2.2.2.2.2.1.2.2.2.2.1;let Kf:=Cm.2.2.2.2.2.2.1.2.2.2.2.2.1.1.1;let Oi:=Cm.2.2.2.2.2.2.1.2.2.2.2.2.1.1.2.1;let Oj:=Cm.2.2.2.2.2.2.1.2.2.2.2.2.1.1.2.2.2.2;let Kg:=Cm.2.2.2.2.2.2.1.2.2.2.2.2.1.2.1.1;let Tt:=Cm.2.2.2.2.2.2.1.2.2.2.2.2.1.2.1.2.1;let Tu:=Cm.2.2.2.2.2.2.1.2.2.2.2.2.1.2.1.2.2.2;let LX:=Cm.2.2.2.2.2.2.1.2.2.2.2.2.1.2.2;let LY:=Cm.2.2.2.2.2.2.1.2.2.2.2.2.2;let J9:=Cm.2.2.2.2.2.2.2.2.2.2.2.2.2.2.1;let Dn:=Cm.2.2.2.2.2.2.2.2.2.2.2.2.2.2.2.1;let HQ:=Cm.2.2.2.2.2.2.2.2.2.2.2.2.2.2.2.2.1;let AH:=Cm.2.2.2.2.2.2.2.2.2.2.2.2.2.2.2.2.2.1;let Ev:=Cm.2.2.2.2.2.2.2.2.2.2.2.2.2.2.2.2.2.2.1;let Ew:=Cm.2.2.2.2.2.2.2.2.2.2.2.2.2.2.2.2.2.2.2;let Fq:=List.set J9 (Int.toNat EX.2.1) (GS,CX,DH,CY,Dr,((Kf,Oi,AH,Ev,Oj),(Kg,Tt,Ew,Tu),LX),LY);bif kL [decide (0≤EX.2.1),decide (EX.2.1<(↑(List.length J9):Int))] then
       let ok_113:=bif bif decide (CX>Ed.2.1) then true else bif EX.1==5 then Ed.2.2.1 != 0 else false then true else bif EX.1==7 then decide ((↑(List.length CV):Int)>0) else false;c9 G1 ((By,Fq,Dn,HQ,EA),9,CV) fun r_114=>
        some ((r_114.1,ok_113),())
      else none) (fun IJ=>
      let GQ:=IJ.2.2.1;let Dp:=IJ.2.2.2.1.1;let HU:=IJ.2.2.2.1.2.2.2.2;let GR:=IJ.2.2.2.2.1;let Ja:=IJ.2.2.2.2.2.1;let N3:=IJ.2.2.2.2.2.2.1;let Qn:=IJ.2.2.2.2.2.2.2.2.2.2.2.2.2.2.1;let Ti:=IJ.2.2.2.2.2.2.2.2.2.2.2.2.2.2.2.1;let Tj:=IJ.2.2.2.2.2.2.2.2.2.2.2.2.2.2.2.2;let Tk:=List.set Qn (Int.toNat GR.2.1) N3;bif kL [decide (0≤GR.2.1),decide (GR.2.1<(↑(List.length Qn):Int))] then
       let ok_145:=bif bif decide (N3.2.1>Ja.2.1) then true else bif GR.1==5 then Ja.2.2.1 != 0 else false then true else bif GR.1==7 then decide ((↑(List.length GQ):Int)>0) else false;c9 G1 ((Dp,Tk,Ti,Tj,HU),9,GQ) fun r_146=>
        some ((r_146.1,ok_145),())
      else none)
   else none
def Wh.KU (xs:List UInt8):Option (Bool×Unit):=
 let Bc:=xs;c9 Fw Bc fun r_1=>
  let AG:=bif(r_1.1.2==(↑(List.length Bc):Int)) then decide (r_1.1.2≤9000) else false;some (AG,())
def Wh.KM (xs:List UInt8×List UInt8):Option ((List UInt8×Bool)×Unit):=
 let Bc:=xs.1;let C4:=xs.2;c9 Fw Bc fun r_2=>
  bn (zog KU Bc) fun r_3=>
  bn (zog gh ((↑(List.length C4):Int),1,500)) fun dz=>
  let oc:=bif !r_3.1 then true else !dz.1;bif kL [!!!r_3.1 || qu (gh ((↑(List.length C4):Int),1,500)),qu (KU Bc)] then
   bif oc then
    some (([],false),())
   else
    let r5:Int:=(↑(List.length r_2.1.1):Int);bn (zog Ih (r5,C4)) fun A8=>
    let x_11:List UInt8:=Bc++A8.1;bif kL [decide (List.length Bc+List.length (A8.1)≤eV),qu (Ih (r5,C4))] then
     bif decide ((↑(List.length x_11):Int)>9000) then
      some (([],false),())
     else
      some ((x_11,true),())
    else none
  else none
def Wh.F8 (xs:b7.D×List UInt8):Option ((b7.D×Int)×Unit):=
 let cx:=xs.1;let C4:=xs.2;c9 KM (cx.2.2.1,C4) fun r_2=>
  bif(!r_2.1.2) then
   some ((cx,4),())
  else
   c9 F_ (cx.2.2.2.1,C4) fun dz=>
    bif(!dz.1.2) then
     some ((cx,1),())
    else
     some (((cx.1,cx.2.1,r_2.1.1,dz.1.1,cx.2.2.2.2),0),())
def Wh.q47 (xs:b7.D×Int×List UInt8×List UInt8):Option ((b7.D×Int)×Unit):=
 let cx:=xs.1;let A5:=xs.2.1;let Dd:=xs.2.2.1;let Lk:=xs.2.2.2;c9 Gi cx fun dz=>
  bif !dz.1 then
   some (((false,0,[],(0,[],()),([],0,()),[],[],()),1),())
  else
   c9 Ft cx fun gv=>
    bif(!cx.1) then
     some ((gv.1,1),())
    else
     c9 F7 (cx.2.2.2.1,A5,Dd,Lk) fun AM=>
      bif(AM.1.2 != 0) then
       some ((gv.1,AM.1.2),())
      else
       bn (zog E5 (A5,Dd,Lk)) fun z5=>
       bn (zog F8 (gv.1,z5.1)) fun A8=>
       bif kL [qu (F8 (gv.1,z5.1)),qu (E5 (A5,Dd,Lk))] then
        some ((A8.1.1,A8.1.2),())
       else none
abbrev Wh.ZV:Type:=(Int×Unit×Unit)×(b7.D×Unit×Unit×Unit×Unit)×((Bool×Int×List UInt8×(Int×Unit×Unit)×(Unit×Int×Unit)×Unit×Unit×Unit)×Unit×Unit×Unit×Unit)×List bm.D×List cp.D×List an.D×List an.D×List b9.D×List cw.D×List cg.D×List bm.D×List cp.D×List an.D
abbrev Wh.ahE:Type:=(Unit×Unit)×((Bool×Int×List UInt8×(Int×Unit×Unit)×(Unit×Int×Unit)×Unit×Unit×Unit)×Unit×Unit×Unit×Unit)×(b7.D×Unit×Unit×Unit×Unit)×List an.D×List b9.D×List cw.D×List cg.D×List bm.D×List cp.D×List an.D×List bm.D×List cp.D×List an.D
def Wh.QK (x:ZV):Option (ZV⊕ahE):=
 let IW:=x.1.1;let A0:=x.2.1.1;let th:=x.2.1.2.2.2.2;let m6:=x.2.2.1.1.1;let AD:=x.2.2.1.1.2.1;let Bh:=x.2.2.1.1.2.2.1;let ng:=x.2.2.1.1.2.2.2.1.1;let AI:=x.2.2.1.1.2.2.2.1.2.2;let AJ:=x.2.2.1.1.2.2.2.2.1.2;let xd:=x.2.2.1.1.2.2.2.2.2.2.2;let wm:=x.2.2.1.2.2.2.2;let nE:=x.2.2.2.1;let w7:=x.2.2.2.2.1;let s9:=x.2.2.2.2.2.1;let zC:=x.2.2.2.2.2.2.1;let AK:=x.2.2.2.2.2.2.2.1;let s_:=x.2.2.2.2.2.2.2.2.1;let Av:=x.2.2.2.2.2.2.2.2.2.1;let nP:=x.2.2.2.2.2.2.2.2.2.2.1;let xe:=x.2.2.2.2.2.2.2.2.2.2.2.1;let tn:=x.2.2.2.2.2.2.2.2.2.2.2.2;let IF:Int:=(↑(List.length (A0.2.2.2.1.2.1)):Int);bif decide (IW<IF) then
  let JN:an.D:=List.getD (A0.2.2.2.1.2.1) (Int.toNat IW) (0,[],0,[],());let FF:Int:=(↑(List.length s9):Int);bif kL [decide (0≤IW),decide (IW<IF)] then
   bif decide (JN.2.2.1>FF) then
    let QE:List (an.D):=[]++s9;let pb_60:List (an.D):=QE ++ [JN];bif kL [decide (List.length QE+(1:Nat)≤eV),decide (0≤IW),decide (IW<IF),decide ((0:Nat)+List.length s9≤eV)] then
     some (.inl (((IntKind.wrap .i64 (IW+1)),(),()),(A0,(),(),(),th),((m6,AD,Bh,(ng,(),AI),((),AJ),(),(),xd),(),(),(),wm),nE,w7,pb_60,zC,AK,s_,Av,nP,xe,tn))
    else none
   else
    some (.inl (((IntKind.wrap .i64 (IW+1)),(),()),(A0,(),(),(),th),((m6,AD,Bh,(ng,(),AI),((),AJ),(),(),xd),(),(),(),wm),nE,w7,s9,zC,AK,s_,Av,nP,xe,tn))
  else none
 else
  some (.inr (((),()),((m6,AD,Bh,(ng,(),AI),((),AJ),(),(),xd),(),(),(),wm),(A0,(),(),(),th),zC,AK,s_,Av,nP,xe,tn,nE,w7,s9))
def Wh.ZW:(Unit×Unit)×((Bool×Int×List UInt8×(Int×Unit×Unit)×(Unit×Int×Unit)×Unit×Unit×Unit)×Unit×Unit×Unit×Unit)×(b7.D×Unit×Unit×Unit×Unit)×List an.D×List b9.D×List cw.D×List cg.D×List bm.D×List cp.D×List an.D×List bm.D×List cp.D×List an.D:=default
def Wh.KF (xs:b7.D×List bm.D×List cp.D×List an.D×Unit):Option ((b7.D×List bm.D×List cp.D×List an.D×Unit)×Unit):=
 let w_0:=xs;g8 QK ZW (((0,(),()),(w_0.1,(),(),(),w_0.2.2.2.2),((false,0,[],(0,(),()),((),0,()),(),(),()),(),(),(),()),w_0.2.1,w_0.2.2.1,w_0.2.2.2.1,[],[],[],[],[],[],[])) fun FI=>
  let CK:=FI.2.2.1.1;let Ch:=FI.2.2.1.2.2.2.2;let CX:=FI.2.2.2.2.2.2.2.2.2.2.1;let DH:=FI.2.2.2.2.2.2.2.2.2.2.2.1;let CY:=FI.2.2.2.2.2.2.2.2.2.2.2.2;some ((CK,CX,DH,CY,Ch),())
abbrev Wh.acH:Type:=(Int×Unit×Int×Unit)×(Unit×Int×Unit)×(Unit×Int×Unit)×List b9.D×List b9.D
abbrev Wh.ai0:Type:=(Unit×Unit)×(Unit×Int×Unit)×(Unit×Int×Unit)×List b9.D×List b9.D
def Wh.ML (x:acH):Option (acH⊕ai0):=
 let wX:=x.1.1;let NJ:=x.1.2.2.1;let CH:=x.2.1.2;let CJ:=x.2.2.1.2;let wh:=x.2.2.2.1;let BG:=x.2.2.2.2;let AX:Int:=(↑(List.length wh):Int);bif decide (wX<AX) then
  let x3:Int:=((List.getD wh (Int.toNat wX) (0,0,0,0,false,())).2).1;let CP:=bif x3==NJ then((((List.getD wh (Int.toNat wX) (0,0,0,0,false,())).2).2).2).1==0 else false;bif kL [!x3==NJ || decide (0≤wX),!x3==NJ || decide (wX<AX),decide (0≤wX),decide (wX<AX)] then
   bif CP then
    let Bf:List (b9.D):=List.set wh (Int.toNat wX) (0,0,0,0,false,());bif kL [decide (0≤wX),decide (wX<AX)] then
     some (.inl (((IntKind.wrap .i64 (wX+1)),(),NJ,()),((),CH),((),CJ),Bf,BG))
    else none
   else
    some (.inl (((IntKind.wrap .i64 (wX+1)),(),NJ,()),((),CH),((),CJ),wh,BG))
  else none
 else
  some (.inr (((),()),((),CJ),((),CH),BG,wh))
def Wh.acI:(Unit×Unit)×(Unit×Int×Unit)×(Unit×Int×Unit)×List b9.D×List b9.D:=default
def Wh.q99 (xs:mb.D×Int):Option ((List b9.D×Int×Unit)×Unit):=
 let fy:=xs.1;let NI:=xs.2;c9 Gm fy fun r_2=>
  g8 ML acI (((0,(),NI,()),((),r_2.1.2),((),0,()),r_2.1.1,[])) fun Lx=>
   let AD:=Lx.2.2.1.2;let ng:=Lx.2.2.2.2;some ((ng,AD),())
def Wh.q34 (xs:b7.D×Int×List UInt8):Option ((b7.D×Int)×Unit):=
 let cx:=xs.1;let A5:=xs.2.1;let Dd:=xs.2.2;c9 Gi cx fun r_3=>
  bif !r_3.1 then
   some (((false,0,[],(0,[],()),([],0,()),[],[],()),1),())
  else
   c9 Ft cx fun dz=>
    c9 Ei (cx.2.2.2.1,A5,Dd) fun gv=>
     bif(!cx.1) then
      some ((dz.1,1),())
     else
      bif(!gv.1.2) then
       some ((dz.1,3),())
      else
       bn (zog E5 (A5,Dd,[])) fun A9=>
       bn (zog F8 (dz.1,A9.1)) fun z5=>
       bif kL [qu (F8 (dz.1,A9.1)),qu (E5 (A5,Dd,[]))] then
        bif(z5.1.2==0) then
         c9 q99 (z5.1.1.2.2.2.2.1,gv.1.1.2.2.1) fun Hh=>
          some (((z5.1.1.1,z5.1.1.2.1,z5.1.1.2.2.1,z5.1.1.2.2.2.1,Hh.1,z5.1.1.2.2.2.2.2),z5.1.2),())
        else
         some ((z5.1.1,z5.1.2),())
       else none
def Wh.G7 (xs:cw.D×Int):Option (cw.D×Unit):=
 let BM:=xs.1;let On:=xs.2;let BI:=IntKind.wrap .i64 (BM.1+IntKind.wrap .i64 (BM.2.2.1*IntKind.wrap .i64 (On-BM.2.2.2.1)));bif decide (BI>BM.2.1) then
  some ((BM.2.1,BM.2.1,BM.2.2.1,On,BM.2.2.2.2),())
 else
  some ((BI,BM.2.1,BM.2.2.1,On,BM.2.2.2.2),())
def Wh.E3 (xs:cg.D):Option (BX.D×Unit):=
 let v_0:cg.D:=xs;some ((v_0.1,(IntKind.wrap .i64 (3-v_0.2.2.2.2.1)),v_0.2.2.2.2.2.1,()),())
abbrev Wh.acF:Type:=(Int×Int×List BX.D×Int)×Unit
abbrev Wh.aiZ:Type:=Int×Unit⊕Int×Unit
def Wh.Ld (x:acF):Option (acF⊕aiZ):=
 let wX:=x.1.1;let HB:=x.1.2.1;let LR:=x.1.2.2.1;let Kk:=x.1.2.2.2;let nW:Int:=(↑(List.length LR):Int);bif decide (wX<nW) then
  let Jf:=List.getD LR (Int.toNat wX) (0,0,0,());bif kL [decide (0≤wX),decide (wX<nW)] then
   bn (zog gh (Jf.2.1,0,99999)) fun Dg=>
   bn (zog gh (Jf.2.2.1,0,Kk)) fun D0=>
   let CP:=bif bif !Dg.1 then true else !D0.1 then true else decide (Kk>99999);bif kL [!!!Dg.1 || qu (gh (Jf.2.2.1,0,Kk)),qu (gh (Jf.2.1,0,99999))] then
    bif CP then
     some (.inr (.inl (-1,())))
    else
     let B8:=decide (HB<0);let ID:=bif B8 then true else decide (IntKind.wrap .i64 (IntKind.wrap .i64 (Jf.2.1+Kk)-Jf.2.2.1)>IntKind.wrap .i64 (IntKind.wrap .i64 (((List.getD LR (Int.toNat HB) (0,0,0,())).2).1+Kk)-(((List.getD LR (Int.toNat HB) (0,0,0,())).2).2).1));bif kL [!!B8 || decide (0≤HB),!!B8 || decide (HB<nW),!!B8 || decide (0≤HB),!!B8 || decide (HB<nW)] then
      bif ID then
       some (.inl (((IntKind.wrap .i64 (wX+1)),wX,LR,Kk),()))
      else
       some (.inl (((IntKind.wrap .i64 (wX+1)),HB,LR,Kk),()))
     else none
   else none
  else none
 else
  some (.inr (.inr (HB,())))
def Wh.acG:Int×Unit⊕Int×Unit:=.inl default
def Wh.q95 (xs:List BX.D×Int):Option (Int×Unit):=
 let J8:=xs.1;let On:=xs.2;g8 Ld acG (((0,-1,J8,On),())) fun q_=>
  sumC q_ (fun y_35=>
   let EM:=y_35.1;some (EM,())) (fun z_36=>
   let adO:=z_36.1;some (adO,()))
abbrev Wh.ZH:Type:=(Int×Unit×Unit×Int)×b7.D×List BX.D
abbrev Wh.ahx:Type:=(Int×Unit×Unit)×List BX.D×b7.D
def Wh.Kx (x:ZH):Option (ZH⊕ahx):=
 let IU:=x.1.1;let Nw:=x.1.2.2.2;let wh:=x.2.1;let BG:=x.2.2;let AX:Int:=(↑(List.length (wh.2.2.2.2.2.2.1)):Int);bif decide (IU<AX) then
  let x3:cg.D:=List.getD (wh.2.2.2.2.2.2.1) (Int.toNat IU) (0,0,0,0,0,0,());bn (zog Cj Nw) fun MN=>
  bn (zog Cj x3.1) fun r_29=>
  bif kL [qu (Cj Nw),qu (Cj x3.1),decide (0≤IU),decide (IU<AX)] then
   bif(r_29.1==MN.1) then
    bn (zog E3 x3) fun Ix=>
    let th:=BG ++ [Ix.1];bif kL [decide (List.length BG+(1:Nat)≤eV),qu (E3 x3),decide (0≤IU),decide (IU<AX)] then
     some (.inl (((IntKind.wrap .i64 (IU+1)),(),(),Nw),wh,th))
    else none
   else
    some (.inl (((IntKind.wrap .i64 (IU+1)),(),(),Nw),wh,BG))
  else none
 else
  some (.inr ((Nw,(),()),BG,wh))
def Wh.ZI:(Int×Unit×Unit)×List BX.D×b7.D:=default
def Wh.G0 (xs:b7.D×Int):Option (Bool×Unit):=
 let cx:=xs.1;let Nv:=xs.2;g8 Kx ZI (((0,(),(),Nv),cx,[])) fun y_39=>
  let ad0:=y_39.1.1;let xd:=y_39.2.1;let wm:=y_39.2.2;c9 q95 (xd,wm.2.1) fun EK=>
   let Hs:=decide (EK.1≥0);let Lp:=bif Hs then(List.getD xd (Int.toNat EK.1) (0,0,0,())).1==ad0 else false;bif kL [!Hs || decide (0≤EK.1),!Hs || decide (EK.1<(↑(List.length xd):Int))] then
    some (Lp,())
   else none
abbrev Wh.ZJ:Type:=(Int×Unit×Unit)×List BX.D×b7.D
abbrev Wh.ahy:Type:=Unit×List BX.D
def Wh.H8 (x:ZJ):Option (ZJ⊕ahy):=
 let IV:=x.1.1;let Bq:=x.2.1;let ov:=x.2.2;let CP:Int:=(↑(List.length (ov.2.2.2.2.2.2.1)):Int);bif decide (IV<CP) then
  let vT:cg.D:=List.getD (ov.2.2.2.2.2.2.1) (Int.toNat IV) (0,0,0,0,0,0,());bif kL [decide (0≤IV),decide (IV<CP)] then
   c9 Gg (ov.2.2.2.1,vT.2.2.1) fun C0=>
    bif C0.1.2 then
     bn (zog Ci (↑(List.length (C0.1.1.2.2.2.1)):Int)) fun Ix=>
     let FD:Int:=(↑(List.length (C0.1.1.2.2.2.1)):Int);bif kL [qu (Ci FD)] then
      bn (zog G0 (ov,vT.1)) fun DL=>
      bn (zog Cj vT.1) fun Gq=>
      let EM:=bif DL.1 then decide ((List.getD (ov.2.2.2.2.2.1) (Int.toNat Gq.1) (0,0,0,0,())).1≥Ix.1.2.1) else false;bif kL [!DL.1 || decide (0≤Gq.1),!DL.1 || decide (Gq.1<(↑(List.length (ov.2.2.2.2.2.1)):Int)),!DL.1 || qu (Cj vT.1),qu (G0 (ov,vT.1))] then
       bif EM then
        bn (zog E3 vT) fun Iy=>
        let AJ:=Bq ++ [Iy.1];bif kL [decide (List.length Bq+(1:Nat)≤eV),qu (E3 vT)] then
         some (.inl (((IntKind.wrap .i64 (IV+1)),(),()),AJ,ov))
        else none
       else
        some (.inl (((IntKind.wrap .i64 (IV+1)),(),()),Bq,ov))
      else none
     else none
    else
     bn (zog G0 (ov,vT.1)) fun EK=>
     bn (zog Cj vT.1) fun MP=>
     let v_45:=bif EK.1 then decide ((List.getD (ov.2.2.2.2.2.1) (Int.toNat MP.1) (0,0,0,0,())).1≥0) else false;bif kL [!EK.1 || decide (0≤MP.1),!EK.1 || decide (MP.1<(↑(List.length (ov.2.2.2.2.2.1)):Int)),!EK.1 || qu (Cj vT.1),qu (G0 (ov,vT.1))] then
      bif v_45 then
       bn (zog E3 vT) fun JG=>
       let s_:=Bq ++ [JG.1];bif kL [decide (List.length Bq+(1:Nat)≤eV),qu (E3 vT)] then
        some (.inl (((IntKind.wrap .i64 (IV+1)),(),()),s_,ov))
       else none
      else
       some (.inl (((IntKind.wrap .i64 (IV+1)),(),()),Bq,ov))
     else none
  else none
 else
  some (.inr ((),Bq))
def Wh.ZK:Unit×List BX.D:=default
def Wh.L9 (xs:b7.D):Option (List BX.D×Unit):=
 let cx:b7.D:=xs;g8 H8 ZK (((0,(),()),[],cx)) fun y_52=>
  let AE:=y_52.2;some (AE,())
abbrev Wh.ZF:Type:=(Int×Int×Unit×Int)×mb.D
abbrev Wh.ahw:Type:=Int×Unit⊕Unit×Unit
def Wh.Kw (x:ZF):Option (ZF⊕ahw):=
 let At:=x.1.1;let W5:=x.1.2.1;let PG:=x.1.2.2.2;let tc:=x.2;let v9:Int:=(↑(List.length tc.1):Int);bif decide (At<v9) then
  let iL:b9.D:=List.getD tc.1 (Int.toNat At) (0,0,0,0,false,());let nI:=bif iL.2.1==PG then iL.2.2.1==W5 else false;bif kL [!iL.2.1==PG || decide (0≤At),!iL.2.1==PG || decide (At<v9),decide (0≤At),decide (At<v9)] then
   bif nI then
    some (.inr (.inl (At,())))
   else
    some (.inl (((IntKind.wrap .i64 (At+1)),W5,(),PG),tc))
  else none
 else
  some (.inr (.inr ((),())))
def Wh.ZG:Int×Unit⊕Unit×Unit:=.inl default
def Wh.L7 (xs:mb.D×Int×Int):Option (Int×Unit):=
 let fy:=xs.1;let NI:=xs.2.1;let adQ:=xs.2.2;g8 Kw ZG (((0,adQ,(),NI),fy)) fun q_=>
  sumC q_ (fun JS=>
   let we:=JS.1;some (we,())) (fun _=>
   some (-1,()))
abbrev Wh.abN:Type:=(Int×Unit×Unit×Int×Bool)×(Unit×Int×Unit)×(Unit×Int×Unit)×List b9.D×List b9.D
abbrev Wh.aiz:Type:=(Unit×Int)×(Unit×Int×Unit)×List b9.D⊕(Unit×Unit)×(Unit×Int×Unit)×(Unit×Int×Unit)×List b9.D×List b9.D
def Wh.K9 (x:abN):Option (abN⊕aiz):=
 let Qt:=x.1.1;let P5:=x.1.2.2.2.1;let Qz:=x.1.2.2.2.2;let AZ:=x.2.1.2;let BB:=x.2.2.1.2;let Bq:=x.2.2.2.1;let ov:=x.2.2.2.2;bif decide (Qt<17) then
  let EZ:b9.D:=List.getD Bq (Int.toNat AZ.1) (0,0,0,0,false,());bif kL [decide (0≤AZ.1),decide (AZ.1<(↑(List.length Bq):Int))] then
   let Bg:Int:=Int.tmod (IntKind.wrap .i64 (AZ.1+1)) 8;let BY:=bif Qz then bif EZ.2.1==0 then true else EZ.1 != P5 else false;bif BY then
    some (.inl (((IntKind.wrap .i64 (Qt+1)),(),(),P5,Qz),((),Bg,AZ.2),((),BB),Bq,ov))
   else
    bif decide (EZ.2.2.2.1>0) then
     some (.inl (((IntKind.wrap .i64 (Qt+1)),(),(),P5,Qz),((),Bg,AZ.2),((),BB),Bq,ov))
    else
     bif EZ.2.2.2.2.1 then
      let Bh:List (b9.D):=List.set Bq (Int.toNat AZ.1) (EZ.1,EZ.2.1,EZ.2.2.1,EZ.2.2.2.1,false,EZ.2.2.2.2.2);bif kL [decide (0≤AZ.1),decide (AZ.1<(↑(List.length Bq):Int))] then
       some (.inl (((IntKind.wrap .i64 (Qt+1)),(),(),P5,Qz),((),Bg,AZ.2),((),BB),Bh,ov))
      else none
     else
      some (.inr (.inl (((),AZ.1),((),Bg,AZ.2),Bq)))
  else none
 else
  some (.inr (.inr (((),()),((),BB),((),AZ),ov,Bq)))
def Wh.abO:(Unit×Int)×(Unit×Int×Unit)×List b9.D⊕(Unit×Unit)×(Unit×Int×Unit)×(Unit×Int×Unit)×List b9.D×List b9.D:=.inl default
def Wh.q50 (xs:(List b9.D×Int×Unit)×Int):Option (((List b9.D×Int×Unit)×Int)×Unit):=
 let fy:=xs.1;let A5:=xs.2;c9 KV (fy,A5) fun r_2=>
  g8 K9 abO (((0,(),(),A5,(decide (r_2.1≥5))),((),fy.2),((),0,()),fy.1,[])) fun q_=>
   sumC q_ (fun y_40=>
    let Lo:=y_40.1.2;let nE:=y_40.2.1.2;let w7:=y_40.2.2;some (((w7,nE),Lo),())) (fun z_41=>
    let zC:=z_41.2.2.1.2;let s_:=z_41.2.2.2.2;some (((s_,zC),-1),()))
def Wh.H7 (xs:mb.D×Int×Int×Int):Option (((List b9.D×Int×Unit)×Int×Int)×Unit):=
 let fy:=xs.1;let A5:=xs.2.1;let PJ:=xs.2.2.1;let W6:=xs.2.2.2;c9 Gm fy fun dz=>
  c9 L7 (dz.1,PJ,W6) fun gv=>
   bif decide (gv.1≥0) then
    let n4:Int:=((((List.getD dz.1.1 (Int.toNat gv.1) (0,0,0,0,false,())).2).2).2).1;let Ck:=bif decide (n4≥99999) then true else(List.getD dz.1.1 (Int.toNat gv.1) (0,0,0,0,false,())).1 != A5;bif kL [!!decide (n4≥99999) || decide (0≤gv.1),!!decide (n4≥99999) || decide (gv.1<(↑(List.length dz.1.1):Int)),decide (0≤gv.1),decide (gv.1<(↑(List.length dz.1.1):Int))] then
     bif Ck then
      bif kL [qu (Gm fy)] then
       some ((dz.1,0,3),())
      else none
     else
      let Kl:List (b9.D):=List.set dz.1.1 (Int.toNat gv.1) ((List.getD dz.1.1 (Int.toNat gv.1) (0,0,0,0,false,())).1,((List.getD dz.1.1 (Int.toNat gv.1) (0,0,0,0,false,())).2).1,(((List.getD dz.1.1 (Int.toNat gv.1) (0,0,0,0,false,())).2).2).1,IntKind.wrap .i64 (n4+1),((((List.getD dz.1.1 (Int.toNat gv.1) (0,0,0,0,false,())).2).2).2).2);bif kL [decide (0≤gv.1),decide (gv.1<(↑(List.length dz.1.1):Int)),decide (0≤gv.1),decide (gv.1<(↑(List.length dz.1.1):Int))] then
       let TL:List (b9.D):=List.set Kl (Int.toNat gv.1) ((List.getD Kl (Int.toNat gv.1) (0,0,0,0,false,())).1,((List.getD Kl (Int.toNat gv.1) (0,0,0,0,false,())).2).1,(((List.getD Kl (Int.toNat gv.1) (0,0,0,0,false,())).2).2).1,((((List.getD Kl (Int.toNat gv.1) (0,0,0,0,false,())).2).2).2).1,true,(((((List.getD Kl (Int.toNat gv.1) (0,0,0,0,false,())).2).2).2).2).2);bif kL [decide (0≤gv.1),decide (gv.1<(↑(List.length Kl):Int))] then
        some (((TL,dz.1.2),gv.1,0),())
       else none
      else none
    else none
   else
    c9 q50 (dz.1,A5) fun De=>
     bif decide (De.1.2<0) then
      bif kL [qu (Gm fy)] then
       some ((dz.1,0,2),())
      else none
     else
      let Ou:List (b9.D):=List.set (De.1.1.1) (Int.toNat De.1.2) (A5,PJ,W6,1,true,());bif kL [decide (0≤De.1.2),decide (De.1.2<(↑(List.length (De.1.1.1)):Int))] then
       some (((Ou,De.1.1.2),De.1.2,1),())
      else none
def Wh.q97 (xs:mb.D×Int):Option (((List b9.D×Int×Unit)×Bool)×Unit):=
 let fy:=xs.1;let D9:=xs.2;c9 Ia fy fun r_2=>
  bif !r_2.1 then
   some ((([],0,()),false),())
  else
   c9 Gm fy fun r_3=>
    bn (zog gh (D9,0,7)) fun dz=>
    let oc:=bif !dz.1 then true else((((List.getD r_3.1.1 (Int.toNat D9) (0,0,0,0,false,())).2).2).2).1==0;bif kL [!!!dz.1 || decide (0≤D9),!!!dz.1 || decide (D9<(↑(List.length r_3.1.1):Int)),qu (gh (D9,0,7))] then
     bif oc then
      some ((r_3.1,false),())
     else
      let Jh:List (b9.D):=List.set r_3.1.1 (Int.toNat D9) ((List.getD r_3.1.1 (Int.toNat D9) (0,0,0,0,false,())).1,((List.getD r_3.1.1 (Int.toNat D9) (0,0,0,0,false,())).2).1,(((List.getD r_3.1.1 (Int.toNat D9) (0,0,0,0,false,())).2).2).1,IntKind.wrap .i64 (((((List.getD r_3.1.1 (Int.toNat D9) (0,0,0,0,false,())).2).2).2).1-1),((((List.getD r_3.1.1 (Int.toNat D9) (0,0,0,0,false,())).2).2).2).2);bif kL [decide (0≤D9),decide (D9<(↑(List.length r_3.1.1):Int)),decide (0≤D9),decide (D9<(↑(List.length r_3.1.1):Int))] then
       some (((Jh,r_3.1.2),true),())
      else none
    else none
abbrev Wh.abm:Type:=(Int×Unit×List UInt8×Unit)×gT.D×List (List UInt8)
abbrev Wh.ain:Type:=Unit×List (List UInt8)
def Wh.Mw (x:abm):Option (abm⊕ain):=
 let LN:=x.1.1;let R4:=x.1.2.2.1;let Be:=x.2.1;let AZ:=x.2.2;c9 Br Be fun D0=>
  bif decide (LN<D0.1) then
   let pb_28:List (List UInt8):=[List.take (Int.toNat (IntKind.wrap .i64 (IntKind.wrap .i64 (LN+1)*Be.2.1)-IntKind.wrap .i64 (LN*Be.2.1))) (List.drop (Int.toNat (IntKind.wrap .i64 (LN*Be.2.1))) R4)];let BQ:List (List UInt8):=AZ++pb_28;let B8:=IntKind.wrap .i64 (LN*Be.2.1);let ID:=IntKind.wrap .i64 (LN+1);bif kL [decide (List.length AZ+(1:Nat)≤eV),decide (0≤B8),decide (B8≤IntKind.wrap .i64 (ID*Be.2.1)),decide (IntKind.wrap .i64 (ID*Be.2.1)≤(↑(List.length R4):Int))] then
    some (.inl ((ID,(),R4,()),Be,BQ))
   else none
  else
   some (.inr ((),AZ))
def Wh.abn:Unit×List (List UInt8):=default
def Wh.K4 (xs:gT.D×List UInt8):Option (List (List UInt8)×Unit):=
 let fy:=xs.1;let RC:=xs.2;bn (zog Br fy) fun r_2=>
 bn (zog Jr (IntKind.wrap .i64 (IntKind.wrap .i64 (r_2.1*fy.2.1)-(↑(List.length RC):Int)))) fun A9=>
 let all_9:List UInt8:=RC++A9.1;bif kL [decide (List.length RC+List.length (A9.1)≤eV),qu (Jr (IntKind.wrap .i64 (IntKind.wrap .i64 (r_2.1*fy.2.1)-(↑(List.length RC):Int)))),qu (Br fy)] then
  g8 Mw abn (((0,(),all_9,()),fy,[])) fun y_35=>
   let AD:=y_35.2;some (AD,())
 else none
abbrev Wh.aa9:Type:=(Int×List Int×List (List UInt8)×List UInt8)×Unit
abbrev Wh.aif:Type:=List UInt8×Unit
def Wh.Ms (x:aa9):Option (aa9⊕aif):=
 let AB:=x.1.1;let Ui:=x.1.2.1;let Py:=x.1.2.2.1;let TF:=x.1.2.2.2;let n_:=decide (AB<(↑(List.length Ui):Int));bif n_ then
  let iL:=List.getD Ui (Int.toNat AB) 0;bn (zog F5 (TF,List.getD Py (Int.toNat iL) [])) fun Le=>
  bif kL [qu (F5 (TF,List.getD Py (Int.toNat iL) [])),decide (0≤iL),decide (iL<(↑(List.length Py):Int)),decide (0≤AB),n_] then
   some (.inl (((IntKind.wrap .i64 (AB+1)),Ui,Py,Le.1),()))
  else none
 else
  some (.inr (TF,()))
def Wh.aa_:List UInt8×Unit:=default
def Wh.JA (xs:List (List UInt8)×List Int×Int):Option (List UInt8×Unit):=
 let adR:=xs.1;let Rm:=xs.2.1;let size_2:=xs.2.2;c9 KN (tv [(0:Int)],size_2) fun r_3=>
  g8 Ms aa_ (((0,Rm,adR,r_3.1),())) fun Fe=>
   let out_28:=Fe.1;some (out_28,())
abbrev Wh.ZP:Type:=(Int×Unit×Unit×Unit×Unit×Unit×Unit×Int)×(Bool×Int×List UInt8×(Int×Unit×Unit)×(Unit×Int×Unit)×Unit×Unit×Unit)×List Int×an.D×(Bool×Int×List UInt8×(Int×Unit×Unit)×(Unit×Int×Unit)×Unit×Unit×Unit)×(Int×Int×Unit×Unit×Unit)×cg.D×List an.D×List b9.D×List cw.D×List cg.D×List an.D×List b9.D×List cw.D×List cg.D×List Int×List Int
abbrev Wh.ahB:Type:=(Unit×Unit×Unit×Unit×Unit×Unit×Int)×(Bool×Int×List UInt8×(Int×Unit×Unit)×(Unit×Int×Unit)×Unit×Unit×Unit)×(Int×Int×Unit×Unit×Unit)×List Int×an.D×cg.D×(Bool×Int×List UInt8×(Int×Unit×Unit)×(Unit×Int×Unit)×Unit×Unit×Unit)×List an.D×List b9.D×List cw.D×List cg.D×List Int×List Int×List an.D×List b9.D×List cw.D×List cg.D
def Wh.OC (x:ZP):Option (ZP⊕ahB):=
 let Dm:=x.1.1;let k_48:=x.1.2.2.2.2.2.2.2;let Av:=x.2.1.1;let nP:=x.2.1.2.1;let xe:=x.2.1.2.2.1;let tn:=x.2.1.2.2.2.1.1;let AE:=x.2.1.2.2.2.1.2.2;let A1:=x.2.1.2.2.2.2.1.2;let AP:=x.2.1.2.2.2.2.2.2.2;let n5:=x.2.2.1;let AL:=x.2.2.2.1;let Cp:=x.2.2.2.2.1.1;let Ce:=x.2.2.2.2.1.2.1;let Bl:=x.2.2.2.2.1.2.2.1;let BR:=x.2.2.2.2.1.2.2.2.1.1;let Cf:=x.2.2.2.2.1.2.2.2.1.2.2;let Bn:=x.2.2.2.2.1.2.2.2.2.1.2;let A2:=x.2.2.2.2.1.2.2.2.2.2.2.2;let BT:=x.2.2.2.2.2.1.1;let CU:=x.2.2.2.2.2.1.2.1;let BH:=x.2.2.2.2.2.1.2.2.2.2;let Cg:=x.2.2.2.2.2.2.1;let Ec:=x.2.2.2.2.2.2.2.1;let Dq:=x.2.2.2.2.2.2.2.2.1;let Bx:=x.2.2.2.2.2.2.2.2.2.1;let A6:=x.2.2.2.2.2.2.2.2.2.2.1;let CK:=x.2.2.2.2.2.2.2.2.2.2.2.1;let Ch:=x.2.2.2.2.2.2.2.2.2.2.2.2.1;let Cw:=x.2.2.2.2.2.2.2.2.2.2.2.2.2.1;let CV:=x.2.2.2.2.2.2.2.2.2.2.2.2.2.2.1;let By:=x.2.2.2.2.2.2.2.2.2.2.2.2.2.2.2.1;let EA:=x.2.2.2.2.2.2.2.2.2.2.2.2.2.2.2.2;let v_79:=decide (Dm<(↑(List.length n5):Int));bif v_79 then
  bn (zog H7 ((Dq,A1),AL.1,AL.2.2.1,List.getD n5 (Int.toNat Dm) 0)) fun Ri=>
  let v_81:=List.getD n5 (Int.toNat Dm) 0;bif kL [qu (H7 ((Dq,A1),AL.1,AL.2.2.1,v_81)),decide (0≤Dm),v_79] then
   let II:=bif(Ri.1.2.2==0) then true else Ri.1.2.2==1;bif II then
    c9 q97 (Ri.1.1,Ri.1.2.1) fun r_84=>
     some (.inl (((IntKind.wrap .i64 (Dm+1)),(),(),(),(),(),(),k_48),(Av,nP,xe,(tn,(),AE),((),r_84.1.1.2),(),(),AP),n5,AL,(Cp,Ce,Bl,(BR,(),Cf),((),Bn),(),(),A2),(BT,CU,(),(),BH),Cg,Ec,r_84.1.1.1,Bx,A6,CK,Ch,Cw,CV,By,EA))
   else
    some (.inl (((IntKind.wrap .i64 (Dm+1)),(),(),(),(),(),(),k_48),(Av,nP,xe,(tn,(),AE),((),A1),(),(),AP),n5,AL,(Cp,Ce,Bl,(BR,(),Cf),((),Bn),(),(),A2),(BT,CU,(),(),BH),Cg,Ec,Dq,Bx,A6,CK,Ch,Cw,CV,By,EA))
  else none
 else
  some (.inr (((),(),(),(),(),(),k_48),(Cp,Ce,Bl,(BR,(),Cf),((),Bn),(),(),A2),(BT,CU,(),(),BH),n5,AL,Cg,(Av,nP,xe,(tn,(),AE),((),A1),(),(),AP),CK,Ch,Cw,CV,By,EA,Ec,Dq,Bx,A6))
def Wh.ZQ:(Unit×Unit×Unit×Unit×Unit×Unit×Int)×(Bool×Int×List UInt8×(Int×Unit×Unit)×(Unit×Int×Unit)×Unit×Unit×Unit)×(Int×Int×Unit×Unit×Unit)×List Int×an.D×cg.D×(Bool×Int×List UInt8×(Int×Unit×Unit)×(Unit×Int×Unit)×Unit×Unit×Unit)×List an.D×List b9.D×List cw.D×List cg.D×List Int×List Int×List an.D×List b9.D×List cw.D×List cg.D:=(default,(default,default,default,default,default,default,default,default,default,default,default,default,default,default,default,default))
def Wh.Mb (xs:(Bool×Int×List UInt8×(Int×List an.D×Unit)×(List b9.D×Int×Unit)×List cw.D×List cg.D×Unit)×Int×an.D):Option (((Bool×Int×List UInt8×(Int×List an.D×Unit)×(List b9.D×Int×Unit)×List cw.D×List cg.D×Unit)×List eL.D)×Unit):=
 let cx:=xs.1;let k_1:=xs.2.1;let t_2:=xs.2.2;let Dv:cg.D:=List.getD (cx.2.2.2.2.2.2.1) (Int.toNat k_1) (0,0,0,0,0,0,());bif kL [decide (0≤k_1),decide (k_1<(↑(List.length (cx.2.2.2.2.2.2.1)):Int))] then
  bn (zog Ci (↑(List.length (t_2.2.2.2.1)):Int)) fun dz=>
  let oc:Int:=(↑(List.length (t_2.2.2.2.1)):Int);bif kL [qu (Ci oc)] then
   c9 Fz (dz.1,Dv.2.2.2.1) fun nS=>
    g8 OC ZQ (((0,(),(),(),(),(),(),k_1),(cx.1,cx.2.1,cx.2.2.1,(cx.2.2.2.1.1,(),cx.2.2.2.1.2.2),((),cx.2.2.2.2.1.2),(),(),cx.2.2.2.2.2.2.2),nS.1,t_2,(false,0,[],(0,(),()),((),0,()),(),(),()),(dz.1.1,dz.1.2.1,(),(),dz.1.2.2.2.2),Dv,cx.2.2.2.1.2.1,cx.2.2.2.2.1.1,cx.2.2.2.2.2.1,cx.2.2.2.2.2.2.1,[],[],[],[],dz.1.2.2.1,dz.1.2.2.2.1)) fun C7=>
     let DS:=C7.1.2.2.2.2.2.2;let Kh:=C7.2.2.1.1;let Fs:=C7.2.2.1.2.1;let HW:=C7.2.2.1.2.2.2.2;let LS:=C7.2.2.2.1;let J9:=C7.2.2.2.2.1;let Dn:=C7.2.2.2.2.2.1;let HQ:=C7.2.2.2.2.2.2.1.1;let AH:=C7.2.2.2.2.2.2.1.2.1;let Ev:=C7.2.2.2.2.2.2.1.2.2.1;let Ew:=C7.2.2.2.2.2.2.1.2.2.2.1.1;let Fq:=C7.2.2.2.2.2.2.1.2.2.2.1.2.2;let GP:=C7.2.2.2.2.2.2.1.2.2.2.2.1.2;let I5:=C7.2.2.2.2.2.2.1.2.2.2.2.2.2.2;let HR:=C7.2.2.2.2.2.2.2.2.2.2.2.1;let FU:=C7.2.2.2.2.2.2.2.2.2.2.2.2.1;let FV:=C7.2.2.2.2.2.2.2.2.2.2.2.2.2.1;let HS:=C7.2.2.2.2.2.2.2.2.2.2.2.2.2.2.1;let EW:=C7.2.2.2.2.2.2.2.2.2.2.2.2.2.2.2.1;let Ey:=C7.2.2.2.2.2.2.2.2.2.2.2.2.2.2.2.2;c9 Cj Dn.1 fun Iw=>
      let HT:List (cw.D):=List.set EW (Int.toNat Iw.1) (IntKind.wrap .i64 ((List.getD EW (Int.toNat Iw.1) (0,0,0,0,())).1-Fs),(List.getD EW (Int.toNat Iw.1) (0,0,0,0,())).2);bif kL [decide (0≤Iw.1),decide (Iw.1<(↑(List.length EW):Int)),decide (0≤Iw.1),decide (Iw.1<(↑(List.length EW):Int))] then
       let Dp:List (cg.D):=List.set Ey (Int.toNat DS) ((List.getD Ey (Int.toNat DS) (0,0,0,0,0,0,())).1,((List.getD Ey (Int.toNat DS) (0,0,0,0,0,0,())).2).1,(((List.getD Ey (Int.toNat DS) (0,0,0,0,0,0,())).2).2).1,Int.tmod (IntKind.wrap .i64 (Dn.2.2.2.1+1)) 10000,((((List.getD Ey (Int.toNat DS) (0,0,0,0,0,0,())).2).2).2).2);bif kL [decide (0≤DS),decide (DS<(↑(List.length Ey):Int)),true] then
        let Ja:List (cg.D):=List.set Dp (Int.toNat DS) ((List.getD Dp (Int.toNat DS) (0,0,0,0,0,0,())).1,((List.getD Dp (Int.toNat DS) (0,0,0,0,0,0,())).2).1,(((List.getD Dp (Int.toNat DS) (0,0,0,0,0,0,())).2).2).1,((((List.getD Dp (Int.toNat DS) (0,0,0,0,0,0,())).2).2).2).1,(((((List.getD Dp (Int.toNat DS) (0,0,0,0,0,0,())).2).2).2).2).1,AH,((((((List.getD Dp (Int.toNat DS) (0,0,0,0,0,0,())).2).2).2).2).2).2);bif kL [decide (0≤DS),decide (DS<(↑(List.length Dp):Int))] then
         bn (zog K4 ((Kh,Fs,HR,FU,HW),J9.2.2.2.1)) fun r_128=>
         bn (zog JA (r_128.1,LS,Fs)) fun r_129=>
         let pb_130:List (eL.D):=[(3,Dn.1,Dn.2.1,Dn.2.2.1,Dn.2.2.2.1,[],r_129.1,())];bif kL [qu (JA (r_128.1,LS,Fs)),qu (K4 ((Kh,Fs,HR,FU,HW),J9.2.2.2.1))] then
          some (((HQ,AH,Ev,(Ew,FV,Fq),(HS,GP),HT,Ja,I5),pb_130),())
         else none
        else none
       else none
      else none
  else none
 else none
abbrev Wh.abF:Type:=(Int×Unit×Unit)×(Bool×Int×List UInt8×(Int×Unit×Unit)×(Unit×Int×Unit)×Unit×Unit×Unit)×(Bool×Int×List UInt8×(Int×Unit×Unit)×(Unit×Int×Unit)×Unit×Unit×Unit)×List an.D×List b9.D×List cw.D×List cg.D×List an.D×List b9.D×List cw.D×List cg.D
abbrev Wh.aiw:Type:=(Unit×Unit)×(Bool×Int×List UInt8×(Int×Unit×Unit)×(Unit×Int×Unit)×Unit×Unit×Unit)×(Bool×Int×List UInt8×(Int×Unit×Unit)×(Unit×Int×Unit)×Unit×Unit×Unit)×List an.D×List b9.D×List cw.D×List cg.D×List an.D×List b9.D×List cw.D×List cg.D
def Wh.OL (x:abF):Option (abF⊕aiw):=
 let h_34:=x.1.1;let m6:=x.2.1.1;let AD:=x.2.1.2.1;let Bh:=x.2.1.2.2.1;let ng:=x.2.1.2.2.2.1.1;let AI:=x.2.1.2.2.2.1.2.2;let AJ:=x.2.1.2.2.2.2.1.2;let xd:=x.2.1.2.2.2.2.2.2.2;let wm:=x.2.2.1.1;let nE:=x.2.2.1.2.1;let w7:=x.2.2.1.2.2.1;let s9:=x.2.2.1.2.2.2.1.1;let zC:=x.2.2.1.2.2.2.1.2.2;let AK:=x.2.2.1.2.2.2.2.1.2;let s_:=x.2.2.1.2.2.2.2.2.2.2;let Av:=x.2.2.2.1;let nP:=x.2.2.2.2.1;let xe:=x.2.2.2.2.2.1;let tn:=x.2.2.2.2.2.2.1;let AE:=x.2.2.2.2.2.2.2.1;let A1:=x.2.2.2.2.2.2.2.2.1;let AP:=x.2.2.2.2.2.2.2.2.2.1;let n5:=x.2.2.2.2.2.2.2.2.2.2;bif decide (h_34<2) then
  bn (zog G7 (List.getD xe (Int.toNat h_34) (0,0,0,0,()),AD)) fun Lf=>
  let Ce:List (cw.D):=List.set xe (Int.toNat h_34) Lf.1;let Na:cw.D:=List.getD xe (Int.toNat h_34) (0,0,0,0,());bif kL [decide (0≤h_34),decide (h_34<(↑(List.length xe):Int)),qu (G7 (Na,AD)),decide (0≤h_34),decide (h_34<(↑(List.length xe):Int))] then
   some (.inl (((IntKind.wrap .i64 (h_34+1)),(),()),(m6,AD,Bh,(ng,(),AI),((),AJ),(),(),xd),(wm,nE,w7,(s9,(),zC),((),AK),(),(),s_),Av,nP,Ce,tn,AE,A1,AP,n5))
  else none
 else
  some (.inr (((),()),(wm,nE,w7,(s9,(),zC),((),AK),(),(),s_),(m6,AD,Bh,(ng,(),AI),((),AJ),(),(),xd),AE,A1,AP,n5,Av,nP,xe,tn))
def Wh.abG:(Unit×Unit)×(Bool×Int×List UInt8×(Int×Unit×Unit)×(Unit×Int×Unit)×Unit×Unit×Unit)×(Bool×Int×List UInt8×(Int×Unit×Unit)×(Unit×Int×Unit)×Unit×Unit×Unit)×List an.D×List b9.D×List cw.D×List cg.D×List an.D×List b9.D×List cw.D×List cg.D:=default
def Wh.q35 (xs:b7.D):Option ((b7.D×List eL.D)×Unit):=
 let cx:b7.D:=xs;c9 Gi cx fun r_1=>
  bif !r_1.1 then
   some (((false,0,[],(0,[],()),([],0,()),[],[],()),[]),())
  else
   c9 Ft cx fun r_2=>
    let AG:=bif(!cx.1) then true else decide (cx.2.1≥99999);bif AG then
     some ((r_2.1,[]),())
    else
     g8 OL abG (((0,(),()),(r_2.1.1,(IntKind.wrap .i64 (cx.2.1+1)),r_2.1.2.2.1,(r_2.1.2.2.2.1.1,(),r_2.1.2.2.2.1.2.2),((),r_2.1.2.2.2.2.1.2),(),(),r_2.1.2.2.2.2.2.2.2),(false,0,[],(0,(),()),((),0,()),(),(),()),r_2.1.2.2.2.1.2.1,r_2.1.2.2.2.2.1.1,r_2.1.2.2.2.2.2.1,r_2.1.2.2.2.2.2.2.1,[],[],[],[])) fun Gx=>
      let Bx:=Gx.2.2.1.1;let A6:=Gx.2.2.1.2.1;let CK:=Gx.2.2.1.2.2.1;let Ch:=Gx.2.2.1.2.2.2.1.1;let Cw:=Gx.2.2.1.2.2.2.1.2.2;let CV:=Gx.2.2.1.2.2.2.2.1.2;let By:=Gx.2.2.1.2.2.2.2.2.2.2;let CX:=Gx.2.2.2.2.2.2.2.1;let DH:=Gx.2.2.2.2.2.2.2.2.1;let CY:=Gx.2.2.2.2.2.2.2.2.2.1;let Dr:=Gx.2.2.2.2.2.2.2.2.2.2;c9 L9 (Bx,A6,CK,(Ch,CX,Cw),(DH,CV),CY,Dr,By) fun MR=>
       c9 q95 (MR.1,A6) fun MS=>
        bif decide (MS.1<0) then
         some (((Bx,A6,CK,(Ch,CX,Cw),(DH,CV),CY,Dr,By),[]),())
        else
         let Pd:Int:=(List.getD MR.1 (Int.toNat MS.1) (0,0,0,())).1;bn (zog Gc ((Bx,A6,CK,(Ch,CX,Cw),(DH,CV),CY,Dr,By),Pd)) fun JJ=>
         bif kL [qu (Gc ((Bx,A6,CK,(Ch,CX,Cw),(DH,CV),CY,Dr,By),Pd)),decide (0≤MS.1),decide (MS.1<(↑(List.length MR.1):Int))] then
          bn (zog Gg ((Ch,CX,Cw),(((List.getD Dr (Int.toNat JJ.1) (0,0,0,0,0,0,())).2).2).1)) fun MT=>
          let v_93:Int:=(((List.getD Dr (Int.toNat JJ.1) (0,0,0,0,0,0,())).2).2).1;bif kL [qu (Gg ((Ch,CX,Cw),v_93)),decide (0≤JJ.1),decide (JJ.1<(↑(List.length Dr):Int))] then
           bif(!MT.1.2) then
            let Jj:cg.D:=List.getD Dr (Int.toNat JJ.1) (0,0,0,0,0,0,());bif kL [decide (0≤JJ.1),decide (JJ.1<(↑(List.length Dr):Int))] then
             bn (zog Hf ((Bx,A6,CK,(Ch,CX,Cw),(DH,CV),CY,Dr,By),Jj.1)) fun r_96=>
             bn (zog Jm (Jj.1,Jj.2.1,Jj.2.2.1)) fun r_97=>
             bif kL [qu (Jm (Jj.1,Jj.2.1,Jj.2.2.1)),qu (Hf ((Bx,A6,CK,(Ch,CX,Cw),(DH,CV),CY,Dr,By),Jj.1))] then
              some ((r_96.1,r_97.1),())
             else none
            else none
           else
            c9 Mb ((Bx,A6,CK,(Ch,CX,Cw),(DH,CV),CY,Dr,By),JJ.1,MT.1.1) fun r_98=>
             some (r_98.1,())
          else none
         else none
def Wh.q55 (xs:di.D):Option (List UInt8×Unit):=
 let e_0:=xs;c9 E5 (e_0.2.1,e_0.2.2.2.1,e_0.2.2.2.2.1) fun r_1=>
  some (r_1.1,())
def Wh.q96 (xs:List UInt8×List UInt8×Int):Option (List UInt8×Unit):=
 let Bc:=xs.1;let C4:=xs.2.1;let Ns:=xs.2.2;c9 KM (Bc,C4) fun r_3=>
  let oc:=bif(!r_3.1.2) then true else decide (Ns<0);bif oc then
   some (Bc,())
  else
   let r5:Int:=(↑(List.length r_3.1.1):Int);bif(decide (Ns>IntKind.wrap .i64 (r5-(↑(List.length Bc):Int)))) then
    some (r_3.1.1,())
   else
    let Ba:=IntKind.wrap .i64 ((↑(List.length Bc):Int)+Ns);let B7:List UInt8:=List.take (Int.toNat (Ba-0)) (List.drop (Int.toNat 0) r_3.1.1);bif kL [true,decide (0≤Ba),decide (Ba≤r5)] then
     some (B7,())
    else none
def Wh.q31 (xs:b7.D×List UInt8×Int):Option (b7.D×Unit):=
 let cx:=xs.1;let C4:=xs.2.1;let Ns:=xs.2.2;c9 Gi cx fun r_3=>
  bif !r_3.1 then
   some ((false,0,[],(0,[],()),([],0,()),[],[],()),())
  else
   c9 F_ (cx.2.2.2.1,C4) fun dz=>
    let oc:=bif cx.1 then dz.1.2 else false;bif oc then
     c9 q96 (cx.2.2.1,C4,Ns) fun nS=>
      some ((false,cx.2.1,nS.1,(0,[],()),([],0,()),[],[],()),())
    else
     some ((false,cx.2.1,cx.2.2.1,(0,[],()),([],0,()),[],[],()),())
def Wh.q33 (xs:b7.D):Option (b7.D×Unit):=
 let cx:b7.D:=xs;c9 Gi cx fun r_1=>
  bif !r_1.1 then
   some ((false,0,[],(0,[],()),([],0,()),[],[],()),())
  else
   bif cx.1 then
    c9 Ft cx fun r_2=>
     some (r_2.1,())
   else
    c9 Fw (cx.2.2.1) fun r_3=>
     c9 Jx r_3.1.1 fun dz=>
      bn (zog Ib ()) fun gv=>
      bn (zog Ip cx.2.1) fun nS=>
      let Ko:List UInt8:=List.take (Int.toNat (r_3.1.2-0)) (List.drop (Int.toNat 0) (cx.2.2.1));bif kL [qu (Ip cx.2.1),qu (Ib ()),true,decide (0≤r_3.1.2),decide (r_3.1.2≤(↑(List.length (cx.2.2.1)):Int))] then
       some ((true,cx.2.1,Ko,dz.1.1,gv.1,nS.1,[],()),())
      else none
def Wh.q56 (xs:(b7.D×List bm.D×List cp.D×List an.D×Unit)×di.D):Option (((b7.D×List bm.D×List cp.D×List an.D×Unit)×Bool)×Unit):=
 let w_0:=xs.1;let e_1:=xs.2;bif(e_1.1==1) then
  c9 q47 (w_0.1,e_1.2.1,e_1.2.2.2.1,e_1.2.2.2.2.1) fun r_3=>
   c9 KF (r_3.1.1,w_0.2) fun dz=>
    some ((dz.1,(r_3.1.2==0)),())
 else
  bif(e_1.1==2) then
   c9 q34 (w_0.1,e_1.2.1,e_1.2.2.2.1) fun AM=>
    some (((AM.1.1,w_0.2),(AM.1.2==0)),())
  else
   bif(e_1.1==6) then
    c9 q35 w_0.1 fun A8=>
     c9 G1 ((A8.1.1,w_0.2),-1,A8.1.2) fun BW=>
      some ((BW.1,(decide (A8.1.1.2.1>w_0.1.2.1))),())
   else
    bif(e_1.1==11) then
     bn (zog q55 e_1) fun De=>
     bn (zog q31 (w_0.1,De.1,e_1.2.2.1)) fun E9=>
     bif kL [qu (q31 (w_0.1,De.1,e_1.2.2.1)),qu (q55 e_1)] then
      some (((E9.1,w_0.2),w_0.1.1),())
     else none
    else
     c9 q33 w_0.1 fun Df=>
      c9 KF (Df.1,w_0.2) fun Hh=>
       some ((Hh.1,(!w_0.1.1)),())
def Wh.q78 (x:(Unit×Unit×Unit×Int)×((Bool×Int×List UInt8×(Int×Unit×Unit)×(Unit×Int×Unit)×Unit×Unit×Unit)×Unit×Unit×Unit×Unit)×di.D×(b7.D×Unit×Unit×Unit×Unit)×List an.D×List b9.D×List cw.D×List cg.D×List bm.D×List cp.D×List an.D×List bm.D×List cp.D×List an.D):Option ((Bool×Unit×Unit×Unit)×((Bool×Int×List UInt8×(Int×Unit×Unit)×(Unit×Int×Unit)×Unit×Unit×Unit)×Unit×Unit×Unit×Unit)×di.D×(b7.D×Unit×Unit×Unit×Unit)×List an.D×List b9.D×List cw.D×List cg.D×List bm.D×List cp.D×List an.D×List bm.D×List cp.D×List an.D):=
 let Pa:=x.1.2.2.2;let N4:=x.2.1.1.1;let Kc:=x.2.1.1.2.1;let N5:=x.2.1.1.2.2.1;let N6:=x.2.1.1.2.2.2.1.1;let N7:=x.2.1.1.2.2.2.1.2.2;let N8:=x.2.1.1.2.2.2.2.1.2;let FW:=x.2.1.1.2.2.2.2.2.2.2;let FX:=x.2.1.2.2.2.2;let Kd:=x.2.2.1;let N9:=x.2.2.2.1.1;let Ke:=x.2.2.2.1.2.2.2.2;let N_:=x.2.2.2.2.1;let Oa:=x.2.2.2.2.2.1;let Ob:=x.2.2.2.2.2.2.1;let Oc:=x.2.2.2.2.2.2.2.1;let Od:=x.2.2.2.2.2.2.2.2.1;let Oe:=x.2.2.2.2.2.2.2.2.2.1;let FY:=x.2.2.2.2.2.2.2.2.2.2.1;let Of:=x.2.2.2.2.2.2.2.2.2.2.2.1;let Og:=x.2.2.2.2.2.2.2.2.2.2.2.2.1;let Oh:=x.2.2.2.2.2.2.2.2.2.2.2.2.2;let v_205:=Pa==1;bif v_205 then
  some (((v_205,(),(),()),((N4,Kc,N5,(N6,(),N7),((),N8),(),(),FW),(),(),(),FX),Kd,(N9,(),(),(),Ke),N_,Oa,Ob,Oc,Od,Oe,FY,Of,Og,Oh))
 else
  let v_206:=Pa==2;bif v_206 then
   some (((v_206,(),(),()),((N4,Kc,N5,(N6,(),N7),((),N8),(),(),FW),(),(),(),FX),Kd,(N9,(),(),(),Ke),N_,Oa,Ob,Oc,Od,Oe,FY,Of,Og,Oh))
  else
   let RG:=Pa==6;bif RG then
    some (((RG,(),(),()),((N4,Kc,N5,(N6,(),N7),((),N8),(),(),FW),(),(),(),FX),Kd,(N9,(),(),(),Ke),N_,Oa,Ob,Oc,Od,Oe,FY,Of,Og,Oh))
   else
    let v_208:=Pa==11;bif v_208 then
     some (((v_208,(),(),()),((N4,Kc,N5,(N6,(),N7),((),N8),(),(),FW),(),(),(),FX),Kd,(N9,(),(),(),Ke),N_,Oa,Ob,Oc,Od,Oe,FY,Of,Og,Oh))
    else
     let v_209:=Pa==12;some (((v_209,(),(),()),((N4,Kc,N5,(N6,(),N7),((),N8),(),(),FW),(),(),(),FX),Kd,(N9,(),(),(),Ke),N_,Oa,Ob,Oc,Od,Oe,FY,Of,Og,Oh))
def Wh.Q5 (x:((Unit)×(Unit)×(Unit)×(Int))×((((Bool)×((Int)×((List UInt8)×(((Int)×((Unit)×(Unit)))×(((Unit)×((Int)×(Unit)))×((Unit)×((Unit)×(Unit))))))))×((Unit)×((Unit)×((Unit)×(Unit)))))×(di.D)×((b7.D)×((Unit)×((Unit)×((Unit)×(Unit)))))×(List (an.D))×(List (b9.D))×(List (cw.D))×(List (cg.D))×(List (bm.D))×(List (cp.D))×(List (an.D))×(List (bm.D))×(List (cp.D))×(List (an.D)))):(((Bool)×(Unit)×(Unit)×(Unit))×((((Bool)×((Int)×((List UInt8)×(((Int)×((Unit)×(Unit)))×(((Unit)×((Int)×(Unit)))×((Unit)×((Unit)×(Unit))))))))×((Unit)×((Unit)×((Unit)×(Unit)))))×(di.D)×((b7.D)×((Unit)×((Unit)×((Unit)×(Unit)))))×(List (an.D))×(List (b9.D))×(List (cw.D))×(List (cg.D))×(List (bm.D))×(List (cp.D))×(List (an.D))×(List (bm.D))×(List (cp.D))×(List (an.D)))):=match q78 x with | some y=>y|none=>(default,(default,default,default,default,default,default,default,default,default,default,default,default,default))
def Wh.q78_v (x:((Unit)×(Unit)×(Unit)×(Int))×((((Bool)×((Int)×((List UInt8)×(((Int)×((Unit)×(Unit)))×(((Unit)×((Int)×(Unit)))×((Unit)×((Unit)×(Unit))))))))×((Unit)×((Unit)×((Unit)×(Unit)))))×(di.D)×((b7.D)×((Unit)×((Unit)×((Unit)×(Unit)))))×(List (an.D))×(List (b9.D))×(List (cw.D))×(List (cg.D))×(List (bm.D))×(List (cp.D))×(List (an.D))×(List (bm.D))×(List (cp.D))×(List (an.D))))(y:(((Bool)×(Unit)×(Unit)×(Unit))×((((Bool)×((Int)×((List UInt8)×(((Int)×((Unit)×(Unit)))×(((Unit)×((Int)×(Unit)))×((Unit)×((Unit)×(Unit))))))))×((Unit)×((Unit)×((Unit)×(Unit)))))×(di.D)×((b7.D)×((Unit)×((Unit)×((Unit)×(Unit)))))×(List (an.D))×(List (b9.D))×(List (cw.D))×(List (cg.D))×(List (bm.D))×(List (cp.D))×(List (an.D))×(List (bm.D))×(List (cp.D))×(List (an.D)))))(h:q78 x=some y):Q5 x=y:=by unfold Q5;rw[h]
def Wh.q77 (x:(Unit×Unit×Unit×Int)×((Bool×Int×List UInt8×(Int×Unit×Unit)×(Unit×Int×Unit)×Unit×Unit×Unit)×Unit×Unit×Unit×Unit)×di.D×(b7.D×Unit×Unit×Unit×Unit)×List an.D×List b9.D×List cw.D×List cg.D×List bm.D×List cp.D×List an.D×List bm.D×List cp.D×List an.D):Option ((Bool×Unit×Unit×Unit×Int)×((Bool×Int×List UInt8×(Int×Unit×Unit)×(Unit×Int×Unit)×Unit×Unit×Unit)×Unit×Unit×Unit×Unit)×di.D×(b7.D×Unit×Unit×Unit×Unit)×List an.D×List b9.D×List cw.D×List cg.D×List bm.D×List cp.D×List an.D×List bm.D×List cp.D×List an.D):=
 let JL:=x.1.2.2.2;let Ev:=x.2.1.1.1;let Ew:=x.2.1.1.2.1;let Fq:=x.2.1.1.2.2.1;let GP:=x.2.1.1.2.2.2.1.1;let I5:=x.2.1.1.2.2.2.1.2.2;let I7:=x.2.1.1.2.2.2.2.1.2;let I9:=x.2.1.1.2.2.2.2.2.2.2;let LU:=x.2.1.2.2.2.2;let I_:=x.2.2.1;let HR:=x.2.2.2.1.1;let FU:=x.2.2.2.1.2.2.2.2;let FV:=x.2.2.2.2.1;let HS:=x.2.2.2.2.2.1;let EW:=x.2.2.2.2.2.2.1;let Ey:=x.2.2.2.2.2.2.2.1;let Ka:=x.2.2.2.2.2.2.2.2.1;let HT:=x.2.2.2.2.2.2.2.2.2.1;let Kb:=x.2.2.2.2.2.2.2.2.2.2.1;let GQ:=x.2.2.2.2.2.2.2.2.2.2.2.1;let Dp:=x.2.2.2.2.2.2.2.2.2.2.2.2.1;let HU:=x.2.2.2.2.2.2.2.2.2.2.2.2.2;let v_126:=JL==3;bif v_126 then
  some (((v_126,(),(),(),JL),((Ev,Ew,Fq,(GP,(),I5),((),I7),(),(),I9),(),(),(),LU),I_,(HR,(),(),(),FU),FV,HS,EW,Ey,Ka,HT,Kb,GQ,Dp,HU))
 else
  let v_127:=JL==4;bif v_127 then
   some (((v_127,(),(),(),JL),((Ev,Ew,Fq,(GP,(),I5),((),I7),(),(),I9),(),(),(),LU),I_,(HR,(),(),(),FU),FV,HS,EW,Ey,Ka,HT,Kb,GQ,Dp,HU))
  else
   let RF:=JL==5;bif RF then
    some (((RF,(),(),(),JL),((Ev,Ew,Fq,(GP,(),I5),((),I7),(),(),I9),(),(),(),LU),I_,(HR,(),(),(),FU),FV,HS,EW,Ey,Ka,HT,Kb,GQ,Dp,HU))
   else
    let v_129:=JL==7;some (((v_129,(),(),(),JL),((Ev,Ew,Fq,(GP,(),I5),((),I7),(),(),I9),(),(),(),LU),I_,(HR,(),(),(),FU),FV,HS,EW,Ey,Ka,HT,Kb,GQ,Dp,HU))
def Wh.Q4 (x:((Unit)×(Unit)×(Unit)×(Int))×((((Bool)×((Int)×((List UInt8)×(((Int)×((Unit)×(Unit)))×(((Unit)×((Int)×(Unit)))×((Unit)×((Unit)×(Unit))))))))×((Unit)×((Unit)×((Unit)×(Unit)))))×(di.D)×((b7.D)×((Unit)×((Unit)×((Unit)×(Unit)))))×(List (an.D))×(List (b9.D))×(List (cw.D))×(List (cg.D))×(List (bm.D))×(List (cp.D))×(List (an.D))×(List (bm.D))×(List (cp.D))×(List (an.D)))):(((Bool)×(Unit)×(Unit)×(Unit)×(Int))×((((Bool)×((Int)×((List UInt8)×(((Int)×((Unit)×(Unit)))×(((Unit)×((Int)×(Unit)))×((Unit)×((Unit)×(Unit))))))))×((Unit)×((Unit)×((Unit)×(Unit)))))×(di.D)×((b7.D)×((Unit)×((Unit)×((Unit)×(Unit)))))×(List (an.D))×(List (b9.D))×(List (cw.D))×(List (cg.D))×(List (bm.D))×(List (cp.D))×(List (an.D))×(List (bm.D))×(List (cp.D))×(List (an.D)))):=match q77 x with | some y=>y|none=>(default,(default,default,default,default,default,default,default,default,default,default,default,default,default))
def Wh.q77_v (x:((Unit)×(Unit)×(Unit)×(Int))×((((Bool)×((Int)×((List UInt8)×(((Int)×((Unit)×(Unit)))×(((Unit)×((Int)×(Unit)))×((Unit)×((Unit)×(Unit))))))))×((Unit)×((Unit)×((Unit)×(Unit)))))×(di.D)×((b7.D)×((Unit)×((Unit)×((Unit)×(Unit)))))×(List (an.D))×(List (b9.D))×(List (cw.D))×(List (cg.D))×(List (bm.D))×(List (cp.D))×(List (an.D))×(List (bm.D))×(List (cp.D))×(List (an.D))))(y:(((Bool)×(Unit)×(Unit)×(Unit)×(Int))×((((Bool)×((Int)×((List UInt8)×(((Int)×((Unit)×(Unit)))×(((Unit)×((Int)×(Unit)))×((Unit)×((Unit)×(Unit))))))))×((Unit)×((Unit)×((Unit)×(Unit)))))×(di.D)×((b7.D)×((Unit)×((Unit)×((Unit)×(Unit)))))×(List (an.D))×(List (b9.D))×(List (cw.D))×(List (cg.D))×(List (bm.D))×(List (cp.D))×(List (an.D))×(List (bm.D))×(List (cp.D))×(List (an.D)))))(h:q77 x=some y):Q4 x=y:=by unfold Q4;rw[h]
def Wh.q76 (x:(Unit×Unit×Unit×Int)×((Bool×Int×List UInt8×(Int×Unit×Unit)×(Unit×Int×Unit)×Unit×Unit×Unit)×Unit×Unit×Unit×Unit)×di.D×(b7.D×Unit×Unit×Unit×Unit)×List an.D×List b9.D×List cw.D×List cg.D×List bm.D×List cp.D×List an.D×List bm.D×List cp.D×List an.D):Option ((Bool×Unit×Unit×Unit×Int)×((Bool×Int×List UInt8×(Int×Unit×Unit)×(Unit×Int×Unit)×Unit×Unit×Unit)×Unit×Unit×Unit×Unit)×di.D×(b7.D×Unit×Unit×Unit×Unit)×List an.D×List b9.D×List cw.D×List cg.D×List bm.D×List cp.D×List an.D×List bm.D×List cp.D×List an.D):=
 let Dz:=x.1.2.2.2;let ov:=x.2.1.1.1;let BQ:=x.2.1.1.2.1;let Bf:=x.2.1.1.2.2.1;let Bg:=x.2.1.1.2.2.2.1.1;let Au:=x.2.1.1.2.2.2.1.2.2;let A0:=x.2.1.1.2.2.2.2.1.2;let th:=x.2.1.1.2.2.2.2.2.2.2;let m6:=x.2.1.2.2.2.2;let AD:=x.2.2.1;let Bh:=x.2.2.2.1.1;let ng:=x.2.2.2.1.2.2.2.2;let AI:=x.2.2.2.2.1;let AJ:=x.2.2.2.2.2.1;let xd:=x.2.2.2.2.2.2.1;let wm:=x.2.2.2.2.2.2.2.1;let nE:=x.2.2.2.2.2.2.2.2.1;let w7:=x.2.2.2.2.2.2.2.2.2.1;let s9:=x.2.2.2.2.2.2.2.2.2.2.1;let zC:=x.2.2.2.2.2.2.2.2.2.2.2.1;let AK:=x.2.2.2.2.2.2.2.2.2.2.2.2.1;let s_:=x.2.2.2.2.2.2.2.2.2.2.2.2.2;let Ht:=Dz==8;bif Ht then
  some (((Ht,(),(),(),Dz),((ov,BQ,Bf,(Bg,(),Au),((),A0),(),(),th),(),(),(),m6),AD,(Bh,(),(),(),ng),AI,AJ,xd,wm,nE,w7,s9,zC,AK,s_))
 else
  let IE:=Dz==9;bif IE then
   some (((IE,(),(),(),Dz),((ov,BQ,Bf,(Bg,(),Au),((),A0),(),(),th),(),(),(),m6),AD,(Bh,(),(),(),ng),AI,AJ,xd,wm,nE,w7,s9,zC,AK,s_))
  else
   let B9:=Dz==10;some (((B9,(),(),(),Dz),((ov,BQ,Bf,(Bg,(),Au),((),A0),(),(),th),(),(),(),m6),AD,(Bh,(),(),(),ng),AI,AJ,xd,wm,nE,w7,s9,zC,AK,s_))
def Wh.Q3 (x:((Unit)×(Unit)×(Unit)×(Int))×((((Bool)×((Int)×((List UInt8)×(((Int)×((Unit)×(Unit)))×(((Unit)×((Int)×(Unit)))×((Unit)×((Unit)×(Unit))))))))×((Unit)×((Unit)×((Unit)×(Unit)))))×(di.D)×((b7.D)×((Unit)×((Unit)×((Unit)×(Unit)))))×(List (an.D))×(List (b9.D))×(List (cw.D))×(List (cg.D))×(List (bm.D))×(List (cp.D))×(List (an.D))×(List (bm.D))×(List (cp.D))×(List (an.D)))):(((Bool)×(Unit)×(Unit)×(Unit)×(Int))×((((Bool)×((Int)×((List UInt8)×(((Int)×((Unit)×(Unit)))×(((Unit)×((Int)×(Unit)))×((Unit)×((Unit)×(Unit))))))))×((Unit)×((Unit)×((Unit)×(Unit)))))×(di.D)×((b7.D)×((Unit)×((Unit)×((Unit)×(Unit)))))×(List (an.D))×(List (b9.D))×(List (cw.D))×(List (cg.D))×(List (bm.D))×(List (cp.D))×(List (an.D))×(List (bm.D))×(List (cp.D))×(List (an.D)))):=match q76 x with | some y=>y|none=>(default,(default,default,default,default,default,default,default,default,default,default,default,default,default))
def Wh.q76_v (x:((Unit)×(Unit)×(Unit)×(Int))×((((Bool)×((Int)×((List UInt8)×(((Int)×((Unit)×(Unit)))×(((Unit)×((Int)×(Unit)))×((Unit)×((Unit)×(Unit))))))))×((Unit)×((Unit)×((Unit)×(Unit)))))×(di.D)×((b7.D)×((Unit)×((Unit)×((Unit)×(Unit)))))×(List (an.D))×(List (b9.D))×(List (cw.D))×(List (cg.D))×(List (bm.D))×(List (cp.D))×(List (an.D))×(List (bm.D))×(List (cp.D))×(List (an.D))))(y:(((Bool)×(Unit)×(Unit)×(Unit)×(Int))×((((Bool)×((Int)×((List UInt8)×(((Int)×((Unit)×(Unit)))×(((Unit)×((Int)×(Unit)))×((Unit)×((Unit)×(Unit))))))))×((Unit)×((Unit)×((Unit)×(Unit)))))×(di.D)×((b7.D)×((Unit)×((Unit)×((Unit)×(Unit)))))×(List (an.D))×(List (b9.D))×(List (cw.D))×(List (cg.D))×(List (bm.D))×(List (cp.D))×(List (an.D))×(List (bm.D))×(List (cp.D))×(List (an.D)))))(h:q76 x=some y):Q3 x=y:=by unfold Q3;rw[h]
def Wh.KX (xs:(b7.D×List bm.D×List cp.D×List an.D×Unit)×di.D):Option ((fk.D×Bool)×Unit):=
 let w_0:=xs.1;let e_1:=xs.2;CC q76 Q3 ((((),(),(),e_1.1),((false,0,[],(0,(),()),((),0,()),(),(),()),(),(),(),()),e_1,(w_0.1,(),(),(),w_0.2.2.2.2),[],[],[],[],[],[],[],w_0.2.1,w_0.2.2.1,w_0.2.2.2.1)) fun B_=>
  let Az:=B_.1.1;let JN:=B_.1.2.2.2.2;let n5:=B_.2.1.1.1;let AL:=B_.2.1.1.2.1;let Cp:=B_.2.1.1.2.2.1;let Ce:=B_.2.1.1.2.2.2.1.1;let Bl:=B_.2.1.1.2.2.2.1.2.2;let BR:=B_.2.1.1.2.2.2.2.1.2;let Cf:=B_.2.1.1.2.2.2.2.2.2.2;let Bn:=B_.2.1.2.2.2.2;let A2:=B_.2.2.1;let BT:=B_.2.2.2.1.1;let CU:=B_.2.2.2.1.2.2.2.2;let BH:=B_.2.2.2.2.1;let Cg:=B_.2.2.2.2.2.1;let Ec:=B_.2.2.2.2.2.2.1;let Dq:=B_.2.2.2.2.2.2.2.1;let Bx:=B_.2.2.2.2.2.2.2.2.1;let A6:=B_.2.2.2.2.2.2.2.2.2.1;let CK:=B_.2.2.2.2.2.2.2.2.2.2.1;let Ch:=B_.2.2.2.2.2.2.2.2.2.2.2.1;let Cw:=B_.2.2.2.2.2.2.2.2.2.2.2.2.1;let CV:=B_.2.2.2.2.2.2.2.2.2.2.2.2.2;bif Az then
   c9 q79 ((BT,Ch,Cw,CV,CU),A2) fun OR=>
    some (OR.1,())
  else
   CC q77 Q4 ((((),(),(),JN),((n5,AL,Cp,(Ce,(),Bl),((),BR),(),(),Cf),(),(),(),Bn),A2,(BT,(),(),(),CU),BH,Cg,Ec,Dq,Bx,A6,CK,Ch,Cw,CV)) fun Cr=>
    let v_132:=Cr.1.1;let UD:=Cr.1.2.2.2.2;let Ql:=Cr.2.1.1.1;let Qm:=Cr.2.1.1.2.1;let Qn:=Cr.2.1.1.2.2.1;let Ti:=Cr.2.1.1.2.2.2.1.1;let Tj:=Cr.2.1.1.2.2.2.1.2.2;let Tk:=Cr.2.1.1.2.2.2.2.1.2;let ls_140:=Cr.2.1.1.2.2.2.2.2.2.2;let ls_141:=Cr.2.1.2.2.2.2;let YH:=Cr.2.2.1;let YI:=Cr.2.2.2.1.1;let YJ:=Cr.2.2.2.1.2.2.2.2;let ls_145:=Cr.2.2.2.2.1;let Tl:=Cr.2.2.2.2.2.1;let Tm:=Cr.2.2.2.2.2.2.1;let LV:=Cr.2.2.2.2.2.2.2.1;let HV:=Cr.2.2.2.2.2.2.2.2.1;let Tn:=Cr.2.2.2.2.2.2.2.2.2.1;let To:=Cr.2.2.2.2.2.2.2.2.2.2.1;let Qo:=Cr.2.2.2.2.2.2.2.2.2.2.2.1;let Qp:=Cr.2.2.2.2.2.2.2.2.2.2.2.2.1;let Qq:=Cr.2.2.2.2.2.2.2.2.2.2.2.2.2;bif v_132 then
     c9 q54 ((YI,Qo,Qp,Qq,YJ),YH) fun r_155=>
      some (r_155.1,())
    else
     CC q78 Q5 ((((),(),(),UD),((Ql,Qm,Qn,(Ti,(),Tj),((),Tk),(),(),ls_140),(),(),(),ls_141),YH,(YI,(),(),(),YJ),ls_145,Tl,Tm,LV,HV,Tn,To,Qo,Qp,Qq)) fun Lu=>
      let v_212:=Lu.1.1;let ls_221:=Lu.2.2.1;let YM:=Lu.2.2.2.1.1;let YN:=Lu.2.2.2.1.2.2.2.2;let YO:=Lu.2.2.2.2.2.2.2.2.2.2.2.1;let YP:=Lu.2.2.2.2.2.2.2.2.2.2.2.2.1;let YQ:=Lu.2.2.2.2.2.2.2.2.2.2.2.2.2;bif v_212 then
       c9 q56 ((YM,YO,YP,YQ,YN),ls_221) fun r_234=>
        some (r_234.1,())
      else
       some (((YM,YO,YP,YQ,YN),false),())
abbrev Wh.acj:Type:=(Int×Unit×Unit×Unit×Unit)×dj.D×fk.D×List di.D×((Bool×Int×List UInt8×(Int×Unit×Unit)×(Unit×Int×Unit)×Unit×Unit×Unit)×Unit×Unit×Unit×Unit)×List an.D×List b9.D×List cw.D×List cg.D×List bm.D×List cp.D×List an.D
abbrev Wh.aiO:Type:=(Unit×Unit×Unit)×dj.D×((Bool×Int×List UInt8×(Int×Unit×Unit)×(Unit×Int×Unit)×Unit×Unit×Unit)×Unit×Unit×Unit×Unit)×fk.D×List di.D×List an.D×List b9.D×List cw.D×List cg.D×List bm.D×List cp.D×List an.D
def Wh.Q6 (x:acj):Option (acj⊕aiO):=
 let n_38:=x.1.1;let pb_39:=x.2.1;let AJ:=x.2.2.1;let xd:=x.2.2.2.1;let wm:=x.2.2.2.2.1.1.1;let nE:=x.2.2.2.2.1.1.2.1;let w7:=x.2.2.2.2.1.1.2.2.1;let s9:=x.2.2.2.2.1.1.2.2.2.1.1;let zC:=x.2.2.2.2.1.1.2.2.2.1.2.2;let AK:=x.2.2.2.2.1.1.2.2.2.2.1.2;let s_:=x.2.2.2.2.1.1.2.2.2.2.2.2.2;let Av:=x.2.2.2.2.1.2.2.2.2;let nP:=x.2.2.2.2.2.1;let xe:=x.2.2.2.2.2.2.1;let tn:=x.2.2.2.2.2.2.2.1;let AE:=x.2.2.2.2.2.2.2.2.1;let A1:=x.2.2.2.2.2.2.2.2.2.1;let AP:=x.2.2.2.2.2.2.2.2.2.2.1;let n5:=x.2.2.2.2.2.2.2.2.2.2.2;bif decide (n_38>0) then
  c9 q81 (pb_39,AJ) fun Lf=>
   let TX:List (di.D):=[Lf.1];let Bl:=xd++TX;bif kL [decide (List.length xd+(1:Nat)≤eV)] then
    bn (zog H_ AJ) fun C3=>
    bn (zog KX (C3.1,Lf.1)) fun r_62=>
    bif kL [qu (KX (C3.1,Lf.1)),qu (H_ AJ)] then
     bif r_62.1.2 then
      some (.inl (((IntKind.wrap .i64 (n_38-1)),(),(),(),()),Lf.2.1,r_62.1.1,Bl,((wm,nE,w7,(s9,(),zC),((),AK),(),(),s_),(),(),(),Av),nP,xe,tn,AE,A1,AP,n5))
     else
      some (.inl (((IntKind.wrap .i64 (n_38-1)),(),(),(),()),Lf.2.1,AJ,Bl,((wm,nE,w7,(s9,(),zC),((),AK),(),(),s_),(),(),(),Av),nP,xe,tn,AE,A1,AP,n5))
    else none
   else none
 else
  some (.inr (((),(),()),pb_39,((wm,nE,w7,(s9,(),zC),((),AK),(),(),s_),(),(),(),Av),AJ,xd,nP,xe,tn,AE,A1,AP,n5))
def Wh.ack:(Unit×Unit×Unit)×dj.D×((Bool×Int×List UInt8×(Int×Unit×Unit)×(Unit×Int×Unit)×Unit×Unit×Unit)×Unit×Unit×Unit×Unit)×fk.D×List di.D×List an.D×List b9.D×List cw.D×List cg.D×List bm.D×List cp.D×List an.D:=default
def Wh.q82 (xs:dj.D×Int):Option ((List di.D×b7.D×List bm.D×List cp.D×List an.D×Unit)×dj.D×Unit):=
 let w8:=xs.1;let most_1:=xs.2;c9 q73 () fun r_2=>
  c9 m5 (w8,most_1) fun r_3=>
   g8 Q6 ack (((r_3.1,(),(),(),()),r_3.2.1,r_2.1,[],((false,0,[],(0,(),()),((),0,()),(),(),()),(),(),(),()),[],[],[],[],[],[],[])) fun Pq=>
    let L6:=Pq.2.1;let DH:=Pq.2.2.2.1;let CY:=Pq.2.2.2.2.1;c9 H_ DH fun MT=>
     some ((CY,MT.1),L6,())
def Wh.q84 (xs:dj.D):Option ((b7.D×List bm.D×List cp.D×List an.D×Unit)×dj.D×Unit):=
 let w8:dj.D:=xs;c9 q82 (w8,110) fun r_1=>
  some (r_1.1.2,r_1.2.1,())
def Wh.q4 (xs:dj.D×fk.D):Option ((b7.D×List bm.D×List cp.D×List an.D×Unit)×dj.D×Unit):=
 let w8:=xs.1;let w_1:=xs.2;c9 H_ w_1 fun r_2=>
  c9 m5 (w8,8) fun r_3=>
   bif(r_3.1==0) then
    bn (zog m5 (r_3.2.1,4)) fun gv=>
    bn (zog m5 (gv.2.1,2)) fun nS=>
    let Kp:=List.set (r_2.1.2.1) (Int.toNat gv.1) ((List.getD (r_2.1.2.1) (Int.toNat gv.1) (0,0,0,[],0,((0,0,[],[],()),(0,0,[],()),()),())).1,List.getD [(-1:Int),0] (Int.toNat nS.1) 0,((List.getD (r_2.1.2.1) (Int.toNat gv.1) (0,0,0,[],0,((0,0,[],[],()),(0,0,[],()),()),())).2).2);bif kL [decide (0≤gv.1),decide (gv.1<(↑(List.length (r_2.1.2.1)):Int)),decide (0≤nS.1),decide (nS.1<(↑(2:Nat):Int)),qu (m5 (gv.2.1,2)),qu (m5 (r_3.2.1,4))] then
     some ((r_2.1.1,Kp,r_2.1.2.2),nS.2.1,())
    else none
   else
    bif(r_3.1==1) then
     bn (zog m5 (r_3.2.1,4)) fun Df=>
     bn (zog m5 (Df.2.1,6)) fun Hh=>
     let BU:=List.set (r_2.1.2.1) (Int.toNat Df.1) ((List.getD (r_2.1.2.1) (Int.toNat Df.1) (0,0,0,[],0,((0,0,[],[],()),(0,0,[],()),()),())).1,((List.getD (r_2.1.2.1) (Int.toNat Df.1) (0,0,0,[],0,((0,0,[],[],()),(0,0,[],()),()),())).2).1,Hh.1,(((List.getD (r_2.1.2.1) (Int.toNat Df.1) (0,0,0,[],0,((0,0,[],[],()),(0,0,[],()),()),())).2).2).2);bif kL [decide (0≤Df.1),decide (Df.1<(↑(List.length (r_2.1.2.1)):Int)),qu (m5 (Df.2.1,6)),qu (m5 (r_3.2.1,4))] then
      some ((r_2.1.1,BU,r_2.1.2.2),Hh.2.1,())
     else none
    else
     bif(r_3.1==2) then
      let pb_25:Nat:=Int.toNat ((↑(List.length (r_2.1.2.1)):Int)-1);bif kL [true,decide (1≤(↑(List.length (r_2.1.2.1)):Int)),decide ((↑(List.length (r_2.1.2.1)):Int)≤(↑(List.length (r_2.1.2.1)):Int))] then
       some ((r_2.1.1,List.take pb_25 (List.drop (Int.toNat 1) (r_2.1.2.1)),r_2.1.2.2),r_3.2.1,())
      else none
     else
      bif(r_3.1==3) then
       let TR:=r_2.1.1.2.2.1 ++ [(120:UInt8)];bif kL [decide (List.length (r_2.1.1.2.2.1)+(1:Nat)≤eV)] then
        some (((r_2.1.1.1,r_2.1.1.2.1,TR,r_2.1.1.2.2.2),r_2.1.2),r_3.2.1,())
       else none
      else
       bif(r_3.1==4) then
        some ((((!r_2.1.1.1),r_2.1.1.2),r_2.1.2),r_3.2.1,())
       else
        bif(r_3.1==5) then
         let vT:List (an.D):=[(0,[(97:UInt8)],IntKind.wrap .i64 ((↑(List.length (r_2.1.2.2.2.1)):Int)+1),[(120:UInt8)],())];let DU:List (an.D):=r_2.1.2.2.2.1++vT;bif kL [decide (List.length (r_2.1.2.2.2.1)+(1:Nat)≤eV)] then
          some ((r_2.1.1,r_2.1.2.1,r_2.1.2.2.1,DU,r_2.1.2.2.2.2),r_3.2.1,())
         else none
        else
         bif(r_3.1==6) then
          let TU:=r_2.1.2.2.1 ++ [(7,[(120:UInt8)],false,())];bif kL [decide (List.length (r_2.1.2.2.1)+(1:Nat)≤eV)] then
           some ((r_2.1.1,r_2.1.2.1,TU,r_2.1.2.2.2),r_3.2.1,())
          else none
         else
          some (((r_2.1.1.1,r_2.1.1.2.1,r_2.1.1.2.2.1,((IntKind.wrap .i64 (r_2.1.1.2.2.2.1.1+1)),r_2.1.1.2.2.2.1.2),r_2.1.1.2.2.2.2),r_2.1.2),r_3.2.1,())
def Wh.q13 (xs:dj.D):Option ((b7.D×List bm.D×List cp.D×List an.D×Unit)×dj.D×Unit):=
 let w8:dj.D:=xs;c9 q84 w8 fun r_1=>
  c9 m5 (r_1.2.1,14) fun r_2=>
   bif(r_2.1==0) then
    c9 Wh.q4 (r_2.2.1,r_1.1) fun dz=>
     some (dz.1,dz.2.1,())
   else
    some (r_1.1,r_2.2.1,())
def Wh.MI (xs:dj.D):Option (bm.D×dj.D×Unit):=
 let w8:dj.D:=xs;c9 q13 w8 fun r_1=>
  bn (zog m5 (r_1.2.1,(↑(List.length (r_1.1.2.1)):Int))) fun r_2=>
  let Dv:=List.getD (r_1.1.2.1) (Int.toNat r_2.1) (0,0,0,[],0,((0,0,[],[],()),(0,0,[],()),()),());let AG:Int:=(↑(List.length (r_1.1.2.1)):Int);bif kL [decide (0≤r_2.1),decide (r_2.1<AG),qu (m5 (r_1.2.1,AG))] then
   some (Dv,r_2.2.1,())
  else none
def Wh.A7 (xs:Int×Int×Int):Option (Bool×Unit):=
 let Du:=xs.1;let Th:=xs.2.1;let SX:=xs.2.2;let oc:=bif decide (Du≥Th) then decide (Du≤SX) else false;some (oc,())
def Wh.q63 (xs:Int):Option (Bool×Unit):=
 let Du:=xs;c9 A7 (Du,0,3) fun r_1=>
  some (r_1.1,())
def Wh.KR (xs:nT.D):Option (Bool×Unit):=
 let nC:=xs;let A_:=bif bif bif bif bif bif(nC.1.1==0) then nC.1.2.1==0 else false then(↑(List.length (nC.1.2.2.1)):Int)==0 else false then(↑(List.length (nC.1.2.2.2.1)):Int)==0 else false then nC.2.1.1==0 else false then nC.2.1.2.1==0 else false then(↑(List.length (nC.2.1.2.2.1)):Int)==0 else false;some (A_,())
def Wh.Ek (xs:gT.D):Option (Int×Unit):=
 let fy:gT.D:=xs;bif kL [fy.2.1 != 0] then
  some ((IntKind.wrap .i64 (Int.tdiv (IntKind.wrap .i64 ((IntKind.wrap .i64 (fy.1+fy.2.1))-1)) fy.2.1)),())
 else none
abbrev Wh.aaf:Type:=(Int×Unit×List Int×Int)×gT.D
abbrev Wh.ahO:Type:=Bool×Unit⊕Unit×Unit
def Wh.G3 (x:aaf):Option (aaf⊕ahO):=
 let BK:=x.1.1;let C5:=x.1.2.2.1;let EM:=x.1.2.2.2;let ng:=x.2;bif decide (BK<EM) then
  let FE:=List.getD C5 (Int.toNat BK) 0;bif kL [decide (0≤BK),decide (BK<(↑(List.length C5):Int))] then
   bn (zog Ek ng) fun MO=>
   bn (zog A7 (FE,1,MO.1)) fun Hl=>
   bn (zog A7 (List.getD (ng.2.2.2.1) (Int.toNat BK) 0,1,99)) fun MQ=>
   let B9:=bif bif !Hl.1 then true else bif decide (BK>0) then decide (List.getD (ng.2.2.1) (Int.toNat (IntKind.wrap .i64 (BK-1))) 0≥FE) else false then true else !MQ.1;bif kL [(!!bif !Hl.1 then true else bif decide (BK>0) then decide (List.getD (ng.2.2.1) (Int.toNat (IntKind.wrap .i64 (BK-1))) 0≥FE) else false) || qu (A7 (List.getD (ng.2.2.2.1) (Int.toNat BK) 0,1,99)),(!!bif !Hl.1 then true else bif decide (BK>0) then decide (List.getD (ng.2.2.1) (Int.toNat (IntKind.wrap .i64 (BK-1))) 0≥FE) else false) || decide (0≤BK),(!!bif !Hl.1 then true else bif decide (BK>0) then decide (List.getD (ng.2.2.1) (Int.toNat (IntKind.wrap .i64 (BK-1))) 0≥FE) else false) || decide (BK<(↑(List.length (ng.2.2.2.1)):Int)),!(decide (BK>0) && !!Hl.1) || decide (0≤IntKind.wrap .i64 (BK-1)),!(decide (BK>0) && !!Hl.1) || decide (IntKind.wrap .i64 (BK-1)<(↑(List.length (ng.2.2.1)):Int)),qu (A7 (FE,1,MO.1)),qu (Ek ng)] then
    bif B9 then
     some (.inr (.inl (false,())))
    else
     some (.inl (((IntKind.wrap .i64 (BK+1)),(),C5,EM),ng))
   else none
  else none
 else
  some (.inr (.inr ((),())))
def Wh.aag:Bool×Unit⊕Unit×Unit:=.inl default
def Wh.EE (xs:gT.D):Option (Bool×Unit):=
 let fy:gT.D:=xs;bn (zog A7 (fy.1,1,300)) fun r_1=>
 bn (zog A7 (fy.2.1,1,16)) fun r_2=>
 bn (zog Ek fy) fun gv=>
 let r5:=bif bif !r_1.1 then true else !r_2.1 then true else decide (gv.1>24);bif kL [(!!bif !r_1.1 then true else !r_2.1) || qu (Ek fy),!!!r_1.1 || qu (A7 (fy.2.1,1,16)),qu (A7 (fy.1,1,300))] then
  bif r5 then
   some (false,())
  else
   let n4:Int:=(↑(List.length (fy.2.2.1)):Int);bn (zog A7 (n4,1,3)) fun E9=>
   let qe:=bif bif !E9.1 then true else(↑(List.length (fy.2.2.2.1)):Int) != n4 then true else List.getD (fy.2.2.1) (Int.toNat (IntKind.wrap .i64 (n4-1))) 0 != gv.1;bif kL [(!!bif !E9.1 then true else(↑(List.length (fy.2.2.2.1)):Int) != n4) || qu (Ek fy),(!!bif !E9.1 then true else(↑(List.length (fy.2.2.2.1)):Int) != n4) || decide (0≤IntKind.wrap .i64 (n4-1)),(!!bif !E9.1 then true else(↑(List.length (fy.2.2.2.1)):Int) != n4) || decide (IntKind.wrap .i64 (n4-1)<n4),qu (A7 (n4,1,3))] then
    bif qe then
     some (false,())
    else
     g8 G3 aag (((0,(),fy.2.2.1,n4),fy)) fun q_=>
      sumC q_ (fun Nl=>
       let FF:=Nl.1;some (FF,())) (fun _=>
       some (true,()))
   else none
 else none
abbrev Wh.aaN:Type:=(Int×List Int×Int×List Int×Int)×Unit
abbrev Wh.ah5:Type:=Bool×Unit⊕Int×Unit
def Wh.Jw (x:aaN):Option (aaN⊕ah5):=
 let qe:=x.1.1;let Uj:=x.1.2.1;let Sl:=x.1.2.2.1;let n_:=x.1.2.2.2.1;let iL:=x.1.2.2.2.2;bif decide (qe<iL) then
  let nW:=List.getD n_ (Int.toNat qe) 0;bif kL [decide (0≤qe),decide (qe<(↑(List.length n_):Int))] then
   let nI:=IntKind.wrap .i64 (Sl-1);bn (zog A7 (nW,0,nI)) fun EJ=>
   let we:=bif !EJ.1 then true else bif decide (qe>0) then decide (List.getD Uj (Int.toNat (IntKind.wrap .i64 (qe-1))) 0≥nW) else false;bif kL [!(decide (qe>0) && !!EJ.1) || decide (0≤IntKind.wrap .i64 (qe-1)),!(decide (qe>0) && !!EJ.1) || decide (IntKind.wrap .i64 (qe-1)<(↑(List.length Uj):Int)),qu (A7 (nW,0,nI))] then
    bif we then
     some (.inr (.inl (false,())))
    else
     some (.inl (((IntKind.wrap .i64 (qe+1)),Uj,Sl,n_,iL),()))
   else none
  else none
 else
  some (.inr (.inr (Sl,())))
def Wh.aaO:Bool×Unit⊕Int×Unit:=.inl default
def Wh.Ij (xs:List Int×Int):Option (Bool×Unit):=
 let Hp:=xs.1;let Sj:=xs.2;g8 Jw aaO (((0,Hp,Sj,Hp,(↑(List.length Hp):Int)),())) fun q_=>
  sumC q_ (fun y_31=>
   let BY:=y_31.1;some (BY,())) (fun z_32=>
   let HD:=z_32.1;c9 A7 (HD,0,24) fun DL=>
    some (DL.1,()))
abbrev Wh.abz:Type:=(Int×Int×List Int×Int)×Unit
abbrev Wh.ait:Type:=Int×Unit
def Wh.OK (x:abz):Option (abz⊕ait):=
 let Ba:=x.1.1;let m_10:=x.1.2.1;let B7:=x.1.2.2.1;let A3:=x.1.2.2.2;bif decide (Ba<A3) then
  let r_:=List.getD B7 (Int.toNat Ba) 0;bif kL [decide (0≤Ba),decide (Ba<(↑(List.length B7):Int))] then
   bif kL [decide (0≤r_)] then
    some (.inl (((IntKind.wrap .i64 (Ba+1)),pZ Go.BinOp.or Go.IntKind.u32 m_10 (IntKind.wrap .u32 ((1:Int)*2 ^ Min.min (Int.toNat r_) (Go.IntKind.bits Go.IntKind.u32))),B7,A3),()))
   else none
  else none
 else
  some (.inr (m_10,()))
def Wh.abA:Int×Unit:=default
def Wh.JB (xs:List Int):Option (Int×Unit):=
 let Hp:=xs;g8 OK abA (((0,0,Hp,(↑(List.length Hp):Int)),())) fun Pn=>
  let m_19:=Pn.1;some (m_19,())
abbrev Wh.abZ:Type:=(Int×Int×List e_.D×Int)×Unit
abbrev Wh.aiF:Type:=Bool×Unit⊕Unit×Unit
def Wh.MD (x:abZ):Option (abZ⊕aiF):=
 let IG:=x.1.1;let Zz:=x.1.2.1;let Fa:=x.1.2.2.1;let v_70:=x.1.2.2.2;bif decide (IG<v_70) then
  let Ox:=List.getD Fa (Int.toNat IG) ([],[],());bif kL [decide (0≤IG),decide (IG<(↑(List.length Fa):Int))] then
   let RM:List Int:=List.take (Int.toNat ((↑(List.length Ox.1):Int)-1)) (List.drop (Int.toNat 1) Ox.1);bn (zog JB RM) fun OR=>
   let v_78:=pZ Go.BinOp.and Go.IntKind.u32 OR.1 Zz != 0;bif kL [qu (JB RM),true,decide (1≤(↑(List.length Ox.1):Int)),decide ((↑(List.length Ox.1):Int)≤(↑(List.length Ox.1):Int))] then
    bif v_78 then
     some (.inr (.inl (false,())))
    else
     some (.inl (((IntKind.wrap .i64 (IG+1)),Zz,Fa,v_70),()))
   else none
  else none
 else
  some (.inr (.inr ((),())))
def Wh.ab0:Bool×Unit⊕Unit×Unit:=.inl default
abbrev Wh.abX:Type:=(Int×Int×Unit×List e_.D×Int)×ei.D
abbrev Wh.aiE:Type:=Bool×Unit⊕(Int×Unit)×ei.D
def Wh.Ir (x:abX):Option (abX⊕aiE):=
 let x3:=x.1.1;let Zy:=x.1.2.1;let we:=x.1.2.2.2.1;let CP:=x.1.2.2.2.2;let Bf:=x.2;bif decide (x3<CP) then
  let DU:=List.getD we (Int.toNat x3) ([],[],());bif kL [decide (0≤x3),decide (x3<(↑(List.length we):Int))] then
   let BY:Int:=(↑(List.length DU.1):Int);bn (zog Ij (DU.1,Bf.1)) fun Gq=>
   let Ln:=bif bif bif BY==0 then true else !Gq.1 then true else(↑(List.length DU.2.1):Int) != Bf.2.1 then true else bif decide (x3>0) then decide (List.getD ((List.getD (Bf.2.2.1) (Int.toNat (IntKind.wrap .i64 (x3-1))) ([],[],())).1) (Int.toNat 0) 0≥List.getD DU.1 (Int.toNat 0) 0) else false;bif kL [!(decide (x3>0) && !bif bif BY==0 then true else !Gq.1 then true else(↑(List.length DU.2.1):Int) != Bf.2.1) || decide ((0:Int)≤0),!(decide (x3>0) && !bif bif BY==0 then true else !Gq.1 then true else(↑(List.length DU.2.1):Int) != Bf.2.1) || decide (0<BY),!(decide (x3>0) && !bif bif BY==0 then true else !Gq.1 then true else(↑(List.length DU.2.1):Int) != Bf.2.1) || decide ((0:Int)≤0),!(decide (x3>0) && !bif bif BY==0 then true else !Gq.1 then true else(↑(List.length DU.2.1):Int) != Bf.2.1) || decide (0<(↑(List.length ((List.getD (Bf.2.2.1) (Int.toNat (IntKind.wrap .i64 (x3-1))) ([],[],())).1)):Int)),!(decide (x3>0) && !bif bif BY==0 then true else !Gq.1 then true else(↑(List.length DU.2.1):Int) != Bf.2.1) || decide (0≤IntKind.wrap .i64 (x3-1)),!(decide (x3>0) && !bif bif BY==0 then true else !Gq.1 then true else(↑(List.length DU.2.1):Int) != Bf.2.1) || decide (IntKind.wrap .i64 (x3-1)<(↑(List.length (Bf.2.2.1)):Int)),!!BY==0 || qu (Ij (DU.1,Bf.1))] then
    bif Ln then
     some (.inr (.inl (false,())))
    else
     let Lo:=List.getD DU.1 (Int.toNat 0) 0;let ahl:Int:=pZ Go.BinOp.or Go.IntKind.u32 Zy (IntKind.wrap .u32 ((1:Int)*2 ^ Min.min (Int.toNat Lo) (Go.IntKind.bits Go.IntKind.u32)));bif kL [decide (0≤Lo),true,decide (0<BY)] then
      some (.inl (((IntKind.wrap .i64 (x3+1)),ahl,(),we,CP),Bf))
     else none
   else none
  else none
 else
  some (.inr (.inr ((Zy,()),Bf)))
def Wh.abY:Bool×Unit⊕(Int×Unit)×ei.D:=.inl default
def Wh.Gh (xs:ei.D):Option (Bool×Unit):=
 let cx:=xs;bn (zog A7 (cx.1,1,24)) fun r_1=>
 bn (zog A7 (cx.2.1,1,16)) fun r_2=>
 let AR:=bif !r_1.1 then true else !r_2.1;bif kL [!!!r_1.1 || qu (A7 (cx.2.1,1,16)),qu (A7 (cx.1,1,24))] then
  bif AR then
   some (false,())
  else
   let AG:Int:=(↑(List.length (cx.2.2.1)):Int);g8 Ir abY (((0,0,(),cx.2.2.1,AG),cx)) fun q_=>
    sumC q_ (fun y_48=>
     let IE:=y_48.1;some (IE,())) (fun z_49=>
     let ahm:=z_49.1.1;let tn:=z_49.2;let IF:Int:=(↑(List.length (tn.2.2.1)):Int);g8 MD ab0 (((0,ahm,tn.2.2.1,IF),())) fun q_=>
      sumC q_ (fun y_81=>
       let II:=y_81.1;some (II,())) (fun _=>
       some (true,())))
 else none
def Wh.Ii (xs:nT.D):Option (Bool×Unit):=
 let nC:=xs;bn (zog EE nC.1) fun r_1=>
 bn (zog Gh nC.2.1) fun r_2=>
 bn (zog Ek nC.1) fun gv=>
 let Ba:=bif bif bif r_1.1 then r_2.1 else false then nC.2.1.1==gv.1 else false then nC.2.1.2.1==nC.1.2.1 else false;bif kL [(!bif r_1.1 then r_2.1 else false) || qu (Ek nC.1),!r_1.1 || qu (Gh nC.2.1),qu (EE nC.1)] then
  some (Ba,())
 else none
abbrev Wh.aad:Type:=(Int×List UInt8×Int)×Unit
abbrev Wh.ahN:Type:=Bool×Unit⊕List UInt8×Unit
def Wh.KK (x:aad):Option (aad⊕ahN):=
 let Ck:=x.1.1;let O8:=x.1.2.1;let A3:=x.1.2.2;bif decide (Ck<A3) then
  let r_:Int:=(↑(UInt8.toNat (List.getD O8 (Int.toNat Ck) (0:UInt8))):Int);let z9:=bif decide (r_<97) then true else decide (r_>122);bif kL [!!decide (r_<97) || decide (0≤Ck),!!decide (r_<97) || decide (Ck<(↑(List.length O8):Int)),decide (0≤Ck),decide (Ck<(↑(List.length O8):Int))] then
   bif z9 then
    some (.inr (.inl (false,())))
   else
    some (.inl (((IntKind.wrap .i64 (Ck+1)),O8,A3),()))
  else none
 else
  some (.inr (.inr (O8,())))
def Wh.aae:Bool×Unit⊕List UInt8×Unit:=.inl default
def Wh.G2 (xs:List UInt8):Option (Bool×Unit):=
 let Bo:=xs;g8 KK aae (((0,Bo,(↑(List.length Bo):Int)),())) fun q_=>
  sumC q_ (fun Ng=>
   let nW:=Ng.1;some (nW,())) (fun z_21=>
   let akw:=z_21.1;c9 A7 ((↑(List.length akw):Int),1,6) fun Le=>
    some (Le.1,()))
abbrev Wh.abD:Type:=(Int×Int×List e_.D×Int)×Unit
abbrev Wh.aiv:Type:=(List UInt8×Bool)×Unit⊕Unit×Unit
def Wh.Mz (x:abD):Option (abD⊕aiv):=
 let r_:=x.1.1;let Px:=x.1.2.1;let qe:=x.1.2.2.1;let z9:=x.1.2.2.2;bif decide (r_<z9) then
  let Km:=List.getD qe (Int.toNat r_) ([],[],());bif kL [decide (0≤r_),decide (r_<(↑(List.length qe):Int))] then
   let iL:Int:=(↑(List.length Km.1):Int);let nI:=bif iL==1 then List.getD Km.1 (Int.toNat 0) 0==Px else false;bif kL [!iL==1 || decide ((0:Int)≤0),!iL==1 || decide (0<iL)] then
    bif nI then
     some (.inr (.inl ((Km.2.1,true),())))
    else
     some (.inl (((IntKind.wrap .i64 (r_+1)),Px,qe,z9),()))
   else none
  else none
 else
  some (.inr (.inr ((),())))
def Wh.abE:(List UInt8×Bool)×Unit⊕Unit×Unit:=.inl default
def Wh.q26 (xs:ei.D×Int):Option ((List UInt8×Bool)×Unit):=
 let cx:=xs.1;let Da:=xs.2;let v_2:Int:=(↑(List.length (cx.2.2.1)):Int);g8 Mz abE (((0,Da,cx.2.2.1,v_2),())) fun q_=>
  sumC q_ (fun JS=>
   let we:=JS.1.1;let CP:=JS.1.2;some ((we,CP),())) (fun _=>
   some (([],false),()))
abbrev Wh.abL:Type:=(Int×Unit)×ei.D
abbrev Wh.q3_l0Y:Type:=Int×Unit
def Wh.MC (x:abL):Option (abL⊕q3_l0Y):=
 let n_7:=x.1.1;let Jd:=x.2;bif decide (n_7<Jd.1) then
  c9 q26 (Jd,n_7) fun A8=>
   bif(!A8.1.2) then
    some (.inr (n_7,()))
   else
    some (.inl (((IntKind.wrap .i64 (n_7+1)),()),Jd))
 else
  some (.inr (n_7,()))
def Wh.abM:Int×Unit:=default
def Wh.q3 (xs:ei.D):Option (Int×Unit):=
 let cx:=xs;g8 MC abM (((0,()),cx)) fun y_14=>
  let n_15:=y_14.1;some (n_15,())
def Wh.q5 (xs:nT.D):Option (Bool×Unit):=
 let nC:=xs;c9 Wh.q3 nC.2.1 fun r_1=>
  some ((r_1.1==nC.2.1.1),())
def Wh.E7 (xs:bm.D):Option (Bool×Unit):=
 let b8:=xs;bn (zog q63 b8.1) fun r_1=>
 bn (zog A7 (b8.2.1,0,99999)) fun r_2=>
 bn (zog A7 (b8.2.2.2.2.1,0,99999)) fun gv=>
 let r5:=bif bif !r_1.1 then true else !r_2.1 then true else !gv.1;bif kL [(!!bif !r_1.1 then true else !r_2.1) || qu (A7 (b8.2.2.2.2.1,0,99999)),!!!r_1.1 || qu (A7 (b8.2.1,0,99999)),qu (q63 b8.1)] then
  bif r5 then
   some (false,())
  else
   let n4:=decide (b8.2.2.2.2.1>0);bn (zog KR (b8.2.2.2.2.2.1)) fun A9=>
   bn (zog Ii (b8.2.2.2.2.2.1)) fun BW=>
   let A3:=bif bif !n4 then !A9.1 else false then true else bif n4 then !BW.1 else false;bif kL [!(n4 && !bif !n4 then !A9.1 else false) || qu (Ii (b8.2.2.2.2.2.1)),!!n4 || qu (KR (b8.2.2.2.2.2.1))] then
    bif A3 then
     some (false,())
    else
     bif(b8.2.2.1==0) then
      let r_:=b8.2.2.2.1 == [];some (bif r_ then !n4 else false,())
     else
      let Bp:=b8.2.1==0;bn (zog G2 (b8.2.2.2.1)) fun FA=>
      let z9:=bif Bp then true else !FA.1;bif kL [!!Bp || qu (G2 (b8.2.2.2.1))] then
       bif z9 then
        some (false,())
       else
        let v9:=b8.2.2.1==1;bif v9 then
         bif v9 then
          bn (zog Wh.q5 (b8.2.2.2.2.2.1)) fun Hi=>
          let A4:=bif !n4 then true else !Hi.1;bif kL [!!!n4 || qu (Wh.q5 (b8.2.2.2.2.2.1))] then
           some (A4,())
          else none
         else
          bif(b8.2.2.1==2) then
           bn (zog Wh.q5 (b8.2.2.2.2.2.1)) fun Gp=>
           let Gu:=bif n4 then !Gp.1 else false;bif kL [!n4 || qu (Wh.q5 (b8.2.2.2.2.2.1))] then
            some (Gu,())
           else none
          else
           bif(b8.2.2.1==3) then
            bn (zog Wh.q5 (b8.2.2.2.2.2.1)) fun EJ=>
            let CP:=bif n4 then EJ.1 else false;bif kL [!n4 || qu (Wh.q5 (b8.2.2.2.2.2.1))] then
             some (CP,())
            else none
           else
            some (false,())
        else
         bif(b8.2.2.1==4) then
          bn (zog Wh.q5 (b8.2.2.2.2.2.1)) fun E_=>
          let BY:=bif !n4 then true else !E_.1;bif kL [!!!n4 || qu (Wh.q5 (b8.2.2.2.2.2.1))] then
           some (BY,())
          else none
         else
          bif(b8.2.2.1==2) then
           bn (zog Wh.q5 (b8.2.2.2.2.2.1)) fun DL=>
           let EM:=bif n4 then !DL.1 else false;bif kL [!n4 || qu (Wh.q5 (b8.2.2.2.2.2.1))] then
            some (EM,())
           else none
          else
           bif(b8.2.2.1==3) then
            bn (zog Wh.q5 (b8.2.2.2.2.2.1)) fun Iz=>
            let Ln:=bif n4 then Iz.1 else false;bif kL [!n4 || qu (Wh.q5 (b8.2.2.2.2.2.1))] then
             some (Ln,())
            else none
           else
            some (false,())
      else none
   else none
 else none
def Wh.q1 (xs:bm.D):Option (List eL.D×Unit):=
 let b8:=xs;let Eh:List (eL.D):=[(1,b8.1,b8.2.1,b8.2.2.2.2.1,0,b8.2.2.2.1,[],())];some (Eh,())
abbrev Wh.aaj:Type:=(Int×List eL.D×List eL.D)×Unit
abbrev Wh.ahQ:Type:=Bool×Unit⊕Unit×Unit
def Wh.OG (x:aaj):Option (aaj⊕ahQ):=
 let CG:=x.1.1;let a_18:=x.1.2.1;let b_19:=x.1.2.2;let iL:Int:=(↑(List.length a_18):Int);bif decide (CG<iL) then
  let nW:=List.getD a_18 (Int.toNat CG) (0,0,0,0,0,[],[],());let nI:=List.getD b_19 (Int.toNat CG) (0,0,0,0,0,[],[],());bn (zog EG nW) fun D0=>
  let Dz:=bif !(nW.1==nI.1&&(nW.2.1==nI.2.1&&(nW.2.2.1==nI.2.2.1&&(nW.2.2.2.1==nI.2.2.2.1&&(nW.2.2.2.2.1==nI.2.2.2.2.1&&(nW.2.2.2.2.2.1==nI.2.2.2.2.2.1&&(nW.2.2.2.2.2.2.1==nI.2.2.2.2.2.2.1&&true))))))) then true else !D0.1;bif kL [!!!(nW.1==nI.1&&(nW.2.1==nI.2.1&&(nW.2.2.1==nI.2.2.1&&(nW.2.2.2.1==nI.2.2.2.1&&(nW.2.2.2.2.1==nI.2.2.2.2.1&&(nW.2.2.2.2.2.1==nI.2.2.2.2.2.1&&(nW.2.2.2.2.2.2.1==nI.2.2.2.2.2.2.1&&true))))))) || qu (EG nW),!!!(nW.1==nI.1&&(nW.2.1==nI.2.1&&(nW.2.2.1==nI.2.2.1&&(nW.2.2.2.1==nI.2.2.2.1&&(nW.2.2.2.2.1==nI.2.2.2.2.1&&(nW.2.2.2.2.2.1==nI.2.2.2.2.2.1&&(nW.2.2.2.2.2.2.1==nI.2.2.2.2.2.2.1&&true))))))) || decide (0≤CG),!!!(nW.1==nI.1&&(nW.2.1==nI.2.1&&(nW.2.2.1==nI.2.2.1&&(nW.2.2.2.1==nI.2.2.2.1&&(nW.2.2.2.2.1==nI.2.2.2.2.1&&(nW.2.2.2.2.2.1==nI.2.2.2.2.2.1&&(nW.2.2.2.2.2.2.1==nI.2.2.2.2.2.2.1&&true))))))) || decide (CG<iL),decide (0≤CG),decide (CG<(↑(List.length b_19):Int)),decide (0≤CG),decide (CG<iL)] then
   bif Dz then
    some (.inr (.inl (false,())))
   else
    some (.inl (((IntKind.wrap .i64 (CG+1)),a_18,b_19),()))
  else none
 else
  some (.inr (.inr ((),())))
def Wh.aak:Bool×Unit⊕Unit×Unit:=.inl default
def Wh.G4 (xs:List eL.D×List eL.D):Option (Bool×Unit):=
 let s5:=xs.1;let b_1:=xs.2;let v_2:Int:=(↑(List.length s5):Int);let AR:Int:=(↑(List.length b_1):Int);let AG:=v_2 != AR;bif AG then
  some (false,())
 else
  g8 OG aak (((0,s5,b_1),())) fun q_=>
   sumC q_ (fun Nh=>
    let Gv:=Nh.1;some (Gv,())) (fun _=>
    some (true,()))
def Wh.q0 (x:(Unit×Unit×Unit)×(Int×Int×Int×List UInt8×Int×((Int×Int×Unit×Unit×Unit)×(Int×Int×Unit×Unit)×Unit)×Unit)×dj.D×bm.D×List Int×List Int×List e_.D):Option ((Unit×Unit×Unit)×(Int×Int×Int×List UInt8×Int×((Int×Int×Unit×Unit×Unit)×(Int×Int×Unit×Unit)×Unit)×Unit)×dj.D×bm.D×List Int×List Int×List e_.D):=
 let ov:=x.2.1.1;let BQ:=x.2.1.2.1;let Bf:=x.2.1.2.2.1;let Bg:=x.2.1.2.2.2.1;let Au:=x.2.1.2.2.2.2.1;let A0:=x.2.1.2.2.2.2.2.1.1.1;let th:=x.2.1.2.2.2.2.2.1.1.2.1;let m6:=x.2.1.2.2.2.2.2.1.1.2.2.2.2;let AD:=x.2.1.2.2.2.2.2.1.2.1.1;let Bh:=x.2.1.2.2.2.2.2.1.2.1.2.1;let ng:=x.2.1.2.2.2.2.2.1.2.1.2.2.2;let AI:=x.2.1.2.2.2.2.2.1.2.2;let AJ:=x.2.1.2.2.2.2.2.2;let xd:=x.2.2.1;let wm:=x.2.2.2.1;let nE:=x.2.2.2.2.1;let w7:=x.2.2.2.2.2.1;let s9:=x.2.2.2.2.2.2;bn (zog m5 (xd,10)) fun JG=>
 let AK:dj.D:=bif decide (wm.2.1>0) then JG.2.1 else xd;let M9:=decide (wm.2.1>0);let Ht:=bif M9 then JG.1==0 else false;bif kL [!M9 || qu (m5 (xd,10))] then
  bif Ht then
   c9 m5 (AK,2) fun MQ=>
    some ((((),(),()),(ov,BQ,Bf,Bg,Au,((A0,th,(),(),m6),(AD,Bh,(),ng),AI),AJ),MQ.2.1,(wm.1,(IntKind.wrap .i64 (99999-MQ.1)),wm.2.2),nE,w7,s9))
  else
   some ((((),(),()),(ov,BQ,Bf,Bg,Au,((A0,th,(),(),m6),(AD,Bh,(),ng),AI),AJ),AK,wm,nE,w7,s9))
 else none
def Wh.q0' (x:((Unit)×(Unit)×(Unit))×(((Int)×((Int)×((Int)×((List UInt8)×((Int)×((((Int)×((Int)×((Unit)×((Unit)×(Unit)))))×(((Int)×((Int)×((Unit)×(Unit))))×(Unit)))×(Unit)))))))×(dj.D)×(bm.D)×(List (Int))×(List (Int))×(List (e_.D)))):(((Unit)×(Unit)×(Unit))×(((Int)×((Int)×((Int)×((List UInt8)×((Int)×((((Int)×((Int)×((Unit)×((Unit)×(Unit)))))×(((Int)×((Int)×((Unit)×(Unit))))×(Unit)))×(Unit)))))))×(dj.D)×(bm.D)×(List (Int))×(List (Int))×(List (e_.D)))):=match Wh.q0 x with | some y=>y|none=>(default,(default,default,default,default,default,default))
def Wh.q0_v (x:((Unit)×(Unit)×(Unit))×(((Int)×((Int)×((Int)×((List UInt8)×((Int)×((((Int)×((Int)×((Unit)×((Unit)×(Unit)))))×(((Int)×((Int)×((Unit)×(Unit))))×(Unit)))×(Unit)))))))×(dj.D)×(bm.D)×(List (Int))×(List (Int))×(List (e_.D))))(y:(((Unit)×(Unit)×(Unit))×(((Int)×((Int)×((Int)×((List UInt8)×((Int)×((((Int)×((Int)×((Unit)×((Unit)×(Unit)))))×(((Int)×((Int)×((Unit)×(Unit))))×(Unit)))×(Unit)))))))×(dj.D)×(bm.D)×(List (Int))×(List (Int))×(List (e_.D)))))(h:Wh.q0 x=some y):Wh.q0' x=y:=by unfold Wh.q0';rw[h]
def Wh.q2 (xs:List Int):Option ((bm.D×List UInt8)×Unit):=
 let HC:=xs;c9 Ml HC fun r_1=>
  c9 MI r_1.1 fun r_2=>
   CC Wh.q0 Wh.q0' ((((),(),()),(0,0,0,[],0,((0,0,(),(),()),(0,0,(),()),()),()),r_2.2.1,r_2.1,[],[],[])) fun Nl=>
    let Cg:=Nl.2.2.1;let Ec:=Nl.2.2.2.1;c9 KI (Cg,[[(97:UInt8)],[(98:UInt8)],[],[(65:UInt8)]]) fun Rh=>
     some ((Ec,Rh.1),())
def Wh.q41 (xs:gT.D):Option ((Int×Int×List Int×List Int×Unit)×Unit):=
 let fy:gT.D:=xs;let Eh:List Int:=[]++fy.2.2.1;let BI:List Int:=[]++fy.2.2.2.1;bif kL [decide ((0:Nat)+List.length (fy.2.2.2.1)≤eV),decide ((0:Nat)+List.length (fy.2.2.1)≤eV)] then
  some ((fy.1,fy.2.1,Eh,BI,()),())
 else none
abbrev Wh.ZN:Type:=(Int×Unit×List e_.D×Unit×Int)×(Int×Int×Unit×Unit)×(Int×Int×Unit×Unit)×List e_.D×List e_.D
abbrev Wh.ahA:Type:=(Unit×Unit)×(Int×Int×Unit×Unit)×(Int×Int×Unit×Unit)×List e_.D×List e_.D
def Wh.Ma (x:ZN):Option (ZN⊕ahA):=
 let n_:=x.1.1;let iL:=x.1.2.2.1;let A4:=x.1.2.2.2.2;let wh:=x.2.1.1;let BG:=x.2.1.2.1;let Be:=x.2.1.2.2.2;let AZ:=x.2.2.1.1;let BB:=x.2.2.1.2.1;let Bq:=x.2.2.1.2.2.2;let ov:=x.2.2.2.1;let BQ:=x.2.2.2.2;bif decide (n_<A4) then
  let vT:=List.getD iL (Int.toNat n_) ([],[],());bif kL [decide (0≤n_),decide (n_<(↑(List.length iL):Int))] then
   let DU:List Int:=[]++vT.1;let th:=ov ++ [(DU,vT.2.1,())];bif kL [decide (List.length ov+(1:Nat)≤eV),decide ((0:Nat)+List.length vT.1≤eV)] then
    some (.inl (((IntKind.wrap .i64 (n_+1)),(),iL,(),A4),(wh,BG,(),Be),(AZ,BB,(),Bq),th,BQ))
   else none
  else none
 else
  some (.inr (((),()),(AZ,BB,(),Bq),(wh,BG,(),Be),BQ,ov))
def Wh.ZO:(Unit×Unit)×(Int×Int×Unit×Unit)×(Int×Int×Unit×Unit)×List e_.D×List e_.D:=default
def Wh.q10 (xs:ei.D):Option ((Int×Int×List e_.D×Unit)×Unit):=
 let cx:=xs;let v_1:Int:=(↑(List.length (cx.2.2.1)):Int);g8 Ma ZO (((0,(),cx.2.2.1,(),v_1),(cx.1,cx.2.1,(),()),(0,0,(),()),[],[])) fun RU=>
  let xd:=RU.2.2.1.1;let wm:=RU.2.2.1.2.1;let nE:=RU.2.2.1.2.2.2;let s9:=RU.2.2.2.2;some ((xd,wm,s9,nE),())
def Wh.q64 (xs:nT.D):Option (((Int×Int×List Int×List Int×Unit)×(Int×Int×List e_.D×Unit)×Unit)×Unit):=
 let nC:=xs;bn (zog q41 nC.1) fun r_1=>
 bn (zog q10 nC.2.1) fun r_2=>
 bif kL [qu (q10 nC.2.1),qu (q41 nC.1)] then
  some ((r_1.1,r_2.1,()),())
 else none
def Wh.MK (xs:bm.D):Option ((Int×Int×Int×List UInt8×Int×((Int×Int×List Int×List Int×Unit)×(Int×Int×List e_.D×Unit)×Unit)×Unit)×Unit):=
 let b8:=xs;c9 q64 (b8.2.2.2.2.2.1) fun r_1=>
  some ((b8.1,b8.2.1,b8.2.2.1,b8.2.2.2.1,b8.2.2.2.2.1,r_1.1,b8.2.2.2.2.2.2),())
def Wh.q23 (xs:bm.D×List UInt8):Option (((Int×Int×Int×List UInt8×Int×((Int×Int×List Int×List Int×Unit)×(Int×Int×List e_.D×Unit)×Unit)×Unit)×List eL.D)×Unit):=
 let b8:=xs.1;let CZ:=xs.2;c9 E7 b8 fun r_2=>
  bif !r_2.1 then
   some (((0,0,0,[],0,((0,0,[],[],()),(0,0,[],()),()),()),[]),())
  else
   bn (zog G2 CZ) fun r_3=>
   let AG:=bif !r_3.1 then true else b8.2.1==99999;bif kL [qu (G2 CZ)] then
    bif AG then
     c9 MK b8 fun gv=>
      some ((gv.1,[]),())
    else
     let Jh:=IntKind.wrap .i64 (b8.2.1+1);c9 Wh.q1 (b8.1,Jh,1,CZ,0,((0,0,[],[],()),(0,0,[],()),()),()) fun AM=>
      some (((b8.1,Jh,1,CZ,0,((0,0,[],[],()),(0,0,[],()),()),()),AM.1),())
   else none
abbrev Wh.aah:Type:=(Int×List Int×List Int)×Unit
abbrev Wh.ahP:Type:=Bool×Unit⊕Unit×Unit
def Wh.Mh (x:aah):Option (aah⊕ahP):=
 let D_:=x.1.1;let b_12:=x.1.2.1;let a_13:=x.1.2.2;let r_:=decide (D_<(↑(List.length a_13):Int));bif r_ then
  let Bp:=List.getD a_13 (Int.toNat D_) 0;let qe:=List.getD b_12 (Int.toNat D_) 0;let z9:=Bp != qe;bif kL [decide (0≤D_),decide (D_<(↑(List.length b_12):Int)),decide (0≤D_),r_] then
   bif z9 then
    some (.inr (.inl (false,())))
   else
    some (.inl (((IntKind.wrap .i64 (D_+1)),b_12,a_13),()))
  else none
 else
  some (.inr (.inr ((),())))
def Wh.aai:Bool×Unit⊕Unit×Unit:=.inl default
def Wh.F6 (xs:List Int×List Int):Option (Bool×Unit):=
 let s5:=xs.1;let b_1:=xs.2;let v_2:Bool:=(↑(List.length s5):Int) != (↑(List.length b_1):Int);bif v_2 then
  some (false,())
 else
  g8 Mh aai (((0,b_1,s5),())) fun q_=>
   sumC q_ (fun Ng=>
    let nW:=Ng.1;some (nW,())) (fun _=>
    some (true,()))
def Wh.KL (xs:gT.D×gT.D):Option (Bool×Unit):=
 let s5:=xs.1;let b_1:=xs.2;let v_2:=s5.1==b_1.1;bn (zog F6 (s5.2.2.1,b_1.2.2.1)) fun gv=>
 bn (zog F6 (s5.2.2.2.1,b_1.2.2.2.1)) fun A9=>
 let Ck:=bif bif bif v_2 then s5.2.1==b_1.2.1 else false then gv.1 else false then A9.1 else false;bif kL [(!bif bif v_2 then s5.2.1==b_1.2.1 else false then gv.1 else false) || qu (F6 (s5.2.2.2.1,b_1.2.2.2.1)),(!bif v_2 then s5.2.1==b_1.2.1 else false) || qu (F6 (s5.2.2.1,b_1.2.2.1))] then
  some (Ck,())
 else none
abbrev Wh.ab1:Type:=(Int×Unit×Unit)×ei.D×ei.D
abbrev Wh.aiG:Type:=Bool×Unit⊕Unit×Unit
def Wh.ME (x:ab1):Option (ab1⊕aiG):=
 let wX:=x.1.1;let Bd:=x.2.1;let CH:=x.2.2;let A4:Int:=(↑(List.length (CH.2.2.1)):Int);bif decide (wX<A4) then
  let nI:=List.getD (CH.2.2.1) (Int.toNat wX) ([],[],());let AX:=List.getD (Bd.2.2.1) (Int.toNat wX) ([],[],());bn (zog F6 (nI.1,AX.1)) fun EJ=>
  let we:=bif !nI.2.1==AX.2.1 then true else !EJ.1;bif kL [!!!nI.2.1==AX.2.1 || qu (F6 (nI.1,AX.1)),!!!nI.2.1==AX.2.1 || decide (0≤wX),!!!nI.2.1==AX.2.1 || decide (wX<(↑(List.length (Bd.2.2.1)):Int)),!!!nI.2.1==AX.2.1 || decide (0≤wX),!!!nI.2.1==AX.2.1 || decide (wX<A4),decide (0≤wX),decide (wX<(↑(List.length (Bd.2.2.1)):Int)),decide (0≤wX),decide (wX<A4)] then
   bif we then
    some (.inr (.inl (false,())))
   else
    some (.inl (((IntKind.wrap .i64 (wX+1)),(),()),Bd,CH))
  else none
 else
  some (.inr (.inr ((),())))
def Wh.ab2:Bool×Unit⊕Unit×Unit:=.inl default
def Wh.q66 (xs:ei.D×ei.D):Option (Bool×Unit):=
 let s5:=xs.1;let b_1:=xs.2;let oc:=bif bif(s5.1 != b_1.1) then true else s5.2.1 != b_1.2.1 then true else(↑(List.length (s5.2.2.1)):Int) != (↑(List.length (b_1.2.2.1)):Int);bif oc then
  some (false,())
 else
  g8 ME ab2 (((0,(),()),b_1,s5)) fun q_=>
   sumC q_ (fun y_31=>
    let BY:=y_31.1;some (BY,())) (fun _=>
    some (true,()))
def Wh.q42 (xs:nT.D×nT.D):Option (Bool×Unit):=
 let s5:=xs.1;let b_1:=xs.2;bn (zog KL (s5.1,b_1.1)) fun r_2=>
 bn (zog q66 (s5.2.1,b_1.2.1)) fun r_3=>
 let oc:=bif r_2.1 then r_3.1 else false;bif kL [!r_2.1 || qu (q66 (s5.2.1,b_1.2.1)),qu (KL (s5.1,b_1.1))] then
  some (oc,())
 else none
def Wh.Is (xs:bm.D×bm.D):Option (Bool×Unit):=
 let s5:=xs.1;let b_1:=xs.2;let v_2:=s5.1==b_1.1;bn (zog q42 (s5.2.2.2.2.2.1,b_1.2.2.2.2.2.1)) fun BW=>
 let A_:=bif bif bif bif bif v_2 then s5.2.1==b_1.2.1 else false then s5.2.2.1==b_1.2.2.1 else false then s5.2.2.2.1==b_1.2.2.2.1 else false then s5.2.2.2.2.1==b_1.2.2.2.2.1 else false then BW.1 else false;bif kL [(!bif bif bif bif v_2 then s5.2.1==b_1.2.1 else false then s5.2.2.1==b_1.2.2.1 else false then s5.2.2.2.1==b_1.2.2.2.1 else false then s5.2.2.2.2.1==b_1.2.2.2.2.1 else false) || qu (q42 (s5.2.2.2.2.2.1,b_1.2.2.2.2.2.1))] then
  some (A_,())
 else none
abbrev Wh.acC:Type:=(Int×List UInt8×Unit×Int)×nT.D
abbrev Wh.aiW:Type:=(Unit×List UInt8)×nT.D
def Wh.OO (x:acC):Option (acC⊕aiW):=
 let B7:=x.1.1;let TE:=x.1.2.1;let A_:=x.1.2.2.2;let Eb:=x.2;bif decide (B7<A_) then
  c9 q26 (Eb.2.1,B7) fun FA=>
   let z9:List UInt8:=TE++FA.1.1;bif kL [decide (List.length TE+List.length FA.1.1≤eV)] then
    some (.inl (((IntKind.wrap .i64 (B7+1)),z9,(),A_),Eb))
   else none
 else
  some (.inr (((),TE),Eb))
def Wh.acD:(Unit×List UInt8)×nT.D:=default
def Wh.q90 (xs:nT.D):Option (List UInt8×Unit):=
 let nC:=xs;c9 Ii nC fun r_1=>
  bif !r_1.1 then
   some ([],())
  else
   c9 Wh.q3 nC.2.1 fun r_2=>
    g8 OO acD (((0,[],(),r_2.1),nC)) fun Ng=>
     let Qy:=Ng.1.2;let wh:=Ng.2;let nI:Int:=if wh.1.1<(↑(List.length Qy):Int) then wh.1.1 else(↑(List.length Qy):Int);let Gu:List UInt8:=List.take (Int.toNat (nI-0)) (List.drop (Int.toNat 0) Qy);bif kL [true,decide (0≤nI),decide (nI≤(↑(List.length Qy):Int))] then
      some (Gu,())
     else none
def Wh.G_ (xs:bm.D):Option (List UInt8×Unit):=
 let b8:=xs;bn (zog E7 b8) fun r_1=>
 let v_2:=bif !r_1.1 then true else b8.2.2.2.2.1==0;bif kL [qu (E7 b8)] then
  bif v_2 then
   some ([],())
  else
   c9 q90 (b8.2.2.2.2.2.1) fun r_3=>
    some (r_3.1,())
 else none
def Wh.q6 (xs:List Int):Option (Bool×Unit):=
 let HC:=xs;bif decide ((↑(List.length HC):Int)>1048576) then
  some (true,())
 else
  c9 Wh.q2 HC fun r_2=>
   c9 q23 r_2.1 fun r_3=>
    c9 He r_2.1 fun dz=>
     bn (zog Is (r_3.1.1,dz.1.1)) fun gv=>
     bn (zog G4 (r_3.1.2,dz.1.2)) fun nS=>
     bn (zog E7 r_2.1.1) fun z5=>
     bn (zog DY r_2.1.1) fun A8=>
     let A_:=bif bif bif !gv.1 then true else !nS.1 then true else !z5.1==A8.1 then true else !A8.1;bif kL [(!!bif bif !gv.1 then true else !nS.1 then true else !z5.1==A8.1) || qu (DY r_2.1.1),(!!bif !gv.1 then true else !nS.1) || qu (DY r_2.1.1),(!!bif !gv.1 then true else !nS.1) || qu (E7 r_2.1.1),!!!gv.1 || qu (G4 (r_3.1.2,dz.1.2)),qu (Is (r_3.1.1,dz.1.1))] then
      bif A_ then
       let Bp:=bif gv.1 then nS.1 else false;bif kL [!gv.1 || qu (G4 (r_3.1.2,dz.1.2)),qu (Is (r_3.1.1,dz.1.1))] then
        some (Bp,())
       else none
      else
       let qe:Int:=(↑(List.length r_3.1.2):Int);let z9:=qe==0;bif z9 then
        c9 Is (r_3.1.1,r_2.1.1) fun Hh=>
         some (Hh.1,())
       else
        let n_:=IntKind.wrap .i64 (r_2.1.1.2.1+1);bn (zog G_ r_3.1.1) fun D0=>
        bn (zog E7 r_3.1.1) fun Ix=>
        let BK:=bif bif bif bif bif bif r_3.1.1.2.1==n_ then r_3.1.1.2.2.1==1 else false then r_3.1.1.2.2.2.2.1==0 else false then D0.1 == [] else false then(List.getD r_3.1.2 (Int.toNat 0) (0,0,0,0,0,[],[],())).1==1 else false then(((List.getD r_3.1.2 (Int.toNat 0) (0,0,0,0,0,[],[],())).2).2).1==r_3.1.1.2.1 else false then Ix.1 else false;bif kL [(!bif bif bif bif bif r_3.1.1.2.1==n_ then r_3.1.1.2.2.1==1 else false then r_3.1.1.2.2.2.2.1==0 else false then D0.1 == [] else false then(List.getD r_3.1.2 (Int.toNat 0) (0,0,0,0,0,[],[],())).1==1 else false then(((List.getD r_3.1.2 (Int.toNat 0) (0,0,0,0,0,[],[],())).2).2).1==r_3.1.1.2.1 else false) || qu (E7 r_3.1.1),(!bif bif bif bif r_3.1.1.2.1==n_ then r_3.1.1.2.2.1==1 else false then r_3.1.1.2.2.2.2.1==0 else false then D0.1 == [] else false then(List.getD r_3.1.2 (Int.toNat 0) (0,0,0,0,0,[],[],())).1==1 else false) || decide ((0:Int)≤0),(!bif bif bif bif r_3.1.1.2.1==n_ then r_3.1.1.2.2.1==1 else false then r_3.1.1.2.2.2.2.1==0 else false then D0.1 == [] else false then(List.getD r_3.1.2 (Int.toNat 0) (0,0,0,0,0,[],[],())).1==1 else false) || decide (0<qe),(!bif bif bif r_3.1.1.2.1==n_ then r_3.1.1.2.2.1==1 else false then r_3.1.1.2.2.2.2.1==0 else false then D0.1 == [] else false) || decide ((0:Int)≤0),(!bif bif bif r_3.1.1.2.1==n_ then r_3.1.1.2.2.1==1 else false then r_3.1.1.2.2.2.2.1==0 else false then D0.1 == [] else false) || decide (0<qe),(!bif bif r_3.1.1.2.1==n_ then r_3.1.1.2.2.1==1 else false then r_3.1.1.2.2.2.2.1==0 else false) || qu (G_ r_3.1.1)] then
         some (BK,())
        else none
     else none
def Wh.q131 (xs:Int×Int):Option (Int×Unit):=
 let x_0:=xs.1;let by_1:=xs.2;let v_2:Int:=Int.fdiv x_0 (2 ^ Min.min (Int.toNat by_1) (Go.IntKind.bits Go.IntKind.u32));let AR:=IntKind.wrap .i64 (32-by_1);let r5:Int:=pZ Go.BinOp.or Go.IntKind.u32 v_2 (IntKind.wrap .u32 (x_0*2 ^ Min.min (Int.toNat AR) (Go.IntKind.bits Go.IntKind.u32)));bif kL [decide (0≤AR),decide (0≤by_1)] then
  some (r5,())
 else none
abbrev Wh.acE:Type:=(Unit×Unit)×(Int×Int×Unit×Unit×Unit)×(Int×Int×Unit×Unit×Unit)×List Int×List Int×List Int×List Int
abbrev Wh.aiX:Type:=(Unit×Unit)×(Int×Int×Unit×Unit×Unit)×(Int×Int×Unit×Unit×Unit)×List Int×List Int×List Int×List Int
def Wh.T9 (x:acE):Option (acE⊕aiX):=
 let xb:=x.2.1.1;let Ez:=x.2.1.2.1;let tc:=x.2.1.2.2.2.2;let AO:=x.2.2.1.1;let Bd:=x.2.2.1.2.1;let CH:=x.2.2.1.2.2.2.2;let CJ:=x.2.2.2.1;let wh:=x.2.2.2.2.1;let BG:=x.2.2.2.2.2.1;let Be:=x.2.2.2.2.2.2;c9 Ek (xb,Ez,CJ,wh,tc) fun Dg=>
  bif decide (Dg.1>24) then
   some (.inl (((),()),(xb,(IntKind.wrap .i64 (Ez+1)),(),(),tc),(AO,Bd,(),(),CH),CJ,wh,BG,Be))
  else
   some (.inr (((),()),(AO,Bd,(),(),CH),(xb,Ez,(),(),tc),BG,Be,CJ,wh))
def Wh.aiY:(Unit×Unit)×(Int×Int×Unit×Unit×Unit)×(Int×Int×Unit×Unit×Unit)×List Int×List Int×List Int×List Int:=default
def Wh.q91 (xs:Int):Option ((Int×Int×List Int×List Int×Unit)×Unit):=
 let Qj:=xs;c9 A7 (Qj,1,300) fun r_1=>
  bif !r_1.1 then
   some ((0,0,[],[],()),())
  else
   g8 T9 aiY ((((),()),(Qj,8,(),(),()),(0,0,(),(),()),[],[],[],[])) fun C6=>
    let A0:=C6.2.2.1.1;let th:=C6.2.2.1.2.1;let m6:=C6.2.2.1.2.2.2.2;let ng:=C6.2.2.2.2.2.1;let AI:=C6.2.2.2.2.2.2;c9 Ek (A0,th,ng,AI,m6) fun Re=>
     let k_43:=IntKind.wrap .i64 (Int.tdiv (IntKind.wrap .i64 (Re.1+3)) 4);bif decide (k_43<Re.1) then
      let TV:List Int:=[k_43,Re.1];some ((A0,th,TV,[(2:Int),3],m6),())
     else
      let TW:List Int:=[Re.1];some ((A0,th,TW,[(1:Int)],m6),())
end
