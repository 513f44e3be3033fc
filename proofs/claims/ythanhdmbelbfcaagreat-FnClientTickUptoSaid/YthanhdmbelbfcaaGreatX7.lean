import Derived.Test.YthanhdmbelbfcaaGreatX6
set_option linter.defProp false
namespace Wh
end Wh
open Wh
open Go Go.Ab
noncomputable section
abbrev Wh.ae4:Type:=(Int×Unit×Unit×Int×Int)×List Int×List Int
abbrev Wh.amk:Type:=Unit×List Int
def Wh.Kb (x:ae4):Option (ae4⊕amk):=
 let Dh:=x.1.1;let s_48:=x.1.2.2.2.1;let d_49:=x.1.2.2.2.2;let nG:=x.2.1;let wm:=x.2.2;bif decide (Dh<d_49) then
  dj EG s_48 fun B3=>
   dj Eh (B3.1,(↑(List.length nG):Int)) fun GD=>
    b8 (zog Iz (wm,List.getD nG (Int.toNat GD.1) 0)) fun FQ=>
    let FW:=List.getD nG (Int.toNat GD.1) 0;bif kL [qu (Iz (wm,FW)),decide (0≤GD.1),decide (GD.1<(↑(List.length nG):Int))] then
     let pb_57:List Int:=[]++List.take (Int.toNat (GD.1-0)) (List.drop (Int.toNat 0) nG);let Tw:List Int:=pb_57++List.take (Int.toNat ((↑(List.length nG):Int)-IntKind.wrap .i64 (GD.1+1))) (List.drop (Int.toNat (IntKind.wrap .i64 (GD.1+1))) nG);let Qh:Nat:=Int.toNat (GD.1-0);let NI:=IntKind.wrap .i64 (GD.1+1);bif kL [decide (List.length pb_57+List.length (List.take (Int.toNat ((↑(List.length nG):Int)-NI)) (List.drop (Int.toNat NI) nG))≤eV),decide (0≤NI),decide (NI≤(↑(List.length nG):Int)),decide ((↑(List.length nG):Int)≤(↑(List.length nG):Int)),decide ((0:Nat)+List.length (List.take Qh (List.drop (Int.toNat 0) nG))≤eV),true,decide (0≤GD.1),decide (GD.1≤(↑(List.length nG):Int))] then
      some (.inl (((IntKind.wrap .i64 (Dh+1)),(),(),B3.1,d_49),Tw,FQ.1))
     else none
    else none
 else
  some (.inr ((),wm))
def Wh.ae5:Unit×List Int:=default
abbrev Wh.ae2:Type:=(Int×Unit×Int×Int×Int)×List Int
abbrev Wh.amj:Type:=(Unit×Int×Int)×List Int
def Wh.LM (x:ae2):Option (ae2⊕amj):=
 let CC:=x.1.1;let Nu:=x.1.2.2.1;let d_19:=x.1.2.2.2.1;let aak:=x.1.2.2.2.2;let CD:=x.2;bif decide (CC<aak) then
  let X7:List Int:=[CC];let Bi:=CD++X7;bif kL [decide (List.length CD+(1:Nat)≤eV)] then
   some (.inl (((IntKind.wrap .i64 (CC+1)),(),Nu,d_19,aak),Bi))
  else none
 else
  some (.inr (((),Nu,d_19),CD))
def Wh.ae3:(Unit×Int×Int)×List Int:=default
def Wh.Ka (xs:Int×Int):Option (List Int×Unit):=
 let Fl:=xs.1;let Uc:=xs.2;b8 (zog EG Uc) fun r_2=>
 b8 (zog EG r_2.1) fun e_=>
 bif kL [qu (EG r_2.1),qu (EG Uc)] then
  b8 (zog Eh (e_.1,65536)) fun ic=>
  b8 (zog q79 (Fl,ic.1)) fun AO=>
  bif kL [qu (q79 (Fl,ic.1)),qu (Eh (e_.1,65536))] then
   ia LM ae3 (((0,(),e_.1,AO.1,Fl),[])) fun Fg=>
    let s_28:=Fg.1.2.1;let d_29:=Fg.1.2.2;let Bj:=Fg.2;ia Kb ae5 (((0,(),(),s_28,d_29),Bj,[])) fun FZ=>
     let BM:=FZ.2;some (BM,())
  else none
 else none
def Wh.E9 (xs:gT.D×Int):Option (List Int×Unit):=
 let g8:=xs.1;let F5:=xs.2;dj Bd g8 fun r_2=>
  bif decide (F5<r_2.1) then
   let Px:List Int:=[F5];some (Px,())
  else
   b8 (zog Gy (g8,F5)) fun ic=>
   b8 (zog Ka (ic.1,F5)) fun n_=>
   bif kL [qu (Ka (ic.1,F5)),qu (Gy (g8,F5))] then
    some (n_.1,())
   else none
abbrev Wh.aeU:Type:=(Int×List Int×Unit×Int×List Int)×List Int
abbrev Wh.amf:Type:=Unit×List Int
def Wh.FE (x:aeU):Option (aeU⊕amf):=
 let A9:=x.1.1;let Jk:=x.1.2.1;let Et:=x.1.2.2.2.1;let F2:=x.1.2.2.2.2;let CR:=x.2;let B4:=decide (A9<(↑(List.length Jk):Int));let I9:=bif B4 then true else decide (Et<(↑(List.length F2):Int));bif I9 then
  let GH:=decide (Et≥(↑(List.length F2):Int));let FU:=bif GH then true else bif B4 then decide (List.getD Jk (Int.toNat A9) 0<List.getD F2 (Int.toNat Et) 0) else false;bif kL [!(B4 && !GH) || decide (0≤Et),!(B4 && !GH) || decide (Et<(↑(List.length F2):Int)),!(B4 && !GH) || decide (0≤A9),!(B4 && !GH) || B4] then
   bif FU then
    let Pw:List Int:=[List.getD Jk (Int.toNat A9) 0];let AN:=CR++Pw;bif kL [decide (List.length CR+(1:Nat)≤eV),decide (0≤A9),B4] then
     some (.inl (((IntKind.wrap .i64 (A9+1)),Jk,(),Et,F2),AN))
    else none
   else
    let EN:=decide (A9≥(↑(List.length Jk):Int));let L_:=bif EN then true else decide (List.getD F2 (Int.toNat Et) 0<List.getD Jk (Int.toNat A9) 0);bif kL [!!EN || decide (0≤A9),!!EN || B4,!!EN || decide (0≤Et),!!EN || decide (Et<(↑(List.length F2):Int))] then
     bif L_ then
      let pb_42:List Int:=[List.getD F2 (Int.toNat Et) 0];let nI:=CR++pb_42;bif kL [decide (List.length CR+(1:Nat)≤eV),decide (0≤Et),decide (Et<(↑(List.length F2):Int))] then
       some (.inl ((A9,Jk,(),(IntKind.wrap .i64 (Et+1)),F2),nI))
      else none
     else
      some (.inl (((IntKind.wrap .i64 (A9+1)),Jk,(),(IntKind.wrap .i64 (Et+1)),F2),CR))
    else none
  else none
 else
  some (.inr ((),CR))
def Wh.aeV:Unit×List Int:=default
def Wh.Hq (xs:List Int×List Int):Option (List Int×Unit):=
 let El:=xs.1;let b_1:=xs.2;ia FE aeV (((0,El,(),0,b_1),[])) fun NQ=>
  let nG:=NQ.2;some (nG,())
abbrev Wh.adV:Type:=(Int×List UInt8×List UInt8×Unit)×List Int
abbrev Wh.alL:Type:=Unit×List Int
def Wh.Lx (x:adV):Option (adV⊕alL):=
 let CB:=x.1.1;let b_13:=x.1.2.1;let a_14:=x.1.2.2.1;let wh:=x.2;let se:=decide (CB<(↑(List.length a_14):Int));bif se then
  let X5:List Int:=[pZ Go.BinOp.xor Go.IntKind.u8 (↑(UInt8.toNat (List.getD a_14 (Int.toNat CB) (0:UInt8))):Int) (↑(UInt8.toNat (List.getD b_13 (Int.toNat CB) (0:UInt8))):Int)];let AE:=wh++X5;bif kL [decide (List.length wh+(1:Nat)≤eV),decide (0≤CB),decide (CB<(↑(List.length b_13):Int)),decide (0≤CB),se] then
   some (.inl (((IntKind.wrap .i64 (CB+1)),b_13,a_14,()),AE))
  else none
 else
  some (.inr ((),wh))
def Wh.adW:Unit×List Int:=default
def Wh.Fx (xs:List UInt8×List UInt8):Option (List UInt8×Unit):=
 let El:=xs.1;let b_1:=xs.2;ia Lx adW (((0,b_1,El,()),[])) fun HH=>
  let Bi:=HH.2;some (tv Bi,())
abbrev Wh.aei:Type:=(Int×Unit×Unit×Unit)×gv.D×fk.D×(Unit×List UInt8×Unit)×List Int
abbrev Wh.alX:Type:=(Unit×Unit)×(Unit×List UInt8×Unit)×gv.D×List Int
def Wh.J0 (x:aei):Option (aei⊕alX):=
 let C_:=x.1.1;let Ay:=x.2.1;let Cb:=x.2.2.1;let Bi:=x.2.2.2.1.2;let A_:=x.2.2.2.2;let vN:Int:=(↑(List.length (Cb.2.2.1)):Int);bif decide (C_<vN) then
  let v9:=List.getD (Cb.2.2.1) (Int.toNat C_) ([],[],());b8 (zog Ei (Ay.1,List.getD v9.1 (Int.toNat 0) 0)) fun Fb=>
  bif kL [qu (Ei (Ay.1,List.getD v9.1 (Int.toNat 0) 0)),true,decide (0<(↑(List.length v9.1):Int)),decide (0≤C_),decide (C_<vN)] then
   bif Fb.1 then
    b8 (zog Fx (Ay.2.1,v9.2.1)) fun CX=>
    b8 (zog Hq (Ay.1,v9.1)) fun L1=>
    bif kL [qu (Fx (Ay.2.1,v9.2.1)),decide (0≤C_),decide (C_<vN),qu (Hq (Ay.1,v9.1)),decide (0≤C_),decide (C_<vN)] then
     some (.inl (((IntKind.wrap .i64 (C_+1)),(),(),()),(L1.1,CX.1,()),Cb,((),Bi),A_))
    else none
   else
    some (.inl (((IntKind.wrap .i64 (C_+1)),(),(),()),Ay,Cb,((),Bi),A_))
  else none
 else
  some (.inr (((),()),((),Bi),Ay,A_))
def Wh.aej:(Unit×Unit)×(Unit×List UInt8×Unit)×gv.D×List Int:=default
def Wh.JZ (xs:fk.D×gv.D):Option (gv.D×Unit):=
 let c9:=xs.1;let e_1:=xs.2;ia J0 aej (((0,(),(),()),e_1,c9,((),[],()),[])) fun y_41=>
  let nI:=y_41.2.2.1;some (nI,())
abbrev Wh.aee:Type:=(Int×List UInt8×List UInt8)×Unit
abbrev Wh.alV:Type:=List UInt8×Unit
def Wh.LB (x:aee):Option (aee⊕alV):=
 let Tl:=x.1.1;let D3:=x.1.2.1;let Tq:=x.1.2.2;bif decide (Tl>0) then
  let s5:Bool:=(Int.tmod Tl 2)==1;bif s5 then
   let xe:List UInt8:=Tq++D3;bif kL [decide (List.length Tq+List.length D3≤eV)] then
    let mb:List UInt8:=D3++D3;bif kL [decide (List.length D3+List.length D3≤eV)] then
     some (.inl (((IntKind.wrap .i64 (Int.tdiv Tl 2)),mb,xe),()))
    else none
   else none
  else
   let nT:List UInt8:=D3++D3;bif kL [decide (List.length D3+List.length D3≤eV)] then
    some (.inl (((IntKind.wrap .i64 (Int.tdiv Tl 2)),nT,Tq),()))
   else none
 else
  some (.inr (Tq,()))
def Wh.aef:List UInt8×Unit:=default
def Wh.JX (xs:List UInt8×Int):Option (List UInt8×Unit):=
 let c9:=xs.1;let n_1:=xs.2;ia LB aef (((n_1,c9,[]),())) fun UG=>
  let out_26:=UG.1;some (out_26,())
def Wh.Iy (xs:Int):Option (List UInt8×Unit):=
 let size_0:=xs;dj JX (tv [(0:Int)],size_0) fun r_1=>
  some (r_1.1,())
abbrev Wh.aeW:Type:=(Int×Unit×Unit×Bool×Unit×Unit)×(Int×Int×Unit×Unit)×gv.D×(Int×Int×Unit×Unit)×(Int×Int×Unit×Unit)×List gv.D×List gv.D×List gv.D
abbrev Wh.amg:Type:=(Unit×Unit×Unit×Bool)×(Int×Int×Unit×Unit)×(Int×Int×Unit×Unit)×gv.D×List gv.D×List gv.D
def Wh.FF (x:aeW):Option (aeW⊕amg):=
 let Jt:=x.1.1;let ES:=x.1.2.2.2.1;let Az:=x.2.1.1;let AW:=x.2.1.2.1;let AI:=x.2.1.2.2.2;let nS:=x.2.2.1;let AB:=x.2.2.2.1.1;let Cm:=x.2.2.2.1.2.1;let Cc:=x.2.2.2.1.2.2.2;let Bb:=x.2.2.2.2.1.1;let BL:=x.2.2.2.2.1.2.1;let Cd:=x.2.2.2.2.1.2.2.2;let Bc:=x.2.2.2.2.2.1;let AX:=x.2.2.2.2.2.2.1;let BM:=x.2.2.2.2.2.2.2;let Uy:Int:=(↑(List.length AX):Int);bif decide (Jt<Uy) then
  let G6:=List.getD AX (Int.toNat Jt) ([],[],());bif kL [decide (0≤Jt),decide (Jt<Uy)] then
   let Fc:=List.getD nS.1 (Int.toNat 0) 0;b8 (zog Ei (G6.1,Fc)) fun r_70=>
   bif kL [qu (Ei (G6.1,Fc)),true,decide (0<(↑(List.length nS.1):Int))] then
    bif r_70.1 then
     b8 (zog Fx (G6.2.1,nS.2.1)) fun r_71=>
     b8 (zog Hq (G6.1,nS.1)) fun Ku=>
     bif kL [qu (Fx (G6.2.1,nS.2.1)),qu (Hq (G6.1,nS.1))] then
      let Uz:=bif !ES then decide (List.getD Ku.1 (Int.toNat 0) 0>Fc) else false;bif kL [!!ES || decide ((0:Int)≤0),!!ES || decide (0<(↑(List.length nS.1):Int)),!!ES || decide ((0:Int)≤0),!!ES || decide (0<(↑(List.length Ku.1):Int))] then
       bif Uz then
        let M6:List (gv.D):=[nS];let Cu:=Bc++M6;bif kL [decide (List.length Bc+(1:Nat)≤eV)] then
         let pb_76:List (gv.D):=[(Ku.1,r_71.1,())];let Bo:=Cu++pb_76;bif kL [decide (List.length Cu+(1:Nat)≤eV)] then
          some (.inl (((IntKind.wrap .i64 (Jt+1)),(),(),true,(),()),(Az,AW,(),AI),nS,(AB,Cm,(),Cc),(Bb,BL,(),Cd),Bo,AX,BM))
         else none
        else none
       else
        let TA:List (gv.D):=[(Ku.1,r_71.1,())];let Ea:=Bc++TA;bif kL [decide (List.length Bc+(1:Nat)≤eV)] then
         some (.inl (((IntKind.wrap .i64 (Jt+1)),(),(),ES,(),()),(Az,AW,(),AI),nS,(AB,Cm,(),Cc),(Bb,BL,(),Cd),Ea,AX,BM))
        else none
      else none
     else none
    else
     let NJ:=bif !ES then decide (List.getD G6.1 (Int.toNat 0) 0>Fc) else false;bif kL [!!ES || decide ((0:Int)≤0),!!ES || decide (0<(↑(List.length nS.1):Int)),!!ES || decide ((0:Int)≤0),!!ES || decide (0<(↑(List.length G6.1):Int))] then
      bif NJ then
       let pb_83:List (gv.D):=[nS];let CV:=Bc++pb_83;bif kL [decide (List.length Bc+(1:Nat)≤eV)] then
        let pb_85:List (gv.D):=[G6];let Ld:=CV++pb_85;bif kL [decide (List.length CV+(1:Nat)≤eV)] then
         some (.inl (((IntKind.wrap .i64 (Jt+1)),(),(),true,(),()),(Az,AW,(),AI),nS,(AB,Cm,(),Cc),(Bb,BL,(),Cd),Ld,AX,BM))
        else none
       else none
      else
       let pb_88:List (gv.D):=[G6];let Le:=Bc++pb_88;bif kL [decide (List.length Bc+(1:Nat)≤eV)] then
        some (.inl (((IntKind.wrap .i64 (Jt+1)),(),(),ES,(),()),(Az,AW,(),AI),nS,(AB,Cm,(),Cc),(Bb,BL,(),Cd),Le,AX,BM))
       else none
     else none
   else none
  else none
 else
  some (.inr (((),(),(),ES),(Bb,BL,(),Cd),(Az,AW,(),AI),nS,BM,Bc))
def Wh.aeX:(Unit×Unit×Unit×Bool)×(Int×Int×Unit×Unit)×(Int×Int×Unit×Unit)×gv.D×List gv.D×List gv.D:=default
def Wh.Gu (xs:fk.D×List Int×List UInt8):Option (((Int×Int×List gv.D×Unit)×Int)×Unit):=
 let c9:=xs.1;let T_:=xs.2.1;let data_2:=xs.2.2;let Dq:List Int:=[]++T_;b8 (zog JZ (c9,Dq,data_2,())) fun e_=>
 bif kL [qu (JZ (c9,Dq,data_2,())),decide ((0:Nat)+List.length T_≤eV)] then
  dj Ix c9 fun n_=>
   let nP:Int:=(↑(List.length e_.1.1):Int);let FX:=nP==0;bif FX then
    dj Iy c9.2.1 fun xd=>
     bif(e_.1.2.1==xd.1) then
      some ((n_.1,1),())
     else
      some ((n_.1,2),())
   else
    ia FF aeX (((0,(),(),false,(),()),(c9.1,c9.2.1,(),()),e_.1,(n_.1.1,n_.1.2.1,(),n_.1.2.2.2),(0,0,(),()),[],n_.1.2.2.1,[])) fun NS=>
     let ahV:=NS.1.2.2.2;let Lf:=NS.2.2.1.1;let Fw:=NS.2.2.1.2.1;let Il:=NS.2.2.1.2.2.2;let MT:=NS.2.2.2.1;let Dj:=NS.2.2.2.2.2;bif !ahV then
      let pb_103:List (gv.D):=[MT];let AA:=Dj++pb_103;bif kL [decide (List.length Dj+(1:Nat)≤eV)] then
       some (((Lf,Fw,AA,Il),0),())
      else none
     else
      some (((Lf,Fw,Dj,Il),0),())
 else none
def Wh.Lz (xs:r5.D×Int×List UInt8):Option ((((Int×Int×List Int×List Int×Unit)×(Int×Int×List gv.D×Unit)×Unit)×Int)×Unit):=
 let n5:=xs.1;let F5:=xs.2.1;let data_2:=xs.2.2;dj FC n5 fun r_3=>
  bif !r_3.1 then
   some ((((0,0,[],[],()),(0,0,[],()),()),3),())
  else
   dj J1 n5 fun e_=>
    b8 (zog g7 (F5,0,9999)) fun ic=>
    let n4:=bif !ic.1 then true else(↑(List.length data_2):Int) != n5.1.2.1;bif kL [qu (g7 (F5,0,9999))] then
     bif n4 then
      some ((e_.1,3),())
     else
      b8 (zog E9 (n5.1,F5)) fun AO=>
      b8 (zog Gu (n5.2.1,AO.1,data_2)) fun Be=>
      bif kL [qu (Gu (n5.2.1,AO.1,data_2)),qu (E9 (n5.1,F5))] then
       some (((e_.1.1,(Be.1.1.1,Be.1.1.2.1,Be.1.1.2.2.1,Be.1.1.2.2.2),e_.1.2.2),Be.1.2),())
      else none
    else none
def Wh.JO (xs:bn.D):Option (List eL.D×Unit):=
 let cx:=xs;bif(cx.2.2.2.2.1==0) then
  some ([],())
 else
  let BW:List (eL.D):=[(5,cx.1,cx.2.1,cx.2.2.2.2.1,0,[],[],())];some (BW,())
def Wh.q47 (xs:bn.D×eL.D):Option ((bn.D×List eL.D)×Unit):=
 let cx:=xs.1;let w_1:=xs.2;bif(cx.2.2.1==1) then
  some ((cx,[]),())
 else
  let AL:=bif(cx.2.2.2.2.1 != w_1.2.2.2.1) then true else cx.2.2.1 != 2;bif AL then
   dj JP w_1 fun ic=>
    some ((cx,ic.1),())
  else
   dj IQ (cx.2.2.2.2.2.1) fun n_=>
    dj Lz (cx.2.2.2.2.2.1,w_1.2.2.2.2.1,w_1.2.2.2.2.2.2.1) fun AO=>
     bif(AO.1.2 != 0) then
      some ((cx,[]),())
     else
      dj EJ AO.1.1 fun xd=>
       bif xd.1 then
        dj JO (cx.1,cx.2.1,3,cx.2.2.2.1,cx.2.2.2.2.1,AO.1.1,cx.2.2.2.2.2.2) fun A3=>
         some (((cx.1,cx.2.1,3,cx.2.2.2.1,cx.2.2.2.2.1,AO.1.1,cx.2.2.2.2.2.2),A3.1),())
       else
        dj IQ AO.1.1 fun Cf=>
         bif decide (Cf.1>n_.1) then
          let X3:List (eL.D):=[(4,cx.1,cx.2.1,cx.2.2.2.2.1,Cf.1,[],[],())];bif kL [qu (IQ AO.1.1)] then
           some (((cx.1,cx.2.1,cx.2.2.1,cx.2.2.2.1,cx.2.2.2.2.1,AO.1.1,cx.2.2.2.2.2.2),X3),())
          else none
         else
          some (((cx.1,cx.2.1,cx.2.2.1,cx.2.2.2.1,cx.2.2.2.2.1,AO.1.1,cx.2.2.2.2.2.2),[]),())
def Wh.q23 (xs:bn.D×eL.D):Option ((bn.D×List eL.D)×Unit):=
 let cx:=xs.1;let w_1:=xs.2;dj DK cx fun r_2=>
  bif !r_2.1 then
   some (((0,0,0,[],0,((0,0,[],[],()),(0,0,[],()),()),()),[]),())
  else
   dj Gm cx fun r_3=>
    b8 (zog Eg w_1) fun e_=>
    let nP:=bif bif !e_.1 then true else w_1.2.1 != cx.1 then true else decide (w_1.2.2.1>cx.2.1);bif kL [qu (Eg w_1)] then
     bif nP then
      some ((r_3.1,[]),())
     else
      let A4:=bif decide (w_1.2.2.1<cx.2.1) then true else cx.2.2.1==0;bif A4 then
       bif(w_1.1==3) then
        dj JP w_1 fun Cf=>
         some ((r_3.1,Cf.1),())
       else
        some ((r_3.1,[]),())
      else
       bif(w_1.1==2) then
        dj q46 (r_3.1,w_1) fun Dv=>
         some ((Dv.1,[]),())
       else
        bif(w_1.1==3) then
         dj q47 (r_3.1,w_1) fun Fa=>
          some (Fa.1,())
        else
         bif(w_1.1==6) then
          let mb:=bif bif(cx.2.2.1==1) then true else cx.2.2.1==2 then w_1.2.2.2.1==cx.2.2.2.2.1 else false;bif mb then
           some (((r_3.1.1,r_3.1.2.1,4,r_3.1.2.2.2),[]),())
          else
           some ((r_3.1,[]),())
         else
          some ((r_3.1,[]),())
    else none
def Wh.Nk (x:(Unit×Unit×Unit×Unit)×((Bool×Int×List UInt8×(Int×Unit×Unit)×(Unit×Int×Unit)×Unit×Unit×Unit)×Unit×Unit×Unit×Unit)×(b7.D×Unit×Unit×Unit×Unit)×b9.D×di.D×List an.D×List cg.D×List cw.D×List cp.D×List bn.D×List b9.D×List an.D×List bn.D×List b9.D×List an.D):Option ((Unit×Unit×Unit)×((Bool×Int×List UInt8×(Int×Unit×Unit)×(Unit×Int×Unit)×Unit×Unit×Unit)×Unit×Unit×Unit×Unit)×(b7.D×Unit×Unit×Unit×Unit)×b9.D×List an.D×List cg.D×List cw.D×List cp.D×List bn.D×List b9.D×List an.D×List bn.D×List b9.D×List an.D):=
 let AF:=x.2.1.1.1;let Ba:=x.2.1.1.2.1;let w7:=x.2.1.1.2.2.1;let ng:=x.2.1.1.2.2.2.1.1;let AN:=x.2.1.1.2.2.2.1.2.2;let Bl:=x.2.1.1.2.2.2.2.1.2;let nE:=x.2.1.1.2.2.2.2.2.2.2;let AR:=x.2.1.2.2.2.2;let AU:=x.2.2.1.1;let AG:=x.2.2.1.2.2.2.2;let AH:=x.2.2.2.1;let nI:=x.2.2.2.2.1;let zC:=x.2.2.2.2.2.1;let vT:=x.2.2.2.2.2.2.1;let w8:=x.2.2.2.2.2.2.2.1;let AV:=x.2.2.2.2.2.2.2.2.1;let qe:=x.2.2.2.2.2.2.2.2.2.1;let z9:=x.2.2.2.2.2.2.2.2.2.2.1;let nG:=x.2.2.2.2.2.2.2.2.2.2.2.1;let wm:=x.2.2.2.2.2.2.2.2.2.2.2.2.1;let tc:=x.2.2.2.2.2.2.2.2.2.2.2.2.2.1;let Az:=x.2.2.2.2.2.2.2.2.2.2.2.2.2.2;bif(!nI.2.2.2.2.2.1) then
  let Tv:List (b9.D):=[]++List.take (Int.toNat (nI.2.1-0)) (List.drop (Int.toNat 0) tc);let pb_56:List (b9.D):=Tv++List.take (Int.toNat ((↑(List.length tc):Int)-IntKind.wrap .i64 (nI.2.1+1))) (List.drop (Int.toNat (IntKind.wrap .i64 (nI.2.1+1))) tc);let v_57:Nat:=Int.toNat (nI.2.1-0);let NH:=IntKind.wrap .i64 (nI.2.1+1);bif kL [decide (List.length Tv+List.length (List.take (Int.toNat ((↑(List.length tc):Int)-NH)) (List.drop (Int.toNat NH) tc))≤eV),decide (0≤NH),decide (NH≤(↑(List.length tc):Int)),decide ((↑(List.length tc):Int)≤(↑(List.length tc):Int)),decide ((0:Nat)+List.length (List.take v_57 (List.drop (Int.toNat 0) tc))≤eV),true,decide (0≤nI.2.1),decide (nI.2.1≤(↑(List.length tc):Int))] then
   some ((((),(),()),((AF,Ba,w7,(ng,(),AN),((),Bl),(),(),nE),(),(),(),AR),(AU,(),(),(),AG),AH,zC,vT,w8,AV,qe,z9,nG,wm,pb_56,Az))
  else none
 else
  some ((((),(),()),((AF,Ba,w7,(ng,(),AN),((),Bl),(),(),nE),(),(),(),AR),(AU,(),(),(),AG),AH,zC,vT,w8,AV,qe,z9,nG,wm,tc,Az))
def Wh.q9' (x:((Unit)×(Unit)×(Unit)×(Unit))×((((Bool)×((Int)×((List UInt8)×(((Int)×((Unit)×(Unit)))×(((Unit)×((Int)×(Unit)))×((Unit)×((Unit)×(Unit))))))))×((Unit)×((Unit)×((Unit)×(Unit)))))×((b7.D)×((Unit)×((Unit)×((Unit)×(Unit)))))×(b9.D)×(di.D)×(List (an.D))×(List (cg.D))×(List (cw.D))×(List (cp.D))×(List (bn.D))×(List (b9.D))×(List (an.D))×(List (bn.D))×(List (b9.D))×(List (an.D)))):(((Unit)×(Unit)×(Unit))×((((Bool)×((Int)×((List UInt8)×(((Int)×((Unit)×(Unit)))×(((Unit)×((Int)×(Unit)))×((Unit)×((Unit)×(Unit))))))))×((Unit)×((Unit)×((Unit)×(Unit)))))×((b7.D)×((Unit)×((Unit)×((Unit)×(Unit)))))×(b9.D)×(List (an.D))×(List (cg.D))×(List (cw.D))×(List (cp.D))×(List (bn.D))×(List (b9.D))×(List (an.D))×(List (bn.D))×(List (b9.D))×(List (an.D)))):=match Nk x with | some y=>y|none=>(default,(default,default,default,default,default,default,default,default,default,default,default,default,default))
def Wh.q9_v (x:((Unit)×(Unit)×(Unit)×(Unit))×((((Bool)×((Int)×((List UInt8)×(((Int)×((Unit)×(Unit)))×(((Unit)×((Int)×(Unit)))×((Unit)×((Unit)×(Unit))))))))×((Unit)×((Unit)×((Unit)×(Unit)))))×((b7.D)×((Unit)×((Unit)×((Unit)×(Unit)))))×(b9.D)×(di.D)×(List (an.D))×(List (cg.D))×(List (cw.D))×(List (cp.D))×(List (bn.D))×(List (b9.D))×(List (an.D))×(List (bn.D))×(List (b9.D))×(List (an.D))))(y:(((Unit)×(Unit)×(Unit))×((((Bool)×((Int)×((List UInt8)×(((Int)×((Unit)×(Unit)))×(((Unit)×((Int)×(Unit)))×((Unit)×((Unit)×(Unit))))))))×((Unit)×((Unit)×((Unit)×(Unit)))))×((b7.D)×((Unit)×((Unit)×((Unit)×(Unit)))))×(b9.D)×(List (an.D))×(List (cg.D))×(List (cw.D))×(List (cp.D))×(List (bn.D))×(List (b9.D))×(List (an.D))×(List (bn.D))×(List (b9.D))×(List (an.D)))))(h:Nk x=some y):q9' x=y:=by unfold q9';rw[h]
def Wh.q66 (xs:(b7.D×List bn.D×List b9.D×List an.D×Unit)×di.D):Option ((b7.D×List bn.D×List b9.D×List an.D×Unit)×Unit):=
 let w_0:=xs.1;let e_1:=xs.2;let BW:=List.getD (w_0.2.2.1) (Int.toNat e_1.2.1) (0,[],false,());bif kL [decide (0≤e_1.2.1),decide (e_1.2.1<(↑(List.length (w_0.2.2.1)):Int))] then
  CL Nk q9' ((((),(),(),()),((false,0,[],(0,(),()),((),0,()),(),(),()),(),(),(),()),(w_0.1,(),(),(),w_0.2.2.2.2),BW,e_1,[],[],[],[],[],[],[],w_0.2.1,w_0.2.2.1,w_0.2.2.2.1)) fun NR=>
   let Dl:=NR.2.2.1.1;let Bn:=NR.2.2.1.2.2.2.2;let A1:=NR.2.2.2.1;let Ea:=NR.2.2.2.2.2.2.2.2.2.2.2.1;let G4:=NR.2.2.2.2.2.2.2.2.2.2.2.2.1;let CU:=NR.2.2.2.2.2.2.2.2.2.2.2.2.2;dj q63 A1.2.1 fun T7=>
    bif(!T7.1.2) then
     some ((Dl,Ea,G4,CU,Bn),())
    else
     bif(A1.1==9) then
      dj q28 (Dl,T7.1.1) fun Np=>
       dj Gn ((Np.1.1,Ea,G4,CU,Bn),-1,Np.1.2) fun Nq=>
        some (Nq.1,())
     else
      b8 (zog q23 (List.getD Ea (Int.toNat A1.1) (0,0,0,[],0,((0,0,[],[],()),(0,0,[],()),()),()),T7.1.1)) fun r_88=>
      let Qi:Nat:=Int.toNat A1.1;bif kL [qu (q23 (List.getD Ea Qi (0,0,0,[],0,((0,0,[],[],()),(0,0,[],()),()),()),T7.1.1)),decide (0≤A1.1),decide (A1.1<(↑(List.length Ea):Int))] then
       let XG:=List.set Ea Qi r_88.1.1;bif kL [decide (0≤A1.1),decide (A1.1<(↑(List.length Ea):Int))] then
        dj Gn ((Dl,XG,G4,CU,Bn),9,r_88.1.2) fun Nr=>
         some (Nr.1,())
       else none
      else none
 else none
def Wh.q71 (xs:b9.D×Int):Option (b9.D×Unit):=
 let g8:=xs.1;let n_1:=xs.2;let BW:List Int:=bytesOf g8.2.1;bif kL [decide (List.length g8.2.1≤eV)] then
  let k_5:Int:=Int.tmod (Int.tmod n_1 4096) (↑(List.length BW):Int);bif kL [(↑(List.length BW):Int) != 0,true] then
   let Py:=List.set BW (Int.toNat k_5) (pZ Go.BinOp.xor Go.IntKind.u8 (List.getD BW (Int.toNat k_5) 0) (IntKind.wrap .u8 (IntKind.wrap .i64 (1+Int.tmod (IntKind.wrap .i64 (Int.tdiv n_1 4096)) 255))));bif kL [decide (0≤k_5),decide (k_5<(↑(List.length BW):Int)),true,true,decide (0≤k_5),decide (k_5<(↑(List.length BW):Int))] then
    some ((g8.1,tv Py,true,()),())
   else none
  else none
 else none
def Wh.q70 (xs:(b7.D×List bn.D×List b9.D×List an.D×Unit)×di.D):Option (((b7.D×List bn.D×List b9.D×List an.D×Unit)×Bool)×Unit):=
 let w_0:=xs.1;let e_1:=xs.2;let v_2:Int:=(↑(List.length (w_0.2.2.1)):Int);dj g7 (e_1.2.1,0,IntKind.wrap .i64 (v_2-1)) fun ic=>
  bif !ic.1 then
   some ((w_0,false),())
  else
   bif(e_1.1==8) then
    dj q66 (w_0,e_1) fun AO=>
     some ((AO.1,true),())
   else
    bif(e_1.1==9) then
     let JI:List (b9.D):=[]++List.take (Int.toNat (e_1.2.1-0)) (List.drop (Int.toNat 0) (w_0.2.2.1));let X1:List (b9.D):=JI++List.take (Int.toNat (v_2-IntKind.wrap .i64 (e_1.2.1+1))) (List.drop (Int.toNat (IntKind.wrap .i64 (e_1.2.1+1))) (w_0.2.2.1));let CJ:Nat:=Int.toNat (e_1.2.1-0);let AZ:=IntKind.wrap .i64 (e_1.2.1+1);bif kL [decide (List.length JI+List.length (List.take (Int.toNat (v_2-AZ)) (List.drop (Int.toNat AZ) (w_0.2.2.1)))≤eV),decide (0≤AZ),decide (AZ≤v_2),decide (v_2≤v_2),decide ((0:Nat)+List.length (List.take CJ (List.drop (Int.toNat 0) (w_0.2.2.1)))≤eV),true,decide (0≤e_1.2.1),decide (e_1.2.1≤v_2)] then
      some (((w_0.1,w_0.2.1,X1,w_0.2.2.2),true),())
     else none
    else
     let pg:Nat:=Int.toNat e_1.2.1;let xe:=bif bif(((List.getD (w_0.2.2.1) pg (0,[],false,())).2).2).1 then true else((List.getD (w_0.2.2.1) pg (0,[],false,())).2).1 == [] then true else decide (e_1.2.2.1<0);bif kL [!!(((List.getD (w_0.2.2.1) pg (0,[],false,())).2).2).1 || decide (0≤e_1.2.1),!!(((List.getD (w_0.2.2.1) pg (0,[],false,())).2).2).1 || decide (e_1.2.1<v_2),decide (0≤e_1.2.1),decide (e_1.2.1<v_2)] then
      bif xe then
       some ((w_0,false),())
      else
       b8 (zog q71 (List.getD (w_0.2.2.1) pg (0,[],false,()),e_1.2.2.1)) fun CF=>
       let pb_21:=List.set (w_0.2.2.1) pg CF.1;bif kL [decide (0≤e_1.2.1),decide (e_1.2.1<v_2),qu (q71 (List.getD (w_0.2.2.1) pg (0,[],false,()),e_1.2.2.1)),decide (0≤e_1.2.1),decide (e_1.2.1<v_2)] then
        some (((w_0.1,w_0.2.1,pb_21,w_0.2.2.2),true),())
       else none
     else none
def Wh.JN (xs:bn.D):Option (List eL.D×Unit):=
 let cx:=xs;let EZ:List (eL.D):=[(1,cx.1,cx.2.1,cx.2.2.2.2.1,0,cx.2.2.2.1,[],())];some (EZ,())
def Wh.q24 (xs:bn.D×List UInt8):Option (((Int×Int×Int×List UInt8×Int×((Int×Int×List Int×List Int×Unit)×(Int×Int×List gv.D×Unit)×Unit)×Unit)×List eL.D)×Unit):=
 let cx:=xs.1;let Ee:=xs.2;dj DK cx fun r_2=>
  bif !r_2.1 then
   some (((0,0,0,[],0,((0,0,[],[],()),(0,0,[],()),()),()),[]),())
  else
   let AK:=decide (cx.2.1≥99999);b8 (zog DJ Ee) fun e_=>
   let oc:=bif AK then true else !e_.1;bif kL [!!AK || qu (DJ Ee)] then
    bif oc then
     dj Gm cx fun n_=>
      some ((n_.1,[]),())
    else
     let Lm:=IntKind.wrap .i64 (cx.2.1+1);dj JN (cx.1,Lm,1,Ee,0,((0,0,[],[],()),(0,0,[],()),()),()) fun Be=>
      some (((cx.1,Lm,1,Ee,0,((0,0,[],[],()),(0,0,[],()),()),()),Be.1),())
   else none
def Wh.LY (xs:bn.D):Option (((Int×Int×Int×List UInt8×Int×((Int×Int×List Int×List Int×Unit)×(Int×Int×List gv.D×Unit)×Unit)×Unit)×List eL.D)×Unit):=
 let cx:=xs;dj DK cx fun r_1=>
  bif !r_1.1 then
   some (((0,0,0,[],0,((0,0,[],[],()),(0,0,[],()),()),()),[]),())
  else
   dj Gm cx fun r_2=>
    let n4:=bif bif decide (cx.2.1≥99999) then true else cx.2.2.2.2.1==0 then true else cx.2.2.1==3;bif n4 then
     some ((r_2.1,[]),())
    else
     let Lm:=IntKind.wrap .i64 (cx.2.1+1);dj JN (r_2.1.1,Lm,1,r_2.1.2.2.2) fun Be=>
      some (((r_2.1.1,Lm,1,r_2.1.2.2.2),Be.1),())
def Wh.q25 (xs:bn.D):Option (((Int×Int×Int×List UInt8×Int×((Int×Int×List Int×List Int×Unit)×(Int×Int×List gv.D×Unit)×Unit)×Unit)×List eL.D)×Unit):=
 let cx:=xs;dj DK cx fun r_1=>
  bif !r_1.1 then
   some (((0,0,0,[],0,((0,0,[],[],()),(0,0,[],()),()),()),[]),())
  else
   dj JO cx fun r_2=>
    some (((cx.1,cx.2.1,0,[],0,((0,0,[],[],()),(0,0,[],()),()),()),r_2.1),())
def Wh.FH (xs:bn.D):Option (List eL.D×Unit):=
 let cx:=xs;b8 (zog DK cx) fun r_1=>
 let v_2:=bif !r_1.1 then true else bif cx.2.2.1 != 1 then cx.2.2.1 != 2 else false;bif kL [qu (DK cx)] then
  bif v_2 then
   some ([],())
  else
   dj JN cx fun r_3=>
    some (r_3.1,())
 else none
def Wh.q6 (x:(Unit×Unit×Unit×Unit×Unit)×((Bool×Int×List UInt8×(Int×Unit×Unit)×(Unit×Int×Unit)×Unit×Unit×Unit)×Unit×Unit×Unit×Unit)×(b7.D×Unit×Unit×Unit×Unit)×di.D×bn.D×bn.D×List an.D×List cg.D×List cw.D×List cp.D×List bn.D×List b9.D×List an.D×List bn.D×List b9.D×List an.D):Option ((Unit×Unit×Unit×Unit×Unit×Unit)×((Bool×Int×List UInt8×(Int×Unit×Unit)×(Unit×Int×Unit)×Unit×Unit×Unit)×Unit×Unit×Unit×Unit)×List eL.D×(b7.D×Unit×Unit×Unit×Unit)×di.D×bn.D×(Int×Int×Int×List UInt8×Int×((Int×Int×Unit×Unit×Unit)×(Int×Int×Unit×Unit)×Unit)×Unit)×List an.D×List cg.D×List cw.D×List cp.D×List bn.D×List b9.D×List an.D×List bn.D×List b9.D×List an.D×List Int×List Int×List gv.D⊕(Unit×Unit×Unit×Unit×Unit×Unit)×((Bool×Int×List UInt8×(Int×Unit×Unit)×(Unit×Int×Unit)×Unit×Unit×Unit)×Unit×Unit×Unit×Unit)×List eL.D×(b7.D×Unit×Unit×Unit×Unit)×di.D×bn.D×bn.D×List an.D×List cg.D×List cw.D×List cp.D×List bn.D×List b9.D×List an.D×List bn.D×List b9.D×List an.D):=
 let ng:=x.2.1.1.1;let AN:=x.2.1.1.2.1;let Bl:=x.2.1.1.2.2.1;let nE:=x.2.1.1.2.2.2.1.1;let AR:=x.2.1.1.2.2.2.1.2.2;let AU:=x.2.1.1.2.2.2.2.1.2;let AG:=x.2.1.1.2.2.2.2.2.2.2;let AH:=x.2.1.2.2.2.2;let nI:=x.2.2.1.1;let zC:=x.2.2.1.2.2.2.2;let vT:=x.2.2.2.1;let w8:=x.2.2.2.2.1;let AV:=x.2.2.2.2.2.1;let qe:=x.2.2.2.2.2.2.1;let z9:=x.2.2.2.2.2.2.2.1;let nG:=x.2.2.2.2.2.2.2.2.1;let wm:=x.2.2.2.2.2.2.2.2.2.1;let tc:=x.2.2.2.2.2.2.2.2.2.2.1;let Az:=x.2.2.2.2.2.2.2.2.2.2.2.1;let AW:=x.2.2.2.2.2.2.2.2.2.2.2.2.1;let AI:=x.2.2.2.2.2.2.2.2.2.2.2.2.2.1;let nS:=x.2.2.2.2.2.2.2.2.2.2.2.2.2.2.1;let AB:=x.2.2.2.2.2.2.2.2.2.2.2.2.2.2.2;bif(vT.1==3) then
  dj q24 (w8,vT.2.2.2.1) fun DM=>
   some (.inl ((((),(),(),(),(),()),((ng,AN,Bl,(nE,(),AR),((),AU),(),(),AG),(),(),(),AH),DM.1.2,(nI,(),(),(),zC),vT,w8,(DM.1.1.1,DM.1.1.2.1,DM.1.1.2.2.1,DM.1.1.2.2.2.1,DM.1.1.2.2.2.2.1,((DM.1.1.2.2.2.2.2.1.1.1,DM.1.1.2.2.2.2.2.1.1.2.1,(),(),DM.1.1.2.2.2.2.2.1.1.2.2.2.2),(DM.1.1.2.2.2.2.2.1.2.1.1,DM.1.1.2.2.2.2.2.1.2.1.2.1,(),DM.1.1.2.2.2.2.2.1.2.1.2.2.2),DM.1.1.2.2.2.2.2.1.2.2),DM.1.1.2.2.2.2.2.2),qe,z9,nG,wm,tc,Az,AW,AI,nS,AB,DM.1.1.2.2.2.2.2.1.1.2.2.1,DM.1.1.2.2.2.2.2.1.1.2.2.2.1,DM.1.1.2.2.2.2.2.1.2.1.2.2.1)))
 else
  bif(vT.1==4) then
   dj LY w8 fun CY=>
    some (.inl ((((),(),(),(),(),()),((ng,AN,Bl,(nE,(),AR),((),AU),(),(),AG),(),(),(),AH),CY.1.2,(nI,(),(),(),zC),vT,w8,(CY.1.1.1,CY.1.1.2.1,CY.1.1.2.2.1,CY.1.1.2.2.2.1,CY.1.1.2.2.2.2.1,((CY.1.1.2.2.2.2.2.1.1.1,CY.1.1.2.2.2.2.2.1.1.2.1,(),(),CY.1.1.2.2.2.2.2.1.1.2.2.2.2),(CY.1.1.2.2.2.2.2.1.2.1.1,CY.1.1.2.2.2.2.2.1.2.1.2.1,(),CY.1.1.2.2.2.2.2.1.2.1.2.2.2),CY.1.1.2.2.2.2.2.1.2.2),CY.1.1.2.2.2.2.2.2),qe,z9,nG,wm,tc,Az,AW,AI,nS,AB,CY.1.1.2.2.2.2.2.1.1.2.2.1,CY.1.1.2.2.2.2.2.1.1.2.2.2.1,CY.1.1.2.2.2.2.2.1.2.1.2.2.1)))
  else
   bif(vT.1==5) then
    dj q25 w8 fun DN=>
     some (.inl ((((),(),(),(),(),()),((ng,AN,Bl,(nE,(),AR),((),AU),(),(),AG),(),(),(),AH),DN.1.2,(nI,(),(),(),zC),vT,w8,(DN.1.1.1,DN.1.1.2.1,DN.1.1.2.2.1,DN.1.1.2.2.2.1,DN.1.1.2.2.2.2.1,((DN.1.1.2.2.2.2.2.1.1.1,DN.1.1.2.2.2.2.2.1.1.2.1,(),(),DN.1.1.2.2.2.2.2.1.1.2.2.2.2),(DN.1.1.2.2.2.2.2.1.2.1.1,DN.1.1.2.2.2.2.2.1.2.1.2.1,(),DN.1.1.2.2.2.2.2.1.2.1.2.2.2),DN.1.1.2.2.2.2.2.1.2.2),DN.1.1.2.2.2.2.2.2),qe,z9,nG,wm,tc,Az,AW,AI,nS,AB,DN.1.1.2.2.2.2.2.1.1.2.2.1,DN.1.1.2.2.2.2.2.1.1.2.2.2.1,DN.1.1.2.2.2.2.2.1.2.1.2.2.1)))
   else
    dj FH w8 fun r_64=>
     some (.inr ((((),(),(),(),(),()),((ng,AN,Bl,(nE,(),AR),((),AU),(),(),AG),(),(),(),AH),r_64.1,(nI,(),(),(),zC),vT,w8,AV,qe,z9,nG,wm,tc,Az,AW,AI,nS,AB)))
def Wh.q6' (x:((Unit)×(Unit)×(Unit)×(Unit)×(Unit))×((((Bool)×((Int)×((List UInt8)×(((Int)×((Unit)×(Unit)))×(((Unit)×((Int)×(Unit)))×((Unit)×((Unit)×(Unit))))))))×((Unit)×((Unit)×((Unit)×(Unit)))))×((b7.D)×((Unit)×((Unit)×((Unit)×(Unit)))))×(di.D)×(bn.D)×(bn.D)×(List (an.D))×(List (cg.D))×(List (cw.D))×(List (cp.D))×(List (bn.D))×(List (b9.D))×(List (an.D))×(List (bn.D))×(List (b9.D))×(List (an.D)))):(((Unit)×(Unit)×(Unit)×(Unit)×(Unit)×(Unit))×((((Bool)×((Int)×((List UInt8)×(((Int)×((Unit)×(Unit)))×(((Unit)×((Int)×(Unit)))×((Unit)×((Unit)×(Unit))))))))×((Unit)×((Unit)×((Unit)×(Unit)))))×(List (eL.D))×((b7.D)×((Unit)×((Unit)×((Unit)×(Unit)))))×(di.D)×(bn.D)×((Int)×((Int)×((Int)×((List UInt8)×((Int)×((((Int)×((Int)×((Unit)×((Unit)×(Unit)))))×(((Int)×((Int)×((Unit)×(Unit))))×(Unit)))×(Unit)))))))×(List (an.D))×(List (cg.D))×(List (cw.D))×(List (cp.D))×(List (bn.D))×(List (b9.D))×(List (an.D))×(List (bn.D))×(List (b9.D))×(List (an.D))×(List (Int))×(List (Int))×(List (gv.D))))⊕(((Unit)×(Unit)×(Unit)×(Unit)×(Unit)×(Unit))×((((Bool)×((Int)×((List UInt8)×(((Int)×((Unit)×(Unit)))×(((Unit)×((Int)×(Unit)))×((Unit)×((Unit)×(Unit))))))))×((Unit)×((Unit)×((Unit)×(Unit)))))×(List (eL.D))×((b7.D)×((Unit)×((Unit)×((Unit)×(Unit)))))×(di.D)×(bn.D)×(bn.D)×(List (an.D))×(List (cg.D))×(List (cw.D))×(List (cp.D))×(List (bn.D))×(List (b9.D))×(List (an.D))×(List (bn.D))×(List (b9.D))×(List (an.D)))):=match Wh.q6 x with | some y=>y|none=>.inl (default,(default,default,default,default,default,default,default,default,default,default,default,default,default,default,default,default,default,default,default))
def Wh.q6_v (x:((Unit)×(Unit)×(Unit)×(Unit)×(Unit))×((((Bool)×((Int)×((List UInt8)×(((Int)×((Unit)×(Unit)))×(((Unit)×((Int)×(Unit)))×((Unit)×((Unit)×(Unit))))))))×((Unit)×((Unit)×((Unit)×(Unit)))))×((b7.D)×((Unit)×((Unit)×((Unit)×(Unit)))))×(di.D)×(bn.D)×(bn.D)×(List (an.D))×(List (cg.D))×(List (cw.D))×(List (cp.D))×(List (bn.D))×(List (b9.D))×(List (an.D))×(List (bn.D))×(List (b9.D))×(List (an.D))))(y:(((Unit)×(Unit)×(Unit)×(Unit)×(Unit)×(Unit))×((((Bool)×((Int)×((List UInt8)×(((Int)×((Unit)×(Unit)))×(((Unit)×((Int)×(Unit)))×((Unit)×((Unit)×(Unit))))))))×((Unit)×((Unit)×((Unit)×(Unit)))))×(List (eL.D))×((b7.D)×((Unit)×((Unit)×((Unit)×(Unit)))))×(di.D)×(bn.D)×((Int)×((Int)×((Int)×((List UInt8)×((Int)×((((Int)×((Int)×((Unit)×((Unit)×(Unit)))))×(((Int)×((Int)×((Unit)×(Unit))))×(Unit)))×(Unit)))))))×(List (an.D))×(List (cg.D))×(List (cw.D))×(List (cp.D))×(List (bn.D))×(List (b9.D))×(List (an.D))×(List (bn.D))×(List (b9.D))×(List (an.D))×(List (Int))×(List (Int))×(List (gv.D))))⊕(((Unit)×(Unit)×(Unit)×(Unit)×(Unit)×(Unit))×((((Bool)×((Int)×((List UInt8)×(((Int)×((Unit)×(Unit)))×(((Unit)×((Int)×(Unit)))×((Unit)×((Unit)×(Unit))))))))×((Unit)×((Unit)×((Unit)×(Unit)))))×(List (eL.D))×((b7.D)×((Unit)×((Unit)×((Unit)×(Unit)))))×(di.D)×(bn.D)×(bn.D)×(List (an.D))×(List (cg.D))×(List (cw.D))×(List (cp.D))×(List (bn.D))×(List (b9.D))×(List (an.D))×(List (bn.D))×(List (b9.D))×(List (an.D)))))(h:Wh.q6 x=some y):q6' x=y:=by unfold q6';rw[h]
def Wh.q48 (xs:(b7.D×List bn.D×List b9.D×List an.D×Unit)×di.D):Option (((b7.D×List bn.D×List b9.D×List an.D×Unit)×Bool)×Unit):=
 let w_0:=xs.1;let e_1:=xs.2;dj g7 (e_1.2.1,0,3) fun r_2=>
  bif !r_2.1 then
   some ((w_0,false),())
  else
   let Dq:=List.getD w_0.2.1 (Int.toNat e_1.2.1) (0,0,0,[],0,((0,0,[],[],()),(0,0,[],()),()),());bif kL [decide (0≤e_1.2.1),decide (e_1.2.1<(↑(List.length w_0.2.1):Int))] then
    CL Wh.q6 q6' ((((),(),(),(),()),((false,0,[],(0,(),()),((),0,()),(),(),()),(),(),(),()),(w_0.1,(),(),(),w_0.2.2.2.2),e_1,Dq,Dq,[],[],[],[],[],[],[],w_0.2.1,w_0.2.2.1,w_0.2.2.2.1)) fun q_=>
     sumC q_ (fun Ci=>
      let CT:=Ci.2.2.1;let Bo:=Ci.2.2.2.1.1;let Ez:=Ci.2.2.2.1.2.2.2.2;let EX:=Ci.2.2.2.2.1;let Ea:=Ci.2.2.2.2.2.1;let G4:=Ci.2.2.2.2.2.2.1.1;let CU:=Ci.2.2.2.2.2.2.1.2.1;let DI:=Ci.2.2.2.2.2.2.1.2.2.1;let CV:=Ci.2.2.2.2.2.2.1.2.2.2.1;let Dm:=Ci.2.2.2.2.2.2.1.2.2.2.2.1;let Ld:=Ci.2.2.2.2.2.2.1.2.2.2.2.2.1.1.1;let Pk:=Ci.2.2.2.2.2.2.1.2.2.2.2.2.1.1.2.1;let Pm:=Ci.2.2.2.2.2.2.1.2.2.2.2.2.1.1.2.2.2.2;let Le:=Ci.2.2.2.2.2.2.1.2.2.2.2.2.1.2.1.1;let XF:=Ci.2.2.2.2.2.2.1.2.2.2.2.2.1.2.1.2.1;let XG:=Ci.2.2.2.2.2.2.1.2.2.2.2.2.1.2.1.2.2.2;let MX:=Ci.2.2.2.2.2.2.1.2.2.2.2.2.1.2.2;let MY:=Ci.2.2.2.2.2.2.1.2.2.2.2.2.2;let K7:=Ci.2.2.2.2.2.2.2.2.2.2.2.2.2.2.1;let Dj:=Ci.2.2.2.2.2.2.2.2.2.2.2.2.2.2.2.1;let Ie:=Ci.2.2.2.2.2.2.2.2.2.2.2.2.2.2.2.2.1;let AA:=Ci.2.2.2.2.2.2.2.2.2.2.2.2.2.2.2.2.2.1;let Eu:=Ci.2.2.2.2.2.2.2.2.2.2.2.2.2.2.2.2.2.2.1;let Ev:=Ci.2.2.2.2.2.2.2.2.2.2.2.2.2.2.2.2.2.2.2;let Fv:=List.set K7 (Int.toNat EX.2.1) (G4,CU,DI,CV,Dm,((Ld,Pk,AA,Eu,Pm),(Le,XF,Ev,XG),MX),MY);bif kL [decide (0≤EX.2.1),decide (EX.2.1<(↑(List.length K7):Int))] then
       let ok_113:=bif bif decide (CU>Ea.2.1) then true else bif EX.1==5 then Ea.2.2.1 != 0 else false then true else bif EX.1==7 then decide ((↑(List.length CT):Int)>0) else false;dj Gn ((Bo,Fv,Dj,Ie,Ez),9,CT) fun r_114=>
        some ((r_114.1,ok_113),())
      else none) (fun Je=>
      let G2:=Je.2.2.1;let Dk:=Je.2.2.2.1.1;let Ij:=Je.2.2.2.1.2.2.2.2;let G3:=Je.2.2.2.2.1;let JC:=Je.2.2.2.2.2.1;let O3:=Je.2.2.2.2.2.2.1;let Tc:=Je.2.2.2.2.2.2.2.2.2.2.2.2.2.2.1;let Xu:=Je.2.2.2.2.2.2.2.2.2.2.2.2.2.2.2.1;let Xv:=Je.2.2.2.2.2.2.2.2.2.2.2.2.2.2.2.2;let Xw:=List.set Tc (Int.toNat G3.2.1) O3;bif kL [decide (0≤G3.2.1),decide (G3.2.1<(↑(List.length Tc):Int))] then
       let ok_145:=bif bif decide (O3.2.1>JC.2.1) then true else bif G3.1==5 then JC.2.2.1 != 0 else false then true else bif G3.1==7 then decide ((↑(List.length G2):Int)>0) else false;dj Gn ((Dk,Xw,Xu,Xv,Ij),9,G2) fun r_146=>
        some ((r_146.1,ok_145),())
      else none)
   else none
def Wh.J5 (xs:List UInt8):Option (Bool×Unit):=
 let A6:=xs;dj E6 A6 fun r_1=>
  let AL:=bif(r_1.1.2==(↑(List.length A6):Int)) then decide (r_1.1.2≤9000) else false;some (AL,())
def Wh.JW (xs:List UInt8×List UInt8):Option ((List UInt8×Bool)×Unit):=
 let A6:=xs.1;let CZ:=xs.2;dj E6 A6 fun r_2=>
  b8 (zog J5 A6) fun r_3=>
  b8 (zog g7 ((↑(List.length CZ):Int),1,500)) fun e_=>
  let oc:=bif !r_3.1 then true else !e_.1;bif kL [!!!r_3.1 || qu (g7 ((↑(List.length CZ):Int),1,500)),qu (J5 A6)] then
   bif oc then
    some (([],false),())
   else
    let n4:Int:=(↑(List.length r_2.1.1):Int);b8 (zog Hi (n4,CZ)) fun A3=>
    let x_11:List UInt8:=A6++A3.1;bif kL [decide (List.length A6+List.length (A3.1)≤eV),qu (Hi (n4,CZ))] then
     bif decide ((↑(List.length x_11):Int)>9000) then
      some (([],false),())
     else
      some ((x_11,true),())
    else none
  else none
def Wh.Fz (xs:b7.D×List UInt8):Option ((b7.D×Int)×Unit):=
 let c9:=xs.1;let CZ:=xs.2;dj JW (c9.2.2.1,CZ) fun r_2=>
  bif(!r_2.1.2) then
   some ((c9,4),())
  else
   dj FB (c9.2.2.2.1,CZ) fun e_=>
    bif(!e_.1.2) then
     some ((c9,1),())
    else
     some (((c9.1,c9.2.1,r_2.1.1,e_.1.1,c9.2.2.2.2),0),())
def Wh.q41 (xs:b7.D×Int×List UInt8×List UInt8):Option ((b7.D×Int)×Unit):=
 let c9:=xs.1;let A0:=xs.2.1;let Da:=xs.2.2.1;let L7:=xs.2.2.2;dj FL c9 fun e_=>
  bif !e_.1 then
   some (((false,0,[],(0,[],()),([],0,()),[],[],()),1),())
  else
   dj E_ c9 fun ic=>
    bif(!c9.1) then
     some ((ic.1,1),())
    else
     dj Fy (c9.2.2.2.1,A0,Da,L7) fun AO=>
      bif(AO.1.2 != 0) then
       some ((ic.1,AO.1.2),())
      else
       b8 (zog EH (A0,Da,L7)) fun xd=>
       b8 (zog Fz (ic.1,xd.1)) fun A3=>
       bif kL [qu (Fz (ic.1,xd.1)),qu (EH (A0,Da,L7))] then
        some ((A3.1.1,A3.1.2),())
       else none
abbrev Wh.adI:Type:=(Int×Unit×Unit)×(b7.D×Unit×Unit×Unit×Unit)×((Bool×Int×List UInt8×(Int×Unit×Unit)×(Unit×Int×Unit)×Unit×Unit×Unit)×Unit×Unit×Unit×Unit)×List bn.D×List b9.D×List an.D×List an.D×List cg.D×List cw.D×List cp.D×List bn.D×List b9.D×List an.D
abbrev Wh.alE:Type:=(Unit×Unit)×((Bool×Int×List UInt8×(Int×Unit×Unit)×(Unit×Int×Unit)×Unit×Unit×Unit)×Unit×Unit×Unit×Unit)×(b7.D×Unit×Unit×Unit×Unit)×List an.D×List cg.D×List cw.D×List cp.D×List bn.D×List b9.D×List an.D×List bn.D×List b9.D×List an.D
def Wh.PE (x:adI):Option (adI⊕alE):=
 let Js:=x.1.1;let Ba:=x.2.1.1;let w7:=x.2.1.2.2.2.2;let ng:=x.2.2.1.1.1;let AN:=x.2.2.1.1.2.1;let Bl:=x.2.2.1.1.2.2.1;let nE:=x.2.2.1.1.2.2.2.1.1;let AR:=x.2.2.1.1.2.2.2.1.2.2;let AU:=x.2.2.1.1.2.2.2.2.1.2;let AG:=x.2.2.1.1.2.2.2.2.2.2.2;let AH:=x.2.2.1.2.2.2.2;let nI:=x.2.2.2.1;let zC:=x.2.2.2.2.1;let vT:=x.2.2.2.2.2.1;let w8:=x.2.2.2.2.2.2.1;let AV:=x.2.2.2.2.2.2.2.1;let qe:=x.2.2.2.2.2.2.2.2.1;let z9:=x.2.2.2.2.2.2.2.2.2.1;let nG:=x.2.2.2.2.2.2.2.2.2.2.1;let wm:=x.2.2.2.2.2.2.2.2.2.2.2.1;let tc:=x.2.2.2.2.2.2.2.2.2.2.2.2;let Ja:Int:=(↑(List.length (Ba.2.2.2.1.2.1)):Int);bif decide (Js<Ja) then
  let KB:an.D:=List.getD (Ba.2.2.2.1.2.1) (Int.toNat Js) (0,[],0,[],());let FW:Int:=(↑(List.length vT):Int);bif kL [decide (0≤Js),decide (Js<Ja)] then
   bif decide (KB.2.2.1>FW) then
    let Tw:List (an.D):=[]++vT;let pb_60:List (an.D):=Tw ++ [KB];bif kL [decide (List.length Tw+(1:Nat)≤eV),decide (0≤Js),decide (Js<Ja),decide ((0:Nat)+List.length vT≤eV)] then
     some (.inl (((IntKind.wrap .i64 (Js+1)),(),()),(Ba,(),(),(),w7),((ng,AN,Bl,(nE,(),AR),((),AU),(),(),AG),(),(),(),AH),nI,zC,pb_60,w8,AV,qe,z9,nG,wm,tc))
    else none
   else
    some (.inl (((IntKind.wrap .i64 (Js+1)),(),()),(Ba,(),(),(),w7),((ng,AN,Bl,(nE,(),AR),((),AU),(),(),AG),(),(),(),AH),nI,zC,vT,w8,AV,qe,z9,nG,wm,tc))
  else none
 else
  some (.inr (((),()),((ng,AN,Bl,(nE,(),AR),((),AU),(),(),AG),(),(),(),AH),(Ba,(),(),(),w7),w8,AV,qe,z9,nG,wm,tc,nI,zC,vT))
def Wh.adJ:(Unit×Unit)×((Bool×Int×List UInt8×(Int×Unit×Unit)×(Unit×Int×Unit)×Unit×Unit×Unit)×Unit×Unit×Unit×Unit)×(b7.D×Unit×Unit×Unit×Unit)×List an.D×List cg.D×List cw.D×List cp.D×List bn.D×List b9.D×List an.D×List bn.D×List b9.D×List an.D:=default
def Wh.JR (xs:b7.D×List bn.D×List b9.D×List an.D×Unit):Option ((b7.D×List bn.D×List b9.D×List an.D×Unit)×Unit):=
 let w_0:=xs;ia PE adJ (((0,(),()),(w_0.1,(),(),(),w_0.2.2.2.2),((false,0,[],(0,(),()),((),0,()),(),(),()),(),(),(),()),w_0.2.1,w_0.2.2.1,w_0.2.2.2.1,[],[],[],[],[],[],[])) fun FZ=>
  let CE:=FZ.2.2.1.1;let Ce:=FZ.2.2.1.2.2.2.2;let CU:=FZ.2.2.2.2.2.2.2.2.2.2.1;let DI:=FZ.2.2.2.2.2.2.2.2.2.2.2.1;let CV:=FZ.2.2.2.2.2.2.2.2.2.2.2.2;some ((CE,CU,DI,CV,Ce),())
abbrev Wh.agf:Type:=(Int×Unit×Int×Unit)×(Unit×Int×Unit)×(Unit×Int×Unit)×List cg.D×List cg.D
abbrev Wh.amW:Type:=(Unit×Unit)×(Unit×Int×Unit)×(Unit×Int×Unit)×List cg.D×List cg.D
def Wh.LZ (x:agf):Option (agf⊕amW):=
 let Bg:=x.1.1;let OL:=x.1.2.2.1;let DH:=x.2.1.2;let CD:=x.2.2.1.2;let Ay:=x.2.2.2.1;let Cb:=x.2.2.2.2;let BQ:Int:=(↑(List.length Ay):Int);bif decide (Bg<BQ) then
  let vN:Int:=((List.getD Ay (Int.toNat Bg) (0,0,0,0,false,())).2).1;let CK:=bif vN==OL then((((List.getD Ay (Int.toNat Bg) (0,0,0,0,false,())).2).2).2).1==0 else false;bif kL [!vN==OL || decide (0≤Bg),!vN==OL || decide (Bg<BQ),decide (0≤Bg),decide (Bg<BQ)] then
   bif CK then
    let Bj:List (cg.D):=List.set Ay (Int.toNat Bg) (0,0,0,0,false,());bif kL [decide (0≤Bg),decide (Bg<BQ)] then
     some (.inl (((IntKind.wrap .i64 (Bg+1)),(),OL,()),((),DH),((),CD),Bj,Cb))
    else none
   else
    some (.inl (((IntKind.wrap .i64 (Bg+1)),(),OL,()),((),DH),((),CD),Ay,Cb))
  else none
 else
  some (.inr (((),()),((),CD),((),DH),Cb,Ay))
def Wh.agh:(Unit×Unit)×(Unit×Int×Unit)×(Unit×Int×Unit)×List cg.D×List cg.D:=default
def Wh.q89 (xs:iL.D×Int):Option ((List cg.D×Int×Unit)×Unit):=
 let g8:=xs.1;let OK:=xs.2;dj FO g8 fun r_2=>
  ia LZ agh (((0,(),OK,()),((),r_2.1.2),((),0,()),r_2.1.1,[])) fun Mi=>
   let AN:=Mi.2.2.1.2;let nE:=Mi.2.2.2.2;some ((nE,AN),())
def Wh.IM (xs:b7.D×Int×List UInt8):Option ((b7.D×Int)×Unit):=
 let c9:=xs.1;let A0:=xs.2.1;let Da:=xs.2.2;dj FL c9 fun r_3=>
  bif !r_3.1 then
   some (((false,0,[],(0,[],()),([],0,()),[],[],()),1),())
  else
   dj E_ c9 fun e_=>
    dj DX (c9.2.2.2.1,A0,Da) fun ic=>
     bif(!c9.1) then
      some ((e_.1,1),())
     else
      bif(!ic.1.2) then
       some ((e_.1,3),())
      else
       b8 (zog EH (A0,Da,[])) fun Be=>
       b8 (zog Fz (e_.1,Be.1)) fun xd=>
       bif kL [qu (Fz (e_.1,Be.1)),qu (EH (A0,Da,[]))] then
        bif(xd.1.2==0) then
         dj q89 (xd.1.1.2.2.2.2.1,ic.1.1.2.2.1) fun Kq=>
          some (((xd.1.1.1,xd.1.1.2.1,xd.1.1.2.2.1,xd.1.1.2.2.2.1,Kq.1,xd.1.1.2.2.2.2.2),xd.1.2),())
        else
         some ((xd.1.1,xd.1.2),())
       else none
def Wh.Gt (xs:cw.D×Int):Option (cw.D×Unit):=
 let BH:=xs.1;let Pr:=xs.2;let BW:=IntKind.wrap .i64 (BH.1+IntKind.wrap .i64 (BH.2.2.1*IntKind.wrap .i64 (Pr-BH.2.2.2.1)));bif decide (BW>BH.2.1) then
  some ((BH.2.1,BH.2.1,BH.2.2.1,Pr,BH.2.2.2.2),())
 else
  some ((BW,BH.2.1,BH.2.2.1,Pr,BH.2.2.2.2),())
def Wh.EE (xs:cp.D):Option (Br.D×Unit):=
 let v_0:cp.D:=xs;some ((v_0.1,(IntKind.wrap .i64 (3-v_0.2.2.2.2.1)),v_0.2.2.2.2.2.1,()),())
abbrev Wh.agd:Type:=(Int×Int×List Br.D×Int)×Unit
abbrev Wh.amV:Type:=Int×Unit⊕Int×Unit
def Wh.Km (x:agd):Option (agd⊕amV):=
 let Bg:=x.1.1;let HU:=x.1.2.1;let MS:=x.1.2.2.1;let Li:=x.1.2.2.2;let nT:Int:=(↑(List.length MS):Int);bif decide (Bg<nT) then
  let JG:=List.getD MS (Int.toNat Bg) (0,0,0,());bif kL [decide (0≤Bg),decide (Bg<nT)] then
   b8 (zog g7 (JG.2.1,0,99999)) fun Dc=>
   b8 (zog g7 (JG.2.2.1,0,Li)) fun IY=>
   let CK:=bif bif !Dc.1 then true else !IY.1 then true else decide (Li>99999);bif kL [!!!Dc.1 || qu (g7 (JG.2.2.1,0,Li)),qu (g7 (JG.2.1,0,99999))] then
    bif CK then
     some (.inr (.inl (-1,())))
    else
     let B4:=decide (HU<0);let I9:=bif B4 then true else decide (IntKind.wrap .i64 (IntKind.wrap .i64 (JG.2.1+Li)-JG.2.2.1)>IntKind.wrap .i64 (IntKind.wrap .i64 (((List.getD MS (Int.toNat HU) (0,0,0,())).2).1+Li)-(((List.getD MS (Int.toNat HU) (0,0,0,())).2).2).1));bif kL [!!B4 || decide (0≤HU),!!B4 || decide (HU<nT),!!B4 || decide (0≤HU),!!B4 || decide (HU<nT)] then
      bif I9 then
       some (.inl (((IntKind.wrap .i64 (Bg+1)),Bg,MS,Li),()))
      else
       some (.inl (((IntKind.wrap .i64 (Bg+1)),HU,MS,Li),()))
     else none
   else none
  else none
 else
  some (.inr (.inr (HU,())))
def Wh.age:Int×Unit⊕Int×Unit:=.inl default
def Wh.q85 (xs:List Br.D×Int):Option (Int×Unit):=
 let K6:=xs.1;let Pr:=xs.2;ia Km age (((0,-1,K6,Pr),())) fun q_=>
  sumC q_ (fun y_35=>
   let EM:=y_35.1;some (EM,())) (fun z_36=>
   let ahs:=z_36.1;some (ahs,()))
abbrev Wh.agk:Type:=(Int×Unit×Unit×Int)×b7.D×List Br.D
abbrev Wh.amY:Type:=(Int×Unit×Unit)×List Br.D×b7.D
def Wh.Ko (x:agk):Option (agk⊕amY):=
 let Jq:=x.1.1;let Oz:=x.1.2.2.2;let Ay:=x.2.1;let Cb:=x.2.2;let BQ:Int:=(↑(List.length (Ay.2.2.2.2.2.2.1)):Int);bif decide (Jq<BQ) then
  let vN:cp.D:=List.getD (Ay.2.2.2.2.2.2.1) (Int.toNat Jq) (0,0,0,0,0,0,());b8 (zog BY Oz) fun Nm=>
  b8 (zog BY vN.1) fun r_29=>
  bif kL [qu (BY Oz),qu (BY vN.1),decide (0≤Jq),decide (Jq<BQ)] then
   bif(r_29.1==Nm.1) then
    b8 (zog EE vN) fun L1=>
    let w7:=Cb ++ [L1.1];bif kL [decide (List.length Cb+(1:Nat)≤eV),qu (EE vN),decide (0≤Jq),decide (Jq<BQ)] then
     some (.inl (((IntKind.wrap .i64 (Jq+1)),(),(),Oz),Ay,w7))
    else none
   else
    some (.inl (((IntKind.wrap .i64 (Jq+1)),(),(),Oz),Ay,Cb))
  else none
 else
  some (.inr ((Oz,(),()),Cb,Ay))
def Wh.agl:(Int×Unit×Unit)×List Br.D×b7.D:=default
def Wh.Gz (xs:b7.D×Int):Option (Bool×Unit):=
 let c9:=xs.1;let Oy:=xs.2;ia Ko agl (((0,(),(),Oy),c9,[])) fun y_39=>
  let ahD:=y_39.1.1;let AG:=y_39.2.1;let AH:=y_39.2.2;dj q85 (AG,AH.2.1) fun EK=>
   let HG:=decide (EK.1≥0);let Mb:=bif HG then(List.getD AG (Int.toNat EK.1) (0,0,0,())).1==ahD else false;bif kL [!HG || decide (0≤EK.1),!HG || decide (EK.1<(↑(List.length AG):Int))] then
    some (Mb,())
   else none
abbrev Wh.agm:Type:=(Int×Unit×Unit)×List Br.D×b7.D
abbrev Wh.amZ:Type:=Unit×List Br.D
def Wh.Hx (x:agm):Option (agm⊕amZ):=
 let Jr:=x.1.1;let BB:=x.2.1;let s_:=x.2.2;let CK:Int:=(↑(List.length (s_.2.2.2.2.2.2.1)):Int);bif decide (Jr<CK) then
  let xb:cp.D:=List.getD (s_.2.2.2.2.2.2.1) (Int.toNat Jr) (0,0,0,0,0,0,());bif kL [decide (0≤Jr),decide (Jr<CK)] then
   dj FI (s_.2.2.2.1,xb.2.2.1) fun CX=>
    bif CX.1.2 then
     b8 (zog BX (↑(List.length (CX.1.1.2.2.2.1)):Int)) fun L1=>
     let FU:Int:=(↑(List.length (CX.1.1.2.2.2.1)):Int);bif kL [qu (BX FU)] then
      b8 (zog Gz (s_,xb.1)) fun DL=>
      b8 (zog BY xb.1) fun GC=>
      let EM:=bif DL.1 then decide ((List.getD (s_.2.2.2.2.2.1) (Int.toNat GC.1) (0,0,0,0,())).1≥L1.1.2.1) else false;bif kL [!DL.1 || decide (0≤GC.1),!DL.1 || decide (GC.1<(↑(List.length (s_.2.2.2.2.2.1)):Int)),!DL.1 || qu (BY xb.1),qu (Gz (s_,xb.1))] then
       bif EM then
        b8 (zog EE xb) fun IZ=>
        let AU:=BB ++ [IZ.1];bif kL [decide (List.length BB+(1:Nat)≤eV),qu (EE xb)] then
         some (.inl (((IntKind.wrap .i64 (Jr+1)),(),()),AU,s_))
        else none
       else
        some (.inl (((IntKind.wrap .i64 (Jr+1)),(),()),BB,s_))
      else none
     else none
    else
     b8 (zog Gz (s_,xb.1)) fun EK=>
     b8 (zog BY xb.1) fun No=>
     let v_45:=bif EK.1 then decide ((List.getD (s_.2.2.2.2.2.1) (Int.toNat No.1) (0,0,0,0,())).1≥0) else false;bif kL [!EK.1 || decide (0≤No.1),!EK.1 || decide (No.1<(↑(List.length (s_.2.2.2.2.2.1)):Int)),!EK.1 || qu (BY xb.1),qu (Gz (s_,xb.1))] then
      bif v_45 then
       b8 (zog EE xb) fun PU=>
       let qe:=BB ++ [PU.1];bif kL [decide (List.length BB+(1:Nat)≤eV),qu (EE xb)] then
        some (.inl (((IntKind.wrap .i64 (Jr+1)),(),()),qe,s_))
       else none
      else
       some (.inl (((IntKind.wrap .i64 (Jr+1)),(),()),BB,s_))
     else none
  else none
 else
  some (.inr ((),BB))
def Wh.agn:Unit×List Br.D:=default
def Wh.q96 (xs:b7.D):Option (List Br.D×Unit):=
 let c9:b7.D:=xs;ia Hx agn (((0,(),()),[],c9)) fun y_52=>
  let Az:=y_52.2;some (Az,())
abbrev Wh.agi:Type:=(Int×Int×Unit×Int)×iL.D
abbrev Wh.amX:Type:=Int×Unit⊕Unit×Unit
def Wh.Kn (x:agi):Option (agi⊕amX):=
 let z5:=x.1.1;let Z_:=x.1.2.1;let Sy:=x.1.2.2.2;let s9:=x.2;let s5:Int:=(↑(List.length s9.1):Int);bif decide (z5<s5) then
  let mb:cg.D:=List.getD s9.1 (Int.toNat z5) (0,0,0,0,false,());let r_:=bif mb.2.1==Sy then mb.2.2.1==Z_ else false;bif kL [!mb.2.1==Sy || decide (0≤z5),!mb.2.1==Sy || decide (z5<s5),decide (0≤z5),decide (z5<s5)] then
   bif r_ then
    some (.inr (.inl (z5,())))
   else
    some (.inl (((IntKind.wrap .i64 (z5+1)),Z_,(),Sy),s9))
  else none
 else
  some (.inr (.inr ((),())))
def Wh.agj:Int×Unit⊕Unit×Unit:=.inl default
def Wh.q90 (xs:iL.D×Int×Int):Option (Int×Unit):=
 let g8:=xs.1;let OK:=xs.2.1;let ahu:=xs.2.2;ia Kn agj (((0,ahu,(),OK),g8)) fun q_=>
  sumC q_ (fun KG=>
   let v9:=KG.1;some (v9,())) (fun _=>
   some (-1,()))
abbrev Wh.afv:Type:=(Int×Unit×Unit×Int×Bool)×(Unit×Int×Unit)×(Unit×Int×Unit)×List cg.D×List cg.D
abbrev Wh.amx:Type:=(Unit×Int)×(Unit×Int×Unit)×List cg.D⊕(Unit×Unit)×(Unit×Int×Unit)×(Unit×Int×Unit)×List cg.D×List cg.D
def Wh.Kh (x:afv):Option (afv⊕amx):=
 let Tm:=x.1.1;let SQ:=x.1.2.2.2.1;let Tr:=x.1.2.2.2.2;let A_:=x.2.1.2;let BV:=x.2.2.1.2;let BB:=x.2.2.2.1;let s_:=x.2.2.2.2;bif decide (Tm<17) then
  let E0:cg.D:=List.getD BB (Int.toNat A_.1) (0,0,0,0,false,());bif kL [decide (0≤A_.1),decide (A_.1<(↑(List.length BB):Int))] then
   let Bk:Int:=Int.tmod (IntKind.wrap .i64 (A_.1+1)) 8;let Cg:=bif Tr then bif E0.2.1==0 then true else E0.1 != SQ else false;bif Cg then
    some (.inl (((IntKind.wrap .i64 (Tm+1)),(),(),SQ,Tr),((),Bk,A_.2),((),BV),BB,s_))
   else
    bif decide (E0.2.2.2.1>0) then
     some (.inl (((IntKind.wrap .i64 (Tm+1)),(),(),SQ,Tr),((),Bk,A_.2),((),BV),BB,s_))
    else
     bif E0.2.2.2.2.1 then
      let Bl:List (cg.D):=List.set BB (Int.toNat A_.1) (E0.1,E0.2.1,E0.2.2.1,E0.2.2.2.1,false,E0.2.2.2.2.2);bif kL [decide (0≤A_.1),decide (A_.1<(↑(List.length BB):Int))] then
       some (.inl (((IntKind.wrap .i64 (Tm+1)),(),(),SQ,Tr),((),Bk,A_.2),((),BV),Bl,s_))
      else none
     else
      some (.inr (.inl (((),A_.1),((),Bk,A_.2),BB)))
  else none
 else
  some (.inr (.inr (((),()),((),BV),((),A_),s_,BB)))
def Wh.afw:(Unit×Int)×(Unit×Int×Unit)×List cg.D⊕(Unit×Unit)×(Unit×Int×Unit)×(Unit×Int×Unit)×List cg.D×List cg.D:=.inl default
def Wh.q44 (xs:(List cg.D×Int×Unit)×Int):Option (((List cg.D×Int×Unit)×Int)×Unit):=
 let g8:=xs.1;let A0:=xs.2;dj J6 (g8,A0) fun r_2=>
  ia Kh afw (((0,(),(),A0,(decide (r_2.1≥5))),((),g8.2),((),0,()),g8.1,[])) fun q_=>
   sumC q_ (fun y_40=>
    let Ma:=y_40.1.2;let nI:=y_40.2.1.2;let zC:=y_40.2.2;some (((zC,nI),Ma),())) (fun z_41=>
    let w8:=z_41.2.2.1.2;let qe:=z_41.2.2.2.2;some (((qe,w8),-1),()))
def Wh.Hw (xs:iL.D×Int×Int×Int):Option (((List cg.D×Int×Unit)×Int×Int)×Unit):=
 let g8:=xs.1;let A0:=xs.2.1;let Sz:=xs.2.2.1;let aaa:=xs.2.2.2;dj FO g8 fun e_=>
  dj q90 (e_.1,Sz,aaa) fun ic=>
   bif decide (ic.1≥0) then
    let nP:Int:=((((List.getD e_.1.1 (Int.toNat ic.1) (0,0,0,0,false,())).2).2).2).1;let Cy:=bif decide (nP≥99999) then true else(List.getD e_.1.1 (Int.toNat ic.1) (0,0,0,0,false,())).1 != A0;bif kL [!!decide (nP≥99999) || decide (0≤ic.1),!!decide (nP≥99999) || decide (ic.1<(↑(List.length e_.1.1):Int)),decide (0≤ic.1),decide (ic.1<(↑(List.length e_.1.1):Int))] then
     bif Cy then
      bif kL [qu (FO g8)] then
       some ((e_.1,0,3),())
      else none
     else
      let Lj:List (cg.D):=List.set e_.1.1 (Int.toNat ic.1) ((List.getD e_.1.1 (Int.toNat ic.1) (0,0,0,0,false,())).1,((List.getD e_.1.1 (Int.toNat ic.1) (0,0,0,0,false,())).2).1,(((List.getD e_.1.1 (Int.toNat ic.1) (0,0,0,0,false,())).2).2).1,IntKind.wrap .i64 (nP+1),((((List.getD e_.1.1 (Int.toNat ic.1) (0,0,0,0,false,())).2).2).2).2);bif kL [decide (0≤ic.1),decide (ic.1<(↑(List.length e_.1.1):Int)),decide (0≤ic.1),decide (ic.1<(↑(List.length e_.1.1):Int))] then
       let X3:List (cg.D):=List.set Lj (Int.toNat ic.1) ((List.getD Lj (Int.toNat ic.1) (0,0,0,0,false,())).1,((List.getD Lj (Int.toNat ic.1) (0,0,0,0,false,())).2).1,(((List.getD Lj (Int.toNat ic.1) (0,0,0,0,false,())).2).2).1,((((List.getD Lj (Int.toNat ic.1) (0,0,0,0,false,())).2).2).2).1,true,(((((List.getD Lj (Int.toNat ic.1) (0,0,0,0,false,())).2).2).2).2).2);bif kL [decide (0≤ic.1),decide (ic.1<(↑(List.length Lj):Int))] then
        some (((X3,e_.1.2),ic.1,0),())
       else none
      else none
    else none
   else
    dj q44 (e_.1,A0) fun BZ=>
     bif decide (BZ.1.2<0) then
      bif kL [qu (FO g8)] then
       some ((e_.1,0,2),())
      else none
     else
      let Pv:List (cg.D):=List.set (BZ.1.1.1) (Int.toNat BZ.1.2) (A0,Sz,aaa,1,true,());bif kL [decide (0≤BZ.1.2),decide (BZ.1.2<(↑(List.length (BZ.1.1.1)):Int))] then
       some (((Pv,BZ.1.1.2),BZ.1.2,1),())
      else none
def Wh.q87 (xs:iL.D×Int):Option (((List cg.D×Int×Unit)×Bool)×Unit):=
 let g8:=xs.1;let D9:=xs.2;dj G_ g8 fun r_2=>
  bif !r_2.1 then
   some ((([],0,()),false),())
  else
   dj FO g8 fun r_3=>
    b8 (zog g7 (D9,0,7)) fun e_=>
    let oc:=bif !e_.1 then true else((((List.getD r_3.1.1 (Int.toNat D9) (0,0,0,0,false,())).2).2).2).1==0;bif kL [!!!e_.1 || decide (0≤D9),!!!e_.1 || decide (D9<(↑(List.length r_3.1.1):Int)),qu (g7 (D9,0,7))] then
     bif oc then
      some ((r_3.1,false),())
     else
      let Py:List (cg.D):=List.set r_3.1.1 (Int.toNat D9) ((List.getD r_3.1.1 (Int.toNat D9) (0,0,0,0,false,())).1,((List.getD r_3.1.1 (Int.toNat D9) (0,0,0,0,false,())).2).1,(((List.getD r_3.1.1 (Int.toNat D9) (0,0,0,0,false,())).2).2).1,IntKind.wrap .i64 (((((List.getD r_3.1.1 (Int.toNat D9) (0,0,0,0,false,())).2).2).2).1-1),((((List.getD r_3.1.1 (Int.toNat D9) (0,0,0,0,false,())).2).2).2).2);bif kL [decide (0≤D9),decide (D9<(↑(List.length r_3.1.1):Int)),decide (0≤D9),decide (D9<(↑(List.length r_3.1.1):Int))] then
       some (((Py,r_3.1.2),true),())
      else none
    else none
abbrev Wh.ae6:Type:=(Int×Unit×List UInt8×Unit)×gT.D×List (List UInt8)
abbrev Wh.aml:Type:=Unit×List (List UInt8)
def Wh.LN (x:ae6):Option (ae6⊕aml):=
 let MO:=x.1.1;let Wj:=x.1.2.2.1;let Bi:=x.2.1;let A_:=x.2.2;dj Bd Bi fun IY=>
  bif decide (MO<IY.1) then
   let pb_28:List (List UInt8):=[List.take (Int.toNat (IntKind.wrap .i64 (IntKind.wrap .i64 (MO+1)*Bi.2.1)-IntKind.wrap .i64 (MO*Bi.2.1))) (List.drop (Int.toNat (IntKind.wrap .i64 (MO*Bi.2.1))) Wj)];let CR:List (List UInt8):=A_++pb_28;let B4:=IntKind.wrap .i64 (MO*Bi.2.1);let I9:=IntKind.wrap .i64 (MO+1);bif kL [decide (List.length A_+(1:Nat)≤eV),decide (0≤B4),decide (B4≤IntKind.wrap .i64 (I9*Bi.2.1)),decide (IntKind.wrap .i64 (I9*Bi.2.1)≤(↑(List.length Wj):Int))] then
    some (.inl ((I9,(),Wj,()),Bi,CR))
   else none
  else
   some (.inr ((),A_))
def Wh.ae7:Unit×List (List UInt8):=default
def Wh.Kc (xs:gT.D×List UInt8):Option (List (List UInt8)×Unit):=
 let g8:=xs.1;let Up:=xs.2;b8 (zog Bd g8) fun r_2=>
 b8 (zog Iy (IntKind.wrap .i64 (IntKind.wrap .i64 (r_2.1*g8.2.1)-(↑(List.length Up):Int)))) fun Be=>
 let all_9:List UInt8:=Up++Be.1;bif kL [decide (List.length Up+List.length (Be.1)≤eV),qu (Iy (IntKind.wrap .i64 (IntKind.wrap .i64 (r_2.1*g8.2.1)-(↑(List.length Up):Int)))),qu (Bd g8)] then
  ia LN ae7 (((0,(),all_9,()),g8,[])) fun y_35=>
   let AN:=y_35.2;some (AN,())
 else none
abbrev Wh.aeS:Type:=(Int×List Int×List (List UInt8)×List UInt8)×Unit
abbrev Wh.ame:Type:=List UInt8×Unit
def Wh.LJ (x:aeS):Option (aeS⊕ame):=
 let Ax:=x.1.1;let Yw:=x.1.2.1;let So:=x.1.2.2.1;let XX:=x.1.2.2.2;let xe:=decide (Ax<(↑(List.length Yw):Int));bif xe then
  let mb:=List.getD Yw (Int.toNat Ax) 0;b8 (zog Fx (XX,List.getD So (Int.toNat mb) [])) fun L0=>
  bif kL [qu (Fx (XX,List.getD So (Int.toNat mb) [])),decide (0≤mb),decide (mb<(↑(List.length So):Int)),decide (0≤Ax),xe] then
   some (.inl (((IntKind.wrap .i64 (Ax+1)),Yw,So,L0.1),()))
  else none
 else
  some (.inr (XX,()))
def Wh.aeT:List UInt8×Unit:=default
def Wh.IJ (xs:List (List UInt8)×List Int×Int):Option (List UInt8×Unit):=
 let ahv:=xs.1;let T_:=xs.2.1;let size_2:=xs.2.2;dj JX (tv [(0:Int)],size_2) fun r_3=>
  ia LJ aeT (((0,T_,ahv,r_3.1),())) fun Fg=>
   let out_28:=Fg.1;some (out_28,())
abbrev Wh.adC:Type:=(Int×Unit×Unit×Unit×Unit×Unit×Unit×Int)×(Bool×Int×List UInt8×(Int×Unit×Unit)×(Unit×Int×Unit)×Unit×Unit×Unit)×List Int×an.D×(Bool×Int×List UInt8×(Int×Unit×Unit)×(Unit×Int×Unit)×Unit×Unit×Unit)×(Int×Int×Unit×Unit×Unit)×cp.D×List an.D×List cg.D×List cw.D×List cp.D×List an.D×List cg.D×List cw.D×List cp.D×List Int×List Int
abbrev Wh.alB:Type:=(Unit×Unit×Unit×Unit×Unit×Unit×Int)×(Bool×Int×List UInt8×(Int×Unit×Unit)×(Unit×Int×Unit)×Unit×Unit×Unit)×(Int×Int×Unit×Unit×Unit)×List Int×an.D×cp.D×(Bool×Int×List UInt8×(Int×Unit×Unit)×(Unit×Int×Unit)×Unit×Unit×Unit)×List an.D×List cg.D×List cw.D×List cp.D×List Int×List Int×List an.D×List cg.D×List cw.D×List cp.D
def Wh.M7 (x:adC):Option (adC⊕alB):=
 let Dh:=x.1.1;let k_48:=x.1.2.2.2.2.2.2.2;let z9:=x.2.1.1;let nG:=x.2.1.2.1;let wm:=x.2.1.2.2.1;let tc:=x.2.1.2.2.2.1.1;let Az:=x.2.1.2.2.2.1.2.2;let AW:=x.2.1.2.2.2.2.1.2;let AI:=x.2.1.2.2.2.2.2.2.2;let nS:=x.2.2.1;let AB:=x.2.2.2.1;let Cm:=x.2.2.2.2.1.1;let Cc:=x.2.2.2.2.1.2.1;let Bb:=x.2.2.2.2.1.2.2.1;let BL:=x.2.2.2.2.1.2.2.2.1.1;let Cd:=x.2.2.2.2.1.2.2.2.1.2.2;let Bc:=x.2.2.2.2.1.2.2.2.2.1.2;let AX:=x.2.2.2.2.1.2.2.2.2.2.2.2;let BM:=x.2.2.2.2.2.1.1;let CS:=x.2.2.2.2.2.1.2.1;let BD:=x.2.2.2.2.2.1.2.2.2.2;let Cs:=x.2.2.2.2.2.2.1;let EW:=x.2.2.2.2.2.2.2.1;let Dl:=x.2.2.2.2.2.2.2.2.1;let Bn:=x.2.2.2.2.2.2.2.2.2.1;let A1:=x.2.2.2.2.2.2.2.2.2.2.1;let CE:=x.2.2.2.2.2.2.2.2.2.2.2.1;let Ce:=x.2.2.2.2.2.2.2.2.2.2.2.2.1;let Cu:=x.2.2.2.2.2.2.2.2.2.2.2.2.2.1;let CT:=x.2.2.2.2.2.2.2.2.2.2.2.2.2.2.1;let Bo:=x.2.2.2.2.2.2.2.2.2.2.2.2.2.2.2.1;let Ez:=x.2.2.2.2.2.2.2.2.2.2.2.2.2.2.2.2;let v_79:=decide (Dh<(↑(List.length nS):Int));bif v_79 then
  b8 (zog Hw ((Dl,AW),AB.1,AB.2.2.1,List.getD nS (Int.toNat Dh) 0)) fun T6=>
  let v_81:=List.getD nS (Int.toNat Dh) 0;bif kL [qu (Hw ((Dl,AW),AB.1,AB.2.2.1,v_81)),decide (0≤Dh),v_79] then
   let Jd:=bif(T6.1.2.2==0) then true else T6.1.2.2==1;bif Jd then
    dj q87 (T6.1.1,T6.1.2.1) fun r_84=>
     some (.inl (((IntKind.wrap .i64 (Dh+1)),(),(),(),(),(),(),k_48),(z9,nG,wm,(tc,(),Az),((),r_84.1.1.2),(),(),AI),nS,AB,(Cm,Cc,Bb,(BL,(),Cd),((),Bc),(),(),AX),(BM,CS,(),(),BD),Cs,EW,r_84.1.1.1,Bn,A1,CE,Ce,Cu,CT,Bo,Ez))
   else
    some (.inl (((IntKind.wrap .i64 (Dh+1)),(),(),(),(),(),(),k_48),(z9,nG,wm,(tc,(),Az),((),AW),(),(),AI),nS,AB,(Cm,Cc,Bb,(BL,(),Cd),((),Bc),(),(),AX),(BM,CS,(),(),BD),Cs,EW,Dl,Bn,A1,CE,Ce,Cu,CT,Bo,Ez))
  else none
 else
  some (.inr (((),(),(),(),(),(),k_48),(Cm,Cc,Bb,(BL,(),Cd),((),Bc),(),(),AX),(BM,CS,(),(),BD),nS,AB,Cs,(z9,nG,wm,(tc,(),Az),((),AW),(),(),AI),CE,Ce,Cu,CT,Bo,Ez,EW,Dl,Bn,A1))
def Wh.adD:(Unit×Unit×Unit×Unit×Unit×Unit×Int)×(Bool×Int×List UInt8×(Int×Unit×Unit)×(Unit×Int×Unit)×Unit×Unit×Unit)×(Int×Int×Unit×Unit×Unit)×List Int×an.D×cp.D×(Bool×Int×List UInt8×(Int×Unit×Unit)×(Unit×Int×Unit)×Unit×Unit×Unit)×List an.D×List cg.D×List cw.D×List cp.D×List Int×List Int×List an.D×List cg.D×List cw.D×List cp.D:=(default,(default,default,default,default,default,default,default,default,default,default,default,default,default,default,default,default))
def Wh.Lr (xs:(Bool×Int×List UInt8×(Int×List an.D×Unit)×(List cg.D×Int×Unit)×List cw.D×List cp.D×Unit)×Int×an.D):Option (((Bool×Int×List UInt8×(Int×List an.D×Unit)×(List cg.D×Int×Unit)×List cw.D×List cp.D×Unit)×List eL.D)×Unit):=
 let c9:=xs.1;let k_1:=xs.2.1;let t_2:=xs.2.2;let Dq:cp.D:=List.getD (c9.2.2.2.2.2.2.1) (Int.toNat k_1) (0,0,0,0,0,0,());bif kL [decide (0≤k_1),decide (k_1<(↑(List.length (c9.2.2.2.2.2.2.1)):Int))] then
  b8 (zog BX (↑(List.length (t_2.2.2.2.1)):Int)) fun e_=>
  let oc:Int:=(↑(List.length (t_2.2.2.2.1)):Int);bif kL [qu (BX oc)] then
   dj E9 (e_.1,Dq.2.2.2.1) fun n_=>
    ia M7 adD (((0,(),(),(),(),(),(),k_1),(c9.1,c9.2.1,c9.2.2.1,(c9.2.2.2.1.1,(),c9.2.2.2.1.2.2),((),c9.2.2.2.2.1.2),(),(),c9.2.2.2.2.2.2.2),n_.1,t_2,(false,0,[],(0,(),()),((),0,()),(),(),()),(e_.1.1,e_.1.2.1,(),(),e_.1.2.2.2.2),Dq,c9.2.2.2.1.2.1,c9.2.2.2.2.1.1,c9.2.2.2.2.2.1,c9.2.2.2.2.2.2.1,[],[],[],[],e_.1.2.2.1,e_.1.2.2.2.1)) fun C5=>
     let DT:=C5.1.2.2.2.2.2.2;let Lf:=C5.2.2.1.1;let Fw:=C5.2.2.1.2.1;let Il:=C5.2.2.1.2.2.2.2;let MT:=C5.2.2.2.1;let K7:=C5.2.2.2.2.1;let Dj:=C5.2.2.2.2.2.1;let Ie:=C5.2.2.2.2.2.2.1.1;let AA:=C5.2.2.2.2.2.2.1.2.1;let Eu:=C5.2.2.2.2.2.2.1.2.2.1;let Ev:=C5.2.2.2.2.2.2.1.2.2.2.1.1;let Fv:=C5.2.2.2.2.2.2.1.2.2.2.1.2.2;let G1:=C5.2.2.2.2.2.2.1.2.2.2.2.1.2;let Jy:=C5.2.2.2.2.2.2.1.2.2.2.2.2.2.2;let Ig:=C5.2.2.2.2.2.2.2.2.2.2.2.1;let F9:=C5.2.2.2.2.2.2.2.2.2.2.2.2.1;let F_:=C5.2.2.2.2.2.2.2.2.2.2.2.2.2.1;let Ih:=C5.2.2.2.2.2.2.2.2.2.2.2.2.2.2.1;let EU:=C5.2.2.2.2.2.2.2.2.2.2.2.2.2.2.2.1;let Ew:=C5.2.2.2.2.2.2.2.2.2.2.2.2.2.2.2.2;dj BY Dj.1 fun IW=>
      let Ii:List (cw.D):=List.set EU (Int.toNat IW.1) (IntKind.wrap .i64 ((List.getD EU (Int.toNat IW.1) (0,0,0,0,())).1-Fw),(List.getD EU (Int.toNat IW.1) (0,0,0,0,())).2);bif kL [decide (0≤IW.1),decide (IW.1<(↑(List.length EU):Int)),decide (0≤IW.1),decide (IW.1<(↑(List.length EU):Int))] then
       let Dk:List (cp.D):=List.set Ew (Int.toNat DT) ((List.getD Ew (Int.toNat DT) (0,0,0,0,0,0,())).1,((List.getD Ew (Int.toNat DT) (0,0,0,0,0,0,())).2).1,(((List.getD Ew (Int.toNat DT) (0,0,0,0,0,0,())).2).2).1,Int.tmod (IntKind.wrap .i64 (Dj.2.2.2.1+1)) 10000,((((List.getD Ew (Int.toNat DT) (0,0,0,0,0,0,())).2).2).2).2);bif kL [decide (0≤DT),decide (DT<(↑(List.length Ew):Int)),true] then
        let JC:List (cp.D):=List.set Dk (Int.toNat DT) ((List.getD Dk (Int.toNat DT) (0,0,0,0,0,0,())).1,((List.getD Dk (Int.toNat DT) (0,0,0,0,0,0,())).2).1,(((List.getD Dk (Int.toNat DT) (0,0,0,0,0,0,())).2).2).1,((((List.getD Dk (Int.toNat DT) (0,0,0,0,0,0,())).2).2).2).1,(((((List.getD Dk (Int.toNat DT) (0,0,0,0,0,0,())).2).2).2).2).1,AA,((((((List.getD Dk (Int.toNat DT) (0,0,0,0,0,0,())).2).2).2).2).2).2);bif kL [decide (0≤DT),decide (DT<(↑(List.length Dk):Int))] then
         b8 (zog Kc ((Lf,Fw,Ig,F9,Il),K7.2.2.2.1)) fun r_128=>
         b8 (zog IJ (r_128.1,MT,Fw)) fun r_129=>
         let pb_130:List (eL.D):=[(3,Dj.1,Dj.2.1,Dj.2.2.1,Dj.2.2.2.1,[],r_129.1,())];bif kL [qu (IJ (r_128.1,MT,Fw)),qu (Kc ((Lf,Fw,Ig,F9,Il),K7.2.2.2.1))] then
          some (((Ie,AA,Eu,(Ev,F_,Fv),(Ih,G1),Ii,JC,Jy),pb_130),())
         else none
        else none
       else none
      else none
  else none
 else none
abbrev Wh.afp:Type:=(Int×Unit×Unit)×(Bool×Int×List UInt8×(Int×Unit×Unit)×(Unit×Int×Unit)×Unit×Unit×Unit)×(Bool×Int×List UInt8×(Int×Unit×Unit)×(Unit×Int×Unit)×Unit×Unit×Unit)×List an.D×List cg.D×List cw.D×List cp.D×List an.D×List cg.D×List cw.D×List cp.D
abbrev Wh.amu:Type:=(Unit×Unit)×(Bool×Int×List UInt8×(Int×Unit×Unit)×(Unit×Int×Unit)×Unit×Unit×Unit)×(Bool×Int×List UInt8×(Int×Unit×Unit)×(Unit×Int×Unit)×Unit×Unit×Unit)×List an.D×List cg.D×List cw.D×List cp.D×List an.D×List cg.D×List cw.D×List cp.D
def Wh.Ng (x:afp):Option (afp⊕amu):=
 let h_34:=x.1.1;let ng:=x.2.1.1;let AN:=x.2.1.2.1;let Bl:=x.2.1.2.2.1;let nE:=x.2.1.2.2.2.1.1;let AR:=x.2.1.2.2.2.1.2.2;let AU:=x.2.1.2.2.2.2.1.2;let AG:=x.2.1.2.2.2.2.2.2.2;let AH:=x.2.2.1.1;let nI:=x.2.2.1.2.1;let zC:=x.2.2.1.2.2.1;let vT:=x.2.2.1.2.2.2.1.1;let w8:=x.2.2.1.2.2.2.1.2.2;let AV:=x.2.2.1.2.2.2.2.1.2;let qe:=x.2.2.1.2.2.2.2.2.2.2;let z9:=x.2.2.2.1;let nG:=x.2.2.2.2.1;let wm:=x.2.2.2.2.2.1;let tc:=x.2.2.2.2.2.2.1;let Az:=x.2.2.2.2.2.2.2.1;let AW:=x.2.2.2.2.2.2.2.2.1;let AI:=x.2.2.2.2.2.2.2.2.2.1;let nS:=x.2.2.2.2.2.2.2.2.2.2;bif decide (h_34<2) then
  b8 (zog Gt (List.getD wm (Int.toNat h_34) (0,0,0,0,()),AN)) fun L3=>
  let Cc:List (cw.D):=List.set wm (Int.toNat h_34) L3.1;let NI:cw.D:=List.getD wm (Int.toNat h_34) (0,0,0,0,());bif kL [decide (0≤h_34),decide (h_34<(↑(List.length wm):Int)),qu (Gt (NI,AN)),decide (0≤h_34),decide (h_34<(↑(List.length wm):Int))] then
   some (.inl (((IntKind.wrap .i64 (h_34+1)),(),()),(ng,AN,Bl,(nE,(),AR),((),AU),(),(),AG),(AH,nI,zC,(vT,(),w8),((),AV),(),(),qe),z9,nG,Cc,tc,Az,AW,AI,nS))
  else none
 else
  some (.inr (((),()),(AH,nI,zC,(vT,(),w8),((),AV),(),(),qe),(ng,AN,Bl,(nE,(),AR),((),AU),(),(),AG),Az,AW,AI,nS,z9,nG,wm,tc))
def Wh.afq:(Unit×Unit)×(Bool×Int×List UInt8×(Int×Unit×Unit)×(Unit×Int×Unit)×Unit×Unit×Unit)×(Bool×Int×List UInt8×(Int×Unit×Unit)×(Unit×Int×Unit)×Unit×Unit×Unit)×List an.D×List cg.D×List cw.D×List cp.D×List an.D×List cg.D×List cw.D×List cp.D:=default
def Wh.q31 (xs:b7.D):Option ((b7.D×List eL.D)×Unit):=
 let c9:b7.D:=xs;dj FL c9 fun r_1=>
  bif !r_1.1 then
   some (((false,0,[],(0,[],()),([],0,()),[],[],()),[]),())
  else
   dj E_ c9 fun r_2=>
    let AL:=bif(!c9.1) then true else decide (c9.2.1≥99999);bif AL then
     some ((r_2.1,[]),())
    else
     ia Ng afq (((0,(),()),(r_2.1.1,(IntKind.wrap .i64 (c9.2.1+1)),r_2.1.2.2.1,(r_2.1.2.2.2.1.1,(),r_2.1.2.2.2.1.2.2),((),r_2.1.2.2.2.2.1.2),(),(),r_2.1.2.2.2.2.2.2.2),(false,0,[],(0,(),()),((),0,()),(),(),()),r_2.1.2.2.2.1.2.1,r_2.1.2.2.2.2.1.1,r_2.1.2.2.2.2.2.1,r_2.1.2.2.2.2.2.2.1,[],[],[],[])) fun GK=>
      let Bn:=GK.2.2.1.1;let A1:=GK.2.2.1.2.1;let CE:=GK.2.2.1.2.2.1;let Ce:=GK.2.2.1.2.2.2.1.1;let Cu:=GK.2.2.1.2.2.2.1.2.2;let CT:=GK.2.2.1.2.2.2.2.1.2;let Bo:=GK.2.2.1.2.2.2.2.2.2.2;let CU:=GK.2.2.2.2.2.2.2.1;let DI:=GK.2.2.2.2.2.2.2.2.1;let CV:=GK.2.2.2.2.2.2.2.2.2.1;let Dm:=GK.2.2.2.2.2.2.2.2.2.2;dj q96 (Bn,A1,CE,(Ce,CU,Cu),(DI,CT),CV,Dm,Bo) fun Np=>
       dj q85 (Np.1,A1) fun Nq=>
        bif decide (Nq.1<0) then
         some (((Bn,A1,CE,(Ce,CU,Cu),(DI,CT),CV,Dm,Bo),[]),())
        else
         let Qi:Int:=(List.getD Np.1 (Int.toNat Nq.1) (0,0,0,())).1;b8 (zog FD ((Bn,A1,CE,(Ce,CU,Cu),(DI,CT),CV,Dm,Bo),Qi)) fun Kw=>
         bif kL [qu (FD ((Bn,A1,CE,(Ce,CU,Cu),(DI,CT),CV,Dm,Bo),Qi)),decide (0≤Nq.1),decide (Nq.1<(↑(List.length Np.1):Int))] then
          b8 (zog FI ((Ce,CU,Cu),(((List.getD Dm (Int.toNat Kw.1) (0,0,0,0,0,0,())).2).2).1)) fun Nr=>
          let v_93:Int:=(((List.getD Dm (Int.toNat Kw.1) (0,0,0,0,0,0,())).2).2).1;bif kL [qu (FI ((Ce,CU,Cu),v_93)),decide (0≤Kw.1),decide (Kw.1<(↑(List.length Dm):Int))] then
           bif(!Nr.1.2) then
            let JJ:cp.D:=List.getD Dm (Int.toNat Kw.1) (0,0,0,0,0,0,());bif kL [decide (0≤Kw.1),decide (Kw.1<(↑(List.length Dm):Int))] then
             b8 (zog Gw ((Bn,A1,CE,(Ce,CU,Cu),(DI,CT),CV,Dm,Bo),JJ.1)) fun r_96=>
             b8 (zog IV (JJ.1,JJ.2.1,JJ.2.2.1)) fun r_97=>
             bif kL [qu (IV (JJ.1,JJ.2.1,JJ.2.2.1)),qu (Gw ((Bn,A1,CE,(Ce,CU,Cu),(DI,CT),CV,Dm,Bo),JJ.1))] then
              some ((r_96.1,r_97.1),())
             else none
            else none
           else
            dj Lr ((Bn,A1,CE,(Ce,CU,Cu),(DI,CT),CV,Dm,Bo),Kw.1,Nr.1.1) fun r_98=>
             some (r_98.1,())
          else none
         else none
def Wh.q49 (xs:di.D):Option (List UInt8×Unit):=
 let e_0:=xs;dj EH (e_0.2.1,e_0.2.2.2.1,e_0.2.2.2.2.1) fun r_1=>
  some (r_1.1,())
def Wh.q86 (xs:List UInt8×List UInt8×Int):Option (List UInt8×Unit):=
 let A6:=xs.1;let CZ:=xs.2.1;let Ov:=xs.2.2;dj JW (A6,CZ) fun r_3=>
  let oc:=bif(!r_3.1.2) then true else decide (Ov<0);bif oc then
   some (A6,())
  else
   let n4:Int:=(↑(List.length r_3.1.1):Int);bif(decide (Ov>IntKind.wrap .i64 (n4-(↑(List.length A6):Int)))) then
    some (r_3.1.1,())
   else
    let A4:=IntKind.wrap .i64 ((↑(List.length A6):Int)+Ov);let CJ:List UInt8:=List.take (Int.toNat (A4-0)) (List.drop (Int.toNat 0) r_3.1.1);bif kL [true,decide (0≤A4),decide (A4≤n4)] then
     some (CJ,())
    else none
def Wh.IL (xs:b7.D×List UInt8×Int):Option (b7.D×Unit):=
 let c9:=xs.1;let CZ:=xs.2.1;let Ov:=xs.2.2;dj FL c9 fun r_3=>
  bif !r_3.1 then
   some ((false,0,[],(0,[],()),([],0,()),[],[],()),())
  else
   dj FB (c9.2.2.2.1,CZ) fun e_=>
    let oc:=bif c9.1 then e_.1.2 else false;bif oc then
     dj q86 (c9.2.2.1,CZ,Ov) fun n_=>
      some ((false,c9.2.1,n_.1,(0,[],()),([],0,()),[],[],()),())
    else
     some ((false,c9.2.1,c9.2.2.1,(0,[],()),([],0,()),[],[],()),())
def Wh.q29 (xs:b7.D):Option (b7.D×Unit):=
 let c9:b7.D:=xs;dj FL c9 fun r_1=>
  bif !r_1.1 then
   some ((false,0,[],(0,[],()),([],0,()),[],[],()),())
  else
   bif c9.1 then
    dj E_ c9 fun r_2=>
     some (r_2.1,())
   else
    dj E6 (c9.2.2.1) fun r_3=>
     dj IF r_3.1.1 fun e_=>
      b8 (zog He ()) fun ic=>
      b8 (zog Hr c9.2.1) fun n_=>
      let Lm:List UInt8:=List.take (Int.toNat (r_3.1.2-0)) (List.drop (Int.toNat 0) (c9.2.2.1));bif kL [qu (Hr c9.2.1),qu (He ()),true,decide (0≤r_3.1.2),decide (r_3.1.2≤(↑(List.length (c9.2.2.1)):Int))] then
       some ((true,c9.2.1,Lm,e_.1.1,ic.1,n_.1,[],()),())
      else none
def Wh.q50 (xs:(b7.D×List bn.D×List b9.D×List an.D×Unit)×di.D):Option (((b7.D×List bn.D×List b9.D×List an.D×Unit)×Bool)×Unit):=
 let w_0:=xs.1;let e_1:=xs.2;bif(e_1.1==1) then
  dj q41 (w_0.1,e_1.2.1,e_1.2.2.2.1,e_1.2.2.2.2.1) fun r_3=>
   dj JR (r_3.1.1,w_0.2) fun e_=>
    some ((e_.1,(r_3.1.2==0)),())
 else
  bif(e_1.1==2) then
   dj IM (w_0.1,e_1.2.1,e_1.2.2.2.1) fun AO=>
    some (((AO.1.1,w_0.2),(AO.1.2==0)),())
  else
   bif(e_1.1==6) then
    dj q31 w_0.1 fun A3=>
     dj Gn ((A3.1.1,w_0.2),-1,A3.1.2) fun Cf=>
      some ((Cf.1,(decide (A3.1.1.2.1>w_0.1.2.1))),())
   else
    bif(e_1.1==11) then
     b8 (zog q49 e_1) fun BZ=>
     b8 (zog IL (w_0.1,BZ.1,e_1.2.2.1)) fun Fa=>
     bif kL [qu (IL (w_0.1,BZ.1,e_1.2.2.1)),qu (q49 e_1)] then
      some (((Fa.1,w_0.2),w_0.1.1),())
     else none
    else
     dj q29 w_0.1 fun Db=>
      dj JR (Db.1,w_0.2) fun Kq=>
       some ((Kq.1,(!w_0.1.1)),())
def Wh.q69 (x:(Unit×Unit×Unit×Int)×((Bool×Int×List UInt8×(Int×Unit×Unit)×(Unit×Int×Unit)×Unit×Unit×Unit)×Unit×Unit×Unit×Unit)×di.D×(b7.D×Unit×Unit×Unit×Unit)×List an.D×List cg.D×List cw.D×List cp.D×List bn.D×List b9.D×List an.D×List bn.D×List b9.D×List an.D):Option ((Bool×Unit×Unit×Unit)×((Bool×Int×List UInt8×(Int×Unit×Unit)×(Unit×Int×Unit)×Unit×Unit×Unit)×Unit×Unit×Unit×Unit)×di.D×(b7.D×Unit×Unit×Unit×Unit)×List an.D×List cg.D×List cw.D×List cp.D×List bn.D×List b9.D×List an.D×List bn.D×List b9.D×List an.D):=
 let Qg:=x.1.2.2.2;let O4:=x.2.1.1.1;let La:=x.2.1.1.2.1;let O5:=x.2.1.1.2.2.1;let O6:=x.2.1.1.2.2.2.1.1;let O7:=x.2.1.1.2.2.2.1.2.2;let O8:=x.2.1.1.2.2.2.2.1.2;let Gc:=x.2.1.1.2.2.2.2.2.2.2;let Gd:=x.2.1.2.2.2.2;let Lb:=x.2.2.1;let O9:=x.2.2.2.1.1;let Lc:=x.2.2.2.1.2.2.2.2;let O_:=x.2.2.2.2.1;let Pa:=x.2.2.2.2.2.1;let Pb:=x.2.2.2.2.2.2.1;let Pd:=x.2.2.2.2.2.2.2.1;let Pe:=x.2.2.2.2.2.2.2.2.1;let Pf:=x.2.2.2.2.2.2.2.2.2.1;let Ge:=x.2.2.2.2.2.2.2.2.2.2.1;let Pg:=x.2.2.2.2.2.2.2.2.2.2.2.1;let Ph:=x.2.2.2.2.2.2.2.2.2.2.2.2.1;let Pj:=x.2.2.2.2.2.2.2.2.2.2.2.2.2;let v_205:=Qg==1;bif v_205 then
  some (((v_205,(),(),()),((O4,La,O5,(O6,(),O7),((),O8),(),(),Gc),(),(),(),Gd),Lb,(O9,(),(),(),Lc),O_,Pa,Pb,Pd,Pe,Pf,Ge,Pg,Ph,Pj))
 else
  let v_206:=Qg==2;bif v_206 then
   some (((v_206,(),(),()),((O4,La,O5,(O6,(),O7),((),O8),(),(),Gc),(),(),(),Gd),Lb,(O9,(),(),(),Lc),O_,Pa,Pb,Pd,Pe,Pf,Ge,Pg,Ph,Pj))
  else
   let Ut:=Qg==6;bif Ut then
    some (((Ut,(),(),()),((O4,La,O5,(O6,(),O7),((),O8),(),(),Gc),(),(),(),Gd),Lb,(O9,(),(),(),Lc),O_,Pa,Pb,Pd,Pe,Pf,Ge,Pg,Ph,Pj))
   else
    let v_208:=Qg==11;bif v_208 then
     some (((v_208,(),(),()),((O4,La,O5,(O6,(),O7),((),O8),(),(),Gc),(),(),(),Gd),Lb,(O9,(),(),(),Lc),O_,Pa,Pb,Pd,Pe,Pf,Ge,Pg,Ph,Pj))
    else
     let v_209:=Qg==12;some (((v_209,(),(),()),((O4,La,O5,(O6,(),O7),((),O8),(),(),Gc),(),(),(),Gd),Lb,(O9,(),(),(),Lc),O_,Pa,Pb,Pd,Pe,Pf,Ge,Pg,Ph,Pj))
def Wh.TV (x:((Unit)×(Unit)×(Unit)×(Int))×((((Bool)×((Int)×((List UInt8)×(((Int)×((Unit)×(Unit)))×(((Unit)×((Int)×(Unit)))×((Unit)×((Unit)×(Unit))))))))×((Unit)×((Unit)×((Unit)×(Unit)))))×(di.D)×((b7.D)×((Unit)×((Unit)×((Unit)×(Unit)))))×(List (an.D))×(List (cg.D))×(List (cw.D))×(List (cp.D))×(List (bn.D))×(List (b9.D))×(List (an.D))×(List (bn.D))×(List (b9.D))×(List (an.D)))):(((Bool)×(Unit)×(Unit)×(Unit))×((((Bool)×((Int)×((List UInt8)×(((Int)×((Unit)×(Unit)))×(((Unit)×((Int)×(Unit)))×((Unit)×((Unit)×(Unit))))))))×((Unit)×((Unit)×((Unit)×(Unit)))))×(di.D)×((b7.D)×((Unit)×((Unit)×((Unit)×(Unit)))))×(List (an.D))×(List (cg.D))×(List (cw.D))×(List (cp.D))×(List (bn.D))×(List (b9.D))×(List (an.D))×(List (bn.D))×(List (b9.D))×(List (an.D)))):=match q69 x with | some y=>y|none=>(default,(default,default,default,default,default,default,default,default,default,default,default,default,default))
def Wh.q69_v (x:((Unit)×(Unit)×(Unit)×(Int))×((((Bool)×((Int)×((List UInt8)×(((Int)×((Unit)×(Unit)))×(((Unit)×((Int)×(Unit)))×((Unit)×((Unit)×(Unit))))))))×((Unit)×((Unit)×((Unit)×(Unit)))))×(di.D)×((b7.D)×((Unit)×((Unit)×((Unit)×(Unit)))))×(List (an.D))×(List (cg.D))×(List (cw.D))×(List (cp.D))×(List (bn.D))×(List (b9.D))×(List (an.D))×(List (bn.D))×(List (b9.D))×(List (an.D))))(y:(((Bool)×(Unit)×(Unit)×(Unit))×((((Bool)×((Int)×((List UInt8)×(((Int)×((Unit)×(Unit)))×(((Unit)×((Int)×(Unit)))×((Unit)×((Unit)×(Unit))))))))×((Unit)×((Unit)×((Unit)×(Unit)))))×(di.D)×((b7.D)×((Unit)×((Unit)×((Unit)×(Unit)))))×(List (an.D))×(List (cg.D))×(List (cw.D))×(List (cp.D))×(List (bn.D))×(List (b9.D))×(List (an.D))×(List (bn.D))×(List (b9.D))×(List (an.D)))))(h:q69 x=some y):TV x=y:=by unfold TV;rw[h]
def Wh.q68 (x:(Unit×Unit×Unit×Int)×((Bool×Int×List UInt8×(Int×Unit×Unit)×(Unit×Int×Unit)×Unit×Unit×Unit)×Unit×Unit×Unit×Unit)×di.D×(b7.D×Unit×Unit×Unit×Unit)×List an.D×List cg.D×List cw.D×List cp.D×List bn.D×List b9.D×List an.D×List bn.D×List b9.D×List an.D):Option ((Bool×Unit×Unit×Unit×Int)×((Bool×Int×List UInt8×(Int×Unit×Unit)×(Unit×Int×Unit)×Unit×Unit×Unit)×Unit×Unit×Unit×Unit)×di.D×(b7.D×Unit×Unit×Unit×Unit)×List an.D×List cg.D×List cw.D×List cp.D×List bn.D×List b9.D×List an.D×List bn.D×List b9.D×List an.D):=
 let Ky:=x.1.2.2.2;let Eu:=x.2.1.1.1;let Ev:=x.2.1.1.2.1;let Fv:=x.2.1.1.2.2.1;let G1:=x.2.1.1.2.2.2.1.1;let Jy:=x.2.1.1.2.2.2.1.2.2;let Jz:=x.2.1.1.2.2.2.2.1.2;let JA:=x.2.1.1.2.2.2.2.2.2.2;let MU:=x.2.1.2.2.2.2;let JB:=x.2.2.1;let Ig:=x.2.2.2.1.1;let F9:=x.2.2.2.1.2.2.2.2;let F_:=x.2.2.2.2.1;let Ih:=x.2.2.2.2.2.1;let EU:=x.2.2.2.2.2.2.1;let Ew:=x.2.2.2.2.2.2.2.1;let K9:=x.2.2.2.2.2.2.2.2.1;let Ii:=x.2.2.2.2.2.2.2.2.2.1;let K_:=x.2.2.2.2.2.2.2.2.2.2.1;let G2:=x.2.2.2.2.2.2.2.2.2.2.2.1;let Dk:=x.2.2.2.2.2.2.2.2.2.2.2.2.1;let Ij:=x.2.2.2.2.2.2.2.2.2.2.2.2.2;let v_126:=Ky==3;bif v_126 then
  some (((v_126,(),(),(),Ky),((Eu,Ev,Fv,(G1,(),Jy),((),Jz),(),(),JA),(),(),(),MU),JB,(Ig,(),(),(),F9),F_,Ih,EU,Ew,K9,Ii,K_,G2,Dk,Ij))
 else
  let v_127:=Ky==4;bif v_127 then
   some (((v_127,(),(),(),Ky),((Eu,Ev,Fv,(G1,(),Jy),((),Jz),(),(),JA),(),(),(),MU),JB,(Ig,(),(),(),F9),F_,Ih,EU,Ew,K9,Ii,K_,G2,Dk,Ij))
  else
   let Us:=Ky==5;bif Us then
    some (((Us,(),(),(),Ky),((Eu,Ev,Fv,(G1,(),Jy),((),Jz),(),(),JA),(),(),(),MU),JB,(Ig,(),(),(),F9),F_,Ih,EU,Ew,K9,Ii,K_,G2,Dk,Ij))
   else
    let v_129:=Ky==7;some (((v_129,(),(),(),Ky),((Eu,Ev,Fv,(G1,(),Jy),((),Jz),(),(),JA),(),(),(),MU),JB,(Ig,(),(),(),F9),F_,Ih,EU,Ew,K9,Ii,K_,G2,Dk,Ij))
def Wh.TU (x:((Unit)×(Unit)×(Unit)×(Int))×((((Bool)×((Int)×((List UInt8)×(((Int)×((Unit)×(Unit)))×(((Unit)×((Int)×(Unit)))×((Unit)×((Unit)×(Unit))))))))×((Unit)×((Unit)×((Unit)×(Unit)))))×(di.D)×((b7.D)×((Unit)×((Unit)×((Unit)×(Unit)))))×(List (an.D))×(List (cg.D))×(List (cw.D))×(List (cp.D))×(List (bn.D))×(List (b9.D))×(List (an.D))×(List (bn.D))×(List (b9.D))×(List (an.D)))):(((Bool)×(Unit)×(Unit)×(Unit)×(Int))×((((Bool)×((Int)×((List UInt8)×(((Int)×((Unit)×(Unit)))×(((Unit)×((Int)×(Unit)))×((Unit)×((Unit)×(Unit))))))))×((Unit)×((Unit)×((Unit)×(Unit)))))×(di.D)×((b7.D)×((Unit)×((Unit)×((Unit)×(Unit)))))×(List (an.D))×(List (cg.D))×(List (cw.D))×(List (cp.D))×(List (bn.D))×(List (b9.D))×(List (an.D))×(List (bn.D))×(List (b9.D))×(List (an.D)))):=match q68 x with | some y=>y|none=>(default,(default,default,default,default,default,default,default,default,default,default,default,default,default))
def Wh.q68_v (x:((Unit)×(Unit)×(Unit)×(Int))×((((Bool)×((Int)×((List UInt8)×(((Int)×((Unit)×(Unit)))×(((Unit)×((Int)×(Unit)))×((Unit)×((Unit)×(Unit))))))))×((Unit)×((Unit)×((Unit)×(Unit)))))×(di.D)×((b7.D)×((Unit)×((Unit)×((Unit)×(Unit)))))×(List (an.D))×(List (cg.D))×(List (cw.D))×(List (cp.D))×(List (bn.D))×(List (b9.D))×(List (an.D))×(List (bn.D))×(List (b9.D))×(List (an.D))))(y:(((Bool)×(Unit)×(Unit)×(Unit)×(Int))×((((Bool)×((Int)×((List UInt8)×(((Int)×((Unit)×(Unit)))×(((Unit)×((Int)×(Unit)))×((Unit)×((Unit)×(Unit))))))))×((Unit)×((Unit)×((Unit)×(Unit)))))×(di.D)×((b7.D)×((Unit)×((Unit)×((Unit)×(Unit)))))×(List (an.D))×(List (cg.D))×(List (cw.D))×(List (cp.D))×(List (bn.D))×(List (b9.D))×(List (an.D))×(List (bn.D))×(List (b9.D))×(List (an.D)))))(h:q68 x=some y):TU x=y:=by unfold TU;rw[h]
def Wh.q67 (x:(Unit×Unit×Unit×Int)×((Bool×Int×List UInt8×(Int×Unit×Unit)×(Unit×Int×Unit)×Unit×Unit×Unit)×Unit×Unit×Unit×Unit)×di.D×(b7.D×Unit×Unit×Unit×Unit)×List an.D×List cg.D×List cw.D×List cp.D×List bn.D×List b9.D×List an.D×List bn.D×List b9.D×List an.D):Option ((Bool×Unit×Unit×Unit×Int)×((Bool×Int×List UInt8×(Int×Unit×Unit)×(Unit×Int×Unit)×Unit×Unit×Unit)×Unit×Unit×Unit×Unit)×di.D×(b7.D×Unit×Unit×Unit×Unit)×List an.D×List cg.D×List cw.D×List cp.D×List bn.D×List b9.D×List an.D×List bn.D×List b9.D×List an.D):=
 let Dx:=x.1.2.2.2;let s_:=x.2.1.1.1;let CR:=x.2.1.1.2.1;let Bj:=x.2.1.1.2.2.1;let Bk:=x.2.1.1.2.2.2.1.1;let AF:=x.2.1.1.2.2.2.1.2.2;let Ba:=x.2.1.1.2.2.2.2.1.2;let w7:=x.2.1.1.2.2.2.2.2.2.2;let ng:=x.2.1.2.2.2.2;let AN:=x.2.2.1;let Bl:=x.2.2.2.1.1;let nE:=x.2.2.2.1.2.2.2.2;let AR:=x.2.2.2.2.1;let AU:=x.2.2.2.2.2.1;let AG:=x.2.2.2.2.2.2.1;let AH:=x.2.2.2.2.2.2.2.1;let nI:=x.2.2.2.2.2.2.2.2.1;let zC:=x.2.2.2.2.2.2.2.2.2.1;let vT:=x.2.2.2.2.2.2.2.2.2.2.1;let w8:=x.2.2.2.2.2.2.2.2.2.2.2.1;let AV:=x.2.2.2.2.2.2.2.2.2.2.2.2.1;let qe:=x.2.2.2.2.2.2.2.2.2.2.2.2.2;let KA:=Dx==8;bif KA then
  some (((KA,(),(),(),Dx),((s_,CR,Bj,(Bk,(),AF),((),Ba),(),(),w7),(),(),(),ng),AN,(Bl,(),(),(),nE),AR,AU,AG,AH,nI,zC,vT,w8,AV,qe))
 else
  let I_:=Dx==9;bif I_ then
   some (((I_,(),(),(),Dx),((s_,CR,Bj,(Bk,(),AF),((),Ba),(),(),w7),(),(),(),ng),AN,(Bl,(),(),(),nE),AR,AU,AG,AH,nI,zC,vT,w8,AV,qe))
  else
   let B6:=Dx==10;some (((B6,(),(),(),Dx),((s_,CR,Bj,(Bk,(),AF),((),Ba),(),(),w7),(),(),(),ng),AN,(Bl,(),(),(),nE),AR,AU,AG,AH,nI,zC,vT,w8,AV,qe))
def Wh.TT (x:((Unit)×(Unit)×(Unit)×(Int))×((((Bool)×((Int)×((List UInt8)×(((Int)×((Unit)×(Unit)))×(((Unit)×((Int)×(Unit)))×((Unit)×((Unit)×(Unit))))))))×((Unit)×((Unit)×((Unit)×(Unit)))))×(di.D)×((b7.D)×((Unit)×((Unit)×((Unit)×(Unit)))))×(List (an.D))×(List (cg.D))×(List (cw.D))×(List (cp.D))×(List (bn.D))×(List (b9.D))×(List (an.D))×(List (bn.D))×(List (b9.D))×(List (an.D)))):(((Bool)×(Unit)×(Unit)×(Unit)×(Int))×((((Bool)×((Int)×((List UInt8)×(((Int)×((Unit)×(Unit)))×(((Unit)×((Int)×(Unit)))×((Unit)×((Unit)×(Unit))))))))×((Unit)×((Unit)×((Unit)×(Unit)))))×(di.D)×((b7.D)×((Unit)×((Unit)×((Unit)×(Unit)))))×(List (an.D))×(List (cg.D))×(List (cw.D))×(List (cp.D))×(List (bn.D))×(List (b9.D))×(List (an.D))×(List (bn.D))×(List (b9.D))×(List (an.D)))):=match q67 x with | some y=>y|none=>(default,(default,default,default,default,default,default,default,default,default,default,default,default,default))
def Wh.q67_v (x:((Unit)×(Unit)×(Unit)×(Int))×((((Bool)×((Int)×((List UInt8)×(((Int)×((Unit)×(Unit)))×(((Unit)×((Int)×(Unit)))×((Unit)×((Unit)×(Unit))))))))×((Unit)×((Unit)×((Unit)×(Unit)))))×(di.D)×((b7.D)×((Unit)×((Unit)×((Unit)×(Unit)))))×(List (an.D))×(List (cg.D))×(List (cw.D))×(List (cp.D))×(List (bn.D))×(List (b9.D))×(List (an.D))×(List (bn.D))×(List (b9.D))×(List (an.D))))(y:(((Bool)×(Unit)×(Unit)×(Unit)×(Int))×((((Bool)×((Int)×((List UInt8)×(((Int)×((Unit)×(Unit)))×(((Unit)×((Int)×(Unit)))×((Unit)×((Unit)×(Unit))))))))×((Unit)×((Unit)×((Unit)×(Unit)))))×(di.D)×((b7.D)×((Unit)×((Unit)×((Unit)×(Unit)))))×(List (an.D))×(List (cg.D))×(List (cw.D))×(List (cp.D))×(List (bn.D))×(List (b9.D))×(List (an.D))×(List (bn.D))×(List (b9.D))×(List (an.D)))))(h:q67 x=some y):TT x=y:=by unfold TT;rw[h]
def Wh.J8 (xs:(b7.D×List bn.D×List b9.D×List an.D×Unit)×di.D):Option ((fy.D×Bool)×Unit):=
 let w_0:=xs.1;let e_1:=xs.2;CL q67 TT ((((),(),(),e_1.1),((false,0,[],(0,(),()),((),0,()),(),(),()),(),(),(),()),e_1,(w_0.1,(),(),(),w_0.2.2.2.2),[],[],[],[],[],[],[],w_0.2.1,w_0.2.2.1,w_0.2.2.2.1)) fun B7=>
  let Av:=B7.1.1;let KB:=B7.1.2.2.2.2;let nS:=B7.2.1.1.1;let AB:=B7.2.1.1.2.1;let Cm:=B7.2.1.1.2.2.1;let Cc:=B7.2.1.1.2.2.2.1.1;let Bb:=B7.2.1.1.2.2.2.1.2.2;let BL:=B7.2.1.1.2.2.2.2.1.2;let Cd:=B7.2.1.1.2.2.2.2.2.2.2;let Bc:=B7.2.1.2.2.2.2;let AX:=B7.2.2.1;let BM:=B7.2.2.2.1.1;let CS:=B7.2.2.2.1.2.2.2.2;let BD:=B7.2.2.2.2.1;let Cs:=B7.2.2.2.2.2.1;let EW:=B7.2.2.2.2.2.2.1;let Dl:=B7.2.2.2.2.2.2.2.1;let Bn:=B7.2.2.2.2.2.2.2.2.1;let A1:=B7.2.2.2.2.2.2.2.2.2.1;let CE:=B7.2.2.2.2.2.2.2.2.2.2.1;let Ce:=B7.2.2.2.2.2.2.2.2.2.2.2.1;let Cu:=B7.2.2.2.2.2.2.2.2.2.2.2.2.1;let CT:=B7.2.2.2.2.2.2.2.2.2.2.2.2.2;bif Av then
   dj q70 ((BM,Ce,Cu,CT,CS),AX) fun PV=>
    some (PV.1,())
  else
   CL q68 TU ((((),(),(),KB),((nS,AB,Cm,(Cc,(),Bb),((),BL),(),(),Cd),(),(),(),Bc),AX,(BM,(),(),(),CS),BD,Cs,EW,Dl,Bn,A1,CE,Ce,Cu,CT)) fun Cp=>
    let v_132:=Cp.1.1;let YP:=Cp.1.2.2.2.2;let Ta:=Cp.2.1.1.1;let Tb:=Cp.2.1.1.2.1;let Tc:=Cp.2.1.1.2.2.1;let Xu:=Cp.2.1.1.2.2.2.1.1;let Xv:=Cp.2.1.1.2.2.2.1.2.2;let Xw:=Cp.2.1.1.2.2.2.2.1.2;let ls_140:=Cp.2.1.1.2.2.2.2.2.2.2;let ls_141:=Cp.2.1.2.2.2.2;let abE:=Cp.2.2.1;let abF:=Cp.2.2.2.1.1;let abG:=Cp.2.2.2.1.2.2.2.2;let ls_145:=Cp.2.2.2.2.1;let Xx:=Cp.2.2.2.2.2.1;let Xy:=Cp.2.2.2.2.2.2.1;let MV:=Cp.2.2.2.2.2.2.2.1;let Ik:=Cp.2.2.2.2.2.2.2.2.1;let Xz:=Cp.2.2.2.2.2.2.2.2.2.1;let XA:=Cp.2.2.2.2.2.2.2.2.2.2.1;let Td:=Cp.2.2.2.2.2.2.2.2.2.2.2.1;let Te:=Cp.2.2.2.2.2.2.2.2.2.2.2.2.1;let Tf:=Cp.2.2.2.2.2.2.2.2.2.2.2.2.2;bif v_132 then
     dj q48 ((abF,Td,Te,Tf,abG),abE) fun r_155=>
      some (r_155.1,())
    else
     CL q69 TV ((((),(),(),YP),((Ta,Tb,Tc,(Xu,(),Xv),((),Xw),(),(),ls_140),(),(),(),ls_141),abE,(abF,(),(),(),abG),ls_145,Xx,Xy,MV,Ik,Xz,XA,Td,Te,Tf)) fun Mf=>
      let v_212:=Mf.1.1;let ls_221:=Mf.2.2.1;let abJ:=Mf.2.2.2.1.1;let abK:=Mf.2.2.2.1.2.2.2.2;let abL:=Mf.2.2.2.2.2.2.2.2.2.2.2.1;let abM:=Mf.2.2.2.2.2.2.2.2.2.2.2.2.1;let abN:=Mf.2.2.2.2.2.2.2.2.2.2.2.2.2;bif v_212 then
       dj q50 ((abJ,abL,abM,abN,abK),ls_221) fun r_234=>
        some (r_234.1,())
      else
       some (((abJ,abL,abM,abN,abK),false),())
abbrev Wh.afX:Type:=(Int×Unit×Unit×Unit×Unit)×dz.D×fy.D×List di.D×((Bool×Int×List UInt8×(Int×Unit×Unit)×(Unit×Int×Unit)×Unit×Unit×Unit)×Unit×Unit×Unit×Unit)×List an.D×List cg.D×List cw.D×List cp.D×List bn.D×List b9.D×List an.D
abbrev Wh.amL:Type:=(Unit×Unit×Unit)×dz.D×((Bool×Int×List UInt8×(Int×Unit×Unit)×(Unit×Int×Unit)×Unit×Unit×Unit)×Unit×Unit×Unit×Unit)×fy.D×List di.D×List an.D×List cg.D×List cw.D×List cp.D×List bn.D×List b9.D×List an.D
def Wh.PL (x:afX):Option (afX⊕amL):=
 let n_38:=x.1.1;let pb_39:=x.2.1;let AU:=x.2.2.1;let AG:=x.2.2.2.1;let AH:=x.2.2.2.2.1.1.1;let nI:=x.2.2.2.2.1.1.2.1;let zC:=x.2.2.2.2.1.1.2.2.1;let vT:=x.2.2.2.2.1.1.2.2.2.1.1;let w8:=x.2.2.2.2.1.1.2.2.2.1.2.2;let AV:=x.2.2.2.2.1.1.2.2.2.2.1.2;let qe:=x.2.2.2.2.1.1.2.2.2.2.2.2.2;let z9:=x.2.2.2.2.1.2.2.2.2;let nG:=x.2.2.2.2.2.1;let wm:=x.2.2.2.2.2.2.1;let tc:=x.2.2.2.2.2.2.2.1;let Az:=x.2.2.2.2.2.2.2.2.1;let AW:=x.2.2.2.2.2.2.2.2.2.1;let AI:=x.2.2.2.2.2.2.2.2.2.2.1;let nS:=x.2.2.2.2.2.2.2.2.2.2.2;bif decide (n_38>0) then
  dj q72 (pb_39,AU) fun L3=>
   let Yd:List (di.D):=[L3.1];let Bb:=AG++Yd;bif kL [decide (List.length AG+(1:Nat)≤eV)] then
    b8 (zog G9 AU) fun CY=>
    b8 (zog J8 (CY.1,L3.1)) fun r_62=>
    bif kL [qu (J8 (CY.1,L3.1)),qu (G9 AU)] then
     bif r_62.1.2 then
      some (.inl (((IntKind.wrap .i64 (n_38-1)),(),(),(),()),L3.2.1,r_62.1.1,Bb,((AH,nI,zC,(vT,(),w8),((),AV),(),(),qe),(),(),(),z9),nG,wm,tc,Az,AW,AI,nS))
     else
      some (.inl (((IntKind.wrap .i64 (n_38-1)),(),(),(),()),L3.2.1,AU,Bb,((AH,nI,zC,(vT,(),w8),((),AV),(),(),qe),(),(),(),z9),nG,wm,tc,Az,AW,AI,nS))
    else none
   else none
 else
  some (.inr (((),(),()),pb_39,((AH,nI,zC,(vT,(),w8),((),AV),(),(),qe),(),(),(),z9),AU,AG,nG,wm,tc,Az,AW,AI,nS))
def Wh.afY:(Unit×Unit×Unit)×dz.D×((Bool×Int×List UInt8×(Int×Unit×Unit)×(Unit×Int×Unit)×Unit×Unit×Unit)×Unit×Unit×Unit×Unit)×fy.D×List di.D×List an.D×List cg.D×List cw.D×List cp.D×List bn.D×List b9.D×List an.D:=default
def Wh.q73 (xs:dz.D×Int):Option ((List di.D×b7.D×List bn.D×List b9.D×List an.D×Unit)×dz.D×Unit):=
 let v5:=xs.1;let most_1:=xs.2;dj q64 () fun r_2=>
  dj m6 (v5,most_1) fun r_3=>
   ia PL afY (((r_3.1,(),(),(),()),r_3.2.1,r_2.1,[],((false,0,[],(0,(),()),((),0,()),(),(),()),(),(),(),()),[],[],[],[],[],[],[])) fun Qs=>
    let M6:=Qs.2.1;let DI:=Qs.2.2.2.1;let CV:=Qs.2.2.2.2.1;dj G9 DI fun Nr=>
     some ((CV,Nr.1),M6,())
def Wh.q75 (xs:dz.D):Option ((b7.D×List bn.D×List b9.D×List an.D×Unit)×dz.D×Unit):=
 let v5:dz.D:=xs;dj q73 (v5,110) fun r_1=>
  some (r_1.1.2,r_1.2.1,())
def Wh.q3 (xs:dz.D×fy.D):Option ((b7.D×List bn.D×List b9.D×List an.D×Unit)×dz.D×Unit):=
 let v5:=xs.1;let w_1:=xs.2;dj G9 w_1 fun r_2=>
  dj m6 (v5,8) fun r_3=>
   bif(r_3.1==0) then
    b8 (zog m6 (r_3.2.1,4)) fun ic=>
    b8 (zog m6 (ic.2.1,2)) fun n_=>
    let Ln:=List.set (r_2.1.2.1) (Int.toNat ic.1) ((List.getD (r_2.1.2.1) (Int.toNat ic.1) (0,0,0,[],0,((0,0,[],[],()),(0,0,[],()),()),())).1,List.getD [(-1:Int),0] (Int.toNat n_.1) 0,((List.getD (r_2.1.2.1) (Int.toNat ic.1) (0,0,0,[],0,((0,0,[],[],()),(0,0,[],()),()),())).2).2);bif kL [decide (0≤ic.1),decide (ic.1<(↑(List.length (r_2.1.2.1)):Int)),decide (0≤n_.1),decide (n_.1<(↑(2:Nat):Int)),qu (m6 (ic.2.1,2)),qu (m6 (r_3.2.1,4))] then
     some ((r_2.1.1,Ln,r_2.1.2.2),n_.2.1,())
    else none
   else
    bif(r_3.1==1) then
     b8 (zog m6 (r_3.2.1,4)) fun Db=>
     b8 (zog m6 (Db.2.1,6)) fun Kq=>
     let BN:=List.set (r_2.1.2.1) (Int.toNat Db.1) ((List.getD (r_2.1.2.1) (Int.toNat Db.1) (0,0,0,[],0,((0,0,[],[],()),(0,0,[],()),()),())).1,((List.getD (r_2.1.2.1) (Int.toNat Db.1) (0,0,0,[],0,((0,0,[],[],()),(0,0,[],()),()),())).2).1,Kq.1,(((List.getD (r_2.1.2.1) (Int.toNat Db.1) (0,0,0,[],0,((0,0,[],[],()),(0,0,[],()),()),())).2).2).2);bif kL [decide (0≤Db.1),decide (Db.1<(↑(List.length (r_2.1.2.1)):Int)),qu (m6 (Db.2.1,6)),qu (m6 (r_3.2.1,4))] then
      some ((r_2.1.1,BN,r_2.1.2.2),Kq.2.1,())
     else none
    else
     bif(r_3.1==2) then
      let pb_25:Nat:=Int.toNat ((↑(List.length (r_2.1.2.1)):Int)-1);bif kL [true,decide (1≤(↑(List.length (r_2.1.2.1)):Int)),decide ((↑(List.length (r_2.1.2.1)):Int)≤(↑(List.length (r_2.1.2.1)):Int))] then
       some ((r_2.1.1,List.take pb_25 (List.drop (Int.toNat 1) (r_2.1.2.1)),r_2.1.2.2),r_3.2.1,())
      else none
     else
      bif(r_3.1==3) then
       let X8:=r_2.1.1.2.2.1 ++ [(120:UInt8)];bif kL [decide (List.length (r_2.1.1.2.2.1)+(1:Nat)≤eV)] then
        some (((r_2.1.1.1,r_2.1.1.2.1,X8,r_2.1.1.2.2.2),r_2.1.2),r_3.2.1,())
       else none
      else
       bif(r_3.1==4) then
        some ((((!r_2.1.1.1),r_2.1.1.2),r_2.1.2),r_3.2.1,())
       else
        bif(r_3.1==5) then
         let xb:List (an.D):=[(0,[(97:UInt8)],IntKind.wrap .i64 ((↑(List.length (r_2.1.2.2.2.1)):Int)+1),[(120:UInt8)],())];let EC:List (an.D):=r_2.1.2.2.2.1++xb;bif kL [decide (List.length (r_2.1.2.2.2.1)+(1:Nat)≤eV)] then
          some ((r_2.1.1,r_2.1.2.1,r_2.1.2.2.1,EC,r_2.1.2.2.2.2),r_3.2.1,())
         else none
        else
         bif(r_3.1==6) then
          let Ya:=r_2.1.2.2.1 ++ [(7,[(120:UInt8)],false,())];bif kL [decide (List.length (r_2.1.2.2.1)+(1:Nat)≤eV)] then
           some ((r_2.1.1,r_2.1.2.1,Ya,r_2.1.2.2.2),r_3.2.1,())
          else none
         else
          some (((r_2.1.1.1,r_2.1.1.2.1,r_2.1.1.2.2.1,((IntKind.wrap .i64 (r_2.1.1.2.2.2.1.1+1)),r_2.1.1.2.2.2.1.2),r_2.1.1.2.2.2.2),r_2.1.2),r_3.2.1,())
def Wh.q10 (xs:dz.D):Option ((b7.D×List bn.D×List b9.D×List an.D×Unit)×dz.D×Unit):=
 let v5:dz.D:=xs;dj q75 v5 fun r_1=>
  dj m6 (r_1.2.1,14) fun r_2=>
   bif(r_2.1==0) then
    dj Wh.q3 (r_2.2.1,r_1.1) fun e_=>
     some (e_.1,e_.2.1,())
   else
    some (r_1.1,r_2.2.1,())
def Wh.q7 (xs:dz.D):Option (bn.D×dz.D×Unit):=
 let v5:dz.D:=xs;dj q10 v5 fun r_1=>
  b8 (zog m6 (r_1.2.1,(↑(List.length (r_1.1.2.1)):Int))) fun r_2=>
  let Dq:=List.getD (r_1.1.2.1) (Int.toNat r_2.1) (0,0,0,[],0,((0,0,[],[],()),(0,0,[],()),()),());let AL:Int:=(↑(List.length (r_1.1.2.1)):Int);bif kL [decide (0≤r_2.1),decide (r_2.1<AL),qu (m6 (r_1.2.1,AL))] then
   some (Dq,r_2.2.1,())
  else none
def Wh.q1 (xs:List Int):Option (bn.D×Unit):=
 let GQ:=xs;b8 (zog JY GQ) fun r_1=>
 b8 (zog Wh.q7 r_1.1) fun r_3=>
 bif kL [qu (Wh.q7 r_1.1),qu (JY GQ)] then
  some (r_3.1,())
 else none
def Wh.AY (xs:Int×Int×Int):Option (Bool×Unit):=
 let Dp:=xs.1;let Xt:=xs.2.1;let Xc:=xs.2.2;let oc:=bif decide (Dp≥Xt) then decide (Dp≤Xc) else false;some (oc,())
def Wh.IS (xs:Int):Option (Bool×Unit):=
 let Dp:=xs;dj AY (Dp,0,3) fun r_1=>
  some (r_1.1,())
def Wh.J2 (xs:r5.D):Option (Bool×Unit):=
 let n5:=xs;let BP:=bif bif bif bif bif bif(n5.1.1==0) then n5.1.2.1==0 else false then(↑(List.length (n5.1.2.2.1)):Int)==0 else false then(↑(List.length (n5.1.2.2.2.1)):Int)==0 else false then n5.2.1.1==0 else false then n5.2.1.2.1==0 else false then(↑(List.length (n5.2.1.2.2.1)):Int)==0 else false;some (BP,())
def Wh.DZ (xs:gT.D):Option (Int×Unit):=
 let g8:gT.D:=xs;bif kL [g8.2.1 != 0] then
  some ((IntKind.wrap .i64 (Int.tdiv (IntKind.wrap .i64 ((IntKind.wrap .i64 (g8.1+g8.2.1))-1)) g8.2.1)),())
 else none
abbrev Wh.ad1:Type:=(Int×Unit×List Int×Int)×gT.D
abbrev Wh.alO:Type:=Bool×Unit⊕Unit×Unit
def Wh.Gp (x:ad1):Option (ad1⊕alO):=
 let B5:=x.1.1;let C3:=x.1.2.2.1;let EM:=x.1.2.2.2;let nE:=x.2;bif decide (B5<EM) then
  let FV:=List.getD C3 (Int.toNat B5) 0;bif kL [decide (0≤B5),decide (B5<(↑(List.length C3):Int))] then
   b8 (zog DZ nE) fun Nn=>
   b8 (zog AY (FV,1,Nn.1)) fun HB=>
   b8 (zog AY (List.getD (nE.2.2.2.1) (Int.toNat B5) 0,1,99)) fun r_50=>
   let B6:=bif bif !HB.1 then true else bif decide (B5>0) then decide (List.getD (nE.2.2.1) (Int.toNat (IntKind.wrap .i64 (B5-1))) 0≥FV) else false then true else !r_50.1;bif kL [(!!bif !HB.1 then true else bif decide (B5>0) then decide (List.getD (nE.2.2.1) (Int.toNat (IntKind.wrap .i64 (B5-1))) 0≥FV) else false) || qu (AY (List.getD (nE.2.2.2.1) (Int.toNat B5) 0,1,99)),(!!bif !HB.1 then true else bif decide (B5>0) then decide (List.getD (nE.2.2.1) (Int.toNat (IntKind.wrap .i64 (B5-1))) 0≥FV) else false) || decide (0≤B5),(!!bif !HB.1 then true else bif decide (B5>0) then decide (List.getD (nE.2.2.1) (Int.toNat (IntKind.wrap .i64 (B5-1))) 0≥FV) else false) || decide (B5<(↑(List.length (nE.2.2.2.1)):Int)),!(decide (B5>0) && !!HB.1) || decide (0≤IntKind.wrap .i64 (B5-1)),!(decide (B5>0) && !!HB.1) || decide (IntKind.wrap .i64 (B5-1)<(↑(List.length (nE.2.2.1)):Int)),qu (AY (FV,1,Nn.1)),qu (DZ nE)] then
    bif B6 then
     some (.inr (.inl (false,())))
    else
     some (.inl (((IntKind.wrap .i64 (B5+1)),(),C3,EM),nE))
   else none
  else none
 else
  some (.inr (.inr ((),())))
def Wh.ad2:Bool×Unit⊕Unit×Unit:=.inl default
def Wh.Ef (xs:gT.D):Option (Bool×Unit):=
 let g8:gT.D:=xs;b8 (zog AY (g8.1,1,300)) fun r_1=>
 b8 (zog AY (g8.2.1,1,16)) fun r_2=>
 b8 (zog DZ g8) fun ic=>
 let n4:=bif bif !r_1.1 then true else !r_2.1 then true else decide (ic.1>24);bif kL [(!!bif !r_1.1 then true else !r_2.1) || qu (DZ g8),!!!r_1.1 || qu (AY (g8.2.1,1,16)),qu (AY (g8.1,1,300))] then
  bif n4 then
   some (false,())
  else
   let nP:Int:=(↑(List.length (g8.2.2.1)):Int);b8 (zog AY (nP,1,3)) fun Fa=>
   let se:=bif bif !Fa.1 then true else(↑(List.length (g8.2.2.2.1)):Int) != nP then true else List.getD (g8.2.2.1) (Int.toNat (IntKind.wrap .i64 (nP-1))) 0 != ic.1;bif kL [(!!bif !Fa.1 then true else(↑(List.length (g8.2.2.2.1)):Int) != nP) || qu (DZ g8),(!!bif !Fa.1 then true else(↑(List.length (g8.2.2.2.1)):Int) != nP) || decide (0≤IntKind.wrap .i64 (nP-1)),(!!bif !Fa.1 then true else(↑(List.length (g8.2.2.2.1)):Int) != nP) || decide (IntKind.wrap .i64 (nP-1)<nP),qu (AY (nP,1,3))] then
    bif se then
     some (false,())
    else
     ia Gp ad2 (((0,(),g8.2.2.1,nP),g8)) fun q_=>
      sumC q_ (fun y_54=>
       let FW:=y_54.1;some (FW,())) (fun _=>
       some (true,()))
   else none
 else none
abbrev Wh.aew:Type:=(Int×List Int×Int×List Int×Int)×Unit
abbrev Wh.al4:Type:=Bool×Unit⊕Int×Unit
def Wh.IE (x:aew):Option (aew⊕al4):=
 let se:=x.1.1;let Yx:=x.1.2.1;let WB:=x.1.2.2.1;let xe:=x.1.2.2.2.1;let mb:=x.1.2.2.2.2;bif decide (se<mb) then
  let nT:=List.getD xe (Int.toNat se) 0;bif kL [decide (0≤se),decide (se<(↑(List.length xe):Int))] then
   let r_:=IntKind.wrap .i64 (WB-1);b8 (zog AY (nT,0,r_)) fun FP=>
   let v9:=bif !FP.1 then true else bif decide (se>0) then decide (List.getD Yx (Int.toNat (IntKind.wrap .i64 (se-1))) 0≥nT) else false;bif kL [!(decide (se>0) && !!FP.1) || decide (0≤IntKind.wrap .i64 (se-1)),!(decide (se>0) && !!FP.1) || decide (IntKind.wrap .i64 (se-1)<(↑(List.length Yx):Int)),qu (AY (nT,0,r_))] then
    bif v9 then
     some (.inr (.inl (false,())))
    else
     some (.inl (((IntKind.wrap .i64 (se+1)),Yx,WB,xe,mb),()))
   else none
  else none
 else
  some (.inr (.inr (WB,())))
def Wh.aex:Bool×Unit⊕Int×Unit:=.inl default
def Wh.Hj (xs:List Int×Int):Option (Bool×Unit):=
 let HD:=xs.1;let Wz:=xs.2;ia IE aex (((0,HD,Wz,HD,(↑(List.length HD):Int)),())) fun q_=>
  sumC q_ (fun y_31=>
   let Cg:=y_31.1;some (Cg,())) (fun z_32=>
   let HV:=z_32.1;dj AY (HV,0,24) fun DL=>
    some (DL.1,()))
abbrev Wh.afh:Type:=(Int×Int×List Int×Int)×Unit
abbrev Wh.amr:Type:=Int×Unit
def Wh.Nf (x:afh):Option (afh⊕amr):=
 let A4:=x.1.1;let m_10:=x.1.2.1;let CJ:=x.1.2.2.1;let AZ:=x.1.2.2.2;bif decide (A4<AZ) then
  let pg:=List.getD CJ (Int.toNat A4) 0;bif kL [decide (0≤A4),decide (A4<(↑(List.length CJ):Int))] then
   bif kL [decide (0≤pg)] then
    some (.inl (((IntKind.wrap .i64 (A4+1)),pZ Go.BinOp.or Go.IntKind.u32 m_10 (IntKind.wrap .u32 ((1:Int)*2 ^ Min.min (Int.toNat pg) (Go.IntKind.bits Go.IntKind.u32))),CJ,AZ),()))
   else none
  else none
 else
  some (.inr (m_10,()))
def Wh.afi:Int×Unit:=default
def Wh.IK (xs:List Int):Option (Int×Unit):=
 let HD:=xs;ia Nf afi (((0,0,HD,(↑(List.length HD):Int)),())) fun Qq=>
  let m_19:=Qq.1;some (m_19,())
abbrev Wh.afH:Type:=(Int×Int×List gv.D×Int)×Unit
abbrev Wh.amD:Type:=Bool×Unit⊕Unit×Unit
def Wh.LU (x:afH):Option (afH⊕amD):=
 let Jc:=x.1.1;let adw:=x.1.2.1;let Fc:=x.1.2.2.1;let v_70:=x.1.2.2.2;bif decide (Jc<v_70) then
  let Pz:=List.getD Fc (Int.toNat Jc) ([],[],());bif kL [decide (0≤Jc),decide (Jc<(↑(List.length Fc):Int))] then
   let Uz:List Int:=List.take (Int.toNat ((↑(List.length Pz.1):Int)-1)) (List.drop (Int.toNat 1) Pz.1);b8 (zog IK Uz) fun PV=>
   let v_78:=pZ Go.BinOp.and Go.IntKind.u32 PV.1 adw != 0;bif kL [qu (IK Uz),true,decide (1≤(↑(List.length Pz.1):Int)),decide ((↑(List.length Pz.1):Int)≤(↑(List.length Pz.1):Int))] then
    bif v_78 then
     some (.inr (.inl (false,())))
    else
     some (.inl (((IntKind.wrap .i64 (Jc+1)),adw,Fc,v_70),()))
   else none
  else none
 else
  some (.inr (.inr ((),())))
def Wh.afI:Bool×Unit⊕Unit×Unit:=.inl default
abbrev Wh.afF:Type:=(Int×Int×Unit×List gv.D×Int)×fk.D
abbrev Wh.amC:Type:=Bool×Unit⊕(Int×Unit)×fk.D
def Wh.Ht (x:afF):Option (afF⊕amC):=
 let vN:=x.1.1;let adv:=x.1.2.1;let v9:=x.1.2.2.2.1;let CK:=x.1.2.2.2.2;let Bj:=x.2;bif decide (vN<CK) then
  let EC:=List.getD v9 (Int.toNat vN) ([],[],());bif kL [decide (0≤vN),decide (vN<(↑(List.length v9):Int))] then
   let Cg:Int:=(↑(List.length EC.1):Int);b8 (zog Hj (EC.1,Bj.1)) fun GC=>
   let L_:=bif bif bif Cg==0 then true else !GC.1 then true else(↑(List.length EC.2.1):Int) != Bj.2.1 then true else bif decide (vN>0) then decide (List.getD ((List.getD (Bj.2.2.1) (Int.toNat (IntKind.wrap .i64 (vN-1))) ([],[],())).1) (Int.toNat 0) 0≥List.getD EC.1 (Int.toNat 0) 0) else false;bif kL [!(decide (vN>0) && !bif bif Cg==0 then true else !GC.1 then true else(↑(List.length EC.2.1):Int) != Bj.2.1) || decide ((0:Int)≤0),!(decide (vN>0) && !bif bif Cg==0 then true else !GC.1 then true else(↑(List.length EC.2.1):Int) != Bj.2.1) || decide (0<Cg),!(decide (vN>0) && !bif bif Cg==0 then true else !GC.1 then true else(↑(List.length EC.2.1):Int) != Bj.2.1) || decide ((0:Int)≤0),!(decide (vN>0) && !bif bif Cg==0 then true else !GC.1 then true else(↑(List.length EC.2.1):Int) != Bj.2.1) || decide (0<(↑(List.length ((List.getD (Bj.2.2.1) (Int.toNat (IntKind.wrap .i64 (vN-1))) ([],[],())).1)):Int)),!(decide (vN>0) && !bif bif Cg==0 then true else !GC.1 then true else(↑(List.length EC.2.1):Int) != Bj.2.1) || decide (0≤IntKind.wrap .i64 (vN-1)),!(decide (vN>0) && !bif bif Cg==0 then true else !GC.1 then true else(↑(List.length EC.2.1):Int) != Bj.2.1) || decide (IntKind.wrap .i64 (vN-1)<(↑(List.length (Bj.2.2.1)):Int)),!!Cg==0 || qu (Hj (EC.1,Bj.1))] then
    bif L_ then
     some (.inr (.inl (false,())))
    else
     let Ma:=List.getD EC.1 (Int.toNat 0) 0;let alp:Int:=pZ Go.BinOp.or Go.IntKind.u32 adv (IntKind.wrap .u32 ((1:Int)*2 ^ Min.min (Int.toNat Ma) (Go.IntKind.bits Go.IntKind.u32)));bif kL [decide (0≤Ma),true,decide (0<Cg)] then
      some (.inl (((IntKind.wrap .i64 (vN+1)),alp,(),v9,CK),Bj))
     else none
   else none
  else none
 else
  some (.inr (.inr ((adv,()),Bj)))
def Wh.afG:Bool×Unit⊕(Int×Unit)×fk.D:=.inl default
def Wh.FJ (xs:fk.D):Option (Bool×Unit):=
 let c9:=xs;b8 (zog AY (c9.1,1,24)) fun r_1=>
 b8 (zog AY (c9.2.1,1,16)) fun r_2=>
 let AK:=bif !r_1.1 then true else !r_2.1;bif kL [!!!r_1.1 || qu (AY (c9.2.1,1,16)),qu (AY (c9.1,1,24))] then
  bif AK then
   some (false,())
  else
   let AL:Int:=(↑(List.length (c9.2.2.1)):Int);ia Ht afG (((0,0,(),c9.2.2.1,AL),c9)) fun q_=>
    sumC q_ (fun y_48=>
     let I_:=y_48.1;some (I_,())) (fun z_49=>
     let alq:=z_49.1.1;let tc:=z_49.2;let Ja:Int:=(↑(List.length (tc.2.2.1)):Int);ia LU afI (((0,alq,tc.2.2.1,Ja),())) fun q_=>
      sumC q_ (fun y_81=>
       let Jd:=y_81.1;some (Jd,())) (fun _=>
       some (true,())))
 else none
def Wh.ID (xs:r5.D):Option (Bool×Unit):=
 let n5:=xs;b8 (zog Ef n5.1) fun r_1=>
 b8 (zog FJ n5.2.1) fun r_2=>
 b8 (zog DZ n5.1) fun ic=>
 let A4:=bif bif bif r_1.1 then r_2.1 else false then n5.2.1.1==ic.1 else false then n5.2.1.2.1==n5.1.2.1 else false;bif kL [(!bif r_1.1 then r_2.1 else false) || qu (DZ n5.1),!r_1.1 || qu (FJ n5.2.1),qu (Ef n5.1)] then
  some (A4,())
 else none
abbrev Wh.adZ:Type:=(Int×List UInt8×Int)×Unit
abbrev Wh.alN:Type:=Bool×Unit⊕List UInt8×Unit
def Wh.JV (x:adZ):Option (adZ⊕alN):=
 let Cy:=x.1.1;let Qc:=x.1.2.1;let AZ:=x.1.2.2;bif decide (Cy<AZ) then
  let pg:Int:=(↑(UInt8.toNat (List.getD Qc (Int.toNat Cy) (0:UInt8))):Int);let AQ:=bif decide (pg<97) then true else decide (pg>122);bif kL [!!decide (pg<97) || decide (0≤Cy),!!decide (pg<97) || decide (Cy<(↑(List.length Qc):Int)),decide (0≤Cy),decide (Cy<(↑(List.length Qc):Int))] then
   bif AQ then
    some (.inr (.inl (false,())))
   else
    some (.inl (((IntKind.wrap .i64 (Cy+1)),Qc,AZ),()))
  else none
 else
  some (.inr (.inr (Qc,())))
def Wh.ad0:Bool×Unit⊕List UInt8×Unit:=.inl default
def Wh.Iu (xs:List UInt8):Option (Bool×Unit):=
 let Bf:=xs;ia JV ad0 (((0,Bf,(↑(List.length Bf):Int)),())) fun q_=>
  sumC q_ (fun y_20=>
   let nT:=y_20.1;some (nT,())) (fun z_21=>
   let apW:=z_21.1;dj AY ((↑(List.length apW):Int),1,6) fun L0=>
    some (L0.1,()))
abbrev Wh.afl:Type:=(Int×Int×List gv.D×Int)×Unit
abbrev Wh.amt:Type:=(List UInt8×Bool)×Unit⊕Unit×Unit
def Wh.LQ (x:afl):Option (afl⊕amt):=
 let pg:=x.1.1;let Sn:=x.1.2.1;let se:=x.1.2.2.1;let AQ:=x.1.2.2.2;bif decide (pg<AQ) then
  let Lk:=List.getD se (Int.toNat pg) ([],[],());bif kL [decide (0≤pg),decide (pg<(↑(List.length se):Int))] then
   let mb:Int:=(↑(List.length Lk.1):Int);let r_:=bif mb==1 then List.getD Lk.1 (Int.toNat 0) 0==Sn else false;bif kL [!mb==1 || decide ((0:Int)≤0),!mb==1 || decide (0<mb)] then
    bif r_ then
     some (.inr (.inl ((Lk.2.1,true),())))
    else
     some (.inl (((IntKind.wrap .i64 (pg+1)),Sn,se,AQ),()))
   else none
  else none
 else
  some (.inr (.inr ((),())))
def Wh.afm:(List UInt8×Bool)×Unit⊕Unit×Unit:=.inl default
def Wh.q22 (xs:fk.D×Int):Option ((List UInt8×Bool)×Unit):=
 let c9:=xs.1;let C8:=xs.2;let v_2:Int:=(↑(List.length (c9.2.2.1)):Int);ia LQ afm (((0,C8,c9.2.2.1,v_2),())) fun q_=>
  sumC q_ (fun KG=>
   let v9:=KG.1.1;let CK:=KG.1.2;some ((v9,CK),())) (fun _=>
   some (([],false),()))
abbrev Wh.afn:Type:=(Int×Unit)×fk.D
abbrev Wh.q2_l0Y:Type:=Int×Unit
def Wh.LR (x:afn):Option (afn⊕q2_l0Y):=
 let n_7:=x.1.1;let JE:=x.2;bif decide (n_7<JE.1) then
  dj q22 (JE,n_7) fun A3=>
   bif(!A3.1.2) then
    some (.inr (n_7,()))
   else
    some (.inl (((IntKind.wrap .i64 (n_7+1)),()),JE))
 else
  some (.inr (n_7,()))
def Wh.afo:Int×Unit:=default
def Wh.q2 (xs:fk.D):Option (Int×Unit):=
 let c9:=xs;ia LR afo (((0,()),c9)) fun y_14=>
  let n_15:=y_14.1;some (n_15,())
def Wh.q4 (xs:r5.D):Option (Bool×Unit):=
 let n5:=xs;dj Wh.q2 n5.2.1 fun r_1=>
  some ((r_1.1==n5.2.1.1),())
def Wh.Gx (xs:bn.D):Option (Bool×Unit):=
 let cx:=xs;b8 (zog IS cx.1) fun r_1=>
 b8 (zog AY (cx.2.1,0,99999)) fun r_2=>
 b8 (zog AY (cx.2.2.2.2.1,0,99999)) fun ic=>
 let n4:=bif bif !r_1.1 then true else !r_2.1 then true else !ic.1;bif kL [(!!bif !r_1.1 then true else !r_2.1) || qu (AY (cx.2.2.2.2.1,0,99999)),!!!r_1.1 || qu (AY (cx.2.1,0,99999)),qu (IS cx.1)] then
  bif n4 then
   some (false,())
  else
   let nP:=decide (cx.2.2.2.2.1>0);b8 (zog J2 (cx.2.2.2.2.2.1)) fun Be=>
   b8 (zog ID (cx.2.2.2.2.2.1)) fun Cf=>
   let AZ:=bif bif !nP then !Be.1 else false then true else bif nP then !Cf.1 else false;bif kL [!(nP && !bif !nP then !Be.1 else false) || qu (ID (cx.2.2.2.2.2.1)),!!nP || qu (J2 (cx.2.2.2.2.2.1))] then
    bif AZ then
     some (false,())
    else
     bif(cx.2.2.1==0) then
      let pg:=cx.2.2.2.1 == [];some (bif pg then !nP else false,())
     else
      let Bt:=cx.2.1==0;b8 (zog Iu (cx.2.2.2.1)) fun IX=>
      let AQ:=bif Bt then true else !IX.1;bif kL [!!Bt || qu (Iu (cx.2.2.2.1))] then
       bif AQ then
        some (false,())
       else
        let s5:=cx.2.2.1==1;bif s5 then
         bif s5 then
          b8 (zog Wh.q4 (cx.2.2.2.2.2.1)) fun Hz=>
          let x3:=bif !nP then true else !Hz.1;bif kL [!!!nP || qu (Wh.q4 (cx.2.2.2.2.2.1))] then
           some (x3,())
          else none
         else
          bif(cx.2.2.1==2) then
           b8 (zog Wh.q4 (cx.2.2.2.2.2.1)) fun GB=>
           let I7:=bif nP then !GB.1 else false;bif kL [!nP || qu (Wh.q4 (cx.2.2.2.2.2.1))] then
            some (I7,())
           else none
          else
           bif(cx.2.2.1==3) then
            b8 (zog Wh.q4 (cx.2.2.2.2.2.1)) fun FP=>
            let CK:=bif nP then FP.1 else false;bif kL [!nP || qu (Wh.q4 (cx.2.2.2.2.2.1))] then
             some (CK,())
            else none
           else
            some (false,())
        else
         bif(cx.2.2.1==4) then
          b8 (zog Wh.q4 (cx.2.2.2.2.2.1)) fun Fb=>
          let Cg:=bif !nP then true else !Fb.1;bif kL [!!!nP || qu (Wh.q4 (cx.2.2.2.2.2.1))] then
           some (Cg,())
          else none
         else
          bif(cx.2.2.1==2) then
           b8 (zog Wh.q4 (cx.2.2.2.2.2.1)) fun DL=>
           let EM:=bif nP then !DL.1 else false;bif kL [!nP || qu (Wh.q4 (cx.2.2.2.2.2.1))] then
            some (EM,())
           else none
          else
           bif(cx.2.2.1==3) then
            b8 (zog Wh.q4 (cx.2.2.2.2.2.1)) fun I1=>
            let L_:=bif nP then I1.1 else false;bif kL [!nP || qu (Wh.q4 (cx.2.2.2.2.2.1))] then
             some (L_,())
            else none
           else
            some (false,())
      else none
   else none
 else none
def Wh.q0 (xs:bn.D):Option (List eL.D×Unit):=
 let cx:=xs;let EZ:List (eL.D):=[(1,cx.1,cx.2.1,cx.2.2.2.2.1,0,cx.2.2.2.1,[],())];some (EZ,())
def Wh.q20 (xs:bn.D):Option (List eL.D×Unit):=
 let cx:=xs;b8 (zog Gx cx) fun r_1=>
 let v_2:=bif !r_1.1 then true else bif cx.2.2.1 != 1 then cx.2.2.1 != 2 else false;bif kL [qu (Gx cx)] then
  bif v_2 then
   some ([],())
  else
   dj Wh.q0 cx fun r_3=>
    some (r_3.1,())
 else none
abbrev Wh.ad3:Type:=(Int×List eL.D×List eL.D)×Unit
abbrev Wh.alP:Type:=Bool×Unit⊕Unit×Unit
def Wh.Na (x:ad3):Option (ad3⊕alP):=
 let CC:=x.1.1;let a_18:=x.1.2.1;let b_19:=x.1.2.2;let mb:Int:=(↑(List.length a_18):Int);bif decide (CC<mb) then
  let nT:=List.getD a_18 (Int.toNat CC) (0,0,0,0,0,[],[],());let r_:=List.getD b_19 (Int.toNat CC) (0,0,0,0,0,[],[],());b8 (zog Eg nT) fun IY=>
  let Dx:=bif !(nT.1==r_.1&&(nT.2.1==r_.2.1&&(nT.2.2.1==r_.2.2.1&&(nT.2.2.2.1==r_.2.2.2.1&&(nT.2.2.2.2.1==r_.2.2.2.2.1&&(nT.2.2.2.2.2.1==r_.2.2.2.2.2.1&&(nT.2.2.2.2.2.2.1==r_.2.2.2.2.2.2.1&&true))))))) then true else !IY.1;bif kL [!!!(nT.1==r_.1&&(nT.2.1==r_.2.1&&(nT.2.2.1==r_.2.2.1&&(nT.2.2.2.1==r_.2.2.2.1&&(nT.2.2.2.2.1==r_.2.2.2.2.1&&(nT.2.2.2.2.2.1==r_.2.2.2.2.2.1&&(nT.2.2.2.2.2.2.1==r_.2.2.2.2.2.2.1&&true))))))) || qu (Eg nT),!!!(nT.1==r_.1&&(nT.2.1==r_.2.1&&(nT.2.2.1==r_.2.2.1&&(nT.2.2.2.1==r_.2.2.2.1&&(nT.2.2.2.2.1==r_.2.2.2.2.1&&(nT.2.2.2.2.2.1==r_.2.2.2.2.2.1&&(nT.2.2.2.2.2.2.1==r_.2.2.2.2.2.2.1&&true))))))) || decide (0≤CC),!!!(nT.1==r_.1&&(nT.2.1==r_.2.1&&(nT.2.2.1==r_.2.2.1&&(nT.2.2.2.1==r_.2.2.2.1&&(nT.2.2.2.2.1==r_.2.2.2.2.1&&(nT.2.2.2.2.2.1==r_.2.2.2.2.2.1&&(nT.2.2.2.2.2.2.1==r_.2.2.2.2.2.2.1&&true))))))) || decide (CC<mb),decide (0≤CC),decide (CC<(↑(List.length b_19):Int)),decide (0≤CC),decide (CC<mb)] then
   bif Dx then
    some (.inr (.inl (false,())))
   else
    some (.inl (((IntKind.wrap .i64 (CC+1)),a_18,b_19),()))
  else none
 else
  some (.inr (.inr ((),())))
def Wh.ad4:Bool×Unit⊕Unit×Unit:=.inl default
def Wh.Gq (xs:List eL.D×List eL.D):Option (Bool×Unit):=
 let El:=xs.1;let b_1:=xs.2;let v_2:Int:=(↑(List.length El):Int);let AK:Int:=(↑(List.length b_1):Int);let AL:=v_2 != AK;bif AL then
  some (false,())
 else
  ia Na ad4 (((0,El,b_1),())) fun q_=>
   sumC q_ (fun NN=>
    let GH:=NN.1;some (GH,())) (fun _=>
    some (true,()))
def Wh.q5 (xs:List Int):Option (Bool×Unit):=
 let GQ:=xs;bif decide ((↑(List.length GQ):Int)>1048576) then
  some (true,())
 else
  dj Wh.q1 GQ fun r_2=>
   dj q20 r_2.1 fun r_3=>
    b8 (zog FH r_2.1) fun e_=>
    b8 (zog Gx r_2.1) fun xd=>
    b8 (zog DK r_2.1) fun A3=>
    b8 (zog Gq (r_3.1,e_.1)) fun BZ=>
    let Bt:=bif bif !BZ.1 then true else !xd.1==A3.1 then true else !A3.1;bif kL [(!!bif !BZ.1 then true else !xd.1==A3.1) || qu (DK r_2.1),!!!BZ.1 || qu (DK r_2.1),!!!BZ.1 || qu (Gx r_2.1),qu (Gq (r_3.1,e_.1)),qu (FH r_2.1)] then
     bif Bt then
      bif kL [qu (Gq (r_3.1,e_.1)),qu (FH r_2.1)] then
       some (BZ.1,())
      else none
     else
      let s5:=r_2.1.2.2.1==1;let Dy:=bif s5 then true else r_2.1.2.2.1==2;let x3:Int:=(↑(List.length r_3.1):Int);let vN:=bif Dy==(x3==1) then bif !Dy then true else bif bif bif(List.getD r_3.1 (Int.toNat 0) (0,0,0,0,0,[],[],())).1==1 then((((((List.getD r_3.1 (Int.toNat 0) (0,0,0,0,0,[],[],())).2).2).2).2).2).1==r_2.1.2.2.2.1 else false then((((List.getD r_3.1 (Int.toNat 0) (0,0,0,0,0,[],[],())).2).2).2).1==r_2.1.2.2.2.2.1 else false then(((List.getD r_3.1 (Int.toNat 0) (0,0,0,0,0,[],[],())).2).2).1==r_2.1.2.1 else false else false;bif kL [!((bif bif(List.getD r_3.1 (Int.toNat 0) (0,0,0,0,0,[],[],())).1==1 then((((((List.getD r_3.1 (Int.toNat 0) (0,0,0,0,0,[],[],())).2).2).2).2).2).1==r_2.1.2.2.2.1 else false then((((List.getD r_3.1 (Int.toNat 0) (0,0,0,0,0,[],[],())).2).2).2).1==r_2.1.2.2.2.2.1 else false)&&(!!Dy&&Dy==(x3==1))) || decide ((0:Int)≤0),!((bif bif(List.getD r_3.1 (Int.toNat 0) (0,0,0,0,0,[],[],())).1==1 then((((((List.getD r_3.1 (Int.toNat 0) (0,0,0,0,0,[],[],())).2).2).2).2).2).1==r_2.1.2.2.2.1 else false then((((List.getD r_3.1 (Int.toNat 0) (0,0,0,0,0,[],[],())).2).2).2).1==r_2.1.2.2.2.2.1 else false)&&(!!Dy&&Dy==(x3==1))) || decide (0<x3),!((bif(List.getD r_3.1 (Int.toNat 0) (0,0,0,0,0,[],[],())).1==1 then((((((List.getD r_3.1 (Int.toNat 0) (0,0,0,0,0,[],[],())).2).2).2).2).2).1==r_2.1.2.2.2.1 else false)&&(!!Dy&&Dy==(x3==1))) || decide ((0:Int)≤0),!((bif(List.getD r_3.1 (Int.toNat 0) (0,0,0,0,0,[],[],())).1==1 then((((((List.getD r_3.1 (Int.toNat 0) (0,0,0,0,0,[],[],())).2).2).2).2).2).1==r_2.1.2.2.2.1 else false)&&(!!Dy&&Dy==(x3==1))) || decide (0<x3),!((List.getD r_3.1 (Int.toNat 0) (0,0,0,0,0,[],[],())).1==1&&(!!Dy&&Dy==(x3==1))) || decide ((0:Int)≤0),!((List.getD r_3.1 (Int.toNat 0) (0,0,0,0,0,[],[],())).1==1&&(!!Dy&&Dy==(x3==1))) || decide (0<x3),!(!!Dy&&Dy==(x3==1)) || decide ((0:Int)≤0),!(!!Dy&&Dy==(x3==1)) || decide (0<x3)] then
       some (vN,())
      else none
    else none
def Wh.q121 (xs:Int×Int):Option (Int×Unit):=
 let x_0:=xs.1;let by_1:=xs.2;let v_2:Int:=Int.fdiv x_0 (2 ^ Min.min (Int.toNat by_1) (Go.IntKind.bits Go.IntKind.u32));let AK:=IntKind.wrap .i64 (32-by_1);let n4:Int:=pZ Go.BinOp.or Go.IntKind.u32 v_2 (IntKind.wrap .u32 (x_0*2 ^ Min.min (Int.toNat AK) (Go.IntKind.bits Go.IntKind.u32)));bif kL [decide (0≤AK),decide (0≤by_1)] then
  some (n4,())
 else none
abbrev Wh.agc:Type:=(Unit×Unit)×(Int×Int×Unit×Unit×Unit)×(Int×Int×Unit×Unit×Unit)×List Int×List Int×List Int×List Int
abbrev Wh.amT:Type:=(Unit×Unit)×(Int×Int×Unit×Unit×Unit)×(Int×Int×Unit×Unit×Unit)×List Int×List Int×List Int×List Int
def Wh.Yl (x:agc):Option (agc⊕amT):=
 let wh:=x.2.1.1;let Ey:=x.2.1.2.1;let s9:=x.2.1.2.2.2.2;let AE:=x.2.2.1.1;let BA:=x.2.2.1.2.1;let DH:=x.2.2.1.2.2.2.2;let CD:=x.2.2.2.1;let Ay:=x.2.2.2.2.1;let Cb:=x.2.2.2.2.2.1;let Bi:=x.2.2.2.2.2.2;dj DZ (wh,Ey,CD,Ay,s9) fun Dc=>
  bif decide (Dc.1>24) then
   some (.inl (((),()),(wh,(IntKind.wrap .i64 (Ey+1)),(),(),s9),(AE,BA,(),(),DH),CD,Ay,Cb,Bi))
  else
   some (.inr (((),()),(AE,BA,(),(),DH),(wh,Ey,(),(),s9),Cb,Bi,CD,Ay))
def Wh.amU:(Unit×Unit)×(Int×Int×Unit×Unit×Unit)×(Int×Int×Unit×Unit×Unit)×List Int×List Int×List Int×List Int:=default
def Wh.q81 (xs:Int):Option ((Int×Int×List Int×List Int×Unit)×Unit):=
 let S9:=xs;dj AY (S9,1,300) fun r_1=>
  bif !r_1.1 then
   some ((0,0,[],[],()),())
  else
   ia Yl amU ((((),()),(S9,8,(),(),()),(0,0,(),(),()),[],[],[],[])) fun C4=>
    let Ba:=C4.2.2.1.1;let w7:=C4.2.2.1.2.1;let ng:=C4.2.2.1.2.2.2.2;let nE:=C4.2.2.2.2.2.1;let AR:=C4.2.2.2.2.2.2;dj DZ (Ba,w7,nE,AR,ng) fun T3=>
     let k_43:=IntKind.wrap .i64 (Int.tdiv (IntKind.wrap .i64 (T3.1+3)) 4);bif decide (k_43<T3.1) then
      let Yb:List Int:=[k_43,T3.1];some ((Ba,w7,Yb,[(2:Int),3],ng),())
     else
      let Yc:List Int:=[T3.1];some ((Ba,w7,Yc,[(1:Int)],ng),())
end
