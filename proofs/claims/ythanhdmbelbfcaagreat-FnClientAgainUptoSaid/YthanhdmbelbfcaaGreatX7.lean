import Derived.Test.YthanhdmbelbfcaaGreatX6
set_option linter.defProp false
namespace Wh
end Wh
open Wh
open Go Go.Ab
noncomputable section
abbrev Wh.aa9:Type:=(Int×Unit×Unit×Int×Int)×List Int×List Int
abbrev Wh.aib:Type:=Unit×List Int
def Wh.KW (x:aa9):Option (aa9⊕aib):=
 let Dl:=x.1.1;let s_48:=x.1.2.2.2.1;let d_49:=x.1.2.2.2.2;let nS:=x.2.1;let w8:=x.2.2;bif decide (Dl<d_49) then
  c9 E3 s_48 fun B5=>
   c9 EG (B5.1,(↑(List.length nS):Int)) fun Gr=>
    bn (zog Jq (w8,List.getD nS (Int.toNat Gr.1) 0)) fun FB=>
    let FF:=List.getD nS (Int.toNat Gr.1) 0;bif kL [qu (Jq (w8,FF)),decide (0≤Gr.1),decide (Gr.1<(↑(List.length nS):Int))] then
     let pb_57:List Int:=[]++List.take (Int.toNat (Gr.1-0)) (List.drop (Int.toNat 0) nS);let QB:List Int:=pb_57++List.take (Int.toNat ((↑(List.length nS):Int)-IntKind.wrap .i64 (Gr.1+1))) (List.drop (Int.toNat (IntKind.wrap .i64 (Gr.1+1))) nS);let O9:Nat:=Int.toNat (Gr.1-0);let M7:=IntKind.wrap .i64 (Gr.1+1);bif kL [decide (List.length pb_57+List.length (List.take (Int.toNat ((↑(List.length nS):Int)-M7)) (List.drop (Int.toNat M7) nS))≤eV),decide (0≤M7),decide (M7≤(↑(List.length nS):Int)),decide ((↑(List.length nS):Int)≤(↑(List.length nS):Int)),decide ((0:Nat)+List.length (List.take O9 (List.drop (Int.toNat 0) nS))≤eV),true,decide (0≤Gr.1),decide (Gr.1≤(↑(List.length nS):Int))] then
      some (.inl (((IntKind.wrap .i64 (Dl+1)),(),(),B5.1,d_49),QB,FB.1))
     else none
    else none
 else
  some (.inr ((),w8))
def Wh.aa_:Unit×List Int:=default
abbrev Wh.aa7:Type:=(Int×Unit×Int×Int×Int)×List Int
abbrev Wh.aia:Type:=(Unit×Int×Int)×List Int
def Wh.Mu (x:aa7):Option (aa7⊕aia):=
 let CG:=x.1.1;let MT:=x.1.2.2.1;let d_19:=x.1.2.2.2.1;let W7:=x.1.2.2.2.2;let CJ:=x.2;bif decide (CG<W7) then
  let TH:List Int:=[CG];let Bc:=CJ++TH;bif kL [decide (List.length CJ+(1:Nat)≤eV)] then
   some (.inl (((IntKind.wrap .i64 (CG+1)),(),MT,d_19,W7),Bc))
  else none
 else
  some (.inr (((),MT,d_19),CJ))
def Wh.aa8:(Unit×Int×Int)×List Int:=default
def Wh.KV (xs:Int×Int):Option (List Int×Unit):=
 let Ff:=xs.1;let Rk:=xs.2;bn (zog E3 Rk) fun r_2=>
 bn (zog E3 r_2.1) fun dz=>
 bif kL [qu (E3 r_2.1),qu (E3 Rk)] then
  bn (zog EG (dz.1,65536)) fun gT=>
  bn (zog q87 (Ff,gT.1)) fun AG=>
  bif kL [qu (q87 (Ff,gT.1)),qu (EG (dz.1,65536))] then
   g8 Mu aa8 (((0,(),dz.1,AG.1,Ff),[])) fun Fa=>
    let s_28:=Fa.1.2.1;let d_29:=Fa.1.2.2;let Bp:=Fa.2;g8 KW aa_ (((0,(),(),s_28,d_29),Bp,[])) fun FI=>
     let BQ:=FI.2;some (BQ,())
  else none
 else none
def Wh.Fx (xs:gv.D×Int):Option (List Int×Unit):=
 let fy:=xs.1;let FO:=xs.2;c9 Bn fy fun r_2=>
  bif decide (FO<r_2.1) then
   let Kl:List Int:=[FO];some (Kl,())
  else
   bn (zog Hh (fy,FO)) fun gT=>
   bn (zog KV (gT.1,FO)) fun ov=>
   bif kL [qu (KV (gT.1,FO)),qu (Hh (fy,FO))] then
    some (ov.1,())
   else none
abbrev Wh.aaZ:Type:=(Int×List Int×Unit×Int×List Int)×List Int
abbrev Wh.ah7:Type:=Unit×List Int
def Wh.Gc (x:aaZ):Option (aaZ⊕ah7):=
 let Bf:=x.1.1;let II:=x.1.2.1;let Et:=x.1.2.2.2.1;let FL:=x.1.2.2.2.2;let Cn:=x.2;let B7:=decide (Bf<(↑(List.length II):Int));let Gv:=bif B7 then true else decide (Et<(↑(List.length FL):Int));bif Gv then
  let Gw:=decide (Et≥(↑(List.length FL):Int));let FD:=bif Gw then true else bif B7 then decide (List.getD II (Int.toNat Bf) 0<List.getD FL (Int.toNat Et) 0) else false;bif kL [!(B7 && !Gw) || decide (0≤Et),!(B7 && !Gw) || decide (Et<(↑(List.length FL):Int)),!(B7 && !Gw) || decide (0≤Bf),!(B7 && !Gw) || B7] then
   bif FD then
    let On:List Int:=[List.getD II (Int.toNat Bf) 0];let AR:=Cn++On;bif kL [decide (List.length Cn+(1:Nat)≤eV),decide (0≤Bf),B7] then
     some (.inl (((IntKind.wrap .i64 (Bf+1)),II,(),Et,FL),AR))
    else none
   else
    let EM:=decide (Bf≥(↑(List.length II):Int));let Ll:=bif EM then true else decide (List.getD FL (Int.toNat Et) 0<List.getD II (Int.toNat Bf) 0);bif kL [!!EM || decide (0≤Bf),!!EM || B7,!!EM || decide (0≤Et),!!EM || decide (Et<(↑(List.length FL):Int))] then
     bif Ll then
      let pb_42:List Int:=[List.getD FL (Int.toNat Et) 0];let nI:=Cn++pb_42;bif kL [decide (List.length Cn+(1:Nat)≤eV),decide (0≤Et),decide (Et<(↑(List.length FL):Int))] then
       some (.inl ((Bf,II,(),(IntKind.wrap .i64 (Et+1)),FL),nI))
      else none
     else
      some (.inl (((IntKind.wrap .i64 (Bf+1)),II,(),(IntKind.wrap .i64 (Et+1)),FL),Cn))
    else none
  else none
 else
  some (.inr ((),Cn))
def Wh.aa0:Unit×List Int:=default
def Wh.Im (xs:List Int×List Int):Option (List Int×Unit):=
 let se:=xs.1;let b_1:=xs.2;g8 Gc aa0 (((0,se,(),0,b_1),[])) fun Ng=>
  let nS:=Ng.2;some (nS,())
abbrev Wh.ZW:Type:=(Int×List UInt8×List UInt8×Unit)×List Int
abbrev Wh.ahB:Type:=Unit×List Int
def Wh.Me (x:ZW):Option (ZW⊕ahB):=
 let CF:=x.1.1;let b_13:=x.1.2.1;let a_14:=x.1.2.2.1;let w7:=x.2;let n5:=decide (CF<(↑(List.length a_14):Int));bif n5 then
  let TF:List Int:=[pZ Go.BinOp.xor Go.IntKind.u8 (↑(UInt8.toNat (List.getD a_14 (Int.toNat CF) (0:UInt8))):Int) (↑(UInt8.toNat (List.getD b_13 (Int.toNat CF) (0:UInt8))):Int)];let AI:=w7++TF;bif kL [decide (List.length w7+(1:Nat)≤eV),decide (0≤CF),decide (CF<(↑(List.length b_13):Int)),decide (0≤CF),n5] then
   some (.inl (((IntKind.wrap .i64 (CF+1)),b_13,a_14,()),AI))
  else none
 else
  some (.inr ((),w7))
def Wh.ZX:Unit×List Int:=default
def Wh.F4 (xs:List UInt8×List UInt8):Option (List UInt8×Unit):=
 let se:=xs.1;let b_1:=xs.2;g8 Me ZX (((0,b_1,se,()),[])) fun Ht=>
  let Bc:=Ht.2;some (tv Bc,())
abbrev Wh.aan:Type:=(Int×Unit×Unit×Unit)×e_.D×ei.D×(Unit×List UInt8×Unit)×List Int
abbrev Wh.ahO:Type:=(Unit×Unit)×(Unit×List UInt8×Unit)×e_.D×List Int
def Wh.KK (x:aan):Option (aan⊕ahO):=
 let Db:=x.1.1;let we:=x.2.1;let BG:=x.2.2.1;let Bc:=x.2.2.2.1.2;let AY:=x.2.2.2.2;let w9:Int:=(↑(List.length (BG.2.2.1)):Int);bif decide (Db<w9) then
  let v9:=List.getD (BG.2.2.1) (Int.toNat Db) ([],[],());bn (zog EH (we.1,List.getD v9.1 (Int.toNat 0) 0)) fun E7=>
  bif kL [qu (EH (we.1,List.getD v9.1 (Int.toNat 0) 0)),true,decide (0<(↑(List.length v9.1):Int)),decide (0≤Db),decide (Db<w9)] then
   bif E7.1 then
    bn (zog F4 (we.2.1,v9.2.1)) fun C0=>
    bn (zog Im (we.1,v9.1)) fun Lc=>
    bif kL [qu (F4 (we.2.1,v9.2.1)),decide (0≤Db),decide (Db<w9),qu (Im (we.1,v9.1)),decide (0≤Db),decide (Db<w9)] then
     some (.inl (((IntKind.wrap .i64 (Db+1)),(),(),()),(Lc.1,C0.1,()),BG,((),Bc),AY))
    else none
   else
    some (.inl (((IntKind.wrap .i64 (Db+1)),(),(),()),we,BG,((),Bc),AY))
  else none
 else
  some (.inr (((),()),((),Bc),we,AY))
def Wh.aao:(Unit×Unit)×(Unit×List UInt8×Unit)×e_.D×List Int:=default
def Wh.KJ (xs:ei.D×e_.D):Option (e_.D×Unit):=
 let cx:=xs.1;let e_1:=xs.2;g8 KK aao (((0,(),(),()),e_1,cx,((),[],()),[])) fun y_41=>
  let nI:=y_41.2.2.1;some (nI,())
abbrev Wh.aaj:Type:=(Int×List UInt8×List UInt8)×Unit
abbrev Wh.ahM:Type:=List UInt8×Unit
def Wh.Mj (x:aaj):Option (aaj⊕ahM):=
 let Qp:=x.1.1;let DX:=x.1.2.1;let Qu:=x.1.2.2;bif decide (Qp>0) then
  let v5:Bool:=(Int.tmod Qp 2)==1;bif v5 then
   let s9:List UInt8:=Qu++DX;bif kL [decide (List.length Qu+List.length DX≤eV)] then
    let iL:List UInt8:=DX++DX;bif kL [decide (List.length DX+List.length DX≤eV)] then
     some (.inl (((IntKind.wrap .i64 (Int.tdiv Qp 2)),iL,s9),()))
    else none
   else none
  else
   let nW:List UInt8:=DX++DX;bif kL [decide (List.length DX+List.length DX≤eV)] then
    some (.inl (((IntKind.wrap .i64 (Int.tdiv Qp 2)),nW,Qu),()))
   else none
 else
  some (.inr (Qu,()))
def Wh.aak:List UInt8×Unit:=default
def Wh.KI (xs:List UInt8×Int):Option (List UInt8×Unit):=
 let cx:=xs.1;let n_1:=xs.2;g8 Mj aak (((n_1,cx,[]),())) fun RO=>
  let out_26:=RO.1;some (out_26,())
def Wh.Jp (xs:Int):Option (List UInt8×Unit):=
 let size_0:=xs;c9 KI (tv [(0:Int)],size_0) fun r_1=>
  some (r_1.1,())
abbrev Wh.aa1:Type:=(Int×Unit×Unit×Bool×Unit×Unit)×(Int×Int×Unit×Unit)×e_.D×(Int×Int×Unit×Unit)×(Int×Int×Unit×Unit)×List e_.D×List e_.D×List e_.D
abbrev Wh.ah8:Type:=(Unit×Unit×Unit×Bool)×(Int×Int×Unit×Unit)×(Int×Int×Unit×Unit)×e_.D×List e_.D×List e_.D
def Wh.Gd (x:aa1):Option (aa1⊕ah8):=
 let IV:=x.1.1;let ER:=x.1.2.2.2.1;let AB:=x.2.1.1;let A2:=x.2.1.2.1;let AK:=x.2.1.2.2.2;let oc:=x.2.2.1;let AF:=x.2.2.2.1.1;let Co:=x.2.2.2.1.2.1;let Ce:=x.2.2.2.1.2.2.2;let Bh:=x.2.2.2.2.1.1;let BP:=x.2.2.2.2.1.2.1;let Cf:=x.2.2.2.2.1.2.2.2;let Bi:=x.2.2.2.2.2.1;let A3:=x.2.2.2.2.2.2.1;let BQ:=x.2.2.2.2.2.2.2;let RH:Int:=(↑(List.length A3):Int);bif decide (IV<RH) then
  let GZ:=List.getD A3 (Int.toNat IV) ([],[],());bif kL [decide (0≤IV),decide (IV<RH)] then
   let E8:=List.getD oc.1 (Int.toNat 0) 0;bn (zog EH (GZ.1,E8)) fun r_70=>
   bif kL [qu (EH (GZ.1,E8)),true,decide (0<(↑(List.length oc.1):Int))] then
    bif r_70.1 then
     bn (zog F4 (GZ.2.1,oc.2.1)) fun r_71=>
     bn (zog Im (GZ.1,oc.1)) fun JG=>
     bif kL [qu (F4 (GZ.2.1,oc.2.1)),qu (Im (GZ.1,oc.1))] then
      let RI:=bif !ER then decide (List.getD JG.1 (Int.toNat 0) 0>E8) else false;bif kL [!!ER || decide ((0:Int)≤0),!!ER || decide (0<(↑(List.length oc.1):Int)),!!ER || decide ((0:Int)≤0),!!ER || decide (0<(↑(List.length JG.1):Int))] then
       bif RI then
        let L5:List (e_.D):=[oc];let Cw:=Bi++L5;bif kL [decide (List.length Bi+(1:Nat)≤eV)] then
         let pb_76:List (e_.D):=[(JG.1,r_71.1,())];let Bw:=Cw++pb_76;bif kL [decide (List.length Cw+(1:Nat)≤eV)] then
          some (.inl (((IntKind.wrap .i64 (IV+1)),(),(),true,(),()),(AB,A2,(),AK),oc,(AF,Co,(),Ce),(Bh,BP,(),Cf),Bw,A3,BQ))
         else none
        else none
       else
        let QE:List (e_.D):=[(JG.1,r_71.1,())];let D9:=Bi++QE;bif kL [decide (List.length Bi+(1:Nat)≤eV)] then
         some (.inl (((IntKind.wrap .i64 (IV+1)),(),(),ER,(),()),(AB,A2,(),AK),oc,(AF,Co,(),Ce),(Bh,BP,(),Cf),D9,A3,BQ))
        else none
      else none
     else none
    else
     let M8:=bif !ER then decide (List.getD GZ.1 (Int.toNat 0) 0>E8) else false;bif kL [!!ER || decide ((0:Int)≤0),!!ER || decide (0<(↑(List.length oc.1):Int)),!!ER || decide ((0:Int)≤0),!!ER || decide (0<(↑(List.length GZ.1):Int))] then
      bif M8 then
       let pb_83:List (e_.D):=[oc];let CZ:=Bi++pb_83;bif kL [decide (List.length Bi+(1:Nat)≤eV)] then
        let pb_85:List (e_.D):=[GZ];let Kc:=CZ++pb_85;bif kL [decide (List.length CZ+(1:Nat)≤eV)] then
         some (.inl (((IntKind.wrap .i64 (IV+1)),(),(),true,(),()),(AB,A2,(),AK),oc,(AF,Co,(),Ce),(Bh,BP,(),Cf),Kc,A3,BQ))
        else none
       else none
      else
       let pb_88:List (e_.D):=[GZ];let Kd:=Bi++pb_88;bif kL [decide (List.length Bi+(1:Nat)≤eV)] then
        some (.inl (((IntKind.wrap .i64 (IV+1)),(),(),ER,(),()),(AB,A2,(),AK),oc,(AF,Co,(),Ce),(Bh,BP,(),Cf),Kd,A3,BQ))
       else none
     else none
   else none
  else none
 else
  some (.inr (((),(),(),ER),(Bh,BP,(),Cf),(AB,A2,(),AK),oc,BQ,Bi))
def Wh.aa2:(Unit×Unit×Unit×Bool)×(Int×Int×Unit×Unit)×(Int×Int×Unit×Unit)×e_.D×List e_.D×List e_.D:=default
def Wh.He (xs:ei.D×List Int×List UInt8):Option (((Int×Int×List e_.D×Unit)×Int)×Unit):=
 let cx:=xs.1;let Ri:=xs.2.1;let data_2:=xs.2.2;let Du:List Int:=[]++Ri;bn (zog KJ (cx,Du,data_2,())) fun dz=>
 bif kL [qu (KJ (cx,Du,data_2,())),decide ((0:Nat)+List.length Ri≤eV)] then
  c9 Jo cx fun ov=>
   let n_:Int:=(↑(List.length dz.1.1):Int);let FG:=n_==0;bif FG then
    c9 Jp cx.2.1 fun z4=>
     bif(dz.1.2.1==z4.1) then
      some ((ov.1,1),())
     else
      some ((ov.1,2),())
   else
    g8 Gd aa2 (((0,(),(),false,(),()),(cx.1,cx.2.1,(),()),dz.1,(ov.1.1,ov.1.2.1,(),ov.1.2.2.2),(0,0,(),()),[],ov.1.2.2.1,[])) fun Ni=>
     let aec:=Ni.1.2.2.2;let Ke:=Ni.2.2.1.1;let Fo:=Ni.2.2.1.2.1;let HV:=Ni.2.2.1.2.2.2;let LR:=Ni.2.2.2.1;let Dm:=Ni.2.2.2.2.2;bif !aec then
      let pb_103:List (e_.D):=[LR];let AE:=Dm++pb_103;bif kL [decide (List.length Dm+(1:Nat)≤eV)] then
       some (((Ke,Fo,AE,HV),0),())
      else none
     else
      some (((Ke,Fo,Dm,HV),0),())
 else none
def Wh.Mh (xs:nT.D×Int×List UInt8):Option ((((Int×Int×List Int×List Int×Unit)×(Int×Int×List e_.D×Unit)×Unit)×Int)×Unit):=
 let nc:=xs.1;let FO:=xs.2.1;let data_2:=xs.2.2;c9 F_ nc fun r_3=>
  bif !r_3.1 then
   some ((((0,0,[],[],()),(0,0,[],()),()),3),())
  else
   c9 KL nc fun dz=>
    bn (zog gh (FO,0,9999)) fun gT=>
    let n4:=bif !gT.1 then true else(↑(List.length data_2):Int) != nc.1.2.1;bif kL [qu (gh (FO,0,9999))] then
     bif n4 then
      some ((dz.1,3),())
     else
      bn (zog Fx (nc.1,FO)) fun AG=>
      bn (zog He (nc.2.1,AG.1,data_2)) fun AU=>
      bif kL [qu (He (nc.2.1,AG.1,data_2)),qu (Fx (nc.1,FO))] then
       some (((dz.1.1,(AU.1.1.1,AU.1.1.2.1,AU.1.1.2.2.1,AU.1.1.2.2.2),dz.1.2.2),AU.1.2),())
      else none
    else none
def Wh.Ky (xs:bm.D):Option (List eL.D×Unit):=
 let b8:=xs;bif(b8.2.2.2.2.1==0) then
  some ([],())
 else
  let BI:List (eL.D):=[(5,b8.1,b8.2.1,b8.2.2.2.2.1,0,[],[],())];some (BI,())
def Wh.q52 (xs:bm.D×eL.D):Option ((bm.D×List eL.D)×Unit):=
 let b8:=xs.1;let w_1:=xs.2;bif(b8.2.2.1==1) then
  some ((b8,[]),())
 else
  let AP:=bif(b8.2.2.2.2.1 != w_1.2.2.2.1) then true else b8.2.2.1 != 2;bif AP then
   c9 Kz w_1 fun gT=>
    some ((b8,gT.1),())
  else
   c9 q58 (b8.2.2.2.2.2.1) fun ov=>
    c9 Mh (b8.2.2.2.2.2.1,w_1.2.2.2.2.1,w_1.2.2.2.2.2.2.1) fun AG=>
     bif(AG.1.2 != 0) then
      some ((b8,[]),())
     else
      c9 E6 AG.1.1 fun z4=>
       bif z4.1 then
        c9 Ky (b8.1,b8.2.1,3,b8.2.2.2.1,b8.2.2.2.2.1,AG.1.1,b8.2.2.2.2.2.2) fun By=>
         some (((b8.1,b8.2.1,3,b8.2.2.2.1,b8.2.2.2.2.1,AG.1.1,b8.2.2.2.2.2.2),By.1),())
       else
        c9 q58 AG.1.1 fun BU=>
         bif decide (BU.1>ov.1) then
          let TD:List (eL.D):=[(4,b8.1,b8.2.1,b8.2.2.2.2.1,BU.1,[],[],())];bif kL [qu (q58 AG.1.1)] then
           some (((b8.1,b8.2.1,b8.2.2.1,b8.2.2.2.1,b8.2.2.2.2.1,AG.1.1,b8.2.2.2.2.2.2),TD),())
          else none
         else
          some (((b8.1,b8.2.1,b8.2.2.1,b8.2.2.2.1,b8.2.2.2.2.1,AG.1.1,b8.2.2.2.2.2.2),[]),())
def Wh.q26 (xs:bm.D×eL.D):Option ((bm.D×List eL.D)×Unit):=
 let b8:=xs.1;let w_1:=xs.2;c9 Eh b8 fun r_2=>
  bif !r_2.1 then
   some (((0,0,0,[],0,((0,0,[],[],()),(0,0,[],()),()),()),[]),())
  else
   c9 F3 b8 fun r_3=>
    bn (zog EE w_1) fun dz=>
    let n_:=bif bif !dz.1 then true else w_1.2.1 != b8.1 then true else decide (w_1.2.2.1>b8.2.1);bif kL [qu (EE w_1)] then
     bif n_ then
      some ((r_3.1,[]),())
     else
      let A9:=bif decide (w_1.2.2.1<b8.2.1) then true else b8.2.2.1==0;bif A9 then
       bif(w_1.1==3) then
        c9 Kz w_1 fun BU=>
         some ((r_3.1,BU.1),())
       else
        some ((r_3.1,[]),())
      else
       bif(w_1.1==2) then
        c9 q51 (r_3.1,w_1) fun Dw=>
         some ((Dw.1,[]),())
       else
        bif(w_1.1==3) then
         c9 q52 (r_3.1,w_1) fun Ei=>
          some (Ei.1,())
        else
         bif(w_1.1==6) then
          let iL:=bif bif(b8.2.2.1==1) then true else b8.2.2.1==2 then w_1.2.2.2.1==b8.2.2.2.2.1 else false;bif iL then
           some (((r_3.1.1,r_3.1.2.1,4,r_3.1.2.2.2),[]),())
          else
           some ((r_3.1,[]),())
         else
          some ((r_3.1,[]),())
    else none
def Wh.q12 (x:(Unit×Unit×Unit×Unit)×((Bool×Int×List UInt8×(Int×Unit×Unit)×(Unit×Int×Unit)×Unit×Unit×Unit)×Unit×Unit×Unit×Unit)×(b7.D×Unit×Unit×Unit×Unit)×cp.D×di.D×List an.D×List b9.D×List cw.D×List cg.D×List bm.D×List cp.D×List an.D×List bm.D×List cp.D×List an.D):Option ((Unit×Unit×Unit)×((Bool×Int×List UInt8×(Int×Unit×Unit)×(Unit×Int×Unit)×Unit×Unit×Unit)×Unit×Unit×Unit×Unit)×(b7.D×Unit×Unit×Unit×Unit)×cp.D×List an.D×List b9.D×List cw.D×List cg.D×List bm.D×List cp.D×List an.D×List bm.D×List cp.D×List an.D):=
 let AJ:=x.2.1.1.1;let Bg:=x.2.1.1.2.1;let wv:=x.2.1.1.2.2.1;let ng:=x.2.1.1.2.2.2.1.1;let AR:=x.2.1.1.2.2.2.1.2.2;let Br:=x.2.1.1.2.2.2.2.1.2;let nG:=x.2.1.1.2.2.2.2.2.2.2;let AZ:=x.2.1.2.2.2.2;let A0:=x.2.2.1.1;let Az:=x.2.2.1.2.2.2.2;let AA:=x.2.2.2.1;let nI:=x.2.2.2.2.1;let zP:=x.2.2.2.2.2.1;let tn:=x.2.2.2.2.2.2.1;let xd:=x.2.2.2.2.2.2.2.1;let A1:=x.2.2.2.2.2.2.2.2.1;let s5:=x.2.2.2.2.2.2.2.2.2.1;let Ar:=x.2.2.2.2.2.2.2.2.2.2.1;let nS:=x.2.2.2.2.2.2.2.2.2.2.2.1;let w8:=x.2.2.2.2.2.2.2.2.2.2.2.2.1;let tc:=x.2.2.2.2.2.2.2.2.2.2.2.2.2.1;let AB:=x.2.2.2.2.2.2.2.2.2.2.2.2.2.2;bif(!nI.2.2.2.2.2.1) then
  let QA:List (cp.D):=[]++List.take (Int.toNat (nI.2.1-0)) (List.drop (Int.toNat 0) tc);let pb_56:List (cp.D):=QA++List.take (Int.toNat ((↑(List.length tc):Int)-IntKind.wrap .i64 (nI.2.1+1))) (List.drop (Int.toNat (IntKind.wrap .i64 (nI.2.1+1))) tc);let v_57:Nat:=Int.toNat (nI.2.1-0);let M6:=IntKind.wrap .i64 (nI.2.1+1);bif kL [decide (List.length QA+List.length (List.take (Int.toNat ((↑(List.length tc):Int)-M6)) (List.drop (Int.toNat M6) tc))≤eV),decide (0≤M6),decide (M6≤(↑(List.length tc):Int)),decide ((↑(List.length tc):Int)≤(↑(List.length tc):Int)),decide ((0:Nat)+List.length (List.take v_57 (List.drop (Int.toNat 0) tc))≤eV),true,decide (0≤nI.2.1),decide (nI.2.1≤(↑(List.length tc):Int))] then
   some ((((),(),()),((AJ,Bg,wv,(ng,(),AR),((),Br),(),(),nG),(),(),(),AZ),(A0,(),(),(),Az),AA,zP,tn,xd,A1,s5,Ar,nS,w8,pb_56,AB))
  else none
 else
  some ((((),(),()),((AJ,Bg,wv,(ng,(),AR),((),Br),(),(),nG),(),(),(),AZ),(A0,(),(),(),Az),AA,zP,tn,xd,A1,s5,Ar,nS,w8,tc,AB))
def Wh.QI (x:((Unit)×(Unit)×(Unit)×(Unit))×((((Bool)×((Int)×((List UInt8)×(((Int)×((Unit)×(Unit)))×(((Unit)×((Int)×(Unit)))×((Unit)×((Unit)×(Unit))))))))×((Unit)×((Unit)×((Unit)×(Unit)))))×((b7.D)×((Unit)×((Unit)×((Unit)×(Unit)))))×(cp.D)×(di.D)×(List (an.D))×(List (b9.D))×(List (cw.D))×(List (cg.D))×(List (bm.D))×(List (cp.D))×(List (an.D))×(List (bm.D))×(List (cp.D))×(List (an.D)))):(((Unit)×(Unit)×(Unit))×((((Bool)×((Int)×((List UInt8)×(((Int)×((Unit)×(Unit)))×(((Unit)×((Int)×(Unit)))×((Unit)×((Unit)×(Unit))))))))×((Unit)×((Unit)×((Unit)×(Unit)))))×((b7.D)×((Unit)×((Unit)×((Unit)×(Unit)))))×(cp.D)×(List (an.D))×(List (b9.D))×(List (cw.D))×(List (cg.D))×(List (bm.D))×(List (cp.D))×(List (an.D))×(List (bm.D))×(List (cp.D))×(List (an.D)))):=match q12 x with | some y=>y|none=>(default,(default,default,default,default,default,default,default,default,default,default,default,default,default))
def Wh.q12_v (x:((Unit)×(Unit)×(Unit)×(Unit))×((((Bool)×((Int)×((List UInt8)×(((Int)×((Unit)×(Unit)))×(((Unit)×((Int)×(Unit)))×((Unit)×((Unit)×(Unit))))))))×((Unit)×((Unit)×((Unit)×(Unit)))))×((b7.D)×((Unit)×((Unit)×((Unit)×(Unit)))))×(cp.D)×(di.D)×(List (an.D))×(List (b9.D))×(List (cw.D))×(List (cg.D))×(List (bm.D))×(List (cp.D))×(List (an.D))×(List (bm.D))×(List (cp.D))×(List (an.D))))(y:(((Unit)×(Unit)×(Unit))×((((Bool)×((Int)×((List UInt8)×(((Int)×((Unit)×(Unit)))×(((Unit)×((Int)×(Unit)))×((Unit)×((Unit)×(Unit))))))))×((Unit)×((Unit)×((Unit)×(Unit)))))×((b7.D)×((Unit)×((Unit)×((Unit)×(Unit)))))×(cp.D)×(List (an.D))×(List (b9.D))×(List (cw.D))×(List (cg.D))×(List (bm.D))×(List (cp.D))×(List (an.D))×(List (bm.D))×(List (cp.D))×(List (an.D)))))(h:q12 x=some y):QI x=y:=by unfold QI;rw[h]
def Wh.q74 (xs:(b7.D×List bm.D×List cp.D×List an.D×Unit)×di.D):Option ((b7.D×List bm.D×List cp.D×List an.D×Unit)×Unit):=
 let w_0:=xs.1;let e_1:=xs.2;let BI:=List.getD (w_0.2.2.1) (Int.toNat e_1.2.1) (0,[],false,());bif kL [decide (0≤e_1.2.1),decide (e_1.2.1<(↑(List.length (w_0.2.2.1)):Int))] then
  CQ q12 QI ((((),(),(),()),((false,0,[],(0,(),()),((),0,()),(),(),()),(),(),(),()),(w_0.1,(),(),(),w_0.2.2.2.2),BI,e_1,[],[],[],[],[],[],[],w_0.2.1,w_0.2.2.1,w_0.2.2.2.1)) fun Nh=>
   let Dp:=Nh.2.2.1.1;let Bt:=Nh.2.2.1.2.2.2.2;let A7:=Nh.2.2.2.1;let D9:=Nh.2.2.2.2.2.2.2.2.2.2.2.1;let GV:=Nh.2.2.2.2.2.2.2.2.2.2.2.2.1;let CY:=Nh.2.2.2.2.2.2.2.2.2.2.2.2.2;c9 q71 A7.2.1 fun Rf=>
    bif(!Rf.1.2) then
     some ((Dp,D9,GV,CY,Bt),())
    else
     bif(A7.1==9) then
      c9 q31 (Dp,Rf.1.1) fun MO=>
       c9 G5 ((MO.1.1,D9,GV,CY,Bt),-1,MO.1.2) fun MP=>
        some (MP.1,())
     else
      bn (zog q26 (List.getD D9 (Int.toNat A7.1) (0,0,0,[],0,((0,0,[],[],()),(0,0,[],()),()),()),Rf.1.1)) fun r_88=>
      let O_:Nat:=Int.toNat A7.1;bif kL [qu (q26 (List.getD D9 O_ (0,0,0,[],0,((0,0,[],[],()),(0,0,[],()),()),()),Rf.1.1)),decide (0≤A7.1),decide (A7.1<(↑(List.length D9):Int))] then
       let Tn:=List.set D9 O_ r_88.1.1;bif kL [decide (0≤A7.1),decide (A7.1<(↑(List.length D9):Int))] then
        c9 G5 ((Dp,Tn,GV,CY,Bt),9,r_88.1.2) fun MQ=>
         some (MQ.1,())
       else none
      else none
 else none
def Wh.q79 (xs:cp.D×Int):Option (cp.D×Unit):=
 let fy:=xs.1;let n_1:=xs.2;let BI:List Int:=bytesOf fy.2.1;bif kL [decide (List.length fy.2.1≤eV)] then
  let k_5:Int:=Int.tmod (Int.tmod n_1 4096) (↑(List.length BI):Int);bif kL [(↑(List.length BI):Int) != 0,true] then
   let Oo:=List.set BI (Int.toNat k_5) (pZ Go.BinOp.xor Go.IntKind.u8 (List.getD BI (Int.toNat k_5) 0) (IntKind.wrap .u8 (IntKind.wrap .i64 (1+Int.tmod (IntKind.wrap .i64 (Int.tdiv n_1 4096)) 255))));bif kL [decide (0≤k_5),decide (k_5<(↑(List.length BI):Int)),true,true,decide (0≤k_5),decide (k_5<(↑(List.length BI):Int))] then
    some ((fy.1,tv Oo,true,()),())
   else none
  else none
 else none
def Wh.q78 (xs:(b7.D×List bm.D×List cp.D×List an.D×Unit)×di.D):Option (((b7.D×List bm.D×List cp.D×List an.D×Unit)×Bool)×Unit):=
 let w_0:=xs.1;let e_1:=xs.2;let v_2:Int:=(↑(List.length (w_0.2.2.1)):Int);c9 gh (e_1.2.1,0,IntKind.wrap .i64 (v_2-1)) fun gT=>
  bif !gT.1 then
   some ((w_0,false),())
  else
   bif(e_1.1==8) then
    c9 q74 (w_0,e_1) fun AG=>
     some ((AG.1,true),())
   else
    bif(e_1.1==9) then
     let Jf:List (cp.D):=[]++List.take (Int.toNat (e_1.2.1-0)) (List.drop (Int.toNat 0) (w_0.2.2.1));let TA:List (cp.D):=Jf++List.take (Int.toNat (v_2-IntKind.wrap .i64 (e_1.2.1+1))) (List.drop (Int.toNat (IntKind.wrap .i64 (e_1.2.1+1))) (w_0.2.2.1));let B6:Nat:=Int.toNat (e_1.2.1-0);let AN:=IntKind.wrap .i64 (e_1.2.1+1);bif kL [decide (List.length Jf+List.length (List.take (Int.toNat (v_2-AN)) (List.drop (Int.toNat AN) (w_0.2.2.1)))≤eV),decide (0≤AN),decide (AN≤v_2),decide (v_2≤v_2),decide ((0:Nat)+List.length (List.take B6 (List.drop (Int.toNat 0) (w_0.2.2.1)))≤eV),true,decide (0≤e_1.2.1),decide (e_1.2.1≤v_2)] then
      some (((w_0.1,w_0.2.1,TA,w_0.2.2.2),true),())
     else none
    else
     let pg:Nat:=Int.toNat e_1.2.1;let s9:=bif bif(((List.getD (w_0.2.2.1) pg (0,[],false,())).2).2).1 then true else((List.getD (w_0.2.2.1) pg (0,[],false,())).2).1 == [] then true else decide (e_1.2.2.1<0);bif kL [!!(((List.getD (w_0.2.2.1) pg (0,[],false,())).2).2).1 || decide (0≤e_1.2.1),!!(((List.getD (w_0.2.2.1) pg (0,[],false,())).2).2).1 || decide (e_1.2.1<v_2),decide (0≤e_1.2.1),decide (e_1.2.1<v_2)] then
      bif s9 then
       some ((w_0,false),())
      else
       bn (zog q79 (List.getD (w_0.2.2.1) pg (0,[],false,()),e_1.2.2.1)) fun CL=>
       let pb_21:=List.set (w_0.2.2.1) pg CL.1;bif kL [decide (0≤e_1.2.1),decide (e_1.2.1<v_2),qu (q79 (List.getD (w_0.2.2.1) pg (0,[],false,()),e_1.2.2.1)),decide (0≤e_1.2.1),decide (e_1.2.1<v_2)] then
        some (((w_0.1,w_0.2.1,pb_21,w_0.2.2.2),true),())
       else none
     else none
def Wh.Kx (xs:bm.D):Option (List eL.D×Unit):=
 let b8:=xs;let Ed:List (eL.D):=[(1,b8.1,b8.2.1,b8.2.2.2.2.1,0,b8.2.2.2.1,[],())];some (Ed,())
def Wh.q27 (xs:bm.D×List UInt8):Option (((Int×Int×Int×List UInt8×Int×((Int×Int×List Int×List Int×Unit)×(Int×Int×List e_.D×Unit)×Unit)×Unit)×List eL.D)×Unit):=
 let b8:=xs.1;let Ec:=xs.2;c9 Eh b8 fun r_2=>
  bif !r_2.1 then
   some (((0,0,0,[],0,((0,0,[],[],()),(0,0,[],()),()),()),[]),())
  else
   let AO:=decide (b8.2.1≥99999);bn (zog DU Ec) fun dz=>
   let nP:=bif AO then true else !dz.1;bif kL [!!AO || qu (DU Ec)] then
    bif nP then
     c9 F3 b8 fun ov=>
      some ((ov.1,[]),())
    else
     let G0:=IntKind.wrap .i64 (b8.2.1+1);c9 Kx (b8.1,G0,1,Ec,0,((0,0,[],[],()),(0,0,[],()),()),()) fun AU=>
      some (((b8.1,G0,1,Ec,0,((0,0,[],[],()),(0,0,[],()),()),()),AU.1),())
   else none
def Wh.G4 (xs:bm.D):Option (((Int×Int×Int×List UInt8×Int×((Int×Int×List Int×List Int×Unit)×(Int×Int×List e_.D×Unit)×Unit)×Unit)×List eL.D)×Unit):=
 let b8:=xs;c9 Eh b8 fun r_1=>
  bif !r_1.1 then
   some (((0,0,0,[],0,((0,0,[],[],()),(0,0,[],()),()),()),[]),())
  else
   c9 F3 b8 fun r_2=>
    let n4:=bif bif decide (b8.2.1≥99999) then true else b8.2.2.2.2.1==0 then true else b8.2.2.1==3;bif n4 then
     some ((r_2.1,[]),())
    else
     let G0:=IntKind.wrap .i64 (b8.2.1+1);c9 Kx (r_2.1.1,G0,1,r_2.1.2.2.2) fun AU=>
      some (((r_2.1.1,G0,1,r_2.1.2.2.2),AU.1),())
def Wh.q28 (xs:bm.D):Option (((Int×Int×Int×List UInt8×Int×((Int×Int×List Int×List Int×Unit)×(Int×Int×List e_.D×Unit)×Unit)×Unit)×List eL.D)×Unit):=
 let b8:=xs;c9 Eh b8 fun r_1=>
  bif !r_1.1 then
   some (((0,0,0,[],0,((0,0,[],[],()),(0,0,[],()),()),()),[]),())
  else
   c9 Ky b8 fun r_2=>
    some (((b8.1,b8.2.1,0,[],0,((0,0,[],[],()),(0,0,[],()),()),()),r_2.1),())
def Wh.q29 (xs:bm.D):Option (List eL.D×Unit):=
 let b8:=xs;bn (zog Eh b8) fun r_1=>
 let v_2:=bif !r_1.1 then true else bif b8.2.2.1 != 1 then b8.2.2.1 != 2 else false;bif kL [qu (Eh b8)] then
  bif v_2 then
   some ([],())
  else
   c9 Kx b8 fun r_3=>
    some (r_3.1,())
 else none
def Wh.q6 (x:(Unit×Unit×Unit×Unit×Unit)×((Bool×Int×List UInt8×(Int×Unit×Unit)×(Unit×Int×Unit)×Unit×Unit×Unit)×Unit×Unit×Unit×Unit)×(b7.D×Unit×Unit×Unit×Unit)×di.D×bm.D×bm.D×List an.D×List b9.D×List cw.D×List cg.D×List bm.D×List cp.D×List an.D×List bm.D×List cp.D×List an.D):Option ((Unit×Unit×Unit×Unit×Unit×Unit)×((Bool×Int×List UInt8×(Int×Unit×Unit)×(Unit×Int×Unit)×Unit×Unit×Unit)×Unit×Unit×Unit×Unit)×List eL.D×(b7.D×Unit×Unit×Unit×Unit)×di.D×bm.D×(Int×Int×Int×List UInt8×Int×((Int×Int×Unit×Unit×Unit)×(Int×Int×Unit×Unit)×Unit)×Unit)×List an.D×List b9.D×List cw.D×List cg.D×List bm.D×List cp.D×List an.D×List bm.D×List cp.D×List an.D×List Int×List Int×List e_.D⊕(Unit×Unit×Unit×Unit×Unit×Unit)×((Bool×Int×List UInt8×(Int×Unit×Unit)×(Unit×Int×Unit)×Unit×Unit×Unit)×Unit×Unit×Unit×Unit)×List eL.D×(b7.D×Unit×Unit×Unit×Unit)×di.D×bm.D×bm.D×List an.D×List b9.D×List cw.D×List cg.D×List bm.D×List cp.D×List an.D×List bm.D×List cp.D×List an.D):=
 let ng:=x.2.1.1.1;let AR:=x.2.1.1.2.1;let Br:=x.2.1.1.2.2.1;let nG:=x.2.1.1.2.2.2.1.1;let AZ:=x.2.1.1.2.2.2.1.2.2;let A0:=x.2.1.1.2.2.2.2.1.2;let Az:=x.2.1.1.2.2.2.2.2.2.2;let AA:=x.2.1.2.2.2.2;let nI:=x.2.2.1.1;let zP:=x.2.2.1.2.2.2.2;let tn:=x.2.2.2.1;let xd:=x.2.2.2.2.1;let A1:=x.2.2.2.2.2.1;let s5:=x.2.2.2.2.2.2.1;let Ar:=x.2.2.2.2.2.2.2.1;let nS:=x.2.2.2.2.2.2.2.2.1;let w8:=x.2.2.2.2.2.2.2.2.2.1;let tc:=x.2.2.2.2.2.2.2.2.2.2.1;let AB:=x.2.2.2.2.2.2.2.2.2.2.2.1;let A2:=x.2.2.2.2.2.2.2.2.2.2.2.2.1;let AK:=x.2.2.2.2.2.2.2.2.2.2.2.2.2.1;let oc:=x.2.2.2.2.2.2.2.2.2.2.2.2.2.2.1;let AF:=x.2.2.2.2.2.2.2.2.2.2.2.2.2.2.2;bif(tn.1==3) then
  c9 q27 (xd,tn.2.2.2.1) fun DK=>
   some (.inl ((((),(),(),(),(),()),((ng,AR,Br,(nG,(),AZ),((),A0),(),(),Az),(),(),(),AA),DK.1.2,(nI,(),(),(),zP),tn,xd,(DK.1.1.1,DK.1.1.2.1,DK.1.1.2.2.1,DK.1.1.2.2.2.1,DK.1.1.2.2.2.2.1,((DK.1.1.2.2.2.2.2.1.1.1,DK.1.1.2.2.2.2.2.1.1.2.1,(),(),DK.1.1.2.2.2.2.2.1.1.2.2.2.2),(DK.1.1.2.2.2.2.2.1.2.1.1,DK.1.1.2.2.2.2.2.1.2.1.2.1,(),DK.1.1.2.2.2.2.2.1.2.1.2.2.2),DK.1.1.2.2.2.2.2.1.2.2),DK.1.1.2.2.2.2.2.2),s5,Ar,nS,w8,tc,AB,A2,AK,oc,AF,DK.1.1.2.2.2.2.2.1.1.2.2.1,DK.1.1.2.2.2.2.2.1.1.2.2.2.1,DK.1.1.2.2.2.2.2.1.2.1.2.2.1)))
 else
  bif(tn.1==4) then
   c9 G4 xd fun C3=>
    some (.inl ((((),(),(),(),(),()),((ng,AR,Br,(nG,(),AZ),((),A0),(),(),Az),(),(),(),AA),C3.1.2,(nI,(),(),(),zP),tn,xd,(C3.1.1.1,C3.1.1.2.1,C3.1.1.2.2.1,C3.1.1.2.2.2.1,C3.1.1.2.2.2.2.1,((C3.1.1.2.2.2.2.2.1.1.1,C3.1.1.2.2.2.2.2.1.1.2.1,(),(),C3.1.1.2.2.2.2.2.1.1.2.2.2.2),(C3.1.1.2.2.2.2.2.1.2.1.1,C3.1.1.2.2.2.2.2.1.2.1.2.1,(),C3.1.1.2.2.2.2.2.1.2.1.2.2.2),C3.1.1.2.2.2.2.2.1.2.2),C3.1.1.2.2.2.2.2.2),s5,Ar,nS,w8,tc,AB,A2,AK,oc,AF,C3.1.1.2.2.2.2.2.1.1.2.2.1,C3.1.1.2.2.2.2.2.1.1.2.2.2.1,C3.1.1.2.2.2.2.2.1.2.1.2.2.1)))
  else
   bif(tn.1==5) then
    c9 q28 xd fun DL=>
     some (.inl ((((),(),(),(),(),()),((ng,AR,Br,(nG,(),AZ),((),A0),(),(),Az),(),(),(),AA),DL.1.2,(nI,(),(),(),zP),tn,xd,(DL.1.1.1,DL.1.1.2.1,DL.1.1.2.2.1,DL.1.1.2.2.2.1,DL.1.1.2.2.2.2.1,((DL.1.1.2.2.2.2.2.1.1.1,DL.1.1.2.2.2.2.2.1.1.2.1,(),(),DL.1.1.2.2.2.2.2.1.1.2.2.2.2),(DL.1.1.2.2.2.2.2.1.2.1.1,DL.1.1.2.2.2.2.2.1.2.1.2.1,(),DL.1.1.2.2.2.2.2.1.2.1.2.2.2),DL.1.1.2.2.2.2.2.1.2.2),DL.1.1.2.2.2.2.2.2),s5,Ar,nS,w8,tc,AB,A2,AK,oc,AF,DL.1.1.2.2.2.2.2.1.1.2.2.1,DL.1.1.2.2.2.2.2.1.1.2.2.2.1,DL.1.1.2.2.2.2.2.1.2.1.2.2.1)))
   else
    c9 q29 xd fun r_64=>
     some (.inr ((((),(),(),(),(),()),((ng,AR,Br,(nG,(),AZ),((),A0),(),(),Az),(),(),(),AA),r_64.1,(nI,(),(),(),zP),tn,xd,A1,s5,Ar,nS,w8,tc,AB,A2,AK,oc,AF)))
def Wh.q6' (x:((Unit)×(Unit)×(Unit)×(Unit)×(Unit))×((((Bool)×((Int)×((List UInt8)×(((Int)×((Unit)×(Unit)))×(((Unit)×((Int)×(Unit)))×((Unit)×((Unit)×(Unit))))))))×((Unit)×((Unit)×((Unit)×(Unit)))))×((b7.D)×((Unit)×((Unit)×((Unit)×(Unit)))))×(di.D)×(bm.D)×(bm.D)×(List (an.D))×(List (b9.D))×(List (cw.D))×(List (cg.D))×(List (bm.D))×(List (cp.D))×(List (an.D))×(List (bm.D))×(List (cp.D))×(List (an.D)))):(((Unit)×(Unit)×(Unit)×(Unit)×(Unit)×(Unit))×((((Bool)×((Int)×((List UInt8)×(((Int)×((Unit)×(Unit)))×(((Unit)×((Int)×(Unit)))×((Unit)×((Unit)×(Unit))))))))×((Unit)×((Unit)×((Unit)×(Unit)))))×(List (eL.D))×((b7.D)×((Unit)×((Unit)×((Unit)×(Unit)))))×(di.D)×(bm.D)×((Int)×((Int)×((Int)×((List UInt8)×((Int)×((((Int)×((Int)×((Unit)×((Unit)×(Unit)))))×(((Int)×((Int)×((Unit)×(Unit))))×(Unit)))×(Unit)))))))×(List (an.D))×(List (b9.D))×(List (cw.D))×(List (cg.D))×(List (bm.D))×(List (cp.D))×(List (an.D))×(List (bm.D))×(List (cp.D))×(List (an.D))×(List (Int))×(List (Int))×(List (e_.D))))⊕(((Unit)×(Unit)×(Unit)×(Unit)×(Unit)×(Unit))×((((Bool)×((Int)×((List UInt8)×(((Int)×((Unit)×(Unit)))×(((Unit)×((Int)×(Unit)))×((Unit)×((Unit)×(Unit))))))))×((Unit)×((Unit)×((Unit)×(Unit)))))×(List (eL.D))×((b7.D)×((Unit)×((Unit)×((Unit)×(Unit)))))×(di.D)×(bm.D)×(bm.D)×(List (an.D))×(List (b9.D))×(List (cw.D))×(List (cg.D))×(List (bm.D))×(List (cp.D))×(List (an.D))×(List (bm.D))×(List (cp.D))×(List (an.D)))):=match Wh.q6 x with | some y=>y|none=>.inl (default,(default,default,default,default,default,default,default,default,default,default,default,default,default,default,default,default,default,default,default))
def Wh.q6_v (x:((Unit)×(Unit)×(Unit)×(Unit)×(Unit))×((((Bool)×((Int)×((List UInt8)×(((Int)×((Unit)×(Unit)))×(((Unit)×((Int)×(Unit)))×((Unit)×((Unit)×(Unit))))))))×((Unit)×((Unit)×((Unit)×(Unit)))))×((b7.D)×((Unit)×((Unit)×((Unit)×(Unit)))))×(di.D)×(bm.D)×(bm.D)×(List (an.D))×(List (b9.D))×(List (cw.D))×(List (cg.D))×(List (bm.D))×(List (cp.D))×(List (an.D))×(List (bm.D))×(List (cp.D))×(List (an.D))))(y:(((Unit)×(Unit)×(Unit)×(Unit)×(Unit)×(Unit))×((((Bool)×((Int)×((List UInt8)×(((Int)×((Unit)×(Unit)))×(((Unit)×((Int)×(Unit)))×((Unit)×((Unit)×(Unit))))))))×((Unit)×((Unit)×((Unit)×(Unit)))))×(List (eL.D))×((b7.D)×((Unit)×((Unit)×((Unit)×(Unit)))))×(di.D)×(bm.D)×((Int)×((Int)×((Int)×((List UInt8)×((Int)×((((Int)×((Int)×((Unit)×((Unit)×(Unit)))))×(((Int)×((Int)×((Unit)×(Unit))))×(Unit)))×(Unit)))))))×(List (an.D))×(List (b9.D))×(List (cw.D))×(List (cg.D))×(List (bm.D))×(List (cp.D))×(List (an.D))×(List (bm.D))×(List (cp.D))×(List (an.D))×(List (Int))×(List (Int))×(List (e_.D))))⊕(((Unit)×(Unit)×(Unit)×(Unit)×(Unit)×(Unit))×((((Bool)×((Int)×((List UInt8)×(((Int)×((Unit)×(Unit)))×(((Unit)×((Int)×(Unit)))×((Unit)×((Unit)×(Unit))))))))×((Unit)×((Unit)×((Unit)×(Unit)))))×(List (eL.D))×((b7.D)×((Unit)×((Unit)×((Unit)×(Unit)))))×(di.D)×(bm.D)×(bm.D)×(List (an.D))×(List (b9.D))×(List (cw.D))×(List (cg.D))×(List (bm.D))×(List (cp.D))×(List (an.D))×(List (bm.D))×(List (cp.D))×(List (an.D)))))(h:Wh.q6 x=some y):q6' x=y:=by unfold q6';rw[h]
def Wh.q53 (xs:(b7.D×List bm.D×List cp.D×List an.D×Unit)×di.D):Option (((b7.D×List bm.D×List cp.D×List an.D×Unit)×Bool)×Unit):=
 let w_0:=xs.1;let e_1:=xs.2;c9 gh (e_1.2.1,0,3) fun r_2=>
  bif !r_2.1 then
   some ((w_0,false),())
  else
   let Du:=List.getD w_0.2.1 (Int.toNat e_1.2.1) (0,0,0,[],0,((0,0,[],[],()),(0,0,[],()),()),());bif kL [decide (0≤e_1.2.1),decide (e_1.2.1<(↑(List.length w_0.2.1):Int))] then
    CQ Wh.q6 q6' ((((),(),(),(),()),((false,0,[],(0,(),()),((),0,()),(),(),()),(),(),(),()),(w_0.1,(),(),(),w_0.2.2.2.2),e_1,Du,Du,[],[],[],[],[],[],[],w_0.2.1,w_0.2.2.1,w_0.2.2.2.1)) fun q_=>
     sumC q_ (fun Ck=>
      let CX:=Ck.2.2.1;let Bw:=Ck.2.2.2.1.1;let Ez:=Ck.2.2.2.1.2.2.2.2;let EW:=Ck.2.2.2.2.1;let D9:=Ck.2.2.2.2.2.1;let GV:=Ck.2.2.2.2.2.2.1.1;let CY:=Ck.2.2.2.2.2.2.1.2.1;let DG:=Ck.2.2.2.2.2.2.1.2.2.1;let CZ:=Ck.2.2.2.2.2.2.1.2.2.2.1;let Dq:=Ck.2.2.2.2.2.2.1.2.2.2.2.1;let Kc:=Ck.2.2.2.2.2.2.1.2.2.2.2.2.1.1.1;let Oe:=Ck.2.2.2.2.2.2.1.2.2.2.2.2.1.1.2.1;let Of:=Ck.2.2.2.2.2.2.1.2.2.2.2.2.1.1.2.2.2.2;let Kd:=Ck.2.2.2.2.2.2.1.2.2.2.2.2.1.2.1.1;let Tm:=Ck.2.2.2.2.2.2.1.2.2.2.2.2.1.2.1.2.1;let Tn:=Ck.2.2.2.2.2.2.1.2.2.2.2.2.1.2.1.2.2.2;let LW:=Ck.2.2.2.2.2.2.1.2.2.2.2.2.1.2.2;let LX:=Ck.2.2.2.2.2.2.1.2.2.2.2.2.2;let J6:=Ck.2.2.2.2.2.2.2.2.2.2.2.2.2.2.1;let Dm:=Ck.2.2.2.2.2.2.2.2.2.2.2.2.2.2.2.1;let HP:=Ck.2.2.2.2.2.2.2.2.2.2.2.2.2.2.2.2.1;let AE:=Ck.2.2.2.2.2.2.2.2.2.2.2.2.2.2.2.2.2.1;let Eu:=Ck.2.2.2.2.2.2.2.2.2.2.2.2.2.2.2.2.2.2.1;let Ev:=Ck.2.2.2.2.2.2.2.2.2.2.2.2.2.2.2.2.2.2.2;let Fm:=List.set J6 (Int.toNat EW.2.1) (GV,CY,DG,CZ,Dq,((Kc,Oe,AE,Eu,Of),(Kd,Tm,Ev,Tn),LW),LX);bif kL [decide (0≤EW.2.1),decide (EW.2.1<(↑(List.length J6):Int))] then
       let ok_113:=bif bif decide (CY>D9.2.1) then true else bif EW.1==5 then D9.2.2.1 != 0 else false then true else bif EW.1==7 then decide ((↑(List.length CX):Int)>0) else false;c9 G5 ((Bw,Fm,Dm,HP,Ez),9,CX) fun r_114=>
        some ((r_114.1,ok_113),())
      else none) (fun IF=>
      let GS:=IF.2.2.1;let Dn:=IF.2.2.2.1.1;let HT:=IF.2.2.2.1.2.2.2.2;let GU:=IF.2.2.2.2.1;let I9:=IF.2.2.2.2.2.1;let NY:=IF.2.2.2.2.2.2.1;let Qk:=IF.2.2.2.2.2.2.2.2.2.2.2.2.2.2.1;let Tb:=IF.2.2.2.2.2.2.2.2.2.2.2.2.2.2.2.1;let Tc:=IF.2.2.2.2.2.2.2.2.2.2.2.2.2.2.2.2;let Td:=List.set Qk (Int.toNat GU.2.1) NY;bif kL [decide (0≤GU.2.1),decide (GU.2.1<(↑(List.length Qk):Int))] then
       let ok_145:=bif bif decide (NY.2.1>I9.2.1) then true else bif GU.1==5 then I9.2.2.1 != 0 else false then true else bif GU.1==7 then decide ((↑(List.length GS):Int)>0) else false;c9 G5 ((Dn,Td,Tb,Tc,HT),9,GS) fun r_146=>
        some ((r_146.1,ok_145),())
      else none)
   else none
def Wh.KP (xs:List UInt8):Option (Bool×Unit):=
 let Ba:=xs;c9 Fu Ba fun r_1=>
  let AP:=bif(r_1.1.2==(↑(List.length Ba):Int)) then decide (r_1.1.2≤9000) else false;some (AP,())
def Wh.KH (xs:List UInt8×List UInt8):Option ((List UInt8×Bool)×Unit):=
 let Ba:=xs.1;let C4:=xs.2;c9 Fu Ba fun r_2=>
  bn (zog KP Ba) fun r_3=>
  bn (zog gh ((↑(List.length C4):Int),1,500)) fun dz=>
  let nP:=bif !r_3.1 then true else !dz.1;bif kL [!!!r_3.1 || qu (gh ((↑(List.length C4):Int),1,500)),qu (KP Ba)] then
   bif nP then
    some (([],false),())
   else
    let n4:Int:=(↑(List.length r_2.1.1):Int);bn (zog Ig (n4,C4)) fun By=>
    let x_11:List UInt8:=Ba++By.1;bif kL [decide (List.length Ba+List.length (By.1)≤eV),qu (Ig (n4,C4))] then
     bif decide ((↑(List.length x_11):Int)>9000) then
      some (([],false),())
     else
      some ((x_11,true),())
    else none
  else none
def Wh.F7 (xs:b7.D×List UInt8):Option ((b7.D×Int)×Unit):=
 let cx:=xs.1;let C4:=xs.2;c9 KH (cx.2.2.1,C4) fun r_2=>
  bif(!r_2.1.2) then
   some ((cx,4),())
  else
   c9 F9 (cx.2.2.2.1,C4) fun dz=>
    bif(!dz.1.2) then
     some ((cx,1),())
    else
     some (((cx.1,cx.2.1,r_2.1.1,dz.1.1,cx.2.2.2.2),0),())
def Wh.q46 (xs:b7.D×Int×List UInt8×List UInt8):Option ((b7.D×Int)×Unit):=
 let cx:=xs.1;let A6:=xs.2.1;let Dc:=xs.2.2.1;let Li:=xs.2.2.2;c9 Gi cx fun dz=>
  bif !dz.1 then
   some (((false,0,[],(0,[],()),([],0,()),[],[],()),1),())
  else
   c9 Fq cx fun gT=>
    bif(!cx.1) then
     some ((gT.1,1),())
    else
     c9 F6 (cx.2.2.2.1,A6,Dc,Li) fun AG=>
      bif(AG.1.2 != 0) then
       some ((gT.1,AG.1.2),())
      else
       bn (zog E4 (A6,Dc,Li)) fun z4=>
       bn (zog F7 (gT.1,z4.1)) fun By=>
       bif kL [qu (F7 (gT.1,z4.1)),qu (E4 (A6,Dc,Li))] then
        some ((By.1.1,By.1.2),())
       else none
abbrev Wh.ZJ:Type:=(Int×Unit×Unit)×(b7.D×Unit×Unit×Unit×Unit)×((Bool×Int×List UInt8×(Int×Unit×Unit)×(Unit×Int×Unit)×Unit×Unit×Unit)×Unit×Unit×Unit×Unit)×List bm.D×List cp.D×List an.D×List an.D×List b9.D×List cw.D×List cg.D×List bm.D×List cp.D×List an.D
abbrev Wh.ahu:Type:=(Unit×Unit)×((Bool×Int×List UInt8×(Int×Unit×Unit)×(Unit×Int×Unit)×Unit×Unit×Unit)×Unit×Unit×Unit×Unit)×(b7.D×Unit×Unit×Unit×Unit)×List an.D×List b9.D×List cw.D×List cg.D×List bm.D×List cp.D×List an.D×List bm.D×List cp.D×List an.D
def Wh.QH (x:ZJ):Option (ZJ⊕ahu):=
 let IU:=x.1.1;let Bg:=x.2.1.1;let wv:=x.2.1.2.2.2.2;let ng:=x.2.2.1.1.1;let AR:=x.2.2.1.1.2.1;let Br:=x.2.2.1.1.2.2.1;let nG:=x.2.2.1.1.2.2.2.1.1;let AZ:=x.2.2.1.1.2.2.2.1.2.2;let A0:=x.2.2.1.1.2.2.2.2.1.2;let Az:=x.2.2.1.1.2.2.2.2.2.2.2;let AA:=x.2.2.1.2.2.2.2;let nI:=x.2.2.2.1;let zP:=x.2.2.2.2.1;let tn:=x.2.2.2.2.2.1;let xd:=x.2.2.2.2.2.2.1;let A1:=x.2.2.2.2.2.2.2.1;let s5:=x.2.2.2.2.2.2.2.2.1;let Ar:=x.2.2.2.2.2.2.2.2.2.1;let nS:=x.2.2.2.2.2.2.2.2.2.2.1;let w8:=x.2.2.2.2.2.2.2.2.2.2.2.1;let tc:=x.2.2.2.2.2.2.2.2.2.2.2.2;let IC:Int:=(↑(List.length (Bg.2.2.2.1.2.1)):Int);bif decide (IU<IC) then
  let JM:an.D:=List.getD (Bg.2.2.2.1.2.1) (Int.toNat IU) (0,[],0,[],());let FF:Int:=(↑(List.length tn):Int);bif kL [decide (0≤IU),decide (IU<IC)] then
   bif decide (JM.2.2.1>FF) then
    let QB:List (an.D):=[]++tn;let pb_60:List (an.D):=QB ++ [JM];bif kL [decide (List.length QB+(1:Nat)≤eV),decide (0≤IU),decide (IU<IC),decide ((0:Nat)+List.length tn≤eV)] then
     some (.inl (((IntKind.wrap .i64 (IU+1)),(),()),(Bg,(),(),(),wv),((ng,AR,Br,(nG,(),AZ),((),A0),(),(),Az),(),(),(),AA),nI,zP,pb_60,xd,A1,s5,Ar,nS,w8,tc))
    else none
   else
    some (.inl (((IntKind.wrap .i64 (IU+1)),(),()),(Bg,(),(),(),wv),((ng,AR,Br,(nG,(),AZ),((),A0),(),(),Az),(),(),(),AA),nI,zP,tn,xd,A1,s5,Ar,nS,w8,tc))
  else none
 else
  some (.inr (((),()),((ng,AR,Br,(nG,(),AZ),((),A0),(),(),Az),(),(),(),AA),(Bg,(),(),(),wv),xd,A1,s5,Ar,nS,w8,tc,nI,zP,tn))
def Wh.ZK:(Unit×Unit)×((Bool×Int×List UInt8×(Int×Unit×Unit)×(Unit×Int×Unit)×Unit×Unit×Unit)×Unit×Unit×Unit×Unit)×(b7.D×Unit×Unit×Unit×Unit)×List an.D×List b9.D×List cw.D×List cg.D×List bm.D×List cp.D×List an.D×List bm.D×List cp.D×List an.D:=default
def Wh.KB (xs:b7.D×List bm.D×List cp.D×List an.D×Unit):Option ((b7.D×List bm.D×List cp.D×List an.D×Unit)×Unit):=
 let w_0:=xs;g8 QH ZK (((0,(),()),(w_0.1,(),(),(),w_0.2.2.2.2),((false,0,[],(0,(),()),((),0,()),(),(),()),(),(),(),()),w_0.2.1,w_0.2.2.1,w_0.2.2.2.1,[],[],[],[],[],[],[])) fun FI=>
  let CK:=FI.2.2.1.1;let Cg:=FI.2.2.1.2.2.2.2;let CY:=FI.2.2.2.2.2.2.2.2.2.2.1;let DG:=FI.2.2.2.2.2.2.2.2.2.2.2.1;let CZ:=FI.2.2.2.2.2.2.2.2.2.2.2.2;some ((CK,CY,DG,CZ,Cg),())
abbrev Wh.acu:Type:=(Int×Unit×Int×Unit)×(Unit×Int×Unit)×(Unit×Int×Unit)×List b9.D×List b9.D
abbrev Wh.aiQ:Type:=(Unit×Unit)×(Unit×Int×Unit)×(Unit×Int×Unit)×List b9.D×List b9.D
def Wh.MJ (x:acu):Option (acu⊕aiQ):=
 let wm:=x.1.1;let NF:=x.1.2.2.1;let CH:=x.2.1.2;let CJ:=x.2.2.1.2;let we:=x.2.2.2.1;let BG:=x.2.2.2.2;let AW:Int:=(↑(List.length we):Int);bif decide (wm<AW) then
  let w9:Int:=((List.getD we (Int.toNat wm) (0,0,0,0,false,())).2).1;let CP:=bif w9==NF then((((List.getD we (Int.toNat wm) (0,0,0,0,false,())).2).2).2).1==0 else false;bif kL [!w9==NF || decide (0≤wm),!w9==NF || decide (wm<AW),decide (0≤wm),decide (wm<AW)] then
   bif CP then
    let Bp:List (b9.D):=List.set we (Int.toNat wm) (0,0,0,0,false,());bif kL [decide (0≤wm),decide (wm<AW)] then
     some (.inl (((IntKind.wrap .i64 (wm+1)),(),NF,()),((),CH),((),CJ),Bp,BG))
    else none
   else
    some (.inl (((IntKind.wrap .i64 (wm+1)),(),NF,()),((),CH),((),CJ),we,BG))
  else none
 else
  some (.inr (((),()),((),CJ),((),CH),BG,we))
def Wh.acv:(Unit×Unit)×(Unit×Int×Unit)×(Unit×Int×Unit)×List b9.D×List b9.D:=default
def Wh.q98 (xs:mb.D×Int):Option ((List b9.D×Int×Unit)×Unit):=
 let fy:=xs.1;let ND:=xs.2;c9 Gm fy fun r_2=>
  g8 MJ acv (((0,(),ND,()),((),r_2.1.2),((),0,()),r_2.1.1,[])) fun Lv=>
   let AR:=Lv.2.2.1.2;let nG:=Lv.2.2.2.2;some ((nG,AR),())
def Wh.q33 (xs:b7.D×Int×List UInt8):Option ((b7.D×Int)×Unit):=
 let cx:=xs.1;let A6:=xs.2.1;let Dc:=xs.2.2;c9 Gi cx fun r_3=>
  bif !r_3.1 then
   some (((false,0,[],(0,[],()),([],0,()),[],[],()),1),())
  else
   c9 Fq cx fun dz=>
    c9 Ee (cx.2.2.2.1,A6,Dc) fun gT=>
     bif(!cx.1) then
      some ((dz.1,1),())
     else
      bif(!gT.1.2) then
       some ((dz.1,3),())
      else
       bn (zog E4 (A6,Dc,[])) fun AU=>
       bn (zog F7 (dz.1,AU.1)) fun z4=>
       bif kL [qu (F7 (dz.1,AU.1)),qu (E4 (A6,Dc,[]))] then
        bif(z4.1.2==0) then
         c9 q98 (z4.1.1.2.2.2.2.1,gT.1.1.2.2.1) fun JE=>
          some (((z4.1.1.1,z4.1.1.2.1,z4.1.1.2.2.1,z4.1.1.2.2.2.1,JE.1,z4.1.1.2.2.2.2.2),z4.1.2),())
        else
         some ((z4.1.1,z4.1.2),())
       else none
def Wh.G_ (xs:cw.D×Int):Option (cw.D×Unit):=
 let BL:=xs.1;let Oj:=xs.2;let BI:=IntKind.wrap .i64 (BL.1+IntKind.wrap .i64 (BL.2.2.1*IntKind.wrap .i64 (Oj-BL.2.2.2.1)));bif decide (BI>BL.2.1) then
  some ((BL.2.1,BL.2.1,BL.2.2.1,Oj,BL.2.2.2.2),())
 else
  some ((BI,BL.2.1,BL.2.2.1,Oj,BL.2.2.2.2),())
def Wh.E0 (xs:cg.D):Option (BV.D×Unit):=
 let v_0:cg.D:=xs;some ((v_0.1,(IntKind.wrap .i64 (3-v_0.2.2.2.2.1)),v_0.2.2.2.2.2.1,()),())
abbrev Wh.acr:Type:=(Int×Int×List BV.D×Int)×Unit
abbrev Wh.aiP:Type:=Int×Unit⊕Int×Unit
def Wh.K_ (x:acr):Option (acr⊕aiP):=
 let wm:=x.1.1;let HA:=x.1.2.1;let LQ:=x.1.2.2.1;let Kh:=x.1.2.2.2;let nW:Int:=(↑(List.length LQ):Int);bif decide (wm<nW) then
  let Jd:=List.getD LQ (Int.toNat wm) (0,0,0,());bif kL [decide (0≤wm),decide (wm<nW)] then
   bn (zog gh (Jd.2.1,0,99999)) fun CA=>
   bn (zog gh (Jd.2.2.1,0,Kh)) fun FA=>
   let CP:=bif bif !CA.1 then true else !FA.1 then true else decide (Kh>99999);bif kL [!!!CA.1 || qu (gh (Jd.2.2.1,0,Kh)),qu (gh (Jd.2.1,0,99999))] then
    bif CP then
     some (.inr (.inl (-1,())))
    else
     let B7:=decide (HA<0);let Gv:=bif B7 then true else decide (IntKind.wrap .i64 (IntKind.wrap .i64 (Jd.2.1+Kh)-Jd.2.2.1)>IntKind.wrap .i64 (IntKind.wrap .i64 (((List.getD LQ (Int.toNat HA) (0,0,0,())).2).1+Kh)-(((List.getD LQ (Int.toNat HA) (0,0,0,())).2).2).1));bif kL [!!B7 || decide (0≤HA),!!B7 || decide (HA<nW),!!B7 || decide (0≤HA),!!B7 || decide (HA<nW)] then
      bif Gv then
       some (.inl (((IntKind.wrap .i64 (wm+1)),wm,LQ,Kh),()))
      else
       some (.inl (((IntKind.wrap .i64 (wm+1)),HA,LQ,Kh),()))
     else none
   else none
  else none
 else
  some (.inr (.inr (HA,())))
def Wh.acs:Int×Unit⊕Int×Unit:=.inl default
def Wh.q94 (xs:List BV.D×Int):Option (Int×Unit):=
 let J5:=xs.1;let Oj:=xs.2;g8 K_ acs (((0,-1,J5,Oj),())) fun q_=>
  sumC q_ (fun y_35=>
   let EL:=y_35.1;some (EL,())) (fun z_36=>
   let adI:=z_36.1;some (adI,()))
abbrev Wh.Zv:Type:=(Int×Unit×Unit×Int)×b7.D×List BV.D
abbrev Wh.ahn:Type:=(Int×Unit×Unit)×List BV.D×b7.D
def Wh.Kq (x:Zv):Option (Zv⊕ahn):=
 let IS:=x.1.1;let Ns:=x.1.2.2.2;let we:=x.2.1;let BG:=x.2.2;let AW:Int:=(↑(List.length (we.2.2.2.2.2.2.1)):Int);bif decide (IS<AW) then
  let w9:cg.D:=List.getD (we.2.2.2.2.2.2.1) (Int.toNat IS) (0,0,0,0,0,0,());bn (zog Ci Ns) fun ML=>
  bn (zog Ci w9.1) fun OL=>
  bif kL [qu (Ci Ns),qu (Ci w9.1),decide (0≤IS),decide (IS<AW)] then
   bif(OL.1==ML.1) then
    bn (zog E0 w9) fun Lc=>
    let wv:=BG ++ [Lc.1];bif kL [decide (List.length BG+(1:Nat)≤eV),qu (E0 w9),decide (0≤IS),decide (IS<AW)] then
     some (.inl (((IntKind.wrap .i64 (IS+1)),(),(),Ns),we,wv))
    else none
   else
    some (.inl (((IntKind.wrap .i64 (IS+1)),(),(),Ns),we,BG))
  else none
 else
  some (.inr ((Ns,(),()),BG,we))
def Wh.Zw:(Int×Unit×Unit)×List BV.D×b7.D:=default
def Wh.G3 (xs:b7.D×Int):Option (Bool×Unit):=
 let cx:=xs.1;let Nr:=xs.2;g8 Kq Zw (((0,(),(),Nr),cx,[])) fun y_39=>
  let adU:=y_39.1.1;let Az:=y_39.2.1;let AA:=y_39.2.2;c9 q94 (Az,AA.2.1) fun EJ=>
   let Hs:=decide (EJ.1≥0);let Ln:=bif Hs then(List.getD Az (Int.toNat EJ.1) (0,0,0,())).1==adU else false;bif kL [!Hs || decide (0≤EJ.1),!Hs || decide (EJ.1<(↑(List.length Az):Int))] then
    some (Ln,())
   else none
abbrev Wh.Zx:Type:=(Int×Unit×Unit)×List BV.D×b7.D
abbrev Wh.aho:Type:=Unit×List BV.D
def Wh.H7 (x:Zx):Option (Zx⊕aho):=
 let IT:=x.1.1;let Bl:=x.2.1;let r5:=x.2.2;let CP:Int:=(↑(List.length (r5.2.2.2.2.2.2.1)):Int);bif decide (IT<CP) then
  let vN:cg.D:=List.getD (r5.2.2.2.2.2.2.1) (Int.toNat IT) (0,0,0,0,0,0,());bif kL [decide (0≤IT),decide (IT<CP)] then
   c9 Gf (r5.2.2.2.1,vN.2.2.1) fun C0=>
    bif C0.1.2 then
     bn (zog Ch (↑(List.length (C0.1.1.2.2.2.1)):Int)) fun Lc=>
     let FD:Int:=(↑(List.length (C0.1.1.2.2.2.1)):Int);bif kL [qu (Ch FD)] then
      bn (zog G3 (r5,vN.1)) fun DJ=>
      bn (zog Ci vN.1) fun Gq=>
      let EL:=bif DJ.1 then decide ((List.getD (r5.2.2.2.2.2.1) (Int.toNat Gq.1) (0,0,0,0,())).1≥Lc.1.2.1) else false;bif kL [!DJ.1 || decide (0≤Gq.1),!DJ.1 || decide (Gq.1<(↑(List.length (r5.2.2.2.2.2.1)):Int)),!DJ.1 || qu (Ci vN.1),qu (G3 (r5,vN.1))] then
       bif EL then
        bn (zog E0 vN) fun Iw=>
        let A0:=Bl ++ [Iw.1];bif kL [decide (List.length Bl+(1:Nat)≤eV),qu (E0 vN)] then
         some (.inl (((IntKind.wrap .i64 (IT+1)),(),()),A0,r5))
        else none
       else
        some (.inl (((IntKind.wrap .i64 (IT+1)),(),()),Bl,r5))
      else none
     else none
    else
     bn (zog G3 (r5,vN.1)) fun EJ=>
     bn (zog Ci vN.1) fun MN=>
     let v_45:=bif EJ.1 then decide ((List.getD (r5.2.2.2.2.2.1) (Int.toNat MN.1) (0,0,0,0,())).1≥0) else false;bif kL [!EJ.1 || decide (0≤MN.1),!EJ.1 || decide (MN.1<(↑(List.length (r5.2.2.2.2.2.1)):Int)),!EJ.1 || qu (Ci vN.1),qu (G3 (r5,vN.1))] then
      bif v_45 then
       bn (zog E0 vN) fun ON=>
       let s5:=Bl ++ [ON.1];bif kL [decide (List.length Bl+(1:Nat)≤eV),qu (E0 vN)] then
        some (.inl (((IntKind.wrap .i64 (IT+1)),(),()),s5,r5))
       else none
      else
       some (.inl (((IntKind.wrap .i64 (IT+1)),(),()),Bl,r5))
     else none
  else none
 else
  some (.inr ((),Bl))
def Wh.Zy:Unit×List BV.D:=default
def Wh.L7 (xs:b7.D):Option (List BV.D×Unit):=
 let cx:b7.D:=xs;g8 H7 Zy (((0,(),()),[],cx)) fun y_52=>
  let AB:=y_52.2;some (AB,())
abbrev Wh.acw:Type:=(Int×Int×Unit×Int)×mb.D
abbrev Wh.aiR:Type:=Int×Unit⊕Unit×Unit
def Wh.La (x:acw):Option (acw⊕aiR):=
 let z9:=x.1.1;let WU:=x.1.2.1;let PD:=x.1.2.2.2;let s_:=x.2;let v5:Int:=(↑(List.length s_.1):Int);bif decide (z9<v5) then
  let iL:b9.D:=List.getD s_.1 (Int.toNat z9) (0,0,0,0,false,());let nE:=bif iL.2.1==PD then iL.2.2.1==WU else false;bif kL [!iL.2.1==PD || decide (0≤z9),!iL.2.1==PD || decide (z9<v5),decide (0≤z9),decide (z9<v5)] then
   bif nE then
    some (.inr (.inl (z9,())))
   else
    some (.inl (((IntKind.wrap .i64 (z9+1)),WU,(),PD),s_))
  else none
 else
  some (.inr (.inr ((),())))
def Wh.acy:Int×Unit⊕Unit×Unit:=.inl default
def Wh.q99 (xs:mb.D×Int×Int):Option (Int×Unit):=
 let fy:=xs.1;let ND:=xs.2.1;let adK:=xs.2.2;g8 La acy (((0,adK,(),ND),fy)) fun q_=>
  sumC q_ (fun JR=>
   let v9:=JR.1;some (v9,())) (fun _=>
   some (-1,()))
abbrev Wh.abB:Type:=(Int×Unit×Unit×Int×Bool)×(Unit×Int×Unit)×(Unit×Int×Unit)×List b9.D×List b9.D
abbrev Wh.aip:Type:=(Unit×Int)×(Unit×Int×Unit)×List b9.D⊕(Unit×Unit)×(Unit×Int×Unit)×(Unit×Int×Unit)×List b9.D×List b9.D
def Wh.K4 (x:abB):Option (abB⊕aip):=
 let Qq:=x.1.1;let P0:=x.1.2.2.2.1;let Qw:=x.1.2.2.2.2;let AY:=x.2.1.2;let BB:=x.2.2.1.2;let Bl:=x.2.2.2.1;let r5:=x.2.2.2.2;bif decide (Qq<17) then
  let EY:b9.D:=List.getD Bl (Int.toNat AY.1) (0,0,0,0,false,());bif kL [decide (0≤AY.1),decide (AY.1<(↑(List.length Bl):Int))] then
   let Bq:Int:=Int.tmod (IntKind.wrap .i64 (AY.1+1)) 8;let BX:=bif Qw then bif EY.2.1==0 then true else EY.1 != P0 else false;bif BX then
    some (.inl (((IntKind.wrap .i64 (Qq+1)),(),(),P0,Qw),((),Bq,AY.2),((),BB),Bl,r5))
   else
    bif decide (EY.2.2.2.1>0) then
     some (.inl (((IntKind.wrap .i64 (Qq+1)),(),(),P0,Qw),((),Bq,AY.2),((),BB),Bl,r5))
    else
     bif EY.2.2.2.2.1 then
      let Br:List (b9.D):=List.set Bl (Int.toNat AY.1) (EY.1,EY.2.1,EY.2.2.1,EY.2.2.2.1,false,EY.2.2.2.2.2);bif kL [decide (0≤AY.1),decide (AY.1<(↑(List.length Bl):Int))] then
       some (.inl (((IntKind.wrap .i64 (Qq+1)),(),(),P0,Qw),((),Bq,AY.2),((),BB),Br,r5))
      else none
     else
      some (.inr (.inl (((),AY.1),((),Bq,AY.2),Bl)))
  else none
 else
  some (.inr (.inr (((),()),((),BB),((),AY),r5,Bl)))
def Wh.abC:(Unit×Int)×(Unit×Int×Unit)×List b9.D⊕(Unit×Unit)×(Unit×Int×Unit)×(Unit×Int×Unit)×List b9.D×List b9.D:=.inl default
def Wh.q49 (xs:(List b9.D×Int×Unit)×Int):Option (((List b9.D×Int×Unit)×Int)×Unit):=
 let fy:=xs.1;let A6:=xs.2;c9 KQ (fy,A6) fun r_2=>
  g8 K4 abC (((0,(),(),A6,(decide (r_2.1≥5))),((),fy.2),((),0,()),fy.1,[])) fun q_=>
   sumC q_ (fun y_40=>
    let Lm:=y_40.1.2;let nI:=y_40.2.1.2;let zP:=y_40.2.2;some (((zP,nI),Lm),())) (fun z_41=>
    let xd:=z_41.2.2.1.2;let s5:=z_41.2.2.2.2;some (((s5,xd),-1),()))
def Wh.H6 (xs:mb.D×Int×Int×Int):Option (((List b9.D×Int×Unit)×Int×Int)×Unit):=
 let fy:=xs.1;let A6:=xs.2.1;let PE:=xs.2.2.1;let WV:=xs.2.2.2;c9 Gm fy fun dz=>
  c9 q99 (dz.1,PE,WV) fun gT=>
   bif decide (gT.1≥0) then
    let n_:Int:=((((List.getD dz.1.1 (Int.toNat gT.1) (0,0,0,0,false,())).2).2).2).1;let BW:=bif decide (n_≥99999) then true else(List.getD dz.1.1 (Int.toNat gT.1) (0,0,0,0,false,())).1 != A6;bif kL [!!decide (n_≥99999) || decide (0≤gT.1),!!decide (n_≥99999) || decide (gT.1<(↑(List.length dz.1.1):Int)),decide (0≤gT.1),decide (gT.1<(↑(List.length dz.1.1):Int))] then
     bif BW then
      bif kL [qu (Gm fy)] then
       some ((dz.1,0,3),())
      else none
     else
      let Ki:List (b9.D):=List.set dz.1.1 (Int.toNat gT.1) ((List.getD dz.1.1 (Int.toNat gT.1) (0,0,0,0,false,())).1,((List.getD dz.1.1 (Int.toNat gT.1) (0,0,0,0,false,())).2).1,(((List.getD dz.1.1 (Int.toNat gT.1) (0,0,0,0,false,())).2).2).1,IntKind.wrap .i64 (n_+1),((((List.getD dz.1.1 (Int.toNat gT.1) (0,0,0,0,false,())).2).2).2).2);bif kL [decide (0≤gT.1),decide (gT.1<(↑(List.length dz.1.1):Int)),decide (0≤gT.1),decide (gT.1<(↑(List.length dz.1.1):Int))] then
       let TD:List (b9.D):=List.set Ki (Int.toNat gT.1) ((List.getD Ki (Int.toNat gT.1) (0,0,0,0,false,())).1,((List.getD Ki (Int.toNat gT.1) (0,0,0,0,false,())).2).1,(((List.getD Ki (Int.toNat gT.1) (0,0,0,0,false,())).2).2).1,((((List.getD Ki (Int.toNat gT.1) (0,0,0,0,false,())).2).2).2).1,true,(((((List.getD Ki (Int.toNat gT.1) (0,0,0,0,false,())).2).2).2).2).2);bif kL [decide (0≤gT.1),decide (gT.1<(↑(List.length Ki):Int))] then
        some (((TD,dz.1.2),gT.1,0),())
       else none
      else none
    else none
   else
    c9 q49 (dz.1,A6) fun Dd=>
     bif decide (Dd.1.2<0) then
      bif kL [qu (Gm fy)] then
       some ((dz.1,0,2),())
      else none
     else
      let Om:List (b9.D):=List.set (Dd.1.1.1) (Int.toNat Dd.1.2) (A6,PE,WV,1,true,());bif kL [decide (0≤Dd.1.2),decide (Dd.1.2<(↑(List.length (Dd.1.1.1)):Int))] then
       some (((Om,Dd.1.1.2),Dd.1.2,1),())
      else none
def Wh.q96 (xs:mb.D×Int):Option (((List b9.D×Int×Unit)×Bool)×Unit):=
 let fy:=xs.1;let D5:=xs.2;c9 H_ fy fun r_2=>
  bif !r_2.1 then
   some ((([],0,()),false),())
  else
   c9 Gm fy fun r_3=>
    bn (zog gh (D5,0,7)) fun dz=>
    let nP:=bif !dz.1 then true else((((List.getD r_3.1.1 (Int.toNat D5) (0,0,0,0,false,())).2).2).2).1==0;bif kL [!!!dz.1 || decide (0≤D5),!!!dz.1 || decide (D5<(↑(List.length r_3.1.1):Int)),qu (gh (D5,0,7))] then
     bif nP then
      some ((r_3.1,false),())
     else
      let Oo:List (b9.D):=List.set r_3.1.1 (Int.toNat D5) ((List.getD r_3.1.1 (Int.toNat D5) (0,0,0,0,false,())).1,((List.getD r_3.1.1 (Int.toNat D5) (0,0,0,0,false,())).2).1,(((List.getD r_3.1.1 (Int.toNat D5) (0,0,0,0,false,())).2).2).1,IntKind.wrap .i64 (((((List.getD r_3.1.1 (Int.toNat D5) (0,0,0,0,false,())).2).2).2).1-1),((((List.getD r_3.1.1 (Int.toNat D5) (0,0,0,0,false,())).2).2).2).2);bif kL [decide (0≤D5),decide (D5<(↑(List.length r_3.1.1):Int)),decide (0≤D5),decide (D5<(↑(List.length r_3.1.1):Int))] then
       some (((Oo,r_3.1.2),true),())
      else none
    else none
abbrev Wh.aba:Type:=(Int×Unit×List UInt8×Unit)×gv.D×List (List UInt8)
abbrev Wh.aic:Type:=Unit×List (List UInt8)
def Wh.Mv (x:aba):Option (aba⊕aic):=
 let LM:=x.1.1;let RY:=x.1.2.2.1;let Bc:=x.2.1;let AY:=x.2.2;c9 Bn Bc fun FA=>
  bif decide (LM<FA.1) then
   let pb_28:List (List UInt8):=[List.take (Int.toNat (IntKind.wrap .i64 (IntKind.wrap .i64 (LM+1)*Bc.2.1)-IntKind.wrap .i64 (LM*Bc.2.1))) (List.drop (Int.toNat (IntKind.wrap .i64 (LM*Bc.2.1))) RY)];let Cn:List (List UInt8):=AY++pb_28;let B7:=IntKind.wrap .i64 (LM*Bc.2.1);let Gv:=IntKind.wrap .i64 (LM+1);bif kL [decide (List.length AY+(1:Nat)≤eV),decide (0≤B7),decide (B7≤IntKind.wrap .i64 (Gv*Bc.2.1)),decide (IntKind.wrap .i64 (Gv*Bc.2.1)≤(↑(List.length RY):Int))] then
    some (.inl ((Gv,(),RY,()),Bc,Cn))
   else none
  else
   some (.inr ((),AY))
def Wh.abb:Unit×List (List UInt8):=default
def Wh.KX (xs:gv.D×List UInt8):Option (List (List UInt8)×Unit):=
 let fy:=xs.1;let Ry:=xs.2;bn (zog Bn fy) fun r_2=>
 bn (zog Jp (IntKind.wrap .i64 (IntKind.wrap .i64 (r_2.1*fy.2.1)-(↑(List.length Ry):Int)))) fun AU=>
 let all_9:List UInt8:=Ry++AU.1;bif kL [decide (List.length Ry+List.length (AU.1)≤eV),qu (Jp (IntKind.wrap .i64 (IntKind.wrap .i64 (r_2.1*fy.2.1)-(↑(List.length Ry):Int)))),qu (Bn fy)] then
  g8 Mv abb (((0,(),all_9,()),fy,[])) fun y_35=>
   let AR:=y_35.2;some (AR,())
 else none
abbrev Wh.aaX:Type:=(Int×List Int×List (List UInt8)×List UInt8)×Unit
abbrev Wh.ah6:Type:=List UInt8×Unit
def Wh.Mr (x:aaX):Option (aaX⊕ah6):=
 let Ay:=x.1.1;let Ub:=x.1.2.1;let Pv:=x.1.2.2.1;let Tw:=x.1.2.2.2;let s9:=decide (Ay<(↑(List.length Ub):Int));bif s9 then
  let iL:=List.getD Ub (Int.toNat Ay) 0;bn (zog F4 (Tw,List.getD Pv (Int.toNat iL) [])) fun Lb=>
  bif kL [qu (F4 (Tw,List.getD Pv (Int.toNat iL) [])),decide (0≤iL),decide (iL<(↑(List.length Pv):Int)),decide (0≤Ay),s9] then
   some (.inl (((IntKind.wrap .i64 (Ay+1)),Ub,Pv,Lb.1),()))
  else none
 else
  some (.inr (Tw,()))
def Wh.aaY:List UInt8×Unit:=default
def Wh.Jy (xs:List (List UInt8)×List Int×Int):Option (List UInt8×Unit):=
 let adL:=xs.1;let Ri:=xs.2.1;let size_2:=xs.2.2;c9 KI (tv [(0:Int)],size_2) fun r_3=>
  g8 Mr aaY (((0,Ri,adL,r_3.1),())) fun Fa=>
   let out_28:=Fa.1;some (out_28,())
abbrev Wh.ZB:Type:=(Int×Unit×Unit×Unit×Unit×Unit×Unit×Int)×(Bool×Int×List UInt8×(Int×Unit×Unit)×(Unit×Int×Unit)×Unit×Unit×Unit)×List Int×an.D×(Bool×Int×List UInt8×(Int×Unit×Unit)×(Unit×Int×Unit)×Unit×Unit×Unit)×(Int×Int×Unit×Unit×Unit)×cg.D×List an.D×List b9.D×List cw.D×List cg.D×List an.D×List b9.D×List cw.D×List cg.D×List Int×List Int
abbrev Wh.ahq:Type:=(Unit×Unit×Unit×Unit×Unit×Unit×Int)×(Bool×Int×List UInt8×(Int×Unit×Unit)×(Unit×Int×Unit)×Unit×Unit×Unit)×(Int×Int×Unit×Unit×Unit)×List Int×an.D×cg.D×(Bool×Int×List UInt8×(Int×Unit×Unit)×(Unit×Int×Unit)×Unit×Unit×Unit)×List an.D×List b9.D×List cw.D×List cg.D×List Int×List Int×List an.D×List b9.D×List cw.D×List cg.D
def Wh.Ox (x:ZB):Option (ZB⊕ahq):=
 let Dl:=x.1.1;let k_48:=x.1.2.2.2.2.2.2.2;let Ar:=x.2.1.1;let nS:=x.2.1.2.1;let w8:=x.2.1.2.2.1;let tc:=x.2.1.2.2.2.1.1;let AB:=x.2.1.2.2.2.1.2.2;let A2:=x.2.1.2.2.2.2.1.2;let AK:=x.2.1.2.2.2.2.2.2.2;let oc:=x.2.2.1;let AF:=x.2.2.2.1;let Co:=x.2.2.2.2.1.1;let Ce:=x.2.2.2.2.1.2.1;let Bh:=x.2.2.2.2.1.2.2.1;let BP:=x.2.2.2.2.1.2.2.2.1.1;let Cf:=x.2.2.2.2.1.2.2.2.1.2.2;let Bi:=x.2.2.2.2.1.2.2.2.2.1.2;let A3:=x.2.2.2.2.1.2.2.2.2.2.2.2;let BQ:=x.2.2.2.2.2.1.1;let CV:=x.2.2.2.2.2.1.2.1;let BH:=x.2.2.2.2.2.1.2.2.2.2;let Cv:=x.2.2.2.2.2.2.1;let EU:=x.2.2.2.2.2.2.2.1;let Dp:=x.2.2.2.2.2.2.2.2.1;let Bt:=x.2.2.2.2.2.2.2.2.2.1;let A7:=x.2.2.2.2.2.2.2.2.2.2.1;let CK:=x.2.2.2.2.2.2.2.2.2.2.2.1;let Cg:=x.2.2.2.2.2.2.2.2.2.2.2.2.1;let Cw:=x.2.2.2.2.2.2.2.2.2.2.2.2.2.1;let CX:=x.2.2.2.2.2.2.2.2.2.2.2.2.2.2.1;let Bw:=x.2.2.2.2.2.2.2.2.2.2.2.2.2.2.2.1;let Ez:=x.2.2.2.2.2.2.2.2.2.2.2.2.2.2.2.2;let v_79:=decide (Dl<(↑(List.length oc):Int));bif v_79 then
  bn (zog H6 ((Dp,A2),AF.1,AF.2.2.1,List.getD oc (Int.toNat Dl) 0)) fun Re=>
  let v_81:=List.getD oc (Int.toNat Dl) 0;bif kL [qu (H6 ((Dp,A2),AF.1,AF.2.2.1,v_81)),decide (0≤Dl),v_79] then
   let IE:=bif(Re.1.2.2==0) then true else Re.1.2.2==1;bif IE then
    c9 q96 (Re.1.1,Re.1.2.1) fun r_84=>
     some (.inl (((IntKind.wrap .i64 (Dl+1)),(),(),(),(),(),(),k_48),(Ar,nS,w8,(tc,(),AB),((),r_84.1.1.2),(),(),AK),oc,AF,(Co,Ce,Bh,(BP,(),Cf),((),Bi),(),(),A3),(BQ,CV,(),(),BH),Cv,EU,r_84.1.1.1,Bt,A7,CK,Cg,Cw,CX,Bw,Ez))
   else
    some (.inl (((IntKind.wrap .i64 (Dl+1)),(),(),(),(),(),(),k_48),(Ar,nS,w8,(tc,(),AB),((),A2),(),(),AK),oc,AF,(Co,Ce,Bh,(BP,(),Cf),((),Bi),(),(),A3),(BQ,CV,(),(),BH),Cv,EU,Dp,Bt,A7,CK,Cg,Cw,CX,Bw,Ez))
  else none
 else
  some (.inr (((),(),(),(),(),(),k_48),(Co,Ce,Bh,(BP,(),Cf),((),Bi),(),(),A3),(BQ,CV,(),(),BH),oc,AF,Cv,(Ar,nS,w8,(tc,(),AB),((),A2),(),(),AK),CK,Cg,Cw,CX,Bw,Ez,EU,Dp,Bt,A7))
def Wh.ZC:(Unit×Unit×Unit×Unit×Unit×Unit×Int)×(Bool×Int×List UInt8×(Int×Unit×Unit)×(Unit×Int×Unit)×Unit×Unit×Unit)×(Int×Int×Unit×Unit×Unit)×List Int×an.D×cg.D×(Bool×Int×List UInt8×(Int×Unit×Unit)×(Unit×Int×Unit)×Unit×Unit×Unit)×List an.D×List b9.D×List cw.D×List cg.D×List Int×List Int×List an.D×List b9.D×List cw.D×List cg.D:=(default,(default,default,default,default,default,default,default,default,default,default,default,default,default,default,default,default))
def Wh.L9 (xs:(Bool×Int×List UInt8×(Int×List an.D×Unit)×(List b9.D×Int×Unit)×List cw.D×List cg.D×Unit)×Int×an.D):Option (((Bool×Int×List UInt8×(Int×List an.D×Unit)×(List b9.D×Int×Unit)×List cw.D×List cg.D×Unit)×List eL.D)×Unit):=
 let cx:=xs.1;let k_1:=xs.2.1;let t_2:=xs.2.2;let Du:cg.D:=List.getD (cx.2.2.2.2.2.2.1) (Int.toNat k_1) (0,0,0,0,0,0,());bif kL [decide (0≤k_1),decide (k_1<(↑(List.length (cx.2.2.2.2.2.2.1)):Int))] then
  bn (zog Ch (↑(List.length (t_2.2.2.2.1)):Int)) fun dz=>
  let nP:Int:=(↑(List.length (t_2.2.2.2.1)):Int);bif kL [qu (Ch nP)] then
   c9 Fx (dz.1,Du.2.2.2.1) fun ov=>
    g8 Ox ZC (((0,(),(),(),(),(),(),k_1),(cx.1,cx.2.1,cx.2.2.1,(cx.2.2.2.1.1,(),cx.2.2.2.1.2.2),((),cx.2.2.2.2.1.2),(),(),cx.2.2.2.2.2.2.2),ov.1,t_2,(false,0,[],(0,(),()),((),0,()),(),(),()),(dz.1.1,dz.1.2.1,(),(),dz.1.2.2.2.2),Du,cx.2.2.2.1.2.1,cx.2.2.2.2.1.1,cx.2.2.2.2.2.1,cx.2.2.2.2.2.2.1,[],[],[],[],dz.1.2.2.1,dz.1.2.2.2.1)) fun C7=>
     let DQ:=C7.1.2.2.2.2.2.2;let Ke:=C7.2.2.1.1;let Fo:=C7.2.2.1.2.1;let HV:=C7.2.2.1.2.2.2.2;let LR:=C7.2.2.2.1;let J6:=C7.2.2.2.2.1;let Dm:=C7.2.2.2.2.2.1;let HP:=C7.2.2.2.2.2.2.1.1;let AE:=C7.2.2.2.2.2.2.1.2.1;let Eu:=C7.2.2.2.2.2.2.1.2.2.1;let Ev:=C7.2.2.2.2.2.2.1.2.2.2.1.1;let Fm:=C7.2.2.2.2.2.2.1.2.2.2.1.2.2;let GR:=C7.2.2.2.2.2.2.1.2.2.2.2.1.2;let I1:=C7.2.2.2.2.2.2.1.2.2.2.2.2.2.2;let HQ:=C7.2.2.2.2.2.2.2.2.2.2.2.1;let FU:=C7.2.2.2.2.2.2.2.2.2.2.2.2.1;let FV:=C7.2.2.2.2.2.2.2.2.2.2.2.2.2.1;let HR:=C7.2.2.2.2.2.2.2.2.2.2.2.2.2.2.1;let ET:=C7.2.2.2.2.2.2.2.2.2.2.2.2.2.2.2.1;let Ew:=C7.2.2.2.2.2.2.2.2.2.2.2.2.2.2.2.2;c9 Ci Dm.1 fun Iv=>
      let HS:List (cw.D):=List.set ET (Int.toNat Iv.1) (IntKind.wrap .i64 ((List.getD ET (Int.toNat Iv.1) (0,0,0,0,())).1-Fo),(List.getD ET (Int.toNat Iv.1) (0,0,0,0,())).2);bif kL [decide (0≤Iv.1),decide (Iv.1<(↑(List.length ET):Int)),decide (0≤Iv.1),decide (Iv.1<(↑(List.length ET):Int))] then
       let Dn:List (cg.D):=List.set Ew (Int.toNat DQ) ((List.getD Ew (Int.toNat DQ) (0,0,0,0,0,0,())).1,((List.getD Ew (Int.toNat DQ) (0,0,0,0,0,0,())).2).1,(((List.getD Ew (Int.toNat DQ) (0,0,0,0,0,0,())).2).2).1,Int.tmod (IntKind.wrap .i64 (Dm.2.2.2.1+1)) 10000,((((List.getD Ew (Int.toNat DQ) (0,0,0,0,0,0,())).2).2).2).2);bif kL [decide (0≤DQ),decide (DQ<(↑(List.length Ew):Int)),true] then
        let I9:List (cg.D):=List.set Dn (Int.toNat DQ) ((List.getD Dn (Int.toNat DQ) (0,0,0,0,0,0,())).1,((List.getD Dn (Int.toNat DQ) (0,0,0,0,0,0,())).2).1,(((List.getD Dn (Int.toNat DQ) (0,0,0,0,0,0,())).2).2).1,((((List.getD Dn (Int.toNat DQ) (0,0,0,0,0,0,())).2).2).2).1,(((((List.getD Dn (Int.toNat DQ) (0,0,0,0,0,0,())).2).2).2).2).1,AE,((((((List.getD Dn (Int.toNat DQ) (0,0,0,0,0,0,())).2).2).2).2).2).2);bif kL [decide (0≤DQ),decide (DQ<(↑(List.length Dn):Int))] then
         bn (zog KX ((Ke,Fo,HQ,FU,HV),J6.2.2.2.1)) fun r_128=>
         bn (zog Jy (r_128.1,LR,Fo)) fun r_129=>
         let pb_130:List (eL.D):=[(3,Dm.1,Dm.2.1,Dm.2.2.1,Dm.2.2.2.1,[],r_129.1,())];bif kL [qu (Jy (r_128.1,LR,Fo)),qu (KX ((Ke,Fo,HQ,FU,HV),J6.2.2.2.1))] then
          some (((HP,AE,Eu,(Ev,FV,Fm),(HR,GR),HS,I9,I1),pb_130),())
         else none
        else none
       else none
      else none
  else none
 else none
abbrev Wh.abv:Type:=(Int×Unit×Unit)×(Bool×Int×List UInt8×(Int×Unit×Unit)×(Unit×Int×Unit)×Unit×Unit×Unit)×(Bool×Int×List UInt8×(Int×Unit×Unit)×(Unit×Int×Unit)×Unit×Unit×Unit)×List an.D×List b9.D×List cw.D×List cg.D×List an.D×List b9.D×List cw.D×List cg.D
abbrev Wh.aim:Type:=(Unit×Unit)×(Bool×Int×List UInt8×(Int×Unit×Unit)×(Unit×Int×Unit)×Unit×Unit×Unit)×(Bool×Int×List UInt8×(Int×Unit×Unit)×(Unit×Int×Unit)×Unit×Unit×Unit)×List an.D×List b9.D×List cw.D×List cg.D×List an.D×List b9.D×List cw.D×List cg.D
def Wh.OG (x:abv):Option (abv⊕aim):=
 let h_34:=x.1.1;let ng:=x.2.1.1;let AR:=x.2.1.2.1;let Br:=x.2.1.2.2.1;let nG:=x.2.1.2.2.2.1.1;let AZ:=x.2.1.2.2.2.1.2.2;let A0:=x.2.1.2.2.2.2.1.2;let Az:=x.2.1.2.2.2.2.2.2.2;let AA:=x.2.2.1.1;let nI:=x.2.2.1.2.1;let zP:=x.2.2.1.2.2.1;let tn:=x.2.2.1.2.2.2.1.1;let xd:=x.2.2.1.2.2.2.1.2.2;let A1:=x.2.2.1.2.2.2.2.1.2;let s5:=x.2.2.1.2.2.2.2.2.2.2;let Ar:=x.2.2.2.1;let nS:=x.2.2.2.2.1;let w8:=x.2.2.2.2.2.1;let tc:=x.2.2.2.2.2.2.1;let AB:=x.2.2.2.2.2.2.2.1;let A2:=x.2.2.2.2.2.2.2.2.1;let AK:=x.2.2.2.2.2.2.2.2.2.1;let oc:=x.2.2.2.2.2.2.2.2.2.2;bif decide (h_34<2) then
  bn (zog G_ (List.getD w8 (Int.toNat h_34) (0,0,0,0,()),AR)) fun Ld=>
  let Ce:List (cw.D):=List.set w8 (Int.toNat h_34) Ld.1;let M7:cw.D:=List.getD w8 (Int.toNat h_34) (0,0,0,0,());bif kL [decide (0≤h_34),decide (h_34<(↑(List.length w8):Int)),qu (G_ (M7,AR)),decide (0≤h_34),decide (h_34<(↑(List.length w8):Int))] then
   some (.inl (((IntKind.wrap .i64 (h_34+1)),(),()),(ng,AR,Br,(nG,(),AZ),((),A0),(),(),Az),(AA,nI,zP,(tn,(),xd),((),A1),(),(),s5),Ar,nS,Ce,tc,AB,A2,AK,oc))
  else none
 else
  some (.inr (((),()),(AA,nI,zP,(tn,(),xd),((),A1),(),(),s5),(ng,AR,Br,(nG,(),AZ),((),A0),(),(),Az),AB,A2,AK,oc,Ar,nS,w8,tc))
def Wh.abw:(Unit×Unit)×(Bool×Int×List UInt8×(Int×Unit×Unit)×(Unit×Int×Unit)×Unit×Unit×Unit)×(Bool×Int×List UInt8×(Int×Unit×Unit)×(Unit×Int×Unit)×Unit×Unit×Unit)×List an.D×List b9.D×List cw.D×List cg.D×List an.D×List b9.D×List cw.D×List cg.D:=default
def Wh.q34 (xs:b7.D):Option ((b7.D×List eL.D)×Unit):=
 let cx:b7.D:=xs;c9 Gi cx fun r_1=>
  bif !r_1.1 then
   some (((false,0,[],(0,[],()),([],0,()),[],[],()),[]),())
  else
   c9 Fq cx fun r_2=>
    let AP:=bif(!cx.1) then true else decide (cx.2.1≥99999);bif AP then
     some ((r_2.1,[]),())
    else
     g8 OG abw (((0,(),()),(r_2.1.1,(IntKind.wrap .i64 (cx.2.1+1)),r_2.1.2.2.1,(r_2.1.2.2.2.1.1,(),r_2.1.2.2.2.1.2.2),((),r_2.1.2.2.2.2.1.2),(),(),r_2.1.2.2.2.2.2.2.2),(false,0,[],(0,(),()),((),0,()),(),(),()),r_2.1.2.2.2.1.2.1,r_2.1.2.2.2.2.1.1,r_2.1.2.2.2.2.2.1,r_2.1.2.2.2.2.2.2.1,[],[],[],[])) fun Gy=>
      let Bt:=Gy.2.2.1.1;let A7:=Gy.2.2.1.2.1;let CK:=Gy.2.2.1.2.2.1;let Cg:=Gy.2.2.1.2.2.2.1.1;let Cw:=Gy.2.2.1.2.2.2.1.2.2;let CX:=Gy.2.2.1.2.2.2.2.1.2;let Bw:=Gy.2.2.1.2.2.2.2.2.2.2;let CY:=Gy.2.2.2.2.2.2.2.1;let DG:=Gy.2.2.2.2.2.2.2.2.1;let CZ:=Gy.2.2.2.2.2.2.2.2.2.1;let Dq:=Gy.2.2.2.2.2.2.2.2.2.2;c9 L7 (Bt,A7,CK,(Cg,CY,Cw),(DG,CX),CZ,Dq,Bw) fun MO=>
       c9 q94 (MO.1,A7) fun MP=>
        bif decide (MP.1<0) then
         some (((Bt,A7,CK,(Cg,CY,Cw),(DG,CX),CZ,Dq,Bw),[]),())
        else
         let O_:Int:=(List.getD MO.1 (Int.toNat MP.1) (0,0,0,())).1;bn (zog Ga ((Bt,A7,CK,(Cg,CY,Cw),(DG,CX),CZ,Dq,Bw),O_)) fun JH=>
         bif kL [qu (Ga ((Bt,A7,CK,(Cg,CY,Cw),(DG,CX),CZ,Dq,Bw),O_)),decide (0≤MP.1),decide (MP.1<(↑(List.length MO.1):Int))] then
          bn (zog Gf ((Cg,CY,Cw),(((List.getD Dq (Int.toNat JH.1) (0,0,0,0,0,0,())).2).2).1)) fun MQ=>
          let v_93:Int:=(((List.getD Dq (Int.toNat JH.1) (0,0,0,0,0,0,())).2).2).1;bif kL [qu (Gf ((Cg,CY,Cw),v_93)),decide (0≤JH.1),decide (JH.1<(↑(List.length Dq):Int))] then
           bif(!MQ.1.2) then
            let Jg:cg.D:=List.getD Dq (Int.toNat JH.1) (0,0,0,0,0,0,());bif kL [decide (0≤JH.1),decide (JH.1<(↑(List.length Dq):Int))] then
             bn (zog Hg ((Bt,A7,CK,(Cg,CY,Cw),(DG,CX),CZ,Dq,Bw),Jg.1)) fun r_96=>
             bn (zog Jj (Jg.1,Jg.2.1,Jg.2.2.1)) fun r_97=>
             bif kL [qu (Jj (Jg.1,Jg.2.1,Jg.2.2.1)),qu (Hg ((Bt,A7,CK,(Cg,CY,Cw),(DG,CX),CZ,Dq,Bw),Jg.1))] then
              some ((r_96.1,r_97.1),())
             else none
            else none
           else
            c9 L9 ((Bt,A7,CK,(Cg,CY,Cw),(DG,CX),CZ,Dq,Bw),JH.1,MQ.1.1) fun r_98=>
             some (r_98.1,())
          else none
         else none
def Wh.q54 (xs:di.D):Option (List UInt8×Unit):=
 let e_0:=xs;c9 E4 (e_0.2.1,e_0.2.2.2.1,e_0.2.2.2.2.1) fun r_1=>
  some (r_1.1,())
def Wh.q95 (xs:List UInt8×List UInt8×Int):Option (List UInt8×Unit):=
 let Ba:=xs.1;let C4:=xs.2.1;let No:=xs.2.2;c9 KH (Ba,C4) fun r_3=>
  let nP:=bif(!r_3.1.2) then true else decide (No<0);bif nP then
   some (Ba,())
  else
   let n4:Int:=(↑(List.length r_3.1.1):Int);bif(decide (No>IntKind.wrap .i64 (n4-(↑(List.length Ba):Int)))) then
    some (r_3.1.1,())
   else
    let A9:=IntKind.wrap .i64 ((↑(List.length Ba):Int)+No);let B6:List UInt8:=List.take (Int.toNat (A9-0)) (List.drop (Int.toNat 0) r_3.1.1);bif kL [true,decide (0≤A9),decide (A9≤n4)] then
     some (B6,())
    else none
def Wh.q30 (xs:b7.D×List UInt8×Int):Option (b7.D×Unit):=
 let cx:=xs.1;let C4:=xs.2.1;let No:=xs.2.2;c9 Gi cx fun r_3=>
  bif !r_3.1 then
   some ((false,0,[],(0,[],()),([],0,()),[],[],()),())
  else
   c9 F9 (cx.2.2.2.1,C4) fun dz=>
    let nP:=bif cx.1 then dz.1.2 else false;bif nP then
     c9 q95 (cx.2.2.1,C4,No) fun ov=>
      some ((false,cx.2.1,ov.1,(0,[],()),([],0,()),[],[],()),())
    else
     some ((false,cx.2.1,cx.2.2.1,(0,[],()),([],0,()),[],[],()),())
def Wh.q32 (xs:b7.D):Option (b7.D×Unit):=
 let cx:b7.D:=xs;c9 Gi cx fun r_1=>
  bif !r_1.1 then
   some ((false,0,[],(0,[],()),([],0,()),[],[],()),())
  else
   bif cx.1 then
    c9 Fq cx fun r_2=>
     some (r_2.1,())
   else
    c9 Fu (cx.2.2.1) fun r_3=>
     c9 Jv r_3.1.1 fun dz=>
      bn (zog Ia ()) fun gT=>
      bn (zog Io cx.2.1) fun ov=>
      let G0:List UInt8:=List.take (Int.toNat (r_3.1.2-0)) (List.drop (Int.toNat 0) (cx.2.2.1));bif kL [qu (Io cx.2.1),qu (Ia ()),true,decide (0≤r_3.1.2),decide (r_3.1.2≤(↑(List.length (cx.2.2.1)):Int))] then
       some ((true,cx.2.1,G0,dz.1.1,gT.1,ov.1,[],()),())
      else none
def Wh.q55 (xs:(b7.D×List bm.D×List cp.D×List an.D×Unit)×di.D):Option (((b7.D×List bm.D×List cp.D×List an.D×Unit)×Bool)×Unit):=
 let w_0:=xs.1;let e_1:=xs.2;bif(e_1.1==1) then
  c9 q46 (w_0.1,e_1.2.1,e_1.2.2.2.1,e_1.2.2.2.2.1) fun r_3=>
   c9 KB (r_3.1.1,w_0.2) fun dz=>
    some ((dz.1,(r_3.1.2==0)),())
 else
  bif(e_1.1==2) then
   c9 q33 (w_0.1,e_1.2.1,e_1.2.2.2.1) fun AG=>
    some (((AG.1.1,w_0.2),(AG.1.2==0)),())
  else
   bif(e_1.1==6) then
    c9 q34 w_0.1 fun By=>
     c9 G5 ((By.1.1,w_0.2),-1,By.1.2) fun BU=>
      some ((BU.1,(decide (By.1.1.2.1>w_0.1.2.1))),())
   else
    bif(e_1.1==11) then
     bn (zog q54 e_1) fun Dd=>
     bn (zog q30 (w_0.1,Dd.1,e_1.2.2.1)) fun Ei=>
     bif kL [qu (q30 (w_0.1,Dd.1,e_1.2.2.1)),qu (q54 e_1)] then
      some (((Ei.1,w_0.2),w_0.1.1),())
     else none
    else
     c9 q32 w_0.1 fun De=>
      c9 KB (De.1,w_0.2) fun JE=>
       some ((JE.1,(!w_0.1.1)),())
def Wh.q77 (x:(Unit×Unit×Unit×Int)×((Bool×Int×List UInt8×(Int×Unit×Unit)×(Unit×Int×Unit)×Unit×Unit×Unit)×Unit×Unit×Unit×Unit)×di.D×(b7.D×Unit×Unit×Unit×Unit)×List an.D×List b9.D×List cw.D×List cg.D×List bm.D×List cp.D×List an.D×List bm.D×List cp.D×List an.D):Option ((Bool×Unit×Unit×Unit)×((Bool×Int×List UInt8×(Int×Unit×Unit)×(Unit×Int×Unit)×Unit×Unit×Unit)×Unit×Unit×Unit×Unit)×di.D×(b7.D×Unit×Unit×Unit×Unit)×List an.D×List b9.D×List cw.D×List cg.D×List bm.D×List cp.D×List an.D×List bm.D×List cp.D×List an.D):=
 let O8:=x.1.2.2.2;let NZ:=x.2.1.1.1;let J_:=x.2.1.1.2.1;let N0:=x.2.1.1.2.2.1;let N2:=x.2.1.1.2.2.2.1.1;let N3:=x.2.1.1.2.2.2.1.2.2;let N4:=x.2.1.1.2.2.2.2.1.2;let FW:=x.2.1.1.2.2.2.2.2.2.2;let FX:=x.2.1.2.2.2.2;let Ka:=x.2.2.1;let N5:=x.2.2.2.1.1;let Kb:=x.2.2.2.1.2.2.2.2;let N6:=x.2.2.2.2.1;let N7:=x.2.2.2.2.2.1;let N8:=x.2.2.2.2.2.2.1;let N9:=x.2.2.2.2.2.2.2.1;let N_:=x.2.2.2.2.2.2.2.2.1;let Oa:=x.2.2.2.2.2.2.2.2.2.1;let FY:=x.2.2.2.2.2.2.2.2.2.2.1;let Ob:=x.2.2.2.2.2.2.2.2.2.2.2.1;let Oc:=x.2.2.2.2.2.2.2.2.2.2.2.2.1;let Od:=x.2.2.2.2.2.2.2.2.2.2.2.2.2;let v_205:=O8==1;bif v_205 then
  some (((v_205,(),(),()),((NZ,J_,N0,(N2,(),N3),((),N4),(),(),FW),(),(),(),FX),Ka,(N5,(),(),(),Kb),N6,N7,N8,N9,N_,Oa,FY,Ob,Oc,Od))
 else
  let v_206:=O8==2;bif v_206 then
   some (((v_206,(),(),()),((NZ,J_,N0,(N2,(),N3),((),N4),(),(),FW),(),(),(),FX),Ka,(N5,(),(),(),Kb),N6,N7,N8,N9,N_,Oa,FY,Ob,Oc,Od))
  else
   let RC:=O8==6;bif RC then
    some (((RC,(),(),()),((NZ,J_,N0,(N2,(),N3),((),N4),(),(),FW),(),(),(),FX),Ka,(N5,(),(),(),Kb),N6,N7,N8,N9,N_,Oa,FY,Ob,Oc,Od))
   else
    let v_208:=O8==11;bif v_208 then
     some (((v_208,(),(),()),((NZ,J_,N0,(N2,(),N3),((),N4),(),(),FW),(),(),(),FX),Ka,(N5,(),(),(),Kb),N6,N7,N8,N9,N_,Oa,FY,Ob,Oc,Od))
    else
     let v_209:=O8==12;some (((v_209,(),(),()),((NZ,J_,N0,(N2,(),N3),((),N4),(),(),FW),(),(),(),FX),Ka,(N5,(),(),(),Kb),N6,N7,N8,N9,N_,Oa,FY,Ob,Oc,Od))
def Wh.Q2 (x:((Unit)×(Unit)×(Unit)×(Int))×((((Bool)×((Int)×((List UInt8)×(((Int)×((Unit)×(Unit)))×(((Unit)×((Int)×(Unit)))×((Unit)×((Unit)×(Unit))))))))×((Unit)×((Unit)×((Unit)×(Unit)))))×(di.D)×((b7.D)×((Unit)×((Unit)×((Unit)×(Unit)))))×(List (an.D))×(List (b9.D))×(List (cw.D))×(List (cg.D))×(List (bm.D))×(List (cp.D))×(List (an.D))×(List (bm.D))×(List (cp.D))×(List (an.D)))):(((Bool)×(Unit)×(Unit)×(Unit))×((((Bool)×((Int)×((List UInt8)×(((Int)×((Unit)×(Unit)))×(((Unit)×((Int)×(Unit)))×((Unit)×((Unit)×(Unit))))))))×((Unit)×((Unit)×((Unit)×(Unit)))))×(di.D)×((b7.D)×((Unit)×((Unit)×((Unit)×(Unit)))))×(List (an.D))×(List (b9.D))×(List (cw.D))×(List (cg.D))×(List (bm.D))×(List (cp.D))×(List (an.D))×(List (bm.D))×(List (cp.D))×(List (an.D)))):=match q77 x with | some y=>y|none=>(default,(default,default,default,default,default,default,default,default,default,default,default,default,default))
def Wh.q77_v (x:((Unit)×(Unit)×(Unit)×(Int))×((((Bool)×((Int)×((List UInt8)×(((Int)×((Unit)×(Unit)))×(((Unit)×((Int)×(Unit)))×((Unit)×((Unit)×(Unit))))))))×((Unit)×((Unit)×((Unit)×(Unit)))))×(di.D)×((b7.D)×((Unit)×((Unit)×((Unit)×(Unit)))))×(List (an.D))×(List (b9.D))×(List (cw.D))×(List (cg.D))×(List (bm.D))×(List (cp.D))×(List (an.D))×(List (bm.D))×(List (cp.D))×(List (an.D))))(y:(((Bool)×(Unit)×(Unit)×(Unit))×((((Bool)×((Int)×((List UInt8)×(((Int)×((Unit)×(Unit)))×(((Unit)×((Int)×(Unit)))×((Unit)×((Unit)×(Unit))))))))×((Unit)×((Unit)×((Unit)×(Unit)))))×(di.D)×((b7.D)×((Unit)×((Unit)×((Unit)×(Unit)))))×(List (an.D))×(List (b9.D))×(List (cw.D))×(List (cg.D))×(List (bm.D))×(List (cp.D))×(List (an.D))×(List (bm.D))×(List (cp.D))×(List (an.D)))))(h:q77 x=some y):Q2 x=y:=by unfold Q2;rw[h]
def Wh.q76 (x:(Unit×Unit×Unit×Int)×((Bool×Int×List UInt8×(Int×Unit×Unit)×(Unit×Int×Unit)×Unit×Unit×Unit)×Unit×Unit×Unit×Unit)×di.D×(b7.D×Unit×Unit×Unit×Unit)×List an.D×List b9.D×List cw.D×List cg.D×List bm.D×List cp.D×List an.D×List bm.D×List cp.D×List an.D):Option ((Bool×Unit×Unit×Unit×Int)×((Bool×Int×List UInt8×(Int×Unit×Unit)×(Unit×Int×Unit)×Unit×Unit×Unit)×Unit×Unit×Unit×Unit)×di.D×(b7.D×Unit×Unit×Unit×Unit)×List an.D×List b9.D×List cw.D×List cg.D×List bm.D×List cp.D×List an.D×List bm.D×List cp.D×List an.D):=
 let JJ:=x.1.2.2.2;let Eu:=x.2.1.1.1;let Ev:=x.2.1.1.2.1;let Fm:=x.2.1.1.2.2.1;let GR:=x.2.1.1.2.2.2.1.1;let I1:=x.2.1.1.2.2.2.1.2.2;let I4:=x.2.1.1.2.2.2.2.1.2;let I5:=x.2.1.1.2.2.2.2.2.2.2;let LS:=x.2.1.2.2.2.2;let I7:=x.2.2.1;let HQ:=x.2.2.2.1.1;let FU:=x.2.2.2.1.2.2.2.2;let FV:=x.2.2.2.2.1;let HR:=x.2.2.2.2.2.1;let ET:=x.2.2.2.2.2.2.1;let Ew:=x.2.2.2.2.2.2.2.1;let J8:=x.2.2.2.2.2.2.2.2.1;let HS:=x.2.2.2.2.2.2.2.2.2.1;let J9:=x.2.2.2.2.2.2.2.2.2.2.1;let GS:=x.2.2.2.2.2.2.2.2.2.2.2.1;let Dn:=x.2.2.2.2.2.2.2.2.2.2.2.2.1;let HT:=x.2.2.2.2.2.2.2.2.2.2.2.2.2;let v_126:=JJ==3;bif v_126 then
  some (((v_126,(),(),(),JJ),((Eu,Ev,Fm,(GR,(),I1),((),I4),(),(),I5),(),(),(),LS),I7,(HQ,(),(),(),FU),FV,HR,ET,Ew,J8,HS,J9,GS,Dn,HT))
 else
  let v_127:=JJ==4;bif v_127 then
   some (((v_127,(),(),(),JJ),((Eu,Ev,Fm,(GR,(),I1),((),I4),(),(),I5),(),(),(),LS),I7,(HQ,(),(),(),FU),FV,HR,ET,Ew,J8,HS,J9,GS,Dn,HT))
  else
   let RB:=JJ==5;bif RB then
    some (((RB,(),(),(),JJ),((Eu,Ev,Fm,(GR,(),I1),((),I4),(),(),I5),(),(),(),LS),I7,(HQ,(),(),(),FU),FV,HR,ET,Ew,J8,HS,J9,GS,Dn,HT))
   else
    let v_129:=JJ==7;some (((v_129,(),(),(),JJ),((Eu,Ev,Fm,(GR,(),I1),((),I4),(),(),I5),(),(),(),LS),I7,(HQ,(),(),(),FU),FV,HR,ET,Ew,J8,HS,J9,GS,Dn,HT))
def Wh.Q1 (x:((Unit)×(Unit)×(Unit)×(Int))×((((Bool)×((Int)×((List UInt8)×(((Int)×((Unit)×(Unit)))×(((Unit)×((Int)×(Unit)))×((Unit)×((Unit)×(Unit))))))))×((Unit)×((Unit)×((Unit)×(Unit)))))×(di.D)×((b7.D)×((Unit)×((Unit)×((Unit)×(Unit)))))×(List (an.D))×(List (b9.D))×(List (cw.D))×(List (cg.D))×(List (bm.D))×(List (cp.D))×(List (an.D))×(List (bm.D))×(List (cp.D))×(List (an.D)))):(((Bool)×(Unit)×(Unit)×(Unit)×(Int))×((((Bool)×((Int)×((List UInt8)×(((Int)×((Unit)×(Unit)))×(((Unit)×((Int)×(Unit)))×((Unit)×((Unit)×(Unit))))))))×((Unit)×((Unit)×((Unit)×(Unit)))))×(di.D)×((b7.D)×((Unit)×((Unit)×((Unit)×(Unit)))))×(List (an.D))×(List (b9.D))×(List (cw.D))×(List (cg.D))×(List (bm.D))×(List (cp.D))×(List (an.D))×(List (bm.D))×(List (cp.D))×(List (an.D)))):=match q76 x with | some y=>y|none=>(default,(default,default,default,default,default,default,default,default,default,default,default,default,default))
def Wh.q76_v (x:((Unit)×(Unit)×(Unit)×(Int))×((((Bool)×((Int)×((List UInt8)×(((Int)×((Unit)×(Unit)))×(((Unit)×((Int)×(Unit)))×((Unit)×((Unit)×(Unit))))))))×((Unit)×((Unit)×((Unit)×(Unit)))))×(di.D)×((b7.D)×((Unit)×((Unit)×((Unit)×(Unit)))))×(List (an.D))×(List (b9.D))×(List (cw.D))×(List (cg.D))×(List (bm.D))×(List (cp.D))×(List (an.D))×(List (bm.D))×(List (cp.D))×(List (an.D))))(y:(((Bool)×(Unit)×(Unit)×(Unit)×(Int))×((((Bool)×((Int)×((List UInt8)×(((Int)×((Unit)×(Unit)))×(((Unit)×((Int)×(Unit)))×((Unit)×((Unit)×(Unit))))))))×((Unit)×((Unit)×((Unit)×(Unit)))))×(di.D)×((b7.D)×((Unit)×((Unit)×((Unit)×(Unit)))))×(List (an.D))×(List (b9.D))×(List (cw.D))×(List (cg.D))×(List (bm.D))×(List (cp.D))×(List (an.D))×(List (bm.D))×(List (cp.D))×(List (an.D)))))(h:q76 x=some y):Q1 x=y:=by unfold Q1;rw[h]
def Wh.q75 (x:(Unit×Unit×Unit×Int)×((Bool×Int×List UInt8×(Int×Unit×Unit)×(Unit×Int×Unit)×Unit×Unit×Unit)×Unit×Unit×Unit×Unit)×di.D×(b7.D×Unit×Unit×Unit×Unit)×List an.D×List b9.D×List cw.D×List cg.D×List bm.D×List cp.D×List an.D×List bm.D×List cp.D×List an.D):Option ((Bool×Unit×Unit×Unit×Int)×((Bool×Int×List UInt8×(Int×Unit×Unit)×(Unit×Int×Unit)×Unit×Unit×Unit)×Unit×Unit×Unit×Unit)×di.D×(b7.D×Unit×Unit×Unit×Unit)×List an.D×List b9.D×List cw.D×List cg.D×List bm.D×List cp.D×List an.D×List bm.D×List cp.D×List an.D):=
 let Dy:=x.1.2.2.2;let r5:=x.2.1.1.1;let Cn:=x.2.1.1.2.1;let Bp:=x.2.1.1.2.2.1;let Bq:=x.2.1.1.2.2.2.1.1;let AJ:=x.2.1.1.2.2.2.1.2.2;let Bg:=x.2.1.1.2.2.2.2.1.2;let wv:=x.2.1.1.2.2.2.2.2.2.2;let ng:=x.2.1.2.2.2.2;let AR:=x.2.2.1;let Br:=x.2.2.2.1.1;let nG:=x.2.2.2.1.2.2.2.2;let AZ:=x.2.2.2.2.1;let A0:=x.2.2.2.2.2.1;let Az:=x.2.2.2.2.2.2.1;let AA:=x.2.2.2.2.2.2.2.1;let nI:=x.2.2.2.2.2.2.2.2.1;let zP:=x.2.2.2.2.2.2.2.2.2.1;let tn:=x.2.2.2.2.2.2.2.2.2.2.1;let xd:=x.2.2.2.2.2.2.2.2.2.2.2.1;let A1:=x.2.2.2.2.2.2.2.2.2.2.2.2.1;let s5:=x.2.2.2.2.2.2.2.2.2.2.2.2.2;let JL:=Dy==8;bif JL then
  some (((JL,(),(),(),Dy),((r5,Cn,Bp,(Bq,(),AJ),((),Bg),(),(),wv),(),(),(),ng),AR,(Br,(),(),(),nG),AZ,A0,Az,AA,nI,zP,tn,xd,A1,s5))
 else
  let IB:=Dy==9;bif IB then
   some (((IB,(),(),(),Dy),((r5,Cn,Bp,(Bq,(),AJ),((),Bg),(),(),wv),(),(),(),ng),AR,(Br,(),(),(),nG),AZ,A0,Az,AA,nI,zP,tn,xd,A1,s5))
  else
   let B9:=Dy==10;some (((B9,(),(),(),Dy),((r5,Cn,Bp,(Bq,(),AJ),((),Bg),(),(),wv),(),(),(),ng),AR,(Br,(),(),(),nG),AZ,A0,Az,AA,nI,zP,tn,xd,A1,s5))
def Wh.Q0 (x:((Unit)×(Unit)×(Unit)×(Int))×((((Bool)×((Int)×((List UInt8)×(((Int)×((Unit)×(Unit)))×(((Unit)×((Int)×(Unit)))×((Unit)×((Unit)×(Unit))))))))×((Unit)×((Unit)×((Unit)×(Unit)))))×(di.D)×((b7.D)×((Unit)×((Unit)×((Unit)×(Unit)))))×(List (an.D))×(List (b9.D))×(List (cw.D))×(List (cg.D))×(List (bm.D))×(List (cp.D))×(List (an.D))×(List (bm.D))×(List (cp.D))×(List (an.D)))):(((Bool)×(Unit)×(Unit)×(Unit)×(Int))×((((Bool)×((Int)×((List UInt8)×(((Int)×((Unit)×(Unit)))×(((Unit)×((Int)×(Unit)))×((Unit)×((Unit)×(Unit))))))))×((Unit)×((Unit)×((Unit)×(Unit)))))×(di.D)×((b7.D)×((Unit)×((Unit)×((Unit)×(Unit)))))×(List (an.D))×(List (b9.D))×(List (cw.D))×(List (cg.D))×(List (bm.D))×(List (cp.D))×(List (an.D))×(List (bm.D))×(List (cp.D))×(List (an.D)))):=match q75 x with | some y=>y|none=>(default,(default,default,default,default,default,default,default,default,default,default,default,default,default))
def Wh.q75_v (x:((Unit)×(Unit)×(Unit)×(Int))×((((Bool)×((Int)×((List UInt8)×(((Int)×((Unit)×(Unit)))×(((Unit)×((Int)×(Unit)))×((Unit)×((Unit)×(Unit))))))))×((Unit)×((Unit)×((Unit)×(Unit)))))×(di.D)×((b7.D)×((Unit)×((Unit)×((Unit)×(Unit)))))×(List (an.D))×(List (b9.D))×(List (cw.D))×(List (cg.D))×(List (bm.D))×(List (cp.D))×(List (an.D))×(List (bm.D))×(List (cp.D))×(List (an.D))))(y:(((Bool)×(Unit)×(Unit)×(Unit)×(Int))×((((Bool)×((Int)×((List UInt8)×(((Int)×((Unit)×(Unit)))×(((Unit)×((Int)×(Unit)))×((Unit)×((Unit)×(Unit))))))))×((Unit)×((Unit)×((Unit)×(Unit)))))×(di.D)×((b7.D)×((Unit)×((Unit)×((Unit)×(Unit)))))×(List (an.D))×(List (b9.D))×(List (cw.D))×(List (cg.D))×(List (bm.D))×(List (cp.D))×(List (an.D))×(List (bm.D))×(List (cp.D))×(List (an.D)))))(h:q75 x=some y):Q0 x=y:=by unfold Q0;rw[h]
def Wh.KS (xs:(b7.D×List bm.D×List cp.D×List an.D×Unit)×di.D):Option ((fk.D×Bool)×Unit):=
 let w_0:=xs.1;let e_1:=xs.2;CQ q75 Q0 ((((),(),(),e_1.1),((false,0,[],(0,(),()),((),0,()),(),(),()),(),(),(),()),e_1,(w_0.1,(),(),(),w_0.2.2.2.2),[],[],[],[],[],[],[],w_0.2.1,w_0.2.2.1,w_0.2.2.2.1)) fun B_=>
  let Aw:=B_.1.1;let JM:=B_.1.2.2.2.2;let oc:=B_.2.1.1.1;let AF:=B_.2.1.1.2.1;let Co:=B_.2.1.1.2.2.1;let Ce:=B_.2.1.1.2.2.2.1.1;let Bh:=B_.2.1.1.2.2.2.1.2.2;let BP:=B_.2.1.1.2.2.2.2.1.2;let Cf:=B_.2.1.1.2.2.2.2.2.2.2;let Bi:=B_.2.1.2.2.2.2;let A3:=B_.2.2.1;let BQ:=B_.2.2.2.1.1;let CV:=B_.2.2.2.1.2.2.2.2;let BH:=B_.2.2.2.2.1;let Cv:=B_.2.2.2.2.2.1;let EU:=B_.2.2.2.2.2.2.1;let Dp:=B_.2.2.2.2.2.2.2.1;let Bt:=B_.2.2.2.2.2.2.2.2.1;let A7:=B_.2.2.2.2.2.2.2.2.2.1;let CK:=B_.2.2.2.2.2.2.2.2.2.2.1;let Cg:=B_.2.2.2.2.2.2.2.2.2.2.2.1;let Cw:=B_.2.2.2.2.2.2.2.2.2.2.2.2.1;let CX:=B_.2.2.2.2.2.2.2.2.2.2.2.2.2;bif Aw then
   c9 q78 ((BQ,Cg,Cw,CX,CV),A3) fun OO=>
    some (OO.1,())
  else
   CQ q76 Q1 ((((),(),(),JM),((oc,AF,Co,(Ce,(),Bh),((),BP),(),(),Cf),(),(),(),Bi),A3,(BQ,(),(),(),CV),BH,Cv,EU,Dp,Bt,A7,CK,Cg,Cw,CX)) fun Cq=>
    let v_132:=Cq.1.1;let Uu:=Cq.1.2.2.2.2;let Qi:=Cq.2.1.1.1;let Qj:=Cq.2.1.1.2.1;let Qk:=Cq.2.1.1.2.2.1;let Tb:=Cq.2.1.1.2.2.2.1.1;let Tc:=Cq.2.1.1.2.2.2.1.2.2;let Td:=Cq.2.1.1.2.2.2.2.1.2;let ls_140:=Cq.2.1.1.2.2.2.2.2.2.2;let ls_141:=Cq.2.1.2.2.2.2;let Yx:=Cq.2.2.1;let Yy:=Cq.2.2.2.1.1;let Yz:=Cq.2.2.2.1.2.2.2.2;let ls_145:=Cq.2.2.2.2.1;let Te:=Cq.2.2.2.2.2.1;let Tf:=Cq.2.2.2.2.2.2.1;let LU:=Cq.2.2.2.2.2.2.2.1;let HU:=Cq.2.2.2.2.2.2.2.2.1;let Tg:=Cq.2.2.2.2.2.2.2.2.2.1;let Th:=Cq.2.2.2.2.2.2.2.2.2.2.1;let Ql:=Cq.2.2.2.2.2.2.2.2.2.2.2.1;let Qm:=Cq.2.2.2.2.2.2.2.2.2.2.2.2.1;let Qn:=Cq.2.2.2.2.2.2.2.2.2.2.2.2.2;bif v_132 then
     c9 q53 ((Yy,Ql,Qm,Qn,Yz),Yx) fun r_155=>
      some (r_155.1,())
    else
     CQ q77 Q2 ((((),(),(),Uu),((Qi,Qj,Qk,(Tb,(),Tc),((),Td),(),(),ls_140),(),(),(),ls_141),Yx,(Yy,(),(),(),Yz),ls_145,Te,Tf,LU,HU,Tg,Th,Ql,Qm,Qn)) fun Lr=>
      let v_212:=Lr.1.1;let ls_221:=Lr.2.2.1;let YC:=Lr.2.2.2.1.1;let YD:=Lr.2.2.2.1.2.2.2.2;let YE:=Lr.2.2.2.2.2.2.2.2.2.2.2.1;let YF:=Lr.2.2.2.2.2.2.2.2.2.2.2.2.1;let YG:=Lr.2.2.2.2.2.2.2.2.2.2.2.2.2;bif v_212 then
       c9 q55 ((YC,YE,YF,YG,YD),ls_221) fun r_234=>
        some (r_234.1,())
      else
       some (((YC,YE,YF,YG,YD),false),())
abbrev Wh.ab5:Type:=(Int×Unit×Unit×Unit×Unit)×dj.D×fk.D×List di.D×((Bool×Int×List UInt8×(Int×Unit×Unit)×(Unit×Int×Unit)×Unit×Unit×Unit)×Unit×Unit×Unit×Unit)×List an.D×List b9.D×List cw.D×List cg.D×List bm.D×List cp.D×List an.D
abbrev Wh.aiE:Type:=(Unit×Unit×Unit)×dj.D×((Bool×Int×List UInt8×(Int×Unit×Unit)×(Unit×Int×Unit)×Unit×Unit×Unit)×Unit×Unit×Unit×Unit)×fk.D×List di.D×List an.D×List b9.D×List cw.D×List cg.D×List bm.D×List cp.D×List an.D
def Wh.Q3 (x:ab5):Option (ab5⊕aiE):=
 let n_38:=x.1.1;let pb_39:=x.2.1;let A0:=x.2.2.1;let Az:=x.2.2.2.1;let AA:=x.2.2.2.2.1.1.1;let nI:=x.2.2.2.2.1.1.2.1;let zP:=x.2.2.2.2.1.1.2.2.1;let tn:=x.2.2.2.2.1.1.2.2.2.1.1;let xd:=x.2.2.2.2.1.1.2.2.2.1.2.2;let A1:=x.2.2.2.2.1.1.2.2.2.2.1.2;let s5:=x.2.2.2.2.1.1.2.2.2.2.2.2.2;let Ar:=x.2.2.2.2.1.2.2.2.2;let nS:=x.2.2.2.2.2.1;let w8:=x.2.2.2.2.2.2.1;let tc:=x.2.2.2.2.2.2.2.1;let AB:=x.2.2.2.2.2.2.2.2.1;let A2:=x.2.2.2.2.2.2.2.2.2.1;let AK:=x.2.2.2.2.2.2.2.2.2.2.1;let oc:=x.2.2.2.2.2.2.2.2.2.2.2;bif decide (n_38>0) then
  c9 q80 (pb_39,A0) fun Ld=>
   let TQ:List (di.D):=[Ld.1];let Bh:=Az++TQ;bif kL [decide (List.length Az+(1:Nat)≤eV)] then
    bn (zog H9 A0) fun C3=>
    bn (zog KS (C3.1,Ld.1)) fun r_62=>
    bif kL [qu (KS (C3.1,Ld.1)),qu (H9 A0)] then
     bif r_62.1.2 then
      some (.inl (((IntKind.wrap .i64 (n_38-1)),(),(),(),()),Ld.2.1,r_62.1.1,Bh,((AA,nI,zP,(tn,(),xd),((),A1),(),(),s5),(),(),(),Ar),nS,w8,tc,AB,A2,AK,oc))
     else
      some (.inl (((IntKind.wrap .i64 (n_38-1)),(),(),(),()),Ld.2.1,A0,Bh,((AA,nI,zP,(tn,(),xd),((),A1),(),(),s5),(),(),(),Ar),nS,w8,tc,AB,A2,AK,oc))
    else none
   else none
 else
  some (.inr (((),(),()),pb_39,((AA,nI,zP,(tn,(),xd),((),A1),(),(),s5),(),(),(),Ar),A0,Az,nS,w8,tc,AB,A2,AK,oc))
def Wh.ab6:(Unit×Unit×Unit)×dj.D×((Bool×Int×List UInt8×(Int×Unit×Unit)×(Unit×Int×Unit)×Unit×Unit×Unit)×Unit×Unit×Unit×Unit)×fk.D×List di.D×List an.D×List b9.D×List cw.D×List cg.D×List bm.D×List cp.D×List an.D:=default
def Wh.q81 (xs:dj.D×Int):Option ((List di.D×b7.D×List bm.D×List cp.D×List an.D×Unit)×dj.D×Unit):=
 let wX:=xs.1;let most_1:=xs.2;c9 q72 () fun r_2=>
  c9 m5 (wX,most_1) fun r_3=>
   g8 Q3 ab6 (((r_3.1,(),(),(),()),r_3.2.1,r_2.1,[],((false,0,[],(0,(),()),((),0,()),(),(),()),(),(),(),()),[],[],[],[],[],[],[])) fun Pm=>
    let L5:=Pm.2.1;let DG:=Pm.2.2.2.1;let CZ:=Pm.2.2.2.2.1;c9 H9 DG fun MQ=>
     some ((CZ,MQ.1),L5,())
def Wh.q83 (xs:dj.D):Option ((b7.D×List bm.D×List cp.D×List an.D×Unit)×dj.D×Unit):=
 let wX:dj.D:=xs;c9 q81 (wX,110) fun r_1=>
  some (r_1.1.2,r_1.2.1,())
def Wh.q4 (xs:dj.D×fk.D):Option ((b7.D×List bm.D×List cp.D×List an.D×Unit)×dj.D×Unit):=
 let wX:=xs.1;let w_1:=xs.2;c9 H9 w_1 fun r_2=>
  c9 m5 (wX,8) fun r_3=>
   bif(r_3.1==0) then
    bn (zog m5 (r_3.2.1,4)) fun gT=>
    bn (zog m5 (gT.2.1,2)) fun ov=>
    let Km:=List.set (r_2.1.2.1) (Int.toNat gT.1) ((List.getD (r_2.1.2.1) (Int.toNat gT.1) (0,0,0,[],0,((0,0,[],[],()),(0,0,[],()),()),())).1,List.getD [(-1:Int),0] (Int.toNat ov.1) 0,((List.getD (r_2.1.2.1) (Int.toNat gT.1) (0,0,0,[],0,((0,0,[],[],()),(0,0,[],()),()),())).2).2);bif kL [decide (0≤gT.1),decide (gT.1<(↑(List.length (r_2.1.2.1)):Int)),decide (0≤ov.1),decide (ov.1<(↑(2:Nat):Int)),qu (m5 (gT.2.1,2)),qu (m5 (r_3.2.1,4))] then
     some ((r_2.1.1,Km,r_2.1.2.2),ov.2.1,())
    else none
   else
    bif(r_3.1==1) then
     bn (zog m5 (r_3.2.1,4)) fun De=>
     bn (zog m5 (De.2.1,6)) fun JE=>
     let BR:=List.set (r_2.1.2.1) (Int.toNat De.1) ((List.getD (r_2.1.2.1) (Int.toNat De.1) (0,0,0,[],0,((0,0,[],[],()),(0,0,[],()),()),())).1,((List.getD (r_2.1.2.1) (Int.toNat De.1) (0,0,0,[],0,((0,0,[],[],()),(0,0,[],()),()),())).2).1,JE.1,(((List.getD (r_2.1.2.1) (Int.toNat De.1) (0,0,0,[],0,((0,0,[],[],()),(0,0,[],()),()),())).2).2).2);bif kL [decide (0≤De.1),decide (De.1<(↑(List.length (r_2.1.2.1)):Int)),qu (m5 (De.2.1,6)),qu (m5 (r_3.2.1,4))] then
      some ((r_2.1.1,BR,r_2.1.2.2),JE.2.1,())
     else none
    else
     bif(r_3.1==2) then
      let pb_25:Nat:=Int.toNat ((↑(List.length (r_2.1.2.1)):Int)-1);bif kL [true,decide (1≤(↑(List.length (r_2.1.2.1)):Int)),decide ((↑(List.length (r_2.1.2.1)):Int)≤(↑(List.length (r_2.1.2.1)):Int))] then
       some ((r_2.1.1,List.take pb_25 (List.drop (Int.toNat 1) (r_2.1.2.1)),r_2.1.2.2),r_3.2.1,())
      else none
     else
      bif(r_3.1==3) then
       let TJ:=r_2.1.1.2.2.1 ++ [(120:UInt8)];bif kL [decide (List.length (r_2.1.1.2.2.1)+(1:Nat)≤eV)] then
        some (((r_2.1.1.1,r_2.1.1.2.1,TJ,r_2.1.1.2.2.2),r_2.1.2),r_3.2.1,())
       else none
      else
       bif(r_3.1==4) then
        some ((((!r_2.1.1.1),r_2.1.1.2),r_2.1.2),r_3.2.1,())
       else
        bif(r_3.1==5) then
         let vN:List (an.D):=[(0,[(97:UInt8)],IntKind.wrap .i64 ((↑(List.length (r_2.1.2.2.2.1)):Int)+1),[(120:UInt8)],())];let DS:List (an.D):=r_2.1.2.2.2.1++vN;bif kL [decide (List.length (r_2.1.2.2.2.1)+(1:Nat)≤eV)] then
          some ((r_2.1.1,r_2.1.2.1,r_2.1.2.2.1,DS,r_2.1.2.2.2.2),r_3.2.1,())
         else none
        else
         bif(r_3.1==6) then
          let TM:=r_2.1.2.2.1 ++ [(7,[(120:UInt8)],false,())];bif kL [decide (List.length (r_2.1.2.2.1)+(1:Nat)≤eV)] then
           some ((r_2.1.1,r_2.1.2.1,TM,r_2.1.2.2.2),r_3.2.1,())
          else none
         else
          some (((r_2.1.1.1,r_2.1.1.2.1,r_2.1.1.2.2.1,((IntKind.wrap .i64 (r_2.1.1.2.2.2.1.1+1)),r_2.1.1.2.2.2.1.2),r_2.1.1.2.2.2.2),r_2.1.2),r_3.2.1,())
def Wh.q13 (xs:dj.D):Option ((b7.D×List bm.D×List cp.D×List an.D×Unit)×dj.D×Unit):=
 let wX:dj.D:=xs;c9 q83 wX fun r_1=>
  c9 m5 (r_1.2.1,14) fun r_2=>
   bif(r_2.1==0) then
    c9 Wh.q4 (r_2.2.1,r_1.1) fun dz=>
     some (dz.1,dz.2.1,())
   else
    some (r_1.1,r_2.2.1,())
def Wh.q7 (xs:dj.D):Option (bm.D×dj.D×Unit):=
 let wX:dj.D:=xs;c9 q13 wX fun r_1=>
  bn (zog m5 (r_1.2.1,(↑(List.length (r_1.1.2.1)):Int))) fun r_2=>
  let Du:=List.getD (r_1.1.2.1) (Int.toNat r_2.1) (0,0,0,[],0,((0,0,[],[],()),(0,0,[],()),()),());let AP:Int:=(↑(List.length (r_1.1.2.1)):Int);bif kL [decide (0≤r_2.1),decide (r_2.1<AP),qu (m5 (r_1.2.1,AP))] then
   some (Du,r_2.2.1,())
  else none
def Wh.A8 (xs:Int×Int×Int):Option (Bool×Unit):=
 let Dt:=xs.1;let Ta:=xs.2.1;let SQ:=xs.2.2;let nP:=bif decide (Dt≥Ta) then decide (Dt≤SQ) else false;some (nP,())
def Wh.q62 (xs:Int):Option (Bool×Unit):=
 let Dt:=xs;c9 A8 (Dt,0,3) fun r_1=>
  some (r_1.1,())
def Wh.KM (xs:nT.D):Option (Bool×Unit):=
 let nc:=xs;let A4:=bif bif bif bif bif bif(nc.1.1==0) then nc.1.2.1==0 else false then(↑(List.length (nc.1.2.2.1)):Int)==0 else false then(↑(List.length (nc.1.2.2.2.1)):Int)==0 else false then nc.2.1.1==0 else false then nc.2.1.2.1==0 else false then(↑(List.length (nc.2.1.2.2.1)):Int)==0 else false;some (A4,())
def Wh.Eg (xs:gv.D):Option (Int×Unit):=
 let fy:gv.D:=xs;bif kL [fy.2.1 != 0] then
  some ((IntKind.wrap .i64 (Int.tdiv (IntKind.wrap .i64 ((IntKind.wrap .i64 (fy.1+fy.2.1))-1)) fy.2.1)),())
 else none
abbrev Wh.Z4:Type:=(Int×Unit×List Int×Int)×gv.D
abbrev Wh.ahE:Type:=Bool×Unit⊕Unit×Unit
def Wh.G6 (x:Z4):Option (Z4⊕ahE):=
 let B8:=x.1.1;let C5:=x.1.2.2.1;let EL:=x.1.2.2.2;let nG:=x.2;bif decide (B8<EL) then
  let FE:=List.getD C5 (Int.toNat B8) 0;bif kL [decide (0≤B8),decide (B8<(↑(List.length C5):Int))] then
   bn (zog Eg nG) fun MM=>
   bn (zog A8 (FE,1,MM.1)) fun Hl=>
   bn (zog A8 (List.getD (nG.2.2.2.1) (Int.toNat B8) 0,1,99)) fun r_50=>
   let B9:=bif bif !Hl.1 then true else bif decide (B8>0) then decide (List.getD (nG.2.2.1) (Int.toNat (IntKind.wrap .i64 (B8-1))) 0≥FE) else false then true else !r_50.1;bif kL [(!!bif !Hl.1 then true else bif decide (B8>0) then decide (List.getD (nG.2.2.1) (Int.toNat (IntKind.wrap .i64 (B8-1))) 0≥FE) else false) || qu (A8 (List.getD (nG.2.2.2.1) (Int.toNat B8) 0,1,99)),(!!bif !Hl.1 then true else bif decide (B8>0) then decide (List.getD (nG.2.2.1) (Int.toNat (IntKind.wrap .i64 (B8-1))) 0≥FE) else false) || decide (0≤B8),(!!bif !Hl.1 then true else bif decide (B8>0) then decide (List.getD (nG.2.2.1) (Int.toNat (IntKind.wrap .i64 (B8-1))) 0≥FE) else false) || decide (B8<(↑(List.length (nG.2.2.2.1)):Int)),!(decide (B8>0) && !!Hl.1) || decide (0≤IntKind.wrap .i64 (B8-1)),!(decide (B8>0) && !!Hl.1) || decide (IntKind.wrap .i64 (B8-1)<(↑(List.length (nG.2.2.1)):Int)),qu (A8 (FE,1,MM.1)),qu (Eg nG)] then
    bif B9 then
     some (.inr (.inl (false,())))
    else
     some (.inl (((IntKind.wrap .i64 (B8+1)),(),C5,EL),nG))
   else none
  else none
 else
  some (.inr (.inr ((),())))
def Wh.Z5:Bool×Unit⊕Unit×Unit:=.inl default
def Wh.ED (xs:gv.D):Option (Bool×Unit):=
 let fy:gv.D:=xs;bn (zog A8 (fy.1,1,300)) fun r_1=>
 bn (zog A8 (fy.2.1,1,16)) fun r_2=>
 bn (zog Eg fy) fun gT=>
 let n4:=bif bif !r_1.1 then true else !r_2.1 then true else decide (gT.1>24);bif kL [(!!bif !r_1.1 then true else !r_2.1) || qu (Eg fy),!!!r_1.1 || qu (A8 (fy.2.1,1,16)),qu (A8 (fy.1,1,300))] then
  bif n4 then
   some (false,())
  else
   let n_:Int:=(↑(List.length (fy.2.2.1)):Int);bn (zog A8 (n_,1,3)) fun Ei=>
   let n5:=bif bif !Ei.1 then true else(↑(List.length (fy.2.2.2.1)):Int) != n_ then true else List.getD (fy.2.2.1) (Int.toNat (IntKind.wrap .i64 (n_-1))) 0 != gT.1;bif kL [(!!bif !Ei.1 then true else(↑(List.length (fy.2.2.2.1)):Int) != n_) || qu (Eg fy),(!!bif !Ei.1 then true else(↑(List.length (fy.2.2.2.1)):Int) != n_) || decide (0≤IntKind.wrap .i64 (n_-1)),(!!bif !Ei.1 then true else(↑(List.length (fy.2.2.2.1)):Int) != n_) || decide (IntKind.wrap .i64 (n_-1)<n_),qu (A8 (n_,1,3))] then
    bif n5 then
     some (false,())
    else
     g8 G6 Z5 (((0,(),fy.2.2.1,n_),fy)) fun q_=>
      sumC q_ (fun y_54=>
       let FF:=y_54.1;some (FF,())) (fun _=>
       some (true,()))
   else none
 else none
abbrev Wh.aaB:Type:=(Int×List Int×Int×List Int×Int)×Unit
abbrev Wh.ahV:Type:=Bool×Unit⊕Int×Unit
def Wh.Ju (x:aaB):Option (aaB⊕ahV):=
 let n5:=x.1.1;let Uc:=x.1.2.1;let Se:=x.1.2.2.1;let s9:=x.1.2.2.2.1;let iL:=x.1.2.2.2.2;bif decide (n5<iL) then
  let nW:=List.getD s9 (Int.toNat n5) 0;bif kL [decide (0≤n5),decide (n5<(↑(List.length s9):Int))] then
   let nE:=IntKind.wrap .i64 (Se-1);bn (zog A8 (nW,0,nE)) fun EI=>
   let v9:=bif !EI.1 then true else bif decide (n5>0) then decide (List.getD Uc (Int.toNat (IntKind.wrap .i64 (n5-1))) 0≥nW) else false;bif kL [!(decide (n5>0) && !!EI.1) || decide (0≤IntKind.wrap .i64 (n5-1)),!(decide (n5>0) && !!EI.1) || decide (IntKind.wrap .i64 (n5-1)<(↑(List.length Uc):Int)),qu (A8 (nW,0,nE))] then
    bif v9 then
     some (.inr (.inl (false,())))
    else
     some (.inl (((IntKind.wrap .i64 (n5+1)),Uc,Se,s9,iL),()))
   else none
  else none
 else
  some (.inr (.inr (Se,())))
def Wh.aaC:Bool×Unit⊕Int×Unit:=.inl default
def Wh.Ii (xs:List Int×Int):Option (Bool×Unit):=
 let Hp:=xs.1;let Sc:=xs.2;g8 Ju aaC (((0,Hp,Sc,Hp,(↑(List.length Hp):Int)),())) fun q_=>
  sumC q_ (fun y_31=>
   let BX:=y_31.1;some (BX,())) (fun z_32=>
   let HC:=z_32.1;c9 A8 (HC,0,24) fun DJ=>
    some (DJ.1,()))
abbrev Wh.abm:Type:=(Int×Int×List Int×Int)×Unit
abbrev Wh.aij:Type:=Int×Unit
def Wh.OF (x:abm):Option (abm⊕aij):=
 let A9:=x.1.1;let m_10:=x.1.2.1;let B6:=x.1.2.2.1;let AN:=x.1.2.2.2;bif decide (A9<AN) then
  let pg:=List.getD B6 (Int.toNat A9) 0;bif kL [decide (0≤A9),decide (A9<(↑(List.length B6):Int))] then
   bif kL [decide (0≤pg)] then
    some (.inl (((IntKind.wrap .i64 (A9+1)),pZ Go.BinOp.or Go.IntKind.u32 m_10 (IntKind.wrap .u32 ((1:Int)*2 ^ Min.min (Int.toNat pg) (Go.IntKind.bits Go.IntKind.u32))),B6,AN),()))
   else none
  else none
 else
  some (.inr (m_10,()))
def Wh.abn:Int×Unit:=default
def Wh.Jz (xs:List Int):Option (Int×Unit):=
 let Hp:=xs;g8 OF abn (((0,0,Hp,(↑(List.length Hp):Int)),())) fun Pj=>
  let m_19:=Pj.1;some (m_19,())
abbrev Wh.abN:Type:=(Int×Int×List e_.D×Int)×Unit
abbrev Wh.aiv:Type:=Bool×Unit⊕Unit×Unit
def Wh.MC (x:abN):Option (abN⊕aiv):=
 let ID:=x.1.1;let Zo:=x.1.2.1;let E8:=x.1.2.2.1;let v_70:=x.1.2.2.2;bif decide (ID<v_70) then
  let Oq:=List.getD E8 (Int.toNat ID) ([],[],());bif kL [decide (0≤ID),decide (ID<(↑(List.length E8):Int))] then
   let RI:List Int:=List.take (Int.toNat ((↑(List.length Oq.1):Int)-1)) (List.drop (Int.toNat 1) Oq.1);bn (zog Jz RI) fun OO=>
   let v_78:=pZ Go.BinOp.and Go.IntKind.u32 OO.1 Zo != 0;bif kL [qu (Jz RI),true,decide (1≤(↑(List.length Oq.1):Int)),decide ((↑(List.length Oq.1):Int)≤(↑(List.length Oq.1):Int))] then
    bif v_78 then
     some (.inr (.inl (false,())))
    else
     some (.inl (((IntKind.wrap .i64 (ID+1)),Zo,E8,v_70),()))
   else none
  else none
 else
  some (.inr (.inr ((),())))
def Wh.abO:Bool×Unit⊕Unit×Unit:=.inl default
abbrev Wh.abL:Type:=(Int×Int×Unit×List e_.D×Int)×ei.D
abbrev Wh.aiu:Type:=Bool×Unit⊕(Int×Unit)×ei.D
def Wh.Iq (x:abL):Option (abL⊕aiu):=
 let w9:=x.1.1;let Zn:=x.1.2.1;let v9:=x.1.2.2.2.1;let CP:=x.1.2.2.2.2;let Bp:=x.2;bif decide (w9<CP) then
  let DS:=List.getD v9 (Int.toNat w9) ([],[],());bif kL [decide (0≤w9),decide (w9<(↑(List.length v9):Int))] then
   let BX:Int:=(↑(List.length DS.1):Int);bn (zog Ii (DS.1,Bp.1)) fun Gq=>
   let Ll:=bif bif bif BX==0 then true else !Gq.1 then true else(↑(List.length DS.2.1):Int) != Bp.2.1 then true else bif decide (w9>0) then decide (List.getD ((List.getD (Bp.2.2.1) (Int.toNat (IntKind.wrap .i64 (w9-1))) ([],[],())).1) (Int.toNat 0) 0≥List.getD DS.1 (Int.toNat 0) 0) else false;bif kL [!(decide (w9>0) && !bif bif BX==0 then true else !Gq.1 then true else(↑(List.length DS.2.1):Int) != Bp.2.1) || decide ((0:Int)≤0),!(decide (w9>0) && !bif bif BX==0 then true else !Gq.1 then true else(↑(List.length DS.2.1):Int) != Bp.2.1) || decide (0<BX),!(decide (w9>0) && !bif bif BX==0 then true else !Gq.1 then true else(↑(List.length DS.2.1):Int) != Bp.2.1) || decide ((0:Int)≤0),!(decide (w9>0) && !bif bif BX==0 then true else !Gq.1 then true else(↑(List.length DS.2.1):Int) != Bp.2.1) || decide (0<(↑(List.length ((List.getD (Bp.2.2.1) (Int.toNat (IntKind.wrap .i64 (w9-1))) ([],[],())).1)):Int)),!(decide (w9>0) && !bif bif BX==0 then true else !Gq.1 then true else(↑(List.length DS.2.1):Int) != Bp.2.1) || decide (0≤IntKind.wrap .i64 (w9-1)),!(decide (w9>0) && !bif bif BX==0 then true else !Gq.1 then true else(↑(List.length DS.2.1):Int) != Bp.2.1) || decide (IntKind.wrap .i64 (w9-1)<(↑(List.length (Bp.2.2.1)):Int)),!!BX==0 || qu (Ii (DS.1,Bp.1))] then
    bif Ll then
     some (.inr (.inl (false,())))
    else
     let Lm:=List.getD DS.1 (Int.toNat 0) 0;let ahc:Int:=pZ Go.BinOp.or Go.IntKind.u32 Zn (IntKind.wrap .u32 ((1:Int)*2 ^ Min.min (Int.toNat Lm) (Go.IntKind.bits Go.IntKind.u32)));bif kL [decide (0≤Lm),true,decide (0<BX)] then
      some (.inl (((IntKind.wrap .i64 (w9+1)),ahc,(),v9,CP),Bp))
     else none
   else none
  else none
 else
  some (.inr (.inr ((Zn,()),Bp)))
def Wh.abM:Bool×Unit⊕(Int×Unit)×ei.D:=.inl default
def Wh.Gh (xs:ei.D):Option (Bool×Unit):=
 let cx:=xs;bn (zog A8 (cx.1,1,24)) fun r_1=>
 bn (zog A8 (cx.2.1,1,16)) fun r_2=>
 let AO:=bif !r_1.1 then true else !r_2.1;bif kL [!!!r_1.1 || qu (A8 (cx.2.1,1,16)),qu (A8 (cx.1,1,24))] then
  bif AO then
   some (false,())
  else
   let AP:Int:=(↑(List.length (cx.2.2.1)):Int);g8 Iq abM (((0,0,(),cx.2.2.1,AP),cx)) fun q_=>
    sumC q_ (fun y_48=>
     let IB:=y_48.1;some (IB,())) (fun z_49=>
     let ahd:=z_49.1.1;let tc:=z_49.2;let IC:Int:=(↑(List.length (tc.2.2.1)):Int);g8 MC abO (((0,ahd,tc.2.2.1,IC),())) fun q_=>
      sumC q_ (fun y_81=>
       let IE:=y_81.1;some (IE,())) (fun _=>
       some (true,())))
 else none
def Wh.Ih (xs:nT.D):Option (Bool×Unit):=
 let nc:=xs;bn (zog ED nc.1) fun r_1=>
 bn (zog Gh nc.2.1) fun r_2=>
 bn (zog Eg nc.1) fun gT=>
 let A9:=bif bif bif r_1.1 then r_2.1 else false then nc.2.1.1==gT.1 else false then nc.2.1.2.1==nc.1.2.1 else false;bif kL [(!bif r_1.1 then r_2.1 else false) || qu (Eg nc.1),!r_1.1 || qu (Gh nc.2.1),qu (ED nc.1)] then
  some (A9,())
 else none
abbrev Wh.Z0:Type:=(Int×List UInt8×Int)×Unit
abbrev Wh.ahD:Type:=Bool×Unit⊕List UInt8×Unit
def Wh.KF (x:Z0):Option (Z0⊕ahD):=
 let BW:=x.1.1;let O5:=x.1.2.1;let AN:=x.1.2.2;bif decide (BW<AN) then
  let pg:Int:=(↑(UInt8.toNat (List.getD O5 (Int.toNat BW) (0:UInt8))):Int);let Av:=bif decide (pg<97) then true else decide (pg>122);bif kL [!!decide (pg<97) || decide (0≤BW),!!decide (pg<97) || decide (BW<(↑(List.length O5):Int)),decide (0≤BW),decide (BW<(↑(List.length O5):Int))] then
   bif Av then
    some (.inr (.inl (false,())))
   else
    some (.inl (((IntKind.wrap .i64 (BW+1)),O5,AN),()))
  else none
 else
  some (.inr (.inr (O5,())))
def Wh.Z3:Bool×Unit⊕List UInt8×Unit:=.inl default
def Wh.Jl (xs:List UInt8):Option (Bool×Unit):=
 let Bj:=xs;g8 KF Z3 (((0,Bj,(↑(List.length Bj):Int)),())) fun q_=>
  sumC q_ (fun Nb=>
   let nW:=Nb.1;some (nW,())) (fun z_21=>
   let akm:=z_21.1;c9 A8 ((↑(List.length akm):Int),1,6) fun Lb=>
    some (Lb.1,()))
abbrev Wh.abq:Type:=(Int×Int×List e_.D×Int)×Unit
abbrev Wh.ail:Type:=(List UInt8×Bool)×Unit⊕Unit×Unit
def Wh.My (x:abq):Option (abq⊕ail):=
 let pg:=x.1.1;let Pu:=x.1.2.1;let n5:=x.1.2.2.1;let Av:=x.1.2.2.2;bif decide (pg<Av) then
  let Kj:=List.getD n5 (Int.toNat pg) ([],[],());bif kL [decide (0≤pg),decide (pg<(↑(List.length n5):Int))] then
   let iL:Int:=(↑(List.length Kj.1):Int);let nE:=bif iL==1 then List.getD Kj.1 (Int.toNat 0) 0==Pu else false;bif kL [!iL==1 || decide ((0:Int)≤0),!iL==1 || decide (0<iL)] then
    bif nE then
     some (.inr (.inl ((Kj.2.1,true),())))
    else
     some (.inl (((IntKind.wrap .i64 (pg+1)),Pu,n5,Av),()))
   else none
  else none
 else
  some (.inr (.inr ((),())))
def Wh.abr:(List UInt8×Bool)×Unit⊕Unit×Unit:=.inl default
def Wh.q25 (xs:ei.D×Int):Option ((List UInt8×Bool)×Unit):=
 let cx:=xs.1;let C_:=xs.2;let v_2:Int:=(↑(List.length (cx.2.2.1)):Int);g8 My abr (((0,C_,cx.2.2.1,v_2),())) fun q_=>
  sumC q_ (fun JR=>
   let v9:=JR.1.1;let CP:=JR.1.2;some ((v9,CP),())) (fun _=>
   some (([],false),()))
abbrev Wh.abt:Type:=(Int×Unit)×ei.D
abbrev Wh.q2_l0Y:Type:=Int×Unit
def Wh.Mz (x:abt):Option (abt⊕q2_l0Y):=
 let n_7:=x.1.1;let Ja:=x.2;bif decide (n_7<Ja.1) then
  c9 q25 (Ja,n_7) fun By=>
   bif(!By.1.2) then
    some (.inr (n_7,()))
   else
    some (.inl (((IntKind.wrap .i64 (n_7+1)),()),Ja))
 else
  some (.inr (n_7,()))
def Wh.abu:Int×Unit:=default
def Wh.q2 (xs:ei.D):Option (Int×Unit):=
 let cx:=xs;g8 Mz abu (((0,()),cx)) fun y_14=>
  let n_15:=y_14.1;some (n_15,())
def Wh.q5 (xs:nT.D):Option (Bool×Unit):=
 let nc:=xs;c9 Wh.q2 nc.2.1 fun r_1=>
  some ((r_1.1==nc.2.1.1),())
def Wh.Gg (xs:bm.D):Option (Bool×Unit):=
 let b8:=xs;bn (zog q62 b8.1) fun r_1=>
 bn (zog A8 (b8.2.1,0,99999)) fun r_2=>
 bn (zog A8 (b8.2.2.2.2.1,0,99999)) fun gT=>
 let n4:=bif bif !r_1.1 then true else !r_2.1 then true else !gT.1;bif kL [(!!bif !r_1.1 then true else !r_2.1) || qu (A8 (b8.2.2.2.2.1,0,99999)),!!!r_1.1 || qu (A8 (b8.2.1,0,99999)),qu (q62 b8.1)] then
  bif n4 then
   some (false,())
  else
   let n_:=decide (b8.2.2.2.2.1>0);bn (zog KM (b8.2.2.2.2.2.1)) fun AU=>
   bn (zog Ih (b8.2.2.2.2.2.1)) fun BU=>
   let AN:=bif bif !n_ then !AU.1 else false then true else bif n_ then !BU.1 else false;bif kL [!(n_ && !bif !n_ then !AU.1 else false) || qu (Ih (b8.2.2.2.2.2.1)),!!n_ || qu (KM (b8.2.2.2.2.2.1))] then
    bif AN then
     some (false,())
    else
     bif(b8.2.2.1==0) then
      let pg:=b8.2.2.2.1 == [];some (bif pg then !n_ else false,())
     else
      let BA:=b8.2.1==0;bn (zog Jl (b8.2.2.2.1)) fun Fz=>
      let Av:=bif BA then true else !Fz.1;bif kL [!!BA || qu (Jl (b8.2.2.2.1))] then
       bif Av then
        some (false,())
       else
        let v5:=b8.2.2.1==1;bif v5 then
         bif v5 then
          bn (zog Wh.q5 (b8.2.2.2.2.2.1)) fun Hi=>
          let A5:=bif !n_ then true else !Hi.1;bif kL [!!!n_ || qu (Wh.q5 (b8.2.2.2.2.2.1))] then
           some (A5,())
          else none
         else
          bif(b8.2.2.1==2) then
           bn (zog Wh.q5 (b8.2.2.2.2.2.1)) fun Gp=>
           let Gu:=bif n_ then !Gp.1 else false;bif kL [!n_ || qu (Wh.q5 (b8.2.2.2.2.2.1))] then
            some (Gu,())
           else none
          else
           bif(b8.2.2.1==3) then
            bn (zog Wh.q5 (b8.2.2.2.2.2.1)) fun EI=>
            let CP:=bif n_ then EI.1 else false;bif kL [!n_ || qu (Wh.q5 (b8.2.2.2.2.2.1))] then
             some (CP,())
            else none
           else
            some (false,())
        else
         bif(b8.2.2.1==4) then
          bn (zog Wh.q5 (b8.2.2.2.2.2.1)) fun E7=>
          let BX:=bif !n_ then true else !E7.1;bif kL [!!!n_ || qu (Wh.q5 (b8.2.2.2.2.2.1))] then
           some (BX,())
          else none
         else
          bif(b8.2.2.1==2) then
           bn (zog Wh.q5 (b8.2.2.2.2.2.1)) fun DJ=>
           let EL:=bif n_ then !DJ.1 else false;bif kL [!n_ || qu (Wh.q5 (b8.2.2.2.2.2.1))] then
            some (EL,())
           else none
          else
           bif(b8.2.2.1==3) then
            bn (zog Wh.q5 (b8.2.2.2.2.2.1)) fun Ix=>
            let Ll:=bif n_ then Ix.1 else false;bif kL [!n_ || qu (Wh.q5 (b8.2.2.2.2.2.1))] then
             some (Ll,())
            else none
           else
            some (false,())
      else none
   else none
 else none
def Wh.q1 (xs:bm.D):Option (List eL.D×Unit):=
 let b8:=xs;let Ed:List (eL.D):=[(1,b8.1,b8.2.1,b8.2.2.2.2.1,0,b8.2.2.2.1,[],())];some (Ed,())
abbrev Wh.Z8:Type:=(Int×List eL.D×List eL.D)×Unit
abbrev Wh.ahG:Type:=Bool×Unit⊕Unit×Unit
def Wh.OB (x:Z8):Option (Z8⊕ahG):=
 let CG:=x.1.1;let a_18:=x.1.2.1;let b_19:=x.1.2.2;let iL:Int:=(↑(List.length a_18):Int);bif decide (CG<iL) then
  let nW:=List.getD a_18 (Int.toNat CG) (0,0,0,0,0,[],[],());let nE:=List.getD b_19 (Int.toNat CG) (0,0,0,0,0,[],[],());bn (zog EE nW) fun FA=>
  let Dy:=bif !(nW.1==nE.1&&(nW.2.1==nE.2.1&&(nW.2.2.1==nE.2.2.1&&(nW.2.2.2.1==nE.2.2.2.1&&(nW.2.2.2.2.1==nE.2.2.2.2.1&&(nW.2.2.2.2.2.1==nE.2.2.2.2.2.1&&(nW.2.2.2.2.2.2.1==nE.2.2.2.2.2.2.1&&true))))))) then true else !FA.1;bif kL [!!!(nW.1==nE.1&&(nW.2.1==nE.2.1&&(nW.2.2.1==nE.2.2.1&&(nW.2.2.2.1==nE.2.2.2.1&&(nW.2.2.2.2.1==nE.2.2.2.2.1&&(nW.2.2.2.2.2.1==nE.2.2.2.2.2.1&&(nW.2.2.2.2.2.2.1==nE.2.2.2.2.2.2.1&&true))))))) || qu (EE nW),!!!(nW.1==nE.1&&(nW.2.1==nE.2.1&&(nW.2.2.1==nE.2.2.1&&(nW.2.2.2.1==nE.2.2.2.1&&(nW.2.2.2.2.1==nE.2.2.2.2.1&&(nW.2.2.2.2.2.1==nE.2.2.2.2.2.1&&(nW.2.2.2.2.2.2.1==nE.2.2.2.2.2.2.1&&true))))))) || decide (0≤CG),!!!(nW.1==nE.1&&(nW.2.1==nE.2.1&&(nW.2.2.1==nE.2.2.1&&(nW.2.2.2.1==nE.2.2.2.1&&(nW.2.2.2.2.1==nE.2.2.2.2.1&&(nW.2.2.2.2.2.1==nE.2.2.2.2.2.1&&(nW.2.2.2.2.2.2.1==nE.2.2.2.2.2.2.1&&true))))))) || decide (CG<iL),decide (0≤CG),decide (CG<(↑(List.length b_19):Int)),decide (0≤CG),decide (CG<iL)] then
   bif Dy then
    some (.inr (.inl (false,())))
   else
    some (.inl (((IntKind.wrap .i64 (CG+1)),a_18,b_19),()))
  else none
 else
  some (.inr (.inr ((),())))
def Wh.Z9:Bool×Unit⊕Unit×Unit:=.inl default
def Wh.G7 (xs:List eL.D×List eL.D):Option (Bool×Unit):=
 let se:=xs.1;let b_1:=xs.2;let v_2:Int:=(↑(List.length se):Int);let AO:Int:=(↑(List.length b_1):Int);let AP:=v_2 != AO;bif AP then
  some (false,())
 else
  g8 OB Z9 (((0,se,b_1),())) fun q_=>
   sumC q_ (fun Nc=>
    let Gw:=Nc.1;some (Gw,())) (fun _=>
    some (true,()))
def Wh.q40 (xs:gv.D):Option ((Int×Int×List Int×List Int×Unit)×Unit):=
 let fy:gv.D:=xs;let Ed:List Int:=[]++fy.2.2.1;let BI:List Int:=[]++fy.2.2.2.1;bif kL [decide ((0:Nat)+List.length (fy.2.2.2.1)≤eV),decide ((0:Nat)+List.length (fy.2.2.1)≤eV)] then
  some ((fy.1,fy.2.1,Ed,BI,()),())
 else none
abbrev Wh.ZD:Type:=(Int×Unit×List e_.D×Unit×Int)×(Int×Int×Unit×Unit)×(Int×Int×Unit×Unit)×List e_.D×List e_.D
abbrev Wh.ahr:Type:=(Unit×Unit)×(Int×Int×Unit×Unit)×(Int×Int×Unit×Unit)×List e_.D×List e_.D
def Wh.L_ (x:ZD):Option (ZD⊕ahr):=
 let s9:=x.1.1;let iL:=x.1.2.2.1;let A5:=x.1.2.2.2.2;let we:=x.2.1.1;let BG:=x.2.1.2.1;let Bc:=x.2.1.2.2.2;let AY:=x.2.2.1.1;let BB:=x.2.2.1.2.1;let Bl:=x.2.2.1.2.2.2;let r5:=x.2.2.2.1;let Cn:=x.2.2.2.2;bif decide (s9<A5) then
  let vN:=List.getD iL (Int.toNat s9) ([],[],());bif kL [decide (0≤s9),decide (s9<(↑(List.length iL):Int))] then
   let DS:List Int:=[]++vN.1;let wv:=r5 ++ [(DS,vN.2.1,())];bif kL [decide (List.length r5+(1:Nat)≤eV),decide ((0:Nat)+List.length vN.1≤eV)] then
    some (.inl (((IntKind.wrap .i64 (s9+1)),(),iL,(),A5),(we,BG,(),Bc),(AY,BB,(),Bl),wv,Cn))
   else none
  else none
 else
  some (.inr (((),()),(AY,BB,(),Bl),(we,BG,(),Bc),Cn,r5))
def Wh.ZE:(Unit×Unit)×(Int×Int×Unit×Unit)×(Int×Int×Unit×Unit)×List e_.D×List e_.D:=default
def Wh.q10 (xs:ei.D):Option ((Int×Int×List e_.D×Unit)×Unit):=
 let cx:=xs;let v_1:Int:=(↑(List.length (cx.2.2.1)):Int);g8 L_ ZE (((0,(),cx.2.2.1,(),v_1),(cx.1,cx.2.1,(),()),(0,0,(),()),[],[])) fun RQ=>
  let Az:=RQ.2.2.1.1;let AA:=RQ.2.2.1.2.1;let nI:=RQ.2.2.1.2.2.2;let tn:=RQ.2.2.2.2;some ((Az,AA,tn,nI),())
def Wh.q63 (xs:nT.D):Option (((Int×Int×List Int×List Int×Unit)×(Int×Int×List e_.D×Unit)×Unit)×Unit):=
 let nc:=xs;bn (zog q40 nc.1) fun r_1=>
 bn (zog q10 nc.2.1) fun r_2=>
 bif kL [qu (q10 nc.2.1),qu (q40 nc.1)] then
  some ((r_1.1,r_2.1,()),())
 else none
def Wh.MI (xs:bm.D):Option ((Int×Int×Int×List UInt8×Int×((Int×Int×List Int×List Int×Unit)×(Int×Int×List e_.D×Unit)×Unit)×Unit)×Unit):=
 let b8:=xs;c9 q63 (b8.2.2.2.2.2.1) fun r_1=>
  some ((b8.1,b8.2.1,b8.2.2.1,b8.2.2.2.1,b8.2.2.2.2.1,r_1.1,b8.2.2.2.2.2.2),())
abbrev Wh.Z6:Type:=(Int×List Int×List Int)×Unit
abbrev Wh.ahF:Type:=Bool×Unit⊕Unit×Unit
def Wh.Mg (x:Z6):Option (Z6⊕ahF):=
 let D6:=x.1.1;let b_12:=x.1.2.1;let a_13:=x.1.2.2;let pg:=decide (D6<(↑(List.length a_13):Int));bif pg then
  let BA:=List.getD a_13 (Int.toNat D6) 0;let n5:=List.getD b_12 (Int.toNat D6) 0;let Av:=BA != n5;bif kL [decide (0≤D6),decide (D6<(↑(List.length b_12):Int)),decide (0≤D6),pg] then
   bif Av then
    some (.inr (.inl (false,())))
   else
    some (.inl (((IntKind.wrap .i64 (D6+1)),b_12,a_13),()))
  else none
 else
  some (.inr (.inr ((),())))
def Wh.Z7:Bool×Unit⊕Unit×Unit:=.inl default
def Wh.F5 (xs:List Int×List Int):Option (Bool×Unit):=
 let se:=xs.1;let b_1:=xs.2;let v_2:Bool:=(↑(List.length se):Int) != (↑(List.length b_1):Int);bif v_2 then
  some (false,())
 else
  g8 Mg Z7 (((0,b_1,se),())) fun q_=>
   sumC q_ (fun Nb=>
    let nW:=Nb.1;some (nW,())) (fun _=>
    some (true,()))
def Wh.KG (xs:gv.D×gv.D):Option (Bool×Unit):=
 let se:=xs.1;let b_1:=xs.2;let v_2:=se.1==b_1.1;bn (zog F5 (se.2.2.1,b_1.2.2.1)) fun gT=>
 bn (zog F5 (se.2.2.2.1,b_1.2.2.2.1)) fun AU=>
 let BW:=bif bif bif v_2 then se.2.1==b_1.2.1 else false then gT.1 else false then AU.1 else false;bif kL [(!bif bif v_2 then se.2.1==b_1.2.1 else false then gT.1 else false) || qu (F5 (se.2.2.2.1,b_1.2.2.2.1)),(!bif v_2 then se.2.1==b_1.2.1 else false) || qu (F5 (se.2.2.1,b_1.2.2.1))] then
  some (BW,())
 else none
abbrev Wh.abP:Type:=(Int×Unit×Unit)×ei.D×ei.D
abbrev Wh.aiw:Type:=Bool×Unit⊕Unit×Unit
def Wh.MD (x:abP):Option (abP⊕aiw):=
 let wm:=x.1.1;let Bb:=x.2.1;let CH:=x.2.2;let A5:Int:=(↑(List.length (CH.2.2.1)):Int);bif decide (wm<A5) then
  let nE:=List.getD (CH.2.2.1) (Int.toNat wm) ([],[],());let AW:=List.getD (Bb.2.2.1) (Int.toNat wm) ([],[],());bn (zog F5 (nE.1,AW.1)) fun EI=>
  let v9:=bif !nE.2.1==AW.2.1 then true else !EI.1;bif kL [!!!nE.2.1==AW.2.1 || qu (F5 (nE.1,AW.1)),!!!nE.2.1==AW.2.1 || decide (0≤wm),!!!nE.2.1==AW.2.1 || decide (wm<(↑(List.length (Bb.2.2.1)):Int)),!!!nE.2.1==AW.2.1 || decide (0≤wm),!!!nE.2.1==AW.2.1 || decide (wm<A5),decide (0≤wm),decide (wm<(↑(List.length (Bb.2.2.1)):Int)),decide (0≤wm),decide (wm<A5)] then
   bif v9 then
    some (.inr (.inl (false,())))
   else
    some (.inl (((IntKind.wrap .i64 (wm+1)),(),()),Bb,CH))
  else none
 else
  some (.inr (.inr ((),())))
def Wh.abQ:Bool×Unit⊕Unit×Unit:=.inl default
def Wh.q65 (xs:ei.D×ei.D):Option (Bool×Unit):=
 let se:=xs.1;let b_1:=xs.2;let nP:=bif bif(se.1 != b_1.1) then true else se.2.1 != b_1.2.1 then true else(↑(List.length (se.2.2.1)):Int) != (↑(List.length (b_1.2.2.1)):Int);bif nP then
  some (false,())
 else
  g8 MD abQ (((0,(),()),b_1,se)) fun q_=>
   sumC q_ (fun y_31=>
    let BX:=y_31.1;some (BX,())) (fun _=>
    some (true,()))
def Wh.q41 (xs:nT.D×nT.D):Option (Bool×Unit):=
 let se:=xs.1;let b_1:=xs.2;bn (zog KG (se.1,b_1.1)) fun r_2=>
 bn (zog q65 (se.2.1,b_1.2.1)) fun r_3=>
 let nP:=bif r_2.1 then r_3.1 else false;bif kL [!r_2.1 || qu (q65 (se.2.1,b_1.2.1)),qu (KG (se.1,b_1.1))] then
  some (nP,())
 else none
def Wh.Ir (xs:bm.D×bm.D):Option (Bool×Unit):=
 let se:=xs.1;let b_1:=xs.2;let v_2:=se.1==b_1.1;bn (zog q41 (se.2.2.2.2.2.1,b_1.2.2.2.2.2.1)) fun BU=>
 let A4:=bif bif bif bif bif v_2 then se.2.1==b_1.2.1 else false then se.2.2.1==b_1.2.2.1 else false then se.2.2.2.1==b_1.2.2.2.1 else false then se.2.2.2.2.1==b_1.2.2.2.2.1 else false then BU.1 else false;bif kL [(!bif bif bif bif v_2 then se.2.1==b_1.2.1 else false then se.2.2.1==b_1.2.2.1 else false then se.2.2.2.1==b_1.2.2.2.1 else false then se.2.2.2.2.1==b_1.2.2.2.2.1 else false) || qu (q41 (se.2.2.2.2.2.1,b_1.2.2.2.2.2.1))] then
  some (A4,())
 else none
abbrev Wh.aco:Type:=(Int×List UInt8×Unit×Int)×nT.D
abbrev Wh.aiM:Type:=(Unit×List UInt8)×nT.D
def Wh.OJ (x:aco):Option (aco⊕aiM):=
 let B6:=x.1.1;let Tv:=x.1.2.1;let A4:=x.1.2.2.2;let D8:=x.2;bif decide (B6<A4) then
  c9 q25 (D8.2.1,B6) fun Fz=>
   let Av:List UInt8:=Tv++Fz.1.1;bif kL [decide (List.length Tv+List.length Fz.1.1≤eV)] then
    some (.inl (((IntKind.wrap .i64 (B6+1)),Av,(),A4),D8))
   else none
 else
  some (.inr (((),Tv),D8))
def Wh.acp:(Unit×List UInt8)×nT.D:=default
def Wh.q89 (xs:nT.D):Option (List UInt8×Unit):=
 let nc:=xs;c9 Ih nc fun r_1=>
  bif !r_1.1 then
   some ([],())
  else
   c9 Wh.q2 nc.2.1 fun r_2=>
    g8 OJ acp (((0,[],(),r_2.1),nc)) fun Nb=>
     let Qv:=Nb.1.2;let we:=Nb.2;let nE:Int:=if we.1.1<(↑(List.length Qv):Int) then we.1.1 else(↑(List.length Qv):Int);let Gu:List UInt8:=List.take (Int.toNat (nE-0)) (List.drop (Int.toNat 0) Qv);bif kL [true,decide (0≤nE),decide (nE≤(↑(List.length Qv):Int))] then
      some (Gu,())
     else none
def Wh.Fy (xs:bm.D):Option (List UInt8×Unit):=
 let b8:=xs;bn (zog Gg b8) fun r_1=>
 let v_2:=bif !r_1.1 then true else b8.2.2.2.2.1==0;bif kL [qu (Gg b8)] then
  bif v_2 then
   some ([],())
  else
   c9 q89 (b8.2.2.2.2.2.1) fun r_3=>
    some (r_3.1,())
 else none
def Wh.q0 (xs:List Int):Option (bm.D×Unit):=
 let HB:=xs;c9 Mk HB fun r_1=>
  c9 Wh.q7 r_1.1 fun r_2=>
   bn (zog m5 (r_2.2.1,10)) fun r_3=>
   let Kl:dj.D:=bif decide (r_2.1.2.1>0) then r_3.2.1 else r_2.2.1;let nP:=decide (r_2.1.2.1>0);let n4:=bif nP then r_3.1==0 else false;bif kL [!nP || qu (m5 (r_2.2.1,10))] then
    bif n4 then
     c9 m5 (Kl,2) fun AG=>
      some ((r_2.1.1,(IntKind.wrap .i64 (99999-AG.1)),r_2.1.2.2),())
    else
     some (r_2.1,())
   else none
def Wh.K8 (xs:bm.D):Option (((Int×Int×Int×List UInt8×Int×((Int×Int×List Int×List Int×Unit)×(Int×Int×List e_.D×Unit)×Unit)×Unit)×List eL.D)×Unit):=
 let b8:=xs;c9 Gg b8 fun r_1=>
  bif !r_1.1 then
   some (((0,0,0,[],0,((0,0,[],[],()),(0,0,[],()),()),()),[]),())
  else
   c9 MI b8 fun r_2=>
    let n4:=bif bif(b8.2.2.2.2.1==0) then true else b8.2.2.1==3 then true else b8.2.1==99999;bif n4 then
     some ((r_2.1,[]),())
    else
     let G0:=IntKind.wrap .i64 (r_2.1.2.1+1);c9 Wh.q1 (r_2.1.1,G0,1,r_2.1.2.2.2) fun AU=>
      some (((r_2.1.1,G0,1,r_2.1.2.2.2),AU.1),())
def Wh.q3 (xs:List Int):Option (Bool×Unit):=
 let HB:=xs;bif decide ((↑(List.length HB):Int)>1048576) then
  some (true,())
 else
  c9 Wh.q0 HB fun r_2=>
   c9 K8 r_2.1 fun r_3=>
    c9 G4 r_2.1 fun dz=>
     bn (zog Ir (r_3.1.1,dz.1.1)) fun gT=>
     bn (zog G7 (r_3.1.2,dz.1.2)) fun ov=>
     bn (zog Eh r_2.1) fun z4=>
     let BW:=bif bif !gT.1 then true else !ov.1 then true else !z4.1;bif kL [(!!bif !gT.1 then true else !ov.1) || qu (Eh r_2.1),!!!gT.1 || qu (G7 (r_3.1.2,dz.1.2)),qu (Ir (r_3.1.1,dz.1.1))] then
      bif BW then
       let AN:=bif gT.1 then ov.1 else false;bif kL [!gT.1 || qu (G7 (r_3.1.2,dz.1.2)),qu (Ir (r_3.1.1,dz.1.1))] then
        some (AN,())
       else none
      else
       let A4:Int:=(↑(List.length r_3.1.2):Int);let pg:=A4==0;bif pg then
        c9 Ir (r_3.1.1,r_2.1) fun Ei=>
         some (Ei.1,())
       else
        let n5:=IntKind.wrap .i64 (r_2.1.2.1+1);bn (zog Fy r_3.1.1) fun CA=>
        bn (zog Fy r_2.1) fun FA=>
        bn (zog Gg r_3.1.1) fun OL=>
        let Gv:=bif bif bif bif bif r_3.1.1.2.1==n5 then r_3.1.1.2.2.2.2.1==r_2.1.2.2.2.2.1 else false then decide (r_2.1.2.2.2.2.1>0) else false then((((List.getD r_3.1.2 (Int.toNat 0) (0,0,0,0,0,[],[],())).2).2).2).1==r_2.1.2.2.2.2.1 else false then CA.1==FA.1 else false then OL.1 else false;bif kL [(!bif bif bif bif r_3.1.1.2.1==n5 then r_3.1.1.2.2.2.2.1==r_2.1.2.2.2.2.1 else false then decide (r_2.1.2.2.2.2.1>0) else false then((((List.getD r_3.1.2 (Int.toNat 0) (0,0,0,0,0,[],[],())).2).2).2).1==r_2.1.2.2.2.2.1 else false then CA.1==FA.1 else false) || qu (Gg r_3.1.1),(!bif bif bif r_3.1.1.2.1==n5 then r_3.1.1.2.2.2.2.1==r_2.1.2.2.2.2.1 else false then decide (r_2.1.2.2.2.2.1>0) else false then((((List.getD r_3.1.2 (Int.toNat 0) (0,0,0,0,0,[],[],())).2).2).2).1==r_2.1.2.2.2.2.1 else false) || qu (Fy r_2.1),(!bif bif bif r_3.1.1.2.1==n5 then r_3.1.1.2.2.2.2.1==r_2.1.2.2.2.2.1 else false then decide (r_2.1.2.2.2.2.1>0) else false then((((List.getD r_3.1.2 (Int.toNat 0) (0,0,0,0,0,[],[],())).2).2).2).1==r_2.1.2.2.2.2.1 else false) || qu (Fy r_3.1.1),(!bif bif r_3.1.1.2.1==n5 then r_3.1.1.2.2.2.2.1==r_2.1.2.2.2.2.1 else false then decide (r_2.1.2.2.2.2.1>0) else false) || decide ((0:Int)≤0),(!bif bif r_3.1.1.2.1==n5 then r_3.1.1.2.2.2.2.1==r_2.1.2.2.2.2.1 else false then decide (r_2.1.2.2.2.2.1>0) else false) || decide (0<A4)] then
         some (Gv,())
        else none
     else none
def Wh.q130 (xs:Int×Int):Option (Int×Unit):=
 let x_0:=xs.1;let by_1:=xs.2;let v_2:Int:=Int.fdiv x_0 (2 ^ Min.min (Int.toNat by_1) (Go.IntKind.bits Go.IntKind.u32));let AO:=IntKind.wrap .i64 (32-by_1);let n4:Int:=pZ Go.BinOp.or Go.IntKind.u32 v_2 (IntKind.wrap .u32 (x_0*2 ^ Min.min (Int.toNat AO) (Go.IntKind.bits Go.IntKind.u32)));bif kL [decide (0≤AO),decide (0≤by_1)] then
  some (n4,())
 else none
abbrev Wh.acq:Type:=(Unit×Unit)×(Int×Int×Unit×Unit×Unit)×(Int×Int×Unit×Unit×Unit)×List Int×List Int×List Int×List Int
abbrev Wh.aiN:Type:=(Unit×Unit)×(Int×Int×Unit×Unit×Unit)×(Int×Int×Unit×Unit×Unit)×List Int×List Int×List Int×List Int
def Wh.T1 (x:acq):Option (acq⊕aiN):=
 let w7:=x.2.1.1;let Ey:=x.2.1.2.1;let s_:=x.2.1.2.2.2.2;let AI:=x.2.2.1.1;let Bb:=x.2.2.1.2.1;let CH:=x.2.2.1.2.2.2.2;let CJ:=x.2.2.2.1;let we:=x.2.2.2.2.1;let BG:=x.2.2.2.2.2.1;let Bc:=x.2.2.2.2.2.2;c9 Eg (w7,Ey,CJ,we,s_) fun CA=>
  bif decide (CA.1>24) then
   some (.inl (((),()),(w7,(IntKind.wrap .i64 (Ey+1)),(),(),s_),(AI,Bb,(),(),CH),CJ,we,BG,Bc))
  else
   some (.inr (((),()),(AI,Bb,(),(),CH),(w7,Ey,(),(),s_),BG,Bc,CJ,we))
def Wh.aiO:(Unit×Unit)×(Int×Int×Unit×Unit×Unit)×(Int×Int×Unit×Unit×Unit)×List Int×List Int×List Int×List Int:=default
def Wh.q90 (xs:Int):Option ((Int×Int×List Int×List Int×Unit)×Unit):=
 let Qg:=xs;c9 A8 (Qg,1,300) fun r_1=>
  bif !r_1.1 then
   some ((0,0,[],[],()),())
  else
   g8 T1 aiO ((((),()),(Qg,8,(),(),()),(0,0,(),(),()),[],[],[],[])) fun C6=>
    let Bg:=C6.2.2.1.1;let wv:=C6.2.2.1.2.1;let ng:=C6.2.2.1.2.2.2.2;let nG:=C6.2.2.2.2.2.1;let AZ:=C6.2.2.2.2.2.2;c9 Eg (Bg,wv,nG,AZ,ng) fun Rb=>
     let k_43:=IntKind.wrap .i64 (Int.tdiv (IntKind.wrap .i64 (Rb.1+3)) 4);bif decide (k_43<Rb.1) then
      let TN:List Int:=[k_43,Rb.1];some ((Bg,wv,TN,[(2:Int),3],ng),())
     else
      let TP:List Int:=[Rb.1];some ((Bg,wv,TP,[(1:Int)],ng),())
end
