import Derived.Test.YthanhdmbelbfcaaGreatX6
set_option linter.defProp false
namespace Wh
end Wh
open Wh
open Go Go.Ab
noncomputable section
abbrev Wh.aap:Type:=(Int×Unit×Unit×Int×Int)×List Int×List Int
abbrev Wh.ag6:Type:=Unit×List Int
def Wh.KM (x:aap):Option (aap⊕ag6):=
 let Dg:=x.1.1;let s_48:=x.1.2.2.2.1;let d_49:=x.1.2.2.2.2;let nE:=x.2.1;let we:=x.2.2;bif decide (Dg<d_49) then
  c9 EX s_48 fun BW=>
   c9 EB (BW.1,(↑(List.length nE):Int)) fun Gk=>
    bn (zog Jg (we,List.getD nE (Int.toNat Gk.1) 0)) fun Fw=>
    let FA:=List.getD nE (Int.toNat Gk.1) 0;bif kL [qu (Jg (we,FA)),decide (0≤Gk.1),decide (Gk.1<(↑(List.length nE):Int))] then
     let pb_57:List Int:=[]++List.take (Int.toNat (Gk.1-0)) (List.drop (Int.toNat 0) nE);let Qf:List Int:=pb_57++List.take (Int.toNat ((↑(List.length nE):Int)-IntKind.wrap .i64 (Gk.1+1))) (List.drop (Int.toNat (IntKind.wrap .i64 (Gk.1+1))) nE);let ON:Nat:=Int.toNat (Gk.1-0);let MQ:=IntKind.wrap .i64 (Gk.1+1);bif kL [decide (List.length pb_57+List.length (List.take (Int.toNat ((↑(List.length nE):Int)-MQ)) (List.drop (Int.toNat MQ) nE))≤eV),decide (0≤MQ),decide (MQ≤(↑(List.length nE):Int)),decide ((↑(List.length nE):Int)≤(↑(List.length nE):Int)),decide ((0:Nat)+List.length (List.take ON (List.drop (Int.toNat 0) nE))≤eV),true,decide (0≤Gk.1),decide (Gk.1≤(↑(List.length nE):Int))] then
      some (.inl (((IntKind.wrap .i64 (Dg+1)),(),(),BW.1,d_49),Qf,Fw.1))
     else none
    else none
 else
  some (.inr ((),we))
def Wh.aaq:Unit×List Int:=default
abbrev Wh.aan:Type:=(Int×Unit×Int×Int×Int)×List Int
abbrev Wh.ag5:Type:=(Unit×Int×Int)×List Int
def Wh.Me (x:aan):Option (aan⊕ag5):=
 let CA:=x.1.1;let MC:=x.1.2.2.1;let d_19:=x.1.2.2.2.1;let Ww:=x.1.2.2.2.2;let CB:=x.2;bif decide (CA<Ww) then
  let Th:List Int:=[CA];let Bh:=CB++Th;bif kL [decide (List.length CB+(1:Nat)≤eV)] then
   some (.inl (((IntKind.wrap .i64 (CA+1)),(),MC,d_19,Ww),Bh))
  else none
 else
  some (.inr (((),MC,d_19),CB))
def Wh.aao:(Unit×Int×Int)×List Int:=default
def Wh.KL (xs:Int×Int):Option (List Int×Unit):=
 let Fb:=xs.1;let Q0:=xs.2;bn (zog EX Q0) fun r_2=>
 bn (zog EX r_2.1) fun dz=>
 bif kL [qu (EX r_2.1),qu (EX Q0)] then
  bn (zog EB (dz.1,65536)) fun g9=>
  bn (zog q79 (Fb,g9.1)) fun AN=>
  bif kL [qu (q79 (Fb,g9.1)),qu (EB (dz.1,65536))] then
   g8 Me aao (((0,(),dz.1,AN.1,Fb),[])) fun E8=>
    let s_28:=E8.1.2.1;let d_29:=E8.1.2.2;let Bi:=E8.2;g8 KM aaq (((0,(),(),s_28,d_29),Bi,[])) fun FD=>
     let BJ:=FD.2;some (BJ,())
  else none
 else none
def Wh.Ft (xs:gh.D×Int):Option (List Int×Unit):=
 let fT:=xs.1;let FI:=xs.2;c9 Bf fT fun r_2=>
  bif decide (FI<r_2.1) then
   let N5:List Int:=[FI];some (N5,())
  else
   bn (zog G3 (fT,FI)) fun g9=>
   bn (zog KL (g9.1,FI)) fun n5=>
   bif kL [qu (KL (g9.1,FI)),qu (G3 (fT,FI))] then
    some (n5.1,())
   else none
abbrev Wh.aaf:Type:=(Int×List Int×Unit×Int×List Int)×List Int
abbrev Wh.ag1:Type:=Unit×List Int
def Wh.F7 (x:aaf):Option (aaf⊕ag1):=
 let A8:=x.1.1;let IA:=x.1.2.1;let En:=x.1.2.2.2.1;let FF:=x.1.2.2.2.2;let CP:=x.2;let BX:=decide (A8<(↑(List.length IA):Int));let Ir:=bif BX then true else decide (En<(↑(List.length FF):Int));bif Ir then
  let Gp:=decide (En≥(↑(List.length FF):Int));let Fy:=bif Gp then true else bif BX then decide (List.getD IA (Int.toNat A8) 0<List.getD FF (Int.toNat En) 0) else false;bif kL [!(BX && !Gp) || decide (0≤En),!(BX && !Gp) || decide (En<(↑(List.length FF):Int)),!(BX && !Gp) || decide (0≤A8),!(BX && !Gp) || BX] then
   bif Fy then
    let N4:List Int:=[List.getD IA (Int.toNat A8) 0];let AM:=CP++N4;bif kL [decide (List.length CP+(1:Nat)≤eV),decide (0≤A8),BX] then
     some (.inl (((IntKind.wrap .i64 (A8+1)),IA,(),En,FF),AM))
    else none
   else
    let EH:=decide (A8≥(↑(List.length IA):Int));let Lb:=bif EH then true else decide (List.getD FF (Int.toNat En) 0<List.getD IA (Int.toNat A8) 0);bif kL [!!EH || decide (0≤A8),!!EH || BX,!!EH || decide (0≤En),!!EH || decide (En<(↑(List.length FF):Int))] then
     bif Lb then
      let pb_42:List Int:=[List.getD FF (Int.toNat En) 0];let nG:=CP++pb_42;bif kL [decide (List.length CP+(1:Nat)≤eV),decide (0≤En),decide (En<(↑(List.length FF):Int))] then
       some (.inl ((A8,IA,(),(IntKind.wrap .i64 (En+1)),FF),nG))
      else none
     else
      some (.inl (((IntKind.wrap .i64 (A8+1)),IA,(),(IntKind.wrap .i64 (En+1)),FF),CP))
    else none
  else none
 else
  some (.inr ((),CP))
def Wh.aag:Unit×List Int:=default
def Wh.H8 (xs:List Int×List Int):Option (List Int×Unit):=
 let Eg:=xs.1;let b_1:=xs.2;g8 F7 aag (((0,Eg,(),0,b_1),[])) fun MY=>
  let nE:=MY.2;some (nE,())
abbrev Wh.Zd:Type:=(Int×List UInt8×List UInt8×Unit)×List Int
abbrev Wh.agw:Type:=Unit×List Int
def Wh.L0 (x:Zd):Option (Zd⊕agw):=
 let Cz:=x.1.1;let b_13:=x.1.2.1;let a_14:=x.1.2.2.1;let v9:=x.2;let r5:=decide (Cz<(↑(List.length a_14):Int));bif r5 then
  let Tf:List Int:=[pZ Go.BinOp.xor Go.IntKind.u8 (↑(UInt8.toNat (List.getD a_14 (Int.toNat Cz) (0:UInt8))):Int) (↑(UInt8.toNat (List.getD b_13 (Int.toNat Cz) (0:UInt8))):Int)];let AD:=v9++Tf;bif kL [decide (List.length v9+(1:Nat)≤eV),decide (0≤Cz),decide (Cz<(↑(List.length b_13):Int)),decide (0≤Cz),r5] then
   some (.inl (((IntKind.wrap .i64 (Cz+1)),b_13,a_14,()),AD))
  else none
 else
  some (.inr ((),v9))
def Wh.Ze:Unit×List Int:=default
def Wh.F0 (xs:List UInt8×List UInt8):Option (List UInt8×Unit):=
 let Eg:=xs.1;let b_1:=xs.2;g8 L0 Ze (((0,b_1,Eg,()),[])) fun Hg=>
  let Bh:=Hg.2;some (tv Bh,())
abbrev Wh.ZC:Type:=(Int×Unit×Unit×Unit)×gv.D×e_.D×(Unit×List UInt8×Unit)×List Int
abbrev Wh.agI:Type:=(Unit×Unit)×(Unit×List UInt8×Unit)×gv.D×List Int
def Wh.KA (x:ZC):Option (ZC⊕agI):=
 let C8:=x.1.1;let Aw:=x.2.1;let B8:=x.2.2.1;let Bh:=x.2.2.2.1.2;let A9:=x.2.2.2.2;let th:Int:=(↑(List.length (B8.2.2.1)):Int);bif decide (C8<th) then
  let vT:=List.getD (B8.2.2.1) (Int.toNat C8) ([],[],());bn (zog EC (Aw.1,List.getD vT.1 (Int.toNat 0) 0)) fun E4=>
  bif kL [qu (EC (Aw.1,List.getD vT.1 (Int.toNat 0) 0)),true,decide (0<(↑(List.length vT.1):Int)),decide (0≤C8),decide (C8<th)] then
   bif E4.1 then
    bn (zog F0 (Aw.2.1,vT.2.1)) fun CU=>
    bn (zog H8 (Aw.1,vT.1)) fun K4=>
    bif kL [qu (F0 (Aw.2.1,vT.2.1)),decide (0≤C8),decide (C8<th),qu (H8 (Aw.1,vT.1)),decide (0≤C8),decide (C8<th)] then
     some (.inl (((IntKind.wrap .i64 (C8+1)),(),(),()),(K4.1,CU.1,()),B8,((),Bh),A9))
    else none
   else
    some (.inl (((IntKind.wrap .i64 (C8+1)),(),(),()),Aw,B8,((),Bh),A9))
  else none
 else
  some (.inr (((),()),((),Bh),Aw,A9))
def Wh.ZD:(Unit×Unit)×(Unit×List UInt8×Unit)×gv.D×List Int:=default
def Wh.Kz (xs:e_.D×gv.D):Option (gv.D×Unit):=
 let cx:=xs.1;let e_1:=xs.2;g8 KA ZD (((0,(),(),()),e_1,cx,((),[],()),[])) fun y_41=>
  let nG:=y_41.2.2.1;some (nG,())
abbrev Wh.Zy:Type:=(Int×List UInt8×List UInt8)×Unit
abbrev Wh.agG:Type:=List UInt8×Unit
def Wh.L5 (x:Zy):Option (Zy⊕agG):=
 let P5:=x.1.1;let DX:=x.1.2.1;let P_:=x.1.2.2;bif decide (P5>0) then
  let r_:Bool:=(Int.tmod P5 2)==1;bif r_ then
   let xb:List UInt8:=P_++DX;bif kL [decide (List.length P_+List.length DX≤eV)] then
    let je:List UInt8:=DX++DX;bif kL [decide (List.length DX+List.length DX≤eV)] then
     some (.inl (((IntKind.wrap .i64 (Int.tdiv P5 2)),je,xb),()))
    else none
   else none
  else
   let nS:List UInt8:=DX++DX;bif kL [decide (List.length DX+List.length DX≤eV)] then
    some (.inl (((IntKind.wrap .i64 (Int.tdiv P5 2)),nS,P_),()))
   else none
 else
  some (.inr (P_,()))
def Wh.Zz:List UInt8×Unit:=default
def Wh.Kx (xs:List UInt8×Int):Option (List UInt8×Unit):=
 let cx:=xs.1;let n_1:=xs.2;g8 L5 Zz (((n_1,cx,[]),())) fun Rs=>
  let out_26:=Rs.1;some (out_26,())
def Wh.Jf (xs:Int):Option (List UInt8×Unit):=
 let size_0:=xs;c9 Kx (tv [(0:Int)],size_0) fun r_1=>
  some (r_1.1,())
abbrev Wh.aah:Type:=(Int×Unit×Unit×Bool×Unit×Unit)×(Int×Int×Unit×Unit)×gv.D×(Int×Int×Unit×Unit)×(Int×Int×Unit×Unit)×List gv.D×List gv.D×List gv.D
abbrev Wh.ag2:Type:=(Unit×Unit×Unit×Bool)×(Int×Int×Unit×Unit)×(Int×Int×Unit×Unit)×gv.D×List gv.D×List gv.D
def Wh.F8 (x:aah):Option (aah⊕ag2):=
 let IK:=x.1.1;let EL:=x.1.2.2.2.1;let Ax:=x.2.1.1;let AV:=x.2.1.2.1;let AH:=x.2.1.2.2.2;let nP:=x.2.2.1;let AA:=x.2.2.2.1.1;let Ck:=x.2.2.2.1.2.1;let B9:=x.2.2.2.1.2.2.2;let Ba:=x.2.2.2.2.1.1;let BI:=x.2.2.2.2.1.2.1;let B_:=x.2.2.2.2.1.2.2.2;let Bb:=x.2.2.2.2.2.1;let AW:=x.2.2.2.2.2.2.1;let BJ:=x.2.2.2.2.2.2.2;let Rl:Int:=(↑(List.length AW):Int);bif decide (IK<Rl) then
  let GO:=List.getD AW (Int.toNat IK) ([],[],());bif kL [decide (0≤IK),decide (IK<Rl)] then
   let E5:=List.getD nP.1 (Int.toNat 0) 0;bn (zog EC (GO.1,E5)) fun r_70=>
   bif kL [qu (EC (GO.1,E5)),true,decide (0<(↑(List.length nP.1):Int))] then
    bif r_70.1 then
     bn (zog F0 (GO.2.1,nP.2.1)) fun r_71=>
     bn (zog H8 (GO.1,nP.1)) fun Jx=>
     bif kL [qu (F0 (GO.2.1,nP.2.1)),qu (H8 (GO.1,nP.1))] then
      let Rm:=bif !EL then decide (List.getD Jx.1 (Int.toNat 0) 0>E5) else false;bif kL [!!EL || decide ((0:Int)≤0),!!EL || decide (0<(↑(List.length nP.1):Int)),!!EL || decide ((0:Int)≤0),!!EL || decide (0<(↑(List.length Jx.1):Int))] then
       bif Rm then
        let LU:List (gv.D):=[nP];let Cq:=Bb++LU;bif kL [decide (List.length Bb+(1:Nat)≤eV)] then
         let pb_76:List (gv.D):=[(Jx.1,r_71.1,())];let Bn:=Cq++pb_76;bif kL [decide (List.length Cq+(1:Nat)≤eV)] then
          some (.inl (((IntKind.wrap .i64 (IK+1)),(),(),true,(),()),(Ax,AV,(),AH),nP,(AA,Ck,(),B9),(Ba,BI,(),B_),Bn,AW,BJ))
         else none
        else none
       else
        let Qi:List (gv.D):=[(Jx.1,r_71.1,())];let D7:=Bb++Qi;bif kL [decide (List.length Bb+(1:Nat)≤eV)] then
         some (.inl (((IntKind.wrap .i64 (IK+1)),(),(),EL,(),()),(Ax,AV,(),AH),nP,(AA,Ck,(),B9),(Ba,BI,(),B_),D7,AW,BJ))
        else none
      else none
     else none
    else
     let MR:=bif !EL then decide (List.getD GO.1 (Int.toNat 0) 0>E5) else false;bif kL [!!EL || decide ((0:Int)≤0),!!EL || decide (0<(↑(List.length nP.1):Int)),!!EL || decide ((0:Int)≤0),!!EL || decide (0<(↑(List.length GO.1):Int))] then
      bif MR then
       let pb_83:List (gv.D):=[nP];let CT:=Bb++pb_83;bif kL [decide (List.length Bb+(1:Nat)≤eV)] then
        let pb_85:List (gv.D):=[GO];let J6:=CT++pb_85;bif kL [decide (List.length CT+(1:Nat)≤eV)] then
         some (.inl (((IntKind.wrap .i64 (IK+1)),(),(),true,(),()),(Ax,AV,(),AH),nP,(AA,Ck,(),B9),(Ba,BI,(),B_),J6,AW,BJ))
        else none
       else none
      else
       let pb_88:List (gv.D):=[GO];let J7:=Bb++pb_88;bif kL [decide (List.length Bb+(1:Nat)≤eV)] then
        some (.inl (((IntKind.wrap .i64 (IK+1)),(),(),EL,(),()),(Ax,AV,(),AH),nP,(AA,Ck,(),B9),(Ba,BI,(),B_),J7,AW,BJ))
       else none
     else none
   else none
  else none
 else
  some (.inr (((),(),(),EL),(Ba,BI,(),B_),(Ax,AV,(),AH),nP,BJ,Bb))
def Wh.aai:(Unit×Unit×Unit×Bool)×(Int×Int×Unit×Unit)×(Int×Int×Unit×Unit)×gv.D×List gv.D×List gv.D:=default
def Wh.GZ (xs:e_.D×List Int×List UInt8):Option (((Int×Int×List gv.D×Unit)×Int)×Unit):=
 let cx:=xs.1;let QX:=xs.2.1;let data_2:=xs.2.2;let Dp:List Int:=[]++QX;bn (zog Kz (cx,Dp,data_2,())) fun dz=>
 bif kL [qu (Kz (cx,Dp,data_2,())),decide ((0:Nat)+List.length QX≤eV)] then
  c9 Je cx fun n5=>
   let nI:Int:=(↑(List.length dz.1.1):Int);let FB:=nI==0;bif FB then
    c9 Jf cx.2.1 fun w9=>
     bif(dz.1.2.1==w9.1) then
      some ((n5.1,1),())
     else
      some ((n5.1,2),())
   else
    g8 F8 aai (((0,(),(),false,(),()),(cx.1,cx.2.1,(),()),dz.1,(n5.1.1,n5.1.2.1,(),n5.1.2.2.2),(0,0,(),()),[],n5.1.2.2.1,[])) fun M0=>
     let ado:=M0.1.2.2.2;let J8:=M0.2.2.1.1;let Fl:=M0.2.2.1.2.1;let HL:=M0.2.2.1.2.2.2;let LH:=M0.2.2.2.1;let Dh:=M0.2.2.2.2.2;bif !ado then
      let pb_103:List (gv.D):=[LH];let Az:=Dh++pb_103;bif kL [decide (List.length Dh+(1:Nat)≤eV)] then
       some (((J8,Fl,Az,HL),0),())
      else none
     else
      some (((J8,Fl,Dh,HL),0),())
 else none
def Wh.L3 (xs:x4.D×Int×List UInt8):Option ((((Int×Int×List Int×List Int×Unit)×(Int×Int×List gv.D×Unit)×Unit)×Int)×Unit):=
 let n4:=xs.1;let FI:=xs.2.1;let data_2:=xs.2.2;c9 F5 n4 fun r_3=>
  bif !r_3.1 then
   some ((((0,0,[],[],()),(0,0,[],()),()),3),())
  else
   c9 KB n4 fun dz=>
    bn (zog fN (FI,0,9999)) fun g9=>
    let nW:=bif !g9.1 then true else(↑(List.length data_2):Int) != n4.1.2.1;bif kL [qu (fN (FI,0,9999))] then
     bif nW then
      some ((dz.1,3),())
     else
      bn (zog Ft (n4.1,FI)) fun AN=>
      bn (zog GZ (n4.2.1,AN.1,data_2)) fun Bc=>
      bif kL [qu (GZ (n4.2.1,AN.1,data_2)),qu (Ft (n4.1,FI))] then
       some (((dz.1.1,(Bc.1.1.1,Bc.1.1.2.1,Bc.1.1.2.2.1,Bc.1.1.2.2.2),dz.1.2.2),Bc.1.2),())
      else none
    else none
def Wh.Kl (xs:bm.D):Option (List ei.D×Unit):=
 let cp:=xs;bif(cp.2.2.2.2.1==0) then
  some ([],())
 else
  let BU:List (ei.D):=[(5,cp.1,cp.2.1,cp.2.2.2.2.1,0,[],[],())];some (BU,())
def Wh.q47 (xs:bm.D×ei.D):Option ((bm.D×List ei.D)×Unit):=
 let cp:=xs.1;let w_1:=xs.2;bif(cp.2.2.1==1) then
  some ((cp,[]),())
 else
  let AK:=bif(cp.2.2.2.2.1 != w_1.2.2.2.1) then true else cp.2.2.1 != 2;bif AK then
   c9 Km w_1 fun g9=>
    some ((cp,g9.1),())
  else
   c9 q53 (cp.2.2.2.2.2.1) fun n5=>
    c9 L3 (cp.2.2.2.2.2.1,w_1.2.2.2.2.1,w_1.2.2.2.2.2.2.1) fun AN=>
     bif(AN.1.2 != 0) then
      some ((cp,[]),())
     else
      c9 E0 AN.1.1 fun w9=>
       bif w9.1 then
        c9 Kl (cp.1,cp.2.1,3,cp.2.2.2.1,cp.2.2.2.2.1,AN.1.1,cp.2.2.2.2.2.2) fun A2=>
         some (((cp.1,cp.2.1,3,cp.2.2.2.1,cp.2.2.2.2.1,AN.1.1,cp.2.2.2.2.2.2),A2.1),())
       else
        c9 q53 AN.1.1 fun Cd=>
         bif decide (Cd.1>n5.1) then
          let Td:List (ei.D):=[(4,cp.1,cp.2.1,cp.2.2.2.2.1,Cd.1,[],[],())];bif kL [qu (q53 AN.1.1)] then
           some (((cp.1,cp.2.1,cp.2.2.1,cp.2.2.2.1,cp.2.2.2.2.1,AN.1.1,cp.2.2.2.2.2.2),Td),())
          else none
         else
          some (((cp.1,cp.2.1,cp.2.2.1,cp.2.2.2.1,cp.2.2.2.2.1,AN.1.1,cp.2.2.2.2.2.2),[]),())
def Wh.q23 (xs:bm.D×ei.D):Option ((bm.D×List ei.D)×Unit):=
 let cp:=xs.1;let w_1:=xs.2;c9 DU cp fun r_2=>
  bif !r_2.1 then
   some (((0,0,0,[],0,((0,0,[],[],()),(0,0,[],()),()),()),[]),())
  else
   c9 GR cp fun r_3=>
    bn (zog EA w_1) fun dz=>
    let nI:=bif bif !dz.1 then true else w_1.2.1 != cp.1 then true else decide (w_1.2.2.1>cp.2.1);bif kL [qu (EA w_1)] then
     bif nI then
      some ((r_3.1,[]),())
     else
      let A3:=bif decide (w_1.2.2.1<cp.2.1) then true else cp.2.2.1==0;bif A3 then
       bif(w_1.1==3) then
        c9 Km w_1 fun Cd=>
         some ((r_3.1,Cd.1),())
       else
        some ((r_3.1,[]),())
      else
       bif(w_1.1==2) then
        c9 q46 (r_3.1,w_1) fun Dr=>
         some ((Dr.1,[]),())
       else
        bif(w_1.1==3) then
         c9 q47 (r_3.1,w_1) fun E3=>
          some (E3.1,())
        else
         bif(w_1.1==6) then
          let je:=bif bif(cp.2.2.1==1) then true else cp.2.2.1==2 then w_1.2.2.2.1==cp.2.2.2.2.1 else false;bif je then
           some (((r_3.1.1,r_3.1.2.1,4,r_3.1.2.2.2),[]),())
          else
           some ((r_3.1,[]),())
         else
          some ((r_3.1,[]),())
    else none
def Wh.Ms (x:(Unit×Unit×Unit×Unit)×((Bool×Int×List UInt8×(Int×Unit×Unit)×(Unit×Int×Unit)×Unit×Unit×Unit)×Unit×Unit×Unit×Unit)×(b7.D×Unit×Unit×Unit×Unit)×cg.D×di.D×List an.D×List b8.D×List cw.D×List b9.D×List bm.D×List cg.D×List an.D×List bm.D×List cg.D×List an.D):Option ((Unit×Unit×Unit)×((Bool×Int×List UInt8×(Int×Unit×Unit)×(Unit×Int×Unit)×Unit×Unit×Unit)×Unit×Unit×Unit×Unit)×(b7.D×Unit×Unit×Unit×Unit)×cg.D×List an.D×List b8.D×List cw.D×List b9.D×List bm.D×List cg.D×List an.D×List bm.D×List cg.D×List an.D):=
 let AE:=x.2.1.1.1;let A_:=x.2.1.1.2.1;let wm:=x.2.1.1.2.2.1;let nc:=x.2.1.1.2.2.2.1.1;let AM:=x.2.1.1.2.2.2.1.2.2;let Bk:=x.2.1.1.2.2.2.2.1.2;let nC:=x.2.1.1.2.2.2.2.2.2.2;let AQ:=x.2.1.2.2.2.2;let AR:=x.2.2.1.1;let AF:=x.2.2.1.2.2.2.2;let AG:=x.2.2.2.1;let nG:=x.2.2.2.2.1;let x3:=x.2.2.2.2.2.1;let tn:=x.2.2.2.2.2.2.1;let wv:=x.2.2.2.2.2.2.2.1;let AU:=x.2.2.2.2.2.2.2.2.1;let pg:=x.2.2.2.2.2.2.2.2.2.1;let z5:=x.2.2.2.2.2.2.2.2.2.2.1;let nE:=x.2.2.2.2.2.2.2.2.2.2.2.1;let we:=x.2.2.2.2.2.2.2.2.2.2.2.2.1;let s9:=x.2.2.2.2.2.2.2.2.2.2.2.2.2.1;let Ax:=x.2.2.2.2.2.2.2.2.2.2.2.2.2.2;bif(!nG.2.2.2.2.2.1) then
  let Qe:List (cg.D):=[]++List.take (Int.toNat (nG.2.1-0)) (List.drop (Int.toNat 0) s9);let pb_56:List (cg.D):=Qe++List.take (Int.toNat ((↑(List.length s9):Int)-IntKind.wrap .i64 (nG.2.1+1))) (List.drop (Int.toNat (IntKind.wrap .i64 (nG.2.1+1))) s9);let v_57:Nat:=Int.toNat (nG.2.1-0);let MP:=IntKind.wrap .i64 (nG.2.1+1);bif kL [decide (List.length Qe+List.length (List.take (Int.toNat ((↑(List.length s9):Int)-MP)) (List.drop (Int.toNat MP) s9))≤eV),decide (0≤MP),decide (MP≤(↑(List.length s9):Int)),decide ((↑(List.length s9):Int)≤(↑(List.length s9):Int)),decide ((0:Nat)+List.length (List.take v_57 (List.drop (Int.toNat 0) s9))≤eV),true,decide (0≤nG.2.1),decide (nG.2.1≤(↑(List.length s9):Int))] then
   some ((((),(),()),((AE,A_,wm,(nc,(),AM),((),Bk),(),(),nC),(),(),(),AQ),(AR,(),(),(),AF),AG,x3,tn,wv,AU,pg,z5,nE,we,pb_56,Ax))
  else none
 else
  some ((((),(),()),((AE,A_,wm,(nc,(),AM),((),Bk),(),(),nC),(),(),(),AQ),(AR,(),(),(),AF),AG,x3,tn,wv,AU,pg,z5,nE,we,s9,Ax))
def Wh.q9' (x:((Unit)×(Unit)×(Unit)×(Unit))×((((Bool)×((Int)×((List UInt8)×(((Int)×((Unit)×(Unit)))×(((Unit)×((Int)×(Unit)))×((Unit)×((Unit)×(Unit))))))))×((Unit)×((Unit)×((Unit)×(Unit)))))×((b7.D)×((Unit)×((Unit)×((Unit)×(Unit)))))×(cg.D)×(di.D)×(List (an.D))×(List (b8.D))×(List (cw.D))×(List (b9.D))×(List (bm.D))×(List (cg.D))×(List (an.D))×(List (bm.D))×(List (cg.D))×(List (an.D)))):(((Unit)×(Unit)×(Unit))×((((Bool)×((Int)×((List UInt8)×(((Int)×((Unit)×(Unit)))×(((Unit)×((Int)×(Unit)))×((Unit)×((Unit)×(Unit))))))))×((Unit)×((Unit)×((Unit)×(Unit)))))×((b7.D)×((Unit)×((Unit)×((Unit)×(Unit)))))×(cg.D)×(List (an.D))×(List (b8.D))×(List (cw.D))×(List (b9.D))×(List (bm.D))×(List (cg.D))×(List (an.D))×(List (bm.D))×(List (cg.D))×(List (an.D)))):=match Ms x with | some y=>y|none=>(default,(default,default,default,default,default,default,default,default,default,default,default,default,default))
def Wh.q9_v (x:((Unit)×(Unit)×(Unit)×(Unit))×((((Bool)×((Int)×((List UInt8)×(((Int)×((Unit)×(Unit)))×(((Unit)×((Int)×(Unit)))×((Unit)×((Unit)×(Unit))))))))×((Unit)×((Unit)×((Unit)×(Unit)))))×((b7.D)×((Unit)×((Unit)×((Unit)×(Unit)))))×(cg.D)×(di.D)×(List (an.D))×(List (b8.D))×(List (cw.D))×(List (b9.D))×(List (bm.D))×(List (cg.D))×(List (an.D))×(List (bm.D))×(List (cg.D))×(List (an.D))))(y:(((Unit)×(Unit)×(Unit))×((((Bool)×((Int)×((List UInt8)×(((Int)×((Unit)×(Unit)))×(((Unit)×((Int)×(Unit)))×((Unit)×((Unit)×(Unit))))))))×((Unit)×((Unit)×((Unit)×(Unit)))))×((b7.D)×((Unit)×((Unit)×((Unit)×(Unit)))))×(cg.D)×(List (an.D))×(List (b8.D))×(List (cw.D))×(List (b9.D))×(List (bm.D))×(List (cg.D))×(List (an.D))×(List (bm.D))×(List (cg.D))×(List (an.D)))))(h:Ms x=some y):q9' x=y:=by unfold q9';rw[h]
def Wh.q66 (xs:(b7.D×List bm.D×List cg.D×List an.D×Unit)×di.D):Option ((b7.D×List bm.D×List cg.D×List an.D×Unit)×Unit):=
 let w_0:=xs.1;let e_1:=xs.2;let BU:=List.getD (w_0.2.2.1) (Int.toNat e_1.2.1) (0,[],false,());bif kL [decide (0≤e_1.2.1),decide (e_1.2.1<(↑(List.length (w_0.2.2.1)):Int))] then
  CJ Ms q9' ((((),(),(),()),((false,0,[],(0,(),()),((),0,()),(),(),()),(),(),(),()),(w_0.1,(),(),(),w_0.2.2.2.2),BU,e_1,[],[],[],[],[],[],[],w_0.2.1,w_0.2.2.1,w_0.2.2.2.1)) fun MZ=>
   let Dk:=MZ.2.2.1.1;let Bl:=MZ.2.2.1.2.2.2.2;let AZ:=MZ.2.2.2.1;let D7:=MZ.2.2.2.2.2.2.2.2.2.2.2.1;let GL:=MZ.2.2.2.2.2.2.2.2.2.2.2.2.1;let CS:=MZ.2.2.2.2.2.2.2.2.2.2.2.2.2;c9 q63 AZ.2.1 fun QU=>
    bif(!QU.1.2) then
     some ((Dk,D7,GL,CS,Bl),())
    else
     bif(AZ.1==9) then
      c9 q28 (Dk,QU.1.1) fun Mx=>
       c9 GS ((Mx.1.1,D7,GL,CS,Bl),-1,Mx.1.2) fun My=>
        some (My.1,())
     else
      bn (zog q23 (List.getD D7 (Int.toNat AZ.1) (0,0,0,[],0,((0,0,[],[],()),(0,0,[],()),()),()),QU.1.1)) fun r_88=>
      let OO:Nat:=Int.toNat AZ.1;bif kL [qu (q23 (List.getD D7 OO (0,0,0,[],0,((0,0,[],[],()),(0,0,[],()),()),()),QU.1.1)),decide (0≤AZ.1),decide (AZ.1<(↑(List.length D7):Int))] then
       let SZ:=List.set D7 OO r_88.1.1;bif kL [decide (0≤AZ.1),decide (AZ.1<(↑(List.length D7):Int))] then
        c9 GS ((Dk,SZ,GL,CS,Bl),9,r_88.1.2) fun Mz=>
         some (Mz.1,())
       else none
      else none
 else none
def Wh.q71 (xs:cg.D×Int):Option (cg.D×Unit):=
 let fT:=xs.1;let n_1:=xs.2;let BU:List Int:=bytesOf fT.2.1;bif kL [decide (List.length fT.2.1≤eV)] then
  let k_5:Int:=Int.tmod (Int.tmod n_1 4096) (↑(List.length BU):Int);bif kL [(↑(List.length BU):Int) != 0,true] then
   let N6:=List.set BU (Int.toNat k_5) (pZ Go.BinOp.xor Go.IntKind.u8 (List.getD BU (Int.toNat k_5) 0) (IntKind.wrap .u8 (IntKind.wrap .i64 (1+Int.tmod (IntKind.wrap .i64 (Int.tdiv n_1 4096)) 255))));bif kL [decide (0≤k_5),decide (k_5<(↑(List.length BU):Int)),true,true,decide (0≤k_5),decide (k_5<(↑(List.length BU):Int))] then
    some ((fT.1,tv N6,true,()),())
   else none
  else none
 else none
def Wh.q70 (xs:(b7.D×List bm.D×List cg.D×List an.D×Unit)×di.D):Option (((b7.D×List bm.D×List cg.D×List an.D×Unit)×Bool)×Unit):=
 let w_0:=xs.1;let e_1:=xs.2;let v_2:Int:=(↑(List.length (w_0.2.2.1)):Int);c9 fN (e_1.2.1,0,IntKind.wrap .i64 (v_2-1)) fun g9=>
  bif !g9.1 then
   some ((w_0,false),())
  else
   bif(e_1.1==8) then
    c9 q66 (w_0,e_1) fun AN=>
     some ((AN.1,true),())
   else
    bif(e_1.1==9) then
     let I4:List (cg.D):=[]++List.take (Int.toNat (e_1.2.1-0)) (List.drop (Int.toNat 0) (w_0.2.2.1));let Tb:List (cg.D):=I4++List.take (Int.toNat (v_2-IntKind.wrap .i64 (e_1.2.1+1))) (List.drop (Int.toNat (IntKind.wrap .i64 (e_1.2.1+1))) (w_0.2.2.1));let CG:Nat:=Int.toNat (e_1.2.1-0);let AX:=IntKind.wrap .i64 (e_1.2.1+1);bif kL [decide (List.length I4+List.length (List.take (Int.toNat (v_2-AX)) (List.drop (Int.toNat AX) (w_0.2.2.1)))≤eV),decide (0≤AX),decide (AX≤v_2),decide (v_2≤v_2),decide ((0:Nat)+List.length (List.take CG (List.drop (Int.toNat 0) (w_0.2.2.1)))≤eV),true,decide (0≤e_1.2.1),decide (e_1.2.1≤v_2)] then
      some (((w_0.1,w_0.2.1,Tb,w_0.2.2.2),true),())
     else none
    else
     let ov:Nat:=Int.toNat e_1.2.1;let xb:=bif bif(((List.getD (w_0.2.2.1) ov (0,[],false,())).2).2).1 then true else((List.getD (w_0.2.2.1) ov (0,[],false,())).2).1 == [] then true else decide (e_1.2.2.1<0);bif kL [!!(((List.getD (w_0.2.2.1) ov (0,[],false,())).2).2).1 || decide (0≤e_1.2.1),!!(((List.getD (w_0.2.2.1) ov (0,[],false,())).2).2).1 || decide (e_1.2.1<v_2),decide (0≤e_1.2.1),decide (e_1.2.1<v_2)] then
      bif xb then
       some ((w_0,false),())
      else
       bn (zog q71 (List.getD (w_0.2.2.1) ov (0,[],false,()),e_1.2.2.1)) fun CD=>
       let pb_21:=List.set (w_0.2.2.1) ov CD.1;bif kL [decide (0≤e_1.2.1),decide (e_1.2.1<v_2),qu (q71 (List.getD (w_0.2.2.1) ov (0,[],false,()),e_1.2.2.1)),decide (0≤e_1.2.1),decide (e_1.2.1<v_2)] then
        some (((w_0.1,w_0.2.1,pb_21,w_0.2.2.2),true),())
       else none
     else none
def Wh.Kk (xs:bm.D):Option (List ei.D×Unit):=
 let cp:=xs;let ES:List (ei.D):=[(1,cp.1,cp.2.1,cp.2.2.2.2.1,0,cp.2.2.2.1,[],())];some (ES,())
def Wh.q24 (xs:bm.D×List UInt8):Option (((Int×Int×Int×List UInt8×Int×((Int×Int×List Int×List Int×Unit)×(Int×Int×List gv.D×Unit)×Unit)×Unit)×List ei.D)×Unit):=
 let cp:=xs.1;let Ea:=xs.2;c9 DU cp fun r_2=>
  bif !r_2.1 then
   some (((0,0,0,[],0,((0,0,[],[],()),(0,0,[],()),()),()),[]),())
  else
   let AJ:=decide (cp.2.1≥99999);bn (zog DT Ea) fun dz=>
   let n_:=bif AJ then true else !dz.1;bif kL [!!AJ || qu (DT Ea)] then
    bif n_ then
     c9 GR cp fun n5=>
      some ((n5.1,[]),())
    else
     let Ke:=IntKind.wrap .i64 (cp.2.1+1);c9 Kk (cp.1,Ke,1,Ea,0,((0,0,[],[],()),(0,0,[],()),()),()) fun Bc=>
      some (((cp.1,Ke,1,Ea,0,((0,0,[],[],()),(0,0,[],()),()),()),Bc.1),())
   else none
def Wh.Mq (xs:bm.D):Option (((Int×Int×Int×List UInt8×Int×((Int×Int×List Int×List Int×Unit)×(Int×Int×List gv.D×Unit)×Unit)×Unit)×List ei.D)×Unit):=
 let cp:=xs;c9 DU cp fun r_1=>
  bif !r_1.1 then
   some (((0,0,0,[],0,((0,0,[],[],()),(0,0,[],()),()),()),[]),())
  else
   c9 GR cp fun r_2=>
    let nW:=bif bif decide (cp.2.1≥99999) then true else cp.2.2.2.2.1==0 then true else cp.2.2.1==3;bif nW then
     some ((r_2.1,[]),())
    else
     let Ke:=IntKind.wrap .i64 (cp.2.1+1);c9 Kk (r_2.1.1,Ke,1,r_2.1.2.2.2) fun Bc=>
      some (((r_2.1.1,Ke,1,r_2.1.2.2.2),Bc.1),())
def Wh.q25 (xs:bm.D):Option (((Int×Int×Int×List UInt8×Int×((Int×Int×List Int×List Int×Unit)×(Int×Int×List gv.D×Unit)×Unit)×Unit)×List ei.D)×Unit):=
 let cp:=xs;c9 DU cp fun r_1=>
  bif !r_1.1 then
   some (((0,0,0,[],0,((0,0,[],[],()),(0,0,[],()),()),()),[]),())
  else
   c9 Kl cp fun r_2=>
    some (((cp.1,cp.2.1,0,[],0,((0,0,[],[],()),(0,0,[],()),()),()),r_2.1),())
def Wh.F_ (xs:bm.D):Option (List ei.D×Unit):=
 let cp:=xs;bn (zog DU cp) fun r_1=>
 let v_2:=bif !r_1.1 then true else bif cp.2.2.1 != 1 then cp.2.2.1 != 2 else false;bif kL [qu (DU cp)] then
  bif v_2 then
   some ([],())
  else
   c9 Kk cp fun r_3=>
    some (r_3.1,())
 else none
def Wh.q6 (x:(Unit×Unit×Unit×Unit×Unit)×((Bool×Int×List UInt8×(Int×Unit×Unit)×(Unit×Int×Unit)×Unit×Unit×Unit)×Unit×Unit×Unit×Unit)×(b7.D×Unit×Unit×Unit×Unit)×di.D×bm.D×bm.D×List an.D×List b8.D×List cw.D×List b9.D×List bm.D×List cg.D×List an.D×List bm.D×List cg.D×List an.D):Option ((Unit×Unit×Unit×Unit×Unit×Unit)×((Bool×Int×List UInt8×(Int×Unit×Unit)×(Unit×Int×Unit)×Unit×Unit×Unit)×Unit×Unit×Unit×Unit)×List ei.D×(b7.D×Unit×Unit×Unit×Unit)×di.D×bm.D×(Int×Int×Int×List UInt8×Int×((Int×Int×Unit×Unit×Unit)×(Int×Int×Unit×Unit)×Unit)×Unit)×List an.D×List b8.D×List cw.D×List b9.D×List bm.D×List cg.D×List an.D×List bm.D×List cg.D×List an.D×List Int×List Int×List gv.D⊕(Unit×Unit×Unit×Unit×Unit×Unit)×((Bool×Int×List UInt8×(Int×Unit×Unit)×(Unit×Int×Unit)×Unit×Unit×Unit)×Unit×Unit×Unit×Unit)×List ei.D×(b7.D×Unit×Unit×Unit×Unit)×di.D×bm.D×bm.D×List an.D×List b8.D×List cw.D×List b9.D×List bm.D×List cg.D×List an.D×List bm.D×List cg.D×List an.D):=
 let nc:=x.2.1.1.1;let AM:=x.2.1.1.2.1;let Bk:=x.2.1.1.2.2.1;let nC:=x.2.1.1.2.2.2.1.1;let AQ:=x.2.1.1.2.2.2.1.2.2;let AR:=x.2.1.1.2.2.2.2.1.2;let AF:=x.2.1.1.2.2.2.2.2.2.2;let AG:=x.2.1.2.2.2.2;let nG:=x.2.2.1.1;let x3:=x.2.2.1.2.2.2.2;let tn:=x.2.2.2.1;let wv:=x.2.2.2.2.1;let AU:=x.2.2.2.2.2.1;let pg:=x.2.2.2.2.2.2.1;let z5:=x.2.2.2.2.2.2.2.1;let nE:=x.2.2.2.2.2.2.2.2.1;let we:=x.2.2.2.2.2.2.2.2.2.1;let s9:=x.2.2.2.2.2.2.2.2.2.2.1;let Ax:=x.2.2.2.2.2.2.2.2.2.2.2.1;let AV:=x.2.2.2.2.2.2.2.2.2.2.2.2.1;let AH:=x.2.2.2.2.2.2.2.2.2.2.2.2.2.1;let nP:=x.2.2.2.2.2.2.2.2.2.2.2.2.2.2.1;let AA:=x.2.2.2.2.2.2.2.2.2.2.2.2.2.2.2;bif(tn.1==3) then
  c9 q24 (wv,tn.2.2.2.1) fun DJ=>
   some (.inl ((((),(),(),(),(),()),((nc,AM,Bk,(nC,(),AQ),((),AR),(),(),AF),(),(),(),AG),DJ.1.2,(nG,(),(),(),x3),tn,wv,(DJ.1.1.1,DJ.1.1.2.1,DJ.1.1.2.2.1,DJ.1.1.2.2.2.1,DJ.1.1.2.2.2.2.1,((DJ.1.1.2.2.2.2.2.1.1.1,DJ.1.1.2.2.2.2.2.1.1.2.1,(),(),DJ.1.1.2.2.2.2.2.1.1.2.2.2.2),(DJ.1.1.2.2.2.2.2.1.2.1.1,DJ.1.1.2.2.2.2.2.1.2.1.2.1,(),DJ.1.1.2.2.2.2.2.1.2.1.2.2.2),DJ.1.1.2.2.2.2.2.1.2.2),DJ.1.1.2.2.2.2.2.2),pg,z5,nE,we,s9,Ax,AV,AH,nP,AA,DJ.1.1.2.2.2.2.2.1.1.2.2.1,DJ.1.1.2.2.2.2.2.1.1.2.2.2.1,DJ.1.1.2.2.2.2.2.1.2.1.2.2.1)))
 else
  bif(tn.1==4) then
   c9 Mq wv fun CV=>
    some (.inl ((((),(),(),(),(),()),((nc,AM,Bk,(nC,(),AQ),((),AR),(),(),AF),(),(),(),AG),CV.1.2,(nG,(),(),(),x3),tn,wv,(CV.1.1.1,CV.1.1.2.1,CV.1.1.2.2.1,CV.1.1.2.2.2.1,CV.1.1.2.2.2.2.1,((CV.1.1.2.2.2.2.2.1.1.1,CV.1.1.2.2.2.2.2.1.1.2.1,(),(),CV.1.1.2.2.2.2.2.1.1.2.2.2.2),(CV.1.1.2.2.2.2.2.1.2.1.1,CV.1.1.2.2.2.2.2.1.2.1.2.1,(),CV.1.1.2.2.2.2.2.1.2.1.2.2.2),CV.1.1.2.2.2.2.2.1.2.2),CV.1.1.2.2.2.2.2.2),pg,z5,nE,we,s9,Ax,AV,AH,nP,AA,CV.1.1.2.2.2.2.2.1.1.2.2.1,CV.1.1.2.2.2.2.2.1.1.2.2.2.1,CV.1.1.2.2.2.2.2.1.2.1.2.2.1)))
  else
   bif(tn.1==5) then
    c9 q25 wv fun DK=>
     some (.inl ((((),(),(),(),(),()),((nc,AM,Bk,(nC,(),AQ),((),AR),(),(),AF),(),(),(),AG),DK.1.2,(nG,(),(),(),x3),tn,wv,(DK.1.1.1,DK.1.1.2.1,DK.1.1.2.2.1,DK.1.1.2.2.2.1,DK.1.1.2.2.2.2.1,((DK.1.1.2.2.2.2.2.1.1.1,DK.1.1.2.2.2.2.2.1.1.2.1,(),(),DK.1.1.2.2.2.2.2.1.1.2.2.2.2),(DK.1.1.2.2.2.2.2.1.2.1.1,DK.1.1.2.2.2.2.2.1.2.1.2.1,(),DK.1.1.2.2.2.2.2.1.2.1.2.2.2),DK.1.1.2.2.2.2.2.1.2.2),DK.1.1.2.2.2.2.2.2),pg,z5,nE,we,s9,Ax,AV,AH,nP,AA,DK.1.1.2.2.2.2.2.1.1.2.2.1,DK.1.1.2.2.2.2.2.1.1.2.2.2.1,DK.1.1.2.2.2.2.2.1.2.1.2.2.1)))
   else
    c9 F_ wv fun r_64=>
     some (.inr ((((),(),(),(),(),()),((nc,AM,Bk,(nC,(),AQ),((),AR),(),(),AF),(),(),(),AG),r_64.1,(nG,(),(),(),x3),tn,wv,AU,pg,z5,nE,we,s9,Ax,AV,AH,nP,AA)))
def Wh.q6' (x:((Unit)×(Unit)×(Unit)×(Unit)×(Unit))×((((Bool)×((Int)×((List UInt8)×(((Int)×((Unit)×(Unit)))×(((Unit)×((Int)×(Unit)))×((Unit)×((Unit)×(Unit))))))))×((Unit)×((Unit)×((Unit)×(Unit)))))×((b7.D)×((Unit)×((Unit)×((Unit)×(Unit)))))×(di.D)×(bm.D)×(bm.D)×(List (an.D))×(List (b8.D))×(List (cw.D))×(List (b9.D))×(List (bm.D))×(List (cg.D))×(List (an.D))×(List (bm.D))×(List (cg.D))×(List (an.D)))):(((Unit)×(Unit)×(Unit)×(Unit)×(Unit)×(Unit))×((((Bool)×((Int)×((List UInt8)×(((Int)×((Unit)×(Unit)))×(((Unit)×((Int)×(Unit)))×((Unit)×((Unit)×(Unit))))))))×((Unit)×((Unit)×((Unit)×(Unit)))))×(List (ei.D))×((b7.D)×((Unit)×((Unit)×((Unit)×(Unit)))))×(di.D)×(bm.D)×((Int)×((Int)×((Int)×((List UInt8)×((Int)×((((Int)×((Int)×((Unit)×((Unit)×(Unit)))))×(((Int)×((Int)×((Unit)×(Unit))))×(Unit)))×(Unit)))))))×(List (an.D))×(List (b8.D))×(List (cw.D))×(List (b9.D))×(List (bm.D))×(List (cg.D))×(List (an.D))×(List (bm.D))×(List (cg.D))×(List (an.D))×(List (Int))×(List (Int))×(List (gv.D))))⊕(((Unit)×(Unit)×(Unit)×(Unit)×(Unit)×(Unit))×((((Bool)×((Int)×((List UInt8)×(((Int)×((Unit)×(Unit)))×(((Unit)×((Int)×(Unit)))×((Unit)×((Unit)×(Unit))))))))×((Unit)×((Unit)×((Unit)×(Unit)))))×(List (ei.D))×((b7.D)×((Unit)×((Unit)×((Unit)×(Unit)))))×(di.D)×(bm.D)×(bm.D)×(List (an.D))×(List (b8.D))×(List (cw.D))×(List (b9.D))×(List (bm.D))×(List (cg.D))×(List (an.D))×(List (bm.D))×(List (cg.D))×(List (an.D)))):=match Wh.q6 x with | some y=>y|none=>.inl (default,(default,default,default,default,default,default,default,default,default,default,default,default,default,default,default,default,default,default,default))
def Wh.q6_v (x:((Unit)×(Unit)×(Unit)×(Unit)×(Unit))×((((Bool)×((Int)×((List UInt8)×(((Int)×((Unit)×(Unit)))×(((Unit)×((Int)×(Unit)))×((Unit)×((Unit)×(Unit))))))))×((Unit)×((Unit)×((Unit)×(Unit)))))×((b7.D)×((Unit)×((Unit)×((Unit)×(Unit)))))×(di.D)×(bm.D)×(bm.D)×(List (an.D))×(List (b8.D))×(List (cw.D))×(List (b9.D))×(List (bm.D))×(List (cg.D))×(List (an.D))×(List (bm.D))×(List (cg.D))×(List (an.D))))(y:(((Unit)×(Unit)×(Unit)×(Unit)×(Unit)×(Unit))×((((Bool)×((Int)×((List UInt8)×(((Int)×((Unit)×(Unit)))×(((Unit)×((Int)×(Unit)))×((Unit)×((Unit)×(Unit))))))))×((Unit)×((Unit)×((Unit)×(Unit)))))×(List (ei.D))×((b7.D)×((Unit)×((Unit)×((Unit)×(Unit)))))×(di.D)×(bm.D)×((Int)×((Int)×((Int)×((List UInt8)×((Int)×((((Int)×((Int)×((Unit)×((Unit)×(Unit)))))×(((Int)×((Int)×((Unit)×(Unit))))×(Unit)))×(Unit)))))))×(List (an.D))×(List (b8.D))×(List (cw.D))×(List (b9.D))×(List (bm.D))×(List (cg.D))×(List (an.D))×(List (bm.D))×(List (cg.D))×(List (an.D))×(List (Int))×(List (Int))×(List (gv.D))))⊕(((Unit)×(Unit)×(Unit)×(Unit)×(Unit)×(Unit))×((((Bool)×((Int)×((List UInt8)×(((Int)×((Unit)×(Unit)))×(((Unit)×((Int)×(Unit)))×((Unit)×((Unit)×(Unit))))))))×((Unit)×((Unit)×((Unit)×(Unit)))))×(List (ei.D))×((b7.D)×((Unit)×((Unit)×((Unit)×(Unit)))))×(di.D)×(bm.D)×(bm.D)×(List (an.D))×(List (b8.D))×(List (cw.D))×(List (b9.D))×(List (bm.D))×(List (cg.D))×(List (an.D))×(List (bm.D))×(List (cg.D))×(List (an.D)))))(h:Wh.q6 x=some y):q6' x=y:=by unfold q6';rw[h]
def Wh.q48 (xs:(b7.D×List bm.D×List cg.D×List an.D×Unit)×di.D):Option (((b7.D×List bm.D×List cg.D×List an.D×Unit)×Bool)×Unit):=
 let w_0:=xs.1;let e_1:=xs.2;c9 fN (e_1.2.1,0,3) fun r_2=>
  bif !r_2.1 then
   some ((w_0,false),())
  else
   let Dp:=List.getD w_0.2.1 (Int.toNat e_1.2.1) (0,0,0,[],0,((0,0,[],[],()),(0,0,[],()),()),());bif kL [decide (0≤e_1.2.1),decide (e_1.2.1<(↑(List.length w_0.2.1):Int))] then
    CJ Wh.q6 q6' ((((),(),(),(),()),((false,0,[],(0,(),()),((),0,()),(),(),()),(),(),(),()),(w_0.1,(),(),(),w_0.2.2.2.2),e_1,Dp,Dp,[],[],[],[],[],[],[],w_0.2.1,w_0.2.2.1,w_0.2.2.2.1)) fun q_=>
     sumC q_ (fun Cg=>
      let CR:=Cg.2.2.1;let Bn:=Cg.2.2.2.1.1;let Et:=Cg.2.2.2.1.2.2.2.2;let EP:=Cg.2.2.2.2.1;let D7:=Cg.2.2.2.2.2.1;let GL:=Cg.2.2.2.2.2.2.1.1;let CS:=Cg.2.2.2.2.2.2.1.2.1;let DF:=Cg.2.2.2.2.2.2.1.2.2.1;let CT:=Cg.2.2.2.2.2.2.1.2.2.2.1;let Dl:=Cg.2.2.2.2.2.2.1.2.2.2.2.1;let J6:=Cg.2.2.2.2.2.2.1.2.2.2.2.2.1.1.1;let NU:=Cg.2.2.2.2.2.2.1.2.2.2.2.2.1.1.2.1;let NV:=Cg.2.2.2.2.2.2.1.2.2.2.2.2.1.1.2.2.2.2;let J7:=Cg.2.2.2.2.2.2.1.2.2.2.2.2.1.2.1.1;let SY:=Cg.2.2.2.2.2.2.1.2.2.2.2.2.1.2.1.2.1;let SZ:=Cg.2.2.2.2.2.2.1.2.2.2.2.2.1.2.1.2.2.2;let LL:=Cg.2.2.2.2.2.2.1.2.2.2.2.2.1.2.2;let LM:=Cg.2.2.2.2.2.2.1.2.2.2.2.2.2;let JZ:=Cg.2.2.2.2.2.2.2.2.2.2.2.2.2.2.1;let Dh:=Cg.2.2.2.2.2.2.2.2.2.2.2.2.2.2.2.1;let HF:=Cg.2.2.2.2.2.2.2.2.2.2.2.2.2.2.2.2.1;let Az:=Cg.2.2.2.2.2.2.2.2.2.2.2.2.2.2.2.2.2.1;let Eo:=Cg.2.2.2.2.2.2.2.2.2.2.2.2.2.2.2.2.2.2.1;let Ep:=Cg.2.2.2.2.2.2.2.2.2.2.2.2.2.2.2.2.2.2.2;let Fk:=List.set JZ (Int.toNat EP.2.1) (GL,CS,DF,CT,Dl,((J6,NU,Az,Eo,NV),(J7,SY,Ep,SZ),LL),LM);bif kL [decide (0≤EP.2.1),decide (EP.2.1<(↑(List.length JZ):Int))] then
       let ok_113:=bif bif decide (CS>D7.2.1) then true else bif EP.1==5 then D7.2.2.1 != 0 else false then true else bif EP.1==7 then decide ((↑(List.length CR):Int)>0) else false;c9 GS ((Bn,Fk,Dh,HF,Et),9,CR) fun r_114=>
        some ((r_114.1,ok_113),())
      else none) (fun Ix=>
      let GJ:=Ix.2.2.1;let Dj:=Ix.2.2.2.1.1;let HJ:=Ix.2.2.2.1.2.2.2.2;let GK:=Ix.2.2.2.2.1;let IV:=Ix.2.2.2.2.2.1;let ND:=Ix.2.2.2.2.2.2.1;let PY:=Ix.2.2.2.2.2.2.2.2.2.2.2.2.2.2.1;let SM:=Ix.2.2.2.2.2.2.2.2.2.2.2.2.2.2.2.1;let SN:=Ix.2.2.2.2.2.2.2.2.2.2.2.2.2.2.2.2;let SO:=List.set PY (Int.toNat GK.2.1) ND;bif kL [decide (0≤GK.2.1),decide (GK.2.1<(↑(List.length PY):Int))] then
       let ok_145:=bif bif decide (ND.2.1>IV.2.1) then true else bif GK.1==5 then IV.2.2.1 != 0 else false then true else bif GK.1==7 then decide ((↑(List.length GJ):Int)>0) else false;c9 GS ((Dj,SO,SM,SN,HJ),9,GJ) fun r_146=>
        some ((r_146.1,ok_145),())
      else none)
   else none
def Wh.KF (xs:List UInt8):Option (Bool×Unit):=
 let A5:=xs;c9 Fp A5 fun r_1=>
  let AK:=bif(r_1.1.2==(↑(List.length A5):Int)) then decide (r_1.1.2≤9000) else false;some (AK,())
def Wh.Kw (xs:List UInt8×List UInt8):Option ((List UInt8×Bool)×Unit):=
 let A5:=xs.1;let CX:=xs.2;c9 Fp A5 fun r_2=>
  bn (zog KF A5) fun r_3=>
  bn (zog fN ((↑(List.length CX):Int),1,500)) fun dz=>
  let n_:=bif !r_3.1 then true else !dz.1;bif kL [!!!r_3.1 || qu (fN ((↑(List.length CX):Int),1,500)),qu (KF A5)] then
   bif n_ then
    some (([],false),())
   else
    let nW:Int:=(↑(List.length r_2.1.1):Int);bn (zog HX (nW,CX)) fun A2=>
    let x_11:List UInt8:=A5++A2.1;bif kL [decide (List.length A5+List.length (A2.1)≤eV),qu (HX (nW,CX))] then
     bif decide ((↑(List.length x_11):Int)>9000) then
      some (([],false),())
     else
      some ((x_11,true),())
    else none
  else none
def Wh.F2 (xs:b7.D×List UInt8):Option ((b7.D×Int)×Unit):=
 let cx:=xs.1;let CX:=xs.2;c9 Kw (cx.2.2.1,CX) fun r_2=>
  bif(!r_2.1.2) then
   some ((cx,4),())
  else
   c9 F4 (cx.2.2.2.1,CX) fun dz=>
    bif(!dz.1.2) then
     some ((cx,1),())
    else
     some (((cx.1,cx.2.1,r_2.1.1,dz.1.1,cx.2.2.2.2),0),())
def Wh.q41 (xs:b7.D×Int×List UInt8×List UInt8):Option ((b7.D×Int)×Unit):=
 let cx:=xs.1;let AY:=xs.2.1;let C9:=xs.2.2.1;let K9:=xs.2.2.2;c9 Gd cx fun dz=>
  bif !dz.1 then
   some (((false,0,[],(0,[],()),([],0,()),[],[],()),1),())
  else
   c9 Fu cx fun g9=>
    bif(!cx.1) then
     some ((g9.1,1),())
    else
     c9 F1 (cx.2.2.2.1,AY,C9,K9) fun AN=>
      bif(AN.1.2 != 0) then
       some ((g9.1,AN.1.2),())
      else
       bn (zog EY (AY,C9,K9)) fun w9=>
       bn (zog F2 (g9.1,w9.1)) fun A2=>
       bif kL [qu (F2 (g9.1,w9.1)),qu (EY (AY,C9,K9))] then
        some ((A2.1.1,A2.1.2),())
       else none
abbrev Wh.Y1:Type:=(Int×Unit×Unit)×(b7.D×Unit×Unit×Unit×Unit)×((Bool×Int×List UInt8×(Int×Unit×Unit)×(Unit×Int×Unit)×Unit×Unit×Unit)×Unit×Unit×Unit×Unit)×List bm.D×List cg.D×List an.D×List an.D×List b8.D×List cw.D×List b9.D×List bm.D×List cg.D×List an.D
abbrev Wh.agp:Type:=(Unit×Unit)×((Bool×Int×List UInt8×(Int×Unit×Unit)×(Unit×Int×Unit)×Unit×Unit×Unit)×Unit×Unit×Unit×Unit)×(b7.D×Unit×Unit×Unit×Unit)×List an.D×List b8.D×List cw.D×List b9.D×List bm.D×List cg.D×List an.D×List bm.D×List cg.D×List an.D
def Wh.Qm (x:Y1):Option (Y1⊕agp):=
 let IJ:=x.1.1;let A_:=x.2.1.1;let wm:=x.2.1.2.2.2.2;let nc:=x.2.2.1.1.1;let AM:=x.2.2.1.1.2.1;let Bk:=x.2.2.1.1.2.2.1;let nC:=x.2.2.1.1.2.2.2.1.1;let AQ:=x.2.2.1.1.2.2.2.1.2.2;let AR:=x.2.2.1.1.2.2.2.2.1.2;let AF:=x.2.2.1.1.2.2.2.2.2.2.2;let AG:=x.2.2.1.2.2.2.2;let nG:=x.2.2.2.1;let x3:=x.2.2.2.2.1;let tn:=x.2.2.2.2.2.1;let wv:=x.2.2.2.2.2.2.1;let AU:=x.2.2.2.2.2.2.2.1;let pg:=x.2.2.2.2.2.2.2.2.1;let z5:=x.2.2.2.2.2.2.2.2.2.1;let nE:=x.2.2.2.2.2.2.2.2.2.2.1;let we:=x.2.2.2.2.2.2.2.2.2.2.2.1;let s9:=x.2.2.2.2.2.2.2.2.2.2.2.2;let Iu:Int:=(↑(List.length (A_.2.2.2.1.2.1)):Int);bif decide (IJ<Iu) then
  let JD:an.D:=List.getD (A_.2.2.2.1.2.1) (Int.toNat IJ) (0,[],0,[],());let FA:Int:=(↑(List.length tn):Int);bif kL [decide (0≤IJ),decide (IJ<Iu)] then
   bif decide (JD.2.2.1>FA) then
    let Qf:List (an.D):=[]++tn;let pb_60:List (an.D):=Qf ++ [JD];bif kL [decide (List.length Qf+(1:Nat)≤eV),decide (0≤IJ),decide (IJ<Iu),decide ((0:Nat)+List.length tn≤eV)] then
     some (.inl (((IntKind.wrap .i64 (IJ+1)),(),()),(A_,(),(),(),wm),((nc,AM,Bk,(nC,(),AQ),((),AR),(),(),AF),(),(),(),AG),nG,x3,pb_60,wv,AU,pg,z5,nE,we,s9))
    else none
   else
    some (.inl (((IntKind.wrap .i64 (IJ+1)),(),()),(A_,(),(),(),wm),((nc,AM,Bk,(nC,(),AQ),((),AR),(),(),AF),(),(),(),AG),nG,x3,tn,wv,AU,pg,z5,nE,we,s9))
  else none
 else
  some (.inr (((),()),((nc,AM,Bk,(nC,(),AQ),((),AR),(),(),AF),(),(),(),AG),(A_,(),(),(),wm),wv,AU,pg,z5,nE,we,s9,nG,x3,tn))
def Wh.Y2:(Unit×Unit)×((Bool×Int×List UInt8×(Int×Unit×Unit)×(Unit×Int×Unit)×Unit×Unit×Unit)×Unit×Unit×Unit×Unit)×(b7.D×Unit×Unit×Unit×Unit)×List an.D×List b8.D×List cw.D×List b9.D×List bm.D×List cg.D×List an.D×List bm.D×List cg.D×List an.D:=default
def Wh.Ko (xs:b7.D×List bm.D×List cg.D×List an.D×Unit):Option ((b7.D×List bm.D×List cg.D×List an.D×Unit)×Unit):=
 let w_0:=xs;g8 Qm Y2 (((0,(),()),(w_0.1,(),(),(),w_0.2.2.2.2),((false,0,[],(0,(),()),((),0,()),(),(),()),(),(),(),()),w_0.2.1,w_0.2.2.1,w_0.2.2.2.1,[],[],[],[],[],[],[])) fun FD=>
  let CC:=FD.2.2.1.1;let Ca:=FD.2.2.1.2.2.2.2;let CS:=FD.2.2.2.2.2.2.2.2.2.2.1;let DF:=FD.2.2.2.2.2.2.2.2.2.2.2.1;let CT:=FD.2.2.2.2.2.2.2.2.2.2.2.2;some ((CC,CS,DF,CT,Ca),())
abbrev Wh.abC:Type:=(Int×Unit×Int×Unit)×(Unit×Int×Unit)×(Unit×Int×Unit)×List b8.D×List b8.D
abbrev Wh.ahH:Type:=(Unit×Unit)×(Unit×Int×Unit)×(Unit×Int×Unit)×List b8.D×List b8.D
def Wh.Mr (x:abC):Option (abC⊕ahH):=
 let Be:=x.1.1;let Nl:=x.1.2.2.1;let DE:=x.2.1.2;let CB:=x.2.2.1.2;let Aw:=x.2.2.2.1;let B8:=x.2.2.2.2;let BO:Int:=(↑(List.length Aw):Int);bif decide (Be<BO) then
  let th:Int:=((List.getD Aw (Int.toNat Be) (0,0,0,0,false,())).2).1;let CH:=bif th==Nl then((((List.getD Aw (Int.toNat Be) (0,0,0,0,false,())).2).2).2).1==0 else false;bif kL [!th==Nl || decide (0≤Be),!th==Nl || decide (Be<BO),decide (0≤Be),decide (Be<BO)] then
   bif CH then
    let Bi:List (b8.D):=List.set Aw (Int.toNat Be) (0,0,0,0,false,());bif kL [decide (0≤Be),decide (Be<BO)] then
     some (.inl (((IntKind.wrap .i64 (Be+1)),(),Nl,()),((),DE),((),CB),Bi,B8))
    else none
   else
    some (.inl (((IntKind.wrap .i64 (Be+1)),(),Nl,()),((),DE),((),CB),Aw,B8))
  else none
 else
  some (.inr (((),()),((),CB),((),DE),B8,Aw))
def Wh.abD:(Unit×Unit)×(Unit×Int×Unit)×(Unit×Int×Unit)×List b8.D×List b8.D:=default
def Wh.q89 (xs:mb.D×Int):Option ((List b8.D×Int×Unit)×Unit):=
 let fT:=xs.1;let Nk:=xs.2;c9 Gg fT fun r_2=>
  g8 Mr abD (((0,(),Nk,()),((),r_2.1.2),((),0,()),r_2.1.1,[])) fun Lk=>
   let AM:=Lk.2.2.1.2;let nC:=Lk.2.2.2.2;some ((nC,AM),())
def Wh.q30 (xs:b7.D×Int×List UInt8):Option ((b7.D×Int)×Unit):=
 let cx:=xs.1;let AY:=xs.2.1;let C9:=xs.2.2;c9 Gd cx fun r_3=>
  bif !r_3.1 then
   some (((false,0,[],(0,[],()),([],0,()),[],[],()),1),())
  else
   c9 Fu cx fun dz=>
    c9 Eb (cx.2.2.2.1,AY,C9) fun g9=>
     bif(!cx.1) then
      some ((dz.1,1),())
     else
      bif(!g9.1.2) then
       some ((dz.1,3),())
      else
       bn (zog EY (AY,C9,[])) fun Bc=>
       bn (zog F2 (dz.1,Bc.1)) fun w9=>
       bif kL [qu (F2 (dz.1,Bc.1)),qu (EY (AY,C9,[]))] then
        bif(w9.1.2==0) then
         c9 q89 (w9.1.1.2.2.2.2.1,g9.1.1.2.2.1) fun Jv=>
          some (((w9.1.1.1,w9.1.1.2.1,w9.1.1.2.2.1,w9.1.1.2.2.2.1,Jv.1,w9.1.1.2.2.2.2.2),w9.1.2),())
        else
         some ((w9.1.1,w9.1.2),())
       else none
def Wh.GY (xs:cw.D×Int):Option (cw.D×Unit):=
 let BE:=xs.1;let NZ:=xs.2;let BU:=IntKind.wrap .i64 (BE.1+IntKind.wrap .i64 (BE.2.2.1*IntKind.wrap .i64 (NZ-BE.2.2.2.1)));bif decide (BU>BE.2.1) then
  some ((BE.2.1,BE.2.1,BE.2.2.1,NZ,BE.2.2.2.2),())
 else
  some ((BU,BE.2.1,BE.2.2.1,NZ,BE.2.2.2.2),())
def Wh.EW (xs:b9.D):Option (BM.D×Unit):=
 let v_0:b9.D:=xs;some ((v_0.1,(IntKind.wrap .i64 (3-v_0.2.2.2.2.1)),v_0.2.2.2.2.2.1,()),())
abbrev Wh.abA:Type:=(Int×Int×List BM.D×Int)×Unit
abbrev Wh.ahG:Type:=Int×Unit⊕Int×Unit
def Wh.KX (x:abA):Option (abA⊕ahG):=
 let Be:=x.1.1;let Hr:=x.1.2.1;let LG:=x.1.2.2.1;let Ka:=x.1.2.2.2;let nS:Int:=(↑(List.length LG):Int);bif decide (Be<nS) then
  let IZ:=List.getD LG (Int.toNat Be) (0,0,0,());bif kL [decide (0≤Be),decide (Be<nS)] then
   bn (zog fN (IZ.2.1,0,99999)) fun Da=>
   bn (zog fN (IZ.2.2.1,0,Ka)) fun Ik=>
   let CH:=bif bif !Da.1 then true else !Ik.1 then true else decide (Ka>99999);bif kL [!!!Da.1 || qu (fN (IZ.2.2.1,0,Ka)),qu (fN (IZ.2.1,0,99999))] then
    bif CH then
     some (.inr (.inl (-1,())))
    else
     let BX:=decide (Hr<0);let Ir:=bif BX then true else decide (IntKind.wrap .i64 (IntKind.wrap .i64 (IZ.2.1+Ka)-IZ.2.2.1)>IntKind.wrap .i64 (IntKind.wrap .i64 (((List.getD LG (Int.toNat Hr) (0,0,0,())).2).1+Ka)-(((List.getD LG (Int.toNat Hr) (0,0,0,())).2).2).1));bif kL [!!BX || decide (0≤Hr),!!BX || decide (Hr<nS),!!BX || decide (0≤Hr),!!BX || decide (Hr<nS)] then
      bif Ir then
       some (.inl (((IntKind.wrap .i64 (Be+1)),Be,LG,Ka),()))
      else
       some (.inl (((IntKind.wrap .i64 (Be+1)),Hr,LG,Ka),()))
     else none
   else none
  else none
 else
  some (.inr (.inr (Hr,())))
def Wh.abB:Int×Unit⊕Int×Unit:=.inl default
def Wh.q85 (xs:List BM.D×Int):Option (Int×Unit):=
 let JY:=xs.1;let NZ:=xs.2;g8 KX abB (((0,-1,JY,NZ),())) fun q_=>
  sumC q_ (fun y_35=>
   let EG:=y_35.1;some (EG,())) (fun z_36=>
   let acU:=z_36.1;some (acU,()))
abbrev Wh.abG:Type:=(Int×Unit×Unit×Int)×b7.D×List BM.D
abbrev Wh.ahJ:Type:=(Int×Unit×Unit)×List BM.D×b7.D
def Wh.KZ (x:abG):Option (abG⊕ahJ):=
 let IG:=x.1.1;let M9:=x.1.2.2.2;let Aw:=x.2.1;let B8:=x.2.2;let BO:Int:=(↑(List.length (Aw.2.2.2.2.2.2.1)):Int);bif decide (IG<BO) then
  let th:b9.D:=List.getD (Aw.2.2.2.2.2.2.1) (Int.toNat IG) (0,0,0,0,0,0,());bn (zog Cc M9) fun Mu=>
  bn (zog Cc th.1) fun r_29=>
  bif kL [qu (Cc M9),qu (Cc th.1),decide (0≤IG),decide (IG<BO)] then
   bif(r_29.1==Mu.1) then
    bn (zog EW th) fun K4=>
    let wm:=B8 ++ [K4.1];bif kL [decide (List.length B8+(1:Nat)≤eV),qu (EW th),decide (0≤IG),decide (IG<BO)] then
     some (.inl (((IntKind.wrap .i64 (IG+1)),(),(),M9),Aw,wm))
    else none
   else
    some (.inl (((IntKind.wrap .i64 (IG+1)),(),(),M9),Aw,B8))
  else none
 else
  some (.inr ((M9,(),()),B8,Aw))
def Wh.abH:(Int×Unit×Unit)×List BM.D×b7.D:=default
def Wh.G4 (xs:b7.D×Int):Option (Bool×Unit):=
 let cx:=xs.1;let M8:=xs.2;g8 KZ abH (((0,(),(),M8),cx,[])) fun y_39=>
  let ac5:=y_39.1.1;let AF:=y_39.2.1;let AG:=y_39.2.2;c9 q85 (AF,AG.2.1) fun ED=>
   let Hf:=decide (ED.1≥0);let Ld:=bif Hf then(List.getD AF (Int.toNat ED.1) (0,0,0,())).1==ac5 else false;bif kL [!Hf || decide (0≤ED.1),!Hf || decide (ED.1<(↑(List.length AF):Int))] then
    some (Ld,())
   else none
abbrev Wh.abI:Type:=(Int×Unit×Unit)×List BM.D×b7.D
abbrev Wh.ahK:Type:=Unit×List BM.D
def Wh.Ig (x:abI):Option (abI⊕ahK):=
 let II:=x.1.1;let Bz:=x.2.1;let s5:=x.2.2;let CH:Int:=(↑(List.length (s5.2.2.2.2.2.2.1)):Int);bif decide (II<CH) then
  let w7:b9.D:=List.getD (s5.2.2.2.2.2.2.1) (Int.toNat II) (0,0,0,0,0,0,());bif kL [decide (0≤II),decide (II<CH)] then
   c9 Ga (s5.2.2.2.1,w7.2.2.1) fun CU=>
    bif CU.1.2 then
     bn (zog Cb (↑(List.length (CU.1.1.2.2.2.1)):Int)) fun K4=>
     let Fy:Int:=(↑(List.length (CU.1.1.2.2.2.1)):Int);bif kL [qu (Cb Fy)] then
      bn (zog G4 (s5,w7.1)) fun DI=>
      bn (zog Cc w7.1) fun Gj=>
      let EG:=bif DI.1 then decide ((List.getD (s5.2.2.2.2.2.1) (Int.toNat Gj.1) (0,0,0,0,())).1≥K4.1.2.1) else false;bif kL [!DI.1 || decide (0≤Gj.1),!DI.1 || decide (Gj.1<(↑(List.length (s5.2.2.2.2.2.1)):Int)),!DI.1 || qu (Cc w7.1),qu (G4 (s5,w7.1))] then
       bif EG then
        bn (zog EW w7) fun Il=>
        let AR:=Bz ++ [Il.1];bif kL [decide (List.length Bz+(1:Nat)≤eV),qu (EW w7)] then
         some (.inl (((IntKind.wrap .i64 (II+1)),(),()),AR,s5))
        else none
       else
        some (.inl (((IntKind.wrap .i64 (II+1)),(),()),Bz,s5))
      else none
     else none
    else
     bn (zog G4 (s5,w7.1)) fun ED=>
     bn (zog Cc w7.1) fun Mw=>
     let v_45:=bif ED.1 then decide ((List.getD (s5.2.2.2.2.2.1) (Int.toNat Mw.1) (0,0,0,0,())).1≥0) else false;bif kL [!ED.1 || decide (0≤Mw.1),!ED.1 || decide (Mw.1<(↑(List.length (s5.2.2.2.2.2.1)):Int)),!ED.1 || qu (Cc w7.1),qu (G4 (s5,w7.1))] then
      bif v_45 then
       bn (zog EW w7) fun Oo=>
       let pg:=Bz ++ [Oo.1];bif kL [decide (List.length Bz+(1:Nat)≤eV),qu (EW w7)] then
        some (.inl (((IntKind.wrap .i64 (II+1)),(),()),pg,s5))
       else none
      else
       some (.inl (((IntKind.wrap .i64 (II+1)),(),()),Bz,s5))
     else none
  else none
 else
  some (.inr ((),Bz))
def Wh.abJ:Unit×List BM.D:=default
def Wh.q96 (xs:b7.D):Option (List BM.D×Unit):=
 let cx:b7.D:=xs;g8 Ig abJ (((0,(),()),[],cx)) fun y_52=>
  let Ax:=y_52.2;some (Ax,())
abbrev Wh.abE:Type:=(Int×Int×Unit×Int)×mb.D
abbrev Wh.ahI:Type:=Int×Unit⊕Unit×Unit
def Wh.KY (x:abE):Option (abE⊕ahI):=
 let z4:=x.1.1;let Wk:=x.1.2.1;let Pe:=x.1.2.2.2;let se:=x.2;let r_:Int:=(↑(List.length se.1):Int);bif decide (z4<r_) then
  let je:b8.D:=List.getD se.1 (Int.toNat z4) (0,0,0,0,false,());let qe:=bif je.2.1==Pe then je.2.2.1==Wk else false;bif kL [!je.2.1==Pe || decide (0≤z4),!je.2.1==Pe || decide (z4<r_),decide (0≤z4),decide (z4<r_)] then
   bif qe then
    some (.inr (.inl (z4,())))
   else
    some (.inl (((IntKind.wrap .i64 (z4+1)),Wk,(),Pe),se))
  else none
 else
  some (.inr (.inr ((),())))
def Wh.abF:Int×Unit⊕Unit×Unit:=.inl default
def Wh.q90 (xs:mb.D×Int×Int):Option (Int×Unit):=
 let fT:=xs.1;let Nk:=xs.2.1;let acW:=xs.2.2;g8 KY abF (((0,acW,(),Nk),fT)) fun q_=>
  sumC q_ (fun JI=>
   let vT:=JI.1;some (vT,())) (fun _=>
   some (-1,()))
abbrev Wh.aaR:Type:=(Int×Unit×Unit×Int×Bool)×(Unit×Int×Unit)×(Unit×Int×Unit)×List b8.D×List b8.D
abbrev Wh.ahi:Type:=(Unit×Int)×(Unit×Int×Unit)×List b8.D⊕(Unit×Unit)×(Unit×Int×Unit)×(Unit×Int×Unit)×List b8.D×List b8.D
def Wh.KS (x:aaR):Option (aaR⊕ahi):=
 let P6:=x.1.1;let Py:=x.1.2.2.2.1;let Qa:=x.1.2.2.2.2;let A9:=x.2.1.2;let BT:=x.2.2.1.2;let Bz:=x.2.2.2.1;let s5:=x.2.2.2.2;bif decide (P6<17) then
  let ET:b8.D:=List.getD Bz (Int.toNat A9.1) (0,0,0,0,false,());bif kL [decide (0≤A9.1),decide (A9.1<(↑(List.length Bz):Int))] then
   let Bj:Int:=Int.tmod (IntKind.wrap .i64 (A9.1+1)) 8;let Ce:=bif Qa then bif ET.2.1==0 then true else ET.1 != Py else false;bif Ce then
    some (.inl (((IntKind.wrap .i64 (P6+1)),(),(),Py,Qa),((),Bj,A9.2),((),BT),Bz,s5))
   else
    bif decide (ET.2.2.2.1>0) then
     some (.inl (((IntKind.wrap .i64 (P6+1)),(),(),Py,Qa),((),Bj,A9.2),((),BT),Bz,s5))
    else
     bif ET.2.2.2.2.1 then
      let Bk:List (b8.D):=List.set Bz (Int.toNat A9.1) (ET.1,ET.2.1,ET.2.2.1,ET.2.2.2.1,false,ET.2.2.2.2.2);bif kL [decide (0≤A9.1),decide (A9.1<(↑(List.length Bz):Int))] then
       some (.inl (((IntKind.wrap .i64 (P6+1)),(),(),Py,Qa),((),Bj,A9.2),((),BT),Bk,s5))
      else none
     else
      some (.inr (.inl (((),A9.1),((),Bj,A9.2),Bz)))
  else none
 else
  some (.inr (.inr (((),()),((),BT),((),A9),s5,Bz)))
def Wh.aaS:(Unit×Int)×(Unit×Int×Unit)×List b8.D⊕(Unit×Unit)×(Unit×Int×Unit)×(Unit×Int×Unit)×List b8.D×List b8.D:=.inl default
def Wh.q44 (xs:(List b8.D×Int×Unit)×Int):Option (((List b8.D×Int×Unit)×Int)×Unit):=
 let fT:=xs.1;let AY:=xs.2;c9 KG (fT,AY) fun r_2=>
  g8 KS aaS (((0,(),(),AY,(decide (r_2.1≥5))),((),fT.2),((),0,()),fT.1,[])) fun q_=>
   sumC q_ (fun y_40=>
    let Lc:=y_40.1.2;let nG:=y_40.2.1.2;let x3:=y_40.2.2;some (((x3,nG),Lc),())) (fun z_41=>
    let wv:=z_41.2.2.1.2;let pg:=z_41.2.2.2.2;some (((pg,wv),-1),()))
def Wh.Ie (xs:mb.D×Int×Int×Int):Option (((List b8.D×Int×Unit)×Int×Int)×Unit):=
 let fT:=xs.1;let AY:=xs.2.1;let Pf:=xs.2.2.1;let Wl:=xs.2.2.2;c9 Gg fT fun dz=>
  c9 q90 (dz.1,Pf,Wl) fun g9=>
   bif decide (g9.1≥0) then
    let nI:Int:=((((List.getD dz.1.1 (Int.toNat g9.1) (0,0,0,0,false,())).2).2).2).1;let Cv:=bif decide (nI≥99999) then true else(List.getD dz.1.1 (Int.toNat g9.1) (0,0,0,0,false,())).1 != AY;bif kL [!!decide (nI≥99999) || decide (0≤g9.1),!!decide (nI≥99999) || decide (g9.1<(↑(List.length dz.1.1):Int)),decide (0≤g9.1),decide (g9.1<(↑(List.length dz.1.1):Int))] then
     bif Cv then
      bif kL [qu (Gg fT)] then
       some ((dz.1,0,3),())
      else none
     else
      let Kb:List (b8.D):=List.set dz.1.1 (Int.toNat g9.1) ((List.getD dz.1.1 (Int.toNat g9.1) (0,0,0,0,false,())).1,((List.getD dz.1.1 (Int.toNat g9.1) (0,0,0,0,false,())).2).1,(((List.getD dz.1.1 (Int.toNat g9.1) (0,0,0,0,false,())).2).2).1,IntKind.wrap .i64 (nI+1),((((List.getD dz.1.1 (Int.toNat g9.1) (0,0,0,0,false,())).2).2).2).2);bif kL [decide (0≤g9.1),decide (g9.1<(↑(List.length dz.1.1):Int)),decide (0≤g9.1),decide (g9.1<(↑(List.length dz.1.1):Int))] then
       let Td:List (b8.D):=List.set Kb (Int.toNat g9.1) ((List.getD Kb (Int.toNat g9.1) (0,0,0,0,false,())).1,((List.getD Kb (Int.toNat g9.1) (0,0,0,0,false,())).2).1,(((List.getD Kb (Int.toNat g9.1) (0,0,0,0,false,())).2).2).1,((((List.getD Kb (Int.toNat g9.1) (0,0,0,0,false,())).2).2).2).1,true,(((((List.getD Kb (Int.toNat g9.1) (0,0,0,0,false,())).2).2).2).2).2);bif kL [decide (0≤g9.1),decide (g9.1<(↑(List.length Kb):Int))] then
        some (((Td,dz.1.2),g9.1,0),())
       else none
      else none
    else none
   else
    c9 q44 (dz.1,AY) fun BV=>
     bif decide (BV.1.2<0) then
      bif kL [qu (Gg fT)] then
       some ((dz.1,0,2),())
      else none
     else
      let N3:List (b8.D):=List.set (BV.1.1.1) (Int.toNat BV.1.2) (AY,Pf,Wl,1,true,());bif kL [decide (0≤BV.1.2),decide (BV.1.2<(↑(List.length (BV.1.1.1)):Int))] then
       some (((N3,BV.1.1.2),BV.1.2,1),())
      else none
def Wh.q87 (xs:mb.D×Int):Option (((List b8.D×Int×Unit)×Bool)×Unit):=
 let fT:=xs.1;let D5:=xs.2;c9 HS fT fun r_2=>
  bif !r_2.1 then
   some ((([],0,()),false),())
  else
   c9 Gg fT fun r_3=>
    bn (zog fN (D5,0,7)) fun dz=>
    let n_:=bif !dz.1 then true else((((List.getD r_3.1.1 (Int.toNat D5) (0,0,0,0,false,())).2).2).2).1==0;bif kL [!!!dz.1 || decide (0≤D5),!!!dz.1 || decide (D5<(↑(List.length r_3.1.1):Int)),qu (fN (D5,0,7))] then
     bif n_ then
      some ((r_3.1,false),())
     else
      let N6:List (b8.D):=List.set r_3.1.1 (Int.toNat D5) ((List.getD r_3.1.1 (Int.toNat D5) (0,0,0,0,false,())).1,((List.getD r_3.1.1 (Int.toNat D5) (0,0,0,0,false,())).2).1,(((List.getD r_3.1.1 (Int.toNat D5) (0,0,0,0,false,())).2).2).1,IntKind.wrap .i64 (((((List.getD r_3.1.1 (Int.toNat D5) (0,0,0,0,false,())).2).2).2).1-1),((((List.getD r_3.1.1 (Int.toNat D5) (0,0,0,0,false,())).2).2).2).2);bif kL [decide (0≤D5),decide (D5<(↑(List.length r_3.1.1):Int)),decide (0≤D5),decide (D5<(↑(List.length r_3.1.1):Int))] then
       some (((N6,r_3.1.2),true),())
      else none
    else none
abbrev Wh.aar:Type:=(Int×Unit×List UInt8×Unit)×gh.D×List (List UInt8)
abbrev Wh.ag7:Type:=Unit×List (List UInt8)
def Wh.Mf (x:aar):Option (aar⊕ag7):=
 let LB:=x.1.1;let RB:=x.1.2.2.1;let Bh:=x.2.1;let A9:=x.2.2;c9 Bf Bh fun Ik=>
  bif decide (LB<Ik.1) then
   let pb_28:List (List UInt8):=[List.take (Int.toNat (IntKind.wrap .i64 (IntKind.wrap .i64 (LB+1)*Bh.2.1)-IntKind.wrap .i64 (LB*Bh.2.1))) (List.drop (Int.toNat (IntKind.wrap .i64 (LB*Bh.2.1))) RB)];let CP:List (List UInt8):=A9++pb_28;let BX:=IntKind.wrap .i64 (LB*Bh.2.1);let Ir:=IntKind.wrap .i64 (LB+1);bif kL [decide (List.length A9+(1:Nat)≤eV),decide (0≤BX),decide (BX≤IntKind.wrap .i64 (Ir*Bh.2.1)),decide (IntKind.wrap .i64 (Ir*Bh.2.1)≤(↑(List.length RB):Int))] then
    some (.inl ((Ir,(),RB,()),Bh,CP))
   else none
  else
   some (.inr ((),A9))
def Wh.aas:Unit×List (List UInt8):=default
def Wh.KN (xs:gh.D×List UInt8):Option (List (List UInt8)×Unit):=
 let fT:=xs.1;let Rc:=xs.2;bn (zog Bf fT) fun r_2=>
 bn (zog Jf (IntKind.wrap .i64 (IntKind.wrap .i64 (r_2.1*fT.2.1)-(↑(List.length Rc):Int)))) fun Bc=>
 let all_9:List UInt8:=Rc++Bc.1;bif kL [decide (List.length Rc+List.length (Bc.1)≤eV),qu (Jf (IntKind.wrap .i64 (IntKind.wrap .i64 (r_2.1*fT.2.1)-(↑(List.length Rc):Int)))),qu (Bf fT)] then
  g8 Mf aas (((0,(),all_9,()),fT,[])) fun y_35=>
   let AM:=y_35.2;some (AM,())
 else none
abbrev Wh.aad:Type:=(Int×List Int×List (List UInt8)×List UInt8)×Unit
abbrev Wh.ag0:Type:=List UInt8×Unit
def Wh.Mb (x:aad):Option (aad⊕ag0):=
 let Av:=x.1.1;let TM:=x.1.2.1;let O6:=x.1.2.2.1;let S9:=x.1.2.2.2;let xb:=decide (Av<(↑(List.length TM):Int));bif xb then
  let je:=List.getD TM (Int.toNat Av) 0;bn (zog F0 (S9,List.getD O6 (Int.toNat je) [])) fun K3=>
  bif kL [qu (F0 (S9,List.getD O6 (Int.toNat je) [])),decide (0≤je),decide (je<(↑(List.length O6):Int)),decide (0≤Av),xb] then
   some (.inl (((IntKind.wrap .i64 (Av+1)),TM,O6,K3.1),()))
  else none
 else
  some (.inr (S9,()))
def Wh.aae:List UInt8×Unit:=default
def Wh.Jp (xs:List (List UInt8)×List Int×Int):Option (List UInt8×Unit):=
 let acX:=xs.1;let QX:=xs.2.1;let size_2:=xs.2.2;c9 Kx (tv [(0:Int)],size_2) fun r_3=>
  g8 Mb aae (((0,QX,acX,r_3.1),())) fun E8=>
   let out_28:=E8.1;some (out_28,())
abbrev Wh.YV:Type:=(Int×Unit×Unit×Unit×Unit×Unit×Unit×Int)×(Bool×Int×List UInt8×(Int×Unit×Unit)×(Unit×Int×Unit)×Unit×Unit×Unit)×List Int×an.D×(Bool×Int×List UInt8×(Int×Unit×Unit)×(Unit×Int×Unit)×Unit×Unit×Unit)×(Int×Int×Unit×Unit×Unit)×b9.D×List an.D×List b8.D×List cw.D×List b9.D×List an.D×List b8.D×List cw.D×List b9.D×List Int×List Int
abbrev Wh.agm:Type:=(Unit×Unit×Unit×Unit×Unit×Unit×Int)×(Bool×Int×List UInt8×(Int×Unit×Unit)×(Unit×Int×Unit)×Unit×Unit×Unit)×(Int×Int×Unit×Unit×Unit)×List Int×an.D×b9.D×(Bool×Int×List UInt8×(Int×Unit×Unit)×(Unit×Int×Unit)×Unit×Unit×Unit)×List an.D×List b8.D×List cw.D×List b9.D×List Int×List Int×List an.D×List b8.D×List cw.D×List b9.D
def Wh.Oa (x:YV):Option (YV⊕agm):=
 let Dg:=x.1.1;let k_48:=x.1.2.2.2.2.2.2.2;let z5:=x.2.1.1;let nE:=x.2.1.2.1;let we:=x.2.1.2.2.1;let s9:=x.2.1.2.2.2.1.1;let Ax:=x.2.1.2.2.2.1.2.2;let AV:=x.2.1.2.2.2.2.1.2;let AH:=x.2.1.2.2.2.2.2.2.2;let nP:=x.2.2.1;let AA:=x.2.2.2.1;let Ck:=x.2.2.2.2.1.1;let B9:=x.2.2.2.2.1.2.1;let Ba:=x.2.2.2.2.1.2.2.1;let BI:=x.2.2.2.2.1.2.2.2.1.1;let B_:=x.2.2.2.2.1.2.2.2.1.2.2;let Bb:=x.2.2.2.2.1.2.2.2.2.1.2;let AW:=x.2.2.2.2.1.2.2.2.2.2.2.2;let BJ:=x.2.2.2.2.2.1.1;let CQ:=x.2.2.2.2.2.1.2.1;let BA:=x.2.2.2.2.2.1.2.2.2.2;let Cp:=x.2.2.2.2.2.2.1;let EO:=x.2.2.2.2.2.2.2.1;let Dk:=x.2.2.2.2.2.2.2.2.1;let Bl:=x.2.2.2.2.2.2.2.2.2.1;let AZ:=x.2.2.2.2.2.2.2.2.2.2.1;let CC:=x.2.2.2.2.2.2.2.2.2.2.2.1;let Ca:=x.2.2.2.2.2.2.2.2.2.2.2.2.1;let Cq:=x.2.2.2.2.2.2.2.2.2.2.2.2.2.1;let CR:=x.2.2.2.2.2.2.2.2.2.2.2.2.2.2.1;let Bn:=x.2.2.2.2.2.2.2.2.2.2.2.2.2.2.2.1;let Et:=x.2.2.2.2.2.2.2.2.2.2.2.2.2.2.2.2;let v_79:=decide (Dg<(↑(List.length nP):Int));bif v_79 then
  bn (zog Ie ((Dk,AV),AA.1,AA.2.2.1,List.getD nP (Int.toNat Dg) 0)) fun QT=>
  let v_81:=List.getD nP (Int.toNat Dg) 0;bif kL [qu (Ie ((Dk,AV),AA.1,AA.2.2.1,v_81)),decide (0≤Dg),v_79] then
   let Iw:=bif(QT.1.2.2==0) then true else QT.1.2.2==1;bif Iw then
    c9 q87 (QT.1.1,QT.1.2.1) fun r_84=>
     some (.inl (((IntKind.wrap .i64 (Dg+1)),(),(),(),(),(),(),k_48),(z5,nE,we,(s9,(),Ax),((),r_84.1.1.2),(),(),AH),nP,AA,(Ck,B9,Ba,(BI,(),B_),((),Bb),(),(),AW),(BJ,CQ,(),(),BA),Cp,EO,r_84.1.1.1,Bl,AZ,CC,Ca,Cq,CR,Bn,Et))
   else
    some (.inl (((IntKind.wrap .i64 (Dg+1)),(),(),(),(),(),(),k_48),(z5,nE,we,(s9,(),Ax),((),AV),(),(),AH),nP,AA,(Ck,B9,Ba,(BI,(),B_),((),Bb),(),(),AW),(BJ,CQ,(),(),BA),Cp,EO,Dk,Bl,AZ,CC,Ca,Cq,CR,Bn,Et))
  else none
 else
  some (.inr (((),(),(),(),(),(),k_48),(Ck,B9,Ba,(BI,(),B_),((),Bb),(),(),AW),(BJ,CQ,(),(),BA),nP,AA,Cp,(z5,nE,we,(s9,(),Ax),((),AV),(),(),AH),CC,Ca,Cq,CR,Bn,Et,EO,Dk,Bl,AZ))
def Wh.YW:(Unit×Unit×Unit×Unit×Unit×Unit×Int)×(Bool×Int×List UInt8×(Int×Unit×Unit)×(Unit×Int×Unit)×Unit×Unit×Unit)×(Int×Int×Unit×Unit×Unit)×List Int×an.D×b9.D×(Bool×Int×List UInt8×(Int×Unit×Unit)×(Unit×Int×Unit)×Unit×Unit×Unit)×List an.D×List b8.D×List cw.D×List b9.D×List Int×List Int×List an.D×List b8.D×List cw.D×List b9.D:=(default,(default,default,default,default,default,default,default,default,default,default,default,default,default,default,default,default))
def Wh.LV (xs:(Bool×Int×List UInt8×(Int×List an.D×Unit)×(List b8.D×Int×Unit)×List cw.D×List b9.D×Unit)×Int×an.D):Option (((Bool×Int×List UInt8×(Int×List an.D×Unit)×(List b8.D×Int×Unit)×List cw.D×List b9.D×Unit)×List ei.D)×Unit):=
 let cx:=xs.1;let k_1:=xs.2.1;let t_2:=xs.2.2;let Dp:b9.D:=List.getD (cx.2.2.2.2.2.2.1) (Int.toNat k_1) (0,0,0,0,0,0,());bif kL [decide (0≤k_1),decide (k_1<(↑(List.length (cx.2.2.2.2.2.2.1)):Int))] then
  bn (zog Cb (↑(List.length (t_2.2.2.2.1)):Int)) fun dz=>
  let n_:Int:=(↑(List.length (t_2.2.2.2.1)):Int);bif kL [qu (Cb n_)] then
   c9 Ft (dz.1,Dp.2.2.2.1) fun n5=>
    g8 Oa YW (((0,(),(),(),(),(),(),k_1),(cx.1,cx.2.1,cx.2.2.1,(cx.2.2.2.1.1,(),cx.2.2.2.1.2.2),((),cx.2.2.2.2.1.2),(),(),cx.2.2.2.2.2.2.2),n5.1,t_2,(false,0,[],(0,(),()),((),0,()),(),(),()),(dz.1.1,dz.1.2.1,(),(),dz.1.2.2.2.2),Dp,cx.2.2.2.1.2.1,cx.2.2.2.2.1.1,cx.2.2.2.2.2.1,cx.2.2.2.2.2.2.1,[],[],[],[],dz.1.2.2.1,dz.1.2.2.2.1)) fun C3=>
     let DQ:=C3.1.2.2.2.2.2.2;let J8:=C3.2.2.1.1;let Fl:=C3.2.2.1.2.1;let HL:=C3.2.2.1.2.2.2.2;let LH:=C3.2.2.2.1;let JZ:=C3.2.2.2.2.1;let Dh:=C3.2.2.2.2.2.1;let HF:=C3.2.2.2.2.2.2.1.1;let Az:=C3.2.2.2.2.2.2.1.2.1;let Eo:=C3.2.2.2.2.2.2.1.2.2.1;let Ep:=C3.2.2.2.2.2.2.1.2.2.2.1.1;let Fk:=C3.2.2.2.2.2.2.1.2.2.2.1.2.2;let GH:=C3.2.2.2.2.2.2.1.2.2.2.2.1.2;let IQ:=C3.2.2.2.2.2.2.1.2.2.2.2.2.2.2;let HG:=C3.2.2.2.2.2.2.2.2.2.2.2.1;let FN:=C3.2.2.2.2.2.2.2.2.2.2.2.2.1;let FO:=C3.2.2.2.2.2.2.2.2.2.2.2.2.2.1;let HH:=C3.2.2.2.2.2.2.2.2.2.2.2.2.2.2.1;let EN:=C3.2.2.2.2.2.2.2.2.2.2.2.2.2.2.2.1;let Er:=C3.2.2.2.2.2.2.2.2.2.2.2.2.2.2.2.2;c9 Cc Dh.1 fun Ii=>
      let HI:List (cw.D):=List.set EN (Int.toNat Ii.1) (IntKind.wrap .i64 ((List.getD EN (Int.toNat Ii.1) (0,0,0,0,())).1-Fl),(List.getD EN (Int.toNat Ii.1) (0,0,0,0,())).2);bif kL [decide (0≤Ii.1),decide (Ii.1<(↑(List.length EN):Int)),decide (0≤Ii.1),decide (Ii.1<(↑(List.length EN):Int))] then
       let Dj:List (b9.D):=List.set Er (Int.toNat DQ) ((List.getD Er (Int.toNat DQ) (0,0,0,0,0,0,())).1,((List.getD Er (Int.toNat DQ) (0,0,0,0,0,0,())).2).1,(((List.getD Er (Int.toNat DQ) (0,0,0,0,0,0,())).2).2).1,Int.tmod (IntKind.wrap .i64 (Dh.2.2.2.1+1)) 10000,((((List.getD Er (Int.toNat DQ) (0,0,0,0,0,0,())).2).2).2).2);bif kL [decide (0≤DQ),decide (DQ<(↑(List.length Er):Int)),true] then
        let IV:List (b9.D):=List.set Dj (Int.toNat DQ) ((List.getD Dj (Int.toNat DQ) (0,0,0,0,0,0,())).1,((List.getD Dj (Int.toNat DQ) (0,0,0,0,0,0,())).2).1,(((List.getD Dj (Int.toNat DQ) (0,0,0,0,0,0,())).2).2).1,((((List.getD Dj (Int.toNat DQ) (0,0,0,0,0,0,())).2).2).2).1,(((((List.getD Dj (Int.toNat DQ) (0,0,0,0,0,0,())).2).2).2).2).1,Az,((((((List.getD Dj (Int.toNat DQ) (0,0,0,0,0,0,())).2).2).2).2).2).2);bif kL [decide (0≤DQ),decide (DQ<(↑(List.length Dj):Int))] then
         bn (zog KN ((J8,Fl,HG,FN,HL),JZ.2.2.2.1)) fun r_128=>
         bn (zog Jp (r_128.1,LH,Fl)) fun r_129=>
         let pb_130:List (ei.D):=[(3,Dh.1,Dh.2.1,Dh.2.2.1,Dh.2.2.2.1,[],r_129.1,())];bif kL [qu (Jp (r_128.1,LH,Fl)),qu (KN ((J8,Fl,HG,FN,HL),JZ.2.2.2.1))] then
          some (((HF,Az,Eo,(Ep,FO,Fk),(HH,GH),HI,IV,IQ),pb_130),())
         else none
        else none
       else none
      else none
  else none
 else none
abbrev Wh.aaL:Type:=(Int×Unit×Unit)×(Bool×Int×List UInt8×(Int×Unit×Unit)×(Unit×Int×Unit)×Unit×Unit×Unit)×(Bool×Int×List UInt8×(Int×Unit×Unit)×(Unit×Int×Unit)×Unit×Unit×Unit)×List an.D×List b8.D×List cw.D×List b9.D×List an.D×List b8.D×List cw.D×List b9.D
abbrev Wh.ahf:Type:=(Unit×Unit)×(Bool×Int×List UInt8×(Int×Unit×Unit)×(Unit×Int×Unit)×Unit×Unit×Unit)×(Bool×Int×List UInt8×(Int×Unit×Unit)×(Unit×Int×Unit)×Unit×Unit×Unit)×List an.D×List b8.D×List cw.D×List b9.D×List an.D×List b8.D×List cw.D×List b9.D
def Wh.Oj (x:aaL):Option (aaL⊕ahf):=
 let h_34:=x.1.1;let nc:=x.2.1.1;let AM:=x.2.1.2.1;let Bk:=x.2.1.2.2.1;let nC:=x.2.1.2.2.2.1.1;let AQ:=x.2.1.2.2.2.1.2.2;let AR:=x.2.1.2.2.2.2.1.2;let AF:=x.2.1.2.2.2.2.2.2.2;let AG:=x.2.2.1.1;let nG:=x.2.2.1.2.1;let x3:=x.2.2.1.2.2.1;let tn:=x.2.2.1.2.2.2.1.1;let wv:=x.2.2.1.2.2.2.1.2.2;let AU:=x.2.2.1.2.2.2.2.1.2;let pg:=x.2.2.1.2.2.2.2.2.2.2;let z5:=x.2.2.2.1;let nE:=x.2.2.2.2.1;let we:=x.2.2.2.2.2.1;let s9:=x.2.2.2.2.2.2.1;let Ax:=x.2.2.2.2.2.2.2.1;let AV:=x.2.2.2.2.2.2.2.2.1;let AH:=x.2.2.2.2.2.2.2.2.2.1;let nP:=x.2.2.2.2.2.2.2.2.2.2;bif decide (h_34<2) then
  bn (zog GY (List.getD we (Int.toNat h_34) (0,0,0,0,()),AM)) fun K5=>
  let B9:List (cw.D):=List.set we (Int.toNat h_34) K5.1;let MQ:cw.D:=List.getD we (Int.toNat h_34) (0,0,0,0,());bif kL [decide (0≤h_34),decide (h_34<(↑(List.length we):Int)),qu (GY (MQ,AM)),decide (0≤h_34),decide (h_34<(↑(List.length we):Int))] then
   some (.inl (((IntKind.wrap .i64 (h_34+1)),(),()),(nc,AM,Bk,(nC,(),AQ),((),AR),(),(),AF),(AG,nG,x3,(tn,(),wv),((),AU),(),(),pg),z5,nE,B9,s9,Ax,AV,AH,nP))
  else none
 else
  some (.inr (((),()),(AG,nG,x3,(tn,(),wv),((),AU),(),(),pg),(nc,AM,Bk,(nC,(),AQ),((),AR),(),(),AF),Ax,AV,AH,nP,z5,nE,we,s9))
def Wh.aaM:(Unit×Unit)×(Bool×Int×List UInt8×(Int×Unit×Unit)×(Unit×Int×Unit)×Unit×Unit×Unit)×(Bool×Int×List UInt8×(Int×Unit×Unit)×(Unit×Int×Unit)×Unit×Unit×Unit)×List an.D×List b8.D×List cw.D×List b9.D×List an.D×List b8.D×List cw.D×List b9.D:=default
def Wh.q31 (xs:b7.D):Option ((b7.D×List ei.D)×Unit):=
 let cx:b7.D:=xs;c9 Gd cx fun r_1=>
  bif !r_1.1 then
   some (((false,0,[],(0,[],()),([],0,()),[],[],()),[]),())
  else
   c9 Fu cx fun r_2=>
    let AK:=bif(!cx.1) then true else decide (cx.2.1≥99999);bif AK then
     some ((r_2.1,[]),())
    else
     g8 Oj aaM (((0,(),()),(r_2.1.1,(IntKind.wrap .i64 (cx.2.1+1)),r_2.1.2.2.1,(r_2.1.2.2.2.1.1,(),r_2.1.2.2.2.1.2.2),((),r_2.1.2.2.2.2.1.2),(),(),r_2.1.2.2.2.2.2.2.2),(false,0,[],(0,(),()),((),0,()),(),(),()),r_2.1.2.2.2.1.2.1,r_2.1.2.2.2.2.1.1,r_2.1.2.2.2.2.2.1,r_2.1.2.2.2.2.2.2.1,[],[],[],[])) fun Gr=>
      let Bl:=Gr.2.2.1.1;let AZ:=Gr.2.2.1.2.1;let CC:=Gr.2.2.1.2.2.1;let Ca:=Gr.2.2.1.2.2.2.1.1;let Cq:=Gr.2.2.1.2.2.2.1.2.2;let CR:=Gr.2.2.1.2.2.2.2.1.2;let Bn:=Gr.2.2.1.2.2.2.2.2.2.2;let CS:=Gr.2.2.2.2.2.2.2.1;let DF:=Gr.2.2.2.2.2.2.2.2.1;let CT:=Gr.2.2.2.2.2.2.2.2.2.1;let Dl:=Gr.2.2.2.2.2.2.2.2.2.2;c9 q96 (Bl,AZ,CC,(Ca,CS,Cq),(DF,CR),CT,Dl,Bn) fun Mx=>
       c9 q85 (Mx.1,AZ) fun My=>
        bif decide (My.1<0) then
         some (((Bl,AZ,CC,(Ca,CS,Cq),(DF,CR),CT,Dl,Bn),[]),())
        else
         let OO:Int:=(List.getD Mx.1 (Int.toNat My.1) (0,0,0,())).1;bn (zog F6 ((Bl,AZ,CC,(Ca,CS,Cq),(DF,CR),CT,Dl,Bn),OO)) fun Jy=>
         bif kL [qu (F6 ((Bl,AZ,CC,(Ca,CS,Cq),(DF,CR),CT,Dl,Bn),OO)),decide (0≤My.1),decide (My.1<(↑(List.length Mx.1):Int))] then
          bn (zog Ga ((Ca,CS,Cq),(((List.getD Dl (Int.toNat Jy.1) (0,0,0,0,0,0,())).2).2).1)) fun Mz=>
          let v_93:Int:=(((List.getD Dl (Int.toNat Jy.1) (0,0,0,0,0,0,())).2).2).1;bif kL [qu (Ga ((Ca,CS,Cq),v_93)),decide (0≤Jy.1),decide (Jy.1<(↑(List.length Dl):Int))] then
           bif(!Mz.1.2) then
            let I5:b9.D:=List.getD Dl (Int.toNat Jy.1) (0,0,0,0,0,0,());bif kL [decide (0≤Jy.1),decide (Jy.1<(↑(List.length Dl):Int))] then
             bn (zog G1 ((Bl,AZ,CC,(Ca,CS,Cq),(DF,CR),CT,Dl,Bn),I5.1)) fun r_96=>
             bn (zog q94 (I5.1,I5.2.1,I5.2.2.1)) fun r_97=>
             bif kL [qu (q94 (I5.1,I5.2.1,I5.2.2.1)),qu (G1 ((Bl,AZ,CC,(Ca,CS,Cq),(DF,CR),CT,Dl,Bn),I5.1))] then
              some ((r_96.1,r_97.1),())
             else none
            else none
           else
            c9 LV ((Bl,AZ,CC,(Ca,CS,Cq),(DF,CR),CT,Dl,Bn),Jy.1,Mz.1.1) fun r_98=>
             some (r_98.1,())
          else none
         else none
def Wh.q49 (xs:di.D):Option (List UInt8×Unit):=
 let e_0:=xs;c9 EY (e_0.2.1,e_0.2.2.2.1,e_0.2.2.2.2.1) fun r_1=>
  some (r_1.1,())
def Wh.q86 (xs:List UInt8×List UInt8×Int):Option (List UInt8×Unit):=
 let A5:=xs.1;let CX:=xs.2.1;let M5:=xs.2.2;c9 Kw (A5,CX) fun r_3=>
  let n_:=bif(!r_3.1.2) then true else decide (M5<0);bif n_ then
   some (A5,())
  else
   let nW:Int:=(↑(List.length r_3.1.1):Int);bif(decide (M5>IntKind.wrap .i64 (nW-(↑(List.length A5):Int)))) then
    some (r_3.1.1,())
   else
    let A3:=IntKind.wrap .i64 ((↑(List.length A5):Int)+M5);let CG:List UInt8:=List.take (Int.toNat (A3-0)) (List.drop (Int.toNat 0) r_3.1.1);bif kL [true,decide (0≤A3),decide (A3≤nW)] then
     some (CG,())
    else none
def Wh.q27 (xs:b7.D×List UInt8×Int):Option (b7.D×Unit):=
 let cx:=xs.1;let CX:=xs.2.1;let M5:=xs.2.2;c9 Gd cx fun r_3=>
  bif !r_3.1 then
   some ((false,0,[],(0,[],()),([],0,()),[],[],()),())
  else
   c9 F4 (cx.2.2.2.1,CX) fun dz=>
    let n_:=bif cx.1 then dz.1.2 else false;bif n_ then
     c9 q86 (cx.2.2.1,CX,M5) fun n5=>
      some ((false,cx.2.1,n5.1,(0,[],()),([],0,()),[],[],()),())
    else
     some ((false,cx.2.1,cx.2.2.1,(0,[],()),([],0,()),[],[],()),())
def Wh.q29 (xs:b7.D):Option (b7.D×Unit):=
 let cx:b7.D:=xs;c9 Gd cx fun r_1=>
  bif !r_1.1 then
   some ((false,0,[],(0,[],()),([],0,()),[],[],()),())
  else
   bif cx.1 then
    c9 Fu cx fun r_2=>
     some (r_2.1,())
   else
    c9 Fp (cx.2.2.1) fun r_3=>
     c9 Jm r_3.1.1 fun dz=>
      bn (zog HT ()) fun g9=>
      bn (zog H9 cx.2.1) fun n5=>
      let Ke:List UInt8:=List.take (Int.toNat (r_3.1.2-0)) (List.drop (Int.toNat 0) (cx.2.2.1));bif kL [qu (H9 cx.2.1),qu (HT ()),true,decide (0≤r_3.1.2),decide (r_3.1.2≤(↑(List.length (cx.2.2.1)):Int))] then
       some ((true,cx.2.1,Ke,dz.1.1,g9.1,n5.1,[],()),())
      else none
def Wh.q50 (xs:(b7.D×List bm.D×List cg.D×List an.D×Unit)×di.D):Option (((b7.D×List bm.D×List cg.D×List an.D×Unit)×Bool)×Unit):=
 let w_0:=xs.1;let e_1:=xs.2;bif(e_1.1==1) then
  c9 q41 (w_0.1,e_1.2.1,e_1.2.2.2.1,e_1.2.2.2.2.1) fun r_3=>
   c9 Ko (r_3.1.1,w_0.2) fun dz=>
    some ((dz.1,(r_3.1.2==0)),())
 else
  bif(e_1.1==2) then
   c9 q30 (w_0.1,e_1.2.1,e_1.2.2.2.1) fun AN=>
    some (((AN.1.1,w_0.2),(AN.1.2==0)),())
  else
   bif(e_1.1==6) then
    c9 q31 w_0.1 fun A2=>
     c9 GS ((A2.1.1,w_0.2),-1,A2.1.2) fun Cd=>
      some ((Cd.1,(decide (A2.1.1.2.1>w_0.1.2.1))),())
   else
    bif(e_1.1==11) then
     bn (zog q49 e_1) fun BV=>
     bn (zog q27 (w_0.1,BV.1,e_1.2.2.1)) fun E3=>
     bif kL [qu (q27 (w_0.1,BV.1,e_1.2.2.1)),qu (q49 e_1)] then
      some (((E3.1,w_0.2),w_0.1.1),())
     else none
    else
     c9 q29 w_0.1 fun C_=>
      c9 Ko (C_.1,w_0.2) fun Jv=>
       some ((Jv.1,(!w_0.1.1)),())
def Wh.q69 (x:(Unit×Unit×Unit×Int)×((Bool×Int×List UInt8×(Int×Unit×Unit)×(Unit×Int×Unit)×Unit×Unit×Unit)×Unit×Unit×Unit×Unit)×di.D×(b7.D×Unit×Unit×Unit×Unit)×List an.D×List b8.D×List cw.D×List b9.D×List bm.D×List cg.D×List an.D×List bm.D×List cg.D×List an.D):Option ((Bool×Unit×Unit×Unit)×((Bool×Int×List UInt8×(Int×Unit×Unit)×(Unit×Int×Unit)×Unit×Unit×Unit)×Unit×Unit×Unit×Unit)×di.D×(b7.D×Unit×Unit×Unit×Unit)×List an.D×List b8.D×List cw.D×List b9.D×List bm.D×List cg.D×List an.D×List bm.D×List cg.D×List an.D):=
 let OM:=x.1.2.2.2;let NF:=x.2.1.1.1;let J3:=x.2.1.1.2.1;let NG:=x.2.1.1.2.2.1;let NH:=x.2.1.1.2.2.2.1.1;let NI:=x.2.1.1.2.2.2.1.2.2;let NJ:=x.2.1.1.2.2.2.2.1.2;let FQ:=x.2.1.1.2.2.2.2.2.2.2;let FR:=x.2.1.2.2.2.2;let J4:=x.2.2.1;let NK:=x.2.2.2.1.1;let J5:=x.2.2.2.1.2.2.2.2;let NL:=x.2.2.2.2.1;let NM:=x.2.2.2.2.2.1;let NN:=x.2.2.2.2.2.2.1;let NO:=x.2.2.2.2.2.2.2.1;let NP:=x.2.2.2.2.2.2.2.2.1;let NQ:=x.2.2.2.2.2.2.2.2.2.1;let FU:=x.2.2.2.2.2.2.2.2.2.2.1;let NR:=x.2.2.2.2.2.2.2.2.2.2.2.1;let NS:=x.2.2.2.2.2.2.2.2.2.2.2.2.1;let NT:=x.2.2.2.2.2.2.2.2.2.2.2.2.2;let v_205:=OM==1;bif v_205 then
  some (((v_205,(),(),()),((NF,J3,NG,(NH,(),NI),((),NJ),(),(),FQ),(),(),(),FR),J4,(NK,(),(),(),J5),NL,NM,NN,NO,NP,NQ,FU,NR,NS,NT))
 else
  let v_206:=OM==2;bif v_206 then
   some (((v_206,(),(),()),((NF,J3,NG,(NH,(),NI),((),NJ),(),(),FQ),(),(),(),FR),J4,(NK,(),(),(),J5),NL,NM,NN,NO,NP,NQ,FU,NR,NS,NT))
  else
   let Rg:=OM==6;bif Rg then
    some (((Rg,(),(),()),((NF,J3,NG,(NH,(),NI),((),NJ),(),(),FQ),(),(),(),FR),J4,(NK,(),(),(),J5),NL,NM,NN,NO,NP,NQ,FU,NR,NS,NT))
   else
    let v_208:=OM==11;bif v_208 then
     some (((v_208,(),(),()),((NF,J3,NG,(NH,(),NI),((),NJ),(),(),FQ),(),(),(),FR),J4,(NK,(),(),(),J5),NL,NM,NN,NO,NP,NQ,FU,NR,NS,NT))
    else
     let v_209:=OM==12;some (((v_209,(),(),()),((NF,J3,NG,(NH,(),NI),((),NJ),(),(),FQ),(),(),(),FR),J4,(NK,(),(),(),J5),NL,NM,NN,NO,NP,NQ,FU,NR,NS,NT))
def Wh.QD (x:((Unit)×(Unit)×(Unit)×(Int))×((((Bool)×((Int)×((List UInt8)×(((Int)×((Unit)×(Unit)))×(((Unit)×((Int)×(Unit)))×((Unit)×((Unit)×(Unit))))))))×((Unit)×((Unit)×((Unit)×(Unit)))))×(di.D)×((b7.D)×((Unit)×((Unit)×((Unit)×(Unit)))))×(List (an.D))×(List (b8.D))×(List (cw.D))×(List (b9.D))×(List (bm.D))×(List (cg.D))×(List (an.D))×(List (bm.D))×(List (cg.D))×(List (an.D)))):(((Bool)×(Unit)×(Unit)×(Unit))×((((Bool)×((Int)×((List UInt8)×(((Int)×((Unit)×(Unit)))×(((Unit)×((Int)×(Unit)))×((Unit)×((Unit)×(Unit))))))))×((Unit)×((Unit)×((Unit)×(Unit)))))×(di.D)×((b7.D)×((Unit)×((Unit)×((Unit)×(Unit)))))×(List (an.D))×(List (b8.D))×(List (cw.D))×(List (b9.D))×(List (bm.D))×(List (cg.D))×(List (an.D))×(List (bm.D))×(List (cg.D))×(List (an.D)))):=match q69 x with | some y=>y|none=>(default,(default,default,default,default,default,default,default,default,default,default,default,default,default))
def Wh.q69_v (x:((Unit)×(Unit)×(Unit)×(Int))×((((Bool)×((Int)×((List UInt8)×(((Int)×((Unit)×(Unit)))×(((Unit)×((Int)×(Unit)))×((Unit)×((Unit)×(Unit))))))))×((Unit)×((Unit)×((Unit)×(Unit)))))×(di.D)×((b7.D)×((Unit)×((Unit)×((Unit)×(Unit)))))×(List (an.D))×(List (b8.D))×(List (cw.D))×(List (b9.D))×(List (bm.D))×(List (cg.D))×(List (an.D))×(List (bm.D))×(List (cg.D))×(List (an.D))))(y:(((Bool)×(Unit)×(Unit)×(Unit))×((((Bool)×((Int)×((List UInt8)×(((Int)×((Unit)×(Unit)))×(((Unit)×((Int)×(Unit)))×((Unit)×((Unit)×(Unit))))))))×((Unit)×((Unit)×((Unit)×(Unit)))))×(di.D)×((b7.D)×((Unit)×((Unit)×((Unit)×(Unit)))))×(List (an.D))×(List (b8.D))×(List (cw.D))×(List (b9.D))×(List (bm.D))×(List (cg.D))×(List (an.D))×(List (bm.D))×(List (cg.D))×(List (an.D)))))(h:q69 x=some y):QD x=y:=by unfold QD;rw[h]
def Wh.q68 (x:(Unit×Unit×Unit×Int)×((Bool×Int×List UInt8×(Int×Unit×Unit)×(Unit×Int×Unit)×Unit×Unit×Unit)×Unit×Unit×Unit×Unit)×di.D×(b7.D×Unit×Unit×Unit×Unit)×List an.D×List b8.D×List cw.D×List b9.D×List bm.D×List cg.D×List an.D×List bm.D×List cg.D×List an.D):Option ((Bool×Unit×Unit×Unit×Int)×((Bool×Int×List UInt8×(Int×Unit×Unit)×(Unit×Int×Unit)×Unit×Unit×Unit)×Unit×Unit×Unit×Unit)×di.D×(b7.D×Unit×Unit×Unit×Unit)×List an.D×List b8.D×List cw.D×List b9.D×List bm.D×List cg.D×List an.D×List bm.D×List cg.D×List an.D):=
 let JA:=x.1.2.2.2;let Eo:=x.2.1.1.1;let Ep:=x.2.1.1.2.1;let Fk:=x.2.1.1.2.2.1;let GH:=x.2.1.1.2.2.2.1.1;let IQ:=x.2.1.1.2.2.2.1.2.2;let IS:=x.2.1.1.2.2.2.2.1.2;let IT:=x.2.1.1.2.2.2.2.2.2.2;let LI:=x.2.1.2.2.2.2;let IU:=x.2.2.1;let HG:=x.2.2.2.1.1;let FN:=x.2.2.2.1.2.2.2.2;let FO:=x.2.2.2.2.1;let HH:=x.2.2.2.2.2.1;let EN:=x.2.2.2.2.2.2.1;let Er:=x.2.2.2.2.2.2.2.1;let J1:=x.2.2.2.2.2.2.2.2.1;let HI:=x.2.2.2.2.2.2.2.2.2.1;let J2:=x.2.2.2.2.2.2.2.2.2.2.1;let GJ:=x.2.2.2.2.2.2.2.2.2.2.2.1;let Dj:=x.2.2.2.2.2.2.2.2.2.2.2.2.1;let HJ:=x.2.2.2.2.2.2.2.2.2.2.2.2.2;let v_126:=JA==3;bif v_126 then
  some (((v_126,(),(),(),JA),((Eo,Ep,Fk,(GH,(),IQ),((),IS),(),(),IT),(),(),(),LI),IU,(HG,(),(),(),FN),FO,HH,EN,Er,J1,HI,J2,GJ,Dj,HJ))
 else
  let v_127:=JA==4;bif v_127 then
   some (((v_127,(),(),(),JA),((Eo,Ep,Fk,(GH,(),IQ),((),IS),(),(),IT),(),(),(),LI),IU,(HG,(),(),(),FN),FO,HH,EN,Er,J1,HI,J2,GJ,Dj,HJ))
  else
   let Rf:=JA==5;bif Rf then
    some (((Rf,(),(),(),JA),((Eo,Ep,Fk,(GH,(),IQ),((),IS),(),(),IT),(),(),(),LI),IU,(HG,(),(),(),FN),FO,HH,EN,Er,J1,HI,J2,GJ,Dj,HJ))
   else
    let v_129:=JA==7;some (((v_129,(),(),(),JA),((Eo,Ep,Fk,(GH,(),IQ),((),IS),(),(),IT),(),(),(),LI),IU,(HG,(),(),(),FN),FO,HH,EN,Er,J1,HI,J2,GJ,Dj,HJ))
def Wh.QC (x:((Unit)×(Unit)×(Unit)×(Int))×((((Bool)×((Int)×((List UInt8)×(((Int)×((Unit)×(Unit)))×(((Unit)×((Int)×(Unit)))×((Unit)×((Unit)×(Unit))))))))×((Unit)×((Unit)×((Unit)×(Unit)))))×(di.D)×((b7.D)×((Unit)×((Unit)×((Unit)×(Unit)))))×(List (an.D))×(List (b8.D))×(List (cw.D))×(List (b9.D))×(List (bm.D))×(List (cg.D))×(List (an.D))×(List (bm.D))×(List (cg.D))×(List (an.D)))):(((Bool)×(Unit)×(Unit)×(Unit)×(Int))×((((Bool)×((Int)×((List UInt8)×(((Int)×((Unit)×(Unit)))×(((Unit)×((Int)×(Unit)))×((Unit)×((Unit)×(Unit))))))))×((Unit)×((Unit)×((Unit)×(Unit)))))×(di.D)×((b7.D)×((Unit)×((Unit)×((Unit)×(Unit)))))×(List (an.D))×(List (b8.D))×(List (cw.D))×(List (b9.D))×(List (bm.D))×(List (cg.D))×(List (an.D))×(List (bm.D))×(List (cg.D))×(List (an.D)))):=match q68 x with | some y=>y|none=>(default,(default,default,default,default,default,default,default,default,default,default,default,default,default))
def Wh.q68_v (x:((Unit)×(Unit)×(Unit)×(Int))×((((Bool)×((Int)×((List UInt8)×(((Int)×((Unit)×(Unit)))×(((Unit)×((Int)×(Unit)))×((Unit)×((Unit)×(Unit))))))))×((Unit)×((Unit)×((Unit)×(Unit)))))×(di.D)×((b7.D)×((Unit)×((Unit)×((Unit)×(Unit)))))×(List (an.D))×(List (b8.D))×(List (cw.D))×(List (b9.D))×(List (bm.D))×(List (cg.D))×(List (an.D))×(List (bm.D))×(List (cg.D))×(List (an.D))))(y:(((Bool)×(Unit)×(Unit)×(Unit)×(Int))×((((Bool)×((Int)×((List UInt8)×(((Int)×((Unit)×(Unit)))×(((Unit)×((Int)×(Unit)))×((Unit)×((Unit)×(Unit))))))))×((Unit)×((Unit)×((Unit)×(Unit)))))×(di.D)×((b7.D)×((Unit)×((Unit)×((Unit)×(Unit)))))×(List (an.D))×(List (b8.D))×(List (cw.D))×(List (b9.D))×(List (bm.D))×(List (cg.D))×(List (an.D))×(List (bm.D))×(List (cg.D))×(List (an.D)))))(h:q68 x=some y):QC x=y:=by unfold QC;rw[h]
def Wh.q67 (x:(Unit×Unit×Unit×Int)×((Bool×Int×List UInt8×(Int×Unit×Unit)×(Unit×Int×Unit)×Unit×Unit×Unit)×Unit×Unit×Unit×Unit)×di.D×(b7.D×Unit×Unit×Unit×Unit)×List an.D×List b8.D×List cw.D×List b9.D×List bm.D×List cg.D×List an.D×List bm.D×List cg.D×List an.D):Option ((Bool×Unit×Unit×Unit×Int)×((Bool×Int×List UInt8×(Int×Unit×Unit)×(Unit×Int×Unit)×Unit×Unit×Unit)×Unit×Unit×Unit×Unit)×di.D×(b7.D×Unit×Unit×Unit×Unit)×List an.D×List b8.D×List cw.D×List b9.D×List bm.D×List cg.D×List an.D×List bm.D×List cg.D×List an.D):=
 let Du:=x.1.2.2.2;let s5:=x.2.1.1.1;let CP:=x.2.1.1.2.1;let Bi:=x.2.1.1.2.2.1;let Bj:=x.2.1.1.2.2.2.1.1;let AE:=x.2.1.1.2.2.2.1.2.2;let A_:=x.2.1.1.2.2.2.2.1.2;let wm:=x.2.1.1.2.2.2.2.2.2.2;let nc:=x.2.1.2.2.2.2;let AM:=x.2.2.1;let Bk:=x.2.2.2.1.1;let nC:=x.2.2.2.1.2.2.2.2;let AQ:=x.2.2.2.2.1;let AR:=x.2.2.2.2.2.1;let AF:=x.2.2.2.2.2.2.1;let AG:=x.2.2.2.2.2.2.2.1;let nG:=x.2.2.2.2.2.2.2.2.1;let x3:=x.2.2.2.2.2.2.2.2.2.1;let tn:=x.2.2.2.2.2.2.2.2.2.2.1;let wv:=x.2.2.2.2.2.2.2.2.2.2.2.1;let AU:=x.2.2.2.2.2.2.2.2.2.2.2.2.1;let pg:=x.2.2.2.2.2.2.2.2.2.2.2.2.2;let JC:=Du==8;bif JC then
  some (((JC,(),(),(),Du),((s5,CP,Bi,(Bj,(),AE),((),A_),(),(),wm),(),(),(),nc),AM,(Bk,(),(),(),nC),AQ,AR,AF,AG,nG,x3,tn,wv,AU,pg))
 else
  let Is:=Du==9;bif Is then
   some (((Is,(),(),(),Du),((s5,CP,Bi,(Bj,(),AE),((),A_),(),(),wm),(),(),(),nc),AM,(Bk,(),(),(),nC),AQ,AR,AF,AG,nG,x3,tn,wv,AU,pg))
  else
   let BZ:=Du==10;some (((BZ,(),(),(),Du),((s5,CP,Bi,(Bj,(),AE),((),A_),(),(),wm),(),(),(),nc),AM,(Bk,(),(),(),nC),AQ,AR,AF,AG,nG,x3,tn,wv,AU,pg))
def Wh.QB (x:((Unit)×(Unit)×(Unit)×(Int))×((((Bool)×((Int)×((List UInt8)×(((Int)×((Unit)×(Unit)))×(((Unit)×((Int)×(Unit)))×((Unit)×((Unit)×(Unit))))))))×((Unit)×((Unit)×((Unit)×(Unit)))))×(di.D)×((b7.D)×((Unit)×((Unit)×((Unit)×(Unit)))))×(List (an.D))×(List (b8.D))×(List (cw.D))×(List (b9.D))×(List (bm.D))×(List (cg.D))×(List (an.D))×(List (bm.D))×(List (cg.D))×(List (an.D)))):(((Bool)×(Unit)×(Unit)×(Unit)×(Int))×((((Bool)×((Int)×((List UInt8)×(((Int)×((Unit)×(Unit)))×(((Unit)×((Int)×(Unit)))×((Unit)×((Unit)×(Unit))))))))×((Unit)×((Unit)×((Unit)×(Unit)))))×(di.D)×((b7.D)×((Unit)×((Unit)×((Unit)×(Unit)))))×(List (an.D))×(List (b8.D))×(List (cw.D))×(List (b9.D))×(List (bm.D))×(List (cg.D))×(List (an.D))×(List (bm.D))×(List (cg.D))×(List (an.D)))):=match q67 x with | some y=>y|none=>(default,(default,default,default,default,default,default,default,default,default,default,default,default,default))
def Wh.q67_v (x:((Unit)×(Unit)×(Unit)×(Int))×((((Bool)×((Int)×((List UInt8)×(((Int)×((Unit)×(Unit)))×(((Unit)×((Int)×(Unit)))×((Unit)×((Unit)×(Unit))))))))×((Unit)×((Unit)×((Unit)×(Unit)))))×(di.D)×((b7.D)×((Unit)×((Unit)×((Unit)×(Unit)))))×(List (an.D))×(List (b8.D))×(List (cw.D))×(List (b9.D))×(List (bm.D))×(List (cg.D))×(List (an.D))×(List (bm.D))×(List (cg.D))×(List (an.D))))(y:(((Bool)×(Unit)×(Unit)×(Unit)×(Int))×((((Bool)×((Int)×((List UInt8)×(((Int)×((Unit)×(Unit)))×(((Unit)×((Int)×(Unit)))×((Unit)×((Unit)×(Unit))))))))×((Unit)×((Unit)×((Unit)×(Unit)))))×(di.D)×((b7.D)×((Unit)×((Unit)×((Unit)×(Unit)))))×(List (an.D))×(List (b8.D))×(List (cw.D))×(List (b9.D))×(List (bm.D))×(List (cg.D))×(List (an.D))×(List (bm.D))×(List (cg.D))×(List (an.D)))))(h:q67 x=some y):QB x=y:=by unfold QB;rw[h]
def Wh.KI (xs:(b7.D×List bm.D×List cg.D×List an.D×Unit)×di.D):Option ((eL.D×Bool)×Unit):=
 let w_0:=xs.1;let e_1:=xs.2;CJ q67 QB ((((),(),(),e_1.1),((false,0,[],(0,(),()),((),0,()),(),(),()),(),(),(),()),e_1,(w_0.1,(),(),(),w_0.2.2.2.2),[],[],[],[],[],[],[],w_0.2.1,w_0.2.2.1,w_0.2.2.2.1)) fun B3=>
  let At:=B3.1.1;let JD:=B3.1.2.2.2.2;let nP:=B3.2.1.1.1;let AA:=B3.2.1.1.2.1;let Ck:=B3.2.1.1.2.2.1;let B9:=B3.2.1.1.2.2.2.1.1;let Ba:=B3.2.1.1.2.2.2.1.2.2;let BI:=B3.2.1.1.2.2.2.2.1.2;let B_:=B3.2.1.1.2.2.2.2.2.2.2;let Bb:=B3.2.1.2.2.2.2;let AW:=B3.2.2.1;let BJ:=B3.2.2.2.1.1;let CQ:=B3.2.2.2.1.2.2.2.2;let BA:=B3.2.2.2.2.1;let Cp:=B3.2.2.2.2.2.1;let EO:=B3.2.2.2.2.2.2.1;let Dk:=B3.2.2.2.2.2.2.2.1;let Bl:=B3.2.2.2.2.2.2.2.2.1;let AZ:=B3.2.2.2.2.2.2.2.2.2.1;let CC:=B3.2.2.2.2.2.2.2.2.2.2.1;let Ca:=B3.2.2.2.2.2.2.2.2.2.2.2.1;let Cq:=B3.2.2.2.2.2.2.2.2.2.2.2.2.1;let CR:=B3.2.2.2.2.2.2.2.2.2.2.2.2.2;bif At then
   c9 q70 ((BJ,Ca,Cq,CR,CQ),AW) fun Oq=>
    some (Oq.1,())
  else
   CJ q68 QC ((((),(),(),JD),((nP,AA,Ck,(B9,(),Ba),((),BI),(),(),B_),(),(),(),Bb),AW,(BJ,(),(),(),CQ),BA,Cp,EO,Dk,Bl,AZ,CC,Ca,Cq,CR)) fun Cm=>
    let v_132:=Cm.1.1;let T7:=Cm.1.2.2.2.2;let PW:=Cm.2.1.1.1;let PX:=Cm.2.1.1.2.1;let PY:=Cm.2.1.1.2.2.1;let SM:=Cm.2.1.1.2.2.2.1.1;let SN:=Cm.2.1.1.2.2.2.1.2.2;let SO:=Cm.2.1.1.2.2.2.2.1.2;let ls_140:=Cm.2.1.1.2.2.2.2.2.2.2;let ls_141:=Cm.2.1.2.2.2.2;let XW:=Cm.2.2.1;let XX:=Cm.2.2.2.1.1;let XY:=Cm.2.2.2.1.2.2.2.2;let ls_145:=Cm.2.2.2.2.1;let SP:=Cm.2.2.2.2.2.1;let SQ:=Cm.2.2.2.2.2.2.1;let LJ:=Cm.2.2.2.2.2.2.2.1;let HK:=Cm.2.2.2.2.2.2.2.2.1;let SR:=Cm.2.2.2.2.2.2.2.2.2.1;let SS:=Cm.2.2.2.2.2.2.2.2.2.2.1;let PZ:=Cm.2.2.2.2.2.2.2.2.2.2.2.1;let P0:=Cm.2.2.2.2.2.2.2.2.2.2.2.2.1;let P3:=Cm.2.2.2.2.2.2.2.2.2.2.2.2.2;bif v_132 then
     c9 q48 ((XX,PZ,P0,P3,XY),XW) fun r_155=>
      some (r_155.1,())
    else
     CJ q69 QD ((((),(),(),T7),((PW,PX,PY,(SM,(),SN),((),SO),(),(),ls_140),(),(),(),ls_141),XW,(XX,(),(),(),XY),ls_145,SP,SQ,LJ,HK,SR,SS,PZ,P0,P3)) fun Lh=>
      let v_212:=Lh.1.1;let ls_221:=Lh.2.2.1;let X2:=Lh.2.2.2.1.1;let X3:=Lh.2.2.2.1.2.2.2.2;let X4:=Lh.2.2.2.2.2.2.2.2.2.2.2.1;let X5:=Lh.2.2.2.2.2.2.2.2.2.2.2.2.1;let X6:=Lh.2.2.2.2.2.2.2.2.2.2.2.2.2;bif v_212 then
       c9 q50 ((X2,X4,X5,X6,X3),ls_221) fun r_234=>
        some (r_234.1,())
      else
       some (((X2,X4,X5,X6,X3),false),())
abbrev Wh.abi:Type:=(Int×Unit×Unit×Unit×Unit)×dj.D×eL.D×List di.D×((Bool×Int×List UInt8×(Int×Unit×Unit)×(Unit×Int×Unit)×Unit×Unit×Unit)×Unit×Unit×Unit×Unit)×List an.D×List b8.D×List cw.D×List b9.D×List bm.D×List cg.D×List an.D
abbrev Wh.ahw:Type:=(Unit×Unit×Unit)×dj.D×((Bool×Int×List UInt8×(Int×Unit×Unit)×(Unit×Int×Unit)×Unit×Unit×Unit)×Unit×Unit×Unit×Unit)×eL.D×List di.D×List an.D×List b8.D×List cw.D×List b9.D×List bm.D×List cg.D×List an.D
def Wh.QE (x:abi):Option (abi⊕ahw):=
 let n_38:=x.1.1;let pb_39:=x.2.1;let AR:=x.2.2.1;let AF:=x.2.2.2.1;let AG:=x.2.2.2.2.1.1.1;let nG:=x.2.2.2.2.1.1.2.1;let x3:=x.2.2.2.2.1.1.2.2.1;let tn:=x.2.2.2.2.1.1.2.2.2.1.1;let wv:=x.2.2.2.2.1.1.2.2.2.1.2.2;let AU:=x.2.2.2.2.1.1.2.2.2.2.1.2;let pg:=x.2.2.2.2.1.1.2.2.2.2.2.2.2;let z5:=x.2.2.2.2.1.2.2.2.2;let nE:=x.2.2.2.2.2.1;let we:=x.2.2.2.2.2.2.1;let s9:=x.2.2.2.2.2.2.2.1;let Ax:=x.2.2.2.2.2.2.2.2.1;let AV:=x.2.2.2.2.2.2.2.2.2.1;let AH:=x.2.2.2.2.2.2.2.2.2.2.1;let nP:=x.2.2.2.2.2.2.2.2.2.2.2;bif decide (n_38>0) then
  c9 q72 (pb_39,AR) fun K5=>
   let To:List (di.D):=[K5.1];let Ba:=AF++To;bif kL [decide (List.length AF+(1:Nat)≤eV)] then
    bn (zog HR AR) fun CV=>
    bn (zog KI (CV.1,K5.1)) fun r_62=>
    bif kL [qu (KI (CV.1,K5.1)),qu (HR AR)] then
     bif r_62.1.2 then
      some (.inl (((IntKind.wrap .i64 (n_38-1)),(),(),(),()),K5.2.1,r_62.1.1,Ba,((AG,nG,x3,(tn,(),wv),((),AU),(),(),pg),(),(),(),z5),nE,we,s9,Ax,AV,AH,nP))
     else
      some (.inl (((IntKind.wrap .i64 (n_38-1)),(),(),(),()),K5.2.1,AR,Ba,((AG,nG,x3,(tn,(),wv),((),AU),(),(),pg),(),(),(),z5),nE,we,s9,Ax,AV,AH,nP))
    else none
   else none
 else
  some (.inr (((),(),()),pb_39,((AG,nG,x3,(tn,(),wv),((),AU),(),(),pg),(),(),(),z5),AR,AF,nE,we,s9,Ax,AV,AH,nP))
def Wh.abj:(Unit×Unit×Unit)×dj.D×((Bool×Int×List UInt8×(Int×Unit×Unit)×(Unit×Int×Unit)×Unit×Unit×Unit)×Unit×Unit×Unit×Unit)×eL.D×List di.D×List an.D×List b8.D×List cw.D×List b9.D×List bm.D×List cg.D×List an.D:=default
def Wh.q73 (xs:dj.D×Int):Option ((List di.D×b7.D×List bm.D×List cg.D×List an.D×Unit)×dj.D×Unit):=
 let vN:=xs.1;let most_1:=xs.2;c9 q64 () fun r_2=>
  c9 m5 (vN,most_1) fun r_3=>
   g8 QE abj (((r_3.1,(),(),(),()),r_3.2.1,r_2.1,[],((false,0,[],(0,(),()),((),0,()),(),(),()),(),(),(),()),[],[],[],[],[],[],[])) fun OY=>
    let LU:=OY.2.1;let DF:=OY.2.2.2.1;let CT:=OY.2.2.2.2.1;c9 HR DF fun Mz=>
     some ((CT,Mz.1),LU,())
def Wh.q75 (xs:dj.D):Option ((b7.D×List bm.D×List cg.D×List an.D×Unit)×dj.D×Unit):=
 let vN:dj.D:=xs;c9 q73 (vN,110) fun r_1=>
  some (r_1.1.2,r_1.2.1,())
def Wh.q3 (xs:dj.D×eL.D):Option ((b7.D×List bm.D×List cg.D×List an.D×Unit)×dj.D×Unit):=
 let vN:=xs.1;let w_1:=xs.2;c9 HR w_1 fun r_2=>
  c9 m5 (vN,8) fun r_3=>
   bif(r_3.1==0) then
    bn (zog m5 (r_3.2.1,4)) fun g9=>
    bn (zog m5 (g9.2.1,2)) fun n5=>
    let Kf:=List.set (r_2.1.2.1) (Int.toNat g9.1) ((List.getD (r_2.1.2.1) (Int.toNat g9.1) (0,0,0,[],0,((0,0,[],[],()),(0,0,[],()),()),())).1,List.getD [(-1:Int),0] (Int.toNat n5.1) 0,((List.getD (r_2.1.2.1) (Int.toNat g9.1) (0,0,0,[],0,((0,0,[],[],()),(0,0,[],()),()),())).2).2);bif kL [decide (0≤g9.1),decide (g9.1<(↑(List.length (r_2.1.2.1)):Int)),decide (0≤n5.1),decide (n5.1<(↑(2:Nat):Int)),qu (m5 (g9.2.1,2)),qu (m5 (r_3.2.1,4))] then
     some ((r_2.1.1,Kf,r_2.1.2.2),n5.2.1,())
    else none
   else
    bif(r_3.1==1) then
     bn (zog m5 (r_3.2.1,4)) fun C_=>
     bn (zog m5 (C_.2.1,6)) fun Jv=>
     let BK:=List.set (r_2.1.2.1) (Int.toNat C_.1) ((List.getD (r_2.1.2.1) (Int.toNat C_.1) (0,0,0,[],0,((0,0,[],[],()),(0,0,[],()),()),())).1,((List.getD (r_2.1.2.1) (Int.toNat C_.1) (0,0,0,[],0,((0,0,[],[],()),(0,0,[],()),()),())).2).1,Jv.1,(((List.getD (r_2.1.2.1) (Int.toNat C_.1) (0,0,0,[],0,((0,0,[],[],()),(0,0,[],()),()),())).2).2).2);bif kL [decide (0≤C_.1),decide (C_.1<(↑(List.length (r_2.1.2.1)):Int)),qu (m5 (C_.2.1,6)),qu (m5 (r_3.2.1,4))] then
      some ((r_2.1.1,BK,r_2.1.2.2),Jv.2.1,())
     else none
    else
     bif(r_3.1==2) then
      let pb_25:Nat:=Int.toNat ((↑(List.length (r_2.1.2.1)):Int)-1);bif kL [true,decide (1≤(↑(List.length (r_2.1.2.1)):Int)),decide ((↑(List.length (r_2.1.2.1)):Int)≤(↑(List.length (r_2.1.2.1)):Int))] then
       some ((r_2.1.1,List.take pb_25 (List.drop (Int.toNat 1) (r_2.1.2.1)),r_2.1.2.2),r_3.2.1,())
      else none
     else
      bif(r_3.1==3) then
       let Ti:=r_2.1.1.2.2.1 ++ [(120:UInt8)];bif kL [decide (List.length (r_2.1.1.2.2.1)+(1:Nat)≤eV)] then
        some (((r_2.1.1.1,r_2.1.1.2.1,Ti,r_2.1.1.2.2.2),r_2.1.2),r_3.2.1,())
       else none
      else
       bif(r_3.1==4) then
        some ((((!r_2.1.1.1),r_2.1.1.2),r_2.1.2),r_3.2.1,())
       else
        bif(r_3.1==5) then
         let w7:List (an.D):=[(0,[(97:UInt8)],IntKind.wrap .i64 ((↑(List.length (r_2.1.2.2.2.1)):Int)+1),[(120:UInt8)],())];let Ew:List (an.D):=r_2.1.2.2.2.1++w7;bif kL [decide (List.length (r_2.1.2.2.2.1)+(1:Nat)≤eV)] then
          some ((r_2.1.1,r_2.1.2.1,r_2.1.2.2.1,Ew,r_2.1.2.2.2.2),r_3.2.1,())
         else none
        else
         bif(r_3.1==6) then
          let Tl:=r_2.1.2.2.1 ++ [(7,[(120:UInt8)],false,())];bif kL [decide (List.length (r_2.1.2.2.1)+(1:Nat)≤eV)] then
           some ((r_2.1.1,r_2.1.2.1,Tl,r_2.1.2.2.2),r_3.2.1,())
          else none
         else
          some (((r_2.1.1.1,r_2.1.1.2.1,r_2.1.1.2.2.1,((IntKind.wrap .i64 (r_2.1.1.2.2.2.1.1+1)),r_2.1.1.2.2.2.1.2),r_2.1.1.2.2.2.2),r_2.1.2),r_3.2.1,())
def Wh.q10 (xs:dj.D):Option ((b7.D×List bm.D×List cg.D×List an.D×Unit)×dj.D×Unit):=
 let vN:dj.D:=xs;c9 q75 vN fun r_1=>
  c9 m5 (r_1.2.1,14) fun r_2=>
   bif(r_2.1==0) then
    c9 Wh.q3 (r_2.2.1,r_1.1) fun dz=>
     some (dz.1,dz.2.1,())
   else
    some (r_1.1,r_2.2.1,())
def Wh.q7 (xs:dj.D):Option (bm.D×dj.D×Unit):=
 let vN:dj.D:=xs;c9 q10 vN fun r_1=>
  bn (zog m5 (r_1.2.1,(↑(List.length (r_1.1.2.1)):Int))) fun r_2=>
  let Dp:=List.getD (r_1.1.2.1) (Int.toNat r_2.1) (0,0,0,[],0,((0,0,[],[],()),(0,0,[],()),()),());let AK:Int:=(↑(List.length (r_1.1.2.1)):Int);bif kL [decide (0≤r_2.1),decide (r_2.1<AK),qu (m5 (r_1.2.1,AK))] then
   some (Dp,r_2.2.1,())
  else none
def Wh.q1 (xs:List Int):Option (bm.D×Unit):=
 let Gw:=xs;bn (zog Ky Gw) fun r_1=>
 bn (zog Wh.q7 r_1.1) fun r_3=>
 bif kL [qu (Wh.q7 r_1.1),qu (Ky Gw)] then
  some (r_3.1,())
 else none
def Wh.A1 (xs:Int×Int×Int):Option (Bool×Unit):=
 let Dn:=xs.1;let SL:=xs.2.1;let Sq:=xs.2.2;let n_:=bif decide (Dn≥SL) then decide (Dn≤Sq) else false;some (n_,())
def Wh.q57 (xs:Int):Option (Bool×Unit):=
 let Dn:=xs;c9 A1 (Dn,0,3) fun r_1=>
  some (r_1.1,())
def Wh.KC (xs:x4.D):Option (Bool×Unit):=
 let n4:=xs;let BN:=bif bif bif bif bif bif(n4.1.1==0) then n4.1.2.1==0 else false then(↑(List.length (n4.1.2.2.1)):Int)==0 else false then(↑(List.length (n4.1.2.2.2.1)):Int)==0 else false then n4.2.1.1==0 else false then n4.2.1.2.1==0 else false then(↑(List.length (n4.2.1.2.2.1)):Int)==0 else false;some (BN,())
def Wh.Ed (xs:gh.D):Option (Int×Unit):=
 let fT:gh.D:=xs;bif kL [fT.2.1 != 0] then
  some ((IntKind.wrap .i64 (Int.tdiv (IntKind.wrap .i64 ((IntKind.wrap .i64 (fT.1+fT.2.1))-1)) fT.2.1)),())
 else none
abbrev Wh.Zj:Type:=(Int×Unit×List Int×Int)×gh.D
abbrev Wh.agz:Type:=Bool×Unit⊕Unit×Unit
def Wh.GU (x:Zj):Option (Zj⊕agz):=
 let BY:=x.1.1;let CZ:=x.1.2.2.1;let EG:=x.1.2.2.2;let nC:=x.2;bif decide (BY<EG) then
  let Fz:=List.getD CZ (Int.toNat BY) 0;bif kL [decide (0≤BY),decide (BY<(↑(List.length CZ):Int))] then
   bn (zog Ed nC) fun Mv=>
   bn (zog A1 (Fz,1,Mv.1)) fun G7=>
   bn (zog A1 (List.getD (nC.2.2.2.1) (Int.toNat BY) 0,1,99)) fun r_50=>
   let BZ:=bif bif !G7.1 then true else bif decide (BY>0) then decide (List.getD (nC.2.2.1) (Int.toNat (IntKind.wrap .i64 (BY-1))) 0≥Fz) else false then true else !r_50.1;bif kL [(!!bif !G7.1 then true else bif decide (BY>0) then decide (List.getD (nC.2.2.1) (Int.toNat (IntKind.wrap .i64 (BY-1))) 0≥Fz) else false) || qu (A1 (List.getD (nC.2.2.2.1) (Int.toNat BY) 0,1,99)),(!!bif !G7.1 then true else bif decide (BY>0) then decide (List.getD (nC.2.2.1) (Int.toNat (IntKind.wrap .i64 (BY-1))) 0≥Fz) else false) || decide (0≤BY),(!!bif !G7.1 then true else bif decide (BY>0) then decide (List.getD (nC.2.2.1) (Int.toNat (IntKind.wrap .i64 (BY-1))) 0≥Fz) else false) || decide (BY<(↑(List.length (nC.2.2.2.1)):Int)),!(decide (BY>0) && !!G7.1) || decide (0≤IntKind.wrap .i64 (BY-1)),!(decide (BY>0) && !!G7.1) || decide (IntKind.wrap .i64 (BY-1)<(↑(List.length (nC.2.2.1)):Int)),qu (A1 (Fz,1,Mv.1)),qu (Ed nC)] then
    bif BZ then
     some (.inr (.inl (false,())))
    else
     some (.inl (((IntKind.wrap .i64 (BY+1)),(),CZ,EG),nC))
   else none
  else none
 else
  some (.inr (.inr ((),())))
def Wh.Zk:Bool×Unit⊕Unit×Unit:=.inl default
def Wh.Ez (xs:gh.D):Option (Bool×Unit):=
 let fT:gh.D:=xs;bn (zog A1 (fT.1,1,300)) fun r_1=>
 bn (zog A1 (fT.2.1,1,16)) fun r_2=>
 bn (zog Ed fT) fun g9=>
 let nW:=bif bif !r_1.1 then true else !r_2.1 then true else decide (g9.1>24);bif kL [(!!bif !r_1.1 then true else !r_2.1) || qu (Ed fT),!!!r_1.1 || qu (A1 (fT.2.1,1,16)),qu (A1 (fT.1,1,300))] then
  bif nW then
   some (false,())
  else
   let nI:Int:=(↑(List.length (fT.2.2.1)):Int);bn (zog A1 (nI,1,3)) fun E3=>
   let r5:=bif bif !E3.1 then true else(↑(List.length (fT.2.2.2.1)):Int) != nI then true else List.getD (fT.2.2.1) (Int.toNat (IntKind.wrap .i64 (nI-1))) 0 != g9.1;bif kL [(!!bif !E3.1 then true else(↑(List.length (fT.2.2.2.1)):Int) != nI) || qu (Ed fT),(!!bif !E3.1 then true else(↑(List.length (fT.2.2.2.1)):Int) != nI) || decide (0≤IntKind.wrap .i64 (nI-1)),(!!bif !E3.1 then true else(↑(List.length (fT.2.2.2.1)):Int) != nI) || decide (IntKind.wrap .i64 (nI-1)<nI),qu (A1 (nI,1,3))] then
    bif r5 then
     some (false,())
    else
     g8 GU Zk (((0,(),fT.2.2.1,nI),fT)) fun q_=>
      sumC q_ (fun y_54=>
       let FA:=y_54.1;some (FA,())) (fun _=>
       some (true,()))
   else none
 else none
abbrev Wh.ZQ:Type:=(Int×List Int×Int×List Int×Int)×Unit
abbrev Wh.agP:Type:=Bool×Unit⊕Int×Unit
def Wh.Jl (x:ZQ):Option (ZQ⊕agP):=
 let r5:=x.1.1;let TN:=x.1.2.1;let RS:=x.1.2.2.1;let xb:=x.1.2.2.2.1;let je:=x.1.2.2.2.2;bif decide (r5<je) then
  let nS:=List.getD xb (Int.toNat r5) 0;bif kL [decide (0≤r5),decide (r5<(↑(List.length xb):Int))] then
   let qe:=IntKind.wrap .i64 (RS-1);bn (zog A1 (nS,0,qe)) fun Fv=>
   let vT:=bif !Fv.1 then true else bif decide (r5>0) then decide (List.getD TN (Int.toNat (IntKind.wrap .i64 (r5-1))) 0≥nS) else false;bif kL [!(decide (r5>0) && !!Fv.1) || decide (0≤IntKind.wrap .i64 (r5-1)),!(decide (r5>0) && !!Fv.1) || decide (IntKind.wrap .i64 (r5-1)<(↑(List.length TN):Int)),qu (A1 (nS,0,qe))] then
    bif vT then
     some (.inr (.inl (false,())))
    else
     some (.inl (((IntKind.wrap .i64 (r5+1)),TN,RS,xb,je),()))
   else none
  else none
 else
  some (.inr (.inr (RS,())))
def Wh.ZR:Bool×Unit⊕Int×Unit:=.inl default
def Wh.HY (xs:List Int×Int):Option (Bool×Unit):=
 let G9:=xs.1;let RQ:=xs.2;g8 Jl ZR (((0,G9,RQ,G9,(↑(List.length G9):Int)),())) fun q_=>
  sumC q_ (fun y_31=>
   let Ce:=y_31.1;some (Ce,())) (fun z_32=>
   let Hs:=z_32.1;c9 A1 (Hs,0,24) fun DI=>
    some (DI.1,()))
abbrev Wh.aaD:Type:=(Int×Int×List Int×Int)×Unit
abbrev Wh.ahc:Type:=Int×Unit
def Wh.Oi (x:aaD):Option (aaD⊕ahc):=
 let A3:=x.1.1;let m_10:=x.1.2.1;let CG:=x.1.2.2.1;let AX:=x.1.2.2.2;bif decide (A3<AX) then
  let ov:=List.getD CG (Int.toNat A3) 0;bif kL [decide (0≤A3),decide (A3<(↑(List.length CG):Int))] then
   bif kL [decide (0≤ov)] then
    some (.inl (((IntKind.wrap .i64 (A3+1)),pZ Go.BinOp.or Go.IntKind.u32 m_10 (IntKind.wrap .u32 ((1:Int)*2 ^ Min.min (Int.toNat ov) (Go.IntKind.bits Go.IntKind.u32))),CG,AX),()))
   else none
  else none
 else
  some (.inr (m_10,()))
def Wh.aaE:Int×Unit:=default
def Wh.Jq (xs:List Int):Option (Int×Unit):=
 let G9:=xs;g8 Oi aaE (((0,0,G9,(↑(List.length G9):Int)),())) fun OW=>
  let m_19:=OW.1;some (m_19,())
abbrev Wh.aa3:Type:=(Int×Int×List gv.D×Int)×Unit
abbrev Wh.aho:Type:=Bool×Unit⊕Unit×Unit
def Wh.Mm (x:aa3):Option (aa3⊕aho):=
 let Iv:=x.1.1;let YP:=x.1.2.1;let E5:=x.1.2.2.1;let v_70:=x.1.2.2.2;bif decide (Iv<v_70) then
  let N7:=List.getD E5 (Int.toNat Iv) ([],[],());bif kL [decide (0≤Iv),decide (Iv<(↑(List.length E5):Int))] then
   let Rm:List Int:=List.take (Int.toNat ((↑(List.length N7.1):Int)-1)) (List.drop (Int.toNat 1) N7.1);bn (zog Jq Rm) fun Oq=>
   let v_78:=pZ Go.BinOp.and Go.IntKind.u32 Oq.1 YP != 0;bif kL [qu (Jq Rm),true,decide (1≤(↑(List.length N7.1):Int)),decide ((↑(List.length N7.1):Int)≤(↑(List.length N7.1):Int))] then
    bif v_78 then
     some (.inr (.inl (false,())))
    else
     some (.inl (((IntKind.wrap .i64 (Iv+1)),YP,E5,v_70),()))
   else none
  else none
 else
  some (.inr (.inr ((),())))
def Wh.aa4:Bool×Unit⊕Unit×Unit:=.inl default
abbrev Wh.aa1:Type:=(Int×Int×Unit×List gv.D×Int)×e_.D
abbrev Wh.ahn:Type:=Bool×Unit⊕(Int×Unit)×e_.D
def Wh.Ia (x:aa1):Option (aa1⊕ahn):=
 let th:=x.1.1;let YO:=x.1.2.1;let vT:=x.1.2.2.2.1;let CH:=x.1.2.2.2.2;let Bi:=x.2;bif decide (th<CH) then
  let Ew:=List.getD vT (Int.toNat th) ([],[],());bif kL [decide (0≤th),decide (th<(↑(List.length vT):Int))] then
   let Ce:Int:=(↑(List.length Ew.1):Int);bn (zog HY (Ew.1,Bi.1)) fun Gj=>
   let Lb:=bif bif bif Ce==0 then true else !Gj.1 then true else(↑(List.length Ew.2.1):Int) != Bi.2.1 then true else bif decide (th>0) then decide (List.getD ((List.getD (Bi.2.2.1) (Int.toNat (IntKind.wrap .i64 (th-1))) ([],[],())).1) (Int.toNat 0) 0≥List.getD Ew.1 (Int.toNat 0) 0) else false;bif kL [!(decide (th>0) && !bif bif Ce==0 then true else !Gj.1 then true else(↑(List.length Ew.2.1):Int) != Bi.2.1) || decide ((0:Int)≤0),!(decide (th>0) && !bif bif Ce==0 then true else !Gj.1 then true else(↑(List.length Ew.2.1):Int) != Bi.2.1) || decide (0<Ce),!(decide (th>0) && !bif bif Ce==0 then true else !Gj.1 then true else(↑(List.length Ew.2.1):Int) != Bi.2.1) || decide ((0:Int)≤0),!(decide (th>0) && !bif bif Ce==0 then true else !Gj.1 then true else(↑(List.length Ew.2.1):Int) != Bi.2.1) || decide (0<(↑(List.length ((List.getD (Bi.2.2.1) (Int.toNat (IntKind.wrap .i64 (th-1))) ([],[],())).1)):Int)),!(decide (th>0) && !bif bif Ce==0 then true else !Gj.1 then true else(↑(List.length Ew.2.1):Int) != Bi.2.1) || decide (0≤IntKind.wrap .i64 (th-1)),!(decide (th>0) && !bif bif Ce==0 then true else !Gj.1 then true else(↑(List.length Ew.2.1):Int) != Bi.2.1) || decide (IntKind.wrap .i64 (th-1)<(↑(List.length (Bi.2.2.1)):Int)),!!Ce==0 || qu (HY (Ew.1,Bi.1))] then
    bif Lb then
     some (.inr (.inl (false,())))
    else
     let Lc:=List.getD Ew.1 (Int.toNat 0) 0;let aga:Int:=pZ Go.BinOp.or Go.IntKind.u32 YO (IntKind.wrap .u32 ((1:Int)*2 ^ Min.min (Int.toNat Lc) (Go.IntKind.bits Go.IntKind.u32)));bif kL [decide (0≤Lc),true,decide (0<Ce)] then
      some (.inl (((IntKind.wrap .i64 (th+1)),aga,(),vT,CH),Bi))
     else none
   else none
  else none
 else
  some (.inr (.inr ((YO,()),Bi)))
def Wh.aa2:Bool×Unit⊕(Int×Unit)×e_.D:=.inl default
def Wh.Gc (xs:e_.D):Option (Bool×Unit):=
 let cx:=xs;bn (zog A1 (cx.1,1,24)) fun r_1=>
 bn (zog A1 (cx.2.1,1,16)) fun r_2=>
 let AJ:=bif !r_1.1 then true else !r_2.1;bif kL [!!!r_1.1 || qu (A1 (cx.2.1,1,16)),qu (A1 (cx.1,1,24))] then
  bif AJ then
   some (false,())
  else
   let AK:Int:=(↑(List.length (cx.2.2.1)):Int);g8 Ia aa2 (((0,0,(),cx.2.2.1,AK),cx)) fun q_=>
    sumC q_ (fun y_48=>
     let Is:=y_48.1;some (Is,())) (fun z_49=>
     let agb:=z_49.1.1;let s9:=z_49.2;let Iu:Int:=(↑(List.length (s9.2.2.1)):Int);g8 Mm aa4 (((0,agb,s9.2.2.1,Iu),())) fun q_=>
      sumC q_ (fun y_81=>
       let Iw:=y_81.1;some (Iw,())) (fun _=>
       some (true,())))
 else none
def Wh.Jk (xs:x4.D):Option (Bool×Unit):=
 let n4:=xs;bn (zog Ez n4.1) fun r_1=>
 bn (zog Gc n4.2.1) fun r_2=>
 bn (zog Ed n4.1) fun g9=>
 let A3:=bif bif bif r_1.1 then r_2.1 else false then n4.2.1.1==g9.1 else false then n4.2.1.2.1==n4.1.2.1 else false;bif kL [(!bif r_1.1 then r_2.1 else false) || qu (Ed n4.1),!r_1.1 || qu (Gc n4.2.1),qu (Ez n4.1)] then
  some (A3,())
 else none
abbrev Wh.Zh:Type:=(Int×List UInt8×Int)×Unit
abbrev Wh.agy:Type:=Bool×Unit⊕List UInt8×Unit
def Wh.Ku (x:Zh):Option (Zh⊕agy):=
 let Cv:=x.1.1;let OI:=x.1.2.1;let AX:=x.1.2.2;bif decide (Cv<AX) then
  let ov:Int:=(↑(UInt8.toNat (List.getD OI (Int.toNat Cv) (0:UInt8))):Int);let AP:=bif decide (ov<97) then true else decide (ov>122);bif kL [!!decide (ov<97) || decide (0≤Cv),!!decide (ov<97) || decide (Cv<(↑(List.length OI):Int)),decide (0≤Cv),decide (Cv<(↑(List.length OI):Int))] then
   bif AP then
    some (.inr (.inl (false,())))
   else
    some (.inl (((IntKind.wrap .i64 (Cv+1)),OI,AX),()))
  else none
 else
  some (.inr (.inr (OI,())))
def Wh.Zi:Bool×Unit⊕List UInt8×Unit:=.inl default
def Wh.Ja (xs:List UInt8):Option (Bool×Unit):=
 let Bd:=xs;g8 Ku Zi (((0,Bd,(↑(List.length Bd):Int)),())) fun q_=>
  sumC q_ (fun y_20=>
   let nS:=y_20.1;some (nS,())) (fun z_21=>
   let ajg:=z_21.1;c9 A1 ((↑(List.length ajg):Int),1,6) fun K3=>
    some (K3.1,()))
abbrev Wh.aaH:Type:=(Int×Int×List gv.D×Int)×Unit
abbrev Wh.ahe:Type:=(List UInt8×Bool)×Unit⊕Unit×Unit
def Wh.Mi (x:aaH):Option (aaH⊕ahe):=
 let ov:=x.1.1;let O5:=x.1.2.1;let r5:=x.1.2.2.1;let AP:=x.1.2.2.2;bif decide (ov<AP) then
  let Kc:=List.getD r5 (Int.toNat ov) ([],[],());bif kL [decide (0≤ov),decide (ov<(↑(List.length r5):Int))] then
   let je:Int:=(↑(List.length Kc.1):Int);let qe:=bif je==1 then List.getD Kc.1 (Int.toNat 0) 0==O5 else false;bif kL [!je==1 || decide ((0:Int)≤0),!je==1 || decide (0<je)] then
    bif qe then
     some (.inr (.inl ((Kc.2.1,true),())))
    else
     some (.inl (((IntKind.wrap .i64 (ov+1)),O5,r5,AP),()))
   else none
  else none
 else
  some (.inr (.inr ((),())))
def Wh.aaI:(List UInt8×Bool)×Unit⊕Unit×Unit:=.inl default
def Wh.q22 (xs:e_.D×Int):Option ((List UInt8×Bool)×Unit):=
 let cx:=xs.1;let C6:=xs.2;let v_2:Int:=(↑(List.length (cx.2.2.1)):Int);g8 Mi aaI (((0,C6,cx.2.2.1,v_2),())) fun q_=>
  sumC q_ (fun JI=>
   let vT:=JI.1.1;let CH:=JI.1.2;some ((vT,CH),())) (fun _=>
   some (([],false),()))
abbrev Wh.aaJ:Type:=(Int×Unit)×e_.D
abbrev Wh.q2_l0Y:Type:=Int×Unit
def Wh.Mj (x:aaJ):Option (aaJ⊕q2_l0Y):=
 let n_7:=x.1.1;let IX:=x.2;bif decide (n_7<IX.1) then
  c9 q22 (IX,n_7) fun A2=>
   bif(!A2.1.2) then
    some (.inr (n_7,()))
   else
    some (.inl (((IntKind.wrap .i64 (n_7+1)),()),IX))
 else
  some (.inr (n_7,()))
def Wh.aaK:Int×Unit:=default
def Wh.q2 (xs:e_.D):Option (Int×Unit):=
 let cx:=xs;g8 Mj aaK (((0,()),cx)) fun y_14=>
  let n_15:=y_14.1;some (n_15,())
def Wh.q4 (xs:x4.D):Option (Bool×Unit):=
 let n4:=xs;c9 Wh.q2 n4.2.1 fun r_1=>
  some ((r_1.1==n4.2.1.1),())
def Wh.G2 (xs:bm.D):Option (Bool×Unit):=
 let cp:=xs;bn (zog q57 cp.1) fun r_1=>
 bn (zog A1 (cp.2.1,0,99999)) fun r_2=>
 bn (zog A1 (cp.2.2.2.2.1,0,99999)) fun g9=>
 let nW:=bif bif !r_1.1 then true else !r_2.1 then true else !g9.1;bif kL [(!!bif !r_1.1 then true else !r_2.1) || qu (A1 (cp.2.2.2.2.1,0,99999)),!!!r_1.1 || qu (A1 (cp.2.1,0,99999)),qu (q57 cp.1)] then
  bif nW then
   some (false,())
  else
   let nI:=decide (cp.2.2.2.2.1>0);bn (zog KC (cp.2.2.2.2.2.1)) fun Bc=>
   bn (zog Jk (cp.2.2.2.2.2.1)) fun Cd=>
   let AX:=bif bif !nI then !Bc.1 else false then true else bif nI then !Cd.1 else false;bif kL [!(nI && !bif !nI then !Bc.1 else false) || qu (Jk (cp.2.2.2.2.2.1)),!!nI || qu (KC (cp.2.2.2.2.2.1))] then
    bif AX then
     some (false,())
    else
     bif(cp.2.2.1==0) then
      let ov:=cp.2.2.2.1 == [];some (bif ov then !nI else false,())
     else
      let Bq:=cp.2.1==0;bn (zog Ja (cp.2.2.2.1)) fun Ij=>
      let AP:=bif Bq then true else !Ij.1;bif kL [!!Bq || qu (Ja (cp.2.2.2.1))] then
       bif AP then
        some (false,())
       else
        let r_:=cp.2.2.1==1;bif r_ then
         bif r_ then
          bn (zog Wh.q4 (cp.2.2.2.2.2.1)) fun G5=>
          let xd:=bif !nI then true else !G5.1;bif kL [!!!nI || qu (Wh.q4 (cp.2.2.2.2.2.1))] then
           some (xd,())
          else none
         else
          bif(cp.2.2.1==2) then
           bn (zog Wh.q4 (cp.2.2.2.2.2.1)) fun Gi=>
           let Iq:=bif nI then !Gi.1 else false;bif kL [!nI || qu (Wh.q4 (cp.2.2.2.2.2.1))] then
            some (Iq,())
           else none
          else
           bif(cp.2.2.1==3) then
            bn (zog Wh.q4 (cp.2.2.2.2.2.1)) fun Fv=>
            let CH:=bif nI then Fv.1 else false;bif kL [!nI || qu (Wh.q4 (cp.2.2.2.2.2.1))] then
             some (CH,())
            else none
           else
            some (false,())
        else
         bif(cp.2.2.1==4) then
          bn (zog Wh.q4 (cp.2.2.2.2.2.1)) fun E4=>
          let Ce:=bif !nI then true else !E4.1;bif kL [!!!nI || qu (Wh.q4 (cp.2.2.2.2.2.1))] then
           some (Ce,())
          else none
         else
          bif(cp.2.2.1==2) then
           bn (zog Wh.q4 (cp.2.2.2.2.2.1)) fun DI=>
           let EG:=bif nI then !DI.1 else false;bif kL [!nI || qu (Wh.q4 (cp.2.2.2.2.2.1))] then
            some (EG,())
           else none
          else
           bif(cp.2.2.1==3) then
            bn (zog Wh.q4 (cp.2.2.2.2.2.1)) fun Im=>
            let Lb:=bif nI then Im.1 else false;bif kL [!nI || qu (Wh.q4 (cp.2.2.2.2.2.1))] then
             some (Lb,())
            else none
           else
            some (false,())
      else none
   else none
 else none
def Wh.q0 (xs:bm.D):Option (List ei.D×Unit):=
 let cp:=xs;let ES:List (ei.D):=[(1,cp.1,cp.2.1,cp.2.2.2.2.1,0,cp.2.2.2.1,[],())];some (ES,())
def Wh.q20 (xs:bm.D):Option (List ei.D×Unit):=
 let cp:=xs;bn (zog G2 cp) fun r_1=>
 let v_2:=bif !r_1.1 then true else bif cp.2.2.1 != 1 then cp.2.2.1 != 2 else false;bif kL [qu (G2 cp)] then
  bif v_2 then
   some ([],())
  else
   c9 Wh.q0 cp fun r_3=>
    some (r_3.1,())
 else none
abbrev Wh.Zl:Type:=(Int×List ei.D×List ei.D)×Unit
abbrev Wh.agA:Type:=Bool×Unit⊕Unit×Unit
def Wh.Oe (x:Zl):Option (Zl⊕agA):=
 let CA:=x.1.1;let a_18:=x.1.2.1;let b_19:=x.1.2.2;let je:Int:=(↑(List.length a_18):Int);bif decide (CA<je) then
  let nS:=List.getD a_18 (Int.toNat CA) (0,0,0,0,0,[],[],());let qe:=List.getD b_19 (Int.toNat CA) (0,0,0,0,0,[],[],());bn (zog EA nS) fun Ik=>
  let Du:=bif !(nS.1==qe.1&&(nS.2.1==qe.2.1&&(nS.2.2.1==qe.2.2.1&&(nS.2.2.2.1==qe.2.2.2.1&&(nS.2.2.2.2.1==qe.2.2.2.2.1&&(nS.2.2.2.2.2.1==qe.2.2.2.2.2.1&&(nS.2.2.2.2.2.2.1==qe.2.2.2.2.2.2.1&&true))))))) then true else !Ik.1;bif kL [!!!(nS.1==qe.1&&(nS.2.1==qe.2.1&&(nS.2.2.1==qe.2.2.1&&(nS.2.2.2.1==qe.2.2.2.1&&(nS.2.2.2.2.1==qe.2.2.2.2.1&&(nS.2.2.2.2.2.1==qe.2.2.2.2.2.1&&(nS.2.2.2.2.2.2.1==qe.2.2.2.2.2.2.1&&true))))))) || qu (EA nS),!!!(nS.1==qe.1&&(nS.2.1==qe.2.1&&(nS.2.2.1==qe.2.2.1&&(nS.2.2.2.1==qe.2.2.2.1&&(nS.2.2.2.2.1==qe.2.2.2.2.1&&(nS.2.2.2.2.2.1==qe.2.2.2.2.2.1&&(nS.2.2.2.2.2.2.1==qe.2.2.2.2.2.2.1&&true))))))) || decide (0≤CA),!!!(nS.1==qe.1&&(nS.2.1==qe.2.1&&(nS.2.2.1==qe.2.2.1&&(nS.2.2.2.1==qe.2.2.2.1&&(nS.2.2.2.2.1==qe.2.2.2.2.1&&(nS.2.2.2.2.2.1==qe.2.2.2.2.2.1&&(nS.2.2.2.2.2.2.1==qe.2.2.2.2.2.2.1&&true))))))) || decide (CA<je),decide (0≤CA),decide (CA<(↑(List.length b_19):Int)),decide (0≤CA),decide (CA<je)] then
   bif Du then
    some (.inr (.inl (false,())))
   else
    some (.inl (((IntKind.wrap .i64 (CA+1)),a_18,b_19),()))
  else none
 else
  some (.inr (.inr ((),())))
def Wh.Zm:Bool×Unit⊕Unit×Unit:=.inl default
def Wh.GV (xs:List ei.D×List ei.D):Option (Bool×Unit):=
 let Eg:=xs.1;let b_1:=xs.2;let v_2:Int:=(↑(List.length Eg):Int);let AJ:Int:=(↑(List.length b_1):Int);let AK:=v_2 != AJ;bif AK then
  some (false,())
 else
  g8 Oe Zm (((0,Eg,b_1),())) fun q_=>
   sumC q_ (fun MV=>
    let Gp:=MV.1;some (Gp,())) (fun _=>
    some (true,()))
def Wh.q5 (xs:List Int):Option (Bool×Unit):=
 let Gw:=xs;bif decide ((↑(List.length Gw):Int)>1048576) then
  some (true,())
 else
  c9 Wh.q1 Gw fun r_2=>
   c9 q20 r_2.1 fun r_3=>
    bn (zog F_ r_2.1) fun dz=>
    bn (zog G2 r_2.1) fun w9=>
    bn (zog DU r_2.1) fun A2=>
    bn (zog GV (r_3.1,dz.1)) fun BV=>
    let Bq:=bif bif !BV.1 then true else !w9.1==A2.1 then true else !A2.1;bif kL [(!!bif !BV.1 then true else !w9.1==A2.1) || qu (DU r_2.1),!!!BV.1 || qu (DU r_2.1),!!!BV.1 || qu (G2 r_2.1),qu (GV (r_3.1,dz.1)),qu (F_ r_2.1)] then
     bif Bq then
      bif kL [qu (GV (r_3.1,dz.1)),qu (F_ r_2.1)] then
       some (BV.1,())
      else none
     else
      let r_:=r_2.1.2.2.1==1;let Dv:=bif r_ then true else r_2.1.2.2.1==2;let xd:Int:=(↑(List.length r_3.1):Int);let th:=bif Dv==(xd==1) then bif !Dv then true else bif bif bif(List.getD r_3.1 (Int.toNat 0) (0,0,0,0,0,[],[],())).1==1 then((((((List.getD r_3.1 (Int.toNat 0) (0,0,0,0,0,[],[],())).2).2).2).2).2).1==r_2.1.2.2.2.1 else false then((((List.getD r_3.1 (Int.toNat 0) (0,0,0,0,0,[],[],())).2).2).2).1==r_2.1.2.2.2.2.1 else false then(((List.getD r_3.1 (Int.toNat 0) (0,0,0,0,0,[],[],())).2).2).1==r_2.1.2.1 else false else false;bif kL [!((bif bif(List.getD r_3.1 (Int.toNat 0) (0,0,0,0,0,[],[],())).1==1 then((((((List.getD r_3.1 (Int.toNat 0) (0,0,0,0,0,[],[],())).2).2).2).2).2).1==r_2.1.2.2.2.1 else false then((((List.getD r_3.1 (Int.toNat 0) (0,0,0,0,0,[],[],())).2).2).2).1==r_2.1.2.2.2.2.1 else false)&&(!!Dv&&Dv==(xd==1))) || decide ((0:Int)≤0),!((bif bif(List.getD r_3.1 (Int.toNat 0) (0,0,0,0,0,[],[],())).1==1 then((((((List.getD r_3.1 (Int.toNat 0) (0,0,0,0,0,[],[],())).2).2).2).2).2).1==r_2.1.2.2.2.1 else false then((((List.getD r_3.1 (Int.toNat 0) (0,0,0,0,0,[],[],())).2).2).2).1==r_2.1.2.2.2.2.1 else false)&&(!!Dv&&Dv==(xd==1))) || decide (0<xd),!((bif(List.getD r_3.1 (Int.toNat 0) (0,0,0,0,0,[],[],())).1==1 then((((((List.getD r_3.1 (Int.toNat 0) (0,0,0,0,0,[],[],())).2).2).2).2).2).1==r_2.1.2.2.2.1 else false)&&(!!Dv&&Dv==(xd==1))) || decide ((0:Int)≤0),!((bif(List.getD r_3.1 (Int.toNat 0) (0,0,0,0,0,[],[],())).1==1 then((((((List.getD r_3.1 (Int.toNat 0) (0,0,0,0,0,[],[],())).2).2).2).2).2).1==r_2.1.2.2.2.1 else false)&&(!!Dv&&Dv==(xd==1))) || decide (0<xd),!((List.getD r_3.1 (Int.toNat 0) (0,0,0,0,0,[],[],())).1==1&&(!!Dv&&Dv==(xd==1))) || decide ((0:Int)≤0),!((List.getD r_3.1 (Int.toNat 0) (0,0,0,0,0,[],[],())).1==1&&(!!Dv&&Dv==(xd==1))) || decide (0<xd),!(!!Dv&&Dv==(xd==1)) || decide ((0:Int)≤0),!(!!Dv&&Dv==(xd==1)) || decide (0<xd)] then
       some (th,())
      else none
    else none
def Wh.q121 (xs:Int×Int):Option (Int×Unit):=
 let x_0:=xs.1;let by_1:=xs.2;let v_2:Int:=Int.fdiv x_0 (2 ^ Min.min (Int.toNat by_1) (Go.IntKind.bits Go.IntKind.u32));let AJ:=IntKind.wrap .i64 (32-by_1);let nW:Int:=pZ Go.BinOp.or Go.IntKind.u32 v_2 (IntKind.wrap .u32 (x_0*2 ^ Min.min (Int.toNat AJ) (Go.IntKind.bits Go.IntKind.u32)));bif kL [decide (0≤AJ),decide (0≤by_1)] then
  some (nW,())
 else none
abbrev Wh.abz:Type:=(Unit×Unit)×(Int×Int×Unit×Unit×Unit)×(Int×Int×Unit×Unit×Unit)×List Int×List Int×List Int×List Int
abbrev Wh.ahE:Type:=(Unit×Unit)×(Int×Int×Unit×Unit×Unit)×(Int×Int×Unit×Unit×Unit)×List Int×List Int×List Int×List Int
def Wh.TA (x:abz):Option (abz⊕ahE):=
 let v9:=x.2.1.1;let Es:=x.2.1.2.1;let se:=x.2.1.2.2.2.2;let AD:=x.2.2.1.1;let By:=x.2.2.1.2.1;let DE:=x.2.2.1.2.2.2.2;let CB:=x.2.2.2.1;let Aw:=x.2.2.2.2.1;let B8:=x.2.2.2.2.2.1;let Bh:=x.2.2.2.2.2.2;c9 Ed (v9,Es,CB,Aw,se) fun Da=>
  bif decide (Da.1>24) then
   some (.inl (((),()),(v9,(IntKind.wrap .i64 (Es+1)),(),(),se),(AD,By,(),(),DE),CB,Aw,B8,Bh))
  else
   some (.inr (((),()),(AD,By,(),(),DE),(v9,Es,(),(),se),B8,Bh,CB,Aw))
def Wh.ahF:(Unit×Unit)×(Int×Int×Unit×Unit×Unit)×(Int×Int×Unit×Unit×Unit)×List Int×List Int×List Int×List Int:=default
def Wh.q81 (xs:Int):Option ((Int×Int×List Int×List Int×Unit)×Unit):=
 let PU:=xs;c9 A1 (PU,1,300) fun r_1=>
  bif !r_1.1 then
   some ((0,0,[],[],()),())
  else
   g8 TA ahF ((((),()),(PU,8,(),(),()),(0,0,(),(),()),[],[],[],[])) fun C0=>
    let A_:=C0.2.2.1.1;let wm:=C0.2.2.1.2.1;let nc:=C0.2.2.1.2.2.2.2;let nC:=C0.2.2.2.2.2.1;let AQ:=C0.2.2.2.2.2.2;c9 Ed (A_,wm,nC,AQ,nc) fun QN=>
     let k_43:=IntKind.wrap .i64 (Int.tdiv (IntKind.wrap .i64 (QN.1+3)) 4);bif decide (k_43<QN.1) then
      let Tm:List Int:=[k_43,QN.1];some ((A_,wm,Tm,[(2:Int),3],nc),())
     else
      let Tn:List Int:=[QN.1];some ((A_,wm,Tn,[(1:Int)],nc),())
end
