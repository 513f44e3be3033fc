import Derived.Test.YthgepblcaaiieaaGreatDoorX6
set_option linter.defProp false
namespace Wh
end Wh
open Wh
open Go Go.Ab
noncomputable section
def Wh.Fx (xs:(bx.D)×(Int)×(List UInt8)×(List UInt8)):Option ((((Int)×((List (bn.D))×(Unit)))×(Int))×(Unit)):=
 let bt:=xs.1
 let so:=xs.2.1
 let AQ:=xs.2.2.1
 let IV:=xs.2.2.2
 bz Fq bt fun dm=>
  bz E8 (so,AQ,IV) fun k8=>
   bif !k8.1 then
    some ((dm.1,1),())
   else
    bz Dl (bt,so,AQ) fun wo=>
     bif decide (wo.1≥0) then
      some ((dm.1,2),())
     else
      let n4:Int:=(↑(List.length bt.2.1):Int)
      let JJ:=zog q28 (bt,so)
      let fN:=bif bif n4==8 then true else bt.1==99999 then true else decide (IntKind.wrap .i64 (JJ.1+(↑(List.length IV):Int))>500)
      bif jZ [(!!bif n4==8 then true else bt.1==99999) || isSm (q28 (bt,so))] then
       bif fN then
        some ((dm.1,4),())
       else
        let JC:=IntKind.wrap .i64 (dm.1.1+1)
        let pb_18:List (bn.D):=[(so,AQ,JC,IV,())]
        let KY:List (bn.D):=dm.1.2.1++pb_18
        bif jZ [decide (List.length (dm.1.2.1)+(1:Nat)≤eD)] then
         bz Wh.q4 (KY,()) fun y3=>
          bz Fq (JC,y3.2.1,dm.1.2.2) fun AX=>
           some ((AX.1,0),())
        else none
      else none
def Wh.q27 (xs:(bx.D)×(List UInt8)):Option ((((Int)×((List (bn.D))×(Unit)))×(Bool))×(Unit)):=
 let bt:=xs.1
 let Az:=xs.2
 bz Wh.strings_Cut (Az,[(58:UInt8)]) fun r_2=>
  bz Wh.strings_Cut (r_2.1.1,[(32:UInt8)]) fun r_3=>
   bz B5 r_3.1.1 fun dm=>
    let sn:=Az == []
    let wo:=zog q26 (dm.1.1,r_3.1.2.1,r_2.1.2.1)
    let ic:=bif sn then true else !wo.1==Az
    bif jZ [!!sn || isSm (q26 (dm.1.1,r_3.1.2.1,r_2.1.2.1))] then
     bif ic then
      some (((0,[],()),false),())
     else
      bz q50 (bt,dm.1.1,r_3.1.2.1) fun qj=>
       bif(!r_2.1.2.1 == []) then
        bz Fx (bt,dm.1.1,r_3.1.2.1,r_2.1.2.1) fun Dq=>
         some ((Dq.1.1,(Dq.1.2==0)),())
       else
        some ((qj.1.1,(qj.1.2==0)),())
    else none
abbrev Wh.Ud:Type:=((Unit)×(Int)×(Unit)×(List (List UInt8))×(Int))×(((Int)×((Unit)×(Unit)))×((Int)×((Unit)×(Unit)))×(List (bn.D))×(List (bn.D)))
abbrev Wh.ag0:Type:=((((Unit)×(Bool))×(((Int)×((Unit)×(Unit)))×(List (bn.D))))⊕(((Unit)×(Unit))×(((Int)×((Unit)×(Unit)))×((Int)×((Unit)×(Unit)))×(List (bn.D))×(List (bn.D)))))
def Wh.E4 (x:Ud):Option (Ud⊕ag0):=
 let fN:=x.1.2.1
 let jg:=x.1.2.2.2.1
 let ew:=x.1.2.2.2.2
 let th:=x.2.1.1
 let zN:=x.2.1.2.2
 let AN:=x.2.2.1.1
 let A8:=(x.2.2.1).2.2
 let zY:=(x.2.2.2).1
 let AF:=x.2.2.2.2
 bif decide (fN<ew) then
  let nT:=List.getD jg (Int.toNat fN) []
  bif jZ [decide (0≤fN),decide (fN<(↑(List.length jg):Int))] then
   bz q27 ((AN,AF,A8),nT) fun CP=>
    bif(!CP.1.2) then
     some (.inr (.inl (((),false),(0,(),()),[])))
    else
     some (.inl (((),(IntKind.wrap .i64 (fN+1)),(),jg,ew),(th,(),zN),(CP.1.1.1,(),CP.1.1.2.2),zY,(CP.1.1.2).1))
  else none
 else
  some (.inr (.inr (((),()),(th,(),zN),(AN,(),A8),zY,AF)))
def Wh.aak:(((Unit)×(Bool))×(((Int)×((Unit)×(Unit)))×(List (bn.D))))⊕(((Unit)×(Unit))×(((Int)×((Unit)×(Unit)))×((Int)×((Unit)×(Unit)))×(List (bn.D))×(List (bn.D)))):=.inl default
def Wh.E3 (xs:(List (List UInt8))):Option ((((Int)×((List (bn.D))×(Unit)))×(Bool))×(Unit)):=
 let Pq:List (List UInt8):=xs
 let v_1:Int:=(↑(List.length Pq):Int)
 let He:Ud:=(((),0,(),Pq,v_1),(0,(),()),(0,(),()),[],[])
 bif pY E4 He then
  sumC (oa E4 aak He) (fun Hl=>
   let vc:=Hl.1.2
   let r_:=Hl.2.1.1
   let vT:=Hl.2.1.2.2
   let SX:=Hl.2.2
   some (((r_,SX,vT),vc),())) (fun I5=>
   let AO:=I5.2.2.1.1
   let ls_40:=(I5.2.2.1).2.2
   let Jw:=I5.2.2.2.2
   some (((AO,Jw,ls_40),true),()))
 else none
abbrev Wh.T0:Type:=((Int)×(List (bn.D))×(List (bn.D))×(Int))×(Unit)
abbrev Wh.agO:Type:=((((Bool))×(Unit))⊕((Unit)×(Unit)))
def Wh.ET (x:T0):Option (T0⊕agO):=
 let fj:=x.1.1
 let VG:=x.1.2.1
 let VF:=(x.1.2.2).1
 let jg:=x.1.2.2.2
 bif decide (fj<jg) then
  let ec:bn.D:=List.getD VF (Int.toNat fj) (0,[],0,[],())
  let eK:bn.D:=List.getD VG (Int.toNat fj) (0,[],0,[],())
  bif jZ [decide (0≤fj),decide (fj<(↑(List.length VG):Int)),decide (0≤fj),decide (fj<(↑(List.length VF):Int))] then
   bif(!(ec.1==eK.1&&(ec.2.1==eK.2.1&&(ec.2.2.1==eK.2.2.1&&((ec.2.2.2).1==(eK.2.2.2).1&&true))))) then
    some (.inr (.inl (false,())))
   else
    some (.inl (((IntKind.wrap .i64 (fj+1)),VG,VF,jg),()))
  else none
 else
  some (.inr (.inr ((),())))
def Wh.Z9:(((Bool))×(Unit))⊕((Unit)×(Unit)):=.inl default
def Wh.EP (xs:(List (bn.D))×(List (bn.D))):Option (((Bool))×(Unit)):=
 let s1_0:=xs.1
 let s2_1:=xs.2
 let v_2:Int:=(↑(List.length s1_0):Int)
 let ia:Int:=(↑(List.length s2_1):Int)
 let nG:=v_2 != ia
 bif nG then
  some (false,())
 else
  let x_23:T0:=((0,s2_1,s1_0,v_2),())
  bif pY ET x_23 then
   sumC (oa ET Z9 x_23) (fun y_24=>
    let nT:=y_24.1
    some (nT,())) (fun _=>
    some (true,()))
  else none
def Wh.q96 (xs:(bx.D)×(bx.D)):Option (((Bool))×(Unit)):=
 let bp:=xs.1
 let b_1:=xs.2
 let v_2:=bp.1==b_1.1
 let r_3:=zog EP (bp.2.1,b_1.2.1)
 let sn:=bif v_2 then r_3.1 else false
 bif jZ [!v_2 || isSm (EP (bp.2.1,b_1.2.1))] then
  some (sn,())
 else none
abbrev Wh.UJ:Type:=((Int)×(Int)×(Int)×(List (di.D))×(Int))×(Unit)
abbrev Wh.ahr:Type:=((((Int))×(Unit))⊕((Unit)×(Unit)))
def Wh.Fh (x:UJ):Option (UJ⊕ahr):=
 let fj:=x.1.1
 let WI:=x.1.2.1
 let WX:=(x.1.2.2).1
 let jg:=x.1.2.2.2.1
 let ew:=x.1.2.2.2.2
 bif decide (fj<ew) then
  let zQ:di.D:=List.getD jg (Int.toNat fj) (0,0,0,0,false,())
  bif jZ [decide (0≤fj),decide (fj<(↑(List.length jg):Int))] then
   let wv:=bif(zQ.2.1==WX) then zQ.2.2.1==WI else false
   bif wv then
    some (.inr (.inl (fj,())))
   else
    some (.inl (((IntKind.wrap .i64 (fj+1)),WI,WX,jg,ew),()))
  else none
 else
  some (.inr (.inr ((),())))
def Wh.aaI:(((Int))×(Unit))⊕((Unit)×(Unit)):=.inl default
def Wh.q29 (xs:(eI.D)×(Int)×(Int)):Option (((Int))×(Unit)):=
 let gv:=xs.1
 let KC:=xs.2.1
 let acf:=xs.2.2
 let ia:Int:=(↑(List.length gv.1):Int)
 let x_24:UJ:=((0,acf,KC,gv.1,ia),())
 bif pY Fh x_24 then
  sumC (oa Fh aaI x_24) (fun PZ=>
   let zW:=PZ.1
   some (zW,())) (fun _=>
   some (-1,()))
 else none
abbrev Wh.Vq:Type:=((Int)×(Int)×(Int)×(List (di.D))×(Int))×(Unit)
abbrev Wh.ah5:Type:=((((Int))×(Unit)))
def Wh.Fz (x:Vq):Option (Vq⊕ah5):=
 let iL:=x.1.1
 let HM:=x.1.2.1
 let HA:=(x.1.2.2).1
 let ew:=x.1.2.2.2.1
 let ec:=x.1.2.2.2.2
 bif decide (iL<ec) then
  let pb_21:di.D:=List.getD ew (Int.toNat iL) (0,0,0,0,false,())
  bif jZ [decide (0≤iL),decide (iL<(↑(List.length ew):Int))] then
   let AA:=bif decide (pb_21.2.1>0) then pb_21.1==HA else false
   bif AA then
    some (.inl (((IntKind.wrap .i64 (iL+1)),(IntKind.wrap .i64 (HM+1)),HA,ew,ec),()))
   else
    some (.inl (((IntKind.wrap .i64 (iL+1)),HM,HA,ew,ec),()))
  else none
 else
  some (.inr (HM,()))
def Wh.abm:(((Int))×(Unit)):=default
def Wh.q92 (xs:(eI.D)×(Int)):Option (((Int))×(Unit)):=
 let gv:=xs.1
 let so:=xs.2
 let v_2:Int:=(↑(List.length gv.1):Int)
 let LD:Vq:=((0,0,so,gv.1,v_2),())
 bif pY Fz LD then
  let I4:=oa Fz abm LD
  let n_29:=I4.1
  some (n_29,())
 else none
abbrev Wh.TY:Type:=((Int)×(Unit))×((eI.D))
abbrev Wh.agM:Type:=((((Bool))×(Unit))⊕((Unit)×(Unit)))
def Wh.DU (x:TY):Option (TY⊕agM):=
 let Lw:=x.1.1
 let ls_62:=x.2
 bif decide (Lw<2) then
  bz q92 (ls_62,Lw) fun r_64=>
   bif decide (r_64.1>5) then
    some (.inr (.inl (false,())))
   else
    some (.inl (((IntKind.wrap .i64 (Lw+1)),()),ls_62))
 else
  some (.inr (.inr ((),())))
def Wh.Z7:(((Bool))×(Unit))⊕((Unit)×(Unit)):=.inl default
abbrev Wh.TX:Type:=((Int)×(Unit)×(List (di.D))×(Int))×((eI.D))
abbrev Wh.agL:Type:=((((Bool))×(Unit))⊕(((Unit))×((eI.D))))
def Wh.DT (x:TX):Option (TX⊕agL):=
 let hJ:=x.1.1
 let zE:=(x.1.2.2).1
 let IX:=x.1.2.2.2
 let Au:=x.2
 bif decide (hJ<IX) then
  let Am:di.D:=List.getD zE (Int.toNat hJ) (0,0,0,0,false,())
  bif jZ [decide (0≤hJ),decide (hJ<(↑(List.length zE):Int))] then
   bif(Am.2.1==0) then
    bif(!(Am.1==0&&(Am.2.1==0&&(Am.2.2.1==0&&((Am.2.2.2).1==0&&(Am.2.2.2.2.1==false&&true)))))) then
     some (.inr (.inl (false,())))
    else
     some (.inl (((IntKind.wrap .i64 (hJ+1)),(),zE,IX),Au))
   else
    let Lf:=zog A_ Am.1
    let FF:=zog eo (Am.2.1,1,99999)
    let AY:=zog eo (Am.2.2.1,0,23)
    let Lh:=zog eo ((Am.2.2.2).1,0,99999)
    let IL:=zog q29 (Au,Am.2.1,Am.2.2.1)
    let FL:=bif bif bif bif !Lf.1 then true else !FF.1 then true else !AY.1 then true else !Lh.1 then true else IL.1 != hJ
    bif jZ [(!!bif bif bif !Lf.1 then true else !FF.1 then true else !AY.1 then true else !Lh.1) || isSm (q29 (Au,Am.2.1,Am.2.2.1)),(!!bif bif !Lf.1 then true else !FF.1 then true else !AY.1) || isSm (eo ((Am.2.2.2).1,0,99999)),(!!bif !Lf.1 then true else !FF.1) || isSm (eo (Am.2.2.1,0,23)),!!!Lf.1 || isSm (eo (Am.2.1,1,99999)),isSm (A_ Am.1)] then
     bif FL then
      some (.inr (.inl (false,())))
     else
      some (.inl (((IntKind.wrap .i64 (hJ+1)),(),zE,IX),Au))
    else none
  else none
 else
  some (.inr (.inr ((),Au)))
def Wh.Z6:(((Bool))×(Unit))⊕(((Unit))×((eI.D))):=.inl default
def Wh.Gh (xs:(eI.D)):Option (((Bool))×(Unit)):=
 let gv:eI.D:=xs
 let v_1:Int:=(↑(List.length gv.1):Int)
 let dm:=zog eo (gv.2.1,0,7)
 let sn:=bif v_1 != 8 then true else !dm.1
 bif jZ [!!v_1 != 8 || isSm (eo (gv.2.1,0,7))] then
  bif sn then
   some (false,())
  else
   let x_50:TX:=((0,(),gv.1,v_1),gv)
   bif pY DT x_50 then
    sumC (oa DT Z6 x_50) (fun y_51=>
     let CU:=y_51.1
     some (CU,())) (fun z_52=>
     let S1:=z_52.2
     let x_67:TY:=((0,()),S1)
     bif pY DU x_67 then
      sumC (oa DU Z7 x_67) (fun y_68=>
       let PV:=y_68.1
       some (PV,())) (fun _=>
       some (true,()))
     else none)
   else none
 else none
def Wh.IC (xs:(bn.D)×(Int)):Option (((Bool))×(Unit)):=
 let i_0:=xs.1
 let v_1:=xs.2
 some ((i_0.2.2.1==v_1),())
abbrev Wh.UK:Type:=((Int)×(List (bn.D))×((Int)×(Unit))×(Int))×(Unit)
abbrev Wh.q2_l0Y:Type:=((((Int))×(Unit))⊕((Unit)×(Unit)))
def Wh.Fi (x:UK):Option (UK⊕q2_l0Y):=
 let zD:=x.1.1
 let IP:=x.1.2.1
 let f_13:=(x.1.2.2).1.1
 let fj:=x.1.2.2.2
 bif decide (zD<fj) then
  let fN:bn.D:=List.getD IP (Int.toNat zD) (0,[],0,[],())
  let AW:=zog IC (fN,f_13)
  bif jZ [isSm (IC (fN,f_13)),decide (0≤zD),decide (zD<(↑(List.length IP):Int))] then
   bif AW.1 then
    some (.inr (.inl (zD,())))
   else
    some (.inl (((IntKind.wrap .i64 (zD+1)),IP,(f_13,()),fj),()))
  else none
 else
  some (.inr (.inr ((),())))
def Wh.aaJ:(((Int))×(Unit))⊕((Unit)×(Unit)):=.inl default
def Wh.q2 (xs:(List (bn.D))×((Int)×(Unit))):Option (((Int))×(Unit)):=
 let b6:=xs.1
 let f_1:=xs.2
 let v_2:Int:=(↑(List.length b6):Int)
 let x_19:UK:=((0,b6,(f_1.1,()),v_2),())
 bif pY Fi x_19 then
  sumC (oa Fi aaJ x_19) (fun Hi=>
   let wv:=Hi.1
   some (wv,())) (fun _=>
   some (-1,()))
 else none
def Wh.EZ (xs:(bx.D)×(Int)):Option (((Int))×(Unit)):=
 let bt:=xs.1
 let KC:=xs.2
 bz Wh.q2 (bt.2.1,KC,()) fun r_2=>
  some (r_2.1,())
def Wh.Ax (xs:(fe.D)):Option (((Int))×(Unit)):=
 let gv:fe.D:=xs
 bif jZ [gv.2.1 != 0] then
  some ((IntKind.wrap .i64 (Int.tdiv (IntKind.wrap .i64 ((IntKind.wrap .i64 (gv.1+gv.2.1))-1)) gv.2.1)),())
 else none
abbrev Wh.Vp:Type:=((Unit)×(Unit))×(((Int)×((Int)×((Unit)×((Unit)×(Unit)))))×((Int)×((Int)×((Unit)×((Unit)×(Unit)))))×(List (Int))×(List (Int))×(List (Int))×(List (Int)))
abbrev Wh.ah4:Type:=((((Unit)×(Unit))×(((Int)×((Int)×((Unit)×((Unit)×(Unit)))))×((Int)×((Int)×((Unit)×((Unit)×(Unit)))))×(List (Int))×(List (Int))×(List (Int))×(List (Int)))))
def Wh.La (x:Vp):Option (Vp⊕ah4):=
 let tc:=x.2.1.1
 let DJ:=(x.2.1.2).1
 let jn:=(x.2.1.2.2.2).2
 let je:=x.2.2.1.1
 let th:=(x.2.2.1).2.1
 let zN:=(x.2.2.1).2.2.2.2
 let AN:=(x.2.2.2).1
 let A8:=x.2.2.2.2.1
 let zY:=(x.2.2.2.2.2).1
 let AF:=(x.2.2.2.2.2).2
 bz Ax (tc,DJ,AN,A8,jn) fun CN=>
  bif decide (CN.1>24) then
   some (.inl (((),()),(tc,(IntKind.wrap .i64 (DJ+1)),(),(),jn),(je,th,(),(),zN),AN,A8,zY,AF))
  else
   some (.inr (((),()),(je,th,(),(),zN),(tc,DJ,(),(),jn),zY,AF,AN,A8))
def Wh.abl:(((Unit)×(Unit))×(((Int)×((Int)×((Unit)×((Unit)×(Unit)))))×((Int)×((Int)×((Unit)×((Unit)×(Unit)))))×(List (Int))×(List (Int))×(List (Int))×(List (Int)))):=default
def Wh.Fy (xs:(Int)):Option ((((Int)×((Int)×((List (Int))×((List (Int))×(Unit))))))×(Unit)):=
 let OO:=xs
 bz eo (OO,1,300) fun r_1=>
  bif !r_1.1 then
   some ((0,0,[],[],()),())
  else
   let BX:Vp:=(((),()),(OO,8,(),(),()),(0,0,(),(),()),[],[],[],[])
   bif pY La BX then
    let BB:=oa La abl BX
    let Bo:=BB.2.2.1.1
    let r_:=(BB.2.2.1).2.1
    let vT:=(BB.2.2.1).2.2.2.2
    let tn:=(BB.2.2.2.2.2).1
    let AO:=(BB.2.2.2.2.2).2
    bz Ax (Bo,r_,tn,AO,vT) fun JL=>
     let k_43:=IntKind.wrap .i64 (Int.tdiv (IntKind.wrap .i64 (JL.1+3)) 4)
     bif decide (k_43<JL.1) then
      let Tz:List Int:=[k_43,JL.1]
      some ((Bo,r_,Tz,[(2:Int),3],vT),())
     else
      let DM:List Int:=[JL.1]
      some ((Bo,r_,DM,[(1:Int)],vT),())
   else none
abbrev Wh.U2:Type:=((Int)×(Unit)×(List (di.D))×(Int))×((bx.D))
abbrev Wh.ahG:Type:=((((Bool))×(Unit))⊕((Unit)×(Unit)))
def Wh.Cj (x:U2):Option (U2⊕ahG):=
 let s_:=x.1.1
 let AB:=(x.1.2.2).1
 let nT:=x.1.2.2.2
 let zZ:=x.2
 bif decide (s_<nT) then
  let Cc:di.D:=List.getD AB (Int.toNat s_) (0,0,0,0,false,())
  bif jZ [decide (0≤s_),decide (s_<(↑(List.length AB):Int))] then
   bif(Cc.2.1==0) then
    some (.inl (((IntKind.wrap .i64 (s_+1)),(),AB,nT),zZ))
   else
    bz EZ (zZ,Cc.2.1) fun nc=>
     let CQ:=zog Fy (↑(List.length (((((List.getD zZ.2.1 (Int.toNat nc.1) (0,[],0,[],())).2).2).2).1)):Int)
     let pz:=decide ((Cc.2.2.2).1>0)
     let AY:=zog Ax (CQ.1.1,CQ.1.2.1,bif !bif bif pz then true else decide (nc.1<0) then true else(List.getD zZ.2.1 (Int.toNat nc.1) (0,[],0,[],())).1 != Cc.1 then(CQ.1.2.2).1 else [],bif !bif bif pz then true else decide (nc.1<0) then true else(List.getD zZ.2.1 (Int.toNat nc.1) (0,[],0,[],())).1 != Cc.1 then CQ.1.2.2.2.1 else [],CQ.1.2.2.2.2)
     let G7:=bif bif bif pz then true else decide (nc.1<0) then true else(List.getD zZ.2.1 (Int.toNat nc.1) (0,[],0,[],())).1 != Cc.1 then true else decide (Cc.2.2.1≥AY.1)
     bif jZ [(!!bif bif pz then true else decide (nc.1<0) then true else(List.getD zZ.2.1 (Int.toNat nc.1) (0,[],0,[],())).1 != Cc.1) || isSm (Ax (CQ.1.1,CQ.1.2.1,bif !bif bif pz then true else decide (nc.1<0) then true else(List.getD zZ.2.1 (Int.toNat nc.1) (0,[],0,[],())).1 != Cc.1 then(CQ.1.2.2).1 else [],bif !bif bif pz then true else decide (nc.1<0) then true else(List.getD zZ.2.1 (Int.toNat nc.1) (0,[],0,[],())).1 != Cc.1 then CQ.1.2.2.2.1 else [],CQ.1.2.2.2.2)),(!!bif bif pz then true else decide (nc.1<0) then true else(List.getD zZ.2.1 (Int.toNat nc.1) (0,[],0,[],())).1 != Cc.1) || isSm (Fy (↑(List.length (((((List.getD zZ.2.1 (Int.toNat nc.1) (0,[],0,[],())).2).2).2).1)):Int)),(!!bif bif pz then true else decide (nc.1<0) then true else(List.getD zZ.2.1 (Int.toNat nc.1) (0,[],0,[],())).1 != Cc.1) || decide (0≤nc.1),(!!bif bif pz then true else decide (nc.1<0) then true else(List.getD zZ.2.1 (Int.toNat nc.1) (0,[],0,[],())).1 != Cc.1) || decide (nc.1<(↑(List.length zZ.2.1):Int)),(!!bif pz then true else decide (nc.1<0)) || decide (0≤nc.1),(!!bif pz then true else decide (nc.1<0)) || decide (nc.1<(↑(List.length zZ.2.1):Int))] then
      bif G7 then
       some (.inr (.inl (false,())))
      else
       some (.inl (((IntKind.wrap .i64 (s_+1)),(),AB,nT),zZ))
     else none
  else none
 else
  some (.inr (.inr ((),())))
def Wh.aaY:(((Bool))×(Unit))⊕((Unit)×(Unit)):=.inl default
def Wh.Fs (xs:(eI.D)×(bx.D)):Option (((Bool))×(Unit)):=
 let gv:=xs.1
 let c_1:=xs.2
 bz Gh gv fun r_2=>
  bif !r_2.1 then
   some (false,())
  else
   let ia:Int:=(↑(List.length gv.1):Int)
   let x_44:U2:=((0,(),gv.1,ia),c_1)
   bif pY Cj x_44 then
    sumC (oa Cj aaY x_44) (fun y_45=>
     let v_47:=y_45.1
     some (v_47,())) (fun _=>
     some (true,()))
   else none
def Wh.q48 (xs:(ek.D)):Option (((Bool))×(Unit)):=
 let zK:ek.D:=xs
 let r_1:=zog eo (zK.2.1,0,99999)
 let r_2:=zog eo (zK.2.2.1,0,99999)
 let k8:=zog eo (zK.1,0,zK.2.1)
 let qj:=zog eo ((zK.2.2.2).1,0,99999)
 let Aa:=bif bif bif r_1.1 then r_2.1 else false then k8.1 else false then qj.1 else false
 bif jZ [(!bif bif r_1.1 then r_2.1 else false then k8.1 else false) || isSm (eo ((zK.2.2.2).1,0,99999)),(!bif r_1.1 then r_2.1 else false) || isSm (eo (zK.1,0,zK.2.1)),!r_1.1 || isSm (eo (zK.2.2.1,0,99999)),isSm (eo (zK.2.1,0,99999))] then
  some (Aa,())
 else none
def Wh.Bx (xs:(Int)):Option (((Bool))×(Unit)):=
 let wh:=xs
 bz eo (wh,0,3) fun r_1=>
  some (r_1.1,())
def Wh.q94 (xs:(Int)):Option (((Int))×(Unit)):=
 let Sb:=xs
 some ((Int.tmod Sb 2),())
abbrev Wh.UZ:Type:=((Int)×(Unit)×(List (e_.D))×(Int))×((dj.D))
abbrev Wh.ahD:Type:=((((Bool))×(Unit))⊕((Unit)×(Unit)))
def Wh.Ed (x:UZ):Option (UZ⊕ahD):=
 let CW:=x.1.1
 let v_89:=(x.1.2.2).1
 let PX:=x.1.2.2.2
 let B_:=x.2
 bif decide (CW<PX) then
  let Aw:e_.D:=List.getD v_89 (Int.toNat CW) (0,0,0,0,0,0,())
  bif jZ [decide (0≤CW),decide (CW<(↑(List.length v_89):Int))] then
   let JS:=decide (CW>0)
   let r_97:=zog Bx Aw.1
   let r_100:=zog eo (Aw.2.1,1,99999)
   let Vy:=zog eo (Aw.2.2.1,1,(B_.2.2.2).1.1)
   let v_104:=bif bif bif bif JS then decide ((List.getD ((B_.2.2.2.2.2).2.1) (Int.toNat (IntKind.wrap .i64 (CW-1))) (0,0,0,0,0,0,())).1≥Aw.1) else false then true else !r_97.1 then true else !r_100.1 then true else !Vy.1
   bif jZ [(!!bif bif bif JS then decide ((List.getD ((B_.2.2.2.2.2).2.1) (Int.toNat (IntKind.wrap .i64 (CW-1))) (0,0,0,0,0,0,())).1≥Aw.1) else false then true else !r_97.1 then true else !r_100.1) || isSm (eo (Aw.2.2.1,1,(B_.2.2.2).1.1)),(!!bif bif JS then decide ((List.getD ((B_.2.2.2.2.2).2.1) (Int.toNat (IntKind.wrap .i64 (CW-1))) (0,0,0,0,0,0,())).1≥Aw.1) else false then true else !r_97.1) || isSm (eo (Aw.2.1,1,99999)),(!!bif JS then decide ((List.getD ((B_.2.2.2.2.2).2.1) (Int.toNat (IntKind.wrap .i64 (CW-1))) (0,0,0,0,0,0,())).1≥Aw.1) else false) || isSm (Bx Aw.1),!JS || decide (0≤IntKind.wrap .i64 (CW-1)),!JS || decide (IntKind.wrap .i64 (CW-1)<(↑(List.length ((B_.2.2.2.2.2).2.1)):Int))] then
    bif v_104 then
     some (.inr (.inl (false,())))
    else
     bz EZ ((B_.2.2.2).1,Aw.2.2.1) fun Ph=>
      let PF:=decide (Ph.1≥0)
      let r_107:=zog q94 Aw.1
      let Ej:=bif PF then(List.getD ((B_.2.2.2).1.2.1) (Int.toNat Ph.1) (0,[],0,[],())).1 != r_107.1 else false
      bif jZ [!PF || isSm (q94 Aw.1),!PF || decide (0≤Ph.1),!PF || decide (Ph.1<(↑(List.length ((B_.2.2.2).1.2.1)):Int))] then
       bif Ej then
        some (.inr (.inl (false,())))
       else
        let Lb:=zog eo ((Aw.2.2.2).1,0,9999)
        let r_110:=zog eo (Aw.2.2.2.2.1,0,3)
        let r_113:=zog eo ((Aw.2.2.2.2.2).1,0,B_.2.1)
        let v_114:=bif bif !Lb.1 then true else !r_110.1 then true else !r_113.1
        bif jZ [(!!bif !Lb.1 then true else !r_110.1) || isSm (eo ((Aw.2.2.2.2.2).1,0,B_.2.1)),!!!Lb.1 || isSm (eo (Aw.2.2.2.2.1,0,3)),isSm (eo ((Aw.2.2.2).1,0,9999))] then
         bif v_114 then
          some (.inr (.inl (false,())))
         else
          some (.inl (((IntKind.wrap .i64 (CW+1)),(),v_89,PX),B_))
        else none
      else none
   else none
  else none
 else
  some (.inr (.inr ((),())))
def Wh.aaV:(((Bool))×(Unit))⊕((Unit)×(Unit)):=.inl default
abbrev Wh.UY:Type:=((Int)×(Unit)×(List (ek.D))×(Int))×((dj.D))
abbrev Wh.ahC:Type:=((((Bool))×(Unit))⊕(((Unit))×((dj.D))))
def Wh.Fp (x:UY):Option (UY⊕ahC):=
 let Dw:=x.1.1
 let G7:=(x.1.2.2).1
 let IZ:=x.1.2.2.2
 let SZ:=x.2
 bif decide (Dw<IZ) then
  let DM:ek.D:=List.getD G7 (Int.toNat Dw) (0,0,0,0,())
  bif jZ [decide (0≤Dw),decide (Dw<(↑(List.length G7):Int))] then
   let IL:=zog q48 DM
   let FM:=bif bif bif !IL.1 then true else DM.2.1 != 40 then true else DM.2.2.1 != 8 then true else decide ((DM.2.2.2).1>SZ.2.1)
   bif jZ [isSm (q48 DM)] then
    bif FM then
     some (.inr (.inl (false,())))
    else
     some (.inl (((IntKind.wrap .i64 (Dw+1)),(),G7,IZ),SZ))
   else none
  else none
 else
  some (.inr (.inr ((),SZ)))
def Wh.aaU:(((Bool))×(Unit))⊕(((Unit))×((dj.D))):=.inl default
def Wh.q52 (xs:(dj.D)):Option (((Bool))×(Unit)):=
 let b6:dj.D:=xs
 let r_1:=zog eo (b6.2.1,0,99999)
 let v_2:=bif !r_1.1 then true else decide ((↑(List.length (b6.2.2.1)):Int)>9000)
 bif jZ [isSm (eo (b6.2.1,0,99999))] then
  bif v_2 then
   some (false,())
  else
   bz Ee (b6.2.2.1) fun r_3=>
    bz E3 r_3.1.1 fun dm=>
     bif(!dm.1.2) then
      some (false,())
     else
      bif(!b6.1) then
       let ic:Bool:=(b6.2.2.2).1.1==0
       let aeU:=bif bif bif ic then(↑(List.length ((b6.2.2.2).1.2.1)):Int)==0 else false then(↑(List.length ((b6.2.2.2.2.1).1)):Int)==0 else false then(b6.2.2.2.2.1).2.1==0 else false
       let fj:=bif aeU then(↑(List.length ((b6.2.2.2.2.2).1)):Int)==0 else false
       let fN:=bif fj then(↑(List.length ((b6.2.2.2.2.2).2.1)):Int)==0 else false
       some (fN,())
      else
       let jg:Int:=(↑(List.length (b6.2.2.1)):Int)
       let y3:=zog q96 (dm.1.1,(b6.2.2.2).1)
       let nI:=zog Fs (b6.2.2.2.2.1,(b6.2.2.2).1)
       let nT:=bif bif bif r_3.1.2 != jg then true else !y3.1 then true else !nI.1 then true else(↑(List.length ((b6.2.2.2.2.2).1)):Int) != 2
       bif jZ [(!!bif r_3.1.2 != jg then true else !y3.1) || isSm (Fs (b6.2.2.2.2.1,(b6.2.2.2).1)),!!r_3.1.2 != jg || isSm (q96 (dm.1.1,(b6.2.2.2).1))] then
        bif nT then
         some (false,())
        else
         let zW:Int:=(↑(List.length ((b6.2.2.2.2.2).1)):Int)
         let x_54:UY:=((0,(),(b6.2.2.2.2.2).1,zW),b6)
         bif pY Fp x_54 then
          sumC (oa Fp aaU x_54) (fun y_55=>
           let v_57:=y_55.1
           some (v_57,())) (fun z_56=>
           let S3:=z_56.2
           let v_59:Int:=(↑(List.length ((S3.2.2.2.2.2).2.1)):Int)
           let x_116:UZ:=((0,(),(S3.2.2.2.2.2).2.1,v_59),S3)
           bif pY Ed x_116 then
            sumC (oa Ed aaV x_116) (fun y_117=>
             let IW:=y_117.1
             some (IW,())) (fun _=>
             some (true,()))
           else none)
         else none
       else none
 else none
def Wh.Gr (xs:(fk.D)):Option (((Bool))×(Unit)):=
 let lg:=xs
 let Ac:=bif bif bif bif bif bif(lg.1.1==0) then lg.1.2.1==0 else false then(↑(List.length ((lg.1.2.2).1)):Int)==0 else false then(↑(List.length (lg.1.2.2.2.1)):Int)==0 else false then lg.2.1.1==0 else false then(lg.2.1.2).1==0 else false then(↑(List.length (lg.2.1.2.2.1)):Int)==0 else false
 some (Ac,())
abbrev Wh.TW:Type:=((Int)×(Unit)×(List (Int))×(Int))×((fe.D))
abbrev Wh.agK:Type:=((((Bool))×(Unit))⊕((Unit)×(Unit)))
def Wh.CJ (x:TW):Option (TW⊕agK):=
 let wD:=x.1.1
 let pz:=(x.1.2.2).1
 let IY:=x.1.2.2.2
 let tn:=x.2
 bif decide (wD<IY) then
  let Be:=List.getD pz (Int.toNat wD) 0
  bif jZ [decide (0≤wD),decide (wD<(↑(List.length pz):Int))] then
   let AY:=zog Ax tn
   let Li:=zog eo (Be,1,AY.1)
   let r_50:=zog eo (List.getD ((tn.2.2.2).1) (Int.toNat wD) 0,1,99)
   let wJ:=bif bif !Li.1 then true else bif decide (wD>0) then decide (List.getD (tn.2.2.1) (Int.toNat (IntKind.wrap .i64 (wD-1))) 0≥Be) else false then true else !r_50.1
   bif jZ [(!!bif !(zog eo (Be,1,AY.1)).1 then true else bif decide (wD>0) then decide (List.getD (tn.2.2.1) (Int.toNat (IntKind.wrap .i64 (wD-1))) 0≥Be) else false) || isSm (eo (List.getD ((tn.2.2.2).1) (Int.toNat wD) 0,1,99)),(!!bif !(zog eo (Be,1,AY.1)).1 then true else bif decide (wD>0) then decide (List.getD (tn.2.2.1) (Int.toNat (IntKind.wrap .i64 (wD-1))) 0≥Be) else false) || decide (0≤wD),(!!bif !(zog eo (Be,1,AY.1)).1 then true else bif decide (wD>0) then decide (List.getD (tn.2.2.1) (Int.toNat (IntKind.wrap .i64 (wD-1))) 0≥Be) else false) || decide (wD<(↑(List.length ((tn.2.2.2).1)):Int)),!(decide (wD>0) && !!(zog eo (Be,1,AY.1)).1) || decide (0≤IntKind.wrap .i64 (wD-1)),!(decide (wD>0) && !!(zog eo (Be,1,AY.1)).1) || decide (IntKind.wrap .i64 (wD-1)<(↑(List.length (tn.2.2.1)):Int)),isSm (eo (Be,1,AY.1)),isSm (Ax tn)] then
    bif wJ then
     some (.inr (.inl (false,())))
    else
     some (.inl (((IntKind.wrap .i64 (wD+1)),(),pz,IY),tn))
   else none
  else none
 else
  some (.inr (.inr ((),())))
def Wh.Z5:(((Bool))×(Unit))⊕((Unit)×(Unit)):=.inl default
def Wh.Bt (xs:(fe.D)):Option (((Bool))×(Unit)):=
 let gv:fe.D:=xs
 let r_1:=zog eo (gv.1,1,300)
 let r_2:=zog eo (gv.2.1,1,16)
 let k8:=zog Ax gv
 let AD:=bif bif !r_1.1 then true else !r_2.1 then true else decide (k8.1>24)
 bif jZ [(!!bif !r_1.1 then true else !r_2.1) || isSm (Ax gv),!!!r_1.1 || isSm (eo (gv.2.1,1,16)),isSm (eo (gv.1,1,300))] then
  bif AD then
   some (false,())
  else
   let ic:Int:=(↑(List.length (gv.2.2.1)):Int)
   let Ld:=zog eo (ic,1,3)
   let fN:=bif bif !Ld.1 then true else(↑(List.length ((gv.2.2.2).1)):Int) != ic then true else List.getD (gv.2.2.1) (Int.toNat (IntKind.wrap .i64 (ic-1))) 0 != k8.1
   bif jZ [(!!bif !(zog eo (ic,1,3)).1 then true else(↑(List.length ((gv.2.2.2).1)):Int) != ic) || isSm (Ax gv),(!!bif !(zog eo (ic,1,3)).1 then true else(↑(List.length ((gv.2.2.2).1)):Int) != ic) || decide (0≤IntKind.wrap .i64 (ic-1)),(!!bif !(zog eo (ic,1,3)).1 then true else(↑(List.length ((gv.2.2.2).1)):Int) != ic) || decide (IntKind.wrap .i64 (ic-1)<ic),isSm (eo (ic,1,3))] then
    bif fN then
     some (false,())
    else
     let LH:TW:=((0,(),gv.2.2.1,ic),gv)
     bif pY CJ LH then
      sumC (oa CJ Z5 LH) (fun y_54=>
       let Cr:=y_54.1
       some (Cr,())) (fun _=>
       some (true,()))
     else none
   else none
 else none
abbrev Wh.Ue:Type:=((Int)×(List (Int))×(Int)×(List (Int))×(Int))×(Unit)
abbrev Wh.ag1:Type:=((((Bool))×(Unit))⊕(((Int))×(Unit)))
def Wh.D6 (x:Ue):Option (Ue⊕ag1):=
 let fN:=x.1.1
 let VE:=x.1.2.1
 let Sf:=(x.1.2.2).1
 let ec:=x.1.2.2.2.1
 let eK:=x.1.2.2.2.2
 bif decide (fN<eK) then
  let wv:=List.getD ec (Int.toNat fN) 0
  bif jZ [decide (0≤fN),decide (fN<(↑(List.length ec):Int))] then
   let AA:=IntKind.wrap .i64 (Sf-1)
   let CP:=zog eo (wv,0,AA)
   let hJ:=bif !CP.1 then true else bif decide (fN>0) then decide (List.getD VE (Int.toNat (IntKind.wrap .i64 (fN-1))) 0≥wv) else false
   bif jZ [!(decide (fN>0) && !!(zog eo (wv,0,AA)).1) || decide (0≤IntKind.wrap .i64 (fN-1)),!(decide (fN>0) && !!(zog eo (wv,0,AA)).1) || decide (IntKind.wrap .i64 (fN-1)<(↑(List.length VE):Int)),isSm (eo (wv,0,AA))] then
    bif hJ then
     some (.inr (.inl (false,())))
    else
     some (.inl (((IntKind.wrap .i64 (fN+1)),VE,Sf,ec,eK),()))
   else none
  else none
 else
  some (.inr (.inr (Sf,())))
def Wh.aal:(((Bool))×(Unit))⊕(((Int))×(Unit)):=.inl default
def Wh.D5 (xs:(List (Int))×(Int)):Option (((Bool))×(Unit)):=
 let Eh:=xs.1
 let Sd:=xs.2
 let He:Ue:=((0,Eh,Sd,Eh,(↑(List.length Eh):Int)),())
 bif pY D6 He then
  sumC (oa D6 aal He) (fun Hl=>
   let vc:=Hl.1
   some (vc,())) (fun I5=>
   let acn:=I5.1
   bz eo (acn,0,24) fun Dr=>
    some (Dr.1,()))
 else none
abbrev Wh.UC:Type:=((Int)×(Int)×(List (Int))×(Int))×(Unit)
abbrev Wh.ahl:Type:=((((Int))×(Unit)))
def Wh.Iu (x:UC):Option (UC⊕ahl):=
 let n4:=x.1.1
 let m_10:=x.1.2.1
 let zD:=(x.1.2.2).1
 let nS:=x.1.2.2.2
 bif decide (n4<nS) then
  let fj:=List.getD zD (Int.toNat n4) 0
  bif jZ [decide (0≤n4),decide (n4<(↑(List.length zD):Int))] then
   bif jZ [decide (0≤fj)] then
    some (.inl (((IntKind.wrap .i64 (n4+1)),pS Go.BinOp.or Go.IntKind.u32 m_10 (IntKind.wrap .u32 ((1:Int)*2 ^ Min.min (Int.toNat fj) (Go.IntKind.bits Go.IntKind.u32))),zD,nS),()))
   else none
  else none
 else
  some (.inr (m_10,()))
def Wh.aaD:(((Int))×(Unit)):=default
def Wh.Fc (xs:(List (Int))):Option (((Int))×(Unit)):=
 let Eh:=xs
 let x_17:UC:=((0,0,Eh,(↑(List.length Eh):Int)),())
 bif pY Iu x_17 then
  let CX:=oa Iu aaD x_17
  let m_19:=CX.1
  some (m_19,())
 else none
abbrev Wh.U1:Type:=((Int)×(Int)×(List (er.D))×(Int))×(Unit)
abbrev Wh.ahF:Type:=((((Bool))×(Unit))⊕((Unit)×(Unit)))
def Wh.GL (x:U1):Option (U1⊕ahF):=
 let Lx:=x.1.1
 let ZL:=x.1.2.1
 let Lz:=(x.1.2.2).1
 let PV:=x.1.2.2.2
 bif decide (Lx<PV) then
  let KZ:=List.getD Lz (Int.toNat Lx) ([],[],())
  bif jZ [decide (0≤Lx),decide (Lx<(↑(List.length Lz):Int))] then
   let v_73:List Int:=List.take (Int.toNat ((↑(List.length KZ.1):Int)-1)) (List.drop (Int.toNat 1) KZ.1)
   let r_77:=zog Fc v_73
   let LB:=pS Go.BinOp.and Go.IntKind.u32 r_77.1 ZL != 0
   bif jZ [isSm (Fc v_73),true,decide (1≤(↑(List.length KZ.1):Int)),decide ((↑(List.length KZ.1):Int)≤(↑(List.length KZ.1):Int))] then
    bif LB then
     some (.inr (.inl (false,())))
    else
     some (.inl (((IntKind.wrap .i64 (Lx+1)),ZL,Lz,PV),()))
   else none
  else none
 else
  some (.inr (.inr ((),())))
def Wh.aaX:(((Bool))×(Unit))⊕((Unit)×(Unit)):=.inl default
abbrev Wh.U0:Type:=((Int)×(Int)×(Unit)×(List (er.D))×(Int))×((b7.D))
abbrev Wh.ahE:Type:=((((Bool))×(Unit))⊕(((Int)×(Unit))×((b7.D))))
def Wh.Dn (x:U0):Option (U0⊕ahE):=
 let nT:=x.1.1
 let ZK:=x.1.2.1
 let hJ:=x.1.2.2.2.1
 let zE:=x.1.2.2.2.2
 let BO:=x.2
 bif decide (nT<zE) then
  let BP:=List.getD hJ (Int.toNat nT) ([],[],())
  bif jZ [decide (0≤nT),decide (nT<(↑(List.length hJ):Int))] then
   let vc:Int:=(↑(List.length BP.1):Int)
   let IK:=zog D5 (BP.1,BO.1)
   let Dw:=bif bif bif vc==0 then true else !IK.1 then true else(↑(List.length BP.2.1):Int) != BO.2.1 then true else bif decide (nT>0) then decide (List.getD ((List.getD (BO.2.2.1) (Int.toNat (IntKind.wrap .i64 (nT-1))) ([],[],())).1) (Int.toNat 0) 0≥List.getD BP.1 (Int.toNat 0) 0) else false
   bif jZ [!(decide (nT>0) && !bif bif vc==0 then true else !IK.1 then true else(↑(List.length BP.2.1):Int) != BO.2.1) || decide ((0:Int)≤0),!(decide (nT>0) && !bif bif vc==0 then true else !IK.1 then true else(↑(List.length BP.2.1):Int) != BO.2.1) || decide (0<vc),!(decide (nT>0) && !bif bif vc==0 then true else !IK.1 then true else(↑(List.length BP.2.1):Int) != BO.2.1) || decide ((0:Int)≤0),!(decide (nT>0) && !bif bif vc==0 then true else !IK.1 then true else(↑(List.length BP.2.1):Int) != BO.2.1) || decide (0<(↑(List.length ((List.getD (BO.2.2.1) (Int.toNat (IntKind.wrap .i64 (nT-1))) ([],[],())).1)):Int)),!(decide (nT>0) && !bif bif vc==0 then true else !IK.1 then true else(↑(List.length BP.2.1):Int) != BO.2.1) || decide (0≤IntKind.wrap .i64 (nT-1)),!(decide (nT>0) && !bif bif vc==0 then true else !IK.1 then true else(↑(List.length BP.2.1):Int) != BO.2.1) || decide (IntKind.wrap .i64 (nT-1)<(↑(List.length (BO.2.2.1)):Int)),!!vc==0 || isSm (D5 (BP.1,BO.1))] then
    bif Dw then
     some (.inr (.inl (false,())))
    else
     let G7:=List.getD BP.1 (Int.toNat 0) 0
     let agu:Int:=pS Go.BinOp.or Go.IntKind.u32 ZK (IntKind.wrap .u32 ((1:Int)*2 ^ Min.min (Int.toNat G7) (Go.IntKind.bits Go.IntKind.u32)))
     bif jZ [decide (0≤G7),true,decide (0<vc)] then
      some (.inl (((IntKind.wrap .i64 (nT+1)),agu,(),hJ,zE),BO))
     else none
   else none
  else none
 else
  some (.inr (.inr ((ZK,()),BO)))
def Wh.aaW:(((Bool))×(Unit))⊕(((Int)×(Unit))×((b7.D))):=.inl default
def Wh.CL (xs:(b7.D)):Option (((Bool))×(Unit)):=
 let b6:=xs
 let r_1:=zog eo (b6.1,1,24)
 let r_2:=zog eo (b6.2.1,1,16)
 let ia:=bif !r_1.1 then true else !r_2.1
 bif jZ [!!!r_1.1 || isSm (eo (b6.2.1,1,16)),isSm (eo (b6.1,1,24))] then
  bif ia then
   some (false,())
  else
   let nG:Int:=(↑(List.length (b6.2.2.1)):Int)
   let LG:U0:=((0,0,(),b6.2.2.1,nG),b6)
   bif pY Dn LG then
    sumC (oa Dn aaW LG) (fun y_48=>
     let PR:=y_48.1
     some (PR,())) (fun z_49=>
     let agv:=z_49.1.1
     let B9:=z_49.2
     let CU:Int:=(↑(List.length (B9.2.2.1)):Int)
     let x_80:U1:=((0,agv,B9.2.2.1,CU),())
     bif pY GL x_80 then
      sumC (oa GL aaX x_80) (fun y_81=>
       let FN:=y_81.1
       some (FN,())) (fun _=>
       some (true,()))
     else none)
   else none
 else none
def Wh.D4 (xs:(fk.D)):Option (((Bool))×(Unit)):=
 let lg:=xs
 let r_1:=zog Bt lg.1
 let r_2:=zog CL lg.2.1
 let k8:=zog Ax lg.1
 let n4:=bif bif bif r_1.1 then r_2.1 else false then lg.2.1.1==k8.1 else false then(lg.2.1.2).1==lg.1.2.1 else false
 bif jZ [(!bif r_1.1 then r_2.1 else false) || isSm (Ax lg.1),!r_1.1 || isSm (CL lg.2.1),isSm (Bt lg.1)] then
  some (n4,())
 else none
abbrev Wh.UF:Type:=((Int)×(Int)×(List (er.D))×(Int))×(Unit)
abbrev Wh.ahn:Type:=((((List UInt8)×(Bool))×(Unit))⊕((Unit)×(Unit)))
def Wh.GG (x:UF):Option (UF⊕ahn):=
 let fj:=x.1.1
 let at_15:=x.1.2.1
 let fN:=(x.1.2.2).1
 let jg:=x.1.2.2.2
 bif decide (fj<jg) then
  let KY:=List.getD fN (Int.toNat fj) ([],[],())
  bif jZ [decide (0≤fj),decide (fj<(↑(List.length fN):Int))] then
   let eK:Int:=(↑(List.length KY.1):Int)
   let AA:=bif eK==1 then List.getD KY.1 (Int.toNat 0) 0==at_15 else false
   bif jZ [!eK==1 || decide ((0:Int)≤0),!eK==1 || decide (0<eK)] then
    bif AA then
     some (.inr (.inl ((KY.2.1,true),())))
    else
     some (.inl (((IntKind.wrap .i64 (fj+1)),at_15,fN,jg),()))
   else none
  else none
 else
  some (.inr (.inr ((),())))
def Wh.aaG:(((List UInt8)×(Bool))×(Unit))⊕((Unit)×(Unit)):=.inl default
def Wh.Ff (xs:(b7.D)×(Int)):Option (((List UInt8)×(Bool))×(Unit)):=
 let b6:=xs.1
 let As:=xs.2
 let v_2:Int:=(↑(List.length (b6.2.2.1)):Int)
 let x_25:UF:=((0,As,b6.2.2.1,v_2),())
 bif pY GG x_25 then
  sumC (oa GG aaG x_25) (fun zI=>
   let hJ:=zI.1.1
   let zE:=zI.1.2
   some ((hJ,zE),())) (fun _=>
   some (([],false),()))
 else none
abbrev Wh.Vx:Type:=((Int)×(Unit))×((b7.D))
abbrev Wh.q9_l0Y:Type:=((((Int))×(Unit)))
def Wh.GX (x:Vx):Option (Vx⊕q9_l0Y):=
 let n_7:=x.1.1
 let F5:=x.2
 bif decide (n_7<F5.1) then
  bz Ff (F5,n_7) fun Dq=>
   bif(!Dq.1.2) then
    some (.inr (n_7,()))
   else
    some (.inl (((IntKind.wrap .i64 (n_7+1)),()),F5))
 else
  some (.inr (n_7,()))
def Wh.abu:(((Int))×(Unit)):=default
def Wh.GW (xs:(b7.D)):Option (((Int))×(Unit)):=
 let b6:=xs
 let x_13:Vx:=((0,()),b6)
 bif pY GX x_13 then
  let y_14:=oa GX abu x_13
  let n_15:=y_14.1
  some (n_15,())
 else none
def Wh.AH (xs:(fk.D)):Option (((Bool))×(Unit)):=
 let lg:=xs
 bz GW lg.2.1 fun r_1=>
  some ((r_1.1==lg.2.1.1),())
def Wh.Dm (xs:(b9.D)):Option (((Bool))×(Unit)):=
 let bt:=xs
 let r_1:=zog Bx bt.1
 let r_2:=zog eo (bt.2.1,0,99999)
 let k8:=zog eo (bt.2.2.2.2.1,0,99999)
 let AD:=bif bif !r_1.1 then true else !r_2.1 then true else !k8.1
 bif jZ [(!!bif !r_1.1 then true else !r_2.1) || isSm (eo (bt.2.2.2.2.1,0,99999)),!!!r_1.1 || isSm (eo (bt.2.1,0,99999)),isSm (Bx bt.1)] then
  bif AD then
   some (false,())
  else
   let ic:=decide (bt.2.2.2.2.1>0)
   let qj:=zog Gr ((bt.2.2.2.2.2).1)
   let GY:=zog D4 ((bt.2.2.2.2.2).1)
   let nS:=bif bif !ic then !qj.1 else false then true else bif ic then !GY.1 else false
   bif jZ [!(ic && !bif !ic then !qj.1 else false) || isSm (D4 ((bt.2.2.2.2.2).1)),!!ic || isSm (Gr ((bt.2.2.2.2.2).1))] then
    bif nS then
     some (false,())
    else
     bif(bt.2.2.1==0) then
      let fj:Bool:=(bt.2.2.2).1 == []
      some (bif fj then !ic else false,())
     else
      let iL:=bt.2.1==0
      let Eg:=zog Br ((bt.2.2.2).1)
      let jg:=bif iL then true else !Eg.1
      bif jZ [!!iL || isSm (Br ((bt.2.2.2).1))] then
       bif jg then
        some (false,())
       else
        let ew:=bt.2.2.1==1
        bif ew then
         bif ew then
          let IJ:=zog AH ((bt.2.2.2.2.2).1)
          let gh:=bif !ic then true else !IJ.1
          bif jZ [!!!ic || isSm (AH ((bt.2.2.2.2.2).1))] then
           some (gh,())
          else none
         else
          bif(bt.2.2.1==2) then
           let nI:=zog AH ((bt.2.2.2.2.2).1)
           let AB:=bif ic then !nI.1 else false
           bif jZ [!ic || isSm (AH ((bt.2.2.2.2.2).1))] then
            some (AB,())
           else none
          else
           bif(bt.2.2.1==3) then
            let CP:=zog AH ((bt.2.2.2.2.2).1)
            let zE:=bif ic then CP.1 else false
            bif jZ [!ic || isSm (AH ((bt.2.2.2.2.2).1))] then
             some (zE,())
            else none
           else
            some (false,())
        else
         bif(bt.2.2.1==4) then
          let Le:=zog AH ((bt.2.2.2.2.2).1)
          let vc:=bif !ic then true else !Le.1
          bif jZ [!!!ic || isSm (AH ((bt.2.2.2.2.2).1))] then
           some (vc,())
          else none
         else
          bif(bt.2.2.1==2) then
           let Dr:=zog AH ((bt.2.2.2.2.2).1)
           let IY:=bif ic then !Dr.1 else false
           bif jZ [!ic || isSm (AH ((bt.2.2.2.2.2).1))] then
            some (IY,())
           else none
          else
           bif(bt.2.2.1==3) then
            let Bb:=zog AH ((bt.2.2.2.2.2).1)
            let Dw:=bif ic then Bb.1 else false
            bif jZ [!ic || isSm (AH ((bt.2.2.2.2.2).1))] then
             some (Dw,())
            else none
           else
            some (false,())
      else none
   else none
 else none
abbrev Wh.Vv:Type:=((Int)×(Unit)×(List (bn.D))×(Int))×((bV.D))
abbrev Wh.ah_:Type:=((((Bool))×(Unit))⊕((Unit)×(Unit)))
def Wh.FE (x:Vv):Option (Vv⊕ah_):=
 let Lt:=x.1.1
 let VP:=(x.1.2.2).1
 let v_145:=x.1.2.2.2
 let Jv:=x.2
 bif decide (Lt<v_145) then
  let Cb:bn.D:=List.getD VP (Int.toNat Lt) (0,[],0,[],())
  bif jZ [decide (0≤Lt),decide (Lt<(↑(List.length VP):Int))] then
   let PI:Int:=(↑(List.length ((Jv.2.2.2).1)):Int)
   let PK:=bif decide (Cb.2.2.1≤PI) then !((List.getD ((Jv.2.2.2).1) (Int.toNat (IntKind.wrap .i64 (Cb.2.2.1-1))) (0,[],0,[],())).1==Cb.1&&(((List.getD ((Jv.2.2.2).1) (Int.toNat (IntKind.wrap .i64 (Cb.2.2.1-1))) (0,[],0,[],())).2).1==Cb.2.1&&((((List.getD ((Jv.2.2.2).1) (Int.toNat (IntKind.wrap .i64 (Cb.2.2.1-1))) (0,[],0,[],())).2).2).1==Cb.2.2.1&&(((((List.getD ((Jv.2.2.2).1) (Int.toNat (IntKind.wrap .i64 (Cb.2.2.1-1))) (0,[],0,[],())).2).2).2).1==(Cb.2.2.2).1&&true)))) else false
   bif jZ [!decide (Cb.2.2.1≤PI) || decide (0≤IntKind.wrap .i64 (Cb.2.2.1-1)),!decide (Cb.2.2.1≤PI) || decide (IntKind.wrap .i64 (Cb.2.2.1-1)<PI)] then
    bif PK then
     some (.inr (.inl (false,())))
    else
     some (.inl (((IntKind.wrap .i64 (Lt+1)),(),VP,v_145),Jv))
   else none
  else none
 else
  some (.inr (.inr ((),())))
def Wh.abr:(((Bool))×(Unit))⊕((Unit)×(Unit)):=.inl default
abbrev Wh.Vu:Type:=((Int)×(Unit)×(Unit)×(Int))×((bV.D)×(List (bn.D)))
abbrev Wh.ah9:Type:=((((Bool))×(Unit))⊕((Unit)×(Unit)))
def Wh.FD (x:Vu):Option (Vu⊕ah9):=
 let Lq:=x.1.1
 let v_113:=x.1.2.2.2
 let Ju:=x.2.1
 let KU:=x.2.2
 bif decide (Lq<v_113) then
  let Ca:bn.D:=List.getD KU (Int.toNat Lq) (0,[],0,[],())
  bif jZ [decide (0≤Lq),decide (Lq<(↑(List.length KU):Int))] then
   let PG:Int:=(↑(List.length ((Ju.2.2.2).1)):Int)
   let G3:=bif decide (Ca.2.2.1≤PG) then !((List.getD ((Ju.2.2.2).1) (Int.toNat (IntKind.wrap .i64 (Ca.2.2.1-1))) (0,[],0,[],())).1==Ca.1&&(((List.getD ((Ju.2.2.2).1) (Int.toNat (IntKind.wrap .i64 (Ca.2.2.1-1))) (0,[],0,[],())).2).1==Ca.2.1&&((((List.getD ((Ju.2.2.2).1) (Int.toNat (IntKind.wrap .i64 (Ca.2.2.1-1))) (0,[],0,[],())).2).2).1==Ca.2.2.1&&(((((List.getD ((Ju.2.2.2).1) (Int.toNat (IntKind.wrap .i64 (Ca.2.2.1-1))) (0,[],0,[],())).2).2).2).1==(Ca.2.2.2).1&&true)))) else false
   bif jZ [!decide (Ca.2.2.1≤PG) || decide (0≤IntKind.wrap .i64 (Ca.2.2.1-1)),!decide (Ca.2.2.1≤PG) || decide (IntKind.wrap .i64 (Ca.2.2.1-1)<PG)] then
    bif G3 then
     some (.inr (.inl (false,())))
    else
     some (.inl (((IntKind.wrap .i64 (Lq+1)),(),(),v_113),Ju,KU))
   else none
  else none
 else
  some (.inr (.inr ((),())))
def Wh.abq:(((Bool))×(Unit))⊕((Unit)×(Unit)):=.inl default
abbrev Wh.Vt:Type:=((Int)×(List (bn.D))×(Unit)×(Int))×((bV.D))
abbrev Wh.ah8:Type:=((((Bool))×(Unit))⊕(((Unit))×((bV.D))))
def Wh.FC (x:Vt):Option (Vt⊕ah8):=
 let LA:=x.1.1
 let LB:=x.1.2.1
 let PW:=x.1.2.2.2
 let KW:=x.2
 bif decide (LA<PW) then
  let F7:bn.D:=List.getD LB (Int.toNat LA) (0,[],0,[],())
  bif jZ [decide (0≤LA),decide (LA<(↑(List.length LB):Int))] then
   let FN:=IntKind.wrap .i64 (LA+1)
   let r_86:=zog E8 (F7.1,F7.2.1,(F7.2.2.2).1)
   let v_87:=bif F7.2.2.1 != FN then true else !r_86.1
   bif jZ [!!F7.2.2.1 != FN || isSm (E8 (F7.1,F7.2.1,(F7.2.2.2).1))] then
    bif v_87 then
     some (.inr (.inl (false,())))
    else
     some (.inl ((FN,LB,(),PW),KW))
   else none
  else none
 else
  some (.inr (.inr ((),KW)))
def Wh.abp:(((Bool))×(Unit))⊕(((Unit))×((bV.D))):=.inl default
abbrev Wh.Vs:Type:=((Int)×(List (eL.D))×(Unit)×(Int))×((bV.D))
abbrev Wh.ah7:Type:=((((Bool))×(Unit))⊕(((Unit))×((bV.D))))
def Wh.FB (x:Vs):Option (Vs⊕ah7):=
 let FL:=x.1.1
 let Bz:=x.1.2.1
 let PR:=x.1.2.2.2
 let HL:=x.2
 bif decide (FL<PR) then
  let JD:=List.getD Bz (Int.toNat FL) (0,[],false,())
  bif jZ [decide (0≤FL),decide (FL<(↑(List.length Bz):Int))] then
   let mw:=JD.1 != 9
   let CR:=zog Bx JD.1
   let Bf:=bif bif mw then !CR.1 else false then true else decide ((↑(List.length JD.2.1):Int)>160)
   bif jZ [!mw || isSm (Bx JD.1)] then
    bif Bf then
     some (.inr (.inl (false,())))
    else
     some (.inl (((IntKind.wrap .i64 (FL+1)),Bz,(),PR),HL))
   else none
  else none
 else
  some (.inr (.inr ((),HL)))
def Wh.abo:(((Bool))×(Unit))⊕(((Unit))×((bV.D))):=.inl default
abbrev Wh.Vr:Type:=((Int)×(Unit)×(List (b9.D))×(Int))×((bV.D))
abbrev Wh.ah6:Type:=((((Bool))×(Unit))⊕(((Unit))×((bV.D))))
def Wh.FA (x:Vr):Option (Vr⊕ah6):=
 let ew:=x.1.1
 let ec:=(x.1.2.2).1
 let eK:=x.1.2.2.2
 let AN:=x.2
 bif decide (ew<eK) then
  let Al:=List.getD ec (Int.toNat ew) (0,0,0,[],0,((0,0,[],[],()),(0,0,[],()),()),())
  bif jZ [decide (0≤ew),decide (ew<(↑(List.length ec):Int))] then
   let s_:=Al.1 != ew
   let CN:=zog Dm Al
   let hJ:=bif bif s_ then true else !CN.1 then true else decide (Al.2.2.2.2.1>(↑(List.length ((AN.2.2.2).1)):Int))
   bif jZ [!!s_ || isSm (Dm Al)] then
    bif hJ then
     some (.inr (.inl (false,())))
    else
     some (.inl (((IntKind.wrap .i64 (ew+1)),(),ec,eK),AN))
   else none
  else none
 else
  some (.inr (.inr ((),AN)))
def Wh.abn:(((Bool))×(Unit))⊕(((Unit))×((bV.D))):=.inl default
def Wh.q93 (xs:(bV.D)):Option (((Bool))×(Unit)):=
 let w_0:=xs
 let r_1:=zog q52 w_0.1
 let nG:=bif bif !r_1.1 then true else(↑(List.length w_0.2.1):Int) != 4 then true else decide ((↑(List.length (w_0.2.2.1)):Int)>60)
 bif jZ [isSm (q52 w_0.1)] then
  bif nG then
   some (false,())
  else
   let sn:Int:=(↑(List.length w_0.2.1):Int)
   let He:Vr:=((0,(),w_0.2.1,sn),w_0)
   bif pY FA He then
    sumC (oa FA abn He) (fun Hl=>
     let vc:=Hl.1
     some (vc,())) (fun I5=>
     let r_:=I5.2
     let wD:Int:=(↑(List.length (r_.2.2.1)):Int)
     let x_60:Vs:=((0,r_.2.2.1,(),wD),r_)
     bif pY FB x_60 then
      sumC (oa FB abo x_60) (fun y_61=>
       let v_63:=y_61.1
       some (v_63,())) (fun z_62=>
       let S4:=z_62.2
       let v_65:Int:=(↑(List.length ((S4.2.2.2).1)):Int)
       let x_88:Vt:=((0,(S4.2.2.2).1,(),v_65),S4)
       bif pY FC x_88 then
        sumC (oa FC abp x_88) (fun y_89=>
         let v_91:=y_89.1
         some (v_91,())) (fun z_90=>
         let EB:=z_90.2
         bif(!EB.1.1) then
          bz Ee ((EB.1.2.2).1) fun r_94=>
           bz E3 r_94.1.1 fun r_95=>
            let G9:Int:=(↑(List.length ((EB.2.2.2).1)):Int)
            bz eo (r_95.1.1.1,G9,IntKind.wrap .i64 (G9+1)) fun r_99=>
             bif !r_99.1 then
              some (false,())
             else
              let v_100:Int:=(↑(List.length ((r_95.1.1.2).1)):Int)
              let x_123:Vu:=((0,(),(),v_100),EB,(r_95.1.1.2).1)
              bif pY FD x_123 then
               sumC (oa FD abq x_123) (fun y_124=>
                let v_126:=y_124.1
                some (v_126,())) (fun _=>
                some (true,()))
              else none
         else
          let v_127:Int:=(↑(List.length ((EB.2.2.2).1)):Int)
          bz eo ((EB.1.2.2.2.1).1,v_127,IntKind.wrap .i64 (v_127+0)) fun r_130=>
           bif !r_130.1 then
            some (false,())
           else
            let FH:Int:=(↑(List.length ((EB.1.2.2.2.1).2.1)):Int)
            let x_154:Vv:=((0,(),(EB.1.2.2.2.1).2.1,FH),EB)
            bif pY FE x_154 then
             sumC (oa FE abr x_154) (fun y_155=>
              let v_157:=y_155.1
              some (v_157,())) (fun _=>
              some (true,()))
            else none)
       else none)
     else none)
   else none
 else none
abbrev Wh.Vn:Type:=((Int)×(List UInt8)×(Unit)×(Int))×((fk.D))
abbrev Wh.ah2:Type:=((((Unit)×(List UInt8))×((fk.D))))
def Wh.IE (x:Vn):Option (Vn⊕ah2):=
 let zD:=x.1.1
 let Tp:=x.1.2.1
 let Ac:=x.1.2.2.2
 let kS:=x.2
 bif decide (zD<Ac) then
  bz Ff (kS.2.1,zD) fun Eg=>
   let jg:List UInt8:=Tp++Eg.1.1
   bif jZ [decide (List.length Tp+List.length Eg.1.1≤eD)] then
    some (.inl (((IntKind.wrap .i64 (zD+1)),jg,(),Ac),kS))
   else none
 else
  some (.inr (((),Tp),kS))
def Wh.abj:(((Unit)×(List UInt8))×((fk.D))):=default
def Wh.q88 (xs:(fk.D)):Option (((List UInt8))×(Unit)):=
 let lg:=xs
 bz D4 lg fun r_1=>
  bif !r_1.1 then
   some ([],())
  else
   bz GW lg.2.1 fun r_2=>
    let x_19:Vn:=((0,[],(),r_2.1),lg)
    bif pY IE x_19 then
     let Hi:=oa IE abj x_19
     let O7:=Hi.1.2
     let A8:=Hi.2
     let AA:Int:=if A8.1.1<(↑(List.length O7):Int) then A8.1.1 else(↑(List.length O7):Int)
     let AB:List UInt8:=List.take (Int.toNat (AA-0)) (List.drop (Int.toNat 0) O7)
     bif jZ [true,decide (0≤AA),decide (AA≤(↑(List.length O7):Int))] then
      some (AB,())
     else none
    else none
def Wh.Eb (xs:(b9.D)):Option (((List UInt8))×(Unit)):=
 let bt:=xs
 let r_1:=zog Dm bt
 let v_2:=bif !r_1.1 then true else bt.2.2.2.2.1==0
 bif jZ [isSm (Dm bt)] then
  bif v_2 then
   some ([],())
  else
   bz q88 ((bt.2.2.2.2.2).1) fun r_3=>
    some (r_3.1,())
 else none
abbrev Wh.Pe:Type:=((Int)×(Unit)×(List UInt8)×(List (b9.D))×(Unit)×(Int))×((bV.D))
abbrev Wh.ahc:Type:=((((Unit)×(Unit)×(List UInt8))×((bV.D))))
def Wh.De (x:Pe):Option (Pe⊕ahc):=
 let G3:=x.1.1
 let Tq:=(x.1.2.2).1
 let JQ:=x.1.2.2.2.1
 let Lr:=(x.1.2.2.2.2).2
 let SP:=x.2
 bif decide (G3<Lr) then
  let A9:=List.getD JQ (Int.toNat G3) (0,0,0,[],0,((0,0,[],[],()),(0,0,[],()),()),())
  bif jZ [decide (0≤G3),decide (G3<(↑(List.length JQ):Int))] then
   let IG:=zog Wh.strconv_Itoa A9.1
   let FH:=List.getD FV (Int.toNat (A9.2.2.1)) []
   let Vz:=zog Wh.strconv_Itoa A9.2.1
   let O5:List UInt8:=Tq++([(99:UInt8),(108:UInt8),(105:UInt8),(101:UInt8),(110:UInt8),(116:UInt8),(32:UInt8)]++IG.1 ++ [(32:UInt8)]++FH ++ [(44:UInt8),(32:UInt8),(116:UInt8),(114:UInt8),(121:UInt8),(32:UInt8)]++Vz.1)
   bif jZ [decide (List.length Tq+List.length ([(99:UInt8),(108:UInt8),(105:UInt8),(101:UInt8),(110:UInt8),(116:UInt8),(32:UInt8)]++IG.1 ++ [(32:UInt8)]++FH ++ [(44:UInt8),(32:UInt8),(116:UInt8),(114:UInt8),(121:UInt8),(32:UInt8)]++Vz.1)≤eD),decide (List.length ([(99:UInt8),(108:UInt8),(105:UInt8),(101:UInt8),(110:UInt8),(116:UInt8),(32:UInt8)]++IG.1 ++ [(32:UInt8)]++FH ++ [(44:UInt8),(32:UInt8),(116:UInt8),(114:UInt8),(121:UInt8),(32:UInt8)])+List.length Vz.1≤eD),isSm (Wh.strconv_Itoa A9.2.1),decide (List.length ([(99:UInt8),(108:UInt8),(105:UInt8),(101:UInt8),(110:UInt8),(116:UInt8),(32:UInt8)]++IG.1 ++ [(32:UInt8)]++FH)+(6:Nat)≤eD),decide (List.length ([(99:UInt8),(108:UInt8),(105:UInt8),(101:UInt8),(110:UInt8),(116:UInt8),(32:UInt8)]++IG.1 ++ [(32:UInt8)])+List.length FH≤eD),decide (0≤A9.2.2.1),decide (A9.2.2.1<(↑(List.length FV):Int)),decide (List.length ([(99:UInt8),(108:UInt8),(105:UInt8),(101:UInt8),(110:UInt8),(116:UInt8),(32:UInt8)]++IG.1)+(1:Nat)≤eD),decide ((7:Nat)+List.length IG.1≤eD),isSm (Wh.strconv_Itoa A9.1)] then
    bif decide (A9.2.2.2.2.1>0) then
     let G5:List UInt8:=[(44:UInt8),(32:UInt8)]++(A9.2.2.2).1
     let II:=zog Wh.strconv_Itoa (A9.2.2.2.2.1)
     let JK:=zog Eb A9
     let VB:=zog Wh.strconv_Itoa ((A9.2.2.2.2.2).1.1.1)
     let r_156:=zog Wh.strconv_Itoa (↑(List.length JK.1):Int)
     let JB:List UInt8:=O5++(G5 ++ [(32:UInt8),(101:UInt8),(100:UInt8),(105:UInt8),(116:UInt8),(105:UInt8),(111:UInt8),(110:UInt8),(32:UInt8)]++II.1 ++ [(44:UInt8),(32:UInt8),(107:UInt8),(110:UInt8),(111:UInt8),(119:UInt8),(115:UInt8),(32:UInt8)]++r_156.1 ++ [(32:UInt8),(111:UInt8),(102:UInt8),(32:UInt8)]++VB.1)
     bif jZ [decide (List.length O5+List.length (G5 ++ [(32:UInt8),(101:UInt8),(100:UInt8),(105:UInt8),(116:UInt8),(105:UInt8),(111:UInt8),(110:UInt8),(32:UInt8)]++II.1 ++ [(44:UInt8),(32:UInt8),(107:UInt8),(110:UInt8),(111:UInt8),(119:UInt8),(115:UInt8),(32:UInt8)]++(zog Wh.strconv_Itoa (↑(List.length JK.1):Int)).1 ++ [(32:UInt8),(111:UInt8),(102:UInt8),(32:UInt8)]++VB.1)≤eD),decide (List.length (G5 ++ [(32:UInt8),(101:UInt8),(100:UInt8),(105:UInt8),(116:UInt8),(105:UInt8),(111:UInt8),(110:UInt8),(32:UInt8)]++II.1 ++ [(44:UInt8),(32:UInt8),(107:UInt8),(110:UInt8),(111:UInt8),(119:UInt8),(115:UInt8),(32:UInt8)]++(zog Wh.strconv_Itoa (↑(List.length JK.1):Int)).1 ++ [(32:UInt8),(111:UInt8),(102:UInt8),(32:UInt8)])+List.length VB.1≤eD),isSm (Wh.strconv_Itoa ((A9.2.2.2.2.2).1.1.1)),decide (List.length (G5 ++ [(32:UInt8),(101:UInt8),(100:UInt8),(105:UInt8),(116:UInt8),(105:UInt8),(111:UInt8),(110:UInt8),(32:UInt8)]++II.1 ++ [(44:UInt8),(32:UInt8),(107:UInt8),(110:UInt8),(111:UInt8),(119:UInt8),(115:UInt8),(32:UInt8)]++(zog Wh.strconv_Itoa (↑(List.length JK.1):Int)).1)+(4:Nat)≤eD),decide (List.length (G5 ++ [(32:UInt8),(101:UInt8),(100:UInt8),(105:UInt8),(116:UInt8),(105:UInt8),(111:UInt8),(110:UInt8),(32:UInt8)]++II.1 ++ [(44:UInt8),(32:UInt8),(107:UInt8),(110:UInt8),(111:UInt8),(119:UInt8),(115:UInt8),(32:UInt8)])+List.length ((zog Wh.strconv_Itoa (↑(List.length JK.1):Int)).1)≤eD),isSm (Wh.strconv_Itoa (↑(List.length JK.1):Int)),isSm (Eb A9),decide (List.length (G5 ++ [(32:UInt8),(101:UInt8),(100:UInt8),(105:UInt8),(116:UInt8),(105:UInt8),(111:UInt8),(110:UInt8),(32:UInt8)]++II.1)+(8:Nat)≤eD),decide (List.length (G5 ++ [(32:UInt8),(101:UInt8),(100:UInt8),(105:UInt8),(116:UInt8),(105:UInt8),(111:UInt8),(110:UInt8),(32:UInt8)])+List.length II.1≤eD),isSm (Wh.strconv_Itoa (A9.2.2.2.2.1)),decide (List.length G5+(9:Nat)≤eD),decide ((2:Nat)+List.length ((A9.2.2.2).1)≤eD)] then
      let v_158:List UInt8:=JB ++ [(10:UInt8)]
      bif jZ [decide (List.length JB+(1:Nat)≤eD)] then
       some (.inl (((IntKind.wrap .i64 (G3+1)),(),v_158,JQ,(),Lr),SP))
      else none
     else none
    else
     let v_160:List UInt8:=O5 ++ [(10:UInt8)]
     bif jZ [decide (List.length O5+(1:Nat)≤eD)] then
      some (.inl (((IntKind.wrap .i64 (G3+1)),(),v_160,JQ,(),Lr),SP))
     else none
   else none
  else none
 else
  some (.inr (((),(),Tq),SP))
def Wh.Ur:(((Unit)×(Unit)×(List UInt8))×((bV.D))):=default
abbrev Wh.Pd:Type:=((Int)×(Unit)×(List UInt8)×(List (bn.D))×(Unit)×(Int))×((bV.D))
abbrev Wh.ahb:Type:=((((Unit)×(List UInt8)×(Unit))×((bV.D))))
def Wh.Dd (x:Pd):Option (Pd⊕ahb):=
 let Bz:=x.1.1
 let HP:=(x.1.2.2).1
 let wJ:=x.1.2.2.2.1
 let FM:=(x.1.2.2.2.2).2
 let OR:=x.2
 bif decide (Bz<FM) then
  let Ce:bn.D:=List.getD wJ (Int.toNat Bz) (0,[],0,[],())
  bif jZ [decide (0≤Bz),decide (Bz<(↑(List.length wJ):Int))] then
   let z7:=zog Wh.strconv_Itoa Ce.1
   let CS:=zog Wh.strconv_Itoa (Ce.2.2.1)
   let CV:Int:=(↑(List.length ((Ce.2.2.2).1)):Int)
   let r_72:=zog Wh.strconv_Itoa CV
   let out_73:List UInt8:=HP++([(32:UInt8),(32:UInt8),(104:UInt8),(111:UInt8),(117:UInt8),(115:UInt8),(101:UInt8),(32:UInt8)]++z7.1 ++ [(32:UInt8)]++Ce.2.1 ++ [(32:UInt8),(101:UInt8),(100:UInt8),(105:UInt8),(116:UInt8),(105:UInt8),(111:UInt8),(110:UInt8),(32:UInt8)]++CS.1 ++ [(44:UInt8),(32:UInt8)]++r_72.1 ++ [(32:UInt8),(98:UInt8),(121:UInt8),(116:UInt8),(101:UInt8),(115:UInt8),(10:UInt8)])
   bif jZ [decide (List.length HP+List.length ([(32:UInt8),(32:UInt8),(104:UInt8),(111:UInt8),(117:UInt8),(115:UInt8),(101:UInt8),(32:UInt8)]++z7.1 ++ [(32:UInt8)]++Ce.2.1 ++ [(32:UInt8),(101:UInt8),(100:UInt8),(105:UInt8),(116:UInt8),(105:UInt8),(111:UInt8),(110:UInt8),(32:UInt8)]++CS.1 ++ [(44:UInt8),(32:UInt8)]++(zog Wh.strconv_Itoa CV).1 ++ [(32:UInt8),(98:UInt8),(121:UInt8),(116:UInt8),(101:UInt8),(115:UInt8),(10:UInt8)])≤eD),decide (List.length ([(32:UInt8),(32:UInt8),(104:UInt8),(111:UInt8),(117:UInt8),(115:UInt8),(101:UInt8),(32:UInt8)]++z7.1 ++ [(32:UInt8)]++Ce.2.1 ++ [(32:UInt8),(101:UInt8),(100:UInt8),(105:UInt8),(116:UInt8),(105:UInt8),(111:UInt8),(110:UInt8),(32:UInt8)]++CS.1 ++ [(44:UInt8),(32:UInt8)]++(zog Wh.strconv_Itoa CV).1)+(7:Nat)≤eD),decide (List.length ([(32:UInt8),(32:UInt8),(104:UInt8),(111:UInt8),(117:UInt8),(115:UInt8),(101:UInt8),(32:UInt8)]++z7.1 ++ [(32:UInt8)]++Ce.2.1 ++ [(32:UInt8),(101:UInt8),(100:UInt8),(105:UInt8),(116:UInt8),(105:UInt8),(111:UInt8),(110:UInt8),(32:UInt8)]++CS.1 ++ [(44:UInt8),(32:UInt8)])+List.length ((zog Wh.strconv_Itoa CV).1)≤eD),isSm (Wh.strconv_Itoa CV),decide (List.length ([(32:UInt8),(32:UInt8),(104:UInt8),(111:UInt8),(117:UInt8),(115:UInt8),(101:UInt8),(32:UInt8)]++z7.1 ++ [(32:UInt8)]++Ce.2.1 ++ [(32:UInt8),(101:UInt8),(100:UInt8),(105:UInt8),(116:UInt8),(105:UInt8),(111:UInt8),(110:UInt8),(32:UInt8)]++CS.1)+(2:Nat)≤eD),decide (List.length ([(32:UInt8),(32:UInt8),(104:UInt8),(111:UInt8),(117:UInt8),(115:UInt8),(101:UInt8),(32:UInt8)]++z7.1 ++ [(32:UInt8)]++Ce.2.1 ++ [(32:UInt8),(101:UInt8),(100:UInt8),(105:UInt8),(116:UInt8),(105:UInt8),(111:UInt8),(110:UInt8),(32:UInt8)])+List.length CS.1≤eD),isSm (Wh.strconv_Itoa (Ce.2.2.1)),decide (List.length ([(32:UInt8),(32:UInt8),(104:UInt8),(111:UInt8),(117:UInt8),(115:UInt8),(101:UInt8),(32:UInt8)]++z7.1 ++ [(32:UInt8)]++Ce.2.1)+(9:Nat)≤eD),decide (List.length ([(32:UInt8),(32:UInt8),(104:UInt8),(111:UInt8),(117:UInt8),(115:UInt8),(101:UInt8),(32:UInt8)]++z7.1 ++ [(32:UInt8)])+List.length Ce.2.1≤eD),decide (List.length ([(32:UInt8),(32:UInt8),(104:UInt8),(111:UInt8),(117:UInt8),(115:UInt8),(101:UInt8),(32:UInt8)]++z7.1)+(1:Nat)≤eD),decide ((8:Nat)+List.length z7.1≤eD),isSm (Wh.strconv_Itoa Ce.1)] then
    some (.inl (((IntKind.wrap .i64 (Bz+1)),(),out_73,wJ,(),FM),OR))
   else none
  else none
 else
  some (.inr (((),HP,()),OR))
def Wh.Uq:(((Unit)×(List UInt8)×(Unit))×((bV.D))):=default
def Wh.q16 (xs:(bV.D)):Option (((List UInt8))×(Unit)):=
 let w_0:=xs
 bif w_0.1.1 then
  let v_1:Int:=(↑(List.length ((w_0.1.2.2.2.1).2.1)):Int)
  let Ap:=zog Wh.strconv_Itoa ((w_0.1.2.2.2.1).1)
  let nS:Int:=(↑(List.length ((w_0.1.2.2.2.2).2.2.1)):Int)
  let y3:=zog Wh.strconv_Itoa v_1
  let AX:=zog Wh.strconv_Itoa nS
  let out_22:List UInt8:=[(115:UInt8),(101:UInt8),(114:UInt8),(118:UInt8),(101:UInt8),(114:UInt8),(32:UInt8),(117:UInt8),(112:UInt8),(44:UInt8),(32:UInt8)]++y3.1 ++ [(32:UInt8),(116:UInt8),(104:UInt8),(105:UInt8),(110:UInt8),(103:UInt8),(115:UInt8),(32:UInt8),(111:UInt8),(102:UInt8),(32:UInt8)]++Ap.1 ++ [(44:UInt8),(32:UInt8)]++AX.1 ++ [(32:UInt8),(116:UInt8),(111:UInt8),(108:UInt8),(100:UInt8),(10:UInt8)]
  bif jZ [decide (List.length ([(115:UInt8),(101:UInt8),(114:UInt8),(118:UInt8),(101:UInt8),(114:UInt8),(32:UInt8),(117:UInt8),(112:UInt8),(44:UInt8),(32:UInt8)]++(zog Wh.strconv_Itoa v_1).1 ++ [(32:UInt8),(116:UInt8),(104:UInt8),(105:UInt8),(110:UInt8),(103:UInt8),(115:UInt8),(32:UInt8),(111:UInt8),(102:UInt8),(32:UInt8)]++Ap.1 ++ [(44:UInt8),(32:UInt8)]++(zog Wh.strconv_Itoa nS).1)+(6:Nat)≤eD),decide (List.length ([(115:UInt8),(101:UInt8),(114:UInt8),(118:UInt8),(101:UInt8),(114:UInt8),(32:UInt8),(117:UInt8),(112:UInt8),(44:UInt8),(32:UInt8)]++(zog Wh.strconv_Itoa v_1).1 ++ [(32:UInt8),(116:UInt8),(104:UInt8),(105:UInt8),(110:UInt8),(103:UInt8),(115:UInt8),(32:UInt8),(111:UInt8),(102:UInt8),(32:UInt8)]++Ap.1 ++ [(44:UInt8),(32:UInt8)])+List.length ((zog Wh.strconv_Itoa nS).1)≤eD),isSm (Wh.strconv_Itoa nS),decide (List.length ([(115:UInt8),(101:UInt8),(114:UInt8),(118:UInt8),(101:UInt8),(114:UInt8),(32:UInt8),(117:UInt8),(112:UInt8),(44:UInt8),(32:UInt8)]++(zog Wh.strconv_Itoa v_1).1 ++ [(32:UInt8),(116:UInt8),(104:UInt8),(105:UInt8),(110:UInt8),(103:UInt8),(115:UInt8),(32:UInt8),(111:UInt8),(102:UInt8),(32:UInt8)]++Ap.1)+(2:Nat)≤eD),decide (List.length ([(115:UInt8),(101:UInt8),(114:UInt8),(118:UInt8),(101:UInt8),(114:UInt8),(32:UInt8),(117:UInt8),(112:UInt8),(44:UInt8),(32:UInt8)]++(zog Wh.strconv_Itoa v_1).1 ++ [(32:UInt8),(116:UInt8),(104:UInt8),(105:UInt8),(110:UInt8),(103:UInt8),(115:UInt8),(32:UInt8),(111:UInt8),(102:UInt8),(32:UInt8)])+List.length Ap.1≤eD),isSm (Wh.strconv_Itoa ((w_0.1.2.2.2.1).1)),decide (List.length ([(115:UInt8),(101:UInt8),(114:UInt8),(118:UInt8),(101:UInt8),(114:UInt8),(32:UInt8),(117:UInt8),(112:UInt8),(44:UInt8),(32:UInt8)]++(zog Wh.strconv_Itoa v_1).1)+(11:Nat)≤eD),decide ((11:Nat)+List.length ((zog Wh.strconv_Itoa v_1).1)≤eD),isSm (Wh.strconv_Itoa v_1)] then
   let x_75:Pd:=((0,(),out_22,(w_0.1.2.2.2.1).2.1,(),v_1),w_0)
   bif pY Dd x_75 then
    let y_76:=oa Dd Uq x_75
    let out_77:=y_76.1.2.1
    let EA:=y_76.2
    let PW:Int:=(↑(List.length EA.2.1):Int)
    let x_162:Pe:=((0,(),out_77,EA.2.1,(),PW),EA)
    bif pY De x_162 then
     let y_163:=oa De Ur x_162
     let Tr:=y_163.1.2.2
     let SQ:=y_163.2
     let JR:Int:=(↑(List.length (SQ.2.2.1)):Int)
     let r_172:=zog Wh.strconv_Itoa JR
     let v_173:List UInt8:=Tr++r_172.1 ++ [(32:UInt8),(117:UInt8),(110:UInt8),(100:UInt8),(101:UInt8),(114:UInt8),(32:UInt8),(119:UInt8),(97:UInt8),(121:UInt8),(10:UInt8)]
     bif jZ [decide (List.length (Tr++(zog Wh.strconv_Itoa JR).1)+(11:Nat)≤eD),decide (List.length Tr+List.length ((zog Wh.strconv_Itoa JR).1)≤eD),isSm (Wh.strconv_Itoa JR)] then
      some (v_173,())
     else none
    else none
   else none
  else none
 else
  let v_174:Int:=(↑(List.length ((w_0.1.2.2.2.1).2.1)):Int)
  let x_175:Pd:=((0,(),[(115:UInt8),(101:UInt8),(114:UInt8),(118:UInt8),(101:UInt8),(114:UInt8),(32:UInt8),(100:UInt8),(111:UInt8),(119:UInt8),(110:UInt8),(10:UInt8)],(w_0.1.2.2.2.1).2.1,(),v_174),w_0)
  bif pY Dd x_175 then
   let y_176:=oa Dd Uq x_175
   let ago:=y_176.1.2.1
   let SR:=y_176.2
   let v_179:Int:=(↑(List.length SR.2.1):Int)
   let x_180:Pe:=((0,(),ago,SR.2.1,(),v_179),SR)
   bif pY De x_180 then
    let y_181:=oa De Ur x_180
    let Tt:=y_181.1.2.2
    let ls_183:=y_181.2
    let PN:Int:=(↑(List.length (ls_183.2.2.1)):Int)
    let r_190:=zog Wh.strconv_Itoa PN
    let v_191:List UInt8:=Tt++r_190.1 ++ [(32:UInt8),(117:UInt8),(110:UInt8),(100:UInt8),(101:UInt8),(114:UInt8),(32:UInt8),(119:UInt8),(97:UInt8),(121:UInt8),(10:UInt8)]
    bif jZ [decide (List.length (Tt++(zog Wh.strconv_Itoa PN).1)+(11:Nat)≤eD),decide (List.length Tt+List.length ((zog Wh.strconv_Itoa PN).1)≤eD),isSm (Wh.strconv_Itoa PN)] then
     some (v_191,())
    else none
   else none
  else none
def Wh.q23 (xs:(bV.D)):Option (((List UInt8))×(Unit)):=
 let w_0:=xs
 bz q93 w_0 fun r_1=>
  bif !r_1.1 then
   some ([],())
  else
   bz q16 w_0 fun r_2=>
    some (r_2.1,())
def Wh.Gi (xs:(bn.D)×(bn.D)):Option (((Bool))×(Unit)):=
 let bp:=xs.1
 let b_1:=xs.2
 bif(bp.1 != b_1.1) then
  some (false,())
 else
  bif(!bp.2.1==b_1.2.1) then
   some (false,())
  else
   bif(bp.2.2.1 != b_1.2.2.1) then
    some (false,())
   else
    bif(!(bp.2.2.2).1==(b_1.2.2.2).1) then
     some (false,())
    else
     some (true,())
abbrev Wh.Vw:Type:=((Int)×(List (bn.D))×(List (bn.D)))×(Unit)
abbrev Wh.aia:Type:=((((Bool))×(Unit))⊕((Unit)×(Unit)))
def Wh.IF (x:Vw):Option (Vw⊕aia):=
 let ct:=x.1.1
 let vO:=x.1.2.1
 let vN:=x.1.2.2
 let ew:Int:=(↑(List.length vN):Int)
 bif decide (ct<ew) then
  let eK:bn.D:=List.getD vN (Int.toNat ct) (0,[],0,[],())
  let gh:bn.D:=List.getD vO (Int.toNat ct) (0,[],0,[],())
  let nI:=zog Gi (eK,gh)
  bif jZ [isSm (Gi (eK,gh)),decide (0≤ct),decide (ct<(↑(List.length vO):Int)),decide (0≤ct),decide (ct<ew)] then
   bif !nI.1 then
    some (.inr (.inl (false,())))
   else
    some (.inl (((IntKind.wrap .i64 (ct+1)),vO,vN),()))
  else none
 else
  some (.inr (.inr ((),())))
def Wh.abt:(((Bool))×(Unit))⊕((Unit)×(Unit)):=.inl default
def Wh.q98 (xs:(List (bn.D))×(List (bn.D))):Option (((Bool))×(Unit)):=
 let bp:=xs.1
 let b_1:=xs.2
 let v_2:Int:=(↑(List.length bp):Int)
 let ia:Int:=(↑(List.length b_1):Int)
 let nG:=v_2 != ia
 bif nG then
  some (false,())
 else
  let x_25:Vw:=((0,b_1,bp),())
  bif pY IF x_25 then
   sumC (oa IF abt x_25) (fun zI=>
    let hJ:=zI.1
    some (hJ,())) (fun _=>
    some (true,()))
  else none
def Wh.Ii (xs:(bx.D)×(bx.D)):Option (((Bool))×(Unit)):=
 let bp:=xs.1
 let b_1:=xs.2
 bif(bp.1 != b_1.1) then
  some (false,())
 else
  bz q98 (bp.2.1,b_1.2.1) fun r_3=>
   bif !r_3.1 then
    some (false,())
   else
    some (true,())
def Wh.q97 (xs:(di.D)×(di.D)):Option (((Bool))×(Unit)):=
 let bp:=xs.1
 let b_1:=xs.2
 bif(bp.1 != b_1.1) then
  some (false,())
 else
  bif(bp.2.1 != b_1.2.1) then
   some (false,())
  else
   bif(bp.2.2.1 != b_1.2.2.1) then
    some (false,())
   else
    let sn:Bool:=(bp.2.2.2).1 != (b_1.2.2.2).1
    bif sn then
     some (false,())
    else
     bif(!bp.2.2.2.2.1==b_1.2.2.2.2.1) then
      some (false,())
     else
      some (true,())
abbrev Wh.U_:Type:=((Int)×(List (di.D))×(List (di.D)))×(Unit)
abbrev Wh.ahO:Type:=((((Bool))×(Unit))⊕((Unit)×(Unit)))
def Wh.IA (x:U_):Option (U_⊕ahO):=
 let ct:=x.1.1
 let vO:=x.1.2.1
 let vN:=x.1.2.2
 let ew:Int:=(↑(List.length vN):Int)
 bif decide (ct<ew) then
  let eK:di.D:=List.getD vN (Int.toNat ct) (0,0,0,0,false,())
  let gh:di.D:=List.getD vO (Int.toNat ct) (0,0,0,0,false,())
  let nI:=zog q97 (eK,gh)
  bif jZ [isSm (q97 (eK,gh)),decide (0≤ct),decide (ct<(↑(List.length vO):Int)),decide (0≤ct),decide (ct<ew)] then
   bif !nI.1 then
    some (.inr (.inl (false,())))
   else
    some (.inl (((IntKind.wrap .i64 (ct+1)),vO,vN),()))
  else none
 else
  some (.inr (.inr ((),())))
def Wh.aa6:(((Bool))×(Unit))⊕((Unit)×(Unit)):=.inl default
def Wh.q60 (xs:(List (di.D))×(List (di.D))):Option (((Bool))×(Unit)):=
 let bp:=xs.1
 let b_1:=xs.2
 let v_2:Int:=(↑(List.length bp):Int)
 let ia:Int:=(↑(List.length b_1):Int)
 let nG:=v_2 != ia
 bif nG then
  some (false,())
 else
  let x_25:U_:=((0,b_1,bp),())
  bif pY IA x_25 then
   sumC (oa IA aa6 x_25) (fun zI=>
    let hJ:=zI.1
    some (hJ,())) (fun _=>
    some (true,()))
  else none
def Wh.H8 (xs:(eI.D)×(eI.D)):Option (((Bool))×(Unit)):=
 let bp:=xs.1
 let b_1:=xs.2
 bz q60 (bp.1,b_1.1) fun r_2=>
  bif !r_2.1 then
   some (false,())
  else
   bif(bp.2.1 != b_1.2.1) then
    some (false,())
   else
    some (true,())
def Wh.q58 (xs:(ek.D)×(ek.D)):Option (((Bool))×(Unit)):=
 let bp:=xs.1
 let b_1:=xs.2
 bif(bp.1 != b_1.1) then
  some (false,())
 else
  bif(bp.2.1 != b_1.2.1) then
   some (false,())
  else
   bif(bp.2.2.1 != b_1.2.2.1) then
    some (false,())
   else
    let sn:Bool:=(bp.2.2.2).1 != (b_1.2.2.2).1
    bif sn then
     some (false,())
    else
     some (true,())
abbrev Wh.UL:Type:=((Int)×(List (ek.D))×(List (ek.D)))×(Unit)
abbrev Wh.ahs:Type:=((((Bool))×(Unit))⊕((Unit)×(Unit)))
def Wh.Iv (x:UL):Option (UL⊕ahs):=
 let ct:=x.1.1
 let vO:=x.1.2.1
 let vN:=x.1.2.2
 let ew:Int:=(↑(List.length vN):Int)
 bif decide (ct<ew) then
  let eK:ek.D:=List.getD vN (Int.toNat ct) (0,0,0,0,())
  let gh:ek.D:=List.getD vO (Int.toNat ct) (0,0,0,0,())
  let nI:=zog q58 (eK,gh)
  bif jZ [isSm (q58 (eK,gh)),decide (0≤ct),decide (ct<(↑(List.length vO):Int)),decide (0≤ct),decide (ct<ew)] then
   bif !nI.1 then
    some (.inr (.inl (false,())))
   else
    some (.inl (((IntKind.wrap .i64 (ct+1)),vO,vN),()))
  else none
 else
  some (.inr (.inr ((),())))
def Wh.aaK:(((Bool))×(Unit))⊕((Unit)×(Unit)):=.inl default
def Wh.q31 (xs:(List (ek.D))×(List (ek.D))):Option (((Bool))×(Unit)):=
 let bp:=xs.1
 let b_1:=xs.2
 let v_2:Int:=(↑(List.length bp):Int)
 let ia:Int:=(↑(List.length b_1):Int)
 let nG:=v_2 != ia
 bif nG then
  some (false,())
 else
  let x_25:UL:=((0,b_1,bp),())
  bif pY Iv x_25 then
   sumC (oa Iv aaK x_25) (fun zI=>
    let hJ:=zI.1
    some (hJ,())) (fun _=>
    some (true,()))
  else none
def Wh.q99 (xs:(e_.D)×(e_.D)):Option (((Bool))×(Unit)):=
 let bp:=xs.1
 let b_1:=xs.2
 bif(bp.1 != b_1.1) then
  some (false,())
 else
  bif(bp.2.1 != b_1.2.1) then
   some (false,())
  else
   bif(bp.2.2.1 != b_1.2.2.1) then
    some (false,())
   else
    let sn:Bool:=(bp.2.2.2).1 != (b_1.2.2.2).1
    bif sn then
     some (false,())
    else
     bif(bp.2.2.2.2.1 != b_1.2.2.2.2.1) then
      some (false,())
     else
      let ic:Bool:=(bp.2.2.2.2.2).1 != (b_1.2.2.2.2.2).1
      bif ic then
       some (false,())
      else
       some (true,())
abbrev Wh.Va:Type:=((Int)×(List (e_.D))×(List (e_.D)))×(Unit)
abbrev Wh.ahP:Type:=((((Bool))×(Unit))⊕((Unit)×(Unit)))
def Wh.IB (x:Va):Option (Va⊕ahP):=
 let ct:=x.1.1
 let vO:=x.1.2.1
 let vN:=x.1.2.2
 let ew:Int:=(↑(List.length vN):Int)
 bif decide (ct<ew) then
  let eK:e_.D:=List.getD vN (Int.toNat ct) (0,0,0,0,0,0,())
  let gh:e_.D:=List.getD vO (Int.toNat ct) (0,0,0,0,0,0,())
  let nI:=zog q99 (eK,gh)
  bif jZ [isSm (q99 (eK,gh)),decide (0≤ct),decide (ct<(↑(List.length vO):Int)),decide (0≤ct),decide (ct<ew)] then
   bif !nI.1 then
    some (.inr (.inl (false,())))
   else
    some (.inl (((IntKind.wrap .i64 (ct+1)),vO,vN),()))
  else none
 else
  some (.inr (.inr ((),())))
def Wh.aa7:(((Bool))×(Unit))⊕((Unit)×(Unit)):=.inl default
def Wh.q62 (xs:(List (e_.D))×(List (e_.D))):Option (((Bool))×(Unit)):=
 let bp:=xs.1
 let b_1:=xs.2
 let v_2:Int:=(↑(List.length bp):Int)
 let ia:Int:=(↑(List.length b_1):Int)
 let nG:=v_2 != ia
 bif nG then
  some (false,())
 else
  let x_25:Va:=((0,b_1,bp),())
  bif pY IB x_25 then
   sumC (oa IB aa7 x_25) (fun zI=>
    let hJ:=zI.1
    some (hJ,())) (fun _=>
    some (true,()))
  else none
def Wh.q63 (xs:(dj.D)×(dj.D)):Option (((Bool))×(Unit)):=
 let bp:=xs.1
 let b_1:=xs.2
 bif(!bp.1==b_1.1) then
  some (false,())
 else
  bif(bp.2.1 != b_1.2.1) then
   some (false,())
  else
   bif(!bp.2.2.1==b_1.2.2.1) then
    some (false,())
   else
    bz Ii ((bp.2.2.2).1,(b_1.2.2.2).1) fun k8=>
     bif !k8.1 then
      some (false,())
     else
      bz H8 (bp.2.2.2.2.1,b_1.2.2.2.2.1) fun wo=>
       bif !wo.1 then
        some (false,())
       else
        bz q31 ((bp.2.2.2.2.2).1,(b_1.2.2.2.2.2).1) fun Ap=>
         bif !Ap.1 then
          some (false,())
         else
          bz q62 ((bp.2.2.2.2.2).2.1,(b_1.2.2.2.2.2).2.1) fun qj=>
           bif !qj.1 then
            some (false,())
           else
            some (true,())
abbrev Wh.TZ:Type:=((Int)×(List (Int))×(List (Int)))×(Unit)
abbrev Wh.agN:Type:=((((Bool))×(Unit))⊕((Unit)×(Unit)))
def Wh.H6 (x:TZ):Option (TZ⊕agN):=
 let Bk:=x.1.1
 let b_12:=x.1.2.1
 let ng:=x.1.2.2
 let fj:=decide (Bk<(↑(List.length ng):Int))
 bif fj then
  let iL:=List.getD ng (Int.toNat Bk) 0
  let fN:=List.getD b_12 (Int.toNat Bk) 0
  let jg:=iL != fN
  bif jZ [decide (0≤Bk),decide (Bk<(↑(List.length b_12):Int)),decide (0≤Bk),fj] then
   bif jg then
    some (.inr (.inl (false,())))
   else
    some (.inl (((IntKind.wrap .i64 (Bk+1)),b_12,ng),()))
  else none
 else
  some (.inr (.inr ((),())))
def Wh.Z8:(((Bool))×(Unit))⊕((Unit)×(Unit)):=.inl default
def Wh.ER (xs:(List (Int))×(List (Int))):Option (((Bool))×(Unit)):=
 let bp:=xs.1
 let b_1:=xs.2
 let v_2:Bool:=(↑(List.length bp):Int) != (↑(List.length b_1):Int)
 bif v_2 then
  some (false,())
 else
  let x_19:TZ:=((0,b_1,bp),())
  bif pY H6 x_19 then
   sumC (oa H6 Z8 x_19) (fun Hi=>
    let wv:=Hi.1
    some (wv,())) (fun _=>
    some (true,()))
  else none
def Wh.H7 (xs:(fe.D)×(fe.D)):Option (((Bool))×(Unit)):=
 let bp:=xs.1
 let b_1:=xs.2
 bif(bp.1 != b_1.1) then
  some (false,())
 else
  bif(bp.2.1 != b_1.2.1) then
   some (false,())
  else
   bz ER (bp.2.2.1,b_1.2.2.1) fun dm=>
    bif !dm.1 then
     some (false,())
    else
     bz ER ((bp.2.2.2).1,(b_1.2.2.2).1) fun k8=>
      bif !k8.1 then
       some (false,())
      else
       some (true,())
def Wh.GC (xs:(er.D)×(er.D)):Option (((Bool))×(Unit)):=
 let bp:=xs.1
 let b_1:=xs.2
 bz ER (bp.1,b_1.1) fun r_2=>
  bif !r_2.1 then
   some (false,())
  else
   bif(!bp.2.1==b_1.2.1) then
    some (false,())
   else
    some (true,())
abbrev Wh.Ug:Type:=((Int)×(List (er.D))×(List (er.D)))×(Unit)
abbrev Wh.ag3:Type:=((((Bool))×(Unit))⊕((Unit)×(Unit)))
def Wh.Ik (x:Ug):Option (Ug⊕ag3):=
 let ct:=x.1.1
 let vO:=x.1.2.1
 let vN:=x.1.2.2
 let ew:Int:=(↑(List.length vN):Int)
 bif decide (ct<ew) then
  let eK:=List.getD vN (Int.toNat ct) ([],[],())
  let gh:=List.getD vO (Int.toNat ct) ([],[],())
  let nI:=zog GC (eK,gh)
  bif jZ [isSm (GC (eK,gh)),decide (0≤ct),decide (ct<(↑(List.length vO):Int)),decide (0≤ct),decide (ct<ew)] then
   bif !nI.1 then
    some (.inr (.inl (false,())))
   else
    some (.inl (((IntKind.wrap .i64 (ct+1)),vO,vN),()))
  else none
 else
  some (.inr (.inr ((),())))
def Wh.aan:(((Bool))×(Unit))⊕((Unit)×(Unit)):=.inl default
def Wh.Ij (xs:(List (er.D))×(List (er.D))):Option (((Bool))×(Unit)):=
 let bp:=xs.1
 let b_1:=xs.2
 let v_2:Int:=(↑(List.length bp):Int)
 let ia:Int:=(↑(List.length b_1):Int)
 let nG:=v_2 != ia
 bif nG then
  some (false,())
 else
  let x_25:Ug:=((0,b_1,bp),())
  bif pY Ik x_25 then
   sumC (oa Ik aan x_25) (fun zI=>
    let hJ:=zI.1
    some (hJ,())) (fun _=>
    some (true,()))
  else none
def Wh.q64 (xs:(b7.D)×(b7.D)):Option (((Bool))×(Unit)):=
 let bp:=xs.1
 let b_1:=xs.2
 bif(bp.1 != b_1.1) then
  some (false,())
 else
  bif(bp.2.1 != b_1.2.1) then
   some (false,())
  else
   bz Ij (bp.2.2.1,b_1.2.2.1) fun dm=>
    bif !dm.1 then
     some (false,())
    else
     some (true,())
def Wh.q33 (xs:(fk.D)×(fk.D)):Option (((Bool))×(Unit)):=
 let bp:=xs.1
 let b_1:=xs.2
 bz H7 (bp.1,b_1.1) fun r_2=>
  bif !r_2.1 then
   some (false,())
  else
   bz q64 (bp.2.1,b_1.2.1) fun r_3=>
    bif !r_3.1 then
     some (false,())
    else
     some (true,())
def Wh.q59 (xs:(b9.D)×(b9.D)):Option (((Bool))×(Unit)):=
 let bp:=xs.1
 let b_1:=xs.2
 bif(bp.1 != b_1.1) then
  some (false,())
 else
  bif(bp.2.1 != b_1.2.1) then
   some (false,())
  else
   bif(bp.2.2.1 != b_1.2.2.1) then
    some (false,())
   else
    bif(!(bp.2.2.2).1==(b_1.2.2.2).1) then
     some (false,())
    else
     bif(bp.2.2.2.2.1 != b_1.2.2.2.2.1) then
      some (false,())
     else
      bz q33 ((bp.2.2.2.2.2).1,(b_1.2.2.2.2.2).1) fun Ap=>
       bif !Ap.1 then
        some (false,())
       else
        some (true,())
abbrev Wh.UM:Type:=((Int)×(List (b9.D))×(List (b9.D)))×(Unit)
abbrev Wh.aht:Type:=((((Bool))×(Unit))⊕((Unit)×(Unit)))
def Wh.Iw (x:UM):Option (UM⊕aht):=
 let ct:=x.1.1
 let vO:=x.1.2.1
 let vN:=x.1.2.2
 let ew:Int:=(↑(List.length vN):Int)
 bif decide (ct<ew) then
  let eK:=List.getD vN (Int.toNat ct) (0,0,0,[],0,((0,0,[],[],()),(0,0,[],()),()),())
  let gh:=List.getD vO (Int.toNat ct) (0,0,0,[],0,((0,0,[],[],()),(0,0,[],()),()),())
  let nI:=zog q59 (eK,gh)
  bif jZ [isSm (q59 (eK,gh)),decide (0≤ct),decide (ct<(↑(List.length vO):Int)),decide (0≤ct),decide (ct<ew)] then
   bif !nI.1 then
    some (.inr (.inl (false,())))
   else
    some (.inl (((IntKind.wrap .i64 (ct+1)),vO,vN),()))
  else none
 else
  some (.inr (.inr ((),())))
def Wh.aaL:(((Bool))×(Unit))⊕((Unit)×(Unit)):=.inl default
def Wh.q32 (xs:(List (b9.D))×(List (b9.D))):Option (((Bool))×(Unit)):=
 let bp:=xs.1
 let b_1:=xs.2
 let v_2:Int:=(↑(List.length bp):Int)
 let ia:Int:=(↑(List.length b_1):Int)
 let nG:=v_2 != ia
 bif nG then
  some (false,())
 else
  let x_25:UM:=((0,b_1,bp),())
  bif pY Iw x_25 then
   sumC (oa Iw aaL x_25) (fun zI=>
    let hJ:=zI.1
    some (hJ,())) (fun _=>
    some (true,()))
  else none
def Wh.q61 (xs:(eL.D)×(eL.D)):Option (((Bool))×(Unit)):=
 let bp:=xs.1
 let b_1:=xs.2
 bif(bp.1 != b_1.1) then
  some (false,())
 else
  bif(!bp.2.1==b_1.2.1) then
   some (false,())
  else
   bif(!bp.2.2.1==b_1.2.2.1) then
    some (false,())
   else
    some (true,())
abbrev Wh.UN:Type:=((Int)×(List (eL.D))×(List (eL.D)))×(Unit)
abbrev Wh.ahu:Type:=((((Bool))×(Unit))⊕((Unit)×(Unit)))
def Wh.Ix (x:UN):Option (UN⊕ahu):=
 let ct:=x.1.1
 let vO:=x.1.2.1
 let vN:=x.1.2.2
 let ew:Int:=(↑(List.length vN):Int)
 bif decide (ct<ew) then
  let eK:=List.getD vN (Int.toNat ct) (0,[],false,())
  let gh:=List.getD vO (Int.toNat ct) (0,[],false,())
  let nI:=zog q61 (eK,gh)
  bif jZ [isSm (q61 (eK,gh)),decide (0≤ct),decide (ct<(↑(List.length vO):Int)),decide (0≤ct),decide (ct<ew)] then
   bif !nI.1 then
    some (.inr (.inl (false,())))
   else
    some (.inl (((IntKind.wrap .i64 (ct+1)),vO,vN),()))
  else none
 else
  some (.inr (.inr ((),())))
def Wh.aaM:(((Bool))×(Unit))⊕((Unit)×(Unit)):=.inl default
def Wh.q34 (xs:(List (eL.D))×(List (eL.D))):Option (((Bool))×(Unit)):=
 let bp:=xs.1
 let b_1:=xs.2
 let v_2:Int:=(↑(List.length bp):Int)
 let ia:Int:=(↑(List.length b_1):Int)
 let nG:=v_2 != ia
 bif nG then
  some (false,())
 else
  let x_25:UN:=((0,b_1,bp),())
  bif pY Ix x_25 then
   sumC (oa Ix aaM x_25) (fun zI=>
    let hJ:=zI.1
    some (hJ,())) (fun _=>
    some (true,()))
  else none
def Wh.F8 (xs:(bV.D)×(bV.D)):Option (((Bool))×(Unit)):=
 let bp:=xs.1
 let b_1:=xs.2
 bz q63 (bp.1,b_1.1) fun r_2=>
  bif !r_2.1 then
   some (false,())
  else
   bz q32 (bp.2.1,b_1.2.1) fun r_3=>
    bif !r_3.1 then
     some (false,())
    else
     bz q34 (bp.2.2.1,b_1.2.2.1) fun dm=>
      bif !dm.1 then
       some (false,())
      else
       bz q98 ((bp.2.2.2).1,(b_1.2.2.2).1) fun k8=>
        bif !k8.1 then
         some (false,())
        else
         some (true,())
def Wh.q5 (xs:(bV.D)):Option (((Bool))×(Unit)):=
 let Kr:=xs
 bz HS (Kr,1048576) fun r_1=>
  bif decide (r_1.1<0) then
   some (true,())
  else
   let r_3:=zog DQ Kr
   let k8:=zog Dh r_3.1
   bif jZ [isSm (Dh r_3.1),isSm (DQ Kr)] then
    bif jZ [isSm (DQ Kr)] then
     bz q23 r_3.1 fun wo=>
      bif(!wo.1==k8.1) then
       some (false,())
      else
       let r_9:=zog F8 (r_3.1,r_3.1)
       bif jZ [isSm (F8 (r_3.1,r_3.1)),isSm (DQ Kr)] then
        bif !r_9.1 then
         some (false,())
        else
         some (true,())
       else none
    else none
   else none
end
