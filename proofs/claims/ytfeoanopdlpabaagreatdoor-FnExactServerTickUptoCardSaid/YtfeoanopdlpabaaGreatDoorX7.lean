import Derived.Test.YtfeoanopdlpabaaGreatDoorX6
set_option linter.defProp false
namespace Wh
end Wh
open Wh
open Go Go.Ab
noncomputable section
abbrev Wh.US:Type:=((Int)×(List (bx.D))×(Int))×(Unit)
abbrev Wh.aiQ:Type:=((((Int))×(Unit))⊕(((Int))×(Unit)))
def Wh.K3 (x:US):Option (US⊕aiQ):=
 let Aw:=x.1.1
 let Jw:=x.1.2.1
 let JT:=x.1.2.2
 let th:Int:=(↑(List.length Jw):Int)
 bif decide (Aw<th) then
  let s_:bx.D:=List.getD Jw (Int.toNat Aw) (0,0,0,0,0,0,())
  bif jZ [decide (0≤Aw),decide (Aw<th)] then
   bif(s_.1 != JT) then
    some (.inr (.inl (-1,())))
   else
    let nC:=IntKind.wrap .i64 (JT+1)
    bif jZ [decide (0≤Aw),decide (Aw<th)] then
     bif(s_.2.1 != nC) then
      some (.inr (.inl (-1,())))
     else
      let zG:=IntKind.wrap .i64 (nC+1)
      bif jZ [decide (0≤Aw),decide (Aw<th)] then
       bif(s_.2.2.1 != zG) then
        some (.inr (.inl (-1,())))
       else
        let Ba:=IntKind.wrap .i64 (zG+1)
        let Ch:Bool:=(s_.2.2.2).1 != Ba
        bif jZ [decide (0≤Aw),decide (Aw<th)] then
         bif Ch then
          some (.inr (.inl (-1,())))
         else
          let Bz:=IntKind.wrap .i64 (Ba+1)
          bif jZ [decide (0≤Aw),decide (Aw<th)] then
           bif(s_.2.2.2.2.1 != Bz) then
            some (.inr (.inl (-1,())))
           else
            let zL:=IntKind.wrap .i64 (Bz+1)
            let BU:Bool:=(s_.2.2.2.2.2).1 != zL
            bif jZ [decide (0≤Aw),decide (Aw<th)] then
             bif BU then
              some (.inr (.inl (-1,())))
             else
              some (.inl (((IntKind.wrap .i64 (Aw+1)),Jw,(IntKind.wrap .i64 (zL+1))),()))
            else none
          else none
        else none
      else none
    else none
  else none
 else
  some (.inr (.inr (JT,())))
def Wh.ab2:(((Int))×(Unit))⊕(((Int))×(Unit)):=.inl default
def Wh.q30 (xs:(List (bx.D))×(Int)):Option (((Int))×(Unit)):=
 let cx:=xs.1
 let k_1:=xs.2
 let Jr:US:=((0,cx,k_1),())
 bif pY K3 Jr then
  sumC (oa K3 ab2 Jr) (fun Nr=>
   let Ey:=Nr.1
   some (Ey,())) (fun z_42=>
   let k_44:=z_42.1
   some (k_44,()))
 else none
def Wh.q31 (xs:(eA.D)×(Int)):Option (((Int))×(Unit)):=
 let cx:=xs.1
 let k_1:=xs.2
 e_ Mo ((cx.2.2.2).1,k_1) fun r_2=>
  bif decide (r_2.1<0) then
   some (-1,())
  else
   e_ q74 (cx.2.2.2.2.1,r_2.1) fun eB=>
    bif decide (eB.1<0) then
     some (-1,())
    else
     e_ q22 ((cx.2.2.2.2.2).1,eB.1) fun AM=>
      bif decide (AM.1<0) then
       some (-1,())
      else
       e_ q30 ((cx.2.2.2.2.2).2.1,AM.1) fun Bt=>
        bif decide (Bt.1<0) then
         some (-1,())
        else
         some (Bt.1,())
abbrev Wh.T6:Type:=((Int)×(Unit)×(List (Int))×(Int))×((gv.D))
abbrev Wh.ah8:Type:=((((Bool))×(Unit))⊕((Unit)×(Unit)))
def Wh.FA (x:T6):Option (T6⊕ah8):=
 let Ak:=x.1.1
 let zL:=(x.1.2.2).1
 let BU:=x.1.2.2.2
 let Ad:=x.2
 bif decide (Ak<BU) then
  let BK:=List.getD zL (Int.toNat Ak) 0
  bif jZ [decide (0≤Ak),decide (Ak<(↑(List.length zL):Int))] then
   let Cd:=zog BH Ad
   let Jc:=zog gz (BK,1,Cd.1)
   let r_50:=zog gz (List.getD ((Ad.2.2.2).1) (Int.toNat Ak) 0,1,99)
   let CN:=bif bif !Jc.1 then true else bif decide (Ak>0) then decide (List.getD (Ad.2.2.1) (Int.toNat (IntKind.wrap .i64 (Ak-1))) 0≥BK) else false then true else !r_50.1
   bif jZ [(!!bif !(zog gz (BK,1,Cd.1)).1 then true else bif decide (Ak>0) then decide (List.getD (Ad.2.2.1) (Int.toNat (IntKind.wrap .i64 (Ak-1))) 0≥BK) else false) || isSm (gz (List.getD ((Ad.2.2.2).1) (Int.toNat Ak) 0,1,99)),(!!bif !(zog gz (BK,1,Cd.1)).1 then true else bif decide (Ak>0) then decide (List.getD (Ad.2.2.1) (Int.toNat (IntKind.wrap .i64 (Ak-1))) 0≥BK) else false) || decide (0≤Ak),(!!bif !(zog gz (BK,1,Cd.1)).1 then true else bif decide (Ak>0) then decide (List.getD (Ad.2.2.1) (Int.toNat (IntKind.wrap .i64 (Ak-1))) 0≥BK) else false) || decide (Ak<(↑(List.length ((Ad.2.2.2).1)):Int)),!(decide (Ak>0) && !!(zog gz (BK,1,Cd.1)).1) || decide (0≤IntKind.wrap .i64 (Ak-1)),!(decide (Ak>0) && !!(zog gz (BK,1,Cd.1)).1) || decide (IntKind.wrap .i64 (Ak-1)<(↑(List.length (Ad.2.2.1)):Int)),isSm (gz (BK,1,Cd.1)),isSm (BH Ad)] then
    bif CN then
     some (.inr (.inl (false,())))
    else
     some (.inl (((IntKind.wrap .i64 (Ak+1)),(),zL,BU),Ad))
   else none
  else none
 else
  some (.inr (.inr ((),())))
def Wh.abh:(((Bool))×(Unit))⊕((Unit)×(Unit)):=.inl default
def Wh.C4 (xs:(gv.D)):Option (((Bool))×(Unit)):=
 let fN:gv.D:=xs
 let r_1:=zog gz (fN.1,1,300)
 let r_2:=zog gz (fN.2.1,1,16)
 let nG:=zog BH fN
 let Bl:=bif bif !r_1.1 then true else !r_2.1 then true else decide (nG.1>24)
 bif jZ [(!!bif !r_1.1 then true else !r_2.1) || isSm (BH fN),!!!r_1.1 || isSm (gz (fN.2.1,1,16)),isSm (gz (fN.1,1,300))] then
  bif Bl then
   some (false,())
  else
   let z8:Int:=(↑(List.length (fN.2.2.1)):Int)
   let r_15:=zog gz (z8,1,3)
   let nI:=bif bif !r_15.1 then true else(↑(List.length ((fN.2.2.2).1)):Int) != z8 then true else List.getD (fN.2.2.1) (Int.toNat (IntKind.wrap .i64 (z8-1))) 0 != nG.1
   bif jZ [(!!bif !(zog gz (z8,1,3)).1 then true else(↑(List.length ((fN.2.2.2).1)):Int) != z8) || isSm (BH fN),(!!bif !(zog gz (z8,1,3)).1 then true else(↑(List.length ((fN.2.2.2).1)):Int) != z8) || decide (0≤IntKind.wrap .i64 (z8-1)),(!!bif !(zog gz (z8,1,3)).1 then true else(↑(List.length ((fN.2.2.2).1)):Int) != z8) || decide (IntKind.wrap .i64 (z8-1)<z8),isSm (gz (z8,1,3))] then
    bif nI then
     some (false,())
    else
     let O7:T6:=((0,(),fN.2.2.1,z8),fN)
     bif pY FA O7 then
      sumC (oa FA abh O7) (fun y_54=>
       let Ez:=y_54.1
       some (Ez,())) (fun _=>
       some (true,()))
     else none
   else none
 else none
abbrev Wh.Um:Type:=((Int)×(List (Int))×(Int)×(List (Int))×(Int))×(Unit)
abbrev Wh.aip:Type:=((((Bool))×(Unit))⊕(((Int))×(Unit)))
def Wh.IE (x:Um):Option (Um⊕aip):=
 let nI:=x.1.1
 let VJ:=x.1.2.1
 let RO:=(x.1.2.2).1
 let je:=x.1.2.2.2.1
 let lg:=x.1.2.2.2.2
 bif decide (nI<lg) then
  let zK:=List.getD je (Int.toNat nI) 0
  bif jZ [decide (0≤nI),decide (nI<(↑(List.length je):Int))] then
   let zT:=IntKind.wrap .i64 (RO-1)
   let Dt:=zog gz (zK,0,zT)
   let nC:=bif !Dt.1 then true else bif decide (nI>0) then decide (List.getD VJ (Int.toNat (IntKind.wrap .i64 (nI-1))) 0≥zK) else false
   bif jZ [!(decide (nI>0) && !!(zog gz (zK,0,zT)).1) || decide (0≤IntKind.wrap .i64 (nI-1)),!(decide (nI>0) && !!(zog gz (zK,0,zT)).1) || decide (IntKind.wrap .i64 (nI-1)<(↑(List.length VJ):Int)),isSm (gz (zK,0,zT))] then
    bif nC then
     some (.inr (.inl (false,())))
    else
     some (.inl (((IntKind.wrap .i64 (nI+1)),VJ,RO,je,lg),()))
   else none
  else none
 else
  some (.inr (.inr (RO,())))
def Wh.abz:(((Bool))×(Unit))⊕(((Int))×(Unit)):=.inl default
def Wh.KE (xs:(List (Int))×(Int)):Option (((Bool))×(Unit)):=
 let VH:=xs.1
 let adW:=xs.2
 let DU:Um:=((0,VH,adW,VH,(↑(List.length VH):Int)),())
 bif pY IE DU then
  sumC (oa IE abz DU) (fun Dw=>
   let Ch:=Dw.1
   some (Ch,())) (fun Pg=>
   let GI:=Pg.1
   e_ gz (GI,0,24) fun A9=>
    some (A9.1,()))
 else none
abbrev Wh.Uv:Type:=((Int)×(Int)×(Unit))×((eA.D))
abbrev Wh.aix:Type:=((((Int))×(Unit))⊕((Unit)×(Unit)))
def Wh.IK (x:Uv):Option (Uv⊕aix):=
 let EK:=x.1.1
 let Yf:=x.1.2.1
 let Sz:=x.2
 let DS:Int:=(↑(List.length ((Sz.2.2.2.2.2).2.1)):Int)
 bif decide (EK<DS) then
  let Ap:bx.D:=List.getD ((Sz.2.2.2.2.2).2.1) (Int.toNat EK) (0,0,0,0,0,0,())
  bif jZ [decide (0≤EK),decide (EK<DS)] then
   bif(Ap.1==Yf) then
    some (.inr (.inl (EK,())))
   else
    some (.inl (((IntKind.wrap .i64 (EK+1)),Yf,()),Sz))
  else none
 else
  some (.inr (.inr ((),())))
def Wh.abH:(((Int))×(Unit))⊕((Unit)×(Unit)):=.inl default
def Wh.KK (xs:(eA.D)×(Int)):Option (((Int))×(Unit)):=
 let cr:=xs.1
 let NA:=xs.2
 let x_18:Uv:=((0,NA,()),cr)
 bif pY IK x_18 then
  sumC (oa IK abH x_18) (fun y_19=>
   let qe:=y_19.1
   some (qe,())) (fun _=>
   some (-1,()))
 else none
abbrev Wh.UX:Type:=((Int)×(Unit)×(Unit)×(Int)×(Unit))×((eA.D)×(List (bx.D))×((Bool)×((Int)×((List UInt8)×(((Int)×((Unit)×(Unit)))×(((Unit)×((Int)×(Unit)))×((Unit)×((Unit)×(Unit))))))))×(List (an.D))×(List (bp.D))×(List (di.D))×(List (bx.D)))
abbrev Wh.aiU:Type:=((((Unit)×(Unit)×(Unit))×(((Bool)×((Int)×((List UInt8)×(((Int)×((Unit)×(Unit)))×(((Unit)×((Int)×(Unit)))×((Unit)×((Unit)×(Unit))))))))×(eA.D)×(List (bx.D))×(List (an.D))×(List (bp.D))×(List (di.D))×(List (bx.D)))))
def Wh.IT (x:UX):Option (UX⊕aiU):=
 let z7:=x.1.1
 let RN:=x.1.2.2.2.1
 let zC:=x.2.1
 let xe:=x.2.2.1
 let GQ:=(x.2.2.2).1.1
 let Oi:=(x.2.2.2).1.2.1
 let AF:=(x.2.2.2).1.2.2.1
 let A6:=(x.2.2.2).1.2.2.2.1.1
 let AY:=(x.2.2.2).1.2.2.2.1.2.2
 let Ai:=(x.2.2.2).1.2.2.2.2.1.2
 let Au:=(x.2.2.2).1.2.2.2.2.2.2.2
 let DE:=x.2.2.2.2.1
 let EO:=(x.2.2.2.2.2).1
 let Ad:=(x.2.2.2.2.2).2.1
 let DF:=(x.2.2.2.2.2).2.2
 let BK:Int:=(↑(List.length ((zC.2.2.2.2.2).2.1)):Int)
 bif decide (z7<BK) then
  let Fb:bx.D:=List.getD ((zC.2.2.2.2.2).2.1) (Int.toNat z7) (0,0,0,0,0,0,())
  bif jZ [decide (0≤z7),decide (z7<BK)] then
   bif(Fb.1 != RN) then
    let L7:List (bx.D):=xe ++ [Fb]
    bif jZ [decide (List.length xe+(1:Nat)≤eD),decide (0≤z7),decide (z7<BK)] then
     some (.inl (((IntKind.wrap .i64 (z7+1)),(),(),RN,()),zC,L7,(GQ,Oi,AF,(A6,(),AY),((),Ai),(),(),Au),DE,EO,Ad,DF))
    else none
   else
    some (.inl (((IntKind.wrap .i64 (z7+1)),(),(),RN,()),zC,xe,(GQ,Oi,AF,(A6,(),AY),((),Ai),(),(),Au),DE,EO,Ad,DF))
  else none
 else
  some (.inr (((),(),()),(GQ,Oi,AF,(A6,(),AY),((),Ai),(),(),Au),zC,xe,DE,EO,Ad,DF))
def Wh.ab6:(((Unit)×(Unit)×(Unit))×(((Bool)×((Int)×((List UInt8)×(((Int)×((Unit)×(Unit)))×(((Unit)×((Int)×(Unit)))×((Unit)×((Unit)×(Unit))))))))×(eA.D)×(List (bx.D))×(List (an.D))×(List (bp.D))×(List (di.D))×(List (bx.D)))):=default
def Wh.q36 (xs:(eA.D)×(Int)):Option ((((Bool)×((Int)×((List UInt8)×((fe.D)×((fT.D)×((List (di.D))×((List (bx.D))×(Unit)))))))))×(Unit)):=
 let cr:=xs.1
 let NA:=xs.2
 let DW:UX:=((0,(),(),NA,()),cr,[],(false,0,[],(0,(),()),((),0,()),(),(),()),[],[],[],[])
 bif pY IT DW then
  let DX:=oa IT ab6 DW
  let BF:=DX.2.2.1
  let B6:=(DX.2.2.2).1
  some ((BF.1,BF.2.1,BF.2.2.1,(BF.2.2.2).1,BF.2.2.2.2.1,(BF.2.2.2.2.2).1,B6,(BF.2.2.2.2.2).2.2),())
 else none
def Wh.Mx (xs:(Int)×(Int)×(Int)):Option (((List (r5.D)))×(Unit)):=
 let Nz:=xs.1
 let try_1:=xs.2.1
 let GL:=xs.2.2
 let ET:List (r5.D):=[(6,Nz,try_1,GL,0,[],[],())]
 some (ET,())
def Wh.q7 (xs:(List (bx.D))×(Int)×(Int)):Option (((List (bx.D)))×(Unit)):=
 let cr:=xs.1
 let i_1:=xs.2.1
 let zM:=xs.2.2
 let nS:Int:=(↑(List.length cr):Int)
 bif jZ [decide (0≤i_1),decide (i_1≤zM),decide (zM≤nS),decide (nS≤nS)] then
  let zV:=i_1==zM
  bif zV then
   some (cr,())
  else
   let J_:List (bx.D):=List.take (Int.toNat 0+Int.toNat (i_1-0)) cr++(List.take (Int.toNat (nS-zM)) (List.drop (Int.toNat zM) cr)++List.drop (Int.toNat 0+Int.toNat (i_1-0)+List.length (List.take (Int.toNat (nS-zM)) (List.drop (Int.toNat zM) cr))) cr)
   let Bl:Nat:=Int.toNat (i_1-0)
   let Du:Nat:=Bl+List.length (List.take (Int.toNat (nS-zM)) (List.drop (Int.toNat zM) cr))
   bif jZ [decide (Int.toNat 0+Bl+List.length (List.take (Int.toNat (nS-zM)) (List.drop (Int.toNat zM) cr))≤List.length cr),decide (0≤zM),decide (zM≤nS),decide (nS≤nS),true,decide (0≤i_1),decide (i_1≤nS)] then
    let OE:List (bx.D):=List.take (Int.toNat (0:Int)+Int.toNat (↑Du:Int)) J_++(@List.replicate (Int×Int×Int×Int×Int×Int×Unit) (Int.toNat (nS-(↑Du:Int))) ((0:Int),(0:Int),(0:Int),(0:Int),(0:Int),(0:Int),())++List.drop (Int.toNat (0:Int)+Int.toNat (↑Du:Int)+List.length (@List.replicate (Int×Int×Int×Int×Int×Int×Unit) (Int.toNat (nS-(↑Du:Int))) ((0:Int),(0:Int),(0:Int),(0:Int),(0:Int),(0:Int),()))) J_)
    bif jZ [decide (0≤(↑Du:Int)),decide ((↑Du:Int)≤nS),decide ((↑(Int.toNat 0):Int)+nS≤(↑(List.length J_):Int))] then
     some (List.take Du OE,())
    else none
   else none
 else none
def Wh.q11 (xs:((Bool)×((Int)×((List UInt8)×(((Int)×((List (an.D))×(Unit)))×(((List (bp.D))×((Int)×(Unit)))×((List (di.D))×((List (bx.D))×(Unit))))))))×(Int)):Option ((Unit)×(((Bool)×((Int)×((List UInt8)×(((Int)×((List (an.D))×(Unit)))×(((List (bp.D))×((Int)×(Unit)))×((List (di.D))×((List (bx.D))×(Unit))))))))×Unit)):=
 let cr:=xs.1
 let BM:=xs.2
 let r_2:=zog Wh.q7 ((cr.2.2.2.2.2).2.1,BM,IntKind.wrap .i64 (BM+1))
 let ET:List (bx.D):=[]++r_2.1
 bif jZ [decide ((0:Nat)+List.length r_2.1≤eD),isSm (Wh.q7 ((cr.2.2.2.2.2).2.1,BM,(IntKind.wrap .i64 (BM+1))))] then
  some ((),(cr.1,cr.2.1,cr.2.2.1,(cr.2.2.2).1,cr.2.2.2.2.1,(cr.2.2.2.2.2).1,ET,(cr.2.2.2.2.2).2.2),())
 else none
def Wh.Ku (xs:(r5.D)×(r5.D)):Option (((Bool))×(Unit)):=
 let cx:=xs.1
 let b_1:=xs.2
 bif(cx.1 != b_1.1) then
  some (false,())
 else
  bif(cx.2.1 != b_1.2.1) then
   some (false,())
  else
   bif(cx.2.2.1 != b_1.2.2.1) then
    some (false,())
   else
    let zW:Bool:=(cx.2.2.2).1 != (b_1.2.2.2).1
    bif zW then
     some (false,())
    else
     bif(cx.2.2.2.2.1 != b_1.2.2.2.2.1) then
      some (false,())
     else
      bif(!(cx.2.2.2.2.2).1==(b_1.2.2.2.2.2).1) then
       some (false,())
      else
       bif(!(cx.2.2.2.2.2).2.1==(b_1.2.2.2.2.2).2.1) then
        some (false,())
       else
        some (true,())
abbrev Wh.TK:Type:=((Int)×(List (r5.D))×(List (r5.D)))×(Unit)
abbrev Wh.ahR:Type:=((((Bool))×(Unit))⊕((Unit)×(Unit)))
def Wh.Mn (x:TK):Option (TK⊕ahR):=
 let ia:=x.1.1
 let B3:=x.1.2.1
 let BZ:=x.1.2.2
 let w8:Int:=(↑(List.length BZ):Int)
 bif decide (ia<w8) then
  let lg:=List.getD BZ (Int.toNat ia) (0,0,0,0,0,[],[],())
  let qe:=List.getD B3 (Int.toNat ia) (0,0,0,0,0,[],[],())
  let Cs:=zog Ku (lg,qe)
  bif jZ [isSm (Ku (lg,qe)),decide (0≤ia),decide (ia<(↑(List.length B3):Int)),decide (0≤ia),decide (ia<w8)] then
   bif !Cs.1 then
    some (.inr (.inl (false,())))
   else
    some (.inl (((IntKind.wrap .i64 (ia+1)),B3,BZ),()))
  else none
 else
  some (.inr (.inr ((),())))
def Wh.aa3:(((Bool))×(Unit))⊕((Unit)×(Unit)):=.inl default
def Wh.GZ (xs:(List (r5.D))×(List (r5.D))):Option (((Bool))×(Unit)):=
 let cx:=xs.1
 let b_1:=xs.2
 let v_2:Int:=(↑(List.length cx):Int)
 let nS:Int:=(↑(List.length b_1):Int)
 let zV:=v_2 != nS
 bif zV then
  some (false,())
 else
  let x_25:TK:=((0,b_1,cx),())
  bif pY Mn x_25 then
   sumC (oa Mn aa3 x_25) (fun Ci=>
    let nC:=Ci.1
    some (nC,())) (fun _=>
    some (true,()))
  else none
abbrev Wh.U6:Type:=((Int)×(Unit)×(Int))×((List (r5.D)))
abbrev Wh.ai2:Type:=((((Int))×((List (r5.D)))))
def Wh.K9 (x:U6):Option (U6⊕ai2):=
 let wv:=x.1.1
 let k_25:=x.1.2.2
 let ES:=x.2
 let Ev:Int:=(↑(List.length ES):Int)
 bif decide (wv<Ev) then
  let Ao:=List.set ES (Int.toNat wv) (k_25,(List.getD ES (Int.toNat wv) (0,0,0,0,0,[],[],())).2)
  bif jZ [decide (0≤wv),decide (wv<Ev)] then
   let zG:=IntKind.wrap .i64 (k_25+1)
   let n_:=List.set Ao (Int.toNat wv) ((List.getD Ao (Int.toNat wv) (0,0,0,0,0,[],[],())).1,zG,((List.getD Ao (Int.toNat wv) (0,0,0,0,0,[],[],())).2).2)
   bif jZ [decide (0≤wv),decide (wv<(↑(List.length Ao):Int))] then
    let Ba:=IntKind.wrap .i64 (zG+1)
    let zQ:=List.set n_ (Int.toNat wv) ((List.getD n_ (Int.toNat wv) (0,0,0,0,0,[],[],())).1,((List.getD n_ (Int.toNat wv) (0,0,0,0,0,[],[],())).2).1,Ba,(((List.getD n_ (Int.toNat wv) (0,0,0,0,0,[],[],())).2).2).2)
    bif jZ [decide (0≤wv),decide (wv<(↑(List.length n_):Int))] then
     let Bz:=IntKind.wrap .i64 (Ba+1)
     let Eg:=List.set zQ (Int.toNat wv) ((List.getD zQ (Int.toNat wv) (0,0,0,0,0,[],[],())).1,((List.getD zQ (Int.toNat wv) (0,0,0,0,0,[],[],())).2).1,(((List.getD zQ (Int.toNat wv) (0,0,0,0,0,[],[],())).2).2).1,Bz,((((List.getD zQ (Int.toNat wv) (0,0,0,0,0,[],[],())).2).2).2).2)
     bif jZ [decide (0≤wv),decide (wv<(↑(List.length zQ):Int))] then
      let zL:=IntKind.wrap .i64 (Bz+1)
      let EU:=List.set Eg (Int.toNat wv) ((List.getD Eg (Int.toNat wv) (0,0,0,0,0,[],[],())).1,((List.getD Eg (Int.toNat wv) (0,0,0,0,0,[],[],())).2).1,(((List.getD Eg (Int.toNat wv) (0,0,0,0,0,[],[],())).2).2).1,((((List.getD Eg (Int.toNat wv) (0,0,0,0,0,[],[],())).2).2).2).1,zL,(((((List.getD Eg (Int.toNat wv) (0,0,0,0,0,[],[],())).2).2).2).2).2)
      bif jZ [decide (0≤wv),decide (wv<(↑(List.length Eg):Int))] then
       let HK:=IntKind.wrap .i64 (zL+1)
       let Ja:=zog A8 HK
       let GX:=List.set EU (Int.toNat wv) ((List.getD EU (Int.toNat wv) (0,0,0,0,0,[],[],())).1,((List.getD EU (Int.toNat wv) (0,0,0,0,0,[],[],())).2).1,(((List.getD EU (Int.toNat wv) (0,0,0,0,0,[],[],())).2).2).1,((((List.getD EU (Int.toNat wv) (0,0,0,0,0,[],[],())).2).2).2).1,(((((List.getD EU (Int.toNat wv) (0,0,0,0,0,[],[],())).2).2).2).2).1,Ja.1,((((((List.getD EU (Int.toNat wv) (0,0,0,0,0,[],[],())).2).2).2).2).2).2)
       bif jZ [decide (0≤wv),decide (wv<(↑(List.length EU):Int)),isSm (A8 HK)] then
        let Ew:=IntKind.wrap .i64 (HK+1)
        let Ln:=zog A8 Ew
        let pb_43:=List.set GX (Int.toNat wv) ((List.getD GX (Int.toNat wv) (0,0,0,0,0,[],[],())).1,((List.getD GX (Int.toNat wv) (0,0,0,0,0,[],[],())).2).1,(((List.getD GX (Int.toNat wv) (0,0,0,0,0,[],[],())).2).2).1,((((List.getD GX (Int.toNat wv) (0,0,0,0,0,[],[],())).2).2).2).1,(((((List.getD GX (Int.toNat wv) (0,0,0,0,0,[],[],())).2).2).2).2).1,((((((List.getD GX (Int.toNat wv) (0,0,0,0,0,[],[],())).2).2).2).2).2).1,Ln.1,(((((((List.getD GX (Int.toNat wv) (0,0,0,0,0,[],[],())).2).2).2).2).2).2).2)
        bif jZ [decide (0≤wv),decide (wv<(↑(List.length GX):Int)),isSm (A8 Ew)] then
         some (.inl (((IntKind.wrap .i64 (wv+1)),(),(IntKind.wrap .i64 (Ew+1))),pb_43))
        else none
       else none
      else none
     else none
    else none
   else none
  else none
 else
  some (.inr (k_25,ES))
def Wh.ach:(((Int))×((List (r5.D)))):=default
def Wh.q49 (xs:(List (r5.D))×(Int)):Option (((Int))×((List (r5.D))×Unit)):=
 let cx:=xs.1
 let k_1:=xs.2
 let x_46:U6:=((0,(),k_1),cx)
 bif pY K9 x_46 then
  let y_47:=oa K9 ach x_46
  let NZ:=y_47.1
  let pb_49:=y_47.2
  some (NZ,pb_49,())
 else none
abbrev Wh.U4:Type:=((Int)×(List (r5.D))×(Int))×(Unit)
abbrev Wh.ai0:Type:=((((Int))×(Unit))⊕(((Int))×(Unit)))
def Wh.K7 (x:U4):Option (U4⊕ai0):=
 let z7:=x.1.1
 let a_26:=x.1.2.1
 let k_27:=x.1.2.2
 let nC:Int:=(↑(List.length a_26):Int)
 bif decide (z7<nC) then
  let zG:=List.getD a_26 (Int.toNat z7) (0,0,0,0,0,[],[],())
  bif jZ [decide (0≤z7),decide (z7<nC)] then
   bif(zG.1 != k_27) then
    some (.inr (.inl (-1,())))
   else
    let Ba:=IntKind.wrap .i64 (k_27+1)
    bif jZ [decide (0≤z7),decide (z7<nC)] then
     bif(zG.2.1 != Ba) then
      some (.inr (.inl (-1,())))
     else
      let Bz:=IntKind.wrap .i64 (Ba+1)
      bif jZ [decide (0≤z7),decide (z7<nC)] then
       bif(zG.2.2.1 != Bz) then
        some (.inr (.inl (-1,())))
       else
        let zL:=IntKind.wrap .i64 (Bz+1)
        let BU:Bool:=(zG.2.2.2).1 != zL
        bif jZ [decide (0≤z7),decide (z7<nC)] then
         bif BU then
          some (.inr (.inl (-1,())))
         else
          let HK:=IntKind.wrap .i64 (zL+1)
          bif jZ [decide (0≤z7),decide (z7<nC)] then
           bif(zG.2.2.2.2.1 != HK) then
            some (.inr (.inl (-1,())))
           else
            let BK:=IntKind.wrap .i64 (HK+1)
            let Cd:=zog A8 BK
            bif jZ [isSm (A8 BK),decide (0≤z7),decide (z7<nC)] then
             bif(!(zG.2.2.2.2.2).1==Cd.1) then
              some (.inr (.inl (-1,())))
             else
              let Ey:=IntKind.wrap .i64 (BK+1)
              let FG:=zog A8 Ey
              bif jZ [isSm (A8 Ey),decide (0≤z7),decide (z7<nC)] then
               bif(!(zG.2.2.2.2.2).2.1==FG.1) then
                some (.inr (.inl (-1,())))
               else
                some (.inl (((IntKind.wrap .i64 (z7+1)),a_26,(IntKind.wrap .i64 (Ey+1))),()))
              else none
            else none
          else none
        else none
      else none
    else none
  else none
 else
  some (.inr (.inr (k_27,())))
def Wh.acf:(((Int))×(Unit))⊕(((Int))×(Unit)):=.inl default
def Wh.q47 (xs:(List (r5.D))×(Int)):Option (((Int))×(Unit)):=
 let cx:=xs.1
 let k_1:=xs.2
 let DW:U4:=((0,cx,k_1),())
 bif pY K7 DW then
  sumC (oa K7 acf DW) (fun DX=>
   let CN:=DX.1
   some (CN,())) (fun Rm=>
   let k_52:=Rm.1
   some (k_52,()))
 else none
def Wh.Gq (xs:(di.D)×(Int)):Option (((di.D))×(Unit)):=
 let wh:=xs.1
 let DG:=xs.2
 let OG:=IntKind.wrap .i64 (wh.1+IntKind.wrap .i64 (wh.2.2.1*IntKind.wrap .i64 (DG-(wh.2.2.2).1)))
 bif decide (OG>wh.2.1) then
  some ((wh.2.1,wh.2.1,wh.2.2.1,DG,wh.2.2.2.2),())
 else
  some ((OG,wh.2.1,wh.2.2.1,DG,wh.2.2.2.2),())
def Wh.Ek (xs:(bx.D)):Option (((zR.D))×(Unit)):=
 let v_0:bx.D:=xs
 some ((v_0.1,(IntKind.wrap .i64 (3-v_0.2.2.2.2.1)),(v_0.2.2.2.2.2).1,()),())
abbrev Wh.TP:Type:=((Int)×(Int)×(List (zR.D))×(Int))×(Unit)
abbrev Wh.ahU:Type:=((((Int))×(Unit))⊕(((Int))×(Unit)))
def Wh.Io (x:TP):Option (TP⊕ahU):=
 let Am:=x.1.1
 let GG:=x.1.2.1
 let L0:=(x.1.2.2).1
 let J5:=x.1.2.2.2
 let zK:Int:=(↑(List.length L0):Int)
 bif decide (Am<zK) then
  let Ij:=List.getD L0 (Int.toNat Am) (0,0,0,())
  bif jZ [decide (0≤Am),decide (Am<zK)] then
   let Dr:=zog r_ (Ij.2.1,0,99999)
   let r_26:=zog r_ (Ij.2.2.1,0,J5)
   let AH:=bif bif !Dr.1 then true else !r_26.1 then true else decide (J5>99999)
   bif jZ [!!!Dr.1 || isSm (r_ (Ij.2.2.1,0,J5)),isSm (r_ (Ij.2.1,0,99999))] then
    bif AH then
     some (.inr (.inl (-1,())))
    else
     let zG:=decide (GG<0)
     let HJ:=bif zG then true else decide (IntKind.wrap .i64 (IntKind.wrap .i64 (Ij.2.1+J5)-Ij.2.2.1)>IntKind.wrap .i64 (IntKind.wrap .i64 (((List.getD L0 (Int.toNat GG) (0,0,0,())).2).1+J5)-(((List.getD L0 (Int.toNat GG) (0,0,0,())).2).2).1))
     bif jZ [!!zG || decide (0≤GG),!!zG || decide (GG<zK),!!zG || decide (0≤GG),!!zG || decide (GG<zK)] then
      bif HJ then
       some (.inl (((IntKind.wrap .i64 (Am+1)),Am,L0,J5),()))
      else
       some (.inl (((IntKind.wrap .i64 (Am+1)),GG,L0,J5),()))
     else none
   else none
  else none
 else
  some (.inr (.inr (GG,())))
def Wh.aa5:(((Int))×(Unit))⊕(((Int))×(Unit)):=.inl default
def Wh.Ki (xs:(List (zR.D))×(Int)):Option (((Int))×(Unit)):=
 let GO:=xs.1
 let DG:=xs.2
 let Jp:TP:=((0,-1,GO,DG),())
 bif pY Io Jp then
  sumC (oa Io aa5 Jp) (fun Nq=>
   let BU:=Nq.1
   some (BU,())) (fun z_36=>
   let adO:=z_36.1
   some (adO,()))
 else none
abbrev Wh.TR:Type:=((Int)×(Unit)×(Unit)×(Int))×((eA.D)×(List (zR.D)))
abbrev Wh.ahW:Type:=((((Int)×(Unit)×(Unit))×((List (zR.D))×(eA.D))))
def Wh.Iq (x:TR):Option (TR⊕ahW):=
 let iL:=x.1.1
 let NB:=x.1.2.2.2
 let Bf:=x.2.1
 let As:=x.2.2
 let th:Int:=(↑(List.length ((Bf.2.2.2.2.2).2.1)):Int)
 bif decide (iL<th) then
  let s_:bx.D:=List.getD ((Bf.2.2.2.2.2).2.1) (Int.toNat iL) (0,0,0,0,0,0,())
  let QS:=zog Cr NB
  let OR:=zog Cr s_.1
  bif jZ [isSm (Cr NB),isSm (Cr s_.1),decide (0≤iL),decide (iL<th)] then
   bif(OR.1==QS.1) then
    let Cu:=zog Ek s_
    let Ai:=As ++ [Cu.1]
    bif jZ [decide (List.length As+(1:Nat)≤eD),isSm (Ek s_),decide (0≤iL),decide (iL<th)] then
     some (.inl (((IntKind.wrap .i64 (iL+1)),(),(),NB),Bf,Ai))
    else none
   else
    some (.inl (((IntKind.wrap .i64 (iL+1)),(),(),NB),Bf,As))
  else none
 else
  some (.inr ((NB,(),()),As,Bf))
def Wh.aa7:(((Int)×(Unit)×(Unit))×((List (zR.D))×(eA.D))):=default
def Wh.Gi (xs:(eA.D)×(Int)):Option (((Bool))×(Unit)):=
 let cr:=xs.1
 let NA:=xs.2
 let Jq:TR:=((0,(),(),NA),cr,[])
 bif pY Iq Jq then
  let HQ:=oa Iq aa7 Jq
  let adT:=HQ.1.1
  let H9:=HQ.2.1
  let GR:=HQ.2.2
  e_ Ki (H9,GR.2.1) fun DQ=>
   let Fc:=decide (DQ.1≥0)
   let LB:=bif Fc then(List.getD H9 (Int.toNat DQ.1) (0,0,0,())).1==adT else false
   bif jZ [!Fc || decide (0≤DQ.1),!Fc || decide (DQ.1<(↑(List.length H9):Int))] then
    some (LB,())
   else none
 else none
abbrev Wh.TS:Type:=((Int)×(Unit)×(Unit))×((List (zR.D))×(eA.D))
abbrev Wh.ahX:Type:=((((Unit))×((List (zR.D)))))
def Wh.Gj (x:TS):Option (TS⊕ahX):=
 let Fm:=x.1.1
 let zC:=x.2.1
 let xe:=x.2.2
 let AH:Int:=(↑(List.length ((xe.2.2.2.2.2).2.1)):Int)
 bif decide (Fm<AH) then
  let n_:bx.D:=List.getD ((xe.2.2.2.2.2).2.1) (Int.toNat Fm) (0,0,0,0,0,0,())
  bif jZ [decide (0≤Fm),decide (Fm<AH)] then
   e_ FC ((xe.2.2.2).1,n_.2.2.1) fun zD=>
    bif zD.1.2 then
     let Cu:=zog Cb (↑(List.length ((zD.1.1.2.2.2).1)):Int)
     let Bz:Int:=(↑(List.length ((zD.1.1.2.2.2).1)):Int)
     bif jZ [isSm (Cb Bz)] then
      let A9:=zog Gi (xe,n_.1)
      let Hy:=zog Cr n_.1
      let BU:=bif A9.1 then decide ((List.getD ((xe.2.2.2.2.2).1) (Int.toNat Hy.1) (0,0,0,0,())).1≥Cu.1.2.1) else false
      bif jZ [!A9.1 || decide (0≤Hy.1),!A9.1 || decide (Hy.1<(↑(List.length ((xe.2.2.2.2.2).1)):Int)),!A9.1 || isSm (Cr n_.1),isSm (Gi (xe,n_.1))] then
       bif BU then
        let Ep:=zog Ek n_
        let H8:=zC ++ [Ep.1]
        bif jZ [decide (List.length zC+(1:Nat)≤eD),isSm (Ek n_)] then
         some (.inl (((IntKind.wrap .i64 (Fm+1)),(),()),H8,xe))
        else none
       else
        some (.inl (((IntKind.wrap .i64 (Fm+1)),(),()),zC,xe))
      else none
     else none
    else
     let DQ:=zog Gi (xe,n_.1)
     let FG:=zog Cr n_.1
     let v_45:=bif DQ.1 then decide ((List.getD ((xe.2.2.2.2.2).1) (Int.toNat FG.1) (0,0,0,0,())).1≥0) else false
     bif jZ [!DQ.1 || decide (0≤FG.1),!DQ.1 || decide (FG.1<(↑(List.length ((xe.2.2.2.2.2).1)):Int)),!DQ.1 || isSm (Cr n_.1),isSm (Gi (xe,n_.1))] then
      bif v_45 then
       let HA:=zog Ek n_
       let L8:=zC ++ [HA.1]
       bif jZ [decide (List.length zC+(1:Nat)≤eD),isSm (Ek n_)] then
        some (.inl (((IntKind.wrap .i64 (Fm+1)),(),()),L8,xe))
       else none
      else
       some (.inl (((IntKind.wrap .i64 (Fm+1)),(),()),zC,xe))
     else none
  else none
 else
  some (.inr ((),zC))
def Wh.aa8:(((Unit))×((List (zR.D)))):=default
def Wh.My (xs:(eA.D)):Option (((List (zR.D)))×(Unit)):=
 let cr:eA.D:=xs
 let x_51:TS:=((0,(),()),[],cr)
 bif pY Gj x_51 then
  let y_52:=oa Gj aa8 x_51
  let Cm:=y_52.2
  some (Cm,())
 else none
def Wh.El (xs:(Int)):Option (((Int))×(Unit)):=
 let Gw:=xs
 some ((Int.tmod (IntKind.wrap .i64 ((IntKind.wrap .i64 (Gw*1103515245))+12345)) 2147483648),())
def Wh.DM (xs:(Int)×(Int)):Option (((Int))×(Unit)):=
 let Gw:=xs.1
 let n_1:=xs.2
 bif jZ [n_1 != 0,true] then
  some (Int.tmod (IntKind.wrap .i64 (Int.tdiv Gw 256)) n_1,())
 else none
abbrev Wh.Vx:Type:=((Int)×(Unit)×(Int))×((gv.D))
abbrev Wh.ajt:Type:=((((Int))×(Unit))⊕(((Unit))×((gv.D))))
def Wh.OL (x:Vx):Option (Vx⊕ajt):=
 let FW:=x.1.1
 let NY:=x.1.2.2
 let Cl:=x.2
 let Fc:Int:=(↑(List.length ((Cl.2.2.2).1)):Int)
 bif decide (FW<Fc) then
  let LB:=List.getD ((Cl.2.2.2).1) (Int.toNat FW) 0
  bif jZ [decide (0≤FW),decide (FW<Fc)] then
   bif decide (NY<LB) then
    let Jk:=List.getD (Cl.2.2.1) (Int.toNat FW) 0
    bif jZ [decide (0≤FW),decide (FW<(↑(List.length (Cl.2.2.1)):Int))] then
     some (.inr (.inl (Jk,())))
    else none
   else
    bif jZ [decide (0≤FW),decide (FW<Fc)] then
     some (.inl (((IntKind.wrap .i64 (FW+1)),(),(IntKind.wrap .i64 (NY-LB))),Cl))
    else none
  else none
 else
  some (.inr (.inr ((),Cl)))
def Wh.acM:(((Int))×(Unit))⊕(((Unit))×((gv.D))):=.inl default
abbrev Wh.Vw:Type:=((Int)×(Unit)×(Int)×(Int))×((gv.D))
abbrev Wh.ajs:Type:=((((Unit)×(Int)×(Int))×((gv.D))))
def Wh.OK (x:Vw):Option (Vw⊕ajs):=
 let tn:=x.1.1
 let adq:=(x.1.2.2).1
 let ac7:=x.1.2.2.2
 let zY:=x.2
 let nI:Int:=(↑(List.length ((zY.2.2.2).1)):Int)
 bif decide (tn<nI) then
  let w8:=List.getD ((zY.2.2.2).1) (Int.toNat tn) 0
  bif jZ [decide (0≤tn),decide (tn<nI)] then
   some (.inl (((IntKind.wrap .i64 (tn+1)),(),(IntKind.wrap .i64 (adq+w8)),ac7),zY))
  else none
 else
  some (.inr (((),adq,ac7),zY))
def Wh.acL:(((Unit)×(Int)×(Int))×((gv.D))):=default
def Wh.q90 (xs:(gv.D)×(Int)):Option (((Int))×(Unit)):=
 let fN:=xs.1
 let HF:=xs.2
 let x_22:Vw:=((0,(),0,HF),fN)
 bif pY OK x_22 then
  let HP:=oa OK acL x_22
  let adr:=HP.1.2.1
  let ac8:=HP.1.2.2
  let Bg:=HP.2
  let Dt:=zog El ac8
  let OR:=zog DM (Dt.1,adr)
  bif jZ [isSm (DM (Dt.1,adr)),isSm (El ac8)] then
   let x_52:Vx:=((0,(),OR.1),Bg)
   bif pY OL x_52 then
    sumC (oa OL acM x_52) (fun y_53=>
     let v_55:=y_53.1
     some (v_55,())) (fun z_54=>
     let Cn:=z_54.2
     e_ C3 Cn fun HC=>
      some (HC.1,()))
   else none
  else none
 else none
abbrev Wh.U_:Type:=((Int)×(Int)×(Unit)×(Int))×((List (Int)))
abbrev Wh.ai6:Type:=((((Int)×(Unit))×((List (Int)))))
def Wh.Hq (x:U_):Option (U_⊕ai6):=
 let GJ:=x.1.1
 let Ft:=x.1.2.1
 let GI:=x.1.2.2.2
 let Au:=x.2
 bif decide (GJ<GI) then
  let BU:=IntKind.wrap .i64 (Int.tdiv 65536 GI)
  bif jZ [GI != 0] then
   bif decide (GJ>1) then
    let GB:=IntKind.wrap .i64 (GJ-1)
    let n_44:=IntKind.wrap .i64 (Int.tdiv (IntKind.wrap .i64 (IntKind.wrap .i64 (Int.tdiv 65536 (IntKind.wrap .i64 (GJ*GB)))*7)) 8)
    bif jZ [true,IntKind.wrap .i64 (GJ*GB) != 0] then
     bif decide (n_44>Ft) then
      let EW:List Int:=[Ft]
      let Qq:=Au++EW
      bif jZ [decide (List.length Au+(1:Nat)≤eD)] then
       some (.inl (((IntKind.wrap .i64 (GJ+1)),(IntKind.wrap .i64 (Ft-Ft)),(),GI),Qq))
      else none
     else
      let pb_50:List Int:=[n_44]
      let B5:=Au++pb_50
      bif jZ [decide (List.length Au+(1:Nat)≤eD)] then
       some (.inl (((IntKind.wrap .i64 (GJ+1)),(IntKind.wrap .i64 (Ft-n_44)),(),GI),B5))
      else none
    else none
   else
    bif decide (BU>Ft) then
     let pb_55:List Int:=[Ft]
     let Cn:=Au++pb_55
     bif jZ [decide (List.length Au+(1:Nat)≤eD)] then
      some (.inl (((IntKind.wrap .i64 (GJ+1)),(IntKind.wrap .i64 (Ft-Ft)),(),GI),Cn))
     else none
    else
     let pb_59:List Int:=[BU]
     let J2:=Au++pb_59
     bif jZ [decide (List.length Au+(1:Nat)≤eD)] then
      some (.inl (((IntKind.wrap .i64 (GJ+1)),(IntKind.wrap .i64 (Ft-BU)),(),GI),J2))
     else none
  else none
 else
  some (.inr ((Ft,()),Au))
def Wh.acm:(((Int)×(Unit))×((List (Int)))):=default
def Wh.q55 (xs:(Int)):Option (((List (Int)))×(Unit)):=
 let B4:=xs
 let Js:U_:=((1,65536,(),B4),[])
 bif pY Hq Js then
  let Ns:=oa Hq acm Js
  let ago:=Ns.1.1
  let Ib:=Ns.2
  let pb_67:List Int:=[ago]
  let Ie:=Ib++pb_67
  bif jZ [decide (List.length Ib+(1:Nat)≤eD)] then
   some (Ie,())
  else none
 else none
abbrev Wh.Vv:Type:=((Int)×(Unit)×(Int)×(Int))×((List (Int)))
abbrev Wh.ajr:Type:=((((Int))×(Unit))⊕(((Int))×(Unit)))
def Wh.I5 (x:Vv):Option (Vv⊕ajr):=
 let PD:=x.1.1
 let aaQ:=(x.1.2.2).1
 let Yi:=x.1.2.2.2
 let y4:=x.2
 bif decide (PD<(↑(List.length y4):Int)) then
  let lg:=IntKind.wrap .i64 (PD-1)
  bif jZ [decide (0≤lg),decide (lg<(↑(List.length y4):Int))] then
   bif decide (aaQ<List.getD y4 (Int.toNat lg) 0) then
    some (.inr (.inl (PD,())))
   else
    bif jZ [decide (0≤lg),decide (lg<(↑(List.length y4):Int))] then
     some (.inl (((IntKind.wrap .i64 (PD+1)),(),(IntKind.wrap .i64 (aaQ-List.getD y4 (Int.toNat lg) 0)),Yi),y4))
    else none
  else none
 else
  some (.inr (.inr (Yi,())))
def Wh.acK:(((Int))×(Unit))⊕(((Int))×(Unit)):=.inl default
def Wh.q89 (xs:(Int)×(Int)):Option (((Int))×(Unit)):=
 let B4:=xs.1
 let QB:=xs.2
 e_ q55 B4 fun r_2=>
  let FM:Vv:=((1,(),QB,B4),r_2.1)
  bif pY I5 FM then
   sumC (oa I5 acK FM) (fun FQ=>
    let zG:=FQ.1
    some (zG,())) (fun z_29=>
    let PA:=z_29.1
    some (PA,()))
  else none
abbrev Wh.Ug:Type:=((Int)×(List (Int))×(Int))×(Unit)
abbrev Wh.aij:Type:=((((Int)×(List (Int))×(Int))×(Unit)))
def Wh.Hf (x:Ug):Option (Ug⊕aij):=
 let k_8:=x.1.1
 let Qa:=x.1.2.1
 let n_10:=x.1.2.2
 let By:=decide (k_8<(↑(List.length Qa):Int))
 let Af:=bif By then decide (List.getD Qa (Int.toNat k_8) 0<n_10) else false
 bif jZ [!By || decide (0≤k_8),!By || By] then
  bif Af then
   some (.inl (((IntKind.wrap .i64 (k_8+1)),Qa,n_10),()))
  else
   some (.inr ((k_8,Qa,n_10),()))
 else none
def Wh.abt:(((Int)×(List (Int))×(Int))×(Unit)):=default
def Wh.Iz (xs:(List (Int))×(Int)):Option (((List (Int)))×(Unit)):=
 let GO:=xs.1
 let n_1:=xs.2
 let x_14:Ug:=((0,GO,n_1),())
 bif pY Hf x_14 then
  let LG:=oa Hf abt x_14
  let FZ:=LG.1.1
  let F7:=LG.1.2.1
  let n_18:=LG.1.2.2
  let OF:List Int:=[]++List.take (Int.toNat (FZ-0)) (List.drop (Int.toNat 0) F7)
  let DH:List Int:=[n_18]
  let DI:List Int:=OF++DH++List.take (Int.toNat ((↑(List.length F7):Int)-FZ)) (List.drop (Int.toNat FZ) F7)
  let zT:List Int:=List.take (Int.toNat (FZ-0)) (List.drop (Int.toNat 0) F7)
  let th:List Int:=List.take (Int.toNat ((↑(List.length F7):Int)-FZ)) (List.drop (Int.toNat FZ) F7)
  bif jZ [decide (List.length (OF++DH)+List.length th≤eD),decide (0≤FZ),decide (FZ≤(↑(List.length F7):Int)),decide ((↑(List.length F7):Int)≤(↑(List.length F7):Int)),decide (List.length OF+(1:Nat)≤eD),decide ((0:Nat)+List.length zT≤eD),true,decide (0≤FZ),decide (FZ≤(↑(List.length F7):Int))] then
   some (DI,())
  else none
 else none
abbrev Wh.UD:Type:=((Int)×(Unit)×(Unit)×(Int)×(Int))×((List (Int))×(List (Int)))
abbrev Wh.aiD:Type:=((((Unit))×((List (Int)))))
def Wh.IM (x:UD):Option (UD⊕aiD):=
 let GN:=x.1.1
 let s_48:=x.1.2.2.2.1
 let d_49:=x.1.2.2.2.2
 let Az:=x.2.1
 let B5:=x.2.2
 bif decide (GN<d_49) then
  e_ El s_48 fun AZ=>
   e_ DM (AZ.1,(↑(List.length Az):Int)) fun FH=>
    let E7:=zog Iz (B5,List.getD Az (Int.toNat FH.1) 0)
    let Ez:=List.getD Az (Int.toNat FH.1) 0
    bif jZ [isSm (Iz (B5,Ez)),decide (0≤FH.1),decide (FH.1<(↑(List.length Az):Int))] then
     let QE:List Int:=[]++List.take (Int.toNat (FH.1-0)) (List.drop (Int.toNat 0) Az)
     let TA:List Int:=QE++List.take (Int.toNat ((↑(List.length Az):Int)-IntKind.wrap .i64 (FH.1+1))) (List.drop (Int.toNat (IntKind.wrap .i64 (FH.1+1))) Az)
     let O2:Nat:=Int.toNat (FH.1-0)
     let Jl:=IntKind.wrap .i64 (FH.1+1)
     bif jZ [decide (List.length QE+List.length (List.take (Int.toNat ((↑(List.length Az):Int)-Jl)) (List.drop (Int.toNat Jl) Az))≤eD),decide (0≤Jl),decide (Jl≤(↑(List.length Az):Int)),decide ((↑(List.length Az):Int)≤(↑(List.length Az):Int)),decide ((0:Nat)+List.length (List.take O2 (List.drop (Int.toNat 0) Az))≤eD),true,decide (0≤FH.1),decide (FH.1≤(↑(List.length Az):Int))] then
      some (.inl (((IntKind.wrap .i64 (GN+1)),(),(),AZ.1,d_49),TA,E7.1))
     else none
    else none
 else
  some (.inr ((),B5))
def Wh.abN:(((Unit))×((List (Int)))):=default
abbrev Wh.UC:Type:=((Int)×(Unit)×(Int)×(Int)×(Int))×((List (Int)))
abbrev Wh.aiC:Type:=((((Unit)×(Int)×(Int))×((List (Int)))))
def Wh.KQ (x:UC):Option (UC⊕aiC):=
 let Bq:=x.1.1
 let M6:=(x.1.2.2).1
 let d_19:=x.1.2.2.2.1
 let ND:=x.1.2.2.2.2
 let BE:=x.2
 bif decide (Bq<ND) then
  let DJ:List Int:=[Bq]
  let An:=BE++DJ
  bif jZ [decide (List.length BE+(1:Nat)≤eD)] then
   some (.inl (((IntKind.wrap .i64 (Bq+1)),(),M6,d_19,ND),An))
  else none
 else
  some (.inr (((),M6,d_19),BE))
def Wh.abM:(((Unit)×(Int)×(Int))×((List (Int)))):=default
def Wh.KP (xs:(Int)×(Int)):Option (((List (Int)))×(Unit)):=
 let B4:=xs.1
 let HF:=xs.2
 let r_2:=zog El HF
 let eB:=zog El r_2.1
 bif jZ [isSm (El r_2.1),isSm (El HF)] then
  let nG:=zog DM (eB.1,65536)
  let Cv:=zog q89 (B4,nG.1)
  bif jZ [isSm (q89 (B4,nG.1)),isSm (DM (eB.1,65536))] then
   let FL:UC:=((0,(),eB.1,Cv.1,B4),[])
   bif pY KQ FL then
    let FP:=oa KQ abM FL
    let s_28:=FP.1.2.1
    let d_29:=FP.1.2.2
    let Oi:=FP.2
    let Js:UD:=((0,(),(),s_28,d_29),Oi,[])
    bif pY IM Js then
     let Ns:=oa IM abN Js
     let Oq:=Ns.2
     some (Oq,())
    else none
   else none
  else none
 else none
def Wh.KU (xs:(gv.D)×(Int)):Option (((List (Int)))×(Unit)):=
 let fN:=xs.1
 let EL:=xs.2
 e_ C3 fN fun r_2=>
  bif decide (EL<r_2.1) then
   let Fy:List Int:=[EL]
   some (Fy,())
  else
   let nG:=zog q90 (fN,EL)
   let AM:=zog KP (nG.1,EL)
   bif jZ [isSm (KP (nG.1,EL)),isSm (q90 (fN,EL))] then
    some (AM.1,())
   else none
abbrev Wh.TQ:Type:=((Int)×(Int)×(Unit)×(Int))×((fT.D))
abbrev Wh.ahV:Type:=((((Int))×(Unit))⊕((Unit)×(Unit)))
def Wh.Ip (x:TQ):Option (TQ⊕ahV):=
 let CB:=x.1.1
 let Ny:=x.1.2.1
 let JH:=x.1.2.2.2
 let AL:=x.2
 let w8:Int:=(↑(List.length AL.1):Int)
 bif decide (CB<w8) then
  let lg:bp.D:=List.getD AL.1 (Int.toNat CB) (0,0,0,0,false,())
  let zT:=bif lg.2.1==JH then lg.2.2.1==Ny else false
  bif jZ [!lg.2.1==JH || decide (0≤CB),!lg.2.1==JH || decide (CB<w8),decide (0≤CB),decide (CB<w8)] then
   bif zT then
    some (.inr (.inl (CB,())))
   else
    some (.inl (((IntKind.wrap .i64 (CB+1)),Ny,(),JH),AL))
  else none
 else
  some (.inr (.inr ((),())))
def Wh.aa6:(((Int))×(Unit))⊕((Unit)×(Unit)):=.inl default
def Wh.Mv (xs:(fT.D)×(Int)×(Int)):Option (((Int))×(Unit)):=
 let fN:=xs.1
 let GK:=xs.2.1
 let RG:=xs.2.2
 let x_25:TQ:=((0,RG,(),GK),fN)
 bif pY Ip x_25 then
  sumC (oa Ip aa6 x_25) (fun Ci=>
   let nC:=Ci.1
   some (nC,())) (fun _=>
   some (-1,()))
 else none
abbrev Wh.U8:Type:=((Int)×(Unit)×(Unit)×(Int)×(Bool))×(((Unit)×((Int)×(Unit)))×((Unit)×((Int)×(Unit)))×(List (bp.D))×(List (bp.D)))
abbrev Wh.ai4:Type:=((((Unit)×(Int))×(((Unit)×((Int)×(Unit)))×(List (bp.D))))⊕(((Unit)×(Unit))×(((Unit)×((Int)×(Unit)))×((Unit)×((Int)×(Unit)))×(List (bp.D))×(List (bp.D)))))
def Wh.IY (x:U8):Option (U8⊕ai4):=
 let Qv:=x.1.1
 let P0:=x.1.2.2.2.1
 let Qy:=x.1.2.2.2.2
 let A5:=x.2.1.2
 let Bg:=(x.2.2.1).2
 let zC:=(x.2.2.2).1
 let xe:=x.2.2.2.2
 bif decide (Qv<17) then
  let Fx:bp.D:=List.getD zC (Int.toNat A5.1) (0,0,0,0,false,())
  bif jZ [decide (0≤A5.1),decide (A5.1<(↑(List.length zC):Int))] then
   let AF:Int:=Int.tmod (IntKind.wrap .i64 (A5.1+1)) 8
   let Ch:=bif Qy then bif Fx.2.1==0 then true else Fx.1 != P0 else false
   bif Ch then
    some (.inl (((IntKind.wrap .i64 (Qv+1)),(),(),P0,Qy),((),AF,A5.2),((),Bg),zC,xe))
   else
    bif decide ((Fx.2.2.2).1>0) then
     some (.inl (((IntKind.wrap .i64 (Qv+1)),(),(),P0,Qy),((),AF,A5.2),((),Bg),zC,xe))
    else
     bif Fx.2.2.2.2.1 then
      let EO:List (bp.D):=List.set zC (Int.toNat A5.1) (Fx.1,Fx.2.1,Fx.2.2.1,(Fx.2.2.2).1,false,Fx.2.2.2.2.2)
      bif jZ [decide (0≤A5.1),decide (A5.1<(↑(List.length zC):Int))] then
       some (.inl (((IntKind.wrap .i64 (Qv+1)),(),(),P0,Qy),((),AF,A5.2),((),Bg),EO,xe))
      else none
     else
      some (.inr (.inl (((),A5.1),((),AF,A5.2),zC)))
  else none
 else
  some (.inr (.inr (((),()),((),Bg),((),A5),xe,zC)))
def Wh.acj:(((Unit)×(Int))×(((Unit)×((Int)×(Unit)))×(List (bp.D))))⊕(((Unit)×(Unit))×(((Unit)×((Int)×(Unit)))×((Unit)×((Int)×(Unit)))×(List (bp.D))×(List (bp.D)))):=.inl default
def Wh.q53 (xs:((List (bp.D))×((Int)×(Unit)))×(Int)):Option ((((List (bp.D))×((Int)×(Unit)))×(Int))×(Unit)):=
 let fN:=xs.1
 let z6:=xs.2
 e_ KI (fN,z6) fun r_2=>
  let O6:U8:=((0,(),(),z6,(decide (r_2.1≥5))),((),fN.2),((),0,()),fN.1,[])
  bif pY IY O6 then
   sumC (oa IY acj O6) (fun Pb=>
    let Fb:=Pb.1.2
    let Cl:=Pb.2.1.2
    let H_:=Pb.2.2
    some (((H_,Cl),Fb),())) (fun Rl=>
    let Qp:=(Rl.2.2.1).2
    let L8:=Rl.2.2.2.2
    some (((L8,Qp),-1),()))
  else none
def Wh.G3 (xs:(fT.D)×(Int)×(Int)×(Int)):Option ((((List (bp.D))×((Int)×(Unit)))×(Int)×(Int))×(Unit)):=
 let fN:=xs.1
 let z6:=xs.2.1
 let GL:=xs.2.2.1
 let JC:=xs.2.2.2
 e_ Gh fN fun eB=>
  e_ Mv (eB.1,GL,JC) fun nG=>
   bif decide (nG.1≥0) then
    let z8:Int:=((((List.getD eB.1.1 (Int.toNat nG.1) (0,0,0,0,false,())).2).2).2).1
    let Cg:=bif decide (z8≥99999) then true else(List.getD eB.1.1 (Int.toNat nG.1) (0,0,0,0,false,())).1 != z6
    bif jZ [!!decide (z8≥99999) || decide (0≤nG.1),!!decide (z8≥99999) || decide (nG.1<(↑(List.length eB.1.1):Int)),decide (0≤nG.1),decide (nG.1<(↑(List.length eB.1.1):Int))] then
     bif Cg then
      bif jZ [isSm (Gh fN)] then
       some ((eB.1,0,3),())
      else none
     else
      let J8:List (bp.D):=List.set eB.1.1 (Int.toNat nG.1) ((List.getD eB.1.1 (Int.toNat nG.1) (0,0,0,0,false,())).1,((List.getD eB.1.1 (Int.toNat nG.1) (0,0,0,0,false,())).2).1,(((List.getD eB.1.1 (Int.toNat nG.1) (0,0,0,0,false,())).2).2).1,IntKind.wrap .i64 (z8+1),((((List.getD eB.1.1 (Int.toNat nG.1) (0,0,0,0,false,())).2).2).2).2)
      bif jZ [decide (0≤nG.1),decide (nG.1<(↑(List.length eB.1.1):Int)),decide (0≤nG.1),decide (nG.1<(↑(List.length eB.1.1):Int))] then
       let pb_13:List (bp.D):=List.set J8 (Int.toNat nG.1) ((List.getD J8 (Int.toNat nG.1) (0,0,0,0,false,())).1,((List.getD J8 (Int.toNat nG.1) (0,0,0,0,false,())).2).1,(((List.getD J8 (Int.toNat nG.1) (0,0,0,0,false,())).2).2).1,((((List.getD J8 (Int.toNat nG.1) (0,0,0,0,false,())).2).2).2).1,true,(((((List.getD J8 (Int.toNat nG.1) (0,0,0,0,false,())).2).2).2).2).2)
       bif jZ [decide (0≤nG.1),decide (nG.1<(↑(List.length J8):Int))] then
        some (((pb_13,eB.1.2),nG.1,0),())
       else none
      else none
    else none
   else
    e_ q53 (eB.1,z6) fun Gv=>
     bif decide (Gv.1.2<0) then
      bif jZ [isSm (Gh fN)] then
       some ((eB.1,0,2),())
      else none
     else
      let pb_16:List (bp.D):=List.set (Gv.1.1.1) (Int.toNat Gv.1.2) (z6,GL,JC,1,true,())
      bif jZ [decide (0≤Gv.1.2),decide (Gv.1.2<(↑(List.length (Gv.1.1.1)):Int))] then
       some (((pb_16,Gv.1.1.2),Gv.1.2,1),())
      else none
def Wh.Mu (xs:(fT.D)×(Int)):Option ((((List (bp.D))×((Int)×(Unit)))×(Bool))×(Unit)):=
 let fN:=xs.1
 let Db:=xs.2
 e_ G9 fN fun r_2=>
  bif !r_2.1 then
   some ((([],0,()),false),())
  else
   e_ Gh fN fun r_3=>
    let eB:=zog r_ (Db,0,7)
    let zW:=bif !eB.1 then true else((((List.getD r_3.1.1 (Int.toNat Db) (0,0,0,0,false,())).2).2).2).1==0
    bif jZ [!!!eB.1 || decide (0≤Db),!!!eB.1 || decide (Db<(↑(List.length r_3.1.1):Int)),isSm (r_ (Db,0,7))] then
     bif zW then
      some ((r_3.1,false),())
     else
      let pb_6:List (bp.D):=List.set r_3.1.1 (Int.toNat Db) ((List.getD r_3.1.1 (Int.toNat Db) (0,0,0,0,false,())).1,((List.getD r_3.1.1 (Int.toNat Db) (0,0,0,0,false,())).2).1,(((List.getD r_3.1.1 (Int.toNat Db) (0,0,0,0,false,())).2).2).1,IntKind.wrap .i64 (((((List.getD r_3.1.1 (Int.toNat Db) (0,0,0,0,false,())).2).2).2).1-1),((((List.getD r_3.1.1 (Int.toNat Db) (0,0,0,0,false,())).2).2).2).2)
      bif jZ [decide (0≤Db),decide (Db<(↑(List.length r_3.1.1):Int)),decide (0≤Db),decide (Db<(↑(List.length r_3.1.1):Int))] then
       some (((pb_6,r_3.1.2),true),())
      else none
    else none
abbrev Wh.Uf:Type:=((Int)×(List UInt8)×(List UInt8))×(Unit)
abbrev Wh.aii:Type:=((((List UInt8))×(Unit)))
def Wh.Kz (x:Uf):Option (Uf⊕aii):=
 let Qu:=x.1.1
 let Bw:=x.1.2.1
 let Qx:=x.1.2.2
 bif decide (Qu>0) then
  let w8:Bool:=(Int.tmod Qu 2)==1
  bif w8 then
   let je:List UInt8:=Qx++Bw
   bif jZ [decide (List.length Qx+List.length Bw≤eD)] then
    let lg:List UInt8:=Bw++Bw
    bif jZ [decide (List.length Bw+List.length Bw≤eD)] then
     some (.inl (((IntKind.wrap .i64 (Int.tdiv Qu 2)),lg,je),()))
    else none
   else none
  else
   let zK:List UInt8:=Bw++Bw
   bif jZ [decide (List.length Bw+List.length Bw≤eD)] then
    some (.inl (((IntKind.wrap .i64 (Int.tdiv Qu 2)),zK,Qx),()))
   else none
 else
  some (.inr (Qx,()))
def Wh.abr:(((List UInt8))×(Unit)):=default
def Wh.Ky (xs:(List UInt8)×(Int)):Option (((List UInt8))×(Unit)):=
 let cr:=xs.1
 let n_1:=xs.2
 let x_24:Uf:=((n_1,cr,[]),())
 bif pY Kz x_24 then
  let y_25:=oa Kz abr x_24
  let out_26:=y_25.1
  some (out_26,())
 else none
def Wh.Iy (xs:(Int)):Option (((List UInt8))×(Unit)):=
 let size_0:=xs
 e_ Ky (sM [(0:Int)],size_0) fun r_1=>
  some (r_1.1,())
abbrev Wh.UE:Type:=((Int)×(Unit)×(List UInt8)×(Unit))×((gv.D)×(List (List UInt8)))
abbrev Wh.aiE:Type:=((((Unit))×((List (List UInt8)))))
def Wh.KS (x:UE):Option (UE⊕aiE):=
 let LU:=x.1.1
 let Rv:=(x.1.2.2).1
 let An:=x.2.1
 let A5:=x.2.2
 e_ C3 An fun r_26=>
  bif decide (LU<r_26.1) then
   let Dn:List (List UInt8):=[List.take (Int.toNat (IntKind.wrap .i64 (IntKind.wrap .i64 (LU+1)*An.2.1)-IntKind.wrap .i64 (LU*An.2.1))) (List.drop (Int.toNat (IntKind.wrap .i64 (LU*An.2.1))) Rv)]
   let GQ:List (List UInt8):=A5++Dn
   let zG:=IntKind.wrap .i64 (LU*An.2.1)
   let HJ:=IntKind.wrap .i64 (LU+1)
   bif jZ [decide (List.length A5+(1:Nat)≤eD),decide (0≤zG),decide (zG≤IntKind.wrap .i64 (HJ*An.2.1)),decide (IntKind.wrap .i64 (HJ*An.2.1)≤(↑(List.length Rv):Int))] then
    some (.inl ((HJ,(),Rv,()),An,GQ))
   else none
  else
   some (.inr ((),A5))
def Wh.abO:(((Unit))×((List (List UInt8)))):=default
def Wh.KR (xs:(gv.D)×(List UInt8)):Option (((List (List UInt8)))×(Unit)):=
 let fN:=xs.1
 let Fa:=xs.2
 let r_2:=zog C3 fN
 let Bt:=zog Iy (IntKind.wrap .i64 (IntKind.wrap .i64 (r_2.1*fN.2.1)-(↑(List.length Fa):Int)))
 let all_9:List UInt8:=Fa++Bt.1
 bif jZ [decide (List.length Fa+List.length ((zog Iy (IntKind.wrap .i64 (IntKind.wrap .i64 (r_2.1*fN.2.1)-(↑(List.length Fa):Int)))).1)≤eD),isSm (Iy (IntKind.wrap .i64 (IntKind.wrap .i64 (r_2.1*fN.2.1)-(↑(List.length Fa):Int)))),isSm (C3 fN)] then
  let Jp:UE:=((0,(),all_9,()),fN,[])
  bif pY KS Jp then
   let Nq:=oa KS abO Jp
   let DE:=Nq.2
   some (DE,())
  else none
 else none
abbrev Wh.T3:Type:=((Int)×(List UInt8)×(List UInt8)×(Unit))×((List (Int)))
abbrev Wh.ah5:Type:=((((Unit))×((List (Int)))))
def Wh.Km (x:T3):Option (T3⊕ah5):=
 let tn:=x.1.1
 let Jy:=x.1.2.1
 let a_14:=(x.1.2.2).1
 let zY:=x.2
 let nI:=decide (tn<(↑(List.length a_14):Int))
 bif nI then
  let Dm:List Int:=[pS Go.BinOp.xor Go.IntKind.u8 (↑(UInt8.toNat (List.getD a_14 (Int.toNat tn) (0:UInt8))):Int) (↑(UInt8.toNat (List.getD Jy (Int.toNat tn) (0:UInt8))):Int)]
  let y4:=zY++Dm
  bif jZ [decide (List.length zY+(1:Nat)≤eD),decide (0≤tn),decide (tn<(↑(List.length Jy):Int)),decide (0≤tn),nI] then
   some (.inl (((IntKind.wrap .i64 (tn+1)),Jy,a_14,()),y4))
  else none
 else
  some (.inr ((),zY))
def Wh.abe:(((Unit))×((List (Int)))):=default
def Wh.Kl (xs:(List UInt8)×(List UInt8)):Option (((List UInt8))×(Unit)):=
 let cx:=xs.1
 let b_1:=xs.2
 let x_22:T3:=((0,b_1,cx,()),[])
 bif pY Km x_22 then
  let HP:=oa Km abe x_22
  let An:=HP.2
  some (sM An,())
 else none
abbrev Wh.UA:Type:=((Int)×(List (Int))×(List (List UInt8))×(List UInt8))×(Unit)
abbrev Wh.aiB:Type:=((((List UInt8))×(Unit)))
def Wh.KO (x:UA):Option (UA⊕aiB):=
 let ia:=x.1.1
 let VI:=x.1.2.1
 let Pp:=(x.1.2.2).1
 let Ts:=x.1.2.2.2
 let je:=decide (ia<(↑(List.length VI):Int))
 bif je then
  let lg:=List.getD VI (Int.toNat ia) 0
  let OQ:=zog Kl (Ts,List.getD Pp (Int.toNat lg) [])
  bif jZ [isSm (Kl (Ts,List.getD Pp (Int.toNat lg) [])),decide (0≤lg),decide (lg<(↑(List.length Pp):Int)),decide (0≤ia),je] then
   some (.inl (((IntKind.wrap .i64 (ia+1)),VI,Pp,OQ.1),()))
  else none
 else
  some (.inr (Ts,()))
def Wh.abL:(((List UInt8))×(Unit)):=default
def Wh.IL (xs:(List (List UInt8))×(List (Int))×(Int)):Option (((List UInt8))×(Unit)):=
 let JD:=xs.1
 let OW:=xs.2.1
 let size_2:=xs.2.2
 e_ Ky (sM [(0:Int)],size_2) fun r_3=>
  let FL:UA:=((0,OW,JD,r_3.1),())
  bif pY KO FL then
   let FP:=oa KO abL FL
   let out_28:=FP.1
   some (out_28,())
  else none
abbrev Wh.TU:Type:=((Int)×(Unit)×(Unit)×(Unit)×(Unit)×(Unit)×(Unit)×(Int))×(((Bool)×((Int)×((List UInt8)×(((Int)×((Unit)×(Unit)))×(((Unit)×((Int)×(Unit)))×((Unit)×((Unit)×(Unit))))))))×(List (Int))×(an.D)×((Bool)×((Int)×((List UInt8)×(((Int)×((Unit)×(Unit)))×(((Unit)×((Int)×(Unit)))×((Unit)×((Unit)×(Unit))))))))×((Int)×((Int)×((Unit)×((Unit)×(Unit)))))×(bx.D)×(List (an.D))×(List (bp.D))×(List (di.D))×(List (bx.D))×(List (an.D))×(List (bp.D))×(List (di.D))×(List (bx.D))×(List (Int))×(List (Int)))
abbrev Wh.ahZ:Type:=((((Unit)×(Unit)×(Unit)×(Unit)×(Unit)×(Unit)×(Int))×(((Bool)×((Int)×((List UInt8)×(((Int)×((Unit)×(Unit)))×(((Unit)×((Int)×(Unit)))×((Unit)×((Unit)×(Unit))))))))×((Int)×((Int)×((Unit)×((Unit)×(Unit)))))×(List (Int))×(an.D)×(bx.D)×((Bool)×((Int)×((List UInt8)×(((Int)×((Unit)×(Unit)))×(((Unit)×((Int)×(Unit)))×((Unit)×((Unit)×(Unit))))))))×(List (an.D))×(List (bp.D))×(List (di.D))×(List (bx.D))×(List (Int))×(List (Int))×(List (an.D))×(List (bp.D))×(List (di.D))×(List (bx.D)))))
def Wh.G5 (x:TU):Option (TU⊕ahZ):=
 let GN:=x.1.1
 let NZ:=(x.1.2.2.2.2).2.2.2
 let Ia:=x.2.1.1
 let Az:=(x.2.1.2).1
 let B5:=x.2.1.2.2.1
 let EP:=(x.2.1.2.2.2).1.1
 let Cm:=(x.2.1.2.2.2).1.2.2
 let Df:=(x.2.1.2.2.2).2.1.2
 let Fv:=(x.2.1.2.2.2).2.2.2.2
 let Cn:=x.2.2.1
 let BF:=(x.2.2.2).1
 let B6:=(x.2.2.2.2.1).1
 let Bh:=(x.2.2.2.2.1).2.1
 let J2:=(x.2.2.2.2.1).2.2.1
 let Oo:=(x.2.2.2.2.1).2.2.2.1.1
 let L9:=(x.2.2.2.2.1).2.2.2.1.2.2
 let Tb:=(x.2.2.2.2.1).2.2.2.2.1.2
 let Tc:=(x.2.2.2.2.1).2.2.2.2.2.2.2
 let Oq:=(x.2.2.2.2.2).1.1
 let Ib:=(x.2.2.2.2.2).1.2.1
 let Ic:=(x.2.2.2.2.2).1.2.2.2.2
 let Ie:=(x.2.2.2.2.2).2.1
 let Ot:=(x.2.2.2.2.2).2.2.1
 let Qr:=(x.2.2.2.2.2).2.2.2.1
 let Eb:=(x.2.2.2.2.2).2.2.2.2.1
 let ER:=(x.2.2.2.2.2).2.2.2.2.2.1
 let Ec:=(x.2.2.2.2.2).2.2.2.2.2.2.1
 let Co:=(x.2.2.2.2.2).2.2.2.2.2.2.2.1
 let B7:=(x.2.2.2.2.2).2.2.2.2.2.2.2.2.1
 let Dg:=(x.2.2.2.2.2).2.2.2.2.2.2.2.2.2.1
 let Dh:=(x.2.2.2.2.2).2.2.2.2.2.2.2.2.2.2.1
 let Ed:=(x.2.2.2.2.2).2.2.2.2.2.2.2.2.2.2.2
 let Rc:=decide (GN<(↑(List.length Cn):Int))
 bif Rc then
  let QT:=zog G3 ((Qr,Df),BF.1,BF.2.2.1,List.getD Cn (Int.toNat GN) 0)
  let Re:=List.getD Cn (Int.toNat GN) 0
  bif jZ [isSm (G3 ((Qr,Df),BF.1,BF.2.2.1,Re)),decide (0≤GN),Rc] then
   let O3:=bif(QT.1.2.2==0) then true else QT.1.2.2==1
   bif O3 then
    e_ Mu (QT.1.1,QT.1.2.1) fun r_84=>
     some (.inl (((IntKind.wrap .i64 (GN+1)),(),(),(),(),(),(),NZ),(Ia,Az,B5,(EP,(),Cm),((),r_84.1.1.2),(),(),Fv),Cn,BF,(B6,Bh,J2,(Oo,(),L9),((),Tb),(),(),Tc),(Oq,Ib,(),(),Ic),Ie,Ot,r_84.1.1.1,Eb,ER,Ec,Co,B7,Dg,Dh,Ed))
   else
    some (.inl (((IntKind.wrap .i64 (GN+1)),(),(),(),(),(),(),NZ),(Ia,Az,B5,(EP,(),Cm),((),Df),(),(),Fv),Cn,BF,(B6,Bh,J2,(Oo,(),L9),((),Tb),(),(),Tc),(Oq,Ib,(),(),Ic),Ie,Ot,Qr,Eb,ER,Ec,Co,B7,Dg,Dh,Ed))
  else none
 else
  some (.inr (((),(),(),(),(),(),NZ),(B6,Bh,J2,(Oo,(),L9),((),Tb),(),(),Tc),(Oq,Ib,(),(),Ic),Cn,BF,Ie,(Ia,Az,B5,(EP,(),Cm),((),Df),(),(),Fv),Ec,Co,B7,Dg,Dh,Ed,Ot,Qr,Eb,ER))
def Wh.aa_:(((Unit)×(Unit)×(Unit)×(Unit)×(Unit)×(Unit)×(Int))×(((Bool)×((Int)×((List UInt8)×(((Int)×((Unit)×(Unit)))×(((Unit)×((Int)×(Unit)))×((Unit)×((Unit)×(Unit))))))))×((Int)×((Int)×((Unit)×((Unit)×(Unit)))))×(List (Int))×(an.D)×(bx.D)×((Bool)×((Int)×((List UInt8)×(((Int)×((Unit)×(Unit)))×(((Unit)×((Int)×(Unit)))×((Unit)×((Unit)×(Unit))))))))×(List (an.D))×(List (bp.D))×(List (di.D))×(List (bx.D))×(List (Int))×(List (Int))×(List (an.D))×(List (bp.D))×(List (di.D))×(List (bx.D)))):=(default,(default,default,default,default,default,default,default,default,default,default,default,default,default,default,default,default))
def Wh.Mz (xs:((Bool)×((Int)×((List UInt8)×(((Int)×((List (an.D))×(Unit)))×(((List (bp.D))×((Int)×(Unit)))×((List (di.D))×((List (bx.D))×(Unit))))))))×(Int)×(an.D)):Option ((((Bool)×((Int)×((List UInt8)×(((Int)×((List (an.D))×(Unit)))×(((List (bp.D))×((Int)×(Unit)))×((List (di.D))×((List (bx.D))×(Unit))))))))×(List (r5.D)))×(Unit)):=
 let cr:=xs.1
 let k_1:=xs.2.1
 let t_2:=xs.2.2
 let ET:bx.D:=List.getD ((cr.2.2.2.2.2).2.1) (Int.toNat k_1) (0,0,0,0,0,0,())
 bif jZ [decide (0≤k_1),decide (k_1<(↑(List.length ((cr.2.2.2.2.2).2.1)):Int))] then
  let eB:=zog Cb (↑(List.length ((t_2.2.2.2).1)):Int)
  let zW:Int:=(↑(List.length ((t_2.2.2.2).1)):Int)
  bif jZ [isSm (Cb zW)] then
   e_ KU (eB.1,(ET.2.2.2).1) fun AM=>
    let x_87:TU:=((0,(),(),(),(),(),(),k_1),(cr.1,cr.2.1,cr.2.2.1,((cr.2.2.2).1.1,(),(cr.2.2.2).1.2.2),((),(cr.2.2.2.2.1).2),(),(),(cr.2.2.2.2.2).2.2),AM.1,t_2,(false,0,[],(0,(),()),((),0,()),(),(),()),(eB.1.1,eB.1.2.1,(),(),eB.1.2.2.2.2),ET,(cr.2.2.2).1.2.1,(cr.2.2.2.2.1).1,(cr.2.2.2.2.2).1,(cr.2.2.2.2.2).2.1,[],[],[],[],(eB.1.2.2).1,eB.1.2.2.2.1)
    bif pY G5 x_87 then
     let BX:=oa G5 aa_ x_87
     let CU:=(BX.1.2.2.2.2).2.2
     let Mb:=BX.2.2.1.1
     let Ov:=(BX.2.2.1).2.1
     let ls_99:=(BX.2.2.1).2.2.2.2
     let ZQ:=(BX.2.2.2).1
     let ZR:=BX.2.2.2.2.1
     let HY:=(BX.2.2.2.2.2).1
     let Sy:=(BX.2.2.2.2.2).2.1.1
     let Ay:=(BX.2.2.2.2.2).2.1.2.1
     let N4:=(BX.2.2.2.2.2).2.1.2.2.1
     let N5:=(BX.2.2.2.2.2).2.1.2.2.2.1.1
     let ls_107:=(BX.2.2.2.2.2).2.1.2.2.2.1.2.2
     let ls_108:=(BX.2.2.2.2.2).2.1.2.2.2.2.1.2
     let ls_109:=(BX.2.2.2.2.2).2.1.2.2.2.2.2.2.2
     let ZS:=(BX.2.2.2.2.2).2.2.2.2.2.2.1
     let Qc:=(BX.2.2.2.2.2).2.2.2.2.2.2.2.1
     let ls_116:=(BX.2.2.2.2.2).2.2.2.2.2.2.2.2.1
     let ls_117:=(BX.2.2.2.2.2).2.2.2.2.2.2.2.2.2.1
     let N7:=(BX.2.2.2.2.2).2.2.2.2.2.2.2.2.2.2.1
     let L3:=(BX.2.2.2.2.2).2.2.2.2.2.2.2.2.2.2.2
     e_ Cr HY.1 fun Hx=>
      let ls_121:List (di.D):=List.set N7 (Int.toNat Hx.1) (IntKind.wrap .i64 ((List.getD N7 (Int.toNat Hx.1) (0,0,0,0,())).1-Ov),(List.getD N7 (Int.toNat Hx.1) (0,0,0,0,())).2)
      bif jZ [decide (0≤Hx.1),decide (Hx.1<(↑(List.length N7):Int)),decide (0≤Hx.1),decide (Hx.1<(↑(List.length N7):Int))] then
       let HZ:List (bx.D):=List.set L3 (Int.toNat CU) ((List.getD L3 (Int.toNat CU) (0,0,0,0,0,0,())).1,((List.getD L3 (Int.toNat CU) (0,0,0,0,0,0,())).2).1,(((List.getD L3 (Int.toNat CU) (0,0,0,0,0,0,())).2).2).1,Int.tmod (IntKind.wrap .i64 ((HY.2.2.2).1+1)) 10000,((((List.getD L3 (Int.toNat CU) (0,0,0,0,0,0,())).2).2).2).2)
       bif jZ [decide (0≤CU),decide (CU<(↑(List.length L3):Int)),true] then
        let ls_127:List (bx.D):=List.set HZ (Int.toNat CU) ((List.getD HZ (Int.toNat CU) (0,0,0,0,0,0,())).1,((List.getD HZ (Int.toNat CU) (0,0,0,0,0,0,())).2).1,(((List.getD HZ (Int.toNat CU) (0,0,0,0,0,0,())).2).2).1,((((List.getD HZ (Int.toNat CU) (0,0,0,0,0,0,())).2).2).2).1,(((((List.getD HZ (Int.toNat CU) (0,0,0,0,0,0,())).2).2).2).2).1,Ay,((((((List.getD HZ (Int.toNat CU) (0,0,0,0,0,0,())).2).2).2).2).2).2)
        bif jZ [decide (0≤CU),decide (CU<(↑(List.length HZ):Int))] then
         let r_128:=zog KR ((Mb,Ov,ZS,Qc,ls_99),(ZR.2.2.2).1)
         let r_129:=zog IL (r_128.1,ZQ,Ov)
         let pb_130:List (r5.D):=[(3,HY.1,HY.2.1,HY.2.2.1,(HY.2.2.2).1,[],r_129.1,())]
         bif jZ [isSm (IL (r_128.1,ZQ,Ov)),isSm (KR ((Mb,Ov,ZS,Qc,ls_99),(ZR.2.2.2).1))] then
          some (((Sy,Ay,N4,(N5,ls_116,ls_107),(ls_117,ls_108),ls_121,ls_127,ls_109),pb_130),())
         else none
        else none
       else none
      else none
    else none
  else none
 else none
abbrev Wh.UW:Type:=((Int)×(Unit)×(Unit))×(((Bool)×((Int)×((List UInt8)×(((Int)×((Unit)×(Unit)))×(((Unit)×((Int)×(Unit)))×((Unit)×((Unit)×(Unit))))))))×((Bool)×((Int)×((List UInt8)×(((Int)×((Unit)×(Unit)))×(((Unit)×((Int)×(Unit)))×((Unit)×((Unit)×(Unit))))))))×(List (an.D))×(List (bp.D))×(List (di.D))×(List (bx.D))×(List (an.D))×(List (bp.D))×(List (di.D))×(List (bx.D)))
abbrev Wh.aiT:Type:=((((Unit)×(Unit))×(((Bool)×((Int)×((List UInt8)×(((Int)×((Unit)×(Unit)))×(((Unit)×((Int)×(Unit)))×((Unit)×((Unit)×(Unit))))))))×((Bool)×((Int)×((List UInt8)×(((Int)×((Unit)×(Unit)))×(((Unit)×((Int)×(Unit)))×((Unit)×((Unit)×(Unit))))))))×(List (an.D))×(List (bp.D))×(List (di.D))×(List (bx.D))×(List (an.D))×(List (bp.D))×(List (di.D))×(List (bx.D)))))
def Wh.MR (x:UW):Option (UW⊕aiT):=
 let h_34:=x.1.1
 let Au:=x.2.1.1
 let DE:=(x.2.1.2).1
 let EO:=x.2.1.2.2.1
 let Ad:=(x.2.1.2.2.2).1.1
 let DF:=(x.2.1.2.2.2).1.2.2
 let H8:=(x.2.1.2.2.2).2.1.2
 let H9:=(x.2.1.2.2.2).2.2.2.2
 let GR:=x.2.2.1.1
 let Cl:=(x.2.2.1).2.1
 let H_:=(x.2.2.1).2.2.1
 let L7:=(x.2.2.1).2.2.2.1.1
 let Qp:=(x.2.2.1).2.2.2.1.2.2
 let Qq:=(x.2.2.1).2.2.2.2.1.2
 let L8:=(x.2.2.1).2.2.2.2.2.2.2
 let Ia:=(x.2.2.2).1
 let Az:=x.2.2.2.2.1
 let B5:=(x.2.2.2.2.2).1
 let EP:=(x.2.2.2.2.2).2.1
 let Cm:=(x.2.2.2.2.2).2.2.1
 let Df:=(x.2.2.2.2.2).2.2.2.1
 let Fv:=(x.2.2.2.2.2).2.2.2.2.1
 let Cn:=(x.2.2.2.2.2).2.2.2.2.2
 bif decide (h_34<2) then
  let r_58:=zog Gq (List.getD B5 (Int.toNat h_34) (0,0,0,0,()),DE)
  let Bh:List (di.D):=List.set B5 (Int.toNat h_34) r_58.1
  let Jl:di.D:=List.getD B5 (Int.toNat h_34) (0,0,0,0,())
  bif jZ [decide (0≤h_34),decide (h_34<(↑(List.length B5):Int)),isSm (Gq (Jl,DE)),decide (0≤h_34),decide (h_34<(↑(List.length B5):Int))] then
   some (.inl (((IntKind.wrap .i64 (h_34+1)),(),()),(Au,DE,EO,(Ad,(),DF),((),H8),(),(),H9),(GR,Cl,H_,(L7,(),Qp),((),Qq),(),(),L8),Ia,Az,Bh,EP,Cm,Df,Fv,Cn))
  else none
 else
  some (.inr (((),()),(GR,Cl,H_,(L7,(),Qp),((),Qq),(),(),L8),(Au,DE,EO,(Ad,(),DF),((),H8),(),(),H9),Cm,Df,Fv,Cn,Ia,Az,B5,EP))
def Wh.ab5:(((Unit)×(Unit))×(((Bool)×((Int)×((List UInt8)×(((Int)×((Unit)×(Unit)))×(((Unit)×((Int)×(Unit)))×((Unit)×((Unit)×(Unit))))))))×((Bool)×((Int)×((List UInt8)×(((Int)×((Unit)×(Unit)))×(((Unit)×((Int)×(Unit)))×((Unit)×((Unit)×(Unit))))))))×(List (an.D))×(List (bp.D))×(List (di.D))×(List (bx.D))×(List (an.D))×(List (bp.D))×(List (di.D))×(List (bx.D)))):=default
def Wh.E3 (xs:(eA.D)):Option ((((Bool)×((Int)×((List UInt8)×((fe.D)×((fT.D)×((List (di.D))×((List (bx.D))×(Unit))))))))×(List (r5.D)))×(Unit)):=
 let cr:eA.D:=xs
 e_ q85 cr fun r_1=>
  bif !r_1.1 then
   some (((false,0,[],(0,[],()),([],0,()),[],[],()),[]),())
  else
   e_ Mw cr fun r_2=>
    let zV:=bif(!cr.1) then true else decide (cr.2.1≥99999)
    bif zV then
     some ((r_2.1,[]),())
    else
     let x_62:UW:=((0,(),()),(r_2.1.1,(IntKind.wrap .i64 (cr.2.1+1)),(r_2.1.2.2).1,((r_2.1.2.2.2.1).1,(),(r_2.1.2.2.2.1).2.2),((),(r_2.1.2.2.2.2).1.2),(),(),(r_2.1.2.2.2.2).2.2.2),(false,0,[],(0,(),()),((),0,()),(),(),()),(r_2.1.2.2.2.1).2.1,(r_2.1.2.2.2.2).1.1,(r_2.1.2.2.2.2).2.1,(r_2.1.2.2.2.2).2.2.1,[],[],[],[])
     bif pY MR x_62 then
      let FR:=oa MR ab5 x_62
      let Eb:=FR.2.2.1.1
      let ER:=(FR.2.2.1).2.1
      let Ec:=(FR.2.2.1).2.2.1
      let Co:=(FR.2.2.1).2.2.2.1.1
      let B7:=(FR.2.2.1).2.2.2.1.2.2
      let Dg:=(FR.2.2.1).2.2.2.2.1.2
      let Dh:=(FR.2.2.1).2.2.2.2.2.2.2
      let CE:=(FR.2.2.2.2.2).2.2.1
      let Fw:=(FR.2.2.2.2.2).2.2.2.1
      let Ee:=(FR.2.2.2.2.2).2.2.2.2.1
      let CW:=(FR.2.2.2.2.2).2.2.2.2.2
      e_ My (Eb,ER,Ec,(Co,CE,B7),(Fw,Dg),Ee,CW,Dh) fun OT=>
       e_ Ki (OT.1,ER) fun QV=>
        bif decide (QV.1<0) then
         some (((Eb,ER,Ec,(Co,CE,B7),(Fw,Dg),Ee,CW,Dh),[]),())
        else
         let Nj:Int:=(List.getD OT.1 (Int.toNat QV.1) (0,0,0,())).1
         let E8:=zog KK ((Eb,ER,Ec,(Co,CE,B7),(Fw,Dg),Ee,CW,Dh),Nj)
         bif jZ [isSm (KK ((Eb,ER,Ec,(Co,CE,B7),(Fw,Dg),Ee,CW,Dh),Nj)),decide (0≤QV.1),decide (QV.1<(↑(List.length OT.1):Int))] then
          let r_92:=zog FC ((Co,CE,B7),(((List.getD CW (Int.toNat E8.1) (0,0,0,0,0,0,())).2).2).1)
          let v_93:Int:=(((List.getD CW (Int.toNat E8.1) (0,0,0,0,0,0,())).2).2).1
          bif jZ [isSm (FC ((Co,CE,B7),v_93)),decide (0≤E8.1),decide (E8.1<(↑(List.length CW):Int))] then
           bif(!r_92.1.2) then
            let Ik:bx.D:=List.getD CW (Int.toNat E8.1) (0,0,0,0,0,0,())
            bif jZ [decide (0≤E8.1),decide (E8.1<(↑(List.length CW):Int))] then
             let r_96:=zog q36 ((Eb,ER,Ec,(Co,CE,B7),(Fw,Dg),Ee,CW,Dh),Ik.1)
             let OU:=zog Mx (Ik.1,Ik.2.1,Ik.2.2.1)
             bif jZ [isSm (Mx (Ik.1,Ik.2.1,Ik.2.2.1)),isSm (q36 ((Eb,ER,Ec,(Co,CE,B7),(Fw,Dg),Ee,CW,Dh),Ik.1))] then
              some ((r_96.1,OU.1),())
             else none
            else none
           else
            e_ Mz ((Eb,ER,Ec,(Co,CE,B7),(Fw,Dg),Ee,CW,Dh),E8.1,r_92.1.1) fun r_98=>
             some (r_98.1,())
          else none
         else none
     else none
def Wh.q58 (xs:(di.D)×(Int)):Option (((di.D))×(Unit)):=
 let wh:=xs.1
 let DG:=xs.2
 let r_2:=zog Hr wh
 let r_3:=zog gz (DG,0,99999)
 let zV:=bif !r_2.1 then true else !r_3.1
 bif jZ [!!!r_2.1 || isSm (gz (DG,0,99999)),isSm (Hr wh)] then
  bif zV then
   some ((0,0,0,0,()),())
  else
   bif decide (DG<(wh.2.2.2).1) then
    some (wh,())
   else
    let pb_6:Int:=if wh.2.1<IntKind.wrap .i64 (wh.1+IntKind.wrap .i64 (wh.2.2.1*IntKind.wrap .i64 (DG-(wh.2.2.2).1))) then wh.2.1 else IntKind.wrap .i64 (wh.1+IntKind.wrap .i64 (wh.2.2.1*IntKind.wrap .i64 (DG-(wh.2.2.2).1)))
    some ((pb_6,wh.2.1,wh.2.2.1,DG,wh.2.2.2.2),())
 else none
abbrev Wh.Vz:Type:=((Int)×(Int)×(List (zR.D))×(Int)×(List (zR.D))×(Int))×(Unit)
abbrev Wh.ajv:Type:=((((Int))×(Unit))⊕(((Int))×(Unit)))
def Wh.I7 (x:Vz):Option (Vz⊕ajv):=
 let qe:=x.1.1
 let GH:=x.1.2.1
 let L1:=(x.1.2.2).1
 let Oy:=x.1.2.2.2.1
 let CL:=(x.1.2.2.2.2).1
 let s_:=(x.1.2.2.2.2).2
 bif decide (qe<s_) then
  let Dn:=List.getD CL (Int.toNat qe) (0,0,0,())
  bif jZ [decide (0≤qe),decide (qe<(↑(List.length CL):Int))] then
   let AH:=decide (Oy>99999)
   let M3:=zog gz (Dn.2.1,0,99999)
   let Cu:=zog gz (Dn.2.2.1,0,Oy)
   let Bz:=bif bif AH then true else !M3.1 then true else !Cu.1
   bif jZ [(!!bif AH then true else !M3.1) || isSm (gz (Dn.2.2.1,0,Oy)),!!AH || isSm (gz (Dn.2.1,0,99999))] then
    bif Bz then
     some (.inr (.inl (-1,())))
    else
     let Ak:=decide (GH<0)
     let zL:=bif Ak then true else decide (IntKind.wrap .i64 (Dn.2.1-Dn.2.2.1)>IntKind.wrap .i64 (((List.getD L1 (Int.toNat GH) (0,0,0,())).2).1-(((List.getD L1 (Int.toNat GH) (0,0,0,())).2).2).1))
     bif jZ [!!Ak || decide (0≤GH),!!Ak || decide (GH<(↑(List.length L1):Int)),!!Ak || decide (0≤GH),!!Ak || decide (GH<(↑(List.length L1):Int))] then
      bif zL then
       some (.inl (((IntKind.wrap .i64 (qe+1)),qe,L1,Oy,CL,s_),()))
      else
       some (.inl (((IntKind.wrap .i64 (qe+1)),GH,L1,Oy,CL,s_),()))
     else none
   else none
  else none
 else
  some (.inr (.inr (GH,())))
def Wh.acO:(((Int))×(Unit))⊕(((Int))×(Unit)):=.inl default
def Wh.q94 (xs:(List (zR.D))×(Int)):Option (((Int))×(Unit)):=
 let GO:=xs.1
 let DG:=xs.2
 let v_2:Int:=(↑(List.length GO):Int)
 let O6:Vz:=((0,-1,GO,DG,GO,v_2),())
 bif pY I7 O6 then
  sumC (oa I7 acO O6) (fun Pb=>
   let Fb:=Pb.1
   some (Fb,())) (fun Rl=>
   let adP:=Rl.1
   some (adP,()))
 else none
abbrev Wh.Uu:Type:=((Int)×(Unit)×(Unit)×(List (Int))×(List (Int))×(Int))×((eA.D)×(List (zR.D)))
abbrev Wh.aiw:Type:=((((List (Int))×(Unit)×(Unit))×((eA.D)×(List (zR.D)))))
def Wh.KJ (x:Uu):Option (Uu⊕aiw):=
 let nI:=x.1.1
 let z_:=x.1.2.2.2.1
 let ZJ:=(x.1.2.2.2.2).1
 let je:=(x.1.2.2.2.2).2
 let A4:=x.2.1
 let BE:=x.2.2
 bif decide (nI<je) then
  let zT:=List.getD z_ (Int.toNat nI) 0
  bif jZ [decide (0≤nI),decide (nI<(↑(List.length z_):Int))] then
   let Ij:List (zR.D):=[(zT,IntKind.wrap .i64 (3-(((((List.getD ((A4.2.2.2.2.2).2.1) (Int.toNat zT) (0,0,0,0,0,0,())).2).2).2).2).1),((((((List.getD ((A4.2.2.2.2.2).2.1) (Int.toNat zT) (0,0,0,0,0,0,())).2).2).2).2).2).1,())]
   let A5:=BE++Ij
   bif jZ [decide (List.length BE+(1:Nat)≤eD),decide (0≤zT),decide (zT<(↑(List.length ((A4.2.2.2.2.2).2.1)):Int)),decide (0≤zT),decide (zT<(↑(List.length ((A4.2.2.2.2.2).2.1)):Int))] then
    some (.inl (((IntKind.wrap .i64 (nI+1)),(),(),z_,ZJ,je),A4,A5))
   else none
  else none
 else
  some (.inr ((ZJ,(),()),A4,BE))
def Wh.abG:(((List (Int))×(Unit)×(Unit))×((eA.D)×(List (zR.D)))):=default
def Wh.FB (xs:(eA.D)×(List (Int))):Option (((Int))×(Unit)):=
 let cr:=xs.1
 let Sw:=xs.2
 let DU:Uu:=((0,(),(),Sw,Sw,(↑(List.length Sw):Int)),cr,[])
 bif pY KJ DU then
  let Dw:=oa KJ abG DU
  let ZK:=Dw.1.1
  let AY:=Dw.2.1
  let Ai:=Dw.2.2
  e_ q94 (Ai,AY.2.1) fun A9=>
   bif decide (A9.1<0) then
    some (-1,())
   else
    let BU:=List.getD ZK (Int.toNat A9.1) 0
    bif jZ [decide (0≤A9.1),decide (A9.1<(↑(List.length ZK):Int))] then
     some (BU,())
    else none
 else none
def Wh.q18 (xs:(eA.D)×(Int)):Option (((Int))×(Unit)):=
 let cr:=xs.1
 let GK:=xs.2
 e_ Gm ((cr.2.2.2).1,GK) fun r_2=>
  bif decide (r_2.1<0) then
   some (0,())
  else
   let eB:=zog C6 (↑(List.length (((((List.getD ((cr.2.2.2).1.2.1) (Int.toNat r_2.1) (0,[],0,[],())).2).2).2).1)):Int)
   let zW:an.D:=List.getD ((cr.2.2.2).1.2.1) (Int.toNat r_2.1) (0,[],0,[],())
   bif jZ [isSm (C6 (↑(List.length ((zW.2.2.2).1)):Int)),decide (0≤r_2.1),decide (r_2.1<(↑(List.length ((cr.2.2.2).1.2.1)):Int))] then
    some (eB.1.2.1,())
   else none
def Wh.En (xs:(Int)):Option (((Int))×(Unit)):=
 let Gw:=xs
 e_ gz (Gw,0,2147483647) fun r_1=>
  bif !r_1.1 then
   some (0,())
  else
   some ((Int.tmod (IntKind.wrap .i64 ((IntKind.wrap .i64 (Gw*1103515245))+12345)) 2147483648),())
def Wh.DO (xs:(Int)×(Int)):Option (((Int))×(Unit)):=
 let Gw:=xs.1
 let n_1:=xs.2
 let r_2:=zog gz (Gw,0,2147483647)
 let r_3:=zog gz (n_1,1,65536)
 let zV:=bif !r_2.1 then true else !r_3.1
 bif jZ [!!!r_2.1 || isSm (gz (n_1,1,65536)),isSm (gz (Gw,0,2147483647))] then
  bif zV then
   some (0,())
  else
   bif jZ [n_1 != 0,true] then
    some (Int.tmod (IntKind.wrap .i64 (Int.tdiv Gw 256)) n_1,())
   else none
 else none
abbrev Wh.Vy:Type:=((Int)×(Int)×(Unit)×(Int))×((List (Int)))
abbrev Wh.aju:Type:=((((Int)×(Unit))×((List (Int)))))
def Wh.Hu (x:Vy):Option (Vy⊕aju):=
 let JF:=x.1.1
 let JU:=x.1.2.1
 let NF:=x.1.2.2.2
 let xe:=x.2
 bif decide (JF<NF) then
  let zG:=IntKind.wrap .i64 (Int.tdiv 65536 NF)
  bif jZ [NF != 0] then
   bif decide (JF>1) then
    let Ba:=IntKind.wrap .i64 (JF-1)
    let n_37:=IntKind.wrap .i64 (Int.tdiv (IntKind.wrap .i64 (7*IntKind.wrap .i64 (Int.tdiv 65536 (IntKind.wrap .i64 (JF*Ba))))) 8)
    bif jZ [true,IntKind.wrap .i64 (JF*Ba) != 0] then
     let HK:Int:=if JU<n_37 then JU else n_37
     let pb_39:List Int:=[HK]
     let H8:=xe++pb_39
     bif jZ [decide (List.length xe+(1:Nat)≤eD)] then
      some (.inl (((IntKind.wrap .i64 (JF+1)),(IntKind.wrap .i64 (JU-HK)),(),NF),H8))
     else none
    else none
   else
    let Ey:Int:=if JU<zG then JU else zG
    let Tx:List Int:=[Ey]
    let L7:=xe++Tx
    bif jZ [decide (List.length xe+(1:Nat)≤eD)] then
     some (.inl (((IntKind.wrap .i64 (JF+1)),(IntKind.wrap .i64 (JU-Ey)),(),NF),L7))
    else none
  else none
 else
  some (.inr ((JU,()),xe))
def Wh.acN:(((Int)×(Unit))×((List (Int)))):=default
def Wh.q92 (xs:(Int)):Option (((List (Int)))×(Unit)):=
 let B4:=xs
 e_ gz (B4,1,24) fun r_1=>
  bif !r_1.1 then
   some ([],())
  else
   let DW:Vy:=((1,65536,(),B4),[])
   bif pY Hu DW then
    let DX:=oa Hu acN DW
    let agn:=DX.1.1
    let B5:=DX.2
    let pb_52:List Int:=[agn]
    let Cm:=B5++pb_52
    bif jZ [decide (List.length B5+(1:Nat)≤eD)] then
     some (Cm,())
    else none
   else none
abbrev Wh.Vb:Type:=((Int)×(Int)×(Int)×(Unit)×(Int))×((List (Int)))
abbrev Wh.ai8:Type:=((((Int))×(Unit))⊕((Unit)×(Unit)))
def Wh.La (x:Vb):Option (Vb⊕ai8):=
 let nI:=x.1.1
 let aaR:=x.1.2.1
 let sum_18:=(x.1.2.2).1
 let je:=x.1.2.2.2.2
 let A4:=x.2
 bif decide (nI<je) then
  let zK:=List.getD A4 (Int.toNat nI) 0
  bif jZ [decide (0≤nI),decide (nI<(↑(List.length A4):Int))] then
   let zT:=IntKind.wrap .i64 (sum_18+zK)
   bif decide (zT>aaR) then
    some (.inr (.inl ((IntKind.wrap .i64 (nI+1)),())))
   else
    some (.inl (((IntKind.wrap .i64 (nI+1)),aaR,zT,(),je),A4))
  else none
 else
  some (.inr (.inr ((),())))
def Wh.aco:(((Int))×(Unit))⊕((Unit)×(Unit)):=.inl default
def Wh.q62 (xs:(Int)×(Int)):Option (((Int))×(Unit)):=
 let B4:=xs.1
 let QB:=xs.2
 e_ gz (QB,0,65535) fun r_2=>
  bif !r_2.1 then
   some (0,())
  else
   let r_3:=zog q92 B4
   let zV:Int:=(↑(List.length r_3.1):Int)
   bif jZ [isSm (q92 B4)] then
    let FM:Vb:=((0,QB,0,(),zV),r_3.1)
    bif pY La FM then
     sumC (oa La aco FM) (fun FQ=>
      let zG:=FQ.1
      some (zG,())) (fun _=>
      some (0,()))
    else none
   else none
def Wh.q12 (xs:(List (Int))×(Int)×(Int)):Option (((List (Int)))×(Unit)):=
 let cr:=xs.1
 let i_1:=xs.2.1
 let zM:=xs.2.2
 bif jZ [decide (0≤i_1),decide (i_1≤zM),decide (zM≤(↑(List.length cr):Int)),decide ((↑(List.length cr):Int)≤(↑(List.length cr):Int))] then
  let nS:=i_1==zM
  bif nS then
   some (cr,())
  else
   let Fy:List Int:=List.take (Int.toNat 0+Int.toNat (i_1-0)) cr++(List.take (Int.toNat ((↑(List.length cr):Int)-zM)) (List.drop (Int.toNat zM) cr)++List.drop (Int.toNat 0+Int.toNat (i_1-0)+List.length (List.take (Int.toNat ((↑(List.length cr):Int)-zM)) (List.drop (Int.toNat zM) cr))) cr)
   let zW:Nat:=Int.toNat (i_1-0)
   let Bl:Nat:=Int.toNat ((↑(List.length cr):Int)-zM)
   let s_8:Nat:=zW+List.length (List.take Bl (List.drop (Int.toNat zM) cr))
   bif jZ [decide (Int.toNat 0+zW+List.length (List.take Bl (List.drop (Int.toNat zM) cr))≤List.length cr),decide (0≤zM),decide (zM≤(↑(List.length cr):Int)),decide ((↑(List.length cr):Int)≤(↑(List.length cr):Int)),true,decide (0≤i_1),decide (i_1≤(↑(List.length cr):Int))] then
    let pb_9:List Int:=List.take (Int.toNat (0:Int)+Int.toNat (↑s_8:Int)) Fy++(List.replicate (Int.toNat ((↑(List.length cr):Int)-(↑s_8:Int))) (0:Int)++List.drop (Int.toNat (0:Int)+Int.toNat (↑s_8:Int)+List.length (List.replicate (Int.toNat ((↑(List.length cr):Int)-(↑s_8:Int))) (0:Int))) Fy)
    bif jZ [decide (0≤(↑s_8:Int)),decide ((↑s_8:Int)≤(↑(List.length cr):Int)),decide ((↑(Int.toNat 0):Int)+(↑(List.length cr):Int)≤(↑(List.length Fy):Int))] then
     some (List.take s_8 pb_9,())
    else none
   else none
 else none
abbrev Wh.TH:Type:=((Int)×(Unit)×(Unit)×(Int)×(Int))×((List (Int))×(List (Int)))
abbrev Wh.ahP:Type:=((((Unit))×((List (Int)))))
def Wh.Il (x:TH):Option (TH⊕ahP):=
 let CM:=x.1.1
 let s_51:=x.1.2.2.2.1
 let Ni:=x.1.2.2.2.2
 let Cm:=x.2.1
 let Df:=x.2.2
 bif decide (CM<Ni) then
  e_ En s_51 fun r_56=>
   e_ DO (r_56.1,(↑(List.length Cm):Int)) fun HC=>
    let TA:List Int:=[List.getD Cm (Int.toNat HC.1) 0]
    let Bh:=Df++TA
    bif jZ [decide (List.length Df+(1:Nat)≤eD),decide (0≤HC.1),decide (HC.1<(↑(List.length Cm):Int))] then
     let r_61:=zog q12 (Cm,HC.1,IntKind.wrap .i64 (HC.1+1))
     bif jZ [isSm (q12 (Cm,HC.1,(IntKind.wrap .i64 (HC.1+1))))] then
      some (.inl (((IntKind.wrap .i64 (CM+1)),(),(),r_56.1,Ni),r_61.1,Bh))
     else none
    else none
 else
  some (.inr ((),Df))
def Wh.aa1:(((Unit))×((List (Int)))):=default
abbrev Wh.TG:Type:=((Int)×(Unit)×(Unit)×(Int)×(Int)×(Int))×((List (Int))×(List (Int)))
abbrev Wh.ahO:Type:=((((Unit)×(Unit)×(Int)×(Int))×((List (Int))×(List (Int)))))
def Wh.Kc (x:TG):Option (TG⊕ahO):=
 let w8:=x.1.1
 let s_19:=x.1.2.2.2.1
 let ND:=(x.1.2.2.2.2).1
 let qe:=(x.1.2.2.2.2).2
 let Bf:=x.2.1
 let As:=x.2.2
 bif decide (w8<qe) then
  let Cq:List Int:=[w8]
  let Bg:=Bf++Cq
  bif jZ [decide (List.length Bf+(1:Nat)≤eD)] then
   some (.inl (((IntKind.wrap .i64 (w8+1)),(),(),s_19,ND,qe),Bg,As))
  else none
 else
  some (.inr (((),(),s_19,ND),Bf,As))
def Wh.aa0:(((Unit)×(Unit)×(Int)×(Int))×((List (Int))×(List (Int)))):=default
def Wh.Fz (xs:(Int)×(Int)):Option (((List (Int)))×(Unit)):=
 let B4:=xs.1
 let HF:=xs.2
 let r_2:=zog gz (B4,1,24)
 let r_3:=zog gz (HF,0,2147483647)
 let zV:=bif !r_2.1 then true else !r_3.1
 bif jZ [!!!r_2.1 || isSm (gz (HF,0,2147483647)),isSm (gz (B4,1,24))] then
  bif zV then
   some ([],())
  else
   let nG:=zog En HF
   let Cv:=zog En nG.1
   bif jZ [isSm (En nG.1),isSm (En HF)] then
    let DT:TG:=((0,(),(),Cv.1,B4,B4),[],[])
    bif pY Kc DT then
     let Cw:=oa Kc aa0 DT
     let s_30:=(Cw.1.2.2).1
     let PA:=Cw.1.2.2.2
     let A6:=Cw.2.1
     let AY:=Cw.2.2
     let wX:=zog DO (s_30,65536)
     let A9:=zog q62 (PA,wX.1)
     bif jZ [isSm (q62 (PA,wX.1)),isSm (DO (s_30,65536))] then
      let x_64:TH:=((0,(),(),s_30,A9.1),A6,AY)
      bif pY Il x_64 then
       let y_65:=oa Il aa1 x_64
       let Ib:=y_65.2
       e_ Wh.slices_Sort_int Ib fun HD=>
        some (HD.2.1,())
      else none
     else none
    else none
   else none
 else none
abbrev Wh.VE:Type:=((Int)×(Unit)×(Int)×(Int)×(Int)×(List (Int))×(Int))×((gv.D))
abbrev Wh.ajA:Type:=((((Unit))×((List (Int))))⊕((Unit)×(Unit)))
def Wh.Hw (x:VE):Option (VE⊕ajA):=
 let Sc:=x.1.1
 let BV:=(x.1.2.2).1
 let aaS:=x.1.2.2.2.1
 let sum_55:=(x.1.2.2.2.2).1
 let Ez:=(x.1.2.2.2.2).2.1
 let LC:=(x.1.2.2.2.2).2.2
 let B6:=x.2
 bif decide (BV<LC) then
  let Jl:=List.getD Ez (Int.toNat BV) 0
  bif jZ [decide (0≤BV),decide (BV<(↑(List.length Ez):Int))] then
   let Jm:=IntKind.wrap .i64 (sum_55+Jl)
   bif decide (Jm>aaS) then
    let r_63:=zog Fz (List.getD (B6.2.2.1) (Int.toNat BV) 0,Sc)
    let v_64:=List.getD (B6.2.2.1) (Int.toNat BV) 0
    bif jZ [isSm (Fz (v_64,Sc)),decide (0≤BV),decide (BV<(↑(List.length (B6.2.2.1)):Int))] then
     some (.inr (.inl ((),r_63.1)))
    else none
   else
    some (.inl ((Sc,(),(IntKind.wrap .i64 (BV+1)),aaS,Jm,Ez,LC),B6))
  else none
 else
  some (.inr (.inr ((),())))
def Wh.acT:(((Unit))×((List (Int))))⊕((Unit)×(Unit)):=.inl default
abbrev Wh.VD:Type:=((Int)×(Int)×(List (Int))×(Int)×(Unit)×(Int))×((gv.D))
abbrev Wh.ajz:Type:=((((Int)×(Unit)×(Int))×((gv.D))))
def Wh.ON (x:VD):Option (VD⊕ajz):=
 let je:=x.1.1
 let X1:=x.1.2.1
 let qe:=(x.1.2.2).1
 let id_22:=x.1.2.2.2.1
 let zT:=(x.1.2.2.2.2).2
 let An:=x.2
 bif decide (je<zT) then
  let s_:=List.getD qe (Int.toNat je) 0
  bif jZ [decide (0≤je),decide (je<(↑(List.length qe):Int))] then
   some (.inl (((IntKind.wrap .i64 (je+1)),(IntKind.wrap .i64 (X1+s_)),qe,id_22,(),zT),An))
  else none
 else
  some (.inr ((id_22,(),X1),An))
def Wh.acS:(((Int)×(Unit)×(Int))×((gv.D))):=default
def Wh.FD (xs:(gv.D)×(Int)):Option (((List (Int)))×(Unit)):=
 let fN:=xs.1
 let EL:=xs.2
 let r_2:=zog C4 fN
 let r_3:=zog gz (EL,0,9999)
 let zV:=bif !r_2.1 then true else !r_3.1
 bif jZ [!!!r_2.1 || isSm (gz (EL,0,9999)),isSm (C4 fN)] then
  bif zV then
   some ([],())
  else
   e_ BH fN fun nG=>
    bif decide (EL<nG.1) then
     let pb_7:List Int:=[EL]
     some (pb_7,())
    else
     let BL:Int:=(↑(List.length ((fN.2.2.2).1)):Int)
     let FN:VD:=((0,0,(fN.2.2.2).1,EL,(),BL),fN)
     bif pY ON FN then
      let EA:=oa ON acS FN
      let Sb:=EA.1.1
      let X2:=EA.1.2.2
      let AY:=EA.2
      let wX:=zog En Sb
      let Hy:=zog DO (wX.1,X2)
      bif jZ [isSm (DO (wX.1,X2)),isSm (En Sb)] then
       let BU:Int:=(↑(List.length ((AY.2.2.2).1)):Int)
       let x_66:VE:=((Sb,(),0,Hy.1,0,(AY.2.2.2).1,BU),AY)
       bif pY Hw x_66 then
        sumC (oa Hw acT x_66) (fun y_67=>
         let Ot:=y_67.2
         some (Ot,())) (fun _=>
         some ([],()))
       else none
      else none
     else none
 else none
abbrev Wh.U1:Type:=((Int)×(Unit)×(Unit)×(Int)×(Int)×(Int)×(Bool)×(Unit))×(((Unit)×((Int)×(Unit)))×((Unit)×((Int)×(Unit)))×(fT.D)×(List (bp.D))×(List (bp.D)))
abbrev Wh.aiX:Type:=((((Unit)×(Int)×(Int))×(((Unit)×((Int)×(Unit)))×(List (bp.D))))⊕(((Unit)×(Unit))×(((Unit)×((Int)×(Unit)))×(fT.D)×(List (bp.D)))))
def Wh.IX (x:U1):Option (U1⊕aiX):=
 let CM:=x.1.1
 let Pn:=x.1.2.2.2.1
 let PI:=(x.1.2.2.2.2).1
 let NQ:=(x.1.2.2.2.2).2.1
 let PU:=(x.1.2.2.2.2).2.2.1
 let Fv:=x.2.1.2
 let Cn:=(x.2.2.1).2
 let BF:=(x.2.2.2).1
 let B6:=x.2.2.2.2.1
 let Bh:=x.2.2.2.2.2
 bif decide (CM<17) then
  let Dy:Int:=Int.tmod (IntKind.wrap .i64 (BF.2.1+CM)) 8
  bif jZ [decide (0≤Dy),decide (Dy<(↑(List.length Bh):Int))] then
   let v_64:=bif PU then bif((List.getD Bh (Int.toNat Dy) (0,0,0,0,false,())).2).1==0 then true else(List.getD Bh (Int.toNat Dy) (0,0,0,0,false,())).1 != NQ else false
   bif v_64 then
    some (.inl (((IntKind.wrap .i64 (CM+1)),(),(),Pn,PI,NQ,PU,()),((),Fv),((),Cn),BF,B6,Bh))
   else
    let Rb:Int:=((((List.getD Bh (Int.toNat Dy) (0,0,0,0,false,())).2).2).2).1
    bif decide (Rb>0) then
     some (.inl (((IntKind.wrap .i64 (CM+1)),(),(),Pn,PI,NQ,PU,()),((),Fv),((),Cn),BF,B6,Bh))
    else
     let FJ:Bool:=(((((List.getD Bh (Int.toNat Dy) (0,0,0,0,false,())).2).2).2).2).1
     bif FJ then
      let Eb:List (bp.D):=List.set Bh (Int.toNat Dy) ((List.getD Bh (Int.toNat Dy) (0,0,0,0,false,())).1,((List.getD Bh (Int.toNat Dy) (0,0,0,0,false,())).2).1,(((List.getD Bh (Int.toNat Dy) (0,0,0,0,false,())).2).2).1,Rb,false,(((((List.getD Bh (Int.toNat Dy) (0,0,0,0,false,())).2).2).2).2).2)
      some (.inl (((IntKind.wrap .i64 (CM+1)),(),(),Pn,PI,NQ,PU,()),((),Fv),((),Cn),BF,B6,Eb))
     else
      let Ec:List (bp.D):=List.set Bh (Int.toNat Dy) (NQ,PI,Pn,1,true,())
      some (.inr (.inl (((),Dy,1),((),(Int.tmod (IntKind.wrap .i64 (Dy+1)) 8),Cn.2),Ec)))
  else none
 else
  some (.inr (.inr (((),()),((),Fv),BF,B6)))
def Wh.ab_:(((Unit)×(Int)×(Int))×(((Unit)×((Int)×(Unit)))×(List (bp.D))))⊕(((Unit)×(Unit))×(((Unit)×((Int)×(Unit)))×(fT.D)×(List (bp.D)))):=.inl default
def Wh.q42 (xs:(fT.D)×(Int)×(Int)×(Int)):Option ((((List (bp.D))×((Int)×(Unit)))×(Int)×(Int))×(Unit)):=
 let fN:=xs.1
 let NP:=xs.2.1
 let GL:=xs.2.2.1
 let JC:=xs.2.2.2
 e_ q43 fN fun eB=>
  let nG:=zog CI NP
  let AM:=zog gz (GL,1,99999)
  let r_9:=zog gz (JC,0,23)
  let Cg:=bif bif !nG.1 then true else !AM.1 then true else !r_9.1
  bif jZ [(!!bif !nG.1 then true else !AM.1) || isSm (gz (JC,0,23)),!!!nG.1 || isSm (gz (GL,1,99999)),isSm (CI NP)] then
   bif Cg then
    some ((eB.1,0,3),())
   else
    e_ Ho (fN,GL,JC) fun Cc=>
     bif decide (Cc.1≥0) then
      bif jZ [decide (0≤Cc.1),decide (Cc.1<(↑(List.length eB.1.1):Int))] then
       let DS:Int:=(List.getD eB.1.1 (Int.toNat Cc.1) (0,0,0,0,false,())).1
       let nI:=bif DS != NP then true else((((List.getD eB.1.1 (Int.toNat Cc.1) (0,0,0,0,false,())).2).2).2).1==99999
       bif nI then
        some ((eB.1,0,3),())
       else
        let Dm:List (bp.D):=List.set eB.1.1 (Int.toNat Cc.1) (DS,((List.getD eB.1.1 (Int.toNat Cc.1) (0,0,0,0,false,())).2).1,(((List.getD eB.1.1 (Int.toNat Cc.1) (0,0,0,0,false,())).2).2).1,IntKind.wrap .i64 (((((List.getD eB.1.1 (Int.toNat Cc.1) (0,0,0,0,false,())).2).2).2).1+1),((((List.getD eB.1.1 (Int.toNat Cc.1) (0,0,0,0,false,())).2).2).2).2)
        let DH:List (bp.D):=List.set Dm (Int.toNat Cc.1) ((List.getD Dm (Int.toNat Cc.1) (0,0,0,0,false,())).1,((List.getD Dm (Int.toNat Cc.1) (0,0,0,0,false,())).2).1,(((List.getD Dm (Int.toNat Cc.1) (0,0,0,0,false,())).2).2).1,((((List.getD Dm (Int.toNat Cc.1) (0,0,0,0,false,())).2).2).2).1,true,(((((List.getD Dm (Int.toNat Cc.1) (0,0,0,0,false,())).2).2).2).2).2)
        some (((DH,eB.1.2),Cc.1,0),())
      else none
     else
      e_ q99 (fN,NP) fun Ll=>
       let x_76:U1:=((0,(),(),JC,GL,NP,(Ll.1==5),()),((),0,()),((),eB.1.2),fN,[],eB.1.1)
       bif pY IX x_76 then
        sumC (oa IX ab_ x_76) (fun Rk=>
         let Rc:=Rk.1.2.1
         let v_80:=Rk.1.2.2
         let F_:=Rk.2.1.2
         let CE:=Rk.2.2
         some (((CE,F_),Rc,v_80),())) (fun z_78=>
         let Ee:=z_78.2.2.1
         e_ q43 Ee fun OT=>
          some ((OT.1,0,2),()))
       else none
  else none
def Wh.Gp (xs:(Int)):Option (((List UInt8))×(Unit)):=
 let AA:=xs
 let BG:List Int:=List.replicate (Int.toNat AA) (0:Int)
 bif jZ [decide (0≤AA),decide (AA≤AA),decide (AA≤(↑eD:Int))] then
  some (sM BG,())
 else none
abbrev Wh.VB:Type:=((Unit)×(Int)×(List UInt8)×(Unit))×((gv.D)×(List (List UInt8)))
abbrev Wh.ajx:Type:=((((Unit))×((List (List UInt8)))))
def Wh.Lj (x:VB):Option (VB⊕ajx):=
 let Jx:=x.1.2.1
 let Q8:=(x.1.2.2).1
 let As:=x.2.1
 let An:=x.2.2
 bif decide (Jx<(↑(List.length Q8):Int)) then
  let ES:List (List UInt8):=[List.take (Int.toNat (IntKind.wrap .i64 (Jx+As.2.1)-Jx)) (List.drop (Int.toNat Jx) Q8)]
  let zC:List (List UInt8):=An++ES
  let nC:=IntKind.wrap .i64 (Jx+As.2.1)
  bif jZ [decide (List.length An+(1:Nat)≤eD),decide (0≤Jx),decide (Jx≤nC),decide (nC≤(↑(List.length Q8):Int))] then
   some (.inl (((),nC,Q8,()),As,zC))
  else none
 else
  some (.inr ((),An))
def Wh.acQ:(((Unit))×((List (List UInt8)))):=default
def Wh.q96 (xs:(gv.D)×(List UInt8)):Option (((List (List UInt8)))×(Unit)):=
 let fN:=xs.1
 let Fa:=xs.2
 let r_2:=zog C4 fN
 let nS:=bif !r_2.1 then true else(↑(List.length Fa):Int) != fN.1
 bif jZ [isSm (C4 fN)] then
  bif nS then
   some ([],())
  else
   let eB:=zog BH fN
   let DP:=zog Gp (IntKind.wrap .i64 (IntKind.wrap .i64 (eB.1*fN.2.1)-fN.1))
   let Lz:List UInt8:=Fa++DP.1
   bif jZ [decide (List.length Fa+List.length ((zog Gp (IntKind.wrap .i64 (IntKind.wrap .i64 (eB.1*fN.2.1)-fN.1))).1)≤eD),isSm (Gp (IntKind.wrap .i64 (IntKind.wrap .i64 (eB.1*fN.2.1)-fN.1))),isSm (BH fN)] then
    let DU:VB:=(((),0,Lz,()),fN,[])
    bif pY Lj DU then
     let Dw:=oa Lj acQ DU
     let A6:=Dw.2
     some (A6,())
    else none
   else none
 else none
abbrev Wh.UJ:Type:=((Int)×(List UInt8)×(Unit)×(Int))×((List (Int)))
abbrev Wh.aiJ:Type:=((((Unit))×((List (Int)))))
def Wh.KW (x:UJ):Option (UJ⊕aiJ):=
 let Af:=x.1.1
 let Jy:=x.1.2.1
 let vT:=x.1.2.2.2
 let zY:=x.2
 bif decide (Af<vT) then
  let AL:=List.set zY (Int.toNat Af) (pS Go.BinOp.xor Go.IntKind.u8 (List.getD zY (Int.toNat Af) 0) (↑(UInt8.toNat (List.getD Jy (Int.toNat Af) (0:UInt8))):Int))
  bif jZ [decide (0≤Af),decide (Af<(↑(List.length zY):Int)),decide (0≤Af),decide (Af<(↑(List.length Jy):Int)),decide (0≤Af),decide (Af<(↑(List.length zY):Int))] then
   some (.inl (((IntKind.wrap .i64 (Af+1)),Jy,(),vT),AL))
  else none
 else
  some (.inr ((),zY))
def Wh.abT:(((Unit))×((List (Int)))):=default
def Wh.KV (xs:(List UInt8)×(List UInt8)):Option (((List UInt8))×(Unit)):=
 let cx:=xs.1
 let b_1:=xs.2
 bif jZ [decide (List.length cx≤eD)] then
  let v_2:Int:=(↑(List.length (bytesOf cx)):Int)
  let x_21:UJ:=((0,b_1,(),v_2),bytesOf cx)
  bif pY KW x_21 then
   let FO:=oa KW abT x_21
   let As:=FO.2
   some (sM As,())
  else none
 else none
abbrev Wh.T_:Type:=((Int)×(List (List UInt8))×(List UInt8)×(List (Int))×(Int))×(Unit)
abbrev Wh.aib:Type:=((((List UInt8))×(Unit)))
def Wh.Kq (x:T_):Option (T_⊕aib):=
 let CM:=x.1.1
 let RI:=x.1.2.1
 let Tt:=(x.1.2.2).1
 let BV:=x.1.2.2.2.1
 let zZ:=x.1.2.2.2.2
 bif decide (CM<zZ) then
  let Ez:=List.getD BV (Int.toNat CM) 0
  bif jZ [decide (0≤CM),decide (CM<(↑(List.length BV):Int))] then
   let LC:=List.getD RI (Int.toNat Ez) []
   let r_59:=zog KV (Tt,LC)
   bif jZ [isSm (KV (Tt,LC)),decide (0≤Ez),decide (Ez<(↑(List.length RI):Int))] then
    some (.inl (((IntKind.wrap .i64 (CM+1)),RI,r_59.1,BV,zZ),()))
   else none
  else none
 else
  some (.inr (Tt,()))
def Wh.abl:(((List UInt8))×(Unit)):=default
abbrev Wh.T9:Type:=((Int)×(List (List UInt8))×(List (List UInt8))×(List (Int))×(Int))×(Unit)
abbrev Wh.aia:Type:=((((List UInt8)×(Bool))×(Unit))⊕(((List (List UInt8))×(List (Int)))×(Unit)))
def Wh.Kp (x:T9):Option (T9⊕aia):=
 let je:=x.1.1
 let Pq:=x.1.2.1
 let qe:=(x.1.2.2).1
 let ac5:=x.1.2.2.2.1
 let zT:=x.1.2.2.2.2
 bif decide (je<zT) then
  let CL:=List.getD qe (Int.toNat je) []
  bif jZ [decide (0≤je),decide (je<(↑(List.length qe):Int))] then
   let s_:=List.getD Pq (Int.toNat 0) []
   let Ev:Bool:=(↑(List.length CL):Int) != (↑(List.length s_):Int)
   bif jZ [true,decide (0<(↑(List.length Pq):Int))] then
    bif Ev then
     some (.inr (.inl (([],false),())))
    else
     some (.inl (((IntKind.wrap .i64 (je+1)),Pq,qe,ac5,zT),()))
   else none
  else none
 else
  some (.inr (.inr ((Pq,ac5),())))
def Wh.abk:(((List UInt8)×(Bool))×(Unit))⊕(((List (List UInt8))×(List (Int)))×(Unit)):=.inl default
def Wh.Ko (xs:(List (List UInt8))×(List (Int))):Option (((List UInt8)×(Bool))×(Unit)):=
 let JD:=xs.1
 let OW:=xs.2
 let v_2:Int:=(↑(List.length JD):Int)
 let Cv:=zog KE (OW,v_2)
 let BL:=bif bif v_2==0 then true else decide ((↑(List.length (List.getD JD (Int.toNat 0) [])):Int)>16) then true else !Cv.1
 bif jZ [(!!bif v_2==0 then true else decide ((↑(List.length (List.getD JD (Int.toNat 0) [])):Int)>16)) || isSm (KE (OW,v_2)),!!v_2==0 || decide ((0:Int)≤0),!!v_2==0 || decide (0<v_2)] then
  bif BL then
   some (([],false),())
  else
   let FN:T9:=((0,JD,JD,OW,v_2),())
   bif pY Kp FN then
    sumC (oa Kp abk FN) (fun EA=>
     let Ba:=EA.1.1
     let Ch:=EA.1.2
     some ((Ba,Ch),())) (fun Nt=>
     let RH:=Nt.1.1
     let ac6:=Nt.1.2
     let zL:=List.getD RH (Int.toNat 0) []
     let Ep:=zog Gp (↑(List.length zL):Int)
     bif jZ [isSm (Gp (↑(List.length zL):Int)),true,decide (0<(↑(List.length RH):Int))] then
      let x_61:T_:=((0,RH,Ep.1,ac6,(↑(List.length ac6):Int)),())
      bif pY Kq x_61 then
       let y_62:=oa Kq abl x_61
       let out_63:=y_62.1
       some ((out_63,true),())
      else none
     else none)
   else none
 else none
def Wh.q26 (xs:(gv.D)×(List UInt8)×(Int)):Option (((List UInt8)×(Bool))×(Unit)):=
 let fN:=xs.1
 let Fa:=xs.2.1
 let id_2:=xs.2.2
 e_ gz (id_2,0,9999) fun r_3=>
  bif !r_3.1 then
   some (([],false),())
  else
   let eB:=zog q96 (fN,Fa)
   let nG:=zog FD (fN,id_2)
   let DP:=zog Ko (eB.1,nG.1)
   bif jZ [isSm (Ko (eB.1,nG.1)),isSm (FD (fN,id_2)),isSm (q96 (fN,Fa))] then
    some ((DP.1.1,DP.1.2),())
   else none
abbrev Wh.UM:Type:=((Int)×(Unit)×(Unit)×(Unit)×(Unit)×(Unit)×(Int)×(Unit)×(Unit)×(Int))×(((Bool)×((Int)×((List UInt8)×(((Int)×((Unit)×(Unit)))×(((Unit)×((Int)×(Unit)))×((Unit)×((Unit)×(Unit))))))))×(an.D)×(List (Int))×((Bool)×((Int)×((List UInt8)×(((Int)×((Unit)×(Unit)))×(((Unit)×((Int)×(Unit)))×((Unit)×((Unit)×(Unit))))))))×(r5.D)×(bx.D)×((Int)×((Int)×((Unit)×((Unit)×(Unit)))))×(List (an.D))×(List (bp.D))×(List (di.D))×(List (bx.D))×(List (an.D))×(List (bp.D))×(List (di.D))×(List (bx.D))×(List (Int))×(List (Int)))
abbrev Wh.aiM:Type:=((((Unit)×(Unit)×(Unit)×(Int)×(Unit)×(Unit)×(Unit))×(((Bool)×((Int)×((List UInt8)×(((Int)×((Unit)×(Unit)))×(((Unit)×((Int)×(Unit)))×((Unit)×((Unit)×(Unit))))))))×(r5.D)×((Bool)×((Int)×((List UInt8)×(((Int)×((Unit)×(Unit)))×(((Unit)×((Int)×(Unit)))×((Unit)×((Unit)×(Unit))))))))×(bx.D)×(an.D)×((Int)×((Int)×((Unit)×((Unit)×(Unit)))))×(List (an.D))×(List (bp.D))×(List (di.D))×(List (bx.D))×(List (an.D))×(List (bp.D))×(List (di.D))×(List (bx.D))×(List (Int))×(List (Int)))))
def Wh.Hl (x:UM):Option (UM⊕aiM):=
 let Nh:=x.1.1
 let RB:=(x.1.2.2.2.2).2.2.1
 let VT:=(x.1.2.2.2.2).2.2.2.2.2
 let SC:=x.2.1.1
 let SD:=(x.2.1.2).1
 let SE:=x.2.1.2.2.1
 let SF:=(x.2.1.2.2.2).1.1
 let SG:=(x.2.1.2.2.2).1.2.2
 let aan:=(x.2.1.2.2.2).2.1.2
 let SH:=(x.2.1.2.2.2).2.2.2.2
 let Oj:=x.2.2.1
 let Qo:=(x.2.2.2).1
 let SI:=(x.2.2.2.2.1).1
 let SJ:=(x.2.2.2.2.1).2.1
 let SL:=(x.2.2.2.2.1).2.2.1
 let SM:=(x.2.2.2.2.1).2.2.2.1.1
 let SN:=(x.2.2.2.2.1).2.2.2.1.2.2
 let SO:=(x.2.2.2.2.1).2.2.2.2.1.2
 let SP:=(x.2.2.2.2.1).2.2.2.2.2.2.2
 let SQ:=(x.2.2.2.2.2).1
 let SS:=(x.2.2.2.2.2).2.1
 let SU:=(x.2.2.2.2.2).2.2.1.1
 let SV:=(x.2.2.2.2.2).2.2.1.2.1
 let SW:=(x.2.2.2.2.2).2.2.1.2.2.2.2
 let SX:=(x.2.2.2.2.2).2.2.2.1
 let aao:=(x.2.2.2.2.2).2.2.2.2.1
 let SY:=(x.2.2.2.2.2).2.2.2.2.2.1
 let SZ:=(x.2.2.2.2.2).2.2.2.2.2.2.1
 let S0:=(x.2.2.2.2.2).2.2.2.2.2.2.2.1
 let S2:=(x.2.2.2.2.2).2.2.2.2.2.2.2.2.1
 let S3:=(x.2.2.2.2.2).2.2.2.2.2.2.2.2.2.1
 let S4:=(x.2.2.2.2.2).2.2.2.2.2.2.2.2.2.2.1
 let S5:=(x.2.2.2.2.2).2.2.2.2.2.2.2.2.2.2.2.1
 let S6:=(x.2.2.2.2.2).2.2.2.2.2.2.2.2.2.2.2.2
 bif decide (Nh<VT) then
  let v_325:=List.getD Qo (Int.toNat Nh) 0
  bif jZ [decide (0≤Nh),decide (Nh<(↑(List.length Qo):Int))] then
   e_ q42 ((aao,aan),Oj.1,Oj.2.2.1,v_325) fun Bj=>
    let v_328:=bif(Bj.1.2.2==0) then true else Bj.1.2.2==1
    bif v_328 then
     let pb_329:List (bp.D):=List.set (Bj.1.1.1) (Int.toNat (Bj.1.2.1)) ((List.getD (Bj.1.1.1) (Int.toNat (Bj.1.2.1)) (0,0,0,0,false,())).1,((List.getD (Bj.1.1.1) (Int.toNat (Bj.1.2.1)) (0,0,0,0,false,())).2).1,(((List.getD (Bj.1.1.1) (Int.toNat (Bj.1.2.1)) (0,0,0,0,false,())).2).2).1,IntKind.wrap .i64 (((((List.getD (Bj.1.1.1) (Int.toNat (Bj.1.2.1)) (0,0,0,0,false,())).2).2).2).1-1),((((List.getD (Bj.1.1.1) (Int.toNat (Bj.1.2.1)) (0,0,0,0,false,())).2).2).2).2)
     bif jZ [decide (0≤Bj.1.2.1),decide (Bj.1.2.1<(↑(List.length (Bj.1.1.1)):Int)),decide (0≤Bj.1.2.1),decide (Bj.1.2.1<(↑(List.length (Bj.1.1.1)):Int))] then
      some (.inl (((IntKind.wrap .i64 (Nh+1)),(),(),(),(),(),RB,(),(),VT),(SC,SD,SE,(SF,(),SG),((),Bj.1.1.2),(),(),SH),Oj,Qo,(SI,SJ,SL,(SM,(),SN),((),SO),(),(),SP),SQ,SS,(SU,SV,(),(),SW),SX,pb_329,SY,SZ,S0,S2,S3,S4,S5,S6))
     else none
    else
     some (.inl (((IntKind.wrap .i64 (Nh+1)),(),(),(),(),(),RB,(),(),VT),(SC,SD,SE,(SF,(),SG),((),Bj.1.1.2),(),(),SH),Oj,Qo,(SI,SJ,SL,(SM,(),SN),((),SO),(),(),SP),SQ,SS,(SU,SV,(),(),SW),SX,Bj.1.1.1,SY,SZ,S0,S2,S3,S4,S5,S6))
  else none
 else
  some (.inr (((),(),(),RB,(),(),()),(SI,SJ,SL,(SM,(),SN),((),SO),(),(),SP),SQ,(SC,SD,SE,(SF,(),SG),((),aan),(),(),SH),SS,Oj,(SU,SV,(),(),SW),S0,S2,S3,S4,SX,aao,SY,SZ,S5,S6))
def Wh.abW:(((Unit)×(Unit)×(Unit)×(Int)×(Unit)×(Unit)×(Unit))×(((Bool)×((Int)×((List UInt8)×(((Int)×((Unit)×(Unit)))×(((Unit)×((Int)×(Unit)))×((Unit)×((Unit)×(Unit))))))))×(r5.D)×((Bool)×((Int)×((List UInt8)×(((Int)×((Unit)×(Unit)))×(((Unit)×((Int)×(Unit)))×((Unit)×((Unit)×(Unit))))))))×(bx.D)×(an.D)×((Int)×((Int)×((Unit)×((Unit)×(Unit)))))×(List (an.D))×(List (bp.D))×(List (di.D))×(List (bx.D))×(List (an.D))×(List (bp.D))×(List (di.D))×(List (bx.D))×(List (Int))×(List (Int)))):=(default,(default,default,default,default,default,default,default,default,default,default,default,default,default,default,default,default))
abbrev Wh.UL:Type:=((Int)×(Unit)×(Int)×(Unit)×(Unit)×(Unit)×(Int)×(Unit)×(Int))×((List (Int))×(List (bx.D))×((Bool)×((Int)×((List UInt8)×(((Int)×((Unit)×(Unit)))×(((Unit)×((Int)×(Unit)))×((Unit)×((Unit)×(Unit))))))))×((Bool)×((Int)×((List UInt8)×(((Int)×((Unit)×(Unit)))×(((Unit)×((Int)×(Unit)))×((Unit)×((Unit)×(Unit))))))))×(List (Int))×(List (an.D))×(List (bp.D))×(List (di.D))×(List (an.D))×(List (bp.D))×(List (di.D))×(List (bx.D)))
abbrev Wh.aiL:Type:=((((Unit)×(Unit)×(Int)×(Unit)×(Int)×(Unit))×(((Bool)×((Int)×((List UInt8)×(((Int)×((Unit)×(Unit)))×(((Unit)×((Int)×(Unit)))×((Unit)×((Unit)×(Unit))))))))×((Bool)×((Int)×((List UInt8)×(((Int)×((Unit)×(Unit)))×(((Unit)×((Int)×(Unit)))×((Unit)×((Unit)×(Unit))))))))×(List (Int))×(List (Int))×(List (an.D))×(List (bp.D))×(List (di.D))×(List (bx.D))×(List (an.D))×(List (bp.D))×(List (di.D))×(List (bx.D)))))
def Wh.KX (x:UL):Option (UL⊕aiL):=
 let FJ:=x.1.1
 let h_71:=(x.1.2.2).1
 let v_72:=(x.1.2.2.2.2).2.2.1
 let v_73:=(x.1.2.2.2.2).2.2.2.2
 let Co:=x.2.1
 let B7:=x.2.2.1
 let Dg:=(x.2.2.2).1.1
 let Dh:=(x.2.2.2).1.2.1
 let Ed:=(x.2.2.2).1.2.2.1
 let L_:=(x.2.2.2).1.2.2.2.1.1
 let Ma:=(x.2.2.2).1.2.2.2.1.2.2
 let F_:=(x.2.2.2).1.2.2.2.2.1.2
 let CE:=(x.2.2.2).1.2.2.2.2.2.2.2
 let Fw:=(x.2.2.2.2.1).1
 let Ee:=(x.2.2.2.2.1).2.1
 let CW:=(x.2.2.2.2.1).2.2.1
 let Td:=(x.2.2.2.2.1).2.2.2.1.1
 let Te:=(x.2.2.2.2.1).2.2.2.1.2.2
 let Tf:=(x.2.2.2.2.1).2.2.2.2.1.2
 let Tg:=(x.2.2.2.2.1).2.2.2.2.2.2.2
 let Th:=(x.2.2.2.2.2).1
 let CF:=(x.2.2.2.2.2).2.1
 let Ti:=(x.2.2.2.2.2).2.2.1
 let Tj:=(x.2.2.2.2.2).2.2.2.1
 let Dj:=(x.2.2.2.2.2).2.2.2.2.1
 let Ou:=(x.2.2.2.2.2).2.2.2.2.2.1
 let Tk:=(x.2.2.2.2.2).2.2.2.2.2.2.1
 let Mb:=(x.2.2.2.2.2).2.2.2.2.2.2.2
 bif decide (FJ<v_73) then
  let pb_99:bx.D:=List.getD B7 (Int.toNat FJ) (0,0,0,0,0,0,())
  bif jZ [decide (0≤FJ),decide (FJ<(↑(List.length B7):Int))] then
   e_ Im pb_99.1 fun QM=>
    bif(QM.1==h_71) then
     let pb_102:List Int:=[FJ]
     let Sy:=Co++pb_102
     bif jZ [decide (List.length Co+(1:Nat)≤eD)] then
      some (.inl (((IntKind.wrap .i64 (FJ+1)),(),h_71,(),(),(),v_72,(),v_73),Sy,B7,(Dg,Dh,Ed,(L_,(),Ma),((),F_),(),(),CE),(Fw,Ee,CW,(Td,(),Te),((),Tf),(),(),Tg),Th,CF,Ti,Tj,Dj,Ou,Tk,Mb))
     else none
    else
     some (.inl (((IntKind.wrap .i64 (FJ+1)),(),h_71,(),(),(),v_72,(),v_73),Co,B7,(Dg,Dh,Ed,(L_,(),Ma),((),F_),(),(),CE),(Fw,Ee,CW,(Td,(),Te),((),Tf),(),(),Tg),Th,CF,Ti,Tj,Dj,Ou,Tk,Mb))
  else none
 else
  some (.inr (((),(),v_72,(),h_71,()),(Dg,Dh,Ed,(L_,(),Ma),((),F_),(),(),CE),(Fw,Ee,CW,(Td,(),Te),((),Tf),(),(),Tg),Th,Co,CF,Ti,Tj,B7,Dj,Ou,Tk,Mb))
def Wh.abV:(((Unit)×(Unit)×(Int)×(Unit)×(Int)×(Unit))×(((Bool)×((Int)×((List UInt8)×(((Int)×((Unit)×(Unit)))×(((Unit)×((Int)×(Unit)))×((Unit)×((Unit)×(Unit))))))))×((Bool)×((Int)×((List UInt8)×(((Int)×((Unit)×(Unit)))×(((Unit)×((Int)×(Unit)))×((Unit)×((Unit)×(Unit))))))))×(List (Int))×(List (Int))×(List (an.D))×(List (bp.D))×(List (di.D))×(List (bx.D))×(List (an.D))×(List (bp.D))×(List (di.D))×(List (bx.D)))):=default
abbrev Wh.UK:Type:=((Int)×(Unit)×(Unit)×(Unit))×((List (Int))×((Bool)×((Int)×((List UInt8)×(((Int)×((Unit)×(Unit)))×(((Unit)×((Int)×(Unit)))×((Unit)×((Unit)×(Unit))))))))×((Bool)×((Int)×((List UInt8)×(((Int)×((Unit)×(Unit)))×(((Unit)×((Int)×(Unit)))×((Unit)×((Unit)×(Unit))))))))×(List (an.D))×(List (bp.D))×(List (di.D))×(List (bx.D))×(List (an.D))×(List (bp.D))×(List (di.D))×(List (bx.D)))
abbrev Wh.aiK:Type:=((((Unit)×(Unit)×(Unit))×(((Bool)×((Int)×((List UInt8)×(((Int)×((Unit)×(Unit)))×(((Unit)×((Int)×(Unit)))×((Unit)×((Unit)×(Unit))))))))×((Bool)×((Int)×((List UInt8)×(((Int)×((Unit)×(Unit)))×(((Unit)×((Int)×(Unit)))×((Unit)×((Unit)×(Unit))))))))×(List (Int))×(List (an.D))×(List (bp.D))×(List (di.D))×(List (bx.D))×(List (an.D))×(List (bp.D))×(List (di.D))×(List (bx.D)))))
def Wh.IQ (x:UK):Option (UK⊕aiK):=
 let GA:=x.1.1
 let ZT:=x.2.1
 let ZU:=x.2.2.1.1
 let Qe:=(x.2.2.1).2.1
 let ZV:=(x.2.2.1).2.2.1
 let ZW:=(x.2.2.1).2.2.2.1.1
 let ZX:=(x.2.2.1).2.2.2.1.2.2
 let ZY:=(x.2.2.1).2.2.2.2.1.2
 let ZZ:=(x.2.2.1).2.2.2.2.2.2.2
 let Z0:=(x.2.2.2).1.1
 let Z3:=(x.2.2.2).1.2.1
 let Z4:=(x.2.2.2).1.2.2.1
 let Z5:=(x.2.2.2).1.2.2.2.1.1
 let Z6:=(x.2.2.2).1.2.2.2.1.2.2
 let Z7:=(x.2.2.2).1.2.2.2.2.1.2
 let Z8:=(x.2.2.2).1.2.2.2.2.2.2.2
 let Z9:=x.2.2.2.2.1
 let Z_:=(x.2.2.2.2.2).1
 let L4:=(x.2.2.2.2.2).2.1
 let SA:=(x.2.2.2.2.2).2.2.1
 let aaa:=(x.2.2.2.2.2).2.2.2.1
 let JW:=(x.2.2.2.2.2).2.2.2.2.1
 let Qf:=(x.2.2.2.2.2).2.2.2.2.2.1
 let Qg:=(x.2.2.2.2.2).2.2.2.2.2.2
 bif decide (GA<2) then
  let r_167:=zog q58 (List.getD L4 (Int.toNat GA) (0,0,0,0,()),Qe)
  let ls_168:List (di.D):=List.set L4 (Int.toNat GA) r_167.1
  let v_169:di.D:=List.getD L4 (Int.toNat GA) (0,0,0,0,())
  bif jZ [decide (0≤GA),decide (GA<(↑(List.length L4):Int)),isSm (q58 (v_169,Qe)),decide (0≤GA),decide (GA<(↑(List.length L4):Int))] then
   let v_170:Int:=(↑(List.length SA):Int)
   let x_171:UL:=((0,(),GA,(),(),(),GA,(),v_170),[],SA,(ZU,Qe,ZV,(ZW,(),ZX),((),ZY),(),(),ZZ),(Z0,Z3,Z4,(Z5,(),Z6),((),Z7),(),(),Z8),ZT,Z9,Z_,ls_168,aaa,JW,Qf,Qg)
   bif pY KX x_171 then
    let AV:=oa KX abV x_171
    let v_173:=(AV.1.2.2).1
    let R6:=(AV.1.2.2.2.2).1
    let N8:=AV.2.1.1
    let JX:=(AV.2.1.2).1
    let N9:=AV.2.1.2.2.1
    let N_:=(AV.2.1.2.2.2).1.1
    let Oa:=(AV.2.1.2.2.2).1.2.2
    let Ob:=(AV.2.1.2.2.2).2.1.2
    let Oc:=(AV.2.1.2.2.2).2.2.2.2
    let aac:=AV.2.2.1.1
    let aad:=(AV.2.2.1).2.1
    let aae:=(AV.2.2.1).2.2.1
    let aaf:=(AV.2.2.1).2.2.2.1.1
    let aag:=(AV.2.2.1).2.2.2.1.2.2
    let aah:=(AV.2.2.1).2.2.2.2.1.2
    let aai:=(AV.2.2.1).2.2.2.2.2.2.2
    let SB:=(AV.2.2.2).1
    let Od:=AV.2.2.2.2.1
    let GP:=(AV.2.2.2.2.2).1
    let Oe:=(AV.2.2.2.2.2).2.1
    let JY:=(AV.2.2.2.2.2).2.2.1
    let F9:=(AV.2.2.2.2.2).2.2.2.1
    let aaj:=(AV.2.2.2.2.2).2.2.2.2.1
    let aak:=(AV.2.2.2.2.2).2.2.2.2.2.1
    let aal:=(AV.2.2.2.2.2).2.2.2.2.2.2.1
    let aam:=(AV.2.2.2.2.2).2.2.2.2.2.2.2
    e_ FB ((N8,JX,N9,(N_,GP,Oa),(Oe,Ob),JY,F9,Oc),Od) fun MZ=>
     let Ng:=decide (MZ.1≥0)
     let r_201:=zog q18 ((N8,JX,N9,(N_,GP,Oa),(Oe,Ob),JY,F9,Oc),(((List.getD F9 (Int.toNat MZ.1) (0,0,0,0,0,0,())).2).2).1)
     let v_202:=bif Ng then decide ((List.getD JY (Int.toNat R6) (0,0,0,0,())).1≥r_201.1) else false
     bif jZ [!Ng || isSm (q18 ((N8,JX,N9,(N_,GP,Oa),(Oe,Ob),JY,F9,Oc),(((List.getD F9 (Int.toNat MZ.1) (0,0,0,0,0,0,())).2).2).1)),!Ng || decide (0≤MZ.1),!Ng || decide (MZ.1<(↑(List.length F9):Int)),!Ng || decide (0≤R6),!Ng || decide (R6<(↑(List.length JY):Int))] then
      bif v_202 then
       let pb_203:List Int:=[MZ.1]
       let ls_204:=SB++pb_203
       bif jZ [decide (List.length SB+(1:Nat)≤eD)] then
        some (.inl (((IntKind.wrap .i64 (v_173+1)),(),(),()),ls_204,(N8,JX,N9,(N_,(),Oa),((),Ob),(),(),Oc),(aac,aad,aae,(aaf,(),aag),((),aah),(),(),aai),GP,Oe,JY,F9,aaj,aak,aal,aam))
       else none
      else
       some (.inl (((IntKind.wrap .i64 (v_173+1)),(),(),()),SB,(N8,JX,N9,(N_,(),Oa),((),Ob),(),(),Oc),(aac,aad,aae,(aaf,(),aag),((),aah),(),(),aai),GP,Oe,JY,F9,aaj,aak,aal,aam))
     else none
   else none
  else none
 else
  some (.inr (((),(),()),(Z0,Z3,Z4,(Z5,(),Z6),((),Z7),(),(),Z8),(ZU,Qe,ZV,(ZW,(),ZX),((),ZY),(),(),ZZ),ZT,aaa,JW,Qf,Qg,Z9,Z_,L4,SA))
def Wh.abU:(((Unit)×(Unit)×(Unit))×(((Bool)×((Int)×((List UInt8)×(((Int)×((Unit)×(Unit)))×(((Unit)×((Int)×(Unit)))×((Unit)×((Unit)×(Unit))))))))×((Bool)×((Int)×((List UInt8)×(((Int)×((Unit)×(Unit)))×(((Unit)×((Int)×(Unit)))×((Unit)×((Unit)×(Unit))))))))×(List (Int))×(List (an.D))×(List (bp.D))×(List (di.D))×(List (bx.D))×(List (an.D))×(List (bp.D))×(List (di.D))×(List (bx.D)))):=default
def Wh.DN (xs:(eA.D)):Option (((eA.D)×(List (r5.D)))×(Unit)):=
 let cr:eA.D:=xs
 e_ q20 cr fun r_1=>
  let nS:=bif(!cr.1) then true else cr.2.1==99999
  bif nS then
   some ((r_1.1,[]),())
  else
   let x_207:UK:=((0,(),(),()),[],(r_1.1.1,(IntKind.wrap .i64 (r_1.1.2.1+1)),(r_1.1.2.2).1,((r_1.1.2.2.2.1).1,(),(r_1.1.2.2.2.1).2.2),((),(r_1.1.2.2.2.2).1.2),(),(),(r_1.1.2.2.2.2).2.2.2),(false,0,[],(0,(),()),((),0,()),(),(),()),(r_1.1.2.2.2.1).2.1,(r_1.1.2.2.2.2).1.1,(r_1.1.2.2.2.2).2.1,(r_1.1.2.2.2.2).2.2.1,[],[],[],[])
   bif pY IQ x_207 then
    let Bn:=oa IQ abU x_207
    let ls_209:=Bn.2.1.1
    let ls_210:=(Bn.2.1.2).1
    let ls_211:=Bn.2.1.2.2.1
    let ls_212:=(Bn.2.1.2.2.2).1.1
    let ls_213:=(Bn.2.1.2.2.2).1.2.2
    let ls_214:=(Bn.2.1.2.2.2).2.1.2
    let ls_215:=(Bn.2.1.2.2.2).2.2.2.2
    let Qh:=Bn.2.2.1.1
    let Qi:=(Bn.2.2.1).2.1
    let Qj:=(Bn.2.2.1).2.2.1
    let Of:=(Bn.2.2.1).2.2.2.1.1
    let Oh:=(Bn.2.2.1).2.2.2.1.2.2
    let Qk:=(Bn.2.2.1).2.2.2.2.1.2
    let Ql:=(Bn.2.2.1).2.2.2.2.2.2.2
    let ls_223:=(Bn.2.2.2).1
    let ls_224:=Bn.2.2.2.2.1
    let ls_225:=(Bn.2.2.2.2.2).1
    let ls_226:=(Bn.2.2.2.2.2).2.1
    let ls_227:=(Bn.2.2.2.2.2).2.2.1
    let JZ:=(Bn.2.2.2.2.2).2.2.2.1
    let Qm:=(Bn.2.2.2.2.2).2.2.2.2.1
    let Qn:=(Bn.2.2.2.2.2).2.2.2.2.2.1
    let L5:=(Bn.2.2.2.2.2).2.2.2.2.2.2
    e_ Wh.slices_Sort_int ls_223 fun r_232=>
     e_ FB ((Qh,Qi,Qj,(Of,JZ,Oh),(Qm,Qk),Qn,L5,Ql),r_232.2.1) fun M1=>
      bif decide (M1.1<0) then
       some (((Qh,Qi,Qj,(Of,JZ,Oh),(Qm,Qk),Qn,L5,Ql),[]),())
      else
       let Gd:bx.D:=List.getD L5 (Int.toNat M1.1) (0,0,0,0,0,0,())
       bif jZ [decide (0≤M1.1),decide (M1.1<(↑(List.length L5):Int))] then
        e_ Gm ((Of,JZ,Oh),Gd.2.2.1) fun QO=>
         bif decide (QO.1<0) then
          e_ q11 ((Qh,Qi,Qj,(Of,JZ,Oh),(Qm,Qk),Qn,L5,Ql),M1.1) fun r_238=>
           let pb_239:List (r5.D):=[(6,Gd.1,Gd.2.1,Gd.2.2.1,0,[],[],())]
           some ((r_238.2.1,pb_239),())
         else
          let Tw:an.D:=List.getD JZ (Int.toNat QO.1) (0,[],0,[],())
          bif jZ [decide (0≤QO.1),decide (QO.1<(↑(List.length JZ):Int))] then
           let Lm:=zog C6 (↑(List.length ((Tw.2.2.2).1)):Int)
           let v_242:Int:=(↑(List.length ((Tw.2.2.2).1)):Int)
           bif jZ [isSm (C6 v_242)] then
            let r_243:=zog FD (Lm.1,(Gd.2.2.2).1)
            let v_244:Int:=(↑(List.length r_243.1):Int)
            bif jZ [isSm (FD (Lm.1,(Gd.2.2.2).1))] then
             let x_335:UM:=((0,(),(),(),(),(),M1.1,(),(),v_244),(Qh,Qi,Qj,(Of,(),Oh),((),Qk),(),(),Ql),Tw,r_243.1,(ls_209,ls_210,ls_211,(ls_212,(),ls_213),((),ls_214),(),(),ls_215),(0,Gd.1,Gd.2.1,Gd.2.2.1,0,[],[],()),Gd,(Lm.1.1,Lm.1.2.1,(),(),Lm.1.2.2.2.2),JZ,Qm,Qn,L5,ls_224,ls_225,ls_226,ls_227,(Lm.1.2.2).1,Lm.1.2.2.2.1)
             bif pY Hl x_335 then
              let BW:=oa Hl abW x_335
              let CQ:=BW.1.2.2.2.1
              let Om:=BW.2.2.1
              let S8:=(BW.2.2.2).1.1
              let aap:=(BW.2.2.2).1.2.1
              let ls_348:=(BW.2.2.2).1.2.2.1
              let ls_349:=(BW.2.2.2).1.2.2.2.1.1
              let ls_350:=(BW.2.2.2).1.2.2.2.1.2.2
              let ls_351:=(BW.2.2.2).1.2.2.2.2.1.2
              let ls_352:=(BW.2.2.2).1.2.2.2.2.2.2.2
              let S9:=BW.2.2.2.2.1
              let H6:=(BW.2.2.2.2.2).1
              let ls_355:=(BW.2.2.2.2.2).2.1.1
              let aaq:=(BW.2.2.2.2.2).2.1.2.1
              let ls_357:=(BW.2.2.2.2.2).2.1.2.2.2.2
              let ls_362:=(BW.2.2.2.2.2).2.2.2.2.2.2.1
              let ls_363:=(BW.2.2.2.2.2).2.2.2.2.2.2.2.1
              let On:=(BW.2.2.2.2.2).2.2.2.2.2.2.2.2.1
              let L6:=(BW.2.2.2.2.2).2.2.2.2.2.2.2.2.2.1
              let ls_366:=(BW.2.2.2.2.2).2.2.2.2.2.2.2.2.2.2.1
              let ls_367:=(BW.2.2.2.2.2).2.2.2.2.2.2.2.2.2.2.2
              let ls_368:List (di.D):=List.set On (Int.toNat H6.1) (IntKind.wrap .i64 ((List.getD On (Int.toNat H6.1) (0,0,0,0,())).1-aaq),(List.getD On (Int.toNat H6.1) (0,0,0,0,())).2)
              bif jZ [decide (0≤H6.1),decide (H6.1<(↑(List.length On):Int)),decide (0≤H6.1),decide (H6.1<(↑(List.length On):Int))] then
               e_ q26 ((ls_355,aaq,ls_366,ls_367,ls_357),(H6.2.2.2).1,(S9.2.2.2).1) fun r_372=>
                let H7:List (bx.D):=List.set L6 (Int.toNat CQ) ((List.getD L6 (Int.toNat CQ) (0,0,0,0,0,0,())).1,((List.getD L6 (Int.toNat CQ) (0,0,0,0,0,0,())).2).1,(((List.getD L6 (Int.toNat CQ) (0,0,0,0,0,0,())).2).2).1,Int.tmod (IntKind.wrap .i64 ((S9.2.2.2).1+1)) 10000,((((List.getD L6 (Int.toNat CQ) (0,0,0,0,0,0,())).2).2).2).2)
                bif jZ [decide (0≤CQ),decide (CQ<(↑(List.length L6):Int)),true] then
                 let ls_376:List (bx.D):=List.set H7 (Int.toNat CQ) ((List.getD H7 (Int.toNat CQ) (0,0,0,0,0,0,())).1,((List.getD H7 (Int.toNat CQ) (0,0,0,0,0,0,())).2).1,(((List.getD H7 (Int.toNat CQ) (0,0,0,0,0,0,())).2).2).1,((((List.getD H7 (Int.toNat CQ) (0,0,0,0,0,0,())).2).2).2).1,(((((List.getD H7 (Int.toNat CQ) (0,0,0,0,0,0,())).2).2).2).2).1,aap,((((((List.getD H7 (Int.toNat CQ) (0,0,0,0,0,0,())).2).2).2).2).2).2)
                 bif jZ [decide (0≤CQ),decide (CQ<(↑(List.length H7):Int))] then
                  let pb_377:List (r5.D):=[(3,Om.2.1,Om.2.2.1,(Om.2.2.2).1,(S9.2.2.2).1,(Om.2.2.2.2.2).1,r_372.1.1,(Om.2.2.2.2.2).2.2)]
                  some (((S8,aap,ls_348,(ls_349,ls_362,ls_350),(ls_363,ls_351),ls_368,ls_376,ls_352),pb_377),())
                 else none
                else none
              else none
             else none
            else none
           else none
          else none
       else none
   else none
def Wh.E0 (xs:(eA.D)):Option (((eA.D)×(List (r5.D)))×(Unit)):=
 let cr:eA.D:=xs
 e_ q65 cr fun r_1=>
  bif !r_1.1 then
   some (((false,0,[],(0,[],()),([],0,()),[],[],()),[]),())
  else
   e_ DN cr fun r_2=>
    some (r_2.1,())
def Wh.q5 (xs:(eA.D)):Option (((Bool))×(Unit)):=
 let LJ:eA.D:=xs
 e_ q79 (LJ,1048576) fun r_1=>
  bif decide (r_1.1<0) then
   some (true,())
  else
   let r_3:=zog Gu LJ
   let eB:=zog E3 r_3.1
   bif jZ [isSm (E3 r_3.1),isSm (Gu LJ)] then
    bif jZ [isSm (Gu LJ)] then
     e_ E0 r_3.1 fun wX=>
      let A9:=zog Eo (wX.1.1,eB.1.1.1,(eB.1.1.2).1,eB.1.1.2.2.1,(eB.1.1.2.2.2).1,(eB.1.1.2.2.2).2.1,(eB.1.1.2.2.2).2.2.1,(eB.1.1.2.2.2).2.2.2.1,(eB.1.1.2.2.2).2.2.2.2)
      let Hy:=zog GZ (wX.1.2,eB.1.2)
      let BU:=bif !A9.1 then true else !Hy.1
      bif jZ [!!!A9.1 || isSm (GZ (wX.1.2,eB.1.2)),isSm (Eo (wX.1.1,eB.1.1.1,(eB.1.1.2).1,eB.1.1.2.2.1,(eB.1.1.2.2.2).1,(eB.1.1.2.2.2).2.1,(eB.1.1.2.2.2).2.2.1,(eB.1.1.2.2.2).2.2.2.1,(eB.1.1.2.2.2).2.2.2.2))] then
       bif BU then
        some (false,())
       else
        let Ja:=zog Eo (r_3.1,r_3.1)
        bif jZ [isSm (Eo (r_3.1,r_3.1)),isSm (Gu LJ)] then
         bif !Ja.1 then
          some (false,())
         else
          e_ q34 (r_3.1,1) fun M4=>
           let Ew:=decide (M4.1<0)
           let Fc:=bif bif Ew then true else !A9.1 then true else !Hy.1
           bif jZ [(!!bif Ew then true else !A9.1) || isSm (GZ (wX.1.2,eB.1.2)),!!Ew || isSm (Eo (wX.1.1,eB.1.1.1,(eB.1.1.2).1,eB.1.1.2.2.1,(eB.1.1.2.2.2).1,(eB.1.1.2.2.2).2.1,(eB.1.1.2.2.2).2.2.1,(eB.1.1.2.2.2).2.2.2.1,(eB.1.1.2.2.2).2.2.2.2))] then
            bif Fc then
             some (false,())
            else
             e_ q34 (wX.1.1,1) fun Hz=>
              e_ q49 (wX.1.2,Hz.1) fun HA=>
               e_ q31 ((wX.1.1.1,(wX.1.1.2).1,wX.1.1.2.2.1,((wX.1.1.2.2.2).1.1,(Hz.2.1.2.2.2).1.2.1,(wX.1.1.2.2.2).1.2.2),((Hz.2.1.2.2.2).2.1.1,(wX.1.1.2.2.2).2.1.2),(Hz.2.1.2.2.2).2.2.1,(Hz.2.1.2.2.2).2.2.2.1,(wX.1.1.2.2.2).2.2.2.2),1) fun HB=>
                let Jk:=decide (HB.1<0)
                bif Jk then
                 some (false,())
                else
                 e_ q47 (HA.2.1,HB.1) fun Jc=>
                  let CM:=decide (Jc.1<0)
                  bif CM then
                   some (false,())
                  else
                   let CN:=Jc.1 != HA.1
                   bif CN then
                    some (false,())
                   else
                    bif jZ [isSm (E0 r_3.1),isSm (Gu LJ)] then
                     let QU:=zog Eo ((wX.1.1.1,(wX.1.1.2).1,wX.1.1.2.2.1,((wX.1.1.2.2.2).1.1,(wX.1.1.2.2.2).1.2.1,(wX.1.1.2.2.2).1.2.2),((wX.1.1.2.2.2).2.1.1,(wX.1.1.2.2.2).2.1.2),(wX.1.1.2.2.2).2.2.1,(wX.1.1.2.2.2).2.2.2.1,(wX.1.1.2.2.2).2.2.2.2),eB.1.1.1,(eB.1.1.2).1,eB.1.1.2.2.1,(eB.1.1.2.2.2).1,(eB.1.1.2.2.2).2.1,(eB.1.1.2.2.2).2.2.1,(eB.1.1.2.2.2).2.2.2.1,(eB.1.1.2.2.2).2.2.2.2)
                     let v_87:=bif !QU.1 then true else !Hy.1
                     bif jZ [!!!QU.1 || isSm (GZ (wX.1.2,eB.1.2)),isSm (Eo ((wX.1.1.1,(wX.1.1.2).1,wX.1.1.2.2.1,((wX.1.1.2.2.2).1.1,(wX.1.1.2.2.2).1.2.1,(wX.1.1.2.2.2).1.2.2),((wX.1.1.2.2.2).2.1.1,(wX.1.1.2.2.2).2.1.2),(wX.1.1.2.2.2).2.2.1,(wX.1.1.2.2.2).2.2.2.1,(wX.1.1.2.2.2).2.2.2.2),eB.1.1.1,(eB.1.1.2).1,eB.1.1.2.2.1,(eB.1.1.2.2.2).1,(eB.1.1.2.2.2).2.1,(eB.1.1.2.2.2).2.2.1,(eB.1.1.2.2.2).2.2.2.1,(eB.1.1.2.2.2).2.2.2.2))] then
                      bif v_87 then
                       some (false,())
                      else
                       bif jZ [isSm (q31 ((wX.1.1.1,(wX.1.1.2).1,wX.1.1.2.2.1,((wX.1.1.2.2.2).1.1,(Hz.2.1.2.2.2).1.2.1,(wX.1.1.2.2.2).1.2.2),((Hz.2.1.2.2.2).2.1.1,(wX.1.1.2.2.2).2.1.2),(Hz.2.1.2.2.2).2.2.1,(Hz.2.1.2.2.2).2.2.2.1,(wX.1.1.2.2.2).2.2.2.2),1))] then
                        bif Jk then
                         some (false,())
                        else
                         bif jZ [isSm (q47 (HA.2.1,HB.1))] then
                          bif CM then
                           some (false,())
                          else
                           bif CN then
                            some (false,())
                           else
                            some (true,())
                         else none
                       else none
                     else none
                    else none
           else none
        else none
      else none
    else none
   else none
end
