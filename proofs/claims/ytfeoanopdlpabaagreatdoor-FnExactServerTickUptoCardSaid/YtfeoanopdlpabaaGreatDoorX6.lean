import Derived.Test.YtfeoanopdlpabaaGreatDoorX5
set_option linter.defProp false
namespace Wh
end Wh
open Wh
open Go Go.Ab
noncomputable section
abbrev VQ:Ty:=(.pair (.int .i64) (.pair (.int .i64) (.pair .bool (.pair (.int .u8) .unit))))
abbrev VQ.D:Type:=(Int)×((Int)×((Bool)×((Int)×(Unit))))
abbrev VR:Ty:=(.pair .str (.pair (.int .u64) .unit))
abbrev VR.D:Type:=(List UInt8)×((Int)×(Unit))
abbrev fe:Ty:=(.pair (.int .i64) (.pair (.lst (.pair (.int .i64) (.pair .str (.pair (.int .i64) (.pair .str .unit))))) .unit))
abbrev fe.D:Type:=(Int)×((List ((Int)×((List UInt8)×((Int)×((List UInt8)×(Unit))))))×(Unit))
abbrev fT:Ty:=(.pair (.lst (.pair (.int .i64) (.pair (.int .i64) (.pair (.int .i64) (.pair (.int .i64) (.pair .bool .unit)))))) (.pair (.int .i64) .unit))
abbrev fT.D:Type:=(List ((Int)×((Int)×((Int)×((Int)×((Bool)×(Unit)))))))×((Int)×(Unit))
abbrev eA:Ty:=(.pair .bool (.pair (.int .i64) (.pair .str (.pair fe (.pair fT (.pair (.lst (.pair (.int .i64) (.pair (.int .i64) (.pair (.int .i64) (.pair (.int .i64) .unit))))) (.pair (.lst (.pair (.int .i64) (.pair (.int .i64) (.pair (.int .i64) (.pair (.int .i64) (.pair (.int .i64) (.pair (.int .i64) .unit))))))) .unit)))))))
abbrev eA.D:Type:=(Bool)×((Int)×((List UInt8)×((fe.D)×((fT.D)×((List ((Int)×((Int)×((Int)×((Int)×(Unit))))))×((List ((Int)×((Int)×((Int)×((Int)×((Int)×((Int)×(Unit))))))))×(Unit)))))))
abbrev gv:Ty:=(.pair (.int .i64) (.pair (.int .i64) (.pair (.lst (.int .i64)) (.pair (.lst (.int .i64)) .unit))))
abbrev gv.D:Type:=(Int)×((Int)×((List (Int))×((List (Int))×(Unit))))
abbrev Lx:Ty:=(.pair (.int .i64) (.pair (.int .i64) (.pair (.lst (.pair (.lst (.int .i64)) (.pair .str .unit))) .unit)))
abbrev Lx.D:Type:=(Int)×((Int)×((List ((List (Int))×((List UInt8)×(Unit))))×(Unit)))
abbrev Lw:Ty:=(.pair gv (.pair Lx .unit))
abbrev Lw.D:Type:=(gv.D)×((Lx.D)×(Unit))
abbrev HH:Ty:=(.pair (.int .i64) (.pair (.int .i64) (.pair (.int .i64) (.pair .str (.pair (.int .i64) (.pair Lw .unit))))))
abbrev HH.D:Type:=(Int)×((Int)×((Int)×((List UInt8)×((Int)×((Lw.D)×(Unit))))))
abbrev r5:Ty:=(.pair (.int .i64) (.pair (.int .i64) (.pair (.int .i64) (.pair (.int .i64) (.pair (.int .i64) (.pair .str (.pair .str .unit)))))))
abbrev r5.D:Type:=(Int)×((Int)×((Int)×((Int)×((Int)×((List UInt8)×((List UInt8)×(Unit)))))))
abbrev O0:Ty:=(.pair eA (.pair (.lst HH) (.pair (.lst (.pair (.int .i64) (.pair .str (.pair .bool .unit)))) (.pair (.lst (.pair (.int .i64) (.pair .str (.pair (.int .i64) (.pair .str .unit))))) .unit))))
abbrev O0.D:Type:=(eA.D)×((List (HH.D))×((List ((Int)×((List UInt8)×((Bool)×(Unit)))))×((List ((Int)×((List UInt8)×((Int)×((List UInt8)×(Unit))))))×(Unit))))
abbrev an:Ty:=(.pair (.int .i64) (.pair .str (.pair (.int .i64) (.pair .str .unit))))
abbrev an.D:Type:=(Int)×((List UInt8)×((Int)×((List UInt8)×(Unit))))
abbrev bp:Ty:=(.pair (.int .i64) (.pair (.int .i64) (.pair (.int .i64) (.pair (.int .i64) (.pair .bool .unit)))))
abbrev bp.D:Type:=(Int)×((Int)×((Int)×((Int)×((Bool)×(Unit)))))
abbrev di:Ty:=(.pair (.int .i64) (.pair (.int .i64) (.pair (.int .i64) (.pair (.int .i64) .unit))))
abbrev di.D:Type:=(Int)×((Int)×((Int)×((Int)×(Unit))))
abbrev bx:Ty:=(.pair (.int .i64) (.pair (.int .i64) di))
abbrev bx.D:Type:=(Int)×((Int)×(di.D))
abbrev Nb:Ty:=(.pair (.int .i64) (.pair .str (.pair .bool .unit)))
abbrev Nb.D:Type:=(Int)×((List UInt8)×((Bool)×(Unit)))
abbrev zR:Ty:=(.pair (.int .i64) (.pair (.int .i64) (.pair (.int .i64) .unit)))
abbrev zR.D:Type:=(Int)×((Int)×((Int)×(Unit)))
abbrev Na:Ty:=(.pair (.lst (.int .i64)) (.pair .str .unit))
abbrev Na.D:Type:=(List (Int))×((List UInt8)×(Unit))
abbrev tEr:Ty:=(.pair .str .unit)
abbrev tEr.D:Type:=(List UInt8)×(Unit)
abbrev VS:Ty:=(.pair (.int .u8) (.pair (.int .u8) .unit))
abbrev VS.D:Type:=(Int)×((Int)×(Unit))
def Wh.Kw (xs:(an.D)×(Int)):Option (((Int))×(Unit)):=
 let cx:=xs.1
 let left_1:=xs.2
 let v_2:Int:=(↑(List.length cx.2.1):Int)
 let CD:=IntKind.wrap .i64 (left_1-v_2)
 bif decide (CD<0) then
  some (-1,())
 else
  let Bl:Int:=(↑(List.length ((cx.2.2.2).1)):Int)
  let ZE:=IntKind.wrap .i64 (CD-Bl)
  bif decide (ZE<0) then
   some (-1,())
  else
   some (ZE,())
abbrev Wh.TL:Type:=((Int)×(Int)×(List (an.D)))×(Unit)
abbrev Wh.ahS:Type:=((((Int))×(Unit))⊕(((Int))×(Unit)))
def Wh.Kg (x:TL):Option (TL⊕ahS):=
 let Ar:=x.1.1
 let Sr:=x.1.2.1
 let Jv:=x.1.2.2
 let je:Int:=(↑(List.length Jv):Int)
 bif decide (Ar<je) then
  let qe:an.D:=List.getD Jv (Int.toNat Ar) (0,[],0,[],())
  let Cs:=zog Kw (qe,Sr)
  bif jZ [isSm (Kw (qe,Sr)),decide (0≤Ar),decide (Ar<je)] then
   bif decide (Cs.1<0) then
    some (.inr (.inl (-1,())))
   else
    some (.inl (((IntKind.wrap .i64 (Ar+1)),Cs.1,Jv),()))
  else none
 else
  some (.inr (.inr (Sr,())))
def Wh.TM:(((Int))×(Unit))⊕(((Int))×(Unit)):=.inl default
def Wh.Mq (xs:(List (an.D))×(Int)):Option (((Int))×(Unit)):=
 let cx:=xs.1
 let left_1:=xs.2
 let v_2:Int:=(↑(List.length cx):Int)
 let CD:=IntKind.wrap .i64 (left_1-v_2)
 bif decide (CD<0) then
  some (-1,())
 else
  let FL:TL:=((0,CD,cx),())
  bif pY Kg FL then
   sumC (oa Kg TM FL) (fun FP=>
    let AH:=FP.1
    some (AH,())) (fun z_28=>
    let agm:=z_28.1
    some (agm,()))
  else none
def Wh.MN (xs:(fe.D)×(Int)):Option (((Int))×(Unit)):=
 let cx:=xs.1
 let left_1:=xs.2
 e_ Mq (cx.2.1,left_1) fun r_2=>
  bif decide (r_2.1<0) then
   some (-1,())
  else
   some (r_2.1,())
def Wh.q77 (xs:(List (bp.D))×(Int)):Option (((Int))×(Unit)):=
 let cx:=xs.1
 let left_1:=xs.2
 let v_2:Int:=(↑(List.length cx):Int)
 let CD:=IntKind.wrap .i64 (left_1-v_2)
 bif decide (CD<0) then
  some (-1,())
 else
  some (CD,())
def Wh.MG (xs:(fT.D)×(Int)):Option (((Int))×(Unit)):=
 let cx:=xs.1
 let left_1:=xs.2
 e_ q77 (cx.1,left_1) fun r_2=>
  bif decide (r_2.1<0) then
   some (-1,())
  else
   some (r_2.1,())
def Wh.q50 (xs:(List (di.D))×(Int)):Option (((Int))×(Unit)):=
 let cx:=xs.1
 let left_1:=xs.2
 let v_2:Int:=(↑(List.length cx):Int)
 let CD:=IntKind.wrap .i64 (left_1-v_2)
 bif decide (CD<0) then
  some (-1,())
 else
  some (CD,())
def Wh.q78 (xs:(List (bx.D))×(Int)):Option (((Int))×(Unit)):=
 let cx:=xs.1
 let left_1:=xs.2
 let v_2:Int:=(↑(List.length cx):Int)
 let CD:=IntKind.wrap .i64 (left_1-v_2)
 bif decide (CD<0) then
  some (-1,())
 else
  some (CD,())
def Wh.q79 (xs:(eA.D)×(Int)):Option (((Int))×(Unit)):=
 let cx:=xs.1
 let left_1:=xs.2
 let v_2:Int:=(↑(List.length (cx.2.2.1)):Int)
 let CD:=IntKind.wrap .i64 (left_1-v_2)
 bif decide (CD<0) then
  some (-1,())
 else
  e_ MN ((cx.2.2.2).1,CD) fun AM=>
   bif decide (AM.1<0) then
    some (-1,())
   else
    e_ MG (cx.2.2.2.2.1,AM.1) fun Bt=>
     bif decide (Bt.1<0) then
      some (-1,())
     else
      e_ q50 ((cx.2.2.2.2.2).1,Bt.1) fun DP=>
       bif decide (DP.1<0) then
        some (-1,())
       else
        e_ q78 ((cx.2.2.2.2.2).2.1,DP.1) fun CJ=>
         bif decide (CJ.1<0) then
          some (-1,())
         else
          some (CJ.1,())
def Wh.MH (xs:(an.D)):Option (((an.D))×(Unit)):=
 let cx:an.D:=xs
 some ((cx.1,cx.2.1,cx.2.2.1,(cx.2.2.2).1,()),())
abbrev Wh.TN:Type:=((Int)×(List (an.D))×(Unit))×((List (an.D)))
abbrev Wh.ahT:Type:=((((Unit))×((List (an.D)))))
def Wh.Kh (x:TN):Option (TN⊕ahT):=
 let tn:=x.1.1
 let BY:=x.1.2.1
 let AK:=x.2
 let Ap:Int:=(↑(List.length BY):Int)
 bif decide (tn<Ap) then
  let FF:=zog MH (List.getD BY (Int.toNat tn) (0,[],0,[],()))
  let y4:List (an.D):=List.set AK (Int.toNat tn) FF.1
  let je:an.D:=List.getD BY (Int.toNat tn) (0,[],0,[],())
  bif jZ [decide (0≤tn),decide (tn<(↑(List.length AK):Int)),isSm (MH je),decide (0≤tn),decide (tn<Ap)] then
   some (.inl (((IntKind.wrap .i64 (tn+1)),BY,()),y4))
  else none
 else
  some (.inr ((),AK))
def Wh.aa4:(((Unit))×((List (an.D)))):=default
def Wh.Ms (xs:(List (an.D))):Option (((List (an.D)))×(Unit)):=
 let cx:List (an.D):=xs
 let BG:List (an.D):=@List.replicate (Int×List UInt8×Int×List UInt8×Unit) (Int.toNat (↑(List.length cx):Int)) ((0:Int),[],(0:Int),[],())
 let v_2:Int:=(↑(List.length cx):Int)
 bif jZ [decide (0≤v_2),decide (v_2≤v_2),decide (v_2≤(↑eD:Int))] then
  let x_21:TN:=((0,cx,()),BG)
  bif pY Kh x_21 then
   let FO:=oa Kh aa4 x_21
   let As:=FO.2
   some (As,())
  else none
 else none
def Wh.MO (xs:(fe.D)):Option ((((Int)×((List (an.D))×(Unit))))×(Unit)):=
 let cx:fe.D:=xs
 e_ Ms cx.2.1 fun r_1=>
  some ((cx.1,r_1.1,()),())
def Wh.Mr (xs:(bp.D)):Option (((bp.D))×(Unit)):=
 let cx:bp.D:=xs
 some ((cx.1,cx.2.1,cx.2.2.1,(cx.2.2.2).1,cx.2.2.2.2.1,()),())
abbrev Wh.Vp:Type:=((Int)×(List (bp.D))×(Unit))×((List (bp.D)))
abbrev Wh.ajl:Type:=((((Unit))×((List (bp.D)))))
def Wh.Lg (x:Vp):Option (Vp⊕ajl):=
 let tn:=x.1.1
 let BY:=x.1.2.1
 let AK:=x.2
 let Ap:Int:=(↑(List.length BY):Int)
 bif decide (tn<Ap) then
  let FF:=zog Mr (List.getD BY (Int.toNat tn) (0,0,0,0,false,()))
  let y4:List (bp.D):=List.set AK (Int.toNat tn) FF.1
  let je:bp.D:=List.getD BY (Int.toNat tn) (0,0,0,0,false,())
  bif jZ [decide (0≤tn),decide (tn<(↑(List.length AK):Int)),isSm (Mr je),decide (0≤tn),decide (tn<Ap)] then
   some (.inl (((IntKind.wrap .i64 (tn+1)),BY,()),y4))
  else none
 else
  some (.inr ((),AK))
def Wh.acE:(((Unit))×((List (bp.D)))):=default
def Wh.q81 (xs:(List (bp.D))):Option (((List (bp.D)))×(Unit)):=
 let cx:List (bp.D):=xs
 let BG:List (bp.D):=@List.replicate (Int×Int×Int×Int×Bool×Unit) (Int.toNat (↑(List.length cx):Int)) ((0:Int),(0:Int),(0:Int),(0:Int),false,())
 let v_2:Int:=(↑(List.length cx):Int)
 bif jZ [decide (0≤v_2),decide (v_2≤v_2),decide (v_2≤(↑eD:Int))] then
  let x_21:Vp:=((0,cx,()),BG)
  bif pY Lg x_21 then
   let FO:=oa Lg acE x_21
   let As:=FO.2
   some (As,())
  else none
 else none
def Wh.MI (xs:(fT.D)):Option ((((List (bp.D))×((Int)×(Unit))))×(Unit)):=
 let cx:fT.D:=xs
 e_ q81 cx.1 fun r_1=>
  some ((r_1.1,cx.2.1,()),())
def Wh.q80 (xs:(di.D)):Option (((di.D))×(Unit)):=
 let cx:di.D:=xs
 some ((cx.1,cx.2.1,cx.2.2.1,(cx.2.2.2).1,()),())
abbrev Wh.U7:Type:=((Int)×(List (di.D))×(Unit))×((List (di.D)))
abbrev Wh.ai3:Type:=((((Unit))×((List (di.D)))))
def Wh.K_ (x:U7):Option (U7⊕ai3):=
 let tn:=x.1.1
 let BY:=x.1.2.1
 let AK:=x.2
 let Ap:Int:=(↑(List.length BY):Int)
 bif decide (tn<Ap) then
  let FF:=zog q80 (List.getD BY (Int.toNat tn) (0,0,0,0,()))
  let y4:List (di.D):=List.set AK (Int.toNat tn) FF.1
  let je:di.D:=List.getD BY (Int.toNat tn) (0,0,0,0,())
  bif jZ [decide (0≤tn),decide (tn<(↑(List.length AK):Int)),isSm (q80 je),decide (0≤tn),decide (tn<Ap)] then
   some (.inl (((IntKind.wrap .i64 (tn+1)),BY,()),y4))
  else none
 else
  some (.inr ((),AK))
def Wh.aci:(((Unit))×((List (di.D)))):=default
def Wh.q51 (xs:(List (di.D))):Option (((List (di.D)))×(Unit)):=
 let cx:List (di.D):=xs
 let BG:List (di.D):=@List.replicate (Int×Int×Int×Int×Unit) (Int.toNat (↑(List.length cx):Int)) ((0:Int),(0:Int),(0:Int),(0:Int),())
 let v_2:Int:=(↑(List.length cx):Int)
 bif jZ [decide (0≤v_2),decide (v_2≤v_2),decide (v_2≤(↑eD:Int))] then
  let x_21:U7:=((0,cx,()),BG)
  bif pY K_ x_21 then
   let FO:=oa K_ aci x_21
   let As:=FO.2
   some (As,())
  else none
 else none
def Wh.Mt (xs:(bx.D)):Option (((bx.D))×(Unit)):=
 let cx:bx.D:=xs
 some ((cx.1,cx.2.1,cx.2.2.1,(cx.2.2.2).1,cx.2.2.2.2.1,(cx.2.2.2.2.2).1,()),())
abbrev Wh.Vq:Type:=((Int)×(List (bx.D))×(Unit))×((List (bx.D)))
abbrev Wh.ajm:Type:=((((Unit))×((List (bx.D)))))
def Wh.Lh (x:Vq):Option (Vq⊕ajm):=
 let tn:=x.1.1
 let BY:=x.1.2.1
 let AK:=x.2
 let Ap:Int:=(↑(List.length BY):Int)
 bif decide (tn<Ap) then
  let FF:=zog Mt (List.getD BY (Int.toNat tn) (0,0,0,0,0,0,()))
  let y4:List (bx.D):=List.set AK (Int.toNat tn) FF.1
  let je:bx.D:=List.getD BY (Int.toNat tn) (0,0,0,0,0,0,())
  bif jZ [decide (0≤tn),decide (tn<(↑(List.length AK):Int)),isSm (Mt je),decide (0≤tn),decide (tn<Ap)] then
   some (.inl (((IntKind.wrap .i64 (tn+1)),BY,()),y4))
  else none
 else
  some (.inr ((),AK))
def Wh.acF:(((Unit))×((List (bx.D)))):=default
def Wh.q82 (xs:(List (bx.D))):Option (((List (bx.D)))×(Unit)):=
 let cx:List (bx.D):=xs
 let BG:List (bx.D):=@List.replicate (Int×Int×Int×Int×Int×Int×Unit) (Int.toNat (↑(List.length cx):Int)) ((0:Int),(0:Int),(0:Int),(0:Int),(0:Int),(0:Int),())
 let v_2:Int:=(↑(List.length cx):Int)
 bif jZ [decide (0≤v_2),decide (v_2≤v_2),decide (v_2≤(↑eD:Int))] then
  let x_21:Vq:=((0,cx,()),BG)
  bif pY Lh x_21 then
   let FO:=oa Lh acF x_21
   let As:=FO.2
   some (As,())
  else none
 else none
def Wh.Gu (xs:(eA.D)):Option ((((Bool)×((Int)×((List UInt8)×(((Int)×((List (an.D))×(Unit)))×(((List (bp.D))×((Int)×(Unit)))×((List (di.D))×((List (bx.D))×(Unit)))))))))×(Unit)):=
 let cx:eA.D:=xs
 e_ MO ((cx.2.2.2).1) fun r_1=>
  e_ MI (cx.2.2.2.2.1) fun r_2=>
   e_ q51 ((cx.2.2.2.2.2).1) fun r_3=>
    e_ q82 ((cx.2.2.2.2.2).2.1) fun eB=>
     some ((cx.1,cx.2.1,cx.2.2.1,r_1.1,r_2.1,r_3.1,eB.1,()),())
def Wh.r_ (xs:(Int)×(Int)×(Int)):Option (((Bool))×(Unit)):=
 let AA:=xs.1
 let Sx:=xs.2.1
 let R9:=xs.2.2
 let zW:=bif decide (AA≥Sx) then decide (AA≤R9) else false
 some (zW,())
abbrev Wh.Ui:Type:=((Int)×(Int)×(List UInt8))×(Unit)
abbrev Wh.ail:Type:=((((Int))×(Unit))⊕((Unit)×(Unit)))
def Wh.Hh (x:Ui):Option (Ui⊕ail):=
 let EK:=x.1.1
 let b_11:=x.1.2.1
 let Lr:=x.1.2.2
 let DS:=decide (EK<(↑(List.length Lr):Int))
 bif DS then
  let vT:Int:=(↑(UInt8.toNat (List.getD Lr (Int.toNat EK) (0:UInt8))):Int)
  let Ap:=vT==b_11
  bif jZ [decide (0≤EK),DS] then
   bif Ap then
    some (.inr (.inl (EK,())))
   else
    some (.inl (((IntKind.wrap .i64 (EK+1)),b_11,Lr),()))
  else none
 else
  some (.inr (.inr ((),())))
def Wh.abv:(((Int))×(Unit))⊕((Unit)×(Unit)):=.inl default
def Wh.B_ (xs:(List UInt8)×(Int)×(Int)):Option (((Int))×(Unit)):=
 let cr:=xs.1
 let BM:=xs.2.1
 let b_2:=xs.2.2
 let x_17:Ui:=((BM,b_2,cr),())
 bif pY Hh x_17 then
  sumC (oa Hh abv x_17) (fun LH=>
   let lg:=LH.1
   some (lg,())) (fun _=>
   some (-1,()))
 else none
abbrev Wh.UG:Type:=((Int)×(List UInt8)×(Int))×(Unit)
abbrev Wh.aiG:Type:=((((Int))×(Unit))⊕(((Int))×(Unit)))
def Wh.KT (x:UG):Option (UG⊕aiG):=
 let Bq:=x.1.1
 let M6:=x.1.2.1
 let n_19:=x.1.2.2
 let lg:=decide (Bq<(↑(List.length M6):Int))
 bif lg then
  let qe:Int:=(↑(UInt8.toNat (List.getD M6 (Int.toNat Bq) (0:UInt8))):Int)
  let th:=bif decide (qe<48) then true else decide (qe>57)
  bif jZ [!!decide (qe<48) || decide (0≤Bq),!!decide (qe<48) || lg,decide (0≤Bq),lg] then
   bif th then
    some (.inr (.inl (-1,())))
   else
    bif jZ [decide (0≤Bq),lg] then
     some (.inl (((IntKind.wrap .i64 (Bq+1)),M6,(IntKind.wrap .i64 ((IntKind.wrap .i64 (n_19*10))+IntKind.wrap .i64 (IntKind.wrap .u8 (qe-48))))),()))
    else none
  else none
 else
  some (.inr (.inr (n_19,())))
def Wh.abQ:(((Int))×(Unit))⊕(((Int))×(Unit)):=.inl default
def Wh.Dq (xs:(List UInt8)):Option (((Int))×(Unit)):=
 let cr:=xs
 let r_1:=zog r_ ((↑(List.length cr):Int),1,6)
 let v_2:=bif !r_1.1 then true else bif decide ((↑(List.length cr):Int)>1) then(↑(UInt8.toNat (List.getD cr (Int.toNat 0) (0:UInt8))):Int)==48 else false
 bif jZ [!(decide ((↑(List.length cr):Int)>1) && !!r_1.1) || decide ((0:Int)≤0),!(decide ((↑(List.length cr):Int)>1) && !!r_1.1) || decide (0<(↑(List.length cr):Int)),isSm (r_ ((↑(List.length cr):Int),1,6))] then
  bif v_2 then
   some (-1,())
  else
   let x_31:UG:=((0,cr,0),())
   bif pY KT x_31 then
    sumC (oa KT abQ x_31) (fun y_32=>
     let Bz:=y_32.1
     some (Bz,())) (fun z_33=>
     let n_35:=z_33.1
     some (n_35,()))
   else none
 else none
def Wh.q37 (acW:((Int))→Option (((List UInt8))×(Unit)))(QY:((Int))→((List UInt8))×(Unit))(xs:(Int)):Option (((List UInt8))×(Unit)):=
 let AA:=xs
 bif decide (AA < -9223372036854775807) then
  some ([(45:UInt8),(57:UInt8),(50:UInt8),(50:UInt8),(51:UInt8),(51:UInt8),(55:UInt8),(50:UInt8),(48:UInt8),(51:UInt8),(54:UInt8),(56:UInt8),(53:UInt8),(52:UInt8),(55:UInt8),(55:UInt8),(53:UInt8),(56:UInt8),(48:UInt8),(56:UInt8)],())
 else
  bif decide (AA<0) then
   let nS:=IntKind.wrap .i64 (0-AA)
   let Cv:tEr.D:=QY nS
   let BL:List UInt8:=[(45:UInt8)]++Cv.1
   bif jZ [decide ((1:Nat)+List.length ((QY nS).1)≤eD),isSm (acW nS)] then
    some (BL,())
   else none
  else
   bif decide (AA<10) then
    let OE:List Int:=[IntKind.wrap .u8 (IntKind.wrap .i64 (48+AA))]
    some (sM OE,())
   else
    let pb_12:List Int:=[IntKind.wrap .u8 (IntKind.wrap .i64 (48+Int.tmod AA 10))]
    let DS:=IntKind.wrap .i64 (Int.tdiv AA 10)
    let BI:tEr.D:=QY DS
    let qe:=BI.1++sM pb_12
    bif jZ [decide (List.length ((QY DS).1)+(1:Nat)≤eD),true,isSm (acW DS),true] then
     some (qe,())
    else none
def Wh.Ei:Nat→((Int))→Option (((List UInt8))×(Unit))
 |0,_=>none
 |n+1,xs=>q37 (Ei n) (fun x=>match Ei n x with | some y=>y|none=>default) xs
def Wh.Uw (n:Nat):Ei (n+1)=q37 (Ei n) (fun x=>match Ei n x with | some y=>y|none=>default):=rfl
def Wh.Ca (xs:(Int)):Option (((List UInt8))×(Unit)):=Ei 20 xs
abbrev Wh.Vu:Type:=((Int)×(Int)×(Unit))×((List (Int)))
abbrev Wh.ajq:Type:=((((Unit))×((List (Int)))))
def Wh.MX (x:Vu):Option (Vu⊕ajq):=
 let AP:=x.1.1
 let n_28:=x.1.2.1
 let GQ:=x.2
 bif decide (AP≥0) then
  let n_:List Int:=[IntKind.wrap .u8 (Int.fdiv n_28 (2 ^ Min.min (Int.toNat (IntKind.wrap .i64 (8*AP))) (Go.IntKind.bits Go.IntKind.i64)))]
  let A6:=GQ++n_
  bif jZ [decide (List.length GQ+(1:Nat)≤eD),decide (0≤(IntKind.wrap .i64 (8*AP)))] then
   some (.inl (((IntKind.wrap .i64 (AP-1)),n_28,()),A6))
  else none
 else
  some (.inr ((),GQ))
def Wh.acJ:(((Unit))×((List (Int)))):=default
abbrev Wh.Vt:Type:=((Unit)×(List UInt8))×((List (Int)))
abbrev Wh.ajp:Type:=((((Unit)×(List UInt8))×((List (Int)))))
def Wh.Li (x:Vt):Option (Vt⊕ajp):=
 let adx:=x.1.2
 let Qs:=x.2
 let Cg:Bool:=(Int.tmod (↑(List.length Qs):Int) 64) != 56
 bif Cg then
  let N6:=Qs ++ [(0:Int)]
  bif jZ [decide (List.length Qs+(1:Nat)≤eD)] then
   some (.inl (((),adx),N6))
  else none
 else
  some (.inr (((),adx),Qs))
def Wh.acI:(((Unit)×(List UInt8))×((List (Int)))):=default
def Wh.q88 (xs:(List UInt8)):Option (((List (Int)))×(Unit)):=
 let Bx:=xs
 let BG:List Int:=bytesOf Bx ++ [(128:Int)]
 bif jZ [decide (List.length (bytesOf Bx)+(1:Nat)≤eD),decide (List.length Bx≤eD)] then
  let x_12:Vt:=(((),Bx),BG)
  bif pY Li x_12 then
   let y_13:=oa Li acI x_12
   let akE:=y_13.1.2
   let zY:=y_13.2
   let x_37:Vu:=((7,(IntKind.wrap .i64 ((↑(List.length akE):Int)*8)),()),zY)
   bif pY MX x_37 then
    let y_38:=oa MX acJ x_37
    let DF:=y_38.2
    some (DF,())
   else none
  else none
 else none
def Wh.zI (xs:(Int)×(Int)):Option (((Int))×(Unit)):=
 let Bc:=xs.1
 let n_1:=xs.2
 let v_2:Int:=Int.fdiv Bc (2 ^ Min.min (Int.toNat n_1) (Go.IntKind.bits Go.IntKind.u32))
 let nS:=IntKind.wrap .i64 (32-n_1)
 let Bl:Int:=pS Go.BinOp.or Go.IntKind.u32 v_2 (IntKind.wrap .u32 (Bc*2 ^ Min.min (Int.toNat nS) (Go.IntKind.bits Go.IntKind.u32)))
 bif jZ [decide (0≤nS),decide (0≤n_1)] then
  some (Bl,())
 else none
abbrev Wh.T0:Type:=((Int)×(Unit))×((List (Int)))
abbrev Wh.ah4:Type:=((((Unit))×((List (Int)))))
def Wh.MD (x:T0):Option (T0⊕ah4):=
 let HW:=x.1.1
 let Dj:=x.2
 bif decide (HW<64) then
  let O4:=IntKind.wrap .i64 (HW-15)
  let O9:=List.getD Dj (Int.toNat O4) 0
  bif jZ [decide (0≤O4),decide (O4<(↑(List.length Dj):Int))] then
   let v_99:=IntKind.wrap .i64 (HW-2)
   let O_:=List.getD Dj (Int.toNat v_99) 0
   bif jZ [decide (0≤v_99),decide (v_99<(↑(List.length Dj):Int))] then
    let r_102:=zog zI (O9,7)
    let VG:=zog zI (O9,18)
    let v_105:Int:=Int.fdiv O9 (2 ^ Min.min (Int.toNat 3) (Go.IntKind.bits Go.IntKind.u32))
    let a_107:Int:=pS Go.BinOp.xor Go.IntKind.u32 (pS Go.BinOp.xor Go.IntKind.u32 r_102.1 VG.1) v_105
    bif jZ [true,isSm (zI (O9,18)),isSm (zI (O9,7))] then
     let r_108:=zog zI (O_,17)
     let OO:=zog zI (O_,19)
     let v_111:Int:=Int.fdiv O_ (2 ^ Min.min (Int.toNat 10) (Go.IntKind.bits Go.IntKind.u32))
     let c_113:Int:=pS Go.BinOp.xor Go.IntKind.u32 (pS Go.BinOp.xor Go.IntKind.u32 r_108.1 OO.1) v_111
     bif jZ [true,isSm (zI (O_,19)),isSm (zI (O_,17))] then
      let pb_114:List Int:=[IntKind.wrap .u32 (IntKind.wrap .u32 (IntKind.wrap .u32 (List.getD Dj (Int.toNat (IntKind.wrap .i64 (HW-16))) 0+a_107)+List.getD Dj (Int.toNat (IntKind.wrap .i64 (HW-7))) 0)+c_113)]
      let Qc:=Dj++pb_114
      let v_116:=IntKind.wrap .i64 (HW-16)
      let Q_:=IntKind.wrap .i64 (HW-7)
      bif jZ [decide (List.length Dj+(1:Nat)≤eD),decide (0≤Q_),decide (Q_<(↑(List.length Dj):Int)),decide (0≤v_116),decide (v_116<(↑(List.length Dj):Int))] then
       some (.inl (((IntKind.wrap .i64 (HW+1)),()),Qc))
      else none
     else none
    else none
   else none
  else none
 else
  some (.inr ((),Dj))
def Wh.abd:(((Unit))×((List (Int)))):=default
abbrev Wh.TZ:Type:=((Int)×(List (Int))×(Unit))×((List (Int)))
abbrev Wh.ah3:Type:=((((Unit))×((List (Int)))))
def Wh.MC (x:TZ):Option (TZ⊕ah3):=
 let JQ:=x.1.1
 let GF:=x.1.2.1
 let A6:=x.2
 bif decide (JQ<16) then
  let QC:List Int:=[pS Go.BinOp.or Go.IntKind.u32 (pS Go.BinOp.or Go.IntKind.u32 (pS Go.BinOp.or Go.IntKind.u32 (IntKind.wrap .u32 (IntKind.wrap .u32 (List.getD GF (Int.toNat (IntKind.wrap .i64 (4*JQ))) 0)*2 ^ Min.min (Int.toNat 24) (Go.IntKind.bits Go.IntKind.u32))) (IntKind.wrap .u32 (IntKind.wrap .u32 (List.getD GF (Int.toNat (IntKind.wrap .i64 (IntKind.wrap .i64 (4*JQ)+1))) 0)*2 ^ Min.min (Int.toNat 16) (Go.IntKind.bits Go.IntKind.u32)))) (IntKind.wrap .u32 (IntKind.wrap .u32 (List.getD GF (Int.toNat (IntKind.wrap .i64 (IntKind.wrap .i64 (4*JQ)+2))) 0)*2 ^ Min.min (Int.toNat 8) (Go.IntKind.bits Go.IntKind.u32)))) (IntKind.wrap .u32 (List.getD GF (Int.toNat (IntKind.wrap .i64 (IntKind.wrap .i64 (4*JQ)+3))) 0))]
  let Au:=A6++QC
  let zL:=IntKind.wrap .i64 (4*JQ)
  bif jZ [decide (List.length A6+(1:Nat)≤eD),decide (0≤IntKind.wrap .i64 (zL+3)),decide (IntKind.wrap .i64 (zL+3)<(↑(List.length GF):Int)),true,decide (0≤IntKind.wrap .i64 (zL+2)),decide (IntKind.wrap .i64 (zL+2)<(↑(List.length GF):Int)),true,decide (0≤IntKind.wrap .i64 (zL+1)),decide (IntKind.wrap .i64 (zL+1)<(↑(List.length GF):Int)),true,decide (0≤zL),decide (zL<(↑(List.length GF):Int))] then
   some (.inl (((IntKind.wrap .i64 (JQ+1)),GF,()),Au))
  else none
 else
  some (.inr ((),A6))
def Wh.abc:(((Unit))×((List (Int)))):=default
def Wh.MB (xs:(List (Int))):Option (((List (Int)))×(Unit)):=
 let wh:=xs
 let x_59:TZ:=((0,wh,()),[])
 bif pY MC x_59 then
  let y_60:=oa MC abc x_59
  let Oo:=y_60.2
  let x_124:T0:=((16,()),Oo)
  bif pY MD x_124 then
   let y_125:=oa MD abd x_124
   let ls_126:=y_125.2
   some (ls_126,())
  else none
 else none
def Wh.q87 (_:Unit):Option (((List (Int)))×(Unit)):=
 let pb_0:List Int:=[(1116352408:Int),1899447441,3049323471,3921009573,961987163,1508970993,2453635748,2870763221,3624381080,310598401,607225278,1426881987,1925078388,2162078206,2614888103,3248222580,3835390401,4022224774,264347078,604807628,770255983,1249150122,1555081692,1996064986,2554220882,2821834349,2952996808,3210313671,3336571891,3584528711,113926993,338241895,666307205,773529912,1294757372,1396182291,1695183700,1986661051,2177026350,2456956037,2730485921,2820302411,3259730800,3345764771,3516065817,3600352804,4094571909,275423344,430227734,506948616,659060556,883997877,958139571,1322822218,1537002063,1747873779,1955562222,2024104815,2227730452,2361852424,2428436474,2756734187,3204031479,3329325298]
 some (pb_0,())
abbrev Wh.TY:Type:=((Int)×(Unit)×(List (Int))×(Unit))×((List (Int))×(List (Int)))
abbrev Wh.ah2:Type:=((((Unit))×((List (Int)))))
def Wh.QI (x:TY):Option (TY⊕ah2):=
 let HV:=x.1.1
 let R7:=(x.1.2.2).1
 let Od:=x.2.1
 let GP:=x.2.2
 bif decide (HV<8) then
  let pb_193:List Int:=[IntKind.wrap .u32 (List.getD R7 (Int.toNat HV) 0+List.getD Od (Int.toNat HV) 0)]
  let F9:=GP++pb_193
  bif jZ [decide (List.length GP+(1:Nat)≤eD),decide (0≤HV),decide (HV<(↑(List.length Od):Int)),decide (0≤HV),decide (HV<(↑(List.length R7):Int))] then
   some (.inl (((IntKind.wrap .i64 (HV+1)),(),R7,()),Od,F9))
  else none
 else
  some (.inr ((),GP))
def Wh.abb:(((Unit))×((List (Int)))):=default
abbrev Wh.TW:Type:=((Int)×(Unit)×(Unit)×(Unit)×(List (Int))×(Int)×(Int)×(Int)×(Int))×((List (Int))×(List (Int))×(List (Int)))
abbrev Wh.ah1:Type:=((((Unit)×(Unit)×(Unit)×(List (Int))×(Int)×(Int)×(Int)×(Int))×((List (Int))×(List (Int))×(List (Int)))))
def Wh.QH (x:TW):Option (TW⊕ah1):=
 let Me:=x.1.1
 let h_73:=(x.1.2.2.2.2).1
 let i_74:=(x.1.2.2.2.2).2.1
 let aaz:=(x.1.2.2.2.2).2.2.1
 let a_76:=(x.1.2.2.2.2).2.2.2.1
 let t_77:=(x.1.2.2.2.2).2.2.2.2
 let Ed:=x.2.1
 let L_:=x.2.2.1
 let Ma:=x.2.2.2
 bif decide (Me>0) then
  let CE:=List.set Ed (Int.toNat Me) (List.getD Ed (Int.toNat (IntKind.wrap .i64 (Me-1))) 0)
  let O3:=IntKind.wrap .i64 (Me-1)
  bif jZ [decide (0≤Me),decide (Me<(↑(List.length Ed):Int)),decide (0≤O3),decide (O3<(↑(List.length Ed):Int))] then
   some (.inl ((O3,(),(),(),h_73,i_74,aaz,a_76,t_77),CE,L_,Ma))
  else none
 else
  some (.inr (((),(),(),h_73,i_74,aaz,a_76,t_77),Ed,L_,Ma))
def Wh.TX:(((Unit)×(Unit)×(Unit)×(List (Int))×(Int)×(Int)×(Int)×(Int))×((List (Int))×(List (Int))×(List (Int)))):=default
abbrev Wh.TV:Type:=((Unit)×(Int)×(Unit)×(Unit)×(List (Int)))×((List (Int))×(List (Int))×(List (Int)))
abbrev Wh.ah0:Type:=((((Unit)×(List (Int)))×((List (Int)))))
def Wh.MA (x:TV):Option (TV⊕ah0):=
 let HU:=x.1.2.1
 let h_103:=x.1.2.2.2.2
 let Ay:=x.2.1
 let N4:=x.2.2.1
 let N5:=x.2.2.2
 bif decide (HU<64) then
  let Gz:=List.getD Ay (Int.toNat 4) 0
  let r_119:=zog zI (Gz,6)
  let Hx:=zog zI (Gz,11)
  let r_121:=zog zI (Gz,25)
  let e_122:Int:=pS Go.BinOp.xor Go.IntKind.u32 (pS Go.BinOp.xor Go.IntKind.u32 r_119.1 Hx.1) r_121.1
  bif jZ [isSm (zI (Gz,25)),true,decide (4<(↑(List.length Ay):Int)),isSm (zI (Gz,11)),true,decide (4<(↑(List.length Ay):Int)),isSm (zI (Gz,6)),true,decide (4<(↑(List.length Ay):Int))] then
   let v_123:=List.getD Ay (Int.toNat 5) 0
   let v_124:=List.getD Ay (Int.toNat 6) 0
   let ch_127:Int:=pS Go.BinOp.xor Go.IntKind.u32 (pS Go.BinOp.and Go.IntKind.u32 Gz v_123) (pS Go.BinOp.and Go.IntKind.u32 (pS Go.BinOp.xor Go.IntKind.u32 (Go.IntKind.max Go.IntKind.u32) Gz) v_124)
   bif jZ [true,decide (6<(↑(List.length Ay):Int)),true,decide (4<(↑(List.length Ay):Int)),true,decide (5<(↑(List.length Ay):Int)),true,decide (4<(↑(List.length Ay):Int))] then
    let v_128:=List.getD Ay (Int.toNat 7) 0
    let v_131:=List.getD N5 (Int.toNat HU) 0
    let v_133:=List.getD N4 (Int.toNat HU) 0
    bif jZ [decide (0≤HU),decide (HU<(↑(List.length N4):Int)),decide (0≤HU),decide (HU<(↑(List.length N5):Int)),true,decide (7<(↑(List.length Ay):Int))] then
     let Jh:=List.getD Ay (Int.toNat 0) 0
     let r_147:=zog zI (Jh,2)
     let r_148:=zog zI (Jh,13)
     let r_149:=zog zI (Jh,22)
     let a_150:Int:=pS Go.BinOp.xor Go.IntKind.u32 (pS Go.BinOp.xor Go.IntKind.u32 r_147.1 r_148.1) r_149.1
     bif jZ [isSm (zI (Jh,22)),true,decide (0<(↑(List.length Ay):Int)),isSm (zI (Jh,13)),true,decide (0<(↑(List.length Ay):Int)),isSm (zI (Jh,2)),true,decide (0<(↑(List.length Ay):Int))] then
      let v_151:=List.getD Ay (Int.toNat 1) 0
      let v_152:=List.getD Ay (Int.toNat 2) 0
      let ahf:Int:=pS Go.BinOp.xor Go.IntKind.u32 (pS Go.BinOp.xor Go.IntKind.u32 (pS Go.BinOp.and Go.IntKind.u32 Jh v_151) (pS Go.BinOp.and Go.IntKind.u32 Jh v_152)) (pS Go.BinOp.and Go.IntKind.u32 v_151 v_152)
      bif jZ [true,decide (2<(↑(List.length Ay):Int)),true,decide (1<(↑(List.length Ay):Int)),true,decide (2<(↑(List.length Ay):Int)),true,decide (0<(↑(List.length Ay):Int)),true,decide (1<(↑(List.length Ay):Int)),true,decide (0<(↑(List.length Ay):Int))] then
       let x_156:TW:=((7,(),(),(),h_103,HU,ahf,a_150,(IntKind.wrap .u32 (IntKind.wrap .u32 (IntKind.wrap .u32 (IntKind.wrap .u32 (v_128+e_122)+ch_127)+v_131)+v_133))),Ay,N4,N5)
       bif pY QH x_156 then
        let Jt:=oa QH TX x_156
        let h_158:=Jt.1.2.2.2.1
        let i_159:=(Jt.1.2.2.2.2).1
        let ahg:=(Jt.1.2.2.2.2).2.1
        let a_161:=(Jt.1.2.2.2.2).2.2.1
        let t_162:=(Jt.1.2.2.2.2).2.2.2
        let JW:=Jt.2.1
        let Qf:=Jt.2.2.1
        let Qg:=Jt.2.2.2
        let aab:=List.set JW (Int.toNat 4) (IntKind.wrap .u32 (List.getD JW (Int.toNat 4) 0+t_162))
        bif jZ [true,decide (4<(↑(List.length JW):Int)),true,decide (4<(↑(List.length JW):Int))] then
         let ls_169:=List.set aab (Int.toNat 0) (IntKind.wrap .u32 (IntKind.wrap .u32 (t_162+a_161)+ahg))
         bif jZ [true,decide (0<(↑(List.length aab):Int))] then
          some (.inl (((),(IntKind.wrap .i64 (i_159+1)),(),(),h_158),ls_169,Qf,Qg))
         else none
        else none
       else none
      else none
     else none
    else none
   else none
  else none
 else
  some (.inr (((),h_103),Ay))
def Wh.aba:(((Unit)×(List (Int)))×((List (Int)))):=default
def Wh.Kk (xs:(List (Int))×(List (Int))):Option (((List (Int)))×(Unit)):=
 let h_0:=xs.1
 let b_1:=xs.2
 e_ MB b_1 fun r_2=>
  e_ q87 () fun r_3=>
   let Fy:List Int:=[]++h_0
   bif jZ [decide ((0:Nat)+List.length h_0≤eD)] then
    let x_173:TV:=(((),0,(),(),h_0),Fy,r_2.1,r_3.1)
    bif pY MA x_173 then
     let y_174:=oa MA aba x_173
     let h_175:=y_174.1.2
     let JX:=y_174.2
     let x_199:TY:=((0,(),h_175,()),JX,[])
     bif pY QI x_199 then
      let y_200:=oa QI abb x_199
      let ls_201:=y_200.2
      some (ls_201,())
     else none
    else none
   else none
abbrev Wh.Uz:Type:=((Int)×(Unit)×(Unit))×((List (Int))×(List (Int)))
abbrev Wh.aiA:Type:=((((Unit))×((List (Int)))))
def Wh.QJ (x:Uz):Option (Uz⊕aiA):=
 let DC:=x.1.1
 let Ai:=x.2.1
 let Au:=x.2.2
 bif decide (DC<8) then
  let EU:List Int:=[IntKind.wrap .u8 (Int.fdiv (List.getD Ai (Int.toNat DC) 0) (2 ^ Min.min (Int.toNat 24) (Go.IntKind.bits Go.IntKind.u32))),IntKind.wrap .u8 (Int.fdiv (List.getD Ai (Int.toNat DC) 0) (2 ^ Min.min (Int.toNat 16) (Go.IntKind.bits Go.IntKind.u32))),IntKind.wrap .u8 (Int.fdiv (List.getD Ai (Int.toNat DC) 0) (2 ^ Min.min (Int.toNat 8) (Go.IntKind.bits Go.IntKind.u32))),IntKind.wrap .u8 (List.getD Ai (Int.toNat DC) 0)]
  let Ad:=Au++EU
  bif jZ [decide (List.length Au+(4:Nat)≤eD),decide (0≤DC),decide (DC<(↑(List.length Ai):Int)),true,decide (0≤DC),decide (DC<(↑(List.length Ai):Int)),true,decide (0≤DC),decide (DC<(↑(List.length Ai):Int)),true,decide (0≤DC),decide (DC<(↑(List.length Ai):Int))] then
   some (.inl (((IntKind.wrap .i64 (DC+1)),(),()),Ai,Ad))
  else none
 else
  some (.inr ((),Au))
def Wh.abK:(((Unit))×((List (Int)))):=default
abbrev Wh.Uy:Type:=((Int)×(Unit)×(Unit))×((List (Int))×(List (Int)))
abbrev Wh.aiz:Type:=((((Unit))×((List (Int)))))
def Wh.KN (x:Uy):Option (Uy⊕aiz):=
 let Dd:=x.1.1
 let HX:=x.2.1
 let N6:=x.2.2
 bif decide (Dd<(↑(List.length HX):Int)) then
  let I_:=zog Kk (N6,List.take (Int.toNat (IntKind.wrap .i64 (Dd+64)-Dd)) (List.drop (Int.toNat Dd) HX))
  let vT:=IntKind.wrap .i64 (Dd+64)
  bif jZ [isSm (Kk (N6,List.take (Int.toNat (vT-Dd)) (List.drop (Int.toNat Dd) HX))),decide (0≤Dd),decide (Dd≤vT),decide (vT≤(↑(List.length HX):Int))] then
   some (.inl ((vT,(),()),HX,I_.1))
  else none
 else
  some (.inr ((),N6))
def Wh.abJ:(((Unit))×((List (Int)))):=default
def Wh.KM (xs:(List UInt8)):Option (((List UInt8))×(Unit)):=
 let Bx:=xs
 e_ q88 Bx fun r_1=>
  let x_16:Uy:=((0,(),()),r_1.1,[(1779033703:Int),3144134277,1013904242,2773480762,1359893119,2600822924,528734635,1541459225])
  bif pY KN x_16 then
   let y_17:=oa KN abJ x_16
   let y4:=y_17.2
   let x_47:Uz:=((0,(),()),y4,[])
   bif pY QJ x_47 then
    let y_48:=oa QJ abK x_47
    let Ia:=y_48.2
    some (sM Ia,())
   else none
  else none
abbrev Wh.Ux:Type:=((Int)×(List UInt8)×(Unit))×((List (Int)))
abbrev Wh.aiy:Type:=((((Unit))×((List (Int)))))
def Wh.KL (x:Ux):Option (Ux⊕aiy):=
 let CT:=x.1.1
 let Bw:=x.1.2.1
 let zY:=x.2
 let nI:=decide (CT<(↑(List.length Bw):Int))
 bif nI then
  let Dm:List Int:=[(↑(UInt8.toNat (List.getD [(48:UInt8),(49:UInt8),(50:UInt8),(51:UInt8),(52:UInt8),(53:UInt8),(54:UInt8),(55:UInt8),(56:UInt8),(57:UInt8),(97:UInt8),(98:UInt8),(99:UInt8),(100:UInt8),(101:UInt8),(102:UInt8)] (Int.toNat (IntKind.wrap .u8 (Int.tdiv (↑(UInt8.toNat (List.getD Bw (Int.toNat CT) (0:UInt8))):Int) 16))) (0:UInt8))):Int),(↑(UInt8.toNat (List.getD [(48:UInt8),(49:UInt8),(50:UInt8),(51:UInt8),(52:UInt8),(53:UInt8),(54:UInt8),(55:UInt8),(56:UInt8),(57:UInt8),(97:UInt8),(98:UInt8),(99:UInt8),(100:UInt8),(101:UInt8),(102:UInt8)] (Int.toNat (Int.tmod (↑(UInt8.toNat (List.getD Bw (Int.toNat CT) (0:UInt8))):Int) 16)) (0:UInt8))):Int)]
  let y4:=zY++Dm
  let je:Int:=(↑(UInt8.toNat (List.getD Bw (Int.toNat CT) (0:UInt8))):Int)
  bif jZ [decide (List.length zY+(2:Nat)≤eD),decide (0≤Int.tmod je 16),decide (Int.tmod je 16<(↑(16:Nat):Int)),true,decide (0≤CT),nI,decide (0≤IntKind.wrap .u8 (Int.tdiv je 16)),decide (IntKind.wrap .u8 (Int.tdiv je 16)<(↑(16:Nat):Int)),true,decide (0≤CT),nI] then
   some (.inl (((IntKind.wrap .i64 (CT+1)),Bw,()),y4))
  else none
 else
  some (.inr ((),zY))
def Wh.abI:(((Unit))×((List (Int)))):=default
def Wh.Hj (xs:(List UInt8)):Option (((List UInt8))×(Unit)):=
 let cr:=xs
 let x_25:Ux:=((0,cr,()),[])
 bif pY KL x_25 then
  let Ci:=oa KL abI x_25
  let zC:=Ci.2
  some (sM zC,())
 else none
def Wh.EZ (xs:(List UInt8)):Option (((List UInt8))×(Unit)):=
 let Bx:=xs
 let r_1:=zog KM Bx
 let r_3:=zog Hj r_1.1
 bif jZ [isSm (Hj r_1.1),isSm (KM Bx)] then
  some (r_3.1,())
 else none
def Wh.KA (xs:(Int)×(List UInt8)):Option (((List UInt8))×(Unit)):=
 let AA:=xs.1
 let Ce:=xs.2
 let r_2:=zog Ca AA
 let eB:=zog Ca (↑(List.length Ce):Int)
 let Dc:=r_2.1 ++ [(32:UInt8)]++eB.1 ++ [(32:UInt8)]
 bif jZ [decide (List.length (r_2.1 ++ [(32:UInt8)]++eB.1)+(1:Nat)≤eD),decide (List.length (r_2.1 ++ [(32:UInt8)])+List.length eB.1≤eD),isSm (Ca (↑(List.length Ce):Int)),decide (List.length r_2.1+(1:Nat)≤eD),isSm (Ca AA)] then
  let BL:List UInt8:=Dc++Ce
  let BI:=zog EZ BL
  let qe:List UInt8:=Dc++List.take (Int.toNat ((16:Int)-0)) (List.drop (Int.toNat 0) BI.1) ++ [(32:UInt8)]++Ce ++ [(10:UInt8)]
  bif jZ [decide (List.length (Dc++List.take (Int.toNat ((16:Int)-0)) (List.drop (Int.toNat 0) ((zog EZ BL).1)) ++ [(32:UInt8)]++Ce)+(1:Nat)≤eD),decide (List.length (Dc++List.take (Int.toNat ((16:Int)-0)) (List.drop (Int.toNat 0) ((zog EZ BL).1)) ++ [(32:UInt8)])+List.length Ce≤eD),decide (List.length (Dc++List.take (Int.toNat ((16:Int)-0)) (List.drop (Int.toNat 0) ((zog EZ BL).1)))+(1:Nat)≤eD),decide (List.length Dc+List.length (List.take (Int.toNat ((16:Int)-0)) (List.drop (Int.toNat 0) ((zog EZ BL).1)))≤eD),true,true,decide (16≤(↑(List.length ((zog EZ BL).1)):Int)),isSm (EZ BL),decide (List.length Dc+List.length Ce≤eD)] then
   some (qe,())
  else none
 else none
def Wh.IA (xs:(List UInt8)×(Int)×(Int)):Option (((List UInt8)×(Int))×(Unit)):=
 let BO:=xs.1
 let BM:=xs.2.1
 let To:=xs.2.2
 e_ B_ (BO,BM,32) fun r_3=>
  let zV:=decide (r_3.1<0)
  let nG:=zog Dq (List.take (Int.toNat (r_3.1-BM)) (List.drop (Int.toNat BM) BO))
  let Bl:=bif zV then true else nG.1 != To
  bif jZ [!!zV || isSm (Dq (List.take (Int.toNat (r_3.1-BM)) (List.drop (Int.toNat BM) BO))),!!zV || decide (0≤BM),!!zV || decide (BM≤r_3.1),!!zV || decide (r_3.1≤(↑(List.length BO):Int))] then
   bif Bl then
    some (([],0),())
   else
    let z8:=IntKind.wrap .i64 (r_3.1+1)
    e_ B_ (BO,z8,32) fun r_9=>
     bif decide (r_9.1<0) then
      some (([],0),())
     else
      let I_:=zog Dq (List.take (Int.toNat (r_9.1-z8)) (List.drop (Int.toNat z8) BO))
      bif jZ [isSm (Dq (List.take (Int.toNat (r_9.1-z8)) (List.drop (Int.toNat z8) BO))),decide (0≤z8),decide (z8≤r_9.1),decide (r_9.1≤(↑(List.length BO):Int))] then
       let vT:=IntKind.wrap .i64 (r_9.1+18)
       let r_15:=zog r_ (I_.1,1,500)
       let nI:=bif !r_15.1 then true else decide (IntKind.wrap .i64 (IntKind.wrap .i64 (vT+I_.1)+1)>(↑(List.length BO):Int))
       bif jZ [isSm (r_ (I_.1,1,500))] then
        bif nI then
         some (([],0),())
        else
         let z_:=IntKind.wrap .i64 (vT+I_.1)
         let BI:=zog KA (To,List.take (Int.toNat (z_-vT)) (List.drop (Int.toNat vT) BO))
         bif jZ [isSm (KA (To,List.take (Int.toNat (z_-vT)) (List.drop (Int.toNat vT) BO))),decide (0≤vT),decide (vT≤z_),decide (z_≤(↑(List.length BO):Int))] then
          bif jZ [decide (0≤BM),decide (BM≤IntKind.wrap .i64 (z_+1)),decide (IntKind.wrap .i64 (z_+1)≤(↑(List.length BO):Int))] then
           bif(!List.take (Int.toNat (IntKind.wrap .i64 (z_+1)-BM)) (List.drop (Int.toNat BM) BO)==BI.1) then
            some (([],0),())
           else
            let CL:Int:=(↑(List.length BI.1):Int)
            let s_:List UInt8:=List.take (Int.toNat (z_-vT)) (List.drop (Int.toNat vT) BO)
            bif jZ [decide (0≤vT),decide (vT≤z_),decide (z_≤(↑(List.length BO):Int))] then
             some ((s_,CL),())
            else none
          else none
         else none
       else none
      else none
  else none
abbrev Wh.Uj:Type:=((Int)×(Unit)×(List UInt8))×((List (List UInt8)))
abbrev Wh.aim:Type:=((((Unit)×(Int))×((List (List UInt8)))))
def Wh.KB (x:Uj):Option (Uj⊕aim):=
 let Rz:=x.1.1
 let ZP:=x.1.2.2
 let AX:=x.2
 let lg:Int:=(↑(List.length AX):Int)
 e_ IA (ZP,Rz,lg) fun Dt=>
  bif(Dt.1.2==0) then
   some (.inr (((),Rz),AX))
  else
   let Fx:List (List UInt8):=[Dt.1.1]
   let AF:List (List UInt8):=AX++Fx
   bif jZ [decide (List.length AX+(1:Nat)≤eD)] then
    some (.inl (((IntKind.wrap .i64 (Rz+Dt.1.2)),(),ZP),AF))
   else none
def Wh.abw:(((Unit)×(Int))×((List (List UInt8)))):=default
def Wh.IB (xs:(List UInt8)):Option (((List (List UInt8))×(Int))×(Unit)):=
 let BO:=xs
 let x_33:Uj:=((0,(),BO),[])
 bif pY KB x_33 then
  let y_34:=oa KB abw x_33
  let Ak:=y_34.1.2
  let DE:=y_34.2
  some ((DE,Ak),())
 else none
abbrev Wh.Uh:Type:=((Int)×(Int)×(List UInt8)×(Unit)×(Int))×((List (List UInt8)))
abbrev Wh.aik:Type:=((((Int)×(List UInt8)×(Unit))×((List (List UInt8)))))
def Wh.C5 (x:Uh):Option (Uh⊕aik):=
 let ia:=x.1.1
 let LP:=x.1.2.1
 let Lt:=(x.1.2.2).1
 let RA:=x.1.2.2.2.2
 let AX:=x.2
 let lg:=decide (ia<(↑(List.length Lt):Int))
 bif lg then
  let qe:Int:=(↑(UInt8.toNat (List.getD Lt (Int.toNat ia) (0:UInt8))):Int)
  let zK:=qe==RA
  bif jZ [decide (0≤ia),lg] then
   bif zK then
    let DJ:List (List UInt8):=[List.take (Int.toNat (ia-LP)) (List.drop (Int.toNat LP) Lt)]
    let An:List (List UInt8):=AX++DJ
    bif jZ [decide (List.length AX+(1:Nat)≤eD),decide (0≤LP),decide (LP≤ia),decide (ia≤(↑(List.length Lt):Int))] then
     let s_:=IntKind.wrap .i64 (ia+1)
     some (.inl ((s_,s_,Lt,(),RA),An))
    else none
   else
    some (.inl (((IntKind.wrap .i64 (ia+1)),LP,Lt,(),RA),AX))
  else none
 else
  some (.inr ((LP,Lt,()),AX))
def Wh.abu:(((Int)×(List UInt8)×(Unit))×((List (List UInt8)))):=default
def Wh.Hg (xs:(List UInt8)×(Int)):Option (((List (List UInt8)))×(Unit)):=
 let cr:=xs.1
 let BM:=xs.2
 let DT:Uh:=((0,0,cr,(),BM),[])
 bif pY C5 DT then
  let Cw:=oa C5 abu DT
  let PR:=Cw.1.1
  let OX:=Cw.1.2.1
  let A6:=Cw.2
  let zQ:List (List UInt8):=[List.take (Int.toNat ((↑(List.length OX):Int)-PR)) (List.drop (Int.toNat PR) OX)]
  let Ai:List (List UInt8):=A6++zQ
  bif jZ [decide (List.length A6+(1:Nat)≤eD),decide (0≤PR),decide (PR≤(↑(List.length OX):Int)),decide ((↑(List.length OX):Int)≤(↑(List.length OX):Int))] then
   some (Ai,())
  else none
 else none
abbrev Wh.Ub:Type:=((Int)×(List UInt8))×(Unit)
abbrev Wh.aid:Type:=((((Bool))×(Unit))⊕(((List UInt8))×(Unit)))
def Wh.Ix (x:Ub):Option (Ub⊕aid):=
 let Dd:=x.1.1
 let Q7:=x.1.2
 let By:=decide (Dd<(↑(List.length Q7):Int))
 bif By then
  let Af:Int:=(↑(UInt8.toNat (List.getD Q7 (Int.toNat Dd) (0:UInt8))):Int)
  let Ap:=bif decide (Af<97) then true else decide (Af>122)
  bif jZ [!!decide (Af<97) || decide (0≤Dd),!!decide (Af<97) || By,decide (0≤Dd),By] then
   bif Ap then
    some (.inr (.inl (false,())))
   else
    some (.inl (((IntKind.wrap .i64 (Dd+1)),Q7),()))
  else none
 else
  some (.inr (.inr (Q7,())))
def Wh.abn:(((Bool))×(Unit))⊕(((List UInt8))×(Unit)):=.inl default
def Wh.Kx (xs:(List UInt8)):Option (((Bool))×(Unit)):=
 let Bx:=xs
 let x_17:Ub:=((0,Bx),())
 bif pY Ix x_17 then
  sumC (oa Ix abn x_17) (fun LH=>
   let lg:=LH.1
   some (lg,())) (fun Pf=>
   let akG:=Pf.1
   e_ r_ ((↑(List.length akG):Int),1,6) fun r_22=>
    some (r_22.1,()))
 else none
def Wh.Gs (xs:(an.D)):Option (((Bool))×(Unit)):=
 let t_0:an.D:=xs
 let r_1:=zog r_ (t_0.1,0,1)
 let r_2:=zog Kx t_0.2.1
 let nG:=zog r_ ((↑(List.length ((t_0.2.2.2).1)):Int),1,300)
 let z8:=bif bif r_1.1 then r_2.1 else false then nG.1 else false
 bif jZ [(!bif r_1.1 then r_2.1 else false) || isSm (r_ ((↑(List.length ((t_0.2.2.2).1)):Int),1,300)),!r_1.1 || isSm (Kx t_0.2.1),isSm (r_ (t_0.1,0,1))] then
  some (z8,())
 else none
def Wh.q52 (xs:(Int)×(List UInt8)×(List UInt8)):Option (((List UInt8))×(Unit)):=
 let LR:=xs.1
 let BQ:=xs.2.1
 let Et:=xs.2.2
 let nS:=Et == []
 bif nS then
  e_ Gs (LR,BQ,0,[(120:UInt8)],()) fun eB=>
   bif !eB.1 then
    some ([],())
   else
    let nG:=zog Ca LR
    let Cg:=nG.1 ++ [(32:UInt8)]++BQ ++ [(58:UInt8)]++Et
    bif jZ [decide (List.length (nG.1 ++ [(32:UInt8)]++BQ ++ [(58:UInt8)])+List.length Et≤eD),decide (List.length (nG.1 ++ [(32:UInt8)]++BQ)+(1:Nat)≤eD),decide (List.length (nG.1 ++ [(32:UInt8)])+List.length BQ≤eD),decide (List.length nG.1+(1:Nat)≤eD),isSm (Ca LR)] then
     some (Cg,())
    else none
 else
  e_ Gs (LR,BQ,0,Et,()) fun Cc=>
   bif !Cc.1 then
    some ([],())
   else
    let CJ:=zog Ca LR
    let z_:=CJ.1 ++ [(32:UInt8)]++BQ ++ [(58:UInt8)]++Et
    bif jZ [decide (List.length (CJ.1 ++ [(32:UInt8)]++BQ ++ [(58:UInt8)])+List.length Et≤eD),decide (List.length (CJ.1 ++ [(32:UInt8)]++BQ)+(1:Nat)≤eD),decide (List.length (CJ.1 ++ [(32:UInt8)])+List.length BQ≤eD),decide (List.length CJ.1+(1:Nat)≤eD),isSm (Ca LR)] then
     some (z_,())
    else none
def Wh.IC (xs:(an.D)×(Int)×(List UInt8)):Option (((Bool))×(Unit)):=
 let cx:=xs.1
 let z6:=xs.2.1
 let CG:=xs.2.2
 let zW:=bif decide (cx.1<z6) then true else bif cx.1==z6 then Go.Op.bytesLess cx.2.1 CG else false
 some (zW,())
abbrev Wh.T4:Type:=((Int)×(List (an.D))×(Int)×(Int))×(Unit)
abbrev Wh.ah6:Type:=((((Int))×(Unit)))
def Wh.Iu (x:T4):Option (T4⊕ah6):=
 let ia:=x.1.1
 let P_:=x.1.2.1
 let J4:=(x.1.2.2).1
 let JN:=x.1.2.2.2
 let je:Int:=(↑(List.length P_):Int)
 bif decide (ia<je) then
  let qe:an.D:=List.getD P_ (Int.toNat ia) (0,[],0,[],())
  bif jZ [decide (0≤ia),decide (ia<je)] then
   bif(qe.1==JN) then
    bif jZ [decide (0≤ia),decide (ia<je)] then
     some (.inl (((IntKind.wrap .i64 (ia+1)),P_,(IntKind.wrap .i64 (J4+(↑(List.length ((qe.2.2.2).1)):Int))),JN),()))
    else none
   else
    some (.inl (((IntKind.wrap .i64 (ia+1)),P_,J4,JN),()))
  else none
 else
  some (.inr (J4,()))
def Wh.abf:(((Int))×(Unit)):=default
def Wh.Is (xs:(List (an.D))×(Int)):Option (((Int))×(Unit)):=
 let GO:=xs.1
 let z6:=xs.2
 let DT:T4:=((0,GO,0,z6),())
 bif pY Iu DT then
  let Cw:=oa Iu abf DT
  let n_30:=Cw.1
  some (n_30,())
 else none
abbrev Wh.Us:Type:=((Int)×(Unit))×((fe.D))
abbrev Wh.aiu:Type:=((((Bool))×(Unit))⊕((Unit)×(Unit)))
def Wh.MP (x:Us):Option (Us⊕aiu):=
 let h_66:=x.1.1
 let Ic:=x.2
 bif decide (h_66<2) then
  e_ Is (Ic.2.1,h_66) fun r_69=>
   bif decide (r_69.1>500) then
    some (.inr (.inl (false,())))
   else
    some (.inl (((IntKind.wrap .i64 (h_66+1)),()),Ic))
 else
  some (.inr (.inr ((),())))
def Wh.abE:(((Bool))×(Unit))⊕((Unit)×(Unit)):=.inl default
abbrev Wh.Ur:Type:=((Int)×(Unit)×(Unit)×(Int))×((an.D)×(fe.D))
abbrev Wh.ait:Type:=((((Bool))×(Unit))⊕(((Unit)×(Int))×((fe.D))))
def Wh.KH (x:Ur):Option (Ur⊕ait):=
 let NW:=x.1.1
 let i_23:=x.1.2.2.2
 let An:=x.2.1
 let A5:=x.2.2
 bif decide (NW<i_23) then
  let Ev:an.D:=List.getD A5.2.1 (Int.toNat NW) (0,[],0,[],())
  bif jZ [decide (0≤NW),decide (NW<(↑(List.length A5.2.1):Int))] then
   bif(Ev.2.2.1==An.2.2.1) then
    some (.inr (.inl (false,())))
   else
    some (.inl (((IntKind.wrap .i64 (NW+1)),(),(),i_23),An,A5))
  else none
 else
  some (.inr (.inr (((),i_23),A5)))
def Wh.abD:(((Bool))×(Unit))⊕(((Unit)×(Int))×((fe.D))):=.inl default
abbrev Wh.Uq:Type:=((Unit)×(Int))×((fe.D))
abbrev Wh.ais:Type:=((((Bool))×(Unit))⊕(((Unit))×((fe.D))))
def Wh.IG (x:Uq):Option (Uq⊕ais):=
 let D8:=x.1.2
 let Ad:=x.2
 let GB:Int:=(↑(List.length Ad.2.1):Int)
 bif decide (D8<GB) then
  let Eh:an.D:=List.getD Ad.2.1 (Int.toNat D8) (0,[],0,[],())
  bif jZ [decide (0≤D8),decide (D8<GB)] then
   let Ln:=zog Gs Eh
   let DQ:=zog r_ (Eh.2.2.1,1,Ad.1)
   let HA:=zog IC (List.getD Ad.2.1 (Int.toNat (IntKind.wrap .i64 (D8-1))) (0,[],0,[],()),Eh.1,Eh.2.1)
   let v_47:=bif bif !Ln.1 then true else !DQ.1 then true else bif decide (D8>0) then !HA.1 else false
   bif jZ [!(decide (D8>0) && !bif !Ln.1 then true else !DQ.1) || isSm (IC (List.getD Ad.2.1 (Int.toNat (IntKind.wrap .i64 (D8-1))) (0,[],0,[],()),Eh.1,Eh.2.1)),!(decide (D8>0) && !bif !Ln.1 then true else !DQ.1) || decide (0≤IntKind.wrap .i64 (D8-1)),!(decide (D8>0) && !bif !Ln.1 then true else !DQ.1) || decide (IntKind.wrap .i64 (D8-1)<GB),!!!Ln.1 || isSm (r_ (Eh.2.2.1,1,Ad.1)),isSm (Gs Eh)] then
    bif v_47 then
     some (.inr (.inl (false,())))
    else
     let DW:Ur:=((0,(),(),D8),Eh,Ad)
     bif pY KH DW then
      sumC (oa KH abD DW) (fun DX=>
       let CN:=DX.1
       some (.inr (.inl (CN,())))) (fun Rm=>
       let i_52:=Rm.1.2
       let Cm:=Rm.2
       some (.inl (((),(IntKind.wrap .i64 (i_52+1))),Cm)))
     else none
   else none
  else none
 else
  some (.inr (.inr ((),Ad)))
def Wh.abC:(((Bool))×(Unit))⊕(((Unit))×((fe.D))):=.inl default
def Wh.KG (xs:(fe.D)):Option (((Bool))×(Unit)):=
 let nc:fe.D:=xs
 let r_1:=zog r_ (nc.1,0,99999)
 let v_2:=bif !r_1.1 then true else decide ((↑(List.length nc.2.1):Int)>8)
 bif jZ [isSm (r_ (nc.1,0,99999))] then
  bif v_2 then
   some (false,())
  else
   let O8:Uq:=(((),0),nc)
   bif pY IG O8 then
    sumC (oa IG abC O8) (fun y_56=>
     let v_58:=y_56.1
     some (v_58,())) (fun z_57=>
     let Bh:=z_57.2
     let x_72:Us:=((0,()),Bh)
     bif pY MP x_72 then
      sumC (oa MP abE x_72) (fun y_73=>
       let v_75:=y_73.1
       some (v_75,())) (fun _=>
       some (true,()))
     else none)
   else none
 else none
abbrev Wh.UI:Type:=((Int)×(List UInt8)×(Unit)×(Int))×((fe.D))
abbrev Wh.aiI:Type:=((((Int))×(Unit))⊕((Unit)×(Unit)))
def Wh.IP (x:UI):Option (UI⊕aiI):=
 let CB:=x.1.1
 let aaC:=x.1.2.1
 let PZ:=x.1.2.2.2
 let AL:=x.2
 let w8:Int:=(↑(List.length AL.2.1):Int)
 bif decide (CB<w8) then
  let lg:an.D:=List.getD AL.2.1 (Int.toNat CB) (0,[],0,[],())
  let zT:=bif lg.1==PZ then lg.2.1==aaC else false
  bif jZ [!lg.1==PZ || decide (0≤CB),!lg.1==PZ || decide (CB<w8),decide (0≤CB),decide (CB<w8)] then
   bif zT then
    some (.inr (.inl (CB,())))
   else
    some (.inl (((IntKind.wrap .i64 (CB+1)),aaC,(),PZ),AL))
  else none
 else
  some (.inr (.inr ((),())))
def Wh.abS:(((Int))×(Unit))⊕((Unit)×(Unit)):=.inl default
def Wh.Gr (xs:(fe.D)×(Int)×(List UInt8)):Option (((Int))×(Unit)):=
 let nc:=xs.1
 let z6:=xs.2.1
 let CG:=xs.2.2
 let x_25:UI:=((0,CG,(),z6),nc)
 bif pY IP x_25 then
  sumC (oa IP abS x_25) (fun Ci=>
   let nC:=Ci.1
   some (nC,())) (fun _=>
   some (-1,()))
 else none
def Wh.Gn (xs:(fe.D)):Option ((((Int)×((List (an.D))×(Unit))))×(Unit)):=
 let nc:fe.D:=xs
 let BG:List (an.D):=[]++nc.2.1
 bif jZ [decide ((0:Nat)+List.length nc.2.1≤eD)] then
  some ((nc.1,BG,nc.2.2),())
 else none
def Wh.MJ (xs:(fe.D)×(Int)):Option ((((Int)×((List (an.D))×(Unit))))×(Unit)):=
 let nc:=xs.1
 let k_1:=xs.2
 let OG:List (an.D):=[]++List.take (Int.toNat (k_1-0)) (List.drop (Int.toNat 0) nc.2.1)
 let ET:List (an.D):=OG++List.take (Int.toNat ((↑(List.length nc.2.1):Int)-IntKind.wrap .i64 (k_1+1))) (List.drop (Int.toNat (IntKind.wrap .i64 (k_1+1))) nc.2.1)
 let zV:List (an.D):=List.take (Int.toNat (k_1-0)) (List.drop (Int.toNat 0) nc.2.1)
 let zW:=IntKind.wrap .i64 (k_1+1)
 bif jZ [decide (List.length OG+List.length (List.take (Int.toNat ((↑(List.length nc.2.1):Int)-zW)) (List.drop (Int.toNat zW) nc.2.1))≤eD),decide (0≤zW),decide (zW≤(↑(List.length nc.2.1):Int)),decide ((↑(List.length nc.2.1):Int)≤(↑(List.length nc.2.1):Int)),decide ((0:Nat)+List.length zV≤eD),true,decide (0≤k_1),decide (k_1≤(↑(List.length nc.2.1):Int))] then
  some ((nc.1,ET,()),())
 else none
def Wh.G0 (xs:(fe.D)×(Int)×(List UInt8)):Option ((((Int)×((List (an.D))×(Unit)))×(Int))×(Unit)):=
 let nc:=xs.1
 let z6:=xs.2.1
 let CG:=xs.2.2
 e_ KG nc fun r_3=>
  bif !r_3.1 then
   some (((0,[],()),1),())
  else
   e_ Gr (nc,z6,CG) fun eB=>
    bif decide (eB.1<0) then
     e_ Gn nc fun AM=>
      some ((AM.1,3),())
    else
     e_ MJ (nc,eB.1) fun Cv=>
      some ((Cv.1,0),())
abbrev Wh.UH:Type:=((Int)×(Unit)×(Unit)×(Unit))×(((Int)×((Unit)×(Unit)))×(fe.D)×(an.D)×(List (an.D)))
abbrev Wh.aiH:Type:=((((Unit)×(Int)×(Unit)×(Unit))×(((Int)×((Unit)×(Unit)))×(fe.D)×(an.D)×(List (an.D)))))
def Wh.IN (x:UH):Option (UH⊕aiH):=
 let FY:=x.1.1
 let zY:=x.2.1.1
 let F8:=x.2.1.2.2
 let AL:=x.2.2.1
 let y4:=(x.2.2.2).1
 let AX:=x.2.2.2.2
 let lg:Int:=(↑(List.length AL.2.1):Int)
 let Cs:=zog IC (List.getD AL.2.1 (Int.toNat FY) (0,[],0,[],()),y4.1,y4.2.1)
 let th:=bif decide (FY<lg) then Cs.1 else false
 bif jZ [!decide (FY<lg) || isSm (IC (List.getD AL.2.1 (Int.toNat FY) (0,[],0,[],()),y4.1,y4.2.1)),!decide (FY<lg) || decide (0≤FY),!decide (FY<lg) || decide (FY<lg)] then
  bif th then
   some (.inl (((IntKind.wrap .i64 (FY+1)),(),(),()),(zY,(),F8),AL,y4,AX))
  else
   some (.inr (((),FY,(),()),(zY,(),F8),AL,y4,AX))
 else none
def Wh.abR:(((Unit)×(Int)×(Unit)×(Unit))×(((Int)×((Unit)×(Unit)))×(fe.D)×(an.D)×(List (an.D)))):=default
def Wh.MQ (xs:(fe.D)×(an.D)):Option ((((Int)×((List (an.D))×(Unit))))×(Unit)):=
 let nc:=xs.1
 let t_1:=xs.2
 let FL:UH:=((0,(),(),()),(0,(),()),nc,t_1,[])
 bif pY IN FL then
  let FP:=oa IN abR FL
  let F0:=FP.1.2.1
  let AF:=FP.2.2.1
  let A6:=(FP.2.2.2).1
  let QC:=IntKind.wrap .i64 (AF.1+1)
  let Eg:List (an.D):=[]++List.take (Int.toNat (F0-0)) (List.drop (Int.toNat 0) AF.2.1)
  let QD:List (an.D):=[(A6.1,A6.2.1,QC,A6.2.2.2)]
  let pb_38:List (an.D):=Eg++QD++List.take (Int.toNat ((↑(List.length AF.2.1):Int)-F0)) (List.drop (Int.toNat F0) AF.2.1)
  let GB:List (an.D):=List.take (Int.toNat (F0-0)) (List.drop (Int.toNat 0) AF.2.1)
  let BK:List (an.D):=List.take (Int.toNat ((↑(List.length AF.2.1):Int)-F0)) (List.drop (Int.toNat F0) AF.2.1)
  bif jZ [decide (List.length (Eg++QD)+List.length BK≤eD),decide (0≤F0),decide (F0≤(↑(List.length AF.2.1):Int)),decide ((↑(List.length AF.2.1):Int)≤(↑(List.length AF.2.1):Int)),decide (List.length Eg+(1:Nat)≤eD),decide ((0:Nat)+List.length GB≤eD),true,decide (0≤F0),decide (F0≤(↑(List.length AF.2.1):Int))] then
   some ((QC,pb_38,()),())
  else none
 else none
def Wh.Gk (xs:(fe.D)×(Int)×(List UInt8)×(List UInt8)):Option ((((Int)×((List (an.D))×(Unit)))×(Int))×(Unit)):=
 let nc:=xs.1
 let z6:=xs.2.1
 let CG:=xs.2.2.1
 let LA:=xs.2.2.2
 e_ KG nc fun eB=>
  bif !eB.1 then
   some (((0,[],()),1),())
  else
   e_ Gs (z6,CG,0,LA,()) fun nG=>
    bif !nG.1 then
     e_ Gn nc fun AM=>
      some ((AM.1,1),())
    else
     e_ Gr (nc,z6,CG) fun Cv=>
      bif decide (Cv.1≥0) then
       e_ Gn nc fun DP=>
        some ((DP.1,2),())
      else
       let By:Int:=(↑(List.length nc.2.1):Int)
       let OP:=zog Is (nc.2.1,z6)
       let w8:=bif bif decide (By≥8) then true else decide (nc.1≥99999) then true else decide (IntKind.wrap .i64 (OP.1+(↑(List.length LA):Int))>500)
       bif jZ [(!!bif decide (By≥8) then true else decide (nc.1≥99999)) || isSm (Is (nc.2.1,z6))] then
        bif w8 then
         e_ Gn nc fun r_19=>
          some ((r_19.1,4),())
        else
         e_ MQ (nc,z6,CG,0,LA,()) fun BI=>
          some ((BI.1,0),())
       else none
def Wh.Hi (xs:(fe.D)×(List UInt8)):Option ((((Int)×((List (an.D))×(Unit)))×(Bool))×(Unit)):=
 let nc:=xs.1
 let s_1:=xs.2
 e_ B_ (s_1,0,58) fun r_2=>
  bif decide (r_2.1<0) then
   some (((0,[],()),false),())
  else
   let eB:=zog Hg (List.take (Int.toNat (r_2.1-0)) (List.drop (Int.toNat 0) s_1),32)
   let zW:List UInt8:=List.take (Int.toNat (r_2.1-0)) (List.drop (Int.toNat 0) s_1)
   bif jZ [isSm (Hg (zW,32)),true,decide (0≤r_2.1),decide (r_2.1≤(↑(List.length s_1):Int))] then
    let Bl:=IntKind.wrap .i64 (r_2.1+1)
    let HI:List UInt8:=List.take (Int.toNat ((↑(List.length s_1):Int)-Bl)) (List.drop (Int.toNat Bl) s_1)
    bif jZ [decide (0≤Bl),decide (Bl≤(↑(List.length s_1):Int)),decide ((↑(List.length s_1):Int)≤(↑(List.length s_1):Int))] then
     let Bb:Int:=(↑(List.length eB.1):Int)
     let CJ:=zog Dq (List.getD eB.1 (Int.toNat 0) [])
     let I_:=zog q52 (CJ.1,List.getD eB.1 (Int.toNat 1) [],HI)
     let vT:=bif Bb != 2 then true else !I_.1==s_1
     bif jZ [!!Bb != 2 || isSm (q52 (CJ.1,List.getD eB.1 (Int.toNat 1) [],HI)),!!Bb != 2 || decide ((0:Int)≤1),!!Bb != 2 || decide (1<Bb),!!Bb != 2 || isSm (Dq (List.getD eB.1 (Int.toNat 0) [])),!!Bb != 2 || decide ((0:Int)≤0),!!Bb != 2 || decide (0<Bb)] then
      bif vT then
       some (((0,[],()),false),())
      else
       let Ap:=HI == []
       bif Ap then
        let OP:=zog G0 (nc,CJ.1,List.getD eB.1 (Int.toNat 1) [])
        let je:=List.getD eB.1 (Int.toNat 0) []
        let lg:=List.getD eB.1 (Int.toNat 1) []
        let M3:=zog G0 (nc,CJ.1,lg)
        bif jZ [isSm (G0 (nc,CJ.1,lg)),true,decide (1<Bb),isSm (Dq je),true,decide (0<Bb)] then
         some (((OP.1.1.1,(OP.1.1.2).1,OP.1.1.2.2),(M3.1.2==0)),())
        else none
       else
        let zD:=zog Gk (nc,CJ.1,List.getD eB.1 (Int.toNat 1) [],HI)
        let Ak:=List.getD eB.1 (Int.toNat 0) []
        let zL:=List.getD eB.1 (Int.toNat 1) []
        let HA:=zog Gk (nc,CJ.1,zL,HI)
        bif jZ [isSm (Gk (nc,CJ.1,zL,HI)),true,decide (1<Bb),isSm (Dq Ak),true,decide (0<Bb)] then
         some (((zD.1.1.1,(zD.1.1.2).1,zD.1.1.2.2),(HA.1.2==0)),())
        else none
     else none
    else none
   else none
abbrev Wh.Up:Type:=((Unit)×(Int)×(Unit)×(List (List UInt8)))×(((Int)×((Unit)×(Unit)))×((Int)×((Unit)×(Unit)))×(List (an.D))×(List (an.D)))
abbrev Wh.air:Type:=((((Unit)×(Bool))×(((Int)×((Unit)×(Unit)))×(List (an.D))))⊕(((Unit)×(Unit))×(((Int)×((Unit)×(Unit)))×((Int)×((Unit)×(Unit)))×(List (an.D))×(List (an.D)))))
def Wh.IF (x:Up):Option (Up⊕air):=
 let ia:=x.1.2.1
 let Q0:=x.1.2.2.2
 let AL:=x.2.1.1
 let y4:=x.2.1.2.2
 let AX:=x.2.2.1.1
 let A4:=(x.2.2.1).2.2
 let BE:=(x.2.2.2).1
 let Bf:=x.2.2.2.2
 let zT:Int:=(↑(List.length Q0):Int)
 bif decide (ia<zT) then
  let Dr:=zog Hi ((AX,Bf,A4),List.getD Q0 (Int.toNat ia) [])
  let s_:=List.getD Q0 (Int.toNat ia) []
  bif jZ [isSm (Hi ((AX,Bf,A4),s_)),decide (0≤ia),decide (ia<zT)] then
   bif(!Dr.1.2) then
    some (.inr (.inl (((),false),(0,(),()),[])))
   else
    some (.inl (((),(IntKind.wrap .i64 (ia+1)),(),Q0),(AL,(),y4),(Dr.1.1.1,(),Dr.1.1.2.2),BE,(Dr.1.1.2).1))
  else none
 else
  some (.inr (.inr (((),()),(AL,(),y4),(AX,(),A4),BE,Bf)))
def Wh.abB:(((Unit)×(Bool))×(((Int)×((Unit)×(Unit)))×(List (an.D))))⊕(((Unit)×(Unit))×(((Int)×((Unit)×(Unit)))×((Int)×((Unit)×(Unit)))×(List (an.D))×(List (an.D)))):=.inl default
def Wh.KF (xs:(List (List UInt8))):Option ((((Int)×((List (an.D))×(Unit)))×(Bool))×(Unit)):=
 let QZ:List (List UInt8):=xs
 let FN:Up:=(((),0,(),QZ),(0,(),()),(0,(),()),[],[])
 bif pY IF FN then
  sumC (oa IF abB FN) (fun EA=>
   let Ba:=EA.1.2
   let AY:=EA.2.1.1
   let Ai:=EA.2.1.2.2
   let Au:=EA.2.2
   some (((AY,Au,Ai),Ba),())) (fun Nt=>
   let Ad:=Nt.2.2.1.1
   let DF:=(Nt.2.2.1).2.2
   let H9:=Nt.2.2.2.2
   some (((Ad,H9,DF),true),()))
 else none
def Wh.Kj (xs:(eA.D)):Option (((Bool))×(Unit)):=
 let cr:eA.D:=xs
 e_ IB (cr.2.2.1) fun r_1=>
  e_ KF r_1.1.1 fun r_2=>
   some (r_2.1.2,())
abbrev Wh.TT:Type:=((Int)×(Unit)×(Unit))×((fe.D)×(fe.D))
abbrev Wh.ahY:Type:=((((Bool))×(Unit))⊕((Unit)×(Unit)))
def Wh.Ir (x:TT):Option (TT⊕ahY):=
 let CT:=x.1.1
 let AK:=x.2.1
 let zY:=x.2.2
 let nI:Int:=(↑(List.length zY.2.1):Int)
 bif decide (CT<nI) then
  let w8:an.D:=List.getD zY.2.1 (Int.toNat CT) (0,[],0,[],())
  let je:an.D:=List.getD AK.2.1 (Int.toNat CT) (0,[],0,[],())
  bif jZ [decide (0≤CT),decide (CT<(↑(List.length AK.2.1):Int)),decide (0≤CT),decide (CT<nI)] then
   bif(!(w8.1==je.1&&(w8.2.1==je.2.1&&(w8.2.2.1==je.2.2.1&&((w8.2.2.2).1==(je.2.2.2).1&&true))))) then
    some (.inr (.inl (false,())))
   else
    some (.inl (((IntKind.wrap .i64 (CT+1)),(),()),AK,zY))
  else none
 else
  some (.inr (.inr ((),())))
def Wh.aa9:(((Bool))×(Unit))⊕((Unit)×(Unit)):=.inl default
def Wh.G4 (xs:(fe.D)×(fe.D)):Option (((Bool))×(Unit)):=
 let cx:=xs.1
 let b_1:=xs.2
 let nS:=bif(cx.1 != b_1.1) then true else(↑(List.length cx.2.1):Int) != (↑(List.length b_1.2.1):Int)
 bif nS then
  some (false,())
 else
  let x_22:TT:=((0,(),()),b_1,cx)
  bif pY Ir x_22 then
   sumC (oa Ir aa9 x_22) (fun HP=>
    let CL:=HP.1
    some (CL,())) (fun _=>
    some (true,()))
  else none
def Wh.IJ (xs:(bp.D)):Option (((Bool))×(Unit)):=
 let DB:bp.D:=xs
 bif(DB.2.1==0) then
  some ((DB.1==0&&(DB.2.1==0&&(DB.2.2.1==0&&((DB.2.2.2).1==0&&(DB.2.2.2.2.1==false&&true))))),())
 else
  let r_3:=zog r_ (DB.1,0,1)
  let eB:=zog r_ (DB.2.1,1,99999)
  let Cv:=zog r_ (DB.2.2.1,0,23)
  let DP:=zog r_ ((DB.2.2.2).1,0,99999)
  let Af:=bif bif bif r_3.1 then eB.1 else false then Cv.1 else false then DP.1 else false
  bif jZ [(!bif bif r_3.1 then eB.1 else false then Cv.1 else false) || isSm (r_ ((DB.2.2.2).1,0,99999)),(!bif r_3.1 then eB.1 else false) || isSm (r_ (DB.2.2.1,0,23)),!r_3.1 || isSm (r_ (DB.2.1,1,99999)),isSm (r_ (DB.1,0,1))] then
   some (Af,())
  else none
abbrev Wh.Ut:Type:=((Int)×(Int)×(Int)×(Unit))×((fT.D))
abbrev Wh.aiv:Type:=((((Int))×(Unit)))
def Wh.II (x:Ut):Option (Ut⊕aiv):=
 let ia:=x.1.1
 let J3:=x.1.2.1
 let JM:=(x.1.2.2).1
 let y4:=x.2
 let je:Int:=(↑(List.length y4.1):Int)
 bif decide (ia<je) then
  let qe:bp.D:=List.getD y4.1 (Int.toNat ia) (0,0,0,0,false,())
  let th:=bif decide (qe.2.1>0) then qe.1==JM else false
  bif jZ [!decide (qe.2.1>0) || decide (0≤ia),!decide (qe.2.1>0) || decide (ia<je),decide (0≤ia),decide (ia<je)] then
   bif th then
    some (.inl (((IntKind.wrap .i64 (ia+1)),(IntKind.wrap .i64 (J3+1)),JM,()),y4))
   else
    some (.inl (((IntKind.wrap .i64 (ia+1)),J3,JM,()),y4))
  else none
 else
  some (.inr (J3,()))
def Wh.abF:(((Int))×(Unit)):=default
def Wh.KI (xs:(fT.D)×(Int)):Option (((Int))×(Unit)):=
 let fN:=xs.1
 let z6:=xs.2
 let DT:Ut:=((0,0,z6,()),fN)
 bif pY II DT then
  let Cw:=oa II abF DT
  let n_30:=Cw.1
  some (n_30,())
 else none
abbrev Wh.Ue:Type:=((Int)×(Unit))×((fT.D))
abbrev Wh.aih:Type:=((((Bool))×(Unit))⊕((Unit)×(Unit)))
def Wh.He (x:Ue):Option (Ue⊕aih):=
 let h_67:=x.1.1
 let Ie:=x.2
 bif decide (h_67<2) then
  e_ KI (Ie,h_67) fun r_70=>
   bif decide (r_70.1>5) then
    some (.inr (.inl (false,())))
   else
    some (.inl (((IntKind.wrap .i64 (h_67+1)),()),Ie))
 else
  some (.inr (.inr ((),())))
def Wh.abq:(((Bool))×(Unit))⊕((Unit)×(Unit)):=.inl default
abbrev Wh.Ud:Type:=((Int)×(Unit)×(Int))×((fT.D))
abbrev Wh.aif:Type:=((((Bool))×(Unit))⊕(((Unit)×(Int))×((fT.D))))
def Wh.Ej (x:Ud):Option (Ud⊕aif):=
 let EM:=x.1.1
 let z7:=x.1.2.2
 let Bg:=x.2
 bif decide (EM<z7) then
  let nC:bp.D:=List.getD Bg.1 (Int.toNat z7) (0,0,0,0,false,())
  let Ch:=bif bif decide (nC.2.1>0) then nC.2.1==((List.getD Bg.1 (Int.toNat EM) (0,0,0,0,false,())).2).1 else false then nC.2.2.1==(((List.getD Bg.1 (Int.toNat EM) (0,0,0,0,false,())).2).2).1 else false
  bif jZ [(!bif decide (nC.2.1>0) then nC.2.1==((List.getD Bg.1 (Int.toNat EM) (0,0,0,0,false,())).2).1 else false) || decide (0≤EM),(!bif decide (nC.2.1>0) then nC.2.1==((List.getD Bg.1 (Int.toNat EM) (0,0,0,0,false,())).2).1 else false) || decide (EM<(↑(List.length Bg.1):Int)),(!bif decide (nC.2.1>0) then nC.2.1==((List.getD Bg.1 (Int.toNat EM) (0,0,0,0,false,())).2).1 else false) || decide (0≤z7),(!bif decide (nC.2.1>0) then nC.2.1==((List.getD Bg.1 (Int.toNat EM) (0,0,0,0,false,())).2).1 else false) || decide (z7<(↑(List.length Bg.1):Int)),!decide (nC.2.1>0) || decide (0≤EM),!decide (nC.2.1>0) || decide (EM<(↑(List.length Bg.1):Int)),!decide (nC.2.1>0) || decide (0≤z7),!decide (nC.2.1>0) || decide (z7<(↑(List.length Bg.1):Int)),decide (0≤z7),decide (z7<(↑(List.length Bg.1):Int))] then
   bif Ch then
    some (.inr (.inl (false,())))
   else
    some (.inl (((IntKind.wrap .i64 (EM+1)),(),z7),Bg))
  else none
 else
  some (.inr (.inr (((),z7),Bg)))
def Wh.abp:(((Bool))×(Unit))⊕(((Unit)×(Int))×((fT.D))):=.inl default
abbrev Wh.Uc:Type:=((Unit)×(Int))×((fT.D))
abbrev Wh.aie:Type:=((((Bool))×(Unit))⊕(((Unit))×((fT.D))))
def Wh.G_ (x:Uc):Option (Uc⊕aie):=
 let NR:=x.1.2
 let Cl:=x.2
 let Fc:Int:=(↑(List.length Cl.1):Int)
 bif decide (NR<Fc) then
  let LB:bp.D:=List.getD Cl.1 (Int.toNat NR) (0,0,0,0,false,())
  let r_48:=zog IJ LB
  bif jZ [isSm (IJ LB),decide (0≤NR),decide (NR<Fc)] then
   bif !r_48.1 then
    some (.inr (.inl (false,())))
   else
    let x_49:Ud:=((0,(),NR),Cl)
    bif pY Ej x_49 then
     sumC (oa Ej abp x_49) (fun y_50=>
      let Ni:=y_50.1
      some (.inr (.inl (Ni,())))) (fun z_51=>
      let i_53:=z_51.1.2
      let Df:=z_51.2
      some (.inl (((),(IntKind.wrap .i64 (i_53+1))),Df)))
    else none
  else none
 else
  some (.inr (.inr ((),Cl)))
def Wh.abo:(((Bool))×(Unit))⊕(((Unit))×((fT.D))):=.inl default
def Wh.G9 (xs:(fT.D)):Option (((Bool))×(Unit)):=
 let fN:fT.D:=xs
 let v_1:Int:=(↑(List.length fN.1):Int)
 let eB:=zog r_ (fN.2.1,0,7)
 let zW:=bif v_1 != 8 then true else !eB.1
 bif jZ [!!v_1 != 8 || isSm (r_ (fN.2.1,0,7))] then
  bif zW then
   some (false,())
  else
   let x_56:Uc:=(((),0),fN)
   bif pY G_ x_56 then
    sumC (oa G_ abo x_56) (fun y_57=>
     let O2:=y_57.1
     some (O2,())) (fun z_58=>
     let J2:=z_58.2
     let x_73:Ue:=((0,()),J2)
     bif pY He x_73 then
      sumC (oa He abq x_73) (fun y_74=>
       let v_76:=y_74.1
       some (v_76,())) (fun _=>
       some (true,()))
     else none)
   else none
 else none
abbrev Wh.Va:Type:=((Unit)×(Int)×(Unit)×(Int))×((an.D)×(fe.D))
abbrev Wh.ai7:Type:=((((Unit)×(Bool))×((an.D)))⊕(((Unit))×((an.D))))
def Wh.IZ (x:Va):Option (Va⊕ai7):=
 let JP:=x.1.2.1
 let Yu:=x.1.2.2.2
 let Qd:=x.2.1
 let AK:=x.2.2
 let Ap:Int:=(↑(List.length AK.2.1):Int)
 bif decide (JP<Ap) then
  let z_:an.D:=List.getD AK.2.1 (Int.toNat JP) (0,[],0,[],())
  bif jZ [decide (0≤JP),decide (JP<Ap)] then
   bif(z_.2.2.1==Yu) then
    bif jZ [decide (0≤JP),decide (JP<Ap)] then
     some (.inr (.inl (((),true),z_)))
    else none
   else
    some (.inl (((),(IntKind.wrap .i64 (JP+1)),(),Yu),Qd,AK))
  else none
 else
  some (.inr (.inr ((),Qd)))
def Wh.acn:(((Unit)×(Bool))×((an.D)))⊕(((Unit))×((an.D))):=.inl default
def Wh.FC (xs:(fe.D)×(Int)):Option (((an.D)×(Bool))×(Unit)):=
 let nc:=xs.1
 let GK:=xs.2
 let x_20:Va:=(((),0,(),GK),(0,[],0,[],()),nc)
 bif pY IZ x_20 then
  sumC (oa IZ acn x_20) (fun y_21=>
   let zT:=y_21.1.2
   let An:=y_21.2
   some ((An,zT),())) (fun _=>
   some (((0,[],0,[],()),false),()))
 else none
def Wh.Cr (xs:(Int)):Option (((Int))×(Unit)):=
 let Nz:=xs
 some ((Int.tmod Nz 2),())
abbrev Wh.U9:Type:=((Int)×(Unit))×((eA.D))
abbrev Wh.ai5:Type:=((((Bool))×(Unit))⊕((Unit)×(Unit)))
def Wh.Hp (x:U9):Option (U9⊕ai5):=
 let AP:=x.1.1
 let xe:=x.2
 let AH:Int:=(↑(List.length ((xe.2.2.2.2.2).2.1)):Int)
 bif decide (AP<AH) then
  let n_:bx.D:=List.getD ((xe.2.2.2.2.2).2.1) (Int.toNat AP) (0,0,0,0,0,0,())
  bif jZ [decide (0≤AP),decide (AP<AH)] then
   let zD:=zog r_ (n_.1,0,3)
   let A9:=zog r_ (n_.2.1,1,99999)
   let Ep:=zog r_ (n_.2.2.1,1,(xe.2.2.2).1.1)
   let Cd:=zog r_ ((n_.2.2.2).1,0,9999)
   let FG:=zog r_ (n_.2.2.2.2.1,0,3)
   let HB:=zog r_ ((n_.2.2.2.2.2).1,0,xe.2.1)
   let Jk:=bif bif bif bif bif bif !zD.1 then true else bif decide (AP>0) then decide ((List.getD ((xe.2.2.2.2.2).2.1) (Int.toNat (IntKind.wrap .i64 (AP-1))) (0,0,0,0,0,0,())).1≥n_.1) else false then true else !A9.1 then true else !Ep.1 then true else !Cd.1 then true else !FG.1 then true else !HB.1
   bif jZ [(!!bif bif bif bif bif !zD.1 then true else bif decide (AP>0) then decide ((List.getD ((xe.2.2.2.2.2).2.1) (Int.toNat (IntKind.wrap .i64 (AP-1))) (0,0,0,0,0,0,())).1≥n_.1) else false then true else !A9.1 then true else !Ep.1 then true else !Cd.1 then true else !FG.1) || isSm (r_ ((n_.2.2.2.2.2).1,0,xe.2.1)),(!!bif bif bif bif !zD.1 then true else bif decide (AP>0) then decide ((List.getD ((xe.2.2.2.2.2).2.1) (Int.toNat (IntKind.wrap .i64 (AP-1))) (0,0,0,0,0,0,())).1≥n_.1) else false then true else !A9.1 then true else !Ep.1 then true else !Cd.1) || isSm (r_ (n_.2.2.2.2.1,0,3)),(!!bif bif bif !zD.1 then true else bif decide (AP>0) then decide ((List.getD ((xe.2.2.2.2.2).2.1) (Int.toNat (IntKind.wrap .i64 (AP-1))) (0,0,0,0,0,0,())).1≥n_.1) else false then true else !A9.1 then true else !Ep.1) || isSm (r_ ((n_.2.2.2).1,0,9999)),(!!bif bif !zD.1 then true else bif decide (AP>0) then decide ((List.getD ((xe.2.2.2.2.2).2.1) (Int.toNat (IntKind.wrap .i64 (AP-1))) (0,0,0,0,0,0,())).1≥n_.1) else false then true else !A9.1) || isSm (r_ (n_.2.2.1,1,(xe.2.2.2).1.1)),(!!bif !zD.1 then true else bif decide (AP>0) then decide ((List.getD ((xe.2.2.2.2.2).2.1) (Int.toNat (IntKind.wrap .i64 (AP-1))) (0,0,0,0,0,0,())).1≥n_.1) else false) || isSm (r_ (n_.2.1,1,99999)),!(decide (AP>0) && !!zD.1) || decide (0≤IntKind.wrap .i64 (AP-1)),!(decide (AP>0) && !!zD.1) || decide (IntKind.wrap .i64 (AP-1)<AH),isSm (r_ (n_.1,0,3))] then
    bif Jk then
     some (.inr (.inl (false,())))
    else
     e_ FC ((xe.2.2.2).1,n_.2.2.1) fun Jc=>
      let r_50:=zog Cr n_.1
      let CN:=bif Jc.1.2 then Jc.1.1.1 != r_50.1 else false
      bif jZ [!Jc.1.2 || isSm (Cr n_.1)] then
       bif CN then
        some (.inr (.inl (false,())))
       else
        some (.inl (((IntKind.wrap .i64 (AP+1)),()),xe))
      else none
   else none
  else none
 else
  some (.inr (.inr ((),())))
def Wh.ack:(((Bool))×(Unit))⊕((Unit)×(Unit)):=.inl default
def Wh.q54 (xs:(eA.D)):Option (((Bool))×(Unit)):=
 let cr:eA.D:=xs
 let O7:U9:=((0,()),cr)
 bif pY Hp O7 then
  sumC (oa Hp ack O7) (fun y_54=>
   let Ez:=y_54.1
   some (Ez,())) (fun _=>
   some (true,()))
 else none
def Wh.C3 (xs:(gv.D)):Option (((Int))×(Unit)):=
 let fN:gv.D:=xs
 bif jZ [fN.2.1 != 0] then
  some ((IntKind.wrap .i64 (Int.tdiv (IntKind.wrap .i64 ((IntKind.wrap .i64 (fN.1+fN.2.1))-1)) fN.2.1)),())
 else none
abbrev Wh.UF:Type:=((Unit)×(Unit))×(((Int)×((Int)×((Unit)×((Unit)×(Unit)))))×((Int)×((Int)×((Unit)×((Unit)×(Unit)))))×(List (Int))×(List (Int))×(List (Int))×(List (Int)))
abbrev Wh.aiF:Type:=((((Unit)×(Unit))×(((Int)×((Int)×((Unit)×((Unit)×(Unit)))))×((Int)×((Int)×((Unit)×((Unit)×(Unit)))))×(List (Int))×(List (Int))×(List (Int))×(List (Int)))))
def Wh.Em (x:UF):Option (UF⊕aiF):=
 let AK:=x.2.1.1
 let zY:=(x.2.1.2).1
 let F8:=(x.2.1.2.2.2).2
 let AL:=x.2.2.1.1
 let y4:=(x.2.2.1).2.1
 let AX:=(x.2.2.1).2.2.2.2
 let A4:=(x.2.2.2).1
 let BE:=x.2.2.2.2.1
 let Bf:=(x.2.2.2.2.2).1
 let As:=(x.2.2.2.2.2).2
 e_ C3 (AK,zY,A4,BE,F8) fun OQ=>
  bif decide (OQ.1>24) then
   some (.inl (((),()),(AK,(IntKind.wrap .i64 (zY+1)),(),(),F8),(AL,y4,(),(),AX),A4,BE,Bf,As))
  else
   some (.inr (((),()),(AL,y4,(),(),AX),(AK,zY,(),(),F8),Bf,As,A4,BE))
def Wh.abP:(((Unit)×(Unit))×(((Int)×((Int)×((Unit)×((Unit)×(Unit)))))×((Int)×((Int)×((Unit)×((Unit)×(Unit)))))×(List (Int))×(List (Int))×(List (Int))×(List (Int)))):=default
def Wh.Cb (xs:(Int)):Option ((((Int)×((Int)×((List (Int))×((List (Int))×(Unit))))))×(Unit)):=
 let Qb:=xs
 let FM:UF:=(((),()),(Qb,8,(),(),()),(0,0,(),(),()),[],[],[],[])
 bif pY Em FM then
  let FQ:=oa Em abP FM
  let A6:=FQ.2.2.1.1
  let AY:=(FQ.2.2.1).2.1
  let Ai:=(FQ.2.2.1).2.2.2.2
  let EO:=(FQ.2.2.2.2.2).1
  let Ad:=(FQ.2.2.2.2.2).2
  e_ C3 (A6,AY,EO,Ad,Ai) fun Ja=>
   let NY:=IntKind.wrap .i64 (Int.tdiv (IntKind.wrap .i64 (Ja.1+3)) 4)
   bif decide (NY<Ja.1) then
    let Tx:List Int:=[NY,Ja.1]
    some ((A6,AY,Tx,[(2:Int),3],Ai),())
   else
    let Tz:List Int:=[Ja.1]
    some ((A6,AY,Tz,[(1:Int)],Ai),())
 else none
def Wh.q84 (xs:(di.D)):Option (((Bool))×(Unit)):=
 let wh:di.D:=xs
 let r_1:=zog r_ (wh.2.1,0,99999)
 let r_2:=zog r_ (wh.1,0,wh.2.1)
 let nG:=zog r_ (wh.2.2.1,0,99999)
 let Bt:=zog r_ ((wh.2.2.2).1,0,99999)
 let Cg:=bif bif bif r_1.1 then r_2.1 else false then nG.1 else false then Bt.1 else false
 bif jZ [(!bif bif r_1.1 then r_2.1 else false then nG.1 else false) || isSm (r_ ((wh.2.2.2).1,0,99999)),(!bif r_1.1 then r_2.1 else false) || isSm (r_ (wh.2.2.1,0,99999)),!r_1.1 || isSm (r_ (wh.1,0,wh.2.1)),isSm (r_ (wh.2.1,0,99999))] then
  some (Cg,())
 else none
abbrev Wh.Vs:Type:=((Int)×(Unit))×((eA.D))
abbrev Wh.ajo:Type:=((((Bool))×(Unit))⊕((Unit)×(Unit)))
def Wh.I4 (x:Vs):Option (Vs⊕ajo):=
 let h_80:=x.1.1
 let F_:=x.2
 let v_82:Int:=(↑(List.length ((F_.2.2.2.2.2).1)):Int)
 bif decide (h_80<v_82) then
  let OH:di.D:=List.getD ((F_.2.2.2.2.2).1) (Int.toNat h_80) (0,0,0,0,())
  bif jZ [decide (0≤h_80),decide (h_80<v_82)] then
   let QU:=zog q84 OH
   let Rf:=bif bif bif !QU.1 then true else OH.2.1 != 40 then true else OH.2.2.1 != 8 then true else decide ((OH.2.2.2).1>F_.2.1)
   bif jZ [isSm (q84 OH)] then
    bif Rf then
     some (.inr (.inl (false,())))
    else
     some (.inl (((IntKind.wrap .i64 (h_80+1)),()),F_))
   else none
  else none
 else
  some (.inr (.inr ((),())))
def Wh.acH:(((Bool))×(Unit))⊕((Unit)×(Unit)):=.inl default
abbrev Wh.Vr:Type:=((Int)×(Unit))×((eA.D))
abbrev Wh.ajn:Type:=((((Bool))×(Unit))⊕(((Unit))×((eA.D))))
def Wh.E5 (x:Vr):Option (Vr⊕ajn):=
 let DD:=x.1.1
 let Az:=x.2
 let CN:Int:=(↑(List.length ((Az.2.2.2.2.1).1)):Int)
 bif decide (DD<CN) then
  let AZ:=zog FC ((Az.2.2.2).1,((List.getD ((Az.2.2.2.2.1).1) (Int.toNat DD) (0,0,0,0,false,())).2).1)
  let zZ:bp.D:=List.getD ((Az.2.2.2.2.1).1) (Int.toNat DD) (0,0,0,0,false,())
  bif jZ [isSm (FC ((Az.2.2.2).1,zZ.2.1)),decide (0≤DD),decide (DD<CN)] then
   let E7:=zog Cb (↑(List.length ((AZ.1.1.2.2.2).1)):Int)
   let r_60:=zog C3 (E7.1.1,E7.1.2.1,bif(!bif !AZ.1.2 then true else AZ.1.1.1 != zZ.1)&&(decide (zZ.2.1>0) && !decide ((zZ.2.2.2).1>0)) then(E7.1.2.2).1 else [],bif(!bif !AZ.1.2 then true else AZ.1.1.1 != zZ.1)&&(decide (zZ.2.1>0) && !decide ((zZ.2.2.2).1>0)) then E7.1.2.2.2.1 else [],E7.1.2.2.2.2)
   let Jm:=bif decide ((zZ.2.2.2).1>0) then true else bif decide (zZ.2.1>0) then bif bif !AZ.1.2 then true else AZ.1.1.1 != zZ.1 then true else decide (zZ.2.2.1≥r_60.1) else false
   bif jZ [!((!bif !AZ.1.2 then true else AZ.1.1.1 != zZ.1)&&(decide (zZ.2.1>0) && !decide ((zZ.2.2.2).1>0))) || isSm (C3 (E7.1.1,E7.1.2.1,bif(!bif !AZ.1.2 then true else AZ.1.1.1 != zZ.1)&&(decide (zZ.2.1>0) && !decide ((zZ.2.2.2).1>0)) then(E7.1.2.2).1 else [],bif(!bif !AZ.1.2 then true else AZ.1.1.1 != zZ.1)&&(decide (zZ.2.1>0) && !decide ((zZ.2.2.2).1>0)) then E7.1.2.2.2.1 else [],E7.1.2.2.2.2)),!((!bif !AZ.1.2 then true else AZ.1.1.1 != zZ.1)&&(decide (zZ.2.1>0) && !decide ((zZ.2.2.2).1>0))) || isSm (Cb (↑(List.length ((AZ.1.1.2.2.2).1)):Int)),!((!bif !AZ.1.2 then true else AZ.1.1.1 != zZ.1)&&(decide (zZ.2.1>0) && !decide ((zZ.2.2.2).1>0))) || decide (0≤DD),!((!bif !AZ.1.2 then true else AZ.1.1.1 != zZ.1)&&(decide (zZ.2.1>0) && !decide ((zZ.2.2.2).1>0))) || decide (DD<CN),!(!!AZ.1.2&&(decide (zZ.2.1>0) && !decide ((zZ.2.2.2).1>0))) || decide (0≤DD),!(!!AZ.1.2&&(decide (zZ.2.1>0) && !decide ((zZ.2.2.2).1>0))) || decide (DD<CN),!!decide ((zZ.2.2.2).1>0) || decide (0≤DD),!!decide ((zZ.2.2.2).1>0) || decide (DD<CN),decide (0≤DD),decide (DD<CN)] then
    bif Jm then
     some (.inr (.inl (false,())))
    else
     some (.inl (((IntKind.wrap .i64 (DD+1)),()),Az))
   else none
  else none
 else
  some (.inr (.inr ((),Az)))
def Wh.acG:(((Bool))×(Unit))⊕(((Unit))×((eA.D))):=.inl default
def Wh.q85 (xs:(eA.D)):Option (((Bool))×(Unit)):=
 let cr:eA.D:=xs
 let r_1:=zog r_ (cr.2.1,0,99999)
 let v_2:=bif !r_1.1 then true else decide ((↑(List.length (cr.2.2.1)):Int)>9000)
 bif jZ [isSm (r_ (cr.2.1,0,99999))] then
  bif v_2 then
   some (false,())
  else
   bif(!cr.1) then
    let zV:Int:=(↑(List.length ((cr.2.2.2).1.2.1)):Int)
    let FF:=zog Kj cr
    let je:=bif bif bif bif bif bif zV==0 then(cr.2.2.2).1.1==0 else false then(↑(List.length ((cr.2.2.2.2.1).1)):Int)==0 else false then(cr.2.2.2.2.1).2.1==0 else false then(↑(List.length ((cr.2.2.2.2.2).1)):Int)==0 else false then(↑(List.length ((cr.2.2.2.2.2).2.1)):Int)==0 else false then FF.1 else false
    bif jZ [(!bif bif bif bif bif zV==0 then(cr.2.2.2).1.1==0 else false then(↑(List.length ((cr.2.2.2.2.1).1)):Int)==0 else false then(cr.2.2.2.2.1).2.1==0 else false then(↑(List.length ((cr.2.2.2.2.2).1)):Int)==0 else false then(↑(List.length ((cr.2.2.2.2.2).2.1)):Int)==0 else false) || isSm (Kj cr)] then
     some (je,())
    else none
   else
    e_ IB (cr.2.2.1) fun BI=>
     e_ KF BI.1.1 fun Ll=>
      let zK:= !Ll.1.2
      let Dr:=zog G4 (Ll.1.1,(cr.2.2.2).1)
      let QS:=zog G9 (cr.2.2.2.2.1)
      let Cu:=zog q54 cr
      let Bz:=bif bif bif bif bif zK then true else BI.1.2 != (↑(List.length (cr.2.2.1)):Int) then true else !Dr.1 then true else !QS.1 then true else(↑(List.length ((cr.2.2.2.2.2).1)):Int) != 2 then true else !Cu.1
      bif jZ [(!!bif bif bif bif zK then true else BI.1.2 != (↑(List.length (cr.2.2.1)):Int) then true else !Dr.1 then true else !QS.1 then true else(↑(List.length ((cr.2.2.2.2.2).1)):Int) != 2) || isSm (q54 cr),(!!bif bif zK then true else BI.1.2 != (↑(List.length (cr.2.2.1)):Int) then true else !Dr.1) || isSm (G9 (cr.2.2.2.2.1)),(!!bif zK then true else BI.1.2 != (↑(List.length (cr.2.2.1)):Int)) || isSm (G4 (Ll.1.1,(cr.2.2.2).1))] then
       bif Bz then
        some (false,())
       else
        let Js:Vr:=((0,()),cr)
        bif pY E5 Js then
         sumC (oa E5 acG Js) (fun Ns=>
          let Rb:=Ns.1
          some (Rb,())) (fun z_65=>
          let Ic:=z_65.2
          let x_92:Vs:=((0,()),Ic)
          bif pY I4 x_92 then
           sumC (oa I4 acH x_92) (fun y_93=>
            let v_95:=y_93.1
            some (v_95,())) (fun _=>
            some (true,()))
          else none)
        else none
      else none
 else none
def Wh.gz (xs:(Int)×(Int)×(Int)):Option (((Bool))×(Unit)):=
 let AA:=xs.1
 let Sx:=xs.2.1
 let R9:=xs.2.2
 let zW:=bif decide (AA≥Sx) then decide (AA≤R9) else false
 some (zW,())
def Wh.A7 (xs:(Int)×(Int)):Option (((Int))×(Unit)):=
 let Bc:=xs.1
 let by_1:=xs.2
 let v_2:Int:=Int.fdiv Bc (2 ^ Min.min (Int.toNat by_1) (Go.IntKind.bits Go.IntKind.u32))
 let nS:=IntKind.wrap .i64 (32-by_1)
 let Bl:Int:=pS Go.BinOp.or Go.IntKind.u32 v_2 (IntKind.wrap .u32 (Bc*2 ^ Min.min (Int.toNat nS) (Go.IntKind.bits Go.IntKind.u32)))
 bif jZ [decide (0≤nS),decide (0≤by_1)] then
  some (Bl,())
 else none
abbrev Wh.Vl:Type:=((Int)×(Unit)×(List (Int)))×((List (Int)))
abbrev Wh.ajh:Type:=((((Unit))×((List (Int)))))
def Wh.QL (x:Vl):Option (Vl⊕ajh):=
 let O1:=x.1.1
 let v_572:=x.1.2.2
 let Ta:=x.2
 bif decide (O1<8) then
  let Ra:=List.getD v_572 (Int.toNat O1) 0
  bif jZ [decide (0≤O1),decide (O1<(↑(nat_lit 8):Int))] then
   let pb_576:List Int:=[IntKind.wrap .u8 (Int.fdiv Ra (2 ^ Min.min (Int.toNat 24) (Go.IntKind.bits Go.IntKind.u32))),IntKind.wrap .u8 (Int.fdiv Ra (2 ^ Min.min (Int.toNat 16) (Go.IntKind.bits Go.IntKind.u32))),IntKind.wrap .u8 (Int.fdiv Ra (2 ^ Min.min (Int.toNat 8) (Go.IntKind.bits Go.IntKind.u32))),IntKind.wrap .u8 Ra]
   let ls_577:=Ta++pb_576
   bif jZ [decide (List.length Ta+(4:Nat)≤eD),true,true,true] then
    some (.inl (((IntKind.wrap .i64 (O1+1)),(),v_572),ls_577))
   else none
  else none
 else
  some (.inr ((),Ta))
def Wh.acA:(((Unit))×((List (Int)))):=default
abbrev Wh.Vk:Type:=((Int)×(Unit)×(Unit)×(Nat×Nat))×((List (Int))×(List (Int))×(List (Int)))
abbrev Wh.ajg:Type:=((((Unit)×(Nat×Nat))×((List (Int))×(List (Int)))))
def Wh.QK (x:Vk):Option (Vk⊕ajg):=
 let FI:=x.1.1
 let b_510:=x.1.2.2.2.1
 let b_511:=x.1.2.2.2.2
 let S_:=x.2.1
 let aau:=x.2.2.1
 let aav:=x.2.2.2
 bif decide (FI<8) then
  let ls_516:=List.set S_ (Int.toNat FI) (IntKind.wrap .u32 (List.getD S_ (Int.toNat FI) 0+List.getD aau (Int.toNat FI) 0))
  bif jZ [decide (0≤FI),decide (FI<(↑(8:Nat):Int)),decide (0≤FI),decide (FI<(↑(8:Nat):Int)),decide (0≤FI),decide (FI<(↑(8:Nat):Int))] then
   some (.inl (((IntKind.wrap .i64 (FI+1)),(),(),b_510,b_511),ls_516,aau,aav))
  else none
 else
  some (.inr (((),b_510,b_511),S_,aav))
def Wh.acz:(((Unit)×(Nat×Nat))×((List (Int))×(List (Int)))):=default
abbrev Wh.Vj:Type:=((Int)×(Unit)×(Unit)×(Unit)×(Nat×Nat))×((List (Int))×(List (Int))×(List (Int))×(List (Int)))
abbrev Wh.ajf:Type:=((((Unit)×(Unit)×(Nat×Nat))×((List (Int))×(List (Int))×(List (Int)))))
def Wh.MU (x:Vj):Option (Vj⊕ajf):=
 let Jj:=x.1.1
 let b_447:=(x.1.2.2.2.2).1
 let b_448:=(x.1.2.2.2.2).2
 let GS:=x.2.1
 let aar:=x.2.2.1
 let aas:=(x.2.2.2).1
 let aat:=x.2.2.2.2
 bif decide (Jj<64) then
  let HL:=List.getD GS (Int.toNat 4) 0
  let HM:=List.getD GS (Int.toNat 0) 0
  let v_456:=List.getD GS (Int.toNat 7) 0
  let r_457:=zog A7 (HL,6)
  let r_458:=zog A7 (HL,11)
  let r_460:=zog A7 (HL,25)
  let v_463:=List.getD GS (Int.toNat 5) 0
  let v_464:=List.getD GS (Int.toNat 6) 0
  let v_468:=List.getD Fj (Int.toNat Jj) 0
  let v_470:=List.getD aar (Int.toNat Jj) 0
  let aaJ:=IntKind.wrap .u32 (IntKind.wrap .u32 (IntKind.wrap .u32 (IntKind.wrap .u32 (v_456+pS Go.BinOp.xor Go.IntKind.u32 (pS Go.BinOp.xor Go.IntKind.u32 r_457.1 r_458.1) r_460.1)+pS Go.BinOp.xor Go.IntKind.u32 (pS Go.BinOp.and Go.IntKind.u32 HL v_463) (pS Go.BinOp.and Go.IntKind.u32 (pS Go.BinOp.xor Go.IntKind.u32 (Go.IntKind.max Go.IntKind.u32) HL) v_464))+v_468)+v_470)
  bif jZ [decide (0≤Jj),decide (Jj<(↑(64:Nat):Int)),decide (0≤Jj),decide (Jj<(↑(64:Nat):Int)),true,true,true,true,isSm (A7 (HL,25)),isSm (A7 (HL,11)),isSm (A7 (HL,6)),true,true] then
   let r_473:=zog A7 (HM,2)
   let r_474:=zog A7 (HM,13)
   let r_476:=zog A7 (HM,22)
   let VW:=List.getD GS (Int.toNat 1) 0
   let VX:=List.getD GS (Int.toNat 2) 0
   bif jZ [true,true,true,true,true,true,true,true,isSm (A7 (HM,22)),isSm (A7 (HM,13)),isSm (A7 (HM,2))] then
    let ls_484:List Int:=[IntKind.wrap .u32 (aaJ+(IntKind.wrap .u32 (pS Go.BinOp.xor Go.IntKind.u32 (pS Go.BinOp.xor Go.IntKind.u32 r_473.1 r_474.1) r_476.1+pS Go.BinOp.xor Go.IntKind.u32 (pS Go.BinOp.xor Go.IntKind.u32 (pS Go.BinOp.and Go.IntKind.u32 HM VW) (pS Go.BinOp.and Go.IntKind.u32 HM VX)) (pS Go.BinOp.and Go.IntKind.u32 VW VX)))),HM,VW,VX,IntKind.wrap .u32 (List.getD GS (Int.toNat 3) 0+aaJ),HL,v_463,v_464]
    some (.inl (((IntKind.wrap .i64 (Jj+1)),(),(),(),b_447,b_448),ls_484,aar,aas,aat))
   else none
  else none
 else
  some (.inr (((),(),b_447,b_448),aas,GS,aat))
def Wh.acy:(((Unit)×(Unit)×(Nat×Nat))×((List (Int))×(List (Int))×(List (Int)))):=default
abbrev Wh.Vi:Type:=((Int)×(Unit)×(Nat×Nat)×(Unit))×((List (Int))×(List (Int))×(List (Int)))
abbrev Wh.aje:Type:=((((Unit)×(Unit)×(Nat×Nat))×((List (Int))×(List (Int))×(List (Int)))))
def Wh.Ld (x:Vi):Option (Vi⊕aje):=
 let BJ:=x.1.1
 let Jz:=(x.1.2.2).1.1
 let JA:=(x.1.2.2).1.2
 let J0:=x.2.1
 let J1:=x.2.2.1
 let S7:=x.2.2.2
 bif decide (BJ<64) then
  bif decide (BJ<16) then
   let S8:=List.set J0 (Int.toNat BJ) (pS Go.BinOp.or Go.IntKind.u32 (pS Go.BinOp.or Go.IntKind.u32 (pS Go.BinOp.or Go.IntKind.u32 (IntKind.wrap .u32 (IntKind.wrap .u32 (List.getD J1 (Jz+Int.toNat (IntKind.wrap .i64 (4*BJ))) 0)*2 ^ Min.min (Int.toNat 24) (Go.IntKind.bits Go.IntKind.u32))) (IntKind.wrap .u32 (IntKind.wrap .u32 (List.getD J1 (Jz+Int.toNat (IntKind.wrap .i64 (IntKind.wrap .i64 (4*BJ)+1))) 0)*2 ^ Min.min (Int.toNat 16) (Go.IntKind.bits Go.IntKind.u32)))) (IntKind.wrap .u32 (IntKind.wrap .u32 (List.getD J1 (Jz+Int.toNat (IntKind.wrap .i64 (IntKind.wrap .i64 (4*BJ)+2))) 0)*2 ^ Min.min (Int.toNat 8) (Go.IntKind.bits Go.IntKind.u32)))) (IntKind.wrap .u32 (List.getD J1 (Jz+Int.toNat (IntKind.wrap .i64 (IntKind.wrap .i64 (4*BJ)+3))) 0)))
   let Ji:=IntKind.wrap .i64 (4*BJ)
   bif jZ [decide (0≤BJ),decide (BJ<(↑(64:Nat):Int)),decide (0≤IntKind.wrap .i64 (Ji+3)),decide (IntKind.wrap .i64 (Ji+3)<(↑JA:Int)),true,decide (0≤IntKind.wrap .i64 (Ji+2)),decide (IntKind.wrap .i64 (Ji+2)<(↑JA:Int)),true,decide (0≤IntKind.wrap .i64 (Ji+1)),decide (IntKind.wrap .i64 (Ji+1)<(↑JA:Int)),true,decide (0≤Ji),decide (Ji<(↑JA:Int))] then
    some (.inl (((IntKind.wrap .i64 (BJ+1)),(),(Jz,JA),()),S8,J1,S7))
   else none
  else
   let VU:=IntKind.wrap .i64 (BJ-15)
   let VV:=IntKind.wrap .i64 (BJ-2)
   let O5:=List.getD J0 (Int.toNat VU) 0
   let Pa:=List.getD J0 (Int.toNat VV) 0
   bif jZ [decide (0≤VV),decide (VV<(↑(64:Nat):Int)),decide (0≤VU),decide (VU<(↑(64:Nat):Int))] then
    let r_376:=zog A7 (O5,7)
    let r_377:=zog A7 (O5,18)
    let r_378:=zog A7 (Pa,17)
    let r_379:=zog A7 (Pa,19)
    let ls_380:=List.set J0 (Int.toNat BJ) (IntKind.wrap .u32 (IntKind.wrap .u32 (IntKind.wrap .u32 (List.getD J0 (Int.toNat (IntKind.wrap .i64 (BJ-16))) 0+List.getD J0 (Int.toNat (IntKind.wrap .i64 (BJ-7))) 0)+pS Go.BinOp.xor Go.IntKind.u32 (pS Go.BinOp.xor Go.IntKind.u32 r_376.1 r_377.1) (Int.fdiv O5 (2 ^ Min.min (Int.toNat 3) (Go.IntKind.bits Go.IntKind.u32))))+pS Go.BinOp.xor Go.IntKind.u32 (pS Go.BinOp.xor Go.IntKind.u32 r_378.1 r_379.1) (Int.fdiv Pa (2 ^ Min.min (Int.toNat 10) (Go.IntKind.bits Go.IntKind.u32)))))
    let v_381:=IntKind.wrap .i64 (BJ-16)
    let v_383:=IntKind.wrap .i64 (BJ-7)
    bif jZ [decide (0≤BJ),decide (BJ<(↑(64:Nat):Int)),true,isSm (A7 (Pa,19)),isSm (A7 (Pa,17)),true,isSm (A7 (O5,18)),isSm (A7 (O5,7)),decide (0≤v_383),decide (v_383<(↑(64:Nat):Int)),decide (0≤v_381),decide (v_381<(↑(64:Nat):Int))] then
     some (.inl (((IntKind.wrap .i64 (BJ+1)),(),(Jz,JA),()),ls_380,J1,S7))
    else none
   else none
 else
  some (.inr (((),(),Jz,JA),J0,S7,J1))
def Wh.acw:(((Unit)×(Unit)×(Nat×Nat))×((List (Int))×(List (Int))×(List (Int)))):=default
abbrev Wh.Vh:Type:=((Nat×Nat)×(Unit))×((List (Int))×(List (Int)))
abbrev Wh.ajd:Type:=((((Unit))×((List (Int)))))
def Wh.Lc (x:Vh):Option (Vh⊕ajd):=
 let b_529:=x.1.1.1
 let b_530:=x.1.1.2
 let ls_531:=x.2.1
 let aaw:=x.2.2
 bif decide ((↑b_530:Int)>0) then
  let pb_534:List Int:=[(0:Int),0,0,0,0,0,0,0,0,0,0,0,0,0,0,0,0,0,0,0,0,0,0,0,0,0,0,0,0,0,0,0,0,0,0,0,0,0,0,0,0,0,0,0,0,0,0,0,0,0,0,0,0,0,0,0,0,0,0,0,0,0,0,0]
  let x_535:Vi:=((0,(),(b_529,b_530),()),pb_534,ls_531,aaw)
  bif pY Ld x_535 then
   let Pd:=oa Ld acw x_535
   let b_537:=(Pd.1.2.2).1
   let b_538:=Pd.1.2.2.2
   let ls_539:=Pd.2.1
   let aax:=Pd.2.2.1
   let ls_541:=Pd.2.2.2
   let x_542:Vj:=((0,(),(),(),b_537,b_538),aax,ls_539,aax,ls_541)
   bif pY MU x_542 then
    let Pe:=oa MU acy x_542
    let b_544:=(Pe.1.2.2).1
    let b_545:=Pe.1.2.2.2
    let ls_546:=Pe.2.1
    let ls_547:=Pe.2.2.1
    let ls_548:=Pe.2.2.2
    let x_549:Vk:=((0,(),(),b_544,b_545),ls_546,ls_547,ls_548)
    bif pY QK x_549 then
     let Rj:=oa QK acz x_549
     let b_551:=Rj.1.2.1
     let RE:=Rj.1.2.2
     let ls_553:=Rj.2.1
     let aay:=Rj.2.2
     let v_555:Nat:=Int.toNat ((↑RE:Int)-64)
     let v_556:Nat:=b_551+Int.toNat 64
     bif jZ [true,decide (64≤(↑RE:Int)),decide ((↑b_551:Int)+(↑RE:Int)≤(↑(List.length aay):Int))] then
      some (.inl (((v_556,v_555),()),aay,ls_553))
     else none
    else none
   else none
  else none
 else
  some (.inr ((),aaw))
def Wh.acv:(((Unit))×((List (Int)))):=default
abbrev Wh.Vg:Type:=((Int)×(Int)×(Unit)×(Unit))×((List (Int))×(List (Int)))
abbrev Wh.ajc:Type:=((((Unit)×(Unit))×((List (Int))×(List (Int)))))
def Wh.MT (x:Vg):Option (Vg⊕ajc):=
 let Pr:=x.1.1
 let aaA:=x.1.2.1
 let AY:=x.2.1
 let Ai:=x.2.2
 bif decide (Pr≥0) then
  let QD:List Int:=[IntKind.wrap .u8 (Int.fdiv aaA (2 ^ Min.min (Int.toNat Pr) (Go.IntKind.bits Go.IntKind.u64)))]
  let EO:=AY++QD
  bif jZ [decide (List.length AY+(1:Nat)≤eD),decide (0≤Pr)] then
   some (.inl (((IntKind.wrap .i64 (Pr-8)),aaA,(),()),EO,Ai))
  else none
 else
  some (.inr (((),()),AY,Ai))
def Wh.acu:(((Unit)×(Unit))×((List (Int))×(List (Int)))):=default
abbrev Wh.Vf:Type:=((Unit)×(Unit)×(List UInt8))×((List (Int))×(List (Int)))
abbrev Wh.ajb:Type:=((((Unit)×(Unit)×(List UInt8))×((List (Int))×(List (Int)))))
def Wh.Lb (x:Vf):Option (Vf⊕ajb):=
 let HI:=x.1.2.2
 let Qt:=x.2.1
 let HX:=x.2.2
 let Af:Bool:=(Int.tmod (↑(List.length Qt):Int) 64) != 56
 bif Af then
  let Qd:=Qt ++ [(0:Int)]
  bif jZ [decide (List.length Qt+(1:Nat)≤eD)] then
   some (.inl (((),(),HI),Qd,HX))
  else none
 else
  some (.inr (((),(),HI),Qt,HX))
def Wh.acs:(((Unit)×(Unit)×(List UInt8))×((List (Int))×(List (Int)))):=default
def Wh.q69 (xs:(List UInt8)):Option (((List UInt8))×(Unit)):=
 let Bx:=xs
 let BG:List Int:=bytesOf Bx ++ [(128:Int)]
 bif jZ [decide (List.length (bytesOf Bx)+(1:Nat)≤eD),decide (List.length Bx≤eD)] then
  let x_14:Vf:=(((),(),Bx),BG,[(1779033703:Int),3144134277,1013904242,2773480762,1359893119,2600822924,528734635,1541459225])
  bif pY Lb x_14 then
   let LG:=oa Lb acs x_14
   let akF:=LG.1.2.2
   let AL:=LG.2.1
   let y4:=LG.2.2
   let Jr:Vg:=((56,(IntKind.wrap .u64 ((IntKind.wrap .u64 (↑(List.length akF):Int))*8)),(),()),AL,y4)
   bif pY MT Jr then
    let Nr:=oa MT acu Jr
    let GR:=Nr.2.1
    let Cl:=Nr.2.2
    let x_557:Vh:=((((0:Nat),List.length GR),()),GR,Cl)
    bif pY Lc x_557 then
     let y_558:=oa Lc acv x_557
     let ls_559:=y_558.2
     let x_582:Vl:=((0,(),ls_559),[])
     bif pY QL x_582 then
      let y_583:=oa QL acA x_582
      let ls_584:=y_583.2
      some (sM ls_584,())
     else none
    else none
   else none
  else none
 else none
abbrev Wh.Uo:Type:=((Int)×(List UInt8)×(Unit))×((List (Int)))
abbrev Wh.aiq:Type:=((((Unit))×((List (Int)))))
def Wh.Un (x:Uo):Option (Uo⊕aiq):=
 let JR:=x.1.1
 let Bw:=x.1.2.1
 let zY:=x.2
 let nI:=decide (JR<(↑(List.length Bw):Int))
 bif nI then
  let Dm:List Int:=[(↑(UInt8.toNat (List.getD [(48:UInt8),(49:UInt8),(50:UInt8),(51:UInt8),(52:UInt8),(53:UInt8),(54:UInt8),(55:UInt8),(56:UInt8),(57:UInt8),(97:UInt8),(98:UInt8),(99:UInt8),(100:UInt8),(101:UInt8),(102:UInt8)] (Int.toNat (IntKind.wrap .u8 (Int.tdiv (↑(UInt8.toNat (List.getD Bw (Int.toNat JR) (0:UInt8))):Int) 16))) (0:UInt8))):Int),(↑(UInt8.toNat (List.getD [(48:UInt8),(49:UInt8),(50:UInt8),(51:UInt8),(52:UInt8),(53:UInt8),(54:UInt8),(55:UInt8),(56:UInt8),(57:UInt8),(97:UInt8),(98:UInt8),(99:UInt8),(100:UInt8),(101:UInt8),(102:UInt8)] (Int.toNat (Int.tmod (↑(UInt8.toNat (List.getD Bw (Int.toNat JR) (0:UInt8))):Int) 16)) (0:UInt8))):Int)]
  let y4:=zY++Dm
  let je:Int:=(↑(UInt8.toNat (List.getD Bw (Int.toNat JR) (0:UInt8))):Int)
  bif jZ [decide (List.length zY+(2:Nat)≤eD),decide (0≤Int.tmod je 16),decide (Int.tmod je 16<(↑(16:Nat):Int)),true,decide (0≤JR),nI,decide (0≤IntKind.wrap .u8 (Int.tdiv je 16)),decide (IntKind.wrap .u8 (Int.tdiv je 16)<(↑(16:Nat):Int)),true,decide (0≤JR),nI] then
   some (.inl (((IntKind.wrap .i64 (JR+1)),Bw,()),y4))
  else none
 else
  some (.inr ((),zY))
def Wh.abA:(((Unit))×((List (Int)))):=default
def Wh.ML (xs:(List UInt8)):Option (((List UInt8))×(Unit)):=
 let cr:=xs
 let x_25:Uo:=((0,cr,()),[])
 bif pY Un x_25 then
  let Ci:=oa Un abA x_25
  let zC:=Ci.2
  some (sM zC,())
 else none
def Wh.E6 (xs:(List UInt8)):Option (((List UInt8))×(Unit)):=
 let Bx:=xs
 let r_1:=zog q69 Bx
 let r_3:=zog ML r_1.1
 bif jZ [isSm (ML r_1.1),isSm (q69 Bx)] then
  some (r_3.1,())
 else none
def Wh.Mk (xs:(Int)×(List UInt8)):Option (((List UInt8))×(Unit)):=
 let AA:=xs.1
 let Ce:=xs.2
 let r_2:=zog Wh.strconv_Itoa AA
 let eB:=zog Wh.strconv_Itoa (↑(List.length Ce):Int)
 let Dc:=r_2.1 ++ [(32:UInt8)]++eB.1 ++ [(32:UInt8)]
 bif jZ [decide (List.length (r_2.1 ++ [(32:UInt8)]++eB.1)+(1:Nat)≤eD),decide (List.length (r_2.1 ++ [(32:UInt8)])+List.length eB.1≤eD),isSm (Wh.strconv_Itoa (↑(List.length Ce):Int)),decide (List.length r_2.1+(1:Nat)≤eD),isSm (Wh.strconv_Itoa AA)] then
  let BL:List UInt8:=Dc++Ce
  let BI:=zog E6 BL
  let qe:List UInt8:=Dc++List.take (Int.toNat ((16:Int)-0)) (List.drop (Int.toNat 0) BI.1) ++ [(32:UInt8)]++Ce ++ [(10:UInt8)]
  bif jZ [decide (List.length (Dc++List.take (Int.toNat ((16:Int)-0)) (List.drop (Int.toNat 0) ((zog E6 BL).1)) ++ [(32:UInt8)]++Ce)+(1:Nat)≤eD),decide (List.length (Dc++List.take (Int.toNat ((16:Int)-0)) (List.drop (Int.toNat 0) ((zog E6 BL).1)) ++ [(32:UInt8)])+List.length Ce≤eD),decide (List.length (Dc++List.take (Int.toNat ((16:Int)-0)) (List.drop (Int.toNat 0) ((zog E6 BL).1)))+(1:Nat)≤eD),decide (List.length Dc+List.length (List.take (Int.toNat ((16:Int)-0)) (List.drop (Int.toNat 0) ((zog E6 BL).1)))≤eD),true,true,decide (16≤(↑(List.length ((zog E6 BL).1)):Int)),isSm (E6 BL),decide (List.length Dc+List.length Ce≤eD)] then
   some (qe,())
  else none
 else none
def Wh.q6 (xs:(List UInt8)×(List UInt8)):Option (((Bool))×(Unit)):=
 let cr:=xs.1
 let Kb:=xs.2
 let v_2:=decide ((↑(List.length cr):Int)≥(↑(List.length Kb):Int))
 let zV:=bif v_2 then List.take (Int.toNat ((↑(List.length Kb):Int)-0)) (List.drop (Int.toNat 0) cr)==Kb else false
 bif jZ [!v_2 || decide ((0:Int)≤0),!v_2 || decide (0≤(↑(List.length Kb):Int)),!v_2 || decide ((↑(List.length Kb):Int)≤(↑(List.length cr):Int))] then
  some (zV,())
 else none
def Wh.q14 (xs:(List UInt8)×(List UInt8)):Option (((Bool))×(Unit)):=
 let cr:=xs.1
 let Kb:=xs.2
 e_ Wh.q6 (cr,Kb) fun r_2=>
  some (r_2.1,())
abbrev Wh.VA:Type:=((Int)×(Unit)×(List UInt8))×((List (List UInt8)))
abbrev Wh.ajw:Type:=((((Unit)×(Int))×((List (List UInt8)))))
def Wh.Hv (x:VA):Option (VA⊕ajw):=
 let Fg:=x.1.1
 let EN:=x.1.2.2
 let EP:=x.2
 let BV:List UInt8:=List.take (Int.toNat ((↑(List.length EN):Int)-Fg)) (List.drop (Int.toNat Fg) EN)
 let r_64:=zog Wh.strings_Cut (BV,[(32:UInt8)])
 bif jZ [isSm (Wh.strings_Cut (BV,[(32:UInt8)])),decide (0≤Fg),decide (Fg≤(↑(List.length EN):Int)),decide ((↑(List.length EN):Int)≤(↑(List.length EN):Int))] then
  e_ Wh.strings_Cut (r_64.1.2.1,[(32:UInt8)]) fun r_66=>
   e_ D9 r_66.1.1 fun HD=>
    let v_68:Int:=(↑(List.length EP):Int)
    let v_74:Int:=(↑(List.length r_66.1.1):Int)
    let r_79:=zog Wh.strconv_Itoa v_68
    let Y7:=IntKind.wrap .i64 (IntKind.wrap .i64 (IntKind.wrap .i64 ((↑(List.length r_79.1):Int)+1)+v_74)+18)
    bif jZ [isSm (Wh.strconv_Itoa v_68)] then
     let Re:= !HD.1.2
     let r_82:=zog gz (HD.1.1,1,500)
     let v_85:=bif bif Re then true else !r_82.1 then true else decide (IntKind.wrap .i64 ((↑(List.length EN):Int)-Fg)<IntKind.wrap .i64 (IntKind.wrap .i64 (Y7+HD.1.1)+1))
     bif jZ [!!Re || isSm (gz (HD.1.1,1,500))] then
      bif v_85 then
       some (.inr (((),Fg),EP))
      else
       let LD:=IntKind.wrap .i64 (Fg+Y7)
       let acY:List UInt8:=List.take (Int.toNat (IntKind.wrap .i64 (LD+HD.1.1)-LD)) (List.drop (Int.toNat LD) EN)
       bif jZ [decide (0≤LD),decide (LD≤IntKind.wrap .i64 (LD+HD.1.1)),decide (IntKind.wrap .i64 (LD+HD.1.1)≤(↑(List.length EN):Int))] then
        e_ Mk (v_68,acY) fun E8=>
         let r_93:=zog q14 (BV,E8.1)
         bif jZ [isSm (q14 (BV,E8.1)),decide (0≤Fg),decide (Fg≤(↑(List.length EN):Int)),decide ((↑(List.length EN):Int)≤(↑(List.length EN):Int))] then
          bif !r_93.1 then
           some (.inr (((),Fg),EP))
          else
           let pb_94:List (List UInt8):=[acY]
           let Ou:List (List UInt8):=EP++pb_94
           bif jZ [decide (List.length EP+(1:Nat)≤eD)] then
            let O4:Int:=(↑(List.length E8.1):Int)
            some (.inl (((IntKind.wrap .i64 (Fg+O4)),(),EN),Ou))
           else none
         else none
       else none
     else none
    else none
 else none
def Wh.acP:(((Unit)×(Int))×((List (List UInt8)))):=default
def Wh.q95 (xs:(List UInt8)):Option (((List (List UInt8))×(Int))×(Unit)):=
 let BO:=xs
 let x_99:VA:=((0,(),BO),[])
 bif pY Hv x_99 then
  let y_100:=oa Hv acP x_99
  let v_101:=y_100.1.2
  let HY:=y_100.2
  some ((HY,v_101),())
 else none
def Wh.CI (xs:(Int)):Option (((Bool))×(Unit)):=
 let AA:=xs
 e_ gz (AA,0,1) fun r_1=>
  some (r_1.1,())
abbrev Wh.T5:Type:=((Int)×(List UInt8)×(Int))×(Unit)
abbrev Wh.ah7:Type:=((((Bool))×(Unit))⊕(((List UInt8))×(Unit)))
def Wh.Iv (x:T5):Option (T5⊕ah7):=
 let Cg:=x.1.1
 let Lz:=x.1.2.1
 let Af:=x.1.2.2
 bif decide (Cg<Af) then
  let vT:Int:=(↑(UInt8.toNat (List.getD Lz (Int.toNat Cg) (0:UInt8))):Int)
  let z_:=bif decide (vT<97) then true else decide (vT>122)
  bif jZ [!!decide (vT<97) || decide (0≤Cg),!!decide (vT<97) || decide (Cg<(↑(List.length Lz):Int)),decide (0≤Cg),decide (Cg<(↑(List.length Lz):Int))] then
   bif z_ then
    some (.inr (.inl (false,())))
   else
    some (.inl (((IntKind.wrap .i64 (Cg+1)),Lz,Af),()))
  else none
 else
  some (.inr (.inr (Lz,())))
def Wh.abg:(((Bool))×(Unit))⊕(((List UInt8))×(Unit)):=.inl default
def Wh.G6 (xs:(List UInt8)):Option (((Bool))×(Unit)):=
 let Bx:=xs
 let x_19:T5:=((0,Bx,(↑(List.length Bx):Int)),())
 bif pY Iv x_19 then
  sumC (oa Iv abg x_19) (fun y_20=>
   let zK:=y_20.1
   some (zK,())) (fun z_21=>
   let akH:=z_21.1
   e_ gz ((↑(List.length akH):Int),1,6) fun OQ=>
    some (OQ.1,()))
 else none
def Wh.q38 (xs:(Int)×(List UInt8)×(List UInt8)):Option (((List UInt8))×(Unit)):=
 let JO:=xs.1
 let BQ:=xs.2.1
 let Et:=xs.2.2
 let r_3:=zog CI JO
 let eB:=zog G6 BQ
 let z8:=bif bif !r_3.1 then true else !eB.1 then true else decide ((↑(List.length Et):Int)>300)
 bif jZ [!!!r_3.1 || isSm (G6 BQ),isSm (CI JO)] then
  bif z8 then
   some ([],())
  else
   let Bt:=zog Wh.strconv_Itoa JO
   let DS:=Bt.1 ++ [(32:UInt8)]++BQ ++ [(58:UInt8)]++Et
   bif jZ [decide (List.length (Bt.1 ++ [(32:UInt8)]++BQ ++ [(58:UInt8)])+List.length Et≤eD),decide (List.length (Bt.1 ++ [(32:UInt8)]++BQ)+(1:Nat)≤eD),decide (List.length (Bt.1 ++ [(32:UInt8)])+List.length BQ≤eD),decide (List.length Bt.1+(1:Nat)≤eD),isSm (Wh.strconv_Itoa JO)] then
    some (DS,())
   else none
 else none
def Wh.Ht (xs:(fe.D)):Option ((((Int)×((List (an.D))×(Unit))))×(Unit)):=
 let nc:fe.D:=xs
 let BG:List (an.D):=[]++nc.2.1
 bif jZ [decide ((0:Nat)+List.length nc.2.1≤eD)] then
  some ((nc.1,BG,()),())
 else none
def Wh.q25 (xs:(an.D)×(Int)×(List UInt8)):Option (((Bool))×(Unit)):=
 let i_0:=xs.1
 let v_1:=xs.2.1
 let v_2:=xs.2.2
 let zW:=bif(i_0.1==v_1) then i_0.2.1==v_2 else false
 some (zW,())
abbrev Wh.UY:Type:=((Int)×(List (an.D))×((Int)×((List UInt8)×(Unit)))×(Int))×(Unit)
abbrev Wh.q3_l0Y:Type:=((((Int))×(Unit))⊕((Unit)×(Unit)))
def Wh.IU (x:UY):Option (UY⊕q3_l0Y):=
 let Af:=x.1.1
 let s_13:=x.1.2.1
 let f_14:=(x.1.2.2).1.1
 let f_15:=(x.1.2.2).1.2.1
 let nI:=x.1.2.2.2
 bif decide (Af<nI) then
  let w8:an.D:=List.getD s_13 (Int.toNat Af) (0,[],0,[],())
  let r_19:=zog q25 (w8,f_14,f_15)
  bif jZ [isSm (q25 (w8,f_14,f_15)),decide (0≤Af),decide (Af<(↑(List.length s_13):Int))] then
   bif r_19.1 then
    some (.inr (.inl (Af,())))
   else
    some (.inl (((IntKind.wrap .i64 (Af+1)),s_13,(f_14,f_15,()),nI),()))
  else none
 else
  some (.inr (.inr ((),())))
def Wh.ab7:(((Int))×(Unit))⊕((Unit)×(Unit)):=.inl default
def Wh.q3 (xs:(List (an.D))×((Int)×((List UInt8)×(Unit)))):Option (((Int))×(Unit)):=
 let cr:=xs.1
 let f_1:=xs.2
 let v_2:Int:=(↑(List.length cr):Int)
 let x_21:UY:=((0,cr,(f_1.1,f_1.2.1,()),v_2),())
 bif pY IU x_21 then
  sumC (oa IU ab7 x_21) (fun FO=>
   let th:=FO.1
   some (th,())) (fun _=>
   some (-1,()))
 else none
def Wh.Gt (xs:(fe.D)×(Int)×(List UInt8)):Option (((Int))×(Unit)):=
 let nc:=xs.1
 let z6:=xs.2.1
 let CG:=xs.2.2
 e_ Wh.q3 (nc.2.1,z6,CG,()) fun r_3=>
  some (r_3.1,())
def Wh.q10 (xs:(List (an.D))×(Int)×(Int)):Option (((List (an.D)))×(Unit)):=
 let cr:=xs.1
 let i_1:=xs.2.1
 let zM:=xs.2.2
 let nS:Int:=(↑(List.length cr):Int)
 bif jZ [decide (0≤i_1),decide (i_1≤zM),decide (zM≤nS),decide (nS≤nS)] then
  let zV:=i_1==zM
  bif zV then
   some (cr,())
  else
   let J_:List (an.D):=List.take (Int.toNat 0+Int.toNat (i_1-0)) cr++(List.take (Int.toNat (nS-zM)) (List.drop (Int.toNat zM) cr)++List.drop (Int.toNat 0+Int.toNat (i_1-0)+List.length (List.take (Int.toNat (nS-zM)) (List.drop (Int.toNat zM) cr))) cr)
   let Bl:Nat:=Int.toNat (i_1-0)
   let Du:Nat:=Bl+List.length (List.take (Int.toNat (nS-zM)) (List.drop (Int.toNat zM) cr))
   bif jZ [decide (Int.toNat 0+Bl+List.length (List.take (Int.toNat (nS-zM)) (List.drop (Int.toNat zM) cr))≤List.length cr),decide (0≤zM),decide (zM≤nS),decide (nS≤nS),true,decide (0≤i_1),decide (i_1≤nS)] then
    let OE:List (an.D):=List.take (Int.toNat (0:Int)+Int.toNat (↑Du:Int)) J_++(@List.replicate (Int×List UInt8×Int×List UInt8×Unit) (Int.toNat (nS-(↑Du:Int))) ((0:Int),[],(0:Int),[],())++List.drop (Int.toNat (0:Int)+Int.toNat (↑Du:Int)+List.length (@List.replicate (Int×List UInt8×Int×List UInt8×Unit) (Int.toNat (nS-(↑Du:Int))) ((0:Int),[],(0:Int),[],()))) J_)
    bif jZ [decide (0≤(↑Du:Int)),decide ((↑Du:Int)≤nS),decide ((↑(Int.toNat 0):Int)+nS≤(↑(List.length J_):Int))] then
     some (List.take Du OE,())
    else none
   else none
 else none
def Wh.q61 (xs:(fe.D)×(Int)×(List UInt8)):Option ((((Int)×((List (an.D))×(Unit)))×(Int))×(Unit)):=
 let nc:=xs.1
 let z6:=xs.2.1
 let CG:=xs.2.2
 e_ Ht nc fun r_3=>
  e_ Gt (nc,z6,CG) fun eB=>
   bif decide (eB.1<0) then
    some ((r_3.1,3),())
   else
    let AM:=zog q10 (r_3.1.2.1,eB.1,IntKind.wrap .i64 (eB.1+1))
    let pb_7:List (an.D):=[]++AM.1
    bif jZ [decide ((0:Nat)+List.length AM.1≤eD),isSm (q10 (r_3.1.2.1,eB.1,(IntKind.wrap .i64 (eB.1+1))))] then
     some (((r_3.1.1,pb_7,r_3.1.2.2),0),())
    else none
def Wh.q21 (xs:(Int)×(List UInt8)×(List UInt8)):Option (((Bool))×(Unit)):=
 let JO:=xs.1
 let BQ:=xs.2.1
 let Et:=xs.2.2
 let r_3:=zog CI JO
 let eB:=zog G6 BQ
 let Cv:=zog gz ((↑(List.length Et):Int),1,300)
 let Bb:=bif bif r_3.1 then eB.1 else false then Cv.1 else false
 bif jZ [(!bif r_3.1 then eB.1 else false) || isSm (gz ((↑(List.length Et):Int),1,300)),!r_3.1 || isSm (G6 BQ),isSm (CI JO)] then
  some (Bb,())
 else none
abbrev Wh.UZ:Type:=((Int)×(Int)×(Int)×(List (an.D))×(Int))×(Unit)
abbrev Wh.aiV:Type:=((((Int))×(Unit)))
def Wh.IV (x:UZ):Option (UZ⊕aiV):=
 let nI:=x.1.1
 let J4:=x.1.2.1
 let JN:=(x.1.2.2).1
 let je:=x.1.2.2.2.1
 let lg:=x.1.2.2.2.2
 bif decide (nI<lg) then
  let DI:an.D:=List.getD je (Int.toNat nI) (0,[],0,[],())
  bif jZ [decide (0≤nI),decide (nI<(↑(List.length je):Int))] then
   bif(DI.1==JN) then
    let th:Int:=(↑(List.length ((DI.2.2.2).1)):Int)
    some (.inl (((IntKind.wrap .i64 (nI+1)),(IntKind.wrap .i64 (J4+th)),JN,je,lg),()))
   else
    some (.inl (((IntKind.wrap .i64 (nI+1)),J4,JN,je,lg),()))
  else none
 else
  some (.inr (J4,()))
def Wh.ab8:(((Int))×(Unit)):=default
def Wh.q40 (xs:(fe.D)×(Int)):Option (((Int))×(Unit)):=
 let nc:=xs.1
 let z6:=xs.2
 let v_2:Int:=(↑(List.length nc.2.1):Int)
 let FN:UZ:=((0,0,z6,nc.2.1,v_2),())
 bif pY IV FN then
  let EA:=oa IV ab8 FN
  let n_31:=EA.1
  some (n_31,())
 else none
def Wh.q57 (xs:(Int)):Option (((Bool))×(Unit)):=
 let Bc:=xs
 let v_1:=Bc != Bc
 some (v_1,())
def Wh.q24 (xs:(Int)×(Int)):Option (((Int))×(Unit)):=
 let Bc:=xs.1
 let y_1:=xs.2
 e_ q57 Bc fun r_2=>
  e_ q57 y_1 fun r_3=>
   bif r_2.1 then
    bif r_3.1 then
     some (0,())
    else
     some (-1,())
   else
    bif r_3.1 then
     some (1,())
    else
     bif decide (Bc<y_1) then
      some (-1,())
     else
      bif decide (Bc>y_1) then
       some (1,())
      else
       some (0,())
def Wh.q15 (xs:(List UInt8)):Option (((Bool))×(Unit)):=
 let Bc:=xs
 some ((!Bc==Bc),())
def Wh.Lf (xs:(List UInt8)×(List UInt8)):Option (((Int))×(Unit)):=
 let Bc:=xs.1
 let y_1:=xs.2
 e_ q15 Bc fun r_2=>
  e_ q15 y_1 fun r_3=>
   bif r_2.1 then
    bif r_3.1 then
     some (0,())
    else
     some (-1,())
   else
    bif r_3.1 then
     some (1,())
    else
     bif Go.Op.bytesLess Bc y_1 then
      some (-1,())
     else
      bif(!(Go.Op.bytesLess Bc y_1 || Bc==y_1)) then
       some (1,())
      else
       some (0,())
abbrev Wh.Uk:Type:=((Int)×(Int)×(List (Int))×(Int))×(Unit)
abbrev Wh.ain:Type:=((((Int))×(Unit))⊕(((Int))×(Unit)))
def Wh.KD (x:Uk):Option (Uk⊕ain):=
 let Bb:=x.1.1
 let VZ:=x.1.2.1
 let By:=(x.1.2.2).1
 let Af:=x.1.2.2.2
 bif decide (Bb<Af) then
  let vT:=List.getD By (Int.toNat Bb) 0
  bif jZ [decide (0≤Bb),decide (Bb<(↑(List.length By):Int))] then
   let Ap:=vT != VZ
   bif Ap then
    some (.inr (.inl (vT,())))
   else
    some (.inl (((IntKind.wrap .i64 (Bb+1)),VZ,By,Af),()))
  else none
 else
  some (.inr (.inr (VZ,())))
def Wh.abx:(((Int))×(Unit))⊕(((Int))×(Unit)):=.inl default
def Wh.KC (xs:(List (Int))):Option (((Int))×(Unit)):=
 let adB:=xs
 let x_17:Uk:=((0,0,adB,(↑(List.length adB):Int)),())
 bif pY KD x_17 then
  sumC (oa KD abx x_17) (fun LH=>
   let lg:=LH.1
   some (lg,())) (fun Pf=>
   let alb:=Pf.1
   some (alb,()))
 else none
def Wh.q44 (xs:(an.D)×(an.D)):Option (((Int))×(Unit)):=
 let cx:=xs.1
 let b_1:=xs.2
 let r_2:=zog q24 (cx.1,b_1.1)
 let r_3:=zog Lf (cx.2.1,b_1.2.1)
 let AM:=zog KC [r_2.1,r_3.1]
 bif jZ [isSm (KC [r_2.1,r_3.1]),isSm (Lf (cx.2.1,b_1.2.1)),isSm (q24 (cx.1,b_1.1))] then
  some (AM.1,())
 else none
abbrev Wh.TF:Type:=((Int)×(Unit)×(Unit)×(Int)×(Int)×(Int))×((List (an.D)))
abbrev Wh.q0_l1Y:Type:=((((Unit)×(Unit)×(Int)×(Int)×(Int))×((List (an.D)))))
def Wh.GY (x:TF):Option (TF⊕q0_l1Y):=
 let Ck:=x.1.1
 let a_24:=x.1.2.2.2.1
 let b_25:=(x.1.2.2.2.2).1
 let Fm:=(x.1.2.2.2.2).2
 let AB:=x.2
 let nC:=decide (Ck>a_24)
 let OR:=zog q44 (List.getD AB (Int.toNat Ck) (0,[],0,[],()),List.getD AB (Int.toNat (IntKind.wrap .i64 (Ck-1))) (0,[],0,[],()))
 let zG:=bif nC then decide (OR.1<0) else false
 bif jZ [!nC || isSm (q44 (List.getD AB (Int.toNat Ck) (0,[],0,[],()),List.getD AB (Int.toNat (IntKind.wrap .i64 (Ck-1))) (0,[],0,[],()))),!nC || decide (0≤IntKind.wrap .i64 (Ck-1)),!nC || decide (IntKind.wrap .i64 (Ck-1)<(↑(List.length AB):Int)),!nC || decide (0≤Ck),!nC || decide (Ck<(↑(List.length AB):Int))] then
  bif zG then
   let n_:List (an.D):=List.set AB (Int.toNat Ck) (List.getD AB (Int.toNat (IntKind.wrap .i64 (Ck-1))) (0,[],0,[],()))
   let pb_32:List (an.D):=List.set n_ (Int.toNat (IntKind.wrap .i64 (Ck-1))) (List.getD AB (Int.toNat Ck) (0,[],0,[],()))
   let Ch:=IntKind.wrap .i64 (Ck-1)
   bif jZ [decide (0≤Ch),decide (Ch<(↑(List.length n_):Int)),decide (0≤Ck),decide (Ck<(↑(List.length AB):Int)),decide (0≤Ck),decide (Ck<(↑(List.length AB):Int)),decide (0≤Ch),decide (Ch<(↑(List.length AB):Int))] then
    some (.inl ((Ch,(),(),a_24,b_25,Fm),pb_32))
   else none
  else
   some (.inr (((),(),a_24,b_25,Fm),AB))
 else none
def Wh.aaZ:(((Unit)×(Unit)×(Int)×(Int)×(Int))×((List (an.D)))):=default
abbrev Wh.TE:Type:=((Unit)×(Int)×(Unit)×(Int)×(Int))×((List (an.D)))
abbrev Wh.q0_l0Y:Type:=(((Unit)×((List (an.D)))))
def Wh.Gg (x:TE):Option (TE⊕q0_l0Y):=
 let i_43:=x.1.2.1
 let a_44:=x.1.2.2.2.1
 let b_45:=x.1.2.2.2.2
 let EW:=x.2
 bif decide (i_43<b_45) then
  let DW:TF:=((i_43,(),(),a_44,b_45,i_43),EW)
  bif pY GY DW then
   let DX:=oa GY aaZ DW
   let a_50:=(DX.1.2.2).1
   let b_51:=DX.1.2.2.2.1
   let i_52:=DX.1.2.2.2.2
   let pb_53:=DX.2
   some (.inl (((),(IntKind.wrap .i64 (i_52+1)),(),a_50,b_51),pb_53))
  else none
 else
  some (.inr ((),EW))
def Wh.aaY:((Unit)×((List (an.D)))):=default
def Wh.q0 (xs:(List (an.D))×(Int)×(Int)×(Unit)):Option ((Unit)×((List (an.D))×Unit)):=
 let RT:=xs.1
 let a_1:=xs.2.1
 let b_2:=xs.2.2.1
 let O8:TE:=(((),(IntKind.wrap .i64 (a_1+1)),(),a_1,b_2),RT)
 bif pY Gg O8 then
  let y_56:=oa Gg aaY O8
  let QE:=y_56.2
  some ((),QE,())
 else none
abbrev Wh.UN:Type:=((Unit)×(Int)×(Int)×(Unit)×(Bool)×(Bool)×(Int))×((List (an.D)))
abbrev Wh.q1_l0Y:Type:=(((Unit)×((List (an.D)))))
def Wh.OJ (x:UN):Option (UN⊕q1_l0Y):=
 let b_15:=x.1.2.1
 let a_16:=(x.1.2.2).1
 let ak2:=(x.1.2.2.2.2).2.1
 let agt:=(x.1.2.2.2.2).2.2
 let DH:=x.2
 bif decide ((IntKind.wrap .i64 (b_15-a_16))≤12) then
  e_ Wh.q0 (DH,a_16,b_15,()) fun Cs=>
   some (.inr ((),Cs.2.1))
 else
  let th:=agt==0
  bif th then
   none
  else
   bif !ak2 then
    none
   else
    none
def Wh.abX:((Unit)×((List (an.D)))):=default
def Wh.q1 (xs:(List (an.D))×(Int)×(Int)×(Int)×(Unit)):Option ((Unit)×((List (an.D))×Unit)):=
 let RT:=xs.1
 let a_1:=xs.2.1
 let b_2:=xs.2.2.1
 let agu:=(xs.2.2.2).1
 let x_25:UN:=(((),b_2,a_1,(),true,true,agu),RT)
 bif pY OJ x_25 then
  let Ci:=oa OJ abX x_25
  let AB:=Ci.2
  some ((),AB,())
 else none
def Wh.q4 (xs:(List (an.D))×(Unit)):Option ((Unit)×((List (an.D))×Unit)):=
 let Bc:=xs.1
 let v_2:Int:=(↑(List.length Bc):Int)
 let r_3:=zog Wh.bits_Len (IntKind.wrap .u64 v_2)
 let eB:=zog Wh.q1 (Bc,0,v_2,r_3.1,())
 bif jZ [isSm (Wh.q1 (Bc,0,v_2,r_3.1,())),isSm (Wh.bits_Len (IntKind.wrap .u64 v_2))] then
  some ((),eB.2.1,())
 else none
def Wh.q91 (xs:(fe.D)×(Int)×(List UInt8)×(List UInt8)):Option ((((Int)×((List (an.D))×(Unit)))×(Int))×(Unit)):=
 let nc:=xs.1
 let z6:=xs.2.1
 let CG:=xs.2.2.1
 let LA:=xs.2.2.2
 e_ Ht nc fun eB=>
  e_ q21 (z6,CG,LA) fun nG=>
   bif !nG.1 then
    some ((eB.1,1),())
   else
    e_ Gt (nc,z6,CG) fun AM=>
     bif decide (AM.1≥0) then
      some ((eB.1,2),())
     else
      let Bb:Int:=(↑(List.length nc.2.1):Int)
      let Gv:=zog q40 (nc,z6)
      let nI:=bif bif Bb==8 then true else nc.1==99999 then true else decide (IntKind.wrap .i64 (Gv.1+(↑(List.length LA):Int))>500)
      bif jZ [(!!bif Bb==8 then true else nc.1==99999) || isSm (q40 (nc,z6))] then
       bif nI then
        some ((eB.1,4),())
       else
        let Dm:=IntKind.wrap .i64 (eB.1.1+1)
        let Mh:List (an.D):=[(z6,CG,Dm,LA,())]
        let OF:List (an.D):=eB.1.2.1++Mh
        bif jZ [decide (List.length (eB.1.2.1)+(1:Nat)≤eD)] then
         e_ Wh.q4 (OF,()) fun BI=>
          e_ Ht (Dm,BI.2.1,eB.1.2.2) fun Ll=>
           some ((Ll.1,0),())
        else none
      else none
def Wh.q39 (xs:(fe.D)×(List UInt8)):Option ((((Int)×((List (an.D))×(Unit)))×(Bool))×(Unit)):=
 let nc:=xs.1
 let Ce:=xs.2
 e_ Wh.strings_Cut (Ce,[(58:UInt8)]) fun r_2=>
  e_ Wh.strings_Cut (r_2.1.1,[(32:UInt8)]) fun r_3=>
   e_ D9 r_3.1.1 fun eB=>
    let zW:=Ce == []
    let AM:=zog q38 (eB.1.1,r_3.1.2.1,r_2.1.2.1)
    let z8:=bif zW then true else !AM.1==Ce
    bif jZ [!!zW || isSm (q38 (eB.1.1,r_3.1.2.1,r_2.1.2.1))] then
     bif z8 then
      some (((0,[],()),false),())
     else
      e_ q61 (nc,eB.1.1,r_3.1.2.1) fun Bt=>
       bif(!r_2.1.2.1 == []) then
        e_ q91 (nc,eB.1.1,r_3.1.2.1,r_2.1.2.1) fun DP=>
         some ((DP.1.1,(DP.1.2==0)),())
       else
        some ((Bt.1.1,(Bt.1.2==0)),())
    else none
abbrev Wh.Ul:Type:=((Unit)×(Int)×(Unit)×(List (List UInt8))×(Int))×(((Int)×((Unit)×(Unit)))×((Int)×((Unit)×(Unit)))×(List (an.D))×(List (an.D)))
abbrev Wh.aio:Type:=((((Unit)×(Bool))×(((Int)×((Unit)×(Unit)))×(List (an.D))))⊕(((Unit)×(Unit))×(((Int)×((Unit)×(Unit)))×((Int)×((Unit)×(Unit)))×(List (an.D))×(List (an.D)))))
def Wh.ID (x:Ul):Option (Ul⊕aio):=
 let nI:=x.1.2.1
 let z_:=x.1.2.2.2.1
 let w8:=x.1.2.2.2.2
 let AX:=x.2.1.1
 let A4:=x.2.1.2.2
 let BE:=x.2.2.1.1
 let Bf:=(x.2.2.1).2.2
 let As:=(x.2.2.2).1
 let An:=x.2.2.2.2
 bif decide (nI<w8) then
  let s_:=List.getD z_ (Int.toNat nI) []
  bif jZ [decide (0≤nI),decide (nI<(↑(List.length z_):Int))] then
   e_ q39 ((BE,An,Bf),s_) fun Dt=>
    bif(!Dt.1.2) then
     some (.inr (.inl (((),false),(0,(),()),[])))
    else
     some (.inl (((),(IntKind.wrap .i64 (nI+1)),(),z_,w8),(AX,(),A4),(Dt.1.1.1,(),Dt.1.1.2.2),As,(Dt.1.1.2).1))
  else none
 else
  some (.inr (.inr (((),()),(AX,(),A4),(BE,(),Bf),As,An)))
def Wh.aby:(((Unit)×(Bool))×(((Int)×((Unit)×(Unit)))×(List (an.D))))⊕(((Unit)×(Unit))×(((Int)×((Unit)×(Unit)))×((Int)×((Unit)×(Unit)))×(List (an.D))×(List (an.D)))):=.inl default
def Wh.MK (xs:(List (List UInt8))):Option ((((Int)×((List (an.D))×(Unit)))×(Bool))×(Unit)):=
 let QZ:List (List UInt8):=xs
 let v_1:Int:=(↑(List.length QZ):Int)
 let DU:Ul:=(((),0,(),QZ,v_1),(0,(),()),(0,(),()),[],[])
 bif pY ID DU then
  sumC (oa ID aby DU) (fun Dw=>
   let Ch:=Dw.1.2
   let Ai:=Dw.2.1.1
   let Au:=Dw.2.1.2.2
   let DE:=Dw.2.2
   some (((Ai,DE,Au),Ch),())) (fun Pg=>
   let DF:=Pg.2.2.1.1
   let H8:=(Pg.2.2.1).2.2
   let GR:=Pg.2.2.2.2
   some (((DF,GR,H8),true),()))
 else none
abbrev Wh.Ua:Type:=((Int)×(List (an.D))×(List (an.D))×(Int))×(Unit)
abbrev Wh.aic:Type:=((((Bool))×(Unit))⊕((Unit)×(Unit)))
def Wh.Iw (x:Ua):Option (Ua⊕aic):=
 let vT:=x.1.1
 let VL:=x.1.2.1
 let VK:=(x.1.2.2).1
 let z_:=x.1.2.2.2
 bif decide (vT<z_) then
  let je:an.D:=List.getD VK (Int.toNat vT) (0,[],0,[],())
  let lg:an.D:=List.getD VL (Int.toNat vT) (0,[],0,[],())
  bif jZ [decide (0≤vT),decide (vT<(↑(List.length VL):Int)),decide (0≤vT),decide (vT<(↑(List.length VK):Int))] then
   bif(!(je.1==lg.1&&(je.2.1==lg.2.1&&(je.2.2.1==lg.2.2.1&&((je.2.2.2).1==(lg.2.2.2).1&&true))))) then
    some (.inr (.inl (false,())))
   else
    some (.inl (((IntKind.wrap .i64 (vT+1)),VL,VK,z_),()))
  else none
 else
  some (.inr (.inr ((),())))
def Wh.abm:(((Bool))×(Unit))⊕((Unit)×(Unit)):=.inl default
def Wh.q13 (xs:(List (an.D))×(List (an.D))):Option (((Bool))×(Unit)):=
 let s1_0:=xs.1
 let s2_1:=xs.2
 let v_2:Int:=(↑(List.length s1_0):Int)
 let nS:Int:=(↑(List.length s2_1):Int)
 let zV:=v_2 != nS
 bif zV then
  some (false,())
 else
  let x_23:Ua:=((0,s2_1,s1_0,v_2),())
  bif pY Iw x_23 then
   sumC (oa Iw abm x_23) (fun y_24=>
    let s_:=y_24.1
    some (s_,())) (fun _=>
    some (true,()))
  else none
def Wh.Kd (xs:(fe.D)×(fe.D)):Option (((Bool))×(Unit)):=
 let cx:=xs.1
 let b_1:=xs.2
 let v_2:=cx.1==b_1.1
 let r_3:=zog q13 (cx.2.1,b_1.2.1)
 let zW:=bif v_2 then r_3.1 else false
 bif jZ [!v_2 || isSm (q13 (cx.2.1,b_1.2.1))] then
  some (zW,())
 else none
abbrev Wh.U0:Type:=((Int)×(Int)×(Int)×(List (bp.D))×(Int))×(Unit)
abbrev Wh.aiW:Type:=((((Int))×(Unit))⊕((Unit)×(Unit)))
def Wh.IW (x:U0):Option (U0⊕aiW):=
 let vT:=x.1.1
 let Ny:=x.1.2.1
 let JH:=(x.1.2.2).1
 let z_:=x.1.2.2.2.1
 let w8:=x.1.2.2.2.2
 bif decide (vT<w8) then
  let DH:bp.D:=List.getD z_ (Int.toNat vT) (0,0,0,0,false,())
  bif jZ [decide (0≤vT),decide (vT<(↑(List.length z_):Int))] then
   let zK:=bif(DH.2.1==JH) then DH.2.2.1==Ny else false
   bif zK then
    some (.inr (.inl (vT,())))
   else
    some (.inl (((IntKind.wrap .i64 (vT+1)),Ny,JH,z_,w8),()))
  else none
 else
  some (.inr (.inr ((),())))
def Wh.ab9:(((Int))×(Unit))⊕((Unit)×(Unit)):=.inl default
def Wh.Ho (xs:(fT.D)×(Int)×(Int)):Option (((Int))×(Unit)):=
 let fN:=xs.1
 let GK:=xs.2.1
 let RG:=xs.2.2
 let nS:Int:=(↑(List.length fN.1):Int)
 let x_24:U0:=((0,RG,GK,fN.1,nS),())
 bif pY IW x_24 then
  sumC (oa IW ab9 x_24) (fun y_25=>
   let Ev:=y_25.1
   some (Ev,())) (fun _=>
   some (-1,()))
 else none
abbrev Wh.VF:Type:=((Int)×(Int)×(Int)×(List (bp.D))×(Int))×(Unit)
abbrev Wh.ajB:Type:=((((Int))×(Unit)))
def Wh.I9 (x:VF):Option (VF⊕ajB):=
 let Ap:=x.1.1
 let J3:=x.1.2.1
 let JM:=(x.1.2.2).1
 let w8:=x.1.2.2.2.1
 let je:=x.1.2.2.2.2
 bif decide (Ap<je) then
  let J9:bp.D:=List.getD w8 (Int.toNat Ap) (0,0,0,0,false,())
  bif jZ [decide (0≤Ap),decide (Ap<(↑(List.length w8):Int))] then
   let zT:=bif decide (J9.2.1>0) then J9.1==JM else false
   bif zT then
    some (.inl (((IntKind.wrap .i64 (Ap+1)),(IntKind.wrap .i64 (J3+1)),JM,w8,je),()))
   else
    some (.inl (((IntKind.wrap .i64 (Ap+1)),J3,JM,w8,je),()))
  else none
 else
  some (.inr (J3,()))
def Wh.acU:(((Int))×(Unit)):=default
def Wh.q99 (xs:(fT.D)×(Int)):Option (((Int))×(Unit)):=
 let fN:=xs.1
 let z6:=xs.2
 let v_2:Int:=(↑(List.length fN.1):Int)
 let FM:VF:=((0,0,z6,fN.1,v_2),())
 bif pY I9 FM then
  let FQ:=oa I9 acU FM
  let n_29:=FQ.1
  some (n_29,())
 else none
abbrev Wh.T8:Type:=((Int)×(Unit))×((fT.D))
abbrev Wh.ah_:Type:=((((Bool))×(Unit))⊕((Unit)×(Unit)))
def Wh.G8 (x:T8):Option (T8⊕ah_):=
 let Jm:=x.1.1
 let L9:=x.2
 bif decide (Jm<2) then
  e_ q99 (L9,Jm) fun r_64=>
   bif decide (r_64.1>5) then
    some (.inr (.inl (false,())))
   else
    some (.inl (((IntKind.wrap .i64 (Jm+1)),()),L9))
 else
  some (.inr (.inr ((),())))
def Wh.abj:(((Bool))×(Unit))⊕((Unit)×(Unit)):=.inl default
abbrev Wh.T7:Type:=((Int)×(Unit)×(List (bp.D))×(Int))×((fT.D))
abbrev Wh.ah9:Type:=((((Bool))×(Unit))⊕(((Unit))×((fT.D))))
def Wh.G7 (x:T7):Option (T7⊕ah9):=
 let nC:=x.1.1
 let AH:=(x.1.2.2).1
 let zG:=x.1.2.2.2
 let AF:=x.2
 bif decide (nC<zG) then
  let zQ:bp.D:=List.getD AH (Int.toNat nC) (0,0,0,0,false,())
  bif jZ [decide (0≤nC),decide (nC<(↑(List.length AH):Int))] then
   bif(zQ.2.1==0) then
    bif(!(zQ.1==0&&(zQ.2.1==0&&(zQ.2.2.1==0&&((zQ.2.2.2).1==0&&(zQ.2.2.2.2.1==false&&true)))))) then
     some (.inr (.inl (false,())))
    else
     some (.inl (((IntKind.wrap .i64 (nC+1)),(),AH,zG),AF))
   else
    let OS:=zog CI zQ.1
    let Ep:=zog gz (zQ.2.1,1,99999)
    let Cd:=zog gz (zQ.2.2.1,0,23)
    let FG:=zog gz ((zQ.2.2.2).1,0,99999)
    let HB:=zog Ho (AF,zQ.2.1,zQ.2.2.1)
    let Jk:=bif bif bif bif !OS.1 then true else !Ep.1 then true else !Cd.1 then true else !FG.1 then true else HB.1 != nC
    bif jZ [(!!bif bif bif !OS.1 then true else !Ep.1 then true else !Cd.1 then true else !FG.1) || isSm (Ho (AF,zQ.2.1,zQ.2.2.1)),(!!bif bif !OS.1 then true else !Ep.1 then true else !Cd.1) || isSm (gz ((zQ.2.2.2).1,0,99999)),(!!bif !OS.1 then true else !Ep.1) || isSm (gz (zQ.2.2.1,0,23)),!!!OS.1 || isSm (gz (zQ.2.1,1,99999)),isSm (CI zQ.1)] then
     bif Jk then
      some (.inr (.inl (false,())))
     else
      some (.inl (((IntKind.wrap .i64 (nC+1)),(),AH,zG),AF))
    else none
  else none
 else
  some (.inr (.inr ((),AF)))
def Wh.abi:(((Bool))×(Unit))⊕(((Unit))×((fT.D))):=.inl default
def Wh.Kn (xs:(fT.D)):Option (((Bool))×(Unit)):=
 let fN:fT.D:=xs
 let v_1:Int:=(↑(List.length fN.1):Int)
 let eB:=zog gz (fN.2.1,0,7)
 let zW:=bif v_1 != 8 then true else !eB.1
 bif jZ [!!v_1 != 8 || isSm (gz (fN.2.1,0,7))] then
  bif zW then
   some (false,())
  else
   let x_50:T7:=((0,(),fN.1,v_1),fN)
   bif pY G7 x_50 then
    sumC (oa G7 abi x_50) (fun y_51=>
     let BV:=y_51.1
     some (BV,())) (fun z_52=>
     let Df:=z_52.2
     let x_67:T8:=((0,()),Df)
     bif pY G8 x_67 then
      sumC (oa G8 abj x_67) (fun y_68=>
       let FJ:=y_68.1
       some (FJ,())) (fun _=>
       some (true,()))
     else none)
   else none
 else none
def Wh.MY (xs:(an.D)×(Int)):Option (((Bool))×(Unit)):=
 let i_0:=xs.1
 let v_1:=xs.2
 some ((i_0.2.2.1==v_1),())
abbrev Wh.UR:Type:=((Int)×(List (an.D))×((Int)×(Unit))×(Int))×(Unit)
abbrev Wh.q2_l0Y:Type:=((((Int))×(Unit))⊕((Unit)×(Unit)))
def Wh.IS (x:UR):Option (UR⊕q2_l0Y):=
 let By:=x.1.1
 let Lr:=x.1.2.1
 let f_13:=(x.1.2.2).1.1
 let vT:=x.1.2.2.2
 bif decide (By<vT) then
  let nI:an.D:=List.getD Lr (Int.toNat By) (0,[],0,[],())
  let FF:=zog MY (nI,f_13)
  bif jZ [isSm (MY (nI,f_13)),decide (0≤By),decide (By<(↑(List.length Lr):Int))] then
   bif FF.1 then
    some (.inr (.inl (By,())))
   else
    some (.inl (((IntKind.wrap .i64 (By+1)),Lr,(f_13,()),vT),()))
  else none
 else
  some (.inr (.inr ((),())))
def Wh.ab1:(((Int))×(Unit))⊕((Unit)×(Unit)):=.inl default
def Wh.q2 (xs:(List (an.D))×((Int)×(Unit))):Option (((Int))×(Unit)):=
 let cr:=xs.1
 let f_1:=xs.2
 let v_2:Int:=(↑(List.length cr):Int)
 let x_19:UR:=((0,cr,(f_1.1,()),v_2),())
 bif pY IS x_19 then
  sumC (oa IS ab1 x_19) (fun y_20=>
   let zK:=y_20.1
   some (zK,())) (fun _=>
   some (-1,()))
 else none
def Wh.Gm (xs:(fe.D)×(Int)):Option (((Int))×(Unit)):=
 let nc:=xs.1
 let GK:=xs.2
 e_ Wh.q2 (nc.2.1,GK,()) fun r_2=>
  some (r_2.1,())
def Wh.BH (xs:(gv.D)):Option (((Int))×(Unit)):=
 let fN:gv.D:=xs
 bif jZ [fN.2.1 != 0] then
  some ((IntKind.wrap .i64 (Int.tdiv (IntKind.wrap .i64 ((IntKind.wrap .i64 (fN.1+fN.2.1))-1)) fN.2.1)),())
 else none
abbrev Wh.VC:Type:=((Unit)×(Unit))×(((Int)×((Int)×((Unit)×((Unit)×(Unit)))))×((Int)×((Int)×((Unit)×((Unit)×(Unit)))))×(List (Int))×(List (Int))×(List (Int))×(List (Int)))
abbrev Wh.ajy:Type:=((((Unit)×(Unit))×(((Int)×((Int)×((Unit)×((Unit)×(Unit)))))×((Int)×((Int)×((Unit)×((Unit)×(Unit)))))×(List (Int))×(List (Int))×(List (Int))×(List (Int)))))
def Wh.OM (x:VC):Option (VC⊕ajy):=
 let zY:=x.2.1.1
 let F8:=(x.2.1.2).1
 let AL:=(x.2.1.2.2.2).2
 let y4:=x.2.2.1.1
 let AX:=(x.2.2.1).2.1
 let A4:=(x.2.2.1).2.2.2.2
 let BE:=(x.2.2.2).1
 let Bf:=x.2.2.2.2.1
 let As:=(x.2.2.2.2.2).1
 let An:=(x.2.2.2.2.2).2
 e_ BH (zY,F8,BE,Bf,AL) fun Dr=>
  bif decide (Dr.1>24) then
   some (.inl (((),()),(zY,(IntKind.wrap .i64 (F8+1)),(),(),AL),(y4,AX,(),(),A4),BE,Bf,As,An))
  else
   some (.inr (((),()),(y4,AX,(),(),A4),(zY,F8,(),(),AL),As,An,BE,Bf))
def Wh.acR:(((Unit)×(Unit))×(((Int)×((Int)×((Unit)×((Unit)×(Unit)))))×((Int)×((Int)×((Unit)×((Unit)×(Unit)))))×(List (Int))×(List (Int))×(List (Int))×(List (Int)))):=default
def Wh.C6 (xs:(Int)):Option ((((Int)×((Int)×((List (Int))×((List (Int))×(Unit))))))×(Unit)):=
 let Qb:=xs
 e_ gz (Qb,1,300) fun r_1=>
  bif !r_1.1 then
   some ((0,0,[],[],()),())
  else
   let DT:VC:=(((),()),(Qb,8,(),(),()),(0,0,(),(),()),[],[],[],[])
   bif pY OM DT then
    let Cw:=oa OM acR DT
    let AY:=Cw.2.2.1.1
    let Ai:=(Cw.2.2.1).2.1
    let Au:=(Cw.2.2.1).2.2.2.2
    let Ad:=(Cw.2.2.2.2.2).1
    let DF:=(Cw.2.2.2.2.2).2
    e_ BH (AY,Ai,Ad,DF,Au) fun M4=>
     let k_43:=IntKind.wrap .i64 (Int.tdiv (IntKind.wrap .i64 (M4.1+3)) 4)
     bif decide (k_43<M4.1) then
      let Tz:List Int:=[k_43,M4.1]
      some ((AY,Ai,Tz,[(2:Int),3],Au),())
     else
      let EW:List Int:=[M4.1]
      some ((AY,Ai,EW,[(1:Int)],Au),())
   else none
abbrev Wh.Ve:Type:=((Int)×(Unit)×(List (bp.D))×(Int))×((fe.D))
abbrev Wh.aja:Type:=((((Bool))×(Unit))⊕((Unit)×(Unit)))
def Wh.E4 (x:Ve):Option (Ve⊕aja):=
 let th:=x.1.1
 let CL:=(x.1.2.2).1
 let s_:=x.1.2.2.2
 let zC:=x.2
 bif decide (th<s_) then
  let Ao:bp.D:=List.getD CL (Int.toNat th) (0,0,0,0,false,())
  bif jZ [decide (0≤th),decide (th<(↑(List.length CL):Int))] then
   bif(Ao.2.1==0) then
    some (.inl (((IntKind.wrap .i64 (th+1)),(),CL,s_),zC))
   else
    e_ Gm (zC,Ao.2.1) fun zD=>
     let Cu:=zog C6 (↑(List.length (((((List.getD zC.2.1 (Int.toNat zD.1) (0,[],0,[],())).2).2).2).1)):Int)
     let zL:=decide ((Ao.2.2.2).1>0)
     let Cd:=zog BH (Cu.1.1,Cu.1.2.1,bif !bif bif zL then true else decide (zD.1<0) then true else(List.getD zC.2.1 (Int.toNat zD.1) (0,[],0,[],())).1 != Ao.1 then(Cu.1.2.2).1 else [],bif !bif bif zL then true else decide (zD.1<0) then true else(List.getD zC.2.1 (Int.toNat zD.1) (0,[],0,[],())).1 != Ao.1 then Cu.1.2.2.2.1 else [],Cu.1.2.2.2.2)
     let Fb:=bif bif bif zL then true else decide (zD.1<0) then true else(List.getD zC.2.1 (Int.toNat zD.1) (0,[],0,[],())).1 != Ao.1 then true else decide (Ao.2.2.1≥Cd.1)
     bif jZ [(!!bif bif zL then true else decide (zD.1<0) then true else(List.getD zC.2.1 (Int.toNat zD.1) (0,[],0,[],())).1 != Ao.1) || isSm (BH (Cu.1.1,Cu.1.2.1,bif !bif bif zL then true else decide (zD.1<0) then true else(List.getD zC.2.1 (Int.toNat zD.1) (0,[],0,[],())).1 != Ao.1 then(Cu.1.2.2).1 else [],bif !bif bif zL then true else decide (zD.1<0) then true else(List.getD zC.2.1 (Int.toNat zD.1) (0,[],0,[],())).1 != Ao.1 then Cu.1.2.2.2.1 else [],Cu.1.2.2.2.2)),(!!bif bif zL then true else decide (zD.1<0) then true else(List.getD zC.2.1 (Int.toNat zD.1) (0,[],0,[],())).1 != Ao.1) || isSm (C6 (↑(List.length (((((List.getD zC.2.1 (Int.toNat zD.1) (0,[],0,[],())).2).2).2).1)):Int)),(!!bif bif zL then true else decide (zD.1<0) then true else(List.getD zC.2.1 (Int.toNat zD.1) (0,[],0,[],())).1 != Ao.1) || decide (0≤zD.1),(!!bif bif zL then true else decide (zD.1<0) then true else(List.getD zC.2.1 (Int.toNat zD.1) (0,[],0,[],())).1 != Ao.1) || decide (zD.1<(↑(List.length zC.2.1):Int)),(!!bif zL then true else decide (zD.1<0)) || decide (0≤zD.1),(!!bif zL then true else decide (zD.1<0)) || decide (zD.1<(↑(List.length zC.2.1):Int))] then
      bif Fb then
       some (.inr (.inl (false,())))
      else
       some (.inl (((IntKind.wrap .i64 (th+1)),(),CL,s_),zC))
     else none
  else none
 else
  some (.inr (.inr ((),())))
def Wh.acr:(((Bool))×(Unit))⊕((Unit)×(Unit)):=.inl default
def Wh.q68 (xs:(fT.D)×(fe.D)):Option (((Bool))×(Unit)):=
 let fN:=xs.1
 let c_1:=xs.2
 e_ Kn fN fun r_2=>
  bif !r_2.1 then
   some (false,())
  else
   let nS:Int:=(↑(List.length fN.1):Int)
   let x_44:Ve:=((0,(),fN.1,nS),c_1)
   bif pY E4 x_44 then
    sumC (oa E4 acr x_44) (fun y_45=>
     let v_47:=y_45.1
     some (v_47,())) (fun _=>
     some (true,()))
   else none
def Wh.Hr (xs:(di.D)):Option (((Bool))×(Unit)):=
 let wh:di.D:=xs
 let r_1:=zog gz (wh.2.1,0,99999)
 let r_2:=zog gz (wh.2.2.1,0,99999)
 let nG:=zog gz (wh.1,0,wh.2.1)
 let Bt:=zog gz ((wh.2.2.2).1,0,99999)
 let Cg:=bif bif bif r_1.1 then r_2.1 else false then nG.1 else false then Bt.1 else false
 bif jZ [(!bif bif r_1.1 then r_2.1 else false then nG.1 else false) || isSm (gz ((wh.2.2.2).1,0,99999)),(!bif r_1.1 then r_2.1 else false) || isSm (gz (wh.1,0,wh.2.1)),!r_1.1 || isSm (gz (wh.2.2.1,0,99999)),isSm (gz (wh.2.1,0,99999))] then
  some (Cg,())
 else none
def Wh.q66 (xs:(Int)):Option (((Bool))×(Unit)):=
 let AA:=xs
 e_ gz (AA,0,3) fun r_1=>
  some (r_1.1,())
def Wh.Im (xs:(Int)):Option (((Int))×(Unit)):=
 let Nz:=xs
 some ((Int.tmod Nz 2),())
abbrev Wh.Vd:Type:=((Int)×(Unit)×(List (bx.D))×(Int))×((eA.D))
abbrev Wh.ai_:Type:=((((Bool))×(Unit))⊕((Unit)×(Unit)))
def Wh.Hs (x:Vd):Option (Vd⊕ai_):=
 let Fe:=x.1.1
 let Nj:=(x.1.2.2).1
 let Rf:=x.1.2.2.2
 let CF:=x.2
 bif decide (Fe<Rf) then
  let B9:bx.D:=List.getD Nj (Int.toNat Fe) (0,0,0,0,0,0,())
  bif jZ [decide (0≤Fe),decide (Fe<(↑(List.length Nj):Int))] then
   let Nk:=decide (Fe>0)
   let OU:=zog q66 B9.1
   let QM:=zog gz (B9.2.1,1,99999)
   let VG:=zog gz (B9.2.2.1,1,(CF.2.2.2).1.1)
   let v_104:=bif bif bif bif Nk then decide ((List.getD ((CF.2.2.2.2.2).2.1) (Int.toNat (IntKind.wrap .i64 (Fe-1))) (0,0,0,0,0,0,())).1≥B9.1) else false then true else !OU.1 then true else !QM.1 then true else !VG.1
   bif jZ [(!!bif bif bif Nk then decide ((List.getD ((CF.2.2.2.2.2).2.1) (Int.toNat (IntKind.wrap .i64 (Fe-1))) (0,0,0,0,0,0,())).1≥B9.1) else false then true else !OU.1 then true else !QM.1) || isSm (gz (B9.2.2.1,1,(CF.2.2.2).1.1)),(!!bif bif Nk then decide ((List.getD ((CF.2.2.2.2.2).2.1) (Int.toNat (IntKind.wrap .i64 (Fe-1))) (0,0,0,0,0,0,())).1≥B9.1) else false then true else !OU.1) || isSm (gz (B9.2.1,1,99999)),(!!bif Nk then decide ((List.getD ((CF.2.2.2.2.2).2.1) (Int.toNat (IntKind.wrap .i64 (Fe-1))) (0,0,0,0,0,0,())).1≥B9.1) else false) || isSm (q66 B9.1),!Nk || decide (0≤IntKind.wrap .i64 (Fe-1)),!Nk || decide (IntKind.wrap .i64 (Fe-1)<(↑(List.length ((CF.2.2.2.2.2).2.1)):Int))] then
    bif v_104 then
     some (.inr (.inl (false,())))
    else
     e_ Gm ((CF.2.2.2).1,B9.2.2.1) fun QN=>
      let Q9:=decide (QN.1≥0)
      let r_107:=zog Im B9.1
      let Gz:=bif Q9 then(List.getD ((CF.2.2.2).1.2.1) (Int.toNat QN.1) (0,[],0,[],())).1 != r_107.1 else false
      bif jZ [!Q9 || isSm (Im B9.1),!Q9 || decide (0≤QN.1),!Q9 || decide (QN.1<(↑(List.length ((CF.2.2.2).1.2.1)):Int))] then
       bif Gz then
        some (.inr (.inl (false,())))
       else
        let OO:=zog gz ((B9.2.2.2).1,0,9999)
        let r_110:=zog gz (B9.2.2.2.2.1,0,3)
        let r_113:=zog gz ((B9.2.2.2.2.2).1,0,CF.2.1)
        let v_114:=bif bif !OO.1 then true else !r_110.1 then true else !r_113.1
        bif jZ [(!!bif !OO.1 then true else !r_110.1) || isSm (gz ((B9.2.2.2.2.2).1,0,CF.2.1)),!!!OO.1 || isSm (gz (B9.2.2.2.2.1,0,3)),isSm (gz ((B9.2.2.2).1,0,9999))] then
         bif v_114 then
          some (.inr (.inl (false,())))
         else
          some (.inl (((IntKind.wrap .i64 (Fe+1)),(),Nj,Rf),CF))
        else none
      else none
   else none
  else none
 else
  some (.inr (.inr ((),())))
def Wh.acq:(((Bool))×(Unit))⊕((Unit)×(Unit)):=.inl default
abbrev Wh.Vc:Type:=((Int)×(Unit)×(List (di.D))×(Int))×((eA.D))
abbrev Wh.ai9:Type:=((((Bool))×(Unit))⊕(((Unit))×((eA.D))))
def Wh.I1 (x:Vc):Option (Vc⊕ai9):=
 let Ew:=x.1.1
 let Fb:=(x.1.2.2).1
 let Ey:=x.1.2.2.2
 let H_:=x.2
 bif decide (Ew<Ey) then
  let EW:di.D:=List.getD Fb (Int.toNat Ew) (0,0,0,0,())
  bif jZ [decide (0≤Ew),decide (Ew<(↑(List.length Fb):Int))] then
   let HB:=zog Hr EW
   let Ni:=bif bif bif !HB.1 then true else EW.2.1 != 40 then true else EW.2.2.1 != 8 then true else decide ((EW.2.2.2).1>H_.2.1)
   bif jZ [isSm (Hr EW)] then
    bif Ni then
     some (.inr (.inl (false,())))
    else
     some (.inl (((IntKind.wrap .i64 (Ew+1)),(),Fb,Ey),H_))
   else none
  else none
 else
  some (.inr (.inr ((),H_)))
def Wh.acp:(((Bool))×(Unit))⊕(((Unit))×((eA.D))):=.inl default
def Wh.q65 (xs:(eA.D)):Option (((Bool))×(Unit)):=
 let cr:eA.D:=xs
 let r_1:=zog gz (cr.2.1,0,99999)
 let v_2:=bif !r_1.1 then true else decide ((↑(List.length (cr.2.2.1)):Int)>9000)
 bif jZ [isSm (gz (cr.2.1,0,99999))] then
  bif v_2 then
   some (false,())
  else
   e_ q95 (cr.2.2.1) fun r_3=>
    e_ MK r_3.1.1 fun eB=>
     bif(!eB.1.2) then
      some (false,())
     else
      bif(!cr.1) then
       let z8:Bool:=(cr.2.2.2).1.1==0
       let aht:=bif bif bif z8 then(↑(List.length ((cr.2.2.2).1.2.1)):Int)==0 else false then(↑(List.length ((cr.2.2.2.2.1).1)):Int)==0 else false then(cr.2.2.2.2.1).2.1==0 else false
       let vT:=bif aht then(↑(List.length ((cr.2.2.2.2.2).1)):Int)==0 else false
       let nI:=bif vT then(↑(List.length ((cr.2.2.2.2.2).2.1)):Int)==0 else false
       some (nI,())
      else
       let z_:Int:=(↑(List.length (cr.2.2.1)):Int)
       let BI:=zog Kd (eB.1.1,(cr.2.2.2).1)
       let Cs:=zog q68 (cr.2.2.2.2.1,(cr.2.2.2).1)
       let s_:=bif bif bif r_3.1.2 != z_ then true else !BI.1 then true else !Cs.1 then true else(↑(List.length ((cr.2.2.2.2.2).1)):Int) != 2
       bif jZ [(!!bif r_3.1.2 != z_ then true else !BI.1) || isSm (q68 (cr.2.2.2.2.1,(cr.2.2.2).1)),!!r_3.1.2 != z_ || isSm (Kd (eB.1.1,(cr.2.2.2).1))] then
        bif s_ then
         some (false,())
        else
         let Ev:Int:=(↑(List.length ((cr.2.2.2.2.2).1)):Int)
         let x_54:Vc:=((0,(),(cr.2.2.2.2.2).1,Ev),cr)
         bif pY I1 x_54 then
          sumC (oa I1 acp x_54) (fun y_55=>
           let LC:=y_55.1
           some (LC,())) (fun z_56=>
           let B6:=z_56.2
           let O2:Int:=(↑(List.length ((B6.2.2.2.2.2).2.1)):Int)
           let x_116:Vd:=((0,(),(B6.2.2.2.2.2).2.1,O2),B6)
           bif pY Hs x_116 then
            sumC (oa Hs acq x_116) (fun y_117=>
             let Q_:=y_117.1
             some (Q_,())) (fun _=>
             some (true,()))
           else none)
         else none
       else none
 else none
def Wh.Kr (xs:(an.D)×(an.D)):Option (((Bool))×(Unit)):=
 let cx:=xs.1
 let b_1:=xs.2
 bif(cx.1 != b_1.1) then
  some (false,())
 else
  bif(!cx.2.1==b_1.2.1) then
   some (false,())
  else
   bif(cx.2.2.1 != b_1.2.2.1) then
    some (false,())
   else
    bif(!(cx.2.2.2).1==(b_1.2.2.2).1) then
     some (false,())
    else
     some (true,())
abbrev Wh.TJ:Type:=((Int)×(List (an.D))×(List (an.D)))×(Unit)
abbrev Wh.ahQ:Type:=((((Bool))×(Unit))⊕((Unit)×(Unit)))
def Wh.Mm (x:TJ):Option (TJ⊕ahQ):=
 let ia:=x.1.1
 let B3:=x.1.2.1
 let BZ:=x.1.2.2
 let w8:Int:=(↑(List.length BZ):Int)
 bif decide (ia<w8) then
  let lg:an.D:=List.getD BZ (Int.toNat ia) (0,[],0,[],())
  let qe:an.D:=List.getD B3 (Int.toNat ia) (0,[],0,[],())
  let Cs:=zog Kr (lg,qe)
  bif jZ [isSm (Kr (lg,qe)),decide (0≤ia),decide (ia<(↑(List.length B3):Int)),decide (0≤ia),decide (ia<w8)] then
   bif !Cs.1 then
    some (.inr (.inl (false,())))
   else
    some (.inl (((IntKind.wrap .i64 (ia+1)),B3,BZ),()))
  else none
 else
  some (.inr (.inr ((),())))
def Wh.aa2:(((Bool))×(Unit))⊕((Unit)×(Unit)):=.inl default
def Wh.Ml (xs:(List (an.D))×(List (an.D))):Option (((Bool))×(Unit)):=
 let cx:=xs.1
 let b_1:=xs.2
 let v_2:Int:=(↑(List.length cx):Int)
 let nS:Int:=(↑(List.length b_1):Int)
 let zV:=v_2 != nS
 bif zV then
  some (false,())
 else
  let x_25:TJ:=((0,b_1,cx),())
  bif pY Mm x_25 then
   sumC (oa Mm aa2 x_25) (fun Ci=>
    let nC:=Ci.1
    some (nC,())) (fun _=>
    some (true,()))
  else none
def Wh.MM (xs:(fe.D)×(fe.D)):Option (((Bool))×(Unit)):=
 let cx:=xs.1
 let b_1:=xs.2
 bif(cx.1 != b_1.1) then
  some (false,())
 else
  e_ Ml (cx.2.1,b_1.2.1) fun r_3=>
   bif !r_3.1 then
    some (false,())
   else
    some (true,())
def Wh.Ke (xs:(bp.D)×(bp.D)):Option (((Bool))×(Unit)):=
 let cx:=xs.1
 let b_1:=xs.2
 bif(cx.1 != b_1.1) then
  some (false,())
 else
  bif(cx.2.1 != b_1.2.1) then
   some (false,())
  else
   bif(cx.2.2.1 != b_1.2.2.1) then
    some (false,())
   else
    let zW:Bool:=(cx.2.2.2).1 != (b_1.2.2.2).1
    bif zW then
     some (false,())
    else
     bif(!cx.2.2.2.2.1==b_1.2.2.2.2.1) then
      some (false,())
     else
      some (true,())
abbrev Wh.Vm:Type:=((Int)×(List (bp.D))×(List (bp.D)))×(Unit)
abbrev Wh.aji:Type:=((((Bool))×(Unit))⊕((Unit)×(Unit)))
def Wh.MV (x:Vm):Option (Vm⊕aji):=
 let ia:=x.1.1
 let B3:=x.1.2.1
 let BZ:=x.1.2.2
 let w8:Int:=(↑(List.length BZ):Int)
 bif decide (ia<w8) then
  let lg:bp.D:=List.getD BZ (Int.toNat ia) (0,0,0,0,false,())
  let qe:bp.D:=List.getD B3 (Int.toNat ia) (0,0,0,0,false,())
  let Cs:=zog Ke (lg,qe)
  bif jZ [isSm (Ke (lg,qe)),decide (0≤ia),decide (ia<(↑(List.length B3):Int)),decide (0≤ia),decide (ia<w8)] then
   bif !Cs.1 then
    some (.inr (.inl (false,())))
   else
    some (.inl (((IntKind.wrap .i64 (ia+1)),B3,BZ),()))
  else none
 else
  some (.inr (.inr ((),())))
def Wh.acB:(((Bool))×(Unit))⊕((Unit)×(Unit)):=.inl default
def Wh.q71 (xs:(List (bp.D))×(List (bp.D))):Option (((Bool))×(Unit)):=
 let cx:=xs.1
 let b_1:=xs.2
 let v_2:Int:=(↑(List.length cx):Int)
 let nS:Int:=(↑(List.length b_1):Int)
 let zV:=v_2 != nS
 bif zV then
  some (false,())
 else
  let x_25:Vm:=((0,b_1,cx),())
  bif pY MV x_25 then
   sumC (oa MV acB x_25) (fun Ci=>
    let nC:=Ci.1
    some (nC,())) (fun _=>
    some (true,()))
  else none
def Wh.ME (xs:(fT.D)×(fT.D)):Option (((Bool))×(Unit)):=
 let cx:=xs.1
 let b_1:=xs.2
 e_ q71 (cx.1,b_1.1) fun r_2=>
  bif !r_2.1 then
   some (false,())
  else
   bif(cx.2.1 != b_1.2.1) then
    some (false,())
   else
    some (true,())
def Wh.q70 (xs:(di.D)×(di.D)):Option (((Bool))×(Unit)):=
 let cx:=xs.1
 let b_1:=xs.2
 bif(cx.1 != b_1.1) then
  some (false,())
 else
  bif(cx.2.1 != b_1.2.1) then
   some (false,())
  else
   bif(cx.2.2.1 != b_1.2.2.1) then
    some (false,())
   else
    let zW:Bool:=(cx.2.2.2).1 != (b_1.2.2.2).1
    bif zW then
     some (false,())
    else
     some (true,())
abbrev Wh.U2:Type:=((Int)×(List (di.D))×(List (di.D)))×(Unit)
abbrev Wh.aiY:Type:=((((Bool))×(Unit))⊕((Unit)×(Unit)))
def Wh.MS (x:U2):Option (U2⊕aiY):=
 let ia:=x.1.1
 let B3:=x.1.2.1
 let BZ:=x.1.2.2
 let w8:Int:=(↑(List.length BZ):Int)
 bif decide (ia<w8) then
  let lg:di.D:=List.getD BZ (Int.toNat ia) (0,0,0,0,())
  let qe:di.D:=List.getD B3 (Int.toNat ia) (0,0,0,0,())
  let Cs:=zog q70 (lg,qe)
  bif jZ [isSm (q70 (lg,qe)),decide (0≤ia),decide (ia<(↑(List.length B3):Int)),decide (0≤ia),decide (ia<w8)] then
   bif !Cs.1 then
    some (.inr (.inl (false,())))
   else
    some (.inl (((IntKind.wrap .i64 (ia+1)),B3,BZ),()))
  else none
 else
  some (.inr (.inr ((),())))
def Wh.acd:(((Bool))×(Unit))⊕((Unit)×(Unit)):=.inl default
def Wh.q45 (xs:(List (di.D))×(List (di.D))):Option (((Bool))×(Unit)):=
 let cx:=xs.1
 let b_1:=xs.2
 let v_2:Int:=(↑(List.length cx):Int)
 let nS:Int:=(↑(List.length b_1):Int)
 let zV:=v_2 != nS
 bif zV then
  some (false,())
 else
  let x_25:U2:=((0,b_1,cx),())
  bif pY MS x_25 then
   sumC (oa MS acd x_25) (fun Ci=>
    let nC:=Ci.1
    some (nC,())) (fun _=>
    some (true,()))
  else none
def Wh.Kf (xs:(bx.D)×(bx.D)):Option (((Bool))×(Unit)):=
 let cx:=xs.1
 let b_1:=xs.2
 bif(cx.1 != b_1.1) then
  some (false,())
 else
  bif(cx.2.1 != b_1.2.1) then
   some (false,())
  else
   bif(cx.2.2.1 != b_1.2.2.1) then
    some (false,())
   else
    let zW:Bool:=(cx.2.2.2).1 != (b_1.2.2.2).1
    bif zW then
     some (false,())
    else
     bif(cx.2.2.2.2.1 != b_1.2.2.2.2.1) then
      some (false,())
     else
      let z8:Bool:=(cx.2.2.2.2.2).1 != (b_1.2.2.2.2.2).1
      bif z8 then
       some (false,())
      else
       some (true,())
abbrev Wh.Vn:Type:=((Int)×(List (bx.D))×(List (bx.D)))×(Unit)
abbrev Wh.ajj:Type:=((((Bool))×(Unit))⊕((Unit)×(Unit)))
def Wh.MW (x:Vn):Option (Vn⊕ajj):=
 let ia:=x.1.1
 let B3:=x.1.2.1
 let BZ:=x.1.2.2
 let w8:Int:=(↑(List.length BZ):Int)
 bif decide (ia<w8) then
  let lg:bx.D:=List.getD BZ (Int.toNat ia) (0,0,0,0,0,0,())
  let qe:bx.D:=List.getD B3 (Int.toNat ia) (0,0,0,0,0,0,())
  let Cs:=zog Kf (lg,qe)
  bif jZ [isSm (Kf (lg,qe)),decide (0≤ia),decide (ia<(↑(List.length B3):Int)),decide (0≤ia),decide (ia<w8)] then
   bif !Cs.1 then
    some (.inr (.inl (false,())))
   else
    some (.inl (((IntKind.wrap .i64 (ia+1)),B3,BZ),()))
  else none
 else
  some (.inr (.inr ((),())))
def Wh.acC:(((Bool))×(Unit))⊕((Unit)×(Unit)):=.inl default
def Wh.q72 (xs:(List (bx.D))×(List (bx.D))):Option (((Bool))×(Unit)):=
 let cx:=xs.1
 let b_1:=xs.2
 let v_2:Int:=(↑(List.length cx):Int)
 let nS:Int:=(↑(List.length b_1):Int)
 let zV:=v_2 != nS
 bif zV then
  some (false,())
 else
  let x_25:Vn:=((0,b_1,cx),())
  bif pY MW x_25 then
   sumC (oa MW acC x_25) (fun Ci=>
    let nC:=Ci.1
    some (nC,())) (fun _=>
    some (true,()))
  else none
def Wh.Eo (xs:(eA.D)×(eA.D)):Option (((Bool))×(Unit)):=
 let cx:=xs.1
 let b_1:=xs.2
 bif(!cx.1==b_1.1) then
  some (false,())
 else
  bif(cx.2.1 != b_1.2.1) then
   some (false,())
  else
   bif(!cx.2.2.1==b_1.2.2.1) then
    some (false,())
   else
    e_ MM ((cx.2.2.2).1,(b_1.2.2.2).1) fun nG=>
     bif !nG.1 then
      some (false,())
     else
      e_ ME (cx.2.2.2.2.1,b_1.2.2.2.2.1) fun AM=>
       bif !AM.1 then
        some (false,())
       else
        e_ q45 ((cx.2.2.2.2.2).1,(b_1.2.2.2.2.2).1) fun Cv=>
         bif !Cv.1 then
          some (false,())
         else
          e_ q72 ((cx.2.2.2.2.2).2.1,(b_1.2.2.2.2.2).2.1) fun Bt=>
           bif !Bt.1 then
            some (false,())
           else
            some (true,())
def Wh.Gh (xs:(fT.D)):Option ((((List (bp.D))×((Int)×(Unit))))×(Unit)):=
 let fN:fT.D:=xs
 let BG:List (bp.D):=[]++fN.1
 bif jZ [decide ((0:Nat)+List.length fN.1≤eD)] then
  some ((BG,fN.2),())
 else none
def Wh.Mw (xs:(eA.D)):Option ((((Bool)×((Int)×((List UInt8)×(((Int)×((List (an.D))×(Unit)))×(((List (bp.D))×((Int)×(Unit)))×((List (di.D))×((List (bx.D))×(Unit)))))))))×(Unit)):=
 let cr:eA.D:=xs
 e_ Gn ((cr.2.2.2).1) fun r_1=>
  e_ Gh (cr.2.2.2.2.1) fun r_2=>
   let ET:List (di.D):=[]++(cr.2.2.2.2.2).1
   bif jZ [decide ((0:Nat)+List.length ((cr.2.2.2.2.2).1)≤eD)] then
    let Fy:List (bx.D):=[]++(cr.2.2.2.2.2).2.1
    bif jZ [decide ((0:Nat)+List.length ((cr.2.2.2.2.2).2.1)≤eD)] then
     some ((cr.1,cr.2.1,cr.2.2.1,r_1.1,r_2.1,ET,Fy,(cr.2.2.2.2.2).2.2),())
    else none
   else none
def Wh.q43 (xs:(fT.D)):Option ((((List (bp.D))×((Int)×(Unit))))×(Unit)):=
 let fN:fT.D:=xs
 let BG:List (bp.D):=[]++fN.1
 bif jZ [decide ((0:Nat)+List.length fN.1≤eD)] then
  some ((BG,fN.2.1,()),())
 else none
def Wh.q20 (xs:(eA.D)):Option ((((Bool)×((Int)×((List UInt8)×(((Int)×((List (an.D))×(Unit)))×(((List (bp.D))×((Int)×(Unit)))×((List (di.D))×((List (bx.D))×(Unit)))))))))×(Unit)):=
 let cr:eA.D:=xs
 e_ Ht ((cr.2.2.2).1) fun r_1=>
  e_ q43 (cr.2.2.2.2.1) fun r_2=>
   let ET:List (di.D):=[]++(cr.2.2.2.2.2).1
   bif jZ [decide ((0:Nat)+List.length ((cr.2.2.2.2.2).1)≤eD)] then
    let Fy:List (bx.D):=[]++(cr.2.2.2.2.2).2.1
    bif jZ [decide ((0:Nat)+List.length ((cr.2.2.2.2.2).2.1)≤eD)] then
     some ((cr.1,cr.2.1,cr.2.2.1,r_1.1,r_2.1,ET,Fy,(cr.2.2.2.2.2).2.2),())
    else none
   else none
abbrev Wh.Vo:Type:=((Int)×(List UInt8))×(Unit)
abbrev Wh.ajk:Type:=((((List UInt8))×(Unit)))
def Wh.Le (x:Vo):Option (Vo⊕ajk):=
 let k_12:=x.1.1
 let Tr:=x.1.2
 bif decide (k_12>0) then
  let pb_15:List Int:=[IntKind.wrap .u8 (IntKind.wrap .i64 (48+Int.tmod k_12 10))]
  let out_20:List UInt8:=sM pb_15++Tr
  bif jZ [decide ((1:Nat)+List.length Tr≤eD),true] then
   some (.inl (((IntKind.wrap .i64 (Int.tdiv k_12 10)),out_20),()))
  else none
 else
  some (.inr (Tr,()))
def Wh.acD:(((List UInt8))×(Unit)):=default
def Wh.A8 (xs:(Int)):Option (((List UInt8))×(Unit)):=
 let k_0:=xs
 bif decide (k_0≤0) then
  some ([(109:UInt8),(48:UInt8)],())
 else
  let x_22:Vo:=((k_0,[]),())
  bif pY Le x_22 then
   let HP:=oa Le acD x_22
   let aaK:=HP.1
   let CL:List UInt8:=[(109:UInt8)]++aaK
   bif jZ [decide ((1:Nat)+List.length aaK≤eD)] then
    some (CL,())
   else none
  else none
abbrev Wh.U5:Type:=((Int)×(Unit)×(Int))×((List (an.D)))
abbrev Wh.ai1:Type:=((((Int))×((List (an.D)))))
def Wh.K8 (x:U5):Option (U5⊕ai1):=
 let Am:=x.1.1
 let JS:=x.1.2.2
 let DH:=x.2
 let qe:Int:=(↑(List.length DH):Int)
 bif decide (Am<qe) then
  let DJ:List (an.D):=List.set DH (Int.toNat Am) (JS,(List.getD DH (Int.toNat Am) (0,[],0,[],())).2)
  bif jZ [decide (0≤Am),decide (Am<qe)] then
   let th:=IntKind.wrap .i64 (JS+1)
   let Dr:=zog A8 th
   let ES:List (an.D):=List.set DJ (Int.toNat Am) ((List.getD DJ (Int.toNat Am) (0,[],0,[],())).1,Dr.1,((List.getD DJ (Int.toNat Am) (0,[],0,[],())).2).2)
   bif jZ [decide (0≤Am),decide (Am<(↑(List.length DJ):Int)),isSm (A8 th)] then
    let Ev:=IntKind.wrap .i64 (th+1)
    let Dn:List (an.D):=List.set ES (Int.toNat Am) ((List.getD ES (Int.toNat Am) (0,[],0,[],())).1,((List.getD ES (Int.toNat Am) (0,[],0,[],())).2).1,Ev,(((List.getD ES (Int.toNat Am) (0,[],0,[],())).2).2).2)
    bif jZ [decide (0≤Am),decide (Am<(↑(List.length ES):Int))] then
     let AH:=IntKind.wrap .i64 (Ev+1)
     let M3:=zog A8 AH
     let n_:List (an.D):=List.set Dn (Int.toNat Am) ((List.getD Dn (Int.toNat Am) (0,[],0,[],())).1,((List.getD Dn (Int.toNat Am) (0,[],0,[],())).2).1,(((List.getD Dn (Int.toNat Am) (0,[],0,[],())).2).2).1,M3.1,((((List.getD Dn (Int.toNat Am) (0,[],0,[],())).2).2).2).2)
     bif jZ [decide (0≤Am),decide (Am<(↑(List.length Dn):Int)),isSm (A8 AH)] then
      some (.inl (((IntKind.wrap .i64 (Am+1)),(),(IntKind.wrap .i64 (AH+1))),n_))
     else none
    else none
   else none
  else none
 else
  some (.inr (JS,DH))
def Wh.acg:(((Int))×((List (an.D)))):=default
def Wh.q48 (xs:(List (an.D))×(Int)):Option (((Int))×((List (an.D))×Unit)):=
 let cx:=xs.1
 let k_1:=xs.2
 let Jp:U5:=((0,(),k_1),cx)
 bif pY K8 Jp then
  let Nq:=oa K8 acg Jp
  let k_36:=Nq.1
  let EU:=Nq.2
  some (k_36,EU,())
 else none
def Wh.Mp (xs:(fe.D)×(Int)):Option (((Int))×((fe.D)×Unit)):=
 let cx:=xs.1
 let k_1:=xs.2
 e_ q48 (cx.2.1,k_1) fun r_2=>
  some (r_2.1,(cx.1,r_2.2.1,cx.2.2),())
abbrev Wh.UT:Type:=((Int)×(Unit)×(Int))×((List (bp.D)))
abbrev Wh.aiR:Type:=((((Int))×((List (bp.D)))))
def Wh.K4 (x:UT):Option (UT⊕aiR):=
 let iL:=x.1.1
 let Fp:=x.1.2.2
 let DI:=x.2
 let zT:Int:=(↑(List.length DI):Int)
 bif decide (iL<zT) then
  let Cq:List (bp.D):=List.set DI (Int.toNat iL) (Fp,(List.getD DI (Int.toNat iL) (0,0,0,0,false,())).2)
  bif jZ [decide (0≤iL),decide (iL<zT)] then
   let s_:=IntKind.wrap .i64 (Fp+1)
   let AB:List (bp.D):=List.set Cq (Int.toNat iL) ((List.getD Cq (Int.toNat iL) (0,0,0,0,false,())).1,s_,((List.getD Cq (Int.toNat iL) (0,0,0,0,false,())).2).2)
   bif jZ [decide (0≤iL),decide (iL<(↑(List.length Cq):Int))] then
    let nC:=IntKind.wrap .i64 (s_+1)
    let Ao:List (bp.D):=List.set AB (Int.toNat iL) ((List.getD AB (Int.toNat iL) (0,0,0,0,false,())).1,((List.getD AB (Int.toNat iL) (0,0,0,0,false,())).2).1,nC,(((List.getD AB (Int.toNat iL) (0,0,0,0,false,())).2).2).2)
    bif jZ [decide (0≤iL),decide (iL<(↑(List.length AB):Int))] then
     let zG:=IntKind.wrap .i64 (nC+1)
     let n_:List (bp.D):=List.set Ao (Int.toNat iL) ((List.getD Ao (Int.toNat iL) (0,0,0,0,false,())).1,((List.getD Ao (Int.toNat iL) (0,0,0,0,false,())).2).1,(((List.getD Ao (Int.toNat iL) (0,0,0,0,false,())).2).2).1,zG,((((List.getD Ao (Int.toNat iL) (0,0,0,0,false,())).2).2).2).2)
     bif jZ [decide (0≤iL),decide (iL<(↑(List.length Ao):Int))] then
      let Ba:=IntKind.wrap .i64 (zG+1)
      let zQ:List (bp.D):=List.set n_ (Int.toNat iL) ((List.getD n_ (Int.toNat iL) (0,0,0,0,false,())).1,((List.getD n_ (Int.toNat iL) (0,0,0,0,false,())).2).1,(((List.getD n_ (Int.toNat iL) (0,0,0,0,false,())).2).2).1,((((List.getD n_ (Int.toNat iL) (0,0,0,0,false,())).2).2).2).1,Int.tmod Ba (3:Int)==0,(((((List.getD n_ (Int.toNat iL) (0,0,0,0,false,())).2).2).2).2).2)
      bif jZ [decide (0≤iL),decide (iL<(↑(List.length n_):Int)),true] then
       some (.inl (((IntKind.wrap .i64 (iL+1)),(),(IntKind.wrap .i64 (Ba+1))),zQ))
      else none
     else none
    else none
   else none
  else none
 else
  some (.inr (Fp,DI))
def Wh.ab3:(((Int))×((List (bp.D)))):=default
def Wh.q32 (xs:(List (bp.D))×(Int)):Option (((Int))×((List (bp.D))×Unit)):=
 let cx:=xs.1
 let k_1:=xs.2
 let Jq:UT:=((0,(),k_1),cx)
 bif pY K4 Jq then
  let HQ:=oa K4 ab3 Jq
  let NX:=HQ.1
  let Eh:=HQ.2
  some (NX,Eh,())
 else none
def Wh.q75 (xs:(fT.D)×(Int)):Option (((Int))×((fT.D)×Unit)):=
 let cx:=xs.1
 let k_1:=xs.2
 e_ q32 (cx.1,k_1) fun r_2=>
  some (r_2.1,(r_2.2.1,cx.2),())
abbrev Wh.UP:Type:=((Int)×(Unit)×(Int))×((List (di.D)))
abbrev Wh.aiO:Type:=((((Int))×((List (di.D)))))
def Wh.KZ (x:UP):Option (UP⊕aiO):=
 let Ar:=x.1.1
 let k_17:=x.1.2.2
 let Mh:=x.2
 let je:Int:=(↑(List.length Mh):Int)
 bif decide (Ar<je) then
  let J9:List (di.D):=List.set Mh (Int.toNat Ar) (k_17,(List.getD Mh (Int.toNat Ar) (0,0,0,0,())).2)
  bif jZ [decide (0≤Ar),decide (Ar<je)] then
   let zK:=IntKind.wrap .i64 (k_17+1)
   let DJ:List (di.D):=List.set J9 (Int.toNat Ar) ((List.getD J9 (Int.toNat Ar) (0,0,0,0,())).1,zK,((List.getD J9 (Int.toNat Ar) (0,0,0,0,())).2).2)
   bif jZ [decide (0≤Ar),decide (Ar<(↑(List.length J9):Int))] then
    let th:=IntKind.wrap .i64 (zK+1)
    let Cq:List (di.D):=List.set DJ (Int.toNat Ar) ((List.getD DJ (Int.toNat Ar) (0,0,0,0,())).1,((List.getD DJ (Int.toNat Ar) (0,0,0,0,())).2).1,th,(((List.getD DJ (Int.toNat Ar) (0,0,0,0,())).2).2).2)
    bif jZ [decide (0≤Ar),decide (Ar<(↑(List.length DJ):Int))] then
     let s_:=IntKind.wrap .i64 (th+1)
     let AB:List (di.D):=List.set Cq (Int.toNat Ar) ((List.getD Cq (Int.toNat Ar) (0,0,0,0,())).1,((List.getD Cq (Int.toNat Ar) (0,0,0,0,())).2).1,(((List.getD Cq (Int.toNat Ar) (0,0,0,0,())).2).2).1,s_,((((List.getD Cq (Int.toNat Ar) (0,0,0,0,())).2).2).2).2)
     bif jZ [decide (0≤Ar),decide (Ar<(↑(List.length Cq):Int))] then
      some (.inl (((IntKind.wrap .i64 (Ar+1)),(),(IntKind.wrap .i64 (s_+1))),AB))
     else none
    else none
   else none
  else none
 else
  some (.inr (k_17,Mh))
def Wh.abZ:(((Int))×((List (di.D)))):=default
def Wh.q23 (xs:(List (di.D))×(Int)):Option (((Int))×((List (di.D))×Unit)):=
 let cx:=xs.1
 let k_1:=xs.2
 let DU:UP:=((0,(),k_1),cx)
 bif pY KZ DU then
  let Dw:=oa KZ abZ DU
  let k_32:=Dw.1
  let zQ:=Dw.2
  some (k_32,zQ,())
 else none
abbrev Wh.UU:Type:=((Int)×(Unit)×(Int))×((List (bx.D)))
abbrev Wh.aiS:Type:=((((Int))×((List (bx.D)))))
def Wh.K5 (x:UU):Option (UU⊕aiS):=
 let iL:=x.1.1
 let Fp:=x.1.2.2
 let DI:=x.2
 let zT:Int:=(↑(List.length DI):Int)
 bif decide (iL<zT) then
  let Cq:List (bx.D):=List.set DI (Int.toNat iL) (Fp,(List.getD DI (Int.toNat iL) (0,0,0,0,0,0,())).2)
  bif jZ [decide (0≤iL),decide (iL<zT)] then
   let s_:=IntKind.wrap .i64 (Fp+1)
   let AB:List (bx.D):=List.set Cq (Int.toNat iL) ((List.getD Cq (Int.toNat iL) (0,0,0,0,0,0,())).1,s_,((List.getD Cq (Int.toNat iL) (0,0,0,0,0,0,())).2).2)
   bif jZ [decide (0≤iL),decide (iL<(↑(List.length Cq):Int))] then
    let nC:=IntKind.wrap .i64 (s_+1)
    let Ao:List (bx.D):=List.set AB (Int.toNat iL) ((List.getD AB (Int.toNat iL) (0,0,0,0,0,0,())).1,((List.getD AB (Int.toNat iL) (0,0,0,0,0,0,())).2).1,nC,(((List.getD AB (Int.toNat iL) (0,0,0,0,0,0,())).2).2).2)
    bif jZ [decide (0≤iL),decide (iL<(↑(List.length AB):Int))] then
     let zG:=IntKind.wrap .i64 (nC+1)
     let n_:List (bx.D):=List.set Ao (Int.toNat iL) ((List.getD Ao (Int.toNat iL) (0,0,0,0,0,0,())).1,((List.getD Ao (Int.toNat iL) (0,0,0,0,0,0,())).2).1,(((List.getD Ao (Int.toNat iL) (0,0,0,0,0,0,())).2).2).1,zG,((((List.getD Ao (Int.toNat iL) (0,0,0,0,0,0,())).2).2).2).2)
     bif jZ [decide (0≤iL),decide (iL<(↑(List.length Ao):Int))] then
      let Ba:=IntKind.wrap .i64 (zG+1)
      let zQ:List (bx.D):=List.set n_ (Int.toNat iL) ((List.getD n_ (Int.toNat iL) (0,0,0,0,0,0,())).1,((List.getD n_ (Int.toNat iL) (0,0,0,0,0,0,())).2).1,(((List.getD n_ (Int.toNat iL) (0,0,0,0,0,0,())).2).2).1,((((List.getD n_ (Int.toNat iL) (0,0,0,0,0,0,())).2).2).2).1,Ba,(((((List.getD n_ (Int.toNat iL) (0,0,0,0,0,0,())).2).2).2).2).2)
      bif jZ [decide (0≤iL),decide (iL<(↑(List.length n_):Int))] then
       let Bz:=IntKind.wrap .i64 (Ba+1)
       let Eg:List (bx.D):=List.set zQ (Int.toNat iL) ((List.getD zQ (Int.toNat iL) (0,0,0,0,0,0,())).1,((List.getD zQ (Int.toNat iL) (0,0,0,0,0,0,())).2).1,(((List.getD zQ (Int.toNat iL) (0,0,0,0,0,0,())).2).2).1,((((List.getD zQ (Int.toNat iL) (0,0,0,0,0,0,())).2).2).2).1,(((((List.getD zQ (Int.toNat iL) (0,0,0,0,0,0,())).2).2).2).2).1,Bz,((((((List.getD zQ (Int.toNat iL) (0,0,0,0,0,0,())).2).2).2).2).2).2)
       bif jZ [decide (0≤iL),decide (iL<(↑(List.length zQ):Int))] then
        some (.inl (((IntKind.wrap .i64 (iL+1)),(),(IntKind.wrap .i64 (Bz+1))),Eg))
       else none
      else none
     else none
    else none
   else none
  else none
 else
  some (.inr (Fp,DI))
def Wh.ab4:(((Int))×((List (bx.D)))):=default
def Wh.q33 (xs:(List (bx.D))×(Int)):Option (((Int))×((List (bx.D))×Unit)):=
 let cx:=xs.1
 let k_1:=xs.2
 let Jq:UU:=((0,(),k_1),cx)
 bif pY K5 Jq then
  let HQ:=oa K5 ab4 Jq
  let NX:=HQ.1
  let Eh:=HQ.2
  some (NX,Eh,())
 else none
def Wh.q34 (xs:(eA.D)×(Int)):Option (((Int))×((eA.D)×Unit)):=
 let cx:=xs.1
 let k_1:=xs.2
 e_ Mp ((cx.2.2.2).1,k_1) fun r_2=>
  e_ q75 (cx.2.2.2.2.1,r_2.1) fun r_3=>
   e_ q23 ((cx.2.2.2.2.2).1,r_3.1) fun eB=>
    e_ q33 ((cx.2.2.2.2.2).2.1,eB.1) fun nG=>
     some (nG.1,(cx.1,cx.2.1,cx.2.2.1,((cx.2.2.2).1.1,(r_2.2.1.2).1,(cx.2.2.2).1.2.2),(r_3.2.1.1,(cx.2.2.2.2.1).2),eB.2.1,nG.2.1,(cx.2.2.2.2.2).2.2),())
abbrev Wh.U3:Type:=((Int)×(List (an.D))×(Int))×(Unit)
abbrev Wh.aiZ:Type:=((((Int))×(Unit))⊕(((Int))×(Unit)))
def Wh.K6 (x:U3):Option (U3⊕aiZ):=
 let Fl:=x.1.1
 let a_20:=x.1.2.1
 let Fp:=x.1.2.2
 let zK:Int:=(↑(List.length a_20):Int)
 bif decide (Fl<zK) then
  let th:an.D:=List.getD a_20 (Int.toNat Fl) (0,[],0,[],())
  bif jZ [decide (0≤Fl),decide (Fl<zK)] then
   bif(th.1 != Fp) then
    some (.inr (.inl (-1,())))
   else
    let s_:=IntKind.wrap .i64 (Fp+1)
    let Dt:=zog A8 s_
    bif jZ [isSm (A8 s_),decide (0≤Fl),decide (Fl<zK)] then
     bif(!th.2.1==Dt.1) then
      some (.inr (.inl (-1,())))
     else
      let AH:=IntKind.wrap .i64 (s_+1)
      bif jZ [decide (0≤Fl),decide (Fl<zK)] then
       bif(th.2.2.1 != AH) then
        some (.inr (.inl (-1,())))
       else
        let HJ:=IntKind.wrap .i64 (AH+1)
        let zD:=zog A8 HJ
        bif jZ [isSm (A8 HJ),decide (0≤Fl),decide (Fl<zK)] then
         bif(!(th.2.2.2).1==zD.1) then
          some (.inr (.inl (-1,())))
         else
          some (.inl (((IntKind.wrap .i64 (Fl+1)),a_20,(IntKind.wrap .i64 (HJ+1))),()))
        else none
      else none
    else none
  else none
 else
  some (.inr (.inr (Fp,())))
def Wh.ace:(((Int))×(Unit))⊕(((Int))×(Unit)):=.inl default
def Wh.q46 (xs:(List (an.D))×(Int)):Option (((Int))×(Unit)):=
 let cx:=xs.1
 let k_1:=xs.2
 let x_36:U3:=((0,cx,k_1),())
 bif pY K6 x_36 then
  sumC (oa K6 ace x_36) (fun y_37=>
   let GB:=y_37.1
   some (GB,())) (fun z_38=>
   let NX:=z_38.1
   some (NX,()))
 else none
def Wh.Mo (xs:(fe.D)×(Int)):Option (((Int))×(Unit)):=
 let cx:=xs.1
 let k_1:=xs.2
 e_ q46 (cx.2.1,k_1) fun r_2=>
  bif decide (r_2.1<0) then
   some (-1,())
  else
   some (r_2.1,())
abbrev Wh.UQ:Type:=((Int)×(List (bp.D))×(Int))×(Unit)
abbrev Wh.aiP:Type:=((((Int))×(Unit))⊕(((Int))×(Unit)))
def Wh.K0 (x:UQ):Option (UQ⊕aiP):=
 let Aw:=x.1.1
 let Jw:=x.1.2.1
 let JT:=x.1.2.2
 let th:Int:=(↑(List.length Jw):Int)
 bif decide (Aw<th) then
  let s_:bp.D:=List.getD Jw (Int.toNat Aw) (0,0,0,0,false,())
  bif jZ [decide (0≤Aw),decide (Aw<th)] then
   bif(s_.1 != JT) then
    some (.inr (.inl (-1,())))
   else
    let nC:=IntKind.wrap .i64 (JT+1)
    bif jZ [decide (0≤Aw),decide (Aw<th)] then
     bif(s_.2.1 != nC) then
      some (.inr (.inl (-1,())))
     else
      let zG:=IntKind.wrap .i64 (nC+1)
      bif jZ [decide (0≤Aw),decide (Aw<th)] then
       bif(s_.2.2.1 != zG) then
        some (.inr (.inl (-1,())))
       else
        let Ba:=IntKind.wrap .i64 (zG+1)
        let Ch:Bool:=(s_.2.2.2).1 != Ba
        bif jZ [decide (0≤Aw),decide (Aw<th)] then
         bif Ch then
          some (.inr (.inl (-1,())))
         else
          let Bz:=IntKind.wrap .i64 (Ba+1)
          bif jZ [true,decide (0≤Aw),decide (Aw<th)] then
           bif(!s_.2.2.2.2.1==((Int.tmod Bz 3)==0)) then
            some (.inr (.inl (-1,())))
           else
            some (.inl (((IntKind.wrap .i64 (Aw+1)),Jw,(IntKind.wrap .i64 (Bz+1))),()))
          else none
        else none
      else none
    else none
  else none
 else
  some (.inr (.inr (JT,())))
def Wh.ab0:(((Int))×(Unit))⊕(((Int))×(Unit)):=.inl default
def Wh.q29 (xs:(List (bp.D))×(Int)):Option (((Int))×(Unit)):=
 let cx:=xs.1
 let k_1:=xs.2
 let Jr:UQ:=((0,cx,k_1),())
 bif pY K0 Jr then
  sumC (oa K0 ab0 Jr) (fun Nr=>
   let Ey:=Nr.1
   some (Ey,())) (fun z_42=>
   let k_44:=z_42.1
   some (k_44,()))
 else none
def Wh.q74 (xs:(fT.D)×(Int)):Option (((Int))×(Unit)):=
 let cx:=xs.1
 let k_1:=xs.2
 e_ q29 (cx.1,k_1) fun r_2=>
  bif decide (r_2.1<0) then
   some (-1,())
  else
   some (r_2.1,())
abbrev Wh.UO:Type:=((Int)×(List (di.D))×(Int))×(Unit)
abbrev Wh.aiN:Type:=((((Int))×(Unit))⊕(((Int))×(Unit)))
def Wh.KY (x:UO):Option (UO⊕aiN):=
 let Bq:=x.1.1
 let Jv:=x.1.2.1
 let JS:=x.1.2.2
 let lg:Int:=(↑(List.length Jv):Int)
 bif decide (Bq<lg) then
  let zK:di.D:=List.getD Jv (Int.toNat Bq) (0,0,0,0,())
  bif jZ [decide (0≤Bq),decide (Bq<lg)] then
   bif(zK.1 != JS) then
    some (.inr (.inl (-1,())))
   else
    let th:=IntKind.wrap .i64 (JS+1)
    bif jZ [decide (0≤Bq),decide (Bq<lg)] then
     bif(zK.2.1 != th) then
      some (.inr (.inl (-1,())))
     else
      let s_:=IntKind.wrap .i64 (th+1)
      bif jZ [decide (0≤Bq),decide (Bq<lg)] then
       bif(zK.2.2.1 != s_) then
        some (.inr (.inl (-1,())))
       else
        let nC:=IntKind.wrap .i64 (s_+1)
        let AH:Bool:=(zK.2.2.2).1 != nC
        bif jZ [decide (0≤Bq),decide (Bq<lg)] then
         bif AH then
          some (.inr (.inl (-1,())))
         else
          some (.inl (((IntKind.wrap .i64 (Bq+1)),Jv,(IntKind.wrap .i64 (nC+1))),()))
        else none
      else none
    else none
  else none
 else
  some (.inr (.inr (JS,())))
def Wh.abY:(((Int))×(Unit))⊕(((Int))×(Unit)):=.inl default
def Wh.q22 (xs:(List (di.D))×(Int)):Option (((Int))×(Unit)):=
 let cx:=xs.1
 let k_1:=xs.2
 let x_32:UO:=((0,cx,k_1),())
 bif pY KY x_32 then
  sumC (oa KY abY x_32) (fun y_33=>
   let Ak:=y_33.1
   some (Ak,())) (fun z_34=>
   let k_36:=z_34.1
   some (k_36,()))
 else none
end
