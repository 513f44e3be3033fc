import Derived.Test.YtfeoanopdlpabaaGreatDoorX6
open Go Go.Ab
noncomputable section
def e_ {α β:Type} [Inhabited β] (f:α→Option β) (x:α):β:=match f x with | some y=>y|none=>default
abbrev OV {α β:Type} (f:α→Option β) (g:α→β):Prop:=∀x y,f x=some y→g x=y
theorem fk {α β:Type} [Inhabited β] (f:α→Option β):OV f (e_ f):=fun x y h=>by unfold e_;rw[h]
abbrev QY:Ty:=(.pair (.int .i64) (.pair (.int .i64) (.pair .bool (.pair (.int .u8) .unit))))
abbrev QY.D:Type:=(Int)×((Int)×((Bool)×((Int)×(Unit))))
abbrev QZ:Ty:=(.pair .str (.pair (.int .u64) .unit))
abbrev QZ.D:Type:=(List UInt8)×((Int)×(Unit))
abbrev bx:Ty:=(.pair (.int .i64) (.pair (.lst (.pair (.int .i64) (.pair .str (.pair (.int .i64) (.pair .str .unit))))) .unit))
abbrev bx.D:Type:=(Int)×((List ((Int)×((List UInt8)×((Int)×((List UInt8)×(Unit))))))×(Unit))
abbrev gv:Ty:=(.pair (.lst (.pair (.int .i64) (.pair (.int .i64) (.pair (.int .i64) (.pair (.int .i64) (.pair .bool .unit)))))) (.pair (.int .i64) .unit))
abbrev gv.D:Type:=(List ((Int)×((Int)×((Int)×((Int)×((Bool)×(Unit)))))))×((Int)×(Unit))
abbrev cx:Ty:=(.pair .bool (.pair (.int .i64) (.pair .str (.pair bx (.pair gv (.pair (.lst (.pair (.int .i64) (.pair (.int .i64) (.pair (.int .i64) (.pair (.int .i64) .unit))))) (.pair (.lst (.pair (.int .i64) (.pair (.int .i64) (.pair (.int .i64) (.pair (.int .i64) (.pair (.int .i64) (.pair (.int .i64) .unit))))))) .unit)))))))
abbrev cx.D:Type:=(Bool)×((Int)×((List UInt8)×((bx.D)×((gv.D)×((List ((Int)×((Int)×((Int)×((Int)×(Unit))))))×((List ((Int)×((Int)×((Int)×((Int)×((Int)×((Int)×(Unit))))))))×(Unit)))))))
abbrev yp:Ty:=(.pair (.int .i64) (.pair (.int .i64) (.pair (.lst (.int .i64)) (.pair (.lst (.int .i64)) .unit))))
abbrev yp.D:Type:=(Int)×((Int)×((List (Int))×((List (Int))×(Unit))))
abbrev Fl:Ty:=(.pair (.int .i64) (.pair (.int .i64) (.pair (.lst (.pair (.lst (.int .i64)) (.pair .str .unit))) .unit)))
abbrev Fl.D:Type:=(Int)×((Int)×((List ((List (Int))×((List UInt8)×(Unit))))×(Unit)))
abbrev Fk:Ty:=(.pair yp (.pair Fl .unit))
abbrev Fk.D:Type:=(yp.D)×((Fl.D)×(Unit))
abbrev CW:Ty:=(.pair (.int .i64) (.pair (.int .i64) (.pair (.int .i64) (.pair .str (.pair (.int .i64) (.pair Fk .unit))))))
abbrev CW.D:Type:=(Int)×((Int)×((Int)×((List UInt8)×((Int)×((Fk.D)×(Unit))))))
abbrev HJ:Ty:=(.pair (.int .i64) (.pair (.int .i64) (.pair (.int .i64) (.pair (.int .i64) (.pair (.int .i64) (.pair .str (.pair .str .unit)))))))
abbrev HJ.D:Type:=(Int)×((Int)×((Int)×((Int)×((Int)×((List UInt8)×((List UInt8)×(Unit)))))))
abbrev HK:Ty:=(.pair cx (.pair (.lst CW) (.pair (.lst (.pair (.int .i64) (.pair .str (.pair .bool .unit)))) (.pair (.lst (.pair (.int .i64) (.pair .str (.pair (.int .i64) (.pair .str .unit))))) .unit))))
abbrev HK.D:Type:=(cx.D)×((List (CW.D))×((List ((Int)×((List UInt8)×((Bool)×(Unit)))))×((List ((Int)×((List UInt8)×((Int)×((List UInt8)×(Unit))))))×(Unit))))
abbrev an:Ty:=(.pair (.int .i64) (.pair .str (.pair (.int .i64) (.pair .str .unit))))
abbrev an.D:Type:=(Int)×((List UInt8)×((Int)×((List UInt8)×(Unit))))
abbrev ct:Ty:=(.pair (.int .i64) (.pair (.int .i64) (.pair (.int .i64) (.pair (.int .i64) (.pair .bool .unit)))))
abbrev ct.D:Type:=(Int)×((Int)×((Int)×((Int)×((Bool)×(Unit)))))
abbrev en:Ty:=(.pair (.int .i64) (.pair (.int .i64) (.pair (.int .i64) (.pair (.int .i64) .unit))))
abbrev en.D:Type:=(Int)×((Int)×((Int)×((Int)×(Unit))))
abbrev fN:Ty:=(.pair (.int .i64) (.pair (.int .i64) en))
abbrev fN.D:Type:=(Int)×((Int)×(en.D))
abbrev Gi:Ty:=(.pair (.int .i64) (.pair .str (.pair .bool .unit)))
abbrev Gi.D:Type:=(Int)×((List UInt8)×((Bool)×(Unit)))
abbrev LX:Ty:=(.pair (.int .i64) (.pair (.int .i64) (.pair (.int .i64) .unit)))
abbrev LX.D:Type:=(Int)×((Int)×((Int)×(Unit)))
abbrev Gh:Ty:=(.pair (.lst (.int .i64)) (.pair .str .unit))
abbrev Gh.D:Type:=(List (Int))×((List UInt8)×(Unit))
abbrev xV:Ty:=(.pair .str .unit)
abbrev xV.D:Type:=(List UInt8)×(Unit)
abbrev Q0:Ty:=(.pair (.int .u8) (.pair (.int .u8) .unit))
abbrev Q0.D:Type:=(Int)×((Int)×(Unit))
def Wh.ED (xs:(an.D)×(Int)):Option (((Int))×(Unit)):=
 let cr:an.D:=xs.1
 let left_1:=xs.2
 let v_2:Int:=(↑(List.length cr.2.1):Int)
 let y9:=IntKind.wrap .i64 (left_1-v_2)
 bif decide (y9<(0:Int)) then
  some ((-1:Int),())
 else
  let z8:Int:=(↑(List.length ((cr.2.2.2).1)):Int)
  let Sq:=IntKind.wrap .i64 (y9-z8)
  bif decide (Sq<(0:Int)) then
   some ((-1:Int),())
  else
   some (Sq,())
def Wh.OP:=e_ Wh.ED
theorem Wh.OQ:OV Wh.ED Wh.OP:=fk _
abbrev Wh.QI:Type:=((Int)×(Int)×(List (an.D)))×(Unit)
abbrev Wh.aaq:Type:=((((Int))×(Unit))⊕(((Int))×(Unit)))
def Wh.DT (x:Wh.QI):Option (Wh.QI⊕Wh.aaq):=
 let xR:=x.1.1
 let NX:=x.1.2.1
 let D_:List (an.D):=x.1.2.2
 let nG:Int:=(↑(List.length D_):Int)
 bif decide (xR<nG) then
  let wX:an.D:=List.getD D_ (Int.toNat xR) ((0:Int),[],(0:Int),[],())
  let y5:=Wh.OP (wX,NX)
  bif iy [nQ (Wh.ED (wX,NX)),decide ((0:Int)≤xR),decide (xR<nG)] then
   bif decide (y5.1<(0:Int)) then
    some (.inr (.inl ((-1:Int),())))
   else
    some (.inl (((IntKind.wrap .i64 (xR+(1:Int))),y5.1,D_),()))
  else none
 else
  some (.inr (.inr (NX,())))
def Wh.QJ:(((Int))×(Unit))⊕(((Int))×(Unit)):=.inl default
def Wh.q88 (xs:(List (an.D))×(Int)):Option (((Int))×(Unit)):=
 let cr:List (an.D):=xs.1
 let left_1:=xs.2
 let v_2:Int:=(↑(List.length cr):Int)
 let y9:=IntKind.wrap .i64 (left_1-v_2)
 bif decide (y9<(0:Int)) then
  some ((-1:Int),())
 else
  let HS:Wh.QI:=(((0:Int),y9,cr),())
  bif lF Wh.DT HS then
   sumC (kG Wh.DT Wh.QJ HS) (fun H8=>
    let y6:=H8.1
    some (y6,())) (fun z_28=>
    let Xy:=z_28.1
    some (Xy,()))
  else none
def Wh.q88':=e_ Wh.q88
theorem Wh.q88_v:OV Wh.q88 Wh.q88':=fk _
def Wh.ER (xs:(bx.D)×(Int)):Option (((Int))×(Unit)):=
 let cr:bx.D:=xs.1
 let left_1:=xs.2
 let r_2:=Wh.q88' (cr.2.1,left_1)
 bif iy [nQ (Wh.q88 (cr.2.1,left_1))] then
  bif decide (r_2.1<(0:Int)) then
   some ((-1:Int),())
  else
   some (r_2.1,())
 else none
def Wh.Pr:=e_ Wh.ER
theorem Wh.Up:OV Wh.ER Wh.Pr:=fk _
def Wh.q62 (xs:(List (ct.D))×(Int)):Option (((Int))×(Unit)):=
 let cr:List (ct.D):=xs.1
 let left_1:=xs.2
 let v_2:Int:=(↑(List.length cr):Int)
 let y9:=IntKind.wrap .i64 (left_1-v_2)
 bif decide (y9<(0:Int)) then
  some ((-1:Int),())
 else
  some (y9,())
def Wh.q62':=e_ Wh.q62
theorem Wh.q62_v:OV Wh.q62 Wh.q62':=fk _
def Wh.EE (xs:(gv.D)×(Int)):Option (((Int))×(Unit)):=
 let cr:gv.D:=xs.1
 let left_1:=xs.2
 let r_2:=Wh.q62' (cr.1,left_1)
 bif iy [nQ (Wh.q62 (cr.1,left_1))] then
  bif decide (r_2.1<(0:Int)) then
   some ((-1:Int),())
  else
   some (r_2.1,())
 else none
def Wh.OS:=e_ Wh.EE
theorem Wh.T3:OV Wh.EE Wh.OS:=fk _
def Wh.q41 (xs:(List (en.D))×(Int)):Option (((Int))×(Unit)):=
 let cr:List (en.D):=xs.1
 let left_1:=xs.2
 let v_2:Int:=(↑(List.length cr):Int)
 let y9:=IntKind.wrap .i64 (left_1-v_2)
 bif decide (y9<(0:Int)) then
  some ((-1:Int),())
 else
  some (y9,())
def Wh.q41':=e_ Wh.q41
theorem Wh.q41_v:OV Wh.q41 Wh.q41':=fk _
def Wh.q63 (xs:(List (fN.D))×(Int)):Option (((Int))×(Unit)):=
 let cr:List (fN.D):=xs.1
 let left_1:=xs.2
 let v_2:Int:=(↑(List.length cr):Int)
 let y9:=IntKind.wrap .i64 (left_1-v_2)
 bif decide (y9<(0:Int)) then
  some ((-1:Int),())
 else
  some (y9,())
def Wh.q63':=e_ Wh.q63
theorem Wh.q63_v:OV Wh.q63 Wh.q63':=fk _
def Wh.q64 (xs:(cx.D)×(Int)):Option (((Int))×(Unit)):=
 let cr:cx.D:=xs.1
 let left_1:=xs.2
 let v_2:Int:=(↑(List.length (cr.2.2.1)):Int)
 let y9:=IntKind.wrap .i64 (left_1-v_2)
 bif decide (y9<(0:Int)) then
  some ((-1:Int),())
 else
  let yw:=Wh.Pr ((cr.2.2.2).1,y9)
  bif iy [nQ (Wh.ER ((cr.2.2.2).1,y9))] then
   bif decide (yw.1<(0:Int)) then
    some ((-1:Int),())
   else
    let yP:=Wh.OS (cr.2.2.2.2.1,yw.1)
    bif iy [nQ (Wh.EE (cr.2.2.2.2.1,yw.1))] then
     bif decide (yP.1<(0:Int)) then
      some ((-1:Int),())
     else
      let BP:=Wh.q41' ((cr.2.2.2.2.2).1,yP.1)
      bif iy [nQ (Wh.q41 ((cr.2.2.2.2.2).1,yP.1))] then
       bif decide (BP.1<(0:Int)) then
        some ((-1:Int),())
       else
        let zk:=Wh.q63' ((cr.2.2.2.2.2).2.1,BP.1)
        bif iy [nQ (Wh.q63 ((cr.2.2.2.2.2).2.1,BP.1))] then
         bif decide (zk.1<(0:Int)) then
          some ((-1:Int),())
         else
          some (zk.1,())
        else none
      else none
    else none
  else none
def Wh.q64':=e_ Wh.q64
theorem Wh.q64_v:OV Wh.q64 Wh.q64':=fk _
def Wh.F3 (xs:(an.D)):Option (((an.D))×(Unit)):=
 let cr:an.D:=xs
 some ((cr.1,cr.2.1,cr.2.2.1,(cr.2.2.2).1,()),())
def Wh.OT:=e_ Wh.F3
theorem Wh.T4:OV Wh.F3 Wh.OT:=fk _
abbrev Wh.QK:Type:=((Int)×(List (an.D))×(Unit))×((List (an.D)))
abbrev Wh.aar:Type:=((((Unit))×((List (an.D)))))
def Wh.DU (x:Wh.QK):Option (Wh.QK⊕Wh.aar):=
 let tn:=x.1.1
 let yX:List (an.D):=x.1.2.1
 let yu:List (an.D):=x.2
 let yc:Int:=(↑(List.length yX):Int)
 bif decide (tn<yc) then
  let Bd:(an.D)×Unit:=Wh.OT (List.getD yX (Int.toNat tn) ((0:Int),[],(0:Int),[],()))
  let vN:List (an.D):=List.set yu (Int.toNat tn) Bd.1
  let nG:an.D:=List.getD yX (Int.toNat tn) ((0:Int),[],(0:Int),[],())
  bif iy [decide ((0:Int)≤tn),decide (tn<(↑(List.length yu):Int)),nQ (Wh.F3 nG),decide ((0:Int)≤tn),decide (tn<yc)] then
   some (.inl (((IntKind.wrap .i64 (tn+(1:Int))),yX,()),vN))
  else none
 else
  some (.inr ((),yu))
def Wh.Vl:(((Unit))×((List (an.D)))):=default
def Wh.q90 (xs:(List (an.D))):Option (((List (an.D)))×(Unit)):=
 let cr:List (an.D):=xs
 let y4:List (an.D):=@List.replicate (Int×List UInt8×Int×List UInt8×Unit) (Int.toNat (↑(List.length cr):Int)) ((0:Int),[],(0:Int),[],())
 let v_2:Int:=(↑(List.length cr):Int)
 bif iy [decide ((0:Int)≤v_2),decide (v_2≤v_2),decide (v_2≤(↑dh:Int))] then
  let x_21:Wh.QK:=(((0:Int),cr,()),y4)
  bif lF Wh.DU x_21 then
   let C0:=kG Wh.DU Wh.Vl x_21
   let zy:List (an.D):=C0.2
   some (zy,())
  else none
 else none
def Wh.q90':=e_ Wh.q90
theorem Wh.q90_v:OV Wh.q90 Wh.q90':=fk _
def Wh.ES (xs:(bx.D)):Option ((((Int)×((List (an.D))×(Unit))))×(Unit)):=
 let cr:bx.D:=xs
 let r_1:List (an.D)×Unit:=Wh.q90' cr.2.1
 bif iy [nQ (Wh.q90 cr.2.1)] then
  some ((cr.1,r_1.1,()),())
 else none
def Wh.Pt:=e_ Wh.ES
theorem Wh.Uq:OV Wh.ES Wh.Pt:=fk _
def Wh.q89 (xs:(ct.D)):Option (((ct.D))×(Unit)):=
 let cr:ct.D:=xs
 some ((cr.1,cr.2.1,cr.2.2.1,(cr.2.2.2).1,cr.2.2.2.2.1,()),())
def Wh.q89':=e_ Wh.q89
theorem Wh.q89_v:OV Wh.q89 Wh.q89':=fk _
abbrev Wh.Qt:Type:=((Int)×(List (ct.D))×(Unit))×((List (ct.D)))
abbrev Wh.aag:Type:=((((Unit))×((List (ct.D)))))
def Wh.DP (x:Wh.Qt):Option (Wh.Qt⊕Wh.aag):=
 let tn:=x.1.1
 let yX:List (ct.D):=x.1.2.1
 let yu:List (ct.D):=x.2
 let yc:Int:=(↑(List.length yX):Int)
 bif decide (tn<yc) then
  let Bd:(ct.D)×Unit:=Wh.q89' (List.getD yX (Int.toNat tn) ((0:Int),(0:Int),(0:Int),(0:Int),false,()))
  let vN:List (ct.D):=List.set yu (Int.toNat tn) Bd.1
  let nG:ct.D:=List.getD yX (Int.toNat tn) ((0:Int),(0:Int),(0:Int),(0:Int),false,())
  bif iy [decide ((0:Int)≤tn),decide (tn<(↑(List.length yu):Int)),nQ (Wh.q89 nG),decide ((0:Int)≤tn),decide (tn<yc)] then
   some (.inl (((IntKind.wrap .i64 (tn+(1:Int))),yX,()),vN))
  else none
 else
  some (.inr ((),yu))
def Wh.Vb:(((Unit))×((List (ct.D)))):=default
def Wh.q66 (xs:(List (ct.D))):Option (((List (ct.D)))×(Unit)):=
 let cr:List (ct.D):=xs
 let y4:List (ct.D):=@List.replicate (Int×Int×Int×Int×Bool×Unit) (Int.toNat (↑(List.length cr):Int)) ((0:Int),(0:Int),(0:Int),(0:Int),false,())
 let v_2:Int:=(↑(List.length cr):Int)
 bif iy [decide ((0:Int)≤v_2),decide (v_2≤v_2),decide (v_2≤(↑dh:Int))] then
  let x_21:Wh.Qt:=(((0:Int),cr,()),y4)
  bif lF Wh.DP x_21 then
   let C0:=kG Wh.DP Wh.Vb x_21
   let zy:List (ct.D):=C0.2
   some (zy,())
  else none
 else none
def Wh.q66':=e_ Wh.q66
theorem Wh.q66_v:OV Wh.q66 Wh.q66':=fk _
def Wh.EG (xs:(gv.D)):Option ((((List (ct.D))×((Int)×(Unit))))×(Unit)):=
 let cr:gv.D:=xs
 let r_1:List (ct.D)×Unit:=Wh.q66' cr.1
 bif iy [nQ (Wh.q66 cr.1)] then
  some ((r_1.1,cr.2.1,()),())
 else none
def Wh.OU:=e_ Wh.EG
theorem Wh.T5:OV Wh.EG Wh.OU:=fk _
def Wh.q65 (xs:(en.D)):Option (((en.D))×(Unit)):=
 let cr:en.D:=xs
 some ((cr.1,cr.2.1,cr.2.2.1,(cr.2.2.2).1,()),())
def Wh.q65':=e_ Wh.q65
theorem Wh.q65_v:OV Wh.q65 Wh.q65':=fk _
abbrev Wh.P_:Type:=((Int)×(List (en.D))×(Unit))×((List (en.D)))
abbrev Wh.ZZ:Type:=((((Unit))×((List (en.D)))))
def Wh.DI (x:Wh.P_):Option (Wh.P_⊕Wh.ZZ):=
 let tn:=x.1.1
 let yX:List (en.D):=x.1.2.1
 let yu:List (en.D):=x.2
 let yc:Int:=(↑(List.length yX):Int)
 bif decide (tn<yc) then
  let Bd:(en.D)×Unit:=Wh.q65' (List.getD yX (Int.toNat tn) ((0:Int),(0:Int),(0:Int),(0:Int),()))
  let vN:List (en.D):=List.set yu (Int.toNat tn) Bd.1
  let nG:en.D:=List.getD yX (Int.toNat tn) ((0:Int),(0:Int),(0:Int),(0:Int),())
  bif iy [decide ((0:Int)≤tn),decide (tn<(↑(List.length yu):Int)),nQ (Wh.q65 nG),decide ((0:Int)≤tn),decide (tn<yc)] then
   some (.inl (((IntKind.wrap .i64 (tn+(1:Int))),yX,()),vN))
  else none
 else
  some (.inr ((),yu))
def Wh.UW:(((Unit))×((List (en.D)))):=default
def Wh.q42 (xs:(List (en.D))):Option (((List (en.D)))×(Unit)):=
 let cr:List (en.D):=xs
 let y4:List (en.D):=@List.replicate (Int×Int×Int×Int×Unit) (Int.toNat (↑(List.length cr):Int)) ((0:Int),(0:Int),(0:Int),(0:Int),())
 let v_2:Int:=(↑(List.length cr):Int)
 bif iy [decide ((0:Int)≤v_2),decide (v_2≤v_2),decide (v_2≤(↑dh:Int))] then
  let x_21:Wh.P_:=(((0:Int),cr,()),y4)
  bif lF Wh.DI x_21 then
   let C0:=kG Wh.DI Wh.UW x_21
   let zy:List (en.D):=C0.2
   some (zy,())
  else none
 else none
def Wh.q42':=e_ Wh.q42
theorem Wh.q42_v:OV Wh.q42 Wh.q42':=fk _
def Wh.q91 (xs:(fN.D)):Option (((fN.D))×(Unit)):=
 let cr:fN.D:=xs
 some ((cr.1,cr.2.1,cr.2.2.1,(cr.2.2.2).1,cr.2.2.2.2.1,(cr.2.2.2.2.2).1,()),())
def Wh.q91':=e_ Wh.q91
theorem Wh.q91_v:OV Wh.q91 Wh.q91':=fk _
abbrev Wh.Qu:Type:=((Int)×(List (fN.D))×(Unit))×((List (fN.D)))
abbrev Wh.aah:Type:=((((Unit))×((List (fN.D)))))
def Wh.DQ (x:Wh.Qu):Option (Wh.Qu⊕Wh.aah):=
 let tn:=x.1.1
 let yX:List (fN.D):=x.1.2.1
 let yu:List (fN.D):=x.2
 let yc:Int:=(↑(List.length yX):Int)
 bif decide (tn<yc) then
  let Bd:(fN.D)×Unit:=Wh.q91' (List.getD yX (Int.toNat tn) ((0:Int),(0:Int),(0:Int),(0:Int),(0:Int),(0:Int),()))
  let vN:List (fN.D):=List.set yu (Int.toNat tn) Bd.1
  let nG:fN.D:=List.getD yX (Int.toNat tn) ((0:Int),(0:Int),(0:Int),(0:Int),(0:Int),(0:Int),())
  bif iy [decide ((0:Int)≤tn),decide (tn<(↑(List.length yu):Int)),nQ (Wh.q91 nG),decide ((0:Int)≤tn),decide (tn<yc)] then
   some (.inl (((IntKind.wrap .i64 (tn+(1:Int))),yX,()),vN))
  else none
 else
  some (.inr ((),yu))
def Wh.Vc:(((Unit))×((List (fN.D)))):=default
def Wh.q67 (xs:(List (fN.D))):Option (((List (fN.D)))×(Unit)):=
 let cr:List (fN.D):=xs
 let y4:List (fN.D):=@List.replicate (Int×Int×Int×Int×Int×Int×Unit) (Int.toNat (↑(List.length cr):Int)) ((0:Int),(0:Int),(0:Int),(0:Int),(0:Int),(0:Int),())
 let v_2:Int:=(↑(List.length cr):Int)
 bif iy [decide ((0:Int)≤v_2),decide (v_2≤v_2),decide (v_2≤(↑dh:Int))] then
  let x_21:Wh.Qu:=(((0:Int),cr,()),y4)
  bif lF Wh.DQ x_21 then
   let C0:=kG Wh.DQ Wh.Vc x_21
   let zy:List (fN.D):=C0.2
   some (zy,())
  else none
 else none
def Wh.q67':=e_ Wh.q67
theorem Wh.q67_v:OV Wh.q67 Wh.q67':=fk _
def Wh.BM (xs:(cx.D)):Option ((((Bool)×((Int)×((List UInt8)×(((Int)×((List (an.D))×(Unit)))×(((List (ct.D))×((Int)×(Unit)))×((List (en.D))×((List (fN.D))×(Unit)))))))))×(Unit)):=
 let cr:cx.D:=xs
 let r_1:(bx.D)×Unit:=Wh.Pt ((cr.2.2.2).1)
 bif iy [nQ (Wh.ES ((cr.2.2.2).1))] then
  let r_2:(gv.D)×Unit:=Wh.OU (cr.2.2.2.2.1)
  bif iy [nQ (Wh.EG (cr.2.2.2.2.1))] then
   let r_3:List (en.D)×Unit:=Wh.q42' ((cr.2.2.2.2.2).1)
   bif iy [nQ (Wh.q42 ((cr.2.2.2.2.2).1))] then
    let fT:List (fN.D)×Unit:=Wh.q67' ((cr.2.2.2.2.2).2.1)
    bif iy [nQ (Wh.q67 ((cr.2.2.2.2.2).2.1))] then
     some ((cr.1,cr.2.1,cr.2.2.1,r_1.1,r_2.1,r_3.1,fT.1,()),())
    else none
   else none
  else none
 else none
def Wh.q68':=e_ Wh.BM
theorem Wh.q68_v:OV Wh.BM Wh.q68':=fk _
def Wh.xS (xs:(Int)×(Int)×(Int)):Option (((Bool))×(Unit)):=
 let yj:=xs.1
 let N0:=xs.2.1
 let NS:=xs.2.2
 let xQ:=bif decide (yj≥N0) then decide (yj≤NS) else false
 some (xQ,())
def Wh.ym:=e_ Wh.xS
theorem Wh.za:OV Wh.xS Wh.ym:=fk _
abbrev Wh.O6:Type:=((Int)×(Int)×(List UInt8))×(Unit)
abbrev Wh.Zv:Type:=((((Int))×(Unit))⊕((Unit)×(Unit)))
def Wh.BF (x:Wh.O6):Option (Wh.O6⊕Wh.Zv):=
 let GV:=x.1.1
 let b_11:=x.1.2.1
 let Fg:=x.1.2.2
 let DZ:=decide (GV<(↑(List.length Fg):Int))
 bif DZ then
  let nS:Int:=(↑(UInt8.toNat (List.getD Fg (Int.toNat GV) (0:UInt8))):Int)
  let yc:=nS==b_11
  bif iy [decide ((0:Int)≤GV),DZ] then
   bif yc then
    some (.inr (.inl (GV,())))
   else
    some (.inl (((IntKind.wrap .i64 (GV+(1:Int))),b_11,Fg),()))
  else none
 else
  some (.inr (.inr ((),())))
def Wh.Ue:(((Int))×(Unit))⊕((Unit)×(Unit)):=.inl default
def Wh.yU (xs:(List UInt8)×(Int)×(Int)):Option (((Int))×(Unit)):=
 let eA:=xs.1
 let zu:=xs.2.1
 let b_2:=xs.2.2
 let x_17:Wh.O6:=((zu,b_2,eA),())
 bif lF Wh.BF x_17 then
  sumC (kG Wh.BF Wh.Ue x_17) (fun Fq=>
   let nC:=Fq.1
   some (nC,())) (fun _=>
   some ((-1:Int),()))
 else none
def Wh.Hf:=e_ Wh.yU
theorem Wh.BG:OV Wh.yU Wh.Hf:=fk _
abbrev Wh.PJ:Type:=((Int)×(List UInt8)×(Int))×(Unit)
abbrev Wh.ZK:Type:=((((Int))×(Unit))⊕(((Int))×(Unit)))
def Wh.Dx (x:Wh.PJ):Option (Wh.PJ⊕Wh.ZK):=
 let y7:=x.1.1
 let s_18:=x.1.2.1
 let n_19:=x.1.2.2
 let nC:=decide (y7<(↑(List.length s_18):Int))
 bif nC then
  let wX:Int:=(↑(UInt8.toNat (List.getD s_18 (Int.toNat y7) (0:UInt8))):Int)
  let nW:=bif decide (wX<(48:Int)) then true else decide (wX>(57:Int))
  bif iy [!!decide (wX<(48:Int)) || decide ((0:Int)≤y7),!!decide (wX<(48:Int)) || nC,decide ((0:Int)≤y7),nC] then
   bif nW then
    some (.inr (.inl ((-1:Int),())))
   else
    bif iy [decide ((0:Int)≤y7),nC] then
     some (.inl (((IntKind.wrap .i64 (y7+(1:Int))),s_18,(IntKind.wrap .i64 ((IntKind.wrap .i64 (n_19*(10:Int)))+IntKind.wrap .i64 (IntKind.wrap .u8 (wX-(48:Int)))))),()))
    else none
  else none
 else
  some (.inr (.inr (n_19,())))
def Wh.UC:(((Int))×(Unit))⊕(((Int))×(Unit)):=.inl default
def Wh.Ax (xs:(List UInt8)):Option (((Int))×(Unit)):=
 let eA:=xs
 let r_1:=Wh.ym ((↑(List.length eA):Int),(1:Int),(6:Int))
 let v_2:=bif !r_1.1 then true else bif decide ((↑(List.length eA):Int)>(1:Int)) then(↑(UInt8.toNat (List.getD eA (Int.toNat (0:Int)) (0:UInt8))):Int)==(48:Int) else false
 bif iy [!(decide ((↑(List.length eA):Int)>(1:Int)) && !!r_1.1) || decide ((0:Int)≤(0:Int)),!(decide ((↑(List.length eA):Int)>(1:Int)) && !!r_1.1) || decide ((0:Int)<(↑(List.length eA):Int)),nQ (Wh.xS ((↑(List.length eA):Int),(1:Int),(6:Int)))] then
  bif v_2 then
   some ((-1:Int),())
  else
   let x_31:Wh.PJ:=(((0:Int),eA,(0:Int)),())
   bif lF Wh.Dx x_31 then
    sumC (kG Wh.Dx Wh.UC x_31) (fun y_32=>
     let AW:=y_32.1
     some (AW,())) (fun z_33=>
     let n_35:=z_33.1
     some (n_35,()))
   else none
 else none
def Wh.Ho:=e_ Wh.Ax
theorem Wh.EY:OV Wh.Ax Wh.Ho:=fk _
def Wh.q31 (Vr:((Int))→Option (((List UInt8))×(Unit))) (LP:((Int))→((List UInt8))×(Unit)) (xs:(Int)):Option (((List UInt8))×(Unit)):=
 let yj:=xs
 bif decide (yj<(-9223372036854775807:Int)) then
  some ([(45:UInt8),(57:UInt8),(50:UInt8),(50:UInt8),(51:UInt8),(51:UInt8),(55:UInt8),(50:UInt8),(48:UInt8),(51:UInt8),(54:UInt8),(56:UInt8),(53:UInt8),(52:UInt8),(55:UInt8),(55:UInt8),(53:UInt8),(56:UInt8),(48:UInt8),(56:UInt8)],())
 else
  bif decide (yj<(0:Int)) then
   let s4:=IntKind.wrap .i64 ((0:Int)-yj)
   let AV:xV.D:=LP s4
   let zp:List UInt8:=[(45:UInt8)]++AV.1
   bif iy [decide ((1:Nat)+List.length ((LP s4).1)≤dh),nQ (Vr s4)] then
    some (zp,())
   else none
  else
   bif decide (yj<(10:Int)) then
    let Ox:List Int:=[IntKind.wrap .u8 (IntKind.wrap .i64 ((48:Int)+yj))]
    some (qp Ox,())
   else
    let Oy:List Int:=[IntKind.wrap .u8 (IntKind.wrap .i64 ((48:Int)+Int.tmod yj (10:Int)))]
    let DZ:=IntKind.wrap .i64 (Int.tdiv yj (10:Int))
    let yD:xV.D:=LP DZ
    let wX:=yD.1++qp Oy
    bif iy [decide (List.length ((LP DZ).1)+(1:Nat)≤dh),true,nQ (Vr DZ),true] then
     some (wX,())
    else none
def Wh.AA:Nat→((Int))→Option (((List UInt8))×(Unit))
 |0,_=>none
 |n+1,xs=>Wh.q31 (Wh.AA n) (fun x=>match Wh.AA n x with | some y=>y|none=>default) xs
theorem Wh.PB (n:Nat):Wh.AA (n+1)=Wh.q31 (Wh.AA n) (fun x=>match Wh.AA n x with | some y=>y|none=>default):=rfl
def Wh.BH (xs:(Int)):Option (((List UInt8))×(Unit)):=Wh.AA 20 xs
def Wh.A9:=e_ Wh.BH
theorem Wh.Lw:OV Wh.BH Wh.A9:=fk _
abbrev Wh.QA:Type:=((Int)×(Int)×(Unit))×((List (Int)))
abbrev Wh.aal:Type:=((((Unit))×((List (Int)))))
def Wh.E8 (x:Wh.QA):Option (Wh.QA⊕Wh.aal):=
 let x7:=x.1.1
 let n_28:=x.1.2.1
 let N6:=x.2
 bif decide (x7≥(0:Int)) then
  let r5:List Int:=[IntKind.wrap .u8 (Int.fdiv n_28 ((2:Int) ^ Min.min (Int.toNat (IntKind.wrap .i64 ((8:Int)*x7))) (Go.IntKind.bits Go.IntKind.i64)))]
  let y3:=N6++r5
  bif iy [decide (List.length N6+(1:Nat)≤dh),decide ((0:Int)≤(IntKind.wrap .i64 ((8:Int)*x7)))] then
   some (.inl (((IntKind.wrap .i64 (x7-(1:Int))),n_28,()),y3))
  else none
 else
  some (.inr ((),N6))
def Wh.Vg:(((Unit))×((List (Int)))):=default
abbrev Wh.Qz:Type:=((Unit)×(List UInt8))×((List (Int)))
abbrev Wh.aak:Type:=((((Unit)×(List UInt8))×((List (Int)))))
def Wh.DR (x:Wh.Qz):Option (Wh.Qz⊕Wh.aak):=
 let VK:=x.1.2
 let KW:=x.2
 let z7:Bool:=(Int.tmod (↑(List.length KW):Int) (64:Int)) != (56:Int)
 bif z7 then
  let G2:=KW ++ [(0:Int)]
  bif iy [decide (List.length KW+(1:Nat)≤dh)] then
   some (.inl (((),VK),G2))
  else none
 else
  some (.inr (((),VK),KW))
def Wh.Vf:(((Unit)×(List UInt8))×((List (Int)))):=default
def Wh.q73 (xs:(List UInt8)):Option (((List (Int)))×(Unit)):=
 let yE:=xs
 let y4:List Int:=bytesOf yE ++ [(128:Int)]
 bif iy [decide (List.length (bytesOf yE)+(1:Nat)≤dh),decide (List.length yE≤dh)] then
  let x_12:Wh.Qz:=(((),yE),y4)
  bif lF Wh.DR x_12 then
   let y_13:=kG Wh.DR Wh.Vf x_12
   let acm:=y_13.1.2
   let x9:=y_13.2
   let x_37:Wh.QA:=(((7:Int),(IntKind.wrap .i64 ((↑(List.length acm):Int)*(8:Int))),()),x9)
   bif lF Wh.E8 x_37 then
    let y_38:=kG Wh.E8 Wh.Vg x_37
    let A4:=y_38.2
    some (A4,())
   else none
  else none
 else none
def Wh.q73':=e_ Wh.q73
theorem Wh.q73_v:OV Wh.q73 Wh.q73':=fk _
def Wh.x6 (xs:(Int)×(Int)):Option (((Int))×(Unit)):=
 let yg:=xs.1
 let n_1:=xs.2
 let v_2:Int:=Int.fdiv yg ((2:Int) ^ Min.min (Int.toNat n_1) (Go.IntKind.bits Go.IntKind.u32))
 let s4:=IntKind.wrap .i64 ((32:Int)-n_1)
 let z8:Int:=nj Go.BinOp.or Go.IntKind.u32 v_2 (IntKind.wrap .u32 (yg*(2:Int) ^ Min.min (Int.toNat s4) (Go.IntKind.bits Go.IntKind.u32)))
 bif iy [decide ((0:Int)≤s4),decide ((0:Int)≤n_1)] then
  some (z8,())
 else none
def Wh.y_:=e_ Wh.x6
theorem Wh.q117_v:OV Wh.x6 Wh.y_:=fk _
abbrev Wh.OF:Type:=((Int)×(Unit))×((List (Int)))
abbrev Wh.Zj:Type:=((((Unit))×((List (Int)))))
def Wh.EA (x:Wh.OF):Option (Wh.OF⊕Wh.Zj):=
 let C9:=x.1.1
 let A5:=x.2
 bif decide (C9<(64:Int)) then
  let HR:=IntKind.wrap .i64 (C9-(15:Int))
  let H6:=List.getD A5 (Int.toNat HR) (0:Int)
  bif iy [decide ((0:Int)≤HR),decide (HR<(↑(List.length A5):Int))] then
   let v_99:=IntKind.wrap .i64 (C9-(2:Int))
   let H7:=List.getD A5 (Int.toNat v_99) (0:Int)
   bif iy [decide ((0:Int)≤v_99),decide (v_99<(↑(List.length A5):Int))] then
    let r_102:=Wh.y_ (H6,(7:Int))
    let QT:=Wh.y_ (H6,(18:Int))
    let v_105:Int:=Int.fdiv H6 ((2:Int) ^ Min.min (Int.toNat (3:Int)) (Go.IntKind.bits Go.IntKind.u32))
    let a_107:Int:=nj Go.BinOp.xor Go.IntKind.u32 (nj Go.BinOp.xor Go.IntKind.u32 r_102.1 QT.1) v_105
    bif iy [true,nQ (Wh.x6 (H6,(18:Int))),nQ (Wh.x6 (H6,(7:Int)))] then
     let r_108:=Wh.y_ (H7,(17:Int))
     let Hx:=Wh.y_ (H7,(19:Int))
     let v_111:Int:=Int.fdiv H7 ((2:Int) ^ Min.min (Int.toNat (10:Int)) (Go.IntKind.bits Go.IntKind.u32))
     let c_113:Int:=nj Go.BinOp.xor Go.IntKind.u32 (nj Go.BinOp.xor Go.IntKind.u32 r_108.1 Hx.1) v_111
     bif iy [true,nQ (Wh.x6 (H7,(19:Int))),nQ (Wh.x6 (H7,(17:Int)))] then
      let pb_114:List Int:=[IntKind.wrap .u32 (IntKind.wrap .u32 (IntKind.wrap .u32 (List.getD A5 (Int.toNat (IntKind.wrap .i64 (C9-(16:Int)))) (0:Int)+a_107)+List.getD A5 (Int.toNat (IntKind.wrap .i64 (C9-(7:Int)))) (0:Int))+c_113)]
      let ls_115:=A5++pb_114
      let v_116:=IntKind.wrap .i64 (C9-(16:Int))
      let L1:=IntKind.wrap .i64 (C9-(7:Int))
      bif iy [decide (List.length A5+(1:Nat)≤dh),decide ((0:Int)≤L1),decide (L1<(↑(List.length A5):Int)),decide ((0:Int)≤v_116),decide (v_116<(↑(List.length A5):Int))] then
       some (.inl (((IntKind.wrap .i64 (C9+(1:Int))),()),ls_115))
      else none
     else none
    else none
   else none
  else none
 else
  some (.inr ((),A5))
def Wh.TS:(((Unit))×((List (Int)))):=default
abbrev Wh.OE:Type:=((Int)×(List (Int))×(Unit))×((List (Int)))
abbrev Wh.Zi:Type:=((((Unit))×((List (Int)))))
def Wh.Ez (x:Wh.OE):Option (Wh.OE⊕Wh.Zi):=
 let Ej:=x.1.1
 let B4:=x.1.2.1
 let y3:=x.2
 bif decide (Ej<(16:Int)) then
  let Lc:List Int:=[nj Go.BinOp.or Go.IntKind.u32 (nj Go.BinOp.or Go.IntKind.u32 (nj Go.BinOp.or Go.IntKind.u32 (IntKind.wrap .u32 (IntKind.wrap .u32 (List.getD B4 (Int.toNat (IntKind.wrap .i64 ((4:Int)*Ej))) (0:Int))*(2:Int) ^ Min.min (Int.toNat (24:Int)) (Go.IntKind.bits Go.IntKind.u32))) (IntKind.wrap .u32 (IntKind.wrap .u32 (List.getD B4 (Int.toNat (IntKind.wrap .i64 (IntKind.wrap .i64 ((4:Int)*Ej)+(1:Int)))) (0:Int))*(2:Int) ^ Min.min (Int.toNat (16:Int)) (Go.IntKind.bits Go.IntKind.u32)))) (IntKind.wrap .u32 (IntKind.wrap .u32 (List.getD B4 (Int.toNat (IntKind.wrap .i64 (IntKind.wrap .i64 ((4:Int)*Ej)+(2:Int)))) (0:Int))*(2:Int) ^ Min.min (Int.toNat (8:Int)) (Go.IntKind.bits Go.IntKind.u32)))) (IntKind.wrap .u32 (List.getD B4 (Int.toNat (IntKind.wrap .i64 (IntKind.wrap .i64 ((4:Int)*Ej)+(3:Int)))) (0:Int)))]
  let zf:=y3++Lc
  let ye:=IntKind.wrap .i64 ((4:Int)*Ej)
  bif iy [decide (List.length y3+(1:Nat)≤dh),decide ((0:Int)≤IntKind.wrap .i64 (ye+(3:Int))),decide (IntKind.wrap .i64 (ye+(3:Int))<(↑(List.length B4):Int)),true,decide ((0:Int)≤IntKind.wrap .i64 (ye+(2:Int))),decide (IntKind.wrap .i64 (ye+(2:Int))<(↑(List.length B4):Int)),true,decide ((0:Int)≤IntKind.wrap .i64 (ye+(1:Int))),decide (IntKind.wrap .i64 (ye+(1:Int))<(↑(List.length B4):Int)),true,decide ((0:Int)≤ye),decide (ye<(↑(List.length B4):Int))] then
   some (.inl (((IntKind.wrap .i64 (Ej+(1:Int))),B4,()),zf))
  else none
 else
  some (.inr ((),y3))
def Wh.TR:(((Unit))×((List (Int)))):=default
def Wh.Ey (xs:(List (Int))):Option (((List (Int)))×(Unit)):=
 let yA:=xs
 let x_59:Wh.OE:=(((0:Int),yA,()),[])
 bif lF Wh.Ez x_59 then
  let y_60:=kG Wh.Ez Wh.TR x_59
  let ls_61:=y_60.2
  let x_124:Wh.OF:=(((16:Int),()),ls_61)
  bif lF Wh.EA x_124 then
   let y_125:=kG Wh.EA Wh.TS x_124
   let ls_126:=y_125.2
   some (ls_126,())
  else none
 else none
def Wh.OD:=e_ Wh.Ey
theorem Wh.TT:OV Wh.Ey Wh.OD:=fk _
def Wh.q72 (_:Unit):Option (((List (Int)))×(Unit)):=
 let G4:List Int:=[(1116352408:Int),(1899447441:Int),(3049323471:Int),(3921009573:Int),(961987163:Int),(1508970993:Int),(2453635748:Int),(2870763221:Int),(3624381080:Int),(310598401:Int),(607225278:Int),(1426881987:Int),(1925078388:Int),(2162078206:Int),(2614888103:Int),(3248222580:Int),(3835390401:Int),(4022224774:Int),(264347078:Int),(604807628:Int),(770255983:Int),(1249150122:Int),(1555081692:Int),(1996064986:Int),(2554220882:Int),(2821834349:Int),(2952996808:Int),(3210313671:Int),(3336571891:Int),(3584528711:Int),(113926993:Int),(338241895:Int),(666307205:Int),(773529912:Int),(1294757372:Int),(1396182291:Int),(1695183700:Int),(1986661051:Int),(2177026350:Int),(2456956037:Int),(2730485921:Int),(2820302411:Int),(3259730800:Int),(3345764771:Int),(3516065817:Int),(3600352804:Int),(4094571909:Int),(275423344:Int),(430227734:Int),(506948616:Int),(659060556:Int),(883997877:Int),(958139571:Int),(1322822218:Int),(1537002063:Int),(1747873779:Int),(1955562222:Int),(2024104815:Int),(2227730452:Int),(2361852424:Int),(2428436474:Int),(2756734187:Int),(3204031479:Int),(3329325298:Int)]
 some (G4,())
def Wh.q72':=e_ Wh.q72
theorem Wh.q72_v:OV Wh.q72 Wh.q72':=fk _
abbrev Wh.QS:Type:=((Int)×(Unit)×(List (Int))×(Unit))×((List (Int))×(List (Int)))
abbrev Wh.aav:Type:=((((Unit))×((List (Int)))))
def Wh.Hw (x:Wh.QS):Option (Wh.QS⊕Wh.aav):=
 let C8:=x.1.1
 let NQ:List Int:=(x.1.2.2).1
 let N4:=x.2.1
 let N5:=x.2.2
 bif decide (C8<(8:Int)) then
  let pb_193:List Int:=[IntKind.wrap .u32 (List.getD NQ (Int.toNat C8) (0:Int)+List.getD N4 (Int.toNat C8) (0:Int))]
  let ls_194:=N5++pb_193
  bif iy [decide (List.length N5+(1:Nat)≤dh),decide ((0:Int)≤C8),decide (C8<(↑(List.length N4):Int)),decide ((0:Int)≤C8),decide (C8<(↑(List.length NQ):Int))] then
   some (.inl (((IntKind.wrap .i64 (C8+(1:Int))),(),NQ,()),N4,ls_194))
  else none
 else
  some (.inr ((),N5))
def Wh.Vo:(((Unit))×((List (Int)))):=default
abbrev Wh.QN:Type:=((Int)×(Unit)×(Unit)×(Unit)×(List (Int))×(Int)×(Int)×(Int)×(Int))×((List (Int))×(List (Int))×(List (Int)))
abbrev Wh.aau:Type:=((((Unit)×(Unit)×(Unit)×(List (Int))×(Int)×(Int)×(Int)×(Int))×((List (Int))×(List (Int))×(List (Int)))))
def Wh.Hv (x:Wh.QN):Option (Wh.QN⊕Wh.aau):=
 let FV:=x.1.1
 let h_73:List Int:=(x.1.2.2.2.2).1
 let i_74:Int:=(x.1.2.2.2.2).2.1
 let Tt:Int:=(x.1.2.2.2.2).2.2.1
 let a_76:Int:=(x.1.2.2.2.2).2.2.2.1
 let t_77:Int:=(x.1.2.2.2.2).2.2.2.2
 let Es:=x.2.1
 let ls_79:=x.2.2.1
 let ls_80:=x.2.2.2
 bif decide (FV>(0:Int)) then
  let ls_82:=List.set Es (Int.toNat FV) (List.getD Es (Int.toNat (IntKind.wrap .i64 (FV-(1:Int)))) (0:Int))
  let v_83:=IntKind.wrap .i64 (FV-(1:Int))
  bif iy [decide ((0:Int)≤FV),decide (FV<(↑(List.length Es):Int)),decide ((0:Int)≤v_83),decide (v_83<(↑(List.length Es):Int))] then
   some (.inl ((v_83,(),(),(),h_73,i_74,Tt,a_76,t_77),ls_82,ls_79,ls_80))
  else none
 else
  some (.inr (((),(),(),h_73,i_74,Tt,a_76,t_77),Es,ls_79,ls_80))
def Wh.QO:(((Unit)×(Unit)×(Unit)×(List (Int))×(Int)×(Int)×(Int)×(Int))×((List (Int))×(List (Int))×(List (Int)))):=default
abbrev Wh.QM:Type:=((Unit)×(Int)×(Unit)×(Unit)×(List (Int)))×((List (Int))×(List (Int))×(List (Int)))
abbrev Wh.aat:Type:=((((Unit)×(List (Int)))×((List (Int)))))
def Wh.Fa (x:Wh.QM):Option (Wh.QM⊕Wh.aat):=
 let C6:=x.1.2.1
 let h_103:=x.1.2.2.2.2
 let x8:=x.2.1
 let N1:=x.2.2.1
 let N2:=x.2.2.2
 bif decide (C6<(64:Int)) then
  let BV:=List.getD x8 (Int.toNat (4:Int)) (0:Int)
  let r_119:=Wh.y_ (BV,(6:Int))
  let r_120:=Wh.y_ (BV,(11:Int))
  let r_121:=Wh.y_ (BV,(25:Int))
  let e_122:Int:=nj Go.BinOp.xor Go.IntKind.u32 (nj Go.BinOp.xor Go.IntKind.u32 r_119.1 r_120.1) r_121.1
  bif iy [nQ (Wh.x6 (BV,(25:Int))),true,decide ((4:Int)<(↑(List.length x8):Int)),nQ (Wh.x6 (BV,(11:Int))),true,decide ((4:Int)<(↑(List.length x8):Int)),nQ (Wh.x6 (BV,(6:Int))),true,decide ((4:Int)<(↑(List.length x8):Int))] then
   let v_123:=List.getD x8 (Int.toNat (5:Int)) (0:Int)
   let v_124:=List.getD x8 (Int.toNat (6:Int)) (0:Int)
   let ch_127:Int:=nj Go.BinOp.xor Go.IntKind.u32 (nj Go.BinOp.and Go.IntKind.u32 BV v_123) (nj Go.BinOp.and Go.IntKind.u32 (nj Go.BinOp.xor Go.IntKind.u32 (Go.IntKind.max Go.IntKind.u32) BV) v_124)
   bif iy [true,decide ((6:Int)<(↑(List.length x8):Int)),true,decide ((4:Int)<(↑(List.length x8):Int)),true,decide ((5:Int)<(↑(List.length x8):Int)),true,decide ((4:Int)<(↑(List.length x8):Int))] then
    let v_128:=List.getD x8 (Int.toNat (7:Int)) (0:Int)
    let v_131:=List.getD N2 (Int.toNat C6) (0:Int)
    let v_133:=List.getD N1 (Int.toNat C6) (0:Int)
    bif iy [decide ((0:Int)≤C6),decide (C6<(↑(List.length N1):Int)),decide ((0:Int)≤C6),decide (C6<(↑(List.length N2):Int)),true,decide ((7:Int)<(↑(List.length x8):Int))] then
     let D0:=List.getD x8 (Int.toNat (0:Int)) (0:Int)
     let r_147:=Wh.y_ (D0,(2:Int))
     let r_148:=Wh.y_ (D0,(13:Int))
     let r_149:=Wh.y_ (D0,(22:Int))
     let a_150:Int:=nj Go.BinOp.xor Go.IntKind.u32 (nj Go.BinOp.xor Go.IntKind.u32 r_147.1 r_148.1) r_149.1
     bif iy [nQ (Wh.x6 (D0,(22:Int))),true,decide ((0:Int)<(↑(List.length x8):Int)),nQ (Wh.x6 (D0,(13:Int))),true,decide ((0:Int)<(↑(List.length x8):Int)),nQ (Wh.x6 (D0,(2:Int))),true,decide ((0:Int)<(↑(List.length x8):Int))] then
      let v_151:=List.getD x8 (Int.toNat (1:Int)) (0:Int)
      let v_152:=List.getD x8 (Int.toNat (2:Int)) (0:Int)
      let X8:Int:=nj Go.BinOp.xor Go.IntKind.u32 (nj Go.BinOp.xor Go.IntKind.u32 (nj Go.BinOp.and Go.IntKind.u32 D0 v_151) (nj Go.BinOp.and Go.IntKind.u32 D0 v_152)) (nj Go.BinOp.and Go.IntKind.u32 v_151 v_152)
      bif iy [true,decide ((2:Int)<(↑(List.length x8):Int)),true,decide ((1:Int)<(↑(List.length x8):Int)),true,decide ((2:Int)<(↑(List.length x8):Int)),true,decide ((0:Int)<(↑(List.length x8):Int)),true,decide ((1:Int)<(↑(List.length x8):Int)),true,decide ((0:Int)<(↑(List.length x8):Int))] then
       let x_156:Wh.QN:=(((7:Int),(),(),(),h_103,C6,X8,a_150,(IntKind.wrap .u32 (IntKind.wrap .u32 (IntKind.wrap .u32 (IntKind.wrap .u32 (v_128+e_122)+ch_127)+v_131)+v_133))),x8,N1,N2)
       bif lF Wh.Hv x_156 then
        let D7:=kG Wh.Hv Wh.QO x_156
        let h_158:=D7.1.2.2.2.1
        let i_159:Int:=(D7.1.2.2.2.2).1
        let X9:Int:=(D7.1.2.2.2.2).2.1
        let a_161:Int:=(D7.1.2.2.2.2).2.2.1
        let t_162:Int:=(D7.1.2.2.2.2).2.2.2
        let KQ:=D7.2.1
        let ls_164:=D7.2.2.1
        let ls_165:=D7.2.2.2
        let Sz:=List.set KQ (Int.toNat (4:Int)) (IntKind.wrap .u32 (List.getD KQ (Int.toNat (4:Int)) (0:Int)+t_162))
        bif iy [true,decide ((4:Int)<(↑(List.length KQ):Int)),true,decide ((4:Int)<(↑(List.length KQ):Int))] then
         let ls_169:=List.set Sz (Int.toNat (0:Int)) (IntKind.wrap .u32 (IntKind.wrap .u32 (t_162+a_161)+X9))
         bif iy [true,decide ((0:Int)<(↑(List.length Sz):Int))] then
          some (.inl (((),(IntKind.wrap .i64 (i_159+(1:Int))),(),(),h_158),ls_169,ls_164,ls_165))
         else none
        else none
       else none
      else none
     else none
    else none
   else none
  else none
 else
  some (.inr (((),h_103),x8))
def Wh.Vn:(((Unit)×(List (Int)))×((List (Int)))):=default
def Wh.q98 (xs:(List (Int))×(List (Int))):Option (((List (Int)))×(Unit)):=
 let h_0:=xs.1
 let b_1:=xs.2
 let r_2:List Int×Unit:=Wh.OD b_1
 bif iy [nQ (Wh.Ey b_1)] then
  let r_3:List Int×Unit:=Wh.q72' ()
  bif iy [nQ (Wh.q72 ())] then
   let G8:List Int:=[]++h_0
   bif iy [decide ((0:Nat)+List.length h_0≤dh)] then
    let x_173:Wh.QM:=(((),(0:Int),(),(),h_0),G8,r_2.1,r_3.1)
    bif lF Wh.Fa x_173 then
     let y_174:=kG Wh.Fa Wh.Vn x_173
     let h_175:=y_174.1.2
     let ls_176:=y_174.2
     let x_199:Wh.QS:=(((0:Int),(),h_175,()),ls_176,[])
     bif lF Wh.Hw x_199 then
      let y_200:=kG Wh.Hw Wh.Vo x_199
      let ls_201:=y_200.2
      some (ls_201,())
     else none
    else none
   else none
  else none
 else none
def Wh.q98':=e_ Wh.q98
theorem Wh.q98_v:OV Wh.q98 Wh.q98':=fk _
abbrev Wh.PG:Type:=((Int)×(Unit)×(Unit))×((List (Int))×(List (Int)))
abbrev Wh.ZI:Type:=((((Unit))×((List (Int)))))
def Wh.Hj (x:Wh.PG):Option (Wh.PG⊕Wh.ZI):=
 let Af:=x.1.1
 let xY:=x.2.1
 let zf:=x.2.2
 bif decide (Af<(8:Int)) then
  let Oz:List Int:=[IntKind.wrap .u8 (Int.fdiv (List.getD xY (Int.toNat Af) (0:Int)) ((2:Int) ^ Min.min (Int.toNat (24:Int)) (Go.IntKind.bits Go.IntKind.u32))),IntKind.wrap .u8 (Int.fdiv (List.getD xY (Int.toNat Af) (0:Int)) ((2:Int) ^ Min.min (Int.toNat (16:Int)) (Go.IntKind.bits Go.IntKind.u32))),IntKind.wrap .u8 (Int.fdiv (List.getD xY (Int.toNat Af) (0:Int)) ((2:Int) ^ Min.min (Int.toNat (8:Int)) (Go.IntKind.bits Go.IntKind.u32))),IntKind.wrap .u8 (List.getD xY (Int.toNat Af) (0:Int))]
  let yN:=zf++Oz
  bif iy [decide (List.length zf+(4:Nat)≤dh),decide ((0:Int)≤Af),decide (Af<(↑(List.length xY):Int)),true,decide ((0:Int)≤Af),decide (Af<(↑(List.length xY):Int)),true,decide ((0:Int)≤Af),decide (Af<(↑(List.length xY):Int)),true,decide ((0:Int)≤Af),decide (Af<(↑(List.length xY):Int))] then
   some (.inl (((IntKind.wrap .i64 (Af+(1:Int))),(),()),xY,yN))
  else none
 else
  some (.inr ((),zf))
def Wh.Uy:(((Unit))×((List (Int)))):=default
abbrev Wh.PF:Type:=((Int)×(Unit)×(Unit))×((List (Int))×(List (Int)))
abbrev Wh.ZH:Type:=((((Unit))×((List (Int)))))
def Wh.Dv (x:Wh.PF):Option (Wh.PF⊕Wh.ZH):=
 let zT:=x.1.1
 let AM:=x.2.1
 let G2:=x.2.2
 bif decide (zT<(↑(List.length AM):Int)) then
  let DX:List Int×Unit:=Wh.q98' (G2,List.take (Int.toNat (IntKind.wrap .i64 (zT+(64:Int))-zT)) (List.drop (Int.toNat zT) AM))
  let nS:=IntKind.wrap .i64 (zT+(64:Int))
  bif iy [nQ (Wh.q98 (G2,List.take (Int.toNat (nS-zT)) (List.drop (Int.toNat zT) AM))),decide ((0:Int)≤zT),decide (zT≤nS),decide (nS≤(↑(List.length AM):Int))] then
   some (.inl ((nS,(),()),AM,DX.1))
  else none
 else
  some (.inr ((),G2))
def Wh.Ux:(((Unit))×((List (Int)))):=default
def Wh.EX (xs:(List UInt8)):Option (((List UInt8))×(Unit)):=
 let yE:=xs
 let r_1:List Int×Unit:=Wh.q73' yE
 bif iy [nQ (Wh.q73 yE)] then
  let x_16:Wh.PF:=(((0:Int),(),()),r_1.1,[(1779033703:Int),(3144134277:Int),(1013904242:Int),(2773480762:Int),(1359893119:Int),(2600822924:Int),(528734635:Int),(1541459225:Int)])
  bif lF Wh.Dv x_16 then
   let y_17:=kG Wh.Dv Wh.Ux x_16
   let vN:=y_17.2
   let x_47:Wh.PG:=(((0:Int),(),()),vN,[])
   bif lF Wh.Hj x_47 then
    let y_48:=kG Wh.Hj Wh.Uy x_47
    let KU:=y_48.2
    some (qp KU,())
   else none
  else none
 else none
def Wh.PE:=e_ Wh.EX
theorem Wh.Uz:OV Wh.EX Wh.PE:=fk _
abbrev Wh.PC:Type:=((Int)×(List UInt8)×(Unit))×((List (Int)))
abbrev Wh.ZG:Type:=((((Unit))×((List (Int)))))
def Wh.Du (x:Wh.PC):Option (Wh.PC⊕Wh.ZG):=
 let zv:=x.1.1
 let Be:=x.1.2.1
 let x9:=x.2
 let xe:=decide (zv<(↑(List.length Be):Int))
 bif xe then
  let Ev:List Int:=[(↑(UInt8.toNat (List.getD [(48:UInt8),(49:UInt8),(50:UInt8),(51:UInt8),(52:UInt8),(53:UInt8),(54:UInt8),(55:UInt8),(56:UInt8),(57:UInt8),(97:UInt8),(98:UInt8),(99:UInt8),(100:UInt8),(101:UInt8),(102:UInt8)] (Int.toNat (IntKind.wrap .u8 (Int.tdiv (↑(UInt8.toNat (List.getD Be (Int.toNat zv) (0:UInt8))):Int) (16:Int)))) (0:UInt8))):Int),(↑(UInt8.toNat (List.getD [(48:UInt8),(49:UInt8),(50:UInt8),(51:UInt8),(52:UInt8),(53:UInt8),(54:UInt8),(55:UInt8),(56:UInt8),(57:UInt8),(97:UInt8),(98:UInt8),(99:UInt8),(100:UInt8),(101:UInt8),(102:UInt8)] (Int.toNat (Int.tmod (↑(UInt8.toNat (List.getD Be (Int.toNat zv) (0:UInt8))):Int) (16:Int))) (0:UInt8))):Int)]
  let vN:=x9++Ev
  let nG:Int:=(↑(UInt8.toNat (List.getD Be (Int.toNat zv) (0:UInt8))):Int)
  bif iy [decide (List.length x9+(2:Nat)≤dh),decide ((0:Int)≤Int.tmod nG (16:Int)),decide (Int.tmod nG (16:Int)<(↑(16:Nat):Int)),true,decide ((0:Int)≤zv),xe,decide ((0:Int)≤IntKind.wrap .u8 (Int.tdiv nG (16:Int))),decide (IntKind.wrap .u8 (Int.tdiv nG (16:Int))<(↑(16:Nat):Int)),true,decide ((0:Int)≤zv),xe] then
   some (.inl (((IntKind.wrap .i64 (zv+(1:Int))),Be,()),vN))
  else none
 else
  some (.inr ((),x9))
def Wh.Uw:(((Unit))×((List (Int)))):=default
def Wh.Dt (xs:(List UInt8)):Option (((List UInt8))×(Unit)):=
 let eA:=xs
 let x_25:Wh.PC:=(((0:Int),eA,()),[])
 bif lF Wh.Du x_25 then
  let z_:=kG Wh.Du Wh.Uw x_25
  let yM:=z_.2
  some (qp yM,())
 else none
def Wh.Lx:=e_ Wh.Dt
theorem Wh.PD:OV Wh.Dt Wh.Lx:=fk _
def Wh.q93 (xs:(List UInt8)):Option (((List UInt8))×(Unit)):=
 let yE:=xs
 let r_1:xV.D:=Wh.PE yE
 let r_3:xV.D:=Wh.Lx r_1.1
 bif iy [nQ (Wh.Dt r_1.1),nQ (Wh.EX yE)] then
  some (r_3.1,())
 else none
def Wh.DW:=e_ Wh.q93
theorem Wh.q93_v:OV Wh.q93 Wh.DW:=fk _
def Wh.EJ (xs:(Int)×(List UInt8)):Option (((List UInt8))×(Unit)):=
 let yj:=xs.1
 let yV:=xs.2
 let r_2:xV.D:=Wh.A9 yj
 let fT:xV.D:=Wh.A9 (↑(List.length yV):Int)
 let zR:=r_2.1 ++ [(32:UInt8)]++fT.1 ++ [(32:UInt8)]
 bif iy [decide (List.length (r_2.1 ++ [(32:UInt8)]++fT.1)+(1:Nat)≤dh),decide (List.length (r_2.1 ++ [(32:UInt8)])+List.length fT.1≤dh),nQ (Wh.BH (↑(List.length yV):Int)),decide (List.length r_2.1+(1:Nat)≤dh),nQ (Wh.BH yj)] then
  let zp:List UInt8:=zR++yV
  let yD:xV.D:=Wh.DW zp
  let wX:List UInt8:=zR++List.take (Int.toNat ((16:Int)-(0:Int))) (List.drop (Int.toNat (0:Int)) yD.1) ++ [(32:UInt8)]++yV ++ [(10:UInt8)]
  bif iy [decide (List.length (zR++List.take (Int.toNat ((16:Int)-(0:Int))) (List.drop (Int.toNat (0:Int)) ((Wh.DW zp).1)) ++ [(32:UInt8)]++yV)+(1:Nat)≤dh),decide (List.length (zR++List.take (Int.toNat ((16:Int)-(0:Int))) (List.drop (Int.toNat (0:Int)) ((Wh.DW zp).1)) ++ [(32:UInt8)])+List.length yV≤dh),decide (List.length (zR++List.take (Int.toNat ((16:Int)-(0:Int))) (List.drop (Int.toNat (0:Int)) ((Wh.DW zp).1)))+(1:Nat)≤dh),decide (List.length zR+List.length (List.take (Int.toNat ((16:Int)-(0:Int))) (List.drop (Int.toNat (0:Int)) ((Wh.DW zp).1)))≤dh),true,true,decide ((16:Int)≤(↑(List.length ((Wh.DW zp).1)):Int)),nQ (Wh.q93 zp),decide (List.length zR+List.length yV≤dh)] then
   some (wX,())
  else none
 else none
def Wh.O8:=e_ Wh.EJ
theorem Wh.O9:OV Wh.EJ Wh.O8:=fk _
def Wh.Cp (xs:(List UInt8)×(Int)×(Int)):Option (((List UInt8)×(Int))×(Unit)):=
 let yI:=xs.1
 let zu:=xs.2.1
 let On:=xs.2.2
 let r_3:=Wh.Hf (yI,zu,(32:Int))
 bif iy [nQ (Wh.yU (yI,zu,(32:Int)))] then
  let yx:=decide (r_3.1<(0:Int))
  let x_:=Wh.Ho (List.take (Int.toNat (r_3.1-zu)) (List.drop (Int.toNat zu) yI))
  let z8:=bif yx then true else x_.1 != On
  bif iy [!!yx || nQ (Wh.Ax (List.take (Int.toNat (r_3.1-zu)) (List.drop (Int.toNat zu) yI))),!!yx || decide ((0:Int)≤zu),!!yx || decide (zu≤r_3.1),!!yx || decide (r_3.1≤(↑(List.length yI):Int))] then
   bif z8 then
    some (([],(0:Int)),())
   else
    let zb:=IntKind.wrap .i64 (r_3.1+(1:Int))
    let r_9:=Wh.Hf (yI,zb,(32:Int))
    bif iy [nQ (Wh.yU (yI,zb,(32:Int)))] then
     bif decide (r_9.1<(0:Int)) then
      some (([],(0:Int)),())
     else
      let DX:=Wh.Ho (List.take (Int.toNat (r_9.1-zb)) (List.drop (Int.toNat zb) yI))
      bif iy [nQ (Wh.Ax (List.take (Int.toNat (r_9.1-zb)) (List.drop (Int.toNat zb) yI))),decide ((0:Int)≤zb),decide (zb≤r_9.1),decide (r_9.1≤(↑(List.length yI):Int))] then
       let nS:=IntKind.wrap .i64 (r_9.1+(18:Int))
       let r_15:=Wh.ym (DX.1,(1:Int),(500:Int))
       let xe:=bif !r_15.1 then true else decide (IntKind.wrap .i64 (IntKind.wrap .i64 (nS+DX.1)+(1:Int))>(↑(List.length yI):Int))
       bif iy [nQ (Wh.xS (DX.1,(1:Int),(500:Int)))] then
        bif xe then
         some (([],(0:Int)),())
        else
         let xW:=IntKind.wrap .i64 (nS+DX.1)
         let yD:xV.D:=Wh.O8 (On,List.take (Int.toNat (xW-nS)) (List.drop (Int.toNat nS) yI))
         bif iy [nQ (Wh.EJ (On,List.take (Int.toNat (xW-nS)) (List.drop (Int.toNat nS) yI))),decide ((0:Int)≤nS),decide (nS≤xW),decide (xW≤(↑(List.length yI):Int))] then
          bif iy [decide ((0:Int)≤zu),decide (zu≤IntKind.wrap .i64 (xW+(1:Int))),decide (IntKind.wrap .i64 (xW+(1:Int))≤(↑(List.length yI):Int))] then
           bif(!List.take (Int.toNat (IntKind.wrap .i64 (xW+(1:Int))-zu)) (List.drop (Int.toNat zu) yI)==yD.1) then
            some (([],(0:Int)),())
           else
            let AD:Int:=(↑(List.length yD.1):Int)
            let n_:List UInt8:=List.take (Int.toNat (xW-nS)) (List.drop (Int.toNat nS) yI)
            bif iy [decide ((0:Int)≤nS),decide (nS≤xW),decide (xW≤(↑(List.length yI):Int))] then
             some ((n_,AD),())
            else none
          else none
         else none
       else none
      else none
    else none
  else none
 else none
def Wh.O_:=e_ Wh.Cp
theorem Wh.Pa:OV Wh.Cp Wh.O_:=fk _
abbrev Wh.Pb:Type:=((Int)×(Unit)×(List UInt8))×((List (List UInt8)))
abbrev Wh.Zw:Type:=((((Unit)×(Int))×((List (List UInt8)))))
def Wh.Dk (x:Wh.Pb):Option (Wh.Pb⊕Wh.Zw):=
 let Kn:=x.1.1
 let NZ:=x.1.2.2
 let xX:List (List UInt8):=x.2
 let nC:Int:=(↑(List.length xX):Int)
 let BQ:(List UInt8×Int)×Unit:=Wh.O_ (NZ,Kn,nC)
 bif iy [nQ (Wh.Cp (NZ,Kn,nC))] then
  bif(BQ.1.2==(0:Int)) then
   some (.inr (((),Kn),xX))
  else
   let pb_30:List (List UInt8):=[BQ.1.1]
   let y2:List (List UInt8):=xX++pb_30
   bif iy [decide (List.length xX+(1:Nat)≤dh)] then
    some (.inl (((IntKind.wrap .i64 (Kn+BQ.1.2)),(),NZ),y2))
   else none
 else none
def Wh.Uf:(((Unit)×(Int))×((List (List UInt8)))):=default
def Wh.A7 (xs:(List UInt8)):Option (((List (List UInt8))×(Int))×(Unit)):=
 let yI:=xs
 let x_33:Wh.Pb:=(((0:Int),(),yI),[])
 bif lF Wh.Dk x_33 then
  let y_34:=kG Wh.Dk Wh.Uf x_33
  let HN:=y_34.1.2
  let FO:List (List UInt8):=y_34.2
  some ((FO,HN),())
 else none
def Wh.Hg:=e_ Wh.A7
theorem Wh.Ll:OV Wh.A7 Wh.Hg:=fk _
abbrev Wh.O4:Type:=((Int)×(Int)×(List UInt8)×(Unit)×(Int))×((List (List UInt8)))
abbrev Wh.Zu:Type:=((((Int)×(List UInt8)×(Unit))×((List (List UInt8)))))
def Wh.zj (x:Wh.O4):Option (Wh.O4⊕Wh.Zu):=
 let gT:=x.1.1
 let FG:=x.1.2.1
 let Fh:List UInt8:=(x.1.2.2).1
 let Nz:=x.1.2.2.2.2
 let xX:List (List UInt8):=x.2
 let nC:=decide (gT<(↑(List.length Fh):Int))
 bif nC then
  let wX:Int:=(↑(UInt8.toNat (List.getD Fh (Int.toNat gT) (0:UInt8))):Int)
  let yd:=wX==Nz
  bif iy [decide ((0:Int)≤gT),nC] then
   bif yd then
    let AP:List (List UInt8):=[List.take (Int.toNat (gT-FG)) (List.drop (Int.toNat FG) Fh)]
    let A3:List (List UInt8):=xX++AP
    bif iy [decide (List.length xX+(1:Nat)≤dh),decide ((0:Int)≤FG),decide (FG≤gT),decide (gT≤(↑(List.length Fh):Int))] then
     let n_:=IntKind.wrap .i64 (gT+(1:Int))
     some (.inl ((n_,n_,Fh,(),Nz),A3))
    else none
   else
    some (.inl (((IntKind.wrap .i64 (gT+(1:Int))),FG,Fh,(),Nz),xX))
  else none
 else
  some (.inr ((FG,Fh,()),xX))
def Wh.Ud:(((Int)×(List UInt8)×(Unit))×((List (List UInt8)))):=default
def Wh.Co (xs:(List UInt8)×(Int)):Option (((List (List UInt8)))×(Unit)):=
 let eA:=xs.1
 let zu:=xs.2
 let Al:Wh.O4:=(((0:Int),(0:Int),eA,(),zu),[])
 bif lF Wh.zj Al then
  let zL:=kG Wh.zj Wh.Ud Al
  let KF:=zL.1.1
  let HH:=zL.1.2.1
  let y3:List (List UInt8):=zL.2
  let xO:List (List UInt8):=[List.take (Int.toNat ((↑(List.length HH):Int)-KF)) (List.drop (Int.toNat KF) HH)]
  let xY:List (List UInt8):=y3++xO
  bif iy [decide (List.length y3+(1:Nat)≤dh),decide ((0:Int)≤KF),decide (KF≤(↑(List.length HH):Int)),decide ((↑(List.length HH):Int)≤(↑(List.length HH):Int))] then
   some (xY,())
  else none
 else none
def Wh.O3:=e_ Wh.Co
theorem Wh.O5:OV Wh.Co Wh.O3:=fk _
abbrev Wh.OX:Type:=((Int)×(List UInt8))×(Unit)
abbrev Wh.Zp:Type:=((((Bool))×(Unit))⊕(((List UInt8))×(Unit)))
def Wh.Cn (x:Wh.OX):Option (Wh.OX⊕Wh.Zp):=
 let zT:=x.1.1
 let LZ:=x.1.2
 let zm:=decide (zT<(↑(List.length LZ):Int))
 bif zm then
  let yQ:Int:=(↑(UInt8.toNat (List.getD LZ (Int.toNat zT) (0:UInt8))):Int)
  let yc:=bif decide (yQ<(97:Int)) then true else decide (yQ>(122:Int))
  bif iy [!!decide (yQ<(97:Int)) || decide ((0:Int)≤zT),!!decide (yQ<(97:Int)) || zm,decide ((0:Int)≤zT),zm] then
   bif yc then
    some (.inr (.inl (false,())))
   else
    some (.inl (((IntKind.wrap .i64 (zT+(1:Int))),LZ),()))
  else none
 else
  some (.inr (.inr (LZ,())))
def Wh.T7:(((Bool))×(Unit))⊕(((List UInt8))×(Unit)):=.inl default
def Wh.EH (xs:(List UInt8)):Option (((Bool))×(Unit)):=
 let yE:=xs
 let x_17:Wh.OX:=(((0:Int),yE),())
 bif lF Wh.Cn x_17 then
  sumC (kG Wh.Cn Wh.T7 x_17) (fun Fq=>
   let nC:=Fq.1
   some (nC,())) (fun Ic=>
   let VI:=Ic.1
   let nP:=Wh.ym ((↑(List.length VI):Int),(1:Int),(6:Int))
   bif iy [nQ (Wh.xS ((↑(List.length VI):Int),(1:Int),(6:Int)))] then
    some (nP.1,())
   else none)
 else none
def Wh.OW:=e_ Wh.EH
theorem Wh.T8:OV Wh.EH Wh.OW:=fk _
def Wh.BI (xs:(an.D)):Option (((Bool))×(Unit)):=
 let t_0:an.D:=xs
 let r_1:=Wh.ym (t_0.1,(0:Int),(1:Int))
 let r_2:=Wh.OW t_0.2.1
 let x_:=Wh.ym ((↑(List.length ((t_0.2.2.2).1)):Int),(1:Int),(300:Int))
 let zb:=bif bif r_1.1 then r_2.1 else false then x_.1 else false
 bif iy [(!bif r_1.1 then r_2.1 else false) || nQ (Wh.xS ((↑(List.length ((t_0.2.2.2).1)):Int),(1:Int),(300:Int))),!r_1.1 || nQ (Wh.EH t_0.2.1),nQ (Wh.xS (t_0.1,(0:Int),(1:Int)))] then
  some (zb,())
 else none
def Wh.F8:=e_ Wh.BI
theorem Wh.Dy:OV Wh.BI Wh.F8:=fk _
def Wh.q43 (xs:(Int)×(List UInt8)×(List UInt8)):Option (((List UInt8))×(Unit)):=
 let C5:=xs.1
 let yJ:=xs.2.1
 let Ak:=xs.2.2
 let s4:=Ak == []
 bif s4 then
  let fT:=Wh.F8 (C5,yJ,(0:Int),[(120:UInt8)],())
  bif iy [nQ (Wh.BI (C5,yJ,(0:Int),[(120:UInt8)],()))] then
   bif !fT.1 then
    some ([],())
   else
    let x_:xV.D:=Wh.A9 C5
    let z7:=x_.1 ++ [(32:UInt8)]++yJ ++ [(58:UInt8)]++Ak
    bif iy [decide (List.length (x_.1 ++ [(32:UInt8)]++yJ ++ [(58:UInt8)])+List.length Ak≤dh),decide (List.length (x_.1 ++ [(32:UInt8)]++yJ)+(1:Nat)≤dh),decide (List.length (x_.1 ++ [(32:UInt8)])+List.length yJ≤dh),decide (List.length x_.1+(1:Nat)≤dh),nQ (Wh.BH C5)] then
     some (z7,())
    else none
  else none
 else
  let r_11:=Wh.F8 (C5,yJ,(0:Int),Ak,())
  bif iy [nQ (Wh.BI (C5,yJ,(0:Int),Ak,()))] then
   bif !r_11.1 then
    some ([],())
   else
    let zk:xV.D:=Wh.A9 C5
    let xW:=zk.1 ++ [(32:UInt8)]++yJ ++ [(58:UInt8)]++Ak
    bif iy [decide (List.length (zk.1 ++ [(32:UInt8)]++yJ ++ [(58:UInt8)])+List.length Ak≤dh),decide (List.length (zk.1 ++ [(32:UInt8)]++yJ)+(1:Nat)≤dh),decide (List.length (zk.1 ++ [(32:UInt8)])+List.length yJ≤dh),decide (List.length zk.1+(1:Nat)≤dh),nQ (Wh.BH C5)] then
     some (xW,())
    else none
  else none
def Wh.q43':=e_ Wh.q43
theorem Wh.Qa:OV Wh.q43 Wh.q43':=fk _
def Wh.EL (xs:(an.D)×(Int)×(List UInt8)):Option (((Bool))×(Unit)):=
 let cr:an.D:=xs.1
 let w7:=xs.2.1
 let yl:=xs.2.2
 let xQ:=bif decide (cr.1<w7) then true else bif cr.1==w7 then Go.Op.bytesLess cr.2.1 yl else false
 some (xQ,())
def Wh.Lm:=e_ Wh.EL
theorem Wh.Ln:OV Wh.EL Wh.Lm:=fk _
abbrev Wh.OG:Type:=((Int)×(List (an.D))×(Int)×(Int))×(Unit)
abbrev Wh.Zk:Type:=((((Int))×(Unit)))
def Wh.Cj (x:Wh.OG):Option (Wh.OG⊕Wh.Zk):=
 let gT:=x.1.1
 let KP:List (an.D):=x.1.2.1
 let Eu:Int:=(x.1.2.2).1
 let Eh:=x.1.2.2.2
 let nG:Int:=(↑(List.length KP):Int)
 bif decide (gT<nG) then
  let wX:an.D:=List.getD KP (Int.toNat gT) ((0:Int),[],(0:Int),[],())
  bif iy [decide ((0:Int)≤gT),decide (gT<nG)] then
   bif(wX.1==Eh) then
    bif iy [decide ((0:Int)≤gT),decide (gT<nG)] then
     some (.inl (((IntKind.wrap .i64 (gT+(1:Int))),KP,(IntKind.wrap .i64 (Eu+(↑(List.length ((wX.2.2.2).1)):Int))),Eh),()))
    else none
   else
    some (.inl (((IntKind.wrap .i64 (gT+(1:Int))),KP,Eu,Eh),()))
  else none
 else
  some (.inr (Eu,()))
def Wh.TU:(((Int))×(Unit)):=default
def Wh.Df (xs:(List (an.D))×(Int)):Option (((Int))×(Unit)):=
 let list_0:List (an.D):=xs.1
 let w7:=xs.2
 let Al:Wh.OG:=(((0:Int),list_0,(0:Int),w7),())
 bif lF Wh.Cj Al then
  let zL:=kG Wh.Cj Wh.TU Al
  let n_30:=zL.1
  some (n_30,())
 else none
def Wh.Lf:=e_ Wh.Df
theorem Wh.Lg:OV Wh.Df Wh.Lf:=fk _
abbrev Wh.Px:Type:=((Int)×(Unit))×((bx.D))
abbrev Wh.ZE:Type:=((((Bool))×(Unit))⊕((Unit)×(Unit)))
def Wh.ET (x:Wh.Px):Option (Wh.Px⊕Wh.ZE):=
 let h_66:=x.1.1
 let G3:bx.D:=x.2
 bif decide (h_66<(2:Int)) then
  let r_69:=Wh.Lf (G3.2.1,h_66)
  bif iy [nQ (Wh.Df (G3.2.1,h_66))] then
   bif decide (r_69.1>(500:Int)) then
    some (.inr (.inl (false,())))
   else
    some (.inl (((IntKind.wrap .i64 (h_66+(1:Int))),()),G3))
  else none
 else
  some (.inr (.inr ((),())))
def Wh.Uu:(((Bool))×(Unit))⊕((Unit)×(Unit)):=.inl default
abbrev Wh.Pw:Type:=((Int)×(Unit)×(Unit)×(Int))×((an.D)×(bx.D))
abbrev Wh.ZD:Type:=((((Bool))×(Unit))⊕(((Unit)×(Int))×((bx.D))))
def Wh.Dq (x:Wh.Pw):Option (Wh.Pw⊕Wh.ZD):=
 let GY:=x.1.1
 let i_23:=x.1.2.2.2
 let A3:an.D:=x.2.1
 let KR:bx.D:=x.2.2
 bif decide (GY<i_23) then
  let Bg:an.D:=List.getD KR.2.1 (Int.toNat GY) ((0:Int),[],(0:Int),[],())
  bif iy [decide ((0:Int)≤GY),decide (GY<(↑(List.length KR.2.1):Int))] then
   bif(Bg.2.2.1==A3.2.2.1) then
    some (.inr (.inl (false,())))
   else
    some (.inl (((IntKind.wrap .i64 (GY+(1:Int))),(),(),i_23),A3,KR))
  else none
 else
  some (.inr (.inr (((),i_23),KR)))
def Wh.Ut:(((Bool))×(Unit))⊕(((Unit)×(Int))×((bx.D))):=.inl default
abbrev Wh.Pv:Type:=((Unit)×(Int))×((bx.D))
abbrev Wh.ZC:Type:=((((Bool))×(Unit))⊕(((Unit))×((bx.D))))
def Wh.Cw (x:Wh.Pv):Option (Wh.Pv⊕Wh.ZC):=
 let Aq:=x.1.2
 let yN:bx.D:=x.2
 let Fm:Int:=(↑(List.length yN.2.1):Int)
 bif decide (Aq<Fm) then
  let Au:an.D:=List.getD yN.2.1 (Int.toNat Aq) ((0:Int),[],(0:Int),[],())
  bif iy [decide ((0:Int)≤Aq),decide (Aq<Fm)] then
   let HD:=Wh.F8 Au
   let LM:=Wh.ym (Au.2.2.1,(1:Int),yN.1)
   let r_46:=Wh.Lm (List.getD yN.2.1 (Int.toNat (IntKind.wrap .i64 (Aq-(1:Int)))) ((0:Int),[],(0:Int),[],()),Au.1,Au.2.1)
   let v_47:=bif bif !HD.1 then true else !LM.1 then true else bif decide (Aq>(0:Int)) then !r_46.1 else false
   bif iy [!(decide (Aq>(0:Int)) && !bif !HD.1 then true else !LM.1) || nQ (Wh.EL (List.getD yN.2.1 (Int.toNat (IntKind.wrap .i64 (Aq-(1:Int)))) ((0:Int),[],(0:Int),[],()),Au.1,Au.2.1)),!(decide (Aq>(0:Int)) && !bif !HD.1 then true else !LM.1) || decide ((0:Int)≤IntKind.wrap .i64 (Aq-(1:Int))),!(decide (Aq>(0:Int)) && !bif !HD.1 then true else !LM.1) || decide (IntKind.wrap .i64 (Aq-(1:Int))<Fm),!!!HD.1 || nQ (Wh.xS (Au.2.2.1,(1:Int),yN.1)),nQ (Wh.BI Au)] then
    bif v_47 then
     some (.inr (.inl (false,())))
    else
     let HY:Wh.Pw:=(((0:Int),(),(),Aq),Au,yN)
     bif lF Wh.Dq HY then
      sumC (kG Wh.Dq Wh.Ut HY) (fun Gr=>
       let BW:=Gr.1
       some (.inr (.inl (BW,())))) (fun z_50=>
       let i_52:=z_50.1.2
       let KV:bx.D:=z_50.2
       some (.inl (((),(IntKind.wrap .i64 (i_52+(1:Int)))),KV)))
     else none
   else none
  else none
 else
  some (.inr (.inr ((),yN)))
def Wh.Us:(((Bool))×(Unit))⊕(((Unit))×((bx.D))):=.inl default
def Wh.Dp (xs:(bx.D)):Option (((Bool))×(Unit)):=
 let gz:bx.D:=xs
 let r_1:=Wh.ym (gz.1,(0:Int),(99999:Int))
 let v_2:=bif !r_1.1 then true else decide ((↑(List.length gz.2.1):Int)>(8:Int))
 bif iy [nQ (Wh.xS (gz.1,(0:Int),(99999:Int)))] then
  bif v_2 then
   some (false,())
  else
   let HZ:Wh.Pv:=(((),(0:Int)),gz)
   bif lF Wh.Cw HZ then
    sumC (kG Wh.Cw Wh.Us HZ) (fun y_56=>
     let v_58:=y_56.1
     some (v_58,())) (fun z_57=>
     let ls_59:bx.D:=z_57.2
     let x_72:Wh.Px:=(((0:Int),()),ls_59)
     bif lF Wh.ET x_72 then
      sumC (kG Wh.ET Wh.Uu x_72) (fun y_73=>
       let v_75:=y_73.1
       some (v_75,())) (fun _=>
       some (true,()))
     else none)
   else none
 else none
def Wh.Lu:=e_ Wh.Dp
theorem Wh.F6:OV Wh.Dp Wh.Lu:=fk _
abbrev Wh.PM:Type:=((Int)×(List UInt8)×(Unit)×(Int))×((bx.D))
abbrev Wh.ZM:Type:=((((Int))×(Unit))⊕((Unit)×(Unit)))
def Wh.CB (x:Wh.PM):Option (Wh.PM⊕Wh.ZM):=
 let C7:=x.1.1
 let Tw:=x.1.2.1
 let KK:=x.1.2.2.2
 let x4:bx.D:=x.2
 let w9:Int:=(↑(List.length x4.2.1):Int)
 bif decide (C7<w9) then
  let nC:an.D:=List.getD x4.2.1 (Int.toNat C7) ((0:Int),[],(0:Int),[],())
  let zI:=bif nC.1==KK then nC.2.1==Tw else false
  bif iy [!nC.1==KK || decide ((0:Int)≤C7),!nC.1==KK || decide (C7<w9),decide ((0:Int)≤C7),decide (C7<w9)] then
   bif zI then
    some (.inr (.inl (C7,())))
   else
    some (.inl (((IntKind.wrap .i64 (C7+(1:Int))),Tw,(),KK),x4))
  else none
 else
  some (.inr (.inr ((),())))
def Wh.UF:(((Int))×(Unit))⊕((Unit)×(Unit)):=.inl default
def Wh.A_ (xs:(bx.D)×(Int)×(List UInt8)):Option (((Int))×(Unit)):=
 let gz:bx.D:=xs.1
 let w7:=xs.2.1
 let yl:=xs.2.2
 let x_25:Wh.PM:=(((0:Int),yl,(),w7),gz)
 bif lF Wh.CB x_25 then
  sumC (kG Wh.CB Wh.UF x_25) (fun z_=>
   let nE:=z_.1
   some (nE,())) (fun _=>
   some ((-1:Int),()))
 else none
def Wh.Lz:=e_ Wh.A_
theorem Wh.Hp:OV Wh.A_ Wh.Lz:=fk _
def Wh.A8 (xs:(bx.D)):Option ((((Int)×((List (an.D))×(Unit))))×(Unit)):=
 let gz:bx.D:=xs
 let y4:List (an.D):=[]++gz.2.1
 bif iy [decide ((0:Nat)+List.length gz.2.1≤dh)] then
  some ((gz.1,y4,gz.2.2),())
 else none
def Wh.EK:=e_ Wh.A8
theorem Wh.F4:OV Wh.A8 Wh.EK:=fk _
def Wh.EM (xs:(bx.D)×(Int)):Option ((((Int)×((List (an.D))×(Unit))))×(Unit)):=
 let gz:bx.D:=xs.1
 let k_1:=xs.2
 let pb_2:List (an.D):=[]++List.take (Int.toNat (k_1-(0:Int))) (List.drop (Int.toNat (0:Int)) gz.2.1)
 let G6:List (an.D):=pb_2++List.take (Int.toNat ((↑(List.length gz.2.1):Int)-IntKind.wrap .i64 (k_1+(1:Int)))) (List.drop (Int.toNat (IntKind.wrap .i64 (k_1+(1:Int)))) gz.2.1)
 let yx:List (an.D):=List.take (Int.toNat (k_1-(0:Int))) (List.drop (Int.toNat (0:Int)) gz.2.1)
 let xQ:=IntKind.wrap .i64 (k_1+(1:Int))
 bif iy [decide (List.length pb_2+List.length (List.take (Int.toNat ((↑(List.length gz.2.1):Int)-xQ)) (List.drop (Int.toNat xQ) gz.2.1))≤dh),decide ((0:Int)≤xQ),decide (xQ≤(↑(List.length gz.2.1):Int)),decide ((↑(List.length gz.2.1):Int)≤(↑(List.length gz.2.1):Int)),decide ((0:Nat)+List.length yx≤dh),true,decide ((0:Int)≤k_1),decide (k_1≤(↑(List.length gz.2.1):Int))] then
  some ((gz.1,G6,()),())
 else none
def Wh.Pe:=e_ Wh.EM
theorem Wh.Ug:OV Wh.EM Wh.Pe:=fk _
def Wh.q92 (xs:(bx.D)×(Int)×(List UInt8)):Option ((((Int)×((List (an.D))×(Unit)))×(Int))×(Unit)):=
 let gz:bx.D:=xs.1
 let w7:=xs.2.1
 let yl:=xs.2.2
 let r_3:=Wh.Lu gz
 bif iy [nQ (Wh.Dp gz)] then
  bif !r_3.1 then
   some ((((0:Int),[],()),(1:Int)),())
  else
   let fT:=Wh.Lz (gz,w7,yl)
   bif iy [nQ (Wh.A_ (gz,w7,yl))] then
    bif decide (fT.1<(0:Int)) then
     let yw:(bx.D)×Unit:=Wh.EK gz
     bif iy [nQ (Wh.A8 gz)] then
      some ((yw.1,(3:Int)),())
     else none
    else
     let AV:(bx.D)×Unit:=Wh.Pe (gz,fT.1)
     bif iy [nQ (Wh.EM (gz,fT.1))] then
      some ((AV.1,(0:Int)),())
     else none
   else none
 else none
def Wh.LI:=e_ Wh.q92
theorem Wh.q92_v:OV Wh.q92 Wh.LI:=fk _
abbrev Wh.PL:Type:=((Int)×(Unit)×(Unit)×(Unit))×(((Int)×((Unit)×(Unit)))×(bx.D)×(an.D)×(List (an.D)))
abbrev Wh.ZL:Type:=((((Unit)×(Int)×(Unit)×(Unit))×(((Int)×((Unit)×(Unit)))×(bx.D)×(an.D)×(List (an.D)))))
def Wh.CA (x:Wh.PL):Option (Wh.PL⊕Wh.ZL):=
 let Bn:=x.1.1
 let x9:=x.2.1.1
 let AN:=x.2.1.2.2
 let x4:bx.D:=x.2.2.1
 let vN:an.D:=(x.2.2.2).1
 let xX:List (an.D):=x.2.2.2.2
 let nC:Int:=(↑(List.length x4.2.1):Int)
 let y5:=Wh.Lm (List.getD x4.2.1 (Int.toNat Bn) ((0:Int),[],(0:Int),[],()),vN.1,vN.2.1)
 let nW:=bif decide (Bn<nC) then y5.1 else false
 bif iy [!decide (Bn<nC) || nQ (Wh.EL (List.getD x4.2.1 (Int.toNat Bn) ((0:Int),[],(0:Int),[],()),vN.1,vN.2.1)),!decide (Bn<nC) || decide ((0:Int)≤Bn),!decide (Bn<nC) || decide (Bn<nC)] then
  bif nW then
   some (.inl (((IntKind.wrap .i64 (Bn+(1:Int))),(),(),()),(x9,(),AN),x4,vN,xX))
  else
   some (.inr (((),Bn,(),()),(x9,(),AN),x4,vN,xX))
 else none
def Wh.UD:(((Unit)×(Int)×(Unit)×(Unit))×(((Int)×((Unit)×(Unit)))×(bx.D)×(an.D)×(List (an.D)))):=default
def Wh.EZ (xs:(bx.D)×(an.D)):Option ((((Int)×((List (an.D))×(Unit))))×(Unit)):=
 let gz:bx.D:=xs.1
 let t_1:an.D:=xs.2
 let HS:Wh.PL:=(((0:Int),(),(),()),((0:Int),(),()),gz,t_1,[])
 bif lF Wh.CA HS then
  let H8:=kG Wh.CA Wh.UD HS
  let Bo:=H8.1.2.1
  let y2:bx.D:=H8.2.2.1
  let y3:an.D:=(H8.2.2.2).1
  let Lc:=IntKind.wrap .i64 (y2.1+(1:Int))
  let G7:List (an.D):=[]++List.take (Int.toNat (Bo-(0:Int))) (List.drop (Int.toNat (0:Int)) y2.2.1)
  let Ld:List (an.D):=[(y3.1,y3.2.1,Lc,y3.2.2.2)]
  let pb_38:List (an.D):=G7++Ld++List.take (Int.toNat ((↑(List.length y2.2.1):Int)-Bo)) (List.drop (Int.toNat Bo) y2.2.1)
  let Fm:List (an.D):=List.take (Int.toNat (Bo-(0:Int))) (List.drop (Int.toNat (0:Int)) y2.2.1)
  let v_40:List (an.D):=List.take (Int.toNat ((↑(List.length y2.2.1):Int)-Bo)) (List.drop (Int.toNat Bo) y2.2.1)
  bif iy [decide (List.length (G7++Ld)+List.length v_40≤dh),decide ((0:Int)≤Bo),decide (Bo≤(↑(List.length y2.2.1):Int)),decide ((↑(List.length y2.2.1):Int)≤(↑(List.length y2.2.1):Int)),decide (List.length G7+(1:Nat)≤dh),decide ((0:Nat)+List.length Fm≤dh),true,decide ((0:Int)≤Bo),decide (Bo≤(↑(List.length y2.2.1):Int))] then
   some ((Lc,pb_38,()),())
  else none
 else none
def Wh.PK:=e_ Wh.EZ
theorem Wh.UE:OV Wh.EZ Wh.PK:=fk _
def Wh.Cm (xs:(bx.D)×(Int)×(List UInt8)×(List UInt8)):Option ((((Int)×((List (an.D))×(Unit)))×(Int))×(Unit)):=
 let gz:bx.D:=xs.1
 let w7:=xs.2.1
 let yl:=xs.2.2.1
 let BU:=xs.2.2.2
 let fT:=Wh.Lu gz
 bif iy [nQ (Wh.Dp gz)] then
  bif !fT.1 then
   some ((((0:Int),[],()),(1:Int)),())
  else
   let x_:=Wh.F8 (w7,yl,(0:Int),BU,())
   bif iy [nQ (Wh.BI (w7,yl,(0:Int),BU,()))] then
    bif !x_.1 then
     let yw:(bx.D)×Unit:=Wh.EK gz
     bif iy [nQ (Wh.A8 gz)] then
      some ((yw.1,(1:Int)),())
     else none
    else
     let AV:=Wh.Lz (gz,w7,yl)
     bif iy [nQ (Wh.A_ (gz,w7,yl))] then
      bif decide (AV.1≥(0:Int)) then
       let BP:(bx.D)×Unit:=Wh.EK gz
       bif iy [nQ (Wh.A8 gz)] then
        some ((BP.1,(2:Int)),())
       else none
      else
       let zm:Int:=(↑(List.length gz.2.1):Int)
       let Hy:=Wh.Lf (gz.2.1,w7)
       let w9:=bif bif decide (zm≥(8:Int)) then true else decide (gz.1≥(99999:Int)) then true else decide (IntKind.wrap .i64 (Hy.1+(↑(List.length BU):Int))>(500:Int))
       bif iy [(!!bif decide (zm≥(8:Int)) then true else decide (gz.1≥(99999:Int))) || nQ (Wh.Df (gz.2.1,w7))] then
        bif w9 then
         let r_19:(bx.D)×Unit:=Wh.EK gz
         bif iy [nQ (Wh.A8 gz)] then
          some ((r_19.1,(4:Int)),())
         else none
        else
         let yD:(bx.D)×Unit:=Wh.PK (gz,w7,yl,(0:Int),BU,())
         bif iy [nQ (Wh.EZ (gz,w7,yl,(0:Int),BU,()))] then
          some ((yD.1,(0:Int)),())
         else none
       else none
     else none
   else none
 else none
def Wh.Li:=e_ Wh.Cm
theorem Wh.T6:OV Wh.Cm Wh.Li:=fk _
def Wh.Cq (xs:(bx.D)×(List UInt8)):Option ((((Int)×((List (an.D))×(Unit)))×(Bool))×(Unit)):=
 let gz:bx.D:=xs.1
 let s_1:=xs.2
 let r_2:=Wh.Hf (s_1,(0:Int),(58:Int))
 bif iy [nQ (Wh.yU (s_1,(0:Int),(58:Int)))] then
  bif decide (r_2.1<(0:Int)) then
   some ((((0:Int),[],()),false),())
  else
   let fT:List (List UInt8)×Unit:=Wh.O3 (List.take (Int.toNat (r_2.1-(0:Int))) (List.drop (Int.toNat (0:Int)) s_1),(32:Int))
   let xQ:List UInt8:=List.take (Int.toNat (r_2.1-(0:Int))) (List.drop (Int.toNat (0:Int)) s_1)
   bif iy [nQ (Wh.Co (xQ,(32:Int))),true,decide ((0:Int)≤r_2.1),decide (r_2.1≤(↑(List.length s_1):Int))] then
    let z8:=IntKind.wrap .i64 (r_2.1+(1:Int))
    let CX:List UInt8:=List.take (Int.toNat ((↑(List.length s_1):Int)-z8)) (List.drop (Int.toNat z8) s_1)
    bif iy [decide ((0:Int)≤z8),decide (z8≤(↑(List.length s_1):Int)),decide ((↑(List.length s_1):Int)≤(↑(List.length s_1):Int))] then
     let yy:Int:=(↑(List.length fT.1):Int)
     let zk:=Wh.Ho (List.getD fT.1 (Int.toNat (0:Int)) [])
     let DX:xV.D:=Wh.q43' (zk.1,List.getD fT.1 (Int.toNat (1:Int)) [],CX)
     let nS:=bif yy != (2:Int) then true else !DX.1==s_1
     bif iy [!!yy != (2:Int) || nQ (Wh.q43 (zk.1,List.getD fT.1 (Int.toNat (1:Int)) [],CX)),!!yy != (2:Int) || decide ((0:Int)≤(1:Int)),!!yy != (2:Int) || decide ((1:Int)<yy),!!yy != (2:Int) || nQ (Wh.Ax (List.getD fT.1 (Int.toNat (0:Int)) [])),!!yy != (2:Int) || decide ((0:Int)≤(0:Int)),!!yy != (2:Int) || decide ((0:Int)<yy)] then
      bif nS then
       some ((((0:Int),[],()),false),())
      else
       let yc:=CX == []
       bif yc then
        let Hy:((bx.D)×Int)×Unit:=Wh.LI (gz,zk.1,List.getD fT.1 (Int.toNat (1:Int)) [])
        let nG:=List.getD fT.1 (Int.toNat (0:Int)) []
        let nC:=List.getD fT.1 (Int.toNat (1:Int)) []
        let Gf:((bx.D)×Int)×Unit:=Wh.LI (gz,zk.1,nC)
        bif iy [nQ (Wh.q92 (gz,zk.1,nC)),true,decide ((1:Int)<yy),nQ (Wh.Ax nG),true,decide ((0:Int)<yy)] then
         some (((Hy.1.1.1,(Hy.1.1.2).1,Hy.1.1.2.2),(Gf.1.2==(0:Int))),())
        else none
       else
        let th:((bx.D)×Int)×Unit:=Wh.Li (gz,zk.1,List.getD fT.1 (Int.toNat (1:Int)) [],CX)
        let HN:=List.getD fT.1 (Int.toNat (0:Int)) []
        let ye:=List.getD fT.1 (Int.toNat (1:Int)) []
        let r_46:((bx.D)×Int)×Unit:=Wh.Li (gz,zk.1,ye,CX)
        bif iy [nQ (Wh.Cm (gz,zk.1,ye,CX)),true,decide ((1:Int)<yy),nQ (Wh.Ax HN),true,decide ((0:Int)<yy)] then
         some (((th.1.1.1,(th.1.1.2).1,th.1.1.2.2),(r_46.1.2==(0:Int))),())
        else none
     else none
    else none
   else none
 else none
def Wh.Pc:=e_ Wh.Cq
theorem Wh.Pd:OV Wh.Cq Wh.Pc:=fk _
abbrev Wh.Pu:Type:=((Unit)×(Int)×(Unit)×(List (List UInt8)))×(((Int)×((Unit)×(Unit)))×((Int)×((Unit)×(Unit)))×(List (an.D))×(List (an.D)))
abbrev Wh.ZB:Type:=((((Unit)×(Bool))×(((Int)×((Unit)×(Unit)))×(List (an.D))))⊕(((Unit)×(Unit))×(((Int)×((Unit)×(Unit)))×((Int)×((Unit)×(Unit)))×(List (an.D))×(List (an.D)))))
def Wh.Cv (x:Wh.Pu):Option (Wh.Pu⊕Wh.ZB):=
 let gT:=x.1.2.1
 let LR:List (List UInt8):=x.1.2.2.2
 let x4:=x.2.1.1
 let vN:=x.2.1.2.2
 let xX:=x.2.2.1.1
 let zd:Unit:=(x.2.2.1).2.2
 let yY:List (an.D):=(x.2.2.2).1
 let yZ:List (an.D):=x.2.2.2.2
 let zI:Int:=(↑(List.length LR):Int)
 bif decide (gT<zI) then
  let AR:((bx.D)×Bool)×Unit:=Wh.Pc ((xX,yZ,zd),List.getD LR (Int.toNat gT) [])
  let n_:=List.getD LR (Int.toNat gT) []
  bif iy [nQ (Wh.Cq ((xX,yZ,zd),n_)),decide ((0:Int)≤gT),decide (gT<zI)] then
   bif(!AR.1.2) then
    some (.inr (.inl (((),false),((0:Int),(),()),[])))
   else
    some (.inl (((),(IntKind.wrap .i64 (gT+(1:Int))),(),LR),(x4,(),vN),(AR.1.1.1,(),AR.1.1.2.2),yY,(AR.1.1.2).1))
  else none
 else
  some (.inr (.inr (((),()),(x4,(),vN),(xX,(),zd),yY,yZ)))
def Wh.Ur:(((Unit)×(Bool))×(((Int)×((Unit)×(Unit)))×(List (an.D))))⊕(((Unit)×(Unit))×(((Int)×((Unit)×(Unit)))×((Int)×((Unit)×(Unit)))×(List (an.D))×(List (an.D)))):=.inl default
def Wh.Cu (xs:(List (List UInt8))):Option ((((Int)×((List (an.D))×(Unit)))×(Bool))×(Unit)):=
 let LQ:List (List UInt8):=xs
 let HU:Wh.Pu:=(((),(0:Int),(),LQ),((0:Int),(),()),((0:Int),(),()),[],[])
 bif lF Wh.Cv HU then
  sumC (kG Wh.Cv Wh.Ur HU) (fun Gp=>
   let zJ:=Gp.1.2
   let zV:=Gp.2.1.1
   let xY:=Gp.2.1.2.2
   let zf:List (an.D):=Gp.2.2
   some (((zV,zf,xY),zJ),())) (fun z_31=>
   let yN:=z_31.2.2.1.1
   let A4:Unit:=(z_31.2.2.1).2.2
   let KT:List (an.D):=z_31.2.2.2.2
   some (((yN,KT,A4),true),()))
 else none
def Wh.Hi:=e_ Wh.Cu
theorem Wh.Lt:OV Wh.Cu Wh.Hi:=fk _
def Wh.q97 (xs:(cx.D)):Option (((Bool))×(Unit)):=
 let eA:cx.D:=xs
 let r_1:(List (List UInt8)×Int)×Unit:=Wh.Hg (eA.2.2.1)
 bif iy [nQ (Wh.A7 (eA.2.2.1))] then
  let r_2:((bx.D)×Bool)×Unit:=Wh.Hi r_1.1.1
  bif iy [nQ (Wh.Cu r_1.1.1)] then
   some (r_2.1.2,())
  else none
 else none
def Wh.q97':=e_ Wh.q97
theorem Wh.q97_v:OV Wh.q97 Wh.q97':=fk _
abbrev Wh.QL:Type:=((Int)×(Unit)×(Unit))×((bx.D)×(bx.D))
abbrev Wh.aas:Type:=((((Bool))×(Unit))⊕((Unit)×(Unit)))
def Wh.CS (x:Wh.QL):Option (Wh.QL⊕Wh.aas):=
 let zv:=x.1.1
 let yu:bx.D:=x.2.1
 let x9:bx.D:=x.2.2
 let xe:Int:=(↑(List.length x9.2.1):Int)
 bif decide (zv<xe) then
  let w9:an.D:=List.getD x9.2.1 (Int.toNat zv) ((0:Int),[],(0:Int),[],())
  let nG:an.D:=List.getD yu.2.1 (Int.toNat zv) ((0:Int),[],(0:Int),[],())
  bif iy [decide ((0:Int)≤zv),decide (zv<(↑(List.length yu.2.1):Int)),decide ((0:Int)≤zv),decide (zv<xe)] then
   bif(!(w9.1==nG.1&&(w9.2.1==nG.2.1&&(w9.2.2.1==nG.2.2.1&&((w9.2.2.2).1==(nG.2.2.2).1&&true))))) then
    some (.inr (.inl (false,())))
   else
    some (.inl (((IntKind.wrap .i64 (zv+(1:Int))),(),()),yu,x9))
  else none
 else
  some (.inr (.inr ((),())))
def Wh.Vm:(((Bool))×(Unit))⊕((Unit)×(Unit)):=.inl default
def Wh.CR (xs:(bx.D)×(bx.D)):Option (((Bool))×(Unit)):=
 let cr:bx.D:=xs.1
 let b_1:bx.D:=xs.2
 let s4:=bif(cr.1 != b_1.1) then true else(↑(List.length cr.2.1):Int) != (↑(List.length b_1.2.1):Int)
 bif s4 then
  some (false,())
 else
  let x_22:Wh.QL:=(((0:Int),(),()),b_1,cr)
  bif lF Wh.CS x_22 then
   sumC (kG Wh.CS Wh.Vm x_22) (fun y_23=>
    let AD:=y_23.1
    some (AD,())) (fun _=>
    some (true,()))
  else none
def Wh.q96':=e_ Wh.CR
theorem Wh.q96_v:OV Wh.CR Wh.q96':=fk _
def Wh.Dr (xs:(ct.D)):Option (((Bool))×(Unit)):=
 let Ae:ct.D:=xs
 bif(Ae.2.1==(0:Int)) then
  some ((Ae.1==(0:Int)&&(Ae.2.1==(0:Int)&&(Ae.2.2.1==(0:Int)&&((Ae.2.2.2).1==(0:Int)&&(Ae.2.2.2.2.1==false&&true))))),())
 else
  let r_3:=Wh.ym (Ae.1,(0:Int),(1:Int))
  let fT:=Wh.ym (Ae.2.1,(1:Int),(99999:Int))
  let AV:=Wh.ym (Ae.2.2.1,(0:Int),(23:Int))
  let BP:=Wh.ym ((Ae.2.2.2).1,(0:Int),(99999:Int))
  let yQ:=bif bif bif r_3.1 then fT.1 else false then AV.1 else false then BP.1 else false
  bif iy [(!bif bif r_3.1 then fT.1 else false then AV.1 else false) || nQ (Wh.xS ((Ae.2.2.2).1,(0:Int),(99999:Int))),(!bif r_3.1 then fT.1 else false) || nQ (Wh.xS (Ae.2.2.1,(0:Int),(23:Int))),!r_3.1 || nQ (Wh.xS (Ae.2.1,(1:Int),(99999:Int))),nQ (Wh.xS (Ae.1,(0:Int),(1:Int)))] then
   some (yQ,())
  else none
def Wh.PA:=e_ Wh.Dr
theorem Wh.Lv:OV Wh.Dr Wh.PA:=fk _
abbrev Wh.Pz:Type:=((Int)×(Int)×(Int)×(Unit))×((gv.D))
abbrev Wh.ZF:Type:=((((Int))×(Unit)))
def Wh.Cy (x:Wh.Pz):Option (Wh.Pz⊕Wh.ZF):=
 let gT:=x.1.1
 let Et:=x.1.2.1
 let Eg:Int:=(x.1.2.2).1
 let vN:gv.D:=x.2
 let nG:Int:=(↑(List.length vN.1):Int)
 bif decide (gT<nG) then
  let wX:ct.D:=List.getD vN.1 (Int.toNat gT) ((0:Int),(0:Int),(0:Int),(0:Int),false,())
  let nW:=bif decide (wX.2.1>(0:Int)) then wX.1==Eg else false
  bif iy [!decide (wX.2.1>(0:Int)) || decide ((0:Int)≤gT),!decide (wX.2.1>(0:Int)) || decide (gT<nG),decide ((0:Int)≤gT),decide (gT<nG)] then
   bif nW then
    some (.inl (((IntKind.wrap .i64 (gT+(1:Int))),(IntKind.wrap .i64 (Et+(1:Int))),Eg,()),vN))
   else
    some (.inl (((IntKind.wrap .i64 (gT+(1:Int))),Et,Eg,()),vN))
  else none
 else
  some (.inr (Et,()))
def Wh.Uv:(((Int))×(Unit)):=default
def Wh.EU (xs:(gv.D)×(Int)):Option (((Int))×(Unit)):=
 let s_:gv.D:=xs.1
 let w7:=xs.2
 let Al:Wh.Pz:=(((0:Int),(0:Int),w7,()),s_)
 bif lF Wh.Cy Al then
  let zL:=kG Wh.Cy Wh.Uv Al
  let n_30:=zL.1
  some (n_30,())
 else none
def Wh.Py:=e_ Wh.EU
theorem Wh.F7:OV Wh.EU Wh.Py:=fk _
abbrev Wh.O1:Type:=((Int)×(Unit))×((gv.D))
abbrev Wh.Zt:Type:=((((Bool))×(Unit))⊕((Unit)×(Unit)))
def Wh.BE (x:Wh.O1):Option (Wh.O1⊕Wh.Zt):=
 let h_67:=x.1.1
 let Oc:gv.D:=x.2
 bif decide (h_67<(2:Int)) then
  let r_70:=Wh.Py (Oc,h_67)
  bif iy [nQ (Wh.EU (Oc,h_67))] then
   bif decide (r_70.1>(5:Int)) then
    some (.inr (.inl (false,())))
   else
    some (.inl (((IntKind.wrap .i64 (h_67+(1:Int))),()),Oc))
  else none
 else
  some (.inr (.inr ((),())))
def Wh.Ua:(((Bool))×(Unit))⊕((Unit)×(Unit)):=.inl default
abbrev Wh.O0:Type:=((Int)×(Unit)×(Int))×((gv.D))
abbrev Wh.Zr:Type:=((((Bool))×(Unit))⊕(((Unit)×(Int))×((gv.D))))
def Wh.Aj (x:Wh.O0):Option (Wh.O0⊕Wh.Zr):=
 let AJ:=x.1.1
 let Bl:=x.1.2.2
 let Ah:gv.D:=x.2
 bif decide (AJ<Bl) then
  let nE:ct.D:=List.getD Ah.1 (Int.toNat Bl) ((0:Int),(0:Int),(0:Int),(0:Int),false,())
  let zK:=bif bif decide (nE.2.1>(0:Int)) then nE.2.1==Prod.fst (Prod.snd (List.getD Ah.1 (Int.toNat AJ) ((0:Int),(0:Int),(0:Int),(0:Int),false,()))) else false then nE.2.2.1==Prod.fst (Prod.snd (Prod.snd (List.getD Ah.1 (Int.toNat AJ) ((0:Int),(0:Int),(0:Int),(0:Int),false,())))) else false
  bif iy [(!bif decide (nE.2.1>(0:Int)) then nE.2.1==Prod.fst (Prod.snd (List.getD Ah.1 (Int.toNat AJ) ((0:Int),(0:Int),(0:Int),(0:Int),false,()))) else false) || decide ((0:Int)≤AJ),(!bif decide (nE.2.1>(0:Int)) then nE.2.1==Prod.fst (Prod.snd (List.getD Ah.1 (Int.toNat AJ) ((0:Int),(0:Int),(0:Int),(0:Int),false,()))) else false) || decide (AJ<(↑(List.length Ah.1):Int)),(!bif decide (nE.2.1>(0:Int)) then nE.2.1==Prod.fst (Prod.snd (List.getD Ah.1 (Int.toNat AJ) ((0:Int),(0:Int),(0:Int),(0:Int),false,()))) else false) || decide ((0:Int)≤Bl),(!bif decide (nE.2.1>(0:Int)) then nE.2.1==Prod.fst (Prod.snd (List.getD Ah.1 (Int.toNat AJ) ((0:Int),(0:Int),(0:Int),(0:Int),false,()))) else false) || decide (Bl<(↑(List.length Ah.1):Int)),!decide (nE.2.1>(0:Int)) || decide ((0:Int)≤AJ),!decide (nE.2.1>(0:Int)) || decide (AJ<(↑(List.length Ah.1):Int)),!decide (nE.2.1>(0:Int)) || decide ((0:Int)≤Bl),!decide (nE.2.1>(0:Int)) || decide (Bl<(↑(List.length Ah.1):Int)),decide ((0:Int)≤Bl),decide (Bl<(↑(List.length Ah.1):Int))] then
   bif zK then
    some (.inr (.inl (false,())))
   else
    some (.inl (((IntKind.wrap .i64 (AJ+(1:Int))),(),Bl),Ah))
  else none
 else
  some (.inr (.inr (((),Bl),Ah)))
def Wh.T_:(((Bool))×(Unit))⊕(((Unit)×(Int))×((gv.D))):=.inl default
abbrev Wh.OZ:Type:=((Unit)×(Int))×((gv.D))
abbrev Wh.Zq:Type:=((((Bool))×(Unit))⊕(((Unit))×((gv.D))))
def Wh.BD (x:Wh.OZ):Option (Wh.OZ⊕Wh.Zq):=
 let GW:=x.1.2
 let Cb:gv.D:=x.2
 let v_44:Int:=(↑(List.length Cb.1):Int)
 bif decide (GW<v_44) then
  let v_46:ct.D:=List.getD Cb.1 (Int.toNat GW) ((0:Int),(0:Int),(0:Int),(0:Int),false,())
  let r_48:=Wh.PA v_46
  bif iy [nQ (Wh.Dr v_46),decide ((0:Int)≤GW),decide (GW<v_44)] then
   bif !r_48.1 then
    some (.inr (.inl (false,())))
   else
    let x_49:Wh.O0:=(((0:Int),(),GW),Cb)
    bif lF Wh.Aj x_49 then
     sumC (kG Wh.Aj Wh.T_ x_49) (fun y_50=>
      let v_52:=y_50.1
      some (.inr (.inl (v_52,())))) (fun z_51=>
      let i_53:=z_51.1.2
      let FQ:gv.D:=z_51.2
      some (.inl (((),(IntKind.wrap .i64 (i_53+(1:Int)))),FQ)))
    else none
  else none
 else
  some (.inr (.inr ((),Cb)))
def Wh.T9:(((Bool))×(Unit))⊕(((Unit))×((gv.D))):=.inl default
def Wh.Dj (xs:(gv.D)):Option (((Bool))×(Unit)):=
 let s_:gv.D:=xs
 let v_1:Int:=(↑(List.length s_.1):Int)
 let fT:=Wh.ym (s_.2.1,(0:Int),(7:Int))
 let xQ:=bif v_1 != (8:Int) then true else !fT.1
 bif iy [!!v_1 != (8:Int) || nQ (Wh.xS (s_.2.1,(0:Int),(7:Int)))] then
  bif xQ then
   some (false,())
  else
   let x_56:Wh.OZ:=(((),(0:Int)),s_)
   bif lF Wh.BD x_56 then
    sumC (kG Wh.BD Wh.T9 x_56) (fun y_57=>
     let v_59:=y_57.1
     some (v_59,())) (fun z_58=>
     let Oa:gv.D:=z_58.2
     let x_73:Wh.O1:=(((0:Int),()),Oa)
     bif lF Wh.BE x_73 then
      sumC (kG Wh.BE Wh.Ua x_73) (fun y_74=>
       let v_76:=y_74.1
       some (v_76,())) (fun _=>
       some (true,()))
     else none)
   else none
 else none
def Wh.OY:=e_ Wh.Dj
theorem Wh.Ub:OV Wh.Dj Wh.OY:=fk _
abbrev Wh.Qc:Type:=((Unit)×(Int)×(Unit)×(Int))×(((Int)×((List UInt8)×((Int)×((List UInt8)×(Unit)))))×(bx.D))
abbrev Wh.Z3:Type:=((((Unit)×(Bool))×((an.D)))⊕(((Unit))×(((Int)×((List UInt8)×((Int)×((List UInt8)×(Unit))))))))
def Wh.CL (x:Wh.Qc):Option (Wh.Qc⊕Wh.Z3):=
 let gT:=x.1.2.1
 let GR:=x.1.2.2.2
 let x4:=x.2.1.1
 let vN:List UInt8:=(x.2.1.2).1
 let xX:=x.2.1.2.2.1
 let zd:List UInt8:=(x.2.1.2.2.2).1
 let yY:Unit:=(x.2.1.2.2.2).2
 let yZ:bx.D:=x.2.2
 let zI:Int:=(↑(List.length yZ.2.1):Int)
 bif decide (gT<zI) then
  let AD:an.D:=List.getD yZ.2.1 (Int.toNat gT) ((0:Int),[],(0:Int),[],())
  bif iy [decide ((0:Int)≤gT),decide (gT<zI)] then
   bif(AD.2.2.1==GR) then
    bif iy [decide ((0:Int)≤gT),decide (gT<zI)] then
     some (.inr (.inl (((),true),AD)))
    else none
   else
    some (.inl (((),(IntKind.wrap .i64 (gT+(1:Int))),(),GR),(x4,vN,xX,zd,yY),yZ))
  else none
 else
  some (.inr (.inr ((),x4,vN,xX,zd,yY)))
def Wh.UY:(((Unit)×(Bool))×((an.D)))⊕(((Unit))×(((Int)×((List UInt8)×((Int)×((List UInt8)×(Unit))))))):=.inl default
def Wh.q45 (xs:(bx.D)×(Int)):Option (((an.D)×(Bool))×(Unit)):=
 let gz:bx.D:=xs.1
 let FF:=xs.2
 let Al:Wh.Qc:=(((),(0:Int),(),FF),((0:Int),[],(0:Int),[],()),gz)
 bif lF Wh.CL Al then
  sumC (kG Wh.CL Wh.UY Al) (fun zL=>
   let D3:=zL.1.2
   let y3:an.D:=zL.2
   some ((y3,D3),())) (fun _=>
   some ((((0:Int),[],(0:Int),[],()),false),()))
 else none
def Wh.LD:=e_ Wh.q45
theorem Wh.DJ:OV Wh.q45 Wh.LD:=fk _
def Wh.q71 (xs:(Int)):Option (((Int))×(Unit)):=
 let NF:=xs
 some ((Int.tmod NF (2:Int)),())
def Wh.q71':=e_ Wh.q71
theorem Wh.Qy:OV Wh.q71 Wh.q71':=fk _
abbrev Wh.Qb:Type:=((Int)×(Unit))×((cx.D))
abbrev Wh.Z0:Type:=((((Bool))×(Unit))⊕((Unit)×(Unit)))
def Wh.BJ (x:Wh.Qb):Option (Wh.Qb⊕Wh.Z0):=
 let x7:=x.1.1
 let zU:cx.D:=x.2
 let y6:Int:=(↑(List.length ((zU.2.2.2.2.2).2.1)):Int)
 bif decide (x7<y6) then
  let r5:fN.D:=List.getD ((zU.2.2.2.2.2).2.1) (Int.toNat x7) ((0:Int),(0:Int),(0:Int),(0:Int),(0:Int),(0:Int),())
  bif iy [decide ((0:Int)≤x7),decide (x7<y6)] then
   let th:=Wh.ym (r5.1,(0:Int),(3:Int))
   let HB:=Wh.ym (r5.2.1,(1:Int),(99999:Int))
   let CT:=Wh.ym (r5.2.2.1,(1:Int),(zU.2.2.2).1.1)
   let CU:=Wh.ym ((r5.2.2.2).1,(0:Int),(9999:Int))
   let HE:=Wh.ym (r5.2.2.2.2.1,(0:Int),(3:Int))
   let HF:=Wh.ym ((r5.2.2.2.2.2).1,(0:Int),zU.2.1)
   let v_48:=bif bif bif bif bif bif !th.1 then true else bif decide (x7>(0:Int)) then decide (Prod.fst (List.getD ((zU.2.2.2.2.2).2.1) (Int.toNat (IntKind.wrap .i64 (x7-(1:Int)))) ((0:Int),(0:Int),(0:Int),(0:Int),(0:Int),(0:Int),()))≥r5.1) else false then true else !HB.1 then true else !CT.1 then true else !CU.1 then true else !HE.1 then true else !HF.1
   bif iy [(!!bif bif bif bif bif !th.1 then true else bif decide (x7>(0:Int)) then decide (Prod.fst (List.getD ((zU.2.2.2.2.2).2.1) (Int.toNat (IntKind.wrap .i64 (x7-(1:Int)))) ((0:Int),(0:Int),(0:Int),(0:Int),(0:Int),(0:Int),()))≥r5.1) else false then true else !HB.1 then true else !CT.1 then true else !CU.1 then true else !HE.1) || nQ (Wh.xS ((r5.2.2.2.2.2).1,(0:Int),zU.2.1)),(!!bif bif bif bif !th.1 then true else bif decide (x7>(0:Int)) then decide (Prod.fst (List.getD ((zU.2.2.2.2.2).2.1) (Int.toNat (IntKind.wrap .i64 (x7-(1:Int)))) ((0:Int),(0:Int),(0:Int),(0:Int),(0:Int),(0:Int),()))≥r5.1) else false then true else !HB.1 then true else !CT.1 then true else !CU.1) || nQ (Wh.xS (r5.2.2.2.2.1,(0:Int),(3:Int))),(!!bif bif bif !th.1 then true else bif decide (x7>(0:Int)) then decide (Prod.fst (List.getD ((zU.2.2.2.2.2).2.1) (Int.toNat (IntKind.wrap .i64 (x7-(1:Int)))) ((0:Int),(0:Int),(0:Int),(0:Int),(0:Int),(0:Int),()))≥r5.1) else false then true else !HB.1 then true else !CT.1) || nQ (Wh.xS ((r5.2.2.2).1,(0:Int),(9999:Int))),(!!bif bif !th.1 then true else bif decide (x7>(0:Int)) then decide (Prod.fst (List.getD ((zU.2.2.2.2.2).2.1) (Int.toNat (IntKind.wrap .i64 (x7-(1:Int)))) ((0:Int),(0:Int),(0:Int),(0:Int),(0:Int),(0:Int),()))≥r5.1) else false then true else !HB.1) || nQ (Wh.xS (r5.2.2.1,(1:Int),(zU.2.2.2).1.1)),(!!bif !th.1 then true else bif decide (x7>(0:Int)) then decide (Prod.fst (List.getD ((zU.2.2.2.2.2).2.1) (Int.toNat (IntKind.wrap .i64 (x7-(1:Int)))) ((0:Int),(0:Int),(0:Int),(0:Int),(0:Int),(0:Int),()))≥r5.1) else false) || nQ (Wh.xS (r5.2.1,(1:Int),(99999:Int))),!(decide (x7>(0:Int)) && !!th.1) || decide ((0:Int)≤IntKind.wrap .i64 (x7-(1:Int))),!(decide (x7>(0:Int)) && !!th.1) || decide (IntKind.wrap .i64 (x7-(1:Int))<y6),nQ (Wh.xS (r5.1,(0:Int),(3:Int)))] then
    bif v_48 then
     some (.inr (.inl (false,())))
    else
     let r_49:((an.D)×Bool)×Unit:=Wh.LD ((zU.2.2.2).1,r5.2.2.1)
     bif iy [nQ (Wh.q45 ((zU.2.2.2).1,r5.2.2.1))] then
      let r_50:=Wh.q71' r5.1
      let BW:=bif r_49.1.2 then r_49.1.1.1 != r_50.1 else false
      bif iy [!r_49.1.2 || nQ (Wh.q71 r5.1)] then
       bif BW then
        some (.inr (.inl (false,())))
       else
        some (.inl (((IntKind.wrap .i64 (x7+(1:Int))),()),zU))
      else none
     else none
   else none
  else none
 else
  some (.inr (.inr ((),())))
def Wh.UX:(((Bool))×(Unit))⊕((Unit)×(Unit)):=.inl default
def Wh.q44 (xs:(cx.D)):Option (((Bool))×(Unit)):=
 let eA:cx.D:=xs
 let x_53:Wh.Qb:=(((0:Int),()),eA)
 bif lF Wh.BJ x_53 then
  sumC (kG Wh.BJ Wh.UX x_53) (fun y_54=>
   let v_56:=y_54.1
   some (v_56,())) (fun _=>
   some (true,()))
 else none
def Wh.q44':=e_ Wh.q44
theorem Wh.q44_v:OV Wh.q44 Wh.q44':=fk _
def Wh.Bz (xs:(yp.D)):Option (((Int))×(Unit)):=
 let s_:yp.D:=xs
 bif iy [s_.2.1 != (0:Int)] then
  some ((IntKind.wrap .i64 (Int.tdiv (IntKind.wrap .i64 ((IntKind.wrap .i64 (s_.1+s_.2.1))-(1:Int))) s_.2.1)),())
 else none
def Wh.F2:=e_ Wh.Bz
theorem Wh.Ci:OV Wh.Bz Wh.F2:=fk _
abbrev Wh.PI:Type:=((Unit)×(Unit))×(((Int)×((Int)×((Unit)×((Unit)×(Unit)))))×((Int)×((Int)×((Unit)×((Unit)×(Unit)))))×(List (Int))×(List (Int))×(List (Int))×(List (Int)))
abbrev Wh.ZJ:Type:=((((Unit)×(Unit))×(((Int)×((Int)×((Unit)×((Unit)×(Unit)))))×((Int)×((Int)×((Unit)×((Unit)×(Unit)))))×(List (Int))×(List (Int))×(List (Int))×(List (Int)))))
def Wh.Cz (x:Wh.PI):Option (Wh.PI⊕Wh.ZJ):=
 let yu:=x.2.1.1
 let x9:Int:=(x.2.1.2).1
 let AN:Unit:=(x.2.1.2.2.2).2
 let x4:=x.2.2.1.1
 let vN:Int:=(x.2.2.1).2.1
 let xX:Unit:=(x.2.2.1).2.2.2.2
 let zd:List Int:=(x.2.2.2).1
 let yY:=x.2.2.2.2.1
 let yZ:List Int:=(x.2.2.2.2.2).1
 let zy:List Int:=(x.2.2.2.2.2).2
 let HA:=Wh.F2 (yu,x9,zd,yY,AN)
 bif iy [nQ (Wh.Bz (yu,x9,zd,yY,AN))] then
  bif decide (HA.1>(24:Int)) then
   some (.inl (((),()),(yu,(IntKind.wrap .i64 (x9+(1:Int))),(),(),AN),(x4,vN,(),(),xX),zd,yY,yZ,zy))
  else
   some (.inr (((),()),(x4,vN,(),(),xX),(yu,x9,(),(),AN),yZ,zy,zd,yY))
 else none
def Wh.UA:(((Unit)×(Unit))×(((Int)×((Int)×((Unit)×((Unit)×(Unit)))))×((Int)×((Int)×((Unit)×((Unit)×(Unit)))))×(List (Int))×(List (Int))×(List (Int))×(List (Int)))):=default
def Wh.Dw (xs:(Int)):Option ((((Int)×((Int)×((List (Int))×((List (Int))×(Unit))))))×(Unit)):=
 let G1:=xs
 let HT:Wh.PI:=(((),()),(G1,(8:Int),(),(),()),((0:Int),(0:Int),(),(),()),[],[],[],[])
 bif lF Wh.Cz HT then
  let Fs:=kG Wh.Cz Wh.UA HT
  let y3:=Fs.2.2.1.1
  let zV:Int:=(Fs.2.2.1).2.1
  let xY:Unit:=(Fs.2.2.1).2.2.2.2
  let Ep:List Int:=(Fs.2.2.2.2.2).1
  let yN:List Int:=(Fs.2.2.2.2.2).2
  let LK:=Wh.F2 (y3,zV,Ep,yN,xY)
  bif iy [nQ (Wh.Bz (y3,zV,Ep,yN,xY))] then
   let k_42:=IntKind.wrap .i64 (Int.tdiv (IntKind.wrap .i64 (LK.1+(3:Int))) (4:Int))
   bif decide (k_42<LK.1) then
    let pb_44:List Int:=[k_42,LK.1]
    some ((y3,zV,pb_44,[(2:Int),(3:Int)],xY),())
   else
    let OA:List Int:=[LK.1]
    some ((y3,zV,OA,[(1:Int)],xY),())
  else none
 else none
def Wh.Hl:=e_ Wh.Dw
theorem Wh.Ly:OV Wh.Dw Wh.Hl:=fk _
def Wh.q69 (xs:(en.D)):Option (((Bool))×(Unit)):=
 let yA:en.D:=xs
 let r_1:=Wh.ym (yA.2.1,(0:Int),(99999:Int))
 let r_2:=Wh.ym (yA.1,(0:Int),yA.2.1)
 let x_:=Wh.ym (yA.2.2.1,(0:Int),(99999:Int))
 let yP:=Wh.ym ((yA.2.2.2).1,(0:Int),(99999:Int))
 let z7:=bif bif bif r_1.1 then r_2.1 else false then x_.1 else false then yP.1 else false
 bif iy [(!bif bif r_1.1 then r_2.1 else false then x_.1 else false) || nQ (Wh.xS ((yA.2.2.2).1,(0:Int),(99999:Int))),(!bif r_1.1 then r_2.1 else false) || nQ (Wh.xS (yA.2.2.1,(0:Int),(99999:Int))),!r_1.1 || nQ (Wh.xS (yA.1,(0:Int),yA.2.1)),nQ (Wh.xS (yA.2.1,(0:Int),(99999:Int)))] then
  some (z7,())
 else none
def Wh.q69':=e_ Wh.q69
theorem Wh.q69_v:OV Wh.q69 Wh.q69':=fk _
abbrev Wh.Qw:Type:=((Int)×(Unit))×((cx.D))
abbrev Wh.aaj:Type:=((((Bool))×(Unit))⊕((Unit)×(Unit)))
def Wh.CN (x:Wh.Qw):Option (Wh.Qw⊕Wh.aaj):=
 let h_80:=x.1.1
 let KX:cx.D:=x.2
 let v_82:Int:=(↑(List.length ((KX.2.2.2.2.2).1)):Int)
 bif decide (h_80<v_82) then
  let G9:en.D:=List.getD ((KX.2.2.2.2.2).1) (Int.toNat h_80) ((0:Int),(0:Int),(0:Int),(0:Int),())
  bif iy [decide ((0:Int)≤h_80),decide (h_80<v_82)] then
   let r_85:=Wh.q69' G9
   let L4:=bif bif bif !r_85.1 then true else G9.2.1 != (40:Int) then true else G9.2.2.1 != (8:Int) then true else decide ((G9.2.2.2).1>KX.2.1)
   bif iy [nQ (Wh.q69 G9)] then
    bif L4 then
     some (.inr (.inl (false,())))
    else
     some (.inl (((IntKind.wrap .i64 (h_80+(1:Int))),()),KX))
   else none
  else none
 else
  some (.inr (.inr ((),())))
def Wh.Ve:(((Bool))×(Unit))⊕((Unit)×(Unit)):=.inl default
abbrev Wh.Qv:Type:=((Int)×(Unit))×((cx.D))
abbrev Wh.aai:Type:=((((Bool))×(Unit))⊕(((Unit))×((cx.D))))
def Wh.Az (x:Wh.Qv):Option (Wh.Qv⊕Wh.aai):=
 let Ag:=x.1.1
 let Bp:cx.D:=x.2
 let BW:Int:=(↑(List.length ((Bp.2.2.2.2.1).1)):Int)
 bif decide (Ag<BW) then
  let yL:((an.D)×Bool)×Unit:=Wh.LD ((Bp.2.2.2).1,Prod.fst (Prod.snd (List.getD ((Bp.2.2.2.2.1).1) (Int.toNat Ag) ((0:Int),(0:Int),(0:Int),(0:Int),false,()))))
  let xN:ct.D:=List.getD ((Bp.2.2.2.2.1).1) (Int.toNat Ag) ((0:Int),(0:Int),(0:Int),(0:Int),false,())
  bif iy [nQ (Wh.q45 ((Bp.2.2.2).1,xN.2.1)),decide ((0:Int)≤Ag),decide (Ag<BW)] then
   let BR:(yp.D)×Unit:=Wh.Hl (↑(List.length ((yL.1.1.2.2.2).1)):Int)
   let r_60:=Wh.F2 (BR.1.1,BR.1.2.1,bif(!bif !yL.1.2 then true else yL.1.1.1 != xN.1)&&(decide (xN.2.1>(0:Int)) && !decide ((xN.2.2.2).1>(0:Int))) then(BR.1.2.2).1 else [],bif(!bif !yL.1.2 then true else yL.1.1.1 != xN.1)&&(decide (xN.2.1>(0:Int)) && !decide ((xN.2.2.2).1>(0:Int))) then BR.1.2.2.2.1 else [],BR.1.2.2.2.2)
   let Gm:=bif decide ((xN.2.2.2).1>(0:Int)) then true else bif decide (xN.2.1>(0:Int)) then bif bif !yL.1.2 then true else yL.1.1.1 != xN.1 then true else decide (xN.2.2.1≥r_60.1) else false
   bif iy [!((!bif !yL.1.2 then true else yL.1.1.1 != xN.1)&&(decide (xN.2.1>(0:Int)) && !decide ((xN.2.2.2).1>(0:Int)))) || nQ (Wh.Bz (BR.1.1,BR.1.2.1,bif(!bif !yL.1.2 then true else yL.1.1.1 != xN.1)&&(decide (xN.2.1>(0:Int)) && !decide ((xN.2.2.2).1>(0:Int))) then(BR.1.2.2).1 else [],bif(!bif !yL.1.2 then true else yL.1.1.1 != xN.1)&&(decide (xN.2.1>(0:Int)) && !decide ((xN.2.2.2).1>(0:Int))) then BR.1.2.2.2.1 else [],BR.1.2.2.2.2)),!((!bif !yL.1.2 then true else yL.1.1.1 != xN.1)&&(decide (xN.2.1>(0:Int)) && !decide ((xN.2.2.2).1>(0:Int)))) || nQ (Wh.Dw (↑(List.length ((yL.1.1.2.2.2).1)):Int)),!((!bif !yL.1.2 then true else yL.1.1.1 != xN.1)&&(decide (xN.2.1>(0:Int)) && !decide ((xN.2.2.2).1>(0:Int)))) || decide ((0:Int)≤Ag),!((!bif !yL.1.2 then true else yL.1.1.1 != xN.1)&&(decide (xN.2.1>(0:Int)) && !decide ((xN.2.2.2).1>(0:Int)))) || decide (Ag<BW),!(!!yL.1.2&&(decide (xN.2.1>(0:Int)) && !decide ((xN.2.2.2).1>(0:Int)))) || decide ((0:Int)≤Ag),!(!!yL.1.2&&(decide (xN.2.1>(0:Int)) && !decide ((xN.2.2.2).1>(0:Int)))) || decide (Ag<BW),!!decide ((xN.2.2.2).1>(0:Int)) || decide ((0:Int)≤Ag),!!decide ((xN.2.2.2).1>(0:Int)) || decide (Ag<BW),decide ((0:Int)≤Ag),decide (Ag<BW)] then
    bif Gm then
     some (.inr (.inl (false,())))
    else
     some (.inl (((IntKind.wrap .i64 (Ag+(1:Int))),()),Bp))
   else none
  else none
 else
  some (.inr (.inr ((),Bp)))
def Wh.Vd:(((Bool))×(Unit))⊕(((Unit))×((cx.D))):=.inl default
def Wh.q70 (xs:(cx.D)):Option (((Bool))×(Unit)):=
 let eA:cx.D:=xs
 let r_1:=Wh.ym (eA.2.1,(0:Int),(99999:Int))
 let v_2:=bif !r_1.1 then true else decide ((↑(List.length (eA.2.2.1)):Int)>(9000:Int))
 bif iy [nQ (Wh.xS (eA.2.1,(0:Int),(99999:Int)))] then
  bif v_2 then
   some (false,())
  else
   bif(!eA.1) then
    let yx:Int:=(↑(List.length ((eA.2.2.2).1.2.1)):Int)
    let Bd:=Wh.q97' eA
    let nG:=bif bif bif bif bif bif yx==(0:Int) then(eA.2.2.2).1.1==(0:Int) else false then(↑(List.length ((eA.2.2.2.2.1).1)):Int)==(0:Int) else false then(eA.2.2.2.2.1).2.1==(0:Int) else false then(↑(List.length ((eA.2.2.2.2.2).1)):Int)==(0:Int) else false then(↑(List.length ((eA.2.2.2.2.2).2.1)):Int)==(0:Int) else false then Bd.1 else false
    bif iy [(!bif bif bif bif bif yx==(0:Int) then(eA.2.2.2).1.1==(0:Int) else false then(↑(List.length ((eA.2.2.2.2.1).1)):Int)==(0:Int) else false then(eA.2.2.2.2.1).2.1==(0:Int) else false then(↑(List.length ((eA.2.2.2.2.2).1)):Int)==(0:Int) else false then(↑(List.length ((eA.2.2.2.2.2).2.1)):Int)==(0:Int) else false) || nQ (Wh.q97 eA)] then
     some (nG,())
    else none
   else
    let yD:(List (List UInt8)×Int)×Unit:=Wh.Hg (eA.2.2.1)
    bif iy [nQ (Wh.A7 (eA.2.2.1))] then
     let Hz:((bx.D)×Bool)×Unit:=Wh.Hi yD.1.1
     bif iy [nQ (Wh.Cu yD.1.1)] then
      let yd:= !Hz.1.2
      let AR:=Wh.q96' (Hz.1.1,(eA.2.2.2).1)
      let r_28:=Wh.OY (eA.2.2.2.2.1)
      let AU:=Wh.q44' eA
      let AW:=bif bif bif bif bif yd then true else yD.1.2 != (↑(List.length (eA.2.2.1)):Int) then true else !AR.1 then true else !r_28.1 then true else(↑(List.length ((eA.2.2.2.2.2).1)):Int) != (2:Int) then true else !AU.1
      bif iy [(!!bif bif bif bif yd then true else yD.1.2 != (↑(List.length (eA.2.2.1)):Int) then true else !AR.1 then true else !r_28.1 then true else(↑(List.length ((eA.2.2.2.2.2).1)):Int) != (2:Int)) || nQ (Wh.q44 eA),(!!bif bif yd then true else yD.1.2 != (↑(List.length (eA.2.2.1)):Int) then true else !AR.1) || nQ (Wh.Dj (eA.2.2.2.2.1)),(!!bif yd then true else yD.1.2 != (↑(List.length (eA.2.2.1)):Int)) || nQ (Wh.CR (Hz.1.1,(eA.2.2.2).1))] then
       bif AW then
        some (false,())
       else
        let x_63:Wh.Qv:=(((0:Int),()),eA)
        bif lF Wh.Az x_63 then
         sumC (kG Wh.Az Wh.Vd x_63) (fun y_64=>
          let v_66:=y_64.1
          some (v_66,())) (fun z_65=>
          let G3:cx.D:=z_65.2
          let x_92:Wh.Qw:=(((0:Int),()),G3)
          bif lF Wh.CN x_92 then
           sumC (kG Wh.CN Wh.Ve x_92) (fun y_93=>
            let v_95:=y_93.1
            some (v_95,())) (fun _=>
            some (true,()))
          else none)
        else none
      else none
     else none
    else none
 else none
def Wh.q70':=e_ Wh.q70
theorem Wh.Qx:OV Wh.q70 Wh.q70':=fk _
def Wh.x5 (xs:(Int)×(Int)×(Int)):Option (((Bool))×(Unit)):=
 let yj:=xs.1
 let N0:=xs.2.1
 let NS:=xs.2.2
 let xQ:=bif decide (yj≥N0) then decide (yj≤NS) else false
 some (xQ,())
def Wh.yK:=e_ Wh.x5
theorem Wh.zi:OV Wh.x5 Wh.yK:=fk _
def Wh.zY (xs:(Int)×(Int)):Option (((Int))×(Unit)):=
 let yg:=xs.1
 let by_1:=xs.2
 let v_2:Int:=Int.fdiv yg ((2:Int) ^ Min.min (Int.toNat by_1) (Go.IntKind.bits Go.IntKind.u32))
 let s4:=IntKind.wrap .i64 ((32:Int)-by_1)
 let z8:Int:=nj Go.BinOp.or Go.IntKind.u32 v_2 (IntKind.wrap .u32 (yg*(2:Int) ^ Min.min (Int.toNat s4) (Go.IntKind.bits Go.IntKind.u32)))
 bif iy [decide ((0:Int)≤s4),decide ((0:Int)≤by_1)] then
  some (z8,())
 else none
def Wh.Av:=e_ Wh.zY
theorem Wh.q105_v:OV Wh.zY Wh.Av:=fk _
abbrev Wh.Qo:Type:=((Int)×(Unit)×(List (Int)))×((List (Int)))
abbrev Wh.aac:Type:=((((Unit))×((List (Int)))))
def Wh.Hs (x:Wh.Qo):Option (Wh.Qo⊕Wh.aac):=
 let HQ:=x.1.1
 let v_572:=x.1.2.2
 let N9:=x.2
 bif decide (HQ<(8:Int)) then
  let L2:=List.getD v_572 (Int.toNat HQ) (0:Int)
  bif iy [decide ((0:Int)≤HQ),decide (HQ<(↑(nat_lit 8):Int))] then
   let pb_576:List Int:=[IntKind.wrap .u8 (Int.fdiv L2 ((2:Int) ^ Min.min (Int.toNat (24:Int)) (Go.IntKind.bits Go.IntKind.u32))),IntKind.wrap .u8 (Int.fdiv L2 ((2:Int) ^ Min.min (Int.toNat (16:Int)) (Go.IntKind.bits Go.IntKind.u32))),IntKind.wrap .u8 (Int.fdiv L2 ((2:Int) ^ Min.min (Int.toNat (8:Int)) (Go.IntKind.bits Go.IntKind.u32))),IntKind.wrap .u8 L2]
   let ls_577:=N9++pb_576
   bif iy [decide (List.length N9+(4:Nat)≤dh),true,true,true] then
    some (.inl (((IntKind.wrap .i64 (HQ+(1:Int))),(),v_572),ls_577))
   else none
  else none
 else
  some (.inr ((),N9))
def Wh.U8:(((Unit))×((List (Int)))):=default
abbrev Wh.Qn:Type:=((Int)×(Unit)×(Unit)×(Nat×Nat))×((List (Int))×(List (Int))×(List (Int)))
abbrev Wh.aab:Type:=((((Unit)×(Nat×Nat))×((List (Int))×(List (Int)))))
def Wh.Hr (x:Wh.Qn):Option (Wh.Qn⊕Wh.aab):=
 let Bh:=x.1.1
 let b_510:=x.1.2.2.2.1
 let b_511:=x.1.2.2.2.2
 let N8:=x.2.1
 let SD:=x.2.2.1
 let SE:=x.2.2.2
 bif decide (Bh<(8:Int)) then
  let ls_516:=List.set N8 (Int.toNat Bh) (IntKind.wrap .u32 (List.getD N8 (Int.toNat Bh) (0:Int)+List.getD SD (Int.toNat Bh) (0:Int)))
  bif iy [decide ((0:Int)≤Bh),decide (Bh<(↑(8:Nat):Int)),decide ((0:Int)≤Bh),decide (Bh<(↑(8:Nat):Int)),decide ((0:Int)≤Bh),decide (Bh<(↑(8:Nat):Int))] then
   some (.inl (((IntKind.wrap .i64 (Bh+(1:Int))),(),(),b_510,b_511),ls_516,SD,SE))
  else none
 else
  some (.inr (((),b_510,b_511),N8,SE))
def Wh.U7:(((Unit)×(Nat×Nat))×((List (Int))×(List (Int)))):=default
abbrev Wh.Qm:Type:=((Int)×(Unit)×(Unit)×(Unit)×(Nat×Nat))×((List (Int))×(List (Int))×(List (Int))×(List (Int)))
abbrev Wh.aaa:Type:=((((Unit)×(Unit)×(Nat×Nat))×((List (Int))×(List (Int))×(List (Int)))))
def Wh.E4 (x:Wh.Qm):Option (Wh.Qm⊕Wh.aaa):=
 let D5:=x.1.1
 let b_447:Nat:=(x.1.2.2.2.2).1
 let b_448:Nat:=(x.1.2.2.2.2).2
 let Cc:=x.2.1
 let SA:=x.2.2.1
 let SB:List Int:=(x.2.2.2).1
 let SC:=x.2.2.2.2
 bif decide (D5<(64:Int)) then
  let CY:=List.getD Cc (Int.toNat (4:Int)) (0:Int)
  let CZ:=List.getD Cc (Int.toNat (0:Int)) (0:Int)
  let v_456:=List.getD Cc (Int.toNat (7:Int)) (0:Int)
  let r_457:=Wh.Av (CY,(6:Int))
  let r_458:=Wh.Av (CY,(11:Int))
  let r_460:=Wh.Av (CY,(25:Int))
  let v_463:=List.getD Cc (Int.toNat (5:Int)) (0:Int)
  let v_464:=List.getD Cc (Int.toNat (6:Int)) (0:Int)
  let v_468:=List.getD Wh.AZ (Int.toNat D5) (0:Int)
  let v_470:=List.getD SA (Int.toNat D5) (0:Int)
  let TE:=IntKind.wrap .u32 (IntKind.wrap .u32 (IntKind.wrap .u32 (IntKind.wrap .u32 (v_456+nj Go.BinOp.xor Go.IntKind.u32 (nj Go.BinOp.xor Go.IntKind.u32 r_457.1 r_458.1) r_460.1)+nj Go.BinOp.xor Go.IntKind.u32 (nj Go.BinOp.and Go.IntKind.u32 CY v_463) (nj Go.BinOp.and Go.IntKind.u32 (nj Go.BinOp.xor Go.IntKind.u32 (Go.IntKind.max Go.IntKind.u32) CY) v_464))+v_468)+v_470)
  bif iy [decide ((0:Int)≤D5),decide (D5<(↑(64:Nat):Int)),decide ((0:Int)≤D5),decide (D5<(↑(64:Nat):Int)),true,true,true,true,nQ (Wh.zY (CY,(25:Int))),nQ (Wh.zY (CY,(11:Int))),nQ (Wh.zY (CY,(6:Int))),true,true] then
   let r_473:=Wh.Av (CZ,(2:Int))
   let r_474:=Wh.Av (CZ,(13:Int))
   let r_476:=Wh.Av (CZ,(22:Int))
   let Q3:=List.getD Cc (Int.toNat (1:Int)) (0:Int)
   let Q4:=List.getD Cc (Int.toNat (2:Int)) (0:Int)
   bif iy [true,true,true,true,true,true,true,true,nQ (Wh.zY (CZ,(22:Int))),nQ (Wh.zY (CZ,(13:Int))),nQ (Wh.zY (CZ,(2:Int)))] then
    let ls_484:List Int:=[IntKind.wrap .u32 (TE+(IntKind.wrap .u32 (nj Go.BinOp.xor Go.IntKind.u32 (nj Go.BinOp.xor Go.IntKind.u32 r_473.1 r_474.1) r_476.1+nj Go.BinOp.xor Go.IntKind.u32 (nj Go.BinOp.xor Go.IntKind.u32 (nj Go.BinOp.and Go.IntKind.u32 CZ Q3) (nj Go.BinOp.and Go.IntKind.u32 CZ Q4)) (nj Go.BinOp.and Go.IntKind.u32 Q3 Q4)))),CZ,Q3,Q4,IntKind.wrap .u32 (List.getD Cc (Int.toNat (3:Int)) (0:Int)+TE),CY,v_463,v_464]
    some (.inl (((IntKind.wrap .i64 (D5+(1:Int))),(),(),(),b_447,b_448),ls_484,SA,SB,SC))
   else none
  else none
 else
  some (.inr (((),(),b_447,b_448),SB,Cc,SC))
def Wh.U6:(((Unit)×(Unit)×(Nat×Nat))×((List (Int))×(List (Int))×(List (Int)))):=default
abbrev Wh.Ql:Type:=((Int)×(Unit)×(Nat×Nat)×(Unit))×((List (Int))×(List (Int))×(List (Int)))
abbrev Wh.Z_:Type:=((((Unit)×(Unit)×(Nat×Nat))×((List (Int))×(List (Int))×(List (Int)))))
def Wh.DN (x:Wh.Ql):Option (Wh.Ql⊕Wh.Z_):=
 let yR:=x.1.1
 let Eb:Nat:=(x.1.2.2).1.1
 let Ec:Nat:=(x.1.2.2).1.2
 let En:=x.2.1
 let Eo:=x.2.2.1
 let N7:=x.2.2.2
 bif decide (yR<(64:Int)) then
  bif decide (yR<(16:Int)) then
   let ls_346:=List.set En (Int.toNat yR) (nj Go.BinOp.or Go.IntKind.u32 (nj Go.BinOp.or Go.IntKind.u32 (nj Go.BinOp.or Go.IntKind.u32 (IntKind.wrap .u32 (IntKind.wrap .u32 (List.getD Eo (Eb+Int.toNat (IntKind.wrap .i64 ((4:Int)*yR))) (0:Int))*(2:Int) ^ Min.min (Int.toNat (24:Int)) (Go.IntKind.bits Go.IntKind.u32))) (IntKind.wrap .u32 (IntKind.wrap .u32 (List.getD Eo (Eb+Int.toNat (IntKind.wrap .i64 (IntKind.wrap .i64 ((4:Int)*yR)+(1:Int)))) (0:Int))*(2:Int) ^ Min.min (Int.toNat (16:Int)) (Go.IntKind.bits Go.IntKind.u32)))) (IntKind.wrap .u32 (IntKind.wrap .u32 (List.getD Eo (Eb+Int.toNat (IntKind.wrap .i64 (IntKind.wrap .i64 ((4:Int)*yR)+(2:Int)))) (0:Int))*(2:Int) ^ Min.min (Int.toNat (8:Int)) (Go.IntKind.bits Go.IntKind.u32)))) (IntKind.wrap .u32 (List.getD Eo (Eb+Int.toNat (IntKind.wrap .i64 (IntKind.wrap .i64 ((4:Int)*yR)+(3:Int)))) (0:Int))))
   let D4:=IntKind.wrap .i64 ((4:Int)*yR)
   bif iy [decide ((0:Int)≤yR),decide (yR<(↑(64:Nat):Int)),decide ((0:Int)≤IntKind.wrap .i64 (D4+(3:Int))),decide (IntKind.wrap .i64 (D4+(3:Int))<(↑Ec:Int)),true,decide ((0:Int)≤IntKind.wrap .i64 (D4+(2:Int))),decide (IntKind.wrap .i64 (D4+(2:Int))<(↑Ec:Int)),true,decide ((0:Int)≤IntKind.wrap .i64 (D4+(1:Int))),decide (IntKind.wrap .i64 (D4+(1:Int))<(↑Ec:Int)),true,decide ((0:Int)≤D4),decide (D4<(↑Ec:Int))] then
    some (.inl (((IntKind.wrap .i64 (yR+(1:Int))),(),(Eb,Ec),()),ls_346,Eo,N7))
   else none
  else
   let Q1:=IntKind.wrap .i64 (yR-(15:Int))
   let Q2:=IntKind.wrap .i64 (yR-(2:Int))
   let HW:=List.getD En (Int.toNat Q1) (0:Int)
   let H9:=List.getD En (Int.toNat Q2) (0:Int)
   bif iy [decide ((0:Int)≤Q2),decide (Q2<(↑(64:Nat):Int)),decide ((0:Int)≤Q1),decide (Q1<(↑(64:Nat):Int))] then
    let r_376:=Wh.Av (HW,(7:Int))
    let r_377:=Wh.Av (HW,(18:Int))
    let r_378:=Wh.Av (H9,(17:Int))
    let r_379:=Wh.Av (H9,(19:Int))
    let ls_380:=List.set En (Int.toNat yR) (IntKind.wrap .u32 (IntKind.wrap .u32 (IntKind.wrap .u32 (List.getD En (Int.toNat (IntKind.wrap .i64 (yR-(16:Int)))) (0:Int)+List.getD En (Int.toNat (IntKind.wrap .i64 (yR-(7:Int)))) (0:Int))+nj Go.BinOp.xor Go.IntKind.u32 (nj Go.BinOp.xor Go.IntKind.u32 r_376.1 r_377.1) (Int.fdiv HW ((2:Int) ^ Min.min (Int.toNat (3:Int)) (Go.IntKind.bits Go.IntKind.u32))))+nj Go.BinOp.xor Go.IntKind.u32 (nj Go.BinOp.xor Go.IntKind.u32 r_378.1 r_379.1) (Int.fdiv H9 ((2:Int) ^ Min.min (Int.toNat (10:Int)) (Go.IntKind.bits Go.IntKind.u32)))))
    let v_381:=IntKind.wrap .i64 (yR-(16:Int))
    let v_383:=IntKind.wrap .i64 (yR-(7:Int))
    bif iy [decide ((0:Int)≤yR),decide (yR<(↑(64:Nat):Int)),true,nQ (Wh.zY (H9,(19:Int))),nQ (Wh.zY (H9,(17:Int))),true,nQ (Wh.zY (HW,(18:Int))),nQ (Wh.zY (HW,(7:Int))),decide ((0:Int)≤v_383),decide (v_383<(↑(64:Nat):Int)),decide ((0:Int)≤v_381),decide (v_381<(↑(64:Nat):Int))] then
     some (.inl (((IntKind.wrap .i64 (yR+(1:Int))),(),(Eb,Ec),()),ls_380,Eo,N7))
    else none
   else none
 else
  some (.inr (((),(),Eb,Ec),En,N7,Eo))
def Wh.U5:(((Unit)×(Unit)×(Nat×Nat))×((List (Int))×(List (Int))×(List (Int)))):=default
abbrev Wh.Qk:Type:=((Nat×Nat)×(Unit))×((List (Int))×(List (Int)))
abbrev Wh.Z9:Type:=((((Unit))×((List (Int)))))
def Wh.DM (x:Wh.Qk):Option (Wh.Qk⊕Wh.Z9):=
 let b_529:=x.1.1.1
 let b_530:=x.1.1.2
 let ls_531:=x.2.1
 let SF:=x.2.2
 bif decide ((↑b_530:Int)>(0:Int)) then
  let pb_534:List Int:=[(0:Int),(0:Int),(0:Int),(0:Int),(0:Int),(0:Int),(0:Int),(0:Int),(0:Int),(0:Int),(0:Int),(0:Int),(0:Int),(0:Int),(0:Int),(0:Int),(0:Int),(0:Int),(0:Int),(0:Int),(0:Int),(0:Int),(0:Int),(0:Int),(0:Int),(0:Int),(0:Int),(0:Int),(0:Int),(0:Int),(0:Int),(0:Int),(0:Int),(0:Int),(0:Int),(0:Int),(0:Int),(0:Int),(0:Int),(0:Int),(0:Int),(0:Int),(0:Int),(0:Int),(0:Int),(0:Int),(0:Int),(0:Int),(0:Int),(0:Int),(0:Int),(0:Int),(0:Int),(0:Int),(0:Int),(0:Int),(0:Int),(0:Int),(0:Int),(0:Int),(0:Int),(0:Int),(0:Int),(0:Int)]
  let x_535:Wh.Ql:=(((0:Int),(),(b_529,b_530),()),pb_534,ls_531,SF)
  bif lF Wh.DN x_535 then
   let Ia:=kG Wh.DN Wh.U5 x_535
   let b_537:Nat:=(Ia.1.2.2).1
   let b_538:=Ia.1.2.2.2
   let ls_539:=Ia.2.1
   let SG:=Ia.2.2.1
   let ls_541:=Ia.2.2.2
   let x_542:Wh.Qm:=(((0:Int),(),(),(),b_537,b_538),SG,ls_539,SG,ls_541)
   bif lF Wh.E4 x_542 then
    let Ib:=kG Wh.E4 Wh.U6 x_542
    let b_544:Nat:=(Ib.1.2.2).1
    let b_545:=Ib.1.2.2.2
    let ls_546:=Ib.2.1
    let ls_547:=Ib.2.2.1
    let ls_548:=Ib.2.2.2
    let x_549:Wh.Qn:=(((0:Int),(),(),b_544,b_545),ls_546,ls_547,ls_548)
    bif lF Wh.Hr x_549 then
     let L5:=kG Wh.Hr Wh.U7 x_549
     let b_551:=L5.1.2.1
     let NC:=L5.1.2.2
     let ls_553:=L5.2.1
     let SH:=L5.2.2
     let v_555:Nat:=Int.toNat ((↑NC:Int)-(64:Int))
     let v_556:Nat:=b_551+Int.toNat (64:Int)
     bif iy [true,decide ((64:Int)≤(↑NC:Int)),decide ((↑b_551:Int)+(↑NC:Int)≤(↑(List.length SH):Int))] then
      some (.inl (((v_556,v_555),()),SH,ls_553))
     else none
    else none
   else none
  else none
 else
  some (.inr ((),SF))
def Wh.U4:(((Unit))×((List (Int)))):=default
abbrev Wh.Qj:Type:=((Int)×(Int)×(Unit)×(Unit))×((List (Int))×(List (Int)))
abbrev Wh.Z8:Type:=((((Unit)×(Unit))×((List (Int))×(List (Int)))))
def Wh.E3 (x:Wh.Qj):Option (Wh.Qj⊕Wh.Z8):=
 let Kq:=x.1.1
 let Tu:=x.1.2.1
 let zV:=x.2.1
 let xY:=x.2.2
 bif decide (Kq≥(0:Int)) then
  let Ld:List Int:=[IntKind.wrap .u8 (Int.fdiv Tu ((2:Int) ^ Min.min (Int.toNat Kq) (Go.IntKind.bits Go.IntKind.u64)))]
  let Ep:=zV++Ld
  bif iy [decide (List.length zV+(1:Nat)≤dh),decide ((0:Int)≤Kq)] then
   some (.inl (((IntKind.wrap .i64 (Kq-(8:Int))),Tu,(),()),Ep,xY))
  else none
 else
  some (.inr (((),()),zV,xY))
def Wh.U3:(((Unit)×(Unit))×((List (Int))×(List (Int)))):=default
abbrev Wh.Qi:Type:=((Unit)×(Unit)×(List UInt8))×((List (Int))×(List (Int)))
abbrev Wh.Z7:Type:=((((Unit)×(Unit)×(List UInt8))×((List (Int))×(List (Int)))))
def Wh.DL (x:Wh.Qi):Option (Wh.Qi⊕Wh.Z7):=
 let CX:=x.1.2.2
 let KY:=x.2.1
 let AM:=x.2.2
 let yQ:Bool:=(Int.tmod (↑(List.length KY):Int) (64:Int)) != (56:Int)
 bif yQ then
  let N3:=KY ++ [(0:Int)]
  bif iy [decide (List.length KY+(1:Nat)≤dh)] then
   some (.inl (((),(),CX),N3,AM))
  else none
 else
  some (.inr (((),(),CX),KY,AM))
def Wh.U2:(((Unit)×(Unit)×(List UInt8))×((List (Int))×(List (Int)))):=default
def Wh.q54 (xs:(List UInt8)):Option (((List UInt8))×(Unit)):=
 let yE:=xs
 let y4:List Int:=bytesOf yE ++ [(128:Int)]
 bif iy [decide (List.length (bytesOf yE)+(1:Nat)≤dh),decide (List.length yE≤dh)] then
  let x_14:Wh.Qi:=(((),(),yE),y4,[(1779033703:Int),(3144134277:Int),(1013904242:Int),(2773480762:Int),(1359893119:Int),(2600822924:Int),(528734635:Int),(1541459225:Int)])
  bif lF Wh.DL x_14 then
   let y_15:=kG Wh.DL Wh.U2 x_14
   let acn:=y_15.1.2.2
   let x4:=y_15.2.1
   let vN:=y_15.2.2
   let D6:Wh.Qj:=(((56:Int),(IntKind.wrap .u64 ((IntKind.wrap .u64 (↑(List.length acn):Int))*(8:Int))),(),()),x4,vN)
   bif lF Wh.E3 D6 then
    let Gq:=kG Wh.E3 Wh.U3 D6
    let Er:=Gq.2.1
    let Cb:=Gq.2.2
    let x_557:Wh.Qk:=((((0:Nat),List.length Er),()),Er,Cb)
    bif lF Wh.DM x_557 then
     let y_558:=kG Wh.DM Wh.U4 x_557
     let ls_559:=y_558.2
     let x_582:Wh.Qo:=(((0:Int),(),ls_559),[])
     bif lF Wh.Hs x_582 then
      let y_583:=kG Wh.Hs Wh.U8 x_582
      let ls_584:=y_583.2
      some (qp ls_584,())
     else none
    else none
   else none
  else none
 else none
def Wh.q54':=e_ Wh.q54
theorem Wh.q54_v:OV Wh.q54 Wh.q54':=fk _
abbrev Wh.Pm:Type:=((Int)×(List UInt8)×(Unit))×((List (Int)))
abbrev Wh.Zz:Type:=((((Unit))×((List (Int)))))
def Wh.Lp (x:Wh.Pm):Option (Wh.Pm⊕Wh.Zz):=
 let Ek:=x.1.1
 let Be:=x.1.2.1
 let x9:=x.2
 let xe:=decide (Ek<(↑(List.length Be):Int))
 bif xe then
  let Ev:List Int:=[(↑(UInt8.toNat (List.getD [(48:UInt8),(49:UInt8),(50:UInt8),(51:UInt8),(52:UInt8),(53:UInt8),(54:UInt8),(55:UInt8),(56:UInt8),(57:UInt8),(97:UInt8),(98:UInt8),(99:UInt8),(100:UInt8),(101:UInt8),(102:UInt8)] (Int.toNat (IntKind.wrap .u8 (Int.tdiv (↑(UInt8.toNat (List.getD Be (Int.toNat Ek) (0:UInt8))):Int) (16:Int)))) (0:UInt8))):Int),(↑(UInt8.toNat (List.getD [(48:UInt8),(49:UInt8),(50:UInt8),(51:UInt8),(52:UInt8),(53:UInt8),(54:UInt8),(55:UInt8),(56:UInt8),(57:UInt8),(97:UInt8),(98:UInt8),(99:UInt8),(100:UInt8),(101:UInt8),(102:UInt8)] (Int.toNat (Int.tmod (↑(UInt8.toNat (List.getD Be (Int.toNat Ek) (0:UInt8))):Int) (16:Int))) (0:UInt8))):Int)]
  let vN:=x9++Ev
  let nG:Int:=(↑(UInt8.toNat (List.getD Be (Int.toNat Ek) (0:UInt8))):Int)
  bif iy [decide (List.length x9+(2:Nat)≤dh),decide ((0:Int)≤Int.tmod nG (16:Int)),decide (Int.tmod nG (16:Int)<(↑(16:Nat):Int)),true,decide ((0:Int)≤Ek),xe,decide ((0:Int)≤IntKind.wrap .u8 (Int.tdiv nG (16:Int))),decide (IntKind.wrap .u8 (Int.tdiv nG (16:Int))<(↑(16:Nat):Int)),true,decide ((0:Int)≤Ek),xe] then
   some (.inl (((IntKind.wrap .i64 (Ek+(1:Int))),Be,()),vN))
  else none
 else
  some (.inr ((),x9))
def Wh.Uk:(((Unit))×((List (Int)))):=default
def Wh.F5 (xs:(List UInt8)):Option (((List UInt8))×(Unit)):=
 let eA:=xs
 let x_25:Wh.Pm:=(((0:Int),eA,()),[])
 bif lF Wh.Lp x_25 then
  let z_:=kG Wh.Lp Wh.Uk x_25
  let yM:=z_.2
  some (qp yM,())
 else none
def Wh.Pk:=e_ Wh.F5
theorem Wh.Ul:OV Wh.F5 Wh.Pk:=fk _
def Wh.q75 (xs:(List UInt8)):Option (((List UInt8))×(Unit)):=
 let yE:=xs
 let r_1:xV.D:=Wh.q54' yE
 let r_3:xV.D:=Wh.Pk r_1.1
 bif iy [nQ (Wh.F5 r_1.1),nQ (Wh.q54 yE)] then
  some (r_3.1,())
 else none
def Wh.DS:=e_ Wh.q75
theorem Wh.q75_v:OV Wh.q75 Wh.DS:=fk _
def Wh.q80 (xs:(Int)×(List UInt8)):Option (((List UInt8))×(Unit)):=
 let yj:=xs.1
 let yV:=xs.2
 let r_2:xV.D:=Wh.tJ yj
 let fT:xV.D:=Wh.tJ (↑(List.length yV):Int)
 let zR:=r_2.1 ++ [(32:UInt8)]++fT.1 ++ [(32:UInt8)]
 bif iy [decide (List.length (r_2.1 ++ [(32:UInt8)]++fT.1)+(1:Nat)≤dh),decide (List.length (r_2.1 ++ [(32:UInt8)])+List.length fT.1≤dh),nQ (Wh.strconv_Itoa (↑(List.length yV):Int)),decide (List.length r_2.1+(1:Nat)≤dh),nQ (Wh.strconv_Itoa yj)] then
  let zp:List UInt8:=zR++yV
  let yD:xV.D:=Wh.DS zp
  let wX:List UInt8:=zR++List.take (Int.toNat ((16:Int)-(0:Int))) (List.drop (Int.toNat (0:Int)) yD.1) ++ [(32:UInt8)]++yV ++ [(10:UInt8)]
  bif iy [decide (List.length (zR++List.take (Int.toNat ((16:Int)-(0:Int))) (List.drop (Int.toNat (0:Int)) ((Wh.DS zp).1)) ++ [(32:UInt8)]++yV)+(1:Nat)≤dh),decide (List.length (zR++List.take (Int.toNat ((16:Int)-(0:Int))) (List.drop (Int.toNat (0:Int)) ((Wh.DS zp).1)) ++ [(32:UInt8)])+List.length yV≤dh),decide (List.length (zR++List.take (Int.toNat ((16:Int)-(0:Int))) (List.drop (Int.toNat (0:Int)) ((Wh.DS zp).1)))+(1:Nat)≤dh),decide (List.length zR+List.length (List.take (Int.toNat ((16:Int)-(0:Int))) (List.drop (Int.toNat (0:Int)) ((Wh.DS zp).1)))≤dh),true,true,decide ((16:Int)≤(↑(List.length ((Wh.DS zp).1)):Int)),nQ (Wh.q75 zp),decide (List.length zR+List.length yV≤dh)] then
   some (wX,())
  else none
 else none
def Wh.q80':=e_ Wh.q80
theorem Wh.QG:OV Wh.q80 Wh.q80':=fk _
def Wh.q6 (xs:(List UInt8)×(List UInt8)):Option (((Bool))×(Unit)):=
 let eA:=xs.1
 let De:=xs.2
 let v_2:=decide ((↑(List.length eA):Int)≥(↑(List.length De):Int))
 let yx:=bif v_2 then List.take (Int.toNat ((↑(List.length De):Int)-(0:Int))) (List.drop (Int.toNat (0:Int)) eA)==De else false
 bif iy [!v_2 || decide ((0:Int)≤(0:Int)),!v_2 || decide ((0:Int)≤(↑(List.length De):Int)),!v_2 || decide ((↑(List.length De):Int)≤(↑(List.length eA):Int))] then
  some (yx,())
 else none
def Wh.q6':=e_ Wh.q6
theorem Wh.q6_v:OV Wh.q6 Wh.q6':=fk _
def Wh.q11 (xs:(List UInt8)×(List UInt8)):Option (((Bool))×(Unit)):=
 let eA:=xs.1
 let De:=xs.2
 let r_2:=Wh.q6' (eA,De)
 bif iy [nQ (Wh.q6 (eA,De))] then
  some (r_2.1,())
 else none
def Wh.q11':=e_ Wh.q11
theorem Wh.O7:OV Wh.q11 Wh.q11':=fk _
abbrev Wh.QB:Type:=((Int)×(Unit)×(List UInt8))×((List (List UInt8)))
abbrev Wh.aam:Type:=((((Unit)×(Int))×((List (List UInt8)))))
def Wh.BO (x:Wh.QB):Option (Wh.QB⊕Wh.aam):=
 let AY:=x.1.1
 let AL:=x.1.2.2
 let Cd:List (List UInt8):=x.2
 let Gk:List UInt8:=List.take (Int.toNat ((↑(List.length AL):Int)-AY)) (List.drop (Int.toNat AY) AL)
 let LN:(List UInt8×List UInt8×Bool)×Unit:=Wh.tK (Gk,[(32:UInt8)])
 bif iy [nQ (Wh.strings_Cut (Gk,[(32:UInt8)])),decide ((0:Int)≤AY),decide (AY≤(↑(List.length AL):Int)),decide ((↑(List.length AL):Int)≤(↑(List.length AL):Int))] then
  let r_66:(List UInt8×List UInt8×Bool)×Unit:=Wh.tK (LN.1.2.1,[(32:UInt8)])
  bif iy [nQ (Wh.strings_Cut (LN.1.2.1,[(32:UInt8)]))] then
   let Fb:(Int×Bool)×Unit:=Wh.rW r_66.1.1
   bif iy [nQ (Wh.rV r_66.1.1)] then
    let L3:Int:=(↑(List.length Cd):Int)
    let v_74:Int:=(↑(List.length r_66.1.1):Int)
    let r_79:xV.D:=Wh.tJ L3
    let R3:=IntKind.wrap .i64 (IntKind.wrap .i64 (IntKind.wrap .i64 ((↑(List.length r_79.1):Int)+(1:Int))+v_74)+(18:Int))
    bif iy [nQ (Wh.strconv_Itoa L3)] then
     let v_81:= !Fb.1.2
     let r_82:=Wh.yK (Fb.1.1,(1:Int),(500:Int))
     let v_85:=bif bif v_81 then true else !r_82.1 then true else decide (IntKind.wrap .i64 ((↑(List.length AL):Int)-AY)<IntKind.wrap .i64 (IntKind.wrap .i64 (R3+Fb.1.1)+(1:Int)))
     bif iy [!!v_81 || nQ (Wh.x5 (Fb.1.1,(1:Int),(500:Int)))] then
      bif v_85 then
       some (.inr (((),AY),Cd))
      else
       let Fo:=IntKind.wrap .i64 (AY+R3)
       let QU:List UInt8:=List.take (Int.toNat (IntKind.wrap .i64 (Fo+Fb.1.1)-Fo)) (List.drop (Int.toNat Fo) AL)
       bif iy [decide ((0:Int)≤Fo),decide (Fo≤IntKind.wrap .i64 (Fo+Fb.1.1)),decide (IntKind.wrap .i64 (Fo+Fb.1.1)≤(↑(List.length AL):Int))] then
        let r_91:xV.D:=Wh.q80' (L3,QU)
        bif iy [nQ (Wh.q80 (L3,QU))] then
         let r_93:=Wh.q11' (Gk,r_91.1)
         bif iy [nQ (Wh.q11 (Gk,r_91.1)),decide ((0:Int)≤AY),decide (AY≤(↑(List.length AL):Int)),decide ((↑(List.length AL):Int)≤(↑(List.length AL):Int))] then
          bif !r_93.1 then
           some (.inr (((),AY),Cd))
          else
           let pb_94:List (List UInt8):=[QU]
           let ls_95:List (List UInt8):=Cd++pb_94
           bif iy [decide (List.length Cd+(1:Nat)≤dh)] then
            let HR:Int:=(↑(List.length r_91.1):Int)
            some (.inl (((IntKind.wrap .i64 (AY+HR)),(),AL),ls_95))
           else none
         else none
        else none
       else none
     else none
    else none
   else none
  else none
 else none
def Wh.Vh:(((Unit)×(Int))×((List (List UInt8)))):=default
def Wh.BN (xs:(List UInt8)):Option (((List (List UInt8))×(Int))×(Unit)):=
 let yI:=xs
 let x_99:Wh.QB:=(((0:Int),(),yI),[])
 bif lF Wh.BO x_99 then
  let y_100:=kG Wh.BO Wh.Vh x_99
  let v_101:=y_100.1.2
  let ls_102:List (List UInt8):=y_100.2
  some ((ls_102,v_101),())
 else none
def Wh.LH:=e_ Wh.BN
theorem Wh.QC:OV Wh.BN Wh.LH:=fk _
def Wh.Aw (xs:(Int)):Option (((Bool))×(Unit)):=
 let yj:=xs
 let r_1:=Wh.yK (yj,(0:Int),(1:Int))
 bif iy [nQ (Wh.x5 (yj,(0:Int),(1:Int)))] then
  some (r_1.1,())
 else none
def Wh.Hh:=e_ Wh.Aw
theorem Wh.Lr:OV Wh.Aw Wh.Hh:=fk _
abbrev Wh.OH:Type:=((Int)×(List UInt8)×(Int))×(Unit)
abbrev Wh.Zl:Type:=((((Bool))×(Unit))⊕(((List UInt8))×(Unit)))
def Wh.Ck (x:Wh.OH):Option (Wh.OH⊕Wh.Zl):=
 let z7:=x.1.1
 let HL:=x.1.2.1
 let yQ:=x.1.2.2
 bif decide (z7<yQ) then
  let nS:Int:=(↑(UInt8.toNat (List.getD HL (Int.toNat z7) (0:UInt8))):Int)
  let xW:=bif decide (nS<(97:Int)) then true else decide (nS>(122:Int))
  bif iy [!!decide (nS<(97:Int)) || decide ((0:Int)≤z7),!!decide (nS<(97:Int)) || decide (z7<(↑(List.length HL):Int)),decide ((0:Int)≤z7),decide (z7<(↑(List.length HL):Int))] then
   bif xW then
    some (.inr (.inl (false,())))
   else
    some (.inl (((IntKind.wrap .i64 (z7+(1:Int))),HL,yQ),()))
  else none
 else
  some (.inr (.inr (HL,())))
def Wh.TV:(((Bool))×(Unit))⊕(((List UInt8))×(Unit)):=.inl default
def Wh.Dg (xs:(List UInt8)):Option (((Bool))×(Unit)):=
 let yE:=xs
 let x_19:Wh.OH:=(((0:Int),yE,(↑(List.length yE):Int)),())
 bif lF Wh.Ck x_19 then
  sumC (kG Wh.Ck Wh.TV x_19) (fun y_20=>
   let yd:=y_20.1
   some (yd,())) (fun z_21=>
   let VJ:=z_21.1
   let HA:=Wh.yK ((↑(List.length VJ):Int),(1:Int),(6:Int))
   bif iy [nQ (Wh.x5 ((↑(List.length VJ):Int),(1:Int),(6:Int)))] then
    some (HA.1,())
   else none)
 else none
def Wh.Lh:=e_ Wh.Dg
theorem Wh.OI:OV Wh.Dg Wh.Lh:=fk _
def Wh.q32 (xs:(Int)×(List UInt8)×(List UInt8)):Option (((List UInt8))×(Unit)):=
 let Ei:=xs.1
 let yJ:=xs.2.1
 let Ak:=xs.2.2
 let r_3:=Wh.Hh Ei
 let fT:=Wh.Lh yJ
 let zb:=bif bif !r_3.1 then true else !fT.1 then true else decide ((↑(List.length Ak):Int)>(300:Int))
 bif iy [!!!r_3.1 || nQ (Wh.Dg yJ),nQ (Wh.Aw Ei)] then
  bif zb then
   some ([],())
  else
   let yP:xV.D:=Wh.tJ Ei
   let DZ:=yP.1 ++ [(32:UInt8)]++yJ ++ [(58:UInt8)]++Ak
   bif iy [decide (List.length (yP.1 ++ [(32:UInt8)]++yJ ++ [(58:UInt8)])+List.length Ak≤dh),decide (List.length (yP.1 ++ [(32:UInt8)]++yJ)+(1:Nat)≤dh),decide (List.length (yP.1 ++ [(32:UInt8)])+List.length yJ≤dh),decide (List.length yP.1+(1:Nat)≤dh),nQ (Wh.strconv_Itoa Ei)] then
    some (DZ,())
   else none
 else none
def Wh.q32':=e_ Wh.q32
theorem Wh.P2:OV Wh.q32 Wh.q32':=fk _
def Wh.BL (xs:(bx.D)):Option ((((Int)×((List (an.D))×(Unit))))×(Unit)):=
 let gz:bx.D:=xs
 let y4:List (an.D):=[]++gz.2.1
 bif iy [decide ((0:Nat)+List.length gz.2.1≤dh)] then
  some ((gz.1,y4,()),())
 else none
def Wh.Ga:=e_ Wh.BL
theorem Wh.DK:OV Wh.BL Wh.Ga:=fk _
def Wh.q20 (xs:(an.D)×(Int)×(List UInt8)):Option (((Bool))×(Unit)):=
 let i_0:an.D:=xs.1
 let v_1:=xs.2.1
 let v_2:=xs.2.2
 let xQ:=bif(i_0.1==v_1) then i_0.2.1==v_2 else false
 some (xQ,())
def Wh.q20':=e_ Wh.q20
theorem Wh.PU:OV Wh.q20 Wh.q20':=fk _
abbrev Wh.P8:Type:=((Int)×(List (an.D))×((Int)×((List UInt8)×(Unit)))×(Int))×(Unit)
abbrev Wh.q3_l0Y:Type:=((((Int))×(Unit))⊕((Unit)×(Unit)))
def Wh.CK (x:Wh.P8):Option (Wh.P8⊕Wh.q3_l0Y):=
 let yQ:=x.1.1
 let s_13:List (an.D):=x.1.2.1
 let f_14:Int:=(x.1.2.2).1.1
 let f_15:List UInt8:=(x.1.2.2).1.2.1
 let xe:=x.1.2.2.2
 bif decide (yQ<xe) then
  let w9:an.D:=List.getD s_13 (Int.toNat yQ) ((0:Int),[],(0:Int),[],())
  let r_19:=Wh.q20' (w9,f_14,f_15)
  bif iy [nQ (Wh.q20 (w9,f_14,f_15)),decide ((0:Int)≤yQ),decide (yQ<(↑(List.length s_13):Int))] then
   bif r_19.1 then
    some (.inr (.inl (yQ,())))
   else
    some (.inl (((IntKind.wrap .i64 (yQ+(1:Int))),s_13,(f_14,f_15,()),xe),()))
  else none
 else
  some (.inr (.inr ((),())))
def Wh.UT:(((Int))×(Unit))⊕((Unit)×(Unit)):=.inl default
def Wh.q3 (xs:(List (an.D))×((Int)×((List UInt8)×(Unit)))):Option (((Int))×(Unit)):=
 let eA:List (an.D):=xs.1
 let f_1:Int×xV.D:=xs.2
 let v_2:Int:=(↑(List.length eA):Int)
 let x_21:Wh.P8:=(((0:Int),eA,(f_1.1,f_1.2.1,()),v_2),())
 bif lF Wh.CK x_21 then
  sumC (kG Wh.CK Wh.UT x_21) (fun C0=>
   let nW:=C0.1
   some (nW,())) (fun _=>
   some ((-1:Int),()))
 else none
def Wh.q3':=e_ Wh.q3
theorem Wh.q3_v:OV Wh.q3 Wh.q3':=fk _
def Wh.Ba (xs:(bx.D)×(Int)×(List UInt8)):Option (((Int))×(Unit)):=
 let gz:bx.D:=xs.1
 let w7:=xs.2.1
 let yl:=xs.2.2
 let r_3:=Wh.q3' (gz.2.1,w7,yl,())
 bif iy [nQ (Wh.q3 (gz.2.1,w7,yl,()))] then
  some (r_3.1,())
 else none
def Wh.LG:=e_ Wh.Ba
theorem Wh.Hq:OV Wh.Ba Wh.LG:=fk _
def Wh.E_ (xs:(List (an.D))×(Int)×(Int)):Option (((List (an.D)))×(Unit)):=
 let eA:List (an.D):=xs.1
 let i_1:=xs.2.1
 let Ar:=xs.2.2
 let s4:Int:=(↑(List.length eA):Int)
 bif iy [decide ((0:Int)≤i_1),decide (i_1≤Ar),decide (Ar≤s4),decide (s4≤s4)] then
  let yx:=i_1==Ar
  bif yx then
   some (eA,())
  else
   let pb_5:List (an.D):=List.take (Int.toNat (0:Int)+Int.toNat (i_1-(0:Int))) eA++(List.take (Int.toNat (s4-Ar)) (List.drop (Int.toNat Ar) eA)++List.drop (Int.toNat (0:Int)+Int.toNat (i_1-(0:Int))+List.length (List.take (Int.toNat (s4-Ar)) (List.drop (Int.toNat Ar) eA))) eA)
   let z8:Nat:=Int.toNat (i_1-(0:Int))
   let s_9:Nat:=z8+List.length (List.take (Int.toNat (s4-Ar)) (List.drop (Int.toNat Ar) eA))
   bif iy [decide (Int.toNat (0:Int)+z8+List.length (List.take (Int.toNat (s4-Ar)) (List.drop (Int.toNat Ar) eA))≤List.length eA),decide ((0:Int)≤Ar),decide (Ar≤s4),decide (s4≤s4),true,decide ((0:Int)≤i_1),decide (i_1≤s4)] then
    let Ox:List (an.D):=List.take (Int.toNat (0:Int)+Int.toNat (↑s_9:Int)) pb_5++(@List.replicate (Int×List UInt8×Int×List UInt8×Unit) (Int.toNat (s4-(↑s_9:Int))) ((0:Int),[],(0:Int),[],())++List.drop (Int.toNat (0:Int)+Int.toNat (↑s_9:Int)+List.length (@List.replicate (Int×List UInt8×Int×List UInt8×Unit) (Int.toNat (s4-(↑s_9:Int))) ((0:Int),[],(0:Int),[],()))) pb_5)
    bif iy [decide ((0:Int)≤(↑s_9:Int)),decide ((↑s_9:Int)≤s4),decide ((↑(Int.toNat (0:Int)):Int)+s4≤(↑(List.length pb_5):Int))] then
     some (List.take s_9 Ox,())
    else none
   else none
 else none
def Wh.q9':=e_ Wh.E_
theorem Wh.q9_v:OV Wh.E_ Wh.q9':=fk _
def Wh.q49 (xs:(bx.D)×(Int)×(List UInt8)):Option ((((Int)×((List (an.D))×(Unit)))×(Int))×(Unit)):=
 let gz:bx.D:=xs.1
 let w7:=xs.2.1
 let yl:=xs.2.2
 let r_3:(bx.D)×Unit:=Wh.Ga gz
 bif iy [nQ (Wh.BL gz)] then
  let fT:=Wh.LG (gz,w7,yl)
  bif iy [nQ (Wh.Ba (gz,w7,yl))] then
   bif decide (fT.1<(0:Int)) then
    some ((r_3.1,(3:Int)),())
   else
    let yw:List (an.D)×Unit:=Wh.q9' (r_3.1.2.1,fT.1,IntKind.wrap .i64 (fT.1+(1:Int)))
    let pb_7:List (an.D):=[]++yw.1
    bif iy [decide ((0:Nat)+List.length yw.1≤dh),nQ (Wh.E_ (r_3.1.2.1,fT.1,(IntKind.wrap .i64 (fT.1+(1:Int)))))] then
     some (((r_3.1.1,pb_7,r_3.1.2.2),(0:Int)),())
    else none
  else none
 else none
def Wh.q49':=e_ Wh.q49
theorem Wh.q49_v:OV Wh.q49 Wh.q49':=fk _
def Wh.q16 (xs:(Int)×(List UInt8)×(List UInt8)):Option (((Bool))×(Unit)):=
 let Ei:=xs.1
 let yJ:=xs.2.1
 let Ak:=xs.2.2
 let r_3:=Wh.Hh Ei
 let fT:=Wh.Lh yJ
 let AV:=Wh.yK ((↑(List.length Ak):Int),(1:Int),(300:Int))
 let yy:=bif bif r_3.1 then fT.1 else false then AV.1 else false
 bif iy [(!bif r_3.1 then fT.1 else false) || nQ (Wh.x5 ((↑(List.length Ak):Int),(1:Int),(300:Int))),!r_3.1 || nQ (Wh.Dg yJ),nQ (Wh.Aw Ei)] then
  some (yy,())
 else none
def Wh.q16':=e_ Wh.q16
theorem Wh.LA:OV Wh.q16 Wh.q16':=fk _
abbrev Wh.P4:Type:=((Int)×(Int)×(Int)×(List (an.D))×(Int))×(Unit)
abbrev Wh.ZU:Type:=((((Int))×(Unit)))
def Wh.CI (x:Wh.P4):Option (Wh.P4⊕Wh.ZU):=
 let xe:=x.1.1
 let Eu:=x.1.2.1
 let Eh:Int:=(x.1.2.2).1
 let nG:List (an.D):=x.1.2.2.2.1
 let nC:=x.1.2.2.2.2
 bif decide (xe<nC) then
  let AO:an.D:=List.getD nG (Int.toNat xe) ((0:Int),[],(0:Int),[],())
  bif iy [decide ((0:Int)≤xe),decide (xe<(↑(List.length nG):Int))] then
   bif(AO.1==Eh) then
    let nW:Int:=(↑(List.length ((AO.2.2.2).1)):Int)
    some (.inl (((IntKind.wrap .i64 (xe+(1:Int))),(IntKind.wrap .i64 (Eu+nW)),Eh,nG,nC),()))
   else
    some (.inl (((IntKind.wrap .i64 (xe+(1:Int))),Eu,Eh,nG,nC),()))
  else none
 else
  some (.inr (Eu,()))
def Wh.UP:(((Int))×(Unit)):=default
def Wh.q34 (xs:(bx.D)×(Int)):Option (((Int))×(Unit)):=
 let gz:bx.D:=xs.1
 let w7:=xs.2
 let v_2:Int:=(↑(List.length gz.2.1):Int)
 let HU:Wh.P4:=(((0:Int),(0:Int),w7,gz.2.1,v_2),())
 bif lF Wh.CI HU then
  let Gp:=kG Wh.CI Wh.UP HU
  let n_31:=Gp.1
  some (n_31,())
 else none
def Wh.q34':=e_ Wh.q34
theorem Wh.q34_v:OV Wh.q34 Wh.q34':=fk _
def Wh.q46 (xs:(Int)):Option (((Bool))×(Unit)):=
 let yg:=xs
 let v_1:=yg != yg
 some (v_1,())
def Wh.LF:=e_ Wh.q46
theorem Wh.q46_v:OV Wh.q46 Wh.LF:=fk _
def Wh.q19 (xs:(Int)×(Int)):Option (((Int))×(Unit)):=
 let yg:=xs.1
 let BY:=xs.2
 let r_2:=Wh.LF yg
 bif iy [nQ (Wh.q46 yg)] then
  let r_3:=Wh.LF BY
  bif iy [nQ (Wh.q46 BY)] then
   bif r_2.1 then
    bif r_3.1 then
     some ((0:Int),())
    else
     some ((-1:Int),())
   else
    bif r_3.1 then
     some ((1:Int),())
    else
     bif decide (yg<BY) then
      some ((-1:Int),())
     else
      bif decide (yg>BY) then
       some ((1:Int),())
      else
       some ((0:Int),())
  else none
 else none
def Wh.q19':=e_ Wh.q19
theorem Wh.q19_v:OV Wh.q19 Wh.q19':=fk _
def Wh.q12 (xs:(List UInt8)):Option (((Bool))×(Unit)):=
 let yg:=xs
 some ((!yg==yg),())
def Wh.Lj:=e_ Wh.q12
theorem Wh.q12_v:OV Wh.q12 Wh.Lj:=fk _
def Wh.q7 (xs:(List UInt8)×(List UInt8)):Option (((Int))×(Unit)):=
 let yg:=xs.1
 let BY:=xs.2
 let r_2:=Wh.Lj yg
 bif iy [nQ (Wh.q12 yg)] then
  let r_3:=Wh.Lj BY
  bif iy [nQ (Wh.q12 BY)] then
   bif r_2.1 then
    bif r_3.1 then
     some ((0:Int),())
    else
     some ((-1:Int),())
   else
    bif r_3.1 then
     some ((1:Int),())
    else
     bif Go.Op.bytesLess yg BY then
      some ((-1:Int),())
     else
      bif(!(Go.Op.bytesLess yg BY || yg==BY)) then
       some ((1:Int),())
      else
       some ((0:Int),())
  else none
 else none
def Wh.q7':=e_ Wh.q7
theorem Wh.q7_v:OV Wh.q7 Wh.q7':=fk _
abbrev Wh.Pg:Type:=((Int)×(Int)×(List (Int))×(Int))×(Unit)
abbrev Wh.Zx:Type:=((((Int))×(Unit))⊕(((Int))×(Unit)))
def Wh.Dl (x:Wh.Pg):Option (Wh.Pg⊕Wh.Zx):=
 let yy:=x.1.1
 let Q5:=x.1.2.1
 let zm:List Int:=(x.1.2.2).1
 let yQ:=x.1.2.2.2
 bif decide (yy<yQ) then
  let nS:=List.getD zm (Int.toNat yy) (0:Int)
  bif iy [decide ((0:Int)≤yy),decide (yy<(↑(List.length zm):Int))] then
   let yc:=nS != Q5
   bif yc then
    some (.inr (.inl (nS,())))
   else
    some (.inl (((IntKind.wrap .i64 (yy+(1:Int))),Q5,zm,yQ),()))
  else none
 else
  some (.inr (.inr (Q5,())))
def Wh.Uh:(((Int))×(Unit))⊕(((Int))×(Unit)):=.inl default
def Wh.EN (xs:(List (Int))):Option (((Int))×(Unit)):=
 let VM:=xs
 let x_17:Wh.Pg:=(((0:Int),(0:Int),VM,(↑(List.length VM):Int)),())
 bif lF Wh.Dl x_17 then
  sumC (kG Wh.Dl Wh.Uh x_17) (fun Fq=>
   let nC:=Fq.1
   some (nC,())) (fun Ic=>
   let acJ:=Ic.1
   some (acJ,()))
 else none
def Wh.Pf:=e_ Wh.EN
theorem Wh.Ui:OV Wh.EN Wh.Pf:=fk _
def Wh.q37 (xs:(an.D)×(an.D)):Option (((Int))×(Unit)):=
 let cr:an.D:=xs.1
 let b_1:an.D:=xs.2
 let r_2:=Wh.q19' (cr.1,b_1.1)
 let r_3:=Wh.q7' (cr.2.1,b_1.2.1)
 let yw:=Wh.Pf [r_2.1,r_3.1]
 bif iy [nQ (Wh.EN [r_2.1,r_3.1]),nQ (Wh.q7 (cr.2.1,b_1.2.1)),nQ (Wh.q19 (cr.1,b_1.1))] then
  some (yw.1,())
 else none
def Wh.q37':=e_ Wh.q37
theorem Wh.LC:OV Wh.q37 Wh.q37':=fk _
abbrev Wh.OC:Type:=((Int)×(Unit)×(Unit)×(Int)×(Int)×(Int))×((List (an.D)))
abbrev Wh.q0_l1Y:Type:=((((Unit)×(Unit)×(Int)×(Int)×(Int))×((List (an.D)))))
def Wh.By (x:Wh.OC):Option (Wh.OC⊕Wh.q0_l1Y):=
 let y8:=x.1.1
 let a_24:=x.1.2.2.2.1
 let b_25:Int:=(x.1.2.2.2.2).1
 let i_26:Int:=(x.1.2.2.2.2).2
 let xU:List (an.D):=x.2
 let nE:=decide (y8>a_24)
 let zZ:=Wh.q37' (List.getD xU (Int.toNat y8) ((0:Int),[],(0:Int),[],()),List.getD xU (Int.toNat (IntKind.wrap .i64 (y8-(1:Int)))) ((0:Int),[],(0:Int),[],()))
 let zo:=bif nE then decide (zZ.1<(0:Int)) else false
 bif iy [!nE || nQ (Wh.q37 (List.getD xU (Int.toNat y8) ((0:Int),[],(0:Int),[],()),List.getD xU (Int.toNat (IntKind.wrap .i64 (y8-(1:Int)))) ((0:Int),[],(0:Int),[],()))),!nE || decide ((0:Int)≤IntKind.wrap .i64 (y8-(1:Int))),!nE || decide (IntKind.wrap .i64 (y8-(1:Int))<(↑(List.length xU):Int)),!nE || decide ((0:Int)≤y8),!nE || decide (y8<(↑(List.length xU):Int))] then
  bif zo then
   let r5:List (an.D):=List.set xU (Int.toNat y8) (List.getD xU (Int.toNat (IntKind.wrap .i64 (y8-(1:Int)))) ((0:Int),[],(0:Int),[],()))
   let pb_32:List (an.D):=List.set r5 (Int.toNat (IntKind.wrap .i64 (y8-(1:Int)))) (List.getD xU (Int.toNat y8) ((0:Int),[],(0:Int),[],()))
   let zK:=IntKind.wrap .i64 (y8-(1:Int))
   bif iy [decide ((0:Int)≤zK),decide (zK<(↑(List.length r5):Int)),decide ((0:Int)≤y8),decide (y8<(↑(List.length xU):Int)),decide ((0:Int)≤y8),decide (y8<(↑(List.length xU):Int)),decide ((0:Int)≤zK),decide (zK<(↑(List.length xU):Int))] then
    some (.inl ((zK,(),(),a_24,b_25,i_26),pb_32))
   else none
  else
   some (.inr (((),(),a_24,b_25,i_26),xU))
 else none
def Wh.TQ:(((Unit)×(Unit)×(Int)×(Int)×(Int))×((List (an.D)))):=default
abbrev Wh.OB:Type:=((Unit)×(Int)×(Unit)×(Int)×(Int))×((List (an.D)))
abbrev Wh.q0_l0Y:Type:=(((Unit)×((List (an.D)))))
def Wh.A6 (x:Wh.OB):Option (Wh.OB⊕Wh.q0_l0Y):=
 let i_43:=x.1.2.1
 let a_44:=x.1.2.2.2.1
 let b_45:=x.1.2.2.2.2
 let Bt:List (an.D):=x.2
 bif decide (i_43<b_45) then
  let HY:Wh.OC:=((i_43,(),(),a_44,b_45,i_43),Bt)
  bif lF Wh.By HY then
   let Gr:=kG Wh.By Wh.TQ HY
   let a_50:Int:=(Gr.1.2.2).1
   let b_51:=Gr.1.2.2.2.1
   let i_52:=Gr.1.2.2.2.2
   let pb_53:List (an.D):=Gr.2
   some (.inl (((),(IntKind.wrap .i64 (i_52+(1:Int))),(),a_50,b_51),pb_53))
  else none
 else
  some (.inr ((),Bt))
def Wh.TP:((Unit)×((List (an.D)))):=default
def Wh.q0 (xs:(List (an.D))×(Int)×(Int)×(Unit)):Option ((Unit)×((List (an.D))×Unit)):=
 let NH:List (an.D):=xs.1
 let a_1:=xs.2.1
 let b_2:=xs.2.2.1
 let HZ:Wh.OB:=(((),(IntKind.wrap .i64 (a_1+(1:Int))),(),a_1,b_2),NH)
 bif lF Wh.A6 HZ then
  let y_56:=kG Wh.A6 Wh.TP HZ
  let pb_57:List (an.D):=y_56.2
  some ((),pb_57,())
 else none
def Wh.q0':=e_ Wh.q0
theorem Wh.q0_v:OV Wh.q0 Wh.q0':=fk _
abbrev Wh.PR:Type:=((Unit)×(Int)×(Int)×(Unit)×(Bool)×(Bool)×(Int))×((List (an.D)))
abbrev Wh.q1_l0Y:Type:=(((Unit)×((List (an.D)))))
def Wh.F9 (x:Wh.PR):Option (Wh.PR⊕Wh.q1_l0Y):=
 let b_15:=x.1.2.1
 let a_16:Int:=(x.1.2.2).1
 let acF:Bool:=(x.1.2.2.2.2).2.1
 let XD:Int:=(x.1.2.2.2.2).2.2
 let Br:List (an.D):=x.2
 bif decide ((IntKind.wrap .i64 (b_15-a_16))≤(12:Int)) then
  let y5:Unit×List (an.D)×Unit:=Wh.q0' (Br,a_16,b_15,())
  bif iy [nQ (Wh.q0 (Br,a_16,b_15,()))] then
   some (.inr ((),y5.2.1))
  else none
 else
  let nW:=XD==(0:Int)
  bif nW then
   none
  else
   bif !acF then
    none
   else
    none
def Wh.UI:((Unit)×((List (an.D)))):=default
def Wh.q1 (xs:(List (an.D))×(Int)×(Int)×(Int)×(Unit)):Option ((Unit)×((List (an.D))×Unit)):=
 let NH:List (an.D):=xs.1
 let a_1:=xs.2.1
 let b_2:=xs.2.2.1
 let XE:Int:=(xs.2.2.2).1
 let x_25:Wh.PR:=(((),b_2,a_1,(),true,true,XE),NH)
 bif lF Wh.F9 x_25 then
  let z_:=kG Wh.F9 Wh.UI x_25
  let xU:List (an.D):=z_.2
  some ((),xU,())
 else none
def Wh.q1':=e_ Wh.q1
theorem Wh.q1_v:OV Wh.q1 Wh.q1':=fk _
def Wh.q4 (xs:(List (an.D))×(Unit)):Option ((Unit)×((List (an.D))×Unit)):=
 let yg:List (an.D):=xs.1
 let v_2:Int:=(↑(List.length yg):Int)
 let r_3:=Wh.qX (IntKind.wrap .u64 v_2)
 let fT:Unit×List (an.D)×Unit:=Wh.q1' (yg,(0:Int),v_2,r_3.1,())
 bif iy [nQ (Wh.q1 (yg,(0:Int),v_2,r_3.1,())),nQ (Wh.bits_Len (IntKind.wrap .u64 v_2))] then
  some ((),fT.2.1,())
 else none
def Wh.q4':=e_ Wh.q4
theorem Wh.q4_v:OV Wh.q4 Wh.q4':=fk _
def Wh.CP (xs:(bx.D)×(Int)×(List UInt8)×(List UInt8)):Option ((((Int)×((List (an.D))×(Unit)))×(Int))×(Unit)):=
 let gz:bx.D:=xs.1
 let w7:=xs.2.1
 let yl:=xs.2.2.1
 let BU:=xs.2.2.2
 let fT:(bx.D)×Unit:=Wh.Ga gz
 bif iy [nQ (Wh.BL gz)] then
  let x_:=Wh.q16' (w7,yl,BU)
  bif iy [nQ (Wh.q16 (w7,yl,BU))] then
   bif !x_.1 then
    some ((fT.1,(1:Int)),())
   else
    let yw:=Wh.LG (gz,w7,yl)
    bif iy [nQ (Wh.Ba (gz,w7,yl))] then
     bif decide (yw.1≥(0:Int)) then
      some ((fT.1,(2:Int)),())
     else
      let yy:Int:=(↑(List.length gz.2.1):Int)
      let r_14:=Wh.q34' (gz,w7)
      let xe:=bif bif yy==(8:Int) then true else gz.1==(99999:Int) then true else decide (IntKind.wrap .i64 (r_14.1+(↑(List.length BU):Int))>(500:Int))
      bif iy [(!!bif yy==(8:Int) then true else gz.1==(99999:Int)) || nQ (Wh.q34 (gz,w7))] then
       bif xe then
        some ((fT.1,(4:Int)),())
       else
        let Ev:=IntKind.wrap .i64 (fT.1.1+(1:Int))
        let FZ:List (an.D):=[(w7,yl,Ev,BU,())]
        let pb_19:List (an.D):=fT.1.2.1++FZ
        bif iy [decide (List.length (fT.1.2.1)+(1:Nat)≤dh)] then
         let yD:Unit×List (an.D)×Unit:=Wh.q4' (pb_19,())
         bif iy [nQ (Wh.q4 (pb_19,()))] then
          let Hz:(bx.D)×Unit:=Wh.Ga (Ev,yD.2.1,fT.1.2.2)
          bif iy [nQ (Wh.BL (Ev,yD.2.1,fT.1.2.2))] then
           some ((Hz.1,(0:Int)),())
          else none
         else none
        else none
      else none
    else none
  else none
 else none
def Wh.q74':=e_ Wh.CP
theorem Wh.q74_v:OV Wh.CP Wh.q74':=fk _
def Wh.q33 (xs:(bx.D)×(List UInt8)):Option ((((Int)×((List (an.D))×(Unit)))×(Bool))×(Unit)):=
 let gz:bx.D:=xs.1
 let yV:=xs.2
 let r_2:(List UInt8×List UInt8×Bool)×Unit:=Wh.tK (yV,[(58:UInt8)])
 bif iy [nQ (Wh.strings_Cut (yV,[(58:UInt8)]))] then
  let r_3:(List UInt8×List UInt8×Bool)×Unit:=Wh.tK (r_2.1.1,[(32:UInt8)])
  bif iy [nQ (Wh.strings_Cut (r_2.1.1,[(32:UInt8)]))] then
   let fT:(Int×Bool)×Unit:=Wh.rW r_3.1.1
   bif iy [nQ (Wh.rV r_3.1.1)] then
    let xQ:=yV == []
    let yw:xV.D:=Wh.q32' (fT.1.1,r_3.1.2.1,r_2.1.2.1)
    let zb:=bif xQ then true else !yw.1==yV
    bif iy [!!xQ || nQ (Wh.q32 (fT.1.1,r_3.1.2.1,r_2.1.2.1))] then
     bif zb then
      some ((((0:Int),[],()),false),())
     else
      let yP:((bx.D)×Int)×Unit:=Wh.q49' (gz,fT.1.1,r_3.1.2.1)
      bif iy [nQ (Wh.q49 (gz,fT.1.1,r_3.1.2.1))] then
       bif(!r_2.1.2.1 == []) then
        let BP:((bx.D)×Int)×Unit:=Wh.q74' (gz,fT.1.1,r_3.1.2.1,r_2.1.2.1)
        bif iy [nQ (Wh.CP (gz,fT.1.1,r_3.1.2.1,r_2.1.2.1))] then
         some ((BP.1.1,(BP.1.2==(0:Int))),())
        else none
       else
        some ((yP.1.1,(yP.1.2==(0:Int))),())
      else none
    else none
   else none
  else none
 else none
def Wh.q33':=e_ Wh.q33
theorem Wh.P3:OV Wh.q33 Wh.q33':=fk _
abbrev Wh.Ph:Type:=((Unit)×(Int)×(Unit)×(List (List UInt8))×(Int))×(((Int)×((Unit)×(Unit)))×((Int)×((Unit)×(Unit)))×(List (an.D))×(List (an.D)))
abbrev Wh.Zy:Type:=((((Unit)×(Bool))×(((Int)×((Unit)×(Unit)))×(List (an.D))))⊕(((Unit)×(Unit))×(((Int)×((Unit)×(Unit)))×((Int)×((Unit)×(Unit)))×(List (an.D))×(List (an.D)))))
def Wh.Cr (x:Wh.Ph):Option (Wh.Ph⊕Wh.Zy):=
 let xe:=x.1.2.1
 let xW:List (List UInt8):=x.1.2.2.2.1
 let w9:=x.1.2.2.2.2
 let xX:=x.2.1.1
 let zd:=x.2.1.2.2
 let yY:=x.2.2.1.1
 let yZ:Unit:=(x.2.2.1).2.2
 let zy:List (an.D):=(x.2.2.2).1
 let A3:List (an.D):=x.2.2.2.2
 bif decide (xe<w9) then
  let n_:=List.getD xW (Int.toNat xe) []
  bif iy [decide ((0:Int)≤xe),decide (xe<(↑(List.length xW):Int))] then
   let BQ:((bx.D)×Bool)×Unit:=Wh.q33' ((yY,A3,yZ),n_)
   bif iy [nQ (Wh.q33 ((yY,A3,yZ),n_))] then
    bif(!BQ.1.2) then
     some (.inr (.inl (((),false),((0:Int),(),()),[])))
    else
     some (.inl (((),(IntKind.wrap .i64 (xe+(1:Int))),(),xW,w9),(xX,(),zd),(BQ.1.1.1,(),BQ.1.1.2.2),zy,(BQ.1.1.2).1))
   else none
  else none
 else
  some (.inr (.inr (((),()),(xX,(),zd),(yY,(),yZ),zy,A3)))
def Wh.Uj:(((Unit)×(Bool))×(((Int)×((Unit)×(Unit)))×(List (an.D))))⊕(((Unit)×(Unit))×(((Int)×((Unit)×(Unit)))×((Int)×((Unit)×(Unit)))×(List (an.D))×(List (an.D)))):=.inl default
def Wh.Dm (xs:(List (List UInt8))):Option ((((Int)×((List (an.D))×(Unit)))×(Bool))×(Unit)):=
 let LQ:List (List UInt8):=xs
 let v_1:Int:=(↑(List.length LQ):Int)
 let HV:Wh.Ph:=(((),(0:Int),(),LQ,v_1),((0:Int),(),()),((0:Int),(),()),[],[])
 bif lF Wh.Cr HV then
  sumC (kG Wh.Cr Wh.Uj HV) (fun Ft=>
   let zK:=Ft.1.2
   let xY:=Ft.2.1.1
   let zf:=Ft.2.1.2.2
   let FO:List (an.D):=Ft.2.2
   some (((xY,FO,zf),zK),())) (fun z_32=>
   let A4:=z_32.2.2.1.1
   let KS:Unit:=(z_32.2.2.1).2.2
   let Er:List (an.D):=z_32.2.2.2.2
   some (((A4,Er,KS),true),()))
 else none
def Wh.Lo:=e_ Wh.Dm
theorem Wh.Pj:OV Wh.Dm Wh.Lo:=fk _
abbrev Wh.OR:Type:=((Int)×(List (an.D))×(List (an.D))×(Int))×(Unit)
abbrev Wh.Zo:Type:=((((Bool))×(Unit))⊕((Unit)×(Unit)))
def Wh.Cl (x:Wh.OR):Option (Wh.OR⊕Wh.Zo):=
 let nS:=x.1.1
 let QW:List (an.D):=x.1.2.1
 let QV:List (an.D):=(x.1.2.2).1
 let xW:=x.1.2.2.2
 bif decide (nS<xW) then
  let nG:an.D:=List.getD QV (Int.toNat nS) ((0:Int),[],(0:Int),[],())
  let nC:an.D:=List.getD QW (Int.toNat nS) ((0:Int),[],(0:Int),[],())
  bif iy [decide ((0:Int)≤nS),decide (nS<(↑(List.length QW):Int)),decide ((0:Int)≤nS),decide (nS<(↑(List.length QV):Int))] then
   bif(!(nG.1==nC.1&&(nG.2.1==nC.2.1&&(nG.2.2.1==nC.2.2.1&&((nG.2.2.2).1==(nC.2.2.2).1&&true))))) then
    some (.inr (.inl (false,())))
   else
    some (.inl (((IntKind.wrap .i64 (nS+(1:Int))),QW,QV,xW),()))
  else none
 else
  some (.inr (.inr ((),())))
def Wh.T0:(((Bool))×(Unit))⊕((Unit)×(Unit)):=.inl default
def Wh.q10 (xs:(List (an.D))×(List (an.D))):Option (((Bool))×(Unit)):=
 let s1_0:List (an.D):=xs.1
 let s2_1:List (an.D):=xs.2
 let v_2:Int:=(↑(List.length s1_0):Int)
 let s4:Int:=(↑(List.length s2_1):Int)
 let yx:=v_2 != s4
 bif yx then
  some (false,())
 else
  let x_23:Wh.OR:=(((0:Int),s2_1,s1_0,v_2),())
  bif lF Wh.Cl x_23 then
   sumC (kG Wh.Cl Wh.T0 x_23) (fun y_24=>
    let n_:=y_24.1
    some (n_,())) (fun _=>
    some (true,()))
  else none
def Wh.q10':=e_ Wh.q10
theorem Wh.q10_v:OV Wh.q10 Wh.q10':=fk _
def Wh.q82 (xs:(bx.D)×(bx.D)):Option (((Bool))×(Unit)):=
 let cr:bx.D:=xs.1
 let b_1:bx.D:=xs.2
 let v_2:=cr.1==b_1.1
 let r_3:=Wh.q10' (cr.2.1,b_1.2.1)
 let xQ:=bif v_2 then r_3.1 else false
 bif iy [!v_2 || nQ (Wh.q10 (cr.2.1,b_1.2.1))] then
  some (xQ,())
 else none
def Wh.q82':=e_ Wh.q82
theorem Wh.q82_v:OV Wh.q82 Wh.q82':=fk _
abbrev Wh.P5:Type:=((Int)×(Int)×(Int)×(List (ct.D))×(Int))×(Unit)
abbrev Wh.ZV:Type:=((((Int))×(Unit))⊕((Unit)×(Unit)))
def Wh.CJ (x:Wh.P5):Option (Wh.P5⊕Wh.ZV):=
 let nS:=x.1.1
 let Rx:=x.1.2.1
 let GR:Int:=(x.1.2.2).1
 let xW:List (ct.D):=x.1.2.2.2.1
 let w9:=x.1.2.2.2.2
 bif decide (nS<w9) then
  let Br:ct.D:=List.getD xW (Int.toNat nS) ((0:Int),(0:Int),(0:Int),(0:Int),false,())
  bif iy [decide ((0:Int)≤nS),decide (nS<(↑(List.length xW):Int))] then
   let yd:=bif(Br.2.1==GR) then Br.2.2.1==Rx else false
   bif yd then
    some (.inr (.inl (nS,())))
   else
    some (.inl (((IntKind.wrap .i64 (nS+(1:Int))),Rx,GR,xW,w9),()))
  else none
 else
  some (.inr (.inr ((),())))
def Wh.UQ:(((Int))×(Unit))⊕((Unit)×(Unit)):=.inl default
def Wh.q35 (xs:(gv.D)×(Int)×(Int)):Option (((Int))×(Unit)):=
 let s_:gv.D:=xs.1
 let FF:=xs.2.1
 let VY:=xs.2.2
 let s4:Int:=(↑(List.length s_.1):Int)
 let x_24:Wh.P5:=(((0:Int),VY,FF,s_.1,s4),())
 bif lF Wh.CJ x_24 then
  sumC (kG Wh.CJ Wh.UQ x_24) (fun y_25=>
   let Bg:=y_25.1
   some (Bg,())) (fun _=>
   some ((-1:Int),()))
 else none
def Wh.q35':=e_ Wh.q35
theorem Wh.q35_v:OV Wh.q35 Wh.q35':=fk _
abbrev Wh.QE:Type:=((Int)×(Int)×(Int)×(List (ct.D))×(Int))×(Unit)
abbrev Wh.aao:Type:=((((Int))×(Unit)))
def Wh.CQ (x:Wh.QE):Option (Wh.QE⊕Wh.aao):=
 let yc:=x.1.1
 let Et:=x.1.2.1
 let Eg:Int:=(x.1.2.2).1
 let w9:List (ct.D):=x.1.2.2.2.1
 let nG:=x.1.2.2.2.2
 bif decide (yc<nG) then
  let Ew:ct.D:=List.getD w9 (Int.toNat yc) ((0:Int),(0:Int),(0:Int),(0:Int),false,())
  bif iy [decide ((0:Int)≤yc),decide (yc<(↑(List.length w9):Int))] then
   let zI:=bif decide (Ew.2.1>(0:Int)) then Ew.1==Eg else false
   bif zI then
    some (.inl (((IntKind.wrap .i64 (yc+(1:Int))),(IntKind.wrap .i64 (Et+(1:Int))),Eg,w9,nG),()))
   else
    some (.inl (((IntKind.wrap .i64 (yc+(1:Int))),Et,Eg,w9,nG),()))
  else none
 else
  some (.inr (Et,()))
def Wh.Vj:(((Int))×(Unit)):=default
def Wh.q78 (xs:(gv.D)×(Int)):Option (((Int))×(Unit)):=
 let s_:gv.D:=xs.1
 let w7:=xs.2
 let v_2:Int:=(↑(List.length s_.1):Int)
 let HT:Wh.QE:=(((0:Int),(0:Int),w7,s_.1,v_2),())
 bif lF Wh.CQ HT then
  let Fs:=kG Wh.CQ Wh.Vj HT
  let n_29:=Fs.1
  some (n_29,())
 else none
def Wh.q78':=e_ Wh.q78
theorem Wh.Gd:OV Wh.q78 Wh.q78':=fk _
abbrev Wh.OL:Type:=((Int)×(Unit))×((gv.D))
abbrev Wh.Zn:Type:=((((Bool))×(Unit))⊕((Unit)×(Unit)))
def Wh.BB (x:Wh.OL):Option (Wh.OL⊕Wh.Zn):=
 let Gm:=x.1.1
 let Ob:gv.D:=x.2
 bif decide (Gm<(2:Int)) then
  let LN:=Wh.q78' (Ob,Gm)
  bif iy [nQ (Wh.q78 (Ob,Gm))] then
   bif decide (LN.1>(5:Int)) then
    some (.inr (.inl (false,())))
   else
    some (.inl (((IntKind.wrap .i64 (Gm+(1:Int))),()),Ob))
  else none
 else
  some (.inr (.inr ((),())))
def Wh.TX:(((Bool))×(Unit))⊕((Unit)×(Unit)):=.inl default
abbrev Wh.OK:Type:=((Int)×(Unit)×(List (ct.D))×(Int))×((gv.D))
abbrev Wh.Zm:Type:=((((Bool))×(Unit))⊕(((Unit))×((gv.D))))
def Wh.BA (x:Wh.OK):Option (Wh.OK⊕Wh.Zm):=
 let nE:=x.1.1
 let y6:List (ct.D):=(x.1.2.2).1
 let zo:=x.1.2.2.2
 let y2:gv.D:=x.2
 bif decide (nE<zo) then
  let xO:ct.D:=List.getD y6 (Int.toNat nE) ((0:Int),(0:Int),(0:Int),(0:Int),false,())
  bif iy [decide ((0:Int)≤nE),decide (nE<(↑(List.length y6):Int))] then
   bif(xO.2.1==(0:Int)) then
    bif(!(xO.1==(0:Int)&&(xO.2.1==(0:Int)&&(xO.2.2.1==(0:Int)&&((xO.2.2.2).1==(0:Int)&&(xO.2.2.2.2.1==false&&true)))))) then
     some (.inr (.inl (false,())))
    else
     some (.inl (((IntKind.wrap .i64 (nE+(1:Int))),(),y6,zo),y2))
   else
    let HC:=Wh.Hh xO.1
    let CT:=Wh.yK (xO.2.1,(1:Int),(99999:Int))
    let CU:=Wh.yK (xO.2.2.1,(0:Int),(23:Int))
    let HE:=Wh.yK ((xO.2.2.2).1,(0:Int),(99999:Int))
    let HF:=Wh.q35' (y2,xO.2.1,xO.2.2.1)
    let v_48:=bif bif bif bif !HC.1 then true else !CT.1 then true else !CU.1 then true else !HE.1 then true else HF.1 != nE
    bif iy [(!!bif bif bif !HC.1 then true else !CT.1 then true else !CU.1 then true else !HE.1) || nQ (Wh.q35 (y2,xO.2.1,xO.2.2.1)),(!!bif bif !HC.1 then true else !CT.1 then true else !CU.1) || nQ (Wh.x5 ((xO.2.2.2).1,(0:Int),(99999:Int))),(!!bif !HC.1 then true else !CT.1) || nQ (Wh.x5 (xO.2.2.1,(0:Int),(23:Int))),!!!HC.1 || nQ (Wh.x5 (xO.2.1,(1:Int),(99999:Int))),nQ (Wh.Aw xO.1)] then
     bif v_48 then
      some (.inr (.inl (false,())))
     else
      some (.inl (((IntKind.wrap .i64 (nE+(1:Int))),(),y6,zo),y2))
    else none
  else none
 else
  some (.inr (.inr ((),y2)))
def Wh.TW:(((Bool))×(Unit))⊕(((Unit))×((gv.D))):=.inl default
def Wh.Dh (xs:(gv.D)):Option (((Bool))×(Unit)):=
 let s_:gv.D:=xs
 let v_1:Int:=(↑(List.length s_.1):Int)
 let fT:=Wh.yK (s_.2.1,(0:Int),(7:Int))
 let xQ:=bif v_1 != (8:Int) then true else !fT.1
 bif iy [!!v_1 != (8:Int) || nQ (Wh.x5 (s_.2.1,(0:Int),(7:Int)))] then
  bif xQ then
   some (false,())
  else
   let x_50:Wh.OK:=(((0:Int),(),s_.1,v_1),s_)
   bif lF Wh.BA x_50 then
    sumC (kG Wh.BA Wh.TW x_50) (fun y_51=>
     let Gk:=y_51.1
     some (Gk,())) (fun z_52=>
     let FQ:gv.D:=z_52.2
     let x_67:Wh.OL:=(((0:Int),()),FQ)
     bif lF Wh.BB x_67 then
      sumC (kG Wh.BB Wh.TX x_67) (fun y_68=>
       let v_70:=y_68.1
       some (v_70,())) (fun _=>
       some (true,()))
     else none)
   else none
 else none
def Wh.OJ:=e_ Wh.Dh
theorem Wh.OM:OV Wh.Dh Wh.OJ:=fk _
def Wh.Ge (xs:(an.D)×(Int)):Option (((Bool))×(Unit)):=
 let i_0:an.D:=xs.1
 let v_1:=xs.2
 some ((i_0.2.2.1==v_1),())
def Wh.q8':=e_ Wh.Ge
theorem Wh.q8_v:OV Wh.Ge Wh.q8':=fk _
abbrev Wh.P0:Type:=((Int)×(List (an.D))×((Int)×(Unit))×(Int))×(Unit)
abbrev Wh.q2_l0Y:Type:=((((Int))×(Unit))⊕((Unit)×(Unit)))
def Wh.CH (x:Wh.P0):Option (Wh.P0⊕Wh.q2_l0Y):=
 let zm:=x.1.1
 let Fg:List (an.D):=x.1.2.1
 let f_13:Int:=(x.1.2.2).1.1
 let nS:=x.1.2.2.2
 bif decide (zm<nS) then
  let xe:an.D:=List.getD Fg (Int.toNat zm) ((0:Int),[],(0:Int),[],())
  let Bd:=Wh.q8' (xe,f_13)
  bif iy [nQ (Wh.Ge (xe,f_13)),decide ((0:Int)≤zm),decide (zm<(↑(List.length Fg):Int))] then
   bif Bd.1 then
    some (.inr (.inl (zm,())))
   else
    some (.inl (((IntKind.wrap .i64 (zm+(1:Int))),Fg,(f_13,()),nS),()))
  else none
 else
  some (.inr (.inr ((),())))
def Wh.UN:(((Int))×(Unit))⊕((Unit)×(Unit)):=.inl default
def Wh.q2 (xs:(List (an.D))×((Int)×(Unit))):Option (((Int))×(Unit)):=
 let eA:List (an.D):=xs.1
 let f_1:=xs.2
 let v_2:Int:=(↑(List.length eA):Int)
 let x_19:Wh.P0:=(((0:Int),eA,(f_1.1,()),v_2),())
 bif lF Wh.CH x_19 then
  sumC (kG Wh.CH Wh.UN x_19) (fun y_20=>
   let yd:=y_20.1
   some (yd,())) (fun _=>
   some ((-1:Int),()))
 else none
def Wh.CC:=e_ Wh.q2
theorem Wh.q2_v:OV Wh.q2 Wh.CC:=fk _
def Wh.Cs (xs:(bx.D)×(Int)):Option (((Int))×(Unit)):=
 let gz:bx.D:=xs.1
 let FF:=xs.2
 let r_2:=Wh.CC (gz.2.1,FF,())
 bif iy [nQ (Wh.q2 (gz.2.1,FF,()))] then
  some (r_2.1,())
 else none
def Wh.Lq:=e_ Wh.Cs
theorem Wh.EW:OV Wh.Cs Wh.Lq:=fk _
def Wh.CD (xs:(yp.D)):Option (((Int))×(Unit)):=
 let s_:yp.D:=xs
 bif iy [s_.2.1 != (0:Int)] then
  some ((IntKind.wrap .i64 (Int.tdiv (IntKind.wrap .i64 ((IntKind.wrap .i64 (s_.1+s_.2.1))-(1:Int))) s_.2.1)),())
 else none
def Wh.F_:=e_ Wh.CD
theorem Wh.q21_v:OV Wh.CD Wh.F_:=fk _
abbrev Wh.QD:Type:=((Unit)×(Unit))×(((Int)×((Int)×((Unit)×((Unit)×(Unit)))))×((Int)×((Int)×((Unit)×((Unit)×(Unit)))))×(List (Int))×(List (Int))×(List (Int))×(List (Int)))
abbrev Wh.aan:Type:=((((Unit)×(Unit))×(((Int)×((Int)×((Unit)×((Unit)×(Unit)))))×((Int)×((Int)×((Unit)×((Unit)×(Unit)))))×(List (Int))×(List (Int))×(List (Int))×(List (Int)))))
def Wh.Hu (x:Wh.QD):Option (Wh.QD⊕Wh.aan):=
 let x9:=x.2.1.1
 let AN:Int:=(x.2.1.2).1
 let x4:Unit:=(x.2.1.2.2.2).2
 let vN:=x.2.2.1.1
 let xX:Int:=(x.2.2.1).2.1
 let zd:Unit:=(x.2.2.1).2.2.2.2
 let yY:List Int:=(x.2.2.2).1
 let yZ:=x.2.2.2.2.1
 let zy:List Int:=(x.2.2.2.2.2).1
 let A3:List Int:=(x.2.2.2.2.2).2
 let AR:=Wh.F_ (x9,AN,yY,yZ,x4)
 bif iy [nQ (Wh.CD (x9,AN,yY,yZ,x4))] then
  bif decide (AR.1>(24:Int)) then
   some (.inl (((),()),(x9,(IntKind.wrap .i64 (AN+(1:Int))),(),(),x4),(vN,xX,(),(),zd),yY,yZ,zy,A3))
  else
   some (.inr (((),()),(vN,xX,(),(),zd),(x9,AN,(),(),x4),zy,A3,yY,yZ))
 else none
def Wh.Vi:(((Unit)×(Unit))×(((Int)×((Int)×((Unit)×((Unit)×(Unit)))))×((Int)×((Int)×((Unit)×((Unit)×(Unit)))))×(List (Int))×(List (Int))×(List (Int))×(List (Int)))):=default
def Wh.q77 (xs:(Int)):Option ((((Int)×((Int)×((List (Int))×((List (Int))×(Unit))))))×(Unit)):=
 let G1:=xs
 let r_1:=Wh.yK (G1,(1:Int),(300:Int))
 bif iy [nQ (Wh.x5 (G1,(1:Int),(300:Int)))] then
  bif !r_1.1 then
   some (((0:Int),(0:Int),[],[],()),())
  else
   let Al:Wh.QD:=(((),()),(G1,(8:Int),(),(),()),((0:Int),(0:Int),(),(),()),[],[],[],[])
   bif lF Wh.Hu Al then
    let zL:=kG Wh.Hu Wh.Vi Al
    let zV:=zL.2.2.1.1
    let xY:Int:=(zL.2.2.1).2.1
    let zf:Unit:=(zL.2.2.1).2.2.2.2
    let yN:List Int:=(zL.2.2.2.2.2).1
    let A4:List Int:=(zL.2.2.2.2.2).2
    let LL:=Wh.F_ (zV,xY,yN,A4,zf)
    bif iy [nQ (Wh.CD (zV,xY,yN,A4,zf))] then
     let k_43:=IntKind.wrap .i64 (Int.tdiv (IntKind.wrap .i64 (LL.1+(3:Int))) (4:Int))
     bif decide (k_43<LL.1) then
      let OA:List Int:=[k_43,LL.1]
      some ((zV,xY,OA,[(2:Int),(3:Int)],zf),())
     else
      let Bt:List Int:=[LL.1]
      some ((zV,xY,Bt,[(1:Int)],zf),())
    else none
   else none
 else none
def Wh.q77':=e_ Wh.q77
theorem Wh.q77_v:OV Wh.q77 Wh.q77':=fk _
abbrev Wh.Qh:Type:=((Int)×(Unit)×(List (ct.D))×(Int))×((bx.D))
abbrev Wh.Z6:Type:=((((Bool))×(Unit))⊕((Unit)×(Unit)))
def Wh.Ay (x:Wh.Qh):Option (Wh.Qh⊕Wh.Z6):=
 let nW:=x.1.1
 let AD:List (ct.D):=(x.1.2.2).1
 let n_:=x.1.2.2.2
 let yM:bx.D:=x.2
 bif decide (nW<n_) then
  let xZ:ct.D:=List.getD AD (Int.toNat nW) ((0:Int),(0:Int),(0:Int),(0:Int),false,())
  bif iy [decide ((0:Int)≤nW),decide (nW<(↑(List.length AD):Int))] then
   bif(xZ.2.1==(0:Int)) then
    some (.inl (((IntKind.wrap .i64 (nW+(1:Int))),(),AD,n_),yM))
   else
    let th:=Wh.Lq (yM,xZ.2.1)
    bif iy [nQ (Wh.Cs (yM,xZ.2.1))] then
     let AU:(yp.D)×Unit:=Wh.q77' (↑(List.length (Prod.fst (Prod.snd (Prod.snd (Prod.snd (List.getD yM.2.1 (Int.toNat th.1) ((0:Int),[],(0:Int),[],()))))))):Int)
     let ye:=decide ((xZ.2.2.2).1>(0:Int))
     let CU:=Wh.F_ (AU.1.1,AU.1.2.1,bif !bif bif ye then true else decide (th.1<(0:Int)) then true else Prod.fst (List.getD yM.2.1 (Int.toNat th.1) ((0:Int),[],(0:Int),[],())) != xZ.1 then(AU.1.2.2).1 else [],bif !bif bif ye then true else decide (th.1<(0:Int)) then true else Prod.fst (List.getD yM.2.1 (Int.toNat th.1) ((0:Int),[],(0:Int),[],())) != xZ.1 then AU.1.2.2.2.1 else [],AU.1.2.2.2.2)
     let HP:=bif bif bif ye then true else decide (th.1<(0:Int)) then true else Prod.fst (List.getD yM.2.1 (Int.toNat th.1) ((0:Int),[],(0:Int),[],())) != xZ.1 then true else decide (xZ.2.2.1≥CU.1)
     bif iy [(!!bif bif ye then true else decide (th.1<(0:Int)) then true else Prod.fst (List.getD yM.2.1 (Int.toNat th.1) ((0:Int),[],(0:Int),[],())) != xZ.1) || nQ (Wh.CD (AU.1.1,AU.1.2.1,bif !bif bif ye then true else decide (th.1<(0:Int)) then true else Prod.fst (List.getD yM.2.1 (Int.toNat th.1) ((0:Int),[],(0:Int),[],())) != xZ.1 then(AU.1.2.2).1 else [],bif !bif bif ye then true else decide (th.1<(0:Int)) then true else Prod.fst (List.getD yM.2.1 (Int.toNat th.1) ((0:Int),[],(0:Int),[],())) != xZ.1 then AU.1.2.2.2.1 else [],AU.1.2.2.2.2)),(!!bif bif ye then true else decide (th.1<(0:Int)) then true else Prod.fst (List.getD yM.2.1 (Int.toNat th.1) ((0:Int),[],(0:Int),[],())) != xZ.1) || nQ (Wh.q77 (↑(List.length (Prod.fst (Prod.snd (Prod.snd (Prod.snd (List.getD yM.2.1 (Int.toNat th.1) ((0:Int),[],(0:Int),[],()))))))):Int)),(!!bif bif ye then true else decide (th.1<(0:Int)) then true else Prod.fst (List.getD yM.2.1 (Int.toNat th.1) ((0:Int),[],(0:Int),[],())) != xZ.1) || decide ((0:Int)≤th.1),(!!bif bif ye then true else decide (th.1<(0:Int)) then true else Prod.fst (List.getD yM.2.1 (Int.toNat th.1) ((0:Int),[],(0:Int),[],())) != xZ.1) || decide (th.1<(↑(List.length yM.2.1):Int)),(!!bif ye then true else decide (th.1<(0:Int))) || decide ((0:Int)≤th.1),(!!bif ye then true else decide (th.1<(0:Int))) || decide (th.1<(↑(List.length yM.2.1):Int))] then
      bif HP then
       some (.inr (.inl (false,())))
      else
       some (.inl (((IntKind.wrap .i64 (nW+(1:Int))),(),AD,n_),yM))
     else none
    else none
  else none
 else
  some (.inr (.inr ((),())))
def Wh.U1:(((Bool))×(Unit))⊕((Unit)×(Unit)):=.inl default
def Wh.q53 (xs:(gv.D)×(bx.D)):Option (((Bool))×(Unit)):=
 let s_:gv.D:=xs.1
 let c_1:bx.D:=xs.2
 let r_2:=Wh.OJ s_
 bif iy [nQ (Wh.Dh s_)] then
  bif !r_2.1 then
   some (false,())
  else
   let s4:Int:=(↑(List.length s_.1):Int)
   let x_44:Wh.Qh:=(((0:Int),(),s_.1,s4),c_1)
   bif lF Wh.Ay x_44 then
    sumC (kG Wh.Ay Wh.U1 x_44) (fun y_45=>
     let v_47:=y_45.1
     some (v_47,())) (fun _=>
     some (true,()))
   else none
 else none
def Wh.q53':=e_ Wh.q53
theorem Wh.q53_v:OV Wh.q53 Wh.q53':=fk _
def Wh.q47 (xs:(en.D)):Option (((Bool))×(Unit)):=
 let yA:en.D:=xs
 let r_1:=Wh.yK (yA.2.1,(0:Int),(99999:Int))
 let r_2:=Wh.yK (yA.2.2.1,(0:Int),(99999:Int))
 let x_:=Wh.yK (yA.1,(0:Int),yA.2.1)
 let yP:=Wh.yK ((yA.2.2.2).1,(0:Int),(99999:Int))
 let z7:=bif bif bif r_1.1 then r_2.1 else false then x_.1 else false then yP.1 else false
 bif iy [(!bif bif r_1.1 then r_2.1 else false then x_.1 else false) || nQ (Wh.x5 ((yA.2.2.2).1,(0:Int),(99999:Int))),(!bif r_1.1 then r_2.1 else false) || nQ (Wh.x5 (yA.1,(0:Int),yA.2.1)),!r_1.1 || nQ (Wh.x5 (yA.2.2.1,(0:Int),(99999:Int))),nQ (Wh.x5 (yA.2.1,(0:Int),(99999:Int)))] then
  some (z7,())
 else none
def Wh.q47':=e_ Wh.q47
theorem Wh.q47_v:OV Wh.q47 Wh.q47':=fk _
def Wh.q51 (xs:(Int)):Option (((Bool))×(Unit)):=
 let yj:=xs
 let r_1:=Wh.yK (yj,(0:Int),(3:Int))
 bif iy [nQ (Wh.x5 (yj,(0:Int),(3:Int)))] then
  some (r_1.1,())
 else none
def Wh.q51':=e_ Wh.q51
theorem Wh.Qg:OV Wh.q51 Wh.q51':=fk _
def Wh.q79 (xs:(Int)):Option (((Int))×(Unit)):=
 let NF:=xs
 some ((Int.tmod NF (2:Int)),())
def Wh.q79':=e_ Wh.q79
theorem Wh.QF:OV Wh.q79 Wh.q79':=fk _
abbrev Wh.Qe:Type:=((Int)×(Unit)×(List (fN.D))×(Int))×((cx.D))
abbrev Wh.Z5:Type:=((((Bool))×(Unit))⊕((Unit)×(Unit)))
def Wh.BK (x:Wh.Qe):Option (Wh.Qe⊕Wh.Z5):=
 let AX:=x.1.1
 let v_89:List (fN.D):=(x.1.2.2).1
 let L4:=x.1.2.2.2
 let Ai:cx.D:=x.2
 bif decide (AX<L4) then
  let yT:fN.D:=List.getD v_89 (Int.toNat AX) ((0:Int),(0:Int),(0:Int),(0:Int),(0:Int),(0:Int),())
  bif iy [decide ((0:Int)≤AX),decide (AX<(↑(List.length v_89):Int))] then
   let Gn:=decide (AX>(0:Int))
   let r_97:=Wh.q51' yT.1
   let r_100:=Wh.yK (yT.2.1,(1:Int),(99999:Int))
   let QT:=Wh.yK (yT.2.2.1,(1:Int),(Ai.2.2.2).1.1)
   let v_104:=bif bif bif bif Gn then decide (Prod.fst (List.getD ((Ai.2.2.2.2.2).2.1) (Int.toNat (IntKind.wrap .i64 (AX-(1:Int)))) ((0:Int),(0:Int),(0:Int),(0:Int),(0:Int),(0:Int),()))≥yT.1) else false then true else !r_97.1 then true else !r_100.1 then true else !QT.1
   bif iy [(!!bif bif bif Gn then decide (Prod.fst (List.getD ((Ai.2.2.2.2.2).2.1) (Int.toNat (IntKind.wrap .i64 (AX-(1:Int)))) ((0:Int),(0:Int),(0:Int),(0:Int),(0:Int),(0:Int),()))≥yT.1) else false then true else !r_97.1 then true else !r_100.1) || nQ (Wh.x5 (yT.2.2.1,(1:Int),(Ai.2.2.2).1.1)),(!!bif bif Gn then decide (Prod.fst (List.getD ((Ai.2.2.2.2.2).2.1) (Int.toNat (IntKind.wrap .i64 (AX-(1:Int)))) ((0:Int),(0:Int),(0:Int),(0:Int),(0:Int),(0:Int),()))≥yT.1) else false then true else !r_97.1) || nQ (Wh.x5 (yT.2.1,(1:Int),(99999:Int))),(!!bif Gn then decide (Prod.fst (List.getD ((Ai.2.2.2.2.2).2.1) (Int.toNat (IntKind.wrap .i64 (AX-(1:Int)))) ((0:Int),(0:Int),(0:Int),(0:Int),(0:Int),(0:Int),()))≥yT.1) else false) || nQ (Wh.q51 yT.1),!Gn || decide ((0:Int)≤IntKind.wrap .i64 (AX-(1:Int))),!Gn || decide (IntKind.wrap .i64 (AX-(1:Int))<(↑(List.length ((Ai.2.2.2.2.2).2.1)):Int))] then
    bif v_104 then
     some (.inr (.inl (false,())))
    else
     let LJ:=Wh.Lq ((Ai.2.2.2).1,yT.2.2.1)
     bif iy [nQ (Wh.Cs ((Ai.2.2.2).1,yT.2.2.1))] then
      let L0:=decide (LJ.1≥(0:Int))
      let r_107:=Wh.q79' yT.1
      let BV:=bif L0 then Prod.fst (List.getD ((Ai.2.2.2).1.2.1) (Int.toNat LJ.1) ((0:Int),[],(0:Int),[],())) != r_107.1 else false
      bif iy [!L0 || nQ (Wh.q79 yT.1),!L0 || decide ((0:Int)≤LJ.1),!L0 || decide (LJ.1<(↑(List.length ((Ai.2.2.2).1.2.1)):Int))] then
       bif BV then
        some (.inr (.inl (false,())))
       else
        let Hx:=Wh.yK ((yT.2.2.2).1,(0:Int),(9999:Int))
        let r_110:=Wh.yK (yT.2.2.2.2.1,(0:Int),(3:Int))
        let r_113:=Wh.yK ((yT.2.2.2.2.2).1,(0:Int),Ai.2.1)
        let v_114:=bif bif !Hx.1 then true else !r_110.1 then true else !r_113.1
        bif iy [(!!bif !Hx.1 then true else !r_110.1) || nQ (Wh.x5 ((yT.2.2.2.2.2).1,(0:Int),Ai.2.1)),!!!Hx.1 || nQ (Wh.x5 (yT.2.2.2.2.1,(0:Int),(3:Int))),nQ (Wh.x5 ((yT.2.2.2).1,(0:Int),(9999:Int)))] then
         bif v_114 then
          some (.inr (.inl (false,())))
         else
          some (.inl (((IntKind.wrap .i64 (AX+(1:Int))),(),v_89,L4),Ai))
        else none
      else none
     else none
   else none
  else none
 else
  some (.inr (.inr ((),())))
def Wh.U0:(((Bool))×(Unit))⊕((Unit)×(Unit)):=.inl default
abbrev Wh.Qd:Type:=((Int)×(Unit)×(List (en.D))×(Int))×((cx.D))
abbrev Wh.Z4:Type:=((((Bool))×(Unit))⊕(((Unit))×((cx.D))))
def Wh.CM (x:Wh.Qd):Option (Wh.Qd⊕Wh.Z4):=
 let HO:=x.1.1
 let HP:List (en.D):=(x.1.2.2).1
 let Gj:=x.1.2.2.2
 let FP:cx.D:=x.2
 bif decide (HO<Gj) then
  let Bt:en.D:=List.getD HP (Int.toNat HO) ((0:Int),(0:Int),(0:Int),(0:Int),())
  bif iy [decide ((0:Int)≤HO),decide (HO<(↑(List.length HP):Int))] then
   let HF:=Wh.q47' Bt
   let v_52:=bif bif bif !HF.1 then true else Bt.2.1 != (40:Int) then true else Bt.2.2.1 != (8:Int) then true else decide ((Bt.2.2.2).1>FP.2.1)
   bif iy [nQ (Wh.q47 Bt)] then
    bif v_52 then
     some (.inr (.inl (false,())))
    else
     some (.inl (((IntKind.wrap .i64 (HO+(1:Int))),(),HP,Gj),FP))
   else none
  else none
 else
  some (.inr (.inr ((),FP)))
def Wh.UZ:(((Bool))×(Unit))⊕(((Unit))×((cx.D))):=.inl default
def Wh.q50 (xs:(cx.D)):Option (((Bool))×(Unit)):=
 let eA:cx.D:=xs
 let r_1:=Wh.yK (eA.2.1,(0:Int),(99999:Int))
 let v_2:=bif !r_1.1 then true else decide ((↑(List.length (eA.2.2.1)):Int)>(9000:Int))
 bif iy [nQ (Wh.x5 (eA.2.1,(0:Int),(99999:Int)))] then
  bif v_2 then
   some (false,())
  else
   let r_3:(List (List UInt8)×Int)×Unit:=Wh.LH (eA.2.2.1)
   bif iy [nQ (Wh.BN (eA.2.2.1))] then
    let fT:((bx.D)×Bool)×Unit:=Wh.Lo r_3.1.1
    bif iy [nQ (Wh.Dm r_3.1.1)] then
     bif(!fT.1.2) then
      some (false,())
     else
      bif(!eA.1) then
       let zb:Bool:=(eA.2.2.2).1.1==(0:Int)
       let Yj:=bif bif bif zb then(↑(List.length ((eA.2.2.2).1.2.1)):Int)==(0:Int) else false then(↑(List.length ((eA.2.2.2.2.1).1)):Int)==(0:Int) else false then(eA.2.2.2.2.1).2.1==(0:Int) else false
       let nS:=bif Yj then(↑(List.length ((eA.2.2.2.2.2).1)):Int)==(0:Int) else false
       let xe:=bif nS then(↑(List.length ((eA.2.2.2.2.2).2.1)):Int)==(0:Int) else false
       some (xe,())
      else
       let xW:Int:=(↑(List.length (eA.2.2.1)):Int)
       let yD:=Wh.q82' (fT.1.1,(eA.2.2.2).1)
       let y5:=Wh.q53' (eA.2.2.2.2.1,(eA.2.2.2).1)
       let n_:=bif bif bif r_3.1.2 != xW then true else !yD.1 then true else !y5.1 then true else(↑(List.length ((eA.2.2.2.2.2).1)):Int) != (2:Int)
       bif iy [(!!bif r_3.1.2 != xW then true else !yD.1) || nQ (Wh.q53 (eA.2.2.2.2.1,(eA.2.2.2).1)),!!r_3.1.2 != xW || nQ (Wh.q82 (fT.1.1,(eA.2.2.2).1))] then
        bif n_ then
         some (false,())
        else
         let Bg:Int:=(↑(List.length ((eA.2.2.2.2.2).1)):Int)
         let x_54:Wh.Qd:=(((0:Int),(),(eA.2.2.2.2.2).1,Bg),eA)
         bif lF Wh.CM x_54 then
          sumC (kG Wh.CM Wh.UZ x_54) (fun y_55=>
           let v_57:=y_55.1
           some (v_57,())) (fun z_56=>
           let N_:cx.D:=z_56.2
           let v_59:Int:=(↑(List.length ((N_.2.2.2.2.2).2.1)):Int)
           let x_116:Wh.Qe:=(((0:Int),(),(N_.2.2.2.2.2).2.1,v_59),N_)
           bif lF Wh.BK x_116 then
            sumC (kG Wh.BK Wh.U0 x_116) (fun y_117=>
             let L1:=y_117.1
             some (L1,())) (fun _=>
             some (true,()))
           else none)
         else none
       else none
    else none
   else none
 else none
def Wh.q50':=e_ Wh.q50
theorem Wh.Qf:OV Wh.q50 Wh.q50':=fk _
def Wh.EB (xs:(an.D)×(an.D)):Option (((Bool))×(Unit)):=
 let cr:an.D:=xs.1
 let b_1:an.D:=xs.2
 bif(cr.1 != b_1.1) then
  some (false,())
 else
  bif(!cr.2.1==b_1.2.1) then
   some (false,())
  else
   bif(cr.2.2.1 != b_1.2.2.1) then
    some (false,())
   else
    bif(!(cr.2.2.2).1==(b_1.2.2.2).1) then
     some (false,())
    else
     some (true,())
def Wh.ON:=e_ Wh.EB
theorem Wh.TY:OV Wh.EB Wh.ON:=fk _
abbrev Wh.QH:Type:=((Int)×(List (an.D))×(List (an.D)))×(Unit)
abbrev Wh.aap:Type:=((((Bool))×(Unit))⊕((Unit)×(Unit)))
def Wh.E9 (x:Wh.QH):Option (Wh.QH⊕Wh.aap):=
 let gT:=x.1.1
 let zN:List (an.D):=x.1.2.1
 let zM:List (an.D):=x.1.2.2
 let w9:Int:=(↑(List.length zM):Int)
 bif decide (gT<w9) then
  let nC:an.D:=List.getD zM (Int.toNat gT) ((0:Int),[],(0:Int),[],())
  let wX:an.D:=List.getD zN (Int.toNat gT) ((0:Int),[],(0:Int),[],())
  let y5:=Wh.ON (nC,wX)
  bif iy [nQ (Wh.EB (nC,wX)),decide ((0:Int)≤gT),decide (gT<(↑(List.length zN):Int)),decide ((0:Int)≤gT),decide (gT<w9)] then
   bif !y5.1 then
    some (.inr (.inl (false,())))
   else
    some (.inl (((IntKind.wrap .i64 (gT+(1:Int))),zN,zM),()))
  else none
 else
  some (.inr (.inr ((),())))
def Wh.Vk:(((Bool))×(Unit))⊕((Unit)×(Unit)):=.inl default
def Wh.q84 (xs:(List (an.D))×(List (an.D))):Option (((Bool))×(Unit)):=
 let cr:List (an.D):=xs.1
 let b_1:List (an.D):=xs.2
 let v_2:Int:=(↑(List.length cr):Int)
 let s4:Int:=(↑(List.length b_1):Int)
 let yx:=v_2 != s4
 bif yx then
  some (false,())
 else
  let x_25:Wh.QH:=(((0:Int),b_1,cr),())
  bif lF Wh.E9 x_25 then
   sumC (kG Wh.E9 Wh.Vk x_25) (fun z_=>
    let nE:=z_.1
    some (nE,())) (fun _=>
    some (true,()))
  else none
def Wh.q84':=e_ Wh.q84
theorem Wh.q84_v:OV Wh.q84 Wh.q84':=fk _
end
