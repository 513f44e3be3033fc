import Derived.Test.YtfeoanopdlpabaaGreatDoorX6
open Go Go.Ab
noncomputable section
def en {α β:Type} [Inhabited β] (f:α→Option β) (x:α):β:=match f x with | some y=>y|none=>default
abbrev OV {α β:Type} (f:α→Option β) (g:α→β):Prop:=∀x y,f x=some y→g x=y
theorem eB {α β:Type} [Inhabited β] (f:α→Option β):OV f (en f):=fun x y h=>by unfold en;rw[h]
abbrev QA:Ty:=(.pair (.int .i64) (.pair (.int .i64) (.pair .bool (.pair (.int .u8) .unit))))
abbrev QA.D:Type:=(Int)×((Int)×((Bool)×((Int)×(Unit))))
abbrev QB:Ty:=(.pair .str (.pair (.int .u64) .unit))
abbrev QB.D:Type:=(List UInt8)×((Int)×(Unit))
abbrev cr:Ty:=(.pair (.int .i64) (.pair (.lst (.pair (.int .i64) (.pair .str (.pair (.int .i64) (.pair .str .unit))))) .unit))
abbrev cr.D:Type:=(Int)×((List ((Int)×((List UInt8)×((Int)×((List UInt8)×(Unit))))))×(Unit))
abbrev gd:Ty:=(.pair (.lst (.pair (.int .i64) (.pair (.int .i64) (.pair (.int .i64) (.pair (.int .i64) (.pair .bool .unit)))))) (.pair (.int .i64) .unit))
abbrev gd.D:Type:=(List ((Int)×((Int)×((Int)×((Int)×((Bool)×(Unit)))))))×((Int)×(Unit))
abbrev ct:Ty:=(.pair .bool (.pair (.int .i64) (.pair .str (.pair cr (.pair gd (.pair (.lst (.pair (.int .i64) (.pair (.int .i64) (.pair (.int .i64) (.pair (.int .i64) .unit))))) (.pair (.lst (.pair (.int .i64) (.pair (.int .i64) (.pair (.int .i64) (.pair (.int .i64) (.pair (.int .i64) (.pair (.int .i64) .unit))))))) .unit)))))))
abbrev ct.D:Type:=(Bool)×((Int)×((List UInt8)×((cr.D)×((gd.D)×((List ((Int)×((Int)×((Int)×((Int)×(Unit))))))×((List ((Int)×((Int)×((Int)×((Int)×((Int)×((Int)×(Unit))))))))×(Unit)))))))
abbrev yA:Ty:=(.pair (.int .i64) (.pair (.int .i64) (.pair (.lst (.int .i64)) (.pair (.lst (.int .i64)) .unit))))
abbrev yA.D:Type:=(Int)×((Int)×((List (Int))×((List (Int))×(Unit))))
abbrev E_:Ty:=(.pair (.int .i64) (.pair (.int .i64) (.pair (.lst (.pair (.lst (.int .i64)) (.pair .str .unit))) .unit)))
abbrev E_.D:Type:=(Int)×((Int)×((List ((List (Int))×((List UInt8)×(Unit))))×(Unit)))
abbrev E9:Ty:=(.pair yA (.pair E_ .unit))
abbrev E9.D:Type:=(yA.D)×((E_.D)×(Unit))
abbrev CK:Ty:=(.pair (.int .i64) (.pair (.int .i64) (.pair (.int .i64) (.pair .str (.pair (.int .i64) (.pair E9 .unit))))))
abbrev CK.D:Type:=(Int)×((Int)×((Int)×((List UInt8)×((Int)×((E9.D)×(Unit))))))
abbrev HD:Ty:=(.pair (.int .i64) (.pair (.int .i64) (.pair (.int .i64) (.pair (.int .i64) (.pair (.int .i64) (.pair .str (.pair .str .unit)))))))
abbrev HD.D:Type:=(Int)×((Int)×((Int)×((Int)×((Int)×((List UInt8)×((List UInt8)×(Unit)))))))
abbrev HE:Ty:=(.pair ct (.pair (.lst CK) (.pair (.lst (.pair (.int .i64) (.pair .str (.pair .bool .unit)))) (.pair (.lst (.pair (.int .i64) (.pair .str (.pair (.int .i64) (.pair .str .unit))))) .unit))))
abbrev HE.D:Type:=(ct.D)×((List (CK.D))×((List ((Int)×((List UInt8)×((Bool)×(Unit)))))×((List ((Int)×((List UInt8)×((Int)×((List UInt8)×(Unit))))))×(Unit))))
abbrev an:Ty:=(.pair (.int .i64) (.pair .str (.pair (.int .i64) (.pair .str .unit))))
abbrev an.D:Type:=(Int)×((List UInt8)×((Int)×((List UInt8)×(Unit))))
abbrev e_:Ty:=(.pair (.int .i64) (.pair (.int .i64) (.pair (.int .i64) (.pair (.int .i64) (.pair .bool .unit)))))
abbrev e_.D:Type:=(Int)×((Int)×((Int)×((Int)×((Bool)×(Unit)))))
abbrev fN:Ty:=(.pair (.int .i64) (.pair (.int .i64) (.pair (.int .i64) (.pair (.int .i64) .unit))))
abbrev fN.D:Type:=(Int)×((Int)×((Int)×((Int)×(Unit))))
abbrev fT:Ty:=(.pair (.int .i64) (.pair (.int .i64) fN))
abbrev fT.D:Type:=(Int)×((Int)×(fN.D))
abbrev F2:Ty:=(.pair (.int .i64) (.pair .str (.pair .bool .unit)))
abbrev F2.D:Type:=(Int)×((List UInt8)×((Bool)×(Unit)))
abbrev LI:Ty:=(.pair (.int .i64) (.pair (.int .i64) (.pair (.int .i64) .unit)))
abbrev LI.D:Type:=(Int)×((Int)×((Int)×(Unit)))
abbrev F1:Ty:=(.pair (.lst (.int .i64)) (.pair .str .unit))
abbrev F1.D:Type:=(List (Int))×((List UInt8)×(Unit))
abbrev xT:Ty:=(.pair .str .unit)
abbrev xT.D:Type:=(List UInt8)×(Unit)
abbrev QC:Ty:=(.pair (.int .u8) (.pair (.int .u8) .unit))
abbrev QC.D:Type:=(Int)×((Int)×(Unit))
def Wh.Ep (xs:(an.D)×(Int)):Option (((Int))×(Unit)):=
 let bx:an.D:=xs.1
 let left_1:=xs.2
 let v_2:Int:=(↑(List.length bx.2.1):Int)
 let zd:=IntKind.wrap .i64 (left_1-v_2)
 bif decide (zd<(0:Int)) then
  some ((-1:Int),())
 else
  let xY:Int:=(↑(List.length ((bx.2.2.2).1)):Int)
  let R_:=IntKind.wrap .i64 (zd-xY)
  bif decide (R_<(0:Int)) then
   some ((-1:Int),())
  else
   some (R_,())
def Wh.Oy:=en Wh.Ep
theorem Wh.Oz:OV Wh.Ep Wh.Oy:=eB _
abbrev Wh.Qk:Type:=((Int)×(Int)×(List (an.D)))×(Unit)
abbrev Wh.ZS:Type:=((((Int))×(Unit))⊕(((Int))×(Unit)))
def Wh.DH (x:Wh.Qk):Option (Wh.Qk⊕Wh.ZS):=
 let xX:=x.1.1
 let NH:=x.1.2.1
 let DZ:List (an.D):=x.1.2.2
 let n5:Int:=(↑(List.length DZ):Int)
 bif decide (xX<n5) then
  let w8:an.D:=List.getD DZ (Int.toNat xX) ((0:Int),[],(0:Int),[],())
  let zJ:=Wh.Oy (w8,NH)
  bif iy [nQ (Wh.Ep (w8,NH)),decide ((0:Int)≤xX),decide (xX<n5)] then
   bif decide (zJ.1<(0:Int)) then
    some (.inr (.inl ((-1:Int),())))
   else
    some (.inl (((IntKind.wrap .i64 (xX+(1:Int))),zJ.1,DZ),()))
  else none
 else
  some (.inr (.inr (NH,())))
def Wh.Ql:(((Int))×(Unit))⊕(((Int))×(Unit)):=.inl default
def Wh.q85 (xs:(List (an.D))×(Int)):Option (((Int))×(Unit)):=
 let bx:List (an.D):=xs.1
 let left_1:=xs.2
 let v_2:Int:=(↑(List.length bx):Int)
 let zd:=IntKind.wrap .i64 (left_1-v_2)
 bif decide (zd<(0:Int)) then
  some ((-1:Int),())
 else
  let HL:Wh.Qk:=(((0:Int),zd,bx),())
  bif lF Wh.DH HL then
   sumC (kG Wh.DH Wh.Ql HL) (fun HV=>
    let za:=HV.1
    some (za,())) (fun z_28=>
    let W9:=z_28.1
    some (W9,()))
  else none
def Wh.q85':=en Wh.q85
theorem Wh.q85_v:OV Wh.q85 Wh.q85':=eB _
def Wh.EB (xs:(cr.D)×(Int)):Option (((Int))×(Unit)):=
 let bx:cr.D:=xs.1
 let left_1:=xs.2
 let r_2:=Wh.q85' (bx.2.1,left_1)
 bif iy [nQ (Wh.q85 (bx.2.1,left_1))] then
  bif decide (r_2.1<(0:Int)) then
   some ((-1:Int),())
  else
   some (r_2.1,())
 else none
def Wh.O2:=en Wh.EB
theorem Wh.TY:OV Wh.EB Wh.O2:=eB _
def Wh.q59 (xs:(List (e_.D))×(Int)):Option (((Int))×(Unit)):=
 let bx:List (e_.D):=xs.1
 let left_1:=xs.2
 let v_2:Int:=(↑(List.length bx):Int)
 let zd:=IntKind.wrap .i64 (left_1-v_2)
 bif decide (zd<(0:Int)) then
  some ((-1:Int),())
 else
  some (zd,())
def Wh.q59':=en Wh.q59
theorem Wh.q59_v:OV Wh.q59 Wh.q59':=eB _
def Wh.Er (xs:(gd.D)×(Int)):Option (((Int))×(Unit)):=
 let bx:gd.D:=xs.1
 let left_1:=xs.2
 let r_2:=Wh.q59' (bx.1,left_1)
 bif iy [nQ (Wh.q59 (bx.1,left_1))] then
  bif decide (r_2.1<(0:Int)) then
   some ((-1:Int),())
  else
   some (r_2.1,())
 else none
def Wh.OA:=en Wh.Er
theorem Wh.Tx:OV Wh.Er Wh.OA:=eB _
def Wh.q38 (xs:(List (fN.D))×(Int)):Option (((Int))×(Unit)):=
 let bx:List (fN.D):=xs.1
 let left_1:=xs.2
 let v_2:Int:=(↑(List.length bx):Int)
 let zd:=IntKind.wrap .i64 (left_1-v_2)
 bif decide (zd<(0:Int)) then
  some ((-1:Int),())
 else
  some (zd,())
def Wh.q38':=en Wh.q38
theorem Wh.q38_v:OV Wh.q38 Wh.q38':=eB _
def Wh.q60 (xs:(List (fT.D))×(Int)):Option (((Int))×(Unit)):=
 let bx:List (fT.D):=xs.1
 let left_1:=xs.2
 let v_2:Int:=(↑(List.length bx):Int)
 let zd:=IntKind.wrap .i64 (left_1-v_2)
 bif decide (zd<(0:Int)) then
  some ((-1:Int),())
 else
  some (zd,())
def Wh.q60':=en Wh.q60
theorem Wh.q60_v:OV Wh.q60 Wh.q60':=eB _
def Wh.q61 (xs:(ct.D)×(Int)):Option (((Int))×(Unit)):=
 let bx:ct.D:=xs.1
 let left_1:=xs.2
 let v_2:Int:=(↑(List.length (bx.2.2.1)):Int)
 let zd:=IntKind.wrap .i64 (left_1-v_2)
 bif decide (zd<(0:Int)) then
  some ((-1:Int),())
 else
  let xb:=Wh.O2 ((bx.2.2.2).1,zd)
  bif iy [nQ (Wh.EB ((bx.2.2.2).1,zd))] then
   bif decide (xb.1<(0:Int)) then
    some ((-1:Int),())
   else
    let yS:=Wh.OA (bx.2.2.2.2.1,xb.1)
    bif iy [nQ (Wh.Er (bx.2.2.2.2.1,xb.1))] then
     bif decide (yS.1<(0:Int)) then
      some ((-1:Int),())
     else
      let AW:=Wh.q38' ((bx.2.2.2.2.2).1,yS.1)
      bif iy [nQ (Wh.q38 ((bx.2.2.2.2.2).1,yS.1))] then
       bif decide (AW.1<(0:Int)) then
        some ((-1:Int),())
       else
        let y_:=Wh.q60' ((bx.2.2.2.2.2).2.1,AW.1)
        bif iy [nQ (Wh.q60 ((bx.2.2.2.2.2).2.1,AW.1))] then
         bif decide (y_.1<(0:Int)) then
          some ((-1:Int),())
         else
          some (y_.1,())
        else none
      else none
    else none
  else none
def Wh.q61':=en Wh.q61
theorem Wh.q61_v:OV Wh.q61 Wh.q61':=eB _
def Wh.FM (xs:(an.D)):Option (((an.D))×(Unit)):=
 let bx:an.D:=xs
 some ((bx.1,bx.2.1,bx.2.2.1,(bx.2.2.2).1,()),())
def Wh.OB:=en Wh.FM
theorem Wh.Tz:OV Wh.FM Wh.OB:=eB _
abbrev Wh.Qm:Type:=((Int)×(List (an.D))×(Unit))×((List (an.D)))
abbrev Wh.ZT:Type:=((((Unit))×((List (an.D)))))
def Wh.DI (x:Wh.Qm):Option (Wh.Qm⊕Wh.ZT):=
 let vT:=x.1.1
 let y4:List (an.D):=x.1.2.1
 let yC:List (an.D):=x.2
 let yj:Int:=(↑(List.length y4):Int)
 bif decide (vT<yj) then
  let Bc:(an.D)×Unit:=Wh.OB (List.getD y4 (Int.toNat vT) ((0:Int),[],(0:Int),[],()))
  let we:List (an.D):=List.set yC (Int.toNat vT) Bc.1
  let n5:an.D:=List.getD y4 (Int.toNat vT) ((0:Int),[],(0:Int),[],())
  bif iy [decide ((0:Int)≤vT),decide (vT<(↑(List.length yC):Int)),nQ (Wh.FM n5),decide ((0:Int)≤vT),decide (vT<yj)] then
   some (.inl (((IntKind.wrap .i64 (vT+(1:Int))),y4,()),we))
  else none
 else
  some (.inr ((),yC))
def Wh.UW:(((Unit))×((List (an.D)))):=default
def Wh.q87 (xs:(List (an.D))):Option (((List (an.D)))×(Unit)):=
 let bx:List (an.D):=xs
 let zY:List (an.D):=@List.replicate (Int×List UInt8×Int×List UInt8×Unit) (Int.toNat (↑(List.length bx):Int)) ((0:Int),[],(0:Int),[],())
 let v_2:Int:=(↑(List.length bx):Int)
 bif iy [decide ((0:Int)≤v_2),decide (v_2≤v_2),decide (v_2≤(↑dh:Int))] then
  let x_21:Wh.Qm:=(((0:Int),bx,()),zY)
  bif lF Wh.DI x_21 then
   let CP:=kG Wh.DI Wh.UW x_21
   let zC:List (an.D):=CP.2
   some (zC,())
  else none
 else none
def Wh.q87':=en Wh.q87
theorem Wh.q87_v:OV Wh.q87 Wh.q87':=eB _
def Wh.EC (xs:(cr.D)):Option ((((Int)×((List (an.D))×(Unit))))×(Unit)):=
 let bx:cr.D:=xs
 let r_1:List (an.D)×Unit:=Wh.q87' bx.2.1
 bif iy [nQ (Wh.q87 bx.2.1)] then
  some ((bx.1,r_1.1,()),())
 else none
def Wh.O3:=en Wh.EC
theorem Wh.TZ:OV Wh.EC Wh.O3:=eB _
def Wh.q86 (xs:(e_.D)):Option (((e_.D))×(Unit)):=
 let bx:e_.D:=xs
 some ((bx.1,bx.2.1,bx.2.2.1,(bx.2.2.2).1,bx.2.2.2.2.1,()),())
def Wh.q86':=en Wh.q86
theorem Wh.q86_v:OV Wh.q86 Wh.q86':=eB _
abbrev Wh.P7:Type:=((Int)×(List (e_.D))×(Unit))×((List (e_.D)))
abbrev Wh.ZI:Type:=((((Unit))×((List (e_.D)))))
def Wh.DD (x:Wh.P7):Option (Wh.P7⊕Wh.ZI):=
 let vT:=x.1.1
 let y4:List (e_.D):=x.1.2.1
 let yC:List (e_.D):=x.2
 let yj:Int:=(↑(List.length y4):Int)
 bif decide (vT<yj) then
  let Bc:(e_.D)×Unit:=Wh.q86' (List.getD y4 (Int.toNat vT) ((0:Int),(0:Int),(0:Int),(0:Int),false,()))
  let we:List (e_.D):=List.set yC (Int.toNat vT) Bc.1
  let n5:e_.D:=List.getD y4 (Int.toNat vT) ((0:Int),(0:Int),(0:Int),(0:Int),false,())
  bif iy [decide ((0:Int)≤vT),decide (vT<(↑(List.length yC):Int)),nQ (Wh.q86 n5),decide ((0:Int)≤vT),decide (vT<yj)] then
   some (.inl (((IntKind.wrap .i64 (vT+(1:Int))),y4,()),we))
  else none
 else
  some (.inr ((),yC))
def Wh.UL:(((Unit))×((List (e_.D)))):=default
def Wh.q63 (xs:(List (e_.D))):Option (((List (e_.D)))×(Unit)):=
 let bx:List (e_.D):=xs
 let zY:List (e_.D):=@List.replicate (Int×Int×Int×Int×Bool×Unit) (Int.toNat (↑(List.length bx):Int)) ((0:Int),(0:Int),(0:Int),(0:Int),false,())
 let v_2:Int:=(↑(List.length bx):Int)
 bif iy [decide ((0:Int)≤v_2),decide (v_2≤v_2),decide (v_2≤(↑dh:Int))] then
  let x_21:Wh.P7:=(((0:Int),bx,()),zY)
  bif lF Wh.DD x_21 then
   let CP:=kG Wh.DD Wh.UL x_21
   let zC:List (e_.D):=CP.2
   some (zC,())
  else none
 else none
def Wh.q63':=en Wh.q63
theorem Wh.q63_v:OV Wh.q63 Wh.q63':=eB _
def Wh.Es (xs:(gd.D)):Option ((((List (e_.D))×((Int)×(Unit))))×(Unit)):=
 let bx:gd.D:=xs
 let r_1:List (e_.D)×Unit:=Wh.q63' bx.1
 bif iy [nQ (Wh.q63 bx.1)] then
  some ((r_1.1,bx.2.1,()),())
 else none
def Wh.OC:=en Wh.Es
theorem Wh.TA:OV Wh.Es Wh.OC:=eB _
def Wh.q62 (xs:(fN.D)):Option (((fN.D))×(Unit)):=
 let bx:fN.D:=xs
 some ((bx.1,bx.2.1,bx.2.2.1,(bx.2.2.2).1,()),())
def Wh.q62':=en Wh.q62
theorem Wh.q62_v:OV Wh.q62 Wh.q62':=eB _
abbrev Wh.PI:Type:=((Int)×(List (fN.D))×(Unit))×((List (fN.D)))
abbrev Wh.Zr:Type:=((((Unit))×((List (fN.D)))))
def Wh.Dx (x:Wh.PI):Option (Wh.PI⊕Wh.Zr):=
 let vT:=x.1.1
 let y4:List (fN.D):=x.1.2.1
 let yC:List (fN.D):=x.2
 let yj:Int:=(↑(List.length y4):Int)
 bif decide (vT<yj) then
  let Bc:(fN.D)×Unit:=Wh.q62' (List.getD y4 (Int.toNat vT) ((0:Int),(0:Int),(0:Int),(0:Int),()))
  let we:List (fN.D):=List.set yC (Int.toNat vT) Bc.1
  let n5:fN.D:=List.getD y4 (Int.toNat vT) ((0:Int),(0:Int),(0:Int),(0:Int),())
  bif iy [decide ((0:Int)≤vT),decide (vT<(↑(List.length yC):Int)),nQ (Wh.q62 n5),decide ((0:Int)≤vT),decide (vT<yj)] then
   some (.inl (((IntKind.wrap .i64 (vT+(1:Int))),y4,()),we))
  else none
 else
  some (.inr ((),yC))
def Wh.Ut:(((Unit))×((List (fN.D)))):=default
def Wh.q39 (xs:(List (fN.D))):Option (((List (fN.D)))×(Unit)):=
 let bx:List (fN.D):=xs
 let zY:List (fN.D):=@List.replicate (Int×Int×Int×Int×Unit) (Int.toNat (↑(List.length bx):Int)) ((0:Int),(0:Int),(0:Int),(0:Int),())
 let v_2:Int:=(↑(List.length bx):Int)
 bif iy [decide ((0:Int)≤v_2),decide (v_2≤v_2),decide (v_2≤(↑dh:Int))] then
  let x_21:Wh.PI:=(((0:Int),bx,()),zY)
  bif lF Wh.Dx x_21 then
   let CP:=kG Wh.Dx Wh.Ut x_21
   let zC:List (fN.D):=CP.2
   some (zC,())
  else none
 else none
def Wh.q39':=en Wh.q39
theorem Wh.q39_v:OV Wh.q39 Wh.q39':=eB _
def Wh.q88 (xs:(fT.D)):Option (((fT.D))×(Unit)):=
 let bx:fT.D:=xs
 some ((bx.1,bx.2.1,bx.2.2.1,(bx.2.2.2).1,bx.2.2.2.2.1,(bx.2.2.2.2.2).1,()),())
def Wh.q88':=en Wh.q88
theorem Wh.q88_v:OV Wh.q88 Wh.q88':=eB _
abbrev Wh.P8:Type:=((Int)×(List (fT.D))×(Unit))×((List (fT.D)))
abbrev Wh.ZJ:Type:=((((Unit))×((List (fT.D)))))
def Wh.DE (x:Wh.P8):Option (Wh.P8⊕Wh.ZJ):=
 let vT:=x.1.1
 let y4:List (fT.D):=x.1.2.1
 let yC:List (fT.D):=x.2
 let yj:Int:=(↑(List.length y4):Int)
 bif decide (vT<yj) then
  let Bc:(fT.D)×Unit:=Wh.q88' (List.getD y4 (Int.toNat vT) ((0:Int),(0:Int),(0:Int),(0:Int),(0:Int),(0:Int),()))
  let we:List (fT.D):=List.set yC (Int.toNat vT) Bc.1
  let n5:fT.D:=List.getD y4 (Int.toNat vT) ((0:Int),(0:Int),(0:Int),(0:Int),(0:Int),(0:Int),())
  bif iy [decide ((0:Int)≤vT),decide (vT<(↑(List.length yC):Int)),nQ (Wh.q88 n5),decide ((0:Int)≤vT),decide (vT<yj)] then
   some (.inl (((IntKind.wrap .i64 (vT+(1:Int))),y4,()),we))
  else none
 else
  some (.inr ((),yC))
def Wh.UM:(((Unit))×((List (fT.D)))):=default
def Wh.q64 (xs:(List (fT.D))):Option (((List (fT.D)))×(Unit)):=
 let bx:List (fT.D):=xs
 let zY:List (fT.D):=@List.replicate (Int×Int×Int×Int×Int×Int×Unit) (Int.toNat (↑(List.length bx):Int)) ((0:Int),(0:Int),(0:Int),(0:Int),(0:Int),(0:Int),())
 let v_2:Int:=(↑(List.length bx):Int)
 bif iy [decide ((0:Int)≤v_2),decide (v_2≤v_2),decide (v_2≤(↑dh:Int))] then
  let x_21:Wh.P8:=(((0:Int),bx,()),zY)
  bif lF Wh.DE x_21 then
   let CP:=kG Wh.DE Wh.UM x_21
   let zC:List (fT.D):=CP.2
   some (zC,())
  else none
 else none
def Wh.q64':=en Wh.q64
theorem Wh.q64_v:OV Wh.q64 Wh.q64':=eB _
def Wh.BI (xs:(ct.D)):Option ((((Bool)×((Int)×((List UInt8)×(((Int)×((List (an.D))×(Unit)))×(((List (e_.D))×((Int)×(Unit)))×((List (fN.D))×((List (fT.D))×(Unit)))))))))×(Unit)):=
 let bx:ct.D:=xs
 let r_1:(cr.D)×Unit:=Wh.O3 ((bx.2.2.2).1)
 bif iy [nQ (Wh.EC ((bx.2.2.2).1))] then
  let r_2:(gd.D)×Unit:=Wh.OC (bx.2.2.2.2.1)
  bif iy [nQ (Wh.Es (bx.2.2.2.2.1))] then
   let r_3:List (fN.D)×Unit:=Wh.q39' ((bx.2.2.2.2.2).1)
   bif iy [nQ (Wh.q39 ((bx.2.2.2.2.2).1))] then
    let gz:List (fT.D)×Unit:=Wh.q64' ((bx.2.2.2.2.2).2.1)
    bif iy [nQ (Wh.q64 ((bx.2.2.2.2.2).2.1))] then
     some ((bx.1,bx.2.1,bx.2.2.1,r_1.1,r_2.1,r_3.1,gz.1,()),())
    else none
   else none
  else none
 else none
def Wh.q65':=en Wh.BI
theorem Wh.q65_v:OV Wh.BI Wh.q65':=eB _
def Wh.xW (xs:(Int)×(Int)×(Int)):Option (((Bool))×(Unit)):=
 let yx:=xs.1
 let NN:=xs.2.1
 let NA:=xs.2.2
 let vN:=bif decide (yx≥NN) then decide (yx≤NA) else false
 some (vN,())
def Wh.yh:=en Wh.xW
theorem Wh.y9:OV Wh.xW Wh.yh:=eB _
abbrev Wh.OO:Type:=((Int)×(Int)×(List UInt8))×(Unit)
abbrev Wh.Y0:Type:=((((Int))×(Unit))⊕((Unit)×(Unit)))
def Wh.Bz (x:Wh.OO):Option (Wh.OO⊕Wh.Y0):=
 let GN:=x.1.1
 let b_11:=x.1.2.1
 let E5:=x.1.2.2
 let DM:=decide (GN<(↑(List.length E5):Int))
 bif DM then
  let ov:Int:=(↑(UInt8.toNat (List.getD E5 (Int.toNat GN) (0:UInt8))):Int)
  let yj:=ov==b_11
  bif iy [decide ((0:Int)≤GN),DM] then
   bif yj then
    some (.inr (.inl (GN,())))
   else
    some (.inl (((IntKind.wrap .i64 (GN+(1:Int))),b_11,E5),()))
  else none
 else
  some (.inr (.inr ((),())))
def Wh.TN:(((Int))×(Unit))⊕((Unit)×(Unit)):=.inl default
def Wh.yZ (xs:(List UInt8)×(Int)×(Int)):Option (((Int))×(Unit)):=
 let fk:=xs.1
 let zw:=xs.2.1
 let b_2:=xs.2.2
 let x_17:Wh.OO:=((zw,b_2,fk),())
 bif lF Wh.Bz x_17 then
  sumC (kG Wh.Bz Wh.TN x_17) (fun Ff=>
   let nI:=Ff.1
   some (nI,())) (fun _=>
   some ((-1:Int),()))
 else none
def Wh.G5:=en Wh.yZ
theorem Wh.BA:OV Wh.yZ Wh.G5:=eB _
abbrev Wh.Pk:Type:=((Int)×(List UInt8)×(Int))×(Unit)
abbrev Wh.Zd:Type:=((((Int))×(Unit))⊕(((Int))×(Unit)))
def Wh.Dl (x:Wh.Pk):Option (Wh.Pk⊕Wh.Zd):=
 let zb:=x.1.1
 let s_18:=x.1.2.1
 let n_19:=x.1.2.2
 let nI:=decide (zb<(↑(List.length s_18):Int))
 bif nI then
  let w8:Int:=(↑(UInt8.toNat (List.getD s_18 (Int.toNat zb) (0:UInt8))):Int)
  let r5:=bif decide (w8<(48:Int)) then true else decide (w8>(57:Int))
  bif iy [!!decide (w8<(48:Int)) || decide ((0:Int)≤zb),!!decide (w8<(48:Int)) || nI,decide ((0:Int)≤zb),nI] then
   bif r5 then
    some (.inr (.inl ((-1:Int),())))
   else
    bif iy [decide ((0:Int)≤zb),nI] then
     some (.inl (((IntKind.wrap .i64 (zb+(1:Int))),s_18,(IntKind.wrap .i64 ((IntKind.wrap .i64 (n_19*(10:Int)))+IntKind.wrap .i64 (IntKind.wrap .u8 (w8-(48:Int)))))),()))
    else none
  else none
 else
  some (.inr (.inr (n_19,())))
def Wh.Uc:(((Int))×(Unit))⊕(((Int))×(Unit)):=.inl default
def Wh.AD (xs:(List UInt8)):Option (((Int))×(Unit)):=
 let fk:=xs
 let r_1:=Wh.yh ((↑(List.length fk):Int),(1:Int),(6:Int))
 let v_2:=bif !r_1.1 then true else bif decide ((↑(List.length fk):Int)>(1:Int)) then(↑(UInt8.toNat (List.getD fk (Int.toNat (0:Int)) (0:UInt8))):Int)==(48:Int) else false
 bif iy [!(decide ((↑(List.length fk):Int)>(1:Int)) && !!r_1.1) || decide ((0:Int)≤(0:Int)),!(decide ((↑(List.length fk):Int)>(1:Int)) && !!r_1.1) || decide ((0:Int)<(↑(List.length fk):Int)),nQ (Wh.xW ((↑(List.length fk):Int),(1:Int),(6:Int)))] then
  bif v_2 then
   some ((-1:Int),())
  else
   let x_31:Wh.Pk:=(((0:Int),fk,(0:Int)),())
   bif lF Wh.Dl x_31 then
    sumC (kG Wh.Dl Wh.Uc x_31) (fun y_32=>
     let Aa:=y_32.1
     some (Aa,())) (fun z_33=>
     let n_35:=z_33.1
     some (n_35,()))
   else none
 else none
def Wh.Hf:=en Wh.AD
theorem Wh.EJ:OV Wh.AD Wh.Hf:=eB _
def Wh.q29 (U5:((Int))→Option (((List UInt8))×(Unit))) (LB:((Int))→((List UInt8))×(Unit)) (xs:(Int)):Option (((List UInt8))×(Unit)):=
 let yx:=xs
 bif decide (yx<(-9223372036854775807:Int)) then
  some ([(45:UInt8),(57:UInt8),(50:UInt8),(50:UInt8),(51:UInt8),(51:UInt8),(55:UInt8),(50:UInt8),(48:UInt8),(51:UInt8),(54:UInt8),(56:UInt8),(53:UInt8),(52:UInt8),(55:UInt8),(55:UInt8),(53:UInt8),(56:UInt8),(48:UInt8),(56:UInt8)],())
 else
  bif decide (yx<(0:Int)) then
   let s4:=IntKind.wrap .i64 ((0:Int)-yx)
   let nc:xT.D:=LB s4
   let yW:List UInt8:=[(45:UInt8)]++nc.1
   bif iy [decide ((1:Nat)+List.length ((LB s4).1)≤dh),nQ (U5 s4)] then
    some (yW,())
   else none
  else
   bif decide (yx<(10:Int)) then
    let Oh:List Int:=[IntKind.wrap .u8 (IntKind.wrap .i64 ((48:Int)+yx))]
    some (qp Oh,())
   else
    let pb_12:List Int:=[IntKind.wrap .u8 (IntKind.wrap .i64 ((48:Int)+Int.tmod yx (10:Int)))]
    let DM:=IntKind.wrap .i64 (Int.tdiv yx (10:Int))
    let yJ:xT.D:=LB DM
    let w8:=yJ.1++qp pb_12
    bif iy [decide (List.length ((LB DM).1)+(1:Nat)≤dh),true,nQ (U5 DM),true] then
     some (w8,())
    else none
def Wh.AG:Nat→((Int))→Option (((List UInt8))×(Unit))
 |0,_=>none
 |n+1,xs=>Wh.q29 (Wh.AG n) (fun x=>match Wh.AG n x with | some y=>y|none=>default) xs
theorem Wh.Pc (n:Nat):Wh.AG (n+1)=Wh.q29 (Wh.AG n) (fun x=>match Wh.AG n x with | some y=>y|none=>default):=rfl
def Wh.BE (xs:(Int)):Option (((List UInt8))×(Unit)):=Wh.AG 20 xs
def Wh.A8:=en Wh.BE
theorem Wh.Lb:OV Wh.BE Wh.A8:=eB _
abbrev Wh.Qd:Type:=((Int)×(Int)×(Unit))×((List (Int)))
abbrev Wh.ZN:Type:=((((Unit))×((List (Int)))))
def Wh.ET (x:Wh.Qd):Option (Wh.Qd⊕Wh.ZN):=
 let yd:=x.1.1
 let n_28:=x.1.2.1
 let NS:=x.2
 bif decide (yd≥(0:Int)) then
  let th:List Int:=[IntKind.wrap .u8 (Int.fdiv n_28 ((2:Int) ^ Min.min (Int.toNat (IntKind.wrap .i64 ((8:Int)*yd))) (Go.IntKind.bits Go.IntKind.i64)))]
  let y8:=NS++th
  bif iy [decide (List.length NS+(1:Nat)≤dh),decide ((0:Int)≤(IntKind.wrap .i64 ((8:Int)*yd)))] then
   some (.inl (((IntKind.wrap .i64 (yd-(1:Int))),n_28,()),y8))
  else none
 else
  some (.inr ((),NS))
def Wh.UQ:(((Unit))×((List (Int)))):=default
abbrev Wh.Qc:Type:=((Unit)×(List UInt8))×((List (Int)))
abbrev Wh.ZM:Type:=((((Unit)×(List UInt8))×((List (Int)))))
def Wh.DF (x:Wh.Qc):Option (Wh.Qc⊕Wh.ZM):=
 let Vn:=x.1.2
 let KG:=x.2
 let z_:Bool:=(Int.tmod (↑(List.length KG):Int) (64:Int)) != (56:Int)
 bif z_ then
  let GV:=KG ++ [(0:Int)]
  bif iy [decide (List.length KG+(1:Nat)≤dh)] then
   some (.inl (((),Vn),GV))
  else none
 else
  some (.inr (((),Vn),KG))
def Wh.UP:(((Unit)×(List UInt8))×((List (Int)))):=default
def Wh.q70 (xs:(List UInt8)):Option (((List (Int)))×(Unit)):=
 let yK:=xs
 let zY:List Int:=bytesOf yK ++ [(128:Int)]
 bif iy [decide (List.length (bytesOf yK)+(1:Nat)≤dh),decide (List.length yK≤dh)] then
  let x_12:Wh.Qc:=(((),yK),zY)
  bif lF Wh.DF x_12 then
   let y_13:=kG Wh.DF Wh.UP x_12
   let abM:=y_13.1.2
   let yg:=y_13.2
   let x_37:Wh.Qd:=(((7:Int),(IntKind.wrap .i64 ((↑(List.length abM):Int)*(8:Int))),()),yg)
   bif lF Wh.ET x_37 then
    let y_38:=kG Wh.ET Wh.UQ x_37
    let C3:=y_38.2
    some (C3,())
   else none
  else none
 else none
def Wh.q70':=en Wh.q70
theorem Wh.q70_v:OV Wh.q70 Wh.q70':=eB _
def Wh.yc (xs:(Int)×(Int)):Option (((Int))×(Unit)):=
 let yq:=xs.1
 let n_1:=xs.2
 let v_2:Int:=Int.fdiv yq ((2:Int) ^ Min.min (Int.toNat n_1) (Go.IntKind.bits Go.IntKind.u32))
 let s4:=IntKind.wrap .i64 ((32:Int)-n_1)
 let xY:Int:=nj Go.BinOp.or Go.IntKind.u32 v_2 (IntKind.wrap .u32 (yq*(2:Int) ^ Min.min (Int.toNat s4) (Go.IntKind.bits Go.IntKind.u32)))
 bif iy [decide ((0:Int)≤s4),decide ((0:Int)≤n_1)] then
  some (xY,())
 else none
def Wh.zh:=en Wh.yc
theorem Wh.q114_v:OV Wh.yc Wh.zh:=eB _
abbrev Wh.Qt:Type:=((Int)×(Unit))×((List (Int)))
abbrev Wh.ZZ:Type:=((((Unit))×((List (Int)))))
def Wh.EZ (x:Wh.Qt):Option (Wh.Qt⊕Wh.ZZ):=
 let CW:=x.1.1
 let A5:=x.2
 bif decide (CW<(64:Int)) then
  let HK:=IntKind.wrap .i64 (CW-(15:Int))
  let HT:=List.getD A5 (Int.toNat HK) (0:Int)
  bif iy [decide ((0:Int)≤HK),decide (HK<(↑(List.length A5):Int))] then
   let v_99:=IntKind.wrap .i64 (CW-(2:Int))
   let HU:=List.getD A5 (Int.toNat v_99) (0:Int)
   bif iy [decide ((0:Int)≤v_99),decide (v_99<(↑(List.length A5):Int))] then
    let r_102:=Wh.zh (HT,(7:Int))
    let Qv:=Wh.zh (HT,(18:Int))
    let v_105:Int:=Int.fdiv HT ((2:Int) ^ Min.min (Int.toNat (3:Int)) (Go.IntKind.bits Go.IntKind.u32))
    let a_107:Int:=nj Go.BinOp.xor Go.IntKind.u32 (nj Go.BinOp.xor Go.IntKind.u32 r_102.1 Qv.1) v_105
    bif iy [true,nQ (Wh.yc (HT,(18:Int))),nQ (Wh.yc (HT,(7:Int)))] then
     let r_108:=Wh.zh (HU,(17:Int))
     let Ht:=Wh.zh (HU,(19:Int))
     let v_111:Int:=Int.fdiv HU ((2:Int) ^ Min.min (Int.toNat (10:Int)) (Go.IntKind.bits Go.IntKind.u32))
     let c_113:Int:=nj Go.BinOp.xor Go.IntKind.u32 (nj Go.BinOp.xor Go.IntKind.u32 r_108.1 Ht.1) v_111
     bif iy [true,nQ (Wh.yc (HU,(19:Int))),nQ (Wh.yc (HU,(17:Int)))] then
      let pb_114:List Int:=[IntKind.wrap .u32 (IntKind.wrap .u32 (IntKind.wrap .u32 (List.getD A5 (Int.toNat (IntKind.wrap .i64 (CW-(16:Int)))) (0:Int)+a_107)+List.getD A5 (Int.toNat (IntKind.wrap .i64 (CW-(7:Int)))) (0:Int))+c_113)]
      let ls_115:=A5++pb_114
      let v_116:=IntKind.wrap .i64 (CW-(16:Int))
      let LM:=IntKind.wrap .i64 (CW-(7:Int))
      bif iy [decide (List.length A5+(1:Nat)≤dh),decide ((0:Int)≤LM),decide (LM<(↑(List.length A5):Int)),decide ((0:Int)≤v_116),decide (v_116<(↑(List.length A5):Int))] then
       some (.inl (((IntKind.wrap .i64 (CW+(1:Int))),()),ls_115))
      else none
     else none
    else none
   else none
  else none
 else
  some (.inr ((),A5))
def Wh.U1:(((Unit))×((List (Int)))):=default
abbrev Wh.Qs:Type:=((Int)×(List (Int))×(Unit))×((List (Int)))
abbrev Wh.ZY:Type:=((((Unit))×((List (Int)))))
def Wh.EY (x:Wh.Qs):Option (Wh.Qs⊕Wh.ZY):=
 let Ec:=x.1.1
 let BV:=x.1.2.1
 let y8:=x.2
 bif decide (Ec<(16:Int)) then
  let KU:List Int:=[nj Go.BinOp.or Go.IntKind.u32 (nj Go.BinOp.or Go.IntKind.u32 (nj Go.BinOp.or Go.IntKind.u32 (IntKind.wrap .u32 (IntKind.wrap .u32 (List.getD BV (Int.toNat (IntKind.wrap .i64 ((4:Int)*Ec))) (0:Int))*(2:Int) ^ Min.min (Int.toNat (24:Int)) (Go.IntKind.bits Go.IntKind.u32))) (IntKind.wrap .u32 (IntKind.wrap .u32 (List.getD BV (Int.toNat (IntKind.wrap .i64 (IntKind.wrap .i64 ((4:Int)*Ec)+(1:Int)))) (0:Int))*(2:Int) ^ Min.min (Int.toNat (16:Int)) (Go.IntKind.bits Go.IntKind.u32)))) (IntKind.wrap .u32 (IntKind.wrap .u32 (List.getD BV (Int.toNat (IntKind.wrap .i64 (IntKind.wrap .i64 ((4:Int)*Ec)+(2:Int)))) (0:Int))*(2:Int) ^ Min.min (Int.toNat (8:Int)) (Go.IntKind.bits Go.IntKind.u32)))) (IntKind.wrap .u32 (List.getD BV (Int.toNat (IntKind.wrap .i64 (IntKind.wrap .i64 ((4:Int)*Ec)+(3:Int)))) (0:Int)))]
  let Ao:=y8++KU
  let ym:=IntKind.wrap .i64 ((4:Int)*Ec)
  bif iy [decide (List.length y8+(1:Nat)≤dh),decide ((0:Int)≤IntKind.wrap .i64 (ym+(3:Int))),decide (IntKind.wrap .i64 (ym+(3:Int))<(↑(List.length BV):Int)),true,decide ((0:Int)≤IntKind.wrap .i64 (ym+(2:Int))),decide (IntKind.wrap .i64 (ym+(2:Int))<(↑(List.length BV):Int)),true,decide ((0:Int)≤IntKind.wrap .i64 (ym+(1:Int))),decide (IntKind.wrap .i64 (ym+(1:Int))<(↑(List.length BV):Int)),true,decide ((0:Int)≤ym),decide (ym<(↑(List.length BV):Int))] then
   some (.inl (((IntKind.wrap .i64 (Ec+(1:Int))),BV,()),Ao))
  else none
 else
  some (.inr ((),y8))
def Wh.U0:(((Unit))×((List (Int)))):=default
def Wh.q96 (xs:(List (Int))):Option (((List (Int)))×(Unit)):=
 let yF:=xs
 let x_59:Wh.Qs:=(((0:Int),yF,()),[])
 bif lF Wh.EY x_59 then
  let y_60:=kG Wh.EY Wh.U0 x_59
  let ls_61:=y_60.2
  let x_124:Wh.Qt:=(((16:Int),()),ls_61)
  bif lF Wh.EZ x_124 then
   let y_125:=kG Wh.EZ Wh.U1 x_124
   let ls_126:=y_125.2
   some (ls_126,())
  else none
 else none
def Wh.q96':=en Wh.q96
theorem Wh.q96_v:OV Wh.q96 Wh.q96':=eB _
def Wh.q69 (_:Unit):Option (((List (Int)))×(Unit)):=
 let pb_0:List Int:=[(1116352408:Int),(1899447441:Int),(3049323471:Int),(3921009573:Int),(961987163:Int),(1508970993:Int),(2453635748:Int),(2870763221:Int),(3624381080:Int),(310598401:Int),(607225278:Int),(1426881987:Int),(1925078388:Int),(2162078206:Int),(2614888103:Int),(3248222580:Int),(3835390401:Int),(4022224774:Int),(264347078:Int),(604807628:Int),(770255983:Int),(1249150122:Int),(1555081692:Int),(1996064986:Int),(2554220882:Int),(2821834349:Int),(2952996808:Int),(3210313671:Int),(3336571891:Int),(3584528711:Int),(113926993:Int),(338241895:Int),(666307205:Int),(773529912:Int),(1294757372:Int),(1396182291:Int),(1695183700:Int),(1986661051:Int),(2177026350:Int),(2456956037:Int),(2730485921:Int),(2820302411:Int),(3259730800:Int),(3345764771:Int),(3516065817:Int),(3600352804:Int),(4094571909:Int),(275423344:Int),(430227734:Int),(506948616:Int),(659060556:Int),(883997877:Int),(958139571:Int),(1322822218:Int),(1537002063:Int),(1747873779:Int),(1955562222:Int),(2024104815:Int),(2227730452:Int),(2361852424:Int),(2428436474:Int),(2756734187:Int),(3204031479:Int),(3329325298:Int)]
 some (pb_0,())
def Wh.q69':=en Wh.q69
theorem Wh.q69_v:OV Wh.q69 Wh.q69':=eB _
abbrev Wh.Qr:Type:=((Int)×(Unit)×(List (Int))×(Unit))×((List (Int))×(List (Int)))
abbrev Wh.ZX:Type:=((((Unit))×((List (Int)))))
def Wh.Hs (x:Wh.Qr):Option (Wh.Qr⊕Wh.ZX):=
 let CV:=x.1.1
 let Ny:List Int:=(x.1.2.2).1
 let NQ:=x.2.1
 let NR:=x.2.2
 bif decide (CV<(8:Int)) then
  let pb_193:List Int:=[IntKind.wrap .u32 (List.getD Ny (Int.toNat CV) (0:Int)+List.getD NQ (Int.toNat CV) (0:Int))]
  let ls_194:=NR++pb_193
  bif iy [decide (List.length NR+(1:Nat)≤dh),decide ((0:Int)≤CV),decide (CV<(↑(List.length NQ):Int)),decide ((0:Int)≤CV),decide (CV<(↑(List.length Ny):Int))] then
   some (.inl (((IntKind.wrap .i64 (CV+(1:Int))),(),Ny,()),NQ,ls_194))
  else none
 else
  some (.inr ((),NR))
def Wh.UZ:(((Unit))×((List (Int)))):=default
abbrev Wh.Qp:Type:=((Int)×(Unit)×(Unit)×(Unit)×(List (Int))×(Int)×(Int)×(Int)×(Int))×((List (Int))×(List (Int))×(List (Int)))
abbrev Wh.ZW:Type:=((((Unit)×(Unit)×(Unit)×(List (Int))×(Int)×(Int)×(Int)×(Int))×((List (Int))×(List (Int))×(List (Int)))))
def Wh.Hr (x:Wh.Qp):Option (Wh.Qp⊕Wh.ZW):=
 let FE:=x.1.1
 let h_73:List Int:=(x.1.2.2.2.2).1
 let i_74:Int:=(x.1.2.2.2.2).2.1
 let Ta:Int:=(x.1.2.2.2.2).2.2.1
 let a_76:Int:=(x.1.2.2.2.2).2.2.2.1
 let t_77:Int:=(x.1.2.2.2.2).2.2.2.2
 let GY:=x.2.1
 let ls_79:=x.2.2.1
 let ls_80:=x.2.2.2
 bif decide (FE>(0:Int)) then
  let ls_82:=List.set GY (Int.toNat FE) (List.getD GY (Int.toNat (IntKind.wrap .i64 (FE-(1:Int)))) (0:Int))
  let v_83:=IntKind.wrap .i64 (FE-(1:Int))
  bif iy [decide ((0:Int)≤FE),decide (FE<(↑(List.length GY):Int)),decide ((0:Int)≤v_83),decide (v_83<(↑(List.length GY):Int))] then
   some (.inl ((v_83,(),(),(),h_73,i_74,Ta,a_76,t_77),ls_82,ls_79,ls_80))
  else none
 else
  some (.inr (((),(),(),h_73,i_74,Ta,a_76,t_77),GY,ls_79,ls_80))
def Wh.Qq:(((Unit)×(Unit)×(Unit)×(List (Int))×(Int)×(Int)×(Int)×(Int))×((List (Int))×(List (Int))×(List (Int)))):=default
abbrev Wh.Qo:Type:=((Unit)×(Int)×(Unit)×(Unit)×(List (Int)))×((List (Int))×(List (Int))×(List (Int)))
abbrev Wh.ZV:Type:=((((Unit)×(List (Int)))×((List (Int)))))
def Wh.EX (x:Wh.Qo):Option (Wh.Qo⊕Wh.ZV):=
 let CT:=x.1.2.1
 let h_103:=x.1.2.2.2.2
 let ye:=x.2.1
 let NO:=x.2.2.1
 let NP:=x.2.2.2
 bif decide (CT<(64:Int)) then
  let BP:=List.getD ye (Int.toNat (4:Int)) (0:Int)
  let r_119:=Wh.zh (BP,(6:Int))
  let r_120:=Wh.zh (BP,(11:Int))
  let r_121:=Wh.zh (BP,(25:Int))
  let e_122:Int:=nj Go.BinOp.xor Go.IntKind.u32 (nj Go.BinOp.xor Go.IntKind.u32 r_119.1 r_120.1) r_121.1
  bif iy [nQ (Wh.yc (BP,(25:Int))),true,decide ((4:Int)<(↑(List.length ye):Int)),nQ (Wh.yc (BP,(11:Int))),true,decide ((4:Int)<(↑(List.length ye):Int)),nQ (Wh.yc (BP,(6:Int))),true,decide ((4:Int)<(↑(List.length ye):Int))] then
   let v_123:=List.getD ye (Int.toNat (5:Int)) (0:Int)
   let v_124:=List.getD ye (Int.toNat (6:Int)) (0:Int)
   let ch_127:Int:=nj Go.BinOp.xor Go.IntKind.u32 (nj Go.BinOp.and Go.IntKind.u32 BP v_123) (nj Go.BinOp.and Go.IntKind.u32 (nj Go.BinOp.xor Go.IntKind.u32 (Go.IntKind.max Go.IntKind.u32) BP) v_124)
   bif iy [true,decide ((6:Int)<(↑(List.length ye):Int)),true,decide ((4:Int)<(↑(List.length ye):Int)),true,decide ((5:Int)<(↑(List.length ye):Int)),true,decide ((4:Int)<(↑(List.length ye):Int))] then
    let v_128:=List.getD ye (Int.toNat (7:Int)) (0:Int)
    let v_131:=List.getD NP (Int.toNat CT) (0:Int)
    let v_133:=List.getD NO (Int.toNat CT) (0:Int)
    bif iy [decide ((0:Int)≤CT),decide (CT<(↑(List.length NO):Int)),decide ((0:Int)≤CT),decide (CT<(↑(List.length NP):Int)),true,decide ((7:Int)<(↑(List.length ye):Int))] then
     let DN:=List.getD ye (Int.toNat (0:Int)) (0:Int)
     let r_147:=Wh.zh (DN,(2:Int))
     let r_148:=Wh.zh (DN,(13:Int))
     let r_149:=Wh.zh (DN,(22:Int))
     let a_150:Int:=nj Go.BinOp.xor Go.IntKind.u32 (nj Go.BinOp.xor Go.IntKind.u32 r_147.1 r_148.1) r_149.1
     bif iy [nQ (Wh.yc (DN,(22:Int))),true,decide ((0:Int)<(↑(List.length ye):Int)),nQ (Wh.yc (DN,(13:Int))),true,decide ((0:Int)<(↑(List.length ye):Int)),nQ (Wh.yc (DN,(2:Int))),true,decide ((0:Int)<(↑(List.length ye):Int))] then
      let v_151:=List.getD ye (Int.toNat (1:Int)) (0:Int)
      let v_152:=List.getD ye (Int.toNat (2:Int)) (0:Int)
      let XI:Int:=nj Go.BinOp.xor Go.IntKind.u32 (nj Go.BinOp.xor Go.IntKind.u32 (nj Go.BinOp.and Go.IntKind.u32 DN v_151) (nj Go.BinOp.and Go.IntKind.u32 DN v_152)) (nj Go.BinOp.and Go.IntKind.u32 v_151 v_152)
      bif iy [true,decide ((2:Int)<(↑(List.length ye):Int)),true,decide ((1:Int)<(↑(List.length ye):Int)),true,decide ((2:Int)<(↑(List.length ye):Int)),true,decide ((0:Int)<(↑(List.length ye):Int)),true,decide ((1:Int)<(↑(List.length ye):Int)),true,decide ((0:Int)<(↑(List.length ye):Int))] then
       let x_156:Wh.Qp:=(((7:Int),(),(),(),h_103,CT,XI,a_150,(IntKind.wrap .u32 (IntKind.wrap .u32 (IntKind.wrap .u32 (IntKind.wrap .u32 (v_128+e_122)+ch_127)+v_131)+v_133))),ye,NO,NP)
       bif lF Wh.Hr x_156 then
        let DT:=kG Wh.Hr Wh.Qq x_156
        let h_158:=DT.1.2.2.2.1
        let i_159:Int:=(DT.1.2.2.2.2).1
        let XJ:Int:=(DT.1.2.2.2.2).2.1
        let a_161:Int:=(DT.1.2.2.2.2).2.2.1
        let t_162:Int:=(DT.1.2.2.2.2).2.2.2
        let KC:=DT.2.1
        let ls_164:=DT.2.2.1
        let ls_165:=DT.2.2.2
        let Sf:=List.set KC (Int.toNat (4:Int)) (IntKind.wrap .u32 (List.getD KC (Int.toNat (4:Int)) (0:Int)+t_162))
        bif iy [true,decide ((4:Int)<(↑(List.length KC):Int)),true,decide ((4:Int)<(↑(List.length KC):Int))] then
         let ls_169:=List.set Sf (Int.toNat (0:Int)) (IntKind.wrap .u32 (IntKind.wrap .u32 (t_162+a_161)+XJ))
         bif iy [true,decide ((0:Int)<(↑(List.length Sf):Int))] then
          some (.inl (((),(IntKind.wrap .i64 (i_159+(1:Int))),(),(),h_158),ls_169,ls_164,ls_165))
         else none
        else none
       else none
      else none
     else none
    else none
   else none
  else none
 else
  some (.inr (((),h_103),ye))
def Wh.UY:(((Unit)×(List (Int)))×((List (Int)))):=default
def Wh.q94 (xs:(List (Int))×(List (Int))):Option (((List (Int)))×(Unit)):=
 let h_0:=xs.1
 let b_1:=xs.2
 let r_2:List Int×Unit:=Wh.q96' b_1
 bif iy [nQ (Wh.q96 b_1)] then
  let r_3:List Int×Unit:=Wh.q69' ()
  bif iy [nQ (Wh.q69 ())] then
   let pb_4:List Int:=[]++h_0
   bif iy [decide ((0:Nat)+List.length h_0≤dh)] then
    let x_173:Wh.Qo:=(((),(0:Int),(),(),h_0),pb_4,r_2.1,r_3.1)
    bif lF Wh.EX x_173 then
     let y_174:=kG Wh.EX Wh.UY x_173
     let h_175:=y_174.1.2
     let ls_176:=y_174.2
     let x_199:Wh.Qr:=(((0:Int),(),h_175,()),ls_176,[])
     bif lF Wh.Hs x_199 then
      let y_200:=kG Wh.Hs Wh.UZ x_199
      let ls_201:=y_200.2
      some (ls_201,())
     else none
    else none
   else none
  else none
 else none
def Wh.q94':=en Wh.q94
theorem Wh.q94_v:OV Wh.q94 Wh.q94':=eB _
abbrev Wh.Ph:Type:=((Int)×(Unit)×(Unit))×((List (Int))×(List (Int)))
abbrev Wh.Zb:Type:=((((Unit))×((List (Int)))))
def Wh.G_ (x:Wh.Ph):Option (Wh.Ph⊕Wh.Zb):=
 let Ak:=x.1.1
 let x7:=x.2.1
 let Ao:=x.2.2
 bif decide (Ak<(8:Int)) then
  let Oi:List Int:=[IntKind.wrap .u8 (Int.fdiv (List.getD x7 (Int.toNat Ak) (0:Int)) ((2:Int) ^ Min.min (Int.toNat (24:Int)) (Go.IntKind.bits Go.IntKind.u32))),IntKind.wrap .u8 (Int.fdiv (List.getD x7 (Int.toNat Ak) (0:Int)) ((2:Int) ^ Min.min (Int.toNat (16:Int)) (Go.IntKind.bits Go.IntKind.u32))),IntKind.wrap .u8 (Int.fdiv (List.getD x7 (Int.toNat Ak) (0:Int)) ((2:Int) ^ Min.min (Int.toNat (8:Int)) (Go.IntKind.bits Go.IntKind.u32))),IntKind.wrap .u8 (List.getD x7 (Int.toNat Ak) (0:Int))]
  let zf:=Ao++Oi
  bif iy [decide (List.length Ao+(4:Nat)≤dh),decide ((0:Int)≤Ak),decide (Ak<(↑(List.length x7):Int)),true,decide ((0:Int)≤Ak),decide (Ak<(↑(List.length x7):Int)),true,decide ((0:Int)≤Ak),decide (Ak<(↑(List.length x7):Int)),true,decide ((0:Int)≤Ak),decide (Ak<(↑(List.length x7):Int))] then
   some (.inl (((IntKind.wrap .i64 (Ak+(1:Int))),(),()),x7,zf))
  else none
 else
  some (.inr ((),Ao))
def Wh.T_:(((Unit))×((List (Int)))):=default
abbrev Wh.Pg:Type:=((Int)×(Unit)×(Unit))×((List (Int))×(List (Int)))
abbrev Wh.Za:Type:=((((Unit))×((List (Int)))))
def Wh.Dj (x:Wh.Pg):Option (Wh.Pg⊕Wh.Za):=
 let zU:=x.1.1
 let C0:=x.2.1
 let GV:=x.2.2
 bif decide (zU<(↑(List.length C0):Int)) then
  let DK:List Int×Unit:=Wh.q94' (GV,List.take (Int.toNat (IntKind.wrap .i64 (zU+(64:Int))-zU)) (List.drop (Int.toNat zU) C0))
  let ov:=IntKind.wrap .i64 (zU+(64:Int))
  bif iy [nQ (Wh.q94 (GV,List.take (Int.toNat (ov-zU)) (List.drop (Int.toNat zU) C0))),decide ((0:Int)≤zU),decide (zU≤ov),decide (ov≤(↑(List.length C0):Int))] then
   some (.inl ((ov,(),()),C0,DK.1))
  else none
 else
  some (.inr ((),GV))
def Wh.T9:(((Unit))×((List (Int)))):=default
def Wh.EH (xs:(List UInt8)):Option (((List UInt8))×(Unit)):=
 let yK:=xs
 let r_1:List Int×Unit:=Wh.q70' yK
 bif iy [nQ (Wh.q70 yK)] then
  let x_16:Wh.Pg:=(((0:Int),(),()),r_1.1,[(1779033703:Int),(3144134277:Int),(1013904242:Int),(2773480762:Int),(1359893119:Int),(2600822924:Int),(528734635:Int),(1541459225:Int)])
  bif lF Wh.Dj x_16 then
   let y_17:=kG Wh.Dj Wh.T9 x_16
   let we:=y_17.2
   let x_47:Wh.Ph:=(((0:Int),(),()),we,[])
   bif lF Wh.G_ x_47 then
    let y_48:=kG Wh.G_ Wh.T_ x_47
    let ls_49:=y_48.2
    some (qp ls_49,())
   else none
  else none
 else none
def Wh.Pf:=en Wh.EH
theorem Wh.Ua:OV Wh.EH Wh.Pf:=eB _
abbrev Wh.Pd:Type:=((Int)×(List UInt8)×(Unit))×((List (Int)))
abbrev Wh.Y_:Type:=((((Unit))×((List (Int)))))
def Wh.Dh (x:Wh.Pd):Option (Wh.Pd⊕Wh.Y_):=
 let zy:=x.1.1
 let Bd:=x.1.2.1
 let yg:=x.2
 let xO:=decide (zy<(↑(List.length Bd):Int))
 bif xO then
  let El:List Int:=[(↑(UInt8.toNat (List.getD [(48:UInt8),(49:UInt8),(50:UInt8),(51:UInt8),(52:UInt8),(53:UInt8),(54:UInt8),(55:UInt8),(56:UInt8),(57:UInt8),(97:UInt8),(98:UInt8),(99:UInt8),(100:UInt8),(101:UInt8),(102:UInt8)] (Int.toNat (IntKind.wrap .u8 (Int.tdiv (↑(UInt8.toNat (List.getD Bd (Int.toNat zy) (0:UInt8))):Int) (16:Int)))) (0:UInt8))):Int),(↑(UInt8.toNat (List.getD [(48:UInt8),(49:UInt8),(50:UInt8),(51:UInt8),(52:UInt8),(53:UInt8),(54:UInt8),(55:UInt8),(56:UInt8),(57:UInt8),(97:UInt8),(98:UInt8),(99:UInt8),(100:UInt8),(101:UInt8),(102:UInt8)] (Int.toNat (Int.tmod (↑(UInt8.toNat (List.getD Bd (Int.toNat zy) (0:UInt8))):Int) (16:Int))) (0:UInt8))):Int)]
  let we:=yg++El
  let n5:Int:=(↑(UInt8.toNat (List.getD Bd (Int.toNat zy) (0:UInt8))):Int)
  bif iy [decide (List.length yg+(2:Nat)≤dh),decide ((0:Int)≤Int.tmod n5 (16:Int)),decide (Int.tmod n5 (16:Int)<(↑(16:Nat):Int)),true,decide ((0:Int)≤zy),xO,decide ((0:Int)≤IntKind.wrap .u8 (Int.tdiv n5 (16:Int))),decide (IntKind.wrap .u8 (Int.tdiv n5 (16:Int))<(↑(16:Nat):Int)),true,decide ((0:Int)≤zy),xO] then
   some (.inl (((IntKind.wrap .i64 (zy+(1:Int))),Bd,()),we))
  else none
 else
  some (.inr ((),yg))
def Wh.T8:(((Unit))×((List (Int)))):=default
def Wh.Dg (xs:(List UInt8)):Option (((List UInt8))×(Unit)):=
 let fk:=xs
 let x_25:Wh.Pd:=(((0:Int),fk,()),[])
 bif lF Wh.Dh x_25 then
  let Ac:=kG Wh.Dh Wh.T8 x_25
  let yQ:=Ac.2
  some (qp yQ,())
 else none
def Wh.Lc:=en Wh.Dg
theorem Wh.Pe:OV Wh.Dg Wh.Lc:=eB _
def Wh.q90 (xs:(List UInt8)):Option (((List UInt8))×(Unit)):=
 let yK:=xs
 let r_1:xT.D:=Wh.Pf yK
 let r_3:xT.D:=Wh.Lc r_1.1
 bif iy [nQ (Wh.Dg r_1.1),nQ (Wh.EH yK)] then
  some (r_3.1,())
 else none
def Wh.DJ:=en Wh.q90
theorem Wh.q90_v:OV Wh.q90 Wh.DJ:=eB _
def Wh.C_ (xs:(Int)×(List UInt8)):Option (((List UInt8))×(Unit)):=
 let yx:=xs.1
 let n_:=xs.2
 let r_2:xT.D:=Wh.A8 yx
 let gz:xT.D:=Wh.A8 (↑(List.length n_):Int)
 let zT:=r_2.1 ++ [(32:UInt8)]++gz.1 ++ [(32:UInt8)]
 bif iy [decide (List.length (r_2.1 ++ [(32:UInt8)]++gz.1)+(1:Nat)≤dh),decide (List.length (r_2.1 ++ [(32:UInt8)])+List.length gz.1≤dh),nQ (Wh.BE (↑(List.length n_):Int)),decide (List.length r_2.1+(1:Nat)≤dh),nQ (Wh.BE yx)] then
  let yW:List UInt8:=zT++n_
  let yJ:xT.D:=Wh.DJ yW
  let w8:List UInt8:=zT++List.take (Int.toNat ((16:Int)-(0:Int))) (List.drop (Int.toNat (0:Int)) yJ.1) ++ [(32:UInt8)]++n_ ++ [(10:UInt8)]
  bif iy [decide (List.length (zT++List.take (Int.toNat ((16:Int)-(0:Int))) (List.drop (Int.toNat (0:Int)) ((Wh.DJ yW).1)) ++ [(32:UInt8)]++n_)+(1:Nat)≤dh),decide (List.length (zT++List.take (Int.toNat ((16:Int)-(0:Int))) (List.drop (Int.toNat (0:Int)) ((Wh.DJ yW).1)) ++ [(32:UInt8)])+List.length n_≤dh),decide (List.length (zT++List.take (Int.toNat ((16:Int)-(0:Int))) (List.drop (Int.toNat (0:Int)) ((Wh.DJ yW).1)))+(1:Nat)≤dh),decide (List.length zT+List.length (List.take (Int.toNat ((16:Int)-(0:Int))) (List.drop (Int.toNat (0:Int)) ((Wh.DJ yW).1)))≤dh),true,true,decide ((16:Int)≤(↑(List.length ((Wh.DJ yW).1)):Int)),nQ (Wh.q90 yW),decide (List.length zT+List.length n_≤dh)] then
   some (w8,())
  else none
 else none
def Wh.G6:=en Wh.C_
theorem Wh.KY:OV Wh.C_ Wh.G6:=eB _
def Wh.Cc (xs:(List UInt8)×(Int)×(Int)):Option (((List UInt8)×(Int))×(Unit)):=
 let nG:=xs.1
 let zw:=xs.2.1
 let Ob:=xs.2.2
 let r_3:=Wh.G5 (nG,zw,(32:Int))
 bif iy [nQ (Wh.yZ (nG,zw,(32:Int)))] then
  let yp:=decide (r_3.1<(0:Int))
  let yD:=Wh.Hf (List.take (Int.toNat (r_3.1-zw)) (List.drop (Int.toNat zw) nG))
  let xY:=bif yp then true else yD.1 != Ob
  bif iy [!!yp || nQ (Wh.AD (List.take (Int.toNat (r_3.1-zw)) (List.drop (Int.toNat zw) nG))),!!yp || decide ((0:Int)≤zw),!!yp || decide (zw≤r_3.1),!!yp || decide (r_3.1≤(↑(List.length nG):Int))] then
   bif xY then
    some (([],(0:Int)),())
   else
    let y3:=IntKind.wrap .i64 (r_3.1+(1:Int))
    let r_9:=Wh.G5 (nG,y3,(32:Int))
    bif iy [nQ (Wh.yZ (nG,y3,(32:Int)))] then
     bif decide (r_9.1<(0:Int)) then
      some (([],(0:Int)),())
     else
      let DK:=Wh.Hf (List.take (Int.toNat (r_9.1-y3)) (List.drop (Int.toNat y3) nG))
      bif iy [nQ (Wh.AD (List.take (Int.toNat (r_9.1-y3)) (List.drop (Int.toNat y3) nG))),decide ((0:Int)≤y3),decide (y3≤r_9.1),decide (r_9.1≤(↑(List.length nG):Int))] then
       let ov:=IntKind.wrap .i64 (r_9.1+(18:Int))
       let r_15:=Wh.yh (DK.1,(1:Int),(500:Int))
       let xO:=bif !r_15.1 then true else decide (IntKind.wrap .i64 (IntKind.wrap .i64 (ov+DK.1)+(1:Int))>(↑(List.length nG):Int))
       bif iy [nQ (Wh.xW (DK.1,(1:Int),(500:Int)))] then
        bif xO then
         some (([],(0:Int)),())
        else
         let x5:=IntKind.wrap .i64 (ov+DK.1)
         let yJ:xT.D:=Wh.G6 (Ob,List.take (Int.toNat (x5-ov)) (List.drop (Int.toNat ov) nG))
         bif iy [nQ (Wh.C_ (Ob,List.take (Int.toNat (x5-ov)) (List.drop (Int.toNat ov) nG))),decide ((0:Int)≤ov),decide (ov≤x5),decide (x5≤(↑(List.length nG):Int))] then
          bif iy [decide ((0:Int)≤zw),decide (zw≤IntKind.wrap .i64 (x5+(1:Int))),decide (IntKind.wrap .i64 (x5+(1:Int))≤(↑(List.length nG):Int))] then
           bif(!List.take (Int.toNat (IntKind.wrap .i64 (x5+(1:Int))-zw)) (List.drop (Int.toNat zw) nG)==yJ.1) then
            some (([],(0:Int)),())
           else
            let AI:Int:=(↑(List.length yJ.1):Int)
            let so:List UInt8:=List.take (Int.toNat (x5-ov)) (List.drop (Int.toNat ov) nG)
            bif iy [decide ((0:Int)≤ov),decide (ov≤x5),decide (x5≤(↑(List.length nG):Int))] then
             some ((so,AI),())
            else none
          else none
         else none
       else none
      else none
    else none
  else none
 else none
def Wh.OP:=en Wh.Cc
theorem Wh.OQ:OV Wh.Cc Wh.OP:=eB _
abbrev Wh.OR:Type:=((Int)×(Unit)×(List UInt8))×((List (List UInt8)))
abbrev Wh.Y1:Type:=((((Unit)×(Int))×((List (List UInt8)))))
def Wh.Da (x:Wh.OR):Option (Wh.OR⊕Wh.Y1):=
 let Ka:=x.1.1
 let NL:=x.1.2.2
 let x6:List (List UInt8):=x.2
 let nI:Int:=(↑(List.length x6):Int)
 let BL:(List UInt8×Int)×Unit:=Wh.OP (NL,Ka,nI)
 bif iy [nQ (Wh.Cc (NL,Ka,nI))] then
  bif(BL.1.2==(0:Int)) then
   some (.inr (((),Ka),x6))
  else
   let pb_30:List (List UInt8):=[BL.1.1]
   let y7:List (List UInt8):=x6++pb_30
   bif iy [decide (List.length x6+(1:Nat)≤dh)] then
    some (.inl (((IntKind.wrap .i64 (Ka+BL.1.2)),(),NL),y7))
   else none
 else none
def Wh.TP:(((Unit)×(Int))×((List (List UInt8)))):=default
def Wh.A7 (xs:(List UInt8)):Option (((List (List UInt8))×(Int))×(Unit)):=
 let nG:=xs
 let x_33:Wh.OR:=(((0:Int),(),nG),[])
 bif lF Wh.Da x_33 then
  let y_34:=kG Wh.Da Wh.TP x_33
  let DQ:=y_34.1.2
  let NU:List (List UInt8):=y_34.2
  some ((NU,DQ),())
 else none
def Wh.FN:=en Wh.A7
theorem Wh.G7:OV Wh.A7 Wh.FN:=eB _
abbrev Wh.OM:Type:=((Int)×(Int)×(List UInt8)×(Unit)×(Int))×((List (List UInt8)))
abbrev Wh.YZ:Type:=((((Int)×(List UInt8)×(Unit))×((List (List UInt8)))))
def Wh.zo (x:Wh.OM):Option (Wh.OM⊕Wh.YZ):=
 let gT:=x.1.1
 let Fu:=x.1.2.1
 let E6:List UInt8:=(x.1.2.2).1
 let Nj:=x.1.2.2.2.2
 let x6:List (List UInt8):=x.2
 let nI:=decide (gT<(↑(List.length E6):Int))
 bif nI then
  let w8:Int:=(↑(UInt8.toNat (List.getD E6 (Int.toNat gT) (0:UInt8))):Int)
  let yl:=w8==Nj
  bif iy [decide ((0:Int)≤gT),nI] then
   bif yl then
    let AU:List (List UInt8):=[List.take (Int.toNat (gT-Fu)) (List.drop (Int.toNat Fu) E6)]
    let A4:List (List UInt8):=x6++AU
    bif iy [decide (List.length x6+(1:Nat)≤dh),decide ((0:Int)≤Fu),decide (Fu≤gT),decide (gT≤(↑(List.length E6):Int))] then
     let so:=IntKind.wrap .i64 (gT+(1:Int))
     some (.inl ((so,so,E6,(),Nj),A4))
    else none
   else
    some (.inl (((IntKind.wrap .i64 (gT+(1:Int))),Fu,E6,(),Nj),x6))
  else none
 else
  some (.inr ((Fu,E6,()),x6))
def Wh.TM:(((Int)×(List UInt8)×(Unit))×((List (List UInt8)))):=default
def Wh.Cb (xs:(List UInt8)×(Int)):Option (((List (List UInt8)))×(Unit)):=
 let fk:=xs.1
 let zw:=xs.2
 let As:Wh.OM:=(((0:Int),(0:Int),fk,(),zw),[])
 bif lF Wh.zo As then
  let zM:=kG Wh.zo Wh.TM As
  let Ko:=zM.1.1
  let HB:=zM.1.2.1
  let y8:List (List UInt8):=zM.2
  let xS:List (List UInt8):=[List.take (Int.toNat ((↑(List.length HB):Int)-Ko)) (List.drop (Int.toNat Ko) HB)]
  let x7:List (List UInt8):=y8++xS
  bif iy [decide (List.length y8+(1:Nat)≤dh),decide ((0:Int)≤Ko),decide (Ko≤(↑(List.length HB):Int)),decide ((↑(List.length HB):Int)≤(↑(List.length HB):Int))] then
   some (x7,())
  else none
 else none
def Wh.OL:=en Wh.Cb
theorem Wh.ON:OV Wh.Cb Wh.OL:=eB _
abbrev Wh.OG:Type:=((Int)×(List UInt8))×(Unit)
abbrev Wh.YV:Type:=((((Bool))×(Unit))⊕(((List UInt8))×(Unit)))
def Wh.Ca (x:Wh.OG):Option (Wh.OG⊕Wh.YV):=
 let zU:=x.1.1
 let LK:=x.1.2
 let yT:=decide (zU<(↑(List.length LK):Int))
 bif yT then
  let yU:Int:=(↑(UInt8.toNat (List.getD LK (Int.toNat zU) (0:UInt8))):Int)
  let yj:=bif decide (yU<(97:Int)) then true else decide (yU>(122:Int))
  bif iy [!!decide (yU<(97:Int)) || decide ((0:Int)≤zU),!!decide (yU<(97:Int)) || yT,decide ((0:Int)≤zU),yT] then
   bif yj then
    some (.inr (.inl (false,())))
   else
    some (.inl (((IntKind.wrap .i64 (zU+(1:Int))),LK),()))
  else none
 else
  some (.inr (.inr (LK,())))
def Wh.TF:(((Bool))×(Unit))⊕(((List UInt8))×(Unit)):=.inl default
def Wh.Eu (xs:(List UInt8)):Option (((Bool))×(Unit)):=
 let yK:=xs
 let x_17:Wh.OG:=(((0:Int),yK),())
 bif lF Wh.Ca x_17 then
  sumC (kG Wh.Ca Wh.TF x_17) (fun Ff=>
   let nI:=Ff.1
   some (nI,())) (fun H6=>
   let Vl:=H6.1
   let r_22:=Wh.yh ((↑(List.length Vl):Int),(1:Int),(6:Int))
   bif iy [nQ (Wh.xW ((↑(List.length Vl):Int),(1:Int),(6:Int)))] then
    some (r_22.1,())
   else none)
 else none
def Wh.OF:=en Wh.Eu
theorem Wh.TG:OV Wh.Eu Wh.OF:=eB _
def Wh.BF (xs:(an.D)):Option (((Bool))×(Unit)):=
 let t_0:an.D:=xs
 let r_1:=Wh.yh (t_0.1,(0:Int),(1:Int))
 let r_2:=Wh.OF t_0.2.1
 let yD:=Wh.yh ((↑(List.length ((t_0.2.2.2).1)):Int),(1:Int),(300:Int))
 let y3:=bif bif r_1.1 then r_2.1 else false then yD.1 else false
 bif iy [(!bif r_1.1 then r_2.1 else false) || nQ (Wh.xW ((↑(List.length ((t_0.2.2.2).1)):Int),(1:Int),(300:Int))),!r_1.1 || nQ (Wh.Eu t_0.2.1),nQ (Wh.xW (t_0.1,(0:Int),(1:Int)))] then
  some (y3,())
 else none
def Wh.FU:=en Wh.BF
theorem Wh.Dm:OV Wh.BF Wh.FU:=eB _
def Wh.q40 (xs:(Int)×(List UInt8)×(List UInt8)):Option (((List UInt8))×(Unit)):=
 let CS:=xs.1
 let yN:=xs.2.1
 let Ar:=xs.2.2
 let s4:=Ar == []
 bif s4 then
  let gz:=Wh.FU (CS,yN,(0:Int),[(120:UInt8)],())
  bif iy [nQ (Wh.BF (CS,yN,(0:Int),[(120:UInt8)],()))] then
   bif !gz.1 then
    some ([],())
   else
    let yD:xT.D:=Wh.A8 CS
    let z_:=yD.1 ++ [(32:UInt8)]++yN ++ [(58:UInt8)]++Ar
    bif iy [decide (List.length (yD.1 ++ [(32:UInt8)]++yN ++ [(58:UInt8)])+List.length Ar≤dh),decide (List.length (yD.1 ++ [(32:UInt8)]++yN)+(1:Nat)≤dh),decide (List.length (yD.1 ++ [(32:UInt8)])+List.length yN≤dh),decide (List.length yD.1+(1:Nat)≤dh),nQ (Wh.BE CS)] then
     some (z_,())
    else none
  else none
 else
  let r_11:=Wh.FU (CS,yN,(0:Int),Ar,())
  bif iy [nQ (Wh.BF (CS,yN,(0:Int),Ar,()))] then
   bif !r_11.1 then
    some ([],())
   else
    let y_:xT.D:=Wh.A8 CS
    let x5:=y_.1 ++ [(32:UInt8)]++yN ++ [(58:UInt8)]++Ar
    bif iy [decide (List.length (y_.1 ++ [(32:UInt8)]++yN ++ [(58:UInt8)])+List.length Ar≤dh),decide (List.length (y_.1 ++ [(32:UInt8)]++yN)+(1:Nat)≤dh),decide (List.length (y_.1 ++ [(32:UInt8)])+List.length yN≤dh),decide (List.length y_.1+(1:Nat)≤dh),nQ (Wh.BE CS)] then
     some (x5,())
    else none
  else none
def Wh.q40':=en Wh.q40
theorem Wh.PK:OV Wh.q40 Wh.q40':=eB _
def Wh.Ev (xs:(an.D)×(Int)×(List UInt8)):Option (((Bool))×(Unit)):=
 let bx:an.D:=xs.1
 let w9:=xs.2.1
 let yy:=xs.2.2
 let vN:=bif decide (bx.1<w9) then true else bif bx.1==w9 then Go.Op.bytesLess bx.2.1 yy else false
 some (vN,())
def Wh.K4:=en Wh.Ev
theorem Wh.K5:OV Wh.Ev Wh.K4:=eB _
abbrev Wh.Qu:Type:=((Int)×(List (an.D))×(Int)×(Int))×(Unit)
abbrev Wh.Z0:Type:=((((Int))×(Unit)))
def Wh.CH (x:Wh.Qu):Option (Wh.Qu⊕Wh.Z0):=
 let gT:=x.1.1
 let KB:List (an.D):=x.1.2.1
 let Ek:Int:=(x.1.2.2).1
 let Ea:=x.1.2.2.2
 let n5:Int:=(↑(List.length KB):Int)
 bif decide (gT<n5) then
  let w8:an.D:=List.getD KB (Int.toNat gT) ((0:Int),[],(0:Int),[],())
  bif iy [decide ((0:Int)≤gT),decide (gT<n5)] then
   bif(w8.1==Ea) then
    bif iy [decide ((0:Int)≤gT),decide (gT<n5)] then
     some (.inl (((IntKind.wrap .i64 (gT+(1:Int))),KB,(IntKind.wrap .i64 (Ek+(↑(List.length ((w8.2.2.2).1)):Int))),Ea),()))
    else none
   else
    some (.inl (((IntKind.wrap .i64 (gT+(1:Int))),KB,Ek,Ea),()))
  else none
 else
  some (.inr (Ek,()))
def Wh.U2:(((Int))×(Unit)):=default
def Wh.q98 (xs:(List (an.D))×(Int)):Option (((Int))×(Unit)):=
 let list_0:List (an.D):=xs.1
 let w9:=xs.2
 let As:Wh.Qu:=(((0:Int),list_0,(0:Int),w9),())
 bif lF Wh.CH As then
  let zM:=kG Wh.CH Wh.U2 As
  let n_30:=zM.1
  some (n_30,())
 else none
def Wh.Lr:=en Wh.q98
theorem Wh.Lt:OV Wh.q98 Wh.Lr:=eB _
abbrev Wh.O8:Type:=((Int)×(Unit))×((cr.D))
abbrev Wh.Y8:Type:=((((Bool))×(Unit))⊕((Unit)×(Unit)))
def Wh.ED (x:Wh.O8):Option (Wh.O8⊕Wh.Y8):=
 let h_66:=x.1.1
 let GX:cr.D:=x.2
 bif decide (h_66<(2:Int)) then
  let r_69:=Wh.Lr (GX.2.1,h_66)
  bif iy [nQ (Wh.q98 (GX.2.1,h_66))] then
   bif decide (r_69.1>(500:Int)) then
    some (.inr (.inl (false,())))
   else
    some (.inl (((IntKind.wrap .i64 (h_66+(1:Int))),()),GX))
  else none
 else
  some (.inr (.inr ((),())))
def Wh.T5:(((Bool))×(Unit))⊕((Unit)×(Unit)):=.inl default
abbrev Wh.O7:Type:=((Int)×(Unit)×(Unit)×(Int))×((an.D)×(cr.D))
abbrev Wh.Y7:Type:=((((Bool))×(Unit))⊕(((Unit)×(Int))×((cr.D))))
def Wh.De (x:Wh.O7):Option (Wh.O7⊕Wh.Y7):=
 let GQ:=x.1.1
 let i_23:=x.1.2.2.2
 let A4:an.D:=x.2.1
 let KD:cr.D:=x.2.2
 bif decide (GQ<i_23) then
  let DO:an.D:=List.getD KD.2.1 (Int.toNat GQ) ((0:Int),[],(0:Int),[],())
  bif iy [decide ((0:Int)≤GQ),decide (GQ<(↑(List.length KD.2.1):Int))] then
   bif(DO.2.2.1==A4.2.2.1) then
    some (.inr (.inl (false,())))
   else
    some (.inl (((IntKind.wrap .i64 (GQ+(1:Int))),(),(),i_23),A4,KD))
  else none
 else
  some (.inr (.inr (((),i_23),KD)))
def Wh.T4:(((Bool))×(Unit))⊕(((Unit)×(Int))×((cr.D))):=.inl default
abbrev Wh.O6:Type:=((Unit)×(Int))×((cr.D))
abbrev Wh.Y6:Type:=((((Bool))×(Unit))⊕(((Unit))×((cr.D))))
def Wh.Cg (x:Wh.O6):Option (Wh.O6⊕Wh.Y6):=
 let Aw:=x.1.2
 let zf:cr.D:=x.2
 let Fb:Int:=(↑(List.length zf.2.1):Int)
 bif decide (Aw<Fb) then
  let Az:an.D:=List.getD zf.2.1 (Int.toNat Aw) ((0:Int),[],(0:Int),[],())
  bif iy [decide ((0:Int)≤Aw),decide (Aw<Fb)] then
   let Hy:=Wh.FU Az
   let Ly:=Wh.yh (Az.2.2.1,(1:Int),zf.1)
   let r_46:=Wh.K4 (List.getD zf.2.1 (Int.toNat (IntKind.wrap .i64 (Aw-(1:Int)))) ((0:Int),[],(0:Int),[],()),Az.1,Az.2.1)
   let v_47:=bif bif !Hy.1 then true else !Ly.1 then true else bif decide (Aw>(0:Int)) then !r_46.1 else false
   bif iy [!(decide (Aw>(0:Int)) && !bif !Hy.1 then true else !Ly.1) || nQ (Wh.Ev (List.getD zf.2.1 (Int.toNat (IntKind.wrap .i64 (Aw-(1:Int)))) ((0:Int),[],(0:Int),[],()),Az.1,Az.2.1)),!(decide (Aw>(0:Int)) && !bif !Hy.1 then true else !Ly.1) || decide ((0:Int)≤IntKind.wrap .i64 (Aw-(1:Int))),!(decide (Aw>(0:Int)) && !bif !Hy.1 then true else !Ly.1) || decide (IntKind.wrap .i64 (Aw-(1:Int))<Fb),!!!Hy.1 || nQ (Wh.xW (Az.2.2.1,(1:Int),zf.1)),nQ (Wh.BF Az)] then
    bif v_47 then
     some (.inr (.inl (false,())))
    else
     let HR:Wh.O7:=(((0:Int),(),(),Aw),Az,zf)
     bif lF Wh.De HR then
      sumC (kG Wh.De Wh.T4 HR) (fun F_=>
       let BQ:=F_.1
       some (.inr (.inl (BQ,())))) (fun z_50=>
       let i_52:=z_50.1.2
       let ls_53:cr.D:=z_50.2
       some (.inl (((),(IntKind.wrap .i64 (i_52+(1:Int)))),ls_53)))
     else none
   else none
  else none
 else
  some (.inr (.inr ((),zf)))
def Wh.T3:(((Bool))×(Unit))⊕(((Unit))×((cr.D))):=.inl default
def Wh.Dd (xs:(cr.D)):Option (((Bool))×(Unit)):=
 let gv:cr.D:=xs
 let r_1:=Wh.yh (gv.1,(0:Int),(99999:Int))
 let v_2:=bif !r_1.1 then true else decide ((↑(List.length gv.2.1):Int)>(8:Int))
 bif iy [nQ (Wh.xW (gv.1,(0:Int),(99999:Int)))] then
  bif v_2 then
   some (false,())
  else
   let HS:Wh.O6:=(((),(0:Int)),gv)
   bif lF Wh.Cg HS then
    sumC (kG Wh.Cg Wh.T3 HS) (fun y_56=>
     let v_58:=y_56.1
     some (v_58,())) (fun z_57=>
     let ls_59:cr.D:=z_57.2
     let x_72:Wh.O8:=(((0:Int),()),ls_59)
     bif lF Wh.ED x_72 then
      sumC (kG Wh.ED Wh.T5 x_72) (fun y_73=>
       let v_75:=y_73.1
       some (v_75,())) (fun _=>
       some (true,()))
     else none)
   else none
 else none
def Wh.K_:=en Wh.Dd
theorem Wh.FQ:OV Wh.Dd Wh.K_:=eB _
abbrev Wh.Pp:Type:=((Int)×(List UInt8)×(Unit)×(Int))×((cr.D))
abbrev Wh.Zf:Type:=((((Int))×(Unit))⊕((Unit)×(Unit)))
def Wh.Ck (x:Wh.Pp):Option (Wh.Pp⊕Wh.Zf):=
 let CU:=x.1.1
 let Td:=x.1.2.1
 let Kw:=x.1.2.2.2
 let yw:cr.D:=x.2
 let xe:Int:=(↑(List.length yw.2.1):Int)
 bif decide (CU<xe) then
  let nI:an.D:=List.getD yw.2.1 (Int.toNat CU) ((0:Int),[],(0:Int),[],())
  let zL:=bif nI.1==Kw then nI.2.1==Td else false
  bif iy [!nI.1==Kw || decide ((0:Int)≤CU),!nI.1==Kw || decide (CU<xe),decide ((0:Int)≤CU),decide (CU<xe)] then
   bif zL then
    some (.inr (.inl (CU,())))
   else
    some (.inl (((IntKind.wrap .i64 (CU+(1:Int))),Td,(),Kw),yw))
  else none
 else
  some (.inr (.inr ((),())))
def Wh.Uf:(((Int))×(Unit))⊕((Unit)×(Unit)):=.inl default
def Wh.A9 (xs:(cr.D)×(Int)×(List UInt8)):Option (((Int))×(Unit)):=
 let gv:cr.D:=xs.1
 let w9:=xs.2.1
 let yy:=xs.2.2
 let x_25:Wh.Pp:=(((0:Int),yy,(),w9),gv)
 bif lF Wh.Ck x_25 then
  sumC (kG Wh.Ck Wh.Uf x_25) (fun Ac=>
   let nW:=Ac.1
   some (nW,())) (fun _=>
   some ((-1:Int),()))
 else none
def Wh.Le:=en Wh.A9
theorem Wh.Hg:OV Wh.A9 Wh.Le:=eB _
def Wh.BB (xs:(cr.D)):Option ((((Int)×((List (an.D))×(Unit))))×(Unit)):=
 let gv:cr.D:=xs
 let zY:List (an.D):=[]++gv.2.1
 bif iy [decide ((0:Nat)+List.length gv.2.1≤dh)] then
  some ((gv.1,zY,gv.2.2),())
 else none
def Wh.FO:=en Wh.BB
theorem Wh.G8:OV Wh.BB Wh.FO:=eB _
def Wh.Ew (xs:(cr.D)×(Int)):Option ((((Int)×((List (an.D))×(Unit))))×(Unit)):=
 let gv:cr.D:=xs.1
 let k_1:=xs.2
 let pb_2:List (an.D):=[]++List.take (Int.toNat (k_1-(0:Int))) (List.drop (Int.toNat (0:Int)) gv.2.1)
 let pb_3:List (an.D):=pb_2++List.take (Int.toNat ((↑(List.length gv.2.1):Int)-IntKind.wrap .i64 (k_1+(1:Int)))) (List.drop (Int.toNat (IntKind.wrap .i64 (k_1+(1:Int)))) gv.2.1)
 let yp:List (an.D):=List.take (Int.toNat (k_1-(0:Int))) (List.drop (Int.toNat (0:Int)) gv.2.1)
 let vN:=IntKind.wrap .i64 (k_1+(1:Int))
 bif iy [decide (List.length pb_2+List.length (List.take (Int.toNat ((↑(List.length gv.2.1):Int)-vN)) (List.drop (Int.toNat vN) gv.2.1))≤dh),decide ((0:Int)≤vN),decide (vN≤(↑(List.length gv.2.1):Int)),decide ((↑(List.length gv.2.1):Int)≤(↑(List.length gv.2.1):Int)),decide ((0:Nat)+List.length yp≤dh),true,decide ((0:Int)≤k_1),decide (k_1≤(↑(List.length gv.2.1):Int))] then
  some ((gv.1,pb_3,()),())
 else none
def Wh.OT:=en Wh.Ew
theorem Wh.TQ:OV Wh.Ew Wh.OT:=eB _
def Wh.q89 (xs:(cr.D)×(Int)×(List UInt8)):Option ((((Int)×((List (an.D))×(Unit)))×(Int))×(Unit)):=
 let gv:cr.D:=xs.1
 let w9:=xs.2.1
 let yy:=xs.2.2
 let r_3:=Wh.K_ gv
 bif iy [nQ (Wh.Dd gv)] then
  bif !r_3.1 then
   some ((((0:Int),[],()),(1:Int)),())
  else
   let gz:=Wh.Le (gv,w9,yy)
   bif iy [nQ (Wh.A9 (gv,w9,yy))] then
    bif decide (gz.1<(0:Int)) then
     let xb:(cr.D)×Unit:=Wh.FO gv
     bif iy [nQ (Wh.BB gv)] then
      some ((xb.1,(3:Int)),())
     else none
    else
     let nc:(cr.D)×Unit:=Wh.OT (gv,gz.1)
     bif iy [nQ (Wh.Ew (gv,gz.1))] then
      some ((nc.1,(0:Int)),())
     else none
   else none
 else none
def Wh.Lq:=en Wh.q89
theorem Wh.q89_v:OV Wh.q89 Wh.Lq:=eB _
abbrev Wh.Pn:Type:=((Int)×(Unit)×(Unit)×(Unit))×(((Int)×((Unit)×(Unit)))×(cr.D)×(an.D)×(List (an.D)))
abbrev Wh.Ze:Type:=((((Unit)×(Int)×(Unit)×(Unit))×(((Int)×((Unit)×(Unit)))×(cr.D)×(an.D)×(List (an.D)))))
def Wh.Cj (x:Wh.Pn):Option (Wh.Pn⊕Wh.Ze):=
 let Bi:=x.1.1
 let yg:=x.2.1.1
 let AQ:=x.2.1.2.2
 let yw:cr.D:=x.2.2.1
 let we:an.D:=(x.2.2.2).1
 let x6:List (an.D):=x.2.2.2.2
 let nI:Int:=(↑(List.length yw.2.1):Int)
 let zJ:=Wh.K4 (List.getD yw.2.1 (Int.toNat Bi) ((0:Int),[],(0:Int),[],()),we.1,we.2.1)
 let r5:=bif decide (Bi<nI) then zJ.1 else false
 bif iy [!decide (Bi<nI) || nQ (Wh.Ev (List.getD yw.2.1 (Int.toNat Bi) ((0:Int),[],(0:Int),[],()),we.1,we.2.1)),!decide (Bi<nI) || decide ((0:Int)≤Bi),!decide (Bi<nI) || decide (Bi<nI)] then
  bif r5 then
   some (.inl (((IntKind.wrap .i64 (Bi+(1:Int))),(),(),()),(yg,(),AQ),yw,we,x6))
  else
   some (.inr (((),Bi,(),()),(yg,(),AQ),yw,we,x6))
 else none
def Wh.Ud:(((Unit)×(Int)×(Unit)×(Unit))×(((Int)×((Unit)×(Unit)))×(cr.D)×(an.D)×(List (an.D)))):=default
def Wh.EK (xs:(cr.D)×(an.D)):Option ((((Int)×((List (an.D))×(Unit))))×(Unit)):=
 let gv:cr.D:=xs.1
 let t_1:an.D:=xs.2
 let HL:Wh.Pn:=(((0:Int),(),(),()),((0:Int),(),()),gv,t_1,[])
 bif lF Wh.Cj HL then
  let HV:=kG Wh.Cj Wh.Ud HL
  let Bj:=HV.1.2.1
  let y7:cr.D:=HV.2.2.1
  let y8:an.D:=(HV.2.2.2).1
  let KU:=IntKind.wrap .i64 (y7.1+(1:Int))
  let G1:List (an.D):=[]++List.take (Int.toNat (Bj-(0:Int))) (List.drop (Int.toNat (0:Int)) y7.2.1)
  let KV:List (an.D):=[(y8.1,y8.2.1,KU,y8.2.2.2)]
  let pb_38:List (an.D):=G1++KV++List.take (Int.toNat ((↑(List.length y7.2.1):Int)-Bj)) (List.drop (Int.toNat Bj) y7.2.1)
  let Fb:List (an.D):=List.take (Int.toNat (Bj-(0:Int))) (List.drop (Int.toNat (0:Int)) y7.2.1)
  let v_40:List (an.D):=List.take (Int.toNat ((↑(List.length y7.2.1):Int)-Bj)) (List.drop (Int.toNat Bj) y7.2.1)
  bif iy [decide (List.length (G1++KV)+List.length v_40≤dh),decide ((0:Int)≤Bj),decide (Bj≤(↑(List.length y7.2.1):Int)),decide ((↑(List.length y7.2.1):Int)≤(↑(List.length y7.2.1):Int)),decide (List.length G1+(1:Nat)≤dh),decide ((0:Nat)+List.length Fb≤dh),true,decide ((0:Int)≤Bj),decide (Bj≤(↑(List.length y7.2.1):Int))] then
   some ((KU,pb_38,()),())
  else none
 else none
def Wh.Pm:=en Wh.EK
theorem Wh.Ue:OV Wh.EK Wh.Pm:=eB _
def Wh.B_ (xs:(cr.D)×(Int)×(List UInt8)×(List UInt8)):Option ((((Int)×((List (an.D))×(Unit)))×(Int))×(Unit)):=
 let gv:cr.D:=xs.1
 let w9:=xs.2.1
 let yy:=xs.2.2.1
 let BO:=xs.2.2.2
 let gz:=Wh.K_ gv
 bif iy [nQ (Wh.Dd gv)] then
  bif !gz.1 then
   some ((((0:Int),[],()),(1:Int)),())
  else
   let yD:=Wh.FU (w9,yy,(0:Int),BO,())
   bif iy [nQ (Wh.BF (w9,yy,(0:Int),BO,()))] then
    bif !yD.1 then
     let xb:(cr.D)×Unit:=Wh.FO gv
     bif iy [nQ (Wh.BB gv)] then
      some ((xb.1,(1:Int)),())
     else none
    else
     let nc:=Wh.Le (gv,w9,yy)
     bif iy [nQ (Wh.A9 (gv,w9,yy))] then
      bif decide (nc.1≥(0:Int)) then
       let AW:(cr.D)×Unit:=Wh.FO gv
       bif iy [nQ (Wh.BB gv)] then
        some ((AW.1,(2:Int)),())
       else none
      else
       let yT:Int:=(↑(List.length gv.2.1):Int)
       let Hu:=Wh.Lr (gv.2.1,w9)
       let xe:=bif bif decide (yT≥(8:Int)) then true else decide (gv.1≥(99999:Int)) then true else decide (IntKind.wrap .i64 (Hu.1+(↑(List.length BO):Int))>(500:Int))
       bif iy [(!!bif decide (yT≥(8:Int)) then true else decide (gv.1≥(99999:Int))) || nQ (Wh.q98 (gv.2.1,w9))] then
        bif xe then
         let r_19:(cr.D)×Unit:=Wh.FO gv
         bif iy [nQ (Wh.BB gv)] then
          some ((r_19.1,(4:Int)),())
         else none
        else
         let yJ:(cr.D)×Unit:=Wh.Pm (gv,w9,yy,(0:Int),BO,())
         bif iy [nQ (Wh.EK (gv,w9,yy,(0:Int),BO,()))] then
          some ((yJ.1,(0:Int)),())
         else none
       else none
     else none
   else none
 else none
def Wh.KX:=en Wh.B_
theorem Wh.TD:OV Wh.B_ Wh.KX:=eB _
def Wh.BD (xs:(cr.D)×(List UInt8)):Option ((((Int)×((List (an.D))×(Unit)))×(Bool))×(Unit)):=
 let gv:cr.D:=xs.1
 let s_1:=xs.2
 let r_2:=Wh.G5 (s_1,(0:Int),(58:Int))
 bif iy [nQ (Wh.yZ (s_1,(0:Int),(58:Int)))] then
  bif decide (r_2.1<(0:Int)) then
   some ((((0:Int),[],()),false),())
  else
   let gz:List (List UInt8)×Unit:=Wh.OL (List.take (Int.toNat (r_2.1-(0:Int))) (List.drop (Int.toNat (0:Int)) s_1),(32:Int))
   let vN:List UInt8:=List.take (Int.toNat (r_2.1-(0:Int))) (List.drop (Int.toNat (0:Int)) s_1)
   bif iy [nQ (Wh.Cb (vN,(32:Int))),true,decide ((0:Int)≤r_2.1),decide (r_2.1≤(↑(List.length s_1):Int))] then
    let xY:=IntKind.wrap .i64 (r_2.1+(1:Int))
    let CL:List UInt8:=List.take (Int.toNat ((↑(List.length s_1):Int)-xY)) (List.drop (Int.toNat xY) s_1)
    bif iy [decide ((0:Int)≤xY),decide (xY≤(↑(List.length s_1):Int)),decide ((↑(List.length s_1):Int)≤(↑(List.length s_1):Int))] then
     let x_:Int:=(↑(List.length gz.1):Int)
     let y_:=Wh.Hf (List.getD gz.1 (Int.toNat (0:Int)) [])
     let DK:xT.D:=Wh.q40' (y_.1,List.getD gz.1 (Int.toNat (1:Int)) [],CL)
     let ov:=bif x_ != (2:Int) then true else !DK.1==s_1
     bif iy [!!x_ != (2:Int) || nQ (Wh.q40 (y_.1,List.getD gz.1 (Int.toNat (1:Int)) [],CL)),!!x_ != (2:Int) || decide ((0:Int)≤(1:Int)),!!x_ != (2:Int) || decide ((1:Int)<x_),!!x_ != (2:Int) || nQ (Wh.AD (List.getD gz.1 (Int.toNat (0:Int)) [])),!!x_ != (2:Int) || decide ((0:Int)≤(0:Int)),!!x_ != (2:Int) || decide ((0:Int)<x_)] then
      bif ov then
       some ((((0:Int),[],()),false),())
      else
       let yj:=CL == []
       bif yj then
        let Hu:((cr.D)×Int)×Unit:=Wh.Lq (gv,y_.1,List.getD gz.1 (Int.toNat (1:Int)) [])
        let n5:=List.getD gz.1 (Int.toNat (0:Int)) []
        let nI:=List.getD gz.1 (Int.toNat (1:Int)) []
        let r_30:((cr.D)×Int)×Unit:=Wh.Lq (gv,y_.1,nI)
        bif iy [nQ (Wh.q89 (gv,y_.1,nI)),true,decide ((1:Int)<x_),nQ (Wh.AD n5),true,decide ((0:Int)<x_)] then
         some (((Hu.1.1.1,(Hu.1.1.2).1,Hu.1.1.2.2),(r_30.1.2==(0:Int))),())
        else none
       else
        let nS:((cr.D)×Int)×Unit:=Wh.KX (gv,y_.1,List.getD gz.1 (Int.toNat (1:Int)) [],CL)
        let DQ:=List.getD gz.1 (Int.toNat (0:Int)) []
        let ym:=List.getD gz.1 (Int.toNat (1:Int)) []
        let r_46:((cr.D)×Int)×Unit:=Wh.KX (gv,y_.1,ym,CL)
        bif iy [nQ (Wh.B_ (gv,y_.1,ym,CL)),true,decide ((1:Int)<x_),nQ (Wh.AD DQ),true,decide ((0:Int)<x_)] then
         some (((nS.1.1.1,(nS.1.1.2).1,nS.1.1.2.2),(r_46.1.2==(0:Int))),())
        else none
     else none
    else none
   else none
 else none
def Wh.K0:=en Wh.BD
theorem Wh.K3:OV Wh.BD Wh.K0:=eB _
abbrev Wh.O4:Type:=((Unit)×(Int)×(Unit)×(List (List UInt8)))×(((Int)×((Unit)×(Unit)))×((Int)×((Unit)×(Unit)))×(List (an.D))×(List (an.D)))
abbrev Wh.Y5:Type:=((((Unit)×(Bool))×(((Int)×((Unit)×(Unit)))×(List (an.D))))⊕(((Unit)×(Unit))×(((Int)×((Unit)×(Unit)))×((Int)×((Unit)×(Unit)))×(List (an.D))×(List (an.D)))))
def Wh.Cf (x:Wh.O4):Option (Wh.O4⊕Wh.Y5):=
 let gT:=x.1.2.1
 let LD:List (List UInt8):=x.1.2.2.2
 let yw:=x.2.1.1
 let we:=x.2.1.2.2
 let x6:=x.2.2.1.1
 let zk:Unit:=(x.2.2.1).2.2
 let y5:List (an.D):=(x.2.2.2).1
 let y6:List (an.D):=x.2.2.2.2
 let zL:Int:=(↑(List.length LD):Int)
 bif decide (gT<zL) then
  let nC:((cr.D)×Bool)×Unit:=Wh.K0 ((x6,y6,zk),List.getD LD (Int.toNat gT) [])
  let so:=List.getD LD (Int.toNat gT) []
  bif iy [nQ (Wh.BD ((x6,y6,zk),so)),decide ((0:Int)≤gT),decide (gT<zL)] then
   bif(!nC.1.2) then
    some (.inr (.inl (((),false),((0:Int),(),()),[])))
   else
    some (.inl (((),(IntKind.wrap .i64 (gT+(1:Int))),(),LD),(yw,(),we),(nC.1.1.1,(),nC.1.1.2.2),y5,(nC.1.1.2).1))
  else none
 else
  some (.inr (.inr (((),()),(yw,(),we),(x6,(),zk),y5,y6)))
def Wh.T0:(((Unit)×(Bool))×(((Int)×((Unit)×(Unit)))×(List (an.D))))⊕(((Unit)×(Unit))×(((Int)×((Unit)×(Unit)))×((Int)×((Unit)×(Unit)))×(List (an.D))×(List (an.D)))):=.inl default
def Wh.Dc (xs:(List (List UInt8))):Option ((((Int)×((List (an.D))×(Unit)))×(Bool))×(Unit)):=
 let LC:List (List UInt8):=xs
 let HN:Wh.O4:=(((),(0:Int),(),LC),((0:Int),(),()),((0:Int),(),()),[],[])
 bif lF Wh.Cf HN then
  sumC (kG Wh.Cf Wh.T0 HN) (fun F8=>
   let AJ:=F8.1.2
   let zW:=F8.2.1.1
   let x7:=F8.2.1.2.2
   let Ao:List (an.D):=F8.2.2
   some (((zW,Ao,x7),AJ),())) (fun z_31=>
   let zf:=z_31.2.2.1.1
   let C3:Unit:=(z_31.2.2.1).2.2
   let ls_41:List (an.D):=z_31.2.2.2.2
   some (((zf,ls_41,C3),true),()))
 else none
def Wh.K9:=en Wh.Dc
theorem Wh.O5:OV Wh.Dc Wh.K9:=eB _
def Wh.q93 (xs:(ct.D)):Option (((Bool))×(Unit)):=
 let fk:ct.D:=xs
 let r_1:(List (List UInt8)×Int)×Unit:=Wh.FN (fk.2.2.1)
 bif iy [nQ (Wh.A7 (fk.2.2.1))] then
  let r_2:((cr.D)×Bool)×Unit:=Wh.K9 r_1.1.1
  bif iy [nQ (Wh.Dc r_1.1.1)] then
   some (r_2.1.2,())
  else none
 else none
def Wh.q93':=en Wh.q93
theorem Wh.q93_v:OV Wh.q93 Wh.q93':=eB _
abbrev Wh.Qn:Type:=((Int)×(Unit)×(Unit))×((cr.D)×(cr.D))
abbrev Wh.ZU:Type:=((((Bool))×(Unit))⊕((Unit)×(Unit)))
def Wh.CF (x:Wh.Qn):Option (Wh.Qn⊕Wh.ZU):=
 let zy:=x.1.1
 let yC:cr.D:=x.2.1
 let yg:cr.D:=x.2.2
 let xO:Int:=(↑(List.length yg.2.1):Int)
 bif decide (zy<xO) then
  let xe:an.D:=List.getD yg.2.1 (Int.toNat zy) ((0:Int),[],(0:Int),[],())
  let n5:an.D:=List.getD yC.2.1 (Int.toNat zy) ((0:Int),[],(0:Int),[],())
  bif iy [decide ((0:Int)≤zy),decide (zy<(↑(List.length yC.2.1):Int)),decide ((0:Int)≤zy),decide (zy<xO)] then
   bif(!(xe.1==n5.1&&(xe.2.1==n5.2.1&&(xe.2.2.1==n5.2.2.1&&((xe.2.2.2).1==(n5.2.2.2).1&&true))))) then
    some (.inr (.inl (false,())))
   else
    some (.inl (((IntKind.wrap .i64 (zy+(1:Int))),(),()),yC,yg))
  else none
 else
  some (.inr (.inr ((),())))
def Wh.UX:(((Bool))×(Unit))⊕((Unit)×(Unit)):=.inl default
def Wh.CE (xs:(cr.D)×(cr.D)):Option (((Bool))×(Unit)):=
 let bx:cr.D:=xs.1
 let b_1:cr.D:=xs.2
 let s4:=bif(bx.1 != b_1.1) then true else(↑(List.length bx.2.1):Int) != (↑(List.length b_1.2.1):Int)
 bif s4 then
  some (false,())
 else
  let x_22:Wh.Qn:=(((0:Int),(),()),b_1,bx)
  bif lF Wh.CF x_22 then
   sumC (kG Wh.CF Wh.UX x_22) (fun y_23=>
    let AI:=y_23.1
    some (AI,())) (fun _=>
    some (true,()))
  else none
def Wh.q92':=en Wh.CE
theorem Wh.q92_v:OV Wh.CE Wh.q92':=eB _
def Wh.Df (xs:(e_.D)):Option (((Bool))×(Unit)):=
 let Ai:e_.D:=xs
 bif(Ai.2.1==(0:Int)) then
  some ((Ai.1==(0:Int)&&(Ai.2.1==(0:Int)&&(Ai.2.2.1==(0:Int)&&((Ai.2.2.2).1==(0:Int)&&(Ai.2.2.2.2.1==false&&true))))),())
 else
  let r_3:=Wh.yh (Ai.1,(0:Int),(1:Int))
  let gz:=Wh.yh (Ai.2.1,(1:Int),(99999:Int))
  let nc:=Wh.yh (Ai.2.2.1,(0:Int),(23:Int))
  let AW:=Wh.yh ((Ai.2.2.2).1,(0:Int),(99999:Int))
  let yU:=bif bif bif r_3.1 then gz.1 else false then nc.1 else false then AW.1 else false
  bif iy [(!bif bif r_3.1 then gz.1 else false then nc.1 else false) || nQ (Wh.xW ((Ai.2.2.2).1,(0:Int),(99999:Int))),(!bif r_3.1 then gz.1 else false) || nQ (Wh.xW (Ai.2.2.1,(0:Int),(23:Int))),!r_3.1 || nQ (Wh.xW (Ai.2.1,(1:Int),(99999:Int))),nQ (Wh.xW (Ai.1,(0:Int),(1:Int)))] then
   some (yU,())
  else none
def Wh.Pb:=en Wh.Df
theorem Wh.La:OV Wh.Df Wh.Pb:=eB _
abbrev Wh.Pa:Type:=((Int)×(Int)×(Int)×(Unit))×((gd.D))
abbrev Wh.Y9:Type:=((((Int))×(Unit)))
def Wh.Ch (x:Wh.Pa):Option (Wh.Pa⊕Wh.Y9):=
 let gT:=x.1.1
 let Ej:=x.1.2.1
 let D_:Int:=(x.1.2.2).1
 let we:gd.D:=x.2
 let n5:Int:=(↑(List.length we.1):Int)
 bif decide (gT<n5) then
  let w8:e_.D:=List.getD we.1 (Int.toNat gT) ((0:Int),(0:Int),(0:Int),(0:Int),false,())
  let r5:=bif decide (w8.2.1>(0:Int)) then w8.1==D_ else false
  bif iy [!decide (w8.2.1>(0:Int)) || decide ((0:Int)≤gT),!decide (w8.2.1>(0:Int)) || decide (gT<n5),decide ((0:Int)≤gT),decide (gT<n5)] then
   bif r5 then
    some (.inl (((IntKind.wrap .i64 (gT+(1:Int))),(IntKind.wrap .i64 (Ej+(1:Int))),D_,()),we))
   else
    some (.inl (((IntKind.wrap .i64 (gT+(1:Int))),Ej,D_,()),we))
  else none
 else
  some (.inr (Ej,()))
def Wh.T7:(((Int))×(Unit)):=default
def Wh.EG (xs:(gd.D)×(Int)):Option (((Int))×(Unit)):=
 let xR:gd.D:=xs.1
 let w9:=xs.2
 let As:Wh.Pa:=(((0:Int),(0:Int),w9,()),xR)
 bif lF Wh.Ch As then
  let zM:=kG Wh.Ch Wh.T7 As
  let n_30:=zM.1
  some (n_30,())
 else none
def Wh.O_:=en Wh.EG
theorem Wh.FR:OV Wh.EG Wh.O_:=eB _
abbrev Wh.OK:Type:=((Int)×(Unit))×((gd.D))
abbrev Wh.YY:Type:=((((Bool))×(Unit))⊕((Unit)×(Unit)))
def Wh.By (x:Wh.OK):Option (Wh.OK⊕Wh.YY):=
 let h_67:=x.1.1
 let N1:gd.D:=x.2
 bif decide (h_67<(2:Int)) then
  let r_70:=Wh.O_ (N1,h_67)
  bif iy [nQ (Wh.EG (N1,h_67))] then
   bif decide (r_70.1>(5:Int)) then
    some (.inr (.inl (false,())))
   else
    some (.inl (((IntKind.wrap .i64 (h_67+(1:Int))),()),N1))
  else none
 else
  some (.inr (.inr ((),())))
def Wh.TK:(((Bool))×(Unit))⊕((Unit)×(Unit)):=.inl default
abbrev Wh.OJ:Type:=((Int)×(Unit)×(Int))×((gd.D))
abbrev Wh.YX:Type:=((((Bool))×(Unit))⊕(((Unit)×(Int))×((gd.D))))
def Wh.Aq (x:Wh.OJ):Option (Wh.OJ⊕Wh.YX):=
 let AO:=x.1.1
 let Bh:=x.1.2.2
 let An:gd.D:=x.2
 bif decide (AO<Bh) then
  let nW:e_.D:=List.getD An.1 (Int.toNat Bh) ((0:Int),(0:Int),(0:Int),(0:Int),false,())
  let AK:=bif bif decide (nW.2.1>(0:Int)) then nW.2.1==Prod.fst (Prod.snd (List.getD An.1 (Int.toNat AO) ((0:Int),(0:Int),(0:Int),(0:Int),false,()))) else false then nW.2.2.1==Prod.fst (Prod.snd (Prod.snd (List.getD An.1 (Int.toNat AO) ((0:Int),(0:Int),(0:Int),(0:Int),false,())))) else false
  bif iy [(!bif decide (nW.2.1>(0:Int)) then nW.2.1==Prod.fst (Prod.snd (List.getD An.1 (Int.toNat AO) ((0:Int),(0:Int),(0:Int),(0:Int),false,()))) else false) || decide ((0:Int)≤AO),(!bif decide (nW.2.1>(0:Int)) then nW.2.1==Prod.fst (Prod.snd (List.getD An.1 (Int.toNat AO) ((0:Int),(0:Int),(0:Int),(0:Int),false,()))) else false) || decide (AO<(↑(List.length An.1):Int)),(!bif decide (nW.2.1>(0:Int)) then nW.2.1==Prod.fst (Prod.snd (List.getD An.1 (Int.toNat AO) ((0:Int),(0:Int),(0:Int),(0:Int),false,()))) else false) || decide ((0:Int)≤Bh),(!bif decide (nW.2.1>(0:Int)) then nW.2.1==Prod.fst (Prod.snd (List.getD An.1 (Int.toNat AO) ((0:Int),(0:Int),(0:Int),(0:Int),false,()))) else false) || decide (Bh<(↑(List.length An.1):Int)),!decide (nW.2.1>(0:Int)) || decide ((0:Int)≤AO),!decide (nW.2.1>(0:Int)) || decide (AO<(↑(List.length An.1):Int)),!decide (nW.2.1>(0:Int)) || decide ((0:Int)≤Bh),!decide (nW.2.1>(0:Int)) || decide (Bh<(↑(List.length An.1):Int)),decide ((0:Int)≤Bh),decide (Bh<(↑(List.length An.1):Int))] then
   bif AK then
    some (.inr (.inl (false,())))
   else
    some (.inl (((IntKind.wrap .i64 (AO+(1:Int))),(),Bh),An))
  else none
 else
  some (.inr (.inr (((),Bh),An)))
def Wh.TJ:(((Bool))×(Unit))⊕(((Unit)×(Int))×((gd.D))):=.inl default
abbrev Wh.OI:Type:=((Unit)×(Int))×((gd.D))
abbrev Wh.YW:Type:=((((Bool))×(Unit))⊕(((Unit))×((gd.D))))
def Wh.Bx (x:Wh.OI):Option (Wh.OI⊕Wh.YW):=
 let GO:=x.1.2
 let FB:gd.D:=x.2
 let v_44:Int:=(↑(List.length FB.1):Int)
 bif decide (GO<v_44) then
  let v_46:e_.D:=List.getD FB.1 (Int.toNat GO) ((0:Int),(0:Int),(0:Int),(0:Int),false,())
  let r_48:=Wh.Pb v_46
  bif iy [nQ (Wh.Df v_46),decide ((0:Int)≤GO),decide (GO<v_44)] then
   bif !r_48.1 then
    some (.inr (.inl (false,())))
   else
    let x_49:Wh.OJ:=(((0:Int),(),GO),FB)
    bif lF Wh.Aq x_49 then
     sumC (kG Wh.Aq Wh.TJ x_49) (fun y_50=>
      let v_52:=y_50.1
      some (.inr (.inl (v_52,())))) (fun z_51=>
      let i_53:=z_51.1.2
      let NX:gd.D:=z_51.2
      some (.inl (((),(IntKind.wrap .i64 (i_53+(1:Int)))),NX)))
    else none
  else none
 else
  some (.inr (.inr ((),FB)))
def Wh.TH:(((Bool))×(Unit))⊕(((Unit))×((gd.D))):=.inl default
def Wh.C9 (xs:(gd.D)):Option (((Bool))×(Unit)):=
 let xR:gd.D:=xs
 let v_1:Int:=(↑(List.length xR.1):Int)
 let gz:=Wh.yh (xR.2.1,(0:Int),(7:Int))
 let vN:=bif v_1 != (8:Int) then true else !gz.1
 bif iy [!!v_1 != (8:Int) || nQ (Wh.xW (xR.2.1,(0:Int),(7:Int)))] then
  bif vN then
   some (false,())
  else
   let x_56:Wh.OI:=(((),(0:Int)),xR)
   bif lF Wh.Bx x_56 then
    sumC (kG Wh.Bx Wh.TH x_56) (fun y_57=>
     let v_59:=y_57.1
     some (v_59,())) (fun z_58=>
     let ls_60:gd.D:=z_58.2
     let x_73:Wh.OK:=(((0:Int),()),ls_60)
     bif lF Wh.By x_73 then
      sumC (kG Wh.By Wh.TK x_73) (fun y_74=>
       let v_76:=y_74.1
       some (v_76,())) (fun _=>
       some (true,()))
     else none)
   else none
 else none
def Wh.OH:=en Wh.C9
theorem Wh.TL:OV Wh.C9 Wh.OH:=eB _
abbrev Wh.PM:Type:=((Unit)×(Int)×(Unit)×(Int))×(((Int)×((List UInt8)×((Int)×((List UInt8)×(Unit)))))×(cr.D))
abbrev Wh.Zu:Type:=((((Unit)×(Bool))×((an.D)))⊕(((Unit))×(((Int)×((List UInt8)×((Int)×((List UInt8)×(Unit))))))))
def Wh.Cw (x:Wh.PM):Option (Wh.PM⊕Wh.Zu):=
 let gT:=x.1.2.1
 let GK:=x.1.2.2.2
 let yw:=x.2.1.1
 let we:List UInt8:=(x.2.1.2).1
 let x6:=x.2.1.2.2.1
 let zk:List UInt8:=(x.2.1.2.2.2).1
 let y5:Unit:=(x.2.1.2.2.2).2
 let y6:cr.D:=x.2.2
 let zL:Int:=(↑(List.length y6.2.1):Int)
 bif decide (gT<zL) then
  let AI:an.D:=List.getD y6.2.1 (Int.toNat gT) ((0:Int),[],(0:Int),[],())
  bif iy [decide ((0:Int)≤gT),decide (gT<zL)] then
   bif(AI.2.2.1==GK) then
    bif iy [decide ((0:Int)≤gT),decide (gT<zL)] then
     some (.inr (.inl (((),true),AI)))
    else none
   else
    some (.inl (((),(IntKind.wrap .i64 (gT+(1:Int))),(),GK),(yw,we,x6,zk,y5),y6))
  else none
 else
  some (.inr (.inr ((),yw,we,x6,zk,y5)))
def Wh.Uw:(((Unit)×(Bool))×((an.D)))⊕(((Unit))×(((Int)×((List UInt8)×((Int)×((List UInt8)×(Unit))))))):=.inl default
def Wh.q42 (xs:(cr.D)×(Int)):Option (((an.D)×(Bool))×(Unit)):=
 let gv:cr.D:=xs.1
 let Fs:=xs.2
 let As:Wh.PM:=(((),(0:Int),(),Fs),((0:Int),[],(0:Int),[],()),gv)
 bif lF Wh.Cw As then
  sumC (kG Wh.Cw Wh.Uw As) (fun zM=>
   let Fa:=zM.1.2
   let y8:an.D:=zM.2
   some ((y8,Fa),())) (fun _=>
   some ((((0:Int),[],(0:Int),[],()),false),()))
 else none
def Wh.Ll:=en Wh.q42
theorem Wh.Dy:OV Wh.q42 Wh.Ll:=eB _
def Wh.q68 (xs:(Int)):Option (((Int))×(Unit)):=
 let Nq:=xs
 some ((Int.tmod Nq (2:Int)),())
def Wh.q68':=en Wh.q68
theorem Wh.Qb:OV Wh.q68 Wh.q68':=eB _
abbrev Wh.PL:Type:=((Int)×(Unit))×((ct.D))
abbrev Wh.Zt:Type:=((((Bool))×(Unit))⊕((Unit)×(Unit)))
def Wh.BG (x:Wh.PL):Option (Wh.PL⊕Wh.Zt):=
 let yd:=x.1.1
 let zV:ct.D:=x.2
 let za:Int:=(↑(List.length ((zV.2.2.2.2.2).2.1)):Int)
 bif decide (yd<za) then
  let th:fT.D:=List.getD ((zV.2.2.2.2.2).2.1) (Int.toNat yd) ((0:Int),(0:Int),(0:Int),(0:Int),(0:Int),(0:Int),())
  bif iy [decide ((0:Int)≤yd),decide (yd<za)] then
   let nS:=Wh.yh (th.1,(0:Int),(3:Int))
   let Hw:=Wh.yh (th.2.1,(1:Int),(99999:Int))
   let CI:=Wh.yh (th.2.2.1,(1:Int),(zV.2.2.2).1.1)
   let CJ:=Wh.yh ((th.2.2.2).1,(0:Int),(9999:Int))
   let Hz:=Wh.yh (th.2.2.2.2.1,(0:Int),(3:Int))
   let HA:=Wh.yh ((th.2.2.2.2.2).1,(0:Int),zV.2.1)
   let v_48:=bif bif bif bif bif bif !nS.1 then true else bif decide (yd>(0:Int)) then decide (Prod.fst (List.getD ((zV.2.2.2.2.2).2.1) (Int.toNat (IntKind.wrap .i64 (yd-(1:Int)))) ((0:Int),(0:Int),(0:Int),(0:Int),(0:Int),(0:Int),()))≥th.1) else false then true else !Hw.1 then true else !CI.1 then true else !CJ.1 then true else !Hz.1 then true else !HA.1
   bif iy [(!!bif bif bif bif bif !nS.1 then true else bif decide (yd>(0:Int)) then decide (Prod.fst (List.getD ((zV.2.2.2.2.2).2.1) (Int.toNat (IntKind.wrap .i64 (yd-(1:Int)))) ((0:Int),(0:Int),(0:Int),(0:Int),(0:Int),(0:Int),()))≥th.1) else false then true else !Hw.1 then true else !CI.1 then true else !CJ.1 then true else !Hz.1) || nQ (Wh.xW ((th.2.2.2.2.2).1,(0:Int),zV.2.1)),(!!bif bif bif bif !nS.1 then true else bif decide (yd>(0:Int)) then decide (Prod.fst (List.getD ((zV.2.2.2.2.2).2.1) (Int.toNat (IntKind.wrap .i64 (yd-(1:Int)))) ((0:Int),(0:Int),(0:Int),(0:Int),(0:Int),(0:Int),()))≥th.1) else false then true else !Hw.1 then true else !CI.1 then true else !CJ.1) || nQ (Wh.xW (th.2.2.2.2.1,(0:Int),(3:Int))),(!!bif bif bif !nS.1 then true else bif decide (yd>(0:Int)) then decide (Prod.fst (List.getD ((zV.2.2.2.2.2).2.1) (Int.toNat (IntKind.wrap .i64 (yd-(1:Int)))) ((0:Int),(0:Int),(0:Int),(0:Int),(0:Int),(0:Int),()))≥th.1) else false then true else !Hw.1 then true else !CI.1) || nQ (Wh.xW ((th.2.2.2).1,(0:Int),(9999:Int))),(!!bif bif !nS.1 then true else bif decide (yd>(0:Int)) then decide (Prod.fst (List.getD ((zV.2.2.2.2.2).2.1) (Int.toNat (IntKind.wrap .i64 (yd-(1:Int)))) ((0:Int),(0:Int),(0:Int),(0:Int),(0:Int),(0:Int),()))≥th.1) else false then true else !Hw.1) || nQ (Wh.xW (th.2.2.1,(1:Int),(zV.2.2.2).1.1)),(!!bif !nS.1 then true else bif decide (yd>(0:Int)) then decide (Prod.fst (List.getD ((zV.2.2.2.2.2).2.1) (Int.toNat (IntKind.wrap .i64 (yd-(1:Int)))) ((0:Int),(0:Int),(0:Int),(0:Int),(0:Int),(0:Int),()))≥th.1) else false) || nQ (Wh.xW (th.2.1,(1:Int),(99999:Int))),!(decide (yd>(0:Int)) && !!nS.1) || decide ((0:Int)≤IntKind.wrap .i64 (yd-(1:Int))),!(decide (yd>(0:Int)) && !!nS.1) || decide (IntKind.wrap .i64 (yd-(1:Int))<za),nQ (Wh.xW (th.1,(0:Int),(3:Int)))] then
    bif v_48 then
     some (.inr (.inl (false,())))
    else
     let r_49:((an.D)×Bool)×Unit:=Wh.Ll ((zV.2.2.2).1,th.2.2.1)
     bif iy [nQ (Wh.q42 ((zV.2.2.2).1,th.2.2.1))] then
      let r_50:=Wh.q68' th.1
      let BQ:=bif r_49.1.2 then r_49.1.1.1 != r_50.1 else false
      bif iy [!r_49.1.2 || nQ (Wh.q68 th.1)] then
       bif BQ then
        some (.inr (.inl (false,())))
       else
        some (.inl (((IntKind.wrap .i64 (yd+(1:Int))),()),zV))
      else none
     else none
   else none
  else none
 else
  some (.inr (.inr ((),())))
def Wh.Uv:(((Bool))×(Unit))⊕((Unit)×(Unit)):=.inl default
def Wh.q41 (xs:(ct.D)):Option (((Bool))×(Unit)):=
 let fk:ct.D:=xs
 let x_53:Wh.PL:=(((0:Int),()),fk)
 bif lF Wh.BG x_53 then
  sumC (kG Wh.BG Wh.Uv x_53) (fun y_54=>
   let v_56:=y_54.1
   some (v_56,())) (fun _=>
   some (true,()))
 else none
def Wh.q41':=en Wh.q41
theorem Wh.q41_v:OV Wh.q41 Wh.q41':=eB _
def Wh.BK (xs:(yA.D)):Option (((Int))×(Unit)):=
 let xR:yA.D:=xs
 bif iy [xR.2.1 != (0:Int)] then
  some ((IntKind.wrap .i64 (Int.tdiv (IntKind.wrap .i64 ((IntKind.wrap .i64 (xR.1+xR.2.1))-(1:Int))) xR.2.1)),())
 else none
def Wh.F0:=en Wh.BK
theorem Wh.CG:OV Wh.BK Wh.F0:=eB _
abbrev Wh.Pj:Type:=((Unit)×(Unit))×(((Int)×((Int)×((Unit)×((Unit)×(Unit)))))×((Int)×((Int)×((Unit)×((Unit)×(Unit)))))×(List (Int))×(List (Int))×(List (Int))×(List (Int)))
abbrev Wh.Zc:Type:=((((Unit)×(Unit))×(((Int)×((Int)×((Unit)×((Unit)×(Unit)))))×((Int)×((Int)×((Unit)×((Unit)×(Unit)))))×(List (Int))×(List (Int))×(List (Int))×(List (Int)))))
def Wh.Ci (x:Wh.Pj):Option (Wh.Pj⊕Wh.Zc):=
 let yC:=x.2.1.1
 let yg:Int:=(x.2.1.2).1
 let AQ:Unit:=(x.2.1.2.2.2).2
 let yw:=x.2.2.1.1
 let we:Int:=(x.2.2.1).2.1
 let x6:Unit:=(x.2.2.1).2.2.2.2
 let zk:List Int:=(x.2.2.2).1
 let y5:=x.2.2.2.2.1
 let y6:List Int:=(x.2.2.2.2.2).1
 let zC:List Int:=(x.2.2.2.2.2).2
 let r_24:=Wh.F0 (yC,yg,zk,y5,AQ)
 bif iy [nQ (Wh.BK (yC,yg,zk,y5,AQ))] then
  bif decide (r_24.1>(24:Int)) then
   some (.inl (((),()),(yC,(IntKind.wrap .i64 (yg+(1:Int))),(),(),AQ),(yw,we,(),(),x6),zk,y5,y6,zC))
  else
   some (.inr (((),()),(yw,we,(),(),x6),(yC,yg,(),(),AQ),y6,zC,zk,y5))
 else none
def Wh.Ub:(((Unit)×(Unit))×(((Int)×((Int)×((Unit)×((Unit)×(Unit)))))×((Int)×((Int)×((Unit)×((Unit)×(Unit)))))×(List (Int))×(List (Int))×(List (Int))×(List (Int)))):=default
def Wh.Dk (xs:(Int)):Option ((((Int)×((Int)×((List (Int))×((List (Int))×(Unit))))))×(Unit)):=
 let GU:=xs
 let HM:Wh.Pj:=(((),()),(GU,(8:Int),(),(),()),((0:Int),(0:Int),(),(),()),[],[],[],[])
 bif lF Wh.Ci HM then
  let Fg:=kG Wh.Ci Wh.Ub HM
  let y8:=Fg.2.2.1.1
  let zW:Int:=(Fg.2.2.1).2.1
  let x7:Unit:=(Fg.2.2.1).2.2.2.2
  let KE:List Int:=(Fg.2.2.2.2.2).1
  let zf:List Int:=(Fg.2.2.2.2.2).2
  let Lw:=Wh.F0 (y8,zW,KE,zf,x7)
  bif iy [nQ (Wh.BK (y8,zW,KE,zf,x7))] then
   let k_42:=IntKind.wrap .i64 (Int.tdiv (IntKind.wrap .i64 (Lw.1+(3:Int))) (4:Int))
   bif decide (k_42<Lw.1) then
    let pb_44:List Int:=[k_42,Lw.1]
    some ((y8,zW,pb_44,[(2:Int),(3:Int)],x7),())
   else
    let Oj:List Int:=[Lw.1]
    some ((y8,zW,Oj,[(1:Int)],x7),())
  else none
 else none
def Wh.He:=en Wh.Dk
theorem Wh.Ld:OV Wh.Dk Wh.He:=eB _
def Wh.q66 (xs:(fN.D)):Option (((Bool))×(Unit)):=
 let yF:fN.D:=xs
 let r_1:=Wh.yh (yF.2.1,(0:Int),(99999:Int))
 let r_2:=Wh.yh (yF.1,(0:Int),yF.2.1)
 let yD:=Wh.yh (yF.2.2.1,(0:Int),(99999:Int))
 let yS:=Wh.yh ((yF.2.2.2).1,(0:Int),(99999:Int))
 let z_:=bif bif bif r_1.1 then r_2.1 else false then yD.1 else false then yS.1 else false
 bif iy [(!bif bif r_1.1 then r_2.1 else false then yD.1 else false) || nQ (Wh.xW ((yF.2.2.2).1,(0:Int),(99999:Int))),(!bif r_1.1 then r_2.1 else false) || nQ (Wh.xW (yF.2.2.1,(0:Int),(99999:Int))),!r_1.1 || nQ (Wh.xW (yF.1,(0:Int),yF.2.1)),nQ (Wh.xW (yF.2.1,(0:Int),(99999:Int)))] then
  some (z_,())
 else none
def Wh.q66':=en Wh.q66
theorem Wh.q66_v:OV Wh.q66 Wh.q66':=eB _
abbrev Wh.P_:Type:=((Int)×(Unit))×((ct.D))
abbrev Wh.ZL:Type:=((((Bool))×(Unit))⊕((Unit)×(Unit)))
def Wh.CA (x:Wh.P_):Option (Wh.P_⊕Wh.ZL):=
 let h_80:=x.1.1
 let KH:ct.D:=x.2
 let v_82:Int:=(↑(List.length ((KH.2.2.2.2.2).1)):Int)
 bif decide (h_80<v_82) then
  let G2:fN.D:=List.getD ((KH.2.2.2.2.2).1) (Int.toNat h_80) ((0:Int),(0:Int),(0:Int),(0:Int),())
  bif iy [decide ((0:Int)≤h_80),decide (h_80<v_82)] then
   let r_85:=Wh.q66' G2
   let LP:=bif bif bif !r_85.1 then true else G2.2.1 != (40:Int) then true else G2.2.2.1 != (8:Int) then true else decide ((G2.2.2.2).1>KH.2.1)
   bif iy [nQ (Wh.q66 G2)] then
    bif LP then
     some (.inr (.inl (false,())))
    else
     some (.inl (((IntKind.wrap .i64 (h_80+(1:Int))),()),KH))
   else none
  else none
 else
  some (.inr (.inr ((),())))
def Wh.UO:(((Bool))×(Unit))⊕((Unit)×(Unit)):=.inl default
abbrev Wh.P9:Type:=((Int)×(Unit))×((ct.D))
abbrev Wh.ZK:Type:=((((Bool))×(Unit))⊕(((Unit))×((ct.D))))
def Wh.AF (x:Wh.P9):Option (Wh.P9⊕Wh.ZK):=
 let Al:=x.1.1
 let Ei:ct.D:=x.2
 let BQ:Int:=(↑(List.length ((Ei.2.2.2.2.1).1)):Int)
 bif decide (Al<BQ) then
  let yO:((an.D)×Bool)×Unit:=Wh.Ll ((Ei.2.2.2).1,Prod.fst (Prod.snd (List.getD ((Ei.2.2.2.2.1).1) (Int.toNat Al) ((0:Int),(0:Int),(0:Int),(0:Int),false,()))))
  let xP:e_.D:=List.getD ((Ei.2.2.2.2.1).1) (Int.toNat Al) ((0:Int),(0:Int),(0:Int),(0:Int),false,())
  bif iy [nQ (Wh.q42 ((Ei.2.2.2).1,xP.2.1)),decide ((0:Int)≤Al),decide (Al<BQ)] then
   let BM:(yA.D)×Unit:=Wh.He (↑(List.length ((yO.1.1.2.2.2).1)):Int)
   let r_60:=Wh.F0 (BM.1.1,BM.1.2.1,bif(!bif !yO.1.2 then true else yO.1.1.1 != xP.1)&&(decide (xP.2.1>(0:Int)) && !decide ((xP.2.2.2).1>(0:Int))) then(BM.1.2.2).1 else [],bif(!bif !yO.1.2 then true else yO.1.1.1 != xP.1)&&(decide (xP.2.1>(0:Int)) && !decide ((xP.2.2.2).1>(0:Int))) then BM.1.2.2.2.1 else [],BM.1.2.2.2.2)
   let F6:=bif decide ((xP.2.2.2).1>(0:Int)) then true else bif decide (xP.2.1>(0:Int)) then bif bif !yO.1.2 then true else yO.1.1.1 != xP.1 then true else decide (xP.2.2.1≥r_60.1) else false
   bif iy [!((!bif !yO.1.2 then true else yO.1.1.1 != xP.1)&&(decide (xP.2.1>(0:Int)) && !decide ((xP.2.2.2).1>(0:Int)))) || nQ (Wh.BK (BM.1.1,BM.1.2.1,bif(!bif !yO.1.2 then true else yO.1.1.1 != xP.1)&&(decide (xP.2.1>(0:Int)) && !decide ((xP.2.2.2).1>(0:Int))) then(BM.1.2.2).1 else [],bif(!bif !yO.1.2 then true else yO.1.1.1 != xP.1)&&(decide (xP.2.1>(0:Int)) && !decide ((xP.2.2.2).1>(0:Int))) then BM.1.2.2.2.1 else [],BM.1.2.2.2.2)),!((!bif !yO.1.2 then true else yO.1.1.1 != xP.1)&&(decide (xP.2.1>(0:Int)) && !decide ((xP.2.2.2).1>(0:Int)))) || nQ (Wh.Dk (↑(List.length ((yO.1.1.2.2.2).1)):Int)),!((!bif !yO.1.2 then true else yO.1.1.1 != xP.1)&&(decide (xP.2.1>(0:Int)) && !decide ((xP.2.2.2).1>(0:Int)))) || decide ((0:Int)≤Al),!((!bif !yO.1.2 then true else yO.1.1.1 != xP.1)&&(decide (xP.2.1>(0:Int)) && !decide ((xP.2.2.2).1>(0:Int)))) || decide (Al<BQ),!(!!yO.1.2&&(decide (xP.2.1>(0:Int)) && !decide ((xP.2.2.2).1>(0:Int)))) || decide ((0:Int)≤Al),!(!!yO.1.2&&(decide (xP.2.1>(0:Int)) && !decide ((xP.2.2.2).1>(0:Int)))) || decide (Al<BQ),!!decide ((xP.2.2.2).1>(0:Int)) || decide ((0:Int)≤Al),!!decide ((xP.2.2.2).1>(0:Int)) || decide (Al<BQ),decide ((0:Int)≤Al),decide (Al<BQ)] then
    bif F6 then
     some (.inr (.inl (false,())))
    else
     some (.inl (((IntKind.wrap .i64 (Al+(1:Int))),()),Ei))
   else none
  else none
 else
  some (.inr (.inr ((),Ei)))
def Wh.UN:(((Bool))×(Unit))⊕(((Unit))×((ct.D))):=.inl default
def Wh.q67 (xs:(ct.D)):Option (((Bool))×(Unit)):=
 let fk:ct.D:=xs
 let r_1:=Wh.yh (fk.2.1,(0:Int),(99999:Int))
 let v_2:=bif !r_1.1 then true else decide ((↑(List.length (fk.2.2.1)):Int)>(9000:Int))
 bif iy [nQ (Wh.xW (fk.2.1,(0:Int),(99999:Int)))] then
  bif v_2 then
   some (false,())
  else
   bif(!fk.1) then
    let yp:Int:=(↑(List.length ((fk.2.2.2).1.2.1)):Int)
    let Bc:=Wh.q93' fk
    let n5:=bif bif bif bif bif bif yp==(0:Int) then(fk.2.2.2).1.1==(0:Int) else false then(↑(List.length ((fk.2.2.2.2.1).1)):Int)==(0:Int) else false then(fk.2.2.2.2.1).2.1==(0:Int) else false then(↑(List.length ((fk.2.2.2.2.2).1)):Int)==(0:Int) else false then(↑(List.length ((fk.2.2.2.2.2).2.1)):Int)==(0:Int) else false then Bc.1 else false
    bif iy [(!bif bif bif bif bif yp==(0:Int) then(fk.2.2.2).1.1==(0:Int) else false then(↑(List.length ((fk.2.2.2.2.1).1)):Int)==(0:Int) else false then(fk.2.2.2.2.1).2.1==(0:Int) else false then(↑(List.length ((fk.2.2.2.2.2).1)):Int)==(0:Int) else false then(↑(List.length ((fk.2.2.2.2.2).2.1)):Int)==(0:Int) else false) || nQ (Wh.q93 fk)] then
     some (n5,())
    else none
   else
    let yJ:(List (List UInt8)×Int)×Unit:=Wh.FN (fk.2.2.1)
    bif iy [nQ (Wh.A7 (fk.2.2.1))] then
     let Hv:((cr.D)×Bool)×Unit:=Wh.K9 yJ.1.1
     bif iy [nQ (Wh.Dc yJ.1.1)] then
      let yl:= !Hv.1.2
      let nC:=Wh.q92' (Hv.1.1,(fk.2.2.2).1)
      let Lv:=Wh.OH (fk.2.2.2.2.1)
      let z7:=Wh.q41' fk
      let Aa:=bif bif bif bif bif yl then true else yJ.1.2 != (↑(List.length (fk.2.2.1)):Int) then true else !nC.1 then true else !Lv.1 then true else(↑(List.length ((fk.2.2.2.2.2).1)):Int) != (2:Int) then true else !z7.1
      bif iy [(!!bif bif bif bif yl then true else yJ.1.2 != (↑(List.length (fk.2.2.1)):Int) then true else !nC.1 then true else !Lv.1 then true else(↑(List.length ((fk.2.2.2.2.2).1)):Int) != (2:Int)) || nQ (Wh.q41 fk),(!!bif bif yl then true else yJ.1.2 != (↑(List.length (fk.2.2.1)):Int) then true else !nC.1) || nQ (Wh.C9 (fk.2.2.2.2.1)),(!!bif yl then true else yJ.1.2 != (↑(List.length (fk.2.2.1)):Int)) || nQ (Wh.CE (Hv.1.1,(fk.2.2.2).1))] then
       bif Aa then
        some (false,())
       else
        let x_63:Wh.P9:=(((0:Int),()),fk)
        bif lF Wh.AF x_63 then
         sumC (kG Wh.AF Wh.UN x_63) (fun y_64=>
          let v_66:=y_64.1
          some (v_66,())) (fun z_65=>
          let GX:ct.D:=z_65.2
          let x_92:Wh.P_:=(((0:Int),()),GX)
          bif lF Wh.CA x_92 then
           sumC (kG Wh.CA Wh.UO x_92) (fun y_93=>
            let v_95:=y_93.1
            some (v_95,())) (fun _=>
            some (true,()))
          else none)
        else none
      else none
     else none
    else none
 else none
def Wh.q67':=en Wh.q67
theorem Wh.Qa:OV Wh.q67 Wh.q67':=eB _
def Wh.x9 (xs:(Int)×(Int)×(Int)):Option (((Bool))×(Unit)):=
 let yx:=xs.1
 let NN:=xs.2.1
 let NA:=xs.2.2
 let vN:=bif decide (yx≥NN) then decide (yx≤NA) else false
 some (vN,())
def Wh.yI:=en Wh.x9
theorem Wh.zg:OV Wh.x9 Wh.yI:=eB _
def Wh.z6 (xs:(Int)×(Int)):Option (((Int))×(Unit)):=
 let yq:=xs.1
 let by_1:=xs.2
 let v_2:Int:=Int.fdiv yq ((2:Int) ^ Min.min (Int.toNat by_1) (Go.IntKind.bits Go.IntKind.u32))
 let s4:=IntKind.wrap .i64 ((32:Int)-by_1)
 let xY:Int:=nj Go.BinOp.or Go.IntKind.u32 v_2 (IntKind.wrap .u32 (yq*(2:Int) ^ Min.min (Int.toNat s4) (Go.IntKind.bits Go.IntKind.u32)))
 bif iy [decide ((0:Int)≤s4),decide ((0:Int)≤by_1)] then
  some (xY,())
 else none
def Wh.AA:=en Wh.z6
theorem Wh.q102_v:OV Wh.z6 Wh.AA:=eB _
abbrev Wh.P2:Type:=((Int)×(Unit)×(List (Int)))×((List (Int)))
abbrev Wh.ZE:Type:=((((Unit))×((List (Int)))))
def Wh.Hl (x:Wh.P2):Option (Wh.P2⊕Wh.ZE):=
 let HJ:=x.1.1
 let v_572:=x.1.2.2
 let NY:=x.2
 bif decide (HJ<(8:Int)) then
  let LN:=List.getD v_572 (Int.toNat HJ) (0:Int)
  bif iy [decide ((0:Int)≤HJ),decide (HJ<(↑(nat_lit 8):Int))] then
   let pb_576:List Int:=[IntKind.wrap .u8 (Int.fdiv LN ((2:Int) ^ Min.min (Int.toNat (24:Int)) (Go.IntKind.bits Go.IntKind.u32))),IntKind.wrap .u8 (Int.fdiv LN ((2:Int) ^ Min.min (Int.toNat (16:Int)) (Go.IntKind.bits Go.IntKind.u32))),IntKind.wrap .u8 (Int.fdiv LN ((2:Int) ^ Min.min (Int.toNat (8:Int)) (Go.IntKind.bits Go.IntKind.u32))),IntKind.wrap .u8 LN]
   let ls_577:=NY++pb_576
   bif iy [decide (List.length NY+(4:Nat)≤dh),true,true,true] then
    some (.inl (((IntKind.wrap .i64 (HJ+(1:Int))),(),v_572),ls_577))
   else none
  else none
 else
  some (.inr ((),NY))
def Wh.UH:(((Unit))×((List (Int)))):=default
abbrev Wh.P1:Type:=((Int)×(Unit)×(Unit)×(Nat×Nat))×((List (Int))×(List (Int))×(List (Int)))
abbrev Wh.ZD:Type:=((((Unit)×(Nat×Nat))×((List (Int))×(List (Int)))))
def Wh.Hj (x:Wh.P1):Option (Wh.P1⊕Wh.ZD):=
 let Bf:=x.1.1
 let b_510:=x.1.2.2.2.1
 let b_511:=x.1.2.2.2.2
 let NW:=x.2.1
 let Sk:=x.2.2.1
 let Sl:=x.2.2.2
 bif decide (Bf<(8:Int)) then
  let ls_516:=List.set NW (Int.toNat Bf) (IntKind.wrap .u32 (List.getD NW (Int.toNat Bf) (0:Int)+List.getD Sk (Int.toNat Bf) (0:Int)))
  bif iy [decide ((0:Int)≤Bf),decide (Bf<(↑(8:Nat):Int)),decide ((0:Int)≤Bf),decide (Bf<(↑(8:Nat):Int)),decide ((0:Int)≤Bf),decide (Bf<(↑(8:Nat):Int))] then
   some (.inl (((IntKind.wrap .i64 (Bf+(1:Int))),(),(),b_510,b_511),ls_516,Sk,Sl))
  else none
 else
  some (.inr (((),b_510,b_511),NW,Sl))
def Wh.UG:(((Unit)×(Nat×Nat))×((List (Int))×(List (Int)))):=default
abbrev Wh.P0:Type:=((Int)×(Unit)×(Unit)×(Unit)×(Nat×Nat))×((List (Int))×(List (Int))×(List (Int))×(List (Int)))
abbrev Wh.ZC:Type:=((((Unit)×(Unit)×(Nat×Nat))×((List (Int))×(List (Int))×(List (Int)))))
def Wh.EO (x:Wh.P0):Option (Wh.P0⊕Wh.ZC):=
 let DR:=x.1.1
 let b_447:Nat:=(x.1.2.2.2.2).1
 let b_448:Nat:=(x.1.2.2.2.2).2
 let B4:=x.2.1
 let Sg:=x.2.2.1
 let Si:List Int:=(x.2.2.2).1
 let Sj:=x.2.2.2.2
 bif decide (DR<(64:Int)) then
  let CM:=List.getD B4 (Int.toNat (4:Int)) (0:Int)
  let CN:=List.getD B4 (Int.toNat (0:Int)) (0:Int)
  let v_456:=List.getD B4 (Int.toNat (7:Int)) (0:Int)
  let r_457:=Wh.AA (CM,(6:Int))
  let r_458:=Wh.AA (CM,(11:Int))
  let r_460:=Wh.AA (CM,(25:Int))
  let v_463:=List.getD B4 (Int.toNat (5:Int)) (0:Int)
  let v_464:=List.getD B4 (Int.toNat (6:Int)) (0:Int)
  let v_468:=List.getD Wh.A0 (Int.toNat DR) (0:Int)
  let v_470:=List.getD Sg (Int.toNat DR) (0:Int)
  let Ti:=IntKind.wrap .u32 (IntKind.wrap .u32 (IntKind.wrap .u32 (IntKind.wrap .u32 (v_456+nj Go.BinOp.xor Go.IntKind.u32 (nj Go.BinOp.xor Go.IntKind.u32 r_457.1 r_458.1) r_460.1)+nj Go.BinOp.xor Go.IntKind.u32 (nj Go.BinOp.and Go.IntKind.u32 CM v_463) (nj Go.BinOp.and Go.IntKind.u32 (nj Go.BinOp.xor Go.IntKind.u32 (Go.IntKind.max Go.IntKind.u32) CM) v_464))+v_468)+v_470)
  bif iy [decide ((0:Int)≤DR),decide (DR<(↑(64:Nat):Int)),decide ((0:Int)≤DR),decide (DR<(↑(64:Nat):Int)),true,true,true,true,nQ (Wh.z6 (CM,(25:Int))),nQ (Wh.z6 (CM,(11:Int))),nQ (Wh.z6 (CM,(6:Int))),true,true] then
   let r_473:=Wh.AA (CN,(2:Int))
   let r_474:=Wh.AA (CN,(13:Int))
   let r_476:=Wh.AA (CN,(22:Int))
   let QF:=List.getD B4 (Int.toNat (1:Int)) (0:Int)
   let QG:=List.getD B4 (Int.toNat (2:Int)) (0:Int)
   bif iy [true,true,true,true,true,true,true,true,nQ (Wh.z6 (CN,(22:Int))),nQ (Wh.z6 (CN,(13:Int))),nQ (Wh.z6 (CN,(2:Int)))] then
    let ls_484:List Int:=[IntKind.wrap .u32 (Ti+(IntKind.wrap .u32 (nj Go.BinOp.xor Go.IntKind.u32 (nj Go.BinOp.xor Go.IntKind.u32 r_473.1 r_474.1) r_476.1+nj Go.BinOp.xor Go.IntKind.u32 (nj Go.BinOp.xor Go.IntKind.u32 (nj Go.BinOp.and Go.IntKind.u32 CN QF) (nj Go.BinOp.and Go.IntKind.u32 CN QG)) (nj Go.BinOp.and Go.IntKind.u32 QF QG)))),CN,QF,QG,IntKind.wrap .u32 (List.getD B4 (Int.toNat (3:Int)) (0:Int)+Ti),CM,v_463,v_464]
    some (.inl (((IntKind.wrap .i64 (DR+(1:Int))),(),(),(),b_447,b_448),ls_484,Sg,Si,Sj))
   else none
  else none
 else
  some (.inr (((),(),b_447,b_448),Si,B4,Sj))
def Wh.UF:(((Unit)×(Unit)×(Nat×Nat))×((List (Int))×(List (Int))×(List (Int)))):=default
abbrev Wh.PZ:Type:=((Int)×(Unit)×(Nat×Nat)×(Unit))×((List (Int))×(List (Int))×(List (Int)))
abbrev Wh.ZB:Type:=((((Unit)×(Unit)×(Nat×Nat))×((List (Int))×(List (Int))×(List (Int)))))
def Wh.DB (x:Wh.PZ):Option (Wh.PZ⊕Wh.ZB):=
 let yV:=x.1.1
 let D3:Nat:=(x.1.2.2).1.1
 let D4:Nat:=(x.1.2.2).1.2
 let Eg:=x.2.1
 let Eh:=x.2.2.1
 let NT:=x.2.2.2
 bif decide (yV<(64:Int)) then
  bif decide (yV<(16:Int)) then
   let ls_346:=List.set Eg (Int.toNat yV) (nj Go.BinOp.or Go.IntKind.u32 (nj Go.BinOp.or Go.IntKind.u32 (nj Go.BinOp.or Go.IntKind.u32 (IntKind.wrap .u32 (IntKind.wrap .u32 (List.getD Eh (D3+Int.toNat (IntKind.wrap .i64 ((4:Int)*yV))) (0:Int))*(2:Int) ^ Min.min (Int.toNat (24:Int)) (Go.IntKind.bits Go.IntKind.u32))) (IntKind.wrap .u32 (IntKind.wrap .u32 (List.getD Eh (D3+Int.toNat (IntKind.wrap .i64 (IntKind.wrap .i64 ((4:Int)*yV)+(1:Int)))) (0:Int))*(2:Int) ^ Min.min (Int.toNat (16:Int)) (Go.IntKind.bits Go.IntKind.u32)))) (IntKind.wrap .u32 (IntKind.wrap .u32 (List.getD Eh (D3+Int.toNat (IntKind.wrap .i64 (IntKind.wrap .i64 ((4:Int)*yV)+(2:Int)))) (0:Int))*(2:Int) ^ Min.min (Int.toNat (8:Int)) (Go.IntKind.bits Go.IntKind.u32)))) (IntKind.wrap .u32 (List.getD Eh (D3+Int.toNat (IntKind.wrap .i64 (IntKind.wrap .i64 ((4:Int)*yV)+(3:Int)))) (0:Int))))
   let DP:=IntKind.wrap .i64 ((4:Int)*yV)
   bif iy [decide ((0:Int)≤yV),decide (yV<(↑(64:Nat):Int)),decide ((0:Int)≤IntKind.wrap .i64 (DP+(3:Int))),decide (IntKind.wrap .i64 (DP+(3:Int))<(↑D4:Int)),true,decide ((0:Int)≤IntKind.wrap .i64 (DP+(2:Int))),decide (IntKind.wrap .i64 (DP+(2:Int))<(↑D4:Int)),true,decide ((0:Int)≤IntKind.wrap .i64 (DP+(1:Int))),decide (IntKind.wrap .i64 (DP+(1:Int))<(↑D4:Int)),true,decide ((0:Int)≤DP),decide (DP<(↑D4:Int))] then
    some (.inl (((IntKind.wrap .i64 (yV+(1:Int))),(),(D3,D4),()),ls_346,Eh,NT))
   else none
  else
   let QD:=IntKind.wrap .i64 (yV-(15:Int))
   let QE:=IntKind.wrap .i64 (yV-(2:Int))
   let HP:=List.getD Eg (Int.toNat QD) (0:Int)
   let HW:=List.getD Eg (Int.toNat QE) (0:Int)
   bif iy [decide ((0:Int)≤QE),decide (QE<(↑(64:Nat):Int)),decide ((0:Int)≤QD),decide (QD<(↑(64:Nat):Int))] then
    let r_376:=Wh.AA (HP,(7:Int))
    let r_377:=Wh.AA (HP,(18:Int))
    let r_378:=Wh.AA (HW,(17:Int))
    let r_379:=Wh.AA (HW,(19:Int))
    let ls_380:=List.set Eg (Int.toNat yV) (IntKind.wrap .u32 (IntKind.wrap .u32 (IntKind.wrap .u32 (List.getD Eg (Int.toNat (IntKind.wrap .i64 (yV-(16:Int)))) (0:Int)+List.getD Eg (Int.toNat (IntKind.wrap .i64 (yV-(7:Int)))) (0:Int))+nj Go.BinOp.xor Go.IntKind.u32 (nj Go.BinOp.xor Go.IntKind.u32 r_376.1 r_377.1) (Int.fdiv HP ((2:Int) ^ Min.min (Int.toNat (3:Int)) (Go.IntKind.bits Go.IntKind.u32))))+nj Go.BinOp.xor Go.IntKind.u32 (nj Go.BinOp.xor Go.IntKind.u32 r_378.1 r_379.1) (Int.fdiv HW ((2:Int) ^ Min.min (Int.toNat (10:Int)) (Go.IntKind.bits Go.IntKind.u32)))))
    let v_381:=IntKind.wrap .i64 (yV-(16:Int))
    let v_383:=IntKind.wrap .i64 (yV-(7:Int))
    bif iy [decide ((0:Int)≤yV),decide (yV<(↑(64:Nat):Int)),true,nQ (Wh.z6 (HW,(19:Int))),nQ (Wh.z6 (HW,(17:Int))),true,nQ (Wh.z6 (HP,(18:Int))),nQ (Wh.z6 (HP,(7:Int))),decide ((0:Int)≤v_383),decide (v_383<(↑(64:Nat):Int)),decide ((0:Int)≤v_381),decide (v_381<(↑(64:Nat):Int))] then
     some (.inl (((IntKind.wrap .i64 (yV+(1:Int))),(),(D3,D4),()),ls_380,Eh,NT))
    else none
   else none
 else
  some (.inr (((),(),D3,D4),Eg,NT,Eh))
def Wh.UE:(((Unit)×(Unit)×(Nat×Nat))×((List (Int))×(List (Int))×(List (Int)))):=default
abbrev Wh.PY:Type:=((Nat×Nat)×(Unit))×((List (Int))×(List (Int)))
abbrev Wh.ZA:Type:=((((Unit))×((List (Int)))))
def Wh.DA (x:Wh.PY):Option (Wh.PY⊕Wh.ZA):=
 let b_529:=x.1.1.1
 let b_530:=x.1.1.2
 let ls_531:=x.2.1
 let Sm:=x.2.2
 bif decide ((↑b_530:Int)>(0:Int)) then
  let pb_534:List Int:=[(0:Int),(0:Int),(0:Int),(0:Int),(0:Int),(0:Int),(0:Int),(0:Int),(0:Int),(0:Int),(0:Int),(0:Int),(0:Int),(0:Int),(0:Int),(0:Int),(0:Int),(0:Int),(0:Int),(0:Int),(0:Int),(0:Int),(0:Int),(0:Int),(0:Int),(0:Int),(0:Int),(0:Int),(0:Int),(0:Int),(0:Int),(0:Int),(0:Int),(0:Int),(0:Int),(0:Int),(0:Int),(0:Int),(0:Int),(0:Int),(0:Int),(0:Int),(0:Int),(0:Int),(0:Int),(0:Int),(0:Int),(0:Int),(0:Int),(0:Int),(0:Int),(0:Int),(0:Int),(0:Int),(0:Int),(0:Int),(0:Int),(0:Int),(0:Int),(0:Int),(0:Int),(0:Int),(0:Int),(0:Int)]
  let x_535:Wh.PZ:=(((0:Int),(),(b_529,b_530),()),pb_534,ls_531,Sm)
  bif lF Wh.DB x_535 then
   let HY:=kG Wh.DB Wh.UE x_535
   let b_537:Nat:=(HY.1.2.2).1
   let b_538:=HY.1.2.2.2
   let ls_539:=HY.2.1
   let Sn:=HY.2.2.1
   let ls_541:=HY.2.2.2
   let x_542:Wh.P0:=(((0:Int),(),(),(),b_537,b_538),Sn,ls_539,Sn,ls_541)
   bif lF Wh.EO x_542 then
    let HZ:=kG Wh.EO Wh.UF x_542
    let b_544:Nat:=(HZ.1.2.2).1
    let b_545:=HZ.1.2.2.2
    let ls_546:=HZ.2.1
    let ls_547:=HZ.2.2.1
    let ls_548:=HZ.2.2.2
    let x_549:Wh.P1:=(((0:Int),(),(),b_544,b_545),ls_546,ls_547,ls_548)
    bif lF Wh.Hj x_549 then
     let LQ:=kG Wh.Hj Wh.UG x_549
     let b_551:=LQ.1.2.1
     let Nn:=LQ.1.2.2
     let ls_553:=LQ.2.1
     let So:=LQ.2.2
     let v_555:Nat:=Int.toNat ((↑Nn:Int)-(64:Int))
     let v_556:Nat:=b_551+Int.toNat (64:Int)
     bif iy [true,decide ((64:Int)≤(↑Nn:Int)),decide ((↑b_551:Int)+(↑Nn:Int)≤(↑(List.length So):Int))] then
      some (.inl (((v_556,v_555),()),So,ls_553))
     else none
    else none
   else none
  else none
 else
  some (.inr ((),Sm))
def Wh.UD:(((Unit))×((List (Int)))):=default
abbrev Wh.PX:Type:=((Int)×(Int)×(Unit)×(Unit))×((List (Int))×(List (Int)))
abbrev Wh.Zz:Type:=((((Unit)×(Unit))×((List (Int))×(List (Int)))))
def Wh.EN (x:Wh.PX):Option (Wh.PX⊕Wh.Zz):=
 let Kd:=x.1.1
 let Tb:=x.1.2.1
 let zW:=x.2.1
 let x7:=x.2.2
 bif decide (Kd≥(0:Int)) then
  let KV:List Int:=[IntKind.wrap .u8 (Int.fdiv Tb ((2:Int) ^ Min.min (Int.toNat Kd) (Go.IntKind.bits Go.IntKind.u64)))]
  let KE:=zW++KV
  bif iy [decide (List.length zW+(1:Nat)≤dh),decide ((0:Int)≤Kd)] then
   some (.inl (((IntKind.wrap .i64 (Kd-(8:Int))),Tb,(),()),KE,x7))
  else none
 else
  some (.inr (((),()),zW,x7))
def Wh.UC:(((Unit)×(Unit))×((List (Int))×(List (Int)))):=default
abbrev Wh.PW:Type:=((Unit)×(Unit)×(List UInt8))×((List (Int))×(List (Int)))
abbrev Wh.Zy:Type:=((((Unit)×(Unit)×(List UInt8))×((List (Int))×(List (Int)))))
def Wh.Dz (x:Wh.PW):Option (Wh.PW⊕Wh.Zy):=
 let CL:=x.1.2.2
 let KI:=x.2.1
 let C0:=x.2.2
 let yU:Bool:=(Int.tmod (↑(List.length KI):Int) (64:Int)) != (56:Int)
 bif yU then
  let ls_13:=KI ++ [(0:Int)]
  bif iy [decide (List.length KI+(1:Nat)≤dh)] then
   some (.inl (((),(),CL),ls_13,C0))
  else none
 else
  some (.inr (((),(),CL),KI,C0))
def Wh.UA:(((Unit)×(Unit)×(List UInt8))×((List (Int))×(List (Int)))):=default
def Wh.q51 (xs:(List UInt8)):Option (((List UInt8))×(Unit)):=
 let yK:=xs
 let zY:List Int:=bytesOf yK ++ [(128:Int)]
 bif iy [decide (List.length (bytesOf yK)+(1:Nat)≤dh),decide (List.length yK≤dh)] then
  let x_14:Wh.PW:=(((),(),yK),zY,[(1779033703:Int),(3144134277:Int),(1013904242:Int),(2773480762:Int),(1359893119:Int),(2600822924:Int),(528734635:Int),(1541459225:Int)])
  bif lF Wh.Dz x_14 then
   let y_15:=kG Wh.Dz Wh.UA x_14
   let abN:=y_15.1.2.2
   let yw:=y_15.2.1
   let we:=y_15.2.2
   let DS:Wh.PX:=(((56:Int),(IntKind.wrap .u64 ((IntKind.wrap .u64 (↑(List.length abN):Int))*(8:Int))),(),()),yw,we)
   bif lF Wh.EN DS then
    let F9:=kG Wh.EN Wh.UC DS
    let KF:=F9.2.1
    let FB:=F9.2.2
    let x_557:Wh.PY:=((((0:Nat),List.length KF),()),KF,FB)
    bif lF Wh.DA x_557 then
     let y_558:=kG Wh.DA Wh.UD x_557
     let ls_559:=y_558.2
     let x_582:Wh.P2:=(((0:Int),(),ls_559),[])
     bif lF Wh.Hl x_582 then
      let y_583:=kG Wh.Hl Wh.UH x_582
      let ls_584:=y_583.2
      some (qp ls_584,())
     else none
    else none
   else none
  else none
 else none
def Wh.q51':=en Wh.q51
theorem Wh.q51_v:OV Wh.q51 Wh.q51':=eB _
abbrev Wh.O0:Type:=((Int)×(List UInt8)×(Unit))×((List (Int)))
abbrev Wh.Y4:Type:=((((Unit))×((List (Int)))))
def Wh.K6 (x:Wh.O0):Option (Wh.O0⊕Wh.Y4):=
 let Ed:=x.1.1
 let Bd:=x.1.2.1
 let yg:=x.2
 let xO:=decide (Ed<(↑(List.length Bd):Int))
 bif xO then
  let El:List Int:=[(↑(UInt8.toNat (List.getD [(48:UInt8),(49:UInt8),(50:UInt8),(51:UInt8),(52:UInt8),(53:UInt8),(54:UInt8),(55:UInt8),(56:UInt8),(57:UInt8),(97:UInt8),(98:UInt8),(99:UInt8),(100:UInt8),(101:UInt8),(102:UInt8)] (Int.toNat (IntKind.wrap .u8 (Int.tdiv (↑(UInt8.toNat (List.getD Bd (Int.toNat Ed) (0:UInt8))):Int) (16:Int)))) (0:UInt8))):Int),(↑(UInt8.toNat (List.getD [(48:UInt8),(49:UInt8),(50:UInt8),(51:UInt8),(52:UInt8),(53:UInt8),(54:UInt8),(55:UInt8),(56:UInt8),(57:UInt8),(97:UInt8),(98:UInt8),(99:UInt8),(100:UInt8),(101:UInt8),(102:UInt8)] (Int.toNat (Int.tmod (↑(UInt8.toNat (List.getD Bd (Int.toNat Ed) (0:UInt8))):Int) (16:Int))) (0:UInt8))):Int)]
  let we:=yg++El
  let n5:Int:=(↑(UInt8.toNat (List.getD Bd (Int.toNat Ed) (0:UInt8))):Int)
  bif iy [decide (List.length yg+(2:Nat)≤dh),decide ((0:Int)≤Int.tmod n5 (16:Int)),decide (Int.tmod n5 (16:Int)<(↑(16:Nat):Int)),true,decide ((0:Int)≤Ed),xO,decide ((0:Int)≤IntKind.wrap .u8 (Int.tdiv n5 (16:Int))),decide (IntKind.wrap .u8 (Int.tdiv n5 (16:Int))<(↑(16:Nat):Int)),true,decide ((0:Int)≤Ed),xO] then
   some (.inl (((IntKind.wrap .i64 (Ed+(1:Int))),Bd,()),we))
  else none
 else
  some (.inr ((),yg))
def Wh.TV:(((Unit))×((List (Int)))):=default
def Wh.FP (xs:(List UInt8)):Option (((List UInt8))×(Unit)):=
 let fk:=xs
 let x_25:Wh.O0:=(((0:Int),fk,()),[])
 bif lF Wh.K6 x_25 then
  let Ac:=kG Wh.K6 Wh.TV x_25
  let yQ:=Ac.2
  some (qp yQ,())
 else none
def Wh.OZ:=en Wh.FP
theorem Wh.TW:OV Wh.FP Wh.OZ:=eB _
def Wh.q72 (xs:(List UInt8)):Option (((List UInt8))×(Unit)):=
 let yK:=xs
 let r_1:xT.D:=Wh.q51' yK
 let r_3:xT.D:=Wh.OZ r_1.1
 bif iy [nQ (Wh.FP r_1.1),nQ (Wh.q51 yK)] then
  some (r_3.1,())
 else none
def Wh.DG:=en Wh.q72
theorem Wh.q72_v:OV Wh.q72 Wh.DG:=eB _
def Wh.q78 (xs:(Int)×(List UInt8)):Option (((List UInt8))×(Unit)):=
 let yx:=xs.1
 let n_:=xs.2
 let r_2:xT.D:=Wh.tJ yx
 let gz:xT.D:=Wh.tJ (↑(List.length n_):Int)
 let zT:=r_2.1 ++ [(32:UInt8)]++gz.1 ++ [(32:UInt8)]
 bif iy [decide (List.length (r_2.1 ++ [(32:UInt8)]++gz.1)+(1:Nat)≤dh),decide (List.length (r_2.1 ++ [(32:UInt8)])+List.length gz.1≤dh),nQ (Wh.strconv_Itoa (↑(List.length n_):Int)),decide (List.length r_2.1+(1:Nat)≤dh),nQ (Wh.strconv_Itoa yx)] then
  let yW:List UInt8:=zT++n_
  let yJ:xT.D:=Wh.DG yW
  let w8:List UInt8:=zT++List.take (Int.toNat ((16:Int)-(0:Int))) (List.drop (Int.toNat (0:Int)) yJ.1) ++ [(32:UInt8)]++n_ ++ [(10:UInt8)]
  bif iy [decide (List.length (zT++List.take (Int.toNat ((16:Int)-(0:Int))) (List.drop (Int.toNat (0:Int)) ((Wh.DG yW).1)) ++ [(32:UInt8)]++n_)+(1:Nat)≤dh),decide (List.length (zT++List.take (Int.toNat ((16:Int)-(0:Int))) (List.drop (Int.toNat (0:Int)) ((Wh.DG yW).1)) ++ [(32:UInt8)])+List.length n_≤dh),decide (List.length (zT++List.take (Int.toNat ((16:Int)-(0:Int))) (List.drop (Int.toNat (0:Int)) ((Wh.DG yW).1)))+(1:Nat)≤dh),decide (List.length zT+List.length (List.take (Int.toNat ((16:Int)-(0:Int))) (List.drop (Int.toNat (0:Int)) ((Wh.DG yW).1)))≤dh),true,true,decide ((16:Int)≤(↑(List.length ((Wh.DG yW).1)):Int)),nQ (Wh.q72 yW),decide (List.length zT+List.length n_≤dh)] then
   some (w8,())
  else none
 else none
def Wh.Hq:=en Wh.q78
theorem Wh.Lp:OV Wh.q78 Wh.Hq:=eB _
def Wh.q6 (xs:(List UInt8)×(List UInt8)):Option (((Bool))×(Unit)):=
 let fk:=xs.1
 let C6:=xs.2
 let v_2:=decide ((↑(List.length fk):Int)≥(↑(List.length C6):Int))
 let yp:=bif v_2 then List.take (Int.toNat ((↑(List.length C6):Int)-(0:Int))) (List.drop (Int.toNat (0:Int)) fk)==C6 else false
 bif iy [!v_2 || decide ((0:Int)≤(0:Int)),!v_2 || decide ((0:Int)≤(↑(List.length C6):Int)),!v_2 || decide ((↑(List.length C6):Int)≤(↑(List.length fk):Int))] then
  some (yp,())
 else none
def Wh.q6':=en Wh.q6
theorem Wh.q6_v:OV Wh.q6 Wh.q6':=eB _
def Wh.q11 (xs:(List UInt8)×(List UInt8)):Option (((Bool))×(Unit)):=
 let fk:=xs.1
 let C6:=xs.2
 let r_2:=Wh.q6' (fk,C6)
 bif iy [nQ (Wh.q6 (fk,C6))] then
  some (r_2.1,())
 else none
def Wh.q11':=en Wh.q11
theorem Wh.OS:OV Wh.q11 Wh.q11':=eB _
abbrev Wh.Qe:Type:=((Int)×(Unit)×(List UInt8))×((List (List UInt8)))
abbrev Wh.ZO:Type:=((((Unit)×(Int))×((List (List UInt8)))))
def Wh.BJ (x:Wh.Qe):Option (Wh.Qe⊕Wh.ZO):=
 let AY:=x.1.1
 let AP:=x.1.2.2
 let GW:List (List UInt8):=x.2
 let F5:List UInt8:=List.take (Int.toNat ((↑(List.length AP):Int)-AY)) (List.drop (Int.toNat AY) AP)
 let Lz:(List UInt8×List UInt8×Bool)×Unit:=Wh.tK (F5,[(32:UInt8)])
 bif iy [nQ (Wh.strings_Cut (F5,[(32:UInt8)])),decide ((0:Int)≤AY),decide (AY≤(↑(List.length AP):Int)),decide ((↑(List.length AP):Int)≤(↑(List.length AP):Int))] then
  let r_66:(List UInt8×List UInt8×Bool)×Unit:=Wh.tK (Lz.1.2.1,[(32:UInt8)])
  bif iy [nQ (Wh.strings_Cut (Lz.1.2.1,[(32:UInt8)]))] then
   let E0:(Int×Bool)×Unit:=Wh.rW r_66.1.1
   bif iy [nQ (Wh.rV r_66.1.1)] then
    let LO:Int:=(↑(List.length GW):Int)
    let v_74:Int:=(↑(List.length r_66.1.1):Int)
    let r_79:xT.D:=Wh.tJ LO
    let RM:=IntKind.wrap .i64 (IntKind.wrap .i64 (IntKind.wrap .i64 ((↑(List.length r_79.1):Int)+(1:Int))+v_74)+(18:Int))
    bif iy [nQ (Wh.strconv_Itoa LO)] then
     let v_81:= !E0.1.2
     let r_82:=Wh.yI (E0.1.1,(1:Int),(500:Int))
     let v_85:=bif bif v_81 then true else !r_82.1 then true else decide (IntKind.wrap .i64 ((↑(List.length AP):Int)-AY)<IntKind.wrap .i64 (IntKind.wrap .i64 (RM+E0.1.1)+(1:Int)))
     bif iy [!!v_81 || nQ (Wh.x9 (E0.1.1,(1:Int),(500:Int)))] then
      bif v_85 then
       some (.inr (((),AY),GW))
      else
       let Fc:=IntKind.wrap .i64 (AY+RM)
       let Qw:List UInt8:=List.take (Int.toNat (IntKind.wrap .i64 (Fc+E0.1.1)-Fc)) (List.drop (Int.toNat Fc) AP)
       bif iy [decide ((0:Int)≤Fc),decide (Fc≤IntKind.wrap .i64 (Fc+E0.1.1)),decide (IntKind.wrap .i64 (Fc+E0.1.1)≤(↑(List.length AP):Int))] then
        let r_91:xT.D:=Wh.Hq (LO,Qw)
        bif iy [nQ (Wh.q78 (LO,Qw))] then
         let r_93:=Wh.q11' (F5,r_91.1)
         bif iy [nQ (Wh.q11 (F5,r_91.1)),decide ((0:Int)≤AY),decide (AY≤(↑(List.length AP):Int)),decide ((↑(List.length AP):Int)≤(↑(List.length AP):Int))] then
          bif !r_93.1 then
           some (.inr (((),AY),GW))
          else
           let pb_94:List (List UInt8):=[Qw]
           let ls_95:List (List UInt8):=GW++pb_94
           bif iy [decide (List.length GW+(1:Nat)≤dh)] then
            let HK:Int:=(↑(List.length r_91.1):Int)
            some (.inl (((IntKind.wrap .i64 (AY+HK)),(),AP),ls_95))
           else none
         else none
        else none
       else none
     else none
    else none
   else none
  else none
 else none
def Wh.UR:(((Unit)×(Int))×((List (List UInt8)))):=default
def Wh.CC (xs:(List UInt8)):Option (((List (List UInt8))×(Int))×(Unit)):=
 let nG:=xs
 let x_99:Wh.Qe:=(((0:Int),(),nG),[])
 bif lF Wh.BJ x_99 then
  let y_100:=kG Wh.BJ Wh.UR x_99
  let v_101:=y_100.1.2
  let ls_102:List (List UInt8):=y_100.2
  some ((ls_102,v_101),())
 else none
def Wh.Lo:=en Wh.CC
theorem Wh.Qf:OV Wh.CC Wh.Lo:=eB _
def Wh.AB (xs:(Int)):Option (((Bool))×(Unit)):=
 let yx:=xs
 let r_1:=Wh.yI (yx,(0:Int),(1:Int))
 bif iy [nQ (Wh.x9 (yx,(0:Int),(1:Int)))] then
  some (r_1.1,())
 else none
def Wh.G9:=en Wh.AB
theorem Wh.K7:OV Wh.AB Wh.G9:=eB _
abbrev Wh.On:Type:=((Int)×(List UInt8)×(Int))×(Unit)
abbrev Wh.YR:Type:=((((Bool))×(Unit))⊕(((List UInt8))×(Unit)))
def Wh.B8 (x:Wh.On):Option (Wh.On⊕Wh.YR):=
 let z_:=x.1.1
 let HF:=x.1.2.1
 let yU:=x.1.2.2
 bif decide (z_<yU) then
  let ov:Int:=(↑(UInt8.toNat (List.getD HF (Int.toNat z_) (0:UInt8))):Int)
  let x5:=bif decide (ov<(97:Int)) then true else decide (ov>(122:Int))
  bif iy [!!decide (ov<(97:Int)) || decide ((0:Int)≤z_),!!decide (ov<(97:Int)) || decide (z_<(↑(List.length HF):Int)),decide ((0:Int)≤z_),decide (z_<(↑(List.length HF):Int))] then
   bif x5 then
    some (.inr (.inl (false,())))
   else
    some (.inl (((IntKind.wrap .i64 (z_+(1:Int))),HF,yU),()))
  else none
 else
  some (.inr (.inr (HF,())))
def Wh.Ts:(((Bool))×(Unit))⊕(((List UInt8))×(Unit)):=.inl default
def Wh.C7 (xs:(List UInt8)):Option (((Bool))×(Unit)):=
 let yK:=xs
 let x_19:Wh.On:=(((0:Int),yK,(↑(List.length yK):Int)),())
 bif lF Wh.B8 x_19 then
  sumC (kG Wh.B8 Wh.Ts x_19) (fun y_20=>
   let yl:=y_20.1
   some (yl,())) (fun z_21=>
   let Vm:=z_21.1
   let r_24:=Wh.yI ((↑(List.length Vm):Int),(1:Int),(6:Int))
   bif iy [nQ (Wh.x9 ((↑(List.length Vm):Int),(1:Int),(6:Int)))] then
    some (r_24.1,())
   else none)
 else none
def Wh.KW:=en Wh.C7
theorem Wh.Oo:OV Wh.C7 Wh.KW:=eB _
def Wh.q30 (xs:(Int)×(List UInt8)×(List UInt8)):Option (((List UInt8))×(Unit)):=
 let Eb:=xs.1
 let yN:=xs.2.1
 let Ar:=xs.2.2
 let r_3:=Wh.G9 Eb
 let gz:=Wh.KW yN
 let y3:=bif bif !r_3.1 then true else !gz.1 then true else decide ((↑(List.length Ar):Int)>(300:Int))
 bif iy [!!!r_3.1 || nQ (Wh.C7 yN),nQ (Wh.AB Eb)] then
  bif y3 then
   some ([],())
  else
   let yS:xT.D:=Wh.tJ Eb
   let DM:=yS.1 ++ [(32:UInt8)]++yN ++ [(58:UInt8)]++Ar
   bif iy [decide (List.length (yS.1 ++ [(32:UInt8)]++yN ++ [(58:UInt8)])+List.length Ar≤dh),decide (List.length (yS.1 ++ [(32:UInt8)]++yN)+(1:Nat)≤dh),decide (List.length (yS.1 ++ [(32:UInt8)])+List.length yN≤dh),decide (List.length yS.1+(1:Nat)≤dh),nQ (Wh.strconv_Itoa Eb)] then
    some (DM,())
   else none
 else none
def Wh.q30':=en Wh.q30
theorem Wh.PB:OV Wh.q30 Wh.q30':=eB _
def Wh.Cz (xs:(cr.D)):Option ((((Int)×((List (an.D))×(Unit))))×(Unit)):=
 let gv:cr.D:=xs
 let zY:List (an.D):=[]++gv.2.1
 bif iy [decide ((0:Nat)+List.length gv.2.1≤dh)] then
  some ((gv.1,zY,()),())
 else none
def Wh.Hi:=en Wh.Cz
theorem Wh.EM:OV Wh.Cz Wh.Hi:=eB _
def Wh.q19 (xs:(an.D)×(Int)×(List UInt8)):Option (((Bool))×(Unit)):=
 let i_0:an.D:=xs.1
 let v_1:=xs.2.1
 let v_2:=xs.2.2
 let vN:=bif(i_0.1==v_1) then i_0.2.1==v_2 else false
 some (vN,())
def Wh.q19':=en Wh.q19
theorem Wh.Pt:OV Wh.q19 Wh.q19':=eB _
abbrev Wh.PJ:Type:=((Int)×(List (an.D))×((Int)×((List UInt8)×(Unit)))×(Int))×(Unit)
abbrev Wh.q3_l0Y:Type:=((((Int))×(Unit))⊕((Unit)×(Unit)))
def Wh.Cv (x:Wh.PJ):Option (Wh.PJ⊕Wh.q3_l0Y):=
 let yU:=x.1.1
 let s_13:List (an.D):=x.1.2.1
 let f_14:Int:=(x.1.2.2).1.1
 let f_15:List UInt8:=(x.1.2.2).1.2.1
 let xO:=x.1.2.2.2
 bif decide (yU<xO) then
  let xe:an.D:=List.getD s_13 (Int.toNat yU) ((0:Int),[],(0:Int),[],())
  let r_19:=Wh.q19' (xe,f_14,f_15)
  bif iy [nQ (Wh.q19 (xe,f_14,f_15)),decide ((0:Int)≤yU),decide (yU<(↑(List.length s_13):Int))] then
   bif r_19.1 then
    some (.inr (.inl (yU,())))
   else
    some (.inl (((IntKind.wrap .i64 (yU+(1:Int))),s_13,(f_14,f_15,()),xO),()))
  else none
 else
  some (.inr (.inr ((),())))
def Wh.Uu:(((Int))×(Unit))⊕((Unit)×(Unit)):=.inl default
def Wh.q3 (xs:(List (an.D))×((Int)×((List UInt8)×(Unit)))):Option (((Int))×(Unit)):=
 let fk:List (an.D):=xs.1
 let f_1:Int×xT.D:=xs.2
 let v_2:Int:=(↑(List.length fk):Int)
 let x_21:Wh.PJ:=(((0:Int),fk,(f_1.1,f_1.2.1,()),v_2),())
 bif lF Wh.Cv x_21 then
  sumC (kG Wh.Cv Wh.Uu x_21) (fun CP=>
   let r5:=CP.1
   some (r5,())) (fun _=>
   some ((-1:Int),()))
 else none
def Wh.q3':=en Wh.q3
theorem Wh.q3_v:OV Wh.q3 Wh.q3':=eB _
def Wh.A_ (xs:(cr.D)×(Int)×(List UInt8)):Option (((Int))×(Unit)):=
 let gv:cr.D:=xs.1
 let w9:=xs.2.1
 let yy:=xs.2.2
 let r_3:=Wh.q3' (gv.2.1,w9,yy,())
 bif iy [nQ (Wh.q3 (gv.2.1,w9,yy,()))] then
  some (r_3.1,())
 else none
def Wh.Ln:=en Wh.A_
theorem Wh.Hh:OV Wh.A_ Wh.Ln:=eB _
def Wh.EW (xs:(List (an.D))×(Int)×(Int)):Option (((List (an.D)))×(Unit)):=
 let fk:List (an.D):=xs.1
 let i_1:=xs.2.1
 let Ax:=xs.2.2
 let s4:Int:=(↑(List.length fk):Int)
 bif iy [decide ((0:Int)≤i_1),decide (i_1≤Ax),decide (Ax≤s4),decide (s4≤s4)] then
  let yp:=i_1==Ax
  bif yp then
   some (fk,())
  else
   let pb_5:List (an.D):=List.take (Int.toNat (0:Int)+Int.toNat (i_1-(0:Int))) fk++(List.take (Int.toNat (s4-Ax)) (List.drop (Int.toNat Ax) fk)++List.drop (Int.toNat (0:Int)+Int.toNat (i_1-(0:Int))+List.length (List.take (Int.toNat (s4-Ax)) (List.drop (Int.toNat Ax) fk))) fk)
   let xY:Nat:=Int.toNat (i_1-(0:Int))
   let s_9:Nat:=xY+List.length (List.take (Int.toNat (s4-Ax)) (List.drop (Int.toNat Ax) fk))
   bif iy [decide (Int.toNat (0:Int)+xY+List.length (List.take (Int.toNat (s4-Ax)) (List.drop (Int.toNat Ax) fk))≤List.length fk),decide ((0:Int)≤Ax),decide (Ax≤s4),decide (s4≤s4),true,decide ((0:Int)≤i_1),decide (i_1≤s4)] then
    let Oh:List (an.D):=List.take (Int.toNat (0:Int)+Int.toNat (↑s_9:Int)) pb_5++(@List.replicate (Int×List UInt8×Int×List UInt8×Unit) (Int.toNat (s4-(↑s_9:Int))) ((0:Int),[],(0:Int),[],())++List.drop (Int.toNat (0:Int)+Int.toNat (↑s_9:Int)+List.length (@List.replicate (Int×List UInt8×Int×List UInt8×Unit) (Int.toNat (s4-(↑s_9:Int))) ((0:Int),[],(0:Int),[],()))) pb_5)
    bif iy [decide ((0:Int)≤(↑s_9:Int)),decide ((↑s_9:Int)≤s4),decide ((↑(Int.toNat (0:Int)):Int)+s4≤(↑(List.length pb_5):Int))] then
     some (List.take s_9 Oh,())
    else none
   else none
 else none
def Wh.q9':=en Wh.EW
theorem Wh.q9_v:OV Wh.EW Wh.q9':=eB _
def Wh.q46 (xs:(cr.D)×(Int)×(List UInt8)):Option ((((Int)×((List (an.D))×(Unit)))×(Int))×(Unit)):=
 let gv:cr.D:=xs.1
 let w9:=xs.2.1
 let yy:=xs.2.2
 let r_3:(cr.D)×Unit:=Wh.Hi gv
 bif iy [nQ (Wh.Cz gv)] then
  let gz:=Wh.Ln (gv,w9,yy)
  bif iy [nQ (Wh.A_ (gv,w9,yy))] then
   bif decide (gz.1<(0:Int)) then
    some ((r_3.1,(3:Int)),())
   else
    let xb:List (an.D)×Unit:=Wh.q9' (r_3.1.2.1,gz.1,IntKind.wrap .i64 (gz.1+(1:Int)))
    let pb_7:List (an.D):=[]++xb.1
    bif iy [decide ((0:Nat)+List.length xb.1≤dh),nQ (Wh.EW (r_3.1.2.1,gz.1,(IntKind.wrap .i64 (gz.1+(1:Int)))))] then
     some (((r_3.1.1,pb_7,r_3.1.2.2),(0:Int)),())
    else none
  else none
 else none
def Wh.q46':=en Wh.q46
theorem Wh.q46_v:OV Wh.q46 Wh.q46':=eB _
def Wh.q15 (xs:(Int)×(List UInt8)×(List UInt8)):Option (((Bool))×(Unit)):=
 let Eb:=xs.1
 let yN:=xs.2.1
 let Ar:=xs.2.2
 let r_3:=Wh.G9 Eb
 let gz:=Wh.KW yN
 let nc:=Wh.yI ((↑(List.length Ar):Int),(1:Int),(300:Int))
 let x_:=bif bif r_3.1 then gz.1 else false then nc.1 else false
 bif iy [(!bif r_3.1 then gz.1 else false) || nQ (Wh.x9 ((↑(List.length Ar):Int),(1:Int),(300:Int))),!r_3.1 || nQ (Wh.C7 yN),nQ (Wh.AB Eb)] then
  some (x_,())
 else none
def Wh.q15':=en Wh.q15
theorem Wh.Lf:OV Wh.q15 Wh.q15':=eB _
abbrev Wh.PC:Type:=((Int)×(Int)×(Int)×(List (an.D))×(Int))×(Unit)
abbrev Wh.Zm:Type:=((((Int))×(Unit)))
def Wh.Cs (x:Wh.PC):Option (Wh.PC⊕Wh.Zm):=
 let xO:=x.1.1
 let Ek:=x.1.2.1
 let Ea:Int:=(x.1.2.2).1
 let n5:List (an.D):=x.1.2.2.2.1
 let nI:=x.1.2.2.2.2
 bif decide (xO<nI) then
  let AR:an.D:=List.getD n5 (Int.toNat xO) ((0:Int),[],(0:Int),[],())
  bif iy [decide ((0:Int)≤xO),decide (xO<(↑(List.length n5):Int))] then
   bif(AR.1==Ea) then
    let r5:Int:=(↑(List.length ((AR.2.2.2).1)):Int)
    some (.inl (((IntKind.wrap .i64 (xO+(1:Int))),(IntKind.wrap .i64 (Ek+r5)),Ea,n5,nI),()))
   else
    some (.inl (((IntKind.wrap .i64 (xO+(1:Int))),Ek,Ea,n5,nI),()))
  else none
 else
  some (.inr (Ek,()))
def Wh.Uo:(((Int))×(Unit)):=default
def Wh.q32 (xs:(cr.D)×(Int)):Option (((Int))×(Unit)):=
 let gv:cr.D:=xs.1
 let w9:=xs.2
 let v_2:Int:=(↑(List.length gv.2.1):Int)
 let HN:Wh.PC:=(((0:Int),(0:Int),w9,gv.2.1,v_2),())
 bif lF Wh.Cs HN then
  let F8:=kG Wh.Cs Wh.Uo HN
  let n_31:=F8.1
  some (n_31,())
 else none
def Wh.q32':=en Wh.q32
theorem Wh.q32_v:OV Wh.q32 Wh.q32':=eB _
def Wh.q43 (xs:(Int)):Option (((Bool))×(Unit)):=
 let yq:=xs
 let v_1:=yq != yq
 some (v_1,())
def Wh.Lm:=en Wh.q43
theorem Wh.q43_v:OV Wh.q43 Wh.Lm:=eB _
def Wh.q18 (xs:(Int)×(Int)):Option (((Int))×(Unit)):=
 let yq:=xs.1
 let BT:=xs.2
 let r_2:=Wh.Lm yq
 bif iy [nQ (Wh.q43 yq)] then
  let r_3:=Wh.Lm BT
  bif iy [nQ (Wh.q43 BT)] then
   bif r_2.1 then
    bif r_3.1 then
     some ((0:Int),())
    else
     some ((-1:Int),())
   else
    bif r_3.1 then
     some ((1:Int),())
    else
     bif decide (yq<BT) then
      some ((-1:Int),())
     else
      bif decide (yq>BT) then
       some ((1:Int),())
      else
       some ((0:Int),())
  else none
 else none
def Wh.q18':=en Wh.q18
theorem Wh.q18_v:OV Wh.q18 Wh.q18':=eB _
def Wh.q12 (xs:(List UInt8)):Option (((Bool))×(Unit)):=
 let yq:=xs
 some ((!yq==yq),())
def Wh.KZ:=en Wh.q12
theorem Wh.q12_v:OV Wh.q12 Wh.KZ:=eB _
def Wh.q7 (xs:(List UInt8)×(List UInt8)):Option (((Int))×(Unit)):=
 let yq:=xs.1
 let BT:=xs.2
 let r_2:=Wh.KZ yq
 bif iy [nQ (Wh.q12 yq)] then
  let r_3:=Wh.KZ BT
  bif iy [nQ (Wh.q12 BT)] then
   bif r_2.1 then
    bif r_3.1 then
     some ((0:Int),())
    else
     some ((-1:Int),())
   else
    bif r_3.1 then
     some ((1:Int),())
    else
     bif Go.Op.bytesLess yq BT then
      some ((-1:Int),())
     else
      bif(!(Go.Op.bytesLess yq BT || yq==BT)) then
       some ((1:Int),())
      else
       some ((0:Int),())
  else none
 else none
def Wh.q7':=en Wh.q7
theorem Wh.q7_v:OV Wh.q7 Wh.q7':=eB _
abbrev Wh.OW:Type:=((Int)×(Int)×(List (Int))×(Int))×(Unit)
abbrev Wh.Y2:Type:=((((Int))×(Unit))⊕(((Int))×(Unit)))
def Wh.Db (x:Wh.OW):Option (Wh.OW⊕Wh.Y2):=
 let x_:=x.1.1
 let QH:=x.1.2.1
 let yT:List Int:=(x.1.2.2).1
 let yU:=x.1.2.2.2
 bif decide (x_<yU) then
  let ov:=List.getD yT (Int.toNat x_) (0:Int)
  bif iy [decide ((0:Int)≤x_),decide (x_<(↑(List.length yT):Int))] then
   let yj:=ov != QH
   bif yj then
    some (.inr (.inl (ov,())))
   else
    some (.inl (((IntKind.wrap .i64 (x_+(1:Int))),QH,yT,yU),()))
  else none
 else
  some (.inr (.inr (QH,())))
def Wh.TR:(((Int))×(Unit))⊕(((Int))×(Unit)):=.inl default
def Wh.Ey (xs:(List (Int))):Option (((Int))×(Unit)):=
 let Vp:=xs
 let x_17:Wh.OW:=(((0:Int),(0:Int),Vp,(↑(List.length Vp):Int)),())
 bif lF Wh.Db x_17 then
  sumC (kG Wh.Db Wh.TR x_17) (fun Ff=>
   let nI:=Ff.1
   some (nI,())) (fun H6=>
   let ab6:=H6.1
   some (ab6,()))
 else none
def Wh.OU:=en Wh.Ey
theorem Wh.TS:OV Wh.Ey Wh.OU:=eB _
def Wh.q34 (xs:(an.D)×(an.D)):Option (((Int))×(Unit)):=
 let bx:an.D:=xs.1
 let b_1:an.D:=xs.2
 let r_2:=Wh.q18' (bx.1,b_1.1)
 let r_3:=Wh.q7' (bx.2.1,b_1.2.1)
 let xb:=Wh.OU [r_2.1,r_3.1]
 bif iy [nQ (Wh.Ey [r_2.1,r_3.1]),nQ (Wh.q7 (bx.2.1,b_1.2.1)),nQ (Wh.q18 (bx.1,b_1.1))] then
  some (xb.1,())
 else none
def Wh.q34':=en Wh.q34
theorem Wh.Lj:OV Wh.q34 Wh.q34':=eB _
abbrev Wh.Om:Type:=((Int)×(Unit)×(Unit)×(Int)×(Int)×(Int))×((List (an.D)))
abbrev Wh.q0_l1Y:Type:=((((Unit)×(Unit)×(Int)×(Int)×(Int))×((List (an.D)))))
def Wh.Br (x:Wh.Om):Option (Wh.Om⊕Wh.q0_l1Y):=
 let zc:=x.1.1
 let a_24:=x.1.2.2.2.1
 let b_25:Int:=(x.1.2.2.2.2).1
 let i_26:Int:=(x.1.2.2.2.2).2
 let x4:List (an.D):=x.2
 let nW:=decide (zc>a_24)
 let r_29:=Wh.q34' (List.getD x4 (Int.toNat zc) ((0:Int),[],(0:Int),[],()),List.getD x4 (Int.toNat (IntKind.wrap .i64 (zc-(1:Int)))) ((0:Int),[],(0:Int),[],()))
 let y2:=bif nW then decide (r_29.1<(0:Int)) else false
 bif iy [!nW || nQ (Wh.q34 (List.getD x4 (Int.toNat zc) ((0:Int),[],(0:Int),[],()),List.getD x4 (Int.toNat (IntKind.wrap .i64 (zc-(1:Int)))) ((0:Int),[],(0:Int),[],()))),!nW || decide ((0:Int)≤IntKind.wrap .i64 (zc-(1:Int))),!nW || decide (IntKind.wrap .i64 (zc-(1:Int))<(↑(List.length x4):Int)),!nW || decide ((0:Int)≤zc),!nW || decide (zc<(↑(List.length x4):Int))] then
  bif y2 then
   let th:List (an.D):=List.set x4 (Int.toNat zc) (List.getD x4 (Int.toNat (IntKind.wrap .i64 (zc-(1:Int)))) ((0:Int),[],(0:Int),[],()))
   let pb_32:List (an.D):=List.set th (Int.toNat (IntKind.wrap .i64 (zc-(1:Int)))) (List.getD x4 (Int.toNat zc) ((0:Int),[],(0:Int),[],()))
   let AK:=IntKind.wrap .i64 (zc-(1:Int))
   bif iy [decide ((0:Int)≤AK),decide (AK<(↑(List.length th):Int)),decide ((0:Int)≤zc),decide (zc<(↑(List.length x4):Int)),decide ((0:Int)≤zc),decide (zc<(↑(List.length x4):Int)),decide ((0:Int)≤AK),decide (AK<(↑(List.length x4):Int))] then
    some (.inl ((AK,(),(),a_24,b_25,i_26),pb_32))
   else none
  else
   some (.inr (((),(),a_24,b_25,i_26),x4))
 else none
def Wh.Tr:(((Unit)×(Unit)×(Int)×(Int)×(Int))×((List (an.D)))):=default
abbrev Wh.Ol:Type:=((Unit)×(Int)×(Unit)×(Int)×(Int))×((List (an.D)))
abbrev Wh.q0_l0Y:Type:=(((Unit)×((List (an.D)))))
def Wh.A6 (x:Wh.Ol):Option (Wh.Ol⊕Wh.q0_l0Y):=
 let i_43:=x.1.2.1
 let a_44:=x.1.2.2.2.1
 let b_45:=x.1.2.2.2.2
 let Bo:List (an.D):=x.2
 bif decide (i_43<b_45) then
  let HR:Wh.Om:=((i_43,(),(),a_44,b_45,i_43),Bo)
  bif lF Wh.Br HR then
   let F_:=kG Wh.Br Wh.Tr HR
   let a_50:Int:=(F_.1.2.2).1
   let b_51:=F_.1.2.2.2.1
   let i_52:=F_.1.2.2.2.2
   let pb_53:List (an.D):=F_.2
   some (.inl (((),(IntKind.wrap .i64 (i_52+(1:Int))),(),a_50,b_51),pb_53))
  else none
 else
  some (.inr ((),Bo))
def Wh.Tq:((Unit)×((List (an.D)))):=default
def Wh.q0 (xs:(List (an.D))×(Int)×(Int)×(Unit)):Option ((Unit)×((List (an.D))×Unit)):=
 let Nt:List (an.D):=xs.1
 let a_1:=xs.2.1
 let b_2:=xs.2.2.1
 let HS:Wh.Ol:=(((),(IntKind.wrap .i64 (a_1+(1:Int))),(),a_1,b_2),Nt)
 bif lF Wh.A6 HS then
  let y_56:=kG Wh.A6 Wh.Tq HS
  let pb_57:List (an.D):=y_56.2
  some ((),pb_57,())
 else none
def Wh.q0':=en Wh.q0
theorem Wh.q0_v:OV Wh.q0 Wh.q0':=eB _
abbrev Wh.Pu:Type:=((Unit)×(Int)×(Int)×(Unit)×(Bool)×(Bool)×(Int))×((List (an.D)))
abbrev Wh.q1_l0Y:Type:=(((Unit)×((List (an.D)))))
def Wh.FV (x:Wh.Pu):Option (Wh.Pu⊕Wh.q1_l0Y):=
 let b_15:=x.1.2.1
 let a_16:Int:=(x.1.2.2).1
 let ab3:Bool:=(x.1.2.2.2.2).2.1
 let Xd:Int:=(x.1.2.2.2.2).2.2
 let Bn:List (an.D):=x.2
 bif decide ((IntKind.wrap .i64 (b_15-a_16))≤(12:Int)) then
  let zJ:Unit×List (an.D)×Unit:=Wh.q0' (Bn,a_16,b_15,())
  bif iy [nQ (Wh.q0 (Bn,a_16,b_15,()))] then
   some (.inr ((),zJ.2.1))
  else none
 else
  let r5:=Xd==(0:Int)
  bif r5 then
   none
  else
   bif !ab3 then
    none
   else
    none
def Wh.Ui:((Unit)×((List (an.D)))):=default
def Wh.q1 (xs:(List (an.D))×(Int)×(Int)×(Int)×(Unit)):Option ((Unit)×((List (an.D))×Unit)):=
 let Nt:List (an.D):=xs.1
 let a_1:=xs.2.1
 let b_2:=xs.2.2.1
 let Xe:Int:=(xs.2.2.2).1
 let x_25:Wh.Pu:=(((),b_2,a_1,(),true,true,Xe),Nt)
 bif lF Wh.FV x_25 then
  let Ac:=kG Wh.FV Wh.Ui x_25
  let x4:List (an.D):=Ac.2
  some ((),x4,())
 else none
def Wh.q1':=en Wh.q1
theorem Wh.q1_v:OV Wh.q1 Wh.q1':=eB _
def Wh.q4 (xs:(List (an.D))×(Unit)):Option ((Unit)×((List (an.D))×Unit)):=
 let yq:List (an.D):=xs.1
 let v_2:Int:=(↑(List.length yq):Int)
 let r_3:=Wh.qX (IntKind.wrap .u64 v_2)
 let gz:Unit×List (an.D)×Unit:=Wh.q1' (yq,(0:Int),v_2,r_3.1,())
 bif iy [nQ (Wh.q1 (yq,(0:Int),v_2,r_3.1,())),nQ (Wh.bits_Len (IntKind.wrap .u64 v_2))] then
  some ((),gz.2.1,())
 else none
def Wh.q4':=en Wh.q4
theorem Wh.q4_v:OV Wh.q4 Wh.q4':=eB _
def Wh.CB (xs:(cr.D)×(Int)×(List UInt8)×(List UInt8)):Option ((((Int)×((List (an.D))×(Unit)))×(Int))×(Unit)):=
 let gv:cr.D:=xs.1
 let w9:=xs.2.1
 let yy:=xs.2.2.1
 let BO:=xs.2.2.2
 let gz:(cr.D)×Unit:=Wh.Hi gv
 bif iy [nQ (Wh.Cz gv)] then
  let yD:=Wh.q15' (w9,yy,BO)
  bif iy [nQ (Wh.q15 (w9,yy,BO))] then
   bif !yD.1 then
    some ((gz.1,(1:Int)),())
   else
    let xb:=Wh.Ln (gv,w9,yy)
    bif iy [nQ (Wh.A_ (gv,w9,yy))] then
     bif decide (xb.1≥(0:Int)) then
      some ((gz.1,(2:Int)),())
     else
      let x_:Int:=(↑(List.length gv.2.1):Int)
      let r_14:=Wh.q32' (gv,w9)
      let xO:=bif bif x_==(8:Int) then true else gv.1==(99999:Int) then true else decide (IntKind.wrap .i64 (r_14.1+(↑(List.length BO):Int))>(500:Int))
      bif iy [(!!bif x_==(8:Int) then true else gv.1==(99999:Int)) || nQ (Wh.q32 (gv,w9))] then
       bif xO then
        some ((gz.1,(4:Int)),())
       else
        let El:=IntKind.wrap .i64 (gz.1.1+(1:Int))
        let FI:List (an.D):=[(w9,yy,El,BO,())]
        let pb_19:List (an.D):=gz.1.2.1++FI
        bif iy [decide (List.length (gz.1.2.1)+(1:Nat)≤dh)] then
         let yJ:Unit×List (an.D)×Unit:=Wh.q4' (pb_19,())
         bif iy [nQ (Wh.q4 (pb_19,()))] then
          let Hv:(cr.D)×Unit:=Wh.Hi (El,yJ.2.1,gz.1.2.2)
          bif iy [nQ (Wh.Cz (El,yJ.2.1,gz.1.2.2))] then
           some ((Hv.1,(0:Int)),())
          else none
         else none
        else none
      else none
    else none
  else none
 else none
def Wh.q71':=en Wh.CB
theorem Wh.q71_v:OV Wh.CB Wh.q71':=eB _
def Wh.Cr (xs:(cr.D)×(List UInt8)):Option ((((Int)×((List (an.D))×(Unit)))×(Bool))×(Unit)):=
 let gv:cr.D:=xs.1
 let n_:=xs.2
 let r_2:(List UInt8×List UInt8×Bool)×Unit:=Wh.tK (n_,[(58:UInt8)])
 bif iy [nQ (Wh.strings_Cut (n_,[(58:UInt8)]))] then
  let r_3:(List UInt8×List UInt8×Bool)×Unit:=Wh.tK (r_2.1.1,[(32:UInt8)])
  bif iy [nQ (Wh.strings_Cut (r_2.1.1,[(32:UInt8)]))] then
   let gz:(Int×Bool)×Unit:=Wh.rW r_3.1.1
   bif iy [nQ (Wh.rV r_3.1.1)] then
    let vN:=n_ == []
    let xb:xT.D:=Wh.q30' (gz.1.1,r_3.1.2.1,r_2.1.2.1)
    let y3:=bif vN then true else !xb.1==n_
    bif iy [!!vN || nQ (Wh.q30 (gz.1.1,r_3.1.2.1,r_2.1.2.1))] then
     bif y3 then
      some ((((0:Int),[],()),false),())
     else
      let yS:((cr.D)×Int)×Unit:=Wh.q46' (gv,gz.1.1,r_3.1.2.1)
      bif iy [nQ (Wh.q46 (gv,gz.1.1,r_3.1.2.1))] then
       bif(!r_2.1.2.1 == []) then
        let AW:((cr.D)×Int)×Unit:=Wh.q71' (gv,gz.1.1,r_3.1.2.1,r_2.1.2.1)
        bif iy [nQ (Wh.CB (gv,gz.1.1,r_3.1.2.1,r_2.1.2.1))] then
         some ((AW.1.1,(AW.1.2==(0:Int))),())
        else none
       else
        some ((yS.1.1,(yS.1.2==(0:Int))),())
      else none
    else none
   else none
  else none
 else none
def Wh.Lh:=en Wh.Cr
theorem Wh.Li:OV Wh.Cr Wh.Lh:=eB _
abbrev Wh.OY:Type:=((Unit)×(Int)×(Unit)×(List (List UInt8))×(Int))×(((Int)×((Unit)×(Unit)))×((Int)×((Unit)×(Unit)))×(List (an.D))×(List (an.D)))
abbrev Wh.Y3:Type:=((((Unit)×(Bool))×(((Int)×((Unit)×(Unit)))×(List (an.D))))⊕(((Unit)×(Unit))×(((Int)×((Unit)×(Unit)))×((Int)×((Unit)×(Unit)))×(List (an.D))×(List (an.D)))))
def Wh.Cd (x:Wh.OY):Option (Wh.OY⊕Wh.Y3):=
 let xO:=x.1.2.1
 let x5:List (List UInt8):=x.1.2.2.2.1
 let xe:=x.1.2.2.2.2
 let x6:=x.2.1.1
 let zk:=x.2.1.2.2
 let y5:=x.2.2.1.1
 let y6:Unit:=(x.2.2.1).2.2
 let zC:List (an.D):=(x.2.2.2).1
 let A4:List (an.D):=x.2.2.2.2
 bif decide (xO<xe) then
  let so:=List.getD x5 (Int.toNat xO) []
  bif iy [decide ((0:Int)≤xO),decide (xO<(↑(List.length x5):Int))] then
   let BL:((cr.D)×Bool)×Unit:=Wh.Lh ((y5,A4,y6),so)
   bif iy [nQ (Wh.Cr ((y5,A4,y6),so))] then
    bif(!BL.1.2) then
     some (.inr (.inl (((),false),((0:Int),(),()),[])))
    else
     some (.inl (((),(IntKind.wrap .i64 (xO+(1:Int))),(),x5,xe),(x6,(),zk),(BL.1.1.1,(),BL.1.1.2.2),zC,(BL.1.1.2).1))
   else none
  else none
 else
  some (.inr (.inr (((),()),(x6,(),zk),(y5,(),y6),zC,A4)))
def Wh.TT:(((Unit)×(Bool))×(((Int)×((Unit)×(Unit)))×(List (an.D))))⊕(((Unit)×(Unit))×(((Int)×((Unit)×(Unit)))×((Int)×((Unit)×(Unit)))×(List (an.D))×(List (an.D)))):=.inl default
def Wh.Ez (xs:(List (List UInt8))):Option ((((Int)×((List (an.D))×(Unit)))×(Bool))×(Unit)):=
 let LC:List (List UInt8):=xs
 let v_1:Int:=(↑(List.length LC):Int)
 let HO:Wh.OY:=(((),(0:Int),(),LC,v_1),((0:Int),(),()),((0:Int),(),()),[],[])
 bif lF Wh.Cd HO then
  sumC (kG Wh.Cd Wh.TT HO) (fun Fh=>
   let AK:=Fh.1.2
   let x7:=Fh.2.1.1
   let Ao:=Fh.2.1.2.2
   let NU:List (an.D):=Fh.2.2
   some (((x7,NU,Ao),AK),())) (fun z_32=>
   let C3:=z_32.2.2.1.1
   let ls_40:Unit:=(z_32.2.2.1).2.2
   let KF:List (an.D):=z_32.2.2.2.2
   some (((C3,KF,ls_40),true),()))
 else none
def Wh.OX:=en Wh.Ez
theorem Wh.TU:OV Wh.Ez Wh.OX:=eB _
abbrev Wh.OD:Type:=((Int)×(List (an.D))×(List (an.D))×(Int))×(Unit)
abbrev Wh.YU:Type:=((((Bool))×(Unit))⊕((Unit)×(Unit)))
def Wh.B9 (x:Wh.OD):Option (Wh.OD⊕Wh.YU):=
 let ov:=x.1.1
 let Qy:List (an.D):=x.1.2.1
 let Qx:List (an.D):=(x.1.2.2).1
 let x5:=x.1.2.2.2
 bif decide (ov<x5) then
  let n5:an.D:=List.getD Qx (Int.toNat ov) ((0:Int),[],(0:Int),[],())
  let nI:an.D:=List.getD Qy (Int.toNat ov) ((0:Int),[],(0:Int),[],())
  bif iy [decide ((0:Int)≤ov),decide (ov<(↑(List.length Qy):Int)),decide ((0:Int)≤ov),decide (ov<(↑(List.length Qx):Int))] then
   bif(!(n5.1==nI.1&&(n5.2.1==nI.2.1&&(n5.2.2.1==nI.2.2.1&&((n5.2.2.2).1==(nI.2.2.2).1&&true))))) then
    some (.inr (.inl (false,())))
   else
    some (.inl (((IntKind.wrap .i64 (ov+(1:Int))),Qy,Qx,x5),()))
  else none
 else
  some (.inr (.inr ((),())))
def Wh.TC:(((Bool))×(Unit))⊕((Unit)×(Unit)):=.inl default
def Wh.q10 (xs:(List (an.D))×(List (an.D))):Option (((Bool))×(Unit)):=
 let s1_0:List (an.D):=xs.1
 let s2_1:List (an.D):=xs.2
 let v_2:Int:=(↑(List.length s1_0):Int)
 let s4:Int:=(↑(List.length s2_1):Int)
 let yp:=v_2 != s4
 bif yp then
  some (false,())
 else
  let x_23:Wh.OD:=(((0:Int),s2_1,s1_0,v_2),())
  bif lF Wh.B9 x_23 then
   sumC (kG Wh.B9 Wh.TC x_23) (fun y_24=>
    let so:=y_24.1
    some (so,())) (fun _=>
    some (true,()))
  else none
def Wh.q10':=en Wh.q10
theorem Wh.q10_v:OV Wh.q10 Wh.q10':=eB _
def Wh.q79 (xs:(cr.D)×(cr.D)):Option (((Bool))×(Unit)):=
 let bx:cr.D:=xs.1
 let b_1:cr.D:=xs.2
 let v_2:=bx.1==b_1.1
 let r_3:=Wh.q10' (bx.2.1,b_1.2.1)
 let vN:=bif v_2 then r_3.1 else false
 bif iy [!v_2 || nQ (Wh.q10 (bx.2.1,b_1.2.1))] then
  some (vN,())
 else none
def Wh.q79':=en Wh.q79
theorem Wh.q79_v:OV Wh.q79 Wh.q79':=eB _
abbrev Wh.PD:Type:=((Int)×(Int)×(Int)×(List (e_.D))×(Int))×(Unit)
abbrev Wh.Zn:Type:=((((Int))×(Unit))⊕((Unit)×(Unit)))
def Wh.Cu (x:Wh.PD):Option (Wh.PD⊕Wh.Zn):=
 let ov:=x.1.1
 let Rb:=x.1.2.1
 let GK:Int:=(x.1.2.2).1
 let x5:List (e_.D):=x.1.2.2.2.1
 let xe:=x.1.2.2.2.2
 bif decide (ov<xe) then
  let Bn:e_.D:=List.getD x5 (Int.toNat ov) ((0:Int),(0:Int),(0:Int),(0:Int),false,())
  bif iy [decide ((0:Int)≤ov),decide (ov<(↑(List.length x5):Int))] then
   let yl:=bif(Bn.2.1==GK) then Bn.2.2.1==Rb else false
   bif yl then
    some (.inr (.inl (ov,())))
   else
    some (.inl (((IntKind.wrap .i64 (ov+(1:Int))),Rb,GK,x5,xe),()))
  else none
 else
  some (.inr (.inr ((),())))
def Wh.Up:(((Int))×(Unit))⊕((Unit)×(Unit)):=.inl default
def Wh.q33 (xs:(gd.D)×(Int)×(Int)):Option (((Int))×(Unit)):=
 let xR:gd.D:=xs.1
 let Fs:=xs.2.1
 let VB:=xs.2.2
 let s4:Int:=(↑(List.length xR.1):Int)
 let x_24:Wh.PD:=(((0:Int),VB,Fs,xR.1,s4),())
 bif lF Wh.Cu x_24 then
  sumC (kG Wh.Cu Wh.Up x_24) (fun y_25=>
   let DO:=y_25.1
   some (DO,())) (fun _=>
   some ((-1:Int),()))
 else none
def Wh.q33':=en Wh.q33
theorem Wh.q33_v:OV Wh.q33 Wh.q33':=eB _
abbrev Wh.Qh:Type:=((Int)×(Int)×(Int)×(List (e_.D))×(Int))×(Unit)
abbrev Wh.ZQ:Type:=((((Int))×(Unit)))
def Wh.CD (x:Wh.Qh):Option (Wh.Qh⊕Wh.ZQ):=
 let yj:=x.1.1
 let Ej:=x.1.2.1
 let D_:Int:=(x.1.2.2).1
 let xe:List (e_.D):=x.1.2.2.2.1
 let n5:=x.1.2.2.2.2
 bif decide (yj<n5) then
  let Em:e_.D:=List.getD xe (Int.toNat yj) ((0:Int),(0:Int),(0:Int),(0:Int),false,())
  bif iy [decide ((0:Int)≤yj),decide (yj<(↑(List.length xe):Int))] then
   let zL:=bif decide (Em.2.1>(0:Int)) then Em.1==D_ else false
   bif zL then
    some (.inl (((IntKind.wrap .i64 (yj+(1:Int))),(IntKind.wrap .i64 (Ej+(1:Int))),D_,xe,n5),()))
   else
    some (.inl (((IntKind.wrap .i64 (yj+(1:Int))),Ej,D_,xe,n5),()))
  else none
 else
  some (.inr (Ej,()))
def Wh.UT:(((Int))×(Unit)):=default
def Wh.q76 (xs:(gd.D)×(Int)):Option (((Int))×(Unit)):=
 let xR:gd.D:=xs.1
 let w9:=xs.2
 let v_2:Int:=(↑(List.length xR.1):Int)
 let HM:Wh.Qh:=(((0:Int),(0:Int),w9,xR.1,v_2),())
 bif lF Wh.CD HM then
  let Fg:=kG Wh.CD Wh.UT HM
  let n_29:=Fg.1
  some (n_29,())
 else none
def Wh.q76':=en Wh.q76
theorem Wh.FY:OV Wh.q76 Wh.q76':=eB _
abbrev Wh.Ou:Type:=((Int)×(Unit))×((gd.D))
abbrev Wh.YT:Type:=((((Bool))×(Unit))⊕((Unit)×(Unit)))
def Wh.Bw (x:Wh.Ou):Option (Wh.Ou⊕Wh.YT):=
 let F6:=x.1.1
 let N0:gd.D:=x.2
 bif decide (F6<(2:Int)) then
  let Lz:=Wh.q76' (N0,F6)
  bif iy [nQ (Wh.q76 (N0,F6))] then
   bif decide (Lz.1>(5:Int)) then
    some (.inr (.inl (false,())))
   else
    some (.inl (((IntKind.wrap .i64 (F6+(1:Int))),()),N0))
  else none
 else
  some (.inr (.inr ((),())))
def Wh.Tu:(((Bool))×(Unit))⊕((Unit)×(Unit)):=.inl default
abbrev Wh.Ot:Type:=((Int)×(Unit)×(List (e_.D))×(Int))×((gd.D))
abbrev Wh.YS:Type:=((((Bool))×(Unit))⊕(((Unit))×((gd.D))))
def Wh.Bt (x:Wh.Ot):Option (Wh.Ot⊕Wh.YS):=
 let nW:=x.1.1
 let za:List (e_.D):=(x.1.2.2).1
 let y2:=x.1.2.2.2
 let y7:gd.D:=x.2
 bif decide (nW<y2) then
  let xS:e_.D:=List.getD za (Int.toNat nW) ((0:Int),(0:Int),(0:Int),(0:Int),false,())
  bif iy [decide ((0:Int)≤nW),decide (nW<(↑(List.length za):Int))] then
   bif(xS.2.1==(0:Int)) then
    bif(!(xS.1==(0:Int)&&(xS.2.1==(0:Int)&&(xS.2.2.1==(0:Int)&&((xS.2.2.2).1==(0:Int)&&(xS.2.2.2.2.1==false&&true)))))) then
     some (.inr (.inl (false,())))
    else
     some (.inl (((IntKind.wrap .i64 (nW+(1:Int))),(),za,y2),y7))
   else
    let Hx:=Wh.G9 xS.1
    let CI:=Wh.yI (xS.2.1,(1:Int),(99999:Int))
    let CJ:=Wh.yI (xS.2.2.1,(0:Int),(23:Int))
    let Hz:=Wh.yI ((xS.2.2.2).1,(0:Int),(99999:Int))
    let HA:=Wh.q33' (y7,xS.2.1,xS.2.2.1)
    let v_48:=bif bif bif bif !Hx.1 then true else !CI.1 then true else !CJ.1 then true else !Hz.1 then true else HA.1 != nW
    bif iy [(!!bif bif bif !Hx.1 then true else !CI.1 then true else !CJ.1 then true else !Hz.1) || nQ (Wh.q33 (y7,xS.2.1,xS.2.2.1)),(!!bif bif !Hx.1 then true else !CI.1 then true else !CJ.1) || nQ (Wh.x9 ((xS.2.2.2).1,(0:Int),(99999:Int))),(!!bif !Hx.1 then true else !CI.1) || nQ (Wh.x9 (xS.2.2.1,(0:Int),(23:Int))),!!!Hx.1 || nQ (Wh.x9 (xS.2.1,(1:Int),(99999:Int))),nQ (Wh.AB xS.1)] then
     bif v_48 then
      some (.inr (.inl (false,())))
     else
      some (.inl (((IntKind.wrap .i64 (nW+(1:Int))),(),za,y2),y7))
    else none
  else none
 else
  some (.inr (.inr ((),y7)))
def Wh.Tt:(((Bool))×(Unit))⊕(((Unit))×((gd.D))):=.inl default
def Wh.C8 (xs:(gd.D)):Option (((Bool))×(Unit)):=
 let xR:gd.D:=xs
 let v_1:Int:=(↑(List.length xR.1):Int)
 let gz:=Wh.yI (xR.2.1,(0:Int),(7:Int))
 let vN:=bif v_1 != (8:Int) then true else !gz.1
 bif iy [!!v_1 != (8:Int) || nQ (Wh.x9 (xR.2.1,(0:Int),(7:Int)))] then
  bif vN then
   some (false,())
  else
   let x_50:Wh.Ot:=(((0:Int),(),xR.1,v_1),xR)
   bif lF Wh.Bt x_50 then
    sumC (kG Wh.Bt Wh.Tt x_50) (fun y_51=>
     let F5:=y_51.1
     some (F5,())) (fun z_52=>
     let NX:gd.D:=z_52.2
     let x_67:Wh.Ou:=(((0:Int),()),NX)
     bif lF Wh.Bw x_67 then
      sumC (kG Wh.Bw Wh.Tu x_67) (fun y_68=>
       let v_70:=y_68.1
       some (v_70,())) (fun _=>
       some (true,()))
     else none)
   else none
 else none
def Wh.Oq:=en Wh.C8
theorem Wh.Ov:OV Wh.C8 Wh.Oq:=eB _
def Wh.FZ (xs:(an.D)×(Int)):Option (((Bool))×(Unit)):=
 let i_0:an.D:=xs.1
 let v_1:=xs.2
 some ((i_0.2.2.1==v_1),())
def Wh.q8':=en Wh.FZ
theorem Wh.q8_v:OV Wh.FZ Wh.q8':=eB _
abbrev Wh.PA:Type:=((Int)×(List (an.D))×((Int)×(Unit))×(Int))×(Unit)
abbrev Wh.q2_l0Y:Type:=((((Int))×(Unit))⊕((Unit)×(Unit)))
def Wh.Cq (x:Wh.PA):Option (Wh.PA⊕Wh.q2_l0Y):=
 let yT:=x.1.1
 let E5:List (an.D):=x.1.2.1
 let f_13:Int:=(x.1.2.2).1.1
 let ov:=x.1.2.2.2
 bif decide (yT<ov) then
  let xO:an.D:=List.getD E5 (Int.toNat yT) ((0:Int),[],(0:Int),[],())
  let Bc:=Wh.q8' (xO,f_13)
  bif iy [nQ (Wh.FZ (xO,f_13)),decide ((0:Int)≤yT),decide (yT<(↑(List.length E5):Int))] then
   bif Bc.1 then
    some (.inr (.inl (yT,())))
   else
    some (.inl (((IntKind.wrap .i64 (yT+(1:Int))),E5,(f_13,()),ov),()))
  else none
 else
  some (.inr (.inr ((),())))
def Wh.Un:(((Int))×(Unit))⊕((Unit)×(Unit)):=.inl default
def Wh.q2 (xs:(List (an.D))×((Int)×(Unit))):Option (((Int))×(Unit)):=
 let fk:List (an.D):=xs.1
 let f_1:=xs.2
 let v_2:Int:=(↑(List.length fk):Int)
 let x_19:Wh.PA:=(((0:Int),fk,(f_1.1,()),v_2),())
 bif lF Wh.Cq x_19 then
  sumC (kG Wh.Cq Wh.Un x_19) (fun y_20=>
   let yl:=y_20.1
   some (yl,())) (fun _=>
   some ((-1:Int),()))
 else none
def Wh.Cl:=en Wh.q2
theorem Wh.q2_v:OV Wh.q2 Wh.Cl:=eB _
def Wh.Ce (xs:(cr.D)×(Int)):Option (((Int))×(Unit)):=
 let gv:cr.D:=xs.1
 let Fs:=xs.2
 let r_2:=Wh.Cl (gv.2.1,Fs,())
 bif iy [nQ (Wh.q2 (gv.2.1,Fs,()))] then
  some (r_2.1,())
 else none
def Wh.K8:=en Wh.Ce
theorem Wh.EI:OV Wh.Ce Wh.K8:=eB _
def Wh.Cm (xs:(yA.D)):Option (((Int))×(Unit)):=
 let xR:yA.D:=xs
 bif iy [xR.2.1 != (0:Int)] then
  some ((IntKind.wrap .i64 (Int.tdiv (IntKind.wrap .i64 ((IntKind.wrap .i64 (xR.1+xR.2.1))-(1:Int))) xR.2.1)),())
 else none
def Wh.FW:=en Wh.Cm
theorem Wh.q20_v:OV Wh.Cm Wh.FW:=eB _
abbrev Wh.Qg:Type:=((Unit)×(Unit))×(((Int)×((Int)×((Unit)×((Unit)×(Unit)))))×((Int)×((Int)×((Unit)×((Unit)×(Unit)))))×(List (Int))×(List (Int))×(List (Int))×(List (Int)))
abbrev Wh.ZP:Type:=((((Unit)×(Unit))×(((Int)×((Int)×((Unit)×((Unit)×(Unit)))))×((Int)×((Int)×((Unit)×((Unit)×(Unit)))))×(List (Int))×(List (Int))×(List (Int))×(List (Int)))))
def Wh.Hp (x:Wh.Qg):Option (Wh.Qg⊕Wh.ZP):=
 let yg:=x.2.1.1
 let AQ:Int:=(x.2.1.2).1
 let yw:Unit:=(x.2.1.2.2.2).2
 let we:=x.2.2.1.1
 let x6:Int:=(x.2.2.1).2.1
 let zk:Unit:=(x.2.2.1).2.2.2.2
 let y5:List Int:=(x.2.2.2).1
 let y6:=x.2.2.2.2.1
 let zC:List Int:=(x.2.2.2.2.2).1
 let A4:List Int:=(x.2.2.2.2.2).2
 let nC:=Wh.FW (yg,AQ,y5,y6,yw)
 bif iy [nQ (Wh.Cm (yg,AQ,y5,y6,yw))] then
  bif decide (nC.1>(24:Int)) then
   some (.inl (((),()),(yg,(IntKind.wrap .i64 (AQ+(1:Int))),(),(),yw),(we,x6,(),(),zk),y5,y6,zC,A4))
  else
   some (.inr (((),()),(we,x6,(),(),zk),(yg,AQ,(),(),yw),zC,A4,y5,y6))
 else none
def Wh.US:(((Unit)×(Unit))×(((Int)×((Int)×((Unit)×((Unit)×(Unit)))))×((Int)×((Int)×((Unit)×((Unit)×(Unit)))))×(List (Int))×(List (Int))×(List (Int))×(List (Int)))):=default
def Wh.q75 (xs:(Int)):Option ((((Int)×((Int)×((List (Int))×((List (Int))×(Unit))))))×(Unit)):=
 let GU:=xs
 let r_1:=Wh.yI (GU,(1:Int),(300:Int))
 bif iy [nQ (Wh.x9 (GU,(1:Int),(300:Int)))] then
  bif !r_1.1 then
   some (((0:Int),(0:Int),[],[],()),())
  else
   let As:Wh.Qg:=(((),()),(GU,(8:Int),(),(),()),((0:Int),(0:Int),(),(),()),[],[],[],[])
   bif lF Wh.Hp As then
    let zM:=kG Wh.Hp Wh.US As
    let zW:=zM.2.2.1.1
    let x7:Int:=(zM.2.2.1).2.1
    let Ao:Unit:=(zM.2.2.1).2.2.2.2
    let zf:List Int:=(zM.2.2.2.2.2).1
    let C3:List Int:=(zM.2.2.2.2.2).2
    let Lx:=Wh.FW (zW,x7,zf,C3,Ao)
    bif iy [nQ (Wh.Cm (zW,x7,zf,C3,Ao))] then
     let k_43:=IntKind.wrap .i64 (Int.tdiv (IntKind.wrap .i64 (Lx.1+(3:Int))) (4:Int))
     bif decide (k_43<Lx.1) then
      let Oj:List Int:=[k_43,Lx.1]
      some ((zW,x7,Oj,[(2:Int),(3:Int)],Ao),())
     else
      let Bo:List Int:=[Lx.1]
      some ((zW,x7,Bo,[(1:Int)],Ao),())
    else none
   else none
 else none
def Wh.q75':=en Wh.q75
theorem Wh.q75_v:OV Wh.q75 Wh.q75':=eB _
abbrev Wh.PV:Type:=((Int)×(Unit)×(List (e_.D))×(Int))×((cr.D))
abbrev Wh.Zx:Type:=((((Bool))×(Unit))⊕((Unit)×(Unit)))
def Wh.AE (x:Wh.PV):Option (Wh.PV⊕Wh.Zx):=
 let r5:=x.1.1
 let AI:List (e_.D):=(x.1.2.2).1
 let so:=x.1.2.2.2
 let yQ:cr.D:=x.2
 bif decide (r5<so) then
  let x8:e_.D:=List.getD AI (Int.toNat r5) ((0:Int),(0:Int),(0:Int),(0:Int),false,())
  bif iy [decide ((0:Int)≤r5),decide (r5<(↑(List.length AI):Int))] then
   bif(x8.2.1==(0:Int)) then
    some (.inl (((IntKind.wrap .i64 (r5+(1:Int))),(),AI,so),yQ))
   else
    let nS:=Wh.K8 (yQ,x8.2.1)
    bif iy [nQ (Wh.Ce (yQ,x8.2.1))] then
     let z7:(yA.D)×Unit:=Wh.q75' (↑(List.length (Prod.fst (Prod.snd (Prod.snd (Prod.snd (List.getD yQ.2.1 (Int.toNat nS.1) ((0:Int),[],(0:Int),[],()))))))):Int)
     let ym:=decide ((x8.2.2.2).1>(0:Int))
     let CJ:=Wh.FW (z7.1.1,z7.1.2.1,bif !bif bif ym then true else decide (nS.1<(0:Int)) then true else Prod.fst (List.getD yQ.2.1 (Int.toNat nS.1) ((0:Int),[],(0:Int),[],())) != x8.1 then(z7.1.2.2).1 else [],bif !bif bif ym then true else decide (nS.1<(0:Int)) then true else Prod.fst (List.getD yQ.2.1 (Int.toNat nS.1) ((0:Int),[],(0:Int),[],())) != x8.1 then z7.1.2.2.2.1 else [],z7.1.2.2.2.2)
     let HI:=bif bif bif ym then true else decide (nS.1<(0:Int)) then true else Prod.fst (List.getD yQ.2.1 (Int.toNat nS.1) ((0:Int),[],(0:Int),[],())) != x8.1 then true else decide (x8.2.2.1≥CJ.1)
     bif iy [(!!bif bif ym then true else decide (nS.1<(0:Int)) then true else Prod.fst (List.getD yQ.2.1 (Int.toNat nS.1) ((0:Int),[],(0:Int),[],())) != x8.1) || nQ (Wh.Cm (z7.1.1,z7.1.2.1,bif !bif bif ym then true else decide (nS.1<(0:Int)) then true else Prod.fst (List.getD yQ.2.1 (Int.toNat nS.1) ((0:Int),[],(0:Int),[],())) != x8.1 then(z7.1.2.2).1 else [],bif !bif bif ym then true else decide (nS.1<(0:Int)) then true else Prod.fst (List.getD yQ.2.1 (Int.toNat nS.1) ((0:Int),[],(0:Int),[],())) != x8.1 then z7.1.2.2.2.1 else [],z7.1.2.2.2.2)),(!!bif bif ym then true else decide (nS.1<(0:Int)) then true else Prod.fst (List.getD yQ.2.1 (Int.toNat nS.1) ((0:Int),[],(0:Int),[],())) != x8.1) || nQ (Wh.q75 (↑(List.length (Prod.fst (Prod.snd (Prod.snd (Prod.snd (List.getD yQ.2.1 (Int.toNat nS.1) ((0:Int),[],(0:Int),[],()))))))):Int)),(!!bif bif ym then true else decide (nS.1<(0:Int)) then true else Prod.fst (List.getD yQ.2.1 (Int.toNat nS.1) ((0:Int),[],(0:Int),[],())) != x8.1) || decide ((0:Int)≤nS.1),(!!bif bif ym then true else decide (nS.1<(0:Int)) then true else Prod.fst (List.getD yQ.2.1 (Int.toNat nS.1) ((0:Int),[],(0:Int),[],())) != x8.1) || decide (nS.1<(↑(List.length yQ.2.1):Int)),(!!bif ym then true else decide (nS.1<(0:Int))) || decide ((0:Int)≤nS.1),(!!bif ym then true else decide (nS.1<(0:Int))) || decide (nS.1<(↑(List.length yQ.2.1):Int))] then
      bif HI then
       some (.inr (.inl (false,())))
      else
       some (.inl (((IntKind.wrap .i64 (r5+(1:Int))),(),AI,so),yQ))
     else none
    else none
  else none
 else
  some (.inr (.inr ((),())))
def Wh.Uz:(((Bool))×(Unit))⊕((Unit)×(Unit)):=.inl default
def Wh.q50 (xs:(gd.D)×(cr.D)):Option (((Bool))×(Unit)):=
 let xR:gd.D:=xs.1
 let c_1:cr.D:=xs.2
 let r_2:=Wh.Oq xR
 bif iy [nQ (Wh.C8 xR)] then
  bif !r_2.1 then
   some (false,())
  else
   let s4:Int:=(↑(List.length xR.1):Int)
   let x_44:Wh.PV:=(((0:Int),(),xR.1,s4),c_1)
   bif lF Wh.AE x_44 then
    sumC (kG Wh.AE Wh.Uz x_44) (fun y_45=>
     let v_47:=y_45.1
     some (v_47,())) (fun _=>
     some (true,()))
   else none
 else none
def Wh.q50':=en Wh.q50
theorem Wh.q50_v:OV Wh.q50 Wh.q50':=eB _
def Wh.q44 (xs:(fN.D)):Option (((Bool))×(Unit)):=
 let yF:fN.D:=xs
 let r_1:=Wh.yI (yF.2.1,(0:Int),(99999:Int))
 let r_2:=Wh.yI (yF.2.2.1,(0:Int),(99999:Int))
 let yD:=Wh.yI (yF.1,(0:Int),yF.2.1)
 let yS:=Wh.yI ((yF.2.2.2).1,(0:Int),(99999:Int))
 let z_:=bif bif bif r_1.1 then r_2.1 else false then yD.1 else false then yS.1 else false
 bif iy [(!bif bif r_1.1 then r_2.1 else false then yD.1 else false) || nQ (Wh.x9 ((yF.2.2.2).1,(0:Int),(99999:Int))),(!bif r_1.1 then r_2.1 else false) || nQ (Wh.x9 (yF.1,(0:Int),yF.2.1)),!r_1.1 || nQ (Wh.x9 (yF.2.2.1,(0:Int),(99999:Int))),nQ (Wh.x9 (yF.2.1,(0:Int),(99999:Int)))] then
  some (z_,())
 else none
def Wh.q44':=en Wh.q44
theorem Wh.q44_v:OV Wh.q44 Wh.q44':=eB _
def Wh.q48 (xs:(Int)):Option (((Bool))×(Unit)):=
 let yx:=xs
 let r_1:=Wh.yI (yx,(0:Int),(3:Int))
 bif iy [nQ (Wh.x9 (yx,(0:Int),(3:Int)))] then
  some (r_1.1,())
 else none
def Wh.q48':=en Wh.q48
theorem Wh.PU:OV Wh.q48 Wh.q48':=eB _
def Wh.q77 (xs:(Int)):Option (((Int))×(Unit)):=
 let Nq:=xs
 some ((Int.tmod Nq (2:Int)),())
def Wh.q77':=en Wh.q77
theorem Wh.Qi:OV Wh.q77 Wh.q77':=eB _
abbrev Wh.PO:Type:=((Int)×(Unit)×(List (fT.D))×(Int))×((ct.D))
abbrev Wh.Zw:Type:=((((Bool))×(Unit))⊕((Unit)×(Unit)))
def Wh.BH (x:Wh.PO):Option (Wh.PO⊕Wh.Zw):=
 let AX:=x.1.1
 let v_89:List (fT.D):=(x.1.2.2).1
 let LP:=x.1.2.2.2
 let Ap:ct.D:=x.2
 bif decide (AX<LP) then
  let yY:fT.D:=List.getD v_89 (Int.toNat AX) ((0:Int),(0:Int),(0:Int),(0:Int),(0:Int),(0:Int),())
  bif iy [decide ((0:Int)≤AX),decide (AX<(↑(List.length v_89):Int))] then
   let F7:=decide (AX>(0:Int))
   let r_97:=Wh.q48' yY.1
   let r_100:=Wh.yI (yY.2.1,(1:Int),(99999:Int))
   let Qv:=Wh.yI (yY.2.2.1,(1:Int),(Ap.2.2.2).1.1)
   let v_104:=bif bif bif bif F7 then decide (Prod.fst (List.getD ((Ap.2.2.2.2.2).2.1) (Int.toNat (IntKind.wrap .i64 (AX-(1:Int)))) ((0:Int),(0:Int),(0:Int),(0:Int),(0:Int),(0:Int),()))≥yY.1) else false then true else !r_97.1 then true else !r_100.1 then true else !Qv.1
   bif iy [(!!bif bif bif F7 then decide (Prod.fst (List.getD ((Ap.2.2.2.2.2).2.1) (Int.toNat (IntKind.wrap .i64 (AX-(1:Int)))) ((0:Int),(0:Int),(0:Int),(0:Int),(0:Int),(0:Int),()))≥yY.1) else false then true else !r_97.1 then true else !r_100.1) || nQ (Wh.x9 (yY.2.2.1,(1:Int),(Ap.2.2.2).1.1)),(!!bif bif F7 then decide (Prod.fst (List.getD ((Ap.2.2.2.2.2).2.1) (Int.toNat (IntKind.wrap .i64 (AX-(1:Int)))) ((0:Int),(0:Int),(0:Int),(0:Int),(0:Int),(0:Int),()))≥yY.1) else false then true else !r_97.1) || nQ (Wh.x9 (yY.2.1,(1:Int),(99999:Int))),(!!bif F7 then decide (Prod.fst (List.getD ((Ap.2.2.2.2.2).2.1) (Int.toNat (IntKind.wrap .i64 (AX-(1:Int)))) ((0:Int),(0:Int),(0:Int),(0:Int),(0:Int),(0:Int),()))≥yY.1) else false) || nQ (Wh.q48 yY.1),!F7 || decide ((0:Int)≤IntKind.wrap .i64 (AX-(1:Int))),!F7 || decide (IntKind.wrap .i64 (AX-(1:Int))<(↑(List.length ((Ap.2.2.2.2.2).2.1)):Int))] then
    bif v_104 then
     some (.inr (.inl (false,())))
    else
     let Lu:=Wh.K8 ((Ap.2.2.2).1,yY.2.2.1)
     bif iy [nQ (Wh.Ce ((Ap.2.2.2).1,yY.2.2.1))] then
      let LL:=decide (Lu.1≥(0:Int))
      let r_107:=Wh.q77' yY.1
      let BP:=bif LL then Prod.fst (List.getD ((Ap.2.2.2).1.2.1) (Int.toNat Lu.1) ((0:Int),[],(0:Int),[],())) != r_107.1 else false
      bif iy [!LL || nQ (Wh.q77 yY.1),!LL || decide ((0:Int)≤Lu.1),!LL || decide (Lu.1<(↑(List.length ((Ap.2.2.2).1.2.1)):Int))] then
       bif BP then
        some (.inr (.inl (false,())))
       else
        let Ht:=Wh.yI ((yY.2.2.2).1,(0:Int),(9999:Int))
        let r_110:=Wh.yI (yY.2.2.2.2.1,(0:Int),(3:Int))
        let r_113:=Wh.yI ((yY.2.2.2.2.2).1,(0:Int),Ap.2.1)
        let v_114:=bif bif !Ht.1 then true else !r_110.1 then true else !r_113.1
        bif iy [(!!bif !Ht.1 then true else !r_110.1) || nQ (Wh.x9 ((yY.2.2.2.2.2).1,(0:Int),Ap.2.1)),!!!Ht.1 || nQ (Wh.x9 (yY.2.2.2.2.1,(0:Int),(3:Int))),nQ (Wh.x9 ((yY.2.2.2).1,(0:Int),(9999:Int)))] then
         bif v_114 then
          some (.inr (.inl (false,())))
         else
          some (.inl (((IntKind.wrap .i64 (AX+(1:Int))),(),v_89,LP),Ap))
        else none
      else none
     else none
   else none
  else none
 else
  some (.inr (.inr ((),())))
def Wh.Uy:(((Bool))×(Unit))⊕((Unit)×(Unit)):=.inl default
abbrev Wh.PN:Type:=((Int)×(Unit)×(List (fN.D))×(Int))×((ct.D))
abbrev Wh.Zv:Type:=((((Bool))×(Unit))⊕(((Unit))×((ct.D))))
def Wh.Cy (x:Wh.PN):Option (Wh.PN⊕Wh.Zv):=
 let HH:=x.1.1
 let HI:List (fN.D):=(x.1.2.2).1
 let F4:=x.1.2.2.2
 let NV:ct.D:=x.2
 bif decide (HH<F4) then
  let Bo:fN.D:=List.getD HI (Int.toNat HH) ((0:Int),(0:Int),(0:Int),(0:Int),())
  bif iy [decide ((0:Int)≤HH),decide (HH<(↑(List.length HI):Int))] then
   let HA:=Wh.q44' Bo
   let v_52:=bif bif bif !HA.1 then true else Bo.2.1 != (40:Int) then true else Bo.2.2.1 != (8:Int) then true else decide ((Bo.2.2.2).1>NV.2.1)
   bif iy [nQ (Wh.q44 Bo)] then
    bif v_52 then
     some (.inr (.inl (false,())))
    else
     some (.inl (((IntKind.wrap .i64 (HH+(1:Int))),(),HI,F4),NV))
   else none
  else none
 else
  some (.inr (.inr ((),NV)))
def Wh.Ux:(((Bool))×(Unit))⊕(((Unit))×((ct.D))):=.inl default
def Wh.q47 (xs:(ct.D)):Option (((Bool))×(Unit)):=
 let fk:ct.D:=xs
 let r_1:=Wh.yI (fk.2.1,(0:Int),(99999:Int))
 let v_2:=bif !r_1.1 then true else decide ((↑(List.length (fk.2.2.1)):Int)>(9000:Int))
 bif iy [nQ (Wh.x9 (fk.2.1,(0:Int),(99999:Int)))] then
  bif v_2 then
   some (false,())
  else
   let r_3:(List (List UInt8)×Int)×Unit:=Wh.Lo (fk.2.2.1)
   bif iy [nQ (Wh.CC (fk.2.2.1))] then
    let gz:((cr.D)×Bool)×Unit:=Wh.OX r_3.1.1
    bif iy [nQ (Wh.Ez r_3.1.1)] then
     bif(!gz.1.2) then
      some (false,())
     else
      bif(!fk.1) then
       let y3:Bool:=(fk.2.2.2).1.1==(0:Int)
       let XU:=bif bif bif y3 then(↑(List.length ((fk.2.2.2).1.2.1)):Int)==(0:Int) else false then(↑(List.length ((fk.2.2.2.2.1).1)):Int)==(0:Int) else false then(fk.2.2.2.2.1).2.1==(0:Int) else false
       let ov:=bif XU then(↑(List.length ((fk.2.2.2.2.2).1)):Int)==(0:Int) else false
       let xO:=bif ov then(↑(List.length ((fk.2.2.2.2.2).2.1)):Int)==(0:Int) else false
       some (xO,())
      else
       let x5:Int:=(↑(List.length (fk.2.2.1)):Int)
       let yJ:=Wh.q79' (gz.1.1,(fk.2.2.2).1)
       let zJ:=Wh.q50' (fk.2.2.2.2.1,(fk.2.2.2).1)
       let so:=bif bif bif r_3.1.2 != x5 then true else !yJ.1 then true else !zJ.1 then true else(↑(List.length ((fk.2.2.2.2.2).1)):Int) != (2:Int)
       bif iy [(!!bif r_3.1.2 != x5 then true else !yJ.1) || nQ (Wh.q50 (fk.2.2.2.2.1,(fk.2.2.2).1)),!!r_3.1.2 != x5 || nQ (Wh.q79 (gz.1.1,(fk.2.2.2).1))] then
        bif so then
         some (false,())
        else
         let DO:Int:=(↑(List.length ((fk.2.2.2.2.2).1)):Int)
         let x_54:Wh.PN:=(((0:Int),(),(fk.2.2.2.2.2).1,DO),fk)
         bif lF Wh.Cy x_54 then
          sumC (kG Wh.Cy Wh.Ux x_54) (fun y_55=>
           let v_57:=y_55.1
           some (v_57,())) (fun z_56=>
           let NZ:ct.D:=z_56.2
           let v_59:Int:=(↑(List.length ((NZ.2.2.2.2.2).2.1)):Int)
           let x_116:Wh.PO:=(((0:Int),(),(NZ.2.2.2.2.2).2.1,v_59),NZ)
           bif lF Wh.BH x_116 then
            sumC (kG Wh.BH Wh.Uy x_116) (fun y_117=>
             let LM:=y_117.1
             some (LM,())) (fun _=>
             some (true,()))
           else none)
         else none
       else none
    else none
   else none
 else none
def Wh.q47':=en Wh.q47
theorem Wh.PR:OV Wh.q47 Wh.q47':=eB _
def Wh.En (xs:(an.D)×(an.D)):Option (((Bool))×(Unit)):=
 let bx:an.D:=xs.1
 let b_1:an.D:=xs.2
 bif(bx.1 != b_1.1) then
  some (false,())
 else
  bif(!bx.2.1==b_1.2.1) then
   some (false,())
  else
   bif(bx.2.2.1 != b_1.2.2.1) then
    some (false,())
   else
    bif(!(bx.2.2.2).1==(b_1.2.2.2).1) then
     some (false,())
    else
     some (true,())
def Wh.Ow:=en Wh.En
theorem Wh.Tv:OV Wh.En Wh.Ow:=eB _
abbrev Wh.Qj:Type:=((Int)×(List (an.D))×(List (an.D)))×(Unit)
abbrev Wh.ZR:Type:=((((Bool))×(Unit))⊕((Unit)×(Unit)))
def Wh.EU (x:Wh.Qj):Option (Wh.Qj⊕Wh.ZR):=
 let gT:=x.1.1
 let zO:List (an.D):=x.1.2.1
 let zN:List (an.D):=x.1.2.2
 let xe:Int:=(↑(List.length zN):Int)
 bif decide (gT<xe) then
  let nI:an.D:=List.getD zN (Int.toNat gT) ((0:Int),[],(0:Int),[],())
  let w8:an.D:=List.getD zO (Int.toNat gT) ((0:Int),[],(0:Int),[],())
  let zJ:=Wh.Ow (nI,w8)
  bif iy [nQ (Wh.En (nI,w8)),decide ((0:Int)≤gT),decide (gT<(↑(List.length zO):Int)),decide ((0:Int)≤gT),decide (gT<xe)] then
   bif !zJ.1 then
    some (.inr (.inl (false,())))
   else
    some (.inl (((IntKind.wrap .i64 (gT+(1:Int))),zO,zN),()))
  else none
 else
  some (.inr (.inr ((),())))
def Wh.UU:(((Bool))×(Unit))⊕((Unit)×(Unit)):=.inl default
def Wh.q81 (xs:(List (an.D))×(List (an.D))):Option (((Bool))×(Unit)):=
 let bx:List (an.D):=xs.1
 let b_1:List (an.D):=xs.2
 let v_2:Int:=(↑(List.length bx):Int)
 let s4:Int:=(↑(List.length b_1):Int)
 let yp:=v_2 != s4
 bif yp then
  some (false,())
 else
  let x_25:Wh.Qj:=(((0:Int),b_1,bx),())
  bif lF Wh.EU x_25 then
   sumC (kG Wh.EU Wh.UU x_25) (fun Ac=>
    let nW:=Ac.1
    some (nW,())) (fun _=>
    some (true,()))
  else none
def Wh.q81':=en Wh.q81
theorem Wh.q81_v:OV Wh.q81 Wh.q81':=eB _
end
