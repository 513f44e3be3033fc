import Derived.Test.YtfeoanopdlpabaaGreatDoorX6
open Go Go.Ab
noncomputable section
def eB {α β:Type} [Inhabited β] (f:α→Option β) (x:α):β:=match f x with | some y=>y|none=>default
abbrev OV {α β:Type} (f:α→Option β) (g:α→β):Prop:=∀x y,f x=some y→g x=y
theorem fe {α β:Type} [Inhabited β] (f:α→Option β):OV f (eB f):=fun x y h=>by unfold eB;rw[h]
abbrev Rz:Ty:=(.pair (.int .i64) (.pair (.int .i64) (.pair .bool (.pair (.int .u8) .unit))))
abbrev Rz.D:Type:=(Int)×((Int)×((Bool)×((Int)×(Unit))))
abbrev RA:Ty:=(.pair .str (.pair (.int .u64) .unit))
abbrev RA.D:Type:=(List UInt8)×((Int)×(Unit))
abbrev bx:Ty:=(.pair (.int .i64) (.pair (.lst (.pair (.int .i64) (.pair .str (.pair (.int .i64) (.pair .str .unit))))) .unit))
abbrev bx.D:Type:=(Int)×((List ((Int)×((List UInt8)×((Int)×((List UInt8)×(Unit))))))×(Unit))
abbrev fN:Ty:=(.pair (.lst (.pair (.int .i64) (.pair (.int .i64) (.pair (.int .i64) (.pair (.int .i64) (.pair .bool .unit)))))) (.pair (.int .i64) .unit))
abbrev fN.D:Type:=(List ((Int)×((Int)×((Int)×((Int)×((Bool)×(Unit)))))))×((Int)×(Unit))
abbrev cx:Ty:=(.pair .bool (.pair (.int .i64) (.pair .str (.pair bx (.pair fN (.pair (.lst (.pair (.int .i64) (.pair (.int .i64) (.pair (.int .i64) (.pair (.int .i64) .unit))))) (.pair (.lst (.pair (.int .i64) (.pair (.int .i64) (.pair (.int .i64) (.pair (.int .i64) (.pair (.int .i64) (.pair (.int .i64) .unit))))))) .unit)))))))
abbrev cx.D:Type:=(Bool)×((Int)×((List UInt8)×((bx.D)×((fN.D)×((List ((Int)×((Int)×((Int)×((Int)×(Unit))))))×((List ((Int)×((Int)×((Int)×((Int)×((Int)×((Int)×(Unit))))))))×(Unit)))))))
abbrev yD:Ty:=(.pair (.int .i64) (.pair (.int .i64) (.pair (.lst (.int .i64)) (.pair (.lst (.int .i64)) .unit))))
abbrev yD.D:Type:=(Int)×((Int)×((List (Int))×((List (Int))×(Unit))))
abbrev FD:Ty:=(.pair (.int .i64) (.pair (.int .i64) (.pair (.lst (.pair (.lst (.int .i64)) (.pair .str .unit))) .unit)))
abbrev FD.D:Type:=(Int)×((Int)×((List ((List (Int))×((List UInt8)×(Unit))))×(Unit)))
abbrev FC:Ty:=(.pair yD (.pair FD .unit))
abbrev FC.D:Type:=(yD.D)×((FD.D)×(Unit))
abbrev C4:Ty:=(.pair (.int .i64) (.pair (.int .i64) (.pair (.int .i64) (.pair .str (.pair (.int .i64) (.pair FC .unit))))))
abbrev C4.D:Type:=(Int)×((Int)×((Int)×((List UInt8)×((Int)×((FC.D)×(Unit))))))
abbrev Ih:Ty:=(.pair (.int .i64) (.pair (.int .i64) (.pair (.int .i64) (.pair (.int .i64) (.pair (.int .i64) (.pair .str (.pair .str .unit)))))))
abbrev Ih.D:Type:=(Int)×((Int)×((Int)×((Int)×((Int)×((List UInt8)×((List UInt8)×(Unit)))))))
abbrev Ii:Ty:=(.pair cx (.pair (.lst C4) (.pair (.lst (.pair (.int .i64) (.pair .str (.pair .bool .unit)))) (.pair (.lst (.pair (.int .i64) (.pair .str (.pair (.int .i64) (.pair .str .unit))))) .unit))))
abbrev Ii.D:Type:=(cx.D)×((List (C4.D))×((List ((Int)×((List UInt8)×((Bool)×(Unit)))))×((List ((Int)×((List UInt8)×((Int)×((List UInt8)×(Unit))))))×(Unit))))
abbrev an:Ty:=(.pair (.int .i64) (.pair .str (.pair (.int .i64) (.pair .str .unit))))
abbrev an.D:Type:=(Int)×((List UInt8)×((Int)×((List UInt8)×(Unit))))
abbrev ct:Ty:=(.pair (.int .i64) (.pair (.int .i64) (.pair (.int .i64) (.pair (.int .i64) (.pair .bool .unit)))))
abbrev ct.D:Type:=(Int)×((Int)×((Int)×((Int)×((Bool)×(Unit)))))
abbrev fT:Ty:=(.pair (.int .i64) (.pair (.int .i64) (.pair (.int .i64) (.pair (.int .i64) .unit))))
abbrev fT.D:Type:=(Int)×((Int)×((Int)×((Int)×(Unit))))
abbrev gd:Ty:=(.pair (.int .i64) (.pair (.int .i64) fT))
abbrev gd.D:Type:=(Int)×((Int)×(fT.D))
abbrev Gz:Ty:=(.pair (.int .i64) (.pair .str (.pair .bool .unit)))
abbrev Gz.D:Type:=(Int)×((List UInt8)×((Bool)×(Unit)))
abbrev Mk:Ty:=(.pair (.int .i64) (.pair (.int .i64) (.pair (.int .i64) .unit)))
abbrev Mk.D:Type:=(Int)×((Int)×((Int)×(Unit)))
abbrev Gy:Ty:=(.pair (.lst (.int .i64)) (.pair .str .unit))
abbrev Gy.D:Type:=(List (Int))×((List UInt8)×(Unit))
abbrev xU:Ty:=(.pair .str .unit)
abbrev xU.D:Type:=(List UInt8)×(Unit)
abbrev RB:Ty:=(.pair (.int .u8) (.pair (.int .u8) .unit))
abbrev RB.D:Type:=(Int)×((Int)×(Unit))
def Wh.EU (xs:(an.D)×(Int)):Option (((Int))×(Unit)):=
 let cr:an.D:=xs.1
 let left_1:=xs.2
 let v_2:Int:=(↑(List.length cr.2.1):Int)
 let zq:=IntKind.wrap .i64 (left_1-v_2)
 bif decide (zq<(0:Int)) then
  some ((-1:Int),())
 else
  let zl:Int:=(↑(List.length ((cr.2.2.2).1)):Int)
  let S8:=IntKind.wrap .i64 (zq-zl)
  bif decide (S8<(0:Int)) then
   some ((-1:Int),())
  else
   some (S8,())
def Wh.Pt:=eB Wh.EU
theorem Wh.Pu:OV Wh.EU Wh.Pt:=fe _
abbrev Wh.Rh:Type:=((Int)×(Int)×(List (an.D)))×(Unit)
abbrev Wh.abc:Type:=((((Int))×(Unit))⊕(((Int))×(Unit)))
def Wh.D3 (x:Wh.Rh):Option (Wh.Rh⊕Wh.abc):=
 let x4:=x.1.1
 let Oq:=x.1.2.1
 let Ek:List (an.D):=x.1.2.2
 let nc:Int:=(↑(List.length Ek):Int)
 bif decide (x4<nc) then
  let so:an.D:=List.getD Ek (Int.toNat x4) ((0:Int),[],(0:Int),[],())
  let zQ:=Wh.Pt (so,Oq)
  bif iy [nQ (Wh.EU (so,Oq)),decide ((0:Int)≤x4),decide (x4<nc)] then
   bif decide (zQ.1<(0:Int)) then
    some (.inr (.inl ((-1:Int),())))
   else
    some (.inl (((IntKind.wrap .i64 (x4+(1:Int))),zQ.1,Ek),()))
  else none
 else
  some (.inr (.inr (Oq,())))
def Wh.Ri:(((Int))×(Unit))⊕(((Int))×(Unit)):=.inl default
def Wh.q87 (xs:(List (an.D))×(Int)):Option (((Int))×(Unit)):=
 let cr:List (an.D):=xs.1
 let left_1:=xs.2
 let v_2:Int:=(↑(List.length cr):Int)
 let zq:=IntKind.wrap .i64 (left_1-v_2)
 bif decide (zq<(0:Int)) then
  some ((-1:Int),())
 else
  let Ir:Wh.Rh:=(((0:Int),zq,cr),())
  bif lF Wh.D3 Ir then
   sumC (kG Wh.D3 Wh.Ri Ir) (fun ID=>
    let zj:=ID.1
    some (zj,())) (fun z_28=>
    let Ye:=z_28.1
    some (Ye,()))
  else none
def Wh.q87':=eB Wh.q87
theorem Wh.q87_v:OV Wh.q87 Wh.q87':=fe _
def Wh.E9 (xs:(bx.D)×(Int)):Option (((Int))×(Unit)):=
 let cr:bx.D:=xs.1
 let left_1:=xs.2
 let r_2:=Wh.q87' (cr.2.1,left_1)
 bif iy [nQ (Wh.q87 (cr.2.1,left_1))] then
  bif decide (r_2.1<(0:Int)) then
   some ((-1:Int),())
  else
   some (r_2.1,())
 else none
def Wh.P3:=eB Wh.E9
theorem Wh.U2:OV Wh.E9 Wh.P3:=fe _
def Wh.q62 (xs:(List (ct.D))×(Int)):Option (((Int))×(Unit)):=
 let cr:List (ct.D):=xs.1
 let left_1:=xs.2
 let v_2:Int:=(↑(List.length cr):Int)
 let zq:=IntKind.wrap .i64 (left_1-v_2)
 bif decide (zq<(0:Int)) then
  some ((-1:Int),())
 else
  some (zq,())
def Wh.q62':=eB Wh.q62
theorem Wh.q62_v:OV Wh.q62 Wh.q62':=fe _
def Wh.EW (xs:(fN.D)×(Int)):Option (((Int))×(Unit)):=
 let cr:fN.D:=xs.1
 let left_1:=xs.2
 let r_2:=Wh.q62' (cr.1,left_1)
 bif iy [nQ (Wh.q62 (cr.1,left_1))] then
  bif decide (r_2.1<(0:Int)) then
   some ((-1:Int),())
  else
   some (r_2.1,())
 else none
def Wh.Pv:=eB Wh.EW
theorem Wh.UE:OV Wh.EW Wh.Pv:=fe _
def Wh.q41 (xs:(List (fT.D))×(Int)):Option (((Int))×(Unit)):=
 let cr:List (fT.D):=xs.1
 let left_1:=xs.2
 let v_2:Int:=(↑(List.length cr):Int)
 let zq:=IntKind.wrap .i64 (left_1-v_2)
 bif decide (zq<(0:Int)) then
  some ((-1:Int),())
 else
  some (zq,())
def Wh.q41':=eB Wh.q41
theorem Wh.q41_v:OV Wh.q41 Wh.q41':=fe _
def Wh.q63 (xs:(List (gd.D))×(Int)):Option (((Int))×(Unit)):=
 let cr:List (gd.D):=xs.1
 let left_1:=xs.2
 let v_2:Int:=(↑(List.length cr):Int)
 let zq:=IntKind.wrap .i64 (left_1-v_2)
 bif decide (zq<(0:Int)) then
  some ((-1:Int),())
 else
  some (zq,())
def Wh.q63':=eB Wh.q63
theorem Wh.q63_v:OV Wh.q63 Wh.q63':=fe _
def Wh.q64 (xs:(cx.D)×(Int)):Option (((Int))×(Unit)):=
 let cr:cx.D:=xs.1
 let left_1:=xs.2
 let v_2:Int:=(↑(List.length (cr.2.2.1)):Int)
 let zq:=IntKind.wrap .i64 (left_1-v_2)
 bif decide (zq<(0:Int)) then
  some ((-1:Int),())
 else
  let xd:=Wh.P3 ((cr.2.2.2).1,zq)
  bif iy [nQ (Wh.E9 ((cr.2.2.2).1,zq))] then
   bif decide (xd.1<(0:Int)) then
    some ((-1:Int),())
   else
    let yJ:=Wh.Pv (cr.2.2.2.2.1,xd.1)
    bif iy [nQ (Wh.EW (cr.2.2.2.2.1,xd.1))] then
     bif decide (yJ.1<(0:Int)) then
      some ((-1:Int),())
     else
      let A5:=Wh.q41' ((cr.2.2.2.2.2).1,yJ.1)
      bif iy [nQ (Wh.q41 ((cr.2.2.2.2.2).1,yJ.1))] then
       bif decide (A5.1<(0:Int)) then
        some ((-1:Int),())
       else
        let zh:=Wh.q63' ((cr.2.2.2.2.2).2.1,A5.1)
        bif iy [nQ (Wh.q63 ((cr.2.2.2.2.2).2.1,A5.1))] then
         bif decide (zh.1<(0:Int)) then
          some ((-1:Int),())
         else
          some (zh.1,())
        else none
      else none
    else none
  else none
def Wh.q64':=eB Wh.q64
theorem Wh.q64_v:OV Wh.q64 Wh.q64':=fe _
def Wh.Gj (xs:(an.D)):Option (((an.D))×(Unit)):=
 let cr:an.D:=xs
 some ((cr.1,cr.2.1,cr.2.2.1,(cr.2.2.2).1,()),())
def Wh.Pw:=eB Wh.Gj
theorem Wh.UF:OV Wh.Gj Wh.Pw:=fe _
abbrev Wh.Rj:Type:=((Int)×(List (an.D))×(Unit))×((List (an.D)))
abbrev Wh.abd:Type:=((((Unit))×((List (an.D)))))
def Wh.D4 (x:Wh.Rj):Option (Wh.Rj⊕Wh.abd):=
 let vT:=x.1.1
 let zc:List (an.D):=x.1.2.1
 let yH:List (an.D):=x.2
 let yp:Int:=(↑(List.length zc):Int)
 bif decide (vT<yp) then
  let AN:(an.D)×Unit:=Wh.Pw (List.getD zc (Int.toNat vT) ((0:Int),[],(0:Int),[],()))
  let wh:List (an.D):=List.set yH (Int.toNat vT) AN.1
  let nc:an.D:=List.getD zc (Int.toNat vT) ((0:Int),[],(0:Int),[],())
  bif iy [decide ((0:Int)≤vT),decide (vT<(↑(List.length yH):Int)),nQ (Wh.Gj nc),decide ((0:Int)≤vT),decide (vT<yp)] then
   some (.inl (((IntKind.wrap .i64 (vT+(1:Int))),zc,()),wh))
  else none
 else
  some (.inr ((),yH))
def Wh.VX:(((Unit))×((List (an.D)))):=default
def Wh.q89 (xs:(List (an.D))):Option (((List (an.D)))×(Unit)):=
 let cr:List (an.D):=xs
 let zf:List (an.D):=@List.replicate (Int×List UInt8×Int×List UInt8×Unit) (Int.toNat (↑(List.length cr):Int)) ((0:Int),[],(0:Int),[],())
 let v_2:Int:=(↑(List.length cr):Int)
 bif iy [decide ((0:Int)≤v_2),decide (v_2≤v_2),decide (v_2≤(↑dh:Int))] then
  let x_21:Wh.Rj:=(((0:Int),cr,()),zf)
  bif lF Wh.D4 x_21 then
   let C8:=kG Wh.D4 Wh.VX x_21
   let yd:List (an.D):=C8.2
   some (yd,())
  else none
 else none
def Wh.q89':=eB Wh.q89
theorem Wh.q89_v:OV Wh.q89 Wh.q89':=fe _
def Wh.E_ (xs:(bx.D)):Option ((((Int)×((List (an.D))×(Unit))))×(Unit)):=
 let cr:bx.D:=xs
 let r_1:List (an.D)×Unit:=Wh.q89' cr.2.1
 bif iy [nQ (Wh.q89 cr.2.1)] then
  some ((cr.1,r_1.1,()),())
 else none
def Wh.P4:=eB Wh.E_
theorem Wh.U3:OV Wh.E_ Wh.P4:=fe _
def Wh.q88 (xs:(ct.D)):Option (((ct.D))×(Unit)):=
 let cr:ct.D:=xs
 some ((cr.1,cr.2.1,cr.2.2.1,(cr.2.2.2).1,cr.2.2.2.2.1,()),())
def Wh.q88':=eB Wh.q88
theorem Wh.q88_v:OV Wh.q88 Wh.q88':=fe _
abbrev Wh.Q5:Type:=((Int)×(List (ct.D))×(Unit))×((List (ct.D)))
abbrev Wh.aa3:Type:=((((Unit))×((List (ct.D)))))
def Wh.DX (x:Wh.Q5):Option (Wh.Q5⊕Wh.aa3):=
 let vT:=x.1.1
 let zc:List (ct.D):=x.1.2.1
 let yH:List (ct.D):=x.2
 let yp:Int:=(↑(List.length zc):Int)
 bif decide (vT<yp) then
  let AN:(ct.D)×Unit:=Wh.q88' (List.getD zc (Int.toNat vT) ((0:Int),(0:Int),(0:Int),(0:Int),false,()))
  let wh:List (ct.D):=List.set yH (Int.toNat vT) AN.1
  let nc:ct.D:=List.getD zc (Int.toNat vT) ((0:Int),(0:Int),(0:Int),(0:Int),false,())
  bif iy [decide ((0:Int)≤vT),decide (vT<(↑(List.length yH):Int)),nQ (Wh.q88 nc),decide ((0:Int)≤vT),decide (vT<yp)] then
   some (.inl (((IntKind.wrap .i64 (vT+(1:Int))),zc,()),wh))
  else none
 else
  some (.inr ((),yH))
def Wh.VN:(((Unit))×((List (ct.D)))):=default
def Wh.q66 (xs:(List (ct.D))):Option (((List (ct.D)))×(Unit)):=
 let cr:List (ct.D):=xs
 let zf:List (ct.D):=@List.replicate (Int×Int×Int×Int×Bool×Unit) (Int.toNat (↑(List.length cr):Int)) ((0:Int),(0:Int),(0:Int),(0:Int),false,())
 let v_2:Int:=(↑(List.length cr):Int)
 bif iy [decide ((0:Int)≤v_2),decide (v_2≤v_2),decide (v_2≤(↑dh:Int))] then
  let x_21:Wh.Q5:=(((0:Int),cr,()),zf)
  bif lF Wh.DX x_21 then
   let C8:=kG Wh.DX Wh.VN x_21
   let yd:List (ct.D):=C8.2
   some (yd,())
  else none
 else none
def Wh.q66':=eB Wh.q66
theorem Wh.q66_v:OV Wh.q66 Wh.q66':=fe _
def Wh.EX (xs:(fN.D)):Option ((((List (ct.D))×((Int)×(Unit))))×(Unit)):=
 let cr:fN.D:=xs
 let r_1:List (ct.D)×Unit:=Wh.q66' cr.1
 bif iy [nQ (Wh.q66 cr.1)] then
  some ((r_1.1,cr.2.1,()),())
 else none
def Wh.Px:=eB Wh.EX
theorem Wh.UG:OV Wh.EX Wh.Px:=fe _
def Wh.q65 (xs:(fT.D)):Option (((fT.D))×(Unit)):=
 let cr:fT.D:=xs
 some ((cr.1,cr.2.1,cr.2.2.1,(cr.2.2.2).1,()),())
def Wh.q65':=eB Wh.q65
theorem Wh.q65_v:OV Wh.q65 Wh.q65':=fe _
abbrev Wh.QI:Type:=((Int)×(List (fT.D))×(Unit))×((List (fT.D)))
abbrev Wh.aaN:Type:=((((Unit))×((List (fT.D)))))
def Wh.DP (x:Wh.QI):Option (Wh.QI⊕Wh.aaN):=
 let vT:=x.1.1
 let zc:List (fT.D):=x.1.2.1
 let yH:List (fT.D):=x.2
 let yp:Int:=(↑(List.length zc):Int)
 bif decide (vT<yp) then
  let AN:(fT.D)×Unit:=Wh.q65' (List.getD zc (Int.toNat vT) ((0:Int),(0:Int),(0:Int),(0:Int),()))
  let wh:List (fT.D):=List.set yH (Int.toNat vT) AN.1
  let nc:fT.D:=List.getD zc (Int.toNat vT) ((0:Int),(0:Int),(0:Int),(0:Int),())
  bif iy [decide ((0:Int)≤vT),decide (vT<(↑(List.length yH):Int)),nQ (Wh.q65 nc),decide ((0:Int)≤vT),decide (vT<yp)] then
   some (.inl (((IntKind.wrap .i64 (vT+(1:Int))),zc,()),wh))
  else none
 else
  some (.inr ((),yH))
def Wh.Vx:(((Unit))×((List (fT.D)))):=default
def Wh.q42 (xs:(List (fT.D))):Option (((List (fT.D)))×(Unit)):=
 let cr:List (fT.D):=xs
 let zf:List (fT.D):=@List.replicate (Int×Int×Int×Int×Unit) (Int.toNat (↑(List.length cr):Int)) ((0:Int),(0:Int),(0:Int),(0:Int),())
 let v_2:Int:=(↑(List.length cr):Int)
 bif iy [decide ((0:Int)≤v_2),decide (v_2≤v_2),decide (v_2≤(↑dh:Int))] then
  let x_21:Wh.QI:=(((0:Int),cr,()),zf)
  bif lF Wh.DP x_21 then
   let C8:=kG Wh.DP Wh.Vx x_21
   let yd:List (fT.D):=C8.2
   some (yd,())
  else none
 else none
def Wh.q42':=eB Wh.q42
theorem Wh.q42_v:OV Wh.q42 Wh.q42':=fe _
def Wh.q90 (xs:(gd.D)):Option (((gd.D))×(Unit)):=
 let cr:gd.D:=xs
 some ((cr.1,cr.2.1,cr.2.2.1,(cr.2.2.2).1,cr.2.2.2.2.1,(cr.2.2.2.2.2).1,()),())
def Wh.q90':=eB Wh.q90
theorem Wh.q90_v:OV Wh.q90 Wh.q90':=fe _
abbrev Wh.Q6:Type:=((Int)×(List (gd.D))×(Unit))×((List (gd.D)))
abbrev Wh.aa4:Type:=((((Unit))×((List (gd.D)))))
def Wh.DY (x:Wh.Q6):Option (Wh.Q6⊕Wh.aa4):=
 let vT:=x.1.1
 let zc:List (gd.D):=x.1.2.1
 let yH:List (gd.D):=x.2
 let yp:Int:=(↑(List.length zc):Int)
 bif decide (vT<yp) then
  let AN:(gd.D)×Unit:=Wh.q90' (List.getD zc (Int.toNat vT) ((0:Int),(0:Int),(0:Int),(0:Int),(0:Int),(0:Int),()))
  let wh:List (gd.D):=List.set yH (Int.toNat vT) AN.1
  let nc:gd.D:=List.getD zc (Int.toNat vT) ((0:Int),(0:Int),(0:Int),(0:Int),(0:Int),(0:Int),())
  bif iy [decide ((0:Int)≤vT),decide (vT<(↑(List.length yH):Int)),nQ (Wh.q90 nc),decide ((0:Int)≤vT),decide (vT<yp)] then
   some (.inl (((IntKind.wrap .i64 (vT+(1:Int))),zc,()),wh))
  else none
 else
  some (.inr ((),yH))
def Wh.VO:(((Unit))×((List (gd.D)))):=default
def Wh.q67 (xs:(List (gd.D))):Option (((List (gd.D)))×(Unit)):=
 let cr:List (gd.D):=xs
 let zf:List (gd.D):=@List.replicate (Int×Int×Int×Int×Int×Int×Unit) (Int.toNat (↑(List.length cr):Int)) ((0:Int),(0:Int),(0:Int),(0:Int),(0:Int),(0:Int),())
 let v_2:Int:=(↑(List.length cr):Int)
 bif iy [decide ((0:Int)≤v_2),decide (v_2≤v_2),decide (v_2≤(↑dh:Int))] then
  let x_21:Wh.Q6:=(((0:Int),cr,()),zf)
  bif lF Wh.DY x_21 then
   let C8:=kG Wh.DY Wh.VO x_21
   let yd:List (gd.D):=C8.2
   some (yd,())
  else none
 else none
def Wh.q67':=eB Wh.q67
theorem Wh.q67_v:OV Wh.q67 Wh.q67':=fe _
def Wh.BX (xs:(cx.D)):Option ((((Bool)×((Int)×((List UInt8)×(((Int)×((List (an.D))×(Unit)))×(((List (ct.D))×((Int)×(Unit)))×((List (fT.D))×((List (gd.D))×(Unit)))))))))×(Unit)):=
 let cr:cx.D:=xs
 let r_1:(bx.D)×Unit:=Wh.P4 ((cr.2.2.2).1)
 bif iy [nQ (Wh.E_ ((cr.2.2.2).1))] then
  let r_2:(fN.D)×Unit:=Wh.Px (cr.2.2.2.2.1)
  bif iy [nQ (Wh.EX (cr.2.2.2.2.1))] then
   let r_3:List (fT.D)×Unit:=Wh.q42' ((cr.2.2.2.2.2).1)
   bif iy [nQ (Wh.q42 ((cr.2.2.2.2.2).1))] then
    let gz:List (gd.D)×Unit:=Wh.q67' ((cr.2.2.2.2.2).2.1)
    bif iy [nQ (Wh.q67 ((cr.2.2.2.2.2).2.1))] then
     some ((cr.1,cr.2.1,cr.2.2.1,r_1.1,r_2.1,r_3.1,gz.1,()),())
    else none
   else none
  else none
 else none
def Wh.q68':=eB Wh.BX
theorem Wh.q68_v:OV Wh.BX Wh.q68':=fe _
def Wh.xY (xs:(Int)×(Int)×(Int)):Option (((Bool))×(Unit)):=
 let yA:=xs.1
 let Oy:=xs.2.1
 let Oh:=xs.2.2
 let xV:=bif decide (yA≥Oy) then decide (yA≤Oh) else false
 some (xV,())
def Wh.yl:=eB Wh.xY
theorem Wh.zg:OV Wh.xY Wh.yl:=fe _
abbrev Wh.PN:Type:=((Int)×(Int)×(List UInt8))×(Unit)
abbrev Wh.aak:Type:=((((Int))×(Unit))⊕((Unit)×(Unit)))
def Wh.BO (x:Wh.PN):Option (Wh.PN⊕Wh.aak):=
 let Ho:=x.1.1
 let b_11:=x.1.2.1
 let Fy:=x.1.2.2
 let Ea:=decide (Ho<(↑(List.length Fy):Int))
 bif Ea then
  let n5:Int:=(↑(UInt8.toNat (List.getD Fy (Int.toNat Ho) (0:UInt8))):Int)
  let yp:=n5==b_11
  bif iy [decide ((0:Int)≤Ho),Ea] then
   bif yp then
    some (.inr (.inl (Ho,())))
   else
    some (.inl (((IntKind.wrap .i64 (Ho+(1:Int))),b_11,Fy),()))
  else none
 else
  some (.inr (.inr ((),())))
def Wh.UR:(((Int))×(Unit))⊕((Unit)×(Unit)):=.inl default
def Wh.y_ (xs:(List UInt8)×(Int)×(Int)):Option (((Int))×(Unit)):=
 let en:=xs.1
 let zH:=xs.2.1
 let b_2:=xs.2.2
 let x_17:Wh.PN:=((zH,b_2,en),())
 bif lF Wh.BO x_17 then
  sumC (kG Wh.BO Wh.UR x_17) (fun FJ=>
   let nG:=FJ.1
   some (nG,())) (fun _=>
   some ((-1:Int),()))
 else none
def Wh.HI:=eB Wh.y_
theorem Wh.BP:OV Wh.y_ Wh.HI:=fe _
abbrev Wh.Qk:Type:=((Int)×(List UInt8)×(Int))×(Unit)
abbrev Wh.aay:Type:=((((Int))×(Unit))⊕(((Int))×(Unit)))
def Wh.DE (x:Wh.Qk):Option (Wh.Qk⊕Wh.aay):=
 let zo:=x.1.1
 let s_18:=x.1.2.1
 let n_19:=x.1.2.2
 let nG:=decide (zo<(↑(List.length s_18):Int))
 bif nG then
  let so:Int:=(↑(UInt8.toNat (List.getD s_18 (Int.toNat zo) (0:UInt8))):Int)
  let n_:=bif decide (so<(48:Int)) then true else decide (so>(57:Int))
  bif iy [!!decide (so<(48:Int)) || decide ((0:Int)≤zo),!!decide (so<(48:Int)) || nG,decide ((0:Int)≤zo),nG] then
   bif n_ then
    some (.inr (.inl ((-1:Int),())))
   else
    bif iy [decide ((0:Int)≤zo),nG] then
     some (.inl (((IntKind.wrap .i64 (zo+(1:Int))),s_18,(IntKind.wrap .i64 ((IntKind.wrap .i64 (n_19*(10:Int)))+IntKind.wrap .i64 (IntKind.wrap .u8 (so-(48:Int)))))),()))
    else none
  else none
 else
  some (.inr (.inr (n_19,())))
def Wh.Ve:(((Int))×(Unit))⊕(((Int))×(Unit)):=.inl default
def Wh.AJ (xs:(List UInt8)):Option (((Int))×(Unit)):=
 let en:=xs
 let r_1:=Wh.yl ((↑(List.length en):Int),(1:Int),(6:Int))
 let v_2:=bif !r_1.1 then true else bif decide ((↑(List.length en):Int)>(1:Int)) then(↑(UInt8.toNat (List.getD en (Int.toNat (0:Int)) (0:UInt8))):Int)==(48:Int) else false
 bif iy [!(decide ((↑(List.length en):Int)>(1:Int)) && !!r_1.1) || decide ((0:Int)≤(0:Int)),!(decide ((↑(List.length en):Int)>(1:Int)) && !!r_1.1) || decide ((0:Int)<(↑(List.length en):Int)),nQ (Wh.xY ((↑(List.length en):Int),(1:Int),(6:Int)))] then
  bif v_2 then
   some ((-1:Int),())
  else
   let x_31:Wh.Qk:=(((0:Int),en,(0:Int)),())
   bif lF Wh.DE x_31 then
    sumC (kG Wh.DE Wh.Ve x_31) (fun y_32=>
     let A7:=y_32.1
     some (A7,())) (fun z_33=>
     let n_35:=z_33.1
     some (n_35,()))
   else none
 else none
def Wh.HP:=eB Wh.AJ
theorem Wh.Fg:OV Wh.AJ Wh.HP:=fe _
def Wh.q30 (V5:((Int))→Option (((List UInt8))×(Unit))) (Me:((Int))→((List UInt8))×(Unit)) (xs:(Int)):Option (((List UInt8))×(Unit)):=
 let yA:=xs
 bif decide (yA<(-9223372036854775807:Int)) then
  some ([(45:UInt8),(57:UInt8),(50:UInt8),(50:UInt8),(51:UInt8),(51:UInt8),(55:UInt8),(50:UInt8),(48:UInt8),(51:UInt8),(54:UInt8),(56:UInt8),(53:UInt8),(52:UInt8),(55:UInt8),(55:UInt8),(53:UInt8),(56:UInt8),(48:UInt8),(56:UInt8)],())
 else
  bif decide (yA<(0:Int)) then
   let r5:=IntKind.wrap .i64 ((0:Int)-yA)
   let yI:xU.D:=Me r5
   let y6:List UInt8:=[(45:UInt8)]++yI.1
   bif iy [decide ((1:Nat)+List.length ((Me r5).1)≤dh),nQ (V5 r5)] then
    some (y6,())
   else none
  else
   bif decide (yA<(10:Int)) then
    let O7:List Int:=[IntKind.wrap .u8 (IntKind.wrap .i64 ((48:Int)+yA))]
    some (qp O7,())
   else
    let pb_12:List Int:=[IntKind.wrap .u8 (IntKind.wrap .i64 ((48:Int)+Int.tmod yA (10:Int)))]
    let Ea:=IntKind.wrap .i64 (Int.tdiv yA (10:Int))
    let yB:xU.D:=Me Ea
    let so:=yB.1++qp pb_12
    bif iy [decide (List.length ((Me Ea).1)+(1:Nat)≤dh),true,nQ (V5 Ea),true] then
     some (so,())
    else none
def Wh.AM:Nat→((Int))→Option (((List UInt8))×(Unit))
 |0,_=>none
 |n+1,xs=>Wh.q30 (Wh.AM n) (fun x=>match Wh.AM n x with | some y=>y|none=>default) xs
theorem Wh.Qd (n:Nat):Wh.AM (n+1)=Wh.q30 (Wh.AM n) (fun x=>match Wh.AM n x with | some y=>y|none=>default):=rfl
def Wh.BR (xs:(Int)):Option (((List UInt8))×(Unit)):=Wh.AM 20 xs
def Wh.Bj:=eB Wh.BR
theorem Wh.LO:OV Wh.BR Wh.Bj:=fe _
abbrev Wh.Ra:Type:=((Int)×(Int)×(Unit))×((List (Int)))
abbrev Wh.aa8:Type:=((((Unit))×((List (Int)))))
def Wh.Fs (x:Wh.Ra):Option (Wh.Ra⊕Wh.aa8):=
 let yg:=x.1.1
 let n_28:=x.1.2.1
 let OD:=x.2
 bif decide (yg≥(0:Int)) then
  let s_:List Int:=[IntKind.wrap .u8 (Int.fdiv n_28 ((2:Int) ^ Min.min (Int.toNat (IntKind.wrap .i64 ((8:Int)*yg))) (Go.IntKind.bits Go.IntKind.i64)))]
  let y2:=OD++s_
  bif iy [decide (List.length OD+(1:Nat)≤dh),decide ((0:Int)≤(IntKind.wrap .i64 ((8:Int)*yg)))] then
   some (.inl (((IntKind.wrap .i64 (yg-(1:Int))),n_28,()),y2))
  else none
 else
  some (.inr ((),OD))
def Wh.VS:(((Unit))×((List (Int)))):=default
abbrev Wh.Q_:Type:=((Unit)×(List UInt8))×((List (Int)))
abbrev Wh.aa7:Type:=((((Unit)×(List UInt8))×((List (Int)))))
def Wh.DZ (x:Wh.Q_):Option (Wh.Q_⊕Wh.aa7):=
 let Wo:=x.1.2
 let Ll:=x.2
 let Ag:Bool:=(Int.tmod (↑(List.length Ll):Int) (64:Int)) != (56:Int)
 bif Ag then
  let Hv:=Ll ++ [(0:Int)]
  bif iy [decide (List.length Ll+(1:Nat)≤dh)] then
   some (.inl (((),Wo),Hv))
  else none
 else
  some (.inr (((),Wo),Ll))
def Wh.VR:(((Unit)×(List UInt8))×((List (Int)))):=default
def Wh.q73 (xs:(List UInt8)):Option (((List (Int)))×(Unit)):=
 let yR:=xs
 let zf:List Int:=bytesOf yR ++ [(128:Int)]
 bif iy [decide (List.length (bytesOf yR)+(1:Nat)≤dh),decide (List.length yR≤dh)] then
  let x_12:Wh.Q_:=(((),yR),zf)
  bif lF Wh.DZ x_12 then
   let y_13:=kG Wh.DZ Wh.VR x_12
   let ade:=y_13.1.2
   let yj:=y_13.2
   let x_37:Wh.Ra:=(((7:Int),(IntKind.wrap .i64 ((↑(List.length ade):Int)*(8:Int))),()),yj)
   bif lF Wh.Fs x_37 then
    let y_38:=kG Wh.Fs Wh.VS x_37
    let BA:=y_38.2
    some (BA,())
   else none
  else none
 else none
def Wh.q73':=eB Wh.q73
theorem Wh.q73_v:OV Wh.q73 Wh.q73':=fe _
def Wh.ye (xs:(Int)×(Int)):Option (((Int))×(Unit)):=
 let yx:=xs.1
 let n_1:=xs.2
 let v_2:Int:=Int.fdiv yx ((2:Int) ^ Min.min (Int.toNat n_1) (Go.IntKind.bits Go.IntKind.u32))
 let r5:=IntKind.wrap .i64 ((32:Int)-n_1)
 let zl:Int:=nj Go.BinOp.or Go.IntKind.u32 v_2 (IntKind.wrap .u32 (yx*(2:Int) ^ Min.min (Int.toNat r5) (Go.IntKind.bits Go.IntKind.u32)))
 bif iy [decide ((0:Int)≤r5),decide ((0:Int)≤n_1)] then
  some (zl,())
 else none
def Wh.zw:=eB Wh.ye
theorem Wh.q120_v:OV Wh.ye Wh.zw:=fe _
abbrev Wh.Pd:Type:=((Int)×(Unit))×((List (Int)))
abbrev Wh.Z_:Type:=((((Unit))×((List (Int)))))
def Wh.EP (x:Wh.Pd):Option (Wh.Pd⊕Wh.Z_):=
 let De:=x.1.1
 let Bf:=x.2
 bif decide (De<(64:Int)) then
  let Iq:=IntKind.wrap .i64 (De-(15:Int))
  let IB:=List.getD Bf (Int.toNat Iq) (0:Int)
  bif iy [decide ((0:Int)≤Iq),decide (Iq<(↑(List.length Bf):Int))] then
   let v_99:=IntKind.wrap .i64 (De-(2:Int))
   let IC:=List.getD Bf (Int.toNat v_99) (0:Int)
   bif iy [decide ((0:Int)≤v_99),decide (v_99<(↑(List.length Bf):Int))] then
    let r_102:=Wh.zw (IB,(7:Int))
    let Rs:=Wh.zw (IB,(18:Int))
    let v_105:Int:=Int.fdiv IB ((2:Int) ^ Min.min (Int.toNat (3:Int)) (Go.IntKind.bits Go.IntKind.u32))
    let a_107:Int:=nj Go.BinOp.xor Go.IntKind.u32 (nj Go.BinOp.xor Go.IntKind.u32 r_102.1 Rs.1) v_105
    bif iy [true,nQ (Wh.ye (IB,(18:Int))),nQ (Wh.ye (IB,(7:Int)))] then
     let r_108:=Wh.zw (IC,(17:Int))
     let HZ:=Wh.zw (IC,(19:Int))
     let v_111:Int:=Int.fdiv IC ((2:Int) ^ Min.min (Int.toNat (10:Int)) (Go.IntKind.bits Go.IntKind.u32))
     let c_113:Int:=nj Go.BinOp.xor Go.IntKind.u32 (nj Go.BinOp.xor Go.IntKind.u32 r_108.1 HZ.1) v_111
     bif iy [true,nQ (Wh.ye (IC,(19:Int))),nQ (Wh.ye (IC,(17:Int)))] then
      let pb_114:List Int:=[IntKind.wrap .u32 (IntKind.wrap .u32 (IntKind.wrap .u32 (List.getD Bf (Int.toNat (IntKind.wrap .i64 (De-(16:Int)))) (0:Int)+a_107)+List.getD Bf (Int.toNat (IntKind.wrap .i64 (De-(7:Int)))) (0:Int))+c_113)]
      let ls_115:=Bf++pb_114
      let v_116:=IntKind.wrap .i64 (De-(16:Int))
      let Mo:=IntKind.wrap .i64 (De-(7:Int))
      bif iy [decide (List.length Bf+(1:Nat)≤dh),decide ((0:Int)≤Mo),decide (Mo<(↑(List.length Bf):Int)),decide ((0:Int)≤v_116),decide (v_116<(↑(List.length Bf):Int))] then
       some (.inl (((IntKind.wrap .i64 (De+(1:Int))),()),ls_115))
      else none
     else none
    else none
   else none
  else none
 else
  some (.inr ((),Bf))
def Wh.Ut:(((Unit))×((List (Int)))):=default
abbrev Wh.Pc:Type:=((Int)×(List (Int))×(Unit))×((List (Int)))
abbrev Wh.Z9:Type:=((((Unit))×((List (Int)))))
def Wh.EO (x:Wh.Pc):Option (Wh.Pc⊕Wh.Z9):=
 let Ey:=x.1.1
 let B_:=x.1.2.1
 let y2:=x.2
 bif decide (Ey<(16:Int)) then
  let Lw:List Int:=[nj Go.BinOp.or Go.IntKind.u32 (nj Go.BinOp.or Go.IntKind.u32 (nj Go.BinOp.or Go.IntKind.u32 (IntKind.wrap .u32 (IntKind.wrap .u32 (List.getD B_ (Int.toNat (IntKind.wrap .i64 ((4:Int)*Ey))) (0:Int))*(2:Int) ^ Min.min (Int.toNat (24:Int)) (Go.IntKind.bits Go.IntKind.u32))) (IntKind.wrap .u32 (IntKind.wrap .u32 (List.getD B_ (Int.toNat (IntKind.wrap .i64 (IntKind.wrap .i64 ((4:Int)*Ey)+(1:Int)))) (0:Int))*(2:Int) ^ Min.min (Int.toNat (16:Int)) (Go.IntKind.bits Go.IntKind.u32)))) (IntKind.wrap .u32 (IntKind.wrap .u32 (List.getD B_ (Int.toNat (IntKind.wrap .i64 (IntKind.wrap .i64 ((4:Int)*Ey)+(2:Int)))) (0:Int))*(2:Int) ^ Min.min (Int.toNat (8:Int)) (Go.IntKind.bits Go.IntKind.u32)))) (IntKind.wrap .u32 (List.getD B_ (Int.toNat (IntKind.wrap .i64 (IntKind.wrap .i64 ((4:Int)*Ey)+(3:Int)))) (0:Int)))]
  let As:=y2++Lw
  let yu:=IntKind.wrap .i64 ((4:Int)*Ey)
  bif iy [decide (List.length y2+(1:Nat)≤dh),decide ((0:Int)≤IntKind.wrap .i64 (yu+(3:Int))),decide (IntKind.wrap .i64 (yu+(3:Int))<(↑(List.length B_):Int)),true,decide ((0:Int)≤IntKind.wrap .i64 (yu+(2:Int))),decide (IntKind.wrap .i64 (yu+(2:Int))<(↑(List.length B_):Int)),true,decide ((0:Int)≤IntKind.wrap .i64 (yu+(1:Int))),decide (IntKind.wrap .i64 (yu+(1:Int))<(↑(List.length B_):Int)),true,decide ((0:Int)≤yu),decide (yu<(↑(List.length B_):Int))] then
   some (.inl (((IntKind.wrap .i64 (Ey+(1:Int))),B_,()),As))
  else none
 else
  some (.inr ((),y2))
def Wh.Us:(((Unit))×((List (Int)))):=default
def Wh.EN (xs:(List (Int))):Option (((List (Int)))×(Unit)):=
 let yM:=xs
 let x_59:Wh.Pc:=(((0:Int),yM,()),[])
 bif lF Wh.EO x_59 then
  let y_60:=kG Wh.EO Wh.Us x_59
  let ls_61:=y_60.2
  let x_124:Wh.Pd:=(((16:Int),()),ls_61)
  bif lF Wh.EP x_124 then
   let y_125:=kG Wh.EP Wh.Ut x_124
   let ls_126:=y_125.2
   some (ls_126,())
  else none
 else none
def Wh.Pb:=eB Wh.EN
theorem Wh.Uu:OV Wh.EN Wh.Pb:=fe _
def Wh.q72 (_:Unit):Option (((List (Int)))×(Unit)):=
 let pb_0:List Int:=[(1116352408:Int),(1899447441:Int),(3049323471:Int),(3921009573:Int),(961987163:Int),(1508970993:Int),(2453635748:Int),(2870763221:Int),(3624381080:Int),(310598401:Int),(607225278:Int),(1426881987:Int),(1925078388:Int),(2162078206:Int),(2614888103:Int),(3248222580:Int),(3835390401:Int),(4022224774:Int),(264347078:Int),(604807628:Int),(770255983:Int),(1249150122:Int),(1555081692:Int),(1996064986:Int),(2554220882:Int),(2821834349:Int),(2952996808:Int),(3210313671:Int),(3336571891:Int),(3584528711:Int),(113926993:Int),(338241895:Int),(666307205:Int),(773529912:Int),(1294757372:Int),(1396182291:Int),(1695183700:Int),(1986661051:Int),(2177026350:Int),(2456956037:Int),(2730485921:Int),(2820302411:Int),(3259730800:Int),(3345764771:Int),(3516065817:Int),(3600352804:Int),(4094571909:Int),(275423344:Int),(430227734:Int),(506948616:Int),(659060556:Int),(883997877:Int),(958139571:Int),(1322822218:Int),(1537002063:Int),(1747873779:Int),(1955562222:Int),(2024104815:Int),(2227730452:Int),(2361852424:Int),(2428436474:Int),(2756734187:Int),(3204031479:Int),(3329325298:Int)]
 some (pb_0,())
def Wh.q72':=eB Wh.q72
theorem Wh.q72_v:OV Wh.q72 Wh.q72':=fe _
abbrev Wh.Rr:Type:=((Int)×(Unit)×(List (Int))×(Unit))×((List (Int))×(List (Int)))
abbrev Wh.abi:Type:=((((Unit))×((List (Int)))))
def Wh.HY (x:Wh.Rr):Option (Wh.Rr⊕Wh.abi):=
 let Dd:=x.1.1
 let Of:List Int:=(x.1.2.2).1
 let OB:=x.2.1
 let OC:=x.2.2
 bif decide (Dd<(8:Int)) then
  let pb_193:List Int:=[IntKind.wrap .u32 (List.getD Of (Int.toNat Dd) (0:Int)+List.getD OB (Int.toNat Dd) (0:Int))]
  let ls_194:=OC++pb_193
  bif iy [decide (List.length OC+(1:Nat)≤dh),decide ((0:Int)≤Dd),decide (Dd<(↑(List.length OB):Int)),decide ((0:Int)≤Dd),decide (Dd<(↑(List.length Of):Int))] then
   some (.inl (((IntKind.wrap .i64 (Dd+(1:Int))),(),Of,()),OB,ls_194))
  else none
 else
  some (.inr ((),OC))
def Wh.V1:(((Unit))×((List (Int)))):=default
abbrev Wh.Rp:Type:=((Int)×(Unit)×(Unit)×(Unit)×(List (Int))×(Int)×(Int)×(Int)×(Int))×((List (Int))×(List (Int))×(List (Int)))
abbrev Wh.abh:Type:=((((Unit)×(Unit)×(Unit)×(List (Int))×(Int)×(Int)×(Int)×(Int))×((List (Int))×(List (Int))×(List (Int)))))
def Wh.HX (x:Wh.Rp):Option (Wh.Rp⊕Wh.abh):=
 let Gc:=x.1.1
 let h_73:List Int:=(x.1.2.2.2.2).1
 let i_74:Int:=(x.1.2.2.2.2).2.1
 let Ub:Int:=(x.1.2.2.2.2).2.2.1
 let a_76:Int:=(x.1.2.2.2.2).2.2.2.1
 let t_77:Int:=(x.1.2.2.2.2).2.2.2.2
 let Hy:=x.2.1
 let ls_79:=x.2.2.1
 let ls_80:=x.2.2.2
 bif decide (Gc>(0:Int)) then
  let ls_82:=List.set Hy (Int.toNat Gc) (List.getD Hy (Int.toNat (IntKind.wrap .i64 (Gc-(1:Int)))) (0:Int))
  let v_83:=IntKind.wrap .i64 (Gc-(1:Int))
  bif iy [decide ((0:Int)≤Gc),decide (Gc<(↑(List.length Hy):Int)),decide ((0:Int)≤v_83),decide (v_83<(↑(List.length Hy):Int))] then
   some (.inl ((v_83,(),(),(),h_73,i_74,Ub,a_76,t_77),ls_82,ls_79,ls_80))
  else none
 else
  some (.inr (((),(),(),h_73,i_74,Ub,a_76,t_77),Hy,ls_79,ls_80))
def Wh.Rq:(((Unit)×(Unit)×(Unit)×(List (Int))×(Int)×(Int)×(Int)×(Int))×((List (Int))×(List (Int))×(List (Int)))):=default
abbrev Wh.Ro:Type:=((Unit)×(Int)×(Unit)×(Unit)×(List (Int)))×((List (Int))×(List (Int))×(List (Int)))
abbrev Wh.abg:Type:=((((Unit)×(List (Int)))×((List (Int)))))
def Wh.Fv (x:Wh.Ro):Option (Wh.Ro⊕Wh.abg):=
 let Db:=x.1.2.1
 let h_103:=x.1.2.2.2.2
 let yh:=x.2.1
 let Oz:=x.2.2.1
 let OA:=x.2.2.2
 bif decide (Db<(64:Int)) then
  let B5:=List.getD yh (Int.toNat (4:Int)) (0:Int)
  let r_119:=Wh.zw (B5,(6:Int))
  let r_120:=Wh.zw (B5,(11:Int))
  let r_121:=Wh.zw (B5,(25:Int))
  let e_122:Int:=nj Go.BinOp.xor Go.IntKind.u32 (nj Go.BinOp.xor Go.IntKind.u32 r_119.1 r_120.1) r_121.1
  bif iy [nQ (Wh.ye (B5,(25:Int))),true,decide ((4:Int)<(↑(List.length yh):Int)),nQ (Wh.ye (B5,(11:Int))),true,decide ((4:Int)<(↑(List.length yh):Int)),nQ (Wh.ye (B5,(6:Int))),true,decide ((4:Int)<(↑(List.length yh):Int))] then
   let v_123:=List.getD yh (Int.toNat (5:Int)) (0:Int)
   let v_124:=List.getD yh (Int.toNat (6:Int)) (0:Int)
   let ch_127:Int:=nj Go.BinOp.xor Go.IntKind.u32 (nj Go.BinOp.and Go.IntKind.u32 B5 v_123) (nj Go.BinOp.and Go.IntKind.u32 (nj Go.BinOp.xor Go.IntKind.u32 (Go.IntKind.max Go.IntKind.u32) B5) v_124)
   bif iy [true,decide ((6:Int)<(↑(List.length yh):Int)),true,decide ((4:Int)<(↑(List.length yh):Int)),true,decide ((5:Int)<(↑(List.length yh):Int)),true,decide ((4:Int)<(↑(List.length yh):Int))] then
    let v_128:=List.getD yh (Int.toNat (7:Int)) (0:Int)
    let v_131:=List.getD OA (Int.toNat Db) (0:Int)
    let v_133:=List.getD Oz (Int.toNat Db) (0:Int)
    bif iy [decide ((0:Int)≤Db),decide (Db<(↑(List.length Oz):Int)),decide ((0:Int)≤Db),decide (Db<(↑(List.length OA):Int)),true,decide ((7:Int)<(↑(List.length yh):Int))] then
     let Eb:=List.getD yh (Int.toNat (0:Int)) (0:Int)
     let r_147:=Wh.zw (Eb,(2:Int))
     let r_148:=Wh.zw (Eb,(13:Int))
     let r_149:=Wh.zw (Eb,(22:Int))
     let a_150:Int:=nj Go.BinOp.xor Go.IntKind.u32 (nj Go.BinOp.xor Go.IntKind.u32 r_147.1 r_148.1) r_149.1
     bif iy [nQ (Wh.ye (Eb,(22:Int))),true,decide ((0:Int)<(↑(List.length yh):Int)),nQ (Wh.ye (Eb,(13:Int))),true,decide ((0:Int)<(↑(List.length yh):Int)),nQ (Wh.ye (Eb,(2:Int))),true,decide ((0:Int)<(↑(List.length yh):Int))] then
      let v_151:=List.getD yh (Int.toNat (1:Int)) (0:Int)
      let v_152:=List.getD yh (Int.toNat (2:Int)) (0:Int)
      let YT:Int:=nj Go.BinOp.xor Go.IntKind.u32 (nj Go.BinOp.xor Go.IntKind.u32 (nj Go.BinOp.and Go.IntKind.u32 Eb v_151) (nj Go.BinOp.and Go.IntKind.u32 Eb v_152)) (nj Go.BinOp.and Go.IntKind.u32 v_151 v_152)
      bif iy [true,decide ((2:Int)<(↑(List.length yh):Int)),true,decide ((1:Int)<(↑(List.length yh):Int)),true,decide ((2:Int)<(↑(List.length yh):Int)),true,decide ((0:Int)<(↑(List.length yh):Int)),true,decide ((1:Int)<(↑(List.length yh):Int)),true,decide ((0:Int)<(↑(List.length yh):Int))] then
       let x_156:Wh.Rp:=(((7:Int),(),(),(),h_103,Db,YT,a_150,(IntKind.wrap .u32 (IntKind.wrap .u32 (IntKind.wrap .u32 (IntKind.wrap .u32 (v_128+e_122)+ch_127)+v_131)+v_133))),yh,Oz,OA)
       bif lF Wh.HX x_156 then
        let Ef:=kG Wh.HX Wh.Rq x_156
        let h_158:=Ef.1.2.2.2.1
        let i_159:Int:=(Ef.1.2.2.2.2).1
        let YU:Int:=(Ef.1.2.2.2.2).2.1
        let a_161:Int:=(Ef.1.2.2.2.2).2.2.1
        let t_162:Int:=(Ef.1.2.2.2.2).2.2.2
        let Lh:=Ef.2.1
        let ls_164:=Ef.2.2.1
        let ls_165:=Ef.2.2.2
        let Td:=List.set Lh (Int.toNat (4:Int)) (IntKind.wrap .u32 (List.getD Lh (Int.toNat (4:Int)) (0:Int)+t_162))
        bif iy [true,decide ((4:Int)<(↑(List.length Lh):Int)),true,decide ((4:Int)<(↑(List.length Lh):Int))] then
         let ls_169:=List.set Td (Int.toNat (0:Int)) (IntKind.wrap .u32 (IntKind.wrap .u32 (t_162+a_161)+YU))
         bif iy [true,decide ((0:Int)<(↑(List.length Td):Int))] then
          some (.inl (((),(IntKind.wrap .i64 (i_159+(1:Int))),(),(),h_158),ls_169,ls_164,ls_165))
         else none
        else none
       else none
      else none
     else none
    else none
   else none
  else none
 else
  some (.inr (((),h_103),yh))
def Wh.V0:(((Unit)×(List (Int)))×((List (Int)))):=default
def Wh.q98 (xs:(List (Int))×(List (Int))):Option (((List (Int)))×(Unit)):=
 let h_0:=xs.1
 let b_1:=xs.2
 let r_2:List Int×Unit:=Wh.Pb b_1
 bif iy [nQ (Wh.EN b_1)] then
  let r_3:List Int×Unit:=Wh.q72' ()
  bif iy [nQ (Wh.q72 ())] then
   let HD:List Int:=[]++h_0
   bif iy [decide ((0:Nat)+List.length h_0≤dh)] then
    let x_173:Wh.Ro:=(((),(0:Int),(),(),h_0),HD,r_2.1,r_3.1)
    bif lF Wh.Fv x_173 then
     let y_174:=kG Wh.Fv Wh.V0 x_173
     let h_175:=y_174.1.2
     let ls_176:=y_174.2
     let x_199:Wh.Rr:=(((0:Int),(),h_175,()),ls_176,[])
     bif lF Wh.HY x_199 then
      let y_200:=kG Wh.HY Wh.V1 x_199
      let ls_201:=y_200.2
      some (ls_201,())
     else none
    else none
   else none
  else none
 else none
def Wh.q98':=eB Wh.q98
theorem Wh.q98_v:OV Wh.q98 Wh.q98':=fe _
abbrev Wh.Qi:Type:=((Int)×(Unit)×(Unit))×((List (Int))×(List (Int)))
abbrev Wh.aaw:Type:=((((Unit))×((List (Int)))))
def Wh.HN (x:Wh.Qi):Option (Wh.Qi⊕Wh.aaw):=
 let Ap:=x.1.1
 let x8:=x.2.1
 let As:=x.2.2
 bif decide (Ap<(8:Int)) then
  let O8:List Int:=[IntKind.wrap .u8 (Int.fdiv (List.getD x8 (Int.toNat Ap) (0:Int)) ((2:Int) ^ Min.min (Int.toNat (24:Int)) (Go.IntKind.bits Go.IntKind.u32))),IntKind.wrap .u8 (Int.fdiv (List.getD x8 (Int.toNat Ap) (0:Int)) ((2:Int) ^ Min.min (Int.toNat (16:Int)) (Go.IntKind.bits Go.IntKind.u32))),IntKind.wrap .u8 (Int.fdiv (List.getD x8 (Int.toNat Ap) (0:Int)) ((2:Int) ^ Min.min (Int.toNat (8:Int)) (Go.IntKind.bits Go.IntKind.u32))),IntKind.wrap .u8 (List.getD x8 (Int.toNat Ap) (0:Int))]
  let y8:=As++O8
  bif iy [decide (List.length As+(4:Nat)≤dh),decide ((0:Int)≤Ap),decide (Ap<(↑(List.length x8):Int)),true,decide ((0:Int)≤Ap),decide (Ap<(↑(List.length x8):Int)),true,decide ((0:Int)≤Ap),decide (Ap<(↑(List.length x8):Int)),true,decide ((0:Int)≤Ap),decide (Ap<(↑(List.length x8):Int))] then
   some (.inl (((IntKind.wrap .i64 (Ap+(1:Int))),(),()),x8,y8))
  else none
 else
  some (.inr ((),As))
def Wh.Vb:(((Unit))×((List (Int)))):=default
abbrev Wh.Qh:Type:=((Int)×(Unit)×(Unit))×((List (Int))×(List (Int)))
abbrev Wh.aav:Type:=((((Unit))×((List (Int)))))
def Wh.DC (x:Wh.Qh):Option (Wh.Qh⊕Wh.aav):=
 let z7:=x.1.1
 let Dj:=x.2.1
 let Hv:=x.2.2
 bif decide (z7<(↑(List.length Dj):Int)) then
  let D7:List Int×Unit:=Wh.q98' (Hv,List.take (Int.toNat (IntKind.wrap .i64 (z7+(64:Int))-z7)) (List.drop (Int.toNat z7) Dj))
  let n5:=IntKind.wrap .i64 (z7+(64:Int))
  bif iy [nQ (Wh.q98 (Hv,List.take (Int.toNat (n5-z7)) (List.drop (Int.toNat z7) Dj))),decide ((0:Int)≤z7),decide (z7≤n5),decide (n5≤(↑(List.length Dj):Int))] then
   some (.inl ((n5,(),()),Dj,D7.1))
  else none
 else
  some (.inr ((),Hv))
def Wh.Va:(((Unit))×((List (Int)))):=default
def Wh.Ff (xs:(List UInt8)):Option (((List UInt8))×(Unit)):=
 let yR:=xs
 let r_1:List Int×Unit:=Wh.q73' yR
 bif iy [nQ (Wh.q73 yR)] then
  let x_16:Wh.Qh:=(((0:Int),(),()),r_1.1,[(1779033703:Int),(3144134277:Int),(1013904242:Int),(2773480762:Int),(1359893119:Int),(2600822924:Int),(528734635:Int),(1541459225:Int)])
  bif lF Wh.DC x_16 then
   let y_17:=kG Wh.DC Wh.Va x_16
   let wh:=y_17.2
   let x_47:Wh.Qi:=(((0:Int),(),()),wh,[])
   bif lF Wh.HN x_47 then
    let y_48:=kG Wh.HN Wh.Vb x_47
    let ls_49:=y_48.2
    some (qp ls_49,())
   else none
  else none
 else none
def Wh.Qg:=eB Wh.Ff
theorem Wh.Vc:OV Wh.Ff Wh.Qg:=fe _
abbrev Wh.Qe:Type:=((Int)×(List UInt8)×(Unit))×((List (Int)))
abbrev Wh.aau:Type:=((((Unit))×((List (Int)))))
def Wh.DB (x:Wh.Qe):Option (Wh.Qe⊕Wh.aau):=
 let zJ:=x.1.1
 let Bn:=x.1.2.1
 let yj:=x.2
 let xQ:=decide (zJ<(↑(List.length Bn):Int))
 bif xQ then
  let EL:List Int:=[(↑(UInt8.toNat (List.getD [(48:UInt8),(49:UInt8),(50:UInt8),(51:UInt8),(52:UInt8),(53:UInt8),(54:UInt8),(55:UInt8),(56:UInt8),(57:UInt8),(97:UInt8),(98:UInt8),(99:UInt8),(100:UInt8),(101:UInt8),(102:UInt8)] (Int.toNat (IntKind.wrap .u8 (Int.tdiv (↑(UInt8.toNat (List.getD Bn (Int.toNat zJ) (0:UInt8))):Int) (16:Int)))) (0:UInt8))):Int),(↑(UInt8.toNat (List.getD [(48:UInt8),(49:UInt8),(50:UInt8),(51:UInt8),(52:UInt8),(53:UInt8),(54:UInt8),(55:UInt8),(56:UInt8),(57:UInt8),(97:UInt8),(98:UInt8),(99:UInt8),(100:UInt8),(101:UInt8),(102:UInt8)] (Int.toNat (Int.tmod (↑(UInt8.toNat (List.getD Bn (Int.toNat zJ) (0:UInt8))):Int) (16:Int))) (0:UInt8))):Int)]
  let wh:=yj++EL
  let nc:Int:=(↑(UInt8.toNat (List.getD Bn (Int.toNat zJ) (0:UInt8))):Int)
  bif iy [decide (List.length yj+(2:Nat)≤dh),decide ((0:Int)≤Int.tmod nc (16:Int)),decide (Int.tmod nc (16:Int)<(↑(16:Nat):Int)),true,decide ((0:Int)≤zJ),xQ,decide ((0:Int)≤IntKind.wrap .u8 (Int.tdiv nc (16:Int))),decide (IntKind.wrap .u8 (Int.tdiv nc (16:Int))<(↑(16:Nat):Int)),true,decide ((0:Int)≤zJ),xQ] then
   some (.inl (((IntKind.wrap .i64 (zJ+(1:Int))),Bn,()),wh))
  else none
 else
  some (.inr ((),yj))
def Wh.U_:(((Unit))×((List (Int)))):=default
def Wh.DA (xs:(List UInt8)):Option (((List UInt8))×(Unit)):=
 let en:=xs
 let x_25:Wh.Qe:=(((0:Int),en,()),[])
 bif lF Wh.DB x_25 then
  let Ah:=kG Wh.DB Wh.U_ x_25
  let yY:=Ah.2
  some (qp yY,())
 else none
def Wh.LP:=eB Wh.DA
theorem Wh.Qf:OV Wh.DA Wh.LP:=fe _
def Wh.q92 (xs:(List UInt8)):Option (((List UInt8))×(Unit)):=
 let yR:=xs
 let r_1:xU.D:=Wh.Qg yR
 let r_3:xU.D:=Wh.LP r_1.1
 bif iy [nQ (Wh.DA r_1.1),nQ (Wh.Ff yR)] then
  some (r_3.1,())
 else none
def Wh.D5:=eB Wh.q92
theorem Wh.q92_v:OV Wh.q92 Wh.D5:=fe _
def Wh.Dt (xs:(Int)×(List UInt8)):Option (((List UInt8))×(Unit)):=
 let yA:=xs.1
 let xb:=xs.2
 let r_2:xU.D:=Wh.Bj yA
 let gz:xU.D:=Wh.Bj (↑(List.length xb):Int)
 let z6:=r_2.1 ++ [(32:UInt8)]++gz.1 ++ [(32:UInt8)]
 bif iy [decide (List.length (r_2.1 ++ [(32:UInt8)]++gz.1)+(1:Nat)≤dh),decide (List.length (r_2.1 ++ [(32:UInt8)])+List.length gz.1≤dh),nQ (Wh.BR (↑(List.length xb):Int)),decide (List.length r_2.1+(1:Nat)≤dh),nQ (Wh.BR yA)] then
  let y6:List UInt8:=z6++xb
  let yB:xU.D:=Wh.D5 y6
  let so:List UInt8:=z6++List.take (Int.toNat ((16:Int)-(0:Int))) (List.drop (Int.toNat (0:Int)) yB.1) ++ [(32:UInt8)]++xb ++ [(10:UInt8)]
  bif iy [decide (List.length (z6++List.take (Int.toNat ((16:Int)-(0:Int))) (List.drop (Int.toNat (0:Int)) ((Wh.D5 y6).1)) ++ [(32:UInt8)]++xb)+(1:Nat)≤dh),decide (List.length (z6++List.take (Int.toNat ((16:Int)-(0:Int))) (List.drop (Int.toNat (0:Int)) ((Wh.D5 y6).1)) ++ [(32:UInt8)])+List.length xb≤dh),decide (List.length (z6++List.take (Int.toNat ((16:Int)-(0:Int))) (List.drop (Int.toNat (0:Int)) ((Wh.D5 y6).1)))+(1:Nat)≤dh),decide (List.length z6+List.length (List.take (Int.toNat ((16:Int)-(0:Int))) (List.drop (Int.toNat (0:Int)) ((Wh.D5 y6).1)))≤dh),true,true,decide ((16:Int)≤(↑(List.length ((Wh.D5 y6).1)):Int)),nQ (Wh.q92 y6),decide (List.length z6+List.length xb≤dh)] then
   some (so,())
  else none
 else none
def Wh.HJ:=eB Wh.Dt
theorem Wh.LD:OV Wh.Dt Wh.HJ:=fe _
def Wh.Cu (xs:(List UInt8)×(Int)×(Int)):Option (((List UInt8)×(Int))×(Unit)):=
 let we:=xs.1
 let zH:=xs.2.1
 let O0:=xs.2.2
 let r_3:=Wh.HI (we,zH,(32:Int))
 bif iy [nQ (Wh.y_ (we,zH,(32:Int)))] then
  let yw:=decide (r_3.1<(0:Int))
  let xS:=Wh.HP (List.take (Int.toNat (r_3.1-zH)) (List.drop (Int.toNat zH) we))
  let zl:=bif yw then true else xS.1 != O0
  bif iy [!!yw || nQ (Wh.AJ (List.take (Int.toNat (r_3.1-zH)) (List.drop (Int.toNat zH) we))),!!yw || decide ((0:Int)≤zH),!!yw || decide (zH≤r_3.1),!!yw || decide (r_3.1≤(↑(List.length we):Int))] then
   bif zl then
    some (([],(0:Int)),())
   else
    let za:=IntKind.wrap .i64 (r_3.1+(1:Int))
    let zy:=Wh.HI (we,za,(32:Int))
    bif iy [nQ (Wh.y_ (we,za,(32:Int)))] then
     bif decide (zy.1<(0:Int)) then
      some (([],(0:Int)),())
     else
      let D7:=Wh.HP (List.take (Int.toNat (zy.1-za)) (List.drop (Int.toNat za) we))
      bif iy [nQ (Wh.AJ (List.take (Int.toNat (zy.1-za)) (List.drop (Int.toNat za) we))),decide ((0:Int)≤za),decide (za≤zy.1),decide (zy.1≤(↑(List.length we):Int))] then
       let n5:=IntKind.wrap .i64 (zy.1+(18:Int))
       let nS:=Wh.yl (D7.1,(1:Int),(500:Int))
       let xQ:=bif !nS.1 then true else decide (IntKind.wrap .i64 (IntKind.wrap .i64 (n5+D7.1)+(1:Int))>(↑(List.length we):Int))
       bif iy [nQ (Wh.xY (D7.1,(1:Int),(500:Int)))] then
        bif xQ then
         some (([],(0:Int)),())
        else
         let xZ:=IntKind.wrap .i64 (n5+D7.1)
         let yB:xU.D:=Wh.HJ (O0,List.take (Int.toNat (xZ-n5)) (List.drop (Int.toNat n5) we))
         bif iy [nQ (Wh.Dt (O0,List.take (Int.toNat (xZ-n5)) (List.drop (Int.toNat n5) we))),decide ((0:Int)≤n5),decide (n5≤xZ),decide (xZ≤(↑(List.length we):Int))] then
          bif iy [decide ((0:Int)≤zH),decide (zH≤IntKind.wrap .i64 (xZ+(1:Int))),decide (IntKind.wrap .i64 (xZ+(1:Int))≤(↑(List.length we):Int))] then
           bif(!List.take (Int.toNat (IntKind.wrap .i64 (xZ+(1:Int))-zH)) (List.drop (Int.toNat zH) we)==yB.1) then
            some (([],(0:Int)),())
           else
            let AQ:Int:=(↑(List.length yB.1):Int)
            let nW:List UInt8:=List.take (Int.toNat (xZ-n5)) (List.drop (Int.toNat n5) we)
            bif iy [decide ((0:Int)≤n5),decide (n5≤xZ),decide (xZ≤(↑(List.length we):Int))] then
             some ((nW,AQ),())
            else none
          else none
         else none
       else none
      else none
    else none
  else none
 else none
def Wh.PO:=eB Wh.Cu
theorem Wh.PR:OV Wh.Cu Wh.PO:=fe _
abbrev Wh.PU:Type:=((Int)×(Unit)×(List UInt8))×((List (List UInt8)))
abbrev Wh.aal:Type:=((((Unit)×(Int))×((List (List UInt8)))))
def Wh.Du (x:Wh.PU):Option (Wh.PU⊕Wh.aal):=
 let KQ:=x.1.1
 let Ow:=x.1.2.2
 let x7:List (List UInt8):=x.2
 let nG:Int:=(↑(List.length x7):Int)
 let BZ:(List UInt8×Int)×Unit:=Wh.PO (Ow,KQ,nG)
 bif iy [nQ (Wh.Cu (Ow,KQ,nG))] then
  bif(BZ.1.2==(0:Int)) then
   some (.inr (((),KQ),x7))
  else
   let pb_30:List (List UInt8):=[BZ.1.1]
   let yZ:List (List UInt8):=x7++pb_30
   bif iy [decide (List.length x7+(1:Nat)≤dh)] then
    some (.inl (((IntKind.wrap .i64 (KQ+BZ.1.2)),(),Ow),yZ))
   else none
 else none
def Wh.US:(((Unit)×(Int))×((List (List UInt8)))):=default
def Wh.Bh (xs:(List UInt8)):Option (((List (List UInt8))×(Int))×(Unit)):=
 let we:=xs
 let x_33:Wh.PU:=(((0:Int),(),we),[])
 bif lF Wh.Du x_33 then
  let y_34:=kG Wh.Du Wh.US x_33
  let Il:=y_34.1.2
  let OF:List (List UInt8):=y_34.2
  some ((OF,Il),())
 else none
def Wh.Gk:=eB Wh.Bh
theorem Wh.HK:OV Wh.Bh Wh.Gk:=fe _
abbrev Wh.PL:Type:=((Int)×(Int)×(List UInt8)×(Unit)×(Int))×((List (List UInt8)))
abbrev Wh.aaj:Type:=((((Int)×(List UInt8)×(Unit))×((List (List UInt8)))))
def Wh.zE (x:Wh.PL):Option (Wh.PL⊕Wh.aaj):=
 let gT:=x.1.1
 let F2:=x.1.2.1
 let Fz:List UInt8:=(x.1.2.2).1
 let NX:=x.1.2.2.2.2
 let x7:List (List UInt8):=x.2
 let nG:=decide (gT<(↑(List.length Fz):Int))
 bif nG then
  let so:Int:=(↑(UInt8.toNat (List.getD Fz (Int.toNat gT) (0:UInt8))):Int)
  let yq:=so==NX
  bif iy [decide ((0:Int)≤gT),nG] then
   bif yq then
    let A1:List (List UInt8):=[List.take (Int.toNat (gT-F2)) (List.drop (Int.toNat F2) Fz)]
    let yU:List (List UInt8):=x7++A1
    bif iy [decide (List.length x7+(1:Nat)≤dh),decide ((0:Int)≤F2),decide (F2≤gT),decide (gT≤(↑(List.length Fz):Int))] then
     let nW:=IntKind.wrap .i64 (gT+(1:Int))
     some (.inl ((nW,nW,Fz,(),NX),yU))
    else none
   else
    some (.inl (((IntKind.wrap .i64 (gT+(1:Int))),F2,Fz,(),NX),x7))
  else none
 else
  some (.inr ((F2,Fz,()),x7))
def Wh.UQ:(((Int)×(List UInt8)×(Unit))×((List (List UInt8)))):=default
def Wh.Cs (xs:(List UInt8)×(Int)):Option (((List (List UInt8)))×(Unit)):=
 let en:=xs.1
 let zH:=xs.2
 let Aw:Wh.PL:=(((0:Int),(0:Int),en,(),zH),[])
 bif lF Wh.zE Aw then
  let zT:=kG Wh.zE Wh.UQ Aw
  let K7:=zT.1.1
  let Ic:=zT.1.2.1
  let y2:List (List UInt8):=zT.2
  let xT:List (List UInt8):=[List.take (Int.toNat ((↑(List.length Ic):Int)-K7)) (List.drop (Int.toNat K7) Ic)]
  let x8:List (List UInt8):=y2++xT
  bif iy [decide (List.length y2+(1:Nat)≤dh),decide ((0:Int)≤K7),decide (K7≤(↑(List.length Ic):Int)),decide ((↑(List.length Ic):Int)≤(↑(List.length Ic):Int))] then
   some (x8,())
  else none
 else none
def Wh.PK:=eB Wh.Cs
theorem Wh.PM:OV Wh.Cs Wh.PK:=fe _
abbrev Wh.PC:Type:=((Int)×(List UInt8))×(Unit)
abbrev Wh.aaf:Type:=((((Bool))×(Unit))⊕(((List UInt8))×(Unit)))
def Wh.Cr (x:Wh.PC):Option (Wh.PC⊕Wh.aaf):=
 let z7:=x.1.1
 let Mm:=x.1.2
 let zG:=decide (z7<(↑(List.length Mm):Int))
 bif zG then
  let y4:Int:=(↑(UInt8.toNat (List.getD Mm (Int.toNat z7) (0:UInt8))):Int)
  let yp:=bif decide (y4<(97:Int)) then true else decide (y4>(122:Int))
  bif iy [!!decide (y4<(97:Int)) || decide ((0:Int)≤z7),!!decide (y4<(97:Int)) || zG,decide ((0:Int)≤z7),zG] then
   bif yp then
    some (.inr (.inl (false,())))
   else
    some (.inl (((IntKind.wrap .i64 (z7+(1:Int))),Mm),()))
  else none
 else
  some (.inr (.inr (Mm,())))
def Wh.UJ:(((Bool))×(Unit))⊕(((List UInt8))×(Unit)):=.inl default
def Wh.EZ (xs:(List UInt8)):Option (((Bool))×(Unit)):=
 let yR:=xs
 let x_17:Wh.PC:=(((0:Int),yR),())
 bif lF Wh.Cr x_17 then
  sumC (kG Wh.Cr Wh.UJ x_17) (fun FJ=>
   let nG:=FJ.1
   some (nG,())) (fun IK=>
   let Wm:=IK.1
   let r_22:=Wh.yl ((↑(List.length Wm):Int),(1:Int),(6:Int))
   bif iy [nQ (Wh.xY ((↑(List.length Wm):Int),(1:Int),(6:Int)))] then
    some (r_22.1,())
   else none)
 else none
def Wh.PB:=eB Wh.EZ
theorem Wh.UK:OV Wh.EZ Wh.PB:=fe _
def Wh.BT (xs:(an.D)):Option (((Bool))×(Unit)):=
 let t_0:an.D:=xs
 let r_1:=Wh.yl (t_0.1,(0:Int),(1:Int))
 let r_2:=Wh.PB t_0.2.1
 let xS:=Wh.yl ((↑(List.length ((t_0.2.2.2).1)):Int),(1:Int),(300:Int))
 let za:=bif bif r_1.1 then r_2.1 else false then xS.1 else false
 bif iy [(!bif r_1.1 then r_2.1 else false) || nQ (Wh.xY ((↑(List.length ((t_0.2.2.2).1)):Int),(1:Int),(300:Int))),!r_1.1 || nQ (Wh.EZ t_0.2.1),nQ (Wh.xY (t_0.1,(0:Int),(1:Int)))] then
  some (za,())
 else none
def Wh.Gq:=eB Wh.BT
theorem Wh.DF:OV Wh.BT Wh.Gq:=fe _
def Wh.CQ (xs:(Int)×(List UInt8)×(List UInt8)):Option (((List UInt8))×(Unit)):=
 let Da:=xs.1
 let yV:=xs.2.1
 let Av:=xs.2.2
 let r5:=Av == []
 bif r5 then
  let gz:=Wh.Gq (Da,yV,(0:Int),[(120:UInt8)],())
  bif iy [nQ (Wh.BT (Da,yV,(0:Int),[(120:UInt8)],()))] then
   bif !gz.1 then
    some ([],())
   else
    let xS:xU.D:=Wh.Bj Da
    let Ag:=xS.1 ++ [(32:UInt8)]++yV ++ [(58:UInt8)]++Av
    bif iy [decide (List.length (xS.1 ++ [(32:UInt8)]++yV ++ [(58:UInt8)])+List.length Av≤dh),decide (List.length (xS.1 ++ [(32:UInt8)]++yV)+(1:Nat)≤dh),decide (List.length (xS.1 ++ [(32:UInt8)])+List.length yV≤dh),decide (List.length xS.1+(1:Nat)≤dh),nQ (Wh.BR Da)] then
     some (Ag,())
    else none
  else none
 else
  let r_11:=Wh.Gq (Da,yV,(0:Int),Av,())
  bif iy [nQ (Wh.BT (Da,yV,(0:Int),Av,()))] then
   bif !r_11.1 then
    some ([],())
   else
    let zh:xU.D:=Wh.Bj Da
    let xZ:=zh.1 ++ [(32:UInt8)]++yV ++ [(58:UInt8)]++Av
    bif iy [decide (List.length (zh.1 ++ [(32:UInt8)]++yV ++ [(58:UInt8)])+List.length Av≤dh),decide (List.length (zh.1 ++ [(32:UInt8)]++yV)+(1:Nat)≤dh),decide (List.length (zh.1 ++ [(32:UInt8)])+List.length yV≤dh),decide (List.length zh.1+(1:Nat)≤dh),nQ (Wh.BR Da)] then
     some (xZ,())
    else none
  else none
def Wh.LY:=eB Wh.CQ
theorem Wh.LZ:OV Wh.CQ Wh.LY:=fe _
def Wh.E4 (xs:(an.D)×(Int)×(List UInt8)):Option (((Bool))×(Unit)):=
 let cr:an.D:=xs.1
 let nI:=xs.2.1
 let tn:=xs.2.2
 let xV:=bif decide (cr.1<nI) then true else bif cr.1==nI then Go.Op.bytesLess cr.2.1 tn else false
 some (xV,())
def Wh.LH:=eB Wh.E4
theorem Wh.LI:OV Wh.E4 Wh.LH:=fe _
abbrev Wh.Pe:Type:=((Int)×(List (an.D))×(Int)×(Int))×(Unit)
abbrev Wh.aaa:Type:=((((Int))×(Unit)))
def Wh.Cm (x:Wh.Pe):Option (Wh.Pe⊕Wh.aaa):=
 let gT:=x.1.1
 let Lg:List (an.D):=x.1.2.1
 let EH:Int:=(x.1.2.2).1
 let Ev:=x.1.2.2.2
 let nc:Int:=(↑(List.length Lg):Int)
 bif decide (gT<nc) then
  let so:an.D:=List.getD Lg (Int.toNat gT) ((0:Int),[],(0:Int),[],())
  bif iy [decide ((0:Int)≤gT),decide (gT<nc)] then
   bif(so.1==Ev) then
    bif iy [decide ((0:Int)≤gT),decide (gT<nc)] then
     some (.inl (((IntKind.wrap .i64 (gT+(1:Int))),Lg,(IntKind.wrap .i64 (EH+(↑(List.length ((so.2.2.2).1)):Int))),Ev),()))
    else none
   else
    some (.inl (((IntKind.wrap .i64 (gT+(1:Int))),Lg,EH,Ev),()))
  else none
 else
  some (.inr (EH,()))
def Wh.Uv:(((Int))×(Unit)):=default
def Wh.Dn (xs:(List (an.D))×(Int)):Option (((Int))×(Unit)):=
 let list_0:List (an.D):=xs.1
 let nI:=xs.2
 let Aw:Wh.Pe:=(((0:Int),list_0,(0:Int),nI),())
 bif lF Wh.Cm Aw then
  let zT:=kG Wh.Cm Wh.Uv Aw
  let n_30:=zT.1
  some (n_30,())
 else none
def Wh.Ly:=eB Wh.Dn
theorem Wh.Lz:OV Wh.Dn Wh.Ly:=fe _
abbrev Wh.P9:Type:=((Int)×(Unit))×((bx.D))
abbrev Wh.aas:Type:=((((Bool))×(Unit))⊕((Unit)×(Unit)))
def Wh.Fa (x:Wh.P9):Option (Wh.P9⊕Wh.aas):=
 let h_66:=x.1.1
 let Hx:bx.D:=x.2
 bif decide (h_66<(2:Int)) then
  let r_69:=Wh.Ly (Hx.2.1,h_66)
  bif iy [nQ (Wh.Dn (Hx.2.1,h_66))] then
   bif decide (r_69.1>(500:Int)) then
    some (.inr (.inl (false,())))
   else
    some (.inl (((IntKind.wrap .i64 (h_66+(1:Int))),()),Hx))
  else none
 else
  some (.inr (.inr ((),())))
def Wh.U7:(((Bool))×(Unit))⊕((Unit)×(Unit)):=.inl default
abbrev Wh.P8:Type:=((Int)×(Unit)×(Unit)×(Int))×((an.D)×(bx.D))
abbrev Wh.aar:Type:=((((Bool))×(Unit))⊕(((Unit)×(Int))×((bx.D))))
def Wh.Dx (x:Wh.P8):Option (Wh.P8⊕Wh.aar):=
 let Hr:=x.1.1
 let i_23:=x.1.2.2.2
 let yU:an.D:=x.2.1
 let AZ:bx.D:=x.2.2
 bif decide (Hr<i_23) then
  let Bq:an.D:=List.getD AZ.2.1 (Int.toNat Hr) ((0:Int),[],(0:Int),[],())
  bif iy [decide ((0:Int)≤Hr),decide (Hr<(↑(List.length AZ.2.1):Int))] then
   bif(Bq.2.2.1==yU.2.2.1) then
    some (.inr (.inl (false,())))
   else
    some (.inl (((IntKind.wrap .i64 (Hr+(1:Int))),(),(),i_23),yU,AZ))
  else none
 else
  some (.inr (.inr (((),i_23),AZ)))
def Wh.U6:(((Bool))×(Unit))⊕(((Unit)×(Int))×((bx.D))):=.inl default
abbrev Wh.P7:Type:=((Unit)×(Int))×((bx.D))
abbrev Wh.aaq:Type:=((((Bool))×(Unit))⊕(((Unit))×((bx.D))))
def Wh.CA (x:Wh.P7):Option (Wh.P7⊕Wh.aaq):=
 let AB:=x.1.2
 let y8:bx.D:=x.2
 let FG:Int:=(↑(List.length y8.2.1):Int)
 bif decide (AB<FG) then
  let AF:an.D:=List.getD y8.2.1 (Int.toNat AB) ((0:Int),[],(0:Int),[],())
  bif iy [decide ((0:Int)≤AB),decide (AB<FG)] then
   let H_:=Wh.Gq AF
   let Mb:=Wh.yl (AF.2.2.1,(1:Int),y8.1)
   let r_46:=Wh.LH (List.getD y8.2.1 (Int.toNat (IntKind.wrap .i64 (AB-(1:Int)))) ((0:Int),[],(0:Int),[],()),AF.1,AF.2.1)
   let v_47:=bif bif !H_.1 then true else !Mb.1 then true else bif decide (AB>(0:Int)) then !r_46.1 else false
   bif iy [!(decide (AB>(0:Int)) && !bif !H_.1 then true else !Mb.1) || nQ (Wh.E4 (List.getD y8.2.1 (Int.toNat (IntKind.wrap .i64 (AB-(1:Int)))) ((0:Int),[],(0:Int),[],()),AF.1,AF.2.1)),!(decide (AB>(0:Int)) && !bif !H_.1 then true else !Mb.1) || decide ((0:Int)≤IntKind.wrap .i64 (AB-(1:Int))),!(decide (AB>(0:Int)) && !bif !H_.1 then true else !Mb.1) || decide (IntKind.wrap .i64 (AB-(1:Int))<FG),!!!H_.1 || nQ (Wh.xY (AF.2.2.1,(1:Int),y8.1)),nQ (Wh.BT AF)] then
    bif v_47 then
     some (.inr (.inl (false,())))
    else
     let Iz:Wh.P8:=(((0:Int),(),(),AB),AF,y8)
     bif lF Wh.Dx Iz then
      sumC (kG Wh.Dx Wh.U6 Iz) (fun GH=>
       let B6:=GH.1
       some (.inr (.inl (B6,())))) (fun z_50=>
       let i_52:=z_50.1.2
       let ls_53:bx.D:=z_50.2
       some (.inl (((),(IntKind.wrap .i64 (i_52+(1:Int)))),ls_53)))
     else none
   else none
  else none
 else
  some (.inr (.inr ((),y8)))
def Wh.U5:(((Bool))×(Unit))⊕(((Unit))×((bx.D))):=.inl default
def Wh.Cz (xs:(bx.D)):Option (((Bool))×(Unit)):=
 let gv:bx.D:=xs
 let r_1:=Wh.yl (gv.1,(0:Int),(99999:Int))
 let v_2:=bif !r_1.1 then true else decide ((↑(List.length gv.2.1):Int)>(8:Int))
 bif iy [nQ (Wh.xY (gv.1,(0:Int),(99999:Int)))] then
  bif v_2 then
   some (false,())
  else
   let IA:Wh.P7:=(((),(0:Int)),gv)
   bif lF Wh.CA IA then
    sumC (kG Wh.CA Wh.U5 IA) (fun y_56=>
     let v_58:=y_56.1
     some (v_58,())) (fun z_57=>
     let ls_59:bx.D:=z_57.2
     let x_72:Wh.P9:=(((0:Int),()),ls_59)
     bif lF Wh.Fa x_72 then
      sumC (kG Wh.Fa Wh.U7 x_72) (fun y_73=>
       let v_75:=y_73.1
       some (v_75,())) (fun _=>
       some (true,()))
     else none)
   else none
 else none
def Wh.HM:=eB Wh.Cz
theorem Wh.Dy:OV Wh.Cz Wh.HM:=fe _
abbrev Wh.Qn:Type:=((Int)×(List UInt8)×(Unit)×(Int))×((bx.D))
abbrev Wh.aaA:Type:=((((Int))×(Unit))⊕((Unit)×(Unit)))
def Wh.CE (x:Wh.Qn):Option (Wh.Qn⊕Wh.aaA):=
 let Dc:=x.1.1
 let Ue:=x.1.2.1
 let Lb:=x.1.2.2.2
 let yz:bx.D:=x.2
 let xN:Int:=(↑(List.length yz.2.1):Int)
 bif decide (Dc<xN) then
  let nG:an.D:=List.getD yz.2.1 (Int.toNat Dc) ((0:Int),[],(0:Int),[],())
  let zR:=bif nG.1==Lb then nG.2.1==Ue else false
  bif iy [!nG.1==Lb || decide ((0:Int)≤Dc),!nG.1==Lb || decide (Dc<xN),decide ((0:Int)≤Dc),decide (Dc<xN)] then
   bif zR then
    some (.inr (.inl (Dc,())))
   else
    some (.inl (((IntKind.wrap .i64 (Dc+(1:Int))),Ue,(),Lb),yz))
  else none
 else
  some (.inr (.inr ((),())))
def Wh.Vh:(((Int))×(Unit))⊕((Unit)×(Unit)):=.inl default
def Wh.A2 (xs:(bx.D)×(Int)×(List UInt8)):Option (((Int))×(Unit)):=
 let gv:bx.D:=xs.1
 let nI:=xs.2.1
 let tn:=xs.2.2
 let x_25:Wh.Qn:=(((0:Int),tn,(),nI),gv)
 bif lF Wh.CE x_25 then
  sumC (kG Wh.CE Wh.Vh x_25) (fun Ah=>
   let nC:=Ah.1
   some (nC,())) (fun _=>
   some ((-1:Int),()))
 else none
def Wh.HQ:=eB Wh.A2
theorem Wh.Fi:OV Wh.A2 Wh.HQ:=fe _
def Wh.Bi (xs:(bx.D)):Option ((((Int)×((List (an.D))×(Unit))))×(Unit)):=
 let gv:bx.D:=xs
 let zf:List (an.D):=[]++gv.2.1
 bif iy [decide ((0:Nat)+List.length gv.2.1≤dh)] then
  some ((gv.1,zf,gv.2.2),())
 else none
def Wh.E3:=eB Wh.Bi
theorem Wh.Gm:OV Wh.Bi Wh.E3:=fe _
def Wh.E5 (xs:(bx.D)×(Int)):Option ((((Int)×((List (an.D))×(Unit))))×(Unit)):=
 let gv:bx.D:=xs.1
 let k_1:=xs.2
 let pb_2:List (an.D):=[]++List.take (Int.toNat (k_1-(0:Int))) (List.drop (Int.toNat (0:Int)) gv.2.1)
 let HB:List (an.D):=pb_2++List.take (Int.toNat ((↑(List.length gv.2.1):Int)-IntKind.wrap .i64 (k_1+(1:Int)))) (List.drop (Int.toNat (IntKind.wrap .i64 (k_1+(1:Int)))) gv.2.1)
 let yw:List (an.D):=List.take (Int.toNat (k_1-(0:Int))) (List.drop (Int.toNat (0:Int)) gv.2.1)
 let xV:=IntKind.wrap .i64 (k_1+(1:Int))
 bif iy [decide (List.length pb_2+List.length (List.take (Int.toNat ((↑(List.length gv.2.1):Int)-xV)) (List.drop (Int.toNat xV) gv.2.1))≤dh),decide ((0:Int)≤xV),decide (xV≤(↑(List.length gv.2.1):Int)),decide ((↑(List.length gv.2.1):Int)≤(↑(List.length gv.2.1):Int)),decide ((0:Nat)+List.length yw≤dh),true,decide ((0:Int)≤k_1),decide (k_1≤(↑(List.length gv.2.1):Int))] then
  some ((gv.1,HB,()),())
 else none
def Wh.PV:=eB Wh.E5
theorem Wh.UT:OV Wh.E5 Wh.PV:=fe _
def Wh.q91 (xs:(bx.D)×(Int)×(List UInt8)):Option ((((Int)×((List (an.D))×(Unit)))×(Int))×(Unit)):=
 let gv:bx.D:=xs.1
 let nI:=xs.2.1
 let tn:=xs.2.2
 let r_3:=Wh.HM gv
 bif iy [nQ (Wh.Cz gv)] then
  bif !r_3.1 then
   some ((((0:Int),[],()),(1:Int)),())
  else
   let gz:=Wh.HQ (gv,nI,tn)
   bif iy [nQ (Wh.A2 (gv,nI,tn))] then
    bif decide (gz.1<(0:Int)) then
     let xd:(bx.D)×Unit:=Wh.E3 gv
     bif iy [nQ (Wh.Bi gv)] then
      some ((xd.1,(3:Int)),())
     else none
    else
     let yI:(bx.D)×Unit:=Wh.PV (gv,gz.1)
     bif iy [nQ (Wh.E5 (gv,gz.1))] then
      some ((yI.1,(0:Int)),())
     else none
   else none
 else none
def Wh.L6:=eB Wh.q91
theorem Wh.q91_v:OV Wh.q91 Wh.L6:=fe _
abbrev Wh.Qm:Type:=((Int)×(Unit)×(Unit)×(Unit))×(((Int)×((Unit)×(Unit)))×(bx.D)×(an.D)×(List (an.D)))
abbrev Wh.aaz:Type:=((((Unit)×(Int)×(Unit)×(Unit))×(((Int)×((Unit)×(Unit)))×(bx.D)×(an.D)×(List (an.D)))))
def Wh.CD (x:Wh.Qm):Option (Wh.Qm⊕Wh.aaz):=
 let By:=x.1.1
 let yj:=x.2.1.1
 let AY:=x.2.1.2.2
 let yz:bx.D:=x.2.2.1
 let wh:an.D:=(x.2.2.2).1
 let x7:List (an.D):=x.2.2.2.2
 let nG:Int:=(↑(List.length yz.2.1):Int)
 let zQ:=Wh.LH (List.getD yz.2.1 (Int.toNat By) ((0:Int),[],(0:Int),[],()),wh.1,wh.2.1)
 let n_:=bif decide (By<nG) then zQ.1 else false
 bif iy [!decide (By<nG) || nQ (Wh.E4 (List.getD yz.2.1 (Int.toNat By) ((0:Int),[],(0:Int),[],()),wh.1,wh.2.1)),!decide (By<nG) || decide ((0:Int)≤By),!decide (By<nG) || decide (By<nG)] then
  bif n_ then
   some (.inl (((IntKind.wrap .i64 (By+(1:Int))),(),(),()),(yj,(),AY),yz,wh,x7))
  else
   some (.inr (((),By,(),()),(yj,(),AY),yz,wh,x7))
 else none
def Wh.Vf:(((Unit)×(Int)×(Unit)×(Unit))×(((Int)×((Unit)×(Unit)))×(bx.D)×(an.D)×(List (an.D)))):=default
def Wh.Fh (xs:(bx.D)×(an.D)):Option ((((Int)×((List (an.D))×(Unit))))×(Unit)):=
 let gv:bx.D:=xs.1
 let t_1:an.D:=xs.2
 let Ir:Wh.Qm:=(((0:Int),(),(),()),((0:Int),(),()),gv,t_1,[])
 bif lF Wh.CD Ir then
  let ID:=kG Wh.CD Wh.Vf Ir
  let Bz:=ID.1.2.1
  let yZ:bx.D:=ID.2.2.1
  let y2:an.D:=(ID.2.2.2).1
  let Lw:=IntKind.wrap .i64 (yZ.1+(1:Int))
  let HC:List (an.D):=[]++List.take (Int.toNat (Bz-(0:Int))) (List.drop (Int.toNat (0:Int)) yZ.2.1)
  let Lx:List (an.D):=[(y2.1,y2.2.1,Lw,y2.2.2.2)]
  let pb_38:List (an.D):=HC++Lx++List.take (Int.toNat ((↑(List.length yZ.2.1):Int)-Bz)) (List.drop (Int.toNat Bz) yZ.2.1)
  let FG:List (an.D):=List.take (Int.toNat (Bz-(0:Int))) (List.drop (Int.toNat (0:Int)) yZ.2.1)
  let v_40:List (an.D):=List.take (Int.toNat ((↑(List.length yZ.2.1):Int)-Bz)) (List.drop (Int.toNat Bz) yZ.2.1)
  bif iy [decide (List.length (HC++Lx)+List.length v_40≤dh),decide ((0:Int)≤Bz),decide (Bz≤(↑(List.length yZ.2.1):Int)),decide ((↑(List.length yZ.2.1):Int)≤(↑(List.length yZ.2.1):Int)),decide (List.length HC+(1:Nat)≤dh),decide ((0:Nat)+List.length FG≤dh),true,decide ((0:Int)≤Bz),decide (Bz≤(↑(List.length yZ.2.1):Int))] then
   some ((Lw,pb_38,()),())
  else none
 else none
def Wh.Ql:=eB Wh.Fh
theorem Wh.Vg:OV Wh.Fh Wh.Ql:=fe _
def Wh.Cq (xs:(bx.D)×(Int)×(List UInt8)×(List UInt8)):Option ((((Int)×((List (an.D))×(Unit)))×(Int))×(Unit)):=
 let gv:bx.D:=xs.1
 let nI:=xs.2.1
 let tn:=xs.2.2.1
 let B4:=xs.2.2.2
 let gz:=Wh.HM gv
 bif iy [nQ (Wh.Cz gv)] then
  bif !gz.1 then
   some ((((0:Int),[],()),(1:Int)),())
  else
   let xS:=Wh.Gq (nI,tn,(0:Int),B4,())
   bif iy [nQ (Wh.BT (nI,tn,(0:Int),B4,()))] then
    bif !xS.1 then
     let xd:(bx.D)×Unit:=Wh.E3 gv
     bif iy [nQ (Wh.Bi gv)] then
      some ((xd.1,(1:Int)),())
     else none
    else
     let yI:=Wh.HQ (gv,nI,tn)
     bif iy [nQ (Wh.A2 (gv,nI,tn))] then
      bif decide (yI.1≥(0:Int)) then
       let A5:(bx.D)×Unit:=Wh.E3 gv
       bif iy [nQ (Wh.Bi gv)] then
        some ((A5.1,(2:Int)),())
       else none
      else
       let zG:Int:=(↑(List.length gv.2.1):Int)
       let D8:=Wh.Ly (gv.2.1,nI)
       let xN:=bif bif decide (zG≥(8:Int)) then true else decide (gv.1≥(99999:Int)) then true else decide (IntKind.wrap .i64 (D8.1+(↑(List.length B4):Int))>(500:Int))
       bif iy [(!!bif decide (zG≥(8:Int)) then true else decide (gv.1≥(99999:Int))) || nQ (Wh.Dn (gv.2.1,nI))] then
        bif xN then
         let H6:(bx.D)×Unit:=Wh.E3 gv
         bif iy [nQ (Wh.Bi gv)] then
          some ((H6.1,(4:Int)),())
         else none
        else
         let yB:(bx.D)×Unit:=Wh.Ql (gv,nI,tn,(0:Int),B4,())
         bif iy [nQ (Wh.Fh (gv,nI,tn,(0:Int),B4,()))] then
          some ((yB.1,(0:Int)),())
         else none
       else none
     else none
   else none
 else none
def Wh.LB:=eB Wh.Cq
theorem Wh.UH:OV Wh.Cq Wh.LB:=fe _
def Wh.BQ (xs:(bx.D)×(List UInt8)):Option ((((Int)×((List (an.D))×(Unit)))×(Bool))×(Unit)):=
 let gv:bx.D:=xs.1
 let s_1:=xs.2
 let r_2:=Wh.HI (s_1,(0:Int),(58:Int))
 bif iy [nQ (Wh.y_ (s_1,(0:Int),(58:Int)))] then
  bif decide (r_2.1<(0:Int)) then
   some ((((0:Int),[],()),false),())
  else
   let gz:List (List UInt8)×Unit:=Wh.PK (List.take (Int.toNat (r_2.1-(0:Int))) (List.drop (Int.toNat (0:Int)) s_1),(32:Int))
   let xV:List UInt8:=List.take (Int.toNat (r_2.1-(0:Int))) (List.drop (Int.toNat (0:Int)) s_1)
   bif iy [nQ (Wh.Cs (xV,(32:Int))),true,decide ((0:Int)≤r_2.1),decide (r_2.1≤(↑(List.length s_1):Int))] then
    let zl:=IntKind.wrap .i64 (r_2.1+(1:Int))
    let C5:List UInt8:=List.take (Int.toNat ((↑(List.length s_1):Int)-zl)) (List.drop (Int.toNat zl) s_1)
    bif iy [decide ((0:Int)≤zl),decide (zl≤(↑(List.length s_1):Int)),decide ((↑(List.length s_1):Int)≤(↑(List.length s_1):Int))] then
     let yK:Int:=(↑(List.length gz.1):Int)
     let zh:=Wh.HP (List.getD gz.1 (Int.toNat (0:Int)) [])
     let D7:xU.D:=Wh.LY (zh.1,List.getD gz.1 (Int.toNat (1:Int)) [],C5)
     let n5:=bif yK != (2:Int) then true else !D7.1==s_1
     bif iy [!!yK != (2:Int) || nQ (Wh.CQ (zh.1,List.getD gz.1 (Int.toNat (1:Int)) [],C5)),!!yK != (2:Int) || decide ((0:Int)≤(1:Int)),!!yK != (2:Int) || decide ((1:Int)<yK),!!yK != (2:Int) || nQ (Wh.AJ (List.getD gz.1 (Int.toNat (0:Int)) [])),!!yK != (2:Int) || decide ((0:Int)≤(0:Int)),!!yK != (2:Int) || decide ((0:Int)<yK)] then
      bif n5 then
       some ((((0:Int),[],()),false),())
      else
       let yp:=C5 == []
       bif yp then
        let D8:((bx.D)×Int)×Unit:=Wh.L6 (gv,zh.1,List.getD gz.1 (Int.toNat (1:Int)) [])
        let nc:=List.getD gz.1 (Int.toNat (0:Int)) []
        let nG:=List.getD gz.1 (Int.toNat (1:Int)) []
        let r_30:((bx.D)×Int)×Unit:=Wh.L6 (gv,zh.1,nG)
        bif iy [nQ (Wh.q91 (gv,zh.1,nG)),true,decide ((1:Int)<yK),nQ (Wh.AJ nc),true,decide ((0:Int)<yK)] then
         some (((D8.1.1.1,(D8.1.1.2).1,D8.1.1.2.2),(r_30.1.2==(0:Int))),())
        else none
       else
        let vN:((bx.D)×Int)×Unit:=Wh.LB (gv,zh.1,List.getD gz.1 (Int.toNat (1:Int)) [],C5)
        let Il:=List.getD gz.1 (Int.toNat (0:Int)) []
        let yu:=List.getD gz.1 (Int.toNat (1:Int)) []
        let r_46:((bx.D)×Int)×Unit:=Wh.LB (gv,zh.1,yu,C5)
        bif iy [nQ (Wh.Cq (gv,zh.1,yu,C5)),true,decide ((1:Int)<yK),nQ (Wh.AJ Il),true,decide ((0:Int)<yK)] then
         some (((vN.1.1.1,(vN.1.1.2).1,vN.1.1.2.2),(r_46.1.2==(0:Int))),())
        else none
     else none
    else none
   else none
 else none
def Wh.LF:=eB Wh.BQ
theorem Wh.LG:OV Wh.BQ Wh.LF:=fe _
abbrev Wh.P5:Type:=((Unit)×(Int)×(Unit)×(List (List UInt8)))×(((Int)×((Unit)×(Unit)))×((Int)×((Unit)×(Unit)))×(List (an.D))×(List (an.D)))
abbrev Wh.aap:Type:=((((Unit)×(Bool))×(((Int)×((Unit)×(Unit)))×(List (an.D))))⊕(((Unit)×(Unit))×(((Int)×((Unit)×(Unit)))×((Int)×((Unit)×(Unit)))×(List (an.D))×(List (an.D)))))
def Wh.Cy (x:Wh.P5):Option (Wh.P5⊕Wh.aap):=
 let gT:=x.1.2.1
 let Mg:List (List UInt8):=x.1.2.2.2
 let yz:=x.2.1.1
 let wh:=x.2.1.2.2
 let x7:=x.2.2.1.1
 let zC:Unit:=(x.2.2.1).2.2
 let yO:List (an.D):=(x.2.2.2).1
 let yc:List (an.D):=x.2.2.2.2
 let zR:Int:=(↑(List.length Mg):Int)
 bif decide (gT<zR) then
  let ym:((bx.D)×Bool)×Unit:=Wh.LF ((x7,yc,zC),List.getD Mg (Int.toNat gT) [])
  let nW:=List.getD Mg (Int.toNat gT) []
  bif iy [nQ (Wh.BQ ((x7,yc,zC),nW)),decide ((0:Int)≤gT),decide (gT<zR)] then
   bif(!ym.1.2) then
    some (.inr (.inl (((),false),((0:Int),(),()),[])))
   else
    some (.inl (((),(IntKind.wrap .i64 (gT+(1:Int))),(),Mg),(yz,(),wh),(ym.1.1.1,(),ym.1.1.2.2),yO,(ym.1.1.2).1))
  else none
 else
  some (.inr (.inr (((),()),(yz,(),wh),(x7,(),zC),yO,yc)))
def Wh.U4:(((Unit)×(Bool))×(((Int)×((Unit)×(Unit)))×(List (an.D))))⊕(((Unit)×(Unit))×(((Int)×((Unit)×(Unit)))×((Int)×((Unit)×(Unit)))×(List (an.D))×(List (an.D)))):=.inl default
def Wh.Dw (xs:(List (List UInt8))):Option ((((Int)×((List (an.D))×(Unit)))×(Bool))×(Unit)):=
 let Mf:List (List UInt8):=xs
 let Iu:Wh.P5:=(((),(0:Int),(),Mf),((0:Int),(),()),((0:Int),(),()),[],[])
 bif lF Wh.Cy Iu then
  sumC (kG Wh.Cy Wh.U4 Iu) (fun GF=>
   let AR:=GF.1.2
   let z_:=GF.2.1.1
   let x8:=GF.2.1.2.2
   let As:List (an.D):=GF.2.2
   some (((z_,As,x8),AR),())) (fun z_31=>
   let y8:=z_31.2.2.1.1
   let BA:Unit:=(z_31.2.2.1).2.2
   let OH:List (an.D):=z_31.2.2.2.2
   some (((y8,OH,BA),true),()))
 else none
def Wh.LM:=eB Wh.Dw
theorem Wh.P6:OV Wh.Dw Wh.LM:=fe _
def Wh.q97 (xs:(cx.D)):Option (((Bool))×(Unit)):=
 let en:cx.D:=xs
 let r_1:(List (List UInt8)×Int)×Unit:=Wh.Gk (en.2.2.1)
 bif iy [nQ (Wh.Bh (en.2.2.1))] then
  let r_2:((bx.D)×Bool)×Unit:=Wh.LM r_1.1.1
  bif iy [nQ (Wh.Dw r_1.1.1)] then
   some (r_2.1.2,())
  else none
 else none
def Wh.q97':=eB Wh.q97
theorem Wh.q97_v:OV Wh.q97 Wh.q97':=fe _
abbrev Wh.Rn:Type:=((Int)×(Unit)×(Unit))×((bx.D)×(bx.D))
abbrev Wh.abf:Type:=((((Bool))×(Unit))⊕((Unit)×(Unit)))
def Wh.CZ (x:Wh.Rn):Option (Wh.Rn⊕Wh.abf):=
 let zJ:=x.1.1
 let yH:bx.D:=x.2.1
 let yj:bx.D:=x.2.2
 let xQ:Int:=(↑(List.length yj.2.1):Int)
 bif decide (zJ<xQ) then
  let xN:an.D:=List.getD yj.2.1 (Int.toNat zJ) ((0:Int),[],(0:Int),[],())
  let nc:an.D:=List.getD yH.2.1 (Int.toNat zJ) ((0:Int),[],(0:Int),[],())
  bif iy [decide ((0:Int)≤zJ),decide (zJ<(↑(List.length yH.2.1):Int)),decide ((0:Int)≤zJ),decide (zJ<xQ)] then
   bif(!(xN.1==nc.1&&(xN.2.1==nc.2.1&&(xN.2.2.1==nc.2.2.1&&((xN.2.2.2).1==(nc.2.2.2).1&&true))))) then
    some (.inr (.inl (false,())))
   else
    some (.inl (((IntKind.wrap .i64 (zJ+(1:Int))),(),()),yH,yj))
  else none
 else
  some (.inr (.inr ((),())))
def Wh.VZ:(((Bool))×(Unit))⊕((Unit)×(Unit)):=.inl default
def Wh.CY (xs:(bx.D)×(bx.D)):Option (((Bool))×(Unit)):=
 let cr:bx.D:=xs.1
 let b_1:bx.D:=xs.2
 let r5:=bif(cr.1 != b_1.1) then true else(↑(List.length cr.2.1):Int) != (↑(List.length b_1.2.1):Int)
 bif r5 then
  some (false,())
 else
  let x_22:Wh.Rn:=(((0:Int),(),()),b_1,cr)
  bif lF Wh.CZ x_22 then
   sumC (kG Wh.CZ Wh.VZ x_22) (fun y_23=>
    let AQ:=y_23.1
    some (AQ,())) (fun _=>
    some (true,()))
  else none
def Wh.q96':=eB Wh.CY
theorem Wh.q96_v:OV Wh.CY Wh.q96':=fe _
def Wh.Dz (xs:(ct.D)):Option (((Bool))×(Unit)):=
 let An:ct.D:=xs
 bif(An.2.1==(0:Int)) then
  some ((An.1==(0:Int)&&(An.2.1==(0:Int)&&(An.2.2.1==(0:Int)&&((An.2.2.2).1==(0:Int)&&(An.2.2.2.2.1==false&&true))))),())
 else
  let r_3:=Wh.yl (An.1,(0:Int),(1:Int))
  let gz:=Wh.yl (An.2.1,(1:Int),(99999:Int))
  let yI:=Wh.yl (An.2.2.1,(0:Int),(23:Int))
  let A5:=Wh.yl ((An.2.2.2).1,(0:Int),(99999:Int))
  let y4:=bif bif bif r_3.1 then gz.1 else false then yI.1 else false then A5.1 else false
  bif iy [(!bif bif r_3.1 then gz.1 else false then yI.1 else false) || nQ (Wh.xY ((An.2.2.2).1,(0:Int),(99999:Int))),(!bif r_3.1 then gz.1 else false) || nQ (Wh.xY (An.2.2.1,(0:Int),(23:Int))),!r_3.1 || nQ (Wh.xY (An.2.1,(1:Int),(99999:Int))),nQ (Wh.xY (An.1,(0:Int),(1:Int)))] then
   some (y4,())
  else none
def Wh.Qc:=eB Wh.Dz
theorem Wh.LN:OV Wh.Dz Wh.Qc:=fe _
abbrev Wh.Qb:Type:=((Int)×(Int)×(Int)×(Unit))×((fN.D))
abbrev Wh.aat:Type:=((((Int))×(Unit)))
def Wh.CB (x:Wh.Qb):Option (Wh.Qb⊕Wh.aat):=
 let gT:=x.1.1
 let EG:=x.1.2.1
 let Eu:Int:=(x.1.2.2).1
 let wh:fN.D:=x.2
 let nc:Int:=(↑(List.length wh.1):Int)
 bif decide (gT<nc) then
  let so:ct.D:=List.getD wh.1 (Int.toNat gT) ((0:Int),(0:Int),(0:Int),(0:Int),false,())
  let n_:=bif decide (so.2.1>(0:Int)) then so.1==Eu else false
  bif iy [!decide (so.2.1>(0:Int)) || decide ((0:Int)≤gT),!decide (so.2.1>(0:Int)) || decide (gT<nc),decide ((0:Int)≤gT),decide (gT<nc)] then
   bif n_ then
    some (.inl (((IntKind.wrap .i64 (gT+(1:Int))),(IntKind.wrap .i64 (EG+(1:Int))),Eu,()),wh))
   else
    some (.inl (((IntKind.wrap .i64 (gT+(1:Int))),EG,Eu,()),wh))
  else none
 else
  some (.inr (EG,()))
def Wh.U9:(((Int))×(Unit)):=default
def Wh.Fe (xs:(fN.D)×(Int)):Option (((Int))×(Unit)):=
 let r_:fN.D:=xs.1
 let nI:=xs.2
 let Aw:Wh.Qb:=(((0:Int),(0:Int),nI,()),r_)
 bif lF Wh.CB Aw then
  let zT:=kG Wh.CB Wh.U9 Aw
  let n_30:=zT.1
  some (n_30,())
 else none
def Wh.Qa:=eB Wh.Fe
theorem Wh.Gp:OV Wh.Fe Wh.Qa:=fe _
abbrev Wh.PG:Type:=((Int)×(Unit))×((fN.D))
abbrev Wh.aai:Type:=((((Bool))×(Unit))⊕((Unit)×(Unit)))
def Wh.BN (x:Wh.PG):Option (Wh.PG⊕Wh.aai):=
 let h_67:=x.1.1
 let OO:fN.D:=x.2
 bif decide (h_67<(2:Int)) then
  let r_70:=Wh.Qa (OO,h_67)
  bif iy [nQ (Wh.Fe (OO,h_67))] then
   bif decide (r_70.1>(5:Int)) then
    some (.inr (.inl (false,())))
   else
    some (.inl (((IntKind.wrap .i64 (h_67+(1:Int))),()),OO))
  else none
 else
  some (.inr (.inr ((),())))
def Wh.UN:(((Bool))×(Unit))⊕((Unit)×(Unit)):=.inl default
abbrev Wh.PF:Type:=((Int)×(Unit)×(Int))×((fN.D))
abbrev Wh.aah:Type:=((((Bool))×(Unit))⊕(((Unit)×(Int))×((fN.D))))
def Wh.Au (x:Wh.PF):Option (Wh.PF⊕Wh.aah):=
 let AW:=x.1.1
 let Bx:=x.1.2.2
 let zu:fN.D:=x.2
 bif decide (AW<Bx) then
  let nC:ct.D:=List.getD zu.1 (Int.toNat Bx) ((0:Int),(0:Int),(0:Int),(0:Int),false,())
  let AU:=bif bif decide (nC.2.1>(0:Int)) then nC.2.1==Prod.fst (Prod.snd (List.getD zu.1 (Int.toNat AW) ((0:Int),(0:Int),(0:Int),(0:Int),false,()))) else false then nC.2.2.1==Prod.fst (Prod.snd (Prod.snd (List.getD zu.1 (Int.toNat AW) ((0:Int),(0:Int),(0:Int),(0:Int),false,())))) else false
  bif iy [(!bif decide (nC.2.1>(0:Int)) then nC.2.1==Prod.fst (Prod.snd (List.getD zu.1 (Int.toNat AW) ((0:Int),(0:Int),(0:Int),(0:Int),false,()))) else false) || decide ((0:Int)≤AW),(!bif decide (nC.2.1>(0:Int)) then nC.2.1==Prod.fst (Prod.snd (List.getD zu.1 (Int.toNat AW) ((0:Int),(0:Int),(0:Int),(0:Int),false,()))) else false) || decide (AW<(↑(List.length zu.1):Int)),(!bif decide (nC.2.1>(0:Int)) then nC.2.1==Prod.fst (Prod.snd (List.getD zu.1 (Int.toNat AW) ((0:Int),(0:Int),(0:Int),(0:Int),false,()))) else false) || decide ((0:Int)≤Bx),(!bif decide (nC.2.1>(0:Int)) then nC.2.1==Prod.fst (Prod.snd (List.getD zu.1 (Int.toNat AW) ((0:Int),(0:Int),(0:Int),(0:Int),false,()))) else false) || decide (Bx<(↑(List.length zu.1):Int)),!decide (nC.2.1>(0:Int)) || decide ((0:Int)≤AW),!decide (nC.2.1>(0:Int)) || decide (AW<(↑(List.length zu.1):Int)),!decide (nC.2.1>(0:Int)) || decide ((0:Int)≤Bx),!decide (nC.2.1>(0:Int)) || decide (Bx<(↑(List.length zu.1):Int)),decide ((0:Int)≤Bx),decide (Bx<(↑(List.length zu.1):Int))] then
   bif AU then
    some (.inr (.inl (false,())))
   else
    some (.inl (((IntKind.wrap .i64 (AW+(1:Int))),(),Bx),zu))
  else none
 else
  some (.inr (.inr (((),Bx),zu)))
def Wh.UM:(((Bool))×(Unit))⊕(((Unit)×(Int))×((fN.D))):=.inl default
abbrev Wh.PE:Type:=((Unit)×(Int))×((fN.D))
abbrev Wh.aag:Type:=((((Bool))×(Unit))⊕(((Unit))×((fN.D))))
def Wh.BM (x:Wh.PE):Option (Wh.PE⊕Wh.aag):=
 let Hp:=x.1.2
 let F9:fN.D:=x.2
 let v_44:Int:=(↑(List.length F9.1):Int)
 bif decide (Hp<v_44) then
  let v_46:ct.D:=List.getD F9.1 (Int.toNat Hp) ((0:Int),(0:Int),(0:Int),(0:Int),false,())
  let r_48:=Wh.Qc v_46
  bif iy [nQ (Wh.Dz v_46),decide ((0:Int)≤Hp),decide (Hp<v_44)] then
   bif !r_48.1 then
    some (.inr (.inl (false,())))
   else
    let x_49:Wh.PF:=(((0:Int),(),Hp),F9)
    bif lF Wh.Au x_49 then
     sumC (kG Wh.Au Wh.UM x_49) (fun y_50=>
      let v_52:=y_50.1
      some (.inr (.inl (v_52,())))) (fun z_51=>
      let i_53:=z_51.1.2
      let OK:fN.D:=z_51.2
      some (.inl (((),(IntKind.wrap .i64 (i_53+(1:Int)))),OK)))
    else none
  else none
 else
  some (.inr (.inr ((),F9)))
def Wh.UL:(((Bool))×(Unit))⊕(((Unit))×((fN.D))):=.inl default
def Wh.Dr (xs:(fN.D)):Option (((Bool))×(Unit)):=
 let r_:fN.D:=xs
 let v_1:Int:=(↑(List.length r_.1):Int)
 let gz:=Wh.yl (r_.2.1,(0:Int),(7:Int))
 let xV:=bif v_1 != (8:Int) then true else !gz.1
 bif iy [!!v_1 != (8:Int) || nQ (Wh.xY (r_.2.1,(0:Int),(7:Int)))] then
  bif xV then
   some (false,())
  else
   let x_56:Wh.PE:=(((),(0:Int)),r_)
   bif lF Wh.BM x_56 then
    sumC (kG Wh.BM Wh.UL x_56) (fun y_57=>
     let v_59:=y_57.1
     some (v_59,())) (fun z_58=>
     let ls_60:fN.D:=z_58.2
     let x_73:Wh.PG:=(((0:Int),()),ls_60)
     bif lF Wh.BN x_73 then
      sumC (kG Wh.BN Wh.UN x_73) (fun y_74=>
       let v_76:=y_74.1
       some (v_76,())) (fun _=>
       some (true,()))
     else none)
   else none
 else none
def Wh.PD:=eB Wh.Dr
theorem Wh.UO:OV Wh.Dr Wh.PD:=fe _
abbrev Wh.QK:Type:=((Unit)×(Int)×(Unit)×(Int))×(((Int)×((List UInt8)×((Int)×((List UInt8)×(Unit)))))×(bx.D))
abbrev Wh.aaP:Type:=((((Unit)×(Bool))×((an.D)))⊕(((Unit))×(((Int)×((List UInt8)×((Int)×((List UInt8)×(Unit))))))))
def Wh.CR (x:Wh.QK):Option (Wh.QK⊕Wh.aaP):=
 let gT:=x.1.2.1
 let Hi:=x.1.2.2.2
 let yz:=x.2.1.1
 let wh:List UInt8:=(x.2.1.2).1
 let x7:=x.2.1.2.2.1
 let zC:List UInt8:=(x.2.1.2.2.2).1
 let yO:Unit:=(x.2.1.2.2.2).2
 let yc:bx.D:=x.2.2
 let zR:Int:=(↑(List.length yc.2.1):Int)
 bif decide (gT<zR) then
  let AQ:an.D:=List.getD yc.2.1 (Int.toNat gT) ((0:Int),[],(0:Int),[],())
  bif iy [decide ((0:Int)≤gT),decide (gT<zR)] then
   bif(AQ.2.2.1==Hi) then
    bif iy [decide ((0:Int)≤gT),decide (gT<zR)] then
     some (.inr (.inl (((),true),AQ)))
    else none
   else
    some (.inl (((),(IntKind.wrap .i64 (gT+(1:Int))),(),Hi),(yz,wh,x7,zC,yO),yc))
  else none
 else
  some (.inr (.inr ((),yz,wh,x7,zC,yO)))
def Wh.Vz:(((Unit)×(Bool))×((an.D)))⊕(((Unit))×(((Int)×((List UInt8)×((Int)×((List UInt8)×(Unit))))))):=.inl default
def Wh.q45 (xs:(bx.D)×(Int)):Option (((an.D)×(Bool))×(Unit)):=
 let gv:bx.D:=xs.1
 let Bt:=xs.2
 let Aw:Wh.QK:=(((),(0:Int),(),Bt),((0:Int),[],(0:Int),[],()),gv)
 bif lF Wh.CR Aw then
  sumC (kG Wh.CR Wh.Vz Aw) (fun zT=>
   let FF:=zT.1.2
   let y2:an.D:=zT.2
   some ((y2,FF),())) (fun _=>
   some ((((0:Int),[],(0:Int),[],()),false),()))
 else none
def Wh.L0:=eB Wh.q45
theorem Wh.DQ:OV Wh.q45 Wh.L0:=fe _
def Wh.q71 (xs:(Int)):Option (((Int))×(Unit)):=
 let N4:=xs
 some ((Int.tmod N4 (2:Int)),())
def Wh.q71':=eB Wh.q71
theorem Wh.Q9:OV Wh.q71 Wh.q71':=fe _
abbrev Wh.QJ:Type:=((Int)×(Unit))×((cx.D))
abbrev Wh.aaO:Type:=((((Bool))×(Unit))⊕((Unit)×(Unit)))
def Wh.BU (x:Wh.QJ):Option (Wh.QJ⊕Wh.aaO):=
 let yg:=x.1.1
 let z8:cx.D:=x.2
 let zj:Int:=(↑(List.length ((z8.2.2.2.2.2).2.1)):Int)
 bif decide (yg<zj) then
  let s_:gd.D:=List.getD ((z8.2.2.2.2.2).2.1) (Int.toNat yg) ((0:Int),(0:Int),(0:Int),(0:Int),(0:Int),(0:Int),())
  bif iy [decide ((0:Int)≤yg),decide (yg<zj)] then
   let vN:=Wh.yl (s_.1,(0:Int),(3:Int))
   let H8:=Wh.yl (s_.2.1,(1:Int),(99999:Int))
   let C0:=Wh.yl (s_.2.2.1,(1:Int),(z8.2.2.2).1.1)
   let C3:=Wh.yl ((s_.2.2.2).1,(0:Int),(9999:Int))
   let Ia:=Wh.yl (s_.2.2.2.2.1,(0:Int),(3:Int))
   let Ib:=Wh.yl ((s_.2.2.2.2.2).1,(0:Int),z8.2.1)
   let v_48:=bif bif bif bif bif bif !vN.1 then true else bif decide (yg>(0:Int)) then decide (Prod.fst (List.getD ((z8.2.2.2.2.2).2.1) (Int.toNat (IntKind.wrap .i64 (yg-(1:Int)))) ((0:Int),(0:Int),(0:Int),(0:Int),(0:Int),(0:Int),()))≥s_.1) else false then true else !H8.1 then true else !C0.1 then true else !C3.1 then true else !Ia.1 then true else !Ib.1
   bif iy [(!!bif bif bif bif bif !vN.1 then true else bif decide (yg>(0:Int)) then decide (Prod.fst (List.getD ((z8.2.2.2.2.2).2.1) (Int.toNat (IntKind.wrap .i64 (yg-(1:Int)))) ((0:Int),(0:Int),(0:Int),(0:Int),(0:Int),(0:Int),()))≥s_.1) else false then true else !H8.1 then true else !C0.1 then true else !C3.1 then true else !Ia.1) || nQ (Wh.xY ((s_.2.2.2.2.2).1,(0:Int),z8.2.1)),(!!bif bif bif bif !vN.1 then true else bif decide (yg>(0:Int)) then decide (Prod.fst (List.getD ((z8.2.2.2.2.2).2.1) (Int.toNat (IntKind.wrap .i64 (yg-(1:Int)))) ((0:Int),(0:Int),(0:Int),(0:Int),(0:Int),(0:Int),()))≥s_.1) else false then true else !H8.1 then true else !C0.1 then true else !C3.1) || nQ (Wh.xY (s_.2.2.2.2.1,(0:Int),(3:Int))),(!!bif bif bif !vN.1 then true else bif decide (yg>(0:Int)) then decide (Prod.fst (List.getD ((z8.2.2.2.2.2).2.1) (Int.toNat (IntKind.wrap .i64 (yg-(1:Int)))) ((0:Int),(0:Int),(0:Int),(0:Int),(0:Int),(0:Int),()))≥s_.1) else false then true else !H8.1 then true else !C0.1) || nQ (Wh.xY ((s_.2.2.2).1,(0:Int),(9999:Int))),(!!bif bif !vN.1 then true else bif decide (yg>(0:Int)) then decide (Prod.fst (List.getD ((z8.2.2.2.2.2).2.1) (Int.toNat (IntKind.wrap .i64 (yg-(1:Int)))) ((0:Int),(0:Int),(0:Int),(0:Int),(0:Int),(0:Int),()))≥s_.1) else false then true else !H8.1) || nQ (Wh.xY (s_.2.2.1,(1:Int),(z8.2.2.2).1.1)),(!!bif !vN.1 then true else bif decide (yg>(0:Int)) then decide (Prod.fst (List.getD ((z8.2.2.2.2.2).2.1) (Int.toNat (IntKind.wrap .i64 (yg-(1:Int)))) ((0:Int),(0:Int),(0:Int),(0:Int),(0:Int),(0:Int),()))≥s_.1) else false) || nQ (Wh.xY (s_.2.1,(1:Int),(99999:Int))),!(decide (yg>(0:Int)) && !!vN.1) || decide ((0:Int)≤IntKind.wrap .i64 (yg-(1:Int))),!(decide (yg>(0:Int)) && !!vN.1) || decide (IntKind.wrap .i64 (yg-(1:Int))<zj),nQ (Wh.xY (s_.1,(0:Int),(3:Int)))] then
    bif v_48 then
     some (.inr (.inl (false,())))
    else
     let r_49:((an.D)×Bool)×Unit:=Wh.L0 ((z8.2.2.2).1,s_.2.2.1)
     bif iy [nQ (Wh.q45 ((z8.2.2.2).1,s_.2.2.1))] then
      let r_50:=Wh.q71' s_.1
      let B6:=bif r_49.1.2 then r_49.1.1.1 != r_50.1 else false
      bif iy [!r_49.1.2 || nQ (Wh.q71 s_.1)] then
       bif B6 then
        some (.inr (.inl (false,())))
       else
        some (.inl (((IntKind.wrap .i64 (yg+(1:Int))),()),z8))
      else none
     else none
   else none
  else none
 else
  some (.inr (.inr ((),())))
def Wh.Vy:(((Bool))×(Unit))⊕((Unit)×(Unit)):=.inl default
def Wh.q44 (xs:(cx.D)):Option (((Bool))×(Unit)):=
 let en:cx.D:=xs
 let x_53:Wh.QJ:=(((0:Int),()),en)
 bif lF Wh.BU x_53 then
  sumC (kG Wh.BU Wh.Vy x_53) (fun y_54=>
   let v_56:=y_54.1
   some (v_56,())) (fun _=>
   some (true,()))
 else none
def Wh.q44':=eB Wh.q44
theorem Wh.q44_v:OV Wh.q44 Wh.q44':=fe _
def Wh.BJ (xs:(yD.D)):Option (((Int))×(Unit)):=
 let r_:yD.D:=xs
 bif iy [r_.2.1 != (0:Int)] then
  some ((IntKind.wrap .i64 (Int.tdiv (IntKind.wrap .i64 ((IntKind.wrap .i64 (r_.1+r_.2.1))-(1:Int))) r_.2.1)),())
 else none
def Wh.Gi:=eB Wh.BJ
theorem Wh.Cl:OV Wh.BJ Wh.Gi:=fe _
abbrev Wh.Qj:Type:=((Unit)×(Unit))×(((Int)×((Int)×((Unit)×((Unit)×(Unit)))))×((Int)×((Int)×((Unit)×((Unit)×(Unit)))))×(List (Int))×(List (Int))×(List (Int))×(List (Int)))
abbrev Wh.aax:Type:=((((Unit)×(Unit))×(((Int)×((Int)×((Unit)×((Unit)×(Unit)))))×((Int)×((Int)×((Unit)×((Unit)×(Unit)))))×(List (Int))×(List (Int))×(List (Int))×(List (Int)))))
def Wh.CC (x:Wh.Qj):Option (Wh.Qj⊕Wh.aax):=
 let yH:=x.2.1.1
 let yj:Int:=(x.2.1.2).1
 let AY:Unit:=(x.2.1.2.2.2).2
 let yz:=x.2.2.1.1
 let wh:Int:=(x.2.2.1).2.1
 let x7:Unit:=(x.2.2.1).2.2.2.2
 let zC:List Int:=(x.2.2.2).1
 let yO:=x.2.2.2.2.1
 let yc:List Int:=(x.2.2.2.2.2).1
 let yd:List Int:=(x.2.2.2.2.2).2
 let r_24:=Wh.Gi (yH,yj,zC,yO,AY)
 bif iy [nQ (Wh.BJ (yH,yj,zC,yO,AY))] then
  bif decide (r_24.1>(24:Int)) then
   some (.inl (((),()),(yH,(IntKind.wrap .i64 (yj+(1:Int))),(),(),AY),(yz,wh,(),(),x7),zC,yO,yc,yd))
  else
   some (.inr (((),()),(yz,wh,(),(),x7),(yH,yj,(),(),AY),yc,yd,zC,yO))
 else none
def Wh.Vd:(((Unit)×(Unit))×(((Int)×((Int)×((Unit)×((Unit)×(Unit)))))×((Int)×((Int)×((Unit)×((Unit)×(Unit)))))×(List (Int))×(List (Int))×(List (Int))×(List (Int)))):=default
def Wh.DD (xs:(Int)):Option ((((Int)×((Int)×((List (Int))×((List (Int))×(Unit))))))×(Unit)):=
 let Hu:=xs
 let Is:Wh.Qj:=(((),()),(Hu,(8:Int),(),(),()),((0:Int),(0:Int),(),(),()),[],[],[],[])
 bif lF Wh.CC Is then
  let FL:=kG Wh.CC Wh.Vd Is
  let y2:=FL.2.2.1.1
  let z_:Int:=(FL.2.2.1).2.1
  let x8:Unit:=(FL.2.2.1).2.2.2.2
  let Li:List Int:=(FL.2.2.2.2.2).1
  let y8:List Int:=(FL.2.2.2.2.2).2
  let L_:=Wh.Gi (y2,z_,Li,y8,x8)
  bif iy [nQ (Wh.BJ (y2,z_,Li,y8,x8))] then
   let k_42:=IntKind.wrap .i64 (Int.tdiv (IntKind.wrap .i64 (L_.1+(3:Int))) (4:Int))
   bif decide (k_42<L_.1) then
    let pb_44:List Int:=[k_42,L_.1]
    some ((y2,z_,pb_44,[(2:Int),(3:Int)],x8),())
   else
    let O9:List Int:=[L_.1]
    some ((y2,z_,O9,[(1:Int)],x8),())
  else none
 else none
def Wh.HO:=eB Wh.DD
theorem Wh.LQ:OV Wh.DD Wh.HO:=fe _
def Wh.q69 (xs:(fT.D)):Option (((Bool))×(Unit)):=
 let yM:fT.D:=xs
 let r_1:=Wh.yl (yM.2.1,(0:Int),(99999:Int))
 let r_2:=Wh.yl (yM.1,(0:Int),yM.2.1)
 let xS:=Wh.yl (yM.2.2.1,(0:Int),(99999:Int))
 let yJ:=Wh.yl ((yM.2.2.2).1,(0:Int),(99999:Int))
 let Ag:=bif bif bif r_1.1 then r_2.1 else false then xS.1 else false then yJ.1 else false
 bif iy [(!bif bif r_1.1 then r_2.1 else false then xS.1 else false) || nQ (Wh.xY ((yM.2.2.2).1,(0:Int),(99999:Int))),(!bif r_1.1 then r_2.1 else false) || nQ (Wh.xY (yM.2.2.1,(0:Int),(99999:Int))),!r_1.1 || nQ (Wh.xY (yM.1,(0:Int),yM.2.1)),nQ (Wh.xY (yM.2.1,(0:Int),(99999:Int)))] then
  some (Ag,())
 else none
def Wh.q69':=eB Wh.q69
theorem Wh.q69_v:OV Wh.q69 Wh.q69':=fe _
abbrev Wh.Q8:Type:=((Int)×(Unit))×((cx.D))
abbrev Wh.aa6:Type:=((((Bool))×(Unit))⊕((Unit)×(Unit)))
def Wh.CU (x:Wh.Q8):Option (Wh.Q8⊕Wh.aa6):=
 let h_80:=x.1.1
 let Lm:cx.D:=x.2
 let v_82:Int:=(↑(List.length ((Lm.2.2.2.2.2).1)):Int)
 bif decide (h_80<v_82) then
  let HE:fT.D:=List.getD ((Lm.2.2.2.2.2).1) (Int.toNat h_80) ((0:Int),(0:Int),(0:Int),(0:Int),())
  bif iy [decide ((0:Int)≤h_80),decide (h_80<v_82)] then
   let r_85:=Wh.q69' HE
   let Mr:=bif bif bif !r_85.1 then true else HE.2.1 != (40:Int) then true else HE.2.2.1 != (8:Int) then true else decide ((HE.2.2.2).1>Lm.2.1)
   bif iy [nQ (Wh.q69 HE)] then
    bif Mr then
     some (.inr (.inl (false,())))
    else
     some (.inl (((IntKind.wrap .i64 (h_80+(1:Int))),()),Lm))
   else none
  else none
 else
  some (.inr (.inr ((),())))
def Wh.VQ:(((Bool))×(Unit))⊕((Unit)×(Unit)):=.inl default
abbrev Wh.Q7:Type:=((Int)×(Unit))×((cx.D))
abbrev Wh.aa5:Type:=((((Bool))×(Unit))⊕(((Unit))×((cx.D))))
def Wh.AL (x:Wh.Q7):Option (Wh.Q7⊕Wh.aa5):=
 let Aq:=x.1.1
 let EE:cx.D:=x.2
 let B6:Int:=(↑(List.length ((EE.2.2.2.2.1).1)):Int)
 bif decide (Aq<B6) then
  let yW:((an.D)×Bool)×Unit:=Wh.L0 ((EE.2.2.2).1,Prod.fst (Prod.snd (List.getD ((EE.2.2.2.2.1).1) (Int.toNat Aq) ((0:Int),(0:Int),(0:Int),(0:Int),false,()))))
  let xR:ct.D:=List.getD ((EE.2.2.2.2.1).1) (Int.toNat Aq) ((0:Int),(0:Int),(0:Int),(0:Int),false,())
  bif iy [nQ (Wh.q45 ((EE.2.2.2).1,xR.2.1)),decide ((0:Int)≤Aq),decide (Aq<B6)] then
   let B3:(yD.D)×Unit:=Wh.HO (↑(List.length ((yW.1.1.2.2.2).1)):Int)
   let r_60:=Wh.Gi (B3.1.1,B3.1.2.1,bif(!bif !yW.1.2 then true else yW.1.1.1 != xR.1)&&(decide (xR.2.1>(0:Int)) && !decide ((xR.2.2.2).1>(0:Int))) then(B3.1.2.2).1 else [],bif(!bif !yW.1.2 then true else yW.1.1.1 != xR.1)&&(decide (xR.2.1>(0:Int)) && !decide ((xR.2.2.2).1>(0:Int))) then B3.1.2.2.2.1 else [],B3.1.2.2.2.2)
   let GC:=bif decide ((xR.2.2.2).1>(0:Int)) then true else bif decide (xR.2.1>(0:Int)) then bif bif !yW.1.2 then true else yW.1.1.1 != xR.1 then true else decide (xR.2.2.1≥r_60.1) else false
   bif iy [!((!bif !yW.1.2 then true else yW.1.1.1 != xR.1)&&(decide (xR.2.1>(0:Int)) && !decide ((xR.2.2.2).1>(0:Int)))) || nQ (Wh.BJ (B3.1.1,B3.1.2.1,bif(!bif !yW.1.2 then true else yW.1.1.1 != xR.1)&&(decide (xR.2.1>(0:Int)) && !decide ((xR.2.2.2).1>(0:Int))) then(B3.1.2.2).1 else [],bif(!bif !yW.1.2 then true else yW.1.1.1 != xR.1)&&(decide (xR.2.1>(0:Int)) && !decide ((xR.2.2.2).1>(0:Int))) then B3.1.2.2.2.1 else [],B3.1.2.2.2.2)),!((!bif !yW.1.2 then true else yW.1.1.1 != xR.1)&&(decide (xR.2.1>(0:Int)) && !decide ((xR.2.2.2).1>(0:Int)))) || nQ (Wh.DD (↑(List.length ((yW.1.1.2.2.2).1)):Int)),!((!bif !yW.1.2 then true else yW.1.1.1 != xR.1)&&(decide (xR.2.1>(0:Int)) && !decide ((xR.2.2.2).1>(0:Int)))) || decide ((0:Int)≤Aq),!((!bif !yW.1.2 then true else yW.1.1.1 != xR.1)&&(decide (xR.2.1>(0:Int)) && !decide ((xR.2.2.2).1>(0:Int)))) || decide (Aq<B6),!(!!yW.1.2&&(decide (xR.2.1>(0:Int)) && !decide ((xR.2.2.2).1>(0:Int)))) || decide ((0:Int)≤Aq),!(!!yW.1.2&&(decide (xR.2.1>(0:Int)) && !decide ((xR.2.2.2).1>(0:Int)))) || decide (Aq<B6),!!decide ((xR.2.2.2).1>(0:Int)) || decide ((0:Int)≤Aq),!!decide ((xR.2.2.2).1>(0:Int)) || decide (Aq<B6),decide ((0:Int)≤Aq),decide (Aq<B6)] then
    bif GC then
     some (.inr (.inl (false,())))
    else
     some (.inl (((IntKind.wrap .i64 (Aq+(1:Int))),()),EE))
   else none
  else none
 else
  some (.inr (.inr ((),EE)))
def Wh.VP:(((Bool))×(Unit))⊕(((Unit))×((cx.D))):=.inl default
def Wh.q70 (xs:(cx.D)):Option (((Bool))×(Unit)):=
 let en:cx.D:=xs
 let r_1:=Wh.yl (en.2.1,(0:Int),(99999:Int))
 let v_2:=bif !r_1.1 then true else decide ((↑(List.length (en.2.2.1)):Int)>(9000:Int))
 bif iy [nQ (Wh.xY (en.2.1,(0:Int),(99999:Int)))] then
  bif v_2 then
   some (false,())
  else
   bif(!en.1) then
    let yw:Int:=(↑(List.length ((en.2.2.2).1.2.1)):Int)
    let AN:=Wh.q97' en
    let nc:=bif bif bif bif bif bif yw==(0:Int) then(en.2.2.2).1.1==(0:Int) else false then(↑(List.length ((en.2.2.2.2.1).1)):Int)==(0:Int) else false then(en.2.2.2.2.1).2.1==(0:Int) else false then(↑(List.length ((en.2.2.2.2.2).1)):Int)==(0:Int) else false then(↑(List.length ((en.2.2.2.2.2).2.1)):Int)==(0:Int) else false then AN.1 else false
    bif iy [(!bif bif bif bif bif yw==(0:Int) then(en.2.2.2).1.1==(0:Int) else false then(↑(List.length ((en.2.2.2.2.1).1)):Int)==(0:Int) else false then(en.2.2.2.2.1).2.1==(0:Int) else false then(↑(List.length ((en.2.2.2.2.2).1)):Int)==(0:Int) else false then(↑(List.length ((en.2.2.2.2.2).2.1)):Int)==(0:Int) else false) || nQ (Wh.q97 en)] then
     some (nc,())
    else none
   else
    let yB:(List (List UInt8)×Int)×Unit:=Wh.Gk (en.2.2.1)
    bif iy [nQ (Wh.Bh (en.2.2.1))] then
     let H7:((bx.D)×Bool)×Unit:=Wh.LM yB.1.1
     bif iy [nQ (Wh.Dw yB.1.1)] then
      let yq:= !H7.1.2
      let ym:=Wh.q96' (H7.1.1,(en.2.2.2).1)
      let r_28:=Wh.PD (en.2.2.2.2.1)
      let A6:=Wh.q44' en
      let A7:=bif bif bif bif bif yq then true else yB.1.2 != (↑(List.length (en.2.2.1)):Int) then true else !ym.1 then true else !r_28.1 then true else(↑(List.length ((en.2.2.2.2.2).1)):Int) != (2:Int) then true else !A6.1
      bif iy [(!!bif bif bif bif yq then true else yB.1.2 != (↑(List.length (en.2.2.1)):Int) then true else !ym.1 then true else !r_28.1 then true else(↑(List.length ((en.2.2.2.2.2).1)):Int) != (2:Int)) || nQ (Wh.q44 en),(!!bif bif yq then true else yB.1.2 != (↑(List.length (en.2.2.1)):Int) then true else !ym.1) || nQ (Wh.Dr (en.2.2.2.2.1)),(!!bif yq then true else yB.1.2 != (↑(List.length (en.2.2.1)):Int)) || nQ (Wh.CY (H7.1.1,(en.2.2.2).1))] then
       bif A7 then
        some (false,())
       else
        let x_63:Wh.Q7:=(((0:Int),()),en)
        bif lF Wh.AL x_63 then
         sumC (kG Wh.AL Wh.VP x_63) (fun y_64=>
          let v_66:=y_64.1
          some (v_66,())) (fun z_65=>
          let Hx:cx.D:=z_65.2
          let x_92:Wh.Q8:=(((0:Int),()),Hx)
          bif lF Wh.CU x_92 then
           sumC (kG Wh.CU Wh.VQ x_92) (fun y_93=>
            let v_95:=y_93.1
            some (v_95,())) (fun _=>
            some (true,()))
          else none)
        else none
      else none
     else none
    else none
 else none
def Wh.q70':=eB Wh.q70
theorem Wh.L3:OV Wh.q70 Wh.q70':=fe _
def Wh.x_ (xs:(Int)×(Int)×(Int)):Option (((Bool))×(Unit)):=
 let yA:=xs.1
 let Oy:=xs.2.1
 let Oh:=xs.2.2
 let xV:=bif decide (yA≥Oy) then decide (yA≤Oh) else false
 some (xV,())
def Wh.yQ:=eB Wh.x_
theorem Wh.zv:OV Wh.x_ Wh.yQ:=fe _
def Wh.Ae (xs:(Int)×(Int)):Option (((Int))×(Unit)):=
 let yx:=xs.1
 let by_1:=xs.2
 let v_2:Int:=Int.fdiv yx ((2:Int) ^ Min.min (Int.toNat by_1) (Go.IntKind.bits Go.IntKind.u32))
 let r5:=IntKind.wrap .i64 ((32:Int)-by_1)
 let zl:Int:=nj Go.BinOp.or Go.IntKind.u32 v_2 (IntKind.wrap .u32 (yx*(2:Int) ^ Min.min (Int.toNat r5) (Go.IntKind.bits Go.IntKind.u32)))
 bif iy [decide ((0:Int)≤r5),decide ((0:Int)≤by_1)] then
  some (zl,())
 else none
def Wh.AH:=eB Wh.Ae
theorem Wh.q106_v:OV Wh.Ae Wh.AH:=fe _
abbrev Wh.Q0:Type:=((Int)×(Unit)×(List (Int)))×((List (Int)))
abbrev Wh.aaZ:Type:=((((Unit))×((List (Int)))))
def Wh.HT (x:Wh.Q0):Option (Wh.Q0⊕Wh.aaZ):=
 let Ip:=x.1.1
 let v_572:=x.1.2.2
 let OL:=x.2
 bif decide (Ip<(8:Int)) then
  let Mp:=List.getD v_572 (Int.toNat Ip) (0:Int)
  bif iy [decide ((0:Int)≤Ip),decide (Ip<(↑(nat_lit 8):Int))] then
   let pb_576:List Int:=[IntKind.wrap .u8 (Int.fdiv Mp ((2:Int) ^ Min.min (Int.toNat (24:Int)) (Go.IntKind.bits Go.IntKind.u32))),IntKind.wrap .u8 (Int.fdiv Mp ((2:Int) ^ Min.min (Int.toNat (16:Int)) (Go.IntKind.bits Go.IntKind.u32))),IntKind.wrap .u8 (Int.fdiv Mp ((2:Int) ^ Min.min (Int.toNat (8:Int)) (Go.IntKind.bits Go.IntKind.u32))),IntKind.wrap .u8 Mp]
   let ls_577:=OL++pb_576
   bif iy [decide (List.length OL+(4:Nat)≤dh),true,true,true] then
    some (.inl (((IntKind.wrap .i64 (Ip+(1:Int))),(),v_572),ls_577))
   else none
  else none
 else
  some (.inr ((),OL))
def Wh.VJ:(((Unit))×((List (Int)))):=default
abbrev Wh.QZ:Type:=((Int)×(Unit)×(Unit)×(Nat×Nat))×((List (Int))×(List (Int))×(List (Int)))
abbrev Wh.aaY:Type:=((((Unit)×(Nat×Nat))×((List (Int))×(List (Int)))))
def Wh.HS (x:Wh.QZ):Option (Wh.QZ⊕Wh.aaY):=
 let Br:=x.1.1
 let b_510:=x.1.2.2.2.1
 let b_511:=x.1.2.2.2.2
 let OJ:=x.2.1
 let Th:=x.2.2.1
 let Ti:=x.2.2.2
 bif decide (Br<(8:Int)) then
  let ls_516:=List.set OJ (Int.toNat Br) (IntKind.wrap .u32 (List.getD OJ (Int.toNat Br) (0:Int)+List.getD Th (Int.toNat Br) (0:Int)))
  bif iy [decide ((0:Int)≤Br),decide (Br<(↑(8:Nat):Int)),decide ((0:Int)≤Br),decide (Br<(↑(8:Nat):Int)),decide ((0:Int)≤Br),decide (Br<(↑(8:Nat):Int))] then
   some (.inl (((IntKind.wrap .i64 (Br+(1:Int))),(),(),b_510,b_511),ls_516,Th,Ti))
  else none
 else
  some (.inr (((),b_510,b_511),OJ,Ti))
def Wh.VI:(((Unit)×(Nat×Nat))×((List (Int))×(List (Int)))):=default
abbrev Wh.QY:Type:=((Int)×(Unit)×(Unit)×(Unit)×(Nat×Nat))×((List (Int))×(List (Int))×(List (Int))×(List (Int)))
abbrev Wh.aaX:Type:=((((Unit)×(Unit)×(Nat×Nat))×((List (Int))×(List (Int))×(List (Int)))))
def Wh.Fm (x:Wh.QY):Option (Wh.QY⊕Wh.aaX):=
 let Ed:=x.1.1
 let b_447:Nat:=(x.1.2.2.2.2).1
 let b_448:Nat:=(x.1.2.2.2.2).2
 let Cg:=x.2.1
 let Te:=x.2.2.1
 let Tf:List Int:=(x.2.2.2).1
 let Tg:=x.2.2.2.2
 bif decide (Ed<(64:Int)) then
  let C6:=List.getD Cg (Int.toNat (4:Int)) (0:Int)
  let C7:=List.getD Cg (Int.toNat (0:Int)) (0:Int)
  let v_456:=List.getD Cg (Int.toNat (7:Int)) (0:Int)
  let r_457:=Wh.AH (C6,(6:Int))
  let r_458:=Wh.AH (C6,(11:Int))
  let r_460:=Wh.AH (C6,(25:Int))
  let v_463:=List.getD Cg (Int.toNat (5:Int)) (0:Int)
  let v_464:=List.getD Cg (Int.toNat (6:Int)) (0:Int)
  let v_468:=List.getD Wh.Bc (Int.toNat Ed) (0:Int)
  let v_470:=List.getD Te (Int.toNat Ed) (0:Int)
  let Uj:=IntKind.wrap .u32 (IntKind.wrap .u32 (IntKind.wrap .u32 (IntKind.wrap .u32 (v_456+nj Go.BinOp.xor Go.IntKind.u32 (nj Go.BinOp.xor Go.IntKind.u32 r_457.1 r_458.1) r_460.1)+nj Go.BinOp.xor Go.IntKind.u32 (nj Go.BinOp.and Go.IntKind.u32 C6 v_463) (nj Go.BinOp.and Go.IntKind.u32 (nj Go.BinOp.xor Go.IntKind.u32 (Go.IntKind.max Go.IntKind.u32) C6) v_464))+v_468)+v_470)
  bif iy [decide ((0:Int)≤Ed),decide (Ed<(↑(64:Nat):Int)),decide ((0:Int)≤Ed),decide (Ed<(↑(64:Nat):Int)),true,true,true,true,nQ (Wh.Ae (C6,(25:Int))),nQ (Wh.Ae (C6,(11:Int))),nQ (Wh.Ae (C6,(6:Int))),true,true] then
   let r_473:=Wh.AH (C7,(2:Int))
   let r_474:=Wh.AH (C7,(13:Int))
   let r_476:=Wh.AH (C7,(22:Int))
   let RE:=List.getD Cg (Int.toNat (1:Int)) (0:Int)
   let RF:=List.getD Cg (Int.toNat (2:Int)) (0:Int)
   bif iy [true,true,true,true,true,true,true,true,nQ (Wh.Ae (C7,(22:Int))),nQ (Wh.Ae (C7,(13:Int))),nQ (Wh.Ae (C7,(2:Int)))] then
    let ls_484:List Int:=[IntKind.wrap .u32 (Uj+(IntKind.wrap .u32 (nj Go.BinOp.xor Go.IntKind.u32 (nj Go.BinOp.xor Go.IntKind.u32 r_473.1 r_474.1) r_476.1+nj Go.BinOp.xor Go.IntKind.u32 (nj Go.BinOp.xor Go.IntKind.u32 (nj Go.BinOp.and Go.IntKind.u32 C7 RE) (nj Go.BinOp.and Go.IntKind.u32 C7 RF)) (nj Go.BinOp.and Go.IntKind.u32 RE RF)))),C7,RE,RF,IntKind.wrap .u32 (List.getD Cg (Int.toNat (3:Int)) (0:Int)+Uj),C6,v_463,v_464]
    some (.inl (((IntKind.wrap .i64 (Ed+(1:Int))),(),(),(),b_447,b_448),ls_484,Te,Tf,Tg))
   else none
  else none
 else
  some (.inr (((),(),b_447,b_448),Tf,Cg,Tg))
def Wh.VH:(((Unit)×(Unit)×(Nat×Nat))×((List (Int))×(List (Int))×(List (Int)))):=default
abbrev Wh.QX:Type:=((Int)×(Unit)×(Nat×Nat)×(Unit))×((List (Int))×(List (Int))×(List (Int)))
abbrev Wh.aaW:Type:=((((Unit)×(Unit)×(Nat×Nat))×((List (Int))×(List (Int))×(List (Int)))))
def Wh.DU (x:Wh.QX):Option (Wh.QX⊕Wh.aaW):=
 let y5:=x.1.1
 let Em:Nat:=(x.1.2.2).1.1
 let En:Nat:=(x.1.2.2).1.2
 let EC:=x.2.1
 let ED:=x.2.2.1
 let OE:=x.2.2.2
 bif decide (y5<(64:Int)) then
  bif decide (y5<(16:Int)) then
   let ls_346:=List.set EC (Int.toNat y5) (nj Go.BinOp.or Go.IntKind.u32 (nj Go.BinOp.or Go.IntKind.u32 (nj Go.BinOp.or Go.IntKind.u32 (IntKind.wrap .u32 (IntKind.wrap .u32 (List.getD ED (Em+Int.toNat (IntKind.wrap .i64 ((4:Int)*y5))) (0:Int))*(2:Int) ^ Min.min (Int.toNat (24:Int)) (Go.IntKind.bits Go.IntKind.u32))) (IntKind.wrap .u32 (IntKind.wrap .u32 (List.getD ED (Em+Int.toNat (IntKind.wrap .i64 (IntKind.wrap .i64 ((4:Int)*y5)+(1:Int)))) (0:Int))*(2:Int) ^ Min.min (Int.toNat (16:Int)) (Go.IntKind.bits Go.IntKind.u32)))) (IntKind.wrap .u32 (IntKind.wrap .u32 (List.getD ED (Em+Int.toNat (IntKind.wrap .i64 (IntKind.wrap .i64 ((4:Int)*y5)+(2:Int)))) (0:Int))*(2:Int) ^ Min.min (Int.toNat (8:Int)) (Go.IntKind.bits Go.IntKind.u32)))) (IntKind.wrap .u32 (List.getD ED (Em+Int.toNat (IntKind.wrap .i64 (IntKind.wrap .i64 ((4:Int)*y5)+(3:Int)))) (0:Int))))
   let Ec:=IntKind.wrap .i64 ((4:Int)*y5)
   bif iy [decide ((0:Int)≤y5),decide (y5<(↑(64:Nat):Int)),decide ((0:Int)≤IntKind.wrap .i64 (Ec+(3:Int))),decide (IntKind.wrap .i64 (Ec+(3:Int))<(↑En:Int)),true,decide ((0:Int)≤IntKind.wrap .i64 (Ec+(2:Int))),decide (IntKind.wrap .i64 (Ec+(2:Int))<(↑En:Int)),true,decide ((0:Int)≤IntKind.wrap .i64 (Ec+(1:Int))),decide (IntKind.wrap .i64 (Ec+(1:Int))<(↑En:Int)),true,decide ((0:Int)≤Ec),decide (Ec<(↑En:Int))] then
    some (.inl (((IntKind.wrap .i64 (y5+(1:Int))),(),(Em,En),()),ls_346,ED,OE))
   else none
  else
   let RC:=IntKind.wrap .i64 (y5-(15:Int))
   let RD:=IntKind.wrap .i64 (y5-(2:Int))
   let Ix:=List.getD EC (Int.toNat RC) (0:Int)
   let IF:=List.getD EC (Int.toNat RD) (0:Int)
   bif iy [decide ((0:Int)≤RD),decide (RD<(↑(64:Nat):Int)),decide ((0:Int)≤RC),decide (RC<(↑(64:Nat):Int))] then
    let r_376:=Wh.AH (Ix,(7:Int))
    let r_377:=Wh.AH (Ix,(18:Int))
    let r_378:=Wh.AH (IF,(17:Int))
    let r_379:=Wh.AH (IF,(19:Int))
    let ls_380:=List.set EC (Int.toNat y5) (IntKind.wrap .u32 (IntKind.wrap .u32 (IntKind.wrap .u32 (List.getD EC (Int.toNat (IntKind.wrap .i64 (y5-(16:Int)))) (0:Int)+List.getD EC (Int.toNat (IntKind.wrap .i64 (y5-(7:Int)))) (0:Int))+nj Go.BinOp.xor Go.IntKind.u32 (nj Go.BinOp.xor Go.IntKind.u32 r_376.1 r_377.1) (Int.fdiv Ix ((2:Int) ^ Min.min (Int.toNat (3:Int)) (Go.IntKind.bits Go.IntKind.u32))))+nj Go.BinOp.xor Go.IntKind.u32 (nj Go.BinOp.xor Go.IntKind.u32 r_378.1 r_379.1) (Int.fdiv IF ((2:Int) ^ Min.min (Int.toNat (10:Int)) (Go.IntKind.bits Go.IntKind.u32)))))
    let v_381:=IntKind.wrap .i64 (y5-(16:Int))
    let v_383:=IntKind.wrap .i64 (y5-(7:Int))
    bif iy [decide ((0:Int)≤y5),decide (y5<(↑(64:Nat):Int)),true,nQ (Wh.Ae (IF,(19:Int))),nQ (Wh.Ae (IF,(17:Int))),true,nQ (Wh.Ae (Ix,(18:Int))),nQ (Wh.Ae (Ix,(7:Int))),decide ((0:Int)≤v_383),decide (v_383<(↑(64:Nat):Int)),decide ((0:Int)≤v_381),decide (v_381<(↑(64:Nat):Int))] then
     some (.inl (((IntKind.wrap .i64 (y5+(1:Int))),(),(Em,En),()),ls_380,ED,OE))
    else none
   else none
 else
  some (.inr (((),(),Em,En),EC,OE,ED))
def Wh.VG:(((Unit)×(Unit)×(Nat×Nat))×((List (Int))×(List (Int))×(List (Int)))):=default
abbrev Wh.QW:Type:=((Nat×Nat)×(Unit))×((List (Int))×(List (Int)))
abbrev Wh.aaV:Type:=((((Unit))×((List (Int)))))
def Wh.DT (x:Wh.QW):Option (Wh.QW⊕Wh.aaV):=
 let b_529:=x.1.1.1
 let b_530:=x.1.1.2
 let ls_531:=x.2.1
 let Tj:=x.2.2
 bif decide ((↑b_530:Int)>(0:Int)) then
  let pb_534:List Int:=[(0:Int),(0:Int),(0:Int),(0:Int),(0:Int),(0:Int),(0:Int),(0:Int),(0:Int),(0:Int),(0:Int),(0:Int),(0:Int),(0:Int),(0:Int),(0:Int),(0:Int),(0:Int),(0:Int),(0:Int),(0:Int),(0:Int),(0:Int),(0:Int),(0:Int),(0:Int),(0:Int),(0:Int),(0:Int),(0:Int),(0:Int),(0:Int),(0:Int),(0:Int),(0:Int),(0:Int),(0:Int),(0:Int),(0:Int),(0:Int),(0:Int),(0:Int),(0:Int),(0:Int),(0:Int),(0:Int),(0:Int),(0:Int),(0:Int),(0:Int),(0:Int),(0:Int),(0:Int),(0:Int),(0:Int),(0:Int),(0:Int),(0:Int),(0:Int),(0:Int),(0:Int),(0:Int),(0:Int),(0:Int)]
  let x_535:Wh.QX:=(((0:Int),(),(b_529,b_530),()),pb_534,ls_531,Tj)
  bif lF Wh.DU x_535 then
   let II:=kG Wh.DU Wh.VG x_535
   let b_537:Nat:=(II.1.2.2).1
   let b_538:=II.1.2.2.2
   let ls_539:=II.2.1
   let Tk:=II.2.2.1
   let ls_541:=II.2.2.2
   let x_542:Wh.QY:=(((0:Int),(),(),(),b_537,b_538),Tk,ls_539,Tk,ls_541)
   bif lF Wh.Fm x_542 then
    let IJ:=kG Wh.Fm Wh.VH x_542
    let b_544:Nat:=(IJ.1.2.2).1
    let b_545:=IJ.1.2.2.2
    let ls_546:=IJ.2.1
    let ls_547:=IJ.2.2.1
    let ls_548:=IJ.2.2.2
    let x_549:Wh.QZ:=(((0:Int),(),(),b_544,b_545),ls_546,ls_547,ls_548)
    bif lF Wh.HS x_549 then
     let Ms:=kG Wh.HS Wh.VI x_549
     let b_551:=Ms.1.2.1
     let N0:=Ms.1.2.2
     let ls_553:=Ms.2.1
     let Tl:=Ms.2.2
     let v_555:Nat:=Int.toNat ((↑N0:Int)-(64:Int))
     let v_556:Nat:=b_551+Int.toNat (64:Int)
     bif iy [true,decide ((64:Int)≤(↑N0:Int)),decide ((↑b_551:Int)+(↑N0:Int)≤(↑(List.length Tl):Int))] then
      some (.inl (((v_556,v_555),()),Tl,ls_553))
     else none
    else none
   else none
  else none
 else
  some (.inr ((),Tj))
def Wh.VF:(((Unit))×((List (Int)))):=default
abbrev Wh.QV:Type:=((Int)×(Int)×(Unit)×(Unit))×((List (Int))×(List (Int)))
abbrev Wh.aaU:Type:=((((Unit)×(Unit))×((List (Int))×(List (Int)))))
def Wh.Fl (x:Wh.QV):Option (Wh.QV⊕Wh.aaU):=
 let KT:=x.1.1
 let Uc:=x.1.2.1
 let z_:=x.2.1
 let x8:=x.2.2
 bif decide (KT≥(0:Int)) then
  let Lx:List Int:=[IntKind.wrap .u8 (Int.fdiv Uc ((2:Int) ^ Min.min (Int.toNat KT) (Go.IntKind.bits Go.IntKind.u64)))]
  let Li:=z_++Lx
  bif iy [decide (List.length z_+(1:Nat)≤dh),decide ((0:Int)≤KT)] then
   some (.inl (((IntKind.wrap .i64 (KT-(8:Int))),Uc,(),()),Li,x8))
  else none
 else
  some (.inr (((),()),z_,x8))
def Wh.VE:(((Unit)×(Unit))×((List (Int))×(List (Int)))):=default
abbrev Wh.QU:Type:=((Unit)×(Unit)×(List UInt8))×((List (Int))×(List (Int)))
abbrev Wh.aaT:Type:=((((Unit)×(Unit)×(List UInt8))×((List (Int))×(List (Int)))))
def Wh.DS (x:Wh.QU):Option (Wh.QU⊕Wh.aaT):=
 let C5:=x.1.2.2
 let Ln:=x.2.1
 let Dj:=x.2.2
 let y4:Bool:=(Int.tmod (↑(List.length Ln):Int) (64:Int)) != (56:Int)
 bif y4 then
  let ls_13:=Ln ++ [(0:Int)]
  bif iy [decide (List.length Ln+(1:Nat)≤dh)] then
   some (.inl (((),(),C5),ls_13,Dj))
  else none
 else
  some (.inr (((),(),C5),Ln,Dj))
def Wh.VD:(((Unit)×(Unit)×(List UInt8))×((List (Int))×(List (Int)))):=default
def Wh.q54 (xs:(List UInt8)):Option (((List UInt8))×(Unit)):=
 let yR:=xs
 let zf:List Int:=bytesOf yR ++ [(128:Int)]
 bif iy [decide (List.length (bytesOf yR)+(1:Nat)≤dh),decide (List.length yR≤dh)] then
  let x_14:Wh.QU:=(((),(),yR),zf,[(1779033703:Int),(3144134277:Int),(1013904242:Int),(2773480762:Int),(1359893119:Int),(2600822924:Int),(528734635:Int),(1541459225:Int)])
  bif lF Wh.DS x_14 then
   let y_15:=kG Wh.DS Wh.VD x_14
   let adf:=y_15.1.2.2
   let yz:=y_15.2.1
   let wh:=y_15.2.2
   let Ee:Wh.QV:=(((56:Int),(IntKind.wrap .u64 ((IntKind.wrap .u64 (↑(List.length adf):Int))*(8:Int))),(),()),yz,wh)
   bif lF Wh.Fl Ee then
    let GG:=kG Wh.Fl Wh.VE Ee
    let Lj:=GG.2.1
    let F9:=GG.2.2
    let x_557:Wh.QW:=((((0:Nat),List.length Lj),()),Lj,F9)
    bif lF Wh.DT x_557 then
     let y_558:=kG Wh.DT Wh.VF x_557
     let ls_559:=y_558.2
     let x_582:Wh.Q0:=(((0:Int),(),ls_559),[])
     bif lF Wh.HT x_582 then
      let y_583:=kG Wh.HT Wh.VJ x_582
      let ls_584:=y_583.2
      some (qp ls_584,())
     else none
    else none
   else none
  else none
 else none
def Wh.q54':=eB Wh.q54
theorem Wh.q54_v:OV Wh.q54 Wh.q54':=fe _
abbrev Wh.P1:Type:=((Int)×(List UInt8)×(Unit))×((List (Int)))
abbrev Wh.aao:Type:=((((Unit))×((List (Int)))))
def Wh.LK (x:Wh.P1):Option (Wh.P1⊕Wh.aao):=
 let Ez:=x.1.1
 let Bn:=x.1.2.1
 let yj:=x.2
 let xQ:=decide (Ez<(↑(List.length Bn):Int))
 bif xQ then
  let EL:List Int:=[(↑(UInt8.toNat (List.getD [(48:UInt8),(49:UInt8),(50:UInt8),(51:UInt8),(52:UInt8),(53:UInt8),(54:UInt8),(55:UInt8),(56:UInt8),(57:UInt8),(97:UInt8),(98:UInt8),(99:UInt8),(100:UInt8),(101:UInt8),(102:UInt8)] (Int.toNat (IntKind.wrap .u8 (Int.tdiv (↑(UInt8.toNat (List.getD Bn (Int.toNat Ez) (0:UInt8))):Int) (16:Int)))) (0:UInt8))):Int),(↑(UInt8.toNat (List.getD [(48:UInt8),(49:UInt8),(50:UInt8),(51:UInt8),(52:UInt8),(53:UInt8),(54:UInt8),(55:UInt8),(56:UInt8),(57:UInt8),(97:UInt8),(98:UInt8),(99:UInt8),(100:UInt8),(101:UInt8),(102:UInt8)] (Int.toNat (Int.tmod (↑(UInt8.toNat (List.getD Bn (Int.toNat Ez) (0:UInt8))):Int) (16:Int))) (0:UInt8))):Int)]
  let wh:=yj++EL
  let nc:Int:=(↑(UInt8.toNat (List.getD Bn (Int.toNat Ez) (0:UInt8))):Int)
  bif iy [decide (List.length yj+(2:Nat)≤dh),decide ((0:Int)≤Int.tmod nc (16:Int)),decide (Int.tmod nc (16:Int)<(↑(16:Nat):Int)),true,decide ((0:Int)≤Ez),xQ,decide ((0:Int)≤IntKind.wrap .u8 (Int.tdiv nc (16:Int))),decide (IntKind.wrap .u8 (Int.tdiv nc (16:Int))<(↑(16:Nat):Int)),true,decide ((0:Int)≤Ez),xQ] then
   some (.inl (((IntKind.wrap .i64 (Ez+(1:Int))),Bn,()),wh))
  else none
 else
  some (.inr ((),yj))
def Wh.UZ:(((Unit))×((List (Int)))):=default
def Wh.Gn (xs:(List UInt8)):Option (((List UInt8))×(Unit)):=
 let en:=xs
 let x_25:Wh.P1:=(((0:Int),en,()),[])
 bif lF Wh.LK x_25 then
  let Ah:=kG Wh.LK Wh.UZ x_25
  let yY:=Ah.2
  some (qp yY,())
 else none
def Wh.P0:=eB Wh.Gn
theorem Wh.U0:OV Wh.Gn Wh.P0:=fe _
def Wh.q75 (xs:(List UInt8)):Option (((List UInt8))×(Unit)):=
 let yR:=xs
 let r_1:xU.D:=Wh.q54' yR
 let r_3:xU.D:=Wh.P0 r_1.1
 bif iy [nQ (Wh.Gn r_1.1),nQ (Wh.q54 yR)] then
  some (r_3.1,())
 else none
def Wh.D0:=eB Wh.q75
theorem Wh.q75_v:OV Wh.q75 Wh.D0:=fe _
def Wh.q80 (xs:(Int)×(List UInt8)):Option (((List UInt8))×(Unit)):=
 let yA:=xs.1
 let xb:=xs.2
 let r_2:xU.D:=Wh.tJ yA
 let gz:xU.D:=Wh.tJ (↑(List.length xb):Int)
 let z6:=r_2.1 ++ [(32:UInt8)]++gz.1 ++ [(32:UInt8)]
 bif iy [decide (List.length (r_2.1 ++ [(32:UInt8)]++gz.1)+(1:Nat)≤dh),decide (List.length (r_2.1 ++ [(32:UInt8)])+List.length gz.1≤dh),nQ (Wh.strconv_Itoa (↑(List.length xb):Int)),decide (List.length r_2.1+(1:Nat)≤dh),nQ (Wh.strconv_Itoa yA)] then
  let y6:List UInt8:=z6++xb
  let yB:xU.D:=Wh.D0 y6
  let so:List UInt8:=z6++List.take (Int.toNat ((16:Int)-(0:Int))) (List.drop (Int.toNat (0:Int)) yB.1) ++ [(32:UInt8)]++xb ++ [(10:UInt8)]
  bif iy [decide (List.length (z6++List.take (Int.toNat ((16:Int)-(0:Int))) (List.drop (Int.toNat (0:Int)) ((Wh.D0 y6).1)) ++ [(32:UInt8)]++xb)+(1:Nat)≤dh),decide (List.length (z6++List.take (Int.toNat ((16:Int)-(0:Int))) (List.drop (Int.toNat (0:Int)) ((Wh.D0 y6).1)) ++ [(32:UInt8)])+List.length xb≤dh),decide (List.length (z6++List.take (Int.toNat ((16:Int)-(0:Int))) (List.drop (Int.toNat (0:Int)) ((Wh.D0 y6).1)))+(1:Nat)≤dh),decide (List.length z6+List.length (List.take (Int.toNat ((16:Int)-(0:Int))) (List.drop (Int.toNat (0:Int)) ((Wh.D0 y6).1)))≤dh),true,true,decide ((16:Int)≤(↑(List.length ((Wh.D0 y6).1)):Int)),nQ (Wh.q75 y6),decide (List.length z6+List.length xb≤dh)] then
   some (so,())
  else none
 else none
def Wh.HW:=eB Wh.q80
theorem Wh.L5:OV Wh.q80 Wh.HW:=fe _
def Wh.q6 (xs:(List UInt8)×(List UInt8)):Option (((Bool))×(Unit)):=
 let en:=xs.1
 let Dm:=xs.2
 let v_2:=decide ((↑(List.length en):Int)≥(↑(List.length Dm):Int))
 let yw:=bif v_2 then List.take (Int.toNat ((↑(List.length Dm):Int)-(0:Int))) (List.drop (Int.toNat (0:Int)) en)==Dm else false
 bif iy [!v_2 || decide ((0:Int)≤(0:Int)),!v_2 || decide ((0:Int)≤(↑(List.length Dm):Int)),!v_2 || decide ((↑(List.length Dm):Int)≤(↑(List.length en):Int))] then
  some (yw,())
 else none
def Wh.q6':=eB Wh.q6
theorem Wh.q6_v:OV Wh.q6 Wh.q6':=fe _
def Wh.q11 (xs:(List UInt8)×(List UInt8)):Option (((Bool))×(Unit)):=
 let en:=xs.1
 let Dm:=xs.2
 let r_2:=Wh.q6' (en,Dm)
 bif iy [nQ (Wh.q6 (en,Dm))] then
  some (r_2.1,())
 else none
def Wh.q11':=eB Wh.q11
theorem Wh.PJ:OV Wh.q11 Wh.q11':=fe _
abbrev Wh.Rb:Type:=((Int)×(Unit)×(List UInt8))×((List (List UInt8)))
abbrev Wh.aa9:Type:=((((Unit)×(Int))×((List (List UInt8)))))
def Wh.BY (x:Wh.Rb):Option (Wh.Rb⊕Wh.aa9):=
 let A_:=x.1.1
 let AX:=x.1.2.2
 let Hw:List (List UInt8):=x.2
 let GB:List UInt8:=List.take (Int.toNat ((↑(List.length AX):Int)-A_)) (List.drop (Int.toNat A_) AX)
 let Mc:(List UInt8×List UInt8×Bool)×Unit:=Wh.tK (GB,[(32:UInt8)])
 bif iy [nQ (Wh.strings_Cut (GB,[(32:UInt8)])),decide ((0:Int)≤A_),decide (A_≤(↑(List.length AX):Int)),decide ((↑(List.length AX):Int)≤(↑(List.length AX):Int))] then
  let r_66:(List UInt8×List UInt8×Bool)×Unit:=Wh.tK (Mc.1.2.1,[(32:UInt8)])
  bif iy [nQ (Wh.strings_Cut (Mc.1.2.1,[(32:UInt8)]))] then
   let Fw:(Int×Bool)×Unit:=Wh.rW r_66.1.1
   bif iy [nQ (Wh.rV r_66.1.1)] then
    let Mq:Int:=(↑(List.length Hw):Int)
    let v_74:Int:=(↑(List.length r_66.1.1):Int)
    let r_79:xU.D:=Wh.tJ Mq
    let SK:=IntKind.wrap .i64 (IntKind.wrap .i64 (IntKind.wrap .i64 ((↑(List.length r_79.1):Int)+(1:Int))+v_74)+(18:Int))
    bif iy [nQ (Wh.strconv_Itoa Mq)] then
     let v_81:= !Fw.1.2
     let r_82:=Wh.yQ (Fw.1.1,(1:Int),(500:Int))
     let v_85:=bif bif v_81 then true else !r_82.1 then true else decide (IntKind.wrap .i64 ((↑(List.length AX):Int)-A_)<IntKind.wrap .i64 (IntKind.wrap .i64 (SK+Fw.1.1)+(1:Int)))
     bif iy [!!v_81 || nQ (Wh.x_ (Fw.1.1,(1:Int),(500:Int)))] then
      bif v_85 then
       some (.inr (((),A_),Hw))
      else
       let FH:=IntKind.wrap .i64 (A_+SK)
       let Rt:List UInt8:=List.take (Int.toNat (IntKind.wrap .i64 (FH+Fw.1.1)-FH)) (List.drop (Int.toNat FH) AX)
       bif iy [decide ((0:Int)≤FH),decide (FH≤IntKind.wrap .i64 (FH+Fw.1.1)),decide (IntKind.wrap .i64 (FH+Fw.1.1)≤(↑(List.length AX):Int))] then
        let r_91:xU.D:=Wh.HW (Mq,Rt)
        bif iy [nQ (Wh.q80 (Mq,Rt))] then
         let r_93:=Wh.q11' (GB,r_91.1)
         bif iy [nQ (Wh.q11 (GB,r_91.1)),decide ((0:Int)≤A_),decide (A_≤(↑(List.length AX):Int)),decide ((↑(List.length AX):Int)≤(↑(List.length AX):Int))] then
          bif !r_93.1 then
           some (.inr (((),A_),Hw))
          else
           let pb_94:List (List UInt8):=[Rt]
           let ls_95:List (List UInt8):=Hw++pb_94
           bif iy [decide (List.length Hw+(1:Nat)≤dh)] then
            let Iq:Int:=(↑(List.length r_91.1):Int)
            some (.inl (((IntKind.wrap .i64 (A_+Iq)),(),AX),ls_95))
           else none
         else none
        else none
       else none
     else none
    else none
   else none
  else none
 else none
def Wh.VT:(((Unit)×(Int))×((List (List UInt8)))):=default
def Wh.CW (xs:(List UInt8)):Option (((List (List UInt8))×(Int))×(Unit)):=
 let we:=xs
 let x_99:Wh.Rb:=(((0:Int),(),we),[])
 bif lF Wh.BY x_99 then
  let y_100:=kG Wh.BY Wh.VT x_99
  let v_101:=y_100.1.2
  let ls_102:List (List UInt8):=y_100.2
  some ((ls_102,v_101),())
 else none
def Wh.L4:=eB Wh.CW
theorem Wh.Rc:OV Wh.CW Wh.L4:=fe _
def Wh.AI (xs:(Int)):Option (((Bool))×(Unit)):=
 let yA:=xs
 let r_1:=Wh.yQ (yA,(0:Int),(1:Int))
 bif iy [nQ (Wh.x_ (yA,(0:Int),(1:Int)))] then
  some (r_1.1,())
 else none
def Wh.HL:=eB Wh.AI
theorem Wh.LL:OV Wh.AI Wh.HL:=fe _
abbrev Wh.Pg:Type:=((Int)×(List UInt8)×(Int))×(Unit)
abbrev Wh.aab:Type:=((((Bool))×(Unit))⊕(((List UInt8))×(Unit)))
def Wh.Cn (x:Wh.Pg):Option (Wh.Pg⊕Wh.aab):=
 let Ag:=x.1.1
 let Ij:=x.1.2.1
 let y4:=x.1.2.2
 bif decide (Ag<y4) then
  let n5:Int:=(↑(UInt8.toNat (List.getD Ij (Int.toNat Ag) (0:UInt8))):Int)
  let xZ:=bif decide (n5<(97:Int)) then true else decide (n5>(122:Int))
  bif iy [!!decide (n5<(97:Int)) || decide ((0:Int)≤Ag),!!decide (n5<(97:Int)) || decide (Ag<(↑(List.length Ij):Int)),decide ((0:Int)≤Ag),decide (Ag<(↑(List.length Ij):Int))] then
   bif xZ then
    some (.inr (.inl (false,())))
   else
    some (.inl (((IntKind.wrap .i64 (Ag+(1:Int))),Ij,y4),()))
  else none
 else
  some (.inr (.inr (Ij,())))
def Wh.Ux:(((Bool))×(Unit))⊕(((List UInt8))×(Unit)):=.inl default
def Wh.Dp (xs:(List UInt8)):Option (((Bool))×(Unit)):=
 let yR:=xs
 let x_19:Wh.Pg:=(((0:Int),yR,(↑(List.length yR):Int)),())
 bif lF Wh.Cn x_19 then
  sumC (kG Wh.Cn Wh.Ux x_19) (fun y_20=>
   let yq:=y_20.1
   some (yq,())) (fun z_21=>
   let Wn:=z_21.1
   let r_24:=Wh.yQ ((↑(List.length Wn):Int),(1:Int),(6:Int))
   bif iy [nQ (Wh.x_ ((↑(List.length Wn):Int),(1:Int),(6:Int)))] then
    some (r_24.1,())
   else none)
 else none
def Wh.LA:=eB Wh.Dp
theorem Wh.Ph:OV Wh.Dp Wh.LA:=fe _
def Wh.q31 (xs:(Int)×(List UInt8)×(List UInt8)):Option (((List UInt8))×(Unit)):=
 let Ew:=xs.1
 let yV:=xs.2.1
 let Av:=xs.2.2
 let r_3:=Wh.HL Ew
 let gz:=Wh.LA yV
 let za:=bif bif !r_3.1 then true else !gz.1 then true else decide ((↑(List.length Av):Int)>(300:Int))
 bif iy [!!!r_3.1 || nQ (Wh.Dp yV),nQ (Wh.AI Ew)] then
  bif za then
   some ([],())
  else
   let yJ:xU.D:=Wh.tJ Ew
   let Ea:=yJ.1 ++ [(32:UInt8)]++yV ++ [(58:UInt8)]++Av
   bif iy [decide (List.length (yJ.1 ++ [(32:UInt8)]++yV ++ [(58:UInt8)])+List.length Av≤dh),decide (List.length (yJ.1 ++ [(32:UInt8)]++yV)+(1:Nat)≤dh),decide (List.length (yJ.1 ++ [(32:UInt8)])+List.length yV≤dh),decide (List.length yJ.1+(1:Nat)≤dh),nQ (Wh.strconv_Itoa Ew)] then
    some (Ea,())
   else none
 else none
def Wh.LU:=eB Wh.q31
theorem Wh.LV:OV Wh.q31 Wh.LU:=fe _
def Wh.BW (xs:(bx.D)):Option ((((Int)×((List (an.D))×(Unit))))×(Unit)):=
 let gv:bx.D:=xs
 let zf:List (an.D):=[]++gv.2.1
 bif iy [decide ((0:Nat)+List.length gv.2.1≤dh)] then
  some ((gv.1,zf,()),())
 else none
def Wh.Gt:=eB Wh.BW
theorem Wh.DR:OV Wh.BW Wh.Gt:=fe _
def Wh.q20 (xs:(an.D)×(Int)×(List UInt8)):Option (((Bool))×(Unit)):=
 let i_0:an.D:=xs.1
 let v_1:=xs.2.1
 let v_2:=xs.2.2
 let xV:=bif(i_0.1==v_1) then i_0.2.1==v_2 else false
 some (xV,())
def Wh.q20':=eB Wh.q20
theorem Wh.Qs:OV Wh.q20 Wh.q20':=fe _
abbrev Wh.QG:Type:=((Int)×(List (an.D))×((Int)×((List UInt8)×(Unit)))×(Int))×(Unit)
abbrev Wh.q3_l0Y:Type:=((((Int))×(Unit))⊕((Unit)×(Unit)))
def Wh.CP (x:Wh.QG):Option (Wh.QG⊕Wh.q3_l0Y):=
 let y4:=x.1.1
 let s_13:List (an.D):=x.1.2.1
 let f_14:Int:=(x.1.2.2).1.1
 let f_15:List UInt8:=(x.1.2.2).1.2.1
 let xQ:=x.1.2.2.2
 bif decide (y4<xQ) then
  let xN:an.D:=List.getD s_13 (Int.toNat y4) ((0:Int),[],(0:Int),[],())
  let H6:=Wh.q20' (xN,f_14,f_15)
  bif iy [nQ (Wh.q20 (xN,f_14,f_15)),decide ((0:Int)≤y4),decide (y4<(↑(List.length s_13):Int))] then
   bif H6.1 then
    some (.inr (.inl (y4,())))
   else
    some (.inl (((IntKind.wrap .i64 (y4+(1:Int))),s_13,(f_14,f_15,()),xQ),()))
  else none
 else
  some (.inr (.inr ((),())))
def Wh.Vv:(((Int))×(Unit))⊕((Unit)×(Unit)):=.inl default
def Wh.q3 (xs:(List (an.D))×((Int)×((List UInt8)×(Unit)))):Option (((Int))×(Unit)):=
 let en:List (an.D):=xs.1
 let f_1:Int×xU.D:=xs.2
 let v_2:Int:=(↑(List.length en):Int)
 let x_21:Wh.QG:=(((0:Int),en,(f_1.1,f_1.2.1,()),v_2),())
 bif lF Wh.CP x_21 then
  sumC (kG Wh.CP Wh.Vv x_21) (fun C8=>
   let n_:=C8.1
   some (n_,())) (fun _=>
   some ((-1:Int),()))
 else none
def Wh.q3':=eB Wh.q3
theorem Wh.q3_v:OV Wh.q3 Wh.q3':=fe _
def Wh.A3 (xs:(bx.D)×(Int)×(List UInt8)):Option (((Int))×(Unit)):=
 let gv:bx.D:=xs.1
 let nI:=xs.2.1
 let tn:=xs.2.2
 let r_3:=Wh.q3' (gv.2.1,nI,tn,())
 bif iy [nQ (Wh.q3 (gv.2.1,nI,tn,()))] then
  some (r_3.1,())
 else none
def Wh.HR:=eB Wh.A3
theorem Wh.Fk:OV Wh.A3 Wh.HR:=fe _
def Wh.Fu (xs:(List (an.D))×(Int)×(Int)):Option (((List (an.D)))×(Unit)):=
 let en:List (an.D):=xs.1
 let i_1:=xs.2.1
 let AD:=xs.2.2
 let r5:Int:=(↑(List.length en):Int)
 bif iy [decide ((0:Int)≤i_1),decide (i_1≤AD),decide (AD≤r5),decide (r5≤r5)] then
  let yw:=i_1==AD
  bif yw then
   some (en,())
  else
   let pb_5:List (an.D):=List.take (Int.toNat (0:Int)+Int.toNat (i_1-(0:Int))) en++(List.take (Int.toNat (r5-AD)) (List.drop (Int.toNat AD) en)++List.drop (Int.toNat (0:Int)+Int.toNat (i_1-(0:Int))+List.length (List.take (Int.toNat (r5-AD)) (List.drop (Int.toNat AD) en))) en)
   let zl:Nat:=Int.toNat (i_1-(0:Int))
   let s_9:Nat:=zl+List.length (List.take (Int.toNat (r5-AD)) (List.drop (Int.toNat AD) en))
   bif iy [decide (Int.toNat (0:Int)+zl+List.length (List.take (Int.toNat (r5-AD)) (List.drop (Int.toNat AD) en))≤List.length en),decide ((0:Int)≤AD),decide (AD≤r5),decide (r5≤r5),true,decide ((0:Int)≤i_1),decide (i_1≤r5)] then
    let O7:List (an.D):=List.take (Int.toNat (0:Int)+Int.toNat (↑s_9:Int)) pb_5++(@List.replicate (Int×List UInt8×Int×List UInt8×Unit) (Int.toNat (r5-(↑s_9:Int))) ((0:Int),[],(0:Int),[],())++List.drop (Int.toNat (0:Int)+Int.toNat (↑s_9:Int)+List.length (@List.replicate (Int×List UInt8×Int×List UInt8×Unit) (Int.toNat (r5-(↑s_9:Int))) ((0:Int),[],(0:Int),[],()))) pb_5)
    bif iy [decide ((0:Int)≤(↑s_9:Int)),decide ((↑s_9:Int)≤r5),decide ((↑(Int.toNat (0:Int)):Int)+r5≤(↑(List.length pb_5):Int))] then
     some (List.take s_9 O7,())
    else none
   else none
 else none
def Wh.q9':=eB Wh.Fu
theorem Wh.q9_v:OV Wh.Fu Wh.q9':=fe _
def Wh.CS (xs:(bx.D)×(Int)×(List UInt8)):Option ((((Int)×((List (an.D))×(Unit)))×(Int))×(Unit)):=
 let gv:bx.D:=xs.1
 let nI:=xs.2.1
 let tn:=xs.2.2
 let r_3:(bx.D)×Unit:=Wh.Gt gv
 bif iy [nQ (Wh.BW gv)] then
  let gz:=Wh.HR (gv,nI,tn)
  bif iy [nQ (Wh.A3 (gv,nI,tn))] then
   bif decide (gz.1<(0:Int)) then
    some ((r_3.1,(3:Int)),())
   else
    let xd:List (an.D)×Unit:=Wh.q9' (r_3.1.2.1,gz.1,IntKind.wrap .i64 (gz.1+(1:Int)))
    let pb_7:List (an.D):=[]++xd.1
    bif iy [decide ((0:Nat)+List.length xd.1≤dh),nQ (Wh.Fu (r_3.1.2.1,gz.1,(IntKind.wrap .i64 (gz.1+(1:Int)))))] then
     some (((r_3.1.1,pb_7,r_3.1.2.2),(0:Int)),())
    else none
  else none
 else none
def Wh.L2:=eB Wh.CS
theorem Wh.QL:OV Wh.CS Wh.L2:=fe _
def Wh.q16 (xs:(Int)×(List UInt8)×(List UInt8)):Option (((Bool))×(Unit)):=
 let Ew:=xs.1
 let yV:=xs.2.1
 let Av:=xs.2.2
 let r_3:=Wh.HL Ew
 let gz:=Wh.LA yV
 let yI:=Wh.yQ ((↑(List.length Av):Int),(1:Int),(300:Int))
 let yK:=bif bif r_3.1 then gz.1 else false then yI.1 else false
 bif iy [(!bif r_3.1 then gz.1 else false) || nQ (Wh.x_ ((↑(List.length Av):Int),(1:Int),(300:Int))),!r_3.1 || nQ (Wh.Dp yV),nQ (Wh.AI Ew)] then
  some (yK,())
 else none
def Wh.q16':=eB Wh.q16
theorem Wh.LR:OV Wh.q16 Wh.q16':=fe _
abbrev Wh.QA:Type:=((Int)×(Int)×(Int)×(List (an.D))×(Int))×(Unit)
abbrev Wh.aaH:Type:=((((Int))×(Unit)))
def Wh.CM (x:Wh.QA):Option (Wh.QA⊕Wh.aaH):=
 let xQ:=x.1.1
 let EH:=x.1.2.1
 let Ev:Int:=(x.1.2.2).1
 let nc:List (an.D):=x.1.2.2.2.1
 let nG:=x.1.2.2.2.2
 bif decide (xQ<nG) then
  let A0:an.D:=List.getD nc (Int.toNat xQ) ((0:Int),[],(0:Int),[],())
  bif iy [decide ((0:Int)≤xQ),decide (xQ<(↑(List.length nc):Int))] then
   bif(A0.1==Ev) then
    let n_:Int:=(↑(List.length ((A0.2.2.2).1)):Int)
    some (.inl (((IntKind.wrap .i64 (xQ+(1:Int))),(IntKind.wrap .i64 (EH+n_)),Ev,nc,nG),()))
   else
    some (.inl (((IntKind.wrap .i64 (xQ+(1:Int))),EH,Ev,nc,nG),()))
  else none
 else
  some (.inr (EH,()))
def Wh.Vq:(((Int))×(Unit)):=default
def Wh.q33 (xs:(bx.D)×(Int)):Option (((Int))×(Unit)):=
 let gv:bx.D:=xs.1
 let nI:=xs.2
 let v_2:Int:=(↑(List.length gv.2.1):Int)
 let Iu:Wh.QA:=(((0:Int),(0:Int),nI,gv.2.1,v_2),())
 bif lF Wh.CM Iu then
  let GF:=kG Wh.CM Wh.Vq Iu
  let n_31:=GF.1
  some (n_31,())
 else none
def Wh.q33':=eB Wh.q33
theorem Wh.q33_v:OV Wh.q33 Wh.q33':=fe _
def Wh.q46 (xs:(Int)):Option (((Bool))×(Unit)):=
 let yx:=xs
 let v_1:=yx != yx
 some (v_1,())
def Wh.L1:=eB Wh.q46
theorem Wh.q46_v:OV Wh.q46 Wh.L1:=fe _
def Wh.q19 (xs:(Int)×(Int)):Option (((Int))×(Unit)):=
 let yx:=xs.1
 let B8:=xs.2
 let r_2:=Wh.L1 yx
 bif iy [nQ (Wh.q46 yx)] then
  let r_3:=Wh.L1 B8
  bif iy [nQ (Wh.q46 B8)] then
   bif r_2.1 then
    bif r_3.1 then
     some ((0:Int),())
    else
     some ((-1:Int),())
   else
    bif r_3.1 then
     some ((1:Int),())
    else
     bif decide (yx<B8) then
      some ((-1:Int),())
     else
      bif decide (yx>B8) then
       some ((1:Int),())
      else
       some ((0:Int),())
  else none
 else none
def Wh.q19':=eB Wh.q19
theorem Wh.q19_v:OV Wh.q19 Wh.q19':=fe _
def Wh.q12 (xs:(List UInt8)):Option (((Bool))×(Unit)):=
 let yx:=xs
 some ((!yx==yx),())
def Wh.LC:=eB Wh.q12
theorem Wh.q12_v:OV Wh.q12 Wh.LC:=fe _
def Wh.q7 (xs:(List UInt8)×(List UInt8)):Option (((Int))×(Unit)):=
 let yx:=xs.1
 let B8:=xs.2
 let r_2:=Wh.LC yx
 bif iy [nQ (Wh.q12 yx)] then
  let r_3:=Wh.LC B8
  bif iy [nQ (Wh.q12 B8)] then
   bif r_2.1 then
    bif r_3.1 then
     some ((0:Int),())
    else
     some ((-1:Int),())
   else
    bif r_3.1 then
     some ((1:Int),())
    else
     bif Go.Op.bytesLess yx B8 then
      some ((-1:Int),())
     else
      bif(!(Go.Op.bytesLess yx B8 || yx==B8)) then
       some ((1:Int),())
      else
       some ((0:Int),())
  else none
 else none
def Wh.q7':=eB Wh.q7
theorem Wh.q7_v:OV Wh.q7 Wh.q7':=fe _
abbrev Wh.PX:Type:=((Int)×(Int)×(List (Int))×(Int))×(Unit)
abbrev Wh.aam:Type:=((((Int))×(Unit))⊕(((Int))×(Unit)))
def Wh.Dv (x:Wh.PX):Option (Wh.PX⊕Wh.aam):=
 let yK:=x.1.1
 let RG:=x.1.2.1
 let zG:List Int:=(x.1.2.2).1
 let y4:=x.1.2.2.2
 bif decide (yK<y4) then
  let n5:=List.getD zG (Int.toNat yK) (0:Int)
  bif iy [decide ((0:Int)≤yK),decide (yK<(↑(List.length zG):Int))] then
   let yp:=n5 != RG
   bif yp then
    some (.inr (.inl (n5,())))
   else
    some (.inl (((IntKind.wrap .i64 (yK+(1:Int))),RG,zG,y4),()))
  else none
 else
  some (.inr (.inr (RG,())))
def Wh.UU:(((Int))×(Unit))⊕(((Int))×(Unit)):=.inl default
def Wh.E6 (xs:(List (Int))):Option (((Int))×(Unit)):=
 let Wq:=xs
 let x_17:Wh.PX:=(((0:Int),(0:Int),Wq,(↑(List.length Wq):Int)),())
 bif lF Wh.Dv x_17 then
  sumC (kG Wh.Dv Wh.UU x_17) (fun FJ=>
   let nG:=FJ.1
   some (nG,())) (fun IK=>
   let adz:=IK.1
   some (adz,()))
 else none
def Wh.PW:=eB Wh.E6
theorem Wh.UW:OV Wh.E6 Wh.PW:=fe _
def Wh.q37 (xs:(an.D)×(an.D)):Option (((Int))×(Unit)):=
 let cr:an.D:=xs.1
 let b_1:an.D:=xs.2
 let r_2:=Wh.q19' (cr.1,b_1.1)
 let r_3:=Wh.q7' (cr.2.1,b_1.2.1)
 let xd:=Wh.PW [r_2.1,r_3.1]
 bif iy [nQ (Wh.E6 [r_2.1,r_3.1]),nQ (Wh.q7 (cr.2.1,b_1.2.1)),nQ (Wh.q19 (cr.1,b_1.1))] then
  some (xd.1,())
 else none
def Wh.q37':=eB Wh.q37
theorem Wh.LX:OV Wh.q37 Wh.q37':=fe _
abbrev Wh.Pa:Type:=((Int)×(Unit)×(Unit)×(Int)×(Int)×(Int))×((List (an.D)))
abbrev Wh.q0_l1Y:Type:=((((Unit)×(Unit)×(Int)×(Int)×(Int))×((List (an.D)))))
def Wh.BI (x:Wh.Pa):Option (Wh.Pa⊕Wh.q0_l1Y):=
 let zp:=x.1.1
 let a_24:=x.1.2.2.2.1
 let b_25:Int:=(x.1.2.2.2.2).1
 let i_26:Int:=(x.1.2.2.2.2).2
 let x6:List (an.D):=x.2
 let nC:=decide (zp>a_24)
 let r_29:=Wh.q37' (List.getD x6 (Int.toNat zp) ((0:Int),[],(0:Int),[],()),List.getD x6 (Int.toNat (IntKind.wrap .i64 (zp-(1:Int)))) ((0:Int),[],(0:Int),[],()))
 let zk:=bif nC then decide (r_29.1<(0:Int)) else false
 bif iy [!nC || nQ (Wh.q37 (List.getD x6 (Int.toNat zp) ((0:Int),[],(0:Int),[],()),List.getD x6 (Int.toNat (IntKind.wrap .i64 (zp-(1:Int)))) ((0:Int),[],(0:Int),[],()))),!nC || decide ((0:Int)≤IntKind.wrap .i64 (zp-(1:Int))),!nC || decide (IntKind.wrap .i64 (zp-(1:Int))<(↑(List.length x6):Int)),!nC || decide ((0:Int)≤zp),!nC || decide (zp<(↑(List.length x6):Int))] then
  bif zk then
   let s_:List (an.D):=List.set x6 (Int.toNat zp) (List.getD x6 (Int.toNat (IntKind.wrap .i64 (zp-(1:Int)))) ((0:Int),[],(0:Int),[],()))
   let pb_32:List (an.D):=List.set s_ (Int.toNat (IntKind.wrap .i64 (zp-(1:Int)))) (List.getD x6 (Int.toNat zp) ((0:Int),[],(0:Int),[],()))
   let AU:=IntKind.wrap .i64 (zp-(1:Int))
   bif iy [decide ((0:Int)≤AU),decide (AU<(↑(List.length s_):Int)),decide ((0:Int)≤zp),decide (zp<(↑(List.length x6):Int)),decide ((0:Int)≤zp),decide (zp<(↑(List.length x6):Int)),decide ((0:Int)≤AU),decide (AU<(↑(List.length x6):Int))] then
    some (.inl ((AU,(),(),a_24,b_25,i_26),pb_32))
   else none
  else
   some (.inr (((),(),a_24,b_25,i_26),x6))
 else none
def Wh.Ur:(((Unit)×(Unit)×(Int)×(Int)×(Int))×((List (an.D)))):=default
abbrev Wh.O_:Type:=((Unit)×(Int)×(Unit)×(Int)×(Int))×((List (an.D)))
abbrev Wh.q0_l0Y:Type:=(((Unit)×((List (an.D)))))
def Wh.Bg (x:Wh.O_):Option (Wh.O_⊕Wh.q0_l0Y):=
 let i_43:=x.1.2.1
 let a_44:=x.1.2.2.2.1
 let b_45:=x.1.2.2.2.2
 let BF:List (an.D):=x.2
 bif decide (i_43<b_45) then
  let Iz:Wh.Pa:=((i_43,(),(),a_44,b_45,i_43),BF)
  bif lF Wh.BI Iz then
   let GH:=kG Wh.BI Wh.Ur Iz
   let a_50:Int:=(GH.1.2.2).1
   let b_51:=GH.1.2.2.2.1
   let i_52:=GH.1.2.2.2.2
   let pb_53:List (an.D):=GH.2
   some (.inl (((),(IntKind.wrap .i64 (i_52+(1:Int))),(),a_50,b_51),pb_53))
  else none
 else
  some (.inr ((),BF))
def Wh.Uq:((Unit)×((List (an.D)))):=default
def Wh.q0 (xs:(List (an.D))×(Int)×(Int)×(Unit)):Option ((Unit)×((List (an.D))×Unit)):=
 let N6:List (an.D):=xs.1
 let a_1:=xs.2.1
 let b_2:=xs.2.2.1
 let IA:Wh.O_:=(((),(IntKind.wrap .i64 (a_1+(1:Int))),(),a_1,b_2),N6)
 bif lF Wh.Bg IA then
  let y_56:=kG Wh.Bg Wh.Uq IA
  let pb_57:List (an.D):=y_56.2
  some ((),pb_57,())
 else none
def Wh.q0':=eB Wh.q0
theorem Wh.q0_v:OV Wh.q0 Wh.q0':=fe _
abbrev Wh.Qr:Type:=((Unit)×(Int)×(Int)×(Unit)×(Bool)×(Bool)×(Int))×((List (an.D)))
abbrev Wh.q1_l0Y:Type:=(((Unit)×((List (an.D)))))
def Wh.Gr (x:Wh.Qr):Option (Wh.Qr⊕Wh.q1_l0Y):=
 let b_15:=x.1.2.1
 let a_16:Int:=(x.1.2.2).1
 let adv:Bool:=(x.1.2.2.2.2).2.1
 let Yj:Int:=(x.1.2.2.2.2).2.2
 let BE:List (an.D):=x.2
 bif decide ((IntKind.wrap .i64 (b_15-a_16))≤(12:Int)) then
  let zQ:Unit×List (an.D)×Unit:=Wh.q0' (BE,a_16,b_15,())
  bif iy [nQ (Wh.q0 (BE,a_16,b_15,()))] then
   some (.inr ((),zQ.2.1))
  else none
 else
  let n_:=Yj==(0:Int)
  bif n_ then
   none
  else
   bif !adv then
    none
   else
    none
def Wh.Vk:((Unit)×((List (an.D)))):=default
def Wh.q1 (xs:(List (an.D))×(Int)×(Int)×(Int)×(Unit)):Option ((Unit)×((List (an.D))×Unit)):=
 let N6:List (an.D):=xs.1
 let a_1:=xs.2.1
 let b_2:=xs.2.2.1
 let Yk:Int:=(xs.2.2.2).1
 let x_25:Wh.Qr:=(((),b_2,a_1,(),true,true,Yk),N6)
 bif lF Wh.Gr x_25 then
  let Ah:=kG Wh.Gr Wh.Vk x_25
  let x6:List (an.D):=Ah.2
  some ((),x6,())
 else none
def Wh.q1':=eB Wh.q1
theorem Wh.q1_v:OV Wh.q1 Wh.q1':=fe _
def Wh.q4 (xs:(List (an.D))×(Unit)):Option ((Unit)×((List (an.D))×Unit)):=
 let yx:List (an.D):=xs.1
 let v_2:Int:=(↑(List.length yx):Int)
 let r_3:=Wh.qX (IntKind.wrap .u64 v_2)
 let gz:Unit×List (an.D)×Unit:=Wh.q1' (yx,(0:Int),v_2,r_3.1,())
 bif iy [nQ (Wh.q1 (yx,(0:Int),v_2,r_3.1,())),nQ (Wh.bits_Len (IntKind.wrap .u64 v_2))] then
  some ((),gz.2.1,())
 else none
def Wh.q4':=eB Wh.q4
theorem Wh.q4_v:OV Wh.q4 Wh.q4':=fe _
def Wh.CV (xs:(bx.D)×(Int)×(List UInt8)×(List UInt8)):Option ((((Int)×((List (an.D))×(Unit)))×(Int))×(Unit)):=
 let gv:bx.D:=xs.1
 let nI:=xs.2.1
 let tn:=xs.2.2.1
 let B4:=xs.2.2.2
 let gz:(bx.D)×Unit:=Wh.Gt gv
 bif iy [nQ (Wh.BW gv)] then
  let xS:=Wh.q16' (nI,tn,B4)
  bif iy [nQ (Wh.q16 (nI,tn,B4))] then
   bif !xS.1 then
    some ((gz.1,(1:Int)),())
   else
    let xd:=Wh.HR (gv,nI,tn)
    bif iy [nQ (Wh.A3 (gv,nI,tn))] then
     bif decide (xd.1≥(0:Int)) then
      some ((gz.1,(2:Int)),())
     else
      let yK:Int:=(↑(List.length gv.2.1):Int)
      let L9:=Wh.q33' (gv,nI)
      let xQ:=bif bif yK==(8:Int) then true else gv.1==(99999:Int) then true else decide (IntKind.wrap .i64 (L9.1+(↑(List.length B4):Int))>(500:Int))
      bif iy [(!!bif yK==(8:Int) then true else gv.1==(99999:Int)) || nQ (Wh.q33 (gv,nI))] then
       bif xQ then
        some ((gz.1,(4:Int)),())
       else
        let EL:=IntKind.wrap .i64 (gz.1.1+(1:Int))
        let Gg:List (an.D):=[(nI,tn,EL,B4,())]
        let pb_19:List (an.D):=gz.1.2.1++Gg
        bif iy [decide (List.length (gz.1.2.1)+(1:Nat)≤dh)] then
         let yB:Unit×List (an.D)×Unit:=Wh.q4' (pb_19,())
         bif iy [nQ (Wh.q4 (pb_19,()))] then
          let H7:(bx.D)×Unit:=Wh.Gt (EL,yB.2.1,gz.1.2.2)
          bif iy [nQ (Wh.BW (EL,yB.2.1,gz.1.2.2))] then
           some ((H7.1,(0:Int)),())
          else none
         else none
        else none
      else none
    else none
  else none
 else none
def Wh.q74':=eB Wh.CV
theorem Wh.q74_v:OV Wh.CV Wh.q74':=fe _
def Wh.q32 (xs:(bx.D)×(List UInt8)):Option ((((Int)×((List (an.D))×(Unit)))×(Bool))×(Unit)):=
 let gv:bx.D:=xs.1
 let xb:=xs.2
 let r_2:(List UInt8×List UInt8×Bool)×Unit:=Wh.tK (xb,[(58:UInt8)])
 bif iy [nQ (Wh.strings_Cut (xb,[(58:UInt8)]))] then
  let r_3:(List UInt8×List UInt8×Bool)×Unit:=Wh.tK (r_2.1.1,[(32:UInt8)])
  bif iy [nQ (Wh.strings_Cut (r_2.1.1,[(32:UInt8)]))] then
   let gz:(Int×Bool)×Unit:=Wh.rW r_3.1.1
   bif iy [nQ (Wh.rV r_3.1.1)] then
    let xV:=xb == []
    let xd:xU.D:=Wh.LU (gz.1.1,r_3.1.2.1,r_2.1.2.1)
    let za:=bif xV then true else !xd.1==xb
    bif iy [!!xV || nQ (Wh.q31 (gz.1.1,r_3.1.2.1,r_2.1.2.1))] then
     bif za then
      some ((((0:Int),[],()),false),())
     else
      let yJ:((bx.D)×Int)×Unit:=Wh.L2 (gv,gz.1.1,r_3.1.2.1)
      bif iy [nQ (Wh.CS (gv,gz.1.1,r_3.1.2.1))] then
       bif(!r_2.1.2.1 == []) then
        let A5:((bx.D)×Int)×Unit:=Wh.q74' (gv,gz.1.1,r_3.1.2.1,r_2.1.2.1)
        bif iy [nQ (Wh.CV (gv,gz.1.1,r_3.1.2.1,r_2.1.2.1))] then
         some ((A5.1.1,(A5.1.2==(0:Int))),())
        else none
       else
        some ((yJ.1.1,(yJ.1.2==(0:Int))),())
      else none
    else none
   else none
  else none
 else none
def Wh.q32':=eB Wh.q32
theorem Wh.Qz:OV Wh.q32 Wh.q32':=fe _
abbrev Wh.PZ:Type:=((Unit)×(Int)×(Unit)×(List (List UInt8))×(Int))×(((Int)×((Unit)×(Unit)))×((Int)×((Unit)×(Unit)))×(List (an.D))×(List (an.D)))
abbrev Wh.aan:Type:=((((Unit)×(Bool))×(((Int)×((Unit)×(Unit)))×(List (an.D))))⊕(((Unit)×(Unit))×(((Int)×((Unit)×(Unit)))×((Int)×((Unit)×(Unit)))×(List (an.D))×(List (an.D)))))
def Wh.Cw (x:Wh.PZ):Option (Wh.PZ⊕Wh.aan):=
 let xQ:=x.1.2.1
 let xZ:List (List UInt8):=x.1.2.2.2.1
 let xN:=x.1.2.2.2.2
 let x7:=x.2.1.1
 let zC:=x.2.1.2.2
 let yO:=x.2.2.1.1
 let yc:Unit:=(x.2.2.1).2.2
 let yd:List (an.D):=(x.2.2.2).1
 let yU:List (an.D):=x.2.2.2.2
 bif decide (xQ<xN) then
  let nW:=List.getD xZ (Int.toNat xQ) []
  bif iy [decide ((0:Int)≤xQ),decide (xQ<(↑(List.length xZ):Int))] then
   let BZ:((bx.D)×Bool)×Unit:=Wh.q32' ((yO,yU,yc),nW)
   bif iy [nQ (Wh.q32 ((yO,yU,yc),nW))] then
    bif(!BZ.1.2) then
     some (.inr (.inl (((),false),((0:Int),(),()),[])))
    else
     some (.inl (((),(IntKind.wrap .i64 (xQ+(1:Int))),(),xZ,xN),(x7,(),zC),(BZ.1.1.1,(),BZ.1.1.2.2),yd,(BZ.1.1.2).1))
   else none
  else none
 else
  some (.inr (.inr (((),()),(x7,(),zC),(yO,(),yc),yd,yU)))
def Wh.UX:(((Unit)×(Bool))×(((Int)×((Unit)×(Unit)))×(List (an.D))))⊕(((Unit)×(Unit))×(((Int)×((Unit)×(Unit)))×((Int)×((Unit)×(Unit)))×(List (an.D))×(List (an.D)))):=.inl default
def Wh.E7 (xs:(List (List UInt8))):Option ((((Int)×((List (an.D))×(Unit)))×(Bool))×(Unit)):=
 let Mf:List (List UInt8):=xs
 let v_1:Int:=(↑(List.length Mf):Int)
 let Iv:Wh.PZ:=(((),(0:Int),(),Mf,v_1),((0:Int),(),()),((0:Int),(),()),[],[])
 bif lF Wh.Cw Iv then
  sumC (kG Wh.Cw Wh.UX Iv) (fun FM=>
   let AU:=FM.1.2
   let x8:=FM.2.1.1
   let As:=FM.2.1.2.2
   let OF:List (an.D):=FM.2.2
   some (((x8,OF,As),AU),())) (fun z_32=>
   let BA:=z_32.2.2.1.1
   let OG:Unit:=(z_32.2.2.1).2.2
   let Lj:List (an.D):=z_32.2.2.2.2
   some (((BA,Lj,OG),true),()))
 else none
def Wh.PY:=eB Wh.E7
theorem Wh.UY:OV Wh.E7 Wh.PY:=fe _
abbrev Wh.Pr:Type:=((Int)×(List (an.D))×(List (an.D))×(Int))×(Unit)
abbrev Wh.aae:Type:=((((Bool))×(Unit))⊕((Unit)×(Unit)))
def Wh.Co (x:Wh.Pr):Option (Wh.Pr⊕Wh.aae):=
 let n5:=x.1.1
 let Rv:List (an.D):=x.1.2.1
 let Ru:List (an.D):=(x.1.2.2).1
 let xZ:=x.1.2.2.2
 bif decide (n5<xZ) then
  let nc:an.D:=List.getD Ru (Int.toNat n5) ((0:Int),[],(0:Int),[],())
  let nG:an.D:=List.getD Rv (Int.toNat n5) ((0:Int),[],(0:Int),[],())
  bif iy [decide ((0:Int)≤n5),decide (n5<(↑(List.length Rv):Int)),decide ((0:Int)≤n5),decide (n5<(↑(List.length Ru):Int))] then
   bif(!(nc.1==nG.1&&(nc.2.1==nG.2.1&&(nc.2.2.1==nG.2.2.1&&((nc.2.2.2).1==(nG.2.2.2).1&&true))))) then
    some (.inr (.inl (false,())))
   else
    some (.inl (((IntKind.wrap .i64 (n5+(1:Int))),Rv,Ru,xZ),()))
  else none
 else
  some (.inr (.inr ((),())))
def Wh.UD:(((Bool))×(Unit))⊕((Unit)×(Unit)):=.inl default
def Wh.q10 (xs:(List (an.D))×(List (an.D))):Option (((Bool))×(Unit)):=
 let s1_0:List (an.D):=xs.1
 let s2_1:List (an.D):=xs.2
 let v_2:Int:=(↑(List.length s1_0):Int)
 let r5:Int:=(↑(List.length s2_1):Int)
 let yw:=v_2 != r5
 bif yw then
  some (false,())
 else
  let x_23:Wh.Pr:=(((0:Int),s2_1,s1_0,v_2),())
  bif lF Wh.Co x_23 then
   sumC (kG Wh.Co Wh.UD x_23) (fun y_24=>
    let nW:=y_24.1
    some (nW,())) (fun _=>
    some (true,()))
  else none
def Wh.q10':=eB Wh.q10
theorem Wh.q10_v:OV Wh.q10 Wh.q10':=fe _
def Wh.q81 (xs:(bx.D)×(bx.D)):Option (((Bool))×(Unit)):=
 let cr:bx.D:=xs.1
 let b_1:bx.D:=xs.2
 let v_2:=cr.1==b_1.1
 let r_3:=Wh.q10' (cr.2.1,b_1.2.1)
 let xV:=bif v_2 then r_3.1 else false
 bif iy [!v_2 || nQ (Wh.q10 (cr.2.1,b_1.2.1))] then
  some (xV,())
 else none
def Wh.q81':=eB Wh.q81
theorem Wh.q81_v:OV Wh.q81 Wh.q81':=fe _
abbrev Wh.QC:Type:=((Int)×(Int)×(Int)×(List (ct.D))×(Int))×(Unit)
abbrev Wh.aaJ:Type:=((((Int))×(Unit))⊕((Unit)×(Unit)))
def Wh.CN (x:Wh.QC):Option (Wh.QC⊕Wh.aaJ):=
 let n5:=x.1.1
 let R_:=x.1.2.1
 let Hi:Int:=(x.1.2.2).1
 let xZ:List (ct.D):=x.1.2.2.2.1
 let xN:=x.1.2.2.2.2
 bif decide (n5<xN) then
  let BE:ct.D:=List.getD xZ (Int.toNat n5) ((0:Int),(0:Int),(0:Int),(0:Int),false,())
  bif iy [decide ((0:Int)≤n5),decide (n5<(↑(List.length xZ):Int))] then
   let yq:=bif(BE.2.1==Hi) then BE.2.2.1==R_ else false
   bif yq then
    some (.inr (.inl (n5,())))
   else
    some (.inl (((IntKind.wrap .i64 (n5+(1:Int))),R_,Hi,xZ,xN),()))
  else none
 else
  some (.inr (.inr ((),())))
def Wh.Vs:(((Int))×(Unit))⊕((Unit)×(Unit)):=.inl default
def Wh.q35 (xs:(fN.D)×(Int)×(Int)):Option (((Int))×(Unit)):=
 let r_:fN.D:=xs.1
 let Bt:=xs.2.1
 let WE:=xs.2.2
 let r5:Int:=(↑(List.length r_.1):Int)
 let x_24:Wh.QC:=(((0:Int),WE,Bt,r_.1,r5),())
 bif lF Wh.CN x_24 then
  sumC (kG Wh.CN Wh.Vs x_24) (fun y_25=>
   let Bq:=y_25.1
   some (Bq,())) (fun _=>
   some ((-1:Int),()))
 else none
def Wh.q35':=eB Wh.q35
theorem Wh.q35_v:OV Wh.q35 Wh.q35':=fe _
abbrev Wh.Re:Type:=((Int)×(Int)×(Int)×(List (ct.D))×(Int))×(Unit)
abbrev Wh.aba:Type:=((((Int))×(Unit)))
def Wh.CX (x:Wh.Re):Option (Wh.Re⊕Wh.aba):=
 let yp:=x.1.1
 let EG:=x.1.2.1
 let Eu:Int:=(x.1.2.2).1
 let xN:List (ct.D):=x.1.2.2.2.1
 let nc:=x.1.2.2.2.2
 bif decide (yp<nc) then
  let EM:ct.D:=List.getD xN (Int.toNat yp) ((0:Int),(0:Int),(0:Int),(0:Int),false,())
  bif iy [decide ((0:Int)≤yp),decide (yp<(↑(List.length xN):Int))] then
   let zR:=bif decide (EM.2.1>(0:Int)) then EM.1==Eu else false
   bif zR then
    some (.inl (((IntKind.wrap .i64 (yp+(1:Int))),(IntKind.wrap .i64 (EG+(1:Int))),Eu,xN,nc),()))
   else
    some (.inl (((IntKind.wrap .i64 (yp+(1:Int))),EG,Eu,xN,nc),()))
  else none
 else
  some (.inr (EG,()))
def Wh.VV:(((Int))×(Unit)):=default
def Wh.q78 (xs:(fN.D)×(Int)):Option (((Int))×(Unit)):=
 let r_:fN.D:=xs.1
 let nI:=xs.2
 let v_2:Int:=(↑(List.length r_.1):Int)
 let Is:Wh.Re:=(((0:Int),(0:Int),nI,r_.1,v_2),())
 bif lF Wh.CX Is then
  let FL:=kG Wh.CX Wh.VV Is
  let n_29:=FL.1
  some (n_29,())
 else none
def Wh.q78':=eB Wh.q78
theorem Wh.Gv:OV Wh.q78 Wh.q78':=fe _
abbrev Wh.Pm:Type:=((Int)×(Unit))×((fN.D))
abbrev Wh.aad:Type:=((((Bool))×(Unit))⊕((Unit)×(Unit)))
def Wh.BL (x:Wh.Pm):Option (Wh.Pm⊕Wh.aad):=
 let GC:=x.1.1
 let ON:fN.D:=x.2
 bif decide (GC<(2:Int)) then
  let Mc:=Wh.q78' (ON,GC)
  bif iy [nQ (Wh.q78 (ON,GC))] then
   bif decide (Mc.1>(5:Int)) then
    some (.inr (.inl (false,())))
   else
    some (.inl (((IntKind.wrap .i64 (GC+(1:Int))),()),ON))
  else none
 else
  some (.inr (.inr ((),())))
def Wh.Uz:(((Bool))×(Unit))⊕((Unit)×(Unit)):=.inl default
abbrev Wh.Pk:Type:=((Int)×(Unit)×(List (ct.D))×(Int))×((fN.D))
abbrev Wh.aac:Type:=((((Bool))×(Unit))⊕(((Unit))×((fN.D))))
def Wh.BK (x:Wh.Pk):Option (Wh.Pk⊕Wh.aac):=
 let nC:=x.1.1
 let zj:List (ct.D):=(x.1.2.2).1
 let zk:=x.1.2.2.2
 let yZ:fN.D:=x.2
 bif decide (nC<zk) then
  let xT:ct.D:=List.getD zj (Int.toNat nC) ((0:Int),(0:Int),(0:Int),(0:Int),false,())
  bif iy [decide ((0:Int)≤nC),decide (nC<(↑(List.length zj):Int))] then
   bif(xT.2.1==(0:Int)) then
    bif(!(xT.1==(0:Int)&&(xT.2.1==(0:Int)&&(xT.2.2.1==(0:Int)&&((xT.2.2.2).1==(0:Int)&&(xT.2.2.2.2.1==false&&true)))))) then
     some (.inr (.inl (false,())))
    else
     some (.inl (((IntKind.wrap .i64 (nC+(1:Int))),(),zj,zk),yZ))
   else
    let H9:=Wh.HL xT.1
    let C0:=Wh.yQ (xT.2.1,(1:Int),(99999:Int))
    let C3:=Wh.yQ (xT.2.2.1,(0:Int),(23:Int))
    let Ia:=Wh.yQ ((xT.2.2.2).1,(0:Int),(99999:Int))
    let Ib:=Wh.q35' (yZ,xT.2.1,xT.2.2.1)
    let v_48:=bif bif bif bif !H9.1 then true else !C0.1 then true else !C3.1 then true else !Ia.1 then true else Ib.1 != nC
    bif iy [(!!bif bif bif !H9.1 then true else !C0.1 then true else !C3.1 then true else !Ia.1) || nQ (Wh.q35 (yZ,xT.2.1,xT.2.2.1)),(!!bif bif !H9.1 then true else !C0.1 then true else !C3.1) || nQ (Wh.x_ ((xT.2.2.2).1,(0:Int),(99999:Int))),(!!bif !H9.1 then true else !C0.1) || nQ (Wh.x_ (xT.2.2.1,(0:Int),(23:Int))),!!!H9.1 || nQ (Wh.x_ (xT.2.1,(1:Int),(99999:Int))),nQ (Wh.AI xT.1)] then
     bif v_48 then
      some (.inr (.inl (false,())))
     else
      some (.inl (((IntKind.wrap .i64 (nC+(1:Int))),(),zj,zk),yZ))
    else none
  else none
 else
  some (.inr (.inr ((),yZ)))
def Wh.Uy:(((Bool))×(Unit))⊕(((Unit))×((fN.D))):=.inl default
def Wh.Dq (xs:(fN.D)):Option (((Bool))×(Unit)):=
 let r_:fN.D:=xs
 let v_1:Int:=(↑(List.length r_.1):Int)
 let gz:=Wh.yQ (r_.2.1,(0:Int),(7:Int))
 let xV:=bif v_1 != (8:Int) then true else !gz.1
 bif iy [!!v_1 != (8:Int) || nQ (Wh.x_ (r_.2.1,(0:Int),(7:Int)))] then
  bif xV then
   some (false,())
  else
   let x_50:Wh.Pk:=(((0:Int),(),r_.1,v_1),r_)
   bif lF Wh.BK x_50 then
    sumC (kG Wh.BK Wh.Uy x_50) (fun y_51=>
     let GB:=y_51.1
     some (GB,())) (fun z_52=>
     let OK:fN.D:=z_52.2
     let x_67:Wh.Pm:=(((0:Int),()),OK)
     bif lF Wh.BL x_67 then
      sumC (kG Wh.BL Wh.Uz x_67) (fun y_68=>
       let v_70:=y_68.1
       some (v_70,())) (fun _=>
       some (true,()))
     else none)
   else none
 else none
def Wh.Pj:=eB Wh.Dq
theorem Wh.Pn:OV Wh.Dq Wh.Pj:=fe _
def Wh.Gw (xs:(an.D)×(Int)):Option (((Bool))×(Unit)):=
 let i_0:an.D:=xs.1
 let v_1:=xs.2
 some ((i_0.2.2.1==v_1),())
def Wh.q8':=eB Wh.Gw
theorem Wh.q8_v:OV Wh.Gw Wh.q8':=fe _
abbrev Wh.Qy:Type:=((Int)×(List (an.D))×((Int)×(Unit))×(Int))×(Unit)
abbrev Wh.q2_l0Y:Type:=((((Int))×(Unit))⊕((Unit)×(Unit)))
def Wh.CL (x:Wh.Qy):Option (Wh.Qy⊕Wh.q2_l0Y):=
 let zG:=x.1.1
 let Fy:List (an.D):=x.1.2.1
 let f_13:Int:=(x.1.2.2).1.1
 let n5:=x.1.2.2.2
 bif decide (zG<n5) then
  let xQ:an.D:=List.getD Fy (Int.toNat zG) ((0:Int),[],(0:Int),[],())
  let AN:=Wh.q8' (xQ,f_13)
  bif iy [nQ (Wh.Gw (xQ,f_13)),decide ((0:Int)≤zG),decide (zG<(↑(List.length Fy):Int))] then
   bif AN.1 then
    some (.inr (.inl (zG,())))
   else
    some (.inl (((IntKind.wrap .i64 (zG+(1:Int))),Fy,(f_13,()),n5),()))
  else none
 else
  some (.inr (.inr ((),())))
def Wh.Vp:(((Int))×(Unit))⊕((Unit)×(Unit)):=.inl default
def Wh.q2 (xs:(List (an.D))×((Int)×(Unit))):Option (((Int))×(Unit)):=
 let en:List (an.D):=xs.1
 let f_1:=xs.2
 let v_2:Int:=(↑(List.length en):Int)
 let x_19:Wh.Qy:=(((0:Int),en,(f_1.1,()),v_2),())
 bif lF Wh.CL x_19 then
  sumC (kG Wh.CL Wh.Vp x_19) (fun y_20=>
   let yq:=y_20.1
   some (yq,())) (fun _=>
   some ((-1:Int),()))
 else none
def Wh.CF:=eB Wh.q2
theorem Wh.q2_v:OV Wh.q2 Wh.CF:=fe _
def Wh.Cv (xs:(bx.D)×(Int)):Option (((Int))×(Unit)):=
 let gv:bx.D:=xs.1
 let Bt:=xs.2
 let r_2:=Wh.CF (gv.2.1,Bt,())
 bif iy [nQ (Wh.q2 (gv.2.1,Bt,()))] then
  some (r_2.1,())
 else none
def Wh.LJ:=eB Wh.Cv
theorem Wh.Fc:OV Wh.Cv Wh.LJ:=fe _
def Wh.CG (xs:(yD.D)):Option (((Int))×(Unit)):=
 let r_:yD.D:=xs
 bif iy [r_.2.1 != (0:Int)] then
  some ((IntKind.wrap .i64 (Int.tdiv (IntKind.wrap .i64 ((IntKind.wrap .i64 (r_.1+r_.2.1))-(1:Int))) r_.2.1)),())
 else none
def Wh.Gs:=eB Wh.CG
theorem Wh.q21_v:OV Wh.CG Wh.Gs:=fe _
abbrev Wh.Rd:Type:=((Unit)×(Unit))×(((Int)×((Int)×((Unit)×((Unit)×(Unit)))))×((Int)×((Int)×((Unit)×((Unit)×(Unit)))))×(List (Int))×(List (Int))×(List (Int))×(List (Int)))
abbrev Wh.aa_:Type:=((((Unit)×(Unit))×(((Int)×((Int)×((Unit)×((Unit)×(Unit)))))×((Int)×((Int)×((Unit)×((Unit)×(Unit)))))×(List (Int))×(List (Int))×(List (Int))×(List (Int)))))
def Wh.HV (x:Wh.Rd):Option (Wh.Rd⊕Wh.aa_):=
 let yj:=x.2.1.1
 let AY:Int:=(x.2.1.2).1
 let yz:Unit:=(x.2.1.2.2.2).2
 let wh:=x.2.2.1.1
 let x7:Int:=(x.2.2.1).2.1
 let zC:Unit:=(x.2.2.1).2.2.2.2
 let yO:List Int:=(x.2.2.2).1
 let yc:=x.2.2.2.2.1
 let yd:List Int:=(x.2.2.2.2.2).1
 let yU:List Int:=(x.2.2.2.2.2).2
 let ym:=Wh.Gs (yj,AY,yO,yc,yz)
 bif iy [nQ (Wh.CG (yj,AY,yO,yc,yz))] then
  bif decide (ym.1>(24:Int)) then
   some (.inl (((),()),(yj,(IntKind.wrap .i64 (AY+(1:Int))),(),(),yz),(wh,x7,(),(),zC),yO,yc,yd,yU))
  else
   some (.inr (((),()),(wh,x7,(),(),zC),(yj,AY,(),(),yz),yd,yU,yO,yc))
 else none
def Wh.VU:(((Unit)×(Unit))×(((Int)×((Int)×((Unit)×((Unit)×(Unit)))))×((Int)×((Int)×((Unit)×((Unit)×(Unit)))))×(List (Int))×(List (Int))×(List (Int))×(List (Int)))):=default
def Wh.q77 (xs:(Int)):Option ((((Int)×((Int)×((List (Int))×((List (Int))×(Unit))))))×(Unit)):=
 let Hu:=xs
 let r_1:=Wh.yQ (Hu,(1:Int),(300:Int))
 bif iy [nQ (Wh.x_ (Hu,(1:Int),(300:Int)))] then
  bif !r_1.1 then
   some (((0:Int),(0:Int),[],[],()),())
  else
   let Aw:Wh.Rd:=(((),()),(Hu,(8:Int),(),(),()),((0:Int),(0:Int),(),(),()),[],[],[],[])
   bif lF Wh.HV Aw then
    let zT:=kG Wh.HV Wh.VU Aw
    let z_:=zT.2.2.1.1
    let x8:Int:=(zT.2.2.1).2.1
    let As:Unit:=(zT.2.2.1).2.2.2.2
    let y8:List Int:=(zT.2.2.2.2.2).1
    let BA:List Int:=(zT.2.2.2.2.2).2
    let Ma:=Wh.Gs (z_,x8,y8,BA,As)
    bif iy [nQ (Wh.CG (z_,x8,y8,BA,As))] then
     let k_43:=IntKind.wrap .i64 (Int.tdiv (IntKind.wrap .i64 (Ma.1+(3:Int))) (4:Int))
     bif decide (k_43<Ma.1) then
      let O9:List Int:=[k_43,Ma.1]
      some ((z_,x8,O9,[(2:Int),(3:Int)],As),())
     else
      let BF:List Int:=[Ma.1]
      some ((z_,x8,BF,[(1:Int)],As),())
    else none
   else none
 else none
def Wh.q77':=eB Wh.q77
theorem Wh.q77_v:OV Wh.q77 Wh.q77':=fe _
abbrev Wh.QT:Type:=((Int)×(Unit)×(List (ct.D))×(Int))×((bx.D))
abbrev Wh.aaS:Type:=((((Bool))×(Unit))⊕((Unit)×(Unit)))
def Wh.AK (x:Wh.QT):Option (Wh.QT⊕Wh.aaS):=
 let n_:=x.1.1
 let AQ:List (ct.D):=(x.1.2.2).1
 let nW:=x.1.2.2.2
 let yY:bx.D:=x.2
 bif decide (n_<nW) then
  let x9:ct.D:=List.getD AQ (Int.toNat n_) ((0:Int),(0:Int),(0:Int),(0:Int),false,())
  bif iy [decide ((0:Int)≤n_),decide (n_<(↑(List.length AQ):Int))] then
   bif(x9.2.1==(0:Int)) then
    some (.inl (((IntKind.wrap .i64 (n_+(1:Int))),(),AQ,nW),yY))
   else
    let vN:=Wh.LJ (yY,x9.2.1)
    bif iy [nQ (Wh.Cv (yY,x9.2.1))] then
     let A6:(yD.D)×Unit:=Wh.q77' (↑(List.length (Prod.fst (Prod.snd (Prod.snd (Prod.snd (List.getD yY.2.1 (Int.toNat vN.1) ((0:Int),[],(0:Int),[],()))))))):Int)
     let yu:=decide ((x9.2.2.2).1>(0:Int))
     let C3:=Wh.Gs (A6.1.1,A6.1.2.1,bif !bif bif yu then true else decide (vN.1<(0:Int)) then true else Prod.fst (List.getD yY.2.1 (Int.toNat vN.1) ((0:Int),[],(0:Int),[],())) != x9.1 then(A6.1.2.2).1 else [],bif !bif bif yu then true else decide (vN.1<(0:Int)) then true else Prod.fst (List.getD yY.2.1 (Int.toNat vN.1) ((0:Int),[],(0:Int),[],())) != x9.1 then A6.1.2.2.2.1 else [],A6.1.2.2.2.2)
     let Io:=bif bif bif yu then true else decide (vN.1<(0:Int)) then true else Prod.fst (List.getD yY.2.1 (Int.toNat vN.1) ((0:Int),[],(0:Int),[],())) != x9.1 then true else decide (x9.2.2.1≥C3.1)
     bif iy [(!!bif bif yu then true else decide (vN.1<(0:Int)) then true else Prod.fst (List.getD yY.2.1 (Int.toNat vN.1) ((0:Int),[],(0:Int),[],())) != x9.1) || nQ (Wh.CG (A6.1.1,A6.1.2.1,bif !bif bif yu then true else decide (vN.1<(0:Int)) then true else Prod.fst (List.getD yY.2.1 (Int.toNat vN.1) ((0:Int),[],(0:Int),[],())) != x9.1 then(A6.1.2.2).1 else [],bif !bif bif yu then true else decide (vN.1<(0:Int)) then true else Prod.fst (List.getD yY.2.1 (Int.toNat vN.1) ((0:Int),[],(0:Int),[],())) != x9.1 then A6.1.2.2.2.1 else [],A6.1.2.2.2.2)),(!!bif bif yu then true else decide (vN.1<(0:Int)) then true else Prod.fst (List.getD yY.2.1 (Int.toNat vN.1) ((0:Int),[],(0:Int),[],())) != x9.1) || nQ (Wh.q77 (↑(List.length (Prod.fst (Prod.snd (Prod.snd (Prod.snd (List.getD yY.2.1 (Int.toNat vN.1) ((0:Int),[],(0:Int),[],()))))))):Int)),(!!bif bif yu then true else decide (vN.1<(0:Int)) then true else Prod.fst (List.getD yY.2.1 (Int.toNat vN.1) ((0:Int),[],(0:Int),[],())) != x9.1) || decide ((0:Int)≤vN.1),(!!bif bif yu then true else decide (vN.1<(0:Int)) then true else Prod.fst (List.getD yY.2.1 (Int.toNat vN.1) ((0:Int),[],(0:Int),[],())) != x9.1) || decide (vN.1<(↑(List.length yY.2.1):Int)),(!!bif yu then true else decide (vN.1<(0:Int))) || decide ((0:Int)≤vN.1),(!!bif yu then true else decide (vN.1<(0:Int))) || decide (vN.1<(↑(List.length yY.2.1):Int))] then
      bif Io then
       some (.inr (.inl (false,())))
      else
       some (.inl (((IntKind.wrap .i64 (n_+(1:Int))),(),AQ,nW),yY))
     else none
    else none
  else none
 else
  some (.inr (.inr ((),())))
def Wh.VC:(((Bool))×(Unit))⊕((Unit)×(Unit)):=.inl default
def Wh.q53 (xs:(fN.D)×(bx.D)):Option (((Bool))×(Unit)):=
 let r_:fN.D:=xs.1
 let c_1:bx.D:=xs.2
 let r_2:=Wh.Pj r_
 bif iy [nQ (Wh.Dq r_)] then
  bif !r_2.1 then
   some (false,())
  else
   let r5:Int:=(↑(List.length r_.1):Int)
   let x_44:Wh.QT:=(((0:Int),(),r_.1,r5),c_1)
   bif lF Wh.AK x_44 then
    sumC (kG Wh.AK Wh.VC x_44) (fun y_45=>
     let v_47:=y_45.1
     some (v_47,())) (fun _=>
     some (true,()))
   else none
 else none
def Wh.q53':=eB Wh.q53
theorem Wh.q53_v:OV Wh.q53 Wh.q53':=fe _
def Wh.q47 (xs:(fT.D)):Option (((Bool))×(Unit)):=
 let yM:fT.D:=xs
 let r_1:=Wh.yQ (yM.2.1,(0:Int),(99999:Int))
 let r_2:=Wh.yQ (yM.2.2.1,(0:Int),(99999:Int))
 let xS:=Wh.yQ (yM.1,(0:Int),yM.2.1)
 let yJ:=Wh.yQ ((yM.2.2.2).1,(0:Int),(99999:Int))
 let Ag:=bif bif bif r_1.1 then r_2.1 else false then xS.1 else false then yJ.1 else false
 bif iy [(!bif bif r_1.1 then r_2.1 else false then xS.1 else false) || nQ (Wh.x_ ((yM.2.2.2).1,(0:Int),(99999:Int))),(!bif r_1.1 then r_2.1 else false) || nQ (Wh.x_ (yM.1,(0:Int),yM.2.1)),!r_1.1 || nQ (Wh.x_ (yM.2.2.1,(0:Int),(99999:Int))),nQ (Wh.x_ (yM.2.1,(0:Int),(99999:Int)))] then
  some (Ag,())
 else none
def Wh.q47':=eB Wh.q47
theorem Wh.q47_v:OV Wh.q47 Wh.q47':=fe _
def Wh.q51 (xs:(Int)):Option (((Bool))×(Unit)):=
 let yA:=xs
 let r_1:=Wh.yQ (yA,(0:Int),(3:Int))
 bif iy [nQ (Wh.x_ (yA,(0:Int),(3:Int)))] then
  some (r_1.1,())
 else none
def Wh.q51':=eB Wh.q51
theorem Wh.QS:OV Wh.q51 Wh.q51':=fe _
def Wh.q79 (xs:(Int)):Option (((Int))×(Unit)):=
 let N4:=xs
 some ((Int.tmod N4 (2:Int)),())
def Wh.q79':=eB Wh.q79
theorem Wh.Rf:OV Wh.q79 Wh.q79':=fe _
abbrev Wh.QN:Type:=((Int)×(Unit)×(List (gd.D))×(Int))×((cx.D))
abbrev Wh.aaR:Type:=((((Bool))×(Unit))⊕((Unit)×(Unit)))
def Wh.BV (x:Wh.QN):Option (Wh.QN⊕Wh.aaR):=
 let A8:=x.1.1
 let v_89:List (gd.D):=(x.1.2.2).1
 let Mr:=x.1.2.2.2
 let At:cx.D:=x.2
 bif decide (A8<Mr) then
  let y9:gd.D:=List.getD v_89 (Int.toNat A8) ((0:Int),(0:Int),(0:Int),(0:Int),(0:Int),(0:Int),())
  bif iy [decide ((0:Int)≤A8),decide (A8<(↑(List.length v_89):Int))] then
   let GD:=decide (A8>(0:Int))
   let r_97:=Wh.q51' y9.1
   let r_100:=Wh.yQ (y9.2.1,(1:Int),(99999:Int))
   let Rs:=Wh.yQ (y9.2.2.1,(1:Int),(At.2.2.2).1.1)
   let v_104:=bif bif bif bif GD then decide (Prod.fst (List.getD ((At.2.2.2.2.2).2.1) (Int.toNat (IntKind.wrap .i64 (A8-(1:Int)))) ((0:Int),(0:Int),(0:Int),(0:Int),(0:Int),(0:Int),()))≥y9.1) else false then true else !r_97.1 then true else !r_100.1 then true else !Rs.1
   bif iy [(!!bif bif bif GD then decide (Prod.fst (List.getD ((At.2.2.2.2.2).2.1) (Int.toNat (IntKind.wrap .i64 (A8-(1:Int)))) ((0:Int),(0:Int),(0:Int),(0:Int),(0:Int),(0:Int),()))≥y9.1) else false then true else !r_97.1 then true else !r_100.1) || nQ (Wh.x_ (y9.2.2.1,(1:Int),(At.2.2.2).1.1)),(!!bif bif GD then decide (Prod.fst (List.getD ((At.2.2.2.2.2).2.1) (Int.toNat (IntKind.wrap .i64 (A8-(1:Int)))) ((0:Int),(0:Int),(0:Int),(0:Int),(0:Int),(0:Int),()))≥y9.1) else false then true else !r_97.1) || nQ (Wh.x_ (y9.2.1,(1:Int),(99999:Int))),(!!bif GD then decide (Prod.fst (List.getD ((At.2.2.2.2.2).2.1) (Int.toNat (IntKind.wrap .i64 (A8-(1:Int)))) ((0:Int),(0:Int),(0:Int),(0:Int),(0:Int),(0:Int),()))≥y9.1) else false) || nQ (Wh.q51 y9.1),!GD || decide ((0:Int)≤IntKind.wrap .i64 (A8-(1:Int))),!GD || decide (IntKind.wrap .i64 (A8-(1:Int))<(↑(List.length ((At.2.2.2.2.2).2.1)):Int))] then
    bif v_104 then
     some (.inr (.inl (false,())))
    else
     let L8:=Wh.LJ ((At.2.2.2).1,y9.2.2.1)
     bif iy [nQ (Wh.Cv ((At.2.2.2).1,y9.2.2.1))] then
      let Mn:=decide (L8.1≥(0:Int))
      let r_107:=Wh.q79' y9.1
      let B5:=bif Mn then Prod.fst (List.getD ((At.2.2.2).1.2.1) (Int.toNat L8.1) ((0:Int),[],(0:Int),[],())) != r_107.1 else false
      bif iy [!Mn || nQ (Wh.q79 y9.1),!Mn || decide ((0:Int)≤L8.1),!Mn || decide (L8.1<(↑(List.length ((At.2.2.2).1.2.1)):Int))] then
       bif B5 then
        some (.inr (.inl (false,())))
       else
        let HZ:=Wh.yQ ((y9.2.2.2).1,(0:Int),(9999:Int))
        let r_110:=Wh.yQ (y9.2.2.2.2.1,(0:Int),(3:Int))
        let r_113:=Wh.yQ ((y9.2.2.2.2.2).1,(0:Int),At.2.1)
        let v_114:=bif bif !HZ.1 then true else !r_110.1 then true else !r_113.1
        bif iy [(!!bif !HZ.1 then true else !r_110.1) || nQ (Wh.x_ ((y9.2.2.2.2.2).1,(0:Int),At.2.1)),!!!HZ.1 || nQ (Wh.x_ (y9.2.2.2.2.1,(0:Int),(3:Int))),nQ (Wh.x_ ((y9.2.2.2).1,(0:Int),(9999:Int)))] then
         bif v_114 then
          some (.inr (.inl (false,())))
         else
          some (.inl (((IntKind.wrap .i64 (A8+(1:Int))),(),v_89,Mr),At))
        else none
      else none
     else none
   else none
  else none
 else
  some (.inr (.inr ((),())))
def Wh.VB:(((Bool))×(Unit))⊕((Unit)×(Unit)):=.inl default
abbrev Wh.QM:Type:=((Int)×(Unit)×(List (fT.D))×(Int))×((cx.D))
abbrev Wh.aaQ:Type:=((((Bool))×(Unit))⊕(((Unit))×((cx.D))))
def Wh.CT (x:Wh.QM):Option (Wh.QM⊕Wh.aaQ):=
 let Im:=x.1.1
 let Io:List (fT.D):=(x.1.2.2).1
 let GA:=x.1.2.2.2
 let OI:cx.D:=x.2
 bif decide (Im<GA) then
  let BF:fT.D:=List.getD Io (Int.toNat Im) ((0:Int),(0:Int),(0:Int),(0:Int),())
  bif iy [decide ((0:Int)≤Im),decide (Im<(↑(List.length Io):Int))] then
   let Ib:=Wh.q47' BF
   let v_52:=bif bif bif !Ib.1 then true else BF.2.1 != (40:Int) then true else BF.2.2.1 != (8:Int) then true else decide ((BF.2.2.2).1>OI.2.1)
   bif iy [nQ (Wh.q47 BF)] then
    bif v_52 then
     some (.inr (.inl (false,())))
    else
     some (.inl (((IntKind.wrap .i64 (Im+(1:Int))),(),Io,GA),OI))
   else none
  else none
 else
  some (.inr (.inr ((),OI)))
def Wh.VA:(((Bool))×(Unit))⊕(((Unit))×((cx.D))):=.inl default
def Wh.q50 (xs:(cx.D)):Option (((Bool))×(Unit)):=
 let en:cx.D:=xs
 let r_1:=Wh.yQ (en.2.1,(0:Int),(99999:Int))
 let v_2:=bif !r_1.1 then true else decide ((↑(List.length (en.2.2.1)):Int)>(9000:Int))
 bif iy [nQ (Wh.x_ (en.2.1,(0:Int),(99999:Int)))] then
  bif v_2 then
   some (false,())
  else
   let r_3:(List (List UInt8)×Int)×Unit:=Wh.L4 (en.2.2.1)
   bif iy [nQ (Wh.CW (en.2.2.1))] then
    let gz:((bx.D)×Bool)×Unit:=Wh.PY r_3.1.1
    bif iy [nQ (Wh.E7 r_3.1.1)] then
     bif(!gz.1.2) then
      some (false,())
     else
      bif(!en.1) then
       let za:Bool:=(en.2.2.2).1.1==(0:Int)
       let Y5:=bif bif bif za then(↑(List.length ((en.2.2.2).1.2.1)):Int)==(0:Int) else false then(↑(List.length ((en.2.2.2.2.1).1)):Int)==(0:Int) else false then(en.2.2.2.2.1).2.1==(0:Int) else false
       let n5:=bif Y5 then(↑(List.length ((en.2.2.2.2.2).1)):Int)==(0:Int) else false
       let xQ:=bif n5 then(↑(List.length ((en.2.2.2.2.2).2.1)):Int)==(0:Int) else false
       some (xQ,())
      else
       let xZ:Int:=(↑(List.length (en.2.2.1)):Int)
       let yB:=Wh.q81' (gz.1.1,(en.2.2.2).1)
       let zQ:=Wh.q53' (en.2.2.2.2.1,(en.2.2.2).1)
       let nW:=bif bif bif r_3.1.2 != xZ then true else !yB.1 then true else !zQ.1 then true else(↑(List.length ((en.2.2.2.2.2).1)):Int) != (2:Int)
       bif iy [(!!bif r_3.1.2 != xZ then true else !yB.1) || nQ (Wh.q53 (en.2.2.2.2.1,(en.2.2.2).1)),!!r_3.1.2 != xZ || nQ (Wh.q81 (gz.1.1,(en.2.2.2).1))] then
        bif nW then
         some (false,())
        else
         let Bq:Int:=(↑(List.length ((en.2.2.2.2.2).1)):Int)
         let x_54:Wh.QM:=(((0:Int),(),(en.2.2.2.2.2).1,Bq),en)
         bif lF Wh.CT x_54 then
          sumC (kG Wh.CT Wh.VA x_54) (fun y_55=>
           let v_57:=y_55.1
           some (v_57,())) (fun z_56=>
           let OM:cx.D:=z_56.2
           let v_59:Int:=(↑(List.length ((OM.2.2.2.2.2).2.1)):Int)
           let x_116:Wh.QN:=(((0:Int),(),(OM.2.2.2.2.2).2.1,v_59),OM)
           bif lF Wh.BV x_116 then
            sumC (kG Wh.BV Wh.VB x_116) (fun y_117=>
             let Mo:=y_117.1
             some (Mo,())) (fun _=>
             some (true,()))
           else none)
         else none
       else none
    else none
   else none
 else none
def Wh.q50':=eB Wh.q50
theorem Wh.QO:OV Wh.q50 Wh.q50':=fe _
def Wh.ES (xs:(an.D)×(an.D)):Option (((Bool))×(Unit)):=
 let cr:an.D:=xs.1
 let b_1:an.D:=xs.2
 bif(cr.1 != b_1.1) then
  some (false,())
 else
  bif(!cr.2.1==b_1.2.1) then
   some (false,())
  else
   bif(cr.2.2.1 != b_1.2.2.1) then
    some (false,())
   else
    bif(!(cr.2.2.2).1==(b_1.2.2.2).1) then
     some (false,())
    else
     some (true,())
def Wh.Pp:=eB Wh.ES
theorem Wh.UA:OV Wh.ES Wh.Pp:=fe _
abbrev Wh.Rg:Type:=((Int)×(List (an.D))×(List (an.D)))×(Unit)
abbrev Wh.abb:Type:=((((Bool))×(Unit))⊕((Unit)×(Unit)))
def Wh.Ft (x:Wh.Rg):Option (Wh.Rg⊕Wh.abb):=
 let gT:=x.1.1
 let zX:List (an.D):=x.1.2.1
 let zU:List (an.D):=x.1.2.2
 let xN:Int:=(↑(List.length zU):Int)
 bif decide (gT<xN) then
  let nG:an.D:=List.getD zU (Int.toNat gT) ((0:Int),[],(0:Int),[],())
  let so:an.D:=List.getD zX (Int.toNat gT) ((0:Int),[],(0:Int),[],())
  let zQ:=Wh.Pp (nG,so)
  bif iy [nQ (Wh.ES (nG,so)),decide ((0:Int)≤gT),decide (gT<(↑(List.length zX):Int)),decide ((0:Int)≤gT),decide (gT<xN)] then
   bif !zQ.1 then
    some (.inr (.inl (false,())))
   else
    some (.inl (((IntKind.wrap .i64 (gT+(1:Int))),zX,zU),()))
  else none
 else
  some (.inr (.inr ((),())))
def Wh.VW:(((Bool))×(Unit))⊕((Unit)×(Unit)):=.inl default
def Wh.q83 (xs:(List (an.D))×(List (an.D))):Option (((Bool))×(Unit)):=
 let cr:List (an.D):=xs.1
 let b_1:List (an.D):=xs.2
 let v_2:Int:=(↑(List.length cr):Int)
 let r5:Int:=(↑(List.length b_1):Int)
 let yw:=v_2 != r5
 bif yw then
  some (false,())
 else
  let x_25:Wh.Rg:=(((0:Int),b_1,cr),())
  bif lF Wh.Ft x_25 then
   sumC (kG Wh.Ft Wh.VW x_25) (fun Ah=>
    let nC:=Ah.1
    some (nC,())) (fun _=>
    some (true,()))
  else none
def Wh.q83':=eB Wh.q83
theorem Wh.q83_v:OV Wh.q83 Wh.q83':=fe _
end
