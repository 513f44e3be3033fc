import Derived.Test.YtfeoanopdlpabaaGreatDoorX6
open Go Go.Ab
noncomputable section
def eB {α β:Type} [Inhabited β] (f:α→Option β) (x:α):β:=match f x with | some y=>y|none=>default
abbrev OV {α β:Type} (f:α→Option β) (g:α→β):Prop:=∀x y,f x=some y→g x=y
theorem fe {α β:Type} [Inhabited β] (f:α→Option β):OV f (eB f):=fun x y h=>by unfold eB;rw[h]
abbrev QY:Ty:=(.pair (.int .i64) (.pair (.int .i64) (.pair .bool (.pair (.int .u8) .unit))))
abbrev QY.D:Type:=(Int)×((Int)×((Bool)×((Int)×(Unit))))
abbrev QZ:Ty:=(.pair .str (.pair (.int .u64) .unit))
abbrev QZ.D:Type:=(List UInt8)×((Int)×(Unit))
abbrev bx:Ty:=(.pair (.int .i64) (.pair (.lst (.pair (.int .i64) (.pair .str (.pair (.int .i64) (.pair .str .unit))))) .unit))
abbrev bx.D:Type:=(Int)×((List ((Int)×((List UInt8)×((Int)×((List UInt8)×(Unit))))))×(Unit))
abbrev gd:Ty:=(.pair (.lst (.pair (.int .i64) (.pair (.int .i64) (.pair (.int .i64) (.pair (.int .i64) (.pair .bool .unit)))))) (.pair (.int .i64) .unit))
abbrev gd.D:Type:=(List ((Int)×((Int)×((Int)×((Int)×((Bool)×(Unit)))))))×((Int)×(Unit))
abbrev ct:Ty:=(.pair .bool (.pair (.int .i64) (.pair .str (.pair bx (.pair gd (.pair (.lst (.pair (.int .i64) (.pair (.int .i64) (.pair (.int .i64) (.pair (.int .i64) .unit))))) (.pair (.lst (.pair (.int .i64) (.pair (.int .i64) (.pair (.int .i64) (.pair (.int .i64) (.pair (.int .i64) (.pair (.int .i64) .unit))))))) .unit)))))))
abbrev ct.D:Type:=(Bool)×((Int)×((List UInt8)×((bx.D)×((gd.D)×((List ((Int)×((Int)×((Int)×((Int)×(Unit))))))×((List ((Int)×((Int)×((Int)×((Int)×((Int)×((Int)×(Unit))))))))×(Unit)))))))
abbrev yA:Ty:=(.pair (.int .i64) (.pair (.int .i64) (.pair (.lst (.int .i64)) (.pair (.lst (.int .i64)) .unit))))
abbrev yA.D:Type:=(Int)×((Int)×((List (Int))×((List (Int))×(Unit))))
abbrev Fi:Ty:=(.pair (.int .i64) (.pair (.int .i64) (.pair (.lst (.pair (.lst (.int .i64)) (.pair .str .unit))) .unit)))
abbrev Fi.D:Type:=(Int)×((Int)×((List ((List (Int))×((List UInt8)×(Unit))))×(Unit)))
abbrev Fh:Ty:=(.pair yA (.pair Fi .unit))
abbrev Fh.D:Type:=(yA.D)×((Fi.D)×(Unit))
abbrev CQ:Ty:=(.pair (.int .i64) (.pair (.int .i64) (.pair (.int .i64) (.pair .str (.pair (.int .i64) (.pair Fh .unit))))))
abbrev CQ.D:Type:=(Int)×((Int)×((Int)×((List UInt8)×((Int)×((Fh.D)×(Unit))))))
abbrev HP:Ty:=(.pair (.int .i64) (.pair (.int .i64) (.pair (.int .i64) (.pair (.int .i64) (.pair (.int .i64) (.pair .str (.pair .str .unit)))))))
abbrev HP.D:Type:=(Int)×((Int)×((Int)×((Int)×((Int)×((List UInt8)×((List UInt8)×(Unit)))))))
abbrev HQ:Ty:=(.pair ct (.pair (.lst CQ) (.pair (.lst (.pair (.int .i64) (.pair .str (.pair .bool .unit)))) (.pair (.lst (.pair (.int .i64) (.pair .str (.pair (.int .i64) (.pair .str .unit))))) .unit))))
abbrev HQ.D:Type:=(ct.D)×((List (CQ.D))×((List ((Int)×((List UInt8)×((Bool)×(Unit)))))×((List ((Int)×((List UInt8)×((Int)×((List UInt8)×(Unit))))))×(Unit))))
abbrev an:Ty:=(.pair (.int .i64) (.pair .str (.pair (.int .i64) (.pair .str .unit))))
abbrev an.D:Type:=(Int)×((List UInt8)×((Int)×((List UInt8)×(Unit))))
abbrev eA:Ty:=(.pair (.int .i64) (.pair (.int .i64) (.pair (.int .i64) (.pair (.int .i64) (.pair .bool .unit)))))
abbrev eA.D:Type:=(Int)×((Int)×((Int)×((Int)×((Bool)×(Unit)))))
abbrev fN:Ty:=(.pair (.int .i64) (.pair (.int .i64) (.pair (.int .i64) (.pair (.int .i64) .unit))))
abbrev fN.D:Type:=(Int)×((Int)×((Int)×((Int)×(Unit))))
abbrev fT:Ty:=(.pair (.int .i64) (.pair (.int .i64) fN))
abbrev fT.D:Type:=(Int)×((Int)×(fN.D))
abbrev Gc:Ty:=(.pair (.int .i64) (.pair .str (.pair .bool .unit)))
abbrev Gc.D:Type:=(Int)×((List UInt8)×((Bool)×(Unit)))
abbrev L1:Ty:=(.pair (.int .i64) (.pair (.int .i64) (.pair (.int .i64) .unit)))
abbrev L1.D:Type:=(Int)×((Int)×((Int)×(Unit)))
abbrev Ga:Ty:=(.pair (.lst (.int .i64)) (.pair .str .unit))
abbrev Ga.D:Type:=(List (Int))×((List UInt8)×(Unit))
abbrev xT:Ty:=(.pair .str .unit)
abbrev xT.D:Type:=(List UInt8)×(Unit)
abbrev Q0:Ty:=(.pair (.int .u8) (.pair (.int .u8) .unit))
abbrev Q0.D:Type:=(Int)×((Int)×(Unit))
def Wh.Ez (xs:(an.D)×(Int)):Option (((Int))×(Unit)):=
 let cr:an.D:=xs.1
 let left_1:=xs.2
 let v_2:Int:=(↑(List.length cr.2.1):Int)
 let zl:=IntKind.wrap .i64 (left_1-v_2)
 bif decide (zl<(0:Int)) then
  some ((-1:Int),())
 else
  let zh:Int:=(↑(List.length ((cr.2.2.2).1)):Int)
  let Sx:=IntKind.wrap .i64 (zl-zh)
  bif decide (Sx<(0:Int)) then
   some ((-1:Int),())
  else
   some (Sx,())
def Wh.OR:=eB Wh.Ez
theorem Wh.OS:OV Wh.Ez Wh.OR:=fe _
abbrev Wh.QF:Type:=((Int)×(Int)×(List (an.D)))×(Unit)
abbrev Wh.aap:Type:=((((Int))×(Unit))⊕(((Int))×(Unit)))
def Wh.DN (x:Wh.QF):Option (Wh.QF⊕Wh.aap):=
 let xZ:=x.1.1
 let NY:=x.1.2.1
 let D7:List (an.D):=x.1.2.2
 let nI:Int:=(↑(List.length D7):Int)
 bif decide (xZ<nI) then
  let w7:an.D:=List.getD D7 (Int.toNat xZ) ((0:Int),[],(0:Int),[],())
  let zP:=Wh.OR (w7,NY)
  bif iy [nQ (Wh.Ez (w7,NY)),decide ((0:Int)≤xZ),decide (xZ<nI)] then
   bif decide (zP.1<(0:Int)) then
    some (.inr (.inl ((-1:Int),())))
   else
    some (.inl (((IntKind.wrap .i64 (xZ+(1:Int))),zP.1,D7),()))
  else none
 else
  some (.inr (.inr (NY,())))
def Wh.QG:(((Int))×(Unit))⊕(((Int))×(Unit)):=.inl default
def Wh.q86 (xs:(List (an.D))×(Int)):Option (((Int))×(Unit)):=
 let cr:List (an.D):=xs.1
 let left_1:=xs.2
 let v_2:Int:=(↑(List.length cr):Int)
 let zl:=IntKind.wrap .i64 (left_1-v_2)
 bif decide (zl<(0:Int)) then
  some ((-1:Int),())
 else
  let HZ:Wh.QF:=(((0:Int),zl,cr),())
  bif lF Wh.DN HZ then
   sumC (kG Wh.DN Wh.QG HZ) (fun Ig=>
    let yR:=Ig.1
    some (yR,())) (fun z_28=>
    let Xx:=z_28.1
    some (Xx,()))
  else none
def Wh.q86':=eB Wh.q86
theorem Wh.q86_v:OV Wh.q86 Wh.q86':=fe _
def Wh.EM (xs:(bx.D)×(Int)):Option (((Int))×(Unit)):=
 let cr:bx.D:=xs.1
 let left_1:=xs.2
 let r_2:=Wh.q86' (cr.2.1,left_1)
 bif iy [nQ (Wh.q86 (cr.2.1,left_1))] then
  bif decide (r_2.1<(0:Int)) then
   some ((-1:Int),())
  else
   some (r_2.1,())
 else none
def Wh.Pp:=eB Wh.EM
theorem Wh.Um:OV Wh.EM Wh.Pp:=fe _
def Wh.q61 (xs:(List (eA.D))×(Int)):Option (((Int))×(Unit)):=
 let cr:List (eA.D):=xs.1
 let left_1:=xs.2
 let v_2:Int:=(↑(List.length cr):Int)
 let zl:=IntKind.wrap .i64 (left_1-v_2)
 bif decide (zl<(0:Int)) then
  some ((-1:Int),())
 else
  some (zl,())
def Wh.q61':=eB Wh.q61
theorem Wh.q61_v:OV Wh.q61 Wh.q61':=fe _
def Wh.EA (xs:(gd.D)×(Int)):Option (((Int))×(Unit)):=
 let cr:gd.D:=xs.1
 let left_1:=xs.2
 let r_2:=Wh.q61' (cr.1,left_1)
 bif iy [nQ (Wh.q61 (cr.1,left_1))] then
  bif decide (r_2.1<(0:Int)) then
   some ((-1:Int),())
  else
   some (r_2.1,())
 else none
def Wh.OT:=eB Wh.EA
theorem Wh.TY:OV Wh.EA Wh.OT:=fe _
def Wh.q39 (xs:(List (fN.D))×(Int)):Option (((Int))×(Unit)):=
 let cr:List (fN.D):=xs.1
 let left_1:=xs.2
 let v_2:Int:=(↑(List.length cr):Int)
 let zl:=IntKind.wrap .i64 (left_1-v_2)
 bif decide (zl<(0:Int)) then
  some ((-1:Int),())
 else
  some (zl,())
def Wh.q39':=eB Wh.q39
theorem Wh.q39_v:OV Wh.q39 Wh.q39':=fe _
def Wh.q62 (xs:(List (fT.D))×(Int)):Option (((Int))×(Unit)):=
 let cr:List (fT.D):=xs.1
 let left_1:=xs.2
 let v_2:Int:=(↑(List.length cr):Int)
 let zl:=IntKind.wrap .i64 (left_1-v_2)
 bif decide (zl<(0:Int)) then
  some ((-1:Int),())
 else
  some (zl,())
def Wh.q62':=eB Wh.q62
theorem Wh.q62_v:OV Wh.q62 Wh.q62':=fe _
def Wh.q63 (xs:(ct.D)×(Int)):Option (((Int))×(Unit)):=
 let cr:ct.D:=xs.1
 let left_1:=xs.2
 let v_2:Int:=(↑(List.length (cr.2.2.1)):Int)
 let zl:=IntKind.wrap .i64 (left_1-v_2)
 bif decide (zl<(0:Int)) then
  some ((-1:Int),())
 else
  let x4:=Wh.Pp ((cr.2.2.2).1,zl)
  bif iy [nQ (Wh.EM ((cr.2.2.2).1,zl))] then
   bif decide (x4.1<(0:Int)) then
    some ((-1:Int),())
   else
    let xd:=Wh.OT (cr.2.2.2.2.1,x4.1)
    bif iy [nQ (Wh.EA (cr.2.2.2.2.1,x4.1))] then
     bif decide (xd.1<(0:Int)) then
      some ((-1:Int),())
     else
      let z_:=Wh.q39' ((cr.2.2.2.2.2).1,xd.1)
      bif iy [nQ (Wh.q39 ((cr.2.2.2.2.2).1,xd.1))] then
       bif decide (z_.1<(0:Int)) then
        some ((-1:Int),())
       else
        let zd:=Wh.q62' ((cr.2.2.2.2.2).2.1,z_.1)
        bif iy [nQ (Wh.q62 ((cr.2.2.2.2.2).2.1,z_.1))] then
         bif decide (zd.1<(0:Int)) then
          some ((-1:Int),())
         else
          some (zd.1,())
        else none
      else none
    else none
  else none
def Wh.q63':=eB Wh.q63
theorem Wh.q63_v:OV Wh.q63 Wh.q63':=fe _
def Wh.FW (xs:(an.D)):Option (((an.D))×(Unit)):=
 let cr:an.D:=xs
 some ((cr.1,cr.2.1,cr.2.2.1,(cr.2.2.2).1,()),())
def Wh.OW:=eB Wh.FW
theorem Wh.T0:OV Wh.FW Wh.OW:=fe _
abbrev Wh.QH:Type:=((Int)×(List (an.D))×(Unit))×((List (an.D)))
abbrev Wh.aaq:Type:=((((Unit))×((List (an.D)))))
def Wh.DO (x:Wh.QH):Option (Wh.QH⊕Wh.aaq):=
 let tn:=x.1.1
 let y6:List (an.D):=x.1.2.1
 let yC:List (an.D):=x.2
 let yl:Int:=(↑(List.length y6):Int)
 bif decide (tn<yl) then
  let nc:(an.D)×Unit:=Wh.OW (List.getD y6 (Int.toNat tn) ((0:Int),[],(0:Int),[],()))
  let vT:List (an.D):=List.set yC (Int.toNat tn) nc.1
  let nI:an.D:=List.getD y6 (Int.toNat tn) ((0:Int),[],(0:Int),[],())
  bif iy [decide ((0:Int)≤tn),decide (tn<(↑(List.length yC):Int)),nQ (Wh.FW nI),decide ((0:Int)≤tn),decide (tn<yl)] then
   some (.inl (((IntKind.wrap .i64 (tn+(1:Int))),y6,()),vT))
  else none
 else
  some (.inr ((),yC))
def Wh.Vi:(((Unit))×((List (an.D)))):=default
def Wh.q88 (xs:(List (an.D))):Option (((List (an.D)))×(Unit)):=
 let cr:List (an.D):=xs
 let za:List (an.D):=@List.replicate (Int×List UInt8×Int×List UInt8×Unit) (Int.toNat (↑(List.length cr):Int)) ((0:Int),[],(0:Int),[],())
 let v_2:Int:=(↑(List.length cr):Int)
 bif iy [decide ((0:Int)≤v_2),decide (v_2≤v_2),decide (v_2≤(↑dh:Int))] then
  let x_21:Wh.QH:=(((0:Int),cr,()),za)
  bif lF Wh.DO x_21 then
   let CU:=kG Wh.DO Wh.Vi x_21
   let zJ:List (an.D):=CU.2
   some (zJ,())
  else none
 else none
def Wh.q88':=eB Wh.q88
theorem Wh.q88_v:OV Wh.q88 Wh.q88':=fe _
def Wh.EN (xs:(bx.D)):Option ((((Int)×((List (an.D))×(Unit))))×(Unit)):=
 let cr:bx.D:=xs
 let r_1:List (an.D)×Unit:=Wh.q88' cr.2.1
 bif iy [nQ (Wh.q88 cr.2.1)] then
  some ((cr.1,r_1.1,()),())
 else none
def Wh.Pq:=eB Wh.EN
theorem Wh.Un:OV Wh.EN Wh.Pq:=fe _
def Wh.q87 (xs:(eA.D)):Option (((eA.D))×(Unit)):=
 let cr:eA.D:=xs
 some ((cr.1,cr.2.1,cr.2.2.1,(cr.2.2.2).1,cr.2.2.2.2.1,()),())
def Wh.q87':=eB Wh.q87
theorem Wh.q87_v:OV Wh.q87 Wh.q87':=fe _
abbrev Wh.Qq:Type:=((Int)×(List (eA.D))×(Unit))×((List (eA.D)))
abbrev Wh.aaf:Type:=((((Unit))×((List (eA.D)))))
def Wh.DJ (x:Wh.Qq):Option (Wh.Qq⊕Wh.aaf):=
 let tn:=x.1.1
 let y6:List (eA.D):=x.1.2.1
 let yC:List (eA.D):=x.2
 let yl:Int:=(↑(List.length y6):Int)
 bif decide (tn<yl) then
  let nc:(eA.D)×Unit:=Wh.q87' (List.getD y6 (Int.toNat tn) ((0:Int),(0:Int),(0:Int),(0:Int),false,()))
  let vT:List (eA.D):=List.set yC (Int.toNat tn) nc.1
  let nI:eA.D:=List.getD y6 (Int.toNat tn) ((0:Int),(0:Int),(0:Int),(0:Int),false,())
  bif iy [decide ((0:Int)≤tn),decide (tn<(↑(List.length yC):Int)),nQ (Wh.q87 nI),decide ((0:Int)≤tn),decide (tn<yl)] then
   some (.inl (((IntKind.wrap .i64 (tn+(1:Int))),y6,()),vT))
  else none
 else
  some (.inr ((),yC))
def Wh.U9:(((Unit))×((List (eA.D)))):=default
def Wh.q65 (xs:(List (eA.D))):Option (((List (eA.D)))×(Unit)):=
 let cr:List (eA.D):=xs
 let za:List (eA.D):=@List.replicate (Int×Int×Int×Int×Bool×Unit) (Int.toNat (↑(List.length cr):Int)) ((0:Int),(0:Int),(0:Int),(0:Int),false,())
 let v_2:Int:=(↑(List.length cr):Int)
 bif iy [decide ((0:Int)≤v_2),decide (v_2≤v_2),decide (v_2≤(↑dh:Int))] then
  let x_21:Wh.Qq:=(((0:Int),cr,()),za)
  bif lF Wh.DJ x_21 then
   let CU:=kG Wh.DJ Wh.U9 x_21
   let zJ:List (eA.D):=CU.2
   some (zJ,())
  else none
 else none
def Wh.q65':=eB Wh.q65
theorem Wh.q65_v:OV Wh.q65 Wh.q65':=fe _
def Wh.EB (xs:(gd.D)):Option ((((List (eA.D))×((Int)×(Unit))))×(Unit)):=
 let cr:gd.D:=xs
 let r_1:List (eA.D)×Unit:=Wh.q65' cr.1
 bif iy [nQ (Wh.q65 cr.1)] then
  some ((r_1.1,cr.2.1,()),())
 else none
def Wh.OX:=eB Wh.EB
theorem Wh.T3:OV Wh.EB Wh.OX:=fe _
def Wh.q64 (xs:(fN.D)):Option (((fN.D))×(Unit)):=
 let cr:fN.D:=xs
 some ((cr.1,cr.2.1,cr.2.2.1,(cr.2.2.2).1,()),())
def Wh.q64':=eB Wh.q64
theorem Wh.q64_v:OV Wh.q64 Wh.q64':=fe _
abbrev Wh.P8:Type:=((Int)×(List (fN.D))×(Unit))×((List (fN.D)))
abbrev Wh.ZY:Type:=((((Unit))×((List (fN.D)))))
def Wh.DC (x:Wh.P8):Option (Wh.P8⊕Wh.ZY):=
 let tn:=x.1.1
 let y6:List (fN.D):=x.1.2.1
 let yC:List (fN.D):=x.2
 let yl:Int:=(↑(List.length y6):Int)
 bif decide (tn<yl) then
  let nc:(fN.D)×Unit:=Wh.q64' (List.getD y6 (Int.toNat tn) ((0:Int),(0:Int),(0:Int),(0:Int),()))
  let vT:List (fN.D):=List.set yC (Int.toNat tn) nc.1
  let nI:fN.D:=List.getD y6 (Int.toNat tn) ((0:Int),(0:Int),(0:Int),(0:Int),())
  bif iy [decide ((0:Int)≤tn),decide (tn<(↑(List.length yC):Int)),nQ (Wh.q64 nI),decide ((0:Int)≤tn),decide (tn<yl)] then
   some (.inl (((IntKind.wrap .i64 (tn+(1:Int))),y6,()),vT))
  else none
 else
  some (.inr ((),yC))
def Wh.US:(((Unit))×((List (fN.D)))):=default
def Wh.q40 (xs:(List (fN.D))):Option (((List (fN.D)))×(Unit)):=
 let cr:List (fN.D):=xs
 let za:List (fN.D):=@List.replicate (Int×Int×Int×Int×Unit) (Int.toNat (↑(List.length cr):Int)) ((0:Int),(0:Int),(0:Int),(0:Int),())
 let v_2:Int:=(↑(List.length cr):Int)
 bif iy [decide ((0:Int)≤v_2),decide (v_2≤v_2),decide (v_2≤(↑dh:Int))] then
  let x_21:Wh.P8:=(((0:Int),cr,()),za)
  bif lF Wh.DC x_21 then
   let CU:=kG Wh.DC Wh.US x_21
   let zJ:List (fN.D):=CU.2
   some (zJ,())
  else none
 else none
def Wh.q40':=eB Wh.q40
theorem Wh.q40_v:OV Wh.q40 Wh.q40':=fe _
def Wh.q89 (xs:(fT.D)):Option (((fT.D))×(Unit)):=
 let cr:fT.D:=xs
 some ((cr.1,cr.2.1,cr.2.2.1,(cr.2.2.2).1,cr.2.2.2.2.1,(cr.2.2.2.2.2).1,()),())
def Wh.q89':=eB Wh.q89
theorem Wh.q89_v:OV Wh.q89 Wh.q89':=fe _
abbrev Wh.Qr:Type:=((Int)×(List (fT.D))×(Unit))×((List (fT.D)))
abbrev Wh.aag:Type:=((((Unit))×((List (fT.D)))))
def Wh.DK (x:Wh.Qr):Option (Wh.Qr⊕Wh.aag):=
 let tn:=x.1.1
 let y6:List (fT.D):=x.1.2.1
 let yC:List (fT.D):=x.2
 let yl:Int:=(↑(List.length y6):Int)
 bif decide (tn<yl) then
  let nc:(fT.D)×Unit:=Wh.q89' (List.getD y6 (Int.toNat tn) ((0:Int),(0:Int),(0:Int),(0:Int),(0:Int),(0:Int),()))
  let vT:List (fT.D):=List.set yC (Int.toNat tn) nc.1
  let nI:fT.D:=List.getD y6 (Int.toNat tn) ((0:Int),(0:Int),(0:Int),(0:Int),(0:Int),(0:Int),())
  bif iy [decide ((0:Int)≤tn),decide (tn<(↑(List.length yC):Int)),nQ (Wh.q89 nI),decide ((0:Int)≤tn),decide (tn<yl)] then
   some (.inl (((IntKind.wrap .i64 (tn+(1:Int))),y6,()),vT))
  else none
 else
  some (.inr ((),yC))
def Wh.U_:(((Unit))×((List (fT.D)))):=default
def Wh.q66 (xs:(List (fT.D))):Option (((List (fT.D)))×(Unit)):=
 let cr:List (fT.D):=xs
 let za:List (fT.D):=@List.replicate (Int×Int×Int×Int×Int×Int×Unit) (Int.toNat (↑(List.length cr):Int)) ((0:Int),(0:Int),(0:Int),(0:Int),(0:Int),(0:Int),())
 let v_2:Int:=(↑(List.length cr):Int)
 bif iy [decide ((0:Int)≤v_2),decide (v_2≤v_2),decide (v_2≤(↑dh:Int))] then
  let x_21:Wh.Qr:=(((0:Int),cr,()),za)
  bif lF Wh.DK x_21 then
   let CU:=kG Wh.DK Wh.U_ x_21
   let zJ:List (fT.D):=CU.2
   some (zJ,())
  else none
 else none
def Wh.q66':=eB Wh.q66
theorem Wh.q66_v:OV Wh.q66 Wh.q66':=fe _
def Wh.BO (xs:(ct.D)):Option ((((Bool)×((Int)×((List UInt8)×(((Int)×((List (an.D))×(Unit)))×(((List (eA.D))×((Int)×(Unit)))×((List (fN.D))×((List (fT.D))×(Unit)))))))))×(Unit)):=
 let cr:ct.D:=xs
 let r_1:(bx.D)×Unit:=Wh.Pq ((cr.2.2.2).1)
 bif iy [nQ (Wh.EN ((cr.2.2.2).1))] then
  let r_2:(gd.D)×Unit:=Wh.OX (cr.2.2.2.2.1)
  bif iy [nQ (Wh.EB (cr.2.2.2.2.1))] then
   let r_3:List (fN.D)×Unit:=Wh.q40' ((cr.2.2.2.2.2).1)
   bif iy [nQ (Wh.q40 ((cr.2.2.2.2.2).1))] then
    let gz:List (fT.D)×Unit:=Wh.q66' ((cr.2.2.2.2.2).2.1)
    bif iy [nQ (Wh.q66 ((cr.2.2.2.2.2).2.1))] then
     some ((cr.1,cr.2.1,cr.2.2.1,r_1.1,r_2.1,r_3.1,gz.1,()),())
    else none
   else none
  else none
 else none
def Wh.q67':=eB Wh.BO
theorem Wh.q67_v:OV Wh.BO Wh.q67':=fe _
def Wh.xW (xs:(Int)×(Int)×(Int)):Option (((Bool))×(Unit)):=
 let yy:=xs.1
 let N4:=xs.2.1
 let NR:=xs.2.2
 let xY:=bif decide (yy≥N4) then decide (yy≤NR) else false
 some (xY,())
def Wh.yj:=eB Wh.xW
theorem Wh.zc:OV Wh.xW Wh.yj:=fe _
abbrev Wh.O_:Type:=((Int)×(Int)×(List UInt8))×(Unit)
abbrev Wh.Zw:Type:=((((Int))×(Unit))⊕((Unit)×(Unit)))
def Wh.BG (x:Wh.O_):Option (Wh.O_⊕Wh.Zw):=
 let GY:=x.1.1
 let b_11:=x.1.2.1
 let Fc:=x.1.2.2
 let DT:=decide (GY<(↑(List.length Fc):Int))
 bif DT then
  let nW:Int:=(↑(UInt8.toNat (List.getD Fc (Int.toNat GY) (0:UInt8))):Int)
  let yl:=nW==b_11
  bif iy [decide ((0:Int)≤GY),DT] then
   bif yl then
    some (.inr (.inl (GY,())))
   else
    some (.inl (((IntKind.wrap .i64 (GY+(1:Int))),b_11,Fc),()))
  else none
 else
  some (.inr (.inr ((),())))
def Wh.Uc:(((Int))×(Unit))⊕((Unit)×(Unit)):=.inl default
def Wh.y2 (xs:(List UInt8)×(Int)×(Int)):Option (((Int))×(Unit)):=
 let cx:=xs.1
 let zG:=xs.2.1
 let b_2:=xs.2.2
 let x_17:Wh.O_:=((zG,b_2,cx),())
 bif lF Wh.BG x_17 then
  sumC (kG Wh.BG Wh.Uc x_17) (fun Fm=>
   let nE:=Fm.1
   some (nE,())) (fun _=>
   some ((-1:Int),()))
 else none
def Wh.Ho:=eB Wh.y2
theorem Wh.BH:OV Wh.y2 Wh.Ho:=fe _
abbrev Wh.PJ:Type:=((Int)×(List UInt8)×(Int))×(Unit)
abbrev Wh.ZK:Type:=((((Int))×(Unit))⊕(((Int))×(Unit)))
def Wh.Dr (x:Wh.PJ):Option (Wh.PJ⊕Wh.ZK):=
 let zj:=x.1.1
 let s_18:=x.1.2.1
 let n_19:=x.1.2.2
 let nE:=decide (zj<(↑(List.length s_18):Int))
 bif nE then
  let w7:Int:=(↑(UInt8.toNat (List.getD s_18 (Int.toNat zj) (0:UInt8))):Int)
  let n5:=bif decide (w7<(48:Int)) then true else decide (w7>(57:Int))
  bif iy [!!decide (w7<(48:Int)) || decide ((0:Int)≤zj),!!decide (w7<(48:Int)) || nE,decide ((0:Int)≤zj),nE] then
   bif n5 then
    some (.inr (.inl ((-1:Int),())))
   else
    bif iy [decide ((0:Int)≤zj),nE] then
     some (.inl (((IntKind.wrap .i64 (zj+(1:Int))),s_18,(IntKind.wrap .i64 ((IntKind.wrap .i64 (n_19*(10:Int)))+IntKind.wrap .i64 (IntKind.wrap .u8 (w7-(48:Int)))))),()))
    else none
  else none
 else
  some (.inr (.inr (n_19,())))
def Wh.Uz:(((Int))×(Unit))⊕(((Int))×(Unit)):=.inl default
def Wh.AF (xs:(List UInt8)):Option (((Int))×(Unit)):=
 let cx:=xs
 let r_1:=Wh.yj ((↑(List.length cx):Int),(1:Int),(6:Int))
 let v_2:=bif !r_1.1 then true else bif decide ((↑(List.length cx):Int)>(1:Int)) then(↑(UInt8.toNat (List.getD cx (Int.toNat (0:Int)) (0:UInt8))):Int)==(48:Int) else false
 bif iy [!(decide ((↑(List.length cx):Int)>(1:Int)) && !!r_1.1) || decide ((0:Int)≤(0:Int)),!(decide ((↑(List.length cx):Int)>(1:Int)) && !!r_1.1) || decide ((0:Int)<(↑(List.length cx):Int)),nQ (Wh.xW ((↑(List.length cx):Int),(1:Int),(6:Int)))] then
  bif v_2 then
   some ((-1:Int),())
  else
   let x_31:Wh.PJ:=(((0:Int),cx,(0:Int)),())
   bif lF Wh.Dr x_31 then
    sumC (kG Wh.Dr Wh.Uz x_31) (fun y_32=>
     let A0:=y_32.1
     some (A0,())) (fun z_33=>
     let n_35:=z_33.1
     some (n_35,()))
   else none
 else none
def Wh.Hu:=eB Wh.AF
theorem Wh.EU:OV Wh.AF Wh.Hu:=fe _
def Wh.q28 (Vr:((Int))→Option (((List UInt8))×(Unit))) (LV:((Int))→((List UInt8))×(Unit)) (xs:(Int)):Option (((List UInt8))×(Unit)):=
 let yy:=xs
 bif decide (yy<(-9223372036854775807:Int)) then
  some ([(45:UInt8),(57:UInt8),(50:UInt8),(50:UInt8),(51:UInt8),(51:UInt8),(55:UInt8),(50:UInt8),(48:UInt8),(51:UInt8),(54:UInt8),(56:UInt8),(53:UInt8),(52:UInt8),(55:UInt8),(55:UInt8),(53:UInt8),(56:UInt8),(48:UInt8),(56:UInt8)],())
 else
  bif decide (yy<(0:Int)) then
   let r5:=IntKind.wrap .i64 ((0:Int)-yy)
   let Aa:xT.D:=LV r5
   let yX:List UInt8:=[(45:UInt8)]++Aa.1
   bif iy [decide ((1:Nat)+List.length ((LV r5).1)≤dh),nQ (Vr r5)] then
    some (yX,())
   else none
  else
   bif decide (yy<(10:Int)) then
    let OC:List Int:=[IntKind.wrap .u8 (IntKind.wrap .i64 ((48:Int)+yy))]
    some (qp OC,())
   else
    let pb_12:List Int:=[IntKind.wrap .u8 (IntKind.wrap .i64 ((48:Int)+Int.tmod yy (10:Int)))]
    let DT:=IntKind.wrap .i64 (Int.tdiv yy (10:Int))
    let yL:xT.D:=LV DT
    let w7:=yL.1++qp pb_12
    bif iy [decide (List.length ((LV DT).1)+(1:Nat)≤dh),true,nQ (Vr DT),true] then
     some (w7,())
    else none
def Wh.AI:Nat→((Int))→Option (((List UInt8))×(Unit))
 |0,_=>none
 |n+1,xs=>Wh.q28 (Wh.AI n) (fun x=>match Wh.AI n x with | some y=>y|none=>default) xs
theorem Wh.PB (n:Nat):Wh.AI (n+1)=Wh.q28 (Wh.AI n) (fun x=>match Wh.AI n x with | some y=>y|none=>default):=rfl
def Wh.BJ (xs:(Int)):Option (((List UInt8))×(Unit)):=Wh.AI 20 xs
def Wh.Bc:=eB Wh.BJ
theorem Wh.Lu:OV Wh.BJ Wh.Bc:=fe _
abbrev Wh.Qx:Type:=((Int)×(Int)×(Unit))×((List (Int)))
abbrev Wh.aak:Type:=((((Unit))×((List (Int)))))
def Wh.E5 (x:Wh.Qx):Option (Wh.Qx⊕Wh.aak):=
 let ye:=x.1.1
 let n_28:=x.1.2.1
 let N9:=x.2
 bif decide (ye≥(0:Int)) then
  let so:List Int:=[IntKind.wrap .u8 (Int.fdiv n_28 ((2:Int) ^ Min.min (Int.toNat (IntKind.wrap .i64 ((8:Int)*ye))) (Go.IntKind.bits Go.IntKind.i64)))]
  let y_:=N9++so
  bif iy [decide (List.length N9+(1:Nat)≤dh),decide ((0:Int)≤(IntKind.wrap .i64 ((8:Int)*ye)))] then
   some (.inl (((IntKind.wrap .i64 (ye-(1:Int))),n_28,()),y_))
  else none
 else
  some (.inr ((),N9))
def Wh.Vd:(((Unit))×((List (Int)))):=default
abbrev Wh.Qw:Type:=((Unit)×(List UInt8))×((List (Int)))
abbrev Wh.aaj:Type:=((((Unit)×(List UInt8))×((List (Int)))))
def Wh.DL (x:Wh.Qw):Option (Wh.Qw⊕Wh.aaj):=
 let VK:=x.1.2
 let KW:=x.2
 let Ad:Bool:=(Int.tmod (↑(List.length KW):Int) (64:Int)) != (56:Int)
 bif Ad then
  let G5:=KW ++ [(0:Int)]
  bif iy [decide (List.length KW+(1:Nat)≤dh)] then
   some (.inl (((),VK),G5))
  else none
 else
  some (.inr (((),VK),KW))
def Wh.Vc:(((Unit)×(List UInt8))×((List (Int)))):=default
def Wh.q72 (xs:(List UInt8)):Option (((List (Int)))×(Unit)):=
 let yM:=xs
 let za:List Int:=bytesOf yM ++ [(128:Int)]
 bif iy [decide (List.length (bytesOf yM)+(1:Nat)≤dh),decide (List.length yM≤dh)] then
  let x_12:Wh.Qw:=(((),yM),za)
  bif lF Wh.DL x_12 then
   let y_13:=kG Wh.DL Wh.Vc x_12
   let acj:=y_13.1.2
   let yh:=y_13.2
   let x_37:Wh.Qx:=(((7:Int),(IntKind.wrap .i64 ((↑(List.length acj):Int)*(8:Int))),()),yh)
   bif lF Wh.E5 x_37 then
    let y_38:=kG Wh.E5 Wh.Vd x_37
    let C8:=y_38.2
    some (C8,())
   else none
  else none
 else none
def Wh.q72':=eB Wh.q72
theorem Wh.q72_v:OV Wh.q72 Wh.q72':=fe _
def Wh.yd (xs:(Int)×(Int)):Option (((Int))×(Unit)):=
 let yu:=xs.1
 let n_1:=xs.2
 let v_2:Int:=Int.fdiv yu ((2:Int) ^ Min.min (Int.toNat n_1) (Go.IntKind.bits Go.IntKind.u32))
 let r5:=IntKind.wrap .i64 ((32:Int)-n_1)
 let zh:Int:=nj Go.BinOp.or Go.IntKind.u32 v_2 (IntKind.wrap .u32 (yu*(2:Int) ^ Min.min (Int.toNat r5) (Go.IntKind.bits Go.IntKind.u32)))
 bif iy [decide ((0:Int)≤r5),decide ((0:Int)≤n_1)] then
  some (zh,())
 else none
def Wh.zp:=eB Wh.yd
theorem Wh.q117_v:OV Wh.yd Wh.zp:=fe _
abbrev Wh.QO:Type:=((Int)×(Unit))×((List (Int)))
abbrev Wh.aaw:Type:=((((Unit))×((List (Int)))))
def Wh.E_ (x:Wh.QO):Option (Wh.QO⊕Wh.aaw):=
 let C3:=x.1.1
 let A9:=x.2
 bif decide (C3<(64:Int)) then
  let HY:=IntKind.wrap .i64 (C3-(15:Int))
  let Ic:=List.getD A9 (Int.toNat HY) (0:Int)
  bif iy [decide ((0:Int)≤HY),decide (HY<(↑(List.length A9):Int))] then
   let v_99:=IntKind.wrap .i64 (C3-(2:Int))
   let Ie:=List.getD A9 (Int.toNat v_99) (0:Int)
   bif iy [decide ((0:Int)≤v_99),decide (v_99<(↑(List.length A9):Int))] then
    let r_102:=Wh.zp (Ic,(7:Int))
    let QS:=Wh.zp (Ic,(18:Int))
    let v_105:Int:=Int.fdiv Ic ((2:Int) ^ Min.min (Int.toNat (3:Int)) (Go.IntKind.bits Go.IntKind.u32))
    let a_107:Int:=nj Go.BinOp.xor Go.IntKind.u32 (nj Go.BinOp.xor Go.IntKind.u32 r_102.1 QS.1) v_105
    bif iy [true,nQ (Wh.yd (Ic,(18:Int))),nQ (Wh.yd (Ic,(7:Int)))] then
     let r_108:=Wh.zp (Ie,(17:Int))
     let HE:=Wh.zp (Ie,(19:Int))
     let v_111:Int:=Int.fdiv Ie ((2:Int) ^ Min.min (Int.toNat (10:Int)) (Go.IntKind.bits Go.IntKind.u32))
     let c_113:Int:=nj Go.BinOp.xor Go.IntKind.u32 (nj Go.BinOp.xor Go.IntKind.u32 r_108.1 HE.1) v_111
     bif iy [true,nQ (Wh.yd (Ie,(19:Int))),nQ (Wh.yd (Ie,(17:Int)))] then
      let pb_114:List Int:=[IntKind.wrap .u32 (IntKind.wrap .u32 (IntKind.wrap .u32 (List.getD A9 (Int.toNat (IntKind.wrap .i64 (C3-(16:Int)))) (0:Int)+a_107)+List.getD A9 (Int.toNat (IntKind.wrap .i64 (C3-(7:Int)))) (0:Int))+c_113)]
      let ls_115:=A9++pb_114
      let v_116:=IntKind.wrap .i64 (C3-(16:Int))
      let L5:=IntKind.wrap .i64 (C3-(7:Int))
      bif iy [decide (List.length A9+(1:Nat)≤dh),decide ((0:Int)≤L5),decide (L5<(↑(List.length A9):Int)),decide ((0:Int)≤v_116),decide (v_116<(↑(List.length A9):Int))] then
       some (.inl (((IntKind.wrap .i64 (C3+(1:Int))),()),ls_115))
      else none
     else none
    else none
   else none
  else none
 else
  some (.inr ((),A9))
def Wh.Vn:(((Unit))×((List (Int)))):=default
abbrev Wh.QN:Type:=((Int)×(List (Int))×(Unit))×((List (Int)))
abbrev Wh.aav:Type:=((((Unit))×((List (Int)))))
def Wh.E9 (x:Wh.QN):Option (Wh.QN⊕Wh.aav):=
 let Eh:=x.1.1
 let B5:=x.1.2.1
 let y_:=x.2
 bif decide (Eh<(16:Int)) then
  let Lb:List Int:=[nj Go.BinOp.or Go.IntKind.u32 (nj Go.BinOp.or Go.IntKind.u32 (nj Go.BinOp.or Go.IntKind.u32 (IntKind.wrap .u32 (IntKind.wrap .u32 (List.getD B5 (Int.toNat (IntKind.wrap .i64 ((4:Int)*Eh))) (0:Int))*(2:Int) ^ Min.min (Int.toNat (24:Int)) (Go.IntKind.bits Go.IntKind.u32))) (IntKind.wrap .u32 (IntKind.wrap .u32 (List.getD B5 (Int.toNat (IntKind.wrap .i64 (IntKind.wrap .i64 ((4:Int)*Eh)+(1:Int)))) (0:Int))*(2:Int) ^ Min.min (Int.toNat (16:Int)) (Go.IntKind.bits Go.IntKind.u32)))) (IntKind.wrap .u32 (IntKind.wrap .u32 (List.getD B5 (Int.toNat (IntKind.wrap .i64 (IntKind.wrap .i64 ((4:Int)*Eh)+(2:Int)))) (0:Int))*(2:Int) ^ Min.min (Int.toNat (8:Int)) (Go.IntKind.bits Go.IntKind.u32)))) (IntKind.wrap .u32 (List.getD B5 (Int.toNat (IntKind.wrap .i64 (IntKind.wrap .i64 ((4:Int)*Eh)+(3:Int)))) (0:Int)))]
  let Aq:=y_++Lb
  let yp:=IntKind.wrap .i64 ((4:Int)*Eh)
  bif iy [decide (List.length y_+(1:Nat)≤dh),decide ((0:Int)≤IntKind.wrap .i64 (yp+(3:Int))),decide (IntKind.wrap .i64 (yp+(3:Int))<(↑(List.length B5):Int)),true,decide ((0:Int)≤IntKind.wrap .i64 (yp+(2:Int))),decide (IntKind.wrap .i64 (yp+(2:Int))<(↑(List.length B5):Int)),true,decide ((0:Int)≤IntKind.wrap .i64 (yp+(1:Int))),decide (IntKind.wrap .i64 (yp+(1:Int))<(↑(List.length B5):Int)),true,decide ((0:Int)≤yp),decide (yp<(↑(List.length B5):Int))] then
   some (.inl (((IntKind.wrap .i64 (Eh+(1:Int))),B5,()),Aq))
  else none
 else
  some (.inr ((),y_))
def Wh.Vm:(((Unit))×((List (Int)))):=default
def Wh.q98 (xs:(List (Int))):Option (((List (Int)))×(Unit)):=
 let yH:=xs
 let x_59:Wh.QN:=(((0:Int),yH,()),[])
 bif lF Wh.E9 x_59 then
  let y_60:=kG Wh.E9 Wh.Vm x_59
  let ls_61:=y_60.2
  let x_124:Wh.QO:=(((16:Int),()),ls_61)
  bif lF Wh.E_ x_124 then
   let y_125:=kG Wh.E_ Wh.Vn x_124
   let ls_126:=y_125.2
   some (ls_126,())
  else none
 else none
def Wh.q98':=eB Wh.q98
theorem Wh.q98_v:OV Wh.q98 Wh.q98':=fe _
def Wh.q71 (_:Unit):Option (((List (Int)))×(Unit)):=
 let pb_0:List Int:=[(1116352408:Int),(1899447441:Int),(3049323471:Int),(3921009573:Int),(961987163:Int),(1508970993:Int),(2453635748:Int),(2870763221:Int),(3624381080:Int),(310598401:Int),(607225278:Int),(1426881987:Int),(1925078388:Int),(2162078206:Int),(2614888103:Int),(3248222580:Int),(3835390401:Int),(4022224774:Int),(264347078:Int),(604807628:Int),(770255983:Int),(1249150122:Int),(1555081692:Int),(1996064986:Int),(2554220882:Int),(2821834349:Int),(2952996808:Int),(3210313671:Int),(3336571891:Int),(3584528711:Int),(113926993:Int),(338241895:Int),(666307205:Int),(773529912:Int),(1294757372:Int),(1396182291:Int),(1695183700:Int),(1986661051:Int),(2177026350:Int),(2456956037:Int),(2730485921:Int),(2820302411:Int),(3259730800:Int),(3345764771:Int),(3516065817:Int),(3600352804:Int),(4094571909:Int),(275423344:Int),(430227734:Int),(506948616:Int),(659060556:Int),(883997877:Int),(958139571:Int),(1322822218:Int),(1537002063:Int),(1747873779:Int),(1955562222:Int),(2024104815:Int),(2227730452:Int),(2361852424:Int),(2428436474:Int),(2756734187:Int),(3204031479:Int),(3329325298:Int)]
 some (pb_0,())
def Wh.q71':=eB Wh.q71
theorem Wh.q71_v:OV Wh.q71 Wh.q71':=fe _
abbrev Wh.QM:Type:=((Int)×(Unit)×(List (Int))×(Unit))×((List (Int))×(List (Int)))
abbrev Wh.aau:Type:=((((Unit))×((List (Int)))))
def Wh.HD (x:Wh.QM):Option (Wh.QM⊕Wh.aau):=
 let C0:=x.1.1
 let NP:List Int:=(x.1.2.2).1
 let N7:=x.2.1
 let N8:=x.2.2
 bif decide (C0<(8:Int)) then
  let pb_193:List Int:=[IntKind.wrap .u32 (List.getD NP (Int.toNat C0) (0:Int)+List.getD N7 (Int.toNat C0) (0:Int))]
  let ls_194:=N8++pb_193
  bif iy [decide (List.length N8+(1:Nat)≤dh),decide ((0:Int)≤C0),decide (C0<(↑(List.length N7):Int)),decide ((0:Int)≤C0),decide (C0<(↑(List.length NP):Int))] then
   some (.inl (((IntKind.wrap .i64 (C0+(1:Int))),(),NP,()),N7,ls_194))
  else none
 else
  some (.inr ((),N8))
def Wh.Vl:(((Unit))×((List (Int)))):=default
abbrev Wh.QK:Type:=((Int)×(Unit)×(Unit)×(Unit)×(List (Int))×(Int)×(Int)×(Int)×(Int))×((List (Int))×(List (Int))×(List (Int)))
abbrev Wh.aat:Type:=((((Unit)×(Unit)×(Unit)×(List (Int))×(Int)×(Int)×(Int)×(Int))×((List (Int))×(List (Int))×(List (Int)))))
def Wh.HC (x:Wh.QK):Option (Wh.QK⊕Wh.aat):=
 let FN:=x.1.1
 let h_73:List Int:=(x.1.2.2.2.2).1
 let i_74:Int:=(x.1.2.2.2.2).2.1
 let Tv:Int:=(x.1.2.2.2.2).2.2.1
 let a_76:Int:=(x.1.2.2.2.2).2.2.2.1
 let t_77:Int:=(x.1.2.2.2.2).2.2.2.2
 let G8:=x.2.1
 let ls_79:=x.2.2.1
 let ls_80:=x.2.2.2
 bif decide (FN>(0:Int)) then
  let ls_82:=List.set G8 (Int.toNat FN) (List.getD G8 (Int.toNat (IntKind.wrap .i64 (FN-(1:Int)))) (0:Int))
  let v_83:=IntKind.wrap .i64 (FN-(1:Int))
  bif iy [decide ((0:Int)≤FN),decide (FN<(↑(List.length G8):Int)),decide ((0:Int)≤v_83),decide (v_83<(↑(List.length G8):Int))] then
   some (.inl ((v_83,(),(),(),h_73,i_74,Tv,a_76,t_77),ls_82,ls_79,ls_80))
  else none
 else
  some (.inr (((),(),(),h_73,i_74,Tv,a_76,t_77),G8,ls_79,ls_80))
def Wh.QL:(((Unit)×(Unit)×(Unit)×(List (Int))×(Int)×(Int)×(Int)×(Int))×((List (Int))×(List (Int))×(List (Int)))):=default
abbrev Wh.QJ:Type:=((Unit)×(Int)×(Unit)×(Unit)×(List (Int)))×((List (Int))×(List (Int))×(List (Int)))
abbrev Wh.aas:Type:=((((Unit)×(List (Int)))×((List (Int)))))
def Wh.E8 (x:Wh.QJ):Option (Wh.QJ⊕Wh.aas):=
 let CY:=x.1.2.1
 let h_103:=x.1.2.2.2.2
 let yg:=x.2.1
 let N5:=x.2.2.1
 let N6:=x.2.2.2
 bif decide (CY<(64:Int)) then
  let BW:=List.getD yg (Int.toNat (4:Int)) (0:Int)
  let r_119:=Wh.zp (BW,(6:Int))
  let r_120:=Wh.zp (BW,(11:Int))
  let r_121:=Wh.zp (BW,(25:Int))
  let e_122:Int:=nj Go.BinOp.xor Go.IntKind.u32 (nj Go.BinOp.xor Go.IntKind.u32 r_119.1 r_120.1) r_121.1
  bif iy [nQ (Wh.yd (BW,(25:Int))),true,decide ((4:Int)<(↑(List.length yg):Int)),nQ (Wh.yd (BW,(11:Int))),true,decide ((4:Int)<(↑(List.length yg):Int)),nQ (Wh.yd (BW,(6:Int))),true,decide ((4:Int)<(↑(List.length yg):Int))] then
   let v_123:=List.getD yg (Int.toNat (5:Int)) (0:Int)
   let v_124:=List.getD yg (Int.toNat (6:Int)) (0:Int)
   let ch_127:Int:=nj Go.BinOp.xor Go.IntKind.u32 (nj Go.BinOp.and Go.IntKind.u32 BW v_123) (nj Go.BinOp.and Go.IntKind.u32 (nj Go.BinOp.xor Go.IntKind.u32 (Go.IntKind.max Go.IntKind.u32) BW) v_124)
   bif iy [true,decide ((6:Int)<(↑(List.length yg):Int)),true,decide ((4:Int)<(↑(List.length yg):Int)),true,decide ((5:Int)<(↑(List.length yg):Int)),true,decide ((4:Int)<(↑(List.length yg):Int))] then
    let v_128:=List.getD yg (Int.toNat (7:Int)) (0:Int)
    let v_131:=List.getD N6 (Int.toNat CY) (0:Int)
    let v_133:=List.getD N5 (Int.toNat CY) (0:Int)
    bif iy [decide ((0:Int)≤CY),decide (CY<(↑(List.length N5):Int)),decide ((0:Int)≤CY),decide (CY<(↑(List.length N6):Int)),true,decide ((7:Int)<(↑(List.length yg):Int))] then
     let DU:=List.getD yg (Int.toNat (0:Int)) (0:Int)
     let r_147:=Wh.zp (DU,(2:Int))
     let r_148:=Wh.zp (DU,(13:Int))
     let r_149:=Wh.zp (DU,(22:Int))
     let a_150:Int:=nj Go.BinOp.xor Go.IntKind.u32 (nj Go.BinOp.xor Go.IntKind.u32 r_147.1 r_148.1) r_149.1
     bif iy [nQ (Wh.yd (DU,(22:Int))),true,decide ((0:Int)<(↑(List.length yg):Int)),nQ (Wh.yd (DU,(13:Int))),true,decide ((0:Int)<(↑(List.length yg):Int)),nQ (Wh.yd (DU,(2:Int))),true,decide ((0:Int)<(↑(List.length yg):Int))] then
      let v_151:=List.getD yg (Int.toNat (1:Int)) (0:Int)
      let v_152:=List.getD yg (Int.toNat (2:Int)) (0:Int)
      let X_:Int:=nj Go.BinOp.xor Go.IntKind.u32 (nj Go.BinOp.xor Go.IntKind.u32 (nj Go.BinOp.and Go.IntKind.u32 DU v_151) (nj Go.BinOp.and Go.IntKind.u32 DU v_152)) (nj Go.BinOp.and Go.IntKind.u32 v_151 v_152)
      bif iy [true,decide ((2:Int)<(↑(List.length yg):Int)),true,decide ((1:Int)<(↑(List.length yg):Int)),true,decide ((2:Int)<(↑(List.length yg):Int)),true,decide ((0:Int)<(↑(List.length yg):Int)),true,decide ((1:Int)<(↑(List.length yg):Int)),true,decide ((0:Int)<(↑(List.length yg):Int))] then
       let x_156:Wh.QK:=(((7:Int),(),(),(),h_103,CY,X_,a_150,(IntKind.wrap .u32 (IntKind.wrap .u32 (IntKind.wrap .u32 (IntKind.wrap .u32 (v_128+e_122)+ch_127)+v_131)+v_133))),yg,N5,N6)
       bif lF Wh.HC x_156 then
        let D0:=kG Wh.HC Wh.QL x_156
        let h_158:=D0.1.2.2.2.1
        let i_159:Int:=(D0.1.2.2.2.2).1
        let Ya:Int:=(D0.1.2.2.2.2).2.1
        let a_161:Int:=(D0.1.2.2.2.2).2.2.1
        let t_162:Int:=(D0.1.2.2.2.2).2.2.2
        let KS:=D0.2.1
        let ls_164:=D0.2.2.1
        let ls_165:=D0.2.2.2
        let SD:=List.set KS (Int.toNat (4:Int)) (IntKind.wrap .u32 (List.getD KS (Int.toNat (4:Int)) (0:Int)+t_162))
        bif iy [true,decide ((4:Int)<(↑(List.length KS):Int)),true,decide ((4:Int)<(↑(List.length KS):Int))] then
         let ls_169:=List.set SD (Int.toNat (0:Int)) (IntKind.wrap .u32 (IntKind.wrap .u32 (t_162+a_161)+Ya))
         bif iy [true,decide ((0:Int)<(↑(List.length SD):Int))] then
          some (.inl (((),(IntKind.wrap .i64 (i_159+(1:Int))),(),(),h_158),ls_169,ls_164,ls_165))
         else none
        else none
       else none
      else none
     else none
    else none
   else none
  else none
 else
  some (.inr (((),h_103),yg))
def Wh.Vk:(((Unit)×(List (Int)))×((List (Int)))):=default
def Wh.q96 (xs:(List (Int))×(List (Int))):Option (((List (Int)))×(Unit)):=
 let h_0:=xs.1
 let b_1:=xs.2
 let r_2:List Int×Unit:=Wh.q98' b_1
 bif iy [nQ (Wh.q98 b_1)] then
  let r_3:List Int×Unit:=Wh.q71' ()
  bif iy [nQ (Wh.q71 ())] then
   let Hf:List Int:=[]++h_0
   bif iy [decide ((0:Nat)+List.length h_0≤dh)] then
    let x_173:Wh.QJ:=(((),(0:Int),(),(),h_0),Hf,r_2.1,r_3.1)
    bif lF Wh.E8 x_173 then
     let y_174:=kG Wh.E8 Wh.Vk x_173
     let h_175:=y_174.1.2
     let ls_176:=y_174.2
     let x_199:Wh.QM:=(((0:Int),(),h_175,()),ls_176,[])
     bif lF Wh.HD x_199 then
      let y_200:=kG Wh.HD Wh.Vl x_199
      let ls_201:=y_200.2
      some (ls_201,())
     else none
    else none
   else none
  else none
 else none
def Wh.q96':=eB Wh.q96
theorem Wh.q96_v:OV Wh.q96 Wh.q96':=fe _
abbrev Wh.PG:Type:=((Int)×(Unit)×(Unit))×((List (Int))×(List (Int)))
abbrev Wh.ZI:Type:=((((Unit))×((List (Int)))))
def Wh.Hs (x:Wh.PG):Option (Wh.PG⊕Wh.ZI):=
 let Am:=x.1.1
 let x9:=x.2.1
 let Aq:=x.2.2
 bif decide (Am<(8:Int)) then
  let OD:List Int:=[IntKind.wrap .u8 (Int.fdiv (List.getD x9 (Int.toNat Am) (0:Int)) ((2:Int) ^ Min.min (Int.toNat (24:Int)) (Go.IntKind.bits Go.IntKind.u32))),IntKind.wrap .u8 (Int.fdiv (List.getD x9 (Int.toNat Am) (0:Int)) ((2:Int) ^ Min.min (Int.toNat (16:Int)) (Go.IntKind.bits Go.IntKind.u32))),IntKind.wrap .u8 (Int.fdiv (List.getD x9 (Int.toNat Am) (0:Int)) ((2:Int) ^ Min.min (Int.toNat (8:Int)) (Go.IntKind.bits Go.IntKind.u32))),IntKind.wrap .u8 (List.getD x9 (Int.toNat Am) (0:Int))]
  let zm:=Aq++OD
  bif iy [decide (List.length Aq+(4:Nat)≤dh),decide ((0:Int)≤Am),decide (Am<(↑(List.length x9):Int)),true,decide ((0:Int)≤Am),decide (Am<(↑(List.length x9):Int)),true,decide ((0:Int)≤Am),decide (Am<(↑(List.length x9):Int)),true,decide ((0:Int)≤Am),decide (Am<(↑(List.length x9):Int))] then
   some (.inl (((IntKind.wrap .i64 (Am+(1:Int))),(),()),x9,zm))
  else none
 else
  some (.inr ((),Aq))
def Wh.Uw:(((Unit))×((List (Int)))):=default
abbrev Wh.PF:Type:=((Int)×(Unit)×(Unit))×((List (Int))×(List (Int)))
abbrev Wh.ZH:Type:=((((Unit))×((List (Int)))))
def Wh.Dp (x:Wh.PF):Option (Wh.PF⊕Wh.ZH):=
 let zY:=x.1.1
 let C7:=x.2.1
 let G5:=x.2.2
 bif decide (zY<(↑(List.length C7):Int)) then
  let DQ:List Int×Unit:=Wh.q96' (G5,List.take (Int.toNat (IntKind.wrap .i64 (zY+(64:Int))-zY)) (List.drop (Int.toNat zY) C7))
  let nW:=IntKind.wrap .i64 (zY+(64:Int))
  bif iy [nQ (Wh.q96 (G5,List.take (Int.toNat (nW-zY)) (List.drop (Int.toNat zY) C7))),decide ((0:Int)≤zY),decide (zY≤nW),decide (nW≤(↑(List.length C7):Int))] then
   some (.inl ((nW,(),()),C7,DQ.1))
  else none
 else
  some (.inr ((),G5))
def Wh.Uv:(((Unit))×((List (Int)))):=default
def Wh.ET (xs:(List UInt8)):Option (((List UInt8))×(Unit)):=
 let yM:=xs
 let r_1:List Int×Unit:=Wh.q72' yM
 bif iy [nQ (Wh.q72 yM)] then
  let x_16:Wh.PF:=(((0:Int),(),()),r_1.1,[(1779033703:Int),(3144134277:Int),(1013904242:Int),(2773480762:Int),(1359893119:Int),(2600822924:Int),(528734635:Int),(1541459225:Int)])
  bif lF Wh.Dp x_16 then
   let y_17:=kG Wh.Dp Wh.Uv x_16
   let vT:=y_17.2
   let x_47:Wh.PG:=(((0:Int),(),()),vT,[])
   bif lF Wh.Hs x_47 then
    let y_48:=kG Wh.Hs Wh.Uw x_47
    let ls_49:=y_48.2
    some (qp ls_49,())
   else none
  else none
 else none
def Wh.PE:=eB Wh.ET
theorem Wh.Ux:OV Wh.ET Wh.PE:=fe _
abbrev Wh.PC:Type:=((Int)×(List UInt8)×(Unit))×((List (Int)))
abbrev Wh.ZG:Type:=((((Unit))×((List (Int)))))
def Wh.Dn (x:Wh.PC):Option (Wh.PC⊕Wh.ZG):=
 let zH:=x.1.1
 let Bh:=x.1.2.1
 let yh:=x.2
 let xP:=decide (zH<(↑(List.length Bh):Int))
 bif xP then
  let Es:List Int:=[(↑(UInt8.toNat (List.getD [(48:UInt8),(49:UInt8),(50:UInt8),(51:UInt8),(52:UInt8),(53:UInt8),(54:UInt8),(55:UInt8),(56:UInt8),(57:UInt8),(97:UInt8),(98:UInt8),(99:UInt8),(100:UInt8),(101:UInt8),(102:UInt8)] (Int.toNat (IntKind.wrap .u8 (Int.tdiv (↑(UInt8.toNat (List.getD Bh (Int.toNat zH) (0:UInt8))):Int) (16:Int)))) (0:UInt8))):Int),(↑(UInt8.toNat (List.getD [(48:UInt8),(49:UInt8),(50:UInt8),(51:UInt8),(52:UInt8),(53:UInt8),(54:UInt8),(55:UInt8),(56:UInt8),(57:UInt8),(97:UInt8),(98:UInt8),(99:UInt8),(100:UInt8),(101:UInt8),(102:UInt8)] (Int.toNat (Int.tmod (↑(UInt8.toNat (List.getD Bh (Int.toNat zH) (0:UInt8))):Int) (16:Int))) (0:UInt8))):Int)]
  let vT:=yh++Es
  let nI:Int:=(↑(UInt8.toNat (List.getD Bh (Int.toNat zH) (0:UInt8))):Int)
  bif iy [decide (List.length yh+(2:Nat)≤dh),decide ((0:Int)≤Int.tmod nI (16:Int)),decide (Int.tmod nI (16:Int)<(↑(16:Nat):Int)),true,decide ((0:Int)≤zH),xP,decide ((0:Int)≤IntKind.wrap .u8 (Int.tdiv nI (16:Int))),decide (IntKind.wrap .u8 (Int.tdiv nI (16:Int))<(↑(16:Nat):Int)),true,decide ((0:Int)≤zH),xP] then
   some (.inl (((IntKind.wrap .i64 (zH+(1:Int))),Bh,()),vT))
  else none
 else
  some (.inr ((),yh))
def Wh.Uu:(((Unit))×((List (Int)))):=default
def Wh.Dm (xs:(List UInt8)):Option (((List UInt8))×(Unit)):=
 let cx:=xs
 let x_25:Wh.PC:=(((0:Int),cx,()),[])
 bif lF Wh.Dn x_25 then
  let Ae:=kG Wh.Dn Wh.Uu x_25
  let yT:=Ae.2
  some (qp yT,())
 else none
def Wh.Lv:=eB Wh.Dm
theorem Wh.PD:OV Wh.Dm Wh.Lv:=fe _
def Wh.q91 (xs:(List UInt8)):Option (((List UInt8))×(Unit)):=
 let yM:=xs
 let r_1:xT.D:=Wh.PE yM
 let r_3:xT.D:=Wh.Lv r_1.1
 bif iy [nQ (Wh.Dm r_1.1),nQ (Wh.ET yM)] then
  some (r_3.1,())
 else none
def Wh.DP:=eB Wh.q91
theorem Wh.q91_v:OV Wh.q91 Wh.DP:=fe _
def Wh.De (xs:(Int)×(List UInt8)):Option (((List UInt8))×(Unit)):=
 let yy:=xs.1
 let xb:=xs.2
 let r_2:xT.D:=Wh.Bc yy
 let gz:xT.D:=Wh.Bc (↑(List.length xb):Int)
 let zX:=r_2.1 ++ [(32:UInt8)]++gz.1 ++ [(32:UInt8)]
 bif iy [decide (List.length (r_2.1 ++ [(32:UInt8)]++gz.1)+(1:Nat)≤dh),decide (List.length (r_2.1 ++ [(32:UInt8)])+List.length gz.1≤dh),nQ (Wh.BJ (↑(List.length xb):Int)),decide (List.length r_2.1+(1:Nat)≤dh),nQ (Wh.BJ yy)] then
  let yX:List UInt8:=zX++xb
  let yL:xT.D:=Wh.DP yX
  let w7:List UInt8:=zX++List.take (Int.toNat ((16:Int)-(0:Int))) (List.drop (Int.toNat (0:Int)) yL.1) ++ [(32:UInt8)]++xb ++ [(10:UInt8)]
  bif iy [decide (List.length (zX++List.take (Int.toNat ((16:Int)-(0:Int))) (List.drop (Int.toNat (0:Int)) ((Wh.DP yX).1)) ++ [(32:UInt8)]++xb)+(1:Nat)≤dh),decide (List.length (zX++List.take (Int.toNat ((16:Int)-(0:Int))) (List.drop (Int.toNat (0:Int)) ((Wh.DP yX).1)) ++ [(32:UInt8)])+List.length xb≤dh),decide (List.length (zX++List.take (Int.toNat ((16:Int)-(0:Int))) (List.drop (Int.toNat (0:Int)) ((Wh.DP yX).1)))+(1:Nat)≤dh),decide (List.length zX+List.length (List.take (Int.toNat ((16:Int)-(0:Int))) (List.drop (Int.toNat (0:Int)) ((Wh.DP yX).1)))≤dh),true,true,decide ((16:Int)≤(↑(List.length ((Wh.DP yX).1)):Int)),nQ (Wh.q91 yX),decide (List.length zX+List.length xb≤dh)] then
   some (w7,())
  else none
 else none
def Wh.Hp:=eB Wh.De
theorem Wh.Lh:OV Wh.De Wh.Hp:=fe _
def Wh.Cj (xs:(List UInt8)×(Int)×(Int)):Option (((List UInt8)×(Int))×(Unit)):=
 let vN:=xs.1
 let zG:=xs.2.1
 let Ov:=xs.2.2
 let r_3:=Wh.Ho (vN,zG,(32:Int))
 bif iy [nQ (Wh.y2 (vN,zG,(32:Int)))] then
  let yq:=decide (r_3.1<(0:Int))
  let xX:=Wh.Hu (List.take (Int.toNat (r_3.1-zG)) (List.drop (Int.toNat zG) vN))
  let zh:=bif yq then true else xX.1 != Ov
  bif iy [!!yq || nQ (Wh.AF (List.take (Int.toNat (r_3.1-zG)) (List.drop (Int.toNat zG) vN))),!!yq || decide ((0:Int)≤zG),!!yq || decide (zG≤r_3.1),!!yq || decide (r_3.1≤(↑(List.length vN):Int))] then
   bif zh then
    some (([],(0:Int)),())
   else
    let y4:=IntKind.wrap .i64 (r_3.1+(1:Int))
    let zq:=Wh.Ho (vN,y4,(32:Int))
    bif iy [nQ (Wh.y2 (vN,y4,(32:Int)))] then
     bif decide (zq.1<(0:Int)) then
      some (([],(0:Int)),())
     else
      let DQ:=Wh.Hu (List.take (Int.toNat (zq.1-y4)) (List.drop (Int.toNat y4) vN))
      bif iy [nQ (Wh.AF (List.take (Int.toNat (zq.1-y4)) (List.drop (Int.toNat y4) vN))),decide ((0:Int)≤y4),decide (y4≤zq.1),decide (zq.1≤(↑(List.length vN):Int))] then
       let nW:=IntKind.wrap .i64 (zq.1+(18:Int))
       let LO:=Wh.yj (DQ.1,(1:Int),(500:Int))
       let xP:=bif !LO.1 then true else decide (IntKind.wrap .i64 (IntKind.wrap .i64 (nW+DQ.1)+(1:Int))>(↑(List.length vN):Int))
       bif iy [nQ (Wh.xW (DQ.1,(1:Int),(500:Int)))] then
        bif xP then
         some (([],(0:Int)),())
        else
         let x7:=IntKind.wrap .i64 (nW+DQ.1)
         let yL:xT.D:=Wh.Hp (Ov,List.take (Int.toNat (x7-nW)) (List.drop (Int.toNat nW) vN))
         bif iy [nQ (Wh.De (Ov,List.take (Int.toNat (x7-nW)) (List.drop (Int.toNat nW) vN))),decide ((0:Int)≤nW),decide (nW≤x7),decide (x7≤(↑(List.length vN):Int))] then
          bif iy [decide ((0:Int)≤zG),decide (zG≤IntKind.wrap .i64 (x7+(1:Int))),decide (IntKind.wrap .i64 (x7+(1:Int))≤(↑(List.length vN):Int))] then
           bif(!List.take (Int.toNat (IntKind.wrap .i64 (x7+(1:Int))-zG)) (List.drop (Int.toNat zG) vN)==yL.1) then
            some (([],(0:Int)),())
           else
            let AK:Int:=(↑(List.length yL.1):Int)
            let n_:List UInt8:=List.take (Int.toNat (x7-nW)) (List.drop (Int.toNat nW) vN)
            bif iy [decide ((0:Int)≤nW),decide (nW≤x7),decide (x7≤(↑(List.length vN):Int))] then
             some ((n_,AK),())
            else none
          else none
         else none
       else none
      else none
    else none
  else none
 else none
def Wh.Pb:=eB Wh.Cj
theorem Wh.Pc:OV Wh.Cj Wh.Pb:=fe _
abbrev Wh.Pd:Type:=((Int)×(Unit)×(List UInt8))×((List (List UInt8)))
abbrev Wh.Zx:Type:=((((Unit)×(Int))×((List (List UInt8)))))
def Wh.Df (x:Wh.Pd):Option (Wh.Pd⊕Wh.Zx):=
 let Kp:=x.1.1
 let N2:=x.1.2.2
 let x8:List (List UInt8):=x.2
 let nE:Int:=(↑(List.length x8):Int)
 let yD:(List UInt8×Int)×Unit:=Wh.Pb (N2,Kp,nE)
 bif iy [nQ (Wh.Cj (N2,Kp,nE))] then
  bif(yD.1.2==(0:Int)) then
   some (.inr (((),Kp),x8))
  else
   let pb_30:List (List UInt8):=[yD.1.1]
   let y9:List (List UInt8):=x8++pb_30
   bif iy [decide (List.length x8+(1:Nat)≤dh)] then
    some (.inl (((IntKind.wrap .i64 (Kp+yD.1.2)),(),N2),y9))
   else none
 else none
def Wh.Ud:(((Unit)×(Int))×((List (List UInt8)))):=default
def Wh.Ba (xs:(List UInt8)):Option (((List (List UInt8))×(Int))×(Unit)):=
 let vN:=xs
 let x_33:Wh.Pd:=(((0:Int),(),vN),[])
 bif lF Wh.Df x_33 then
  let y_34:=kG Wh.Df Wh.Ud x_33
  let HU:=y_34.1.2
  let Oa:List (List UInt8):=y_34.2
  some ((Oa,HU),())
 else none
def Wh.FX:=eB Wh.Ba
theorem Wh.Hq:OV Wh.Ba Wh.FX:=fe _
abbrev Wh.O8:Type:=((Int)×(Int)×(List UInt8)×(Unit)×(Int))×((List (List UInt8)))
abbrev Wh.Zv:Type:=((((Int)×(List UInt8)×(Unit))×((List (List UInt8)))))
def Wh.zC (x:Wh.O8):Option (Wh.O8⊕Wh.Zv):=
 let gT:=x.1.1
 let FC:=x.1.2.1
 let Fe:List UInt8:=(x.1.2.2).1
 let Nz:=x.1.2.2.2.2
 let x8:List (List UInt8):=x.2
 let nE:=decide (gT<(↑(List.length Fe):Int))
 bif nE then
  let w7:Int:=(↑(UInt8.toNat (List.getD Fe (Int.toNat gT) (0:UInt8))):Int)
  let ym:=w7==Nz
  bif iy [decide ((0:Int)≤gT),nE] then
   bif ym then
    let AW:List (List UInt8):=[List.take (Int.toNat (gT-FC)) (List.drop (Int.toNat FC) Fe)]
    let A8:List (List UInt8):=x8++AW
    bif iy [decide (List.length x8+(1:Nat)≤dh),decide ((0:Int)≤FC),decide (FC≤gT),decide (gT≤(↑(List.length Fe):Int))] then
     let n_:=IntKind.wrap .i64 (gT+(1:Int))
     some (.inl ((n_,n_,Fe,(),Nz),A8))
    else none
   else
    some (.inl (((IntKind.wrap .i64 (gT+(1:Int))),FC,Fe,(),Nz),x8))
  else none
 else
  some (.inr ((FC,Fe,()),x8))
def Wh.Ub:(((Int)×(List UInt8)×(Unit))×((List (List UInt8)))):=default
def Wh.Ci (xs:(List UInt8)×(Int)):Option (((List (List UInt8)))×(Unit)):=
 let cx:=xs.1
 let zG:=xs.2
 let Au:Wh.O8:=(((0:Int),(0:Int),cx,(),zG),[])
 bif lF Wh.zC Au then
  let zQ:=kG Wh.zC Wh.Ub Au
  let KH:=zQ.1.1
  let HM:=zQ.1.2.1
  let y_:List (List UInt8):=zQ.2
  let xS:List (List UInt8):=[List.take (Int.toNat ((↑(List.length HM):Int)-KH)) (List.drop (Int.toNat KH) HM)]
  let x9:List (List UInt8):=y_++xS
  bif iy [decide (List.length y_+(1:Nat)≤dh),decide ((0:Int)≤KH),decide (KH≤(↑(List.length HM):Int)),decide ((↑(List.length HM):Int)≤(↑(List.length HM):Int))] then
   some (x9,())
  else none
 else none
def Wh.O7:=eB Wh.Ci
theorem Wh.O9:OV Wh.Ci Wh.O7:=fe _
abbrev Wh.O1:Type:=((Int)×(List UInt8))×(Unit)
abbrev Wh.Zq:Type:=((((Bool))×(Unit))⊕(((List UInt8))×(Unit)))
def Wh.Ch (x:Wh.O1):Option (Wh.O1⊕Wh.Zq):=
 let zY:=x.1.1
 let L3:=x.1.2
 let zD:=decide (zY<(↑(List.length L3):Int))
 bif zD then
  let yV:Int:=(↑(UInt8.toNat (List.getD L3 (Int.toNat zY) (0:UInt8))):Int)
  let yl:=bif decide (yV<(97:Int)) then true else decide (yV>(122:Int))
  bif iy [!!decide (yV<(97:Int)) || decide ((0:Int)≤zY),!!decide (yV<(97:Int)) || zD,decide ((0:Int)≤zY),zD] then
   bif yl then
    some (.inr (.inl (false,())))
   else
    some (.inl (((IntKind.wrap .i64 (zY+(1:Int))),L3),()))
  else none
 else
  some (.inr (.inr (L3,())))
def Wh.T5:(((Bool))×(Unit))⊕(((List UInt8))×(Unit)):=.inl default
def Wh.ED (xs:(List UInt8)):Option (((Bool))×(Unit)):=
 let yM:=xs
 let x_17:Wh.O1:=(((0:Int),yM),())
 bif lF Wh.Ch x_17 then
  sumC (kG Wh.Ch Wh.T5 x_17) (fun Fm=>
   let nE:=Fm.1
   some (nE,())) (fun Il=>
   let VI:=Il.1
   let r_22:=Wh.yj ((↑(List.length VI):Int),(1:Int),(6:Int))
   bif iy [nQ (Wh.xW ((↑(List.length VI):Int),(1:Int),(6:Int)))] then
    some (r_22.1,())
   else none)
 else none
def Wh.O0:=eB Wh.ED
theorem Wh.T6:OV Wh.ED Wh.O0:=fe _
def Wh.BK (xs:(an.D)):Option (((Bool))×(Unit)):=
 let t_0:an.D:=xs
 let r_1:=Wh.yj (t_0.1,(0:Int),(1:Int))
 let r_2:=Wh.O0 t_0.2.1
 let xX:=Wh.yj ((↑(List.length ((t_0.2.2.2).1)):Int),(1:Int),(300:Int))
 let y4:=bif bif r_1.1 then r_2.1 else false then xX.1 else false
 bif iy [(!bif r_1.1 then r_2.1 else false) || nQ (Wh.xW ((↑(List.length ((t_0.2.2.2).1)):Int),(1:Int),(300:Int))),!r_1.1 || nQ (Wh.ED t_0.2.1),nQ (Wh.xW (t_0.1,(0:Int),(1:Int)))] then
  some (y4,())
 else none
def Wh.F2:=eB Wh.BK
theorem Wh.Dt:OV Wh.BK Wh.F2:=fe _
def Wh.CD (xs:(Int)×(List UInt8)×(List UInt8)):Option (((List UInt8))×(Unit)):=
 let CX:=xs.1
 let yP:=xs.2.1
 let At:=xs.2.2
 let r5:=At == []
 bif r5 then
  let gz:=Wh.F2 (CX,yP,(0:Int),[(120:UInt8)],())
  bif iy [nQ (Wh.BK (CX,yP,(0:Int),[(120:UInt8)],()))] then
   bif !gz.1 then
    some ([],())
   else
    let xX:xT.D:=Wh.Bc CX
    let Ad:=xX.1 ++ [(32:UInt8)]++yP ++ [(58:UInt8)]++At
    bif iy [decide (List.length (xX.1 ++ [(32:UInt8)]++yP ++ [(58:UInt8)])+List.length At≤dh),decide (List.length (xX.1 ++ [(32:UInt8)]++yP)+(1:Nat)≤dh),decide (List.length (xX.1 ++ [(32:UInt8)])+List.length yP≤dh),decide (List.length xX.1+(1:Nat)≤dh),nQ (Wh.BJ CX)] then
     some (Ad,())
    else none
  else none
 else
  let r_11:=Wh.F2 (CX,yP,(0:Int),At,())
  bif iy [nQ (Wh.BK (CX,yP,(0:Int),At,()))] then
   bif !r_11.1 then
    some ([],())
   else
    let zd:xT.D:=Wh.Bc CX
    let x7:=zd.1 ++ [(32:UInt8)]++yP ++ [(58:UInt8)]++At
    bif iy [decide (List.length (zd.1 ++ [(32:UInt8)]++yP ++ [(58:UInt8)])+List.length At≤dh),decide (List.length (zd.1 ++ [(32:UInt8)]++yP)+(1:Nat)≤dh),decide (List.length (zd.1 ++ [(32:UInt8)])+List.length yP≤dh),decide (List.length zd.1+(1:Nat)≤dh),nQ (Wh.BJ CX)] then
     some (x7,())
    else none
  else none
def Wh.LD:=eB Wh.CD
theorem Wh.LF:OV Wh.CD Wh.LD:=fe _
def Wh.EH (xs:(an.D)×(Int)×(List UInt8)):Option (((Bool))×(Unit)):=
 let cr:an.D:=xs.1
 let nS:=xs.2.1
 let w8:=xs.2.2
 let xY:=bif decide (cr.1<nS) then true else bif cr.1==nS then Go.Op.bytesLess cr.2.1 w8 else false
 some (xY,())
def Wh.Ll:=eB Wh.EH
theorem Wh.Lm:OV Wh.EH Wh.Ll:=fe _
abbrev Wh.OH:Type:=((Int)×(List (an.D))×(Int)×(Int))×(Unit)
abbrev Wh.Zl:Type:=((((Int))×(Unit)))
def Wh.Ce (x:Wh.OH):Option (Wh.OH⊕Wh.Zl):=
 let gT:=x.1.1
 let KR:List (an.D):=x.1.2.1
 let Ep:Int:=(x.1.2.2).1
 let Ef:=x.1.2.2.2
 let nI:Int:=(↑(List.length KR):Int)
 bif decide (gT<nI) then
  let w7:an.D:=List.getD KR (Int.toNat gT) ((0:Int),[],(0:Int),[],())
  bif iy [decide ((0:Int)≤gT),decide (gT<nI)] then
   bif(w7.1==Ef) then
    bif iy [decide ((0:Int)≤gT),decide (gT<nI)] then
     some (.inl (((IntKind.wrap .i64 (gT+(1:Int))),KR,(IntKind.wrap .i64 (Ep+(↑(List.length ((w7.2.2.2).1)):Int))),Ef),()))
    else none
   else
    some (.inl (((IntKind.wrap .i64 (gT+(1:Int))),KR,Ep,Ef),()))
  else none
 else
  some (.inr (Ep,()))
def Wh.TR:(((Int))×(Unit)):=default
def Wh.Da (xs:(List (an.D))×(Int)):Option (((Int))×(Unit)):=
 let list_0:List (an.D):=xs.1
 let nS:=xs.2
 let Au:Wh.OH:=(((0:Int),list_0,(0:Int),nS),())
 bif lF Wh.Ce Au then
  let zQ:=kG Wh.Ce Wh.TR Au
  let n_30:=zQ.1
  some (n_30,())
 else none
def Wh.Ld:=eB Wh.Da
theorem Wh.Le:OV Wh.Da Wh.Ld:=fe _
abbrev Wh.Pw:Type:=((Int)×(Unit))×((bx.D))
abbrev Wh.ZE:Type:=((((Bool))×(Unit))⊕((Unit)×(Unit)))
def Wh.EO (x:Wh.Pw):Option (Wh.Pw⊕Wh.ZE):=
 let h_66:=x.1.1
 let G7:bx.D:=x.2
 bif decide (h_66<(2:Int)) then
  let r_69:=Wh.Ld (G7.2.1,h_66)
  bif iy [nQ (Wh.Da (G7.2.1,h_66))] then
   bif decide (r_69.1>(500:Int)) then
    some (.inr (.inl (false,())))
   else
    some (.inl (((IntKind.wrap .i64 (h_66+(1:Int))),()),G7))
  else none
 else
  some (.inr (.inr ((),())))
def Wh.Ur:(((Bool))×(Unit))⊕((Unit)×(Unit)):=.inl default
abbrev Wh.Pv:Type:=((Int)×(Unit)×(Unit)×(Int))×((an.D)×(bx.D))
abbrev Wh.ZD:Type:=((((Bool))×(Unit))⊕(((Unit)×(Int))×((bx.D))))
def Wh.Dk (x:Wh.Pv):Option (Wh.Pv⊕Wh.ZD):=
 let G1:=x.1.1
 let i_23:=x.1.2.2.2
 let A8:an.D:=x.2.1
 let KT:bx.D:=x.2.2
 bif decide (G1<i_23) then
  let DW:an.D:=List.getD KT.2.1 (Int.toNat G1) ((0:Int),[],(0:Int),[],())
  bif iy [decide ((0:Int)≤G1),decide (G1<(↑(List.length KT.2.1):Int))] then
   bif(DW.2.2.1==A8.2.2.1) then
    some (.inr (.inl (false,())))
   else
    some (.inl (((IntKind.wrap .i64 (G1+(1:Int))),(),(),i_23),A8,KT))
  else none
 else
  some (.inr (.inr (((),i_23),KT)))
def Wh.Uq:(((Bool))×(Unit))⊕(((Unit)×(Int))×((bx.D))):=.inl default
abbrev Wh.Pu:Type:=((Unit)×(Int))×((bx.D))
abbrev Wh.ZC:Type:=((((Bool))×(Unit))⊕(((Unit))×((bx.D))))
def Wh.Cn (x:Wh.Pu):Option (Wh.Pu⊕Wh.ZC):=
 let Ay:=x.1.2
 let zm:bx.D:=x.2
 let Fj:Int:=(↑(List.length zm.2.1):Int)
 bif decide (Ay<Fj) then
  let AB:an.D:=List.getD zm.2.1 (Int.toNat Ay) ((0:Int),[],(0:Int),[],())
  bif iy [decide ((0:Int)≤Ay),decide (Ay<Fj)] then
   let HJ:=Wh.F2 AB
   let LR:=Wh.yj (AB.2.2.1,(1:Int),zm.1)
   let r_46:=Wh.Ll (List.getD zm.2.1 (Int.toNat (IntKind.wrap .i64 (Ay-(1:Int)))) ((0:Int),[],(0:Int),[],()),AB.1,AB.2.1)
   let v_47:=bif bif !HJ.1 then true else !LR.1 then true else bif decide (Ay>(0:Int)) then !r_46.1 else false
   bif iy [!(decide (Ay>(0:Int)) && !bif !HJ.1 then true else !LR.1) || nQ (Wh.EH (List.getD zm.2.1 (Int.toNat (IntKind.wrap .i64 (Ay-(1:Int)))) ((0:Int),[],(0:Int),[],()),AB.1,AB.2.1)),!(decide (Ay>(0:Int)) && !bif !HJ.1 then true else !LR.1) || decide ((0:Int)≤IntKind.wrap .i64 (Ay-(1:Int))),!(decide (Ay>(0:Int)) && !bif !HJ.1 then true else !LR.1) || decide (IntKind.wrap .i64 (Ay-(1:Int))<Fj),!!!HJ.1 || nQ (Wh.xW (AB.2.2.1,(1:Int),zm.1)),nQ (Wh.BK AB)] then
    bif v_47 then
     some (.inr (.inl (false,())))
    else
     let Ia:Wh.Pv:=(((0:Int),(),(),Ay),AB,zm)
     bif lF Wh.Dk Ia then
      sumC (kG Wh.Dk Wh.Uq Ia) (fun Gk=>
       let BX:=Gk.1
       some (.inr (.inl (BX,())))) (fun z_50=>
       let i_52:=z_50.1.2
       let ls_53:bx.D:=z_50.2
       some (.inl (((),(IntKind.wrap .i64 (i_52+(1:Int)))),ls_53)))
     else none
   else none
  else none
 else
  some (.inr (.inr ((),zm)))
def Wh.Up:(((Bool))×(Unit))⊕(((Unit))×((bx.D))):=.inl default
def Wh.Dj (xs:(bx.D)):Option (((Bool))×(Unit)):=
 let gv:bx.D:=xs
 let r_1:=Wh.yj (gv.1,(0:Int),(99999:Int))
 let v_2:=bif !r_1.1 then true else decide ((↑(List.length gv.2.1):Int)>(8:Int))
 bif iy [nQ (Wh.xW (gv.1,(0:Int),(99999:Int)))] then
  bif v_2 then
   some (false,())
  else
   let Ib:Wh.Pu:=(((),(0:Int)),gv)
   bif lF Wh.Cn Ib then
    sumC (kG Wh.Cn Wh.Up Ib) (fun y_56=>
     let v_58:=y_56.1
     some (v_58,())) (fun z_57=>
     let ls_59:bx.D:=z_57.2
     let x_72:Wh.Pw:=(((0:Int),()),ls_59)
     bif lF Wh.EO x_72 then
      sumC (kG Wh.EO Wh.Ur x_72) (fun y_73=>
       let v_75:=y_73.1
       some (v_75,())) (fun _=>
       some (true,()))
     else none)
   else none
 else none
def Wh.Lr:=eB Wh.Dj
theorem Wh.F0:OV Wh.Dj Wh.Lr:=fe _
abbrev Wh.PM:Type:=((Int)×(List UInt8)×(Unit)×(Int))×((bx.D))
abbrev Wh.ZM:Type:=((((Int))×(Unit))⊕((Unit)×(Unit)))
def Wh.Cr (x:Wh.PM):Option (Wh.PM⊕Wh.ZM):=
 let CZ:=x.1.1
 let Tz:=x.1.2.1
 let KM:=x.1.2.2.2
 let yx:bx.D:=x.2
 let xe:Int:=(↑(List.length yx.2.1):Int)
 bif decide (CZ<xe) then
  let nE:an.D:=List.getD yx.2.1 (Int.toNat CZ) ((0:Int),[],(0:Int),[],())
  let zg:=bif nE.1==KM then nE.2.1==Tz else false
  bif iy [!nE.1==KM || decide ((0:Int)≤CZ),!nE.1==KM || decide (CZ<xe),decide ((0:Int)≤CZ),decide (CZ<xe)] then
   bif zg then
    some (.inr (.inl (CZ,())))
   else
    some (.inl (((IntKind.wrap .i64 (CZ+(1:Int))),Tz,(),KM),yx))
  else none
 else
  some (.inr (.inr ((),())))
def Wh.UD:(((Int))×(Unit))⊕((Unit)×(Unit)):=.inl default
def Wh.Bd (xs:(bx.D)×(Int)×(List UInt8)):Option (((Int))×(Unit)):=
 let gv:bx.D:=xs.1
 let nS:=xs.2.1
 let w8:=xs.2.2
 let x_25:Wh.PM:=(((0:Int),w8,(),nS),gv)
 bif lF Wh.Cr x_25 then
  sumC (kG Wh.Cr Wh.UD x_25) (fun Ae=>
   let nP:=Ae.1
   some (nP,())) (fun _=>
   some ((-1:Int),()))
 else none
def Wh.Lx:=eB Wh.Bd
theorem Wh.Hv:OV Wh.Bd Wh.Lx:=fe _
def Wh.Bb (xs:(bx.D)):Option ((((Int)×((List (an.D))×(Unit))))×(Unit)):=
 let gv:bx.D:=xs
 let za:List (an.D):=[]++gv.2.1
 bif iy [decide ((0:Nat)+List.length gv.2.1≤dh)] then
  some ((gv.1,za,gv.2.2),())
 else none
def Wh.EG:=eB Wh.Bb
theorem Wh.FY:OV Wh.Bb Wh.EG:=fe _
def Wh.EI (xs:(bx.D)×(Int)):Option ((((Int)×((List (an.D))×(Unit))))×(Unit)):=
 let gv:bx.D:=xs.1
 let k_1:=xs.2
 let pb_2:List (an.D):=[]++List.take (Int.toNat (k_1-(0:Int))) (List.drop (Int.toNat (0:Int)) gv.2.1)
 let G_:List (an.D):=pb_2++List.take (Int.toNat ((↑(List.length gv.2.1):Int)-IntKind.wrap .i64 (k_1+(1:Int)))) (List.drop (Int.toNat (IntKind.wrap .i64 (k_1+(1:Int)))) gv.2.1)
 let yq:List (an.D):=List.take (Int.toNat (k_1-(0:Int))) (List.drop (Int.toNat (0:Int)) gv.2.1)
 let xY:=IntKind.wrap .i64 (k_1+(1:Int))
 bif iy [decide (List.length pb_2+List.length (List.take (Int.toNat ((↑(List.length gv.2.1):Int)-xY)) (List.drop (Int.toNat xY) gv.2.1))≤dh),decide ((0:Int)≤xY),decide (xY≤(↑(List.length gv.2.1):Int)),decide ((↑(List.length gv.2.1):Int)≤(↑(List.length gv.2.1):Int)),decide ((0:Nat)+List.length yq≤dh),true,decide ((0:Int)≤k_1),decide (k_1≤(↑(List.length gv.2.1):Int))] then
  some ((gv.1,G_,()),())
 else none
def Wh.Pe:=eB Wh.EI
theorem Wh.Ue:OV Wh.EI Wh.Pe:=fe _
def Wh.q90 (xs:(bx.D)×(Int)×(List UInt8)):Option ((((Int)×((List (an.D))×(Unit)))×(Int))×(Unit)):=
 let gv:bx.D:=xs.1
 let nS:=xs.2.1
 let w8:=xs.2.2
 let r_3:=Wh.Lr gv
 bif iy [nQ (Wh.Dj gv)] then
  bif !r_3.1 then
   some ((((0:Int),[],()),(1:Int)),())
  else
   let gz:=Wh.Lx (gv,nS,w8)
   bif iy [nQ (Wh.Bd (gv,nS,w8))] then
    bif decide (gz.1<(0:Int)) then
     let x4:(bx.D)×Unit:=Wh.EG gv
     bif iy [nQ (Wh.Bb gv)] then
      some ((x4.1,(3:Int)),())
     else none
    else
     let Aa:(bx.D)×Unit:=Wh.Pe (gv,gz.1)
     bif iy [nQ (Wh.EI (gv,gz.1))] then
      some ((Aa.1,(0:Int)),())
     else none
   else none
 else none
def Wh.LM:=eB Wh.q90
theorem Wh.q90_v:OV Wh.q90 Wh.LM:=fe _
abbrev Wh.PL:Type:=((Int)×(Unit)×(Unit)×(Unit))×(((Int)×((Unit)×(Unit)))×(bx.D)×(an.D)×(List (an.D)))
abbrev Wh.ZL:Type:=((((Unit)×(Int)×(Unit)×(Unit))×(((Int)×((Unit)×(Unit)))×(bx.D)×(an.D)×(List (an.D)))))
def Wh.Cq (x:Wh.PL):Option (Wh.PL⊕Wh.ZL):=
 let Bo:=x.1.1
 let yh:=x.2.1.1
 let AU:=x.2.1.2.2
 let yx:bx.D:=x.2.2.1
 let vT:an.D:=(x.2.2.2).1
 let x8:List (an.D):=x.2.2.2.2
 let nE:Int:=(↑(List.length yx.2.1):Int)
 let zP:=Wh.Ll (List.getD yx.2.1 (Int.toNat Bo) ((0:Int),[],(0:Int),[],()),vT.1,vT.2.1)
 let n5:=bif decide (Bo<nE) then zP.1 else false
 bif iy [!decide (Bo<nE) || nQ (Wh.EH (List.getD yx.2.1 (Int.toNat Bo) ((0:Int),[],(0:Int),[],()),vT.1,vT.2.1)),!decide (Bo<nE) || decide ((0:Int)≤Bo),!decide (Bo<nE) || decide (Bo<nE)] then
  bif n5 then
   some (.inl (((IntKind.wrap .i64 (Bo+(1:Int))),(),(),()),(yh,(),AU),yx,vT,x8))
  else
   some (.inr (((),Bo,(),()),(yh,(),AU),yx,vT,x8))
 else none
def Wh.UA:(((Unit)×(Int)×(Unit)×(Unit))×(((Int)×((Unit)×(Unit)))×(bx.D)×(an.D)×(List (an.D)))):=default
def Wh.EW (xs:(bx.D)×(an.D)):Option ((((Int)×((List (an.D))×(Unit))))×(Unit)):=
 let gv:bx.D:=xs.1
 let t_1:an.D:=xs.2
 let HZ:Wh.PL:=(((0:Int),(),(),()),((0:Int),(),()),gv,t_1,[])
 bif lF Wh.Cq HZ then
  let Ig:=kG Wh.Cq Wh.UA HZ
  let Bp:=Ig.1.2.1
  let y9:bx.D:=Ig.2.2.1
  let y_:an.D:=(Ig.2.2.2).1
  let Lb:=IntKind.wrap .i64 (y9.1+(1:Int))
  let He:List (an.D):=[]++List.take (Int.toNat (Bp-(0:Int))) (List.drop (Int.toNat (0:Int)) y9.2.1)
  let Lc:List (an.D):=[(y_.1,y_.2.1,Lb,y_.2.2.2)]
  let pb_38:List (an.D):=He++Lc++List.take (Int.toNat ((↑(List.length y9.2.1):Int)-Bp)) (List.drop (Int.toNat Bp) y9.2.1)
  let Fj:List (an.D):=List.take (Int.toNat (Bp-(0:Int))) (List.drop (Int.toNat (0:Int)) y9.2.1)
  let v_40:List (an.D):=List.take (Int.toNat ((↑(List.length y9.2.1):Int)-Bp)) (List.drop (Int.toNat Bp) y9.2.1)
  bif iy [decide (List.length (He++Lc)+List.length v_40≤dh),decide ((0:Int)≤Bp),decide (Bp≤(↑(List.length y9.2.1):Int)),decide ((↑(List.length y9.2.1):Int)≤(↑(List.length y9.2.1):Int)),decide (List.length He+(1:Nat)≤dh),decide ((0:Nat)+List.length Fj≤dh),true,decide ((0:Int)≤Bp),decide (Bp≤(↑(List.length y9.2.1):Int))] then
   some ((Lb,pb_38,()),())
  else none
 else none
def Wh.PK:=eB Wh.EW
theorem Wh.UC:OV Wh.EW Wh.PK:=fe _
def Wh.BD (xs:(bx.D)×(Int)×(List UInt8)×(List UInt8)):Option ((((Int)×((List (an.D))×(Unit)))×(Int))×(Unit)):=
 let gv:bx.D:=xs.1
 let nS:=xs.2.1
 let w8:=xs.2.2.1
 let yN:=xs.2.2.2
 let gz:=Wh.Lr gv
 bif iy [nQ (Wh.Dj gv)] then
  bif !gz.1 then
   some ((((0:Int),[],()),(1:Int)),())
  else
   let xX:=Wh.F2 (nS,w8,(0:Int),yN,())
   bif iy [nQ (Wh.BK (nS,w8,(0:Int),yN,()))] then
    bif !xX.1 then
     let x4:(bx.D)×Unit:=Wh.EG gv
     bif iy [nQ (Wh.Bb gv)] then
      some ((x4.1,(1:Int)),())
     else none
    else
     let Aa:=Wh.Lx (gv,nS,w8)
     bif iy [nQ (Wh.Bd (gv,nS,w8))] then
      bif decide (Aa.1≥(0:Int)) then
       let z_:(bx.D)×Unit:=Wh.EG gv
       bif iy [nQ (Wh.Bb gv)] then
        some ((z_.1,(2:Int)),())
       else none
      else
       let zD:Int:=(↑(List.length gv.2.1):Int)
       let HF:=Wh.Ld (gv.2.1,nS)
       let xe:=bif bif decide (zD≥(8:Int)) then true else decide (gv.1≥(99999:Int)) then true else decide (IntKind.wrap .i64 (HF.1+(↑(List.length yN):Int))>(500:Int))
       bif iy [(!!bif decide (zD≥(8:Int)) then true else decide (gv.1≥(99999:Int))) || nQ (Wh.Da (gv.2.1,nS))] then
        bif xe then
         let r_19:(bx.D)×Unit:=Wh.EG gv
         bif iy [nQ (Wh.Bb gv)] then
          some ((r_19.1,(4:Int)),())
         else none
        else
         let yL:(bx.D)×Unit:=Wh.PK (gv,nS,w8,(0:Int),yN,())
         bif iy [nQ (Wh.EW (gv,nS,w8,(0:Int),yN,()))] then
          some ((yL.1,(0:Int)),())
         else none
       else none
     else none
   else none
 else none
def Wh.Hl:=eB Wh.BD
theorem Wh.OY:OV Wh.BD Wh.Hl:=fe _
def Wh.BI (xs:(bx.D)×(List UInt8)):Option ((((Int)×((List (an.D))×(Unit)))×(Bool))×(Unit)):=
 let gv:bx.D:=xs.1
 let s_1:=xs.2
 let r_2:=Wh.Ho (s_1,(0:Int),(58:Int))
 bif iy [nQ (Wh.y2 (s_1,(0:Int),(58:Int)))] then
  bif decide (r_2.1<(0:Int)) then
   some ((((0:Int),[],()),false),())
  else
   let gz:List (List UInt8)×Unit:=Wh.O7 (List.take (Int.toNat (r_2.1-(0:Int))) (List.drop (Int.toNat (0:Int)) s_1),(32:Int))
   let xY:List UInt8:=List.take (Int.toNat (r_2.1-(0:Int))) (List.drop (Int.toNat (0:Int)) s_1)
   bif iy [nQ (Wh.Ci (xY,(32:Int))),true,decide ((0:Int)≤r_2.1),decide (r_2.1≤(↑(List.length s_1):Int))] then
    let zh:=IntKind.wrap .i64 (r_2.1+(1:Int))
    let CR:List UInt8:=List.take (Int.toNat ((↑(List.length s_1):Int)-zh)) (List.drop (Int.toNat zh) s_1)
    bif iy [decide ((0:Int)≤zh),decide (zh≤(↑(List.length s_1):Int)),decide ((↑(List.length s_1):Int)≤(↑(List.length s_1):Int))] then
     let yE:Int:=(↑(List.length gz.1):Int)
     let zd:=Wh.Hu (List.getD gz.1 (Int.toNat (0:Int)) [])
     let DQ:xT.D:=Wh.LD (zd.1,List.getD gz.1 (Int.toNat (1:Int)) [],CR)
     let nW:=bif yE != (2:Int) then true else !DQ.1==s_1
     bif iy [!!yE != (2:Int) || nQ (Wh.CD (zd.1,List.getD gz.1 (Int.toNat (1:Int)) [],CR)),!!yE != (2:Int) || decide ((0:Int)≤(1:Int)),!!yE != (2:Int) || decide ((1:Int)<yE),!!yE != (2:Int) || nQ (Wh.AF (List.getD gz.1 (Int.toNat (0:Int)) [])),!!yE != (2:Int) || decide ((0:Int)≤(0:Int)),!!yE != (2:Int) || decide ((0:Int)<yE)] then
      bif nW then
       some ((((0:Int),[],()),false),())
      else
       let yl:=CR == []
       bif yl then
        let HF:((bx.D)×Int)×Unit:=Wh.LM (gv,zd.1,List.getD gz.1 (Int.toNat (1:Int)) [])
        let nI:=List.getD gz.1 (Int.toNat (0:Int)) []
        let nE:=List.getD gz.1 (Int.toNat (1:Int)) []
        let r_30:((bx.D)×Int)×Unit:=Wh.LM (gv,zd.1,nE)
        bif iy [nQ (Wh.q90 (gv,zd.1,nE)),true,decide ((1:Int)<yE),nQ (Wh.AF nI),true,decide ((0:Int)<yE)] then
         some (((HF.1.1.1,(HF.1.1.2).1,HF.1.1.2.2),(r_30.1.2==(0:Int))),())
        else none
       else
        let th:((bx.D)×Int)×Unit:=Wh.Hl (gv,zd.1,List.getD gz.1 (Int.toNat (1:Int)) [],CR)
        let HU:=List.getD gz.1 (Int.toNat (0:Int)) []
        let yp:=List.getD gz.1 (Int.toNat (1:Int)) []
        let r_46:((bx.D)×Int)×Unit:=Wh.Hl (gv,zd.1,yp,CR)
        bif iy [nQ (Wh.BD (gv,zd.1,yp,CR)),true,decide ((1:Int)<yE),nQ (Wh.AF HU),true,decide ((0:Int)<yE)] then
         some (((th.1.1.1,(th.1.1.2).1,th.1.1.2.2),(r_46.1.2==(0:Int))),())
        else none
     else none
    else none
   else none
 else none
def Wh.Li:=eB Wh.BI
theorem Wh.Lj:OV Wh.BI Wh.Li:=fe _
abbrev Wh.Pr:Type:=((Unit)×(Int)×(Unit)×(List (List UInt8)))×(((Int)×((Unit)×(Unit)))×((Int)×((Unit)×(Unit)))×(List (an.D))×(List (an.D)))
abbrev Wh.ZB:Type:=((((Unit)×(Bool))×(((Int)×((Unit)×(Unit)))×(List (an.D))))⊕(((Unit)×(Unit))×(((Int)×((Unit)×(Unit)))×((Int)×((Unit)×(Unit)))×(List (an.D))×(List (an.D)))))
def Wh.Cm (x:Wh.Pr):Option (Wh.Pr⊕Wh.ZB):=
 let gT:=x.1.2.1
 let LX:List (List UInt8):=x.1.2.2.2
 let yx:=x.2.1.1
 let vT:=x.2.1.2.2
 let x8:=x.2.2.1.1
 let zv:Unit:=(x.2.2.1).2.2
 let y7:List (an.D):=(x.2.2.2).1
 let y8:List (an.D):=x.2.2.2.2
 let zg:Int:=(↑(List.length LX):Int)
 bif decide (gT<zg) then
  let AY:((bx.D)×Bool)×Unit:=Wh.Li ((x8,y8,zv),List.getD LX (Int.toNat gT) [])
  let n_:=List.getD LX (Int.toNat gT) []
  bif iy [nQ (Wh.BI ((x8,y8,zv),n_)),decide ((0:Int)≤gT),decide (gT<zg)] then
   bif(!AY.1.2) then
    some (.inr (.inl (((),false),((0:Int),(),()),[])))
   else
    some (.inl (((),(IntKind.wrap .i64 (gT+(1:Int))),(),LX),(yx,(),vT),(AY.1.1.1,(),AY.1.1.2.2),y7,(AY.1.1.2).1))
  else none
 else
  some (.inr (.inr (((),()),(yx,(),vT),(x8,(),zv),y7,y8)))
def Wh.Uo:(((Unit)×(Bool))×(((Int)×((Unit)×(Unit)))×(List (an.D))))⊕(((Unit)×(Unit))×(((Int)×((Unit)×(Unit)))×((Int)×((Unit)×(Unit)))×(List (an.D))×(List (an.D)))):=.inl default
def Wh.Dh (xs:(List (List UInt8))):Option ((((Int)×((List (an.D))×(Unit)))×(Bool))×(Unit)):=
 let LW:List (List UInt8):=xs
 let H7:Wh.Pr:=(((),(0:Int),(),LW),((0:Int),(),()),((0:Int),(),()),[],[])
 bif lF Wh.Cm H7 then
  sumC (kG Wh.Cm Wh.Uo H7) (fun Gi=>
   let AL:=Gi.1.2
   let z6:=Gi.2.1.1
   let x9:=Gi.2.1.2.2
   let Aq:List (an.D):=Gi.2.2
   some (((z6,Aq,x9),AL),())) (fun z_31=>
   let zm:=z_31.2.2.1.1
   let C8:Unit:=(z_31.2.2.1).2.2
   let ls_41:List (an.D):=z_31.2.2.2.2
   some (((zm,ls_41,C8),true),()))
 else none
def Wh.Lq:=eB Wh.Dh
theorem Wh.Pt:OV Wh.Dh Wh.Lq:=fe _
def Wh.q95 (xs:(ct.D)):Option (((Bool))×(Unit)):=
 let cx:ct.D:=xs
 let r_1:(List (List UInt8)×Int)×Unit:=Wh.FX (cx.2.2.1)
 bif iy [nQ (Wh.Ba (cx.2.2.1))] then
  let r_2:((bx.D)×Bool)×Unit:=Wh.Lq r_1.1.1
  bif iy [nQ (Wh.Dh r_1.1.1)] then
   some (r_2.1.2,())
  else none
 else none
def Wh.q95':=eB Wh.q95
theorem Wh.q95_v:OV Wh.q95 Wh.q95':=fe _
abbrev Wh.QI:Type:=((Int)×(Unit)×(Unit))×((bx.D)×(bx.D))
abbrev Wh.aar:Type:=((((Bool))×(Unit))⊕((Unit)×(Unit)))
def Wh.CK (x:Wh.QI):Option (Wh.QI⊕Wh.aar):=
 let zH:=x.1.1
 let yC:bx.D:=x.2.1
 let yh:bx.D:=x.2.2
 let xP:Int:=(↑(List.length yh.2.1):Int)
 bif decide (zH<xP) then
  let xe:an.D:=List.getD yh.2.1 (Int.toNat zH) ((0:Int),[],(0:Int),[],())
  let nI:an.D:=List.getD yC.2.1 (Int.toNat zH) ((0:Int),[],(0:Int),[],())
  bif iy [decide ((0:Int)≤zH),decide (zH<(↑(List.length yC.2.1):Int)),decide ((0:Int)≤zH),decide (zH<xP)] then
   bif(!(xe.1==nI.1&&(xe.2.1==nI.2.1&&(xe.2.2.1==nI.2.2.1&&((xe.2.2.2).1==(nI.2.2.2).1&&true))))) then
    some (.inr (.inl (false,())))
   else
    some (.inl (((IntKind.wrap .i64 (zH+(1:Int))),(),()),yC,yh))
  else none
 else
  some (.inr (.inr ((),())))
def Wh.Vj:(((Bool))×(Unit))⊕((Unit)×(Unit)):=.inl default
def Wh.CJ (xs:(bx.D)×(bx.D)):Option (((Bool))×(Unit)):=
 let cr:bx.D:=xs.1
 let b_1:bx.D:=xs.2
 let r5:=bif(cr.1 != b_1.1) then true else(↑(List.length cr.2.1):Int) != (↑(List.length b_1.2.1):Int)
 bif r5 then
  some (false,())
 else
  let x_22:Wh.QI:=(((0:Int),(),()),b_1,cr)
  bif lF Wh.CK x_22 then
   sumC (kG Wh.CK Wh.Vj x_22) (fun y_23=>
    let AK:=y_23.1
    some (AK,())) (fun _=>
    some (true,()))
  else none
def Wh.q94':=eB Wh.CJ
theorem Wh.q94_v:OV Wh.CJ Wh.q94':=fe _
def Wh.Dl (xs:(eA.D)):Option (((Bool))×(Unit)):=
 let Ak:eA.D:=xs
 bif(Ak.2.1==(0:Int)) then
  some ((Ak.1==(0:Int)&&(Ak.2.1==(0:Int)&&(Ak.2.2.1==(0:Int)&&((Ak.2.2.2).1==(0:Int)&&(Ak.2.2.2.2.1==false&&true))))),())
 else
  let r_3:=Wh.yj (Ak.1,(0:Int),(1:Int))
  let gz:=Wh.yj (Ak.2.1,(1:Int),(99999:Int))
  let Aa:=Wh.yj (Ak.2.2.1,(0:Int),(23:Int))
  let z_:=Wh.yj ((Ak.2.2.2).1,(0:Int),(99999:Int))
  let yV:=bif bif bif r_3.1 then gz.1 else false then Aa.1 else false then z_.1 else false
  bif iy [(!bif bif r_3.1 then gz.1 else false then Aa.1 else false) || nQ (Wh.xW ((Ak.2.2.2).1,(0:Int),(99999:Int))),(!bif r_3.1 then gz.1 else false) || nQ (Wh.xW (Ak.2.2.1,(0:Int),(23:Int))),!r_3.1 || nQ (Wh.xW (Ak.2.1,(1:Int),(99999:Int))),nQ (Wh.xW (Ak.1,(0:Int),(1:Int)))] then
   some (yV,())
  else none
def Wh.PA:=eB Wh.Dl
theorem Wh.Lt:OV Wh.Dl Wh.PA:=fe _
abbrev Wh.Pz:Type:=((Int)×(Int)×(Int)×(Unit))×((gd.D))
abbrev Wh.ZF:Type:=((((Int))×(Unit)))
def Wh.Co (x:Wh.Pz):Option (Wh.Pz⊕Wh.ZF):=
 let gT:=x.1.1
 let Eo:=x.1.2.1
 let Ee:Int:=(x.1.2.2).1
 let vT:gd.D:=x.2
 let nI:Int:=(↑(List.length vT.1):Int)
 bif decide (gT<nI) then
  let w7:eA.D:=List.getD vT.1 (Int.toNat gT) ((0:Int),(0:Int),(0:Int),(0:Int),false,())
  let n5:=bif decide (w7.2.1>(0:Int)) then w7.1==Ee else false
  bif iy [!decide (w7.2.1>(0:Int)) || decide ((0:Int)≤gT),!decide (w7.2.1>(0:Int)) || decide (gT<nI),decide ((0:Int)≤gT),decide (gT<nI)] then
   bif n5 then
    some (.inl (((IntKind.wrap .i64 (gT+(1:Int))),(IntKind.wrap .i64 (Eo+(1:Int))),Ee,()),vT))
   else
    some (.inl (((IntKind.wrap .i64 (gT+(1:Int))),Eo,Ee,()),vT))
  else none
 else
  some (.inr (Eo,()))
def Wh.Ut:(((Int))×(Unit)):=default
def Wh.ER (xs:(gd.D)×(Int)):Option (((Int))×(Unit)):=
 let s_:gd.D:=xs.1
 let nS:=xs.2
 let Au:Wh.Pz:=(((0:Int),(0:Int),nS,()),s_)
 bif lF Wh.Co Au then
  let zQ:=kG Wh.Co Wh.Ut Au
  let n_30:=zQ.1
  some (n_30,())
 else none
def Wh.Py:=eB Wh.ER
theorem Wh.F1:OV Wh.ER Wh.Py:=fe _
abbrev Wh.O5:Type:=((Int)×(Unit))×((gd.D))
abbrev Wh.Zu:Type:=((((Bool))×(Unit))⊕((Unit)×(Unit)))
def Wh.BF (x:Wh.O5):Option (Wh.O5⊕Wh.Zu):=
 let h_67:=x.1.1
 let Oh:gd.D:=x.2
 bif decide (h_67<(2:Int)) then
  let r_70:=Wh.Py (Oh,h_67)
  bif iy [nQ (Wh.ER (Oh,h_67))] then
   bif decide (r_70.1>(5:Int)) then
    some (.inr (.inl (false,())))
   else
    some (.inl (((IntKind.wrap .i64 (h_67+(1:Int))),()),Oh))
  else none
 else
  some (.inr (.inr ((),())))
def Wh.T9:(((Bool))×(Unit))⊕((Unit)×(Unit)):=.inl default
abbrev Wh.O4:Type:=((Int)×(Unit)×(Int))×((gd.D))
abbrev Wh.Zt:Type:=((((Bool))×(Unit))⊕(((Unit)×(Int))×((gd.D))))
def Wh.As (x:Wh.O4):Option (Wh.O4⊕Wh.Zt):=
 let AQ:=x.1.1
 let Bn:=x.1.2.2
 let Ap:gd.D:=x.2
 bif decide (AQ<Bn) then
  let nP:eA.D:=List.getD Ap.1 (Int.toNat Bn) ((0:Int),(0:Int),(0:Int),(0:Int),false,())
  let AM:=bif bif decide (nP.2.1>(0:Int)) then nP.2.1==Prod.fst (Prod.snd (List.getD Ap.1 (Int.toNat AQ) ((0:Int),(0:Int),(0:Int),(0:Int),false,()))) else false then nP.2.2.1==Prod.fst (Prod.snd (Prod.snd (List.getD Ap.1 (Int.toNat AQ) ((0:Int),(0:Int),(0:Int),(0:Int),false,())))) else false
  bif iy [(!bif decide (nP.2.1>(0:Int)) then nP.2.1==Prod.fst (Prod.snd (List.getD Ap.1 (Int.toNat AQ) ((0:Int),(0:Int),(0:Int),(0:Int),false,()))) else false) || decide ((0:Int)≤AQ),(!bif decide (nP.2.1>(0:Int)) then nP.2.1==Prod.fst (Prod.snd (List.getD Ap.1 (Int.toNat AQ) ((0:Int),(0:Int),(0:Int),(0:Int),false,()))) else false) || decide (AQ<(↑(List.length Ap.1):Int)),(!bif decide (nP.2.1>(0:Int)) then nP.2.1==Prod.fst (Prod.snd (List.getD Ap.1 (Int.toNat AQ) ((0:Int),(0:Int),(0:Int),(0:Int),false,()))) else false) || decide ((0:Int)≤Bn),(!bif decide (nP.2.1>(0:Int)) then nP.2.1==Prod.fst (Prod.snd (List.getD Ap.1 (Int.toNat AQ) ((0:Int),(0:Int),(0:Int),(0:Int),false,()))) else false) || decide (Bn<(↑(List.length Ap.1):Int)),!decide (nP.2.1>(0:Int)) || decide ((0:Int)≤AQ),!decide (nP.2.1>(0:Int)) || decide (AQ<(↑(List.length Ap.1):Int)),!decide (nP.2.1>(0:Int)) || decide ((0:Int)≤Bn),!decide (nP.2.1>(0:Int)) || decide (Bn<(↑(List.length Ap.1):Int)),decide ((0:Int)≤Bn),decide (Bn<(↑(List.length Ap.1):Int))] then
   bif AM then
    some (.inr (.inl (false,())))
   else
    some (.inl (((IntKind.wrap .i64 (AQ+(1:Int))),(),Bn),Ap))
  else none
 else
  some (.inr (.inr (((),Bn),Ap)))
def Wh.T8:(((Bool))×(Unit))⊕(((Unit)×(Int))×((gd.D))):=.inl default
abbrev Wh.O3:Type:=((Unit)×(Int))×((gd.D))
abbrev Wh.Zr:Type:=((((Bool))×(Unit))⊕(((Unit))×((gd.D))))
def Wh.BE (x:Wh.O3):Option (Wh.O3⊕Wh.Zr):=
 let GZ:=x.1.2
 let FJ:gd.D:=x.2
 let v_44:Int:=(↑(List.length FJ.1):Int)
 bif decide (GZ<v_44) then
  let v_46:eA.D:=List.getD FJ.1 (Int.toNat GZ) ((0:Int),(0:Int),(0:Int),(0:Int),false,())
  let r_48:=Wh.PA v_46
  bif iy [nQ (Wh.Dl v_46),decide ((0:Int)≤GZ),decide (GZ<v_44)] then
   bif !r_48.1 then
    some (.inr (.inl (false,())))
   else
    let x_49:Wh.O4:=(((0:Int),(),GZ),FJ)
    bif lF Wh.As x_49 then
     sumC (kG Wh.As Wh.T8 x_49) (fun y_50=>
      let v_52:=y_50.1
      some (.inr (.inl (v_52,())))) (fun z_51=>
      let i_53:=z_51.1.2
      let Od:gd.D:=z_51.2
      some (.inl (((),(IntKind.wrap .i64 (i_53+(1:Int)))),Od)))
    else none
  else none
 else
  some (.inr (.inr ((),FJ)))
def Wh.T7:(((Bool))×(Unit))⊕(((Unit))×((gd.D))):=.inl default
def Wh.Dd (xs:(gd.D)):Option (((Bool))×(Unit)):=
 let s_:gd.D:=xs
 let v_1:Int:=(↑(List.length s_.1):Int)
 let gz:=Wh.yj (s_.2.1,(0:Int),(7:Int))
 let xY:=bif v_1 != (8:Int) then true else !gz.1
 bif iy [!!v_1 != (8:Int) || nQ (Wh.xW (s_.2.1,(0:Int),(7:Int)))] then
  bif xY then
   some (false,())
  else
   let x_56:Wh.O3:=(((),(0:Int)),s_)
   bif lF Wh.BE x_56 then
    sumC (kG Wh.BE Wh.T7 x_56) (fun y_57=>
     let v_59:=y_57.1
     some (v_59,())) (fun z_58=>
     let ls_60:gd.D:=z_58.2
     let x_73:Wh.O5:=(((0:Int),()),ls_60)
     bif lF Wh.BF x_73 then
      sumC (kG Wh.BF Wh.T9 x_73) (fun y_74=>
       let v_76:=y_74.1
       some (v_76,())) (fun _=>
       some (true,()))
     else none)
   else none
 else none
def Wh.O2:=eB Wh.Dd
theorem Wh.T_:OV Wh.Dd Wh.O2:=fe _
abbrev Wh.P_:Type:=((Unit)×(Int)×(Unit)×(Int))×(((Int)×((List UInt8)×((Int)×((List UInt8)×(Unit)))))×(bx.D))
abbrev Wh.Z0:Type:=((((Unit)×(Bool))×((an.D)))⊕(((Unit))×(((Int)×((List UInt8)×((Int)×((List UInt8)×(Unit))))))))
def Wh.CE (x:Wh.P_):Option (Wh.P_⊕Wh.Z0):=
 let gT:=x.1.2.1
 let GV:=x.1.2.2.2
 let yx:=x.2.1.1
 let vT:List UInt8:=(x.2.1.2).1
 let x8:=x.2.1.2.2.1
 let zv:List UInt8:=(x.2.1.2.2.2).1
 let y7:Unit:=(x.2.1.2.2.2).2
 let y8:bx.D:=x.2.2
 let zg:Int:=(↑(List.length y8.2.1):Int)
 bif decide (gT<zg) then
  let AK:an.D:=List.getD y8.2.1 (Int.toNat gT) ((0:Int),[],(0:Int),[],())
  bif iy [decide ((0:Int)≤gT),decide (gT<zg)] then
   bif(AK.2.2.1==GV) then
    bif iy [decide ((0:Int)≤gT),decide (gT<zg)] then
     some (.inr (.inl (((),true),AK)))
    else none
   else
    some (.inl (((),(IntKind.wrap .i64 (gT+(1:Int))),(),GV),(yx,vT,x8,zv,y7),y8))
  else none
 else
  some (.inr (.inr ((),yx,vT,x8,zv,y7)))
def Wh.UU:(((Unit)×(Bool))×((an.D)))⊕(((Unit))×(((Int)×((List UInt8)×((Int)×((List UInt8)×(Unit))))))):=.inl default
def Wh.q44 (xs:(bx.D)×(Int)):Option (((an.D)×(Bool))×(Unit)):=
 let gv:bx.D:=xs.1
 let FB:=xs.2
 let Au:Wh.P_:=(((),(0:Int),(),FB),((0:Int),[],(0:Int),[],()),gv)
 bif lF Wh.CE Au then
  sumC (kG Wh.CE Wh.UU Au) (fun zQ=>
   let HT:=zQ.1.2
   let y_:an.D:=zQ.2
   some ((y_,HT),())) (fun _=>
   some ((((0:Int),[],(0:Int),[],()),false),()))
 else none
def Wh.LG:=eB Wh.q44
theorem Wh.DD:OV Wh.q44 Wh.LG:=fe _
def Wh.q70 (xs:(Int)):Option (((Int))×(Unit)):=
 let NG:=xs
 some ((Int.tmod NG (2:Int)),())
def Wh.q70':=eB Wh.q70
theorem Wh.Qv:OV Wh.q70 Wh.q70':=fe _
abbrev Wh.P9:Type:=((Int)×(Unit))×((ct.D))
abbrev Wh.ZZ:Type:=((((Bool))×(Unit))⊕((Unit)×(Unit)))
def Wh.BL (x:Wh.P9):Option (Wh.P9⊕Wh.ZZ):=
 let ye:=x.1.1
 let zZ:ct.D:=x.2
 let yR:Int:=(↑(List.length ((zZ.2.2.2.2.2).2.1)):Int)
 bif decide (ye<yR) then
  let so:fT.D:=List.getD ((zZ.2.2.2.2.2).2.1) (Int.toNat ye) ((0:Int),(0:Int),(0:Int),(0:Int),(0:Int),(0:Int),())
  bif iy [decide ((0:Int)≤ye),decide (ye<yR)] then
   let th:=Wh.yj (so.1,(0:Int),(3:Int))
   let HH:=Wh.yj (so.2.1,(1:Int),(99999:Int))
   let CM:=Wh.yj (so.2.2.1,(1:Int),(zZ.2.2.2).1.1)
   let CN:=Wh.yj ((so.2.2.2).1,(0:Int),(9999:Int))
   let HK:=Wh.yj (so.2.2.2.2.1,(0:Int),(3:Int))
   let HL:=Wh.yj ((so.2.2.2.2.2).1,(0:Int),zZ.2.1)
   let v_48:=bif bif bif bif bif bif !th.1 then true else bif decide (ye>(0:Int)) then decide (Prod.fst (List.getD ((zZ.2.2.2.2.2).2.1) (Int.toNat (IntKind.wrap .i64 (ye-(1:Int)))) ((0:Int),(0:Int),(0:Int),(0:Int),(0:Int),(0:Int),()))≥so.1) else false then true else !HH.1 then true else !CM.1 then true else !CN.1 then true else !HK.1 then true else !HL.1
   bif iy [(!!bif bif bif bif bif !th.1 then true else bif decide (ye>(0:Int)) then decide (Prod.fst (List.getD ((zZ.2.2.2.2.2).2.1) (Int.toNat (IntKind.wrap .i64 (ye-(1:Int)))) ((0:Int),(0:Int),(0:Int),(0:Int),(0:Int),(0:Int),()))≥so.1) else false then true else !HH.1 then true else !CM.1 then true else !CN.1 then true else !HK.1) || nQ (Wh.xW ((so.2.2.2.2.2).1,(0:Int),zZ.2.1)),(!!bif bif bif bif !th.1 then true else bif decide (ye>(0:Int)) then decide (Prod.fst (List.getD ((zZ.2.2.2.2.2).2.1) (Int.toNat (IntKind.wrap .i64 (ye-(1:Int)))) ((0:Int),(0:Int),(0:Int),(0:Int),(0:Int),(0:Int),()))≥so.1) else false then true else !HH.1 then true else !CM.1 then true else !CN.1) || nQ (Wh.xW (so.2.2.2.2.1,(0:Int),(3:Int))),(!!bif bif bif !th.1 then true else bif decide (ye>(0:Int)) then decide (Prod.fst (List.getD ((zZ.2.2.2.2.2).2.1) (Int.toNat (IntKind.wrap .i64 (ye-(1:Int)))) ((0:Int),(0:Int),(0:Int),(0:Int),(0:Int),(0:Int),()))≥so.1) else false then true else !HH.1 then true else !CM.1) || nQ (Wh.xW ((so.2.2.2).1,(0:Int),(9999:Int))),(!!bif bif !th.1 then true else bif decide (ye>(0:Int)) then decide (Prod.fst (List.getD ((zZ.2.2.2.2.2).2.1) (Int.toNat (IntKind.wrap .i64 (ye-(1:Int)))) ((0:Int),(0:Int),(0:Int),(0:Int),(0:Int),(0:Int),()))≥so.1) else false then true else !HH.1) || nQ (Wh.xW (so.2.2.1,(1:Int),(zZ.2.2.2).1.1)),(!!bif !th.1 then true else bif decide (ye>(0:Int)) then decide (Prod.fst (List.getD ((zZ.2.2.2.2.2).2.1) (Int.toNat (IntKind.wrap .i64 (ye-(1:Int)))) ((0:Int),(0:Int),(0:Int),(0:Int),(0:Int),(0:Int),()))≥so.1) else false) || nQ (Wh.xW (so.2.1,(1:Int),(99999:Int))),!(decide (ye>(0:Int)) && !!th.1) || decide ((0:Int)≤IntKind.wrap .i64 (ye-(1:Int))),!(decide (ye>(0:Int)) && !!th.1) || decide (IntKind.wrap .i64 (ye-(1:Int))<yR),nQ (Wh.xW (so.1,(0:Int),(3:Int)))] then
    bif v_48 then
     some (.inr (.inl (false,())))
    else
     let r_49:((an.D)×Bool)×Unit:=Wh.LG ((zZ.2.2.2).1,so.2.2.1)
     bif iy [nQ (Wh.q44 ((zZ.2.2.2).1,so.2.2.1))] then
      let r_50:=Wh.q70' so.1
      let BX:=bif r_49.1.2 then r_49.1.1.1 != r_50.1 else false
      bif iy [!r_49.1.2 || nQ (Wh.q70 so.1)] then
       bif BX then
        some (.inr (.inl (false,())))
       else
        some (.inl (((IntKind.wrap .i64 (ye+(1:Int))),()),zZ))
      else none
     else none
   else none
  else none
 else
  some (.inr (.inr ((),())))
def Wh.UT:(((Bool))×(Unit))⊕((Unit)×(Unit)):=.inl default
def Wh.q43 (xs:(ct.D)):Option (((Bool))×(Unit)):=
 let cx:ct.D:=xs
 let x_53:Wh.P9:=(((0:Int),()),cx)
 bif lF Wh.BL x_53 then
  sumC (kG Wh.BL Wh.UT x_53) (fun y_54=>
   let v_56:=y_54.1
   some (v_56,())) (fun _=>
   some (true,()))
 else none
def Wh.q43':=eB Wh.q43
theorem Wh.q43_v:OV Wh.q43 Wh.q43':=fe _
def Wh.BR (xs:(yA.D)):Option (((Int))×(Unit)):=
 let s_:yA.D:=xs
 bif iy [s_.2.1 != (0:Int)] then
  some ((IntKind.wrap .i64 (Int.tdiv (IntKind.wrap .i64 ((IntKind.wrap .i64 (s_.1+s_.2.1))-(1:Int))) s_.2.1)),())
 else none
def Wh.F9:=eB Wh.BR
theorem Wh.CL:OV Wh.BR Wh.F9:=fe _
abbrev Wh.PI:Type:=((Unit)×(Unit))×(((Int)×((Int)×((Unit)×((Unit)×(Unit)))))×((Int)×((Int)×((Unit)×((Unit)×(Unit)))))×(List (Int))×(List (Int))×(List (Int))×(List (Int)))
abbrev Wh.ZJ:Type:=((((Unit)×(Unit))×(((Int)×((Int)×((Unit)×((Unit)×(Unit)))))×((Int)×((Int)×((Unit)×((Unit)×(Unit)))))×(List (Int))×(List (Int))×(List (Int))×(List (Int)))))
def Wh.Cp (x:Wh.PI):Option (Wh.PI⊕Wh.ZJ):=
 let yC:=x.2.1.1
 let yh:Int:=(x.2.1.2).1
 let AU:Unit:=(x.2.1.2.2.2).2
 let yx:=x.2.2.1.1
 let vT:Int:=(x.2.2.1).2.1
 let x8:Unit:=(x.2.2.1).2.2.2.2
 let zv:List Int:=(x.2.2.2).1
 let y7:=x.2.2.2.2.1
 let y8:List Int:=(x.2.2.2.2.2).1
 let zJ:List Int:=(x.2.2.2.2.2).2
 let r_24:=Wh.F9 (yC,yh,zv,y7,AU)
 bif iy [nQ (Wh.BR (yC,yh,zv,y7,AU))] then
  bif decide (r_24.1>(24:Int)) then
   some (.inl (((),()),(yC,(IntKind.wrap .i64 (yh+(1:Int))),(),(),AU),(yx,vT,(),(),x8),zv,y7,y8,zJ))
  else
   some (.inr (((),()),(yx,vT,(),(),x8),(yC,yh,(),(),AU),y8,zJ,zv,y7))
 else none
def Wh.Uy:(((Unit)×(Unit))×(((Int)×((Int)×((Unit)×((Unit)×(Unit)))))×((Int)×((Int)×((Unit)×((Unit)×(Unit)))))×(List (Int))×(List (Int))×(List (Int))×(List (Int)))):=default
def Wh.Dq (xs:(Int)):Option ((((Int)×((Int)×((List (Int))×((List (Int))×(Unit))))))×(Unit)):=
 let G4:=xs
 let H6:Wh.PI:=(((),()),(G4,(8:Int),(),(),()),((0:Int),(0:Int),(),(),()),[],[],[],[])
 bif lF Wh.Cp H6 then
  let Fo:=kG Wh.Cp Wh.Uy H6
  let y_:=Fo.2.2.1.1
  let z6:Int:=(Fo.2.2.1).2.1
  let x9:Unit:=(Fo.2.2.1).2.2.2.2
  let KU:List Int:=(Fo.2.2.2.2.2).1
  let zm:List Int:=(Fo.2.2.2.2.2).2
  let LP:=Wh.F9 (y_,z6,KU,zm,x9)
  bif iy [nQ (Wh.BR (y_,z6,KU,zm,x9))] then
   let k_42:=IntKind.wrap .i64 (Int.tdiv (IntKind.wrap .i64 (LP.1+(3:Int))) (4:Int))
   bif decide (k_42<LP.1) then
    let pb_44:List Int:=[k_42,LP.1]
    some ((y_,z6,pb_44,[(2:Int),(3:Int)],x9),())
   else
    let OE:List Int:=[LP.1]
    some ((y_,z6,OE,[(1:Int)],x9),())
  else none
 else none
def Wh.Ht:=eB Wh.Dq
theorem Wh.Lw:OV Wh.Dq Wh.Ht:=fe _
def Wh.q68 (xs:(fN.D)):Option (((Bool))×(Unit)):=
 let yH:fN.D:=xs
 let r_1:=Wh.yj (yH.2.1,(0:Int),(99999:Int))
 let r_2:=Wh.yj (yH.1,(0:Int),yH.2.1)
 let xX:=Wh.yj (yH.2.2.1,(0:Int),(99999:Int))
 let xd:=Wh.yj ((yH.2.2.2).1,(0:Int),(99999:Int))
 let Ad:=bif bif bif r_1.1 then r_2.1 else false then xX.1 else false then xd.1 else false
 bif iy [(!bif bif r_1.1 then r_2.1 else false then xX.1 else false) || nQ (Wh.xW ((yH.2.2.2).1,(0:Int),(99999:Int))),(!bif r_1.1 then r_2.1 else false) || nQ (Wh.xW (yH.2.2.1,(0:Int),(99999:Int))),!r_1.1 || nQ (Wh.xW (yH.1,(0:Int),yH.2.1)),nQ (Wh.xW (yH.2.1,(0:Int),(99999:Int)))] then
  some (Ad,())
 else none
def Wh.q68':=eB Wh.q68
theorem Wh.q68_v:OV Wh.q68 Wh.q68':=fe _
abbrev Wh.Qt:Type:=((Int)×(Unit))×((ct.D))
abbrev Wh.aai:Type:=((((Bool))×(Unit))⊕((Unit)×(Unit)))
def Wh.CG (x:Wh.Qt):Option (Wh.Qt⊕Wh.aai):=
 let h_80:=x.1.1
 let KX:ct.D:=x.2
 let v_82:Int:=(↑(List.length ((KX.2.2.2.2.2).1)):Int)
 bif decide (h_80<v_82) then
  let Hg:fN.D:=List.getD ((KX.2.2.2.2.2).1) (Int.toNat h_80) ((0:Int),(0:Int),(0:Int),(0:Int),())
  bif iy [decide ((0:Int)≤h_80),decide (h_80<v_82)] then
   let r_85:=Wh.q68' Hg
   let L7:=bif bif bif !r_85.1 then true else Hg.2.1 != (40:Int) then true else Hg.2.2.1 != (8:Int) then true else decide ((Hg.2.2.2).1>KX.2.1)
   bif iy [nQ (Wh.q68 Hg)] then
    bif L7 then
     some (.inr (.inl (false,())))
    else
     some (.inl (((IntKind.wrap .i64 (h_80+(1:Int))),()),KX))
   else none
  else none
 else
  some (.inr (.inr ((),())))
def Wh.Vb:(((Bool))×(Unit))⊕((Unit)×(Unit)):=.inl default
abbrev Wh.Qs:Type:=((Int)×(Unit))×((ct.D))
abbrev Wh.aah:Type:=((((Bool))×(Unit))⊕(((Unit))×((ct.D))))
def Wh.AH (x:Wh.Qs):Option (Wh.Qs⊕Wh.aah):=
 let An:=x.1.1
 let En:ct.D:=x.2
 let BX:Int:=(↑(List.length ((En.2.2.2.2.1).1)):Int)
 bif decide (An<BX) then
  let yQ:((an.D)×Bool)×Unit:=Wh.LG ((En.2.2.2).1,Prod.fst (Prod.snd (List.getD ((En.2.2.2.2.1).1) (Int.toNat An) ((0:Int),(0:Int),(0:Int),(0:Int),false,()))))
  let xQ:eA.D:=List.getD ((En.2.2.2.2.1).1) (Int.toNat An) ((0:Int),(0:Int),(0:Int),(0:Int),false,())
  bif iy [nQ (Wh.q44 ((En.2.2.2).1,xQ.2.1)),decide ((0:Int)≤An),decide (An<BX)] then
   let BT:(yA.D)×Unit:=Wh.Ht (↑(List.length ((yQ.1.1.2.2.2).1)):Int)
   let r_60:=Wh.F9 (BT.1.1,BT.1.2.1,bif(!bif !yQ.1.2 then true else yQ.1.1.1 != xQ.1)&&(decide (xQ.2.1>(0:Int)) && !decide ((xQ.2.2.2).1>(0:Int))) then(BT.1.2.2).1 else [],bif(!bif !yQ.1.2 then true else yQ.1.1.1 != xQ.1)&&(decide (xQ.2.1>(0:Int)) && !decide ((xQ.2.2.2).1>(0:Int))) then BT.1.2.2.2.1 else [],BT.1.2.2.2.2)
   let Gf:=bif decide ((xQ.2.2.2).1>(0:Int)) then true else bif decide (xQ.2.1>(0:Int)) then bif bif !yQ.1.2 then true else yQ.1.1.1 != xQ.1 then true else decide (xQ.2.2.1≥r_60.1) else false
   bif iy [!((!bif !yQ.1.2 then true else yQ.1.1.1 != xQ.1)&&(decide (xQ.2.1>(0:Int)) && !decide ((xQ.2.2.2).1>(0:Int)))) || nQ (Wh.BR (BT.1.1,BT.1.2.1,bif(!bif !yQ.1.2 then true else yQ.1.1.1 != xQ.1)&&(decide (xQ.2.1>(0:Int)) && !decide ((xQ.2.2.2).1>(0:Int))) then(BT.1.2.2).1 else [],bif(!bif !yQ.1.2 then true else yQ.1.1.1 != xQ.1)&&(decide (xQ.2.1>(0:Int)) && !decide ((xQ.2.2.2).1>(0:Int))) then BT.1.2.2.2.1 else [],BT.1.2.2.2.2)),!((!bif !yQ.1.2 then true else yQ.1.1.1 != xQ.1)&&(decide (xQ.2.1>(0:Int)) && !decide ((xQ.2.2.2).1>(0:Int)))) || nQ (Wh.Dq (↑(List.length ((yQ.1.1.2.2.2).1)):Int)),!((!bif !yQ.1.2 then true else yQ.1.1.1 != xQ.1)&&(decide (xQ.2.1>(0:Int)) && !decide ((xQ.2.2.2).1>(0:Int)))) || decide ((0:Int)≤An),!((!bif !yQ.1.2 then true else yQ.1.1.1 != xQ.1)&&(decide (xQ.2.1>(0:Int)) && !decide ((xQ.2.2.2).1>(0:Int)))) || decide (An<BX),!(!!yQ.1.2&&(decide (xQ.2.1>(0:Int)) && !decide ((xQ.2.2.2).1>(0:Int)))) || decide ((0:Int)≤An),!(!!yQ.1.2&&(decide (xQ.2.1>(0:Int)) && !decide ((xQ.2.2.2).1>(0:Int)))) || decide (An<BX),!!decide ((xQ.2.2.2).1>(0:Int)) || decide ((0:Int)≤An),!!decide ((xQ.2.2.2).1>(0:Int)) || decide (An<BX),decide ((0:Int)≤An),decide (An<BX)] then
    bif Gf then
     some (.inr (.inl (false,())))
    else
     some (.inl (((IntKind.wrap .i64 (An+(1:Int))),()),En))
   else none
  else none
 else
  some (.inr (.inr ((),En)))
def Wh.Va:(((Bool))×(Unit))⊕(((Unit))×((ct.D))):=.inl default
def Wh.q69 (xs:(ct.D)):Option (((Bool))×(Unit)):=
 let cx:ct.D:=xs
 let r_1:=Wh.yj (cx.2.1,(0:Int),(99999:Int))
 let v_2:=bif !r_1.1 then true else decide ((↑(List.length (cx.2.2.1)):Int)>(9000:Int))
 bif iy [nQ (Wh.xW (cx.2.1,(0:Int),(99999:Int)))] then
  bif v_2 then
   some (false,())
  else
   bif(!cx.1) then
    let yq:Int:=(↑(List.length ((cx.2.2.2).1.2.1)):Int)
    let nc:=Wh.q95' cx
    let nI:=bif bif bif bif bif bif yq==(0:Int) then(cx.2.2.2).1.1==(0:Int) else false then(↑(List.length ((cx.2.2.2.2.1).1)):Int)==(0:Int) else false then(cx.2.2.2.2.1).2.1==(0:Int) else false then(↑(List.length ((cx.2.2.2.2.2).1)):Int)==(0:Int) else false then(↑(List.length ((cx.2.2.2.2.2).2.1)):Int)==(0:Int) else false then nc.1 else false
    bif iy [(!bif bif bif bif bif yq==(0:Int) then(cx.2.2.2).1.1==(0:Int) else false then(↑(List.length ((cx.2.2.2.2.1).1)):Int)==(0:Int) else false then(cx.2.2.2.2.1).2.1==(0:Int) else false then(↑(List.length ((cx.2.2.2.2.2).1)):Int)==(0:Int) else false then(↑(List.length ((cx.2.2.2.2.2).2.1)):Int)==(0:Int) else false) || nQ (Wh.q95 cx)] then
     some (nI,())
    else none
   else
    let yL:(List (List UInt8)×Int)×Unit:=Wh.FX (cx.2.2.1)
    bif iy [nQ (Wh.Ba (cx.2.2.1))] then
     let Fa:((bx.D)×Bool)×Unit:=Wh.Lq yL.1.1
     bif iy [nQ (Wh.Dh yL.1.1)] then
      let ym:= !Fa.1.2
      let AY:=Wh.q94' (Fa.1.1,(cx.2.2.2).1)
      let HG:=Wh.O2 (cx.2.2.2.2.1)
      let AZ:=Wh.q43' cx
      let A0:=bif bif bif bif bif ym then true else yL.1.2 != (↑(List.length (cx.2.2.1)):Int) then true else !AY.1 then true else !HG.1 then true else(↑(List.length ((cx.2.2.2.2.2).1)):Int) != (2:Int) then true else !AZ.1
      bif iy [(!!bif bif bif bif ym then true else yL.1.2 != (↑(List.length (cx.2.2.1)):Int) then true else !AY.1 then true else !HG.1 then true else(↑(List.length ((cx.2.2.2.2.2).1)):Int) != (2:Int)) || nQ (Wh.q43 cx),(!!bif bif ym then true else yL.1.2 != (↑(List.length (cx.2.2.1)):Int) then true else !AY.1) || nQ (Wh.Dd (cx.2.2.2.2.1)),(!!bif ym then true else yL.1.2 != (↑(List.length (cx.2.2.1)):Int)) || nQ (Wh.CJ (Fa.1.1,(cx.2.2.2).1))] then
       bif A0 then
        some (false,())
       else
        let x_63:Wh.Qs:=(((0:Int),()),cx)
        bif lF Wh.AH x_63 then
         sumC (kG Wh.AH Wh.Va x_63) (fun y_64=>
          let v_66:=y_64.1
          some (v_66,())) (fun z_65=>
          let G7:ct.D:=z_65.2
          let x_92:Wh.Qt:=(((0:Int),()),G7)
          bif lF Wh.CG x_92 then
           sumC (kG Wh.CG Wh.Vb x_92) (fun y_93=>
            let v_95:=y_93.1
            some (v_95,())) (fun _=>
            some (true,()))
          else none)
        else none
      else none
     else none
    else none
 else none
def Wh.q69':=eB Wh.q69
theorem Wh.Qu:OV Wh.q69 Wh.q69':=fe _
def Wh.yc (xs:(Int)×(Int)×(Int)):Option (((Bool))×(Unit)):=
 let yy:=xs.1
 let N4:=xs.2.1
 let NR:=xs.2.2
 let xY:=bif decide (yy≥N4) then decide (yy≤NR) else false
 some (xY,())
def Wh.yK:=eB Wh.yc
theorem Wh.zo:OV Wh.yc Wh.yK:=fe _
def Wh.z8 (xs:(Int)×(Int)):Option (((Int))×(Unit)):=
 let yu:=xs.1
 let by_1:=xs.2
 let v_2:Int:=Int.fdiv yu ((2:Int) ^ Min.min (Int.toNat by_1) (Go.IntKind.bits Go.IntKind.u32))
 let r5:=IntKind.wrap .i64 ((32:Int)-by_1)
 let zh:Int:=nj Go.BinOp.or Go.IntKind.u32 v_2 (IntKind.wrap .u32 (yu*(2:Int) ^ Min.min (Int.toNat r5) (Go.IntKind.bits Go.IntKind.u32)))
 bif iy [decide ((0:Int)≤r5),decide ((0:Int)≤by_1)] then
  some (zh,())
 else none
def Wh.AD:=eB Wh.z8
theorem Wh.q104_v:OV Wh.z8 Wh.AD:=fe _
abbrev Wh.Ql:Type:=((Int)×(Unit)×(List (Int)))×((List (Int)))
abbrev Wh.aab:Type:=((((Unit))×((List (Int)))))
def Wh.Hy (x:Wh.Ql):Option (Wh.Ql⊕Wh.aab):=
 let HX:=x.1.1
 let v_572:=x.1.2.2
 let Oe:=x.2
 bif decide (HX<(8:Int)) then
  let L6:=List.getD v_572 (Int.toNat HX) (0:Int)
  bif iy [decide ((0:Int)≤HX),decide (HX<(↑(nat_lit 8):Int))] then
   let pb_576:List Int:=[IntKind.wrap .u8 (Int.fdiv L6 ((2:Int) ^ Min.min (Int.toNat (24:Int)) (Go.IntKind.bits Go.IntKind.u32))),IntKind.wrap .u8 (Int.fdiv L6 ((2:Int) ^ Min.min (Int.toNat (16:Int)) (Go.IntKind.bits Go.IntKind.u32))),IntKind.wrap .u8 (Int.fdiv L6 ((2:Int) ^ Min.min (Int.toNat (8:Int)) (Go.IntKind.bits Go.IntKind.u32))),IntKind.wrap .u8 L6]
   let ls_577:=Oe++pb_576
   bif iy [decide (List.length Oe+(4:Nat)≤dh),true,true,true] then
    some (.inl (((IntKind.wrap .i64 (HX+(1:Int))),(),v_572),ls_577))
   else none
  else none
 else
  some (.inr ((),Oe))
def Wh.U5:(((Unit))×((List (Int)))):=default
abbrev Wh.Qk:Type:=((Int)×(Unit)×(Unit)×(Nat×Nat))×((List (Int))×(List (Int))×(List (Int)))
abbrev Wh.aaa:Type:=((((Unit)×(Nat×Nat))×((List (Int))×(List (Int)))))
def Wh.Hx (x:Wh.Qk):Option (Wh.Qk⊕Wh.aaa):=
 let Bj:=x.1.1
 let b_510:=x.1.2.2.2.1
 let b_511:=x.1.2.2.2.2
 let Oc:=x.2.1
 let SH:=x.2.2.1
 let SI:=x.2.2.2
 bif decide (Bj<(8:Int)) then
  let ls_516:=List.set Oc (Int.toNat Bj) (IntKind.wrap .u32 (List.getD Oc (Int.toNat Bj) (0:Int)+List.getD SH (Int.toNat Bj) (0:Int)))
  bif iy [decide ((0:Int)≤Bj),decide (Bj<(↑(8:Nat):Int)),decide ((0:Int)≤Bj),decide (Bj<(↑(8:Nat):Int)),decide ((0:Int)≤Bj),decide (Bj<(↑(8:Nat):Int))] then
   some (.inl (((IntKind.wrap .i64 (Bj+(1:Int))),(),(),b_510,b_511),ls_516,SH,SI))
  else none
 else
  some (.inr (((),b_510,b_511),Oc,SI))
def Wh.U4:(((Unit)×(Nat×Nat))×((List (Int))×(List (Int)))):=default
abbrev Wh.Qj:Type:=((Int)×(Unit)×(Unit)×(Unit)×(Nat×Nat))×((List (Int))×(List (Int))×(List (Int))×(List (Int)))
abbrev Wh.Z_:Type:=((((Unit)×(Unit)×(Nat×Nat))×((List (Int))×(List (Int))×(List (Int)))))
def Wh.EZ (x:Wh.Qj):Option (Wh.Qj⊕Wh.Z_):=
 let DY:=x.1.1
 let b_447:Nat:=(x.1.2.2.2.2).1
 let b_448:Nat:=(x.1.2.2.2.2).2
 let Ca:=x.2.1
 let SE:=x.2.2.1
 let SF:List Int:=(x.2.2.2).1
 let SG:=x.2.2.2.2
 bif decide (DY<(64:Int)) then
  let CS:=List.getD Ca (Int.toNat (4:Int)) (0:Int)
  let CT:=List.getD Ca (Int.toNat (0:Int)) (0:Int)
  let v_456:=List.getD Ca (Int.toNat (7:Int)) (0:Int)
  let r_457:=Wh.AD (CS,(6:Int))
  let r_458:=Wh.AD (CS,(11:Int))
  let r_460:=Wh.AD (CS,(25:Int))
  let v_463:=List.getD Ca (Int.toNat (5:Int)) (0:Int)
  let v_464:=List.getD Ca (Int.toNat (6:Int)) (0:Int)
  let v_468:=List.getD Wh.A4 (Int.toNat DY) (0:Int)
  let v_470:=List.getD SE (Int.toNat DY) (0:Int)
  let TF:=IntKind.wrap .u32 (IntKind.wrap .u32 (IntKind.wrap .u32 (IntKind.wrap .u32 (v_456+nj Go.BinOp.xor Go.IntKind.u32 (nj Go.BinOp.xor Go.IntKind.u32 r_457.1 r_458.1) r_460.1)+nj Go.BinOp.xor Go.IntKind.u32 (nj Go.BinOp.and Go.IntKind.u32 CS v_463) (nj Go.BinOp.and Go.IntKind.u32 (nj Go.BinOp.xor Go.IntKind.u32 (Go.IntKind.max Go.IntKind.u32) CS) v_464))+v_468)+v_470)
  bif iy [decide ((0:Int)≤DY),decide (DY<(↑(64:Nat):Int)),decide ((0:Int)≤DY),decide (DY<(↑(64:Nat):Int)),true,true,true,true,nQ (Wh.z8 (CS,(25:Int))),nQ (Wh.z8 (CS,(11:Int))),nQ (Wh.z8 (CS,(6:Int))),true,true] then
   let r_473:=Wh.AD (CT,(2:Int))
   let r_474:=Wh.AD (CT,(13:Int))
   let r_476:=Wh.AD (CT,(22:Int))
   let Q3:=List.getD Ca (Int.toNat (1:Int)) (0:Int)
   let Q4:=List.getD Ca (Int.toNat (2:Int)) (0:Int)
   bif iy [true,true,true,true,true,true,true,true,nQ (Wh.z8 (CT,(22:Int))),nQ (Wh.z8 (CT,(13:Int))),nQ (Wh.z8 (CT,(2:Int)))] then
    let ls_484:List Int:=[IntKind.wrap .u32 (TF+(IntKind.wrap .u32 (nj Go.BinOp.xor Go.IntKind.u32 (nj Go.BinOp.xor Go.IntKind.u32 r_473.1 r_474.1) r_476.1+nj Go.BinOp.xor Go.IntKind.u32 (nj Go.BinOp.xor Go.IntKind.u32 (nj Go.BinOp.and Go.IntKind.u32 CT Q3) (nj Go.BinOp.and Go.IntKind.u32 CT Q4)) (nj Go.BinOp.and Go.IntKind.u32 Q3 Q4)))),CT,Q3,Q4,IntKind.wrap .u32 (List.getD Ca (Int.toNat (3:Int)) (0:Int)+TF),CS,v_463,v_464]
    some (.inl (((IntKind.wrap .i64 (DY+(1:Int))),(),(),(),b_447,b_448),ls_484,SE,SF,SG))
   else none
  else none
 else
  some (.inr (((),(),b_447,b_448),SF,Ca,SG))
def Wh.U3:(((Unit)×(Unit)×(Nat×Nat))×((List (Int))×(List (Int))×(List (Int)))):=default
abbrev Wh.Qi:Type:=((Int)×(Unit)×(Nat×Nat)×(Unit))×((List (Int))×(List (Int))×(List (Int)))
abbrev Wh.Z9:Type:=((((Unit)×(Unit)×(Nat×Nat))×((List (Int))×(List (Int))×(List (Int)))))
def Wh.DH (x:Wh.Qi):Option (Wh.Qi⊕Wh.Z9):=
 let yW:=x.1.1
 let D9:Nat:=(x.1.2.2).1.1
 let D_:Nat:=(x.1.2.2).1.2
 let El:=x.2.1
 let Em:=x.2.2.1
 let N_:=x.2.2.2
 bif decide (yW<(64:Int)) then
  bif decide (yW<(16:Int)) then
   let ls_346:=List.set El (Int.toNat yW) (nj Go.BinOp.or Go.IntKind.u32 (nj Go.BinOp.or Go.IntKind.u32 (nj Go.BinOp.or Go.IntKind.u32 (IntKind.wrap .u32 (IntKind.wrap .u32 (List.getD Em (D9+Int.toNat (IntKind.wrap .i64 ((4:Int)*yW))) (0:Int))*(2:Int) ^ Min.min (Int.toNat (24:Int)) (Go.IntKind.bits Go.IntKind.u32))) (IntKind.wrap .u32 (IntKind.wrap .u32 (List.getD Em (D9+Int.toNat (IntKind.wrap .i64 (IntKind.wrap .i64 ((4:Int)*yW)+(1:Int)))) (0:Int))*(2:Int) ^ Min.min (Int.toNat (16:Int)) (Go.IntKind.bits Go.IntKind.u32)))) (IntKind.wrap .u32 (IntKind.wrap .u32 (List.getD Em (D9+Int.toNat (IntKind.wrap .i64 (IntKind.wrap .i64 ((4:Int)*yW)+(2:Int)))) (0:Int))*(2:Int) ^ Min.min (Int.toNat (8:Int)) (Go.IntKind.bits Go.IntKind.u32)))) (IntKind.wrap .u32 (List.getD Em (D9+Int.toNat (IntKind.wrap .i64 (IntKind.wrap .i64 ((4:Int)*yW)+(3:Int)))) (0:Int))))
   let DX:=IntKind.wrap .i64 ((4:Int)*yW)
   bif iy [decide ((0:Int)≤yW),decide (yW<(↑(64:Nat):Int)),decide ((0:Int)≤IntKind.wrap .i64 (DX+(3:Int))),decide (IntKind.wrap .i64 (DX+(3:Int))<(↑D_:Int)),true,decide ((0:Int)≤IntKind.wrap .i64 (DX+(2:Int))),decide (IntKind.wrap .i64 (DX+(2:Int))<(↑D_:Int)),true,decide ((0:Int)≤IntKind.wrap .i64 (DX+(1:Int))),decide (IntKind.wrap .i64 (DX+(1:Int))<(↑D_:Int)),true,decide ((0:Int)≤DX),decide (DX<(↑D_:Int))] then
    some (.inl (((IntKind.wrap .i64 (yW+(1:Int))),(),(D9,D_),()),ls_346,Em,N_))
   else none
  else
   let Q1:=IntKind.wrap .i64 (yW-(15:Int))
   let Q2:=IntKind.wrap .i64 (yW-(2:Int))
   let H9:=List.getD El (Int.toNat Q1) (0:Int)
   let Ih:=List.getD El (Int.toNat Q2) (0:Int)
   bif iy [decide ((0:Int)≤Q2),decide (Q2<(↑(64:Nat):Int)),decide ((0:Int)≤Q1),decide (Q1<(↑(64:Nat):Int))] then
    let r_376:=Wh.AD (H9,(7:Int))
    let r_377:=Wh.AD (H9,(18:Int))
    let r_378:=Wh.AD (Ih,(17:Int))
    let r_379:=Wh.AD (Ih,(19:Int))
    let ls_380:=List.set El (Int.toNat yW) (IntKind.wrap .u32 (IntKind.wrap .u32 (IntKind.wrap .u32 (List.getD El (Int.toNat (IntKind.wrap .i64 (yW-(16:Int)))) (0:Int)+List.getD El (Int.toNat (IntKind.wrap .i64 (yW-(7:Int)))) (0:Int))+nj Go.BinOp.xor Go.IntKind.u32 (nj Go.BinOp.xor Go.IntKind.u32 r_376.1 r_377.1) (Int.fdiv H9 ((2:Int) ^ Min.min (Int.toNat (3:Int)) (Go.IntKind.bits Go.IntKind.u32))))+nj Go.BinOp.xor Go.IntKind.u32 (nj Go.BinOp.xor Go.IntKind.u32 r_378.1 r_379.1) (Int.fdiv Ih ((2:Int) ^ Min.min (Int.toNat (10:Int)) (Go.IntKind.bits Go.IntKind.u32)))))
    let v_381:=IntKind.wrap .i64 (yW-(16:Int))
    let v_383:=IntKind.wrap .i64 (yW-(7:Int))
    bif iy [decide ((0:Int)≤yW),decide (yW<(↑(64:Nat):Int)),true,nQ (Wh.z8 (Ih,(19:Int))),nQ (Wh.z8 (Ih,(17:Int))),true,nQ (Wh.z8 (H9,(18:Int))),nQ (Wh.z8 (H9,(7:Int))),decide ((0:Int)≤v_383),decide (v_383<(↑(64:Nat):Int)),decide ((0:Int)≤v_381),decide (v_381<(↑(64:Nat):Int))] then
     some (.inl (((IntKind.wrap .i64 (yW+(1:Int))),(),(D9,D_),()),ls_380,Em,N_))
    else none
   else none
 else
  some (.inr (((),(),D9,D_),El,N_,Em))
def Wh.U2:(((Unit)×(Unit)×(Nat×Nat))×((List (Int))×(List (Int))×(List (Int)))):=default
abbrev Wh.Qh:Type:=((Nat×Nat)×(Unit))×((List (Int))×(List (Int)))
abbrev Wh.Z8:Type:=((((Unit))×((List (Int)))))
def Wh.DG (x:Wh.Qh):Option (Wh.Qh⊕Wh.Z8):=
 let b_529:=x.1.1.1
 let b_530:=x.1.1.2
 let ls_531:=x.2.1
 let SJ:=x.2.2
 bif decide ((↑b_530:Int)>(0:Int)) then
  let pb_534:List Int:=[(0:Int),(0:Int),(0:Int),(0:Int),(0:Int),(0:Int),(0:Int),(0:Int),(0:Int),(0:Int),(0:Int),(0:Int),(0:Int),(0:Int),(0:Int),(0:Int),(0:Int),(0:Int),(0:Int),(0:Int),(0:Int),(0:Int),(0:Int),(0:Int),(0:Int),(0:Int),(0:Int),(0:Int),(0:Int),(0:Int),(0:Int),(0:Int),(0:Int),(0:Int),(0:Int),(0:Int),(0:Int),(0:Int),(0:Int),(0:Int),(0:Int),(0:Int),(0:Int),(0:Int),(0:Int),(0:Int),(0:Int),(0:Int),(0:Int),(0:Int),(0:Int),(0:Int),(0:Int),(0:Int),(0:Int),(0:Int),(0:Int),(0:Int),(0:Int),(0:Int),(0:Int),(0:Int),(0:Int),(0:Int)]
  let x_535:Wh.Qi:=(((0:Int),(),(b_529,b_530),()),pb_534,ls_531,SJ)
  bif lF Wh.DH x_535 then
   let Ij:=kG Wh.DH Wh.U2 x_535
   let b_537:Nat:=(Ij.1.2.2).1
   let b_538:=Ij.1.2.2.2
   let ls_539:=Ij.2.1
   let SK:=Ij.2.2.1
   let ls_541:=Ij.2.2.2
   let x_542:Wh.Qj:=(((0:Int),(),(),(),b_537,b_538),SK,ls_539,SK,ls_541)
   bif lF Wh.EZ x_542 then
    let Ik:=kG Wh.EZ Wh.U3 x_542
    let b_544:Nat:=(Ik.1.2.2).1
    let b_545:=Ik.1.2.2.2
    let ls_546:=Ik.2.1
    let ls_547:=Ik.2.2.1
    let ls_548:=Ik.2.2.2
    let x_549:Wh.Qk:=(((0:Int),(),(),b_544,b_545),ls_546,ls_547,ls_548)
    bif lF Wh.Hx x_549 then
     let L8:=kG Wh.Hx Wh.U4 x_549
     let b_551:=L8.1.2.1
     let NC:=L8.1.2.2
     let ls_553:=L8.2.1
     let SL:=L8.2.2
     let v_555:Nat:=Int.toNat ((↑NC:Int)-(64:Int))
     let v_556:Nat:=b_551+Int.toNat (64:Int)
     bif iy [true,decide ((64:Int)≤(↑NC:Int)),decide ((↑b_551:Int)+(↑NC:Int)≤(↑(List.length SL):Int))] then
      some (.inl (((v_556,v_555),()),SL,ls_553))
     else none
    else none
   else none
  else none
 else
  some (.inr ((),SJ))
def Wh.U1:(((Unit))×((List (Int)))):=default
abbrev Wh.Qg:Type:=((Int)×(Int)×(Unit)×(Unit))×((List (Int))×(List (Int)))
abbrev Wh.Z7:Type:=((((Unit)×(Unit))×((List (Int))×(List (Int)))))
def Wh.EY (x:Wh.Qg):Option (Wh.Qg⊕Wh.Z7):=
 let Ku:=x.1.1
 let Tw:=x.1.2.1
 let z6:=x.2.1
 let x9:=x.2.2
 bif decide (Ku≥(0:Int)) then
  let Lc:List Int:=[IntKind.wrap .u8 (Int.fdiv Tw ((2:Int) ^ Min.min (Int.toNat Ku) (Go.IntKind.bits Go.IntKind.u64)))]
  let KU:=z6++Lc
  bif iy [decide (List.length z6+(1:Nat)≤dh),decide ((0:Int)≤Ku)] then
   some (.inl (((IntKind.wrap .i64 (Ku-(8:Int))),Tw,(),()),KU,x9))
  else none
 else
  some (.inr (((),()),z6,x9))
def Wh.U0:(((Unit)×(Unit))×((List (Int))×(List (Int)))):=default
abbrev Wh.Qf:Type:=((Unit)×(Unit)×(List UInt8))×((List (Int))×(List (Int)))
abbrev Wh.Z6:Type:=((((Unit)×(Unit)×(List UInt8))×((List (Int))×(List (Int)))))
def Wh.DF (x:Wh.Qf):Option (Wh.Qf⊕Wh.Z6):=
 let CR:=x.1.2.2
 let KY:=x.2.1
 let C7:=x.2.2
 let yV:Bool:=(Int.tmod (↑(List.length KY):Int) (64:Int)) != (56:Int)
 bif yV then
  let ls_13:=KY ++ [(0:Int)]
  bif iy [decide (List.length KY+(1:Nat)≤dh)] then
   some (.inl (((),(),CR),ls_13,C7))
  else none
 else
  some (.inr (((),(),CR),KY,C7))
def Wh.UZ:(((Unit)×(Unit)×(List UInt8))×((List (Int))×(List (Int)))):=default
def Wh.q53 (xs:(List UInt8)):Option (((List UInt8))×(Unit)):=
 let yM:=xs
 let za:List Int:=bytesOf yM ++ [(128:Int)]
 bif iy [decide (List.length (bytesOf yM)+(1:Nat)≤dh),decide (List.length yM≤dh)] then
  let x_14:Wh.Qf:=(((),(),yM),za,[(1779033703:Int),(3144134277:Int),(1013904242:Int),(2773480762:Int),(1359893119:Int),(2600822924:Int),(528734635:Int),(1541459225:Int)])
  bif lF Wh.DF x_14 then
   let y_15:=kG Wh.DF Wh.UZ x_14
   let ack:=y_15.1.2.2
   let yx:=y_15.2.1
   let vT:=y_15.2.2
   let DZ:Wh.Qg:=(((56:Int),(IntKind.wrap .u64 ((IntKind.wrap .u64 (↑(List.length ack):Int))*(8:Int))),(),()),yx,vT)
   bif lF Wh.EY DZ then
    let Gj:=kG Wh.EY Wh.U0 DZ
    let KV:=Gj.2.1
    let FJ:=Gj.2.2
    let x_557:Wh.Qh:=((((0:Nat),List.length KV),()),KV,FJ)
    bif lF Wh.DG x_557 then
     let y_558:=kG Wh.DG Wh.U1 x_557
     let ls_559:=y_558.2
     let x_582:Wh.Ql:=(((0:Int),(),ls_559),[])
     bif lF Wh.Hy x_582 then
      let y_583:=kG Wh.Hy Wh.U5 x_582
      let ls_584:=y_583.2
      some (qp ls_584,())
     else none
    else none
   else none
  else none
 else none
def Wh.q53':=eB Wh.q53
theorem Wh.q53_v:OV Wh.q53 Wh.q53':=fe _
abbrev Wh.Pm:Type:=((Int)×(List UInt8)×(Unit))×((List (Int)))
abbrev Wh.ZA:Type:=((((Unit))×((List (Int)))))
def Wh.Ln (x:Wh.Pm):Option (Wh.Pm⊕Wh.ZA):=
 let Ei:=x.1.1
 let Bh:=x.1.2.1
 let yh:=x.2
 let xP:=decide (Ei<(↑(List.length Bh):Int))
 bif xP then
  let Es:List Int:=[(↑(UInt8.toNat (List.getD [(48:UInt8),(49:UInt8),(50:UInt8),(51:UInt8),(52:UInt8),(53:UInt8),(54:UInt8),(55:UInt8),(56:UInt8),(57:UInt8),(97:UInt8),(98:UInt8),(99:UInt8),(100:UInt8),(101:UInt8),(102:UInt8)] (Int.toNat (IntKind.wrap .u8 (Int.tdiv (↑(UInt8.toNat (List.getD Bh (Int.toNat Ei) (0:UInt8))):Int) (16:Int)))) (0:UInt8))):Int),(↑(UInt8.toNat (List.getD [(48:UInt8),(49:UInt8),(50:UInt8),(51:UInt8),(52:UInt8),(53:UInt8),(54:UInt8),(55:UInt8),(56:UInt8),(57:UInt8),(97:UInt8),(98:UInt8),(99:UInt8),(100:UInt8),(101:UInt8),(102:UInt8)] (Int.toNat (Int.tmod (↑(UInt8.toNat (List.getD Bh (Int.toNat Ei) (0:UInt8))):Int) (16:Int))) (0:UInt8))):Int)]
  let vT:=yh++Es
  let nI:Int:=(↑(UInt8.toNat (List.getD Bh (Int.toNat Ei) (0:UInt8))):Int)
  bif iy [decide (List.length yh+(2:Nat)≤dh),decide ((0:Int)≤Int.tmod nI (16:Int)),decide (Int.tmod nI (16:Int)<(↑(16:Nat):Int)),true,decide ((0:Int)≤Ei),xP,decide ((0:Int)≤IntKind.wrap .u8 (Int.tdiv nI (16:Int))),decide (IntKind.wrap .u8 (Int.tdiv nI (16:Int))<(↑(16:Nat):Int)),true,decide ((0:Int)≤Ei),xP] then
   some (.inl (((IntKind.wrap .i64 (Ei+(1:Int))),Bh,()),vT))
  else none
 else
  some (.inr ((),yh))
def Wh.Uj:(((Unit))×((List (Int)))):=default
def Wh.FZ (xs:(List UInt8)):Option (((List UInt8))×(Unit)):=
 let cx:=xs
 let x_25:Wh.Pm:=(((0:Int),cx,()),[])
 bif lF Wh.Ln x_25 then
  let Ae:=kG Wh.Ln Wh.Uj x_25
  let yT:=Ae.2
  some (qp yT,())
 else none
def Wh.Pk:=eB Wh.FZ
theorem Wh.Uk:OV Wh.FZ Wh.Pk:=fe _
def Wh.q74 (xs:(List UInt8)):Option (((List UInt8))×(Unit)):=
 let yM:=xs
 let r_1:xT.D:=Wh.q53' yM
 let r_3:xT.D:=Wh.Pk r_1.1
 bif iy [nQ (Wh.FZ r_1.1),nQ (Wh.q53 yM)] then
  some (r_3.1,())
 else none
def Wh.DM:=eB Wh.q74
theorem Wh.q74_v:OV Wh.q74 Wh.DM:=fe _
def Wh.q79 (xs:(Int)×(List UInt8)):Option (((List UInt8))×(Unit)):=
 let yy:=xs.1
 let xb:=xs.2
 let r_2:xT.D:=Wh.tJ yy
 let gz:xT.D:=Wh.tJ (↑(List.length xb):Int)
 let zX:=r_2.1 ++ [(32:UInt8)]++gz.1 ++ [(32:UInt8)]
 bif iy [decide (List.length (r_2.1 ++ [(32:UInt8)]++gz.1)+(1:Nat)≤dh),decide (List.length (r_2.1 ++ [(32:UInt8)])+List.length gz.1≤dh),nQ (Wh.strconv_Itoa (↑(List.length xb):Int)),decide (List.length r_2.1+(1:Nat)≤dh),nQ (Wh.strconv_Itoa yy)] then
  let yX:List UInt8:=zX++xb
  let yL:xT.D:=Wh.DM yX
  let w7:List UInt8:=zX++List.take (Int.toNat ((16:Int)-(0:Int))) (List.drop (Int.toNat (0:Int)) yL.1) ++ [(32:UInt8)]++xb ++ [(10:UInt8)]
  bif iy [decide (List.length (zX++List.take (Int.toNat ((16:Int)-(0:Int))) (List.drop (Int.toNat (0:Int)) ((Wh.DM yX).1)) ++ [(32:UInt8)]++xb)+(1:Nat)≤dh),decide (List.length (zX++List.take (Int.toNat ((16:Int)-(0:Int))) (List.drop (Int.toNat (0:Int)) ((Wh.DM yX).1)) ++ [(32:UInt8)])+List.length xb≤dh),decide (List.length (zX++List.take (Int.toNat ((16:Int)-(0:Int))) (List.drop (Int.toNat (0:Int)) ((Wh.DM yX).1)))+(1:Nat)≤dh),decide (List.length zX+List.length (List.take (Int.toNat ((16:Int)-(0:Int))) (List.drop (Int.toNat (0:Int)) ((Wh.DM yX).1)))≤dh),true,true,decide ((16:Int)≤(↑(List.length ((Wh.DM yX).1)):Int)),nQ (Wh.q74 yX),decide (List.length zX+List.length xb≤dh)] then
   some (w7,())
  else none
 else none
def Wh.HB:=eB Wh.q79
theorem Wh.LL:OV Wh.q79 Wh.HB:=fe _
def Wh.q6 (xs:(List UInt8)×(List UInt8)):Option (((Bool))×(Unit)):=
 let cx:=xs.1
 let C_:=xs.2
 let v_2:=decide ((↑(List.length cx):Int)≥(↑(List.length C_):Int))
 let yq:=bif v_2 then List.take (Int.toNat ((↑(List.length C_):Int)-(0:Int))) (List.drop (Int.toNat (0:Int)) cx)==C_ else false
 bif iy [!v_2 || decide ((0:Int)≤(0:Int)),!v_2 || decide ((0:Int)≤(↑(List.length C_):Int)),!v_2 || decide ((↑(List.length C_):Int)≤(↑(List.length cx):Int))] then
  some (yq,())
 else none
def Wh.q6':=eB Wh.q6
theorem Wh.q6_v:OV Wh.q6 Wh.q6':=fe _
def Wh.q11 (xs:(List UInt8)×(List UInt8)):Option (((Bool))×(Unit)):=
 let cx:=xs.1
 let C_:=xs.2
 let r_2:=Wh.q6' (cx,C_)
 bif iy [nQ (Wh.q6 (cx,C_))] then
  some (r_2.1,())
 else none
def Wh.q11':=eB Wh.q11
theorem Wh.Pa:OV Wh.q11 Wh.q11':=fe _
abbrev Wh.Qz:Type:=((Int)×(Unit)×(List UInt8))×((List (List UInt8)))
abbrev Wh.aal:Type:=((((Unit)×(Int))×((List (List UInt8)))))
def Wh.BQ (x:Wh.Qz):Option (Wh.Qz⊕Wh.aal):=
 let A2:=x.1.1
 let AR:=x.1.2.2
 let G6:List (List UInt8):=x.2
 let Ge:List UInt8:=List.take (Int.toNat ((↑(List.length AR):Int)-A2)) (List.drop (Int.toNat A2) AR)
 let LS:(List UInt8×List UInt8×Bool)×Unit:=Wh.tK (Ge,[(32:UInt8)])
 bif iy [nQ (Wh.strings_Cut (Ge,[(32:UInt8)])),decide ((0:Int)≤A2),decide (A2≤(↑(List.length AR):Int)),decide ((↑(List.length AR):Int)≤(↑(List.length AR):Int))] then
  let r_66:(List UInt8×List UInt8×Bool)×Unit:=Wh.tK (LS.1.2.1,[(32:UInt8)])
  bif iy [nQ (Wh.strings_Cut (LS.1.2.1,[(32:UInt8)]))] then
   let CP:(Int×Bool)×Unit:=Wh.rW r_66.1.1
   bif iy [nQ (Wh.rV r_66.1.1)] then
    let Gg:Int:=(↑(List.length G6):Int)
    let v_74:Int:=(↑(List.length r_66.1.1):Int)
    let r_79:xT.D:=Wh.tJ Gg
    let R9:=IntKind.wrap .i64 (IntKind.wrap .i64 (IntKind.wrap .i64 ((↑(List.length r_79.1):Int)+(1:Int))+v_74)+(18:Int))
    bif iy [nQ (Wh.strconv_Itoa Gg)] then
     let v_81:= !CP.1.2
     let r_82:=Wh.yK (CP.1.1,(1:Int),(500:Int))
     let v_85:=bif bif v_81 then true else !r_82.1 then true else decide (IntKind.wrap .i64 ((↑(List.length AR):Int)-A2)<IntKind.wrap .i64 (IntKind.wrap .i64 (R9+CP.1.1)+(1:Int)))
     bif iy [!!v_81 || nQ (Wh.yc (CP.1.1,(1:Int),(500:Int)))] then
      bif v_85 then
       some (.inr (((),A2),G6))
      else
       let Fk:=IntKind.wrap .i64 (A2+R9)
       let QT:List UInt8:=List.take (Int.toNat (IntKind.wrap .i64 (Fk+CP.1.1)-Fk)) (List.drop (Int.toNat Fk) AR)
       bif iy [decide ((0:Int)≤Fk),decide (Fk≤IntKind.wrap .i64 (Fk+CP.1.1)),decide (IntKind.wrap .i64 (Fk+CP.1.1)≤(↑(List.length AR):Int))] then
        let r_91:xT.D:=Wh.HB (Gg,QT)
        bif iy [nQ (Wh.q79 (Gg,QT))] then
         let r_93:=Wh.q11' (Ge,r_91.1)
         bif iy [nQ (Wh.q11 (Ge,r_91.1)),decide ((0:Int)≤A2),decide (A2≤(↑(List.length AR):Int)),decide ((↑(List.length AR):Int)≤(↑(List.length AR):Int))] then
          bif !r_93.1 then
           some (.inr (((),A2),G6))
          else
           let pb_94:List (List UInt8):=[QT]
           let ls_95:List (List UInt8):=G6++pb_94
           bif iy [decide (List.length G6+(1:Nat)≤dh)] then
            let HY:Int:=(↑(List.length r_91.1):Int)
            some (.inl (((IntKind.wrap .i64 (A2+HY)),(),AR),ls_95))
           else none
         else none
        else none
       else none
     else none
    else none
   else none
  else none
 else none
def Wh.Ve:(((Unit)×(Int))×((List (List UInt8)))):=default
def Wh.CH (xs:(List UInt8)):Option (((List (List UInt8))×(Int))×(Unit)):=
 let vN:=xs
 let x_99:Wh.Qz:=(((0:Int),(),vN),[])
 bif lF Wh.BQ x_99 then
  let y_100:=kG Wh.BQ Wh.Ve x_99
  let v_101:=y_100.1.2
  let ls_102:List (List UInt8):=y_100.2
  some ((ls_102,v_101),())
 else none
def Wh.LK:=eB Wh.CH
theorem Wh.QA:OV Wh.CH Wh.LK:=fe _
def Wh.AE (xs:(Int)):Option (((Bool))×(Unit)):=
 let yy:=xs
 let r_1:=Wh.yK (yy,(0:Int),(1:Int))
 bif iy [nQ (Wh.yc (yy,(0:Int),(1:Int)))] then
  some (r_1.1,())
 else none
def Wh.Hr:=eB Wh.AE
theorem Wh.Lp:OV Wh.AE Wh.Hr:=fe _
abbrev Wh.OJ:Type:=((Int)×(List UInt8)×(Int))×(Unit)
abbrev Wh.Zm:Type:=((((Bool))×(Unit))⊕(((List UInt8))×(Unit)))
def Wh.Cf (x:Wh.OJ):Option (Wh.OJ⊕Wh.Zm):=
 let Ad:=x.1.1
 let HR:=x.1.2.1
 let yV:=x.1.2.2
 bif decide (Ad<yV) then
  let nW:Int:=(↑(UInt8.toNat (List.getD HR (Int.toNat Ad) (0:UInt8))):Int)
  let x7:=bif decide (nW<(97:Int)) then true else decide (nW>(122:Int))
  bif iy [!!decide (nW<(97:Int)) || decide ((0:Int)≤Ad),!!decide (nW<(97:Int)) || decide (Ad<(↑(List.length HR):Int)),decide ((0:Int)≤Ad),decide (Ad<(↑(List.length HR):Int))] then
   bif x7 then
    some (.inr (.inl (false,())))
   else
    some (.inl (((IntKind.wrap .i64 (Ad+(1:Int))),HR,yV),()))
  else none
 else
  some (.inr (.inr (HR,())))
def Wh.TT:(((Bool))×(Unit))⊕(((List UInt8))×(Unit)):=.inl default
def Wh.Db (xs:(List UInt8)):Option (((Bool))×(Unit)):=
 let yM:=xs
 let x_19:Wh.OJ:=(((0:Int),yM,(↑(List.length yM):Int)),())
 bif lF Wh.Cf x_19 then
  sumC (kG Wh.Cf Wh.TT x_19) (fun y_20=>
   let ym:=y_20.1
   some (ym,())) (fun z_21=>
   let VJ:=z_21.1
   let r_24:=Wh.yK ((↑(List.length VJ):Int),(1:Int),(6:Int))
   bif iy [nQ (Wh.yc ((↑(List.length VJ):Int),(1:Int),(6:Int)))] then
    some (r_24.1,())
   else none)
 else none
def Wh.Lf:=eB Wh.Db
theorem Wh.OK:OV Wh.Db Wh.Lf:=fe _
def Wh.q29 (xs:(Int)×(List UInt8)×(List UInt8)):Option (((List UInt8))×(Unit)):=
 let Eg:=xs.1
 let yP:=xs.2.1
 let At:=xs.2.2
 let r_3:=Wh.Hr Eg
 let gz:=Wh.Lf yP
 let y4:=bif bif !r_3.1 then true else !gz.1 then true else decide ((↑(List.length At):Int)>(300:Int))
 bif iy [!!!r_3.1 || nQ (Wh.Db yP),nQ (Wh.AE Eg)] then
  bif y4 then
   some ([],())
  else
   let xd:xT.D:=Wh.tJ Eg
   let DT:=xd.1 ++ [(32:UInt8)]++yP ++ [(58:UInt8)]++At
   bif iy [decide (List.length (xd.1 ++ [(32:UInt8)]++yP ++ [(58:UInt8)])+List.length At≤dh),decide (List.length (xd.1 ++ [(32:UInt8)]++yP)+(1:Nat)≤dh),decide (List.length (xd.1 ++ [(32:UInt8)])+List.length yP≤dh),decide (List.length xd.1+(1:Nat)≤dh),nQ (Wh.strconv_Itoa Eg)] then
    some (DT,())
   else none
 else none
def Wh.LA:=eB Wh.q29
theorem Wh.LB:OV Wh.q29 Wh.LA:=fe _
def Wh.BN (xs:(bx.D)):Option ((((Int)×((List (an.D))×(Unit))))×(Unit)):=
 let gv:bx.D:=xs
 let za:List (an.D):=[]++gv.2.1
 bif iy [decide ((0:Nat)+List.length gv.2.1≤dh)] then
  some ((gv.1,za,()),())
 else none
def Wh.F5:=eB Wh.BN
theorem Wh.DE:OV Wh.BN Wh.F5:=fe _
def Wh.q19 (xs:(an.D)×(Int)×(List UInt8)):Option (((Bool))×(Unit)):=
 let i_0:an.D:=xs.1
 let v_1:=xs.2.1
 let v_2:=xs.2.2
 let xY:=bif(i_0.1==v_1) then i_0.2.1==v_2 else false
 some (xY,())
def Wh.q19':=eB Wh.q19
theorem Wh.PR:OV Wh.q19 Wh.q19':=fe _
abbrev Wh.P7:Type:=((Int)×(List (an.D))×((Int)×((List UInt8)×(Unit)))×(Int))×(Unit)
abbrev Wh.q3_l0Y:Type:=((((Int))×(Unit))⊕((Unit)×(Unit)))
def Wh.CC (x:Wh.P7):Option (Wh.P7⊕Wh.q3_l0Y):=
 let yV:=x.1.1
 let s_13:List (an.D):=x.1.2.1
 let f_14:Int:=(x.1.2.2).1.1
 let f_15:List UInt8:=(x.1.2.2).1.2.1
 let xP:=x.1.2.2.2
 bif decide (yV<xP) then
  let xe:an.D:=List.getD s_13 (Int.toNat yV) ((0:Int),[],(0:Int),[],())
  let r_19:=Wh.q19' (xe,f_14,f_15)
  bif iy [nQ (Wh.q19 (xe,f_14,f_15)),decide ((0:Int)≤yV),decide (yV<(↑(List.length s_13):Int))] then
   bif r_19.1 then
    some (.inr (.inl (yV,())))
   else
    some (.inl (((IntKind.wrap .i64 (yV+(1:Int))),s_13,(f_14,f_15,()),xP),()))
  else none
 else
  some (.inr (.inr ((),())))
def Wh.UR:(((Int))×(Unit))⊕((Unit)×(Unit)):=.inl default
def Wh.q3 (xs:(List (an.D))×((Int)×((List UInt8)×(Unit)))):Option (((Int))×(Unit)):=
 let cx:List (an.D):=xs.1
 let f_1:Int×xT.D:=xs.2
 let v_2:Int:=(↑(List.length cx):Int)
 let x_21:Wh.P7:=(((0:Int),cx,(f_1.1,f_1.2.1,()),v_2),())
 bif lF Wh.CC x_21 then
  sumC (kG Wh.CC Wh.UR x_21) (fun CU=>
   let n5:=CU.1
   some (n5,())) (fun _=>
   some ((-1:Int),()))
 else none
def Wh.q3':=eB Wh.q3
theorem Wh.q3_v:OV Wh.q3 Wh.q3':=fe _
def Wh.Be (xs:(bx.D)×(Int)×(List UInt8)):Option (((Int))×(Unit)):=
 let gv:bx.D:=xs.1
 let nS:=xs.2.1
 let w8:=xs.2.2
 let r_3:=Wh.q3' (gv.2.1,nS,w8,())
 bif iy [nQ (Wh.q3 (gv.2.1,nS,w8,()))] then
  some (r_3.1,())
 else none
def Wh.LI:=eB Wh.Be
theorem Wh.Hw:OV Wh.Be Wh.LI:=fe _
def Wh.E7 (xs:(List (an.D))×(Int)×(Int)):Option (((List (an.D)))×(Unit)):=
 let cx:List (an.D):=xs.1
 let i_1:=xs.2.1
 let Az:=xs.2.2
 let r5:Int:=(↑(List.length cx):Int)
 bif iy [decide ((0:Int)≤i_1),decide (i_1≤Az),decide (Az≤r5),decide (r5≤r5)] then
  let yq:=i_1==Az
  bif yq then
   some (cx,())
  else
   let pb_5:List (an.D):=List.take (Int.toNat (0:Int)+Int.toNat (i_1-(0:Int))) cx++(List.take (Int.toNat (r5-Az)) (List.drop (Int.toNat Az) cx)++List.drop (Int.toNat (0:Int)+Int.toNat (i_1-(0:Int))+List.length (List.take (Int.toNat (r5-Az)) (List.drop (Int.toNat Az) cx))) cx)
   let zh:Nat:=Int.toNat (i_1-(0:Int))
   let s_9:Nat:=zh+List.length (List.take (Int.toNat (r5-Az)) (List.drop (Int.toNat Az) cx))
   bif iy [decide (Int.toNat (0:Int)+zh+List.length (List.take (Int.toNat (r5-Az)) (List.drop (Int.toNat Az) cx))≤List.length cx),decide ((0:Int)≤Az),decide (Az≤r5),decide (r5≤r5),true,decide ((0:Int)≤i_1),decide (i_1≤r5)] then
    let OC:List (an.D):=List.take (Int.toNat (0:Int)+Int.toNat (↑s_9:Int)) pb_5++(@List.replicate (Int×List UInt8×Int×List UInt8×Unit) (Int.toNat (r5-(↑s_9:Int))) ((0:Int),[],(0:Int),[],())++List.drop (Int.toNat (0:Int)+Int.toNat (↑s_9:Int)+List.length (@List.replicate (Int×List UInt8×Int×List UInt8×Unit) (Int.toNat (r5-(↑s_9:Int))) ((0:Int),[],(0:Int),[],()))) pb_5)
    bif iy [decide ((0:Int)≤(↑s_9:Int)),decide ((↑s_9:Int)≤r5),decide ((↑(Int.toNat (0:Int)):Int)+r5≤(↑(List.length pb_5):Int))] then
     some (List.take s_9 OC,())
    else none
   else none
 else none
def Wh.q9':=eB Wh.E7
theorem Wh.q9_v:OV Wh.E7 Wh.q9':=fe _
def Wh.q48 (xs:(bx.D)×(Int)×(List UInt8)):Option ((((Int)×((List (an.D))×(Unit)))×(Int))×(Unit)):=
 let gv:bx.D:=xs.1
 let nS:=xs.2.1
 let w8:=xs.2.2
 let r_3:(bx.D)×Unit:=Wh.F5 gv
 bif iy [nQ (Wh.BN gv)] then
  let gz:=Wh.LI (gv,nS,w8)
  bif iy [nQ (Wh.Be (gv,nS,w8))] then
   bif decide (gz.1<(0:Int)) then
    some ((r_3.1,(3:Int)),())
   else
    let x4:List (an.D)×Unit:=Wh.q9' (r_3.1.2.1,gz.1,IntKind.wrap .i64 (gz.1+(1:Int)))
    let pb_7:List (an.D):=[]++x4.1
    bif iy [decide ((0:Nat)+List.length x4.1≤dh),nQ (Wh.E7 (r_3.1.2.1,gz.1,(IntKind.wrap .i64 (gz.1+(1:Int)))))] then
     some (((r_3.1.1,pb_7,r_3.1.2.2),(0:Int)),())
    else none
  else none
 else none
def Wh.q48':=eB Wh.q48
theorem Wh.q48_v:OV Wh.q48 Wh.q48':=fe _
def Wh.q15 (xs:(Int)×(List UInt8)×(List UInt8)):Option (((Bool))×(Unit)):=
 let Eg:=xs.1
 let yP:=xs.2.1
 let At:=xs.2.2
 let r_3:=Wh.Hr Eg
 let gz:=Wh.Lf yP
 let Aa:=Wh.yK ((↑(List.length At):Int),(1:Int),(300:Int))
 let yE:=bif bif r_3.1 then gz.1 else false then Aa.1 else false
 bif iy [(!bif r_3.1 then gz.1 else false) || nQ (Wh.yc ((↑(List.length At):Int),(1:Int),(300:Int))),!r_3.1 || nQ (Wh.Db yP),nQ (Wh.AE Eg)] then
  some (yE,())
 else none
def Wh.q15':=eB Wh.q15
theorem Wh.Ly:OV Wh.q15 Wh.q15':=fe _
abbrev Wh.P2:Type:=((Int)×(Int)×(Int)×(List (an.D))×(Int))×(Unit)
abbrev Wh.ZT:Type:=((((Int))×(Unit)))
def Wh.Cz (x:Wh.P2):Option (Wh.P2⊕Wh.ZT):=
 let xP:=x.1.1
 let Ep:=x.1.2.1
 let Ef:Int:=(x.1.2.2).1
 let nI:List (an.D):=x.1.2.2.2.1
 let nE:=x.1.2.2.2.2
 bif decide (xP<nE) then
  let AV:an.D:=List.getD nI (Int.toNat xP) ((0:Int),[],(0:Int),[],())
  bif iy [decide ((0:Int)≤xP),decide (xP<(↑(List.length nI):Int))] then
   bif(AV.1==Ef) then
    let n5:Int:=(↑(List.length ((AV.2.2.2).1)):Int)
    some (.inl (((IntKind.wrap .i64 (xP+(1:Int))),(IntKind.wrap .i64 (Ep+n5)),Ef,nI,nE),()))
   else
    some (.inl (((IntKind.wrap .i64 (xP+(1:Int))),Ep,Ef,nI,nE),()))
  else none
 else
  some (.inr (Ep,()))
def Wh.UM:(((Int))×(Unit)):=default
def Wh.q31 (xs:(bx.D)×(Int)):Option (((Int))×(Unit)):=
 let gv:bx.D:=xs.1
 let nS:=xs.2
 let v_2:Int:=(↑(List.length gv.2.1):Int)
 let H7:Wh.P2:=(((0:Int),(0:Int),nS,gv.2.1,v_2),())
 bif lF Wh.Cz H7 then
  let Gi:=kG Wh.Cz Wh.UM H7
  let n_31:=Gi.1
  some (n_31,())
 else none
def Wh.q31':=eB Wh.q31
theorem Wh.q31_v:OV Wh.q31 Wh.q31':=fe _
def Wh.q45 (xs:(Int)):Option (((Bool))×(Unit)):=
 let yu:=xs
 let v_1:=yu != yu
 some (v_1,())
def Wh.LH:=eB Wh.q45
theorem Wh.q45_v:OV Wh.q45 Wh.LH:=fe _
def Wh.q18 (xs:(Int)×(Int)):Option (((Int))×(Unit)):=
 let yu:=xs.1
 let BZ:=xs.2
 let r_2:=Wh.LH yu
 bif iy [nQ (Wh.q45 yu)] then
  let r_3:=Wh.LH BZ
  bif iy [nQ (Wh.q45 BZ)] then
   bif r_2.1 then
    bif r_3.1 then
     some ((0:Int),())
    else
     some ((-1:Int),())
   else
    bif r_3.1 then
     some ((1:Int),())
    else
     bif decide (yu<BZ) then
      some ((-1:Int),())
     else
      bif decide (yu>BZ) then
       some ((1:Int),())
      else
       some ((0:Int),())
  else none
 else none
def Wh.q18':=eB Wh.q18
theorem Wh.q18_v:OV Wh.q18 Wh.q18':=fe _
def Wh.q12 (xs:(List UInt8)):Option (((Bool))×(Unit)):=
 let yu:=xs
 some ((!yu==yu),())
def Wh.Lg:=eB Wh.q12
theorem Wh.q12_v:OV Wh.q12 Wh.Lg:=fe _
def Wh.q7 (xs:(List UInt8)×(List UInt8)):Option (((Int))×(Unit)):=
 let yu:=xs.1
 let BZ:=xs.2
 let r_2:=Wh.Lg yu
 bif iy [nQ (Wh.q12 yu)] then
  let r_3:=Wh.Lg BZ
  bif iy [nQ (Wh.q12 BZ)] then
   bif r_2.1 then
    bif r_3.1 then
     some ((0:Int),())
    else
     some ((-1:Int),())
   else
    bif r_3.1 then
     some ((1:Int),())
    else
     bif Go.Op.bytesLess yu BZ then
      some ((-1:Int),())
     else
      bif(!(Go.Op.bytesLess yu BZ || yu==BZ)) then
       some ((1:Int),())
      else
       some ((0:Int),())
  else none
 else none
def Wh.q7':=eB Wh.q7
theorem Wh.q7_v:OV Wh.q7 Wh.q7':=fe _
abbrev Wh.Pg:Type:=((Int)×(Int)×(List (Int))×(Int))×(Unit)
abbrev Wh.Zy:Type:=((((Int))×(Unit))⊕(((Int))×(Unit)))
def Wh.Dg (x:Wh.Pg):Option (Wh.Pg⊕Wh.Zy):=
 let yE:=x.1.1
 let Q5:=x.1.2.1
 let zD:List Int:=(x.1.2.2).1
 let yV:=x.1.2.2.2
 bif decide (yE<yV) then
  let nW:=List.getD zD (Int.toNat yE) (0:Int)
  bif iy [decide ((0:Int)≤yE),decide (yE<(↑(List.length zD):Int))] then
   let yl:=nW != Q5
   bif yl then
    some (.inr (.inl (nW,())))
   else
    some (.inl (((IntKind.wrap .i64 (yE+(1:Int))),Q5,zD,yV),()))
  else none
 else
  some (.inr (.inr (Q5,())))
def Wh.Uf:(((Int))×(Unit))⊕(((Int))×(Unit)):=.inl default
def Wh.EJ (xs:(List (Int))):Option (((Int))×(Unit)):=
 let VM:=xs
 let x_17:Wh.Pg:=(((0:Int),(0:Int),VM,(↑(List.length VM):Int)),())
 bif lF Wh.Dg x_17 then
  sumC (kG Wh.Dg Wh.Uf x_17) (fun Fm=>
   let nE:=Fm.1
   some (nE,())) (fun Il=>
   let acH:=Il.1
   some (acH,()))
 else none
def Wh.Pf:=eB Wh.EJ
theorem Wh.Ug:OV Wh.EJ Wh.Pf:=fe _
def Wh.q35 (xs:(an.D)×(an.D)):Option (((Int))×(Unit)):=
 let cr:an.D:=xs.1
 let b_1:an.D:=xs.2
 let r_2:=Wh.q18' (cr.1,b_1.1)
 let r_3:=Wh.q7' (cr.2.1,b_1.2.1)
 let x4:=Wh.Pf [r_2.1,r_3.1]
 bif iy [nQ (Wh.EJ [r_2.1,r_3.1]),nQ (Wh.q7 (cr.2.1,b_1.2.1)),nQ (Wh.q18 (cr.1,b_1.1))] then
  some (x4.1,())
 else none
def Wh.q35':=eB Wh.q35
theorem Wh.LC:OV Wh.q35 Wh.q35':=fe _
abbrev Wh.OG:Type:=((Int)×(Unit)×(Unit)×(Int)×(Int)×(Int))×((List (an.D)))
abbrev Wh.q0_l1Y:Type:=((((Unit)×(Unit)×(Int)×(Int)×(Int))×((List (an.D)))))
def Wh.Bz (x:Wh.OG):Option (Wh.OG⊕Wh.q0_l1Y):=
 let zk:=x.1.1
 let a_24:=x.1.2.2.2.1
 let b_25:Int:=(x.1.2.2.2.2).1
 let i_26:Int:=(x.1.2.2.2.2).2
 let x6:List (an.D):=x.2
 let nP:=decide (zk>a_24)
 let r_29:=Wh.q35' (List.getD x6 (Int.toNat zk) ((0:Int),[],(0:Int),[],()),List.getD x6 (Int.toNat (IntKind.wrap .i64 (zk-(1:Int)))) ((0:Int),[],(0:Int),[],()))
 let y3:=bif nP then decide (r_29.1<(0:Int)) else false
 bif iy [!nP || nQ (Wh.q35 (List.getD x6 (Int.toNat zk) ((0:Int),[],(0:Int),[],()),List.getD x6 (Int.toNat (IntKind.wrap .i64 (zk-(1:Int)))) ((0:Int),[],(0:Int),[],()))),!nP || decide ((0:Int)≤IntKind.wrap .i64 (zk-(1:Int))),!nP || decide (IntKind.wrap .i64 (zk-(1:Int))<(↑(List.length x6):Int)),!nP || decide ((0:Int)≤zk),!nP || decide (zk<(↑(List.length x6):Int))] then
  bif y3 then
   let so:List (an.D):=List.set x6 (Int.toNat zk) (List.getD x6 (Int.toNat (IntKind.wrap .i64 (zk-(1:Int)))) ((0:Int),[],(0:Int),[],()))
   let pb_32:List (an.D):=List.set so (Int.toNat (IntKind.wrap .i64 (zk-(1:Int)))) (List.getD x6 (Int.toNat zk) ((0:Int),[],(0:Int),[],()))
   let AM:=IntKind.wrap .i64 (zk-(1:Int))
   bif iy [decide ((0:Int)≤AM),decide (AM<(↑(List.length so):Int)),decide ((0:Int)≤zk),decide (zk<(↑(List.length x6):Int)),decide ((0:Int)≤zk),decide (zk<(↑(List.length x6):Int)),decide ((0:Int)≤AM),decide (AM<(↑(List.length x6):Int))] then
    some (.inl ((AM,(),(),a_24,b_25,i_26),pb_32))
   else none
  else
   some (.inr (((),(),a_24,b_25,i_26),x6))
 else none
def Wh.TQ:(((Unit)×(Unit)×(Int)×(Int)×(Int))×((List (an.D)))):=default
abbrev Wh.OF:Type:=((Unit)×(Int)×(Unit)×(Int)×(Int))×((List (an.D)))
abbrev Wh.q0_l0Y:Type:=(((Unit)×((List (an.D)))))
def Wh.A_ (x:Wh.OF):Option (Wh.OF⊕Wh.q0_l0Y):=
 let i_43:=x.1.2.1
 let a_44:=x.1.2.2.2.1
 let b_45:=x.1.2.2.2.2
 let Bw:List (an.D):=x.2
 bif decide (i_43<b_45) then
  let Ia:Wh.OG:=((i_43,(),(),a_44,b_45,i_43),Bw)
  bif lF Wh.Bz Ia then
   let Gk:=kG Wh.Bz Wh.TQ Ia
   let a_50:Int:=(Gk.1.2.2).1
   let b_51:=Gk.1.2.2.2.1
   let i_52:=Gk.1.2.2.2.2
   let pb_53:List (an.D):=Gk.2
   some (.inl (((),(IntKind.wrap .i64 (i_52+(1:Int))),(),a_50,b_51),pb_53))
  else none
 else
  some (.inr ((),Bw))
def Wh.TP:((Unit)×((List (an.D)))):=default
def Wh.q0 (xs:(List (an.D))×(Int)×(Int)×(Unit)):Option ((Unit)×((List (an.D))×Unit)):=
 let NI:List (an.D):=xs.1
 let a_1:=xs.2.1
 let b_2:=xs.2.2.1
 let Ib:Wh.OF:=(((),(IntKind.wrap .i64 (a_1+(1:Int))),(),a_1,b_2),NI)
 bif lF Wh.A_ Ib then
  let y_56:=kG Wh.A_ Wh.TP Ib
  let pb_57:List (an.D):=y_56.2
  some ((),pb_57,())
 else none
def Wh.q0':=eB Wh.q0
theorem Wh.q0_v:OV Wh.q0 Wh.q0':=fe _
abbrev Wh.PU:Type:=((Unit)×(Int)×(Int)×(Unit)×(Bool)×(Bool)×(Int))×((List (an.D)))
abbrev Wh.q1_l0Y:Type:=(((Unit)×((List (an.D)))))
def Wh.F3 (x:Wh.PU):Option (Wh.PU⊕Wh.q1_l0Y):=
 let b_15:=x.1.2.1
 let a_16:Int:=(x.1.2.2).1
 let acD:Bool:=(x.1.2.2.2.2).2.1
 let XC:Int:=(x.1.2.2.2.2).2.2
 let Bt:List (an.D):=x.2
 bif decide ((IntKind.wrap .i64 (b_15-a_16))≤(12:Int)) then
  let zP:Unit×List (an.D)×Unit:=Wh.q0' (Bt,a_16,b_15,())
  bif iy [nQ (Wh.q0 (Bt,a_16,b_15,()))] then
   some (.inr ((),zP.2.1))
  else none
 else
  let n5:=XC==(0:Int)
  bif n5 then
   none
  else
   bif !acD then
    none
   else
    none
def Wh.UG:((Unit)×((List (an.D)))):=default
def Wh.q1 (xs:(List (an.D))×(Int)×(Int)×(Int)×(Unit)):Option ((Unit)×((List (an.D))×Unit)):=
 let NI:List (an.D):=xs.1
 let a_1:=xs.2.1
 let b_2:=xs.2.2.1
 let XD:Int:=(xs.2.2.2).1
 let x_25:Wh.PU:=(((),b_2,a_1,(),true,true,XD),NI)
 bif lF Wh.F3 x_25 then
  let Ae:=kG Wh.F3 Wh.UG x_25
  let x6:List (an.D):=Ae.2
  some ((),x6,())
 else none
def Wh.q1':=eB Wh.q1
theorem Wh.q1_v:OV Wh.q1 Wh.q1':=fe _
def Wh.q4 (xs:(List (an.D))×(Unit)):Option ((Unit)×((List (an.D))×Unit)):=
 let yu:List (an.D):=xs.1
 let v_2:Int:=(↑(List.length yu):Int)
 let r_3:=Wh.qX (IntKind.wrap .u64 v_2)
 let gz:Unit×List (an.D)×Unit:=Wh.q1' (yu,(0:Int),v_2,r_3.1,())
 bif iy [nQ (Wh.q1 (yu,(0:Int),v_2,r_3.1,())),nQ (Wh.bits_Len (IntKind.wrap .u64 v_2))] then
  some ((),gz.2.1,())
 else none
def Wh.q4':=eB Wh.q4
theorem Wh.q4_v:OV Wh.q4 Wh.q4':=fe _
def Wh.BP (xs:(bx.D)×(Int)×(List UInt8)×(List UInt8)):Option ((((Int)×((List (an.D))×(Unit)))×(Int))×(Unit)):=
 let gv:bx.D:=xs.1
 let nS:=xs.2.1
 let w8:=xs.2.2.1
 let yN:=xs.2.2.2
 let gz:(bx.D)×Unit:=Wh.F5 gv
 bif iy [nQ (Wh.BN gv)] then
  let xX:=Wh.q15' (nS,w8,yN)
  bif iy [nQ (Wh.q15 (nS,w8,yN))] then
   bif !xX.1 then
    some ((gz.1,(1:Int)),())
   else
    let x4:=Wh.LI (gv,nS,w8)
    bif iy [nQ (Wh.Be (gv,nS,w8))] then
     bif decide (x4.1≥(0:Int)) then
      some ((gz.1,(2:Int)),())
     else
      let yE:Int:=(↑(List.length gv.2.1):Int)
      let r_14:=Wh.q31' (gv,nS)
      let xP:=bif bif yE==(8:Int) then true else gv.1==(99999:Int) then true else decide (IntKind.wrap .i64 (r_14.1+(↑(List.length yN):Int))>(500:Int))
      bif iy [(!!bif yE==(8:Int) then true else gv.1==(99999:Int)) || nQ (Wh.q31 (gv,nS))] then
       bif xP then
        some ((gz.1,(4:Int)),())
       else
        let Es:=IntKind.wrap .i64 (gz.1.1+(1:Int))
        let FR:List (an.D):=[(nS,w8,Es,yN,())]
        let pb_19:List (an.D):=gz.1.2.1++FR
        bif iy [decide (List.length (gz.1.2.1)+(1:Nat)≤dh)] then
         let yL:Unit×List (an.D)×Unit:=Wh.q4' (pb_19,())
         bif iy [nQ (Wh.q4 (pb_19,()))] then
          let Fa:(bx.D)×Unit:=Wh.F5 (Es,yL.2.1,gz.1.2.2)
          bif iy [nQ (Wh.BN (Es,yL.2.1,gz.1.2.2))] then
           some ((Fa.1,(0:Int)),())
          else none
         else none
        else none
      else none
    else none
  else none
 else none
def Wh.LJ:=eB Wh.BP
theorem Wh.Qy:OV Wh.BP Wh.LJ:=fe _
def Wh.q30 (xs:(bx.D)×(List UInt8)):Option ((((Int)×((List (an.D))×(Unit)))×(Bool))×(Unit)):=
 let gv:bx.D:=xs.1
 let xb:=xs.2
 let r_2:(List UInt8×List UInt8×Bool)×Unit:=Wh.tK (xb,[(58:UInt8)])
 bif iy [nQ (Wh.strings_Cut (xb,[(58:UInt8)]))] then
  let r_3:(List UInt8×List UInt8×Bool)×Unit:=Wh.tK (r_2.1.1,[(32:UInt8)])
  bif iy [nQ (Wh.strings_Cut (r_2.1.1,[(32:UInt8)]))] then
   let gz:(Int×Bool)×Unit:=Wh.rW r_3.1.1
   bif iy [nQ (Wh.rV r_3.1.1)] then
    let xY:=xb == []
    let x4:xT.D:=Wh.LA (gz.1.1,r_3.1.2.1,r_2.1.2.1)
    let y4:=bif xY then true else !x4.1==xb
    bif iy [!!xY || nQ (Wh.q29 (gz.1.1,r_3.1.2.1,r_2.1.2.1))] then
     bif y4 then
      some ((((0:Int),[],()),false),())
     else
      let xd:((bx.D)×Int)×Unit:=Wh.q48' (gv,gz.1.1,r_3.1.2.1)
      bif iy [nQ (Wh.q48 (gv,gz.1.1,r_3.1.2.1))] then
       bif(!r_2.1.2.1 == []) then
        let z_:((bx.D)×Int)×Unit:=Wh.LJ (gv,gz.1.1,r_3.1.2.1,r_2.1.2.1)
        bif iy [nQ (Wh.BP (gv,gz.1.1,r_3.1.2.1,r_2.1.2.1))] then
         some ((z_.1.1,(z_.1.2==(0:Int))),())
        else none
       else
        some ((xd.1.1,(xd.1.2==(0:Int))),())
      else none
    else none
   else none
  else none
 else none
def Wh.q30':=eB Wh.q30
theorem Wh.P1:OV Wh.q30 Wh.q30':=fe _
abbrev Wh.Pj:Type:=((Unit)×(Int)×(Unit)×(List (List UInt8))×(Int))×(((Int)×((Unit)×(Unit)))×((Int)×((Unit)×(Unit)))×(List (an.D))×(List (an.D)))
abbrev Wh.Zz:Type:=((((Unit)×(Bool))×(((Int)×((Unit)×(Unit)))×(List (an.D))))⊕(((Unit)×(Unit))×(((Int)×((Unit)×(Unit)))×((Int)×((Unit)×(Unit)))×(List (an.D))×(List (an.D)))))
def Wh.Ck (x:Wh.Pj):Option (Wh.Pj⊕Wh.Zz):=
 let xP:=x.1.2.1
 let x7:List (List UInt8):=x.1.2.2.2.1
 let xe:=x.1.2.2.2.2
 let x8:=x.2.1.1
 let zv:=x.2.1.2.2
 let y7:=x.2.2.1.1
 let y8:Unit:=(x.2.2.1).2.2
 let zJ:List (an.D):=(x.2.2.2).1
 let A8:List (an.D):=x.2.2.2.2
 bif decide (xP<xe) then
  let n_:=List.getD x7 (Int.toNat xP) []
  bif iy [decide ((0:Int)≤xP),decide (xP<(↑(List.length x7):Int))] then
   let yD:((bx.D)×Bool)×Unit:=Wh.q30' ((y7,A8,y8),n_)
   bif iy [nQ (Wh.q30 ((y7,A8,y8),n_))] then
    bif(!yD.1.2) then
     some (.inr (.inl (((),false),((0:Int),(),()),[])))
    else
     some (.inl (((),(IntKind.wrap .i64 (xP+(1:Int))),(),x7,xe),(x8,(),zv),(yD.1.1.1,(),yD.1.1.2.2),zJ,(yD.1.1.2).1))
   else none
  else none
 else
  some (.inr (.inr (((),()),(x8,(),zv),(y7,(),y8),zJ,A8)))
def Wh.Uh:(((Unit)×(Bool))×(((Int)×((Unit)×(Unit)))×(List (an.D))))⊕(((Unit)×(Unit))×(((Int)×((Unit)×(Unit)))×((Int)×((Unit)×(Unit)))×(List (an.D))×(List (an.D)))):=.inl default
def Wh.EK (xs:(List (List UInt8))):Option ((((Int)×((List (an.D))×(Unit)))×(Bool))×(Unit)):=
 let LW:List (List UInt8):=xs
 let v_1:Int:=(↑(List.length LW):Int)
 let H8:Wh.Pj:=(((),(0:Int),(),LW,v_1),((0:Int),(),()),((0:Int),(),()),[],[])
 bif lF Wh.Ck H8 then
  sumC (kG Wh.Ck Wh.Uh H8) (fun Fp=>
   let AM:=Fp.1.2
   let x9:=Fp.2.1.1
   let Aq:=Fp.2.1.2.2
   let Oa:List (an.D):=Fp.2.2
   some (((x9,Oa,Aq),AM),())) (fun z_32=>
   let C8:=z_32.2.2.1.1
   let ls_40:Unit:=(z_32.2.2.1).2.2
   let KV:List (an.D):=z_32.2.2.2.2
   some (((C8,KV,ls_40),true),()))
 else none
def Wh.Ph:=eB Wh.EK
theorem Wh.Ui:OV Wh.EK Wh.Ph:=fe _
abbrev Wh.OU:Type:=((Int)×(List (an.D))×(List (an.D))×(Int))×(Unit)
abbrev Wh.Zp:Type:=((((Bool))×(Unit))⊕((Unit)×(Unit)))
def Wh.Cg (x:Wh.OU):Option (Wh.OU⊕Wh.Zp):=
 let nW:=x.1.1
 let QV:List (an.D):=x.1.2.1
 let QU:List (an.D):=(x.1.2.2).1
 let x7:=x.1.2.2.2
 bif decide (nW<x7) then
  let nI:an.D:=List.getD QU (Int.toNat nW) ((0:Int),[],(0:Int),[],())
  let nE:an.D:=List.getD QV (Int.toNat nW) ((0:Int),[],(0:Int),[],())
  bif iy [decide ((0:Int)≤nW),decide (nW<(↑(List.length QV):Int)),decide ((0:Int)≤nW),decide (nW<(↑(List.length QU):Int))] then
   bif(!(nI.1==nE.1&&(nI.2.1==nE.2.1&&(nI.2.2.1==nE.2.2.1&&((nI.2.2.2).1==(nE.2.2.2).1&&true))))) then
    some (.inr (.inl (false,())))
   else
    some (.inl (((IntKind.wrap .i64 (nW+(1:Int))),QV,QU,x7),()))
  else none
 else
  some (.inr (.inr ((),())))
def Wh.TZ:(((Bool))×(Unit))⊕((Unit)×(Unit)):=.inl default
def Wh.q10 (xs:(List (an.D))×(List (an.D))):Option (((Bool))×(Unit)):=
 let s1_0:List (an.D):=xs.1
 let s2_1:List (an.D):=xs.2
 let v_2:Int:=(↑(List.length s1_0):Int)
 let r5:Int:=(↑(List.length s2_1):Int)
 let yq:=v_2 != r5
 bif yq then
  some (false,())
 else
  let x_23:Wh.OU:=(((0:Int),s2_1,s1_0,v_2),())
  bif lF Wh.Cg x_23 then
   sumC (kG Wh.Cg Wh.TZ x_23) (fun y_24=>
    let n_:=y_24.1
    some (n_,())) (fun _=>
    some (true,()))
  else none
def Wh.q10':=eB Wh.q10
theorem Wh.q10_v:OV Wh.q10 Wh.q10':=fe _
def Wh.q80 (xs:(bx.D)×(bx.D)):Option (((Bool))×(Unit)):=
 let cr:bx.D:=xs.1
 let b_1:bx.D:=xs.2
 let v_2:=cr.1==b_1.1
 let r_3:=Wh.q10' (cr.2.1,b_1.2.1)
 let xY:=bif v_2 then r_3.1 else false
 bif iy [!v_2 || nQ (Wh.q10 (cr.2.1,b_1.2.1))] then
  some (xY,())
 else none
def Wh.q80':=eB Wh.q80
theorem Wh.q80_v:OV Wh.q80 Wh.q80':=fe _
abbrev Wh.P3:Type:=((Int)×(Int)×(Int)×(List (eA.D))×(Int))×(Unit)
abbrev Wh.ZU:Type:=((((Int))×(Unit))⊕((Unit)×(Unit)))
def Wh.CA (x:Wh.P3):Option (Wh.P3⊕Wh.ZU):=
 let nW:=x.1.1
 let Rw:=x.1.2.1
 let GV:Int:=(x.1.2.2).1
 let x7:List (eA.D):=x.1.2.2.2.1
 let xe:=x.1.2.2.2.2
 bif decide (nW<xe) then
  let Bt:eA.D:=List.getD x7 (Int.toNat nW) ((0:Int),(0:Int),(0:Int),(0:Int),false,())
  bif iy [decide ((0:Int)≤nW),decide (nW<(↑(List.length x7):Int))] then
   let ym:=bif(Bt.2.1==GV) then Bt.2.2.1==Rw else false
   bif ym then
    some (.inr (.inl (nW,())))
   else
    some (.inl (((IntKind.wrap .i64 (nW+(1:Int))),Rw,GV,x7,xe),()))
  else none
 else
  some (.inr (.inr ((),())))
def Wh.UN:(((Int))×(Unit))⊕((Unit)×(Unit)):=.inl default
def Wh.q32 (xs:(gd.D)×(Int)×(Int)):Option (((Int))×(Unit)):=
 let s_:gd.D:=xs.1
 let FB:=xs.2.1
 let VZ:=xs.2.2
 let r5:Int:=(↑(List.length s_.1):Int)
 let x_24:Wh.P3:=(((0:Int),VZ,FB,s_.1,r5),())
 bif lF Wh.CA x_24 then
  sumC (kG Wh.CA Wh.UN x_24) (fun y_25=>
   let DW:=y_25.1
   some (DW,())) (fun _=>
   some ((-1:Int),()))
 else none
def Wh.q32':=eB Wh.q32
theorem Wh.q32_v:OV Wh.q32 Wh.q32':=fe _
abbrev Wh.QC:Type:=((Int)×(Int)×(Int)×(List (eA.D))×(Int))×(Unit)
abbrev Wh.aan:Type:=((((Int))×(Unit)))
def Wh.CI (x:Wh.QC):Option (Wh.QC⊕Wh.aan):=
 let yl:=x.1.1
 let Eo:=x.1.2.1
 let Ee:Int:=(x.1.2.2).1
 let xe:List (eA.D):=x.1.2.2.2.1
 let nI:=x.1.2.2.2.2
 bif decide (yl<nI) then
  let Et:eA.D:=List.getD xe (Int.toNat yl) ((0:Int),(0:Int),(0:Int),(0:Int),false,())
  bif iy [decide ((0:Int)≤yl),decide (yl<(↑(List.length xe):Int))] then
   let zg:=bif decide (Et.2.1>(0:Int)) then Et.1==Ee else false
   bif zg then
    some (.inl (((IntKind.wrap .i64 (yl+(1:Int))),(IntKind.wrap .i64 (Eo+(1:Int))),Ee,xe,nI),()))
   else
    some (.inl (((IntKind.wrap .i64 (yl+(1:Int))),Eo,Ee,xe,nI),()))
  else none
 else
  some (.inr (Eo,()))
def Wh.Vg:(((Int))×(Unit)):=default
def Wh.q77 (xs:(gd.D)×(Int)):Option (((Int))×(Unit)):=
 let s_:gd.D:=xs.1
 let nS:=xs.2
 let v_2:Int:=(↑(List.length s_.1):Int)
 let H6:Wh.QC:=(((0:Int),(0:Int),nS,s_.1,v_2),())
 bif lF Wh.CI H6 then
  let Fo:=kG Wh.CI Wh.Vg H6
  let n_29:=Fo.1
  some (n_29,())
 else none
def Wh.q77':=eB Wh.q77
theorem Wh.F7:OV Wh.q77 Wh.q77':=fe _
abbrev Wh.ON:Type:=((Int)×(Unit))×((gd.D))
abbrev Wh.Zo:Type:=((((Bool))×(Unit))⊕((Unit)×(Unit)))
def Wh.BB (x:Wh.ON):Option (Wh.ON⊕Wh.Zo):=
 let Gf:=x.1.1
 let Og:gd.D:=x.2
 bif decide (Gf<(2:Int)) then
  let LS:=Wh.q77' (Og,Gf)
  bif iy [nQ (Wh.q77 (Og,Gf))] then
   bif decide (LS.1>(5:Int)) then
    some (.inr (.inl (false,())))
   else
    some (.inl (((IntKind.wrap .i64 (Gf+(1:Int))),()),Og))
  else none
 else
  some (.inr (.inr ((),())))
def Wh.TV:(((Bool))×(Unit))⊕((Unit)×(Unit)):=.inl default
abbrev Wh.OM:Type:=((Int)×(Unit)×(List (eA.D))×(Int))×((gd.D))
abbrev Wh.Zn:Type:=((((Bool))×(Unit))⊕(((Unit))×((gd.D))))
def Wh.BA (x:Wh.OM):Option (Wh.OM⊕Wh.Zn):=
 let nP:=x.1.1
 let yR:List (eA.D):=(x.1.2.2).1
 let y3:=x.1.2.2.2
 let y9:gd.D:=x.2
 bif decide (nP<y3) then
  let xS:eA.D:=List.getD yR (Int.toNat nP) ((0:Int),(0:Int),(0:Int),(0:Int),false,())
  bif iy [decide ((0:Int)≤nP),decide (nP<(↑(List.length yR):Int))] then
   bif(xS.2.1==(0:Int)) then
    bif(!(xS.1==(0:Int)&&(xS.2.1==(0:Int)&&(xS.2.2.1==(0:Int)&&((xS.2.2.2).1==(0:Int)&&(xS.2.2.2.2.1==false&&true)))))) then
     some (.inr (.inl (false,())))
    else
     some (.inl (((IntKind.wrap .i64 (nP+(1:Int))),(),yR,y3),y9))
   else
    let HI:=Wh.Hr xS.1
    let CM:=Wh.yK (xS.2.1,(1:Int),(99999:Int))
    let CN:=Wh.yK (xS.2.2.1,(0:Int),(23:Int))
    let HK:=Wh.yK ((xS.2.2.2).1,(0:Int),(99999:Int))
    let HL:=Wh.q32' (y9,xS.2.1,xS.2.2.1)
    let v_48:=bif bif bif bif !HI.1 then true else !CM.1 then true else !CN.1 then true else !HK.1 then true else HL.1 != nP
    bif iy [(!!bif bif bif !HI.1 then true else !CM.1 then true else !CN.1 then true else !HK.1) || nQ (Wh.q32 (y9,xS.2.1,xS.2.2.1)),(!!bif bif !HI.1 then true else !CM.1 then true else !CN.1) || nQ (Wh.yc ((xS.2.2.2).1,(0:Int),(99999:Int))),(!!bif !HI.1 then true else !CM.1) || nQ (Wh.yc (xS.2.2.1,(0:Int),(23:Int))),!!!HI.1 || nQ (Wh.yc (xS.2.1,(1:Int),(99999:Int))),nQ (Wh.AE xS.1)] then
     bif v_48 then
      some (.inr (.inl (false,())))
     else
      some (.inl (((IntKind.wrap .i64 (nP+(1:Int))),(),yR,y3),y9))
    else none
  else none
 else
  some (.inr (.inr ((),y9)))
def Wh.TU:(((Bool))×(Unit))⊕(((Unit))×((gd.D))):=.inl default
def Wh.Dc (xs:(gd.D)):Option (((Bool))×(Unit)):=
 let s_:gd.D:=xs
 let v_1:Int:=(↑(List.length s_.1):Int)
 let gz:=Wh.yK (s_.2.1,(0:Int),(7:Int))
 let xY:=bif v_1 != (8:Int) then true else !gz.1
 bif iy [!!v_1 != (8:Int) || nQ (Wh.yc (s_.2.1,(0:Int),(7:Int)))] then
  bif xY then
   some (false,())
  else
   let x_50:Wh.OM:=(((0:Int),(),s_.1,v_1),s_)
   bif lF Wh.BA x_50 then
    sumC (kG Wh.BA Wh.TU x_50) (fun y_51=>
     let Ge:=y_51.1
     some (Ge,())) (fun z_52=>
     let Od:gd.D:=z_52.2
     let x_67:Wh.ON:=(((0:Int),()),Od)
     bif lF Wh.BB x_67 then
      sumC (kG Wh.BB Wh.TV x_67) (fun y_68=>
       let v_70:=y_68.1
       some (v_70,())) (fun _=>
       some (true,()))
     else none)
   else none
 else none
def Wh.OL:=eB Wh.Dc
theorem Wh.OO:OV Wh.Dc Wh.OL:=fe _
def Wh.F8 (xs:(an.D)×(Int)):Option (((Bool))×(Unit)):=
 let i_0:an.D:=xs.1
 let v_1:=xs.2
 some ((i_0.2.2.1==v_1),())
def Wh.q8':=eB Wh.F8
theorem Wh.q8_v:OV Wh.F8 Wh.q8':=fe _
abbrev Wh.P0:Type:=((Int)×(List (an.D))×((Int)×(Unit))×(Int))×(Unit)
abbrev Wh.q2_l0Y:Type:=((((Int))×(Unit))⊕((Unit)×(Unit)))
def Wh.Cy (x:Wh.P0):Option (Wh.P0⊕Wh.q2_l0Y):=
 let zD:=x.1.1
 let Fc:List (an.D):=x.1.2.1
 let f_13:Int:=(x.1.2.2).1.1
 let nW:=x.1.2.2.2
 bif decide (zD<nW) then
  let xP:an.D:=List.getD Fc (Int.toNat zD) ((0:Int),[],(0:Int),[],())
  let nc:=Wh.q8' (xP,f_13)
  bif iy [nQ (Wh.F8 (xP,f_13)),decide ((0:Int)≤zD),decide (zD<(↑(List.length Fc):Int))] then
   bif nc.1 then
    some (.inr (.inl (zD,())))
   else
    some (.inl (((IntKind.wrap .i64 (zD+(1:Int))),Fc,(f_13,()),nW),()))
  else none
 else
  some (.inr (.inr ((),())))
def Wh.UL:(((Int))×(Unit))⊕((Unit)×(Unit)):=.inl default
def Wh.q2 (xs:(List (an.D))×((Int)×(Unit))):Option (((Int))×(Unit)):=
 let cx:List (an.D):=xs.1
 let f_1:=xs.2
 let v_2:Int:=(↑(List.length cx):Int)
 let x_19:Wh.P0:=(((0:Int),cx,(f_1.1,()),v_2),())
 bif lF Wh.Cy x_19 then
  sumC (kG Wh.Cy Wh.UL x_19) (fun y_20=>
   let ym:=y_20.1
   some (ym,())) (fun _=>
   some ((-1:Int),()))
 else none
def Wh.Cs:=eB Wh.q2
theorem Wh.q2_v:OV Wh.q2 Wh.Cs:=fe _
def Wh.Cl (xs:(bx.D)×(Int)):Option (((Int))×(Unit)):=
 let gv:bx.D:=xs.1
 let FB:=xs.2
 let r_2:=Wh.Cs (gv.2.1,FB,())
 bif iy [nQ (Wh.q2 (gv.2.1,FB,()))] then
  some (r_2.1,())
 else none
def Wh.Lo:=eB Wh.Cl
theorem Wh.ES:OV Wh.Cl Wh.Lo:=fe _
def Wh.Cu (xs:(yA.D)):Option (((Int))×(Unit)):=
 let s_:yA.D:=xs
 bif iy [s_.2.1 != (0:Int)] then
  some ((IntKind.wrap .i64 (Int.tdiv (IntKind.wrap .i64 ((IntKind.wrap .i64 (s_.1+s_.2.1))-(1:Int))) s_.2.1)),())
 else none
def Wh.F4:=eB Wh.Cu
theorem Wh.q20_v:OV Wh.Cu Wh.F4:=fe _
abbrev Wh.QB:Type:=((Unit)×(Unit))×(((Int)×((Int)×((Unit)×((Unit)×(Unit)))))×((Int)×((Int)×((Unit)×((Unit)×(Unit)))))×(List (Int))×(List (Int))×(List (Int))×(List (Int)))
abbrev Wh.aam:Type:=((((Unit)×(Unit))×(((Int)×((Int)×((Unit)×((Unit)×(Unit)))))×((Int)×((Int)×((Unit)×((Unit)×(Unit)))))×(List (Int))×(List (Int))×(List (Int))×(List (Int)))))
def Wh.HA (x:Wh.QB):Option (Wh.QB⊕Wh.aam):=
 let yh:=x.2.1.1
 let AU:Int:=(x.2.1.2).1
 let yx:Unit:=(x.2.1.2.2.2).2
 let vT:=x.2.2.1.1
 let x8:Int:=(x.2.2.1).2.1
 let zv:Unit:=(x.2.2.1).2.2.2.2
 let y7:List Int:=(x.2.2.2).1
 let y8:=x.2.2.2.2.1
 let zJ:List Int:=(x.2.2.2.2.2).1
 let A8:List Int:=(x.2.2.2.2.2).2
 let AY:=Wh.F4 (yh,AU,y7,y8,yx)
 bif iy [nQ (Wh.Cu (yh,AU,y7,y8,yx))] then
  bif decide (AY.1>(24:Int)) then
   some (.inl (((),()),(yh,(IntKind.wrap .i64 (AU+(1:Int))),(),(),yx),(vT,x8,(),(),zv),y7,y8,zJ,A8))
  else
   some (.inr (((),()),(vT,x8,(),(),zv),(yh,AU,(),(),yx),zJ,A8,y7,y8))
 else none
def Wh.Vf:(((Unit)×(Unit))×(((Int)×((Int)×((Unit)×((Unit)×(Unit)))))×((Int)×((Int)×((Unit)×((Unit)×(Unit)))))×(List (Int))×(List (Int))×(List (Int))×(List (Int)))):=default
def Wh.q76 (xs:(Int)):Option ((((Int)×((Int)×((List (Int))×((List (Int))×(Unit))))))×(Unit)):=
 let G4:=xs
 let r_1:=Wh.yK (G4,(1:Int),(300:Int))
 bif iy [nQ (Wh.yc (G4,(1:Int),(300:Int)))] then
  bif !r_1.1 then
   some (((0:Int),(0:Int),[],[],()),())
  else
   let Au:Wh.QB:=(((),()),(G4,(8:Int),(),(),()),((0:Int),(0:Int),(),(),()),[],[],[],[])
   bif lF Wh.HA Au then
    let zQ:=kG Wh.HA Wh.Vf Au
    let z6:=zQ.2.2.1.1
    let x9:Int:=(zQ.2.2.1).2.1
    let Aq:Unit:=(zQ.2.2.1).2.2.2.2
    let zm:List Int:=(zQ.2.2.2.2.2).1
    let C8:List Int:=(zQ.2.2.2.2.2).2
    let LQ:=Wh.F4 (z6,x9,zm,C8,Aq)
    bif iy [nQ (Wh.Cu (z6,x9,zm,C8,Aq))] then
     let k_43:=IntKind.wrap .i64 (Int.tdiv (IntKind.wrap .i64 (LQ.1+(3:Int))) (4:Int))
     bif decide (k_43<LQ.1) then
      let OE:List Int:=[k_43,LQ.1]
      some ((z6,x9,OE,[(2:Int),(3:Int)],Aq),())
     else
      let Bw:List Int:=[LQ.1]
      some ((z6,x9,Bw,[(1:Int)],Aq),())
    else none
   else none
 else none
def Wh.q76':=eB Wh.q76
theorem Wh.q76_v:OV Wh.q76 Wh.q76':=fe _
abbrev Wh.Qe:Type:=((Int)×(Unit)×(List (eA.D))×(Int))×((bx.D))
abbrev Wh.Z5:Type:=((((Bool))×(Unit))⊕((Unit)×(Unit)))
def Wh.AG (x:Wh.Qe):Option (Wh.Qe⊕Wh.Z5):=
 let n5:=x.1.1
 let AK:List (eA.D):=(x.1.2.2).1
 let n_:=x.1.2.2.2
 let yT:bx.D:=x.2
 bif decide (n5<n_) then
  let x_:eA.D:=List.getD AK (Int.toNat n5) ((0:Int),(0:Int),(0:Int),(0:Int),false,())
  bif iy [decide ((0:Int)≤n5),decide (n5<(↑(List.length AK):Int))] then
   bif(x_.2.1==(0:Int)) then
    some (.inl (((IntKind.wrap .i64 (n5+(1:Int))),(),AK,n_),yT))
   else
    let th:=Wh.Lo (yT,x_.2.1)
    bif iy [nQ (Wh.Cl (yT,x_.2.1))] then
     let AZ:(yA.D)×Unit:=Wh.q76' (↑(List.length (Prod.fst (Prod.snd (Prod.snd (Prod.snd (List.getD yT.2.1 (Int.toNat th.1) ((0:Int),[],(0:Int),[],()))))))):Int)
     let yp:=decide ((x_.2.2.2).1>(0:Int))
     let CN:=Wh.F4 (AZ.1.1,AZ.1.2.1,bif !bif bif yp then true else decide (th.1<(0:Int)) then true else Prod.fst (List.getD yT.2.1 (Int.toNat th.1) ((0:Int),[],(0:Int),[],())) != x_.1 then(AZ.1.2.2).1 else [],bif !bif bif yp then true else decide (th.1<(0:Int)) then true else Prod.fst (List.getD yT.2.1 (Int.toNat th.1) ((0:Int),[],(0:Int),[],())) != x_.1 then AZ.1.2.2.2.1 else [],AZ.1.2.2.2.2)
     let HW:=bif bif bif yp then true else decide (th.1<(0:Int)) then true else Prod.fst (List.getD yT.2.1 (Int.toNat th.1) ((0:Int),[],(0:Int),[],())) != x_.1 then true else decide (x_.2.2.1≥CN.1)
     bif iy [(!!bif bif yp then true else decide (th.1<(0:Int)) then true else Prod.fst (List.getD yT.2.1 (Int.toNat th.1) ((0:Int),[],(0:Int),[],())) != x_.1) || nQ (Wh.Cu (AZ.1.1,AZ.1.2.1,bif !bif bif yp then true else decide (th.1<(0:Int)) then true else Prod.fst (List.getD yT.2.1 (Int.toNat th.1) ((0:Int),[],(0:Int),[],())) != x_.1 then(AZ.1.2.2).1 else [],bif !bif bif yp then true else decide (th.1<(0:Int)) then true else Prod.fst (List.getD yT.2.1 (Int.toNat th.1) ((0:Int),[],(0:Int),[],())) != x_.1 then AZ.1.2.2.2.1 else [],AZ.1.2.2.2.2)),(!!bif bif yp then true else decide (th.1<(0:Int)) then true else Prod.fst (List.getD yT.2.1 (Int.toNat th.1) ((0:Int),[],(0:Int),[],())) != x_.1) || nQ (Wh.q76 (↑(List.length (Prod.fst (Prod.snd (Prod.snd (Prod.snd (List.getD yT.2.1 (Int.toNat th.1) ((0:Int),[],(0:Int),[],()))))))):Int)),(!!bif bif yp then true else decide (th.1<(0:Int)) then true else Prod.fst (List.getD yT.2.1 (Int.toNat th.1) ((0:Int),[],(0:Int),[],())) != x_.1) || decide ((0:Int)≤th.1),(!!bif bif yp then true else decide (th.1<(0:Int)) then true else Prod.fst (List.getD yT.2.1 (Int.toNat th.1) ((0:Int),[],(0:Int),[],())) != x_.1) || decide (th.1<(↑(List.length yT.2.1):Int)),(!!bif yp then true else decide (th.1<(0:Int))) || decide ((0:Int)≤th.1),(!!bif yp then true else decide (th.1<(0:Int))) || decide (th.1<(↑(List.length yT.2.1):Int))] then
      bif HW then
       some (.inr (.inl (false,())))
      else
       some (.inl (((IntKind.wrap .i64 (n5+(1:Int))),(),AK,n_),yT))
     else none
    else none
  else none
 else
  some (.inr (.inr ((),())))
def Wh.UY:(((Bool))×(Unit))⊕((Unit)×(Unit)):=.inl default
def Wh.q52 (xs:(gd.D)×(bx.D)):Option (((Bool))×(Unit)):=
 let s_:gd.D:=xs.1
 let c_1:bx.D:=xs.2
 let r_2:=Wh.OL s_
 bif iy [nQ (Wh.Dc s_)] then
  bif !r_2.1 then
   some (false,())
  else
   let r5:Int:=(↑(List.length s_.1):Int)
   let x_44:Wh.Qe:=(((0:Int),(),s_.1,r5),c_1)
   bif lF Wh.AG x_44 then
    sumC (kG Wh.AG Wh.UY x_44) (fun y_45=>
     let v_47:=y_45.1
     some (v_47,())) (fun _=>
     some (true,()))
   else none
 else none
def Wh.q52':=eB Wh.q52
theorem Wh.q52_v:OV Wh.q52 Wh.q52':=fe _
def Wh.q46 (xs:(fN.D)):Option (((Bool))×(Unit)):=
 let yH:fN.D:=xs
 let r_1:=Wh.yK (yH.2.1,(0:Int),(99999:Int))
 let r_2:=Wh.yK (yH.2.2.1,(0:Int),(99999:Int))
 let xX:=Wh.yK (yH.1,(0:Int),yH.2.1)
 let xd:=Wh.yK ((yH.2.2.2).1,(0:Int),(99999:Int))
 let Ad:=bif bif bif r_1.1 then r_2.1 else false then xX.1 else false then xd.1 else false
 bif iy [(!bif bif r_1.1 then r_2.1 else false then xX.1 else false) || nQ (Wh.yc ((yH.2.2.2).1,(0:Int),(99999:Int))),(!bif r_1.1 then r_2.1 else false) || nQ (Wh.yc (yH.1,(0:Int),yH.2.1)),!r_1.1 || nQ (Wh.yc (yH.2.2.1,(0:Int),(99999:Int))),nQ (Wh.yc (yH.2.1,(0:Int),(99999:Int)))] then
  some (Ad,())
 else none
def Wh.q46':=eB Wh.q46
theorem Wh.q46_v:OV Wh.q46 Wh.q46':=fe _
def Wh.q50 (xs:(Int)):Option (((Bool))×(Unit)):=
 let yy:=xs
 let r_1:=Wh.yK (yy,(0:Int),(3:Int))
 bif iy [nQ (Wh.yc (yy,(0:Int),(3:Int)))] then
  some (r_1.1,())
 else none
def Wh.q50':=eB Wh.q50
theorem Wh.Qd:OV Wh.q50 Wh.q50':=fe _
def Wh.q78 (xs:(Int)):Option (((Int))×(Unit)):=
 let NG:=xs
 some ((Int.tmod NG (2:Int)),())
def Wh.q78':=eB Wh.q78
theorem Wh.QD:OV Wh.q78 Wh.q78':=fe _
abbrev Wh.Qb:Type:=((Int)×(Unit)×(List (fT.D))×(Int))×((ct.D))
abbrev Wh.Z4:Type:=((((Bool))×(Unit))⊕((Unit)×(Unit)))
def Wh.BM (x:Wh.Qb):Option (Wh.Qb⊕Wh.Z4):=
 let A1:=x.1.1
 let v_89:List (fT.D):=(x.1.2.2).1
 let L7:=x.1.2.2.2
 let Ar:ct.D:=x.2
 bif decide (A1<L7) then
  let yZ:fT.D:=List.getD v_89 (Int.toNat A1) ((0:Int),(0:Int),(0:Int),(0:Int),(0:Int),(0:Int),())
  bif iy [decide ((0:Int)≤A1),decide (A1<(↑(List.length v_89):Int))] then
   let Gh:=decide (A1>(0:Int))
   let r_97:=Wh.q50' yZ.1
   let r_100:=Wh.yK (yZ.2.1,(1:Int),(99999:Int))
   let QS:=Wh.yK (yZ.2.2.1,(1:Int),(Ar.2.2.2).1.1)
   let v_104:=bif bif bif bif Gh then decide (Prod.fst (List.getD ((Ar.2.2.2.2.2).2.1) (Int.toNat (IntKind.wrap .i64 (A1-(1:Int)))) ((0:Int),(0:Int),(0:Int),(0:Int),(0:Int),(0:Int),()))≥yZ.1) else false then true else !r_97.1 then true else !r_100.1 then true else !QS.1
   bif iy [(!!bif bif bif Gh then decide (Prod.fst (List.getD ((Ar.2.2.2.2.2).2.1) (Int.toNat (IntKind.wrap .i64 (A1-(1:Int)))) ((0:Int),(0:Int),(0:Int),(0:Int),(0:Int),(0:Int),()))≥yZ.1) else false then true else !r_97.1 then true else !r_100.1) || nQ (Wh.yc (yZ.2.2.1,(1:Int),(Ar.2.2.2).1.1)),(!!bif bif Gh then decide (Prod.fst (List.getD ((Ar.2.2.2.2.2).2.1) (Int.toNat (IntKind.wrap .i64 (A1-(1:Int)))) ((0:Int),(0:Int),(0:Int),(0:Int),(0:Int),(0:Int),()))≥yZ.1) else false then true else !r_97.1) || nQ (Wh.yc (yZ.2.1,(1:Int),(99999:Int))),(!!bif Gh then decide (Prod.fst (List.getD ((Ar.2.2.2.2.2).2.1) (Int.toNat (IntKind.wrap .i64 (A1-(1:Int)))) ((0:Int),(0:Int),(0:Int),(0:Int),(0:Int),(0:Int),()))≥yZ.1) else false) || nQ (Wh.q50 yZ.1),!Gh || decide ((0:Int)≤IntKind.wrap .i64 (A1-(1:Int))),!Gh || decide (IntKind.wrap .i64 (A1-(1:Int))<(↑(List.length ((Ar.2.2.2.2.2).2.1)):Int))] then
    bif v_104 then
     some (.inr (.inl (false,())))
    else
     let LN:=Wh.Lo ((Ar.2.2.2).1,yZ.2.2.1)
     bif iy [nQ (Wh.Cl ((Ar.2.2.2).1,yZ.2.2.1))] then
      let L4:=decide (LN.1≥(0:Int))
      let r_107:=Wh.q78' yZ.1
      let BW:=bif L4 then Prod.fst (List.getD ((Ar.2.2.2).1.2.1) (Int.toNat LN.1) ((0:Int),[],(0:Int),[],())) != r_107.1 else false
      bif iy [!L4 || nQ (Wh.q78 yZ.1),!L4 || decide ((0:Int)≤LN.1),!L4 || decide (LN.1<(↑(List.length ((Ar.2.2.2).1.2.1)):Int))] then
       bif BW then
        some (.inr (.inl (false,())))
       else
        let HE:=Wh.yK ((yZ.2.2.2).1,(0:Int),(9999:Int))
        let r_110:=Wh.yK (yZ.2.2.2.2.1,(0:Int),(3:Int))
        let r_113:=Wh.yK ((yZ.2.2.2.2.2).1,(0:Int),Ar.2.1)
        let v_114:=bif bif !HE.1 then true else !r_110.1 then true else !r_113.1
        bif iy [(!!bif !HE.1 then true else !r_110.1) || nQ (Wh.yc ((yZ.2.2.2.2.2).1,(0:Int),Ar.2.1)),!!!HE.1 || nQ (Wh.yc (yZ.2.2.2.2.1,(0:Int),(3:Int))),nQ (Wh.yc ((yZ.2.2.2).1,(0:Int),(9999:Int)))] then
         bif v_114 then
          some (.inr (.inl (false,())))
         else
          some (.inl (((IntKind.wrap .i64 (A1+(1:Int))),(),v_89,L7),Ar))
        else none
      else none
     else none
   else none
  else none
 else
  some (.inr (.inr ((),())))
def Wh.UX:(((Bool))×(Unit))⊕((Unit)×(Unit)):=.inl default
abbrev Wh.Qa:Type:=((Int)×(Unit)×(List (fN.D))×(Int))×((ct.D))
abbrev Wh.Z3:Type:=((((Bool))×(Unit))⊕(((Unit))×((ct.D))))
def Wh.CF (x:Wh.Qa):Option (Wh.Qa⊕Wh.Z3):=
 let HV:=x.1.1
 let HW:List (fN.D):=(x.1.2.2).1
 let Gd:=x.1.2.2.2
 let Ob:ct.D:=x.2
 bif decide (HV<Gd) then
  let Bw:fN.D:=List.getD HW (Int.toNat HV) ((0:Int),(0:Int),(0:Int),(0:Int),())
  bif iy [decide ((0:Int)≤HV),decide (HV<(↑(List.length HW):Int))] then
   let HL:=Wh.q46' Bw
   let v_52:=bif bif bif !HL.1 then true else Bw.2.1 != (40:Int) then true else Bw.2.2.1 != (8:Int) then true else decide ((Bw.2.2.2).1>Ob.2.1)
   bif iy [nQ (Wh.q46 Bw)] then
    bif v_52 then
     some (.inr (.inl (false,())))
    else
     some (.inl (((IntKind.wrap .i64 (HV+(1:Int))),(),HW,Gd),Ob))
   else none
  else none
 else
  some (.inr (.inr ((),Ob)))
def Wh.UW:(((Bool))×(Unit))⊕(((Unit))×((ct.D))):=.inl default
def Wh.q49 (xs:(ct.D)):Option (((Bool))×(Unit)):=
 let cx:ct.D:=xs
 let r_1:=Wh.yK (cx.2.1,(0:Int),(99999:Int))
 let v_2:=bif !r_1.1 then true else decide ((↑(List.length (cx.2.2.1)):Int)>(9000:Int))
 bif iy [nQ (Wh.yc (cx.2.1,(0:Int),(99999:Int)))] then
  bif v_2 then
   some (false,())
  else
   let r_3:(List (List UInt8)×Int)×Unit:=Wh.LK (cx.2.2.1)
   bif iy [nQ (Wh.CH (cx.2.2.1))] then
    let gz:((bx.D)×Bool)×Unit:=Wh.Ph r_3.1.1
    bif iy [nQ (Wh.EK r_3.1.1)] then
     bif(!gz.1.2) then
      some (false,())
     else
      bif(!cx.1) then
       let y4:Bool:=(cx.2.2.2).1.1==(0:Int)
       let Yl:=bif bif bif y4 then(↑(List.length ((cx.2.2.2).1.2.1)):Int)==(0:Int) else false then(↑(List.length ((cx.2.2.2.2.1).1)):Int)==(0:Int) else false then(cx.2.2.2.2.1).2.1==(0:Int) else false
       let nW:=bif Yl then(↑(List.length ((cx.2.2.2.2.2).1)):Int)==(0:Int) else false
       let xP:=bif nW then(↑(List.length ((cx.2.2.2.2.2).2.1)):Int)==(0:Int) else false
       some (xP,())
      else
       let x7:Int:=(↑(List.length (cx.2.2.1)):Int)
       let yL:=Wh.q80' (gz.1.1,(cx.2.2.2).1)
       let zP:=Wh.q52' (cx.2.2.2.2.1,(cx.2.2.2).1)
       let n_:=bif bif bif r_3.1.2 != x7 then true else !yL.1 then true else !zP.1 then true else(↑(List.length ((cx.2.2.2.2.2).1)):Int) != (2:Int)
       bif iy [(!!bif r_3.1.2 != x7 then true else !yL.1) || nQ (Wh.q52 (cx.2.2.2.2.1,(cx.2.2.2).1)),!!r_3.1.2 != x7 || nQ (Wh.q80 (gz.1.1,(cx.2.2.2).1))] then
        bif n_ then
         some (false,())
        else
         let DW:Int:=(↑(List.length ((cx.2.2.2.2.2).1)):Int)
         let x_54:Wh.Qa:=(((0:Int),(),(cx.2.2.2.2.2).1,DW),cx)
         bif lF Wh.CF x_54 then
          sumC (kG Wh.CF Wh.UW x_54) (fun y_55=>
           let v_57:=y_55.1
           some (v_57,())) (fun z_56=>
           let Of:ct.D:=z_56.2
           let v_59:Int:=(↑(List.length ((Of.2.2.2.2.2).2.1)):Int)
           let x_116:Wh.Qb:=(((0:Int),(),(Of.2.2.2.2.2).2.1,v_59),Of)
           bif lF Wh.BM x_116 then
            sumC (kG Wh.BM Wh.UX x_116) (fun y_117=>
             let L5:=y_117.1
             some (L5,())) (fun _=>
             some (true,()))
           else none)
         else none
       else none
    else none
   else none
 else none
def Wh.q49':=eB Wh.q49
theorem Wh.Qc:OV Wh.q49 Wh.q49':=fe _
def Wh.Ew (xs:(an.D)×(an.D)):Option (((Bool))×(Unit)):=
 let cr:an.D:=xs.1
 let b_1:an.D:=xs.2
 bif(cr.1 != b_1.1) then
  some (false,())
 else
  bif(!cr.2.1==b_1.2.1) then
   some (false,())
  else
   bif(cr.2.2.1 != b_1.2.2.1) then
    some (false,())
   else
    bif(!(cr.2.2.2).1==(b_1.2.2.2).1) then
     some (false,())
    else
     some (true,())
def Wh.OP:=eB Wh.Ew
theorem Wh.TW:OV Wh.Ew Wh.OP:=fe _
abbrev Wh.QE:Type:=((Int)×(List (an.D))×(List (an.D)))×(Unit)
abbrev Wh.aao:Type:=((((Bool))×(Unit))⊕((Unit)×(Unit)))
def Wh.E6 (x:Wh.QE):Option (Wh.QE⊕Wh.aao):=
 let gT:=x.1.1
 let zU:List (an.D):=x.1.2.1
 let zR:List (an.D):=x.1.2.2
 let xe:Int:=(↑(List.length zR):Int)
 bif decide (gT<xe) then
  let nE:an.D:=List.getD zR (Int.toNat gT) ((0:Int),[],(0:Int),[],())
  let w7:an.D:=List.getD zU (Int.toNat gT) ((0:Int),[],(0:Int),[],())
  let zP:=Wh.OP (nE,w7)
  bif iy [nQ (Wh.Ew (nE,w7)),decide ((0:Int)≤gT),decide (gT<(↑(List.length zU):Int)),decide ((0:Int)≤gT),decide (gT<xe)] then
   bif !zP.1 then
    some (.inr (.inl (false,())))
   else
    some (.inl (((IntKind.wrap .i64 (gT+(1:Int))),zU,zR),()))
  else none
 else
  some (.inr (.inr ((),())))
def Wh.Vh:(((Bool))×(Unit))⊕((Unit)×(Unit)):=.inl default
def Wh.q82 (xs:(List (an.D))×(List (an.D))):Option (((Bool))×(Unit)):=
 let cr:List (an.D):=xs.1
 let b_1:List (an.D):=xs.2
 let v_2:Int:=(↑(List.length cr):Int)
 let r5:Int:=(↑(List.length b_1):Int)
 let yq:=v_2 != r5
 bif yq then
  some (false,())
 else
  let x_25:Wh.QE:=(((0:Int),b_1,cr),())
  bif lF Wh.E6 x_25 then
   sumC (kG Wh.E6 Wh.Vh x_25) (fun Ae=>
    let nP:=Ae.1
    some (nP,())) (fun _=>
    some (true,()))
  else none
def Wh.q82':=eB Wh.q82
theorem Wh.q82_v:OV Wh.q82 Wh.q82':=fe _
end
