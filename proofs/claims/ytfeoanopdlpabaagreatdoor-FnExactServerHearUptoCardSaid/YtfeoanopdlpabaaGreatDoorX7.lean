import Derived.Test.YtfeoanopdlpabaaGreatDoorX6
open Go Go.Ab
noncomputable section
def en {α β:Type}[Inhabited β](f:α→Option β)(x:α):β:=match f x with | some y=>y|none=>default
abbrev OV {α β:Type}(f:α→Option β)(g:α→β):Prop:=∀x y,f x=some y→g x=y
theorem eB {α β:Type}[Inhabited β](f:α→Option β):OV f (en f):=fun x y h=>by unfold en;rw[h]
abbrev RN:Ty:=(.pair (.int .i64) (.pair (.int .i64) (.pair .bool (.pair (.int .u8) .unit))))
abbrev RN.D:Type:=(Int)×((Int)×((Bool)×((Int)×(Unit))))
abbrev RO:Ty:=(.pair .str (.pair (.int .u64) .unit))
abbrev RO.D:Type:=(List UInt8)×((Int)×(Unit))
abbrev fN:Ty:=(.pair (.int .i64) (.pair (.lst (.pair (.int .i64) (.pair .str (.pair (.int .i64) (.pair .str .unit))))) .unit))
abbrev fN.D:Type:=(Int)×((List ((Int)×((List UInt8)×((Int)×((List UInt8)×(Unit))))))×(Unit))
abbrev lg:Ty:=(.pair (.lst (.pair (.int .i64) (.pair (.int .i64) (.pair (.int .i64) (.pair (.int .i64) (.pair .bool .unit)))))) (.pair (.int .i64) .unit))
abbrev lg.D:Type:=(List ((Int)×((Int)×((Int)×((Int)×((Bool)×(Unit)))))))×((Int)×(Unit))
abbrev fk:Ty:=(.pair .bool (.pair (.int .i64) (.pair .str (.pair fN (.pair lg (.pair (.lst (.pair (.int .i64) (.pair (.int .i64) (.pair (.int .i64) (.pair (.int .i64) .unit))))) (.pair (.lst (.pair (.int .i64) (.pair (.int .i64) (.pair (.int .i64) (.pair (.int .i64) (.pair (.int .i64) (.pair (.int .i64) .unit))))))) .unit)))))))
abbrev fk.D:Type:=(Bool)×((Int)×((List UInt8)×((fN.D)×((lg.D)×((List ((Int)×((Int)×((Int)×((Int)×(Unit))))))×((List ((Int)×((Int)×((Int)×((Int)×((Int)×((Int)×(Unit))))))))×(Unit)))))))
abbrev s_:Ty:=(.pair (.int .i64) (.pair (.int .i64) (.pair (.lst (.int .i64)) (.pair (.lst (.int .i64)) .unit))))
abbrev s_.D:Type:=(Int)×((Int)×((List (Int))×((List (Int))×(Unit))))
abbrev HC:Ty:=(.pair (.int .i64) (.pair (.int .i64) (.pair (.lst (.pair (.lst (.int .i64)) (.pair .str .unit))) .unit)))
abbrev HC.D:Type:=(Int)×((Int)×((List ((List (Int))×((List UInt8)×(Unit))))×(Unit)))
abbrev HB:Ty:=(.pair s_ (.pair HC .unit))
abbrev HB.D:Type:=(s_.D)×((HC.D)×(Unit))
abbrev EP:Ty:=(.pair (.int .i64) (.pair (.int .i64) (.pair (.int .i64) (.pair .str (.pair (.int .i64) (.pair HB .unit))))))
abbrev EP.D:Type:=(Int)×((Int)×((Int)×((List UInt8)×((Int)×((HB.D)×(Unit))))))
abbrev fT:Ty:=(.pair (.int .i64) (.pair (.int .i64) (.pair (.int .i64) (.pair (.int .i64) (.pair (.int .i64) (.pair .str (.pair .str .unit)))))))
abbrev fT.D:Type:=(Int)×((Int)×((Int)×((Int)×((Int)×((List UInt8)×((List UInt8)×(Unit)))))))
abbrev KC:Ty:=(.pair fk (.pair (.lst EP) (.pair (.lst (.pair (.int .i64) (.pair .str (.pair .bool .unit)))) (.pair (.lst (.pair (.int .i64) (.pair .str (.pair (.int .i64) (.pair .str .unit))))) .unit))))
abbrev KC.D:Type:=(fk.D)×((List (EP.D))×((List ((Int)×((List UInt8)×((Bool)×(Unit)))))×((List ((Int)×((List UInt8)×((Int)×((List UInt8)×(Unit))))))×(Unit))))
abbrev an:Ty:=(.pair (.int .i64) (.pair .str (.pair (.int .i64) (.pair .str .unit))))
abbrev an.D:Type:=(Int)×((List UInt8)×((Int)×((List UInt8)×(Unit))))
abbrev e_:Ty:=(.pair (.int .i64) (.pair (.int .i64) (.pair (.int .i64) (.pair (.int .i64) (.pair .bool .unit)))))
abbrev e_.D:Type:=(Int)×((Int)×((Int)×((Int)×((Bool)×(Unit)))))
abbrev eA:Ty:=(.pair (.int .i64) (.pair (.int .i64) (.pair (.int .i64) (.pair (.int .i64) .unit))))
abbrev eA.D:Type:=(Int)×((Int)×((Int)×((Int)×(Unit))))
abbrev cr:Ty:=(.pair (.int .i64) (.pair (.int .i64) eA))
abbrev cr.D:Type:=(Int)×((Int)×(eA.D))
abbrev Ja:Ty:=(.pair (.int .i64) (.pair .str (.pair .bool .unit)))
abbrev Ja.D:Type:=(Int)×((List UInt8)×((Bool)×(Unit)))
abbrev MX:Ty:=(.pair (.int .i64) (.pair (.int .i64) (.pair (.int .i64) .unit)))
abbrev MX.D:Type:=(Int)×((Int)×((Int)×(Unit)))
abbrev I_:Ty:=(.pair (.lst (.int .i64)) (.pair .str .unit))
abbrev I_.D:Type:=(List (Int))×((List UInt8)×(Unit))
abbrev tEr:Ty:=(.pair .str .unit)
abbrev tEr.D:Type:=(List UInt8)×(Unit)
abbrev RP:Ty:=(.pair (.int .u8) (.pair (.int .u8) .unit))
abbrev RP.D:Type:=(Int)×((Int)×(Unit))
def Wh.IB (xs:(an.D)×(Int)):Option (((Int))×(Unit)):=
 let cx:=xs.1
 let left_1:=xs.2
 let v_2:Int:=(↑(List.length cx.2.1):Int)
 let zw:=IntKind.wrap .i64 (left_1-v_2)
 bif decide (zw<0) then
  some (-1,())
 else
  let zp:Int:=(↑(List.length ((cx.2.2.2).1)):Int)
  let JE:=IntKind.wrap .i64 (zw-zp)
  bif decide (JE<0) then
   some (-1,())
  else
   some (JE,())
def Wh.Pz:=en Wh.IB
theorem Wh.PA:OV Wh.IB Wh.Pz:=eB _
abbrev Wh.OS:Type:=((Int)×(Int)×(List (an.D)))×(Unit)
abbrev Wh.acC:Type:=((((Int))×(Unit))⊕(((Int))×(Unit)))
def Wh.Fi (x:Wh.OS):Option (Wh.OS⊕Wh.acC):=
 let yD:=x.1.1
 let NZ:=x.1.2.1
 let Gh:=x.1.2.2
 let th:Int:=(↑(List.length Gh):Int)
 bif decide (yD<th) then
  let xO:an.D:=List.getD Gh (Int.toNat yD) (0,[],0,[],())
  let zm:=Wh.Pz (xO,NZ)
  bif iy [nQ (Wh.IB (xO,NZ)),decide (0≤yD),decide (yD<th)] then
   bif decide (zm.1<0) then
    some (.inr (.inl (-1,())))
   else
    some (.inl (((IntKind.wrap .i64 (yD+1)),zm.1,Gh),()))
  else none
 else
  some (.inr (.inr (NZ,())))
def Wh.OT:(((Int))×(Unit))⊕(((Int))×(Unit)):=.inl default
def Wh.Im (xs:(List (an.D))×(Int)):Option (((Int))×(Unit)):=
 let cx:=xs.1
 let left_1:=xs.2
 let v_2:Int:=(↑(List.length cx):Int)
 let zw:=IntKind.wrap .i64 (left_1-v_2)
 bif decide (zw<0) then
  some (-1,())
 else
  let KJ:Wh.OS:=((0,zw,cx),())
  bif lF Wh.Fi KJ then
   sumC (kG Wh.Fi Wh.OT KJ) (fun KU=>
    let zf:=KU.1
    some (zf,())) (fun z_28=>
    let abQ:=z_28.1
    some (abQ,()))
  else none
def Wh.OR:=en Wh.Im
theorem Wh.W4:OV Wh.Im Wh.OR:=eB _
def Wh.IP (xs:(fN.D)×(Int)):Option (((Int))×(Unit)):=
 let cx:=xs.1
 let left_1:=xs.2
 let r_2:=Wh.OR (cx.2.1,left_1)
 bif iy [nQ (Wh.Im (cx.2.1,left_1))] then
  bif decide (r_2.1<0) then
   some (-1,())
  else
   some (r_2.1,())
 else none
def Wh.Qj:=en Wh.IP
theorem Wh.XT:OV Wh.IP Wh.Qj:=eB _
def Wh.q79 (xs:(List (e_.D))×(Int)):Option (((Int))×(Unit)):=
 let cx:=xs.1
 let left_1:=xs.2
 let v_2:Int:=(↑(List.length cx):Int)
 let zw:=IntKind.wrap .i64 (left_1-v_2)
 bif decide (zw<0) then
  some (-1,())
 else
  some (zw,())
def Wh.q79':=en Wh.q79
theorem Wh.q79_v:OV Wh.q79 Wh.q79':=eB _
def Wh.IC (xs:(lg.D)×(Int)):Option (((Int))×(Unit)):=
 let cx:=xs.1
 let left_1:=xs.2
 let r_2:=Wh.q79' (cx.1,left_1)
 bif iy [nQ (Wh.q79 (cx.1,left_1))] then
  bif decide (r_2.1<0) then
   some (-1,())
  else
   some (r_2.1,())
 else none
def Wh.PB:=en Wh.IC
theorem Wh.Xu:OV Wh.IC Wh.PB:=eB _
def Wh.q56 (xs:(List (eA.D))×(Int)):Option (((Int))×(Unit)):=
 let cx:=xs.1
 let left_1:=xs.2
 let v_2:Int:=(↑(List.length cx):Int)
 let zw:=IntKind.wrap .i64 (left_1-v_2)
 bif decide (zw<0) then
  some (-1,())
 else
  some (zw,())
def Wh.q56':=en Wh.q56
theorem Wh.q56_v:OV Wh.q56 Wh.q56':=eB _
def Wh.q80 (xs:(List (cr.D))×(Int)):Option (((Int))×(Unit)):=
 let cx:=xs.1
 let left_1:=xs.2
 let v_2:Int:=(↑(List.length cx):Int)
 let zw:=IntKind.wrap .i64 (left_1-v_2)
 bif decide (zw<0) then
  some (-1,())
 else
  some (zw,())
def Wh.q80':=en Wh.q80
theorem Wh.q80_v:OV Wh.q80 Wh.q80':=eB _
def Wh.q81 (xs:(fk.D)×(Int)):Option (((Int))×(Unit)):=
 let cx:=xs.1
 let left_1:=xs.2
 let v_2:Int:=(↑(List.length (cx.2.2.1)):Int)
 let zw:=IntKind.wrap .i64 (left_1-v_2)
 bif decide (zw<0) then
  some (-1,())
 else
  let xe:=Wh.Qj ((cx.2.2.2).1,zw)
  bif iy [nQ (Wh.IP ((cx.2.2.2).1,zw))] then
   bif decide (xe.1<0) then
    some (-1,())
   else
    let r5:=Wh.PB (cx.2.2.2.2.1,xe.1)
    bif iy [nQ (Wh.IC (cx.2.2.2.2.1,xe.1))] then
     bif decide (r5.1<0) then
      some (-1,())
     else
      let zZ:=Wh.q56' ((cx.2.2.2.2.2).1,r5.1)
      bif iy [nQ (Wh.q56 ((cx.2.2.2.2.2).1,r5.1))] then
       bif decide (zZ.1<0) then
        some (-1,())
       else
        let Aw:=Wh.q80' ((cx.2.2.2.2.2).2.1,zZ.1)
        bif iy [nQ (Wh.q80 ((cx.2.2.2.2.2).2.1,zZ.1))] then
         bif decide (Aw.1<0) then
          some (-1,())
         else
          some (Aw.1,())
        else none
      else none
    else none
  else none
def Wh.q81':=en Wh.q81
theorem Wh.q81_v:OV Wh.q81 Wh.q81':=eB _
def Wh.J8 (xs:(an.D)):Option (((an.D))×(Unit)):=
 let cx:an.D:=xs
 some ((cx.1,cx.2.1,cx.2.2.1,(cx.2.2.2).1,()),())
def Wh.PD:=en Wh.J8
theorem Wh.Xw:OV Wh.J8 Wh.PD:=eB _
abbrev Wh.OX:Type:=((Int)×(List (an.D))×(Unit))×((List (an.D)))
abbrev Wh.acD:Type:=((((Unit))×((List (an.D)))))
def Wh.Fj (x:Wh.OX):Option (Wh.OX⊕Wh.acD):=
 let x4:=x.1.1
 let zO:=x.1.2.1
 let yA:=x.2
 let xR:Int:=(↑(List.length zO):Int)
 bif decide (x4<xR) then
  let z6:=Wh.PD (List.getD zO (Int.toNat x4) (0,[],0,[],()))
  let yj:List (an.D):=List.set yA (Int.toNat x4) z6.1
  let th:an.D:=List.getD zO (Int.toNat x4) (0,[],0,[],())
  bif iy [decide (0≤x4),decide (x4<(↑(List.length yA):Int)),nQ (Wh.J8 th),decide (0≤x4),decide (x4<xR)] then
   some (.inl (((IntKind.wrap .i64 (x4+1)),zO,()),yj))
  else none
 else
  some (.inr ((),yA))
def Wh.W6:(((Unit))×((List (an.D)))):=default
def Wh.Io (xs:(List (an.D))):Option (((List (an.D)))×(Unit)):=
 let cx:List (an.D):=xs
 let zV:List (an.D):=@List.replicate (Int×List UInt8×Int×List UInt8×Unit) (Int.toNat (↑(List.length cx):Int)) (0,[],0,[],())
 let v_2:Int:=(↑(List.length cx):Int)
 bif iy [decide (0≤v_2),decide (v_2≤v_2),decide (v_2≤(↑dh:Int))] then
  let x_21:Wh.OX:=((0,cx,()),zV)
  bif lF Wh.Fj x_21 then
   let C8:=kG Wh.Fj Wh.W6 x_21
   let zR:=C8.2
   some (zR,())
  else none
 else none
def Wh.OW:=en Wh.Io
theorem Wh.W7:OV Wh.Io Wh.OW:=eB _
def Wh.IQ (xs:(fN.D)):Option ((((Int)×((List (an.D))×(Unit))))×(Unit)):=
 let cx:fN.D:=xs
 let r_1:=Wh.OW cx.2.1
 bif iy [nQ (Wh.Io cx.2.1)] then
  some ((cx.1,r_1.1,()),())
 else none
def Wh.Qk:=en Wh.IQ
theorem Wh.XU:OV Wh.IQ Wh.Qk:=eB _
def Wh.J3 (xs:(e_.D)):Option (((e_.D))×(Unit)):=
 let cx:e_.D:=xs
 some ((cx.1,cx.2.1,cx.2.2.1,(cx.2.2.2).1,cx.2.2.2.2.1,()),())
def Wh.OU:=en Wh.J3
theorem Wh.W5:OV Wh.J3 Wh.OU:=eB _
abbrev Wh.Rv:Type:=((Int)×(List (e_.D))×(Unit))×((List (e_.D)))
abbrev Wh.adM:Type:=((((Unit))×((List (e_.D)))))
def Wh.FY (x:Wh.Rv):Option (Wh.Rv⊕Wh.adM):=
 let x4:=x.1.1
 let zO:=x.1.2.1
 let yA:=x.2
 let xR:Int:=(↑(List.length zO):Int)
 bif decide (x4<xR) then
  let z6:=Wh.OU (List.getD zO (Int.toNat x4) (0,0,0,0,false,()))
  let yj:List (e_.D):=List.set yA (Int.toNat x4) z6.1
  let th:e_.D:=List.getD zO (Int.toNat x4) (0,0,0,0,false,())
  bif iy [decide (0≤x4),decide (x4<(↑(List.length yA):Int)),nQ (Wh.J3 th),decide (0≤x4),decide (x4<xR)] then
   some (.inl (((IntKind.wrap .i64 (x4+1)),zO,()),yj))
  else none
 else
  some (.inr ((),yA))
def Wh.YO:(((Unit))×((List (e_.D)))):=default
def Wh.q83 (xs:(List (e_.D))):Option (((List (e_.D)))×(Unit)):=
 let cx:List (e_.D):=xs
 let zV:List (e_.D):=@List.replicate (Int×Int×Int×Int×Bool×Unit) (Int.toNat (↑(List.length cx):Int)) (0,0,0,0,false,())
 let v_2:Int:=(↑(List.length cx):Int)
 bif iy [decide (0≤v_2),decide (v_2≤v_2),decide (v_2≤(↑dh:Int))] then
  let x_21:Wh.Rv:=((0,cx,()),zV)
  bif lF Wh.FY x_21 then
   let C8:=kG Wh.FY Wh.YO x_21
   let zR:=C8.2
   some (zR,())
  else none
 else none
def Wh.q83':=en Wh.q83
theorem Wh.q83_v:OV Wh.q83 Wh.q83':=eB _
def Wh.IE (xs:(lg.D)):Option ((((List (e_.D))×((Int)×(Unit))))×(Unit)):=
 let cx:lg.D:=xs
 let r_1:=Wh.q83' cx.1
 bif iy [nQ (Wh.q83 cx.1)] then
  some ((r_1.1,cx.2.1,()),())
 else none
def Wh.PE:=en Wh.IE
theorem Wh.Xx:OV Wh.IE Wh.PE:=eB _
def Wh.q82 (xs:(eA.D)):Option (((eA.D))×(Unit)):=
 let cx:eA.D:=xs
 some ((cx.1,cx.2.1,cx.2.2.1,(cx.2.2.2).1,()),())
def Wh.q82':=en Wh.q82
theorem Wh.q82_v:OV Wh.q82 Wh.q82':=eB _
abbrev Wh.Q9:Type:=((Int)×(List (eA.D))×(Unit))×((List (eA.D)))
abbrev Wh.adv:Type:=((((Unit))×((List (eA.D)))))
def Wh.FP (x:Wh.Q9):Option (Wh.Q9⊕Wh.adv):=
 let x4:=x.1.1
 let zO:=x.1.2.1
 let yA:=x.2
 let xR:Int:=(↑(List.length zO):Int)
 bif decide (x4<xR) then
  let z6:=Wh.q82' (List.getD zO (Int.toNat x4) (0,0,0,0,()))
  let yj:List (eA.D):=List.set yA (Int.toNat x4) z6.1
  let th:eA.D:=List.getD zO (Int.toNat x4) (0,0,0,0,())
  bif iy [decide (0≤x4),decide (x4<(↑(List.length yA):Int)),nQ (Wh.q82 th),decide (0≤x4),decide (x4<xR)] then
   some (.inl (((IntKind.wrap .i64 (x4+1)),zO,()),yj))
  else none
 else
  some (.inr ((),yA))
def Wh.Yv:(((Unit))×((List (eA.D)))):=default
def Wh.q57 (xs:(List (eA.D))):Option (((List (eA.D)))×(Unit)):=
 let cx:List (eA.D):=xs
 let zV:List (eA.D):=@List.replicate (Int×Int×Int×Int×Unit) (Int.toNat (↑(List.length cx):Int)) (0,0,0,0,())
 let v_2:Int:=(↑(List.length cx):Int)
 bif iy [decide (0≤v_2),decide (v_2≤v_2),decide (v_2≤(↑dh:Int))] then
  let x_21:Wh.Q9:=((0,cx,()),zV)
  bif lF Wh.FP x_21 then
   let C8:=kG Wh.FP Wh.Yv x_21
   let zR:=C8.2
   some (zR,())
  else none
 else none
def Wh.q57':=en Wh.q57
theorem Wh.q57_v:OV Wh.q57 Wh.q57':=eB _
def Wh.J4 (xs:(cr.D)):Option (((cr.D))×(Unit)):=
 let cx:cr.D:=xs
 some ((cx.1,cx.2.1,cx.2.2.1,(cx.2.2.2).1,cx.2.2.2.2.1,(cx.2.2.2.2.2).1,()),())
def Wh.OY:=en Wh.J4
theorem Wh.W8:OV Wh.J4 Wh.OY:=eB _
abbrev Wh.Rw:Type:=((Int)×(List (cr.D))×(Unit))×((List (cr.D)))
abbrev Wh.adN:Type:=((((Unit))×((List (cr.D)))))
def Wh.FZ (x:Wh.Rw):Option (Wh.Rw⊕Wh.adN):=
 let x4:=x.1.1
 let zO:=x.1.2.1
 let yA:=x.2
 let xR:Int:=(↑(List.length zO):Int)
 bif decide (x4<xR) then
  let z6:=Wh.OY (List.getD zO (Int.toNat x4) (0,0,0,0,0,0,()))
  let yj:List (cr.D):=List.set yA (Int.toNat x4) z6.1
  let th:cr.D:=List.getD zO (Int.toNat x4) (0,0,0,0,0,0,())
  bif iy [decide (0≤x4),decide (x4<(↑(List.length yA):Int)),nQ (Wh.J4 th),decide (0≤x4),decide (x4<xR)] then
   some (.inl (((IntKind.wrap .i64 (x4+1)),zO,()),yj))
  else none
 else
  some (.inr ((),yA))
def Wh.YP:(((Unit))×((List (cr.D)))):=default
def Wh.q84 (xs:(List (cr.D))):Option (((List (cr.D)))×(Unit)):=
 let cx:List (cr.D):=xs
 let zV:List (cr.D):=@List.replicate (Int×Int×Int×Int×Int×Int×Unit) (Int.toNat (↑(List.length cx):Int)) (0,0,0,0,0,0,())
 let v_2:Int:=(↑(List.length cx):Int)
 bif iy [decide (0≤v_2),decide (v_2≤v_2),decide (v_2≤(↑dh:Int))] then
  let x_21:Wh.Rw:=((0,cx,()),zV)
  bif lF Wh.FZ x_21 then
   let C8:=kG Wh.FZ Wh.YP x_21
   let zR:=C8.2
   some (zR,())
  else none
 else none
def Wh.q84':=en Wh.q84
theorem Wh.q84_v:OV Wh.q84 Wh.q84':=eB _
def Wh.EL (xs:(fk.D)):Option ((((Bool)×((Int)×((List UInt8)×(((Int)×((List (an.D))×(Unit)))×(((List (e_.D))×((Int)×(Unit)))×((List (eA.D))×((List (cr.D))×(Unit)))))))))×(Unit)):=
 let cx:fk.D:=xs
 let r_1:=Wh.Qk ((cx.2.2.2).1)
 bif iy [nQ (Wh.IQ ((cx.2.2.2).1))] then
  let r_2:=Wh.PE (cx.2.2.2.2.1)
  bif iy [nQ (Wh.IE (cx.2.2.2.2.1))] then
   let r_3:=Wh.q57' ((cx.2.2.2.2.2).1)
   bif iy [nQ (Wh.q57 ((cx.2.2.2.2.2).1))] then
    let gd:=Wh.q84' ((cx.2.2.2.2.2).2.1)
    bif iy [nQ (Wh.q84 ((cx.2.2.2.2.2).2.1))] then
     some ((cx.1,cx.2.1,cx.2.2.1,r_1.1,r_2.1,r_3.1,gd.1,()),())
    else none
   else none
  else none
 else none
def Wh.q85':=en Wh.EL
theorem Wh.q85_v:OV Wh.EL Wh.q85':=eB _
def Wh.xV (xs:(Int)×(Int)×(Int)):Option (((Bool))×(Unit)):=
 let yY:=xs.1
 let N4:=xs.2.1
 let NR:=xs.2.2
 let x6:=bif decide (yY≥N4) then decide (yY≤NR) else false
 some (x6,())
def Wh.s4:=en Wh.xV
theorem Wh.zY:OV Wh.xV Wh.s4:=eB _
abbrev Wh.P0:Type:=((Int)×(Int)×(List UInt8))×(Unit)
abbrev Wh.acX:Type:=((((Int))×(Unit))⊕((Unit)×(Unit)))
def Wh.Dz (x:Wh.P0):Option (Wh.P0⊕Wh.acX):=
 let B_:=x.1.1
 let b_11:=x.1.2.1
 let CY:=x.1.2.2
 let z8:=decide (B_<(↑(List.length CY):Int))
 bif z8 then
  let r_:Int:=(↑(UInt8.toNat (List.getD CY (Int.toNat B_) (0:UInt8))):Int)
  let xR:=r_==b_11
  bif iy [decide (0≤B_),z8] then
   bif xR then
    some (.inr (.inl (B_,())))
   else
    some (.inl (((IntKind.wrap .i64 (B_+1)),b_11,CY),()))
  else none
 else
  some (.inr (.inr ((),())))
def Wh.XJ:(((Int))×(Unit))⊕((Unit)×(Unit)):=.inl default
def Wh.zW (xs:(List UInt8)×(Int)×(Int)):Option (((Int))×(Unit)):=
 let ct:=xs.1
 let zu:=xs.2.1
 let b_2:=xs.2.2
 let x_17:Wh.P0:=((zu,b_2,ct),())
 bif lF Wh.Dz x_17 then
  sumC (kG Wh.Dz Wh.XJ x_17) (fun HG=>
   let ov:=HG.1
   some (ov,())) (fun _=>
   some (-1,()))
 else none
def Wh.J9:=en Wh.zW
theorem Wh.DA:OV Wh.zW Wh.J9:=eB _
abbrev Wh.QB:Type:=((Int)×(List UInt8)×(Int))×(Unit)
abbrev Wh.adb:Type:=((((Int))×(Unit))⊕(((Int))×(Unit)))
def Wh.FC (x:Wh.QB):Option (Wh.QB⊕Wh.adb):=
 let Ad:=x.1.1
 let s_18:=x.1.2.1
 let n_19:=x.1.2.2
 let ov:=decide (Ad<(↑(List.length s_18):Int))
 bif ov then
  let xO:Int:=(↑(UInt8.toNat (List.getD s_18 (Int.toNat Ad) (0:UInt8))):Int)
  let vN:=bif decide (xO<48) then true else decide (xO>57)
  bif iy [!!decide (xO<48) || decide (0≤Ad),!!decide (xO<48) || ov,decide (0≤Ad),ov] then
   bif vN then
    some (.inr (.inl (-1,())))
   else
    bif iy [decide (0≤Ad),ov] then
     some (.inl (((IntKind.wrap .i64 (Ad+1)),s_18,(IntKind.wrap .i64 ((IntKind.wrap .i64 (n_19*10))+IntKind.wrap .i64 (IntKind.wrap .u8 (xO-48))))),()))
    else none
  else none
 else
  some (.inr (.inr (n_19,())))
def Wh.X7:(((Int))×(Unit))⊕(((Int))×(Unit)):=.inl default
def Wh.Cm (xs:(List UInt8)):Option (((Int))×(Unit)):=
 let ct:=xs
 let r_1:=Wh.s4 ((↑(List.length ct):Int),1,6)
 let v_2:=bif !r_1.1 then true else bif decide ((↑(List.length ct):Int)>1) then(↑(UInt8.toNat (List.getD ct (Int.toNat 0) (0:UInt8))):Int)==48 else false
 bif iy [!(decide ((↑(List.length ct):Int)>1) && !!r_1.1) || decide ((0:Int)≤0),!(decide ((↑(List.length ct):Int)>1) && !!r_1.1) || decide (0<(↑(List.length ct):Int)),nQ (Wh.xV ((↑(List.length ct):Int),1,6))] then
  bif v_2 then
   some (-1,())
  else
   let x_31:Wh.QB:=((0,ct,0),())
   bif lF Wh.FC x_31 then
    sumC (kG Wh.FC Wh.X7 x_31) (fun y_32=>
     let y6:=y_32.1
     some (y6,())) (fun z_33=>
     let n_35:=z_33.1
     some (n_35,()))
   else none
 else none
def Wh.Kd:=en Wh.Cm
theorem Wh.Hf:OV Wh.Cm Wh.Kd:=eB _
def Wh.q43 (YY:((Int))→Option (((List UInt8))×(Unit)))(MP:((Int))→((List UInt8))×(Unit))(xs:(Int)):Option (((List UInt8))×(Unit)):=
 let yY:=xs
 bif decide (yY < -9223372036854775807) then
  some ([(45:UInt8),(57:UInt8),(50:UInt8),(50:UInt8),(51:UInt8),(51:UInt8),(55:UInt8),(50:UInt8),(48:UInt8),(51:UInt8),(54:UInt8),(56:UInt8),(53:UInt8),(52:UInt8),(55:UInt8),(55:UInt8),(53:UInt8),(56:UInt8),(48:UInt8),(56:UInt8)],())
 else
  bif decide (yY<0) then
   let nC:=IntKind.wrap .i64 (0-yY)
   let x9:tEr.D:=MP nC
   let yP:List UInt8:=[(45:UInt8)]++x9.1
   bif iy [decide ((1:Nat)+List.length ((MP nC).1)≤dh),nQ (YY nC)] then
    some (yP,())
   else none
  else
   bif decide (yY<10) then
    let JV:List Int:=[IntKind.wrap .u8 (IntKind.wrap .i64 (48+yY))]
    some (qp JV,())
   else
    let OB:List Int:=[IntKind.wrap .u8 (IntKind.wrap .i64 (48+Int.tmod yY 10))]
    let z8:=IntKind.wrap .i64 (Int.tdiv yY 10)
    let zc:tEr.D:=MP z8
    let xO:=zc.1++qp OB
    bif iy [decide (List.length ((MP z8).1)+(1:Nat)≤dh),true,nQ (YY z8),true] then
     some (xO,())
    else none
def Wh.BP:Nat→((Int))→Option (((List UInt8))×(Unit))
 |0,_=>none
 |n+1,xs=>Wh.q43 (Wh.BP n) (fun x=>match Wh.BP n x with | some y=>y|none=>default) xs
theorem Wh.Qu (n:Nat):Wh.BP (n+1)=Wh.q43 (Wh.BP n) (fun x=>match Wh.BP n x with | some y=>y|none=>default):=rfl
def Wh.Bw (xs:(Int)):Option (((List UInt8))×(Unit)):=Wh.BP 20 xs
def Wh.Av:=en Wh.Bw
theorem Wh.Er:OV Wh.Bw Wh.Av:=eB _
abbrev Wh.RA:Type:=((Int)×(Int)×(Unit))×((List (Int)))
abbrev Wh.adR:Type:=((((Unit))×((List (Int)))))
def Wh.Hq (x:Wh.RA):Option (Wh.RA⊕Wh.adR):=
 let yQ:=x.1.1
 let n_28:=x.1.2.1
 let GF:=x.2
 bif decide (yQ≥0) then
  let tn:List Int:=[IntKind.wrap .u8 (Int.fdiv n_28 (2 ^ Min.min (Int.toNat (IntKind.wrap .i64 (8*yQ))) (Go.IntKind.bits Go.IntKind.i64)))]
  let y4:=GF++tn
  bif iy [decide (List.length GF+(1:Nat)≤dh),decide (0≤(IntKind.wrap .i64 (8*yQ)))] then
   some (.inl (((IntKind.wrap .i64 (yQ-1)),n_28,()),y4))
  else none
 else
  some (.inr ((),GF))
def Wh.YT:(((Unit))×((List (Int)))):=default
abbrev Wh.Rz:Type:=((Unit)×(List UInt8))×((List (Int)))
abbrev Wh.adQ:Type:=((((Unit)×(List UInt8))×((List (Int)))))
def Wh.F0 (x:Wh.Rz):Option (Wh.Rz⊕Wh.adQ):=
 let Zk:=x.1.2
 let LM:=x.2
 let Az:Bool:=(Int.tmod (↑(List.length LM):Int) 64) != 56
 bif Az then
  let JK:=LM ++ [(0:Int)]
  bif iy [decide (List.length LM+(1:Nat)≤dh)] then
   some (.inl (((),Zk),JK))
  else none
 else
  some (.inr (((),Zk),LM))
def Wh.YS:(((Unit)×(List UInt8))×((List (Int)))):=default
def Wh.q90 (xs:(List UInt8)):Option (((List (Int)))×(Unit)):=
 let zd:=xs
 let zV:List Int:=bytesOf zd ++ [(128:Int)]
 bif iy [decide (List.length (bytesOf zd)+(1:Nat)≤dh),decide (List.length zd≤dh)] then
  let x_12:Wh.Rz:=(((),zd),zV)
  bif lF Wh.F0 x_12 then
   let y_13:=kG Wh.F0 Wh.YS x_12
   let af0:=y_13.1.2
   let yR:=y_13.2
   let x_37:Wh.RA:=((7,(IntKind.wrap .i64 ((↑(List.length af0):Int)*8)),()),yR)
   bif lF Wh.Hq x_37 then
    let y_38:=kG Wh.Hq Wh.YT x_37
    let A2:=y_38.2
    some (A2,())
   else none
  else none
 else none
def Wh.q90':=en Wh.q90
theorem Wh.q90_v:OV Wh.q90 Wh.q90':=eB _
def Wh.yT (xs:(Int)×(Int)):Option (((Int))×(Unit)):=
 let yE:=xs.1
 let n_1:=xs.2
 let v_2:Int:=Int.fdiv yE (2 ^ Min.min (Int.toNat n_1) (Go.IntKind.bits Go.IntKind.u32))
 let nC:=IntKind.wrap .i64 (32-n_1)
 let zp:Int:=nj Go.BinOp.or Go.IntKind.u32 v_2 (IntKind.wrap .u32 (yE*2 ^ Min.min (Int.toNat nC) (Go.IntKind.bits Go.IntKind.u32)))
 bif iy [decide (0≤nC),decide (0≤n_1)] then
  some (zp,())
 else none
def Wh.Ai:=en Wh.yT
theorem Wh.q145_v:OV Wh.yT Wh.Ai:=eB _
abbrev Wh.Pj:Type:=((Int)×(Unit))×((List (Int)))
abbrev Wh.acK:Type:=((((Unit))×((List (Int)))))
def Wh.GX (x:Wh.Pj):Option (Wh.Pj⊕Wh.acK):=
 let E6:=x.1.1
 let BL:=x.2
 bif decide (E6<64) then
  let KI:=IntKind.wrap .i64 (E6-15)
  let KR:=List.getD BL (Int.toNat KI) 0
  bif iy [decide (0≤KI),decide (KI<(↑(List.length BL):Int))] then
   let v_99:=IntKind.wrap .i64 (E6-2)
   let KS:=List.getD BL (Int.toNat v_99) 0
   bif iy [decide (0≤v_99),decide (v_99<(↑(List.length BL):Int))] then
    let r_102:=Wh.Ai (KR,7)
    let RF:=Wh.Ai (KR,18)
    let v_105:Int:=Int.fdiv KR (2 ^ Min.min (Int.toNat 3) (Go.IntKind.bits Go.IntKind.u32))
    let a_107:Int:=nj Go.BinOp.xor Go.IntKind.u32 (nj Go.BinOp.xor Go.IntKind.u32 r_102.1 RF.1) v_105
    bif iy [true,nQ (Wh.yT (KR,18)),nQ (Wh.yT (KR,7))] then
     let r_108:=Wh.Ai (KS,17)
     let Kn:=Wh.Ai (KS,19)
     let v_111:Int:=Int.fdiv KS (2 ^ Min.min (Int.toNat 10) (Go.IntKind.bits Go.IntKind.u32))
     let c_113:Int:=nj Go.BinOp.xor Go.IntKind.u32 (nj Go.BinOp.xor Go.IntKind.u32 r_108.1 Kn.1) v_111
     bif iy [true,nQ (Wh.yT (KS,19)),nQ (Wh.yT (KS,17))] then
      let pb_114:List Int:=[IntKind.wrap .u32 (IntKind.wrap .u32 (IntKind.wrap .u32 (List.getD BL (Int.toNat (IntKind.wrap .i64 (E6-16))) 0+a_107)+List.getD BL (Int.toNat (IntKind.wrap .i64 (E6-7))) 0)+c_113)]
      let N6:=BL++pb_114
      let v_116:=IntKind.wrap .i64 (E6-16)
      let M3:=IntKind.wrap .i64 (E6-7)
      bif iy [decide (List.length BL+(1:Nat)≤dh),decide (0≤M3),decide (M3<(↑(List.length BL):Int)),decide (0≤v_116),decide (v_116<(↑(List.length BL):Int))] then
       some (.inl (((IntKind.wrap .i64 (E6+1)),()),N6))
      else none
     else none
    else none
   else none
  else none
 else
  some (.inr ((),BL))
def Wh.Xk:(((Unit))×((List (Int)))):=default
abbrev Wh.Ph:Type:=((Int)×(List (Int))×(Unit))×((List (Int)))
abbrev Wh.acJ:Type:=((((Unit))×((List (Int)))))
def Wh.GW (x:Wh.Ph):Option (Wh.Ph⊕Wh.acJ):=
 let Gz:=x.1.1
 let DX:=x.1.2.1
 let y4:=x.2
 bif decide (Gz<16) then
  let LW:List Int:=[nj Go.BinOp.or Go.IntKind.u32 (nj Go.BinOp.or Go.IntKind.u32 (nj Go.BinOp.or Go.IntKind.u32 (IntKind.wrap .u32 (IntKind.wrap .u32 (List.getD DX (Int.toNat (IntKind.wrap .i64 (4*Gz))) 0)*2 ^ Min.min (Int.toNat 24) (Go.IntKind.bits Go.IntKind.u32))) (IntKind.wrap .u32 (IntKind.wrap .u32 (List.getD DX (Int.toNat (IntKind.wrap .i64 (IntKind.wrap .i64 (4*Gz)+1))) 0)*2 ^ Min.min (Int.toNat 16) (Go.IntKind.bits Go.IntKind.u32)))) (IntKind.wrap .u32 (IntKind.wrap .u32 (List.getD DX (Int.toNat (IntKind.wrap .i64 (IntKind.wrap .i64 (4*Gz)+2))) 0)*2 ^ Min.min (Int.toNat 8) (Go.IntKind.bits Go.IntKind.u32)))) (IntKind.wrap .u32 (List.getD DX (Int.toNat (IntKind.wrap .i64 (IntKind.wrap .i64 (4*Gz)+3))) 0))]
  let ym:=y4++LW
  let xW:=IntKind.wrap .i64 (4*Gz)
  bif iy [decide (List.length y4+(1:Nat)≤dh),decide (0≤IntKind.wrap .i64 (xW+3)),decide (IntKind.wrap .i64 (xW+3)<(↑(List.length DX):Int)),true,decide (0≤IntKind.wrap .i64 (xW+2)),decide (IntKind.wrap .i64 (xW+2)<(↑(List.length DX):Int)),true,decide (0≤IntKind.wrap .i64 (xW+1)),decide (IntKind.wrap .i64 (xW+1)<(↑(List.length DX):Int)),true,decide (0≤xW),decide (xW<(↑(List.length DX):Int))] then
   some (.inl (((IntKind.wrap .i64 (Gz+1)),DX,()),ym))
  else none
 else
  some (.inr ((),y4))
def Wh.Xj:(((Unit))×((List (Int)))):=default
def Wh.Ix (xs:(List (Int))):Option (((List (Int)))×(Unit)):=
 let y8:=xs
 let x_59:Wh.Ph:=((0,y8,()),[])
 bif lF Wh.GW x_59 then
  let y_60:=kG Wh.GW Wh.Xj x_59
  let H8:=y_60.2
  let x_124:Wh.Pj:=((16,()),H8)
  bif lF Wh.GX x_124 then
   let y_125:=kG Wh.GX Wh.Xk x_124
   let ls_126:=y_125.2
   some (ls_126,())
  else none
 else none
def Wh.Pg:=en Wh.Ix
theorem Wh.Xl:OV Wh.Ix Wh.Pg:=eB _
def Wh.q89 (_:Unit):Option (((List (Int)))×(Unit)):=
 let pb_0:List Int:=[(1116352408:Int),1899447441,3049323471,3921009573,961987163,1508970993,2453635748,2870763221,3624381080,310598401,607225278,1426881987,1925078388,2162078206,2614888103,3248222580,3835390401,4022224774,264347078,604807628,770255983,1249150122,1555081692,1996064986,2554220882,2821834349,2952996808,3210313671,3336571891,3584528711,113926993,338241895,666307205,773529912,1294757372,1396182291,1695183700,1986661051,2177026350,2456956037,2730485921,2820302411,3259730800,3345764771,3516065817,3600352804,4094571909,275423344,430227734,506948616,659060556,883997877,958139571,1322822218,1537002063,1747873779,1955562222,2024104815,2227730452,2361852424,2428436474,2756734187,3204031479,3329325298]
 some (pb_0,())
def Wh.q89':=en Wh.q89
theorem Wh.q89_v:OV Wh.q89 Wh.q89':=eB _
abbrev Wh.Pe:Type:=((Int)×(Unit)×(List (Int))×(Unit))×((List (Int))×(List (Int)))
abbrev Wh.acI:Type:=((((Unit))×((List (Int)))))
def Wh.J6 (x:Wh.Pe):Option (Wh.Pe⊕Wh.acI):=
 let E5:=x.1.1
 let NP:=(x.1.2.2).1
 let N8:=x.2.1
 let N9:=x.2.2
 bif decide (E5<8) then
  let pb_193:List Int:=[IntKind.wrap .u32 (List.getD NP (Int.toNat E5) 0+List.getD N8 (Int.toNat E5) 0)]
  let ls_194:=N9++pb_193
  bif iy [decide (List.length N9+(1:Nat)≤dh),decide (0≤E5),decide (E5<(↑(List.length N8):Int)),decide (0≤E5),decide (E5<(↑(List.length NP):Int))] then
   some (.inl (((IntKind.wrap .i64 (E5+1)),(),NP,()),N8,ls_194))
  else none
 else
  some (.inr ((),N9))
def Wh.Xh:(((Unit))×((List (Int)))):=default
abbrev Wh.Pb:Type:=((Int)×(Unit)×(Unit)×(Unit)×(List (Int))×(Int)×(Int)×(Int)×(Int))×((List (Int))×(List (Int))×(List (Int)))
abbrev Wh.acH:Type:=((((Unit)×(Unit)×(Unit)×(List (Int))×(Int)×(Int)×(Int)×(Int))×((List (Int))×(List (Int))×(List (Int)))))
def Wh.J5 (x:Wh.Pb):Option (Wh.Pb⊕Wh.acH):=
 let Ia:=x.1.1
 let h_73:=(x.1.2.2.2.2).1
 let i_74:=(x.1.2.2.2.2).2.1
 let Wz:=(x.1.2.2.2.2).2.2.1
 let a_76:=(x.1.2.2.2.2).2.2.2.1
 let t_77:=(x.1.2.2.2.2).2.2.2.2
 let GJ:=x.2.1
 let LL:=x.2.2.1
 let ls_80:=x.2.2.2
 bif decide (Ia>0) then
  let ls_82:=List.set GJ (Int.toNat Ia) (List.getD GJ (Int.toNat (IntKind.wrap .i64 (Ia-1))) 0)
  let HE:=IntKind.wrap .i64 (Ia-1)
  bif iy [decide (0≤Ia),decide (Ia<(↑(List.length GJ):Int)),decide (0≤HE),decide (HE<(↑(List.length GJ):Int))] then
   some (.inl ((HE,(),(),(),h_73,i_74,Wz,a_76,t_77),ls_82,LL,ls_80))
  else none
 else
  some (.inr (((),(),(),h_73,i_74,Wz,a_76,t_77),GJ,LL,ls_80))
def Wh.Pd:(((Unit)×(Unit)×(Unit)×(List (Int))×(Int)×(Int)×(Int)×(Int))×((List (Int))×(List (Int))×(List (Int)))):=default
abbrev Wh.Pa:Type:=((Unit)×(Int)×(Unit)×(Unit)×(List (Int)))×((List (Int))×(List (Int))×(List (Int)))
abbrev Wh.acG:Type:=((((Unit)×(List (Int)))×((List (Int)))))
def Wh.GV (x:Wh.Pa):Option (Wh.Pa⊕Wh.acG):=
 let E3:=x.1.2.1
 let h_103:=x.1.2.2.2.2
 let yF:=x.2.1
 let JI:=x.2.2.1
 let JJ:=x.2.2.2
 bif decide (E3<64) then
  let DO:=List.getD yF (Int.toNat 4) 0
  let r_119:=Wh.Ai (DO,6)
  let r_120:=Wh.Ai (DO,11)
  let r_121:=Wh.Ai (DO,25)
  let e_122:Int:=nj Go.BinOp.xor Go.IntKind.u32 (nj Go.BinOp.xor Go.IntKind.u32 r_119.1 r_120.1) r_121.1
  bif iy [nQ (Wh.yT (DO,25)),true,decide (4<(↑(List.length yF):Int)),nQ (Wh.yT (DO,11)),true,decide (4<(↑(List.length yF):Int)),nQ (Wh.yT (DO,6)),true,decide (4<(↑(List.length yF):Int))] then
   let v_123:=List.getD yF (Int.toNat 5) 0
   let v_124:=List.getD yF (Int.toNat 6) 0
   let ch_127:Int:=nj Go.BinOp.xor Go.IntKind.u32 (nj Go.BinOp.and Go.IntKind.u32 DO v_123) (nj Go.BinOp.and Go.IntKind.u32 (nj Go.BinOp.xor Go.IntKind.u32 (Go.IntKind.max Go.IntKind.u32) DO) v_124)
   bif iy [true,decide (6<(↑(List.length yF):Int)),true,decide (4<(↑(List.length yF):Int)),true,decide (5<(↑(List.length yF):Int)),true,decide (4<(↑(List.length yF):Int))] then
    let v_128:=List.getD yF (Int.toNat 7) 0
    let v_131:=List.getD JJ (Int.toNat E3) 0
    let v_133:=List.getD JI (Int.toNat E3) 0
    bif iy [decide (0≤E3),decide (E3<(↑(List.length JI):Int)),decide (0≤E3),decide (E3<(↑(List.length JJ):Int)),true,decide (7<(↑(List.length yF):Int))] then
     let F3:=List.getD yF (Int.toNat 0) 0
     let r_147:=Wh.Ai (F3,2)
     let r_148:=Wh.Ai (F3,13)
     let r_149:=Wh.Ai (F3,22)
     let a_150:Int:=nj Go.BinOp.xor Go.IntKind.u32 (nj Go.BinOp.xor Go.IntKind.u32 r_147.1 r_148.1) r_149.1
     bif iy [nQ (Wh.yT (F3,22)),true,decide (0<(↑(List.length yF):Int)),nQ (Wh.yT (F3,13)),true,decide (0<(↑(List.length yF):Int)),nQ (Wh.yT (F3,2)),true,decide (0<(↑(List.length yF):Int))] then
      let v_151:=List.getD yF (Int.toNat 1) 0
      let v_152:=List.getD yF (Int.toNat 2) 0
      let abX:Int:=nj Go.BinOp.xor Go.IntKind.u32 (nj Go.BinOp.xor Go.IntKind.u32 (nj Go.BinOp.and Go.IntKind.u32 F3 v_151) (nj Go.BinOp.and Go.IntKind.u32 F3 v_152)) (nj Go.BinOp.and Go.IntKind.u32 v_151 v_152)
      bif iy [true,decide (2<(↑(List.length yF):Int)),true,decide (1<(↑(List.length yF):Int)),true,decide (2<(↑(List.length yF):Int)),true,decide (0<(↑(List.length yF):Int)),true,decide (1<(↑(List.length yF):Int)),true,decide (0<(↑(List.length yF):Int))] then
       let x_156:Wh.Pb:=((7,(),(),(),h_103,E3,abX,a_150,(IntKind.wrap .u32 (IntKind.wrap .u32 (IntKind.wrap .u32 (IntKind.wrap .u32 (v_128+e_122)+ch_127)+v_131)+v_133))),yF,JI,JJ)
       bif lF Wh.J5 x_156 then
        let Ga:=kG Wh.J5 Wh.Pd x_156
        let h_158:=Ga.1.2.2.2.1
        let i_159:=(Ga.1.2.2.2.2).1
        let abY:=(Ga.1.2.2.2.2).2.1
        let a_161:=(Ga.1.2.2.2.2).2.2.1
        let t_162:=(Ga.1.2.2.2.2).2.2.2
        let LG:=Ga.2.1
        let ls_164:=Ga.2.2.1
        let ls_165:=Ga.2.2.2
        let Vv:=List.set LG (Int.toNat 4) (IntKind.wrap .u32 (List.getD LG (Int.toNat 4) 0+t_162))
        bif iy [true,decide (4<(↑(List.length LG):Int)),true,decide (4<(↑(List.length LG):Int))] then
         let ls_169:=List.set Vv (Int.toNat 0) (IntKind.wrap .u32 (IntKind.wrap .u32 (t_162+a_161)+abY))
         bif iy [true,decide (0<(↑(List.length Vv):Int))] then
          some (.inl (((),(IntKind.wrap .i64 (i_159+1)),(),(),h_158),ls_169,ls_164,ls_165))
         else none
        else none
       else none
      else none
     else none
    else none
   else none
  else none
 else
  some (.inr (((),h_103),yF))
def Wh.Xg:(((Unit)×(List (Int)))×((List (Int)))):=default
def Wh.Iw (xs:(List (Int))×(List (Int))):Option (((List (Int)))×(Unit)):=
 let h_0:=xs.1
 let b_1:=xs.2
 let r_2:=Wh.Pg b_1
 bif iy [nQ (Wh.Ix b_1)] then
  let r_3:=Wh.q89' ()
  bif iy [nQ (Wh.q89 ())] then
   let JW:List Int:=[]++h_0
   bif iy [decide ((0:Nat)+List.length h_0≤dh)] then
    let x_173:Wh.Pa:=(((),0,(),(),h_0),JW,r_2.1,r_3.1)
    bif lF Wh.GV x_173 then
     let y_174:=kG Wh.GV Wh.Xg x_173
     let h_175:=y_174.1.2
     let ls_176:=y_174.2
     let x_199:Wh.Pe:=((0,(),h_175,()),ls_176,[])
     bif lF Wh.J6 x_199 then
      let y_200:=kG Wh.J6 Wh.Xh x_199
      let ls_201:=y_200.2
      some (ls_201,())
     else none
    else none
   else none
  else none
 else none
def Wh.O_:=en Wh.Iw
theorem Wh.Xi:OV Wh.Iw Wh.O_:=eB _
abbrev Wh.Qz:Type:=((Int)×(Unit)×(Unit))×((List (Int))×(List (Int)))
abbrev Wh.ac_:Type:=((((Unit))×((List (Int)))))
def Wh.Kc (x:Wh.Qz):Option (Wh.Qz⊕Wh.ac_):=
 let Bf:=x.1.1
 let yl:=x.2.1
 let ym:=x.2.2
 bif decide (Bf<8) then
  let Ch:List Int:=[IntKind.wrap .u8 (Int.fdiv (List.getD yl (Int.toNat Bf) 0) (2 ^ Min.min (Int.toNat 24) (Go.IntKind.bits Go.IntKind.u32))),IntKind.wrap .u8 (Int.fdiv (List.getD yl (Int.toNat Bf) 0) (2 ^ Min.min (Int.toNat 16) (Go.IntKind.bits Go.IntKind.u32))),IntKind.wrap .u8 (Int.fdiv (List.getD yl (Int.toNat Bf) 0) (2 ^ Min.min (Int.toNat 8) (Go.IntKind.bits Go.IntKind.u32))),IntKind.wrap .u8 (List.getD yl (Int.toNat Bf) 0)]
  let yd:=ym++Ch
  bif iy [decide (List.length ym+(4:Nat)≤dh),decide (0≤Bf),decide (Bf<(↑(List.length yl):Int)),true,decide (0≤Bf),decide (Bf<(↑(List.length yl):Int)),true,decide (0≤Bf),decide (Bf<(↑(List.length yl):Int)),true,decide (0≤Bf),decide (Bf<(↑(List.length yl):Int))] then
   some (.inl (((IntKind.wrap .i64 (Bf+1)),(),()),yl,yd))
  else none
 else
  some (.inr ((),ym))
def Wh.X4:(((Unit))×((List (Int)))):=default
abbrev Wh.Qy:Type:=((Int)×(Unit)×(Unit))×((List (Int))×(List (Int)))
abbrev Wh.ac9:Type:=((((Unit))×((List (Int)))))
def Wh.FB (x:Wh.Qy):Option (Wh.Qy⊕Wh.ac9):=
 let AY:=x.1.1
 let E9:=x.2.1
 let JK:=x.2.2
 bif decide (AY<(↑(List.length E9):Int)) then
  let DJ:=Wh.O_ (JK,List.take (Int.toNat (IntKind.wrap .i64 (AY+64)-AY)) (List.drop (Int.toNat AY) E9))
  let r_:=IntKind.wrap .i64 (AY+64)
  bif iy [nQ (Wh.Iw (JK,List.take (Int.toNat (r_-AY)) (List.drop (Int.toNat AY) E9))),decide (0≤AY),decide (AY≤r_),decide (r_≤(↑(List.length E9):Int))] then
   some (.inl ((r_,(),()),E9,DJ.1))
  else none
 else
  some (.inr ((),JK))
def Wh.X3:(((Unit))×((List (Int)))):=default
def Wh.IU (xs:(List UInt8)):Option (((List UInt8))×(Unit)):=
 let zd:=xs
 let r_1:=Wh.q90' zd
 bif iy [nQ (Wh.q90 zd)] then
  let x_16:Wh.Qy:=((0,(),()),r_1.1,[(1779033703:Int),3144134277,1013904242,2773480762,1359893119,2600822924,528734635,1541459225])
  bif lF Wh.FB x_16 then
   let y_17:=kG Wh.FB Wh.X3 x_16
   let yj:=y_17.2
   let x_47:Wh.Qz:=((0,(),()),yj,[])
   bif lF Wh.Kc x_47 then
    let y_48:=kG Wh.Kc Wh.X4 x_47
    let Af:=y_48.2
    some (qp Af,())
   else none
  else none
 else none
def Wh.Qx:=en Wh.IU
theorem Wh.X5:OV Wh.IU Wh.Qx:=eB _
abbrev Wh.Qv:Type:=((Int)×(List UInt8)×(Unit))×((List (Int)))
abbrev Wh.ac8:Type:=((((Unit))×((List (Int)))))
def Wh.FA (x:Wh.Qv):Option (Wh.Qv⊕Wh.ac8):=
 let AB:=x.1.1
 let CZ:=x.1.2.1
 let yR:=x.2
 let xb:=decide (AB<(↑(List.length CZ):Int))
 bif xb then
  let GN:List Int:=[(↑(UInt8.toNat (List.getD [(48:UInt8),(49:UInt8),(50:UInt8),(51:UInt8),(52:UInt8),(53:UInt8),(54:UInt8),(55:UInt8),(56:UInt8),(57:UInt8),(97:UInt8),(98:UInt8),(99:UInt8),(100:UInt8),(101:UInt8),(102:UInt8)] (Int.toNat (IntKind.wrap .u8 (Int.tdiv (↑(UInt8.toNat (List.getD CZ (Int.toNat AB) (0:UInt8))):Int) 16))) (0:UInt8))):Int),(↑(UInt8.toNat (List.getD [(48:UInt8),(49:UInt8),(50:UInt8),(51:UInt8),(52:UInt8),(53:UInt8),(54:UInt8),(55:UInt8),(56:UInt8),(57:UInt8),(97:UInt8),(98:UInt8),(99:UInt8),(100:UInt8),(101:UInt8),(102:UInt8)] (Int.toNat (Int.tmod (↑(UInt8.toNat (List.getD CZ (Int.toNat AB) (0:UInt8))):Int) 16)) (0:UInt8))):Int)]
  let yj:=yR++GN
  let th:Int:=(↑(UInt8.toNat (List.getD CZ (Int.toNat AB) (0:UInt8))):Int)
  bif iy [decide (List.length yR+(2:Nat)≤dh),decide (0≤Int.tmod th 16),decide (Int.tmod th 16<(↑(16:Nat):Int)),true,decide (0≤AB),xb,decide (0≤IntKind.wrap .u8 (Int.tdiv th 16)),decide (IntKind.wrap .u8 (Int.tdiv th 16)<(↑(16:Nat):Int)),true,decide (0≤AB),xb] then
   some (.inl (((IntKind.wrap .i64 (AB+1)),CZ,()),yj))
  else none
 else
  some (.inr ((),yR))
def Wh.X2:(((Unit))×((List (Int)))):=default
def Wh.G9 (xs:(List UInt8)):Option (((List UInt8))×(Unit)):=
 let ct:=xs
 let x_25:Wh.Qv:=((0,ct,()),[])
 bif lF Wh.FA x_25 then
  let Aa:=kG Wh.FA Wh.X2 x_25
  let yM:=Aa.2
  some (qp yM,())
 else none
def Wh.Mj:=en Wh.G9
theorem Wh.Qw:OV Wh.G9 Wh.Mj:=eB _
def Wh.Ip (xs:(List UInt8)):Option (((List UInt8))×(Unit)):=
 let zd:=xs
 let r_1:=Wh.Qx zd
 let r_3:=Wh.Mj r_1.1
 bif iy [nQ (Wh.G9 r_1.1),nQ (Wh.IU zd)] then
  some (r_3.1,())
 else none
def Wh.Fk:=en Wh.Ip
theorem Wh.W_:OV Wh.Ip Wh.Fk:=eB _
def Wh.IG (xs:(Int)×(List UInt8)):Option (((List UInt8))×(Unit)):=
 let yY:=xs.1
 let zM:=xs.2
 let r_2:=Wh.Av yY
 let gd:=Wh.Av (↑(List.length zM):Int)
 let AX:=r_2.1 ++ [(32:UInt8)]++gd.1 ++ [(32:UInt8)]
 bif iy [decide (List.length (r_2.1 ++ [(32:UInt8)]++gd.1)+(1:Nat)≤dh),decide (List.length (r_2.1 ++ [(32:UInt8)])+List.length gd.1≤dh),nQ (Wh.Bw (↑(List.length zM):Int)),decide (List.length r_2.1+(1:Nat)≤dh),nQ (Wh.Bw yY)] then
  let yP:List UInt8:=AX++zM
  let zc:=Wh.Fk yP
  let xO:List UInt8:=AX++List.take (Int.toNat ((16:Int)-0)) (List.drop (Int.toNat 0) zc.1) ++ [(32:UInt8)]++zM ++ [(10:UInt8)]
  bif iy [decide (List.length (AX++List.take (Int.toNat ((16:Int)-0)) (List.drop (Int.toNat 0) ((Wh.Fk yP).1)) ++ [(32:UInt8)]++zM)+(1:Nat)≤dh),decide (List.length (AX++List.take (Int.toNat ((16:Int)-0)) (List.drop (Int.toNat 0) ((Wh.Fk yP).1)) ++ [(32:UInt8)])+List.length zM≤dh),decide (List.length (AX++List.take (Int.toNat ((16:Int)-0)) (List.drop (Int.toNat 0) ((Wh.Fk yP).1)))+(1:Nat)≤dh),decide (List.length AX+List.length (List.take (Int.toNat ((16:Int)-0)) (List.drop (Int.toNat 0) ((Wh.Fk yP).1)))≤dh),true,true,decide (16≤(↑(List.length ((Wh.Fk yP).1)):Int)),nQ (Wh.Ip yP),decide (List.length AX+List.length zM≤dh)] then
   some (xO,())
  else none
 else none
def Wh.P3:=en Wh.IG
theorem Wh.P4:OV Wh.IG Wh.P3:=eB _
def Wh.Fs (xs:(List UInt8)×(Int)×(Int)):Option (((List UInt8)×(Int))×(Unit)):=
 let zh:=xs.1
 let zu:=xs.2.1
 let Ot:=xs.2.2
 let r_3:=Wh.J9 (zh,zu,32)
 bif iy [nQ (Wh.zW (zh,zu,32))] then
  let yq:=decide (r_3.1<0)
  let xP:=Wh.Kd (List.take (Int.toNat (r_3.1-zu)) (List.drop (Int.toNat zu) zh))
  let zp:=bif yq then true else xP.1 != Ot
  bif iy [!!yq || nQ (Wh.Cm (List.take (Int.toNat (r_3.1-zu)) (List.drop (Int.toNat zu) zh))),!!yq || decide (0≤zu),!!yq || decide (zu≤r_3.1),!!yq || decide (r_3.1≤(↑(List.length zh):Int))] then
   bif zp then
    some (([],0),())
   else
    let yz:=IntKind.wrap .i64 (r_3.1+1)
    let r_9:=Wh.J9 (zh,yz,32)
    bif iy [nQ (Wh.zW (zh,yz,32))] then
     bif decide (r_9.1<0) then
      some (([],0),())
     else
      let DJ:=Wh.Kd (List.take (Int.toNat (r_9.1-yz)) (List.drop (Int.toNat yz) zh))
      bif iy [nQ (Wh.Cm (List.take (Int.toNat (r_9.1-yz)) (List.drop (Int.toNat yz) zh))),decide (0≤yz),decide (yz≤r_9.1),decide (r_9.1≤(↑(List.length zh):Int))] then
       let r_:=IntKind.wrap .i64 (r_9.1+18)
       let Ko:=Wh.s4 (DJ.1,1,500)
       let xb:=bif !Ko.1 then true else decide (IntKind.wrap .i64 (IntKind.wrap .i64 (r_+DJ.1)+1)>(↑(List.length zh):Int))
       bif iy [nQ (Wh.xV (DJ.1,1,500))] then
        bif xb then
         some (([],0),())
        else
         let yw:=IntKind.wrap .i64 (r_+DJ.1)
         let zc:=Wh.P3 (Ot,List.take (Int.toNat (yw-r_)) (List.drop (Int.toNat r_) zh))
         bif iy [nQ (Wh.IG (Ot,List.take (Int.toNat (yw-r_)) (List.drop (Int.toNat r_) zh))),decide (0≤r_),decide (r_≤yw),decide (yw≤(↑(List.length zh):Int))] then
          bif iy [decide (0≤zu),decide (zu≤IntKind.wrap .i64 (yw+1)),decide (IntKind.wrap .i64 (yw+1)≤(↑(List.length zh):Int))] then
           bif(!List.take (Int.toNat (IntKind.wrap .i64 (yw+1)-zu)) (List.drop (Int.toNat zu) zh)==zc.1) then
            some (([],0),())
           else
            let Bz:Int:=(↑(List.length zc.1):Int)
            let wX:List UInt8:=List.take (Int.toNat (yw-r_)) (List.drop (Int.toNat r_) zh)
            bif iy [decide (0≤r_),decide (r_≤yw),decide (yw≤(↑(List.length zh):Int))] then
             some ((wX,Bz),())
            else none
          else none
         else none
       else none
      else none
    else none
  else none
 else none
def Wh.P5:=en Wh.Fs
theorem Wh.P6:OV Wh.Fs Wh.P5:=eB _
abbrev Wh.P7:Type:=((Int)×(Unit)×(List UInt8))×((List (List UInt8)))
abbrev Wh.acY:Type:=((((Unit)×(Int))×((List (List UInt8)))))
def Wh.Fu (x:Wh.P7):Option (Wh.P7⊕Wh.acY):=
 let K8:=x.1.1
 let N3:=x.1.2.2
 let yL:=x.2
 let ov:Int:=(↑(List.length yL):Int)
 let DK:=Wh.P5 (N3,K8,ov)
 bif iy [nQ (Wh.Fs (N3,K8,ov))] then
  bif(DK.1.2==0) then
   some (.inr (((),K8),yL))
  else
   let pb_30:List (List UInt8):=[DK.1.1]
   let yS:List (List UInt8):=yL++pb_30
   bif iy [decide (List.length yL+(1:Nat)≤dh)] then
    some (.inl (((IntKind.wrap .i64 (K8+DK.1.2)),(),N3),yS))
   else none
 else none
def Wh.XK:(((Unit)×(Int))×((List (List UInt8)))):=default
def Wh.Ft (xs:(List UInt8)):Option (((List (List UInt8))×(Int))×(Unit)):=
 let zh:=xs
 let x_33:Wh.P7:=((0,(),zh),[])
 bif lF Wh.Fu x_33 then
  let y_34:=kG Wh.Fu Wh.XK x_33
  let yO:=y_34.1.2
  let Dl:=y_34.2
  some ((Dl,yO),())
 else none
def Wh.Mb:=en Wh.Ft
theorem Wh.P8:OV Wh.Ft Wh.Mb:=eB _
abbrev Wh.PW:Type:=((Int)×(Int)×(List UInt8)×(Unit)×(Int))×((List (List UInt8)))
abbrev Wh.acV:Type:=((((Int)×(List UInt8)×(Unit))×((List (List UInt8)))))
def Wh.Au (x:Wh.PW):Option (Wh.PW⊕Wh.acV):=
 let nE:=x.1.1
 let HP:=x.1.2.1
 let Hy:=(x.1.2.2).1
 let Ns:=x.1.2.2.2.2
 let yL:=x.2
 let ov:=decide (nE<(↑(List.length Hy):Int))
 bif ov then
  let xO:Int:=(↑(UInt8.toNat (List.getD Hy (Int.toNat nE) (0:UInt8))):Int)
  let yI:=xO==Ns
  bif iy [decide (0≤nE),ov] then
   bif yI then
    let Cg:List (List UInt8):=[List.take (Int.toNat (nE-HP)) (List.drop (Int.toNat HP) Hy)]
    let BJ:List (List UInt8):=yL++Cg
    bif iy [decide (List.length yL+(1:Nat)≤dh),decide (0≤HP),decide (HP≤nE),decide (nE≤(↑(List.length Hy):Int))] then
     let wX:=IntKind.wrap .i64 (nE+1)
     some (.inl ((wX,wX,Hy,(),Ns),BJ))
    else none
   else
    some (.inl (((IntKind.wrap .i64 (nE+1)),HP,Hy,(),Ns),yL))
  else none
 else
  some (.inr ((HP,Hy,()),yL))
def Wh.XH:(((Int)×(List UInt8)×(Unit))×((List (List UInt8)))):=default
def Wh.Fq (xs:(List UInt8)×(Int)):Option (((List (List UInt8)))×(Unit)):=
 let ct:=xs.1
 let zu:=xs.2
 let C6:Wh.PW:=((0,0,ct,(),zu),[])
 bif lF Wh.Au C6 then
  let BZ:=kG Wh.Au Wh.XH C6
  let Lt:=BZ.1.1
  let Kz:=BZ.1.2.1
  let y4:=BZ.2
  let xT:List (List UInt8):=[List.take (Int.toNat ((↑(List.length Kz):Int)-Lt)) (List.drop (Int.toNat Lt) Kz)]
  let yl:List (List UInt8):=y4++xT
  bif iy [decide (List.length y4+(1:Nat)≤dh),decide (0≤Lt),decide (Lt≤(↑(List.length Kz):Int)),decide ((↑(List.length Kz):Int)≤(↑(List.length Kz):Int))] then
   some (yl,())
  else none
 else none
def Wh.PV:=en Wh.Fq
theorem Wh.PX:OV Wh.Fq Wh.PV:=eB _
abbrev Wh.PI:Type:=((Int)×(List UInt8))×(Unit)
abbrev Wh.acQ:Type:=((((Bool))×(Unit))⊕(((List UInt8))×(Unit)))
def Wh.Ej (x:Wh.PI):Option (Wh.PI⊕Wh.acQ):=
 let AY:=x.1.1
 let MZ:=x.1.2
 let yu:=decide (AY<(↑(List.length MZ):Int))
 bif yu then
  let xN:Int:=(↑(UInt8.toNat (List.getD MZ (Int.toNat AY) (0:UInt8))):Int)
  let xR:=bif decide (xN<97) then true else decide (xN>122)
  bif iy [!!decide (xN<97) || decide (0≤AY),!!decide (xN<97) || yu,decide (0≤AY),yu] then
   bif xR then
    some (.inr (.inl (false,())))
   else
    some (.inl (((IntKind.wrap .i64 (AY+1)),MZ),()))
  else none
 else
  some (.inr (.inr (MZ,())))
def Wh.XA:(((Bool))×(Unit))⊕(((List UInt8))×(Unit)):=.inl default
def Wh.G2 (xs:(List UInt8)):Option (((Bool))×(Unit)):=
 let zd:=xs
 let x_17:Wh.PI:=((0,zd),())
 bif lF Wh.Ej x_17 then
  sumC (kG Wh.Ej Wh.XA x_17) (fun HG=>
   let ov:=HG.1
   some (ov,())) (fun KZ=>
   let Zi:=KZ.1
   let r_22:=Wh.s4 ((↑(List.length Zi):Int),1,6)
   bif iy [nQ (Wh.xV ((↑(List.length Zi):Int),1,6))] then
    some (r_22.1,())
   else none)
 else none
def Wh.L9:=en Wh.G2
theorem Wh.PJ:OV Wh.G2 Wh.L9:=eB _
def Wh.Eu (xs:(an.D)):Option (((Bool))×(Unit)):=
 let t_0:an.D:=xs
 let r_1:=Wh.s4 (t_0.1,0,1)
 let r_2:=Wh.L9 t_0.2.1
 let xP:=Wh.s4 ((↑(List.length ((t_0.2.2.2).1)):Int),1,300)
 let yz:=bif bif r_1.1 then r_2.1 else false then xP.1 else false
 bif iy [(!bif r_1.1 then r_2.1 else false) || nQ (Wh.xV ((↑(List.length ((t_0.2.2.2).1)):Int),1,300)),!r_1.1 || nQ (Wh.G2 t_0.2.1),nQ (Wh.xV (t_0.1,0,1))] then
  some (yz,())
 else none
def Wh.IW:=en Wh.Eu
theorem Wh.FD:OV Wh.Eu Wh.IW:=eB _
def Wh.q58 (xs:(Int)×(List UInt8)×(List UInt8)):Option (((List UInt8))×(Unit)):=
 let E0:=xs.1
 let zl:=xs.2.1
 let By:=xs.2.2
 let nC:=By == []
 bif nC then
  let gd:=Wh.IW (E0,zl,0,[(120:UInt8)],())
  bif iy [nQ (Wh.Eu (E0,zl,0,[(120:UInt8)],()))] then
   bif !gd.1 then
    some ([],())
   else
    let xP:=Wh.Av E0
    let Az:=xP.1 ++ [(32:UInt8)]++zl ++ [(58:UInt8)]++By
    bif iy [decide (List.length (xP.1 ++ [(32:UInt8)]++zl ++ [(58:UInt8)])+List.length By≤dh),decide (List.length (xP.1 ++ [(32:UInt8)]++zl)+(1:Nat)≤dh),decide (List.length (xP.1 ++ [(32:UInt8)])+List.length zl≤dh),decide (List.length xP.1+(1:Nat)≤dh),nQ (Wh.Bw E0)] then
     some (Az,())
    else none
  else none
 else
  let yH:=Wh.IW (E0,zl,0,By,())
  bif iy [nQ (Wh.Eu (E0,zl,0,By,()))] then
   bif !yH.1 then
    some ([],())
   else
    let Aw:=Wh.Av E0
    let yw:=Aw.1 ++ [(32:UInt8)]++zl ++ [(58:UInt8)]++By
    bif iy [decide (List.length (Aw.1 ++ [(32:UInt8)]++zl ++ [(58:UInt8)])+List.length By≤dh),decide (List.length (Aw.1 ++ [(32:UInt8)]++zl)+(1:Nat)≤dh),decide (List.length (Aw.1 ++ [(32:UInt8)])+List.length zl≤dh),decide (List.length Aw.1+(1:Nat)≤dh),nQ (Wh.Bw E0)] then
     some (yw,())
    else none
  else none
def Wh.q58':=en Wh.q58
theorem Wh.Q_:OV Wh.q58 Wh.q58':=eB _
def Wh.IJ (xs:(an.D)×(Int)×(List UInt8)):Option (((Bool))×(Unit)):=
 let cx:=xs.1
 let xU:=xs.2.1
 let yG:=xs.2.2
 let x6:=bif decide (cx.1<xU) then true else bif cx.1==xU then Go.Op.bytesLess cx.2.1 yG else false
 some (x6,())
def Wh.Mc:=en Wh.IJ
theorem Wh.Md:OV Wh.IJ Wh.Mc:=eB _
abbrev Wh.Pk:Type:=((Int)×(List (an.D))×(Int)×(Int))×(Unit)
abbrev Wh.acL:Type:=((((Int))×(Unit)))
def Wh.Eg (x:Wh.Pk):Option (Wh.Pk⊕Wh.acL):=
 let nE:=x.1.1
 let LD:=x.1.2.1
 let GL:=(x.1.2.2).1
 let Gw:=x.1.2.2.2
 let th:Int:=(↑(List.length LD):Int)
 bif decide (nE<th) then
  let xO:an.D:=List.getD LD (Int.toNat nE) (0,[],0,[],())
  bif iy [decide (0≤nE),decide (nE<th)] then
   bif(xO.1==Gw) then
    bif iy [decide (0≤nE),decide (nE<th)] then
     some (.inl (((IntKind.wrap .i64 (nE+1)),LD,(IntKind.wrap .i64 (GL+(↑(List.length ((xO.2.2.2).1)):Int))),Gw),()))
    else none
   else
    some (.inl (((IntKind.wrap .i64 (nE+1)),LD,GL,Gw),()))
  else none
 else
  some (.inr (GL,()))
def Wh.Xm:(((Int))×(Unit)):=default
def Wh.GY (xs:(List (an.D))×(Int)):Option (((Int))×(Unit)):=
 let HY:=xs.1
 let xU:=xs.2
 let C6:Wh.Pk:=((0,HY,0,xU),())
 bif lF Wh.Eg C6 then
  let BZ:=kG Wh.Eg Wh.Xm C6
  let n_30:=BZ.1
  some (n_30,())
 else none
def Wh.L4:=en Wh.GY
theorem Wh.L5:OV Wh.GY Wh.L4:=eB _
abbrev Wh.Qp:Type:=((Int)×(Unit))×((fN.D))
abbrev Wh.ac5:Type:=((((Bool))×(Unit))⊕((Unit)×(Unit)))
def Wh.G6 (x:Wh.Qp):Option (Wh.Qp⊕Wh.ac5):=
 let h_66:=x.1.1
 let GI:=x.2
 bif decide (h_66<2) then
  let r_69:=Wh.L4 (GI.2.1,h_66)
  bif iy [nQ (Wh.GY (GI.2.1,h_66))] then
   bif decide (r_69.1>500) then
    some (.inr (.inl (false,())))
   else
    some (.inl (((IntKind.wrap .i64 (h_66+1)),()),GI))
  else none
 else
  some (.inr (.inr ((),())))
def Wh.XY:(((Bool))×(Unit))⊕((Unit)×(Unit)):=.inl default
abbrev Wh.Qo:Type:=((Int)×(Unit)×(Unit)×(Int))×((an.D)×(fN.D))
abbrev Wh.ac4:Type:=((((Bool))×(Unit))⊕(((Unit)×(Int))×((fN.D))))
def Wh.Fy (x:Wh.Qo):Option (Wh.Qo⊕Wh.ac4):=
 let JC:=x.1.1
 let i_23:=x.1.2.2.2
 let BJ:=x.2.1
 let LH:=x.2.2
 bif decide (JC<i_23) then
  let AA:an.D:=List.getD LH.2.1 (Int.toNat JC) (0,[],0,[],())
  bif iy [decide (0≤JC),decide (JC<(↑(List.length LH.2.1):Int))] then
   bif(AA.2.2.1==BJ.2.2.1) then
    some (.inr (.inl (false,())))
   else
    some (.inl (((IntKind.wrap .i64 (JC+1)),(),(),i_23),BJ,LH))
  else none
 else
  some (.inr (.inr (((),i_23),LH)))
def Wh.XX:(((Bool))×(Unit))⊕(((Unit)×(Int))×((fN.D))):=.inl default
abbrev Wh.Qn:Type:=((Unit)×(Int))×((fN.D))
abbrev Wh.ac3:Type:=((((Bool))×(Unit))⊕(((Unit))×((fN.D))))
def Wh.En (x:Wh.Qn):Option (Wh.Qn⊕Wh.ac3):=
 let BI:=x.1.2
 let yd:=x.2
 let HD:Int:=(↑(List.length yd.2.1):Int)
 bif decide (BI<HD) then
  let Aq:an.D:=List.getD yd.2.1 (Int.toNat BI) (0,[],0,[],())
  bif iy [decide (0≤BI),decide (BI<HD)] then
   let Hs:=Wh.IW Aq
   let MK:=Wh.s4 (Aq.2.2.1,1,yd.1)
   let r_46:=Wh.Mc (List.getD yd.2.1 (Int.toNat (IntKind.wrap .i64 (BI-1))) (0,[],0,[],()),Aq.1,Aq.2.1)
   let KG:=bif bif !Hs.1 then true else !MK.1 then true else bif decide (BI>0) then !r_46.1 else false
   bif iy [!(decide (BI>0) && !bif !Hs.1 then true else !MK.1) || nQ (Wh.IJ (List.getD yd.2.1 (Int.toNat (IntKind.wrap .i64 (BI-1))) (0,[],0,[],()),Aq.1,Aq.2.1)),!(decide (BI>0) && !bif !Hs.1 then true else !MK.1) || decide (0≤IntKind.wrap .i64 (BI-1)),!(decide (BI>0) && !bif !Hs.1 then true else !MK.1) || decide (IntKind.wrap .i64 (BI-1)<HD),!!!Hs.1 || nQ (Wh.xV (Aq.2.2.1,1,yd.1)),nQ (Wh.Eu Aq)] then
    bif KG then
     some (.inr (.inl (false,())))
    else
     let BA:Wh.Qo:=((0,(),(),BI),Aq,yd)
     bif lF Wh.Fy BA then
      sumC (kG Wh.Fy Wh.XX BA) (fun AP=>
       let AO:=AP.1
       some (.inr (.inl (AO,())))) (fun M_=>
       let Jz:=M_.1.2
       let Dm:=M_.2
       some (.inl (((),(IntKind.wrap .i64 (Jz+1))),Dm)))
     else none
   else none
  else none
 else
  some (.inr (.inr ((),yd)))
def Wh.XW:(((Bool))×(Unit))⊕(((Unit))×((fN.D))):=.inl default
def Wh.Fx (xs:(fN.D)):Option (((Bool))×(Unit)):=
 let gz:fN.D:=xs
 let r_1:=Wh.s4 (gz.1,0,99999)
 let v_2:=bif !r_1.1 then true else decide ((↑(List.length gz.2.1):Int)>8)
 bif iy [nQ (Wh.xV (gz.1,0,99999))] then
  bif v_2 then
   some (false,())
  else
   let C7:Wh.Qn:=(((),0),gz)
   bif lF Wh.En C7 then
    sumC (kG Wh.En Wh.XW C7) (fun AQ=>
     let v_58:=AQ.1
     some (v_58,())) (fun z_57=>
     let JL:=z_57.2
     let x_72:Wh.Qp:=((0,()),JL)
     bif lF Wh.G6 x_72 then
      sumC (kG Wh.G6 Wh.XY x_72) (fun y_73=>
       let v_75:=y_73.1
       some (v_75,())) (fun _=>
       some (true,()))
     else none)
   else none
 else none
def Wh.Kb:=en Wh.Fx
theorem Wh.Fz:OV Wh.Fx Wh.Kb:=eB _
abbrev Wh.QE:Type:=((Int)×(List UInt8)×(Unit)×(Int))×((fN.D))
abbrev Wh.adf:Type:=((((Int))×(Unit))⊕((Unit)×(Unit)))
def Wh.Et (x:Wh.QE):Option (Wh.QE⊕Wh.adf):=
 let E4:=x.1.1
 let WC:=x.1.2.1
 let Lz:=x.1.2.2.2
 let zi:=x.2
 let x5:Int:=(↑(List.length zi.2.1):Int)
 bif decide (E4<x5) then
  let ov:an.D:=List.getD zi.2.1 (Int.toNat E4) (0,[],0,[],())
  let Ak:=bif ov.1==Lz then ov.2.1==WC else false
  bif iy [!ov.1==Lz || decide (0≤E4),!ov.1==Lz || decide (E4<x5),decide (0≤E4),decide (E4<x5)] then
   bif Ak then
    some (.inr (.inl (E4,())))
   else
    some (.inl (((IntKind.wrap .i64 (E4+1)),WC,(),Lz),zi))
  else none
 else
  some (.inr (.inr ((),())))
def Wh.X_:(((Int))×(Unit))⊕((Unit)×(Unit)):=.inl default
def Wh.CN (xs:(fN.D)×(Int)×(List UInt8)):Option (((Int))×(Unit)):=
 let gz:=xs.1
 let xU:=xs.2.1
 let yG:=xs.2.2
 let x_25:Wh.QE:=((0,yG,(),xU),gz)
 bif lF Wh.Et x_25 then
  sumC (kG Wh.Et Wh.X_ x_25) (fun Aa=>
   let nG:=Aa.1
   some (nG,())) (fun _=>
   some (-1,()))
 else none
def Wh.Ke:=en Wh.CN
theorem Wh.Hg:OV Wh.CN Wh.Ke:=eB _
def Wh.DB (xs:(fN.D)):Option ((((Int)×((List (an.D))×(Unit))))×(Unit)):=
 let gz:fN.D:=xs
 let zV:List (an.D):=[]++gz.2.1
 bif iy [decide ((0:Nat)+List.length gz.2.1≤dh)] then
  some ((gz.1,zV,gz.2.2),())
 else none
def Wh.G4:=en Wh.DB
theorem Wh.II:OV Wh.DB Wh.G4:=eB _
def Wh.IK (xs:(fN.D)×(Int)):Option ((((Int)×((List (an.D))×(Unit))))×(Unit)):=
 let gz:=xs.1
 let k_1:=xs.2
 let pb_2:List (an.D):=[]++List.take (Int.toNat (k_1-0)) (List.drop (Int.toNat 0) gz.2.1)
 let Ec:List (an.D):=pb_2++List.take (Int.toNat ((↑(List.length gz.2.1):Int)-IntKind.wrap .i64 (k_1+1))) (List.drop (Int.toNat (IntKind.wrap .i64 (k_1+1))) gz.2.1)
 let yq:List (an.D):=List.take (Int.toNat (k_1-0)) (List.drop (Int.toNat 0) gz.2.1)
 let x6:=IntKind.wrap .i64 (k_1+1)
 bif iy [decide (List.length pb_2+List.length (List.take (Int.toNat ((↑(List.length gz.2.1):Int)-x6)) (List.drop (Int.toNat x6) gz.2.1))≤dh),decide (0≤x6),decide (x6≤(↑(List.length gz.2.1):Int)),decide ((↑(List.length gz.2.1):Int)≤(↑(List.length gz.2.1):Int)),decide ((0:Nat)+List.length yq≤dh),true,decide (0≤k_1),decide (k_1≤(↑(List.length gz.2.1):Int))] then
  some ((gz.1,Ec,()),())
 else none
def Wh.Qa:=en Wh.IK
theorem Wh.XL:OV Wh.IK Wh.Qa:=eB _
def Wh.GS (xs:(fN.D)×(Int)×(List UInt8)):Option ((((Int)×((List (an.D))×(Unit)))×(Int))×(Unit)):=
 let gz:=xs.1
 let xU:=xs.2.1
 let yG:=xs.2.2
 let r_3:=Wh.Kb gz
 bif iy [nQ (Wh.Fx gz)] then
  bif !r_3.1 then
   some (((0,[],()),1),())
  else
   let gd:=Wh.Ke (gz,xU,yG)
   bif iy [nQ (Wh.CN (gz,xU,yG))] then
    bif decide (gd.1<0) then
     let xe:=Wh.G4 gz
     bif iy [nQ (Wh.DB gz)] then
      some ((xe.1,3),())
     else none
    else
     let x9:=Wh.Qa (gz,gd.1)
     bif iy [nQ (Wh.IK (gz,gd.1))] then
      some ((x9.1,0),())
     else none
   else none
 else none
def Wh.LZ:=en Wh.GS
theorem Wh.W9:OV Wh.GS Wh.LZ:=eB _
abbrev Wh.QD:Type:=((Int)×(Unit)×(Unit)×(Unit))×(((Int)×((Unit)×(Unit)))×(fN.D)×(an.D)×(List (an.D)))
abbrev Wh.ade:Type:=((((Unit)×(Int)×(Unit)×(Unit))×(((Int)×((Unit)×(Unit)))×(fN.D)×(an.D)×(List (an.D)))))
def Wh.Es (x:Wh.QD):Option (Wh.QD⊕Wh.ade):=
 let Dd:=x.1.1
 let yR:=x.2.1.1
 let Cd:=x.2.1.2.2
 let zi:=x.2.2.1
 let yj:=(x.2.2.2).1
 let yL:=x.2.2.2.2
 let ov:Int:=(↑(List.length zi.2.1):Int)
 let zm:=Wh.Mc (List.getD zi.2.1 (Int.toNat Dd) (0,[],0,[],()),yj.1,yj.2.1)
 let vN:=bif decide (Dd<ov) then zm.1 else false
 bif iy [!decide (Dd<ov) || nQ (Wh.IJ (List.getD zi.2.1 (Int.toNat Dd) (0,[],0,[],()),yj.1,yj.2.1)),!decide (Dd<ov) || decide (0≤Dd),!decide (Dd<ov) || decide (Dd<ov)] then
  bif vN then
   some (.inl (((IntKind.wrap .i64 (Dd+1)),(),(),()),(yR,(),Cd),zi,yj,yL))
  else
   some (.inr (((),Dd,(),()),(yR,(),Cd),zi,yj,yL))
 else none
def Wh.X8:(((Unit)×(Int)×(Unit)×(Unit))×(((Int)×((Unit)×(Unit)))×(fN.D)×(an.D)×(List (an.D)))):=default
def Wh.IV (xs:(fN.D)×(an.D)):Option ((((Int)×((List (an.D))×(Unit))))×(Unit)):=
 let gz:=xs.1
 let t_1:=xs.2
 let KJ:Wh.QD:=((0,(),(),()),(0,(),()),gz,t_1,[])
 bif lF Wh.Es KJ then
  let KU:=kG Wh.Es Wh.X8 KJ
  let De:=KU.1.2.1
  let yS:=KU.2.2.1
  let y4:=(KU.2.2.2).1
  let LW:=IntKind.wrap .i64 (yS.1+1)
  let BN:List (an.D):=[]++List.take (Int.toNat (De-0)) (List.drop (Int.toNat 0) yS.2.1)
  let LX:List (an.D):=[(y4.1,y4.2.1,LW,y4.2.2.2)]
  let pb_38:List (an.D):=BN++LX++List.take (Int.toNat ((↑(List.length yS.2.1):Int)-De)) (List.drop (Int.toNat De) yS.2.1)
  let HD:List (an.D):=List.take (Int.toNat (De-0)) (List.drop (Int.toNat 0) yS.2.1)
  let zC:List (an.D):=List.take (Int.toNat ((↑(List.length yS.2.1):Int)-De)) (List.drop (Int.toNat De) yS.2.1)
  bif iy [decide (List.length (BN++LX)+List.length zC≤dh),decide (0≤De),decide (De≤(↑(List.length yS.2.1):Int)),decide ((↑(List.length yS.2.1):Int)≤(↑(List.length yS.2.1):Int)),decide (List.length BN+(1:Nat)≤dh),decide ((0:Nat)+List.length HD≤dh),true,decide (0≤De),decide (De≤(↑(List.length yS.2.1):Int))] then
   some ((LW,pb_38,()),())
  else none
 else none
def Wh.QC:=en Wh.IV
theorem Wh.X9:OV Wh.IV Wh.QC:=eB _
def Wh.Fp (xs:(fN.D)×(Int)×(List UInt8)×(List UInt8)):Option ((((Int)×((List (an.D))×(Unit)))×(Int))×(Unit)):=
 let gz:=xs.1
 let xU:=xs.2.1
 let yG:=xs.2.2.1
 let DN:=xs.2.2.2
 let gd:=Wh.Kb gz
 bif iy [nQ (Wh.Fx gz)] then
  bif !gd.1 then
   some (((0,[],()),1),())
  else
   let xP:=Wh.IW (xU,yG,0,DN,())
   bif iy [nQ (Wh.Eu (xU,yG,0,DN,()))] then
    bif !xP.1 then
     let xe:=Wh.G4 gz
     bif iy [nQ (Wh.DB gz)] then
      some ((xe.1,1),())
     else none
    else
     let x9:=Wh.Ke (gz,xU,yG)
     bif iy [nQ (Wh.CN (gz,xU,yG))] then
      bif decide (x9.1≥0) then
       let zZ:=Wh.G4 gz
       bif iy [nQ (Wh.DB gz)] then
        some ((zZ.1,2),())
       else none
      else
       let yu:Int:=(↑(List.length gz.2.1):Int)
       let Kp:=Wh.L4 (gz.2.1,xU)
       let x5:=bif bif decide (yu≥8) then true else decide (gz.1≥99999) then true else decide (IntKind.wrap .i64 (Kp.1+(↑(List.length DN):Int))>500)
       bif iy [(!!bif decide (yu≥8) then true else decide (gz.1≥99999)) || nQ (Wh.GY (gz.2.1,xU))] then
        bif x5 then
         let Kq:=Wh.G4 gz
         bif iy [nQ (Wh.DB gz)] then
          some ((Kq.1,4),())
         else none
        else
         let zc:=Wh.QC (gz,xU,yG,0,DN,())
         bif iy [nQ (Wh.IV (gz,xU,yG,0,DN,()))] then
          some ((zc.1,0),())
         else none
       else none
     else none
   else none
 else none
def Wh.L8:=en Wh.Fp
theorem Wh.Xz:OV Wh.Fp Wh.L8:=eB _
def Wh.Fv (xs:(fN.D)×(List UInt8)):Option ((((Int)×((List (an.D))×(Unit)))×(Bool))×(Unit)):=
 let gz:=xs.1
 let s_1:=xs.2
 let r_2:=Wh.J9 (s_1,0,58)
 bif iy [nQ (Wh.zW (s_1,0,58))] then
  bif decide (r_2.1<0) then
   some (((0,[],()),false),())
  else
   let gd:=Wh.PV (List.take (Int.toNat (r_2.1-0)) (List.drop (Int.toNat 0) s_1),32)
   let x6:List UInt8:=List.take (Int.toNat (r_2.1-0)) (List.drop (Int.toNat 0) s_1)
   bif iy [nQ (Wh.Fq (x6,32)),true,decide (0≤r_2.1),decide (r_2.1≤(↑(List.length s_1):Int))] then
    let zp:=IntKind.wrap .i64 (r_2.1+1)
    let ER:List UInt8:=List.take (Int.toNat ((↑(List.length s_1):Int)-zp)) (List.drop (Int.toNat zp) s_1)
    bif iy [decide (0≤zp),decide (zp≤(↑(List.length s_1):Int)),decide ((↑(List.length s_1):Int)≤(↑(List.length s_1):Int))] then
     let yU:Int:=(↑(List.length gd.1):Int)
     let Aw:=Wh.Kd (List.getD gd.1 (Int.toNat 0) [])
     let DJ:=Wh.q58' (Aw.1,List.getD gd.1 (Int.toNat 1) [],ER)
     let r_:=bif yU != 2 then true else !DJ.1==s_1
     bif iy [!!yU != 2 || nQ (Wh.q58 (Aw.1,List.getD gd.1 (Int.toNat 1) [],ER)),!!yU != 2 || decide ((0:Int)≤1),!!yU != 2 || decide (1<yU),!!yU != 2 || nQ (Wh.Cm (List.getD gd.1 (Int.toNat 0) [])),!!yU != 2 || decide ((0:Int)≤0),!!yU != 2 || decide (0<yU)] then
      bif r_ then
       some (((0,[],()),false),())
      else
       let xR:=ER == []
       bif xR then
        let Kp:=Wh.LZ (gz,Aw.1,List.getD gd.1 (Int.toNat 1) [])
        let th:=List.getD gd.1 (Int.toNat 0) []
        let ov:=List.getD gd.1 (Int.toNat 1) []
        let r_30:=Wh.LZ (gz,Aw.1,ov)
        bif iy [nQ (Wh.GS (gz,Aw.1,ov)),true,decide (1<yU),nQ (Wh.Cm th),true,decide (0<yU)] then
         some (((Kp.1.1.1,(Kp.1.1.2).1,Kp.1.1.2.2),(r_30.1.2==0)),())
        else none
       else
        let xS:=Wh.L8 (gz,Aw.1,List.getD gd.1 (Int.toNat 1) [],ER)
        let yO:=List.getD gd.1 (Int.toNat 0) []
        let xW:=List.getD gd.1 (Int.toNat 1) []
        let r_46:=Wh.L8 (gz,Aw.1,xW,ER)
        bif iy [nQ (Wh.Fp (gz,Aw.1,xW,ER)),true,decide (1<yU),nQ (Wh.Cm yO),true,decide (0<yU)] then
         some (((xS.1.1.1,(xS.1.1.2).1,xS.1.1.2.2),(r_46.1.2==0)),())
        else none
     else none
    else none
   else none
 else none
def Wh.P9:=en Wh.Fv
theorem Wh.P_:OV Wh.Fv Wh.P9:=eB _
abbrev Wh.Ql:Type:=((Unit)×(Int)×(Unit)×(List (List UInt8)))×(((Int)×((Unit)×(Unit)))×((Int)×((Unit)×(Unit)))×(List (an.D))×(List (an.D)))
abbrev Wh.ac2:Type:=((((Unit)×(Bool))×(((Int)×((Unit)×(Unit)))×(List (an.D))))⊕(((Unit)×(Unit))×(((Int)×((Unit)×(Unit)))×((Int)×((Unit)×(Unit)))×(List (an.D))×(List (an.D)))))
def Wh.Em (x:Wh.Ql):Option (Wh.Ql⊕Wh.ac2):=
 let nE:=x.1.2.1
 let MR:=x.1.2.2.2
 let zi:=x.2.1.1
 let yj:=x.2.1.2.2
 let yL:=x.2.2.1.1
 let Bi:=(x.2.2.1).2.2
 let AE:=(x.2.2.2).1
 let AZ:=x.2.2.2.2
 let Ak:Int:=(↑(List.length MR):Int)
 bif decide (nE<Ak) then
  let A9:=Wh.P9 ((yL,AZ,Bi),List.getD MR (Int.toNat nE) [])
  let wX:=List.getD MR (Int.toNat nE) []
  bif iy [nQ (Wh.Fv ((yL,AZ,Bi),wX)),decide (0≤nE),decide (nE<Ak)] then
   bif(!A9.1.2) then
    some (.inr (.inl (((),false),(0,(),()),[])))
   else
    some (.inl (((),(IntKind.wrap .i64 (nE+1)),(),MR),(zi,(),yj),(A9.1.1.1,(),A9.1.1.2.2),AE,(A9.1.1.2).1))
  else none
 else
  some (.inr (.inr (((),()),(zi,(),yj),(yL,(),Bi),AE,AZ)))
def Wh.XV:(((Unit)×(Bool))×(((Int)×((Unit)×(Unit)))×(List (an.D))))⊕(((Unit)×(Unit))×(((Int)×((Unit)×(Unit)))×((Int)×((Unit)×(Unit)))×(List (an.D))×(List (an.D)))):=.inl default
def Wh.G5 (xs:(List (List UInt8))):Option ((((Int)×((List (an.D))×(Unit)))×(Bool))×(Unit)):=
 let MQ:List (List UInt8):=xs
 let KL:Wh.Ql:=(((),0,(),MQ),(0,(),()),(0,(),()),[],[])
 bif lF Wh.Em KL then
  sumC (kG Wh.Em Wh.XV KL) (fun Jg=>
   let z_:=Jg.1.2
   let zj:=Jg.2.1.1
   let yl:=Jg.2.1.2.2
   let ym:=Jg.2.2
   some (((zj,ym,yl),z_),())) (fun z_31=>
   let yd:=z_31.2.2.1.1
   let A2:=(z_31.2.2.1).2.2
   let LJ:=z_31.2.2.2.2
   some (((yd,LJ,A2),true),()))
 else none
def Wh.Mg:=en Wh.G5
theorem Wh.Qm:OV Wh.G5 Wh.Mg:=eB _
def Wh.Iu (xs:(fk.D)):Option (((Bool))×(Unit)):=
 let ct:fk.D:=xs
 let r_1:=Wh.Mb (ct.2.2.1)
 bif iy [nQ (Wh.Ft (ct.2.2.1))] then
  let r_2:=Wh.Mg r_1.1.1
  bif iy [nQ (Wh.G5 r_1.1.1)] then
   some (r_2.1.2,())
  else none
 else none
def Wh.O6:=en Wh.Iu
theorem Wh.Xe:OV Wh.Iu Wh.O6:=eB _
abbrev Wh.O5:Type:=((Int)×(Unit)×(Unit))×((fN.D)×(fN.D))
abbrev Wh.acE:Type:=((((Bool))×(Unit))⊕((Unit)×(Unit)))
def Wh.Ee (x:Wh.O5):Option (Wh.O5⊕Wh.acE):=
 let AB:=x.1.1
 let yA:=x.2.1
 let yR:=x.2.2
 let xb:Int:=(↑(List.length yR.2.1):Int)
 bif decide (AB<xb) then
  let x5:an.D:=List.getD yR.2.1 (Int.toNat AB) (0,[],0,[],())
  let th:an.D:=List.getD yA.2.1 (Int.toNat AB) (0,[],0,[],())
  bif iy [decide (0≤AB),decide (AB<(↑(List.length yA.2.1):Int)),decide (0≤AB),decide (AB<xb)] then
   bif(!(x5.1==th.1&&(x5.2.1==th.2.1&&(x5.2.2.1==th.2.2.1&&((x5.2.2.2).1==(th.2.2.2).1&&true))))) then
    some (.inr (.inl (false,())))
   else
    some (.inl (((IntKind.wrap .i64 (AB+1)),(),()),yA,yR))
  else none
 else
  some (.inr (.inr ((),())))
def Wh.Xc:(((Bool))×(Unit))⊕((Unit)×(Unit)):=.inl default
def Wh.Fl (xs:(fN.D)×(fN.D)):Option (((Bool))×(Unit)):=
 let cx:=xs.1
 let b_1:=xs.2
 let nC:=bif(cx.1 != b_1.1) then true else(↑(List.length cx.2.1):Int) != (↑(List.length b_1.2.1):Int)
 bif nC then
  some (false,())
 else
  let x_22:Wh.O5:=((0,(),()),b_1,cx)
  bif lF Wh.Ee x_22 then
   sumC (kG Wh.Ee Wh.Xc x_22) (fun y_23=>
    let Bz:=y_23.1
    some (Bz,())) (fun _=>
    some (true,()))
  else none
def Wh.O4:=en Wh.Fl
theorem Wh.Xd:OV Wh.Fl Wh.O4:=eB _
def Wh.G7 (xs:(e_.D)):Option (((Bool))×(Unit)):=
 let Be:e_.D:=xs
 bif(Be.2.1==0) then
  some ((Be.1==0&&(Be.2.1==0&&(Be.2.2.1==0&&((Be.2.2.2).1==0&&(Be.2.2.2.2.1==false&&true))))),())
 else
  let r_3:=Wh.s4 (Be.1,0,1)
  let gd:=Wh.s4 (Be.2.1,1,99999)
  let x9:=Wh.s4 (Be.2.2.1,0,23)
  let zZ:=Wh.s4 ((Be.2.2.2).1,0,99999)
  let xN:=bif bif bif r_3.1 then gd.1 else false then x9.1 else false then zZ.1 else false
  bif iy [(!bif bif r_3.1 then gd.1 else false then x9.1 else false) || nQ (Wh.xV ((Be.2.2.2).1,0,99999)),(!bif r_3.1 then gd.1 else false) || nQ (Wh.xV (Be.2.2.1,0,23)),!r_3.1 || nQ (Wh.xV (Be.2.1,1,99999)),nQ (Wh.xV (Be.1,0,1))] then
   some (xN,())
  else none
def Wh.Qs:=en Wh.G7
theorem Wh.Mh:OV Wh.G7 Wh.Qs:=eB _
abbrev Wh.Qr:Type:=((Int)×(Int)×(Int)×(Unit))×((lg.D))
abbrev Wh.ac6:Type:=((((Int))×(Unit)))
def Wh.Eo (x:Wh.Qr):Option (Wh.Qr⊕Wh.ac6):=
 let nE:=x.1.1
 let GK:=x.1.2.1
 let Gv:=(x.1.2.2).1
 let yj:=x.2
 let th:Int:=(↑(List.length yj.1):Int)
 bif decide (nE<th) then
  let xO:e_.D:=List.getD yj.1 (Int.toNat nE) (0,0,0,0,false,())
  let vN:=bif decide (xO.2.1>0) then xO.1==Gv else false
  bif iy [!decide (xO.2.1>0) || decide (0≤nE),!decide (xO.2.1>0) || decide (nE<th),decide (0≤nE),decide (nE<th)] then
   bif vN then
    some (.inl (((IntKind.wrap .i64 (nE+1)),(IntKind.wrap .i64 (GK+1)),Gv,()),yj))
   else
    some (.inl (((IntKind.wrap .i64 (nE+1)),GK,Gv,()),yj))
  else none
 else
  some (.inr (GK,()))
def Wh.XZ:(((Int))×(Unit)):=default
def Wh.IS (xs:(lg.D)×(Int)):Option (((Int))×(Unit)):=
 let mb:=xs.1
 let xU:=xs.2
 let C6:Wh.Qr:=((0,0,xU,()),mb)
 bif lF Wh.Eo C6 then
  let BZ:=kG Wh.Eo Wh.XZ C6
  let n_30:=BZ.1
  some (n_30,())
 else none
def Wh.Qq:=en Wh.IS
theorem Wh.IT:OV Wh.IS Wh.Qq:=eB _
abbrev Wh.PR:Type:=((Int)×(Unit))×((lg.D))
abbrev Wh.acU:Type:=((((Bool))×(Unit))⊕((Unit)×(Unit)))
def Wh.Dy (x:Wh.PR):Option (Wh.PR⊕Wh.acU):=
 let h_67:=x.1.1
 let JN:=x.2
 bif decide (h_67<2) then
  let r_70:=Wh.Qq (JN,h_67)
  bif iy [nQ (Wh.IS (JN,h_67))] then
   bif decide (r_70.1>5) then
    some (.inr (.inl (false,())))
   else
    some (.inl (((IntKind.wrap .i64 (h_67+1)),()),JN))
  else none
 else
  some (.inr (.inr ((),())))
def Wh.XF:(((Bool))×(Unit))⊕((Unit)×(Unit)):=.inl default
abbrev Wh.PO:Type:=((Int)×(Unit)×(Int))×((lg.D))
abbrev Wh.acT:Type:=((((Bool))×(Unit))⊕(((Unit)×(Int))×((lg.D))))
def Wh.Bt (x:Wh.PO):Option (Wh.PO⊕Wh.acT):=
 let Ca:=x.1.1
 let x_:=x.1.2.2
 let Bj:=x.2
 bif decide (Ca<x_) then
  let nG:e_.D:=List.getD Bj.1 (Int.toNat x_) (0,0,0,0,false,())
  let zg:=bif bif decide (nG.2.1>0) then nG.2.1==Prod.fst (Prod.snd (List.getD Bj.1 (Int.toNat Ca) (0,0,0,0,false,()))) else false then nG.2.2.1==Prod.fst (Prod.snd (Prod.snd (List.getD Bj.1 (Int.toNat Ca) (0,0,0,0,false,())))) else false
  bif iy [(!bif decide (nG.2.1>0) then nG.2.1==Prod.fst (Prod.snd (List.getD Bj.1 (Int.toNat Ca) (0,0,0,0,false,()))) else false) || decide (0≤Ca),(!bif decide (nG.2.1>0) then nG.2.1==Prod.fst (Prod.snd (List.getD Bj.1 (Int.toNat Ca) (0,0,0,0,false,()))) else false) || decide (Ca<(↑(List.length Bj.1):Int)),(!bif decide (nG.2.1>0) then nG.2.1==Prod.fst (Prod.snd (List.getD Bj.1 (Int.toNat Ca) (0,0,0,0,false,()))) else false) || decide (0≤x_),(!bif decide (nG.2.1>0) then nG.2.1==Prod.fst (Prod.snd (List.getD Bj.1 (Int.toNat Ca) (0,0,0,0,false,()))) else false) || decide (x_<(↑(List.length Bj.1):Int)),!decide (nG.2.1>0) || decide (0≤Ca),!decide (nG.2.1>0) || decide (Ca<(↑(List.length Bj.1):Int)),!decide (nG.2.1>0) || decide (0≤x_),!decide (nG.2.1>0) || decide (x_<(↑(List.length Bj.1):Int)),decide (0≤x_),decide (x_<(↑(List.length Bj.1):Int))] then
   bif zg then
    some (.inr (.inl (false,())))
   else
    some (.inl (((IntKind.wrap .i64 (Ca+1)),(),x_),Bj))
  else none
 else
  some (.inr (.inr (((),x_),Bj)))
def Wh.XE:(((Bool))×(Unit))⊕(((Unit)×(Int))×((lg.D))):=.inl default
abbrev Wh.PN:Type:=((Unit)×(Int))×((lg.D))
abbrev Wh.acS:Type:=((((Bool))×(Unit))⊕(((Unit))×((lg.D))))
def Wh.Dx (x:Wh.PN):Option (Wh.PN⊕Wh.acS):=
 let Jy:=x.1.2
 let BK:=x.2
 let v_44:Int:=(↑(List.length BK.1):Int)
 bif decide (Jy<v_44) then
  let v_46:e_.D:=List.getD BK.1 (Int.toNat Jy) (0,0,0,0,false,())
  let r_48:=Wh.Qs v_46
  bif iy [nQ (Wh.G7 v_46),decide (0≤Jy),decide (Jy<v_44)] then
   bif !r_48.1 then
    some (.inr (.inl (false,())))
   else
    let x_49:Wh.PO:=((0,(),Jy),BK)
    bif lF Wh.Bt x_49 then
     sumC (kG Wh.Bt Wh.XE x_49) (fun y_50=>
      let Jb:=y_50.1
      some (.inr (.inl (Jb,())))) (fun z_51=>
      let i_53:=z_51.1.2
      let Ag:=z_51.2
      some (.inl (((),(IntKind.wrap .i64 (i_53+1))),Ag)))
    else none
  else none
 else
  some (.inr (.inr ((),BK)))
def Wh.XD:(((Bool))×(Unit))⊕(((Unit))×((lg.D))):=.inl default
def Wh.G3 (xs:(lg.D)):Option (((Bool))×(Unit)):=
 let mb:lg.D:=xs
 let v_1:Int:=(↑(List.length mb.1):Int)
 let gd:=Wh.s4 (mb.2.1,0,7)
 let x6:=bif v_1 != 8 then true else !gd.1
 bif iy [!!v_1 != 8 || nQ (Wh.xV (mb.2.1,0,7))] then
  bif x6 then
   some (false,())
  else
   let x_56:Wh.PN:=(((),0),mb)
   bif lF Wh.Dx x_56 then
    sumC (kG Wh.Dx Wh.XD x_56) (fun y_57=>
     let EU:=y_57.1
     some (EU,())) (fun z_58=>
     let JM:=z_58.2
     let KQ:Wh.PR:=((0,()),JM)
     bif lF Wh.Dy KQ then
      sumC (kG Wh.Dy Wh.XF KQ) (fun DT=>
       let v_76:=DT.1
       some (v_76,())) (fun _=>
       some (true,()))
     else none)
   else none
 else none
def Wh.PM:=en Wh.G3
theorem Wh.XG:OV Wh.G3 Wh.PM:=eB _
abbrev Wh.Rc:Type:=((Unit)×(Int)×(Unit)×(Int))×((an.D)×(fN.D))
abbrev Wh.adx:Type:=((((Unit)×(Bool))×((an.D)))⊕(((Unit))×((an.D))))
def Wh.EH (x:Wh.Rc):Option (Wh.Rc⊕Wh.adx):=
 let Gy:=x.1.2.1
 let Us:=x.1.2.2.2
 let LF:=x.2.1
 let yA:=x.2.2
 let xR:Int:=(↑(List.length yA.2.1):Int)
 bif decide (Gy<xR) then
  let yw:an.D:=List.getD yA.2.1 (Int.toNat Gy) (0,[],0,[],())
  bif iy [decide (0≤Gy),decide (Gy<xR)] then
   bif(yw.2.2.1==Us) then
    bif iy [decide (0≤Gy),decide (Gy<xR)] then
     some (.inr (.inl (((),true),yw)))
    else none
   else
    some (.inl (((),(IntKind.wrap .i64 (Gy+1)),(),Us),LF,yA))
  else none
 else
  some (.inr (.inr ((),LF)))
def Wh.Yy:(((Unit)×(Bool))×((an.D)))⊕(((Unit))×((an.D))):=.inl default
def Wh.q61 (xs:(fN.D)×(Int)):Option (((an.D)×(Bool))×(Unit)):=
 let gz:=xs.1
 let HO:=xs.2
 let x_20:Wh.Rc:=(((),0,(),HO),(0,[],0,[],()),gz)
 bif lF Wh.EH x_20 then
  sumC (kG Wh.EH Wh.Yy x_20) (fun y_21=>
   let Ak:=y_21.1.2
   let BJ:=y_21.2
   some ((BJ,Ak),())) (fun _=>
   some (((0,[],0,[],()),false),()))
 else none
def Wh.Mx:=en Wh.q61
theorem Wh.FQ:OV Wh.q61 Wh.Mx:=eB _
def Wh.q88 (xs:(Int)):Option (((Int))×(Unit)):=
 let Jq:=xs
 some ((Int.tmod Jq 2),())
def Wh.MC:=en Wh.q88
theorem Wh.Cn:OV Wh.q88 Wh.MC:=eB _
abbrev Wh.Rb:Type:=((Int)×(Unit))×((fk.D))
abbrev Wh.adw:Type:=((((Bool))×(Unit))⊕((Unit)×(Unit)))
def Wh.DE (x:Wh.Rb):Option (Wh.Rb⊕Wh.adw):=
 let yQ:=x.1.1
 let zE:=x.2
 let zf:Int:=(↑(List.length ((zE.2.2.2.2.2).2.1)):Int)
 bif decide (yQ<zf) then
  let tn:cr.D:=List.getD ((zE.2.2.2.2.2).2.1) (Int.toNat yQ) (0,0,0,0,0,0,())
  bif iy [decide (0≤yQ),decide (yQ<zf)] then
   let xS:=Wh.s4 (tn.1,0,3)
   let Ku:=Wh.s4 (tn.2.1,1,99999)
   let gv:=Wh.s4 (tn.2.2.1,1,(zE.2.2.2).1.1)
   let z7:=Wh.s4 ((tn.2.2.2).1,0,9999)
   let Ht:=Wh.s4 (tn.2.2.2.2.1,0,3)
   let Hu:=Wh.s4 ((tn.2.2.2.2.2).1,0,zE.2.1)
   let v_48:=bif bif bif bif bif bif !xS.1 then true else bif decide (yQ>0) then decide (Prod.fst (List.getD ((zE.2.2.2.2.2).2.1) (Int.toNat (IntKind.wrap .i64 (yQ-1))) (0,0,0,0,0,0,()))≥tn.1) else false then true else !Ku.1 then true else !gv.1 then true else !z7.1 then true else !Ht.1 then true else !Hu.1
   bif iy [(!!bif bif bif bif bif !xS.1 then true else bif decide (yQ>0) then decide (Prod.fst (List.getD ((zE.2.2.2.2.2).2.1) (Int.toNat (IntKind.wrap .i64 (yQ-1))) (0,0,0,0,0,0,()))≥tn.1) else false then true else !Ku.1 then true else !gv.1 then true else !z7.1 then true else !Ht.1) || nQ (Wh.xV ((tn.2.2.2.2.2).1,0,zE.2.1)),(!!bif bif bif bif !xS.1 then true else bif decide (yQ>0) then decide (Prod.fst (List.getD ((zE.2.2.2.2.2).2.1) (Int.toNat (IntKind.wrap .i64 (yQ-1))) (0,0,0,0,0,0,()))≥tn.1) else false then true else !Ku.1 then true else !gv.1 then true else !z7.1) || nQ (Wh.xV (tn.2.2.2.2.1,0,3)),(!!bif bif bif !xS.1 then true else bif decide (yQ>0) then decide (Prod.fst (List.getD ((zE.2.2.2.2.2).2.1) (Int.toNat (IntKind.wrap .i64 (yQ-1))) (0,0,0,0,0,0,()))≥tn.1) else false then true else !Ku.1 then true else !gv.1) || nQ (Wh.xV ((tn.2.2.2).1,0,9999)),(!!bif bif !xS.1 then true else bif decide (yQ>0) then decide (Prod.fst (List.getD ((zE.2.2.2.2.2).2.1) (Int.toNat (IntKind.wrap .i64 (yQ-1))) (0,0,0,0,0,0,()))≥tn.1) else false then true else !Ku.1) || nQ (Wh.xV (tn.2.2.1,1,(zE.2.2.2).1.1)),(!!bif !xS.1 then true else bif decide (yQ>0) then decide (Prod.fst (List.getD ((zE.2.2.2.2.2).2.1) (Int.toNat (IntKind.wrap .i64 (yQ-1))) (0,0,0,0,0,0,()))≥tn.1) else false) || nQ (Wh.xV (tn.2.1,1,99999)),!(decide (yQ>0) && !!xS.1) || decide (0≤IntKind.wrap .i64 (yQ-1)),!(decide (yQ>0) && !!xS.1) || decide (IntKind.wrap .i64 (yQ-1)<zf),nQ (Wh.xV (tn.1,0,3))] then
    bif v_48 then
     some (.inr (.inl (false,())))
    else
     let Kx:=Wh.Mx ((zE.2.2.2).1,tn.2.2.1)
     bif iy [nQ (Wh.q61 ((zE.2.2.2).1,tn.2.2.1))] then
      let r_50:=Wh.MC tn.1
      let AO:=bif Kx.1.2 then Kx.1.1.1 != r_50.1 else false
      bif iy [!Kx.1.2 || nQ (Wh.q88 tn.1)] then
       bif AO then
        some (.inr (.inl (false,())))
       else
        some (.inl (((IntKind.wrap .i64 (yQ+1)),()),zE))
      else none
     else none
   else none
  else none
 else
  some (.inr (.inr ((),())))
def Wh.Yx:(((Bool))×(Unit))⊕((Unit)×(Unit)):=.inl default
def Wh.q60 (xs:(fk.D)):Option (((Bool))×(Unit)):=
 let ct:fk.D:=xs
 let KP:Wh.Rb:=((0,()),ct)
 bif lF Wh.DE KP then
  sumC (kG Wh.DE Wh.Yx KP) (fun y_54=>
   let F9:=y_54.1
   some (F9,())) (fun _=>
   some (true,()))
 else none
def Wh.q60':=en Wh.q60
theorem Wh.q60_v:OV Wh.q60 Wh.q60':=eB _
def Wh.Bp (xs:(s_.D)):Option (((Int))×(Unit)):=
 let mb:s_.D:=xs
 bif iy [mb.2.1 != 0] then
  some ((IntKind.wrap .i64 (Int.tdiv (IntKind.wrap .i64 ((IntKind.wrap .i64 (mb.1+mb.2.1))-1)) mb.2.1)),())
 else none
def Wh.zJ:=en Wh.Bp
theorem Wh.AJ:OV Wh.Bp Wh.zJ:=eB _
abbrev Wh.QA:Type:=((Unit)×(Unit))×(((Int)×((Int)×((Unit)×((Unit)×(Unit)))))×((Int)×((Int)×((Unit)×((Unit)×(Unit)))))×(List (Int))×(List (Int))×(List (Int))×(List (Int)))
abbrev Wh.ada:Type:=((((Unit)×(Unit))×(((Int)×((Int)×((Unit)×((Unit)×(Unit)))))×((Int)×((Int)×((Unit)×((Unit)×(Unit)))))×(List (Int))×(List (Int))×(List (Int))×(List (Int)))))
def Wh.Bx (x:Wh.QA):Option (Wh.QA⊕Wh.ada):=
 let yA:=x.2.1.1
 let yR:=(x.2.1.2).1
 let Cd:=(x.2.1.2.2.2).2
 let zi:=x.2.2.1.1
 let yj:=(x.2.2.1).2.1
 let yL:=(x.2.2.1).2.2.2.2
 let Bi:=(x.2.2.2).1
 let AE:=x.2.2.2.2.1
 let AZ:=(x.2.2.2.2.2).1
 let zR:=(x.2.2.2.2.2).2
 let Hr:=Wh.zJ (yA,yR,Bi,AE,Cd)
 bif iy [nQ (Wh.Bp (yA,yR,Bi,AE,Cd))] then
  bif decide (Hr.1>24) then
   some (.inl (((),()),(yA,(IntKind.wrap .i64 (yR+1)),(),(),Cd),(zi,yj,(),(),yL),Bi,AE,AZ,zR))
  else
   some (.inr (((),()),(zi,yj,(),(),yL),(yA,yR,(),(),Cd),AZ,zR,Bi,AE))
 else none
def Wh.X6:(((Unit)×(Unit))×(((Int)×((Int)×((Unit)×((Unit)×(Unit)))))×((Int)×((Int)×((Unit)×((Unit)×(Unit)))))×(List (Int))×(List (Int))×(List (Int))×(List (Int)))):=default
def Wh.BT (xs:(Int)):Option ((((Int)×((Int)×((List (Int))×((List (Int))×(Unit))))))×(Unit)):=
 let JH:=xs
 let KK:Wh.QA:=(((),()),(JH,8,(),(),()),(0,0,(),(),()),[],[],[],[])
 bif lF Wh.Bx KK then
  let HH:=kG Wh.Bx Wh.X6 KK
  let y4:=HH.2.2.1.1
  let zj:=(HH.2.2.1).2.1
  let yl:=(HH.2.2.1).2.2.2.2
  let CF:=(HH.2.2.2.2.2).1
  let yd:=(HH.2.2.2.2.2).2
  let AL:=Wh.zJ (y4,zj,CF,yd,yl)
  bif iy [nQ (Wh.Bp (y4,zj,CF,yd,yl))] then
   let k_42:=IntKind.wrap .i64 (Int.tdiv (IntKind.wrap .i64 (AL.1+3)) 4)
   bif decide (k_42<AL.1) then
    let JY:List Int:=[k_42,AL.1]
    some ((y4,zj,JY,[(2:Int),3],yl),())
   else
    let GO:List Int:=[AL.1]
    some ((y4,zj,GO,[(1:Int)],yl),())
  else none
 else none
def Wh.G_:=en Wh.BT
theorem Wh.He:OV Wh.BT Wh.G_:=eB _
def Wh.q86 (xs:(eA.D)):Option (((Bool))×(Unit)):=
 let y8:eA.D:=xs
 let r_1:=Wh.s4 (y8.2.1,0,99999)
 let r_2:=Wh.s4 (y8.1,0,y8.2.1)
 let xP:=Wh.s4 (y8.2.2.1,0,99999)
 let r5:=Wh.s4 ((y8.2.2.2).1,0,99999)
 let Az:=bif bif bif r_1.1 then r_2.1 else false then xP.1 else false then r5.1 else false
 bif iy [(!bif bif r_1.1 then r_2.1 else false then xP.1 else false) || nQ (Wh.xV ((y8.2.2.2).1,0,99999)),(!bif r_1.1 then r_2.1 else false) || nQ (Wh.xV (y8.2.2.1,0,99999)),!r_1.1 || nQ (Wh.xV (y8.1,0,y8.2.1)),nQ (Wh.xV (y8.2.1,0,99999))] then
  some (Az,())
 else none
def Wh.q86':=en Wh.q86
theorem Wh.q86_v:OV Wh.q86 Wh.q86':=eB _
abbrev Wh.Ry:Type:=((Int)×(Unit))×((fk.D))
abbrev Wh.adP:Type:=((((Bool))×(Unit))⊕((Unit)×(Unit)))
def Wh.EM (x:Wh.Ry):Option (Wh.Ry⊕Wh.adP):=
 let h_80:=x.1.1
 let LN:=x.2
 let M7:Int:=(↑(List.length ((LN.2.2.2.2.2).1)):Int)
 bif decide (h_80<M7) then
  let JZ:eA.D:=List.getD ((LN.2.2.2.2.2).1) (Int.toNat h_80) (0,0,0,0,())
  bif iy [decide (0≤h_80),decide (h_80<M7)] then
   let MN:=Wh.q86' JZ
   let M8:=bif bif bif !MN.1 then true else JZ.2.1 != 40 then true else JZ.2.2.1 != 8 then true else decide ((JZ.2.2.2).1>LN.2.1)
   bif iy [nQ (Wh.q86 JZ)] then
    bif M8 then
     some (.inr (.inl (false,())))
    else
     some (.inl (((IntKind.wrap .i64 (h_80+1)),()),LN))
   else none
  else none
 else
  some (.inr (.inr ((),())))
def Wh.YR:(((Bool))×(Unit))⊕((Unit)×(Unit)):=.inl default
abbrev Wh.Rx:Type:=((Int)×(Unit))×((fk.D))
abbrev Wh.adO:Type:=((((Bool))×(Unit))⊕(((Unit))×((fk.D))))
def Wh.BX (x:Wh.Rx):Option (Wh.Rx⊕Wh.adO):=
 let Bg:=x.1.1
 let A3:=x.2
 let AO:Int:=(↑(List.length ((A3.2.2.2.2.1).1)):Int)
 bif decide (Bg<AO) then
  let zo:=Wh.Mx ((A3.2.2.2).1,Prod.fst (Prod.snd (List.getD ((A3.2.2.2.2.1).1) (Int.toNat Bg) (0,0,0,0,false,()))))
  let yg:e_.D:=List.getD ((A3.2.2.2.2.1).1) (Int.toNat Bg) (0,0,0,0,false,())
  bif iy [nQ (Wh.q61 ((A3.2.2.2).1,yg.2.1)),decide (0≤Bg),decide (Bg<AO)] then
   let DL:=Wh.G_ (↑(List.length ((zo.1.1.2.2.2).1)):Int)
   let r_60:=Wh.zJ (DL.1.1,DL.1.2.1,bif(!bif !zo.1.2 then true else zo.1.1.1 != yg.1)&&(decide (yg.2.1>0) && !decide ((yg.2.2.2).1>0)) then(DL.1.2.2).1 else [],bif(!bif !zo.1.2 then true else zo.1.1.1 != yg.1)&&(decide (yg.2.1>0) && !decide ((yg.2.2.2).1>0)) then DL.1.2.2.2.1 else [],DL.1.2.2.2.2)
   let Jc:=bif decide ((yg.2.2.2).1>0) then true else bif decide (yg.2.1>0) then bif bif !zo.1.2 then true else zo.1.1.1 != yg.1 then true else decide (yg.2.2.1≥r_60.1) else false
   bif iy [!((!bif !zo.1.2 then true else zo.1.1.1 != yg.1)&&(decide (yg.2.1>0) && !decide ((yg.2.2.2).1>0))) || nQ (Wh.Bp (DL.1.1,DL.1.2.1,bif(!bif !zo.1.2 then true else zo.1.1.1 != yg.1)&&(decide (yg.2.1>0) && !decide ((yg.2.2.2).1>0)) then(DL.1.2.2).1 else [],bif(!bif !zo.1.2 then true else zo.1.1.1 != yg.1)&&(decide (yg.2.1>0) && !decide ((yg.2.2.2).1>0)) then DL.1.2.2.2.1 else [],DL.1.2.2.2.2)),!((!bif !zo.1.2 then true else zo.1.1.1 != yg.1)&&(decide (yg.2.1>0) && !decide ((yg.2.2.2).1>0))) || nQ (Wh.BT (↑(List.length ((zo.1.1.2.2.2).1)):Int)),!((!bif !zo.1.2 then true else zo.1.1.1 != yg.1)&&(decide (yg.2.1>0) && !decide ((yg.2.2.2).1>0))) || decide (0≤Bg),!((!bif !zo.1.2 then true else zo.1.1.1 != yg.1)&&(decide (yg.2.1>0) && !decide ((yg.2.2.2).1>0))) || decide (Bg<AO),!(!!zo.1.2&&(decide (yg.2.1>0) && !decide ((yg.2.2.2).1>0))) || decide (0≤Bg),!(!!zo.1.2&&(decide (yg.2.1>0) && !decide ((yg.2.2.2).1>0))) || decide (Bg<AO),!!decide ((yg.2.2.2).1>0) || decide (0≤Bg),!!decide ((yg.2.2.2).1>0) || decide (Bg<AO),decide (0≤Bg),decide (Bg<AO)] then
    bif Jc then
     some (.inr (.inl (false,())))
    else
     some (.inl (((IntKind.wrap .i64 (Bg+1)),()),A3))
   else none
  else none
 else
  some (.inr (.inr ((),A3)))
def Wh.YQ:(((Bool))×(Unit))⊕(((Unit))×((fk.D))):=.inl default
def Wh.q87 (xs:(fk.D)):Option (((Bool))×(Unit)):=
 let ct:fk.D:=xs
 let r_1:=Wh.s4 (ct.2.1,0,99999)
 let v_2:=bif !r_1.1 then true else decide ((↑(List.length (ct.2.2.1)):Int)>9000)
 bif iy [nQ (Wh.xV (ct.2.1,0,99999))] then
  bif v_2 then
   some (false,())
  else
   bif(!ct.1) then
    let yq:Int:=(↑(List.length ((ct.2.2.2).1.2.1)):Int)
    let z6:=Wh.O6 ct
    let th:=bif bif bif bif bif bif yq==0 then(ct.2.2.2).1.1==0 else false then(↑(List.length ((ct.2.2.2.2.1).1)):Int)==0 else false then(ct.2.2.2.2.1).2.1==0 else false then(↑(List.length ((ct.2.2.2.2.2).1)):Int)==0 else false then(↑(List.length ((ct.2.2.2.2.2).2.1)):Int)==0 else false then z6.1 else false
    bif iy [(!bif bif bif bif bif yq==0 then(ct.2.2.2).1.1==0 else false then(↑(List.length ((ct.2.2.2.2.1).1)):Int)==0 else false then(ct.2.2.2.2.1).2.1==0 else false then(↑(List.length ((ct.2.2.2.2.2).1)):Int)==0 else false then(↑(List.length ((ct.2.2.2.2.2).2.1)):Int)==0 else false) || nQ (Wh.Iu ct)] then
     some (th,())
    else none
   else
    let zc:=Wh.Mb (ct.2.2.1)
    bif iy [nQ (Wh.Ft (ct.2.2.1))] then
     let Kr:=Wh.Mg zc.1.1
     bif iy [nQ (Wh.G5 zc.1.1)] then
      let yI:= !Kr.1.2
      let A9:=Wh.O4 (Kr.1.1,(ct.2.2.2).1)
      let r_28:=Wh.PM (ct.2.2.2.2.1)
      let Cp:=Wh.q60' ct
      let y6:=bif bif bif bif bif yI then true else zc.1.2 != (↑(List.length (ct.2.2.1)):Int) then true else !A9.1 then true else !r_28.1 then true else(↑(List.length ((ct.2.2.2.2.2).1)):Int) != 2 then true else !Cp.1
      bif iy [(!!bif bif bif bif yI then true else zc.1.2 != (↑(List.length (ct.2.2.1)):Int) then true else !A9.1 then true else !r_28.1 then true else(↑(List.length ((ct.2.2.2.2.2).1)):Int) != 2) || nQ (Wh.q60 ct),(!!bif bif yI then true else zc.1.2 != (↑(List.length (ct.2.2.1)):Int) then true else !A9.1) || nQ (Wh.G3 (ct.2.2.2.2.1)),(!!bif yI then true else zc.1.2 != (↑(List.length (ct.2.2.1)):Int)) || nQ (Wh.Fl (Kr.1.1,(ct.2.2.2).1))] then
       bif y6 then
        some (false,())
       else
        let x_63:Wh.Rx:=((0,()),ct)
        bif lF Wh.BX x_63 then
         sumC (kG Wh.BX Wh.YQ x_63) (fun y_64=>
          let v_66:=y_64.1
          some (v_66,())) (fun z_65=>
          let GI:=z_65.2
          let x_92:Wh.Ry:=((0,()),GI)
          bif lF Wh.EM x_92 then
           sumC (kG Wh.EM Wh.YR x_92) (fun y_93=>
            let v_95:=y_93.1
            some (v_95,())) (fun _=>
            some (true,()))
          else none)
        else none
      else none
     else none
    else none
 else none
def Wh.q87':=en Wh.q87
theorem Wh.Kl:OV Wh.q87 Wh.q87':=eB _
def Wh.ye (xs:(Int)×(Int)×(Int)):Option (((Bool))×(Unit)):=
 let yY:=xs.1
 let N4:=xs.2.1
 let NR:=xs.2.2
 let x6:=bif decide (yY≥N4) then decide (yY≤NR) else false
 some (x6,())
def Wh.wh:=en Wh.ye
theorem Wh.zK:OV Wh.ye Wh.wh:=eB _
def Wh.Br (xs:(Int)×(Int)):Option (((Int))×(Unit)):=
 let yE:=xs.1
 let by_1:=xs.2
 let v_2:Int:=Int.fdiv yE (2 ^ Min.min (Int.toNat by_1) (Go.IntKind.bits Go.IntKind.u32))
 let nC:=IntKind.wrap .i64 (32-by_1)
 let zp:Int:=nj Go.BinOp.or Go.IntKind.u32 v_2 (IntKind.wrap .u32 (yE*2 ^ Min.min (Int.toNat nC) (Go.IntKind.bits Go.IntKind.u32)))
 bif iy [decide (0≤nC),decide (0≤by_1)] then
  some (zp,())
 else none
def Wh.BQ:=en Wh.Br
theorem Wh.q128_v:OV Wh.Br Wh.BQ:=eB _
abbrev Wh.Rp:Type:=((Int)×(Unit)×(List (Int)))×((List (Int)))
abbrev Wh.adI:Type:=((((Unit))×((List (Int)))))
def Wh.Kk (x:Wh.Rp):Option (Wh.Rp⊕Wh.adI):=
 let KH:=x.1.1
 let v_572:=x.1.2.2
 let Ob:=x.2
 bif decide (KH<8) then
  let M5:=List.getD v_572 (Int.toNat KH) 0
  bif iy [decide (0≤KH),decide (KH<(↑(nat_lit 8):Int))] then
   let pb_576:List Int:=[IntKind.wrap .u8 (Int.fdiv M5 (2 ^ Min.min (Int.toNat 24) (Go.IntKind.bits Go.IntKind.u32))),IntKind.wrap .u8 (Int.fdiv M5 (2 ^ Min.min (Int.toNat 16) (Go.IntKind.bits Go.IntKind.u32))),IntKind.wrap .u8 (Int.fdiv M5 (2 ^ Min.min (Int.toNat 8) (Go.IntKind.bits Go.IntKind.u32))),IntKind.wrap .u8 M5]
   let ls_577:=Ob++pb_576
   bif iy [decide (List.length Ob+(4:Nat)≤dh),true,true,true] then
    some (.inl (((IntKind.wrap .i64 (KH+1)),(),v_572),ls_577))
   else none
  else none
 else
  some (.inr ((),Ob))
def Wh.YJ:(((Unit))×((List (Int)))):=default
abbrev Wh.Ro:Type:=((Int)×(Unit)×(Unit)×(Nat×Nat))×((List (Int))×(List (Int))×(List (Int)))
abbrev Wh.adH:Type:=((((Unit)×(Nat×Nat))×((List (Int))×(List (Int)))))
def Wh.Kj (x:Wh.Ro):Option (Wh.Ro⊕Wh.adH):=
 let C5:=x.1.1
 let b_510:=x.1.2.2.2.1
 let b_511:=x.1.2.2.2.2
 let Oa:=x.2.1
 let Vz:=x.2.2.1
 let VA:=x.2.2.2
 bif decide (C5<8) then
  let ls_516:=List.set Oa (Int.toNat C5) (IntKind.wrap .u32 (List.getD Oa (Int.toNat C5) 0+List.getD Vz (Int.toNat C5) 0))
  bif iy [decide (0≤C5),decide (C5<(↑(8:Nat):Int)),decide (0≤C5),decide (C5<(↑(8:Nat):Int)),decide (0≤C5),decide (C5<(↑(8:Nat):Int))] then
   some (.inl (((IntKind.wrap .i64 (C5+1)),(),(),b_510,b_511),ls_516,Vz,VA))
  else none
 else
  some (.inr (((),b_510,b_511),Oa,VA))
def Wh.YI:(((Unit)×(Nat×Nat))×((List (Int))×(List (Int)))):=default
abbrev Wh.Rn:Type:=((Int)×(Unit)×(Unit)×(Unit)×(Nat×Nat))×((List (Int))×(List (Int))×(List (Int))×(List (Int)))
abbrev Wh.adG:Type:=((((Unit)×(Unit)×(Nat×Nat))×((List (Int))×(List (Int))×(List (Int)))))
def Wh.Hl (x:Wh.Rn):Option (Wh.Rn⊕Wh.adG):=
 let F7:=x.1.1
 let b_447:=(x.1.2.2.2.2).1
 let b_448:=(x.1.2.2.2.2).2
 let D5:=x.2.1
 let Vw:=x.2.2.1
 let Vx:=(x.2.2.2).1
 let Vy:=x.2.2.2.2
 bif decide (F7<64) then
  let ES:=List.getD D5 (Int.toNat 4) 0
  let ET:=List.getD D5 (Int.toNat 0) 0
  let v_456:=List.getD D5 (Int.toNat 7) 0
  let r_457:=Wh.BQ (ES,6)
  let r_458:=Wh.BQ (ES,11)
  let r_460:=Wh.BQ (ES,25)
  let v_463:=List.getD D5 (Int.toNat 5) 0
  let v_464:=List.getD D5 (Int.toNat 6) 0
  let v_468:=List.getD Wh.Cy (Int.toNat F7) 0
  let v_470:=List.getD Vw (Int.toNat F7) 0
  let WI:=IntKind.wrap .u32 (IntKind.wrap .u32 (IntKind.wrap .u32 (IntKind.wrap .u32 (v_456+nj Go.BinOp.xor Go.IntKind.u32 (nj Go.BinOp.xor Go.IntKind.u32 r_457.1 r_458.1) r_460.1)+nj Go.BinOp.xor Go.IntKind.u32 (nj Go.BinOp.and Go.IntKind.u32 ES v_463) (nj Go.BinOp.and Go.IntKind.u32 (nj Go.BinOp.xor Go.IntKind.u32 (Go.IntKind.max Go.IntKind.u32) ES) v_464))+v_468)+v_470)
  bif iy [decide (0≤F7),decide (F7<(↑(64:Nat):Int)),decide (0≤F7),decide (F7<(↑(64:Nat):Int)),true,true,true,true,nQ (Wh.Br (ES,25)),nQ (Wh.Br (ES,11)),nQ (Wh.Br (ES,6)),true,true] then
   let r_473:=Wh.BQ (ET,2)
   let r_474:=Wh.BQ (ET,13)
   let r_476:=Wh.BQ (ET,22)
   let RS:=List.getD D5 (Int.toNat 1) 0
   let RT:=List.getD D5 (Int.toNat 2) 0
   bif iy [true,true,true,true,true,true,true,true,nQ (Wh.Br (ET,22)),nQ (Wh.Br (ET,13)),nQ (Wh.Br (ET,2))] then
    let ls_484:List Int:=[IntKind.wrap .u32 (WI+(IntKind.wrap .u32 (nj Go.BinOp.xor Go.IntKind.u32 (nj Go.BinOp.xor Go.IntKind.u32 r_473.1 r_474.1) r_476.1+nj Go.BinOp.xor Go.IntKind.u32 (nj Go.BinOp.xor Go.IntKind.u32 (nj Go.BinOp.and Go.IntKind.u32 ET RS) (nj Go.BinOp.and Go.IntKind.u32 ET RT)) (nj Go.BinOp.and Go.IntKind.u32 RS RT)))),ET,RS,RT,IntKind.wrap .u32 (List.getD D5 (Int.toNat 3) 0+WI),ES,v_463,v_464]
    some (.inl (((IntKind.wrap .i64 (F7+1)),(),(),(),b_447,b_448),ls_484,Vw,Vx,Vy))
   else none
  else none
 else
  some (.inr (((),(),b_447,b_448),Vx,D5,Vy))
def Wh.YH:(((Unit)×(Unit)×(Nat×Nat))×((List (Int))×(List (Int))×(List (Int)))):=default
abbrev Wh.Rm:Type:=((Int)×(Unit)×(Nat×Nat)×(Unit))×((List (Int))×(List (Int))×(List (Int)))
abbrev Wh.adF:Type:=((((Unit)×(Unit)×(Nat×Nat))×((List (Int))×(List (Int))×(List (Int)))))
def Wh.FW (x:Wh.Rm):Option (Wh.Rm⊕Wh.adF):=
 let zA:=x.1.1
 let Gn:=(x.1.2.2).1.1
 let Gp:=(x.1.2.2).1.2
 let GG:=x.2.1
 let GH:=x.2.2.1
 let N_:=x.2.2.2
 bif decide (zA<64) then
  bif decide (zA<16) then
   let ls_346:=List.set GG (Int.toNat zA) (nj Go.BinOp.or Go.IntKind.u32 (nj Go.BinOp.or Go.IntKind.u32 (nj Go.BinOp.or Go.IntKind.u32 (IntKind.wrap .u32 (IntKind.wrap .u32 (List.getD GH (Gn+Int.toNat (IntKind.wrap .i64 (4*zA))) 0)*2 ^ Min.min (Int.toNat 24) (Go.IntKind.bits Go.IntKind.u32))) (IntKind.wrap .u32 (IntKind.wrap .u32 (List.getD GH (Gn+Int.toNat (IntKind.wrap .i64 (IntKind.wrap .i64 (4*zA)+1))) 0)*2 ^ Min.min (Int.toNat 16) (Go.IntKind.bits Go.IntKind.u32)))) (IntKind.wrap .u32 (IntKind.wrap .u32 (List.getD GH (Gn+Int.toNat (IntKind.wrap .i64 (IntKind.wrap .i64 (4*zA)+2))) 0)*2 ^ Min.min (Int.toNat 8) (Go.IntKind.bits Go.IntKind.u32)))) (IntKind.wrap .u32 (List.getD GH (Gn+Int.toNat (IntKind.wrap .i64 (IntKind.wrap .i64 (4*zA)+3))) 0)))
   let F4:=IntKind.wrap .i64 (4*zA)
   bif iy [decide (0≤zA),decide (zA<(↑(64:Nat):Int)),decide (0≤IntKind.wrap .i64 (F4+3)),decide (IntKind.wrap .i64 (F4+3)<(↑Gp:Int)),true,decide (0≤IntKind.wrap .i64 (F4+2)),decide (IntKind.wrap .i64 (F4+2)<(↑Gp:Int)),true,decide (0≤IntKind.wrap .i64 (F4+1)),decide (IntKind.wrap .i64 (F4+1)<(↑Gp:Int)),true,decide (0≤F4),decide (F4<(↑Gp:Int))] then
    some (.inl (((IntKind.wrap .i64 (zA+1)),(),(Gn,Gp),()),ls_346,GH,N_))
   else none
  else
   let RQ:=IntKind.wrap .i64 (zA-15)
   let RR:=IntKind.wrap .i64 (zA-2)
   let KN:=List.getD GG (Int.toNat RQ) 0
   let KV:=List.getD GG (Int.toNat RR) 0
   bif iy [decide (0≤RR),decide (RR<(↑(64:Nat):Int)),decide (0≤RQ),decide (RQ<(↑(64:Nat):Int))] then
    let r_376:=Wh.BQ (KN,7)
    let r_377:=Wh.BQ (KN,18)
    let r_378:=Wh.BQ (KV,17)
    let r_379:=Wh.BQ (KV,19)
    let ls_380:=List.set GG (Int.toNat zA) (IntKind.wrap .u32 (IntKind.wrap .u32 (IntKind.wrap .u32 (List.getD GG (Int.toNat (IntKind.wrap .i64 (zA-16))) 0+List.getD GG (Int.toNat (IntKind.wrap .i64 (zA-7))) 0)+nj Go.BinOp.xor Go.IntKind.u32 (nj Go.BinOp.xor Go.IntKind.u32 r_376.1 r_377.1) (Int.fdiv KN (2 ^ Min.min (Int.toNat 3) (Go.IntKind.bits Go.IntKind.u32))))+nj Go.BinOp.xor Go.IntKind.u32 (nj Go.BinOp.xor Go.IntKind.u32 r_378.1 r_379.1) (Int.fdiv KV (2 ^ Min.min (Int.toNat 10) (Go.IntKind.bits Go.IntKind.u32)))))
    let v_381:=IntKind.wrap .i64 (zA-16)
    let v_383:=IntKind.wrap .i64 (zA-7)
    bif iy [decide (0≤zA),decide (zA<(↑(64:Nat):Int)),true,nQ (Wh.Br (KV,19)),nQ (Wh.Br (KV,17)),true,nQ (Wh.Br (KN,18)),nQ (Wh.Br (KN,7)),decide (0≤v_383),decide (v_383<(↑(64:Nat):Int)),decide (0≤v_381),decide (v_381<(↑(64:Nat):Int))] then
     some (.inl (((IntKind.wrap .i64 (zA+1)),(),(Gn,Gp),()),ls_380,GH,N_))
    else none
   else none
 else
  some (.inr (((),(),Gn,Gp),GG,N_,GH))
def Wh.YG:(((Unit)×(Unit)×(Nat×Nat))×((List (Int))×(List (Int))×(List (Int)))):=default
abbrev Wh.Rl:Type:=((Nat×Nat)×(Unit))×((List (Int))×(List (Int)))
abbrev Wh.adE:Type:=((((Unit))×((List (Int)))))
def Wh.FV (x:Wh.Rl):Option (Wh.Rl⊕Wh.adE):=
 let b_529:=x.1.1.1
 let b_530:=x.1.1.2
 let ls_531:=x.2.1
 let VB:=x.2.2
 bif decide ((↑b_530:Int)>0) then
  let pb_534:List Int:=[(0:Int),0,0,0,0,0,0,0,0,0,0,0,0,0,0,0,0,0,0,0,0,0,0,0,0,0,0,0,0,0,0,0,0,0,0,0,0,0,0,0,0,0,0,0,0,0,0,0,0,0,0,0,0,0,0,0,0,0,0,0,0,0,0,0]
  let x_535:Wh.Rm:=((0,(),(b_529,b_530),()),pb_534,ls_531,VB)
  bif lF Wh.FW x_535 then
   let KX:=kG Wh.FW Wh.YG x_535
   let b_537:=(KX.1.2.2).1
   let b_538:=KX.1.2.2.2
   let ls_539:=KX.2.1
   let VC:=KX.2.2.1
   let ls_541:=KX.2.2.2
   let x_542:Wh.Rn:=((0,(),(),(),b_537,b_538),VC,ls_539,VC,ls_541)
   bif lF Wh.Hl x_542 then
    let KY:=kG Wh.Hl Wh.YH x_542
    let b_544:=(KY.1.2.2).1
    let b_545:=KY.1.2.2.2
    let ls_546:=KY.2.1
    let ls_547:=KY.2.2.1
    let ls_548:=KY.2.2.2
    let x_549:Wh.Ro:=((0,(),(),b_544,b_545),ls_546,ls_547,ls_548)
    bif lF Wh.Kj x_549 then
     let M9:=kG Wh.Kj Wh.YI x_549
     let b_551:=M9.1.2.1
     let Nv:=M9.1.2.2
     let ls_553:=M9.2.1
     let VD:=M9.2.2
     let v_555:Nat:=Int.toNat ((↑Nv:Int)-64)
     let v_556:Nat:=b_551+Int.toNat 64
     bif iy [true,decide (64≤(↑Nv:Int)),decide ((↑b_551:Int)+(↑Nv:Int)≤(↑(List.length VD):Int))] then
      some (.inl (((v_556,v_555),()),VD,ls_553))
     else none
    else none
   else none
  else none
 else
  some (.inr ((),VB))
def Wh.YF:(((Unit))×((List (Int)))):=default
abbrev Wh.Rk:Type:=((Int)×(Int)×(Unit)×(Unit))×((List (Int))×(List (Int)))
abbrev Wh.adD:Type:=((((Unit)×(Unit))×((List (Int))×(List (Int)))))
def Wh.Hj (x:Wh.Rk):Option (Wh.Rk⊕Wh.adD):=
 let La:=x.1.1
 let WA:=x.1.2.1
 let zj:=x.2.1
 let yl:=x.2.2
 bif decide (La≥0) then
  let LX:List Int:=[IntKind.wrap .u8 (Int.fdiv WA (2 ^ Min.min (Int.toNat La) (Go.IntKind.bits Go.IntKind.u64)))]
  let CF:=zj++LX
  bif iy [decide (List.length zj+(1:Nat)≤dh),decide (0≤La)] then
   some (.inl (((IntKind.wrap .i64 (La-8)),WA,(),()),CF,yl))
  else none
 else
  some (.inr (((),()),zj,yl))
def Wh.YE:(((Unit)×(Unit))×((List (Int))×(List (Int)))):=default
abbrev Wh.Rj:Type:=((Unit)×(Unit)×(List UInt8))×((List (Int))×(List (Int)))
abbrev Wh.adC:Type:=((((Unit)×(Unit)×(List UInt8))×((List (Int))×(List (Int)))))
def Wh.FU (x:Wh.Rj):Option (Wh.Rj⊕Wh.adC):=
 let ER:=x.1.2.2
 let LO:=x.2.1
 let E9:=x.2.2
 let xN:Bool:=(Int.tmod (↑(List.length LO):Int) 64) != 56
 bif xN then
  let LF:=LO ++ [(0:Int)]
  bif iy [decide (List.length LO+(1:Nat)≤dh)] then
   some (.inl (((),(),ER),LF,E9))
  else none
 else
  some (.inr (((),(),ER),LO,E9))
def Wh.YD:(((Unit)×(Unit)×(List UInt8))×((List (Int))×(List (Int)))):=default
def Wh.q71 (xs:(List UInt8)):Option (((List UInt8))×(Unit)):=
 let zd:=xs
 let zV:List Int:=bytesOf zd ++ [(128:Int)]
 bif iy [decide (List.length (bytesOf zd)+(1:Nat)≤dh),decide (List.length zd≤dh)] then
  let x_14:Wh.Rj:=(((),(),zd),zV,[(1779033703:Int),3144134277,1013904242,2773480762,1359893119,2600822924,528734635,1541459225])
  bif lF Wh.FU x_14 then
   let y_15:=kG Wh.FU Wh.YD x_14
   let af1:=y_15.1.2.2
   let zi:=y_15.2.1
   let yj:=y_15.2.2
   let F_:Wh.Rk:=((56,(IntKind.wrap .u64 ((IntKind.wrap .u64 (↑(List.length af1):Int))*8)),(),()),zi,yj)
   bif lF Wh.Hj F_ then
    let Jh:=kG Wh.Hj Wh.YE F_
    let CG:=Jh.2.1
    let BK:=Jh.2.2
    let x_557:Wh.Rl:=((((0:Nat),List.length CG),()),CG,BK)
    bif lF Wh.FV x_557 then
     let y_558:=kG Wh.FV Wh.YF x_557
     let ls_559:=y_558.2
     let x_582:Wh.Rp:=((0,(),ls_559),[])
     bif lF Wh.Kk x_582 then
      let y_583:=kG Wh.Kk Wh.YJ x_582
      let ls_584:=y_583.2
      some (qp ls_584,())
     else none
    else none
   else none
  else none
 else none
def Wh.q71':=en Wh.q71
theorem Wh.q71_v:OV Wh.q71 Wh.q71':=eB _
abbrev Wh.Qg:Type:=((Int)×(List UInt8)×(Unit))×((List (Int)))
abbrev Wh.ac1:Type:=((((Unit))×((List (Int)))))
def Wh.Me (x:Wh.Qg):Option (Wh.Qg⊕Wh.ac1):=
 let GB:=x.1.1
 let CZ:=x.1.2.1
 let yR:=x.2
 let xb:=decide (GB<(↑(List.length CZ):Int))
 bif xb then
  let GN:List Int:=[(↑(UInt8.toNat (List.getD [(48:UInt8),(49:UInt8),(50:UInt8),(51:UInt8),(52:UInt8),(53:UInt8),(54:UInt8),(55:UInt8),(56:UInt8),(57:UInt8),(97:UInt8),(98:UInt8),(99:UInt8),(100:UInt8),(101:UInt8),(102:UInt8)] (Int.toNat (IntKind.wrap .u8 (Int.tdiv (↑(UInt8.toNat (List.getD CZ (Int.toNat GB) (0:UInt8))):Int) 16))) (0:UInt8))):Int),(↑(UInt8.toNat (List.getD [(48:UInt8),(49:UInt8),(50:UInt8),(51:UInt8),(52:UInt8),(53:UInt8),(54:UInt8),(55:UInt8),(56:UInt8),(57:UInt8),(97:UInt8),(98:UInt8),(99:UInt8),(100:UInt8),(101:UInt8),(102:UInt8)] (Int.toNat (Int.tmod (↑(UInt8.toNat (List.getD CZ (Int.toNat GB) (0:UInt8))):Int) 16)) (0:UInt8))):Int)]
  let yj:=yR++GN
  let th:Int:=(↑(UInt8.toNat (List.getD CZ (Int.toNat GB) (0:UInt8))):Int)
  bif iy [decide (List.length yR+(2:Nat)≤dh),decide (0≤Int.tmod th 16),decide (Int.tmod th 16<(↑(16:Nat):Int)),true,decide (0≤GB),xb,decide (0≤IntKind.wrap .u8 (Int.tdiv th 16)),decide (IntKind.wrap .u8 (Int.tdiv th 16)<(↑(16:Nat):Int)),true,decide (0≤GB),xb] then
   some (.inl (((IntKind.wrap .i64 (GB+1)),CZ,()),yj))
  else none
 else
  some (.inr ((),yR))
def Wh.XQ:(((Unit))×((List (Int)))):=default
def Wh.J_ (xs:(List UInt8)):Option (((List UInt8))×(Unit)):=
 let ct:=xs
 let x_25:Wh.Qg:=((0,ct,()),[])
 bif lF Wh.Me x_25 then
  let Aa:=kG Wh.Me Wh.XQ x_25
  let yM:=Aa.2
  some (qp yM,())
 else none
def Wh.Qf:=en Wh.J_
theorem Wh.XR:OV Wh.J_ Wh.Qf:=eB _
def Wh.q92 (xs:(List UInt8)):Option (((List UInt8))×(Unit)):=
 let zd:=xs
 let r_1:=Wh.q71' zd
 let r_3:=Wh.Qf r_1.1
 bif iy [nQ (Wh.J_ r_1.1),nQ (Wh.q71 zd)] then
  some (r_3.1,())
 else none
def Wh.F1:=en Wh.q92
theorem Wh.q92_v:OV Wh.q92 Wh.F1:=eB _
def Wh.q97 (xs:(Int)×(List UInt8)):Option (((List UInt8))×(Unit)):=
 let yY:=xs.1
 let zM:=xs.2
 let r_2:=Wh.tJ yY
 let gd:=Wh.tJ (↑(List.length zM):Int)
 let AX:=r_2.1 ++ [(32:UInt8)]++gd.1 ++ [(32:UInt8)]
 bif iy [decide (List.length (r_2.1 ++ [(32:UInt8)]++gd.1)+(1:Nat)≤dh),decide (List.length (r_2.1 ++ [(32:UInt8)])+List.length gd.1≤dh),nQ (Wh.strconv_Itoa (↑(List.length zM):Int)),decide (List.length r_2.1+(1:Nat)≤dh),nQ (Wh.strconv_Itoa yY)] then
  let yP:List UInt8:=AX++zM
  let zc:=Wh.F1 yP
  let xO:List UInt8:=AX++List.take (Int.toNat ((16:Int)-0)) (List.drop (Int.toNat 0) zc.1) ++ [(32:UInt8)]++zM ++ [(10:UInt8)]
  bif iy [decide (List.length (AX++List.take (Int.toNat ((16:Int)-0)) (List.drop (Int.toNat 0) ((Wh.F1 yP).1)) ++ [(32:UInt8)]++zM)+(1:Nat)≤dh),decide (List.length (AX++List.take (Int.toNat ((16:Int)-0)) (List.drop (Int.toNat 0) ((Wh.F1 yP).1)) ++ [(32:UInt8)])+List.length zM≤dh),decide (List.length (AX++List.take (Int.toNat ((16:Int)-0)) (List.drop (Int.toNat 0) ((Wh.F1 yP).1)))+(1:Nat)≤dh),decide (List.length AX+List.length (List.take (Int.toNat ((16:Int)-0)) (List.drop (Int.toNat 0) ((Wh.F1 yP).1)))≤dh),true,true,decide (16≤(↑(List.length ((Wh.F1 yP).1)):Int)),nQ (Wh.q92 yP),decide (List.length AX+List.length zM≤dh)] then
   some (xO,())
  else none
 else none
def Wh.q97':=en Wh.q97
theorem Wh.RE:OV Wh.q97 Wh.q97':=eB _
def Wh.q10 (xs:(List UInt8)×(List UInt8)):Option (((Bool))×(Unit)):=
 let ct:=xs.1
 let Fg:=xs.2
 let v_2:=decide ((↑(List.length ct):Int)≥(↑(List.length Fg):Int))
 let yq:=bif v_2 then List.take (Int.toNat ((↑(List.length Fg):Int)-0)) (List.drop (Int.toNat 0) ct)==Fg else false
 bif iy [!v_2 || decide ((0:Int)≤0),!v_2 || decide (0≤(↑(List.length Fg):Int)),!v_2 || decide ((↑(List.length Fg):Int)≤(↑(List.length ct):Int))] then
  some (yq,())
 else none
def Wh.q10':=en Wh.q10
theorem Wh.q10_v:OV Wh.q10 Wh.q10':=eB _
def Wh.q21 (xs:(List UInt8)×(List UInt8)):Option (((Bool))×(Unit)):=
 let ct:=xs.1
 let Fg:=xs.2
 let r_2:=Wh.q10' (ct,Fg)
 bif iy [nQ (Wh.q10 (ct,Fg))] then
  some (r_2.1,())
 else none
def Wh.q21':=en Wh.q21
theorem Wh.QI:OV Wh.q21 Wh.q21':=eB _
abbrev Wh.RB:Type:=((Int)×(Unit)×(List UInt8))×((List (List UInt8)))
abbrev Wh.adS:Type:=((((Unit)×(Int))×((List (List UInt8)))))
def Wh.DI (x:Wh.RB):Option (Wh.RB⊕Wh.adS):=
 let Cv:=x.1.1
 let Cb:=x.1.2.2
 let Bk:=x.2
 let F8:List UInt8:=List.take (Int.toNat ((↑(List.length Cb):Int)-Cv)) (List.drop (Int.toNat Cv) Cb)
 let ML:=Wh.tK (F8,[(32:UInt8)])
 bif iy [nQ (Wh.strings_Cut (F8,[(32:UInt8)])),decide (0≤Cv),decide (Cv≤(↑(List.length Cb):Int)),decide ((↑(List.length Cb):Int)≤(↑(List.length Cb):Int))] then
  let Cq:=Wh.tK (ML.1.2.1,[(32:UInt8)])
  bif iy [nQ (Wh.strings_Cut (ML.1.2.1,[(32:UInt8)]))] then
   let Hv:=Wh.rW Cq.1.1
   bif iy [nQ (Wh.rV Cq.1.1)] then
    let M6:Int:=(↑(List.length Bk):Int)
    let v_74:Int:=(↑(List.length Cq.1.1):Int)
    let r_79:=Wh.tJ M6
    let UY:=IntKind.wrap .i64 (IntKind.wrap .i64 (IntKind.wrap .i64 ((↑(List.length r_79.1):Int)+1)+v_74)+18)
    bif iy [nQ (Wh.strconv_Itoa M6)] then
     let v_81:= !Hv.1.2
     let I7:=Wh.wh (Hv.1.1,1,500)
     let v_85:=bif bif v_81 then true else !I7.1 then true else decide (IntKind.wrap .i64 ((↑(List.length Cb):Int)-Cv)<IntKind.wrap .i64 (IntKind.wrap .i64 (UY+Hv.1.1)+1))
     bif iy [!!v_81 || nQ (Wh.ye (Hv.1.1,1,500))] then
      bif v_85 then
       some (.inr (((),Cv),Bk))
      else
       let DQ:=IntKind.wrap .i64 (Cv+UY)
       let RG:List UInt8:=List.take (Int.toNat (IntKind.wrap .i64 (DQ+Hv.1.1)-DQ)) (List.drop (Int.toNat DQ) Cb)
       bif iy [decide (0≤DQ),decide (DQ≤IntKind.wrap .i64 (DQ+Hv.1.1)),decide (IntKind.wrap .i64 (DQ+Hv.1.1)≤(↑(List.length Cb):Int))] then
        let r_91:=Wh.q97' (M6,RG)
        bif iy [nQ (Wh.q97 (M6,RG))] then
         let r_93:=Wh.q21' (F8,r_91.1)
         bif iy [nQ (Wh.q21 (F8,r_91.1)),decide (0≤Cv),decide (Cv≤(↑(List.length Cb):Int)),decide ((↑(List.length Cb):Int)≤(↑(List.length Cb):Int))] then
          bif !r_93.1 then
           some (.inr (((),Cv),Bk))
          else
           let pb_94:List (List UInt8):=[RG]
           let ls_95:List (List UInt8):=Bk++pb_94
           bif iy [decide (List.length Bk+(1:Nat)≤dh)] then
            let KI:Int:=(↑(List.length r_91.1):Int)
            some (.inl (((IntKind.wrap .i64 (Cv+KI)),(),Cb),ls_95))
           else none
         else none
        else none
       else none
     else none
    else none
   else none
  else none
 else none
def Wh.YU:(((Unit)×(Int))×((List (List UInt8)))):=default
def Wh.q93 (xs:(List UInt8)):Option (((List (List UInt8))×(Int))×(Unit)):=
 let zh:=xs
 let x_99:Wh.RB:=((0,(),zh),[])
 bif lF Wh.DI x_99 then
  let y_100:=kG Wh.DI Wh.YU x_99
  let v_101:=y_100.1.2
  let N5:=y_100.2
  some ((N5,v_101),())
 else none
def Wh.q93':=en Wh.q93
theorem Wh.q93_v:OV Wh.q93 Wh.q93':=eB _
def Wh.Cl (xs:(Int)):Option (((Bool))×(Unit)):=
 let yY:=xs
 let r_1:=Wh.wh (yY,0,1)
 bif iy [nQ (Wh.ye (yY,0,1))] then
  some (r_1.1,())
 else none
def Wh.Ka:=en Wh.Cl
theorem Wh.Mf:OV Wh.Cl Wh.Ka:=eB _
abbrev Wh.Pm:Type:=((Int)×(List UInt8)×(Int))×(Unit)
abbrev Wh.acM:Type:=((((Bool))×(Unit))⊕(((List UInt8))×(Unit)))
def Wh.Eh (x:Wh.Pm):Option (Wh.Pm⊕Wh.acM):=
 let Az:=x.1.1
 let KD:=x.1.2.1
 let xN:=x.1.2.2
 bif decide (Az<xN) then
  let r_:Int:=(↑(UInt8.toNat (List.getD KD (Int.toNat Az) (0:UInt8))):Int)
  let yw:=bif decide (r_<97) then true else decide (r_>122)
  bif iy [!!decide (r_<97) || decide (0≤Az),!!decide (r_<97) || decide (Az<(↑(List.length KD):Int)),decide (0≤Az),decide (Az<(↑(List.length KD):Int))] then
   bif yw then
    some (.inr (.inl (false,())))
   else
    some (.inl (((IntKind.wrap .i64 (Az+1)),KD,xN),()))
  else none
 else
  some (.inr (.inr (KD,())))
def Wh.Xn:(((Bool))×(Unit))⊕(((List UInt8))×(Unit)):=.inl default
def Wh.Fm (xs:(List UInt8)):Option (((Bool))×(Unit)):=
 let zd:=xs
 let x_19:Wh.Pm:=((0,zd,(↑(List.length zd):Int)),())
 bif lF Wh.Eh x_19 then
  sumC (kG Wh.Eh Wh.Xn x_19) (fun KT=>
   let yI:=KT.1
   some (yI,())) (fun z_21=>
   let Zj:=z_21.1
   let Hr:=Wh.wh ((↑(List.length Zj):Int),1,6)
   bif iy [nQ (Wh.ye ((↑(List.length Zj):Int),1,6))] then
    some (Hr.1,())
   else none)
 else none
def Wh.J7:=en Wh.Fm
theorem Wh.L6:OV Wh.Fm Wh.J7:=eB _
def Wh.q44 (xs:(Int)×(List UInt8)×(List UInt8)):Option (((List UInt8))×(Unit)):=
 let Gx:=xs.1
 let zl:=xs.2.1
 let By:=xs.2.2
 let r_3:=Wh.Ka Gx
 let gd:=Wh.J7 zl
 let yz:=bif bif !r_3.1 then true else !gd.1 then true else decide ((↑(List.length By):Int)>300)
 bif iy [!!!r_3.1 || nQ (Wh.Fm zl),nQ (Wh.Cl Gx)] then
  bif yz then
   some ([],())
  else
   let r5:=Wh.tJ Gx
   let z8:=r5.1 ++ [(32:UInt8)]++zl ++ [(58:UInt8)]++By
   bif iy [decide (List.length (r5.1 ++ [(32:UInt8)]++zl ++ [(58:UInt8)])+List.length By≤dh),decide (List.length (r5.1 ++ [(32:UInt8)]++zl)+(1:Nat)≤dh),decide (List.length (r5.1 ++ [(32:UInt8)])+List.length zl≤dh),decide (List.length r5.1+(1:Nat)≤dh),nQ (Wh.strconv_Itoa Gx)] then
    some (z8,())
   else none
 else none
def Wh.q44':=en Wh.q44
theorem Wh.QY:OV Wh.q44 Wh.q44':=eB _
def Wh.EJ (xs:(fN.D)):Option ((((Int)×((List (an.D))×(Unit))))×(Unit)):=
 let gz:fN.D:=xs
 let zV:List (an.D):=[]++gz.2.1
 bif iy [decide ((0:Nat)+List.length gz.2.1≤dh)] then
  some ((gz.1,zV,()),())
 else none
def Wh.IZ:=en Wh.EJ
theorem Wh.FR:OV Wh.EJ Wh.IZ:=eB _
def Wh.q31 (xs:(an.D)×(Int)×(List UInt8)):Option (((Bool))×(Unit)):=
 let i_0:=xs.1
 let v_1:=xs.2.1
 let v_2:=xs.2.2
 let x6:=bif(i_0.1==v_1) then i_0.2.1==v_2 else false
 some (x6,())
def Wh.q31':=en Wh.q31
theorem Wh.QM:OV Wh.q31 Wh.q31':=eB _
abbrev Wh.Ru:Type:=((Int)×(List (an.D))×((Int)×((List UInt8)×(Unit)))×(Int))×(Unit)
abbrev Wh.q7_l0Y:Type:=((((Int))×(Unit))⊕((Unit)×(Unit)))
def Wh.EK (x:Wh.Ru):Option (Wh.Ru⊕Wh.q7_l0Y):=
 let xN:=x.1.1
 let s_13:=x.1.2.1
 let f_14:=(x.1.2.2).1.1
 let f_15:=(x.1.2.2).1.2.1
 let xb:=x.1.2.2.2
 bif decide (xN<xb) then
  let x5:an.D:=List.getD s_13 (Int.toNat xN) (0,[],0,[],())
  let Kq:=Wh.q31' (x5,f_14,f_15)
  bif iy [nQ (Wh.q31 (x5,f_14,f_15)),decide (0≤xN),decide (xN<(↑(List.length s_13):Int))] then
   bif Kq.1 then
    some (.inr (.inl (xN,())))
   else
    some (.inl (((IntKind.wrap .i64 (xN+1)),s_13,(f_14,f_15,()),xb),()))
  else none
 else
  some (.inr (.inr ((),())))
def Wh.YN:(((Int))×(Unit))⊕((Unit)×(Unit)):=.inl default
def Wh.q7 (xs:(List (an.D))×((Int)×((List UInt8)×(Unit)))):Option (((Int))×(Unit)):=
 let ct:=xs.1
 let f_1:=xs.2
 let v_2:Int:=(↑(List.length ct):Int)
 let x_21:Wh.Ru:=((0,ct,(f_1.1,f_1.2.1,()),v_2),())
 bif lF Wh.EK x_21 then
  sumC (kG Wh.EK Wh.YN x_21) (fun C8=>
   let vN:=C8.1
   some (vN,())) (fun _=>
   some (-1,()))
 else none
def Wh.q7':=en Wh.q7
theorem Wh.q7_v:OV Wh.q7 Wh.q7':=eB _
def Wh.CQ (xs:(fN.D)×(Int)×(List UInt8)):Option (((Int))×(Unit)):=
 let gz:=xs.1
 let xU:=xs.2.1
 let yG:=xs.2.2
 let r_3:=Wh.q7' (gz.2.1,xU,yG,())
 bif iy [nQ (Wh.q7 (gz.2.1,xU,yG,()))] then
  some (r_3.1,())
 else none
def Wh.Kh:=en Wh.CQ
theorem Wh.BV:OV Wh.CQ Wh.Kh:=eB _
def Wh.q17 (xs:(List (an.D))×(Int)×(Int)):Option (((List (an.D)))×(Unit)):=
 let ct:=xs.1
 let i_1:=xs.2.1
 let yK:=xs.2.2
 let nC:Int:=(↑(List.length ct):Int)
 bif iy [decide (0≤i_1),decide (i_1≤yK),decide (yK≤nC),decide (nC≤nC)] then
  let yq:=i_1==yK
  bif yq then
   some (ct,())
  else
   let GP:List (an.D):=List.take (Int.toNat 0+Int.toNat (i_1-0)) ct++(List.take (Int.toNat (nC-yK)) (List.drop (Int.toNat yK) ct)++List.drop (Int.toNat 0+Int.toNat (i_1-0)+List.length (List.take (Int.toNat (nC-yK)) (List.drop (Int.toNat yK) ct))) ct)
   let zp:Nat:=Int.toNat (i_1-0)
   let A_:Nat:=zp+List.length (List.take (Int.toNat (nC-yK)) (List.drop (Int.toNat yK) ct))
   bif iy [decide (Int.toNat 0+zp+List.length (List.take (Int.toNat (nC-yK)) (List.drop (Int.toNat yK) ct))≤List.length ct),decide (0≤yK),decide (yK≤nC),decide (nC≤nC),true,decide (0≤i_1),decide (i_1≤nC)] then
    let JV:List (an.D):=List.take (Int.toNat 0+Int.toNat (↑A_:Int)) GP++(@List.replicate (Int×List UInt8×Int×List UInt8×Unit) (Int.toNat (nC-(↑A_:Int))) (0,[],0,[],())++List.drop (Int.toNat 0+Int.toNat (↑A_:Int)+List.length (@List.replicate (Int×List UInt8×Int×List UInt8×Unit) (Int.toNat (nC-(↑A_:Int))) (0,[],0,[],()))) GP)
    bif iy [decide (0≤(↑A_:Int)),decide ((↑A_:Int)≤nC),decide ((↑(Int.toNat 0):Int)+nC≤(↑(List.length GP):Int))] then
     some (List.take A_ JV,())
    else none
   else none
 else none
def Wh.q17':=en Wh.q17
theorem Wh.q17_v:OV Wh.q17 Wh.q17':=eB _
def Wh.q65 (xs:(fN.D)×(Int)×(List UInt8)):Option ((((Int)×((List (an.D))×(Unit)))×(Int))×(Unit)):=
 let gz:=xs.1
 let xU:=xs.2.1
 let yG:=xs.2.2
 let r_3:=Wh.IZ gz
 bif iy [nQ (Wh.EJ gz)] then
  let gd:=Wh.Kh (gz,xU,yG)
  bif iy [nQ (Wh.CQ (gz,xU,yG))] then
   bif decide (gd.1<0) then
    some ((r_3.1,3),())
   else
    let xe:=Wh.q17' (r_3.1.2.1,gd.1,IntKind.wrap .i64 (gd.1+1))
    let pb_7:List (an.D):=[]++xe.1
    bif iy [decide ((0:Nat)+List.length xe.1≤dh),nQ (Wh.q17 (r_3.1.2.1,gd.1,(IntKind.wrap .i64 (gd.1+1))))] then
     some (((r_3.1.1,pb_7,r_3.1.2.2),0),())
    else none
  else none
 else none
def Wh.q65':=en Wh.q65
theorem Wh.q65_v:OV Wh.q65 Wh.q65':=eB _
def Wh.q27 (xs:(Int)×(List UInt8)×(List UInt8)):Option (((Bool))×(Unit)):=
 let Gx:=xs.1
 let zl:=xs.2.1
 let By:=xs.2.2
 let r_3:=Wh.Ka Gx
 let gd:=Wh.J7 zl
 let x9:=Wh.wh ((↑(List.length By):Int),1,300)
 let yU:=bif bif r_3.1 then gd.1 else false then x9.1 else false
 bif iy [(!bif r_3.1 then gd.1 else false) || nQ (Wh.ye ((↑(List.length By):Int),1,300)),!r_3.1 || nQ (Wh.Fm zl),nQ (Wh.Cl Gx)] then
  some (yU,())
 else none
def Wh.q27':=en Wh.q27
theorem Wh.Mr:OV Wh.q27 Wh.q27':=eB _
abbrev Wh.Q0:Type:=((Int)×(Int)×(Int)×(List (an.D))×(Int))×(Unit)
abbrev Wh.ado:Type:=((((Int))×(Unit)))
def Wh.EC (x:Wh.Q0):Option (Wh.Q0⊕Wh.ado):=
 let xb:=x.1.1
 let GL:=x.1.2.1
 let Gw:=(x.1.2.2).1
 let th:=x.1.2.2.2.1
 let ov:=x.1.2.2.2.2
 bif decide (xb<ov) then
  let Cf:an.D:=List.getD th (Int.toNat xb) (0,[],0,[],())
  bif iy [decide (0≤xb),decide (xb<(↑(List.length th):Int))] then
   bif(Cf.1==Gw) then
    let vN:Int:=(↑(List.length ((Cf.2.2.2).1)):Int)
    some (.inl (((IntKind.wrap .i64 (xb+1)),(IntKind.wrap .i64 (GL+vN)),Gw,th,ov),()))
   else
    some (.inl (((IntKind.wrap .i64 (xb+1)),GL,Gw,th,ov),()))
  else none
 else
  some (.inr (GL,()))
def Wh.Ym:(((Int))×(Unit)):=default
def Wh.q46 (xs:(fN.D)×(Int)):Option (((Int))×(Unit)):=
 let gz:=xs.1
 let xU:=xs.2
 let v_2:Int:=(↑(List.length gz.2.1):Int)
 let KL:Wh.Q0:=((0,0,xU,gz.2.1,v_2),())
 bif lF Wh.EC KL then
  let Jg:=kG Wh.EC Wh.Ym KL
  let n_31:=Jg.1
  some (n_31,())
 else none
def Wh.q46':=en Wh.q46
theorem Wh.q46_v:OV Wh.q46 Wh.q46':=eB _
def Wh.q62 (xs:(Int)):Option (((Bool))×(Unit)):=
 let yE:=xs
 let v_1:=yE != yE
 some (v_1,())
def Wh.My:=en Wh.q62
theorem Wh.q62_v:OV Wh.q62 Wh.My:=eB _
def Wh.q30 (xs:(Int)×(Int)):Option (((Int))×(Unit)):=
 let yE:=xs.1
 let DS:=xs.2
 let r_2:=Wh.My yE
 bif iy [nQ (Wh.q62 yE)] then
  let r_3:=Wh.My DS
  bif iy [nQ (Wh.q62 DS)] then
   bif r_2.1 then
    bif r_3.1 then
     some (0,())
    else
     some (-1,())
   else
    bif r_3.1 then
     some (1,())
    else
     bif decide (yE<DS) then
      some (-1,())
     else
      bif decide (yE>DS) then
       some (1,())
      else
       some (0,())
  else none
 else none
def Wh.q30':=en Wh.q30
theorem Wh.q30_v:OV Wh.q30 Wh.q30':=eB _
def Wh.q22 (xs:(List UInt8)):Option (((Bool))×(Unit)):=
 let yE:=xs
 some ((!yE==yE),())
def Wh.Mo:=en Wh.q22
theorem Wh.q22_v:OV Wh.q22 Wh.Mo:=eB _
def Wh.q14 (xs:(List UInt8)×(List UInt8)):Option (((Int))×(Unit)):=
 let yE:=xs.1
 let DS:=xs.2
 let r_2:=Wh.Mo yE
 bif iy [nQ (Wh.q22 yE)] then
  let r_3:=Wh.Mo DS
  bif iy [nQ (Wh.q22 DS)] then
   bif r_2.1 then
    bif r_3.1 then
     some (0,())
    else
     some (-1,())
   else
    bif r_3.1 then
     some (1,())
    else
     bif Go.Op.bytesLess yE DS then
      some (-1,())
     else
      bif(!(Go.Op.bytesLess yE DS || yE==DS)) then
       some (1,())
      else
       some (0,())
  else none
 else none
def Wh.q14':=en Wh.q14
theorem Wh.q14_v:OV Wh.q14 Wh.q14':=eB _
abbrev Wh.Qc:Type:=((Int)×(Int)×(List (Int))×(Int))×(Unit)
abbrev Wh.acZ:Type:=((((Int))×(Unit))⊕(((Int))×(Unit)))
def Wh.Fw (x:Wh.Qc):Option (Wh.Qc⊕Wh.acZ):=
 let yU:=x.1.1
 let RX:=x.1.2.1
 let yu:=(x.1.2.2).1
 let xN:=x.1.2.2.2
 bif decide (yU<xN) then
  let r_:=List.getD yu (Int.toNat yU) 0
  bif iy [decide (0≤yU),decide (yU<(↑(List.length yu):Int))] then
   let xR:=r_ != RX
   bif xR then
    some (.inr (.inl (r_,())))
   else
    some (.inl (((IntKind.wrap .i64 (yU+1)),RX,yu,xN),()))
  else none
 else
  some (.inr (.inr (RX,())))
def Wh.XM:(((Int))×(Unit))⊕(((Int))×(Unit)):=.inl default
def Wh.IL (xs:(List (Int))):Option (((Int))×(Unit)):=
 let Zm:=xs
 let x_17:Wh.Qc:=((0,0,Zm,(↑(List.length Zm):Int)),())
 bif lF Wh.Fw x_17 then
  sumC (kG Wh.Fw Wh.XM x_17) (fun HG=>
   let ov:=HG.1
   some (ov,())) (fun KZ=>
   let agp:=KZ.1
   some (agp,()))
 else none
def Wh.Qb:=en Wh.IL
theorem Wh.XN:OV Wh.IL Wh.Qb:=eB _
def Wh.q50 (xs:(an.D)×(an.D)):Option (((Int))×(Unit)):=
 let cx:=xs.1
 let b_1:=xs.2
 let r_2:=Wh.q30' (cx.1,b_1.1)
 let r_3:=Wh.q14' (cx.2.1,b_1.2.1)
 let xe:=Wh.Qb [r_2.1,r_3.1]
 bif iy [nQ (Wh.IL [r_2.1,r_3.1]),nQ (Wh.q14 (cx.2.1,b_1.2.1)),nQ (Wh.q30 (cx.1,b_1.1))] then
  some (xe.1,())
 else none
def Wh.q50':=en Wh.q50
theorem Wh.Mu:OV Wh.q50 Wh.q50':=eB _
abbrev Wh.QG:Type:=((Int)×(Unit)×(Unit)×(Int)×(Int)×(Int))×((List (an.D)))
abbrev Wh.q1_l1Y:Type:=((((Unit)×(Unit)×(Int)×(Int)×(Int))×((List (an.D)))))
def Wh.DC (x:Wh.QG):Option (Wh.QG⊕Wh.q1_l1Y):=
 let yc:=x.1.1
 let Gj:=x.1.2.2.2.1
 let Jo:=(x.1.2.2.2.2).1
 let Jx:=(x.1.2.2.2.2).2
 let xd:=x.2
 let nG:=decide (yc>Gj)
 let r_29:=Wh.q50' (List.getD xd (Int.toNat yc) (0,[],0,[],()),List.getD xd (Int.toNat (IntKind.wrap .i64 (yc-1))) (0,[],0,[],()))
 let yy:=bif nG then decide (r_29.1<0) else false
 bif iy [!nG || nQ (Wh.q50 (List.getD xd (Int.toNat yc) (0,[],0,[],()),List.getD xd (Int.toNat (IntKind.wrap .i64 (yc-1))) (0,[],0,[],()))),!nG || decide (0≤IntKind.wrap .i64 (yc-1)),!nG || decide (IntKind.wrap .i64 (yc-1)<(↑(List.length xd):Int)),!nG || decide (0≤yc),!nG || decide (yc<(↑(List.length xd):Int))] then
  bif yy then
   let tn:List (an.D):=List.set xd (Int.toNat yc) (List.getD xd (Int.toNat (IntKind.wrap .i64 (yc-1))) (0,[],0,[],()))
   let OC:List (an.D):=List.set tn (Int.toNat (IntKind.wrap .i64 (yc-1))) (List.getD xd (Int.toNat yc) (0,[],0,[],()))
   let zg:=IntKind.wrap .i64 (yc-1)
   bif iy [decide (0≤zg),decide (zg<(↑(List.length tn):Int)),decide (0≤yc),decide (yc<(↑(List.length xd):Int)),decide (0≤yc),decide (yc<(↑(List.length xd):Int)),decide (0≤zg),decide (zg<(↑(List.length xd):Int))] then
    some (.inl ((zg,(),(),Gj,Jo,Jx),OC))
   else none
  else
   some (.inr (((),(),Gj,Jo,Jx),xd))
 else none
def Wh.Yb:(((Unit)×(Unit)×(Int)×(Int)×(Int))×((List (an.D)))):=default
abbrev Wh.QF:Type:=((Unit)×(Int)×(Unit)×(Int)×(Int))×((List (an.D)))
abbrev Wh.q1_l0Y:Type:=(((Unit)×((List (an.D)))))
def Wh.CP (x:Wh.QF):Option (Wh.QF⊕Wh.q1_l0Y):=
 let GA:=x.1.2.1
 let a_44:=x.1.2.2.2.1
 let Jp:=x.1.2.2.2.2
 let Ar:=x.2
 bif decide (GA<Jp) then
  let BA:Wh.QG:=((GA,(),(),a_44,Jp,GA),Ar)
  bif lF Wh.DC BA then
   let AP:=kG Wh.DC Wh.Yb BA
   let a_50:=(AP.1.2.2).1
   let b_51:=AP.1.2.2.2.1
   let Jz:=AP.1.2.2.2.2
   let OF:=AP.2
   some (.inl (((),(IntKind.wrap .i64 (Jz+1)),(),a_50,b_51),OF))
  else none
 else
  some (.inr ((),Ar))
def Wh.Ya:((Unit)×((List (an.D)))):=default
def Wh.q1 (xs:(List (an.D))×(Int)×(Int)×(Unit)):Option ((Unit)×((List (an.D))×Unit)):=
 let Gt:=xs.1
 let a_1:=xs.2.1
 let b_2:=xs.2.2.1
 let C7:Wh.QF:=(((),(IntKind.wrap .i64 (a_1+1)),(),a_1,b_2),Gt)
 bif lF Wh.CP C7 then
  let AQ:=kG Wh.CP Wh.Ya C7
  let OG:=AQ.2
  some ((),OG,())
 else none
def Wh.q1':=en Wh.q1
theorem Wh.q1_v:OV Wh.q1 Wh.q1':=eB _
abbrev Wh.Q3:Type:=((Unit)×(Int)×(Int)×(Unit)×(Bool)×(Bool)×(Int))×((List (an.D)))
abbrev Wh.q4_l0Y:Type:=(((Unit)×((List (an.D)))))
def Wh.IY (x:Wh.Q3):Option (Wh.Q3⊕Wh.q4_l0Y):=
 let Gm:=x.1.2.1
 let Gg:=(x.1.2.2).1
 let RU:=(x.1.2.2.2.2).2.1
 let N0:=(x.1.2.2.2.2).2.2
 let BM:=x.2
 bif decide ((IntKind.wrap .i64 (Gm-Gg))≤12) then
  let zm:=Wh.q1' (BM,Gg,Gm,())
  bif iy [nQ (Wh.q1 (BM,Gg,Gm,()))] then
   some (.inr ((),zm.2.1))
  else none
 else
  let vN:=N0==0
  bif vN then
   none
  else
   bif !RU then
    none
   else
    none
def Wh.Yo:((Unit)×((List (an.D)))):=default
def Wh.q4 (xs:(List (an.D))×(Int)×(Int)×(Int)×(Unit)):Option ((Unit)×((List (an.D))×Unit)):=
 let Gt:=xs.1
 let a_1:=xs.2.1
 let b_2:=xs.2.2.1
 let N1:=(xs.2.2.2).1
 let x_25:Wh.Q3:=(((),b_2,a_1,(),true,true,N1),Gt)
 bif lF Wh.IY x_25 then
  let Aa:=kG Wh.IY Wh.Yo x_25
  let xd:=Aa.2
  some ((),xd,())
 else none
def Wh.q4':=en Wh.q4
theorem Wh.q4_v:OV Wh.q4 Wh.q4':=eB _
def Wh.I1 (xs:(List (an.D))×(Unit)):Option ((Unit)×((List (an.D))×Unit)):=
 let yE:=xs.1
 let v_2:Int:=(↑(List.length yE):Int)
 let r_3:=Wh.qX (IntKind.wrap .u64 v_2)
 let gd:=Wh.q4' (yE,0,v_2,r_3.1,())
 bif iy [nQ (Wh.q4 (yE,0,v_2,r_3.1,())),nQ (Wh.bits_Len (IntKind.wrap .u64 v_2))] then
  some ((),gd.2.1,())
 else none
def Wh.q8':=en Wh.I1
theorem Wh.q8_v:OV Wh.I1 Wh.q8':=eB _
def Wh.q91 (xs:(fN.D)×(Int)×(List UInt8)×(List UInt8)):Option ((((Int)×((List (an.D))×(Unit)))×(Int))×(Unit)):=
 let gz:=xs.1
 let xU:=xs.2.1
 let yG:=xs.2.2.1
 let DN:=xs.2.2.2
 let gd:=Wh.IZ gz
 bif iy [nQ (Wh.EJ gz)] then
  let xP:=Wh.q27' (xU,yG,DN)
  bif iy [nQ (Wh.q27 (xU,yG,DN))] then
   bif !xP.1 then
    some ((gd.1,1),())
   else
    let xe:=Wh.Kh (gz,xU,yG)
    bif iy [nQ (Wh.CQ (gz,xU,yG))] then
     bif decide (xe.1≥0) then
      some ((gd.1,2),())
     else
      let yU:Int:=(↑(List.length gz.2.1):Int)
      let r_14:=Wh.q46' (gz,xU)
      let xb:=bif bif yU==8 then true else gz.1==99999 then true else decide (IntKind.wrap .i64 (r_14.1+(↑(List.length DN):Int))>500)
      bif iy [(!!bif yU==8 then true else gz.1==99999) || nQ (Wh.q46 (gz,xU))] then
       bif xb then
        some ((gd.1,4),())
       else
        let GN:=IntKind.wrap .i64 (gd.1.1+1)
        let Ic:List (an.D):=[(xU,yG,GN,DN,())]
        let pb_19:List (an.D):=gd.1.2.1++Ic
        bif iy [decide (List.length (gd.1.2.1)+(1:Nat)≤dh)] then
         let zc:=Wh.q8' (pb_19,())
         bif iy [nQ (Wh.I1 (pb_19,()))] then
          let Kr:=Wh.IZ (GN,zc.2.1,gd.1.2.2)
          bif iy [nQ (Wh.EJ (GN,zc.2.1,gd.1.2.2))] then
           some ((Kr.1,0),())
          else none
         else none
        else none
      else none
    else none
  else none
 else none
def Wh.q91':=en Wh.q91
theorem Wh.q91_v:OV Wh.q91 Wh.q91':=eB _
def Wh.q45 (xs:(fN.D)×(List UInt8)):Option ((((Int)×((List (an.D))×(Unit)))×(Bool))×(Unit)):=
 let gz:=xs.1
 let zM:=xs.2
 let r_2:=Wh.tK (zM,[(58:UInt8)])
 bif iy [nQ (Wh.strings_Cut (zM,[(58:UInt8)]))] then
  let r_3:=Wh.tK (r_2.1.1,[(32:UInt8)])
  bif iy [nQ (Wh.strings_Cut (r_2.1.1,[(32:UInt8)]))] then
   let gd:=Wh.rW r_3.1.1
   bif iy [nQ (Wh.rV r_3.1.1)] then
    let x6:=zM == []
    let xe:=Wh.q44' (gd.1.1,r_3.1.2.1,r_2.1.2.1)
    let yz:=bif x6 then true else !xe.1==zM
    bif iy [!!x6 || nQ (Wh.q44 (gd.1.1,r_3.1.2.1,r_2.1.2.1))] then
     bif yz then
      some (((0,[],()),false),())
     else
      let r5:=Wh.q65' (gz,gd.1.1,r_3.1.2.1)
      bif iy [nQ (Wh.q65 (gz,gd.1.1,r_3.1.2.1))] then
       bif(!r_2.1.2.1 == []) then
        let zZ:=Wh.q91' (gz,gd.1.1,r_3.1.2.1,r_2.1.2.1)
        bif iy [nQ (Wh.q91 (gz,gd.1.1,r_3.1.2.1,r_2.1.2.1))] then
         some ((zZ.1.1,(zZ.1.2==0)),())
        else none
       else
        some ((r5.1.1,(r5.1.2==0)),())
      else none
    else none
   else none
  else none
 else none
def Wh.q45':=en Wh.q45
theorem Wh.QZ:OV Wh.q45 Wh.q45':=eB _
abbrev Wh.Qe:Type:=((Unit)×(Int)×(Unit)×(List (List UInt8))×(Int))×(((Int)×((Unit)×(Unit)))×((Int)×((Unit)×(Unit)))×(List (an.D))×(List (an.D)))
abbrev Wh.ac0:Type:=((((Unit)×(Bool))×(((Int)×((Unit)×(Unit)))×(List (an.D))))⊕(((Unit)×(Unit))×(((Int)×((Unit)×(Unit)))×((Int)×((Unit)×(Unit)))×(List (an.D))×(List (an.D)))))
def Wh.El (x:Wh.Qe):Option (Wh.Qe⊕Wh.ac0):=
 let xb:=x.1.2.1
 let yw:=x.1.2.2.2.1
 let x5:=x.1.2.2.2.2
 let yL:=x.2.1.1
 let Bi:=x.2.1.2.2
 let AE:=x.2.2.1.1
 let AZ:=(x.2.2.1).2.2
 let zR:=(x.2.2.2).1
 let BJ:=x.2.2.2.2
 bif decide (xb<x5) then
  let wX:=List.getD yw (Int.toNat xb) []
  bif iy [decide (0≤xb),decide (xb<(↑(List.length yw):Int))] then
   let DK:=Wh.q45' ((AE,BJ,AZ),wX)
   bif iy [nQ (Wh.q45 ((AE,BJ,AZ),wX))] then
    bif(!DK.1.2) then
     some (.inr (.inl (((),false),(0,(),()),[])))
    else
     some (.inl (((),(IntKind.wrap .i64 (xb+1)),(),yw,x5),(yL,(),Bi),(DK.1.1.1,(),DK.1.1.2.2),zR,(DK.1.1.2).1))
   else none
  else none
 else
  some (.inr (.inr (((),()),(yL,(),Bi),(AE,(),AZ),zR,BJ)))
def Wh.XO:(((Unit)×(Bool))×(((Int)×((Unit)×(Unit)))×(List (an.D))))⊕(((Unit)×(Unit))×(((Int)×((Unit)×(Unit)))×((Int)×((Unit)×(Unit)))×(List (an.D))×(List (an.D)))):=.inl default
def Wh.IM (xs:(List (List UInt8))):Option ((((Int)×((List (an.D))×(Unit)))×(Bool))×(Unit)):=
 let MQ:List (List UInt8):=xs
 let v_1:Int:=(↑(List.length MQ):Int)
 let KM:Wh.Qe:=(((),0,(),MQ,v_1),(0,(),()),(0,(),()),[],[])
 bif lF Wh.El KM then
  sumC (kG Wh.El Wh.XO KM) (fun HI=>
   let zg:=HI.1.2
   let yl:=HI.2.1.1
   let ym:=HI.2.1.2.2
   let Dl:=HI.2.2
   some (((yl,Dl,ym),zg),())) (fun z_32=>
   let A2:=z_32.2.2.1.1
   let LI:=(z_32.2.2.1).2.2
   let CG:=z_32.2.2.2.2
   some (((A2,CG,LI),true),()))
 else none
def Wh.Qd:=en Wh.IM
theorem Wh.XP:OV Wh.IM Wh.Qd:=eB _
abbrev Wh.QH:Type:=((Int)×(List (an.D))×(List (an.D))×(Int))×(Unit)
abbrev Wh.adg:Type:=((((Bool))×(Unit))⊕((Unit)×(Unit)))
def Wh.Ew (x:Wh.QH):Option (Wh.QH⊕Wh.adg):=
 let r_:=x.1.1
 let RI:=x.1.2.1
 let RH:=(x.1.2.2).1
 let yw:=x.1.2.2.2
 bif decide (r_<yw) then
  let th:an.D:=List.getD RH (Int.toNat r_) (0,[],0,[],())
  let ov:an.D:=List.getD RI (Int.toNat r_) (0,[],0,[],())
  bif iy [decide (0≤r_),decide (r_<(↑(List.length RI):Int)),decide (0≤r_),decide (r_<(↑(List.length RH):Int))] then
   bif(!(th.1==ov.1&&(th.2.1==ov.2.1&&(th.2.2.1==ov.2.2.1&&((th.2.2.2).1==(ov.2.2.2).1&&true))))) then
    some (.inr (.inl (false,())))
   else
    some (.inl (((IntKind.wrap .i64 (r_+1)),RI,RH,yw),()))
  else none
 else
  some (.inr (.inr ((),())))
def Wh.Yc:(((Bool))×(Unit))⊕((Unit)×(Unit)):=.inl default
def Wh.q20 (xs:(List (an.D))×(List (an.D))):Option (((Bool))×(Unit)):=
 let s1_0:=xs.1
 let s2_1:=xs.2
 let v_2:Int:=(↑(List.length s1_0):Int)
 let nC:Int:=(↑(List.length s2_1):Int)
 let yq:=v_2 != nC
 bif yq then
  some (false,())
 else
  let x_23:Wh.QH:=((0,s2_1,s1_0,v_2),())
  bif lF Wh.Ew x_23 then
   sumC (kG Wh.Ew Wh.Yc x_23) (fun y_24=>
    let wX:=y_24.1
    some (wX,())) (fun _=>
    some (true,()))
  else none
def Wh.q20':=en Wh.q20
theorem Wh.q20_v:OV Wh.q20 Wh.q20':=eB _
def Wh.q98 (xs:(fN.D)×(fN.D)):Option (((Bool))×(Unit)):=
 let cx:=xs.1
 let b_1:=xs.2
 let v_2:=cx.1==b_1.1
 let r_3:=Wh.q20' (cx.2.1,b_1.2.1)
 let x6:=bif v_2 then r_3.1 else false
 bif iy [!v_2 || nQ (Wh.q20 (cx.2.1,b_1.2.1))] then
  some (x6,())
 else none
def Wh.q98':=en Wh.q98
theorem Wh.q98_v:OV Wh.q98 Wh.q98':=eB _
abbrev Wh.Q2:Type:=((Int)×(Int)×(Int)×(List (e_.D))×(Int))×(Unit)
abbrev Wh.adp:Type:=((((Int))×(Unit))⊕((Unit)×(Unit)))
def Wh.ED (x:Wh.Q2):Option (Wh.Q2⊕Wh.adp):=
 let r_:=x.1.1
 let Um:=x.1.2.1
 let Ut:=(x.1.2.2).1
 let yw:=x.1.2.2.2.1
 let x5:=x.1.2.2.2.2
 bif decide (r_<x5) then
  let BM:e_.D:=List.getD yw (Int.toNat r_) (0,0,0,0,false,())
  bif iy [decide (0≤r_),decide (r_<(↑(List.length yw):Int))] then
   let yI:=bif(BM.2.1==Ut) then BM.2.2.1==Um else false
   bif yI then
    some (.inr (.inl (r_,())))
   else
    some (.inl (((IntKind.wrap .i64 (r_+1)),Um,Ut,yw,x5),()))
  else none
 else
  some (.inr (.inr ((),())))
def Wh.Yn:(((Int))×(Unit))⊕((Unit)×(Unit)):=.inl default
def Wh.q48 (xs:(lg.D)×(Int)×(Int)):Option (((Int))×(Unit)):=
 let mb:=xs.1
 let HO:=xs.2.1
 let ZG:=xs.2.2
 let nC:Int:=(↑(List.length mb.1):Int)
 let x_24:Wh.Q2:=((0,ZG,HO,mb.1,nC),())
 bif lF Wh.ED x_24 then
  sumC (kG Wh.ED Wh.Yn x_24) (fun y_25=>
   let AA:=y_25.1
   some (AA,())) (fun _=>
   some (-1,()))
 else none
def Wh.q48':=en Wh.q48
theorem Wh.q48_v:OV Wh.q48 Wh.q48':=eB _
abbrev Wh.RD:Type:=((Int)×(Int)×(Int)×(List (e_.D))×(Int))×(Unit)
abbrev Wh.adU:Type:=((((Int))×(Unit)))
def Wh.EN (x:Wh.RD):Option (Wh.RD⊕Wh.adU):=
 let xR:=x.1.1
 let GK:=x.1.2.1
 let Gv:=(x.1.2.2).1
 let x5:=x.1.2.2.2.1
 let th:=x.1.2.2.2.2
 bif decide (xR<th) then
  let Eb:e_.D:=List.getD x5 (Int.toNat xR) (0,0,0,0,false,())
  bif iy [decide (0≤xR),decide (xR<(↑(List.length x5):Int))] then
   let Ak:=bif decide (Eb.2.1>0) then Eb.1==Gv else false
   bif Ak then
    some (.inl (((IntKind.wrap .i64 (xR+1)),(IntKind.wrap .i64 (GK+1)),Gv,x5,th),()))
   else
    some (.inl (((IntKind.wrap .i64 (xR+1)),GK,Gv,x5,th),()))
  else none
 else
  some (.inr (GK,()))
def Wh.YW:(((Int))×(Unit)):=default
def Wh.q95 (xs:(lg.D)×(Int)):Option (((Int))×(Unit)):=
 let mb:=xs.1
 let xU:=xs.2
 let v_2:Int:=(↑(List.length mb.1):Int)
 let KK:Wh.RD:=((0,0,xU,mb.1,v_2),())
 bif lF Wh.EN KK then
  let HH:=kG Wh.EN Wh.YW KK
  let n_29:=HH.1
  some (n_29,())
 else none
def Wh.q95':=en Wh.q95
theorem Wh.I5:OV Wh.q95 Wh.q95':=eB _
abbrev Wh.Pt:Type:=((Int)×(Unit))×((lg.D))
abbrev Wh.acP:Type:=((((Bool))×(Unit))⊕((Unit)×(Unit)))
def Wh.Dv (x:Wh.Pt):Option (Wh.Pt⊕Wh.acP):=
 let Jc:=x.1.1
 let Fb:=x.2
 bif decide (Jc<2) then
  let ML:=Wh.q95' (Fb,Jc)
  bif iy [nQ (Wh.q95 (Fb,Jc))] then
   bif decide (ML.1>5) then
    some (.inr (.inl (false,())))
   else
    some (.inl (((IntKind.wrap .i64 (Jc+1)),()),Fb))
  else none
 else
  some (.inr (.inr ((),())))
def Wh.Xr:(((Bool))×(Unit))⊕((Unit)×(Unit)):=.inl default
abbrev Wh.Pr:Type:=((Int)×(Unit)×(List (e_.D))×(Int))×((lg.D))
abbrev Wh.acO:Type:=((((Bool))×(Unit))⊕(((Unit))×((lg.D))))
def Wh.Du (x:Wh.Pr):Option (Wh.Pr⊕Wh.acO):=
 let nG:=x.1.1
 let zf:=(x.1.2.2).1
 let yy:=x.1.2.2.2
 let yS:=x.2
 bif decide (nG<yy) then
  let xT:e_.D:=List.getD zf (Int.toNat nG) (0,0,0,0,false,())
  bif iy [decide (0≤nG),decide (nG<(↑(List.length zf):Int))] then
   bif(xT.2.1==0) then
    bif(!(xT.1==0&&(xT.2.1==0&&(xT.2.2.1==0&&((xT.2.2.2).1==0&&(xT.2.2.2.2.1==false&&true)))))) then
     some (.inr (.inl (false,())))
    else
     some (.inl (((IntKind.wrap .i64 (nG+1)),(),zf,yy),yS))
   else
    let Kw:=Wh.Ka xT.1
    let gv:=Wh.wh (xT.2.1,1,99999)
    let z7:=Wh.wh (xT.2.2.1,0,23)
    let Ht:=Wh.wh ((xT.2.2.2).1,0,99999)
    let Hu:=Wh.q48' (yS,xT.2.1,xT.2.2.1)
    let v_48:=bif bif bif bif !Kw.1 then true else !gv.1 then true else !z7.1 then true else !Ht.1 then true else Hu.1 != nG
    bif iy [(!!bif bif bif !Kw.1 then true else !gv.1 then true else !z7.1 then true else !Ht.1) || nQ (Wh.q48 (yS,xT.2.1,xT.2.2.1)),(!!bif bif !Kw.1 then true else !gv.1 then true else !z7.1) || nQ (Wh.ye ((xT.2.2.2).1,0,99999)),(!!bif !Kw.1 then true else !gv.1) || nQ (Wh.ye (xT.2.2.1,0,23)),!!!Kw.1 || nQ (Wh.ye (xT.2.1,1,99999)),nQ (Wh.Cl xT.1)] then
     bif v_48 then
      some (.inr (.inl (false,())))
     else
      some (.inl (((IntKind.wrap .i64 (nG+1)),(),zf,yy),yS))
    else none
  else none
 else
  some (.inr (.inr ((),yS)))
def Wh.Xq:(((Bool))×(Unit))⊕(((Unit))×((lg.D))):=.inl default
def Wh.GZ (xs:(lg.D)):Option (((Bool))×(Unit)):=
 let mb:lg.D:=xs
 let v_1:Int:=(↑(List.length mb.1):Int)
 let gd:=Wh.wh (mb.2.1,0,7)
 let x6:=bif v_1 != 8 then true else !gd.1
 bif iy [!!v_1 != 8 || nQ (Wh.ye (mb.2.1,0,7))] then
  bif x6 then
   some (false,())
  else
   let x_50:Wh.Pr:=((0,(),mb.1,v_1),mb)
   bif lF Wh.Du x_50 then
    sumC (kG Wh.Du Wh.Xq x_50) (fun y_51=>
     let F8:=y_51.1
     some (F8,())) (fun z_52=>
     let Ag:=z_52.2
     let x_67:Wh.Pt:=((0,()),Ag)
     bif lF Wh.Dv x_67 then
      sumC (kG Wh.Dv Wh.Xr x_67) (fun y_68=>
       let v_70:=y_68.1
       some (v_70,())) (fun _=>
       some (true,()))
     else none)
   else none
 else none
def Wh.Pq:=en Wh.GZ
theorem Wh.Pu:OV Wh.GZ Wh.Pq:=eB _
def Wh.q15 (xs:(an.D)×(Int)):Option (((Bool))×(Unit)):=
 let i_0:=xs.1
 let v_1:=xs.2
 some ((i_0.2.2.1==v_1),())
def Wh.q15':=en Wh.q15
theorem Wh.Qh:OV Wh.q15 Wh.q15':=eB _
abbrev Wh.Ra:Type:=((Int)×(List (an.D))×((Int)×(Unit))×(Int))×(Unit)
abbrev Wh.q5_l0Y:Type:=((((Int))×(Unit))⊕((Unit)×(Unit)))
def Wh.EG (x:Wh.Ra):Option (Wh.Ra⊕Wh.q5_l0Y):=
 let yu:=x.1.1
 let CY:=x.1.2.1
 let Gu:=(x.1.2.2).1.1
 let r_:=x.1.2.2.2
 bif decide (yu<r_) then
  let xb:an.D:=List.getD CY (Int.toNat yu) (0,[],0,[],())
  let z6:=Wh.q15' (xb,Gu)
  bif iy [nQ (Wh.q15 (xb,Gu)),decide (0≤yu),decide (yu<(↑(List.length CY):Int))] then
   bif z6.1 then
    some (.inr (.inl (yu,())))
   else
    some (.inl (((IntKind.wrap .i64 (yu+1)),CY,(Gu,()),r_),()))
  else none
 else
  some (.inr (.inr ((),())))
def Wh.Yw:(((Int))×(Unit))⊕((Unit)×(Unit)):=.inl default
def Wh.q5 (xs:(List (an.D))×((Int)×(Unit))):Option (((Int))×(Unit)):=
 let ct:=xs.1
 let f_1:=xs.2
 let v_2:Int:=(↑(List.length ct):Int)
 let x_19:Wh.Ra:=((0,ct,(f_1.1,()),v_2),())
 bif lF Wh.EG x_19 then
  sumC (kG Wh.EG Wh.Yw x_19) (fun KT=>
   let yI:=KT.1
   some (yI,())) (fun _=>
   some (-1,()))
 else none
def Wh.q5':=en Wh.q5
theorem Wh.q5_v:OV Wh.q5 Wh.q5':=eB _
def Wh.q23 (xs:(fN.D)×(Int)):Option (((Int))×(Unit)):=
 let gz:=xs.1
 let HO:=xs.2
 let r_2:=Wh.q5' (gz.2.1,HO,())
 bif iy [nQ (Wh.q5 (gz.2.1,HO,()))] then
  some (r_2.1,())
 else none
def Wh.Mp:=en Wh.q23
theorem Wh.Hh:OV Wh.q23 Wh.Mp:=eB _
def Wh.BU (xs:(s_.D)):Option (((Int))×(Unit)):=
 let mb:s_.D:=xs
 bif iy [mb.2.1 != 0] then
  some ((IntKind.wrap .i64 (Int.tdiv (IntKind.wrap .i64 ((IntKind.wrap .i64 (mb.1+mb.2.1))-1)) mb.2.1)),())
 else none
def Wh.zL:=en Wh.BU
theorem Wh.q32_v:OV Wh.BU Wh.zL:=eB _
abbrev Wh.RC:Type:=((Unit)×(Unit))×(((Int)×((Int)×((Unit)×((Unit)×(Unit)))))×((Int)×((Int)×((Unit)×((Unit)×(Unit)))))×(List (Int))×(List (Int))×(List (Int))×(List (Int)))
abbrev Wh.adT:Type:=((((Unit)×(Unit))×(((Int)×((Int)×((Unit)×((Unit)×(Unit)))))×((Int)×((Int)×((Unit)×((Unit)×(Unit)))))×(List (Int))×(List (Int))×(List (Int))×(List (Int)))))
def Wh.I4 (x:Wh.RC):Option (Wh.RC⊕Wh.adT):=
 let yR:=x.2.1.1
 let Cd:=(x.2.1.2).1
 let zi:=(x.2.1.2.2.2).2
 let yj:=x.2.2.1.1
 let yL:=(x.2.2.1).2.1
 let Bi:=(x.2.2.1).2.2.2.2
 let AE:=(x.2.2.2).1
 let AZ:=x.2.2.2.2.1
 let zR:=(x.2.2.2.2.2).1
 let BJ:=(x.2.2.2.2.2).2
 let A9:=Wh.zL (yR,Cd,AE,AZ,zi)
 bif iy [nQ (Wh.BU (yR,Cd,AE,AZ,zi))] then
  bif decide (A9.1>24) then
   some (.inl (((),()),(yR,(IntKind.wrap .i64 (Cd+1)),(),(),zi),(yj,yL,(),(),Bi),AE,AZ,zR,BJ))
  else
   some (.inr (((),()),(yj,yL,(),(),Bi),(yR,Cd,(),(),zi),zR,BJ,AE,AZ))
 else none
def Wh.YV:(((Unit)×(Unit))×(((Int)×((Int)×((Unit)×((Unit)×(Unit)))))×((Int)×((Int)×((Unit)×((Unit)×(Unit)))))×(List (Int))×(List (Int))×(List (Int))×(List (Int)))):=default
def Wh.Co (xs:(Int)):Option ((((Int)×((Int)×((List (Int))×((List (Int))×(Unit))))))×(Unit)):=
 let JH:=xs
 let r_1:=Wh.wh (JH,1,300)
 bif iy [nQ (Wh.ye (JH,1,300))] then
  bif !r_1.1 then
   some ((0,0,[],[],()),())
  else
   let C6:Wh.RC:=(((),()),(JH,8,(),(),()),(0,0,(),(),()),[],[],[],[])
   bif lF Wh.I4 C6 then
    let BZ:=kG Wh.I4 Wh.YV C6
    let zj:=BZ.2.2.1.1
    let yl:=(BZ.2.2.1).2.1
    let ym:=(BZ.2.2.1).2.2.2.2
    let yd:=(BZ.2.2.2.2.2).1
    let A2:=(BZ.2.2.2.2.2).2
    let MJ:=Wh.zL (zj,yl,yd,A2,ym)
    bif iy [nQ (Wh.BU (zj,yl,yd,A2,ym))] then
     let k_43:=IntKind.wrap .i64 (Int.tdiv (IntKind.wrap .i64 (MJ.1+3)) 4)
     bif decide (k_43<MJ.1) then
      let GO:List Int:=[k_43,MJ.1]
      some ((zj,yl,GO,[(2:Int),3],ym),())
     else
      let Ar:List Int:=[MJ.1]
      some ((zj,yl,Ar,[(1:Int)],ym),())
    else none
   else none
 else none
def Wh.MD:=en Wh.Co
theorem Wh.ME:OV Wh.Co Wh.MD:=eB _
abbrev Wh.Ri:Type:=((Int)×(Unit)×(List (e_.D))×(Int))×((fN.D))
abbrev Wh.adB:Type:=((((Bool))×(Unit))⊕((Unit)×(Unit)))
def Wh.BW (x:Wh.Ri):Option (Wh.Ri⊕Wh.adB):=
 let vN:=x.1.1
 let Bz:=(x.1.2.2).1
 let wX:=x.1.2.2.2
 let yM:=x.2
 bif decide (vN<wX) then
  let yx:e_.D:=List.getD Bz (Int.toNat vN) (0,0,0,0,false,())
  bif iy [decide (0≤vN),decide (vN<(↑(List.length Bz):Int))] then
   bif(yx.2.1==0) then
    some (.inl (((IntKind.wrap .i64 (vN+1)),(),Bz,wX),yM))
   else
    let xS:=Wh.Mp (yM,yx.2.1)
    bif iy [nQ (Wh.q23 (yM,yx.2.1))] then
     let Cp:=Wh.MD (↑(List.length (Prod.fst (Prod.snd (Prod.snd (Prod.snd (List.getD yM.2.1 (Int.toNat xS.1) (0,[],0,[],()))))))):Int)
     let xW:=decide ((yx.2.2.2).1>0)
     let z7:=Wh.zL (Cp.1.1,Cp.1.2.1,bif !bif bif xW then true else decide (xS.1<0) then true else Prod.fst (List.getD yM.2.1 (Int.toNat xS.1) (0,[],0,[],())) != yx.1 then(Cp.1.2.2).1 else [],bif !bif bif xW then true else decide (xS.1<0) then true else Prod.fst (List.getD yM.2.1 (Int.toNat xS.1) (0,[],0,[],())) != yx.1 then Cp.1.2.2.2.1 else [],Cp.1.2.2.2.2)
     let F6:=bif bif bif xW then true else decide (xS.1<0) then true else Prod.fst (List.getD yM.2.1 (Int.toNat xS.1) (0,[],0,[],())) != yx.1 then true else decide (yx.2.2.1≥z7.1)
     bif iy [(!!bif bif xW then true else decide (xS.1<0) then true else Prod.fst (List.getD yM.2.1 (Int.toNat xS.1) (0,[],0,[],())) != yx.1) || nQ (Wh.BU (Cp.1.1,Cp.1.2.1,bif !bif bif xW then true else decide (xS.1<0) then true else Prod.fst (List.getD yM.2.1 (Int.toNat xS.1) (0,[],0,[],())) != yx.1 then(Cp.1.2.2).1 else [],bif !bif bif xW then true else decide (xS.1<0) then true else Prod.fst (List.getD yM.2.1 (Int.toNat xS.1) (0,[],0,[],())) != yx.1 then Cp.1.2.2.2.1 else [],Cp.1.2.2.2.2)),(!!bif bif xW then true else decide (xS.1<0) then true else Prod.fst (List.getD yM.2.1 (Int.toNat xS.1) (0,[],0,[],())) != yx.1) || nQ (Wh.Co (↑(List.length (Prod.fst (Prod.snd (Prod.snd (Prod.snd (List.getD yM.2.1 (Int.toNat xS.1) (0,[],0,[],()))))))):Int)),(!!bif bif xW then true else decide (xS.1<0) then true else Prod.fst (List.getD yM.2.1 (Int.toNat xS.1) (0,[],0,[],())) != yx.1) || decide (0≤xS.1),(!!bif bif xW then true else decide (xS.1<0) then true else Prod.fst (List.getD yM.2.1 (Int.toNat xS.1) (0,[],0,[],())) != yx.1) || decide (xS.1<(↑(List.length yM.2.1):Int)),(!!bif xW then true else decide (xS.1<0)) || decide (0≤xS.1),(!!bif xW then true else decide (xS.1<0)) || decide (xS.1<(↑(List.length yM.2.1):Int))] then
      bif F6 then
       some (.inr (.inl (false,())))
      else
       some (.inl (((IntKind.wrap .i64 (vN+1)),(),Bz,wX),yM))
     else none
    else none
  else none
 else
  some (.inr (.inr ((),())))
def Wh.YC:(((Bool))×(Unit))⊕((Unit)×(Unit)):=.inl default
def Wh.q70 (xs:(lg.D)×(fN.D)):Option (((Bool))×(Unit)):=
 let mb:=xs.1
 let c_1:=xs.2
 let r_2:=Wh.Pq mb
 bif iy [nQ (Wh.GZ mb)] then
  bif !r_2.1 then
   some (false,())
  else
   let nC:Int:=(↑(List.length mb.1):Int)
   let x_44:Wh.Ri:=((0,(),mb.1,nC),c_1)
   bif lF Wh.BW x_44 then
    sumC (kG Wh.BW Wh.YC x_44) (fun y_45=>
     let KG:=y_45.1
     some (KG,())) (fun _=>
     some (true,()))
   else none
 else none
def Wh.q70':=en Wh.q70
theorem Wh.q70_v:OV Wh.q70 Wh.q70':=eB _
def Wh.q63 (xs:(eA.D)):Option (((Bool))×(Unit)):=
 let y8:eA.D:=xs
 let r_1:=Wh.wh (y8.2.1,0,99999)
 let r_2:=Wh.wh (y8.2.2.1,0,99999)
 let xP:=Wh.wh (y8.1,0,y8.2.1)
 let r5:=Wh.wh ((y8.2.2.2).1,0,99999)
 let Az:=bif bif bif r_1.1 then r_2.1 else false then xP.1 else false then r5.1 else false
 bif iy [(!bif bif r_1.1 then r_2.1 else false then xP.1 else false) || nQ (Wh.ye ((y8.2.2.2).1,0,99999)),(!bif r_1.1 then r_2.1 else false) || nQ (Wh.ye (y8.1,0,y8.2.1)),!r_1.1 || nQ (Wh.ye (y8.2.2.1,0,99999)),nQ (Wh.ye (y8.2.1,0,99999))] then
  some (Az,())
 else none
def Wh.q63':=en Wh.q63
theorem Wh.q63_v:OV Wh.q63 Wh.q63':=eB _
def Wh.q67 (xs:(Int)):Option (((Bool))×(Unit)):=
 let yY:=xs
 let r_1:=Wh.wh (yY,0,3)
 bif iy [nQ (Wh.ye (yY,0,3))] then
  some (r_1.1,())
 else none
def Wh.Mz:=en Wh.q67
theorem Wh.CR:OV Wh.q67 Wh.Mz:=eB _
def Wh.q96 (xs:(Int)):Option (((Int))×(Unit)):=
 let Jq:=xs
 some ((Int.tmod Jq 2),())
def Wh.MG:=en Wh.q96
theorem Wh.CV:OV Wh.q96 Wh.MG:=eB _
abbrev Wh.Rf:Type:=((Int)×(Unit)×(List (cr.D))×(Int))×((fk.D))
abbrev Wh.adz:Type:=((((Bool))×(Unit))⊕((Unit)×(Unit)))
def Wh.DF (x:Wh.Rf):Option (Wh.Rf⊕Wh.adz):=
 let Cs:=x.1.1
 let v_89:=(x.1.2.2).1
 let M8:=x.1.2.2.2
 let Bo:=x.2
 bif decide (Cs<M8) then
  let zH:cr.D:=List.getD v_89 (Int.toNat Cs) (0,0,0,0,0,0,())
  bif iy [decide (0≤Cs),decide (Cs<(↑(List.length v_89):Int))] then
   let Jd:=decide (Cs>0)
   let r_97:=Wh.Mz zH.1
   let r_100:=Wh.wh (zH.2.1,1,99999)
   let RF:=Wh.wh (zH.2.2.1,1,(Bo.2.2.2).1.1)
   let v_104:=bif bif bif bif Jd then decide (Prod.fst (List.getD ((Bo.2.2.2.2.2).2.1) (Int.toNat (IntKind.wrap .i64 (Cs-1))) (0,0,0,0,0,0,()))≥zH.1) else false then true else !r_97.1 then true else !r_100.1 then true else !RF.1
   bif iy [(!!bif bif bif Jd then decide (Prod.fst (List.getD ((Bo.2.2.2.2.2).2.1) (Int.toNat (IntKind.wrap .i64 (Cs-1))) (0,0,0,0,0,0,()))≥zH.1) else false then true else !r_97.1 then true else !r_100.1) || nQ (Wh.ye (zH.2.2.1,1,(Bo.2.2.2).1.1)),(!!bif bif Jd then decide (Prod.fst (List.getD ((Bo.2.2.2.2.2).2.1) (Int.toNat (IntKind.wrap .i64 (Cs-1))) (0,0,0,0,0,0,()))≥zH.1) else false then true else !r_97.1) || nQ (Wh.ye (zH.2.1,1,99999)),(!!bif Jd then decide (Prod.fst (List.getD ((Bo.2.2.2.2.2).2.1) (Int.toNat (IntKind.wrap .i64 (Cs-1))) (0,0,0,0,0,0,()))≥zH.1) else false) || nQ (Wh.q67 zH.1),!Jd || decide (0≤IntKind.wrap .i64 (Cs-1)),!Jd || decide (IntKind.wrap .i64 (Cs-1)<(↑(List.length ((Bo.2.2.2.2.2).2.1)):Int))] then
    bif v_104 then
     some (.inr (.inl (false,())))
    else
     let MH:=Wh.Mp ((Bo.2.2.2).1,zH.2.2.1)
     bif iy [nQ (Wh.q23 ((Bo.2.2.2).1,zH.2.2.1))] then
      let M1:=decide (MH.1≥0)
      let r_107:=Wh.MG zH.1
      let DO:=bif M1 then Prod.fst (List.getD ((Bo.2.2.2).1.2.1) (Int.toNat MH.1) (0,[],0,[],())) != r_107.1 else false
      bif iy [!M1 || nQ (Wh.q96 zH.1),!M1 || decide (0≤MH.1),!M1 || decide (MH.1<(↑(List.length ((Bo.2.2.2).1.2.1)):Int))] then
       bif DO then
        some (.inr (.inl (false,())))
       else
        let Kn:=Wh.wh ((zH.2.2.2).1,0,9999)
        let r_110:=Wh.wh (zH.2.2.2.2.1,0,3)
        let r_113:=Wh.wh ((zH.2.2.2.2.2).1,0,Bo.2.1)
        let v_114:=bif bif !Kn.1 then true else !r_110.1 then true else !r_113.1
        bif iy [(!!bif !Kn.1 then true else !r_110.1) || nQ (Wh.ye ((zH.2.2.2.2.2).1,0,Bo.2.1)),!!!Kn.1 || nQ (Wh.ye (zH.2.2.2.2.1,0,3)),nQ (Wh.ye ((zH.2.2.2).1,0,9999))] then
         bif v_114 then
          some (.inr (.inl (false,())))
         else
          some (.inl (((IntKind.wrap .i64 (Cs+1)),(),v_89,M8),Bo))
        else none
      else none
     else none
   else none
  else none
 else
  some (.inr (.inr ((),())))
def Wh.YA:(((Bool))×(Unit))⊕((Unit)×(Unit)):=.inl default
abbrev Wh.Re:Type:=((Int)×(Unit)×(List (eA.D))×(Int))×((fk.D))
abbrev Wh.ady:Type:=((((Bool))×(Unit))⊕(((Unit))×((fk.D))))
def Wh.EI (x:Wh.Re):Option (Wh.Re⊕Wh.ady):=
 let C0:=x.1.1
 let F6:=(x.1.2.2).1
 let DP:=x.1.2.2.2
 let CH:=x.2
 bif decide (C0<DP) then
  let Ar:eA.D:=List.getD F6 (Int.toNat C0) (0,0,0,0,())
  bif iy [decide (0≤C0),decide (C0<(↑(List.length F6):Int))] then
   let Hu:=Wh.q63' Ar
   let Jb:=bif bif bif !Hu.1 then true else Ar.2.1 != 40 then true else Ar.2.2.1 != 8 then true else decide ((Ar.2.2.2).1>CH.2.1)
   bif iy [nQ (Wh.q63 Ar)] then
    bif Jb then
     some (.inr (.inl (false,())))
    else
     some (.inl (((IntKind.wrap .i64 (C0+1)),(),F6,DP),CH))
   else none
  else none
 else
  some (.inr (.inr ((),CH)))
def Wh.Yz:(((Bool))×(Unit))⊕(((Unit))×((fk.D))):=.inl default
def Wh.q66 (xs:(fk.D)):Option (((Bool))×(Unit)):=
 let ct:fk.D:=xs
 let r_1:=Wh.wh (ct.2.1,0,99999)
 let v_2:=bif !r_1.1 then true else decide ((↑(List.length (ct.2.2.1)):Int)>9000)
 bif iy [nQ (Wh.ye (ct.2.1,0,99999))] then
  bif v_2 then
   some (false,())
  else
   let r_3:=Wh.q93' (ct.2.2.1)
   bif iy [nQ (Wh.q93 (ct.2.2.1))] then
    let gd:=Wh.Qd r_3.1.1
    bif iy [nQ (Wh.IM r_3.1.1)] then
     bif(!gd.1.2) then
      some (false,())
     else
      bif(!ct.1) then
       let yz:Bool:=(ct.2.2.2).1.1==0
       let ab_:=bif bif bif yz then(↑(List.length ((ct.2.2.2).1.2.1)):Int)==0 else false then(↑(List.length ((ct.2.2.2.2.1).1)):Int)==0 else false then(ct.2.2.2.2.1).2.1==0 else false
       let r_:=bif ab_ then(↑(List.length ((ct.2.2.2.2.2).1)):Int)==0 else false
       let xb:=bif r_ then(↑(List.length ((ct.2.2.2.2.2).2.1)):Int)==0 else false
       some (xb,())
      else
       let yw:Int:=(↑(List.length (ct.2.2.1)):Int)
       let zc:=Wh.q98' (gd.1.1,(ct.2.2.2).1)
       let zm:=Wh.q70' (ct.2.2.2.2.1,(ct.2.2.2).1)
       let wX:=bif bif bif r_3.1.2 != yw then true else !zc.1 then true else !zm.1 then true else(↑(List.length ((ct.2.2.2.2.2).1)):Int) != 2
       bif iy [(!!bif r_3.1.2 != yw then true else !zc.1) || nQ (Wh.q70 (ct.2.2.2.2.1,(ct.2.2.2).1)),!!r_3.1.2 != yw || nQ (Wh.q98 (gd.1.1,(ct.2.2.2).1))] then
        bif wX then
         some (false,())
        else
         let AA:Int:=(↑(List.length ((ct.2.2.2.2.2).1)):Int)
         let x_54:Wh.Re:=((0,(),(ct.2.2.2.2.2).1,AA),ct)
         bif lF Wh.EI x_54 then
          sumC (kG Wh.EI Wh.Yz x_54) (fun y_55=>
           let v_57:=y_55.1
           some (v_57,())) (fun z_56=>
           let D8:=z_56.2
           let EU:Int:=(↑(List.length ((D8.2.2.2.2.2).2.1)):Int)
           let x_116:Wh.Rf:=((0,(),(D8.2.2.2.2.2).2.1,EU),D8)
           bif lF Wh.DF x_116 then
            sumC (kG Wh.DF Wh.YA x_116) (fun y_117=>
             let M3:=y_117.1
             some (M3,())) (fun _=>
             some (true,()))
           else none)
         else none
       else none
    else none
   else none
 else none
def Wh.q66':=en Wh.q66
theorem Wh.Ki:OV Wh.q66 Wh.q66':=eB _
def Wh.Iy (xs:(an.D)×(an.D)):Option (((Bool))×(Unit)):=
 let cx:=xs.1
 let b_1:=xs.2
 bif(cx.1 != b_1.1) then
  some (false,())
 else
  bif(!cx.2.1==b_1.2.1) then
   some (false,())
  else
   bif(cx.2.2.1 != b_1.2.2.1) then
    some (false,())
   else
    bif(!(cx.2.2.2).1==(b_1.2.2.2).1) then
     some (false,())
    else
     some (true,())
def Wh.Px:=en Wh.Iy
theorem Wh.Xs:OV Wh.Iy Wh.Px:=eB _
abbrev Wh.OL:Type:=((Int)×(List (an.D))×(List (an.D)))×(Unit)
abbrev Wh.acA:Type:=((((Bool))×(Unit))⊕((Unit)×(Unit)))
def Wh.GQ (x:Wh.OL):Option (Wh.OL⊕Wh.acA):=
 let nE:=x.1.1
 let zQ:=x.1.2.1
 let zP:=x.1.2.2
 let x5:Int:=(↑(List.length zP):Int)
 bif decide (nE<x5) then
  let ov:an.D:=List.getD zP (Int.toNat nE) (0,[],0,[],())
  let xO:an.D:=List.getD zQ (Int.toNat nE) (0,[],0,[],())
  let zm:=Wh.Px (ov,xO)
  bif iy [nQ (Wh.Iy (ov,xO)),decide (0≤nE),decide (nE<(↑(List.length zQ):Int)),decide (0≤nE),decide (nE<x5)] then
   bif !zm.1 then
    some (.inr (.inl (false,())))
   else
    some (.inl (((IntKind.wrap .i64 (nE+1)),zQ,zP),()))
  else none
 else
  some (.inr (.inr ((),())))
def Wh.WV:(((Bool))×(Unit))⊕((Unit)×(Unit)):=.inl default
def Wh.Ii (xs:(List (an.D))×(List (an.D))):Option (((Bool))×(Unit)):=
 let cx:=xs.1
 let b_1:=xs.2
 let v_2:Int:=(↑(List.length cx):Int)
 let nC:Int:=(↑(List.length b_1):Int)
 let yq:=v_2 != nC
 bif yq then
  some (false,())
 else
  let x_25:Wh.OL:=((0,b_1,cx),())
  bif lF Wh.GQ x_25 then
   sumC (kG Wh.GQ Wh.WV x_25) (fun Aa=>
    let nG:=Aa.1
    some (nG,())) (fun _=>
    some (true,()))
  else none
def Wh.OK:=en Wh.Ii
theorem Wh.WW:OV Wh.Ii Wh.OK:=eB _
def Wh.IN (xs:(fN.D)×(fN.D)):Option (((Bool))×(Unit)):=
 let cx:=xs.1
 let b_1:=xs.2
 bif(cx.1 != b_1.1) then
  some (false,())
 else
  let r_3:=Wh.OK (cx.2.1,b_1.2.1)
  bif iy [nQ (Wh.Ii (cx.2.1,b_1.2.1))] then
   bif !r_3.1 then
    some (false,())
   else
    some (true,())
  else none
def Wh.Qi:=en Wh.IN
theorem Wh.XS:OV Wh.IN Wh.Qi:=eB _
def Wh.q99 (xs:(e_.D)×(e_.D)):Option (((Bool))×(Unit)):=
 let cx:=xs.1
 let b_1:=xs.2
 bif(cx.1 != b_1.1) then
  some (false,())
 else
  bif(cx.2.1 != b_1.2.1) then
   some (false,())
  else
   bif(cx.2.2.1 != b_1.2.2.1) then
    some (false,())
   else
    let x6:Bool:=(cx.2.2.2).1 != (b_1.2.2.2).1
    bif x6 then
     some (false,())
    else
     bif(!cx.2.2.2.2.1==b_1.2.2.2.2.1) then
      some (false,())
     else
      some (true,())
def Wh.q99':=en Wh.q99
theorem Wh.q99_v:OV Wh.q99 Wh.q99':=eB _
abbrev Wh.Rq:Type:=((Int)×(List (e_.D))×(List (e_.D)))×(Unit)
abbrev Wh.adJ:Type:=((((Bool))×(Unit))⊕((Unit)×(Unit)))
def Wh.Ho (x:Wh.Rq):Option (Wh.Rq⊕Wh.adJ):=
 let nE:=x.1.1
 let zQ:=x.1.2.1
 let zP:=x.1.2.2
 let x5:Int:=(↑(List.length zP):Int)
 bif decide (nE<x5) then
  let ov:e_.D:=List.getD zP (Int.toNat nE) (0,0,0,0,false,())
  let xO:e_.D:=List.getD zQ (Int.toNat nE) (0,0,0,0,false,())
  let zm:=Wh.q99' (ov,xO)
  bif iy [nQ (Wh.q99 (ov,xO)),decide (0≤nE),decide (nE<(↑(List.length zQ):Int)),decide (0≤nE),decide (nE<x5)] then
   bif !zm.1 then
    some (.inr (.inl (false,())))
   else
    some (.inl (((IntKind.wrap .i64 (nE+1)),zQ,zP),()))
  else none
 else
  some (.inr (.inr ((),())))
def Wh.YK:(((Bool))×(Unit))⊕((Unit)×(Unit)):=.inl default
def Wh.q73 (xs:(List (e_.D))×(List (e_.D))):Option (((Bool))×(Unit)):=
 let cx:=xs.1
 let b_1:=xs.2
 let v_2:Int:=(↑(List.length cx):Int)
 let nC:Int:=(↑(List.length b_1):Int)
 let yq:=v_2 != nC
 bif yq then
  some (false,())
 else
  let x_25:Wh.Rq:=((0,b_1,cx),())
  bif lF Wh.Ho x_25 then
   sumC (kG Wh.Ho Wh.YK x_25) (fun Aa=>
    let nG:=Aa.1
    some (nG,())) (fun _=>
    some (true,()))
  else none
def Wh.q73':=en Wh.q73
theorem Wh.q73_v:OV Wh.q73 Wh.q73':=eB _
def Wh.Iz (xs:(lg.D)×(lg.D)):Option (((Bool))×(Unit)):=
 let cx:=xs.1
 let b_1:=xs.2
 let r_2:=Wh.q73' (cx.1,b_1.1)
 bif iy [nQ (Wh.q73 (cx.1,b_1.1))] then
  bif !r_2.1 then
   some (false,())
  else
   bif(cx.2.1 != b_1.2.1) then
    some (false,())
   else
    some (true,())
 else none
def Wh.Py:=en Wh.Iz
theorem Wh.Xt:OV Wh.Iz Wh.Py:=eB _
def Wh.q72 (xs:(eA.D)×(eA.D)):Option (((Bool))×(Unit)):=
 let cx:=xs.1
 let b_1:=xs.2
 bif(cx.1 != b_1.1) then
  some (false,())
 else
  bif(cx.2.1 != b_1.2.1) then
   some (false,())
  else
   bif(cx.2.2.1 != b_1.2.2.1) then
    some (false,())
   else
    let x6:Bool:=(cx.2.2.2).1 != (b_1.2.2.2).1
    bif x6 then
     some (false,())
    else
     some (true,())
def Wh.q72':=en Wh.q72
theorem Wh.q72_v:OV Wh.q72 Wh.q72':=eB _
abbrev Wh.Q4:Type:=((Int)×(List (eA.D))×(List (eA.D)))×(Unit)
abbrev Wh.adq:Type:=((((Bool))×(Unit))⊕((Unit)×(Unit)))
def Wh.Hi (x:Wh.Q4):Option (Wh.Q4⊕Wh.adq):=
 let nE:=x.1.1
 let zQ:=x.1.2.1
 let zP:=x.1.2.2
 let x5:Int:=(↑(List.length zP):Int)
 bif decide (nE<x5) then
  let ov:eA.D:=List.getD zP (Int.toNat nE) (0,0,0,0,())
  let xO:eA.D:=List.getD zQ (Int.toNat nE) (0,0,0,0,())
  let zm:=Wh.q72' (ov,xO)
  bif iy [nQ (Wh.q72 (ov,xO)),decide (0≤nE),decide (nE<(↑(List.length zQ):Int)),decide (0≤nE),decide (nE<x5)] then
   bif !zm.1 then
    some (.inr (.inl (false,())))
   else
    some (.inl (((IntKind.wrap .i64 (nE+1)),zQ,zP),()))
  else none
 else
  some (.inr (.inr ((),())))
def Wh.Yp:(((Bool))×(Unit))⊕((Unit)×(Unit)):=.inl default
def Wh.q51 (xs:(List (eA.D))×(List (eA.D))):Option (((Bool))×(Unit)):=
 let cx:=xs.1
 let b_1:=xs.2
 let v_2:Int:=(↑(List.length cx):Int)
 let nC:Int:=(↑(List.length b_1):Int)
 let yq:=v_2 != nC
 bif yq then
  some (false,())
 else
  let x_25:Wh.Q4:=((0,b_1,cx),())
  bif lF Wh.Hi x_25 then
   sumC (kG Wh.Hi Wh.Yp x_25) (fun Aa=>
    let nG:=Aa.1
    some (nG,())) (fun _=>
    some (true,()))
  else none
def Wh.q51':=en Wh.q51
theorem Wh.q51_v:OV Wh.q51 Wh.q51':=eB _
def Wh.Ij (xs:(cr.D)×(cr.D)):Option (((Bool))×(Unit)):=
 let cx:=xs.1
 let b_1:=xs.2
 bif(cx.1 != b_1.1) then
  some (false,())
 else
  bif(cx.2.1 != b_1.2.1) then
   some (false,())
  else
   bif(cx.2.2.1 != b_1.2.2.1) then
    some (false,())
   else
    let x6:Bool:=(cx.2.2.2).1 != (b_1.2.2.2).1
    bif x6 then
     some (false,())
    else
     bif(cx.2.2.2.2.1 != b_1.2.2.2.2.1) then
      some (false,())
     else
      let yz:Bool:=(cx.2.2.2.2.2).1 != (b_1.2.2.2.2.2).1
      bif yz then
       some (false,())
      else
       some (true,())
def Wh.OM:=en Wh.Ij
theorem Wh.WX:OV Wh.Ij Wh.OM:=eB _
abbrev Wh.Rr:Type:=((Int)×(List (cr.D))×(List (cr.D)))×(Unit)
abbrev Wh.adK:Type:=((((Bool))×(Unit))⊕((Unit)×(Unit)))
def Wh.Hp (x:Wh.Rr):Option (Wh.Rr⊕Wh.adK):=
 let nE:=x.1.1
 let zQ:=x.1.2.1
 let zP:=x.1.2.2
 let x5:Int:=(↑(List.length zP):Int)
 bif decide (nE<x5) then
  let ov:cr.D:=List.getD zP (Int.toNat nE) (0,0,0,0,0,0,())
  let xO:cr.D:=List.getD zQ (Int.toNat nE) (0,0,0,0,0,0,())
  let zm:=Wh.OM (ov,xO)
  bif iy [nQ (Wh.Ij (ov,xO)),decide (0≤nE),decide (nE<(↑(List.length zQ):Int)),decide (0≤nE),decide (nE<x5)] then
   bif !zm.1 then
    some (.inr (.inl (false,())))
   else
    some (.inl (((IntKind.wrap .i64 (nE+1)),zQ,zP),()))
  else none
 else
  some (.inr (.inr ((),())))
def Wh.YL:(((Bool))×(Unit))⊕((Unit)×(Unit)):=.inl default
def Wh.q74 (xs:(List (cr.D))×(List (cr.D))):Option (((Bool))×(Unit)):=
 let cx:=xs.1
 let b_1:=xs.2
 let v_2:Int:=(↑(List.length cx):Int)
 let nC:Int:=(↑(List.length b_1):Int)
 let yq:=v_2 != nC
 bif yq then
  some (false,())
 else
  let x_25:Wh.Rr:=((0,b_1,cx),())
  bif lF Wh.Hp x_25 then
   sumC (kG Wh.Hp Wh.YL x_25) (fun Aa=>
    let nG:=Aa.1
    some (nG,())) (fun _=>
    some (true,()))
  else none
def Wh.q74':=en Wh.q74
theorem Wh.q74_v:OV Wh.q74 Wh.q74':=eB _
def Wh.DG (xs:(fk.D)×(fk.D)):Option (((Bool))×(Unit)):=
 let cx:=xs.1
 let b_1:=xs.2
 bif(!cx.1==b_1.1) then
  some (false,())
 else
  bif(cx.2.1 != b_1.2.1) then
   some (false,())
  else
   bif(!cx.2.2.1==b_1.2.2.1) then
    some (false,())
   else
    let xP:=Wh.Qi ((cx.2.2.2).1,(b_1.2.2.2).1)
    bif iy [nQ (Wh.IN ((cx.2.2.2).1,(b_1.2.2.2).1))] then
     bif !xP.1 then
      some (false,())
     else
      let xe:=Wh.Py (cx.2.2.2.2.1,b_1.2.2.2.2.1)
      bif iy [nQ (Wh.Iz (cx.2.2.2.2.1,b_1.2.2.2.2.1))] then
       bif !xe.1 then
        some (false,())
       else
        let x9:=Wh.q51' ((cx.2.2.2.2.2).1,(b_1.2.2.2.2.2).1)
        bif iy [nQ (Wh.q51 ((cx.2.2.2.2.2).1,(b_1.2.2.2.2.2).1))] then
         bif !x9.1 then
          some (false,())
         else
          let r5:=Wh.q74' ((cx.2.2.2.2.2).2.1,(b_1.2.2.2.2.2).2.1)
          bif iy [nQ (Wh.q74 ((cx.2.2.2.2.2).2.1,(b_1.2.2.2.2.2).2.1))] then
           bif !r5.1 then
            some (false,())
           else
            some (true,())
          else none
        else none
      else none
    else none
def Wh.MB:=en Wh.DG
theorem Wh.Rs:OV Wh.DG Wh.MB:=eB _
def Wh.Iq (xs:(lg.D)):Option ((((List (e_.D))×((Int)×(Unit))))×(Unit)):=
 let mb:lg.D:=xs
 let zV:List (e_.D):=[]++mb.1
 bif iy [decide ((0:Nat)+List.length mb.1≤dh)] then
  some ((zV,mb.2),())
 else none
def Wh.OZ:=en Wh.Iq
theorem Wh.Xa:OV Wh.Iq Wh.OZ:=eB _
def Wh.Ir (xs:(fk.D)):Option ((((Bool)×((Int)×((List UInt8)×(((Int)×((List (an.D))×(Unit)))×(((List (e_.D))×((Int)×(Unit)))×((List (eA.D))×((List (cr.D))×(Unit)))))))))×(Unit)):=
 let ct:fk.D:=xs
 let r_1:=Wh.G4 ((ct.2.2.2).1)
 bif iy [nQ (Wh.DB ((ct.2.2.2).1))] then
  let r_2:=Wh.OZ (ct.2.2.2.2.1)
  bif iy [nQ (Wh.Iq (ct.2.2.2.2.1))] then
   let Ec:List (eA.D):=[]++(ct.2.2.2.2.2).1
   bif iy [decide ((0:Nat)+List.length ((ct.2.2.2.2.2).1)≤dh)] then
    let JW:List (cr.D):=[]++(ct.2.2.2.2.2).2.1
    bif iy [decide ((0:Nat)+List.length ((ct.2.2.2.2.2).2.1)≤dh)] then
     some ((ct.1,ct.2.1,ct.2.2.1,r_1.1,r_2.1,Ec,JW,(ct.2.2.2.2.2).2.2),())
    else none
   else none
  else none
 else none
def Wh.O0:=en Wh.Ir
theorem Wh.L1:OV Wh.Ir Wh.O0:=eB _
def Wh.q49 (xs:(lg.D)):Option ((((List (e_.D))×((Int)×(Unit))))×(Unit)):=
 let mb:lg.D:=xs
 let zV:List (e_.D):=[]++mb.1
 bif iy [decide ((0:Nat)+List.length mb.1≤dh)] then
  some ((zV,mb.2.1,()),())
 else none
def Wh.q49':=en Wh.q49
theorem Wh.q49_v:OV Wh.q49 Wh.q49':=eB _
def Wh.q26 (xs:(fk.D)):Option ((((Bool)×((Int)×((List UInt8)×(((Int)×((List (an.D))×(Unit)))×(((List (e_.D))×((Int)×(Unit)))×((List (eA.D))×((List (cr.D))×(Unit)))))))))×(Unit)):=
 let ct:fk.D:=xs
 let r_1:=Wh.IZ ((ct.2.2.2).1)
 bif iy [nQ (Wh.EJ ((ct.2.2.2).1))] then
  let r_2:=Wh.q49' (ct.2.2.2.2.1)
  bif iy [nQ (Wh.q49 (ct.2.2.2.2.1))] then
   let Ec:List (eA.D):=[]++(ct.2.2.2.2.2).1
   bif iy [decide ((0:Nat)+List.length ((ct.2.2.2.2.2).1)≤dh)] then
    let JW:List (cr.D):=[]++(ct.2.2.2.2.2).2.1
    bif iy [decide ((0:Nat)+List.length ((ct.2.2.2.2.2).2.1)≤dh)] then
     some ((ct.1,ct.2.1,ct.2.2.1,r_1.1,r_2.1,Ec,JW,(ct.2.2.2.2.2).2.2),())
    else none
   else none
  else none
 else none
def Wh.q26':=en Wh.q26
theorem Wh.Ey:OV Wh.q26 Wh.q26':=eB _
abbrev Wh.Rt:Type:=((Int)×(List UInt8))×(Unit)
abbrev Wh.adL:Type:=((((List UInt8))×(Unit)))
def Wh.FX (x:Wh.Rt):Option (Wh.Rt⊕Wh.adL):=
 let k_12:=x.1.1
 let Oy:=x.1.2
 bif decide (k_12>0) then
  let pb_15:List Int:=[IntKind.wrap .u8 (IntKind.wrap .i64 (48+Int.tmod k_12 10))]
  let out_20:List UInt8:=qp pb_15++Oy
  bif iy [decide ((1:Nat)+List.length Oy≤dh),true] then
   some (.inl (((IntKind.wrap .i64 (Int.tdiv k_12 10)),out_20),()))
  else none
 else
  some (.inr (Oy,()))
def Wh.YM:(((List UInt8))×(Unit)):=default
def Wh.A8 (xs:(Int)):Option (((List UInt8))×(Unit)):=
 let k_0:=xs
 bif decide (k_0≤0) then
  some ([(109:UInt8),(48:UInt8)],())
 else
  let x_22:Wh.Rt:=((k_0,[]),())
  bif lF Wh.FX x_22 then
   let y_23:=kG Wh.FX Wh.YM x_22
   let WJ:=y_23.1
   let Bz:List UInt8:=[(109:UInt8)]++WJ
   bif iy [decide ((1:Nat)+List.length WJ≤dh)] then
    some (Bz,())
   else none
  else none
def Wh.CU:=en Wh.A8
theorem Wh.DH:OV Wh.A8 Wh.CU:=eB _
abbrev Wh.Q7:Type:=((Int)×(Unit)×(Int))×((List (an.D)))
abbrev Wh.adt:Type:=((((Int))×((List (an.D)))))
def Wh.FN (x:Wh.Q7):Option (Wh.Q7⊕Wh.adt):=
 let y3:=x.1.1
 let GC:=x.1.2.2
 let BM:=x.2
 let xO:Int:=(↑(List.length BM):Int)
 bif decide (y3<xO) then
  let Cg:List (an.D):=List.set BM (Int.toNat y3) (GC,Prod.snd (List.getD BM (Int.toNat y3) (0,[],0,[],())))
  bif iy [decide (0≤y3),decide (y3<xO)] then
   let vN:=IntKind.wrap .i64 (GC+1)
   let A9:=Wh.CU vN
   let Dp:List (an.D):=List.set Cg (Int.toNat y3) (Prod.fst (List.getD Cg (Int.toNat y3) (0,[],0,[],())),A9.1,Prod.snd (Prod.snd (List.getD Cg (Int.toNat y3) (0,[],0,[],()))))
   bif iy [decide (0≤y3),decide (y3<(↑(List.length Cg):Int)),nQ (Wh.A8 vN)] then
    let AA:=IntKind.wrap .i64 (vN+1)
    let Ie:List (an.D):=List.set Dp (Int.toNat y3) (Prod.fst (List.getD Dp (Int.toNat y3) (0,[],0,[],())),Prod.fst (Prod.snd (List.getD Dp (Int.toNat y3) (0,[],0,[],()))),AA,Prod.snd (Prod.snd (Prod.snd (List.getD Dp (Int.toNat y3) (0,[],0,[],())))))
    bif iy [decide (0≤y3),decide (y3<(↑(List.length Dp):Int))] then
     let zf:=IntKind.wrap .i64 (AA+1)
     let r_30:=Wh.CU zf
     let tn:List (an.D):=List.set Ie (Int.toNat y3) (Prod.fst (List.getD Ie (Int.toNat y3) (0,[],0,[],())),Prod.fst (Prod.snd (List.getD Ie (Int.toNat y3) (0,[],0,[],()))),Prod.fst (Prod.snd (Prod.snd (List.getD Ie (Int.toNat y3) (0,[],0,[],())))),r_30.1,Prod.snd (Prod.snd (Prod.snd (Prod.snd (List.getD Ie (Int.toNat y3) (0,[],0,[],()))))))
     bif iy [decide (0≤y3),decide (y3<(↑(List.length Ie):Int)),nQ (Wh.A8 zf)] then
      some (.inl (((IntKind.wrap .i64 (y3+1)),(),(IntKind.wrap .i64 (zf+1))),tn))
     else none
    else none
   else none
  else none
 else
  some (.inr (GC,BM))
def Wh.Yt:(((Int))×((List (an.D)))):=default
def Wh.q54 (xs:(List (an.D))×(Int)):Option (((Int))×((List (an.D))×Unit)):=
 let cx:=xs.1
 let k_1:=xs.2
 let x_34:Wh.Q7:=((0,(),k_1),cx)
 bif lF Wh.FN x_34 then
  let y_35:=kG Wh.FN Wh.Yt x_34
  let k_36:=y_35.1
  let Ch:=y_35.2
  some (k_36,Ch,())
 else none
def Wh.q54':=en Wh.q54
theorem Wh.q54_v:OV Wh.q54 Wh.q54':=eB _
def Wh.Il (xs:(fN.D)×(Int)):Option (((Int))×((fN.D)×Unit)):=
 let cx:=xs.1
 let k_1:=xs.2
 let r_2:=Wh.q54' (cx.2.1,k_1)
 bif iy [nQ (Wh.q54 (cx.2.1,k_1))] then
  some (r_2.1,(cx.1,r_2.2.1,cx.2.2),())
 else none
def Wh.OQ:=en Wh.Il
theorem Wh.W3:OV Wh.Il Wh.OQ:=eB _
end
