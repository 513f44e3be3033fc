import Derived.Test.YtfeoanopdlpabaaGreatDoorX6
open Go Go.Ab
noncomputable section
def bx {α β:Type}[Inhabited β](f:α→Option β)(x:α):β:=match f x with | some y=>y|none=>default
abbrev OV {α β:Type}(f:α→Option β)(g:α→β):Prop:=∀x y,f x=some y→g x=y
theorem e_ {α β:Type}[Inhabited β](f:α→Option β):OV f (bx f):=fun x y h=>by unfold bx;rw[h]
abbrev Wq:Ty:=(.pair (.int .i64) (.pair (.int .i64) (.pair .bool (.pair (.int .u8) .unit))))
abbrev Wq.D:Type:=(Int)×((Int)×((Bool)×((Int)×(Unit))))
abbrev Wr:Ty:=(.pair .str (.pair (.int .u64) .unit))
abbrev Wr.D:Type:=(List UInt8)×((Int)×(Unit))
abbrev fk:Ty:=(.pair (.int .i64) (.pair (.lst (.pair (.int .i64) (.pair .str (.pair (.int .i64) (.pair .str .unit))))) .unit))
abbrev fk.D:Type:=(Int)×((List ((Int)×((List UInt8)×((Int)×((List UInt8)×(Unit))))))×(Unit))
abbrev n5:Ty:=(.pair (.lst (.pair (.int .i64) (.pair (.int .i64) (.pair (.int .i64) (.pair (.int .i64) (.pair .bool .unit)))))) (.pair (.int .i64) .unit))
abbrev n5.D:Type:=(List ((Int)×((Int)×((Int)×((Int)×((Bool)×(Unit)))))))×((Int)×(Unit))
abbrev nC:Ty:=(.pair .bool (.pair (.int .i64) (.pair .str (.pair fk (.pair n5 (.pair (.lst (.pair (.int .i64) (.pair (.int .i64) (.pair (.int .i64) (.pair (.int .i64) .unit))))) (.pair (.lst (.pair (.int .i64) (.pair (.int .i64) (.pair (.int .i64) (.pair (.int .i64) (.pair (.int .i64) (.pair (.int .i64) .unit))))))) .unit)))))))
abbrev nC.D:Type:=(Bool)×((Int)×((List UInt8)×((fk.D)×((n5.D)×((List ((Int)×((Int)×((Int)×((Int)×(Unit))))))×((List ((Int)×((Int)×((Int)×((Int)×((Int)×((Int)×(Unit))))))))×(Unit)))))))
abbrev so:Ty:=(.pair (.int .i64) (.pair (.int .i64) (.pair (.lst (.int .i64)) (.pair (.lst (.int .i64)) .unit))))
abbrev so.D:Type:=(Int)×((Int)×((List (Int))×((List (Int))×(Unit))))
abbrev fT:Ty:=(.pair (.int .i64) (.pair (.int .i64) (.pair (.lst (.pair (.lst (.int .i64)) (.pair .str .unit))) .unit)))
abbrev fT.D:Type:=(Int)×((Int)×((List ((List (Int))×((List UInt8)×(Unit))))×(Unit)))
abbrev th:Ty:=(.pair so (.pair fT .unit))
abbrev th.D:Type:=(so.D)×((fT.D)×(Unit))
abbrev nc:Ty:=(.pair (.int .i64) (.pair (.int .i64) (.pair (.int .i64) (.pair .str (.pair (.int .i64) (.pair th .unit))))))
abbrev nc.D:Type:=(Int)×((Int)×((Int)×((List UInt8)×((Int)×((th.D)×(Unit))))))
abbrev KR:Ty:=(.pair (.int .i64) (.pair (.int .i64) (.pair (.int .i64) (.pair (.int .i64) (.pair (.int .i64) (.pair .str (.pair .str .unit)))))))
abbrev KR.D:Type:=(Int)×((Int)×((Int)×((Int)×((Int)×((List UInt8)×((List UInt8)×(Unit)))))))
abbrev gv:Ty:=(.pair nC (.pair (.lst nc) (.pair (.lst (.pair (.int .i64) (.pair .str (.pair .bool .unit)))) (.pair (.lst (.pair (.int .i64) (.pair .str (.pair (.int .i64) (.pair .str .unit))))) .unit))))
abbrev gv.D:Type:=(nC.D)×((List (nc.D))×((List ((Int)×((List UInt8)×((Bool)×(Unit)))))×((List ((Int)×((List UInt8)×((Int)×((List UInt8)×(Unit))))))×(Unit))))
abbrev an:Ty:=(.pair (.int .i64) (.pair .str (.pair (.int .i64) (.pair .str .unit))))
abbrev an.D:Type:=(Int)×((List UInt8)×((Int)×((List UInt8)×(Unit))))
abbrev ng:Ty:=(.pair (.int .i64) (.pair (.int .i64) (.pair (.int .i64) (.pair (.int .i64) (.pair .bool .unit)))))
abbrev ng.D:Type:=(Int)×((Int)×((Int)×((Int)×((Bool)×(Unit)))))
abbrev nI:Ty:=(.pair (.int .i64) (.pair (.int .i64) (.pair (.int .i64) (.pair (.int .i64) .unit))))
abbrev nI.D:Type:=(Int)×((Int)×((Int)×((Int)×(Unit))))
abbrev r_:Ty:=(.pair (.int .i64) (.pair (.int .i64) nI))
abbrev r_.D:Type:=(Int)×((Int)×(nI.D))
abbrev r5:Ty:=(.pair (.int .i64) (.pair .str (.pair .bool .unit)))
abbrev r5.D:Type:=(Int)×((List UInt8)×((Bool)×(Unit)))
abbrev PB:Ty:=(.pair (.int .i64) (.pair (.int .i64) (.pair (.int .i64) .unit)))
abbrev PB.D:Type:=(Int)×((Int)×((Int)×(Unit)))
abbrev n4:Ty:=(.pair (.lst (.int .i64)) (.pair .str .unit))
abbrev n4.D:Type:=(List (Int))×((List UInt8)×(Unit))
abbrev Ey:Ty:=(.pair .str .unit)
abbrev Ey.D:Type:=(List UInt8)×(Unit)
abbrev Wt:Ty:=(.pair (.int .u8) (.pair (.int .u8) .unit))
abbrev Wt.D:Type:=(Int)×((Int)×(Unit))
def Wh.GS (xs:(an.D)×(Int)):Option (((Int))×(Unit)):=
 let bn:=xs.1
 let left_1:=xs.2
 let v_2:Int:=(↑(List.length bn.2.1):Int)
 let yj:=IntKind.wrap .i64 (left_1-v_2)
 bif decide (yj<0) then
  some (-1,())
 else
  let zZ:Int:=(↑(List.length ((bn.2.2.2).1)):Int)
  let YN:=IntKind.wrap .i64 (yj-zZ)
  bif decide (YN<0) then
   some (-1,())
  else
   some (YN,())
def Wh.TS:=bx Wh.GS
theorem Wh.TT:OV Wh.GS Wh.TS:=e_ _
abbrev Wh.Wb:Type:=((Int)×(Int)×(List (an.D)))×(Unit)
abbrev Wh.ai5:Type:=((((Int))×(Unit))⊕(((Int))×(Unit)))
def Wh.FU (x:Wh.Wb):Option (Wh.Wb⊕Wh.ai5):=
 let xN:=x.1.1
 let AL:=x.1.2.1
 let AG:=x.1.2.2
 let nG:Int:=(↑(List.length AG):Int)
 bif decide (xN<nG) then
  let wX:an.D:=List.getD AG (Int.toNat xN) (0,[],0,[],())
  let x9:=Wh.TS (wX,AL)
  bif iy [nQ (Wh.GS (wX,AL)),decide (0≤xN),decide (xN<nG)] then
   bif decide (x9.1<0) then
    some (.inr (.inl (-1,())))
   else
    some (.inl (((IntKind.wrap .i64 (xN+1)),x9.1,AG),()))
  else none
 else
  some (.inr (.inr (AL,())))
def Wh.Wc:(((Int))×(Unit))⊕(((Int))×(Unit)):=.inl default
def Wh.q99 (xs:(List (an.D))×(Int)):Option (((Int))×(Unit)):=
 let bn:=xs.1
 let left_1:=xs.2
 let v_2:Int:=(↑(List.length bn):Int)
 let yj:=IntKind.wrap .i64 (left_1-v_2)
 bif decide (yj<0) then
  some (-1,())
 else
  let Aq:Wh.Wb:=((0,yj,bn),())
  bif lF Wh.FU Aq then
   sumC (kG Wh.FU Wh.Wc Aq) (fun BD=>
    let y4:=BD.1
    some (y4,())) (fun EI=>
    let Gt:=EI.1
    some (Gt,()))
  else none
def Wh.Pj:=bx Wh.q99
theorem Wh.We:OV Wh.q99 Wh.Pj:=e_ _
def Wh.G7 (xs:(fk.D)×(Int)):Option (((Int))×(Unit)):=
 let bn:=xs.1
 let left_1:=xs.2
 let r_2:=Wh.Pj (bn.2.1,left_1)
 bif iy [nQ (Wh.q99 (bn.2.1,left_1))] then
  bif decide (r_2.1<0) then
   some (-1,())
  else
   some (r_2.1,())
 else none
def Wh.Uy:=bx Wh.G7
theorem Wh.abj:OV Wh.G7 Wh.Uy:=e_ _
def Wh.q64 (xs:(List (ng.D))×(Int)):Option (((Int))×(Unit)):=
 let bn:=xs.1
 let left_1:=xs.2
 let v_2:Int:=(↑(List.length bn):Int)
 let yj:=IntKind.wrap .i64 (left_1-v_2)
 bif decide (yj<0) then
  some (-1,())
 else
  some (yj,())
def Wh.q64':=bx Wh.q64
theorem Wh.q64_v:OV Wh.q64 Wh.q64':=e_ _
def Wh.GV (xs:(n5.D)×(Int)):Option (((Int))×(Unit)):=
 let bn:=xs.1
 let left_1:=xs.2
 let r_2:=Wh.q64' (bn.1,left_1)
 bif iy [nQ (Wh.q64 (bn.1,left_1))] then
  bif decide (r_2.1<0) then
   some (-1,())
  else
   some (r_2.1,())
 else none
def Wh.TW:=bx Wh.GV
theorem Wh.aaT:OV Wh.GV Wh.TW:=e_ _
def Wh.q33 (xs:(List (nI.D))×(Int)):Option (((Int))×(Unit)):=
 let bn:=xs.1
 let left_1:=xs.2
 let v_2:Int:=(↑(List.length bn):Int)
 let yj:=IntKind.wrap .i64 (left_1-v_2)
 bif decide (yj<0) then
  some (-1,())
 else
  some (yj,())
def Wh.q33':=bx Wh.q33
theorem Wh.q33_v:OV Wh.q33 Wh.q33':=e_ _
def Wh.q66 (xs:(List (r_.D))×(Int)):Option (((Int))×(Unit)):=
 let bn:=xs.1
 let left_1:=xs.2
 let v_2:Int:=(↑(List.length bn):Int)
 let yj:=IntKind.wrap .i64 (left_1-v_2)
 bif decide (yj<0) then
  some (-1,())
 else
  some (yj,())
def Wh.q66':=bx Wh.q66
theorem Wh.q66_v:OV Wh.q66 Wh.q66':=e_ _
def Wh.q67 (xs:(nC.D)×(Int)):Option (((Int))×(Unit)):=
 let bn:=xs.1
 let left_1:=xs.2
 let v_2:Int:=(↑(List.length (bn.2.2.1)):Int)
 let yj:=IntKind.wrap .i64 (left_1-v_2)
 bif decide (yj<0) then
  some (-1,())
 else
  let yG:=Wh.Uy ((bn.2.2.2).1,yj)
  bif iy [nQ (Wh.G7 ((bn.2.2.2).1,yj))] then
   bif decide (yG.1<0) then
    some (-1,())
   else
    let yJ:=Wh.TW (bn.2.2.2.2.1,yG.1)
    bif iy [nQ (Wh.GV (bn.2.2.2.2.1,yG.1))] then
     bif decide (yJ.1<0) then
      some (-1,())
     else
      let BW:=Wh.q33' ((bn.2.2.2.2.2).1,yJ.1)
      bif iy [nQ (Wh.q33 ((bn.2.2.2.2.2).1,yJ.1))] then
       bif decide (BW.1<0) then
        some (-1,())
       else
        let zY:=Wh.q66' ((bn.2.2.2.2.2).2.1,BW.1)
        bif iy [nQ (Wh.q66 ((bn.2.2.2.2.2).2.1,BW.1))] then
         bif decide (zY.1<0) then
          some (-1,())
         else
          some (zY.1,())
        else none
      else none
    else none
  else none
def Wh.q67':=bx Wh.q67
theorem Wh.q67_v:OV Wh.q67 Wh.q67':=e_ _
def Wh.IF (xs:(an.D)):Option (((an.D))×(Unit)):=
 let bn:an.D:=xs
 some ((bn.1,bn.2.1,bn.2.2.1,(bn.2.2.2).1,()),())
def Wh.TY:=bx Wh.IF
theorem Wh.aaV:OV Wh.IF Wh.TY:=e_ _
abbrev Wh.Ti:Type:=((Int)×(List (an.D))×(Unit))×((List (an.D)))
abbrev Wh.ahs:Type:=((((Unit))×((List (an.D)))))
def Wh.E6 (x:Wh.Ti):Option (Wh.Ti⊕Wh.ahs):=
 let nS:=x.1.1
 let x4:=x.1.2.1
 let xV:=x.2
 let xO:Int:=(↑(List.length x4):Int)
 bif decide (nS<xO) then
  let Ak:=Wh.TY (List.getD x4 (Int.toNat nS) (0,[],0,[],()))
  let xb:List (an.D):=List.set xV (Int.toNat nS) Ak.1
  let nG:an.D:=List.getD x4 (Int.toNat nS) (0,[],0,[],())
  bif iy [decide (0≤nS),decide (nS<(↑(List.length xV):Int)),nQ (Wh.IF nG),decide (0≤nS),decide (nS<xO)] then
   some (.inl (((IntKind.wrap .i64 (nS+1)),x4,()),xb))
  else none
 else
  some (.inr ((),xV))
def Wh.aap:(((Unit))×((List (an.D)))):=default
def Wh.E5 (xs:(List (an.D))):Option (((List (an.D)))×(Unit)):=
 let bn:List (an.D):=xs
 let zf:List (an.D):=@List.replicate (Int×List UInt8×Int×List UInt8×Unit) (Int.toNat (↑(List.length bn):Int)) (0,[],0,[],())
 let v_2:Int:=(↑(List.length bn):Int)
 bif iy [decide (0≤v_2),decide (v_2≤v_2),decide (v_2≤(↑dh:Int))] then
  let x_21:Wh.Ti:=((0,bn,()),zf)
  bif lF Wh.E6 x_21 then
   let AU:=kG Wh.E6 Wh.aap x_21
   let zo:=AU.2
   some (zo,())
  else none
 else none
def Wh.Ow:=bx Wh.E5
theorem Wh.Tj:OV Wh.E5 Wh.Ow:=e_ _
def Wh.G_ (xs:(fk.D)):Option ((((Int)×((List (an.D))×(Unit))))×(Unit)):=
 let bn:fk.D:=xs
 let r_1:=Wh.Ow bn.2.1
 bif iy [nQ (Wh.E5 bn.2.1)] then
  some ((bn.1,r_1.1,()),())
 else none
def Wh.UD:=bx Wh.G_
theorem Wh.abl:OV Wh.G_ Wh.UD:=e_ _
def Wh.ID (xs:(ng.D)):Option (((ng.D))×(Unit)):=
 let bn:ng.D:=xs
 some ((bn.1,bn.2.1,bn.2.2.1,(bn.2.2.2).1,bn.2.2.2.2.1,()),())
def Wh.Th:=bx Wh.ID
theorem Wh.aao:OV Wh.ID Wh.Th:=e_ _
abbrev Wh.VL:Type:=((Int)×(List (ng.D))×(Unit))×((List (ng.D)))
abbrev Wh.aiJ:Type:=((((Unit))×((List (ng.D)))))
def Wh.FJ (x:Wh.VL):Option (Wh.VL⊕Wh.aiJ):=
 let nS:=x.1.1
 let x4:=x.1.2.1
 let xV:=x.2
 let xO:Int:=(↑(List.length x4):Int)
 bif decide (nS<xO) then
  let Ak:=Wh.Th (List.getD x4 (Int.toNat nS) (0,0,0,0,false,()))
  let xb:List (ng.D):=List.set xV (Int.toNat nS) Ak.1
  let nG:ng.D:=List.getD x4 (Int.toNat nS) (0,0,0,0,false,())
  bif iy [decide (0≤nS),decide (nS<(↑(List.length xV):Int)),nQ (Wh.ID nG),decide (0≤nS),decide (nS<xO)] then
   some (.inl (((IntKind.wrap .i64 (nS+1)),x4,()),xb))
  else none
 else
  some (.inr ((),xV))
def Wh.acg:(((Unit))×((List (ng.D)))):=default
def Wh.q71 (xs:(List (ng.D))):Option (((List (ng.D)))×(Unit)):=
 let bn:List (ng.D):=xs
 let zf:List (ng.D):=@List.replicate (Int×Int×Int×Int×Bool×Unit) (Int.toNat (↑(List.length bn):Int)) (0,0,0,0,false,())
 let v_2:Int:=(↑(List.length bn):Int)
 bif iy [decide (0≤v_2),decide (v_2≤v_2),decide (v_2≤(↑dh:Int))] then
  let x_21:Wh.VL:=((0,bn,()),zf)
  bif lF Wh.FJ x_21 then
   let AU:=kG Wh.FJ Wh.acg x_21
   let zo:=AU.2
   some (zo,())
  else none
 else none
def Wh.q71':=bx Wh.q71
theorem Wh.q71_v:OV Wh.q71 Wh.q71':=e_ _
def Wh.GX (xs:(n5.D)):Option ((((List (ng.D))×((Int)×(Unit))))×(Unit)):=
 let bn:n5.D:=xs
 let r_1:=Wh.q71' bn.1
 bif iy [nQ (Wh.q71 bn.1)] then
  some ((r_1.1,bn.2.1,()),())
 else none
def Wh.T0:=bx Wh.GX
theorem Wh.aaX:OV Wh.GX Wh.T0:=e_ _
def Wh.q69 (xs:(nI.D)):Option (((nI.D))×(Unit)):=
 let bn:nI.D:=xs
 some ((bn.1,bn.2.1,bn.2.2.1,(bn.2.2.2).1,()),())
def Wh.q69':=bx Wh.q69
theorem Wh.q69_v:OV Wh.q69 Wh.q69':=e_ _
abbrev Wh.Vl:Type:=((Int)×(List (nI.D))×(Unit))×((List (nI.D)))
abbrev Wh.aip:Type:=((((Unit))×((List (nI.D)))))
def Wh.FB (x:Wh.Vl):Option (Wh.Vl⊕Wh.aip):=
 let nS:=x.1.1
 let x4:=x.1.2.1
 let xV:=x.2
 let xO:Int:=(↑(List.length x4):Int)
 bif decide (nS<xO) then
  let Ak:=Wh.q69' (List.getD x4 (Int.toNat nS) (0,0,0,0,()))
  let xb:List (nI.D):=List.set xV (Int.toNat nS) Ak.1
  let nG:nI.D:=List.getD x4 (Int.toNat nS) (0,0,0,0,())
  bif iy [decide (0≤nS),decide (nS<(↑(List.length xV):Int)),nQ (Wh.q69 nG),decide (0≤nS),decide (nS<xO)] then
   some (.inl (((IntKind.wrap .i64 (nS+1)),x4,()),xb))
  else none
 else
  some (.inr ((),xV))
def Wh.abT:(((Unit))×((List (nI.D)))):=default
def Wh.q37 (xs:(List (nI.D))):Option (((List (nI.D)))×(Unit)):=
 let bn:List (nI.D):=xs
 let zf:List (nI.D):=@List.replicate (Int×Int×Int×Int×Unit) (Int.toNat (↑(List.length bn):Int)) (0,0,0,0,())
 let v_2:Int:=(↑(List.length bn):Int)
 bif iy [decide (0≤v_2),decide (v_2≤v_2),decide (v_2≤(↑dh:Int))] then
  let x_21:Wh.Vl:=((0,bn,()),zf)
  bif lF Wh.FB x_21 then
   let AU:=kG Wh.FB Wh.abT x_21
   let zo:=AU.2
   some (zo,())
  else none
 else none
def Wh.q37':=bx Wh.q37
theorem Wh.q37_v:OV Wh.q37 Wh.q37':=e_ _
def Wh.IE (xs:(r_.D)):Option (((r_.D))×(Unit)):=
 let bn:r_.D:=xs
 some ((bn.1,bn.2.1,bn.2.2.1,(bn.2.2.2).1,bn.2.2.2.2.1,(bn.2.2.2.2.2).1,()),())
def Wh.Tk:=bx Wh.IE
theorem Wh.aaq:OV Wh.IE Wh.Tk:=e_ _
abbrev Wh.VM:Type:=((Int)×(List (r_.D))×(Unit))×((List (r_.D)))
abbrev Wh.aiK:Type:=((((Unit))×((List (r_.D)))))
def Wh.FL (x:Wh.VM):Option (Wh.VM⊕Wh.aiK):=
 let nS:=x.1.1
 let x4:=x.1.2.1
 let xV:=x.2
 let xO:Int:=(↑(List.length x4):Int)
 bif decide (nS<xO) then
  let Ak:=Wh.Tk (List.getD x4 (Int.toNat nS) (0,0,0,0,0,0,()))
  let xb:List (r_.D):=List.set xV (Int.toNat nS) Ak.1
  let nG:r_.D:=List.getD x4 (Int.toNat nS) (0,0,0,0,0,0,())
  bif iy [decide (0≤nS),decide (nS<(↑(List.length xV):Int)),nQ (Wh.IE nG),decide (0≤nS),decide (nS<xO)] then
   some (.inl (((IntKind.wrap .i64 (nS+1)),x4,()),xb))
  else none
 else
  some (.inr ((),xV))
def Wh.ach:(((Unit))×((List (r_.D)))):=default
def Wh.q73 (xs:(List (r_.D))):Option (((List (r_.D)))×(Unit)):=
 let bn:List (r_.D):=xs
 let zf:List (r_.D):=@List.replicate (Int×Int×Int×Int×Int×Int×Unit) (Int.toNat (↑(List.length bn):Int)) (0,0,0,0,0,0,())
 let v_2:Int:=(↑(List.length bn):Int)
 bif iy [decide (0≤v_2),decide (v_2≤v_2),decide (v_2≤(↑dh:Int))] then
  let x_21:Wh.VM:=((0,bn,()),zf)
  bif lF Wh.FL x_21 then
   let AU:=kG Wh.FL Wh.ach x_21
   let zo:=AU.2
   some (zo,())
  else none
 else none
def Wh.q73':=bx Wh.q73
theorem Wh.q73_v:OV Wh.q73 Wh.q73':=e_ _
def Wh.q74 (xs:(nC.D)):Option ((((Bool)×((Int)×((List UInt8)×(((Int)×((List (an.D))×(Unit)))×(((List (ng.D))×((Int)×(Unit)))×((List (nI.D))×((List (r_.D))×(Unit)))))))))×(Unit)):=
 let bn:nC.D:=xs
 let r_1:=Wh.UD ((bn.2.2.2).1)
 bif iy [nQ (Wh.G_ ((bn.2.2.2).1))] then
  let r_2:=Wh.T0 (bn.2.2.2.2.1)
  bif iy [nQ (Wh.GX (bn.2.2.2.2.1))] then
   let r_3:=Wh.q37' ((bn.2.2.2.2.2).1)
   bif iy [nQ (Wh.q37 ((bn.2.2.2.2.2).1))] then
    let nE:=Wh.q73' ((bn.2.2.2.2.2).2.1)
    bif iy [nQ (Wh.q73 ((bn.2.2.2.2.2).2.1))] then
     some ((bn.1,bn.2.1,bn.2.2.1,r_1.1,r_2.1,r_3.1,nE.1,()),())
    else none
   else none
  else none
 else none
def Wh.q74':=bx Wh.q74
theorem Wh.q74_v:OV Wh.q74 Wh.q74':=e_ _
def Wh.xe (xs:(Int)×(Int)×(Int)):Option (((Bool))×(Unit)):=
 let yY:=xs.1
 let Sy:=xs.2.1
 let Sn:=xs.2.2
 let yB:=bif decide (yY≥Sy) then decide (yY≤Sn) else false
 some (yB,())
def Wh.nW:=bx Wh.xe
theorem Wh.zI:OV Wh.xe Wh.nW:=e_ _
abbrev Wh.Ue:Type:=((Int)×(Int)×(List UInt8))×(Unit)
abbrev Wh.ahR:Type:=((((Int))×(Unit))⊕((Unit)×(Unit)))
def Wh.CS (x:Wh.Ue):Option (Wh.Ue⊕Wh.ahR):=
 let JT:=x.1.1
 let b_11:=x.1.2.1
 let HL:=x.1.2.2
 let Ao:=decide (JT<(↑(List.length HL):Int))
 bif Ao then
  let s_:Int:=(↑(UInt8.toNat (List.getD HL (Int.toNat JT) (0:UInt8))):Int)
  let xO:=s_==b_11
  bif iy [decide (0≤JT),Ao] then
   bif xO then
    some (.inr (.inl (JT,())))
   else
    some (.inl (((IntKind.wrap .i64 (JT+1)),b_11,HL),()))
  else none
 else
  some (.inr (.inr ((),())))
def Wh.aa8:(((Int))×(Unit))⊕((Unit)×(Unit)):=.inl default
def Wh.zR (xs:(List UInt8)×(Int)×(Int)):Option (((Int))×(Unit)):=
 let fN:=xs.1
 let zL:=xs.2.1
 let b_2:=xs.2.2
 let x_17:Wh.Ue:=((zL,b_2,fN),())
 bif lF Wh.CS x_17 then
  sumC (kG Wh.CS Wh.aa8 x_17) (fun B6=>
   let n_:=B6.1
   some (n_,())) (fun _=>
   some (-1,()))
 else none
def Wh.Kj:=bx Wh.zR
theorem Wh.CT:OV Wh.zR Wh.Kj:=e_ _
abbrev Wh.UZ:Type:=((Int)×(List UInt8)×(Int))×(Unit)
abbrev Wh.aib:Type:=((((Int))×(Unit))⊕(((Int))×(Unit)))
def Wh.Fy (x:Wh.UZ):Option (Wh.UZ⊕Wh.aib):=
 let Im:=x.1.1
 let s_18:=x.1.2.1
 let n_19:=x.1.2.2
 let n_:=decide (Im<(↑(List.length s_18):Int))
 bif n_ then
  let wX:Int:=(↑(UInt8.toNat (List.getD s_18 (Int.toNat Im) (0:UInt8))):Int)
  let yK:=bif decide (wX<48) then true else decide (wX>57)
  bif iy [!!decide (wX<48) || decide (0≤Im),!!decide (wX<48) || n_,decide (0≤Im),n_] then
   bif yK then
    some (.inr (.inl (-1,())))
   else
    bif iy [decide (0≤Im),n_] then
     some (.inl (((IntKind.wrap .i64 (Im+1)),s_18,(IntKind.wrap .i64 ((IntKind.wrap .i64 (n_19*10))+IntKind.wrap .i64 (IntKind.wrap .u8 (wX-48))))),()))
    else none
  else none
 else
  some (.inr (.inr (n_19,())))
def Wh.abD:(((Int))×(Unit))⊕(((Int))×(Unit)):=.inl default
def Wh.Br (xs:(List UInt8)):Option (((Int))×(Unit)):=
 let fN:=xs
 let r_1:=Wh.nW ((↑(List.length fN):Int),1,6)
 let v_2:=bif !r_1.1 then true else bif decide ((↑(List.length fN):Int)>1) then(↑(UInt8.toNat (List.getD fN (Int.toNat 0) (0:UInt8))):Int)==48 else false
 bif iy [!(decide ((↑(List.length fN):Int)>1) && !!r_1.1) || decide ((0:Int)≤0),!(decide ((↑(List.length fN):Int)>1) && !!r_1.1) || decide (0<(↑(List.length fN):Int)),nQ (Wh.xe ((↑(List.length fN):Int),1,6))] then
  bif v_2 then
   some (-1,())
  else
   let x_31:Wh.UZ:=((0,fN,0),())
   bif lF Wh.Fy x_31 then
    sumC (kG Wh.Fy Wh.abD x_31) (fun y_32=>
     let v_34:=y_32.1
     some (v_34,())) (fun z_33=>
     let n_35:=z_33.1
     some (n_35,()))
   else none
 else none
def Wh.Kx:=bx Wh.Br
theorem Wh.Hj:OV Wh.Br Wh.Kx:=e_ _
def Wh.q22 (acH:((Int))→Option (((List UInt8))×(Unit)))(Pt:((Int))→((List UInt8))×(Unit))(xs:(Int)):Option (((List UInt8))×(Unit)):=
 let yY:=xs
 bif decide (yY < -9223372036854775807) then
  some ([(45:UInt8),(57:UInt8),(50:UInt8),(50:UInt8),(51:UInt8),(51:UInt8),(55:UInt8),(50:UInt8),(48:UInt8),(51:UInt8),(54:UInt8),(56:UInt8),(53:UInt8),(52:UInt8),(55:UInt8),(55:UInt8),(53:UInt8),(56:UInt8),(48:UInt8),(56:UInt8)],())
 else
  bif decide (yY<0) then
   let w9:=IntKind.wrap .i64 (0-yY)
   let A_:Ey.D:=Pt w9
   let Ap:List UInt8:=[(45:UInt8)]++A_.1
   bif iy [decide ((1:Nat)+List.length ((Pt w9).1)≤dh),nQ (acH w9)] then
    some (Ap,())
   else none
  else
   bif decide (yY<10) then
    let S_:List Int:=[IntKind.wrap .u8 (IntKind.wrap .i64 (48+yY))]
    some (qp S_,())
   else
    let pb_12:List Int:=[IntKind.wrap .u8 (IntKind.wrap .i64 (48+Int.tmod yY 10))]
    let Ao:=IntKind.wrap .i64 (Int.tdiv yY 10)
    let y2:Ey.D:=Pt Ao
    let wX:=y2.1++qp pb_12
    bif iy [decide (List.length ((Pt Ao).1)+(1:Nat)≤dh),true,nQ (acH Ao),true] then
     some (wX,())
    else none
def Wh.Bn:Nat→((Int))→Option (((List UInt8))×(Unit))
 |0,_=>none
 |n+1,xs=>Wh.q22 (Wh.Bn n) (fun x=>match Wh.Bn n x with | some y=>y|none=>default) xs
theorem Wh.UP (n:Nat):Wh.Bn (n+1)=Wh.q22 (Wh.Bn n) (fun x=>match Wh.Bn n x with | some y=>y|none=>default):=rfl
def Wh.CY (xs:(Int)):Option (((List UInt8))×(Unit)):=Wh.Bn 20 xs
def Wh.Ci:=bx Wh.CY
theorem Wh.OY:OV Wh.CY Wh.Ci:=e_ _
abbrev Wh.VW:Type:=((Int)×(Int)×(Unit))×((List (Int)))
abbrev Wh.aiT:Type:=((((Unit))×((List (Int)))))
def Wh.HC (x:Wh.VW):Option (Wh.VW⊕Wh.aiT):=
 let yS:=x.1.1
 let n_28:=x.1.2.1
 let EX:=x.2
 bif decide (yS≥0) then
  let xY:List Int:=[IntKind.wrap .u8 (Int.fdiv n_28 (2 ^ Min.min (Int.toNat (IntKind.wrap .i64 (8*yS))) (Go.IntKind.bits Go.IntKind.i64)))]
  let zH:=EX++xY
  bif iy [decide (List.length EX+(1:Nat)≤dh),decide (0≤(IntKind.wrap .i64 (8*yS)))] then
   some (.inl (((IntKind.wrap .i64 (yS-1)),n_28,()),zH))
  else none
 else
  some (.inr ((),EX))
def Wh.acr:(((Unit))×((List (Int)))):=default
abbrev Wh.VV:Type:=((Unit)×(List UInt8))×((List (Int)))
abbrev Wh.aiS:Type:=((((Unit)×(List UInt8))×((List (Int)))))
def Wh.FO (x:Wh.VV):Option (Wh.VV⊕Wh.aiS):=
 let ac9:=x.1.2
 let Du:=x.2
 let zw:Bool:=(Int.tmod (↑(List.length Du):Int) 64) != 56
 bif zw then
  let Ax:=Du ++ [(0:Int)]
  bif iy [decide (List.length Du+(1:Nat)≤dh)] then
   some (.inl (((),ac9),Ax))
  else none
 else
  some (.inr (((),ac9),Du))
def Wh.acq:(((Unit)×(List UInt8))×((List (Int)))):=default
def Wh.q83 (xs:(List UInt8)):Option (((List (Int)))×(Unit)):=
 let zi:=xs
 let zf:List Int:=bytesOf zi ++ [(128:Int)]
 bif iy [decide (List.length (bytesOf zi)+(1:Nat)≤dh),decide (List.length zi≤dh)] then
  let x_12:Wh.VV:=(((),zi),zf)
  bif lF Wh.FO x_12 then
   let y_13:=kG Wh.FO Wh.acq x_12
   let alF:=y_13.1.2
   let yD:=y_13.2
   let x_37:Wh.VW:=((7,(IntKind.wrap .i64 ((↑(List.length alF):Int)*8)),()),yD)
   bif lF Wh.HC x_37 then
    let y_38:=kG Wh.HC Wh.acr x_37
    let z8:=y_38.2
    some (z8,())
   else none
  else none
 else none
def Wh.q83':=bx Wh.q83
theorem Wh.q83_v:OV Wh.q83 Wh.q83':=e_ _
def Wh.yO (xs:(Int)×(Int)):Option (((Int))×(Unit)):=
 let yV:=xs.1
 let n_1:=xs.2
 let v_2:Int:=Int.fdiv yV (2 ^ Min.min (Int.toNat n_1) (Go.IntKind.bits Go.IntKind.u32))
 let w9:=IntKind.wrap .i64 (32-n_1)
 let zZ:Int:=nj Go.BinOp.or Go.IntKind.u32 v_2 (IntKind.wrap .u32 (yV*2 ^ Min.min (Int.toNat w9) (Go.IntKind.bits Go.IntKind.u32)))
 bif iy [decide (0≤w9),decide (0≤n_1)] then
  some (zZ,())
 else none
def Wh.z_:=bx Wh.yO
theorem Wh.q139_v:OV Wh.yO Wh.z_:=e_ _
abbrev Wh.TF:Type:=((Int)×(Unit))×((List (Int)))
abbrev Wh.ahB:Type:=((((Unit))×((List (Int)))))
def Wh.GM (x:Wh.TF):Option (Wh.TF⊕Wh.ahB):=
 let ES:=x.1.1
 let Cd:=x.2
 bif decide (ES<64) then
  let Dc:=IntKind.wrap .i64 (ES-15)
  let Ld:=List.getD Cd (Int.toNat Dc) 0
  bif iy [decide (0≤Dc),decide (Dc<(↑(List.length Cd):Int))] then
   let v_99:=IntKind.wrap .i64 (ES-2)
   let Le:=List.getD Cd (Int.toNat v_99) 0
   bif iy [decide (0≤v_99),decide (v_99<(↑(List.length Cd):Int))] then
    let r_102:=Wh.z_ (Ld,7)
    let Wg:=Wh.z_ (Ld,18)
    let v_105:Int:=Int.fdiv Ld (2 ^ Min.min (Int.toNat 3) (Go.IntKind.bits Go.IntKind.u32))
    let a_107:Int:=nj Go.BinOp.xor Go.IntKind.u32 (nj Go.BinOp.xor Go.IntKind.u32 r_102.1 Wg.1) v_105
    bif iy [true,nQ (Wh.yO (Ld,18)),nQ (Wh.yO (Ld,7))] then
     let r_108:=Wh.z_ (Le,17)
     let KI:=Wh.z_ (Le,19)
     let v_111:Int:=Int.fdiv Le (2 ^ Min.min (Int.toNat 10) (Go.IntKind.bits Go.IntKind.u32))
     let c_113:Int:=nj Go.BinOp.xor Go.IntKind.u32 (nj Go.BinOp.xor Go.IntKind.u32 r_108.1 KI.1) v_111
     bif iy [true,nQ (Wh.yO (Le,19)),nQ (Wh.yO (Le,17))] then
      let pb_114:List Int:=[IntKind.wrap .u32 (IntKind.wrap .u32 (IntKind.wrap .u32 (List.getD Cd (Int.toNat (IntKind.wrap .i64 (ES-16))) 0+a_107)+List.getD Cd (Int.toNat (IntKind.wrap .i64 (ES-7))) 0)+c_113)]
      let J1:=Cd++pb_114
      let v_116:=IntKind.wrap .i64 (ES-16)
      let PI:=IntKind.wrap .i64 (ES-7)
      bif iy [decide (List.length Cd+(1:Nat)≤dh),decide (0≤PI),decide (PI<(↑(List.length Cd):Int)),decide (0≤v_116),decide (v_116<(↑(List.length Cd):Int))] then
       some (.inl (((IntKind.wrap .i64 (ES+1)),()),J1))
      else none
     else none
    else none
   else none
  else none
 else
  some (.inr ((),Cd))
def Wh.aaH:(((Unit))×((List (Int)))):=default
abbrev Wh.TE:Type:=((Int)×(List (Int))×(Unit))×((List (Int)))
abbrev Wh.ahA:Type:=((((Unit))×((List (Int)))))
def Wh.GL (x:Wh.TE):Option (Wh.TE⊕Wh.ahA):=
 let Gp:=x.1.1
 let Dh:=x.1.2.1
 let zH:=x.2
 bif decide (Gp<16) then
  let Bk:List Int:=[nj Go.BinOp.or Go.IntKind.u32 (nj Go.BinOp.or Go.IntKind.u32 (nj Go.BinOp.or Go.IntKind.u32 (IntKind.wrap .u32 (IntKind.wrap .u32 (List.getD Dh (Int.toNat (IntKind.wrap .i64 (4*Gp))) 0)*2 ^ Min.min (Int.toNat 24) (Go.IntKind.bits Go.IntKind.u32))) (IntKind.wrap .u32 (IntKind.wrap .u32 (List.getD Dh (Int.toNat (IntKind.wrap .i64 (IntKind.wrap .i64 (4*Gp)+1))) 0)*2 ^ Min.min (Int.toNat 16) (Go.IntKind.bits Go.IntKind.u32)))) (IntKind.wrap .u32 (IntKind.wrap .u32 (List.getD Dh (Int.toNat (IntKind.wrap .i64 (IntKind.wrap .i64 (4*Gp)+2))) 0)*2 ^ Min.min (Int.toNat 8) (Go.IntKind.bits Go.IntKind.u32)))) (IntKind.wrap .u32 (List.getD Dh (Int.toNat (IntKind.wrap .i64 (IntKind.wrap .i64 (4*Gp)+3))) 0))]
  let yH:=zH++Bk
  let ym:=IntKind.wrap .i64 (4*Gp)
  bif iy [decide (List.length zH+(1:Nat)≤dh),decide (0≤IntKind.wrap .i64 (ym+3)),decide (IntKind.wrap .i64 (ym+3)<(↑(List.length Dh):Int)),true,decide (0≤IntKind.wrap .i64 (ym+2)),decide (IntKind.wrap .i64 (ym+2)<(↑(List.length Dh):Int)),true,decide (0≤IntKind.wrap .i64 (ym+1)),decide (IntKind.wrap .i64 (ym+1)<(↑(List.length Dh):Int)),true,decide (0≤ym),decide (ym<(↑(List.length Dh):Int))] then
   some (.inl (((IntKind.wrap .i64 (Gp+1)),Dh,()),yH))
  else none
 else
  some (.inr ((),zH))
def Wh.aaG:(((Unit))×((List (Int)))):=default
def Wh.GK (xs:(List (Int))):Option (((List (Int)))×(Unit)):=
 let y_:=xs
 let x_59:Wh.TE:=((0,y_,()),[])
 bif lF Wh.GL x_59 then
  let y_60:=kG Wh.GL Wh.aaG x_59
  let ls_61:=y_60.2
  let x_124:Wh.TF:=((16,()),ls_61)
  bif lF Wh.GM x_124 then
   let y_125:=kG Wh.GM Wh.aaH x_124
   let ls_126:=y_125.2
   some (ls_126,())
  else none
 else none
def Wh.TD:=bx Wh.GK
theorem Wh.aaI:OV Wh.GK Wh.TD:=e_ _
def Wh.q82 (_:Unit):Option (((List (Int)))×(Unit)):=
 let pb_0:List Int:=[(1116352408:Int),1899447441,3049323471,3921009573,961987163,1508970993,2453635748,2870763221,3624381080,310598401,607225278,1426881987,1925078388,2162078206,2614888103,3248222580,3835390401,4022224774,264347078,604807628,770255983,1249150122,1555081692,1996064986,2554220882,2821834349,2952996808,3210313671,3336571891,3584528711,113926993,338241895,666307205,773529912,1294757372,1396182291,1695183700,1986661051,2177026350,2456956037,2730485921,2820302411,3259730800,3345764771,3516065817,3600352804,4094571909,275423344,430227734,506948616,659060556,883997877,958139571,1322822218,1537002063,1747873779,1955562222,2024104815,2227730452,2361852424,2428436474,2756734187,3204031479,3329325298]
 some (pb_0,())
def Wh.q82':=bx Wh.q82
theorem Wh.q82_v:OV Wh.q82 Wh.q82':=e_ _
abbrev Wh.TC:Type:=((Int)×(Unit)×(List (Int))×(Unit))×((List (Int))×(List (Int)))
abbrev Wh.ahz:Type:=((((Unit))×((List (Int)))))
def Wh.Kd (x:Wh.TC):Option (Wh.TC⊕Wh.ahz):=
 let EP:=x.1.1
 let Sj:=(x.1.2.2).1
 let SB:=x.2.1
 let SC:=x.2.2
 bif decide (EP<8) then
  let pb_193:List Int:=[IntKind.wrap .u32 (List.getD Sj (Int.toNat EP) 0+List.getD SB (Int.toNat EP) 0)]
  let ls_194:=SC++pb_193
  bif iy [decide (List.length SC+(1:Nat)≤dh),decide (0≤EP),decide (EP<(↑(List.length SB):Int)),decide (0≤EP),decide (EP<(↑(List.length Sj):Int))] then
   some (.inl (((IntKind.wrap .i64 (EP+1)),(),Sj,()),SB,ls_194))
  else none
 else
  some (.inr ((),SC))
def Wh.aaE:(((Unit))×((List (Int)))):=default
abbrev Wh.Tz:Type:=((Int)×(Unit)×(Unit)×(Unit)×(List (Int))×(Int)×(Int)×(Int)×(Int))×((List (Int))×(List (Int))×(List (Int)))
abbrev Wh.ahy:Type:=((((Unit)×(Unit)×(Unit)×(List (Int))×(Int)×(Int)×(Int)×(Int))×((List (Int))×(List (Int))×(List (Int)))))
def Wh.Kc (x:Wh.Tz):Option (Wh.Tz⊕Wh.ahy):=
 let Iy:=x.1.1
 let h_73:=(x.1.2.2.2.2).1
 let i_74:=(x.1.2.2.2.2).2.1
 let Z3:=(x.1.2.2.2.2).2.2.1
 let a_76:=(x.1.2.2.2.2).2.2.2.1
 let t_77:=(x.1.2.2.2.2).2.2.2.2
 let J3:=x.2.1
 let ls_79:=x.2.2.1
 let J4:=x.2.2.2
 bif decide (Iy>0) then
  let ls_82:=List.set J3 (Int.toNat Iy) (List.getD J3 (Int.toNat (IntKind.wrap .i64 (Iy-1))) 0)
  let EH:=IntKind.wrap .i64 (Iy-1)
  bif iy [decide (0≤Iy),decide (Iy<(↑(List.length J3):Int)),decide (0≤EH),decide (EH<(↑(List.length J3):Int))] then
   some (.inl ((EH,(),(),(),h_73,i_74,Z3,a_76,t_77),ls_82,ls_79,J4))
  else none
 else
  some (.inr (((),(),(),h_73,i_74,Z3,a_76,t_77),J3,ls_79,J4))
def Wh.TA:(((Unit)×(Unit)×(Unit)×(List (Int))×(Int)×(Int)×(Int)×(Int))×((List (Int))×(List (Int))×(List (Int)))):=default
abbrev Wh.Tx:Type:=((Unit)×(Int)×(Unit)×(Unit)×(List (Int)))×((List (Int))×(List (Int))×(List (Int)))
abbrev Wh.ahx:Type:=((((Unit)×(List (Int)))×((List (Int)))))
def Wh.GJ (x:Wh.Tx):Option (Wh.Tx⊕Wh.ahx):=
 let EO:=x.1.2.1
 let h_103:=x.1.2.2.2.2
 let yT:=x.2.1
 let Sz:=x.2.2.1
 let SA:=x.2.2.2
 bif decide (EO<64) then
  let Db:=List.getD yT (Int.toNat 4) 0
  let r_119:=Wh.z_ (Db,6)
  let r_120:=Wh.z_ (Db,11)
  let r_121:=Wh.z_ (Db,25)
  let e_122:Int:=nj Go.BinOp.xor Go.IntKind.u32 (nj Go.BinOp.xor Go.IntKind.u32 r_119.1 r_120.1) r_121.1
  bif iy [nQ (Wh.yO (Db,25)),true,decide (4<(↑(List.length yT):Int)),nQ (Wh.yO (Db,11)),true,decide (4<(↑(List.length yT):Int)),nQ (Wh.yO (Db,6)),true,decide (4<(↑(List.length yT):Int))] then
   let v_123:=List.getD yT (Int.toNat 5) 0
   let v_124:=List.getD yT (Int.toNat 6) 0
   let ch_127:Int:=nj Go.BinOp.xor Go.IntKind.u32 (nj Go.BinOp.and Go.IntKind.u32 Db v_123) (nj Go.BinOp.and Go.IntKind.u32 (nj Go.BinOp.xor Go.IntKind.u32 (Go.IntKind.max Go.IntKind.u32) Db) v_124)
   bif iy [true,decide (6<(↑(List.length yT):Int)),true,decide (4<(↑(List.length yT):Int)),true,decide (5<(↑(List.length yT):Int)),true,decide (4<(↑(List.length yT):Int))] then
    let v_128:=List.getD yT (Int.toNat 7) 0
    let Ww:=List.getD SA (Int.toNat EO) 0
    let v_133:=List.getD Sz (Int.toNat EO) 0
    bif iy [decide (0≤EO),decide (EO<(↑(List.length Sz):Int)),decide (0≤EO),decide (EO<(↑(List.length SA):Int)),true,decide (7<(↑(List.length yT):Int))] then
     let F0:=List.getD yT (Int.toNat 0) 0
     let r_147:=Wh.z_ (F0,2)
     let r_148:=Wh.z_ (F0,13)
     let r_149:=Wh.z_ (F0,22)
     let a_150:Int:=nj Go.BinOp.xor Go.IntKind.u32 (nj Go.BinOp.xor Go.IntKind.u32 r_147.1 r_148.1) r_149.1
     bif iy [nQ (Wh.yO (F0,22)),true,decide (0<(↑(List.length yT):Int)),nQ (Wh.yO (F0,13)),true,decide (0<(↑(List.length yT):Int)),nQ (Wh.yO (F0,2)),true,decide (0<(↑(List.length yT):Int))] then
      let v_151:=List.getD yT (Int.toNat 1) 0
      let PL:=List.getD yT (Int.toNat 2) 0
      let afO:Int:=nj Go.BinOp.xor Go.IntKind.u32 (nj Go.BinOp.xor Go.IntKind.u32 (nj Go.BinOp.and Go.IntKind.u32 F0 v_151) (nj Go.BinOp.and Go.IntKind.u32 F0 PL)) (nj Go.BinOp.and Go.IntKind.u32 v_151 PL)
      bif iy [true,decide (2<(↑(List.length yT):Int)),true,decide (1<(↑(List.length yT):Int)),true,decide (2<(↑(List.length yT):Int)),true,decide (0<(↑(List.length yT):Int)),true,decide (1<(↑(List.length yT):Int)),true,decide (0<(↑(List.length yT):Int))] then
       let x_156:Wh.Tz:=((7,(),(),(),h_103,EO,afO,a_150,(IntKind.wrap .u32 (IntKind.wrap .u32 (IntKind.wrap .u32 (IntKind.wrap .u32 (v_128+e_122)+ch_127)+Ww)+v_133))),yT,Sz,SA)
       bif lF Wh.Kc x_156 then
        let F6:=kG Wh.Kc Wh.TA x_156
        let h_158:=F6.1.2.2.2.1
        let i_159:=(F6.1.2.2.2.2).1
        let afP:=(F6.1.2.2.2.2).2.1
        let a_161:=(F6.1.2.2.2.2).2.2.1
        let t_162:=(F6.1.2.2.2.2).2.2.2
        let Ob:=F6.2.1
        let ls_164:=F6.2.2.1
        let ls_165:=F6.2.2.2
        let YU:=List.set Ob (Int.toNat 4) (IntKind.wrap .u32 (List.getD Ob (Int.toNat 4) 0+t_162))
        bif iy [true,decide (4<(↑(List.length Ob):Int)),true,decide (4<(↑(List.length Ob):Int))] then
         let ls_169:=List.set YU (Int.toNat 0) (IntKind.wrap .u32 (IntKind.wrap .u32 (t_162+a_161)+afP))
         bif iy [true,decide (0<(↑(List.length YU):Int))] then
          some (.inl (((),(IntKind.wrap .i64 (i_159+1)),(),(),h_158),ls_169,ls_164,ls_165))
         else none
        else none
       else none
      else none
     else none
    else none
   else none
  else none
 else
  some (.inr (((),h_103),yT))
def Wh.aaD:(((Unit)×(List (Int)))×((List (Int)))):=default
def Wh.GI (xs:(List (Int))×(List (Int))):Option (((List (Int)))×(Unit)):=
 let h_0:=xs.1
 let b_1:=xs.2
 let r_2:=Wh.TD b_1
 bif iy [nQ (Wh.GK b_1)] then
  let r_3:=Wh.q82' ()
  bif iy [nQ (Wh.q82 ())] then
   let pb_4:List Int:=[]++h_0
   bif iy [decide ((0:Nat)+List.length h_0≤dh)] then
    let x_173:Wh.Tx:=(((),0,(),(),h_0),pb_4,r_2.1,r_3.1)
    bif lF Wh.GJ x_173 then
     let y_174:=kG Wh.GJ Wh.aaD x_173
     let h_175:=y_174.1.2
     let ls_176:=y_174.2
     let x_199:Wh.TC:=((0,(),h_175,()),ls_176,[])
     bif lF Wh.Kd x_199 then
      let y_200:=kG Wh.Kd Wh.aaE x_199
      let ls_201:=y_200.2
      some (ls_201,())
     else none
    else none
   else none
  else none
 else none
def Wh.Tw:=bx Wh.GI
theorem Wh.aaF:OV Wh.GI Wh.Tw:=e_ _
abbrev Wh.UU:Type:=((Int)×(Unit)×(Unit))×((List (Int))×(List (Int)))
abbrev Wh.ah8:Type:=((((Unit))×((List (Int)))))
def Wh.Kr (x:Wh.UU):Option (Wh.UU⊕Wh.ah8):=
 let A0:=x.1.1
 let yg:=x.2.1
 let yH:=x.2.2
 bif decide (A0<8) then
  let pb_37:List Int:=[IntKind.wrap .u8 (Int.fdiv (List.getD yg (Int.toNat A0) 0) (2 ^ Min.min (Int.toNat 24) (Go.IntKind.bits Go.IntKind.u32))),IntKind.wrap .u8 (Int.fdiv (List.getD yg (Int.toNat A0) 0) (2 ^ Min.min (Int.toNat 16) (Go.IntKind.bits Go.IntKind.u32))),IntKind.wrap .u8 (Int.fdiv (List.getD yg (Int.toNat A0) 0) (2 ^ Min.min (Int.toNat 8) (Go.IntKind.bits Go.IntKind.u32))),IntKind.wrap .u8 (List.getD yg (Int.toNat A0) 0)]
  let yE:=yH++pb_37
  bif iy [decide (List.length yH+(4:Nat)≤dh),decide (0≤A0),decide (A0<(↑(List.length yg):Int)),true,decide (0≤A0),decide (A0<(↑(List.length yg):Int)),true,decide (0≤A0),decide (A0<(↑(List.length yg):Int)),true,decide (0≤A0),decide (A0<(↑(List.length yg):Int))] then
   some (.inl (((IntKind.wrap .i64 (A0+1)),(),()),yg,yE))
  else none
 else
  some (.inr ((),yH))
def Wh.abx:(((Unit))×((List (Int)))):=default
abbrev Wh.UT:Type:=((Int)×(Unit)×(Unit))×((List (Int))×(List (Int)))
abbrev Wh.ah7:Type:=((((Unit))×((List (Int)))))
def Wh.Ft (x:Wh.UT):Option (Wh.UT⊕Wh.ah7):=
 let yp:=x.1.1
 let EU:=x.2.1
 let Ax:=x.2.2
 bif decide (yp<(↑(List.length EU):Int)) then
  let FX:=Wh.Tw (Ax,List.take (Int.toNat (IntKind.wrap .i64 (yp+64)-yp)) (List.drop (Int.toNat yp) EU))
  let s_:=IntKind.wrap .i64 (yp+64)
  bif iy [nQ (Wh.GI (Ax,List.take (Int.toNat (s_-yp)) (List.drop (Int.toNat yp) EU))),decide (0≤yp),decide (yp≤s_),decide (s_≤(↑(List.length EU):Int))] then
   some (.inl ((s_,(),()),EU,FX.1))
  else none
 else
  some (.inr ((),Ax))
def Wh.abw:(((Unit))×((List (Int)))):=default
def Wh.Hh (xs:(List UInt8)):Option (((List UInt8))×(Unit)):=
 let zi:=xs
 let r_1:=Wh.q83' zi
 bif iy [nQ (Wh.q83 zi)] then
  let x_16:Wh.UT:=((0,(),()),r_1.1,[(1779033703:Int),3144134277,1013904242,2773480762,1359893119,2600822924,528734635,1541459225])
  bif lF Wh.Ft x_16 then
   let Lf:=kG Wh.Ft Wh.abw x_16
   let xb:=Lf.2
   let K9:Wh.UU:=((0,(),()),xb,[])
   bif lF Wh.Kr K9 then
    let y_48:=kG Wh.Kr Wh.abx K9
    let ls_49:=y_48.2
    some (qp ls_49,())
   else none
  else none
 else none
def Wh.US:=bx Wh.Hh
theorem Wh.aby:OV Wh.Hh Wh.US:=e_ _
abbrev Wh.UQ:Type:=((Int)×(List UInt8)×(Unit))×((List (Int)))
abbrev Wh.ah6:Type:=((((Unit))×((List (Int)))))
def Wh.Fs (x:Wh.UQ):Option (Wh.UQ⊕Wh.ah6):=
 let yR:=x.1.1
 let Cs:=x.1.2.1
 let yD:=x.2
 let vN:=decide (yR<(↑(List.length Cs):Int))
 bif vN then
  let GA:List Int:=[(↑(UInt8.toNat (List.getD [(48:UInt8),(49:UInt8),(50:UInt8),(51:UInt8),(52:UInt8),(53:UInt8),(54:UInt8),(55:UInt8),(56:UInt8),(57:UInt8),(97:UInt8),(98:UInt8),(99:UInt8),(100:UInt8),(101:UInt8),(102:UInt8)] (Int.toNat (IntKind.wrap .u8 (Int.tdiv (↑(UInt8.toNat (List.getD Cs (Int.toNat yR) (0:UInt8))):Int) 16))) (0:UInt8))):Int),(↑(UInt8.toNat (List.getD [(48:UInt8),(49:UInt8),(50:UInt8),(51:UInt8),(52:UInt8),(53:UInt8),(54:UInt8),(55:UInt8),(56:UInt8),(57:UInt8),(97:UInt8),(98:UInt8),(99:UInt8),(100:UInt8),(101:UInt8),(102:UInt8)] (Int.toNat (Int.tmod (↑(UInt8.toNat (List.getD Cs (Int.toNat yR) (0:UInt8))):Int) 16)) (0:UInt8))):Int)]
  let xb:=yD++GA
  let nG:Int:=(↑(UInt8.toNat (List.getD Cs (Int.toNat yR) (0:UInt8))):Int)
  bif iy [decide (List.length yD+(2:Nat)≤dh),decide (0≤Int.tmod nG 16),decide (Int.tmod nG 16<(↑(16:Nat):Int)),true,decide (0≤yR),vN,decide (0≤IntKind.wrap .u8 (Int.tdiv nG 16)),decide (IntKind.wrap .u8 (Int.tdiv nG 16)<(↑(16:Nat):Int)),true,decide (0≤yR),vN] then
   some (.inl (((IntKind.wrap .i64 (yR+1)),Cs,()),xb))
  else none
 else
  some (.inr ((),yD))
def Wh.abv:(((Unit))×((List (Int)))):=default
def Wh.Fq (xs:(List UInt8)):Option (((List UInt8))×(Unit)):=
 let fN:=xs
 let x_25:Wh.UQ:=((0,fN,()),[])
 bif lF Wh.Fs x_25 then
  let y8:=kG Wh.Fs Wh.abv x_25
  let zd:=y8.2
  some (qp zd,())
 else none
def Wh.OZ:=bx Wh.Fq
theorem Wh.UR:OV Wh.Fq Wh.OZ:=e_ _
def Wh.GD (xs:(List UInt8)):Option (((List UInt8))×(Unit)):=
 let zi:=xs
 let r_1:=Wh.US zi
 let r_3:=Wh.OZ r_1.1
 bif iy [nQ (Wh.Fq r_1.1),nQ (Wh.Hh zi)] then
  some (r_3.1,())
 else none
def Wh.E8:=bx Wh.GD
theorem Wh.aau:OV Wh.GD Wh.E8:=e_ _
def Wh.GZ (xs:(Int)×(List UInt8)):Option (((List UInt8))×(Unit)):=
 let yY:=xs.1
 let zT:=xs.2
 let r_2:=Wh.Ci yY
 let nE:=Wh.Ci (↑(List.length zT):Int)
 let AK:=r_2.1 ++ [(32:UInt8)]++nE.1 ++ [(32:UInt8)]
 bif iy [decide (List.length (r_2.1 ++ [(32:UInt8)]++nE.1)+(1:Nat)≤dh),decide (List.length (r_2.1 ++ [(32:UInt8)])+List.length nE.1≤dh),nQ (Wh.CY (↑(List.length zT):Int)),decide (List.length r_2.1+(1:Nat)≤dh),nQ (Wh.CY yY)] then
  let Ap:List UInt8:=AK++zT
  let y2:=Wh.E8 Ap
  let wX:List UInt8:=AK++List.take (Int.toNat ((16:Int)-0)) (List.drop (Int.toNat 0) y2.1) ++ [(32:UInt8)]++zT ++ [(10:UInt8)]
  bif iy [decide (List.length (AK++List.take (Int.toNat ((16:Int)-0)) (List.drop (Int.toNat 0) ((Wh.E8 Ap).1)) ++ [(32:UInt8)]++zT)+(1:Nat)≤dh),decide (List.length (AK++List.take (Int.toNat ((16:Int)-0)) (List.drop (Int.toNat 0) ((Wh.E8 Ap).1)) ++ [(32:UInt8)])+List.length zT≤dh),decide (List.length (AK++List.take (Int.toNat ((16:Int)-0)) (List.drop (Int.toNat 0) ((Wh.E8 Ap).1)))+(1:Nat)≤dh),decide (List.length AK+List.length (List.take (Int.toNat ((16:Int)-0)) (List.drop (Int.toNat 0) ((Wh.E8 Ap).1)))≤dh),true,true,decide (16≤(↑(List.length ((Wh.E8 Ap).1)):Int)),nQ (Wh.GD Ap),decide (List.length AK+List.length zT≤dh)] then
   some (wX,())
  else none
 else none
def Wh.Uf:=bx Wh.GZ
theorem Wh.Ug:OV Wh.GZ Wh.Uf:=e_ _
def Wh.DO (xs:(List UInt8)×(Int)×(Int)):Option (((List UInt8)×(Int))×(Unit)):=
 let zl:=xs.1
 let zL:=xs.2.1
 let S2:=xs.2.2
 let r_3:=Wh.Kj (zl,zL,32)
 bif iy [nQ (Wh.zR (zl,zL,32))] then
  let x7:=decide (r_3.1<0)
  let xT:=Wh.Kx (List.take (Int.toNat (r_3.1-zL)) (List.drop (Int.toNat zL) zl))
  let zZ:=bif x7 then true else xT.1 != S2
  bif iy [!!x7 || nQ (Wh.Br (List.take (Int.toNat (r_3.1-zL)) (List.drop (Int.toNat zL) zl))),!!x7 || decide (0≤zL),!!x7 || decide (zL≤r_3.1),!!x7 || decide (r_3.1≤(↑(List.length zl):Int))] then
   bif zZ then
    some (([],0),())
   else
    let w8:=IntKind.wrap .i64 (r_3.1+1)
    let r_9:=Wh.Kj (zl,w8,32)
    bif iy [nQ (Wh.zR (zl,w8,32))] then
     bif decide (r_9.1<0) then
      some (([],0),())
     else
      let FX:=Wh.Kx (List.take (Int.toNat (r_9.1-w8)) (List.drop (Int.toNat w8) zl))
      bif iy [nQ (Wh.Br (List.take (Int.toNat (r_9.1-w8)) (List.drop (Int.toNat w8) zl))),decide (0≤w8),decide (w8≤r_9.1),decide (r_9.1≤(↑(List.length zl):Int))] then
       let s_:=IntKind.wrap .i64 (r_9.1+18)
       let KJ:=Wh.nW (FX.1,1,500)
       let vN:=bif !KJ.1 then true else decide (IntKind.wrap .i64 (IntKind.wrap .i64 (s_+FX.1)+1)>(↑(List.length zl):Int))
       bif iy [nQ (Wh.xe (FX.1,1,500))] then
        bif vN then
         some (([],0),())
        else
         let xS:=IntKind.wrap .i64 (s_+FX.1)
         let y2:=Wh.Uf (S2,List.take (Int.toNat (xS-s_)) (List.drop (Int.toNat s_) zl))
         bif iy [nQ (Wh.GZ (S2,List.take (Int.toNat (xS-s_)) (List.drop (Int.toNat s_) zl))),decide (0≤s_),decide (s_≤xS),decide (xS≤(↑(List.length zl):Int))] then
          bif iy [decide (0≤zL),decide (zL≤IntKind.wrap .i64 (xS+1)),decide (IntKind.wrap .i64 (xS+1)≤(↑(List.length zl):Int))] then
           bif(!List.take (Int.toNat (IntKind.wrap .i64 (xS+1)-zL)) (List.drop (Int.toNat zL) zl)==y2.1) then
            some (([],0),())
           else
            let zy:Int:=(↑(List.length y2.1):Int)
            let xR:List UInt8:=List.take (Int.toNat (xS-s_)) (List.drop (Int.toNat s_) zl)
            bif iy [decide (0≤s_),decide (s_≤xS),decide (xS≤(↑(List.length zl):Int))] then
             some ((xR,zy),())
            else none
          else none
         else none
       else none
      else none
    else none
  else none
 else none
def Wh.Uh:=bx Wh.DO
theorem Wh.Ui:OV Wh.DO Wh.Uh:=e_ _
abbrev Wh.Uj:Type:=((Int)×(Unit)×(List UInt8))×((List (List UInt8)))
abbrev Wh.ahS:Type:=((((Unit)×(Int))×((List (List UInt8)))))
def Wh.Fg (x:Wh.Uj):Option (Wh.Uj⊕Wh.ahS):=
 let NP:=x.1.1
 let Sx:=x.1.2.2
 let yx:=x.2
 let n_:Int:=(↑(List.length yx):Int)
 let BY:=Wh.Uh (Sx,NP,n_)
 bif iy [nQ (Wh.DO (Sx,NP,n_))] then
  bif(BY.1.2==0) then
   some (.inr (((),NP),yx))
  else
   let pb_30:List (List UInt8):=[BY.1.1]
   let zW:List (List UInt8):=yx++pb_30
   bif iy [decide (List.length yx+(1:Nat)≤dh)] then
    some (.inl (((IntKind.wrap .i64 (NP+BY.1.2)),(),Sx),zW))
   else none
 else none
def Wh.aa9:(((Unit)×(Int))×((List (List UInt8)))):=default
def Wh.Ch (xs:(List UInt8)):Option (((List (List UInt8))×(Int))×(Unit)):=
 let zl:=xs
 let x_33:Wh.Uj:=((0,(),zl),[])
 bif lF Wh.Fg x_33 then
  let y_34:=kG Wh.Fg Wh.aa9 x_33
  let yF:=y_34.1.2
  let SE:=y_34.2
  some ((SE,yF),())
 else none
def Wh.Kk:=bx Wh.Ch
theorem Wh.OJ:OV Wh.Ch Wh.Kk:=e_ _
abbrev Wh.Ua:Type:=((Int)×(Int)×(List UInt8)×(Unit)×(Int))×((List (List UInt8)))
abbrev Wh.ahP:Type:=((((Int)×(List UInt8)×(Unit))×((List (List UInt8)))))
def Wh.Aj (x:Wh.Ua):Option (Wh.Ua⊕Wh.ahP):=
 let mb:=x.1.1
 let Ij:=x.1.2.1
 let HM:=(x.1.2.2).1
 let RU:=x.1.2.2.2.2
 let yx:=x.2
 let n_:=decide (mb<(↑(List.length HM):Int))
 bif n_ then
  let wX:Int:=(↑(UInt8.toNat (List.getD HM (Int.toNat mb) (0:UInt8))):Int)
  let yP:=wX==RU
  bif iy [decide (0≤mb),n_] then
   bif yP then
    let zM:List (List UInt8):=[List.take (Int.toNat (mb-Ij)) (List.drop (Int.toNat Ij) HM)]
    let Ag:List (List UInt8):=yx++zM
    bif iy [decide (List.length yx+(1:Nat)≤dh),decide (0≤Ij),decide (Ij≤mb),decide (mb≤(↑(List.length HM):Int))] then
     let xR:=IntKind.wrap .i64 (mb+1)
     some (.inl ((xR,xR,HM,(),RU),Ag))
    else none
   else
    some (.inl (((IntKind.wrap .i64 (mb+1)),Ij,HM,(),RU),yx))
  else none
 else
  some (.inr ((Ij,HM,()),yx))
def Wh.aa5:(((Int)×(List UInt8)×(Unit))×((List (List UInt8)))):=default
def Wh.DN (xs:(List UInt8)×(Int)):Option (((List (List UInt8)))×(Unit)):=
 let fN:=xs.1
 let zL:=xs.2
 let Ar:Wh.Ua:=((0,0,fN,(),zL),[])
 bif lF Wh.Aj Ar then
  let Aa:=kG Wh.Aj Wh.aa5 Ar
  let N0:=Aa.1.1
  let KO:=Aa.1.2.1
  let zH:=Aa.2
  let zN:List (List UInt8):=[List.take (Int.toNat ((↑(List.length KO):Int)-N0)) (List.drop (Int.toNat N0) KO)]
  let yg:List (List UInt8):=zH++zN
  bif iy [decide (List.length zH+(1:Nat)≤dh),decide (0≤N0),decide (N0≤(↑(List.length KO):Int)),decide ((↑(List.length KO):Int)≤(↑(List.length KO):Int))] then
   some (yg,())
  else none
 else none
def Wh.T_:=bx Wh.DN
theorem Wh.Ub:OV Wh.DN Wh.T_:=e_ _
abbrev Wh.T3:Type:=((Int)×(List UInt8))×(Unit)
abbrev Wh.ahK:Type:=((((Bool))×(Unit))⊕(((List UInt8))×(Unit)))
def Wh.A8 (x:Wh.T3):Option (Wh.T3⊕Wh.ahK):=
 let yp:=x.1.1
 let PE:=x.1.2
 let yU:=decide (yp<(↑(List.length PE):Int))
 bif yU then
  let yu:Int:=(↑(UInt8.toNat (List.getD PE (Int.toNat yp) (0:UInt8))):Int)
  let xO:=bif decide (yu<97) then true else decide (yu>122)
  bif iy [!!decide (yu<97) || decide (0≤yp),!!decide (yu<97) || yU,decide (0≤yp),yU] then
   bif xO then
    some (.inr (.inl (false,())))
   else
    some (.inl (((IntKind.wrap .i64 (yp+1)),PE),()))
  else none
 else
  some (.inr (.inr (PE,())))
def Wh.aaZ:(((Bool))×(Unit))⊕(((List UInt8))×(Unit)):=.inl default
def Wh.Cg (xs:(List UInt8)):Option (((Bool))×(Unit)):=
 let zi:=xs
 let x_17:Wh.T3:=((0,zi),())
 bif lF Wh.A8 x_17 then
  sumC (kG Wh.A8 Wh.aaZ x_17) (fun B6=>
   let n_:=B6.1
   some (n_,())) (fun Lj=>
   let ac7:=Lj.1
   let r_22:=Wh.nW ((↑(List.length ac7):Int),1,6)
   bif iy [nQ (Wh.xe ((↑(List.length ac7):Int),1,6))] then
    some (r_22.1,())
   else none)
 else none
def Wh.OG:=bx Wh.Cg
theorem Wh.T4:OV Wh.Cg Wh.OG:=e_ _
def Wh.Ck (xs:(an.D)):Option (((Bool))×(Unit)):=
 let t_0:an.D:=xs
 let r_1:=Wh.nW (t_0.1,0,1)
 let r_2:=Wh.OG t_0.2.1
 let xT:=Wh.nW ((↑(List.length ((t_0.2.2.2).1)):Int),1,300)
 let w8:=bif bif r_1.1 then r_2.1 else false then xT.1 else false
 bif iy [(!bif r_1.1 then r_2.1 else false) || nQ (Wh.xe ((↑(List.length ((t_0.2.2.2).1)):Int),1,300)),!r_1.1 || nQ (Wh.Cg t_0.2.1),nQ (Wh.xe (t_0.1,0,1))] then
  some (w8,())
 else none
def Wh.D5:=bx Wh.Ck
theorem Wh.D6:OV Wh.Ck Wh.D5:=e_ _
def Wh.q41 (xs:(Int)×(List UInt8)×(List UInt8)):Option (((List UInt8))×(Unit)):=
 let EN:=xs.1
 let zp:=xs.2.1
 let Bb:=xs.2.2
 let w9:=Bb == []
 bif w9 then
  let nE:=Wh.D5 (EN,zp,0,[(120:UInt8)],())
  bif iy [nQ (Wh.Ck (EN,zp,0,[(120:UInt8)],()))] then
   bif !nE.1 then
    some ([],())
   else
    let xT:=Wh.Ci EN
    let zw:=xT.1 ++ [(32:UInt8)]++zp ++ [(58:UInt8)]++Bb
    bif iy [decide (List.length (xT.1 ++ [(32:UInt8)]++zp ++ [(58:UInt8)])+List.length Bb≤dh),decide (List.length (xT.1 ++ [(32:UInt8)]++zp)+(1:Nat)≤dh),decide (List.length (xT.1 ++ [(32:UInt8)])+List.length zp≤dh),decide (List.length xT.1+(1:Nat)≤dh),nQ (Wh.CY EN)] then
     some (zw,())
    else none
  else none
 else
  let FW:=Wh.D5 (EN,zp,0,Bb,())
  bif iy [nQ (Wh.Ck (EN,zp,0,Bb,()))] then
   bif !FW.1 then
    some ([],())
   else
    let zY:=Wh.Ci EN
    let xS:=zY.1 ++ [(32:UInt8)]++zp ++ [(58:UInt8)]++Bb
    bif iy [decide (List.length (zY.1 ++ [(32:UInt8)]++zp ++ [(58:UInt8)])+List.length Bb≤dh),decide (List.length (zY.1 ++ [(32:UInt8)]++zp)+(1:Nat)≤dh),decide (List.length (zY.1 ++ [(32:UInt8)])+List.length zp≤dh),decide (List.length zY.1+(1:Nat)≤dh),nQ (Wh.CY EN)] then
     some (xS,())
    else none
  else none
def Wh.q41':=bx Wh.q41
theorem Wh.Vp:OV Wh.q41 Wh.q41':=e_ _
def Wh.G0 (xs:(an.D)×(Int)×(List UInt8)):Option (((Bool))×(Unit)):=
 let bn:=xs.1
 let x6:=xs.2.1
 let yZ:=xs.2.2
 let yB:=bif decide (bn.1<x6) then true else bif bn.1==x6 then Go.Op.bytesLess bn.2.1 yZ else false
 some (yB,())
def Wh.OK:=bx Wh.G0
theorem Wh.OL:OV Wh.G0 Wh.OK:=e_ _
abbrev Wh.TG:Type:=((Int)×(List (an.D))×(Int)×(Int))×(Unit)
abbrev Wh.ahC:Type:=((((Int))×(Unit)))
def Wh.DH (x:Wh.TG):Option (Wh.TG⊕Wh.ahC):=
 let mb:=x.1.1
 let Oa:=x.1.2.1
 let Gy:=(x.1.2.2).1
 let Gk:=x.1.2.2.2
 let nG:Int:=(↑(List.length Oa):Int)
 bif decide (mb<nG) then
  let wX:an.D:=List.getD Oa (Int.toNat mb) (0,[],0,[],())
  bif iy [decide (0≤mb),decide (mb<nG)] then
   bif(wX.1==Gk) then
    bif iy [decide (0≤mb),decide (mb<nG)] then
     some (.inl (((IntKind.wrap .i64 (mb+1)),Oa,(IntKind.wrap .i64 (Gy+(↑(List.length ((wX.2.2.2).1)):Int))),Gk),()))
    else none
   else
    some (.inl (((IntKind.wrap .i64 (mb+1)),Oa,Gy,Gk),()))
  else none
 else
  some (.inr (Gy,()))
def Wh.aaJ:(((Int))×(Unit)):=default
def Wh.Fa (xs:(List (an.D))×(Int)):Option (((Int))×(Unit)):=
 let list_0:=xs.1
 let x6:=xs.2
 let Ar:Wh.TG:=((0,list_0,0,x6),())
 bif lF Wh.DH Ar then
  let Aa:=kG Wh.DH Wh.aaJ Ar
  let n_30:=Aa.1
  some (n_30,())
 else none
def Wh.Oy:=bx Wh.Fa
theorem Wh.Oz:OV Wh.Fa Wh.Oy:=e_ _
abbrev Wh.UJ:Type:=((Int)×(Unit))×((fk.D))
abbrev Wh.ah3:Type:=((((Bool))×(Unit))⊕((Unit)×(Unit)))
def Wh.Hf (x:Wh.UJ):Option (Wh.UJ⊕Wh.ah3):=
 let h_66:=x.1.1
 let J2:=x.2
 bif decide (h_66<2) then
  let r_69:=Wh.Oy (J2.2.1,h_66)
  bif iy [nQ (Wh.Fa (J2.2.1,h_66))] then
   bif decide (r_69.1>500) then
    some (.inr (.inl (false,())))
   else
    some (.inl (((IntKind.wrap .i64 (h_66+1)),()),J2))
  else none
 else
  some (.inr (.inr ((),())))
def Wh.abr:(((Bool))×(Unit))⊕((Unit)×(Unit)):=.inl default
abbrev Wh.UI:Type:=((Int)×(Unit)×(Unit)×(Int))×((an.D)×(fk.D))
abbrev Wh.ah2:Type:=((((Bool))×(Unit))⊕(((Unit)×(Int))×((fk.D))))
def Wh.Fm (x:Wh.UI):Option (Wh.UI⊕Wh.ah2):=
 let JX:=x.1.1
 let Au:=x.1.2.2.2
 let Ag:=x.2.1
 let Oc:=x.2.2
 bif decide (JX<Au) then
  let yz:an.D:=List.getD Oc.2.1 (Int.toNat JX) (0,[],0,[],())
  bif iy [decide (0≤JX),decide (JX<(↑(List.length Oc.2.1):Int))] then
   bif(yz.2.2.1==Ag.2.2.1) then
    some (.inr (.inl (false,())))
   else
    some (.inl (((IntKind.wrap .i64 (JX+1)),(),(),Au),Ag,Oc))
  else none
 else
  some (.inr (.inr (((),Au),Oc)))
def Wh.abq:(((Bool))×(Unit))⊕(((Unit)×(Int))×((fk.D))):=.inl default
abbrev Wh.UH:Type:=((Unit)×(Int))×((fk.D))
abbrev Wh.ah1:Type:=((((Bool))×(Unit))⊕(((Unit))×((fk.D))))
def Wh.DW (x:Wh.UH):Option (Wh.UH⊕Wh.ah1):=
 let Bg:=x.1.2
 let yE:=x.2
 let KW:Int:=(↑(List.length yE.2.1):Int)
 bif decide (Bg<KW) then
  let Dz:an.D:=List.getD yE.2.1 (Int.toNat Bg) (0,[],0,[],())
  bif iy [decide (0≤Bg),decide (Bg<KW)] then
   let HG:=Wh.D5 Dz
   let Pn:=Wh.nW (Dz.2.2.1,1,yE.1)
   let r_46:=Wh.OK (List.getD yE.2.1 (Int.toNat (IntKind.wrap .i64 (Bg-1))) (0,[],0,[],()),Dz.1,Dz.2.1)
   let KX:=bif bif !HG.1 then true else !Pn.1 then true else bif decide (Bg>0) then !r_46.1 else false
   bif iy [!(decide (Bg>0) && !bif !HG.1 then true else !Pn.1) || nQ (Wh.G0 (List.getD yE.2.1 (Int.toNat (IntKind.wrap .i64 (Bg-1))) (0,[],0,[],()),Dz.1,Dz.2.1)),!(decide (Bg>0) && !bif !HG.1 then true else !Pn.1) || decide (0≤IntKind.wrap .i64 (Bg-1)),!(decide (Bg>0) && !bif !HG.1 then true else !Pn.1) || decide (IntKind.wrap .i64 (Bg-1)<KW),!!!HG.1 || nQ (Wh.xe (Dz.2.2.1,1,yE.1)),nQ (Wh.Ck Dz)] then
    bif KX then
     some (.inr (.inl (false,())))
    else
     let Cz:Wh.UI:=((0,(),(),Bg),Dz,yE)
     bif lF Wh.Fm Cz then
      sumC (kG Wh.Fm Wh.abq Cz) (fun Df=>
       let y5:=Df.1
       some (.inr (.inl (y5,())))) (fun PW=>
       let i_52:=PW.1.2
       let ls_53:=PW.2
       some (.inl (((),(IntKind.wrap .i64 (i_52+1))),ls_53)))
     else none
   else none
  else none
 else
  some (.inr (.inr ((),yE)))
def Wh.abp:(((Bool))×(Unit))⊕(((Unit))×((fk.D))):=.inl default
def Wh.Fl (xs:(fk.D)):Option (((Bool))×(Unit)):=
 let fe:fk.D:=xs
 let r_1:=Wh.nW (fe.1,0,99999)
 let v_2:=bif !r_1.1 then true else decide ((↑(List.length fe.2.1):Int)>8)
 bif iy [nQ (Wh.xe (fe.1,0,99999))] then
  bif v_2 then
   some (false,())
  else
   let Lb:Wh.UH:=(((),0),fe)
   bif lF Wh.DW Lb then
    sumC (kG Wh.DW Wh.abp Lb) (fun y_56=>
     let AF:=y_56.1
     some (AF,())) (fun z_57=>
     let ls_59:=z_57.2
     let x_72:Wh.UJ:=((0,()),ls_59)
     bif lF Wh.Hf x_72 then
      sumC (kG Wh.Hf Wh.abr x_72) (fun y_73=>
       let v_75:=y_73.1
       some (v_75,())) (fun _=>
       some (true,()))
     else none)
   else none
 else none
def Wh.OU:=bx Wh.Fl
theorem Wh.IJ:OV Wh.Fl Wh.OU:=e_ _
abbrev Wh.U6:Type:=((Int)×(List UInt8)×(Unit)×(Int))×((fk.D))
abbrev Wh.aie:Type:=((((Int))×(Unit))⊕((Unit)×(Unit)))
def Wh.D4 (x:Wh.U6):Option (Wh.U6⊕Wh.aie):=
 let zk:=x.1.1
 let Z7:=x.1.2.1
 let N6:=x.1.2.2.2
 let xd:=x.2
 let nP:Int:=(↑(List.length xd.2.1):Int)
 bif decide (zk<nP) then
  let n_:an.D:=List.getD xd.2.1 (Int.toNat zk) (0,[],0,[],())
  let zJ:=bif n_.1==N6 then n_.2.1==Z7 else false
  bif iy [!n_.1==N6 || decide (0≤zk),!n_.1==N6 || decide (zk<nP),decide (0≤zk),decide (zk<nP)] then
   bif zJ then
    some (.inr (.inl (zk,())))
   else
    some (.inl (((IntKind.wrap .i64 (zk+1)),Z7,(),N6),xd))
  else none
 else
  some (.inr (.inr ((),())))
def Wh.abI:(((Int))×(Unit))⊕((Unit)×(Unit)):=.inl default
def Wh.Cj (xs:(fk.D)×(Int)×(List UInt8)):Option (((Int))×(Unit)):=
 let fe:=xs.1
 let x6:=xs.2.1
 let yZ:=xs.2.2
 let x_25:Wh.U6:=((0,yZ,(),x6),fe)
 bif lF Wh.D4 x_25 then
  sumC (kG Wh.D4 Wh.abI x_25) (fun y8=>
   let vT:=y8.1
   some (vT,())) (fun _=>
   some (-1,()))
 else none
def Wh.O2:=bx Wh.Cj
theorem Wh.Kz:OV Wh.Cj Wh.O2:=e_ _
def Wh.CU (xs:(fk.D)):Option ((((Int)×((List (an.D))×(Unit))))×(Unit)):=
 let fe:fk.D:=xs
 let zf:List (an.D):=[]++fe.2.1
 bif iy [decide ((0:Nat)+List.length fe.2.1≤dh)] then
  some ((fe.1,zf,fe.2.2),())
 else none
def Wh.IG:=bx Wh.CU
theorem Wh.Kl:OV Wh.CU Wh.IG:=e_ _
def Wh.G1 (xs:(fk.D)×(Int)):Option ((((Int)×((List (an.D))×(Unit))))×(Unit)):=
 let fe:=xs.1
 let k_1:=xs.2
 let pb_2:List (an.D):=[]++List.take (Int.toNat (k_1-0)) (List.drop (Int.toNat 0) fe.2.1)
 let pb_3:List (an.D):=pb_2++List.take (Int.toNat ((↑(List.length fe.2.1):Int)-IntKind.wrap .i64 (k_1+1))) (List.drop (Int.toNat (IntKind.wrap .i64 (k_1+1))) fe.2.1)
 let x7:List (an.D):=List.take (Int.toNat (k_1-0)) (List.drop (Int.toNat 0) fe.2.1)
 let yB:=IntKind.wrap .i64 (k_1+1)
 bif iy [decide (List.length pb_2+List.length (List.take (Int.toNat ((↑(List.length fe.2.1):Int)-yB)) (List.drop (Int.toNat yB) fe.2.1))≤dh),decide (0≤yB),decide (yB≤(↑(List.length fe.2.1):Int)),decide ((↑(List.length fe.2.1):Int)≤(↑(List.length fe.2.1):Int)),decide ((0:Nat)+List.length x7≤dh),true,decide (0≤k_1),decide (k_1≤(↑(List.length fe.2.1):Int))] then
  some ((fe.1,pb_3,()),())
 else none
def Wh.Um:=bx Wh.G1
theorem Wh.aa_:OV Wh.G1 Wh.Um:=e_ _
def Wh.E7 (xs:(fk.D)×(Int)×(List UInt8)):Option ((((Int)×((List (an.D))×(Unit)))×(Int))×(Unit)):=
 let fe:=xs.1
 let x6:=xs.2.1
 let yZ:=xs.2.2
 let r_3:=Wh.OU fe
 bif iy [nQ (Wh.Fl fe)] then
  bif !r_3.1 then
   some (((0,[],()),1),())
  else
   let nE:=Wh.O2 (fe,x6,yZ)
   bif iy [nQ (Wh.Cj (fe,x6,yZ))] then
    bif decide (nE.1<0) then
     let yG:=Wh.IG fe
     bif iy [nQ (Wh.CU fe)] then
      some ((yG.1,3),())
     else none
    else
     let A_:=Wh.Um (fe,nE.1)
     bif iy [nQ (Wh.G1 (fe,nE.1))] then
      some ((A_.1,0),())
     else none
   else none
 else none
def Wh.Ox:=bx Wh.E7
theorem Wh.aas:OV Wh.E7 Wh.Ox:=e_ _
abbrev Wh.U1:Type:=((Int)×(Unit)×(Unit)×(Unit))×(((Int)×((Unit)×(Unit)))×(fk.D)×(an.D)×(List (an.D)))
abbrev Wh.aic:Type:=((((Unit)×(Int)×(Unit)×(Unit))×(((Int)×((Unit)×(Unit)))×(fk.D)×(an.D)×(List (an.D)))))
def Wh.D3 (x:Wh.U1):Option (Wh.U1⊕Wh.aic):=
 let CD:=x.1.1
 let yD:=x.2.1.1
 let BQ:=x.2.1.2.2
 let xd:=x.2.2.1
 let xb:=(x.2.2.2).1
 let yx:=x.2.2.2.2
 let n_:Int:=(↑(List.length xd.2.1):Int)
 let x9:=Wh.OK (List.getD xd.2.1 (Int.toNat CD) (0,[],0,[],()),xb.1,xb.2.1)
 let yK:=bif decide (CD<n_) then x9.1 else false
 bif iy [!decide (CD<n_) || nQ (Wh.G0 (List.getD xd.2.1 (Int.toNat CD) (0,[],0,[],()),xb.1,xb.2.1)),!decide (CD<n_) || decide (0≤CD),!decide (CD<n_) || decide (CD<n_)] then
  bif yK then
   some (.inl (((IntKind.wrap .i64 (CD+1)),(),(),()),(yD,(),BQ),xd,xb,yx))
  else
   some (.inr (((),CD,(),()),(yD,(),BQ),xd,xb,yx))
 else none
def Wh.abE:(((Unit)×(Int)×(Unit)×(Unit))×(((Int)×((Unit)×(Unit)))×(fk.D)×(an.D)×(List (an.D)))):=default
def Wh.Hl (xs:(fk.D)×(an.D)):Option ((((Int)×((List (an.D))×(Unit))))×(Unit)):=
 let fe:=xs.1
 let t_1:=xs.2
 let Aq:Wh.U1:=((0,(),(),()),(0,(),()),fe,t_1,[])
 bif lF Wh.D3 Aq then
  let BD:=kG Wh.D3 Wh.abE Aq
  let CE:=BD.1.2.1
  let zW:=BD.2.2.1
  let zH:=(BD.2.2.2).1
  let Bk:=IntKind.wrap .i64 (zW.1+1)
  let Ta:List (an.D):=[]++List.take (Int.toNat (CE-0)) (List.drop (Int.toNat 0) zW.2.1)
  let Ou:List (an.D):=[(zH.1,zH.2.1,Bk,zH.2.2.2)]
  let pb_38:List (an.D):=Ta++Ou++List.take (Int.toNat ((↑(List.length zW.2.1):Int)-CE)) (List.drop (Int.toNat CE) zW.2.1)
  let KW:List (an.D):=List.take (Int.toNat (CE-0)) (List.drop (Int.toNat 0) zW.2.1)
  let AE:List (an.D):=List.take (Int.toNat ((↑(List.length zW.2.1):Int)-CE)) (List.drop (Int.toNat CE) zW.2.1)
  bif iy [decide (List.length (Ta++Ou)+List.length AE≤dh),decide (0≤CE),decide (CE≤(↑(List.length zW.2.1):Int)),decide ((↑(List.length zW.2.1):Int)≤(↑(List.length zW.2.1):Int)),decide (List.length Ta+(1:Nat)≤dh),decide ((0:Nat)+List.length KW≤dh),true,decide (0≤CE),decide (CE≤(↑(List.length zW.2.1):Int))] then
   some ((Bk,pb_38,()),())
  else none
 else none
def Wh.U0:=bx Wh.Hl
theorem Wh.abF:OV Wh.Hl Wh.U0:=e_ _
def Wh.DM (xs:(fk.D)×(Int)×(List UInt8)×(List UInt8)):Option ((((Int)×((List (an.D))×(Unit)))×(Int))×(Unit)):=
 let fe:=xs.1
 let x6:=xs.2.1
 let yZ:=xs.2.2.1
 let Da:=xs.2.2.2
 let nE:=Wh.OU fe
 bif iy [nQ (Wh.Fl fe)] then
  bif !nE.1 then
   some (((0,[],()),1),())
  else
   let xT:=Wh.D5 (x6,yZ,0,Da,())
   bif iy [nQ (Wh.Ck (x6,yZ,0,Da,()))] then
    bif !xT.1 then
     let yG:=Wh.IG fe
     bif iy [nQ (Wh.CU fe)] then
      some ((yG.1,1),())
     else none
    else
     let A_:=Wh.O2 (fe,x6,yZ)
     bif iy [nQ (Wh.Cj (fe,x6,yZ))] then
      bif decide (A_.1≥0) then
       let BW:=Wh.IG fe
       bif iy [nQ (Wh.CU fe)] then
        some ((BW.1,2),())
       else none
      else
       let yU:Int:=(↑(List.length fe.2.1):Int)
       let C7:=Wh.Oy (fe.2.1,x6)
       let nP:=bif bif decide (yU≥8) then true else decide (fe.1≥99999) then true else decide (IntKind.wrap .i64 (C7.1+(↑(List.length Da):Int))>500)
       bif iy [(!!bif decide (yU≥8) then true else decide (fe.1≥99999)) || nQ (Wh.Fa (fe.2.1,x6))] then
        bif nP then
         let HF:=Wh.IG fe
         bif iy [nQ (Wh.CU fe)] then
          some ((HF.1,4),())
         else none
        else
         let y2:=Wh.U0 (fe,x6,yZ,0,Da,())
         bif iy [nQ (Wh.Hl (fe,x6,yZ,0,Da,()))] then
          some ((y2.1,0),())
         else none
       else none
     else none
   else none
 else none
def Wh.OF:=bx Wh.DM
theorem Wh.aaY:OV Wh.DM Wh.OF:=e_ _
def Wh.DP (xs:(fk.D)×(List UInt8)):Option ((((Int)×((List (an.D))×(Unit)))×(Bool))×(Unit)):=
 let fe:=xs.1
 let s_1:=xs.2
 let r_2:=Wh.Kj (s_1,0,58)
 bif iy [nQ (Wh.zR (s_1,0,58))] then
  bif decide (r_2.1<0) then
   some (((0,[],()),false),())
  else
   let nE:=Wh.T_ (List.take (Int.toNat (r_2.1-0)) (List.drop (Int.toNat 0) s_1),32)
   let yB:List UInt8:=List.take (Int.toNat (r_2.1-0)) (List.drop (Int.toNat 0) s_1)
   bif iy [nQ (Wh.DN (yB,32)),true,decide (0≤r_2.1),decide (r_2.1≤(↑(List.length s_1):Int))] then
    let zZ:=IntKind.wrap .i64 (r_2.1+1)
    let EA:List UInt8:=List.take (Int.toNat ((↑(List.length s_1):Int)-zZ)) (List.drop (Int.toNat zZ) s_1)
    bif iy [decide (0≤zZ),decide (zZ≤(↑(List.length s_1):Int)),decide ((↑(List.length s_1):Int)≤(↑(List.length s_1):Int))] then
     let yd:Int:=(↑(List.length nE.1):Int)
     let zY:=Wh.Kx (List.getD nE.1 (Int.toNat 0) [])
     let FX:=Wh.q41' (zY.1,List.getD nE.1 (Int.toNat 1) [],EA)
     let s_:=bif yd != 2 then true else !FX.1==s_1
     bif iy [!!yd != 2 || nQ (Wh.q41 (zY.1,List.getD nE.1 (Int.toNat 1) [],EA)),!!yd != 2 || decide ((0:Int)≤1),!!yd != 2 || decide (1<yd),!!yd != 2 || nQ (Wh.Br (List.getD nE.1 (Int.toNat 0) [])),!!yd != 2 || decide ((0:Int)≤0),!!yd != 2 || decide (0<yd)] then
      bif s_ then
       some (((0,[],()),false),())
      else
       let xO:=EA == []
       bif xO then
        let C7:=Wh.Ox (fe,zY.1,List.getD nE.1 (Int.toNat 1) [])
        let nG:=List.getD nE.1 (Int.toNat 0) []
        let n_:=List.getD nE.1 (Int.toNat 1) []
        let r_30:=Wh.Ox (fe,zY.1,n_)
        bif iy [nQ (Wh.E7 (fe,zY.1,n_)),true,decide (1<yd),nQ (Wh.Br nG),true,decide (0<yd)] then
         some (((C7.1.1.1,(C7.1.1.2).1,C7.1.1.2.2),(r_30.1.2==0)),())
        else none
       else
        let xZ:=Wh.OF (fe,zY.1,List.getD nE.1 (Int.toNat 1) [],EA)
        let yF:=List.getD nE.1 (Int.toNat 0) []
        let ym:=List.getD nE.1 (Int.toNat 1) []
        let r_46:=Wh.OF (fe,zY.1,ym,EA)
        bif iy [nQ (Wh.DM (fe,zY.1,ym,EA)),true,decide (1<yd),nQ (Wh.Br yF),true,decide (0<yd)] then
         some (((xZ.1.1.1,(xZ.1.1.2).1,xZ.1.1.2.2),(r_46.1.2==0)),())
        else none
     else none
    else none
   else none
 else none
def Wh.Uk:=bx Wh.DP
theorem Wh.Ul:OV Wh.DP Wh.Uk:=e_ _
abbrev Wh.UG:Type:=((Unit)×(Int)×(Unit)×(List (List UInt8)))×(((Int)×((Unit)×(Unit)))×((Int)×((Unit)×(Unit)))×(List (an.D))×(List (an.D)))
abbrev Wh.ah0:Type:=((((Unit)×(Bool))×(((Int)×((Unit)×(Unit)))×(List (an.D))))⊕(((Unit)×(Unit))×(((Int)×((Unit)×(Unit)))×((Int)×((Unit)×(Unit)))×(List (an.D))×(List (an.D)))))
def Wh.DU (x:Wh.UG):Option (Wh.UG⊕Wh.ah0):=
 let mb:=x.1.2.1
 let Pv:=x.1.2.2.2
 let xd:=x.2.1.1
 let xb:=x.2.1.2.2
 let yx:=x.2.2.1.1
 let yN:=(x.2.2.1).2.2
 let zc:=(x.2.2.2).1
 let zm:=x.2.2.2.2
 let zJ:Int:=(↑(List.length Pv):Int)
 bif decide (mb<zJ) then
  let BX:=Wh.Uk ((yx,zm,yN),List.getD Pv (Int.toNat mb) [])
  let xR:=List.getD Pv (Int.toNat mb) []
  bif iy [nQ (Wh.DP ((yx,zm,yN),xR)),decide (0≤mb),decide (mb<zJ)] then
   bif(!BX.1.2) then
    some (.inr (.inl (((),false),(0,(),()),[])))
   else
    some (.inl (((),(IntKind.wrap .i64 (mb+1)),(),Pv),(xd,(),xb),(BX.1.1.1,(),BX.1.1.2.2),zc,(BX.1.1.2).1))
  else none
 else
  some (.inr (.inr (((),()),(xd,(),xb),(yx,(),yN),zc,zm)))
def Wh.abo:(((Unit)×(Bool))×(((Int)×((Unit)×(Unit)))×(List (an.D))))⊕(((Unit)×(Unit))×(((Int)×((Unit)×(Unit)))×((Int)×((Unit)×(Unit)))×(List (an.D))×(List (an.D)))):=.inl default
def Wh.CW (xs:(List (List UInt8))):Option ((((Int)×((List (an.D))×(Unit)))×(Bool))×(Unit)):=
 let Pu:List (List UInt8):=xs
 let F4:Wh.UG:=(((),0,(),Pu),(0,(),()),(0,(),()),[],[])
 bif lF Wh.DU F4 then
  sumC (kG Wh.DU Wh.abo F4) (fun F8=>
   let v_32:=F8.1.2
   let Ah:=F8.2.1.1
   let yg:=F8.2.1.2.2
   let yH:=F8.2.2
   some (((Ah,yH,yg),v_32),())) (fun I1=>
   let yE:=I1.2.2.1.1
   let z8:=(I1.2.2.1).2.2
   let ls_41:=I1.2.2.2.2
   some (((yE,ls_41,z8),true),()))
 else none
def Wh.Ko:=bx Wh.CW
theorem Wh.OT:OV Wh.CW Wh.Ko:=e_ _
def Wh.GF (xs:(nC.D)):Option (((Bool))×(Unit)):=
 let fN:nC.D:=xs
 let r_1:=Wh.Kk (fN.2.2.1)
 bif iy [nQ (Wh.Ch (fN.2.2.1))] then
  let r_2:=Wh.Ko r_1.1.1
  bif iy [nQ (Wh.CW r_1.1.1)] then
   some (r_2.1.2,())
  else none
 else none
def Wh.Ts:=bx Wh.GF
theorem Wh.aaz:OV Wh.GF Wh.Ts:=e_ _
abbrev Wh.Tr:Type:=((Int)×(Unit)×(Unit))×((fk.D)×(fk.D))
abbrev Wh.ahv:Type:=((((Bool))×(Unit))⊕((Unit)×(Unit)))
def Wh.DF (x:Wh.Tr):Option (Wh.Tr⊕Wh.ahv):=
 let yR:=x.1.1
 let xV:=x.2.1
 let yD:=x.2.2
 let vN:Int:=(↑(List.length yD.2.1):Int)
 bif decide (yR<vN) then
  let nP:an.D:=List.getD yD.2.1 (Int.toNat yR) (0,[],0,[],())
  let nG:an.D:=List.getD xV.2.1 (Int.toNat yR) (0,[],0,[],())
  bif iy [decide (0≤yR),decide (yR<(↑(List.length xV.2.1):Int)),decide (0≤yR),decide (yR<vN)] then
   bif(!(nP.1==nG.1&&(nP.2.1==nG.2.1&&(nP.2.2.1==nG.2.2.1&&((nP.2.2.2).1==(nG.2.2.2).1&&true))))) then
    some (.inr (.inl (false,())))
   else
    some (.inl (((IntKind.wrap .i64 (yR+1)),(),()),xV,yD))
  else none
 else
  some (.inr (.inr ((),())))
def Wh.aax:(((Bool))×(Unit))⊕((Unit)×(Unit)):=.inl default
def Wh.DE (xs:(fk.D)×(fk.D)):Option (((Bool))×(Unit)):=
 let bn:=xs.1
 let b_1:=xs.2
 let w9:=bif(bn.1 != b_1.1) then true else(↑(List.length bn.2.1):Int) != (↑(List.length b_1.2.1):Int)
 bif w9 then
  some (false,())
 else
  let x_22:Wh.Tr:=((0,(),()),b_1,bn)
  bif lF Wh.DF x_22 then
   sumC (kG Wh.DF Wh.aax x_22) (fun y_23=>
    let zy:=y_23.1
    some (zy,())) (fun _=>
    some (true,()))
  else none
def Wh.Tq:=bx Wh.DE
theorem Wh.aay:OV Wh.DE Wh.Tq:=e_ _
def Wh.Fp (xs:(ng.D)):Option (((Bool))×(Unit)):=
 let AY:ng.D:=xs
 bif(AY.2.1==0) then
  some ((AY.1==0&&(AY.2.1==0&&(AY.2.2.1==0&&((AY.2.2.2).1==0&&(AY.2.2.2.2.1==false&&true))))),())
 else
  let r_3:=Wh.nW (AY.1,0,1)
  let nE:=Wh.nW (AY.2.1,1,99999)
  let A_:=Wh.nW (AY.2.2.1,0,23)
  let BW:=Wh.nW ((AY.2.2.2).1,0,99999)
  let yu:=bif bif bif r_3.1 then nE.1 else false then A_.1 else false then BW.1 else false
  bif iy [(!bif bif r_3.1 then nE.1 else false then A_.1 else false) || nQ (Wh.xe ((AY.2.2.2).1,0,99999)),(!bif r_3.1 then nE.1 else false) || nQ (Wh.xe (AY.2.2.1,0,23)),!r_3.1 || nQ (Wh.xe (AY.2.1,1,99999)),nQ (Wh.xe (AY.1,0,1))] then
   some (yu,())
  else none
def Wh.UO:=bx Wh.Fp
theorem Wh.OX:OV Wh.Fp Wh.UO:=e_ _
abbrev Wh.UN:Type:=((Int)×(Int)×(Int)×(Unit))×((n5.D))
abbrev Wh.ah5:Type:=((((Int))×(Unit)))
def Wh.DY (x:Wh.UN):Option (Wh.UN⊕Wh.ah5):=
 let mb:=x.1.1
 let Gx:=x.1.2.1
 let Gj:=(x.1.2.2).1
 let xb:=x.2
 let nG:Int:=(↑(List.length xb.1):Int)
 bif decide (mb<nG) then
  let wX:ng.D:=List.getD xb.1 (Int.toNat mb) (0,0,0,0,false,())
  let yK:=bif decide (wX.2.1>0) then wX.1==Gj else false
  bif iy [!decide (wX.2.1>0) || decide (0≤mb),!decide (wX.2.1>0) || decide (mb<nG),decide (0≤mb),decide (mb<nG)] then
   bif yK then
    some (.inl (((IntKind.wrap .i64 (mb+1)),(IntKind.wrap .i64 (Gx+1)),Gj,()),xb))
   else
    some (.inl (((IntKind.wrap .i64 (mb+1)),Gx,Gj,()),xb))
  else none
 else
  some (.inr (Gx,()))
def Wh.abu:(((Int))×(Unit)):=default
def Wh.Hg (xs:(n5.D)×(Int)):Option (((Int))×(Unit)):=
 let wh:=xs.1
 let x6:=xs.2
 let Ar:Wh.UN:=((0,0,x6,()),wh)
 bif lF Wh.DY Ar then
  let Aa:=kG Wh.DY Wh.abu Ar
  let n_30:=Aa.1
  some (n_30,())
 else none
def Wh.UM:=bx Wh.Hg
theorem Wh.IK:OV Wh.Hg Wh.UM:=e_ _
abbrev Wh.T9:Type:=((Int)×(Unit))×((n5.D))
abbrev Wh.ahO:Type:=((((Bool))×(Unit))⊕((Unit)×(Unit)))
def Wh.CR (x:Wh.T9):Option (Wh.T9⊕Wh.ahO):=
 let h_67:=x.1.1
 let SM:=x.2
 bif decide (h_67<2) then
  let r_70:=Wh.UM (SM,h_67)
  bif iy [nQ (Wh.Hg (SM,h_67))] then
   bif decide (r_70.1>5) then
    some (.inr (.inl (false,())))
   else
    some (.inl (((IntKind.wrap .i64 (h_67+1)),()),SM))
  else none
 else
  some (.inr (.inr ((),())))
def Wh.aa3:(((Bool))×(Unit))⊕((Unit)×(Unit)):=.inl default
abbrev Wh.T8:Type:=((Int)×(Unit)×(Int))×((n5.D))
abbrev Wh.ahN:Type:=((((Bool))×(Unit))⊕(((Unit)×(Int))×((n5.D))))
def Wh.A9 (x:Wh.T8):Option (Wh.T8⊕Wh.ahN):=
 let BN:=x.1.1
 let Af:=x.1.2.2
 let zG:=x.2
 bif decide (BN<Af) then
  let vT:ng.D:=List.getD zG.1 (Int.toNat Af) (0,0,0,0,false,())
  let yA:=bif bif decide (vT.2.1>0) then vT.2.1==Prod.fst (Prod.snd (List.getD zG.1 (Int.toNat BN) (0,0,0,0,false,()))) else false then vT.2.2.1==Prod.fst (Prod.snd (Prod.snd (List.getD zG.1 (Int.toNat BN) (0,0,0,0,false,())))) else false
  bif iy [(!bif decide (vT.2.1>0) then vT.2.1==Prod.fst (Prod.snd (List.getD zG.1 (Int.toNat BN) (0,0,0,0,false,()))) else false) || decide (0≤BN),(!bif decide (vT.2.1>0) then vT.2.1==Prod.fst (Prod.snd (List.getD zG.1 (Int.toNat BN) (0,0,0,0,false,()))) else false) || decide (BN<(↑(List.length zG.1):Int)),(!bif decide (vT.2.1>0) then vT.2.1==Prod.fst (Prod.snd (List.getD zG.1 (Int.toNat BN) (0,0,0,0,false,()))) else false) || decide (0≤Af),(!bif decide (vT.2.1>0) then vT.2.1==Prod.fst (Prod.snd (List.getD zG.1 (Int.toNat BN) (0,0,0,0,false,()))) else false) || decide (Af<(↑(List.length zG.1):Int)),!decide (vT.2.1>0) || decide (0≤BN),!decide (vT.2.1>0) || decide (BN<(↑(List.length zG.1):Int)),!decide (vT.2.1>0) || decide (0≤Af),!decide (vT.2.1>0) || decide (Af<(↑(List.length zG.1):Int)),decide (0≤Af),decide (Af<(↑(List.length zG.1):Int))] then
   bif yA then
    some (.inr (.inl (false,())))
   else
    some (.inl (((IntKind.wrap .i64 (BN+1)),(),Af),zG))
  else none
 else
  some (.inr (.inr (((),Af),zG)))
def Wh.aa2:(((Bool))×(Unit))⊕(((Unit)×(Int))×((n5.D))):=.inl default
abbrev Wh.T7:Type:=((Unit)×(Int))×((n5.D))
abbrev Wh.ahM:Type:=((((Bool))×(Unit))⊕(((Unit))×((n5.D))))
def Wh.CQ (x:Wh.T7):Option (Wh.T7⊕Wh.ahM):=
 let JV:=x.1.2
 let Iw:=x.2
 let v_44:Int:=(↑(List.length Iw.1):Int)
 bif decide (JV<v_44) then
  let IW:ng.D:=List.getD Iw.1 (Int.toNat JV) (0,0,0,0,false,())
  let r_48:=Wh.UO IW
  bif iy [nQ (Wh.Fp IW),decide (0≤JV),decide (JV<v_44)] then
   bif !r_48.1 then
    some (.inr (.inl (false,())))
   else
    let K_:Wh.T8:=((0,(),JV),Iw)
    bif lF Wh.A9 K_ then
     sumC (kG Wh.A9 Wh.aa2 K_) (fun y_50=>
      let KY:=y_50.1
      some (.inr (.inl (KY,())))) (fun z_51=>
      let i_53:=z_51.1.2
      let SH:=z_51.2
      some (.inl (((),(IntKind.wrap .i64 (i_53+1))),SH)))
    else none
  else none
 else
  some (.inr (.inr ((),Iw)))
def Wh.aa1:(((Bool))×(Unit))⊕(((Unit))×((n5.D))):=.inl default
def Wh.Fe (xs:(n5.D)):Option (((Bool))×(Unit)):=
 let wh:n5.D:=xs
 let v_1:Int:=(↑(List.length wh.1):Int)
 let nE:=Wh.nW (wh.2.1,0,7)
 let yB:=bif v_1 != 8 then true else !nE.1
 bif iy [!!v_1 != 8 || nQ (Wh.xe (wh.2.1,0,7))] then
  bif yB then
   some (false,())
  else
   let x_56:Wh.T7:=(((),0),wh)
   bif lF Wh.CQ x_56 then
    sumC (kG Wh.CQ Wh.aa1 x_56) (fun y_57=>
     let v_59:=y_57.1
     some (v_59,())) (fun z_58=>
     let ls_60:=z_58.2
     let Lc:Wh.T9:=((0,()),ls_60)
     bif lF Wh.CR Lc then
      sumC (kG Wh.CR Wh.aa3 Lc) (fun y_74=>
       let v_76:=y_74.1
       some (v_76,())) (fun _=>
       some (true,()))
     else none)
   else none
 else none
def Wh.T6:=bx Wh.Fe
theorem Wh.aa4:OV Wh.Fe Wh.T6:=e_ _
abbrev Wh.Vs:Type:=((Unit)×(Int)×(Unit)×(Int))×(((Int)×((List UInt8)×((Int)×((List UInt8)×(Unit)))))×(fk.D))
abbrev Wh.aiu:Type:=((((Unit)×(Bool))×((an.D)))⊕(((Unit))×(((Int)×((List UInt8)×((Int)×((List UInt8)×(Unit))))))))
def Wh.Ee (x:Wh.Vs):Option (Wh.Vs⊕Wh.aiu):=
 let mb:=x.1.2.1
 let JL:=x.1.2.2.2
 let xd:=x.2.1.1
 let xb:=(x.2.1.2).1
 let yx:=x.2.1.2.2.1
 let yN:=(x.2.1.2.2.2).1
 let zc:=(x.2.1.2.2.2).2
 let zm:=x.2.2
 let zJ:Int:=(↑(List.length zm.2.1):Int)
 bif decide (mb<zJ) then
  let zy:an.D:=List.getD zm.2.1 (Int.toNat mb) (0,[],0,[],())
  bif iy [decide (0≤mb),decide (mb<zJ)] then
   bif(zy.2.2.1==JL) then
    bif iy [decide (0≤mb),decide (mb<zJ)] then
     some (.inr (.inl (((),true),zy)))
    else none
   else
    some (.inl (((),(IntKind.wrap .i64 (mb+1)),(),JL),(xd,xb,yx,yN,zc),zm))
  else none
 else
  some (.inr (.inr ((),xd,xb,yx,yN,zc)))
def Wh.abZ:(((Unit)×(Bool))×((an.D)))⊕(((Unit))×(((Int)×((List UInt8)×((Int)×((List UInt8)×(Unit))))))):=.inl default
def Wh.q44 (xs:(fk.D)×(Int)):Option (((an.D)×(Bool))×(Unit)):=
 let fe:=xs.1
 let Ii:=xs.2
 let Ar:Wh.Vs:=(((),0,(),Ii),(0,[],0,[],()),fe)
 bif lF Wh.Ee Ar then
  sumC (kG Wh.Ee Wh.abZ Ar) (fun Aa=>
   let v_31:=Aa.1.2
   let zH:=Aa.2
   some ((zH,v_31),())) (fun _=>
   some (((0,[],0,[],()),false),()))
 else none
def Wh.O5:=bx Wh.q44
theorem Wh.FE:OV Wh.q44 Wh.O5:=e_ _
def Wh.q80 (xs:(Int)):Option (((Int))×(Unit)):=
 let R2:=xs
 some ((Int.tmod R2 2),())
def Wh.Pb:=bx Wh.q80
theorem Wh.Pd:OV Wh.q80 Wh.Pb:=e_ _
abbrev Wh.Vr:Type:=((Int)×(Unit))×((nC.D))
abbrev Wh.ait:Type:=((((Bool))×(Unit))⊕((Unit)×(Unit)))
def Wh.C3 (x:Wh.Vr):Option (Wh.Vr⊕Wh.ait):=
 let yS:=x.1.1
 let AM:=x.2
 let y4:Int:=(↑(List.length ((AM.2.2.2.2.2).2.1)):Int)
 bif decide (yS<y4) then
  let xY:r_.D:=List.getD ((AM.2.2.2.2.2).2.1) (Int.toNat yS) (0,0,0,0,0,0,())
  bif iy [decide (0≤yS),decide (yS<y4)] then
   let xZ:=Wh.nW (xY.1,0,3)
   let AA:=Wh.nW (xY.2.1,1,99999)
   let Ev:=Wh.nW (xY.2.2.1,1,(AM.2.2.2).1.1)
   let Al:=Wh.nW ((xY.2.2.2).1,0,9999)
   let KL:=Wh.nW (xY.2.2.2.2.1,0,3)
   let HH:=Wh.nW ((xY.2.2.2.2.2).1,0,AM.2.1)
   let EE:=bif bif bif bif bif bif !xZ.1 then true else bif decide (yS>0) then decide (Prod.fst (List.getD ((AM.2.2.2.2.2).2.1) (Int.toNat (IntKind.wrap .i64 (yS-1))) (0,0,0,0,0,0,()))≥xY.1) else false then true else !AA.1 then true else !Ev.1 then true else !Al.1 then true else !KL.1 then true else !HH.1
   bif iy [(!!bif bif bif bif bif !xZ.1 then true else bif decide (yS>0) then decide (Prod.fst (List.getD ((AM.2.2.2.2.2).2.1) (Int.toNat (IntKind.wrap .i64 (yS-1))) (0,0,0,0,0,0,()))≥xY.1) else false then true else !AA.1 then true else !Ev.1 then true else !Al.1 then true else !KL.1) || nQ (Wh.xe ((xY.2.2.2.2.2).1,0,AM.2.1)),(!!bif bif bif bif !xZ.1 then true else bif decide (yS>0) then decide (Prod.fst (List.getD ((AM.2.2.2.2.2).2.1) (Int.toNat (IntKind.wrap .i64 (yS-1))) (0,0,0,0,0,0,()))≥xY.1) else false then true else !AA.1 then true else !Ev.1 then true else !Al.1) || nQ (Wh.xe (xY.2.2.2.2.1,0,3)),(!!bif bif bif !xZ.1 then true else bif decide (yS>0) then decide (Prod.fst (List.getD ((AM.2.2.2.2.2).2.1) (Int.toNat (IntKind.wrap .i64 (yS-1))) (0,0,0,0,0,0,()))≥xY.1) else false then true else !AA.1 then true else !Ev.1) || nQ (Wh.xe ((xY.2.2.2).1,0,9999)),(!!bif bif !xZ.1 then true else bif decide (yS>0) then decide (Prod.fst (List.getD ((AM.2.2.2.2.2).2.1) (Int.toNat (IntKind.wrap .i64 (yS-1))) (0,0,0,0,0,0,()))≥xY.1) else false then true else !AA.1) || nQ (Wh.xe (xY.2.2.1,1,(AM.2.2.2).1.1)),(!!bif !xZ.1 then true else bif decide (yS>0) then decide (Prod.fst (List.getD ((AM.2.2.2.2.2).2.1) (Int.toNat (IntKind.wrap .i64 (yS-1))) (0,0,0,0,0,0,()))≥xY.1) else false) || nQ (Wh.xe (xY.2.1,1,99999)),!(decide (yS>0) && !!xZ.1) || decide (0≤IntKind.wrap .i64 (yS-1)),!(decide (yS>0) && !!xZ.1) || decide (IntKind.wrap .i64 (yS-1)<y4),nQ (Wh.xe (xY.1,0,3))] then
    bif EE then
     some (.inr (.inl (false,())))
    else
     let KM:=Wh.O5 ((AM.2.2.2).1,xY.2.2.1)
     bif iy [nQ (Wh.q44 ((AM.2.2.2).1,xY.2.2.1))] then
      let r_50:=Wh.Pb xY.1
      let y5:=bif KM.1.2 then KM.1.1.1 != r_50.1 else false
      bif iy [!KM.1.2 || nQ (Wh.q80 xY.1)] then
       bif y5 then
        some (.inr (.inl (false,())))
       else
        some (.inl (((IntKind.wrap .i64 (yS+1)),()),AM))
      else none
     else none
   else none
  else none
 else
  some (.inr (.inr ((),())))
def Wh.abY:(((Bool))×(Unit))⊕((Unit)×(Unit)):=.inl default
def Wh.q43 (xs:(nC.D)):Option (((Bool))×(Unit)):=
 let fN:nC.D:=xs
 let La:Wh.Vr:=((0,()),fN)
 bif lF Wh.C3 La then
  sumC (kG Wh.C3 Wh.abY La) (fun y_54=>
   let BB:=y_54.1
   some (BB,())) (fun _=>
   some (true,()))
 else none
def Wh.q43':=bx Wh.q43
theorem Wh.q43_v:OV Wh.q43 Wh.q43':=e_ _
def Wh.Ai (xs:(so.D)):Option (((Int))×(Unit)):=
 let wh:so.D:=xs
 bif iy [wh.2.1 != 0] then
  some ((IntKind.wrap .i64 (Int.tdiv (IntKind.wrap .i64 ((IntKind.wrap .i64 (wh.1+wh.2.1))-1)) wh.2.1)),())
 else none
def Wh.zh:=bx Wh.Ai
theorem Wh.CM:OV Wh.Ai Wh.zh:=e_ _
abbrev Wh.UY:Type:=((Unit)×(Unit))×(((Int)×((Int)×((Unit)×((Unit)×(Unit)))))×((Int)×((Int)×((Unit)×((Unit)×(Unit)))))×(List (Int))×(List (Int))×(List (Int))×(List (Int)))
abbrev Wh.aia:Type:=((((Unit)×(Unit))×(((Int)×((Int)×((Unit)×((Unit)×(Unit)))))×((Int)×((Int)×((Unit)×((Unit)×(Unit)))))×(List (Int))×(List (Int))×(List (Int))×(List (Int)))))
def Wh.D0 (x:Wh.UY):Option (Wh.UY⊕Wh.aia):=
 let xV:=x.2.1.1
 let yD:=(x.2.1.2).1
 let BQ:=(x.2.1.2.2.2).2
 let xd:=x.2.2.1.1
 let xb:=(x.2.2.1).2.1
 let yx:=(x.2.2.1).2.2.2.2
 let yN:=(x.2.2.2).1
 let zc:=x.2.2.2.2.1
 let zm:=(x.2.2.2.2.2).1
 let zo:=(x.2.2.2.2.2).2
 let r_24:=Wh.zh (xV,yD,yN,zc,BQ)
 bif iy [nQ (Wh.Ai (xV,yD,yN,zc,BQ))] then
  bif decide (r_24.1>24) then
   some (.inl (((),()),(xV,(IntKind.wrap .i64 (yD+1)),(),(),BQ),(xd,xb,(),(),yx),yN,zc,zm,zo))
  else
   some (.inr (((),()),(xd,xb,(),(),yx),(xV,yD,(),(),BQ),zm,zo,yN,zc))
 else none
def Wh.abC:(((Unit)×(Unit))×(((Int)×((Int)×((Unit)×((Unit)×(Unit)))))×((Int)×((Int)×((Unit)×((Unit)×(Unit)))))×(List (Int))×(List (Int))×(List (Int))×(List (Int)))):=default
def Wh.Fx (xs:(Int)):Option ((((Int)×((Int)×((List (Int))×((List (Int))×(Unit))))))×(Unit)):=
 let J0:=xs
 let K7:Wh.UY:=(((),()),(J0,8,(),(),()),(0,0,(),(),()),[],[],[],[])
 bif lF Wh.D0 K7 then
  let HU:=kG Wh.D0 Wh.abC K7
  let zH:=HU.2.2.1.1
  let Ah:=(HU.2.2.1).2.1
  let yg:=(HU.2.2.1).2.2.2.2
  let Od:=(HU.2.2.2.2.2).1
  let yE:=(HU.2.2.2.2.2).2
  let AB:=Wh.zh (zH,Ah,Od,yE,yg)
  bif iy [nQ (Wh.Ai (zH,Ah,Od,yE,yg))] then
   let k_42:=IntKind.wrap .i64 (Int.tdiv (IntKind.wrap .i64 (AB.1+3)) 4)
   bif decide (k_42<AB.1) then
    let pb_44:List Int:=[k_42,AB.1]
    some ((zH,Ah,pb_44,[(2:Int),3],yg),())
   else
    let Tb:List Int:=[AB.1]
    some ((zH,Ah,Tb,[(1:Int)],yg),())
  else none
 else none
def Wh.Kw:=bx Wh.Fx
theorem Wh.O0:OV Wh.Fx Wh.Kw:=e_ _
def Wh.q76 (xs:(nI.D)):Option (((Bool))×(Unit)):=
 let y_:nI.D:=xs
 let r_1:=Wh.nW (y_.2.1,0,99999)
 let r_2:=Wh.nW (y_.1,0,y_.2.1)
 let xT:=Wh.nW (y_.2.2.1,0,99999)
 let yJ:=Wh.nW ((y_.2.2.2).1,0,99999)
 let zw:=bif bif bif r_1.1 then r_2.1 else false then xT.1 else false then yJ.1 else false
 bif iy [(!bif bif r_1.1 then r_2.1 else false then xT.1 else false) || nQ (Wh.xe ((y_.2.2.2).1,0,99999)),(!bif r_1.1 then r_2.1 else false) || nQ (Wh.xe (y_.2.2.1,0,99999)),!r_1.1 || nQ (Wh.xe (y_.1,0,y_.2.1)),nQ (Wh.xe (y_.2.1,0,99999))] then
  some (zw,())
 else none
def Wh.q76':=bx Wh.q76
theorem Wh.q76_v:OV Wh.q76 Wh.q76':=e_ _
abbrev Wh.VO:Type:=((Int)×(Unit))×((nC.D))
abbrev Wh.aiM:Type:=((((Bool))×(Unit))⊕((Unit)×(Unit)))
def Wh.Ei (x:Wh.VO):Option (Wh.VO⊕Wh.aiM):=
 let h_80:=x.1.1
 let Oe:=x.2
 let v_82:Int:=(↑(List.length ((Oe.2.2.2.2.2).1)):Int)
 bif decide (h_80<v_82) then
  let J7:nI.D:=List.getD ((Oe.2.2.2.2.2).1) (Int.toNat h_80) (0,0,0,0,())
  bif iy [decide (0≤h_80),decide (h_80<v_82)] then
   let r_85:=Wh.q76' J7
   let PR:=bif bif bif !r_85.1 then true else J7.2.1 != 40 then true else J7.2.2.1 != 8 then true else decide ((J7.2.2.2).1>Oe.2.1)
   bif iy [nQ (Wh.q76 J7)] then
    bif PR then
     some (.inr (.inl (false,())))
    else
     some (.inl (((IntKind.wrap .i64 (h_80+1)),()),Oe))
   else none
  else none
 else
  some (.inr (.inr ((),())))
def Wh.acj:(((Bool))×(Unit))⊕((Unit)×(Unit)):=.inl default
abbrev Wh.VN:Type:=((Int)×(Unit))×((nC.D))
abbrev Wh.aiL:Type:=((((Bool))×(Unit))⊕(((Unit))×((nC.D))))
def Wh.Bw (x:Wh.VN):Option (Wh.VN⊕Wh.aiL):=
 let A1:=x.1.1
 let Gw:=x.2
 let y5:Int:=(↑(List.length ((Gw.2.2.2.2.1).1)):Int)
 bif decide (A1<y5) then
  let zu:=Wh.O5 ((Gw.2.2.2).1,Prod.fst (Prod.snd (List.getD ((Gw.2.2.2.2.1).1) (Int.toNat A1) (0,0,0,0,false,()))))
  let xX:ng.D:=List.getD ((Gw.2.2.2.2.1).1) (Int.toNat A1) (0,0,0,0,false,())
  bif iy [nQ (Wh.q44 ((Gw.2.2.2).1,xX.2.1)),decide (0≤A1),decide (A1<y5)] then
   let B3:=Wh.Kw (↑(List.length ((zu.1.1.2.2.2).1)):Int)
   let r_60:=Wh.zh (B3.1.1,B3.1.2.1,bif(!bif !zu.1.2 then true else zu.1.1.1 != xX.1)&&(decide (xX.2.1>0) && !decide ((xX.2.2.2).1>0)) then(B3.1.2.2).1 else [],bif(!bif !zu.1.2 then true else zu.1.1.1 != xX.1)&&(decide (xX.2.1>0) && !decide ((xX.2.2.2).1>0)) then B3.1.2.2.2.1 else [],B3.1.2.2.2.2)
   let IX:=bif decide ((xX.2.2.2).1>0) then true else bif decide (xX.2.1>0) then bif bif !zu.1.2 then true else zu.1.1.1 != xX.1 then true else decide (xX.2.2.1≥r_60.1) else false
   bif iy [!((!bif !zu.1.2 then true else zu.1.1.1 != xX.1)&&(decide (xX.2.1>0) && !decide ((xX.2.2.2).1>0))) || nQ (Wh.Ai (B3.1.1,B3.1.2.1,bif(!bif !zu.1.2 then true else zu.1.1.1 != xX.1)&&(decide (xX.2.1>0) && !decide ((xX.2.2.2).1>0)) then(B3.1.2.2).1 else [],bif(!bif !zu.1.2 then true else zu.1.1.1 != xX.1)&&(decide (xX.2.1>0) && !decide ((xX.2.2.2).1>0)) then B3.1.2.2.2.1 else [],B3.1.2.2.2.2)),!((!bif !zu.1.2 then true else zu.1.1.1 != xX.1)&&(decide (xX.2.1>0) && !decide ((xX.2.2.2).1>0))) || nQ (Wh.Fx (↑(List.length ((zu.1.1.2.2.2).1)):Int)),!((!bif !zu.1.2 then true else zu.1.1.1 != xX.1)&&(decide (xX.2.1>0) && !decide ((xX.2.2.2).1>0))) || decide (0≤A1),!((!bif !zu.1.2 then true else zu.1.1.1 != xX.1)&&(decide (xX.2.1>0) && !decide ((xX.2.2.2).1>0))) || decide (A1<y5),!(!!zu.1.2&&(decide (xX.2.1>0) && !decide ((xX.2.2.2).1>0))) || decide (0≤A1),!(!!zu.1.2&&(decide (xX.2.1>0) && !decide ((xX.2.2.2).1>0))) || decide (A1<y5),!!decide ((xX.2.2.2).1>0) || decide (0≤A1),!!decide ((xX.2.2.2).1>0) || decide (A1<y5),decide (0≤A1),decide (A1<y5)] then
    bif IX then
     some (.inr (.inl (false,())))
    else
     some (.inl (((IntKind.wrap .i64 (A1+1)),()),Gw))
   else none
  else none
 else
  some (.inr (.inr ((),Gw)))
def Wh.aci:(((Bool))×(Unit))⊕(((Unit))×((nC.D))):=.inl default
def Wh.q78 (xs:(nC.D)):Option (((Bool))×(Unit)):=
 let fN:nC.D:=xs
 let r_1:=Wh.nW (fN.2.1,0,99999)
 let v_2:=bif !r_1.1 then true else decide ((↑(List.length (fN.2.2.1)):Int)>9000)
 bif iy [nQ (Wh.xe (fN.2.1,0,99999))] then
  bif v_2 then
   some (false,())
  else
   bif(!fN.1) then
    let x7:Int:=(↑(List.length ((fN.2.2.2).1.2.1)):Int)
    let Ak:=Wh.Ts fN
    let nG:=bif bif bif bif bif bif x7==0 then(fN.2.2.2).1.1==0 else false then(↑(List.length ((fN.2.2.2.2.1).1)):Int)==0 else false then(fN.2.2.2.2.1).2.1==0 else false then(↑(List.length ((fN.2.2.2.2.2).1)):Int)==0 else false then(↑(List.length ((fN.2.2.2.2.2).2.1)):Int)==0 else false then Ak.1 else false
    bif iy [(!bif bif bif bif bif x7==0 then(fN.2.2.2).1.1==0 else false then(↑(List.length ((fN.2.2.2.2.1).1)):Int)==0 else false then(fN.2.2.2.2.1).2.1==0 else false then(↑(List.length ((fN.2.2.2.2.2).1)):Int)==0 else false then(↑(List.length ((fN.2.2.2.2.2).2.1)):Int)==0 else false) || nQ (Wh.GF fN)] then
     some (nG,())
    else none
   else
    let y2:=Wh.Kk (fN.2.2.1)
    bif iy [nQ (Wh.Ch (fN.2.2.1))] then
     let Bx:=Wh.Ko y2.1.1
     bif iy [nQ (Wh.CW y2.1.1)] then
      let yP:= !Bx.1.2
      let BX:=Wh.Tq (Bx.1.1,(fN.2.2.2).1)
      let Pm:=Wh.T6 (fN.2.2.2.2.1)
      let BZ:=Wh.q43' fN
      let v_34:=bif bif bif bif bif yP then true else y2.1.2 != (↑(List.length (fN.2.2.1)):Int) then true else !BX.1 then true else !Pm.1 then true else(↑(List.length ((fN.2.2.2.2.2).1)):Int) != 2 then true else !BZ.1
      bif iy [(!!bif bif bif bif yP then true else y2.1.2 != (↑(List.length (fN.2.2.1)):Int) then true else !BX.1 then true else !Pm.1 then true else(↑(List.length ((fN.2.2.2.2.2).1)):Int) != 2) || nQ (Wh.q43 fN),(!!bif bif yP then true else y2.1.2 != (↑(List.length (fN.2.2.1)):Int) then true else !BX.1) || nQ (Wh.Fe (fN.2.2.2.2.1)),(!!bif yP then true else y2.1.2 != (↑(List.length (fN.2.2.1)):Int)) || nQ (Wh.DE (Bx.1.1,(fN.2.2.2).1))] then
       bif v_34 then
        some (false,())
       else
        let x_63:Wh.VN:=((0,()),fN)
        bif lF Wh.Bw x_63 then
         sumC (kG Wh.Bw Wh.aci x_63) (fun y_64=>
          let v_66:=y_64.1
          some (v_66,())) (fun z_65=>
          let J2:=z_65.2
          let x_92:Wh.VO:=((0,()),J2)
          bif lF Wh.Ei x_92 then
           sumC (kG Wh.Ei Wh.acj x_92) (fun y_93=>
            let v_95:=y_93.1
            some (v_95,())) (fun _=>
            some (true,()))
          else none)
        else none
      else none
     else none
    else none
 else none
def Wh.q78':=bx Wh.q78
theorem Wh.VP:OV Wh.q78 Wh.q78':=e_ _
def Wh.xU (xs:(Int)×(Int)×(Int)):Option (((Bool))×(Unit)):=
 let yY:=xs.1
 let Sy:=xs.2.1
 let Sn:=xs.2.2
 let yB:=bif decide (yY≥Sy) then decide (yY≤Sn) else false
 some (yB,())
def Wh.pg:=bx Wh.xU
theorem Wh.zX:OV Wh.xU Wh.pg:=e_ _
def Wh.AP (xs:(Int)×(Int)):Option (((Int))×(Unit)):=
 let yV:=xs.1
 let by_1:=xs.2
 let v_2:Int:=Int.fdiv yV (2 ^ Min.min (Int.toNat by_1) (Go.IntKind.bits Go.IntKind.u32))
 let w9:=IntKind.wrap .i64 (32-by_1)
 let zZ:Int:=nj Go.BinOp.or Go.IntKind.u32 v_2 (IntKind.wrap .u32 (yV*2 ^ Min.min (Int.toNat w9) (Go.IntKind.bits Go.IntKind.u32)))
 bif iy [decide (0≤w9),decide (0≤by_1)] then
  some (zZ,())
 else none
def Wh.Bo:=bx Wh.AP
theorem Wh.q121_v:OV Wh.AP Wh.Bo:=e_ _
abbrev Wh.VG:Type:=((Int)×(Unit)×(List (Int)))×((List (Int)))
abbrev Wh.aiG:Type:=((((Unit))×((List (Int)))))
def Wh.KF (x:Wh.VG):Option (Wh.VG⊕Wh.aiG):=
 let KZ:=x.1.1
 let v_572:=x.1.2.2
 let SI:=x.2
 bif decide (KZ<8) then
  let PN:=List.getD v_572 (Int.toNat KZ) 0
  bif iy [decide (0≤KZ),decide (KZ<(↑(nat_lit 8):Int))] then
   let pb_576:List Int:=[IntKind.wrap .u8 (Int.fdiv PN (2 ^ Min.min (Int.toNat 24) (Go.IntKind.bits Go.IntKind.u32))),IntKind.wrap .u8 (Int.fdiv PN (2 ^ Min.min (Int.toNat 16) (Go.IntKind.bits Go.IntKind.u32))),IntKind.wrap .u8 (Int.fdiv PN (2 ^ Min.min (Int.toNat 8) (Go.IntKind.bits Go.IntKind.u32))),IntKind.wrap .u8 PN]
   let ls_577:=SI++pb_576
   bif iy [decide (List.length SI+(4:Nat)≤dh),true,true,true] then
    some (.inl (((IntKind.wrap .i64 (KZ+1)),(),v_572),ls_577))
   else none
  else none
 else
  some (.inr ((),SI))
def Wh.acd:(((Unit))×((List (Int)))):=default
abbrev Wh.VF:Type:=((Int)×(Unit)×(Unit)×(Nat×Nat))×((List (Int))×(List (Int))×(List (Int)))
abbrev Wh.aiF:Type:=((((Unit)×(Nat×Nat))×((List (Int))×(List (Int)))))
def Wh.KE (x:Wh.VF):Option (Wh.VF⊕Wh.aiF):=
 let Cw:=x.1.1
 let b_510:=x.1.2.2.2.1
 let b_511:=x.1.2.2.2.2
 let SG:=x.2.1
 let YY:=x.2.2.1
 let YZ:=x.2.2.2
 bif decide (Cw<8) then
  let ls_516:=List.set SG (Int.toNat Cw) (IntKind.wrap .u32 (List.getD SG (Int.toNat Cw) 0+List.getD YY (Int.toNat Cw) 0))
  bif iy [decide (0≤Cw),decide (Cw<(↑(8:Nat):Int)),decide (0≤Cw),decide (Cw<(↑(8:Nat):Int)),decide (0≤Cw),decide (Cw<(↑(8:Nat):Int))] then
   some (.inl (((IntKind.wrap .i64 (Cw+1)),(),(),b_510,b_511),ls_516,YY,YZ))
  else none
 else
  some (.inr (((),b_510,b_511),SG,YZ))
def Wh.ab_:(((Unit)×(Nat×Nat))×((List (Int))×(List (Int)))):=default
abbrev Wh.VE:Type:=((Int)×(Unit)×(Unit)×(Unit)×(Nat×Nat))×((List (Int))×(List (Int))×(List (Int))×(List (Int)))
abbrev Wh.aiE:Type:=((((Unit)×(Unit)×(Nat×Nat))×((List (Int))×(List (Int))×(List (Int)))))
def Wh.Hy (x:Wh.VE):Option (Wh.VE⊕Wh.aiE):=
 let F3:=x.1.1
 let b_447:=(x.1.2.2.2.2).1
 let b_448:=(x.1.2.2.2.2).2
 let Dt:=x.2.1
 let YV:=x.2.2.1
 let YW:=(x.2.2.2).1
 let YX:=x.2.2.2.2
 bif decide (F3<64) then
  let EC:=List.getD Dt (Int.toNat 4) 0
  let ED:=List.getD Dt (Int.toNat 0) 0
  let v_456:=List.getD Dt (Int.toNat 7) 0
  let r_457:=Wh.Bo (EC,6)
  let r_458:=Wh.Bo (EC,11)
  let r_460:=Wh.Bo (EC,25)
  let v_463:=List.getD Dt (Int.toNat 5) 0
  let v_464:=List.getD Dt (Int.toNat 6) 0
  let v_468:=List.getD Wh.B_ (Int.toNat F3) 0
  let v_470:=List.getD YV (Int.toNat F3) 0
  let aab:=IntKind.wrap .u32 (IntKind.wrap .u32 (IntKind.wrap .u32 (IntKind.wrap .u32 (v_456+nj Go.BinOp.xor Go.IntKind.u32 (nj Go.BinOp.xor Go.IntKind.u32 r_457.1 r_458.1) r_460.1)+nj Go.BinOp.xor Go.IntKind.u32 (nj Go.BinOp.and Go.IntKind.u32 EC v_463) (nj Go.BinOp.and Go.IntKind.u32 (nj Go.BinOp.xor Go.IntKind.u32 (Go.IntKind.max Go.IntKind.u32) EC) v_464))+v_468)+v_470)
  bif iy [decide (0≤F3),decide (F3<(↑(64:Nat):Int)),decide (0≤F3),decide (F3<(↑(64:Nat):Int)),true,true,true,true,nQ (Wh.AP (EC,25)),nQ (Wh.AP (EC,11)),nQ (Wh.AP (EC,6)),true,true] then
   let r_473:=Wh.Bo (ED,2)
   let r_474:=Wh.Bo (ED,13)
   let r_476:=Wh.Bo (ED,22)
   let WA:=List.getD Dt (Int.toNat 1) 0
   let WB:=List.getD Dt (Int.toNat 2) 0
   bif iy [true,true,true,true,true,true,true,true,nQ (Wh.AP (ED,22)),nQ (Wh.AP (ED,13)),nQ (Wh.AP (ED,2))] then
    let ls_484:List Int:=[IntKind.wrap .u32 (aab+(IntKind.wrap .u32 (nj Go.BinOp.xor Go.IntKind.u32 (nj Go.BinOp.xor Go.IntKind.u32 r_473.1 r_474.1) r_476.1+nj Go.BinOp.xor Go.IntKind.u32 (nj Go.BinOp.xor Go.IntKind.u32 (nj Go.BinOp.and Go.IntKind.u32 ED WA) (nj Go.BinOp.and Go.IntKind.u32 ED WB)) (nj Go.BinOp.and Go.IntKind.u32 WA WB)))),ED,WA,WB,IntKind.wrap .u32 (List.getD Dt (Int.toNat 3) 0+aab),EC,v_463,v_464]
    some (.inl (((IntKind.wrap .i64 (F3+1)),(),(),(),b_447,b_448),ls_484,YV,YW,YX))
   else none
  else none
 else
  some (.inr (((),(),b_447,b_448),YW,Dt,YX))
def Wh.ab9:(((Unit)×(Unit)×(Nat×Nat))×((List (Int))×(List (Int))×(List (Int)))):=default
abbrev Wh.VD:Type:=((Int)×(Unit)×(Nat×Nat)×(Unit))×((List (Int))×(List (Int))×(List (Int)))
abbrev Wh.aiD:Type:=((((Unit)×(Unit)×(Nat×Nat))×((List (Int))×(List (Int))×(List (Int)))))
def Wh.FI (x:Wh.VD):Option (Wh.VD⊕Wh.aiD):=
 let zK:=x.1.1
 let Gd:=(x.1.2.2).1.1
 let Ge:=(x.1.2.2).1.2
 let Gu:=x.2.1
 let Gv:=x.2.2.1
 let SD:=x.2.2.2
 bif decide (zK<64) then
  bif decide (zK<16) then
   let ls_346:=List.set Gu (Int.toNat zK) (nj Go.BinOp.or Go.IntKind.u32 (nj Go.BinOp.or Go.IntKind.u32 (nj Go.BinOp.or Go.IntKind.u32 (IntKind.wrap .u32 (IntKind.wrap .u32 (List.getD Gv (Gd+Int.toNat (IntKind.wrap .i64 (4*zK))) 0)*2 ^ Min.min (Int.toNat 24) (Go.IntKind.bits Go.IntKind.u32))) (IntKind.wrap .u32 (IntKind.wrap .u32 (List.getD Gv (Gd+Int.toNat (IntKind.wrap .i64 (IntKind.wrap .i64 (4*zK)+1))) 0)*2 ^ Min.min (Int.toNat 16) (Go.IntKind.bits Go.IntKind.u32)))) (IntKind.wrap .u32 (IntKind.wrap .u32 (List.getD Gv (Gd+Int.toNat (IntKind.wrap .i64 (IntKind.wrap .i64 (4*zK)+2))) 0)*2 ^ Min.min (Int.toNat 8) (Go.IntKind.bits Go.IntKind.u32)))) (IntKind.wrap .u32 (List.getD Gv (Gd+Int.toNat (IntKind.wrap .i64 (IntKind.wrap .i64 (4*zK)+3))) 0)))
   let F1:=IntKind.wrap .i64 (4*zK)
   bif iy [decide (0≤zK),decide (zK<(↑(64:Nat):Int)),decide (0≤IntKind.wrap .i64 (F1+3)),decide (IntKind.wrap .i64 (F1+3)<(↑Ge:Int)),true,decide (0≤IntKind.wrap .i64 (F1+2)),decide (IntKind.wrap .i64 (F1+2)<(↑Ge:Int)),true,decide (0≤IntKind.wrap .i64 (F1+1)),decide (IntKind.wrap .i64 (F1+1)<(↑Ge:Int)),true,decide (0≤F1),decide (F1<(↑Ge:Int))] then
    some (.inl (((IntKind.wrap .i64 (zK+1)),(),(Gd,Ge),()),ls_346,Gv,SD))
   else none
  else
   let Wy:=IntKind.wrap .i64 (zK-15)
   let Wz:=IntKind.wrap .i64 (zK-2)
   let K8:=List.getD Gu (Int.toNat Wy) 0
   let Lg:=List.getD Gu (Int.toNat Wz) 0
   bif iy [decide (0≤Wz),decide (Wz<(↑(64:Nat):Int)),decide (0≤Wy),decide (Wy<(↑(64:Nat):Int))] then
    let r_376:=Wh.Bo (K8,7)
    let r_377:=Wh.Bo (K8,18)
    let r_378:=Wh.Bo (Lg,17)
    let r_379:=Wh.Bo (Lg,19)
    let ls_380:=List.set Gu (Int.toNat zK) (IntKind.wrap .u32 (IntKind.wrap .u32 (IntKind.wrap .u32 (List.getD Gu (Int.toNat (IntKind.wrap .i64 (zK-16))) 0+List.getD Gu (Int.toNat (IntKind.wrap .i64 (zK-7))) 0)+nj Go.BinOp.xor Go.IntKind.u32 (nj Go.BinOp.xor Go.IntKind.u32 r_376.1 r_377.1) (Int.fdiv K8 (2 ^ Min.min (Int.toNat 3) (Go.IntKind.bits Go.IntKind.u32))))+nj Go.BinOp.xor Go.IntKind.u32 (nj Go.BinOp.xor Go.IntKind.u32 r_378.1 r_379.1) (Int.fdiv Lg (2 ^ Min.min (Int.toNat 10) (Go.IntKind.bits Go.IntKind.u32)))))
    let v_381:=IntKind.wrap .i64 (zK-16)
    let v_383:=IntKind.wrap .i64 (zK-7)
    bif iy [decide (0≤zK),decide (zK<(↑(64:Nat):Int)),true,nQ (Wh.AP (Lg,19)),nQ (Wh.AP (Lg,17)),true,nQ (Wh.AP (K8,18)),nQ (Wh.AP (K8,7)),decide (0≤v_383),decide (v_383<(↑(64:Nat):Int)),decide (0≤v_381),decide (v_381<(↑(64:Nat):Int))] then
     some (.inl (((IntKind.wrap .i64 (zK+1)),(),(Gd,Ge),()),ls_380,Gv,SD))
    else none
   else none
 else
  some (.inr (((),(),Gd,Ge),Gu,SD,Gv))
def Wh.ab8:(((Unit)×(Unit)×(Nat×Nat))×((List (Int))×(List (Int))×(List (Int)))):=default
abbrev Wh.VC:Type:=((Nat×Nat)×(Unit))×((List (Int))×(List (Int)))
abbrev Wh.aiC:Type:=((((Unit))×((List (Int)))))
def Wh.FH (x:Wh.VC):Option (Wh.VC⊕Wh.aiC):=
 let b_529:=x.1.1.1
 let b_530:=x.1.1.2
 let ls_531:=x.2.1
 let Y0:=x.2.2
 bif decide ((↑b_530:Int)>0) then
  let pb_534:List Int:=[(0:Int),0,0,0,0,0,0,0,0,0,0,0,0,0,0,0,0,0,0,0,0,0,0,0,0,0,0,0,0,0,0,0,0,0,0,0,0,0,0,0,0,0,0,0,0,0,0,0,0,0,0,0,0,0,0,0,0,0,0,0,0,0,0,0]
  let x_535:Wh.VD:=((0,(),(b_529,b_530),()),pb_534,ls_531,Y0)
  bif lF Wh.FI x_535 then
   let Lh:=kG Wh.FI Wh.ab8 x_535
   let b_537:=(Lh.1.2.2).1
   let b_538:=Lh.1.2.2.2
   let ls_539:=Lh.2.1
   let Y1:=Lh.2.2.1
   let ls_541:=Lh.2.2.2
   let x_542:Wh.VE:=((0,(),(),(),b_537,b_538),Y1,ls_539,Y1,ls_541)
   bif lF Wh.Hy x_542 then
    let Li:=kG Wh.Hy Wh.ab9 x_542
    let b_544:=(Li.1.2.2).1
    let b_545:=Li.1.2.2.2
    let ls_546:=Li.2.1
    let ls_547:=Li.2.2.1
    let ls_548:=Li.2.2.2
    let x_549:Wh.VF:=((0,(),(),b_544,b_545),ls_546,ls_547,ls_548)
    bif lF Wh.KE x_549 then
     let PV:=kG Wh.KE Wh.ab_ x_549
     let b_551:=PV.1.2.1
     let RY:=PV.1.2.2
     let ls_553:=PV.2.1
     let Y2:=PV.2.2
     let v_555:Nat:=Int.toNat ((↑RY:Int)-64)
     let v_556:Nat:=b_551+Int.toNat 64
     bif iy [true,decide (64≤(↑RY:Int)),decide ((↑b_551:Int)+(↑RY:Int)≤(↑(List.length Y2):Int))] then
      some (.inl (((v_556,v_555),()),Y2,ls_553))
     else none
    else none
   else none
  else none
 else
  some (.inr ((),Y0))
def Wh.ab7:(((Unit))×((List (Int)))):=default
abbrev Wh.VB:Type:=((Int)×(Int)×(Unit)×(Unit))×((List (Int))×(List (Int)))
abbrev Wh.aiB:Type:=((((Unit)×(Unit))×((List (Int))×(List (Int)))))
def Wh.Hx (x:Wh.VB):Option (Wh.VB⊕Wh.aiB):=
 let NR:=x.1.1
 let Z4:=x.1.2.1
 let Ah:=x.2.1
 let yg:=x.2.2
 bif decide (NR≥0) then
  let Ou:List Int:=[IntKind.wrap .u8 (Int.fdiv Z4 (2 ^ Min.min (Int.toNat NR) (Go.IntKind.bits Go.IntKind.u64)))]
  let Od:=Ah++Ou
  bif iy [decide (List.length Ah+(1:Nat)≤dh),decide (0≤NR)] then
   some (.inl (((IntKind.wrap .i64 (NR-8)),Z4,(),()),Od,yg))
  else none
 else
  some (.inr (((),()),Ah,yg))
def Wh.ab6:(((Unit)×(Unit))×((List (Int))×(List (Int)))):=default
abbrev Wh.VA:Type:=((Unit)×(Unit)×(List UInt8))×((List (Int))×(List (Int)))
abbrev Wh.aiA:Type:=((((Unit)×(Unit)×(List UInt8))×((List (Int))×(List (Int)))))
def Wh.FG (x:Wh.VA):Option (Wh.VA⊕Wh.aiA):=
 let EA:=x.1.2.2
 let Of:=x.2.1
 let EU:=x.2.2
 let yu:Bool:=(Int.tmod (↑(List.length Of):Int) 64) != 56
 bif yu then
  let EW:=Of ++ [(0:Int)]
  bif iy [decide (List.length Of+(1:Nat)≤dh)] then
   some (.inl (((),(),EA),EW,EU))
  else none
 else
  some (.inr (((),(),EA),Of,EU))
def Wh.ab5:(((Unit)×(Unit)×(List UInt8))×((List (Int))×(List (Int)))):=default
def Wh.q55 (xs:(List UInt8)):Option (((List UInt8))×(Unit)):=
 let zi:=xs
 let zf:List Int:=bytesOf zi ++ [(128:Int)]
 bif iy [decide (List.length (bytesOf zi)+(1:Nat)≤dh),decide (List.length zi≤dh)] then
  let x_14:Wh.VA:=(((),(),zi),zf,[(1779033703:Int),3144134277,1013904242,2773480762,1359893119,2600822924,528734635,1541459225])
  bif lF Wh.FG x_14 then
   let y_15:=kG Wh.FG Wh.ab5 x_14
   let alG:=y_15.1.2.2
   let xd:=y_15.2.1
   let xb:=y_15.2.2
   let x_40:Wh.VB:=((56,(IntKind.wrap .u64 ((IntKind.wrap .u64 (↑(List.length alG):Int))*8)),(),()),xd,xb)
   bif lF Wh.Hx x_40 then
    let y_41:=kG Wh.Hx Wh.ab6 x_40
    let Iv:=y_41.2.1
    let Iw:=y_41.2.2
    let x_557:Wh.VC:=((((0:Nat),List.length Iv),()),Iv,Iw)
    bif lF Wh.FH x_557 then
     let y_558:=kG Wh.FH Wh.ab7 x_557
     let ls_559:=y_558.2
     let x_582:Wh.VG:=((0,(),ls_559),[])
     bif lF Wh.KF x_582 then
      let y_583:=kG Wh.KF Wh.acd x_582
      let ls_584:=y_583.2
      some (qp ls_584,())
     else none
    else none
   else none
  else none
 else none
def Wh.q55':=bx Wh.q55
theorem Wh.q55_v:OV Wh.q55 Wh.q55':=e_ _
abbrev Wh.Uu:Type:=((Int)×(List UInt8)×(Unit))×((List (Int)))
abbrev Wh.ahW:Type:=((((Unit))×((List (Int)))))
def Wh.OP (x:Wh.Uu):Option (Wh.Uu⊕Wh.ahW):=
 let Gr:=x.1.1
 let Cs:=x.1.2.1
 let yD:=x.2
 let vN:=decide (Gr<(↑(List.length Cs):Int))
 bif vN then
  let GA:List Int:=[(↑(UInt8.toNat (List.getD [(48:UInt8),(49:UInt8),(50:UInt8),(51:UInt8),(52:UInt8),(53:UInt8),(54:UInt8),(55:UInt8),(56:UInt8),(57:UInt8),(97:UInt8),(98:UInt8),(99:UInt8),(100:UInt8),(101:UInt8),(102:UInt8)] (Int.toNat (IntKind.wrap .u8 (Int.tdiv (↑(UInt8.toNat (List.getD Cs (Int.toNat Gr) (0:UInt8))):Int) 16))) (0:UInt8))):Int),(↑(UInt8.toNat (List.getD [(48:UInt8),(49:UInt8),(50:UInt8),(51:UInt8),(52:UInt8),(53:UInt8),(54:UInt8),(55:UInt8),(56:UInt8),(57:UInt8),(97:UInt8),(98:UInt8),(99:UInt8),(100:UInt8),(101:UInt8),(102:UInt8)] (Int.toNat (Int.tmod (↑(UInt8.toNat (List.getD Cs (Int.toNat Gr) (0:UInt8))):Int) 16)) (0:UInt8))):Int)]
  let xb:=yD++GA
  let nG:Int:=(↑(UInt8.toNat (List.getD Cs (Int.toNat Gr) (0:UInt8))):Int)
  bif iy [decide (List.length yD+(2:Nat)≤dh),decide (0≤Int.tmod nG 16),decide (Int.tmod nG 16<(↑(16:Nat):Int)),true,decide (0≤Gr),vN,decide (0≤IntKind.wrap .u8 (Int.tdiv nG 16)),decide (IntKind.wrap .u8 (Int.tdiv nG 16)<(↑(16:Nat):Int)),true,decide (0≤Gr),vN] then
   some (.inl (((IntKind.wrap .i64 (Gr+1)),Cs,()),xb))
  else none
 else
  some (.inr ((),yD))
def Wh.abe:(((Unit))×((List (Int)))):=default
def Wh.II (xs:(List UInt8)):Option (((List UInt8))×(Unit)):=
 let fN:=xs
 let x_25:Wh.Uu:=((0,fN,()),[])
 bif lF Wh.OP x_25 then
  let y8:=kG Wh.OP Wh.abe x_25
  let zd:=y8.2
  some (qp zd,())
 else none
def Wh.Ut:=bx Wh.II
theorem Wh.abf:OV Wh.II Wh.Ut:=e_ _
def Wh.q87 (xs:(List UInt8)):Option (((List UInt8))×(Unit)):=
 let zi:=xs
 let r_1:=Wh.q55' zi
 let r_3:=Wh.Ut r_1.1
 bif iy [nQ (Wh.II r_1.1),nQ (Wh.q55 zi)] then
  some (r_3.1,())
 else none
def Wh.FQ:=bx Wh.q87
theorem Wh.q87_v:OV Wh.q87 Wh.FQ:=e_ _
def Wh.q93 (xs:(Int)×(List UInt8)):Option (((List UInt8))×(Unit)):=
 let yY:=xs.1
 let zT:=xs.2
 let r_2:=Wh.tJ yY
 let nE:=Wh.tJ (↑(List.length zT):Int)
 let AK:=r_2.1 ++ [(32:UInt8)]++nE.1 ++ [(32:UInt8)]
 bif iy [decide (List.length (r_2.1 ++ [(32:UInt8)]++nE.1)+(1:Nat)≤dh),decide (List.length (r_2.1 ++ [(32:UInt8)])+List.length nE.1≤dh),nQ (Wh.strconv_Itoa (↑(List.length zT):Int)),decide (List.length r_2.1+(1:Nat)≤dh),nQ (Wh.strconv_Itoa yY)] then
  let Ap:List UInt8:=AK++zT
  let y2:=Wh.FQ Ap
  let wX:List UInt8:=AK++List.take (Int.toNat ((16:Int)-0)) (List.drop (Int.toNat 0) y2.1) ++ [(32:UInt8)]++zT ++ [(10:UInt8)]
  bif iy [decide (List.length (AK++List.take (Int.toNat ((16:Int)-0)) (List.drop (Int.toNat 0) ((Wh.FQ Ap).1)) ++ [(32:UInt8)]++zT)+(1:Nat)≤dh),decide (List.length (AK++List.take (Int.toNat ((16:Int)-0)) (List.drop (Int.toNat 0) ((Wh.FQ Ap).1)) ++ [(32:UInt8)])+List.length zT≤dh),decide (List.length (AK++List.take (Int.toNat ((16:Int)-0)) (List.drop (Int.toNat 0) ((Wh.FQ Ap).1)))+(1:Nat)≤dh),decide (List.length AK+List.length (List.take (Int.toNat ((16:Int)-0)) (List.drop (Int.toNat 0) ((Wh.FQ Ap).1)))≤dh),true,true,decide (16≤(↑(List.length ((Wh.FQ Ap).1)):Int)),nQ (Wh.q87 Ap),decide (List.length AK+List.length zT≤dh)] then
   some (wX,())
  else none
 else none
def Wh.q93':=bx Wh.q93
theorem Wh.V9:OV Wh.q93 Wh.q93':=e_ _
def Wh.q6 (xs:(List UInt8)×(List UInt8)):Option (((Bool))×(Unit)):=
 let fN:=xs.1
 let E4:=xs.2
 let v_2:=decide ((↑(List.length fN):Int)≥(↑(List.length E4):Int))
 let x7:=bif v_2 then List.take (Int.toNat ((↑(List.length E4):Int)-0)) (List.drop (Int.toNat 0) fN)==E4 else false
 bif iy [!v_2 || decide ((0:Int)≤0),!v_2 || decide (0≤(↑(List.length E4):Int)),!v_2 || decide ((↑(List.length E4):Int)≤(↑(List.length fN):Int))] then
  some (x7,())
 else none
def Wh.q6':=bx Wh.q6
theorem Wh.q6_v:OV Wh.q6 Wh.q6':=e_ _
def Wh.q13 (xs:(List UInt8)×(List UInt8)):Option (((Bool))×(Unit)):=
 let fN:=xs.1
 let E4:=xs.2
 let r_2:=Wh.q6' (fN,E4)
 bif iy [nQ (Wh.q6 (fN,E4))] then
  some (r_2.1,())
 else none
def Wh.OD:=bx Wh.q13
theorem Wh.OH:OV Wh.q13 Wh.OD:=e_ _
abbrev Wh.VZ:Type:=((Int)×(Unit)×(List UInt8))×((List (List UInt8)))
abbrev Wh.aiW:Type:=((((Unit)×(Int))×((List (List UInt8)))))
def Wh.C6 (x:Wh.VZ):Option (Wh.VZ⊕Wh.aiW):=
 let B7:=x.1.1
 let BP:=x.1.2.2
 let A4:=x.2
 let B4:List UInt8:=List.take (Int.toNat ((↑(List.length BP):Int)-B7)) (List.drop (Int.toNat B7) BP)
 let Pp:=Wh.tK (B4,[(32:UInt8)])
 bif iy [nQ (Wh.strings_Cut (B4,[(32:UInt8)])),decide (0≤B7),decide (B7≤(↑(List.length BP):Int)),decide ((↑(List.length BP):Int)≤(↑(List.length BP):Int))] then
  let r_66:=Wh.tK (Pp.1.2.1,[(32:UInt8)])
  bif iy [nQ (Wh.strings_Cut (Pp.1.2.1,[(32:UInt8)]))] then
   let HI:=Wh.rW r_66.1.1
   bif iy [nQ (Wh.rV r_66.1.1)] then
    let IY:Int:=(↑(List.length A4):Int)
    let v_74:Int:=(↑(List.length r_66.1.1):Int)
    let r_79:=Wh.tJ IY
    let Ye:=IntKind.wrap .i64 (IntKind.wrap .i64 (IntKind.wrap .i64 ((↑(List.length r_79.1):Int)+1)+v_74)+18)
    bif iy [nQ (Wh.strconv_Itoa IY)] then
     let v_81:= !HI.1.2
     let r_82:=Wh.pg (HI.1.1,1,500)
     let v_85:=bif bif v_81 then true else !r_82.1 then true else decide (IntKind.wrap .i64 ((↑(List.length BP):Int)-B7)<IntKind.wrap .i64 (IntKind.wrap .i64 (Ye+HI.1.1)+1))
     bif iy [!!v_81 || nQ (Wh.xU (HI.1.1,1,500))] then
      bif v_85 then
       some (.inr (((),B7),A4))
      else
       let HT:=IntKind.wrap .i64 (B7+Ye)
       let Wi:List UInt8:=List.take (Int.toNat (IntKind.wrap .i64 (HT+HI.1.1)-HT)) (List.drop (Int.toNat HT) BP)
       bif iy [decide (0≤HT),decide (HT≤IntKind.wrap .i64 (HT+HI.1.1)),decide (IntKind.wrap .i64 (HT+HI.1.1)≤(↑(List.length BP):Int))] then
        let r_91:=Wh.q93' (IY,Wi)
        bif iy [nQ (Wh.q93 (IY,Wi))] then
         let r_93:=Wh.OD (B4,r_91.1)
         bif iy [nQ (Wh.q13 (B4,r_91.1)),decide (0≤B7),decide (B7≤(↑(List.length BP):Int)),decide ((↑(List.length BP):Int)≤(↑(List.length BP):Int))] then
          bif !r_93.1 then
           some (.inr (((),B7),A4))
          else
           let pb_94:List (List UInt8):=[Wi]
           let ls_95:List (List UInt8):=A4++pb_94
           bif iy [decide (List.length A4+(1:Nat)≤dh)] then
            let Dc:Int:=(↑(List.length r_91.1):Int)
            some (.inl (((IntKind.wrap .i64 (B7+Dc)),(),BP),ls_95))
           else none
         else none
        else none
       else none
     else none
    else none
   else none
  else none
 else none
def Wh.acv:(((Unit)×(Int))×((List (List UInt8)))):=default
def Wh.C5 (xs:(List UInt8)):Option (((List (List UInt8))×(Int))×(Unit)):=
 let zl:=xs
 let x_99:Wh.VZ:=((0,(),zl),[])
 bif lF Wh.C6 x_99 then
  let y_100:=kG Wh.C6 Wh.acv x_99
  let v_101:=y_100.1.2
  let ls_102:=y_100.2
  some ((ls_102,v_101),())
 else none
def Wh.Pe:=bx Wh.C5
theorem Wh.V0:OV Wh.C5 Wh.Pe:=e_ _
def Wh.Bq (xs:(Int)):Option (((Bool))×(Unit)):=
 let yY:=xs
 let r_1:=Wh.pg (yY,0,1)
 bif iy [nQ (Wh.xU (yY,0,1))] then
  some (r_1.1,())
 else none
def Wh.Kn:=bx Wh.Bq
theorem Wh.OQ:OV Wh.Bq Wh.Kn:=e_ _
abbrev Wh.TH:Type:=((Int)×(List UInt8)×(Int))×(Unit)
abbrev Wh.ahD:Type:=((((Bool))×(Unit))⊕(((List UInt8))×(Unit)))
def Wh.A6 (x:Wh.TH):Option (Wh.TH⊕Wh.ahD):=
 let zw:=x.1.1
 let KS:=x.1.2.1
 let yu:=x.1.2.2
 bif decide (zw<yu) then
  let s_:Int:=(↑(UInt8.toNat (List.getD KS (Int.toNat zw) (0:UInt8))):Int)
  let xS:=bif decide (s_<97) then true else decide (s_>122)
  bif iy [!!decide (s_<97) || decide (0≤zw),!!decide (s_<97) || decide (zw<(↑(List.length KS):Int)),decide (0≤zw),decide (zw<(↑(List.length KS):Int))] then
   bif xS then
    some (.inr (.inl (false,())))
   else
    some (.inl (((IntKind.wrap .i64 (zw+1)),KS,yu),()))
  else none
 else
  some (.inr (.inr (KS,())))
def Wh.aaK:(((Bool))×(Unit))⊕(((List UInt8))×(Unit)):=.inl default
def Wh.BT (xs:(List UInt8)):Option (((Bool))×(Unit)):=
 let zi:=xs
 let x_19:Wh.TH:=((0,zi,(↑(List.length zi):Int)),())
 bif lF Wh.A6 x_19 then
  sumC (kG Wh.A6 Wh.aaK x_19) (fun F7=>
   let yP:=F7.1
   some (yP,())) (fun z_21=>
   let ac8:=z_21.1
   let r_24:=Wh.pg ((↑(List.length ac8):Int),1,6)
   bif iy [nQ (Wh.xU ((↑(List.length ac8):Int),1,6))] then
    some (r_24.1,())
   else none)
 else none
def Wh.Ke:=bx Wh.BT
theorem Wh.OA:OV Wh.BT Wh.Ke:=e_ _
def Wh.q23 (xs:(Int)×(List UInt8)×(List UInt8)):Option (((List UInt8))×(Unit)):=
 let Gm:=xs.1
 let zp:=xs.2.1
 let Bb:=xs.2.2
 let r_3:=Wh.Kn Gm
 let nE:=Wh.Ke zp
 let w8:=bif bif !r_3.1 then true else !nE.1 then true else decide ((↑(List.length Bb):Int)>300)
 bif iy [!!!r_3.1 || nQ (Wh.BT zp),nQ (Wh.Bq Gm)] then
  bif w8 then
   some ([],())
  else
   let yJ:=Wh.tJ Gm
   let Ao:=yJ.1 ++ [(32:UInt8)]++zp ++ [(58:UInt8)]++Bb
   bif iy [decide (List.length (yJ.1 ++ [(32:UInt8)]++zp ++ [(58:UInt8)])+List.length Bb≤dh),decide (List.length (yJ.1 ++ [(32:UInt8)]++zp)+(1:Nat)≤dh),decide (List.length (yJ.1 ++ [(32:UInt8)])+List.length zp≤dh),decide (List.length yJ.1+(1:Nat)≤dh),nQ (Wh.strconv_Itoa Gm)] then
    some (Ao,())
   else none
 else none
def Wh.q23':=bx Wh.q23
theorem Wh.U_:OV Wh.q23 Wh.q23':=e_ _
def Wh.Eh (xs:(fk.D)):Option ((((Int)×((List (an.D))×(Unit))))×(Unit)):=
 let fe:fk.D:=xs
 let zf:List (an.D):=[]++fe.2.1
 bif iy [decide ((0:Nat)+List.length fe.2.1≤dh)] then
  some ((fe.1,zf,()),())
 else none
def Wh.KD:=bx Wh.Eh
theorem Wh.Hw:OV Wh.Eh Wh.KD:=e_ _
def Wh.q18 (xs:(an.D)×(Int)×(List UInt8)):Option (((Bool))×(Unit)):=
 let i_0:=xs.1
 let v_1:=xs.2.1
 let v_2:=xs.2.2
 let yB:=bif(i_0.1==v_1) then i_0.2.1==v_2 else false
 some (yB,())
def Wh.q18':=bx Wh.q18
theorem Wh.U7:OV Wh.q18 Wh.q18':=e_ _
abbrev Wh.Vn:Type:=((Int)×(List (an.D))×((Int)×((List UInt8)×(Unit)))×(Int))×(Unit)
abbrev Wh.q3_l0Y:Type:=((((Int))×(Unit))⊕((Unit)×(Unit)))
def Wh.Ed (x:Wh.Vn):Option (Wh.Vn⊕Wh.q3_l0Y):=
 let yu:=x.1.1
 let s_13:=x.1.2.1
 let f_14:=(x.1.2.2).1.1
 let f_15:=(x.1.2.2).1.2.1
 let vN:=x.1.2.2.2
 bif decide (yu<vN) then
  let nP:an.D:=List.getD s_13 (Int.toNat yu) (0,[],0,[],())
  let HF:=Wh.q18' (nP,f_14,f_15)
  bif iy [nQ (Wh.q18 (nP,f_14,f_15)),decide (0≤yu),decide (yu<(↑(List.length s_13):Int))] then
   bif HF.1 then
    some (.inr (.inl (yu,())))
   else
    some (.inl (((IntKind.wrap .i64 (yu+1)),s_13,(f_14,f_15,()),vN),()))
  else none
 else
  some (.inr (.inr ((),())))
def Wh.abV:(((Int))×(Unit))⊕((Unit)×(Unit)):=.inl default
def Wh.q3 (xs:(List (an.D))×((Int)×((List UInt8)×(Unit)))):Option (((Int))×(Unit)):=
 let fN:=xs.1
 let f_1:=xs.2
 let v_2:Int:=(↑(List.length fN):Int)
 let x_21:Wh.Vn:=((0,fN,(f_1.1,f_1.2.1,()),v_2),())
 bif lF Wh.Ed x_21 then
  sumC (kG Wh.Ed Wh.abV x_21) (fun AU=>
   let yK:=AU.1
   some (yK,())) (fun _=>
   some (-1,()))
 else none
def Wh.q3':=bx Wh.q3
theorem Wh.q3_v:OV Wh.q3 Wh.q3':=e_ _
def Wh.Cl (xs:(fk.D)×(Int)×(List UInt8)):Option (((Int))×(Unit)):=
 let fe:=xs.1
 let x6:=xs.2.1
 let yZ:=xs.2.2
 let r_3:=Wh.q3' (fe.2.1,x6,yZ,())
 bif iy [nQ (Wh.q3 (fe.2.1,x6,yZ,()))] then
  some (r_3.1,())
 else none
def Wh.O7:=bx Wh.Cl
theorem Wh.KA:OV Wh.Cl Wh.O7:=e_ _
def Wh.q10 (xs:(List (an.D))×(Int)×(Int)):Option (((List (an.D)))×(Unit)):=
 let fN:=xs.1
 let i_1:=xs.2.1
 let Bh:=xs.2.2
 let w9:Int:=(↑(List.length fN):Int)
 bif iy [decide (0≤i_1),decide (i_1≤Bh),decide (Bh≤w9),decide (w9≤w9)] then
  let x7:=i_1==Bh
  bif x7 then
   some (fN,())
  else
   let pb_5:List (an.D):=List.take (Int.toNat 0+Int.toNat (i_1-0)) fN++(List.take (Int.toNat (w9-Bh)) (List.drop (Int.toNat Bh) fN)++List.drop (Int.toNat 0+Int.toNat (i_1-0)+List.length (List.take (Int.toNat (w9-Bh)) (List.drop (Int.toNat Bh) fN))) fN)
   let zZ:Nat:=Int.toNat (i_1-0)
   let s_9:Nat:=zZ+List.length (List.take (Int.toNat (w9-Bh)) (List.drop (Int.toNat Bh) fN))
   bif iy [decide (Int.toNat 0+zZ+List.length (List.take (Int.toNat (w9-Bh)) (List.drop (Int.toNat Bh) fN))≤List.length fN),decide (0≤Bh),decide (Bh≤w9),decide (w9≤w9),true,decide (0≤i_1),decide (i_1≤w9)] then
    let S_:List (an.D):=List.take (Int.toNat 0+Int.toNat (↑s_9:Int)) pb_5++(@List.replicate (Int×List UInt8×Int×List UInt8×Unit) (Int.toNat (w9-(↑s_9:Int))) (0,[],0,[],())++List.drop (Int.toNat 0+Int.toNat (↑s_9:Int)+List.length (@List.replicate (Int×List UInt8×Int×List UInt8×Unit) (Int.toNat (w9-(↑s_9:Int))) (0,[],0,[],()))) pb_5)
    bif iy [decide (0≤(↑s_9:Int)),decide ((↑s_9:Int)≤w9),decide ((↑(Int.toNat 0):Int)+w9≤(↑(List.length pb_5):Int))] then
     some (List.take s_9 S_,())
    else none
   else none
 else none
def Wh.q10':=bx Wh.q10
theorem Wh.q10_v:OV Wh.q10 Wh.q10':=e_ _
def Wh.q48 (xs:(fk.D)×(Int)×(List UInt8)):Option ((((Int)×((List (an.D))×(Unit)))×(Int))×(Unit)):=
 let fe:=xs.1
 let x6:=xs.2.1
 let yZ:=xs.2.2
 let r_3:=Wh.KD fe
 bif iy [nQ (Wh.Eh fe)] then
  let nE:=Wh.O7 (fe,x6,yZ)
  bif iy [nQ (Wh.Cl (fe,x6,yZ))] then
   bif decide (nE.1<0) then
    some ((r_3.1,3),())
   else
    let yG:=Wh.q10' (r_3.1.2.1,nE.1,IntKind.wrap .i64 (nE.1+1))
    let pb_7:List (an.D):=[]++yG.1
    bif iy [decide ((0:Nat)+List.length yG.1≤dh),nQ (Wh.q10 (r_3.1.2.1,nE.1,(IntKind.wrap .i64 (nE.1+1))))] then
     some (((r_3.1.1,pb_7,r_3.1.2.2),0),())
    else none
  else none
 else none
def Wh.q48':=bx Wh.q48
theorem Wh.q48_v:OV Wh.q48 Wh.q48':=e_ _
def Wh.q16 (xs:(Int)×(List UInt8)×(List UInt8)):Option (((Bool))×(Unit)):=
 let Gm:=xs.1
 let zp:=xs.2.1
 let Bb:=xs.2.2
 let r_3:=Wh.Kn Gm
 let nE:=Wh.Ke zp
 let A_:=Wh.pg ((↑(List.length Bb):Int),1,300)
 let yd:=bif bif r_3.1 then nE.1 else false then A_.1 else false
 bif iy [(!bif r_3.1 then nE.1 else false) || nQ (Wh.xU ((↑(List.length Bb):Int),1,300)),!r_3.1 || nQ (Wh.BT zp),nQ (Wh.Bq Gm)] then
  some (yd,())
 else none
def Wh.OS:=bx Wh.q16
theorem Wh.Kq:OV Wh.q16 Wh.OS:=e_ _
abbrev Wh.Vb:Type:=((Int)×(Int)×(Int)×(List (an.D))×(Int))×(Unit)
abbrev Wh.aih:Type:=((((Int))×(Unit)))
def Wh.D_ (x:Wh.Vb):Option (Wh.Vb⊕Wh.aih):=
 let vN:=x.1.1
 let Gy:=x.1.2.1
 let Gk:=(x.1.2.2).1
 let nG:=x.1.2.2.2.1
 let n_:=x.1.2.2.2.2
 bif decide (vN<n_) then
  let pb_22:an.D:=List.getD nG (Int.toNat vN) (0,[],0,[],())
  bif iy [decide (0≤vN),decide (vN<(↑(List.length nG):Int))] then
   bif(pb_22.1==Gk) then
    let yK:Int:=(↑(List.length ((pb_22.2.2.2).1)):Int)
    some (.inl (((IntKind.wrap .i64 (vN+1)),(IntKind.wrap .i64 (Gy+yK)),Gk,nG,n_),()))
   else
    some (.inl (((IntKind.wrap .i64 (vN+1)),Gy,Gk,nG,n_),()))
  else none
 else
  some (.inr (Gy,()))
def Wh.abL:(((Int))×(Unit)):=default
def Wh.q25 (xs:(fk.D)×(Int)):Option (((Int))×(Unit)):=
 let fe:=xs.1
 let x6:=xs.2
 let v_2:Int:=(↑(List.length fe.2.1):Int)
 let F4:Wh.Vb:=((0,0,x6,fe.2.1,v_2),())
 bif lF Wh.D_ F4 then
  let F8:=kG Wh.D_ Wh.abL F4
  let n_31:=F8.1
  some (n_31,())
 else none
def Wh.q25':=bx Wh.q25
theorem Wh.q25_v:OV Wh.q25 Wh.q25':=e_ _
def Wh.q45 (xs:(Int)):Option (((Bool))×(Unit)):=
 let yV:=xs
 let v_1:=yV != yV
 some (v_1,())
def Wh.O6:=bx Wh.q45
theorem Wh.q45_v:OV Wh.q45 Wh.O6:=e_ _
def Wh.q17 (xs:(Int)×(Int)):Option (((Int))×(Unit)):=
 let yV:=xs.1
 let De:=xs.2
 let r_2:=Wh.O6 yV
 bif iy [nQ (Wh.q45 yV)] then
  let r_3:=Wh.O6 De
  bif iy [nQ (Wh.q45 De)] then
   bif r_2.1 then
    bif r_3.1 then
     some (0,())
    else
     some (-1,())
   else
    bif r_3.1 then
     some (1,())
    else
     bif decide (yV<De) then
      some (-1,())
     else
      bif decide (yV>De) then
       some (1,())
      else
       some (0,())
  else none
 else none
def Wh.q17':=bx Wh.q17
theorem Wh.q17_v:OV Wh.q17 Wh.q17':=e_ _
def Wh.q14 (xs:(List UInt8)):Option (((Bool))×(Unit)):=
 let yV:=xs
 some ((!yV==yV),())
def Wh.OI:=bx Wh.q14
theorem Wh.q14_v:OV Wh.q14 Wh.OI:=e_ _
def Wh.q7 (xs:(List UInt8)×(List UInt8)):Option (((Int))×(Unit)):=
 let yV:=xs.1
 let De:=xs.2
 let r_2:=Wh.OI yV
 bif iy [nQ (Wh.q14 yV)] then
  let r_3:=Wh.OI De
  bif iy [nQ (Wh.q14 De)] then
   bif r_2.1 then
    bif r_3.1 then
     some (0,())
    else
     some (-1,())
   else
    bif r_3.1 then
     some (1,())
    else
     bif Go.Op.bytesLess yV De then
      some (-1,())
     else
      bif(!(Go.Op.bytesLess yV De || yV==De)) then
       some (1,())
      else
       some (0,())
  else none
 else none
def Wh.q7':=bx Wh.q7
theorem Wh.q7_v:OV Wh.q7 Wh.q7':=e_ _
abbrev Wh.Uo:Type:=((Int)×(Int)×(List (Int))×(Int))×(Unit)
abbrev Wh.ahT:Type:=((((Int))×(Unit))⊕(((Int))×(Unit)))
def Wh.Fh (x:Wh.Uo):Option (Wh.Uo⊕Wh.ahT):=
 let yd:=x.1.1
 let WD:=x.1.2.1
 let yU:=(x.1.2.2).1
 let yu:=x.1.2.2.2
 bif decide (yd<yu) then
  let s_:=List.getD yU (Int.toNat yd) 0
  bif iy [decide (0≤yd),decide (yd<(↑(List.length yU):Int))] then
   let xO:=s_ != WD
   bif xO then
    some (.inr (.inl (s_,())))
   else
    some (.inl (((IntKind.wrap .i64 (yd+1)),WD,yU,yu),()))
  else none
 else
  some (.inr (.inr (WD,())))
def Wh.aba:(((Int))×(Unit))⊕(((Int))×(Unit)):=.inl default
def Wh.G2 (xs:(List (Int))):Option (((Int))×(Unit)):=
 let ade:=xs
 let x_17:Wh.Uo:=((0,0,ade,(↑(List.length ade):Int)),())
 bif lF Wh.Fh x_17 then
  sumC (kG Wh.Fh Wh.aba x_17) (fun B6=>
   let n_:=B6.1
   some (n_,())) (fun Lj=>
   let al7:=Lj.1
   some (al7,()))
 else none
def Wh.Un:=bx Wh.G2
theorem Wh.abb:OV Wh.G2 Wh.Un:=e_ _
def Wh.q28 (xs:(an.D)×(an.D)):Option (((Int))×(Unit)):=
 let bn:=xs.1
 let b_1:=xs.2
 let r_2:=Wh.q17' (bn.1,b_1.1)
 let r_3:=Wh.q7' (bn.2.1,b_1.2.1)
 let yG:=Wh.Un [r_2.1,r_3.1]
 bif iy [nQ (Wh.G2 [r_2.1,r_3.1]),nQ (Wh.q7 (bn.2.1,b_1.2.1)),nQ (Wh.q17 (bn.1,b_1.1))] then
  some (yG.1,())
 else none
def Wh.q28':=bx Wh.q28
theorem Wh.O3:OV Wh.q28 Wh.q28':=e_ _
abbrev Wh.Tf:Type:=((Int)×(Unit)×(Unit)×(Int)×(Int)×(Int))×((List (an.D)))
abbrev Wh.q0_l1Y:Type:=((((Unit)×(Unit)×(Int)×(Int)×(Int))×((List (an.D)))))
def Wh.CK (x:Wh.Tf):Option (Wh.Tf⊕Wh.q0_l1Y):=
 let z7:=x.1.1
 let a_24:=x.1.2.2.2.1
 let b_25:=(x.1.2.2.2.2).1
 let i_26:=(x.1.2.2.2.2).2
 let AO:=x.2
 let vT:=decide (z7>a_24)
 let r_29:=Wh.q28' (List.getD AO (Int.toNat z7) (0,[],0,[],()),List.getD AO (Int.toNat (IntKind.wrap .i64 (z7-1))) (0,[],0,[],()))
 let HR:=bif vT then decide (r_29.1<0) else false
 bif iy [!vT || nQ (Wh.q28 (List.getD AO (Int.toNat z7) (0,[],0,[],()),List.getD AO (Int.toNat (IntKind.wrap .i64 (z7-1))) (0,[],0,[],()))),!vT || decide (0≤IntKind.wrap .i64 (z7-1)),!vT || decide (IntKind.wrap .i64 (z7-1)<(↑(List.length AO):Int)),!vT || decide (0≤z7),!vT || decide (z7<(↑(List.length AO):Int))] then
  bif HR then
   let xY:List (an.D):=List.set AO (Int.toNat z7) (List.getD AO (Int.toNat (IntKind.wrap .i64 (z7-1))) (0,[],0,[],()))
   let yy:List (an.D):=List.set xY (Int.toNat (IntKind.wrap .i64 (z7-1))) (List.getD AO (Int.toNat z7) (0,[],0,[],()))
   let yA:=IntKind.wrap .i64 (z7-1)
   bif iy [decide (0≤yA),decide (yA<(↑(List.length xY):Int)),decide (0≤z7),decide (z7<(↑(List.length AO):Int)),decide (0≤z7),decide (z7<(↑(List.length AO):Int)),decide (0≤yA),decide (yA<(↑(List.length AO):Int))] then
    some (.inl ((yA,(),(),a_24,b_25,i_26),yy))
   else none
  else
   some (.inr (((),(),a_24,b_25,i_26),AO))
 else none
def Wh.aam:(((Unit)×(Unit)×(Int)×(Int)×(Int))×((List (an.D)))):=default
abbrev Wh.Te:Type:=((Unit)×(Int)×(Unit)×(Int)×(Int))×((List (an.D)))
abbrev Wh.q0_l0Y:Type:=(((Unit)×((List (an.D)))))
def Wh.Cf (x:Wh.Te):Option (Wh.Te⊕Wh.q0_l0Y):=
 let i_43:=x.1.2.1
 let a_44:=x.1.2.2.2.1
 let b_45:=x.1.2.2.2.2
 let CH:=x.2
 bif decide (i_43<b_45) then
  let Cz:Wh.Tf:=((i_43,(),(),a_44,b_45,i_43),CH)
  bif lF Wh.CK Cz then
   let Df:=kG Wh.CK Wh.aam Cz
   let a_50:=(Df.1.2.2).1
   let b_51:=Df.1.2.2.2.1
   let i_52:=Df.1.2.2.2.2
   let IB:=Df.2
   some (.inl (((),(IntKind.wrap .i64 (i_52+1)),(),a_50,b_51),IB))
  else none
 else
  some (.inr ((),CH))
def Wh.aal:((Unit)×((List (an.D)))):=default
def Wh.q0 (xs:(List (an.D))×(Int)×(Int)×(Unit)):Option ((Unit)×((List (an.D))×Unit)):=
 let R8:=xs.1
 let a_1:=xs.2.1
 let b_2:=xs.2.2.1
 let Lb:Wh.Te:=(((),(IntKind.wrap .i64 (a_1+1)),(),a_1,b_2),R8)
 bif lF Wh.Cf Lb then
  let y_56:=kG Wh.Cf Wh.aal Lb
  let pb_57:=y_56.2
  some ((),pb_57,())
 else none
def Wh.q0':=bx Wh.q0
theorem Wh.q0_v:OV Wh.q0 Wh.q0':=e_ _
abbrev Wh.U8:Type:=((Unit)×(Int)×(Int)×(Unit)×(Bool)×(Bool)×(Int))×((List (an.D)))
abbrev Wh.q1_l0Y:Type:=(((Unit)×((List (an.D)))))
def Wh.IL (x:Wh.U8):Option (Wh.U8⊕Wh.q1_l0Y):=
 let b_15:=x.1.2.1
 let a_16:=(x.1.2.2).1
 let al4:=(x.1.2.2.2.2).2.1
 let afK:=(x.1.2.2.2.2).2.2
 let y7:=x.2
 bif decide ((IntKind.wrap .i64 (b_15-a_16))≤12) then
  let x9:=Wh.q0' (y7,a_16,b_15,())
  bif iy [nQ (Wh.q0 (y7,a_16,b_15,()))] then
   some (.inr ((),x9.2.1))
  else none
 else
  let yK:=afK==0
  bif yK then
   none
  else
   bif !al4 then
    none
   else
    none
def Wh.abJ:((Unit)×((List (an.D)))):=default
def Wh.q1 (xs:(List (an.D))×(Int)×(Int)×(Int)×(Unit)):Option ((Unit)×((List (an.D))×Unit)):=
 let R8:=xs.1
 let a_1:=xs.2.1
 let b_2:=xs.2.2.1
 let afL:=(xs.2.2.2).1
 let x_25:Wh.U8:=(((),b_2,a_1,(),true,true,afL),R8)
 bif lF Wh.IL x_25 then
  let y8:=kG Wh.IL Wh.abJ x_25
  let AO:=y8.2
  some ((),AO,())
 else none
def Wh.q1':=bx Wh.q1
theorem Wh.q1_v:OV Wh.q1 Wh.q1':=e_ _
def Wh.q4 (xs:(List (an.D))×(Unit)):Option ((Unit)×((List (an.D))×Unit)):=
 let yV:=xs.1
 let v_2:Int:=(↑(List.length yV):Int)
 let r_3:=Wh.qX (IntKind.wrap .u64 v_2)
 let nE:=Wh.q1' (yV,0,v_2,r_3.1,())
 bif iy [nQ (Wh.q1 (yV,0,v_2,r_3.1,())),nQ (Wh.bits_Len (IntKind.wrap .u64 v_2))] then
  some ((),nE.2.1,())
 else none
def Wh.q4':=bx Wh.q4
theorem Wh.q4_v:OV Wh.q4 Wh.q4':=e_ _
def Wh.Em (xs:(fk.D)×(Int)×(List UInt8)×(List UInt8)):Option ((((Int)×((List (an.D))×(Unit)))×(Int))×(Unit)):=
 let fe:=xs.1
 let x6:=xs.2.1
 let yZ:=xs.2.2.1
 let Da:=xs.2.2.2
 let nE:=Wh.KD fe
 bif iy [nQ (Wh.Eh fe)] then
  let xT:=Wh.OS (x6,yZ,Da)
  bif iy [nQ (Wh.q16 (x6,yZ,Da))] then
   bif !xT.1 then
    some ((nE.1,1),())
   else
    let yG:=Wh.O7 (fe,x6,yZ)
    bif iy [nQ (Wh.Cl (fe,x6,yZ))] then
     bif decide (yG.1≥0) then
      some ((nE.1,2),())
     else
      let yd:Int:=(↑(List.length fe.2.1):Int)
      let IS:=Wh.q25' (fe,x6)
      let vN:=bif bif yd==8 then true else fe.1==99999 then true else decide (IntKind.wrap .i64 (IS.1+(↑(List.length Da):Int))>500)
      bif iy [(!!bif yd==8 then true else fe.1==99999) || nQ (Wh.q25 (fe,x6))] then
       bif vN then
        some ((nE.1,4),())
       else
        let GA:=IntKind.wrap .i64 (nE.1.1+1)
        let pb_18:List (an.D):=[(x6,yZ,GA,Da,())]
        let IA:List (an.D):=nE.1.2.1++pb_18
        bif iy [decide (List.length (nE.1.2.1)+(1:Nat)≤dh)] then
         let y2:=Wh.q4' (IA,())
         bif iy [nQ (Wh.q4 (IA,()))] then
          let Bx:=Wh.KD (GA,y2.2.1,nE.1.2.2)
          bif iy [nQ (Wh.Eh (GA,y2.2.1,nE.1.2.2))] then
           some ((Bx.1,0),())
          else none
         else none
        else none
      else none
    else none
  else none
 else none
def Wh.q85':=bx Wh.Em
theorem Wh.q85_v:OV Wh.Em Wh.q85':=e_ _
def Wh.q24 (xs:(fk.D)×(List UInt8)):Option ((((Int)×((List (an.D))×(Unit)))×(Bool))×(Unit)):=
 let fe:=xs.1
 let zT:=xs.2
 let r_2:=Wh.tK (zT,[(58:UInt8)])
 bif iy [nQ (Wh.strings_Cut (zT,[(58:UInt8)]))] then
  let r_3:=Wh.tK (r_2.1.1,[(32:UInt8)])
  bif iy [nQ (Wh.strings_Cut (r_2.1.1,[(32:UInt8)]))] then
   let nE:=Wh.rW r_3.1.1
   bif iy [nQ (Wh.rV r_3.1.1)] then
    let yB:=zT == []
    let yG:=Wh.q23' (nE.1.1,r_3.1.2.1,r_2.1.2.1)
    let w8:=bif yB then true else !yG.1==zT
    bif iy [!!yB || nQ (Wh.q23 (nE.1.1,r_3.1.2.1,r_2.1.2.1))] then
     bif w8 then
      some (((0,[],()),false),())
     else
      let yJ:=Wh.q48' (fe,nE.1.1,r_3.1.2.1)
      bif iy [nQ (Wh.q48 (fe,nE.1.1,r_3.1.2.1))] then
       bif(!r_2.1.2.1 == []) then
        let BW:=Wh.q85' (fe,nE.1.1,r_3.1.2.1,r_2.1.2.1)
        bif iy [nQ (Wh.Em (fe,nE.1.1,r_3.1.2.1,r_2.1.2.1))] then
         some ((BW.1.1,(BW.1.2==0)),())
        else none
       else
        some ((yJ.1.1,(yJ.1.2==0)),())
      else none
    else none
   else none
  else none
 else none
def Wh.q24':=bx Wh.q24
theorem Wh.Va:OV Wh.q24 Wh.q24':=e_ _
abbrev Wh.Up:Type:=((Unit)×(Int)×(Unit)×(List (List UInt8))×(Int))×(((Int)×((Unit)×(Unit)))×((Int)×((Unit)×(Unit)))×(List (an.D))×(List (an.D)))
abbrev Wh.ahU:Type:=((((Unit)×(Bool))×(((Int)×((Unit)×(Unit)))×(List (an.D))))⊕(((Unit)×(Unit))×(((Int)×((Unit)×(Unit)))×((Int)×((Unit)×(Unit)))×(List (an.D))×(List (an.D)))))
def Wh.DS (x:Wh.Up):Option (Wh.Up⊕Wh.ahU):=
 let vN:=x.1.2.1
 let xS:=x.1.2.2.2.1
 let nP:=x.1.2.2.2.2
 let yx:=x.2.1.1
 let yN:=x.2.1.2.2
 let zc:=x.2.2.1.1
 let zm:=(x.2.2.1).2.2
 let zo:=(x.2.2.2).1
 let Ag:=x.2.2.2.2
 bif decide (vN<nP) then
  let xR:=List.getD xS (Int.toNat vN) []
  bif iy [decide (0≤vN),decide (vN<(↑(List.length xS):Int))] then
   let BY:=Wh.q24' ((zc,Ag,zm),xR)
   bif iy [nQ (Wh.q24 ((zc,Ag,zm),xR))] then
    bif(!BY.1.2) then
     some (.inr (.inl (((),false),(0,(),()),[])))
    else
     some (.inl (((),(IntKind.wrap .i64 (vN+1)),(),xS,nP),(yx,(),yN),(BY.1.1.1,(),BY.1.1.2.2),zo,(BY.1.1.2).1))
   else none
  else none
 else
  some (.inr (.inr (((),()),(yx,(),yN),(zc,(),zm),zo,Ag)))
def Wh.abc:(((Unit)×(Bool))×(((Int)×((Unit)×(Unit)))×(List (an.D))))⊕(((Unit)×(Unit))×(((Int)×((Unit)×(Unit)))×((Int)×((Unit)×(Unit)))×(List (an.D))×(List (an.D)))):=.inl default
def Wh.DR (xs:(List (List UInt8))):Option ((((Int)×((List (an.D))×(Unit)))×(Bool))×(Unit)):=
 let Pu:List (List UInt8):=xs
 let v_1:Int:=(↑(List.length Pu):Int)
 let F5:Wh.Up:=(((),0,(),Pu,v_1),(0,(),()),(0,(),()),[],[])
 bif lF Wh.DS F5 then
  sumC (kG Wh.DS Wh.abc F5) (fun F9=>
   let yA:=F9.1.2
   let yg:=F9.2.1.1
   let yH:=F9.2.1.2.2
   let SE:=F9.2.2
   some (((yg,SE,yH),yA),())) (fun HV=>
   let z8:=HV.2.2.1.1
   let ls_40:=(HV.2.2.1).2.2
   let Iv:=HV.2.2.2.2
   some (((z8,Iv,ls_40),true),()))
 else none
def Wh.ON:=bx Wh.DR
theorem Wh.Uq:OV Wh.DR Wh.ON:=e_ _
abbrev Wh.TV:Type:=((Int)×(List (an.D))×(List (an.D))×(Int))×(Unit)
abbrev Wh.ahI:Type:=((((Bool))×(Unit))⊕((Unit)×(Unit)))
def Wh.DK (x:Wh.TV):Option (Wh.TV⊕Wh.ahI):=
 let s_:=x.1.1
 let Wn:=x.1.2.1
 let Wm:=(x.1.2.2).1
 let xS:=x.1.2.2.2
 bif decide (s_<xS) then
  let nG:an.D:=List.getD Wm (Int.toNat s_) (0,[],0,[],())
  let n_:an.D:=List.getD Wn (Int.toNat s_) (0,[],0,[],())
  bif iy [decide (0≤s_),decide (s_<(↑(List.length Wn):Int)),decide (0≤s_),decide (s_<(↑(List.length Wm):Int))] then
   bif(!(nG.1==n_.1&&(nG.2.1==n_.2.1&&(nG.2.2.1==n_.2.2.1&&((nG.2.2.2).1==(n_.2.2.2).1&&true))))) then
    some (.inr (.inl (false,())))
   else
    some (.inl (((IntKind.wrap .i64 (s_+1)),Wn,Wm,xS),()))
  else none
 else
  some (.inr (.inr ((),())))
def Wh.aaS:(((Bool))×(Unit))⊕((Unit)×(Unit)):=.inl default
def Wh.q12 (xs:(List (an.D))×(List (an.D))):Option (((Bool))×(Unit)):=
 let s1_0:=xs.1
 let s2_1:=xs.2
 let v_2:Int:=(↑(List.length s1_0):Int)
 let w9:Int:=(↑(List.length s2_1):Int)
 let x7:=v_2 != w9
 bif x7 then
  some (false,())
 else
  let x_23:Wh.TV:=((0,s2_1,s1_0,v_2),())
  bif lF Wh.DK x_23 then
   sumC (kG Wh.DK Wh.aaS x_23) (fun y_24=>
    let xR:=y_24.1
    some (xR,())) (fun _=>
    some (true,()))
  else none
def Wh.q12':=bx Wh.q12
theorem Wh.q12_v:OV Wh.q12 Wh.q12':=e_ _
def Wh.q94 (xs:(fk.D)×(fk.D)):Option (((Bool))×(Unit)):=
 let bn:=xs.1
 let b_1:=xs.2
 let v_2:=bn.1==b_1.1
 let r_3:=Wh.q12' (bn.2.1,b_1.2.1)
 let yB:=bif v_2 then r_3.1 else false
 bif iy [!v_2 || nQ (Wh.q12 (bn.2.1,b_1.2.1))] then
  some (yB,())
 else none
def Wh.q94':=bx Wh.q94
theorem Wh.q94_v:OV Wh.q94 Wh.q94':=e_ _
abbrev Wh.Vc:Type:=((Int)×(Int)×(Int)×(List (ng.D))×(Int))×(Unit)
abbrev Wh.aii:Type:=((((Int))×(Unit))⊕((Unit)×(Unit)))
def Wh.Ea (x:Wh.Vc):Option (Wh.Vc⊕Wh.aii):=
 let s_:=x.1.1
 let Xp:=x.1.2.1
 let JL:=(x.1.2.2).1
 let xS:=x.1.2.2.2.1
 let nP:=x.1.2.2.2.2
 bif decide (s_<nP) then
  let y7:ng.D:=List.getD xS (Int.toNat s_) (0,0,0,0,false,())
  bif iy [decide (0≤s_),decide (s_<(↑(List.length xS):Int))] then
   let yP:=bif(y7.2.1==JL) then y7.2.2.1==Xp else false
   bif yP then
    some (.inr (.inl (s_,())))
   else
    some (.inl (((IntKind.wrap .i64 (s_+1)),Xp,JL,xS,nP),()))
  else none
 else
  some (.inr (.inr ((),())))
def Wh.abM:(((Int))×(Unit))⊕((Unit)×(Unit)):=.inl default
def Wh.q26 (xs:(n5.D)×(Int)×(Int)):Option (((Int))×(Unit)):=
 let wh:=xs.1
 let Ii:=xs.2.1
 let ads:=xs.2.2
 let w9:Int:=(↑(List.length wh.1):Int)
 let x_24:Wh.Vc:=((0,ads,Ii,wh.1,w9),())
 bif lF Wh.Ea x_24 then
  sumC (kG Wh.Ea Wh.abM x_24) (fun PU=>
   let yz:=PU.1
   some (yz,())) (fun _=>
   some (-1,()))
 else none
def Wh.q26':=bx Wh.q26
theorem Wh.q26_v:OV Wh.q26 Wh.q26':=e_ _
abbrev Wh.V2:Type:=((Int)×(Int)×(Int)×(List (ng.D))×(Int))×(Unit)
abbrev Wh.aiY:Type:=((((Int))×(Unit)))
def Wh.En (x:Wh.V2):Option (Wh.V2⊕Wh.aiY):=
 let xO:=x.1.1
 let Gx:=x.1.2.1
 let Gj:=(x.1.2.2).1
 let nP:=x.1.2.2.2.1
 let nG:=x.1.2.2.2.2
 bif decide (xO<nG) then
  let pb_21:ng.D:=List.getD nP (Int.toNat xO) (0,0,0,0,false,())
  bif iy [decide (0≤xO),decide (xO<(↑(List.length nP):Int))] then
   let zJ:=bif decide (pb_21.2.1>0) then pb_21.1==Gj else false
   bif zJ then
    some (.inl (((IntKind.wrap .i64 (xO+1)),(IntKind.wrap .i64 (Gx+1)),Gj,nP,nG),()))
   else
    some (.inl (((IntKind.wrap .i64 (xO+1)),Gx,Gj,nP,nG),()))
  else none
 else
  some (.inr (Gx,()))
def Wh.acy:(((Int))×(Unit)):=default
def Wh.q90 (xs:(n5.D)×(Int)):Option (((Int))×(Unit)):=
 let wh:=xs.1
 let x6:=xs.2
 let v_2:Int:=(↑(List.length wh.1):Int)
 let K7:Wh.V2:=((0,0,x6,wh.1,v_2),())
 bif lF Wh.En K7 then
  let HU:=kG Wh.En Wh.acy K7
  let n_29:=HU.1
  some (n_29,())
 else none
def Wh.q90':=bx Wh.q90
theorem Wh.IQ:OV Wh.q90 Wh.q90':=e_ _
abbrev Wh.TM:Type:=((Int)×(Unit))×((n5.D))
abbrev Wh.ahG:Type:=((((Bool))×(Unit))⊕((Unit)×(Unit)))
def Wh.CP (x:Wh.TM):Option (Wh.TM⊕Wh.ahG):=
 let IX:=x.1.1
 let SK:=x.2
 bif decide (IX<2) then
  let Pp:=Wh.q90' (SK,IX)
  bif iy [nQ (Wh.q90 (SK,IX))] then
   bif decide (Pp.1>5) then
    some (.inr (.inl (false,())))
   else
    some (.inl (((IntKind.wrap .i64 (IX+1)),()),SK))
  else none
 else
  some (.inr (.inr ((),())))
def Wh.aaN:(((Bool))×(Unit))⊕((Unit)×(Unit)):=.inl default
abbrev Wh.TL:Type:=((Int)×(Unit)×(List (ng.D))×(Int))×((n5.D))
abbrev Wh.ahF:Type:=((((Bool))×(Unit))⊕(((Unit))×((n5.D))))
def Wh.CN (x:Wh.TL):Option (Wh.TL⊕Wh.ahF):=
 let vT:=x.1.1
 let y4:=(x.1.2.2).1
 let HR:=x.1.2.2.2
 let zW:=x.2
 bif decide (vT<HR) then
  let zN:ng.D:=List.getD y4 (Int.toNat vT) (0,0,0,0,false,())
  bif iy [decide (0≤vT),decide (vT<(↑(List.length y4):Int))] then
   bif(zN.2.1==0) then
    bif(!(zN.1==0&&(zN.2.1==0&&(zN.2.2.1==0&&((zN.2.2.2).1==0&&(zN.2.2.2.2.1==false&&true)))))) then
     some (.inr (.inl (false,())))
    else
     some (.inl (((IntKind.wrap .i64 (vT+1)),(),y4,HR),zW))
   else
    let FY:=Wh.Kn zN.1
    let Ev:=Wh.pg (zN.2.1,1,99999)
    let Al:=Wh.pg (zN.2.2.1,0,23)
    let KL:=Wh.pg ((zN.2.2.2).1,0,99999)
    let HH:=Wh.q26' (zW,zN.2.1,zN.2.2.1)
    let EE:=bif bif bif bif !FY.1 then true else !Ev.1 then true else !Al.1 then true else !KL.1 then true else HH.1 != vT
    bif iy [(!!bif bif bif !FY.1 then true else !Ev.1 then true else !Al.1 then true else !KL.1) || nQ (Wh.q26 (zW,zN.2.1,zN.2.2.1)),(!!bif bif !FY.1 then true else !Ev.1 then true else !Al.1) || nQ (Wh.xU ((zN.2.2.2).1,0,99999)),(!!bif !FY.1 then true else !Ev.1) || nQ (Wh.xU (zN.2.2.1,0,23)),!!!FY.1 || nQ (Wh.xU (zN.2.1,1,99999)),nQ (Wh.Bq zN.1)] then
     bif EE then
      some (.inr (.inl (false,())))
     else
      some (.inl (((IntKind.wrap .i64 (vT+1)),(),y4,HR),zW))
    else none
  else none
 else
  some (.inr (.inr ((),zW)))
def Wh.aaM:(((Bool))×(Unit))⊕(((Unit))×((n5.D))):=.inl default
def Wh.Fb (xs:(n5.D)):Option (((Bool))×(Unit)):=
 let wh:n5.D:=xs
 let v_1:Int:=(↑(List.length wh.1):Int)
 let nE:=Wh.pg (wh.2.1,0,7)
 let yB:=bif v_1 != 8 then true else !nE.1
 bif iy [!!v_1 != 8 || nQ (Wh.xU (wh.2.1,0,7))] then
  bif yB then
   some (false,())
  else
   let x_50:Wh.TL:=((0,(),wh.1,v_1),wh)
   bif lF Wh.CN x_50 then
    sumC (kG Wh.CN Wh.aaM x_50) (fun y_51=>
     let B4:=y_51.1
     some (B4,())) (fun z_52=>
     let SH:=z_52.2
     let x_67:Wh.TM:=((0,()),SH)
     bif lF Wh.CP x_67 then
      sumC (kG Wh.CP Wh.aaN x_67) (fun y_68=>
       let PO:=y_68.1
       some (PO,())) (fun _=>
       some (true,()))
     else none)
   else none
 else none
def Wh.TK:=bx Wh.Fb
theorem Wh.TN:OV Wh.Fb Wh.TK:=e_ _
def Wh.IP (xs:(an.D)×(Int)):Option (((Bool))×(Unit)):=
 let i_0:=xs.1
 let v_1:=xs.2
 some ((i_0.2.2.1==v_1),())
def Wh.q8':=bx Wh.IP
theorem Wh.q8_v:OV Wh.IP Wh.q8':=e_ _
abbrev Wh.Vf:Type:=((Int)×(List (an.D))×((Int)×(Unit))×(Int))×(Unit)
abbrev Wh.q2_l0Y:Type:=((((Int))×(Unit))⊕((Unit)×(Unit)))
def Wh.Eb (x:Wh.Vf):Option (Wh.Vf⊕Wh.q2_l0Y):=
 let yU:=x.1.1
 let HL:=x.1.2.1
 let f_13:=(x.1.2.2).1.1
 let s_:=x.1.2.2.2
 bif decide (yU<s_) then
  let vN:an.D:=List.getD HL (Int.toNat yU) (0,[],0,[],())
  let Ak:=Wh.q8' (vN,f_13)
  bif iy [nQ (Wh.IP (vN,f_13)),decide (0≤yU),decide (yU<(↑(List.length HL):Int))] then
   bif Ak.1 then
    some (.inr (.inl (yU,())))
   else
    some (.inl (((IntKind.wrap .i64 (yU+1)),HL,(f_13,()),s_),()))
  else none
 else
  some (.inr (.inr ((),())))
def Wh.abP:(((Int))×(Unit))⊕((Unit)×(Unit)):=.inl default
def Wh.q2 (xs:(List (an.D))×((Int)×(Unit))):Option (((Int))×(Unit)):=
 let fN:=xs.1
 let f_1:=xs.2
 let v_2:Int:=(↑(List.length fN):Int)
 let x_19:Wh.Vf:=((0,fN,(f_1.1,()),v_2),())
 bif lF Wh.Eb x_19 then
  sumC (kG Wh.Eb Wh.abP x_19) (fun F7=>
   let yP:=F7.1
   some (yP,())) (fun _=>
   some (-1,()))
 else none
def Wh.D8:=bx Wh.q2
theorem Wh.q2_v:OV Wh.q2 Wh.D8:=e_ _
def Wh.DQ (xs:(fk.D)×(Int)):Option (((Int))×(Unit)):=
 let fe:=xs.1
 let Ii:=xs.2
 let r_2:=Wh.D8 (fe.2.1,Ii,())
 bif iy [nQ (Wh.q2 (fe.2.1,Ii,()))] then
  some (r_2.1,())
 else none
def Wh.OM:=bx Wh.DQ
theorem Wh.G8:OV Wh.DQ Wh.OM:=e_ _
def Wh.AQ (xs:(so.D)):Option (((Int))×(Unit)):=
 let wh:so.D:=xs
 bif iy [wh.2.1 != 0] then
  some ((IntKind.wrap .i64 (Int.tdiv (IntKind.wrap .i64 ((IntKind.wrap .i64 (wh.1+wh.2.1))-1)) wh.2.1)),())
 else none
def Wh.zq:=bx Wh.AQ
theorem Wh.q20_v:OV Wh.AQ Wh.zq:=e_ _
abbrev Wh.V1:Type:=((Unit)×(Unit))×(((Int)×((Int)×((Unit)×((Unit)×(Unit)))))×((Int)×((Int)×((Unit)×((Unit)×(Unit)))))×(List (Int))×(List (Int))×(List (Int))×(List (Int)))
abbrev Wh.aiX:Type:=((((Unit)×(Unit))×(((Int)×((Int)×((Unit)×((Unit)×(Unit)))))×((Int)×((Int)×((Unit)×((Unit)×(Unit)))))×(List (Int))×(List (Int))×(List (Int))×(List (Int)))))
def Wh.KH (x:Wh.V1):Option (Wh.V1⊕Wh.aiX):=
 let yD:=x.2.1.1
 let BQ:=(x.2.1.2).1
 let xd:=(x.2.1.2.2.2).2
 let xb:=x.2.2.1.1
 let yx:=(x.2.2.1).2.1
 let yN:=(x.2.2.1).2.2.2.2
 let zc:=(x.2.2.2).1
 let zm:=x.2.2.2.2.1
 let zo:=(x.2.2.2.2.2).1
 let Ag:=(x.2.2.2.2.2).2
 let BX:=Wh.zq (yD,BQ,zc,zm,xd)
 bif iy [nQ (Wh.AQ (yD,BQ,zc,zm,xd))] then
  bif decide (BX.1>24) then
   some (.inl (((),()),(yD,(IntKind.wrap .i64 (BQ+1)),(),(),xd),(xb,yx,(),(),yN),zc,zm,zo,Ag))
  else
   some (.inr (((),()),(xb,yx,(),(),yN),(yD,BQ,(),(),xd),zo,Ag,zc,zm))
 else none
def Wh.acw:(((Unit)×(Unit))×(((Int)×((Int)×((Unit)×((Unit)×(Unit)))))×((Int)×((Int)×((Unit)×((Unit)×(Unit)))))×(List (Int))×(List (Int))×(List (Int))×(List (Int)))):=default
def Wh.q89 (xs:(Int)):Option ((((Int)×((Int)×((List (Int))×((List (Int))×(Unit))))))×(Unit)):=
 let J0:=xs
 let r_1:=Wh.pg (J0,1,300)
 bif iy [nQ (Wh.xU (J0,1,300))] then
  bif !r_1.1 then
   some ((0,0,[],[],()),())
  else
   let Ar:Wh.V1:=(((),()),(J0,8,(),(),()),(0,0,(),(),()),[],[],[],[])
   bif lF Wh.KH Ar then
    let Aa:=kG Wh.KH Wh.acw Ar
    let Ah:=Aa.2.2.1.1
    let yg:=(Aa.2.2.1).2.1
    let yH:=(Aa.2.2.1).2.2.2.2
    let yE:=(Aa.2.2.2.2.2).1
    let z8:=(Aa.2.2.2.2.2).2
    let IT:=Wh.zq (Ah,yg,yE,z8,yH)
    bif iy [nQ (Wh.AQ (Ah,yg,yE,z8,yH))] then
     let k_43:=IntKind.wrap .i64 (Int.tdiv (IntKind.wrap .i64 (IT.1+3)) 4)
     bif decide (k_43<IT.1) then
      let Tb:List Int:=[k_43,IT.1]
      some ((Ah,yg,Tb,[(2:Int),3],yH),())
     else
      let CH:List Int:=[IT.1]
      some ((Ah,yg,CH,[(1:Int)],yH),())
    else none
   else none
 else none
def Wh.q89':=bx Wh.q89
theorem Wh.q89_v:OV Wh.q89 Wh.q89':=e_ _
abbrev Wh.Vz:Type:=((Int)×(Unit)×(List (ng.D))×(Int))×((fk.D))
abbrev Wh.aiz:Type:=((((Bool))×(Unit))⊕((Unit)×(Unit)))
def Wh.Bt (x:Wh.Vz):Option (Wh.Vz⊕Wh.aiz):=
 let yK:=x.1.1
 let zy:=(x.1.2.2).1
 let xR:=x.1.2.2.2
 let zd:=x.2
 bif decide (yK<xR) then
  let yI:ng.D:=List.getD zy (Int.toNat yK) (0,0,0,0,false,())
  bif iy [decide (0≤yK),decide (yK<(↑(List.length zy):Int))] then
   bif(yI.2.1==0) then
    some (.inl (((IntKind.wrap .i64 (yK+1)),(),zy,xR),zd))
   else
    let xZ:=Wh.OM (zd,yI.2.1)
    bif iy [nQ (Wh.DQ (zd,yI.2.1))] then
     let BZ:=Wh.q89' (↑(List.length (Prod.fst (Prod.snd (Prod.snd (Prod.snd (List.getD zd.2.1 (Int.toNat xZ.1) (0,[],0,[],()))))))):Int)
     let ym:=decide ((yI.2.2.2).1>0)
     let Al:=Wh.zq (BZ.1.1,BZ.1.2.1,bif !bif bif ym then true else decide (xZ.1<0) then true else Prod.fst (List.getD zd.2.1 (Int.toNat xZ.1) (0,[],0,[],())) != yI.1 then(BZ.1.2.2).1 else [],bif !bif bif ym then true else decide (xZ.1<0) then true else Prod.fst (List.getD zd.2.1 (Int.toNat xZ.1) (0,[],0,[],())) != yI.1 then BZ.1.2.2.2.1 else [],BZ.1.2.2.2.2)
     let F2:=bif bif bif ym then true else decide (xZ.1<0) then true else Prod.fst (List.getD zd.2.1 (Int.toNat xZ.1) (0,[],0,[],())) != yI.1 then true else decide (yI.2.2.1≥Al.1)
     bif iy [(!!bif bif ym then true else decide (xZ.1<0) then true else Prod.fst (List.getD zd.2.1 (Int.toNat xZ.1) (0,[],0,[],())) != yI.1) || nQ (Wh.AQ (BZ.1.1,BZ.1.2.1,bif !bif bif ym then true else decide (xZ.1<0) then true else Prod.fst (List.getD zd.2.1 (Int.toNat xZ.1) (0,[],0,[],())) != yI.1 then(BZ.1.2.2).1 else [],bif !bif bif ym then true else decide (xZ.1<0) then true else Prod.fst (List.getD zd.2.1 (Int.toNat xZ.1) (0,[],0,[],())) != yI.1 then BZ.1.2.2.2.1 else [],BZ.1.2.2.2.2)),(!!bif bif ym then true else decide (xZ.1<0) then true else Prod.fst (List.getD zd.2.1 (Int.toNat xZ.1) (0,[],0,[],())) != yI.1) || nQ (Wh.q89 (↑(List.length (Prod.fst (Prod.snd (Prod.snd (Prod.snd (List.getD zd.2.1 (Int.toNat xZ.1) (0,[],0,[],()))))))):Int)),(!!bif bif ym then true else decide (xZ.1<0) then true else Prod.fst (List.getD zd.2.1 (Int.toNat xZ.1) (0,[],0,[],())) != yI.1) || decide (0≤xZ.1),(!!bif bif ym then true else decide (xZ.1<0) then true else Prod.fst (List.getD zd.2.1 (Int.toNat xZ.1) (0,[],0,[],())) != yI.1) || decide (xZ.1<(↑(List.length zd.2.1):Int)),(!!bif ym then true else decide (xZ.1<0)) || decide (0≤xZ.1),(!!bif ym then true else decide (xZ.1<0)) || decide (xZ.1<(↑(List.length zd.2.1):Int))] then
      bif F2 then
       some (.inr (.inl (false,())))
      else
       some (.inl (((IntKind.wrap .i64 (yK+1)),(),zy,xR),zd))
     else none
    else none
  else none
 else
  some (.inr (.inr ((),())))
def Wh.ab4:(((Bool))×(Unit))⊕((Unit)×(Unit)):=.inl default
def Wh.q54 (xs:(n5.D)×(fk.D)):Option (((Bool))×(Unit)):=
 let wh:=xs.1
 let c_1:=xs.2
 let r_2:=Wh.TK wh
 bif iy [nQ (Wh.Fb wh)] then
  bif !r_2.1 then
   some (false,())
  else
   let w9:Int:=(↑(List.length wh.1):Int)
   let x_44:Wh.Vz:=((0,(),wh.1,w9),c_1)
   bif lF Wh.Bt x_44 then
    sumC (kG Wh.Bt Wh.ab4 x_44) (fun y_45=>
     let KX:=y_45.1
     some (KX,())) (fun _=>
     some (true,()))
   else none
 else none
def Wh.q54':=bx Wh.q54
theorem Wh.q54_v:OV Wh.q54 Wh.q54':=e_ _
def Wh.q46 (xs:(nI.D)):Option (((Bool))×(Unit)):=
 let y_:nI.D:=xs
 let r_1:=Wh.pg (y_.2.1,0,99999)
 let r_2:=Wh.pg (y_.2.2.1,0,99999)
 let xT:=Wh.pg (y_.1,0,y_.2.1)
 let yJ:=Wh.pg ((y_.2.2.2).1,0,99999)
 let zw:=bif bif bif r_1.1 then r_2.1 else false then xT.1 else false then yJ.1 else false
 bif iy [(!bif bif r_1.1 then r_2.1 else false then xT.1 else false) || nQ (Wh.xU ((y_.2.2.2).1,0,99999)),(!bif r_1.1 then r_2.1 else false) || nQ (Wh.xU (y_.1,0,y_.2.1)),!r_1.1 || nQ (Wh.xU (y_.2.2.1,0,99999)),nQ (Wh.xU (y_.2.1,0,99999))] then
  some (zw,())
 else none
def Wh.q46':=bx Wh.q46
theorem Wh.q46_v:OV Wh.q46 Wh.q46':=e_ _
def Wh.Co (xs:(Int)):Option (((Bool))×(Unit)):=
 let yY:=xs
 let r_1:=Wh.pg (yY,0,3)
 bif iy [nQ (Wh.xU (yY,0,3))] then
  some (r_1.1,())
 else none
def Wh.IN:=bx Wh.Co
theorem Wh.KC:OV Wh.Co Wh.IN:=e_ _
def Wh.q92 (xs:(Int)):Option (((Int))×(Unit)):=
 let R2:=xs
 some ((Int.tmod R2 2),())
def Wh.Pf:=bx Wh.q92
theorem Wh.Pg:OV Wh.q92 Wh.Pf:=e_ _
abbrev Wh.Vv:Type:=((Int)×(Unit)×(List (r_.D))×(Int))×((nC.D))
abbrev Wh.aiw:Type:=((((Bool))×(Unit))⊕((Unit)×(Unit)))
def Wh.C4 (x:Wh.Vv):Option (Wh.Vv⊕Wh.aiw):=
 let B5:=x.1.1
 let v_89:=(x.1.2.2).1
 let PR:=x.1.2.2.2
 let A5:=x.2
 bif decide (B5<PR) then
  let zO:r_.D:=List.getD v_89 (Int.toNat B5) (0,0,0,0,0,0,())
  bif iy [decide (0≤B5),decide (B5<(↑(List.length v_89):Int))] then
   let IZ:=decide (B5>0)
   let r_97:=Wh.IN zO.1
   let r_100:=Wh.pg (zO.2.1,1,99999)
   let Wg:=Wh.pg (zO.2.2.1,1,(A5.2.2.2).1.1)
   let v_104:=bif bif bif bif IZ then decide (Prod.fst (List.getD ((A5.2.2.2.2.2).2.1) (Int.toNat (IntKind.wrap .i64 (B5-1))) (0,0,0,0,0,0,()))≥zO.1) else false then true else !r_97.1 then true else !r_100.1 then true else !Wg.1
   bif iy [(!!bif bif bif IZ then decide (Prod.fst (List.getD ((A5.2.2.2.2.2).2.1) (Int.toNat (IntKind.wrap .i64 (B5-1))) (0,0,0,0,0,0,()))≥zO.1) else false then true else !r_97.1 then true else !r_100.1) || nQ (Wh.xU (zO.2.2.1,1,(A5.2.2.2).1.1)),(!!bif bif IZ then decide (Prod.fst (List.getD ((A5.2.2.2.2.2).2.1) (Int.toNat (IntKind.wrap .i64 (B5-1))) (0,0,0,0,0,0,()))≥zO.1) else false then true else !r_97.1) || nQ (Wh.xU (zO.2.1,1,99999)),(!!bif IZ then decide (Prod.fst (List.getD ((A5.2.2.2.2.2).2.1) (Int.toNat (IntKind.wrap .i64 (B5-1))) (0,0,0,0,0,0,()))≥zO.1) else false) || nQ (Wh.Co zO.1),!IZ || decide (0≤IntKind.wrap .i64 (B5-1)),!IZ || decide (IntKind.wrap .i64 (B5-1)<(↑(List.length ((A5.2.2.2.2.2).2.1)):Int))] then
    bif v_104 then
     some (.inr (.inl (false,())))
    else
     let Pk:=Wh.OM ((A5.2.2.2).1,zO.2.2.1)
     bif iy [nQ (Wh.DQ ((A5.2.2.2).1,zO.2.2.1))] then
      let PF:=decide (Pk.1≥0)
      let r_107:=Wh.Pf zO.1
      let Db:=bif PF then Prod.fst (List.getD ((A5.2.2.2).1.2.1) (Int.toNat Pk.1) (0,[],0,[],())) != r_107.1 else false
      bif iy [!PF || nQ (Wh.q92 zO.1),!PF || decide (0≤Pk.1),!PF || decide (Pk.1<(↑(List.length ((A5.2.2.2).1.2.1)):Int))] then
       bif Db then
        some (.inr (.inl (false,())))
       else
        let KI:=Wh.pg ((zO.2.2.2).1,0,9999)
        let r_110:=Wh.pg (zO.2.2.2.2.1,0,3)
        let r_113:=Wh.pg ((zO.2.2.2.2.2).1,0,A5.2.1)
        let v_114:=bif bif !KI.1 then true else !r_110.1 then true else !r_113.1
        bif iy [(!!bif !KI.1 then true else !r_110.1) || nQ (Wh.xU ((zO.2.2.2.2.2).1,0,A5.2.1)),!!!KI.1 || nQ (Wh.xU (zO.2.2.2.2.1,0,3)),nQ (Wh.xU ((zO.2.2.2).1,0,9999))] then
         bif v_114 then
          some (.inr (.inl (false,())))
         else
          some (.inl (((IntKind.wrap .i64 (B5+1)),(),v_89,PR),A5))
        else none
      else none
     else none
   else none
  else none
 else
  some (.inr (.inr ((),())))
def Wh.ab1:(((Bool))×(Unit))⊕((Unit)×(Unit)):=.inl default
abbrev Wh.Vu:Type:=((Int)×(Unit)×(List (nI.D))×(Int))×((nC.D))
abbrev Wh.aiv:Type:=((((Bool))×(Unit))⊕(((Unit))×((nC.D))))
def Wh.Eg (x:Wh.Vu):Option (Wh.Vu⊕Wh.aiv):=
 let Cv:=x.1.1
 let F2:=(x.1.2.2).1
 let HS:=x.1.2.2.2
 let SF:=x.2
 bif decide (Cv<HS) then
  let CH:nI.D:=List.getD F2 (Int.toNat Cv) (0,0,0,0,())
  bif iy [decide (0≤Cv),decide (Cv<(↑(List.length F2):Int))] then
   let HH:=Wh.q46' CH
   let KY:=bif bif bif !HH.1 then true else CH.2.1 != 40 then true else CH.2.2.1 != 8 then true else decide ((CH.2.2.2).1>SF.2.1)
   bif iy [nQ (Wh.q46 CH)] then
    bif KY then
     some (.inr (.inl (false,())))
    else
     some (.inl (((IntKind.wrap .i64 (Cv+1)),(),F2,HS),SF))
   else none
  else none
 else
  some (.inr (.inr ((),SF)))
def Wh.ab0:(((Bool))×(Unit))⊕(((Unit))×((nC.D))):=.inl default
def Wh.q50 (xs:(nC.D)):Option (((Bool))×(Unit)):=
 let fN:nC.D:=xs
 let r_1:=Wh.pg (fN.2.1,0,99999)
 let v_2:=bif !r_1.1 then true else decide ((↑(List.length (fN.2.2.1)):Int)>9000)
 bif iy [nQ (Wh.xU (fN.2.1,0,99999))] then
  bif v_2 then
   some (false,())
  else
   let r_3:=Wh.Pe (fN.2.2.1)
   bif iy [nQ (Wh.C5 (fN.2.2.1))] then
    let nE:=Wh.ON r_3.1.1
    bif iy [nQ (Wh.DR r_3.1.1)] then
     bif(!nE.1.2) then
      some (false,())
     else
      bif(!fN.1) then
       let w8:Bool:=(fN.2.2.2).1.1==0
       let afT:=bif bif bif w8 then(↑(List.length ((fN.2.2.2).1.2.1)):Int)==0 else false then(↑(List.length ((fN.2.2.2.2.1).1)):Int)==0 else false then(fN.2.2.2.2.1).2.1==0 else false
       let s_:=bif afT then(↑(List.length ((fN.2.2.2.2.2).1)):Int)==0 else false
       let vN:=bif s_ then(↑(List.length ((fN.2.2.2.2.2).2.1)):Int)==0 else false
       some (vN,())
      else
       let xS:Int:=(↑(List.length (fN.2.2.1)):Int)
       let y2:=Wh.q94' (nE.1.1,(fN.2.2.2).1)
       let x9:=Wh.q54' (fN.2.2.2.2.1,(fN.2.2.2).1)
       let xR:=bif bif bif r_3.1.2 != xS then true else !y2.1 then true else !x9.1 then true else(↑(List.length ((fN.2.2.2.2.2).1)):Int) != 2
       bif iy [(!!bif r_3.1.2 != xS then true else !y2.1) || nQ (Wh.q54 (fN.2.2.2.2.1,(fN.2.2.2).1)),!!r_3.1.2 != xS || nQ (Wh.q94 (nE.1.1,(fN.2.2.2).1))] then
        bif xR then
         some (false,())
        else
         let yz:Int:=(↑(List.length ((fN.2.2.2.2.2).1)):Int)
         let x_54:Wh.Vu:=((0,(),(fN.2.2.2.2.2).1,yz),fN)
         bif lF Wh.Eg x_54 then
          sumC (kG Wh.Eg Wh.ab0 x_54) (fun y_55=>
           let v_57:=y_55.1
           some (v_57,())) (fun z_56=>
           let SJ:=z_56.2
           let v_59:Int:=(↑(List.length ((SJ.2.2.2.2.2).2.1)):Int)
           let x_116:Wh.Vv:=((0,(),(SJ.2.2.2.2.2).2.1,v_59),SJ)
           bif lF Wh.C4 x_116 then
            sumC (kG Wh.C4 Wh.ab1 x_116) (fun y_117=>
             let PI:=y_117.1
             some (PI,())) (fun _=>
             some (true,()))
           else none)
         else none
       else none
    else none
   else none
 else none
def Wh.q50':=bx Wh.q50
theorem Wh.Vw:OV Wh.q50 Wh.q50':=e_ _
def Wh.GP (xs:(an.D)×(an.D)):Option (((Bool))×(Unit)):=
 let bn:=xs.1
 let b_1:=xs.2
 bif(bn.1 != b_1.1) then
  some (false,())
 else
  bif(!bn.2.1==b_1.2.1) then
   some (false,())
  else
   bif(bn.2.2.1 != b_1.2.2.1) then
    some (false,())
   else
    bif(!(bn.2.2.2).1==(b_1.2.2.2).1) then
     some (false,())
    else
     some (true,())
def Wh.TQ:=bx Wh.GP
theorem Wh.aaP:OV Wh.GP Wh.TQ:=e_ _
abbrev Wh.V_:Type:=((Int)×(List (an.D))×(List (an.D)))×(Unit)
abbrev Wh.ai4:Type:=((((Bool))×(Unit))⊕((Unit)×(Unit)))
def Wh.HE (x:Wh.V_):Option (Wh.V_⊕Wh.ai4):=
 let mb:=x.1.1
 let yM:=x.1.2.1
 let yL:=x.1.2.2
 let nP:Int:=(↑(List.length yL):Int)
 bif decide (mb<nP) then
  let n_:an.D:=List.getD yL (Int.toNat mb) (0,[],0,[],())
  let wX:an.D:=List.getD yM (Int.toNat mb) (0,[],0,[],())
  let x9:=Wh.TQ (n_,wX)
  bif iy [nQ (Wh.GP (n_,wX)),decide (0≤mb),decide (mb<(↑(List.length yM):Int)),decide (0≤mb),decide (mb<nP)] then
   bif !x9.1 then
    some (.inr (.inl (false,())))
   else
    some (.inl (((IntKind.wrap .i64 (mb+1)),yM,yL),()))
  else none
 else
  some (.inr (.inr ((),())))
def Wh.acE:(((Bool))×(Unit))⊕((Unit)×(Unit)):=.inl default
def Wh.q96 (xs:(List (an.D))×(List (an.D))):Option (((Bool))×(Unit)):=
 let bn:=xs.1
 let b_1:=xs.2
 let v_2:Int:=(↑(List.length bn):Int)
 let w9:Int:=(↑(List.length b_1):Int)
 let x7:=v_2 != w9
 bif x7 then
  some (false,())
 else
  let x_25:Wh.V_:=((0,b_1,bn),())
  bif lF Wh.HE x_25 then
   sumC (kG Wh.HE Wh.acE x_25) (fun y8=>
    let vT:=y8.1
    some (vT,())) (fun _=>
    some (true,()))
  else none
def Wh.Ph:=bx Wh.q96
theorem Wh.Wa:OV Wh.q96 Wh.Ph:=e_ _
def Wh.G4 (xs:(fk.D)×(fk.D)):Option (((Bool))×(Unit)):=
 let bn:=xs.1
 let b_1:=xs.2
 bif(bn.1 != b_1.1) then
  some (false,())
 else
  let r_3:=Wh.Ph (bn.2.1,b_1.2.1)
  bif iy [nQ (Wh.q96 (bn.2.1,b_1.2.1))] then
   bif !r_3.1 then
    some (false,())
   else
    some (true,())
  else none
def Wh.Uw:=bx Wh.G4
theorem Wh.abh:OV Wh.G4 Wh.Uw:=e_ _
def Wh.q95 (xs:(ng.D)×(ng.D)):Option (((Bool))×(Unit)):=
 let bn:=xs.1
 let b_1:=xs.2
 bif(bn.1 != b_1.1) then
  some (false,())
 else
  bif(bn.2.1 != b_1.2.1) then
   some (false,())
  else
   bif(bn.2.2.1 != b_1.2.2.1) then
    some (false,())
   else
    let yB:Bool:=(bn.2.2.2).1 != (b_1.2.2.2).1
    bif yB then
     some (false,())
    else
     bif(!bn.2.2.2.2.1==b_1.2.2.2.2.1) then
      some (false,())
     else
      some (true,())
def Wh.q95':=bx Wh.q95
theorem Wh.q95_v:OV Wh.q95 Wh.q95':=e_ _
abbrev Wh.VH:Type:=((Int)×(List (ng.D))×(List (ng.D)))×(Unit)
abbrev Wh.aiH:Type:=((((Bool))×(Unit))⊕((Unit)×(Unit)))
def Wh.Hz (x:Wh.VH):Option (Wh.VH⊕Wh.aiH):=
 let mb:=x.1.1
 let yM:=x.1.2.1
 let yL:=x.1.2.2
 let nP:Int:=(↑(List.length yL):Int)
 bif decide (mb<nP) then
  let n_:ng.D:=List.getD yL (Int.toNat mb) (0,0,0,0,false,())
  let wX:ng.D:=List.getD yM (Int.toNat mb) (0,0,0,0,false,())
  let x9:=Wh.q95' (n_,wX)
  bif iy [nQ (Wh.q95 (n_,wX)),decide (0≤mb),decide (mb<(↑(List.length yM):Int)),decide (0≤mb),decide (mb<nP)] then
   bif !x9.1 then
    some (.inr (.inl (false,())))
   else
    some (.inl (((IntKind.wrap .i64 (mb+1)),yM,yL),()))
  else none
 else
  some (.inr (.inr ((),())))
def Wh.ace:(((Bool))×(Unit))⊕((Unit)×(Unit)):=.inl default
def Wh.q58 (xs:(List (ng.D))×(List (ng.D))):Option (((Bool))×(Unit)):=
 let bn:=xs.1
 let b_1:=xs.2
 let v_2:Int:=(↑(List.length bn):Int)
 let w9:Int:=(↑(List.length b_1):Int)
 let x7:=v_2 != w9
 bif x7 then
  some (false,())
 else
  let x_25:Wh.VH:=((0,b_1,bn),())
  bif lF Wh.Hz x_25 then
   sumC (kG Wh.Hz Wh.ace x_25) (fun y8=>
    let vT:=y8.1
    some (vT,())) (fun _=>
    some (true,()))
  else none
def Wh.q58':=bx Wh.q58
theorem Wh.q58_v:OV Wh.q58 Wh.q58':=e_ _
def Wh.GR (xs:(n5.D)×(n5.D)):Option (((Bool))×(Unit)):=
 let bn:=xs.1
 let b_1:=xs.2
 let r_2:=Wh.q58' (bn.1,b_1.1)
 bif iy [nQ (Wh.q58 (bn.1,b_1.1))] then
  bif !r_2.1 then
   some (false,())
  else
   bif(bn.2.1 != b_1.2.1) then
    some (false,())
   else
    some (true,())
 else none
def Wh.TR:=bx Wh.GR
theorem Wh.aaQ:OV Wh.GR Wh.TR:=e_ _
def Wh.q56 (xs:(nI.D)×(nI.D)):Option (((Bool))×(Unit)):=
 let bn:=xs.1
 let b_1:=xs.2
 bif(bn.1 != b_1.1) then
  some (false,())
 else
  bif(bn.2.1 != b_1.2.1) then
   some (false,())
  else
   bif(bn.2.2.1 != b_1.2.2.1) then
    some (false,())
   else
    let yB:Bool:=(bn.2.2.2).1 != (b_1.2.2.2).1
    bif yB then
     some (false,())
    else
     some (true,())
def Wh.q56':=bx Wh.q56
theorem Wh.q56_v:OV Wh.q56 Wh.q56':=e_ _
abbrev Wh.Ve:Type:=((Int)×(List (nI.D))×(List (nI.D)))×(Unit)
abbrev Wh.aik:Type:=((((Bool))×(Unit))⊕((Unit)×(Unit)))
def Wh.Ht (x:Wh.Ve):Option (Wh.Ve⊕Wh.aik):=
 let mb:=x.1.1
 let yM:=x.1.2.1
 let yL:=x.1.2.2
 let nP:Int:=(↑(List.length yL):Int)
 bif decide (mb<nP) then
  let n_:nI.D:=List.getD yL (Int.toNat mb) (0,0,0,0,())
  let wX:nI.D:=List.getD yM (Int.toNat mb) (0,0,0,0,())
  let x9:=Wh.q56' (n_,wX)
  bif iy [nQ (Wh.q56 (n_,wX)),decide (0≤mb),decide (mb<(↑(List.length yM):Int)),decide (0≤mb),decide (mb<nP)] then
   bif !x9.1 then
    some (.inr (.inl (false,())))
   else
    some (.inl (((IntKind.wrap .i64 (mb+1)),yM,yL),()))
  else none
 else
  some (.inr (.inr ((),())))
def Wh.abO:(((Bool))×(Unit))⊕((Unit)×(Unit)):=.inl default
def Wh.q29 (xs:(List (nI.D))×(List (nI.D))):Option (((Bool))×(Unit)):=
 let bn:=xs.1
 let b_1:=xs.2
 let v_2:Int:=(↑(List.length bn):Int)
 let w9:Int:=(↑(List.length b_1):Int)
 let x7:=v_2 != w9
 bif x7 then
  some (false,())
 else
  let x_25:Wh.Ve:=((0,b_1,bn),())
  bif lF Wh.Ht x_25 then
   sumC (kG Wh.Ht Wh.abO x_25) (fun y8=>
    let vT:=y8.1
    some (vT,())) (fun _=>
    some (true,()))
  else none
def Wh.q29':=bx Wh.q29
theorem Wh.q29_v:OV Wh.q29 Wh.q29':=e_ _
def Wh.q97 (xs:(r_.D)×(r_.D)):Option (((Bool))×(Unit)):=
 let bn:=xs.1
 let b_1:=xs.2
 bif(bn.1 != b_1.1) then
  some (false,())
 else
  bif(bn.2.1 != b_1.2.1) then
   some (false,())
  else
   bif(bn.2.2.1 != b_1.2.2.1) then
    some (false,())
   else
    let yB:Bool:=(bn.2.2.2).1 != (b_1.2.2.2).1
    bif yB then
     some (false,())
    else
     bif(bn.2.2.2.2.1 != b_1.2.2.2.2.1) then
      some (false,())
     else
      let w8:Bool:=(bn.2.2.2.2.2).1 != (b_1.2.2.2.2.2).1
      bif w8 then
       some (false,())
      else
       some (true,())
def Wh.q97':=bx Wh.q97
theorem Wh.q97_v:OV Wh.q97 Wh.q97':=e_ _
abbrev Wh.VI:Type:=((Int)×(List (r_.D))×(List (r_.D)))×(Unit)
abbrev Wh.aiI:Type:=((((Bool))×(Unit))⊕((Unit)×(Unit)))
def Wh.HA (x:Wh.VI):Option (Wh.VI⊕Wh.aiI):=
 let mb:=x.1.1
 let yM:=x.1.2.1
 let yL:=x.1.2.2
 let nP:Int:=(↑(List.length yL):Int)
 bif decide (mb<nP) then
  let n_:r_.D:=List.getD yL (Int.toNat mb) (0,0,0,0,0,0,())
  let wX:r_.D:=List.getD yM (Int.toNat mb) (0,0,0,0,0,0,())
  let x9:=Wh.q97' (n_,wX)
  bif iy [nQ (Wh.q97 (n_,wX)),decide (0≤mb),decide (mb<(↑(List.length yM):Int)),decide (0≤mb),decide (mb<nP)] then
   bif !x9.1 then
    some (.inr (.inl (false,())))
   else
    some (.inl (((IntKind.wrap .i64 (mb+1)),yM,yL),()))
  else none
 else
  some (.inr (.inr ((),())))
def Wh.acf:(((Bool))×(Unit))⊕((Unit)×(Unit)):=.inl default
def Wh.q60 (xs:(List (r_.D))×(List (r_.D))):Option (((Bool))×(Unit)):=
 let bn:=xs.1
 let b_1:=xs.2
 let v_2:Int:=(↑(List.length bn):Int)
 let w9:Int:=(↑(List.length b_1):Int)
 let x7:=v_2 != w9
 bif x7 then
  some (false,())
 else
  let x_25:Wh.VI:=((0,b_1,bn),())
  bif lF Wh.HA x_25 then
   sumC (kG Wh.HA Wh.acf x_25) (fun y8=>
    let vT:=y8.1
    some (vT,())) (fun _=>
    some (true,()))
  else none
def Wh.q60':=bx Wh.q60
theorem Wh.q60_v:OV Wh.q60 Wh.q60':=e_ _
def Wh.q61 (xs:(nC.D)×(nC.D)):Option (((Bool))×(Unit)):=
 let bn:=xs.1
 let b_1:=xs.2
 bif(!bn.1==b_1.1) then
  some (false,())
 else
  bif(bn.2.1 != b_1.2.1) then
   some (false,())
  else
   bif(!bn.2.2.1==b_1.2.2.1) then
    some (false,())
   else
    let xT:=Wh.Uw ((bn.2.2.2).1,(b_1.2.2.2).1)
    bif iy [nQ (Wh.G4 ((bn.2.2.2).1,(b_1.2.2.2).1))] then
     bif !xT.1 then
      some (false,())
     else
      let yG:=Wh.TR (bn.2.2.2.2.1,b_1.2.2.2.2.1)
      bif iy [nQ (Wh.GR (bn.2.2.2.2.1,b_1.2.2.2.2.1))] then
       bif !yG.1 then
        some (false,())
       else
        let A_:=Wh.q29' ((bn.2.2.2.2.2).1,(b_1.2.2.2.2.2).1)
        bif iy [nQ (Wh.q29 ((bn.2.2.2.2.2).1,(b_1.2.2.2.2.2).1))] then
         bif !A_.1 then
          some (false,())
         else
          let yJ:=Wh.q60' ((bn.2.2.2.2.2).2.1,(b_1.2.2.2.2.2).2.1)
          bif iy [nQ (Wh.q60 ((bn.2.2.2.2.2).2.1,(b_1.2.2.2.2.2).2.1))] then
           bif !yJ.1 then
            some (false,())
           else
            some (true,())
          else none
        else none
      else none
    else none
def Wh.q61':=bx Wh.q61
theorem Wh.q61_v:OV Wh.q61 Wh.q61':=e_ _
def Wh.DJ (xs:(List (Int))×(Int)):Option (((Int))×(Unit)):=
 let bn:=xs.1
 let left_1:=xs.2
 let v_2:=IntKind.wrap .i64 (left_1-(↑(List.length bn):Int))
 bif decide (v_2<0) then
  some (-1,())
 else
  some (v_2,())
def Wh.Kg:=bx Wh.DJ
theorem Wh.OC:OV Wh.DJ Wh.Kg:=e_ _
def Wh.GU (xs:(so.D)×(Int)):Option (((Int))×(Unit)):=
 let bn:=xs.1
 let left_1:=xs.2
 let r_2:=Wh.Kg (bn.2.2.1,left_1)
 bif iy [nQ (Wh.DJ (bn.2.2.1,left_1))] then
  bif decide (r_2.1<0) then
   some (-1,())
  else
   let nE:=Wh.Kg ((bn.2.2.2).1,r_2.1)
   bif iy [nQ (Wh.DJ ((bn.2.2.2).1,r_2.1))] then
    bif decide (nE.1<0) then
     some (-1,())
    else
     some (nE.1,())
   else none
 else none
def Wh.TU:=bx Wh.GU
theorem Wh.aaR:OV Wh.GU Wh.TU:=e_ _
def Wh.Hr (xs:(n4.D)×(Int)):Option (((Int))×(Unit)):=
 let bn:=xs.1
 let left_1:=xs.2
 let r_2:=Wh.Kg (bn.1,left_1)
 bif iy [nQ (Wh.DJ (bn.1,left_1))] then
  bif decide (r_2.1<0) then
   some (-1,())
  else
   let x7:Int:=(↑(List.length bn.2.1):Int)
   let YM:=IntKind.wrap .i64 (r_2.1-x7)
   bif decide (YM<0) then
    some (-1,())
   else
    some (YM,())
 else none
def Wh.U3:=bx Wh.Hr
theorem Wh.U4:OV Wh.Hr Wh.U3:=e_ _
abbrev Wh.UA:Type:=((Int)×(Int)×(List (n4.D)))×(Unit)
abbrev Wh.ahY:Type:=((((Int))×(Unit))⊕(((Int))×(Unit)))
def Wh.Fj (x:Wh.UA):Option (Wh.UA⊕Wh.ahY):=
 let xN:=x.1.1
 let AL:=x.1.2.1
 let AG:=x.1.2.2
 let nG:Int:=(↑(List.length AG):Int)
 bif decide (xN<nG) then
  let wX:=List.getD AG (Int.toNat xN) ([],[],())
  let x9:=Wh.U3 (wX,AL)
  bif iy [nQ (Wh.Hr (wX,AL)),decide (0≤xN),decide (xN<nG)] then
   bif decide (x9.1<0) then
    some (.inr (.inl (-1,())))
   else
    some (.inl (((IntKind.wrap .i64 (xN+1)),x9.1,AG),()))
  else none
 else
  some (.inr (.inr (AL,())))
def Wh.UC:(((Int))×(Unit))⊕(((Int))×(Unit)):=.inl default
def Wh.G9 (xs:(List (n4.D))×(Int)):Option (((Int))×(Unit)):=
 let bn:=xs.1
 let left_1:=xs.2
 let v_2:Int:=(↑(List.length bn):Int)
 let yj:=IntKind.wrap .i64 (left_1-v_2)
 bif decide (yj<0) then
  some (-1,())
 else
  let Aq:Wh.UA:=((0,yj,bn),())
  bif lF Wh.Fj Aq then
   sumC (kG Wh.Fj Wh.UC Aq) (fun BD=>
    let y4:=BD.1
    some (y4,())) (fun EI=>
    let Gt:=EI.1
    some (Gt,()))
  else none
def Wh.Uz:=bx Wh.G9
theorem Wh.abk:OV Wh.G9 Wh.Uz:=e_ _
def Wh.q68 (xs:(fT.D)×(Int)):Option (((Int))×(Unit)):=
 let bn:=xs.1
 let left_1:=xs.2
 let r_2:=Wh.Uz (bn.2.2.1,left_1)
 bif iy [nQ (Wh.G9 (bn.2.2.1,left_1))] then
  bif decide (r_2.1<0) then
   some (-1,())
  else
   some (r_2.1,())
 else none
def Wh.q68':=bx Wh.q68
theorem Wh.q68_v:OV Wh.q68 Wh.q68':=e_ _
def Wh.q35 (xs:(th.D)×(Int)):Option (((Int))×(Unit)):=
 let bn:=xs.1
 let left_1:=xs.2
 let r_2:=Wh.TU (bn.1,left_1)
 bif iy [nQ (Wh.GU (bn.1,left_1))] then
  bif decide (r_2.1<0) then
   some (-1,())
  else
   let nE:=Wh.q68' (bn.2.1,r_2.1)
   bif iy [nQ (Wh.q68 (bn.2.1,r_2.1))] then
    bif decide (nE.1<0) then
     some (-1,())
    else
     some (nE.1,())
   else none
 else none
def Wh.q35':=bx Wh.q35
theorem Wh.q35_v:OV Wh.q35 Wh.q35':=e_ _
def Wh.q63 (xs:(nc.D)×(Int)):Option (((Int))×(Unit)):=
 let bn:=xs.1
 let left_1:=xs.2
 let v_2:Int:=(↑(List.length ((bn.2.2.2).1)):Int)
 let yj:=IntKind.wrap .i64 (left_1-v_2)
 bif decide (yj<0) then
  some (-1,())
 else
  let yG:=Wh.q35' ((bn.2.2.2.2.2).1,yj)
  bif iy [nQ (Wh.q35 ((bn.2.2.2.2.2).1,yj))] then
   bif decide (yG.1<0) then
    some (-1,())
   else
    some (yG.1,())
  else none
def Wh.q63':=bx Wh.q63
theorem Wh.VJ:OV Wh.q63 Wh.q63':=e_ _
abbrev Wh.Vi:Type:=((Int)×(Int)×(List (nc.D)))×(Unit)
abbrev Wh.ain:Type:=((((Int))×(Unit))⊕(((Int))×(Unit)))
def Wh.Ec (x:Wh.Vi):Option (Wh.Vi⊕Wh.ain):=
 let xN:=x.1.1
 let AL:=x.1.2.1
 let AG:=x.1.2.2
 let nG:Int:=(↑(List.length AG):Int)
 bif decide (xN<nG) then
  let wX:=List.getD AG (Int.toNat xN) (0,0,0,[],0,((0,0,[],[],()),(0,0,[],()),()),())
  let x9:=Wh.q63' (wX,AL)
  bif iy [nQ (Wh.q63 (wX,AL)),decide (0≤xN),decide (xN<nG)] then
   bif decide (x9.1<0) then
    some (.inr (.inl (-1,())))
   else
    some (.inl (((IntKind.wrap .i64 (xN+1)),x9.1,AG),()))
  else none
 else
  some (.inr (.inr (AL,())))
def Wh.abS:(((Int))×(Unit))⊕(((Int))×(Unit)):=.inl default
def Wh.q34 (xs:(List (nc.D))×(Int)):Option (((Int))×(Unit)):=
 let bn:=xs.1
 let left_1:=xs.2
 let v_2:Int:=(↑(List.length bn):Int)
 let yj:=IntKind.wrap .i64 (left_1-v_2)
 bif decide (yj<0) then
  some (-1,())
 else
  let Aq:Wh.Vi:=((0,yj,bn),())
  bif lF Wh.Ec Aq then
   sumC (kG Wh.Ec Wh.abS Aq) (fun BD=>
    let y4:=BD.1
    some (y4,())) (fun EI=>
    let Gt:=EI.1
    some (Gt,()))
  else none
def Wh.q34':=bx Wh.q34
theorem Wh.q34_v:OV Wh.q34 Wh.q34':=e_ _
def Wh.q65 (xs:(r5.D)×(Int)):Option (((Int))×(Unit)):=
 let bn:=xs.1
 let left_1:=xs.2
 let v_2:Int:=(↑(List.length bn.2.1):Int)
 let yj:=IntKind.wrap .i64 (left_1-v_2)
 bif decide (yj<0) then
  some (-1,())
 else
  some (yj,())
def Wh.q65':=bx Wh.q65
theorem Wh.VK:OV Wh.q65 Wh.q65':=e_ _
end
