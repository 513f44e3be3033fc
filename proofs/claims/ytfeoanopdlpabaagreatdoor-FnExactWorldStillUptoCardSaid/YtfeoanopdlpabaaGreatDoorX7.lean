import Derived.Test.YtfeoanopdlpabaaGreatDoorX6
open Go Go.Ab
noncomputable section
def bx {α β:Type}[Inhabited β](f:α→Option β)(x:α):β:=match f x with | some y=>y|none=>default
abbrev OV {α β:Type}(f:α→Option β)(g:α→β):Prop:=∀x y,f x=some y→g x=y
theorem e_ {α β:Type}[Inhabited β](f:α→Option β):OV f (bx f):=fun x y h=>by unfold bx;rw[h]
abbrev Vr:Ty:=(.pair (.int .i64) (.pair (.int .i64) (.pair .bool (.pair (.int .u8) .unit))))
abbrev Vr.D:Type:=(Int)×((Int)×((Bool)×((Int)×(Unit))))
abbrev Vs:Ty:=(.pair .str (.pair (.int .u64) .unit))
abbrev Vs.D:Type:=(List UInt8)×((Int)×(Unit))
abbrev fk:Ty:=(.pair (.int .i64) (.pair (.lst (.pair (.int .i64) (.pair .str (.pair (.int .i64) (.pair .str .unit))))) .unit))
abbrev fk.D:Type:=(Int)×((List ((Int)×((List UInt8)×((Int)×((List UInt8)×(Unit))))))×(Unit))
abbrev n4:Ty:=(.pair (.lst (.pair (.int .i64) (.pair (.int .i64) (.pair (.int .i64) (.pair (.int .i64) (.pair .bool .unit)))))) (.pair (.int .i64) .unit))
abbrev n4.D:Type:=(List ((Int)×((Int)×((Int)×((Int)×((Bool)×(Unit)))))))×((Int)×(Unit))
abbrev nC:Ty:=(.pair .bool (.pair (.int .i64) (.pair .str (.pair fk (.pair n4 (.pair (.lst (.pair (.int .i64) (.pair (.int .i64) (.pair (.int .i64) (.pair (.int .i64) .unit))))) (.pair (.lst (.pair (.int .i64) (.pair (.int .i64) (.pair (.int .i64) (.pair (.int .i64) (.pair (.int .i64) (.pair (.int .i64) .unit))))))) .unit)))))))
abbrev nC.D:Type:=(Bool)×((Int)×((List UInt8)×((fk.D)×((n4.D)×((List ((Int)×((Int)×((Int)×((Int)×(Unit))))))×((List ((Int)×((Int)×((Int)×((Int)×((Int)×((Int)×(Unit))))))))×(Unit)))))))
abbrev r_:Ty:=(.pair (.int .i64) (.pair (.int .i64) (.pair (.lst (.int .i64)) (.pair (.lst (.int .i64)) .unit))))
abbrev r_.D:Type:=(Int)×((Int)×((List (Int))×((List (Int))×(Unit))))
abbrev mb:Ty:=(.pair (.int .i64) (.pair (.int .i64) (.pair (.lst (.pair (.lst (.int .i64)) (.pair .str .unit))) .unit)))
abbrev mb.D:Type:=(Int)×((Int)×((List ((List (Int))×((List UInt8)×(Unit))))×(Unit)))
abbrev xO:Ty:=(.pair r_ (.pair mb .unit))
abbrev xO.D:Type:=(r_.D)×((mb.D)×(Unit))
abbrev nc:Ty:=(.pair (.int .i64) (.pair (.int .i64) (.pair (.int .i64) (.pair .str (.pair (.int .i64) (.pair xO .unit))))))
abbrev nc.D:Type:=(Int)×((Int)×((Int)×((List UInt8)×((Int)×((xO.D)×(Unit))))))
abbrev Ke:Ty:=(.pair (.int .i64) (.pair (.int .i64) (.pair (.int .i64) (.pair (.int .i64) (.pair (.int .i64) (.pair .str (.pair .str .unit)))))))
abbrev Ke.D:Type:=(Int)×((Int)×((Int)×((Int)×((Int)×((List UInt8)×((List UInt8)×(Unit)))))))
abbrev fT:Ty:=(.pair nC (.pair (.lst nc) (.pair (.lst (.pair (.int .i64) (.pair .str (.pair .bool .unit)))) (.pair (.lst (.pair (.int .i64) (.pair .str (.pair (.int .i64) (.pair .str .unit))))) .unit))))
abbrev fT.D:Type:=(nC.D)×((List (nc.D))×((List ((Int)×((List UInt8)×((Bool)×(Unit)))))×((List ((Int)×((List UInt8)×((Int)×((List UInt8)×(Unit))))))×(Unit))))
abbrev an:Ty:=(.pair (.int .i64) (.pair .str (.pair (.int .i64) (.pair .str .unit))))
abbrev an.D:Type:=(Int)×((List UInt8)×((Int)×((List UInt8)×(Unit))))
abbrev ng:Ty:=(.pair (.int .i64) (.pair (.int .i64) (.pair (.int .i64) (.pair (.int .i64) (.pair .bool .unit)))))
abbrev ng.D:Type:=(Int)×((Int)×((Int)×((Int)×((Bool)×(Unit)))))
abbrev nI:Ty:=(.pair (.int .i64) (.pair (.int .i64) (.pair (.int .i64) (.pair (.int .i64) .unit))))
abbrev nI.D:Type:=(Int)×((Int)×((Int)×((Int)×(Unit))))
abbrev r5:Ty:=(.pair (.int .i64) (.pair (.int .i64) nI))
abbrev r5.D:Type:=(Int)×((Int)×(nI.D))
abbrev pg:Ty:=(.pair (.int .i64) (.pair .str (.pair .bool .unit)))
abbrev pg.D:Type:=(Int)×((List UInt8)×((Bool)×(Unit)))
abbrev OO:Ty:=(.pair (.int .i64) (.pair (.int .i64) (.pair (.int .i64) .unit)))
abbrev OO.D:Type:=(Int)×((Int)×((Int)×(Unit)))
abbrev nW:Ty:=(.pair (.lst (.int .i64)) (.pair .str .unit))
abbrev nW.D:Type:=(List (Int))×((List UInt8)×(Unit))
abbrev Eg:Ty:=(.pair .str .unit)
abbrev Eg.D:Type:=(List UInt8)×(Unit)
abbrev Vt:Ty:=(.pair (.int .u8) (.pair (.int .u8) .unit))
abbrev Vt.D:Type:=(Int)×((Int)×(Unit))
def Wh.Gy (xs:(an.D)×(Int)):Option (((Int))×(Unit)):=
 let bn:=xs.1
 let left_1:=xs.2
 let v_2:Int:=(↑(List.length bn.2.1):Int)
 let yj:=IntKind.wrap .i64 (left_1-v_2)
 bif decide (yj<0) then
  some (-1,())
 else
  let zR:Int:=(↑(List.length ((bn.2.2.2).1)):Int)
  let XD:=IntKind.wrap .i64 (yj-zR)
  bif decide (XD<0) then
   some (-1,())
  else
   some (XD,())
def Wh.SU:=bx Wh.Gy
theorem Wh.SV:OV Wh.Gy Wh.SU:=e_ _
abbrev Wh.Vd:Type:=((Int)×(Int)×(List (an.D)))×(Unit)
abbrev Wh.ahD:Type:=((((Int))×(Unit))⊕(((Int))×(Unit)))
def Wh.Fx (x:Wh.Vd):Option (Wh.Vd⊕Wh.ahD):=
 let xN:=x.1.1
 let AD:=x.1.2.1
 let Ax:=x.1.2.2
 let nG:Int:=(↑(List.length Ax):Int)
 bif decide (xN<nG) then
  let vN:an.D:=List.getD Ax (Int.toNat xN) (0,[],0,[],())
  let x6:=Wh.SU (vN,AD)
  bif iy [nQ (Wh.Gy (vN,AD)),decide (0≤xN),decide (xN<nG)] then
   bif decide (x6.1<0) then
    some (.inr (.inl (-1,())))
   else
    some (.inl (((IntKind.wrap .i64 (xN+1)),x6.1,Ax),()))
  else none
 else
  some (.inr (.inr (AD,())))
def Wh.Ve:(((Int))×(Unit))⊕(((Int))×(Unit)):=.inl default
def Wh.q97 (xs:(List (an.D))×(Int)):Option (((Int))×(Unit)):=
 let bn:=xs.1
 let left_1:=xs.2
 let v_2:Int:=(↑(List.length bn):Int)
 let yj:=IntKind.wrap .i64 (left_1-v_2)
 bif decide (yj<0) then
  some (-1,())
 else
  let Ai:Wh.Vd:=((0,yj,bn),())
  bif lF Wh.Fx Ai then
   sumC (kG Wh.Fx Wh.Ve Ai) (fun Bq=>
    let yV:=Bq.1
    some (yV,())) (fun Er=>
    let F9:=Er.1
    some (F9,()))
  else none
def Wh.OA:=bx Wh.q97
theorem Wh.Vf:OV Wh.q97 Wh.OA:=e_ _
def Wh.GM (xs:(fk.D)×(Int)):Option (((Int))×(Unit)):=
 let bn:=xs.1
 let left_1:=xs.2
 let r_2:=Wh.OA (bn.2.1,left_1)
 bif iy [nQ (Wh.q97 (bn.2.1,left_1))] then
  bif decide (r_2.1<0) then
   some (-1,())
  else
   some (r_2.1,())
 else none
def Wh.Tx:=bx Wh.GM
theorem Wh.Z6:OV Wh.GM Wh.Tx:=e_ _
def Wh.q64 (xs:(List (ng.D))×(Int)):Option (((Int))×(Unit)):=
 let bn:=xs.1
 let left_1:=xs.2
 let v_2:Int:=(↑(List.length bn):Int)
 let yj:=IntKind.wrap .i64 (left_1-v_2)
 bif decide (yj<0) then
  some (-1,())
 else
  some (yj,())
def Wh.q64':=bx Wh.q64
theorem Wh.q64_v:OV Wh.q64 Wh.q64':=e_ _
def Wh.GA (xs:(n4.D)×(Int)):Option (((Int))×(Unit)):=
 let bn:=xs.1
 let left_1:=xs.2
 let r_2:=Wh.q64' (bn.1,left_1)
 bif iy [nQ (Wh.q64 (bn.1,left_1))] then
  bif decide (r_2.1<0) then
   some (-1,())
  else
   some (r_2.1,())
 else none
def Wh.SX:=bx Wh.GA
theorem Wh.ZD:OV Wh.GA Wh.SX:=e_ _
def Wh.q34 (xs:(List (nI.D))×(Int)):Option (((Int))×(Unit)):=
 let bn:=xs.1
 let left_1:=xs.2
 let v_2:Int:=(↑(List.length bn):Int)
 let yj:=IntKind.wrap .i64 (left_1-v_2)
 bif decide (yj<0) then
  some (-1,())
 else
  some (yj,())
def Wh.q34':=bx Wh.q34
theorem Wh.q34_v:OV Wh.q34 Wh.q34':=e_ _
def Wh.q66 (xs:(List (r5.D))×(Int)):Option (((Int))×(Unit)):=
 let bn:=xs.1
 let left_1:=xs.2
 let v_2:Int:=(↑(List.length bn):Int)
 let yj:=IntKind.wrap .i64 (left_1-v_2)
 bif decide (yj<0) then
  some (-1,())
 else
  some (yj,())
def Wh.q66':=bx Wh.q66
theorem Wh.q66_v:OV Wh.q66 Wh.q66':=e_ _
def Wh.q67 (xs:(nC.D)×(Int)):Option (((Int))×(Unit)):=
 let bn:=xs.1
 let left_1:=xs.2
 let v_2:Int:=(↑(List.length (bn.2.2.1)):Int)
 let yj:=IntKind.wrap .i64 (left_1-v_2)
 bif decide (yj<0) then
  some (-1,())
 else
  let yz:=Wh.Tx ((bn.2.2.2).1,yj)
  bif iy [nQ (Wh.GM ((bn.2.2.2).1,yj))] then
   bif decide (yz.1<0) then
    some (-1,())
   else
    let yN:=Wh.SX (bn.2.2.2.2.1,yz.1)
    bif iy [nQ (Wh.GA (bn.2.2.2.2.1,yz.1))] then
     bif decide (yN.1<0) then
      some (-1,())
     else
      let BK:=Wh.q34' ((bn.2.2.2.2.2).1,yN.1)
      bif iy [nQ (Wh.q34 ((bn.2.2.2.2.2).1,yN.1))] then
       bif decide (BK.1<0) then
        some (-1,())
       else
        let Ac:=Wh.q66' ((bn.2.2.2.2.2).2.1,BK.1)
        bif iy [nQ (Wh.q66 ((bn.2.2.2.2.2).2.1,BK.1))] then
         bif decide (Ac.1<0) then
          some (-1,())
         else
          some (Ac.1,())
        else none
      else none
    else none
  else none
def Wh.q67':=bx Wh.q67
theorem Wh.q67_v:OV Wh.q67 Wh.q67':=e_ _
def Wh.Ie (xs:(an.D)):Option (((an.D))×(Unit)):=
 let bn:an.D:=xs
 some ((bn.1,bn.2.1,bn.2.2.1,(bn.2.2.2).1,()),())
def Wh.S0:=bx Wh.Ie
theorem Wh.ZG:OV Wh.Ie Wh.S0:=e_ _
abbrev Wh.Sm:Type:=((Int)×(List (an.D))×(Unit))×((List (an.D)))
abbrev Wh.af5:Type:=((((Unit))×((List (an.D)))))
def Wh.EL (x:Wh.Sm):Option (Wh.Sm⊕Wh.af5):=
 let nP:=x.1.1
 let xX:=x.1.2.1
 let x9:=x.2
 let xd:Int:=(↑(List.length xX):Int)
 bif decide (nP<xd) then
  let Ad:=Wh.S0 (List.getD xX (Int.toNat nP) (0,[],0,[],()))
  let w9:List (an.D):=List.set x9 (Int.toNat nP) Ad.1
  let nG:an.D:=List.getD xX (Int.toNat nP) (0,[],0,[],())
  bif iy [decide (0≤nP),decide (nP<(↑(List.length x9):Int)),nQ (Wh.Ie nG),decide (0≤nP),decide (nP<xd)] then
   some (.inl (((IntKind.wrap .i64 (nP+1)),xX,()),w9))
  else none
 else
  some (.inr ((),x9))
def Wh.Y9:(((Unit))×((List (an.D)))):=default
def Wh.EK (xs:(List (an.D))):Option (((List (an.D)))×(Unit)):=
 let bn:List (an.D):=xs
 let y6:List (an.D):=@List.replicate (Int×List UInt8×Int×List UInt8×Unit) (Int.toNat (↑(List.length bn):Int)) (0,[],0,[],())
 let v_2:Int:=(↑(List.length bn):Int)
 bif iy [decide (0≤v_2),decide (v_2≤v_2),decide (v_2≤(↑dh:Int))] then
  let x_21:Wh.Sm:=((0,bn,()),y6)
  bif lF Wh.EL x_21 then
   let AK:=kG Wh.EL Wh.Y9 x_21
   let zg:=AK.2
   some (zg,())
  else none
 else none
def Wh.NV:=bx Wh.EK
theorem Wh.Sn:OV Wh.EK Wh.NV:=e_ _
def Wh.GO (xs:(fk.D)):Option ((((Int)×((List (an.D))×(Unit))))×(Unit)):=
 let bn:fk.D:=xs
 let r_1:=Wh.NV bn.2.1
 bif iy [nQ (Wh.EK bn.2.1)] then
  some ((bn.1,r_1.1,()),())
 else none
def Wh.TD:=bx Wh.GO
theorem Wh.Z8:OV Wh.GO Wh.TD:=e_ _
def Wh.q99 (xs:(ng.D)):Option (((ng.D))×(Unit)):=
 let bn:ng.D:=xs
 some ((bn.1,bn.2.1,bn.2.2.1,(bn.2.2.2).1,bn.2.2.2.2.1,()),())
def Wh.q99':=bx Wh.q99
theorem Wh.q99_v:OV Wh.q99 Wh.q99':=e_ _
abbrev Wh.UN:Type:=((Int)×(List (ng.D))×(Unit))×((List (ng.D)))
abbrev Wh.ahj:Type:=((((Unit))×((List (ng.D)))))
def Wh.Fq (x:Wh.UN):Option (Wh.UN⊕Wh.ahj):=
 let nP:=x.1.1
 let xX:=x.1.2.1
 let x9:=x.2
 let xd:Int:=(↑(List.length xX):Int)
 bif decide (nP<xd) then
  let Ad:=Wh.q99' (List.getD xX (Int.toNat nP) (0,0,0,0,false,()))
  let w9:List (ng.D):=List.set x9 (Int.toNat nP) Ad.1
  let nG:ng.D:=List.getD xX (Int.toNat nP) (0,0,0,0,false,())
  bif iy [decide (0≤nP),decide (nP<(↑(List.length x9):Int)),nQ (Wh.q99 nG),decide (0≤nP),decide (nP<xd)] then
   some (.inl (((IntKind.wrap .i64 (nP+1)),xX,()),w9))
  else none
 else
  some (.inr ((),x9))
def Wh.aaX:(((Unit))×((List (ng.D)))):=default
def Wh.q71 (xs:(List (ng.D))):Option (((List (ng.D)))×(Unit)):=
 let bn:List (ng.D):=xs
 let y6:List (ng.D):=@List.replicate (Int×Int×Int×Int×Bool×Unit) (Int.toNat (↑(List.length bn):Int)) (0,0,0,0,false,())
 let v_2:Int:=(↑(List.length bn):Int)
 bif iy [decide (0≤v_2),decide (v_2≤v_2),decide (v_2≤(↑dh:Int))] then
  let x_21:Wh.UN:=((0,bn,()),y6)
  bif lF Wh.Fq x_21 then
   let AK:=kG Wh.Fq Wh.aaX x_21
   let zg:=AK.2
   some (zg,())
  else none
 else none
def Wh.q71':=bx Wh.q71
theorem Wh.q71_v:OV Wh.q71 Wh.q71':=e_ _
def Wh.GC (xs:(n4.D)):Option ((((List (ng.D))×((Int)×(Unit))))×(Unit)):=
 let bn:n4.D:=xs
 let r_1:=Wh.q71' bn.1
 bif iy [nQ (Wh.q71 bn.1)] then
  some ((r_1.1,bn.2.1,()),())
 else none
def Wh.S2:=bx Wh.GC
theorem Wh.ZI:OV Wh.GC Wh.S2:=e_ _
def Wh.q69 (xs:(nI.D)):Option (((nI.D))×(Unit)):=
 let bn:nI.D:=xs
 some ((bn.1,bn.2.1,bn.2.2.1,(bn.2.2.2).1,()),())
def Wh.q69':=bx Wh.q69
theorem Wh.q69_v:OV Wh.q69 Wh.q69':=e_ _
abbrev Wh.Uo:Type:=((Int)×(List (nI.D))×(Unit))×((List (nI.D)))
abbrev Wh.ag1:Type:=((((Unit))×((List (nI.D)))))
def Wh.Fh (x:Wh.Uo):Option (Wh.Uo⊕Wh.ag1):=
 let nP:=x.1.1
 let xX:=x.1.2.1
 let x9:=x.2
 let xd:Int:=(↑(List.length xX):Int)
 bif decide (nP<xd) then
  let Ad:=Wh.q69' (List.getD xX (Int.toNat nP) (0,0,0,0,()))
  let w9:List (nI.D):=List.set x9 (Int.toNat nP) Ad.1
  let nG:nI.D:=List.getD xX (Int.toNat nP) (0,0,0,0,())
  bif iy [decide (0≤nP),decide (nP<(↑(List.length x9):Int)),nQ (Wh.q69 nG),decide (0≤nP),decide (nP<xd)] then
   some (.inl (((IntKind.wrap .i64 (nP+1)),xX,()),w9))
  else none
 else
  some (.inr ((),x9))
def Wh.aaD:(((Unit))×((List (nI.D)))):=default
def Wh.q38 (xs:(List (nI.D))):Option (((List (nI.D)))×(Unit)):=
 let bn:List (nI.D):=xs
 let y6:List (nI.D):=@List.replicate (Int×Int×Int×Int×Unit) (Int.toNat (↑(List.length bn):Int)) (0,0,0,0,())
 let v_2:Int:=(↑(List.length bn):Int)
 bif iy [decide (0≤v_2),decide (v_2≤v_2),decide (v_2≤(↑dh:Int))] then
  let x_21:Wh.Uo:=((0,bn,()),y6)
  bif lF Wh.Fh x_21 then
   let AK:=kG Wh.Fh Wh.aaD x_21
   let zg:=AK.2
   some (zg,())
  else none
 else none
def Wh.q38':=bx Wh.q38
theorem Wh.q38_v:OV Wh.q38 Wh.q38':=e_ _
def Wh.Ic (xs:(r5.D)):Option (((r5.D))×(Unit)):=
 let bn:r5.D:=xs
 some ((bn.1,bn.2.1,bn.2.2.1,(bn.2.2.2).1,bn.2.2.2.2.1,(bn.2.2.2.2.2).1,()),())
def Wh.So:=bx Wh.Ic
theorem Wh.Y_:OV Wh.Ic Wh.So:=e_ _
abbrev Wh.UO:Type:=((Int)×(List (r5.D))×(Unit))×((List (r5.D)))
abbrev Wh.ahk:Type:=((((Unit))×((List (r5.D)))))
def Wh.Fs (x:Wh.UO):Option (Wh.UO⊕Wh.ahk):=
 let nP:=x.1.1
 let xX:=x.1.2.1
 let x9:=x.2
 let xd:Int:=(↑(List.length xX):Int)
 bif decide (nP<xd) then
  let Ad:=Wh.So (List.getD xX (Int.toNat nP) (0,0,0,0,0,0,()))
  let w9:List (r5.D):=List.set x9 (Int.toNat nP) Ad.1
  let nG:r5.D:=List.getD xX (Int.toNat nP) (0,0,0,0,0,0,())
  bif iy [decide (0≤nP),decide (nP<(↑(List.length x9):Int)),nQ (Wh.Ic nG),decide (0≤nP),decide (nP<xd)] then
   some (.inl (((IntKind.wrap .i64 (nP+1)),xX,()),w9))
  else none
 else
  some (.inr ((),x9))
def Wh.aaY:(((Unit))×((List (r5.D)))):=default
def Wh.q73 (xs:(List (r5.D))):Option (((List (r5.D)))×(Unit)):=
 let bn:List (r5.D):=xs
 let y6:List (r5.D):=@List.replicate (Int×Int×Int×Int×Int×Int×Unit) (Int.toNat (↑(List.length bn):Int)) (0,0,0,0,0,0,())
 let v_2:Int:=(↑(List.length bn):Int)
 bif iy [decide (0≤v_2),decide (v_2≤v_2),decide (v_2≤(↑dh:Int))] then
  let x_21:Wh.UO:=((0,bn,()),y6)
  bif lF Wh.Fs x_21 then
   let AK:=kG Wh.Fs Wh.aaY x_21
   let zg:=AK.2
   some (zg,())
  else none
 else none
def Wh.q73':=bx Wh.q73
theorem Wh.q73_v:OV Wh.q73 Wh.q73':=e_ _
def Wh.q74 (xs:(nC.D)):Option ((((Bool)×((Int)×((List UInt8)×(((Int)×((List (an.D))×(Unit)))×(((List (ng.D))×((Int)×(Unit)))×((List (nI.D))×((List (r5.D))×(Unit)))))))))×(Unit)):=
 let bn:nC.D:=xs
 let r_1:=Wh.TD ((bn.2.2.2).1)
 bif iy [nQ (Wh.GO ((bn.2.2.2).1))] then
  let r_2:=Wh.S2 (bn.2.2.2.2.1)
  bif iy [nQ (Wh.GC (bn.2.2.2.2.1))] then
   let r_3:=Wh.q38' ((bn.2.2.2.2.2).1)
   bif iy [nQ (Wh.q38 ((bn.2.2.2.2.2).1))] then
    let nE:=Wh.q73' ((bn.2.2.2.2.2).2.1)
    bif iy [nQ (Wh.q73 ((bn.2.2.2.2.2).2.1))] then
     some ((bn.1,bn.2.1,bn.2.2.1,r_1.1,r_2.1,r_3.1,nE.1,()),())
    else none
   else none
  else none
 else none
def Wh.q74':=bx Wh.q74
theorem Wh.q74_v:OV Wh.q74 Wh.q74':=e_ _
def Wh.xe (xs:(Int)×(Int)×(Int)):Option (((Bool))×(Unit)):=
 let yR:=xs.1
 let RC:=xs.2.1
 let Ru:=xs.2.2
 let yw:=bif decide (yR≥RC) then decide (yR≤Ru) else false
 some (yw,())
def Wh.nS:=bx Wh.xe
theorem Wh.zp:OV Wh.xe Wh.nS:=e_ _
abbrev Wh.Tc:Type:=((Int)×(Int)×(List UInt8))×(Unit)
abbrev Wh.agt:Type:=((((Int))×(Unit))⊕((Unit)×(Unit)))
def Wh.CI (x:Wh.Tc):Option (Wh.Tc⊕Wh.agt):=
 let Ji:=x.1.1
 let b_11:=x.1.2.1
 let Hr:=x.1.2.2
 let Au:=decide (Ji<(↑(List.length Hr):Int))
 bif Au then
  let so:Int:=(↑(UInt8.toNat (List.getD Hr (Int.toNat Ji) (0:UInt8))):Int)
  let xd:=so==b_11
  bif iy [decide (0≤Ji),Au] then
   bif xd then
    some (.inr (.inl (Ji,())))
   else
    some (.inl (((IntKind.wrap .i64 (Ji+1)),b_11,Hr),()))
  else none
 else
  some (.inr (.inr ((),())))
def Wh.ZR:(((Int))×(Unit))⊕((Unit)×(Unit)):=.inl default
def Wh.zD (xs:(List UInt8)×(Int)×(Int)):Option (((Int))×(Unit)):=
 let fN:=xs.1
 let zT:=xs.2.1
 let b_2:=xs.2.2
 let x_17:Wh.Tc:=((zT,b_2,fN),())
 bif lF Wh.CI x_17 then
  sumC (kG Wh.CI Wh.ZR x_17) (fun Ep=>
   let n5:=Ep.1
   some (n5,())) (fun _=>
   some (-1,()))
 else none
def Wh.JI:=bx Wh.zD
theorem Wh.CJ:OV Wh.zD Wh.JI:=e_ _
abbrev Wh.T0:Type:=((Int)×(List UInt8)×(Int))×(Unit)
abbrev Wh.agO:Type:=((((Int))×(Unit))⊕(((Int))×(Unit)))
def Wh.Fe (x:Wh.T0):Option (Wh.T0⊕Wh.agO):=
 let HS:=x.1.1
 let s_18:=x.1.2.1
 let n_19:=x.1.2.2
 let n5:=decide (HS<(↑(List.length s_18):Int))
 bif n5 then
  let vN:Int:=(↑(UInt8.toNat (List.getD s_18 (Int.toNat HS) (0:UInt8))):Int)
  let yD:=bif decide (vN<48) then true else decide (vN>57)
  bif iy [!!decide (vN<48) || decide (0≤HS),!!decide (vN<48) || n5,decide (0≤HS),n5] then
   bif yD then
    some (.inr (.inl (-1,())))
   else
    bif iy [decide (0≤HS),n5] then
     some (.inl (((IntKind.wrap .i64 (HS+1)),s_18,(IntKind.wrap .i64 ((IntKind.wrap .i64 (n_19*10))+IntKind.wrap .i64 (IntKind.wrap .u8 (vN-48))))),()))
    else none
  else none
 else
  some (.inr (.inr (n_19,())))
def Wh.aan:(((Int))×(Unit))⊕(((Int))×(Unit)):=.inl default
def Wh.Bi (xs:(List UInt8)):Option (((Int))×(Unit)):=
 let fN:=xs
 let r_1:=Wh.nS ((↑(List.length fN):Int),1,6)
 let v_2:=bif !r_1.1 then true else bif decide ((↑(List.length fN):Int)>1) then(↑(UInt8.toNat (List.getD fN (Int.toNat 0) (0:UInt8))):Int)==48 else false
 bif iy [!(decide ((↑(List.length fN):Int)>1) && !!r_1.1) || decide ((0:Int)≤0),!(decide ((↑(List.length fN):Int)>1) && !!r_1.1) || decide (0<(↑(List.length fN):Int)),nQ (Wh.xe ((↑(List.length fN):Int),1,6))] then
  bif v_2 then
   some (-1,())
  else
   let x_31:Wh.T0:=((0,fN,0),())
   bif lF Wh.Fe x_31 then
    sumC (kG Wh.Fe Wh.aan x_31) (fun y_32=>
     let v_34:=y_32.1
     some (v_34,())) (fun z_33=>
     let n_35:=z_33.1
     some (n_35,()))
   else none
 else none
def Wh.JS:=bx Wh.Bi
theorem Wh.GV:OV Wh.Bi Wh.JS:=e_ _
def Wh.q24 (abi:((Int))→Option (((List UInt8))×(Unit)))(OH:((Int))→((List UInt8))×(Unit))(xs:(Int)):Option (((List UInt8))×(Unit)):=
 let yR:=xs
 bif decide (yR < -9223372036854775807) then
  some ([(45:UInt8),(57:UInt8),(50:UInt8),(50:UInt8),(51:UInt8),(51:UInt8),(55:UInt8),(50:UInt8),(48:UInt8),(51:UInt8),(54:UInt8),(56:UInt8),(53:UInt8),(52:UInt8),(55:UInt8),(55:UInt8),(53:UInt8),(56:UInt8),(48:UInt8),(56:UInt8)],())
 else
  bif decide (yR<0) then
   let w8:=IntKind.wrap .i64 (0-yR)
   let A5:Eg.D:=OH w8
   let Ah:List UInt8:=[(45:UInt8)]++A5.1
   bif iy [decide ((1:Nat)+List.length ((OH w8).1)≤dh),nQ (abi w8)] then
    some (Ah,())
   else none
  else
   bif decide (yR<10) then
    let Se:List Int:=[IntKind.wrap .u8 (IntKind.wrap .i64 (48+yR))]
    some (qp Se,())
   else
    let pb_12:List Int:=[IntKind.wrap .u8 (IntKind.wrap .i64 (48+Int.tmod yR 10))]
    let Au:=IntKind.wrap .i64 (Int.tdiv yR 10)
    let yT:Eg.D:=OH Au
    let vN:=yT.1++qp pb_12
    bif iy [decide (List.length ((OH Au).1)+(1:Nat)≤dh),true,nQ (abi Au),true] then
     some (vN,())
    else none
def Wh.Be:Nat→((Int))→Option (((List UInt8))×(Unit))
 |0,_=>none
 |n+1,xs=>Wh.q24 (Wh.Be n) (fun x=>match Wh.Be n x with | some y=>y|none=>default) xs
theorem Wh.TR (n:Nat):Wh.Be (n+1)=Wh.q24 (Wh.Be n) (fun x=>match Wh.Be n x with | some y=>y|none=>default):=rfl
def Wh.CP (xs:(Int)):Option (((List UInt8))×(Unit)):=Wh.Be 20 xs
def Wh.B8:=bx Wh.CP
theorem Wh.Oh:OV Wh.CP Wh.B8:=e_ _
abbrev Wh.U0:Type:=((Int)×(Int)×(Unit))×((List (Int)))
abbrev Wh.aht:Type:=((((Unit))×((List (Int)))))
def Wh.He (x:Wh.U0):Option (Wh.U0⊕Wh.aht):=
 let yK:=x.1.1
 let n_28:=x.1.2.1
 let RI:=x.2
 bif decide (yK≥0) then
  let yH:List Int:=[IntKind.wrap .u8 (Int.fdiv n_28 (2 ^ Min.min (Int.toNat (IntKind.wrap .i64 (8*yK))) (Go.IntKind.bits Go.IntKind.i64)))]
  let zo:=RI++yH
  bif iy [decide (List.length RI+(1:Nat)≤dh),decide (0≤(IntKind.wrap .i64 (8*yK)))] then
   some (.inl (((IntKind.wrap .i64 (yK-1)),n_28,()),zo))
  else none
 else
  some (.inr ((),RI))
def Wh.aa7:(((Unit))×((List (Int)))):=default
abbrev Wh.UZ:Type:=((Unit)×(List UInt8))×((List (Int)))
abbrev Wh.ahs:Type:=((((Unit)×(List UInt8))×((List (Int)))))
def Wh.Fv (x:Wh.UZ):Option (Wh.UZ⊕Wh.ahs):=
 let abM:=x.1.2
 let Dh:=x.2
 let yC:Bool:=(Int.tmod (↑(List.length Dh):Int) 64) != 56
 bif yC then
  let Df:=Dh ++ [(0:Int)]
  bif iy [decide (List.length Dh+(1:Nat)≤dh)] then
   some (.inl (((),abM),Df))
  else none
 else
  some (.inr (((),abM),Dh))
def Wh.aa6:(((Unit)×(List UInt8))×((List (Int)))):=default
def Wh.q83 (xs:(List UInt8)):Option (((List (Int)))×(Unit)):=
 let y9:=xs
 let y6:List Int:=bytesOf y9 ++ [(128:Int)]
 bif iy [decide (List.length (bytesOf y9)+(1:Nat)≤dh),decide (List.length y9≤dh)] then
  let x_12:Wh.UZ:=(((),y9),y6)
  bif lF Wh.Fv x_12 then
   let y_13:=kG Wh.Fv Wh.aa6 x_12
   let aj7:=y_13.1.2
   let yM:=y_13.2
   let x_37:Wh.U0:=((7,(IntKind.wrap .i64 ((↑(List.length aj7):Int)*8)),()),yM)
   bif lF Wh.He x_37 then
    let y_38:=kG Wh.He Wh.aa7 x_37
    let zV:=y_38.2
    some (zV,())
   else none
  else none
 else none
def Wh.q83':=bx Wh.q83
theorem Wh.q83_v:OV Wh.q83 Wh.q83':=e_ _
def Wh.yI (xs:(Int)×(Int)):Option (((Int))×(Unit)):=
 let yO:=xs.1
 let n_1:=xs.2
 let v_2:Int:=Int.fdiv yO (2 ^ Min.min (Int.toNat n_1) (Go.IntKind.bits Go.IntKind.u32))
 let w8:=IntKind.wrap .i64 (32-n_1)
 let zR:Int:=nj Go.BinOp.or Go.IntKind.u32 v_2 (IntKind.wrap .u32 (yO*2 ^ Min.min (Int.toNat w8) (Go.IntKind.bits Go.IntKind.u32)))
 bif iy [decide (0≤w8),decide (0≤n_1)] then
  some (zR,())
 else none
def Wh.zW:=bx Wh.yI
theorem Wh.q137_v:OV Wh.yI Wh.zW:=e_ _
abbrev Wh.SI:Type:=((Int)×(Unit))×((List (Int)))
abbrev Wh.agd:Type:=((((Unit))×((List (Int)))))
def Wh.Gs (x:Wh.SI):Option (Wh.SI⊕Wh.agd):=
 let EA:=x.1.1
 let B3:=x.2
 bif decide (EA<64) then
  let CZ:=IntKind.wrap .i64 (EA-15)
  let Kz:=List.getD B3 (Int.toNat CZ) 0
  bif iy [decide (0≤CZ),decide (CZ<(↑(List.length B3):Int))] then
   let v_99:=IntKind.wrap .i64 (EA-2)
   let KA:=List.getD B3 (Int.toNat v_99) 0
   bif iy [decide (0≤v_99),decide (v_99<(↑(List.length B3):Int))] then
    let r_102:=Wh.zW (Kz,7)
    let Vh:=Wh.zW (Kz,18)
    let v_105:Int:=Int.fdiv Kz (2 ^ Min.min (Int.toNat 3) (Go.IntKind.bits Go.IntKind.u32))
    let a_107:Int:=nj Go.BinOp.xor Go.IntKind.u32 (nj Go.BinOp.xor Go.IntKind.u32 r_102.1 Vh.1) v_105
    bif iy [true,nQ (Wh.yI (Kz,18)),nQ (Wh.yI (Kz,7))] then
     let r_108:=Wh.zW (KA,17)
     let J5:=Wh.zW (KA,19)
     let v_111:Int:=Int.fdiv KA (2 ^ Min.min (Int.toNat 10) (Go.IntKind.bits Go.IntKind.u32))
     let c_113:Int:=nj Go.BinOp.xor Go.IntKind.u32 (nj Go.BinOp.xor Go.IntKind.u32 r_108.1 J5.1) v_111
     bif iy [true,nQ (Wh.yI (KA,19)),nQ (Wh.yI (KA,17))] then
      let pb_114:List Int:=[IntKind.wrap .u32 (IntKind.wrap .u32 (IntKind.wrap .u32 (List.getD B3 (Int.toNat (IntKind.wrap .i64 (EA-16))) 0+a_107)+List.getD B3 (Int.toNat (IntKind.wrap .i64 (EA-7))) 0)+c_113)]
      let Jq:=B3++pb_114
      let v_116:=IntKind.wrap .i64 (EA-16)
      let OT:=IntKind.wrap .i64 (EA-7)
      bif iy [decide (List.length B3+(1:Nat)≤dh),decide (0≤OT),decide (OT<(↑(List.length B3):Int)),decide (0≤v_116),decide (v_116<(↑(List.length B3):Int))] then
       some (.inl (((IntKind.wrap .i64 (EA+1)),()),Jq))
      else none
     else none
    else none
   else none
  else none
 else
  some (.inr ((),B3))
def Wh.Zr:(((Unit))×((List (Int)))):=default
abbrev Wh.SH:Type:=((Int)×(List (Int))×(Unit))×((List (Int)))
abbrev Wh.agc:Type:=((((Unit))×((List (Int)))))
def Wh.Gr (x:Wh.SH):Option (Wh.SH⊕Wh.agc):=
 let F5:=x.1.1
 let C6:=x.1.2.1
 let zo:=x.2
 bif decide (F5<16) then
  let NS:List Int:=[nj Go.BinOp.or Go.IntKind.u32 (nj Go.BinOp.or Go.IntKind.u32 (nj Go.BinOp.or Go.IntKind.u32 (IntKind.wrap .u32 (IntKind.wrap .u32 (List.getD C6 (Int.toNat (IntKind.wrap .i64 (4*F5))) 0)*2 ^ Min.min (Int.toNat 24) (Go.IntKind.bits Go.IntKind.u32))) (IntKind.wrap .u32 (IntKind.wrap .u32 (List.getD C6 (Int.toNat (IntKind.wrap .i64 (IntKind.wrap .i64 (4*F5)+1))) 0)*2 ^ Min.min (Int.toNat 16) (Go.IntKind.bits Go.IntKind.u32)))) (IntKind.wrap .u32 (IntKind.wrap .u32 (List.getD C6 (Int.toNat (IntKind.wrap .i64 (IntKind.wrap .i64 (4*F5)+2))) 0)*2 ^ Min.min (Int.toNat 8) (Go.IntKind.bits Go.IntKind.u32)))) (IntKind.wrap .u32 (List.getD C6 (Int.toNat (IntKind.wrap .i64 (IntKind.wrap .i64 (4*F5)+3))) 0))]
  let yB:=zo++NS
  let ym:=IntKind.wrap .i64 (4*F5)
  bif iy [decide (List.length zo+(1:Nat)≤dh),decide (0≤IntKind.wrap .i64 (ym+3)),decide (IntKind.wrap .i64 (ym+3)<(↑(List.length C6):Int)),true,decide (0≤IntKind.wrap .i64 (ym+2)),decide (IntKind.wrap .i64 (ym+2)<(↑(List.length C6):Int)),true,decide (0≤IntKind.wrap .i64 (ym+1)),decide (IntKind.wrap .i64 (ym+1)<(↑(List.length C6):Int)),true,decide (0≤ym),decide (ym<(↑(List.length C6):Int))] then
   some (.inl (((IntKind.wrap .i64 (F5+1)),C6,()),yB))
  else none
 else
  some (.inr ((),zo))
def Wh.Zq:(((Unit))×((List (Int)))):=default
def Wh.Gq (xs:(List (Int))):Option (((List (Int)))×(Unit)):=
 let y2:=xs
 let x_59:Wh.SH:=((0,y2,()),[])
 bif lF Wh.Gr x_59 then
  let y_60:=kG Wh.Gr Wh.Zq x_59
  let ls_61:=y_60.2
  let x_124:Wh.SI:=((16,()),ls_61)
  bif lF Wh.Gs x_124 then
   let y_125:=kG Wh.Gs Wh.Zr x_124
   let ls_126:=y_125.2
   some (ls_126,())
  else none
 else none
def Wh.SG:=bx Wh.Gq
theorem Wh.Zt:OV Wh.Gq Wh.SG:=e_ _
def Wh.q82 (_:Unit):Option (((List (Int)))×(Unit)):=
 let pb_0:List Int:=[(1116352408:Int),1899447441,3049323471,3921009573,961987163,1508970993,2453635748,2870763221,3624381080,310598401,607225278,1426881987,1925078388,2162078206,2614888103,3248222580,3835390401,4022224774,264347078,604807628,770255983,1249150122,1555081692,1996064986,2554220882,2821834349,2952996808,3210313671,3336571891,3584528711,113926993,338241895,666307205,773529912,1294757372,1396182291,1695183700,1986661051,2177026350,2456956037,2730485921,2820302411,3259730800,3345764771,3516065817,3600352804,4094571909,275423344,430227734,506948616,659060556,883997877,958139571,1322822218,1537002063,1747873779,1955562222,2024104815,2227730452,2361852424,2428436474,2756734187,3204031479,3329325298]
 some (pb_0,())
def Wh.q82':=bx Wh.q82
theorem Wh.q82_v:OV Wh.q82 Wh.q82':=e_ _
abbrev Wh.SF:Type:=((Int)×(Unit)×(List (Int))×(Unit))×((List (Int))×(List (Int)))
abbrev Wh.agb:Type:=((((Unit))×((List (Int)))))
def Wh.JC (x:Wh.SF):Option (Wh.SF⊕Wh.agb):=
 let Ey:=x.1.1
 let Rs:=(x.1.2.2).1
 let RG:=x.2.1
 let RH:=x.2.2
 bif decide (Ey<8) then
  let pb_193:List Int:=[IntKind.wrap .u32 (List.getD Rs (Int.toNat Ey) 0+List.getD RG (Int.toNat Ey) 0)]
  let ls_194:=RH++pb_193
  bif iy [decide (List.length RH+(1:Nat)≤dh),decide (0≤Ey),decide (Ey<(↑(List.length RG):Int)),decide (0≤Ey),decide (Ey<(↑(List.length Rs):Int))] then
   some (.inl (((IntKind.wrap .i64 (Ey+1)),(),Rs,()),RG,ls_194))
  else none
 else
  some (.inr ((),RH))
def Wh.Zo:(((Unit))×((List (Int)))):=default
abbrev Wh.SD:Type:=((Int)×(Unit)×(Unit)×(Unit)×(List (Int))×(Int)×(Int)×(Int)×(Int))×((List (Int))×(List (Int))×(List (Int)))
abbrev Wh.aga:Type:=((((Unit)×(Unit)×(Unit)×(List (Int))×(Int)×(Int)×(Int)×(Int))×((List (Int))×(List (Int))×(List (Int)))))
def Wh.JB (x:Wh.SD):Option (Wh.SD⊕Wh.aga):=
 let H8:=x.1.1
 let h_73:=(x.1.2.2.2.2).1
 let i_74:=(x.1.2.2.2.2).2.1
 let YO:=(x.1.2.2.2.2).2.2.1
 let a_76:=(x.1.2.2.2.2).2.2.2.1
 let t_77:=(x.1.2.2.2.2).2.2.2.2
 let Js:=x.2.1
 let ls_79:=x.2.2.1
 let Jt:=x.2.2.2
 bif decide (H8>0) then
  let ls_82:=List.set Js (Int.toNat H8) (List.getD Js (Int.toNat (IntKind.wrap .i64 (H8-1))) 0)
  let En:=IntKind.wrap .i64 (H8-1)
  bif iy [decide (0≤H8),decide (H8<(↑(List.length Js):Int)),decide (0≤En),decide (En<(↑(List.length Js):Int))] then
   some (.inl ((En,(),(),(),h_73,i_74,YO,a_76,t_77),ls_82,ls_79,Jt))
  else none
 else
  some (.inr (((),(),(),h_73,i_74,YO,a_76,t_77),Js,ls_79,Jt))
def Wh.SE:(((Unit)×(Unit)×(Unit)×(List (Int))×(Int)×(Int)×(Int)×(Int))×((List (Int))×(List (Int))×(List (Int)))):=default
abbrev Wh.SC:Type:=((Unit)×(Int)×(Unit)×(Unit)×(List (Int)))×((List (Int))×(List (Int))×(List (Int)))
abbrev Wh.af_:Type:=((((Unit)×(List (Int)))×((List (Int)))))
def Wh.Gp (x:Wh.SC):Option (Wh.SC⊕Wh.af_):=
 let Ew:=x.1.2.1
 let h_103:=x.1.2.2.2.2
 let yL:=x.2.1
 let RD:=x.2.2.1
 let RE:=x.2.2.2
 bif decide (Ew<64) then
  let CY:=List.getD yL (Int.toNat 4) 0
  let r_119:=Wh.zW (CY,6)
  let r_120:=Wh.zW (CY,11)
  let r_121:=Wh.zW (CY,25)
  let e_122:Int:=nj Go.BinOp.xor Go.IntKind.u32 (nj Go.BinOp.xor Go.IntKind.u32 r_119.1 r_120.1) r_121.1
  bif iy [nQ (Wh.yI (CY,25)),true,decide (4<(↑(List.length yL):Int)),nQ (Wh.yI (CY,11)),true,decide (4<(↑(List.length yL):Int)),nQ (Wh.yI (CY,6)),true,decide (4<(↑(List.length yL):Int))] then
   let v_123:=List.getD yL (Int.toNat 5) 0
   let v_124:=List.getD yL (Int.toNat 6) 0
   let ch_127:Int:=nj Go.BinOp.xor Go.IntKind.u32 (nj Go.BinOp.and Go.IntKind.u32 CY v_123) (nj Go.BinOp.and Go.IntKind.u32 (nj Go.BinOp.xor Go.IntKind.u32 (Go.IntKind.max Go.IntKind.u32) CY) v_124)
   bif iy [true,decide (6<(↑(List.length yL):Int)),true,decide (4<(↑(List.length yL):Int)),true,decide (5<(↑(List.length yL):Int)),true,decide (4<(↑(List.length yL):Int))] then
    let v_128:=List.getD yL (Int.toNat 7) 0
    let Vw:=List.getD RE (Int.toNat Ew) 0
    let v_133:=List.getD RD (Int.toNat Ew) 0
    bif iy [decide (0≤Ew),decide (Ew<(↑(List.length RD):Int)),decide (0≤Ew),decide (Ew<(↑(List.length RE):Int)),true,decide (7<(↑(List.length yL):Int))] then
     let FD:=List.getD yL (Int.toNat 0) 0
     let r_147:=Wh.zW (FD,2)
     let r_148:=Wh.zW (FD,13)
     let r_149:=Wh.zW (FD,22)
     let a_150:Int:=nj Go.BinOp.xor Go.IntKind.u32 (nj Go.BinOp.xor Go.IntKind.u32 r_147.1 r_148.1) r_149.1
     bif iy [nQ (Wh.yI (FD,22)),true,decide (0<(↑(List.length yL):Int)),nQ (Wh.yI (FD,13)),true,decide (0<(↑(List.length yL):Int)),nQ (Wh.yI (FD,2)),true,decide (0<(↑(List.length yL):Int))] then
      let v_151:=List.getD yL (Int.toNat 1) 0
      let OX:=List.getD yL (Int.toNat 2) 0
      let aev:Int:=nj Go.BinOp.xor Go.IntKind.u32 (nj Go.BinOp.xor Go.IntKind.u32 (nj Go.BinOp.and Go.IntKind.u32 FD v_151) (nj Go.BinOp.and Go.IntKind.u32 FD OX)) (nj Go.BinOp.and Go.IntKind.u32 v_151 OX)
      bif iy [true,decide (2<(↑(List.length yL):Int)),true,decide (1<(↑(List.length yL):Int)),true,decide (2<(↑(List.length yL):Int)),true,decide (0<(↑(List.length yL):Int)),true,decide (1<(↑(List.length yL):Int)),true,decide (0<(↑(List.length yL):Int))] then
       let x_156:Wh.SD:=((7,(),(),(),h_103,Ew,aev,a_150,(IntKind.wrap .u32 (IntKind.wrap .u32 (IntKind.wrap .u32 (IntKind.wrap .u32 (v_128+e_122)+ch_127)+Vw)+v_133))),yL,RD,RE)
       bif lF Wh.JB x_156 then
        let FL:=kG Wh.JB Wh.SE x_156
        let h_158:=FL.1.2.2.2.1
        let i_159:=(FL.1.2.2.2.2).1
        let aew:=(FL.1.2.2.2.2).2.1
        let a_161:=(FL.1.2.2.2.2).2.2.1
        let t_162:=(FL.1.2.2.2.2).2.2.2
        let ND:=FL.2.1
        let ls_164:=FL.2.2.1
        let ls_165:=FL.2.2.2
        let XK:=List.set ND (Int.toNat 4) (IntKind.wrap .u32 (List.getD ND (Int.toNat 4) 0+t_162))
        bif iy [true,decide (4<(↑(List.length ND):Int)),true,decide (4<(↑(List.length ND):Int))] then
         let ls_169:=List.set XK (Int.toNat 0) (IntKind.wrap .u32 (IntKind.wrap .u32 (t_162+a_161)+aew))
         bif iy [true,decide (0<(↑(List.length XK):Int))] then
          some (.inl (((),(IntKind.wrap .i64 (i_159+1)),(),(),h_158),ls_169,ls_164,ls_165))
         else none
        else none
       else none
      else none
     else none
    else none
   else none
  else none
 else
  some (.inr (((),h_103),yL))
def Wh.Zn:(((Unit)×(List (Int)))×((List (Int)))):=default
def Wh.Gn (xs:(List (Int))×(List (Int))):Option (((List (Int)))×(Unit)):=
 let h_0:=xs.1
 let b_1:=xs.2
 let r_2:=Wh.SG b_1
 bif iy [nQ (Wh.Gq b_1)] then
  let r_3:=Wh.q82' ()
  bif iy [nQ (Wh.q82 ())] then
   let pb_4:List Int:=[]++h_0
   bif iy [decide ((0:Nat)+List.length h_0≤dh)] then
    let x_173:Wh.SC:=(((),0,(),(),h_0),pb_4,r_2.1,r_3.1)
    bif lF Wh.Gp x_173 then
     let y_174:=kG Wh.Gp Wh.Zn x_173
     let h_175:=y_174.1.2
     let ls_176:=y_174.2
     let x_199:Wh.SF:=((0,(),h_175,()),ls_176,[])
     bif lF Wh.JC x_199 then
      let y_200:=kG Wh.JC Wh.Zo x_199
      let ls_201:=y_200.2
      some (ls_201,())
     else none
    else none
   else none
  else none
 else none
def Wh.SB:=bx Wh.Gn
theorem Wh.Zp:OV Wh.Gn Wh.SB:=e_ _
abbrev Wh.TW:Type:=((Int)×(Unit)×(Unit))×((List (Int))×(List (Int)))
abbrev Wh.agK:Type:=((((Unit))×((List (Int)))))
def Wh.JP (x:Wh.TW):Option (Wh.TW⊕Wh.agK):=
 let AR:=x.1.1
 let ye:=x.2.1
 let yB:=x.2.2
 bif decide (AR<8) then
  let pb_37:List Int:=[IntKind.wrap .u8 (Int.fdiv (List.getD ye (Int.toNat AR) 0) (2 ^ Min.min (Int.toNat 24) (Go.IntKind.bits Go.IntKind.u32))),IntKind.wrap .u8 (Int.fdiv (List.getD ye (Int.toNat AR) 0) (2 ^ Min.min (Int.toNat 16) (Go.IntKind.bits Go.IntKind.u32))),IntKind.wrap .u8 (Int.fdiv (List.getD ye (Int.toNat AR) 0) (2 ^ Min.min (Int.toNat 8) (Go.IntKind.bits Go.IntKind.u32))),IntKind.wrap .u8 (List.getD ye (Int.toNat AR) 0)]
  let yy:=yB++pb_37
  bif iy [decide (List.length yB+(4:Nat)≤dh),decide (0≤AR),decide (AR<(↑(List.length ye):Int)),true,decide (0≤AR),decide (AR<(↑(List.length ye):Int)),true,decide (0≤AR),decide (AR<(↑(List.length ye):Int)),true,decide (0≤AR),decide (AR<(↑(List.length ye):Int))] then
   some (.inl (((IntKind.wrap .i64 (AR+1)),(),()),ye,yy))
  else none
 else
  some (.inr ((),yB))
def Wh.aai:(((Unit))×((List (Int)))):=default
abbrev Wh.TV:Type:=((Int)×(Unit)×(Unit))×((List (Int))×(List (Int)))
abbrev Wh.agJ:Type:=((((Unit))×((List (Int)))))
def Wh.E_ (x:Wh.TV):Option (Wh.TV⊕Wh.agJ):=
 let yA:=x.1.1
 let EC:=x.2.1
 let Df:=x.2.2
 bif decide (yA<(↑(List.length EC):Int)) then
  let FA:=Wh.SB (Df,List.take (Int.toNat (IntKind.wrap .i64 (yA+64)-yA)) (List.drop (Int.toNat yA) EC))
  let so:=IntKind.wrap .i64 (yA+64)
  bif iy [nQ (Wh.Gn (Df,List.take (Int.toNat (so-yA)) (List.drop (Int.toNat yA) EC))),decide (0≤yA),decide (yA≤so),decide (so≤(↑(List.length EC):Int))] then
   some (.inl ((so,(),()),EC,FA.1))
  else none
 else
  some (.inr ((),Df))
def Wh.aah:(((Unit))×((List (Int)))):=default
def Wh.GU (xs:(List UInt8)):Option (((List UInt8))×(Unit)):=
 let y9:=xs
 let r_1:=Wh.q83' y9
 bif iy [nQ (Wh.q83 y9)] then
  let x_16:Wh.TV:=((0,(),()),r_1.1,[(1779033703:Int),3144134277,1013904242,2773480762,1359893119,2600822924,528734635,1541459225])
  bif lF Wh.E_ x_16 then
   let KB:=kG Wh.E_ Wh.aah x_16
   let w9:=KB.2
   let Ku:Wh.TW:=((0,(),()),w9,[])
   bif lF Wh.JP Ku then
    let y_48:=kG Wh.JP Wh.aai Ku
    let ls_49:=y_48.2
    some (qp ls_49,())
   else none
  else none
 else none
def Wh.TU:=bx Wh.GU
theorem Wh.aaj:OV Wh.GU Wh.TU:=e_ _
abbrev Wh.TS:Type:=((Int)×(List UInt8)×(Unit))×((List (Int)))
abbrev Wh.agI:Type:=((((Unit))×((List (Int)))))
def Wh.E9 (x:Wh.TS):Option (Wh.TS⊕Wh.agI):=
 let Am:=x.1.1
 let Ch:=x.1.2.1
 let yM:=x.2
 let tn:=decide (Am<(↑(List.length Ch):Int))
 bif tn then
  let Gg:List Int:=[(↑(UInt8.toNat (List.getD [(48:UInt8),(49:UInt8),(50:UInt8),(51:UInt8),(52:UInt8),(53:UInt8),(54:UInt8),(55:UInt8),(56:UInt8),(57:UInt8),(97:UInt8),(98:UInt8),(99:UInt8),(100:UInt8),(101:UInt8),(102:UInt8)] (Int.toNat (IntKind.wrap .u8 (Int.tdiv (↑(UInt8.toNat (List.getD Ch (Int.toNat Am) (0:UInt8))):Int) 16))) (0:UInt8))):Int),(↑(UInt8.toNat (List.getD [(48:UInt8),(49:UInt8),(50:UInt8),(51:UInt8),(52:UInt8),(53:UInt8),(54:UInt8),(55:UInt8),(56:UInt8),(57:UInt8),(97:UInt8),(98:UInt8),(99:UInt8),(100:UInt8),(101:UInt8),(102:UInt8)] (Int.toNat (Int.tmod (↑(UInt8.toNat (List.getD Ch (Int.toNat Am) (0:UInt8))):Int) 16)) (0:UInt8))):Int)]
  let w9:=yM++Gg
  let nG:Int:=(↑(UInt8.toNat (List.getD Ch (Int.toNat Am) (0:UInt8))):Int)
  bif iy [decide (List.length yM+(2:Nat)≤dh),decide (0≤Int.tmod nG 16),decide (Int.tmod nG 16<(↑(16:Nat):Int)),true,decide (0≤Am),tn,decide (0≤IntKind.wrap .u8 (Int.tdiv nG 16)),decide (IntKind.wrap .u8 (Int.tdiv nG 16)<(↑(16:Nat):Int)),true,decide (0≤Am),tn] then
   some (.inl (((IntKind.wrap .i64 (Am+1)),Ch,()),w9))
  else none
 else
  some (.inr ((),yM))
def Wh.aag:(((Unit))×((List (Int)))):=default
def Wh.E8 (xs:(List UInt8)):Option (((List UInt8))×(Unit)):=
 let fN:=xs
 let x_25:Wh.TS:=((0,fN,()),[])
 bif lF Wh.E9 x_25 then
  let yY:=kG Wh.E9 Wh.aag x_25
  let y5:=yY.2
  some (qp y5,())
 else none
def Wh.Oi:=bx Wh.E8
theorem Wh.TT:OV Wh.E8 Wh.Oi:=e_ _
def Wh.Gi (xs:(List UInt8)):Option (((List UInt8))×(Unit)):=
 let y9:=xs
 let r_1:=Wh.TU y9
 let r_3:=Wh.Oi r_1.1
 bif iy [nQ (Wh.E8 r_1.1),nQ (Wh.GU y9)] then
  some (r_3.1,())
 else none
def Wh.EN:=bx Wh.Gi
theorem Wh.Zd:OV Wh.Gi Wh.EN:=e_ _
def Wh.GD (xs:(Int)×(List UInt8)):Option (((List UInt8))×(Unit)):=
 let yR:=xs.1
 let zE:=xs.2
 let r_2:=Wh.B8 yR
 let nE:=Wh.B8 (↑(List.length zE):Int)
 let AA:=r_2.1 ++ [(32:UInt8)]++nE.1 ++ [(32:UInt8)]
 bif iy [decide (List.length (r_2.1 ++ [(32:UInt8)]++nE.1)+(1:Nat)≤dh),decide (List.length (r_2.1 ++ [(32:UInt8)])+List.length nE.1≤dh),nQ (Wh.CP (↑(List.length zE):Int)),decide (List.length r_2.1+(1:Nat)≤dh),nQ (Wh.CP yR)] then
  let Ah:List UInt8:=AA++zE
  let yT:=Wh.EN Ah
  let vN:List UInt8:=AA++List.take (Int.toNat ((16:Int)-0)) (List.drop (Int.toNat 0) yT.1) ++ [(32:UInt8)]++zE ++ [(10:UInt8)]
  bif iy [decide (List.length (AA++List.take (Int.toNat ((16:Int)-0)) (List.drop (Int.toNat 0) ((Wh.EN Ah).1)) ++ [(32:UInt8)]++zE)+(1:Nat)≤dh),decide (List.length (AA++List.take (Int.toNat ((16:Int)-0)) (List.drop (Int.toNat 0) ((Wh.EN Ah).1)) ++ [(32:UInt8)])+List.length zE≤dh),decide (List.length (AA++List.take (Int.toNat ((16:Int)-0)) (List.drop (Int.toNat 0) ((Wh.EN Ah).1)))+(1:Nat)≤dh),decide (List.length AA+List.length (List.take (Int.toNat ((16:Int)-0)) (List.drop (Int.toNat 0) ((Wh.EN Ah).1)))≤dh),true,true,decide (16≤(↑(List.length ((Wh.EN Ah).1)):Int)),nQ (Wh.Gi Ah),decide (List.length AA+List.length zE≤dh)] then
   some (vN,())
  else none
 else none
def Wh.Te:=bx Wh.GD
theorem Wh.Tf:OV Wh.GD Wh.Te:=e_ _
def Wh.DD (xs:(List UInt8)×(Int)×(Int)):Option (((List UInt8)×(Int))×(Unit)):=
 let zd:=xs.1
 let zT:=xs.2.1
 let R9:=xs.2.2
 let r_3:=Wh.JI (zd,zT,32)
 bif iy [nQ (Wh.zD (zd,zT,32))] then
  let xU:=decide (r_3.1<0)
  let xQ:=Wh.JS (List.take (Int.toNat (r_3.1-zT)) (List.drop (Int.toNat zT) zd))
  let zR:=bif xU then true else xQ.1 != R9
  bif iy [!!xU || nQ (Wh.Bi (List.take (Int.toNat (r_3.1-zT)) (List.drop (Int.toNat zT) zd))),!!xU || decide (0≤zT),!!xU || decide (zT≤r_3.1),!!xU || decide (r_3.1≤(↑(List.length zd):Int))] then
   bif zR then
    some (([],0),())
   else
    let w7:=IntKind.wrap .i64 (r_3.1+1)
    let r_9:=Wh.JI (zd,w7,32)
    bif iy [nQ (Wh.zD (zd,w7,32))] then
     bif decide (r_9.1<0) then
      some (([],0),())
     else
      let FA:=Wh.JS (List.take (Int.toNat (r_9.1-w7)) (List.drop (Int.toNat w7) zd))
      bif iy [nQ (Wh.Bi (List.take (Int.toNat (r_9.1-w7)) (List.drop (Int.toNat w7) zd))),decide (0≤w7),decide (w7≤r_9.1),decide (r_9.1≤(↑(List.length zd):Int))] then
       let so:=IntKind.wrap .i64 (r_9.1+18)
       let J6:=Wh.nS (FA.1,1,500)
       let tn:=bif !J6.1 then true else decide (IntKind.wrap .i64 (IntKind.wrap .i64 (so+FA.1)+1)>(↑(List.length zd):Int))
       bif iy [nQ (Wh.xe (FA.1,1,500))] then
        bif tn then
         some (([],0),())
        else
         let xS:=IntKind.wrap .i64 (so+FA.1)
         let yT:=Wh.Te (R9,List.take (Int.toNat (xS-so)) (List.drop (Int.toNat so) zd))
         bif iy [nQ (Wh.GD (R9,List.take (Int.toNat (xS-so)) (List.drop (Int.toNat so) zd))),decide (0≤so),decide (so≤xS),decide (xS≤(↑(List.length zd):Int))] then
          bif iy [decide (0≤zT),decide (zT≤IntKind.wrap .i64 (xS+1)),decide (IntKind.wrap .i64 (xS+1)≤(↑(List.length zd):Int))] then
           bif(!List.take (Int.toNat (IntKind.wrap .i64 (xS+1)-zT)) (List.drop (Int.toNat zT) zd)==yT.1) then
            some (([],0),())
           else
            let zG:Int:=(↑(List.length yT.1):Int)
            let xZ:List UInt8:=List.take (Int.toNat (xS-so)) (List.drop (Int.toNat so) zd)
            bif iy [decide (0≤so),decide (so≤xS),decide (xS≤(↑(List.length zd):Int))] then
             some ((xZ,zG),())
            else none
          else none
         else none
       else none
      else none
    else none
  else none
 else none
def Wh.Tg:=bx Wh.DD
theorem Wh.Th:OV Wh.DD Wh.Tg:=e_ _
abbrev Wh.Ti:Type:=((Int)×(Unit)×(List UInt8))×((List (List UInt8)))
abbrev Wh.agu:Type:=((((Unit)×(Int))×((List (List UInt8)))))
def Wh.EW (x:Wh.Ti):Option (Wh.Ti⊕Wh.agu):=
 let Nf:=x.1.1
 let RB:=x.1.2.2
 let yu:=x.2
 let n5:Int:=(↑(List.length yu):Int)
 let BM:=Wh.Tg (RB,Nf,n5)
 bif iy [nQ (Wh.DD (RB,Nf,n5))] then
  bif(BM.1.2==0) then
   some (.inr (((),Nf),yu))
  else
   let pb_30:List (List UInt8):=[BM.1.1]
   let zK:List (List UInt8):=yu++pb_30
   bif iy [decide (List.length yu+(1:Nat)≤dh)] then
    some (.inl (((IntKind.wrap .i64 (Nf+BM.1.2)),(),RB),zK))
   else none
 else none
def Wh.ZS:(((Unit)×(Int))×((List (List UInt8)))):=default
def Wh.B7 (xs:(List UInt8)):Option (((List (List UInt8))×(Int))×(Unit)):=
 let zd:=xs
 let x_33:Wh.Ti:=((0,(),zd),[])
 bif lF Wh.EW x_33 then
  let y_34:=kG Wh.EW Wh.ZS x_33
  let yJ:=y_34.1.2
  let RL:=y_34.2
  some ((RL,yJ),())
 else none
def Wh.JJ:=bx Wh.B7
theorem Wh.N6:OV Wh.B7 Wh.JJ:=e_ _
abbrev Wh.Ta:Type:=((Int)×(Int)×(List UInt8)×(Unit)×(Int))×((List (List UInt8)))
abbrev Wh.ags:Type:=((((Int)×(List UInt8)×(Unit))×((List (List UInt8)))))
def Wh.Aa (x:Wh.Ta):Option (Wh.Ta⊕Wh.ags):=
 let gv:=x.1.1
 let HP:=x.1.2.1
 let Hs:=(x.1.2.2).1
 let Q7:=x.1.2.2.2.2
 let yu:=x.2
 let n5:=decide (gv<(↑(List.length Hs):Int))
 bif n5 then
  let vN:Int:=(↑(UInt8.toNat (List.getD Hs (Int.toNat gv) (0:UInt8))):Int)
  let za:=vN==Q7
  bif iy [decide (0≤gv),n5] then
   bif za then
    let zv:List (List UInt8):=[List.take (Int.toNat (gv-HP)) (List.drop (Int.toNat HP) Hs)]
    let z7:List (List UInt8):=yu++zv
    bif iy [decide (List.length yu+(1:Nat)≤dh),decide (0≤HP),decide (HP≤gv),decide (gv≤(↑(List.length Hs):Int))] then
     let xZ:=IntKind.wrap .i64 (gv+1)
     some (.inl ((xZ,xZ,Hs,(),Q7),z7))
    else none
   else
    some (.inl (((IntKind.wrap .i64 (gv+1)),HP,Hs,(),Q7),yu))
  else none
 else
  some (.inr ((HP,Hs,()),yu))
def Wh.ZQ:(((Int)×(List UInt8)×(Unit))×((List (List UInt8)))):=default
def Wh.DC (xs:(List UInt8)×(Int)):Option (((List (List UInt8)))×(Unit)):=
 let fN:=xs.1
 let zT:=xs.2
 let Aj:Wh.Ta:=((0,0,fN,(),zT),[])
 bif lF Wh.Aa Aj then
  let zX:=kG Wh.Aa Wh.ZQ Aj
  let Ns:=zX.1.1
  let Kc:=zX.1.2.1
  let zo:=zX.2
  let zw:List (List UInt8):=[List.take (Int.toNat ((↑(List.length Kc):Int)-Ns)) (List.drop (Int.toNat Ns) Kc)]
  let ye:List (List UInt8):=zo++zw
  bif iy [decide (List.length zo+(1:Nat)≤dh),decide (0≤Ns),decide (Ns≤(↑(List.length Kc):Int)),decide ((↑(List.length Kc):Int)≤(↑(List.length Kc):Int))] then
   some (ye,())
  else none
 else none
def Wh.S_:=bx Wh.DC
theorem Wh.Tb:OV Wh.DC Wh.S_:=e_ _
abbrev Wh.S3:Type:=((Int)×(List UInt8))×(Unit)
abbrev Wh.agn:Type:=((((Bool))×(Unit))⊕(((List UInt8))×(Unit)))
def Wh.A3 (x:Wh.S3):Option (Wh.S3⊕Wh.agn):=
 let yA:=x.1.1
 let OQ:=x.1.2
 let yU:=decide (yA<(↑(List.length OQ):Int))
 bif yU then
  let yh:Int:=(↑(UInt8.toNat (List.getD OQ (Int.toNat yA) (0:UInt8))):Int)
  let xd:=bif decide (yh<97) then true else decide (yh>122)
  bif iy [!!decide (yh<97) || decide (0≤yA),!!decide (yh<97) || yU,decide (0≤yA),yU] then
   bif xd then
    some (.inr (.inl (false,())))
   else
    some (.inl (((IntKind.wrap .i64 (yA+1)),OQ),()))
  else none
 else
  some (.inr (.inr (OQ,())))
def Wh.ZK:(((Bool))×(Unit))⊕(((List UInt8))×(Unit)):=.inl default
def Wh.B6 (xs:(List UInt8)):Option (((Bool))×(Unit)):=
 let y9:=xs
 let x_17:Wh.S3:=((0,y9),())
 bif lF Wh.A3 x_17 then
  sumC (kG Wh.A3 Wh.ZK x_17) (fun Ep=>
   let n5:=Ep.1
   some (n5,())) (fun KG=>
   let abK:=KG.1
   let r_22:=Wh.nS ((↑(List.length abK):Int),1,6)
   bif iy [nQ (Wh.xe ((↑(List.length abK):Int),1,6))] then
    some (r_22.1,())
   else none)
 else none
def Wh.N4:=bx Wh.B6
theorem Wh.S4:OV Wh.B6 Wh.N4:=e_ _
def Wh.B_ (xs:(an.D)):Option (((Bool))×(Unit)):=
 let t_0:an.D:=xs
 let r_1:=Wh.nS (t_0.1,0,1)
 let r_2:=Wh.N4 t_0.2.1
 let xQ:=Wh.nS ((↑(List.length ((t_0.2.2.2).1)):Int),1,300)
 let w7:=bif bif r_1.1 then r_2.1 else false then xQ.1 else false
 bif iy [(!bif r_1.1 then r_2.1 else false) || nQ (Wh.xe ((↑(List.length ((t_0.2.2.2).1)):Int),1,300)),!r_1.1 || nQ (Wh.B6 t_0.2.1),nQ (Wh.xe (t_0.1,0,1))] then
  some (w7,())
 else none
def Wh.DQ:=bx Wh.B_
theorem Wh.DR:OV Wh.B_ Wh.DQ:=e_ _
def Wh.q42 (xs:(Int)×(List UInt8)×(List UInt8)):Option (((List UInt8))×(Unit)):=
 let Ev:=xs.1
 let zh:=xs.2.1
 let A6:=xs.2.2
 let w8:=A6 == []
 bif w8 then
  let nE:=Wh.DQ (Ev,zh,0,[(120:UInt8)],())
  bif iy [nQ (Wh.B_ (Ev,zh,0,[(120:UInt8)],()))] then
   bif !nE.1 then
    some ([],())
   else
    let xQ:=Wh.B8 Ev
    let yC:=xQ.1 ++ [(32:UInt8)]++zh ++ [(58:UInt8)]++A6
    bif iy [decide (List.length (xQ.1 ++ [(32:UInt8)]++zh ++ [(58:UInt8)])+List.length A6≤dh),decide (List.length (xQ.1 ++ [(32:UInt8)]++zh)+(1:Nat)≤dh),decide (List.length (xQ.1 ++ [(32:UInt8)])+List.length zh≤dh),decide (List.length xQ.1+(1:Nat)≤dh),nQ (Wh.CP Ev)] then
     some (yC,())
    else none
  else none
 else
  let Fz:=Wh.DQ (Ev,zh,0,A6,())
  bif iy [nQ (Wh.B_ (Ev,zh,0,A6,()))] then
   bif !Fz.1 then
    some ([],())
   else
    let Ac:=Wh.B8 Ev
    let xS:=Ac.1 ++ [(32:UInt8)]++zh ++ [(58:UInt8)]++A6
    bif iy [decide (List.length (Ac.1 ++ [(32:UInt8)]++zh ++ [(58:UInt8)])+List.length A6≤dh),decide (List.length (Ac.1 ++ [(32:UInt8)]++zh)+(1:Nat)≤dh),decide (List.length (Ac.1 ++ [(32:UInt8)])+List.length zh≤dh),decide (List.length Ac.1+(1:Nat)≤dh),nQ (Wh.CP Ev)] then
     some (xS,())
    else none
  else none
def Wh.q42':=bx Wh.q42
theorem Wh.Us:OV Wh.q42 Wh.q42':=e_ _
def Wh.GF (xs:(an.D)×(Int)×(List UInt8)):Option (((Bool))×(Unit)):=
 let bn:=xs.1
 let xY:=xs.2.1
 let yS:=xs.2.2
 let yw:=bif decide (bn.1<xY) then true else bif bn.1==xY then Go.Op.bytesLess bn.2.1 yS else false
 some (yw,())
def Wh.N7:=bx Wh.GF
theorem Wh.N8:OV Wh.GF Wh.N7:=e_ _
abbrev Wh.SJ:Type:=((Int)×(List (an.D))×(Int)×(Int))×(Unit)
abbrev Wh.age:Type:=((((Int))×(Unit)))
def Wh.Dw (x:Wh.SJ):Option (Wh.SJ⊕Wh.age):=
 let gv:=x.1.1
 let NC:=x.1.2.1
 let Ge:=(x.1.2.2).1
 let F3:=x.1.2.2.2
 let nG:Int:=(↑(List.length NC):Int)
 bif decide (gv<nG) then
  let vN:an.D:=List.getD NC (Int.toNat gv) (0,[],0,[],())
  bif iy [decide (0≤gv),decide (gv<nG)] then
   bif(vN.1==F3) then
    bif iy [decide (0≤gv),decide (gv<nG)] then
     some (.inl (((IntKind.wrap .i64 (gv+1)),NC,(IntKind.wrap .i64 (Ge+(↑(List.length ((vN.2.2.2).1)):Int))),F3),()))
    else none
   else
    some (.inl (((IntKind.wrap .i64 (gv+1)),NC,Ge,F3),()))
  else none
 else
  some (.inr (Ge,()))
def Wh.Zu:(((Int))×(Unit)):=default
def Wh.ER (xs:(List (an.D))×(Int)):Option (((Int))×(Unit)):=
 let list_0:=xs.1
 let xY:=xs.2
 let Aj:Wh.SJ:=((0,list_0,0,xY),())
 bif lF Wh.Dw Aj then
  let zX:=kG Wh.Dw Wh.Zu Aj
  let n_30:=zX.1
  some (n_30,())
 else none
def Wh.NX:=bx Wh.ER
theorem Wh.NY:OV Wh.ER Wh.NX:=e_ _
abbrev Wh.TK:Type:=((Int)×(Unit))×((fk.D))
abbrev Wh.agF:Type:=((((Bool))×(Unit))⊕((Unit)×(Unit)))
def Wh.GR (x:Wh.TK):Option (Wh.TK⊕Wh.agF):=
 let h_66:=x.1.1
 let Jr:=x.2
 bif decide (h_66<2) then
  let r_69:=Wh.NX (Jr.2.1,h_66)
  bif iy [nQ (Wh.ER (Jr.2.1,h_66))] then
   bif decide (r_69.1>500) then
    some (.inr (.inl (false,())))
   else
    some (.inl (((IntKind.wrap .i64 (h_66+1)),()),Jr))
  else none
 else
  some (.inr (.inr ((),())))
def Wh.aad:(((Bool))×(Unit))⊕((Unit)×(Unit)):=.inl default
abbrev Wh.TJ:Type:=((Int)×(Unit)×(Unit)×(Int))×((an.D)×(fk.D))
abbrev Wh.agE:Type:=((((Bool))×(Unit))⊕(((Unit)×(Int))×((fk.D))))
def Wh.E5 (x:Wh.TJ):Option (Wh.TJ⊕Wh.agE):=
 let Jm:=x.1.1
 let An:=x.1.2.2.2
 let z7:=x.2.1
 let NF:=x.2.2
 bif decide (Jm<An) then
  let zq:an.D:=List.getD NF.2.1 (Int.toNat Jm) (0,[],0,[],())
  bif iy [decide (0≤Jm),decide (Jm<(↑(List.length NF.2.1):Int))] then
   bif(zq.2.2.1==z7.2.2.1) then
    some (.inr (.inl (false,())))
   else
    some (.inl (((IntKind.wrap .i64 (Jm+1)),(),(),An),z7,NF))
  else none
 else
  some (.inr (.inr (((),An),NF)))
def Wh.aac:(((Bool))×(Unit))⊕(((Unit)×(Int))×((fk.D))):=.inl default
abbrev Wh.TH:Type:=((Unit)×(Int))×((fk.D))
abbrev Wh.agD:Type:=((((Bool))×(Unit))⊕(((Unit))×((fk.D))))
def Wh.DJ (x:Wh.TH):Option (Wh.TH⊕Wh.agD):=
 let A_:=x.1.2
 let yy:=x.2
 let Kj:Int:=(↑(List.length yy.2.1):Int)
 bif decide (A_<Kj) then
  let Dm:an.D:=List.getD yy.2.1 (Int.toNat A_) (0,[],0,[],())
  bif iy [decide (0≤A_),decide (A_<Kj)] then
   let J9:=Wh.DQ Dm
   let OD:=Wh.nS (Dm.2.2.1,1,yy.1)
   let r_46:=Wh.N7 (List.getD yy.2.1 (Int.toNat (IntKind.wrap .i64 (A_-1))) (0,[],0,[],()),Dm.1,Dm.2.1)
   let v_47:=bif bif !J9.1 then true else !OD.1 then true else bif decide (A_>0) then !r_46.1 else false
   bif iy [!(decide (A_>0) && !bif !J9.1 then true else !OD.1) || nQ (Wh.GF (List.getD yy.2.1 (Int.toNat (IntKind.wrap .i64 (A_-1))) (0,[],0,[],()),Dm.1,Dm.2.1)),!(decide (A_>0) && !bif !J9.1 then true else !OD.1) || decide (0≤IntKind.wrap .i64 (A_-1)),!(decide (A_>0) && !bif !J9.1 then true else !OD.1) || decide (IntKind.wrap .i64 (A_-1)<Kj),!!!J9.1 || nQ (Wh.xe (Dm.2.2.1,1,yy.1)),nQ (Wh.B_ Dm)] then
    bif v_47 then
     some (.inr (.inl (false,())))
    else
     let FJ:Wh.TJ:=((0,(),(),A_),Dm,yy)
     bif lF Wh.E5 FJ then
      sumC (kG Wh.E5 Wh.aac FJ) (fun FO=>
       let zb:=FO.1
       some (.inr (.inl (zb,())))) (fun O4=>
       let i_52:=O4.1.2
       let ls_53:=O4.2
       some (.inl (((),(IntKind.wrap .i64 (i_52+1))),ls_53)))
     else none
   else none
  else none
 else
  some (.inr (.inr ((),yy)))
def Wh.aab:(((Bool))×(Unit))⊕(((Unit))×((fk.D))):=.inl default
def Wh.E4 (xs:(fk.D)):Option (((Bool))×(Unit)):=
 let fe:fk.D:=xs
 let r_1:=Wh.nS (fe.1,0,99999)
 let v_2:=bif !r_1.1 then true else decide ((↑(List.length fe.2.1):Int)>8)
 bif iy [nQ (Wh.xe (fe.1,0,99999))] then
  bif v_2 then
   some (false,())
  else
   let Kx:Wh.TH:=(((),0),fe)
   bif lF Wh.DJ Kx then
    sumC (kG Wh.DJ Wh.aab Kx) (fun y_56=>
     let Aw:=y_56.1
     some (Aw,())) (fun z_57=>
     let ls_59:=z_57.2
     let x_72:Wh.TK:=((0,()),ls_59)
     bif lF Wh.GR x_72 then
      sumC (kG Wh.GR Wh.aad x_72) (fun y_73=>
       let v_75:=y_73.1
       some (v_75,())) (fun _=>
       some (true,()))
     else none)
   else none
 else none
def Wh.Oe:=bx Wh.E4
theorem Wh.Ii:OV Wh.E4 Wh.Oe:=e_ _
abbrev Wh.T9:Type:=((Int)×(List UInt8)×(Unit)×(Int))×((fk.D))
abbrev Wh.agR:Type:=((((Int))×(Unit))⊕((Unit)×(Unit)))
def Wh.DP (x:Wh.T9):Option (Wh.T9⊕Wh.agR):=
 let zc:=x.1.1
 let YS:=x.1.2.1
 let Ny:=x.1.2.2.2
 let xb:=x.2
 let ov:Int:=(↑(List.length xb.2.1):Int)
 bif decide (zc<ov) then
  let n5:an.D:=List.getD xb.2.1 (Int.toNat zc) (0,[],0,[],())
  let zQ:=bif n5.1==Ny then n5.2.1==YS else false
  bif iy [!n5.1==Ny || decide (0≤zc),!n5.1==Ny || decide (zc<ov),decide (0≤zc),decide (zc<ov)] then
   bif zQ then
    some (.inr (.inl (zc,())))
   else
    some (.inl (((IntKind.wrap .i64 (zc+1)),YS,(),Ny),xb))
  else none
 else
  some (.inr (.inr ((),())))
def Wh.aas:(((Int))×(Unit))⊕((Unit)×(Unit)):=.inl default
def Wh.B9 (xs:(fk.D)×(Int)×(List UInt8)):Option (((Int))×(Unit)):=
 let fe:=xs.1
 let xY:=xs.2.1
 let yS:=xs.2.2
 let x_25:Wh.T9:=((0,yS,(),xY),fe)
 bif lF Wh.DP x_25 then
  sumC (kG Wh.DP Wh.aas x_25) (fun yY=>
   let wX:=yY.1
   some (wX,())) (fun _=>
   some (-1,()))
 else none
def Wh.Om:=bx Wh.B9
theorem Wh.JU:OV Wh.B9 Wh.Om:=e_ _
def Wh.CK (xs:(fk.D)):Option ((((Int)×((List (an.D))×(Unit))))×(Unit)):=
 let fe:fk.D:=xs
 let y6:List (an.D):=[]++fe.2.1
 bif iy [decide ((0:Nat)+List.length fe.2.1≤dh)] then
  some ((fe.1,y6,fe.2.2),())
 else none
def Wh.Ig:=bx Wh.CK
theorem Wh.JK:OV Wh.CK Wh.Ig:=e_ _
def Wh.GG (xs:(fk.D)×(Int)):Option ((((Int)×((List (an.D))×(Unit))))×(Unit)):=
 let fe:=xs.1
 let k_1:=xs.2
 let pb_2:List (an.D):=[]++List.take (Int.toNat (k_1-0)) (List.drop (Int.toNat 0) fe.2.1)
 let pb_3:List (an.D):=pb_2++List.take (Int.toNat ((↑(List.length fe.2.1):Int)-IntKind.wrap .i64 (k_1+1))) (List.drop (Int.toNat (IntKind.wrap .i64 (k_1+1))) fe.2.1)
 let xU:List (an.D):=List.take (Int.toNat (k_1-0)) (List.drop (Int.toNat 0) fe.2.1)
 let yw:=IntKind.wrap .i64 (k_1+1)
 bif iy [decide (List.length pb_2+List.length (List.take (Int.toNat ((↑(List.length fe.2.1):Int)-yw)) (List.drop (Int.toNat yw) fe.2.1))≤dh),decide (0≤yw),decide (yw≤(↑(List.length fe.2.1):Int)),decide ((↑(List.length fe.2.1):Int)≤(↑(List.length fe.2.1):Int)),decide ((0:Nat)+List.length xU≤dh),true,decide (0≤k_1),decide (k_1≤(↑(List.length fe.2.1):Int))] then
  some ((fe.1,pb_3,()),())
 else none
def Wh.Tl:=bx Wh.GG
theorem Wh.ZT:OV Wh.GG Wh.Tl:=e_ _
def Wh.EM (xs:(fk.D)×(Int)×(List UInt8)):Option ((((Int)×((List (an.D))×(Unit)))×(Int))×(Unit)):=
 let fe:=xs.1
 let xY:=xs.2.1
 let yS:=xs.2.2
 let r_3:=Wh.Oe fe
 bif iy [nQ (Wh.E4 fe)] then
  bif !r_3.1 then
   some (((0,[],()),1),())
  else
   let nE:=Wh.Om (fe,xY,yS)
   bif iy [nQ (Wh.B9 (fe,xY,yS))] then
    bif decide (nE.1<0) then
     let yz:=Wh.Ig fe
     bif iy [nQ (Wh.CK fe)] then
      some ((yz.1,3),())
     else none
    else
     let A5:=Wh.Tl (fe,nE.1)
     bif iy [nQ (Wh.GG (fe,nE.1))] then
      some ((A5.1,0),())
     else none
   else none
 else none
def Wh.NW:=bx Wh.EM
theorem Wh.Zb:OV Wh.EM Wh.NW:=e_ _
abbrev Wh.T4:Type:=((Int)×(Unit)×(Unit)×(Unit))×(((Int)×((Unit)×(Unit)))×(fk.D)×(an.D)×(List (an.D)))
abbrev Wh.agP:Type:=((((Unit)×(Int)×(Unit)×(Unit))×(((Int)×((Unit)×(Unit)))×(fk.D)×(an.D)×(List (an.D)))))
def Wh.DO (x:Wh.T4):Option (Wh.T4⊕Wh.agP):=
 let Cs:=x.1.1
 let yM:=x.2.1.1
 let BF:=x.2.1.2.2
 let xb:=x.2.2.1
 let w9:=(x.2.2.2).1
 let yu:=x.2.2.2.2
 let n5:Int:=(↑(List.length xb.2.1):Int)
 let x6:=Wh.N7 (List.getD xb.2.1 (Int.toNat Cs) (0,[],0,[],()),w9.1,w9.2.1)
 let yD:=bif decide (Cs<n5) then x6.1 else false
 bif iy [!decide (Cs<n5) || nQ (Wh.GF (List.getD xb.2.1 (Int.toNat Cs) (0,[],0,[],()),w9.1,w9.2.1)),!decide (Cs<n5) || decide (0≤Cs),!decide (Cs<n5) || decide (Cs<n5)] then
  bif yD then
   some (.inl (((IntKind.wrap .i64 (Cs+1)),(),(),()),(yM,(),BF),xb,w9,yu))
  else
   some (.inr (((),Cs,(),()),(yM,(),BF),xb,w9,yu))
 else none
def Wh.aao:(((Unit)×(Int)×(Unit)×(Unit))×(((Int)×((Unit)×(Unit)))×(fk.D)×(an.D)×(List (an.D)))):=default
def Wh.GW (xs:(fk.D)×(an.D)):Option ((((Int)×((List (an.D))×(Unit))))×(Unit)):=
 let fe:=xs.1
 let t_1:=xs.2
 let Ai:Wh.T4:=((0,(),(),()),(0,(),()),fe,t_1,[])
 bif lF Wh.DO Ai then
  let Bq:=kG Wh.DO Wh.aao Ai
  let Cu:=Bq.1.2.1
  let zK:=Bq.2.2.1
  let zo:=(Bq.2.2.2).1
  let NS:=IntKind.wrap .i64 (zK.1+1)
  let Sf:List (an.D):=[]++List.take (Int.toNat (Cu-0)) (List.drop (Int.toNat 0) zK.2.1)
  let NT:List (an.D):=[(zo.1,zo.2.1,NS,zo.2.2.2)]
  let pb_38:List (an.D):=Sf++NT++List.take (Int.toNat ((↑(List.length zK.2.1):Int)-Cu)) (List.drop (Int.toNat Cu) zK.2.1)
  let Kj:List (an.D):=List.take (Int.toNat (Cu-0)) (List.drop (Int.toNat 0) zK.2.1)
  let Av:List (an.D):=List.take (Int.toNat ((↑(List.length zK.2.1):Int)-Cu)) (List.drop (Int.toNat Cu) zK.2.1)
  bif iy [decide (List.length (Sf++NT)+List.length Av≤dh),decide (0≤Cu),decide (Cu≤(↑(List.length zK.2.1):Int)),decide ((↑(List.length zK.2.1):Int)≤(↑(List.length zK.2.1):Int)),decide (List.length Sf+(1:Nat)≤dh),decide ((0:Nat)+List.length Kj≤dh),true,decide (0≤Cu),decide (Cu≤(↑(List.length zK.2.1):Int))] then
   some ((NS,pb_38,()),())
  else none
 else none
def Wh.T3:=bx Wh.GW
theorem Wh.aap:OV Wh.GW Wh.T3:=e_ _
def Wh.DB (xs:(fk.D)×(Int)×(List UInt8)×(List UInt8)):Option ((((Int)×((List (an.D))×(Unit)))×(Int))×(Unit)):=
 let fe:=xs.1
 let xY:=xs.2.1
 let yS:=xs.2.2.1
 let CX:=xs.2.2.2
 let nE:=Wh.Oe fe
 bif iy [nQ (Wh.E4 fe)] then
  bif !nE.1 then
   some (((0,[],()),1),())
  else
   let xQ:=Wh.DQ (xY,yS,0,CX,())
   bif iy [nQ (Wh.B_ (xY,yS,0,CX,()))] then
    bif !xQ.1 then
     let yz:=Wh.Ig fe
     bif iy [nQ (Wh.CK fe)] then
      some ((yz.1,1),())
     else none
    else
     let A5:=Wh.Om (fe,xY,yS)
     bif iy [nQ (Wh.B9 (fe,xY,yS))] then
      bif decide (A5.1≥0) then
       let BK:=Wh.Ig fe
       bif iy [nQ (Wh.CK fe)] then
        some ((BK.1,2),())
       else none
      else
       let yU:Int:=(↑(List.length fe.2.1):Int)
       let Hh:=Wh.NX (fe.2.1,xY)
       let ov:=bif bif decide (yU≥8) then true else decide (fe.1≥99999) then true else decide (IntKind.wrap .i64 (Hh.1+(↑(List.length CX):Int))>500)
       bif iy [(!!bif decide (yU≥8) then true else decide (fe.1≥99999)) || nQ (Wh.ER (fe.2.1,xY))] then
        bif ov then
         let Hi:=Wh.Ig fe
         bif iy [nQ (Wh.CK fe)] then
          some ((Hi.1,4),())
         else none
        else
         let yT:=Wh.T3 (fe,xY,yS,0,CX,())
         bif iy [nQ (Wh.GW (fe,xY,yS,0,CX,()))] then
          some ((yT.1,0),())
         else none
       else none
     else none
   else none
 else none
def Wh.N3:=bx Wh.DB
theorem Wh.ZJ:OV Wh.DB Wh.N3:=e_ _
def Wh.DE (xs:(fk.D)×(List UInt8)):Option ((((Int)×((List (an.D))×(Unit)))×(Bool))×(Unit)):=
 let fe:=xs.1
 let s_1:=xs.2
 let r_2:=Wh.JI (s_1,0,58)
 bif iy [nQ (Wh.zD (s_1,0,58))] then
  bif decide (r_2.1<0) then
   some (((0,[],()),false),())
  else
   let nE:=Wh.S_ (List.take (Int.toNat (r_2.1-0)) (List.drop (Int.toNat 0) s_1),32)
   let yw:List UInt8:=List.take (Int.toNat (r_2.1-0)) (List.drop (Int.toNat 0) s_1)
   bif iy [nQ (Wh.DC (yw,32)),true,decide (0≤r_2.1),decide (r_2.1≤(↑(List.length s_1):Int))] then
    let zR:=IntKind.wrap .i64 (r_2.1+1)
    let Eh:List UInt8:=List.take (Int.toNat ((↑(List.length s_1):Int)-zR)) (List.drop (Int.toNat zR) s_1)
    bif iy [decide (0≤zR),decide (zR≤(↑(List.length s_1):Int)),decide ((↑(List.length s_1):Int)≤(↑(List.length s_1):Int))] then
     let x_:Int:=(↑(List.length nE.1):Int)
     let Ac:=Wh.JS (List.getD nE.1 (Int.toNat 0) [])
     let FA:=Wh.q42' (Ac.1,List.getD nE.1 (Int.toNat 1) [],Eh)
     let so:=bif x_ != 2 then true else !FA.1==s_1
     bif iy [!!x_ != 2 || nQ (Wh.q42 (Ac.1,List.getD nE.1 (Int.toNat 1) [],Eh)),!!x_ != 2 || decide ((0:Int)≤1),!!x_ != 2 || decide (1<x_),!!x_ != 2 || nQ (Wh.Bi (List.getD nE.1 (Int.toNat 0) [])),!!x_ != 2 || decide ((0:Int)≤0),!!x_ != 2 || decide (0<x_)] then
      bif so then
       some (((0,[],()),false),())
      else
       let xd:=Eh == []
       bif xd then
        let Hh:=Wh.NW (fe,Ac.1,List.getD nE.1 (Int.toNat 1) [])
        let nG:=List.getD nE.1 (Int.toNat 0) []
        let n5:=List.getD nE.1 (Int.toNat 1) []
        let r_30:=Wh.NW (fe,Ac.1,n5)
        bif iy [nQ (Wh.EM (fe,Ac.1,n5)),true,decide (1<x_),nQ (Wh.Bi nG),true,decide (0<x_)] then
         some (((Hh.1.1.1,(Hh.1.1.2).1,Hh.1.1.2.2),(r_30.1.2==0)),())
        else none
       else
        let xW:=Wh.N3 (fe,Ac.1,List.getD nE.1 (Int.toNat 1) [],Eh)
        let yJ:=List.getD nE.1 (Int.toNat 0) []
        let ym:=List.getD nE.1 (Int.toNat 1) []
        let r_46:=Wh.N3 (fe,Ac.1,ym,Eh)
        bif iy [nQ (Wh.DB (fe,Ac.1,ym,Eh)),true,decide (1<x_),nQ (Wh.Bi yJ),true,decide (0<x_)] then
         some (((xW.1.1.1,(xW.1.1.2).1,xW.1.1.2.2),(r_46.1.2==0)),())
        else none
     else none
    else none
   else none
 else none
def Wh.Tj:=bx Wh.DE
theorem Wh.Tk:OV Wh.DE Wh.Tj:=e_ _
abbrev Wh.TG:Type:=((Unit)×(Int)×(Unit)×(List (List UInt8)))×(((Int)×((Unit)×(Unit)))×((Int)×((Unit)×(Unit)))×(List (an.D))×(List (an.D)))
abbrev Wh.agC:Type:=((((Unit)×(Bool))×(((Int)×((Unit)×(Unit)))×(List (an.D))))⊕(((Unit)×(Unit))×(((Int)×((Unit)×(Unit)))×((Int)×((Unit)×(Unit)))×(List (an.D))×(List (an.D)))))
def Wh.DI (x:Wh.TG):Option (Wh.TG⊕Wh.agC):=
 let gv:=x.1.2.1
 let OJ:=x.1.2.2.2
 let xb:=x.2.1.1
 let w9:=x.2.1.2.2
 let yu:=x.2.2.1.1
 let zf:=(x.2.2.1).2.2
 let y4:=(x.2.2.2).1
 let zJ:=x.2.2.2.2
 let zQ:Int:=(↑(List.length OJ):Int)
 bif decide (gv<zQ) then
  let BL:=Wh.Tj ((yu,zJ,zf),List.getD OJ (Int.toNat gv) [])
  let xZ:=List.getD OJ (Int.toNat gv) []
  bif iy [nQ (Wh.DE ((yu,zJ,zf),xZ)),decide (0≤gv),decide (gv<zQ)] then
   bif(!BL.1.2) then
    some (.inr (.inl (((),false),(0,(),()),[])))
   else
    some (.inl (((),(IntKind.wrap .i64 (gv+1)),(),OJ),(xb,(),w9),(BL.1.1.1,(),BL.1.1.2.2),y4,(BL.1.1.2).1))
  else none
 else
  some (.inr (.inr (((),()),(xb,(),w9),(yu,(),zf),y4,zJ)))
def Wh.aaa:(((Unit)×(Bool))×(((Int)×((Unit)×(Unit)))×(List (an.D))))⊕(((Unit)×(Unit))×(((Int)×((Unit)×(Unit)))×((Int)×((Unit)×(Unit)))×(List (an.D))×(List (an.D)))):=.inl default
def Wh.CM (xs:(List (List UInt8))):Option ((((Int)×((List (an.D))×(Unit)))×(Bool))×(Unit)):=
 let OI:List (List UInt8):=xs
 let FH:Wh.TG:=(((),0,(),OI),(0,(),()),(0,(),()),[],[])
 bif lF Wh.DI FH then
  sumC (kG Wh.DI Wh.aaa FH) (fun FM=>
   let v_32:=FM.1.2
   let z8:=FM.2.1.1
   let ye:=FM.2.1.2.2
   let yB:=FM.2.2
   some (((z8,yB,ye),v_32),())) (fun Iv=>
   let yy:=Iv.2.2.1.1
   let zV:=(Iv.2.2.1).2.2
   let ls_41:=Iv.2.2.2.2
   some (((yy,ls_41,zV),true),()))
 else none
def Wh.JN:=bx Wh.CM
theorem Wh.Od:OV Wh.CM Wh.JN:=e_ _
def Wh.Gj (xs:(nC.D)):Option (((Bool))×(Unit)):=
 let fN:nC.D:=xs
 let r_1:=Wh.JJ (fN.2.2.1)
 bif iy [nQ (Wh.B7 (fN.2.2.1))] then
  let r_2:=Wh.JN r_1.1.1
  bif iy [nQ (Wh.CM r_1.1.1)] then
   some (r_2.1.2,())
  else none
 else none
def Wh.Sx:=bx Wh.Gj
theorem Wh.Zj:OV Wh.Gj Wh.Sx:=e_ _
abbrev Wh.Sw:Type:=((Int)×(Unit)×(Unit))×((fk.D)×(fk.D))
abbrev Wh.af8:Type:=((((Bool))×(Unit))⊕((Unit)×(Unit)))
def Wh.Du (x:Wh.Sw):Option (Wh.Sw⊕Wh.af8):=
 let Am:=x.1.1
 let x9:=x.2.1
 let yM:=x.2.2
 let tn:Int:=(↑(List.length yM.2.1):Int)
 bif decide (Am<tn) then
  let ov:an.D:=List.getD yM.2.1 (Int.toNat Am) (0,[],0,[],())
  let nG:an.D:=List.getD x9.2.1 (Int.toNat Am) (0,[],0,[],())
  bif iy [decide (0≤Am),decide (Am<(↑(List.length x9.2.1):Int)),decide (0≤Am),decide (Am<tn)] then
   bif(!(ov.1==nG.1&&(ov.2.1==nG.2.1&&(ov.2.2.1==nG.2.2.1&&((ov.2.2.2).1==(nG.2.2.2).1&&true))))) then
    some (.inr (.inl (false,())))
   else
    some (.inl (((IntKind.wrap .i64 (Am+1)),(),()),x9,yM))
  else none
 else
  some (.inr (.inr ((),())))
def Wh.Zh:(((Bool))×(Unit))⊕((Unit)×(Unit)):=.inl default
def Wh.Dt (xs:(fk.D)×(fk.D)):Option (((Bool))×(Unit)):=
 let bn:=xs.1
 let b_1:=xs.2
 let w8:=bif(bn.1 != b_1.1) then true else(↑(List.length bn.2.1):Int) != (↑(List.length b_1.2.1):Int)
 bif w8 then
  some (false,())
 else
  let x_22:Wh.Sw:=((0,(),()),b_1,bn)
  bif lF Wh.Du x_22 then
   sumC (kG Wh.Du Wh.Zh x_22) (fun y_23=>
    let zG:=y_23.1
    some (zG,())) (fun _=>
    some (true,()))
  else none
def Wh.Su:=bx Wh.Dt
theorem Wh.Zi:OV Wh.Dt Wh.Su:=e_ _
def Wh.E7 (xs:(ng.D)):Option (((Bool))×(Unit)):=
 let AO:ng.D:=xs
 bif(AO.2.1==0) then
  some ((AO.1==0&&(AO.2.1==0&&(AO.2.2.1==0&&((AO.2.2.2).1==0&&(AO.2.2.2.2.1==false&&true))))),())
 else
  let r_3:=Wh.nS (AO.1,0,1)
  let nE:=Wh.nS (AO.2.1,1,99999)
  let A5:=Wh.nS (AO.2.2.1,0,23)
  let BK:=Wh.nS ((AO.2.2.2).1,0,99999)
  let yh:=bif bif bif r_3.1 then nE.1 else false then A5.1 else false then BK.1 else false
  bif iy [(!bif bif r_3.1 then nE.1 else false then A5.1 else false) || nQ (Wh.xe ((AO.2.2.2).1,0,99999)),(!bif r_3.1 then nE.1 else false) || nQ (Wh.xe (AO.2.2.1,0,23)),!r_3.1 || nQ (Wh.xe (AO.2.1,1,99999)),nQ (Wh.xe (AO.1,0,1))] then
   some (yh,())
  else none
def Wh.TQ:=bx Wh.E7
theorem Wh.Og:OV Wh.E7 Wh.TQ:=e_ _
abbrev Wh.TP:Type:=((Int)×(Int)×(Int)×(Unit))×((n4.D))
abbrev Wh.agH:Type:=((((Int))×(Unit)))
def Wh.DL (x:Wh.TP):Option (Wh.TP⊕Wh.agH):=
 let gv:=x.1.1
 let Gd:=x.1.2.1
 let F2:=(x.1.2.2).1
 let w9:=x.2
 let nG:Int:=(↑(List.length w9.1):Int)
 bif decide (gv<nG) then
  let vN:ng.D:=List.getD w9.1 (Int.toNat gv) (0,0,0,0,false,())
  let yD:=bif decide (vN.2.1>0) then vN.1==F2 else false
  bif iy [!decide (vN.2.1>0) || decide (0≤gv),!decide (vN.2.1>0) || decide (gv<nG),decide (0≤gv),decide (gv<nG)] then
   bif yD then
    some (.inl (((IntKind.wrap .i64 (gv+1)),(IntKind.wrap .i64 (Gd+1)),F2,()),w9))
   else
    some (.inl (((IntKind.wrap .i64 (gv+1)),Gd,F2,()),w9))
  else none
 else
  some (.inr (Gd,()))
def Wh.aaf:(((Int))×(Unit)):=default
def Wh.GS (xs:(n4.D)×(Int)):Option (((Int))×(Unit)):=
 let vT:=xs.1
 let xY:=xs.2
 let Aj:Wh.TP:=((0,0,xY,()),vT)
 bif lF Wh.DL Aj then
  let zX:=kG Wh.DL Wh.aaf Aj
  let n_30:=zX.1
  some (n_30,())
 else none
def Wh.TN:=bx Wh.GS
theorem Wh.Ij:OV Wh.GS Wh.TN:=e_ _
abbrev Wh.S9:Type:=((Int)×(Unit))×((n4.D))
abbrev Wh.agr:Type:=((((Bool))×(Unit))⊕((Unit)×(Unit)))
def Wh.CH (x:Wh.S9):Option (Wh.S9⊕Wh.agr):=
 let h_67:=x.1.1
 let RT:=x.2
 bif decide (h_67<2) then
  let r_70:=Wh.TN (RT,h_67)
  bif iy [nQ (Wh.GS (RT,h_67))] then
   bif decide (r_70.1>5) then
    some (.inr (.inl (false,())))
   else
    some (.inl (((IntKind.wrap .i64 (h_67+1)),()),RT))
  else none
 else
  some (.inr (.inr ((),())))
def Wh.ZO:(((Bool))×(Unit))⊕((Unit)×(Unit)):=.inl default
abbrev Wh.S8:Type:=((Int)×(Unit)×(Int))×((n4.D))
abbrev Wh.agq:Type:=((((Bool))×(Unit))⊕(((Unit)×(Int))×((n4.D))))
def Wh.A4 (x:Wh.S8):Option (Wh.S8⊕Wh.agq):=
 let BB:=x.1.1
 let Cq:=x.1.2.2
 let AV:=x.2
 bif decide (BB<Cq) then
  let wX:ng.D:=List.getD AV.1 (Int.toNat Cq) (0,0,0,0,false,())
  let yE:=bif bif decide (wX.2.1>0) then wX.2.1==Prod.fst (Prod.snd (List.getD AV.1 (Int.toNat BB) (0,0,0,0,false,()))) else false then wX.2.2.1==Prod.fst (Prod.snd (Prod.snd (List.getD AV.1 (Int.toNat BB) (0,0,0,0,false,())))) else false
  bif iy [(!bif decide (wX.2.1>0) then wX.2.1==Prod.fst (Prod.snd (List.getD AV.1 (Int.toNat BB) (0,0,0,0,false,()))) else false) || decide (0≤BB),(!bif decide (wX.2.1>0) then wX.2.1==Prod.fst (Prod.snd (List.getD AV.1 (Int.toNat BB) (0,0,0,0,false,()))) else false) || decide (BB<(↑(List.length AV.1):Int)),(!bif decide (wX.2.1>0) then wX.2.1==Prod.fst (Prod.snd (List.getD AV.1 (Int.toNat BB) (0,0,0,0,false,()))) else false) || decide (0≤Cq),(!bif decide (wX.2.1>0) then wX.2.1==Prod.fst (Prod.snd (List.getD AV.1 (Int.toNat BB) (0,0,0,0,false,()))) else false) || decide (Cq<(↑(List.length AV.1):Int)),!decide (wX.2.1>0) || decide (0≤BB),!decide (wX.2.1>0) || decide (BB<(↑(List.length AV.1):Int)),!decide (wX.2.1>0) || decide (0≤Cq),!decide (wX.2.1>0) || decide (Cq<(↑(List.length AV.1):Int)),decide (0≤Cq),decide (Cq<(↑(List.length AV.1):Int))] then
   bif yE then
    some (.inr (.inl (false,())))
   else
    some (.inl (((IntKind.wrap .i64 (BB+1)),(),Cq),AV))
  else none
 else
  some (.inr (.inr (((),Cq),AV)))
def Wh.ZN:(((Bool))×(Unit))⊕(((Unit)×(Int))×((n4.D))):=.inl default
abbrev Wh.S7:Type:=((Unit)×(Int))×((n4.D))
abbrev Wh.agp:Type:=((((Bool))×(Unit))⊕(((Unit))×((n4.D))))
def Wh.CG (x:Wh.S7):Option (Wh.S7⊕Wh.agp):=
 let Jk:=x.1.2
 let H6:=x.2
 let v_44:Int:=(↑(List.length H6.1):Int)
 bif decide (Jk<v_44) then
  let OY:ng.D:=List.getD H6.1 (Int.toNat Jk) (0,0,0,0,false,())
  let r_48:=Wh.TQ OY
  bif iy [nQ (Wh.E7 OY),decide (0≤Jk),decide (Jk<v_44)] then
   bif !r_48.1 then
    some (.inr (.inl (false,())))
   else
    let x_49:Wh.S8:=((0,(),Jk),H6)
    bif lF Wh.A4 x_49 then
     sumC (kG Wh.A4 Wh.ZN x_49) (fun y_50=>
      let v_52:=y_50.1
      some (.inr (.inl (v_52,())))) (fun z_51=>
      let i_53:=z_51.1.2
      let RO:=z_51.2
      some (.inl (((),(IntKind.wrap .i64 (i_53+1))),RO)))
    else none
  else none
 else
  some (.inr (.inr ((),H6)))
def Wh.ZM:(((Bool))×(Unit))⊕(((Unit))×((n4.D))):=.inl default
def Wh.EU (xs:(n4.D)):Option (((Bool))×(Unit)):=
 let vT:n4.D:=xs
 let v_1:Int:=(↑(List.length vT.1):Int)
 let nE:=Wh.nS (vT.2.1,0,7)
 let yw:=bif v_1 != 8 then true else !nE.1
 bif iy [!!v_1 != 8 || nQ (Wh.xe (vT.2.1,0,7))] then
  bif yw then
   some (false,())
  else
   let x_56:Wh.S7:=(((),0),vT)
   bif lF Wh.CG x_56 then
    sumC (kG Wh.CG Wh.ZM x_56) (fun y_57=>
     let v_59:=y_57.1
     some (v_59,())) (fun z_58=>
     let ls_60:=z_58.2
     let Ky:Wh.S9:=((0,()),ls_60)
     bif lF Wh.CH Ky then
      sumC (kG Wh.CH Wh.ZO Ky) (fun y_74=>
       let v_76:=y_74.1
       some (v_76,())) (fun _=>
       some (true,()))
     else none)
   else none
 else none
def Wh.S6:=bx Wh.EU
theorem Wh.ZP:OV Wh.EU Wh.S6:=e_ _
abbrev Wh.Uu:Type:=((Unit)×(Int)×(Unit)×(Int))×(((Int)×((List UInt8)×((Int)×((List UInt8)×(Unit)))))×(fk.D))
abbrev Wh.ag5:Type:=((((Unit)×(Bool))×((an.D)))⊕(((Unit))×(((Int)×((List UInt8)×((Int)×((List UInt8)×(Unit))))))))
def Wh.D0 (x:Wh.Uu):Option (Wh.Uu⊕Wh.ag5):=
 let gv:=x.1.2.1
 let Jb:=x.1.2.2.2
 let xb:=x.2.1.1
 let w9:=(x.2.1.2).1
 let yu:=x.2.1.2.2.1
 let zf:=(x.2.1.2.2.2).1
 let y4:=(x.2.1.2.2.2).2
 let zJ:=x.2.2
 let zQ:Int:=(↑(List.length zJ.2.1):Int)
 bif decide (gv<zQ) then
  let zG:an.D:=List.getD zJ.2.1 (Int.toNat gv) (0,[],0,[],())
  bif iy [decide (0≤gv),decide (gv<zQ)] then
   bif(zG.2.2.1==Jb) then
    bif iy [decide (0≤gv),decide (gv<zQ)] then
     some (.inr (.inl (((),true),zG)))
    else none
   else
    some (.inl (((),(IntKind.wrap .i64 (gv+1)),(),Jb),(xb,w9,yu,zf,y4),zJ))
  else none
 else
  some (.inr (.inr ((),xb,w9,yu,zf,y4)))
def Wh.aaI:(((Unit)×(Bool))×((an.D)))⊕(((Unit))×(((Int)×((List UInt8)×((Int)×((List UInt8)×(Unit))))))):=.inl default
def Wh.q44 (xs:(fk.D)×(Int)):Option (((an.D)×(Bool))×(Unit)):=
 let fe:=xs.1
 let HO:=xs.2
 let Aj:Wh.Uu:=(((),0,(),HO),(0,[],0,[],()),fe)
 bif lF Wh.D0 Aj then
  sumC (kG Wh.D0 Wh.aaI Aj) (fun zX=>
   let v_31:=zX.1.2
   let zo:=zX.2
   some ((zo,v_31),())) (fun _=>
   some (((0,[],0,[],()),false),()))
 else none
def Wh.Oq:=bx Wh.q44
theorem Wh.Fk:OV Wh.q44 Wh.Oq:=e_ _
def Wh.q80 (xs:(Int)):Option (((Int))×(Unit)):=
 let Rc:=xs
 some ((Int.tmod Rc 2),())
def Wh.q80':=bx Wh.q80
theorem Wh.UW:OV Wh.q80 Wh.q80':=e_ _
abbrev Wh.Ut:Type:=((Int)×(Unit))×((nC.D))
abbrev Wh.ag4:Type:=((((Bool))×(Unit))⊕((Unit)×(Unit)))
def Wh.CQ (x:Wh.Ut):Option (Wh.Ut⊕Wh.ag4):=
 let yK:=x.1.1
 let AE:=x.2
 let yV:Int:=(↑(List.length ((AE.2.2.2.2.2).2.1)):Int)
 bif decide (yK<yV) then
  let yH:r5.D:=List.getD ((AE.2.2.2.2.2).2.1) (Int.toNat yK) (0,0,0,0,0,0,())
  bif iy [decide (0≤yK),decide (yK<yV)] then
   let xW:=Wh.nS (yH.1,0,3)
   let Cg:=Wh.nS (yH.2.1,1,99999)
   let Ef:=Wh.nS (yH.2.2.1,1,(AE.2.2.2).1.1)
   let Ae:=Wh.nS ((yH.2.2.2).1,0,9999)
   let J_:=Wh.nS (yH.2.2.2.2.1,0,3)
   let Hl:=Wh.nS ((yH.2.2.2.2.2).1,0,AE.2.1)
   let El:=bif bif bif bif bif bif !xW.1 then true else bif decide (yK>0) then decide (Prod.fst (List.getD ((AE.2.2.2.2.2).2.1) (Int.toNat (IntKind.wrap .i64 (yK-1))) (0,0,0,0,0,0,()))≥yH.1) else false then true else !Cg.1 then true else !Ef.1 then true else !Ae.1 then true else !J_.1 then true else !Hl.1
   bif iy [(!!bif bif bif bif bif !xW.1 then true else bif decide (yK>0) then decide (Prod.fst (List.getD ((AE.2.2.2.2.2).2.1) (Int.toNat (IntKind.wrap .i64 (yK-1))) (0,0,0,0,0,0,()))≥yH.1) else false then true else !Cg.1 then true else !Ef.1 then true else !Ae.1 then true else !J_.1) || nQ (Wh.xe ((yH.2.2.2.2.2).1,0,AE.2.1)),(!!bif bif bif bif !xW.1 then true else bif decide (yK>0) then decide (Prod.fst (List.getD ((AE.2.2.2.2.2).2.1) (Int.toNat (IntKind.wrap .i64 (yK-1))) (0,0,0,0,0,0,()))≥yH.1) else false then true else !Cg.1 then true else !Ef.1 then true else !Ae.1) || nQ (Wh.xe (yH.2.2.2.2.1,0,3)),(!!bif bif bif !xW.1 then true else bif decide (yK>0) then decide (Prod.fst (List.getD ((AE.2.2.2.2.2).2.1) (Int.toNat (IntKind.wrap .i64 (yK-1))) (0,0,0,0,0,0,()))≥yH.1) else false then true else !Cg.1 then true else !Ef.1) || nQ (Wh.xe ((yH.2.2.2).1,0,9999)),(!!bif bif !xW.1 then true else bif decide (yK>0) then decide (Prod.fst (List.getD ((AE.2.2.2.2.2).2.1) (Int.toNat (IntKind.wrap .i64 (yK-1))) (0,0,0,0,0,0,()))≥yH.1) else false then true else !Cg.1) || nQ (Wh.xe (yH.2.2.1,1,(AE.2.2.2).1.1)),(!!bif !xW.1 then true else bif decide (yK>0) then decide (Prod.fst (List.getD ((AE.2.2.2.2.2).2.1) (Int.toNat (IntKind.wrap .i64 (yK-1))) (0,0,0,0,0,0,()))≥yH.1) else false) || nQ (Wh.xe (yH.2.1,1,99999)),!(decide (yK>0) && !!xW.1) || decide (0≤IntKind.wrap .i64 (yK-1)),!(decide (yK>0) && !!xW.1) || decide (IntKind.wrap .i64 (yK-1)<yV),nQ (Wh.xe (yH.1,0,3))] then
    bif El then
     some (.inr (.inl (false,())))
    else
     let Ka:=Wh.Oq ((AE.2.2.2).1,yH.2.2.1)
     bif iy [nQ (Wh.q44 ((AE.2.2.2).1,yH.2.2.1))] then
      let r_50:=Wh.q80' yH.1
      let zb:=bif Ka.1.2 then Ka.1.1.1 != r_50.1 else false
      bif iy [!Ka.1.2 || nQ (Wh.q80 yH.1)] then
       bif zb then
        some (.inr (.inl (false,())))
       else
        some (.inl (((IntKind.wrap .i64 (yK+1)),()),AE))
      else none
     else none
   else none
  else none
 else
  some (.inr (.inr ((),())))
def Wh.aaH:(((Bool))×(Unit))⊕((Unit)×(Unit)):=.inl default
def Wh.q43 (xs:(nC.D)):Option (((Bool))×(Unit)):=
 let fN:nC.D:=xs
 let Kw:Wh.Ut:=((0,()),fN)
 bif lF Wh.CQ Kw then
  sumC (kG Wh.CQ Wh.aaH Kw) (fun y_54=>
   let Bp:=y_54.1
   some (Bp,())) (fun _=>
   some (true,()))
 else none
def Wh.q43':=bx Wh.q43
theorem Wh.q43_v:OV Wh.q43 Wh.q43':=e_ _
def Wh.z_ (xs:(r_.D)):Option (((Int))×(Unit)):=
 let vT:r_.D:=xs
 bif iy [vT.2.1 != 0] then
  some ((IntKind.wrap .i64 (Int.tdiv (IntKind.wrap .i64 ((IntKind.wrap .i64 (vT.1+vT.2.1))-1)) vT.2.1)),())
 else none
def Wh.y8:=bx Wh.z_
theorem Wh.CD:OV Wh.z_ Wh.y8:=e_ _
abbrev Wh.TZ:Type:=((Unit)×(Unit))×(((Int)×((Int)×((Unit)×((Unit)×(Unit)))))×((Int)×((Int)×((Unit)×((Unit)×(Unit)))))×(List (Int))×(List (Int))×(List (Int))×(List (Int)))
abbrev Wh.agN:Type:=((((Unit)×(Unit))×(((Int)×((Int)×((Unit)×((Unit)×(Unit)))))×((Int)×((Int)×((Unit)×((Unit)×(Unit)))))×(List (Int))×(List (Int))×(List (Int))×(List (Int)))))
def Wh.DN (x:Wh.TZ):Option (Wh.TZ⊕Wh.agN):=
 let x9:=x.2.1.1
 let yM:=(x.2.1.2).1
 let BF:=(x.2.1.2.2.2).2
 let xb:=x.2.2.1.1
 let w9:=(x.2.2.1).2.1
 let yu:=(x.2.2.1).2.2.2.2
 let zf:=(x.2.2.2).1
 let y4:=x.2.2.2.2.1
 let zJ:=(x.2.2.2.2.2).1
 let zg:=(x.2.2.2.2.2).2
 let r_24:=Wh.y8 (x9,yM,zf,y4,BF)
 bif iy [nQ (Wh.z_ (x9,yM,zf,y4,BF))] then
  bif decide (r_24.1>24) then
   some (.inl (((),()),(x9,(IntKind.wrap .i64 (yM+1)),(),(),BF),(xb,w9,(),(),yu),zf,y4,zJ,zg))
  else
   some (.inr (((),()),(xb,w9,(),(),yu),(x9,yM,(),(),BF),zJ,zg,zf,y4))
 else none
def Wh.aam:(((Unit)×(Unit))×(((Int)×((Int)×((Unit)×((Unit)×(Unit)))))×((Int)×((Int)×((Unit)×((Unit)×(Unit)))))×(List (Int))×(List (Int))×(List (Int))×(List (Int)))):=default
def Wh.Fc (xs:(Int)):Option ((((Int)×((Int)×((List (Int))×((List (Int))×(Unit))))))×(Unit)):=
 let Jp:=xs
 let Kq:Wh.TZ:=(((),()),(Jp,8,(),(),()),(0,0,(),(),()),[],[],[],[])
 bif lF Wh.DN Kq then
  let Hz:=kG Wh.DN Wh.aam Kq
  let zo:=Hz.2.2.1.1
  let z8:=(Hz.2.2.1).2.1
  let ye:=(Hz.2.2.1).2.2.2.2
  let NG:=(Hz.2.2.2.2.2).1
  let yy:=(Hz.2.2.2.2.2).2
  let As:=Wh.y8 (zo,z8,NG,yy,ye)
  bif iy [nQ (Wh.z_ (zo,z8,NG,yy,ye))] then
   let k_42:=IntKind.wrap .i64 (Int.tdiv (IntKind.wrap .i64 (As.1+3)) 4)
   bif decide (k_42<As.1) then
    let pb_44:List Int:=[k_42,As.1]
    some ((zo,z8,pb_44,[(2:Int),3],ye),())
   else
    let Sg:List Int:=[As.1]
    some ((zo,z8,Sg,[(1:Int)],ye),())
  else none
 else none
def Wh.JR:=bx Wh.Fc
theorem Wh.Ok:OV Wh.Fc Wh.JR:=e_ _
def Wh.q76 (xs:(nI.D)):Option (((Bool))×(Unit)):=
 let y2:nI.D:=xs
 let r_1:=Wh.nS (y2.2.1,0,99999)
 let r_2:=Wh.nS (y2.1,0,y2.2.1)
 let xQ:=Wh.nS (y2.2.2.1,0,99999)
 let yN:=Wh.nS ((y2.2.2.2).1,0,99999)
 let yC:=bif bif bif r_1.1 then r_2.1 else false then xQ.1 else false then yN.1 else false
 bif iy [(!bif bif r_1.1 then r_2.1 else false then xQ.1 else false) || nQ (Wh.xe ((y2.2.2.2).1,0,99999)),(!bif r_1.1 then r_2.1 else false) || nQ (Wh.xe (y2.2.2.1,0,99999)),!r_1.1 || nQ (Wh.xe (y2.1,0,y2.2.1)),nQ (Wh.xe (y2.2.1,0,99999))] then
  some (yC,())
 else none
def Wh.q76':=bx Wh.q76
theorem Wh.q76_v:OV Wh.q76 Wh.q76':=e_ _
abbrev Wh.UQ:Type:=((Int)×(Unit))×((nC.D))
abbrev Wh.ahm:Type:=((((Bool))×(Unit))⊕((Unit)×(Unit)))
def Wh.D5 (x:Wh.UQ):Option (Wh.UQ⊕Wh.ahm):=
 let h_80:=x.1.1
 let NH:=x.2
 let v_82:Int:=(↑(List.length ((NH.2.2.2.2.2).1)):Int)
 bif decide (h_80<v_82) then
  let Jw:nI.D:=List.getD ((NH.2.2.2.2.2).1) (Int.toNat h_80) (0,0,0,0,())
  bif iy [decide (0≤h_80),decide (h_80<v_82)] then
   let r_85:=Wh.q76' Jw
   let O2:=bif bif bif !r_85.1 then true else Jw.2.1 != 40 then true else Jw.2.2.1 != 8 then true else decide ((Jw.2.2.2).1>NH.2.1)
   bif iy [nQ (Wh.q76 Jw)] then
    bif O2 then
     some (.inr (.inl (false,())))
    else
     some (.inl (((IntKind.wrap .i64 (h_80+1)),()),NH))
   else none
  else none
 else
  some (.inr (.inr ((),())))
def Wh.aa0:(((Bool))×(Unit))⊕((Unit)×(Unit)):=.inl default
abbrev Wh.UP:Type:=((Int)×(Unit))×((nC.D))
abbrev Wh.ahl:Type:=((((Bool))×(Unit))⊕(((Unit))×((nC.D))))
def Wh.Bk (x:Wh.UP):Option (Wh.UP⊕Wh.ahl):=
 let AU:=x.1.1
 let Gc:=x.2
 let zb:Int:=(↑(List.length ((Gc.2.2.2.2.1).1)):Int)
 bif decide (AU<zb) then
  let zj:=Wh.Oq ((Gc.2.2.2).1,Prod.fst (Prod.snd (List.getD ((Gc.2.2.2.2.1).1) (Int.toNat AU) (0,0,0,0,false,()))))
  let xV:ng.D:=List.getD ((Gc.2.2.2.2.1).1) (Int.toNat AU) (0,0,0,0,false,())
  bif iy [nQ (Wh.q44 ((Gc.2.2.2).1,xV.2.1)),decide (0≤AU),decide (AU<zb)] then
   let BO:=Wh.JR (↑(List.length ((zj.1.1.2.2.2).1)):Int)
   let r_60:=Wh.y8 (BO.1.1,BO.1.2.1,bif(!bif !zj.1.2 then true else zj.1.1.1 != xV.1)&&(decide (xV.2.1>0) && !decide ((xV.2.2.2).1>0)) then(BO.1.2.2).1 else [],bif(!bif !zj.1.2 then true else zj.1.1.1 != xV.1)&&(decide (xV.2.1>0) && !decide ((xV.2.2.2).1>0)) then BO.1.2.2.2.1 else [],BO.1.2.2.2.2)
   let Ir:=bif decide ((xV.2.2.2).1>0) then true else bif decide (xV.2.1>0) then bif bif !zj.1.2 then true else zj.1.1.1 != xV.1 then true else decide (xV.2.2.1≥r_60.1) else false
   bif iy [!((!bif !zj.1.2 then true else zj.1.1.1 != xV.1)&&(decide (xV.2.1>0) && !decide ((xV.2.2.2).1>0))) || nQ (Wh.z_ (BO.1.1,BO.1.2.1,bif(!bif !zj.1.2 then true else zj.1.1.1 != xV.1)&&(decide (xV.2.1>0) && !decide ((xV.2.2.2).1>0)) then(BO.1.2.2).1 else [],bif(!bif !zj.1.2 then true else zj.1.1.1 != xV.1)&&(decide (xV.2.1>0) && !decide ((xV.2.2.2).1>0)) then BO.1.2.2.2.1 else [],BO.1.2.2.2.2)),!((!bif !zj.1.2 then true else zj.1.1.1 != xV.1)&&(decide (xV.2.1>0) && !decide ((xV.2.2.2).1>0))) || nQ (Wh.Fc (↑(List.length ((zj.1.1.2.2.2).1)):Int)),!((!bif !zj.1.2 then true else zj.1.1.1 != xV.1)&&(decide (xV.2.1>0) && !decide ((xV.2.2.2).1>0))) || decide (0≤AU),!((!bif !zj.1.2 then true else zj.1.1.1 != xV.1)&&(decide (xV.2.1>0) && !decide ((xV.2.2.2).1>0))) || decide (AU<zb),!(!!zj.1.2&&(decide (xV.2.1>0) && !decide ((xV.2.2.2).1>0))) || decide (0≤AU),!(!!zj.1.2&&(decide (xV.2.1>0) && !decide ((xV.2.2.2).1>0))) || decide (AU<zb),!!decide ((xV.2.2.2).1>0) || decide (0≤AU),!!decide ((xV.2.2.2).1>0) || decide (AU<zb),decide (0≤AU),decide (AU<zb)] then
    bif Ir then
     some (.inr (.inl (false,())))
    else
     some (.inl (((IntKind.wrap .i64 (AU+1)),()),Gc))
   else none
  else none
 else
  some (.inr (.inr ((),Gc)))
def Wh.aaZ:(((Bool))×(Unit))⊕(((Unit))×((nC.D))):=.inl default
def Wh.q78 (xs:(nC.D)):Option (((Bool))×(Unit)):=
 let fN:nC.D:=xs
 let r_1:=Wh.nS (fN.2.1,0,99999)
 let v_2:=bif !r_1.1 then true else decide ((↑(List.length (fN.2.2.1)):Int)>9000)
 bif iy [nQ (Wh.xe (fN.2.1,0,99999))] then
  bif v_2 then
   some (false,())
  else
   bif(!fN.1) then
    let xU:Int:=(↑(List.length ((fN.2.2.2).1.2.1)):Int)
    let Ad:=Wh.Sx fN
    let nG:=bif bif bif bif bif bif xU==0 then(fN.2.2.2).1.1==0 else false then(↑(List.length ((fN.2.2.2.2.1).1)):Int)==0 else false then(fN.2.2.2.2.1).2.1==0 else false then(↑(List.length ((fN.2.2.2.2.2).1)):Int)==0 else false then(↑(List.length ((fN.2.2.2.2.2).2.1)):Int)==0 else false then Ad.1 else false
    bif iy [(!bif bif bif bif bif xU==0 then(fN.2.2.2).1.1==0 else false then(↑(List.length ((fN.2.2.2.2.1).1)):Int)==0 else false then(fN.2.2.2.2.1).2.1==0 else false then(↑(List.length ((fN.2.2.2.2.2).1)):Int)==0 else false then(↑(List.length ((fN.2.2.2.2.2).2.1)):Int)==0 else false) || nQ (Wh.Gj fN)] then
     some (nG,())
    else none
   else
    let yT:=Wh.JJ (fN.2.2.1)
    bif iy [nQ (Wh.B7 (fN.2.2.1))] then
     let Bl:=Wh.JN yT.1.1
     bif iy [nQ (Wh.CM yT.1.1)] then
      let za:= !Bl.1.2
      let BL:=Wh.Su (Bl.1.1,(fN.2.2.2).1)
      let OC:=Wh.S6 (fN.2.2.2.2.1)
      let BN:=Wh.q43' fN
      let v_34:=bif bif bif bif bif za then true else yT.1.2 != (↑(List.length (fN.2.2.1)):Int) then true else !BL.1 then true else !OC.1 then true else(↑(List.length ((fN.2.2.2.2.2).1)):Int) != 2 then true else !BN.1
      bif iy [(!!bif bif bif bif za then true else yT.1.2 != (↑(List.length (fN.2.2.1)):Int) then true else !BL.1 then true else !OC.1 then true else(↑(List.length ((fN.2.2.2.2.2).1)):Int) != 2) || nQ (Wh.q43 fN),(!!bif bif za then true else yT.1.2 != (↑(List.length (fN.2.2.1)):Int) then true else !BL.1) || nQ (Wh.EU (fN.2.2.2.2.1)),(!!bif za then true else yT.1.2 != (↑(List.length (fN.2.2.1)):Int)) || nQ (Wh.Dt (Bl.1.1,(fN.2.2.2).1))] then
       bif v_34 then
        some (false,())
       else
        let x_63:Wh.UP:=((0,()),fN)
        bif lF Wh.Bk x_63 then
         sumC (kG Wh.Bk Wh.aaZ x_63) (fun y_64=>
          let v_66:=y_64.1
          some (v_66,())) (fun z_65=>
          let Jr:=z_65.2
          let x_92:Wh.UQ:=((0,()),Jr)
          bif lF Wh.D5 x_92 then
           sumC (kG Wh.D5 Wh.aa0 x_92) (fun y_93=>
            let v_95:=y_93.1
            some (v_95,())) (fun _=>
            some (true,()))
          else none)
        else none
      else none
     else none
    else none
 else none
def Wh.q78':=bx Wh.q78
theorem Wh.UR:OV Wh.q78 Wh.q78':=e_ _
def Wh.xR (xs:(Int)×(Int)×(Int)):Option (((Bool))×(Unit)):=
 let yR:=xs.1
 let RC:=xs.2.1
 let Ru:=xs.2.2
 let yw:=bif decide (yR≥RC) then decide (yR≤Ru) else false
 some (yw,())
def Wh.n_:=bx Wh.xR
theorem Wh.zL:OV Wh.xR Wh.n_:=e_ _
def Wh.AH (xs:(Int)×(Int)):Option (((Int))×(Unit)):=
 let yO:=xs.1
 let by_1:=xs.2
 let v_2:Int:=Int.fdiv yO (2 ^ Min.min (Int.toNat by_1) (Go.IntKind.bits Go.IntKind.u32))
 let w8:=IntKind.wrap .i64 (32-by_1)
 let zR:Int:=nj Go.BinOp.or Go.IntKind.u32 v_2 (IntKind.wrap .u32 (yO*2 ^ Min.min (Int.toNat w8) (Go.IntKind.bits Go.IntKind.u32)))
 bif iy [decide (0≤w8),decide (0≤by_1)] then
  some (zR,())
 else none
def Wh.Bf:=bx Wh.AH
theorem Wh.q119_v:OV Wh.AH Wh.Bf:=e_ _
abbrev Wh.UI:Type:=((Int)×(Unit)×(List (Int)))×((List (Int)))
abbrev Wh.ahg:Type:=((((Unit))×((List (Int)))))
def Wh.J2 (x:Wh.UI):Option (Wh.UI⊕Wh.ahg):=
 let Kk:=x.1.1
 let v_572:=x.1.2.2
 let RP:=x.2
 bif decide (Kk<8) then
  let O0:=List.getD v_572 (Int.toNat Kk) 0
  bif iy [decide (0≤Kk),decide (Kk<(↑(nat_lit 8):Int))] then
   let pb_576:List Int:=[IntKind.wrap .u8 (Int.fdiv O0 (2 ^ Min.min (Int.toNat 24) (Go.IntKind.bits Go.IntKind.u32))),IntKind.wrap .u8 (Int.fdiv O0 (2 ^ Min.min (Int.toNat 16) (Go.IntKind.bits Go.IntKind.u32))),IntKind.wrap .u8 (Int.fdiv O0 (2 ^ Min.min (Int.toNat 8) (Go.IntKind.bits Go.IntKind.u32))),IntKind.wrap .u8 O0]
   let ls_577:=RP++pb_576
   bif iy [decide (List.length RP+(4:Nat)≤dh),true,true,true] then
    some (.inl (((IntKind.wrap .i64 (Kk+1)),(),v_572),ls_577))
   else none
  else none
 else
  some (.inr ((),RP))
def Wh.aaU:(((Unit))×((List (Int)))):=default
abbrev Wh.UH:Type:=((Int)×(Unit)×(Unit)×(Nat×Nat))×((List (Int))×(List (Int))×(List (Int)))
abbrev Wh.ahf:Type:=((((Unit)×(Nat×Nat))×((List (Int))×(List (Int)))))
def Wh.J1 (x:Wh.UH):Option (Wh.UH⊕Wh.ahf):=
 let Ck:=x.1.1
 let b_510:=x.1.2.2.2.1
 let b_511:=x.1.2.2.2.2
 let RN:=x.2.1
 let XO:=x.2.2.1
 let XP:=x.2.2.2
 bif decide (Ck<8) then
  let ls_516:=List.set RN (Int.toNat Ck) (IntKind.wrap .u32 (List.getD RN (Int.toNat Ck) 0+List.getD XO (Int.toNat Ck) 0))
  bif iy [decide (0≤Ck),decide (Ck<(↑(8:Nat):Int)),decide (0≤Ck),decide (Ck<(↑(8:Nat):Int)),decide (0≤Ck),decide (Ck<(↑(8:Nat):Int))] then
   some (.inl (((IntKind.wrap .i64 (Ck+1)),(),(),b_510,b_511),ls_516,XO,XP))
  else none
 else
  some (.inr (((),b_510,b_511),RN,XP))
def Wh.aaT:(((Unit)×(Nat×Nat))×((List (Int))×(List (Int)))):=default
abbrev Wh.UG:Type:=((Int)×(Unit)×(Unit)×(Unit)×(Nat×Nat))×((List (Int))×(List (Int))×(List (Int))×(List (Int)))
abbrev Wh.ahe:Type:=((((Unit)×(Unit)×(Nat×Nat))×((List (Int))×(List (Int))×(List (Int)))))
def Wh.G7 (x:Wh.UG):Option (Wh.UG⊕Wh.ahe):=
 let FG:=x.1.1
 let b_447:=(x.1.2.2.2.2).1
 let b_448:=(x.1.2.2.2.2).2
 let Dg:=x.2.1
 let XL:=x.2.2.1
 let XM:=(x.2.2.2).1
 let XN:=x.2.2.2.2
 bif decide (FG<64) then
  let Ej:=List.getD Dg (Int.toNat 4) 0
  let Ek:=List.getD Dg (Int.toNat 0) 0
  let v_456:=List.getD Dg (Int.toNat 7) 0
  let r_457:=Wh.Bf (Ej,6)
  let r_458:=Wh.Bf (Ej,11)
  let r_460:=Wh.Bf (Ej,25)
  let v_463:=List.getD Dg (Int.toNat 5) 0
  let v_464:=List.getD Dg (Int.toNat 6) 0
  let v_468:=List.getD Wh.BV (Int.toNat FG) 0
  let v_470:=List.getD XL (Int.toNat FG) 0
  let YX:=IntKind.wrap .u32 (IntKind.wrap .u32 (IntKind.wrap .u32 (IntKind.wrap .u32 (v_456+nj Go.BinOp.xor Go.IntKind.u32 (nj Go.BinOp.xor Go.IntKind.u32 r_457.1 r_458.1) r_460.1)+nj Go.BinOp.xor Go.IntKind.u32 (nj Go.BinOp.and Go.IntKind.u32 Ej v_463) (nj Go.BinOp.and Go.IntKind.u32 (nj Go.BinOp.xor Go.IntKind.u32 (Go.IntKind.max Go.IntKind.u32) Ej) v_464))+v_468)+v_470)
  bif iy [decide (0≤FG),decide (FG<(↑(64:Nat):Int)),decide (0≤FG),decide (FG<(↑(64:Nat):Int)),true,true,true,true,nQ (Wh.AH (Ej,25)),nQ (Wh.AH (Ej,11)),nQ (Wh.AH (Ej,6)),true,true] then
   let r_473:=Wh.Bf (Ek,2)
   let r_474:=Wh.Bf (Ek,13)
   let r_476:=Wh.Bf (Ek,22)
   let VA:=List.getD Dg (Int.toNat 1) 0
   let VB:=List.getD Dg (Int.toNat 2) 0
   bif iy [true,true,true,true,true,true,true,true,nQ (Wh.AH (Ek,22)),nQ (Wh.AH (Ek,13)),nQ (Wh.AH (Ek,2))] then
    let ls_484:List Int:=[IntKind.wrap .u32 (YX+(IntKind.wrap .u32 (nj Go.BinOp.xor Go.IntKind.u32 (nj Go.BinOp.xor Go.IntKind.u32 r_473.1 r_474.1) r_476.1+nj Go.BinOp.xor Go.IntKind.u32 (nj Go.BinOp.xor Go.IntKind.u32 (nj Go.BinOp.and Go.IntKind.u32 Ek VA) (nj Go.BinOp.and Go.IntKind.u32 Ek VB)) (nj Go.BinOp.and Go.IntKind.u32 VA VB)))),Ek,VA,VB,IntKind.wrap .u32 (List.getD Dg (Int.toNat 3) 0+YX),Ej,v_463,v_464]
    some (.inl (((IntKind.wrap .i64 (FG+1)),(),(),(),b_447,b_448),ls_484,XL,XM,XN))
   else none
  else none
 else
  some (.inr (((),(),b_447,b_448),XM,Dg,XN))
def Wh.aaS:(((Unit)×(Unit)×(Nat×Nat))×((List (Int))×(List (Int))×(List (Int)))):=default
abbrev Wh.UF:Type:=((Int)×(Unit)×(Nat×Nat)×(Unit))×((List (Int))×(List (Int))×(List (Int)))
abbrev Wh.ahd:Type:=((((Unit)×(Unit)×(Nat×Nat))×((List (Int))×(List (Int))×(List (Int)))))
def Wh.Fp (x:Wh.UF):Option (Wh.UF⊕Wh.ahd):=
 let zu:=x.1.1
 let FU:=(x.1.2.2).1.1
 let FV:=(x.1.2.2).1.2
 let F_:=x.2.1
 let Ga:=x.2.2.1
 let RJ:=x.2.2.2
 bif decide (zu<64) then
  bif decide (zu<16) then
   let ls_346:=List.set F_ (Int.toNat zu) (nj Go.BinOp.or Go.IntKind.u32 (nj Go.BinOp.or Go.IntKind.u32 (nj Go.BinOp.or Go.IntKind.u32 (IntKind.wrap .u32 (IntKind.wrap .u32 (List.getD Ga (FU+Int.toNat (IntKind.wrap .i64 (4*zu))) 0)*2 ^ Min.min (Int.toNat 24) (Go.IntKind.bits Go.IntKind.u32))) (IntKind.wrap .u32 (IntKind.wrap .u32 (List.getD Ga (FU+Int.toNat (IntKind.wrap .i64 (IntKind.wrap .i64 (4*zu)+1))) 0)*2 ^ Min.min (Int.toNat 16) (Go.IntKind.bits Go.IntKind.u32)))) (IntKind.wrap .u32 (IntKind.wrap .u32 (List.getD Ga (FU+Int.toNat (IntKind.wrap .i64 (IntKind.wrap .i64 (4*zu)+2))) 0)*2 ^ Min.min (Int.toNat 8) (Go.IntKind.bits Go.IntKind.u32)))) (IntKind.wrap .u32 (List.getD Ga (FU+Int.toNat (IntKind.wrap .i64 (IntKind.wrap .i64 (4*zu)+3))) 0)))
   let FE:=IntKind.wrap .i64 (4*zu)
   bif iy [decide (0≤zu),decide (zu<(↑(64:Nat):Int)),decide (0≤IntKind.wrap .i64 (FE+3)),decide (IntKind.wrap .i64 (FE+3)<(↑FV:Int)),true,decide (0≤IntKind.wrap .i64 (FE+2)),decide (IntKind.wrap .i64 (FE+2)<(↑FV:Int)),true,decide (0≤IntKind.wrap .i64 (FE+1)),decide (IntKind.wrap .i64 (FE+1)<(↑FV:Int)),true,decide (0≤FE),decide (FE<(↑FV:Int))] then
    some (.inl (((IntKind.wrap .i64 (zu+1)),(),(FU,FV),()),ls_346,Ga,RJ))
   else none
  else
   let Vy:=IntKind.wrap .i64 (zu-15)
   let Vz:=IntKind.wrap .i64 (zu-2)
   let Kr:=List.getD F_ (Int.toNat Vy) 0
   let KD:=List.getD F_ (Int.toNat Vz) 0
   bif iy [decide (0≤Vz),decide (Vz<(↑(64:Nat):Int)),decide (0≤Vy),decide (Vy<(↑(64:Nat):Int))] then
    let r_376:=Wh.Bf (Kr,7)
    let r_377:=Wh.Bf (Kr,18)
    let r_378:=Wh.Bf (KD,17)
    let r_379:=Wh.Bf (KD,19)
    let ls_380:=List.set F_ (Int.toNat zu) (IntKind.wrap .u32 (IntKind.wrap .u32 (IntKind.wrap .u32 (List.getD F_ (Int.toNat (IntKind.wrap .i64 (zu-16))) 0+List.getD F_ (Int.toNat (IntKind.wrap .i64 (zu-7))) 0)+nj Go.BinOp.xor Go.IntKind.u32 (nj Go.BinOp.xor Go.IntKind.u32 r_376.1 r_377.1) (Int.fdiv Kr (2 ^ Min.min (Int.toNat 3) (Go.IntKind.bits Go.IntKind.u32))))+nj Go.BinOp.xor Go.IntKind.u32 (nj Go.BinOp.xor Go.IntKind.u32 r_378.1 r_379.1) (Int.fdiv KD (2 ^ Min.min (Int.toNat 10) (Go.IntKind.bits Go.IntKind.u32)))))
    let v_381:=IntKind.wrap .i64 (zu-16)
    let v_383:=IntKind.wrap .i64 (zu-7)
    bif iy [decide (0≤zu),decide (zu<(↑(64:Nat):Int)),true,nQ (Wh.AH (KD,19)),nQ (Wh.AH (KD,17)),true,nQ (Wh.AH (Kr,18)),nQ (Wh.AH (Kr,7)),decide (0≤v_383),decide (v_383<(↑(64:Nat):Int)),decide (0≤v_381),decide (v_381<(↑(64:Nat):Int))] then
     some (.inl (((IntKind.wrap .i64 (zu+1)),(),(FU,FV),()),ls_380,Ga,RJ))
    else none
   else none
 else
  some (.inr (((),(),FU,FV),F_,RJ,Ga))
def Wh.aaR:(((Unit)×(Unit)×(Nat×Nat))×((List (Int))×(List (Int))×(List (Int)))):=default
abbrev Wh.UE:Type:=((Nat×Nat)×(Unit))×((List (Int))×(List (Int)))
abbrev Wh.ahc:Type:=((((Unit))×((List (Int)))))
def Wh.Fo (x:Wh.UE):Option (Wh.UE⊕Wh.ahc):=
 let b_529:=x.1.1.1
 let b_530:=x.1.1.2
 let ls_531:=x.2.1
 let XQ:=x.2.2
 bif decide ((↑b_530:Int)>0) then
  let pb_534:List Int:=[(0:Int),0,0,0,0,0,0,0,0,0,0,0,0,0,0,0,0,0,0,0,0,0,0,0,0,0,0,0,0,0,0,0,0,0,0,0,0,0,0,0,0,0,0,0,0,0,0,0,0,0,0,0,0,0,0,0,0,0,0,0,0,0,0,0]
  let x_535:Wh.UF:=((0,(),(b_529,b_530),()),pb_534,ls_531,XQ)
  bif lF Wh.Fp x_535 then
   let KE:=kG Wh.Fp Wh.aaR x_535
   let b_537:=(KE.1.2.2).1
   let b_538:=KE.1.2.2.2
   let ls_539:=KE.2.1
   let XR:=KE.2.2.1
   let ls_541:=KE.2.2.2
   let x_542:Wh.UG:=((0,(),(),(),b_537,b_538),XR,ls_539,XR,ls_541)
   bif lF Wh.G7 x_542 then
    let KF:=kG Wh.G7 Wh.aaS x_542
    let b_544:=(KF.1.2.2).1
    let b_545:=KF.1.2.2.2
    let ls_546:=KF.2.1
    let ls_547:=KF.2.2.1
    let ls_548:=KF.2.2.2
    let x_549:Wh.UH:=((0,(),(),b_544,b_545),ls_546,ls_547,ls_548)
    bif lF Wh.J1 x_549 then
     let O3:=kG Wh.J1 Wh.aaT x_549
     let b_551:=O3.1.2.1
     let Q_:=O3.1.2.2
     let ls_553:=O3.2.1
     let XS:=O3.2.2
     let v_555:Nat:=Int.toNat ((↑Q_:Int)-64)
     let v_556:Nat:=b_551+Int.toNat 64
     bif iy [true,decide (64≤(↑Q_:Int)),decide ((↑b_551:Int)+(↑Q_:Int)≤(↑(List.length XS):Int))] then
      some (.inl (((v_556,v_555),()),XS,ls_553))
     else none
    else none
   else none
  else none
 else
  some (.inr ((),XQ))
def Wh.aaQ:(((Unit))×((List (Int)))):=default
abbrev Wh.UD:Type:=((Int)×(Int)×(Unit)×(Unit))×((List (Int))×(List (Int)))
abbrev Wh.ahb:Type:=((((Unit)×(Unit))×((List (Int))×(List (Int)))))
def Wh.G6 (x:Wh.UD):Option (Wh.UD⊕Wh.ahb):=
 let Ni:=x.1.1
 let YP:=x.1.2.1
 let z8:=x.2.1
 let ye:=x.2.2
 bif decide (Ni≥0) then
  let NT:List Int:=[IntKind.wrap .u8 (Int.fdiv YP (2 ^ Min.min (Int.toNat Ni) (Go.IntKind.bits Go.IntKind.u64)))]
  let NG:=z8++NT
  bif iy [decide (List.length z8+(1:Nat)≤dh),decide (0≤Ni)] then
   some (.inl (((IntKind.wrap .i64 (Ni-8)),YP,(),()),NG,ye))
  else none
 else
  some (.inr (((),()),z8,ye))
def Wh.aaP:(((Unit)×(Unit))×((List (Int))×(List (Int)))):=default
abbrev Wh.UC:Type:=((Unit)×(Unit)×(List UInt8))×((List (Int))×(List (Int)))
abbrev Wh.aha:Type:=((((Unit)×(Unit)×(List UInt8))×((List (Int))×(List (Int)))))
def Wh.Fm (x:Wh.UC):Option (Wh.UC⊕Wh.aha):=
 let Eh:=x.1.2.2
 let NI:=x.2.1
 let EC:=x.2.2
 let yh:Bool:=(Int.tmod (↑(List.length NI):Int) 64) != 56
 bif yh then
  let ED:=NI ++ [(0:Int)]
  bif iy [decide (List.length NI+(1:Nat)≤dh)] then
   some (.inl (((),(),Eh),ED,EC))
  else none
 else
  some (.inr (((),(),Eh),NI,EC))
def Wh.aaO:(((Unit)×(Unit)×(List UInt8))×((List (Int))×(List (Int)))):=default
def Wh.q55 (xs:(List UInt8)):Option (((List UInt8))×(Unit)):=
 let y9:=xs
 let y6:List Int:=bytesOf y9 ++ [(128:Int)]
 bif iy [decide (List.length (bytesOf y9)+(1:Nat)≤dh),decide (List.length y9≤dh)] then
  let x_14:Wh.UC:=(((),(),y9),y6,[(1779033703:Int),3144134277,1013904242,2773480762,1359893119,2600822924,528734635,1541459225])
  bif lF Wh.Fm x_14 then
   let y_15:=kG Wh.Fm Wh.aaO x_14
   let aj8:=y_15.1.2.2
   let xb:=y_15.2.1
   let w9:=y_15.2.2
   let x_40:Wh.UD:=((56,(IntKind.wrap .u64 ((IntKind.wrap .u64 (↑(List.length aj8):Int))*8)),(),()),xb,w9)
   bif lF Wh.G6 x_40 then
    let y_41:=kG Wh.G6 Wh.aaP x_40
    let HZ:=y_41.2.1
    let H6:=y_41.2.2
    let x_557:Wh.UE:=((((0:Nat),List.length HZ),()),HZ,H6)
    bif lF Wh.Fo x_557 then
     let y_558:=kG Wh.Fo Wh.aaQ x_557
     let ls_559:=y_558.2
     let x_582:Wh.UI:=((0,(),ls_559),[])
     bif lF Wh.J2 x_582 then
      let y_583:=kG Wh.J2 Wh.aaU x_582
      let ls_584:=y_583.2
      some (qp ls_584,())
     else none
    else none
   else none
  else none
 else none
def Wh.q55':=bx Wh.q55
theorem Wh.q55_v:OV Wh.q55 Wh.q55':=e_ _
abbrev Wh.Tt:Type:=((Int)×(List UInt8)×(Unit))×((List (Int)))
abbrev Wh.agy:Type:=((((Unit))×((List (Int)))))
def Wh.Oa (x:Wh.Tt):Option (Wh.Tt⊕Wh.agy):=
 let F7:=x.1.1
 let Ch:=x.1.2.1
 let yM:=x.2
 let tn:=decide (F7<(↑(List.length Ch):Int))
 bif tn then
  let Gg:List Int:=[(↑(UInt8.toNat (List.getD [(48:UInt8),(49:UInt8),(50:UInt8),(51:UInt8),(52:UInt8),(53:UInt8),(54:UInt8),(55:UInt8),(56:UInt8),(57:UInt8),(97:UInt8),(98:UInt8),(99:UInt8),(100:UInt8),(101:UInt8),(102:UInt8)] (Int.toNat (IntKind.wrap .u8 (Int.tdiv (↑(UInt8.toNat (List.getD Ch (Int.toNat F7) (0:UInt8))):Int) 16))) (0:UInt8))):Int),(↑(UInt8.toNat (List.getD [(48:UInt8),(49:UInt8),(50:UInt8),(51:UInt8),(52:UInt8),(53:UInt8),(54:UInt8),(55:UInt8),(56:UInt8),(57:UInt8),(97:UInt8),(98:UInt8),(99:UInt8),(100:UInt8),(101:UInt8),(102:UInt8)] (Int.toNat (Int.tmod (↑(UInt8.toNat (List.getD Ch (Int.toNat F7) (0:UInt8))):Int) 16)) (0:UInt8))):Int)]
  let w9:=yM++Gg
  let nG:Int:=(↑(UInt8.toNat (List.getD Ch (Int.toNat F7) (0:UInt8))):Int)
  bif iy [decide (List.length yM+(2:Nat)≤dh),decide (0≤Int.tmod nG 16),decide (Int.tmod nG 16<(↑(16:Nat):Int)),true,decide (0≤F7),tn,decide (0≤IntKind.wrap .u8 (Int.tdiv nG 16)),decide (IntKind.wrap .u8 (Int.tdiv nG 16)<(↑(16:Nat):Int)),true,decide (0≤F7),tn] then
   some (.inl (((IntKind.wrap .i64 (F7+1)),Ch,()),w9))
  else none
 else
  some (.inr ((),yM))
def Wh.ZZ:(((Unit))×((List (Int)))):=default
def Wh.Ih (xs:(List UInt8)):Option (((List UInt8))×(Unit)):=
 let fN:=xs
 let x_25:Wh.Tt:=((0,fN,()),[])
 bif lF Wh.Oa x_25 then
  let yY:=kG Wh.Oa Wh.ZZ x_25
  let y5:=yY.2
  some (qp y5,())
 else none
def Wh.Ts:=bx Wh.Ih
theorem Wh.Z0:OV Wh.Ih Wh.Ts:=e_ _
def Wh.q85 (xs:(List UInt8)):Option (((List UInt8))×(Unit)):=
 let y9:=xs
 let r_1:=Wh.q55' y9
 let r_3:=Wh.Ts r_1.1
 bif iy [nQ (Wh.Ih r_1.1),nQ (Wh.q55 y9)] then
  some (r_3.1,())
 else none
def Wh.Fw:=bx Wh.q85
theorem Wh.q85_v:OV Wh.q85 Wh.Fw:=e_ _
def Wh.q91 (xs:(Int)×(List UInt8)):Option (((List UInt8))×(Unit)):=
 let yR:=xs.1
 let zE:=xs.2
 let r_2:=Wh.tJ yR
 let nE:=Wh.tJ (↑(List.length zE):Int)
 let AA:=r_2.1 ++ [(32:UInt8)]++nE.1 ++ [(32:UInt8)]
 bif iy [decide (List.length (r_2.1 ++ [(32:UInt8)]++nE.1)+(1:Nat)≤dh),decide (List.length (r_2.1 ++ [(32:UInt8)])+List.length nE.1≤dh),nQ (Wh.strconv_Itoa (↑(List.length zE):Int)),decide (List.length r_2.1+(1:Nat)≤dh),nQ (Wh.strconv_Itoa yR)] then
  let Ah:List UInt8:=AA++zE
  let yT:=Wh.Fw Ah
  let vN:List UInt8:=AA++List.take (Int.toNat ((16:Int)-0)) (List.drop (Int.toNat 0) yT.1) ++ [(32:UInt8)]++zE ++ [(10:UInt8)]
  bif iy [decide (List.length (AA++List.take (Int.toNat ((16:Int)-0)) (List.drop (Int.toNat 0) ((Wh.Fw Ah).1)) ++ [(32:UInt8)]++zE)+(1:Nat)≤dh),decide (List.length (AA++List.take (Int.toNat ((16:Int)-0)) (List.drop (Int.toNat 0) ((Wh.Fw Ah).1)) ++ [(32:UInt8)])+List.length zE≤dh),decide (List.length (AA++List.take (Int.toNat ((16:Int)-0)) (List.drop (Int.toNat 0) ((Wh.Fw Ah).1)))+(1:Nat)≤dh),decide (List.length AA+List.length (List.take (Int.toNat ((16:Int)-0)) (List.drop (Int.toNat 0) ((Wh.Fw Ah).1)))≤dh),true,true,decide (16≤(↑(List.length ((Wh.Fw Ah).1)):Int)),nQ (Wh.q85 Ah),decide (List.length AA+List.length zE≤dh)] then
   some (vN,())
  else none
 else none
def Wh.q91':=bx Wh.q91
theorem Wh.Va:OV Wh.q91 Wh.q91':=e_ _
def Wh.q6 (xs:(List UInt8)×(List UInt8)):Option (((Bool))×(Unit)):=
 let fN:=xs.1
 let EJ:=xs.2
 let v_2:=decide ((↑(List.length fN):Int)≥(↑(List.length EJ):Int))
 let xU:=bif v_2 then List.take (Int.toNat ((↑(List.length EJ):Int)-0)) (List.drop (Int.toNat 0) fN)==EJ else false
 bif iy [!v_2 || decide ((0:Int)≤0),!v_2 || decide (0≤(↑(List.length EJ):Int)),!v_2 || decide ((↑(List.length EJ):Int)≤(↑(List.length fN):Int))] then
  some (xU,())
 else none
def Wh.q6':=bx Wh.q6
theorem Wh.q6_v:OV Wh.q6 Wh.q6':=e_ _
def Wh.q13 (xs:(List UInt8)×(List UInt8)):Option (((Bool))×(Unit)):=
 let fN:=xs.1
 let EJ:=xs.2
 let r_2:=Wh.q6' (fN,EJ)
 bif iy [nQ (Wh.q6 (fN,EJ))] then
  some (r_2.1,())
 else none
def Wh.q13':=bx Wh.q13
theorem Wh.Td:OV Wh.q13 Wh.q13':=e_ _
abbrev Wh.U1:Type:=((Int)×(Unit)×(List UInt8))×((List (List UInt8)))
abbrev Wh.ahu:Type:=((((Unit)×(Int))×((List (List UInt8)))))
def Wh.CT (x:Wh.U1):Option (Wh.U1⊕Wh.ahu):=
 let BT:=x.1.1
 let BE:=x.1.2.2
 let AX:=x.2
 let BQ:List UInt8:=List.take (Int.toNat ((↑(List.length BE):Int)-BT)) (List.drop (Int.toNat BT) BE)
 let OE:=Wh.tK (BQ,[(32:UInt8)])
 bif iy [nQ (Wh.strings_Cut (BQ,[(32:UInt8)])),decide (0≤BT),decide (BT≤(↑(List.length BE):Int)),decide ((↑(List.length BE):Int)≤(↑(List.length BE):Int))] then
  let r_66:=Wh.tK (OE.1.2.1,[(32:UInt8)])
  bif iy [nQ (Wh.strings_Cut (OE.1.2.1,[(32:UInt8)]))] then
   let Ho:=Wh.rW r_66.1.1
   bif iy [nQ (Wh.rV r_66.1.1)] then
    let Is:Int:=(↑(List.length AX):Int)
    let v_74:Int:=(↑(List.length r_66.1.1):Int)
    let r_79:=Wh.tJ Is
    let W8:=IntKind.wrap .i64 (IntKind.wrap .i64 (IntKind.wrap .i64 ((↑(List.length r_79.1):Int)+1)+v_74)+18)
    bif iy [nQ (Wh.strconv_Itoa Is)] then
     let v_81:= !Ho.1.2
     let r_82:=Wh.n_ (Ho.1.1,1,500)
     let v_85:=bif bif v_81 then true else !r_82.1 then true else decide (IntKind.wrap .i64 ((↑(List.length BE):Int)-BT)<IntKind.wrap .i64 (IntKind.wrap .i64 (W8+Ho.1.1)+1))
     bif iy [!!v_81 || nQ (Wh.xR (Ho.1.1,1,500))] then
      bif v_85 then
       some (.inr (((),BT),AX))
      else
       let Hx:=IntKind.wrap .i64 (BT+W8)
       let Vi:List UInt8:=List.take (Int.toNat (IntKind.wrap .i64 (Hx+Ho.1.1)-Hx)) (List.drop (Int.toNat Hx) BE)
       bif iy [decide (0≤Hx),decide (Hx≤IntKind.wrap .i64 (Hx+Ho.1.1)),decide (IntKind.wrap .i64 (Hx+Ho.1.1)≤(↑(List.length BE):Int))] then
        let r_91:=Wh.q91' (Is,Vi)
        bif iy [nQ (Wh.q91 (Is,Vi))] then
         let r_93:=Wh.q13' (BQ,r_91.1)
         bif iy [nQ (Wh.q13 (BQ,r_91.1)),decide (0≤BT),decide (BT≤(↑(List.length BE):Int)),decide ((↑(List.length BE):Int)≤(↑(List.length BE):Int))] then
          bif !r_93.1 then
           some (.inr (((),BT),AX))
          else
           let pb_94:List (List UInt8):=[Vi]
           let ls_95:List (List UInt8):=AX++pb_94
           bif iy [decide (List.length AX+(1:Nat)≤dh)] then
            let CZ:Int:=(↑(List.length r_91.1):Int)
            some (.inl (((IntKind.wrap .i64 (BT+CZ)),(),BE),ls_95))
           else none
         else none
        else none
       else none
     else none
    else none
   else none
  else none
 else none
def Wh.aa8:(((Unit)×(Int))×((List (List UInt8)))):=default
def Wh.CS (xs:(List UInt8)):Option (((List (List UInt8))×(Int))×(Unit)):=
 let zd:=xs
 let x_99:Wh.U1:=((0,(),zd),[])
 bif lF Wh.CT x_99 then
  let y_100:=kG Wh.CT Wh.aa8 x_99
  let v_101:=y_100.1.2
  let ls_102:=y_100.2
  some ((ls_102,v_101),())
 else none
def Wh.Oy:=bx Wh.CS
theorem Wh.U2:OV Wh.CS Wh.Oy:=e_ _
def Wh.Bh (xs:(Int)):Option (((Bool))×(Unit)):=
 let yR:=xs
 let r_1:=Wh.n_ (yR,0,1)
 bif iy [nQ (Wh.xR (yR,0,1))] then
  some (r_1.1,())
 else none
def Wh.JM:=bx Wh.Bh
theorem Wh.Ob:OV Wh.Bh Wh.JM:=e_ _
abbrev Wh.SK:Type:=((Int)×(List UInt8)×(Int))×(Unit)
abbrev Wh.agf:Type:=((((Bool))×(Unit))⊕(((List UInt8))×(Unit)))
def Wh.A1 (x:Wh.SK):Option (Wh.SK⊕Wh.agf):=
 let yC:=x.1.1
 let Kf:=x.1.2.1
 let yh:=x.1.2.2
 bif decide (yC<yh) then
  let so:Int:=(↑(UInt8.toNat (List.getD Kf (Int.toNat yC) (0:UInt8))):Int)
  let xS:=bif decide (so<97) then true else decide (so>122)
  bif iy [!!decide (so<97) || decide (0≤yC),!!decide (so<97) || decide (yC<(↑(List.length Kf):Int)),decide (0≤yC),decide (yC<(↑(List.length Kf):Int))] then
   bif xS then
    some (.inr (.inl (false,())))
   else
    some (.inl (((IntKind.wrap .i64 (yC+1)),Kf,yh),()))
  else none
 else
  some (.inr (.inr (Kf,())))
def Wh.Zv:(((Bool))×(Unit))⊕(((List UInt8))×(Unit)):=.inl default
def Wh.BH (xs:(List UInt8)):Option (((Bool))×(Unit)):=
 let y9:=xs
 let x_19:Wh.SK:=((0,y9,(↑(List.length y9):Int)),())
 bif lF Wh.A1 x_19 then
  sumC (kG Wh.A1 Wh.Zv x_19) (fun KC=>
   let za:=KC.1
   some (za,())) (fun z_21=>
   let abL:=z_21.1
   let r_24:=Wh.n_ ((↑(List.length abL):Int),1,6)
   bif iy [nQ (Wh.xR ((↑(List.length abL):Int),1,6))] then
    some (r_24.1,())
   else none)
 else none
def Wh.JD:=bx Wh.BH
theorem Wh.NZ:OV Wh.BH Wh.JD:=e_ _
def Wh.q25 (xs:(Int)×(List UInt8)×(List UInt8)):Option (((List UInt8))×(Unit)):=
 let F4:=xs.1
 let zh:=xs.2.1
 let A6:=xs.2.2
 let r_3:=Wh.JM F4
 let nE:=Wh.JD zh
 let w7:=bif bif !r_3.1 then true else !nE.1 then true else decide ((↑(List.length A6):Int)>300)
 bif iy [!!!r_3.1 || nQ (Wh.BH zh),nQ (Wh.Bh F4)] then
  bif w7 then
   some ([],())
  else
   let yN:=Wh.tJ F4
   let Au:=yN.1 ++ [(32:UInt8)]++zh ++ [(58:UInt8)]++A6
   bif iy [decide (List.length (yN.1 ++ [(32:UInt8)]++zh ++ [(58:UInt8)])+List.length A6≤dh),decide (List.length (yN.1 ++ [(32:UInt8)]++zh)+(1:Nat)≤dh),decide (List.length (yN.1 ++ [(32:UInt8)])+List.length zh≤dh),decide (List.length yN.1+(1:Nat)≤dh),nQ (Wh.strconv_Itoa F4)] then
    some (Au,())
   else none
 else none
def Wh.q25':=bx Wh.q25
theorem Wh.Ud:OV Wh.q25 Wh.q25':=e_ _
def Wh.D4 (xs:(fk.D)):Option ((((Int)×((List (an.D))×(Unit))))×(Unit)):=
 let fe:fk.D:=xs
 let y6:List (an.D):=[]++fe.2.1
 bif iy [decide ((0:Nat)+List.length fe.2.1≤dh)] then
  some ((fe.1,y6,()),())
 else none
def Wh.J0:=bx Wh.D4
theorem Wh.G5:OV Wh.D4 Wh.J0:=e_ _
def Wh.q19 (xs:(an.D)×(Int)×(List UInt8)):Option (((Bool))×(Unit)):=
 let i_0:=xs.1
 let v_1:=xs.2.1
 let v_2:=xs.2.2
 let yw:=bif(i_0.1==v_1) then i_0.2.1==v_2 else false
 some (yw,())
def Wh.q19':=bx Wh.q19
theorem Wh.T_:OV Wh.q19 Wh.q19':=e_ _
abbrev Wh.Uq:Type:=((Int)×(List (an.D))×((Int)×((List UInt8)×(Unit)))×(Int))×(Unit)
abbrev Wh.q3_l0Y:Type:=((((Int))×(Unit))⊕((Unit)×(Unit)))
def Wh.DZ (x:Wh.Uq):Option (Wh.Uq⊕Wh.q3_l0Y):=
 let yh:=x.1.1
 let s_13:=x.1.2.1
 let f_14:=(x.1.2.2).1.1
 let f_15:=(x.1.2.2).1.2.1
 let tn:=x.1.2.2.2
 bif decide (yh<tn) then
  let ov:an.D:=List.getD s_13 (Int.toNat yh) (0,[],0,[],())
  let Hi:=Wh.q19' (ov,f_14,f_15)
  bif iy [nQ (Wh.q19 (ov,f_14,f_15)),decide (0≤yh),decide (yh<(↑(List.length s_13):Int))] then
   bif Hi.1 then
    some (.inr (.inl (yh,())))
   else
    some (.inl (((IntKind.wrap .i64 (yh+1)),s_13,(f_14,f_15,()),tn),()))
  else none
 else
  some (.inr (.inr ((),())))
def Wh.aaF:(((Int))×(Unit))⊕((Unit)×(Unit)):=.inl default
def Wh.q3 (xs:(List (an.D))×((Int)×((List UInt8)×(Unit)))):Option (((Int))×(Unit)):=
 let fN:=xs.1
 let f_1:=xs.2
 let v_2:Int:=(↑(List.length fN):Int)
 let x_21:Wh.Uq:=((0,fN,(f_1.1,f_1.2.1,()),v_2),())
 bif lF Wh.DZ x_21 then
  sumC (kG Wh.DZ Wh.aaF x_21) (fun AK=>
   let yD:=AK.1
   some (yD,())) (fun _=>
   some (-1,()))
 else none
def Wh.q3':=bx Wh.q3
theorem Wh.q3_v:OV Wh.q3 Wh.q3':=e_ _
def Wh.Ca (xs:(fk.D)×(Int)×(List UInt8)):Option (((Int))×(Unit)):=
 let fe:=xs.1
 let xY:=xs.2.1
 let yS:=xs.2.2
 let r_3:=Wh.q3' (fe.2.1,xY,yS,())
 bif iy [nQ (Wh.q3 (fe.2.1,xY,yS,()))] then
  some (r_3.1,())
 else none
def Wh.Ou:=bx Wh.Ca
theorem Wh.JX:OV Wh.Ca Wh.Ou:=e_ _
def Wh.q10 (xs:(List (an.D))×(Int)×(Int)):Option (((List (an.D)))×(Unit)):=
 let fN:=xs.1
 let i_1:=xs.2.1
 let Ba:=xs.2.2
 let w8:Int:=(↑(List.length fN):Int)
 bif iy [decide (0≤i_1),decide (i_1≤Ba),decide (Ba≤w8),decide (w8≤w8)] then
  let xU:=i_1==Ba
  bif xU then
   some (fN,())
  else
   let pb_5:List (an.D):=List.take (Int.toNat 0+Int.toNat (i_1-0)) fN++(List.take (Int.toNat (w8-Ba)) (List.drop (Int.toNat Ba) fN)++List.drop (Int.toNat 0+Int.toNat (i_1-0)+List.length (List.take (Int.toNat (w8-Ba)) (List.drop (Int.toNat Ba) fN))) fN)
   let zR:Nat:=Int.toNat (i_1-0)
   let s_9:Nat:=zR+List.length (List.take (Int.toNat (w8-Ba)) (List.drop (Int.toNat Ba) fN))
   bif iy [decide (Int.toNat 0+zR+List.length (List.take (Int.toNat (w8-Ba)) (List.drop (Int.toNat Ba) fN))≤List.length fN),decide (0≤Ba),decide (Ba≤w8),decide (w8≤w8),true,decide (0≤i_1),decide (i_1≤w8)] then
    let Se:List (an.D):=List.take (Int.toNat 0+Int.toNat (↑s_9:Int)) pb_5++(@List.replicate (Int×List UInt8×Int×List UInt8×Unit) (Int.toNat (w8-(↑s_9:Int))) (0,[],0,[],())++List.drop (Int.toNat 0+Int.toNat (↑s_9:Int)+List.length (@List.replicate (Int×List UInt8×Int×List UInt8×Unit) (Int.toNat (w8-(↑s_9:Int))) (0,[],0,[],()))) pb_5)
    bif iy [decide (0≤(↑s_9:Int)),decide ((↑s_9:Int)≤w8),decide ((↑(Int.toNat 0):Int)+w8≤(↑(List.length pb_5):Int))] then
     some (List.take s_9 Se,())
    else none
   else none
 else none
def Wh.q10':=bx Wh.q10
theorem Wh.q10_v:OV Wh.q10 Wh.q10':=e_ _
def Wh.q48 (xs:(fk.D)×(Int)×(List UInt8)):Option ((((Int)×((List (an.D))×(Unit)))×(Int))×(Unit)):=
 let fe:=xs.1
 let xY:=xs.2.1
 let yS:=xs.2.2
 let r_3:=Wh.J0 fe
 bif iy [nQ (Wh.D4 fe)] then
  let nE:=Wh.Ou (fe,xY,yS)
  bif iy [nQ (Wh.Ca (fe,xY,yS))] then
   bif decide (nE.1<0) then
    some ((r_3.1,3),())
   else
    let yz:=Wh.q10' (r_3.1.2.1,nE.1,IntKind.wrap .i64 (nE.1+1))
    let pb_7:List (an.D):=[]++yz.1
    bif iy [decide ((0:Nat)+List.length yz.1≤dh),nQ (Wh.q10 (r_3.1.2.1,nE.1,(IntKind.wrap .i64 (nE.1+1))))] then
     some (((r_3.1.1,pb_7,r_3.1.2.2),0),())
    else none
  else none
 else none
def Wh.q48':=bx Wh.q48
theorem Wh.q48_v:OV Wh.q48 Wh.q48':=e_ _
def Wh.q17 (xs:(Int)×(List UInt8)×(List UInt8)):Option (((Bool))×(Unit)):=
 let F4:=xs.1
 let zh:=xs.2.1
 let A6:=xs.2.2
 let r_3:=Wh.JM F4
 let nE:=Wh.JD zh
 let A5:=Wh.n_ ((↑(List.length A6):Int),1,300)
 let x_:=bif bif r_3.1 then nE.1 else false then A5.1 else false
 bif iy [(!bif r_3.1 then nE.1 else false) || nQ (Wh.xR ((↑(List.length A6):Int),1,300)),!r_3.1 || nQ (Wh.BH zh),nQ (Wh.Bh F4)] then
  some (x_,())
 else none
def Wh.Oj:=bx Wh.q17
theorem Wh.JV:OV Wh.q17 Wh.Oj:=e_ _
abbrev Wh.Uf:Type:=((Int)×(Int)×(Int)×(List (an.D))×(Int))×(Unit)
abbrev Wh.agU:Type:=((((Int))×(Unit)))
def Wh.DU (x:Wh.Uf):Option (Wh.Uf⊕Wh.agU):=
 let tn:=x.1.1
 let Ge:=x.1.2.1
 let F3:=(x.1.2.2).1
 let nG:=x.1.2.2.2.1
 let n5:=x.1.2.2.2.2
 bif decide (tn<n5) then
  let pb_22:an.D:=List.getD nG (Int.toNat tn) (0,[],0,[],())
  bif iy [decide (0≤tn),decide (tn<(↑(List.length nG):Int))] then
   bif(pb_22.1==F3) then
    let yD:Int:=(↑(List.length ((pb_22.2.2.2).1)):Int)
    some (.inl (((IntKind.wrap .i64 (tn+1)),(IntKind.wrap .i64 (Ge+yD)),F3,nG,n5),()))
   else
    some (.inl (((IntKind.wrap .i64 (tn+1)),Ge,F3,nG,n5),()))
  else none
 else
  some (.inr (Ge,()))
def Wh.aaw:(((Int))×(Unit)):=default
def Wh.q27 (xs:(fk.D)×(Int)):Option (((Int))×(Unit)):=
 let fe:=xs.1
 let xY:=xs.2
 let v_2:Int:=(↑(List.length fe.2.1):Int)
 let FH:Wh.Uf:=((0,0,xY,fe.2.1,v_2),())
 bif lF Wh.DU FH then
  let FM:=kG Wh.DU Wh.aaw FH
  let n_31:=FM.1
  some (n_31,())
 else none
def Wh.q27':=bx Wh.q27
theorem Wh.q27_v:OV Wh.q27 Wh.q27':=e_ _
def Wh.q45 (xs:(Int)):Option (((Bool))×(Unit)):=
 let yO:=xs
 let v_1:=yO != yO
 some (v_1,())
def Wh.Ot:=bx Wh.q45
theorem Wh.q45_v:OV Wh.q45 Wh.Ot:=e_ _
def Wh.q18 (xs:(Int)×(Int)):Option (((Int))×(Unit)):=
 let yO:=xs.1
 let C3:=xs.2
 let r_2:=Wh.Ot yO
 bif iy [nQ (Wh.q45 yO)] then
  let r_3:=Wh.Ot C3
  bif iy [nQ (Wh.q45 C3)] then
   bif r_2.1 then
    bif r_3.1 then
     some (0,())
    else
     some (-1,())
   else
    bif r_3.1 then
     some (1,())
    else
     bif decide (yO<C3) then
      some (-1,())
     else
      bif decide (yO>C3) then
       some (1,())
      else
       some (0,())
  else none
 else none
def Wh.q18':=bx Wh.q18
theorem Wh.q18_v:OV Wh.q18 Wh.q18':=e_ _
def Wh.q14 (xs:(List UInt8)):Option (((Bool))×(Unit)):=
 let yO:=xs
 some ((!yO==yO),())
def Wh.N5:=bx Wh.q14
theorem Wh.q14_v:OV Wh.q14 Wh.N5:=e_ _
def Wh.q7 (xs:(List UInt8)×(List UInt8)):Option (((Int))×(Unit)):=
 let yO:=xs.1
 let C3:=xs.2
 let r_2:=Wh.N5 yO
 bif iy [nQ (Wh.q14 yO)] then
  let r_3:=Wh.N5 C3
  bif iy [nQ (Wh.q14 C3)] then
   bif r_2.1 then
    bif r_3.1 then
     some (0,())
    else
     some (-1,())
   else
    bif r_3.1 then
     some (1,())
    else
     bif Go.Op.bytesLess yO C3 then
      some (-1,())
     else
      bif(!(Go.Op.bytesLess yO C3 || yO==C3)) then
       some (1,())
      else
       some (0,())
  else none
 else none
def Wh.q7':=bx Wh.q7
theorem Wh.q7_v:OV Wh.q7 Wh.q7':=e_ _
abbrev Wh.Tn:Type:=((Int)×(Int)×(List (Int))×(Int))×(Unit)
abbrev Wh.agv:Type:=((((Int))×(Unit))⊕(((Int))×(Unit)))
def Wh.EX (x:Wh.Tn):Option (Wh.Tn⊕Wh.agv):=
 let x_:=x.1.1
 let VC:=x.1.2.1
 let yU:=(x.1.2.2).1
 let yh:=x.1.2.2.2
 bif decide (x_<yh) then
  let so:=List.getD yU (Int.toNat x_) 0
  bif iy [decide (0≤x_),decide (x_<(↑(List.length yU):Int))] then
   let xd:=so != VC
   bif xd then
    some (.inr (.inl (so,())))
   else
    some (.inl (((IntKind.wrap .i64 (x_+1)),VC,yU,yh),()))
  else none
 else
  some (.inr (.inr (VC,())))
def Wh.ZU:(((Int))×(Unit))⊕(((Int))×(Unit)):=.inl default
def Wh.GH (xs:(List (Int))):Option (((Int))×(Unit)):=
 let abP:=xs
 let x_17:Wh.Tn:=((0,0,abP,(↑(List.length abP):Int)),())
 bif lF Wh.EX x_17 then
  sumC (kG Wh.EX Wh.ZU x_17) (fun Ep=>
   let n5:=Ep.1
   some (n5,())) (fun KG=>
   let aky:=KG.1
   some (aky,()))
 else none
def Wh.Tm:=bx Wh.GH
theorem Wh.ZV:OV Wh.GH Wh.Tm:=e_ _
def Wh.q29 (xs:(an.D)×(an.D)):Option (((Int))×(Unit)):=
 let bn:=xs.1
 let b_1:=xs.2
 let r_2:=Wh.q18' (bn.1,b_1.1)
 let r_3:=Wh.q7' (bn.2.1,b_1.2.1)
 let yz:=Wh.Tm [r_2.1,r_3.1]
 bif iy [nQ (Wh.GH [r_2.1,r_3.1]),nQ (Wh.q7 (bn.2.1,b_1.2.1)),nQ (Wh.q18 (bn.1,b_1.1))] then
  some (yz.1,())
 else none
def Wh.q29':=bx Wh.q29
theorem Wh.On:OV Wh.q29 Wh.q29':=e_ _
abbrev Wh.Sl:Type:=((Int)×(Unit)×(Unit)×(Int)×(Int)×(Int))×((List (an.D)))
abbrev Wh.q0_l1Y:Type:=((((Unit)×(Unit)×(Int)×(Int)×(Int))×((List (an.D)))))
def Wh.CB (x:Wh.Sl):Option (Wh.Sl⊕Wh.q0_l1Y):=
 let zU:=x.1.1
 let a_24:=x.1.2.2.2.1
 let b_25:=(x.1.2.2.2.2).1
 let i_26:=(x.1.2.2.2.2).2
 let AG:=x.2
 let wX:=decide (zU>a_24)
 let r_29:=Wh.q29' (List.getD AG (Int.toNat zU) (0,[],0,[],()),List.getD AG (Int.toNat (IntKind.wrap .i64 (zU-1))) (0,[],0,[],()))
 let Hv:=bif wX then decide (r_29.1<0) else false
 bif iy [!wX || nQ (Wh.q29 (List.getD AG (Int.toNat zU) (0,[],0,[],()),List.getD AG (Int.toNat (IntKind.wrap .i64 (zU-1))) (0,[],0,[],()))),!wX || decide (0≤IntKind.wrap .i64 (zU-1)),!wX || decide (IntKind.wrap .i64 (zU-1)<(↑(List.length AG):Int)),!wX || decide (0≤zU),!wX || decide (zU<(↑(List.length AG):Int))] then
  bif Hv then
   let yH:List (an.D):=List.set AG (Int.toNat zU) (List.getD AG (Int.toNat (IntKind.wrap .i64 (zU-1))) (0,[],0,[],()))
   let A0:List (an.D):=List.set yH (Int.toNat (IntKind.wrap .i64 (zU-1))) (List.getD AG (Int.toNat zU) (0,[],0,[],()))
   let yE:=IntKind.wrap .i64 (zU-1)
   bif iy [decide (0≤yE),decide (yE<(↑(List.length yH):Int)),decide (0≤zU),decide (zU<(↑(List.length AG):Int)),decide (0≤zU),decide (zU<(↑(List.length AG):Int)),decide (0≤yE),decide (yE<(↑(List.length AG):Int))] then
    some (.inl ((yE,(),(),a_24,b_25,i_26),A0))
   else none
  else
   some (.inr (((),(),a_24,b_25,i_26),AG))
 else none
def Wh.Y8:(((Unit)×(Unit)×(Int)×(Int)×(Int))×((List (an.D)))):=default
abbrev Wh.Sk:Type:=((Unit)×(Int)×(Unit)×(Int)×(Int))×((List (an.D)))
abbrev Wh.q0_l0Y:Type:=(((Unit)×((List (an.D)))))
def Wh.B5 (x:Wh.Sk):Option (Wh.Sk⊕Wh.q0_l0Y):=
 let i_43:=x.1.2.1
 let a_44:=x.1.2.2.2.1
 let b_45:=x.1.2.2.2.2
 let Cy:=x.2
 bif decide (i_43<b_45) then
  let FJ:Wh.Sl:=((i_43,(),(),a_44,b_45,i_43),Cy)
  bif lF Wh.CB FJ then
   let FO:=kG Wh.CB Wh.Y8 FJ
   let a_50:=(FO.1.2.2).1
   let b_51:=FO.1.2.2.2.1
   let i_52:=FO.1.2.2.2.2
   let Ia:=FO.2
   some (.inl (((),(IntKind.wrap .i64 (i_52+1)),(),a_50,b_51),Ia))
  else none
 else
  some (.inr ((),Cy))
def Wh.Y7:((Unit)×((List (an.D)))):=default
def Wh.q0 (xs:(List (an.D))×(Int)×(Int)×(Unit)):Option ((Unit)×((List (an.D))×Unit)):=
 let Ri:=xs.1
 let a_1:=xs.2.1
 let b_2:=xs.2.2.1
 let Kx:Wh.Sk:=(((),(IntKind.wrap .i64 (a_1+1)),(),a_1,b_2),Ri)
 bif lF Wh.B5 Kx then
  let y_56:=kG Wh.B5 Wh.Y7 Kx
  let pb_57:=y_56.2
  some ((),pb_57,())
 else none
def Wh.q0':=bx Wh.q0
theorem Wh.q0_v:OV Wh.q0 Wh.q0':=e_ _
abbrev Wh.Ua:Type:=((Unit)×(Int)×(Int)×(Unit)×(Bool)×(Bool)×(Int))×((List (an.D)))
abbrev Wh.q1_l0Y:Type:=(((Unit)×((List (an.D)))))
def Wh.Ik (x:Wh.Ua):Option (Wh.Ua⊕Wh.q1_l0Y):=
 let b_15:=x.1.2.1
 let a_16:=(x.1.2.2).1
 let akv:=(x.1.2.2.2.2).2.1
 let aer:=(x.1.2.2.2.2).2.2
 let yX:=x.2
 bif decide ((IntKind.wrap .i64 (b_15-a_16))≤12) then
  let x6:=Wh.q0' (yX,a_16,b_15,())
  bif iy [nQ (Wh.q0 (yX,a_16,b_15,()))] then
   some (.inr ((),x6.2.1))
  else none
 else
  let yD:=aer==0
  bif yD then
   none
  else
   bif !akv then
    none
   else
    none
def Wh.aat:((Unit)×((List (an.D)))):=default
def Wh.q1 (xs:(List (an.D))×(Int)×(Int)×(Int)×(Unit)):Option ((Unit)×((List (an.D))×Unit)):=
 let Ri:=xs.1
 let a_1:=xs.2.1
 let b_2:=xs.2.2.1
 let aes:=(xs.2.2.2).1
 let x_25:Wh.Ua:=(((),b_2,a_1,(),true,true,aes),Ri)
 bif lF Wh.Ik x_25 then
  let yY:=kG Wh.Ik Wh.aat x_25
  let AG:=yY.2
  some ((),AG,())
 else none
def Wh.q1':=bx Wh.q1
theorem Wh.q1_v:OV Wh.q1 Wh.q1':=e_ _
def Wh.q4 (xs:(List (an.D))×(Unit)):Option ((Unit)×((List (an.D))×Unit)):=
 let yO:=xs.1
 let v_2:Int:=(↑(List.length yO):Int)
 let r_3:=Wh.qX (IntKind.wrap .u64 v_2)
 let nE:=Wh.q1' (yO,0,v_2,r_3.1,())
 bif iy [nQ (Wh.q1 (yO,0,v_2,r_3.1,())),nQ (Wh.bits_Len (IntKind.wrap .u64 v_2))] then
  some ((),nE.2.1,())
 else none
def Wh.q4':=bx Wh.q4
theorem Wh.q4_v:OV Wh.q4 Wh.q4':=e_ _
def Wh.D9 (xs:(fk.D)×(Int)×(List UInt8)×(List UInt8)):Option ((((Int)×((List (an.D))×(Unit)))×(Int))×(Unit)):=
 let fe:=xs.1
 let xY:=xs.2.1
 let yS:=xs.2.2.1
 let CX:=xs.2.2.2
 let nE:=Wh.J0 fe
 bif iy [nQ (Wh.D4 fe)] then
  let xQ:=Wh.Oj (xY,yS,CX)
  bif iy [nQ (Wh.q17 (xY,yS,CX))] then
   bif !xQ.1 then
    some ((nE.1,1),())
   else
    let yz:=Wh.Ou (fe,xY,yS)
    bif iy [nQ (Wh.Ca (fe,xY,yS))] then
     bif decide (yz.1≥0) then
      some ((nE.1,2),())
     else
      let x_:Int:=(↑(List.length fe.2.1):Int)
      let r_14:=Wh.q27' (fe,xY)
      let tn:=bif bif x_==8 then true else fe.1==99999 then true else decide (IntKind.wrap .i64 (r_14.1+(↑(List.length CX):Int))>500)
      bif iy [(!!bif x_==8 then true else fe.1==99999) || nQ (Wh.q27 (fe,xY))] then
       bif tn then
        some ((nE.1,4),())
       else
        let Gg:=IntKind.wrap .i64 (nE.1.1+1)
        let pb_18:List (an.D):=[(xY,yS,Gg,CX,())]
        let H_:List (an.D):=nE.1.2.1++pb_18
        bif iy [decide (List.length (nE.1.2.1)+(1:Nat)≤dh)] then
         let yT:=Wh.q4' (H_,())
         bif iy [nQ (Wh.q4 (H_,()))] then
          let Bl:=Wh.J0 (Gg,yT.2.1,nE.1.2.2)
          bif iy [nQ (Wh.D4 (Gg,yT.2.1,nE.1.2.2))] then
           some ((Bl.1,0),())
          else none
         else none
        else none
      else none
    else none
  else none
 else none
def Wh.q84':=bx Wh.D9
theorem Wh.q84_v:OV Wh.D9 Wh.q84':=e_ _
def Wh.q26 (xs:(fk.D)×(List UInt8)):Option ((((Int)×((List (an.D))×(Unit)))×(Bool))×(Unit)):=
 let fe:=xs.1
 let zE:=xs.2
 let r_2:=Wh.tK (zE,[(58:UInt8)])
 bif iy [nQ (Wh.strings_Cut (zE,[(58:UInt8)]))] then
  let r_3:=Wh.tK (r_2.1.1,[(32:UInt8)])
  bif iy [nQ (Wh.strings_Cut (r_2.1.1,[(32:UInt8)]))] then
   let nE:=Wh.rW r_3.1.1
   bif iy [nQ (Wh.rV r_3.1.1)] then
    let yw:=zE == []
    let yz:=Wh.q25' (nE.1.1,r_3.1.2.1,r_2.1.2.1)
    let w7:=bif yw then true else !yz.1==zE
    bif iy [!!yw || nQ (Wh.q25 (nE.1.1,r_3.1.2.1,r_2.1.2.1))] then
     bif w7 then
      some (((0,[],()),false),())
     else
      let yN:=Wh.q48' (fe,nE.1.1,r_3.1.2.1)
      bif iy [nQ (Wh.q48 (fe,nE.1.1,r_3.1.2.1))] then
       bif(!r_2.1.2.1 == []) then
        let BK:=Wh.q84' (fe,nE.1.1,r_3.1.2.1,r_2.1.2.1)
        bif iy [nQ (Wh.D9 (fe,nE.1.1,r_3.1.2.1,r_2.1.2.1))] then
         some ((BK.1.1,(BK.1.2==0)),())
        else none
       else
        some ((yN.1.1,(yN.1.2==0)),())
      else none
    else none
   else none
  else none
 else none
def Wh.q26':=bx Wh.q26
theorem Wh.Ue:OV Wh.q26 Wh.q26':=e_ _
abbrev Wh.To:Type:=((Unit)×(Int)×(Unit)×(List (List UInt8))×(Int))×(((Int)×((Unit)×(Unit)))×((Int)×((Unit)×(Unit)))×(List (an.D))×(List (an.D)))
abbrev Wh.agw:Type:=((((Unit)×(Bool))×(((Int)×((Unit)×(Unit)))×(List (an.D))))⊕(((Unit)×(Unit))×(((Int)×((Unit)×(Unit)))×((Int)×((Unit)×(Unit)))×(List (an.D))×(List (an.D)))))
def Wh.DG (x:Wh.To):Option (Wh.To⊕Wh.agw):=
 let tn:=x.1.2.1
 let xS:=x.1.2.2.2.1
 let ov:=x.1.2.2.2.2
 let yu:=x.2.1.1
 let zf:=x.2.1.2.2
 let y4:=x.2.2.1.1
 let zJ:=(x.2.2.1).2.2
 let zg:=(x.2.2.2).1
 let z7:=x.2.2.2.2
 bif decide (tn<ov) then
  let xZ:=List.getD xS (Int.toNat tn) []
  bif iy [decide (0≤tn),decide (tn<(↑(List.length xS):Int))] then
   let BM:=Wh.q26' ((y4,z7,zJ),xZ)
   bif iy [nQ (Wh.q26 ((y4,z7,zJ),xZ))] then
    bif(!BM.1.2) then
     some (.inr (.inl (((),false),(0,(),()),[])))
    else
     some (.inl (((),(IntKind.wrap .i64 (tn+1)),(),xS,ov),(yu,(),zf),(BM.1.1.1,(),BM.1.1.2.2),zg,(BM.1.1.2).1))
   else none
  else none
 else
  some (.inr (.inr (((),()),(yu,(),zf),(y4,(),zJ),zg,z7)))
def Wh.ZW:(((Unit)×(Bool))×(((Int)×((Unit)×(Unit)))×(List (an.D))))⊕(((Unit)×(Unit))×(((Int)×((Unit)×(Unit)))×((Int)×((Unit)×(Unit)))×(List (an.D))×(List (an.D)))):=.inl default
def Wh.DF (xs:(List (List UInt8))):Option ((((Int)×((List (an.D))×(Unit)))×(Bool))×(Unit)):=
 let OI:List (List UInt8):=xs
 let v_1:Int:=(↑(List.length OI):Int)
 let FI:Wh.To:=(((),0,(),OI,v_1),(0,(),()),(0,(),()),[],[])
 bif lF Wh.DG FI then
  sumC (kG Wh.DG Wh.ZW FI) (fun FN=>
   let yE:=FN.1.2
   let ye:=FN.2.1.1
   let yB:=FN.2.1.2.2
   let RL:=FN.2.2
   some (((ye,RL,yB),yE),())) (fun HA=>
   let zV:=HA.2.2.1.1
   let ls_40:=(HA.2.2.1).2.2
   let HZ:=HA.2.2.2.2
   some (((zV,HZ,ls_40),true),()))
 else none
def Wh.N9:=bx Wh.DF
theorem Wh.Tp:OV Wh.DF Wh.N9:=e_ _
abbrev Wh.SZ:Type:=((Int)×(List (an.D))×(List (an.D))×(Int))×(Unit)
abbrev Wh.agm:Type:=((((Bool))×(Unit))⊕((Unit)×(Unit)))
def Wh.DA (x:Wh.SZ):Option (Wh.SZ⊕Wh.agm):=
 let so:=x.1.1
 let Vo:=x.1.2.1
 let Vn:=(x.1.2.2).1
 let xS:=x.1.2.2.2
 bif decide (so<xS) then
  let nG:an.D:=List.getD Vn (Int.toNat so) (0,[],0,[],())
  let n5:an.D:=List.getD Vo (Int.toNat so) (0,[],0,[],())
  bif iy [decide (0≤so),decide (so<(↑(List.length Vo):Int)),decide (0≤so),decide (so<(↑(List.length Vn):Int))] then
   bif(!(nG.1==n5.1&&(nG.2.1==n5.2.1&&(nG.2.2.1==n5.2.2.1&&((nG.2.2.2).1==(n5.2.2.2).1&&true))))) then
    some (.inr (.inl (false,())))
   else
    some (.inl (((IntKind.wrap .i64 (so+1)),Vo,Vn,xS),()))
  else none
 else
  some (.inr (.inr ((),())))
def Wh.ZF:(((Bool))×(Unit))⊕((Unit)×(Unit)):=.inl default
def Wh.q12 (xs:(List (an.D))×(List (an.D))):Option (((Bool))×(Unit)):=
 let s1_0:=xs.1
 let s2_1:=xs.2
 let v_2:Int:=(↑(List.length s1_0):Int)
 let w8:Int:=(↑(List.length s2_1):Int)
 let xU:=v_2 != w8
 bif xU then
  some (false,())
 else
  let x_23:Wh.SZ:=((0,s2_1,s1_0,v_2),())
  bif lF Wh.DA x_23 then
   sumC (kG Wh.DA Wh.ZF x_23) (fun y_24=>
    let xZ:=y_24.1
    some (xZ,())) (fun _=>
    some (true,()))
  else none
def Wh.q12':=bx Wh.q12
theorem Wh.q12_v:OV Wh.q12 Wh.q12':=e_ _
def Wh.q92 (xs:(fk.D)×(fk.D)):Option (((Bool))×(Unit)):=
 let bn:=xs.1
 let b_1:=xs.2
 let v_2:=bn.1==b_1.1
 let r_3:=Wh.q12' (bn.2.1,b_1.2.1)
 let yw:=bif v_2 then r_3.1 else false
 bif iy [!v_2 || nQ (Wh.q12 (bn.2.1,b_1.2.1))] then
  some (yw,())
 else none
def Wh.q92':=bx Wh.q92
theorem Wh.q92_v:OV Wh.q92 Wh.q92':=e_ _
abbrev Wh.Ug:Type:=((Int)×(Int)×(Int)×(List (ng.D))×(Int))×(Unit)
abbrev Wh.agV:Type:=((((Int))×(Unit))⊕((Unit)×(Unit)))
def Wh.DW (x:Wh.Ug):Option (Wh.Ug⊕Wh.agV):=
 let so:=x.1.1
 let Wk:=x.1.2.1
 let Jb:=(x.1.2.2).1
 let xS:=x.1.2.2.2.1
 let ov:=x.1.2.2.2.2
 bif decide (so<ov) then
  let yX:ng.D:=List.getD xS (Int.toNat so) (0,0,0,0,false,())
  bif iy [decide (0≤so),decide (so<(↑(List.length xS):Int))] then
   let za:=bif(yX.2.1==Jb) then yX.2.2.1==Wk else false
   bif za then
    some (.inr (.inl (so,())))
   else
    some (.inl (((IntKind.wrap .i64 (so+1)),Wk,Jb,xS,ov),()))
  else none
 else
  some (.inr (.inr ((),())))
def Wh.aax:(((Int))×(Unit))⊕((Unit)×(Unit)):=.inl default
def Wh.q28 (xs:(n4.D)×(Int)×(Int)):Option (((Int))×(Unit)):=
 let vT:=xs.1
 let HO:=xs.2.1
 let ab3:=xs.2.2
 let w8:Int:=(↑(List.length vT.1):Int)
 let x_24:Wh.Ug:=((0,ab3,HO,vT.1,w8),())
 bif lF Wh.DW x_24 then
  sumC (kG Wh.DW Wh.aax x_24) (fun y_25=>
   let zq:=y_25.1
   some (zq,())) (fun _=>
   some (-1,()))
 else none
def Wh.q28':=bx Wh.q28
theorem Wh.q28_v:OV Wh.q28 Wh.q28':=e_ _
abbrev Wh.U4:Type:=((Int)×(Int)×(Int)×(List (ng.D))×(Int))×(Unit)
abbrev Wh.ahw:Type:=((((Int))×(Unit)))
def Wh.D_ (x:Wh.U4):Option (Wh.U4⊕Wh.ahw):=
 let xd:=x.1.1
 let Gd:=x.1.2.1
 let F2:=(x.1.2.2).1
 let ov:=x.1.2.2.2.1
 let nG:=x.1.2.2.2.2
 bif decide (xd<nG) then
  let pb_21:ng.D:=List.getD ov (Int.toNat xd) (0,0,0,0,false,())
  bif iy [decide (0≤xd),decide (xd<(↑(List.length ov):Int))] then
   let zQ:=bif decide (pb_21.2.1>0) then pb_21.1==F2 else false
   bif zQ then
    some (.inl (((IntKind.wrap .i64 (xd+1)),(IntKind.wrap .i64 (Gd+1)),F2,ov,nG),()))
   else
    some (.inl (((IntKind.wrap .i64 (xd+1)),Gd,F2,ov,nG),()))
  else none
 else
  some (.inr (Gd,()))
def Wh.aa_:(((Int))×(Unit)):=default
def Wh.q88 (xs:(n4.D)×(Int)):Option (((Int))×(Unit)):=
 let vT:=xs.1
 let xY:=xs.2
 let v_2:Int:=(↑(List.length vT.1):Int)
 let Kq:Wh.U4:=((0,0,xY,vT.1,v_2),())
 bif lF Wh.D_ Kq then
  let Hz:=kG Wh.D_ Wh.aa_ Kq
  let n_29:=Hz.1
  some (n_29,())
 else none
def Wh.q88':=bx Wh.q88
theorem Wh.Io:OV Wh.q88 Wh.q88':=e_ _
abbrev Wh.SO:Type:=((Int)×(Unit))×((n4.D))
abbrev Wh.agj:Type:=((((Bool))×(Unit))⊕((Unit)×(Unit)))
def Wh.CF (x:Wh.SO):Option (Wh.SO⊕Wh.agj):=
 let Ir:=x.1.1
 let RR:=x.2
 bif decide (Ir<2) then
  let OE:=Wh.q88' (RR,Ir)
  bif iy [nQ (Wh.q88 (RR,Ir))] then
   bif decide (OE.1>5) then
    some (.inr (.inl (false,())))
   else
    some (.inl (((IntKind.wrap .i64 (Ir+1)),()),RR))
  else none
 else
  some (.inr (.inr ((),())))
def Wh.Zy:(((Bool))×(Unit))⊕((Unit)×(Unit)):=.inl default
abbrev Wh.SN:Type:=((Int)×(Unit)×(List (ng.D))×(Int))×((n4.D))
abbrev Wh.agi:Type:=((((Bool))×(Unit))⊕(((Unit))×((n4.D))))
def Wh.CE (x:Wh.SN):Option (Wh.SN⊕Wh.agi):=
 let wX:=x.1.1
 let yV:=(x.1.2.2).1
 let Hv:=x.1.2.2.2
 let zK:=x.2
 bif decide (wX<Hv) then
  let zw:ng.D:=List.getD yV (Int.toNat wX) (0,0,0,0,false,())
  bif iy [decide (0≤wX),decide (wX<(↑(List.length yV):Int))] then
   bif(zw.2.1==0) then
    bif(!(zw.1==0&&(zw.2.1==0&&(zw.2.2.1==0&&((zw.2.2.2).1==0&&(zw.2.2.2.2.1==false&&true)))))) then
     some (.inr (.inl (false,())))
    else
     some (.inl (((IntKind.wrap .i64 (wX+1)),(),yV,Hv),zK))
   else
    let J8:=Wh.JM zw.1
    let Ef:=Wh.n_ (zw.2.1,1,99999)
    let Ae:=Wh.n_ (zw.2.2.1,0,23)
    let J_:=Wh.n_ ((zw.2.2.2).1,0,99999)
    let Hl:=Wh.q28' (zK,zw.2.1,zw.2.2.1)
    let El:=bif bif bif bif !J8.1 then true else !Ef.1 then true else !Ae.1 then true else !J_.1 then true else Hl.1 != wX
    bif iy [(!!bif bif bif !J8.1 then true else !Ef.1 then true else !Ae.1 then true else !J_.1) || nQ (Wh.q28 (zK,zw.2.1,zw.2.2.1)),(!!bif bif !J8.1 then true else !Ef.1 then true else !Ae.1) || nQ (Wh.xR ((zw.2.2.2).1,0,99999)),(!!bif !J8.1 then true else !Ef.1) || nQ (Wh.xR (zw.2.2.1,0,23)),!!!J8.1 || nQ (Wh.xR (zw.2.1,1,99999)),nQ (Wh.Bh zw.1)] then
     bif El then
      some (.inr (.inl (false,())))
     else
      some (.inl (((IntKind.wrap .i64 (wX+1)),(),yV,Hv),zK))
    else none
  else none
 else
  some (.inr (.inr ((),zK)))
def Wh.Zx:(((Bool))×(Unit))⊕(((Unit))×((n4.D))):=.inl default
def Wh.ES (xs:(n4.D)):Option (((Bool))×(Unit)):=
 let vT:n4.D:=xs
 let v_1:Int:=(↑(List.length vT.1):Int)
 let nE:=Wh.n_ (vT.2.1,0,7)
 let yw:=bif v_1 != 8 then true else !nE.1
 bif iy [!!v_1 != 8 || nQ (Wh.xR (vT.2.1,0,7))] then
  bif yw then
   some (false,())
  else
   let x_50:Wh.SN:=((0,(),vT.1,v_1),vT)
   bif lF Wh.CE x_50 then
    sumC (kG Wh.CE Wh.Zx x_50) (fun y_51=>
     let BQ:=y_51.1
     some (BQ,())) (fun z_52=>
     let RO:=z_52.2
     let x_67:Wh.SO:=((0,()),RO)
     bif lF Wh.CF x_67 then
      sumC (kG Wh.CF Wh.Zy x_67) (fun y_68=>
       let O1:=y_68.1
       some (O1,())) (fun _=>
       some (true,()))
     else none)
   else none
 else none
def Wh.SM:=bx Wh.ES
theorem Wh.SP:OV Wh.ES Wh.SM:=e_ _
def Wh.Im (xs:(an.D)×(Int)):Option (((Bool))×(Unit)):=
 let i_0:=xs.1
 let v_1:=xs.2
 some ((i_0.2.2.1==v_1),())
def Wh.q8':=bx Wh.Im
theorem Wh.q8_v:OV Wh.Im Wh.q8':=e_ _
abbrev Wh.Uh:Type:=((Int)×(List (an.D))×((Int)×(Unit))×(Int))×(Unit)
abbrev Wh.q2_l0Y:Type:=((((Int))×(Unit))⊕((Unit)×(Unit)))
def Wh.DX (x:Wh.Uh):Option (Wh.Uh⊕Wh.q2_l0Y):=
 let yU:=x.1.1
 let Hr:=x.1.2.1
 let f_13:=(x.1.2.2).1.1
 let so:=x.1.2.2.2
 bif decide (yU<so) then
  let tn:an.D:=List.getD Hr (Int.toNat yU) (0,[],0,[],())
  let Ad:=Wh.q8' (tn,f_13)
  bif iy [nQ (Wh.Im (tn,f_13)),decide (0≤yU),decide (yU<(↑(List.length Hr):Int))] then
   bif Ad.1 then
    some (.inr (.inl (yU,())))
   else
    some (.inl (((IntKind.wrap .i64 (yU+1)),Hr,(f_13,()),so),()))
  else none
 else
  some (.inr (.inr ((),())))
def Wh.aay:(((Int))×(Unit))⊕((Unit)×(Unit)):=.inl default
def Wh.q2 (xs:(List (an.D))×((Int)×(Unit))):Option (((Int))×(Unit)):=
 let fN:=xs.1
 let f_1:=xs.2
 let v_2:Int:=(↑(List.length fN):Int)
 let x_19:Wh.Uh:=((0,fN,(f_1.1,()),v_2),())
 bif lF Wh.DX x_19 then
  sumC (kG Wh.DX Wh.aay x_19) (fun KC=>
   let za:=KC.1
   some (za,())) (fun _=>
   some (-1,()))
 else none
def Wh.DS:=bx Wh.q2
theorem Wh.q2_v:OV Wh.q2 Wh.DS:=e_ _
def Wh.DH (xs:(fk.D)×(Int)):Option (((Int))×(Unit)):=
 let fe:=xs.1
 let HO:=xs.2
 let r_2:=Wh.DS (fe.2.1,HO,())
 bif iy [nQ (Wh.q2 (fe.2.1,HO,()))] then
  some (r_2.1,())
 else none
def Wh.N_:=bx Wh.DH
theorem Wh.GQ:OV Wh.DH Wh.N_:=e_ _
def Wh.AI (xs:(r_.D)):Option (((Int))×(Unit)):=
 let vT:r_.D:=xs
 bif iy [vT.2.1 != 0] then
  some ((IntKind.wrap .i64 (Int.tdiv (IntKind.wrap .i64 ((IntKind.wrap .i64 (vT.1+vT.2.1))-1)) vT.2.1)),())
 else none
def Wh.zi:=bx Wh.AI
theorem Wh.q20_v:OV Wh.AI Wh.zi:=e_ _
abbrev Wh.U3:Type:=((Unit)×(Unit))×(((Int)×((Int)×((Unit)×((Unit)×(Unit)))))×((Int)×((Int)×((Unit)×((Unit)×(Unit)))))×(List (Int))×(List (Int))×(List (Int))×(List (Int)))
abbrev Wh.ahv:Type:=((((Unit)×(Unit))×(((Int)×((Int)×((Unit)×((Unit)×(Unit)))))×((Int)×((Int)×((Unit)×((Unit)×(Unit)))))×(List (Int))×(List (Int))×(List (Int))×(List (Int)))))
def Wh.J4 (x:Wh.U3):Option (Wh.U3⊕Wh.ahv):=
 let yM:=x.2.1.1
 let BF:=(x.2.1.2).1
 let xb:=(x.2.1.2.2.2).2
 let w9:=x.2.2.1.1
 let yu:=(x.2.2.1).2.1
 let zf:=(x.2.2.1).2.2.2.2
 let y4:=(x.2.2.2).1
 let zJ:=x.2.2.2.2.1
 let zg:=(x.2.2.2.2.2).1
 let z7:=(x.2.2.2.2.2).2
 let BL:=Wh.zi (yM,BF,y4,zJ,xb)
 bif iy [nQ (Wh.AI (yM,BF,y4,zJ,xb))] then
  bif decide (BL.1>24) then
   some (.inl (((),()),(yM,(IntKind.wrap .i64 (BF+1)),(),(),xb),(w9,yu,(),(),zf),y4,zJ,zg,z7))
  else
   some (.inr (((),()),(w9,yu,(),(),zf),(yM,BF,(),(),xb),zg,z7,y4,zJ))
 else none
def Wh.aa9:(((Unit)×(Unit))×(((Int)×((Int)×((Unit)×((Unit)×(Unit)))))×((Int)×((Int)×((Unit)×((Unit)×(Unit)))))×(List (Int))×(List (Int))×(List (Int))×(List (Int)))):=default
def Wh.q87 (xs:(Int)):Option ((((Int)×((Int)×((List (Int))×((List (Int))×(Unit))))))×(Unit)):=
 let Jp:=xs
 let r_1:=Wh.n_ (Jp,1,300)
 bif iy [nQ (Wh.xR (Jp,1,300))] then
  bif !r_1.1 then
   some ((0,0,[],[],()),())
  else
   let Aj:Wh.U3:=(((),()),(Jp,8,(),(),()),(0,0,(),(),()),[],[],[],[])
   bif lF Wh.J4 Aj then
    let zX:=kG Wh.J4 Wh.aa9 Aj
    let z8:=zX.2.2.1.1
    let ye:=(zX.2.2.1).2.1
    let yB:=(zX.2.2.1).2.2.2.2
    let yy:=(zX.2.2.2.2.2).1
    let zV:=(zX.2.2.2.2.2).2
    let Ip:=Wh.zi (z8,ye,yy,zV,yB)
    bif iy [nQ (Wh.AI (z8,ye,yy,zV,yB))] then
     let k_43:=IntKind.wrap .i64 (Int.tdiv (IntKind.wrap .i64 (Ip.1+3)) 4)
     bif decide (k_43<Ip.1) then
      let Sg:List Int:=[k_43,Ip.1]
      some ((z8,ye,Sg,[(2:Int),3],yB),())
     else
      let Cy:List Int:=[Ip.1]
      some ((z8,ye,Cy,[(1:Int)],yB),())
    else none
   else none
 else none
def Wh.q87':=bx Wh.q87
theorem Wh.q87_v:OV Wh.q87 Wh.q87':=e_ _
abbrev Wh.UA:Type:=((Int)×(Unit)×(List (ng.D))×(Int))×((fk.D))
abbrev Wh.ag_:Type:=((((Bool))×(Unit))⊕((Unit)×(Unit)))
def Wh.Bj (x:Wh.UA):Option (Wh.UA⊕Wh.ag_):=
 let yD:=x.1.1
 let zG:=(x.1.2.2).1
 let xZ:=x.1.2.2.2
 let y5:=x.2
 bif decide (yD<xZ) then
  let AZ:ng.D:=List.getD zG (Int.toNat yD) (0,0,0,0,false,())
  bif iy [decide (0≤yD),decide (yD<(↑(List.length zG):Int))] then
   bif(AZ.2.1==0) then
    some (.inl (((IntKind.wrap .i64 (yD+1)),(),zG,xZ),y5))
   else
    let xW:=Wh.N_ (y5,AZ.2.1)
    bif iy [nQ (Wh.DH (y5,AZ.2.1))] then
     let BN:=Wh.q87' (↑(List.length (Prod.fst (Prod.snd (Prod.snd (Prod.snd (List.getD y5.2.1 (Int.toNat xW.1) (0,[],0,[],()))))))):Int)
     let ym:=decide ((AZ.2.2.2).1>0)
     let Ae:=Wh.zi (BN.1.1,BN.1.2.1,bif !bif bif ym then true else decide (xW.1<0) then true else Prod.fst (List.getD y5.2.1 (Int.toNat xW.1) (0,[],0,[],())) != AZ.1 then(BN.1.2.2).1 else [],bif !bif bif ym then true else decide (xW.1<0) then true else Prod.fst (List.getD y5.2.1 (Int.toNat xW.1) (0,[],0,[],())) != AZ.1 then BN.1.2.2.2.1 else [],BN.1.2.2.2.2)
     let FF:=bif bif bif ym then true else decide (xW.1<0) then true else Prod.fst (List.getD y5.2.1 (Int.toNat xW.1) (0,[],0,[],())) != AZ.1 then true else decide (AZ.2.2.1≥Ae.1)
     bif iy [(!!bif bif ym then true else decide (xW.1<0) then true else Prod.fst (List.getD y5.2.1 (Int.toNat xW.1) (0,[],0,[],())) != AZ.1) || nQ (Wh.AI (BN.1.1,BN.1.2.1,bif !bif bif ym then true else decide (xW.1<0) then true else Prod.fst (List.getD y5.2.1 (Int.toNat xW.1) (0,[],0,[],())) != AZ.1 then(BN.1.2.2).1 else [],bif !bif bif ym then true else decide (xW.1<0) then true else Prod.fst (List.getD y5.2.1 (Int.toNat xW.1) (0,[],0,[],())) != AZ.1 then BN.1.2.2.2.1 else [],BN.1.2.2.2.2)),(!!bif bif ym then true else decide (xW.1<0) then true else Prod.fst (List.getD y5.2.1 (Int.toNat xW.1) (0,[],0,[],())) != AZ.1) || nQ (Wh.q87 (↑(List.length (Prod.fst (Prod.snd (Prod.snd (Prod.snd (List.getD y5.2.1 (Int.toNat xW.1) (0,[],0,[],()))))))):Int)),(!!bif bif ym then true else decide (xW.1<0) then true else Prod.fst (List.getD y5.2.1 (Int.toNat xW.1) (0,[],0,[],())) != AZ.1) || decide (0≤xW.1),(!!bif bif ym then true else decide (xW.1<0) then true else Prod.fst (List.getD y5.2.1 (Int.toNat xW.1) (0,[],0,[],())) != AZ.1) || decide (xW.1<(↑(List.length y5.2.1):Int)),(!!bif ym then true else decide (xW.1<0)) || decide (0≤xW.1),(!!bif ym then true else decide (xW.1<0)) || decide (xW.1<(↑(List.length y5.2.1):Int))] then
      bif FF then
       some (.inr (.inl (false,())))
      else
       some (.inl (((IntKind.wrap .i64 (yD+1)),(),zG,xZ),y5))
     else none
    else none
  else none
 else
  some (.inr (.inr ((),())))
def Wh.aaN:(((Bool))×(Unit))⊕((Unit)×(Unit)):=.inl default
def Wh.q54 (xs:(n4.D)×(fk.D)):Option (((Bool))×(Unit)):=
 let vT:=xs.1
 let c_1:=xs.2
 let r_2:=Wh.SM vT
 bif iy [nQ (Wh.ES vT)] then
  bif !r_2.1 then
   some (false,())
  else
   let w8:Int:=(↑(List.length vT.1):Int)
   let x_44:Wh.UA:=((0,(),vT.1,w8),c_1)
   bif lF Wh.Bj x_44 then
    sumC (kG Wh.Bj Wh.aaN x_44) (fun y_45=>
     let v_47:=y_45.1
     some (v_47,())) (fun _=>
     some (true,()))
   else none
 else none
def Wh.q54':=bx Wh.q54
theorem Wh.q54_v:OV Wh.q54 Wh.q54':=e_ _
def Wh.q46 (xs:(nI.D)):Option (((Bool))×(Unit)):=
 let y2:nI.D:=xs
 let r_1:=Wh.n_ (y2.2.1,0,99999)
 let r_2:=Wh.n_ (y2.2.2.1,0,99999)
 let xQ:=Wh.n_ (y2.1,0,y2.2.1)
 let yN:=Wh.n_ ((y2.2.2.2).1,0,99999)
 let yC:=bif bif bif r_1.1 then r_2.1 else false then xQ.1 else false then yN.1 else false
 bif iy [(!bif bif r_1.1 then r_2.1 else false then xQ.1 else false) || nQ (Wh.xR ((y2.2.2.2).1,0,99999)),(!bif r_1.1 then r_2.1 else false) || nQ (Wh.xR (y2.1,0,y2.2.1)),!r_1.1 || nQ (Wh.xR (y2.2.2.1,0,99999)),nQ (Wh.xR (y2.2.1,0,99999))] then
  some (yC,())
 else none
def Wh.q46':=bx Wh.q46
theorem Wh.q46_v:OV Wh.q46 Wh.q46':=e_ _
def Wh.Cd (xs:(Int)):Option (((Bool))×(Unit)):=
 let yR:=xs
 let r_1:=Wh.n_ (yR,0,3)
 bif iy [nQ (Wh.xR (yR,0,3))] then
  some (r_1.1,())
 else none
def Wh.Il:=bx Wh.Cd
theorem Wh.JZ:OV Wh.Cd Wh.Il:=e_ _
def Wh.q90 (xs:(Int)):Option (((Int))×(Unit)):=
 let Rc:=xs
 some ((Int.tmod Rc 2),())
def Wh.q90':=bx Wh.q90
theorem Wh.U_:OV Wh.q90 Wh.q90':=e_ _
abbrev Wh.Uw:Type:=((Int)×(Unit)×(List (r5.D))×(Int))×((nC.D))
abbrev Wh.ag7:Type:=((((Bool))×(Unit))⊕((Unit)×(Unit)))
def Wh.CR (x:Wh.Uw):Option (Wh.Uw⊕Wh.ag7):=
 let BR:=x.1.1
 let v_89:=(x.1.2.2).1
 let O2:=x.1.2.2.2
 let AY:=x.2
 bif decide (BR<O2) then
  let zy:r5.D:=List.getD v_89 (Int.toNat BR) (0,0,0,0,0,0,())
  bif iy [decide (0≤BR),decide (BR<(↑(List.length v_89):Int))] then
   let Iu:=decide (BR>0)
   let r_97:=Wh.Il zy.1
   let r_100:=Wh.n_ (zy.2.1,1,99999)
   let Vh:=Wh.n_ (zy.2.2.1,1,(AY.2.2.2).1.1)
   let v_104:=bif bif bif bif Iu then decide (Prod.fst (List.getD ((AY.2.2.2.2.2).2.1) (Int.toNat (IntKind.wrap .i64 (BR-1))) (0,0,0,0,0,0,()))≥zy.1) else false then true else !r_97.1 then true else !r_100.1 then true else !Vh.1
   bif iy [(!!bif bif bif Iu then decide (Prod.fst (List.getD ((AY.2.2.2.2.2).2.1) (Int.toNat (IntKind.wrap .i64 (BR-1))) (0,0,0,0,0,0,()))≥zy.1) else false then true else !r_97.1 then true else !r_100.1) || nQ (Wh.xR (zy.2.2.1,1,(AY.2.2.2).1.1)),(!!bif bif Iu then decide (Prod.fst (List.getD ((AY.2.2.2.2.2).2.1) (Int.toNat (IntKind.wrap .i64 (BR-1))) (0,0,0,0,0,0,()))≥zy.1) else false then true else !r_97.1) || nQ (Wh.xR (zy.2.1,1,99999)),(!!bif Iu then decide (Prod.fst (List.getD ((AY.2.2.2.2.2).2.1) (Int.toNat (IntKind.wrap .i64 (BR-1))) (0,0,0,0,0,0,()))≥zy.1) else false) || nQ (Wh.Cd zy.1),!Iu || decide (0≤IntKind.wrap .i64 (BR-1)),!Iu || decide (IntKind.wrap .i64 (BR-1)<(↑(List.length ((AY.2.2.2.2.2).2.1)):Int))] then
    bif v_104 then
     some (.inr (.inl (false,())))
    else
     let OB:=Wh.N_ ((AY.2.2.2).1,zy.2.2.1)
     bif iy [nQ (Wh.DH ((AY.2.2.2).1,zy.2.2.1))] then
      let OR:=decide (OB.1≥0)
      let r_107:=Wh.q90' zy.1
      let CY:=bif OR then Prod.fst (List.getD ((AY.2.2.2).1.2.1) (Int.toNat OB.1) (0,[],0,[],())) != r_107.1 else false
      bif iy [!OR || nQ (Wh.q90 zy.1),!OR || decide (0≤OB.1),!OR || decide (OB.1<(↑(List.length ((AY.2.2.2).1.2.1)):Int))] then
       bif CY then
        some (.inr (.inl (false,())))
       else
        let J5:=Wh.n_ ((zy.2.2.2).1,0,9999)
        let r_110:=Wh.n_ (zy.2.2.2.2.1,0,3)
        let r_113:=Wh.n_ ((zy.2.2.2.2.2).1,0,AY.2.1)
        let v_114:=bif bif !J5.1 then true else !r_110.1 then true else !r_113.1
        bif iy [(!!bif !J5.1 then true else !r_110.1) || nQ (Wh.xR ((zy.2.2.2.2.2).1,0,AY.2.1)),!!!J5.1 || nQ (Wh.xR (zy.2.2.2.2.1,0,3)),nQ (Wh.xR ((zy.2.2.2).1,0,9999))] then
         bif v_114 then
          some (.inr (.inl (false,())))
         else
          some (.inl (((IntKind.wrap .i64 (BR+1)),(),v_89,O2),AY))
        else none
      else none
     else none
   else none
  else none
 else
  some (.inr (.inr ((),())))
def Wh.aaK:(((Bool))×(Unit))⊕((Unit)×(Unit)):=.inl default
abbrev Wh.Uv:Type:=((Int)×(Unit)×(List (nI.D))×(Int))×((nC.D))
abbrev Wh.ag6:Type:=((((Bool))×(Unit))⊕(((Unit))×((nC.D))))
def Wh.D3 (x:Wh.Uv):Option (Wh.Uv⊕Wh.ag6):=
 let Cj:=x.1.1
 let FF:=(x.1.2.2).1
 let Hw:=x.1.2.2.2
 let RM:=x.2
 bif decide (Cj<Hw) then
  let Cy:nI.D:=List.getD FF (Int.toNat Cj) (0,0,0,0,())
  bif iy [decide (0≤Cj),decide (Cj<(↑(List.length FF):Int))] then
   let Hl:=Wh.q46' Cy
   let v_52:=bif bif bif !Hl.1 then true else Cy.2.1 != 40 then true else Cy.2.2.1 != 8 then true else decide ((Cy.2.2.2).1>RM.2.1)
   bif iy [nQ (Wh.q46 Cy)] then
    bif v_52 then
     some (.inr (.inl (false,())))
    else
     some (.inl (((IntKind.wrap .i64 (Cj+1)),(),FF,Hw),RM))
   else none
  else none
 else
  some (.inr (.inr ((),RM)))
def Wh.aaJ:(((Bool))×(Unit))⊕(((Unit))×((nC.D))):=.inl default
def Wh.q50 (xs:(nC.D)):Option (((Bool))×(Unit)):=
 let fN:nC.D:=xs
 let r_1:=Wh.n_ (fN.2.1,0,99999)
 let v_2:=bif !r_1.1 then true else decide ((↑(List.length (fN.2.2.1)):Int)>9000)
 bif iy [nQ (Wh.xR (fN.2.1,0,99999))] then
  bif v_2 then
   some (false,())
  else
   let r_3:=Wh.Oy (fN.2.2.1)
   bif iy [nQ (Wh.CS (fN.2.2.1))] then
    let nE:=Wh.N9 r_3.1.1
    bif iy [nQ (Wh.DF r_3.1.1)] then
     bif(!nE.1.2) then
      some (false,())
     else
      bif(!fN.1) then
       let w7:Bool:=(fN.2.2.2).1.1==0
       let aeA:=bif bif bif w7 then(↑(List.length ((fN.2.2.2).1.2.1)):Int)==0 else false then(↑(List.length ((fN.2.2.2.2.1).1)):Int)==0 else false then(fN.2.2.2.2.1).2.1==0 else false
       let so:=bif aeA then(↑(List.length ((fN.2.2.2.2.2).1)):Int)==0 else false
       let tn:=bif so then(↑(List.length ((fN.2.2.2.2.2).2.1)):Int)==0 else false
       some (tn,())
      else
       let xS:Int:=(↑(List.length (fN.2.2.1)):Int)
       let yT:=Wh.q92' (nE.1.1,(fN.2.2.2).1)
       let x6:=Wh.q54' (fN.2.2.2.2.1,(fN.2.2.2).1)
       let xZ:=bif bif bif r_3.1.2 != xS then true else !yT.1 then true else !x6.1 then true else(↑(List.length ((fN.2.2.2.2.2).1)):Int) != 2
       bif iy [(!!bif r_3.1.2 != xS then true else !yT.1) || nQ (Wh.q54 (fN.2.2.2.2.1,(fN.2.2.2).1)),!!r_3.1.2 != xS || nQ (Wh.q92 (nE.1.1,(fN.2.2.2).1))] then
        bif xZ then
         some (false,())
        else
         let zq:Int:=(↑(List.length ((fN.2.2.2.2.2).1)):Int)
         let x_54:Wh.Uv:=((0,(),(fN.2.2.2.2.2).1,zq),fN)
         bif lF Wh.D3 x_54 then
          sumC (kG Wh.D3 Wh.aaJ x_54) (fun y_55=>
           let v_57:=y_55.1
           some (v_57,())) (fun z_56=>
           let RQ:=z_56.2
           let v_59:Int:=(↑(List.length ((RQ.2.2.2.2.2).2.1)):Int)
           let x_116:Wh.Uw:=((0,(),(RQ.2.2.2.2.2).2.1,v_59),RQ)
           bif lF Wh.CR x_116 then
            sumC (kG Wh.CR Wh.aaK x_116) (fun y_117=>
             let OT:=y_117.1
             some (OT,())) (fun _=>
             some (true,()))
           else none)
         else none
       else none
    else none
   else none
 else none
def Wh.q50':=bx Wh.q50
theorem Wh.Ux:OV Wh.q50 Wh.q50':=e_ _
def Wh.Gv (xs:(an.D)×(an.D)):Option (((Bool))×(Unit)):=
 let bn:=xs.1
 let b_1:=xs.2
 bif(bn.1 != b_1.1) then
  some (false,())
 else
  bif(!bn.2.1==b_1.2.1) then
   some (false,())
  else
   bif(bn.2.2.1 != b_1.2.2.1) then
    some (false,())
   else
    bif(!(bn.2.2.2).1==(b_1.2.2.2).1) then
     some (false,())
    else
     some (true,())
def Wh.SR:=bx Wh.Gv
theorem Wh.ZA:OV Wh.Gv Wh.SR:=e_ _
abbrev Wh.Vb:Type:=((Int)×(List (an.D))×(List (an.D)))×(Unit)
abbrev Wh.ahC:Type:=((((Bool))×(Unit))⊕((Unit)×(Unit)))
def Wh.Hg (x:Wh.Vb):Option (Wh.Vb⊕Wh.ahC):=
 let gv:=x.1.1
 let yG:=x.1.2.1
 let yF:=x.1.2.2
 let ov:Int:=(↑(List.length yF):Int)
 bif decide (gv<ov) then
  let n5:an.D:=List.getD yF (Int.toNat gv) (0,[],0,[],())
  let vN:an.D:=List.getD yG (Int.toNat gv) (0,[],0,[],())
  let x6:=Wh.SR (n5,vN)
  bif iy [nQ (Wh.Gv (n5,vN)),decide (0≤gv),decide (gv<(↑(List.length yG):Int)),decide (0≤gv),decide (gv<ov)] then
   bif !x6.1 then
    some (.inr (.inl (false,())))
   else
    some (.inl (((IntKind.wrap .i64 (gv+1)),yG,yF),()))
  else none
 else
  some (.inr (.inr ((),())))
def Wh.abf:(((Bool))×(Unit))⊕((Unit)×(Unit)):=.inl default
def Wh.q94 (xs:(List (an.D))×(List (an.D))):Option (((Bool))×(Unit)):=
 let bn:=xs.1
 let b_1:=xs.2
 let v_2:Int:=(↑(List.length bn):Int)
 let w8:Int:=(↑(List.length b_1):Int)
 let xU:=v_2 != w8
 bif xU then
  some (false,())
 else
  let x_25:Wh.Vb:=((0,b_1,bn),())
  bif lF Wh.Hg x_25 then
   sumC (kG Wh.Hg Wh.abf x_25) (fun yY=>
    let wX:=yY.1
    some (wX,())) (fun _=>
    some (true,()))
  else none
def Wh.Oz:=bx Wh.q94
theorem Wh.Vc:OV Wh.q94 Wh.Oz:=e_ _
def Wh.GJ (xs:(fk.D)×(fk.D)):Option (((Bool))×(Unit)):=
 let bn:=xs.1
 let b_1:=xs.2
 bif(bn.1 != b_1.1) then
  some (false,())
 else
  let r_3:=Wh.Oz (bn.2.1,b_1.2.1)
  bif iy [nQ (Wh.q94 (bn.2.1,b_1.2.1))] then
   bif !r_3.1 then
    some (false,())
   else
    some (true,())
  else none
def Wh.Tv:=bx Wh.GJ
theorem Wh.Z4:OV Wh.GJ Wh.Tv:=e_ _
def Wh.q93 (xs:(ng.D)×(ng.D)):Option (((Bool))×(Unit)):=
 let bn:=xs.1
 let b_1:=xs.2
 bif(bn.1 != b_1.1) then
  some (false,())
 else
  bif(bn.2.1 != b_1.2.1) then
   some (false,())
  else
   bif(bn.2.2.1 != b_1.2.2.1) then
    some (false,())
   else
    let yw:Bool:=(bn.2.2.2).1 != (b_1.2.2.2).1
    bif yw then
     some (false,())
    else
     bif(!bn.2.2.2.2.1==b_1.2.2.2.2.1) then
      some (false,())
     else
      some (true,())
def Wh.q93':=bx Wh.q93
theorem Wh.q93_v:OV Wh.q93 Wh.q93':=e_ _
abbrev Wh.UJ:Type:=((Int)×(List (ng.D))×(List (ng.D)))×(Unit)
abbrev Wh.ahh:Type:=((((Bool))×(Unit))⊕((Unit)×(Unit)))
def Wh.G8 (x:Wh.UJ):Option (Wh.UJ⊕Wh.ahh):=
 let gv:=x.1.1
 let yG:=x.1.2.1
 let yF:=x.1.2.2
 let ov:Int:=(↑(List.length yF):Int)
 bif decide (gv<ov) then
  let n5:ng.D:=List.getD yF (Int.toNat gv) (0,0,0,0,false,())
  let vN:ng.D:=List.getD yG (Int.toNat gv) (0,0,0,0,false,())
  let x6:=Wh.q93' (n5,vN)
  bif iy [nQ (Wh.q93 (n5,vN)),decide (0≤gv),decide (gv<(↑(List.length yG):Int)),decide (0≤gv),decide (gv<ov)] then
   bif !x6.1 then
    some (.inr (.inl (false,())))
   else
    some (.inl (((IntKind.wrap .i64 (gv+1)),yG,yF),()))
  else none
 else
  some (.inr (.inr ((),())))
def Wh.aaV:(((Bool))×(Unit))⊕((Unit)×(Unit)):=.inl default
def Wh.q58 (xs:(List (ng.D))×(List (ng.D))):Option (((Bool))×(Unit)):=
 let bn:=xs.1
 let b_1:=xs.2
 let v_2:Int:=(↑(List.length bn):Int)
 let w8:Int:=(↑(List.length b_1):Int)
 let xU:=v_2 != w8
 bif xU then
  some (false,())
 else
  let x_25:Wh.UJ:=((0,b_1,bn),())
  bif lF Wh.G8 x_25 then
   sumC (kG Wh.G8 Wh.aaV x_25) (fun yY=>
    let wX:=yY.1
    some (wX,())) (fun _=>
    some (true,()))
  else none
def Wh.q58':=bx Wh.q58
theorem Wh.q58_v:OV Wh.q58 Wh.q58':=e_ _
def Wh.Gx (xs:(n4.D)×(n4.D)):Option (((Bool))×(Unit)):=
 let bn:=xs.1
 let b_1:=xs.2
 let r_2:=Wh.q58' (bn.1,b_1.1)
 bif iy [nQ (Wh.q58 (bn.1,b_1.1))] then
  bif !r_2.1 then
   some (false,())
  else
   bif(bn.2.1 != b_1.2.1) then
    some (false,())
   else
    some (true,())
 else none
def Wh.SS:=bx Wh.Gx
theorem Wh.ZB:OV Wh.Gx Wh.SS:=e_ _
def Wh.q56 (xs:(nI.D)×(nI.D)):Option (((Bool))×(Unit)):=
 let bn:=xs.1
 let b_1:=xs.2
 bif(bn.1 != b_1.1) then
  some (false,())
 else
  bif(bn.2.1 != b_1.2.1) then
   some (false,())
  else
   bif(bn.2.2.1 != b_1.2.2.1) then
    some (false,())
   else
    let yw:Bool:=(bn.2.2.2).1 != (b_1.2.2.2).1
    bif yw then
     some (false,())
    else
     some (true,())
def Wh.q56':=bx Wh.q56
theorem Wh.q56_v:OV Wh.q56 Wh.q56':=e_ _
abbrev Wh.Ui:Type:=((Int)×(List (nI.D))×(List (nI.D)))×(Unit)
abbrev Wh.agW:Type:=((((Bool))×(Unit))⊕((Unit)×(Unit)))
def Wh.G2 (x:Wh.Ui):Option (Wh.Ui⊕Wh.agW):=
 let gv:=x.1.1
 let yG:=x.1.2.1
 let yF:=x.1.2.2
 let ov:Int:=(↑(List.length yF):Int)
 bif decide (gv<ov) then
  let n5:nI.D:=List.getD yF (Int.toNat gv) (0,0,0,0,())
  let vN:nI.D:=List.getD yG (Int.toNat gv) (0,0,0,0,())
  let x6:=Wh.q56' (n5,vN)
  bif iy [nQ (Wh.q56 (n5,vN)),decide (0≤gv),decide (gv<(↑(List.length yG):Int)),decide (0≤gv),decide (gv<ov)] then
   bif !x6.1 then
    some (.inr (.inl (false,())))
   else
    some (.inl (((IntKind.wrap .i64 (gv+1)),yG,yF),()))
  else none
 else
  some (.inr (.inr ((),())))
def Wh.aaz:(((Bool))×(Unit))⊕((Unit)×(Unit)):=.inl default
def Wh.q30 (xs:(List (nI.D))×(List (nI.D))):Option (((Bool))×(Unit)):=
 let bn:=xs.1
 let b_1:=xs.2
 let v_2:Int:=(↑(List.length bn):Int)
 let w8:Int:=(↑(List.length b_1):Int)
 let xU:=v_2 != w8
 bif xU then
  some (false,())
 else
  let x_25:Wh.Ui:=((0,b_1,bn),())
  bif lF Wh.G2 x_25 then
   sumC (kG Wh.G2 Wh.aaz x_25) (fun yY=>
    let wX:=yY.1
    some (wX,())) (fun _=>
    some (true,()))
  else none
def Wh.q30':=bx Wh.q30
theorem Wh.q30_v:OV Wh.q30 Wh.q30':=e_ _
def Wh.q95 (xs:(r5.D)×(r5.D)):Option (((Bool))×(Unit)):=
 let bn:=xs.1
 let b_1:=xs.2
 bif(bn.1 != b_1.1) then
  some (false,())
 else
  bif(bn.2.1 != b_1.2.1) then
   some (false,())
  else
   bif(bn.2.2.1 != b_1.2.2.1) then
    some (false,())
   else
    let yw:Bool:=(bn.2.2.2).1 != (b_1.2.2.2).1
    bif yw then
     some (false,())
    else
     bif(bn.2.2.2.2.1 != b_1.2.2.2.2.1) then
      some (false,())
     else
      let w7:Bool:=(bn.2.2.2.2.2).1 != (b_1.2.2.2.2.2).1
      bif w7 then
       some (false,())
      else
       some (true,())
def Wh.q95':=bx Wh.q95
theorem Wh.q95_v:OV Wh.q95 Wh.q95':=e_ _
abbrev Wh.UK:Type:=((Int)×(List (r5.D))×(List (r5.D)))×(Unit)
abbrev Wh.ahi:Type:=((((Bool))×(Unit))⊕((Unit)×(Unit)))
def Wh.G9 (x:Wh.UK):Option (Wh.UK⊕Wh.ahi):=
 let gv:=x.1.1
 let yG:=x.1.2.1
 let yF:=x.1.2.2
 let ov:Int:=(↑(List.length yF):Int)
 bif decide (gv<ov) then
  let n5:r5.D:=List.getD yF (Int.toNat gv) (0,0,0,0,0,0,())
  let vN:r5.D:=List.getD yG (Int.toNat gv) (0,0,0,0,0,0,())
  let x6:=Wh.q95' (n5,vN)
  bif iy [nQ (Wh.q95 (n5,vN)),decide (0≤gv),decide (gv<(↑(List.length yG):Int)),decide (0≤gv),decide (gv<ov)] then
   bif !x6.1 then
    some (.inr (.inl (false,())))
   else
    some (.inl (((IntKind.wrap .i64 (gv+1)),yG,yF),()))
  else none
 else
  some (.inr (.inr ((),())))
def Wh.aaW:(((Bool))×(Unit))⊕((Unit)×(Unit)):=.inl default
def Wh.q60 (xs:(List (r5.D))×(List (r5.D))):Option (((Bool))×(Unit)):=
 let bn:=xs.1
 let b_1:=xs.2
 let v_2:Int:=(↑(List.length bn):Int)
 let w8:Int:=(↑(List.length b_1):Int)
 let xU:=v_2 != w8
 bif xU then
  some (false,())
 else
  let x_25:Wh.UK:=((0,b_1,bn),())
  bif lF Wh.G9 x_25 then
   sumC (kG Wh.G9 Wh.aaW x_25) (fun yY=>
    let wX:=yY.1
    some (wX,())) (fun _=>
    some (true,()))
  else none
def Wh.q60':=bx Wh.q60
theorem Wh.q60_v:OV Wh.q60 Wh.q60':=e_ _
def Wh.q61 (xs:(nC.D)×(nC.D)):Option (((Bool))×(Unit)):=
 let bn:=xs.1
 let b_1:=xs.2
 bif(!bn.1==b_1.1) then
  some (false,())
 else
  bif(bn.2.1 != b_1.2.1) then
   some (false,())
  else
   bif(!bn.2.2.1==b_1.2.2.1) then
    some (false,())
   else
    let xQ:=Wh.Tv ((bn.2.2.2).1,(b_1.2.2.2).1)
    bif iy [nQ (Wh.GJ ((bn.2.2.2).1,(b_1.2.2.2).1))] then
     bif !xQ.1 then
      some (false,())
     else
      let yz:=Wh.SS (bn.2.2.2.2.1,b_1.2.2.2.2.1)
      bif iy [nQ (Wh.Gx (bn.2.2.2.2.1,b_1.2.2.2.2.1))] then
       bif !yz.1 then
        some (false,())
       else
        let A5:=Wh.q30' ((bn.2.2.2.2.2).1,(b_1.2.2.2.2.2).1)
        bif iy [nQ (Wh.q30 ((bn.2.2.2.2.2).1,(b_1.2.2.2.2.2).1))] then
         bif !A5.1 then
          some (false,())
         else
          let yN:=Wh.q60' ((bn.2.2.2.2.2).2.1,(b_1.2.2.2.2.2).2.1)
          bif iy [nQ (Wh.q60 ((bn.2.2.2.2.2).2.1,(b_1.2.2.2.2.2).2.1))] then
           bif !yN.1 then
            some (false,())
           else
            some (true,())
          else none
        else none
      else none
    else none
def Wh.q61':=bx Wh.q61
theorem Wh.q61_v:OV Wh.q61 Wh.q61':=e_ _
def Wh.Dy (xs:(List (Int))×(Int)):Option (((Int))×(Unit)):=
 let bn:=xs.1
 let left_1:=xs.2
 let v_2:=IntKind.wrap .i64 (left_1-(↑(List.length bn):Int))
 bif decide (v_2<0) then
  some (-1,())
 else
  some (v_2,())
def Wh.JF:=bx Wh.Dy
theorem Wh.N1:OV Wh.Dy Wh.JF:=e_ _
def Wh.Gz (xs:(r_.D)×(Int)):Option (((Int))×(Unit)):=
 let bn:=xs.1
 let left_1:=xs.2
 let r_2:=Wh.JF (bn.2.2.1,left_1)
 bif iy [nQ (Wh.Dy (bn.2.2.1,left_1))] then
  bif decide (r_2.1<0) then
   some (-1,())
  else
   let nE:=Wh.JF ((bn.2.2.2).1,r_2.1)
   bif iy [nQ (Wh.Dy ((bn.2.2.2).1,r_2.1))] then
    bif decide (nE.1<0) then
     some (-1,())
    else
     some (nE.1,())
   else none
 else none
def Wh.SW:=bx Wh.Gz
theorem Wh.ZC:OV Wh.Gz Wh.SW:=e_ _
def Wh.G0 (xs:(nW.D)×(Int)):Option (((Int))×(Unit)):=
 let bn:=xs.1
 let left_1:=xs.2
 let r_2:=Wh.JF (bn.1,left_1)
 bif iy [nQ (Wh.Dy (bn.1,left_1))] then
  bif decide (r_2.1<0) then
   some (-1,())
  else
   let xU:Int:=(↑(List.length bn.2.1):Int)
   let XC:=IntKind.wrap .i64 (r_2.1-xU)
   bif decide (XC<0) then
    some (-1,())
   else
    some (XC,())
 else none
def Wh.T6:=bx Wh.G0
theorem Wh.T7:OV Wh.G0 Wh.T6:=e_ _
abbrev Wh.TA:Type:=((Int)×(Int)×(List (nW.D)))×(Unit)
abbrev Wh.agA:Type:=((((Int))×(Unit))⊕(((Int))×(Unit)))
def Wh.E0 (x:Wh.TA):Option (Wh.TA⊕Wh.agA):=
 let xN:=x.1.1
 let AD:=x.1.2.1
 let Ax:=x.1.2.2
 let nG:Int:=(↑(List.length Ax):Int)
 bif decide (xN<nG) then
  let vN:=List.getD Ax (Int.toNat xN) ([],[],())
  let x6:=Wh.T6 (vN,AD)
  bif iy [nQ (Wh.G0 (vN,AD)),decide (0≤xN),decide (xN<nG)] then
   bif decide (x6.1<0) then
    some (.inr (.inl (-1,())))
   else
    some (.inl (((IntKind.wrap .i64 (xN+1)),x6.1,Ax),()))
  else none
 else
  some (.inr (.inr (AD,())))
def Wh.TC:(((Int))×(Unit))⊕(((Int))×(Unit)):=.inl default
def Wh.GN (xs:(List (nW.D))×(Int)):Option (((Int))×(Unit)):=
 let bn:=xs.1
 let left_1:=xs.2
 let v_2:Int:=(↑(List.length bn):Int)
 let yj:=IntKind.wrap .i64 (left_1-v_2)
 bif decide (yj<0) then
  some (-1,())
 else
  let Ai:Wh.TA:=((0,yj,bn),())
  bif lF Wh.E0 Ai then
   sumC (kG Wh.E0 Wh.TC Ai) (fun Bq=>
    let yV:=Bq.1
    some (yV,())) (fun Er=>
    let F9:=Er.1
    some (F9,()))
  else none
def Wh.Tz:=bx Wh.GN
theorem Wh.Z7:OV Wh.GN Wh.Tz:=e_ _
def Wh.q68 (xs:(mb.D)×(Int)):Option (((Int))×(Unit)):=
 let bn:=xs.1
 let left_1:=xs.2
 let r_2:=Wh.Tz (bn.2.2.1,left_1)
 bif iy [nQ (Wh.GN (bn.2.2.1,left_1))] then
  bif decide (r_2.1<0) then
   some (-1,())
  else
   some (r_2.1,())
 else none
def Wh.q68':=bx Wh.q68
theorem Wh.q68_v:OV Wh.q68 Wh.q68':=e_ _
def Wh.q36 (xs:(xO.D)×(Int)):Option (((Int))×(Unit)):=
 let bn:=xs.1
 let left_1:=xs.2
 let r_2:=Wh.SW (bn.1,left_1)
 bif iy [nQ (Wh.Gz (bn.1,left_1))] then
  bif decide (r_2.1<0) then
   some (-1,())
  else
   let nE:=Wh.q68' (bn.2.1,r_2.1)
   bif iy [nQ (Wh.q68 (bn.2.1,r_2.1))] then
    bif decide (nE.1<0) then
     some (-1,())
    else
     some (nE.1,())
   else none
 else none
def Wh.q36':=bx Wh.q36
theorem Wh.q36_v:OV Wh.q36 Wh.q36':=e_ _
def Wh.q63 (xs:(nc.D)×(Int)):Option (((Int))×(Unit)):=
 let bn:=xs.1
 let left_1:=xs.2
 let v_2:Int:=(↑(List.length ((bn.2.2.2).1)):Int)
 let yj:=IntKind.wrap .i64 (left_1-v_2)
 bif decide (yj<0) then
  some (-1,())
 else
  let yz:=Wh.q36' ((bn.2.2.2.2.2).1,yj)
  bif iy [nQ (Wh.q36 ((bn.2.2.2.2.2).1,yj))] then
   bif decide (yz.1<0) then
    some (-1,())
   else
    some (yz.1,())
  else none
def Wh.q63':=bx Wh.q63
theorem Wh.UL:OV Wh.q63 Wh.q63':=e_ _
abbrev Wh.Ul:Type:=((Int)×(Int)×(List (nc.D)))×(Unit)
abbrev Wh.agZ:Type:=((((Int))×(Unit))⊕(((Int))×(Unit)))
def Wh.DY (x:Wh.Ul):Option (Wh.Ul⊕Wh.agZ):=
 let xN:=x.1.1
 let AD:=x.1.2.1
 let Ax:=x.1.2.2
 let nG:Int:=(↑(List.length Ax):Int)
 bif decide (xN<nG) then
  let vN:=List.getD Ax (Int.toNat xN) (0,0,0,[],0,((0,0,[],[],()),(0,0,[],()),()),())
  let x6:=Wh.q63' (vN,AD)
  bif iy [nQ (Wh.q63 (vN,AD)),decide (0≤xN),decide (xN<nG)] then
   bif decide (x6.1<0) then
    some (.inr (.inl (-1,())))
   else
    some (.inl (((IntKind.wrap .i64 (xN+1)),x6.1,Ax),()))
  else none
 else
  some (.inr (.inr (AD,())))
def Wh.aaC:(((Int))×(Unit))⊕(((Int))×(Unit)):=.inl default
def Wh.q35 (xs:(List (nc.D))×(Int)):Option (((Int))×(Unit)):=
 let bn:=xs.1
 let left_1:=xs.2
 let v_2:Int:=(↑(List.length bn):Int)
 let yj:=IntKind.wrap .i64 (left_1-v_2)
 bif decide (yj<0) then
  some (-1,())
 else
  let Ai:Wh.Ul:=((0,yj,bn),())
  bif lF Wh.DY Ai then
   sumC (kG Wh.DY Wh.aaC Ai) (fun Bq=>
    let yV:=Bq.1
    some (yV,())) (fun Er=>
    let F9:=Er.1
    some (F9,()))
  else none
def Wh.q35':=bx Wh.q35
theorem Wh.q35_v:OV Wh.q35 Wh.q35':=e_ _
def Wh.q65 (xs:(pg.D)×(Int)):Option (((Int))×(Unit)):=
 let bn:=xs.1
 let left_1:=xs.2
 let v_2:Int:=(↑(List.length bn.2.1):Int)
 let yj:=IntKind.wrap .i64 (left_1-v_2)
 bif decide (yj<0) then
  some (-1,())
 else
  some (yj,())
def Wh.q65':=bx Wh.q65
theorem Wh.UM:OV Wh.q65 Wh.q65':=e_ _
end
