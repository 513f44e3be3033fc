import Derived.Test.YtfeoanopdlpabaaGreatDoorX7
open Go Go.Ab
noncomputable section
abbrev Wh.Um:Type:=((Int)×(Int)×(List (pg.D)))×(Unit)
abbrev Wh.ag0:Type:=((((Int))×(Unit))⊕(((Int))×(Unit)))
def Wh.Fg (x:Wh.Um):Option (Wh.Um⊕Wh.ag0):=
 let xN:=x.1.1
 let AD:=x.1.2.1
 let Ax:=x.1.2.2
 let nG:Int:=(↑(List.length Ax):Int)
 bif decide (xN<nG) then
  let vN:=List.getD Ax (Int.toNat xN) (0,[],false,())
  let x6:=Wh.q65' (vN,AD)
  bif iy [nQ (Wh.q65 (vN,AD)),decide (0≤xN),decide (xN<nG)] then
   bif decide (x6.1<0) then
    some (.inr (.inl (-1,())))
   else
    some (.inl (((IntKind.wrap .i64 (xN+1)),x6.1,Ax),()))
  else none
 else
  some (.inr (.inr (AD,())))
def Wh.Un:(((Int))×(Unit))⊕(((Int))×(Unit)):=.inl default
def Wh.q37 (xs:(List (pg.D))×(Int)):Option (((Int))×(Unit)):=
 let bn:=xs.1
 let left_1:=xs.2
 let v_2:Int:=(↑(List.length bn):Int)
 let yj:=IntKind.wrap .i64 (left_1-v_2)
 bif decide (yj<0) then
  some (-1,())
 else
  let Ai:Wh.Um:=((0,yj,bn),())
  bif lF Wh.Fg Ai then
   sumC (kG Wh.Fg Wh.Un Ai) (fun Bq=>
    let yV:=Bq.1
    some (yV,())) (fun Er=>
    let F9:=Er.1
    some (F9,()))
  else none
def Wh.q37':=bx Wh.q37
theorem Wh.q37_v:OV Wh.q37 Wh.q37':=e_ _
def Wh.q98 (xs:(fT.D)×(Int)):Option (((Int))×(Unit)):=
 let bn:=xs.1
 let left_1:=xs.2
 let r_2:=Wh.q67' (bn.1,left_1)
 bif iy [nQ (Wh.q67 (bn.1,left_1))] then
  bif decide (r_2.1<0) then
   some (-1,())
  else
   let nE:=Wh.q35' (bn.2.1,r_2.1)
   bif iy [nQ (Wh.q35 (bn.2.1,r_2.1))] then
    bif decide (nE.1<0) then
     some (-1,())
    else
     let yz:=Wh.q37' (bn.2.2.1,nE.1)
     bif iy [nQ (Wh.q37 (bn.2.2.1,nE.1))] then
      bif decide (yz.1<0) then
       some (-1,())
      else
       let yN:=Wh.OA ((bn.2.2.2).1,yz.1)
       bif iy [nQ (Wh.q97 ((bn.2.2.2).1,yz.1))] then
        bif decide (yN.1<0) then
         some (-1,())
        else
         some (yN.1,())
       else none
     else none
   else none
 else none
def Wh.q98':=bx Wh.q98
theorem Wh.q98_v:OV Wh.q98 Wh.q98':=e_ _
abbrev Wh.SY:Type:=((Int)×(List (Int))×(Unit))×((List (Int)))
abbrev Wh.agl:Type:=((((Unit))×((List (Int)))))
def Wh.ET (x:Wh.SY):Option (Wh.SY⊕Wh.agl):=
 let yA:=x.1.1
 let a_10:=x.1.2.1
 let Df:=x.2
 let yh:=decide (yA<(↑(List.length a_10):Int))
 bif yh then
  let ED:=List.set Df (Int.toNat yA) (List.getD a_10 (Int.toNat yA) 0)
  bif iy [decide (0≤yA),decide (yA<(↑(List.length Df):Int)),decide (0≤yA),yh] then
   some (.inl (((IntKind.wrap .i64 (yA+1)),a_10,()),ED))
  else none
 else
  some (.inr ((),Df))
def Wh.ZE:(((Unit))×((List (Int)))):=default
def Wh.Dz (xs:(List (Int))):Option (((List (Int)))×(Unit)):=
 let bn:=xs
 let y6:List Int:=List.replicate (Int.toNat (↑(List.length bn):Int)) 0
 bif iy [decide (0≤(↑(List.length bn):Int)),decide ((↑(List.length bn):Int)≤(↑(List.length bn):Int)),decide ((↑(List.length bn):Int)≤(↑dh:Int))] then
  let x_16:Wh.SY:=((0,bn,()),y6)
  bif lF Wh.ET x_16 then
   let KB:=kG Wh.ET Wh.ZE x_16
   let w9:=KB.2
   some (w9,())
  else none
 else none
def Wh.JG:=bx Wh.Dz
theorem Wh.N2:OV Wh.Dz Wh.JG:=e_ _
def Wh.GB (xs:(r_.D)):Option ((((Int)×((Int)×((List (Int))×((List (Int))×(Unit))))))×(Unit)):=
 let bn:r_.D:=xs
 let r_1:=Wh.JG (bn.2.2.1)
 bif iy [nQ (Wh.Dz (bn.2.2.1))] then
  let r_2:=Wh.JG ((bn.2.2.2).1)
  bif iy [nQ (Wh.Dz ((bn.2.2.2).1))] then
   some ((bn.1,bn.2.1,r_1.1,r_2.1,()),())
  else none
 else none
def Wh.S1:=bx Wh.GB
theorem Wh.ZH:OV Wh.GB Wh.S1:=e_ _
def Wh.G1 (xs:(nW.D)):Option ((((List (Int))×(Eg.D)))×(Unit)):=
 let bn:=xs
 let r_1:=Wh.JG bn.1
 bif iy [nQ (Wh.Dz bn.1)] then
  some ((r_1.1,bn.2.1,()),())
 else none
def Wh.T8:=bx Wh.G1
theorem Wh.aar:OV Wh.G1 Wh.T8:=e_ _
abbrev Wh.TF:Type:=((Int)×(List (nW.D))×(Unit))×((List (nW.D)))
abbrev Wh.agB:Type:=((((Unit))×((List (nW.D)))))
def Wh.E3 (x:Wh.TF):Option (Wh.TF⊕Wh.agB):=
 let nP:=x.1.1
 let xX:=x.1.2.1
 let x9:=x.2
 let xd:Int:=(↑(List.length xX):Int)
 bif decide (nP<xd) then
  let Ad:=Wh.T8 (List.getD xX (Int.toNat nP) ([],[],()))
  let w9:=List.set x9 (Int.toNat nP) Ad.1
  let nG:=List.getD xX (Int.toNat nP) ([],[],())
  bif iy [decide (0≤nP),decide (nP<(↑(List.length x9):Int)),nQ (Wh.G1 nG),decide (0≤nP),decide (nP<xd)] then
   some (.inl (((IntKind.wrap .i64 (nP+1)),xX,()),w9))
  else none
 else
  some (.inr ((),x9))
def Wh.Z9:(((Unit))×((List (nW.D)))):=default
def Wh.GP (xs:(List (nW.D))):Option (((List (nW.D)))×(Unit)):=
 let bn:=xs
 let y6:List (nW.D):=@List.replicate (List Int×List UInt8×Unit) (Int.toNat (↑(List.length bn):Int)) ([],[],())
 let v_2:Int:=(↑(List.length bn):Int)
 bif iy [decide (0≤v_2),decide (v_2≤v_2),decide (v_2≤(↑dh:Int))] then
  let x_21:Wh.TF:=((0,bn,()),y6)
  bif lF Wh.E3 x_21 then
   let AK:=kG Wh.E3 Wh.Z9 x_21
   let zg:=AK.2
   some (zg,())
  else none
 else none
def Wh.TE:=bx Wh.GP
theorem Wh.Z_:OV Wh.GP Wh.TE:=e_ _
def Wh.q75 (xs:(mb.D)):Option ((((Int)×((Int)×((List (nW.D))×(Unit)))))×(Unit)):=
 let bn:=xs
 let r_1:=Wh.TE (bn.2.2.1)
 bif iy [nQ (Wh.GP (bn.2.2.1))] then
  some ((bn.1,bn.2.1,r_1.1,()),())
 else none
def Wh.q75':=bx Wh.q75
theorem Wh.q75_v:OV Wh.q75 Wh.q75':=e_ _
def Wh.q40 (xs:(xO.D)):Option (((((Int)×((Int)×((List (Int))×((List (Int))×(Unit)))))×(((Int)×((Int)×((List (nW.D))×(Unit))))×(Unit))))×(Unit)):=
 let bn:=xs
 let r_1:=Wh.S1 bn.1
 bif iy [nQ (Wh.GB bn.1)] then
  let r_2:=Wh.q75' bn.2.1
  bif iy [nQ (Wh.q75 bn.2.1)] then
   some ((r_1.1,r_2.1,()),())
  else none
 else none
def Wh.q40':=bx Wh.q40
theorem Wh.q40_v:OV Wh.q40 Wh.q40':=e_ _
def Wh.q70 (xs:(nc.D)):Option ((((Int)×((Int)×((Int)×((List UInt8)×((Int)×((((Int)×((Int)×((List (Int))×((List (Int))×(Unit)))))×(((Int)×((Int)×((List (nW.D))×(Unit))))×(Unit)))×(Unit))))))))×(Unit)):=
 let bn:=xs
 let r_1:=Wh.q40' ((bn.2.2.2.2.2).1)
 bif iy [nQ (Wh.q40 ((bn.2.2.2.2.2).1))] then
  some ((bn.1,bn.2.1,bn.2.2.1,(bn.2.2.2).1,bn.2.2.2.2.1,r_1.1,()),())
 else none
def Wh.q70':=bx Wh.q70
theorem Wh.q70_v:OV Wh.q70 Wh.q70':=e_ _
abbrev Wh.Up:Type:=((Int)×(List (nc.D))×(Unit))×((List (nc.D)))
abbrev Wh.ag2:Type:=((((Unit))×((List (nc.D)))))
def Wh.Fi (x:Wh.Up):Option (Wh.Up⊕Wh.ag2):=
 let nP:=x.1.1
 let xX:=x.1.2.1
 let x9:=x.2
 let xd:Int:=(↑(List.length xX):Int)
 bif decide (nP<xd) then
  let Ad:=Wh.q70' (List.getD xX (Int.toNat nP) (0,0,0,[],0,((0,0,[],[],()),(0,0,[],()),()),()))
  let w9:=List.set x9 (Int.toNat nP) Ad.1
  let nG:=List.getD xX (Int.toNat nP) (0,0,0,[],0,((0,0,[],[],()),(0,0,[],()),()),())
  bif iy [decide (0≤nP),decide (nP<(↑(List.length x9):Int)),nQ (Wh.q70 nG),decide (0≤nP),decide (nP<xd)] then
   some (.inl (((IntKind.wrap .i64 (nP+1)),xX,()),w9))
  else none
 else
  some (.inr ((),x9))
def Wh.aaE:(((Unit))×((List (nc.D)))):=default
def Wh.q39 (xs:(List (nc.D))):Option (((List (nc.D)))×(Unit)):=
 let bn:=xs
 let y6:List (nc.D):=@List.replicate (Int×Int×Int×List UInt8×Int×((Int×Int×List Int×List Int×Unit)×(Int×Int×List (List Int×List UInt8×Unit)×Unit)×Unit)×Unit) (Int.toNat (↑(List.length bn):Int)) (0,0,0,[],0,((0,0,[],[],()),(0,0,[],()),()),())
 let v_2:Int:=(↑(List.length bn):Int)
 bif iy [decide (0≤v_2),decide (v_2≤v_2),decide (v_2≤(↑dh:Int))] then
  let x_21:Wh.Up:=((0,bn,()),y6)
  bif lF Wh.Fi x_21 then
   let AK:=kG Wh.Fi Wh.aaE x_21
   let zg:=AK.2
   some (zg,())
  else none
 else none
def Wh.q39':=bx Wh.q39
theorem Wh.q39_v:OV Wh.q39 Wh.q39':=e_ _
def Wh.q72 (xs:(pg.D)):Option (((pg.D))×(Unit)):=
 let bn:=xs
 some ((bn.1,bn.2.1,bn.2.2.1,()),())
def Wh.q72':=bx Wh.q72
theorem Wh.q72_v:OV Wh.q72 Wh.q72':=e_ _
abbrev Wh.Ur:Type:=((Int)×(List (pg.D))×(Unit))×((List (pg.D)))
abbrev Wh.ag3:Type:=((((Unit))×((List (pg.D)))))
def Wh.Fj (x:Wh.Ur):Option (Wh.Ur⊕Wh.ag3):=
 let nP:=x.1.1
 let xX:=x.1.2.1
 let x9:=x.2
 let xd:Int:=(↑(List.length xX):Int)
 bif decide (nP<xd) then
  let Ad:=Wh.q72' (List.getD xX (Int.toNat nP) (0,[],false,()))
  let w9:=List.set x9 (Int.toNat nP) Ad.1
  let nG:=List.getD xX (Int.toNat nP) (0,[],false,())
  bif iy [decide (0≤nP),decide (nP<(↑(List.length x9):Int)),nQ (Wh.q72 nG),decide (0≤nP),decide (nP<xd)] then
   some (.inl (((IntKind.wrap .i64 (nP+1)),xX,()),w9))
  else none
 else
  some (.inr ((),x9))
def Wh.aaG:(((Unit))×((List (pg.D)))):=default
def Wh.q41 (xs:(List (pg.D))):Option (((List (pg.D)))×(Unit)):=
 let bn:=xs
 let y6:List (pg.D):=@List.replicate (Int×List UInt8×Bool×Unit) (Int.toNat (↑(List.length bn):Int)) (0,[],false,())
 let v_2:Int:=(↑(List.length bn):Int)
 bif iy [decide (0≤v_2),decide (v_2≤v_2),decide (v_2≤(↑dh:Int))] then
  let x_21:Wh.Ur:=((0,bn,()),y6)
  bif lF Wh.Fj x_21 then
   let AK:=kG Wh.Fj Wh.aaG x_21
   let zg:=AK.2
   some (zg,())
  else none
 else none
def Wh.q41':=bx Wh.q41
theorem Wh.q41_v:OV Wh.q41 Wh.q41':=e_ _
def Wh.Dp (xs:(fT.D)):Option (((((Bool)×((Int)×((List UInt8)×(((Int)×((List (an.D))×(Unit)))×(((List (ng.D))×((Int)×(Unit)))×((List (nI.D))×((List (r5.D))×(Unit))))))))×((List (nc.D))×((List (pg.D))×((List (an.D))×(Unit))))))×(Unit)):=
 let bn:=xs
 let r_1:=Wh.q74' bn.1
 bif iy [nQ (Wh.q74 bn.1)] then
  let r_2:=Wh.q39' bn.2.1
  bif iy [nQ (Wh.q39 bn.2.1)] then
   let r_3:=Wh.q41' (bn.2.2.1)
   bif iy [nQ (Wh.q41 (bn.2.2.1))] then
    let nE:=Wh.NV ((bn.2.2.2).1)
    bif iy [nQ (Wh.EK ((bn.2.2.2).1))] then
     some ((r_1.1,r_2.1,r_3.1,nE.1,()),())
    else none
   else none
  else none
 else none
def Wh.Sp:=bx Wh.Dp
theorem Wh.Za:OV Wh.Dp Wh.Sp:=e_ _
abbrev Wh.SA:Type:=((Int)×(Unit)×(Unit))×((fT.D)×((Int)×((Unit)×(Unit)))×(List (an.D)))
abbrev Wh.af9:Type:=((((Bool))×(Unit))⊕(((Unit)×(Unit))×((fT.D)×((Int)×((Unit)×(Unit)))×(List (an.D)))))
def Wh.Dv (x:Wh.SA):Option (Wh.SA⊕Wh.af9):=
 let xN:=x.1.1
 let xb:=x.2.1
 let w9:=x.2.2.1.1
 let yu:=(x.2.2.1).2.2
 let zf:=x.2.2.2
 let vN:Int:=(↑(List.length zf):Int)
 bif decide (xN<vN) then
  let zv:an.D:=List.getD zf (Int.toNat xN) (0,[],0,[],())
  bif iy [decide (0≤xN),decide (xN<vN)] then
   let yD:Int:=(↑(List.length ((xb.2.2.2).1)):Int)
   let zq:=bif decide (zv.2.2.1≤yD) then !(Prod.fst (List.getD ((xb.2.2.2).1) (Int.toNat (IntKind.wrap .i64 (zv.2.2.1-1))) (0,[],0,[],()))==zv.1&&(Prod.fst (Prod.snd (List.getD ((xb.2.2.2).1) (Int.toNat (IntKind.wrap .i64 (zv.2.2.1-1))) (0,[],0,[],())))==zv.2.1&&(Prod.fst (Prod.snd (Prod.snd (List.getD ((xb.2.2.2).1) (Int.toNat (IntKind.wrap .i64 (zv.2.2.1-1))) (0,[],0,[],()))))==zv.2.2.1&&(Prod.fst (Prod.snd (Prod.snd (Prod.snd (List.getD ((xb.2.2.2).1) (Int.toNat (IntKind.wrap .i64 (zv.2.2.1-1))) (0,[],0,[],())))))==(zv.2.2.2).1&&true)))) else false
   bif iy [!decide (zv.2.2.1≤yD) || decide (0≤IntKind.wrap .i64 (zv.2.2.1-1)),!decide (zv.2.2.1≤yD) || decide (IntKind.wrap .i64 (zv.2.2.1-1)<yD)] then
    bif zq then
     some (.inr (.inl (false,())))
    else
     some (.inl (((IntKind.wrap .i64 (xN+1)),(),()),xb,(w9,(),yu),zf))
   else none
  else none
 else
  some (.inr (.inr (((),()),xb,(w9,(),yu),zf)))
def Wh.Zl:(((Bool))×(Unit))⊕(((Unit)×(Unit))×((fT.D)×((Int)×((Unit)×(Unit)))×(List (an.D)))):=.inl default
def Wh.Gm (xs:(fT.D)):Option (((Bool))×(Unit)):=
 let w_0:=xs
 let r_1:=Wh.JJ ((w_0.1.2.2).1)
 bif iy [nQ (Wh.B7 ((w_0.1.2.2).1))] then
  let r_2:=Wh.JN r_1.1.1
  bif iy [nQ (Wh.CM r_1.1.1)] then
   let FH:Wh.SA:=((0,(),()),w_0,(r_2.1.1.1,(),r_2.1.1.2.2),(r_2.1.1.2).1)
   bif lF Wh.Dv FH then
    sumC (kG Wh.Dv Wh.Zl FH) (fun FM=>
     let v_32:=FM.1
     some (v_32,())) (fun Iv=>
     let z8:=Iv.2.1
     let ye:=Iv.2.2.1.1
     let Ei:Int:=(↑(List.length ((z8.2.2.2).1)):Int)
     let Ip:=Wh.nS (ye,Ei,IntKind.wrap .i64 (Ei+1))
     bif iy [nQ (Wh.xe (ye,Ei,IntKind.wrap .i64 (Ei+1)))] then
      some (Ip.1,())
     else none)
   else none
  else none
 else none
def Wh.Sz:=bx Wh.Gm
theorem Wh.Zm:OV Wh.Gm Wh.Sz:=e_ _
abbrev Wh.UY:Type:=((Int)×(Unit))×((fT.D))
abbrev Wh.ahr:Type:=((((Bool))×(Unit))⊕(((Unit))×((fT.D))))
def Wh.D8 (x:Wh.UY):Option (Wh.UY⊕Wh.ahr):=
 let Jj:=x.1.1
 let zV:=x.2
 let Av:Int:=(↑(List.length ((zV.1.2.2.2.1).2.1)):Int)
 bif decide (Jj<Av) then
  let Bd:an.D:=List.getD ((zV.1.2.2.2.1).2.1) (Int.toNat Jj) (0,[],0,[],())
  bif iy [decide (0≤Jj),decide (Jj<Av)] then
   let Hw:Int:=(↑(List.length ((zV.2.2.2).1)):Int)
   let OY:=bif decide (Bd.2.2.1>Hw) then true else !(Prod.fst (List.getD ((zV.2.2.2).1) (Int.toNat (IntKind.wrap .i64 (Bd.2.2.1-1))) (0,[],0,[],()))==Bd.1&&(Prod.fst (Prod.snd (List.getD ((zV.2.2.2).1) (Int.toNat (IntKind.wrap .i64 (Bd.2.2.1-1))) (0,[],0,[],())))==Bd.2.1&&(Prod.fst (Prod.snd (Prod.snd (List.getD ((zV.2.2.2).1) (Int.toNat (IntKind.wrap .i64 (Bd.2.2.1-1))) (0,[],0,[],()))))==Bd.2.2.1&&(Prod.fst (Prod.snd (Prod.snd (Prod.snd (List.getD ((zV.2.2.2).1) (Int.toNat (IntKind.wrap .i64 (Bd.2.2.1-1))) (0,[],0,[],())))))==(Bd.2.2.2).1&&true))))
   bif iy [!!decide (Bd.2.2.1>Hw) || decide (0≤IntKind.wrap .i64 (Bd.2.2.1-1)),!!decide (Bd.2.2.1>Hw) || decide (IntKind.wrap .i64 (Bd.2.2.1-1)<Hw)] then
    bif OY then
     some (.inr (.inl (false,())))
    else
     some (.inl (((IntKind.wrap .i64 (Jj+1)),()),zV))
   else none
  else none
 else
  some (.inr (.inr ((),zV)))
def Wh.aa5:(((Bool))×(Unit))⊕(((Unit))×((fT.D))):=.inl default
abbrev Wh.UX:Type:=((Int)×(Unit))×((fT.D))
abbrev Wh.ahq:Type:=((((Bool))×(Unit))⊕(((Unit))×((fT.D))))
def Wh.D7 (x:Wh.UX):Option (Wh.UX⊕Wh.ahq):=
 let nP:=x.1.1
 let ED:=x.2
 let so:Int:=(↑(List.length ((ED.2.2.2).1)):Int)
 bif decide (nP<so) then
  let tn:an.D:=List.getD ((ED.2.2.2).1) (Int.toNat nP) (0,[],0,[],())
  let yT:=Wh.DQ tn
  let vN:=bif !yT.1 then true else tn.2.2.1 != IntKind.wrap .i64 (nP+1)
  bif iy [!!!(Wh.DQ tn).1 || decide (0≤nP),!!!(Wh.DQ tn).1 || decide (nP<so),nQ (Wh.B_ tn),decide (0≤nP),decide (nP<so)] then
   bif vN then
    some (.inr (.inl (false,())))
   else
    some (.inl (((IntKind.wrap .i64 (nP+1)),()),ED))
  else none
 else
  some (.inr (.inr ((),ED)))
def Wh.aa4:(((Bool))×(Unit))⊕(((Unit))×((fT.D))):=.inl default
def Wh.q81 (xs:(fT.D)):Option (((Bool))×(Unit)):=
 let w_0:=xs
 let x_23:Wh.UX:=((0,()),w_0)
 bif lF Wh.D7 x_23 then
  sumC (kG Wh.D7 Wh.aa4 x_23) (fun y_24=>
   let xZ:=y_24.1
   some (xZ,())) (fun z_25=>
   let y5:=z_25.2
   let FJ:Wh.UY:=((0,()),y5)
   bif lF Wh.D8 FJ then
    sumC (kG Wh.D8 Wh.aa5 FJ) (fun FO=>
     let zb:=FO.1
     some (zb,())) (fun O4=>
     let AX:=O4.2
     bif AX.1.1 then
      let BQ:Int:=(↑(List.length ((AX.2.2.2).1)):Int)
      let v_55:Bool:=(AX.1.2.2.2.1).1==BQ
      some (v_55,())
     else
      let r_56:=Wh.Sz AX
      bif iy [nQ (Wh.Gm AX)] then
       some (r_56.1,())
      else none)
   else none)
 else none
def Wh.q81':=bx Wh.q81
theorem Wh.q81_v:OV Wh.q81 Wh.q81':=e_ _
def Wh.Gk (xs:(nc.D)):Option (((Bool))×(Unit)):=
 let fe:=xs
 let v_1:Int:=(↑(List.length ((fe.2.2.2.2.2).1.1.2.2.1)):Int)
 let xd:=bif bif bif bif bif bif v_1==0 then(↑(List.length ((fe.2.2.2.2.2).1.1.2.2.2.1)):Int)==0 else false then(fe.2.2.2.2.2).1.1.1==0 else false then(fe.2.2.2.2.2).1.1.2.1==0 else false then(fe.2.2.2.2.2).1.2.1.1==0 else false then(fe.2.2.2.2.2).1.2.1.2.1==0 else false then(↑(List.length ((fe.2.2.2.2.2).1.2.1.2.2.1)):Int)==0 else false
 some (xd,())
def Wh.Sy:=bx Wh.Gk
theorem Wh.Zk:OV Wh.Gk Wh.Sy:=e_ _
abbrev Wh.S5:Type:=((Int)×(Unit))×((r_.D))
abbrev Wh.ago:Type:=((((Bool))×(Unit))⊕(((Unit))×((r_.D))))
def Wh.BJ (x:Wh.S5):Option (Wh.S5⊕Wh.ago):=
 let yP:=x.1.1
 let yB:=x.2
 let ym:Int:=(↑(List.length (yB.2.2.1)):Int)
 bif decide (yP<ym) then
  let Bo:=List.getD (yB.2.2.1) (Int.toNat yP) 0
  let As:=Wh.y8 yB
  let Hl:=Wh.nS (Bo,1,As.1)
  let r_48:=Wh.nS (List.getD ((yB.2.2.2).1) (Int.toNat yP) 0,1,99)
  let Em:=bif bif !Hl.1 then true else bif decide (yP>0) then decide (List.getD (yB.2.2.1) (Int.toNat (IntKind.wrap .i64 (yP-1))) 0≥Bo) else false then true else !r_48.1
  bif iy [(!!bif !Prod.fst (Wh.nS (Bo,1,As.1)) then true else bif decide (yP>0) then decide (List.getD (yB.2.2.1) (Int.toNat (IntKind.wrap .i64 (yP-1))) 0≥Bo) else false) || nQ (Wh.xe (List.getD ((yB.2.2.2).1) (Int.toNat yP) 0,1,99)),(!!bif !Prod.fst (Wh.nS (Bo,1,As.1)) then true else bif decide (yP>0) then decide (List.getD (yB.2.2.1) (Int.toNat (IntKind.wrap .i64 (yP-1))) 0≥Bo) else false) || decide (0≤yP),(!!bif !Prod.fst (Wh.nS (Bo,1,As.1)) then true else bif decide (yP>0) then decide (List.getD (yB.2.2.1) (Int.toNat (IntKind.wrap .i64 (yP-1))) 0≥Bo) else false) || decide (yP<(↑(List.length ((yB.2.2.2).1)):Int)),!(decide (yP>0) && !!Prod.fst (Wh.nS (Bo,1,As.1))) || decide (0≤yP),!(decide (yP>0) && !!Prod.fst (Wh.nS (Bo,1,As.1))) || decide (yP<ym),!(decide (yP>0) && !!Prod.fst (Wh.nS (Bo,1,As.1))) || decide (0≤IntKind.wrap .i64 (yP-1)),!(decide (yP>0) && !!Prod.fst (Wh.nS (Bo,1,As.1))) || decide (IntKind.wrap .i64 (yP-1)<ym),nQ (Wh.xe (Bo,1,As.1)),nQ (Wh.z_ yB),decide (0≤yP),decide (yP<ym)] then
   bif Em then
    some (.inr (.inl (false,())))
   else
    some (.inl (((IntKind.wrap .i64 (yP+1)),()),yB))
  else none
 else
  some (.inr (.inr ((),yB)))
def Wh.ZL:(((Bool))×(Unit))⊕(((Unit))×((r_.D))):=.inl default
def Wh.Bg (xs:(r_.D)):Option (((Bool))×(Unit)):=
 let vT:r_.D:=xs
 let r_1:=Wh.nS (vT.1,1,300)
 let r_2:=Wh.nS (vT.2.1,1,16)
 let xQ:=Wh.y8 vT
 let Fz:=Wh.nS ((↑(List.length (vT.2.2.1)):Int),1,3)
 let J6:=Wh.nS (xQ.1,1,24)
 let tn:=bif bif bif bif !r_1.1 then true else !r_2.1 then true else !J6.1 then true else !Fz.1 then true else(↑(List.length ((vT.2.2.2).1)):Int) != (↑(List.length (vT.2.2.1)):Int)
 bif iy [(!!bif bif !r_1.1 then true else !r_2.1 then true else !Prod.fst (Wh.nS (xQ.1,1,24))) || nQ (Wh.xe ((↑(List.length (vT.2.2.1)):Int),1,3)),(!!bif !r_1.1 then true else !r_2.1) || nQ (Wh.xe (xQ.1,1,24)),(!!bif !r_1.1 then true else !r_2.1) || nQ (Wh.z_ vT),!!!r_1.1 || nQ (Wh.xe (vT.2.1,1,16)),nQ (Wh.xe (vT.1,1,300))] then
  bif tn then
   some (false,())
  else
   let x_51:Wh.S5:=((0,()),vT)
   bif lF Wh.BJ x_51 then
    sumC (kG Wh.BJ Wh.ZL x_51) (fun y_52=>
     let xV:=y_52.1
     some (xV,())) (fun z_53=>
     let EG:=z_53.2
     let Bp:Int:=(↑(List.length (EG.2.2.1)):Int)
     let r_60:=Wh.y8 EG
     let v_62:=List.getD (EG.2.2.1) (Int.toNat (IntKind.wrap .i64 (Bp-1))) 0==r_60.1
     bif iy [nQ (Wh.z_ EG),decide (0≤IntKind.wrap .i64 (Bp-1)),decide (IntKind.wrap .i64 (Bp-1)<Bp)] then
      some (v_62,())
     else none)
   else none
 else none
def Wh.JH:=bx Wh.Bg
theorem Wh.q135_v:OV Wh.Bg Wh.JH:=e_ _
abbrev Wh.TM:Type:=((Int)×(List (Int))×(Int))×(Unit)
abbrev Wh.agG:Type:=((((Bool))×(Unit))⊕(((Int))×(Unit)))
def Wh.CN (x:Wh.TM):Option (Wh.TM⊕Wh.agG):=
 let zc:=x.1.1
 let Kb:=x.1.2.1
 let Rf:=x.1.2.2
 let xS:=decide (zc<(↑(List.length Kb):Int))
 bif xS then
  let ov:=List.getD Kb (Int.toNat zc) 0
  let nG:=IntKind.wrap .i64 (Rf-1)
  let x6:=Wh.nS (ov,0,nG)
  let yD:=bif !x6.1 then true else bif decide (zc>0) then decide (List.getD Kb (Int.toNat (IntKind.wrap .i64 (zc-1))) 0≥ov) else false
  bif iy [!(decide (zc>0) && !!Prod.fst (Wh.nS (ov,0,nG))) || decide (0≤zc),!(decide (zc>0) && !!Prod.fst (Wh.nS (ov,0,nG))) || xS,!(decide (zc>0) && !!Prod.fst (Wh.nS (ov,0,nG))) || decide (0≤IntKind.wrap .i64 (zc-1)),!(decide (zc>0) && !!Prod.fst (Wh.nS (ov,0,nG))) || decide (IntKind.wrap .i64 (zc-1)<(↑(List.length Kb):Int)),nQ (Wh.xe (ov,0,nG)),decide (0≤zc),xS] then
   bif yD then
    some (.inr (.inl (false,())))
   else
    some (.inl (((IntKind.wrap .i64 (zc+1)),Kb,Rf),()))
  else none
 else
  some (.inr (.inr (Rf,())))
def Wh.aae:(((Bool))×(Unit))⊕(((Int))×(Unit)):=.inl default
def Wh.E6 (xs:(List (Int))×(Int)):Option (((Bool))×(Unit)):=
 let CU:=xs.1
 let Re:=xs.2
 let Ai:Wh.TM:=((0,CU,Re),())
 bif lF Wh.CN Ai then
  sumC (kG Wh.CN Wh.aae Ai) (fun Bq=>
   let yV:=Bq.1
   some (yV,())) (fun Er=>
   let Wq:=Er.1
   let J7:=Wh.nS (Wq,0,24)
   bif iy [nQ (Wh.xe (Wq,0,24))] then
    some (J7.1,())
   else none)
 else none
def Wh.JO:=bx Wh.E6
theorem Wh.q163_v:OV Wh.E6 Wh.JO:=e_ _
abbrev Wh.TX:Type:=((Int)×(Int)×(List (Int)))×(Unit)
abbrev Wh.agL:Type:=((((Bool))×(Unit))⊕((Unit)×(Unit)))
def Wh.Fb (x:Wh.TX):Option (Wh.TX⊕Wh.agL):=
 let yA:=x.1.1
 let n_10:=x.1.2.1
 let Vl:=x.1.2.2
 let yh:=decide (yA<(↑(List.length Vl):Int))
 bif yh then
  let Au:=List.getD Vl (Int.toNat yA) 0
  let so:=Au==n_10
  bif iy [decide (0≤yA),yh] then
   bif so then
    some (.inr (.inl (true,())))
   else
    some (.inl (((IntKind.wrap .i64 (yA+1)),n_10,Vl),()))
  else none
 else
  some (.inr (.inr ((),())))
def Wh.aak:(((Bool))×(Unit))⊕((Unit)×(Unit)):=.inl default
def Wh.Fa (xs:(List (Int))×(Int)):Option (((Bool))×(Unit)):=
 let CU:=xs.1
 let n_1:=xs.2
 let x_16:Wh.TX:=((0,n_1,CU),())
 bif lF Wh.Fb x_16 then
  sumC (kG Wh.Fb Wh.aak x_16) (fun KB=>
   let nG:=KB.1
   some (nG,())) (fun _=>
   some (false,()))
 else none
def Wh.JQ:=bx Wh.Fa
theorem Wh.q169_v:OV Wh.Fa Wh.JQ:=e_ _
abbrev Wh.UU:Type:=((Int)×(Int)×(Unit))×((mb.D))
abbrev Wh.ahp:Type:=((((Bool))×(Unit))⊕(((Unit)×(Int))×((mb.D))))
def Wh.Fu (x:Wh.UU):Option (Wh.UU⊕Wh.ahp):=
 let F8:=x.1.1
 let Ez:=x.1.2.1
 let EE:=x.2
 let Em:Int:=(↑(List.length (EE.2.2.1)):Int)
 bif decide (F8<Em) then
  let zb:=F8 != Ez
  let r_52:=Wh.JQ (Prod.fst (List.getD (EE.2.2.1) (Int.toNat F8) ([],[],())),List.getD (Prod.fst (List.getD (EE.2.2.1) (Int.toNat Ez) ([],[],()))) (Int.toNat 0) 0)
  let BQ:=bif zb then r_52.1 else false
  bif iy [!zb || nQ (Wh.Fa (Prod.fst (List.getD (EE.2.2.1) (Int.toNat F8) ([],[],())),List.getD (Prod.fst (List.getD (EE.2.2.1) (Int.toNat Ez) ([],[],()))) (Int.toNat 0) 0)),!zb || decide ((0:Int)≤0),!zb || decide (0<(↑(List.length (Prod.fst (List.getD (EE.2.2.1) (Int.toNat Ez) ([],[],())))):Int)),!zb || decide (0≤Ez),!zb || decide (Ez<Em),!zb || decide (0≤F8),!zb || decide (F8<Em)] then
   bif BQ then
    some (.inr (.inl (false,())))
   else
    some (.inl (((IntKind.wrap .i64 (F8+1)),Ez,()),EE))
  else none
 else
  some (.inr (.inr (((),Ez),EE)))
def Wh.aa3:(((Bool))×(Unit))⊕(((Unit)×(Int))×((mb.D))):=.inl default
abbrev Wh.UT:Type:=((Int)×(Unit))×((mb.D))
abbrev Wh.aho:Type:=((((Bool))×(Unit))⊕((Unit)×(Unit)))
def Wh.Ft (x:Wh.UT):Option (Wh.UT⊕Wh.aho):=
 let i_62:=x.1.1
 let ls_63:=x.2
 let v_64:Int:=(↑(List.length (ls_63.2.2.1)):Int)
 bif decide (i_62<v_64) then
  let x_66:Wh.UU:=((0,i_62,()),ls_63)
  bif lF Wh.Fu x_66 then
   sumC (kG Wh.Fu Wh.aa3 x_66) (fun y_67=>
    let Km:=y_67.1
    some (.inr (.inl (Km,())))) (fun z_68=>
    let i_70:=z_68.1.2
    let ls_71:=z_68.2
    some (.inl (((IntKind.wrap .i64 (i_70+1)),()),ls_71)))
  else none
 else
  some (.inr (.inr ((),())))
def Wh.aa2:(((Bool))×(Unit))⊕((Unit)×(Unit)):=.inl default
abbrev Wh.US:Type:=((Int)×(Unit))×((mb.D))
abbrev Wh.ahn:Type:=((((Bool))×(Unit))⊕(((Unit))×((mb.D))))
def Wh.D6 (x:Wh.US):Option (Wh.US⊕Wh.ahn):=
 let xN:=x.1.1
 let xb:=x.2
 let ov:Int:=(↑(List.length (xb.2.2.1)):Int)
 bif decide (xN<ov) then
  let yX:=List.getD (xb.2.2.1) (Int.toNat xN) ([],[],())
  bif iy [decide (0≤xN),decide (xN<ov)] then
   let Bl:=Wh.JO (yX.1,xb.1)
   let xZ:=bif bif bif !Bl.1 then true else(↑(List.length yX.1):Int)==0 then true else(↑(List.length yX.2.1):Int) != xb.2.1 then true else bif decide (xN>0) then decide (List.getD (Prod.fst (List.getD (xb.2.2.1) (Int.toNat (IntKind.wrap .i64 (xN-1))) ([],[],()))) (Int.toNat 0) 0≥List.getD yX.1 (Int.toNat 0) 0) else false
   bif iy [!(decide (xN>0) && !bif bif !Bl.1 then true else(↑(List.length yX.1):Int)==0 then true else(↑(List.length yX.2.1):Int) != xb.2.1) || decide ((0:Int)≤0),!(decide (xN>0) && !bif bif !Bl.1 then true else(↑(List.length yX.1):Int)==0 then true else(↑(List.length yX.2.1):Int) != xb.2.1) || decide (0<(↑(List.length yX.1):Int)),!(decide (xN>0) && !bif bif !Bl.1 then true else(↑(List.length yX.1):Int)==0 then true else(↑(List.length yX.2.1):Int) != xb.2.1) || decide ((0:Int)≤0),!(decide (xN>0) && !bif bif !Bl.1 then true else(↑(List.length yX.1):Int)==0 then true else(↑(List.length yX.2.1):Int) != xb.2.1) || decide (0<(↑(List.length (Prod.fst (List.getD (xb.2.2.1) (Int.toNat (IntKind.wrap .i64 (xN-1))) ([],[],())))):Int)),!(decide (xN>0) && !bif bif !Bl.1 then true else(↑(List.length yX.1):Int)==0 then true else(↑(List.length yX.2.1):Int) != xb.2.1) || decide (0≤IntKind.wrap .i64 (xN-1)),!(decide (xN>0) && !bif bif !Bl.1 then true else(↑(List.length yX.1):Int)==0 then true else(↑(List.length yX.2.1):Int) != xb.2.1) || decide (IntKind.wrap .i64 (xN-1)<ov),nQ (Wh.E6 (yX.1,xb.1))] then
    bif xZ then
     some (.inr (.inl (false,())))
    else
     some (.inl (((IntKind.wrap .i64 (xN+1)),()),xb))
   else none
  else none
 else
  some (.inr (.inr ((),xb)))
def Wh.aa1:(((Bool))×(Unit))⊕(((Unit))×((mb.D))):=.inl default
def Wh.Ce (xs:(mb.D)):Option (((Bool))×(Unit)):=
 let fN:=xs
 let r_1:=Wh.nS (fN.1,1,24)
 let r_2:=Wh.nS (fN.2.1,1,16)
 let w8:=bif !r_1.1 then true else !r_2.1
 bif iy [!!!r_1.1 || nQ (Wh.xe (fN.2.1,1,16)),nQ (Wh.xe (fN.1,1,24))] then
  bif w8 then
   some (false,())
  else
   let Aj:Wh.US:=((0,()),fN)
   bif lF Wh.D6 Aj then
    sumC (kG Wh.D6 Wh.aa1 Aj) (fun zX=>
     let v_31:=zX.1
     some (v_31,())) (fun z_30=>
     let zo:=z_30.2
     let Ky:Wh.UT:=((0,()),zo)
     bif lF Wh.Ft Ky then
      sumC (kG Wh.Ft Wh.aa2 Ky) (fun y_74=>
       let v_76:=y_74.1
       some (v_76,())) (fun _=>
       some (true,()))
     else none)
   else none
 else none
def Wh.J3:=bx Wh.Ce
theorem Wh.q79_v:OV Wh.Ce Wh.J3:=e_ _
def Wh.DK (xs:(xO.D)):Option (((Bool))×(Unit)):=
 let x5:=xs
 let r_1:=Wh.JH x5.1
 let r_2:=Wh.J3 x5.2.1
 let xQ:=Wh.y8 x5.1
 let x_:=bif bif bif r_1.1 then r_2.1 else false then x5.2.1.1==xQ.1 else false then(x5.2.1.2).1==x5.1.2.1 else false
 bif iy [(!bif r_1.1 then r_2.1 else false) || nQ (Wh.z_ x5.1),!r_1.1 || nQ (Wh.Ce x5.2.1),nQ (Wh.Bg x5.1)] then
  some (x_,())
 else none
def Wh.Of:=bx Wh.DK
theorem Wh.TL:OV Wh.DK Wh.Of:=e_ _
def Wh.CC (xs:(xO.D)):Option (((Bool))×(Unit)):=
 let x5:=xs
 let r_1:=Wh.Of x5
 let r_2:=Wh.y8 x5.1
 let xU:=bif r_1.1 then(↑(List.length (x5.2.1.2.2.1)):Int)==r_2.1 else false
 bif iy [!r_1.1 || nQ (Wh.z_ x5.1),nQ (Wh.DK x5)] then
  some (xU,())
 else none
def Wh.JA:=bx Wh.CC
theorem Wh.Zc:OV Wh.CC Wh.JA:=e_ _
def Wh.q77 (xs:(nc.D)):Option (((Bool))×(Unit)):=
 let fe:=xs
 let r_1:=Wh.nS (fe.1,0,3)
 let r_2:=Wh.nS (fe.2.1,0,99999)
 let xQ:=Wh.nS (fe.2.2.1,0,4)
 let yN:=Wh.nS (fe.2.2.2.2.1,0,99999)
 let x_:=bif bif bif !r_1.1 then true else !r_2.1 then true else !xQ.1 then true else !yN.1
 bif iy [(!!bif bif !r_1.1 then true else !r_2.1 then true else !xQ.1) || nQ (Wh.xe (fe.2.2.2.2.1,0,99999)),(!!bif !r_1.1 then true else !r_2.1) || nQ (Wh.xe (fe.2.2.1,0,4)),!!!r_1.1 || nQ (Wh.xe (fe.2.1,0,99999)),nQ (Wh.xe (fe.1,0,3))] then
  bif x_ then
   some (false,())
  else
   let yC:=fe.2.2.2.2.1==0
   let Fz:=Wh.Sy fe
   let r_14:=Wh.Of ((fe.2.2.2.2.2).1)
   let xd:=bif bif yC then !Fz.1 else false then true else bif decide (fe.2.2.2.2.1>0) then !r_14.1 else false
   bif iy [!(decide (fe.2.2.2.2.1>0) && !bif yC then !Fz.1 else false) || nQ (Wh.DK ((fe.2.2.2.2.2).1)),!yC || nQ (Wh.Gk fe)] then
    bif xd then
     some (false,())
    else
     bif(fe.2.2.1==0) then
      let xS:Bool:=(fe.2.2.2).1 == []
      some (bif xS then yC else false,())
     else
      let ov:=fe.2.1==0
      let Hi:=Wh.N4 ((fe.2.2.2).1)
      let n5:=bif ov then true else !Hi.1
      bif iy [!!ov || nQ (Wh.B6 ((fe.2.2.2).1))] then
       bif n5 then
        some (false,())
       else
        bif(fe.2.2.1==2) then
         let za:=decide (fe.2.2.2.2.1>0)
         let x6:=Wh.JA ((fe.2.2.2.2.2).1)
         let zG:=bif za then !x6.1 else false
         bif iy [!za || nQ (Wh.CC ((fe.2.2.2.2.2).1))] then
          some (zG,())
         else none
        else
         bif(fe.2.2.1==3) then
          let zq:=decide (fe.2.2.2.2.1>0)
          let OC:=Wh.JA ((fe.2.2.2.2.2).1)
          let Hv:=bif zq then OC.1 else false
          bif iy [!zq || nQ (Wh.CC ((fe.2.2.2.2.2).1))] then
           some (Hv,())
          else none
         else
          let J7:=Wh.JA ((fe.2.2.2.2.2).1)
          let yE:=bif yC then true else !J7.1
          bif iy [!!yC || nQ (Wh.CC ((fe.2.2.2.2.2).1))] then
           some (yE,())
          else none
      else none
   else none
 else none
def Wh.G_:=bx Wh.q77
theorem Wh.q77_v:OV Wh.q77 Wh.G_:=e_ _
abbrev Wh.Ss:Type:=((Int)×(Unit))×((fT.D))
abbrev Wh.af7:Type:=((((Bool))×(Unit))⊕((Unit)×(Unit)))
def Wh.Dr (x:Wh.Ss):Option (Wh.Ss⊕Wh.af7):=
 let De:=x.1.1
 let EG:=x.2
 let Bp:Int:=(↑(List.length (EG.2.2.1)):Int)
 bif decide (De<Bp) then
  let Aw:=List.getD (EG.2.2.1) (Int.toNat De) (0,[],false,())
  let r_62:=Wh.nS (Aw.1,0,3)
  let v_63:=bif decide ((↑(List.length Aw.2.1):Int)>160) then true else bif Aw.1 != 9 then !r_62.1 else false
  bif iy [!(Aw.1 != 9 && !decide ((↑(List.length Aw.2.1):Int)>160)) || nQ (Wh.xe (Aw.1,0,3)),!(Aw.1 != 9 && !decide ((↑(List.length Aw.2.1):Int)>160)) || decide (0≤De),!(Aw.1 != 9 && !decide ((↑(List.length Aw.2.1):Int)>160)) || decide (De<Bp),!!decide ((↑(List.length Aw.2.1):Int)>160) || decide (0≤De),!!decide ((↑(List.length Aw.2.1):Int)>160) || decide (De<Bp),decide (0≤De),decide (De<Bp)] then
   bif v_63 then
    some (.inr (.inl (false,())))
   else
    some (.inl (((IntKind.wrap .i64 (De+1)),()),EG))
  else none
 else
  some (.inr (.inr ((),())))
def Wh.Zf:(((Bool))×(Unit))⊕((Unit)×(Unit)):=.inl default
abbrev Wh.Sr:Type:=((Int)×(Unit))×((fT.D))
abbrev Wh.af6:Type:=((((Bool))×(Unit))⊕(((Unit))×((fT.D))))
def Wh.Dq (x:Wh.Sr):Option (Wh.Sr⊕Wh.af6):=
 let An:=x.1.1
 let z7:=x.2
 let zG:Int:=(↑(List.length z7.2.1):Int)
 bif decide (An<zG) then
  let zq:=List.getD z7.2.1 (Int.toNat An) (0,0,0,[],0,((0,0,[],[],()),(0,0,[],()),()),())
  let Cg:=Wh.G_ zq
  let ym:=bif bif !Cg.1 then true else zq.1 != An then true else decide (zq.2.2.2.2.1>(↑(List.length ((z7.2.2.2).1)):Int))
  bif iy [(!!bif !(Wh.G_ zq).1 then true else zq.1 != An) || decide (0≤An),(!!bif !(Wh.G_ zq).1 then true else zq.1 != An) || decide (An<zG),!!!(Wh.G_ zq).1 || decide (0≤An),!!!(Wh.G_ zq).1 || decide (An<zG),nQ (Wh.q77 zq),decide (0≤An),decide (An<zG)] then
   bif ym then
    some (.inr (.inl (false,())))
   else
    some (.inl (((IntKind.wrap .i64 (An+1)),()),z7))
  else none
 else
  some (.inr (.inr ((),z7)))
def Wh.Ze:(((Bool))×(Unit))⊕(((Unit))×((fT.D))):=.inl default
def Wh.EO (xs:(fT.D)):Option (((Bool))×(Unit)):=
 let w_0:=xs
 let r_1:=Wh.q78' w_0.1
 let yz:=Wh.q81' w_0
 let w7:=bif bif bif !r_1.1 then true else(↑(List.length w_0.2.1):Int) != 4 then true else decide ((↑(List.length (w_0.2.2.1)):Int)>60) then true else !yz.1
 bif iy [(!!bif bif !r_1.1 then true else(↑(List.length w_0.2.1):Int) != 4 then true else decide ((↑(List.length (w_0.2.2.1)):Int)>60)) || nQ (Wh.q81 w_0),nQ (Wh.q78 w_0.1)] then
  bif w7 then
   some (false,())
  else
   let x_38:Wh.Sr:=((0,()),w_0)
   bif lF Wh.Dq x_38 then
    sumC (kG Wh.Dq Wh.Ze x_38) (fun y_39=>
     let Cj:=y_39.1
     some (Cj,())) (fun z_40=>
     let HZ:=z_40.2
     let x_65:Wh.Ss:=((0,()),HZ)
     bif lF Wh.Dr x_65 then
      sumC (kG Wh.Dr Wh.Zf x_65) (fun y_66=>
       let Is:=y_66.1
       some (Is,())) (fun _=>
       some (true,()))
     else none)
   else none
 else none
def Wh.Sq:=bx Wh.EO
theorem Wh.Zg:OV Wh.EO Wh.Sq:=e_ _
def Wh.GI (xs:(xO.D)):Option (((Bool))×(Unit)):=
 let x5:=xs
 let Au:=bif bif bif bif bif bif(x5.1.1==0) then x5.1.2.1==0 else false then(↑(List.length ((x5.1.2.2).1)):Int)==0 else false then(↑(List.length (x5.1.2.2.2.1)):Int)==0 else false then x5.2.1.1==0 else false then(x5.2.1.2).1==0 else false then(↑(List.length (x5.2.1.2.2.1)):Int)==0 else false
 some (Au,())
def Wh.Tu:=bx Wh.GI
theorem Wh.Z3:OV Wh.GI Wh.Tu:=e_ _
abbrev Wh.SL:Type:=((Int)×(Unit)×(List (Int))×(Int))×((r_.D))
abbrev Wh.agh:Type:=((((Bool))×(Unit))⊕((Unit)×(Unit)))
def Wh.BI (x:Wh.SL):Option (Wh.SL⊕Wh.agh):=
 let yJ:=x.1.1
 let ym:=(x.1.2.2).1
 let Ei:=x.1.2.2.2
 let yy:=x.2
 bif decide (yJ<Ei) then
  let Av:=List.getD ym (Int.toNat yJ) 0
  bif iy [decide (0≤yJ),decide (yJ<(↑(List.length ym):Int))] then
   let Ae:=Wh.zi yy
   let Ka:=Wh.n_ (Av,1,Ae.1)
   let r_50:=Wh.n_ (List.getD ((yy.2.2.2).1) (Int.toNat yJ) 0,1,99)
   let zb:=bif bif !Ka.1 then true else bif decide (yJ>0) then decide (List.getD (yy.2.2.1) (Int.toNat (IntKind.wrap .i64 (yJ-1))) 0≥Av) else false then true else !r_50.1
   bif iy [(!!bif !Prod.fst (Wh.n_ (Av,1,Ae.1)) then true else bif decide (yJ>0) then decide (List.getD (yy.2.2.1) (Int.toNat (IntKind.wrap .i64 (yJ-1))) 0≥Av) else false) || nQ (Wh.xR (List.getD ((yy.2.2.2).1) (Int.toNat yJ) 0,1,99)),(!!bif !Prod.fst (Wh.n_ (Av,1,Ae.1)) then true else bif decide (yJ>0) then decide (List.getD (yy.2.2.1) (Int.toNat (IntKind.wrap .i64 (yJ-1))) 0≥Av) else false) || decide (0≤yJ),(!!bif !Prod.fst (Wh.n_ (Av,1,Ae.1)) then true else bif decide (yJ>0) then decide (List.getD (yy.2.2.1) (Int.toNat (IntKind.wrap .i64 (yJ-1))) 0≥Av) else false) || decide (yJ<(↑(List.length ((yy.2.2.2).1)):Int)),!(decide (yJ>0) && !!Prod.fst (Wh.n_ (Av,1,Ae.1))) || decide (0≤IntKind.wrap .i64 (yJ-1)),!(decide (yJ>0) && !!Prod.fst (Wh.n_ (Av,1,Ae.1))) || decide (IntKind.wrap .i64 (yJ-1)<(↑(List.length (yy.2.2.1)):Int)),nQ (Wh.xR (Av,1,Ae.1)),nQ (Wh.AI yy)] then
    bif zb then
     some (.inr (.inl (false,())))
    else
     some (.inl (((IntKind.wrap .i64 (yJ+1)),(),ym,Ei),yy))
   else none
  else none
 else
  some (.inr (.inr ((),())))
def Wh.Zw:(((Bool))×(Unit))⊕((Unit)×(Unit)):=.inl default
def Wh.A2 (xs:(r_.D)):Option (((Bool))×(Unit)):=
 let vT:r_.D:=xs
 let r_1:=Wh.n_ (vT.1,1,300)
 let r_2:=Wh.n_ (vT.2.1,1,16)
 let xQ:=Wh.zi vT
 let zR:=bif bif !r_1.1 then true else !r_2.1 then true else decide (xQ.1>24)
 bif iy [(!!bif !r_1.1 then true else !r_2.1) || nQ (Wh.AI vT),!!!r_1.1 || nQ (Wh.xR (vT.2.1,1,16)),nQ (Wh.xR (vT.1,1,300))] then
  bif zR then
   some (false,())
  else
   let w7:Int:=(↑(List.length (vT.2.2.1)):Int)
   let J6:=Wh.n_ (w7,1,3)
   let tn:=bif bif !J6.1 then true else(↑(List.length ((vT.2.2.2).1)):Int) != w7 then true else List.getD (vT.2.2.1) (Int.toNat (IntKind.wrap .i64 (w7-1))) 0 != xQ.1
   bif iy [(!!bif !Prod.fst (Wh.n_ (w7,1,3)) then true else(↑(List.length ((vT.2.2.2).1)):Int) != w7) || nQ (Wh.AI vT),(!!bif !Prod.fst (Wh.n_ (w7,1,3)) then true else(↑(List.length ((vT.2.2.2).1)):Int) != w7) || decide (0≤IntKind.wrap .i64 (w7-1)),(!!bif !Prod.fst (Wh.n_ (w7,1,3)) then true else(↑(List.length ((vT.2.2.2).1)):Int) != w7) || decide (IntKind.wrap .i64 (w7-1)<w7),nQ (Wh.xR (w7,1,3))] then
    bif tn then
     some (false,())
    else
     let Kw:Wh.SL:=((0,(),vT.2.2.1,w7),vT)
     bif lF Wh.BI Kw then
      sumC (kG Wh.BI Wh.Zw Kw) (fun y_54=>
       let Bp:=y_54.1
       some (Bp,())) (fun _=>
       some (true,()))
     else none
   else none
 else none
def Wh.JE:=bx Wh.A2
theorem Wh.q117_v:OV Wh.A2 Wh.JE:=e_ _
abbrev Wh.Tr:Type:=((Int)×(List (Int))×(Int)×(List (Int))×(Int))×(Unit)
abbrev Wh.agx:Type:=((((Bool))×(Unit))⊕(((Int))×(Unit)))
def Wh.CL (x:Wh.Tr):Option (Wh.Tr⊕Wh.agx):=
 let tn:=x.1.1
 let Vm:=x.1.2.1
 let Rg:=(x.1.2.2).1
 let nG:=x.1.2.2.2.1
 let n5:=x.1.2.2.2.2
 bif decide (tn<n5) then
  let za:=List.getD nG (Int.toNat tn) 0
  bif iy [decide (0≤tn),decide (tn<(↑(List.length nG):Int))] then
   let zQ:=IntKind.wrap .i64 (Rg-1)
   let BM:=Wh.n_ (za,0,zQ)
   let wX:=bif !BM.1 then true else bif decide (tn>0) then decide (List.getD Vm (Int.toNat (IntKind.wrap .i64 (tn-1))) 0≥za) else false
   bif iy [!(decide (tn>0) && !!Prod.fst (Wh.n_ (za,0,zQ))) || decide (0≤IntKind.wrap .i64 (tn-1)),!(decide (tn>0) && !!Prod.fst (Wh.n_ (za,0,zQ))) || decide (IntKind.wrap .i64 (tn-1)<(↑(List.length Vm):Int)),nQ (Wh.xR (za,0,zQ))] then
    bif wX then
     some (.inr (.inl (false,())))
    else
     some (.inl (((IntKind.wrap .i64 (tn+1)),Vm,Rg,nG,n5),()))
   else none
  else none
 else
  some (.inr (.inr (Rg,())))
def Wh.ZY:(((Bool))×(Unit))⊕(((Int))×(Unit)):=.inl default
def Wh.EZ (xs:(List (Int))×(Int)):Option (((Bool))×(Unit)):=
 let CU:=xs.1
 let Re:=xs.2
 let FI:Wh.Tr:=((0,CU,Re,CU,(↑(List.length CU):Int)),())
 bif lF Wh.CL FI then
  sumC (kG Wh.CL Wh.ZY FI) (fun FN=>
   let yE:=FN.1
   some (yE,())) (fun HA=>
   let Wr:=HA.1
   let Cg:=Wh.n_ (Wr,0,24)
   bif iy [nQ (Wh.xR (Wr,0,24))] then
    some (Cg.1,())
   else none)
 else none
def Wh.JL:=bx Wh.EZ
theorem Wh.q150_v:OV Wh.EZ Wh.JL:=e_ _
abbrev Wh.T5:Type:=((Int)×(Int)×(List (Int))×(Int))×(Unit)
abbrev Wh.agQ:Type:=((((Int))×(Unit)))
def Wh.GY (x:Wh.T5):Option (Wh.T5⊕Wh.agQ):=
 let x_:=x.1.1
 let m_10:=x.1.2.1
 let yU:=(x.1.2.2).1
 let yh:=x.1.2.2.2
 bif decide (x_<yh) then
  let so:=List.getD yU (Int.toNat x_) 0
  bif iy [decide (0≤x_),decide (x_<(↑(List.length yU):Int))] then
   bif iy [decide (0≤so)] then
    some (.inl (((IntKind.wrap .i64 (x_+1)),nj Go.BinOp.or Go.IntKind.u32 m_10 (IntKind.wrap .u32 ((1:Int)*2 ^ Min.min (Int.toNat so) (Go.IntKind.bits Go.IntKind.u32))),yU,yh),()))
   else none
  else none
 else
  some (.inr (m_10,()))
def Wh.aaq:(((Int))×(Unit)):=default
def Wh.GX (xs:(List (Int))):Option (((Int))×(Unit)):=
 let CU:=xs
 let x_17:Wh.T5:=((0,0,CU,(↑(List.length CU):Int)),())
 bif lF Wh.GY x_17 then
  let Ep:=kG Wh.GY Wh.aaq x_17
  let m_19:=Ep.1
  some (m_19,())
 else none
def Wh.JT:=bx Wh.GX
theorem Wh.q173_v:OV Wh.GX Wh.JT:=e_ _
abbrev Wh.Uz:Type:=((Int)×(Int)×(List (nW.D))×(Int))×(Unit)
abbrev Wh.ag9:Type:=((((Bool))×(Unit))⊕((Unit)×(Unit)))
def Wh.Fl (x:Wh.Uz):Option (Wh.Uz⊕Wh.ag9):=
 let Kl:=x.1.1
 let Y2:=x.1.2.1
 let Km:=(x.1.2.2).1
 let O1:=x.1.2.2.2
 bif decide (Kl<O1) then
  let Jv:=List.getD Km (Int.toNat Kl) ([],[],())
  bif iy [decide (0≤Kl),decide (Kl<(↑(List.length Km):Int))] then
   let v_73:List Int:=List.take (Int.toNat ((↑(List.length Jv.1):Int)-1)) (List.drop (Int.toNat 1) Jv.1)
   let r_77:=Wh.JT v_73
   let Ko:=nj Go.BinOp.and Go.IntKind.u32 r_77.1 Y2 != 0
   bif iy [nQ (Wh.GX v_73),true,decide (1≤(↑(List.length Jv.1):Int)),decide ((↑(List.length Jv.1):Int)≤(↑(List.length Jv.1):Int))] then
    bif Ko then
     some (.inr (.inl (false,())))
    else
     some (.inl (((IntKind.wrap .i64 (Kl+1)),Y2,Km,O1),()))
   else none
  else none
 else
  some (.inr (.inr ((),())))
def Wh.aaM:(((Bool))×(Unit))⊕((Unit)×(Unit)):=.inl default
abbrev Wh.Uy:Type:=((Int)×(Int)×(Unit)×(List (nW.D))×(Int))×((mb.D))
abbrev Wh.ag8:Type:=((((Bool))×(Unit))⊕(((Int)×(Unit))×((mb.D))))
def Wh.Cc (x:Wh.Uy):Option (Wh.Uy⊕Wh.ag8):=
 let xZ:=x.1.1
 let Y1:=x.1.2.1
 let wX:=x.1.2.2.2.1
 let yV:=x.1.2.2.2.2
 let AW:=x.2
 bif decide (xZ<yV) then
  let A0:=List.getD wX (Int.toNat xZ) ([],[],())
  bif iy [decide (0≤xZ),decide (xZ<(↑(List.length wX):Int))] then
   let yE:Int:=(↑(List.length A0.1):Int)
   let Hj:=Wh.JL (A0.1,AW.1)
   let Cj:=bif bif bif yE==0 then true else !Hj.1 then true else(↑(List.length A0.2.1):Int) != AW.2.1 then true else bif decide (xZ>0) then decide (List.getD (Prod.fst (List.getD (AW.2.2.1) (Int.toNat (IntKind.wrap .i64 (xZ-1))) ([],[],()))) (Int.toNat 0) 0≥List.getD A0.1 (Int.toNat 0) 0) else false
   bif iy [!(decide (xZ>0) && !bif bif yE==0 then true else !Hj.1 then true else(↑(List.length A0.2.1):Int) != AW.2.1) || decide ((0:Int)≤0),!(decide (xZ>0) && !bif bif yE==0 then true else !Hj.1 then true else(↑(List.length A0.2.1):Int) != AW.2.1) || decide (0<yE),!(decide (xZ>0) && !bif bif yE==0 then true else !Hj.1 then true else(↑(List.length A0.2.1):Int) != AW.2.1) || decide ((0:Int)≤0),!(decide (xZ>0) && !bif bif yE==0 then true else !Hj.1 then true else(↑(List.length A0.2.1):Int) != AW.2.1) || decide (0<(↑(List.length (Prod.fst (List.getD (AW.2.2.1) (Int.toNat (IntKind.wrap .i64 (xZ-1))) ([],[],())))):Int)),!(decide (xZ>0) && !bif bif yE==0 then true else !Hj.1 then true else(↑(List.length A0.2.1):Int) != AW.2.1) || decide (0≤IntKind.wrap .i64 (xZ-1)),!(decide (xZ>0) && !bif bif yE==0 then true else !Hj.1 then true else(↑(List.length A0.2.1):Int) != AW.2.1) || decide (IntKind.wrap .i64 (xZ-1)<(↑(List.length (AW.2.2.1)):Int)),!!yE==0 || nQ (Wh.EZ (A0.1,AW.1))] then
    bif Cj then
     some (.inr (.inl (false,())))
    else
     let FF:=List.getD A0.1 (Int.toNat 0) 0
     let af2:Int:=nj Go.BinOp.or Go.IntKind.u32 Y1 (IntKind.wrap .u32 ((1:Int)*2 ^ Min.min (Int.toNat FF) (Go.IntKind.bits Go.IntKind.u32)))
     bif iy [decide (0≤FF),true,decide (0<yE)] then
      some (.inl (((IntKind.wrap .i64 (xZ+1)),af2,(),wX,yV),AW))
     else none
   else none
  else none
 else
  some (.inr (.inr ((Y1,()),AW)))
def Wh.aaL:(((Bool))×(Unit))⊕(((Int)×(Unit))×((mb.D))):=.inl default
def Wh.Cb (xs:(mb.D)):Option (((Bool))×(Unit)):=
 let fN:=xs
 let r_1:=Wh.n_ (fN.1,1,24)
 let r_2:=Wh.n_ (fN.2.1,1,16)
 let w8:=bif !r_1.1 then true else !r_2.1
 bif iy [!!!r_1.1 || nQ (Wh.xR (fN.2.1,1,16)),nQ (Wh.xR (fN.1,1,24))] then
  bif w8 then
   some (false,())
  else
   let xU:Int:=(↑(List.length (fN.2.2.1)):Int)
   let Ku:Wh.Uy:=((0,0,(),fN.2.2.1,xU),fN)
   bif lF Wh.Cc Ku then
    sumC (kG Wh.Cc Wh.aaL Ku) (fun y_48=>
     let OZ:=y_48.1
     some (OZ,())) (fun z_49=>
     let af3:=z_49.1.1
     let AX:=z_49.2
     let BQ:Int:=(↑(List.length (AX.2.2.1)):Int)
     let x_80:Wh.Uz:=((0,af3,AX.2.2.1,BQ),())
     bif lF Wh.Fl x_80 then
      sumC (kG Wh.Fl Wh.aaM x_80) (fun y_81=>
       let En:=y_81.1
       some (En,())) (fun _=>
       some (true,()))
     else none)
   else none
 else none
def Wh.JY:=bx Wh.Cb
theorem Wh.q51_v:OV Wh.Cb Wh.JY:=e_ _
def Wh.EY (xs:(xO.D)):Option (((Bool))×(Unit)):=
 let x5:=xs
 let r_1:=Wh.JE x5.1
 let r_2:=Wh.JY x5.2.1
 let xQ:=Wh.zi x5.1
 let x_:=bif bif bif r_1.1 then r_2.1 else false then x5.2.1.1==xQ.1 else false then(x5.2.1.2).1==x5.1.2.1 else false
 bif iy [(!bif r_1.1 then r_2.1 else false) || nQ (Wh.AI x5.1),!r_1.1 || nQ (Wh.Cb x5.2.1),nQ (Wh.A2 x5.1)] then
  some (x_,())
 else none
def Wh.Tq:=bx Wh.EY
theorem Wh.ZX:OV Wh.EY Wh.Tq:=e_ _
abbrev Wh.Ub:Type:=((Int)×(Int)×(List (nW.D))×(Int))×(Unit)
abbrev Wh.agS:Type:=((((List UInt8)×(Bool))×(Unit))⊕((Unit)×(Unit)))
def Wh.Ff (x:Wh.Ub):Option (Wh.Ub⊕Wh.agS):=
 let so:=x.1.1
 let at_15:=x.1.2.1
 let tn:=(x.1.2.2).1
 let xS:=x.1.2.2.2
 bif decide (so<xS) then
  let H_:=List.getD tn (Int.toNat so) ([],[],())
  bif iy [decide (0≤so),decide (so<(↑(List.length tn):Int))] then
   let n5:Int:=(↑(List.length H_.1):Int)
   let zQ:=bif n5==1 then List.getD H_.1 (Int.toNat 0) 0==at_15 else false
   bif iy [!n5==1 || decide ((0:Int)≤0),!n5==1 || decide (0<n5)] then
    bif zQ then
     some (.inr (.inl ((H_.2.1,true),())))
    else
     some (.inl (((IntKind.wrap .i64 (so+1)),at_15,tn,xS),()))
   else none
  else none
 else
  some (.inr (.inr ((),())))
def Wh.aau:(((List UInt8)×(Bool))×(Unit))⊕((Unit)×(Unit)):=.inl default
def Wh.q21 (xs:(mb.D)×(Int)):Option (((List UInt8)×(Bool))×(Unit)):=
 let fN:=xs.1
 let zT:=xs.2
 let v_2:Int:=(↑(List.length (fN.2.2.1)):Int)
 let x_25:Wh.Ub:=((0,zT,fN.2.2.1,v_2),())
 bif lF Wh.Ff x_25 then
  sumC (kG Wh.Ff Wh.aau x_25) (fun yY=>
   let wX:=yY.1.1
   let yV:=yY.1.2
   some ((wX,yV),())) (fun _=>
   some (([],false),()))
 else none
def Wh.JW:=bx Wh.q21
theorem Wh.q21_v:OV Wh.q21 Wh.JW:=e_ _
abbrev Wh.Vg:Type:=((Int)×(Unit))×((mb.D))
abbrev Wh.q9_l0Y:Type:=((((Int))×(Unit)))
def Wh.Fy (x:Wh.Vg):Option (Wh.Vg⊕Wh.q9_l0Y):=
 let n_7:=x.1.1
 let Dh:=x.2
 bif decide (n_7<Dh.1) then
  let BK:=Wh.JW (Dh,n_7)
  bif iy [nQ (Wh.q21 (Dh,n_7))] then
   bif(!BK.1.2) then
    some (.inr (n_7,()))
   else
    some (.inl (((IntKind.wrap .i64 (n_7+1)),()),Dh))
  else none
 else
  some (.inr (n_7,()))
def Wh.abg:(((Int))×(Unit)):=default
def Wh.Hf (xs:(mb.D)):Option (((Int))×(Unit)):=
 let fN:=xs
 let x_13:Wh.Vg:=((0,()),fN)
 bif lF Wh.Fy x_13 then
  let y_14:=kG Wh.Fy Wh.abg x_13
  let n_15:=y_14.1
  some (n_15,())
 else none
def Wh.q9':=bx Wh.Hf
theorem Wh.q9_v:OV Wh.Hf Wh.q9':=e_ _
def Wh.BG (xs:(xO.D)):Option (((Bool))×(Unit)):=
 let x5:=xs
 let r_1:=Wh.q9' x5.2.1
 bif iy [nQ (Wh.Hf x5.2.1)] then
  some ((r_1.1==x5.2.1.1),())
 else none
def Wh.EP:=bx Wh.BG
theorem Wh.q11_v:OV Wh.BG Wh.EP:=e_ _
def Wh.q49 (xs:(nc.D)):Option (((Bool))×(Unit)):=
 let fe:=xs
 let r_1:=Wh.Il fe.1
 let r_2:=Wh.n_ (fe.2.1,0,99999)
 let xQ:=Wh.n_ (fe.2.2.2.2.1,0,99999)
 let zR:=bif bif !r_1.1 then true else !r_2.1 then true else !xQ.1
 bif iy [(!!bif !r_1.1 then true else !r_2.1) || nQ (Wh.xR (fe.2.2.2.2.1,0,99999)),!!!r_1.1 || nQ (Wh.xR (fe.2.1,0,99999)),nQ (Wh.Cd fe.1)] then
  bif zR then
   some (false,())
  else
   let w7:=decide (fe.2.2.2.2.1>0)
   let yN:=Wh.Tu ((fe.2.2.2.2.2).1)
   let Fz:=Wh.Tq ((fe.2.2.2.2.2).1)
   let yh:=bif bif !w7 then !yN.1 else false then true else bif w7 then !Fz.1 else false
   bif iy [!(w7 && !bif !w7 then !yN.1 else false) || nQ (Wh.EY ((fe.2.2.2.2.2).1)),!!w7 || nQ (Wh.GI ((fe.2.2.2.2.2).1))] then
    bif yh then
     some (false,())
    else
     bif(fe.2.2.1==0) then
      let so:Bool:=(fe.2.2.2).1 == []
      some (bif so then !w7 else false,())
     else
      let xd:=fe.2.1==0
      let Hh:=Wh.JD ((fe.2.2.2).1)
      let xS:=bif xd then true else !Hh.1
      bif iy [!!xd || nQ (Wh.BH ((fe.2.2.2).1))] then
       bif xS then
        some (false,())
       else
        let ov:=fe.2.2.1==1
        bif ov then
         bif ov then
          let Hi:=Wh.EP ((fe.2.2.2.2.2).1)
          let vN:=bif !w7 then true else !Hi.1
          bif iy [!!!w7 || nQ (Wh.BG ((fe.2.2.2.2.2).1))] then
           some (vN,())
          else none
         else
          bif(fe.2.2.1==2) then
           let x6:=Wh.EP ((fe.2.2.2.2.2).1)
           let zG:=bif w7 then !x6.1 else false
           bif iy [!w7 || nQ (Wh.BG ((fe.2.2.2.2.2).1))] then
            some (zG,())
           else none
          else
           bif(fe.2.2.1==3) then
            let BM:=Wh.EP ((fe.2.2.2.2.2).1)
            let yV:=bif w7 then BM.1 else false
            bif iy [!w7 || nQ (Wh.BG ((fe.2.2.2.2.2).1))] then
             some (yV,())
            else none
           else
            some (false,())
        else
         bif(fe.2.2.1==4) then
          let J7:=Wh.EP ((fe.2.2.2.2.2).1)
          let yE:=bif !w7 then true else !J7.1
          bif iy [!!!w7 || nQ (Wh.BG ((fe.2.2.2.2.2).1))] then
           some (yE,())
          else none
         else
          bif(fe.2.2.1==2) then
           let Cg:=Wh.EP ((fe.2.2.2.2.2).1)
           let Ei:=bif w7 then !Cg.1 else false
           bif iy [!w7 || nQ (Wh.BG ((fe.2.2.2.2.2).1))] then
            some (Ei,())
           else none
          else
           bif(fe.2.2.1==3) then
            let As:=Wh.EP ((fe.2.2.2.2.2).1)
            let Cj:=bif w7 then As.1 else false
            bif iy [!w7 || nQ (Wh.BG ((fe.2.2.2.2.2).1))] then
             some (Cj,())
            else none
           else
            some (false,())
      else none
   else none
 else none
def Wh.q49':=bx Wh.q49
theorem Wh.q49_v:OV Wh.q49 Wh.q49':=e_ _
abbrev Wh.U9:Type:=((Int)×(Unit)×(List (an.D))×(Int))×((fT.D))
abbrev Wh.ahB:Type:=((((Bool))×(Unit))⊕((Unit)×(Unit)))
def Wh.Ee (x:Wh.U9):Option (Wh.U9⊕Wh.ahB):=
 let Ki:=x.1.1
 let Vx:=(x.1.2.2).1
 let v_145:=x.1.2.2.2
 let HY:=x.2
 bif decide (Ki<v_145) then
  let Bc:an.D:=List.getD Vx (Int.toNat Ki) (0,[],0,[],())
  bif iy [decide (0≤Ki),decide (Ki<(↑(List.length Vx):Int))] then
   let OW:Int:=(↑(List.length ((HY.2.2.2).1)):Int)
   let OX:=bif decide (Bc.2.2.1≤OW) then !(Prod.fst (List.getD ((HY.2.2.2).1) (Int.toNat (IntKind.wrap .i64 (Bc.2.2.1-1))) (0,[],0,[],()))==Bc.1&&(Prod.fst (Prod.snd (List.getD ((HY.2.2.2).1) (Int.toNat (IntKind.wrap .i64 (Bc.2.2.1-1))) (0,[],0,[],())))==Bc.2.1&&(Prod.fst (Prod.snd (Prod.snd (List.getD ((HY.2.2.2).1) (Int.toNat (IntKind.wrap .i64 (Bc.2.2.1-1))) (0,[],0,[],()))))==Bc.2.2.1&&(Prod.fst (Prod.snd (Prod.snd (Prod.snd (List.getD ((HY.2.2.2).1) (Int.toNat (IntKind.wrap .i64 (Bc.2.2.1-1))) (0,[],0,[],())))))==(Bc.2.2.2).1&&true)))) else false
   bif iy [!decide (Bc.2.2.1≤OW) || decide (0≤IntKind.wrap .i64 (Bc.2.2.1-1)),!decide (Bc.2.2.1≤OW) || decide (IntKind.wrap .i64 (Bc.2.2.1-1)<OW)] then
    bif OX then
     some (.inr (.inl (false,())))
    else
     some (.inl (((IntKind.wrap .i64 (Ki+1)),(),Vx,v_145),HY))
   else none
  else none
 else
  some (.inr (.inr ((),())))
def Wh.abe:(((Bool))×(Unit))⊕((Unit)×(Unit)):=.inl default
abbrev Wh.U8:Type:=((Int)×(Unit)×(Unit)×(Int))×((fT.D)×(List (an.D)))
abbrev Wh.ahA:Type:=((((Bool))×(Unit))⊕((Unit)×(Unit)))
def Wh.Ed (x:Wh.U8):Option (Wh.U8⊕Wh.ahA):=
 let Kh:=x.1.1
 let v_113:=x.1.2.2.2
 let HX:=x.2.1
 let Jq:=x.2.2
 bif decide (Kh<v_113) then
  let Bb:an.D:=List.getD Jq (Int.toNat Kh) (0,[],0,[],())
  bif iy [decide (0≤Kh),decide (Kh<(↑(List.length Jq):Int))] then
   let OS:Int:=(↑(List.length ((HX.2.2.2).1)):Int)
   let v_121:=bif decide (Bb.2.2.1≤OS) then !(Prod.fst (List.getD ((HX.2.2.2).1) (Int.toNat (IntKind.wrap .i64 (Bb.2.2.1-1))) (0,[],0,[],()))==Bb.1&&(Prod.fst (Prod.snd (List.getD ((HX.2.2.2).1) (Int.toNat (IntKind.wrap .i64 (Bb.2.2.1-1))) (0,[],0,[],())))==Bb.2.1&&(Prod.fst (Prod.snd (Prod.snd (List.getD ((HX.2.2.2).1) (Int.toNat (IntKind.wrap .i64 (Bb.2.2.1-1))) (0,[],0,[],()))))==Bb.2.2.1&&(Prod.fst (Prod.snd (Prod.snd (Prod.snd (List.getD ((HX.2.2.2).1) (Int.toNat (IntKind.wrap .i64 (Bb.2.2.1-1))) (0,[],0,[],())))))==(Bb.2.2.2).1&&true)))) else false
   bif iy [!decide (Bb.2.2.1≤OS) || decide (0≤IntKind.wrap .i64 (Bb.2.2.1-1)),!decide (Bb.2.2.1≤OS) || decide (IntKind.wrap .i64 (Bb.2.2.1-1)<OS)] then
    bif v_121 then
     some (.inr (.inl (false,())))
    else
     some (.inl (((IntKind.wrap .i64 (Kh+1)),(),(),v_113),HX,Jq))
   else none
  else none
 else
  some (.inr (.inr ((),())))
def Wh.abd:(((Bool))×(Unit))⊕((Unit)×(Unit)):=.inl default
abbrev Wh.U7:Type:=((Int)×(List (an.D))×(Unit)×(Int))×((fT.D))
abbrev Wh.ahz:Type:=((((Bool))×(Unit))⊕(((Unit))×((fT.D))))
def Wh.Ec (x:Wh.U7):Option (Wh.U7⊕Wh.ahz):=
 let Kn:=x.1.1
 let Ko:=x.1.2.1
 let v_79:=x.1.2.2.2
 let Jt:=x.2
 bif decide (Kn<v_79) then
  let EI:an.D:=List.getD Ko (Int.toNat Kn) (0,[],0,[],())
  bif iy [decide (0≤Kn),decide (Kn<(↑(List.length Ko):Int))] then
   let En:=IntKind.wrap .i64 (Kn+1)
   let r_86:=Wh.Oj (EI.1,EI.2.1,(EI.2.2.2).1)
   let v_87:=bif EI.2.2.1 != En then true else !r_86.1
   bif iy [!!EI.2.2.1 != En || nQ (Wh.q17 (EI.1,EI.2.1,(EI.2.2.2).1))] then
    bif v_87 then
     some (.inr (.inl (false,())))
    else
     some (.inl ((En,Ko,(),v_79),Jt))
   else none
  else none
 else
  some (.inr (.inr ((),Jt)))
def Wh.abc:(((Bool))×(Unit))⊕(((Unit))×((fT.D))):=.inl default
abbrev Wh.U6:Type:=((Int)×(List (pg.D))×(Unit)×(Int))×((fT.D))
abbrev Wh.ahy:Type:=((((Bool))×(Unit))⊕(((Unit))×((fT.D))))
def Wh.Eb (x:Wh.U6):Option (Wh.U6⊕Wh.ahy):=
 let El:=x.1.1
 let Em:=x.1.2.1
 let OZ:=x.1.2.2.2
 let ls_51:=x.2
 bif decide (El<OZ) then
  let Ia:=List.getD Em (Int.toNat El) (0,[],false,())
  bif iy [decide (0≤El),decide (El<(↑(List.length Em):Int))] then
   let xV:=Ia.1 != 9
   let BO:=Wh.Il Ia.1
   let Aw:=bif bif xV then !BO.1 else false then true else decide ((↑(List.length Ia.2.1):Int)>160)
   bif iy [!xV || nQ (Wh.Cd Ia.1)] then
    bif Aw then
     some (.inr (.inl (false,())))
    else
     some (.inl (((IntKind.wrap .i64 (El+1)),Em,(),OZ),ls_51))
   else none
  else none
 else
  some (.inr (.inr ((),ls_51)))
def Wh.abb:(((Bool))×(Unit))⊕(((Unit))×((fT.D))):=.inl default
abbrev Wh.U5:Type:=((Int)×(Unit)×(List (nc.D))×(Int))×((fT.D))
abbrev Wh.ahx:Type:=((((Bool))×(Unit))⊕(((Unit))×((fT.D))))
def Wh.Ea (x:Wh.U5):Option (Wh.U5⊕Wh.ahx):=
 let ov:=x.1.1
 let nG:=(x.1.2.2).1
 let n5:=x.1.2.2.2
 let y4:=x.2
 bif decide (ov<n5) then
  let zv:=List.getD nG (Int.toNat ov) (0,0,0,[],0,((0,0,[],[],()),(0,0,[],()),()),())
  bif iy [decide (0≤ov),decide (ov<(↑(List.length nG):Int))] then
   let yD:=zv.1 != ov
   let BL:=Wh.q49' zv
   let wX:=bif bif yD then true else !BL.1 then true else decide (zv.2.2.2.2.1>(↑(List.length ((y4.2.2.2).1)):Int))
   bif iy [!!yD || nQ (Wh.q49 zv)] then
    bif wX then
     some (.inr (.inl (false,())))
    else
     some (.inl (((IntKind.wrap .i64 (ov+1)),(),nG,n5),y4))
   else none
  else none
 else
  some (.inr (.inr ((),y4)))
def Wh.aba:(((Bool))×(Unit))⊕(((Unit))×((fT.D))):=.inl default
def Wh.q89 (xs:(fT.D)):Option (((Bool))×(Unit)):=
 let w_0:=xs
 let r_1:=Wh.q50' w_0.1
 let xU:=bif bif !r_1.1 then true else(↑(List.length w_0.2.1):Int) != 4 then true else decide ((↑(List.length (w_0.2.2.1)):Int)>60)
 bif iy [nQ (Wh.q50 w_0.1)] then
  bif xU then
   some (false,())
  else
   let yw:Int:=(↑(List.length w_0.2.1):Int)
   let FI:Wh.U5:=((0,(),w_0.2.1,yw),w_0)
   bif lF Wh.Ea FI then
    sumC (kG Wh.Ea Wh.aba FI) (fun FN=>
     let yE:=FN.1
     some (yE,())) (fun HA=>
     let ye:=HA.2
     let yJ:Int:=(↑(List.length (ye.2.2.1)):Int)
     let x_60:Wh.U6:=((0,ye.2.2.1,(),yJ),ye)
     bif lF Wh.Eb x_60 then
      sumC (kG Wh.Eb Wh.abb x_60) (fun y_61=>
       let v_63:=y_61.1
       some (v_63,())) (fun z_62=>
       let RS:=z_62.2
       let v_65:Int:=(↑(List.length ((RS.2.2.2).1)):Int)
       let x_88:Wh.U7:=((0,(RS.2.2.2).1,(),v_65),RS)
       bif lF Wh.Ec x_88 then
        sumC (kG Wh.Ec Wh.abc x_88) (fun y_89=>
         let v_91:=y_89.1
         some (v_91,())) (fun z_90=>
         let BZ:=z_90.2
         bif(!BZ.1.1) then
          let r_94:=Wh.Oy ((BZ.1.2.2).1)
          bif iy [nQ (Wh.CS ((BZ.1.2.2).1))] then
           let OF:=Wh.N9 r_94.1.1
           bif iy [nQ (Wh.DF r_94.1.1)] then
            let CZ:Int:=(↑(List.length ((BZ.2.2.2).1)):Int)
            let r_99:=Wh.n_ (OF.1.1.1,CZ,IntKind.wrap .i64 (CZ+1))
            bif iy [nQ (Wh.xR (OF.1.1.1,CZ,IntKind.wrap .i64 (CZ+1)))] then
             bif !r_99.1 then
              some (false,())
             else
              let v_100:Int:=(↑(List.length ((OF.1.1.2).1)):Int)
              let x_123:Wh.U8:=((0,(),(),v_100),BZ,(OF.1.1.2).1)
              bif lF Wh.Ed x_123 then
               sumC (kG Wh.Ed Wh.abd x_123) (fun y_124=>
                let v_126:=y_124.1
                some (v_126,())) (fun _=>
                some (true,()))
              else none
            else none
           else none
          else none
         else
          let OU:Int:=(↑(List.length ((BZ.2.2.2).1)):Int)
          let r_130:=Wh.n_ ((BZ.1.2.2.2.1).1,OU,IntKind.wrap .i64 (OU+0))
          bif iy [nQ (Wh.xR ((BZ.1.2.2.2.1).1,OU,IntKind.wrap .i64 (OU+0)))] then
           bif !r_130.1 then
            some (false,())
           else
            let Vw:Int:=(↑(List.length ((BZ.1.2.2.2.1).2.1)):Int)
            let x_154:Wh.U9:=((0,(),(BZ.1.2.2.2.1).2.1,Vw),BZ)
            bif lF Wh.Ee x_154 then
             sumC (kG Wh.Ee Wh.abe x_154) (fun y_155=>
              let v_157:=y_155.1
              some (v_157,())) (fun _=>
              some (true,()))
            else none
          else none)
       else none)
     else none)
   else none
 else none
def Wh.q89':=bx Wh.q89
theorem Wh.q89_v:OV Wh.q89 Wh.q89':=e_ _
abbrev Wh.SQ:Type:=((Int)×(List (Int))×(List (Int)))×(Unit)
abbrev Wh.agk:Type:=((((Bool))×(Unit))⊕((Unit)×(Unit)))
def Wh.Gu (x:Wh.SQ):Option (Wh.SQ⊕Wh.agk):=
 let AB:=x.1.1
 let b_12:=x.1.2.1
 let xX:=x.1.2.2
 let so:=decide (AB<(↑(List.length xX):Int))
 bif so then
  let xd:=List.getD xX (Int.toNat AB) 0
  let tn:=List.getD b_12 (Int.toNat AB) 0
  let xS:=xd != tn
  bif iy [decide (0≤AB),decide (AB<(↑(List.length b_12):Int)),decide (0≤AB),so] then
   bif xS then
    some (.inr (.inl (false,())))
   else
    some (.inl (((IntKind.wrap .i64 (AB+1)),b_12,xX),()))
  else none
 else
  some (.inr (.inr ((),())))
def Wh.Zz:(((Bool))×(Unit))⊕((Unit)×(Unit)):=.inl default
def Wh.Dx (xs:(List (Int))×(List (Int))):Option (((Bool))×(Unit)):=
 let bn:=xs.1
 let b_1:=xs.2
 let v_2:Bool:=(↑(List.length bn):Int) != (↑(List.length b_1):Int)
 bif v_2 then
  some (false,())
 else
  let x_19:Wh.SQ:=((0,b_1,bn),())
  bif lF Wh.Gu x_19 then
   sumC (kG Wh.Gu Wh.Zz x_19) (fun KC=>
    let za:=KC.1
    some (za,())) (fun _=>
    some (true,()))
  else none
def Wh.Gt:=bx Wh.Dx
theorem Wh.q121_v:OV Wh.Dx Wh.Gt:=e_ _
def Wh.Gw (xs:(r_.D)×(r_.D)):Option (((Bool))×(Unit)):=
 let bn:=xs.1
 let b_1:=xs.2
 bif(bn.1 != b_1.1) then
  some (false,())
 else
  bif(bn.2.1 != b_1.2.1) then
   some (false,())
  else
   let nE:=Wh.Gt (bn.2.2.1,b_1.2.2.1)
   bif iy [nQ (Wh.Dx (bn.2.2.1,b_1.2.2.1))] then
    bif !nE.1 then
     some (false,())
    else
     let xQ:=Wh.Gt ((bn.2.2.2).1,(b_1.2.2.2).1)
     bif iy [nQ (Wh.Dx ((bn.2.2.2).1,(b_1.2.2.2).1))] then
      bif !xQ.1 then
       some (false,())
      else
       some (true,())
     else none
   else none
def Wh.N0:=bx Wh.Gw
theorem Wh.q123_v:OV Wh.Gw Wh.N0:=e_ _
def Wh.GZ (xs:(nW.D)×(nW.D)):Option (((Bool))×(Unit)):=
 let bn:=xs.1
 let b_1:=xs.2
 let r_2:=Wh.Gt (bn.1,b_1.1)
 bif iy [nQ (Wh.Dx (bn.1,b_1.1))] then
  bif !r_2.1 then
   some (false,())
  else
   bif(!bn.2.1==b_1.2.1) then
    some (false,())
   else
    some (true,())
 else none
def Wh.Ol:=bx Wh.GZ
theorem Wh.q174_v:OV Wh.GZ Wh.Ol:=e_ _
abbrev Wh.Tw:Type:=((Int)×(List (nW.D))×(List (nW.D)))×(Unit)
abbrev Wh.agz:Type:=((((Bool))×(Unit))⊕((Unit)×(Unit)))
def Wh.GL (x:Wh.Tw):Option (Wh.Tw⊕Wh.agz):=
 let gv:=x.1.1
 let yG:=x.1.2.1
 let yF:=x.1.2.2
 let ov:Int:=(↑(List.length yF):Int)
 bif decide (gv<ov) then
  let n5:=List.getD yF (Int.toNat gv) ([],[],())
  let vN:=List.getD yG (Int.toNat gv) ([],[],())
  let x6:=Wh.Ol (n5,vN)
  bif iy [nQ (Wh.GZ (n5,vN)),decide (0≤gv),decide (gv<(↑(List.length yG):Int)),decide (0≤gv),decide (gv<ov)] then
   bif !x6.1 then
    some (.inr (.inl (false,())))
   else
    some (.inl (((IntKind.wrap .i64 (gv+1)),yG,yF),()))
  else none
 else
  some (.inr (.inr ((),())))
def Wh.Z5:(((Bool))×(Unit))⊕((Unit)×(Unit)):=.inl default
def Wh.GK (xs:(List (nW.D))×(List (nW.D))):Option (((Bool))×(Unit)):=
 let bn:=xs.1
 let b_1:=xs.2
 let v_2:Int:=(↑(List.length bn):Int)
 let w8:Int:=(↑(List.length b_1):Int)
 let xU:=v_2 != w8
 bif xU then
  some (false,())
 else
  let x_25:Wh.Tw:=((0,b_1,bn),())
  bif lF Wh.GL x_25 then
   sumC (kG Wh.GL Wh.Z5 x_25) (fun yY=>
    let wX:=yY.1
    some (wX,())) (fun _=>
    some (true,()))
  else none
def Wh.Oc:=bx Wh.GK
theorem Wh.q155_v:OV Wh.GK Wh.Oc:=e_ _
def Wh.q62 (xs:(mb.D)×(mb.D)):Option (((Bool))×(Unit)):=
 let bn:=xs.1
 let b_1:=xs.2
 bif(bn.1 != b_1.1) then
  some (false,())
 else
  bif(bn.2.1 != b_1.2.1) then
   some (false,())
  else
   let nE:=Wh.Oc (bn.2.2.1,b_1.2.2.1)
   bif iy [nQ (Wh.GK (bn.2.2.1,b_1.2.2.1))] then
    bif !nE.1 then
     some (false,())
    else
     some (true,())
   else none
def Wh.Ox:=bx Wh.q62
theorem Wh.q62_v:OV Wh.q62 Wh.Ox:=e_ _
def Wh.q32 (xs:(xO.D)×(xO.D)):Option (((Bool))×(Unit)):=
 let bn:=xs.1
 let b_1:=xs.2
 let r_2:=Wh.N0 (bn.1,b_1.1)
 bif iy [nQ (Wh.Gw (bn.1,b_1.1))] then
  bif !r_2.1 then
   some (false,())
  else
   let r_3:=Wh.Ox (bn.2.1,b_1.2.1)
   bif iy [nQ (Wh.q62 (bn.2.1,b_1.2.1))] then
    bif !r_3.1 then
     some (false,())
    else
     some (true,())
   else none
 else none
def Wh.Oo:=bx Wh.q32
theorem Wh.q32_v:OV Wh.q32 Wh.Oo:=e_ _
def Wh.q57 (xs:(nc.D)×(nc.D)):Option (((Bool))×(Unit)):=
 let bn:=xs.1
 let b_1:=xs.2
 bif(bn.1 != b_1.1) then
  some (false,())
 else
  bif(bn.2.1 != b_1.2.1) then
   some (false,())
  else
   bif(bn.2.2.1 != b_1.2.2.1) then
    some (false,())
   else
    bif(!(bn.2.2.2).1==(b_1.2.2.2).1) then
     some (false,())
    else
     bif(bn.2.2.2.2.1 != b_1.2.2.2.2.1) then
      some (false,())
     else
      let A5:=Wh.Oo ((bn.2.2.2.2.2).1,(b_1.2.2.2.2.2).1)
      bif iy [nQ (Wh.q32 ((bn.2.2.2.2.2).1,(b_1.2.2.2.2.2).1))] then
       bif !A5.1 then
        some (false,())
       else
        some (true,())
      else none
def Wh.Ov:=bx Wh.q57
theorem Wh.q57_v:OV Wh.q57 Wh.Ov:=e_ _
abbrev Wh.Uj:Type:=((Int)×(List (nc.D))×(List (nc.D)))×(Unit)
abbrev Wh.agX:Type:=((((Bool))×(Unit))⊕((Unit)×(Unit)))
def Wh.G3 (x:Wh.Uj):Option (Wh.Uj⊕Wh.agX):=
 let gv:=x.1.1
 let yG:=x.1.2.1
 let yF:=x.1.2.2
 let ov:Int:=(↑(List.length yF):Int)
 bif decide (gv<ov) then
  let n5:=List.getD yF (Int.toNat gv) (0,0,0,[],0,((0,0,[],[],()),(0,0,[],()),()),())
  let vN:=List.getD yG (Int.toNat gv) (0,0,0,[],0,((0,0,[],[],()),(0,0,[],()),()),())
  let x6:=Wh.Ov (n5,vN)
  bif iy [nQ (Wh.q57 (n5,vN)),decide (0≤gv),decide (gv<(↑(List.length yG):Int)),decide (0≤gv),decide (gv<ov)] then
   bif !x6.1 then
    some (.inr (.inl (false,())))
   else
    some (.inl (((IntKind.wrap .i64 (gv+1)),yG,yF),()))
  else none
 else
  some (.inr (.inr ((),())))
def Wh.aaA:(((Bool))×(Unit))⊕((Unit)×(Unit)):=.inl default
def Wh.q31 (xs:(List (nc.D))×(List (nc.D))):Option (((Bool))×(Unit)):=
 let bn:=xs.1
 let b_1:=xs.2
 let v_2:Int:=(↑(List.length bn):Int)
 let w8:Int:=(↑(List.length b_1):Int)
 let xU:=v_2 != w8
 bif xU then
  some (false,())
 else
  let x_25:Wh.Uj:=((0,b_1,bn),())
  bif lF Wh.G3 x_25 then
   sumC (kG Wh.G3 Wh.aaA x_25) (fun yY=>
    let wX:=yY.1
    some (wX,())) (fun _=>
    some (true,()))
  else none
def Wh.q31':=bx Wh.q31
theorem Wh.q31_v:OV Wh.q31 Wh.q31':=e_ _
def Wh.q59 (xs:(pg.D)×(pg.D)):Option (((Bool))×(Unit)):=
 let bn:=xs.1
 let b_1:=xs.2
 bif(bn.1 != b_1.1) then
  some (false,())
 else
  bif(!bn.2.1==b_1.2.1) then
   some (false,())
  else
   bif(!bn.2.2.1==b_1.2.2.1) then
    some (false,())
   else
    some (true,())
def Wh.Ow:=bx Wh.q59
theorem Wh.q59_v:OV Wh.q59 Wh.Ow:=e_ _
abbrev Wh.Uk:Type:=((Int)×(List (pg.D))×(List (pg.D)))×(Unit)
abbrev Wh.agY:Type:=((((Bool))×(Unit))⊕((Unit)×(Unit)))
def Wh.G4 (x:Wh.Uk):Option (Wh.Uk⊕Wh.agY):=
 let gv:=x.1.1
 let yG:=x.1.2.1
 let yF:=x.1.2.2
 let ov:Int:=(↑(List.length yF):Int)
 bif decide (gv<ov) then
  let n5:=List.getD yF (Int.toNat gv) (0,[],false,())
  let vN:=List.getD yG (Int.toNat gv) (0,[],false,())
  let x6:=Wh.Ow (n5,vN)
  bif iy [nQ (Wh.q59 (n5,vN)),decide (0≤gv),decide (gv<(↑(List.length yG):Int)),decide (0≤gv),decide (gv<ov)] then
   bif !x6.1 then
    some (.inr (.inl (false,())))
   else
    some (.inl (((IntKind.wrap .i64 (gv+1)),yG,yF),()))
  else none
 else
  some (.inr (.inr ((),())))
def Wh.aaB:(((Bool))×(Unit))⊕((Unit)×(Unit)):=.inl default
def Wh.q33 (xs:(List (pg.D))×(List (pg.D))):Option (((Bool))×(Unit)):=
 let bn:=xs.1
 let b_1:=xs.2
 let v_2:Int:=(↑(List.length bn):Int)
 let w8:Int:=(↑(List.length b_1):Int)
 let xU:=v_2 != w8
 bif xU then
  some (false,())
 else
  let x_25:Wh.Uk:=((0,b_1,bn),())
  bif lF Wh.G4 x_25 then
   sumC (kG Wh.G4 Wh.aaB x_25) (fun yY=>
    let wX:=yY.1
    some (wX,())) (fun _=>
    some (true,()))
  else none
def Wh.q33':=bx Wh.q33
theorem Wh.q33_v:OV Wh.q33 Wh.q33':=e_ _
def Wh.q96 (xs:(fT.D)×(fT.D)):Option (((Bool))×(Unit)):=
 let bn:=xs.1
 let b_1:=xs.2
 let r_2:=Wh.q61' (bn.1,b_1.1)
 bif iy [nQ (Wh.q61 (bn.1,b_1.1))] then
  bif !r_2.1 then
   some (false,())
  else
   let r_3:=Wh.q31' (bn.2.1,b_1.2.1)
   bif iy [nQ (Wh.q31 (bn.2.1,b_1.2.1))] then
    bif !r_3.1 then
     some (false,())
    else
     let nE:=Wh.q33' (bn.2.2.1,b_1.2.2.1)
     bif iy [nQ (Wh.q33 (bn.2.2.1,b_1.2.2.1))] then
      bif !nE.1 then
       some (false,())
      else
       let xQ:=Wh.Oz ((bn.2.2.2).1,(b_1.2.2.2).1)
       bif iy [nQ (Wh.q94 ((bn.2.2.2).1,(b_1.2.2.2).1))] then
        bif !xQ.1 then
         some (false,())
        else
         some (true,())
       else none
     else none
   else none
 else none
def Wh.q96':=bx Wh.q96
theorem Wh.q96_v:OV Wh.q96 Wh.q96':=e_ _
abbrev Wh.Uc:Type:=((Int)×(Unit))×((fT.D))
abbrev Wh.agT:Type:=((((Bool))×(Unit))⊕((Unit)×(Unit)))
def Wh.DT (x:Wh.Uc):Option (Wh.Uc⊕Wh.agT):=
 let AB:=x.1.1
 let RF:=x.2
 let Au:Int:=(↑(List.length RF.2.1):Int)
 bif decide (AB<Au) then
  let xd:=List.getD RF.2.1 (Int.toNat AB) (0,0,0,[],0,((0,0,[],[],()),(0,0,[],()),()),())
  let ov:=bif xd.2.2.1==1 then true else xd.2.2.1==2
  bif iy [!!xd.2.2.1==1 || decide (0≤AB),!!xd.2.2.1==1 || decide (AB<Au),decide (0≤AB),decide (AB<Au)] then
   bif ov then
    some (.inr (.inl (false,())))
   else
    some (.inl (((IntKind.wrap .i64 (AB+1)),()),RF))
  else none
 else
  some (.inr (.inr ((),())))
def Wh.aav:(((Bool))×(Unit))⊕((Unit)×(Unit)):=.inl default
def Wh.q23 (xs:(fT.D)):Option (((Bool))×(Unit)):=
 let w_0:=xs
 let r_1:=Wh.Sq w_0
 bif iy [nQ (Wh.EO w_0)] then
  bif !r_1.1 then
   some (false,())
  else
   let x_20:Wh.Uc:=((0,()),w_0)
   bif lF Wh.DT x_20 then
    sumC (kG Wh.DT Wh.aav x_20) (fun y_21=>
     let zQ:=y_21.1
     some (zQ,())) (fun _=>
     some (true,()))
   else none
 else none
def Wh.q23':=bx Wh.q23
theorem Wh.q23_v:OV Wh.q23 Wh.q23':=e_ _
abbrev Wh.TY:Type:=((Int)×(List (nc.D))×(Int))×(Unit)
abbrev Wh.agM:Type:=((((Bool))×(Unit))⊕((Unit)×(Unit)))
def Wh.DM (x:Wh.TY):Option (Wh.TY⊕Wh.agM):=
 let yC:=x.1.1
 let yU:=x.1.2.1
 let yh:=x.1.2.2
 bif decide (yC<yh) then
  let pb_14:=List.getD yU (Int.toNat yC) (0,0,0,[],0,((0,0,[],[],()),(0,0,[],()),()),())
  bif iy [decide (0≤yC),decide (yC<(↑(List.length yU):Int))] then
   let tn:=bif(pb_14.2.2.1==1) then true else pb_14.2.2.1==2
   bif tn then
    some (.inr (.inl (false,())))
   else
    some (.inl (((IntKind.wrap .i64 (yC+1)),yU,yh),()))
  else none
 else
  some (.inr (.inr ((),())))
def Wh.aal:(((Bool))×(Unit))⊕((Unit)×(Unit)):=.inl default
def Wh.q16 (xs:(fT.D)):Option (((Bool))×(Unit)):=
 let w_0:=xs
 let v_1:Int:=(↑(List.length w_0.2.1):Int)
 let x_18:Wh.TY:=((0,w_0.2.1,v_1),())
 bif lF Wh.DM x_18 then
  sumC (kG Wh.DM Wh.aal x_18) (fun y_19=>
   let vN:=y_19.1
   some (vN,())) (fun _=>
   some (true,()))
 else none
def Wh.q16':=bx Wh.q16
theorem Wh.q16_v:OV Wh.q16 Wh.q16':=e_ _
def Wh.q22 (xs:(fT.D)):Option (((Bool))×(Unit)):=
 let w_0:=xs
 let r_1:=Wh.q89' w_0
 let r_2:=Wh.q16' w_0
 let xU:=bif r_1.1 then r_2.1 else false
 bif iy [!r_1.1 || nQ (Wh.q16 w_0),nQ (Wh.q89 w_0)] then
  some (xU,())
 else none
def Wh.q22':=bx Wh.q22
theorem Wh.q22_v:OV Wh.q22 Wh.q22':=e_ _
def Wh.q5 (xs:(fT.D)):Option (((Bool))×(Unit)):=
 let HJ:=xs
 let r_1:=Wh.q98' (HJ,1048576)
 bif iy [nQ (Wh.q98 (HJ,1048576))] then
  bif decide (r_1.1<0) then
   some (true,())
  else
   let r_3:=Wh.Sp HJ
   let xQ:=Wh.q23' r_3.1
   bif iy [nQ (Wh.q23 r_3.1),nQ (Wh.Dp HJ)] then
    bif iy [nQ (Wh.Dp HJ)] then
     let yz:=Wh.q22' r_3.1
     bif iy [nQ (Wh.q22 r_3.1)] then
      bif(!yz.1==xQ.1) then
       some (false,())
      else
       let r_9:=Wh.q96' (r_3.1,r_3.1)
       bif iy [nQ (Wh.q96 (r_3.1,r_3.1)),nQ (Wh.Dp HJ)] then
        bif !r_9.1 then
         some (false,())
        else
         some (true,())
       else none
     else none
    else none
   else none
 else none
def Wh.q5':=bx Wh.q5
end
