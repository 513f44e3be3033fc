import Derived.Test.YtfeoanopdlpabaaGreatDoorX7
open Go Go.Ab
noncomputable section
abbrev Wh.T5:Type:=((Int)×(Int)×(List (ov.D)))×(Unit)
abbrev Wh.ags:Type:=((((Int))×(Unit))⊕(((Int))×(Unit)))
def Wh.E_ (x:Wh.T5):Option (Wh.T5⊕Wh.ags):=
 let xe:=x.1.1
 let AA:=x.1.2.1
 let Aw:=x.1.2.2
 let nG:Int:=(↑(List.length Aw):Int)
 bif decide (xe<nG) then
  let vT:=List.getD Aw (Int.toNat xe) (0,[],false,())
  let x6:=Wh.q62' (vT,AA)
  bif iy [nQ (Wh.q62 (vT,AA)),decide (0≤xe),decide (xe<nG)] then
   bif decide (x6.1<0) then
    some (.inr (.inl (-1,())))
   else
    some (.inl (((IntKind.wrap .i64 (xe+1)),x6.1,Aw),()))
  else none
 else
  some (.inr (.inr (AA,())))
def Wh.T6:(((Int))×(Unit))⊕(((Int))×(Unit)):=.inl default
def Wh.q34 (xs:(List (ov.D))×(Int)):Option (((Int))×(Unit)):=
 let bn:=xs.1
 let left_1:=xs.2
 let v_2:Int:=(↑(List.length bn):Int)
 let yh:=IntKind.wrap .i64 (left_1-v_2)
 bif decide (yh<0) then
  some (-1,())
 else
  let Ai:Wh.T5:=((0,yh,bn),())
  bif lF Wh.E_ Ai then
   sumC (kG Wh.E_ Wh.T6 Ai) (fun Bo=>
    let yT:=Bo.1
    some (yT,())) (fun Em=>
    let F4:=Em.1
    some (F4,()))
  else none
def Wh.q34':=bx Wh.q34
theorem Wh.q34_v:OV Wh.q34 Wh.q34':=e_ _
def Wh.q95 (xs:(gv.D)×(Int)):Option (((Int))×(Unit)):=
 let bn:=xs.1
 let left_1:=xs.2
 let r_2:=Wh.q64' (bn.1,left_1)
 bif iy [nQ (Wh.q64 (bn.1,left_1))] then
  bif decide (r_2.1<0) then
   some (-1,())
  else
   let nC:=Wh.q32' (bn.2.1,r_2.1)
   bif iy [nQ (Wh.q32 (bn.2.1,r_2.1))] then
    bif decide (nC.1<0) then
     some (-1,())
    else
     let yz:=Wh.q34' (bn.2.2.1,nC.1)
     bif iy [nQ (Wh.q34 (bn.2.2.1,nC.1))] then
      bif decide (yz.1<0) then
       some (-1,())
      else
       let yM:=Wh.On ((bn.2.2.2).1,yz.1)
       bif iy [nQ (Wh.q94 ((bn.2.2.2).1,yz.1))] then
        bif decide (yM.1<0) then
         some (-1,())
        else
         some (yM.1,())
       else none
     else none
   else none
 else none
def Wh.q95':=bx Wh.q95
theorem Wh.q95_v:OV Wh.q95 Wh.q95':=e_ _
abbrev Wh.SH:Type:=((Int)×(List (Int))×(Unit))×((List (Int)))
abbrev Wh.afP:Type:=((((Unit))×((List (Int)))))
def Wh.EM (x:Wh.SH):Option (Wh.SH⊕Wh.afP):=
 let yA:=x.1.1
 let a_10:=x.1.2.1
 let De:=x.2
 let yp:=decide (yA<(↑(List.length a_10):Int))
 bif yp then
  let Ez:=List.set De (Int.toNat yA) (List.getD a_10 (Int.toNat yA) 0)
  bif iy [decide (0≤yA),decide (yA<(↑(List.length De):Int)),decide (0≤yA),yp] then
   some (.inl (((IntKind.wrap .i64 (yA+1)),a_10,()),Ez))
  else none
 else
  some (.inr ((),De))
def Wh.Zg:(((Unit))×((List (Int)))):=default
def Wh.Dx (xs:(List (Int))):Option (((List (Int)))×(Unit)):=
 let bn:=xs
 let y4:List Int:=List.replicate (Int.toNat (↑(List.length bn):Int)) 0
 bif iy [decide (0≤(↑(List.length bn):Int)),decide ((↑(List.length bn):Int)≤(↑(List.length bn):Int)),decide ((↑(List.length bn):Int)≤(↑dh:Int))] then
  let x_16:Wh.SH:=((0,bn,()),y4)
  bif lF Wh.EM x_16 then
   let Ku:=kG Wh.EM Wh.Zg x_16
   let w9:=Ku.2
   some (w9,())
  else none
 else none
def Wh.JA:=bx Wh.Dx
theorem Wh.NS:OV Wh.Dx Wh.JA:=e_ _
def Wh.Gw (xs:(r5.D)):Option ((((Int)×((Int)×((List (Int))×((List (Int))×(Unit))))))×(Unit)):=
 let bn:r5.D:=xs
 let r_1:=Wh.JA (bn.2.2.1)
 bif iy [nQ (Wh.Dx (bn.2.2.1))] then
  let r_2:=Wh.JA ((bn.2.2.2).1)
  bif iy [nQ (Wh.Dx ((bn.2.2.2).1))] then
   some ((bn.1,bn.2.1,r_1.1,r_2.1,()),())
  else none
 else none
def Wh.SJ:=bx Wh.Gw
theorem Wh.Zi:OV Wh.Gw Wh.SJ:=e_ _
def Wh.GW (xs:(nW.D)):Option ((((List (Int))×(Ed.D)))×(Unit)):=
 let bn:=xs
 let r_1:=Wh.JA bn.1
 bif iy [nQ (Wh.Dx bn.1)] then
  some ((r_1.1,bn.2.1,()),())
 else none
def Wh.TP:=bx Wh.GW
theorem Wh.Z4:OV Wh.GW Wh.TP:=e_ _
abbrev Wh.Tn:Type:=((Int)×(List (nW.D))×(Unit))×((List (nW.D)))
abbrev Wh.af5:Type:=((((Unit))×((List (nW.D)))))
def Wh.EU (x:Wh.Tn):Option (Wh.Tn⊕Wh.af5):=
 let nP:=x.1.1
 let xV:=x.1.2.1
 let x9:=x.2
 let xP:Int:=(↑(List.length xV):Int)
 bif decide (nP<xP) then
  let Ac:=Wh.TP (List.getD xV (Int.toNat nP) ([],[],()))
  let w9:=List.set x9 (Int.toNat nP) Ac.1
  let nG:=List.getD xV (Int.toNat nP) ([],[],())
  bif iy [decide (0≤nP),decide (nP<(↑(List.length x9):Int)),nQ (Wh.GW nG),decide (0≤nP),decide (nP<xP)] then
   some (.inl (((IntKind.wrap .i64 (nP+1)),xV,()),w9))
  else none
 else
  some (.inr ((),x9))
def Wh.ZK:(((Unit))×((List (nW.D)))):=default
def Wh.GK (xs:(List (nW.D))):Option (((List (nW.D)))×(Unit)):=
 let bn:=xs
 let y4:List (nW.D):=@List.replicate (List Int×List UInt8×Unit) (Int.toNat (↑(List.length bn):Int)) ([],[],())
 let v_2:Int:=(↑(List.length bn):Int)
 bif iy [decide (0≤v_2),decide (v_2≤v_2),decide (v_2≤(↑dh:Int))] then
  let x_21:Wh.Tn:=((0,bn,()),y4)
  bif lF Wh.EU x_21 then
   let AI:=kG Wh.EU Wh.ZK x_21
   let zd:=AI.2
   some (zd,())
  else none
 else none
def Wh.Tm:=bx Wh.GK
theorem Wh.ZL:OV Wh.GK Wh.Tm:=e_ _
def Wh.q72 (xs:(lg.D)):Option ((((Int)×((Int)×((List (nW.D))×(Unit)))))×(Unit)):=
 let bn:=xs
 let r_1:=Wh.Tm (bn.2.2.1)
 bif iy [nQ (Wh.GK (bn.2.2.1))] then
  some ((bn.1,bn.2.1,r_1.1,()),())
 else none
def Wh.q72':=bx Wh.q72
theorem Wh.q72_v:OV Wh.q72 Wh.q72':=e_ _
def Wh.q37 (xs:(xN.D)):Option (((((Int)×((Int)×((List (Int))×((List (Int))×(Unit)))))×(((Int)×((Int)×((List (nW.D))×(Unit))))×(Unit))))×(Unit)):=
 let bn:=xs
 let r_1:=Wh.SJ bn.1
 bif iy [nQ (Wh.Gw bn.1)] then
  let r_2:=Wh.q72' bn.2.1
  bif iy [nQ (Wh.q72 bn.2.1)] then
   some ((r_1.1,r_2.1,()),())
  else none
 else none
def Wh.q37':=bx Wh.q37
theorem Wh.q37_v:OV Wh.q37 Wh.q37':=e_ _
def Wh.q67 (xs:(nE.D)):Option ((((Int)×((Int)×((Int)×((List UInt8)×((Int)×((((Int)×((Int)×((List (Int))×((List (Int))×(Unit)))))×(((Int)×((Int)×((List (nW.D))×(Unit))))×(Unit)))×(Unit))))))))×(Unit)):=
 let bn:=xs
 let r_1:=Wh.q37' ((bn.2.2.2.2.2).1)
 bif iy [nQ (Wh.q37 ((bn.2.2.2.2.2).1))] then
  some ((bn.1,bn.2.1,bn.2.2.1,(bn.2.2.2).1,bn.2.2.2.2.1,r_1.1,()),())
 else none
def Wh.q67':=bx Wh.q67
theorem Wh.q67_v:OV Wh.q67 Wh.q67':=e_ _
abbrev Wh.T8:Type:=((Int)×(List (nE.D))×(Unit))×((List (nE.D)))
abbrev Wh.agu:Type:=((((Unit))×((List (nE.D)))))
def Wh.Fb (x:Wh.T8):Option (Wh.T8⊕Wh.agu):=
 let nP:=x.1.1
 let xV:=x.1.2.1
 let x9:=x.2
 let xP:Int:=(↑(List.length xV):Int)
 bif decide (nP<xP) then
  let Ac:=Wh.q67' (List.getD xV (Int.toNat nP) (0,0,0,[],0,((0,0,[],[],()),(0,0,[],()),()),()))
  let w9:=List.set x9 (Int.toNat nP) Ac.1
  let nG:=List.getD xV (Int.toNat nP) (0,0,0,[],0,((0,0,[],[],()),(0,0,[],()),()),())
  bif iy [decide (0≤nP),decide (nP<(↑(List.length x9):Int)),nQ (Wh.q67 nG),decide (0≤nP),decide (nP<xP)] then
   some (.inl (((IntKind.wrap .i64 (nP+1)),xV,()),w9))
  else none
 else
  some (.inr ((),x9))
def Wh.aaf:(((Unit))×((List (nE.D)))):=default
def Wh.q36 (xs:(List (nE.D))):Option (((List (nE.D)))×(Unit)):=
 let bn:=xs
 let y4:List (nE.D):=@List.replicate (Int×Int×Int×List UInt8×Int×((Int×Int×List Int×List Int×Unit)×(Int×Int×List (List Int×List UInt8×Unit)×Unit)×Unit)×Unit) (Int.toNat (↑(List.length bn):Int)) (0,0,0,[],0,((0,0,[],[],()),(0,0,[],()),()),())
 let v_2:Int:=(↑(List.length bn):Int)
 bif iy [decide (0≤v_2),decide (v_2≤v_2),decide (v_2≤(↑dh:Int))] then
  let x_21:Wh.T8:=((0,bn,()),y4)
  bif lF Wh.Fb x_21 then
   let AI:=kG Wh.Fb Wh.aaf x_21
   let zd:=AI.2
   some (zd,())
  else none
 else none
def Wh.q36':=bx Wh.q36
theorem Wh.q36_v:OV Wh.q36 Wh.q36':=e_ _
def Wh.q69 (xs:(ov.D)):Option (((ov.D))×(Unit)):=
 let bn:=xs
 some ((bn.1,bn.2.1,bn.2.2.1,()),())
def Wh.q69':=bx Wh.q69
theorem Wh.q69_v:OV Wh.q69 Wh.q69':=e_ _
abbrev Wh.T9:Type:=((Int)×(List (ov.D))×(Unit))×((List (ov.D)))
abbrev Wh.agv:Type:=((((Unit))×((List (ov.D)))))
def Wh.Fc (x:Wh.T9):Option (Wh.T9⊕Wh.agv):=
 let nP:=x.1.1
 let xV:=x.1.2.1
 let x9:=x.2
 let xP:Int:=(↑(List.length xV):Int)
 bif decide (nP<xP) then
  let Ac:=Wh.q69' (List.getD xV (Int.toNat nP) (0,[],false,()))
  let w9:=List.set x9 (Int.toNat nP) Ac.1
  let nG:=List.getD xV (Int.toNat nP) (0,[],false,())
  bif iy [decide (0≤nP),decide (nP<(↑(List.length x9):Int)),nQ (Wh.q69 nG),decide (0≤nP),decide (nP<xP)] then
   some (.inl (((IntKind.wrap .i64 (nP+1)),xV,()),w9))
  else none
 else
  some (.inr ((),x9))
def Wh.aag:(((Unit))×((List (ov.D)))):=default
def Wh.q38 (xs:(List (ov.D))):Option (((List (ov.D)))×(Unit)):=
 let bn:=xs
 let y4:List (ov.D):=@List.replicate (Int×List UInt8×Bool×Unit) (Int.toNat (↑(List.length bn):Int)) (0,[],false,())
 let v_2:Int:=(↑(List.length bn):Int)
 bif iy [decide (0≤v_2),decide (v_2≤v_2),decide (v_2≤(↑dh:Int))] then
  let x_21:Wh.T9:=((0,bn,()),y4)
  bif lF Wh.Fc x_21 then
   let AI:=kG Wh.Fc Wh.aag x_21
   let zd:=AI.2
   some (zd,())
  else none
 else none
def Wh.q38':=bx Wh.q38
theorem Wh.q38_v:OV Wh.q38 Wh.q38':=e_ _
def Wh.Eb (xs:(gv.D)):Option (((((Bool)×((Int)×((List UInt8)×(((Int)×((List (an.D))×(Unit)))×(((List (nc.D))×((Int)×(Unit)))×((List (nI.D))×((List (pg.D))×(Unit))))))))×((List (nE.D))×((List (ov.D))×((List (an.D))×(Unit))))))×(Unit)):=
 let bn:=xs
 let r_1:=Wh.q71' bn.1
 bif iy [nQ (Wh.q71 bn.1)] then
  let r_2:=Wh.q36' bn.2.1
  bif iy [nQ (Wh.q36 bn.2.1)] then
   let r_3:=Wh.q38' (bn.2.2.1)
   bif iy [nQ (Wh.q38 (bn.2.2.1))] then
    let nC:=Wh.Oo ((bn.2.2.2).1)
    bif iy [nQ (Wh.q97 ((bn.2.2.2).1))] then
     some ((r_1.1,r_2.1,r_3.1,nC.1,()),())
    else none
   else none
  else none
 else none
def Wh.q99':=bx Wh.Eb
theorem Wh.q99_v:OV Wh.Eb Wh.q99':=e_ _
abbrev Wh.Si:Type:=((Int)×(Unit)×(Unit))×((gv.D)×((Int)×((Unit)×(Unit)))×(List (an.D)))
abbrev Wh.afD:Type:=((((Bool))×(Unit))⊕(((Unit)×(Unit))×((gv.D)×((Int)×((Unit)×(Unit)))×(List (an.D)))))
def Wh.Dt (x:Wh.Si):Option (Wh.Si⊕Wh.afD):=
 let xe:=x.1.1
 let xb:=x.2.1
 let w9:=x.2.2.1.1
 let yu:=(x.2.2.1).2.2
 let zc:=x.2.2.2
 let vT:Int:=(↑(List.length zc):Int)
 bif decide (xe<vT) then
  let zu:an.D:=List.getD zc (Int.toNat xe) (0,[],0,[],())
  bif iy [decide (0≤xe),decide (xe<vT)] then
   let yC:Int:=(↑(List.length ((xb.2.2.2).1)):Int)
   let zp:=bif decide (zu.2.2.1≤yC) then !(Prod.fst (List.getD ((xb.2.2.2).1) (Int.toNat (IntKind.wrap .i64 (zu.2.2.1-1))) (0,[],0,[],()))==zu.1&&(Prod.fst (Prod.snd (List.getD ((xb.2.2.2).1) (Int.toNat (IntKind.wrap .i64 (zu.2.2.1-1))) (0,[],0,[],())))==zu.2.1&&(Prod.fst (Prod.snd (Prod.snd (List.getD ((xb.2.2.2).1) (Int.toNat (IntKind.wrap .i64 (zu.2.2.1-1))) (0,[],0,[],()))))==zu.2.2.1&&(Prod.fst (Prod.snd (Prod.snd (Prod.snd (List.getD ((xb.2.2.2).1) (Int.toNat (IntKind.wrap .i64 (zu.2.2.1-1))) (0,[],0,[],())))))==(zu.2.2.2).1&&true)))) else false
   bif iy [!decide (zu.2.2.1≤yC) || decide (0≤IntKind.wrap .i64 (zu.2.2.1-1)),!decide (zu.2.2.1≤yC) || decide (IntKind.wrap .i64 (zu.2.2.1-1)<yC)] then
    bif zp then
     some (.inr (.inl (false,())))
    else
     some (.inl (((IntKind.wrap .i64 (xe+1)),(),()),xb,(w9,(),yu),zc))
   else none
  else none
 else
  some (.inr (.inr (((),()),xb,(w9,(),yu),zc)))
def Wh.YZ:(((Bool))×(Unit))⊕(((Unit)×(Unit))×((gv.D)×((Int)×((Unit)×(Unit)))×(List (an.D)))):=.inl default
def Wh.Gg (xs:(gv.D)):Option (((Bool))×(Unit)):=
 let w_0:=xs
 let r_1:=Wh.JD ((w_0.1.2.2).1)
 bif iy [nQ (Wh.B4 ((w_0.1.2.2).1))] then
  let r_2:=Wh.JH r_1.1.1
  bif iy [nQ (Wh.CL r_1.1.1)] then
   let FB:Wh.Si:=((0,(),()),w_0,(r_2.1.1.1,(),r_2.1.1.2.2),(r_2.1.1.2).1)
   bif lF Wh.Dt FB then
    sumC (kG Wh.Dt Wh.YZ FB) (fun FF=>
     let v_32:=FF.1
     some (v_32,())) (fun Io=>
     let z7:=Io.2.1
     let ye:=Io.2.2.1.1
     let Ef:Int:=(↑(List.length ((z7.2.2.2).1)):Int)
     let Ih:=Wh.nS (ye,Ef,IntKind.wrap .i64 (Ef+1))
     bif iy [nQ (Wh.xd (ye,Ef,IntKind.wrap .i64 (Ef+1)))] then
      some (Ih.1,())
     else none)
   else none
  else none
 else none
def Wh.Sg:=bx Wh.Gg
theorem Wh.Y0:OV Wh.Gg Wh.Sg:=e_ _
abbrev Wh.UF:Type:=((Int)×(Unit))×((gv.D))
abbrev Wh.agU:Type:=((((Bool))×(Unit))⊕(((Unit))×((gv.D))))
def Wh.D4 (x:Wh.UF):Option (Wh.UF⊕Wh.agU):=
 let Jd:=x.1.1
 let zT:=x.2
 let Au:Int:=(↑(List.length ((zT.1.2.2.2.1).2.1)):Int)
 bif decide (Jd<Au) then
  let Bb:an.D:=List.getD ((zT.1.2.2.2.1).2.1) (Int.toNat Jd) (0,[],0,[],())
  bif iy [decide (0≤Jd),decide (Jd<Au)] then
   let Hr:Int:=(↑(List.length ((zT.2.2.2).1)):Int)
   let OO:=bif decide (Bb.2.2.1>Hr) then true else !(Prod.fst (List.getD ((zT.2.2.2).1) (Int.toNat (IntKind.wrap .i64 (Bb.2.2.1-1))) (0,[],0,[],()))==Bb.1&&(Prod.fst (Prod.snd (List.getD ((zT.2.2.2).1) (Int.toNat (IntKind.wrap .i64 (Bb.2.2.1-1))) (0,[],0,[],())))==Bb.2.1&&(Prod.fst (Prod.snd (Prod.snd (List.getD ((zT.2.2.2).1) (Int.toNat (IntKind.wrap .i64 (Bb.2.2.1-1))) (0,[],0,[],()))))==Bb.2.2.1&&(Prod.fst (Prod.snd (Prod.snd (Prod.snd (List.getD ((zT.2.2.2).1) (Int.toNat (IntKind.wrap .i64 (Bb.2.2.1-1))) (0,[],0,[],())))))==(Bb.2.2.2).1&&true))))
   bif iy [!!decide (Bb.2.2.1>Hr) || decide (0≤IntKind.wrap .i64 (Bb.2.2.1-1)),!!decide (Bb.2.2.1>Hr) || decide (IntKind.wrap .i64 (Bb.2.2.1-1)<Hr)] then
    bif OO then
     some (.inr (.inl (false,())))
    else
     some (.inl (((IntKind.wrap .i64 (Jd+1)),()),zT))
   else none
  else none
 else
  some (.inr (.inr ((),zT)))
def Wh.aaG:(((Bool))×(Unit))⊕(((Unit))×((gv.D))):=.inl default
abbrev Wh.UE:Type:=((Int)×(Unit))×((gv.D))
abbrev Wh.agT:Type:=((((Bool))×(Unit))⊕(((Unit))×((gv.D))))
def Wh.D3 (x:Wh.UE):Option (Wh.UE⊕Wh.agT):=
 let nP:=x.1.1
 let Ez:=x.2
 let r_:Int:=(↑(List.length ((Ez.2.2.2).1)):Int)
 bif decide (nP<r_) then
  let tn:an.D:=List.getD ((Ez.2.2.2).1) (Int.toNat nP) (0,[],0,[],())
  let yS:=Wh.DN tn
  let vT:=bif !yS.1 then true else tn.2.2.1 != IntKind.wrap .i64 (nP+1)
  bif iy [!!!(Wh.DN tn).1 || decide (0≤nP),!!!(Wh.DN tn).1 || decide (nP<r_),nQ (Wh.B7 tn),decide (0≤nP),decide (nP<r_)] then
   bif vT then
    some (.inr (.inl (false,())))
   else
    some (.inl (((IntKind.wrap .i64 (nP+1)),()),Ez))
  else none
 else
  some (.inr (.inr ((),Ez)))
def Wh.aaF:(((Bool))×(Unit))⊕(((Unit))×((gv.D))):=.inl default
def Wh.q78 (xs:(gv.D)):Option (((Bool))×(Unit)):=
 let w_0:=xs
 let x_23:Wh.UE:=((0,()),w_0)
 bif lF Wh.D3 x_23 then
  sumC (kG Wh.D3 Wh.aaF x_23) (fun y_24=>
   let xY:=y_24.1
   some (xY,())) (fun z_25=>
   let y3:=z_25.2
   let FD:Wh.UF:=((0,()),y3)
   bif lF Wh.D4 FD then
    sumC (kG Wh.D4 Wh.aaG FD) (fun FH=>
     let y_:=FH.1
     some (y_,())) (fun OU=>
     let AV:=OU.2
     bif AV.1.1 then
      let BN:Int:=(↑(List.length ((AV.2.2.2).1)):Int)
      let v_55:Bool:=(AV.1.2.2.2.1).1==BN
      some (v_55,())
     else
      let r_56:=Wh.Sg AV
      bif iy [nQ (Wh.Gg AV)] then
       some (r_56.1,())
      else none)
   else none)
 else none
def Wh.q78':=bx Wh.q78
theorem Wh.q78_v:OV Wh.q78 Wh.q78':=e_ _
def Wh.Gf (xs:(nE.D)):Option (((Bool))×(Unit)):=
 let fe:=xs
 let v_1:Int:=(↑(List.length ((fe.2.2.2.2.2).1.1.2.2.1)):Int)
 let xP:=bif bif bif bif bif bif v_1==0 then(↑(List.length ((fe.2.2.2.2.2).1.1.2.2.2.1)):Int)==0 else false then(fe.2.2.2.2.2).1.1.1==0 else false then(fe.2.2.2.2.2).1.1.2.1==0 else false then(fe.2.2.2.2.2).1.2.1.1==0 else false then(fe.2.2.2.2.2).1.2.1.2.1==0 else false then(↑(List.length ((fe.2.2.2.2.2).1.2.1.2.2.1)):Int)==0 else false
 some (xP,())
def Wh.Sf:=bx Wh.Gf
theorem Wh.YY:OV Wh.Gf Wh.Sf:=e_ _
abbrev Wh.SO:Type:=((Int)×(Unit))×((r5.D))
abbrev Wh.afS:Type:=((((Bool))×(Unit))⊕(((Unit))×((r5.D))))
def Wh.BF (x:Wh.SO):Option (Wh.SO⊕Wh.afS):=
 let yO:=x.1.1
 let yB:=x.2
 let yl:Int:=(↑(List.length (yB.2.2.1)):Int)
 bif decide (yO<yl) then
  let Bl:=List.getD (yB.2.2.1) (Int.toNat yO) 0
  let As:=Wh.y6 yB
  let Hf:=Wh.nS (Bl,1,As.1)
  let r_48:=Wh.nS (List.getD ((yB.2.2.2).1) (Int.toNat yO) 0,1,99)
  let Ej:=bif bif !Hf.1 then true else bif decide (yO>0) then decide (List.getD (yB.2.2.1) (Int.toNat (IntKind.wrap .i64 (yO-1))) 0≥Bl) else false then true else !r_48.1
  bif iy [(!!bif !Prod.fst (Wh.nS (Bl,1,As.1)) then true else bif decide (yO>0) then decide (List.getD (yB.2.2.1) (Int.toNat (IntKind.wrap .i64 (yO-1))) 0≥Bl) else false) || nQ (Wh.xd (List.getD ((yB.2.2.2).1) (Int.toNat yO) 0,1,99)),(!!bif !Prod.fst (Wh.nS (Bl,1,As.1)) then true else bif decide (yO>0) then decide (List.getD (yB.2.2.1) (Int.toNat (IntKind.wrap .i64 (yO-1))) 0≥Bl) else false) || decide (0≤yO),(!!bif !Prod.fst (Wh.nS (Bl,1,As.1)) then true else bif decide (yO>0) then decide (List.getD (yB.2.2.1) (Int.toNat (IntKind.wrap .i64 (yO-1))) 0≥Bl) else false) || decide (yO<(↑(List.length ((yB.2.2.2).1)):Int)),!(decide (yO>0) && !!Prod.fst (Wh.nS (Bl,1,As.1))) || decide (0≤yO),!(decide (yO>0) && !!Prod.fst (Wh.nS (Bl,1,As.1))) || decide (yO<yl),!(decide (yO>0) && !!Prod.fst (Wh.nS (Bl,1,As.1))) || decide (0≤IntKind.wrap .i64 (yO-1)),!(decide (yO>0) && !!Prod.fst (Wh.nS (Bl,1,As.1))) || decide (IntKind.wrap .i64 (yO-1)<yl),nQ (Wh.xd (Bl,1,As.1)),nQ (Wh.z8 yB),decide (0≤yO),decide (yO<yl)] then
   bif Ej then
    some (.inr (.inl (false,())))
   else
    some (.inl (((IntKind.wrap .i64 (yO+1)),()),yB))
  else none
 else
  some (.inr (.inr ((),yB)))
def Wh.Zn:(((Bool))×(Unit))⊕(((Unit))×((r5.D))):=.inl default
def Wh.Be (xs:(r5.D)):Option (((Bool))×(Unit)):=
 let vN:r5.D:=xs
 let r_1:=Wh.nS (vN.1,1,300)
 let r_2:=Wh.nS (vN.2.1,1,16)
 let xQ:=Wh.y6 vN
 let Fu:=Wh.nS ((↑(List.length (vN.2.2.1)):Int),1,3)
 let J0:=Wh.nS (xQ.1,1,24)
 let tn:=bif bif bif bif !r_1.1 then true else !r_2.1 then true else !J0.1 then true else !Fu.1 then true else(↑(List.length ((vN.2.2.2).1)):Int) != (↑(List.length (vN.2.2.1)):Int)
 bif iy [(!!bif bif !r_1.1 then true else !r_2.1 then true else !Prod.fst (Wh.nS (xQ.1,1,24))) || nQ (Wh.xd ((↑(List.length (vN.2.2.1)):Int),1,3)),(!!bif !r_1.1 then true else !r_2.1) || nQ (Wh.xd (xQ.1,1,24)),(!!bif !r_1.1 then true else !r_2.1) || nQ (Wh.z8 vN),!!!r_1.1 || nQ (Wh.xd (vN.2.1,1,16)),nQ (Wh.xd (vN.1,1,300))] then
  bif tn then
   some (false,())
  else
   let x_51:Wh.SO:=((0,()),vN)
   bif lF Wh.BF x_51 then
    sumC (kG Wh.BF Wh.Zn x_51) (fun y_52=>
     let xT:=y_52.1
     some (xT,())) (fun z_53=>
     let EB:=z_53.2
     let Bn:Int:=(↑(List.length (EB.2.2.1)):Int)
     let r_60:=Wh.y6 EB
     let v_62:=List.getD (EB.2.2.1) (Int.toNat (IntKind.wrap .i64 (Bn-1))) 0==r_60.1
     bif iy [nQ (Wh.z8 EB),decide (0≤IntKind.wrap .i64 (Bn-1)),decide (IntKind.wrap .i64 (Bn-1)<Bn)] then
      some (v_62,())
     else none)
   else none
 else none
def Wh.JB:=bx Wh.Be
theorem Wh.q132_v:OV Wh.Be Wh.JB:=e_ _
abbrev Wh.Tt:Type:=((Int)×(List (Int))×(Int))×(Unit)
abbrev Wh.af_:Type:=((((Bool))×(Unit))⊕(((Int))×(Unit)))
def Wh.CM (x:Wh.Tt):Option (Wh.Tt⊕Wh.af_):=
 let za:=x.1.1
 let J6:=x.1.2.1
 let Q5:=x.1.2.2
 let xS:=decide (za<(↑(List.length J6):Int))
 bif xS then
  let so:=List.getD J6 (Int.toNat za) 0
  let nG:=IntKind.wrap .i64 (Q5-1)
  let x6:=Wh.nS (so,0,nG)
  let yC:=bif !x6.1 then true else bif decide (za>0) then decide (List.getD J6 (Int.toNat (IntKind.wrap .i64 (za-1))) 0≥so) else false
  bif iy [!(decide (za>0) && !!Prod.fst (Wh.nS (so,0,nG))) || decide (0≤za),!(decide (za>0) && !!Prod.fst (Wh.nS (so,0,nG))) || xS,!(decide (za>0) && !!Prod.fst (Wh.nS (so,0,nG))) || decide (0≤IntKind.wrap .i64 (za-1)),!(decide (za>0) && !!Prod.fst (Wh.nS (so,0,nG))) || decide (IntKind.wrap .i64 (za-1)<(↑(List.length J6):Int)),nQ (Wh.xd (so,0,nG)),decide (0≤za),xS] then
   bif yC then
    some (.inr (.inl (false,())))
   else
    some (.inl (((IntKind.wrap .i64 (za+1)),J6,Q5),()))
  else none
 else
  some (.inr (.inr (Q5,())))
def Wh.ZQ:(((Bool))×(Unit))⊕(((Int))×(Unit)):=.inl default
def Wh.EY (xs:(List (Int))×(Int)):Option (((Bool))×(Unit)):=
 let CT:=xs.1
 let Q4:=xs.2
 let Ai:Wh.Tt:=((0,CT,Q4),())
 bif lF Wh.CM Ai then
  sumC (kG Wh.CM Wh.ZQ Ai) (fun Bo=>
   let yT:=Bo.1
   some (yT,())) (fun Em=>
   let V8:=Em.1
   let J1:=Wh.nS (V8,0,24)
   bif iy [nQ (Wh.xd (V8,0,24))] then
    some (J1.1,())
   else none)
 else none
def Wh.JI:=bx Wh.EY
theorem Wh.q160_v:OV Wh.EY Wh.JI:=e_ _
abbrev Wh.TF:Type:=((Int)×(Int)×(List (Int)))×(Unit)
abbrev Wh.age:Type:=((((Bool))×(Unit))⊕((Unit)×(Unit)))
def Wh.E6 (x:Wh.TF):Option (Wh.TF⊕Wh.age):=
 let yA:=x.1.1
 let n_10:=x.1.2.1
 let U6:=x.1.2.2
 let yp:=decide (yA<(↑(List.length U6):Int))
 bif yp then
  let BM:=List.getD U6 (Int.toNat yA) 0
  let r_:=BM==n_10
  bif iy [decide (0≤yA),yp] then
   bif r_ then
    some (.inr (.inl (true,())))
   else
    some (.inl (((IntKind.wrap .i64 (yA+1)),n_10,U6),()))
  else none
 else
  some (.inr (.inr ((),())))
def Wh.ZW:(((Bool))×(Unit))⊕((Unit)×(Unit)):=.inl default
def Wh.E5 (xs:(List (Int))×(Int)):Option (((Bool))×(Unit)):=
 let CT:=xs.1
 let n_1:=xs.2
 let x_16:Wh.TF:=((0,n_1,CT),())
 bif lF Wh.E6 x_16 then
  sumC (kG Wh.E6 Wh.ZW x_16) (fun Ku=>
   let nG:=Ku.1
   some (nG,())) (fun _=>
   some (false,()))
 else none
def Wh.JK:=bx Wh.E5
theorem Wh.q166_v:OV Wh.E5 Wh.JK:=e_ _
abbrev Wh.UC:Type:=((Int)×(Int)×(Unit))×((lg.D))
abbrev Wh.agS:Type:=((((Bool))×(Unit))⊕(((Unit)×(Int))×((lg.D))))
def Wh.Fm (x:Wh.UC):Option (Wh.UC⊕Wh.agS):=
 let F3:=x.1.1
 let Eu:=x.1.2.1
 let EA:=x.2
 let Ej:Int:=(↑(List.length (EA.2.2.1)):Int)
 bif decide (F3<Ej) then
  let y_:=F3 != Eu
  let r_52:=Wh.JK (Prod.fst (List.getD (EA.2.2.1) (Int.toNat F3) ([],[],())),List.getD (Prod.fst (List.getD (EA.2.2.1) (Int.toNat Eu) ([],[],()))) (Int.toNat 0) 0)
  let BN:=bif y_ then r_52.1 else false
  bif iy [!y_ || nQ (Wh.E5 (Prod.fst (List.getD (EA.2.2.1) (Int.toNat F3) ([],[],())),List.getD (Prod.fst (List.getD (EA.2.2.1) (Int.toNat Eu) ([],[],()))) (Int.toNat 0) 0)),!y_ || decide ((0:Int)≤0),!y_ || decide (0<(↑(List.length (Prod.fst (List.getD (EA.2.2.1) (Int.toNat Eu) ([],[],())))):Int)),!y_ || decide (0≤Eu),!y_ || decide (Eu<Ej),!y_ || decide (0≤F3),!y_ || decide (F3<Ej)] then
   bif BN then
    some (.inr (.inl (false,())))
   else
    some (.inl (((IntKind.wrap .i64 (F3+1)),Eu,()),EA))
  else none
 else
  some (.inr (.inr (((),Eu),EA)))
def Wh.aaE:(((Bool))×(Unit))⊕(((Unit)×(Int))×((lg.D))):=.inl default
abbrev Wh.UA:Type:=((Int)×(Unit))×((lg.D))
abbrev Wh.agR:Type:=((((Bool))×(Unit))⊕((Unit)×(Unit)))
def Wh.Fl (x:Wh.UA):Option (Wh.UA⊕Wh.agR):=
 let i_62:=x.1.1
 let ls_63:=x.2
 let v_64:Int:=(↑(List.length (ls_63.2.2.1)):Int)
 bif decide (i_62<v_64) then
  let x_66:Wh.UC:=((0,i_62,()),ls_63)
  bif lF Wh.Fm x_66 then
   sumC (kG Wh.Fm Wh.aaE x_66) (fun y_67=>
    let Kg:=y_67.1
    some (.inr (.inl (Kg,())))) (fun z_68=>
    let i_70:=z_68.1.2
    let ls_71:=z_68.2
    some (.inl (((IntKind.wrap .i64 (i_70+1)),()),ls_71)))
  else none
 else
  some (.inr (.inr ((),())))
def Wh.aaD:(((Bool))×(Unit))⊕((Unit)×(Unit)):=.inl default
abbrev Wh.Uz:Type:=((Int)×(Unit))×((lg.D))
abbrev Wh.agQ:Type:=((((Bool))×(Unit))⊕(((Unit))×((lg.D))))
def Wh.D0 (x:Wh.Uz):Option (Wh.Uz⊕Wh.agQ):=
 let xe:=x.1.1
 let xb:=x.2
 let so:Int:=(↑(List.length (xb.2.2.1)):Int)
 bif decide (xe<so) then
  let yV:=List.getD (xb.2.2.1) (Int.toNat xe) ([],[],())
  bif iy [decide (0≤xe),decide (xe<so)] then
   let Bj:=Wh.JI (yV.1,xb.1)
   let xY:=bif bif bif !Bj.1 then true else(↑(List.length yV.1):Int)==0 then true else(↑(List.length yV.2.1):Int) != xb.2.1 then true else bif decide (xe>0) then decide (List.getD (Prod.fst (List.getD (xb.2.2.1) (Int.toNat (IntKind.wrap .i64 (xe-1))) ([],[],()))) (Int.toNat 0) 0≥List.getD yV.1 (Int.toNat 0) 0) else false
   bif iy [!(decide (xe>0) && !bif bif !Bj.1 then true else(↑(List.length yV.1):Int)==0 then true else(↑(List.length yV.2.1):Int) != xb.2.1) || decide ((0:Int)≤0),!(decide (xe>0) && !bif bif !Bj.1 then true else(↑(List.length yV.1):Int)==0 then true else(↑(List.length yV.2.1):Int) != xb.2.1) || decide (0<(↑(List.length yV.1):Int)),!(decide (xe>0) && !bif bif !Bj.1 then true else(↑(List.length yV.1):Int)==0 then true else(↑(List.length yV.2.1):Int) != xb.2.1) || decide ((0:Int)≤0),!(decide (xe>0) && !bif bif !Bj.1 then true else(↑(List.length yV.1):Int)==0 then true else(↑(List.length yV.2.1):Int) != xb.2.1) || decide (0<(↑(List.length (Prod.fst (List.getD (xb.2.2.1) (Int.toNat (IntKind.wrap .i64 (xe-1))) ([],[],())))):Int)),!(decide (xe>0) && !bif bif !Bj.1 then true else(↑(List.length yV.1):Int)==0 then true else(↑(List.length yV.2.1):Int) != xb.2.1) || decide (0≤IntKind.wrap .i64 (xe-1)),!(decide (xe>0) && !bif bif !Bj.1 then true else(↑(List.length yV.1):Int)==0 then true else(↑(List.length yV.2.1):Int) != xb.2.1) || decide (IntKind.wrap .i64 (xe-1)<so),nQ (Wh.EY (yV.1,xb.1))] then
    bif xY then
     some (.inr (.inl (false,())))
    else
     some (.inl (((IntKind.wrap .i64 (xe+1)),()),xb))
   else none
  else none
 else
  some (.inr (.inr ((),xb)))
def Wh.aaC:(((Bool))×(Unit))⊕(((Unit))×((lg.D))):=.inl default
def Wh.Cb (xs:(lg.D)):Option (((Bool))×(Unit)):=
 let fN:=xs
 let r_1:=Wh.nS (fN.1,1,24)
 let r_2:=Wh.nS (fN.2.1,1,16)
 let w8:=bif !r_1.1 then true else !r_2.1
 bif iy [!!!r_1.1 || nQ (Wh.xd (fN.2.1,1,16)),nQ (Wh.xd (fN.1,1,24))] then
  bif w8 then
   some (false,())
  else
   let Aj:Wh.Uz:=((0,()),fN)
   bif lF Wh.D0 Aj then
    sumC (kG Wh.D0 Wh.aaC Aj) (fun zV=>
     let v_31:=zV.1
     some (v_31,())) (fun z_30=>
     let zl:=z_30.2
     let Kp:Wh.UA:=((0,()),zl)
     bif lF Wh.Fl Kp then
      sumC (kG Wh.Fl Wh.aaD Kp) (fun y_74=>
       let v_76:=y_74.1
       some (v_76,())) (fun _=>
       some (true,()))
     else none)
   else none
 else none
def Wh.JX:=bx Wh.Cb
theorem Wh.q76_v:OV Wh.Cb Wh.JX:=e_ _
def Wh.DI (xs:(xN.D)):Option (((Bool))×(Unit)):=
 let x5:=xs
 let r_1:=Wh.JB x5.1
 let r_2:=Wh.JX x5.2.1
 let xQ:=Wh.y6 x5.1
 let x_:=bif bif bif r_1.1 then r_2.1 else false then x5.2.1.1==xQ.1 else false then(x5.2.1.2).1==x5.1.2.1 else false
 bif iy [(!bif r_1.1 then r_2.1 else false) || nQ (Wh.z8 x5.1),!r_1.1 || nQ (Wh.Cb x5.2.1),nQ (Wh.Be x5.1)] then
  some (x_,())
 else none
def Wh.N6:=bx Wh.DI
theorem Wh.Ts:OV Wh.DI Wh.N6:=e_ _
def Wh.CB (xs:(xN.D)):Option (((Bool))×(Unit)):=
 let x5:=xs
 let r_1:=Wh.N6 x5
 let r_2:=Wh.y6 x5.1
 let xZ:=bif r_1.1 then(↑(List.length (x5.2.1.2.2.1)):Int)==r_2.1 else false
 bif iy [!r_1.1 || nQ (Wh.z8 x5.1),nQ (Wh.DI x5)] then
  some (xZ,())
 else none
def Wh.Ju:=bx Wh.CB
theorem Wh.YQ:OV Wh.CB Wh.Ju:=e_ _
def Wh.q74 (xs:(nE.D)):Option (((Bool))×(Unit)):=
 let fe:=xs
 let r_1:=Wh.nS (fe.1,0,3)
 let r_2:=Wh.nS (fe.2.1,0,99999)
 let xQ:=Wh.nS (fe.2.2.1,0,4)
 let yM:=Wh.nS (fe.2.2.2.2.1,0,99999)
 let x_:=bif bif bif !r_1.1 then true else !r_2.1 then true else !xQ.1 then true else !yM.1
 bif iy [(!!bif bif !r_1.1 then true else !r_2.1 then true else !xQ.1) || nQ (Wh.xd (fe.2.2.2.2.1,0,99999)),(!!bif !r_1.1 then true else !r_2.1) || nQ (Wh.xd (fe.2.2.1,0,4)),!!!r_1.1 || nQ (Wh.xd (fe.2.1,0,99999)),nQ (Wh.xd (fe.1,0,3))] then
  bif x_ then
   some (false,())
  else
   let zi:=fe.2.2.2.2.1==0
   let Fu:=Wh.Sf fe
   let r_14:=Wh.N6 ((fe.2.2.2.2.2).1)
   let xP:=bif bif zi then !Fu.1 else false then true else bif decide (fe.2.2.2.2.1>0) then !r_14.1 else false
   bif iy [!(decide (fe.2.2.2.2.1>0) && !bif zi then !Fu.1 else false) || nQ (Wh.DI ((fe.2.2.2.2.2).1)),!zi || nQ (Wh.Gf fe)] then
    bif xP then
     some (false,())
    else
     bif(fe.2.2.1==0) then
      let xS:Bool:=(fe.2.2.2).1 == []
      some (bif xS then zi else false,())
     else
      let so:=fe.2.1==0
      let G_:=Wh.NU ((fe.2.2.2).1)
      let n5:=bif so then true else !G_.1
      bif iy [!!so || nQ (Wh.B3 ((fe.2.2.2).1))] then
       bif n5 then
        some (false,())
       else
        bif(fe.2.2.1==2) then
         let y9:=decide (fe.2.2.2.2.1>0)
         let x6:=Wh.Ju ((fe.2.2.2.2.2).1)
         let zE:=bif y9 then !x6.1 else false
         bif iy [!y9 || nQ (Wh.CB ((fe.2.2.2.2.2).1))] then
          some (zE,())
         else none
        else
         bif(fe.2.2.1==3) then
          let zp:=decide (fe.2.2.2.2.1>0)
          let Ot:=Wh.Ju ((fe.2.2.2.2.2).1)
          let Hq:=bif zp then Ot.1 else false
          bif iy [!zp || nQ (Wh.CB ((fe.2.2.2.2.2).1))] then
           some (Hq,())
          else none
         else
          let J1:=Wh.Ju ((fe.2.2.2.2.2).1)
          let yD:=bif zi then true else !J1.1
          bif iy [!!zi || nQ (Wh.CB ((fe.2.2.2.2.2).1))] then
           some (yD,())
          else none
      else none
   else none
 else none
def Wh.G5:=bx Wh.q74
theorem Wh.q74_v:OV Wh.q74 Wh.G5:=e_ _
abbrev Wh.Sb:Type:=((Int)×(Unit))×((gv.D))
abbrev Wh.afB:Type:=((((Bool))×(Unit))⊕((Unit)×(Unit)))
def Wh.Dp (x:Wh.Sb):Option (Wh.Sb⊕Wh.afB):=
 let Dd:=x.1.1
 let EB:=x.2
 let Bn:Int:=(↑(List.length (EB.2.2.1)):Int)
 bif decide (Dd<Bn) then
  let Av:=List.getD (EB.2.2.1) (Int.toNat Dd) (0,[],false,())
  let r_62:=Wh.nS (Av.1,0,3)
  let v_63:=bif decide ((↑(List.length Av.2.1):Int)>160) then true else bif Av.1 != 9 then !r_62.1 else false
  bif iy [!(Av.1 != 9 && !decide ((↑(List.length Av.2.1):Int)>160)) || nQ (Wh.xd (Av.1,0,3)),!(Av.1 != 9 && !decide ((↑(List.length Av.2.1):Int)>160)) || decide (0≤Dd),!(Av.1 != 9 && !decide ((↑(List.length Av.2.1):Int)>160)) || decide (Dd<Bn),!!decide ((↑(List.length Av.2.1):Int)>160) || decide (0≤Dd),!!decide ((↑(List.length Av.2.1):Int)>160) || decide (Dd<Bn),decide (0≤Dd),decide (Dd<Bn)] then
   bif v_63 then
    some (.inr (.inl (false,())))
   else
    some (.inl (((IntKind.wrap .i64 (Dd+1)),()),EB))
  else none
 else
  some (.inr (.inr ((),())))
def Wh.YT:(((Bool))×(Unit))⊕((Unit)×(Unit)):=.inl default
abbrev Wh.Sa:Type:=((Int)×(Unit))×((gv.D))
abbrev Wh.afA:Type:=((((Bool))×(Unit))⊕(((Unit))×((gv.D))))
def Wh.Dn (x:Wh.Sa):Option (Wh.Sa⊕Wh.afA):=
 let An:=x.1.1
 let z6:=x.2
 let zE:Int:=(↑(List.length z6.2.1):Int)
 bif decide (An<zE) then
  let zp:=List.getD z6.2.1 (Int.toNat An) (0,0,0,[],0,((0,0,[],[],()),(0,0,[],()),()),())
  let Cd:=Wh.G5 zp
  let yl:=bif bif !Cd.1 then true else zp.1 != An then true else decide (zp.2.2.2.2.1>(↑(List.length ((z6.2.2.2).1)):Int))
  bif iy [(!!bif !(Wh.G5 zp).1 then true else zp.1 != An) || decide (0≤An),(!!bif !(Wh.G5 zp).1 then true else zp.1 != An) || decide (An<zE),!!!(Wh.G5 zp).1 || decide (0≤An),!!!(Wh.G5 zp).1 || decide (An<zE),nQ (Wh.q74 zp),decide (0≤An),decide (An<zE)] then
   bif yl then
    some (.inr (.inl (false,())))
   else
    some (.inl (((IntKind.wrap .i64 (An+1)),()),z6))
  else none
 else
  some (.inr (.inr ((),z6)))
def Wh.YS:(((Bool))×(Unit))⊕(((Unit))×((gv.D))):=.inl default
def Wh.EI (xs:(gv.D)):Option (((Bool))×(Unit)):=
 let w_0:=xs
 let r_1:=Wh.q75' w_0.1
 let yz:=Wh.q78' w_0
 let w7:=bif bif bif !r_1.1 then true else(↑(List.length w_0.2.1):Int) != 4 then true else decide ((↑(List.length (w_0.2.2.1)):Int)>60) then true else !yz.1
 bif iy [(!!bif bif !r_1.1 then true else(↑(List.length w_0.2.1):Int) != 4 then true else decide ((↑(List.length (w_0.2.2.1)):Int)>60)) || nQ (Wh.q78 w_0),nQ (Wh.q75 w_0.1)] then
  bif w7 then
   some (false,())
  else
   let x_38:Wh.Sa:=((0,()),w_0)
   bif lF Wh.Dn x_38 then
    sumC (kG Wh.Dn Wh.YS x_38) (fun y_39=>
     let Cg:=y_39.1
     some (Cg,())) (fun z_40=>
     let HT:=z_40.2
     let x_65:Wh.Sb:=((0,()),HT)
     bif lF Wh.Dp x_65 then
      sumC (kG Wh.Dp Wh.YT x_65) (fun y_66=>
       let Ik:=y_66.1
       some (Ik,())) (fun _=>
       some (true,()))
     else none)
   else none
 else none
def Wh.R_:=bx Wh.EI
theorem Wh.YU:OV Wh.EI Wh.R_:=e_ _
def Wh.GC (xs:(xN.D)):Option (((Bool))×(Unit)):=
 let x5:=xs
 let BM:=bif bif bif bif bif bif(x5.1.1==0) then x5.1.2.1==0 else false then(↑(List.length ((x5.1.2.2).1)):Int)==0 else false then(↑(List.length (x5.1.2.2.2.1)):Int)==0 else false then x5.2.1.1==0 else false then(x5.2.1.2).1==0 else false then(↑(List.length (x5.2.1.2.2.1)):Int)==0 else false
 some (BM,())
def Wh.Te:=bx Wh.GC
theorem Wh.ZE:OV Wh.GC Wh.Te:=e_ _
abbrev Wh.Su:Type:=((Int)×(Unit)×(List (Int))×(Int))×((r5.D))
abbrev Wh.afL:Type:=((((Bool))×(Unit))⊕((Unit)×(Unit)))
def Wh.BE (x:Wh.Su):Option (Wh.Su⊕Wh.afL):=
 let yI:=x.1.1
 let yl:=(x.1.2.2).1
 let Ef:=x.1.2.2.2
 let yy:=x.2
 bif decide (yI<Ef) then
  let Au:=List.getD yl (Int.toNat yI) 0
  bif iy [decide (0≤yI),decide (yI<(↑(List.length yl):Int))] then
   let Ad:=Wh.zg yy
   let J5:=Wh.n_ (Au,1,Ad.1)
   let r_50:=Wh.n_ (List.getD ((yy.2.2.2).1) (Int.toNat yI) 0,1,99)
   let y_:=bif bif !J5.1 then true else bif decide (yI>0) then decide (List.getD (yy.2.2.1) (Int.toNat (IntKind.wrap .i64 (yI-1))) 0≥Au) else false then true else !r_50.1
   bif iy [(!!bif !Prod.fst (Wh.n_ (Au,1,Ad.1)) then true else bif decide (yI>0) then decide (List.getD (yy.2.2.1) (Int.toNat (IntKind.wrap .i64 (yI-1))) 0≥Au) else false) || nQ (Wh.xR (List.getD ((yy.2.2.2).1) (Int.toNat yI) 0,1,99)),(!!bif !Prod.fst (Wh.n_ (Au,1,Ad.1)) then true else bif decide (yI>0) then decide (List.getD (yy.2.2.1) (Int.toNat (IntKind.wrap .i64 (yI-1))) 0≥Au) else false) || decide (0≤yI),(!!bif !Prod.fst (Wh.n_ (Au,1,Ad.1)) then true else bif decide (yI>0) then decide (List.getD (yy.2.2.1) (Int.toNat (IntKind.wrap .i64 (yI-1))) 0≥Au) else false) || decide (yI<(↑(List.length ((yy.2.2.2).1)):Int)),!(decide (yI>0) && !!Prod.fst (Wh.n_ (Au,1,Ad.1))) || decide (0≤IntKind.wrap .i64 (yI-1)),!(decide (yI>0) && !!Prod.fst (Wh.n_ (Au,1,Ad.1))) || decide (IntKind.wrap .i64 (yI-1)<(↑(List.length (yy.2.2.1)):Int)),nQ (Wh.xR (Au,1,Ad.1)),nQ (Wh.AG yy)] then
    bif y_ then
     some (.inr (.inl (false,())))
    else
     some (.inl (((IntKind.wrap .i64 (yI+1)),(),yl,Ef),yy))
   else none
  else none
 else
  some (.inr (.inr ((),())))
def Wh.Y9:(((Bool))×(Unit))⊕((Unit)×(Unit)):=.inl default
def Wh.A0 (xs:(r5.D)):Option (((Bool))×(Unit)):=
 let vN:r5.D:=xs
 let r_1:=Wh.n_ (vN.1,1,300)
 let r_2:=Wh.n_ (vN.2.1,1,16)
 let xQ:=Wh.zg vN
 let zO:=bif bif !r_1.1 then true else !r_2.1 then true else decide (xQ.1>24)
 bif iy [(!!bif !r_1.1 then true else !r_2.1) || nQ (Wh.AG vN),!!!r_1.1 || nQ (Wh.xR (vN.2.1,1,16)),nQ (Wh.xR (vN.1,1,300))] then
  bif zO then
   some (false,())
  else
   let w7:Int:=(↑(List.length (vN.2.2.1)):Int)
   let J0:=Wh.n_ (w7,1,3)
   let tn:=bif bif !J0.1 then true else(↑(List.length ((vN.2.2.2).1)):Int) != w7 then true else List.getD (vN.2.2.1) (Int.toNat (IntKind.wrap .i64 (w7-1))) 0 != xQ.1
   bif iy [(!!bif !Prod.fst (Wh.n_ (w7,1,3)) then true else(↑(List.length ((vN.2.2.2).1)):Int) != w7) || nQ (Wh.AG vN),(!!bif !Prod.fst (Wh.n_ (w7,1,3)) then true else(↑(List.length ((vN.2.2.2).1)):Int) != w7) || decide (0≤IntKind.wrap .i64 (w7-1)),(!!bif !Prod.fst (Wh.n_ (w7,1,3)) then true else(↑(List.length ((vN.2.2.2).1)):Int) != w7) || decide (IntKind.wrap .i64 (w7-1)<w7),nQ (Wh.xR (w7,1,3))] then
    bif tn then
     some (false,())
    else
     let Kn:Wh.Su:=((0,(),vN.2.2.1,w7),vN)
     bif lF Wh.BE Kn then
      sumC (kG Wh.BE Wh.Y9 Kn) (fun y_54=>
       let Bn:=y_54.1
       some (Bn,())) (fun _=>
       some (true,()))
     else none
   else none
 else none
def Wh.Jy:=bx Wh.A0
theorem Wh.q114_v:OV Wh.A0 Wh.Jy:=e_ _
abbrev Wh.Tb:Type:=((Int)×(List (Int))×(Int)×(List (Int))×(Int))×(Unit)
abbrev Wh.af1:Type:=((((Bool))×(Unit))⊕(((Int))×(Unit)))
def Wh.CK (x:Wh.Tb):Option (Wh.Tb⊕Wh.af1):=
 let tn:=x.1.1
 let U7:=x.1.2.1
 let Q6:=(x.1.2.2).1
 let nG:=x.1.2.2.2.1
 let n5:=x.1.2.2.2.2
 bif decide (tn<n5) then
  let y9:=List.getD nG (Int.toNat tn) 0
  bif iy [decide (0≤tn),decide (tn<(↑(List.length nG):Int))] then
   let Ag:=IntKind.wrap .i64 (Q6-1)
   let BI:=Wh.n_ (y9,0,Ag)
   let wX:=bif !BI.1 then true else bif decide (tn>0) then decide (List.getD U7 (Int.toNat (IntKind.wrap .i64 (tn-1))) 0≥y9) else false
   bif iy [!(decide (tn>0) && !!Prod.fst (Wh.n_ (y9,0,Ag))) || decide (0≤IntKind.wrap .i64 (tn-1)),!(decide (tn>0) && !!Prod.fst (Wh.n_ (y9,0,Ag))) || decide (IntKind.wrap .i64 (tn-1)<(↑(List.length U7):Int)),nQ (Wh.xR (y9,0,Ag))] then
    bif wX then
     some (.inr (.inl (false,())))
    else
     some (.inl (((IntKind.wrap .i64 (tn+1)),U7,Q6,nG,n5),()))
   else none
  else none
 else
  some (.inr (.inr (Q6,())))
def Wh.ZB:(((Bool))×(Unit))⊕(((Int))×(Unit)):=.inl default
def Wh.ES (xs:(List (Int))×(Int)):Option (((Bool))×(Unit)):=
 let CT:=xs.1
 let Q4:=xs.2
 let FC:Wh.Tb:=((0,CT,Q4,CT,(↑(List.length CT):Int)),())
 bif lF Wh.CK FC then
  sumC (kG Wh.CK Wh.ZB FC) (fun FG=>
   let yD:=FG.1
   some (yD,())) (fun Hu=>
   let V9:=Hu.1
   let Cd:=Wh.n_ (V9,0,24)
   bif iy [nQ (Wh.xR (V9,0,24))] then
    some (Cd.1,())
   else none)
 else none
def Wh.JF:=bx Wh.ES
theorem Wh.q147_v:OV Wh.ES Wh.JF:=e_ _
abbrev Wh.TL:Type:=((Int)×(Int)×(List (Int))×(Int))×(Unit)
abbrev Wh.agj:Type:=((((Int))×(Unit)))
def Wh.GS (x:Wh.TL):Option (Wh.TL⊕Wh.agj):=
 let x_:=x.1.1
 let m_10:=x.1.2.1
 let zo:=(x.1.2.2).1
 let yp:=x.1.2.2.2
 bif decide (x_<yp) then
  let r_:=List.getD zo (Int.toNat x_) 0
  bif iy [decide (0≤x_),decide (x_<(↑(List.length zo):Int))] then
   bif iy [decide (0≤r_)] then
    some (.inl (((IntKind.wrap .i64 (x_+1)),nj Go.BinOp.or Go.IntKind.u32 m_10 (IntKind.wrap .u32 ((1:Int)*2 ^ Min.min (Int.toNat r_) (Go.IntKind.bits Go.IntKind.u32))),zo,yp),()))
   else none
  else none
 else
  some (.inr (m_10,()))
def Wh.Z3:(((Int))×(Unit)):=default
def Wh.GR (xs:(List (Int))):Option (((Int))×(Unit)):=
 let CT:=xs
 let x_17:Wh.TL:=((0,0,CT,(↑(List.length CT):Int)),())
 bif lF Wh.GS x_17 then
  let El:=kG Wh.GS Wh.Z3 x_17
  let m_19:=El.1
  some (m_19,())
 else none
def Wh.JO:=bx Wh.GR
theorem Wh.q170_v:OV Wh.GR Wh.JO:=e_ _
abbrev Wh.Uh:Type:=((Int)×(Int)×(List (nW.D))×(Int))×(Unit)
abbrev Wh.agB:Type:=((((Bool))×(Unit))⊕((Unit)×(Unit)))
def Wh.Ff (x:Wh.Uh):Option (Wh.Uh⊕Wh.agB):=
 let Kf:=x.1.1
 let YI:=x.1.2.1
 let Kg:=(x.1.2.2).1
 let OR:=x.1.2.2.2
 bif decide (Kf<OR) then
  let Jp:=List.getD Kg (Int.toNat Kf) ([],[],())
  bif iy [decide (0≤Kf),decide (Kf<(↑(List.length Kg):Int))] then
   let v_73:List Int:=List.take (Int.toNat ((↑(List.length Jp.1):Int)-1)) (List.drop (Int.toNat 1) Jp.1)
   let r_77:=Wh.JO v_73
   let Ki:=nj Go.BinOp.and Go.IntKind.u32 r_77.1 YI != 0
   bif iy [nQ (Wh.GR v_73),true,decide (1≤(↑(List.length Jp.1):Int)),decide ((↑(List.length Jp.1):Int)≤(↑(List.length Jp.1):Int))] then
    bif Ki then
     some (.inr (.inl (false,())))
    else
     some (.inl (((IntKind.wrap .i64 (Kf+1)),YI,Kg,OR),()))
   else none
  else none
 else
  some (.inr (.inr ((),())))
def Wh.aan:(((Bool))×(Unit))⊕((Unit)×(Unit)):=.inl default
abbrev Wh.Ug:Type:=((Int)×(Int)×(Unit)×(List (nW.D))×(Int))×((lg.D))
abbrev Wh.agA:Type:=((((Bool))×(Unit))⊕(((Int)×(Unit))×((lg.D))))
def Wh.B_ (x:Wh.Ug):Option (Wh.Ug⊕Wh.agA):=
 let xY:=x.1.1
 let YH:=x.1.2.1
 let wX:=x.1.2.2.2.1
 let yT:=x.1.2.2.2.2
 let AU:=x.2
 bif decide (xY<yT) then
  let AY:=List.getD wX (Int.toNat xY) ([],[],())
  bif iy [decide (0≤xY),decide (xY<(↑(List.length wX):Int))] then
   let yD:Int:=(↑(List.length AY.1):Int)
   let He:=Wh.JF (AY.1,AU.1)
   let Cg:=bif bif bif yD==0 then true else !He.1 then true else(↑(List.length AY.2.1):Int) != AU.2.1 then true else bif decide (xY>0) then decide (List.getD (Prod.fst (List.getD (AU.2.2.1) (Int.toNat (IntKind.wrap .i64 (xY-1))) ([],[],()))) (Int.toNat 0) 0≥List.getD AY.1 (Int.toNat 0) 0) else false
   bif iy [!(decide (xY>0) && !bif bif yD==0 then true else !He.1 then true else(↑(List.length AY.2.1):Int) != AU.2.1) || decide ((0:Int)≤0),!(decide (xY>0) && !bif bif yD==0 then true else !He.1 then true else(↑(List.length AY.2.1):Int) != AU.2.1) || decide (0<yD),!(decide (xY>0) && !bif bif yD==0 then true else !He.1 then true else(↑(List.length AY.2.1):Int) != AU.2.1) || decide ((0:Int)≤0),!(decide (xY>0) && !bif bif yD==0 then true else !He.1 then true else(↑(List.length AY.2.1):Int) != AU.2.1) || decide (0<(↑(List.length (Prod.fst (List.getD (AU.2.2.1) (Int.toNat (IntKind.wrap .i64 (xY-1))) ([],[],())))):Int)),!(decide (xY>0) && !bif bif yD==0 then true else !He.1 then true else(↑(List.length AY.2.1):Int) != AU.2.1) || decide (0≤IntKind.wrap .i64 (xY-1)),!(decide (xY>0) && !bif bif yD==0 then true else !He.1 then true else(↑(List.length AY.2.1):Int) != AU.2.1) || decide (IntKind.wrap .i64 (xY-1)<(↑(List.length (AU.2.2.1)):Int)),!!yD==0 || nQ (Wh.ES (AY.1,AU.1))] then
    bif Cg then
     some (.inr (.inl (false,())))
    else
     let Fz:=List.getD AY.1 (Int.toNat 0) 0
     let afx:Int:=nj Go.BinOp.or Go.IntKind.u32 YH (IntKind.wrap .u32 ((1:Int)*2 ^ Min.min (Int.toNat Fz) (Go.IntKind.bits Go.IntKind.u32)))
     bif iy [decide (0≤Fz),true,decide (0<yD)] then
      some (.inl (((IntKind.wrap .i64 (xY+1)),afx,(),wX,yT),AU))
     else none
   else none
  else none
 else
  some (.inr (.inr ((YH,()),AU)))
def Wh.aam:(((Bool))×(Unit))⊕(((Int)×(Unit))×((lg.D))):=.inl default
def Wh.B9 (xs:(lg.D)):Option (((Bool))×(Unit)):=
 let fN:=xs
 let r_1:=Wh.n_ (fN.1,1,24)
 let r_2:=Wh.n_ (fN.2.1,1,16)
 let w8:=bif !r_1.1 then true else !r_2.1
 bif iy [!!!r_1.1 || nQ (Wh.xR (fN.2.1,1,16)),nQ (Wh.xR (fN.1,1,24))] then
  bif w8 then
   some (false,())
  else
   let xZ:Int:=(↑(List.length (fN.2.2.1)):Int)
   let Km:Wh.Ug:=((0,0,(),fN.2.2.1,xZ),fN)
   bif lF Wh.B_ Km then
    sumC (kG Wh.B_ Wh.aam Km) (fun y_48=>
     let OP:=y_48.1
     some (OP,())) (fun z_49=>
     let afy:=z_49.1.1
     let AV:=z_49.2
     let BN:Int:=(↑(List.length (AV.2.2.1)):Int)
     let x_80:Wh.Uh:=((0,afy,AV.2.2.1,BN),())
     bif lF Wh.Ff x_80 then
      sumC (kG Wh.Ff Wh.aan x_80) (fun y_81=>
       let Ek:=y_81.1
       some (Ek,())) (fun _=>
       some (true,()))
     else none)
   else none
 else none
def Wh.JS:=bx Wh.B9
theorem Wh.q48_v:OV Wh.B9 Wh.JS:=e_ _
def Wh.ER (xs:(xN.D)):Option (((Bool))×(Unit)):=
 let x5:=xs
 let r_1:=Wh.Jy x5.1
 let r_2:=Wh.JS x5.2.1
 let xQ:=Wh.zg x5.1
 let x_:=bif bif bif r_1.1 then r_2.1 else false then x5.2.1.1==xQ.1 else false then(x5.2.1.2).1==x5.1.2.1 else false
 bif iy [(!bif r_1.1 then r_2.1 else false) || nQ (Wh.AG x5.1),!r_1.1 || nQ (Wh.B9 x5.2.1),nQ (Wh.A0 x5.1)] then
  some (x_,())
 else none
def Wh.Ta:=bx Wh.ER
theorem Wh.ZA:OV Wh.ER Wh.Ta:=e_ _
abbrev Wh.TT:Type:=((Int)×(Int)×(List (nW.D))×(Int))×(Unit)
abbrev Wh.agl:Type:=((((List UInt8)×(Bool))×(Unit))⊕((Unit)×(Unit)))
def Wh.E9 (x:Wh.TT):Option (Wh.TT⊕Wh.agl):=
 let r_:=x.1.1
 let at_15:=x.1.2.1
 let tn:=(x.1.2.2).1
 let xS:=x.1.2.2.2
 bif decide (r_<xS) then
  let HY:=List.getD tn (Int.toNat r_) ([],[],())
  bif iy [decide (0≤r_),decide (r_<(↑(List.length tn):Int))] then
   let n5:Int:=(↑(List.length HY.1):Int)
   let Ag:=bif n5==1 then List.getD HY.1 (Int.toNat 0) 0==at_15 else false
   bif iy [!n5==1 || decide ((0:Int)≤0),!n5==1 || decide (0<n5)] then
    bif Ag then
     some (.inr (.inl ((HY.2.1,true),())))
    else
     some (.inl (((IntKind.wrap .i64 (r_+1)),at_15,tn,xS),()))
   else none
  else none
 else
  some (.inr (.inr ((),())))
def Wh.Z7:(((List UInt8)×(Bool))×(Unit))⊕((Unit)×(Unit)):=.inl default
def Wh.q20 (xs:(lg.D)×(Int)):Option (((List UInt8)×(Bool))×(Unit)):=
 let fN:=xs.1
 let zQ:=xs.2
 let v_2:Int:=(↑(List.length (fN.2.2.1)):Int)
 let x_25:Wh.TT:=((0,zQ,fN.2.2.1,v_2),())
 bif lF Wh.E9 x_25 then
  sumC (kG Wh.E9 Wh.Z7 x_25) (fun yW=>
   let wX:=yW.1.1
   let yT:=yW.1.2
   some ((wX,yT),())) (fun _=>
   some (([],false),()))
 else none
def Wh.JQ:=bx Wh.q20
theorem Wh.q20_v:OV Wh.q20 Wh.JQ:=e_ _
abbrev Wh.U1:Type:=((Int)×(Unit))×((lg.D))
abbrev Wh.q9_l0Y:Type:=((((Int))×(Unit)))
def Wh.Ft (x:Wh.U1):Option (Wh.U1⊕Wh.q9_l0Y):=
 let n_7:=x.1.1
 let Dg:=x.2
 bif decide (n_7<Dg.1) then
  let BG:=Wh.JQ (Dg,n_7)
  bif iy [nQ (Wh.q20 (Dg,n_7))] then
   bif(!BG.1.2) then
    some (.inr (n_7,()))
   else
    some (.inl (((IntKind.wrap .i64 (n_7+1)),()),Dg))
  else none
 else
  some (.inr (n_7,()))
def Wh.aaT:(((Int))×(Unit)):=default
def Wh.G7 (xs:(lg.D)):Option (((Int))×(Unit)):=
 let fN:=xs
 let x_13:Wh.U1:=((0,()),fN)
 bif lF Wh.Ft x_13 then
  let y_14:=kG Wh.Ft Wh.aaT x_13
  let n_15:=y_14.1
  some (n_15,())
 else none
def Wh.q9':=bx Wh.G7
theorem Wh.q9_v:OV Wh.G7 Wh.q9':=e_ _
def Wh.BB (xs:(xN.D)):Option (((Bool))×(Unit)):=
 let x5:=xs
 let r_1:=Wh.q9' x5.2.1
 bif iy [nQ (Wh.G7 x5.2.1)] then
  some ((r_1.1==x5.2.1.1),())
 else none
def Wh.EJ:=bx Wh.BB
theorem Wh.q11_v:OV Wh.BB Wh.EJ:=e_ _
def Wh.q46 (xs:(nE.D)):Option (((Bool))×(Unit)):=
 let fe:=xs
 let r_1:=Wh.Ic fe.1
 let r_2:=Wh.n_ (fe.2.1,0,99999)
 let xQ:=Wh.n_ (fe.2.2.2.2.1,0,99999)
 let zO:=bif bif !r_1.1 then true else !r_2.1 then true else !xQ.1
 bif iy [(!!bif !r_1.1 then true else !r_2.1) || nQ (Wh.xR (fe.2.2.2.2.1,0,99999)),!!!r_1.1 || nQ (Wh.xR (fe.2.1,0,99999)),nQ (Wh.Ca fe.1)] then
  bif zO then
   some (false,())
  else
   let w7:=decide (fe.2.2.2.2.1>0)
   let yM:=Wh.Te ((fe.2.2.2.2.2).1)
   let Fu:=Wh.Ta ((fe.2.2.2.2.2).1)
   let yp:=bif bif !w7 then !yM.1 else false then true else bif w7 then !Fu.1 else false
   bif iy [!(w7 && !bif !w7 then !yM.1 else false) || nQ (Wh.ER ((fe.2.2.2.2.2).1)),!!w7 || nQ (Wh.GC ((fe.2.2.2.2.2).1))] then
    bif yp then
     some (false,())
    else
     bif(fe.2.2.1==0) then
      let r_:Bool:=(fe.2.2.2).1 == []
      some (bif r_ then !w7 else false,())
     else
      let xP:=fe.2.1==0
      let G9:=Wh.Jx ((fe.2.2.2).1)
      let xS:=bif xP then true else !G9.1
      bif iy [!!xP || nQ (Wh.BD ((fe.2.2.2).1))] then
       bif xS then
        some (false,())
       else
        let so:=fe.2.2.1==1
        bif so then
         bif so then
          let G_:=Wh.EJ ((fe.2.2.2.2.2).1)
          let vT:=bif !w7 then true else !G_.1
          bif iy [!!!w7 || nQ (Wh.BB ((fe.2.2.2.2.2).1))] then
           some (vT,())
          else none
         else
          bif(fe.2.2.1==2) then
           let x6:=Wh.EJ ((fe.2.2.2.2.2).1)
           let zE:=bif w7 then !x6.1 else false
           bif iy [!w7 || nQ (Wh.BB ((fe.2.2.2.2.2).1))] then
            some (zE,())
           else none
          else
           bif(fe.2.2.1==3) then
            let BI:=Wh.EJ ((fe.2.2.2.2.2).1)
            let yT:=bif w7 then BI.1 else false
            bif iy [!w7 || nQ (Wh.BB ((fe.2.2.2.2.2).1))] then
             some (yT,())
            else none
           else
            some (false,())
        else
         bif(fe.2.2.1==4) then
          let J1:=Wh.EJ ((fe.2.2.2.2.2).1)
          let yD:=bif !w7 then true else !J1.1
          bif iy [!!!w7 || nQ (Wh.BB ((fe.2.2.2.2.2).1))] then
           some (yD,())
          else none
         else
          bif(fe.2.2.1==2) then
           let Cd:=Wh.EJ ((fe.2.2.2.2.2).1)
           let Ef:=bif w7 then !Cd.1 else false
           bif iy [!w7 || nQ (Wh.BB ((fe.2.2.2.2.2).1))] then
            some (Ef,())
           else none
          else
           bif(fe.2.2.1==3) then
            let As:=Wh.EJ ((fe.2.2.2.2.2).1)
            let Cg:=bif w7 then As.1 else false
            bif iy [!w7 || nQ (Wh.BB ((fe.2.2.2.2.2).1))] then
             some (Cg,())
            else none
           else
            some (false,())
      else none
   else none
 else none
def Wh.q46':=bx Wh.q46
theorem Wh.q46_v:OV Wh.q46 Wh.q46':=e_ _
abbrev Wh.UQ:Type:=((Int)×(Unit)×(List (an.D))×(Int))×((gv.D))
abbrev Wh.ag4:Type:=((((Bool))×(Unit))⊕((Unit)×(Unit)))
def Wh.Ea (x:Wh.UQ):Option (Wh.UQ⊕Wh.ag4):=
 let Kc:=x.1.1
 let Vh:=(x.1.2.2).1
 let v_145:=x.1.2.2.2
 let HS:=x.2
 bif decide (Kc<v_145) then
  let Ba:an.D:=List.getD Vh (Int.toNat Kc) (0,[],0,[],())
  bif iy [decide (0≤Kc),decide (Kc<(↑(List.length Vh):Int))] then
   let OM:Int:=(↑(List.length ((HS.2.2.2).1)):Int)
   let ON:=bif decide (Ba.2.2.1≤OM) then !(Prod.fst (List.getD ((HS.2.2.2).1) (Int.toNat (IntKind.wrap .i64 (Ba.2.2.1-1))) (0,[],0,[],()))==Ba.1&&(Prod.fst (Prod.snd (List.getD ((HS.2.2.2).1) (Int.toNat (IntKind.wrap .i64 (Ba.2.2.1-1))) (0,[],0,[],())))==Ba.2.1&&(Prod.fst (Prod.snd (Prod.snd (List.getD ((HS.2.2.2).1) (Int.toNat (IntKind.wrap .i64 (Ba.2.2.1-1))) (0,[],0,[],()))))==Ba.2.2.1&&(Prod.fst (Prod.snd (Prod.snd (Prod.snd (List.getD ((HS.2.2.2).1) (Int.toNat (IntKind.wrap .i64 (Ba.2.2.1-1))) (0,[],0,[],())))))==(Ba.2.2.2).1&&true)))) else false
   bif iy [!decide (Ba.2.2.1≤OM) || decide (0≤IntKind.wrap .i64 (Ba.2.2.1-1)),!decide (Ba.2.2.1≤OM) || decide (IntKind.wrap .i64 (Ba.2.2.1-1)<OM)] then
    bif ON then
     some (.inr (.inl (false,())))
    else
     some (.inl (((IntKind.wrap .i64 (Kc+1)),(),Vh,v_145),HS))
   else none
  else none
 else
  some (.inr (.inr ((),())))
def Wh.aaQ:(((Bool))×(Unit))⊕((Unit)×(Unit)):=.inl default
abbrev Wh.UP:Type:=((Int)×(Unit)×(Unit)×(Int))×((gv.D)×(List (an.D)))
abbrev Wh.ag3:Type:=((((Bool))×(Unit))⊕((Unit)×(Unit)))
def Wh.D_ (x:Wh.UP):Option (Wh.UP⊕Wh.ag3):=
 let Kb:=x.1.1
 let v_113:=x.1.2.2.2
 let HR:=x.2.1
 let Jk:=x.2.2
 bif decide (Kb<v_113) then
  let A_:an.D:=List.getD Jk (Int.toNat Kb) (0,[],0,[],())
  bif iy [decide (0≤Kb),decide (Kb<(↑(List.length Jk):Int))] then
   let OJ:Int:=(↑(List.length ((HR.2.2.2).1)):Int)
   let v_121:=bif decide (A_.2.2.1≤OJ) then !(Prod.fst (List.getD ((HR.2.2.2).1) (Int.toNat (IntKind.wrap .i64 (A_.2.2.1-1))) (0,[],0,[],()))==A_.1&&(Prod.fst (Prod.snd (List.getD ((HR.2.2.2).1) (Int.toNat (IntKind.wrap .i64 (A_.2.2.1-1))) (0,[],0,[],())))==A_.2.1&&(Prod.fst (Prod.snd (Prod.snd (List.getD ((HR.2.2.2).1) (Int.toNat (IntKind.wrap .i64 (A_.2.2.1-1))) (0,[],0,[],()))))==A_.2.2.1&&(Prod.fst (Prod.snd (Prod.snd (Prod.snd (List.getD ((HR.2.2.2).1) (Int.toNat (IntKind.wrap .i64 (A_.2.2.1-1))) (0,[],0,[],())))))==(A_.2.2.2).1&&true)))) else false
   bif iy [!decide (A_.2.2.1≤OJ) || decide (0≤IntKind.wrap .i64 (A_.2.2.1-1)),!decide (A_.2.2.1≤OJ) || decide (IntKind.wrap .i64 (A_.2.2.1-1)<OJ)] then
    bif v_121 then
     some (.inr (.inl (false,())))
    else
     some (.inl (((IntKind.wrap .i64 (Kb+1)),(),(),v_113),HR,Jk))
   else none
  else none
 else
  some (.inr (.inr ((),())))
def Wh.aaP:(((Bool))×(Unit))⊕((Unit)×(Unit)):=.inl default
abbrev Wh.UO:Type:=((Int)×(List (an.D))×(Unit)×(Int))×((gv.D))
abbrev Wh.ag2:Type:=((((Bool))×(Unit))⊕(((Unit))×((gv.D))))
def Wh.D9 (x:Wh.UO):Option (Wh.UO⊕Wh.ag2):=
 let Kh:=x.1.1
 let Ki:=x.1.2.1
 let v_79:=x.1.2.2.2
 let Jn:=x.2
 bif decide (Kh<v_79) then
  let ED:an.D:=List.getD Ki (Int.toNat Kh) (0,[],0,[],())
  bif iy [decide (0≤Kh),decide (Kh<(↑(List.length Ki):Int))] then
   let Ek:=IntKind.wrap .i64 (Kh+1)
   let r_86:=Wh.N7 (ED.1,ED.2.1,(ED.2.2.2).1)
   let v_87:=bif ED.2.2.1 != Ek then true else !r_86.1
   bif iy [!!ED.2.2.1 != Ek || nQ (Wh.q16 (ED.1,ED.2.1,(ED.2.2.2).1))] then
    bif v_87 then
     some (.inr (.inl (false,())))
    else
     some (.inl ((Ek,Ki,(),v_79),Jn))
   else none
  else none
 else
  some (.inr (.inr ((),Jn)))
def Wh.aaO:(((Bool))×(Unit))⊕(((Unit))×((gv.D))):=.inl default
abbrev Wh.UN:Type:=((Int)×(List (ov.D))×(Unit)×(Int))×((gv.D))
abbrev Wh.ag1:Type:=((((Bool))×(Unit))⊕(((Unit))×((gv.D))))
def Wh.D8 (x:Wh.UN):Option (Wh.UN⊕Wh.ag1):=
 let Ei:=x.1.1
 let Ej:=x.1.2.1
 let OP:=x.1.2.2.2
 let ls_51:=x.2
 bif decide (Ei<OP) then
  let HZ:=List.getD Ej (Int.toNat Ei) (0,[],false,())
  bif iy [decide (0≤Ei),decide (Ei<(↑(List.length Ej):Int))] then
   let xT:=HZ.1 != 9
   let BK:=Wh.Ic HZ.1
   let Av:=bif bif xT then !BK.1 else false then true else decide ((↑(List.length HZ.2.1):Int)>160)
   bif iy [!xT || nQ (Wh.Ca HZ.1)] then
    bif Av then
     some (.inr (.inl (false,())))
    else
     some (.inl (((IntKind.wrap .i64 (Ei+1)),Ej,(),OP),ls_51))
   else none
  else none
 else
  some (.inr (.inr ((),ls_51)))
def Wh.aaN:(((Bool))×(Unit))⊕(((Unit))×((gv.D))):=.inl default
abbrev Wh.UM:Type:=((Int)×(Unit)×(List (nE.D))×(Int))×((gv.D))
abbrev Wh.ag0:Type:=((((Bool))×(Unit))⊕(((Unit))×((gv.D))))
def Wh.D7 (x:Wh.UM):Option (Wh.UM⊕Wh.ag0):=
 let so:=x.1.1
 let nG:=(x.1.2.2).1
 let n5:=x.1.2.2.2
 let y2:=x.2
 bif decide (so<n5) then
  let zu:=List.getD nG (Int.toNat so) (0,0,0,[],0,((0,0,[],[],()),(0,0,[],()),()),())
  bif iy [decide (0≤so),decide (so<(↑(List.length nG):Int))] then
   let yC:=zu.1 != so
   let BH:=Wh.q46' zu
   let wX:=bif bif yC then true else !BH.1 then true else decide (zu.2.2.2.2.1>(↑(List.length ((y2.2.2.2).1)):Int))
   bif iy [!!yC || nQ (Wh.q46 zu)] then
    bif wX then
     some (.inr (.inl (false,())))
    else
     some (.inl (((IntKind.wrap .i64 (so+1)),(),nG,n5),y2))
   else none
  else none
 else
  some (.inr (.inr ((),y2)))
def Wh.aaM:(((Bool))×(Unit))⊕(((Unit))×((gv.D))):=.inl default
def Wh.q86 (xs:(gv.D)):Option (((Bool))×(Unit)):=
 let w_0:=xs
 let r_1:=Wh.q47' w_0.1
 let xZ:=bif bif !r_1.1 then true else(↑(List.length w_0.2.1):Int) != 4 then true else decide ((↑(List.length (w_0.2.2.1)):Int)>60)
 bif iy [nQ (Wh.q47 w_0.1)] then
  bif xZ then
   some (false,())
  else
   let yw:Int:=(↑(List.length w_0.2.1):Int)
   let FC:Wh.UM:=((0,(),w_0.2.1,yw),w_0)
   bif lF Wh.D7 FC then
    sumC (kG Wh.D7 Wh.aaM FC) (fun FG=>
     let yD:=FG.1
     some (yD,())) (fun Hu=>
     let ye:=Hu.2
     let yI:Int:=(↑(List.length (ye.2.2.1)):Int)
     let x_60:Wh.UN:=((0,ye.2.2.1,(),yI),ye)
     bif lF Wh.D8 x_60 then
      sumC (kG Wh.D8 Wh.aaN x_60) (fun y_61=>
       let v_63:=y_61.1
       some (v_63,())) (fun z_62=>
       let RF:=z_62.2
       let v_65:Int:=(↑(List.length ((RF.2.2.2).1)):Int)
       let x_88:Wh.UO:=((0,(RF.2.2.2).1,(),v_65),RF)
       bif lF Wh.D9 x_88 then
        sumC (kG Wh.D9 Wh.aaO x_88) (fun y_89=>
         let v_91:=y_89.1
         some (v_91,())) (fun z_90=>
         let BW:=z_90.2
         bif(!BW.1.1) then
          let r_94:=Wh.Ol ((BW.1.2.2).1)
          bif iy [nQ (Wh.CR ((BW.1.2.2).1))] then
           let Ow:=Wh.NZ r_94.1.1
           bif iy [nQ (Wh.DD r_94.1.1)] then
            let CY:Int:=(↑(List.length ((BW.2.2.2).1)):Int)
            let r_99:=Wh.n_ (Ow.1.1.1,CY,IntKind.wrap .i64 (CY+1))
            bif iy [nQ (Wh.xR (Ow.1.1.1,CY,IntKind.wrap .i64 (CY+1)))] then
             bif !r_99.1 then
              some (false,())
             else
              let v_100:Int:=(↑(List.length ((Ow.1.1.2).1)):Int)
              let x_123:Wh.UP:=((0,(),(),v_100),BW,(Ow.1.1.2).1)
              bif lF Wh.D_ x_123 then
               sumC (kG Wh.D_ Wh.aaP x_123) (fun y_124=>
                let v_126:=y_124.1
                some (v_126,())) (fun _=>
                some (true,()))
              else none
            else none
           else none
          else none
         else
          let OL:Int:=(↑(List.length ((BW.2.2.2).1)):Int)
          let r_130:=Wh.n_ ((BW.1.2.2.2.1).1,OL,IntKind.wrap .i64 (OL+0))
          bif iy [nQ (Wh.xR ((BW.1.2.2.2.1).1,OL,IntKind.wrap .i64 (OL+0)))] then
           bif !r_130.1 then
            some (false,())
           else
            let Vg:Int:=(↑(List.length ((BW.1.2.2.2.1).2.1)):Int)
            let x_154:Wh.UQ:=((0,(),(BW.1.2.2.2.1).2.1,Vg),BW)
            bif lF Wh.Ea x_154 then
             sumC (kG Wh.Ea Wh.aaQ x_154) (fun y_155=>
              let v_157:=y_155.1
              some (v_157,())) (fun _=>
              some (true,()))
            else none
          else none)
       else none)
     else none)
   else none
 else none
def Wh.q86':=bx Wh.q86
theorem Wh.q86_v:OV Wh.q86 Wh.q86':=e_ _
abbrev Wh.SA:Type:=((Int)×(List (Int))×(List (Int)))×(Unit)
abbrev Wh.afO:Type:=((((Bool))×(Unit))⊕((Unit)×(Unit)))
def Wh.Gp (x:Wh.SA):Option (Wh.SA⊕Wh.afO):=
 let FZ:=x.1.1
 let b_12:=x.1.2.1
 let xV:=x.1.2.2
 let r_:=decide (FZ<(↑(List.length xV):Int))
 bif r_ then
  let xP:=List.getD xV (Int.toNat FZ) 0
  let tn:=List.getD b_12 (Int.toNat FZ) 0
  let xS:=xP != tn
  bif iy [decide (0≤FZ),decide (FZ<(↑(List.length b_12):Int)),decide (0≤FZ),r_] then
   bif xS then
    some (.inr (.inl (false,())))
   else
    some (.inl (((IntKind.wrap .i64 (FZ+1)),b_12,xV),()))
  else none
 else
  some (.inr (.inr ((),())))
def Wh.Zb:(((Bool))×(Unit))⊕((Unit)×(Unit)):=.inl default
def Wh.Dv (xs:(List (Int))×(List (Int))):Option (((Bool))×(Unit)):=
 let bn:=xs.1
 let b_1:=xs.2
 let v_2:Bool:=(↑(List.length bn):Int) != (↑(List.length b_1):Int)
 bif v_2 then
  some (false,())
 else
  let x_19:Wh.SA:=((0,b_1,bn),())
  bif lF Wh.Gp x_19 then
   sumC (kG Wh.Gp Wh.Zb x_19) (fun Kw=>
    let y9:=Kw.1
    some (y9,())) (fun _=>
    some (true,()))
  else none
def Wh.Gn:=bx Wh.Dv
theorem Wh.q118_v:OV Wh.Dv Wh.Gn:=e_ _
def Wh.Gr (xs:(r5.D)×(r5.D)):Option (((Bool))×(Unit)):=
 let bn:=xs.1
 let b_1:=xs.2
 bif(bn.1 != b_1.1) then
  some (false,())
 else
  bif(bn.2.1 != b_1.2.1) then
   some (false,())
  else
   let nC:=Wh.Gn (bn.2.2.1,b_1.2.2.1)
   bif iy [nQ (Wh.Dv (bn.2.2.1,b_1.2.2.1))] then
    bif !nC.1 then
     some (false,())
    else
     let xQ:=Wh.Gn ((bn.2.2.2).1,(b_1.2.2.2).1)
     bif iy [nQ (Wh.Dv ((bn.2.2.2).1,(b_1.2.2.2).1))] then
      bif !xQ.1 then
       some (false,())
      else
       some (true,())
     else none
   else none
def Wh.NQ:=bx Wh.Gr
theorem Wh.q120_v:OV Wh.Gr Wh.NQ:=e_ _
def Wh.GU (xs:(nW.D)×(nW.D)):Option (((Bool))×(Unit)):=
 let bn:=xs.1
 let b_1:=xs.2
 let r_2:=Wh.Gn (bn.1,b_1.1)
 bif iy [nQ (Wh.Dv (bn.1,b_1.1))] then
  bif !r_2.1 then
   some (false,())
  else
   bif(!bn.2.1==b_1.2.1) then
    some (false,())
   else
    some (true,())
 else none
def Wh.Ob:=bx Wh.GU
theorem Wh.q171_v:OV Wh.GU Wh.Ob:=e_ _
abbrev Wh.Tg:Type:=((Int)×(List (nW.D))×(List (nW.D)))×(Unit)
abbrev Wh.af3:Type:=((((Bool))×(Unit))⊕((Unit)×(Unit)))
def Wh.GG (x:Wh.Tg):Option (Wh.Tg⊕Wh.af3):=
 let fT:=x.1.1
 let yF:=x.1.2.1
 let yE:=x.1.2.2
 let so:Int:=(↑(List.length yE):Int)
 bif decide (fT<so) then
  let n5:=List.getD yE (Int.toNat fT) ([],[],())
  let vT:=List.getD yF (Int.toNat fT) ([],[],())
  let x6:=Wh.Ob (n5,vT)
  bif iy [nQ (Wh.GU (n5,vT)),decide (0≤fT),decide (fT<(↑(List.length yF):Int)),decide (0≤fT),decide (fT<so)] then
   bif !x6.1 then
    some (.inr (.inl (false,())))
   else
    some (.inl (((IntKind.wrap .i64 (fT+1)),yF,yE),()))
  else none
 else
  some (.inr (.inr ((),())))
def Wh.ZG:(((Bool))×(Unit))⊕((Unit)×(Unit)):=.inl default
def Wh.GF (xs:(List (nW.D))×(List (nW.D))):Option (((Bool))×(Unit)):=
 let bn:=xs.1
 let b_1:=xs.2
 let v_2:Int:=(↑(List.length bn):Int)
 let w8:Int:=(↑(List.length b_1):Int)
 let xZ:=v_2 != w8
 bif xZ then
  some (false,())
 else
  let x_25:Wh.Tg:=((0,b_1,bn),())
  bif lF Wh.GG x_25 then
   sumC (kG Wh.GG Wh.ZG x_25) (fun yW=>
    let wX:=yW.1
    some (wX,())) (fun _=>
    some (true,()))
  else none
def Wh.N3:=bx Wh.GF
theorem Wh.q152_v:OV Wh.GF Wh.N3:=e_ _
def Wh.q59 (xs:(lg.D)×(lg.D)):Option (((Bool))×(Unit)):=
 let bn:=xs.1
 let b_1:=xs.2
 bif(bn.1 != b_1.1) then
  some (false,())
 else
  bif(bn.2.1 != b_1.2.1) then
   some (false,())
  else
   let nC:=Wh.N3 (bn.2.2.1,b_1.2.2.1)
   bif iy [nQ (Wh.GF (bn.2.2.1,b_1.2.2.1))] then
    bif !nC.1 then
     some (false,())
    else
     some (true,())
   else none
def Wh.Ok:=bx Wh.q59
theorem Wh.q59_v:OV Wh.q59 Wh.Ok:=e_ _
def Wh.q29 (xs:(xN.D)×(xN.D)):Option (((Bool))×(Unit)):=
 let bn:=xs.1
 let b_1:=xs.2
 let r_2:=Wh.NQ (bn.1,b_1.1)
 bif iy [nQ (Wh.Gr (bn.1,b_1.1))] then
  bif !r_2.1 then
   some (false,())
  else
   let r_3:=Wh.Ok (bn.2.1,b_1.2.1)
   bif iy [nQ (Wh.q59 (bn.2.1,b_1.2.1))] then
    bif !r_3.1 then
     some (false,())
    else
     some (true,())
   else none
 else none
def Wh.Oe:=bx Wh.q29
theorem Wh.q29_v:OV Wh.q29 Wh.Oe:=e_ _
def Wh.q54 (xs:(nE.D)×(nE.D)):Option (((Bool))×(Unit)):=
 let bn:=xs.1
 let b_1:=xs.2
 bif(bn.1 != b_1.1) then
  some (false,())
 else
  bif(bn.2.1 != b_1.2.1) then
   some (false,())
  else
   bif(bn.2.2.1 != b_1.2.2.1) then
    some (false,())
   else
    bif(!(bn.2.2.2).1==(b_1.2.2.2).1) then
     some (false,())
    else
     bif(bn.2.2.2.2.1 != b_1.2.2.2.2.1) then
      some (false,())
     else
      let A3:=Wh.Oe ((bn.2.2.2.2.2).1,(b_1.2.2.2.2.2).1)
      bif iy [nQ (Wh.q29 ((bn.2.2.2.2.2).1,(b_1.2.2.2.2.2).1))] then
       bif !A3.1 then
        some (false,())
       else
        some (true,())
      else none
def Wh.Oi:=bx Wh.q54
theorem Wh.q54_v:OV Wh.q54 Wh.Oi:=e_ _
abbrev Wh.TZ:Type:=((Int)×(List (nE.D))×(List (nE.D)))×(Unit)
abbrev Wh.agp:Type:=((((Bool))×(Unit))⊕((Unit)×(Unit)))
def Wh.GY (x:Wh.TZ):Option (Wh.TZ⊕Wh.agp):=
 let fT:=x.1.1
 let yF:=x.1.2.1
 let yE:=x.1.2.2
 let so:Int:=(↑(List.length yE):Int)
 bif decide (fT<so) then
  let n5:=List.getD yE (Int.toNat fT) (0,0,0,[],0,((0,0,[],[],()),(0,0,[],()),()),())
  let vT:=List.getD yF (Int.toNat fT) (0,0,0,[],0,((0,0,[],[],()),(0,0,[],()),()),())
  let x6:=Wh.Oi (n5,vT)
  bif iy [nQ (Wh.q54 (n5,vT)),decide (0≤fT),decide (fT<(↑(List.length yF):Int)),decide (0≤fT),decide (fT<so)] then
   bif !x6.1 then
    some (.inr (.inl (false,())))
   else
    some (.inl (((IntKind.wrap .i64 (fT+1)),yF,yE),()))
  else none
 else
  some (.inr (.inr ((),())))
def Wh.aaa:(((Bool))×(Unit))⊕((Unit)×(Unit)):=.inl default
def Wh.q28 (xs:(List (nE.D))×(List (nE.D))):Option (((Bool))×(Unit)):=
 let bn:=xs.1
 let b_1:=xs.2
 let v_2:Int:=(↑(List.length bn):Int)
 let w8:Int:=(↑(List.length b_1):Int)
 let xZ:=v_2 != w8
 bif xZ then
  some (false,())
 else
  let x_25:Wh.TZ:=((0,b_1,bn),())
  bif lF Wh.GY x_25 then
   sumC (kG Wh.GY Wh.aaa x_25) (fun yW=>
    let wX:=yW.1
    some (wX,())) (fun _=>
    some (true,()))
  else none
def Wh.q28':=bx Wh.q28
theorem Wh.q28_v:OV Wh.q28 Wh.q28':=e_ _
def Wh.q56 (xs:(ov.D)×(ov.D)):Option (((Bool))×(Unit)):=
 let bn:=xs.1
 let b_1:=xs.2
 bif(bn.1 != b_1.1) then
  some (false,())
 else
  bif(!bn.2.1==b_1.2.1) then
   some (false,())
  else
   bif(!bn.2.2.1==b_1.2.2.1) then
    some (false,())
   else
    some (true,())
def Wh.Oj:=bx Wh.q56
theorem Wh.q56_v:OV Wh.q56 Wh.Oj:=e_ _
abbrev Wh.T3:Type:=((Int)×(List (ov.D))×(List (ov.D)))×(Unit)
abbrev Wh.agq:Type:=((((Bool))×(Unit))⊕((Unit)×(Unit)))
def Wh.GZ (x:Wh.T3):Option (Wh.T3⊕Wh.agq):=
 let fT:=x.1.1
 let yF:=x.1.2.1
 let yE:=x.1.2.2
 let so:Int:=(↑(List.length yE):Int)
 bif decide (fT<so) then
  let n5:=List.getD yE (Int.toNat fT) (0,[],false,())
  let vT:=List.getD yF (Int.toNat fT) (0,[],false,())
  let x6:=Wh.Oj (n5,vT)
  bif iy [nQ (Wh.q56 (n5,vT)),decide (0≤fT),decide (fT<(↑(List.length yF):Int)),decide (0≤fT),decide (fT<so)] then
   bif !x6.1 then
    some (.inr (.inl (false,())))
   else
    some (.inl (((IntKind.wrap .i64 (fT+1)),yF,yE),()))
  else none
 else
  some (.inr (.inr ((),())))
def Wh.aac:(((Bool))×(Unit))⊕((Unit)×(Unit)):=.inl default
def Wh.q30 (xs:(List (ov.D))×(List (ov.D))):Option (((Bool))×(Unit)):=
 let bn:=xs.1
 let b_1:=xs.2
 let v_2:Int:=(↑(List.length bn):Int)
 let w8:Int:=(↑(List.length b_1):Int)
 let xZ:=v_2 != w8
 bif xZ then
  some (false,())
 else
  let x_25:Wh.T3:=((0,b_1,bn),())
  bif lF Wh.GZ x_25 then
   sumC (kG Wh.GZ Wh.aac x_25) (fun yW=>
    let wX:=yW.1
    some (wX,())) (fun _=>
    some (true,()))
  else none
def Wh.q30':=bx Wh.q30
theorem Wh.q30_v:OV Wh.q30 Wh.q30':=e_ _
def Wh.q93 (xs:(gv.D)×(gv.D)):Option (((Bool))×(Unit)):=
 let bn:=xs.1
 let b_1:=xs.2
 let r_2:=Wh.q58' (bn.1,b_1.1)
 bif iy [nQ (Wh.q58 (bn.1,b_1.1))] then
  bif !r_2.1 then
   some (false,())
  else
   let r_3:=Wh.q28' (bn.2.1,b_1.2.1)
   bif iy [nQ (Wh.q28 (bn.2.1,b_1.2.1))] then
    bif !r_3.1 then
     some (false,())
    else
     let nC:=Wh.q30' (bn.2.2.1,b_1.2.2.1)
     bif iy [nQ (Wh.q30 (bn.2.2.1,b_1.2.2.1))] then
      bif !nC.1 then
       some (false,())
      else
       let xQ:=Wh.Om ((bn.2.2.2).1,(b_1.2.2.2).1)
       bif iy [nQ (Wh.q91 ((bn.2.2.2).1,(b_1.2.2.2).1))] then
        bif !xQ.1 then
         some (false,())
        else
         some (true,())
       else none
     else none
   else none
 else none
def Wh.q93':=bx Wh.q93
theorem Wh.q93_v:OV Wh.q93 Wh.q93':=e_ _
def Wh.q6 (xs:(gv.D)):Option (((Bool))×(Unit)):=
 let HD:=xs
 let r_1:=Wh.q95' (HD,1048576)
 bif iy [nQ (Wh.q95 (HD,1048576))] then
  bif decide (r_1.1<0) then
   some (true,())
  else
   let r_3:=Wh.q99' HD
   let xQ:=Wh.R_ r_3.1
   bif iy [nQ (Wh.EI r_3.1),nQ (Wh.Eb HD)] then
    bif iy [nQ (Wh.Eb HD)] then
     let yz:=Wh.q86' r_3.1
     bif iy [nQ (Wh.q86 r_3.1)] then
      bif(!yz.1==xQ.1) then
       some (false,())
      else
       let r_9:=Wh.q93' (r_3.1,r_3.1)
       bif iy [nQ (Wh.q93 (r_3.1,r_3.1)),nQ (Wh.Eb HD)] then
        bif !r_9.1 then
         some (false,())
        else
         some (true,())
       else none
     else none
    else none
   else none
 else none
def Wh.q6':=bx Wh.q6
end
