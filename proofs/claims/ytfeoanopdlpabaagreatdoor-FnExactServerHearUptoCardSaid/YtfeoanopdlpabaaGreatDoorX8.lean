import Derived.Test.YtfeoanopdlpabaaGreatDoorX7
open Go Go.Ab
noncomputable section
abbrev Wh.QS:Type:=((Int)×(Unit)×(Int))×((List (e_.D)))
abbrev Wh.adl:Type:=((((Int))×((List (e_.D)))))
def Wh.FI (x:Wh.QS):Option (Wh.QS⊕Wh.adl):=
 let nI:=x.1.1
 let CA:=x.1.2.2
 let Cf:=x.2
 let Ak:Int:=(↑(List.length Cf):Int)
 bif decide (nI<Ak) then
  let AI:List (e_.D):=List.set Cf (Int.toNat nI) (CA,Prod.snd (List.getD Cf (Int.toNat nI) (0,0,0,0,false,())))
  bif iy [decide (0≤nI),decide (nI<Ak)] then
   let wX:=IntKind.wrap .i64 (CA+1)
   let xd:List (e_.D):=List.set AI (Int.toNat nI) (Prod.fst (List.getD AI (Int.toNat nI) (0,0,0,0,false,())),wX,Prod.snd (Prod.snd (List.getD AI (Int.toNat nI) (0,0,0,0,false,()))))
   bif iy [decide (0≤nI),decide (nI<(↑(List.length AI):Int))] then
    let nG:=IntKind.wrap .i64 (wX+1)
    let yx:List (e_.D):=List.set xd (Int.toNat nI) (Prod.fst (List.getD xd (Int.toNat nI) (0,0,0,0,false,())),Prod.fst (Prod.snd (List.getD xd (Int.toNat nI) (0,0,0,0,false,()))),nG,Prod.snd (Prod.snd (Prod.snd (List.getD xd (Int.toNat nI) (0,0,0,0,false,())))))
    bif iy [decide (0≤nI),decide (nI<(↑(List.length xd):Int))] then
     let yy:=IntKind.wrap .i64 (nG+1)
     let tn:List (e_.D):=List.set yx (Int.toNat nI) (Prod.fst (List.getD yx (Int.toNat nI) (0,0,0,0,false,())),Prod.fst (Prod.snd (List.getD yx (Int.toNat nI) (0,0,0,0,false,()))),Prod.fst (Prod.snd (Prod.snd (List.getD yx (Int.toNat nI) (0,0,0,0,false,())))),yy,Prod.snd (Prod.snd (Prod.snd (Prod.snd (List.getD yx (Int.toNat nI) (0,0,0,0,false,()))))))
     bif iy [decide (0≤nI),decide (nI<(↑(List.length yx):Int))] then
      let z_:=IntKind.wrap .i64 (yy+1)
      let xT:List (e_.D):=List.set tn (Int.toNat nI) (Prod.fst (List.getD tn (Int.toNat nI) (0,0,0,0,false,())),Prod.fst (Prod.snd (List.getD tn (Int.toNat nI) (0,0,0,0,false,()))),Prod.fst (Prod.snd (Prod.snd (List.getD tn (Int.toNat nI) (0,0,0,0,false,())))),Prod.fst (Prod.snd (Prod.snd (Prod.snd (List.getD tn (Int.toNat nI) (0,0,0,0,false,()))))),Int.tmod z_ (3:Int)==0,Prod.snd (Prod.snd (Prod.snd (Prod.snd (Prod.snd (List.getD tn (Int.toNat nI) (0,0,0,0,false,())))))))
      bif iy [decide (0≤nI),decide (nI<(↑(List.length tn):Int)),true] then
       some (.inl (((IntKind.wrap .i64 (nI+1)),(),(IntKind.wrap .i64 (z_+1))),xT))
      else none
     else none
    else none
   else none
  else none
 else
  some (.inr (CA,Cf))
def Wh.Yi:(((Int))×((List (e_.D)))):=default
def Wh.q37 (xs:(List (e_.D))×(Int)):Option (((Int))×((List (e_.D))×Unit)):=
 let cx:=xs.1
 let k_1:=xs.2
 let KO:Wh.QS:=((0,(),k_1),cx)
 bif lF Wh.FI KO then
  let KW:=kG Wh.FI Wh.Yi KO
  let JD:=KW.1
  let Aq:=KW.2
  some (JD,Aq,())
 else none
def Wh.q37':=en Wh.q37
theorem Wh.q37_v:OV Wh.q37 Wh.q37':=eB _
def Wh.q77 (xs:(lg.D)×(Int)):Option (((Int))×((lg.D)×Unit)):=
 let cx:=xs.1
 let k_1:=xs.2
 let r_2:=Wh.q37' (cx.1,k_1)
 bif iy [nQ (Wh.q37 (cx.1,k_1))] then
  some (r_2.1,(r_2.2.1,cx.2),())
 else none
def Wh.q77':=en Wh.q77
theorem Wh.q77_v:OV Wh.q77 Wh.q77':=eB _
abbrev Wh.QK:Type:=((Int)×(Unit)×(Int))×((List (eA.D)))
abbrev Wh.adi:Type:=((((Int))×((List (eA.D)))))
def Wh.FF (x:Wh.QK):Option (Wh.QK⊕Wh.adi):=
 let yD:=x.1.1
 let k_17:=x.1.2.2
 let Ic:=x.2
 let th:Int:=(↑(List.length Ic):Int)
 bif decide (yD<th) then
  let Eb:List (eA.D):=List.set Ic (Int.toNat yD) (k_17,Prod.snd (List.getD Ic (Int.toNat yD) (0,0,0,0,())))
  bif iy [decide (0≤yD),decide (yD<th)] then
   let yI:=IntKind.wrap .i64 (k_17+1)
   let Cg:List (eA.D):=List.set Eb (Int.toNat yD) (Prod.fst (List.getD Eb (Int.toNat yD) (0,0,0,0,())),yI,Prod.snd (Prod.snd (List.getD Eb (Int.toNat yD) (0,0,0,0,()))))
   bif iy [decide (0≤yD),decide (yD<(↑(List.length Eb):Int))] then
    let vN:=IntKind.wrap .i64 (yI+1)
    let AI:List (eA.D):=List.set Cg (Int.toNat yD) (Prod.fst (List.getD Cg (Int.toNat yD) (0,0,0,0,())),Prod.fst (Prod.snd (List.getD Cg (Int.toNat yD) (0,0,0,0,()))),vN,Prod.snd (Prod.snd (Prod.snd (List.getD Cg (Int.toNat yD) (0,0,0,0,())))))
    bif iy [decide (0≤yD),decide (yD<(↑(List.length Cg):Int))] then
     let wX:=IntKind.wrap .i64 (vN+1)
     let xd:List (eA.D):=List.set AI (Int.toNat yD) (Prod.fst (List.getD AI (Int.toNat yD) (0,0,0,0,())),Prod.fst (Prod.snd (List.getD AI (Int.toNat yD) (0,0,0,0,()))),Prod.fst (Prod.snd (Prod.snd (List.getD AI (Int.toNat yD) (0,0,0,0,())))),wX,Prod.snd (Prod.snd (Prod.snd (Prod.snd (List.getD AI (Int.toNat yD) (0,0,0,0,()))))))
     bif iy [decide (0≤yD),decide (yD<(↑(List.length AI):Int))] then
      some (.inl (((IntKind.wrap .i64 (yD+1)),(),(IntKind.wrap .i64 (wX+1))),xd))
     else none
    else none
   else none
  else none
 else
  some (.inr (k_17,Ic))
def Wh.Ye:(((Int))×((List (eA.D)))):=default
def Wh.q29 (xs:(List (eA.D))×(Int)):Option (((Int))×((List (eA.D))×Unit)):=
 let cx:=xs.1
 let k_1:=xs.2
 let KM:Wh.QK:=((0,(),k_1),cx)
 bif lF Wh.FF KM then
  let HI:=kG Wh.FF Wh.Ye KM
  let k_32:=HI.1
  let xT:=HI.2
  some (k_32,xT,())
 else none
def Wh.q29':=en Wh.q29
theorem Wh.q29_v:OV Wh.q29 Wh.q29':=eB _
abbrev Wh.QT:Type:=((Int)×(Unit)×(Int))×((List (cr.D)))
abbrev Wh.adm:Type:=((((Int))×((List (cr.D)))))
def Wh.FJ (x:Wh.QT):Option (Wh.QT⊕Wh.adm):=
 let nI:=x.1.1
 let CA:=x.1.2.2
 let Cf:=x.2
 let Ak:Int:=(↑(List.length Cf):Int)
 bif decide (nI<Ak) then
  let AI:List (cr.D):=List.set Cf (Int.toNat nI) (CA,Prod.snd (List.getD Cf (Int.toNat nI) (0,0,0,0,0,0,())))
  bif iy [decide (0≤nI),decide (nI<Ak)] then
   let wX:=IntKind.wrap .i64 (CA+1)
   let xd:List (cr.D):=List.set AI (Int.toNat nI) (Prod.fst (List.getD AI (Int.toNat nI) (0,0,0,0,0,0,())),wX,Prod.snd (Prod.snd (List.getD AI (Int.toNat nI) (0,0,0,0,0,0,()))))
   bif iy [decide (0≤nI),decide (nI<(↑(List.length AI):Int))] then
    let nG:=IntKind.wrap .i64 (wX+1)
    let yx:List (cr.D):=List.set xd (Int.toNat nI) (Prod.fst (List.getD xd (Int.toNat nI) (0,0,0,0,0,0,())),Prod.fst (Prod.snd (List.getD xd (Int.toNat nI) (0,0,0,0,0,0,()))),nG,Prod.snd (Prod.snd (Prod.snd (List.getD xd (Int.toNat nI) (0,0,0,0,0,0,())))))
    bif iy [decide (0≤nI),decide (nI<(↑(List.length xd):Int))] then
     let yy:=IntKind.wrap .i64 (nG+1)
     let tn:List (cr.D):=List.set yx (Int.toNat nI) (Prod.fst (List.getD yx (Int.toNat nI) (0,0,0,0,0,0,())),Prod.fst (Prod.snd (List.getD yx (Int.toNat nI) (0,0,0,0,0,0,()))),Prod.fst (Prod.snd (Prod.snd (List.getD yx (Int.toNat nI) (0,0,0,0,0,0,())))),yy,Prod.snd (Prod.snd (Prod.snd (Prod.snd (List.getD yx (Int.toNat nI) (0,0,0,0,0,0,()))))))
     bif iy [decide (0≤nI),decide (nI<(↑(List.length yx):Int))] then
      let z_:=IntKind.wrap .i64 (yy+1)
      let xT:List (cr.D):=List.set tn (Int.toNat nI) (Prod.fst (List.getD tn (Int.toNat nI) (0,0,0,0,0,0,())),Prod.fst (Prod.snd (List.getD tn (Int.toNat nI) (0,0,0,0,0,0,()))),Prod.fst (Prod.snd (Prod.snd (List.getD tn (Int.toNat nI) (0,0,0,0,0,0,())))),Prod.fst (Prod.snd (Prod.snd (Prod.snd (List.getD tn (Int.toNat nI) (0,0,0,0,0,0,()))))),z_,Prod.snd (Prod.snd (Prod.snd (Prod.snd (Prod.snd (List.getD tn (Int.toNat nI) (0,0,0,0,0,0,())))))))
      bif iy [decide (0≤nI),decide (nI<(↑(List.length tn):Int))] then
       let y6:=IntKind.wrap .i64 (z_+1)
       let BN:List (cr.D):=List.set xT (Int.toNat nI) (Prod.fst (List.getD xT (Int.toNat nI) (0,0,0,0,0,0,())),Prod.fst (Prod.snd (List.getD xT (Int.toNat nI) (0,0,0,0,0,0,()))),Prod.fst (Prod.snd (Prod.snd (List.getD xT (Int.toNat nI) (0,0,0,0,0,0,())))),Prod.fst (Prod.snd (Prod.snd (Prod.snd (List.getD xT (Int.toNat nI) (0,0,0,0,0,0,()))))),Prod.fst (Prod.snd (Prod.snd (Prod.snd (Prod.snd (List.getD xT (Int.toNat nI) (0,0,0,0,0,0,())))))),y6,Prod.snd (Prod.snd (Prod.snd (Prod.snd (Prod.snd (Prod.snd (List.getD xT (Int.toNat nI) (0,0,0,0,0,0,()))))))))
       bif iy [decide (0≤nI),decide (nI<(↑(List.length xT):Int))] then
        some (.inl (((IntKind.wrap .i64 (nI+1)),(),(IntKind.wrap .i64 (y6+1))),BN))
       else none
      else none
     else none
    else none
   else none
  else none
 else
  some (.inr (CA,Cf))
def Wh.Yj:(((Int))×((List (cr.D)))):=default
def Wh.q38 (xs:(List (cr.D))×(Int)):Option (((Int))×((List (cr.D))×Unit)):=
 let cx:=xs.1
 let k_1:=xs.2
 let KO:Wh.QT:=((0,(),k_1),cx)
 bif lF Wh.FJ KO then
  let KW:=kG Wh.FJ Wh.Yj KO
  let JD:=KW.1
  let Aq:=KW.2
  some (JD,Aq,())
 else none
def Wh.q38':=en Wh.q38
theorem Wh.q38_v:OV Wh.q38 Wh.q38':=eB _
def Wh.q39 (xs:(fk.D)×(Int)):Option (((Int))×((fk.D)×Unit)):=
 let cx:=xs.1
 let k_1:=xs.2
 let r_2:=Wh.OQ ((cx.2.2.2).1,k_1)
 bif iy [nQ (Wh.Il ((cx.2.2.2).1,k_1))] then
  let r_3:=Wh.q77' (cx.2.2.2.2.1,r_2.1)
  bif iy [nQ (Wh.q77 (cx.2.2.2.2.1,r_2.1))] then
   let gd:=Wh.q29' ((cx.2.2.2.2.2).1,r_3.1)
   bif iy [nQ (Wh.q29 ((cx.2.2.2.2.2).1,r_3.1))] then
    let xP:=Wh.q38' ((cx.2.2.2.2.2).2.1,gd.1)
    bif iy [nQ (Wh.q38 ((cx.2.2.2.2.2).2.1,gd.1))] then
     some (xP.1,(cx.1,cx.2.1,cx.2.2.1,((cx.2.2.2).1.1,(r_2.2.1.2).1,(cx.2.2.2).1.2.2),(r_3.2.1.1,(cx.2.2.2.2.1).2),gd.2.1,xP.2.1,(cx.2.2.2.2.2).2.2),())
    else none
   else none
  else none
 else none
def Wh.Ms:=en Wh.q39
theorem Wh.QU:OV Wh.q39 Wh.Ms:=eB _
abbrev Wh.Q5:Type:=((Int)×(List (an.D))×(Int))×(Unit)
abbrev Wh.adr:Type:=((((Int))×(Unit))⊕(((Int))×(Unit)))
def Wh.FL (x:Wh.Q5):Option (Wh.Q5⊕Wh.adr):=
 let Cz:=x.1.1
 let a_20:=x.1.2.1
 let CA:=x.1.2.2
 let yI:Int:=(↑(List.length a_20):Int)
 bif decide (Cz<yI) then
  let vN:an.D:=List.getD a_20 (Int.toNat Cz) (0,[],0,[],())
  bif iy [decide (0≤Cz),decide (Cz<yI)] then
   bif(vN.1 != CA) then
    some (.inr (.inl (-1,())))
   else
    let wX:=IntKind.wrap .i64 (CA+1)
    let DK:=Wh.CU wX
    bif iy [nQ (Wh.A8 wX),decide (0≤Cz),decide (Cz<yI)] then
     bif(!vN.2.1==DK.1) then
      some (.inr (.inl (-1,())))
     else
      let zf:=IntKind.wrap .i64 (wX+1)
      bif iy [decide (0≤Cz),decide (Cz<yI)] then
       bif(vN.2.2.1 != zf) then
        some (.inr (.inl (-1,())))
       else
        let KF:=IntKind.wrap .i64 (zf+1)
        let xS:=Wh.CU KF
        bif iy [nQ (Wh.A8 KF),decide (0≤Cz),decide (Cz<yI)] then
         bif(!(vN.2.2.2).1==xS.1) then
          some (.inr (.inl (-1,())))
         else
          some (.inl (((IntKind.wrap .i64 (Cz+1)),a_20,(IntKind.wrap .i64 (KF+1))),()))
        else none
      else none
    else none
  else none
 else
  some (.inr (.inr (CA,())))
def Wh.Yq:(((Int))×(Unit))⊕(((Int))×(Unit)):=.inl default
def Wh.q52 (xs:(List (an.D))×(Int)):Option (((Int))×(Unit)):=
 let cx:=xs.1
 let k_1:=xs.2
 let x_36:Wh.Q5:=((0,cx,k_1),())
 bif lF Wh.FL x_36 then
  sumC (kG Wh.FL Wh.Yq x_36) (fun y_37=>
   let HD:=y_37.1
   some (HD,())) (fun z_38=>
   let JD:=z_38.1
   some (JD,()))
 else none
def Wh.q52':=en Wh.q52
theorem Wh.q52_v:OV Wh.q52 Wh.q52':=eB _
def Wh.Ik (xs:(fN.D)×(Int)):Option (((Int))×(Unit)):=
 let cx:=xs.1
 let k_1:=xs.2
 let r_2:=Wh.q52' (cx.2.1,k_1)
 bif iy [nQ (Wh.q52 (cx.2.1,k_1))] then
  bif decide (r_2.1<0) then
   some (-1,())
  else
   some (r_2.1,())
 else none
def Wh.OP:=en Wh.Ik
theorem Wh.W0:OV Wh.Ik Wh.OP:=eB _
abbrev Wh.QN:Type:=((Int)×(List (e_.D))×(Int))×(Unit)
abbrev Wh.adj:Type:=((((Int))×(Unit))⊕(((Int))×(Unit)))
def Wh.FG (x:Wh.QN):Option (Wh.QN⊕Wh.adj):=
 let x8:=x.1.1
 let Gi:=x.1.2.1
 let GD:=x.1.2.2
 let vN:Int:=(↑(List.length Gi):Int)
 bif decide (x8<vN) then
  let wX:e_.D:=List.getD Gi (Int.toNat x8) (0,0,0,0,false,())
  bif iy [decide (0≤x8),decide (x8<vN)] then
   bif(wX.1 != GD) then
    some (.inr (.inl (-1,())))
   else
    let nG:=IntKind.wrap .i64 (GD+1)
    bif iy [decide (0≤x8),decide (x8<vN)] then
     bif(wX.2.1 != nG) then
      some (.inr (.inl (-1,())))
     else
      let yy:=IntKind.wrap .i64 (nG+1)
      bif iy [decide (0≤x8),decide (x8<vN)] then
       bif(wX.2.2.1 != yy) then
        some (.inr (.inl (-1,())))
       else
        let z_:=IntKind.wrap .i64 (yy+1)
        let zg:Bool:=(wX.2.2.2).1 != z_
        bif iy [decide (0≤x8),decide (x8<vN)] then
         bif zg then
          some (.inr (.inl (-1,())))
         else
          let y6:=IntKind.wrap .i64 (z_+1)
          bif iy [true,decide (0≤x8),decide (x8<vN)] then
           bif(!wX.2.2.2.2.1==((Int.tmod y6 3)==0)) then
            some (.inr (.inl (-1,())))
           else
            some (.inl (((IntKind.wrap .i64 (x8+1)),Gi,(IntKind.wrap .i64 (y6+1))),()))
          else none
        else none
      else none
    else none
  else none
 else
  some (.inr (.inr (GD,())))
def Wh.Yg:(((Int))×(Unit))⊕(((Int))×(Unit)):=.inl default
def Wh.q34 (xs:(List (e_.D))×(Int)):Option (((Int))×(Unit)):=
 let cx:=xs.1
 let k_1:=xs.2
 let F_:Wh.QN:=((0,cx,k_1),())
 bif lF Wh.FG F_ then
  sumC (kG Wh.FG Wh.Yg F_) (fun Jh=>
   let DP:=Jh.1
   some (DP,())) (fun z_42=>
   let k_44:=z_42.1
   some (k_44,()))
 else none
def Wh.q34':=en Wh.q34
theorem Wh.q34_v:OV Wh.q34 Wh.q34':=eB _
def Wh.q76 (xs:(lg.D)×(Int)):Option (((Int))×(Unit)):=
 let cx:=xs.1
 let k_1:=xs.2
 let r_2:=Wh.q34' (cx.1,k_1)
 bif iy [nQ (Wh.q34 (cx.1,k_1))] then
  bif decide (r_2.1<0) then
   some (-1,())
  else
   some (r_2.1,())
 else none
def Wh.q76':=en Wh.q76
theorem Wh.q76_v:OV Wh.q76 Wh.q76':=eB _
abbrev Wh.QJ:Type:=((Int)×(List (eA.D))×(Int))×(Unit)
abbrev Wh.adh:Type:=((((Int))×(Unit))⊕(((Int))×(Unit)))
def Wh.FE (x:Wh.QJ):Option (Wh.QJ⊕Wh.adh):=
 let Ad:=x.1.1
 let Gh:=x.1.2.1
 let GC:=x.1.2.2
 let ov:Int:=(↑(List.length Gh):Int)
 bif decide (Ad<ov) then
  let yI:eA.D:=List.getD Gh (Int.toNat Ad) (0,0,0,0,())
  bif iy [decide (0≤Ad),decide (Ad<ov)] then
   bif(yI.1 != GC) then
    some (.inr (.inl (-1,())))
   else
    let vN:=IntKind.wrap .i64 (GC+1)
    bif iy [decide (0≤Ad),decide (Ad<ov)] then
     bif(yI.2.1 != vN) then
      some (.inr (.inl (-1,())))
     else
      let wX:=IntKind.wrap .i64 (vN+1)
      bif iy [decide (0≤Ad),decide (Ad<ov)] then
       bif(yI.2.2.1 != wX) then
        some (.inr (.inl (-1,())))
       else
        let nG:=IntKind.wrap .i64 (wX+1)
        let zf:Bool:=(yI.2.2.2).1 != nG
        bif iy [decide (0≤Ad),decide (Ad<ov)] then
         bif zf then
          some (.inr (.inl (-1,())))
         else
          some (.inl (((IntKind.wrap .i64 (Ad+1)),Gh,(IntKind.wrap .i64 (nG+1))),()))
        else none
      else none
    else none
  else none
 else
  some (.inr (.inr (GC,())))
def Wh.Yd:(((Int))×(Unit))⊕(((Int))×(Unit)):=.inl default
def Wh.q28 (xs:(List (eA.D))×(Int)):Option (((Int))×(Unit)):=
 let cx:=xs.1
 let k_1:=xs.2
 let x_32:Wh.QJ:=((0,cx,k_1),())
 bif lF Wh.FE x_32 then
  sumC (kG Wh.FE Wh.Yd x_32) (fun y_33=>
   let yO:=y_33.1
   some (yO,())) (fun z_34=>
   let k_36:=z_34.1
   some (k_36,()))
 else none
def Wh.q28':=en Wh.q28
theorem Wh.q28_v:OV Wh.q28 Wh.q28':=eB _
abbrev Wh.QO:Type:=((Int)×(List (cr.D))×(Int))×(Unit)
abbrev Wh.adk:Type:=((((Int))×(Unit))⊕(((Int))×(Unit)))
def Wh.FH (x:Wh.QO):Option (Wh.QO⊕Wh.adk):=
 let x8:=x.1.1
 let Gi:=x.1.2.1
 let GD:=x.1.2.2
 let vN:Int:=(↑(List.length Gi):Int)
 bif decide (x8<vN) then
  let wX:cr.D:=List.getD Gi (Int.toNat x8) (0,0,0,0,0,0,())
  bif iy [decide (0≤x8),decide (x8<vN)] then
   bif(wX.1 != GD) then
    some (.inr (.inl (-1,())))
   else
    let nG:=IntKind.wrap .i64 (GD+1)
    bif iy [decide (0≤x8),decide (x8<vN)] then
     bif(wX.2.1 != nG) then
      some (.inr (.inl (-1,())))
     else
      let yy:=IntKind.wrap .i64 (nG+1)
      bif iy [decide (0≤x8),decide (x8<vN)] then
       bif(wX.2.2.1 != yy) then
        some (.inr (.inl (-1,())))
       else
        let z_:=IntKind.wrap .i64 (yy+1)
        let zg:Bool:=(wX.2.2.2).1 != z_
        bif iy [decide (0≤x8),decide (x8<vN)] then
         bif zg then
          some (.inr (.inl (-1,())))
         else
          let y6:=IntKind.wrap .i64 (z_+1)
          bif iy [decide (0≤x8),decide (x8<vN)] then
           bif(wX.2.2.2.2.1 != y6) then
            some (.inr (.inl (-1,())))
           else
            let xW:=IntKind.wrap .i64 (y6+1)
            let F5:Bool:=(wX.2.2.2.2.2).1 != xW
            bif iy [decide (0≤x8),decide (x8<vN)] then
             bif F5 then
              some (.inr (.inl (-1,())))
             else
              some (.inl (((IntKind.wrap .i64 (x8+1)),Gi,(IntKind.wrap .i64 (xW+1))),()))
            else none
          else none
        else none
      else none
    else none
  else none
 else
  some (.inr (.inr (GD,())))
def Wh.Yh:(((Int))×(Unit))⊕(((Int))×(Unit)):=.inl default
def Wh.q35 (xs:(List (cr.D))×(Int)):Option (((Int))×(Unit)):=
 let cx:=xs.1
 let k_1:=xs.2
 let F_:Wh.QO:=((0,cx,k_1),())
 bif lF Wh.FH F_ then
  sumC (kG Wh.FH Wh.Yh F_) (fun Jh=>
   let DP:=Jh.1
   some (DP,())) (fun z_42=>
   let k_44:=z_42.1
   some (k_44,()))
 else none
def Wh.q35':=en Wh.q35
theorem Wh.q35_v:OV Wh.q35 Wh.q35':=eB _
def Wh.q36 (xs:(fk.D)×(Int)):Option (((Int))×(Unit)):=
 let cx:=xs.1
 let k_1:=xs.2
 let r_2:=Wh.OP ((cx.2.2.2).1,k_1)
 bif iy [nQ (Wh.Ik ((cx.2.2.2).1,k_1))] then
  bif decide (r_2.1<0) then
   some (-1,())
  else
   let gd:=Wh.q76' (cx.2.2.2.2.1,r_2.1)
   bif iy [nQ (Wh.q76 (cx.2.2.2.2.1,r_2.1))] then
    bif decide (gd.1<0) then
     some (-1,())
    else
     let xe:=Wh.q28' ((cx.2.2.2.2.2).1,gd.1)
     bif iy [nQ (Wh.q28 ((cx.2.2.2.2.2).1,gd.1))] then
      bif decide (xe.1<0) then
       some (-1,())
      else
       let r5:=Wh.q35' ((cx.2.2.2.2.2).2.1,xe.1)
       bif iy [nQ (Wh.q35 ((cx.2.2.2.2.2).2.1,xe.1))] then
        bif decide (r5.1<0) then
         some (-1,())
        else
         some (r5.1,())
       else none
     else none
   else none
 else none
def Wh.q36':=en Wh.q36
theorem Wh.q36_v:OV Wh.q36 Wh.q36':=eB _
def Wh.Fo (xs:(fN.D)×(Int)×(List UInt8)):Option (((an.D)×(Bool))×(Unit)):=
 let gz:=xs.1
 let xU:=xs.2.1
 let yG:=xs.2.2
 let r_3:=Wh.Ke (gz,xU,yG)
 bif iy [nQ (Wh.CN (gz,xU,yG))] then
  let gd:=Wh.Kb gz
  let x6:=bif !gd.1 then true else decide (r_3.1<0)
  bif iy [nQ (Wh.Fx gz)] then
   bif x6 then
    some (((0,[],0,[],()),false),())
   else
    let pb_6:an.D:=List.getD gz.2.1 (Int.toNat r_3.1) (0,[],0,[],())
    bif iy [decide (0≤r_3.1),decide (r_3.1<(↑(List.length gz.2.1):Int))] then
     some ((pb_6,true),())
    else none
  else none
 else none
def Wh.PG:=en Wh.Fo
theorem Wh.Dw:OV Wh.Fo Wh.PG:=eB _
abbrev Wh.PL:Type:=((Int)×(Unit))×((s_.D))
abbrev Wh.acR:Type:=((((Bool))×(Unit))⊕(((Unit))×((s_.D))))
def Wh.Ck (x:Wh.PL):Option (Wh.PL⊕Wh.acR):=
 let yW:=x.1.1
 let ym:=x.2
 let xW:Int:=(↑(List.length (ym.2.2.1)):Int)
 bif decide (yW<xW) then
  let zN:=List.getD (ym.2.2.1) (Int.toNat yW) 0
  let AL:=Wh.zJ ym
  let Hu:=Wh.s4 (zN,1,AL.1)
  let r_48:=Wh.s4 (List.getD ((ym.2.2.2).1) (Int.toNat yW) 0,1,99)
  let v_49:=bif bif !Hu.1 then true else bif decide (yW>0) then decide (List.getD (ym.2.2.1) (Int.toNat (IntKind.wrap .i64 (yW-1))) 0≥zN) else false then true else !r_48.1
  bif iy [(!!bif !Prod.fst (Wh.s4 (zN,1,AL.1)) then true else bif decide (yW>0) then decide (List.getD (ym.2.2.1) (Int.toNat (IntKind.wrap .i64 (yW-1))) 0≥zN) else false) || nQ (Wh.xV (List.getD ((ym.2.2.2).1) (Int.toNat yW) 0,1,99)),(!!bif !Prod.fst (Wh.s4 (zN,1,AL.1)) then true else bif decide (yW>0) then decide (List.getD (ym.2.2.1) (Int.toNat (IntKind.wrap .i64 (yW-1))) 0≥zN) else false) || decide (0≤yW),(!!bif !Prod.fst (Wh.s4 (zN,1,AL.1)) then true else bif decide (yW>0) then decide (List.getD (ym.2.2.1) (Int.toNat (IntKind.wrap .i64 (yW-1))) 0≥zN) else false) || decide (yW<(↑(List.length ((ym.2.2.2).1)):Int)),!(decide (yW>0) && !!Prod.fst (Wh.s4 (zN,1,AL.1))) || decide (0≤yW),!(decide (yW>0) && !!Prod.fst (Wh.s4 (zN,1,AL.1))) || decide (yW<xW),!(decide (yW>0) && !!Prod.fst (Wh.s4 (zN,1,AL.1))) || decide (0≤IntKind.wrap .i64 (yW-1)),!(decide (yW>0) && !!Prod.fst (Wh.s4 (zN,1,AL.1))) || decide (IntKind.wrap .i64 (yW-1)<xW),nQ (Wh.xV (zN,1,AL.1)),nQ (Wh.Bp ym),decide (0≤yW),decide (yW<xW)] then
   bif v_49 then
    some (.inr (.inl (false,())))
   else
    some (.inl (((IntKind.wrap .i64 (yW+1)),()),ym))
  else none
 else
  some (.inr (.inr ((),ym)))
def Wh.XB:(((Bool))×(Unit))⊕(((Unit))×((s_.D))):=.inl default
def Wh.BR (xs:(s_.D)):Option (((Bool))×(Unit)):=
 let mb:s_.D:=xs
 let r_1:=Wh.s4 (mb.1,1,300)
 let r_2:=Wh.s4 (mb.2.1,1,16)
 let xP:=Wh.zJ mb
 let yH:=Wh.s4 ((↑(List.length (mb.2.2.1)):Int),1,3)
 let Ko:=Wh.s4 (xP.1,1,24)
 let xb:=bif bif bif bif !r_1.1 then true else !r_2.1 then true else !Ko.1 then true else !yH.1 then true else(↑(List.length ((mb.2.2.2).1)):Int) != (↑(List.length (mb.2.2.1)):Int)
 bif iy [(!!bif bif !r_1.1 then true else !r_2.1 then true else !Prod.fst (Wh.s4 (xP.1,1,24))) || nQ (Wh.xV ((↑(List.length (mb.2.2.1)):Int),1,3)),(!!bif !r_1.1 then true else !r_2.1) || nQ (Wh.xV (xP.1,1,24)),(!!bif !r_1.1 then true else !r_2.1) || nQ (Wh.Bp mb),!!!r_1.1 || nQ (Wh.xV (mb.2.1,1,16)),nQ (Wh.xV (mb.1,1,300))] then
  bif xb then
   some (false,())
  else
   let x_51:Wh.PL:=((0,()),mb)
   bif lF Wh.Ck x_51 then
    sumC (kG Wh.Ck Wh.XB x_51) (fun y_52=>
     let yg:=y_52.1
     some (yg,())) (fun z_53=>
     let D6:=z_53.2
     let F9:Int:=(↑(List.length (D6.2.2.1)):Int)
     let r_60:=Wh.zJ D6
     let v_62:=List.getD (D6.2.2.1) (Int.toNat (IntKind.wrap .i64 (F9-1))) 0==r_60.1
     bif iy [nQ (Wh.Bp D6),decide (0≤IntKind.wrap .i64 (F9-1)),decide (IntKind.wrap .i64 (F9-1)<F9)] then
      some (v_62,())
     else none)
   else none
 else none
def Wh.PK:=en Wh.BR
theorem Wh.XC:OV Wh.BR Wh.PK:=eB _
abbrev Wh.Pp:Type:=((Int)×(Unit)×(List (Int))×(Int))×((s_.D))
abbrev Wh.acN:Type:=((((Bool))×(Unit))⊕((Unit)×(Unit)))
def Wh.Cj (x:Wh.Pp):Option (Wh.Pp⊕Wh.acN):=
 let yO:=x.1.1
 let xW:=(x.1.2.2).1
 let F5:=x.1.2.2.2
 let yd:=x.2
 bif decide (yO<F5) then
  let zC:=List.getD xW (Int.toNat yO) 0
  bif iy [decide (0≤yO),decide (yO<(↑(List.length xW):Int))] then
   let z7:=Wh.zL yd
   let Kx:=Wh.wh (zC,1,z7.1)
   let r_50:=Wh.wh (List.getD ((yd.2.2.2).1) (Int.toNat yO) 0,1,99)
   let AO:=bif bif !Kx.1 then true else bif decide (yO>0) then decide (List.getD (yd.2.2.1) (Int.toNat (IntKind.wrap .i64 (yO-1))) 0≥zC) else false then true else !r_50.1
   bif iy [(!!bif !Prod.fst (Wh.wh (zC,1,z7.1)) then true else bif decide (yO>0) then decide (List.getD (yd.2.2.1) (Int.toNat (IntKind.wrap .i64 (yO-1))) 0≥zC) else false) || nQ (Wh.ye (List.getD ((yd.2.2.2).1) (Int.toNat yO) 0,1,99)),(!!bif !Prod.fst (Wh.wh (zC,1,z7.1)) then true else bif decide (yO>0) then decide (List.getD (yd.2.2.1) (Int.toNat (IntKind.wrap .i64 (yO-1))) 0≥zC) else false) || decide (0≤yO),(!!bif !Prod.fst (Wh.wh (zC,1,z7.1)) then true else bif decide (yO>0) then decide (List.getD (yd.2.2.1) (Int.toNat (IntKind.wrap .i64 (yO-1))) 0≥zC) else false) || decide (yO<(↑(List.length ((yd.2.2.2).1)):Int)),!(decide (yO>0) && !!Prod.fst (Wh.wh (zC,1,z7.1))) || decide (0≤IntKind.wrap .i64 (yO-1)),!(decide (yO>0) && !!Prod.fst (Wh.wh (zC,1,z7.1))) || decide (IntKind.wrap .i64 (yO-1)<(↑(List.length (yd.2.2.1)):Int)),nQ (Wh.ye (zC,1,z7.1)),nQ (Wh.BU yd)] then
    bif AO then
     some (.inr (.inl (false,())))
    else
     some (.inl (((IntKind.wrap .i64 (yO+1)),(),xW,F5),yd))
   else none
  else none
 else
  some (.inr (.inr ((),())))
def Wh.Xo:(((Bool))×(Unit))⊕((Unit)×(Unit)):=.inl default
def Wh.Bq (xs:(s_.D)):Option (((Bool))×(Unit)):=
 let mb:s_.D:=xs
 let r_1:=Wh.wh (mb.1,1,300)
 let r_2:=Wh.wh (mb.2.1,1,16)
 let xP:=Wh.zL mb
 let zp:=bif bif !r_1.1 then true else !r_2.1 then true else decide (xP.1>24)
 bif iy [(!!bif !r_1.1 then true else !r_2.1) || nQ (Wh.BU mb),!!!r_1.1 || nQ (Wh.ye (mb.2.1,1,16)),nQ (Wh.ye (mb.1,1,300))] then
  bif zp then
   some (false,())
  else
   let yz:Int:=(↑(List.length (mb.2.2.1)):Int)
   let Ko:=Wh.wh (yz,1,3)
   let xb:=bif bif !Ko.1 then true else(↑(List.length ((mb.2.2.2).1)):Int) != yz then true else List.getD (mb.2.2.1) (Int.toNat (IntKind.wrap .i64 (yz-1))) 0 != xP.1
   bif iy [(!!bif !Prod.fst (Wh.wh (yz,1,3)) then true else(↑(List.length ((mb.2.2.2).1)):Int) != yz) || nQ (Wh.BU mb),(!!bif !Prod.fst (Wh.wh (yz,1,3)) then true else(↑(List.length ((mb.2.2.2).1)):Int) != yz) || decide (0≤IntKind.wrap .i64 (yz-1)),(!!bif !Prod.fst (Wh.wh (yz,1,3)) then true else(↑(List.length ((mb.2.2.2).1)):Int) != yz) || decide (IntKind.wrap .i64 (yz-1)<yz),nQ (Wh.ye (yz,1,3))] then
    bif xb then
     some (false,())
    else
     let KP:Wh.Pp:=((0,(),mb.2.2.1,yz),mb)
     bif lF Wh.Cj KP then
      sumC (kG Wh.Cj Wh.Xo KP) (fun y_54=>
       let F9:=y_54.1
       some (F9,())) (fun _=>
       some (true,()))
     else none
   else none
 else none
def Wh.Pn:=en Wh.Bq
theorem Wh.Xp:OV Wh.Bq Wh.Pn:=eB _
def Wh.ID (xs:(fT.D)×(Int)):Option (((Int))×(Unit)):=
 let cx:=xs.1
 let left_1:=xs.2
 let v_2:Int:=(↑(List.length ((cx.2.2.2.2.2).1)):Int)
 let zw:=IntKind.wrap .i64 (left_1-v_2)
 bif decide (zw<0) then
  some (-1,())
 else
  let zp:Int:=(↑(List.length ((cx.2.2.2.2.2).2.1)):Int)
  let JE:=IntKind.wrap .i64 (zw-zp)
  bif decide (JE<0) then
   some (-1,())
  else
   some (JE,())
def Wh.PC:=en Wh.ID
theorem Wh.Xv:OV Wh.ID Wh.PC:=eB _
def Wh.G1 (xs:(fT.D)):Option (((fT.D))×(Unit)):=
 let cx:=xs
 some ((cx.1,cx.2.1,cx.2.2.1,(cx.2.2.2).1,cx.2.2.2.2.1,(cx.2.2.2.2.2).1,(cx.2.2.2.2.2).2.1,()),())
def Wh.PF:=en Wh.G1
theorem Wh.Xy:OV Wh.G1 Wh.PF:=eB _
def Wh.IF (xs:(fT.D)):Option (((Bool))×(Unit)):=
 let w_0:=xs
 let r_1:=Wh.s4 (w_0.2.1,0,99999)
 let r_2:=Wh.s4 (w_0.2.2.1,1,99999)
 let xP:=Wh.s4 ((w_0.2.2.2).1,0,99999)
 let r5:=Wh.s4 (w_0.2.2.2.2.1,0,99999)
 let yu:=bif bif bif bif !r_1.1 then true else !r_2.1 then true else !xP.1 then true else !r5.1 then true else decide ((↑(List.length ((w_0.2.2.2.2.2).2.1)):Int)>80)
 bif iy [(!!bif bif !r_1.1 then true else !r_2.1 then true else !xP.1) || nQ (Wh.xV (w_0.2.2.2.2.1,0,99999)),(!!bif !r_1.1 then true else !r_2.1) || nQ (Wh.xV ((w_0.2.2.2).1,0,99999)),!!!r_1.1 || nQ (Wh.xV (w_0.2.2.1,1,99999)),nQ (Wh.xV (w_0.2.1,0,99999))] then
  bif yu then
   some (false,())
  else
   let xN:=w_0.1==1
   let DJ:=Wh.L9 ((w_0.2.2.2.2.2).1)
   let xb:=bif bif xN then !DJ.1 else false then true else bif !xN then !(w_0.2.2.2.2.2).1 == [] else false
   bif iy [!xN || nQ (Wh.G2 ((w_0.2.2.2.2.2).1))] then
    bif xb then
     some (false,())
    else
     bif xN then
      bif xN then
       let th:=bif(w_0.2.2.2.2.1==0) then(w_0.2.2.2.2.2).2.1 == [] else false
       some (th,())
      else
       bif(w_0.1==2) then
        let Bz:=bif bif decide ((w_0.2.2.2).1>0) then w_0.2.2.2.2.1==0 else false then !(w_0.2.2.2.2.2).2.1 == [] else false
        some (Bz,())
       else
        bif(w_0.1==3) then
         let zf:=bif decide ((w_0.2.2.2).1>0) then !(w_0.2.2.2.2.2).2.1 == [] else false
         some (zf,())
        else
         let yy:=w_0.1==4
         bif yy then
          bif yy then
           let zg:=bif decide ((w_0.2.2.2).1>0) then(w_0.2.2.2.2.2).2.1 == [] else false
           some (zg,())
          else
           some (false,())
         else
          bif(w_0.1==5) then
           let F5:=bif decide ((w_0.2.2.2).1>0) then(w_0.2.2.2.2.2).2.1 == [] else false
           some (F5,())
          else
           some (false,())
     else
      bif(w_0.1==6) then
       let C0:=bif(w_0.2.2.2.2.1==0) then(w_0.2.2.2.2.2).2.1 == [] else false
       some (C0,())
      else
       bif(w_0.1==2) then
        let KG:=bif bif decide ((w_0.2.2.2).1>0) then w_0.2.2.2.2.1==0 else false then !(w_0.2.2.2.2.2).2.1 == [] else false
        some (KG,())
       else
        bif(w_0.1==3) then
         let AO:=bif decide ((w_0.2.2.2).1>0) then !(w_0.2.2.2.2.2).2.1 == [] else false
         some (AO,())
        else
         let Jb:=w_0.1==4
         bif Jb then
          bif Jb then
           let v_55:=bif decide ((w_0.2.2.2).1>0) then(w_0.2.2.2.2.2).2.1 == [] else false
           some (v_55,())
          else
           some (false,())
         else
          bif(w_0.1==5) then
           let EU:=bif decide ((w_0.2.2.2).1>0) then(w_0.2.2.2.2.2).2.1 == [] else false
           some (EU,())
          else
           some (false,())
   else none
 else none
def Wh.PU:=en Wh.IF
theorem Wh.L_:OV Wh.IF Wh.PU:=eB _
abbrev Wh.Qt:Type:=((Int)×(Int)×(Unit))×((fk.D))
abbrev Wh.ac7:Type:=((((Int))×(Unit))⊕((Unit)×(Unit)))
def Wh.Ep (x:Wh.Qt):Option (Wh.Qt⊕Wh.ac7):=
 let B_:=x.1.1
 let Up:=x.1.2.1
 let N7:=x.2
 let z8:Int:=(↑(List.length ((N7.2.2.2.2.2).2.1)):Int)
 bif decide (B_<z8) then
  let xR:cr.D:=List.getD ((N7.2.2.2.2.2).2.1) (Int.toNat B_) (0,0,0,0,0,0,())
  bif iy [decide (0≤B_),decide (B_<z8)] then
   bif(xR.1==Up) then
    some (.inr (.inl (B_,())))
   else
    some (.inl (((IntKind.wrap .i64 (B_+1)),Up,()),N7))
  else none
 else
  some (.inr (.inr ((),())))
def Wh.X1:(((Int))×(Unit))⊕((Unit)×(Unit)):=.inl default
def Wh.G8 (xs:(fk.D)×(Int)):Option (((Int))×(Unit)):=
 let ct:=xs.1
 let HM:=xs.2
 let x_18:Wh.Qt:=((0,HM,()),ct)
 bif lF Wh.Ep x_18 then
  sumC (kG Wh.Ep Wh.X1 x_18) (fun y_19=>
   let xO:=y_19.1
   some (xO,())) (fun _=>
   some (-1,()))
 else none
def Wh.Mi:=en Wh.G8
theorem Wh.zX:OV Wh.G8 Wh.Mi:=eB _
abbrev Wh.QX:Type:=((Int)×(Unit)×(Unit)×(Int)×(Unit))×((fk.D)×(List (cr.D))×((Bool)×((Int)×((List UInt8)×(((Int)×((Unit)×(Unit)))×(((Unit)×((Int)×(Unit)))×((Unit)×((Unit)×(Unit))))))))×(List (an.D))×(List (e_.D))×(List (eA.D))×(List (cr.D)))
abbrev Wh.adn:Type:=((((Unit)×(Unit)×(Unit))×(((Bool)×((Int)×((List UInt8)×(((Int)×((Unit)×(Unit)))×(((Unit)×((Int)×(Unit)))×((Unit)×((Unit)×(Unit))))))))×(fk.D)×(List (cr.D))×(List (an.D))×(List (e_.D))×(List (eA.D))×(List (cr.D)))))
def Wh.EB (x:Wh.QX):Option (Wh.QX⊕Wh.adn):=
 let x_:=x.1.1
 let Ny:=x.1.2.2.2.1
 let yM:=x.2.1
 let zE:=x.2.2.1
 let GF:=(x.2.2.2).1.1
 let HZ:=(x.2.2.2).1.2.1
 let yS:=(x.2.2.2).1.2.2.1
 let y4:=(x.2.2.2).1.2.2.2.1.1
 let zj:=(x.2.2.2).1.2.2.2.1.2.2
 let yl:=(x.2.2.2).1.2.2.2.2.1.2
 let ym:=(x.2.2.2).1.2.2.2.2.2.2.2
 let Dl:=x.2.2.2.2.1
 let CF:=(x.2.2.2.2.2).1
 let yd:=(x.2.2.2.2.2).2.1
 let A2:=(x.2.2.2.2.2).2.2
 let zC:Int:=(↑(List.length ((yM.2.2.2.2.2).2.1)):Int)
 bif decide (x_<zC) then
  let F6:cr.D:=List.getD ((yM.2.2.2.2.2).2.1) (Int.toNat x_) (0,0,0,0,0,0,())
  bif iy [decide (0≤x_),decide (x_<zC)] then
   bif(F6.1 != Ny) then
    let E_:List (cr.D):=zE ++ [F6]
    bif iy [decide (List.length zE+(1:Nat)≤dh),decide (0≤x_),decide (x_<zC)] then
     some (.inl (((IntKind.wrap .i64 (x_+1)),(),(),Ny,()),yM,E_,(GF,HZ,yS,(y4,(),zj),((),yl),(),(),ym),Dl,CF,yd,A2))
    else none
   else
    some (.inl (((IntKind.wrap .i64 (x_+1)),(),(),Ny,()),yM,zE,(GF,HZ,yS,(y4,(),zj),((),yl),(),(),ym),Dl,CF,yd,A2))
  else none
 else
  some (.inr (((),(),()),(GF,HZ,yS,(y4,(),zj),((),yl),(),(),ym),yM,zE,Dl,CF,yd,A2))
def Wh.Yl:(((Unit)×(Unit)×(Unit))×(((Bool)×((Int)×((List UInt8)×(((Int)×((Unit)×(Unit)))×(((Unit)×((Int)×(Unit)))×((Unit)×((Unit)×(Unit))))))))×(fk.D)×(List (cr.D))×(List (an.D))×(List (e_.D))×(List (eA.D))×(List (cr.D)))):=default
def Wh.q42 (xs:(fk.D)×(Int)):Option ((((Bool)×((Int)×((List UInt8)×((fN.D)×((lg.D)×((List (eA.D))×((List (cr.D))×(Unit)))))))))×(Unit)):=
 let ct:=xs.1
 let HM:=xs.2
 let BA:Wh.QX:=((0,(),(),HM,()),ct,[],(false,0,[],(0,(),()),((),0,()),(),(),()),[],[],[],[])
 bif lF Wh.EB BA then
  let AP:=kG Wh.EB Wh.Yl BA
  let Bl:=AP.2.2.1
  let D8:=(AP.2.2.2).1
  some ((Bl.1,Bl.2.1,Bl.2.2.1,(Bl.2.2.2).1,Bl.2.2.2.2.1,(Bl.2.2.2.2.2).1,D8,(Bl.2.2.2.2.2).2.2),())
 else none
def Wh.Kf:=en Wh.q42
theorem Wh.Kg:OV Wh.q42 Wh.Kf:=eB _
def Wh.Is (xs:(Int)×(Int)×(Int)):Option (((List (fT.D)))×(Unit)):=
 let Jq:=xs.1
 let try_1:=xs.2.1
 let ZQ:=xs.2.2
 let Ec:List (fT.D):=[(6,Jq,try_1,ZQ,0,[],[],())]
 some (Ec,())
def Wh.L3:=en Wh.Is
theorem Wh.GU:OV Wh.Is Wh.L3:=eB _
abbrev Wh.O8:Type:=((Int)×(Unit)×(Unit)×(Unit))×(((Bool)×((Int)×((List UInt8)×(((Int)×((Unit)×(Unit)))×(((Unit)×((Int)×(Unit)))×((Unit)×((Unit)×(Unit))))))))×((Bool)×((Int)×((List UInt8)×((fN.D)×((lg.D)×((List (eA.D))×((Unit)×(Unit))))))))×(cr.D)×(List (an.D))×(List (e_.D))×(List (eA.D))×(List (cr.D))×(List (cr.D)))
abbrev Wh.acF:Type:=((((Unit)×(Unit)×(Int)×(Unit))×(((Bool)×((Int)×((List UInt8)×(((Int)×((Unit)×(Unit)))×(((Unit)×((Int)×(Unit)))×((Unit)×((Unit)×(Unit))))))))×((Bool)×((Int)×((List UInt8)×((fN.D)×((lg.D)×((List (eA.D))×((Unit)×(Unit))))))))×(cr.D)×(List (an.D))×(List (e_.D))×(List (eA.D))×(List (cr.D))×(List (cr.D)))))
def Wh.Ef (x:Wh.O8):Option (Wh.O8⊕Wh.acF):=
 let E7:=x.1.1
 let HZ:=x.2.1.1
 let yS:=(x.2.1.2).1
 let y4:=x.2.1.2.2.1
 let zj:=(x.2.1.2.2.2).1.1
 let yl:=(x.2.1.2.2.2).1.2.2
 let ym:=(x.2.1.2.2.2).2.1.2
 let Dl:=(x.2.1.2.2.2).2.2.2.2
 let CF:=x.2.2.1.1
 let yd:=(x.2.2.1).2.1
 let A2:=(x.2.2.1).2.2.1
 let LI:=(x.2.2.1).2.2.2.1
 let LJ:=(x.2.2.1).2.2.2.2.1
 let CG:=(x.2.2.1).2.2.2.2.2.1
 let BK:=(x.2.2.1).2.2.2.2.2.2.2
 let CH:=(x.2.2.2).1
 let E_:=x.2.2.2.2.1
 let H6:=(x.2.2.2.2.2).1
 let H7:=(x.2.2.2.2.2).2.1
 let CI:=(x.2.2.2.2.2).2.2.1
 let Af:=(x.2.2.2.2.2).2.2.2
 let M4:Int:=(↑(List.length Af):Int)
 let F8:=bif decide (E7<M4) then decide (Prod.fst (List.getD Af (Int.toNat E7) (0,0,0,0,0,0,()))<CH.1) else false
 bif iy [!decide (E7<M4) || decide (0≤E7),!decide (E7<M4) || decide (E7<M4)] then
  bif F8 then
   some (.inl (((IntKind.wrap .i64 (E7+1)),(),(),()),(HZ,yS,y4,(zj,(),yl),((),ym),(),(),Dl),(CF,yd,A2,LI,LJ,CG,(),BK),CH,E_,H6,H7,CI,Af))
  else
   some (.inr (((),(),E7,()),(HZ,yS,y4,(zj,(),yl),((),ym),(),(),Dl),(CF,yd,A2,LI,LJ,CG,(),BK),CH,E_,H6,H7,CI,Af))
 else none
def Wh.Xf:(((Unit)×(Unit)×(Int)×(Unit))×(((Bool)×((Int)×((List UInt8)×(((Int)×((Unit)×(Unit)))×(((Unit)×((Int)×(Unit)))×((Unit)×((Unit)×(Unit))))))))×((Bool)×((Int)×((List UInt8)×((fN.D)×((lg.D)×((List (eA.D))×((Unit)×(Unit))))))))×(cr.D)×(List (an.D))×(List (e_.D))×(List (eA.D))×(List (cr.D))×(List (cr.D)))):=default
def Wh.Iv (xs:(fk.D)×(cr.D)):Option ((((Bool)×((Int)×((List UInt8)×((fN.D)×((lg.D)×((List (eA.D))×((List (cr.D))×(Unit)))))))))×(Unit)):=
 let ct:=xs.1
 let v_1:=xs.2
 let r_2:=Wh.Kf (ct,v_1.1)
 bif iy [nQ (Wh.q42 (ct,v_1.1))] then
  let C7:Wh.O8:=((0,(),(),()),(false,0,[],(0,(),()),((),0,()),(),(),()),(r_2.1.1,r_2.1.2.1,(r_2.1.2.2).1,r_2.1.2.2.2.1,(r_2.1.2.2.2.2).1,(r_2.1.2.2.2.2).2.1,(),(r_2.1.2.2.2.2).2.2.2),v_1,[],[],[],[],(r_2.1.2.2.2.2).2.2.1)
  bif lF Wh.Ef C7 then
   let AQ:=kG Wh.Ef Wh.Xf C7
   let Df:=(AQ.1.2.2).1
   let ls_65:=AQ.2.2.1.1
   let ls_66:=(AQ.2.2.1).2.1
   let GI:=(AQ.2.2.1).2.2.1
   let JN:=(AQ.2.2.1).2.2.2.1
   let ls_69:=(AQ.2.2.1).2.2.2.2.1
   let ls_70:=(AQ.2.2.1).2.2.2.2.2.1
   let ls_71:=(AQ.2.2.1).2.2.2.2.2.2.2
   let Oc:=(AQ.2.2.2).1
   let Ce:=(AQ.2.2.2.2.2).2.2.2
   let OH:List (cr.D):=[]++List.take (Int.toNat (Df-0)) (List.drop (Int.toNat 0) Ce)
   let pb_79:List (cr.D):=[Oc]
   let pb_81:List (cr.D):=OH++pb_79++List.take (Int.toNat ((↑(List.length Ce):Int)-Df)) (List.drop (Int.toNat Df) Ce)
   let M7:Nat:=Int.toNat (Df-0)
   let HE:Nat:=Int.toNat ((↑(List.length Ce):Int)-Df)
   bif iy [decide (List.length (OH++pb_79)+List.length (List.take HE (List.drop (Int.toNat Df) Ce))≤dh),decide (0≤Df),decide (Df≤(↑(List.length Ce):Int)),decide ((↑(List.length Ce):Int)≤(↑(List.length Ce):Int)),decide (List.length OH+(1:Nat)≤dh),decide ((0:Nat)+List.length (List.take M7 (List.drop (Int.toNat 0) Ce))≤dh),true,decide (0≤Df),decide (Df≤(↑(List.length Ce):Int))] then
    some ((ls_65,ls_66,GI,JN,ls_69,ls_70,pb_81,ls_71),())
   else none
  else none
 else none
def Wh.O7:=en Wh.Iv
theorem Wh.O9:OV Wh.Iv Wh.O7:=eB _
abbrev Wh.PY:Type:=((Int)×(List (Int))×(List UInt8))×(Unit)
abbrev Wh.acW:Type:=((((List UInt8))×(Unit)))
def Wh.Ek (x:Wh.PY):Option (Wh.PY⊕Wh.acW):=
 let x8:=x.1.1
 let JG:=x.1.2.1
 let JQ:=x.1.2.2
 let vN:=decide (x8<(↑(List.length JG):Int))
 bif vN then
  bif decide (x8>0) then
   let wX:List UInt8:=JQ ++ [(44:UInt8)]
   bif iy [decide (List.length JQ+(1:Nat)≤dh)] then
    let AA:=List.getD JG (Int.toNat x8) 0
    let MI:=Wh.Av AA
    let out_32:List UInt8:=wX++MI.1
    bif iy [decide (List.length wX+List.length ((Wh.Av AA).1)≤dh),nQ (Wh.Bw AA),decide (0≤x8),vN] then
     some (.inl (((IntKind.wrap .i64 (x8+1)),JG,out_32),()))
    else none
   else none
  else
   let y6:=List.getD JG (Int.toNat x8) 0
   let gv:=Wh.Av y6
   let out_39:List UInt8:=JQ++gv.1
   bif iy [decide (List.length JQ+List.length ((Wh.Av y6).1)≤dh),nQ (Wh.Bw y6),decide (0≤x8),vN] then
    some (.inl (((IntKind.wrap .i64 (x8+1)),JG,out_39),()))
   else none
 else
  some (.inr (JQ,()))
def Wh.XI:(((List UInt8))×(Unit)):=default
def Wh.CM (xs:(List (Int))):Option (((List UInt8))×(Unit)):=
 let HY:=xs
 let x_41:Wh.PY:=((0,HY,[]),())
 bif lF Wh.Ek x_41 then
  let y_42:=kG Wh.Ek Wh.XI x_41
  let out_43:=y_42.1
  some (out_43,())
 else none
def Wh.Ma:=en Wh.CM
theorem Wh.PZ:OV Wh.CM Wh.Ma:=eB _
def Wh.EE (xs:(s_.D)):Option (((List UInt8))×(Unit)):=
 let mb:s_.D:=xs
 let r_1:=Wh.PK mb
 bif iy [nQ (Wh.BR mb)] then
  bif !r_1.1 then
   some ([],())
  else
   let r_2:=Wh.Av mb.1
   let gd:=Wh.Av mb.2.1
   let x9:=Wh.Ma (mb.2.2.1)
   let zZ:=Wh.Ma ((mb.2.2.2).1)
   let xN:=r_2.1 ++ [(47:UInt8)]++gd.1 ++ [(58:UInt8)]++x9.1 ++ [(58:UInt8)]++zZ.1
   bif iy [decide (List.length (r_2.1 ++ [(47:UInt8)]++gd.1 ++ [(58:UInt8)]++x9.1 ++ [(58:UInt8)])+List.length zZ.1≤dh),nQ (Wh.CM ((mb.2.2.2).1)),decide (List.length (r_2.1 ++ [(47:UInt8)]++gd.1 ++ [(58:UInt8)]++x9.1)+(1:Nat)≤dh),decide (List.length (r_2.1 ++ [(47:UInt8)]++gd.1 ++ [(58:UInt8)])+List.length x9.1≤dh),nQ (Wh.CM (mb.2.2.1)),decide (List.length (r_2.1 ++ [(47:UInt8)]++gd.1)+(1:Nat)≤dh),decide (List.length (r_2.1 ++ [(47:UInt8)])+List.length gd.1≤dh),nQ (Wh.Bw mb.2.1),decide (List.length r_2.1+(1:Nat)≤dh),nQ (Wh.Bw mb.1)] then
    some (xN,())
   else none
 else none
def Wh.Mv:=en Wh.EE
theorem Wh.Mw:OV Wh.EE Wh.Mv:=eB _
def Wh.As (xs:((Bool)×((Int)×((List UInt8)×(((Int)×((List (an.D))×(Unit)))×(((List (e_.D))×((Int)×(Unit)))×((List (eA.D))×((List (cr.D))×(Unit))))))))×(fT.D)):Option ((((Bool)×((Int)×((List UInt8)×((fN.D)×((lg.D)×((List (eA.D))×((List (cr.D))×(Unit))))))))×(List (fT.D)))×(Unit)):=
 let ct:=xs.1
 let w_1:=xs.2
 let r_2:=Wh.Mi (ct,w_1.2.1)
 bif iy [nQ (Wh.G8 (ct,w_1.2.1))] then
  let nC:=decide (r_2.1≥0)
  let yq:=bif nC then decide (Prod.fst (Prod.snd (List.getD ((ct.2.2.2.2.2).2.1) (Int.toNat r_2.1) (0,0,0,0,0,0,())))>w_1.2.2.1) else false
  bif iy [!nC || decide (0≤r_2.1),!nC || decide (r_2.1<(↑(List.length ((ct.2.2.2.2.2).2.1)):Int))] then
   bif yq then
    some ((ct,[]),())
   else
    let xP:=Wh.MC w_1.2.1
    let xe:=Wh.PG ((ct.2.2.2).1,xP.1,(w_1.2.2.2.2.2).1)
    bif iy [nQ (Wh.Fo ((ct.2.2.2).1,xP.1,(w_1.2.2.2.2.2).1)),nQ (Wh.q88 w_1.2.1)] then
     let xR:=bif(!xe.1.2) then true else bif decide ((w_1.2.2.2).1>0) then xe.1.1.2.2.1 != (w_1.2.2.2).1 else false
     bif xR then
      let xb:=bif nC then decide (Prod.fst (Prod.snd (List.getD ((ct.2.2.2.2.2).2.1) (Int.toNat r_2.1) (0,0,0,0,0,0,())))<w_1.2.2.1) else false
      bif iy [!nC || decide (0≤r_2.1),!nC || decide (r_2.1<(↑(List.length ((ct.2.2.2.2.2).2.1)):Int))] then
       bif xb then
        let z6:=Wh.Kf (ct,w_1.2.1)
        bif iy [nQ (Wh.q42 (ct,w_1.2.1))] then
         let r_18:=Wh.L3 (w_1.2.1,w_1.2.2.1,(w_1.2.2.2).1)
         bif iy [nQ (Wh.Is (w_1.2.1,w_1.2.2.1,(w_1.2.2.2).1))] then
          some ((z6.1,r_18.1),())
         else none
        else none
       else
        let Kq:=Wh.L3 (w_1.2.1,w_1.2.2.1,(w_1.2.2.2).1)
        bif iy [nQ (Wh.Is (w_1.2.1,w_1.2.2.1,(w_1.2.2.2).1))] then
         some ((ct,Kq.1),())
        else none
      else none
     else
      let ov:=decide (r_2.1<0)
      let Ak:=bif bif ov then true else decide (Prod.fst (Prod.snd (List.getD ((ct.2.2.2.2.2).2.1) (Int.toNat r_2.1) (0,0,0,0,0,0,())))<w_1.2.2.1) then true else Prod.fst (Prod.snd (Prod.snd (List.getD ((ct.2.2.2.2.2).2.1) (Int.toNat r_2.1) (0,0,0,0,0,0,())))) != xe.1.1.2.2.1
      bif iy [(!!bif ov then true else decide (Prod.fst (Prod.snd (List.getD ((ct.2.2.2.2.2).2.1) (Int.toNat r_2.1) (0,0,0,0,0,0,())))<w_1.2.2.1)) || decide (0≤r_2.1),(!!bif ov then true else decide (Prod.fst (Prod.snd (List.getD ((ct.2.2.2.2.2).2.1) (Int.toNat r_2.1) (0,0,0,0,0,0,())))<w_1.2.2.1)) || decide (r_2.1<(↑(List.length ((ct.2.2.2.2.2).2.1)):Int)),!!ov || decide (0≤r_2.1),!!ov || decide (r_2.1<(↑(List.length ((ct.2.2.2.2.2).2.1)):Int))] then
       bif Ak then
        let Hr:=Wh.O7 (ct,w_1.2.1,w_1.2.2.1,xe.1.1.2.2.1,0,0,ct.2.1,())
        bif iy [nQ (Wh.Iv (ct,w_1.2.1,w_1.2.2.1,xe.1.1.2.2.1,0,0,ct.2.1,()))] then
         let A9:=Wh.G_ (↑(List.length ((xe.1.1.2.2.2).1)):Int)
         let r_26:=Wh.Mv A9.1
         let xd:List (fT.D):=[(2,w_1.2.1,w_1.2.2.1,xe.1.1.2.2.1,0,[],r_26.1,())]
         let nG:Int:=(↑(List.length ((xe.1.1.2.2.2).1)):Int)
         bif iy [nQ (Wh.EE A9.1),nQ (Wh.BT nG)] then
          some ((Hr.1,xd),())
         else none
        else none
       else
        let MI:=Wh.G_ (↑(List.length ((xe.1.1.2.2.2).1)):Int)
        let xS:=Wh.Mv MI.1
        let xT:List (fT.D):=[(2,w_1.2.1,w_1.2.2.1,xe.1.1.2.2.1,0,[],xS.1,())]
        let y6:Int:=(↑(List.length ((xe.1.1.2.2.2).1)):Int)
        bif iy [nQ (Wh.EE MI.1),nQ (Wh.BT y6)] then
         some ((ct,xT),())
        else none
      else none
    else none
  else none
 else none
def Wh.O3:=en Wh.As
theorem Wh.Xb:OV Wh.As Wh.O3:=eB _
def Wh.q41 (x:((Unit)×(Unit)×(Unit)×(Int))×(((Bool)×((Int)×((List UInt8)×(((Int)×((Unit)×(Unit)))×(((Unit)×((Int)×(Unit)))×((Unit)×((Unit)×(Unit))))))))×((Bool)×((Int)×((List UInt8)×(((Int)×((Unit)×(Unit)))×(((Unit)×((Int)×(Unit)))×((Unit)×((Unit)×(Unit))))))))×(fT.D)×(List (an.D))×(List (e_.D))×(List (eA.D))×(List (cr.D))×(List (an.D))×(List (e_.D))×(List (eA.D))×(List (cr.D)))):Option ((((Unit)×(Unit))×(((Bool)×((Int)×((List UInt8)×(((Int)×((Unit)×(Unit)))×(((Unit)×((Int)×(Unit)))×((Unit)×((Unit)×(Unit))))))))×((Bool)×((Int)×((List UInt8)×((fN.D)×((lg.D)×((List (eA.D))×((Unit)×(Unit))))))))×(List (an.D))×(List (e_.D))×(List (eA.D))×(List (cr.D))×(List (cr.D))))⊕(((Unit)×(Unit))×(((Bool)×((Int)×((List UInt8)×(((Int)×((Unit)×(Unit)))×(((Unit)×((Int)×(Unit)))×((Unit)×((Unit)×(Unit))))))))×((Bool)×((Int)×((List UInt8)×(((Int)×((Unit)×(Unit)))×(((Unit)×((Int)×(Unit)))×((Unit)×((Unit)×(Unit))))))))×(List (an.D))×(List (e_.D))×(List (eA.D))×(List (cr.D))×(List (an.D))×(List (e_.D))×(List (eA.D))×(List (cr.D))))):=
 let CB:=x.1.2.2.2
 let CG:=x.2.1.1
 let BK:=(x.2.1.2).1
 let CH:=x.2.1.2.2.1
 let E_:=(x.2.1.2.2.2).1.1
 let H6:=(x.2.1.2.2.2).1.2.2
 let H7:=(x.2.1.2.2.2).2.1.2
 let CI:=(x.2.1.2.2.2).2.2.2.2
 let Af:=x.2.2.1.1
 let A3:=(x.2.2.1).2.1
 let Fa:=(x.2.2.1).2.2.1
 let Bk:=(x.2.2.1).2.2.2.1.1
 let Dm:=(x.2.2.1).2.2.2.1.2.2
 let Ag:=(x.2.2.1).2.2.2.2.1.2
 let D6:=(x.2.2.1).2.2.2.2.2.2.2
 let D7:=(x.2.2.2).1
 let Bl:=x.2.2.2.2.1
 let D8:=(x.2.2.2.2.2).1
 let JL:=(x.2.2.2.2.2).2.1
 let JM:=(x.2.2.2.2.2).2.2.1
 let H8:=(x.2.2.2.2.2).2.2.2.1
 let Fb:=(x.2.2.2.2.2).2.2.2.2.1
 let LK:=(x.2.2.2.2.2).2.2.2.2.2.1
 let Bn:=(x.2.2.2.2.2).2.2.2.2.2.2
 bif(D7.1==5) then
  let Cq:=Wh.Kf ((Af,A3,Fa,(Bk,H8,Dm),(Fb,Ag),LK,Bn,D6),D7.2.1)
  bif iy [nQ (Wh.q42 ((Af,A3,Fa,(Bk,H8,Dm),(Fb,Ag),LK,Bn,D6),D7.2.1))] then
   some (.inl ((((),()),(CG,BK,CH,(E_,(),H6),((),H7),(),(),CI),(Cq.1.1,Cq.1.2.1,(Cq.1.2.2).1,Cq.1.2.2.2.1,(Cq.1.2.2.2.2).1,(Cq.1.2.2.2.2).2.1,(),(Cq.1.2.2.2.2).2.2.2),Bl,D8,JL,JM,(Cq.1.2.2.2.2).2.2.1)))
  else none
 else
  let v_67:=D7.1==4
  let v_71:=bif bif v_67 then decide (D7.2.2.2.2.1≤3) else false then decide (D7.2.2.2.2.1>Prod.fst (Prod.snd (Prod.snd (Prod.snd (Prod.snd (List.getD Bn (Int.toNat CB) (0,0,0,0,0,0,()))))))) else false
  bif iy [(!bif v_67 then decide (D7.2.2.2.2.1≤3) else false) || decide (0≤CB),(!bif v_67 then decide (D7.2.2.2.2.1≤3) else false) || decide (CB<(↑(List.length Bn):Int))] then
   bif v_71 then
    let Oc:List (cr.D):=List.set Bn (Int.toNat CB) (Prod.fst (List.getD Bn (Int.toNat CB) (0,0,0,0,0,0,())),Prod.fst (Prod.snd (List.getD Bn (Int.toNat CB) (0,0,0,0,0,0,()))),Prod.fst (Prod.snd (Prod.snd (List.getD Bn (Int.toNat CB) (0,0,0,0,0,0,())))),Prod.fst (Prod.snd (Prod.snd (Prod.snd (List.getD Bn (Int.toNat CB) (0,0,0,0,0,0,()))))),D7.2.2.2.2.1,Prod.snd (Prod.snd (Prod.snd (Prod.snd (Prod.snd (List.getD Bn (Int.toNat CB) (0,0,0,0,0,0,())))))))
    bif iy [decide (0≤CB),decide (CB<(↑(List.length Bn):Int))] then
     some (.inr ((((),()),(CG,BK,CH,(E_,(),H6),((),H7),(),(),CI),(Af,A3,Fa,(Bk,(),Dm),((),Ag),(),(),D6),Bl,D8,JL,JM,H8,Fb,LK,Oc)))
    else none
   else
    some (.inr ((((),()),(CG,BK,CH,(E_,(),H6),((),H7),(),(),CI),(Af,A3,Fa,(Bk,(),Dm),((),Ag),(),(),D6),Bl,D8,JL,JM,H8,Fb,LK,Bn)))
  else none
def Wh.Mt (x:((Unit)×(Unit)×(Unit)×(Int))×(((Bool)×((Int)×((List UInt8)×(((Int)×((Unit)×(Unit)))×(((Unit)×((Int)×(Unit)))×((Unit)×((Unit)×(Unit))))))))×((Bool)×((Int)×((List UInt8)×(((Int)×((Unit)×(Unit)))×(((Unit)×((Int)×(Unit)))×((Unit)×((Unit)×(Unit))))))))×(fT.D)×(List (an.D))×(List (e_.D))×(List (eA.D))×(List (cr.D))×(List (an.D))×(List (e_.D))×(List (eA.D))×(List (cr.D)))):(((Unit)×(Unit))×(((Bool)×((Int)×((List UInt8)×(((Int)×((Unit)×(Unit)))×(((Unit)×((Int)×(Unit)))×((Unit)×((Unit)×(Unit))))))))×((Bool)×((Int)×((List UInt8)×((fN.D)×((lg.D)×((List (eA.D))×((Unit)×(Unit))))))))×(List (an.D))×(List (e_.D))×(List (eA.D))×(List (cr.D))×(List (cr.D))))⊕(((Unit)×(Unit))×(((Bool)×((Int)×((List UInt8)×(((Int)×((Unit)×(Unit)))×(((Unit)×((Int)×(Unit)))×((Unit)×((Unit)×(Unit))))))))×((Bool)×((Int)×((List UInt8)×(((Int)×((Unit)×(Unit)))×(((Unit)×((Int)×(Unit)))×((Unit)×((Unit)×(Unit))))))))×(List (an.D))×(List (e_.D))×(List (eA.D))×(List (cr.D))×(List (an.D))×(List (e_.D))×(List (eA.D))×(List (cr.D)))):=match Wh.q41 x with | some y=>y|none=>.inl default
theorem Wh.QW (x:((Unit)×(Unit)×(Unit)×(Int))×(((Bool)×((Int)×((List UInt8)×(((Int)×((Unit)×(Unit)))×(((Unit)×((Int)×(Unit)))×((Unit)×((Unit)×(Unit))))))))×((Bool)×((Int)×((List UInt8)×(((Int)×((Unit)×(Unit)))×(((Unit)×((Int)×(Unit)))×((Unit)×((Unit)×(Unit))))))))×(fT.D)×(List (an.D))×(List (e_.D))×(List (eA.D))×(List (cr.D))×(List (an.D))×(List (e_.D))×(List (eA.D))×(List (cr.D))))(y:(((Unit)×(Unit))×(((Bool)×((Int)×((List UInt8)×(((Int)×((Unit)×(Unit)))×(((Unit)×((Int)×(Unit)))×((Unit)×((Unit)×(Unit))))))))×((Bool)×((Int)×((List UInt8)×((fN.D)×((lg.D)×((List (eA.D))×((Unit)×(Unit))))))))×(List (an.D))×(List (e_.D))×(List (eA.D))×(List (cr.D))×(List (cr.D))))⊕(((Unit)×(Unit))×(((Bool)×((Int)×((List UInt8)×(((Int)×((Unit)×(Unit)))×(((Unit)×((Int)×(Unit)))×((Unit)×((Unit)×(Unit))))))))×((Bool)×((Int)×((List UInt8)×(((Int)×((Unit)×(Unit)))×(((Unit)×((Int)×(Unit)))×((Unit)×((Unit)×(Unit))))))))×(List (an.D))×(List (e_.D))×(List (eA.D))×(List (cr.D))×(List (an.D))×(List (e_.D))×(List (eA.D))×(List (cr.D)))))(h:Wh.q41 x=some y):Wh.Mt x=y:=by unfold Wh.Mt;rw[h]
def Wh.BO (xs:((Bool)×((Int)×((List UInt8)×(((Int)×((List (an.D))×(Unit)))×(((List (e_.D))×((Int)×(Unit)))×((List (eA.D))×((List (cr.D))×(Unit))))))))×(fT.D)):Option ((((Bool)×((Int)×((List UInt8)×((fN.D)×((lg.D)×((List (eA.D))×((List (cr.D))×(Unit))))))))×(List (fT.D)))×(Unit)):=
 let ct:=xs.1
 let w_1:=xs.2
 bif(w_1.1==1) then
  let r_3:=Wh.O3 (ct,w_1)
  bif iy [nQ (Wh.As (ct,w_1))] then
   some (r_3.1,())
  else none
 else
  let gd:=Wh.Mi (ct,w_1.2.1)
  bif iy [nQ (Wh.G8 (ct,w_1.2.1))] then
   let x6:=decide (gd.1<0)
   let yP:=bif bif x6 then true else Prod.fst (Prod.snd (List.getD ((ct.2.2.2.2.2).2.1) (Int.toNat gd.1) (0,0,0,0,0,0,()))) != w_1.2.2.1 then true else Prod.fst (Prod.snd (Prod.snd (List.getD ((ct.2.2.2.2.2).2.1) (Int.toNat gd.1) (0,0,0,0,0,0,())))) != (w_1.2.2.2).1
   bif iy [(!!bif x6 then true else Prod.fst (Prod.snd (List.getD ((ct.2.2.2.2.2).2.1) (Int.toNat gd.1) (0,0,0,0,0,0,()))) != w_1.2.2.1) || decide (0≤gd.1),(!!bif x6 then true else Prod.fst (Prod.snd (List.getD ((ct.2.2.2.2.2).2.1) (Int.toNat gd.1) (0,0,0,0,0,0,()))) != w_1.2.2.1) || decide (gd.1<(↑(List.length ((ct.2.2.2.2.2).2.1)):Int)),!!x6 || decide (0≤gd.1),!!x6 || decide (gd.1<(↑(List.length ((ct.2.2.2.2.2).2.1)):Int))] then
    bif yP then
     some ((ct,[]),())
    else
     let KQ:((Unit)×(Unit)×(Unit)×(Int))×(((Bool)×((Int)×((List UInt8)×(((Int)×((Unit)×(Unit)))×(((Unit)×((Int)×(Unit)))×((Unit)×((Unit)×(Unit))))))))×((Bool)×((Int)×((List UInt8)×(((Int)×((Unit)×(Unit)))×(((Unit)×((Int)×(Unit)))×((Unit)×((Unit)×(Unit))))))))×(fT.D)×(List (an.D))×(List (e_.D))×(List (eA.D))×(List (cr.D))×(List (an.D))×(List (e_.D))×(List (eA.D))×(List (cr.D))):=(((),(),(),gd.1),(false,0,[],(0,(),()),((),0,()),(),(),()),(ct.1,ct.2.1,ct.2.2.1,((ct.2.2.2).1.1,(),(ct.2.2.2).1.2.2),((),(ct.2.2.2.2.1).2),(),(),(ct.2.2.2.2.2).2.2),w_1,[],[],[],[],(ct.2.2.2).1.2.1,(ct.2.2.2.2.1).1,(ct.2.2.2.2.2).1,(ct.2.2.2.2.2).2.1)
     bif nQ (Wh.q41 KQ) then
      sumC (Wh.Mt KQ) (fun DT=>
       let ls_83:=DT.2.2.1.1
       let ls_84:=(DT.2.2.1).2.1
       let ls_85:=(DT.2.2.1).2.2.1
       let ls_86:=(DT.2.2.1).2.2.2.1
       let ls_87:=(DT.2.2.1).2.2.2.2.1
       let ls_88:=(DT.2.2.1).2.2.2.2.2.1
       let ls_89:=(DT.2.2.1).2.2.2.2.2.2.2
       let BL:=(DT.2.2.2.2.2).2.2
       some (((ls_83,ls_84,ls_85,ls_86,ls_87,ls_88,BL,ls_89),[]),())) (fun C9=>
       let N5:=C9.2.2.1.1
       let ls_103:=(C9.2.2.1).2.1
       let yF:=(C9.2.2.1).2.2.1
       let JI:=(C9.2.2.1).2.2.2.1.1
       let JJ:=(C9.2.2.1).2.2.2.1.2.2
       let ls_107:=(C9.2.2.1).2.2.2.2.1.2
       let ls_108:=(C9.2.2.1).2.2.2.2.2.2.2
       let ls_113:=(C9.2.2.2.2.2).2.2.1
       let ls_114:=(C9.2.2.2.2.2).2.2.2.1
       let N6:=(C9.2.2.2.2.2).2.2.2.2.1
       let ls_116:=(C9.2.2.2.2.2).2.2.2.2.2
       some (((N5,ls_103,yF,(JI,ls_113,JJ),(ls_114,ls_107),N6,ls_116,ls_108),[]),()))
     else none
   else none
  else none
def Wh.O1:=en Wh.BO
theorem Wh.O2:OV Wh.BO Wh.O1:=eB _
def Wh.EA (xs:(fk.D)×(fT.D)):Option ((((Bool)×((Int)×((List UInt8)×((fN.D)×((lg.D)×((List (eA.D))×((List (cr.D))×(Unit))))))))×(List (fT.D)))×(Unit)):=
 let ct:=xs.1
 let w_1:=xs.2
 let r_2:=Wh.q87' ct
 bif iy [nQ (Wh.q87 ct)] then
  bif !r_2.1 then
   some (((false,0,[],(0,[],()),([],0,()),[],[],()),[]),())
  else
   let r_3:=Wh.O0 ct
   bif iy [nQ (Wh.Ir ct)] then
    let yq:= !ct.1
    let xP:=Wh.PU w_1
    let yP:=bif bif yq then true else !xP.1 then true else decide (w_1.2.1≥4)
    bif iy [!!yq || nQ (Wh.IF w_1)] then
     bif yP then
      some ((r_3.1,[]),())
     else
      let r_9:=Wh.O1 (r_3.1,w_1)
      bif iy [nQ (Wh.BO (r_3.1,w_1))] then
       some (r_9.1,())
      else none
    else none
   else none
 else none
def Wh.q40':=en Wh.EA
theorem Wh.q40_v:OV Wh.EA Wh.q40':=eB _
def Wh.G0 (xs:(fT.D)):Option (((Bool))×(Unit)):=
 let w_0:=xs
 let r_1:=Wh.wh (w_0.2.1,0,99999)
 let r_2:=Wh.wh ((w_0.2.2.2).1,0,99999)
 let xP:=Wh.wh (w_0.2.2.2.2.1,0,99999)
 let r5:=Wh.wh (w_0.2.2.1,1,99999)
 let yu:=bif bif bif bif !r_1.1 then true else !r_2.1 then true else !xP.1 then true else !r5.1 then true else decide ((↑(List.length ((w_0.2.2.2.2.2).2.1)):Int)>80)
 bif iy [(!!bif bif !r_1.1 then true else !r_2.1 then true else !xP.1) || nQ (Wh.ye (w_0.2.2.1,1,99999)),(!!bif !r_1.1 then true else !r_2.1) || nQ (Wh.ye (w_0.2.2.2.2.1,0,99999)),!!!r_1.1 || nQ (Wh.ye ((w_0.2.2.2).1,0,99999)),nQ (Wh.ye (w_0.2.1,0,99999))] then
  bif yu then
   some (false,())
  else
   let xN:=decide ((w_0.2.2.2).1>0)
   let z8:=decide (w_0.2.2.2.2.1>0)
   let r_:= !(w_0.2.2.2.2.2).1 == []
   let xR:= !(w_0.2.2.2.2.2).2.1 == []
   bif(w_0.1==1) then
    let z6:=Wh.J7 ((w_0.2.2.2.2.2).1)
    let xO:=bif bif z6.1 then !z8 else false then !xR else false
    bif iy [nQ (Wh.Fm ((w_0.2.2.2.2.2).1))] then
     some (xO,())
    else none
   else
    bif(w_0.1==2) then
     let Ak:=bif bif xN then xR else false then !z8 else false
     some (bif Ak then !r_ else false,())
    else
     bif(w_0.1==3) then
      let Bz:=bif bif xN then xR else false then !r_ else false
      some (Bz,())
     else
      let wX:=w_0.1==4
      bif wX then
       bif wX then
        let AA:=bif bif xN then !r_ else false then !xR else false
        some (AA,())
       else
        bif(w_0.1==6) then
         let zf:=bif !z8 then !r_ else false
         some (bif zf then !xR else false,())
        else
         some (false,())
      else
       bif(w_0.1==5) then
        let KF:=bif bif xN then !r_ else false then !xR else false
        some (KF,())
       else
        bif(w_0.1==6) then
         let zg:=bif !z8 then !r_ else false
         some (bif zg then !xR else false,())
        else
         some (false,())
 else none
def Wh.Pv:=en Wh.G0
theorem Wh.Ei:OV Wh.G0 Wh.Pv:=eB _
def Wh.q12 (xs:(cr.D)×(Int)):Option (((Bool))×(Unit)):=
 let v_0:=xs.1
 let v_1:=xs.2
 some ((v_0.1==v_1),())
def Wh.q12':=en Wh.q12
theorem Wh.Pw:OV Wh.q12 Wh.q12':=eB _
abbrev Wh.QV:Type:=((Int)×(List (cr.D))×((Int)×(Unit))×(Int))×(Unit)
abbrev Wh.q3_l0Y:Type:=((((Int))×(Unit))⊕((Unit)×(Unit)))
def Wh.Ez (x:Wh.QV):Option (Wh.QV⊕Wh.q3_l0Y):=
 let yu:=x.1.1
 let CY:=x.1.2.1
 let Gu:=(x.1.2.2).1.1
 let r_:=x.1.2.2.2
 bif decide (yu<r_) then
  let xb:cr.D:=List.getD CY (Int.toNat yu) (0,0,0,0,0,0,())
  let z6:=Wh.q12' (xb,Gu)
  bif iy [nQ (Wh.q12 (xb,Gu)),decide (0≤yu),decide (yu<(↑(List.length CY):Int))] then
   bif z6.1 then
    some (.inr (.inl (yu,())))
   else
    some (.inl (((IntKind.wrap .i64 (yu+1)),CY,(Gu,()),r_),()))
  else none
 else
  some (.inr (.inr ((),())))
def Wh.Yk:(((Int))×(Unit))⊕((Unit)×(Unit)):=.inl default
def Wh.q3 (xs:(List (cr.D))×((Int)×(Unit))):Option (((Int))×(Unit)):=
 let ct:=xs.1
 let f_1:=xs.2
 let v_2:Int:=(↑(List.length ct):Int)
 let x_19:Wh.QV:=((0,ct,(f_1.1,()),v_2),())
 bif lF Wh.Ez x_19 then
  sumC (kG Wh.Ez Wh.Yk x_19) (fun KT=>
   let yI:=KT.1
   some (yI,())) (fun _=>
   some (-1,()))
 else none
def Wh.q3':=en Wh.q3
theorem Wh.q3_v:OV Wh.q3 Wh.q3':=eB _
def Wh.q19 (xs:(fk.D)×(Int)):Option (((Int))×(Unit)):=
 let ct:=xs.1
 let HM:=xs.2
 let r_2:=Wh.q3' ((ct.2.2.2.2.2).2.1,HM,())
 bif iy [nQ (Wh.q3 ((ct.2.2.2.2.2).2.1,HM,()))] then
  some (r_2.1,())
 else none
def Wh.Mn:=en Wh.q19
theorem Wh.Aj:OV Wh.q19 Wh.Mn:=eB _
def Wh.q13 (xs:(List (cr.D))×(Int)×(Int)):Option (((List (cr.D)))×(Unit)):=
 let ct:=xs.1
 let i_1:=xs.2.1
 let yK:=xs.2.2
 let nC:Int:=(↑(List.length ct):Int)
 bif iy [decide (0≤i_1),decide (i_1≤yK),decide (yK≤nC),decide (nC≤nC)] then
  let yq:=i_1==yK
  bif yq then
   some (ct,())
  else
   let GP:List (cr.D):=List.take (Int.toNat 0+Int.toNat (i_1-0)) ct++(List.take (Int.toNat (nC-yK)) (List.drop (Int.toNat yK) ct)++List.drop (Int.toNat 0+Int.toNat (i_1-0)+List.length (List.take (Int.toNat (nC-yK)) (List.drop (Int.toNat yK) ct))) ct)
   let zp:Nat:=Int.toNat (i_1-0)
   let A_:Nat:=zp+List.length (List.take (Int.toNat (nC-yK)) (List.drop (Int.toNat yK) ct))
   bif iy [decide (Int.toNat 0+zp+List.length (List.take (Int.toNat (nC-yK)) (List.drop (Int.toNat yK) ct))≤List.length ct),decide (0≤yK),decide (yK≤nC),decide (nC≤nC),true,decide (0≤i_1),decide (i_1≤nC)] then
    let JV:List (cr.D):=List.take (Int.toNat 0+Int.toNat (↑A_:Int)) GP++(@List.replicate (Int×Int×Int×Int×Int×Int×Unit) (Int.toNat (nC-(↑A_:Int))) (0,0,0,0,0,0,())++List.drop (Int.toNat 0+Int.toNat (↑A_:Int)+List.length (@List.replicate (Int×Int×Int×Int×Int×Int×Unit) (Int.toNat (nC-(↑A_:Int))) (0,0,0,0,0,0,()))) GP)
    bif iy [decide (0≤(↑A_:Int)),decide ((↑A_:Int)≤nC),decide ((↑(Int.toNat 0):Int)+nC≤(↑(List.length GP):Int))] then
     some (List.take A_ JV,())
    else none
   else none
 else none
def Wh.q13':=en Wh.q13
theorem Wh.q13_v:OV Wh.q13 Wh.q13':=eB _
def Wh.q18 (xs:((Bool)×((Int)×((List UInt8)×(((Int)×((List (an.D))×(Unit)))×(((List (e_.D))×((Int)×(Unit)))×((List (eA.D))×((List (cr.D))×(Unit))))))))×(Int)):Option ((Unit)×(((Bool)×((Int)×((List UInt8)×(((Int)×((List (an.D))×(Unit)))×(((List (e_.D))×((Int)×(Unit)))×((List (eA.D))×((List (cr.D))×(Unit))))))))×Unit)):=
 let ct:=xs.1
 let zu:=xs.2
 let r_2:=Wh.q13' ((ct.2.2.2.2.2).2.1,zu,IntKind.wrap .i64 (zu+1))
 let Ec:List (cr.D):=[]++r_2.1
 bif iy [decide ((0:Nat)+List.length r_2.1≤dh),nQ (Wh.q13 ((ct.2.2.2.2.2).2.1,zu,(IntKind.wrap .i64 (zu+1))))] then
  some ((),(ct.1,ct.2.1,ct.2.2.1,(ct.2.2.2).1,ct.2.2.2.2.1,(ct.2.2.2.2.2).1,Ec,(ct.2.2.2.2.2).2.2),())
 else none
def Wh.Ml:=en Wh.q18
theorem Wh.Mm:OV Wh.q18 Wh.Ml:=eB _
def Wh.q16 (xs:(cr.D)×(cr.D)):Option (((Int))×(Unit)):=
 let cx:=xs.1
 let b_1:=xs.2
 some ((IntKind.wrap .i64 (cx.1-b_1.1)),())
def Wh.q16':=en Wh.q16
theorem Wh.Mk:OV Wh.q16 Wh.q16':=eB _
abbrev Wh.OJ:Type:=((Int)×(Unit)×(Unit)×(Int)×(Int)×(Int))×((List (cr.D)))
abbrev Wh.q0_l1Y:Type:=((((Unit)×(Unit)×(Int)×(Int)×(Int))×((List (cr.D)))))
def Wh.Dt (x:Wh.OJ):Option (Wh.OJ⊕Wh.q0_l1Y):=
 let yc:=x.1.1
 let Gj:=x.1.2.2.2.1
 let Jo:=(x.1.2.2.2.2).1
 let Jx:=(x.1.2.2.2.2).2
 let xd:=x.2
 let nG:=decide (yc>Gj)
 let r_29:=Wh.q16' (List.getD xd (Int.toNat yc) (0,0,0,0,0,0,()),List.getD xd (Int.toNat (IntKind.wrap .i64 (yc-1))) (0,0,0,0,0,0,()))
 let yy:=bif nG then decide (r_29.1<0) else false
 bif iy [!nG || nQ (Wh.q16 (List.getD xd (Int.toNat yc) (0,0,0,0,0,0,()),List.getD xd (Int.toNat (IntKind.wrap .i64 (yc-1))) (0,0,0,0,0,0,()))),!nG || decide (0≤IntKind.wrap .i64 (yc-1)),!nG || decide (IntKind.wrap .i64 (yc-1)<(↑(List.length xd):Int)),!nG || decide (0≤yc),!nG || decide (yc<(↑(List.length xd):Int))] then
  bif yy then
   let tn:List (cr.D):=List.set xd (Int.toNat yc) (List.getD xd (Int.toNat (IntKind.wrap .i64 (yc-1))) (0,0,0,0,0,0,()))
   let OC:List (cr.D):=List.set tn (Int.toNat (IntKind.wrap .i64 (yc-1))) (List.getD xd (Int.toNat yc) (0,0,0,0,0,0,()))
   let zg:=IntKind.wrap .i64 (yc-1)
   bif iy [decide (0≤zg),decide (zg<(↑(List.length tn):Int)),decide (0≤yc),decide (yc<(↑(List.length xd):Int)),decide (0≤yc),decide (yc<(↑(List.length xd):Int)),decide (0≤zg),decide (zg<(↑(List.length xd):Int))] then
    some (.inl ((zg,(),(),Gj,Jo,Jx),OC))
   else none
  else
   some (.inr (((),(),Gj,Jo,Jx),xd))
 else none
def Wh.WU:(((Unit)×(Unit)×(Int)×(Int)×(Int))×((List (cr.D)))):=default
abbrev Wh.OI:Type:=((Unit)×(Int)×(Unit)×(Int)×(Int))×((List (cr.D)))
abbrev Wh.q0_l0Y:Type:=(((Unit)×((List (cr.D)))))
def Wh.CL (x:Wh.OI):Option (Wh.OI⊕Wh.q0_l0Y):=
 let GA:=x.1.2.1
 let a_44:=x.1.2.2.2.1
 let Jp:=x.1.2.2.2.2
 let Ar:=x.2
 bif decide (GA<Jp) then
  let BA:Wh.OJ:=((GA,(),(),a_44,Jp,GA),Ar)
  bif lF Wh.Dt BA then
   let AP:=kG Wh.Dt Wh.WU BA
   let a_50:=(AP.1.2.2).1
   let b_51:=AP.1.2.2.2.1
   let Jz:=AP.1.2.2.2.2
   let OF:=AP.2
   some (.inl (((),(IntKind.wrap .i64 (Jz+1)),(),a_50,b_51),OF))
  else none
 else
  some (.inr ((),Ar))
def Wh.WT:((Unit)×((List (cr.D)))):=default
def Wh.q0 (xs:(List (cr.D))×(Int)×(Int)×(Unit)):Option ((Unit)×((List (cr.D))×Unit)):=
 let Gt:=xs.1
 let a_1:=xs.2.1
 let b_2:=xs.2.2.1
 let C7:Wh.OI:=(((),(IntKind.wrap .i64 (a_1+1)),(),a_1,b_2),Gt)
 bif lF Wh.CL C7 then
  let AQ:=kG Wh.CL Wh.WT C7
  let OG:=AQ.2
  some ((),OG,())
 else none
def Wh.q0':=en Wh.q0
theorem Wh.q0_v:OV Wh.q0 Wh.q0':=eB _
abbrev Wh.QL:Type:=((Unit)×(Int)×(Int)×(Unit)×(Bool)×(Bool)×(Int))×((List (cr.D)))
abbrev Wh.q2_l0Y:Type:=(((Unit)×((List (cr.D)))))
def Wh.IX (x:Wh.QL):Option (Wh.QL⊕Wh.q2_l0Y):=
 let Gm:=x.1.2.1
 let Gg:=(x.1.2.2).1
 let RU:=(x.1.2.2.2.2).2.1
 let N0:=(x.1.2.2.2.2).2.2
 let BM:=x.2
 bif decide ((IntKind.wrap .i64 (Gm-Gg))≤12) then
  let zm:=Wh.q0' (BM,Gg,Gm,())
  bif iy [nQ (Wh.q0 (BM,Gg,Gm,()))] then
   some (.inr ((),zm.2.1))
  else none
 else
  let vN:=N0==0
  bif vN then
   none
  else
   bif !RU then
    none
   else
    none
def Wh.Yf:((Unit)×((List (cr.D)))):=default
def Wh.q2 (xs:(List (cr.D))×(Int)×(Int)×(Int)×(Unit)):Option ((Unit)×((List (cr.D))×Unit)):=
 let Gt:=xs.1
 let a_1:=xs.2.1
 let b_2:=xs.2.2.1
 let N1:=(xs.2.2.2).1
 let x_25:Wh.QL:=(((),b_2,a_1,(),true,true,N1),Gt)
 bif lF Wh.IX x_25 then
  let Aa:=kG Wh.IX Wh.Yf x_25
  let xd:=Aa.2
  some ((),xd,())
 else none
def Wh.Ev:=en Wh.q2
theorem Wh.q2_v:OV Wh.q2 Wh.Ev:=eB _
def Wh.q6 (xs:(List (cr.D))×(Unit)):Option ((Unit)×((List (cr.D))×Unit)):=
 let yE:=xs.1
 let v_2:Int:=(↑(List.length yE):Int)
 let r_3:=Wh.qX (IntKind.wrap .u64 v_2)
 let gd:=Wh.Ev (yE,0,v_2,r_3.1,())
 bif iy [nQ (Wh.q2 (yE,0,v_2,r_3.1,())),nQ (Wh.bits_Len (IntKind.wrap .u64 v_2))] then
  some ((),gd.2.1,())
 else none
def Wh.q6':=en Wh.q6
theorem Wh.q6_v:OV Wh.q6 Wh.q6':=eB _
abbrev Wh.Rg:Type:=((Int)×(Unit)×(List (Int))×(Int))×((List (List UInt8)))
abbrev Wh.adA:Type:=((((Unit))×((List (List UInt8)))))
def Wh.CT (x:Wh.Rg):Option (Wh.Rg⊕Wh.adA):=
 let yu:=x.1.1
 let xN:=(x.1.2.2).1
 let z8:=x.1.2.2.2
 let yA:=x.2
 bif decide (yu<z8) then
  let xb:=List.getD xN (Int.toNat yu) 0
  bif iy [decide (0≤yu),decide (yu<(↑(List.length xN):Int))] then
   let z6:=Wh.tJ xb
   let yL:List (List UInt8):=yA ++ [z6.1]
   bif iy [decide (List.length yA+(1:Nat)≤dh),nQ (Wh.strconv_Itoa xb)] then
    some (.inl (((IntKind.wrap .i64 (yu+1)),(),xN,z8),yL))
   else none
  else none
 else
  some (.inr ((),yA))
def Wh.YB:(((Unit))×((List (List UInt8)))):=default
def Wh.CS (xs:(List (Int))):Option (((List UInt8))×(Unit)):=
 let HY:=xs
 let x_21:Wh.Rg:=((0,(),HY,(↑(List.length HY):Int)),[])
 bif lF Wh.CT x_21 then
  let C8:=kG Wh.CT Wh.YB x_21
  let zR:=C8.2
  let Hr:=Wh.MW (zR,[(44:UInt8)])
  bif iy [nQ (Wh.strings_Join (zR,[(44:UInt8)]))] then
   some (Hr.1,())
  else none
 else none
def Wh.MA:=en Wh.CS
theorem Wh.Rh:OV Wh.CS Wh.MA:=eB _
def Wh.q47 (xs:(s_.D)):Option (((List UInt8))×(Unit)):=
 let mb:s_.D:=xs
 let r_1:=Wh.Pn mb
 bif iy [nQ (Wh.Bq mb)] then
  bif !r_1.1 then
   some ([],())
  else
   let r_2:=Wh.tJ mb.1
   let gd:=Wh.tJ mb.2.1
   let x9:=Wh.MA (mb.2.2.1)
   let zZ:=Wh.MA ((mb.2.2.2).1)
   let xN:=r_2.1 ++ [(47:UInt8)]++gd.1 ++ [(58:UInt8)]++x9.1 ++ [(58:UInt8)]++zZ.1
   bif iy [decide (List.length (r_2.1 ++ [(47:UInt8)]++gd.1 ++ [(58:UInt8)]++x9.1 ++ [(58:UInt8)])+List.length zZ.1≤dh),nQ (Wh.CS ((mb.2.2.2).1)),decide (List.length (r_2.1 ++ [(47:UInt8)]++gd.1 ++ [(58:UInt8)]++x9.1)+(1:Nat)≤dh),decide (List.length (r_2.1 ++ [(47:UInt8)]++gd.1 ++ [(58:UInt8)])+List.length x9.1≤dh),nQ (Wh.CS (mb.2.2.1)),decide (List.length (r_2.1 ++ [(47:UInt8)]++gd.1)+(1:Nat)≤dh),decide (List.length (r_2.1 ++ [(47:UInt8)])+List.length gd.1≤dh),nQ (Wh.strconv_Itoa mb.2.1),decide (List.length r_2.1+(1:Nat)≤dh),nQ (Wh.strconv_Itoa mb.1)] then
    some (xN,())
   else none
 else none
def Wh.q47':=en Wh.q47
theorem Wh.Q1:OV Wh.q47 Wh.q47':=eB _
def Wh.q11 (x:((Unit)×(Unit)×(Unit)×(Unit)×(Int))×(((Bool)×((Int)×((List UInt8)×(((Int)×((Unit)×(Unit)))×(((Unit)×((Int)×(Unit)))×((Unit)×((Unit)×(Unit))))))))×(an.D)×(fT.D)×(cr.D)×(List (an.D))×(List (e_.D))×(List (eA.D))×(List (cr.D)))):Option ((((Unit)×(Unit))×(((Bool)×((Int)×((List UInt8)×(((Int)×((Unit)×(Unit)))×(((Unit)×((Int)×(Unit)))×((Unit)×((Unit)×(Unit))))))))×(an.D)×(fT.D)×(List (an.D))×(List (e_.D))×(List (eA.D))×(List (cr.D))))):=
 let Db:=x.1.2.2.2.2
 let Aq:=x.2.1.1
 let OD:=(x.2.1.2).1
 let JX:=x.2.1.2.2.1
 let JY:=(x.2.1.2.2.2).1.1
 let GO:=(x.2.1.2.2.2).1.2.2
 let Ar:=(x.2.1.2.2.2).2.1.2
 let OE:=(x.2.1.2.2.2).2.2.2.2
 let CI:=x.2.2.1
 let Af:=(x.2.2.2).1
 let A3:=x.2.2.2.2.1
 let Fa:=(x.2.2.2.2.2).1
 let Bk:=(x.2.2.2.2.2).2.1
 let Dm:=(x.2.2.2.2.2).2.2.1
 let Ag:=(x.2.2.2.2.2).2.2.2
 bif decide (Db<0) then
  let pb_56:List (cr.D):=[A3]
  let Bl:List (cr.D):=Ag++pb_56
  bif iy [decide (List.length Ag+(1:Nat)≤dh)] then
   let r_58:=Wh.q6' (Bl,())
   bif iy [nQ (Wh.q6 (Bl,()))] then
    some ((((),()),(Aq,OD,JX,(JY,(),GO),((),Ar),(),(),OE),CI,Af,Fa,Bk,Dm,r_58.2.1))
   else none
  else none
 else
  let EU:Int:=Prod.fst (Prod.snd (List.getD Ag (Int.toNat Db) (0,0,0,0,0,0,())))
  let v_63:=bif decide (EU<Af.2.2.1) then true else Prod.fst (Prod.snd (Prod.snd (List.getD Ag (Int.toNat Db) (0,0,0,0,0,0,())))) != CI.2.2.1
  bif iy [!!decide (EU<Af.2.2.1) || decide (0≤Db),!!decide (EU<Af.2.2.1) || decide (Db<(↑(List.length Ag):Int)),decide (0≤Db),decide (Db<(↑(List.length Ag):Int))] then
   bif v_63 then
    let Bn:List (cr.D):=List.set Ag (Int.toNat Db) A3
    bif iy [decide (0≤Db),decide (Db<(↑(List.length Ag):Int))] then
     some ((((),()),(Aq,OD,JX,(JY,(),GO),((),Ar),(),(),OE),CI,Af,Fa,Bk,Dm,Bn))
    else none
   else
    some ((((),()),(Aq,OD,JX,(JY,(),GO),((),Ar),(),(),OE),CI,Af,Fa,Bk,Dm,Ag))
  else none
def Wh.L0 (x:((Unit)×(Unit)×(Unit)×(Unit)×(Int))×(((Bool)×((Int)×((List UInt8)×(((Int)×((Unit)×(Unit)))×(((Unit)×((Int)×(Unit)))×((Unit)×((Unit)×(Unit))))))))×(an.D)×(fT.D)×(cr.D)×(List (an.D))×(List (e_.D))×(List (eA.D))×(List (cr.D)))):(((Unit)×(Unit))×(((Bool)×((Int)×((List UInt8)×(((Int)×((Unit)×(Unit)))×(((Unit)×((Int)×(Unit)))×((Unit)×((Unit)×(Unit))))))))×(an.D)×(fT.D)×(List (an.D))×(List (e_.D))×(List (eA.D))×(List (cr.D)))):=match Wh.q11 x with | some y=>y|none=>default
theorem Wh.Pf (x:((Unit)×(Unit)×(Unit)×(Unit)×(Int))×(((Bool)×((Int)×((List UInt8)×(((Int)×((Unit)×(Unit)))×(((Unit)×((Int)×(Unit)))×((Unit)×((Unit)×(Unit))))))))×(an.D)×(fT.D)×(cr.D)×(List (an.D))×(List (e_.D))×(List (eA.D))×(List (cr.D))))(y:(((Unit)×(Unit))×(((Bool)×((Int)×((List UInt8)×(((Int)×((Unit)×(Unit)))×(((Unit)×((Int)×(Unit)))×((Unit)×((Unit)×(Unit))))))))×(an.D)×(fT.D)×(List (an.D))×(List (e_.D))×(List (eA.D))×(List (cr.D)))))(h:Wh.q11 x=some y):Wh.L0 x=y:=by unfold Wh.L0;rw[h]
def Wh.AK (xs:((Bool)×((Int)×((List UInt8)×(((Int)×((List (an.D))×(Unit)))×(((List (e_.D))×((Int)×(Unit)))×((List (eA.D))×((List (cr.D))×(Unit))))))))×(fT.D)):Option (((List (fT.D)))×(((Bool)×((Int)×((List UInt8)×(((Int)×((List (an.D))×(Unit)))×(((List (e_.D))×((Int)×(Unit)))×((List (eA.D))×((List (cr.D))×(Unit))))))))×Unit)):=
 let ct:=xs.1
 let w_1:=xs.2
 let r_2:=Wh.Mn (ct,w_1.2.1)
 bif iy [nQ (Wh.q19 (ct,w_1.2.1))] then
  let nC:=decide (r_2.1≥0)
  let yq:=bif nC then decide (Prod.fst (Prod.snd (List.getD ((ct.2.2.2.2.2).2.1) (Int.toNat r_2.1) (0,0,0,0,0,0,())))>w_1.2.2.1) else false
  bif iy [!nC || decide (0≤r_2.1),!nC || decide (r_2.1<(↑(List.length ((ct.2.2.2.2.2).2.1)):Int))] then
   bif yq then
    some ([],ct,())
   else
    let xP:=Wh.MG w_1.2.1
    let x9:=Wh.Kh ((ct.2.2.2).1,xP.1,(w_1.2.2.2.2.2).1)
    bif iy [nQ (Wh.CQ ((ct.2.2.2).1,xP.1,(w_1.2.2.2.2.2).1)),nQ (Wh.q96 w_1.2.1)] then
     let yP:=decide (x9.1<0)
     let yU:=bif yP then true else bif decide ((w_1.2.2.2).1>0) then(w_1.2.2.2).1 != Prod.fst (Prod.snd (Prod.snd (List.getD ((ct.2.2.2).1.2.1) (Int.toNat x9.1) (0,[],0,[],())))) else false
     bif iy [!(decide ((w_1.2.2.2).1>0) && !yP) || decide (0≤x9.1),!(decide ((w_1.2.2.2).1>0) && !yP) || decide (x9.1<(↑(List.length ((ct.2.2.2).1.2.1)):Int))] then
      bif yU then
       let Az:=bif nC then decide (Prod.fst (Prod.snd (List.getD ((ct.2.2.2.2.2).2.1) (Int.toNat r_2.1) (0,0,0,0,0,0,())))<w_1.2.2.1) else false
       bif iy [!nC || decide (0≤r_2.1),!nC || decide (r_2.1<(↑(List.length ((ct.2.2.2.2.2).2.1)):Int))] then
        bif Az then
         let yH:=Wh.Ml (ct,r_2.1)
         bif iy [nQ (Wh.q18 (ct,r_2.1))] then
          let OB:List (fT.D):=[(6,w_1.2.1,w_1.2.2.1,(w_1.2.2.2).1,0,[],[],())]
          some (OB,yH.2.1,())
         else none
        else
         let pb_13:List (fT.D):=[(6,w_1.2.1,w_1.2.2.1,(w_1.2.2.2).1,0,[],[],())]
         some (pb_13,ct,())
       else none
      else
       let pb_14:an.D:=List.getD ((ct.2.2.2).1.2.1) (Int.toNat x9.1) (0,[],0,[],())
       bif iy [decide (0≤x9.1),decide (x9.1<(↑(List.length ((ct.2.2.2).1.2.1)):Int))] then
        let x_65:((Unit)×(Unit)×(Unit)×(Unit)×(Int))×(((Bool)×((Int)×((List UInt8)×(((Int)×((Unit)×(Unit)))×(((Unit)×((Int)×(Unit)))×((Unit)×((Unit)×(Unit))))))))×(an.D)×(fT.D)×(cr.D)×(List (an.D))×(List (e_.D))×(List (eA.D))×(List (cr.D))):=(((),(),(),(),r_2.1),(ct.1,ct.2.1,ct.2.2.1,((ct.2.2.2).1.1,(),(ct.2.2.2).1.2.2),((),(ct.2.2.2.2.1).2),(),(),(ct.2.2.2.2.2).2.2),pb_14,w_1,(w_1.2.1,w_1.2.2.1,pb_14.2.2.1,0,0,ct.2.1,()),(ct.2.2.2).1.2.1,(ct.2.2.2.2.1).1,(ct.2.2.2.2.2).1,(ct.2.2.2.2.2).2.1)
        bif nQ (Wh.q11 x_65) then
         let B3:=Wh.L0 x_65
         let pb_67:=B3.2.1.1
         let pb_68:=(B3.2.1.2).1
         let pb_69:=B3.2.1.2.2.1
         let pb_70:=(B3.2.1.2.2.2).1.1
         let pb_71:=(B3.2.1.2.2.2).1.2.2
         let pb_72:=(B3.2.1.2.2.2).2.1.2
         let pb_73:=(B3.2.1.2.2.2).2.2.2.2
         let Od:=B3.2.2.1
         let ls_75:=(B3.2.2.2).1
         let ls_76:=B3.2.2.2.2.1
         let Ce:=(B3.2.2.2.2.2).1
         let GJ:=(B3.2.2.2.2.2).2.1
         let LL:=(B3.2.2.2.2.2).2.2
         let r_80:=Wh.MD (↑(List.length ((Od.2.2.2).1)):Int)
         let AM:=Wh.q47' r_80.1
         let pb_82:List (fT.D):=[(2,ls_75.2.1,ls_75.2.2.1,Od.2.2.1,0,[],AM.1,())]
         let HE:Int:=(↑(List.length ((Od.2.2.2).1)):Int)
         bif iy [nQ (Wh.q47 r_80.1),nQ (Wh.Co HE)] then
          some (pb_82,(pb_67,pb_68,pb_69,(pb_70,ls_76,pb_71),(Ce,pb_72),GJ,LL,pb_73),())
         else none
        else none
       else none
     else none
    else none
  else none
 else none
def Wh.q25':=en Wh.AK
theorem Wh.q25_v:OV Wh.AK Wh.q25':=eB _
def Wh.A7 (xs:(fk.D)×(fT.D)):Option (((fk.D)×(List (fT.D)))×(Unit)):=
 let ct:=xs.1
 let w_1:=xs.2
 let r_2:=Wh.q26' ct
 bif iy [nQ (Wh.q26 ct)] then
  let nC:= !ct.1
  let gd:=Wh.Pv w_1
  let x9:=Wh.Mz w_1.2.1
  let yP:=bif bif nC then true else !gd.1 then true else !x9.1
  bif iy [(!!bif nC then true else !gd.1) || nQ (Wh.q67 w_1.2.1),!!nC || nQ (Wh.G0 w_1)] then
   bif yP then
    some ((r_2.1,[]),())
   else
    bif(w_1.1==1) then
     let zZ:=Wh.q25' (r_2.1,w_1)
     bif iy [nQ (Wh.AK (r_2.1,w_1))] then
      some ((zZ.2.1,zZ.1),())
     else none
    else
     let yH:=Wh.Mn (r_2.1,w_1.2.1)
     bif iy [nQ (Wh.q19 (r_2.1,w_1.2.1))] then
      let xN:=decide (yH.1<0)
      let xR:=bif bif xN then true else Prod.fst (Prod.snd (List.getD ((r_2.1.2.2.2.2).2.2.1) (Int.toNat yH.1) (0,0,0,0,0,0,()))) != w_1.2.2.1 then true else Prod.fst (Prod.snd (Prod.snd (List.getD ((r_2.1.2.2.2.2).2.2.1) (Int.toNat yH.1) (0,0,0,0,0,0,())))) != (w_1.2.2.2).1
      bif iy [(!!bif xN then true else Prod.fst (Prod.snd (List.getD ((r_2.1.2.2.2.2).2.2.1) (Int.toNat yH.1) (0,0,0,0,0,0,()))) != w_1.2.2.1) || decide (0≤yH.1),(!!bif xN then true else Prod.fst (Prod.snd (List.getD ((r_2.1.2.2.2.2).2.2.1) (Int.toNat yH.1) (0,0,0,0,0,0,()))) != w_1.2.2.1) || decide (yH.1<(↑(List.length ((r_2.1.2.2.2.2).2.2.1)):Int)),!!xN || decide (0≤yH.1),!!xN || decide (yH.1<(↑(List.length ((r_2.1.2.2.2.2).2.2.1)):Int))] then
       bif xR then
        some ((r_2.1,[]),())
       else
        bif(w_1.1==4) then
         let yw:Int:=Prod.fst (Prod.snd (Prod.snd (Prod.snd (Prod.snd (List.getD ((r_2.1.2.2.2.2).2.2.1) (Int.toNat yH.1) (0,0,0,0,0,0,()))))))
         let ov:=bif decide (w_1.2.2.2.2.1>yw) then decide (w_1.2.2.2.2.1≤3) else false
         bif iy [decide (0≤yH.1),decide (yH.1<(↑(List.length ((r_2.1.2.2.2.2).2.2.1)):Int))] then
          bif ov then
           let Eb:List (cr.D):=List.set ((r_2.1.2.2.2.2).2.2.1) (Int.toNat yH.1) (Prod.fst (List.getD ((r_2.1.2.2.2.2).2.2.1) (Int.toNat yH.1) (0,0,0,0,0,0,())),Prod.fst (Prod.snd (List.getD ((r_2.1.2.2.2.2).2.2.1) (Int.toNat yH.1) (0,0,0,0,0,0,()))),Prod.fst (Prod.snd (Prod.snd (List.getD ((r_2.1.2.2.2.2).2.2.1) (Int.toNat yH.1) (0,0,0,0,0,0,())))),Prod.fst (Prod.snd (Prod.snd (Prod.snd (List.getD ((r_2.1.2.2.2.2).2.2.1) (Int.toNat yH.1) (0,0,0,0,0,0,()))))),w_1.2.2.2.2.1,Prod.snd (Prod.snd (Prod.snd (Prod.snd (Prod.snd (List.getD ((r_2.1.2.2.2.2).2.2.1) (Int.toNat yH.1) (0,0,0,0,0,0,())))))))
           bif iy [decide (0≤yH.1),decide (yH.1<(↑(List.length ((r_2.1.2.2.2.2).2.2.1)):Int))] then
            some (((r_2.1.1,r_2.1.2.1,(r_2.1.2.2).1,r_2.1.2.2.2.1,(r_2.1.2.2.2.2).1,(r_2.1.2.2.2.2).2.1,Eb,(r_2.1.2.2.2.2).2.2.2),[]),())
           else none
          else
           some ((r_2.1,[]),())
         else none
        else
         bif(w_1.1==5) then
          let zm:=Wh.Ml (r_2.1,yH.1)
          bif iy [nQ (Wh.q18 (r_2.1,yH.1))] then
           some ((zm.2.1,[]),())
          else none
         else
          some ((r_2.1,[]),())
      else none
     else none
  else none
 else none
def Wh.q24':=en Wh.A7
theorem Wh.Mq:OV Wh.A7 Wh.q24':=eB _
def Wh.DD (xs:(fk.D)×(fT.D)):Option (((fk.D)×(List (fT.D)))×(Unit)):=
 let ct:=xs.1
 let w_1:=xs.2
 let r_2:=Wh.q66' ct
 bif iy [nQ (Wh.q66 ct)] then
  bif !r_2.1 then
   some (((false,0,[],(0,[],()),([],0,()),[],[],()),[]),())
  else
   let r_3:=Wh.q24' (ct,w_1)
   bif iy [nQ (Wh.A7 (ct,w_1))] then
    some (r_3.1,())
   else none
 else none
def Wh.q33':=en Wh.DD
theorem Wh.q33_v:OV Wh.DD Wh.q33':=eB _
def Wh.IA (xs:(fT.D)×(fT.D)):Option (((Bool))×(Unit)):=
 let cx:=xs.1
 let b_1:=xs.2
 bif(cx.1 != b_1.1) then
  some (false,())
 else
  bif(cx.2.1 != b_1.2.1) then
   some (false,())
  else
   bif(cx.2.2.1 != b_1.2.2.1) then
    some (false,())
   else
    let x6:Bool:=(cx.2.2.2).1 != (b_1.2.2.2).1
    bif x6 then
     some (false,())
    else
     bif(cx.2.2.2.2.1 != b_1.2.2.2.2.1) then
      some (false,())
     else
      bif(!(cx.2.2.2.2.2).1==(b_1.2.2.2.2.2).1) then
       some (false,())
      else
       bif(!(cx.2.2.2.2.2).2.1==(b_1.2.2.2.2.2).2.1) then
        some (false,())
       else
        some (true,())
def Wh.L7:=en Wh.IA
theorem Wh.q132_v:OV Wh.IA Wh.L7:=eB _
abbrev Wh.OO:Type:=((Int)×(List (fT.D))×(List (fT.D)))×(Unit)
abbrev Wh.acB:Type:=((((Bool))×(Unit))⊕((Unit)×(Unit)))
def Wh.GR (x:Wh.OO):Option (Wh.OO⊕Wh.acB):=
 let nE:=x.1.1
 let zQ:=x.1.2.1
 let zP:=x.1.2.2
 let x5:Int:=(↑(List.length zP):Int)
 bif decide (nE<x5) then
  let ov:=List.getD zP (Int.toNat nE) (0,0,0,0,0,[],[],())
  let xO:=List.getD zQ (Int.toNat nE) (0,0,0,0,0,[],[],())
  let zm:=Wh.L7 (ov,xO)
  bif iy [nQ (Wh.IA (ov,xO)),decide (0≤nE),decide (nE<(↑(List.length zQ):Int)),decide (0≤nE),decide (nE<x5)] then
   bif !zm.1 then
    some (.inr (.inl (false,())))
   else
    some (.inl (((IntKind.wrap .i64 (nE+1)),zQ,zP),()))
  else none
 else
  some (.inr (.inr ((),())))
def Wh.WY:(((Bool))×(Unit))⊕((Unit)×(Unit)):=.inl default
def Wh.Fh (xs:(List (fT.D))×(List (fT.D))):Option (((Bool))×(Unit)):=
 let cx:=xs.1
 let b_1:=xs.2
 let v_2:Int:=(↑(List.length cx):Int)
 let nC:Int:=(↑(List.length b_1):Int)
 let yq:=v_2 != nC
 bif yq then
  some (false,())
 else
  let x_25:Wh.OO:=((0,b_1,cx),())
  bif lF Wh.GR x_25 then
   sumC (kG Wh.GR Wh.WY x_25) (fun Aa=>
    let nG:=Aa.1
    some (nG,())) (fun _=>
    some (true,()))
  else none
def Wh.ON:=en Wh.Fh
theorem Wh.WZ:OV Wh.Fh Wh.ON:=eB _
abbrev Wh.Q8:Type:=((Int)×(Unit)×(Int))×((List (fT.D)))
abbrev Wh.adu:Type:=((((Int))×((List (fT.D)))))
def Wh.FO (x:Wh.Q8):Option (Wh.Q8⊕Wh.adu):=
 let w9:=x.1.1
 let k_25:=x.1.2.2
 let Dp:=x.2
 let AA:Int:=(↑(List.length Dp):Int)
 bif decide (w9<AA) then
  let yx:=List.set Dp (Int.toNat w9) (k_25,Prod.snd (List.getD Dp (Int.toNat w9) (0,0,0,0,0,[],[],())))
  bif iy [decide (0≤w9),decide (w9<AA)] then
   let yy:=IntKind.wrap .i64 (k_25+1)
   let tn:=List.set yx (Int.toNat w9) (Prod.fst (List.getD yx (Int.toNat w9) (0,0,0,0,0,[],[],())),yy,Prod.snd (Prod.snd (List.getD yx (Int.toNat w9) (0,0,0,0,0,[],[],()))))
   bif iy [decide (0≤w9),decide (w9<(↑(List.length yx):Int))] then
    let z_:=IntKind.wrap .i64 (yy+1)
    let xT:=List.set tn (Int.toNat w9) (Prod.fst (List.getD tn (Int.toNat w9) (0,0,0,0,0,[],[],())),Prod.fst (Prod.snd (List.getD tn (Int.toNat w9) (0,0,0,0,0,[],[],()))),z_,Prod.snd (Prod.snd (Prod.snd (List.getD tn (Int.toNat w9) (0,0,0,0,0,[],[],())))))
    bif iy [decide (0≤w9),decide (w9<(↑(List.length tn):Int))] then
     let y6:=IntKind.wrap .i64 (z_+1)
     let BN:=List.set xT (Int.toNat w9) (Prod.fst (List.getD xT (Int.toNat w9) (0,0,0,0,0,[],[],())),Prod.fst (Prod.snd (List.getD xT (Int.toNat w9) (0,0,0,0,0,[],[],()))),Prod.fst (Prod.snd (Prod.snd (List.getD xT (Int.toNat w9) (0,0,0,0,0,[],[],())))),y6,Prod.snd (Prod.snd (Prod.snd (Prod.snd (List.getD xT (Int.toNat w9) (0,0,0,0,0,[],[],()))))))
     bif iy [decide (0≤w9),decide (w9<(↑(List.length xT):Int))] then
      let xW:=IntKind.wrap .i64 (y6+1)
      let Ch:=List.set BN (Int.toNat w9) (Prod.fst (List.getD BN (Int.toNat w9) (0,0,0,0,0,[],[],())),Prod.fst (Prod.snd (List.getD BN (Int.toNat w9) (0,0,0,0,0,[],[],()))),Prod.fst (Prod.snd (Prod.snd (List.getD BN (Int.toNat w9) (0,0,0,0,0,[],[],())))),Prod.fst (Prod.snd (Prod.snd (Prod.snd (List.getD BN (Int.toNat w9) (0,0,0,0,0,[],[],()))))),xW,Prod.snd (Prod.snd (Prod.snd (Prod.snd (Prod.snd (List.getD BN (Int.toNat w9) (0,0,0,0,0,[],[],())))))))
      bif iy [decide (0≤w9),decide (w9<(↑(List.length BN):Int))] then
       let zN:=IntKind.wrap .i64 (xW+1)
       let AL:=Wh.CU zN
       let Ed:=List.set Ch (Int.toNat w9) (Prod.fst (List.getD Ch (Int.toNat w9) (0,0,0,0,0,[],[],())),Prod.fst (Prod.snd (List.getD Ch (Int.toNat w9) (0,0,0,0,0,[],[],()))),Prod.fst (Prod.snd (Prod.snd (List.getD Ch (Int.toNat w9) (0,0,0,0,0,[],[],())))),Prod.fst (Prod.snd (Prod.snd (Prod.snd (List.getD Ch (Int.toNat w9) (0,0,0,0,0,[],[],()))))),Prod.fst (Prod.snd (Prod.snd (Prod.snd (Prod.snd (List.getD Ch (Int.toNat w9) (0,0,0,0,0,[],[],())))))),AL.1,Prod.snd (Prod.snd (Prod.snd (Prod.snd (Prod.snd (Prod.snd (List.getD Ch (Int.toNat w9) (0,0,0,0,0,[],[],()))))))))
       bif iy [decide (0≤w9),decide (w9<(↑(List.length Ch):Int)),nQ (Wh.A8 zN)] then
        let C0:=IntKind.wrap .i64 (zN+1)
        let Hs:=Wh.CU C0
        let JX:=List.set Ed (Int.toNat w9) (Prod.fst (List.getD Ed (Int.toNat w9) (0,0,0,0,0,[],[],())),Prod.fst (Prod.snd (List.getD Ed (Int.toNat w9) (0,0,0,0,0,[],[],()))),Prod.fst (Prod.snd (Prod.snd (List.getD Ed (Int.toNat w9) (0,0,0,0,0,[],[],())))),Prod.fst (Prod.snd (Prod.snd (Prod.snd (List.getD Ed (Int.toNat w9) (0,0,0,0,0,[],[],()))))),Prod.fst (Prod.snd (Prod.snd (Prod.snd (Prod.snd (List.getD Ed (Int.toNat w9) (0,0,0,0,0,[],[],())))))),Prod.fst (Prod.snd (Prod.snd (Prod.snd (Prod.snd (Prod.snd (List.getD Ed (Int.toNat w9) (0,0,0,0,0,[],[],()))))))),Hs.1,Prod.snd (Prod.snd (Prod.snd (Prod.snd (Prod.snd (Prod.snd (Prod.snd (List.getD Ed (Int.toNat w9) (0,0,0,0,0,[],[],())))))))))
        bif iy [decide (0≤w9),decide (w9<(↑(List.length Ed):Int)),nQ (Wh.A8 C0)] then
         some (.inl (((IntKind.wrap .i64 (w9+1)),(),(IntKind.wrap .i64 (C0+1))),JX))
        else none
       else none
      else none
     else none
    else none
   else none
  else none
 else
  some (.inr (k_25,Dp))
def Wh.Yu:(((Int))×((List (fT.D)))):=default
def Wh.q55 (xs:(List (fT.D))×(Int)):Option (((Int))×((List (fT.D))×Unit)):=
 let cx:=xs.1
 let k_1:=xs.2
 let x_46:Wh.Q8:=((0,(),k_1),cx)
 bif lF Wh.FO x_46 then
  let y_47:=kG Wh.FO Wh.Yu x_46
  let k_48:=y_47.1
  let pb_49:=y_47.2
  some (k_48,pb_49,())
 else none
def Wh.q55':=en Wh.q55
theorem Wh.q55_v:OV Wh.q55 Wh.q55':=eB _
abbrev Wh.Q6:Type:=((Int)×(List (fT.D))×(Int))×(Unit)
abbrev Wh.ads:Type:=((((Int))×(Unit))⊕(((Int))×(Unit)))
def Wh.FM (x:Wh.Q6):Option (Wh.Q6⊕Wh.ads):=
 let x_:=x.1.1
 let a_26:=x.1.2.1
 let k_27:=x.1.2.2
 let nG:Int:=(↑(List.length a_26):Int)
 bif decide (x_<nG) then
  let yy:=List.getD a_26 (Int.toNat x_) (0,0,0,0,0,[],[],())
  bif iy [decide (0≤x_),decide (x_<nG)] then
   bif(yy.1 != k_27) then
    some (.inr (.inl (-1,())))
   else
    let z_:=IntKind.wrap .i64 (k_27+1)
    bif iy [decide (0≤x_),decide (x_<nG)] then
     bif(yy.2.1 != z_) then
      some (.inr (.inl (-1,())))
     else
      let y6:=IntKind.wrap .i64 (z_+1)
      bif iy [decide (0≤x_),decide (x_<nG)] then
       bif(yy.2.2.1 != y6) then
        some (.inr (.inl (-1,())))
       else
        let xW:=IntKind.wrap .i64 (y6+1)
        let F5:Bool:=(yy.2.2.2).1 != xW
        bif iy [decide (0≤x_),decide (x_<nG)] then
         bif F5 then
          some (.inr (.inl (-1,())))
         else
          let zN:=IntKind.wrap .i64 (xW+1)
          bif iy [decide (0≤x_),decide (x_<nG)] then
           bif(yy.2.2.2.2.1 != zN) then
            some (.inr (.inl (-1,())))
           else
            let zC:=IntKind.wrap .i64 (zN+1)
            let z7:=Wh.CU zC
            bif iy [nQ (Wh.A8 zC),decide (0≤x_),decide (x_<nG)] then
             bif(!(yy.2.2.2.2.2).1==z7.1) then
              some (.inr (.inl (-1,())))
             else
              let DP:=IntKind.wrap .i64 (zC+1)
              let Ht:=Wh.CU DP
              bif iy [nQ (Wh.A8 DP),decide (0≤x_),decide (x_<nG)] then
               bif(!(yy.2.2.2.2.2).2.1==Ht.1) then
                some (.inr (.inl (-1,())))
               else
                some (.inl (((IntKind.wrap .i64 (x_+1)),a_26,(IntKind.wrap .i64 (DP+1))),()))
              else none
            else none
          else none
        else none
      else none
    else none
  else none
 else
  some (.inr (.inr (k_27,())))
def Wh.Yr:(((Int))×(Unit))⊕(((Int))×(Unit)):=.inl default
def Wh.q53 (xs:(List (fT.D))×(Int)):Option (((Int))×(Unit)):=
 let cx:=xs.1
 let k_1:=xs.2
 let BA:Wh.Q6:=((0,cx,k_1),())
 bif lF Wh.FM BA then
  sumC (kG Wh.FM Wh.Yr BA) (fun AP=>
   let AO:=AP.1
   some (AO,())) (fun M_=>
   let k_52:=M_.1
   some (k_52,()))
 else none
def Wh.q53':=en Wh.q53
theorem Wh.q53_v:OV Wh.q53 Wh.q53':=eB _
def Wh.Km (xs:(fk.D)×(fT.D)):Option (((Bool))×(Unit)):=
 let Gf:=xs.1
 let HK:=xs.2
 let r_2:=Wh.q81' (Gf,1048576)
 bif iy [nQ (Wh.q81 (Gf,1048576))] then
  bif decide (r_2.1<0) then
   some (true,())
  else
   let gd:=Wh.PC (HK,r_2.1)
   bif iy [nQ (Wh.ID (HK,r_2.1))] then
    bif decide (gd.1<0) then
     some (true,())
    else
     let xe:=Wh.q85' Gf
     let x9:=Wh.PF HK
     let r5:=Wh.q40' (xe.1,x9.1)
     bif iy [nQ (Wh.EA (xe.1,x9.1)),nQ (Wh.G1 HK),nQ (Wh.EL Gf)] then
      bif iy [nQ (Wh.EL Gf)] then
       let gv:=Wh.q33' (xe.1,x9.1)
       bif iy [nQ (Wh.DD (xe.1,x9.1)),nQ (Wh.G1 HK)] then
        let Ky:=Wh.MB ((gv.1.1.1,(gv.1.1.2).1,gv.1.1.2.2.1,((gv.1.1.2.2.2).1.1,(gv.1.1.2.2.2).1.2.1,(gv.1.1.2.2.2).1.2.2),((gv.1.1.2.2.2).2.1.1,(gv.1.1.2.2.2).2.1.2),(gv.1.1.2.2.2).2.2.1,(gv.1.1.2.2.2).2.2.2.1,(gv.1.1.2.2.2).2.2.2.2),r5.1.1.1,(r5.1.1.2).1,r5.1.1.2.2.1,(r5.1.1.2.2.2).1,(r5.1.1.2.2.2).2.1,(r5.1.1.2.2.2).2.2.1,(r5.1.1.2.2.2).2.2.2.1,(r5.1.1.2.2.2).2.2.2.2)
        let r_72:=Wh.ON (gv.1.2,r5.1.2)
        let v_73:=bif !Ky.1 then true else !r_72.1
        bif iy [!!!Ky.1 || nQ (Wh.Fh (gv.1.2,r5.1.2)),nQ (Wh.DG ((gv.1.1.1,(gv.1.1.2).1,gv.1.1.2.2.1,((gv.1.1.2.2.2).1.1,(gv.1.1.2.2.2).1.2.1,(gv.1.1.2.2.2).1.2.2),((gv.1.1.2.2.2).2.1.1,(gv.1.1.2.2.2).2.1.2),(gv.1.1.2.2.2).2.2.1,(gv.1.1.2.2.2).2.2.2.1,(gv.1.1.2.2.2).2.2.2.2),r5.1.1.1,(r5.1.1.2).1,r5.1.1.2.2.1,(r5.1.1.2.2.2).1,(r5.1.1.2.2.2).2.1,(r5.1.1.2.2.2).2.2.1,(r5.1.1.2.2.2).2.2.2.1,(r5.1.1.2.2.2).2.2.2.2))] then
         bif v_73 then
          some (false,())
         else
          let r_75:=Wh.MB (xe.1,xe.1)
          bif iy [nQ (Wh.DG (xe.1,xe.1)),nQ (Wh.EL Gf)] then
           bif !r_75.1 then
            some (false,())
           else
            let r_76:=Wh.Ms (xe.1,1)
            bif iy [nQ (Wh.q39 (xe.1,1))] then
             let v_77:=decide (r_76.1<0)
             let v_80:=bif bif v_77 then true else !Ky.1 then true else !r_72.1
             bif iy [(!!bif v_77 then true else !Ky.1) || nQ (Wh.Fh (gv.1.2,r5.1.2)),!!v_77 || nQ (Wh.DG ((gv.1.1.1,(gv.1.1.2).1,gv.1.1.2.2.1,((gv.1.1.2.2.2).1.1,(gv.1.1.2.2.2).1.2.1,(gv.1.1.2.2.2).1.2.2),((gv.1.1.2.2.2).2.1.1,(gv.1.1.2.2.2).2.1.2),(gv.1.1.2.2.2).2.2.1,(gv.1.1.2.2.2).2.2.2.1,(gv.1.1.2.2.2).2.2.2.2),r5.1.1.1,(r5.1.1.2).1,r5.1.1.2.2.1,(r5.1.1.2.2.2).1,(r5.1.1.2.2.2).2.1,(r5.1.1.2.2.2).2.2.1,(r5.1.1.2.2.2).2.2.2.1,(r5.1.1.2.2.2).2.2.2.2))] then
              bif v_80 then
               some (false,())
              else
               let AM:=Wh.Ms ((gv.1.1.1,(gv.1.1.2).1,gv.1.1.2.2.1,((gv.1.1.2.2.2).1.1,(gv.1.1.2.2.2).1.2.1,(gv.1.1.2.2.2).1.2.2),((gv.1.1.2.2.2).2.1.1,(gv.1.1.2.2.2).2.1.2),(gv.1.1.2.2.2).2.2.1,(gv.1.1.2.2.2).2.2.2.1,(gv.1.1.2.2.2).2.2.2.2),1)
               bif iy [nQ (Wh.q39 ((gv.1.1.1,(gv.1.1.2).1,gv.1.1.2.2.1,((gv.1.1.2.2.2).1.1,(gv.1.1.2.2.2).1.2.1,(gv.1.1.2.2.2).1.2.2),((gv.1.1.2.2.2).2.1.1,(gv.1.1.2.2.2).2.1.2),(gv.1.1.2.2.2).2.2.1,(gv.1.1.2.2.2).2.2.2.1,(gv.1.1.2.2.2).2.2.2.2),1))] then
                let I7:=Wh.q55' (gv.1.2,AM.1)
                bif iy [nQ (Wh.q55 (gv.1.2,AM.1))] then
                 let MM:=Wh.q36' ((gv.1.1.1,(gv.1.1.2).1,gv.1.1.2.2.1,((gv.1.1.2.2.2).1.1,(AM.2.1.2.2.2).1.2.1,(gv.1.1.2.2.2).1.2.2),((AM.2.1.2.2.2).2.1.1,(gv.1.1.2.2.2).2.1.2),(AM.2.1.2.2.2).2.2.1,(AM.2.1.2.2.2).2.2.2.1,(gv.1.1.2.2.2).2.2.2.2),1)
                 bif iy [nQ (Wh.q36 ((gv.1.1.1,(gv.1.1.2).1,gv.1.1.2.2.1,((gv.1.1.2.2.2).1.1,(AM.2.1.2.2.2).1.2.1,(gv.1.1.2.2.2).1.2.2),((AM.2.1.2.2.2).2.1.1,(gv.1.1.2.2.2).2.1.2),(AM.2.1.2.2.2).2.2.1,(AM.2.1.2.2.2).2.2.2.1,(gv.1.1.2.2.2).2.2.2.2),1))] then
                  let v_84:=decide (MM.1<0)
                  bif v_84 then
                   some (false,())
                  else
                   let MN:=Wh.q53' (I7.2.1,MM.1)
                   bif iy [nQ (Wh.q53 (I7.2.1,MM.1))] then
                    let DQ:=decide (MN.1<0)
                    bif DQ then
                     some (false,())
                    else
                     let v_87:=MN.1 != I7.1
                     bif v_87 then
                      some (false,())
                     else
                      bif iy [nQ (Wh.DD (xe.1,x9.1)),nQ (Wh.G1 HK),nQ (Wh.EL Gf)] then
                       bif iy [!!!Ky.1 || nQ (Wh.Fh (gv.1.2,r5.1.2)),nQ (Wh.DG ((gv.1.1.1,(gv.1.1.2).1,gv.1.1.2.2.1,((gv.1.1.2.2.2).1.1,(gv.1.1.2.2.2).1.2.1,(gv.1.1.2.2.2).1.2.2),((gv.1.1.2.2.2).2.1.1,(gv.1.1.2.2.2).2.1.2),(gv.1.1.2.2.2).2.2.1,(gv.1.1.2.2.2).2.2.2.1,(gv.1.1.2.2.2).2.2.2.2),r5.1.1.1,(r5.1.1.2).1,r5.1.1.2.2.1,(r5.1.1.2.2.2).1,(r5.1.1.2.2.2).2.1,(r5.1.1.2.2.2).2.2.1,(r5.1.1.2.2.2).2.2.2.1,(r5.1.1.2.2.2).2.2.2.2))] then
                        bif v_73 then
                         some (false,())
                        else
                         bif iy [nQ (Wh.q36 ((gv.1.1.1,(gv.1.1.2).1,gv.1.1.2.2.1,((gv.1.1.2.2.2).1.1,(AM.2.1.2.2.2).1.2.1,(gv.1.1.2.2.2).1.2.2),((AM.2.1.2.2.2).2.1.1,(gv.1.1.2.2.2).2.1.2),(AM.2.1.2.2.2).2.2.1,(AM.2.1.2.2.2).2.2.2.1,(gv.1.1.2.2.2).2.2.2.2),1))] then
                          bif v_84 then
                           some (false,())
                          else
                           bif iy [nQ (Wh.q53 (I7.2.1,MM.1))] then
                            bif DQ then
                             some (false,())
                            else
                             bif v_87 then
                              some (false,())
                             else
                              some (true,())
                           else none
                         else none
                       else none
                      else none
                   else none
                 else none
                else none
               else none
             else none
            else none
          else none
        else none
       else none
      else none
     else none
   else none
 else none
def Wh.q9':=en Wh.Km
end
