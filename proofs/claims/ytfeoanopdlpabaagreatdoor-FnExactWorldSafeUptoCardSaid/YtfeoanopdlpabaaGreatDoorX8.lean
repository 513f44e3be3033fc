import Derived.Test.YtfeoanopdlpabaaGreatDoorX7
open Go Go.Ab
noncomputable section
abbrev Wh.Vj:Type:=((Int)×(Int)×(List (r5.D)))×(Unit)
abbrev Wh.aio:Type:=((((Int))×(Unit))⊕(((Int))×(Unit)))
def Wh.FA (x:Wh.Vj):Option (Wh.Vj⊕Wh.aio):=
 let xN:=x.1.1
 let AL:=x.1.2.1
 let AG:=x.1.2.2
 let nG:Int:=(↑(List.length AG):Int)
 bif decide (xN<nG) then
  let wX:=List.getD AG (Int.toNat xN) (0,[],false,())
  let x9:=Wh.q65' (wX,AL)
  bif iy [nQ (Wh.q65 (wX,AL)),decide (0≤xN),decide (xN<nG)] then
   bif decide (x9.1<0) then
    some (.inr (.inl (-1,())))
   else
    some (.inl (((IntKind.wrap .i64 (xN+1)),x9.1,AG),()))
  else none
 else
  some (.inr (.inr (AL,())))
def Wh.Vk:(((Int))×(Unit))⊕(((Int))×(Unit)):=.inl default
def Wh.q36 (xs:(List (r5.D))×(Int)):Option (((Int))×(Unit)):=
 let bn:=xs.1
 let left_1:=xs.2
 let v_2:Int:=(↑(List.length bn):Int)
 let yj:=IntKind.wrap .i64 (left_1-v_2)
 bif decide (yj<0) then
  some (-1,())
 else
  let Aq:Wh.Vj:=((0,yj,bn),())
  bif lF Wh.FA Aq then
   sumC (kG Wh.FA Wh.Vk Aq) (fun BD=>
    let y4:=BD.1
    some (y4,())) (fun EI=>
    let Gt:=EI.1
    some (Gt,()))
  else none
def Wh.q36':=bx Wh.q36
theorem Wh.q36_v:OV Wh.q36 Wh.q36':=e_ _
def Wh.GC (xs:(gv.D)×(Int)):Option (((Int))×(Unit)):=
 let bn:=xs.1
 let left_1:=xs.2
 let r_2:=Wh.q67' (bn.1,left_1)
 bif iy [nQ (Wh.q67 (bn.1,left_1))] then
  bif decide (r_2.1<0) then
   some (-1,())
  else
   let nE:=Wh.q34' (bn.2.1,r_2.1)
   bif iy [nQ (Wh.q34 (bn.2.1,r_2.1))] then
    bif decide (nE.1<0) then
     some (-1,())
    else
     let yG:=Wh.q36' (bn.2.2.1,nE.1)
     bif iy [nQ (Wh.q36 (bn.2.2.1,nE.1))] then
      bif decide (yG.1<0) then
       some (-1,())
      else
       let yJ:=Wh.Pj ((bn.2.2.2).1,yG.1)
       bif iy [nQ (Wh.q99 ((bn.2.2.2).1,yG.1))] then
        bif decide (yJ.1<0) then
         some (-1,())
        else
         some (yJ.1,())
       else none
     else none
   else none
 else none
def Wh.Tg:=bx Wh.GC
theorem Wh.aan:OV Wh.GC Wh.Tg:=e_ _
abbrev Wh.TX:Type:=((Int)×(List (Int))×(Unit))×((List (Int)))
abbrev Wh.ahJ:Type:=((((Unit))×((List (Int)))))
def Wh.Fc (x:Wh.TX):Option (Wh.TX⊕Wh.ahJ):=
 let yp:=x.1.1
 let a_10:=x.1.2.1
 let Ax:=x.2
 let yu:=decide (yp<(↑(List.length a_10):Int))
 bif yu then
  let EW:=List.set Ax (Int.toNat yp) (List.getD a_10 (Int.toNat yp) 0)
  bif iy [decide (0≤yp),decide (yp<(↑(List.length Ax):Int)),decide (0≤yp),yu] then
   some (.inl (((IntKind.wrap .i64 (yp+1)),a_10,()),EW))
  else none
 else
  some (.inr ((),Ax))
def Wh.aaU:(((Unit))×((List (Int)))):=default
def Wh.DL (xs:(List (Int))):Option (((List (Int)))×(Unit)):=
 let bn:=xs
 let zf:List Int:=List.replicate (Int.toNat (↑(List.length bn):Int)) 0
 bif iy [decide (0≤(↑(List.length bn):Int)),decide ((↑(List.length bn):Int)≤(↑(List.length bn):Int)),decide ((↑(List.length bn):Int)≤(↑dh:Int))] then
  let x_16:Wh.TX:=((0,bn,()),zf)
  bif lF Wh.Fc x_16 then
   let Lf:=kG Wh.Fc Wh.aaU x_16
   let xb:=Lf.2
   some (xb,())
  else none
 else none
def Wh.Kh:=bx Wh.DL
theorem Wh.OE:OV Wh.DL Wh.Kh:=e_ _
def Wh.GW (xs:(so.D)):Option ((((Int)×((Int)×((List (Int))×((List (Int))×(Unit))))))×(Unit)):=
 let bn:so.D:=xs
 let r_1:=Wh.Kh (bn.2.2.1)
 bif iy [nQ (Wh.DL (bn.2.2.1))] then
  let r_2:=Wh.Kh ((bn.2.2.2).1)
  bif iy [nQ (Wh.DL ((bn.2.2.2).1))] then
   some ((bn.1,bn.2.1,r_1.1,r_2.1,()),())
  else none
 else none
def Wh.TZ:=bx Wh.GW
theorem Wh.aaW:OV Wh.GW Wh.TZ:=e_ _
def Wh.Hs (xs:(n4.D)):Option ((((List (Int))×(Ey.D)))×(Unit)):=
 let bn:=xs
 let r_1:=Wh.Kh bn.1
 bif iy [nQ (Wh.DL bn.1)] then
  some ((r_1.1,bn.2.1,()),())
 else none
def Wh.U5:=bx Wh.Hs
theorem Wh.abH:OV Wh.Hs Wh.U5:=e_ _
abbrev Wh.UF:Type:=((Int)×(List (n4.D))×(Unit))×((List (n4.D)))
abbrev Wh.ahZ:Type:=((((Unit))×((List (n4.D)))))
def Wh.Fk (x:Wh.UF):Option (Wh.UF⊕Wh.ahZ):=
 let nS:=x.1.1
 let x4:=x.1.2.1
 let xV:=x.2
 let xO:Int:=(↑(List.length x4):Int)
 bif decide (nS<xO) then
  let Ak:=Wh.U5 (List.getD x4 (Int.toNat nS) ([],[],()))
  let xb:=List.set xV (Int.toNat nS) Ak.1
  let nG:=List.getD x4 (Int.toNat nS) ([],[],())
  bif iy [decide (0≤nS),decide (nS<(↑(List.length xV):Int)),nQ (Wh.Hs nG),decide (0≤nS),decide (nS<xO)] then
   some (.inl (((IntKind.wrap .i64 (nS+1)),x4,()),xb))
  else none
 else
  some (.inr ((),xV))
def Wh.abm:(((Unit))×((List (n4.D)))):=default
def Wh.He (xs:(List (n4.D))):Option (((List (n4.D)))×(Unit)):=
 let bn:=xs
 let zf:List (n4.D):=@List.replicate (List Int×List UInt8×Unit) (Int.toNat (↑(List.length bn):Int)) ([],[],())
 let v_2:Int:=(↑(List.length bn):Int)
 bif iy [decide (0≤v_2),decide (v_2≤v_2),decide (v_2≤(↑dh:Int))] then
  let x_21:Wh.UF:=((0,bn,()),zf)
  bif lF Wh.Fk x_21 then
   let AU:=kG Wh.Fk Wh.abm x_21
   let zo:=AU.2
   some (zo,())
  else none
 else none
def Wh.UE:=bx Wh.He
theorem Wh.abn:OV Wh.He Wh.UE:=e_ _
def Wh.q75 (xs:(fT.D)):Option ((((Int)×((Int)×((List (n4.D))×(Unit)))))×(Unit)):=
 let bn:=xs
 let r_1:=Wh.UE (bn.2.2.1)
 bif iy [nQ (Wh.He (bn.2.2.1))] then
  some ((bn.1,bn.2.1,r_1.1,()),())
 else none
def Wh.q75':=bx Wh.q75
theorem Wh.q75_v:OV Wh.q75 Wh.q75':=e_ _
def Wh.q39 (xs:(th.D)):Option (((((Int)×((Int)×((List (Int))×((List (Int))×(Unit)))))×(((Int)×((Int)×((List (n4.D))×(Unit))))×(Unit))))×(Unit)):=
 let bn:=xs
 let r_1:=Wh.TZ bn.1
 bif iy [nQ (Wh.GW bn.1)] then
  let r_2:=Wh.q75' bn.2.1
  bif iy [nQ (Wh.q75 bn.2.1)] then
   some ((r_1.1,r_2.1,()),())
  else none
 else none
def Wh.q39':=bx Wh.q39
theorem Wh.q39_v:OV Wh.q39 Wh.q39':=e_ _
def Wh.q70 (xs:(nc.D)):Option ((((Int)×((Int)×((Int)×((List UInt8)×((Int)×((((Int)×((Int)×((List (Int))×((List (Int))×(Unit)))))×(((Int)×((Int)×((List (n4.D))×(Unit))))×(Unit)))×(Unit))))))))×(Unit)):=
 let bn:=xs
 let r_1:=Wh.q39' ((bn.2.2.2.2.2).1)
 bif iy [nQ (Wh.q39 ((bn.2.2.2.2.2).1))] then
  some ((bn.1,bn.2.1,bn.2.2.1,(bn.2.2.2).1,bn.2.2.2.2.1,r_1.1,()),())
 else none
def Wh.q70':=bx Wh.q70
theorem Wh.q70_v:OV Wh.q70 Wh.q70':=e_ _
abbrev Wh.Vm:Type:=((Int)×(List (nc.D))×(Unit))×((List (nc.D)))
abbrev Wh.aiq:Type:=((((Unit))×((List (nc.D)))))
def Wh.FC (x:Wh.Vm):Option (Wh.Vm⊕Wh.aiq):=
 let nS:=x.1.1
 let x4:=x.1.2.1
 let xV:=x.2
 let xO:Int:=(↑(List.length x4):Int)
 bif decide (nS<xO) then
  let Ak:=Wh.q70' (List.getD x4 (Int.toNat nS) (0,0,0,[],0,((0,0,[],[],()),(0,0,[],()),()),()))
  let xb:=List.set xV (Int.toNat nS) Ak.1
  let nG:=List.getD x4 (Int.toNat nS) (0,0,0,[],0,((0,0,[],[],()),(0,0,[],()),()),())
  bif iy [decide (0≤nS),decide (nS<(↑(List.length xV):Int)),nQ (Wh.q70 nG),decide (0≤nS),decide (nS<xO)] then
   some (.inl (((IntKind.wrap .i64 (nS+1)),x4,()),xb))
  else none
 else
  some (.inr ((),xV))
def Wh.abU:(((Unit))×((List (nc.D)))):=default
def Wh.q38 (xs:(List (nc.D))):Option (((List (nc.D)))×(Unit)):=
 let bn:=xs
 let zf:List (nc.D):=@List.replicate (Int×Int×Int×List UInt8×Int×((Int×Int×List Int×List Int×Unit)×(Int×Int×List (List Int×List UInt8×Unit)×Unit)×Unit)×Unit) (Int.toNat (↑(List.length bn):Int)) (0,0,0,[],0,((0,0,[],[],()),(0,0,[],()),()),())
 let v_2:Int:=(↑(List.length bn):Int)
 bif iy [decide (0≤v_2),decide (v_2≤v_2),decide (v_2≤(↑dh:Int))] then
  let x_21:Wh.Vm:=((0,bn,()),zf)
  bif lF Wh.FC x_21 then
   let AU:=kG Wh.FC Wh.abU x_21
   let zo:=AU.2
   some (zo,())
  else none
 else none
def Wh.q38':=bx Wh.q38
theorem Wh.q38_v:OV Wh.q38 Wh.q38':=e_ _
def Wh.q72 (xs:(r5.D)):Option (((r5.D))×(Unit)):=
 let bn:=xs
 some ((bn.1,bn.2.1,bn.2.2.1,()),())
def Wh.q72':=bx Wh.q72
theorem Wh.q72_v:OV Wh.q72 Wh.q72':=e_ _
abbrev Wh.Vo:Type:=((Int)×(List (r5.D))×(Unit))×((List (r5.D)))
abbrev Wh.air:Type:=((((Unit))×((List (r5.D)))))
def Wh.FD (x:Wh.Vo):Option (Wh.Vo⊕Wh.air):=
 let nS:=x.1.1
 let x4:=x.1.2.1
 let xV:=x.2
 let xO:Int:=(↑(List.length x4):Int)
 bif decide (nS<xO) then
  let Ak:=Wh.q72' (List.getD x4 (Int.toNat nS) (0,[],false,()))
  let xb:=List.set xV (Int.toNat nS) Ak.1
  let nG:=List.getD x4 (Int.toNat nS) (0,[],false,())
  bif iy [decide (0≤nS),decide (nS<(↑(List.length xV):Int)),nQ (Wh.q72 nG),decide (0≤nS),decide (nS<xO)] then
   some (.inl (((IntKind.wrap .i64 (nS+1)),x4,()),xb))
  else none
 else
  some (.inr ((),xV))
def Wh.abW:(((Unit))×((List (r5.D)))):=default
def Wh.q40 (xs:(List (r5.D))):Option (((List (r5.D)))×(Unit)):=
 let bn:=xs
 let zf:List (r5.D):=@List.replicate (Int×List UInt8×Bool×Unit) (Int.toNat (↑(List.length bn):Int)) (0,[],false,())
 let v_2:Int:=(↑(List.length bn):Int)
 bif iy [decide (0≤v_2),decide (v_2≤v_2),decide (v_2≤(↑dh:Int))] then
  let x_21:Wh.Vo:=((0,bn,()),zf)
  bif lF Wh.FD x_21 then
   let AU:=kG Wh.FD Wh.abW x_21
   let zo:=AU.2
   some (zo,())
  else none
 else none
def Wh.q40':=bx Wh.q40
theorem Wh.q40_v:OV Wh.q40 Wh.q40':=e_ _
def Wh.DB (xs:(gv.D)):Option (((((Bool)×((Int)×((List UInt8)×(((Int)×((List (an.D))×(Unit)))×(((List (ng.D))×((Int)×(Unit)))×((List (nI.D))×((List (r_.D))×(Unit))))))))×((List (nc.D))×((List (r5.D))×((List (an.D))×(Unit))))))×(Unit)):=
 let bn:=xs
 let r_1:=Wh.q74' bn.1
 bif iy [nQ (Wh.q74 bn.1)] then
  let r_2:=Wh.q38' bn.2.1
  bif iy [nQ (Wh.q38 bn.2.1)] then
   let r_3:=Wh.q40' (bn.2.2.1)
   bif iy [nQ (Wh.q40 (bn.2.2.1))] then
    let nE:=Wh.Ow ((bn.2.2.2).1)
    bif iy [nQ (Wh.E5 ((bn.2.2.2).1))] then
     some ((r_1.1,r_2.1,r_3.1,nE.1,()),())
    else none
   else none
  else none
 else none
def Wh.Tl:=bx Wh.DB
theorem Wh.aar:OV Wh.DB Wh.Tl:=e_ _
abbrev Wh.Tv:Type:=((Int)×(Unit)×(Unit))×((gv.D)×((Int)×((Unit)×(Unit)))×(List (an.D)))
abbrev Wh.ahw:Type:=((((Bool))×(Unit))⊕(((Unit)×(Unit))×((gv.D)×((Int)×((Unit)×(Unit)))×(List (an.D)))))
def Wh.DG (x:Wh.Tv):Option (Wh.Tv⊕Wh.ahw):=
 let xN:=x.1.1
 let xd:=x.2.1
 let xb:=x.2.2.1.1
 let yx:=(x.2.2.1).2.2
 let yN:=x.2.2.2
 let wX:Int:=(↑(List.length yN):Int)
 bif decide (xN<wX) then
  let zM:an.D:=List.getD yN (Int.toNat xN) (0,[],0,[],())
  bif iy [decide (0≤xN),decide (xN<wX)] then
   let yK:Int:=(↑(List.length ((xd.2.2.2).1)):Int)
   let yz:=bif decide (zM.2.2.1≤yK) then !(Prod.fst (List.getD ((xd.2.2.2).1) (Int.toNat (IntKind.wrap .i64 (zM.2.2.1-1))) (0,[],0,[],()))==zM.1&&(Prod.fst (Prod.snd (List.getD ((xd.2.2.2).1) (Int.toNat (IntKind.wrap .i64 (zM.2.2.1-1))) (0,[],0,[],())))==zM.2.1&&(Prod.fst (Prod.snd (Prod.snd (List.getD ((xd.2.2.2).1) (Int.toNat (IntKind.wrap .i64 (zM.2.2.1-1))) (0,[],0,[],()))))==zM.2.2.1&&(Prod.fst (Prod.snd (Prod.snd (Prod.snd (List.getD ((xd.2.2.2).1) (Int.toNat (IntKind.wrap .i64 (zM.2.2.1-1))) (0,[],0,[],())))))==(zM.2.2.2).1&&true)))) else false
   bif iy [!decide (zM.2.2.1≤yK) || decide (0≤IntKind.wrap .i64 (zM.2.2.1-1)),!decide (zM.2.2.1≤yK) || decide (IntKind.wrap .i64 (zM.2.2.1-1)<yK)] then
    bif yz then
     some (.inr (.inl (false,())))
    else
     some (.inl (((IntKind.wrap .i64 (xN+1)),(),()),xd,(xb,(),yx),yN))
   else none
  else none
 else
  some (.inr (.inr (((),()),xd,(xb,(),yx),yN)))
def Wh.aaB:(((Bool))×(Unit))⊕(((Unit)×(Unit))×((gv.D)×((Int)×((Unit)×(Unit)))×(List (an.D)))):=.inl default
def Wh.GH (xs:(gv.D)):Option (((Bool))×(Unit)):=
 let w_0:=xs
 let r_1:=Wh.Kk ((w_0.1.2.2).1)
 bif iy [nQ (Wh.Ch ((w_0.1.2.2).1))] then
  let r_2:=Wh.Ko r_1.1.1
  bif iy [nQ (Wh.CW r_1.1.1)] then
   let F4:Wh.Tv:=((0,(),()),w_0,(r_2.1.1.1,(),r_2.1.1.2.2),(r_2.1.1.2).1)
   bif lF Wh.DG F4 then
    sumC (kG Wh.DG Wh.aaB F4) (fun F8=>
     let v_32:=F8.1
     some (v_32,())) (fun I1=>
     let Ah:=I1.2.1
     let yg:=I1.2.2.1.1
     let EB:Int:=(↑(List.length ((Ah.2.2.2).1)):Int)
     let IT:=Wh.nW (yg,EB,IntKind.wrap .i64 (EB+1))
     bif iy [nQ (Wh.xe (yg,EB,IntKind.wrap .i64 (EB+1)))] then
      some (IT.1,())
     else none)
   else none
  else none
 else none
def Wh.Tu:=bx Wh.GH
theorem Wh.aaC:OV Wh.GH Wh.Tu:=e_ _
abbrev Wh.VU:Type:=((Int)×(Unit))×((gv.D))
abbrev Wh.aiR:Type:=((((Bool))×(Unit))⊕(((Unit))×((gv.D))))
def Wh.El (x:Wh.VU):Option (Wh.VU⊕Wh.aiR):=
 let JU:=x.1.1
 let z8:=x.2
 let AE:Int:=(↑(List.length ((z8.1.2.2.2.1).2.1)):Int)
 bif decide (JU<AE) then
  let Bl:an.D:=List.getD ((z8.1.2.2.2.1).2.1) (Int.toNat JU) (0,[],0,[],())
  bif iy [decide (0≤JU),decide (JU<AE)] then
   let HS:Int:=(↑(List.length ((z8.2.2.2).1)):Int)
   let IW:=bif decide (Bl.2.2.1>HS) then true else !(Prod.fst (List.getD ((z8.2.2.2).1) (Int.toNat (IntKind.wrap .i64 (Bl.2.2.1-1))) (0,[],0,[],()))==Bl.1&&(Prod.fst (Prod.snd (List.getD ((z8.2.2.2).1) (Int.toNat (IntKind.wrap .i64 (Bl.2.2.1-1))) (0,[],0,[],())))==Bl.2.1&&(Prod.fst (Prod.snd (Prod.snd (List.getD ((z8.2.2.2).1) (Int.toNat (IntKind.wrap .i64 (Bl.2.2.1-1))) (0,[],0,[],()))))==Bl.2.2.1&&(Prod.fst (Prod.snd (Prod.snd (Prod.snd (List.getD ((z8.2.2.2).1) (Int.toNat (IntKind.wrap .i64 (Bl.2.2.1-1))) (0,[],0,[],())))))==(Bl.2.2.2).1&&true))))
   bif iy [!!decide (Bl.2.2.1>HS) || decide (0≤IntKind.wrap .i64 (Bl.2.2.1-1)),!!decide (Bl.2.2.1>HS) || decide (IntKind.wrap .i64 (Bl.2.2.1-1)<HS)] then
    bif IW then
     some (.inr (.inl (false,())))
    else
     some (.inl (((IntKind.wrap .i64 (JU+1)),()),z8))
   else none
  else none
 else
  some (.inr (.inr ((),z8)))
def Wh.acp:(((Bool))×(Unit))⊕(((Unit))×((gv.D))):=.inl default
abbrev Wh.VT:Type:=((Int)×(Unit))×((gv.D))
abbrev Wh.aiQ:Type:=((((Bool))×(Unit))⊕(((Unit))×((gv.D))))
def Wh.Ek (x:Wh.VT):Option (Wh.VT⊕Wh.aiQ):=
 let nS:=x.1.1
 let EW:=x.2
 let s_:Int:=(↑(List.length ((EW.2.2.2).1)):Int)
 bif decide (nS<s_) then
  let vN:an.D:=List.getD ((EW.2.2.2).1) (Int.toNat nS) (0,[],0,[],())
  let y2:=Wh.D5 vN
  let wX:=bif !y2.1 then true else vN.2.2.1 != IntKind.wrap .i64 (nS+1)
  bif iy [!!!(Wh.D5 vN).1 || decide (0≤nS),!!!(Wh.D5 vN).1 || decide (nS<s_),nQ (Wh.Ck vN),decide (0≤nS),decide (nS<s_)] then
   bif wX then
    some (.inr (.inl (false,())))
   else
    some (.inl (((IntKind.wrap .i64 (nS+1)),()),EW))
  else none
 else
  some (.inr (.inr ((),EW)))
def Wh.aco:(((Bool))×(Unit))⊕(((Unit))×((gv.D))):=.inl default
def Wh.q81 (xs:(gv.D)):Option (((Bool))×(Unit)):=
 let w_0:=xs
 let x_23:Wh.VT:=((0,()),w_0)
 bif lF Wh.Ek x_23 then
  sumC (kG Wh.Ek Wh.aco x_23) (fun y_24=>
   let xR:=y_24.1
   some (xR,())) (fun z_25=>
   let zd:=z_25.2
   let Cz:Wh.VU:=((0,()),zd)
   bif lF Wh.El Cz then
    sumC (kG Wh.El Wh.acp Cz) (fun Df=>
     let y5:=Df.1
     some (y5,())) (fun PW=>
     let A4:=PW.2
     bif A4.1.1 then
      let B4:Int:=(↑(List.length ((A4.2.2.2).1)):Int)
      let v_55:Bool:=(A4.1.2.2.2.1).1==B4
      some (v_55,())
     else
      let r_56:=Wh.Tu A4
      bif iy [nQ (Wh.GH A4)] then
       some (r_56.1,())
      else none)
   else none)
 else none
def Wh.q81':=bx Wh.q81
theorem Wh.q81_v:OV Wh.q81 Wh.q81':=e_ _
def Wh.GG (xs:(nc.D)):Option (((Bool))×(Unit)):=
 let fe:=xs
 let v_1:Int:=(↑(List.length ((fe.2.2.2.2.2).1.1.2.2.1)):Int)
 let xO:=bif bif bif bif bif bif v_1==0 then(↑(List.length ((fe.2.2.2.2.2).1.1.2.2.2.1)):Int)==0 else false then(fe.2.2.2.2.2).1.1.1==0 else false then(fe.2.2.2.2.2).1.1.2.1==0 else false then(fe.2.2.2.2.2).1.2.1.1==0 else false then(fe.2.2.2.2.2).1.2.1.2.1==0 else false then(↑(List.length ((fe.2.2.2.2.2).1.2.1.2.2.1)):Int)==0 else false
 some (xO,())
def Wh.Tt:=bx Wh.GG
theorem Wh.aaA:OV Wh.GG Wh.Tt:=e_ _
abbrev Wh.T5:Type:=((Int)×(Unit))×((so.D))
abbrev Wh.ahL:Type:=((((Bool))×(Unit))⊕(((Unit))×((so.D))))
def Wh.BV (x:Wh.T5):Option (Wh.T5⊕Wh.ahL):=
 let yW:=x.1.1
 let yH:=x.2
 let ym:Int:=(↑(List.length (yH.2.2.1)):Int)
 bif decide (yW<ym) then
  let BA:=List.getD (yH.2.2.1) (Int.toNat yW) 0
  let AB:=Wh.zh yH
  let HH:=Wh.nW (BA,1,AB.1)
  let r_48:=Wh.nW (List.getD ((yH.2.2.2).1) (Int.toNat yW) 0,1,99)
  let EG:=bif bif !HH.1 then true else bif decide (yW>0) then decide (List.getD (yH.2.2.1) (Int.toNat (IntKind.wrap .i64 (yW-1))) 0≥BA) else false then true else !r_48.1
  bif iy [(!!bif !Prod.fst (Wh.nW (BA,1,AB.1)) then true else bif decide (yW>0) then decide (List.getD (yH.2.2.1) (Int.toNat (IntKind.wrap .i64 (yW-1))) 0≥BA) else false) || nQ (Wh.xe (List.getD ((yH.2.2.2).1) (Int.toNat yW) 0,1,99)),(!!bif !Prod.fst (Wh.nW (BA,1,AB.1)) then true else bif decide (yW>0) then decide (List.getD (yH.2.2.1) (Int.toNat (IntKind.wrap .i64 (yW-1))) 0≥BA) else false) || decide (0≤yW),(!!bif !Prod.fst (Wh.nW (BA,1,AB.1)) then true else bif decide (yW>0) then decide (List.getD (yH.2.2.1) (Int.toNat (IntKind.wrap .i64 (yW-1))) 0≥BA) else false) || decide (yW<(↑(List.length ((yH.2.2.2).1)):Int)),!(decide (yW>0) && !!Prod.fst (Wh.nW (BA,1,AB.1))) || decide (0≤yW),!(decide (yW>0) && !!Prod.fst (Wh.nW (BA,1,AB.1))) || decide (yW<ym),!(decide (yW>0) && !!Prod.fst (Wh.nW (BA,1,AB.1))) || decide (0≤IntKind.wrap .i64 (yW-1)),!(decide (yW>0) && !!Prod.fst (Wh.nW (BA,1,AB.1))) || decide (IntKind.wrap .i64 (yW-1)<ym),nQ (Wh.xe (BA,1,AB.1)),nQ (Wh.Ai yH),decide (0≤yW),decide (yW<ym)] then
   bif EG then
    some (.inr (.inl (false,())))
   else
    some (.inl (((IntKind.wrap .i64 (yW+1)),()),yH))
  else none
 else
  some (.inr (.inr ((),yH)))
def Wh.aa0:(((Bool))×(Unit))⊕(((Unit))×((so.D))):=.inl default
def Wh.Bp (xs:(so.D)):Option (((Bool))×(Unit)):=
 let wh:so.D:=xs
 let r_1:=Wh.nW (wh.1,1,300)
 let r_2:=Wh.nW (wh.2.1,1,16)
 let xT:=Wh.zh wh
 let FW:=Wh.nW ((↑(List.length (wh.2.2.1)):Int),1,3)
 let KJ:=Wh.nW (xT.1,1,24)
 let vN:=bif bif bif bif !r_1.1 then true else !r_2.1 then true else !KJ.1 then true else !FW.1 then true else(↑(List.length ((wh.2.2.2).1)):Int) != (↑(List.length (wh.2.2.1)):Int)
 bif iy [(!!bif bif !r_1.1 then true else !r_2.1 then true else !Prod.fst (Wh.nW (xT.1,1,24))) || nQ (Wh.xe ((↑(List.length (wh.2.2.1)):Int),1,3)),(!!bif !r_1.1 then true else !r_2.1) || nQ (Wh.xe (xT.1,1,24)),(!!bif !r_1.1 then true else !r_2.1) || nQ (Wh.Ai wh),!!!r_1.1 || nQ (Wh.xe (wh.2.1,1,16)),nQ (Wh.xe (wh.1,1,300))] then
  bif vN then
   some (false,())
  else
   let x_51:Wh.T5:=((0,()),wh)
   bif lF Wh.BV x_51 then
    sumC (kG Wh.BV Wh.aa0 x_51) (fun y_52=>
     let xX:=y_52.1
     some (xX,())) (fun z_53=>
     let EZ:=z_53.2
     let BB:Int:=(↑(List.length (EZ.2.2.1)):Int)
     let r_60:=Wh.zh EZ
     let v_62:=List.getD (EZ.2.2.1) (Int.toNat (IntKind.wrap .i64 (BB-1))) 0==r_60.1
     bif iy [nQ (Wh.Ai EZ),decide (0≤IntKind.wrap .i64 (BB-1)),decide (IntKind.wrap .i64 (BB-1)<BB)] then
      some (v_62,())
     else none)
   else none
 else none
def Wh.Ki:=bx Wh.Bp
theorem Wh.q137_v:OV Wh.Bp Wh.Ki:=e_ _
abbrev Wh.UL:Type:=((Int)×(List (Int))×(Int))×(Unit)
abbrev Wh.ah4:Type:=((((Bool))×(Unit))⊕(((Int))×(Unit)))
def Wh.CX (x:Wh.UL):Option (Wh.UL⊕Wh.ah4):=
 let zk:=x.1.1
 let KN:=x.1.2.1
 let R5:=x.1.2.2
 let xS:=decide (zk<(↑(List.length KN):Int))
 bif xS then
  let nP:=List.getD KN (Int.toNat zk) 0
  let nG:=IntKind.wrap .i64 (R5-1)
  let x9:=Wh.nW (nP,0,nG)
  let yK:=bif !x9.1 then true else bif decide (zk>0) then decide (List.getD KN (Int.toNat (IntKind.wrap .i64 (zk-1))) 0≥nP) else false
  bif iy [!(decide (zk>0) && !!Prod.fst (Wh.nW (nP,0,nG))) || decide (0≤zk),!(decide (zk>0) && !!Prod.fst (Wh.nW (nP,0,nG))) || xS,!(decide (zk>0) && !!Prod.fst (Wh.nW (nP,0,nG))) || decide (0≤IntKind.wrap .i64 (zk-1)),!(decide (zk>0) && !!Prod.fst (Wh.nW (nP,0,nG))) || decide (IntKind.wrap .i64 (zk-1)<(↑(List.length KN):Int)),nQ (Wh.xe (nP,0,nG)),decide (0≤zk),xS] then
   bif yK then
    some (.inr (.inl (false,())))
   else
    some (.inl (((IntKind.wrap .i64 (zk+1)),KN,R5),()))
  else none
 else
  some (.inr (.inr (R5,())))
def Wh.abt:(((Bool))×(Unit))⊕(((Int))×(Unit)):=.inl default
def Wh.Fo (xs:(List (Int))×(Int)):Option (((Bool))×(Unit)):=
 let C8:=xs.1
 let R4:=xs.2
 let Aq:Wh.UL:=((0,C8,R4),())
 bif lF Wh.CX Aq then
  sumC (kG Wh.CX Wh.abt Aq) (fun BD=>
   let y4:=BD.1
   some (y4,())) (fun EI=>
   let Xv:=EI.1
   let KK:=Wh.nW (Xv,0,24)
   bif iy [nQ (Wh.xe (Xv,0,24))] then
    some (KK.1,())
   else none)
 else none
def Wh.Kp:=bx Wh.Fo
theorem Wh.q166_v:OV Wh.Fo Wh.Kp:=e_ _
abbrev Wh.UX:Type:=((Int)×(Int)×(List (Int)))×(Unit)
abbrev Wh.ah_:Type:=((((Bool))×(Unit))⊕((Unit)×(Unit)))
def Wh.Fw (x:Wh.UX):Option (Wh.UX⊕Wh.ah_):=
 let yp:=x.1.1
 let n_10:=x.1.2.1
 let Wk:=x.1.2.2
 let yu:=decide (yp<(↑(List.length Wk):Int))
 bif yu then
  let Ao:=List.getD Wk (Int.toNat yp) 0
  let s_:=Ao==n_10
  bif iy [decide (0≤yp),yu] then
   bif s_ then
    some (.inr (.inl (true,())))
   else
    some (.inl (((IntKind.wrap .i64 (yp+1)),n_10,Wk),()))
  else none
 else
  some (.inr (.inr ((),())))
def Wh.abB:(((Bool))×(Unit))⊕((Unit)×(Unit)):=.inl default
def Wh.Fv (xs:(List (Int))×(Int)):Option (((Bool))×(Unit)):=
 let C8:=xs.1
 let n_1:=xs.2
 let x_16:Wh.UX:=((0,n_1,C8),())
 bif lF Wh.Fw x_16 then
  sumC (kG Wh.Fw Wh.abB x_16) (fun Lf=>
   let nG:=Lf.1
   some (nG,())) (fun _=>
   some (false,()))
 else none
def Wh.Ku:=bx Wh.Fv
theorem Wh.q173_v:OV Wh.Fv Wh.Ku:=e_ _
abbrev Wh.VS:Type:=((Int)×(Int)×(Unit))×((fT.D))
abbrev Wh.aiP:Type:=((((Bool))×(Unit))⊕(((Unit)×(Int))×((fT.D))))
def Wh.FN (x:Wh.VS):Option (Wh.VS⊕Wh.aiP):=
 let Gs:=x.1.1
 let ER:=x.1.2.1
 let EY:=x.2
 let EG:Int:=(↑(List.length (EY.2.2.1)):Int)
 bif decide (Gs<EG) then
  let y5:=Gs != ER
  let r_52:=Wh.Ku (Prod.fst (List.getD (EY.2.2.1) (Int.toNat Gs) ([],[],())),List.getD (Prod.fst (List.getD (EY.2.2.1) (Int.toNat ER) ([],[],()))) (Int.toNat 0) 0)
  let B4:=bif y5 then r_52.1 else false
  bif iy [!y5 || nQ (Wh.Fv (Prod.fst (List.getD (EY.2.2.1) (Int.toNat Gs) ([],[],())),List.getD (Prod.fst (List.getD (EY.2.2.1) (Int.toNat ER) ([],[],()))) (Int.toNat 0) 0)),!y5 || decide ((0:Int)≤0),!y5 || decide (0<(↑(List.length (Prod.fst (List.getD (EY.2.2.1) (Int.toNat ER) ([],[],())))):Int)),!y5 || decide (0≤ER),!y5 || decide (ER<EG),!y5 || decide (0≤Gs),!y5 || decide (Gs<EG)] then
   bif B4 then
    some (.inr (.inl (false,())))
   else
    some (.inl (((IntKind.wrap .i64 (Gs+1)),ER,()),EY))
  else none
 else
  some (.inr (.inr (((),ER),EY)))
def Wh.acn:(((Bool))×(Unit))⊕(((Unit)×(Int))×((fT.D))):=.inl default
abbrev Wh.VR:Type:=((Int)×(Unit))×((fT.D))
abbrev Wh.aiO:Type:=((((Bool))×(Unit))⊕((Unit)×(Unit)))
def Wh.FM (x:Wh.VR):Option (Wh.VR⊕Wh.aiO):=
 let i_62:=x.1.1
 let ls_63:=x.2
 let v_64:Int:=(↑(List.length (ls_63.2.2.1)):Int)
 bif decide (i_62<v_64) then
  let x_66:Wh.VS:=((0,i_62,()),ls_63)
  bif lF Wh.FN x_66 then
   sumC (kG Wh.FN Wh.acn x_66) (fun y_67=>
    let K3:=y_67.1
    some (.inr (.inl (K3,())))) (fun z_68=>
    let i_70:=z_68.1.2
    let ls_71:=z_68.2
    some (.inl (((IntKind.wrap .i64 (i_70+1)),()),ls_71)))
  else none
 else
  some (.inr (.inr ((),())))
def Wh.acm:(((Bool))×(Unit))⊕((Unit)×(Unit)):=.inl default
abbrev Wh.VQ:Type:=((Int)×(Unit))×((fT.D))
abbrev Wh.aiN:Type:=((((Bool))×(Unit))⊕(((Unit))×((fT.D))))
def Wh.Ej (x:Wh.VQ):Option (Wh.VQ⊕Wh.aiN):=
 let xN:=x.1.1
 let xd:=x.2
 let nP:Int:=(↑(List.length (xd.2.2.1)):Int)
 bif decide (xN<nP) then
  let y7:=List.getD (xd.2.2.1) (Int.toNat xN) ([],[],())
  bif iy [decide (0≤xN),decide (xN<nP)] then
   let Bx:=Wh.Kp (y7.1,xd.1)
   let xR:=bif bif bif !Bx.1 then true else(↑(List.length y7.1):Int)==0 then true else(↑(List.length y7.2.1):Int) != xd.2.1 then true else bif decide (xN>0) then decide (List.getD (Prod.fst (List.getD (xd.2.2.1) (Int.toNat (IntKind.wrap .i64 (xN-1))) ([],[],()))) (Int.toNat 0) 0≥List.getD y7.1 (Int.toNat 0) 0) else false
   bif iy [!(decide (xN>0) && !bif bif !Bx.1 then true else(↑(List.length y7.1):Int)==0 then true else(↑(List.length y7.2.1):Int) != xd.2.1) || decide ((0:Int)≤0),!(decide (xN>0) && !bif bif !Bx.1 then true else(↑(List.length y7.1):Int)==0 then true else(↑(List.length y7.2.1):Int) != xd.2.1) || decide (0<(↑(List.length y7.1):Int)),!(decide (xN>0) && !bif bif !Bx.1 then true else(↑(List.length y7.1):Int)==0 then true else(↑(List.length y7.2.1):Int) != xd.2.1) || decide ((0:Int)≤0),!(decide (xN>0) && !bif bif !Bx.1 then true else(↑(List.length y7.1):Int)==0 then true else(↑(List.length y7.2.1):Int) != xd.2.1) || decide (0<(↑(List.length (Prod.fst (List.getD (xd.2.2.1) (Int.toNat (IntKind.wrap .i64 (xN-1))) ([],[],())))):Int)),!(decide (xN>0) && !bif bif !Bx.1 then true else(↑(List.length y7.1):Int)==0 then true else(↑(List.length y7.2.1):Int) != xd.2.1) || decide (0≤IntKind.wrap .i64 (xN-1)),!(decide (xN>0) && !bif bif !Bx.1 then true else(↑(List.length y7.1):Int)==0 then true else(↑(List.length y7.2.1):Int) != xd.2.1) || decide (IntKind.wrap .i64 (xN-1)<nP),nQ (Wh.Fo (y7.1,xd.1))] then
    bif xR then
     some (.inr (.inl (false,())))
    else
     some (.inl (((IntKind.wrap .i64 (xN+1)),()),xd))
   else none
  else none
 else
  some (.inr (.inr ((),xd)))
def Wh.ack:(((Bool))×(Unit))⊕(((Unit))×((fT.D))):=.inl default
def Wh.Cp (xs:(fT.D)):Option (((Bool))×(Unit)):=
 let fN:=xs
 let r_1:=Wh.nW (fN.1,1,24)
 let r_2:=Wh.nW (fN.2.1,1,16)
 let w9:=bif !r_1.1 then true else !r_2.1
 bif iy [!!!r_1.1 || nQ (Wh.xe (fN.2.1,1,16)),nQ (Wh.xe (fN.1,1,24))] then
  bif w9 then
   some (false,())
  else
   let Ar:Wh.VQ:=((0,()),fN)
   bif lF Wh.Ej Ar then
    sumC (kG Wh.Ej Wh.ack Ar) (fun Aa=>
     let v_31:=Aa.1
     some (v_31,())) (fun z_30=>
     let zH:=z_30.2
     let Lc:Wh.VR:=((0,()),zH)
     bif lF Wh.FM Lc then
      sumC (kG Wh.FM Wh.acm Lc) (fun y_74=>
       let v_76:=y_74.1
       some (v_76,())) (fun _=>
       some (true,()))
     else none)
   else none
 else none
def Wh.KG:=bx Wh.Cp
theorem Wh.q79_v:OV Wh.Cp Wh.KG:=e_ _
def Wh.DX (xs:(th.D)):Option (((Bool))×(Unit)):=
 let xP:=xs
 let r_1:=Wh.Ki xP.1
 let r_2:=Wh.KG xP.2.1
 let xT:=Wh.zh xP.1
 let yd:=bif bif bif r_1.1 then r_2.1 else false then xP.2.1.1==xT.1 else false then(xP.2.1.2).1==xP.1.2.1 else false
 bif iy [(!bif r_1.1 then r_2.1 else false) || nQ (Wh.Ai xP.1),!r_1.1 || nQ (Wh.Cp xP.2.1),nQ (Wh.Bp xP.1)] then
  some (yd,())
 else none
def Wh.OW:=bx Wh.DX
theorem Wh.UK:OV Wh.DX Wh.OW:=e_ _
def Wh.CL (xs:(th.D)):Option (((Bool))×(Unit)):=
 let xP:=xs
 let r_1:=Wh.OW xP
 let r_2:=Wh.zh xP.1
 let x7:=bif r_1.1 then(↑(List.length (xP.2.1.2.2.1)):Int)==r_2.1 else false
 bif iy [!r_1.1 || nQ (Wh.Ai xP.1),nQ (Wh.DX xP)] then
  some (x7,())
 else none
def Wh.Kb:=bx Wh.CL
theorem Wh.aat:OV Wh.CL Wh.Kb:=e_ _
def Wh.q77 (xs:(nc.D)):Option (((Bool))×(Unit)):=
 let fe:=xs
 let r_1:=Wh.nW (fe.1,0,3)
 let r_2:=Wh.nW (fe.2.1,0,99999)
 let xT:=Wh.nW (fe.2.2.1,0,4)
 let yJ:=Wh.nW (fe.2.2.2.2.1,0,99999)
 let yd:=bif bif bif !r_1.1 then true else !r_2.1 then true else !xT.1 then true else !yJ.1
 bif iy [(!!bif bif !r_1.1 then true else !r_2.1 then true else !xT.1) || nQ (Wh.xe (fe.2.2.2.2.1,0,99999)),(!!bif !r_1.1 then true else !r_2.1) || nQ (Wh.xe (fe.2.2.1,0,4)),!!!r_1.1 || nQ (Wh.xe (fe.2.1,0,99999)),nQ (Wh.xe (fe.1,0,3))] then
  bif yd then
   some (false,())
  else
   let zw:=fe.2.2.2.2.1==0
   let FW:=Wh.Tt fe
   let IS:=Wh.OW ((fe.2.2.2.2.2).1)
   let xO:=bif bif zw then !FW.1 else false then true else bif decide (fe.2.2.2.2.1>0) then !IS.1 else false
   bif iy [!(decide (fe.2.2.2.2.1>0) && !bif zw then !FW.1 else false) || nQ (Wh.DX ((fe.2.2.2.2.2).1)),!zw || nQ (Wh.GG fe)] then
    bif xO then
     some (false,())
    else
     bif(fe.2.2.1==0) then
      let xS:Bool:=(fe.2.2.2).1 == []
      some (bif xS then zw else false,())
     else
      let nP:=fe.2.1==0
      let HF:=Wh.OG ((fe.2.2.2).1)
      let n_:=bif nP then true else !HF.1
      bif iy [!!nP || nQ (Wh.Cg ((fe.2.2.2).1))] then
       bif n_ then
        some (false,())
       else
        bif(fe.2.2.1==2) then
         let yP:=decide (fe.2.2.2.2.1>0)
         let x9:=Wh.Kb ((fe.2.2.2.2.2).1)
         let zy:=bif yP then !x9.1 else false
         bif iy [!yP || nQ (Wh.CL ((fe.2.2.2.2.2).1))] then
          some (zy,())
         else none
        else
         bif(fe.2.2.1==3) then
          let yz:=decide (fe.2.2.2.2.1>0)
          let Pm:=Wh.Kb ((fe.2.2.2.2.2).1)
          let HR:=bif yz then Pm.1 else false
          bif iy [!yz || nQ (Wh.CL ((fe.2.2.2.2.2).1))] then
           some (HR,())
          else none
         else
          let KK:=Wh.Kb ((fe.2.2.2.2.2).1)
          let yA:=bif zw then true else !KK.1
          bif iy [!!zw || nQ (Wh.CL ((fe.2.2.2.2.2).1))] then
           some (yA,())
          else none
      else none
   else none
 else none
def Wh.HB:=bx Wh.q77
theorem Wh.q77_v:OV Wh.q77 Wh.HB:=e_ _
abbrev Wh.To:Type:=((Int)×(Unit))×((gv.D))
abbrev Wh.ahu:Type:=((((Bool))×(Unit))⊕((Unit)×(Unit)))
def Wh.DD (x:Wh.To):Option (Wh.To⊕Wh.ahu):=
 let Dr:=x.1.1
 let EZ:=x.2
 let BB:Int:=(↑(List.length (EZ.2.2.1)):Int)
 bif decide (Dr<BB) then
  let AF:=List.getD (EZ.2.2.1) (Int.toNat Dr) (0,[],false,())
  let r_62:=Wh.nW (AF.1,0,3)
  let v_63:=bif decide ((↑(List.length AF.2.1):Int)>160) then true else bif AF.1 != 9 then !r_62.1 else false
  bif iy [!(AF.1 != 9 && !decide ((↑(List.length AF.2.1):Int)>160)) || nQ (Wh.xe (AF.1,0,3)),!(AF.1 != 9 && !decide ((↑(List.length AF.2.1):Int)>160)) || decide (0≤Dr),!(AF.1 != 9 && !decide ((↑(List.length AF.2.1):Int)>160)) || decide (Dr<BB),!!decide ((↑(List.length AF.2.1):Int)>160) || decide (0≤Dr),!!decide ((↑(List.length AF.2.1):Int)>160) || decide (Dr<BB),decide (0≤Dr),decide (Dr<BB)] then
   bif v_63 then
    some (.inr (.inl (false,())))
   else
    some (.inl (((IntKind.wrap .i64 (Dr+1)),()),EZ))
  else none
 else
  some (.inr (.inr ((),())))
def Wh.aaw:(((Bool))×(Unit))⊕((Unit)×(Unit)):=.inl default
abbrev Wh.Tn:Type:=((Int)×(Unit))×((gv.D))
abbrev Wh.aht:Type:=((((Bool))×(Unit))⊕(((Unit))×((gv.D))))
def Wh.DC (x:Wh.Tn):Option (Wh.Tn⊕Wh.aht):=
 let Au:=x.1.1
 let Ag:=x.2
 let zy:Int:=(↑(List.length Ag.2.1):Int)
 bif decide (Au<zy) then
  let yz:=List.getD Ag.2.1 (Int.toNat Au) (0,0,0,[],0,((0,0,[],[],()),(0,0,[],()),()),())
  let AA:=Wh.HB yz
  let ym:=bif bif !AA.1 then true else yz.1 != Au then true else decide (yz.2.2.2.2.1>(↑(List.length ((Ag.2.2.2).1)):Int))
  bif iy [(!!bif !(Wh.HB yz).1 then true else yz.1 != Au) || decide (0≤Au),(!!bif !(Wh.HB yz).1 then true else yz.1 != Au) || decide (Au<zy),!!!(Wh.HB yz).1 || decide (0≤Au),!!!(Wh.HB yz).1 || decide (Au<zy),nQ (Wh.q77 yz),decide (0≤Au),decide (Au<zy)] then
   bif ym then
    some (.inr (.inl (false,())))
   else
    some (.inl (((IntKind.wrap .i64 (Au+1)),()),Ag))
  else none
 else
  some (.inr (.inr ((),Ag)))
def Wh.aav:(((Bool))×(Unit))⊕(((Unit))×((gv.D))):=.inl default
def Wh.E9 (xs:(gv.D)):Option (((Bool))×(Unit)):=
 let w_0:=xs
 let r_1:=Wh.q78' w_0.1
 let yG:=Wh.q81' w_0
 let w8:=bif bif bif !r_1.1 then true else(↑(List.length w_0.2.1):Int) != 4 then true else decide ((↑(List.length (w_0.2.2.1)):Int)>60) then true else !yG.1
 bif iy [(!!bif bif !r_1.1 then true else(↑(List.length w_0.2.1):Int) != 4 then true else decide ((↑(List.length (w_0.2.2.1)):Int)>60)) || nQ (Wh.q81 w_0),nQ (Wh.q78 w_0.1)] then
  bif w8 then
   some (false,())
  else
   let x_38:Wh.Tn:=((0,()),w_0)
   bif lF Wh.DC x_38 then
    sumC (kG Wh.DC Wh.aav x_38) (fun y_39=>
     let Cv:=y_39.1
     some (Cv,())) (fun z_40=>
     let Iv:=z_40.2
     let x_65:Wh.To:=((0,()),Iv)
     bif lF Wh.DD x_65 then
      sumC (kG Wh.DD Wh.aaw x_65) (fun y_66=>
       let IY:=y_66.1
       some (IY,())) (fun _=>
       some (true,()))
     else none)
   else none
 else none
def Wh.Tm:=bx Wh.E9
theorem Wh.Tp:OV Wh.E9 Wh.Tm:=e_ _
def Wh.G3 (xs:(th.D)):Option (((Bool))×(Unit)):=
 let xP:=xs
 let Ao:=bif bif bif bif bif bif(xP.1.1==0) then xP.1.2.1==0 else false then(↑(List.length ((xP.1.2.2).1)):Int)==0 else false then(↑(List.length (xP.1.2.2.2.1)):Int)==0 else false then xP.2.1.1==0 else false then(xP.2.1.2).1==0 else false then(↑(List.length (xP.2.1.2.2.1)):Int)==0 else false
 some (Ao,())
def Wh.Uv:=bx Wh.G3
theorem Wh.abg:OV Wh.G3 Wh.Uv:=e_ _
abbrev Wh.TJ:Type:=((Int)×(Unit)×(List (Int))×(Int))×((so.D))
abbrev Wh.ahE:Type:=((((Bool))×(Unit))⊕((Unit)×(Unit)))
def Wh.BU (x:Wh.TJ):Option (Wh.TJ⊕Wh.ahE):=
 let yF:=x.1.1
 let ym:=(x.1.2.2).1
 let EB:=x.1.2.2.2
 let yE:=x.2
 bif decide (yF<EB) then
  let AE:=List.getD ym (Int.toNat yF) 0
  bif iy [decide (0≤yF),decide (yF<(↑(List.length ym):Int))] then
   let Al:=Wh.zq yE
   let KM:=Wh.pg (AE,1,Al.1)
   let r_50:=Wh.pg (List.getD ((yE.2.2.2).1) (Int.toNat yF) 0,1,99)
   let y5:=bif bif !KM.1 then true else bif decide (yF>0) then decide (List.getD (yE.2.2.1) (Int.toNat (IntKind.wrap .i64 (yF-1))) 0≥AE) else false then true else !r_50.1
   bif iy [(!!bif !Prod.fst (Wh.pg (AE,1,Al.1)) then true else bif decide (yF>0) then decide (List.getD (yE.2.2.1) (Int.toNat (IntKind.wrap .i64 (yF-1))) 0≥AE) else false) || nQ (Wh.xU (List.getD ((yE.2.2.2).1) (Int.toNat yF) 0,1,99)),(!!bif !Prod.fst (Wh.pg (AE,1,Al.1)) then true else bif decide (yF>0) then decide (List.getD (yE.2.2.1) (Int.toNat (IntKind.wrap .i64 (yF-1))) 0≥AE) else false) || decide (0≤yF),(!!bif !Prod.fst (Wh.pg (AE,1,Al.1)) then true else bif decide (yF>0) then decide (List.getD (yE.2.2.1) (Int.toNat (IntKind.wrap .i64 (yF-1))) 0≥AE) else false) || decide (yF<(↑(List.length ((yE.2.2.2).1)):Int)),!(decide (yF>0) && !!Prod.fst (Wh.pg (AE,1,Al.1))) || decide (0≤IntKind.wrap .i64 (yF-1)),!(decide (yF>0) && !!Prod.fst (Wh.pg (AE,1,Al.1))) || decide (IntKind.wrap .i64 (yF-1)<(↑(List.length (yE.2.2.1)):Int)),nQ (Wh.xU (AE,1,Al.1)),nQ (Wh.AQ yE)] then
    bif y5 then
     some (.inr (.inl (false,())))
    else
     some (.inl (((IntKind.wrap .i64 (yF+1)),(),ym,EB),yE))
   else none
  else none
 else
  some (.inr (.inr ((),())))
def Wh.aaL:(((Bool))×(Unit))⊕((Unit)×(Unit)):=.inl default
def Wh.A7 (xs:(so.D)):Option (((Bool))×(Unit)):=
 let wh:so.D:=xs
 let r_1:=Wh.pg (wh.1,1,300)
 let r_2:=Wh.pg (wh.2.1,1,16)
 let xT:=Wh.zq wh
 let zZ:=bif bif !r_1.1 then true else !r_2.1 then true else decide (xT.1>24)
 bif iy [(!!bif !r_1.1 then true else !r_2.1) || nQ (Wh.AQ wh),!!!r_1.1 || nQ (Wh.xU (wh.2.1,1,16)),nQ (Wh.xU (wh.1,1,300))] then
  bif zZ then
   some (false,())
  else
   let w8:Int:=(↑(List.length (wh.2.2.1)):Int)
   let KJ:=Wh.pg (w8,1,3)
   let vN:=bif bif !KJ.1 then true else(↑(List.length ((wh.2.2.2).1)):Int) != w8 then true else List.getD (wh.2.2.1) (Int.toNat (IntKind.wrap .i64 (w8-1))) 0 != xT.1
   bif iy [(!!bif !Prod.fst (Wh.pg (w8,1,3)) then true else(↑(List.length ((wh.2.2.2).1)):Int) != w8) || nQ (Wh.AQ wh),(!!bif !Prod.fst (Wh.pg (w8,1,3)) then true else(↑(List.length ((wh.2.2.2).1)):Int) != w8) || decide (0≤IntKind.wrap .i64 (w8-1)),(!!bif !Prod.fst (Wh.pg (w8,1,3)) then true else(↑(List.length ((wh.2.2.2).1)):Int) != w8) || decide (IntKind.wrap .i64 (w8-1)<w8),nQ (Wh.xU (w8,1,3))] then
    bif vN then
     some (false,())
    else
     let La:Wh.TJ:=((0,(),wh.2.2.1,w8),wh)
     bif lF Wh.BU La then
      sumC (kG Wh.BU Wh.aaL La) (fun y_54=>
       let BB:=y_54.1
       some (BB,())) (fun _=>
       some (true,()))
     else none
   else none
 else none
def Wh.Kf:=bx Wh.A7
theorem Wh.q119_v:OV Wh.A7 Wh.Kf:=e_ _
abbrev Wh.Us:Type:=((Int)×(List (Int))×(Int)×(List (Int))×(Int))×(Unit)
abbrev Wh.ahV:Type:=((((Bool))×(Unit))⊕(((Int))×(Unit)))
def Wh.CV (x:Wh.Us):Option (Wh.Us⊕Wh.ahV):=
 let vN:=x.1.1
 let Wl:=x.1.2.1
 let R6:=(x.1.2.2).1
 let nG:=x.1.2.2.2.1
 let n_:=x.1.2.2.2.2
 bif decide (vN<n_) then
  let yP:=List.getD nG (Int.toNat vN) 0
  bif iy [decide (0≤vN),decide (vN<(↑(List.length nG):Int))] then
   let zJ:=IntKind.wrap .i64 (R6-1)
   let BY:=Wh.pg (yP,0,zJ)
   let vT:=bif !BY.1 then true else bif decide (vN>0) then decide (List.getD Wl (Int.toNat (IntKind.wrap .i64 (vN-1))) 0≥yP) else false
   bif iy [!(decide (vN>0) && !!Prod.fst (Wh.pg (yP,0,zJ))) || decide (0≤IntKind.wrap .i64 (vN-1)),!(decide (vN>0) && !!Prod.fst (Wh.pg (yP,0,zJ))) || decide (IntKind.wrap .i64 (vN-1)<(↑(List.length Wl):Int)),nQ (Wh.xU (yP,0,zJ))] then
    bif vT then
     some (.inr (.inl (false,())))
    else
     some (.inl (((IntKind.wrap .i64 (vN+1)),Wl,R6,nG,n_),()))
   else none
  else none
 else
  some (.inr (.inr (R6,())))
def Wh.abd:(((Bool))×(Unit))⊕(((Int))×(Unit)):=.inl default
def Wh.Fi (xs:(List (Int))×(Int)):Option (((Bool))×(Unit)):=
 let C8:=xs.1
 let R4:=xs.2
 let F5:Wh.Us:=((0,C8,R4,C8,(↑(List.length C8):Int)),())
 bif lF Wh.CV F5 then
  sumC (kG Wh.CV Wh.abd F5) (fun F9=>
   let yA:=F9.1
   some (yA,())) (fun HV=>
   let Xw:=HV.1
   let AA:=Wh.pg (Xw,0,24)
   bif iy [nQ (Wh.xU (Xw,0,24))] then
    some (AA.1,())
   else none)
 else none
def Wh.Km:=bx Wh.Fi
theorem Wh.q153_v:OV Wh.Fi Wh.Km:=e_ _
abbrev Wh.U2:Type:=((Int)×(Int)×(List (Int))×(Int))×(Unit)
abbrev Wh.aid:Type:=((((Int))×(Unit)))
def Wh.Hp (x:Wh.U2):Option (Wh.U2⊕Wh.aid):=
 let yd:=x.1.1
 let m_10:=x.1.2.1
 let yU:=(x.1.2.2).1
 let yu:=x.1.2.2.2
 bif decide (yd<yu) then
  let s_:=List.getD yU (Int.toNat yd) 0
  bif iy [decide (0≤yd),decide (yd<(↑(List.length yU):Int))] then
   bif iy [decide (0≤s_)] then
    some (.inl (((IntKind.wrap .i64 (yd+1)),nj Go.BinOp.or Go.IntKind.u32 m_10 (IntKind.wrap .u32 ((1:Int)*2 ^ Min.min (Int.toNat s_) (Go.IntKind.bits Go.IntKind.u32))),yU,yu),()))
   else none
  else none
 else
  some (.inr (m_10,()))
def Wh.abG:(((Int))×(Unit)):=default
def Wh.Ho (xs:(List (Int))):Option (((Int))×(Unit)):=
 let C8:=xs
 let x_17:Wh.U2:=((0,0,C8,(↑(List.length C8):Int)),())
 bif lF Wh.Hp x_17 then
  let B6:=kG Wh.Hp Wh.abG x_17
  let m_19:=B6.1
  some (m_19,())
 else none
def Wh.Ky:=bx Wh.Ho
theorem Wh.q177_v:OV Wh.Ho Wh.Ky:=e_ _
abbrev Wh.Vy:Type:=((Int)×(Int)×(List (n4.D))×(Int))×(Unit)
abbrev Wh.aiy:Type:=((((Bool))×(Unit))⊕((Unit)×(Unit)))
def Wh.FF (x:Wh.Vy):Option (Wh.Vy⊕Wh.aiy):=
 let K0:=x.1.1
 let aag:=x.1.2.1
 let K3:=(x.1.2.2).1
 let PO:=x.1.2.2.2
 bif decide (K0<PO) then
  let J6:=List.getD K3 (Int.toNat K0) ([],[],())
  bif iy [decide (0≤K0),decide (K0<(↑(List.length K3):Int))] then
   let v_73:List Int:=List.take (Int.toNat ((↑(List.length J6.1):Int)-1)) (List.drop (Int.toNat 1) J6.1)
   let r_77:=Wh.Ky v_73
   let K5:=nj Go.BinOp.and Go.IntKind.u32 r_77.1 aag != 0
   bif iy [nQ (Wh.Ho v_73),true,decide (1≤(↑(List.length J6.1):Int)),decide ((↑(List.length J6.1):Int)≤(↑(List.length J6.1):Int))] then
    bif K5 then
     some (.inr (.inl (false,())))
    else
     some (.inl (((IntKind.wrap .i64 (K0+1)),aag,K3,PO),()))
   else none
  else none
 else
  some (.inr (.inr ((),())))
def Wh.ab3:(((Bool))×(Unit))⊕((Unit)×(Unit)):=.inl default
abbrev Wh.Vx:Type:=((Int)×(Int)×(Unit)×(List (n4.D))×(Int))×((fT.D))
abbrev Wh.aix:Type:=((((Bool))×(Unit))⊕(((Int)×(Unit))×((fT.D))))
def Wh.Cn (x:Wh.Vx):Option (Wh.Vx⊕Wh.aix):=
 let xR:=x.1.1
 let aaf:=x.1.2.1
 let vT:=x.1.2.2.2.1
 let y4:=x.1.2.2.2.2
 let A3:=x.2
 bif decide (xR<y4) then
  let yy:=List.getD vT (Int.toNat xR) ([],[],())
  bif iy [decide (0≤xR),decide (xR<(↑(List.length vT):Int))] then
   let yA:Int:=(↑(List.length yy.1):Int)
   let Cr:=Wh.Km (yy.1,A3.1)
   let Cv:=bif bif bif yA==0 then true else !Cr.1 then true else(↑(List.length yy.2.1):Int) != A3.2.1 then true else bif decide (xR>0) then decide (List.getD (Prod.fst (List.getD (A3.2.2.1) (Int.toNat (IntKind.wrap .i64 (xR-1))) ([],[],()))) (Int.toNat 0) 0≥List.getD yy.1 (Int.toNat 0) 0) else false
   bif iy [!(decide (xR>0) && !bif bif yA==0 then true else !Cr.1 then true else(↑(List.length yy.2.1):Int) != A3.2.1) || decide ((0:Int)≤0),!(decide (xR>0) && !bif bif yA==0 then true else !Cr.1 then true else(↑(List.length yy.2.1):Int) != A3.2.1) || decide (0<yA),!(decide (xR>0) && !bif bif yA==0 then true else !Cr.1 then true else(↑(List.length yy.2.1):Int) != A3.2.1) || decide ((0:Int)≤0),!(decide (xR>0) && !bif bif yA==0 then true else !Cr.1 then true else(↑(List.length yy.2.1):Int) != A3.2.1) || decide (0<(↑(List.length (Prod.fst (List.getD (A3.2.2.1) (Int.toNat (IntKind.wrap .i64 (xR-1))) ([],[],())))):Int)),!(decide (xR>0) && !bif bif yA==0 then true else !Cr.1 then true else(↑(List.length yy.2.1):Int) != A3.2.1) || decide (0≤IntKind.wrap .i64 (xR-1)),!(decide (xR>0) && !bif bif yA==0 then true else !Cr.1 then true else(↑(List.length yy.2.1):Int) != A3.2.1) || decide (IntKind.wrap .i64 (xR-1)<(↑(List.length (A3.2.2.1)):Int)),!!yA==0 || nQ (Wh.Fi (yy.1,A3.1))] then
    bif Cv then
     some (.inr (.inl (false,())))
    else
     let F2:=List.getD yy.1 (Int.toNat 0) 0
     let ahp:Int:=nj Go.BinOp.or Go.IntKind.u32 aaf (IntKind.wrap .u32 ((1:Int)*2 ^ Min.min (Int.toNat F2) (Go.IntKind.bits Go.IntKind.u32)))
     bif iy [decide (0≤F2),true,decide (0<yA)] then
      some (.inl (((IntKind.wrap .i64 (xR+1)),ahp,(),vT,y4),A3))
     else none
   else none
  else none
 else
  some (.inr (.inr ((aaf,()),A3)))
def Wh.ab2:(((Bool))×(Unit))⊕(((Int)×(Unit))×((fT.D))):=.inl default
def Wh.Cm (xs:(fT.D)):Option (((Bool))×(Unit)):=
 let fN:=xs
 let r_1:=Wh.pg (fN.1,1,24)
 let r_2:=Wh.pg (fN.2.1,1,16)
 let w9:=bif !r_1.1 then true else !r_2.1
 bif iy [!!!r_1.1 || nQ (Wh.xU (fN.2.1,1,16)),nQ (Wh.xU (fN.1,1,24))] then
  bif w9 then
   some (false,())
  else
   let x7:Int:=(↑(List.length (fN.2.2.1)):Int)
   let K9:Wh.Vx:=((0,0,(),fN.2.2.1,x7),fN)
   bif lF Wh.Cn K9 then
    sumC (kG Wh.Cn Wh.ab2 K9) (fun y_48=>
     let PM:=y_48.1
     some (PM,())) (fun z_49=>
     let ahq:=z_49.1.1
     let A4:=z_49.2
     let B4:Int:=(↑(List.length (A4.2.2.1)):Int)
     let x_80:Wh.Vy:=((0,ahq,A4.2.2.1,B4),())
     bif lF Wh.FF x_80 then
      sumC (kG Wh.FF Wh.ab3 x_80) (fun y_81=>
       let EH:=y_81.1
       some (EH,())) (fun _=>
       some (true,()))
     else none)
   else none
 else none
def Wh.KB:=bx Wh.Cm
theorem Wh.q51_v:OV Wh.Cm Wh.KB:=e_ _
def Wh.DT (xs:(th.D)):Option (((Bool))×(Unit)):=
 let xP:=xs
 let r_1:=Wh.Kf xP.1
 let r_2:=Wh.KB xP.2.1
 let xT:=Wh.zq xP.1
 let yd:=bif bif bif r_1.1 then r_2.1 else false then xP.2.1.1==xT.1 else false then(xP.2.1.2).1==xP.1.2.1 else false
 bif iy [(!bif r_1.1 then r_2.1 else false) || nQ (Wh.AQ xP.1),!r_1.1 || nQ (Wh.Cm xP.2.1),nQ (Wh.A7 xP.1)] then
  some (yd,())
 else none
def Wh.OO:=bx Wh.DT
theorem Wh.Ur:OV Wh.DT Wh.OO:=e_ _
abbrev Wh.U9:Type:=((Int)×(Int)×(List (n4.D))×(Int))×(Unit)
abbrev Wh.aif:Type:=((((List UInt8)×(Bool))×(Unit))⊕((Unit)×(Unit)))
def Wh.Fz (x:Wh.U9):Option (Wh.U9⊕Wh.aif):=
 let s_:=x.1.1
 let at_15:=x.1.2.1
 let vN:=(x.1.2.2).1
 let xS:=x.1.2.2.2
 bif decide (s_<xS) then
  let IA:=List.getD vN (Int.toNat s_) ([],[],())
  bif iy [decide (0≤s_),decide (s_<(↑(List.length vN):Int))] then
   let n_:Int:=(↑(List.length IA.1):Int)
   let zJ:=bif n_==1 then List.getD IA.1 (Int.toNat 0) 0==at_15 else false
   bif iy [!n_==1 || decide ((0:Int)≤0),!n_==1 || decide (0<n_)] then
    bif zJ then
     some (.inr (.inl ((IA.2.1,true),())))
    else
     some (.inl (((IntKind.wrap .i64 (s_+1)),at_15,vN,xS),()))
   else none
  else none
 else
  some (.inr (.inr ((),())))
def Wh.abK:(((List UInt8)×(Bool))×(Unit))⊕((Unit)×(Unit)):=.inl default
def Wh.D9 (xs:(fT.D)×(Int)):Option (((List UInt8)×(Bool))×(Unit)):=
 let fN:=xs.1
 let zL:=xs.2
 let v_2:Int:=(↑(List.length (fN.2.2.1)):Int)
 let x_25:Wh.U9:=((0,zL,fN.2.2.1,v_2),())
 bif lF Wh.Fz x_25 then
  sumC (kG Wh.Fz Wh.abK x_25) (fun y8=>
   let vT:=y8.1.1
   let y4:=y8.1.2
   some ((vT,y4),())) (fun _=>
   some (([],false),()))
 else none
def Wh.IM:=bx Wh.D9
theorem Wh.q21_v:OV Wh.D9 Wh.IM:=e_ _
abbrev Wh.Wf:Type:=((Int)×(Unit))×((fT.D))
abbrev Wh.q9_l0Y:Type:=((((Int))×(Unit)))
def Wh.FV (x:Wh.Wf):Option (Wh.Wf⊕Wh.q9_l0Y):=
 let n_7:=x.1.1
 let Du:=x.2
 bif decide (n_7<Du.1) then
  let BW:=Wh.IM (Du,n_7)
  bif iy [nQ (Wh.D9 (Du,n_7))] then
   bif(!BW.1.2) then
    some (.inr (n_7,()))
   else
    some (.inl (((IntKind.wrap .i64 (n_7+1)),()),Du))
  else none
 else
  some (.inr (n_7,()))
def Wh.acF:(((Int))×(Unit)):=default
def Wh.FR (xs:(fT.D)):Option (((Int))×(Unit)):=
 let fN:=xs
 let x_13:Wh.Wf:=((0,()),fN)
 bif lF Wh.FV x_13 then
  let y_14:=kG Wh.FV Wh.acF x_13
  let n_15:=y_14.1
  some (n_15,())
 else none
def Wh.q9':=bx Wh.FR
theorem Wh.q9_v:OV Wh.FR Wh.q9':=e_ _
def Wh.BR (xs:(th.D)):Option (((Bool))×(Unit)):=
 let xP:=xs
 let r_1:=Wh.q9' xP.2.1
 bif iy [nQ (Wh.FR xP.2.1)] then
  some ((r_1.1==xP.2.1.1),())
 else none
def Wh.E_:=bx Wh.BR
theorem Wh.q11_v:OV Wh.BR Wh.E_:=e_ _
def Wh.Ef (xs:(nc.D)):Option (((Bool))×(Unit)):=
 let fe:=xs
 let r_1:=Wh.IN fe.1
 let r_2:=Wh.pg (fe.2.1,0,99999)
 let xT:=Wh.pg (fe.2.2.2.2.1,0,99999)
 let zZ:=bif bif !r_1.1 then true else !r_2.1 then true else !xT.1
 bif iy [(!!bif !r_1.1 then true else !r_2.1) || nQ (Wh.xU (fe.2.2.2.2.1,0,99999)),!!!r_1.1 || nQ (Wh.xU (fe.2.1,0,99999)),nQ (Wh.Co fe.1)] then
  bif zZ then
   some (false,())
  else
   let w8:=decide (fe.2.2.2.2.1>0)
   let yJ:=Wh.Uv ((fe.2.2.2.2.2).1)
   let FW:=Wh.OO ((fe.2.2.2.2.2).1)
   let yu:=bif bif !w8 then !yJ.1 else false then true else bif w8 then !FW.1 else false
   bif iy [!(w8 && !bif !w8 then !yJ.1 else false) || nQ (Wh.DT ((fe.2.2.2.2.2).1)),!!w8 || nQ (Wh.G3 ((fe.2.2.2.2.2).1))] then
    bif yu then
     some (false,())
    else
     bif(fe.2.2.1==0) then
      let s_:Bool:=(fe.2.2.2).1 == []
      some (bif s_ then !w8 else false,())
     else
      let xO:=fe.2.1==0
      let C7:=Wh.Ke ((fe.2.2.2).1)
      let xS:=bif xO then true else !C7.1
      bif iy [!!xO || nQ (Wh.BT ((fe.2.2.2).1))] then
       bif xS then
        some (false,())
       else
        let nP:=fe.2.2.1==1
        bif nP then
         bif nP then
          let HF:=Wh.E_ ((fe.2.2.2.2.2).1)
          let wX:=bif !w8 then true else !HF.1
          bif iy [!!!w8 || nQ (Wh.BR ((fe.2.2.2.2.2).1))] then
           some (wX,())
          else none
         else
          bif(fe.2.2.1==2) then
           let x9:=Wh.E_ ((fe.2.2.2.2.2).1)
           let zy:=bif w8 then !x9.1 else false
           bif iy [!w8 || nQ (Wh.BR ((fe.2.2.2.2.2).1))] then
            some (zy,())
           else none
          else
           bif(fe.2.2.1==3) then
            let BY:=Wh.E_ ((fe.2.2.2.2.2).1)
            let y4:=bif w8 then BY.1 else false
            bif iy [!w8 || nQ (Wh.BR ((fe.2.2.2.2.2).1))] then
             some (y4,())
            else none
           else
            some (false,())
        else
         bif(fe.2.2.1==4) then
          let KK:=Wh.E_ ((fe.2.2.2.2.2).1)
          let yA:=bif !w8 then true else !KK.1
          bif iy [!!!w8 || nQ (Wh.BR ((fe.2.2.2.2.2).1))] then
           some (yA,())
          else none
         else
          bif(fe.2.2.1==2) then
           let AA:=Wh.E_ ((fe.2.2.2.2.2).1)
           let EB:=bif w8 then !AA.1 else false
           bif iy [!w8 || nQ (Wh.BR ((fe.2.2.2.2.2).1))] then
            some (EB,())
           else none
          else
           bif(fe.2.2.1==3) then
            let AB:=Wh.E_ ((fe.2.2.2.2.2).1)
            let Cv:=bif w8 then AB.1 else false
            bif iy [!w8 || nQ (Wh.BR ((fe.2.2.2.2.2).1))] then
             some (Cv,())
            else none
           else
            some (false,())
      else none
   else none
 else none
def Wh.O8:=bx Wh.Ef
theorem Wh.Vt:OV Wh.Ef Wh.O8:=e_ _
abbrev Wh.V7:Type:=((Int)×(Unit)×(List (an.D))×(Int))×((gv.D))
abbrev Wh.ai3:Type:=((((Bool))×(Unit))⊕((Unit)×(Unit)))
def Wh.Et (x:Wh.V7):Option (Wh.V7⊕Wh.ai3):=
 let KV:=x.1.1
 let Wx:=(x.1.2.2).1
 let v_145:=x.1.2.2.2
 let Iu:=x.2
 bif decide (KV<v_145) then
  let Bj:an.D:=List.getD Wx (Int.toNat KV) (0,[],0,[],())
  bif iy [decide (0≤KV),decide (KV<(↑(List.length Wx):Int))] then
   let PK:Int:=(↑(List.length ((Iu.2.2.2).1)):Int)
   let PL:=bif decide (Bj.2.2.1≤PK) then !(Prod.fst (List.getD ((Iu.2.2.2).1) (Int.toNat (IntKind.wrap .i64 (Bj.2.2.1-1))) (0,[],0,[],()))==Bj.1&&(Prod.fst (Prod.snd (List.getD ((Iu.2.2.2).1) (Int.toNat (IntKind.wrap .i64 (Bj.2.2.1-1))) (0,[],0,[],())))==Bj.2.1&&(Prod.fst (Prod.snd (Prod.snd (List.getD ((Iu.2.2.2).1) (Int.toNat (IntKind.wrap .i64 (Bj.2.2.1-1))) (0,[],0,[],()))))==Bj.2.2.1&&(Prod.fst (Prod.snd (Prod.snd (Prod.snd (List.getD ((Iu.2.2.2).1) (Int.toNat (IntKind.wrap .i64 (Bj.2.2.1-1))) (0,[],0,[],())))))==(Bj.2.2.2).1&&true)))) else false
   bif iy [!decide (Bj.2.2.1≤PK) || decide (0≤IntKind.wrap .i64 (Bj.2.2.1-1)),!decide (Bj.2.2.1≤PK) || decide (IntKind.wrap .i64 (Bj.2.2.1-1)<PK)] then
    bif PL then
     some (.inr (.inl (false,())))
    else
     some (.inl (((IntKind.wrap .i64 (KV+1)),(),Wx,v_145),Iu))
   else none
  else none
 else
  some (.inr (.inr ((),())))
def Wh.acD:(((Bool))×(Unit))⊕((Unit)×(Unit)):=.inl default
abbrev Wh.V6:Type:=((Int)×(Unit)×(Unit)×(Int))×((gv.D)×(List (an.D)))
abbrev Wh.ai2:Type:=((((Bool))×(Unit))⊕((Unit)×(Unit)))
def Wh.Es (x:Wh.V6):Option (Wh.V6⊕Wh.ai2):=
 let KU:=x.1.1
 let v_113:=x.1.2.2.2
 let Is:=x.2.1
 let J1:=x.2.2
 bif decide (KU<v_113) then
  let Bi:an.D:=List.getD J1 (Int.toNat KU) (0,[],0,[],())
  bif iy [decide (0≤KU),decide (KU<(↑(List.length J1):Int))] then
   let PG:Int:=(↑(List.length ((Is.2.2.2).1)):Int)
   let v_121:=bif decide (Bi.2.2.1≤PG) then !(Prod.fst (List.getD ((Is.2.2.2).1) (Int.toNat (IntKind.wrap .i64 (Bi.2.2.1-1))) (0,[],0,[],()))==Bi.1&&(Prod.fst (Prod.snd (List.getD ((Is.2.2.2).1) (Int.toNat (IntKind.wrap .i64 (Bi.2.2.1-1))) (0,[],0,[],())))==Bi.2.1&&(Prod.fst (Prod.snd (Prod.snd (List.getD ((Is.2.2.2).1) (Int.toNat (IntKind.wrap .i64 (Bi.2.2.1-1))) (0,[],0,[],()))))==Bi.2.2.1&&(Prod.fst (Prod.snd (Prod.snd (Prod.snd (List.getD ((Is.2.2.2).1) (Int.toNat (IntKind.wrap .i64 (Bi.2.2.1-1))) (0,[],0,[],())))))==(Bi.2.2.2).1&&true)))) else false
   bif iy [!decide (Bi.2.2.1≤PG) || decide (0≤IntKind.wrap .i64 (Bi.2.2.1-1)),!decide (Bi.2.2.1≤PG) || decide (IntKind.wrap .i64 (Bi.2.2.1-1)<PG)] then
    bif v_121 then
     some (.inr (.inl (false,())))
    else
     some (.inl (((IntKind.wrap .i64 (KU+1)),(),(),v_113),Is,J1))
   else none
  else none
 else
  some (.inr (.inr ((),())))
def Wh.acC:(((Bool))×(Unit))⊕((Unit)×(Unit)):=.inl default
abbrev Wh.V5:Type:=((Int)×(List (an.D))×(Unit)×(Int))×((gv.D))
abbrev Wh.ai1:Type:=((((Bool))×(Unit))⊕(((Unit))×((gv.D))))
def Wh.Er (x:Wh.V5):Option (Wh.V5⊕Wh.ai1):=
 let K4:=x.1.1
 let K5:=x.1.2.1
 let v_79:=x.1.2.2.2
 let J4:=x.2
 bif decide (K4<v_79) then
  let E3:an.D:=List.getD K5 (Int.toNat K4) (0,[],0,[],())
  bif iy [decide (0≤K4),decide (K4<(↑(List.length K5):Int))] then
   let EH:=IntKind.wrap .i64 (K4+1)
   let r_86:=Wh.OS (E3.1,E3.2.1,(E3.2.2.2).1)
   let v_87:=bif E3.2.2.1 != EH then true else !r_86.1
   bif iy [!!E3.2.2.1 != EH || nQ (Wh.q16 (E3.1,E3.2.1,(E3.2.2.2).1))] then
    bif v_87 then
     some (.inr (.inl (false,())))
    else
     some (.inl ((EH,K5,(),v_79),J4))
   else none
  else none
 else
  some (.inr (.inr ((),J4)))
def Wh.acB:(((Bool))×(Unit))⊕(((Unit))×((gv.D))):=.inl default
abbrev Wh.V4:Type:=((Int)×(List (r5.D))×(Unit)×(Int))×((gv.D))
abbrev Wh.ai0:Type:=((((Bool))×(Unit))⊕(((Unit))×((gv.D))))
def Wh.Ep (x:Wh.V4):Option (Wh.V4⊕Wh.ai0):=
 let EE:=x.1.1
 let EG:=x.1.2.1
 let PM:=x.1.2.2.2
 let ls_51:=x.2
 bif decide (EE<PM) then
  let IB:=List.getD EG (Int.toNat EE) (0,[],false,())
  bif iy [decide (0≤EE),decide (EE<(↑(List.length EG):Int))] then
   let xX:=IB.1 != 9
   let B3:=Wh.IN IB.1
   let AF:=bif bif xX then !B3.1 else false then true else decide ((↑(List.length IB.2.1):Int)>160)
   bif iy [!xX || nQ (Wh.Co IB.1)] then
    bif AF then
     some (.inr (.inl (false,())))
    else
     some (.inl (((IntKind.wrap .i64 (EE+1)),EG,(),PM),ls_51))
   else none
  else none
 else
  some (.inr (.inr ((),ls_51)))
def Wh.acA:(((Bool))×(Unit))⊕(((Unit))×((gv.D))):=.inl default
abbrev Wh.V3:Type:=((Int)×(Unit)×(List (nc.D))×(Int))×((gv.D))
abbrev Wh.aiZ:Type:=((((Bool))×(Unit))⊕(((Unit))×((gv.D))))
def Wh.Eo (x:Wh.V3):Option (Wh.V3⊕Wh.aiZ):=
 let nP:=x.1.1
 let nG:=(x.1.2.2).1
 let n_:=x.1.2.2.2
 let zc:=x.2
 bif decide (nP<n_) then
  let zM:=List.getD nG (Int.toNat nP) (0,0,0,[],0,((0,0,[],[],()),(0,0,[],()),()),())
  bif iy [decide (0≤nP),decide (nP<(↑(List.length nG):Int))] then
   let yK:=zM.1 != nP
   let BX:=Wh.O8 zM
   let vT:=bif bif yK then true else !BX.1 then true else decide (zM.2.2.2.2.1>(↑(List.length ((zc.2.2.2).1)):Int))
   bif iy [!!yK || nQ (Wh.Ef zM)] then
    bif vT then
     some (.inr (.inl (false,())))
    else
     some (.inl (((IntKind.wrap .i64 (nP+1)),(),nG,n_),zc))
   else none
  else none
 else
  some (.inr (.inr ((),zc)))
def Wh.acz:(((Bool))×(Unit))⊕(((Unit))×((gv.D))):=.inl default
def Wh.q91 (xs:(gv.D)):Option (((Bool))×(Unit)):=
 let w_0:=xs
 let r_1:=Wh.q50' w_0.1
 let x7:=bif bif !r_1.1 then true else(↑(List.length w_0.2.1):Int) != 4 then true else decide ((↑(List.length (w_0.2.2.1)):Int)>60)
 bif iy [nQ (Wh.q50 w_0.1)] then
  bif x7 then
   some (false,())
  else
   let yB:Int:=(↑(List.length w_0.2.1):Int)
   let F5:Wh.V3:=((0,(),w_0.2.1,yB),w_0)
   bif lF Wh.Eo F5 then
    sumC (kG Wh.Eo Wh.acz F5) (fun F9=>
     let yA:=F9.1
     some (yA,())) (fun HV=>
     let yg:=HV.2
     let yF:Int:=(↑(List.length (yg.2.2.1)):Int)
     let x_60:Wh.V4:=((0,yg.2.2.1,(),yF),yg)
     bif lF Wh.Ep x_60 then
      sumC (kG Wh.Ep Wh.acA x_60) (fun y_61=>
       let v_63:=y_61.1
       some (v_63,())) (fun z_62=>
       let SL:=z_62.2
       let v_65:Int:=(↑(List.length ((SL.2.2.2).1)):Int)
       let x_88:Wh.V5:=((0,(SL.2.2.2).1,(),v_65),SL)
       bif lF Wh.Er x_88 then
        sumC (kG Wh.Er Wh.acB x_88) (fun y_89=>
         let v_91:=y_89.1
         some (v_91,())) (fun z_90=>
         let Cc:=z_90.2
         bif(!Cc.1.1) then
          let r_94:=Wh.Pe ((Cc.1.2.2).1)
          bif iy [nQ (Wh.C5 ((Cc.1.2.2).1))] then
           let Pq:=Wh.ON r_94.1.1
           bif iy [nQ (Wh.DR r_94.1.1)] then
            let Dc:Int:=(↑(List.length ((Cc.2.2.2).1)):Int)
            let r_99:=Wh.pg (Pq.1.1.1,Dc,IntKind.wrap .i64 (Dc+1))
            bif iy [nQ (Wh.xU (Pq.1.1.1,Dc,IntKind.wrap .i64 (Dc+1)))] then
             bif !r_99.1 then
              some (false,())
             else
              let v_100:Int:=(↑(List.length ((Pq.1.1.2).1)):Int)
              let x_123:Wh.V6:=((0,(),(),v_100),Cc,(Pq.1.1.2).1)
              bif lF Wh.Es x_123 then
               sumC (kG Wh.Es Wh.acC x_123) (fun y_124=>
                let v_126:=y_124.1
                some (v_126,())) (fun _=>
                some (true,()))
              else none
            else none
           else none
          else none
         else
          let PJ:Int:=(↑(List.length ((Cc.2.2.2).1)):Int)
          let r_130:=Wh.pg ((Cc.1.2.2.2.1).1,PJ,IntKind.wrap .i64 (PJ+0))
          bif iy [nQ (Wh.xU ((Cc.1.2.2.2.1).1,PJ,IntKind.wrap .i64 (PJ+0)))] then
           bif !r_130.1 then
            some (false,())
           else
            let Ww:Int:=(↑(List.length ((Cc.1.2.2.2.1).2.1)):Int)
            let x_154:Wh.V7:=((0,(),(Cc.1.2.2.2.1).2.1,Ww),Cc)
            bif lF Wh.Et x_154 then
             sumC (kG Wh.Et Wh.acD x_154) (fun y_155=>
              let v_157:=y_155.1
              some (v_157,())) (fun _=>
              some (true,()))
            else none
          else none)
       else none)
     else none)
   else none
 else none
def Wh.q91':=bx Wh.q91
theorem Wh.V8:OV Wh.q91 Wh.q91':=e_ _
abbrev Wh.TP:Type:=((Int)×(List (Int))×(List (Int)))×(Unit)
abbrev Wh.ahH:Type:=((((Bool))×(Unit))⊕((Unit)×(Unit)))
def Wh.GO (x:Wh.TP):Option (Wh.TP⊕Wh.ahH):=
 let Gn:=x.1.1
 let b_12:=x.1.2.1
 let x4:=x.1.2.2
 let s_:=decide (Gn<(↑(List.length x4):Int))
 bif s_ then
  let xO:=List.getD x4 (Int.toNat Gn) 0
  let vN:=List.getD b_12 (Int.toNat Gn) 0
  let xS:=xO != vN
  bif iy [decide (0≤Gn),decide (Gn<(↑(List.length b_12):Int)),decide (0≤Gn),s_] then
   bif xS then
    some (.inr (.inl (false,())))
   else
    some (.inl (((IntKind.wrap .i64 (Gn+1)),b_12,x4),()))
  else none
 else
  some (.inr (.inr ((),())))
def Wh.aaO:(((Bool))×(Unit))⊕((Unit)×(Unit)):=.inl default
def Wh.DI (xs:(List (Int))×(List (Int))):Option (((Bool))×(Unit)):=
 let bn:=xs.1
 let b_1:=xs.2
 let v_2:Bool:=(↑(List.length bn):Int) != (↑(List.length b_1):Int)
 bif v_2 then
  some (false,())
 else
  let x_19:Wh.TP:=((0,b_1,bn),())
  bif lF Wh.GO x_19 then
   sumC (kG Wh.GO Wh.aaO x_19) (fun F7=>
    let yP:=F7.1
    some (yP,())) (fun _=>
    some (true,()))
  else none
def Wh.GN:=bx Wh.DI
theorem Wh.q123_v:OV Wh.DI Wh.GN:=e_ _
def Wh.GQ (xs:(so.D)×(so.D)):Option (((Bool))×(Unit)):=
 let bn:=xs.1
 let b_1:=xs.2
 bif(bn.1 != b_1.1) then
  some (false,())
 else
  bif(bn.2.1 != b_1.2.1) then
   some (false,())
  else
   let nE:=Wh.GN (bn.2.2.1,b_1.2.2.1)
   bif iy [nQ (Wh.DI (bn.2.2.1,b_1.2.2.1))] then
    bif !nE.1 then
     some (false,())
    else
     let xT:=Wh.GN ((bn.2.2.2).1,(b_1.2.2.2).1)
     bif iy [nQ (Wh.DI ((bn.2.2.2).1,(b_1.2.2.2).1))] then
      bif !xT.1 then
       some (false,())
      else
       some (true,())
     else none
   else none
def Wh.OB:=bx Wh.GQ
theorem Wh.q125_v:OV Wh.GQ Wh.OB:=e_ _
def Wh.Hq (xs:(n4.D)×(n4.D)):Option (((Bool))×(Unit)):=
 let bn:=xs.1
 let b_1:=xs.2
 let r_2:=Wh.GN (bn.1,b_1.1)
 bif iy [nQ (Wh.DI (bn.1,b_1.1))] then
  bif !r_2.1 then
   some (false,())
  else
   bif(!bn.2.1==b_1.2.1) then
    some (false,())
   else
    some (true,())
 else none
def Wh.O1:=bx Wh.Hq
theorem Wh.q178_v:OV Wh.Hq Wh.O1:=e_ _
abbrev Wh.Ux:Type:=((Int)×(List (n4.D))×(List (n4.D)))×(Unit)
abbrev Wh.ahX:Type:=((((Bool))×(Unit))⊕((Unit)×(Unit)))
def Wh.G6 (x:Wh.Ux):Option (Wh.Ux⊕Wh.ahX):=
 let mb:=x.1.1
 let yM:=x.1.2.1
 let yL:=x.1.2.2
 let nP:Int:=(↑(List.length yL):Int)
 bif decide (mb<nP) then
  let n_:=List.getD yL (Int.toNat mb) ([],[],())
  let wX:=List.getD yM (Int.toNat mb) ([],[],())
  let x9:=Wh.O1 (n_,wX)
  bif iy [nQ (Wh.Hq (n_,wX)),decide (0≤mb),decide (mb<(↑(List.length yM):Int)),decide (0≤mb),decide (mb<nP)] then
   bif !x9.1 then
    some (.inr (.inl (false,())))
   else
    some (.inl (((IntKind.wrap .i64 (mb+1)),yM,yL),()))
  else none
 else
  some (.inr (.inr ((),())))
def Wh.abi:(((Bool))×(Unit))⊕((Unit)×(Unit)):=.inl default
def Wh.G5 (xs:(List (n4.D))×(List (n4.D))):Option (((Bool))×(Unit)):=
 let bn:=xs.1
 let b_1:=xs.2
 let v_2:Int:=(↑(List.length bn):Int)
 let w9:Int:=(↑(List.length b_1):Int)
 let x7:=v_2 != w9
 bif x7 then
  some (false,())
 else
  let x_25:Wh.Ux:=((0,b_1,bn),())
  bif lF Wh.G6 x_25 then
   sumC (kG Wh.G6 Wh.abi x_25) (fun y8=>
    let vT:=y8.1
    some (vT,())) (fun _=>
    some (true,()))
  else none
def Wh.OR:=bx Wh.G5
theorem Wh.q158_v:OV Wh.G5 Wh.OR:=e_ _
def Wh.q62 (xs:(fT.D)×(fT.D)):Option (((Bool))×(Unit)):=
 let bn:=xs.1
 let b_1:=xs.2
 bif(bn.1 != b_1.1) then
  some (false,())
 else
  bif(bn.2.1 != b_1.2.1) then
   some (false,())
  else
   let nE:=Wh.OR (bn.2.2.1,b_1.2.2.1)
   bif iy [nQ (Wh.G5 (bn.2.2.1,b_1.2.2.1))] then
    bif !nE.1 then
     some (false,())
    else
     some (true,())
   else none
def Wh.Pa:=bx Wh.q62
theorem Wh.q62_v:OV Wh.q62 Wh.Pa:=e_ _
def Wh.q31 (xs:(th.D)×(th.D)):Option (((Bool))×(Unit)):=
 let bn:=xs.1
 let b_1:=xs.2
 let r_2:=Wh.OB (bn.1,b_1.1)
 bif iy [nQ (Wh.GQ (bn.1,b_1.1))] then
  bif !r_2.1 then
   some (false,())
  else
   let r_3:=Wh.Pa (bn.2.1,b_1.2.1)
   bif iy [nQ (Wh.q62 (bn.2.1,b_1.2.1))] then
    bif !r_3.1 then
     some (false,())
    else
     some (true,())
   else none
 else none
def Wh.O4:=bx Wh.q31
theorem Wh.q31_v:OV Wh.q31 Wh.O4:=e_ _
def Wh.q57 (xs:(nc.D)×(nc.D)):Option (((Bool))×(Unit)):=
 let bn:=xs.1
 let b_1:=xs.2
 bif(bn.1 != b_1.1) then
  some (false,())
 else
  bif(bn.2.1 != b_1.2.1) then
   some (false,())
  else
   bif(bn.2.2.1 != b_1.2.2.1) then
    some (false,())
   else
    bif(!(bn.2.2.2).1==(b_1.2.2.2).1) then
     some (false,())
    else
     bif(bn.2.2.2.2.1 != b_1.2.2.2.2.1) then
      some (false,())
     else
      let A_:=Wh.O4 ((bn.2.2.2.2.2).1,(b_1.2.2.2.2.2).1)
      bif iy [nQ (Wh.q31 ((bn.2.2.2.2.2).1,(b_1.2.2.2.2.2).1))] then
       bif !A_.1 then
        some (false,())
       else
        some (true,())
      else none
def Wh.O9:=bx Wh.q57
theorem Wh.q57_v:OV Wh.q57 Wh.O9:=e_ _
abbrev Wh.Vg:Type:=((Int)×(List (nc.D))×(List (nc.D)))×(Unit)
abbrev Wh.ail:Type:=((((Bool))×(Unit))⊕((Unit)×(Unit)))
def Wh.Hu (x:Wh.Vg):Option (Wh.Vg⊕Wh.ail):=
 let mb:=x.1.1
 let yM:=x.1.2.1
 let yL:=x.1.2.2
 let nP:Int:=(↑(List.length yL):Int)
 bif decide (mb<nP) then
  let n_:=List.getD yL (Int.toNat mb) (0,0,0,[],0,((0,0,[],[],()),(0,0,[],()),()),())
  let wX:=List.getD yM (Int.toNat mb) (0,0,0,[],0,((0,0,[],[],()),(0,0,[],()),()),())
  let x9:=Wh.O9 (n_,wX)
  bif iy [nQ (Wh.q57 (n_,wX)),decide (0≤mb),decide (mb<(↑(List.length yM):Int)),decide (0≤mb),decide (mb<nP)] then
   bif !x9.1 then
    some (.inr (.inl (false,())))
   else
    some (.inl (((IntKind.wrap .i64 (mb+1)),yM,yL),()))
  else none
 else
  some (.inr (.inr ((),())))
def Wh.abQ:(((Bool))×(Unit))⊕((Unit)×(Unit)):=.inl default
def Wh.q30 (xs:(List (nc.D))×(List (nc.D))):Option (((Bool))×(Unit)):=
 let bn:=xs.1
 let b_1:=xs.2
 let v_2:Int:=(↑(List.length bn):Int)
 let w9:Int:=(↑(List.length b_1):Int)
 let x7:=v_2 != w9
 bif x7 then
  some (false,())
 else
  let x_25:Wh.Vg:=((0,b_1,bn),())
  bif lF Wh.Hu x_25 then
   sumC (kG Wh.Hu Wh.abQ x_25) (fun y8=>
    let vT:=y8.1
    some (vT,())) (fun _=>
    some (true,()))
  else none
def Wh.q30':=bx Wh.q30
theorem Wh.q30_v:OV Wh.q30 Wh.q30':=e_ _
def Wh.q59 (xs:(r5.D)×(r5.D)):Option (((Bool))×(Unit)):=
 let bn:=xs.1
 let b_1:=xs.2
 bif(bn.1 != b_1.1) then
  some (false,())
 else
  bif(!bn.2.1==b_1.2.1) then
   some (false,())
  else
   bif(!bn.2.2.1==b_1.2.2.1) then
    some (false,())
   else
    some (true,())
def Wh.O_:=bx Wh.q59
theorem Wh.q59_v:OV Wh.q59 Wh.O_:=e_ _
abbrev Wh.Vh:Type:=((Int)×(List (r5.D))×(List (r5.D)))×(Unit)
abbrev Wh.aim:Type:=((((Bool))×(Unit))⊕((Unit)×(Unit)))
def Wh.Hv (x:Wh.Vh):Option (Wh.Vh⊕Wh.aim):=
 let mb:=x.1.1
 let yM:=x.1.2.1
 let yL:=x.1.2.2
 let nP:Int:=(↑(List.length yL):Int)
 bif decide (mb<nP) then
  let n_:=List.getD yL (Int.toNat mb) (0,[],false,())
  let wX:=List.getD yM (Int.toNat mb) (0,[],false,())
  let x9:=Wh.O_ (n_,wX)
  bif iy [nQ (Wh.q59 (n_,wX)),decide (0≤mb),decide (mb<(↑(List.length yM):Int)),decide (0≤mb),decide (mb<nP)] then
   bif !x9.1 then
    some (.inr (.inl (false,())))
   else
    some (.inl (((IntKind.wrap .i64 (mb+1)),yM,yL),()))
  else none
 else
  some (.inr (.inr ((),())))
def Wh.abR:(((Bool))×(Unit))⊕((Unit)×(Unit)):=.inl default
def Wh.q32 (xs:(List (r5.D))×(List (r5.D))):Option (((Bool))×(Unit)):=
 let bn:=xs.1
 let b_1:=xs.2
 let v_2:Int:=(↑(List.length bn):Int)
 let w9:Int:=(↑(List.length b_1):Int)
 let x7:=v_2 != w9
 bif x7 then
  some (false,())
 else
  let x_25:Wh.Vh:=((0,b_1,bn),())
  bif lF Wh.Hv x_25 then
   sumC (kG Wh.Hv Wh.abR x_25) (fun y8=>
    let vT:=y8.1
    some (vT,())) (fun _=>
    some (true,()))
  else none
def Wh.q32':=bx Wh.q32
theorem Wh.q32_v:OV Wh.q32 Wh.q32':=e_ _
def Wh.q98 (xs:(gv.D)×(gv.D)):Option (((Bool))×(Unit)):=
 let bn:=xs.1
 let b_1:=xs.2
 let r_2:=Wh.q61' (bn.1,b_1.1)
 bif iy [nQ (Wh.q61 (bn.1,b_1.1))] then
  bif !r_2.1 then
   some (false,())
  else
   let r_3:=Wh.q30' (bn.2.1,b_1.2.1)
   bif iy [nQ (Wh.q30 (bn.2.1,b_1.2.1))] then
    bif !r_3.1 then
     some (false,())
    else
     let nE:=Wh.q32' (bn.2.2.1,b_1.2.2.1)
     bif iy [nQ (Wh.q32 (bn.2.2.1,b_1.2.2.1))] then
      bif !nE.1 then
       some (false,())
      else
       let xT:=Wh.Ph ((bn.2.2.2).1,(b_1.2.2.2).1)
       bif iy [nQ (Wh.q96 ((bn.2.2.2).1,(b_1.2.2.2).1))] then
        bif !xT.1 then
         some (false,())
        else
         some (true,())
       else none
     else none
   else none
 else none
def Wh.q98':=bx Wh.q98
theorem Wh.q98_v:OV Wh.q98 Wh.q98':=e_ _
abbrev Wh.UW:Type:=((Int)×(Unit)×(Int))×((fT.D))
abbrev Wh.ah9:Type:=((((List UInt8)×(Bool))×(Unit))⊕((Unit)×(Unit)))
def Wh.Fu (x:Wh.UW):Option (Wh.UW⊕Wh.ah9):=
 let yR:=x.1.1
 let at_14:=x.1.2.2
 let yD:=x.2
 let vN:Int:=(↑(List.length (yD.2.2.1)):Int)
 bif decide (yR<vN) then
  let nP:=List.getD (yD.2.2.1) (Int.toNat yR) ([],[],())
  let yP:=bif(↑(List.length nP.1):Int)==1 then List.getD nP.1 (Int.toNat 0) 0==at_14 else false
  bif iy [!(↑(List.length nP.1):Int)==1 || decide ((0:Int)≤0),!(↑(List.length nP.1):Int)==1 || decide (0<(↑(List.length nP.1):Int)),!(↑(List.length nP.1):Int)==1 || decide (0≤yR),!(↑(List.length nP.1):Int)==1 || decide (yR<vN),decide (0≤yR),decide (yR<vN)] then
   bif yP then
    bif iy [decide (0≤yR),decide (yR<vN)] then
     some (.inr (.inl ((nP.2.1,true),())))
    else none
   else
    some (.inl (((IntKind.wrap .i64 (yR+1)),(),at_14),yD))
  else none
 else
  some (.inr (.inr ((),())))
def Wh.abz:(((List UInt8)×(Bool))×(Unit))⊕((Unit)×(Unit)):=.inl default
def Wh.DZ (xs:(fT.D)×(Int)):Option (((List UInt8)×(Bool))×(Unit)):=
 let fN:=xs.1
 let zL:=xs.2
 let x_24:Wh.UW:=((0,(),zL),fN)
 bif lF Wh.Fu x_24 then
  sumC (kG Wh.Fu Wh.abz x_24) (fun PU=>
   let yz:=PU.1.1
   let vT:=PU.1.2
   some ((yz,vT),())) (fun _=>
   some (([],false),()))
 else none
def Wh.Hi:=bx Wh.DZ
theorem Wh.abA:OV Wh.DZ Wh.Hi:=e_ _
abbrev Wh.VX:Type:=((Int)×(Unit))×((fT.D))
abbrev Wh.aiU:Type:=((((Int))×(Unit)))
def Wh.FP (x:Wh.VX):Option (Wh.VX⊕Wh.aiU):=
 let n_6:=x.1.1
 let ls_7:=x.2
 let yJ:=Wh.Hi (ls_7,n_6)
 bif iy [nQ (Wh.DZ (ls_7,n_6))] then
  bif(!yJ.1.2) then
   some (.inr (n_6,()))
  else
   some (.inl (((IntKind.wrap .i64 (n_6+1)),()),ls_7))
 else none
def Wh.acs:(((Int))×(Unit)):=default
def Wh.q84 (xs:(fT.D)):Option (((Int))×(Unit)):=
 let fN:=xs
 let x_11:Wh.VX:=((0,()),fN)
 bif lF Wh.FP x_11 then
  let y_12:=kG Wh.FP Wh.acs x_11
  let Ao:=y_12.1
  some (Ao,())
 else none
def Wh.q84':=bx Wh.q84
theorem Wh.q84_v:OV Wh.q84 Wh.q84':=e_ _
abbrev Wh.Ud:Type:=((Int)×(List UInt8)×(Unit))×((th.D))
abbrev Wh.ahQ:Type:=((((Unit)×(List UInt8))×((th.D))))
def Wh.GY (x:Wh.Ud):Option (Wh.Ud⊕Wh.ahQ):=
 let yp:=x.1.1
 let S6:=x.1.2.1
 let Ax:=x.2
 let zY:=Wh.q84' Ax.2.1
 bif iy [nQ (Wh.q84 Ax.2.1)] then
  bif decide (yp<zY.1) then
   let IS:=Wh.Hi (Ax.2.1,yp)
   bif iy [nQ (Wh.DZ (Ax.2.1,yp))] then
    let xO:List UInt8:=S6++IS.1.1
    bif iy [decide (List.length S6+List.length IS.1.1≤dh)] then
     some (.inl (((IntKind.wrap .i64 (yp+1)),xO,()),Ax))
    else none
   else none
  else
   some (.inr (((),S6),Ax))
 else none
def Wh.aa6:(((Unit)×(List UInt8))×((th.D))):=default
def Wh.Ff (xs:(th.D)):Option (((List UInt8))×(Unit)):=
 let xP:=xs
 let x_17:Wh.Ud:=((0,[],()),xP)
 bif lF Wh.GY x_17 then
  let B6:=kG Wh.GY Wh.aa6 x_17
  let Oo:=B6.1.2
  let yN:=B6.2
  bif decide ((↑(List.length Oo):Int)>yN.1.1) then
   let yP:List UInt8:=List.take (Int.toNat (yN.1.1-0)) (List.drop (Int.toNat 0) Oo)
   bif iy [true,decide (0≤yN.1.1),decide (yN.1.1≤(↑(List.length Oo):Int))] then
    some (yP,())
   else none
  else
   some (Oo,())
 else none
def Wh.Uc:=bx Wh.Ff
theorem Wh.aa7:OV Wh.Ff Wh.Uc:=e_ _
abbrev Wh.Vq:Type:=((Int)×(Unit))×((gv.D))
abbrev Wh.ais:Type:=((((Bool))×(Unit))⊕((Unit)×(Unit)))
def Wh.C0 (x:Wh.Vq):Option (Wh.Vq⊕Wh.ais):=
 let Af:=x.1.1
 let zG:=x.2
 let yz:Int:=(↑(List.length zG.2.1):Int)
 bif decide (Af<yz) then
  let yI:=List.getD zG.2.1 (Int.toNat Af) (0,0,0,[],0,((0,0,[],[],()),(0,0,[],()),()),())
  bif iy [decide (0≤Af),decide (Af<yz)] then
   bif(yI.2.2.2.2.1==0) then
    some (.inl (((IntKind.wrap .i64 (Af+1)),()),zG))
   else
    let yy:an.D:=List.getD ((zG.2.2.2).1) (Int.toNat (IntKind.wrap .i64 (yI.2.2.2.2.1-1))) (0,[],0,[],())
    let yA:=IntKind.wrap .i64 (yI.2.2.2.2.1-1)
    bif iy [decide (0≤yA),decide (yA<(↑(List.length ((zG.2.2.2).1)):Int))] then
     let Eu:=Wh.Uc ((yI.2.2.2.2.2).1)
     bif iy [nQ (Wh.Ff ((yI.2.2.2.2.2).1))] then
      let AA:=Wh.Pb yI.1
      let IW:=bif bif bif bif bif yy.1 != AA.1 then true else !yy.2.1==(yI.2.2.2).1 then true else decide ((↑(List.length Eu.1):Int)>(↑(List.length ((yy.2.2.2).1)):Int)) then true else !List.take (Int.toNat ((↑(List.length Eu.1):Int)-0)) (List.drop (Int.toNat 0) ((yy.2.2.2).1))==Eu.1 then true else(yI.2.2.2.2.2).1.1.1 != (↑(List.length ((yy.2.2.2).1)):Int) then true else bif yI.2.2.1==3 then !Eu.1==(yy.2.2.2).1 else false
      bif iy [(!!bif bif yy.1 != AA.1 then true else !yy.2.1==(yI.2.2.2).1 then true else decide ((↑(List.length Eu.1):Int)>(↑(List.length ((yy.2.2.2).1)):Int))) || decide ((0:Int)≤0),(!!bif bif yy.1 != AA.1 then true else !yy.2.1==(yI.2.2.2).1 then true else decide ((↑(List.length Eu.1):Int)>(↑(List.length ((yy.2.2.2).1)):Int))) || decide (0≤(↑(List.length Eu.1):Int)),(!!bif bif yy.1 != AA.1 then true else !yy.2.1==(yI.2.2.2).1 then true else decide ((↑(List.length Eu.1):Int)>(↑(List.length ((yy.2.2.2).1)):Int))) || decide ((↑(List.length Eu.1):Int)≤(↑(List.length ((yy.2.2.2).1)):Int)),nQ (Wh.q80 yI.1)] then
       bif IW then
        some (.inr (.inl (false,())))
       else
        some (.inl (((IntKind.wrap .i64 (Af+1)),()),zG))
      else none
     else none
    else none
  else none
 else
  some (.inr (.inr ((),())))
def Wh.abX:(((Bool))×(Unit))⊕((Unit)×(Unit)):=.inl default
def Wh.q42 (xs:(gv.D)):Option (((Bool))×(Unit)):=
 let w_0:=xs
 let r_1:=Wh.Tm w_0
 bif iy [nQ (Wh.E9 w_0)] then
  bif !r_1.1 then
   some (false,())
  else
   let Cz:Wh.Vq:=((0,()),w_0)
   bif lF Wh.C0 Cz then
    sumC (kG Wh.C0 Wh.abX Cz) (fun Df=>
     let y5:=Df.1
     some (y5,())) (fun _=>
     some (true,()))
   else none
 else none
def Wh.q42':=bx Wh.q42
theorem Wh.q42_v:OV Wh.q42 Wh.q42':=e_ _
abbrev Wh.VY:Type:=((Int)×(List UInt8)×(Unit)×(Int))×((th.D))
abbrev Wh.aiV:Type:=((((Unit)×(List UInt8))×((th.D))))
def Wh.HD (x:Wh.VY):Option (Wh.VY⊕Wh.aiV):=
 let yU:=x.1.1
 let S7:=x.1.2.1
 let Ao:=x.1.2.2.2
 let xV:=x.2
 bif decide (yU<Ao) then
  let C7:=Wh.IM (xV.2.1,yU)
  bif iy [nQ (Wh.D9 (xV.2.1,yU))] then
   let xS:List UInt8:=S7++C7.1.1
   bif iy [decide (List.length S7+List.length C7.1.1≤dh)] then
    some (.inl (((IntKind.wrap .i64 (yU+1)),xS,(),Ao),xV))
   else none
  else none
 else
  some (.inr (((),S7),xV))
def Wh.acu:(((Unit)×(List UInt8))×((th.D))):=default
def Wh.q86 (xs:(th.D)):Option (((List UInt8))×(Unit)):=
 let xP:=xs
 let r_1:=Wh.OO xP
 bif iy [nQ (Wh.DT xP)] then
  bif !r_1.1 then
   some ([],())
  else
   let r_2:=Wh.q9' xP.2.1
   bif iy [nQ (Wh.FR xP.2.1)] then
    let x_19:Wh.VY:=((0,[],(),r_2.1),xP)
    bif lF Wh.HD x_19 then
     let F7:=kG Wh.HD Wh.acu x_19
     let Oq:=F7.1.2
     let zm:=F7.2
     let zJ:Int:=if zm.1.1<(↑(List.length Oq):Int) then zm.1.1 else(↑(List.length Oq):Int)
     let zy:List UInt8:=List.take (Int.toNat (zJ-0)) (List.drop (Int.toNat 0) Oq)
     bif iy [true,decide (0≤zJ),decide (zJ≤(↑(List.length Oq):Int))] then
      some (zy,())
     else none
    else none
   else none
 else none
def Wh.q86':=bx Wh.q86
theorem Wh.q86_v:OV Wh.q86 Wh.q86':=e_ _
def Wh.D7 (xs:(nc.D)):Option (((List UInt8))×(Unit)):=
 let fe:=xs
 let r_1:=Wh.O8 fe
 let v_2:=bif !r_1.1 then true else fe.2.2.2.2.1==0
 bif iy [nQ (Wh.Ef fe)] then
  bif v_2 then
   some ([],())
  else
   let r_3:=Wh.q86' ((fe.2.2.2.2.2).1)
   bif iy [nQ (Wh.q86 ((fe.2.2.2.2.2).1))] then
    some (r_3.1,())
   else none
 else none
def Wh.q19':=bx Wh.D7
theorem Wh.q19_v:OV Wh.D7 Wh.q19':=e_ _
abbrev Wh.Vd:Type:=((Int)×(Unit)×(List (nc.D))×(Int))×((gv.D))
abbrev Wh.aij:Type:=((((Bool))×(Unit))⊕((Unit)×(Unit)))
def Wh.CZ (x:Wh.Vd):Option (Wh.Vd⊕Wh.aij):=
 let xR:=x.1.1
 let yz:=(x.1.2.2).1
 let vT:=x.1.2.2.2
 let EX:=x.2
 bif decide (xR<vT) then
  let xY:=List.getD yz (Int.toNat xR) (0,0,0,[],0,((0,0,[],[],()),(0,0,[],()),()),())
  bif iy [decide (0≤xR),decide (xR<(↑(List.length yz):Int))] then
   bif(xY.2.2.2.2.1==0) then
    some (.inl (((IntKind.wrap .i64 (xR+1)),(),yz,vT),EX))
   else
    let Bk:an.D:=List.getD ((EX.2.2.2).1) (Int.toNat (IntKind.wrap .i64 (xY.2.2.2.2.1-1))) (0,[],0,[],())
    let yF:=IntKind.wrap .i64 (xY.2.2.2.2.1-1)
    bif iy [decide (0≤yF),decide (yF<(↑(List.length ((EX.2.2.2).1)):Int))] then
     let Cr:=Wh.q19' xY
     bif iy [nQ (Wh.D7 xY)] then
      let FY:=Wh.Pf xY.1
      let HG:=Wh.OD ((Bk.2.2.2).1,Cr.1)
      let v_45:=bif bif bif Bk.1 != FY.1 then true else !Bk.2.1==(xY.2.2.2).1 then true else !HG.1 then true else(xY.2.2.2.2.2).1.1.1 != (↑(List.length ((Bk.2.2.2).1)):Int)
      bif iy [(!!bif Bk.1 != FY.1 then true else !Bk.2.1==(xY.2.2.2).1) || nQ (Wh.q13 ((Bk.2.2.2).1,Cr.1)),nQ (Wh.q92 xY.1)] then
       bif v_45 then
        some (.inr (.inl (false,())))
       else
        let KX:=bif(xY.2.2.1==3) then !Cr.1==(Bk.2.2.2).1 else false
        bif KX then
         some (.inr (.inl (false,())))
        else
         some (.inl (((IntKind.wrap .i64 (xR+1)),(),yz,vT),EX))
      else none
     else none
    else none
  else none
 else
  some (.inr (.inr ((),())))
def Wh.abN:(((Bool))×(Unit))⊕((Unit)×(Unit)):=.inl default
def Wh.q27 (xs:(gv.D)):Option (((Bool))×(Unit)):=
 let w_0:=xs
 let r_1:=Wh.q91' w_0
 bif iy [nQ (Wh.q91 w_0)] then
  bif !r_1.1 then
   some (false,())
  else
   let v_2:Int:=(↑(List.length w_0.2.1):Int)
   let K_:Wh.Vd:=((0,(),w_0.2.1,v_2),w_0)
   bif lF Wh.CZ K_ then
    sumC (kG Wh.CZ Wh.abN K_) (fun y_50=>
     let KY:=y_50.1
     some (KY,())) (fun _=>
     some (true,()))
   else none
 else none
def Wh.q27':=bx Wh.q27
theorem Wh.q27_v:OV Wh.q27 Wh.q27':=e_ _
def Wh.q5 (xs:(gv.D)):Option (((Bool))×(Unit)):=
 let H_:=xs
 let r_1:=Wh.Tg (H_,1048576)
 bif iy [nQ (Wh.GC (H_,1048576))] then
  bif decide (r_1.1<0) then
   some (true,())
  else
   let r_3:=Wh.Tl H_
   let xT:=Wh.q42' r_3.1
   bif iy [nQ (Wh.q42 r_3.1),nQ (Wh.DB H_)] then
    bif iy [nQ (Wh.DB H_)] then
     let yG:=Wh.q27' r_3.1
     bif iy [nQ (Wh.q27 r_3.1)] then
      bif(!yG.1==xT.1) then
       some (false,())
      else
       let r_9:=Wh.q98' (r_3.1,r_3.1)
       bif iy [nQ (Wh.q98 (r_3.1,r_3.1)),nQ (Wh.DB H_)] then
        bif !r_9.1 then
         some (false,())
        else
         some (true,())
       else none
     else none
    else none
   else none
 else none
def Wh.q5':=bx Wh.q5
end
