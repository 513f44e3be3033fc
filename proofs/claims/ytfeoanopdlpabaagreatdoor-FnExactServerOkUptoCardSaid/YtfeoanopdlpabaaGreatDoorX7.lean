import Derived.Test.YtfeoanopdlpabaaGreatDoorX6
open Go Go.Ab
noncomputable section
def ct {α β:Type} [Inhabited β] (f:α→Option β) (x:α):β:=match f x with | some y=>y|none=>default
abbrev OV {α β:Type} (f:α→Option β) (g:α→β):Prop:=∀x y,f x=some y→g x=y
theorem eA {α β:Type} [Inhabited β] (f:α→Option β):OV f (ct f):=fun x y h=>by unfold ct;rw[h]
abbrev No:Ty:=(.pair (.int .i64) (.pair (.int .i64) (.pair .bool (.pair (.int .u8) .unit))))
abbrev No.D:Type:=(Int)×((Int)×((Bool)×((Int)×(Unit))))
abbrev Np:Ty:=(.pair .str (.pair (.int .u64) .unit))
abbrev Np.D:Type:=(List UInt8)×((Int)×(Unit))
abbrev bn:Ty:=(.pair (.int .i64) (.pair (.lst (.pair (.int .i64) (.pair .str (.pair (.int .i64) (.pair .str .unit))))) .unit))
abbrev bn.D:Type:=(Int)×((List ((Int)×((List UInt8)×((Int)×((List UInt8)×(Unit))))))×(Unit))
abbrev fT:Ty:=(.pair (.lst (.pair (.int .i64) (.pair (.int .i64) (.pair (.int .i64) (.pair (.int .i64) (.pair .bool .unit)))))) (.pair (.int .i64) .unit))
abbrev fT.D:Type:=(List ((Int)×((Int)×((Int)×((Int)×((Bool)×(Unit)))))))×((Int)×(Unit))
abbrev eB:Ty:=(.pair .bool (.pair (.int .i64) (.pair .str (.pair bn (.pair fT (.pair (.lst (.pair (.int .i64) (.pair (.int .i64) (.pair (.int .i64) (.pair (.int .i64) .unit))))) (.pair (.lst (.pair (.int .i64) (.pair (.int .i64) (.pair (.int .i64) (.pair (.int .i64) (.pair (.int .i64) (.pair (.int .i64) .unit))))))) .unit)))))))
abbrev eB.D:Type:=(Bool)×((Int)×((List UInt8)×((bn.D)×((fT.D)×((List ((Int)×((Int)×((Int)×((Int)×(Unit))))))×((List ((Int)×((Int)×((Int)×((Int)×((Int)×((Int)×(Unit))))))))×(Unit)))))))
abbrev xS:Ty:=(.pair (.int .i64) (.pair (.int .i64) (.pair (.lst (.int .i64)) (.pair (.lst (.int .i64)) .unit))))
abbrev xS.D:Type:=(Int)×((Int)×((List (Int))×((List (Int))×(Unit))))
abbrev DA:Ty:=(.pair (.int .i64) (.pair (.int .i64) (.pair (.lst (.pair (.lst (.int .i64)) (.pair .str .unit))) .unit)))
abbrev DA.D:Type:=(Int)×((Int)×((List ((List (Int))×((List UInt8)×(Unit))))×(Unit)))
abbrev Dz:Ty:=(.pair xS (.pair DA .unit))
abbrev Dz.D:Type:=(xS.D)×((DA.D)×(Unit))
abbrev BP:Ty:=(.pair (.int .i64) (.pair (.int .i64) (.pair (.int .i64) (.pair .str (.pair (.int .i64) (.pair Dz .unit))))))
abbrev BP.D:Type:=(Int)×((Int)×((Int)×((List UInt8)×((Int)×((Dz.D)×(Unit))))))
abbrev Fy:Ty:=(.pair (.int .i64) (.pair (.int .i64) (.pair (.int .i64) (.pair (.int .i64) (.pair (.int .i64) (.pair .str (.pair .str .unit)))))))
abbrev Fy.D:Type:=(Int)×((Int)×((Int)×((Int)×((Int)×((List UInt8)×((List UInt8)×(Unit)))))))
abbrev Fz:Ty:=(.pair eB (.pair (.lst BP) (.pair (.lst (.pair (.int .i64) (.pair .str (.pair .bool .unit)))) (.pair (.lst (.pair (.int .i64) (.pair .str (.pair (.int .i64) (.pair .str .unit))))) .unit))))
abbrev Fz.D:Type:=(eB.D)×((List (BP.D))×((List ((Int)×((List UInt8)×((Bool)×(Unit)))))×((List ((Int)×((List UInt8)×((Int)×((List UInt8)×(Unit))))))×(Unit))))
abbrev an:Ty:=(.pair (.int .i64) (.pair .str (.pair (.int .i64) (.pair .str .unit))))
abbrev an.D:Type:=(Int)×((List UInt8)×((Int)×((List UInt8)×(Unit))))
abbrev e_:Ty:=(.pair (.int .i64) (.pair (.int .i64) (.pair (.int .i64) (.pair (.int .i64) (.pair .bool .unit)))))
abbrev e_.D:Type:=(Int)×((Int)×((Int)×((Int)×((Bool)×(Unit)))))
abbrev fN:Ty:=(.pair (.int .i64) (.pair (.int .i64) (.pair (.int .i64) (.pair (.int .i64) .unit))))
abbrev fN.D:Type:=(Int)×((Int)×((Int)×((Int)×(Unit))))
abbrev gd:Ty:=(.pair (.int .i64) (.pair (.int .i64) fN))
abbrev gd.D:Type:=(Int)×((Int)×(fN.D))
abbrev Ee:Ty:=(.pair (.int .i64) (.pair .str (.pair .bool .unit)))
abbrev Ee.D:Type:=(Int)×((List UInt8)×((Bool)×(Unit)))
abbrev Jc:Ty:=(.pair (.int .i64) (.pair (.int .i64) (.pair (.int .i64) .unit)))
abbrev Jc.D:Type:=(Int)×((Int)×((Int)×(Unit)))
abbrev Ed:Ty:=(.pair (.lst (.int .i64)) (.pair .str .unit))
abbrev Ed.D:Type:=(List (Int))×((List UInt8)×(Unit))
abbrev xR:Ty:=(.pair .str .unit)
abbrev xR.D:Type:=(List UInt8)×(Unit)
abbrev Nq:Ty:=(.pair (.int .u8) (.pair (.int .u8) .unit))
abbrev Nq.D:Type:=(Int)×((Int)×(Unit))
def Wh.q85 (xs:(an.D)×(Int)):Option (((Int))×(Unit)):=
 let bx:an.D:=xs.1
 let left_1:=xs.2
 let v_2:Int:=(↑(List.length bx.2.1):Int)
 let yC:=IntKind.wrap .i64 (left_1-v_2)
 bif decide (yC<(0:Int)) then
  some ((-1:Int),())
 else
  let zj:Int:=(↑(List.length ((bx.2.2.2).1)):Int)
  let OJ:=IntKind.wrap .i64 (yC-zj)
  bif decide (OJ<(0:Int)) then
   some ((-1:Int),())
  else
   some (OJ,())
def Wh.q85':=ct Wh.q85
theorem Wh.M5:OV Wh.q85 Wh.q85':=eA _
abbrev Wh.MO:Type:=((Int)×(Int)×(List (an.D)))×(Unit)
abbrev Wh.Uz:Type:=((((Int))×(Unit))⊕(((Int))×(Unit)))
def Wh.Cu (x:Wh.MO):Option (Wh.MO⊕Wh.Uz):=
 let EP:=x.1.1
 let KZ:=x.1.2.1
 let a_18:List (an.D):=x.1.2.2
 let mw:Int:=(↑(List.length a_18):Int)
 bif decide (EP<mw) then
  let n5:an.D:=List.getD a_18 (Int.toNat EP) ((0:Int),[],(0:Int),[],())
  let yY:=Wh.q85' (n5,KZ)
  bif iy [nQ (Wh.q85 (n5,KZ)),decide ((0:Int)≤EP),decide (EP<mw)] then
   bif decide (yY.1<(0:Int)) then
    some (.inr (.inl ((-1:Int),())))
   else
    some (.inl (((IntKind.wrap .i64 (EP+(1:Int))),yY.1,a_18),()))
  else none
 else
  some (.inr (.inr (KZ,())))
def Wh.MP:(((Int))×(Unit))⊕(((Int))×(Unit)):=.inl default
def Wh.q66 (xs:(List (an.D))×(Int)):Option (((Int))×(Unit)):=
 let bx:List (an.D):=xs.1
 let left_1:=xs.2
 let v_2:Int:=(↑(List.length bx):Int)
 let yC:=IntKind.wrap .i64 (left_1-v_2)
 bif decide (yC<(0:Int)) then
  some ((-1:Int),())
 else
  let FJ:Wh.MO:=(((0:Int),yC,bx),())
  bif lF Wh.Cu FJ then
   sumC (kG Wh.Cu Wh.MP FJ) (fun FU=>
    let A0:=FU.1
    some (A0,())) (fun z_28=>
    let SQ:=z_28.1
    some (SQ,()))
  else none
def Wh.q66':=ct Wh.q66
theorem Wh.q66_v:OV Wh.q66 Wh.q66':=eA _
def Wh.C6 (xs:(bn.D)×(Int)):Option (((Int))×(Unit)):=
 let bx:bn.D:=xs.1
 let left_1:=xs.2
 let r_2:=Wh.q66' (bx.2.1,left_1)
 bif iy [nQ (Wh.q66 (bx.2.1,left_1))] then
  bif decide (r_2.1<(0:Int)) then
   some ((-1:Int),())
  else
   some (r_2.1,())
 else none
def Wh.LN:=ct Wh.C6
theorem Wh.P4:OV Wh.C6 Wh.LN:=eA _
def Wh.q43 (xs:(List (e_.D))×(Int)):Option (((Int))×(Unit)):=
 let bx:List (e_.D):=xs.1
 let left_1:=xs.2
 let v_2:Int:=(↑(List.length bx):Int)
 let yC:=IntKind.wrap .i64 (left_1-v_2)
 bif decide (yC<(0:Int)) then
  some ((-1:Int),())
 else
  some (yC,())
def Wh.q43':=ct Wh.q43
theorem Wh.q43_v:OV Wh.q43 Wh.q43':=eA _
def Wh.q86 (xs:(fT.D)×(Int)):Option (((Int))×(Unit)):=
 let bx:fT.D:=xs.1
 let left_1:=xs.2
 let r_2:=Wh.q43' (bx.1,left_1)
 bif iy [nQ (Wh.q43 (bx.1,left_1))] then
  bif decide (r_2.1<(0:Int)) then
   some ((-1:Int),())
  else
   some (r_2.1,())
 else none
def Wh.q86':=ct Wh.q86
theorem Wh.q86_v:OV Wh.q86 Wh.q86':=eA _
def Wh.q25 (xs:(List (fN.D))×(Int)):Option (((Int))×(Unit)):=
 let bx:List (fN.D):=xs.1
 let left_1:=xs.2
 let v_2:Int:=(↑(List.length bx):Int)
 let yC:=IntKind.wrap .i64 (left_1-v_2)
 bif decide (yC<(0:Int)) then
  some ((-1:Int),())
 else
  some (yC,())
def Wh.q25':=ct Wh.q25
theorem Wh.q25_v:OV Wh.q25 Wh.q25':=eA _
def Wh.q44 (xs:(List (gd.D))×(Int)):Option (((Int))×(Unit)):=
 let bx:List (gd.D):=xs.1
 let left_1:=xs.2
 let v_2:Int:=(↑(List.length bx):Int)
 let yC:=IntKind.wrap .i64 (left_1-v_2)
 bif decide (yC<(0:Int)) then
  some ((-1:Int),())
 else
  some (yC,())
def Wh.q44':=ct Wh.q44
theorem Wh.q44_v:OV Wh.q44 Wh.q44':=eA _
def Wh.q45 (xs:(eB.D)×(Int)):Option (((Int))×(Unit)):=
 let bx:eB.D:=xs.1
 let left_1:=xs.2
 let v_2:Int:=(↑(List.length (bx.2.2.1)):Int)
 let yC:=IntKind.wrap .i64 (left_1-v_2)
 bif decide (yC<(0:Int)) then
  some ((-1:Int),())
 else
  let yp:=Wh.LN ((bx.2.2.2).1,yC)
  bif iy [nQ (Wh.C6 ((bx.2.2.2).1,yC))] then
   bif decide (yp.1<(0:Int)) then
    some ((-1:Int),())
   else
    let yG:=Wh.q86' (bx.2.2.2.2.1,yp.1)
    bif iy [nQ (Wh.q86 (bx.2.2.2.2.1,yp.1))] then
     bif decide (yG.1<(0:Int)) then
      some ((-1:Int),())
     else
      let AR:=Wh.q25' ((bx.2.2.2.2.2).1,yG.1)
      bif iy [nQ (Wh.q25 ((bx.2.2.2.2.2).1,yG.1))] then
       bif decide (AR.1<(0:Int)) then
        some ((-1:Int),())
       else
        let yN:=Wh.q44' ((bx.2.2.2.2.2).2.1,AR.1)
        bif iy [nQ (Wh.q44 ((bx.2.2.2.2.2).2.1,AR.1))] then
         bif decide (yN.1<(0:Int)) then
          some ((-1:Int),())
         else
          some (yN.1,())
        else none
      else none
    else none
  else none
def Wh.q45':=ct Wh.q45
theorem Wh.q45_v:OV Wh.q45 Wh.q45':=eA _
def Wh.q87 (xs:(an.D)):Option (((an.D))×(Unit)):=
 let bx:an.D:=xs
 some ((bx.1,bx.2.1,bx.2.2.1,(bx.2.2.2).1,()),())
def Wh.q87':=ct Wh.q87
theorem Wh.q87_v:OV Wh.q87 Wh.q87':=eA _
abbrev Wh.MQ:Type:=((Int)×(List (an.D))×(Unit))×((List (an.D)))
abbrev Wh.UA:Type:=((((Unit))×((List (an.D)))))
def Wh.Cv (x:Wh.MQ):Option (Wh.MQ⊕Wh.UA):=
 let nI:=x.1.1
 let yw:List (an.D):=x.1.2.1
 let xT:List (an.D):=x.2
 let w8:Int:=(↑(List.length yw):Int)
 bif decide (nI<w8) then
  let Ap:(an.D)×Unit:=Wh.q87' (List.getD yw (Int.toNat nI) ((0:Int),[],(0:Int),[],()))
  let nP:List (an.D):=List.set xT (Int.toNat nI) Ap.1
  let mw:an.D:=List.getD yw (Int.toNat nI) ((0:Int),[],(0:Int),[],())
  bif iy [decide ((0:Int)≤nI),decide (nI<(↑(List.length xT):Int)),nQ (Wh.q87 mw),decide ((0:Int)≤nI),decide (nI<w8)] then
   some (.inl (((IntKind.wrap .i64 (nI+(1:Int))),yw,()),nP))
  else none
 else
  some (.inr ((),xT))
def Wh.QS:(((Unit))×((List (an.D)))):=default
def Wh.q68 (xs:(List (an.D))):Option (((List (an.D)))×(Unit)):=
 let bx:List (an.D):=xs
 let zc:List (an.D):=@List.replicate (Int×List UInt8×Int×List UInt8×Unit) (Int.toNat (↑(List.length bx):Int)) ((0:Int),[],(0:Int),[],())
 let v_2:Int:=(↑(List.length bx):Int)
 bif iy [decide ((0:Int)≤v_2),decide (v_2≤v_2),decide (v_2≤(↑dh:Int))] then
  let x_21:Wh.MQ:=(((0:Int),bx,()),zc)
  bif lF Wh.Cv x_21 then
   let BV:=kG Wh.Cv Wh.QS x_21
   let yW:List (an.D):=BV.2
   some (yW,())
  else none
 else none
def Wh.q68':=ct Wh.q68
theorem Wh.q68_v:OV Wh.q68 Wh.q68':=eA _
def Wh.C7 (xs:(bn.D)):Option ((((Int)×((List (an.D))×(Unit))))×(Unit)):=
 let bx:bn.D:=xs
 let r_1:List (an.D)×Unit:=Wh.q68' bx.2.1
 bif iy [nQ (Wh.q68 bx.2.1)] then
  some ((bx.1,r_1.1,()),())
 else none
def Wh.LO:=ct Wh.C7
theorem Wh.P5:OV Wh.C7 Wh.LO:=eA _
def Wh.q67 (xs:(e_.D)):Option (((e_.D))×(Unit)):=
 let bx:e_.D:=xs
 some ((bx.1,bx.2.1,bx.2.2.1,(bx.2.2.2).1,bx.2.2.2.2.1,()),())
def Wh.q67':=ct Wh.q67
theorem Wh.q67_v:OV Wh.q67 Wh.q67':=eA _
abbrev Wh.MA:Type:=((Int)×(List (e_.D))×(Unit))×((List (e_.D)))
abbrev Wh.Up:Type:=((((Unit))×((List (e_.D)))))
def Wh.Cp (x:Wh.MA):Option (Wh.MA⊕Wh.Up):=
 let nI:=x.1.1
 let yw:List (e_.D):=x.1.2.1
 let xT:List (e_.D):=x.2
 let w8:Int:=(↑(List.length yw):Int)
 bif decide (nI<w8) then
  let Ap:(e_.D)×Unit:=Wh.q67' (List.getD yw (Int.toNat nI) ((0:Int),(0:Int),(0:Int),(0:Int),false,()))
  let nP:List (e_.D):=List.set xT (Int.toNat nI) Ap.1
  let mw:e_.D:=List.getD yw (Int.toNat nI) ((0:Int),(0:Int),(0:Int),(0:Int),false,())
  bif iy [decide ((0:Int)≤nI),decide (nI<(↑(List.length xT):Int)),nQ (Wh.q67 mw),decide ((0:Int)≤nI),decide (nI<w8)] then
   some (.inl (((IntKind.wrap .i64 (nI+(1:Int))),yw,()),nP))
  else none
 else
  some (.inr ((),xT))
def Wh.QF:(((Unit))×((List (e_.D)))):=default
def Wh.q47 (xs:(List (e_.D))):Option (((List (e_.D)))×(Unit)):=
 let bx:List (e_.D):=xs
 let zc:List (e_.D):=@List.replicate (Int×Int×Int×Int×Bool×Unit) (Int.toNat (↑(List.length bx):Int)) ((0:Int),(0:Int),(0:Int),(0:Int),false,())
 let v_2:Int:=(↑(List.length bx):Int)
 bif iy [decide ((0:Int)≤v_2),decide (v_2≤v_2),decide (v_2≤(↑dh:Int))] then
  let x_21:Wh.MA:=(((0:Int),bx,()),zc)
  bif lF Wh.Cp x_21 then
   let BV:=kG Wh.Cp Wh.QF x_21
   let yW:List (e_.D):=BV.2
   some (yW,())
  else none
 else none
def Wh.q47':=ct Wh.q47
theorem Wh.q47_v:OV Wh.q47 Wh.q47':=eA _
def Wh.q88 (xs:(fT.D)):Option ((((List (e_.D))×((Int)×(Unit))))×(Unit)):=
 let bx:fT.D:=xs
 let r_1:List (e_.D)×Unit:=Wh.q47' bx.1
 bif iy [nQ (Wh.q47 bx.1)] then
  some ((r_1.1,bx.2.1,()),())
 else none
def Wh.q88':=ct Wh.q88
theorem Wh.q88_v:OV Wh.q88 Wh.q88':=eA _
def Wh.q46 (xs:(fN.D)):Option (((fN.D))×(Unit)):=
 let bx:fN.D:=xs
 some ((bx.1,bx.2.1,bx.2.2.1,(bx.2.2.2).1,()),())
def Wh.q46':=ct Wh.q46
theorem Wh.q46_v:OV Wh.q46 Wh.q46':=eA _
abbrev Wh.Mh:Type:=((Int)×(List (fN.D))×(Unit))×((List (fN.D)))
abbrev Wh.Ua:Type:=((((Unit))×((List (fN.D)))))
def Wh.Ck (x:Wh.Mh):Option (Wh.Mh⊕Wh.Ua):=
 let nI:=x.1.1
 let yw:List (fN.D):=x.1.2.1
 let xT:List (fN.D):=x.2
 let w8:Int:=(↑(List.length yw):Int)
 bif decide (nI<w8) then
  let Ap:(fN.D)×Unit:=Wh.q46' (List.getD yw (Int.toNat nI) ((0:Int),(0:Int),(0:Int),(0:Int),()))
  let nP:List (fN.D):=List.set xT (Int.toNat nI) Ap.1
  let mw:fN.D:=List.getD yw (Int.toNat nI) ((0:Int),(0:Int),(0:Int),(0:Int),())
  bif iy [decide ((0:Int)≤nI),decide (nI<(↑(List.length xT):Int)),nQ (Wh.q46 mw),decide ((0:Int)≤nI),decide (nI<w8)] then
   some (.inl (((IntKind.wrap .i64 (nI+(1:Int))),yw,()),nP))
  else none
 else
  some (.inr ((),xT))
def Wh.Qo:(((Unit))×((List (fN.D)))):=default
def Wh.q26 (xs:(List (fN.D))):Option (((List (fN.D)))×(Unit)):=
 let bx:List (fN.D):=xs
 let zc:List (fN.D):=@List.replicate (Int×Int×Int×Int×Unit) (Int.toNat (↑(List.length bx):Int)) ((0:Int),(0:Int),(0:Int),(0:Int),())
 let v_2:Int:=(↑(List.length bx):Int)
 bif iy [decide ((0:Int)≤v_2),decide (v_2≤v_2),decide (v_2≤(↑dh:Int))] then
  let x_21:Wh.Mh:=(((0:Int),bx,()),zc)
  bif lF Wh.Ck x_21 then
   let BV:=kG Wh.Ck Wh.Qo x_21
   let yW:List (fN.D):=BV.2
   some (yW,())
  else none
 else none
def Wh.q26':=ct Wh.q26
theorem Wh.q26_v:OV Wh.q26 Wh.q26':=eA _
def Wh.q69 (xs:(gd.D)):Option (((gd.D))×(Unit)):=
 let bx:gd.D:=xs
 some ((bx.1,bx.2.1,bx.2.2.1,(bx.2.2.2).1,bx.2.2.2.2.1,(bx.2.2.2.2.2).1,()),())
def Wh.q69':=ct Wh.q69
theorem Wh.q69_v:OV Wh.q69 Wh.q69':=eA _
abbrev Wh.MB:Type:=((Int)×(List (gd.D))×(Unit))×((List (gd.D)))
abbrev Wh.Uq:Type:=((((Unit))×((List (gd.D)))))
def Wh.Cq (x:Wh.MB):Option (Wh.MB⊕Wh.Uq):=
 let nI:=x.1.1
 let yw:List (gd.D):=x.1.2.1
 let xT:List (gd.D):=x.2
 let w8:Int:=(↑(List.length yw):Int)
 bif decide (nI<w8) then
  let Ap:(gd.D)×Unit:=Wh.q69' (List.getD yw (Int.toNat nI) ((0:Int),(0:Int),(0:Int),(0:Int),(0:Int),(0:Int),()))
  let nP:List (gd.D):=List.set xT (Int.toNat nI) Ap.1
  let mw:gd.D:=List.getD yw (Int.toNat nI) ((0:Int),(0:Int),(0:Int),(0:Int),(0:Int),(0:Int),())
  bif iy [decide ((0:Int)≤nI),decide (nI<(↑(List.length xT):Int)),nQ (Wh.q69 mw),decide ((0:Int)≤nI),decide (nI<w8)] then
   some (.inl (((IntKind.wrap .i64 (nI+(1:Int))),yw,()),nP))
  else none
 else
  some (.inr ((),xT))
def Wh.QG:(((Unit))×((List (gd.D)))):=default
def Wh.q48 (xs:(List (gd.D))):Option (((List (gd.D)))×(Unit)):=
 let bx:List (gd.D):=xs
 let zc:List (gd.D):=@List.replicate (Int×Int×Int×Int×Int×Int×Unit) (Int.toNat (↑(List.length bx):Int)) ((0:Int),(0:Int),(0:Int),(0:Int),(0:Int),(0:Int),())
 let v_2:Int:=(↑(List.length bx):Int)
 bif iy [decide ((0:Int)≤v_2),decide (v_2≤v_2),decide (v_2≤(↑dh:Int))] then
  let x_21:Wh.MB:=(((0:Int),bx,()),zc)
  bif lF Wh.Cq x_21 then
   let BV:=kG Wh.Cq Wh.QG x_21
   let yW:List (gd.D):=BV.2
   some (yW,())
  else none
 else none
def Wh.q48':=ct Wh.q48
theorem Wh.q48_v:OV Wh.q48 Wh.q48':=eA _
def Wh.Bx (xs:(eB.D)):Option ((((Bool)×((Int)×((List UInt8)×(((Int)×((List (an.D))×(Unit)))×(((List (e_.D))×((Int)×(Unit)))×((List (fN.D))×((List (gd.D))×(Unit)))))))))×(Unit)):=
 let bx:eB.D:=xs
 let r_1:(bn.D)×Unit:=Wh.LO ((bx.2.2.2).1)
 bif iy [nQ (Wh.C7 ((bx.2.2.2).1))] then
  let r_2:(fT.D)×Unit:=Wh.q88' (bx.2.2.2.2.1)
  bif iy [nQ (Wh.q88 (bx.2.2.2.2.1))] then
   let r_3:List (fN.D)×Unit:=Wh.q26' ((bx.2.2.2.2.2).1)
   bif iy [nQ (Wh.q26 ((bx.2.2.2.2.2).1))] then
    let gz:List (gd.D)×Unit:=Wh.q48' ((bx.2.2.2.2.2).2.1)
    bif iy [nQ (Wh.q48 ((bx.2.2.2.2.2).2.1))] then
     some ((bx.1,bx.2.1,bx.2.2.1,r_1.1,r_2.1,r_3.1,gz.1,()),())
    else none
   else none
  else none
 else none
def Wh.q49':=ct Wh.Bx
theorem Wh.q49_v:OV Wh.Bx Wh.q49':=eA _
def Wh.so (xs:(Int)×(Int)×(Int)):Option (((Bool))×(Unit)):=
 let xN:=xs.1
 let K4:=xs.2.1
 let KU:=xs.2.2
 let s_:=bif decide (xN≥K4) then decide (xN≤KU) else false
 some (s_,())
def Wh.xP:=ct Wh.so
theorem Wh.yE:OV Wh.so Wh.xP:=eA _
abbrev Wh.Nb:Type:=((Int)×(Int)×(List UInt8))×(Unit)
abbrev Wh.UR:Type:=((((Int))×(Unit))⊕((Unit)×(Unit)))
def Wh.AO (x:Wh.Nb):Option (Wh.Nb⊕Wh.UR):=
 let EO:=x.1.1
 let b_11:=x.1.2.1
 let Dv:=x.1.2.2
 let CC:=decide (EO<(↑(List.length Dv):Int))
 bif CC then
  let ng:Int:=(↑(UInt8.toNat (List.getD Dv (Int.toNat EO) (0:UInt8))):Int)
  let w8:=ng==b_11
  bif iy [decide ((0:Int)≤EO),CC] then
   bif w8 then
    some (.inr (.inl (EO,())))
   else
    some (.inl (((IntKind.wrap .i64 (EO+(1:Int))),b_11,Dv),()))
  else none
 else
  some (.inr (.inr ((),())))
def Wh.Q7:(((Int))×(Unit))⊕((Unit)×(Unit)):=.inl default
def Wh.ym (xs:(List UInt8)×(Int)×(Int)):Option (((Int))×(Unit)):=
 let fe:=xs.1
 let yT:=xs.2.1
 let b_2:=xs.2.2
 let x_17:Wh.Nb:=((yT,b_2,fe),())
 bif lF Wh.AO x_17 then
  sumC (kG Wh.AO Wh.Q7 x_17) (fun DD=>
   let nc:=DD.1
   some (nc,())) (fun _=>
   some ((-1:Int),()))
 else none
def Wh.Fk:=ct Wh.ym
theorem Wh.AP:OV Wh.ym Wh.Fk:=eA _
abbrev Wh.L6:Type:=((Int)×(List UInt8)×(Int))×(Unit)
abbrev Wh.T5:Type:=((((Int))×(Unit))⊕(((Int))×(Unit)))
def Wh.Ci (x:Wh.L6):Option (Wh.L6⊕Wh.T5):=
 let DS:=x.1.1
 let s_18:=x.1.2.1
 let n_19:=x.1.2.2
 let nc:=decide (DS<(↑(List.length s_18):Int))
 bif nc then
  let n5:Int:=(↑(UInt8.toNat (List.getD s_18 (Int.toNat DS) (0:UInt8))):Int)
  let yH:=bif decide (n5<(48:Int)) then true else decide (n5>(57:Int))
  bif iy [!!decide (n5<(48:Int)) || decide ((0:Int)≤DS),!!decide (n5<(48:Int)) || nc,decide ((0:Int)≤DS),nc] then
   bif yH then
    some (.inr (.inl ((-1:Int),())))
   else
    bif iy [decide ((0:Int)≤DS),nc] then
     some (.inl (((IntKind.wrap .i64 (DS+(1:Int))),s_18,(IntKind.wrap .i64 ((IntKind.wrap .i64 (n_19*(10:Int)))+IntKind.wrap .i64 (IntKind.wrap .u8 (n5-(48:Int)))))),()))
    else none
  else none
 else
  some (.inr (.inr (n_19,())))
def Wh.Qg:(((Int))×(Unit))⊕(((Int))×(Unit)):=.inl default
def Wh.zM (xs:(List UInt8)):Option (((Int))×(Unit)):=
 let fe:=xs
 let r_1:=Wh.xP ((↑(List.length fe):Int),(1:Int),(6:Int))
 let v_2:=bif !r_1.1 then true else bif decide ((↑(List.length fe):Int)>(1:Int)) then(↑(UInt8.toNat (List.getD fe (Int.toNat (0:Int)) (0:UInt8))):Int)==(48:Int) else false
 bif iy [!(decide ((↑(List.length fe):Int)>(1:Int)) && !!r_1.1) || decide ((0:Int)≤(0:Int)),!(decide ((↑(List.length fe):Int)>(1:Int)) && !!r_1.1) || decide ((0:Int)<(↑(List.length fe):Int)),nQ (Wh.so ((↑(List.length fe):Int),(1:Int),(6:Int)))] then
  bif v_2 then
   some ((-1:Int),())
  else
   let x_31:Wh.L6:=(((0:Int),fe,(0:Int)),())
   bif lF Wh.Ci x_31 then
    sumC (kG Wh.Ci Wh.Qg x_31) (fun y_32=>
     let v_34:=y_32.1
     some (v_34,())) (fun z_33=>
     let n_35:=z_33.1
     some (n_35,()))
   else none
 else none
def Wh.Fa:=ct Wh.zM
theorem Wh.Da:OV Wh.zM Wh.Fa:=eA _
def Wh.q18 (Q_:((Int))→Option (((List UInt8))×(Unit))) (I9:((Int))→((List UInt8))×(Unit)) (xs:(Int)):Option (((List UInt8))×(Unit)):=
 let xN:=xs
 bif decide (xN<(-9223372036854775807:Int)) then
  some ([(45:UInt8),(57:UInt8),(50:UInt8),(50:UInt8),(51:UInt8),(51:UInt8),(55:UInt8),(50:UInt8),(48:UInt8),(51:UInt8),(54:UInt8),(56:UInt8),(53:UInt8),(52:UInt8),(55:UInt8),(55:UInt8),(53:UInt8),(56:UInt8),(48:UInt8),(56:UInt8)],())
 else
  bif decide (xN<(0:Int)) then
   let nE:=IntKind.wrap .i64 ((0:Int)-xN)
   let Aa:xR.D:=I9 nE
   let yR:List UInt8:=[(45:UInt8)]++Aa.1
   bif iy [decide ((1:Nat)+List.length ((I9 nE).1)≤dh),nQ (Q_ nE)] then
    some (yR,())
   else none
  else
   bif decide (xN<(10:Int)) then
    let Ly:List Int:=[IntKind.wrap .u8 (IntKind.wrap .i64 ((48:Int)+xN))]
    some (qp Ly,())
   else
    let pb_12:List Int:=[IntKind.wrap .u8 (IntKind.wrap .i64 ((48:Int)+Int.tmod xN (10:Int)))]
    let CC:=IntKind.wrap .i64 (Int.tdiv xN (10:Int))
    let xZ:xR.D:=I9 CC
    let n5:=xZ.1++qp pb_12
    bif iy [decide (List.length ((I9 CC).1)+(1:Nat)≤dh),true,nQ (Q_ CC),true] then
     some (n5,())
    else none
def Wh.zP:Nat→((Int))→Option (((List UInt8))×(Unit))
 |0,_=>none
 |n+1,xs=>Wh.q18 (Wh.zP n) (fun x=>match Wh.zP n x with | some y=>y|none=>default) xs
theorem Wh.LZ (n:Nat):Wh.zP (n+1)=Wh.q18 (Wh.zP n) (fun x=>match Wh.zP n x with | some y=>y|none=>default):=rfl
def Wh.AE (xs:(Int)):Option (((List UInt8))×(Unit)):=Wh.zP 20 xs
def Wh.Al:=ct Wh.AE
theorem Wh.IE:OV Wh.AE Wh.Al:=eA _
abbrev Wh.MH:Type:=((Int)×(Int)×(Unit))×((List (Int)))
abbrev Wh.Uu:Type:=((((Unit))×((List (Int)))))
def Wh.Dk (x:Wh.MH):Option (Wh.MH⊕Wh.Uu):=
 let wh:=x.1.1
 let n_28:=x.1.2.1
 let K9:=x.2
 bif decide (wh≥(0:Int)) then
  let vN:List Int:=[IntKind.wrap .u8 (Int.fdiv n_28 ((2:Int) ^ Min.min (Int.toNat (IntKind.wrap .i64 ((8:Int)*wh))) (Go.IntKind.bits Go.IntKind.i64)))]
  let yA:=K9++vN
  bif iy [decide (List.length K9+(1:Nat)≤dh),decide ((0:Int)≤(IntKind.wrap .i64 ((8:Int)*wh)))] then
   some (.inl (((IntKind.wrap .i64 (wh-(1:Int))),n_28,()),yA))
  else none
 else
  some (.inr ((),K9))
def Wh.QK:(((Unit))×((List (Int)))):=default
abbrev Wh.MG:Type:=((Unit)×(List UInt8))×((List (Int)))
abbrev Wh.Ut:Type:=((((Unit)×(List UInt8))×((List (Int)))))
def Wh.Cr (x:Wh.MG):Option (Wh.MG⊕Wh.Ut):=
 let Rr:=x.1.2
 let Ik:=x.2
 let zi:Bool:=(Int.tmod (↑(List.length Ik):Int) (64:Int)) != (56:Int)
 bif zi then
  let EX:=Ik ++ [(0:Int)]
  bif iy [decide (List.length Ik+(1:Nat)≤dh)] then
   some (.inl (((),Rr),EX))
  else none
 else
  some (.inr (((),Rr),Ik))
def Wh.QJ:(((Unit)×(List UInt8))×((List (Int)))):=default
def Wh.q54 (xs:(List UInt8)):Option (((List (Int)))×(Unit)):=
 let x5:=xs
 let zc:List Int:=bytesOf x5 ++ [(128:Int)]
 bif iy [decide (List.length (bytesOf x5)+(1:Nat)≤dh),decide (List.length x5≤dh)] then
  let x_12:Wh.MG:=(((),x5),zc)
  bif lF Wh.Cr x_12 then
   let y_13:=kG Wh.Cr Wh.QJ x_12
   let Wq:=y_13.1.2
   let w7:=y_13.2
   let x_37:Wh.MH:=(((7:Int),(IntKind.wrap .i64 ((↑(List.length Wq):Int)*(8:Int))),()),w7)
   bif lF Wh.Dk x_37 then
    let y_38:=kG Wh.Dk Wh.QK x_37
    let B7:=y_38.2
    some (B7,())
   else none
  else none
 else none
def Wh.q54':=ct Wh.q54
theorem Wh.q54_v:OV Wh.q54 Wh.q54':=eA _
def Wh.we (xs:(Int)×(Int)):Option (((Int))×(Unit)):=
 let w9:=xs.1
 let n_1:=xs.2
 let v_2:Int:=Int.fdiv w9 ((2:Int) ^ Min.min (Int.toNat n_1) (Go.IntKind.bits Go.IntKind.u32))
 let nE:=IntKind.wrap .i64 ((32:Int)-n_1)
 let zj:Int:=nj Go.BinOp.or Go.IntKind.u32 v_2 (IntKind.wrap .u32 (w9*(2:Int) ^ Min.min (Int.toNat nE) (Go.IntKind.bits Go.IntKind.u32)))
 bif iy [decide ((0:Int)≤nE),decide ((0:Int)≤n_1)] then
  some (zj,())
 else none
def Wh.yF:=ct Wh.we
theorem Wh.q92_v:OV Wh.we Wh.yF:=eA _
abbrev Wh.MX:Type:=((Int)×(Unit))×((List (Int)))
abbrev Wh.UH:Type:=((((Unit))×((List (Int)))))
def Wh.Dp (x:Wh.MX):Option (Wh.MX⊕Wh.UH):=
 let B5:=x.1.1
 let Aj:=x.2
 bif decide (B5<(64:Int)) then
  let FI:=IntKind.wrap .i64 (B5-(15:Int))
  let FQ:=List.getD Aj (Int.toNat FI) (0:Int)
  bif iy [decide ((0:Int)≤FI),decide (FI<(↑(List.length Aj):Int))] then
   let v_99:=IntKind.wrap .i64 (B5-(2:Int))
   let FR:=List.getD Aj (Int.toNat v_99) (0:Int)
   bif iy [decide ((0:Int)≤v_99),decide (v_99<(↑(List.length Aj):Int))] then
    let r_102:=Wh.yF (FQ,(7:Int))
    let Ni:=Wh.yF (FQ,(18:Int))
    let v_105:Int:=Int.fdiv FQ ((2:Int) ^ Min.min (Int.toNat (3:Int)) (Go.IntKind.bits Go.IntKind.u32))
    let a_107:Int:=nj Go.BinOp.xor Go.IntKind.u32 (nj Go.BinOp.xor Go.IntKind.u32 r_102.1 Ni.1) v_105
    bif iy [true,nQ (Wh.we (FQ,(18:Int))),nQ (Wh.we (FQ,(7:Int)))] then
     let r_108:=Wh.yF (FR,(17:Int))
     let Fm:=Wh.yF (FR,(19:Int))
     let v_111:Int:=Int.fdiv FR ((2:Int) ^ Min.min (Int.toNat (10:Int)) (Go.IntKind.bits Go.IntKind.u32))
     let c_113:Int:=nj Go.BinOp.xor Go.IntKind.u32 (nj Go.BinOp.xor Go.IntKind.u32 r_108.1 Fm.1) v_111
     bif iy [true,nQ (Wh.we (FR,(19:Int))),nQ (Wh.we (FR,(17:Int)))] then
      let pb_114:List Int:=[IntKind.wrap .u32 (IntKind.wrap .u32 (IntKind.wrap .u32 (List.getD Aj (Int.toNat (IntKind.wrap .i64 (B5-(16:Int)))) (0:Int)+a_107)+List.getD Aj (Int.toNat (IntKind.wrap .i64 (B5-(7:Int)))) (0:Int))+c_113)]
      let ls_115:=Aj++pb_114
      let v_116:=IntKind.wrap .i64 (B5-(16:Int))
      let Jg:=IntKind.wrap .i64 (B5-(7:Int))
      bif iy [decide (List.length Aj+(1:Nat)≤dh),decide ((0:Int)≤Jg),decide (Jg<(↑(List.length Aj):Int)),decide ((0:Int)≤v_116),decide (v_116<(↑(List.length Aj):Int))] then
       some (.inl (((IntKind.wrap .i64 (B5+(1:Int))),()),ls_115))
      else none
     else none
    else none
   else none
  else none
 else
  some (.inr ((),Aj))
def Wh.QX:(((Unit))×((List (Int)))):=default
abbrev Wh.MW:Type:=((Int)×(List (Int))×(Unit))×((List (Int)))
abbrev Wh.UG:Type:=((((Unit))×((List (Int)))))
def Wh.Dn (x:Wh.MW):Option (Wh.MW⊕Wh.UG):=
 let CQ:=x.1.1
 let A4:=x.1.2.1
 let yA:=x.2
 bif decide (CQ<(16:Int)) then
  let Iu:List Int:=[nj Go.BinOp.or Go.IntKind.u32 (nj Go.BinOp.or Go.IntKind.u32 (nj Go.BinOp.or Go.IntKind.u32 (IntKind.wrap .u32 (IntKind.wrap .u32 (List.getD A4 (Int.toNat (IntKind.wrap .i64 ((4:Int)*CQ))) (0:Int))*(2:Int) ^ Min.min (Int.toNat (24:Int)) (Go.IntKind.bits Go.IntKind.u32))) (IntKind.wrap .u32 (IntKind.wrap .u32 (List.getD A4 (Int.toNat (IntKind.wrap .i64 (IntKind.wrap .i64 ((4:Int)*CQ)+(1:Int)))) (0:Int))*(2:Int) ^ Min.min (Int.toNat (16:Int)) (Go.IntKind.bits Go.IntKind.u32)))) (IntKind.wrap .u32 (IntKind.wrap .u32 (List.getD A4 (Int.toNat (IntKind.wrap .i64 (IntKind.wrap .i64 ((4:Int)*CQ)+(2:Int)))) (0:Int))*(2:Int) ^ Min.min (Int.toNat (8:Int)) (Go.IntKind.bits Go.IntKind.u32)))) (IntKind.wrap .u32 (List.getD A4 (Int.toNat (IntKind.wrap .i64 (IntKind.wrap .i64 ((4:Int)*CQ)+(3:Int)))) (0:Int)))]
  let zw:=yA++Iu
  let x7:=IntKind.wrap .i64 ((4:Int)*CQ)
  bif iy [decide (List.length yA+(1:Nat)≤dh),decide ((0:Int)≤IntKind.wrap .i64 (x7+(3:Int))),decide (IntKind.wrap .i64 (x7+(3:Int))<(↑(List.length A4):Int)),true,decide ((0:Int)≤IntKind.wrap .i64 (x7+(2:Int))),decide (IntKind.wrap .i64 (x7+(2:Int))<(↑(List.length A4):Int)),true,decide ((0:Int)≤IntKind.wrap .i64 (x7+(1:Int))),decide (IntKind.wrap .i64 (x7+(1:Int))<(↑(List.length A4):Int)),true,decide ((0:Int)≤x7),decide (x7<(↑(List.length A4):Int))] then
   some (.inl (((IntKind.wrap .i64 (CQ+(1:Int))),A4,()),zw))
  else none
 else
  some (.inr ((),yA))
def Wh.QW:(((Unit))×((List (Int)))):=default
def Wh.q76 (xs:(List (Int))):Option (((List (Int)))×(Unit)):=
 let xX:=xs
 let x_59:Wh.MW:=(((0:Int),xX,()),[])
 bif lF Wh.Dn x_59 then
  let y_60:=kG Wh.Dn Wh.QW x_59
  let ls_61:=y_60.2
  let x_124:Wh.MX:=(((16:Int),()),ls_61)
  bif lF Wh.Dp x_124 then
   let y_125:=kG Wh.Dp Wh.QX x_124
   let ls_126:=y_125.2
   some (ls_126,())
  else none
 else none
def Wh.q76':=ct Wh.q76
theorem Wh.q76_v:OV Wh.q76 Wh.q76':=eA _
def Wh.q53 (_:Unit):Option (((List (Int)))×(Unit)):=
 let pb_0:List Int:=[(1116352408:Int),(1899447441:Int),(3049323471:Int),(3921009573:Int),(961987163:Int),(1508970993:Int),(2453635748:Int),(2870763221:Int),(3624381080:Int),(310598401:Int),(607225278:Int),(1426881987:Int),(1925078388:Int),(2162078206:Int),(2614888103:Int),(3248222580:Int),(3835390401:Int),(4022224774:Int),(264347078:Int),(604807628:Int),(770255983:Int),(1249150122:Int),(1555081692:Int),(1996064986:Int),(2554220882:Int),(2821834349:Int),(2952996808:Int),(3210313671:Int),(3336571891:Int),(3584528711:Int),(113926993:Int),(338241895:Int),(666307205:Int),(773529912:Int),(1294757372:Int),(1396182291:Int),(1695183700:Int),(1986661051:Int),(2177026350:Int),(2456956037:Int),(2730485921:Int),(2820302411:Int),(3259730800:Int),(3345764771:Int),(3516065817:Int),(3600352804:Int),(4094571909:Int),(275423344:Int),(430227734:Int),(506948616:Int),(659060556:Int),(883997877:Int),(958139571:Int),(1322822218:Int),(1537002063:Int),(1747873779:Int),(1955562222:Int),(2024104815:Int),(2227730452:Int),(2361852424:Int),(2428436474:Int),(2756734187:Int),(3204031479:Int),(3329325298:Int)]
 some (pb_0,())
def Wh.q53':=ct Wh.q53
theorem Wh.q53_v:OV Wh.q53 Wh.q53':=eA _
abbrev Wh.MV:Type:=((Int)×(Unit)×(List (Int))×(Unit))×((List (Int))×(List (Int)))
abbrev Wh.UF:Type:=((((Unit))×((List (Int)))))
def Wh.Fj (x:Wh.MV):Option (Wh.MV⊕Wh.UF):=
 let B4:=x.1.1
 let KS:List Int:=(x.1.2.2).1
 let K7:=x.2.1
 let K8:=x.2.2
 bif decide (B4<(8:Int)) then
  let pb_193:List Int:=[IntKind.wrap .u32 (List.getD KS (Int.toNat B4) (0:Int)+List.getD K7 (Int.toNat B4) (0:Int))]
  let ls_194:=K8++pb_193
  bif iy [decide (List.length K8+(1:Nat)≤dh),decide ((0:Int)≤B4),decide (B4<(↑(List.length K7):Int)),decide ((0:Int)≤B4),decide (B4<(↑(List.length KS):Int))] then
   some (.inl (((IntKind.wrap .i64 (B4+(1:Int))),(),KS,()),K7,ls_194))
  else none
 else
  some (.inr ((),K8))
def Wh.QV:(((Unit))×((List (Int)))):=default
abbrev Wh.MT:Type:=((Int)×(Unit)×(Unit)×(Unit)×(List (Int))×(Int)×(Int)×(Int)×(Int))×((List (Int))×(List (Int))×(List (Int)))
abbrev Wh.UE:Type:=((((Unit)×(Unit)×(Unit)×(List (Int))×(Int)×(Int)×(Int)×(Int))×((List (Int))×(List (Int))×(List (Int)))))
def Wh.Fi (x:Wh.MT):Option (Wh.MT⊕Wh.UE):=
 let DZ:=x.1.1
 let h_73:List Int:=(x.1.2.2.2.2).1
 let i_74:Int:=(x.1.2.2.2.2).2.1
 let PC:Int:=(x.1.2.2.2.2).2.2.1
 let a_76:Int:=(x.1.2.2.2.2).2.2.2.1
 let t_77:Int:=(x.1.2.2.2.2).2.2.2.2
 let E0:=x.2.1
 let ls_79:=x.2.2.1
 let ls_80:=x.2.2.2
 bif decide (DZ>(0:Int)) then
  let ls_82:=List.set E0 (Int.toNat DZ) (List.getD E0 (Int.toNat (IntKind.wrap .i64 (DZ-(1:Int)))) (0:Int))
  let v_83:=IntKind.wrap .i64 (DZ-(1:Int))
  bif iy [decide ((0:Int)≤DZ),decide (DZ<(↑(List.length E0):Int)),decide ((0:Int)≤v_83),decide (v_83<(↑(List.length E0):Int))] then
   some (.inl ((v_83,(),(),(),h_73,i_74,PC,a_76,t_77),ls_82,ls_79,ls_80))
  else none
 else
  some (.inr (((),(),(),h_73,i_74,PC,a_76,t_77),E0,ls_79,ls_80))
def Wh.MU:(((Unit)×(Unit)×(Unit)×(List (Int))×(Int)×(Int)×(Int)×(Int))×((List (Int))×(List (Int))×(List (Int)))):=default
abbrev Wh.MS:Type:=((Unit)×(Int)×(Unit)×(Unit)×(List (Int)))×((List (Int))×(List (Int))×(List (Int)))
abbrev Wh.UD:Type:=((((Unit)×(List (Int)))×((List (Int)))))
def Wh.Dm (x:Wh.MS):Option (Wh.MS⊕Wh.UD):=
 let BZ:=x.1.2.1
 let h_103:=x.1.2.2.2.2
 let wX:=x.2.1
 let K5:=x.2.2.1
 let K6:=x.2.2.2
 bif decide (BZ<(64:Int)) then
  let AY:=List.getD wX (Int.toNat (4:Int)) (0:Int)
  let r_119:=Wh.yF (AY,(6:Int))
  let r_120:=Wh.yF (AY,(11:Int))
  let r_121:=Wh.yF (AY,(25:Int))
  let e_122:Int:=nj Go.BinOp.xor Go.IntKind.u32 (nj Go.BinOp.xor Go.IntKind.u32 r_119.1 r_120.1) r_121.1
  bif iy [nQ (Wh.we (AY,(25:Int))),true,decide ((4:Int)<(↑(List.length wX):Int)),nQ (Wh.we (AY,(11:Int))),true,decide ((4:Int)<(↑(List.length wX):Int)),nQ (Wh.we (AY,(6:Int))),true,decide ((4:Int)<(↑(List.length wX):Int))] then
   let v_123:=List.getD wX (Int.toNat (5:Int)) (0:Int)
   let v_124:=List.getD wX (Int.toNat (6:Int)) (0:Int)
   let ch_127:Int:=nj Go.BinOp.xor Go.IntKind.u32 (nj Go.BinOp.and Go.IntKind.u32 AY v_123) (nj Go.BinOp.and Go.IntKind.u32 (nj Go.BinOp.xor Go.IntKind.u32 (Go.IntKind.max Go.IntKind.u32) AY) v_124)
   bif iy [true,decide ((6:Int)<(↑(List.length wX):Int)),true,decide ((4:Int)<(↑(List.length wX):Int)),true,decide ((5:Int)<(↑(List.length wX):Int)),true,decide ((4:Int)<(↑(List.length wX):Int))] then
    let v_128:=List.getD wX (Int.toNat (7:Int)) (0:Int)
    let v_131:=List.getD K6 (Int.toNat BZ) (0:Int)
    let v_133:=List.getD K5 (Int.toNat BZ) (0:Int)
    bif iy [decide ((0:Int)≤BZ),decide (BZ<(↑(List.length K5):Int)),decide ((0:Int)≤BZ),decide (BZ<(↑(List.length K6):Int)),true,decide ((7:Int)<(↑(List.length wX):Int))] then
     let CD:=List.getD wX (Int.toNat (0:Int)) (0:Int)
     let r_147:=Wh.yF (CD,(2:Int))
     let r_148:=Wh.yF (CD,(13:Int))
     let r_149:=Wh.yF (CD,(22:Int))
     let a_150:Int:=nj Go.BinOp.xor Go.IntKind.u32 (nj Go.BinOp.xor Go.IntKind.u32 r_147.1 r_148.1) r_149.1
     bif iy [nQ (Wh.we (CD,(22:Int))),true,decide ((0:Int)<(↑(List.length wX):Int)),nQ (Wh.we (CD,(13:Int))),true,decide ((0:Int)<(↑(List.length wX):Int)),nQ (Wh.we (CD,(2:Int))),true,decide ((0:Int)<(↑(List.length wX):Int))] then
      let v_151:=List.getD wX (Int.toNat (1:Int)) (0:Int)
      let v_152:=List.getD wX (Int.toNat (2:Int)) (0:Int)
      let S_:Int:=nj Go.BinOp.xor Go.IntKind.u32 (nj Go.BinOp.xor Go.IntKind.u32 (nj Go.BinOp.and Go.IntKind.u32 CD v_151) (nj Go.BinOp.and Go.IntKind.u32 CD v_152)) (nj Go.BinOp.and Go.IntKind.u32 v_151 v_152)
      bif iy [true,decide ((2:Int)<(↑(List.length wX):Int)),true,decide ((1:Int)<(↑(List.length wX):Int)),true,decide ((2:Int)<(↑(List.length wX):Int)),true,decide ((0:Int)<(↑(List.length wX):Int)),true,decide ((1:Int)<(↑(List.length wX):Int)),true,decide ((0:Int)<(↑(List.length wX):Int))] then
       let x_156:Wh.MT:=(((7:Int),(),(),(),h_103,BZ,S_,a_150,(IntKind.wrap .u32 (IntKind.wrap .u32 (IntKind.wrap .u32 (IntKind.wrap .u32 (v_128+e_122)+ch_127)+v_131)+v_133))),wX,K5,K6)
       bif lF Wh.Fi x_156 then
        let CG:=kG Wh.Fi Wh.MU x_156
        let h_158:=CG.1.2.2.2.1
        let i_159:Int:=(CG.1.2.2.2.2).1
        let Ta:Int:=(CG.1.2.2.2.2).2.1
        let a_161:Int:=(CG.1.2.2.2.2).2.2.1
        let t_162:Int:=(CG.1.2.2.2.2).2.2.2
        let Ig:=CG.2.1
        let ls_164:=CG.2.2.1
        let ls_165:=CG.2.2.2
        let OQ:=List.set Ig (Int.toNat (4:Int)) (IntKind.wrap .u32 (List.getD Ig (Int.toNat (4:Int)) (0:Int)+t_162))
        bif iy [true,decide ((4:Int)<(↑(List.length Ig):Int)),true,decide ((4:Int)<(↑(List.length Ig):Int))] then
         let ls_169:=List.set OQ (Int.toNat (0:Int)) (IntKind.wrap .u32 (IntKind.wrap .u32 (t_162+a_161)+Ta))
         bif iy [true,decide ((0:Int)<(↑(List.length OQ):Int))] then
          some (.inl (((),(IntKind.wrap .i64 (i_159+(1:Int))),(),(),h_158),ls_169,ls_164,ls_165))
         else none
        else none
       else none
      else none
     else none
    else none
   else none
  else none
 else
  some (.inr (((),h_103),wX))
def Wh.QU:(((Unit)×(List (Int)))×((List (Int)))):=default
def Wh.q74 (xs:(List (Int))×(List (Int))):Option (((List (Int)))×(Unit)):=
 let h_0:=xs.1
 let b_1:=xs.2
 let r_2:List Int×Unit:=Wh.q76' b_1
 bif iy [nQ (Wh.q76 b_1)] then
  let r_3:List Int×Unit:=Wh.q53' ()
  bif iy [nQ (Wh.q53 ())] then
   let pb_4:List Int:=[]++h_0
   bif iy [decide ((0:Nat)+List.length h_0≤dh)] then
    let x_173:Wh.MS:=(((),(0:Int),(),(),h_0),pb_4,r_2.1,r_3.1)
    bif lF Wh.Dm x_173 then
     let y_174:=kG Wh.Dm Wh.QU x_173
     let h_175:=y_174.1.2
     let ls_176:=y_174.2
     let x_199:Wh.MV:=(((0:Int),(),h_175,()),ls_176,[])
     bif lF Wh.Fj x_199 then
      let y_200:=kG Wh.Fj Wh.QV x_199
      let ls_201:=y_200.2
      some (ls_201,())
     else none
    else none
   else none
  else none
 else none
def Wh.q74':=ct Wh.q74
theorem Wh.q74_v:OV Wh.q74 Wh.q74':=eA _
abbrev Wh.L4:Type:=((Int)×(Unit)×(Unit))×((List (Int))×(List (Int)))
abbrev Wh.T3:Type:=((((Unit))×((List (Int)))))
def Wh.E9 (x:Wh.L4):Option (Wh.L4⊕Wh.T3):=
 let zq:=x.1.1
 let tn:=x.2.1
 let zw:=x.2.2
 bif decide (zq<(8:Int)) then
  let pb_37:List Int:=[IntKind.wrap .u8 (Int.fdiv (List.getD tn (Int.toNat zq) (0:Int)) ((2:Int) ^ Min.min (Int.toNat (24:Int)) (Go.IntKind.bits Go.IntKind.u32))),IntKind.wrap .u8 (Int.fdiv (List.getD tn (Int.toNat zq) (0:Int)) ((2:Int) ^ Min.min (Int.toNat (16:Int)) (Go.IntKind.bits Go.IntKind.u32))),IntKind.wrap .u8 (Int.fdiv (List.getD tn (Int.toNat zq) (0:Int)) ((2:Int) ^ Min.min (Int.toNat (8:Int)) (Go.IntKind.bits Go.IntKind.u32))),IntKind.wrap .u8 (List.getD tn (Int.toNat zq) (0:Int))]
  let yD:=zw++pb_37
  bif iy [decide (List.length zw+(4:Nat)≤dh),decide ((0:Int)≤zq),decide (zq<(↑(List.length tn):Int)),true,decide ((0:Int)≤zq),decide (zq<(↑(List.length tn):Int)),true,decide ((0:Int)≤zq),decide (zq<(↑(List.length tn):Int)),true,decide ((0:Int)≤zq),decide (zq<(↑(List.length tn):Int))] then
   some (.inl (((IntKind.wrap .i64 (zq+(1:Int))),(),()),tn,yD))
  else none
 else
  some (.inr ((),zw))
def Wh.Qd:(((Unit))×((List (Int)))):=default
abbrev Wh.L3:Type:=((Int)×(Unit)×(Unit))×((List (Int))×(List (Int)))
abbrev Wh.T0:Type:=((((Unit))×((List (Int)))))
def Wh.Cg (x:Wh.L3):Option (Wh.L3⊕Wh.T0):=
 let y9:=x.1.1
 let B6:=x.2.1
 let EX:=x.2.2
 bif decide (y9<(↑(List.length B6):Int)) then
  let Cz:List Int×Unit:=Wh.q74' (EX,List.take (Int.toNat (IntKind.wrap .i64 (y9+(64:Int))-y9)) (List.drop (Int.toNat y9) B6))
  let ng:=IntKind.wrap .i64 (y9+(64:Int))
  bif iy [nQ (Wh.q74 (EX,List.take (Int.toNat (ng-y9)) (List.drop (Int.toNat y9) B6))),decide ((0:Int)≤y9),decide (y9≤ng),decide (ng≤(↑(List.length B6):Int))] then
   some (.inl ((ng,(),()),B6,Cz.1))
  else none
 else
  some (.inr ((),EX))
def Wh.Qc:(((Unit))×((List (Int)))):=default
def Wh.C_ (xs:(List UInt8)):Option (((List UInt8))×(Unit)):=
 let x5:=xs
 let r_1:List Int×Unit:=Wh.q54' x5
 bif iy [nQ (Wh.q54 x5)] then
  let x_16:Wh.L3:=(((0:Int),(),()),r_1.1,[(1779033703:Int),(3144134277:Int),(1013904242:Int),(2773480762:Int),(1359893119:Int),(2600822924:Int),(528734635:Int),(1541459225:Int)])
  bif lF Wh.Cg x_16 then
   let y_17:=kG Wh.Cg Wh.Qc x_16
   let nP:=y_17.2
   let x_47:Wh.L4:=(((0:Int),(),()),nP,[])
   bif lF Wh.E9 x_47 then
    let y_48:=kG Wh.E9 Wh.Qd x_47
    let ls_49:=y_48.2
    some (qp ls_49,())
   else none
  else none
 else none
def Wh.L2:=ct Wh.C_
theorem Wh.Qe:OV Wh.C_ Wh.L2:=eA _
abbrev Wh.L0:Type:=((Int)×(List UInt8)×(Unit))×((List (Int)))
abbrev Wh.TZ:Type:=((((Unit))×((List (Int)))))
def Wh.Cf (x:Wh.L0):Option (Wh.L0⊕Wh.TZ):=
 let yU:=x.1.1
 let Aq:=x.1.2.1
 let w7:=x.2
 let ov:=decide (yU<(↑(List.length Aq):Int))
 bif ov then
  let CY:List Int:=[(↑(UInt8.toNat (List.getD [(48:UInt8),(49:UInt8),(50:UInt8),(51:UInt8),(52:UInt8),(53:UInt8),(54:UInt8),(55:UInt8),(56:UInt8),(57:UInt8),(97:UInt8),(98:UInt8),(99:UInt8),(100:UInt8),(101:UInt8),(102:UInt8)] (Int.toNat (IntKind.wrap .u8 (Int.tdiv (↑(UInt8.toNat (List.getD Aq (Int.toNat yU) (0:UInt8))):Int) (16:Int)))) (0:UInt8))):Int),(↑(UInt8.toNat (List.getD [(48:UInt8),(49:UInt8),(50:UInt8),(51:UInt8),(52:UInt8),(53:UInt8),(54:UInt8),(55:UInt8),(56:UInt8),(57:UInt8),(97:UInt8),(98:UInt8),(99:UInt8),(100:UInt8),(101:UInt8),(102:UInt8)] (Int.toNat (Int.tmod (↑(UInt8.toNat (List.getD Aq (Int.toNat yU) (0:UInt8))):Int) (16:Int))) (0:UInt8))):Int)]
  let nP:=w7++CY
  let mw:Int:=(↑(UInt8.toNat (List.getD Aq (Int.toNat yU) (0:UInt8))):Int)
  bif iy [decide (List.length w7+(2:Nat)≤dh),decide ((0:Int)≤Int.tmod mw (16:Int)),decide (Int.tmod mw (16:Int)<(↑(16:Nat):Int)),true,decide ((0:Int)≤yU),ov,decide ((0:Int)≤IntKind.wrap .u8 (Int.tdiv mw (16:Int))),decide (IntKind.wrap .u8 (Int.tdiv mw (16:Int))<(↑(16:Nat):Int)),true,decide ((0:Int)≤yU),ov] then
   some (.inl (((IntKind.wrap .i64 (yU+(1:Int))),Aq,()),nP))
  else none
 else
  some (.inr ((),w7))
def Wh.Qb:(((Unit))×((List (Int)))):=default
def Wh.Ce (xs:(List UInt8)):Option (((List UInt8))×(Unit)):=
 let fe:=xs
 let x_25:Wh.L0:=(((0:Int),fe,()),[])
 bif lF Wh.Cf x_25 then
  let zk:=kG Wh.Cf Wh.Qb x_25
  let ye:=zk.2
  some (qp ye,())
 else none
def Wh.IF:=ct Wh.Ce
theorem Wh.L1:OV Wh.Ce Wh.IF:=eA _
def Wh.q71 (xs:(List UInt8)):Option (((List UInt8))×(Unit)):=
 let x5:=xs
 let r_1:xR.D:=Wh.L2 x5
 let r_3:xR.D:=Wh.IF r_1.1
 bif iy [nQ (Wh.Ce r_1.1),nQ (Wh.C_ x5)] then
  some (r_3.1,())
 else none
def Wh.Cw:=ct Wh.q71
theorem Wh.q71_v:OV Wh.q71 Wh.Cw:=eA _
def Wh.q95 (xs:(Int)×(List UInt8)):Option (((List UInt8))×(Unit)):=
 let xN:=xs.1
 let yq:=xs.2
 let r_2:xR.D:=Wh.Al xN
 let gz:xR.D:=Wh.Al (↑(List.length yq):Int)
 let y8:=r_2.1 ++ [(32:UInt8)]++gz.1 ++ [(32:UInt8)]
 bif iy [decide (List.length (r_2.1 ++ [(32:UInt8)]++gz.1)+(1:Nat)≤dh),decide (List.length (r_2.1 ++ [(32:UInt8)])+List.length gz.1≤dh),nQ (Wh.AE (↑(List.length yq):Int)),decide (List.length r_2.1+(1:Nat)≤dh),nQ (Wh.AE xN)] then
  let yR:List UInt8:=y8++yq
  let xZ:xR.D:=Wh.Cw yR
  let n5:List UInt8:=y8++List.take (Int.toNat ((16:Int)-(0:Int))) (List.drop (Int.toNat (0:Int)) xZ.1) ++ [(32:UInt8)]++yq ++ [(10:UInt8)]
  bif iy [decide (List.length (y8++List.take (Int.toNat ((16:Int)-(0:Int))) (List.drop (Int.toNat (0:Int)) ((Wh.Cw yR).1)) ++ [(32:UInt8)]++yq)+(1:Nat)≤dh),decide (List.length (y8++List.take (Int.toNat ((16:Int)-(0:Int))) (List.drop (Int.toNat (0:Int)) ((Wh.Cw yR).1)) ++ [(32:UInt8)])+List.length yq≤dh),decide (List.length (y8++List.take (Int.toNat ((16:Int)-(0:Int))) (List.drop (Int.toNat (0:Int)) ((Wh.Cw yR).1)))+(1:Nat)≤dh),decide (List.length y8+List.length (List.take (Int.toNat ((16:Int)-(0:Int))) (List.drop (Int.toNat (0:Int)) ((Wh.Cw yR).1)))≤dh),true,true,decide ((16:Int)≤(↑(List.length ((Wh.Cw yR).1)):Int)),nQ (Wh.q71 yR),decide (List.length y8+List.length yq≤dh)] then
   some (n5,())
  else none
 else none
def Wh.q95':=ct Wh.q95
theorem Wh.Nc:OV Wh.q95 Wh.q95':=eA _
def Wh.BK (xs:(List UInt8)×(Int)×(Int)):Option (((List UInt8)×(Int))×(Unit)):=
 let x8:=xs.1
 let yT:=xs.2.1
 let Lt:=xs.2.2
 let r_3:=Wh.Fk (x8,yT,(32:Int))
 bif iy [nQ (Wh.ym (x8,yT,(32:Int)))] then
  let xU:=decide (r_3.1<(0:Int))
  let x4:=Wh.Fa (List.take (Int.toNat (r_3.1-yT)) (List.drop (Int.toNat yT) x8))
  let zj:=bif xU then true else x4.1 != Lt
  bif iy [!!xU || nQ (Wh.zM (List.take (Int.toNat (r_3.1-yT)) (List.drop (Int.toNat yT) x8))),!!xU || decide ((0:Int)≤yT),!!xU || decide (yT≤r_3.1),!!xU || decide (r_3.1≤(↑(List.length x8):Int))] then
   bif zj then
    some (([],(0:Int)),())
   else
    let yI:=IntKind.wrap .i64 (r_3.1+(1:Int))
    let r_9:=Wh.Fk (x8,yI,(32:Int))
    bif iy [nQ (Wh.ym (x8,yI,(32:Int)))] then
     bif decide (r_9.1<(0:Int)) then
      some (([],(0:Int)),())
     else
      let Cz:=Wh.Fa (List.take (Int.toNat (r_9.1-yI)) (List.drop (Int.toNat yI) x8))
      bif iy [nQ (Wh.zM (List.take (Int.toNat (r_9.1-yI)) (List.drop (Int.toNat yI) x8))),decide ((0:Int)≤yI),decide (yI≤r_9.1),decide (r_9.1≤(↑(List.length x8):Int))] then
       let ng:=IntKind.wrap .i64 (r_9.1+(18:Int))
       let r_15:=Wh.xP (Cz.1,(1:Int),(500:Int))
       let ov:=bif !r_15.1 then true else decide (IntKind.wrap .i64 (IntKind.wrap .i64 (ng+Cz.1)+(1:Int))>(↑(List.length x8):Int))
       bif iy [nQ (Wh.so (Cz.1,(1:Int),(500:Int)))] then
        bif ov then
         some (([],(0:Int)),())
        else
         let s4:=IntKind.wrap .i64 (ng+Cz.1)
         let xZ:xR.D:=Wh.q95' (Lt,List.take (Int.toNat (s4-ng)) (List.drop (Int.toNat ng) x8))
         bif iy [nQ (Wh.q95 (Lt,List.take (Int.toNat (s4-ng)) (List.drop (Int.toNat ng) x8))),decide ((0:Int)≤ng),decide (ng≤s4),decide (s4≤(↑(List.length x8):Int))] then
          bif iy [decide ((0:Int)≤yT),decide (yT≤IntKind.wrap .i64 (s4+(1:Int))),decide (IntKind.wrap .i64 (s4+(1:Int))≤(↑(List.length x8):Int))] then
           bif(!List.take (Int.toNat (IntKind.wrap .i64 (s4+(1:Int))-yT)) (List.drop (Int.toNat yT) x8)==xZ.1) then
            some (([],(0:Int)),())
           else
            let As:Int:=(↑(List.length xZ.1):Int)
            let yQ:List UInt8:=List.take (Int.toNat (s4-ng)) (List.drop (Int.toNat ng) x8)
            bif iy [decide ((0:Int)≤ng),decide (ng≤s4),decide (s4≤(↑(List.length x8):Int))] then
             some ((yQ,As),())
            else none
          else none
         else none
       else none
      else none
    else none
  else none
 else none
def Wh.q96':=ct Wh.BK
theorem Wh.Nd:OV Wh.BK Wh.q96':=eA _
abbrev Wh.Nf:Type:=((Int)×(Unit)×(List UInt8))×((List (List UInt8)))
abbrev Wh.US:Type:=((((Unit)×(Int))×((List (List UInt8)))))
def Wh.Cy (x:Wh.Nf):Option (Wh.Nf⊕Wh.US):=
 let HO:=x.1.1
 let K3:=x.1.2.2
 let th:List (List UInt8):=x.2
 let nc:Int:=(↑(List.length th):Int)
 let CA:(List UInt8×Int)×Unit:=Wh.q96' (K3,HO,nc)
 bif iy [nQ (Wh.BK (K3,HO,nc))] then
  bif(CA.1.2==(0:Int)) then
   some (.inr (((),HO),th))
  else
   let pb_30:List (List UInt8):=[CA.1.1]
   let yz:List (List UInt8):=th++pb_30
   bif iy [decide (List.length th+(1:Nat)≤dh)] then
    some (.inl (((IntKind.wrap .i64 (HO+CA.1.2)),(),K3),yz))
   else none
 else none
def Wh.Q8:(((Unit)×(Int))×((List (List UInt8)))):=default
def Wh.BL (xs:(List UInt8)):Option (((List (List UInt8))×(Int))×(Unit)):=
 let x8:=xs
 let x_33:Wh.Nf:=(((0:Int),(),x8),[])
 bif lF Wh.Cy x_33 then
  let y_34:=kG Wh.Cy Wh.Q8 x_33
  let v_35:=y_34.1.2
  let La:List (List UInt8):=y_34.2
  some ((La,v_35),())
 else none
def Wh.IX:=ct Wh.BL
theorem Wh.Ng:OV Wh.BL Wh.IX:=eA _
abbrev Wh.M_:Type:=((Int)×(Int)×(List UInt8)×(Unit)×(Int))×((List (List UInt8)))
abbrev Wh.UQ:Type:=((((Int)×(List UInt8)×(Unit))×((List (List UInt8)))))
def Wh.yM (x:Wh.M_):Option (Wh.M_⊕Wh.UQ):=
 let gv:=x.1.1
 let DP:=x.1.2.1
 let Dw:List UInt8:=(x.1.2.2).1
 let KD:=x.1.2.2.2.2
 let th:List (List UInt8):=x.2
 let nc:=decide (gv<(↑(List.length Dw):Int))
 bif nc then
  let n5:Int:=(↑(UInt8.toNat (List.getD Dw (Int.toNat gv) (0:UInt8))):Int)
  let Ac:=n5==KD
  bif iy [decide ((0:Int)≤gv),nc] then
   bif Ac then
    let pb_23:List (List UInt8):=[List.take (Int.toNat (gv-DP)) (List.drop (Int.toNat DP) Dw)]
    let Ai:List (List UInt8):=th++pb_23
    bif iy [decide (List.length th+(1:Nat)≤dh),decide ((0:Int)≤DP),decide (DP≤gv),decide (gv≤(↑(List.length Dw):Int))] then
     let yQ:=IntKind.wrap .i64 (gv+(1:Int))
     some (.inl ((yQ,yQ,Dw,(),KD),Ai))
    else none
   else
    some (.inl (((IntKind.wrap .i64 (gv+(1:Int))),DP,Dw,(),KD),th))
  else none
 else
  some (.inr ((DP,Dw,()),th))
def Wh.Q6:(((Int)×(List UInt8)×(Unit))×((List (List UInt8)))):=default
def Wh.BJ (xs:(List UInt8)×(Int)):Option (((List (List UInt8)))×(Unit)):=
 let fe:=xs.1
 let yT:=xs.2
 let zE:Wh.M_:=(((0:Int),(0:Int),fe,(),yT),[])
 bif lF Wh.yM zE then
  let y2:=kG Wh.yM Wh.Q6 zE
  let HZ:=y2.1.1
  let Fw:=y2.1.2.1
  let yA:List (List UInt8):=y2.2
  let yj:List (List UInt8):=[List.take (Int.toNat ((↑(List.length Fw):Int)-HZ)) (List.drop (Int.toNat HZ) Fw)]
  let tn:List (List UInt8):=yA++yj
  bif iy [decide (List.length yA+(1:Nat)≤dh),decide ((0:Int)≤HZ),decide (HZ≤(↑(List.length Fw):Int)),decide ((↑(List.length Fw):Int)≤(↑(List.length Fw):Int))] then
   some (tn,())
  else none
 else none
def Wh.q93':=ct Wh.BJ
theorem Wh.Na:OV Wh.BJ Wh.q93':=eA _
abbrev Wh.M6:Type:=((Int)×(List UInt8))×(Unit)
abbrev Wh.UM:Type:=((((Bool))×(Unit))⊕(((List UInt8))×(Unit)))
def Wh.BI (x:Wh.M6):Option (Wh.M6⊕Wh.UM):=
 let y9:=x.1.1
 let Je:=x.1.2
 let yP:=decide (y9<(↑(List.length Je):Int))
 bif yP then
  let yg:Int:=(↑(UInt8.toNat (List.getD Je (Int.toNat y9) (0:UInt8))):Int)
  let w8:=bif decide (yg<(97:Int)) then true else decide (yg>(122:Int))
  bif iy [!!decide (yg<(97:Int)) || decide ((0:Int)≤y9),!!decide (yg<(97:Int)) || yP,decide ((0:Int)≤y9),yP] then
   bif w8 then
    some (.inr (.inl (false,())))
   else
    some (.inl (((IntKind.wrap .i64 (y9+(1:Int))),Je),()))
  else none
 else
  some (.inr (.inr (Je,())))
def Wh.Q2:(((Bool))×(Unit))⊕(((List UInt8))×(Unit)):=.inl default
def Wh.q90 (xs:(List UInt8)):Option (((Bool))×(Unit)):=
 let x5:=xs
 let x_17:Wh.M6:=(((0:Int),x5),())
 bif lF Wh.BI x_17 then
  sumC (kG Wh.BI Wh.Q2 x_17) (fun DD=>
   let nc:=DD.1
   some (nc,())) (fun FY=>
   let Rp:=FY.1
   let r_22:=Wh.xP ((↑(List.length Rp):Int),(1:Int),(6:Int))
   bif iy [nQ (Wh.so ((↑(List.length Rp):Int),(1:Int),(6:Int)))] then
    some (r_22.1,())
   else none)
 else none
def Wh.q90':=ct Wh.q90
theorem Wh.q90_v:OV Wh.q90 Wh.q90':=eA _
def Wh.AF (xs:(an.D)):Option (((Bool))×(Unit)):=
 let t_0:an.D:=xs
 let r_1:=Wh.xP (t_0.1,(0:Int),(1:Int))
 let r_2:=Wh.q90' t_0.2.1
 let x4:=Wh.xP ((↑(List.length ((t_0.2.2.2).1)):Int),(1:Int),(300:Int))
 let yI:=bif bif r_1.1 then r_2.1 else false then x4.1 else false
 bif iy [(!bif r_1.1 then r_2.1 else false) || nQ (Wh.so ((↑(List.length ((t_0.2.2.2).1)):Int),(1:Int),(300:Int))),!r_1.1 || nQ (Wh.q90 t_0.2.1),nQ (Wh.so (t_0.1,(0:Int),(1:Int)))] then
  some (yI,())
 else none
def Wh.D7:=ct Wh.AF
theorem Wh.Cj:OV Wh.AF Wh.D7:=eA _
def Wh.q27 (xs:(Int)×(List UInt8)×(List UInt8)):Option (((List UInt8))×(Unit)):=
 let BY:=xs.1
 let x9:=xs.2.1
 let zD:=xs.2.2
 let nE:=zD == []
 bif nE then
  let gz:=Wh.D7 (BY,x9,(0:Int),[(120:UInt8)],())
  bif iy [nQ (Wh.AF (BY,x9,(0:Int),[(120:UInt8)],()))] then
   bif !gz.1 then
    some ([],())
   else
    let x4:xR.D:=Wh.Al BY
    let zi:=x4.1 ++ [(32:UInt8)]++x9 ++ [(58:UInt8)]++zD
    bif iy [decide (List.length (x4.1 ++ [(32:UInt8)]++x9 ++ [(58:UInt8)])+List.length zD≤dh),decide (List.length (x4.1 ++ [(32:UInt8)]++x9)+(1:Nat)≤dh),decide (List.length (x4.1 ++ [(32:UInt8)])+List.length x9≤dh),decide (List.length x4.1+(1:Nat)≤dh),nQ (Wh.AE BY)] then
     some (zi,())
    else none
  else none
 else
  let r_11:=Wh.D7 (BY,x9,(0:Int),zD,())
  bif iy [nQ (Wh.AF (BY,x9,(0:Int),zD,()))] then
   bif !r_11.1 then
    some ([],())
   else
    let yN:xR.D:=Wh.Al BY
    let s4:=yN.1 ++ [(32:UInt8)]++x9 ++ [(58:UInt8)]++zD
    bif iy [decide (List.length (yN.1 ++ [(32:UInt8)]++x9 ++ [(58:UInt8)])+List.length zD≤dh),decide (List.length (yN.1 ++ [(32:UInt8)]++x9)+(1:Nat)≤dh),decide (List.length (yN.1 ++ [(32:UInt8)])+List.length x9≤dh),decide (List.length yN.1+(1:Nat)≤dh),nQ (Wh.AE BY)] then
     some (s4,())
    else none
  else none
def Wh.q27':=ct Wh.q27
theorem Wh.Mi:OV Wh.q27 Wh.q27':=eA _
def Wh.CZ (xs:(an.D)×(Int)×(List UInt8)):Option (((Bool))×(Unit)):=
 let bx:an.D:=xs.1
 let nW:=xs.2.1
 let xO:=xs.2.2
 let s_:=bif decide (bx.1<nW) then true else bif bx.1==nW then Go.Op.bytesLess bx.2.1 xO else false
 some (s_,())
def Wh.Ix:=ct Wh.CZ
theorem Wh.Iy:OV Wh.CZ Wh.Ix:=eA _
abbrev Wh.MY:Type:=((Int)×(List (an.D))×(Int)×(Int))×(Unit)
abbrev Wh.UI:Type:=((((Int))×(Unit)))
def Wh.BF (x:Wh.MY):Option (Wh.MY⊕Wh.UI):=
 let gv:=x.1.1
 let Ie:List (an.D):=x.1.2.1
 let CW:Int:=(x.1.2.2).1
 let CN:=x.1.2.2.2
 let mw:Int:=(↑(List.length Ie):Int)
 bif decide (gv<mw) then
  let n5:an.D:=List.getD Ie (Int.toNat gv) ((0:Int),[],(0:Int),[],())
  bif iy [decide ((0:Int)≤gv),decide (gv<mw)] then
   bif(n5.1==CN) then
    bif iy [decide ((0:Int)≤gv),decide (gv<mw)] then
     some (.inl (((IntKind.wrap .i64 (gv+(1:Int))),Ie,(IntKind.wrap .i64 (CW+(↑(List.length ((n5.2.2.2).1)):Int))),CN),()))
    else none
   else
    some (.inl (((IntKind.wrap .i64 (gv+(1:Int))),Ie,CW,CN),()))
  else none
 else
  some (.inr (CW,()))
def Wh.QY:(((Int))×(Unit)):=default
def Wh.q78 (xs:(List (an.D))×(Int)):Option (((Int))×(Unit)):=
 let list_0:List (an.D):=xs.1
 let nW:=xs.2
 let zE:Wh.MY:=(((0:Int),list_0,(0:Int),nW),())
 bif lF Wh.BF zE then
  let y2:=kG Wh.BF Wh.QY zE
  let n_30:=y2.1
  some (n_30,())
 else none
def Wh.IT:=ct Wh.q78
theorem Wh.IU:OV Wh.q78 Wh.IT:=eA _
abbrev Wh.LV:Type:=((Int)×(Unit))×((bn.D))
abbrev Wh.TX:Type:=((((Bool))×(Unit))⊕((Unit)×(Unit)))
def Wh.C8 (x:Wh.LV):Option (Wh.LV⊕Wh.TX):=
 let h_66:=x.1.1
 let EZ:bn.D:=x.2
 bif decide (h_66<(2:Int)) then
  let r_69:=Wh.IT (EZ.2.1,h_66)
  bif iy [nQ (Wh.q78 (EZ.2.1,h_66))] then
   bif decide (r_69.1>(500:Int)) then
    some (.inr (.inl (false,())))
   else
    some (.inl (((IntKind.wrap .i64 (h_66+(1:Int))),()),EZ))
  else none
 else
  some (.inr (.inr ((),())))
def Wh.P_:(((Bool))×(Unit))⊕((Unit)×(Unit)):=.inl default
abbrev Wh.LU:Type:=((Int)×(Unit)×(Unit)×(Int))×((an.D)×(bn.D))
abbrev Wh.TW:Type:=((((Bool))×(Unit))⊕(((Unit)×(Int))×((bn.D))))
def Wh.Cc (x:Wh.LU):Option (Wh.LU⊕Wh.TW):=
 let ET:=x.1.1
 let i_23:=x.1.2.2.2
 let Ai:an.D:=x.2.1
 let Ih:bn.D:=x.2.2
 bif decide (ET<i_23) then
  let FC:an.D:=List.getD Ih.2.1 (Int.toNat ET) ((0:Int),[],(0:Int),[],())
  bif iy [decide ((0:Int)≤ET),decide (ET<(↑(List.length Ih.2.1):Int))] then
   bif(FC.2.2.1==Ai.2.2.1) then
    some (.inr (.inl (false,())))
   else
    some (.inl (((IntKind.wrap .i64 (ET+(1:Int))),(),(),i_23),Ai,Ih))
  else none
 else
  some (.inr (.inr (((),i_23),Ih)))
def Wh.P9:(((Bool))×(Unit))⊕(((Unit)×(Int))×((bn.D))):=.inl default
abbrev Wh.LS:Type:=((Unit)×(Int))×((bn.D))
abbrev Wh.TV:Type:=((((Bool))×(Unit))⊕(((Unit))×((bn.D))))
def Wh.Be (x:Wh.LS):Option (Wh.LS⊕Wh.TV):=
 let zJ:=x.1.2
 let yD:bn.D:=x.2
 let FE:Int:=(↑(List.length yD.2.1):Int)
 bif decide (zJ<FE) then
  let Ba:an.D:=List.getD yD.2.1 (Int.toNat zJ) ((0:Int),[],(0:Int),[],())
  bif iy [decide ((0:Int)≤zJ),decide (zJ<FE)] then
   let Ft:=Wh.D7 Ba
   let I4:=Wh.xP (Ba.2.2.1,(1:Int),yD.1)
   let r_46:=Wh.Ix (List.getD yD.2.1 (Int.toNat (IntKind.wrap .i64 (zJ-(1:Int)))) ((0:Int),[],(0:Int),[],()),Ba.1,Ba.2.1)
   let v_47:=bif bif !Ft.1 then true else !I4.1 then true else bif decide (zJ>(0:Int)) then !r_46.1 else false
   bif iy [!(decide (zJ>(0:Int)) && !bif !Ft.1 then true else !I4.1) || nQ (Wh.CZ (List.getD yD.2.1 (Int.toNat (IntKind.wrap .i64 (zJ-(1:Int)))) ((0:Int),[],(0:Int),[],()),Ba.1,Ba.2.1)),!(decide (zJ>(0:Int)) && !bif !Ft.1 then true else !I4.1) || decide ((0:Int)≤IntKind.wrap .i64 (zJ-(1:Int))),!(decide (zJ>(0:Int)) && !bif !Ft.1 then true else !I4.1) || decide (IntKind.wrap .i64 (zJ-(1:Int))<FE),!!!Ft.1 || nQ (Wh.so (Ba.2.2.1,(1:Int),yD.1)),nQ (Wh.AF Ba)] then
    bif v_47 then
     some (.inr (.inl (false,())))
    else
     let FO:Wh.LU:=(((0:Int),(),(),zJ),Ba,yD)
     bif lF Wh.Cc FO then
      sumC (kG Wh.Cc Wh.P9 FO) (fun Ej=>
       let A1:=Ej.1
       some (.inr (.inl (A1,())))) (fun z_50=>
       let i_52:=z_50.1.2
       let ls_53:bn.D:=z_50.2
       some (.inl (((),(IntKind.wrap .i64 (i_52+(1:Int)))),ls_53)))
     else none
   else none
  else none
 else
  some (.inr (.inr ((),yD)))
def Wh.P8:(((Bool))×(Unit))⊕(((Unit))×((bn.D))):=.inl default
def Wh.Cb (xs:(bn.D)):Option (((Bool))×(Unit)):=
 let fk:bn.D:=xs
 let r_1:=Wh.xP (fk.1,(0:Int),(99999:Int))
 let v_2:=bif !r_1.1 then true else decide ((↑(List.length fk.2.1):Int)>(8:Int))
 bif iy [nQ (Wh.so (fk.1,(0:Int),(99999:Int)))] then
  bif v_2 then
   some (false,())
  else
   let FP:Wh.LS:=(((),(0:Int)),fk)
   bif lF Wh.Be FP then
    sumC (kG Wh.Be Wh.P8 FP) (fun y_56=>
     let v_58:=y_56.1
     some (v_58,())) (fun z_57=>
     let ls_59:bn.D:=z_57.2
     let x_72:Wh.LV:=(((0:Int),()),ls_59)
     bif lF Wh.C8 x_72 then
      sumC (kG Wh.C8 Wh.P_ x_72) (fun y_73=>
       let v_75:=y_73.1
       some (v_75,())) (fun _=>
       some (true,()))
     else none)
   else none
 else none
def Wh.IC:=ct Wh.Cb
theorem Wh.D5:OV Wh.Cb Wh.IC:=eA _
abbrev Wh.L_:Type:=((Int)×(List UInt8)×(Unit)×(Int))×((bn.D))
abbrev Wh.T7:Type:=((((Int))×(Unit))⊕((Unit)×(Unit)))
def Wh.Bi (x:Wh.L_):Option (Wh.L_⊕Wh.T7):=
 let B3:=x.1.1
 let PE:=x.1.2.1
 let H9:=x.1.2.2.2
 let xe:bn.D:=x.2
 let n4:Int:=(↑(List.length xe.2.1):Int)
 bif decide (B3<n4) then
  let nc:an.D:=List.getD xe.2.1 (Int.toNat B3) ((0:Int),[],(0:Int),[],())
  let AZ:=bif nc.1==H9 then nc.2.1==PE else false
  bif iy [!nc.1==H9 || decide ((0:Int)≤B3),!nc.1==H9 || decide (B3<n4),decide ((0:Int)≤B3),decide (B3<n4)] then
   bif AZ then
    some (.inr (.inl (B3,())))
   else
    some (.inl (((IntKind.wrap .i64 (B3+(1:Int))),PE,(),H9),xe))
  else none
 else
  some (.inr (.inr ((),())))
def Wh.Qj:(((Int))×(Unit))⊕((Unit)×(Unit)):=.inl default
def Wh.Am (xs:(bn.D)×(Int)×(List UInt8)):Option (((Int))×(Unit)):=
 let fk:bn.D:=xs.1
 let nW:=xs.2.1
 let xO:=xs.2.2
 let x_25:Wh.L_:=(((0:Int),xO,(),nW),fk)
 bif lF Wh.Bi x_25 then
  sumC (kG Wh.Bi Wh.Qj x_25) (fun zk=>
   let nG:=zk.1
   some (nG,())) (fun _=>
   some ((-1:Int),()))
 else none
def Wh.IJ:=ct Wh.Am
theorem Wh.Fb:OV Wh.Am Wh.IJ:=eA _
def Wh.AQ (xs:(bn.D)):Option ((((Int)×((List (an.D))×(Unit))))×(Unit)):=
 let fk:bn.D:=xs
 let zc:List (an.D):=[]++fk.2.1
 bif iy [decide ((0:Nat)+List.length fk.2.1≤dh)] then
  some ((fk.1,zc,fk.2.2),())
 else none
def Wh.Ec:=ct Wh.AQ
theorem Wh.Fl:OV Wh.AQ Wh.Ec:=eA _
def Wh.C0 (xs:(bn.D)×(Int)):Option ((((Int)×((List (an.D))×(Unit))))×(Unit)):=
 let fk:bn.D:=xs.1
 let k_1:=xs.2
 let pb_2:List (an.D):=[]++List.take (Int.toNat (k_1-(0:Int))) (List.drop (Int.toNat (0:Int)) fk.2.1)
 let pb_3:List (an.D):=pb_2++List.take (Int.toNat ((↑(List.length fk.2.1):Int)-IntKind.wrap .i64 (k_1+(1:Int)))) (List.drop (Int.toNat (IntKind.wrap .i64 (k_1+(1:Int)))) fk.2.1)
 let xU:List (an.D):=List.take (Int.toNat (k_1-(0:Int))) (List.drop (Int.toNat (0:Int)) fk.2.1)
 let s_:=IntKind.wrap .i64 (k_1+(1:Int))
 bif iy [decide (List.length pb_2+List.length (List.take (Int.toNat ((↑(List.length fk.2.1):Int)-s_)) (List.drop (Int.toNat s_) fk.2.1))≤dh),decide ((0:Int)≤s_),decide (s_≤(↑(List.length fk.2.1):Int)),decide ((↑(List.length fk.2.1):Int)≤(↑(List.length fk.2.1):Int)),decide ((0:Nat)+List.length xU≤dh),true,decide ((0:Int)≤k_1),decide (k_1≤(↑(List.length fk.2.1):Int))] then
  some ((fk.1,pb_3,()),())
 else none
def Wh.LF:=ct Wh.C0
theorem Wh.PW:OV Wh.C0 Wh.LF:=eA _
def Wh.q70 (xs:(bn.D)×(Int)×(List UInt8)):Option ((((Int)×((List (an.D))×(Unit)))×(Int))×(Unit)):=
 let fk:bn.D:=xs.1
 let nW:=xs.2.1
 let xO:=xs.2.2
 let r_3:=Wh.IC fk
 bif iy [nQ (Wh.Cb fk)] then
  bif !r_3.1 then
   some ((((0:Int),[],()),(1:Int)),())
  else
   let gz:=Wh.IJ (fk,nW,xO)
   bif iy [nQ (Wh.Am (fk,nW,xO))] then
    bif decide (gz.1<(0:Int)) then
     let yp:(bn.D)×Unit:=Wh.Ec fk
     bif iy [nQ (Wh.AQ fk)] then
      some ((yp.1,(3:Int)),())
     else none
    else
     let Aa:(bn.D)×Unit:=Wh.LF (fk,gz.1)
     bif iy [nQ (Wh.C0 (fk,gz.1))] then
      some ((Aa.1,(0:Int)),())
     else none
   else none
 else none
def Wh.IS:=ct Wh.q70
theorem Wh.q70_v:OV Wh.q70 Wh.IS:=eA _
abbrev Wh.L8:Type:=((Int)×(Unit)×(Unit)×(Unit))×(((Int)×((Unit)×(Unit)))×(bn.D)×(an.D)×(List (an.D)))
abbrev Wh.T6:Type:=((((Unit)×(Int)×(Unit)×(Unit))×(((Int)×((Unit)×(Unit)))×(bn.D)×(an.D)×(List (an.D)))))
def Wh.Bh (x:Wh.L8):Option (Wh.L8⊕Wh.T6):=
 let Aw:=x.1.1
 let w7:=x.2.1.1
 let z8:=x.2.1.2.2
 let xe:bn.D:=x.2.2.1
 let nP:an.D:=(x.2.2.2).1
 let th:List (an.D):=x.2.2.2.2
 let nc:Int:=(↑(List.length xe.2.1):Int)
 let yY:=Wh.Ix (List.getD xe.2.1 (Int.toNat Aw) ((0:Int),[],(0:Int),[],()),nP.1,nP.2.1)
 let yH:=bif decide (Aw<nc) then yY.1 else false
 bif iy [!decide (Aw<nc) || nQ (Wh.CZ (List.getD xe.2.1 (Int.toNat Aw) ((0:Int),[],(0:Int),[],()),nP.1,nP.2.1)),!decide (Aw<nc) || decide ((0:Int)≤Aw),!decide (Aw<nc) || decide (Aw<nc)] then
  bif yH then
   some (.inl (((IntKind.wrap .i64 (Aw+(1:Int))),(),(),()),(w7,(),z8),xe,nP,th))
  else
   some (.inr (((),Aw,(),()),(w7,(),z8),xe,nP,th))
 else none
def Wh.Qh:(((Unit)×(Int)×(Unit)×(Unit))×(((Int)×((Unit)×(Unit)))×(bn.D)×(an.D)×(List (an.D)))):=default
def Wh.Db (xs:(bn.D)×(an.D)):Option ((((Int)×((List (an.D))×(Unit))))×(Unit)):=
 let fk:bn.D:=xs.1
 let t_1:an.D:=xs.2
 let FJ:Wh.L8:=(((0:Int),(),(),()),((0:Int),(),()),fk,t_1,[])
 bif lF Wh.Bh FJ then
  let FU:=kG Wh.Bh Wh.Qh FJ
  let Ax:=FU.1.2.1
  let yz:bn.D:=FU.2.2.1
  let yA:an.D:=(FU.2.2.2).1
  let Iu:=IntKind.wrap .i64 (yz.1+(1:Int))
  let Lz:List (an.D):=[]++List.take (Int.toNat (Ax-(0:Int))) (List.drop (Int.toNat (0:Int)) yz.2.1)
  let Iv:List (an.D):=[(yA.1,yA.2.1,Iu,yA.2.2.2)]
  let pb_38:List (an.D):=Lz++Iv++List.take (Int.toNat ((↑(List.length yz.2.1):Int)-Ax)) (List.drop (Int.toNat Ax) yz.2.1)
  let FE:List (an.D):=List.take (Int.toNat (Ax-(0:Int))) (List.drop (Int.toNat (0:Int)) yz.2.1)
  let v_40:List (an.D):=List.take (Int.toNat ((↑(List.length yz.2.1):Int)-Ax)) (List.drop (Int.toNat Ax) yz.2.1)
  bif iy [decide (List.length (Lz++Iv)+List.length v_40≤dh),decide ((0:Int)≤Ax),decide (Ax≤(↑(List.length yz.2.1):Int)),decide ((↑(List.length yz.2.1):Int)≤(↑(List.length yz.2.1):Int)),decide (List.length Lz+(1:Nat)≤dh),decide ((0:Nat)+List.length FE≤dh),true,decide ((0:Int)≤Ax),decide (Ax≤(↑(List.length yz.2.1):Int))] then
   some ((Iu,pb_38,()),())
  else none
 else none
def Wh.L7:=ct Wh.Db
theorem Wh.Qi:OV Wh.Db Wh.L7:=eA _
def Wh.BH (xs:(bn.D)×(Int)×(List UInt8)×(List UInt8)):Option ((((Int)×((List (an.D))×(Unit)))×(Int))×(Unit)):=
 let fk:bn.D:=xs.1
 let nW:=xs.2.1
 let xO:=xs.2.2.1
 let AX:=xs.2.2.2
 let gz:=Wh.IC fk
 bif iy [nQ (Wh.Cb fk)] then
  bif !gz.1 then
   some ((((0:Int),[],()),(1:Int)),())
  else
   let x4:=Wh.D7 (nW,xO,(0:Int),AX,())
   bif iy [nQ (Wh.AF (nW,xO,(0:Int),AX,()))] then
    bif !x4.1 then
     let yp:(bn.D)×Unit:=Wh.Ec fk
     bif iy [nQ (Wh.AQ fk)] then
      some ((yp.1,(1:Int)),())
     else none
    else
     let Aa:=Wh.IJ (fk,nW,xO)
     bif iy [nQ (Wh.Am (fk,nW,xO))] then
      bif decide (Aa.1≥(0:Int)) then
       let AR:(bn.D)×Unit:=Wh.Ec fk
       bif iy [nQ (Wh.AQ fk)] then
        some ((AR.1,(2:Int)),())
       else none
      else
       let yP:Int:=(↑(List.length fk.2.1):Int)
       let Fo:=Wh.IT (fk.2.1,nW)
       let n4:=bif bif decide (yP≥(8:Int)) then true else decide (fk.1≥(99999:Int)) then true else decide (IntKind.wrap .i64 (Fo.1+(↑(List.length AX):Int))>(500:Int))
       bif iy [(!!bif decide (yP≥(8:Int)) then true else decide (fk.1≥(99999:Int))) || nQ (Wh.q78 (fk.2.1,nW))] then
        bif n4 then
         let r_19:(bn.D)×Unit:=Wh.Ec fk
         bif iy [nQ (Wh.AQ fk)] then
          some ((r_19.1,(4:Int)),())
         else none
        else
         let xZ:(bn.D)×Unit:=Wh.L7 (fk,nW,xO,(0:Int),AX,())
         bif iy [nQ (Wh.Db (fk,nW,xO,(0:Int),AX,()))] then
          some ((xZ.1,(0:Int)),())
         else none
       else none
     else none
   else none
 else none
def Wh.IW:=ct Wh.BH
theorem Wh.q89_v:OV Wh.BH Wh.IW:=eA _
def Wh.BM (xs:(bn.D)×(List UInt8)):Option ((((Int)×((List (an.D))×(Unit)))×(Bool))×(Unit)):=
 let fk:bn.D:=xs.1
 let s_1:=xs.2
 let r_2:=Wh.Fk (s_1,(0:Int),(58:Int))
 bif iy [nQ (Wh.ym (s_1,(0:Int),(58:Int)))] then
  bif decide (r_2.1<(0:Int)) then
   some ((((0:Int),[],()),false),())
  else
   let gz:List (List UInt8)×Unit:=Wh.q93' (List.take (Int.toNat (r_2.1-(0:Int))) (List.drop (Int.toNat (0:Int)) s_1),(32:Int))
   let s_:List UInt8:=List.take (Int.toNat (r_2.1-(0:Int))) (List.drop (Int.toNat (0:Int)) s_1)
   bif iy [nQ (Wh.BJ (s_,(32:Int))),true,decide ((0:Int)≤r_2.1),decide (r_2.1≤(↑(List.length s_1):Int))] then
    let zj:=IntKind.wrap .i64 (r_2.1+(1:Int))
    let BQ:List UInt8:=List.take (Int.toNat ((↑(List.length s_1):Int)-zj)) (List.drop (Int.toNat zj) s_1)
    bif iy [decide ((0:Int)≤zj),decide (zj≤(↑(List.length s_1):Int)),decide ((↑(List.length s_1):Int)≤(↑(List.length s_1):Int))] then
     let xV:Int:=(↑(List.length gz.1):Int)
     let yN:=Wh.Fa (List.getD gz.1 (Int.toNat (0:Int)) [])
     let Cz:xR.D:=Wh.q27' (yN.1,List.getD gz.1 (Int.toNat (1:Int)) [],BQ)
     let ng:=bif xV != (2:Int) then true else !Cz.1==s_1
     bif iy [!!xV != (2:Int) || nQ (Wh.q27 (yN.1,List.getD gz.1 (Int.toNat (1:Int)) [],BQ)),!!xV != (2:Int) || decide ((0:Int)≤(1:Int)),!!xV != (2:Int) || decide ((1:Int)<xV),!!xV != (2:Int) || nQ (Wh.zM (List.getD gz.1 (Int.toNat (0:Int)) [])),!!xV != (2:Int) || decide ((0:Int)≤(0:Int)),!!xV != (2:Int) || decide ((0:Int)<xV)] then
      bif ng then
       some ((((0:Int),[],()),false),())
      else
       let w8:=BQ == []
       bif w8 then
        let Fo:((bn.D)×Int)×Unit:=Wh.IS (fk,yN.1,List.getD gz.1 (Int.toNat (1:Int)) [])
        let mw:=List.getD gz.1 (Int.toNat (0:Int)) []
        let nc:=List.getD gz.1 (Int.toNat (1:Int)) []
        let r_30:((bn.D)×Int)×Unit:=Wh.IS (fk,yN.1,nc)
        bif iy [nQ (Wh.q70 (fk,yN.1,nc)),true,decide ((1:Int)<xV),nQ (Wh.zM mw),true,decide ((0:Int)<xV)] then
         some (((Fo.1.1.1,(Fo.1.1.2).1,Fo.1.1.2.2),(r_30.1.2==(0:Int))),())
        else none
       else
        let nS:((bn.D)×Int)×Unit:=Wh.IW (fk,yN.1,List.getD gz.1 (Int.toNat (1:Int)) [],BQ)
        let v_35:=List.getD gz.1 (Int.toNat (0:Int)) []
        let x7:=List.getD gz.1 (Int.toNat (1:Int)) []
        let r_46:((bn.D)×Int)×Unit:=Wh.IW (fk,yN.1,x7,BQ)
        bif iy [nQ (Wh.BH (fk,yN.1,x7,BQ)),true,decide ((1:Int)<xV),nQ (Wh.zM v_35),true,decide ((0:Int)<xV)] then
         some (((nS.1.1.1,(nS.1.1.2).1,nS.1.1.2.2),(r_46.1.2==(0:Int))),())
        else none
     else none
    else none
   else none
 else none
def Wh.q99':=ct Wh.BM
theorem Wh.Nh:OV Wh.BM Wh.q99':=eA _
abbrev Wh.LP:Type:=((Unit)×(Int)×(Unit)×(List (List UInt8)))×(((Int)×((Unit)×(Unit)))×((Int)×((Unit)×(Unit)))×(List (an.D))×(List (an.D)))
abbrev Wh.TT:Type:=((((Unit)×(Bool))×(((Int)×((Unit)×(Unit)))×(List (an.D))))⊕(((Unit)×(Unit))×(((Int)×((Unit)×(Unit)))×((Int)×((Unit)×(Unit)))×(List (an.D))×(List (an.D)))))
def Wh.Bc (x:Wh.LP):Option (Wh.LP⊕Wh.TT):=
 let gv:=x.1.2.1
 let Ja:List (List UInt8):=x.1.2.2.2
 let xe:=x.2.1.1
 let nP:=x.2.1.2.2
 let th:=x.2.2.1.1
 let yK:Unit:=(x.2.2.1).2.2
 let yx:List (an.D):=(x.2.2.2).1
 let yy:List (an.D):=x.2.2.2.2
 let AZ:Int:=(↑(List.length Ja):Int)
 bif decide (gv<AZ) then
  let AU:((bn.D)×Bool)×Unit:=Wh.q99' ((th,yy,yK),List.getD Ja (Int.toNat gv) [])
  let yQ:=List.getD Ja (Int.toNat gv) []
  bif iy [nQ (Wh.BM ((th,yy,yK),yQ)),decide ((0:Int)≤gv),decide (gv<AZ)] then
   bif(!AU.1.2) then
    some (.inr (.inl (((),false),((0:Int),(),()),[])))
   else
    some (.inl (((),(IntKind.wrap .i64 (gv+(1:Int))),(),Ja),(xe,(),nP),(AU.1.1.1,(),AU.1.1.2.2),yx,(AU.1.1.2).1))
  else none
 else
  some (.inr (.inr (((),()),(xe,(),nP),(th,(),yK),yx,yy)))
def Wh.P6:(((Unit)×(Bool))×(((Int)×((Unit)×(Unit)))×(List (an.D))))⊕(((Unit)×(Unit))×(((Int)×((Unit)×(Unit)))×((Int)×((Unit)×(Unit)))×(List (an.D))×(List (an.D)))):=.inl default
def Wh.Ca (xs:(List (List UInt8))):Option ((((Int)×((List (an.D))×(Unit)))×(Bool))×(Unit)):=
 let I_:List (List UInt8):=xs
 let FM:Wh.LP:=(((),(0:Int),(),I_),((0:Int),(),()),((0:Int),(),()),[],[])
 bif lF Wh.Bc FM then
  sumC (kG Wh.Bc Wh.P6 FM) (fun Ei=>
   let v_32:=Ei.1.2
   let za:=Ei.2.1.1
   let tn:=Ei.2.1.2.2
   let zw:List (an.D):=Ei.2.2
   some (((za,zw,tn),v_32),())) (fun z_31=>
   let yD:=z_31.2.2.1.1
   let B7:Unit:=(z_31.2.2.1).2.2
   let ls_41:List (an.D):=z_31.2.2.2.2
   some (((yD,ls_41,B7),true),()))
 else none
def Wh.IB:=ct Wh.Ca
theorem Wh.LQ:OV Wh.Ca Wh.IB:=eA _
def Wh.q73 (xs:(eB.D)):Option (((Bool))×(Unit)):=
 let fe:eB.D:=xs
 let r_1:(List (List UInt8)×Int)×Unit:=Wh.IX (fe.2.2.1)
 bif iy [nQ (Wh.BL (fe.2.2.1))] then
  let r_2:((bn.D)×Bool)×Unit:=Wh.IB r_1.1.1
  bif iy [nQ (Wh.Ca r_1.1.1)] then
   some (r_2.1.2,())
  else none
 else none
def Wh.q73':=ct Wh.q73
theorem Wh.q73_v:OV Wh.q73 Wh.q73':=eA _
abbrev Wh.MR:Type:=((Int)×(Unit)×(Unit))×((bn.D)×(bn.D))
abbrev Wh.UC:Type:=((((Bool))×(Unit))⊕((Unit)×(Unit)))
def Wh.BD (x:Wh.MR):Option (Wh.MR⊕Wh.UC):=
 let yU:=x.1.1
 let xT:bn.D:=x.2.1
 let w7:bn.D:=x.2.2
 let ov:Int:=(↑(List.length w7.2.1):Int)
 bif decide (yU<ov) then
  let n4:an.D:=List.getD w7.2.1 (Int.toNat yU) ((0:Int),[],(0:Int),[],())
  let mw:an.D:=List.getD xT.2.1 (Int.toNat yU) ((0:Int),[],(0:Int),[],())
  bif iy [decide ((0:Int)≤yU),decide (yU<(↑(List.length xT.2.1):Int)),decide ((0:Int)≤yU),decide (yU<ov)] then
   bif(!(n4.1==mw.1&&(n4.2.1==mw.2.1&&(n4.2.2.1==mw.2.2.1&&((n4.2.2.2).1==(mw.2.2.2).1&&true))))) then
    some (.inr (.inl (false,())))
   else
    some (.inl (((IntKind.wrap .i64 (yU+(1:Int))),(),()),xT,w7))
  else none
 else
  some (.inr (.inr ((),())))
def Wh.QT:(((Bool))×(Unit))⊕((Unit)×(Unit)):=.inl default
def Wh.BB (xs:(bn.D)×(bn.D)):Option (((Bool))×(Unit)):=
 let bx:bn.D:=xs.1
 let b_1:bn.D:=xs.2
 let nE:=bif(bx.1 != b_1.1) then true else(↑(List.length bx.2.1):Int) != (↑(List.length b_1.2.1):Int)
 bif nE then
  some (false,())
 else
  let x_22:Wh.MR:=(((0:Int),(),()),b_1,bx)
  bif lF Wh.BD x_22 then
   sumC (kG Wh.BD Wh.QT x_22) (fun y_23=>
    let As:=y_23.1
    some (As,())) (fun _=>
    some (true,()))
  else none
def Wh.q72':=ct Wh.BB
theorem Wh.q72_v:OV Wh.BB Wh.q72':=eA _
def Wh.Cd (xs:(e_.D)):Option (((Bool))×(Unit)):=
 let zp:e_.D:=xs
 bif(zp.2.1==(0:Int)) then
  some ((zp.1==(0:Int)&&(zp.2.1==(0:Int)&&(zp.2.2.1==(0:Int)&&((zp.2.2.2).1==(0:Int)&&(zp.2.2.2.2.1==false&&true))))),())
 else
  let r_3:=Wh.xP (zp.1,(0:Int),(1:Int))
  let gz:=Wh.xP (zp.2.1,(1:Int),(99999:Int))
  let Aa:=Wh.xP (zp.2.2.1,(0:Int),(23:Int))
  let AR:=Wh.xP ((zp.2.2.2).1,(0:Int),(99999:Int))
  let yg:=bif bif bif r_3.1 then gz.1 else false then Aa.1 else false then AR.1 else false
  bif iy [(!bif bif r_3.1 then gz.1 else false then Aa.1 else false) || nQ (Wh.so ((zp.2.2.2).1,(0:Int),(99999:Int))),(!bif r_3.1 then gz.1 else false) || nQ (Wh.so (zp.2.2.1,(0:Int),(23:Int))),!r_3.1 || nQ (Wh.so (zp.2.1,(1:Int),(99999:Int))),nQ (Wh.so (zp.1,(0:Int),(1:Int)))] then
   some (yg,())
  else none
def Wh.LY:=ct Wh.Cd
theorem Wh.ID:OV Wh.Cd Wh.LY:=eA _
abbrev Wh.LX:Type:=((Int)×(Int)×(Int)×(Unit))×((fT.D))
abbrev Wh.TY:Type:=((((Int))×(Unit)))
def Wh.Bf (x:Wh.LX):Option (Wh.LX⊕Wh.TY):=
 let gv:=x.1.1
 let CV:=x.1.2.1
 let CM:Int:=(x.1.2.2).1
 let nP:fT.D:=x.2
 let mw:Int:=(↑(List.length nP.1):Int)
 bif decide (gv<mw) then
  let n5:e_.D:=List.getD nP.1 (Int.toNat gv) ((0:Int),(0:Int),(0:Int),(0:Int),false,())
  let yH:=bif decide (n5.2.1>(0:Int)) then n5.1==CM else false
  bif iy [!decide (n5.2.1>(0:Int)) || decide ((0:Int)≤gv),!decide (n5.2.1>(0:Int)) || decide (gv<mw),decide ((0:Int)≤gv),decide (gv<mw)] then
   bif yH then
    some (.inl (((IntKind.wrap .i64 (gv+(1:Int))),(IntKind.wrap .i64 (CV+(1:Int))),CM,()),nP))
   else
    some (.inl (((IntKind.wrap .i64 (gv+(1:Int))),CV,CM,()),nP))
  else none
 else
  some (.inr (CV,()))
def Wh.Qa:(((Int))×(Unit)):=default
def Wh.C9 (xs:(fT.D)×(Int)):Option (((Int))×(Unit)):=
 let r5:fT.D:=xs.1
 let nW:=xs.2
 let zE:Wh.LX:=(((0:Int),(0:Int),nW,()),r5)
 bif lF Wh.Bf zE then
  let y2:=kG Wh.Bf Wh.Qa zE
  let n_30:=y2.1
  some (n_30,())
 else none
def Wh.LW:=ct Wh.C9
theorem Wh.D6:OV Wh.C9 Wh.LW:=eA _
abbrev Wh.M9:Type:=((Int)×(Unit))×((fT.D))
abbrev Wh.UP:Type:=((((Bool))×(Unit))⊕((Unit)×(Unit)))
def Wh.AN (x:Wh.M9):Option (Wh.M9⊕Wh.UP):=
 let h_67:=x.1.1
 let Lh:fT.D:=x.2
 bif decide (h_67<(2:Int)) then
  let r_70:=Wh.LW (Lh,h_67)
  bif iy [nQ (Wh.C9 (Lh,h_67))] then
   bif decide (r_70.1>(5:Int)) then
    some (.inr (.inl (false,())))
   else
    some (.inl (((IntKind.wrap .i64 (h_67+(1:Int))),()),Lh))
  else none
 else
  some (.inr (.inr ((),())))
def Wh.Q5:(((Bool))×(Unit))⊕((Unit)×(Unit)):=.inl default
abbrev Wh.M8:Type:=((Int)×(Unit)×(Int))×((fT.D))
abbrev Wh.UO:Type:=((((Bool))×(Unit))⊕(((Unit)×(Int))×((fT.D))))
def Wh.zC (x:Wh.M8):Option (Wh.M8⊕Wh.UO):=
 let zZ:=x.1.1
 let Av:=x.1.2.2
 let zv:fT.D:=x.2
 bif decide (zZ<Av) then
  let nG:e_.D:=List.getD zv.1 (Int.toNat Av) ((0:Int),(0:Int),(0:Int),(0:Int),false,())
  let BR:=bif bif decide (nG.2.1>(0:Int)) then nG.2.1==Prod.fst (Prod.snd (List.getD zv.1 (Int.toNat zZ) ((0:Int),(0:Int),(0:Int),(0:Int),false,()))) else false then nG.2.2.1==Prod.fst (Prod.snd (Prod.snd (List.getD zv.1 (Int.toNat zZ) ((0:Int),(0:Int),(0:Int),(0:Int),false,())))) else false
  bif iy [(!bif decide (nG.2.1>(0:Int)) then nG.2.1==Prod.fst (Prod.snd (List.getD zv.1 (Int.toNat zZ) ((0:Int),(0:Int),(0:Int),(0:Int),false,()))) else false) || decide ((0:Int)≤zZ),(!bif decide (nG.2.1>(0:Int)) then nG.2.1==Prod.fst (Prod.snd (List.getD zv.1 (Int.toNat zZ) ((0:Int),(0:Int),(0:Int),(0:Int),false,()))) else false) || decide (zZ<(↑(List.length zv.1):Int)),(!bif decide (nG.2.1>(0:Int)) then nG.2.1==Prod.fst (Prod.snd (List.getD zv.1 (Int.toNat zZ) ((0:Int),(0:Int),(0:Int),(0:Int),false,()))) else false) || decide ((0:Int)≤Av),(!bif decide (nG.2.1>(0:Int)) then nG.2.1==Prod.fst (Prod.snd (List.getD zv.1 (Int.toNat zZ) ((0:Int),(0:Int),(0:Int),(0:Int),false,()))) else false) || decide (Av<(↑(List.length zv.1):Int)),!decide (nG.2.1>(0:Int)) || decide ((0:Int)≤zZ),!decide (nG.2.1>(0:Int)) || decide (zZ<(↑(List.length zv.1):Int)),!decide (nG.2.1>(0:Int)) || decide ((0:Int)≤Av),!decide (nG.2.1>(0:Int)) || decide (Av<(↑(List.length zv.1):Int)),decide ((0:Int)≤Av),decide (Av<(↑(List.length zv.1):Int))] then
   bif BR then
    some (.inr (.inl (false,())))
   else
    some (.inl (((IntKind.wrap .i64 (zZ+(1:Int))),(),Av),zv))
  else none
 else
  some (.inr (.inr (((),Av),zv)))
def Wh.Q4:(((Bool))×(Unit))⊕(((Unit)×(Int))×((fT.D))):=.inl default
abbrev Wh.M7:Type:=((Unit)×(Int))×((fT.D))
abbrev Wh.UN:Type:=((((Bool))×(Unit))⊕(((Unit))×((fT.D))))
def Wh.AM (x:Wh.M7):Option (Wh.M7⊕Wh.UN):=
 let ER:=x.1.2
 let DY:fT.D:=x.2
 let v_44:Int:=(↑(List.length DY.1):Int)
 bif decide (ER<v_44) then
  let v_46:e_.D:=List.getD DY.1 (Int.toNat ER) ((0:Int),(0:Int),(0:Int),(0:Int),false,())
  let r_48:=Wh.LY v_46
  bif iy [nQ (Wh.Cd v_46),decide ((0:Int)≤ER),decide (ER<v_44)] then
   bif !r_48.1 then
    some (.inr (.inl (false,())))
   else
    let x_49:Wh.M8:=(((0:Int),(),ER),DY)
    bif lF Wh.zC x_49 then
     sumC (kG Wh.zC Wh.Q4 x_49) (fun y_50=>
      let v_52:=y_50.1
      some (.inr (.inl (v_52,())))) (fun z_51=>
      let i_53:=z_51.1.2
      let Ld:fT.D:=z_51.2
      some (.inl (((),(IntKind.wrap .i64 (i_53+(1:Int)))),Ld)))
    else none
  else none
 else
  some (.inr (.inr ((),DY)))
def Wh.Q3:(((Bool))×(Unit))⊕(((Unit))×((fT.D))):=.inl default
def Wh.q91 (xs:(fT.D)):Option (((Bool))×(Unit)):=
 let r5:fT.D:=xs
 let v_1:Int:=(↑(List.length r5.1):Int)
 let gz:=Wh.xP (r5.2.1,(0:Int),(7:Int))
 let s_:=bif v_1 != (8:Int) then true else !gz.1
 bif iy [!!v_1 != (8:Int) || nQ (Wh.so (r5.2.1,(0:Int),(7:Int)))] then
  bif s_ then
   some (false,())
  else
   let x_56:Wh.M7:=(((),(0:Int)),r5)
   bif lF Wh.AM x_56 then
    sumC (kG Wh.AM Wh.Q3 x_56) (fun y_57=>
     let v_59:=y_57.1
     some (v_59,())) (fun z_58=>
     let ls_60:fT.D:=z_58.2
     let x_73:Wh.M9:=(((0:Int),()),ls_60)
     bif lF Wh.AN x_73 then
      sumC (kG Wh.AN Wh.Q5 x_73) (fun y_74=>
       let v_76:=y_74.1
       some (v_76,())) (fun _=>
       some (true,()))
     else none)
   else none
 else none
def Wh.q91':=ct Wh.q91
theorem Wh.q91_v:OV Wh.q91 Wh.q91':=eA _
abbrev Wh.Mk:Type:=((Unit)×(Int)×(Unit)×(Int))×(((Int)×((List UInt8)×((Int)×((List UInt8)×(Unit)))))×(bn.D))
abbrev Wh.Uc:Type:=((((Unit)×(Bool))×((an.D)))⊕(((Unit))×(((Int)×((List UInt8)×((Int)×((List UInt8)×(Unit))))))))
def Wh.Bp (x:Wh.Mk):Option (Wh.Mk⊕Wh.Uc):=
 let gv:=x.1.2.1
 let EL:=x.1.2.2.2
 let xe:=x.2.1.1
 let nP:List UInt8:=(x.2.1.2).1
 let th:=x.2.1.2.2.1
 let yK:List UInt8:=(x.2.1.2.2.2).1
 let yx:Unit:=(x.2.1.2.2.2).2
 let yy:bn.D:=x.2.2
 let AZ:Int:=(↑(List.length yy.2.1):Int)
 bif decide (gv<AZ) then
  let As:an.D:=List.getD yy.2.1 (Int.toNat gv) ((0:Int),[],(0:Int),[],())
  bif iy [decide ((0:Int)≤gv),decide (gv<AZ)] then
   bif(As.2.2.1==EL) then
    bif iy [decide ((0:Int)≤gv),decide (gv<AZ)] then
     some (.inr (.inl (((),true),As)))
    else none
   else
    some (.inl (((),(IntKind.wrap .i64 (gv+(1:Int))),(),EL),(xe,nP,th,yK,yx),yy))
  else none
 else
  some (.inr (.inr ((),xe,nP,th,yK,yx)))
def Wh.Qq:(((Unit)×(Bool))×((an.D)))⊕(((Unit))×(((Int)×((List UInt8)×((Int)×((List UInt8)×(Unit))))))):=.inl default
def Wh.q29 (xs:(bn.D)×(Int)):Option (((an.D)×(Bool))×(Unit)):=
 let fk:bn.D:=xs.1
 let DO:=xs.2
 let zE:Wh.Mk:=(((),(0:Int),(),DO),((0:Int),[],(0:Int),[],()),fk)
 bif lF Wh.Bp zE then
  sumC (kG Wh.Bp Wh.Qq zE) (fun y2=>
   let v_31:=y2.1.2
   let yA:an.D:=y2.2
   some ((yA,v_31),())) (fun _=>
   some ((((0:Int),[],(0:Int),[],()),false),()))
 else none
def Wh.IN:=ct Wh.q29
theorem Wh.Cl:OV Wh.q29 Wh.IN:=eA _
def Wh.q52 (xs:(Int)):Option (((Int))×(Unit)):=
 let KJ:=xs
 some ((Int.tmod KJ (2:Int)),())
def Wh.q52':=ct Wh.q52
theorem Wh.ME:OV Wh.q52 Wh.q52':=eA _
abbrev Wh.Mj:Type:=((Int)×(Unit))×((eB.D))
abbrev Wh.Ub:Type:=((((Bool))×(Unit))⊕((Unit)×(Unit)))
def Wh.AG (x:Wh.Mj):Option (Wh.Mj⊕Wh.Ub):=
 let wh:=x.1.1
 let y_:eB.D:=x.2
 let A0:Int:=(↑(List.length ((y_.2.2.2.2.2).2.1)):Int)
 bif decide (wh<A0) then
  let vN:gd.D:=List.getD ((y_.2.2.2.2.2).2.1) (Int.toNat wh) ((0:Int),(0:Int),(0:Int),(0:Int),(0:Int),(0:Int),())
  bif iy [decide ((0:Int)≤wh),decide (wh<A0)] then
   let nS:=Wh.xP (vN.1,(0:Int),(3:Int))
   let Fq:=Wh.xP (vN.2.1,(1:Int),(99999:Int))
   let BN:=Wh.xP (vN.2.2.1,(1:Int),(y_.2.2.2).1.1)
   let BO:=Wh.xP ((vN.2.2.2).1,(0:Int),(9999:Int))
   let Fu:=Wh.xP (vN.2.2.2.2.1,(0:Int),(3:Int))
   let Fv:=Wh.xP ((vN.2.2.2.2.2).1,(0:Int),y_.2.1)
   let v_48:=bif bif bif bif bif bif !nS.1 then true else bif decide (wh>(0:Int)) then decide (Prod.fst (List.getD ((y_.2.2.2.2.2).2.1) (Int.toNat (IntKind.wrap .i64 (wh-(1:Int)))) ((0:Int),(0:Int),(0:Int),(0:Int),(0:Int),(0:Int),()))≥vN.1) else false then true else !Fq.1 then true else !BN.1 then true else !BO.1 then true else !Fu.1 then true else !Fv.1
   bif iy [(!!bif bif bif bif bif !nS.1 then true else bif decide (wh>(0:Int)) then decide (Prod.fst (List.getD ((y_.2.2.2.2.2).2.1) (Int.toNat (IntKind.wrap .i64 (wh-(1:Int)))) ((0:Int),(0:Int),(0:Int),(0:Int),(0:Int),(0:Int),()))≥vN.1) else false then true else !Fq.1 then true else !BN.1 then true else !BO.1 then true else !Fu.1) || nQ (Wh.so ((vN.2.2.2.2.2).1,(0:Int),y_.2.1)),(!!bif bif bif bif !nS.1 then true else bif decide (wh>(0:Int)) then decide (Prod.fst (List.getD ((y_.2.2.2.2.2).2.1) (Int.toNat (IntKind.wrap .i64 (wh-(1:Int)))) ((0:Int),(0:Int),(0:Int),(0:Int),(0:Int),(0:Int),()))≥vN.1) else false then true else !Fq.1 then true else !BN.1 then true else !BO.1) || nQ (Wh.so (vN.2.2.2.2.1,(0:Int),(3:Int))),(!!bif bif bif !nS.1 then true else bif decide (wh>(0:Int)) then decide (Prod.fst (List.getD ((y_.2.2.2.2.2).2.1) (Int.toNat (IntKind.wrap .i64 (wh-(1:Int)))) ((0:Int),(0:Int),(0:Int),(0:Int),(0:Int),(0:Int),()))≥vN.1) else false then true else !Fq.1 then true else !BN.1) || nQ (Wh.so ((vN.2.2.2).1,(0:Int),(9999:Int))),(!!bif bif !nS.1 then true else bif decide (wh>(0:Int)) then decide (Prod.fst (List.getD ((y_.2.2.2.2.2).2.1) (Int.toNat (IntKind.wrap .i64 (wh-(1:Int)))) ((0:Int),(0:Int),(0:Int),(0:Int),(0:Int),(0:Int),()))≥vN.1) else false then true else !Fq.1) || nQ (Wh.so (vN.2.2.1,(1:Int),(y_.2.2.2).1.1)),(!!bif !nS.1 then true else bif decide (wh>(0:Int)) then decide (Prod.fst (List.getD ((y_.2.2.2.2.2).2.1) (Int.toNat (IntKind.wrap .i64 (wh-(1:Int)))) ((0:Int),(0:Int),(0:Int),(0:Int),(0:Int),(0:Int),()))≥vN.1) else false) || nQ (Wh.so (vN.2.1,(1:Int),(99999:Int))),!(decide (wh>(0:Int)) && !!nS.1) || decide ((0:Int)≤IntKind.wrap .i64 (wh-(1:Int))),!(decide (wh>(0:Int)) && !!nS.1) || decide (IntKind.wrap .i64 (wh-(1:Int))<A0),nQ (Wh.so (vN.1,(0:Int),(3:Int)))] then
    bif v_48 then
     some (.inr (.inl (false,())))
    else
     let r_49:((an.D)×Bool)×Unit:=Wh.IN ((y_.2.2.2).1,vN.2.2.1)
     bif iy [nQ (Wh.q29 ((y_.2.2.2).1,vN.2.2.1))] then
      let r_50:=Wh.q52' vN.1
      let A1:=bif r_49.1.2 then r_49.1.1.1 != r_50.1 else false
      bif iy [!r_49.1.2 || nQ (Wh.q52 vN.1)] then
       bif A1 then
        some (.inr (.inl (false,())))
       else
        some (.inl (((IntKind.wrap .i64 (wh+(1:Int))),()),y_))
      else none
     else none
   else none
  else none
 else
  some (.inr (.inr ((),())))
def Wh.Qp:(((Bool))×(Unit))⊕((Unit)×(Unit)):=.inl default
def Wh.q28 (xs:(eB.D)):Option (((Bool))×(Unit)):=
 let fe:eB.D:=xs
 let x_53:Wh.Mj:=(((0:Int),()),fe)
 bif lF Wh.AG x_53 then
  sumC (kG Wh.AG Wh.Qp x_53) (fun y_54=>
   let v_56:=y_54.1
   some (v_56,())) (fun _=>
   some (true,()))
 else none
def Wh.q28':=ct Wh.q28
theorem Wh.q28_v:OV Wh.q28 Wh.q28':=eA _
def Wh.AJ (xs:(xS.D)):Option (((Int))×(Unit)):=
 let r5:xS.D:=xs
 bif iy [r5.2.1 != (0:Int)] then
  some ((IntKind.wrap .i64 (Int.tdiv (IntKind.wrap .i64 ((IntKind.wrap .i64 (r5.1+r5.2.1))-(1:Int))) r5.2.1)),())
 else none
def Wh.Ea:=ct Wh.AJ
theorem Wh.BE:OV Wh.AJ Wh.Ea:=eA _
abbrev Wh.L5:Type:=((Unit)×(Unit))×(((Int)×((Int)×((Unit)×((Unit)×(Unit)))))×((Int)×((Int)×((Unit)×((Unit)×(Unit)))))×(List (Int))×(List (Int))×(List (Int))×(List (Int)))
abbrev Wh.T4:Type:=((((Unit)×(Unit))×(((Int)×((Int)×((Unit)×((Unit)×(Unit)))))×((Int)×((Int)×((Unit)×((Unit)×(Unit)))))×(List (Int))×(List (Int))×(List (Int))×(List (Int)))))
def Wh.Bg (x:Wh.L5):Option (Wh.L5⊕Wh.T4):=
 let xT:=x.2.1.1
 let w7:Int:=(x.2.1.2).1
 let z8:Unit:=(x.2.1.2.2.2).2
 let xe:=x.2.2.1.1
 let nP:Int:=(x.2.2.1).2.1
 let th:Unit:=(x.2.2.1).2.2.2.2
 let yK:List Int:=(x.2.2.2).1
 let yx:=x.2.2.2.2.1
 let yy:List Int:=(x.2.2.2.2.2).1
 let yW:List Int:=(x.2.2.2.2.2).2
 let r_24:=Wh.Ea (xT,w7,yK,yx,z8)
 bif iy [nQ (Wh.AJ (xT,w7,yK,yx,z8))] then
  bif decide (r_24.1>(24:Int)) then
   some (.inl (((),()),(xT,(IntKind.wrap .i64 (w7+(1:Int))),(),(),z8),(xe,nP,(),(),th),yK,yx,yy,yW))
  else
   some (.inr (((),()),(xe,nP,(),(),th),(xT,w7,(),(),z8),yy,yW,yK,yx))
 else none
def Wh.Qf:(((Unit)×(Unit))×(((Int)×((Int)×((Unit)×((Unit)×(Unit)))))×((Int)×((Int)×((Unit)×((Unit)×(Unit)))))×(List (Int))×(List (Int))×(List (Int))×(List (Int)))):=default
def Wh.Ch (xs:(Int)):Option ((((Int)×((Int)×((List (Int))×((List (Int))×(Unit))))))×(Unit)):=
 let EW:=xs
 let FL:Wh.L5:=(((),()),(EW,(8:Int),(),(),()),((0:Int),(0:Int),(),(),()),[],[],[],[])
 bif lF Wh.Bg FL then
  let DE:=kG Wh.Bg Wh.Qf FL
  let yA:=DE.2.2.1.1
  let za:Int:=(DE.2.2.1).2.1
  let tn:Unit:=(DE.2.2.1).2.2.2.2
  let Ii:List Int:=(DE.2.2.2.2.2).1
  let yD:List Int:=(DE.2.2.2.2.2).2
  let IZ:=Wh.Ea (yA,za,Ii,yD,tn)
  bif iy [nQ (Wh.AJ (yA,za,Ii,yD,tn))] then
   let k_42:=IntKind.wrap .i64 (Int.tdiv (IntKind.wrap .i64 (IZ.1+(3:Int))) (4:Int))
   bif decide (k_42<IZ.1) then
    let pb_44:List Int:=[k_42,IZ.1]
    some ((yA,za,pb_44,[(2:Int),(3:Int)],tn),())
   else
    let LA:List Int:=[IZ.1]
    some ((yA,za,LA,[(1:Int)],tn),())
  else none
 else none
def Wh.E_:=ct Wh.Ch
theorem Wh.IG:OV Wh.Ch Wh.E_:=eA _
def Wh.q50 (xs:(fN.D)):Option (((Bool))×(Unit)):=
 let xX:fN.D:=xs
 let r_1:=Wh.xP (xX.2.1,(0:Int),(99999:Int))
 let r_2:=Wh.xP (xX.1,(0:Int),xX.2.1)
 let x4:=Wh.xP (xX.2.2.1,(0:Int),(99999:Int))
 let yG:=Wh.xP ((xX.2.2.2).1,(0:Int),(99999:Int))
 let zi:=bif bif bif r_1.1 then r_2.1 else false then x4.1 else false then yG.1 else false
 bif iy [(!bif bif r_1.1 then r_2.1 else false then x4.1 else false) || nQ (Wh.so ((xX.2.2.2).1,(0:Int),(99999:Int))),(!bif r_1.1 then r_2.1 else false) || nQ (Wh.so (xX.2.2.1,(0:Int),(99999:Int))),!r_1.1 || nQ (Wh.so (xX.1,(0:Int),xX.2.1)),nQ (Wh.so (xX.2.1,(0:Int),(99999:Int)))] then
  some (zi,())
 else none
def Wh.q50':=ct Wh.q50
theorem Wh.q50_v:OV Wh.q50 Wh.q50':=eA _
abbrev Wh.MD:Type:=((Int)×(Unit))×((eB.D))
abbrev Wh.Us:Type:=((((Bool))×(Unit))⊕((Unit)×(Unit)))
def Wh.By (x:Wh.MD):Option (Wh.MD⊕Wh.Us):=
 let h_80:=x.1.1
 let Il:eB.D:=x.2
 let v_82:Int:=(↑(List.length ((Il.2.2.2.2.2).1)):Int)
 bif decide (h_80<v_82) then
  let E5:fN.D:=List.getD ((Il.2.2.2.2.2).1) (Int.toNat h_80) ((0:Int),(0:Int),(0:Int),(0:Int),())
  bif iy [decide ((0:Int)≤h_80),decide (h_80<v_82)] then
   let r_85:=Wh.q50' E5
   let Jj:=bif bif bif !r_85.1 then true else E5.2.1 != (40:Int) then true else E5.2.2.1 != (8:Int) then true else decide ((E5.2.2.2).1>Il.2.1)
   bif iy [nQ (Wh.q50 E5)] then
    bif Jj then
     some (.inr (.inl (false,())))
    else
     some (.inl (((IntKind.wrap .i64 (h_80+(1:Int))),()),Il))
   else none
  else none
 else
  some (.inr (.inr ((),())))
def Wh.QI:(((Bool))×(Unit))⊕((Unit)×(Unit)):=.inl default
abbrev Wh.MC:Type:=((Int)×(Unit))×((eB.D))
abbrev Wh.Ur:Type:=((((Bool))×(Unit))⊕(((Unit))×((eB.D))))
def Wh.zO (x:Wh.MC):Option (Wh.MC⊕Wh.Ur):=
 let zu:=x.1.1
 let CU:eB.D:=x.2
 let A1:Int:=(↑(List.length ((CU.2.2.2.2.1).1)):Int)
 bif decide (zu<A1) then
  let yc:((an.D)×Bool)×Unit:=Wh.IN ((CU.2.2.2).1,Prod.fst (Prod.snd (List.getD ((CU.2.2.2.2.1).1) (Int.toNat zu) ((0:Int),(0:Int),(0:Int),(0:Int),false,()))))
  let pg:e_.D:=List.getD ((CU.2.2.2.2.1).1) (Int.toNat zu) ((0:Int),(0:Int),(0:Int),(0:Int),false,())
  bif iy [nQ (Wh.q29 ((CU.2.2.2).1,pg.2.1)),decide ((0:Int)≤zu),decide (zu<A1)] then
   let AV:(xS.D)×Unit:=Wh.E_ (↑(List.length ((yc.1.1.2.2.2).1)):Int)
   let r_60:=Wh.Ea (AV.1.1,AV.1.2.1,bif(!bif !yc.1.2 then true else yc.1.1.1 != pg.1)&&(decide (pg.2.1>(0:Int)) && !decide ((pg.2.2.2).1>(0:Int))) then(AV.1.2.2).1 else [],bif(!bif !yc.1.2 then true else yc.1.1.1 != pg.1)&&(decide (pg.2.1>(0:Int)) && !decide ((pg.2.2.2).1>(0:Int))) then AV.1.2.2.2.1 else [],AV.1.2.2.2.2)
   let Eg:=bif decide ((pg.2.2.2).1>(0:Int)) then true else bif decide (pg.2.1>(0:Int)) then bif bif !yc.1.2 then true else yc.1.1.1 != pg.1 then true else decide (pg.2.2.1≥r_60.1) else false
   bif iy [!((!bif !yc.1.2 then true else yc.1.1.1 != pg.1)&&(decide (pg.2.1>(0:Int)) && !decide ((pg.2.2.2).1>(0:Int)))) || nQ (Wh.AJ (AV.1.1,AV.1.2.1,bif(!bif !yc.1.2 then true else yc.1.1.1 != pg.1)&&(decide (pg.2.1>(0:Int)) && !decide ((pg.2.2.2).1>(0:Int))) then(AV.1.2.2).1 else [],bif(!bif !yc.1.2 then true else yc.1.1.1 != pg.1)&&(decide (pg.2.1>(0:Int)) && !decide ((pg.2.2.2).1>(0:Int))) then AV.1.2.2.2.1 else [],AV.1.2.2.2.2)),!((!bif !yc.1.2 then true else yc.1.1.1 != pg.1)&&(decide (pg.2.1>(0:Int)) && !decide ((pg.2.2.2).1>(0:Int)))) || nQ (Wh.Ch (↑(List.length ((yc.1.1.2.2.2).1)):Int)),!((!bif !yc.1.2 then true else yc.1.1.1 != pg.1)&&(decide (pg.2.1>(0:Int)) && !decide ((pg.2.2.2).1>(0:Int)))) || decide ((0:Int)≤zu),!((!bif !yc.1.2 then true else yc.1.1.1 != pg.1)&&(decide (pg.2.1>(0:Int)) && !decide ((pg.2.2.2).1>(0:Int)))) || decide (zu<A1),!(!!yc.1.2&&(decide (pg.2.1>(0:Int)) && !decide ((pg.2.2.2).1>(0:Int)))) || decide ((0:Int)≤zu),!(!!yc.1.2&&(decide (pg.2.1>(0:Int)) && !decide ((pg.2.2.2).1>(0:Int)))) || decide (zu<A1),!!decide ((pg.2.2.2).1>(0:Int)) || decide ((0:Int)≤zu),!!decide ((pg.2.2.2).1>(0:Int)) || decide (zu<A1),decide ((0:Int)≤zu),decide (zu<A1)] then
    bif Eg then
     some (.inr (.inl (false,())))
    else
     some (.inl (((IntKind.wrap .i64 (zu+(1:Int))),()),CU))
   else none
  else none
 else
  some (.inr (.inr ((),CU)))
def Wh.QH:(((Bool))×(Unit))⊕(((Unit))×((eB.D))):=.inl default
def Wh.q51 (xs:(eB.D)):Option (((Bool))×(Unit)):=
 let fe:eB.D:=xs
 let r_1:=Wh.xP (fe.2.1,(0:Int),(99999:Int))
 let v_2:=bif !r_1.1 then true else decide ((↑(List.length (fe.2.2.1)):Int)>(9000:Int))
 bif iy [nQ (Wh.so (fe.2.1,(0:Int),(99999:Int)))] then
  bif v_2 then
   some (false,())
  else
   bif(!fe.1) then
    let xU:Int:=(↑(List.length ((fe.2.2.2).1.2.1)):Int)
    let Ap:=Wh.q73' fe
    let mw:=bif bif bif bif bif bif xU==(0:Int) then(fe.2.2.2).1.1==(0:Int) else false then(↑(List.length ((fe.2.2.2.2.1).1)):Int)==(0:Int) else false then(fe.2.2.2.2.1).2.1==(0:Int) else false then(↑(List.length ((fe.2.2.2.2.2).1)):Int)==(0:Int) else false then(↑(List.length ((fe.2.2.2.2.2).2.1)):Int)==(0:Int) else false then Ap.1 else false
    bif iy [(!bif bif bif bif bif xU==(0:Int) then(fe.2.2.2).1.1==(0:Int) else false then(↑(List.length ((fe.2.2.2.2.1).1)):Int)==(0:Int) else false then(fe.2.2.2.2.1).2.1==(0:Int) else false then(↑(List.length ((fe.2.2.2.2.2).1)):Int)==(0:Int) else false then(↑(List.length ((fe.2.2.2.2.2).2.1)):Int)==(0:Int) else false) || nQ (Wh.q73 fe)] then
     some (mw,())
    else none
   else
    let xZ:(List (List UInt8)×Int)×Unit:=Wh.IX (fe.2.2.1)
    bif iy [nQ (Wh.BL (fe.2.2.1))] then
     let Fp:((bn.D)×Bool)×Unit:=Wh.IB xZ.1.1
     bif iy [nQ (Wh.Ca xZ.1.1)] then
      let Ac:= !Fp.1.2
      let AU:=Wh.q72' (Fp.1.1,(fe.2.2.2).1)
      let r_28:=Wh.q91' (fe.2.2.2.2.1)
      let z_:=Wh.q28' fe
      let v_34:=bif bif bif bif bif Ac then true else xZ.1.2 != (↑(List.length (fe.2.2.1)):Int) then true else !AU.1 then true else !r_28.1 then true else(↑(List.length ((fe.2.2.2.2.2).1)):Int) != (2:Int) then true else !z_.1
      bif iy [(!!bif bif bif bif Ac then true else xZ.1.2 != (↑(List.length (fe.2.2.1)):Int) then true else !AU.1 then true else !r_28.1 then true else(↑(List.length ((fe.2.2.2.2.2).1)):Int) != (2:Int)) || nQ (Wh.q28 fe),(!!bif bif Ac then true else xZ.1.2 != (↑(List.length (fe.2.2.1)):Int) then true else !AU.1) || nQ (Wh.q91 (fe.2.2.2.2.1)),(!!bif Ac then true else xZ.1.2 != (↑(List.length (fe.2.2.1)):Int)) || nQ (Wh.BB (Fp.1.1,(fe.2.2.2).1))] then
       bif v_34 then
        some (false,())
       else
        let x_63:Wh.MC:=(((0:Int),()),fe)
        bif lF Wh.zO x_63 then
         sumC (kG Wh.zO Wh.QH x_63) (fun y_64=>
          let v_66:=y_64.1
          some (v_66,())) (fun z_65=>
          let EZ:eB.D:=z_65.2
          let x_92:Wh.MD:=(((0:Int),()),EZ)
          bif lF Wh.By x_92 then
           sumC (kG Wh.By Wh.QI x_92) (fun y_93=>
            let v_95:=y_93.1
            some (v_95,())) (fun _=>
            some (true,()))
          else none)
        else none
      else none
     else none
    else none
 else none
def Wh.q51':=ct Wh.q51
theorem Wh.q51_v:OV Wh.q51 Wh.q51':=eA _
def Wh.vT (xs:(Int)×(Int)×(Int)):Option (((Bool))×(Unit)):=
 let xN:=xs.1
 let K4:=xs.2.1
 let KU:=xs.2.2
 let s_:=bif decide (xN≥K4) then decide (xN≤KU) else false
 some (s_,())
def Wh.x_:=ct Wh.vT
theorem Wh.yL:OV Wh.vT Wh.x_:=eA _
def Wh.zg (xs:(Int)×(Int)):Option (((Int))×(Unit)):=
 let w9:=xs.1
 let by_1:=xs.2
 let v_2:Int:=Int.fdiv w9 ((2:Int) ^ Min.min (Int.toNat by_1) (Go.IntKind.bits Go.IntKind.u32))
 let nE:=IntKind.wrap .i64 ((32:Int)-by_1)
 let zj:Int:=nj Go.BinOp.or Go.IntKind.u32 v_2 (IntKind.wrap .u32 (w9*(2:Int) ^ Min.min (Int.toNat nE) (Go.IntKind.bits Go.IntKind.u32)))
 bif iy [decide ((0:Int)≤nE),decide ((0:Int)≤by_1)] then
  some (zj,())
 else none
def Wh.zQ:=ct Wh.zg
theorem Wh.q81_v:OV Wh.zg Wh.zQ:=eA _
abbrev Wh.Mw:Type:=((Int)×(Unit)×(List (Int)))×((List (Int)))
abbrev Wh.Um:Type:=((((Unit))×((List (Int)))))
def Wh.Fg (x:Wh.Mw):Option (Wh.Mw⊕Wh.Um):=
 let FH:=x.1.1
 let v_572:=x.1.2.2
 let Le:=x.2
 bif decide (FH<(8:Int)) then
  let Jh:=List.getD v_572 (Int.toNat FH) (0:Int)
  bif iy [decide ((0:Int)≤FH),decide (FH<(↑(nat_lit 8):Int))] then
   let pb_576:List Int:=[IntKind.wrap .u8 (Int.fdiv Jh ((2:Int) ^ Min.min (Int.toNat (24:Int)) (Go.IntKind.bits Go.IntKind.u32))),IntKind.wrap .u8 (Int.fdiv Jh ((2:Int) ^ Min.min (Int.toNat (16:Int)) (Go.IntKind.bits Go.IntKind.u32))),IntKind.wrap .u8 (Int.fdiv Jh ((2:Int) ^ Min.min (Int.toNat (8:Int)) (Go.IntKind.bits Go.IntKind.u32))),IntKind.wrap .u8 Jh]
   let ls_577:=Le++pb_576
   bif iy [decide (List.length Le+(4:Nat)≤dh),true,true,true] then
    some (.inl (((IntKind.wrap .i64 (FH+(1:Int))),(),v_572),ls_577))
   else none
  else none
 else
  some (.inr ((),Le))
def Wh.QB:(((Unit))×((List (Int)))):=default
abbrev Wh.Mv:Type:=((Int)×(Unit)×(Unit)×(Nat×Nat))×((List (Int))×(List (Int))×(List (Int)))
abbrev Wh.Ul:Type:=((((Unit)×(Nat×Nat))×((List (Int))×(List (Int)))))
def Wh.Ff (x:Wh.Mv):Option (Wh.Mv⊕Wh.Ul):=
 let At:=x.1.1
 let b_510:=x.1.2.2.2.1
 let b_511:=x.1.2.2.2.2
 let Lc:=x.2.1
 let OU:=x.2.2.1
 let OW:=x.2.2.2
 bif decide (At<(8:Int)) then
  let ls_516:=List.set Lc (Int.toNat At) (IntKind.wrap .u32 (List.getD Lc (Int.toNat At) (0:Int)+List.getD OU (Int.toNat At) (0:Int)))
  bif iy [decide ((0:Int)≤At),decide (At<(↑(8:Nat):Int)),decide ((0:Int)≤At),decide (At<(↑(8:Nat):Int)),decide ((0:Int)≤At),decide (At<(↑(8:Nat):Int))] then
   some (.inl (((IntKind.wrap .i64 (At+(1:Int))),(),(),b_510,b_511),ls_516,OU,OW))
  else none
 else
  some (.inr (((),b_510,b_511),Lc,OW))
def Wh.QA:(((Unit)×(Nat×Nat))×((List (Int))×(List (Int)))):=default
abbrev Wh.Mu:Type:=((Int)×(Unit)×(Unit)×(Unit)×(Nat×Nat))×((List (Int))×(List (Int))×(List (Int))×(List (Int)))
abbrev Wh.Uk:Type:=((((Unit)×(Unit)×(Nat×Nat))×((List (Int))×(List (Int))×(List (Int)))))
def Wh.Dg (x:Wh.Mu):Option (Wh.Mu⊕Wh.Uk):=
 let CF:=x.1.1
 let b_447:Nat:=(x.1.2.2.2.2).1
 let b_448:Nat:=(x.1.2.2.2.2).2
 let A9:=x.2.1
 let OR:=x.2.2.1
 let OS:List Int:=(x.2.2.2).1
 let OT:=x.2.2.2.2
 bif decide (CF<(64:Int)) then
  let BT:=List.getD A9 (Int.toNat (4:Int)) (0:Int)
  let BU:=List.getD A9 (Int.toNat (0:Int)) (0:Int)
  let v_456:=List.getD A9 (Int.toNat (7:Int)) (0:Int)
  let r_457:=Wh.zQ (BT,(6:Int))
  let r_458:=Wh.zQ (BT,(11:Int))
  let r_460:=Wh.zQ (BT,(25:Int))
  let v_463:=List.getD A9 (Int.toNat (5:Int)) (0:Int)
  let v_464:=List.getD A9 (Int.toNat (6:Int)) (0:Int)
  let v_468:=List.getD Wh.Af (Int.toNat CF) (0:Int)
  let v_470:=List.getD OR (Int.toNat CF) (0:Int)
  let PJ:=IntKind.wrap .u32 (IntKind.wrap .u32 (IntKind.wrap .u32 (IntKind.wrap .u32 (v_456+nj Go.BinOp.xor Go.IntKind.u32 (nj Go.BinOp.xor Go.IntKind.u32 r_457.1 r_458.1) r_460.1)+nj Go.BinOp.xor Go.IntKind.u32 (nj Go.BinOp.and Go.IntKind.u32 BT v_463) (nj Go.BinOp.and Go.IntKind.u32 (nj Go.BinOp.xor Go.IntKind.u32 (Go.IntKind.max Go.IntKind.u32) BT) v_464))+v_468)+v_470)
  bif iy [decide ((0:Int)≤CF),decide (CF<(↑(64:Nat):Int)),decide ((0:Int)≤CF),decide (CF<(↑(64:Nat):Int)),true,true,true,true,nQ (Wh.zg (BT,(25:Int))),nQ (Wh.zg (BT,(11:Int))),nQ (Wh.zg (BT,(6:Int))),true,true] then
   let r_473:=Wh.zQ (BU,(2:Int))
   let r_474:=Wh.zQ (BU,(13:Int))
   let r_476:=Wh.zQ (BU,(22:Int))
   let Nt:=List.getD A9 (Int.toNat (1:Int)) (0:Int)
   let Nu:=List.getD A9 (Int.toNat (2:Int)) (0:Int)
   bif iy [true,true,true,true,true,true,true,true,nQ (Wh.zg (BU,(22:Int))),nQ (Wh.zg (BU,(13:Int))),nQ (Wh.zg (BU,(2:Int)))] then
    let ls_484:List Int:=[IntKind.wrap .u32 (PJ+(IntKind.wrap .u32 (nj Go.BinOp.xor Go.IntKind.u32 (nj Go.BinOp.xor Go.IntKind.u32 r_473.1 r_474.1) r_476.1+nj Go.BinOp.xor Go.IntKind.u32 (nj Go.BinOp.xor Go.IntKind.u32 (nj Go.BinOp.and Go.IntKind.u32 BU Nt) (nj Go.BinOp.and Go.IntKind.u32 BU Nu)) (nj Go.BinOp.and Go.IntKind.u32 Nt Nu)))),BU,Nt,Nu,IntKind.wrap .u32 (List.getD A9 (Int.toNat (3:Int)) (0:Int)+PJ),BT,v_463,v_464]
    some (.inl (((IntKind.wrap .i64 (CF+(1:Int))),(),(),(),b_447,b_448),ls_484,OR,OS,OT))
   else none
  else none
 else
  some (.inr (((),(),b_447,b_448),OS,A9,OT))
def Wh.Qz:(((Unit)×(Unit)×(Nat×Nat))×((List (Int))×(List (Int))×(List (Int)))):=default
abbrev Wh.Mt:Type:=((Int)×(Unit)×(Nat×Nat)×(Unit))×((List (Int))×(List (Int))×(List (Int)))
abbrev Wh.Uj:Type:=((((Unit)×(Unit)×(Nat×Nat))×((List (Int))×(List (Int))×(List (Int)))))
def Wh.Co (x:Wh.Mt):Option (Wh.Mt⊕Wh.Uj):=
 let yh:=x.1.1
 let CH:Nat:=(x.1.2.2).1.1
 let CI:Nat:=(x.1.2.2).1.2
 let CS:=x.2.1
 let CT:=x.2.2.1
 let K_:=x.2.2.2
 bif decide (yh<(64:Int)) then
  bif decide (yh<(16:Int)) then
   let ls_346:=List.set CS (Int.toNat yh) (nj Go.BinOp.or Go.IntKind.u32 (nj Go.BinOp.or Go.IntKind.u32 (nj Go.BinOp.or Go.IntKind.u32 (IntKind.wrap .u32 (IntKind.wrap .u32 (List.getD CT (CH+Int.toNat (IntKind.wrap .i64 ((4:Int)*yh))) (0:Int))*(2:Int) ^ Min.min (Int.toNat (24:Int)) (Go.IntKind.bits Go.IntKind.u32))) (IntKind.wrap .u32 (IntKind.wrap .u32 (List.getD CT (CH+Int.toNat (IntKind.wrap .i64 (IntKind.wrap .i64 ((4:Int)*yh)+(1:Int)))) (0:Int))*(2:Int) ^ Min.min (Int.toNat (16:Int)) (Go.IntKind.bits Go.IntKind.u32)))) (IntKind.wrap .u32 (IntKind.wrap .u32 (List.getD CT (CH+Int.toNat (IntKind.wrap .i64 (IntKind.wrap .i64 ((4:Int)*yh)+(2:Int)))) (0:Int))*(2:Int) ^ Min.min (Int.toNat (8:Int)) (Go.IntKind.bits Go.IntKind.u32)))) (IntKind.wrap .u32 (List.getD CT (CH+Int.toNat (IntKind.wrap .i64 (IntKind.wrap .i64 ((4:Int)*yh)+(3:Int)))) (0:Int))))
   let CE:=IntKind.wrap .i64 ((4:Int)*yh)
   bif iy [decide ((0:Int)≤yh),decide (yh<(↑(64:Nat):Int)),decide ((0:Int)≤IntKind.wrap .i64 (CE+(3:Int))),decide (IntKind.wrap .i64 (CE+(3:Int))<(↑CI:Int)),true,decide ((0:Int)≤IntKind.wrap .i64 (CE+(2:Int))),decide (IntKind.wrap .i64 (CE+(2:Int))<(↑CI:Int)),true,decide ((0:Int)≤IntKind.wrap .i64 (CE+(1:Int))),decide (IntKind.wrap .i64 (CE+(1:Int))<(↑CI:Int)),true,decide ((0:Int)≤CE),decide (CE<(↑CI:Int))] then
    some (.inl (((IntKind.wrap .i64 (yh+(1:Int))),(),(CH,CI),()),ls_346,CT,K_))
   else none
  else
   let Nr:=IntKind.wrap .i64 (yh-(15:Int))
   let Ns:=IntKind.wrap .i64 (yh-(2:Int))
   let FN:=List.getD CS (Int.toNat Nr) (0:Int)
   let FV:=List.getD CS (Int.toNat Ns) (0:Int)
   bif iy [decide ((0:Int)≤Ns),decide (Ns<(↑(64:Nat):Int)),decide ((0:Int)≤Nr),decide (Nr<(↑(64:Nat):Int))] then
    let r_376:=Wh.zQ (FN,(7:Int))
    let r_377:=Wh.zQ (FN,(18:Int))
    let r_378:=Wh.zQ (FV,(17:Int))
    let r_379:=Wh.zQ (FV,(19:Int))
    let ls_380:=List.set CS (Int.toNat yh) (IntKind.wrap .u32 (IntKind.wrap .u32 (IntKind.wrap .u32 (List.getD CS (Int.toNat (IntKind.wrap .i64 (yh-(16:Int)))) (0:Int)+List.getD CS (Int.toNat (IntKind.wrap .i64 (yh-(7:Int)))) (0:Int))+nj Go.BinOp.xor Go.IntKind.u32 (nj Go.BinOp.xor Go.IntKind.u32 r_376.1 r_377.1) (Int.fdiv FN ((2:Int) ^ Min.min (Int.toNat (3:Int)) (Go.IntKind.bits Go.IntKind.u32))))+nj Go.BinOp.xor Go.IntKind.u32 (nj Go.BinOp.xor Go.IntKind.u32 r_378.1 r_379.1) (Int.fdiv FV ((2:Int) ^ Min.min (Int.toNat (10:Int)) (Go.IntKind.bits Go.IntKind.u32)))))
    let v_381:=IntKind.wrap .i64 (yh-(16:Int))
    let v_383:=IntKind.wrap .i64 (yh-(7:Int))
    bif iy [decide ((0:Int)≤yh),decide (yh<(↑(64:Nat):Int)),true,nQ (Wh.zg (FV,(19:Int))),nQ (Wh.zg (FV,(17:Int))),true,nQ (Wh.zg (FN,(18:Int))),nQ (Wh.zg (FN,(7:Int))),decide ((0:Int)≤v_383),decide (v_383<(↑(64:Nat):Int)),decide ((0:Int)≤v_381),decide (v_381<(↑(64:Nat):Int))] then
     some (.inl (((IntKind.wrap .i64 (yh+(1:Int))),(),(CH,CI),()),ls_380,CT,K_))
    else none
   else none
 else
  some (.inr (((),(),CH,CI),CS,K_,CT))
def Wh.Qy:(((Unit)×(Unit)×(Nat×Nat))×((List (Int))×(List (Int))×(List (Int)))):=default
abbrev Wh.Ms:Type:=((Nat×Nat)×(Unit))×((List (Int))×(List (Int)))
abbrev Wh.Ui:Type:=((((Unit))×((List (Int)))))
def Wh.Cn (x:Wh.Ms):Option (Wh.Ms⊕Wh.Ui):=
 let b_529:=x.1.1.1
 let b_530:=x.1.1.2
 let ls_531:=x.2.1
 let OX:=x.2.2
 bif decide ((↑b_530:Int)>(0:Int)) then
  let pb_534:List Int:=[(0:Int),(0:Int),(0:Int),(0:Int),(0:Int),(0:Int),(0:Int),(0:Int),(0:Int),(0:Int),(0:Int),(0:Int),(0:Int),(0:Int),(0:Int),(0:Int),(0:Int),(0:Int),(0:Int),(0:Int),(0:Int),(0:Int),(0:Int),(0:Int),(0:Int),(0:Int),(0:Int),(0:Int),(0:Int),(0:Int),(0:Int),(0:Int),(0:Int),(0:Int),(0:Int),(0:Int),(0:Int),(0:Int),(0:Int),(0:Int),(0:Int),(0:Int),(0:Int),(0:Int),(0:Int),(0:Int),(0:Int),(0:Int),(0:Int),(0:Int),(0:Int),(0:Int),(0:Int),(0:Int),(0:Int),(0:Int),(0:Int),(0:Int),(0:Int),(0:Int),(0:Int),(0:Int),(0:Int),(0:Int)]
  let x_535:Wh.Mt:=(((0:Int),(),(b_529,b_530),()),pb_534,ls_531,OX)
  bif lF Wh.Co x_535 then
   let FW:=kG Wh.Co Wh.Qy x_535
   let b_537:Nat:=(FW.1.2.2).1
   let b_538:=FW.1.2.2.2
   let ls_539:=FW.2.1
   let OY:=FW.2.2.1
   let ls_541:=FW.2.2.2
   let x_542:Wh.Mu:=(((0:Int),(),(),(),b_537,b_538),OY,ls_539,OY,ls_541)
   bif lF Wh.Dg x_542 then
    let FX:=kG Wh.Dg Wh.Qz x_542
    let b_544:Nat:=(FX.1.2.2).1
    let b_545:=FX.1.2.2.2
    let ls_546:=FX.2.1
    let ls_547:=FX.2.2.1
    let ls_548:=FX.2.2.2
    let x_549:Wh.Mv:=(((0:Int),(),(),b_544,b_545),ls_546,ls_547,ls_548)
    bif lF Wh.Ff x_549 then
     let Jl:=kG Wh.Ff Wh.QA x_549
     let b_551:=Jl.1.2.1
     let KG:=Jl.1.2.2
     let ls_553:=Jl.2.1
     let OZ:=Jl.2.2
     let v_555:Nat:=Int.toNat ((↑KG:Int)-(64:Int))
     let v_556:Nat:=b_551+Int.toNat (64:Int)
     bif iy [true,decide ((64:Int)≤(↑KG:Int)),decide ((↑b_551:Int)+(↑KG:Int)≤(↑(List.length OZ):Int))] then
      some (.inl (((v_556,v_555),()),OZ,ls_553))
     else none
    else none
   else none
  else none
 else
  some (.inr ((),OX))
def Wh.Qx:(((Unit))×((List (Int)))):=default
abbrev Wh.Mr:Type:=((Int)×(Int)×(Unit)×(Unit))×((List (Int))×(List (Int)))
abbrev Wh.Uh:Type:=((((Unit)×(Unit))×((List (Int))×(List (Int)))))
def Wh.Df (x:Wh.Mr):Option (Wh.Mr⊕Wh.Uh):=
 let HR:=x.1.1
 let PD:=x.1.2.1
 let za:=x.2.1
 let tn:=x.2.2
 bif decide (HR≥(0:Int)) then
  let Iv:List Int:=[IntKind.wrap .u8 (Int.fdiv PD ((2:Int) ^ Min.min (Int.toNat HR) (Go.IntKind.bits Go.IntKind.u64)))]
  let Ii:=za++Iv
  bif iy [decide (List.length za+(1:Nat)≤dh),decide ((0:Int)≤HR)] then
   some (.inl (((IntKind.wrap .i64 (HR-(8:Int))),PD,(),()),Ii,tn))
  else none
 else
  some (.inr (((),()),za,tn))
def Wh.Qw:(((Unit)×(Unit))×((List (Int))×(List (Int)))):=default
abbrev Wh.Mq:Type:=((Unit)×(Unit)×(List UInt8))×((List (Int))×(List (Int)))
abbrev Wh.Ug:Type:=((((Unit)×(Unit)×(List UInt8))×((List (Int))×(List (Int)))))
def Wh.Cm (x:Wh.Mq):Option (Wh.Mq⊕Wh.Ug):=
 let BQ:=x.1.2.2
 let Im:=x.2.1
 let B6:=x.2.2
 let yg:Bool:=(Int.tmod (↑(List.length Im):Int) (64:Int)) != (56:Int)
 bif yg then
  let ls_13:=Im ++ [(0:Int)]
  bif iy [decide (List.length Im+(1:Nat)≤dh)] then
   some (.inl (((),(),BQ),ls_13,B6))
  else none
 else
  some (.inr (((),(),BQ),Im,B6))
def Wh.Qv:(((Unit)×(Unit)×(List UInt8))×((List (Int))×(List (Int)))):=default
def Wh.q38 (xs:(List UInt8)):Option (((List UInt8))×(Unit)):=
 let x5:=xs
 let zc:List Int:=bytesOf x5 ++ [(128:Int)]
 bif iy [decide (List.length (bytesOf x5)+(1:Nat)≤dh),decide (List.length x5≤dh)] then
  let x_14:Wh.Mq:=(((),(),x5),zc,[(1779033703:Int),(3144134277:Int),(1013904242:Int),(2773480762:Int),(1359893119:Int),(2600822924:Int),(528734635:Int),(1541459225:Int)])
  bif lF Wh.Cm x_14 then
   let y_15:=kG Wh.Cm Wh.Qv x_14
   let Wr:=y_15.1.2.2
   let xe:=y_15.2.1
   let nP:=y_15.2.2
   let x_40:Wh.Mr:=(((56:Int),(IntKind.wrap .u64 ((IntKind.wrap .u64 (↑(List.length Wr):Int))*(8:Int))),(),()),xe,nP)
   bif lF Wh.Df x_40 then
    let y_41:=kG Wh.Df Wh.Qw x_40
    let Ij:=y_41.2.1
    let DY:=y_41.2.2
    let x_557:Wh.Ms:=((((0:Nat),List.length Ij),()),Ij,DY)
    bif lF Wh.Cn x_557 then
     let y_558:=kG Wh.Cn Wh.Qx x_557
     let ls_559:=y_558.2
     let x_582:Wh.Mw:=(((0:Int),(),ls_559),[])
     bif lF Wh.Fg x_582 then
      let y_583:=kG Wh.Fg Wh.QB x_582
      let ls_584:=y_583.2
      some (qp ls_584,())
     else none
    else none
   else none
  else none
 else none
def Wh.q38':=ct Wh.q38
theorem Wh.q38_v:OV Wh.q38 Wh.q38':=eA _
abbrev Wh.LL:Type:=((Int)×(List UInt8)×(Unit))×((List (Int)))
abbrev Wh.TS:Type:=((((Unit))×((List (Int)))))
def Wh.Iz (x:Wh.LL):Option (Wh.LL⊕Wh.TS):=
 let CR:=x.1.1
 let Aq:=x.1.2.1
 let w7:=x.2
 let ov:=decide (CR<(↑(List.length Aq):Int))
 bif ov then
  let CY:List Int:=[(↑(UInt8.toNat (List.getD [(48:UInt8),(49:UInt8),(50:UInt8),(51:UInt8),(52:UInt8),(53:UInt8),(54:UInt8),(55:UInt8),(56:UInt8),(57:UInt8),(97:UInt8),(98:UInt8),(99:UInt8),(100:UInt8),(101:UInt8),(102:UInt8)] (Int.toNat (IntKind.wrap .u8 (Int.tdiv (↑(UInt8.toNat (List.getD Aq (Int.toNat CR) (0:UInt8))):Int) (16:Int)))) (0:UInt8))):Int),(↑(UInt8.toNat (List.getD [(48:UInt8),(49:UInt8),(50:UInt8),(51:UInt8),(52:UInt8),(53:UInt8),(54:UInt8),(55:UInt8),(56:UInt8),(57:UInt8),(97:UInt8),(98:UInt8),(99:UInt8),(100:UInt8),(101:UInt8),(102:UInt8)] (Int.toNat (Int.tmod (↑(UInt8.toNat (List.getD Aq (Int.toNat CR) (0:UInt8))):Int) (16:Int))) (0:UInt8))):Int)]
  let nP:=w7++CY
  let mw:Int:=(↑(UInt8.toNat (List.getD Aq (Int.toNat CR) (0:UInt8))):Int)
  bif iy [decide (List.length w7+(2:Nat)≤dh),decide ((0:Int)≤Int.tmod mw (16:Int)),decide (Int.tmod mw (16:Int)<(↑(16:Nat):Int)),true,decide ((0:Int)≤CR),ov,decide ((0:Int)≤IntKind.wrap .u8 (Int.tdiv mw (16:Int))),decide (IntKind.wrap .u8 (Int.tdiv mw (16:Int))<(↑(16:Nat):Int)),true,decide ((0:Int)≤CR),ov] then
   some (.inl (((IntKind.wrap .i64 (CR+(1:Int))),Aq,()),nP))
  else none
 else
  some (.inr ((),w7))
def Wh.P1:(((Unit))×((List (Int)))):=default
def Wh.D4 (xs:(List UInt8)):Option (((List UInt8))×(Unit)):=
 let fe:=xs
 let x_25:Wh.LL:=(((0:Int),fe,()),[])
 bif lF Wh.Iz x_25 then
  let zk:=kG Wh.Iz Wh.P1 x_25
  let ye:=zk.2
  some (qp ye,())
 else none
def Wh.LK:=ct Wh.D4
theorem Wh.P2:OV Wh.D4 Wh.LK:=eA _
def Wh.q56 (xs:(List UInt8)):Option (((List UInt8))×(Unit)):=
 let x5:=xs
 let r_1:xR.D:=Wh.q38' x5
 let r_3:xR.D:=Wh.LK r_1.1
 bif iy [nQ (Wh.D4 r_1.1),nQ (Wh.q38 x5)] then
  some (r_3.1,())
 else none
def Wh.Cs:=ct Wh.q56
theorem Wh.q56_v:OV Wh.q56 Wh.Cs:=eA _
def Wh.q61 (xs:(Int)×(List UInt8)):Option (((List UInt8))×(Unit)):=
 let xN:=xs.1
 let yq:=xs.2
 let r_2:xR.D:=Wh.tJ xN
 let gz:xR.D:=Wh.tJ (↑(List.length yq):Int)
 let y8:=r_2.1 ++ [(32:UInt8)]++gz.1 ++ [(32:UInt8)]
 bif iy [decide (List.length (r_2.1 ++ [(32:UInt8)]++gz.1)+(1:Nat)≤dh),decide (List.length (r_2.1 ++ [(32:UInt8)])+List.length gz.1≤dh),nQ (Wh.strconv_Itoa (↑(List.length yq):Int)),decide (List.length r_2.1+(1:Nat)≤dh),nQ (Wh.strconv_Itoa xN)] then
  let yR:List UInt8:=y8++yq
  let xZ:xR.D:=Wh.Cs yR
  let n5:List UInt8:=y8++List.take (Int.toNat ((16:Int)-(0:Int))) (List.drop (Int.toNat (0:Int)) xZ.1) ++ [(32:UInt8)]++yq ++ [(10:UInt8)]
  bif iy [decide (List.length (y8++List.take (Int.toNat ((16:Int)-(0:Int))) (List.drop (Int.toNat (0:Int)) ((Wh.Cs yR).1)) ++ [(32:UInt8)]++yq)+(1:Nat)≤dh),decide (List.length (y8++List.take (Int.toNat ((16:Int)-(0:Int))) (List.drop (Int.toNat (0:Int)) ((Wh.Cs yR).1)) ++ [(32:UInt8)])+List.length yq≤dh),decide (List.length (y8++List.take (Int.toNat ((16:Int)-(0:Int))) (List.drop (Int.toNat (0:Int)) ((Wh.Cs yR).1)))+(1:Nat)≤dh),decide (List.length y8+List.length (List.take (Int.toNat ((16:Int)-(0:Int))) (List.drop (Int.toNat (0:Int)) ((Wh.Cs yR).1)))≤dh),true,true,decide ((16:Int)≤(↑(List.length ((Wh.Cs yR).1)):Int)),nQ (Wh.q56 yR),decide (List.length y8+List.length yq≤dh)] then
   some (n5,())
  else none
 else none
def Wh.q61':=ct Wh.q61
theorem Wh.MM:OV Wh.q61 Wh.q61':=eA _
def Wh.q5 (xs:(List UInt8)×(List UInt8)):Option (((Bool))×(Unit)):=
 let fe:=xs.1
 let B9:=xs.2
 let v_2:=decide ((↑(List.length fe):Int)≥(↑(List.length B9):Int))
 let xU:=bif v_2 then List.take (Int.toNat ((↑(List.length B9):Int)-(0:Int))) (List.drop (Int.toNat (0:Int)) fe)==B9 else false
 bif iy [!v_2 || decide ((0:Int)≤(0:Int)),!v_2 || decide ((0:Int)≤(↑(List.length B9):Int)),!v_2 || decide ((↑(List.length B9):Int)≤(↑(List.length fe):Int))] then
  some (xU,())
 else none
def Wh.q5':=ct Wh.q5
theorem Wh.q5_v:OV Wh.q5 Wh.q5':=eA _
def Wh.q11 (xs:(List UInt8)×(List UInt8)):Option (((Bool))×(Unit)):=
 let fe:=xs.1
 let B9:=xs.2
 let r_2:=Wh.q5' (fe,B9)
 bif iy [nQ (Wh.q5 (fe,B9))] then
  some (r_2.1,())
 else none
def Wh.q11':=ct Wh.q11
theorem Wh.L9:OV Wh.q11 Wh.q11':=eA _
abbrev Wh.MI:Type:=((Int)×(Unit)×(List UInt8))×((List (List UInt8)))
abbrev Wh.Uv:Type:=((((Unit)×(Int))×((List (List UInt8)))))
def Wh.AI (x:Wh.MI):Option (Wh.MI⊕Wh.Uv):=
 let Ae:=x.1.1
 let z7:=x.1.2.2
 let EY:List (List UInt8):=x.2
 let Ef:List UInt8:=List.take (Int.toNat ((↑(List.length z7):Int)-Ae)) (List.drop (Int.toNat Ae) z7)
 let I5:(List UInt8×List UInt8×Bool)×Unit:=Wh.tK (Ef,[(32:UInt8)])
 bif iy [nQ (Wh.strings_Cut (Ef,[(32:UInt8)])),decide ((0:Int)≤Ae),decide (Ae≤(↑(List.length z7):Int)),decide ((↑(List.length z7):Int)≤(↑(List.length z7):Int))] then
  let r_66:(List UInt8×List UInt8×Bool)×Unit:=Wh.tK (I5.1.2.1,[(32:UInt8)])
  bif iy [nQ (Wh.strings_Cut (I5.1.2.1,[(32:UInt8)]))] then
   let Dr:(Int×Bool)×Unit:=Wh.rW r_66.1.1
   bif iy [nQ (Wh.rV r_66.1.1)] then
    let Ji:Int:=(↑(List.length EY):Int)
    let v_74:Int:=(↑(List.length r_66.1.1):Int)
    let r_79:xR.D:=Wh.tJ Ji
    let Om:=IntKind.wrap .i64 (IntKind.wrap .i64 (IntKind.wrap .i64 ((↑(List.length r_79.1):Int)+(1:Int))+v_74)+(18:Int))
    bif iy [nQ (Wh.strconv_Itoa Ji)] then
     let v_81:= !Dr.1.2
     let r_82:=Wh.x_ (Dr.1.1,(1:Int),(500:Int))
     let v_85:=bif bif v_81 then true else !r_82.1 then true else decide (IntKind.wrap .i64 ((↑(List.length z7):Int)-Ae)<IntKind.wrap .i64 (IntKind.wrap .i64 (Om+Dr.1.1)+(1:Int)))
     bif iy [!!v_81 || nQ (Wh.vT (Dr.1.1,(1:Int),(500:Int)))] then
      bif v_85 then
       some (.inr (((),Ae),EY))
      else
       let DB:=IntKind.wrap .i64 (Ae+Om)
       let Nj:List UInt8:=List.take (Int.toNat (IntKind.wrap .i64 (DB+Dr.1.1)-DB)) (List.drop (Int.toNat DB) z7)
       bif iy [decide ((0:Int)≤DB),decide (DB≤IntKind.wrap .i64 (DB+Dr.1.1)),decide (IntKind.wrap .i64 (DB+Dr.1.1)≤(↑(List.length z7):Int))] then
        let r_91:xR.D:=Wh.q61' (Ji,Nj)
        bif iy [nQ (Wh.q61 (Ji,Nj))] then
         let r_93:=Wh.q11' (Ef,r_91.1)
         bif iy [nQ (Wh.q11 (Ef,r_91.1)),decide ((0:Int)≤Ae),decide (Ae≤(↑(List.length z7):Int)),decide ((↑(List.length z7):Int)≤(↑(List.length z7):Int))] then
          bif !r_93.1 then
           some (.inr (((),Ae),EY))
          else
           let pb_94:List (List UInt8):=[Nj]
           let ls_95:List (List UInt8):=EY++pb_94
           bif iy [decide (List.length EY+(1:Nat)≤dh)] then
            let FI:Int:=(↑(List.length r_91.1):Int)
            some (.inl (((IntKind.wrap .i64 (Ae+FI)),(),z7),ls_95))
           else none
         else none
        else none
       else none
     else none
    else none
   else none
  else none
 else none
def Wh.QL:(((Unit)×(Int))×((List (List UInt8)))):=default
def Wh.q57 (xs:(List UInt8)):Option (((List (List UInt8))×(Int))×(Unit)):=
 let x8:=xs
 let x_99:Wh.MI:=(((0:Int),(),x8),[])
 bif lF Wh.AI x_99 then
  let y_100:=kG Wh.AI Wh.QL x_99
  let v_101:=y_100.1.2
  let ls_102:List (List UInt8):=y_100.2
  some ((ls_102,v_101),())
 else none
def Wh.q57':=ct Wh.q57
theorem Wh.q57_v:OV Wh.q57 Wh.q57':=eA _
def Wh.zL (xs:(Int)):Option (((Bool))×(Unit)):=
 let xN:=xs
 let r_1:=Wh.x_ (xN,(0:Int),(1:Int))
 bif iy [nQ (Wh.vT (xN,(0:Int),(1:Int)))] then
  some (r_1.1,())
 else none
def Wh.E8:=ct Wh.zL
theorem Wh.IA:OV Wh.zL Wh.E8:=eA _
abbrev Wh.MZ:Type:=((Int)×(List UInt8)×(Int))×(Unit)
abbrev Wh.UJ:Type:=((((Bool))×(Unit))⊕(((List UInt8))×(Unit)))
def Wh.BG (x:Wh.MZ):Option (Wh.MZ⊕Wh.UJ):=
 let zi:=x.1.1
 let FA:=x.1.2.1
 let yg:=x.1.2.2
 bif decide (zi<yg) then
  let ng:Int:=(↑(UInt8.toNat (List.getD FA (Int.toNat zi) (0:UInt8))):Int)
  let s4:=bif decide (ng<(97:Int)) then true else decide (ng>(122:Int))
  bif iy [!!decide (ng<(97:Int)) || decide ((0:Int)≤zi),!!decide (ng<(97:Int)) || decide (zi<(↑(List.length FA):Int)),decide ((0:Int)≤zi),decide (zi<(↑(List.length FA):Int))] then
   bif s4 then
    some (.inr (.inl (false,())))
   else
    some (.inl (((IntKind.wrap .i64 (zi+(1:Int))),FA,yg),()))
  else none
 else
  some (.inr (.inr (FA,())))
def Wh.QZ:(((Bool))×(Unit))⊕(((List UInt8))×(Unit)):=.inl default
def Wh.q79 (xs:(List UInt8)):Option (((Bool))×(Unit)):=
 let x5:=xs
 let x_19:Wh.MZ:=(((0:Int),x5,(↑(List.length x5):Int)),())
 bif lF Wh.BG x_19 then
  sumC (kG Wh.BG Wh.QZ x_19) (fun y_20=>
   let Ac:=y_20.1
   some (Ac,())) (fun z_21=>
   let Rq:=z_21.1
   let r_24:=Wh.x_ ((↑(List.length Rq):Int),(1:Int),(6:Int))
   bif iy [nQ (Wh.vT ((↑(List.length Rq):Int),(1:Int),(6:Int)))] then
    some (r_24.1,())
   else none)
 else none
def Wh.IV:=ct Wh.q79
theorem Wh.M0:OV Wh.q79 Wh.IV:=eA _
def Wh.q19 (xs:(Int)×(List UInt8)×(List UInt8)):Option (((List UInt8))×(Unit)):=
 let CP:=xs.1
 let x9:=xs.2.1
 let zD:=xs.2.2
 let r_3:=Wh.E8 CP
 let gz:=Wh.IV x9
 let yI:=bif bif !r_3.1 then true else !gz.1 then true else decide ((↑(List.length zD):Int)>(300:Int))
 bif iy [!!!r_3.1 || nQ (Wh.q79 x9),nQ (Wh.zL CP)] then
  bif yI then
   some ([],())
  else
   let yG:xR.D:=Wh.tJ CP
   let CC:=yG.1 ++ [(32:UInt8)]++x9 ++ [(58:UInt8)]++zD
   bif iy [decide (List.length (yG.1 ++ [(32:UInt8)]++x9 ++ [(58:UInt8)])+List.length zD≤dh),decide (List.length (yG.1 ++ [(32:UInt8)]++x9)+(1:Nat)≤dh),decide (List.length (yG.1 ++ [(32:UInt8)])+List.length x9≤dh),decide (List.length yG.1+(1:Nat)≤dh),nQ (Wh.strconv_Itoa CP)] then
    some (CC,())
   else none
 else none
def Wh.q19':=ct Wh.q19
theorem Wh.Mb:OV Wh.q19 Wh.q19':=eA _
def Wh.Bt (xs:(bn.D)):Option ((((Int)×((List (an.D))×(Unit))))×(Unit)):=
 let fk:bn.D:=xs
 let zc:List (an.D):=[]++fk.2.1
 bif iy [decide ((0:Nat)+List.length fk.2.1≤dh)] then
  some ((fk.1,zc,()),())
 else none
def Wh.Fe:=ct Wh.Bt
theorem Wh.De:OV Wh.Bt Wh.Fe:=eA _
def Wh.q16 (xs:(an.D)×(Int)×(List UInt8)):Option (((Bool))×(Unit)):=
 let i_0:an.D:=xs.1
 let v_1:=xs.2.1
 let v_2:=xs.2.2
 let s_:=bif(i_0.1==v_1) then i_0.2.1==v_2 else false
 some (s_,())
def Wh.q16':=ct Wh.q16
theorem Wh.Ma:OV Wh.q16 Wh.q16':=eA _
abbrev Wh.Mx:Type:=((Int)×(List (an.D))×((Int)×((List UInt8)×(Unit)))×(Int))×(Unit)
abbrev Wh.q3_l0Y:Type:=((((Int))×(Unit))⊕((Unit)×(Unit)))
def Wh.Bw (x:Wh.Mx):Option (Wh.Mx⊕Wh.q3_l0Y):=
 let yg:=x.1.1
 let s_13:List (an.D):=x.1.2.1
 let f_14:Int:=(x.1.2.2).1.1
 let f_15:List UInt8:=(x.1.2.2).1.2.1
 let ov:=x.1.2.2.2
 bif decide (yg<ov) then
  let n4:an.D:=List.getD s_13 (Int.toNat yg) ((0:Int),[],(0:Int),[],())
  let r_19:=Wh.q16' (n4,f_14,f_15)
  bif iy [nQ (Wh.q16 (n4,f_14,f_15)),decide ((0:Int)≤yg),decide (yg<(↑(List.length s_13):Int))] then
   bif r_19.1 then
    some (.inr (.inl (yg,())))
   else
    some (.inl (((IntKind.wrap .i64 (yg+(1:Int))),s_13,(f_14,f_15,()),ov),()))
  else none
 else
  some (.inr (.inr ((),())))
def Wh.QC:(((Int))×(Unit))⊕((Unit)×(Unit)):=.inl default
def Wh.q3 (xs:(List (an.D))×((Int)×((List UInt8)×(Unit)))):Option (((Int))×(Unit)):=
 let fe:List (an.D):=xs.1
 let f_1:Int×xR.D:=xs.2
 let v_2:Int:=(↑(List.length fe):Int)
 let x_21:Wh.Mx:=(((0:Int),fe,(f_1.1,f_1.2.1,()),v_2),())
 bif lF Wh.Bw x_21 then
  sumC (kG Wh.Bw Wh.QC x_21) (fun BV=>
   let yH:=BV.1
   some (yH,())) (fun _=>
   some ((-1:Int),()))
 else none
def Wh.q3':=ct Wh.q3
theorem Wh.q3_v:OV Wh.q3 Wh.q3':=eA _
def Wh.An (xs:(bn.D)×(Int)×(List UInt8)):Option (((Int))×(Unit)):=
 let fk:bn.D:=xs.1
 let nW:=xs.2.1
 let xO:=xs.2.2
 let r_3:=Wh.q3' (fk.2.1,nW,xO,())
 bif iy [nQ (Wh.q3 (fk.2.1,nW,xO,()))] then
  some (r_3.1,())
 else none
def Wh.IQ:=ct Wh.An
theorem Wh.Fc:OV Wh.An Wh.IQ:=eA _
def Wh.Dq (xs:(List (an.D))×(Int)×(Int)):Option (((List (an.D)))×(Unit)):=
 let fe:List (an.D):=xs.1
 let i_1:=xs.2.1
 let zK:=xs.2.2
 let nE:Int:=(↑(List.length fe):Int)
 bif iy [decide ((0:Int)≤i_1),decide (i_1≤zK),decide (zK≤nE),decide (nE≤nE)] then
  let xU:=i_1==zK
  bif xU then
   some (fe,())
  else
   let pb_5:List (an.D):=List.take (Int.toNat (0:Int)+Int.toNat (i_1-(0:Int))) fe++(List.take (Int.toNat (nE-zK)) (List.drop (Int.toNat zK) fe)++List.drop (Int.toNat (0:Int)+Int.toNat (i_1-(0:Int))+List.length (List.take (Int.toNat (nE-zK)) (List.drop (Int.toNat zK) fe))) fe)
   let zj:Nat:=Int.toNat (i_1-(0:Int))
   let s_9:Nat:=zj+List.length (List.take (Int.toNat (nE-zK)) (List.drop (Int.toNat zK) fe))
   bif iy [decide (Int.toNat (0:Int)+zj+List.length (List.take (Int.toNat (nE-zK)) (List.drop (Int.toNat zK) fe))≤List.length fe),decide ((0:Int)≤zK),decide (zK≤nE),decide (nE≤nE),true,decide ((0:Int)≤i_1),decide (i_1≤nE)] then
    let Ly:List (an.D):=List.take (Int.toNat (0:Int)+Int.toNat (↑s_9:Int)) pb_5++(@List.replicate (Int×List UInt8×Int×List UInt8×Unit) (Int.toNat (nE-(↑s_9:Int))) ((0:Int),[],(0:Int),[],())++List.drop (Int.toNat (0:Int)+Int.toNat (↑s_9:Int)+List.length (@List.replicate (Int×List UInt8×Int×List UInt8×Unit) (Int.toNat (nE-(↑s_9:Int))) ((0:Int),[],(0:Int),[],()))) pb_5)
    bif iy [decide ((0:Int)≤(↑s_9:Int)),decide ((↑s_9:Int)≤nE),decide ((↑(Int.toNat (0:Int)):Int)+nE≤(↑(List.length pb_5):Int))] then
     some (List.take s_9 Ly,())
    else none
   else none
 else none
def Wh.q9':=ct Wh.Dq
theorem Wh.q9_v:OV Wh.Dq Wh.q9':=eA _
def Wh.q33 (xs:(bn.D)×(Int)×(List UInt8)):Option ((((Int)×((List (an.D))×(Unit)))×(Int))×(Unit)):=
 let fk:bn.D:=xs.1
 let nW:=xs.2.1
 let xO:=xs.2.2
 let r_3:(bn.D)×Unit:=Wh.Fe fk
 bif iy [nQ (Wh.Bt fk)] then
  let gz:=Wh.IQ (fk,nW,xO)
  bif iy [nQ (Wh.An (fk,nW,xO))] then
   bif decide (gz.1<(0:Int)) then
    some ((r_3.1,(3:Int)),())
   else
    let yp:List (an.D)×Unit:=Wh.q9' (r_3.1.2.1,gz.1,IntKind.wrap .i64 (gz.1+(1:Int)))
    let pb_7:List (an.D):=[]++yp.1
    bif iy [decide ((0:Nat)+List.length yp.1≤dh),nQ (Wh.Dq (r_3.1.2.1,gz.1,(IntKind.wrap .i64 (gz.1+(1:Int)))))] then
     some (((r_3.1.1,pb_7,r_3.1.2.2),(0:Int)),())
    else none
  else none
 else none
def Wh.q33':=ct Wh.q33
theorem Wh.q33_v:OV Wh.q33 Wh.q33':=eA _
def Wh.q14 (xs:(Int)×(List UInt8)×(List UInt8)):Option (((Bool))×(Unit)):=
 let CP:=xs.1
 let x9:=xs.2.1
 let zD:=xs.2.2
 let r_3:=Wh.E8 CP
 let gz:=Wh.IV x9
 let Aa:=Wh.x_ ((↑(List.length zD):Int),(1:Int),(300:Int))
 let xV:=bif bif r_3.1 then gz.1 else false then Aa.1 else false
 bif iy [(!bif r_3.1 then gz.1 else false) || nQ (Wh.vT ((↑(List.length zD):Int),(1:Int),(300:Int))),!r_3.1 || nQ (Wh.q79 x9),nQ (Wh.zL CP)] then
  some (xV,())
 else none
def Wh.q14':=ct Wh.q14
theorem Wh.IL:OV Wh.q14 Wh.q14':=eA _
abbrev Wh.Me:Type:=((Int)×(Int)×(Int)×(List (an.D))×(Int))×(Unit)
abbrev Wh.T8:Type:=((((Int))×(Unit)))
def Wh.Bn (x:Wh.Me):Option (Wh.Me⊕Wh.T8):=
 let ov:=x.1.1
 let CW:=x.1.2.1
 let CN:Int:=(x.1.2.2).1
 let mw:List (an.D):=x.1.2.2.2.1
 let nc:=x.1.2.2.2.2
 bif decide (ov<nc) then
  let pb_22:an.D:=List.getD mw (Int.toNat ov) ((0:Int),[],(0:Int),[],())
  bif iy [decide ((0:Int)≤ov),decide (ov<(↑(List.length mw):Int))] then
   bif(pb_22.1==CN) then
    let yH:Int:=(↑(List.length ((pb_22.2.2.2).1)):Int)
    some (.inl (((IntKind.wrap .i64 (ov+(1:Int))),(IntKind.wrap .i64 (CW+yH)),CN,mw,nc),()))
   else
    some (.inl (((IntKind.wrap .i64 (ov+(1:Int))),CW,CN,mw,nc),()))
  else none
 else
  some (.inr (CW,()))
def Wh.Ql:(((Int))×(Unit)):=default
def Wh.q21 (xs:(bn.D)×(Int)):Option (((Int))×(Unit)):=
 let fk:bn.D:=xs.1
 let nW:=xs.2
 let v_2:Int:=(↑(List.length fk.2.1):Int)
 let FM:Wh.Me:=(((0:Int),(0:Int),nW,fk.2.1,v_2),())
 bif lF Wh.Bn FM then
  let Ei:=kG Wh.Bn Wh.Ql FM
  let n_31:=Ei.1
  some (n_31,())
 else none
def Wh.q21':=ct Wh.q21
theorem Wh.q21_v:OV Wh.q21 Wh.q21':=eA _
def Wh.q30 (xs:(Int)):Option (((Bool))×(Unit)):=
 let w9:=xs
 let v_1:=w9 != w9
 some (v_1,())
def Wh.IP:=ct Wh.q30
theorem Wh.q30_v:OV Wh.q30 Wh.IP:=eA _
def Wh.q15 (xs:(Int)×(Int)):Option (((Int))×(Unit)):=
 let w9:=xs.1
 let A3:=xs.2
 let r_2:=Wh.IP w9
 bif iy [nQ (Wh.q30 w9)] then
  let r_3:=Wh.IP A3
  bif iy [nQ (Wh.q30 A3)] then
   bif r_2.1 then
    bif r_3.1 then
     some ((0:Int),())
    else
     some ((-1:Int),())
   else
    bif r_3.1 then
     some ((1:Int),())
    else
     bif decide (w9<A3) then
      some ((-1:Int),())
     else
      bif decide (w9>A3) then
       some ((1:Int),())
      else
       some ((0:Int),())
  else none
 else none
def Wh.q15':=ct Wh.q15
theorem Wh.q15_v:OV Wh.q15 Wh.q15':=eA _
def Wh.q12 (xs:(List UInt8)):Option (((Bool))×(Unit)):=
 let w9:=xs
 some ((!w9==w9),())
def Wh.II:=ct Wh.q12
theorem Wh.q12_v:OV Wh.q12 Wh.II:=eA _
def Wh.q7 (xs:(List UInt8)×(List UInt8)):Option (((Int))×(Unit)):=
 let w9:=xs.1
 let A3:=xs.2
 let r_2:=Wh.II w9
 bif iy [nQ (Wh.q12 w9)] then
  let r_3:=Wh.II A3
  bif iy [nQ (Wh.q12 A3)] then
   bif r_2.1 then
    bif r_3.1 then
     some ((0:Int),())
    else
     some ((-1:Int),())
   else
    bif r_3.1 then
     some ((1:Int),())
    else
     bif Go.Op.bytesLess w9 A3 then
      some ((-1:Int),())
     else
      bif(!(Go.Op.bytesLess w9 A3 || w9==A3)) then
       some ((1:Int),())
      else
       some ((0:Int),())
  else none
 else none
def Wh.q7':=ct Wh.q7
theorem Wh.q7_v:OV Wh.q7 Wh.q7':=eA _
abbrev Wh.LH:Type:=((Int)×(Int)×(List (Int))×(Int))×(Unit)
abbrev Wh.TQ:Type:=((((Int))×(Unit))⊕(((Int))×(Unit)))
def Wh.B_ (x:Wh.LH):Option (Wh.LH⊕Wh.TQ):=
 let xV:=x.1.1
 let Nv:=x.1.2.1
 let yP:List Int:=(x.1.2.2).1
 let yg:=x.1.2.2.2
 bif decide (xV<yg) then
  let ng:=List.getD yP (Int.toNat xV) (0:Int)
  bif iy [decide ((0:Int)≤xV),decide (xV<(↑(List.length yP):Int))] then
   let w8:=ng != Nv
   bif w8 then
    some (.inr (.inl (ng,())))
   else
    some (.inl (((IntKind.wrap .i64 (xV+(1:Int))),Nv,yP,yg),()))
  else none
 else
  some (.inr (.inr (Nv,())))
def Wh.PX:(((Int))×(Unit))⊕(((Int))×(Unit)):=.inl default
def Wh.C3 (xs:(List (Int))):Option (((Int))×(Unit)):=
 let Rt:=xs
 let x_17:Wh.LH:=(((0:Int),(0:Int),Rt,(↑(List.length Rt):Int)),())
 bif lF Wh.B_ x_17 then
  sumC (kG Wh.B_ Wh.PX x_17) (fun DD=>
   let nc:=DD.1
   some (nc,())) (fun FY=>
   let WM:=FY.1
   some (WM,()))
 else none
def Wh.LG:=ct Wh.C3
theorem Wh.PY:OV Wh.C3 Wh.LG:=eA _
def Wh.q23 (xs:(an.D)×(an.D)):Option (((Int))×(Unit)):=
 let bx:an.D:=xs.1
 let b_1:an.D:=xs.2
 let r_2:=Wh.q15' (bx.1,b_1.1)
 let r_3:=Wh.q7' (bx.2.1,b_1.2.1)
 let yp:=Wh.LG [r_2.1,r_3.1]
 bif iy [nQ (Wh.C3 [r_2.1,r_3.1]),nQ (Wh.q7 (bx.2.1,b_1.2.1)),nQ (Wh.q15 (bx.1,b_1.1))] then
  some (yp.1,())
 else none
def Wh.q23':=ct Wh.q23
theorem Wh.IM:OV Wh.q23 Wh.q23':=eA _
abbrev Wh.LD:Type:=((Int)×(Unit)×(Unit)×(Int)×(Int)×(Int))×((List (an.D)))
abbrev Wh.q0_l1Y:Type:=((((Unit)×(Unit)×(Int)×(Int)×(Int))×((List (an.D)))))
def Wh.AD (x:Wh.LD):Option (Wh.LD⊕Wh.q0_l1Y):=
 let yB:=x.1.1
 let a_24:=x.1.2.2.2.1
 let b_25:Int:=(x.1.2.2.2.2).1
 let i_26:Int:=(x.1.2.2.2.2).2
 let zd:List (an.D):=x.2
 let nG:=decide (yB>a_24)
 let r_29:=Wh.q23' (List.getD zd (Int.toNat yB) ((0:Int),[],(0:Int),[],()),List.getD zd (Int.toNat (IntKind.wrap .i64 (yB-(1:Int)))) ((0:Int),[],(0:Int),[],()))
 let FD:=bif nG then decide (r_29.1<(0:Int)) else false
 bif iy [!nG || nQ (Wh.q23 (List.getD zd (Int.toNat yB) ((0:Int),[],(0:Int),[],()),List.getD zd (Int.toNat (IntKind.wrap .i64 (yB-(1:Int)))) ((0:Int),[],(0:Int),[],()))),!nG || decide ((0:Int)≤IntKind.wrap .i64 (yB-(1:Int))),!nG || decide (IntKind.wrap .i64 (yB-(1:Int))<(↑(List.length zd):Int)),!nG || decide ((0:Int)≤yB),!nG || decide (yB<(↑(List.length zd):Int))] then
  bif FD then
   let vN:List (an.D):=List.set zd (Int.toNat yB) (List.getD zd (Int.toNat (IntKind.wrap .i64 (yB-(1:Int)))) ((0:Int),[],(0:Int),[],()))
   let pb_32:List (an.D):=List.set vN (Int.toNat (IntKind.wrap .i64 (yB-(1:Int)))) (List.getD zd (Int.toNat yB) ((0:Int),[],(0:Int),[],()))
   let BR:=IntKind.wrap .i64 (yB-(1:Int))
   bif iy [decide ((0:Int)≤BR),decide (BR<(↑(List.length vN):Int)),decide ((0:Int)≤yB),decide (yB<(↑(List.length zd):Int)),decide ((0:Int)≤yB),decide (yB<(↑(List.length zd):Int)),decide ((0:Int)≤BR),decide (BR<(↑(List.length zd):Int))] then
    some (.inl ((BR,(),(),a_24,b_25,i_26),pb_32))
   else none
  else
   some (.inr (((),(),a_24,b_25,i_26),zd))
 else none
def Wh.PV:(((Unit)×(Unit)×(Int)×(Int)×(Int))×((List (an.D)))):=default
abbrev Wh.LC:Type:=((Unit)×(Int)×(Unit)×(Int)×(Int))×((List (an.D)))
abbrev Wh.q0_l0Y:Type:=(((Unit)×((List (an.D)))))
def Wh.Ak (x:Wh.LC):Option (Wh.LC⊕Wh.q0_l0Y):=
 let i_43:=x.1.2.1
 let a_44:=x.1.2.2.2.1
 let b_45:=x.1.2.2.2.2
 let Az:List (an.D):=x.2
 bif decide (i_43<b_45) then
  let FO:Wh.LD:=((i_43,(),(),a_44,b_45,i_43),Az)
  bif lF Wh.AD FO then
   let Ej:=kG Wh.AD Wh.PV FO
   let a_50:Int:=(Ej.1.2.2).1
   let b_51:=Ej.1.2.2.2.1
   let i_52:=Ej.1.2.2.2.2
   let pb_53:List (an.D):=Ej.2
   some (.inl (((),(IntKind.wrap .i64 (i_52+(1:Int))),(),a_50,b_51),pb_53))
  else none
 else
  some (.inr ((),Az))
def Wh.PU:((Unit)×((List (an.D)))):=default
def Wh.q0 (xs:(List (an.D))×(Int)×(Int)×(Unit)):Option ((Unit)×((List (an.D))×Unit)):=
 let KM:List (an.D):=xs.1
 let a_1:=xs.2.1
 let b_2:=xs.2.2.1
 let FP:Wh.LC:=(((),(IntKind.wrap .i64 (a_1+(1:Int))),(),a_1,b_2),KM)
 bif lF Wh.Ak FP then
  let y_56:=kG Wh.Ak Wh.PU FP
  let pb_57:List (an.D):=y_56.2
  some ((),pb_57,())
 else none
def Wh.q0':=ct Wh.q0
theorem Wh.q0_v:OV Wh.q0 Wh.q0':=eA _
abbrev Wh.Mc:Type:=((Unit)×(Int)×(Int)×(Unit)×(Bool)×(Bool)×(Int))×((List (an.D)))
abbrev Wh.q1_l0Y:Type:=(((Unit)×((List (an.D)))))
def Wh.D9 (x:Wh.Mc):Option (Wh.Mc⊕Wh.q1_l0Y):=
 let b_15:=x.1.2.1
 let a_16:Int:=(x.1.2.2).1
 let WJ:Bool:=(x.1.2.2.2.2).2.1
 let SW:Int:=(x.1.2.2.2.2).2.2
 let E4:List (an.D):=x.2
 bif decide ((IntKind.wrap .i64 (b_15-a_16))≤(12:Int)) then
  let yY:Unit×List (an.D)×Unit:=Wh.q0' (E4,a_16,b_15,())
  bif iy [nQ (Wh.q0 (E4,a_16,b_15,()))] then
   some (.inr ((),yY.2.1))
  else none
 else
  let yH:=SW==(0:Int)
  bif yH then
   none
  else
   bif !WJ then
    none
   else
    none
def Wh.Qk:((Unit)×((List (an.D)))):=default
def Wh.q1 (xs:(List (an.D))×(Int)×(Int)×(Int)×(Unit)):Option ((Unit)×((List (an.D))×Unit)):=
 let KM:List (an.D):=xs.1
 let a_1:=xs.2.1
 let b_2:=xs.2.2.1
 let SX:Int:=(xs.2.2.2).1
 let x_25:Wh.Mc:=(((),b_2,a_1,(),true,true,SX),KM)
 bif lF Wh.D9 x_25 then
  let zk:=kG Wh.D9 Wh.Qk x_25
  let zd:List (an.D):=zk.2
  some ((),zd,())
 else none
def Wh.q1':=ct Wh.q1
theorem Wh.q1_v:OV Wh.q1 Wh.q1':=eA _
def Wh.q4 (xs:(List (an.D))×(Unit)):Option ((Unit)×((List (an.D))×Unit)):=
 let w9:List (an.D):=xs.1
 let v_2:Int:=(↑(List.length w9):Int)
 let r_3:=Wh.qX (IntKind.wrap .u64 v_2)
 let gz:Unit×List (an.D)×Unit:=Wh.q1' (w9,(0:Int),v_2,r_3.1,())
 bif iy [nQ (Wh.q1 (w9,(0:Int),v_2,r_3.1,())),nQ (Wh.bits_Len (IntKind.wrap .u64 v_2))] then
  some ((),gz.2.1,())
 else none
def Wh.q4':=ct Wh.q4
theorem Wh.q4_v:OV Wh.q4 Wh.q4':=eA _
def Wh.Bz (xs:(bn.D)×(Int)×(List UInt8)×(List UInt8)):Option ((((Int)×((List (an.D))×(Unit)))×(Int))×(Unit)):=
 let fk:bn.D:=xs.1
 let nW:=xs.2.1
 let xO:=xs.2.2.1
 let AX:=xs.2.2.2
 let gz:(bn.D)×Unit:=Wh.Fe fk
 bif iy [nQ (Wh.Bt fk)] then
  let x4:=Wh.q14' (nW,xO,AX)
  bif iy [nQ (Wh.q14 (nW,xO,AX))] then
   bif !x4.1 then
    some ((gz.1,(1:Int)),())
   else
    let yp:=Wh.IQ (fk,nW,xO)
    bif iy [nQ (Wh.An (fk,nW,xO))] then
     bif decide (yp.1≥(0:Int)) then
      some ((gz.1,(2:Int)),())
     else
      let xV:Int:=(↑(List.length fk.2.1):Int)
      let r_14:=Wh.q21' (fk,nW)
      let ov:=bif bif xV==(8:Int) then true else fk.1==(99999:Int) then true else decide (IntKind.wrap .i64 (r_14.1+(↑(List.length AX):Int))>(500:Int))
      bif iy [(!!bif xV==(8:Int) then true else fk.1==(99999:Int)) || nQ (Wh.q21 (fk,nW))] then
       bif ov then
        some ((gz.1,(4:Int)),())
       else
        let CY:=IntKind.wrap .i64 (gz.1.1+(1:Int))
        let pb_18:List (an.D):=[(nW,xO,CY,AX,())]
        let pb_19:List (an.D):=gz.1.2.1++pb_18
        bif iy [decide (List.length (gz.1.2.1)+(1:Nat)≤dh)] then
         let xZ:Unit×List (an.D)×Unit:=Wh.q4' (pb_19,())
         bif iy [nQ (Wh.q4 (pb_19,()))] then
          let Fp:(bn.D)×Unit:=Wh.Fe (CY,xZ.2.1,gz.1.2.2)
          bif iy [nQ (Wh.Bt (CY,xZ.2.1,gz.1.2.2))] then
           some ((Fp.1,(0:Int)),())
          else none
         else none
        else none
      else none
    else none
  else none
 else none
def Wh.q55':=ct Wh.Bz
theorem Wh.q55_v:OV Wh.Bz Wh.q55':=eA _
def Wh.q20 (xs:(bn.D)×(List UInt8)):Option ((((Int)×((List (an.D))×(Unit)))×(Bool))×(Unit)):=
 let fk:bn.D:=xs.1
 let yq:=xs.2
 let r_2:(List UInt8×List UInt8×Bool)×Unit:=Wh.tK (yq,[(58:UInt8)])
 bif iy [nQ (Wh.strings_Cut (yq,[(58:UInt8)]))] then
  let r_3:(List UInt8×List UInt8×Bool)×Unit:=Wh.tK (r_2.1.1,[(32:UInt8)])
  bif iy [nQ (Wh.strings_Cut (r_2.1.1,[(32:UInt8)]))] then
   let gz:(Int×Bool)×Unit:=Wh.rW r_3.1.1
   bif iy [nQ (Wh.rV r_3.1.1)] then
    let s_:=yq == []
    let yp:xR.D:=Wh.q19' (gz.1.1,r_3.1.2.1,r_2.1.2.1)
    let yI:=bif s_ then true else !yp.1==yq
    bif iy [!!s_ || nQ (Wh.q19 (gz.1.1,r_3.1.2.1,r_2.1.2.1))] then
     bif yI then
      some ((((0:Int),[],()),false),())
     else
      let yG:((bn.D)×Int)×Unit:=Wh.q33' (fk,gz.1.1,r_3.1.2.1)
      bif iy [nQ (Wh.q33 (fk,gz.1.1,r_3.1.2.1))] then
       bif(!r_2.1.2.1 == []) then
        let AR:((bn.D)×Int)×Unit:=Wh.q55' (fk,gz.1.1,r_3.1.2.1,r_2.1.2.1)
        bif iy [nQ (Wh.Bz (fk,gz.1.1,r_3.1.2.1,r_2.1.2.1))] then
         some ((AR.1.1,(AR.1.2==(0:Int))),())
        else none
       else
        some ((yG.1.1,(yG.1.2==(0:Int))),())
      else none
    else none
   else none
  else none
 else none
def Wh.q20':=ct Wh.q20
theorem Wh.Md:OV Wh.q20 Wh.q20':=eA _
abbrev Wh.LJ:Type:=((Unit)×(Int)×(Unit)×(List (List UInt8))×(Int))×(((Int)×((Unit)×(Unit)))×((Int)×((Unit)×(Unit)))×(List (an.D))×(List (an.D)))
abbrev Wh.TR:Type:=((((Unit)×(Bool))×(((Int)×((Unit)×(Unit)))×(List (an.D))))⊕(((Unit)×(Unit))×(((Int)×((Unit)×(Unit)))×((Int)×((Unit)×(Unit)))×(List (an.D))×(List (an.D)))))
def Wh.Bb (x:Wh.LJ):Option (Wh.LJ⊕Wh.TR):=
 let ov:=x.1.2.1
 let s4:List (List UInt8):=x.1.2.2.2.1
 let n4:=x.1.2.2.2.2
 let th:=x.2.1.1
 let yK:=x.2.1.2.2
 let yx:=x.2.2.1.1
 let yy:Unit:=(x.2.2.1).2.2
 let yW:List (an.D):=(x.2.2.2).1
 let Ai:List (an.D):=x.2.2.2.2
 bif decide (ov<n4) then
  let yQ:=List.getD s4 (Int.toNat ov) []
  bif iy [decide ((0:Int)≤ov),decide (ov<(↑(List.length s4):Int))] then
   let CA:((bn.D)×Bool)×Unit:=Wh.q20' ((yx,Ai,yy),yQ)
   bif iy [nQ (Wh.q20 ((yx,Ai,yy),yQ))] then
    bif(!CA.1.2) then
     some (.inr (.inl (((),false),((0:Int),(),()),[])))
    else
     some (.inl (((),(IntKind.wrap .i64 (ov+(1:Int))),(),s4,n4),(th,(),yK),(CA.1.1.1,(),CA.1.1.2.2),yW,(CA.1.1.2).1))
   else none
  else none
 else
  some (.inr (.inr (((),()),(th,(),yK),(yx,(),yy),yW,Ai)))
def Wh.PZ:(((Unit)×(Bool))×(((Int)×((Unit)×(Unit)))×(List (an.D))))⊕(((Unit)×(Unit))×(((Int)×((Unit)×(Unit)))×((Int)×((Unit)×(Unit)))×(List (an.D))×(List (an.D)))):=.inl default
def Wh.C4 (xs:(List (List UInt8))):Option ((((Int)×((List (an.D))×(Unit)))×(Bool))×(Unit)):=
 let I_:List (List UInt8):=xs
 let v_1:Int:=(↑(List.length I_):Int)
 let x_30:Wh.LJ:=(((),(0:Int),(),I_,v_1),((0:Int),(),()),((0:Int),(),()),[],[])
 bif lF Wh.Bb x_30 then
  sumC (kG Wh.Bb Wh.PZ x_30) (fun Jk=>
   let BR:=Jk.1.2
   let tn:=Jk.2.1.1
   let zw:=Jk.2.1.2.2
   let La:List (an.D):=Jk.2.2
   some (((tn,La,zw),BR),())) (fun z_32=>
   let B7:=z_32.2.2.1.1
   let ls_40:Unit:=(z_32.2.2.1).2.2
   let Ij:List (an.D):=z_32.2.2.2.2
   some (((B7,Ij,ls_40),true),()))
 else none
def Wh.LI:=ct Wh.C4
theorem Wh.P0:OV Wh.C4 Wh.LI:=eA _
abbrev Wh.LR:Type:=((Int)×(List (an.D))×(List (an.D))×(Int))×(Unit)
abbrev Wh.TU:Type:=((((Bool))×(Unit))⊕((Unit)×(Unit)))
def Wh.Bd (x:Wh.LR):Option (Wh.LR⊕Wh.TU):=
 let ng:=x.1.1
 let Nl:List (an.D):=x.1.2.1
 let Nk:List (an.D):=(x.1.2.2).1
 let s4:=x.1.2.2.2
 bif decide (ng<s4) then
  let mw:an.D:=List.getD Nk (Int.toNat ng) ((0:Int),[],(0:Int),[],())
  let nc:an.D:=List.getD Nl (Int.toNat ng) ((0:Int),[],(0:Int),[],())
  bif iy [decide ((0:Int)≤ng),decide (ng<(↑(List.length Nl):Int)),decide ((0:Int)≤ng),decide (ng<(↑(List.length Nk):Int))] then
   bif(!(mw.1==nc.1&&(mw.2.1==nc.2.1&&(mw.2.2.1==nc.2.2.1&&((mw.2.2.2).1==(nc.2.2.2).1&&true))))) then
    some (.inr (.inl (false,())))
   else
    some (.inl (((IntKind.wrap .i64 (ng+(1:Int))),Nl,Nk,s4),()))
  else none
 else
  some (.inr (.inr ((),())))
def Wh.P7:(((Bool))×(Unit))⊕((Unit)×(Unit)):=.inl default
def Wh.q10 (xs:(List (an.D))×(List (an.D))):Option (((Bool))×(Unit)):=
 let s1_0:List (an.D):=xs.1
 let s2_1:List (an.D):=xs.2
 let v_2:Int:=(↑(List.length s1_0):Int)
 let nE:Int:=(↑(List.length s2_1):Int)
 let xU:=v_2 != nE
 bif xU then
  some (false,())
 else
  let x_23:Wh.LR:=(((0:Int),s2_1,s1_0,v_2),())
  bif lF Wh.Bd x_23 then
   sumC (kG Wh.Bd Wh.P7 x_23) (fun y_24=>
    let yQ:=y_24.1
    some (yQ,())) (fun _=>
    some (true,()))
  else none
def Wh.q10':=ct Wh.q10
theorem Wh.q10_v:OV Wh.q10 Wh.q10':=eA _
def Wh.q62 (xs:(bn.D)×(bn.D)):Option (((Bool))×(Unit)):=
 let bx:bn.D:=xs.1
 let b_1:bn.D:=xs.2
 let v_2:=bx.1==b_1.1
 let r_3:=Wh.q10' (bx.2.1,b_1.2.1)
 let s_:=bif v_2 then r_3.1 else false
 bif iy [!v_2 || nQ (Wh.q10 (bx.2.1,b_1.2.1))] then
  some (s_,())
 else none
def Wh.q62':=ct Wh.q62
theorem Wh.q62_v:OV Wh.q62 Wh.q62':=eA _
abbrev Wh.Mf:Type:=((Int)×(Int)×(Int)×(List (e_.D))×(Int))×(Unit)
abbrev Wh.T9:Type:=((((Int))×(Unit))⊕((Unit)×(Unit)))
def Wh.Bo (x:Wh.Mf):Option (Wh.Mf⊕Wh.T9):=
 let ng:=x.1.1
 let NR:=x.1.2.1
 let EL:Int:=(x.1.2.2).1
 let s4:List (e_.D):=x.1.2.2.2.1
 let n4:=x.1.2.2.2.2
 bif decide (ng<n4) then
  let E4:e_.D:=List.getD s4 (Int.toNat ng) ((0:Int),(0:Int),(0:Int),(0:Int),false,())
  bif iy [decide ((0:Int)≤ng),decide (ng<(↑(List.length s4):Int))] then
   let Ac:=bif(E4.2.1==EL) then E4.2.2.1==NR else false
   bif Ac then
    some (.inr (.inl (ng,())))
   else
    some (.inl (((IntKind.wrap .i64 (ng+(1:Int))),NR,EL,s4,n4),()))
  else none
 else
  some (.inr (.inr ((),())))
def Wh.Qm:(((Int))×(Unit))⊕((Unit)×(Unit)):=.inl default
def Wh.q22 (xs:(fT.D)×(Int)×(Int)):Option (((Int))×(Unit)):=
 let r5:fT.D:=xs.1
 let DO:=xs.2.1
 let RG:=xs.2.2
 let nE:Int:=(↑(List.length r5.1):Int)
 let x_24:Wh.Mf:=(((0:Int),RG,DO,r5.1,nE),())
 bif lF Wh.Bo x_24 then
  sumC (kG Wh.Bo Wh.Qm x_24) (fun y_25=>
   let FC:=y_25.1
   some (FC,())) (fun _=>
   some ((-1:Int),()))
 else none
def Wh.q22':=ct Wh.q22
theorem Wh.q22_v:OV Wh.q22 Wh.q22':=eA _
abbrev Wh.MK:Type:=((Int)×(Int)×(Int)×(List (e_.D))×(Int))×(Unit)
abbrev Wh.Ux:Type:=((((Int))×(Unit)))
def Wh.BA (x:Wh.MK):Option (Wh.MK⊕Wh.Ux):=
 let w8:=x.1.1
 let CV:=x.1.2.1
 let CM:Int:=(x.1.2.2).1
 let n4:List (e_.D):=x.1.2.2.2.1
 let mw:=x.1.2.2.2.2
 bif decide (w8<mw) then
  let pb_21:e_.D:=List.getD n4 (Int.toNat w8) ((0:Int),(0:Int),(0:Int),(0:Int),false,())
  bif iy [decide ((0:Int)≤w8),decide (w8<(↑(List.length n4):Int))] then
   let AZ:=bif decide (pb_21.2.1>(0:Int)) then pb_21.1==CM else false
   bif AZ then
    some (.inl (((IntKind.wrap .i64 (w8+(1:Int))),(IntKind.wrap .i64 (CV+(1:Int))),CM,n4,mw),()))
   else
    some (.inl (((IntKind.wrap .i64 (w8+(1:Int))),CV,CM,n4,mw),()))
  else none
 else
  some (.inr (CV,()))
def Wh.QN:(((Int))×(Unit)):=default
def Wh.q59 (xs:(fT.D)×(Int)):Option (((Int))×(Unit)):=
 let r5:fT.D:=xs.1
 let nW:=xs.2
 let v_2:Int:=(↑(List.length r5.1):Int)
 let FL:Wh.MK:=(((0:Int),(0:Int),nW,r5.1,v_2),())
 bif lF Wh.BA FL then
  let DE:=kG Wh.BA Wh.QN FL
  let n_29:=DE.1
  some (n_29,())
 else none
def Wh.q59':=ct Wh.q59
theorem Wh.D_:OV Wh.q59 Wh.q59':=eA _
abbrev Wh.M3:Type:=((Int)×(Unit))×((fT.D))
abbrev Wh.UL:Type:=((((Bool))×(Unit))⊕((Unit)×(Unit)))
def Wh.AL (x:Wh.M3):Option (Wh.M3⊕Wh.UL):=
 let Eg:=x.1.1
 let Lg:fT.D:=x.2
 bif decide (Eg<(2:Int)) then
  let I5:=Wh.q59' (Lg,Eg)
  bif iy [nQ (Wh.q59 (Lg,Eg))] then
   bif decide (I5.1>(5:Int)) then
    some (.inr (.inl (false,())))
   else
    some (.inl (((IntKind.wrap .i64 (Eg+(1:Int))),()),Lg))
  else none
 else
  some (.inr (.inr ((),())))
def Wh.Q1:(((Bool))×(Unit))⊕((Unit)×(Unit)):=.inl default
abbrev Wh.M1:Type:=((Int)×(Unit)×(List (e_.D))×(Int))×((fT.D))
abbrev Wh.UK:Type:=((((Bool))×(Unit))⊕(((Unit))×((fT.D))))
def Wh.AK (x:Wh.M1):Option (Wh.M1⊕Wh.UK):=
 let nG:=x.1.1
 let A0:List (e_.D):=(x.1.2.2).1
 let FD:=x.1.2.2.2
 let yz:fT.D:=x.2
 bif decide (nG<FD) then
  let yj:e_.D:=List.getD A0 (Int.toNat nG) ((0:Int),(0:Int),(0:Int),(0:Int),false,())
  bif iy [decide ((0:Int)≤nG),decide (nG<(↑(List.length A0):Int))] then
   bif(yj.2.1==(0:Int)) then
    bif(!(yj.1==(0:Int)&&(yj.2.1==(0:Int)&&(yj.2.2.1==(0:Int)&&((yj.2.2.2).1==(0:Int)&&(yj.2.2.2.2.1==false&&true)))))) then
     some (.inr (.inl (false,())))
    else
     some (.inl (((IntKind.wrap .i64 (nG+(1:Int))),(),A0,FD),yz))
   else
    let Fs:=Wh.E8 yj.1
    let BN:=Wh.x_ (yj.2.1,(1:Int),(99999:Int))
    let BO:=Wh.x_ (yj.2.2.1,(0:Int),(23:Int))
    let Fu:=Wh.x_ ((yj.2.2.2).1,(0:Int),(99999:Int))
    let Fv:=Wh.q22' (yz,yj.2.1,yj.2.2.1)
    let v_48:=bif bif bif bif !Fs.1 then true else !BN.1 then true else !BO.1 then true else !Fu.1 then true else Fv.1 != nG
    bif iy [(!!bif bif bif !Fs.1 then true else !BN.1 then true else !BO.1 then true else !Fu.1) || nQ (Wh.q22 (yz,yj.2.1,yj.2.2.1)),(!!bif bif !Fs.1 then true else !BN.1 then true else !BO.1) || nQ (Wh.vT ((yj.2.2.2).1,(0:Int),(99999:Int))),(!!bif !Fs.1 then true else !BN.1) || nQ (Wh.vT (yj.2.2.1,(0:Int),(23:Int))),!!!Fs.1 || nQ (Wh.vT (yj.2.1,(1:Int),(99999:Int))),nQ (Wh.zL yj.1)] then
     bif v_48 then
      some (.inr (.inl (false,())))
     else
      some (.inl (((IntKind.wrap .i64 (nG+(1:Int))),(),A0,FD),yz))
    else none
  else none
 else
  some (.inr (.inr ((),yz)))
def Wh.Q0:(((Bool))×(Unit))⊕(((Unit))×((fT.D))):=.inl default
def Wh.q80 (xs:(fT.D)):Option (((Bool))×(Unit)):=
 let r5:fT.D:=xs
 let v_1:Int:=(↑(List.length r5.1):Int)
 let gz:=Wh.x_ (r5.2.1,(0:Int),(7:Int))
 let s_:=bif v_1 != (8:Int) then true else !gz.1
 bif iy [!!v_1 != (8:Int) || nQ (Wh.vT (r5.2.1,(0:Int),(7:Int)))] then
  bif s_ then
   some (false,())
  else
   let x_50:Wh.M1:=(((0:Int),(),r5.1,v_1),r5)
   bif lF Wh.AK x_50 then
    sumC (kG Wh.AK Wh.Q0 x_50) (fun y_51=>
     let Ef:=y_51.1
     some (Ef,())) (fun z_52=>
     let Ld:fT.D:=z_52.2
     let x_67:Wh.M3:=(((0:Int),()),Ld)
     bif lF Wh.AL x_67 then
      sumC (kG Wh.AL Wh.Q1 x_67) (fun y_68=>
       let v_70:=y_68.1
       some (v_70,())) (fun _=>
       some (true,()))
     else none)
   else none
 else none
def Wh.q80':=ct Wh.q80
theorem Wh.M4:OV Wh.q80 Wh.q80':=eA _
def Wh.Eb (xs:(an.D)×(Int)):Option (((Bool))×(Unit)):=
 let i_0:an.D:=xs.1
 let v_1:=xs.2
 some ((i_0.2.2.1==v_1),())
def Wh.q8':=ct Wh.Eb
theorem Wh.q8_v:OV Wh.Eb Wh.q8':=eA _
abbrev Wh.Ml:Type:=((Int)×(List (an.D))×((Int)×(Unit))×(Int))×(Unit)
abbrev Wh.q2_l0Y:Type:=((((Int))×(Unit))⊕((Unit)×(Unit)))
def Wh.Bq (x:Wh.Ml):Option (Wh.Ml⊕Wh.q2_l0Y):=
 let yP:=x.1.1
 let Dv:List (an.D):=x.1.2.1
 let f_13:Int:=(x.1.2.2).1.1
 let ng:=x.1.2.2.2
 bif decide (yP<ng) then
  let ov:an.D:=List.getD Dv (Int.toNat yP) ((0:Int),[],(0:Int),[],())
  let Ap:=Wh.q8' (ov,f_13)
  bif iy [nQ (Wh.Eb (ov,f_13)),decide ((0:Int)≤yP),decide (yP<(↑(List.length Dv):Int))] then
   bif Ap.1 then
    some (.inr (.inl (yP,())))
   else
    some (.inl (((IntKind.wrap .i64 (yP+(1:Int))),Dv,(f_13,()),ng),()))
  else none
 else
  some (.inr (.inr ((),())))
def Wh.Qr:(((Int))×(Unit))⊕((Unit)×(Unit)):=.inl default
def Wh.q2 (xs:(List (an.D))×((Int)×(Unit))):Option (((Int))×(Unit)):=
 let fe:List (an.D):=xs.1
 let f_1:=xs.2
 let v_2:Int:=(↑(List.length fe):Int)
 let x_19:Wh.Ml:=(((0:Int),fe,(f_1.1,()),v_2),())
 bif lF Wh.Bq x_19 then
  sumC (kG Wh.Bq Wh.Qr x_19) (fun y_20=>
   let Ac:=y_20.1
   some (Ac,())) (fun _=>
   some ((-1:Int),()))
 else none
def Wh.Bl:=ct Wh.q2
theorem Wh.q2_v:OV Wh.q2 Wh.Bl:=eA _
def Wh.Bj (xs:(bn.D)×(Int)):Option (((Int))×(Unit)):=
 let fk:bn.D:=xs.1
 let DO:=xs.2
 let r_2:=Wh.Bl (fk.2.1,DO,())
 bif iy [nQ (Wh.q2 (fk.2.1,DO,()))] then
  some (r_2.1,())
 else none
def Wh.IK:=ct Wh.Bj
theorem Wh.Dc:OV Wh.Bj Wh.IK:=eA _
def Wh.Bk (xs:(xS.D)):Option (((Int))×(Unit)):=
 let r5:xS.D:=xs
 bif iy [r5.2.1 != (0:Int)] then
  some ((IntKind.wrap .i64 (Int.tdiv (IntKind.wrap .i64 ((IntKind.wrap .i64 (r5.1+r5.2.1))-(1:Int))) r5.2.1)),())
 else none
def Wh.D8:=ct Wh.Bk
theorem Wh.q17_v:OV Wh.Bk Wh.D8:=eA _
abbrev Wh.MJ:Type:=((Unit)×(Unit))×(((Int)×((Int)×((Unit)×((Unit)×(Unit)))))×((Int)×((Int)×((Unit)×((Unit)×(Unit)))))×(List (Int))×(List (Int))×(List (Int))×(List (Int)))
abbrev Wh.Uw:Type:=((((Unit)×(Unit))×(((Int)×((Int)×((Unit)×((Unit)×(Unit)))))×((Int)×((Int)×((Unit)×((Unit)×(Unit)))))×(List (Int))×(List (Int))×(List (Int))×(List (Int)))))
def Wh.Fh (x:Wh.MJ):Option (Wh.MJ⊕Wh.Uw):=
 let w7:=x.2.1.1
 let z8:Int:=(x.2.1.2).1
 let xe:Unit:=(x.2.1.2.2.2).2
 let nP:=x.2.2.1.1
 let th:Int:=(x.2.2.1).2.1
 let yK:Unit:=(x.2.2.1).2.2.2.2
 let yx:List Int:=(x.2.2.2).1
 let yy:=x.2.2.2.2.1
 let yW:List Int:=(x.2.2.2.2.2).1
 let Ai:List Int:=(x.2.2.2.2.2).2
 let AU:=Wh.D8 (w7,z8,yx,yy,xe)
 bif iy [nQ (Wh.Bk (w7,z8,yx,yy,xe))] then
  bif decide (AU.1>(24:Int)) then
   some (.inl (((),()),(w7,(IntKind.wrap .i64 (z8+(1:Int))),(),(),xe),(nP,th,(),(),yK),yx,yy,yW,Ai))
  else
   some (.inr (((),()),(nP,th,(),(),yK),(w7,z8,(),(),xe),yW,Ai,yx,yy))
 else none
def Wh.QM:(((Unit)×(Unit))×(((Int)×((Int)×((Unit)×((Unit)×(Unit)))))×((Int)×((Int)×((Unit)×((Unit)×(Unit)))))×(List (Int))×(List (Int))×(List (Int))×(List (Int)))):=default
def Wh.q58 (xs:(Int)):Option ((((Int)×((Int)×((List (Int))×((List (Int))×(Unit))))))×(Unit)):=
 let EW:=xs
 let r_1:=Wh.x_ (EW,(1:Int),(300:Int))
 bif iy [nQ (Wh.vT (EW,(1:Int),(300:Int)))] then
  bif !r_1.1 then
   some (((0:Int),(0:Int),[],[],()),())
  else
   let zE:Wh.MJ:=(((),()),(EW,(8:Int),(),(),()),((0:Int),(0:Int),(),(),()),[],[],[],[])
   bif lF Wh.Fh zE then
    let y2:=kG Wh.Fh Wh.QM zE
    let za:=y2.2.2.1.1
    let tn:Int:=(y2.2.2.1).2.1
    let zw:Unit:=(y2.2.2.1).2.2.2.2
    let yD:List Int:=(y2.2.2.2.2.2).1
    let B7:List Int:=(y2.2.2.2.2.2).2
    let I1:=Wh.D8 (za,tn,yD,B7,zw)
    bif iy [nQ (Wh.Bk (za,tn,yD,B7,zw))] then
     let k_43:=IntKind.wrap .i64 (Int.tdiv (IntKind.wrap .i64 (I1.1+(3:Int))) (4:Int))
     bif decide (k_43<I1.1) then
      let LA:List Int:=[k_43,I1.1]
      some ((za,tn,LA,[(2:Int),(3:Int)],zw),())
     else
      let Az:List Int:=[I1.1]
      some ((za,tn,Az,[(1:Int)],zw),())
    else none
   else none
 else none
def Wh.q58':=ct Wh.q58
theorem Wh.q58_v:OV Wh.q58 Wh.q58':=eA _
abbrev Wh.Mp:Type:=((Int)×(Unit)×(List (e_.D))×(Int))×((bn.D))
abbrev Wh.Uf:Type:=((((Bool))×(Unit))⊕((Unit)×(Unit)))
def Wh.zN (x:Wh.Mp):Option (Wh.Mp⊕Wh.Uf):=
 let yH:=x.1.1
 let As:List (e_.D):=(x.1.2.2).1
 let yQ:=x.1.2.2.2
 let ye:bn.D:=x.2
 bif decide (yH<yQ) then
  let zA:e_.D:=List.getD As (Int.toNat yH) ((0:Int),(0:Int),(0:Int),(0:Int),false,())
  bif iy [decide ((0:Int)≤yH),decide (yH<(↑(List.length As):Int))] then
   bif(zA.2.1==(0:Int)) then
    some (.inl (((IntKind.wrap .i64 (yH+(1:Int))),(),As,yQ),ye))
   else
    let nS:=Wh.IK (ye,zA.2.1)
    bif iy [nQ (Wh.Bj (ye,zA.2.1))] then
     let z_:(xS.D)×Unit:=Wh.q58' (↑(List.length (Prod.fst (Prod.snd (Prod.snd (Prod.snd (List.getD ye.2.1 (Int.toNat nS.1) ((0:Int),[],(0:Int),[],()))))))):Int)
     let x7:=decide ((zA.2.2.2).1>(0:Int))
     let BO:=Wh.D8 (z_.1.1,z_.1.2.1,bif !bif bif x7 then true else decide (nS.1<(0:Int)) then true else Prod.fst (List.getD ye.2.1 (Int.toNat nS.1) ((0:Int),[],(0:Int),[],())) != zA.1 then(z_.1.2.2).1 else [],bif !bif bif x7 then true else decide (nS.1<(0:Int)) then true else Prod.fst (List.getD ye.2.1 (Int.toNat nS.1) ((0:Int),[],(0:Int),[],())) != zA.1 then z_.1.2.2.2.1 else [],z_.1.2.2.2.2)
     let FG:=bif bif bif x7 then true else decide (nS.1<(0:Int)) then true else Prod.fst (List.getD ye.2.1 (Int.toNat nS.1) ((0:Int),[],(0:Int),[],())) != zA.1 then true else decide (zA.2.2.1≥BO.1)
     bif iy [(!!bif bif x7 then true else decide (nS.1<(0:Int)) then true else Prod.fst (List.getD ye.2.1 (Int.toNat nS.1) ((0:Int),[],(0:Int),[],())) != zA.1) || nQ (Wh.Bk (z_.1.1,z_.1.2.1,bif !bif bif x7 then true else decide (nS.1<(0:Int)) then true else Prod.fst (List.getD ye.2.1 (Int.toNat nS.1) ((0:Int),[],(0:Int),[],())) != zA.1 then(z_.1.2.2).1 else [],bif !bif bif x7 then true else decide (nS.1<(0:Int)) then true else Prod.fst (List.getD ye.2.1 (Int.toNat nS.1) ((0:Int),[],(0:Int),[],())) != zA.1 then z_.1.2.2.2.1 else [],z_.1.2.2.2.2)),(!!bif bif x7 then true else decide (nS.1<(0:Int)) then true else Prod.fst (List.getD ye.2.1 (Int.toNat nS.1) ((0:Int),[],(0:Int),[],())) != zA.1) || nQ (Wh.q58 (↑(List.length (Prod.fst (Prod.snd (Prod.snd (Prod.snd (List.getD ye.2.1 (Int.toNat nS.1) ((0:Int),[],(0:Int),[],()))))))):Int)),(!!bif bif x7 then true else decide (nS.1<(0:Int)) then true else Prod.fst (List.getD ye.2.1 (Int.toNat nS.1) ((0:Int),[],(0:Int),[],())) != zA.1) || decide ((0:Int)≤nS.1),(!!bif bif x7 then true else decide (nS.1<(0:Int)) then true else Prod.fst (List.getD ye.2.1 (Int.toNat nS.1) ((0:Int),[],(0:Int),[],())) != zA.1) || decide (nS.1<(↑(List.length ye.2.1):Int)),(!!bif x7 then true else decide (nS.1<(0:Int))) || decide ((0:Int)≤nS.1),(!!bif x7 then true else decide (nS.1<(0:Int))) || decide (nS.1<(↑(List.length ye.2.1):Int))] then
      bif FG then
       some (.inr (.inl (false,())))
      else
       some (.inl (((IntKind.wrap .i64 (yH+(1:Int))),(),As,yQ),ye))
     else none
    else none
  else none
 else
  some (.inr (.inr ((),())))
def Wh.Qu:(((Bool))×(Unit))⊕((Unit)×(Unit)):=.inl default
def Wh.q37 (xs:(fT.D)×(bn.D)):Option (((Bool))×(Unit)):=
 let r5:fT.D:=xs.1
 let c_1:bn.D:=xs.2
 let r_2:=Wh.q80' r5
 bif iy [nQ (Wh.q80 r5)] then
  bif !r_2.1 then
   some (false,())
  else
   let nE:Int:=(↑(List.length r5.1):Int)
   let x_44:Wh.Mp:=(((0:Int),(),r5.1,nE),c_1)
   bif lF Wh.zN x_44 then
    sumC (kG Wh.zN Wh.Qu x_44) (fun y_45=>
     let v_47:=y_45.1
     some (v_47,())) (fun _=>
     some (true,()))
   else none
 else none
def Wh.q37':=ct Wh.q37
theorem Wh.q37_v:OV Wh.q37 Wh.q37':=eA _
def Wh.q31 (xs:(fN.D)):Option (((Bool))×(Unit)):=
 let xX:fN.D:=xs
 let r_1:=Wh.x_ (xX.2.1,(0:Int),(99999:Int))
 let r_2:=Wh.x_ (xX.2.2.1,(0:Int),(99999:Int))
 let x4:=Wh.x_ (xX.1,(0:Int),xX.2.1)
 let yG:=Wh.x_ ((xX.2.2.2).1,(0:Int),(99999:Int))
 let zi:=bif bif bif r_1.1 then r_2.1 else false then x4.1 else false then yG.1 else false
 bif iy [(!bif bif r_1.1 then r_2.1 else false then x4.1 else false) || nQ (Wh.vT ((xX.2.2.2).1,(0:Int),(99999:Int))),(!bif r_1.1 then r_2.1 else false) || nQ (Wh.vT (xX.1,(0:Int),xX.2.1)),!r_1.1 || nQ (Wh.vT (xX.2.2.1,(0:Int),(99999:Int))),nQ (Wh.vT (xX.2.1,(0:Int),(99999:Int)))] then
  some (zi,())
 else none
def Wh.q31':=ct Wh.q31
theorem Wh.q31_v:OV Wh.q31 Wh.q31':=eA _
def Wh.q35 (xs:(Int)):Option (((Bool))×(Unit)):=
 let xN:=xs
 let r_1:=Wh.x_ (xN,(0:Int),(3:Int))
 bif iy [nQ (Wh.vT (xN,(0:Int),(3:Int)))] then
  some (r_1.1,())
 else none
def Wh.q35':=ct Wh.q35
theorem Wh.Mo:OV Wh.q35 Wh.q35':=eA _
def Wh.q60 (xs:(Int)):Option (((Int))×(Unit)):=
 let KJ:=xs
 some ((Int.tmod KJ (2:Int)),())
def Wh.q60':=ct Wh.q60
theorem Wh.ML:OV Wh.q60 Wh.q60':=eA _
abbrev Wh.Mn:Type:=((Int)×(Unit)×(List (gd.D))×(Int))×((eB.D))
abbrev Wh.Ue:Type:=((((Bool))×(Unit))⊕((Unit)×(Unit)))
def Wh.AH (x:Wh.Mn):Option (Wh.Mn⊕Wh.Ue):=
 let Ad:=x.1.1
 let v_89:List (gd.D):=(x.1.2.2).1
 let Jj:=x.1.2.2.2
 let zy:eB.D:=x.2
 bif decide (Ad<Jj) then
  let yl:gd.D:=List.getD v_89 (Int.toNat Ad) ((0:Int),(0:Int),(0:Int),(0:Int),(0:Int),(0:Int),())
  bif iy [decide ((0:Int)≤Ad),decide (Ad<(↑(List.length v_89):Int))] then
   let Eh:=decide (Ad>(0:Int))
   let r_97:=Wh.q35' yl.1
   let r_100:=Wh.x_ (yl.2.1,(1:Int),(99999:Int))
   let Ni:=Wh.x_ (yl.2.2.1,(1:Int),(zy.2.2.2).1.1)
   let v_104:=bif bif bif bif Eh then decide (Prod.fst (List.getD ((zy.2.2.2.2.2).2.1) (Int.toNat (IntKind.wrap .i64 (Ad-(1:Int)))) ((0:Int),(0:Int),(0:Int),(0:Int),(0:Int),(0:Int),()))≥yl.1) else false then true else !r_97.1 then true else !r_100.1 then true else !Ni.1
   bif iy [(!!bif bif bif Eh then decide (Prod.fst (List.getD ((zy.2.2.2.2.2).2.1) (Int.toNat (IntKind.wrap .i64 (Ad-(1:Int)))) ((0:Int),(0:Int),(0:Int),(0:Int),(0:Int),(0:Int),()))≥yl.1) else false then true else !r_97.1 then true else !r_100.1) || nQ (Wh.vT (yl.2.2.1,(1:Int),(zy.2.2.2).1.1)),(!!bif bif Eh then decide (Prod.fst (List.getD ((zy.2.2.2.2.2).2.1) (Int.toNat (IntKind.wrap .i64 (Ad-(1:Int)))) ((0:Int),(0:Int),(0:Int),(0:Int),(0:Int),(0:Int),()))≥yl.1) else false then true else !r_97.1) || nQ (Wh.vT (yl.2.1,(1:Int),(99999:Int))),(!!bif Eh then decide (Prod.fst (List.getD ((zy.2.2.2.2.2).2.1) (Int.toNat (IntKind.wrap .i64 (Ad-(1:Int)))) ((0:Int),(0:Int),(0:Int),(0:Int),(0:Int),(0:Int),()))≥yl.1) else false) || nQ (Wh.q35 yl.1),!Eh || decide ((0:Int)≤IntKind.wrap .i64 (Ad-(1:Int))),!Eh || decide (IntKind.wrap .i64 (Ad-(1:Int))<(↑(List.length ((zy.2.2.2.2.2).2.1)):Int))] then
    bif v_104 then
     some (.inr (.inl (false,())))
    else
     let IY:=Wh.IK ((zy.2.2.2).1,yl.2.2.1)
     bif iy [nQ (Wh.Bj ((zy.2.2.2).1,yl.2.2.1))] then
      let Jf:=decide (IY.1≥(0:Int))
      let r_107:=Wh.q60' yl.1
      let AY:=bif Jf then Prod.fst (List.getD ((zy.2.2.2).1.2.1) (Int.toNat IY.1) ((0:Int),[],(0:Int),[],())) != r_107.1 else false
      bif iy [!Jf || nQ (Wh.q60 yl.1),!Jf || decide ((0:Int)≤IY.1),!Jf || decide (IY.1<(↑(List.length ((zy.2.2.2).1.2.1)):Int))] then
       bif AY then
        some (.inr (.inl (false,())))
       else
        let Fm:=Wh.x_ ((yl.2.2.2).1,(0:Int),(9999:Int))
        let r_110:=Wh.x_ (yl.2.2.2.2.1,(0:Int),(3:Int))
        let r_113:=Wh.x_ ((yl.2.2.2.2.2).1,(0:Int),zy.2.1)
        let v_114:=bif bif !Fm.1 then true else !r_110.1 then true else !r_113.1
        bif iy [(!!bif !Fm.1 then true else !r_110.1) || nQ (Wh.vT ((yl.2.2.2.2.2).1,(0:Int),zy.2.1)),!!!Fm.1 || nQ (Wh.vT (yl.2.2.2.2.1,(0:Int),(3:Int))),nQ (Wh.vT ((yl.2.2.2).1,(0:Int),(9999:Int)))] then
         bif v_114 then
          some (.inr (.inl (false,())))
         else
          some (.inl (((IntKind.wrap .i64 (Ad+(1:Int))),(),v_89,Jj),zy))
        else none
      else none
     else none
   else none
  else none
 else
  some (.inr (.inr ((),())))
def Wh.Qt:(((Bool))×(Unit))⊕((Unit)×(Unit)):=.inl default
abbrev Wh.Mm:Type:=((Int)×(Unit)×(List (fN.D))×(Int))×((eB.D))
abbrev Wh.Ud:Type:=((((Bool))×(Unit))⊕(((Unit))×((eB.D))))
def Wh.Br (x:Wh.Mm):Option (Wh.Mm⊕Wh.Ud):=
 let FF:=x.1.1
 let FG:List (fN.D):=(x.1.2.2).1
 let v_43:=x.1.2.2.2
 let Lb:eB.D:=x.2
 bif decide (FF<v_43) then
  let Az:fN.D:=List.getD FG (Int.toNat FF) ((0:Int),(0:Int),(0:Int),(0:Int),())
  bif iy [decide ((0:Int)≤FF),decide (FF<(↑(List.length FG):Int))] then
   let Fv:=Wh.q31' Az
   let v_52:=bif bif bif !Fv.1 then true else Az.2.1 != (40:Int) then true else Az.2.2.1 != (8:Int) then true else decide ((Az.2.2.2).1>Lb.2.1)
   bif iy [nQ (Wh.q31 Az)] then
    bif v_52 then
     some (.inr (.inl (false,())))
    else
     some (.inl (((IntKind.wrap .i64 (FF+(1:Int))),(),FG,v_43),Lb))
   else none
  else none
 else
  some (.inr (.inr ((),Lb)))
def Wh.Qs:(((Bool))×(Unit))⊕(((Unit))×((eB.D))):=.inl default
def Wh.q34 (xs:(eB.D)):Option (((Bool))×(Unit)):=
 let fe:eB.D:=xs
 let r_1:=Wh.x_ (fe.2.1,(0:Int),(99999:Int))
 let v_2:=bif !r_1.1 then true else decide ((↑(List.length (fe.2.2.1)):Int)>(9000:Int))
 bif iy [nQ (Wh.vT (fe.2.1,(0:Int),(99999:Int)))] then
  bif v_2 then
   some (false,())
  else
   let r_3:(List (List UInt8)×Int)×Unit:=Wh.q57' (fe.2.2.1)
   bif iy [nQ (Wh.q57 (fe.2.2.1))] then
    let gz:((bn.D)×Bool)×Unit:=Wh.LI r_3.1.1
    bif iy [nQ (Wh.C4 r_3.1.1)] then
     bif(!gz.1.2) then
      some (false,())
     else
      bif(!fe.1) then
       let yI:Bool:=(fe.2.2.2).1.1==(0:Int)
       let Td:=bif bif bif yI then(↑(List.length ((fe.2.2.2).1.2.1)):Int)==(0:Int) else false then(↑(List.length ((fe.2.2.2.2.1).1)):Int)==(0:Int) else false then(fe.2.2.2.2.1).2.1==(0:Int) else false
       let ng:=bif Td then(↑(List.length ((fe.2.2.2.2.2).1)):Int)==(0:Int) else false
       let ov:=bif ng then(↑(List.length ((fe.2.2.2.2.2).2.1)):Int)==(0:Int) else false
       some (ov,())
      else
       let s4:Int:=(↑(List.length (fe.2.2.1)):Int)
       let xZ:=Wh.q62' (gz.1.1,(fe.2.2.2).1)
       let yY:=Wh.q37' (fe.2.2.2.2.1,(fe.2.2.2).1)
       let yQ:=bif bif bif r_3.1.2 != s4 then true else !xZ.1 then true else !yY.1 then true else(↑(List.length ((fe.2.2.2.2.2).1)):Int) != (2:Int)
       bif iy [(!!bif r_3.1.2 != s4 then true else !xZ.1) || nQ (Wh.q37 (fe.2.2.2.2.1,(fe.2.2.2).1)),!!r_3.1.2 != s4 || nQ (Wh.q62 (gz.1.1,(fe.2.2.2).1))] then
        bif yQ then
         some (false,())
        else
         let FC:Int:=(↑(List.length ((fe.2.2.2.2.2).1)):Int)
         let x_54:Wh.Mm:=(((0:Int),(),(fe.2.2.2.2.2).1,FC),fe)
         bif lF Wh.Br x_54 then
          sumC (kG Wh.Br Wh.Qs x_54) (fun y_55=>
           let v_57:=y_55.1
           some (v_57,())) (fun z_56=>
           let Lf:eB.D:=z_56.2
           let v_59:Int:=(↑(List.length ((Lf.2.2.2.2.2).2.1)):Int)
           let x_116:Wh.Mn:=(((0:Int),(),(Lf.2.2.2.2.2).2.1,v_59),Lf)
           bif lF Wh.AH x_116 then
            sumC (kG Wh.AH Wh.Qt x_116) (fun y_117=>
             let Jg:=y_117.1
             some (Jg,())) (fun _=>
             some (true,()))
           else none)
         else none
       else none
    else none
   else none
 else none
def Wh.q34':=ct Wh.q34
theorem Wh.q34_v:OV Wh.q34 Wh.q34':=eA _
def Wh.q83 (xs:(an.D)×(an.D)):Option (((Bool))×(Unit)):=
 let bx:an.D:=xs.1
 let b_1:an.D:=xs.2
 bif(bx.1 != b_1.1) then
  some (false,())
 else
  bif(!bx.2.1==b_1.2.1) then
   some (false,())
  else
   bif(bx.2.2.1 != b_1.2.2.1) then
    some (false,())
   else
    bif(!(bx.2.2.2).1==(b_1.2.2.2).1) then
     some (false,())
    else
     some (true,())
def Wh.q83':=ct Wh.q83
theorem Wh.q83_v:OV Wh.q83 Wh.q83':=eA _
abbrev Wh.MN:Type:=((Int)×(List (an.D))×(List (an.D)))×(Unit)
abbrev Wh.Uy:Type:=((((Bool))×(Unit))⊕((Unit)×(Unit)))
def Wh.Dl (x:Wh.MN):Option (Wh.MN⊕Wh.Uy):=
 let gv:=x.1.1
 let y4:List (an.D):=x.1.2.1
 let y3:List (an.D):=x.1.2.2
 let n4:Int:=(↑(List.length y3):Int)
 bif decide (gv<n4) then
  let nc:an.D:=List.getD y3 (Int.toNat gv) ((0:Int),[],(0:Int),[],())
  let n5:an.D:=List.getD y4 (Int.toNat gv) ((0:Int),[],(0:Int),[],())
  let yY:=Wh.q83' (nc,n5)
  bif iy [nQ (Wh.q83 (nc,n5)),decide ((0:Int)≤gv),decide (gv<(↑(List.length y4):Int)),decide ((0:Int)≤gv),decide (gv<n4)] then
   bif !yY.1 then
    some (.inr (.inl (false,())))
   else
    some (.inl (((IntKind.wrap .i64 (gv+(1:Int))),y4,y3),()))
  else none
 else
  some (.inr (.inr ((),())))
def Wh.QO:(((Bool))×(Unit))⊕((Unit)×(Unit)):=.inl default
def Wh.q64 (xs:(List (an.D))×(List (an.D))):Option (((Bool))×(Unit)):=
 let bx:List (an.D):=xs.1
 let b_1:List (an.D):=xs.2
 let v_2:Int:=(↑(List.length bx):Int)
 let nE:Int:=(↑(List.length b_1):Int)
 let xU:=v_2 != nE
 bif xU then
  some (false,())
 else
  let x_25:Wh.MN:=(((0:Int),b_1,bx),())
  bif lF Wh.Dl x_25 then
   sumC (kG Wh.Dl Wh.QO x_25) (fun zk=>
    let nG:=zk.1
    some (nG,())) (fun _=>
    some (true,()))
  else none
def Wh.q64':=ct Wh.q64
theorem Wh.q64_v:OV Wh.q64 Wh.q64':=eA _
def Wh.C5 (xs:(bn.D)×(bn.D)):Option (((Bool))×(Unit)):=
 let bx:bn.D:=xs.1
 let b_1:bn.D:=xs.2
 bif(bx.1 != b_1.1) then
  some (false,())
 else
  let r_3:=Wh.q64' (bx.2.1,b_1.2.1)
  bif iy [nQ (Wh.q64 (bx.2.1,b_1.2.1))] then
   bif !r_3.1 then
    some (false,())
   else
    some (true,())
  else none
def Wh.LM:=ct Wh.C5
theorem Wh.P3:OV Wh.C5 Wh.LM:=eA _
def Wh.q63 (xs:(e_.D)×(e_.D)):Option (((Bool))×(Unit)):=
 let bx:e_.D:=xs.1
 let b_1:e_.D:=xs.2
 bif(bx.1 != b_1.1) then
  some (false,())
 else
  bif(bx.2.1 != b_1.2.1) then
   some (false,())
  else
   bif(bx.2.2.1 != b_1.2.2.1) then
    some (false,())
   else
    let s_:Bool:=(bx.2.2.2).1 != (b_1.2.2.2).1
    bif s_ then
     some (false,())
    else
     bif(!bx.2.2.2.2.1==b_1.2.2.2.2.1) then
      some (false,())
     else
      some (true,())
def Wh.q63':=ct Wh.q63
theorem Wh.q63_v:OV Wh.q63 Wh.q63':=eA _
abbrev Wh.My:Type:=((Int)×(List (e_.D))×(List (e_.D)))×(Unit)
abbrev Wh.Un:Type:=((((Bool))×(Unit))⊕((Unit)×(Unit)))
def Wh.Dh (x:Wh.My):Option (Wh.My⊕Wh.Un):=
 let gv:=x.1.1
 let y4:List (e_.D):=x.1.2.1
 let y3:List (e_.D):=x.1.2.2
 let n4:Int:=(↑(List.length y3):Int)
 bif decide (gv<n4) then
  let nc:e_.D:=List.getD y3 (Int.toNat gv) ((0:Int),(0:Int),(0:Int),(0:Int),false,())
  let n5:e_.D:=List.getD y4 (Int.toNat gv) ((0:Int),(0:Int),(0:Int),(0:Int),false,())
  let yY:=Wh.q63' (nc,n5)
  bif iy [nQ (Wh.q63 (nc,n5)),decide ((0:Int)≤gv),decide (gv<(↑(List.length y4):Int)),decide ((0:Int)≤gv),decide (gv<n4)] then
   bif !yY.1 then
    some (.inr (.inl (false,())))
   else
    some (.inl (((IntKind.wrap .i64 (gv+(1:Int))),y4,y3),()))
  else none
 else
  some (.inr (.inr ((),())))
def Wh.QD:(((Bool))×(Unit))⊕((Unit)×(Unit)):=.inl default
def Wh.q40 (xs:(List (e_.D))×(List (e_.D))):Option (((Bool))×(Unit)):=
 let bx:List (e_.D):=xs.1
 let b_1:List (e_.D):=xs.2
 let v_2:Int:=(↑(List.length bx):Int)
 let nE:Int:=(↑(List.length b_1):Int)
 let xU:=v_2 != nE
 bif xU then
  some (false,())
 else
  let x_25:Wh.My:=(((0:Int),b_1,bx),())
  bif lF Wh.Dh x_25 then
   sumC (kG Wh.Dh Wh.QD x_25) (fun zk=>
    let nG:=zk.1
    some (nG,())) (fun _=>
    some (true,()))
  else none
def Wh.q40':=ct Wh.q40
theorem Wh.q40_v:OV Wh.q40 Wh.q40':=eA _
def Wh.q84 (xs:(fT.D)×(fT.D)):Option (((Bool))×(Unit)):=
 let bx:fT.D:=xs.1
 let b_1:fT.D:=xs.2
 let r_2:=Wh.q40' (bx.1,b_1.1)
 bif iy [nQ (Wh.q40 (bx.1,b_1.1))] then
  bif !r_2.1 then
   some (false,())
  else
   bif(bx.2.1 != b_1.2.1) then
    some (false,())
   else
    some (true,())
 else none
def Wh.q84':=ct Wh.q84
theorem Wh.q84_v:OV Wh.q84 Wh.q84':=eA _
def Wh.q39 (xs:(fN.D)×(fN.D)):Option (((Bool))×(Unit)):=
 let bx:fN.D:=xs.1
 let b_1:fN.D:=xs.2
 bif(bx.1 != b_1.1) then
  some (false,())
 else
  bif(bx.2.1 != b_1.2.1) then
   some (false,())
  else
   bif(bx.2.2.1 != b_1.2.2.1) then
    some (false,())
   else
    let s_:Bool:=(bx.2.2.2).1 != (b_1.2.2.2).1
    bif s_ then
     some (false,())
    else
     some (true,())
def Wh.q39':=ct Wh.q39
theorem Wh.q39_v:OV Wh.q39 Wh.q39':=eA _
abbrev Wh.Mg:Type:=((Int)×(List (fN.D))×(List (fN.D)))×(Unit)
abbrev Wh.T_:Type:=((((Bool))×(Unit))⊕((Unit)×(Unit)))
def Wh.Dd (x:Wh.Mg):Option (Wh.Mg⊕Wh.T_):=
 let gv:=x.1.1
 let y4:List (fN.D):=x.1.2.1
 let y3:List (fN.D):=x.1.2.2
 let n4:Int:=(↑(List.length y3):Int)
 bif decide (gv<n4) then
  let nc:fN.D:=List.getD y3 (Int.toNat gv) ((0:Int),(0:Int),(0:Int),(0:Int),())
  let n5:fN.D:=List.getD y4 (Int.toNat gv) ((0:Int),(0:Int),(0:Int),(0:Int),())
  let yY:=Wh.q39' (nc,n5)
  bif iy [nQ (Wh.q39 (nc,n5)),decide ((0:Int)≤gv),decide (gv<(↑(List.length y4):Int)),decide ((0:Int)≤gv),decide (gv<n4)] then
   bif !yY.1 then
    some (.inr (.inl (false,())))
   else
    some (.inl (((IntKind.wrap .i64 (gv+(1:Int))),y4,y3),()))
  else none
 else
  some (.inr (.inr ((),())))
def Wh.Qn:(((Bool))×(Unit))⊕((Unit)×(Unit)):=.inl default
def Wh.q24 (xs:(List (fN.D))×(List (fN.D))):Option (((Bool))×(Unit)):=
 let bx:List (fN.D):=xs.1
 let b_1:List (fN.D):=xs.2
 let v_2:Int:=(↑(List.length bx):Int)
 let nE:Int:=(↑(List.length b_1):Int)
 let xU:=v_2 != nE
 bif xU then
  some (false,())
 else
  let x_25:Wh.Mg:=(((0:Int),b_1,bx),())
  bif lF Wh.Dd x_25 then
   sumC (kG Wh.Dd Wh.Qn x_25) (fun zk=>
    let nG:=zk.1
    some (nG,())) (fun _=>
    some (true,()))
  else none
def Wh.q24':=ct Wh.q24
theorem Wh.q24_v:OV Wh.q24 Wh.q24':=eA _
def Wh.q65 (xs:(gd.D)×(gd.D)):Option (((Bool))×(Unit)):=
 let bx:gd.D:=xs.1
 let b_1:gd.D:=xs.2
 bif(bx.1 != b_1.1) then
  some (false,())
 else
  bif(bx.2.1 != b_1.2.1) then
   some (false,())
  else
   bif(bx.2.2.1 != b_1.2.2.1) then
    some (false,())
   else
    let s_:Bool:=(bx.2.2.2).1 != (b_1.2.2.2).1
    bif s_ then
     some (false,())
    else
     bif(bx.2.2.2.2.1 != b_1.2.2.2.2.1) then
      some (false,())
     else
      let yI:Bool:=(bx.2.2.2.2.2).1 != (b_1.2.2.2.2.2).1
      bif yI then
       some (false,())
      else
       some (true,())
def Wh.q65':=ct Wh.q65
theorem Wh.q65_v:OV Wh.q65 Wh.q65':=eA _
abbrev Wh.Mz:Type:=((Int)×(List (gd.D))×(List (gd.D)))×(Unit)
abbrev Wh.Uo:Type:=((((Bool))×(Unit))⊕((Unit)×(Unit)))
def Wh.Dj (x:Wh.Mz):Option (Wh.Mz⊕Wh.Uo):=
 let gv:=x.1.1
 let y4:List (gd.D):=x.1.2.1
 let y3:List (gd.D):=x.1.2.2
 let n4:Int:=(↑(List.length y3):Int)
 bif decide (gv<n4) then
  let nc:gd.D:=List.getD y3 (Int.toNat gv) ((0:Int),(0:Int),(0:Int),(0:Int),(0:Int),(0:Int),())
  let n5:gd.D:=List.getD y4 (Int.toNat gv) ((0:Int),(0:Int),(0:Int),(0:Int),(0:Int),(0:Int),())
  let yY:=Wh.q65' (nc,n5)
  bif iy [nQ (Wh.q65 (nc,n5)),decide ((0:Int)≤gv),decide (gv<(↑(List.length y4):Int)),decide ((0:Int)≤gv),decide (gv<n4)] then
   bif !yY.1 then
    some (.inr (.inl (false,())))
   else
    some (.inl (((IntKind.wrap .i64 (gv+(1:Int))),y4,y3),()))
  else none
 else
  some (.inr (.inr ((),())))
def Wh.QE:(((Bool))×(Unit))⊕((Unit)×(Unit)):=.inl default
def Wh.q41 (xs:(List (gd.D))×(List (gd.D))):Option (((Bool))×(Unit)):=
 let bx:List (gd.D):=xs.1
 let b_1:List (gd.D):=xs.2
 let v_2:Int:=(↑(List.length bx):Int)
 let nE:Int:=(↑(List.length b_1):Int)
 let xU:=v_2 != nE
 bif xU then
  some (false,())
 else
  let x_25:Wh.Mz:=(((0:Int),b_1,bx),())
  bif lF Wh.Dj x_25 then
   sumC (kG Wh.Dj Wh.QE x_25) (fun zk=>
    let nG:=zk.1
    some (nG,())) (fun _=>
    some (true,()))
  else none
def Wh.q41':=ct Wh.q41
theorem Wh.q41_v:OV Wh.q41 Wh.q41':=eA _
def Wh.q42 (xs:(eB.D)×(eB.D)):Option (((Bool))×(Unit)):=
 let bx:eB.D:=xs.1
 let b_1:eB.D:=xs.2
 bif(!bx.1==b_1.1) then
  some (false,())
 else
  bif(bx.2.1 != b_1.2.1) then
   some (false,())
  else
   bif(!bx.2.2.1==b_1.2.2.1) then
    some (false,())
   else
    let x4:=Wh.LM ((bx.2.2.2).1,(b_1.2.2.2).1)
    bif iy [nQ (Wh.C5 ((bx.2.2.2).1,(b_1.2.2.2).1))] then
     bif !x4.1 then
      some (false,())
     else
      let yp:=Wh.q84' (bx.2.2.2.2.1,b_1.2.2.2.2.1)
      bif iy [nQ (Wh.q84 (bx.2.2.2.2.1,b_1.2.2.2.2.1))] then
       bif !yp.1 then
        some (false,())
       else
        let Aa:=Wh.q24' ((bx.2.2.2.2.2).1,(b_1.2.2.2.2.2).1)
        bif iy [nQ (Wh.q24 ((bx.2.2.2.2.2).1,(b_1.2.2.2.2.2).1))] then
         bif !Aa.1 then
          some (false,())
         else
          let yG:=Wh.q41' ((bx.2.2.2.2.2).2.1,(b_1.2.2.2.2.2).2.1)
          bif iy [nQ (Wh.q41 ((bx.2.2.2.2.2).2.1,(b_1.2.2.2.2.2).2.1))] then
           bif !yG.1 then
            some (false,())
           else
            some (true,())
          else none
        else none
      else none
    else none
def Wh.q42':=ct Wh.q42
theorem Wh.q42_v:OV Wh.q42 Wh.q42':=eA _
def Wh.q6 (xs:(eB.D)):Option (((Bool))×(Unit)):=
 let DK:eB.D:=xs
 let r_1:=Wh.q45' (DK,(1048576:Int))
 bif iy [nQ (Wh.q45 (DK,(1048576:Int)))] then
  bif decide (r_1.1<(0:Int)) then
   some (true,())
  else
   let r_3:(eB.D)×Unit:=Wh.q49' DK
   let x4:=Wh.q51' r_3.1
   bif iy [nQ (Wh.q51 r_3.1),nQ (Wh.Bx DK)] then
    bif iy [nQ (Wh.Bx DK)] then
     let yp:=Wh.q34' r_3.1
     bif iy [nQ (Wh.q34 r_3.1)] then
      bif(!yp.1==x4.1) then
       some (false,())
      else
       let r_9:=Wh.q42' (r_3.1,r_3.1)
       bif iy [nQ (Wh.q42 (r_3.1,r_3.1)),nQ (Wh.Bx DK)] then
        bif !r_9.1 then
         some (false,())
        else
         some (true,())
       else none
     else none
    else none
   else none
 else none
def Wh.q6':=ct Wh.q6
end
