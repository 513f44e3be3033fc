import Derived.Test.YtfeoanopdlpabaaGreatDoorX7
open Go Go.Ab
noncomputable section
def Wh.EA (xs:(cr.D)×(cr.D)):Option (((Bool))×(Unit)):=
 let bx:cr.D:=xs.1
 let b_1:cr.D:=xs.2
 bif(bx.1 != b_1.1) then
  some (false,())
 else
  let r_3:=Wh.q81' (bx.2.1,b_1.2.1)
  bif iy [nQ (Wh.q81 (bx.2.1,b_1.2.1))] then
   bif !r_3.1 then
    some (false,())
   else
    some (true,())
  else none
def Wh.O1:=en Wh.EA
theorem Wh.TX:OV Wh.EA Wh.O1:=eB _
def Wh.q80 (xs:(e_.D)×(e_.D)):Option (((Bool))×(Unit)):=
 let bx:e_.D:=xs.1
 let b_1:e_.D:=xs.2
 bif(bx.1 != b_1.1) then
  some (false,())
 else
  bif(bx.2.1 != b_1.2.1) then
   some (false,())
  else
   bif(bx.2.2.1 != b_1.2.2.1) then
    some (false,())
   else
    let vN:Bool:=(bx.2.2.2).1 != (b_1.2.2.2).1
    bif vN then
     some (false,())
    else
     bif(!bx.2.2.2.2.1==b_1.2.2.2.2.1) then
      some (false,())
     else
      some (true,())
def Wh.q80':=en Wh.q80
theorem Wh.q80_v:OV Wh.q80 Wh.q80':=eB _
abbrev Wh.P3:Type:=((Int)×(List (e_.D))×(List (e_.D)))×(Unit)
abbrev Wh.ZF:Type:=((((Bool))×(Unit))⊕((Unit)×(Unit)))
def Wh.EP (x:Wh.P3):Option (Wh.P3⊕Wh.ZF):=
 let gT:=x.1.1
 let zO:List (e_.D):=x.1.2.1
 let zN:List (e_.D):=x.1.2.2
 let xe:Int:=(↑(List.length zN):Int)
 bif decide (gT<xe) then
  let nI:e_.D:=List.getD zN (Int.toNat gT) ((0:Int),(0:Int),(0:Int),(0:Int),false,())
  let w8:e_.D:=List.getD zO (Int.toNat gT) ((0:Int),(0:Int),(0:Int),(0:Int),false,())
  let zJ:=Wh.q80' (nI,w8)
  bif iy [nQ (Wh.q80 (nI,w8)),decide ((0:Int)≤gT),decide (gT<(↑(List.length zO):Int)),decide ((0:Int)≤gT),decide (gT<xe)] then
   bif !zJ.1 then
    some (.inr (.inl (false,())))
   else
    some (.inl (((IntKind.wrap .i64 (gT+(1:Int))),zO,zN),()))
  else none
 else
  some (.inr (.inr ((),())))
def Wh.UI:(((Bool))×(Unit))⊕((Unit)×(Unit)):=.inl default
def Wh.q53 (xs:(List (e_.D))×(List (e_.D))):Option (((Bool))×(Unit)):=
 let bx:List (e_.D):=xs.1
 let b_1:List (e_.D):=xs.2
 let v_2:Int:=(↑(List.length bx):Int)
 let s4:Int:=(↑(List.length b_1):Int)
 let yp:=v_2 != s4
 bif yp then
  some (false,())
 else
  let x_25:Wh.P3:=(((0:Int),b_1,bx),())
  bif lF Wh.EP x_25 then
   sumC (kG Wh.EP Wh.UI x_25) (fun Ac=>
    let nW:=Ac.1
    some (nW,())) (fun _=>
    some (true,()))
  else none
def Wh.q53':=en Wh.q53
theorem Wh.q53_v:OV Wh.q53 Wh.q53':=eB _
def Wh.Eo (xs:(gd.D)×(gd.D)):Option (((Bool))×(Unit)):=
 let bx:gd.D:=xs.1
 let b_1:gd.D:=xs.2
 let r_2:=Wh.q53' (bx.1,b_1.1)
 bif iy [nQ (Wh.q53 (bx.1,b_1.1))] then
  bif !r_2.1 then
   some (false,())
  else
   bif(bx.2.1 != b_1.2.1) then
    some (false,())
   else
    some (true,())
 else none
def Wh.Ox:=en Wh.Eo
theorem Wh.Tw:OV Wh.Eo Wh.Ox:=eB _
def Wh.q52 (xs:(fN.D)×(fN.D)):Option (((Bool))×(Unit)):=
 let bx:fN.D:=xs.1
 let b_1:fN.D:=xs.2
 bif(bx.1 != b_1.1) then
  some (false,())
 else
  bif(bx.2.1 != b_1.2.1) then
   some (false,())
  else
   bif(bx.2.2.1 != b_1.2.2.1) then
    some (false,())
   else
    let vN:Bool:=(bx.2.2.2).1 != (b_1.2.2.2).1
    bif vN then
     some (false,())
    else
     some (true,())
def Wh.q52':=en Wh.q52
theorem Wh.q52_v:OV Wh.q52 Wh.q52':=eB _
abbrev Wh.PE:Type:=((Int)×(List (fN.D))×(List (fN.D)))×(Unit)
abbrev Wh.Zo:Type:=((((Bool))×(Unit))⊕((Unit)×(Unit)))
def Wh.EL (x:Wh.PE):Option (Wh.PE⊕Wh.Zo):=
 let gT:=x.1.1
 let zO:List (fN.D):=x.1.2.1
 let zN:List (fN.D):=x.1.2.2
 let xe:Int:=(↑(List.length zN):Int)
 bif decide (gT<xe) then
  let nI:fN.D:=List.getD zN (Int.toNat gT) ((0:Int),(0:Int),(0:Int),(0:Int),())
  let w8:fN.D:=List.getD zO (Int.toNat gT) ((0:Int),(0:Int),(0:Int),(0:Int),())
  let zJ:=Wh.q52' (nI,w8)
  bif iy [nQ (Wh.q52 (nI,w8)),decide ((0:Int)≤gT),decide (gT<(↑(List.length zO):Int)),decide ((0:Int)≤gT),decide (gT<xe)] then
   bif !zJ.1 then
    some (.inr (.inl (false,())))
   else
    some (.inl (((IntKind.wrap .i64 (gT+(1:Int))),zO,zN),()))
  else none
 else
  some (.inr (.inr ((),())))
def Wh.Uq:(((Bool))×(Unit))⊕((Unit)×(Unit)):=.inl default
def Wh.q35 (xs:(List (fN.D))×(List (fN.D))):Option (((Bool))×(Unit)):=
 let bx:List (fN.D):=xs.1
 let b_1:List (fN.D):=xs.2
 let v_2:Int:=(↑(List.length bx):Int)
 let s4:Int:=(↑(List.length b_1):Int)
 let yp:=v_2 != s4
 bif yp then
  some (false,())
 else
  let x_25:Wh.PE:=(((0:Int),b_1,bx),())
  bif lF Wh.EL x_25 then
   sumC (kG Wh.EL Wh.Uq x_25) (fun Ac=>
    let nW:=Ac.1
    some (nW,())) (fun _=>
    some (true,()))
  else none
def Wh.q35':=en Wh.q35
theorem Wh.q35_v:OV Wh.q35 Wh.q35':=eB _
def Wh.q82 (xs:(fT.D)×(fT.D)):Option (((Bool))×(Unit)):=
 let bx:fT.D:=xs.1
 let b_1:fT.D:=xs.2
 bif(bx.1 != b_1.1) then
  some (false,())
 else
  bif(bx.2.1 != b_1.2.1) then
   some (false,())
  else
   bif(bx.2.2.1 != b_1.2.2.1) then
    some (false,())
   else
    let vN:Bool:=(bx.2.2.2).1 != (b_1.2.2.2).1
    bif vN then
     some (false,())
    else
     bif(bx.2.2.2.2.1 != b_1.2.2.2.2.1) then
      some (false,())
     else
      let y3:Bool:=(bx.2.2.2.2.2).1 != (b_1.2.2.2.2.2).1
      bif y3 then
       some (false,())
      else
       some (true,())
def Wh.q82':=en Wh.q82
theorem Wh.q82_v:OV Wh.q82 Wh.q82':=eB _
abbrev Wh.P4:Type:=((Int)×(List (fT.D))×(List (fT.D)))×(Unit)
abbrev Wh.ZG:Type:=((((Bool))×(Unit))⊕((Unit)×(Unit)))
def Wh.ER (x:Wh.P4):Option (Wh.P4⊕Wh.ZG):=
 let gT:=x.1.1
 let zO:List (fT.D):=x.1.2.1
 let zN:List (fT.D):=x.1.2.2
 let xe:Int:=(↑(List.length zN):Int)
 bif decide (gT<xe) then
  let nI:fT.D:=List.getD zN (Int.toNat gT) ((0:Int),(0:Int),(0:Int),(0:Int),(0:Int),(0:Int),())
  let w8:fT.D:=List.getD zO (Int.toNat gT) ((0:Int),(0:Int),(0:Int),(0:Int),(0:Int),(0:Int),())
  let zJ:=Wh.q82' (nI,w8)
  bif iy [nQ (Wh.q82 (nI,w8)),decide ((0:Int)≤gT),decide (gT<(↑(List.length zO):Int)),decide ((0:Int)≤gT),decide (gT<xe)] then
   bif !zJ.1 then
    some (.inr (.inl (false,())))
   else
    some (.inl (((IntKind.wrap .i64 (gT+(1:Int))),zO,zN),()))
  else none
 else
  some (.inr (.inr ((),())))
def Wh.UJ:(((Bool))×(Unit))⊕((Unit)×(Unit)):=.inl default
def Wh.q54 (xs:(List (fT.D))×(List (fT.D))):Option (((Bool))×(Unit)):=
 let bx:List (fT.D):=xs.1
 let b_1:List (fT.D):=xs.2
 let v_2:Int:=(↑(List.length bx):Int)
 let s4:Int:=(↑(List.length b_1):Int)
 let yp:=v_2 != s4
 bif yp then
  some (false,())
 else
  let x_25:Wh.P4:=(((0:Int),b_1,bx),())
  bif lF Wh.ER x_25 then
   sumC (kG Wh.ER Wh.UJ x_25) (fun Ac=>
    let nW:=Ac.1
    some (nW,())) (fun _=>
    some (true,()))
  else none
def Wh.q54':=en Wh.q54
theorem Wh.q54_v:OV Wh.q54 Wh.q54':=eB _
def Wh.Ba (xs:(ct.D)×(ct.D)):Option (((Bool))×(Unit)):=
 let bx:ct.D:=xs.1
 let b_1:ct.D:=xs.2
 bif(!bx.1==b_1.1) then
  some (false,())
 else
  bif(bx.2.1 != b_1.2.1) then
   some (false,())
  else
   bif(!bx.2.2.1==b_1.2.2.1) then
    some (false,())
   else
    let yD:=Wh.O1 ((bx.2.2.2).1,(b_1.2.2.2).1)
    bif iy [nQ (Wh.EA ((bx.2.2.2).1,(b_1.2.2.2).1))] then
     bif !yD.1 then
      some (false,())
     else
      let xb:=Wh.Ox (bx.2.2.2.2.1,b_1.2.2.2.2.1)
      bif iy [nQ (Wh.Eo (bx.2.2.2.2.1,b_1.2.2.2.2.1))] then
       bif !xb.1 then
        some (false,())
       else
        let nc:=Wh.q35' ((bx.2.2.2.2.2).1,(b_1.2.2.2.2.2).1)
        bif iy [nQ (Wh.q35 ((bx.2.2.2.2.2).1,(b_1.2.2.2.2.2).1))] then
         bif !nc.1 then
          some (false,())
         else
          let yS:=Wh.q54' ((bx.2.2.2.2.2).2.1,(b_1.2.2.2.2.2).2.1)
          bif iy [nQ (Wh.q54 ((bx.2.2.2.2.2).2.1,(b_1.2.2.2.2.2).2.1))] then
           bif !yS.1 then
            some (false,())
           else
            some (true,())
          else none
        else none
      else none
    else none
def Wh.Ho:=en Wh.Ba
theorem Wh.P5:OV Wh.Ba Wh.Ho:=eB _
abbrev Wh.P6:Type:=((Int)×(List UInt8))×(Unit)
abbrev Wh.ZH:Type:=((((List UInt8))×(Unit)))
def Wh.DC (x:Wh.P6):Option (Wh.P6⊕Wh.ZH):=
 let k_12:=x.1.1
 let FG:=x.1.2
 bif decide (k_12>(0:Int)) then
  let pb_15:List Int:=[IntKind.wrap .u8 (IntKind.wrap .i64 ((48:Int)+Int.tmod k_12 (10:Int)))]
  let out_20:List UInt8:=qp pb_15++FG
  bif iy [decide ((1:Nat)+List.length FG≤dh),true] then
   some (.inl (((IntKind.wrap .i64 (Int.tdiv k_12 (10:Int))),out_20),()))
  else none
 else
  some (.inr (FG,()))
def Wh.UK:(((List UInt8))×(Unit)):=default
def Wh.AV (xs:(Int)):Option (((List UInt8))×(Unit)):=
 let k_0:=xs
 bif decide (k_0≤(0:Int)) then
  some ([(109:UInt8),(48:UInt8)],())
 else
  let x_22:Wh.P6:=((k_0,[]),())
  bif lF Wh.DC x_22 then
   let y_23:=kG Wh.DC Wh.UK x_22
   let Tj:=y_23.1
   let AI:List UInt8:=[(109:UInt8)]++Tj
   bif iy [decide ((1:Nat)+List.length Tj≤dh)] then
    some (AI,())
   else none
  else none
def Wh.ES:=en Wh.AV
theorem Wh.FX:OV Wh.AV Wh.ES:=eB _
abbrev Wh.PG:Type:=((Int)×(Unit)×(Int))×((List (an.D)))
abbrev Wh.Zq:Type:=((((Int))×((List (an.D)))))
def Wh.Dw (x:Wh.PG):Option (Wh.PG⊕Wh.Zq):=
 let yB:=x.1.1
 let Ee:=x.1.2.2
 let Bn:List (an.D):=x.2
 let w8:Int:=(↑(List.length Bn):Int)
 bif decide (yB<w8) then
  let AU:List (an.D):=List.set Bn (Int.toNat yB) (Ee,Prod.snd (List.getD Bn (Int.toNat yB) ((0:Int),[],(0:Int),[],())))
  bif iy [decide ((0:Int)≤yB),decide (yB<w8)] then
   let r5:=IntKind.wrap .i64 (Ee+(1:Int))
   let nC:xT.D:=Wh.ES r5
   let G0:List (an.D):=List.set AU (Int.toNat yB) (Prod.fst (List.getD AU (Int.toNat yB) ((0:Int),[],(0:Int),[],())),nC.1,Prod.snd (Prod.snd (List.getD AU (Int.toNat yB) ((0:Int),[],(0:Int),[],()))))
   bif iy [decide ((0:Int)≤yB),decide (yB<(↑(List.length AU):Int)),nQ (Wh.AV r5)] then
    let DO:=IntKind.wrap .i64 (r5+(1:Int))
    let FJ:List (an.D):=List.set G0 (Int.toNat yB) (Prod.fst (List.getD G0 (Int.toNat yB) ((0:Int),[],(0:Int),[],())),Prod.fst (Prod.snd (List.getD G0 (Int.toNat yB) ((0:Int),[],(0:Int),[],()))),DO,Prod.snd (Prod.snd (Prod.snd (List.getD G0 (Int.toNat yB) ((0:Int),[],(0:Int),[],())))))
    bif iy [decide ((0:Int)≤yB),decide (yB<(↑(List.length G0):Int))] then
     let za:=IntKind.wrap .i64 (DO+(1:Int))
     let r_30:xT.D:=Wh.ES za
     let th:List (an.D):=List.set FJ (Int.toNat yB) (Prod.fst (List.getD FJ (Int.toNat yB) ((0:Int),[],(0:Int),[],())),Prod.fst (Prod.snd (List.getD FJ (Int.toNat yB) ((0:Int),[],(0:Int),[],()))),Prod.fst (Prod.snd (Prod.snd (List.getD FJ (Int.toNat yB) ((0:Int),[],(0:Int),[],())))),r_30.1,Prod.snd (Prod.snd (Prod.snd (Prod.snd (List.getD FJ (Int.toNat yB) ((0:Int),[],(0:Int),[],()))))))
     bif iy [decide ((0:Int)≤yB),decide (yB<(↑(List.length FJ):Int)),nQ (Wh.AV za)] then
      some (.inl (((IntKind.wrap .i64 (yB+(1:Int))),(),(IntKind.wrap .i64 (za+(1:Int)))),th))
     else none
    else none
   else none
  else none
 else
  some (.inr (Ee,Bn))
def Wh.Us:(((Int))×((List (an.D)))):=default
def Wh.q37 (xs:(List (an.D))×(Int)):Option (((Int))×((List (an.D))×Unit)):=
 let bx:List (an.D):=xs.1
 let k_1:=xs.2
 let x_34:Wh.PG:=(((0:Int),(),k_1),bx)
 bif lF Wh.Dw x_34 then
  let y_35:=kG Wh.Dw Wh.Us x_34
  let k_36:=y_35.1
  let Oi:List (an.D):=y_35.2
  some (k_36,Oi,())
 else none
def Wh.q37':=en Wh.q37
theorem Wh.q37_v:OV Wh.q37 Wh.q37':=eB _
def Wh.q84 (xs:(cr.D)×(Int)):Option (((Int))×((cr.D)×Unit)):=
 let bx:cr.D:=xs.1
 let k_1:=xs.2
 let r_2:cr.D:=Wh.q37' (bx.2.1,k_1)
 bif iy [nQ (Wh.q37 (bx.2.1,k_1))] then
  some (r_2.1,(bx.1,r_2.2.1,bx.2.2),())
 else none
def Wh.q84':=en Wh.q84
theorem Wh.q84_v:OV Wh.q84 Wh.q84':=eB _
abbrev Wh.Px:Type:=((Int)×(Unit)×(Int))×((List (e_.D)))
abbrev Wh.Zk:Type:=((((Int))×((List (e_.D)))))
def Wh.Dt (x:Wh.Px):Option (Wh.Px⊕Wh.Zk):=
 let lg:=x.1.1
 let A3:=x.1.2.2
 let AR:List (e_.D):=x.2
 let zL:Int:=(↑(List.length AR):Int)
 bif decide (lg<zL) then
  let zI:List (e_.D):=List.set AR (Int.toNat lg) (A3,Prod.snd (List.getD AR (Int.toNat lg) ((0:Int),(0:Int),(0:Int),(0:Int),false,())))
  bif iy [decide ((0:Int)≤lg),decide (lg<zL)] then
   let so:=IntKind.wrap .i64 (A3+(1:Int))
   let x4:List (e_.D):=List.set zI (Int.toNat lg) (Prod.fst (List.getD zI (Int.toNat lg) ((0:Int),(0:Int),(0:Int),(0:Int),false,())),so,Prod.snd (Prod.snd (List.getD zI (Int.toNat lg) ((0:Int),(0:Int),(0:Int),(0:Int),false,()))))
   bif iy [decide ((0:Int)≤lg),decide (lg<(↑(List.length zI):Int))] then
    let nW:=IntKind.wrap .i64 (so+(1:Int))
    let x8:List (e_.D):=List.set x4 (Int.toNat lg) (Prod.fst (List.getD x4 (Int.toNat lg) ((0:Int),(0:Int),(0:Int),(0:Int),false,())),Prod.fst (Prod.snd (List.getD x4 (Int.toNat lg) ((0:Int),(0:Int),(0:Int),(0:Int),false,()))),nW,Prod.snd (Prod.snd (Prod.snd (List.getD x4 (Int.toNat lg) ((0:Int),(0:Int),(0:Int),(0:Int),false,())))))
    bif iy [decide ((0:Int)≤lg),decide (lg<(↑(List.length x4):Int))] then
     let y2:=IntKind.wrap .i64 (nW+(1:Int))
     let th:List (e_.D):=List.set x8 (Int.toNat lg) (Prod.fst (List.getD x8 (Int.toNat lg) ((0:Int),(0:Int),(0:Int),(0:Int),false,())),Prod.fst (Prod.snd (List.getD x8 (Int.toNat lg) ((0:Int),(0:Int),(0:Int),(0:Int),false,()))),Prod.fst (Prod.snd (Prod.snd (List.getD x8 (Int.toNat lg) ((0:Int),(0:Int),(0:Int),(0:Int),false,())))),y2,Prod.snd (Prod.snd (Prod.snd (Prod.snd (List.getD x8 (Int.toNat lg) ((0:Int),(0:Int),(0:Int),(0:Int),false,()))))))
     bif iy [decide ((0:Int)≤lg),decide (lg<(↑(List.length x8):Int))] then
      let AJ:=IntKind.wrap .i64 (y2+(1:Int))
      let xS:List (e_.D):=List.set th (Int.toNat lg) (Prod.fst (List.getD th (Int.toNat lg) ((0:Int),(0:Int),(0:Int),(0:Int),false,())),Prod.fst (Prod.snd (List.getD th (Int.toNat lg) ((0:Int),(0:Int),(0:Int),(0:Int),false,()))),Prod.fst (Prod.snd (Prod.snd (List.getD th (Int.toNat lg) ((0:Int),(0:Int),(0:Int),(0:Int),false,())))),Prod.fst (Prod.snd (Prod.snd (Prod.snd (List.getD th (Int.toNat lg) ((0:Int),(0:Int),(0:Int),(0:Int),false,()))))),Int.tmod AJ (3:Int)==(0:Int),Prod.snd (Prod.snd (Prod.snd (Prod.snd (Prod.snd (List.getD th (Int.toNat lg) ((0:Int),(0:Int),(0:Int),(0:Int),false,())))))))
      bif iy [decide ((0:Int)≤lg),decide (lg<(↑(List.length th):Int)),true] then
       some (.inl (((IntKind.wrap .i64 (lg+(1:Int))),(),(IntKind.wrap .i64 (AJ+(1:Int)))),xS))
      else none
     else none
    else none
   else none
  else none
 else
  some (.inr (A3,AR))
def Wh.Ul:(((Int))×((List (e_.D)))):=default
def Wh.q25 (xs:(List (e_.D))×(Int)):Option (((Int))×((List (e_.D))×Unit)):=
 let bx:List (e_.D):=xs.1
 let k_1:=xs.2
 let HQ:Wh.Px:=(((0:Int),(),k_1),bx)
 bif lF Wh.Dt HQ then
  let HX:=kG Wh.Dt Wh.Ul HQ
  let GR:=HX.1
  let Az:List (e_.D):=HX.2
  some (GR,Az,())
 else none
def Wh.q25':=en Wh.q25
theorem Wh.q25_v:OV Wh.q25 Wh.q25':=eB _
def Wh.q57 (xs:(gd.D)×(Int)):Option (((Int))×((gd.D)×Unit)):=
 let bx:gd.D:=xs.1
 let k_1:=xs.2
 let r_2:Int×List (e_.D)×Unit:=Wh.q25' (bx.1,k_1)
 bif iy [nQ (Wh.q25 (bx.1,k_1))] then
  some (r_2.1,(r_2.2.1,bx.2),())
 else none
def Wh.q57':=en Wh.q57
theorem Wh.q57_v:OV Wh.q57 Wh.q57':=eB _
abbrev Wh.Pr:Type:=((Int)×(Unit)×(Int))×((List (fN.D)))
abbrev Wh.Zh:Type:=((((Int))×((List (fN.D)))))
def Wh.Dp (x:Wh.Pr):Option (Wh.Pr⊕Wh.Zh):=
 let xX:=x.1.1
 let k_17:=x.1.2.2
 let FI:List (fN.D):=x.2
 let n5:Int:=(↑(List.length FI):Int)
 bif decide (xX<n5) then
  let Em:List (fN.D):=List.set FI (Int.toNat xX) (k_17,Prod.snd (List.getD FI (Int.toNat xX) ((0:Int),(0:Int),(0:Int),(0:Int),())))
  bif iy [decide ((0:Int)≤xX),decide (xX<n5)] then
   let yl:=IntKind.wrap .i64 (k_17+(1:Int))
   let AU:List (fN.D):=List.set Em (Int.toNat xX) (Prod.fst (List.getD Em (Int.toNat xX) ((0:Int),(0:Int),(0:Int),(0:Int),())),yl,Prod.snd (Prod.snd (List.getD Em (Int.toNat xX) ((0:Int),(0:Int),(0:Int),(0:Int),()))))
   bif iy [decide ((0:Int)≤xX),decide (xX<(↑(List.length Em):Int))] then
    let r5:=IntKind.wrap .i64 (yl+(1:Int))
    let zI:List (fN.D):=List.set AU (Int.toNat xX) (Prod.fst (List.getD AU (Int.toNat xX) ((0:Int),(0:Int),(0:Int),(0:Int),())),Prod.fst (Prod.snd (List.getD AU (Int.toNat xX) ((0:Int),(0:Int),(0:Int),(0:Int),()))),r5,Prod.snd (Prod.snd (Prod.snd (List.getD AU (Int.toNat xX) ((0:Int),(0:Int),(0:Int),(0:Int),())))))
    bif iy [decide ((0:Int)≤xX),decide (xX<(↑(List.length AU):Int))] then
     let so:=IntKind.wrap .i64 (r5+(1:Int))
     let x4:List (fN.D):=List.set zI (Int.toNat xX) (Prod.fst (List.getD zI (Int.toNat xX) ((0:Int),(0:Int),(0:Int),(0:Int),())),Prod.fst (Prod.snd (List.getD zI (Int.toNat xX) ((0:Int),(0:Int),(0:Int),(0:Int),()))),Prod.fst (Prod.snd (Prod.snd (List.getD zI (Int.toNat xX) ((0:Int),(0:Int),(0:Int),(0:Int),())))),so,Prod.snd (Prod.snd (Prod.snd (Prod.snd (List.getD zI (Int.toNat xX) ((0:Int),(0:Int),(0:Int),(0:Int),()))))))
     bif iy [decide ((0:Int)≤xX),decide (xX<(↑(List.length zI):Int))] then
      some (.inl (((IntKind.wrap .i64 (xX+(1:Int))),(),(IntKind.wrap .i64 (so+(1:Int)))),x4))
     else none
    else none
   else none
  else none
 else
  some (.inr (k_17,FI))
def Wh.Uh:(((Int))×((List (fN.D)))):=default
def Wh.q17 (xs:(List (fN.D))×(Int)):Option (((Int))×((List (fN.D))×Unit)):=
 let bx:List (fN.D):=xs.1
 let k_1:=xs.2
 let HO:Wh.Pr:=(((0:Int),(),k_1),bx)
 bif lF Wh.Dp HO then
  let Fh:=kG Wh.Dp Wh.Uh HO
  let k_32:=Fh.1
  let xS:List (fN.D):=Fh.2
  some (k_32,xS,())
 else none
def Wh.q17':=en Wh.q17
theorem Wh.q17_v:OV Wh.q17 Wh.q17':=eB _
abbrev Wh.Py:Type:=((Int)×(Unit)×(Int))×((List (fT.D)))
abbrev Wh.Zl:Type:=((((Int))×((List (fT.D)))))
def Wh.Du (x:Wh.Py):Option (Wh.Py⊕Wh.Zl):=
 let lg:=x.1.1
 let A3:=x.1.2.2
 let AR:List (fT.D):=x.2
 let zL:Int:=(↑(List.length AR):Int)
 bif decide (lg<zL) then
  let zI:List (fT.D):=List.set AR (Int.toNat lg) (A3,Prod.snd (List.getD AR (Int.toNat lg) ((0:Int),(0:Int),(0:Int),(0:Int),(0:Int),(0:Int),())))
  bif iy [decide ((0:Int)≤lg),decide (lg<zL)] then
   let so:=IntKind.wrap .i64 (A3+(1:Int))
   let x4:List (fT.D):=List.set zI (Int.toNat lg) (Prod.fst (List.getD zI (Int.toNat lg) ((0:Int),(0:Int),(0:Int),(0:Int),(0:Int),(0:Int),())),so,Prod.snd (Prod.snd (List.getD zI (Int.toNat lg) ((0:Int),(0:Int),(0:Int),(0:Int),(0:Int),(0:Int),()))))
   bif iy [decide ((0:Int)≤lg),decide (lg<(↑(List.length zI):Int))] then
    let nW:=IntKind.wrap .i64 (so+(1:Int))
    let x8:List (fT.D):=List.set x4 (Int.toNat lg) (Prod.fst (List.getD x4 (Int.toNat lg) ((0:Int),(0:Int),(0:Int),(0:Int),(0:Int),(0:Int),())),Prod.fst (Prod.snd (List.getD x4 (Int.toNat lg) ((0:Int),(0:Int),(0:Int),(0:Int),(0:Int),(0:Int),()))),nW,Prod.snd (Prod.snd (Prod.snd (List.getD x4 (Int.toNat lg) ((0:Int),(0:Int),(0:Int),(0:Int),(0:Int),(0:Int),())))))
    bif iy [decide ((0:Int)≤lg),decide (lg<(↑(List.length x4):Int))] then
     let y2:=IntKind.wrap .i64 (nW+(1:Int))
     let th:List (fT.D):=List.set x8 (Int.toNat lg) (Prod.fst (List.getD x8 (Int.toNat lg) ((0:Int),(0:Int),(0:Int),(0:Int),(0:Int),(0:Int),())),Prod.fst (Prod.snd (List.getD x8 (Int.toNat lg) ((0:Int),(0:Int),(0:Int),(0:Int),(0:Int),(0:Int),()))),Prod.fst (Prod.snd (Prod.snd (List.getD x8 (Int.toNat lg) ((0:Int),(0:Int),(0:Int),(0:Int),(0:Int),(0:Int),())))),y2,Prod.snd (Prod.snd (Prod.snd (Prod.snd (List.getD x8 (Int.toNat lg) ((0:Int),(0:Int),(0:Int),(0:Int),(0:Int),(0:Int),()))))))
     bif iy [decide ((0:Int)≤lg),decide (lg<(↑(List.length x8):Int))] then
      let AJ:=IntKind.wrap .i64 (y2+(1:Int))
      let xS:List (fT.D):=List.set th (Int.toNat lg) (Prod.fst (List.getD th (Int.toNat lg) ((0:Int),(0:Int),(0:Int),(0:Int),(0:Int),(0:Int),())),Prod.fst (Prod.snd (List.getD th (Int.toNat lg) ((0:Int),(0:Int),(0:Int),(0:Int),(0:Int),(0:Int),()))),Prod.fst (Prod.snd (Prod.snd (List.getD th (Int.toNat lg) ((0:Int),(0:Int),(0:Int),(0:Int),(0:Int),(0:Int),())))),Prod.fst (Prod.snd (Prod.snd (Prod.snd (List.getD th (Int.toNat lg) ((0:Int),(0:Int),(0:Int),(0:Int),(0:Int),(0:Int),()))))),AJ,Prod.snd (Prod.snd (Prod.snd (Prod.snd (Prod.snd (List.getD th (Int.toNat lg) ((0:Int),(0:Int),(0:Int),(0:Int),(0:Int),(0:Int),())))))))
      bif iy [decide ((0:Int)≤lg),decide (lg<(↑(List.length th):Int))] then
       let Aa:=IntKind.wrap .i64 (AJ+(1:Int))
       let G1:List (fT.D):=List.set xS (Int.toNat lg) (Prod.fst (List.getD xS (Int.toNat lg) ((0:Int),(0:Int),(0:Int),(0:Int),(0:Int),(0:Int),())),Prod.fst (Prod.snd (List.getD xS (Int.toNat lg) ((0:Int),(0:Int),(0:Int),(0:Int),(0:Int),(0:Int),()))),Prod.fst (Prod.snd (Prod.snd (List.getD xS (Int.toNat lg) ((0:Int),(0:Int),(0:Int),(0:Int),(0:Int),(0:Int),())))),Prod.fst (Prod.snd (Prod.snd (Prod.snd (List.getD xS (Int.toNat lg) ((0:Int),(0:Int),(0:Int),(0:Int),(0:Int),(0:Int),()))))),Prod.fst (Prod.snd (Prod.snd (Prod.snd (Prod.snd (List.getD xS (Int.toNat lg) ((0:Int),(0:Int),(0:Int),(0:Int),(0:Int),(0:Int),())))))),Aa,Prod.snd (Prod.snd (Prod.snd (Prod.snd (Prod.snd (Prod.snd (List.getD xS (Int.toNat lg) ((0:Int),(0:Int),(0:Int),(0:Int),(0:Int),(0:Int),()))))))))
       bif iy [decide ((0:Int)≤lg),decide (lg<(↑(List.length xS):Int))] then
        some (.inl (((IntKind.wrap .i64 (lg+(1:Int))),(),(IntKind.wrap .i64 (Aa+(1:Int)))),G1))
       else none
      else none
     else none
    else none
   else none
  else none
 else
  some (.inr (A3,AR))
def Wh.Um:(((Int))×((List (fT.D)))):=default
def Wh.q26 (xs:(List (fT.D))×(Int)):Option (((Int))×((List (fT.D))×Unit)):=
 let bx:List (fT.D):=xs.1
 let k_1:=xs.2
 let HQ:Wh.Py:=(((0:Int),(),k_1),bx)
 bif lF Wh.Du HQ then
  let HX:=kG Wh.Du Wh.Um HQ
  let GR:=HX.1
  let Az:List (fT.D):=HX.2
  some (GR,Az,())
 else none
def Wh.q26':=en Wh.q26
theorem Wh.q26_v:OV Wh.q26 Wh.q26':=eB _
def Wh.Cp (xs:(ct.D)×(Int)):Option (((Int))×((ct.D)×Unit)):=
 let bx:ct.D:=xs.1
 let k_1:=xs.2
 let r_2:Int×(cr.D)×Unit:=Wh.q84' ((bx.2.2.2).1,k_1)
 bif iy [nQ (Wh.q84 ((bx.2.2.2).1,k_1))] then
  let r_3:Int×(gd.D)×Unit:=Wh.q57' (bx.2.2.2.2.1,r_2.1)
  bif iy [nQ (Wh.q57 (bx.2.2.2.2.1,r_2.1))] then
   let gz:Int×List (fN.D)×Unit:=Wh.q17' ((bx.2.2.2.2.2).1,r_3.1)
   bif iy [nQ (Wh.q17 ((bx.2.2.2.2.2).1,r_3.1))] then
    let yD:Int×List (fT.D)×Unit:=Wh.q26' ((bx.2.2.2.2.2).2.1,gz.1)
    bif iy [nQ (Wh.q26 ((bx.2.2.2.2.2).2.1,gz.1))] then
     some (yD.1,(bx.1,bx.2.1,bx.2.2.1,((bx.2.2.2).1.1,(r_2.2.1.2).1,(bx.2.2.2).1.2.2),(r_3.2.1.1,(bx.2.2.2.2.1).2),gz.2.1,yD.2.1,(bx.2.2.2.2.2).2.2),())
    else none
   else none
  else none
 else none
def Wh.Lg:=en Wh.Cp
theorem Wh.Pz:OV Wh.Cp Wh.Lg:=eB _
abbrev Wh.PF:Type:=((Int)×(List (an.D))×(Int))×(Unit)
abbrev Wh.Zp:Type:=((((Int))×(Unit))⊕(((Int))×(Unit)))
def Wh.Dv (x:Wh.PF):Option (Wh.PF⊕Wh.Zp):=
 let A2:=x.1.1
 let a_20:List (an.D):=x.1.2.1
 let A3:=x.1.2.2
 let yl:Int:=(↑(List.length a_20):Int)
 bif decide (A2<yl) then
  let r5:an.D:=List.getD a_20 (Int.toNat A2) ((0:Int),[],(0:Int),[],())
  bif iy [decide ((0:Int)≤A2),decide (A2<yl)] then
   bif(r5.1 != A3) then
    some (.inr (.inl ((-1:Int),())))
   else
    let so:=IntKind.wrap .i64 (A3+(1:Int))
    let BL:xT.D:=Wh.ES so
    bif iy [nQ (Wh.AV so),decide ((0:Int)≤A2),decide (A2<yl)] then
     bif(!r5.2.1==BL.1) then
      some (.inr (.inl ((-1:Int),())))
     else
      let za:=IntKind.wrap .i64 (so+(1:Int))
      bif iy [decide ((0:Int)≤A2),decide (A2<yl)] then
       bif(r5.2.2.1 != za) then
        some (.inr (.inl ((-1:Int),())))
       else
        let Fa:=IntKind.wrap .i64 (za+(1:Int))
        let nS:xT.D:=Wh.ES Fa
        bif iy [nQ (Wh.AV Fa),decide ((0:Int)≤A2),decide (A2<yl)] then
         bif(!(r5.2.2.2).1==nS.1) then
          some (.inr (.inl ((-1:Int),())))
         else
          some (.inl (((IntKind.wrap .i64 (A2+(1:Int))),a_20,(IntKind.wrap .i64 (Fa+(1:Int)))),()))
        else none
      else none
    else none
  else none
 else
  some (.inr (.inr (A3,())))
def Wh.Ur:(((Int))×(Unit))⊕(((Int))×(Unit)):=.inl default
def Wh.q36 (xs:(List (an.D))×(Int)):Option (((Int))×(Unit)):=
 let bx:List (an.D):=xs.1
 let k_1:=xs.2
 let x_36:Wh.PF:=(((0:Int),bx,k_1),())
 bif lF Wh.Dv x_36 then
  sumC (kG Wh.Dv Wh.Ur x_36) (fun y_37=>
   let Fb:=y_37.1
   some (Fb,())) (fun z_38=>
   let GR:=z_38.1
   some (GR,()))
 else none
def Wh.q36':=en Wh.q36
theorem Wh.q36_v:OV Wh.q36 Wh.q36':=eB _
def Wh.q83 (xs:(cr.D)×(Int)):Option (((Int))×(Unit)):=
 let bx:cr.D:=xs.1
 let k_1:=xs.2
 let r_2:=Wh.q36' (bx.2.1,k_1)
 bif iy [nQ (Wh.q36 (bx.2.1,k_1))] then
  bif decide (r_2.1<(0:Int)) then
   some ((-1:Int),())
  else
   some (r_2.1,())
 else none
def Wh.q83':=en Wh.q83
theorem Wh.q83_v:OV Wh.q83 Wh.q83':=eB _
abbrev Wh.Pv:Type:=((Int)×(List (e_.D))×(Int))×(Unit)
abbrev Wh.Zi:Type:=((((Int))×(Unit))⊕(((Int))×(Unit)))
def Wh.Dq (x:Wh.Pv):Option (Wh.Pv⊕Wh.Zi):=
 let xZ:=x.1.1
 let D0:List (e_.D):=x.1.2.1
 let Ef:=x.1.2.2
 let r5:Int:=(↑(List.length D0):Int)
 bif decide (xZ<r5) then
  let so:e_.D:=List.getD D0 (Int.toNat xZ) ((0:Int),(0:Int),(0:Int),(0:Int),false,())
  bif iy [decide ((0:Int)≤xZ),decide (xZ<r5)] then
   bif(so.1 != Ef) then
    some (.inr (.inl ((-1:Int),())))
   else
    let nW:=IntKind.wrap .i64 (Ef+(1:Int))
    bif iy [decide ((0:Int)≤xZ),decide (xZ<r5)] then
     bif(so.2.1 != nW) then
      some (.inr (.inl ((-1:Int),())))
     else
      let y2:=IntKind.wrap .i64 (nW+(1:Int))
      bif iy [decide ((0:Int)≤xZ),decide (xZ<r5)] then
       bif(so.2.2.1 != y2) then
        some (.inr (.inl ((-1:Int),())))
       else
        let AJ:=IntKind.wrap .i64 (y2+(1:Int))
        let AK:Bool:=(so.2.2.2).1 != AJ
        bif iy [decide ((0:Int)≤xZ),decide (xZ<r5)] then
         bif AK then
          some (.inr (.inl ((-1:Int),())))
         else
          let Aa:=IntKind.wrap .i64 (AJ+(1:Int))
          bif iy [true,decide ((0:Int)≤xZ),decide (xZ<r5)] then
           bif(!so.2.2.2.2.1==((Int.tmod Aa (3:Int))==(0:Int))) then
            some (.inr (.inl ((-1:Int),())))
           else
            some (.inl (((IntKind.wrap .i64 (xZ+(1:Int))),D0,(IntKind.wrap .i64 (Aa+(1:Int)))),()))
          else none
        else none
      else none
    else none
  else none
 else
  some (.inr (.inr (Ef,())))
def Wh.Uj:(((Int))×(Unit))⊕(((Int))×(Unit)):=.inl default
def Wh.q22 (xs:(List (e_.D))×(Int)):Option (((Int))×(Unit)):=
 let bx:List (e_.D):=xs.1
 let k_1:=xs.2
 let DS:Wh.Pv:=(((0:Int),bx,k_1),())
 bif lF Wh.Dq DS then
  sumC (kG Wh.Dq Wh.Uj DS) (fun F9=>
   let F4:=F9.1
   some (F4,())) (fun z_42=>
   let k_44:=z_42.1
   some (k_44,()))
 else none
def Wh.q22':=en Wh.q22
theorem Wh.q22_v:OV Wh.q22 Wh.q22':=eB _
def Wh.q56 (xs:(gd.D)×(Int)):Option (((Int))×(Unit)):=
 let bx:gd.D:=xs.1
 let k_1:=xs.2
 let r_2:=Wh.q22' (bx.1,k_1)
 bif iy [nQ (Wh.q22 (bx.1,k_1))] then
  bif decide (r_2.1<(0:Int)) then
   some ((-1:Int),())
  else
   some (r_2.1,())
 else none
def Wh.q56':=en Wh.q56
theorem Wh.q56_v:OV Wh.q56 Wh.q56':=eB _
abbrev Wh.Pq:Type:=((Int)×(List (fN.D))×(Int))×(Unit)
abbrev Wh.Zg:Type:=((((Int))×(Unit))⊕(((Int))×(Unit)))
def Wh.Dn (x:Wh.Pq):Option (Wh.Pq⊕Wh.Zg):=
 let zb:=x.1.1
 let DZ:List (fN.D):=x.1.2.1
 let Ee:=x.1.2.2
 let nI:Int:=(↑(List.length DZ):Int)
 bif decide (zb<nI) then
  let yl:fN.D:=List.getD DZ (Int.toNat zb) ((0:Int),(0:Int),(0:Int),(0:Int),())
  bif iy [decide ((0:Int)≤zb),decide (zb<nI)] then
   bif(yl.1 != Ee) then
    some (.inr (.inl ((-1:Int),())))
   else
    let r5:=IntKind.wrap .i64 (Ee+(1:Int))
    bif iy [decide ((0:Int)≤zb),decide (zb<nI)] then
     bif(yl.2.1 != r5) then
      some (.inr (.inl ((-1:Int),())))
     else
      let so:=IntKind.wrap .i64 (r5+(1:Int))
      bif iy [decide ((0:Int)≤zb),decide (zb<nI)] then
       bif(yl.2.2.1 != so) then
        some (.inr (.inl ((-1:Int),())))
       else
        let nW:=IntKind.wrap .i64 (so+(1:Int))
        let za:Bool:=(yl.2.2.2).1 != nW
        bif iy [decide ((0:Int)≤zb),decide (zb<nI)] then
         bif za then
          some (.inr (.inl ((-1:Int),())))
         else
          some (.inl (((IntKind.wrap .i64 (zb+(1:Int))),DZ,(IntKind.wrap .i64 (nW+(1:Int)))),()))
        else none
      else none
    else none
  else none
 else
  some (.inr (.inr (Ee,())))
def Wh.Ug:(((Int))×(Unit))⊕(((Int))×(Unit)):=.inl default
def Wh.q16 (xs:(List (fN.D))×(Int)):Option (((Int))×(Unit)):=
 let bx:List (fN.D):=xs.1
 let k_1:=xs.2
 let x_32:Wh.Pq:=(((0:Int),bx,k_1),())
 bif lF Wh.Dn x_32 then
  sumC (kG Wh.Dn Wh.Ug x_32) (fun y_33=>
   let DQ:=y_33.1
   some (DQ,())) (fun z_34=>
   let k_36:=z_34.1
   some (k_36,()))
 else none
def Wh.q16':=en Wh.q16
theorem Wh.q16_v:OV Wh.q16 Wh.q16':=eB _
abbrev Wh.Pw:Type:=((Int)×(List (fT.D))×(Int))×(Unit)
abbrev Wh.Zj:Type:=((((Int))×(Unit))⊕(((Int))×(Unit)))
def Wh.Dr (x:Wh.Pw):Option (Wh.Pw⊕Wh.Zj):=
 let xZ:=x.1.1
 let D0:List (fT.D):=x.1.2.1
 let Ef:=x.1.2.2
 let r5:Int:=(↑(List.length D0):Int)
 bif decide (xZ<r5) then
  let so:fT.D:=List.getD D0 (Int.toNat xZ) ((0:Int),(0:Int),(0:Int),(0:Int),(0:Int),(0:Int),())
  bif iy [decide ((0:Int)≤xZ),decide (xZ<r5)] then
   bif(so.1 != Ef) then
    some (.inr (.inl ((-1:Int),())))
   else
    let nW:=IntKind.wrap .i64 (Ef+(1:Int))
    bif iy [decide ((0:Int)≤xZ),decide (xZ<r5)] then
     bif(so.2.1 != nW) then
      some (.inr (.inl ((-1:Int),())))
     else
      let y2:=IntKind.wrap .i64 (nW+(1:Int))
      bif iy [decide ((0:Int)≤xZ),decide (xZ<r5)] then
       bif(so.2.2.1 != y2) then
        some (.inr (.inl ((-1:Int),())))
       else
        let AJ:=IntKind.wrap .i64 (y2+(1:Int))
        let AK:Bool:=(so.2.2.2).1 != AJ
        bif iy [decide ((0:Int)≤xZ),decide (xZ<r5)] then
         bif AK then
          some (.inr (.inl ((-1:Int),())))
         else
          let Aa:=IntKind.wrap .i64 (AJ+(1:Int))
          bif iy [decide ((0:Int)≤xZ),decide (xZ<r5)] then
           bif(so.2.2.2.2.1 != Aa) then
            some (.inr (.inl ((-1:Int),())))
           else
            let ym:=IntKind.wrap .i64 (Aa+(1:Int))
            let v_37:Bool:=(so.2.2.2.2.2).1 != ym
            bif iy [decide ((0:Int)≤xZ),decide (xZ<r5)] then
             bif v_37 then
              some (.inr (.inl ((-1:Int),())))
             else
              some (.inl (((IntKind.wrap .i64 (xZ+(1:Int))),D0,(IntKind.wrap .i64 (ym+(1:Int)))),()))
            else none
          else none
        else none
      else none
    else none
  else none
 else
  some (.inr (.inr (Ef,())))
def Wh.Uk:(((Int))×(Unit))⊕(((Int))×(Unit)):=.inl default
def Wh.q23 (xs:(List (fT.D))×(Int)):Option (((Int))×(Unit)):=
 let bx:List (fT.D):=xs.1
 let k_1:=xs.2
 let DS:Wh.Pw:=(((0:Int),bx,k_1),())
 bif lF Wh.Dr DS then
  sumC (kG Wh.Dr Wh.Uk DS) (fun F9=>
   let F4:=F9.1
   some (F4,())) (fun z_42=>
   let k_44:=z_42.1
   some (k_44,()))
 else none
def Wh.q23':=en Wh.q23
theorem Wh.q23_v:OV Wh.q23 Wh.q23':=eB _
def Wh.Co (xs:(ct.D)×(Int)):Option (((Int))×(Unit)):=
 let bx:ct.D:=xs.1
 let k_1:=xs.2
 let r_2:=Wh.q83' ((bx.2.2.2).1,k_1)
 bif iy [nQ (Wh.q83 ((bx.2.2.2).1,k_1))] then
  bif decide (r_2.1<(0:Int)) then
   some ((-1:Int),())
  else
   let gz:=Wh.q56' (bx.2.2.2.2.1,r_2.1)
   bif iy [nQ (Wh.q56 (bx.2.2.2.2.1,r_2.1))] then
    bif decide (gz.1<(0:Int)) then
     some ((-1:Int),())
    else
     let xb:=Wh.q16' ((bx.2.2.2.2.2).1,gz.1)
     bif iy [nQ (Wh.q16 ((bx.2.2.2.2.2).1,gz.1))] then
      bif decide (xb.1<(0:Int)) then
       some ((-1:Int),())
      else
       let yS:=Wh.q23' ((bx.2.2.2.2.2).2.1,xb.1)
       bif iy [nQ (Wh.q23 ((bx.2.2.2.2.2).2.1,xb.1))] then
        bif decide (yS.1<(0:Int)) then
         some ((-1:Int),())
        else
         some (yS.1,())
       else none
     else none
   else none
 else none
def Wh.q24':=en Wh.Co
theorem Wh.q24_v:OV Wh.Co Wh.q24':=eB _
def Wh.EE (xs:(List UInt8)):Option (((Bool))×(Unit)):=
 let nG:=xs
 let r_1:(List (List UInt8)×Int)×Unit:=Wh.FN nG
 bif iy [nQ (Wh.A7 nG)] then
  let yp:=bif(r_1.1.2==(↑(List.length nG):Int)) then decide (r_1.1.2≤(9000:Int)) else false
  some (yp,())
 else none
def Wh.O9:=en Wh.EE
theorem Wh.T6:OV Wh.EE Wh.O9:=eB _
def Wh.Et (xs:(List UInt8)×(List UInt8)):Option (((List UInt8)×(Bool))×(Unit)):=
 let nG:=xs.1
 let n_:=xs.2
 let r_2:(List (List UInt8)×Int)×Unit:=Wh.FN nG
 bif iy [nQ (Wh.A7 nG)] then
  let r_3:=Wh.O9 nG
  let gz:=Wh.yh ((↑(List.length n_):Int),(1:Int),(500:Int))
  let vN:=bif !r_3.1 then true else !gz.1
  bif iy [!!!r_3.1 || nQ (Wh.xW ((↑(List.length n_):Int),(1:Int),(500:Int))),nQ (Wh.EE nG)] then
   bif vN then
    some (([],false),())
   else
    let xY:Int:=(↑(List.length r_2.1.1):Int)
    let AW:xT.D:=Wh.G6 (xY,n_)
    let x_11:List UInt8:=nG++AW.1
    bif iy [decide (List.length nG+List.length ((Wh.G6 (xY,n_)).1)≤dh),nQ (Wh.C_ (xY,n_))] then
     bif decide ((↑(List.length x_11):Int)>(9000:Int)) then
      some (([],false),())
     else
      some ((x_11,true),())
    else none
  else none
 else none
def Wh.OE:=en Wh.Et
theorem Wh.TE:OV Wh.Et Wh.OE:=eB _
def Wh.q91 (xs:(List UInt8)×(List UInt8)×(Int)):Option (((List UInt8))×(Unit)):=
 let nG:=xs.1
 let n_:=xs.2.1
 let zP:=xs.2.2
 let r_3:(List UInt8×Bool)×Unit:=Wh.OE (nG,n_)
 bif iy [nQ (Wh.Et (nG,n_))] then
  let vN:=bif(!r_3.1.2) then true else decide (zP<(0:Int))
  bif vN then
   some (nG,())
  else
   let xY:Int:=(↑(List.length r_3.1.1):Int)
   bif(decide (zP>IntKind.wrap .i64 (xY-(↑(List.length nG):Int)))) then
    some (r_3.1.1,())
   else
    let x_:=IntKind.wrap .i64 ((↑(List.length nG):Int)+zP)
    let yT:List UInt8:=List.take (Int.toNat (x_-(0:Int))) (List.drop (Int.toNat (0:Int)) r_3.1.1)
    bif iy [true,decide ((0:Int)≤x_),decide (x_≤xY)] then
     some (yT,())
    else none
 else none
def Wh.q91':=en Wh.q91
theorem Wh.q91_v:OV Wh.q91 Wh.q91':=eB _
def Wh.q28 (xs:(ct.D)×(List UInt8)×(Int)):Option ((((Bool)×((Int)×((List UInt8)×(((Int)×((List (an.D))×(Unit)))×(((List (e_.D))×((Int)×(Unit)))×((List (fN.D))×((List (fT.D))×(Unit)))))))))×(Unit)):=
 let fk:ct.D:=xs.1
 let n_:=xs.2.1
 let zP:=xs.2.2
 let r_3:=Wh.q67' fk
 bif iy [nQ (Wh.q67 fk)] then
  bif !r_3.1 then
   some ((false,(0:Int),[],((0:Int),[],()),([],(0:Int),()),[],[],()),())
  else
   let gz:((cr.D)×Bool)×Unit:=Wh.K0 ((fk.2.2.2).1,n_)
   bif iy [nQ (Wh.BD ((fk.2.2.2).1,n_))] then
    let vN:=bif fk.1 then gz.1.2 else false
    bif vN then
     let xb:xT.D:=Wh.q91' (fk.2.2.1,n_,zP)
     bif iy [nQ (Wh.q91 (fk.2.2.1,n_,zP))] then
      some ((false,fk.2.1,xb.1,((0:Int),[],()),([],(0:Int),()),[],[],()),())
     else none
    else
     some ((false,fk.2.1,fk.2.2.1,((0:Int),[],()),([],(0:Int),()),[],[],()),())
   else none
 else none
def Wh.q28':=en Wh.q28
theorem Wh.q28_v:OV Wh.q28 Wh.q28':=eB _
def Wh.q99 (xs:(List UInt8)×(List UInt8)):Option (((List UInt8)×(Bool))×(Unit)):=
 let nG:=xs.1
 let n_:=xs.2
 let r_2:(List (List UInt8)×Int)×Unit:=Wh.Lo nG
 bif iy [nQ (Wh.CC nG)] then
  let s4:=r_2.1.2 != (↑(List.length nG):Int)
  let xb:=Wh.yI ((↑(List.length n_):Int),(1:Int),(500:Int))
  let y3:=bif bif s4 then true else decide (r_2.1.2>(9000:Int)) then true else !xb.1
  bif iy [(!!bif s4 then true else decide (r_2.1.2>(9000:Int))) || nQ (Wh.x9 ((↑(List.length n_):Int),(1:Int),(500:Int)))] then
   bif y3 then
    some (([],false),())
   else
    let yW:Int:=(↑(List.length r_2.1.1):Int)
    let y_:xT.D:=Wh.Hq (yW,n_)
    let FG:List UInt8:=nG++y_.1
    bif iy [decide (List.length nG+List.length ((Wh.Hq (yW,n_)).1)≤dh),nQ (Wh.q78 (yW,n_))] then
     bif decide ((↑(List.length FG):Int)>(9000:Int)) then
      some (([],false),())
     else
      some ((FG,true),())
    else none
  else none
 else none
def Wh.q99':=en Wh.q99
theorem Wh.q99_v:OV Wh.q99 Wh.q99':=eB _
def Wh.q74 (xs:(List UInt8)×(List UInt8)×(Int)):Option (((List UInt8))×(Unit)):=
 let nG:=xs.1
 let n_:=xs.2.1
 let zP:=xs.2.2
 let r_3:(List UInt8×Bool)×Unit:=Wh.q99' (nG,n_)
 bif iy [nQ (Wh.q99 (nG,n_))] then
  bif(!r_3.1.2) then
   some (nG,())
  else
   let vN:Int:=if zP<(0:Int) then(0:Int) else zP
   let xY:Int:=(↑(List.length r_3.1.1):Int)
   let yT:List UInt8:=List.take (Int.toNat (IntKind.wrap .i64 ((↑(List.length nG):Int)+if IntKind.wrap .i64 (xY-(↑(List.length nG):Int))<vN then IntKind.wrap .i64 (xY-(↑(List.length nG):Int)) else vN)-(0:Int))) (List.drop (Int.toNat (0:Int)) r_3.1.1)
   bif iy [true,decide ((0:Int)≤IntKind.wrap .i64 ((↑(List.length nG):Int)+if IntKind.wrap .i64 (xY-(↑(List.length nG):Int))<vN then IntKind.wrap .i64 (xY-(↑(List.length nG):Int)) else vN)),decide (IntKind.wrap .i64 ((↑(List.length nG):Int)+if IntKind.wrap .i64 (xY-(↑(List.length nG):Int))<vN then IntKind.wrap .i64 (xY-(↑(List.length nG):Int)) else vN)≤xY)] then
    some (yT,())
   else none
 else none
def Wh.q74':=en Wh.q74
theorem Wh.q74_v:OV Wh.q74 Wh.q74':=eB _
def Wh.q14 (xs:(ct.D)×(List UInt8)×(Int)):Option (((ct.D))×(Unit)):=
 let fk:ct.D:=xs.1
 let n_:=xs.2.1
 let zP:=xs.2.2
 bif fk.1 then
  let r_3:((cr.D)×Bool)×Unit:=Wh.Lh ((fk.2.2.2).1,n_)
  bif iy [nQ (Wh.Cr ((fk.2.2.2).1,n_))] then
   bif r_3.1.2 then
    let gz:xT.D:=Wh.q74' (fk.2.2.1,n_,zP)
    bif iy [nQ (Wh.q74 (fk.2.2.1,n_,zP))] then
     some ((false,fk.2.1,gz.1,((0:Int),[],()),([],(0:Int),()),[],[],()),())
    else none
   else
    some ((false,fk.2.1,fk.2.2.1,((0:Int),[],()),([],(0:Int),()),[],[],()),())
  else none
 else
  some ((false,fk.2.1,fk.2.2.1,((0:Int),[],()),([],(0:Int),()),[],[],()),())
def Wh.q14':=en Wh.q14
theorem Wh.q14_v:OV Wh.q14 Wh.q14':=eB _
def Wh.Cn (xs:(ct.D)×(List UInt8)×(Int)):Option (((ct.D))×(Unit)):=
 let fk:ct.D:=xs.1
 let n_:=xs.2.1
 let zP:=xs.2.2
 let r_3:=Wh.q47' fk
 bif iy [nQ (Wh.q47 fk)] then
  bif !r_3.1 then
   some ((false,(0:Int),[],((0:Int),[],()),([],(0:Int),()),[],[],()),())
  else
   let gz:(ct.D)×Unit:=Wh.q14' (fk,n_,zP)
   bif iy [nQ (Wh.q14 (fk,n_,zP))] then
    some (gz.1,())
   else none
 else none
def Wh.q21':=en Wh.Cn
theorem Wh.q21_v:OV Wh.Cn Wh.q21':=eB _
def Wh.q5 (xs:(ct.D)×(List UInt8)×(Int)):Option (((Bool))×(Unit)):=
 let DY:ct.D:=xs.1
 let Fm:=xs.2.1
 let GG:=xs.2.2
 bif decide ((↑(List.length Fm):Int)>(1048576:Int)) then
  some (true,())
 else
  let gz:=Wh.q61' (DY,(1048576:Int))
  bif iy [nQ (Wh.q61 (DY,(1048576:Int)))] then
   bif decide (gz.1<(0:Int)) then
    some (true,())
   else
    let xb:(ct.D)×Unit:=Wh.q65' DY
    let nc:(ct.D)×Unit:=Wh.q28' (xb.1,Fm,GG)
    bif iy [nQ (Wh.q28 (xb.1,Fm,GG)),nQ (Wh.BI DY)] then
     bif iy [nQ (Wh.BI DY)] then
      let nC:(ct.D)×Unit:=Wh.q21' (xb.1,Fm,GG)
      bif iy [nQ (Wh.Cn (xb.1,Fm,GG))] then
       let r_26:=Wh.Ho (nC.1,nc.1.1,nc.1.2.1,(nc.1.2.2).1,((nc.1.2.2.2.1).1,(nc.1.2.2.2.1).2.1,(nc.1.2.2.2.1).2.2),((nc.1.2.2.2.2).1.1,(nc.1.2.2.2.2).1.2),(nc.1.2.2.2.2).2.1,(nc.1.2.2.2.2).2.2.1,(nc.1.2.2.2.2).2.2.2)
       bif iy [nQ (Wh.Ba (nC.1,nc.1.1,nc.1.2.1,(nc.1.2.2).1,((nc.1.2.2.2.1).1,(nc.1.2.2.2.1).2.1,(nc.1.2.2.2.1).2.2),((nc.1.2.2.2.2).1.1,(nc.1.2.2.2.2).1.2),(nc.1.2.2.2.2).2.1,(nc.1.2.2.2.2).2.2.1,(nc.1.2.2.2.2).2.2.2))] then
        bif !r_26.1 then
         some (false,())
        else
         let Lv:=Wh.Ho (xb.1,xb.1)
         bif iy [nQ (Wh.Ba (xb.1,xb.1)),nQ (Wh.BI DY)] then
          bif !Lv.1 then
           some (false,())
          else
           let r_29:Int×(ct.D)×Unit:=Wh.Lg (xb.1,(1:Int))
           bif iy [nQ (Wh.Cp (xb.1,(1:Int)))] then
            let y2:=decide (r_29.1<(0:Int))
            let Fa:=bif y2 then true else !r_26.1
            bif iy [!!y2 || nQ (Wh.Ba (nC.1,nc.1.1,nc.1.2.1,(nc.1.2.2).1,((nc.1.2.2.2.1).1,(nc.1.2.2.2.1).2.1,(nc.1.2.2.2.1).2.2),((nc.1.2.2.2.2).1.1,(nc.1.2.2.2.2).1.2),(nc.1.2.2.2.2).2.1,(nc.1.2.2.2.2).2.2.1,(nc.1.2.2.2.2).2.2.2))] then
             bif Fa then
              some (false,())
             else
              let nS:Int×(ct.D)×Unit:=Wh.Lg (nC.1,(1:Int))
              bif iy [nQ (Wh.Cp (nC.1,(1:Int)))] then
               let z7:=Wh.q24' ((nC.1.1,nC.1.2.1,(nC.1.2.2).1,((nC.1.2.2.2.1).1,(nS.2.1.2.2.2).1.2.1,(nC.1.2.2.2.1).2.2),((nS.2.1.2.2.2).2.1.1,(nC.1.2.2.2.2).1.2),(nS.2.1.2.2.2).2.2.1,(nS.2.1.2.2.2).2.2.2.1,(nC.1.2.2.2.2).2.2.2),(1:Int))
               bif iy [nQ (Wh.Co ((nC.1.1,nC.1.2.1,(nC.1.2.2).1,((nC.1.2.2.2.1).1,(nS.2.1.2.2.2).1.2.1,(nC.1.2.2.2.1).2.2),((nS.2.1.2.2.2).2.1.1,(nC.1.2.2.2.2).1.2),(nS.2.1.2.2.2).2.2.1,(nS.2.1.2.2.2).2.2.2.1,(nC.1.2.2.2.2).2.2.2),(1:Int)))] then
                let Aa:=decide (z7.1<(0:Int))
                bif Aa then
                 some (false,())
                else
                 let DQ:=z7.1 != nS.1
                 bif DQ then
                  some (false,())
                 else
                  bif iy [nQ (Wh.Cn (xb.1,Fm,GG)),nQ (Wh.BI DY)] then
                   let r_54:=Wh.Ho ((nC.1.1,nC.1.2.1,(nC.1.2.2).1,((nC.1.2.2.2.1).1,(nC.1.2.2.2.1).2.1,(nC.1.2.2.2.1).2.2),((nC.1.2.2.2.2).1.1,(nC.1.2.2.2.2).1.2),(nC.1.2.2.2.2).2.1,(nC.1.2.2.2.2).2.2.1,(nC.1.2.2.2.2).2.2.2),nc.1.1,nc.1.2.1,(nc.1.2.2).1,((nc.1.2.2.2.1).1,(nc.1.2.2.2.1).2.1,(nc.1.2.2.2.1).2.2),((nc.1.2.2.2.2).1.1,(nc.1.2.2.2.2).1.2),(nc.1.2.2.2.2).2.1,(nc.1.2.2.2.2).2.2.1,(nc.1.2.2.2.2).2.2.2)
                   bif iy [nQ (Wh.Ba ((nC.1.1,nC.1.2.1,(nC.1.2.2).1,((nC.1.2.2.2.1).1,(nC.1.2.2.2.1).2.1,(nC.1.2.2.2.1).2.2),((nC.1.2.2.2.2).1.1,(nC.1.2.2.2.2).1.2),(nC.1.2.2.2.2).2.1,(nC.1.2.2.2.2).2.2.1,(nC.1.2.2.2.2).2.2.2),nc.1.1,nc.1.2.1,(nc.1.2.2).1,((nc.1.2.2.2.1).1,(nc.1.2.2.2.1).2.1,(nc.1.2.2.2.1).2.2),((nc.1.2.2.2.2).1.1,(nc.1.2.2.2.2).1.2),(nc.1.2.2.2.2).2.1,(nc.1.2.2.2.2).2.2.1,(nc.1.2.2.2.2).2.2.2))] then
                    bif !r_54.1 then
                     some (false,())
                    else
                     bif iy [nQ (Wh.Co ((nC.1.1,nC.1.2.1,(nC.1.2.2).1,((nC.1.2.2.2.1).1,(nS.2.1.2.2.2).1.2.1,(nC.1.2.2.2.1).2.2),((nS.2.1.2.2.2).2.1.1,(nC.1.2.2.2.2).1.2),(nS.2.1.2.2.2).2.2.1,(nS.2.1.2.2.2).2.2.2.1,(nC.1.2.2.2.2).2.2.2),(1:Int)))] then
                      bif Aa then
                       some (false,())
                      else
                       bif DQ then
                        some (false,())
                       else
                        some (true,())
                     else none
                   else none
                  else none
               else none
              else none
            else none
           else none
         else none
       else none
      else none
     else none
    else none
  else none
def Wh.q5':=en Wh.q5
end
