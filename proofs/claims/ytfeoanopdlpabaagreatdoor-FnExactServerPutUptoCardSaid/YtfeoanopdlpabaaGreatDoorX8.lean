import Derived.Test.YtfeoanopdlpabaaGreatDoorX7
open Go Go.Ab
noncomputable section
def Wh.EL (xs:(bx.D)×(bx.D)):Option (((Bool))×(Unit)):=
 let cr:bx.D:=xs.1
 let b_1:bx.D:=xs.2
 bif(cr.1 != b_1.1) then
  some (false,())
 else
  let r_3:=Wh.q82' (cr.2.1,b_1.2.1)
  bif iy [nQ (Wh.q82 (cr.2.1,b_1.2.1))] then
   bif !r_3.1 then
    some (false,())
   else
    some (true,())
  else none
def Wh.Pn:=eB Wh.EL
theorem Wh.Ul:OV Wh.EL Wh.Pn:=fe _
def Wh.q81 (xs:(eA.D)×(eA.D)):Option (((Bool))×(Unit)):=
 let cr:eA.D:=xs.1
 let b_1:eA.D:=xs.2
 bif(cr.1 != b_1.1) then
  some (false,())
 else
  bif(cr.2.1 != b_1.2.1) then
   some (false,())
  else
   bif(cr.2.2.1 != b_1.2.2.1) then
    some (false,())
   else
    let xY:Bool:=(cr.2.2.2).1 != (b_1.2.2.2).1
    bif xY then
     some (false,())
    else
     bif(!cr.2.2.2.2.1==b_1.2.2.2.2.1) then
      some (false,())
     else
      some (true,())
def Wh.q81':=eB Wh.q81
theorem Wh.q81_v:OV Wh.q81 Wh.q81':=fe _
abbrev Wh.Qm:Type:=((Int)×(List (eA.D))×(List (eA.D)))×(Unit)
abbrev Wh.aac:Type:=((((Bool))×(Unit))⊕((Unit)×(Unit)))
def Wh.E0 (x:Wh.Qm):Option (Wh.Qm⊕Wh.aac):=
 let gT:=x.1.1
 let zU:List (eA.D):=x.1.2.1
 let zR:List (eA.D):=x.1.2.2
 let xe:Int:=(↑(List.length zR):Int)
 bif decide (gT<xe) then
  let nE:eA.D:=List.getD zR (Int.toNat gT) ((0:Int),(0:Int),(0:Int),(0:Int),false,())
  let w7:eA.D:=List.getD zU (Int.toNat gT) ((0:Int),(0:Int),(0:Int),(0:Int),false,())
  let zP:=Wh.q81' (nE,w7)
  bif iy [nQ (Wh.q81 (nE,w7)),decide ((0:Int)≤gT),decide (gT<(↑(List.length zU):Int)),decide ((0:Int)≤gT),decide (gT<xe)] then
   bif !zP.1 then
    some (.inr (.inl (false,())))
   else
    some (.inl (((IntKind.wrap .i64 (gT+(1:Int))),zU,zR),()))
  else none
 else
  some (.inr (.inr ((),())))
def Wh.U6:(((Bool))×(Unit))⊕((Unit)×(Unit)):=.inl default
def Wh.q55 (xs:(List (eA.D))×(List (eA.D))):Option (((Bool))×(Unit)):=
 let cr:List (eA.D):=xs.1
 let b_1:List (eA.D):=xs.2
 let v_2:Int:=(↑(List.length cr):Int)
 let r5:Int:=(↑(List.length b_1):Int)
 let yq:=v_2 != r5
 bif yq then
  some (false,())
 else
  let x_25:Wh.Qm:=(((0:Int),b_1,cr),())
  bif lF Wh.E0 x_25 then
   sumC (kG Wh.E0 Wh.U6 x_25) (fun Ae=>
    let nP:=Ae.1
    some (nP,())) (fun _=>
    some (true,()))
  else none
def Wh.q55':=eB Wh.q55
theorem Wh.q55_v:OV Wh.q55 Wh.q55':=fe _
def Wh.Ey (xs:(gd.D)×(gd.D)):Option (((Bool))×(Unit)):=
 let cr:gd.D:=xs.1
 let b_1:gd.D:=xs.2
 let r_2:=Wh.q55' (cr.1,b_1.1)
 bif iy [nQ (Wh.q55 (cr.1,b_1.1))] then
  bif !r_2.1 then
   some (false,())
  else
   bif(cr.2.1 != b_1.2.1) then
    some (false,())
   else
    some (true,())
 else none
def Wh.OQ:=eB Wh.Ey
theorem Wh.TX:OV Wh.Ey Wh.OQ:=fe _
def Wh.q54 (xs:(fN.D)×(fN.D)):Option (((Bool))×(Unit)):=
 let cr:fN.D:=xs.1
 let b_1:fN.D:=xs.2
 bif(cr.1 != b_1.1) then
  some (false,())
 else
  bif(cr.2.1 != b_1.2.1) then
   some (false,())
  else
   bif(cr.2.2.1 != b_1.2.2.1) then
    some (false,())
   else
    let xY:Bool:=(cr.2.2.2).1 != (b_1.2.2.2).1
    bif xY then
     some (false,())
    else
     some (true,())
def Wh.q54':=eB Wh.q54
theorem Wh.q54_v:OV Wh.q54 Wh.q54':=fe _
abbrev Wh.P4:Type:=((Int)×(List (fN.D))×(List (fN.D)))×(Unit)
abbrev Wh.ZV:Type:=((((Bool))×(Unit))⊕((Unit)×(Unit)))
def Wh.EX (x:Wh.P4):Option (Wh.P4⊕Wh.ZV):=
 let gT:=x.1.1
 let zU:List (fN.D):=x.1.2.1
 let zR:List (fN.D):=x.1.2.2
 let xe:Int:=(↑(List.length zR):Int)
 bif decide (gT<xe) then
  let nE:fN.D:=List.getD zR (Int.toNat gT) ((0:Int),(0:Int),(0:Int),(0:Int),())
  let w7:fN.D:=List.getD zU (Int.toNat gT) ((0:Int),(0:Int),(0:Int),(0:Int),())
  let zP:=Wh.q54' (nE,w7)
  bif iy [nQ (Wh.q54 (nE,w7)),decide ((0:Int)≤gT),decide (gT<(↑(List.length zU):Int)),decide ((0:Int)≤gT),decide (gT<xe)] then
   bif !zP.1 then
    some (.inr (.inl (false,())))
   else
    some (.inl (((IntKind.wrap .i64 (gT+(1:Int))),zU,zR),()))
  else none
 else
  some (.inr (.inr ((),())))
def Wh.UO:(((Bool))×(Unit))⊕((Unit)×(Unit)):=.inl default
def Wh.q36 (xs:(List (fN.D))×(List (fN.D))):Option (((Bool))×(Unit)):=
 let cr:List (fN.D):=xs.1
 let b_1:List (fN.D):=xs.2
 let v_2:Int:=(↑(List.length cr):Int)
 let r5:Int:=(↑(List.length b_1):Int)
 let yq:=v_2 != r5
 bif yq then
  some (false,())
 else
  let x_25:Wh.P4:=(((0:Int),b_1,cr),())
  bif lF Wh.EX x_25 then
   sumC (kG Wh.EX Wh.UO x_25) (fun Ae=>
    let nP:=Ae.1
    some (nP,())) (fun _=>
    some (true,()))
  else none
def Wh.q36':=eB Wh.q36
theorem Wh.q36_v:OV Wh.q36 Wh.q36':=fe _
def Wh.q83 (xs:(fT.D)×(fT.D)):Option (((Bool))×(Unit)):=
 let cr:fT.D:=xs.1
 let b_1:fT.D:=xs.2
 bif(cr.1 != b_1.1) then
  some (false,())
 else
  bif(cr.2.1 != b_1.2.1) then
   some (false,())
  else
   bif(cr.2.2.1 != b_1.2.2.1) then
    some (false,())
   else
    let xY:Bool:=(cr.2.2.2).1 != (b_1.2.2.2).1
    bif xY then
     some (false,())
    else
     bif(cr.2.2.2.2.1 != b_1.2.2.2.2.1) then
      some (false,())
     else
      let y4:Bool:=(cr.2.2.2.2.2).1 != (b_1.2.2.2.2.2).1
      bif y4 then
       some (false,())
      else
       some (true,())
def Wh.q83':=eB Wh.q83
theorem Wh.q83_v:OV Wh.q83 Wh.q83':=fe _
abbrev Wh.Qn:Type:=((Int)×(List (fT.D))×(List (fT.D)))×(Unit)
abbrev Wh.aad:Type:=((((Bool))×(Unit))⊕((Unit)×(Unit)))
def Wh.E3 (x:Wh.Qn):Option (Wh.Qn⊕Wh.aad):=
 let gT:=x.1.1
 let zU:List (fT.D):=x.1.2.1
 let zR:List (fT.D):=x.1.2.2
 let xe:Int:=(↑(List.length zR):Int)
 bif decide (gT<xe) then
  let nE:fT.D:=List.getD zR (Int.toNat gT) ((0:Int),(0:Int),(0:Int),(0:Int),(0:Int),(0:Int),())
  let w7:fT.D:=List.getD zU (Int.toNat gT) ((0:Int),(0:Int),(0:Int),(0:Int),(0:Int),(0:Int),())
  let zP:=Wh.q83' (nE,w7)
  bif iy [nQ (Wh.q83 (nE,w7)),decide ((0:Int)≤gT),decide (gT<(↑(List.length zU):Int)),decide ((0:Int)≤gT),decide (gT<xe)] then
   bif !zP.1 then
    some (.inr (.inl (false,())))
   else
    some (.inl (((IntKind.wrap .i64 (gT+(1:Int))),zU,zR),()))
  else none
 else
  some (.inr (.inr ((),())))
def Wh.U7:(((Bool))×(Unit))⊕((Unit)×(Unit)):=.inl default
def Wh.q56 (xs:(List (fT.D))×(List (fT.D))):Option (((Bool))×(Unit)):=
 let cr:List (fT.D):=xs.1
 let b_1:List (fT.D):=xs.2
 let v_2:Int:=(↑(List.length cr):Int)
 let r5:Int:=(↑(List.length b_1):Int)
 let yq:=v_2 != r5
 bif yq then
  some (false,())
 else
  let x_25:Wh.Qn:=(((0:Int),b_1,cr),())
  bif lF Wh.E3 x_25 then
   sumC (kG Wh.E3 Wh.U7 x_25) (fun Ae=>
    let nP:=Ae.1
    some (nP,())) (fun _=>
    some (true,()))
  else none
def Wh.q56':=eB Wh.q56
theorem Wh.q56_v:OV Wh.q56 Wh.q56':=fe _
def Wh.Bf (xs:(ct.D)×(ct.D)):Option (((Bool))×(Unit)):=
 let cr:ct.D:=xs.1
 let b_1:ct.D:=xs.2
 bif(!cr.1==b_1.1) then
  some (false,())
 else
  bif(cr.2.1 != b_1.2.1) then
   some (false,())
  else
   bif(!cr.2.2.1==b_1.2.2.1) then
    some (false,())
   else
    let xX:=Wh.Pn ((cr.2.2.2).1,(b_1.2.2.2).1)
    bif iy [nQ (Wh.EL ((cr.2.2.2).1,(b_1.2.2.2).1))] then
     bif !xX.1 then
      some (false,())
     else
      let x4:=Wh.OQ (cr.2.2.2.2.1,b_1.2.2.2.2.1)
      bif iy [nQ (Wh.Ey (cr.2.2.2.2.1,b_1.2.2.2.2.1))] then
       bif !x4.1 then
        some (false,())
       else
        let Aa:=Wh.q36' ((cr.2.2.2.2.2).1,(b_1.2.2.2.2.2).1)
        bif iy [nQ (Wh.q36 ((cr.2.2.2.2.2).1,(b_1.2.2.2.2.2).1))] then
         bif !Aa.1 then
          some (false,())
         else
          let xd:=Wh.q56' ((cr.2.2.2.2.2).2.1,(b_1.2.2.2.2.2).2.1)
          bif iy [nQ (Wh.q56 ((cr.2.2.2.2.2).2.1,(b_1.2.2.2.2.2).2.1))] then
           bif !xd.1 then
            some (false,())
           else
            some (true,())
          else none
        else none
      else none
    else none
def Wh.Hz:=eB Wh.Bf
theorem Wh.Qo:OV Wh.Bf Wh.Hz:=fe _
def Wh.q92 (xs:(gd.D)):Option ((((List (eA.D))×((Int)×(Unit))))×(Unit)):=
 let s_:gd.D:=xs
 let za:List (eA.D):=[]++s_.1
 bif iy [decide ((0:Nat)+List.length s_.1≤dh)] then
  some ((za,s_.2),())
 else none
def Wh.q92':=eB Wh.q92
theorem Wh.q92_v:OV Wh.q92 Wh.q92':=fe _
def Wh.q93 (xs:(ct.D)):Option ((((Bool)×((Int)×((List UInt8)×(((Int)×((List (an.D))×(Unit)))×(((List (eA.D))×((Int)×(Unit)))×((List (fN.D))×((List (fT.D))×(Unit)))))))))×(Unit)):=
 let cx:ct.D:=xs
 let r_1:(bx.D)×Unit:=Wh.EG ((cx.2.2.2).1)
 bif iy [nQ (Wh.Bb ((cx.2.2.2).1))] then
  let r_2:(gd.D)×Unit:=Wh.q92' (cx.2.2.2.2.1)
  bif iy [nQ (Wh.q92 (cx.2.2.2.2.1))] then
   let G_:List (fN.D):=[]++(cx.2.2.2.2.2).1
   bif iy [decide ((0:Nat)+List.length ((cx.2.2.2.2.2).1)≤dh)] then
    let Hf:List (fT.D):=[]++(cx.2.2.2.2.2).2.1
    bif iy [decide ((0:Nat)+List.length ((cx.2.2.2.2.2).2.1)≤dh)] then
     some ((cx.1,cx.2.1,cx.2.2.1,r_1.1,r_2.1,G_,Hf,(cx.2.2.2.2.2).2.2),())
    else none
   else none
  else none
 else none
def Wh.q93':=eB Wh.q93
theorem Wh.q93_v:OV Wh.q93 Wh.q93':=fe _
def Wh.q34 (xs:(gd.D)):Option ((((List (eA.D))×((Int)×(Unit))))×(Unit)):=
 let s_:gd.D:=xs
 let za:List (eA.D):=[]++s_.1
 bif iy [decide ((0:Nat)+List.length s_.1≤dh)] then
  some ((za,s_.2.1,()),())
 else none
def Wh.q34':=eB Wh.q34
theorem Wh.q34_v:OV Wh.q34 Wh.q34':=fe _
def Wh.q14 (xs:(ct.D)):Option ((((Bool)×((Int)×((List UInt8)×(((Int)×((List (an.D))×(Unit)))×(((List (eA.D))×((Int)×(Unit)))×((List (fN.D))×((List (fT.D))×(Unit)))))))))×(Unit)):=
 let cx:ct.D:=xs
 let r_1:(bx.D)×Unit:=Wh.F5 ((cx.2.2.2).1)
 bif iy [nQ (Wh.BN ((cx.2.2.2).1))] then
  let r_2:(gd.D)×Unit:=Wh.q34' (cx.2.2.2.2.1)
  bif iy [nQ (Wh.q34 (cx.2.2.2.2.1))] then
   let G_:List (fN.D):=[]++(cx.2.2.2.2.2).1
   bif iy [decide ((0:Nat)+List.length ((cx.2.2.2.2.2).1)≤dh)] then
    let Hf:List (fT.D):=[]++(cx.2.2.2.2.2).2.1
    bif iy [decide ((0:Nat)+List.length ((cx.2.2.2.2.2).2.1)≤dh)] then
     some ((cx.1,cx.2.1,cx.2.2.1,r_1.1,r_2.1,G_,Hf,(cx.2.2.2.2.2).2.2),())
    else none
   else none
  else none
 else none
def Wh.q14':=eB Wh.q14
theorem Wh.q14_v:OV Wh.q14 Wh.q14':=fe _
abbrev Wh.Qp:Type:=((Int)×(List UInt8))×(Unit)
abbrev Wh.aae:Type:=((((List UInt8))×(Unit)))
def Wh.DI (x:Wh.Qp):Option (Wh.Qp⊕Wh.aae):=
 let k_12:=x.1.1
 let FP:=x.1.2
 bif decide (k_12>(0:Int)) then
  let pb_15:List Int:=[IntKind.wrap .u8 (IntKind.wrap .i64 ((48:Int)+Int.tmod k_12 (10:Int)))]
  let out_20:List UInt8:=qp pb_15++FP
  bif iy [decide ((1:Nat)+List.length FP≤dh),true] then
   some (.inl (((IntKind.wrap .i64 (Int.tdiv k_12 (10:Int))),out_20),()))
  else none
 else
  some (.inr (FP,()))
def Wh.U8:(((List UInt8))×(Unit)):=default
def Wh.AX (xs:(Int)):Option (((List UInt8))×(Unit)):=
 let k_0:=xs
 bif decide (k_0≤(0:Int)) then
  some ([(109:UInt8),(48:UInt8)],())
 else
  let x_22:Wh.Qp:=((k_0,[]),())
  bif lF Wh.DI x_22 then
   let y_23:=kG Wh.DI Wh.U8 x_22
   let TG:=y_23.1
   let AK:List UInt8:=[(109:UInt8)]++TG
   bif iy [decide ((1:Nat)+List.length TG≤dh)] then
    some (AK,())
   else none
  else none
def Wh.E4:=eB Wh.AX
theorem Wh.F6:OV Wh.AX Wh.E4:=fe _
abbrev Wh.P6:Type:=((Int)×(Unit)×(Int))×((List (an.D)))
abbrev Wh.ZX:Type:=((((Int))×((List (an.D)))))
def Wh.DB (x:Wh.P6):Option (Wh.P6⊕Wh.ZX):=
 let yB:=x.1.1
 let Ej:=x.1.2.2
 let Bt:List (an.D):=x.2
 let w7:Int:=(↑(List.length Bt):Int)
 bif decide (yB<w7) then
  let AW:List (an.D):=List.set Bt (Int.toNat yB) (Ej,Prod.snd (List.getD Bt (Int.toNat yB) ((0:Int),[],(0:Int),[],())))
  bif iy [decide ((0:Int)≤yB),decide (yB<w7)] then
   let n5:=IntKind.wrap .i64 (Ej+(1:Int))
   let AY:xT.D:=Wh.E4 n5
   let G9:List (an.D):=List.set AW (Int.toNat yB) (Prod.fst (List.getD AW (Int.toNat yB) ((0:Int),[],(0:Int),[],())),AY.1,Prod.snd (Prod.snd (List.getD AW (Int.toNat yB) ((0:Int),[],(0:Int),[],()))))
   bif iy [decide ((0:Int)≤yB),decide (yB<(↑(List.length AW):Int)),nQ (Wh.AX n5)] then
    let DW:=IntKind.wrap .i64 (n5+(1:Int))
    let FU:List (an.D):=List.set G9 (Int.toNat yB) (Prod.fst (List.getD G9 (Int.toNat yB) ((0:Int),[],(0:Int),[],())),Prod.fst (Prod.snd (List.getD G9 (Int.toNat yB) ((0:Int),[],(0:Int),[],()))),DW,Prod.snd (Prod.snd (Prod.snd (List.getD G9 (Int.toNat yB) ((0:Int),[],(0:Int),[],())))))
    bif iy [decide ((0:Int)≤yB),decide (yB<(↑(List.length G9):Int))] then
     let yR:=IntKind.wrap .i64 (DW+(1:Int))
     let r_30:xT.D:=Wh.E4 yR
     let so:List (an.D):=List.set FU (Int.toNat yB) (Prod.fst (List.getD FU (Int.toNat yB) ((0:Int),[],(0:Int),[],())),Prod.fst (Prod.snd (List.getD FU (Int.toNat yB) ((0:Int),[],(0:Int),[],()))),Prod.fst (Prod.snd (Prod.snd (List.getD FU (Int.toNat yB) ((0:Int),[],(0:Int),[],())))),r_30.1,Prod.snd (Prod.snd (Prod.snd (Prod.snd (List.getD FU (Int.toNat yB) ((0:Int),[],(0:Int),[],()))))))
     bif iy [decide ((0:Int)≤yB),decide (yB<(↑(List.length FU):Int)),nQ (Wh.AX yR)] then
      some (.inl (((IntKind.wrap .i64 (yB+(1:Int))),(),(IntKind.wrap .i64 (yR+(1:Int)))),so))
     else none
    else none
   else none
  else none
 else
  some (.inr (Ej,Bt))
def Wh.UQ:(((Int))×((List (an.D)))):=default
def Wh.q38 (xs:(List (an.D))×(Int)):Option (((Int))×((List (an.D))×Unit)):=
 let cr:List (an.D):=xs.1
 let k_1:=xs.2
 let x_34:Wh.P6:=(((0:Int),(),k_1),cr)
 bif lF Wh.DB x_34 then
  let y_35:=kG Wh.DB Wh.UQ x_34
  let k_36:=y_35.1
  let OD:List (an.D):=y_35.2
  some (k_36,OD,())
 else none
def Wh.q38':=eB Wh.q38
theorem Wh.q38_v:OV Wh.q38 Wh.q38':=fe _
def Wh.q85 (xs:(bx.D)×(Int)):Option (((Int))×((bx.D)×Unit)):=
 let cr:bx.D:=xs.1
 let k_1:=xs.2
 let r_2:bx.D:=Wh.q38' (cr.2.1,k_1)
 bif iy [nQ (Wh.q38 (cr.2.1,k_1))] then
  some (r_2.1,(cr.1,r_2.2.1,cr.2.2),())
 else none
def Wh.q85':=eB Wh.q85
theorem Wh.q85_v:OV Wh.q85 Wh.q85':=fe _
abbrev Wh.PX:Type:=((Int)×(Unit)×(Int))×((List (eA.D)))
abbrev Wh.ZR:Type:=((((Int))×((List (eA.D)))))
def Wh.Dy (x:Wh.PX):Option (Wh.PX⊕Wh.ZR):=
 let lg:=x.1.1
 let A7:=x.1.2.2
 let AV:List (eA.D):=x.2
 let zg:Int:=(↑(List.length AV):Int)
 bif decide (lg<zg) then
  let zO:List (eA.D):=List.set AV (Int.toNat lg) (A7,Prod.snd (List.getD AV (Int.toNat lg) ((0:Int),(0:Int),(0:Int),(0:Int),false,())))
  bif iy [decide ((0:Int)≤lg),decide (lg<zg)] then
   let n_:=IntKind.wrap .i64 (A7+(1:Int))
   let x6:List (eA.D):=List.set zO (Int.toNat lg) (Prod.fst (List.getD zO (Int.toNat lg) ((0:Int),(0:Int),(0:Int),(0:Int),false,())),n_,Prod.snd (Prod.snd (List.getD zO (Int.toNat lg) ((0:Int),(0:Int),(0:Int),(0:Int),false,()))))
   bif iy [decide ((0:Int)≤lg),decide (lg<(↑(List.length zO):Int))] then
    let nP:=IntKind.wrap .i64 (n_+(1:Int))
    let x_:List (eA.D):=List.set x6 (Int.toNat lg) (Prod.fst (List.getD x6 (Int.toNat lg) ((0:Int),(0:Int),(0:Int),(0:Int),false,())),Prod.fst (Prod.snd (List.getD x6 (Int.toNat lg) ((0:Int),(0:Int),(0:Int),(0:Int),false,()))),nP,Prod.snd (Prod.snd (Prod.snd (List.getD x6 (Int.toNat lg) ((0:Int),(0:Int),(0:Int),(0:Int),false,())))))
    bif iy [decide ((0:Int)≤lg),decide (lg<(↑(List.length x6):Int))] then
     let y3:=IntKind.wrap .i64 (nP+(1:Int))
     let so:List (eA.D):=List.set x_ (Int.toNat lg) (Prod.fst (List.getD x_ (Int.toNat lg) ((0:Int),(0:Int),(0:Int),(0:Int),false,())),Prod.fst (Prod.snd (List.getD x_ (Int.toNat lg) ((0:Int),(0:Int),(0:Int),(0:Int),false,()))),Prod.fst (Prod.snd (Prod.snd (List.getD x_ (Int.toNat lg) ((0:Int),(0:Int),(0:Int),(0:Int),false,())))),y3,Prod.snd (Prod.snd (Prod.snd (Prod.snd (List.getD x_ (Int.toNat lg) ((0:Int),(0:Int),(0:Int),(0:Int),false,()))))))
     bif iy [decide ((0:Int)≤lg),decide (lg<(↑(List.length x_):Int))] then
      let AL:=IntKind.wrap .i64 (y3+(1:Int))
      let xS:List (eA.D):=List.set so (Int.toNat lg) (Prod.fst (List.getD so (Int.toNat lg) ((0:Int),(0:Int),(0:Int),(0:Int),false,())),Prod.fst (Prod.snd (List.getD so (Int.toNat lg) ((0:Int),(0:Int),(0:Int),(0:Int),false,()))),Prod.fst (Prod.snd (Prod.snd (List.getD so (Int.toNat lg) ((0:Int),(0:Int),(0:Int),(0:Int),false,())))),Prod.fst (Prod.snd (Prod.snd (Prod.snd (List.getD so (Int.toNat lg) ((0:Int),(0:Int),(0:Int),(0:Int),false,()))))),Int.tmod AL (3:Int)==(0:Int),Prod.snd (Prod.snd (Prod.snd (Prod.snd (Prod.snd (List.getD so (Int.toNat lg) ((0:Int),(0:Int),(0:Int),(0:Int),false,())))))))
      bif iy [decide ((0:Int)≤lg),decide (lg<(↑(List.length so):Int)),true] then
       some (.inl (((IntKind.wrap .i64 (lg+(1:Int))),(),(IntKind.wrap .i64 (AL+(1:Int)))),xS))
      else none
     else none
    else none
   else none
  else none
 else
  some (.inr (A7,AV))
def Wh.UJ:(((Int))×((List (eA.D)))):=default
def Wh.q25 (xs:(List (eA.D))×(Int)):Option (((Int))×((List (eA.D))×Unit)):=
 let cr:List (eA.D):=xs.1
 let k_1:=xs.2
 let H_:Wh.PX:=(((0:Int),(),k_1),cr)
 bif lF Wh.Dy H_ then
  let Ii:=kG Wh.Dy Wh.UJ H_
  let G2:=Ii.1
  let AB:List (eA.D):=Ii.2
  some (G2,AB,())
 else none
def Wh.q25':=eB Wh.q25
theorem Wh.q25_v:OV Wh.q25 Wh.q25':=fe _
def Wh.q59 (xs:(gd.D)×(Int)):Option (((Int))×((gd.D)×Unit)):=
 let cr:gd.D:=xs.1
 let k_1:=xs.2
 let r_2:Int×List (eA.D)×Unit:=Wh.q25' (cr.1,k_1)
 bif iy [nQ (Wh.q25 (cr.1,k_1))] then
  some (r_2.1,(r_2.2.1,cr.2),())
 else none
def Wh.q59':=eB Wh.q59
theorem Wh.q59_v:OV Wh.q59 Wh.q59':=fe _
abbrev Wh.PO:Type:=((Int)×(Unit)×(Int))×((List (fN.D)))
abbrev Wh.ZO:Type:=((((Int))×((List (fN.D)))))
def Wh.Dv (x:Wh.PO):Option (Wh.PO⊕Wh.ZO):=
 let xZ:=x.1.1
 let k_17:=x.1.2.2
 let FR:List (fN.D):=x.2
 let nI:Int:=(↑(List.length FR):Int)
 bif decide (xZ<nI) then
  let Et:List (fN.D):=List.set FR (Int.toNat xZ) (k_17,Prod.snd (List.getD FR (Int.toNat xZ) ((0:Int),(0:Int),(0:Int),(0:Int),())))
  bif iy [decide ((0:Int)≤xZ),decide (xZ<nI)] then
   let ym:=IntKind.wrap .i64 (k_17+(1:Int))
   let AW:List (fN.D):=List.set Et (Int.toNat xZ) (Prod.fst (List.getD Et (Int.toNat xZ) ((0:Int),(0:Int),(0:Int),(0:Int),())),ym,Prod.snd (Prod.snd (List.getD Et (Int.toNat xZ) ((0:Int),(0:Int),(0:Int),(0:Int),()))))
   bif iy [decide ((0:Int)≤xZ),decide (xZ<(↑(List.length Et):Int))] then
    let n5:=IntKind.wrap .i64 (ym+(1:Int))
    let zO:List (fN.D):=List.set AW (Int.toNat xZ) (Prod.fst (List.getD AW (Int.toNat xZ) ((0:Int),(0:Int),(0:Int),(0:Int),())),Prod.fst (Prod.snd (List.getD AW (Int.toNat xZ) ((0:Int),(0:Int),(0:Int),(0:Int),()))),n5,Prod.snd (Prod.snd (Prod.snd (List.getD AW (Int.toNat xZ) ((0:Int),(0:Int),(0:Int),(0:Int),())))))
    bif iy [decide ((0:Int)≤xZ),decide (xZ<(↑(List.length AW):Int))] then
     let n_:=IntKind.wrap .i64 (n5+(1:Int))
     let x6:List (fN.D):=List.set zO (Int.toNat xZ) (Prod.fst (List.getD zO (Int.toNat xZ) ((0:Int),(0:Int),(0:Int),(0:Int),())),Prod.fst (Prod.snd (List.getD zO (Int.toNat xZ) ((0:Int),(0:Int),(0:Int),(0:Int),()))),Prod.fst (Prod.snd (Prod.snd (List.getD zO (Int.toNat xZ) ((0:Int),(0:Int),(0:Int),(0:Int),())))),n_,Prod.snd (Prod.snd (Prod.snd (Prod.snd (List.getD zO (Int.toNat xZ) ((0:Int),(0:Int),(0:Int),(0:Int),()))))))
     bif iy [decide ((0:Int)≤xZ),decide (xZ<(↑(List.length zO):Int))] then
      some (.inl (((IntKind.wrap .i64 (xZ+(1:Int))),(),(IntKind.wrap .i64 (n_+(1:Int)))),x6))
     else none
    else none
   else none
  else none
 else
  some (.inr (k_17,FR))
def Wh.UF:(((Int))×((List (fN.D)))):=default
def Wh.q17 (xs:(List (fN.D))×(Int)):Option (((Int))×((List (fN.D))×Unit)):=
 let cr:List (fN.D):=xs.1
 let k_1:=xs.2
 let H8:Wh.PO:=(((0:Int),(),k_1),cr)
 bif lF Wh.Dv H8 then
  let Fp:=kG Wh.Dv Wh.UF H8
  let k_32:=Fp.1
  let xS:List (fN.D):=Fp.2
  some (k_32,xS,())
 else none
def Wh.q17':=eB Wh.q17
theorem Wh.q17_v:OV Wh.q17 Wh.q17':=fe _
abbrev Wh.PY:Type:=((Int)×(Unit)×(Int))×((List (fT.D)))
abbrev Wh.ZS:Type:=((((Int))×((List (fT.D)))))
def Wh.Dz (x:Wh.PY):Option (Wh.PY⊕Wh.ZS):=
 let lg:=x.1.1
 let A7:=x.1.2.2
 let AV:List (fT.D):=x.2
 let zg:Int:=(↑(List.length AV):Int)
 bif decide (lg<zg) then
  let zO:List (fT.D):=List.set AV (Int.toNat lg) (A7,Prod.snd (List.getD AV (Int.toNat lg) ((0:Int),(0:Int),(0:Int),(0:Int),(0:Int),(0:Int),())))
  bif iy [decide ((0:Int)≤lg),decide (lg<zg)] then
   let n_:=IntKind.wrap .i64 (A7+(1:Int))
   let x6:List (fT.D):=List.set zO (Int.toNat lg) (Prod.fst (List.getD zO (Int.toNat lg) ((0:Int),(0:Int),(0:Int),(0:Int),(0:Int),(0:Int),())),n_,Prod.snd (Prod.snd (List.getD zO (Int.toNat lg) ((0:Int),(0:Int),(0:Int),(0:Int),(0:Int),(0:Int),()))))
   bif iy [decide ((0:Int)≤lg),decide (lg<(↑(List.length zO):Int))] then
    let nP:=IntKind.wrap .i64 (n_+(1:Int))
    let x_:List (fT.D):=List.set x6 (Int.toNat lg) (Prod.fst (List.getD x6 (Int.toNat lg) ((0:Int),(0:Int),(0:Int),(0:Int),(0:Int),(0:Int),())),Prod.fst (Prod.snd (List.getD x6 (Int.toNat lg) ((0:Int),(0:Int),(0:Int),(0:Int),(0:Int),(0:Int),()))),nP,Prod.snd (Prod.snd (Prod.snd (List.getD x6 (Int.toNat lg) ((0:Int),(0:Int),(0:Int),(0:Int),(0:Int),(0:Int),())))))
    bif iy [decide ((0:Int)≤lg),decide (lg<(↑(List.length x6):Int))] then
     let y3:=IntKind.wrap .i64 (nP+(1:Int))
     let so:List (fT.D):=List.set x_ (Int.toNat lg) (Prod.fst (List.getD x_ (Int.toNat lg) ((0:Int),(0:Int),(0:Int),(0:Int),(0:Int),(0:Int),())),Prod.fst (Prod.snd (List.getD x_ (Int.toNat lg) ((0:Int),(0:Int),(0:Int),(0:Int),(0:Int),(0:Int),()))),Prod.fst (Prod.snd (Prod.snd (List.getD x_ (Int.toNat lg) ((0:Int),(0:Int),(0:Int),(0:Int),(0:Int),(0:Int),())))),y3,Prod.snd (Prod.snd (Prod.snd (Prod.snd (List.getD x_ (Int.toNat lg) ((0:Int),(0:Int),(0:Int),(0:Int),(0:Int),(0:Int),()))))))
     bif iy [decide ((0:Int)≤lg),decide (lg<(↑(List.length x_):Int))] then
      let AL:=IntKind.wrap .i64 (y3+(1:Int))
      let xS:List (fT.D):=List.set so (Int.toNat lg) (Prod.fst (List.getD so (Int.toNat lg) ((0:Int),(0:Int),(0:Int),(0:Int),(0:Int),(0:Int),())),Prod.fst (Prod.snd (List.getD so (Int.toNat lg) ((0:Int),(0:Int),(0:Int),(0:Int),(0:Int),(0:Int),()))),Prod.fst (Prod.snd (Prod.snd (List.getD so (Int.toNat lg) ((0:Int),(0:Int),(0:Int),(0:Int),(0:Int),(0:Int),())))),Prod.fst (Prod.snd (Prod.snd (Prod.snd (List.getD so (Int.toNat lg) ((0:Int),(0:Int),(0:Int),(0:Int),(0:Int),(0:Int),()))))),AL,Prod.snd (Prod.snd (Prod.snd (Prod.snd (Prod.snd (List.getD so (Int.toNat lg) ((0:Int),(0:Int),(0:Int),(0:Int),(0:Int),(0:Int),())))))))
      bif iy [decide ((0:Int)≤lg),decide (lg<(↑(List.length so):Int))] then
       let A0:=IntKind.wrap .i64 (AL+(1:Int))
       let He:List (fT.D):=List.set xS (Int.toNat lg) (Prod.fst (List.getD xS (Int.toNat lg) ((0:Int),(0:Int),(0:Int),(0:Int),(0:Int),(0:Int),())),Prod.fst (Prod.snd (List.getD xS (Int.toNat lg) ((0:Int),(0:Int),(0:Int),(0:Int),(0:Int),(0:Int),()))),Prod.fst (Prod.snd (Prod.snd (List.getD xS (Int.toNat lg) ((0:Int),(0:Int),(0:Int),(0:Int),(0:Int),(0:Int),())))),Prod.fst (Prod.snd (Prod.snd (Prod.snd (List.getD xS (Int.toNat lg) ((0:Int),(0:Int),(0:Int),(0:Int),(0:Int),(0:Int),()))))),Prod.fst (Prod.snd (Prod.snd (Prod.snd (Prod.snd (List.getD xS (Int.toNat lg) ((0:Int),(0:Int),(0:Int),(0:Int),(0:Int),(0:Int),())))))),A0,Prod.snd (Prod.snd (Prod.snd (Prod.snd (Prod.snd (Prod.snd (List.getD xS (Int.toNat lg) ((0:Int),(0:Int),(0:Int),(0:Int),(0:Int),(0:Int),()))))))))
       bif iy [decide ((0:Int)≤lg),decide (lg<(↑(List.length xS):Int))] then
        some (.inl (((IntKind.wrap .i64 (lg+(1:Int))),(),(IntKind.wrap .i64 (A0+(1:Int)))),He))
       else none
      else none
     else none
    else none
   else none
  else none
 else
  some (.inr (A7,AV))
def Wh.UK:(((Int))×((List (fT.D)))):=default
def Wh.q26 (xs:(List (fT.D))×(Int)):Option (((Int))×((List (fT.D))×Unit)):=
 let cr:List (fT.D):=xs.1
 let k_1:=xs.2
 let H_:Wh.PY:=(((0:Int),(),k_1),cr)
 bif lF Wh.Dz H_ then
  let Ii:=kG Wh.Dz Wh.UK H_
  let G2:=Ii.1
  let AB:List (fT.D):=Ii.2
  some (G2,AB,())
 else none
def Wh.q26':=eB Wh.q26
theorem Wh.q26_v:OV Wh.q26 Wh.q26':=fe _
def Wh.Cw (xs:(ct.D)×(Int)):Option (((Int))×((ct.D)×Unit)):=
 let cr:ct.D:=xs.1
 let k_1:=xs.2
 let r_2:Int×(bx.D)×Unit:=Wh.q85' ((cr.2.2.2).1,k_1)
 bif iy [nQ (Wh.q85 ((cr.2.2.2).1,k_1))] then
  let r_3:Int×(gd.D)×Unit:=Wh.q59' (cr.2.2.2.2.1,r_2.1)
  bif iy [nQ (Wh.q59 (cr.2.2.2.2.1,r_2.1))] then
   let gz:Int×List (fN.D)×Unit:=Wh.q17' ((cr.2.2.2.2.2).1,r_3.1)
   bif iy [nQ (Wh.q17 ((cr.2.2.2.2.2).1,r_3.1))] then
    let xX:Int×List (fT.D)×Unit:=Wh.q26' ((cr.2.2.2.2.2).2.1,gz.1)
    bif iy [nQ (Wh.q26 ((cr.2.2.2.2.2).2.1,gz.1))] then
     some (xX.1,(cr.1,cr.2.1,cr.2.2.1,((cr.2.2.2).1.1,(r_2.2.1.2).1,(cr.2.2.2).1.2.2),(r_3.2.1.1,(cr.2.2.2.2.1).2),gz.2.1,xX.2.1,(cr.2.2.2.2.2).2.2),())
    else none
   else none
  else none
 else none
def Wh.Lz:=eB Wh.Cw
theorem Wh.PZ:OV Wh.Cw Wh.Lz:=fe _
abbrev Wh.P5:Type:=((Int)×(List (an.D))×(Int))×(Unit)
abbrev Wh.ZW:Type:=((((Int))×(Unit))⊕(((Int))×(Unit)))
def Wh.DA (x:Wh.P5):Option (Wh.P5⊕Wh.ZW):=
 let A6:=x.1.1
 let a_20:List (an.D):=x.1.2.1
 let A7:=x.1.2.2
 let ym:Int:=(↑(List.length a_20):Int)
 bif decide (A6<ym) then
  let n5:an.D:=List.getD a_20 (Int.toNat A6) ((0:Int),[],(0:Int),[],())
  bif iy [decide ((0:Int)≤A6),decide (A6<ym)] then
   bif(n5.1 != A7) then
    some (.inr (.inl ((-1:Int),())))
   else
    let n_:=IntKind.wrap .i64 (A7+(1:Int))
    let yD:xT.D:=Wh.E4 n_
    bif iy [nQ (Wh.AX n_),decide ((0:Int)≤A6),decide (A6<ym)] then
     bif(!n5.2.1==yD.1) then
      some (.inr (.inl ((-1:Int),())))
     else
      let yR:=IntKind.wrap .i64 (n_+(1:Int))
      bif iy [decide ((0:Int)≤A6),decide (A6<ym)] then
       bif(n5.2.2.1 != yR) then
        some (.inr (.inl ((-1:Int),())))
       else
        let HT:=IntKind.wrap .i64 (yR+(1:Int))
        let th:xT.D:=Wh.E4 HT
        bif iy [nQ (Wh.AX HT),decide ((0:Int)≤A6),decide (A6<ym)] then
         bif(!(n5.2.2.2).1==th.1) then
          some (.inr (.inl ((-1:Int),())))
         else
          some (.inl (((IntKind.wrap .i64 (A6+(1:Int))),a_20,(IntKind.wrap .i64 (HT+(1:Int)))),()))
        else none
      else none
    else none
  else none
 else
  some (.inr (.inr (A7,())))
def Wh.UP:(((Int))×(Unit))⊕(((Int))×(Unit)):=.inl default
def Wh.q37 (xs:(List (an.D))×(Int)):Option (((Int))×(Unit)):=
 let cr:List (an.D):=xs.1
 let k_1:=xs.2
 let x_36:Wh.P5:=(((0:Int),cr,k_1),())
 bif lF Wh.DA x_36 then
  sumC (kG Wh.DA Wh.UP x_36) (fun y_37=>
   let Fj:=y_37.1
   some (Fj,())) (fun z_38=>
   let G2:=z_38.1
   some (G2,()))
 else none
def Wh.q37':=eB Wh.q37
theorem Wh.q37_v:OV Wh.q37 Wh.q37':=fe _
def Wh.q84 (xs:(bx.D)×(Int)):Option (((Int))×(Unit)):=
 let cr:bx.D:=xs.1
 let k_1:=xs.2
 let r_2:=Wh.q37' (cr.2.1,k_1)
 bif iy [nQ (Wh.q37 (cr.2.1,k_1))] then
  bif decide (r_2.1<(0:Int)) then
   some ((-1:Int),())
  else
   some (r_2.1,())
 else none
def Wh.q84':=eB Wh.q84
theorem Wh.q84_v:OV Wh.q84 Wh.q84':=fe _
abbrev Wh.PV:Type:=((Int)×(List (eA.D))×(Int))×(Unit)
abbrev Wh.ZP:Type:=((((Int))×(Unit))⊕(((Int))×(Unit)))
def Wh.Dw (x:Wh.PV):Option (Wh.PV⊕Wh.ZP):=
 let x5:=x.1.1
 let D8:List (eA.D):=x.1.2.1
 let Ek:=x.1.2.2
 let n5:Int:=(↑(List.length D8):Int)
 bif decide (x5<n5) then
  let n_:eA.D:=List.getD D8 (Int.toNat x5) ((0:Int),(0:Int),(0:Int),(0:Int),false,())
  bif iy [decide ((0:Int)≤x5),decide (x5<n5)] then
   bif(n_.1 != Ek) then
    some (.inr (.inl ((-1:Int),())))
   else
    let nP:=IntKind.wrap .i64 (Ek+(1:Int))
    bif iy [decide ((0:Int)≤x5),decide (x5<n5)] then
     bif(n_.2.1 != nP) then
      some (.inr (.inl ((-1:Int),())))
     else
      let y3:=IntKind.wrap .i64 (nP+(1:Int))
      bif iy [decide ((0:Int)≤x5),decide (x5<n5)] then
       bif(n_.2.2.1 != y3) then
        some (.inr (.inl ((-1:Int),())))
       else
        let AL:=IntKind.wrap .i64 (y3+(1:Int))
        let AM:Bool:=(n_.2.2.2).1 != AL
        bif iy [decide ((0:Int)≤x5),decide (x5<n5)] then
         bif AM then
          some (.inr (.inl ((-1:Int),())))
         else
          let A0:=IntKind.wrap .i64 (AL+(1:Int))
          bif iy [true,decide ((0:Int)≤x5),decide (x5<n5)] then
           bif(!n_.2.2.2.2.1==((Int.tmod A0 (3:Int))==(0:Int))) then
            some (.inr (.inl ((-1:Int),())))
           else
            some (.inl (((IntKind.wrap .i64 (x5+(1:Int))),D8,(IntKind.wrap .i64 (A0+(1:Int)))),()))
          else none
        else none
      else none
    else none
  else none
 else
  some (.inr (.inr (Ek,())))
def Wh.UH:(((Int))×(Unit))⊕(((Int))×(Unit)):=.inl default
def Wh.q22 (xs:(List (eA.D))×(Int)):Option (((Int))×(Unit)):=
 let cr:List (eA.D):=xs.1
 let k_1:=xs.2
 let DZ:Wh.PV:=(((0:Int),cr,k_1),())
 bif lF Wh.Dw DZ then
  sumC (kG Wh.Dw Wh.UH DZ) (fun Gj=>
   let Gd:=Gj.1
   some (Gd,())) (fun z_42=>
   let k_44:=z_42.1
   some (k_44,()))
 else none
def Wh.q22':=eB Wh.q22
theorem Wh.q22_v:OV Wh.q22 Wh.q22':=fe _
def Wh.q58 (xs:(gd.D)×(Int)):Option (((Int))×(Unit)):=
 let cr:gd.D:=xs.1
 let k_1:=xs.2
 let r_2:=Wh.q22' (cr.1,k_1)
 bif iy [nQ (Wh.q22 (cr.1,k_1))] then
  bif decide (r_2.1<(0:Int)) then
   some ((-1:Int),())
  else
   some (r_2.1,())
 else none
def Wh.q58':=eB Wh.q58
theorem Wh.q58_v:OV Wh.q58 Wh.q58':=fe _
abbrev Wh.PN:Type:=((Int)×(List (fN.D))×(Int))×(Unit)
abbrev Wh.ZN:Type:=((((Int))×(Unit))⊕(((Int))×(Unit)))
def Wh.Du (x:Wh.PN):Option (Wh.PN⊕Wh.ZN):=
 let zj:=x.1.1
 let D7:List (fN.D):=x.1.2.1
 let Ej:=x.1.2.2
 let nE:Int:=(↑(List.length D7):Int)
 bif decide (zj<nE) then
  let ym:fN.D:=List.getD D7 (Int.toNat zj) ((0:Int),(0:Int),(0:Int),(0:Int),())
  bif iy [decide ((0:Int)≤zj),decide (zj<nE)] then
   bif(ym.1 != Ej) then
    some (.inr (.inl ((-1:Int),())))
   else
    let n5:=IntKind.wrap .i64 (Ej+(1:Int))
    bif iy [decide ((0:Int)≤zj),decide (zj<nE)] then
     bif(ym.2.1 != n5) then
      some (.inr (.inl ((-1:Int),())))
     else
      let n_:=IntKind.wrap .i64 (n5+(1:Int))
      bif iy [decide ((0:Int)≤zj),decide (zj<nE)] then
       bif(ym.2.2.1 != n_) then
        some (.inr (.inl ((-1:Int),())))
       else
        let nP:=IntKind.wrap .i64 (n_+(1:Int))
        let yR:Bool:=(ym.2.2.2).1 != nP
        bif iy [decide ((0:Int)≤zj),decide (zj<nE)] then
         bif yR then
          some (.inr (.inl ((-1:Int),())))
         else
          some (.inl (((IntKind.wrap .i64 (zj+(1:Int))),D7,(IntKind.wrap .i64 (nP+(1:Int)))),()))
        else none
      else none
    else none
  else none
 else
  some (.inr (.inr (Ej,())))
def Wh.UE:(((Int))×(Unit))⊕(((Int))×(Unit)):=.inl default
def Wh.q16 (xs:(List (fN.D))×(Int)):Option (((Int))×(Unit)):=
 let cr:List (fN.D):=xs.1
 let k_1:=xs.2
 let x_32:Wh.PN:=(((0:Int),cr,k_1),())
 bif lF Wh.Du x_32 then
  sumC (kG Wh.Du Wh.UE x_32) (fun y_33=>
   let HU:=y_33.1
   some (HU,())) (fun z_34=>
   let k_36:=z_34.1
   some (k_36,()))
 else none
def Wh.q16':=eB Wh.q16
theorem Wh.q16_v:OV Wh.q16 Wh.q16':=fe _
abbrev Wh.PW:Type:=((Int)×(List (fT.D))×(Int))×(Unit)
abbrev Wh.ZQ:Type:=((((Int))×(Unit))⊕(((Int))×(Unit)))
def Wh.Dx (x:Wh.PW):Option (Wh.PW⊕Wh.ZQ):=
 let x5:=x.1.1
 let D8:List (fT.D):=x.1.2.1
 let Ek:=x.1.2.2
 let n5:Int:=(↑(List.length D8):Int)
 bif decide (x5<n5) then
  let n_:fT.D:=List.getD D8 (Int.toNat x5) ((0:Int),(0:Int),(0:Int),(0:Int),(0:Int),(0:Int),())
  bif iy [decide ((0:Int)≤x5),decide (x5<n5)] then
   bif(n_.1 != Ek) then
    some (.inr (.inl ((-1:Int),())))
   else
    let nP:=IntKind.wrap .i64 (Ek+(1:Int))
    bif iy [decide ((0:Int)≤x5),decide (x5<n5)] then
     bif(n_.2.1 != nP) then
      some (.inr (.inl ((-1:Int),())))
     else
      let y3:=IntKind.wrap .i64 (nP+(1:Int))
      bif iy [decide ((0:Int)≤x5),decide (x5<n5)] then
       bif(n_.2.2.1 != y3) then
        some (.inr (.inl ((-1:Int),())))
       else
        let AL:=IntKind.wrap .i64 (y3+(1:Int))
        let AM:Bool:=(n_.2.2.2).1 != AL
        bif iy [decide ((0:Int)≤x5),decide (x5<n5)] then
         bif AM then
          some (.inr (.inl ((-1:Int),())))
         else
          let A0:=IntKind.wrap .i64 (AL+(1:Int))
          bif iy [decide ((0:Int)≤x5),decide (x5<n5)] then
           bif(n_.2.2.2.2.1 != A0) then
            some (.inr (.inl ((-1:Int),())))
           else
            let yp:=IntKind.wrap .i64 (A0+(1:Int))
            let v_37:Bool:=(n_.2.2.2.2.2).1 != yp
            bif iy [decide ((0:Int)≤x5),decide (x5<n5)] then
             bif v_37 then
              some (.inr (.inl ((-1:Int),())))
             else
              some (.inl (((IntKind.wrap .i64 (x5+(1:Int))),D8,(IntKind.wrap .i64 (yp+(1:Int)))),()))
            else none
          else none
        else none
      else none
    else none
  else none
 else
  some (.inr (.inr (Ek,())))
def Wh.UI:(((Int))×(Unit))⊕(((Int))×(Unit)):=.inl default
def Wh.q23 (xs:(List (fT.D))×(Int)):Option (((Int))×(Unit)):=
 let cr:List (fT.D):=xs.1
 let k_1:=xs.2
 let DZ:Wh.PW:=(((0:Int),cr,k_1),())
 bif lF Wh.Dx DZ then
  sumC (kG Wh.Dx Wh.UI DZ) (fun Gj=>
   let Gd:=Gj.1
   some (Gd,())) (fun z_42=>
   let k_44:=z_42.1
   some (k_44,()))
 else none
def Wh.q23':=eB Wh.q23
theorem Wh.q23_v:OV Wh.q23 Wh.q23':=fe _
def Wh.Cv (xs:(ct.D)×(Int)):Option (((Int))×(Unit)):=
 let cr:ct.D:=xs.1
 let k_1:=xs.2
 let r_2:=Wh.q84' ((cr.2.2.2).1,k_1)
 bif iy [nQ (Wh.q84 ((cr.2.2.2).1,k_1))] then
  bif decide (r_2.1<(0:Int)) then
   some ((-1:Int),())
  else
   let gz:=Wh.q58' (cr.2.2.2.2.1,r_2.1)
   bif iy [nQ (Wh.q58 (cr.2.2.2.2.1,r_2.1))] then
    bif decide (gz.1<(0:Int)) then
     some ((-1:Int),())
    else
     let x4:=Wh.q16' ((cr.2.2.2.2.2).1,gz.1)
     bif iy [nQ (Wh.q16 ((cr.2.2.2.2.2).1,gz.1))] then
      bif decide (x4.1<(0:Int)) then
       some ((-1:Int),())
      else
       let xd:=Wh.q23' ((cr.2.2.2.2.2).2.1,x4.1)
       bif iy [nQ (Wh.q23 ((cr.2.2.2.2.2).2.1,x4.1))] then
        bif decide (xd.1<(0:Int)) then
         some ((-1:Int),())
        else
         some (xd.1,())
       else none
     else none
   else none
 else none
def Wh.q24':=eB Wh.Cv
theorem Wh.q24_v:OV Wh.Cv Wh.q24':=fe _
def Wh.EP (xs:(List UInt8)):Option (((Bool))×(Unit)):=
 let vN:=xs
 let r_1:(List (List UInt8)×Int)×Unit:=Wh.FX vN
 bif iy [nQ (Wh.Ba vN)] then
  let yq:=bif(r_1.1.2==(↑(List.length vN):Int)) then decide (r_1.1.2≤(9000:Int)) else false
  some (yq,())
 else none
def Wh.Px:=eB Wh.EP
theorem Wh.Us:OV Wh.EP Wh.Px:=fe _
def Wh.EC (xs:(List UInt8)×(List UInt8)):Option (((List UInt8)×(Bool))×(Unit)):=
 let vN:=xs.1
 let xb:=xs.2
 let r_2:(List (List UInt8)×Int)×Unit:=Wh.FX vN
 bif iy [nQ (Wh.Ba vN)] then
  let r_3:=Wh.Px vN
  let gz:=Wh.yj ((↑(List.length xb):Int),(1:Int),(500:Int))
  let xY:=bif !r_3.1 then true else !gz.1
  bif iy [!!!r_3.1 || nQ (Wh.xW ((↑(List.length xb):Int),(1:Int),(500:Int))),nQ (Wh.EP vN)] then
   bif xY then
    some (([],false),())
   else
    let zh:Int:=(↑(List.length r_2.1.1):Int)
    let z_:xT.D:=Wh.Hp (zh,xb)
    let x_11:List UInt8:=vN++z_.1
    bif iy [decide (List.length vN+List.length ((Wh.Hp (zh,xb)).1)≤dh),nQ (Wh.De (zh,xb))] then
     bif decide ((↑(List.length x_11):Int)>(9000:Int)) then
      some (([],false),())
     else
      some ((x_11,true),())
    else none
  else none
 else none
def Wh.OZ:=eB Wh.EC
theorem Wh.T4:OV Wh.EC Wh.OZ:=fe _
def Wh.Ev (xs:(List UInt8)×(List UInt8)):Option (((List UInt8)×(Bool))×(Unit)):=
 let vN:=xs.1
 let xb:=xs.2
 let r_2:(List (List UInt8)×Int)×Unit:=Wh.LK vN
 bif iy [nQ (Wh.CH vN)] then
  let r5:=r_2.1.2 != (↑(List.length vN):Int)
  let x4:=Wh.yK ((↑(List.length xb):Int),(1:Int),(500:Int))
  let y4:=bif bif r5 then true else decide (r_2.1.2>(9000:Int)) then true else !x4.1
  bif iy [(!!bif r5 then true else decide (r_2.1.2>(9000:Int))) || nQ (Wh.yc ((↑(List.length xb):Int),(1:Int),(500:Int)))] then
   bif y4 then
    some (([],false),())
   else
    let yX:Int:=(↑(List.length r_2.1.1):Int)
    let zd:xT.D:=Wh.HB (yX,xb)
    let FP:List UInt8:=vN++zd.1
    bif iy [decide (List.length vN+List.length ((Wh.HB (yX,xb)).1)≤dh),nQ (Wh.q79 (yX,xb))] then
     bif decide ((↑(List.length FP):Int)>(9000:Int)) then
      some (([],false),())
     else
      some ((FP,true),())
    else none
  else none
 else none
def Wh.OI:=eB Wh.Ev
theorem Wh.TS:OV Wh.Ev Wh.OI:=fe _
def Wh.EE (xs:(ct.D)×(List UInt8)):Option (((ct.D)×(Int))×(Unit)):=
 let cx:ct.D:=xs.1
 let xb:=xs.2
 let r_2:(List UInt8×Bool)×Unit:=Wh.OZ (cx.2.2.1,xb)
 bif iy [nQ (Wh.EC (cx.2.2.1,xb))] then
  bif(!r_2.1.2) then
   some ((cx,(4:Int)),())
  else
   let gz:((bx.D)×Bool)×Unit:=Wh.Li ((cx.2.2.2).1,xb)
   bif iy [nQ (Wh.BI ((cx.2.2.2).1,xb))] then
    bif(!gz.1.2) then
     some ((cx,(1:Int)),())
    else
     some (((cx.1,cx.2.1,r_2.1.1,gz.1.1,cx.2.2.2.2),(0:Int)),())
   else none
 else none
def Wh.O6:=eB Wh.EE
theorem Wh.Ua:OV Wh.EE Wh.O6:=fe _
def Wh.q42 (xs:(ct.D)×(Int)×(List UInt8)×(List UInt8)):Option (((ct.D)×(Int))×(Unit)):=
 let cx:ct.D:=xs.1
 let nS:=xs.2.1
 let w8:=xs.2.2.1
 let yN:=xs.2.2.2
 let gz:=Wh.q69' cx
 bif iy [nQ (Wh.q69 cx)] then
  bif !gz.1 then
   some (((false,(0:Int),[],((0:Int),[],()),([],(0:Int),()),[],[],()),(1:Int)),())
  else
   let xX:(ct.D)×Unit:=Wh.q93' cx
   bif iy [nQ (Wh.q93 cx)] then
    bif(!cx.1) then
     some ((xX.1,(1:Int)),())
    else
     let Aa:((bx.D)×Int)×Unit:=Wh.Hl ((cx.2.2.2).1,nS,w8,yN)
     bif iy [nQ (Wh.BD ((cx.2.2.2).1,nS,w8,yN))] then
      bif(Aa.1.2 != (0:Int)) then
       some ((xX.1,Aa.1.2),())
      else
       let zq:xT.D:=Wh.LD (nS,w8,yN)
       let z_:((ct.D)×Int)×Unit:=Wh.O6 (xX.1,zq.1)
       bif iy [nQ (Wh.EE (xX.1,zq.1)),nQ (Wh.CD (nS,w8,yN))] then
        some ((z_.1.1,z_.1.2),())
       else none
     else none
   else none
 else none
def Wh.q42':=eB Wh.q42
theorem Wh.q42_v:OV Wh.q42 Wh.q42':=fe _
def Wh.q21 (xs:(ct.D)×(Int)×(List UInt8)×(List UInt8)):Option (((ct.D)×(Int))×(Unit)):=
 let cx:ct.D:=xs.1
 let nS:=xs.2.1
 let w8:=xs.2.2.1
 let yN:=xs.2.2.2
 let gz:(ct.D)×Unit:=Wh.q14' cx
 bif iy [nQ (Wh.q14 cx)] then
  bif(!cx.1) then
   some ((gz.1,(1:Int)),())
  else
   let x4:((bx.D)×Int)×Unit:=Wh.LJ ((cx.2.2.2).1,nS,w8,yN)
   bif iy [nQ (Wh.BP ((cx.2.2.2).1,nS,w8,yN))] then
    bif(x4.1.2 != (0:Int)) then
     some ((gz.1,x4.1.2),())
    else
     let xd:xT.D:=Wh.LA (nS,w8,yN)
     let LO:(List UInt8×Bool)×Unit:=Wh.OI (cx.2.2.1,xd.1)
     bif iy [nQ (Wh.Ev (cx.2.2.1,xd.1)),nQ (Wh.q29 (nS,w8,yN))] then
      bif(!LO.1.2) then
       some ((gz.1,(4:Int)),())
      else
       some (((gz.1.1,gz.1.2.1,LO.1.1,x4.1.1,gz.1.2.2.2.2),(0:Int)),())
     else none
   else none
 else none
def Wh.q21':=eB Wh.q21
theorem Wh.q21_v:OV Wh.q21 Wh.q21':=fe _
def Wh.CB (xs:(ct.D)×(Int)×(List UInt8)×(List UInt8)):Option (((ct.D)×(Int))×(Unit)):=
 let cx:ct.D:=xs.1
 let nS:=xs.2.1
 let w8:=xs.2.2.1
 let yN:=xs.2.2.2
 let gz:=Wh.q49' cx
 bif iy [nQ (Wh.q49 cx)] then
  bif !gz.1 then
   some (((false,(0:Int),[],((0:Int),[],()),([],(0:Int),()),[],[],()),(1:Int)),())
  else
   let xX:((ct.D)×Int)×Unit:=Wh.q21' (cx,nS,w8,yN)
   bif iy [nQ (Wh.q21 (cx,nS,w8,yN))] then
    some (xX.1,())
   else none
 else none
def Wh.q33':=eB Wh.CB
theorem Wh.q33_v:OV Wh.CB Wh.q33':=fe _
def Wh.q5 (xs:(ct.D)×(Int)×(List UInt8)×(List UInt8)):Option (((Bool))×(Unit)):=
 let D6:ct.D:=xs.1
 let GQ:=xs.2.1
 let Fw:=xs.2.2.1
 let Fx:=xs.2.2.2
 bif decide ((↑(List.length Fw):Int)>(1048576:Int)) then
  some (true,())
 else
  bif decide ((↑(List.length Fx):Int)>(1048576:Int)) then
   some (true,())
  else
   let x4:=Wh.q63' (D6,(1048576:Int))
   bif iy [nQ (Wh.q63 (D6,(1048576:Int)))] then
    bif decide (x4.1<(0:Int)) then
     some (true,())
    else
     let xd:(ct.D)×Unit:=Wh.q67' D6
     let zq:((ct.D)×Int)×Unit:=Wh.q42' (xd.1,GQ,Fw,Fx)
     bif iy [nQ (Wh.q42 (xd.1,GQ,Fw,Fx)),nQ (Wh.BO D6)] then
      bif iy [nQ (Wh.BO D6)] then
       let nc:((ct.D)×Int)×Unit:=Wh.q33' (xd.1,GQ,Fw,Fx)
       bif iy [nQ (Wh.CB (xd.1,GQ,Fw,Fx))] then
        let r_18:=Wh.Hz (nc.1.1,zq.1.1)
        let nI:=bif !r_18.1 then true else nc.1.2 != zq.1.2
        bif iy [nQ (Wh.Bf (nc.1.1,zq.1.1))] then
         bif nI then
          some (false,())
         else
          let Fa:=Wh.Hz (xd.1,xd.1)
          bif iy [nQ (Wh.Bf (xd.1,xd.1)),nQ (Wh.BO D6)] then
           bif !Fa.1 then
            some (false,())
           else
            let r_22:Int×(ct.D)×Unit:=Wh.Lz (xd.1,(1:Int))
            bif iy [nQ (Wh.Cw (xd.1,(1:Int)))] then
             let zg:=decide (r_22.1<(0:Int))
             let n_:=bif bif zg then true else !r_18.1 then true else nc.1.2 != zq.1.2
             bif iy [!!zg || nQ (Wh.Bf (nc.1.1,zq.1.1))] then
              bif n_ then
               some (false,())
              else
               let yD:Int×(ct.D)×Unit:=Wh.Lz (nc.1.1,(1:Int))
               bif iy [nQ (Wh.Cw (nc.1.1,(1:Int)))] then
                let HG:=Wh.q24' ((nc.1.1.1,(nc.1.1.2).1,nc.1.1.2.2.1,((nc.1.1.2.2.2).1.1,(yD.2.1.2.2.2).1.2.1,(nc.1.1.2.2.2).1.2.2),((yD.2.1.2.2.2).2.1.1,(nc.1.1.2.2.2).2.1.2),(yD.2.1.2.2.2).2.2.1,(yD.2.1.2.2.2).2.2.2.1,(nc.1.1.2.2.2).2.2.2.2),(1:Int))
                bif iy [nQ (Wh.Cv ((nc.1.1.1,(nc.1.1.2).1,nc.1.1.2.2.1,((nc.1.1.2.2.2).1.1,(yD.2.1.2.2.2).1.2.1,(nc.1.1.2.2.2).1.2.2),((yD.2.1.2.2.2).2.1.1,(nc.1.1.2.2.2).2.1.2),(yD.2.1.2.2.2).2.2.1,(yD.2.1.2.2.2).2.2.2.1,(nc.1.1.2.2.2).2.2.2.2),(1:Int)))] then
                 let yR:=decide (HG.1<(0:Int))
                 bif yR then
                  some (false,())
                 else
                  let y3:=HG.1 != yD.1
                  bif y3 then
                   some (false,())
                  else
                   bif iy [nQ (Wh.CB (xd.1,GQ,Fw,Fx)),nQ (Wh.BO D6)] then
                    let CP:=Wh.Hz ((nc.1.1.1,(nc.1.1.2).1,nc.1.1.2.2.1,((nc.1.1.2.2.2).1.1,(nc.1.1.2.2.2).1.2.1,(nc.1.1.2.2.2).1.2.2),((nc.1.1.2.2.2).2.1.1,(nc.1.1.2.2.2).2.1.2),(nc.1.1.2.2.2).2.2.1,(nc.1.1.2.2.2).2.2.2.1,(nc.1.1.2.2.2).2.2.2.2),zq.1.1)
                    let Gg:=bif !CP.1 then true else nc.1.2 != zq.1.2
                    bif iy [nQ (Wh.Bf ((nc.1.1.1,(nc.1.1.2).1,nc.1.1.2.2.1,((nc.1.1.2.2.2).1.1,(nc.1.1.2.2.2).1.2.1,(nc.1.1.2.2.2).1.2.2),((nc.1.1.2.2.2).2.1.1,(nc.1.1.2.2.2).2.1.2),(nc.1.1.2.2.2).2.2.1,(nc.1.1.2.2.2).2.2.2.1,(nc.1.1.2.2.2).2.2.2.2),zq.1.1))] then
                     bif Gg then
                      some (false,())
                     else
                      bif iy [nQ (Wh.Cv ((nc.1.1.1,(nc.1.1.2).1,nc.1.1.2.2.1,((nc.1.1.2.2.2).1.1,(yD.2.1.2.2.2).1.2.1,(nc.1.1.2.2.2).1.2.2),((yD.2.1.2.2.2).2.1.1,(nc.1.1.2.2.2).2.1.2),(yD.2.1.2.2.2).2.2.1,(yD.2.1.2.2.2).2.2.2.1,(nc.1.1.2.2.2).2.2.2.2),(1:Int)))] then
                       bif yR then
                        some (false,())
                       else
                        bif y3 then
                         some (false,())
                        else
                         some (true,())
                      else none
                    else none
                   else none
                else none
               else none
             else none
            else none
          else none
        else none
       else none
      else none
     else none
   else none
def Wh.q5':=eB Wh.q5
end
