import Derived.Test.YtfeoanopdlpabaaGreatDoorX7
open Go Go.Ab
noncomputable section
def Wh.EP (xs:(bx.D)×(bx.D)):Option (((Bool))×(Unit)):=
 let cr:bx.D:=xs.1
 let b_1:bx.D:=xs.2
 bif(cr.1 != b_1.1) then
  some (false,())
 else
  let r_3:=Wh.q84' (cr.2.1,b_1.2.1)
  bif iy [nQ (Wh.q84 (cr.2.1,b_1.2.1))] then
   bif !r_3.1 then
    some (false,())
   else
    some (true,())
  else none
def Wh.Pq:=e_ Wh.EP
theorem Wh.Uo:OV Wh.EP Wh.Pq:=fk _
def Wh.q83 (xs:(ct.D)×(ct.D)):Option (((Bool))×(Unit)):=
 let cr:ct.D:=xs.1
 let b_1:ct.D:=xs.2
 bif(cr.1 != b_1.1) then
  some (false,())
 else
  bif(cr.2.1 != b_1.2.1) then
   some (false,())
  else
   bif(cr.2.2.1 != b_1.2.2.1) then
    some (false,())
   else
    let xQ:Bool:=(cr.2.2.2).1 != (b_1.2.2.2).1
    bif xQ then
     some (false,())
    else
     bif(!cr.2.2.2.2.1==b_1.2.2.2.2.1) then
      some (false,())
     else
      some (true,())
def Wh.q83':=e_ Wh.q83
theorem Wh.q83_v:OV Wh.q83 Wh.q83':=fk _
abbrev Wh.Qp:Type:=((Int)×(List (ct.D))×(List (ct.D)))×(Unit)
abbrev Wh.aad:Type:=((((Bool))×(Unit))⊕((Unit)×(Unit)))
def Wh.E5 (x:Wh.Qp):Option (Wh.Qp⊕Wh.aad):=
 let gT:=x.1.1
 let zN:List (ct.D):=x.1.2.1
 let zM:List (ct.D):=x.1.2.2
 let w9:Int:=(↑(List.length zM):Int)
 bif decide (gT<w9) then
  let nC:ct.D:=List.getD zM (Int.toNat gT) ((0:Int),(0:Int),(0:Int),(0:Int),false,())
  let wX:ct.D:=List.getD zN (Int.toNat gT) ((0:Int),(0:Int),(0:Int),(0:Int),false,())
  let y5:=Wh.q83' (nC,wX)
  bif iy [nQ (Wh.q83 (nC,wX)),decide ((0:Int)≤gT),decide (gT<(↑(List.length zN):Int)),decide ((0:Int)≤gT),decide (gT<w9)] then
   bif !y5.1 then
    some (.inr (.inl (false,())))
   else
    some (.inl (((IntKind.wrap .i64 (gT+(1:Int))),zN,zM),()))
  else none
 else
  some (.inr (.inr ((),())))
def Wh.U9:(((Bool))×(Unit))⊕((Unit)×(Unit)):=.inl default
def Wh.q56 (xs:(List (ct.D))×(List (ct.D))):Option (((Bool))×(Unit)):=
 let cr:List (ct.D):=xs.1
 let b_1:List (ct.D):=xs.2
 let v_2:Int:=(↑(List.length cr):Int)
 let s4:Int:=(↑(List.length b_1):Int)
 let yx:=v_2 != s4
 bif yx then
  some (false,())
 else
  let x_25:Wh.Qp:=(((0:Int),b_1,cr),())
  bif lF Wh.E5 x_25 then
   sumC (kG Wh.E5 Wh.U9 x_25) (fun z_=>
    let nE:=z_.1
    some (nE,())) (fun _=>
    some (true,()))
  else none
def Wh.q56':=e_ Wh.q56
theorem Wh.q56_v:OV Wh.q56 Wh.q56':=fk _
def Wh.EC (xs:(gv.D)×(gv.D)):Option (((Bool))×(Unit)):=
 let cr:gv.D:=xs.1
 let b_1:gv.D:=xs.2
 let r_2:=Wh.q56' (cr.1,b_1.1)
 bif iy [nQ (Wh.q56 (cr.1,b_1.1))] then
  bif !r_2.1 then
   some (false,())
  else
   bif(cr.2.1 != b_1.2.1) then
    some (false,())
   else
    some (true,())
 else none
def Wh.OO:=e_ Wh.EC
theorem Wh.TZ:OV Wh.EC Wh.OO:=fk _
def Wh.q55 (xs:(en.D)×(en.D)):Option (((Bool))×(Unit)):=
 let cr:en.D:=xs.1
 let b_1:en.D:=xs.2
 bif(cr.1 != b_1.1) then
  some (false,())
 else
  bif(cr.2.1 != b_1.2.1) then
   some (false,())
  else
   bif(cr.2.2.1 != b_1.2.2.1) then
    some (false,())
   else
    let xQ:Bool:=(cr.2.2.2).1 != (b_1.2.2.2).1
    bif xQ then
     some (false,())
    else
     some (true,())
def Wh.q55':=e_ Wh.q55
theorem Wh.q55_v:OV Wh.q55 Wh.q55':=fk _
abbrev Wh.P6:Type:=((Int)×(List (en.D))×(List (en.D)))×(Unit)
abbrev Wh.ZW:Type:=((((Bool))×(Unit))⊕((Unit)×(Unit)))
def Wh.E0 (x:Wh.P6):Option (Wh.P6⊕Wh.ZW):=
 let gT:=x.1.1
 let zN:List (en.D):=x.1.2.1
 let zM:List (en.D):=x.1.2.2
 let w9:Int:=(↑(List.length zM):Int)
 bif decide (gT<w9) then
  let nC:en.D:=List.getD zM (Int.toNat gT) ((0:Int),(0:Int),(0:Int),(0:Int),())
  let wX:en.D:=List.getD zN (Int.toNat gT) ((0:Int),(0:Int),(0:Int),(0:Int),())
  let y5:=Wh.q55' (nC,wX)
  bif iy [nQ (Wh.q55 (nC,wX)),decide ((0:Int)≤gT),decide (gT<(↑(List.length zN):Int)),decide ((0:Int)≤gT),decide (gT<w9)] then
   bif !y5.1 then
    some (.inr (.inl (false,())))
   else
    some (.inl (((IntKind.wrap .i64 (gT+(1:Int))),zN,zM),()))
  else none
 else
  some (.inr (.inr ((),())))
def Wh.UR:(((Bool))×(Unit))⊕((Unit)×(Unit)):=.inl default
def Wh.q38 (xs:(List (en.D))×(List (en.D))):Option (((Bool))×(Unit)):=
 let cr:List (en.D):=xs.1
 let b_1:List (en.D):=xs.2
 let v_2:Int:=(↑(List.length cr):Int)
 let s4:Int:=(↑(List.length b_1):Int)
 let yx:=v_2 != s4
 bif yx then
  some (false,())
 else
  let x_25:Wh.P6:=(((0:Int),b_1,cr),())
  bif lF Wh.E0 x_25 then
   sumC (kG Wh.E0 Wh.UR x_25) (fun z_=>
    let nE:=z_.1
    some (nE,())) (fun _=>
    some (true,()))
  else none
def Wh.q38':=e_ Wh.q38
theorem Wh.q38_v:OV Wh.q38 Wh.q38':=fk _
def Wh.q85 (xs:(fN.D)×(fN.D)):Option (((Bool))×(Unit)):=
 let cr:fN.D:=xs.1
 let b_1:fN.D:=xs.2
 bif(cr.1 != b_1.1) then
  some (false,())
 else
  bif(cr.2.1 != b_1.2.1) then
   some (false,())
  else
   bif(cr.2.2.1 != b_1.2.2.1) then
    some (false,())
   else
    let xQ:Bool:=(cr.2.2.2).1 != (b_1.2.2.2).1
    bif xQ then
     some (false,())
    else
     bif(cr.2.2.2.2.1 != b_1.2.2.2.2.1) then
      some (false,())
     else
      let zb:Bool:=(cr.2.2.2.2.2).1 != (b_1.2.2.2.2.2).1
      bif zb then
       some (false,())
      else
       some (true,())
def Wh.q85':=e_ Wh.q85
theorem Wh.q85_v:OV Wh.q85 Wh.q85':=fk _
abbrev Wh.Qq:Type:=((Int)×(List (fN.D))×(List (fN.D)))×(Unit)
abbrev Wh.aae:Type:=((((Bool))×(Unit))⊕((Unit)×(Unit)))
def Wh.E6 (x:Wh.Qq):Option (Wh.Qq⊕Wh.aae):=
 let gT:=x.1.1
 let zN:List (fN.D):=x.1.2.1
 let zM:List (fN.D):=x.1.2.2
 let w9:Int:=(↑(List.length zM):Int)
 bif decide (gT<w9) then
  let nC:fN.D:=List.getD zM (Int.toNat gT) ((0:Int),(0:Int),(0:Int),(0:Int),(0:Int),(0:Int),())
  let wX:fN.D:=List.getD zN (Int.toNat gT) ((0:Int),(0:Int),(0:Int),(0:Int),(0:Int),(0:Int),())
  let y5:=Wh.q85' (nC,wX)
  bif iy [nQ (Wh.q85 (nC,wX)),decide ((0:Int)≤gT),decide (gT<(↑(List.length zN):Int)),decide ((0:Int)≤gT),decide (gT<w9)] then
   bif !y5.1 then
    some (.inr (.inl (false,())))
   else
    some (.inl (((IntKind.wrap .i64 (gT+(1:Int))),zN,zM),()))
  else none
 else
  some (.inr (.inr ((),())))
def Wh.U_:(((Bool))×(Unit))⊕((Unit)×(Unit)):=.inl default
def Wh.q57 (xs:(List (fN.D))×(List (fN.D))):Option (((Bool))×(Unit)):=
 let cr:List (fN.D):=xs.1
 let b_1:List (fN.D):=xs.2
 let v_2:Int:=(↑(List.length cr):Int)
 let s4:Int:=(↑(List.length b_1):Int)
 let yx:=v_2 != s4
 bif yx then
  some (false,())
 else
  let x_25:Wh.Qq:=(((0:Int),b_1,cr),())
  bif lF Wh.E6 x_25 then
   sumC (kG Wh.E6 Wh.U_ x_25) (fun z_=>
    let nE:=z_.1
    some (nE,())) (fun _=>
    some (true,()))
  else none
def Wh.q57':=e_ Wh.q57
theorem Wh.q57_v:OV Wh.q57 Wh.q57':=fk _
def Wh.Bb (xs:(cx.D)×(cx.D)):Option (((Bool))×(Unit)):=
 let cr:cx.D:=xs.1
 let b_1:cx.D:=xs.2
 bif(!cr.1==b_1.1) then
  some (false,())
 else
  bif(cr.2.1 != b_1.2.1) then
   some (false,())
  else
   bif(!cr.2.2.1==b_1.2.2.1) then
    some (false,())
   else
    let x_:=Wh.Pq ((cr.2.2.2).1,(b_1.2.2.2).1)
    bif iy [nQ (Wh.EP ((cr.2.2.2).1,(b_1.2.2.2).1))] then
     bif !x_.1 then
      some (false,())
     else
      let yw:=Wh.OO (cr.2.2.2.2.1,b_1.2.2.2.2.1)
      bif iy [nQ (Wh.EC (cr.2.2.2.2.1,b_1.2.2.2.2.1))] then
       bif !yw.1 then
        some (false,())
       else
        let AV:=Wh.q38' ((cr.2.2.2.2.2).1,(b_1.2.2.2.2.2).1)
        bif iy [nQ (Wh.q38 ((cr.2.2.2.2.2).1,(b_1.2.2.2.2.2).1))] then
         bif !AV.1 then
          some (false,())
         else
          let yP:=Wh.q57' ((cr.2.2.2.2.2).2.1,(b_1.2.2.2.2.2).2.1)
          bif iy [nQ (Wh.q57 ((cr.2.2.2.2.2).2.1,(b_1.2.2.2.2.2).2.1))] then
           bif !yP.1 then
            some (false,())
           else
            some (true,())
          else none
        else none
      else none
    else none
def Wh.Ht:=e_ Wh.Bb
theorem Wh.Qr:OV Wh.Bb Wh.Ht:=fk _
def Wh.q94 (xs:(gv.D)):Option ((((List (ct.D))×((Int)×(Unit))))×(Unit)):=
 let s_:gv.D:=xs
 let y4:List (ct.D):=[]++s_.1
 bif iy [decide ((0:Nat)+List.length s_.1≤dh)] then
  some ((y4,s_.2),())
 else none
def Wh.q94':=e_ Wh.q94
theorem Wh.q94_v:OV Wh.q94 Wh.q94':=fk _
def Wh.q95 (xs:(cx.D)):Option ((((Bool)×((Int)×((List UInt8)×(((Int)×((List (an.D))×(Unit)))×(((List (ct.D))×((Int)×(Unit)))×((List (en.D))×((List (fN.D))×(Unit)))))))))×(Unit)):=
 let eA:cx.D:=xs
 let r_1:(bx.D)×Unit:=Wh.EK ((eA.2.2.2).1)
 bif iy [nQ (Wh.A8 ((eA.2.2.2).1))] then
  let r_2:(gv.D)×Unit:=Wh.q94' (eA.2.2.2.2.1)
  bif iy [nQ (Wh.q94 (eA.2.2.2.2.1))] then
   let G6:List (en.D):=[]++(eA.2.2.2.2.2).1
   bif iy [decide ((0:Nat)+List.length ((eA.2.2.2.2.2).1)≤dh)] then
    let G8:List (fN.D):=[]++(eA.2.2.2.2.2).2.1
    bif iy [decide ((0:Nat)+List.length ((eA.2.2.2.2.2).2.1)≤dh)] then
     some ((eA.1,eA.2.1,eA.2.2.1,r_1.1,r_2.1,G6,G8,(eA.2.2.2.2.2).2.2),())
    else none
   else none
  else none
 else none
def Wh.q95':=e_ Wh.q95
theorem Wh.q95_v:OV Wh.q95 Wh.q95':=fk _
def Wh.EI (_:Unit):Option ((((List (ct.D))×((Int)×(Unit))))×(Unit)):=
 let G4:List (ct.D):=[((0:Int),(0:Int),(0:Int),(0:Int),false,()),((0:Int),(0:Int),(0:Int),(0:Int),false,()),((0:Int),(0:Int),(0:Int),(0:Int),false,()),((0:Int),(0:Int),(0:Int),(0:Int),false,()),((0:Int),(0:Int),(0:Int),(0:Int),false,()),((0:Int),(0:Int),(0:Int),(0:Int),false,()),((0:Int),(0:Int),(0:Int),(0:Int),false,()),((0:Int),(0:Int),(0:Int),(0:Int),false,())]
 some ((G4,(0:Int),()),())
def Wh.O2:=e_ Wh.EI
theorem Wh.Uc:OV Wh.EI Wh.O2:=fk _
abbrev Wh.P1:Type:=((Int)×(Int)×(Unit))×((List (en.D)))
abbrev Wh.ZT:Type:=((((Unit))×((List (en.D)))))
def Wh.DF (x:Wh.P1):Option (Wh.P1⊕Wh.ZT):=
 let h_8:=x.1.1
 let now_9:=x.1.2.1
 let AM:List (en.D):=x.2
 bif decide (h_8<(2:Int)) then
  let Oy:List (en.D):=[((40:Int),(40:Int),(8:Int),now_9,())]
  let N3:List (en.D):=AM++Oy
  bif iy [decide (List.length AM+(1:Nat)≤dh)] then
   some (.inl (((IntKind.wrap .i64 (h_8+(1:Int))),now_9,()),N3))
  else none
 else
  some (.inr ((),AM))
def Wh.UO:(((Unit))×((List (en.D)))):=default
def Wh.q30 (xs:(Int)):Option (((List (en.D)))×(Unit)):=
 let K7:=xs
 let x_15:Wh.P1:=(((0:Int),K7,()),[])
 bif lF Wh.DF x_15 then
  let y_16:=kG Wh.DF Wh.UO x_15
  let x4:List (en.D):=y_16.2
  some (x4,())
 else none
def Wh.q30':=e_ Wh.q30
theorem Wh.q30_v:OV Wh.q30 Wh.q30':=fk _
def Wh.q29 (xs:(cx.D)):Option ((((Bool)×((Int)×((List UInt8)×(((Int)×((List (an.D))×(Unit)))×(((List (ct.D))×((Int)×(Unit)))×((List (en.D))×((List (fN.D))×(Unit)))))))))×(Unit)):=
 let eA:cx.D:=xs
 let r_1:=Wh.q70' eA
 bif iy [nQ (Wh.q70 eA)] then
  bif !r_1.1 then
   some ((false,(0:Int),[],((0:Int),[],()),([],(0:Int),()),[],[],()),())
  else
   bif eA.1 then
    let r_2:(cx.D)×Unit:=Wh.q95' eA
    bif iy [nQ (Wh.q95 eA)] then
     some (r_2.1,())
    else none
   else
    let r_3:(List (List UInt8)×Int)×Unit:=Wh.Hg (eA.2.2.1)
    bif iy [nQ (Wh.A7 (eA.2.2.1))] then
     let fT:((bx.D)×Bool)×Unit:=Wh.Hi r_3.1.1
     bif iy [nQ (Wh.Cu r_3.1.1)] then
      let x_:(gv.D)×Unit:=Wh.O2 ()
      let yw:List (en.D)×Unit:=Wh.q30' eA.2.1
      let pb_7:List UInt8:=List.take (Int.toNat (r_3.1.2-(0:Int))) (List.drop (Int.toNat (0:Int)) (eA.2.2.1))
      bif iy [nQ (Wh.q30 eA.2.1),nQ (Wh.EI ()),true,decide ((0:Int)≤r_3.1.2),decide (r_3.1.2≤(↑(List.length (eA.2.2.1)):Int))] then
       some ((true,eA.2.1,pb_7,fT.1.1,x_.1,yw.1,[],()),())
      else none
     else none
    else none
 else none
def Wh.q29':=e_ Wh.q29
theorem Wh.q29_v:OV Wh.q29 Wh.q29':=fk _
def Wh.q36 (xs:(gv.D)):Option ((((List (ct.D))×((Int)×(Unit))))×(Unit)):=
 let s_:gv.D:=xs
 let y4:List (ct.D):=[]++s_.1
 bif iy [decide ((0:Nat)+List.length s_.1≤dh)] then
  some ((y4,s_.2.1,()),())
 else none
def Wh.q36':=e_ Wh.q36
theorem Wh.q36_v:OV Wh.q36 Wh.q36':=fk _
def Wh.q15 (xs:(cx.D)):Option ((((Bool)×((Int)×((List UInt8)×(((Int)×((List (an.D))×(Unit)))×(((List (ct.D))×((Int)×(Unit)))×((List (en.D))×((List (fN.D))×(Unit)))))))))×(Unit)):=
 let eA:cx.D:=xs
 let r_1:(bx.D)×Unit:=Wh.Ga ((eA.2.2.2).1)
 bif iy [nQ (Wh.BL ((eA.2.2.2).1))] then
  let r_2:(gv.D)×Unit:=Wh.q36' (eA.2.2.2.2.1)
  bif iy [nQ (Wh.q36 (eA.2.2.2.2.1))] then
   let G6:List (en.D):=[]++(eA.2.2.2.2.2).1
   bif iy [decide ((0:Nat)+List.length ((eA.2.2.2.2.2).1)≤dh)] then
    let G8:List (fN.D):=[]++(eA.2.2.2.2.2).2.1
    bif iy [decide ((0:Nat)+List.length ((eA.2.2.2.2.2).2.1)≤dh)] then
     some ((eA.1,eA.2.1,eA.2.2.1,r_1.1,r_2.1,G6,G8,(eA.2.2.2.2.2).2.2),())
    else none
   else none
  else none
 else none
def Wh.q15':=e_ Wh.q15
theorem Wh.q15_v:OV Wh.q15 Wh.q15':=fk _
def Wh.q81 (_:Unit):Option ((((List (ct.D))×((Int)×(Unit))))×(Unit)):=
 let G4:List (ct.D):=[((0:Int),(0:Int),(0:Int),(0:Int),false,()),((0:Int),(0:Int),(0:Int),(0:Int),false,()),((0:Int),(0:Int),(0:Int),(0:Int),false,()),((0:Int),(0:Int),(0:Int),(0:Int),false,()),((0:Int),(0:Int),(0:Int),(0:Int),false,()),((0:Int),(0:Int),(0:Int),(0:Int),false,()),((0:Int),(0:Int),(0:Int),(0:Int),false,()),((0:Int),(0:Int),(0:Int),(0:Int),false,())]
 some ((G4,(0:Int),()),())
def Wh.q81':=e_ Wh.q81
theorem Wh.q81_v:OV Wh.q81 Wh.q81':=fk _
abbrev Wh.Pp:Type:=((Int)×(Unit)×(Int)×(Unit))×(((Bool)×((Int)×((List UInt8)×(((Int)×((Unit)×(Unit)))×(((Unit)×((Int)×(Unit)))×((Unit)×((Unit)×(Unit))))))))×((Bool)×((Int)×((List UInt8)×(((Int)×((Unit)×(Unit)))×(((Unit)×((Int)×(Unit)))×((Unit)×((Unit)×(Unit))))))))×(List (an.D))×(List (ct.D))×(List (en.D))×(List (fN.D))×(List (an.D))×(List (ct.D))×(List (en.D))×(List (fN.D)))
abbrev Wh.ZA:Type:=((((Unit)×(Unit))×(((Bool)×((Int)×((List UInt8)×(((Int)×((Unit)×(Unit)))×(((Unit)×((Int)×(Unit)))×((Unit)×((Unit)×(Unit))))))))×((Bool)×((Int)×((List UInt8)×(((Int)×((Unit)×(Unit)))×(((Unit)×((Int)×(Unit)))×((Unit)×((Unit)×(Unit))))))))×(List (an.D))×(List (ct.D))×(List (en.D))×(List (fN.D))×(List (an.D))×(List (ct.D))×(List (en.D))×(List (fN.D)))))
def Wh.Dn (x:Wh.Pp):Option (Wh.Pp⊕Wh.ZA):=
 let zK:=x.1.1
 let TC:Int:=(x.1.2.2).1
 let zf:=x.2.1.1
 let FO:Int:=(x.2.1.2).1
 let Ep:=x.2.1.2.2.1
 let yN:Int:=(x.2.1.2.2.2).1.1
 let A4:Unit:=(x.2.1.2.2.2).1.2.2
 let KS:Int×Unit:=(x.2.1.2.2.2).2.1.2
 let KT:Unit:=(x.2.1.2.2.2).2.2.2.2
 let Er:=x.2.2.1.1
 let Cb:Int:=(x.2.2.1).2.1
 let FP:List UInt8:=(x.2.2.1).2.2.1
 let ls_45:Int:=(x.2.2.1).2.2.2.1.1
 let ls_46:Unit:=(x.2.2.1).2.2.2.1.2.2
 let ls_47:Int:=(x.2.2.1).2.2.2.2.1.2.1
 let ls_48:Unit:=(x.2.2.1).2.2.2.2.1.2.2
 let KU:Unit:=(x.2.2.1).2.2.2.2.2.2.2
 let Bp:List (an.D):=(x.2.2.2).1
 let ls_51:List (ct.D):=x.2.2.2.2.1
 let Cd:List (en.D):=(x.2.2.2.2.2).1
 let KV:List (fN.D):=(x.2.2.2.2.2).2.1
 let FQ:List (an.D):=(x.2.2.2.2.2).2.2.1
 let ls_55:List (ct.D):=(x.2.2.2.2.2).2.2.2.1
 let ls_56:List (en.D):=(x.2.2.2.2.2).2.2.2.2.1
 let ls_57:List (fN.D):=(x.2.2.2.2.2).2.2.2.2.2
 bif decide (zK<(2:Int)) then
  let pb_59:List (en.D):=[((40:Int),(40:Int),(8:Int),TC,())]
  let Oa:List (en.D):=Cd++pb_59
  bif iy [decide (List.length Cd+(1:Nat)≤dh)] then
   some (.inl (((IntKind.wrap .i64 (zK+(1:Int))),(),TC,()),(zf,FO,Ep,(yN,(),A4),((),KS),(),(),KT),(Er,Cb,FP,(ls_45,(),ls_46),((),ls_47,ls_48),(),(),KU),Bp,ls_51,Oa,KV,FQ,ls_55,ls_56,ls_57))
  else none
 else
  some (.inr (((),()),(Er,Cb,FP,(ls_45,(),ls_46),((),ls_47,ls_48),(),(),KU),(zf,FO,Ep,(yN,(),A4),((),KS),(),(),KT),FQ,ls_55,ls_56,ls_57,Bp,ls_51,Cd,KV))
def Wh.Um:(((Unit)×(Unit))×(((Bool)×((Int)×((List UInt8)×(((Int)×((Unit)×(Unit)))×(((Unit)×((Int)×(Unit)))×((Unit)×((Unit)×(Unit))))))))×((Bool)×((Int)×((List UInt8)×(((Int)×((Unit)×(Unit)))×(((Unit)×((Int)×(Unit)))×((Unit)×((Unit)×(Unit))))))))×(List (an.D))×(List (ct.D))×(List (en.D))×(List (fN.D))×(List (an.D))×(List (ct.D))×(List (en.D))×(List (fN.D)))):=default
def Wh.EO (xs:(Int)×(List UInt8)×((Int)×((List (an.D))×(Unit)))):Option ((((Bool)×((Int)×((List UInt8)×(((Int)×((List (an.D))×(Unit)))×(((List (ct.D))×((Int)×(Unit)))×((List (en.D))×((List (fN.D))×(Unit)))))))))×(Unit)):=
 let K7:=xs.1
 let log_1:=xs.2.1
 let c_2:bx.D:=xs.2.2
 let r_3:(gv.D)×Unit:=Wh.q81' ()
 bif iy [nQ (Wh.q81 ())] then
  let x_62:Wh.Pp:=(((0:Int),(),K7,()),(true,K7,log_1,(c_2.1,(),c_2.2.2),((),r_3.1.2),(),(),()),(false,(0:Int),[],((0:Int),(),()),((),(0:Int),()),(),(),()),c_2.2.1,r_3.1.1,[],[],[],[],[],[])
  bif lF Wh.Dn x_62 then
   let Bi:=kG Wh.Dn Wh.Um x_62
   let ls_72:=Bi.2.2.1.1
   let ls_73:Int:=(Bi.2.2.1).2.1
   let ls_74:List UInt8:=(Bi.2.2.1).2.2.1
   let ls_75:Int:=(Bi.2.2.1).2.2.2.1.1
   let ls_76:Unit:=(Bi.2.2.1).2.2.2.1.2.2
   let ls_77:Int×Unit:=(Bi.2.2.1).2.2.2.2.1.2
   let Es:Unit:=(Bi.2.2.1).2.2.2.2.2.2.2
   let ls_83:List (an.D):=(Bi.2.2.2.2.2).2.2.1
   let ls_84:List (ct.D):=(Bi.2.2.2.2.2).2.2.2.1
   let ls_85:List (en.D):=(Bi.2.2.2.2.2).2.2.2.2.1
   let ls_86:List (fN.D):=(Bi.2.2.2.2.2).2.2.2.2.2
   some ((ls_72,ls_73,ls_74,(ls_75,ls_83,ls_76),(ls_84,ls_77),ls_85,ls_86,Es),())
  else none
 else none
def Wh.Pn:=e_ Wh.EO
theorem Wh.Un:OV Wh.EO Wh.Pn:=fk _
def Wh.q14 (xs:(cx.D)):Option (((cx.D))×(Unit)):=
 let eA:cx.D:=xs
 bif eA.1 then
  let r_1:(cx.D)×Unit:=Wh.q15' eA
  bif iy [nQ (Wh.q15 eA)] then
   some (r_1.1,())
  else none
 else
  let r_2:(List (List UInt8)×Int)×Unit:=Wh.LH (eA.2.2.1)
  bif iy [nQ (Wh.BN (eA.2.2.1))] then
   let r_3:((bx.D)×Bool)×Unit:=Wh.Lo r_2.1.1
   bif iy [nQ (Wh.Dm r_2.1.1)] then
    let fT:(cx.D)×Unit:=Wh.Pn (eA.2.1,List.take (Int.toNat (r_2.1.2-(0:Int))) (List.drop (Int.toNat (0:Int)) (eA.2.2.1)),r_3.1.1)
    let xQ:List UInt8:=List.take (Int.toNat (r_2.1.2-(0:Int))) (List.drop (Int.toNat (0:Int)) (eA.2.2.1))
    bif iy [nQ (Wh.EO (eA.2.1,xQ,r_3.1.1)),true,decide ((0:Int)≤r_2.1.2),decide (r_2.1.2≤(↑(List.length (eA.2.2.1)):Int))] then
     some (fT.1,())
    else none
   else none
  else none
def Wh.q14':=e_ Wh.q14
theorem Wh.q14_v:OV Wh.q14 Wh.q14':=fk _
def Wh.CE (xs:(cx.D)):Option (((cx.D))×(Unit)):=
 let eA:cx.D:=xs
 let r_1:=Wh.q50' eA
 bif iy [nQ (Wh.q50 eA)] then
  bif !r_1.1 then
   some ((false,(0:Int),[],((0:Int),[],()),([],(0:Int),()),[],[],()),())
  else
   let r_2:(cx.D)×Unit:=Wh.q14' eA
   bif iy [nQ (Wh.q14 eA)] then
    some (r_2.1,())
   else none
 else none
def Wh.q22':=e_ Wh.CE
theorem Wh.q22_v:OV Wh.CE Wh.q22':=fk _
abbrev Wh.Qs:Type:=((Int)×(List UInt8))×(Unit)
abbrev Wh.aaf:Type:=((((List UInt8))×(Unit)))
def Wh.DO (x:Wh.Qs):Option (Wh.Qs⊕Wh.aaf):=
 let k_12:=x.1.1
 let Ou:=x.1.2
 bif decide (k_12>(0:Int)) then
  let pb_15:List Int:=[IntKind.wrap .u8 (IntKind.wrap .i64 ((48:Int)+Int.tmod k_12 (10:Int)))]
  let out_20:List UInt8:=qp pb_15++Ou
  bif iy [decide ((1:Nat)+List.length Ou≤dh),true] then
   some (.inl (((IntKind.wrap .i64 (Int.tdiv k_12 (10:Int))),out_20),()))
  else none
 else
  some (.inr (Ou,()))
def Wh.Va:(((List UInt8))×(Unit)):=default
def Wh.AQ (xs:(Int)):Option (((List UInt8))×(Unit)):=
 let k_0:=xs
 bif decide (k_0≤(0:Int)) then
  some ([(109:UInt8),(48:UInt8)],())
 else
  let x_22:Wh.Qs:=((k_0,[]),())
  bif lF Wh.DO x_22 then
   let y_23:=kG Wh.DO Wh.Va x_22
   let TF:=y_23.1
   let AD:List UInt8:=[(109:UInt8)]++TF
   bif iy [decide ((1:Nat)+List.length TF≤dh)] then
    some (AD,())
   else none
  else none
def Wh.E7:=e_ Wh.AQ
theorem Wh.Gc:OV Wh.AQ Wh.E7:=fk _
abbrev Wh.P9:Type:=((Int)×(Unit)×(Int))×((List (an.D)))
abbrev Wh.ZY:Type:=((((Int))×((List (an.D)))))
def Wh.DH (x:Wh.P9):Option (Wh.P9⊕Wh.ZY):=
 let yq:=x.1.1
 let El:=x.1.2.2
 let Br:List (an.D):=x.2
 let wX:Int:=(↑(List.length Br):Int)
 bif decide (yq<wX) then
  let AP:List (an.D):=List.set Br (Int.toNat yq) (El,Prod.snd (List.getD Br (Int.toNat yq) ((0:Int),[],(0:Int),[],())))
  bif iy [decide ((0:Int)≤yq),decide (yq<wX)] then
   let nW:=IntKind.wrap .i64 (El+(1:Int))
   let AR:xV.D:=Wh.E7 nW
   let G5:List (an.D):=List.set AP (Int.toNat yq) (Prod.fst (List.getD AP (Int.toNat yq) ((0:Int),[],(0:Int),[],())),AR.1,Prod.snd (Prod.snd (List.getD AP (Int.toNat yq) ((0:Int),[],(0:Int),[],()))))
   bif iy [decide ((0:Int)≤yq),decide (yq<(↑(List.length AP):Int)),nQ (Wh.AQ nW)] then
    let Bg:=IntKind.wrap .i64 (nW+(1:Int))
    let F0:List (an.D):=List.set G5 (Int.toNat yq) (Prod.fst (List.getD G5 (Int.toNat yq) ((0:Int),[],(0:Int),[],())),Prod.fst (Prod.snd (List.getD G5 (Int.toNat yq) ((0:Int),[],(0:Int),[],()))),Bg,Prod.snd (Prod.snd (Prod.snd (List.getD G5 (Int.toNat yq) ((0:Int),[],(0:Int),[],())))))
    bif iy [decide ((0:Int)≤yq),decide (yq<(↑(List.length G5):Int))] then
     let y6:=IntKind.wrap .i64 (Bg+(1:Int))
     let Gf:xV.D:=Wh.E7 y6
     let r5:List (an.D):=List.set F0 (Int.toNat yq) (Prod.fst (List.getD F0 (Int.toNat yq) ((0:Int),[],(0:Int),[],())),Prod.fst (Prod.snd (List.getD F0 (Int.toNat yq) ((0:Int),[],(0:Int),[],()))),Prod.fst (Prod.snd (Prod.snd (List.getD F0 (Int.toNat yq) ((0:Int),[],(0:Int),[],())))),Gf.1,Prod.snd (Prod.snd (Prod.snd (Prod.snd (List.getD F0 (Int.toNat yq) ((0:Int),[],(0:Int),[],()))))))
     bif iy [decide ((0:Int)≤yq),decide (yq<(↑(List.length F0):Int)),nQ (Wh.AQ y6)] then
      some (.inl (((IntKind.wrap .i64 (yq+(1:Int))),(),(IntKind.wrap .i64 (y6+(1:Int)))),r5))
     else none
    else none
   else none
  else none
 else
  some (.inr (El,Br))
def Wh.UU:(((Int))×((List (an.D)))):=default
def Wh.q40 (xs:(List (an.D))×(Int)):Option (((Int))×((List (an.D))×Unit)):=
 let cr:List (an.D):=xs.1
 let k_1:=xs.2
 let x_34:Wh.P9:=(((0:Int),(),k_1),cr)
 bif lF Wh.DH x_34 then
  let y_35:=kG Wh.DH Wh.UU x_34
  let k_36:=y_35.1
  let Oz:List (an.D):=y_35.2
  some (k_36,Oz,())
 else none
def Wh.q40':=e_ Wh.q40
theorem Wh.q40_v:OV Wh.q40 Wh.q40':=fk _
def Wh.q87 (xs:(bx.D)×(Int)):Option (((Int))×((bx.D)×Unit)):=
 let cr:bx.D:=xs.1
 let k_1:=xs.2
 let r_2:bx.D:=Wh.q40' (cr.2.1,k_1)
 bif iy [nQ (Wh.q40 (cr.2.1,k_1))] then
  some (r_2.1,(cr.1,r_2.2.1,cr.2.2),())
 else none
def Wh.q87':=e_ Wh.q87
theorem Wh.q87_v:OV Wh.q87 Wh.q87':=fk _
abbrev Wh.PX:Type:=((Int)×(Unit)×(Int))×((List (ct.D)))
abbrev Wh.ZR:Type:=((((Int))×((List (ct.D)))))
def Wh.DD (x:Wh.PX):Option (Wh.PX⊕Wh.ZR):=
 let mb:=x.1.1
 let A2:=x.1.2.2
 let AO:List (ct.D):=x.2
 let zI:Int:=(↑(List.length AO):Int)
 bif decide (mb<zI) then
  let zG:List (ct.D):=List.set AO (Int.toNat mb) (A2,Prod.snd (List.getD AO (Int.toNat mb) ((0:Int),(0:Int),(0:Int),(0:Int),false,())))
  bif iy [decide ((0:Int)≤mb),decide (mb<zI)] then
   let n_:=IntKind.wrap .i64 (A2+(1:Int))
   let xU:List (ct.D):=List.set zG (Int.toNat mb) (Prod.fst (List.getD zG (Int.toNat mb) ((0:Int),(0:Int),(0:Int),(0:Int),false,())),n_,Prod.snd (Prod.snd (List.getD zG (Int.toNat mb) ((0:Int),(0:Int),(0:Int),(0:Int),false,()))))
   bif iy [decide ((0:Int)≤mb),decide (mb<(↑(List.length zG):Int))] then
    let nE:=IntKind.wrap .i64 (n_+(1:Int))
    let xZ:List (ct.D):=List.set xU (Int.toNat mb) (Prod.fst (List.getD xU (Int.toNat mb) ((0:Int),(0:Int),(0:Int),(0:Int),false,())),Prod.fst (Prod.snd (List.getD xU (Int.toNat mb) ((0:Int),(0:Int),(0:Int),(0:Int),false,()))),nE,Prod.snd (Prod.snd (Prod.snd (List.getD xU (Int.toNat mb) ((0:Int),(0:Int),(0:Int),(0:Int),false,())))))
    bif iy [decide ((0:Int)≤mb),decide (mb<(↑(List.length xU):Int))] then
     let zo:=IntKind.wrap .i64 (nE+(1:Int))
     let r5:List (ct.D):=List.set xZ (Int.toNat mb) (Prod.fst (List.getD xZ (Int.toNat mb) ((0:Int),(0:Int),(0:Int),(0:Int),false,())),Prod.fst (Prod.snd (List.getD xZ (Int.toNat mb) ((0:Int),(0:Int),(0:Int),(0:Int),false,()))),Prod.fst (Prod.snd (Prod.snd (List.getD xZ (Int.toNat mb) ((0:Int),(0:Int),(0:Int),(0:Int),false,())))),zo,Prod.snd (Prod.snd (Prod.snd (Prod.snd (List.getD xZ (Int.toNat mb) ((0:Int),(0:Int),(0:Int),(0:Int),false,()))))))
     bif iy [decide ((0:Int)≤mb),decide (mb<(↑(List.length xZ):Int))] then
      let zJ:=IntKind.wrap .i64 (zo+(1:Int))
      let xO:List (ct.D):=List.set r5 (Int.toNat mb) (Prod.fst (List.getD r5 (Int.toNat mb) ((0:Int),(0:Int),(0:Int),(0:Int),false,())),Prod.fst (Prod.snd (List.getD r5 (Int.toNat mb) ((0:Int),(0:Int),(0:Int),(0:Int),false,()))),Prod.fst (Prod.snd (Prod.snd (List.getD r5 (Int.toNat mb) ((0:Int),(0:Int),(0:Int),(0:Int),false,())))),Prod.fst (Prod.snd (Prod.snd (Prod.snd (List.getD r5 (Int.toNat mb) ((0:Int),(0:Int),(0:Int),(0:Int),false,()))))),Int.tmod zJ (3:Int)==(0:Int),Prod.snd (Prod.snd (Prod.snd (Prod.snd (Prod.snd (List.getD r5 (Int.toNat mb) ((0:Int),(0:Int),(0:Int),(0:Int),false,())))))))
      bif iy [decide ((0:Int)≤mb),decide (mb<(↑(List.length r5):Int)),true] then
       some (.inl (((IntKind.wrap .i64 (mb+(1:Int))),(),(IntKind.wrap .i64 (zJ+(1:Int)))),xO))
      else none
     else none
    else none
   else none
  else none
 else
  some (.inr (A2,AO))
def Wh.UL:(((Int))×((List (ct.D)))):=default
def Wh.q26 (xs:(List (ct.D))×(Int)):Option (((Int))×((List (ct.D))×Unit)):=
 let cr:List (ct.D):=xs.1
 let k_1:=xs.2
 let HX:Wh.PX:=(((0:Int),(),k_1),cr)
 bif lF Wh.DD HX then
  let H_:=kG Wh.DD Wh.UL HX
  let GZ:=H_.1
  let Au:List (ct.D):=H_.2
  some (GZ,Au,())
 else none
def Wh.q26':=e_ Wh.q26
theorem Wh.q26_v:OV Wh.q26 Wh.q26':=fk _
def Wh.q60 (xs:(gv.D)×(Int)):Option (((Int))×((gv.D)×Unit)):=
 let cr:gv.D:=xs.1
 let k_1:=xs.2
 let r_2:Int×List (ct.D)×Unit:=Wh.q26' (cr.1,k_1)
 bif iy [nQ (Wh.q26 (cr.1,k_1))] then
  some (r_2.1,(r_2.2.1,cr.2),())
 else none
def Wh.q60':=e_ Wh.q60
theorem Wh.q60_v:OV Wh.q60 Wh.q60':=fk _
abbrev Wh.PO:Type:=((Int)×(Unit)×(Int))×((List (en.D)))
abbrev Wh.ZO:Type:=((((Int))×((List (en.D)))))
def Wh.DA (x:Wh.PO):Option (Wh.PO⊕Wh.ZO):=
 let xR:=x.1.1
 let k_17:=x.1.2.2
 let FZ:List (en.D):=x.2
 let nG:Int:=(↑(List.length FZ):Int)
 bif decide (xR<nG) then
  let Ew:List (en.D):=List.set FZ (Int.toNat xR) (k_17,Prod.snd (List.getD FZ (Int.toNat xR) ((0:Int),(0:Int),(0:Int),(0:Int),())))
  bif iy [decide ((0:Int)≤xR),decide (xR<nG)] then
   let yd:=IntKind.wrap .i64 (k_17+(1:Int))
   let AP:List (en.D):=List.set Ew (Int.toNat xR) (Prod.fst (List.getD Ew (Int.toNat xR) ((0:Int),(0:Int),(0:Int),(0:Int),())),yd,Prod.snd (Prod.snd (List.getD Ew (Int.toNat xR) ((0:Int),(0:Int),(0:Int),(0:Int),()))))
   bif iy [decide ((0:Int)≤xR),decide (xR<(↑(List.length Ew):Int))] then
    let nW:=IntKind.wrap .i64 (yd+(1:Int))
    let zG:List (en.D):=List.set AP (Int.toNat xR) (Prod.fst (List.getD AP (Int.toNat xR) ((0:Int),(0:Int),(0:Int),(0:Int),())),Prod.fst (Prod.snd (List.getD AP (Int.toNat xR) ((0:Int),(0:Int),(0:Int),(0:Int),()))),nW,Prod.snd (Prod.snd (Prod.snd (List.getD AP (Int.toNat xR) ((0:Int),(0:Int),(0:Int),(0:Int),())))))
    bif iy [decide ((0:Int)≤xR),decide (xR<(↑(List.length AP):Int))] then
     let n_:=IntKind.wrap .i64 (nW+(1:Int))
     let xU:List (en.D):=List.set zG (Int.toNat xR) (Prod.fst (List.getD zG (Int.toNat xR) ((0:Int),(0:Int),(0:Int),(0:Int),())),Prod.fst (Prod.snd (List.getD zG (Int.toNat xR) ((0:Int),(0:Int),(0:Int),(0:Int),()))),Prod.fst (Prod.snd (Prod.snd (List.getD zG (Int.toNat xR) ((0:Int),(0:Int),(0:Int),(0:Int),())))),n_,Prod.snd (Prod.snd (Prod.snd (Prod.snd (List.getD zG (Int.toNat xR) ((0:Int),(0:Int),(0:Int),(0:Int),()))))))
     bif iy [decide ((0:Int)≤xR),decide (xR<(↑(List.length zG):Int))] then
      some (.inl (((IntKind.wrap .i64 (xR+(1:Int))),(),(IntKind.wrap .i64 (n_+(1:Int)))),xU))
     else none
    else none
   else none
  else none
 else
  some (.inr (k_17,FZ))
def Wh.UH:(((Int))×((List (en.D)))):=default
def Wh.q18 (xs:(List (en.D))×(Int)):Option (((Int))×((List (en.D))×Unit)):=
 let cr:List (en.D):=xs.1
 let k_1:=xs.2
 let HV:Wh.PO:=(((0:Int),(),k_1),cr)
 bif lF Wh.DA HV then
  let Ft:=kG Wh.DA Wh.UH HV
  let k_32:=Ft.1
  let xO:List (en.D):=Ft.2
  some (k_32,xO,())
 else none
def Wh.q18':=e_ Wh.q18
theorem Wh.q18_v:OV Wh.q18 Wh.q18':=fk _
abbrev Wh.PY:Type:=((Int)×(Unit)×(Int))×((List (fN.D)))
abbrev Wh.ZS:Type:=((((Int))×((List (fN.D)))))
def Wh.DE (x:Wh.PY):Option (Wh.PY⊕Wh.ZS):=
 let mb:=x.1.1
 let A2:=x.1.2.2
 let AO:List (fN.D):=x.2
 let zI:Int:=(↑(List.length AO):Int)
 bif decide (mb<zI) then
  let zG:List (fN.D):=List.set AO (Int.toNat mb) (A2,Prod.snd (List.getD AO (Int.toNat mb) ((0:Int),(0:Int),(0:Int),(0:Int),(0:Int),(0:Int),())))
  bif iy [decide ((0:Int)≤mb),decide (mb<zI)] then
   let n_:=IntKind.wrap .i64 (A2+(1:Int))
   let xU:List (fN.D):=List.set zG (Int.toNat mb) (Prod.fst (List.getD zG (Int.toNat mb) ((0:Int),(0:Int),(0:Int),(0:Int),(0:Int),(0:Int),())),n_,Prod.snd (Prod.snd (List.getD zG (Int.toNat mb) ((0:Int),(0:Int),(0:Int),(0:Int),(0:Int),(0:Int),()))))
   bif iy [decide ((0:Int)≤mb),decide (mb<(↑(List.length zG):Int))] then
    let nE:=IntKind.wrap .i64 (n_+(1:Int))
    let xZ:List (fN.D):=List.set xU (Int.toNat mb) (Prod.fst (List.getD xU (Int.toNat mb) ((0:Int),(0:Int),(0:Int),(0:Int),(0:Int),(0:Int),())),Prod.fst (Prod.snd (List.getD xU (Int.toNat mb) ((0:Int),(0:Int),(0:Int),(0:Int),(0:Int),(0:Int),()))),nE,Prod.snd (Prod.snd (Prod.snd (List.getD xU (Int.toNat mb) ((0:Int),(0:Int),(0:Int),(0:Int),(0:Int),(0:Int),())))))
    bif iy [decide ((0:Int)≤mb),decide (mb<(↑(List.length xU):Int))] then
     let zo:=IntKind.wrap .i64 (nE+(1:Int))
     let r5:List (fN.D):=List.set xZ (Int.toNat mb) (Prod.fst (List.getD xZ (Int.toNat mb) ((0:Int),(0:Int),(0:Int),(0:Int),(0:Int),(0:Int),())),Prod.fst (Prod.snd (List.getD xZ (Int.toNat mb) ((0:Int),(0:Int),(0:Int),(0:Int),(0:Int),(0:Int),()))),Prod.fst (Prod.snd (Prod.snd (List.getD xZ (Int.toNat mb) ((0:Int),(0:Int),(0:Int),(0:Int),(0:Int),(0:Int),())))),zo,Prod.snd (Prod.snd (Prod.snd (Prod.snd (List.getD xZ (Int.toNat mb) ((0:Int),(0:Int),(0:Int),(0:Int),(0:Int),(0:Int),()))))))
     bif iy [decide ((0:Int)≤mb),decide (mb<(↑(List.length xZ):Int))] then
      let zJ:=IntKind.wrap .i64 (zo+(1:Int))
      let xO:List (fN.D):=List.set r5 (Int.toNat mb) (Prod.fst (List.getD r5 (Int.toNat mb) ((0:Int),(0:Int),(0:Int),(0:Int),(0:Int),(0:Int),())),Prod.fst (Prod.snd (List.getD r5 (Int.toNat mb) ((0:Int),(0:Int),(0:Int),(0:Int),(0:Int),(0:Int),()))),Prod.fst (Prod.snd (Prod.snd (List.getD r5 (Int.toNat mb) ((0:Int),(0:Int),(0:Int),(0:Int),(0:Int),(0:Int),())))),Prod.fst (Prod.snd (Prod.snd (Prod.snd (List.getD r5 (Int.toNat mb) ((0:Int),(0:Int),(0:Int),(0:Int),(0:Int),(0:Int),()))))),zJ,Prod.snd (Prod.snd (Prod.snd (Prod.snd (Prod.snd (List.getD r5 (Int.toNat mb) ((0:Int),(0:Int),(0:Int),(0:Int),(0:Int),(0:Int),())))))))
      bif iy [decide ((0:Int)≤mb),decide (mb<(↑(List.length r5):Int))] then
       let AW:=IntKind.wrap .i64 (zJ+(1:Int))
       let G7:List (fN.D):=List.set xO (Int.toNat mb) (Prod.fst (List.getD xO (Int.toNat mb) ((0:Int),(0:Int),(0:Int),(0:Int),(0:Int),(0:Int),())),Prod.fst (Prod.snd (List.getD xO (Int.toNat mb) ((0:Int),(0:Int),(0:Int),(0:Int),(0:Int),(0:Int),()))),Prod.fst (Prod.snd (Prod.snd (List.getD xO (Int.toNat mb) ((0:Int),(0:Int),(0:Int),(0:Int),(0:Int),(0:Int),())))),Prod.fst (Prod.snd (Prod.snd (Prod.snd (List.getD xO (Int.toNat mb) ((0:Int),(0:Int),(0:Int),(0:Int),(0:Int),(0:Int),()))))),Prod.fst (Prod.snd (Prod.snd (Prod.snd (Prod.snd (List.getD xO (Int.toNat mb) ((0:Int),(0:Int),(0:Int),(0:Int),(0:Int),(0:Int),())))))),AW,Prod.snd (Prod.snd (Prod.snd (Prod.snd (Prod.snd (Prod.snd (List.getD xO (Int.toNat mb) ((0:Int),(0:Int),(0:Int),(0:Int),(0:Int),(0:Int),()))))))))
       bif iy [decide ((0:Int)≤mb),decide (mb<(↑(List.length xO):Int))] then
        some (.inl (((IntKind.wrap .i64 (mb+(1:Int))),(),(IntKind.wrap .i64 (AW+(1:Int)))),G7))
       else none
      else none
     else none
    else none
   else none
  else none
 else
  some (.inr (A2,AO))
def Wh.UM:(((Int))×((List (fN.D)))):=default
def Wh.q27 (xs:(List (fN.D))×(Int)):Option (((Int))×((List (fN.D))×Unit)):=
 let cr:List (fN.D):=xs.1
 let k_1:=xs.2
 let HX:Wh.PY:=(((0:Int),(),k_1),cr)
 bif lF Wh.DE HX then
  let H_:=kG Wh.DE Wh.UM HX
  let GZ:=H_.1
  let Au:List (fN.D):=H_.2
  some (GZ,Au,())
 else none
def Wh.q27':=e_ Wh.q27
theorem Wh.q27_v:OV Wh.q27 Wh.q27':=fk _
def Wh.CG (xs:(cx.D)×(Int)):Option (((Int))×((cx.D)×Unit)):=
 let cr:cx.D:=xs.1
 let k_1:=xs.2
 let r_2:Int×(bx.D)×Unit:=Wh.q87' ((cr.2.2.2).1,k_1)
 bif iy [nQ (Wh.q87 ((cr.2.2.2).1,k_1))] then
  let r_3:Int×(gv.D)×Unit:=Wh.q60' (cr.2.2.2.2.1,r_2.1)
  bif iy [nQ (Wh.q60 (cr.2.2.2.2.1,r_2.1))] then
   let fT:Int×List (en.D)×Unit:=Wh.q18' ((cr.2.2.2.2.2).1,r_3.1)
   bif iy [nQ (Wh.q18 ((cr.2.2.2.2.2).1,r_3.1))] then
    let x_:Int×List (fN.D)×Unit:=Wh.q27' ((cr.2.2.2.2.2).2.1,fT.1)
    bif iy [nQ (Wh.q27 ((cr.2.2.2.2.2).2.1,fT.1))] then
     some (x_.1,(cr.1,cr.2.1,cr.2.2.1,((cr.2.2.2).1.1,(r_2.2.1.2).1,(cr.2.2.2).1.2.2),(r_3.2.1.1,(cr.2.2.2.2.1).2),fT.2.1,x_.2.1,(cr.2.2.2.2.2).2.2),())
    else none
   else none
  else none
 else none
def Wh.LB:=e_ Wh.CG
theorem Wh.PZ:OV Wh.CG Wh.LB:=fk _
abbrev Wh.P7:Type:=((Int)×(List (an.D))×(Int))×(Unit)
abbrev Wh.ZX:Type:=((((Int))×(Unit))⊕(((Int))×(Unit)))
def Wh.DG (x:Wh.P7):Option (Wh.P7⊕Wh.ZX):=
 let A1:=x.1.1
 let a_20:List (an.D):=x.1.2.1
 let A2:=x.1.2.2
 let yd:Int:=(↑(List.length a_20):Int)
 bif decide (A1<yd) then
  let nW:an.D:=List.getD a_20 (Int.toNat A1) ((0:Int),[],(0:Int),[],())
  bif iy [decide ((0:Int)≤A1),decide (A1<yd)] then
   bif(nW.1 != A2) then
    some (.inr (.inl ((-1:Int),())))
   else
    let n_:=IntKind.wrap .i64 (A2+(1:Int))
    let BQ:xV.D:=Wh.E7 n_
    bif iy [nQ (Wh.AQ n_),decide ((0:Int)≤A1),decide (A1<yd)] then
     bif(!nW.2.1==BQ.1) then
      some (.inr (.inl ((-1:Int),())))
     else
      let y6:=IntKind.wrap .i64 (n_+(1:Int))
      bif iy [decide ((0:Int)≤A1),decide (A1<yd)] then
       bif(nW.2.2.1 != y6) then
        some (.inr (.inl ((-1:Int),())))
       else
        let D3:=IntKind.wrap .i64 (y6+(1:Int))
        let th:xV.D:=Wh.E7 D3
        bif iy [nQ (Wh.AQ D3),decide ((0:Int)≤A1),decide (A1<yd)] then
         bif(!(nW.2.2.2).1==th.1) then
          some (.inr (.inl ((-1:Int),())))
         else
          some (.inl (((IntKind.wrap .i64 (A1+(1:Int))),a_20,(IntKind.wrap .i64 (D3+(1:Int)))),()))
        else none
      else none
    else none
  else none
 else
  some (.inr (.inr (A2,())))
def Wh.US:(((Int))×(Unit))⊕(((Int))×(Unit)):=.inl default
def Wh.q39 (xs:(List (an.D))×(Int)):Option (((Int))×(Unit)):=
 let cr:List (an.D):=xs.1
 let k_1:=xs.2
 let x_36:Wh.P7:=(((0:Int),cr,k_1),())
 bif lF Wh.DG x_36 then
  sumC (kG Wh.DG Wh.US x_36) (fun y_37=>
   let Fm:=y_37.1
   some (Fm,())) (fun z_38=>
   let GZ:=z_38.1
   some (GZ,()))
 else none
def Wh.q39':=e_ Wh.q39
theorem Wh.q39_v:OV Wh.q39 Wh.q39':=fk _
def Wh.q86 (xs:(bx.D)×(Int)):Option (((Int))×(Unit)):=
 let cr:bx.D:=xs.1
 let k_1:=xs.2
 let r_2:=Wh.q39' (cr.2.1,k_1)
 bif iy [nQ (Wh.q39 (cr.2.1,k_1))] then
  bif decide (r_2.1<(0:Int)) then
   some ((-1:Int),())
  else
   some (r_2.1,())
 else none
def Wh.q86':=e_ Wh.q86
theorem Wh.q86_v:OV Wh.q86 Wh.q86':=fk _
abbrev Wh.PV:Type:=((Int)×(List (ct.D))×(Int))×(Unit)
abbrev Wh.ZP:Type:=((((Int))×(Unit))⊕(((Int))×(Unit)))
def Wh.DB (x:Wh.PV):Option (Wh.PV⊕Wh.ZP):=
 let xT:=x.1.1
 let Ea:List (ct.D):=x.1.2.1
 let Em:=x.1.2.2
 let nW:Int:=(↑(List.length Ea):Int)
 bif decide (xT<nW) then
  let n_:ct.D:=List.getD Ea (Int.toNat xT) ((0:Int),(0:Int),(0:Int),(0:Int),false,())
  bif iy [decide ((0:Int)≤xT),decide (xT<nW)] then
   bif(n_.1 != Em) then
    some (.inr (.inl ((-1:Int),())))
   else
    let nE:=IntKind.wrap .i64 (Em+(1:Int))
    bif iy [decide ((0:Int)≤xT),decide (xT<nW)] then
     bif(n_.2.1 != nE) then
      some (.inr (.inl ((-1:Int),())))
     else
      let zo:=IntKind.wrap .i64 (nE+(1:Int))
      bif iy [decide ((0:Int)≤xT),decide (xT<nW)] then
       bif(n_.2.2.1 != zo) then
        some (.inr (.inl ((-1:Int),())))
       else
        let zJ:=IntKind.wrap .i64 (zo+(1:Int))
        let zK:Bool:=(n_.2.2.2).1 != zJ
        bif iy [decide ((0:Int)≤xT),decide (xT<nW)] then
         bif zK then
          some (.inr (.inl ((-1:Int),())))
         else
          let AW:=IntKind.wrap .i64 (zJ+(1:Int))
          bif iy [true,decide ((0:Int)≤xT),decide (xT<nW)] then
           bif(!n_.2.2.2.2.1==((Int.tmod AW (3:Int))==(0:Int))) then
            some (.inr (.inl ((-1:Int),())))
           else
            some (.inl (((IntKind.wrap .i64 (xT+(1:Int))),Ea,(IntKind.wrap .i64 (AW+(1:Int)))),()))
          else none
        else none
      else none
    else none
  else none
 else
  some (.inr (.inr (Em,())))
def Wh.UJ:(((Int))×(Unit))⊕(((Int))×(Unit)):=.inl default
def Wh.q23 (xs:(List (ct.D))×(Int)):Option (((Int))×(Unit)):=
 let cr:List (ct.D):=xs.1
 let k_1:=xs.2
 let D6:Wh.PV:=(((0:Int),cr,k_1),())
 bif lF Wh.DB D6 then
  sumC (kG Wh.DB Wh.UJ D6) (fun Gq=>
   let Gj:=Gq.1
   some (Gj,())) (fun z_42=>
   let k_44:=z_42.1
   some (k_44,()))
 else none
def Wh.q23':=e_ Wh.q23
theorem Wh.q23_v:OV Wh.q23 Wh.q23':=fk _
def Wh.q59 (xs:(gv.D)×(Int)):Option (((Int))×(Unit)):=
 let cr:gv.D:=xs.1
 let k_1:=xs.2
 let r_2:=Wh.q23' (cr.1,k_1)
 bif iy [nQ (Wh.q23 (cr.1,k_1))] then
  bif decide (r_2.1<(0:Int)) then
   some ((-1:Int),())
  else
   some (r_2.1,())
 else none
def Wh.q59':=e_ Wh.q59
theorem Wh.q59_v:OV Wh.q59 Wh.q59':=fk _
abbrev Wh.PN:Type:=((Int)×(List (en.D))×(Int))×(Unit)
abbrev Wh.ZN:Type:=((((Int))×(Unit))⊕(((Int))×(Unit)))
def Wh.Dz (x:Wh.PN):Option (Wh.PN⊕Wh.ZN):=
 let y7:=x.1.1
 let D_:List (en.D):=x.1.2.1
 let El:=x.1.2.2
 let nC:Int:=(↑(List.length D_):Int)
 bif decide (y7<nC) then
  let yd:en.D:=List.getD D_ (Int.toNat y7) ((0:Int),(0:Int),(0:Int),(0:Int),())
  bif iy [decide ((0:Int)≤y7),decide (y7<nC)] then
   bif(yd.1 != El) then
    some (.inr (.inl ((-1:Int),())))
   else
    let nW:=IntKind.wrap .i64 (El+(1:Int))
    bif iy [decide ((0:Int)≤y7),decide (y7<nC)] then
     bif(yd.2.1 != nW) then
      some (.inr (.inl ((-1:Int),())))
     else
      let n_:=IntKind.wrap .i64 (nW+(1:Int))
      bif iy [decide ((0:Int)≤y7),decide (y7<nC)] then
       bif(yd.2.2.1 != n_) then
        some (.inr (.inl ((-1:Int),())))
       else
        let nE:=IntKind.wrap .i64 (n_+(1:Int))
        let y6:Bool:=(yd.2.2.2).1 != nE
        bif iy [decide ((0:Int)≤y7),decide (y7<nC)] then
         bif y6 then
          some (.inr (.inl ((-1:Int),())))
         else
          some (.inl (((IntKind.wrap .i64 (y7+(1:Int))),D_,(IntKind.wrap .i64 (nE+(1:Int)))),()))
        else none
      else none
    else none
  else none
 else
  some (.inr (.inr (El,())))
def Wh.UG:(((Int))×(Unit))⊕(((Int))×(Unit)):=.inl default
def Wh.q17 (xs:(List (en.D))×(Int)):Option (((Int))×(Unit)):=
 let cr:List (en.D):=xs.1
 let k_1:=xs.2
 let x_32:Wh.PN:=(((0:Int),cr,k_1),())
 bif lF Wh.Dz x_32 then
  sumC (kG Wh.Dz Wh.UG x_32) (fun y_33=>
   let HN:=y_33.1
   some (HN,())) (fun z_34=>
   let k_36:=z_34.1
   some (k_36,()))
 else none
def Wh.q17':=e_ Wh.q17
theorem Wh.q17_v:OV Wh.q17 Wh.q17':=fk _
abbrev Wh.PW:Type:=((Int)×(List (fN.D))×(Int))×(Unit)
abbrev Wh.ZQ:Type:=((((Int))×(Unit))⊕(((Int))×(Unit)))
def Wh.DC (x:Wh.PW):Option (Wh.PW⊕Wh.ZQ):=
 let xT:=x.1.1
 let Ea:List (fN.D):=x.1.2.1
 let Em:=x.1.2.2
 let nW:Int:=(↑(List.length Ea):Int)
 bif decide (xT<nW) then
  let n_:fN.D:=List.getD Ea (Int.toNat xT) ((0:Int),(0:Int),(0:Int),(0:Int),(0:Int),(0:Int),())
  bif iy [decide ((0:Int)≤xT),decide (xT<nW)] then
   bif(n_.1 != Em) then
    some (.inr (.inl ((-1:Int),())))
   else
    let nE:=IntKind.wrap .i64 (Em+(1:Int))
    bif iy [decide ((0:Int)≤xT),decide (xT<nW)] then
     bif(n_.2.1 != nE) then
      some (.inr (.inl ((-1:Int),())))
     else
      let zo:=IntKind.wrap .i64 (nE+(1:Int))
      bif iy [decide ((0:Int)≤xT),decide (xT<nW)] then
       bif(n_.2.2.1 != zo) then
        some (.inr (.inl ((-1:Int),())))
       else
        let zJ:=IntKind.wrap .i64 (zo+(1:Int))
        let zK:Bool:=(n_.2.2.2).1 != zJ
        bif iy [decide ((0:Int)≤xT),decide (xT<nW)] then
         bif zK then
          some (.inr (.inl ((-1:Int),())))
         else
          let AW:=IntKind.wrap .i64 (zJ+(1:Int))
          bif iy [decide ((0:Int)≤xT),decide (xT<nW)] then
           bif(n_.2.2.2.2.1 != AW) then
            some (.inr (.inl ((-1:Int),())))
           else
            let ye:=IntKind.wrap .i64 (AW+(1:Int))
            let v_37:Bool:=(n_.2.2.2.2.2).1 != ye
            bif iy [decide ((0:Int)≤xT),decide (xT<nW)] then
             bif v_37 then
              some (.inr (.inl ((-1:Int),())))
             else
              some (.inl (((IntKind.wrap .i64 (xT+(1:Int))),Ea,(IntKind.wrap .i64 (ye+(1:Int)))),()))
            else none
          else none
        else none
      else none
    else none
  else none
 else
  some (.inr (.inr (Em,())))
def Wh.UK:(((Int))×(Unit))⊕(((Int))×(Unit)):=.inl default
def Wh.q24 (xs:(List (fN.D))×(Int)):Option (((Int))×(Unit)):=
 let cr:List (fN.D):=xs.1
 let k_1:=xs.2
 let D6:Wh.PW:=(((0:Int),cr,k_1),())
 bif lF Wh.DC D6 then
  sumC (kG Wh.DC Wh.UK D6) (fun Gq=>
   let Gj:=Gq.1
   some (Gj,())) (fun z_42=>
   let k_44:=z_42.1
   some (k_44,()))
 else none
def Wh.q24':=e_ Wh.q24
theorem Wh.q24_v:OV Wh.q24 Wh.q24':=fk _
def Wh.CF (xs:(cx.D)×(Int)):Option (((Int))×(Unit)):=
 let cr:cx.D:=xs.1
 let k_1:=xs.2
 let r_2:=Wh.q86' ((cr.2.2.2).1,k_1)
 bif iy [nQ (Wh.q86 ((cr.2.2.2).1,k_1))] then
  bif decide (r_2.1<(0:Int)) then
   some ((-1:Int),())
  else
   let fT:=Wh.q59' (cr.2.2.2.2.1,r_2.1)
   bif iy [nQ (Wh.q59 (cr.2.2.2.2.1,r_2.1))] then
    bif decide (fT.1<(0:Int)) then
     some ((-1:Int),())
    else
     let yw:=Wh.q17' ((cr.2.2.2.2.2).1,fT.1)
     bif iy [nQ (Wh.q17 ((cr.2.2.2.2.2).1,fT.1))] then
      bif decide (yw.1<(0:Int)) then
       some ((-1:Int),())
      else
       let yP:=Wh.q24' ((cr.2.2.2.2.2).2.1,yw.1)
       bif iy [nQ (Wh.q24 ((cr.2.2.2.2.2).2.1,yw.1))] then
        bif decide (yP.1<(0:Int)) then
         some ((-1:Int),())
        else
         some (yP.1,())
       else none
     else none
   else none
 else none
def Wh.q25':=e_ Wh.CF
theorem Wh.q25_v:OV Wh.CF Wh.q25':=fk _
def Wh.q5 (xs:(cx.D)):Option (((Bool))×(Unit)):=
 let D9:cx.D:=xs
 let r_1:=Wh.q64' (D9,(1048576:Int))
 bif iy [nQ (Wh.q64 (D9,(1048576:Int)))] then
  bif decide (r_1.1<(0:Int)) then
   some (true,())
  else
   let r_3:(cx.D)×Unit:=Wh.q68' D9
   let fT:(cx.D)×Unit:=Wh.q29' r_3.1
   bif iy [nQ (Wh.q29 r_3.1),nQ (Wh.BM D9)] then
    bif iy [nQ (Wh.BM D9)] then
     let nP:(cx.D)×Unit:=Wh.q22' r_3.1
     bif iy [nQ (Wh.CE r_3.1)] then
      let y5:=Wh.Ht (nP.1,fT.1.1,fT.1.2.1,(fT.1.2.2).1,((fT.1.2.2.2.1).1,(fT.1.2.2.2.1).2.1,(fT.1.2.2.2.1).2.2),((fT.1.2.2.2.2).1.1,(fT.1.2.2.2.2).1.2),(fT.1.2.2.2.2).2.1,(fT.1.2.2.2.2).2.2.1,(fT.1.2.2.2.2).2.2.2)
      bif iy [nQ (Wh.Bb (nP.1,fT.1.1,fT.1.2.1,(fT.1.2.2).1,((fT.1.2.2.2.1).1,(fT.1.2.2.2.1).2.1,(fT.1.2.2.2.1).2.2),((fT.1.2.2.2.2).1.1,(fT.1.2.2.2.2).1.2),(fT.1.2.2.2.2).2.1,(fT.1.2.2.2.2).2.2.1,(fT.1.2.2.2.2).2.2.2))] then
       bif !y5.1 then
        some (false,())
       else
        let HA:=Wh.Ht (r_3.1,r_3.1)
        bif iy [nQ (Wh.Bb (r_3.1,r_3.1)),nQ (Wh.BM D9)] then
         bif !HA.1 then
          some (false,())
         else
          let r_26:Int×(cx.D)×Unit:=Wh.LB (r_3.1,(1:Int))
          bif iy [nQ (Wh.CG (r_3.1,(1:Int)))] then
           let Bg:=decide (r_26.1<(0:Int))
           let nE:=bif Bg then true else !y5.1
           bif iy [!!Bg || nQ (Wh.Bb (nP.1,fT.1.1,fT.1.2.1,(fT.1.2.2).1,((fT.1.2.2.2.1).1,(fT.1.2.2.2.1).2.1,(fT.1.2.2.2.1).2.2),((fT.1.2.2.2.2).1.1,(fT.1.2.2.2.2).1.2),(fT.1.2.2.2.2).2.1,(fT.1.2.2.2.2).2.2.1,(fT.1.2.2.2.2).2.2.2))] then
            bif nE then
             some (false,())
            else
             let zZ:Int×(cx.D)×Unit:=Wh.LB (nP.1,(1:Int))
             bif iy [nQ (Wh.CG (nP.1,(1:Int)))] then
              let Gf:=Wh.q25' ((nP.1.1,nP.1.2.1,(nP.1.2.2).1,((nP.1.2.2.2.1).1,(zZ.2.1.2.2.2).1.2.1,(nP.1.2.2.2.1).2.2),((zZ.2.1.2.2.2).2.1.1,(nP.1.2.2.2.2).1.2),(zZ.2.1.2.2.2).2.2.1,(zZ.2.1.2.2.2).2.2.2.1,(nP.1.2.2.2.2).2.2.2),(1:Int))
              bif iy [nQ (Wh.CF ((nP.1.1,nP.1.2.1,(nP.1.2.2).1,((nP.1.2.2.2.1).1,(zZ.2.1.2.2.2).1.2.1,(nP.1.2.2.2.1).2.2),((zZ.2.1.2.2.2).2.1.1,(nP.1.2.2.2.2).1.2),(zZ.2.1.2.2.2).2.2.1,(zZ.2.1.2.2.2).2.2.2.1,(nP.1.2.2.2.2).2.2.2),(1:Int)))] then
               let D3:=decide (Gf.1<(0:Int))
               bif D3 then
                some (false,())
               else
                let zJ:=Gf.1 != zZ.1
                bif zJ then
                 some (false,())
                else
                 bif iy [nQ (Wh.CE r_3.1),nQ (Wh.BM D9)] then
                  let r_51:=Wh.Ht ((nP.1.1,nP.1.2.1,(nP.1.2.2).1,((nP.1.2.2.2.1).1,(nP.1.2.2.2.1).2.1,(nP.1.2.2.2.1).2.2),((nP.1.2.2.2.2).1.1,(nP.1.2.2.2.2).1.2),(nP.1.2.2.2.2).2.1,(nP.1.2.2.2.2).2.2.1,(nP.1.2.2.2.2).2.2.2),fT.1.1,fT.1.2.1,(fT.1.2.2).1,((fT.1.2.2.2.1).1,(fT.1.2.2.2.1).2.1,(fT.1.2.2.2.1).2.2),((fT.1.2.2.2.2).1.1,(fT.1.2.2.2.2).1.2),(fT.1.2.2.2.2).2.1,(fT.1.2.2.2.2).2.2.1,(fT.1.2.2.2.2).2.2.2)
                  bif iy [nQ (Wh.Bb ((nP.1.1,nP.1.2.1,(nP.1.2.2).1,((nP.1.2.2.2.1).1,(nP.1.2.2.2.1).2.1,(nP.1.2.2.2.1).2.2),((nP.1.2.2.2.2).1.1,(nP.1.2.2.2.2).1.2),(nP.1.2.2.2.2).2.1,(nP.1.2.2.2.2).2.2.1,(nP.1.2.2.2.2).2.2.2),fT.1.1,fT.1.2.1,(fT.1.2.2).1,((fT.1.2.2.2.1).1,(fT.1.2.2.2.1).2.1,(fT.1.2.2.2.1).2.2),((fT.1.2.2.2.2).1.1,(fT.1.2.2.2.2).1.2),(fT.1.2.2.2.2).2.1,(fT.1.2.2.2.2).2.2.1,(fT.1.2.2.2.2).2.2.2))] then
                   bif !r_51.1 then
                    some (false,())
                   else
                    bif iy [nQ (Wh.CF ((nP.1.1,nP.1.2.1,(nP.1.2.2).1,((nP.1.2.2.2.1).1,(zZ.2.1.2.2.2).1.2.1,(nP.1.2.2.2.1).2.2),((zZ.2.1.2.2.2).2.1.1,(nP.1.2.2.2.2).1.2),(zZ.2.1.2.2.2).2.2.1,(zZ.2.1.2.2.2).2.2.2.1,(nP.1.2.2.2.2).2.2.2),(1:Int)))] then
                     bif D3 then
                      some (false,())
                     else
                      bif zJ then
                       some (false,())
                      else
                       some (true,())
                    else none
                  else none
                 else none
              else none
             else none
           else none
          else none
        else none
      else none
     else none
    else none
   else none
 else none
def Wh.q5':=e_ Wh.q5
end
