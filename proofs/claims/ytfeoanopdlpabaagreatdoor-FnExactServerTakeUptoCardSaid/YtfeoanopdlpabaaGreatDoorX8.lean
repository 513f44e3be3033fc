import Derived.Test.YtfeoanopdlpabaaGreatDoorX7
open Go Go.Ab
noncomputable section
def Wh.E8 (xs:(bx.D)×(bx.D)):Option (((Bool))×(Unit)):=
 let cr:bx.D:=xs.1
 let b_1:bx.D:=xs.2
 bif(cr.1 != b_1.1) then
  some (false,())
 else
  let r_3:=Wh.q83' (cr.2.1,b_1.2.1)
  bif iy [nQ (Wh.q83 (cr.2.1,b_1.2.1))] then
   bif !r_3.1 then
    some (false,())
   else
    some (true,())
  else none
def Wh.P2:=eB Wh.E8
theorem Wh.U1:OV Wh.E8 Wh.P2:=fe _
def Wh.q82 (xs:(ct.D)×(ct.D)):Option (((Bool))×(Unit)):=
 let cr:ct.D:=xs.1
 let b_1:ct.D:=xs.2
 bif(cr.1 != b_1.1) then
  some (false,())
 else
  bif(cr.2.1 != b_1.2.1) then
   some (false,())
  else
   bif(cr.2.2.1 != b_1.2.2.1) then
    some (false,())
   else
    let xV:Bool:=(cr.2.2.2).1 != (b_1.2.2.2).1
    bif xV then
     some (false,())
    else
     bif(!cr.2.2.2.2.1==b_1.2.2.2.2.1) then
      some (false,())
     else
      some (true,())
def Wh.q82':=eB Wh.q82
theorem Wh.q82_v:OV Wh.q82 Wh.q82':=fe _
abbrev Wh.Q1:Type:=((Int)×(List (ct.D))×(List (ct.D)))×(Unit)
abbrev Wh.aa0:Type:=((((Bool))×(Unit))⊕((Unit)×(Unit)))
def Wh.Fo (x:Wh.Q1):Option (Wh.Q1⊕Wh.aa0):=
 let gT:=x.1.1
 let zX:List (ct.D):=x.1.2.1
 let zU:List (ct.D):=x.1.2.2
 let xN:Int:=(↑(List.length zU):Int)
 bif decide (gT<xN) then
  let nG:ct.D:=List.getD zU (Int.toNat gT) ((0:Int),(0:Int),(0:Int),(0:Int),false,())
  let so:ct.D:=List.getD zX (Int.toNat gT) ((0:Int),(0:Int),(0:Int),(0:Int),false,())
  let zQ:=Wh.q82' (nG,so)
  bif iy [nQ (Wh.q82 (nG,so)),decide ((0:Int)≤gT),decide (gT<(↑(List.length zX):Int)),decide ((0:Int)≤gT),decide (gT<xN)] then
   bif !zQ.1 then
    some (.inr (.inl (false,())))
   else
    some (.inl (((IntKind.wrap .i64 (gT+(1:Int))),zX,zU),()))
  else none
 else
  some (.inr (.inr ((),())))
def Wh.VK:(((Bool))×(Unit))⊕((Unit)×(Unit)):=.inl default
def Wh.q56 (xs:(List (ct.D))×(List (ct.D))):Option (((Bool))×(Unit)):=
 let cr:List (ct.D):=xs.1
 let b_1:List (ct.D):=xs.2
 let v_2:Int:=(↑(List.length cr):Int)
 let r5:Int:=(↑(List.length b_1):Int)
 let yw:=v_2 != r5
 bif yw then
  some (false,())
 else
  let x_25:Wh.Q1:=(((0:Int),b_1,cr),())
  bif lF Wh.Fo x_25 then
   sumC (kG Wh.Fo Wh.VK x_25) (fun Ah=>
    let nC:=Ah.1
    some (nC,())) (fun _=>
    some (true,()))
  else none
def Wh.q56':=eB Wh.q56
theorem Wh.q56_v:OV Wh.q56 Wh.q56':=fe _
def Wh.ET (xs:(fN.D)×(fN.D)):Option (((Bool))×(Unit)):=
 let cr:fN.D:=xs.1
 let b_1:fN.D:=xs.2
 let r_2:=Wh.q56' (cr.1,b_1.1)
 bif iy [nQ (Wh.q56 (cr.1,b_1.1))] then
  bif !r_2.1 then
   some (false,())
  else
   bif(cr.2.1 != b_1.2.1) then
    some (false,())
   else
    some (true,())
 else none
def Wh.Pq:=eB Wh.ET
theorem Wh.UC:OV Wh.ET Wh.Pq:=fe _
def Wh.q55 (xs:(fT.D)×(fT.D)):Option (((Bool))×(Unit)):=
 let cr:fT.D:=xs.1
 let b_1:fT.D:=xs.2
 bif(cr.1 != b_1.1) then
  some (false,())
 else
  bif(cr.2.1 != b_1.2.1) then
   some (false,())
  else
   bif(cr.2.2.1 != b_1.2.2.1) then
    some (false,())
   else
    let xV:Bool:=(cr.2.2.2).1 != (b_1.2.2.2).1
    bif xV then
     some (false,())
    else
     some (true,())
def Wh.q55':=eB Wh.q55
theorem Wh.q55_v:OV Wh.q55 Wh.q55':=fe _
abbrev Wh.QE:Type:=((Int)×(List (fT.D))×(List (fT.D)))×(Unit)
abbrev Wh.aaK:Type:=((((Bool))×(Unit))⊕((Unit)×(Unit)))
def Wh.Fj (x:Wh.QE):Option (Wh.QE⊕Wh.aaK):=
 let gT:=x.1.1
 let zX:List (fT.D):=x.1.2.1
 let zU:List (fT.D):=x.1.2.2
 let xN:Int:=(↑(List.length zU):Int)
 bif decide (gT<xN) then
  let nG:fT.D:=List.getD zU (Int.toNat gT) ((0:Int),(0:Int),(0:Int),(0:Int),())
  let so:fT.D:=List.getD zX (Int.toNat gT) ((0:Int),(0:Int),(0:Int),(0:Int),())
  let zQ:=Wh.q55' (nG,so)
  bif iy [nQ (Wh.q55 (nG,so)),decide ((0:Int)≤gT),decide (gT<(↑(List.length zX):Int)),decide ((0:Int)≤gT),decide (gT<xN)] then
   bif !zQ.1 then
    some (.inr (.inl (false,())))
   else
    some (.inl (((IntKind.wrap .i64 (gT+(1:Int))),zX,zU),()))
  else none
 else
  some (.inr (.inr ((),())))
def Wh.Vt:(((Bool))×(Unit))⊕((Unit)×(Unit)):=.inl default
def Wh.q38 (xs:(List (fT.D))×(List (fT.D))):Option (((Bool))×(Unit)):=
 let cr:List (fT.D):=xs.1
 let b_1:List (fT.D):=xs.2
 let v_2:Int:=(↑(List.length cr):Int)
 let r5:Int:=(↑(List.length b_1):Int)
 let yw:=v_2 != r5
 bif yw then
  some (false,())
 else
  let x_25:Wh.QE:=(((0:Int),b_1,cr),())
  bif lF Wh.Fj x_25 then
   sumC (kG Wh.Fj Wh.Vt x_25) (fun Ah=>
    let nC:=Ah.1
    some (nC,())) (fun _=>
    some (true,()))
  else none
def Wh.q38':=eB Wh.q38
theorem Wh.q38_v:OV Wh.q38 Wh.q38':=fe _
def Wh.q84 (xs:(gd.D)×(gd.D)):Option (((Bool))×(Unit)):=
 let cr:gd.D:=xs.1
 let b_1:gd.D:=xs.2
 bif(cr.1 != b_1.1) then
  some (false,())
 else
  bif(cr.2.1 != b_1.2.1) then
   some (false,())
  else
   bif(cr.2.2.1 != b_1.2.2.1) then
    some (false,())
   else
    let xV:Bool:=(cr.2.2.2).1 != (b_1.2.2.2).1
    bif xV then
     some (false,())
    else
     bif(cr.2.2.2.2.1 != b_1.2.2.2.2.1) then
      some (false,())
     else
      let za:Bool:=(cr.2.2.2.2.2).1 != (b_1.2.2.2.2.2).1
      bif za then
       some (false,())
      else
       some (true,())
def Wh.q84':=eB Wh.q84
theorem Wh.q84_v:OV Wh.q84 Wh.q84':=fe _
abbrev Wh.Q2:Type:=((Int)×(List (gd.D))×(List (gd.D)))×(Unit)
abbrev Wh.aa1:Type:=((((Bool))×(Unit))⊕((Unit)×(Unit)))
def Wh.Fp (x:Wh.Q2):Option (Wh.Q2⊕Wh.aa1):=
 let gT:=x.1.1
 let zX:List (gd.D):=x.1.2.1
 let zU:List (gd.D):=x.1.2.2
 let xN:Int:=(↑(List.length zU):Int)
 bif decide (gT<xN) then
  let nG:gd.D:=List.getD zU (Int.toNat gT) ((0:Int),(0:Int),(0:Int),(0:Int),(0:Int),(0:Int),())
  let so:gd.D:=List.getD zX (Int.toNat gT) ((0:Int),(0:Int),(0:Int),(0:Int),(0:Int),(0:Int),())
  let zQ:=Wh.q84' (nG,so)
  bif iy [nQ (Wh.q84 (nG,so)),decide ((0:Int)≤gT),decide (gT<(↑(List.length zX):Int)),decide ((0:Int)≤gT),decide (gT<xN)] then
   bif !zQ.1 then
    some (.inr (.inl (false,())))
   else
    some (.inl (((IntKind.wrap .i64 (gT+(1:Int))),zX,zU),()))
  else none
 else
  some (.inr (.inr ((),())))
def Wh.VL:(((Bool))×(Unit))⊕((Unit)×(Unit)):=.inl default
def Wh.q57 (xs:(List (gd.D))×(List (gd.D))):Option (((Bool))×(Unit)):=
 let cr:List (gd.D):=xs.1
 let b_1:List (gd.D):=xs.2
 let v_2:Int:=(↑(List.length cr):Int)
 let r5:Int:=(↑(List.length b_1):Int)
 let yw:=v_2 != r5
 bif yw then
  some (false,())
 else
  let x_25:Wh.Q2:=(((0:Int),b_1,cr),())
  bif lF Wh.Fp x_25 then
   sumC (kG Wh.Fp Wh.VL x_25) (fun Ah=>
    let nC:=Ah.1
    some (nC,())) (fun _=>
    some (true,()))
  else none
def Wh.q57':=eB Wh.q57
theorem Wh.q57_v:OV Wh.q57 Wh.q57':=fe _
def Wh.Bk (xs:(cx.D)×(cx.D)):Option (((Bool))×(Unit)):=
 let cr:cx.D:=xs.1
 let b_1:cx.D:=xs.2
 bif(!cr.1==b_1.1) then
  some (false,())
 else
  bif(cr.2.1 != b_1.2.1) then
   some (false,())
  else
   bif(!cr.2.2.1==b_1.2.2.1) then
    some (false,())
   else
    let xS:=Wh.P2 ((cr.2.2.2).1,(b_1.2.2.2).1)
    bif iy [nQ (Wh.E8 ((cr.2.2.2).1,(b_1.2.2.2).1))] then
     bif !xS.1 then
      some (false,())
     else
      let xd:=Wh.Pq (cr.2.2.2.2.1,b_1.2.2.2.2.1)
      bif iy [nQ (Wh.ET (cr.2.2.2.2.1,b_1.2.2.2.2.1))] then
       bif !xd.1 then
        some (false,())
       else
        let yI:=Wh.q38' ((cr.2.2.2.2.2).1,(b_1.2.2.2.2.2).1)
        bif iy [nQ (Wh.q38 ((cr.2.2.2.2.2).1,(b_1.2.2.2.2.2).1))] then
         bif !yI.1 then
          some (false,())
         else
          let yJ:=Wh.q57' ((cr.2.2.2.2.2).2.1,(b_1.2.2.2.2.2).2.1)
          bif iy [nQ (Wh.q57 ((cr.2.2.2.2.2).2.1,(b_1.2.2.2.2.2).2.1))] then
           bif !yJ.1 then
            some (false,())
           else
            some (true,())
          else none
        else none
      else none
    else none
def Wh.HU:=eB Wh.Bk
theorem Wh.Q3:OV Wh.Bk Wh.HU:=fe _
def Wh.q93 (xs:(fN.D)):Option ((((List (ct.D))×((Int)×(Unit))))×(Unit)):=
 let r_:fN.D:=xs
 let zf:List (ct.D):=[]++r_.1
 bif iy [decide ((0:Nat)+List.length r_.1≤dh)] then
  some ((zf,r_.2),())
 else none
def Wh.L7:=eB Wh.q93
theorem Wh.Rk:OV Wh.q93 Wh.L7:=fe _
def Wh.q95 (xs:(cx.D)):Option ((((Bool)×((Int)×((List UInt8)×(((Int)×((List (an.D))×(Unit)))×(((List (ct.D))×((Int)×(Unit)))×((List (fT.D))×((List (gd.D))×(Unit)))))))))×(Unit)):=
 let en:cx.D:=xs
 let r_1:(bx.D)×Unit:=Wh.E3 ((en.2.2.2).1)
 bif iy [nQ (Wh.Bi ((en.2.2.2).1))] then
  let r_2:(fN.D)×Unit:=Wh.L7 (en.2.2.2.2.1)
  bif iy [nQ (Wh.q93 (en.2.2.2.2.1))] then
   let HB:List (fT.D):=[]++(en.2.2.2.2.2).1
   bif iy [decide ((0:Nat)+List.length ((en.2.2.2.2.2).1)≤dh)] then
    let HD:List (gd.D):=[]++(en.2.2.2.2.2).2.1
    bif iy [decide ((0:Nat)+List.length ((en.2.2.2.2.2).2.1)≤dh)] then
     some ((en.1,en.2.1,en.2.2.1,r_1.1,r_2.1,HB,HD,(en.2.2.2.2.2).2.2),())
    else none
   else none
  else none
 else none
def Wh.q95':=eB Wh.q95
theorem Wh.Rm:OV Wh.q95 Wh.q95':=fe _
def Wh.q36 (xs:(fN.D)):Option ((((List (ct.D))×((Int)×(Unit))))×(Unit)):=
 let r_:fN.D:=xs
 let zf:List (ct.D):=[]++r_.1
 bif iy [decide ((0:Nat)+List.length r_.1≤dh)] then
  some ((zf,r_.2.1,()),())
 else none
def Wh.LW:=eB Wh.q36
theorem Wh.QD:OV Wh.q36 Wh.LW:=fe _
def Wh.q15 (xs:(cx.D)):Option ((((Bool)×((Int)×((List UInt8)×(((Int)×((List (an.D))×(Unit)))×(((List (ct.D))×((Int)×(Unit)))×((List (fT.D))×((List (gd.D))×(Unit)))))))))×(Unit)):=
 let en:cx.D:=xs
 let r_1:(bx.D)×Unit:=Wh.Gt ((en.2.2.2).1)
 bif iy [nQ (Wh.BW ((en.2.2.2).1))] then
  let r_2:(fN.D)×Unit:=Wh.LW (en.2.2.2.2.1)
  bif iy [nQ (Wh.q36 (en.2.2.2.2.1))] then
   let HB:List (fT.D):=[]++(en.2.2.2.2.2).1
   bif iy [decide ((0:Nat)+List.length ((en.2.2.2.2.2).1)≤dh)] then
    let HD:List (gd.D):=[]++(en.2.2.2.2.2).2.1
    bif iy [decide ((0:Nat)+List.length ((en.2.2.2.2.2).2.1)≤dh)] then
     some ((en.1,en.2.1,en.2.2.1,r_1.1,r_2.1,HB,HD,(en.2.2.2.2.2).2.2),())
    else none
   else none
  else none
 else none
def Wh.q15':=eB Wh.q15
theorem Wh.Qo:OV Wh.q15 Wh.q15':=fe _
abbrev Wh.Q4:Type:=((Int)×(List UInt8))×(Unit)
abbrev Wh.aa2:Type:=((((List UInt8))×(Unit)))
def Wh.DW (x:Wh.Q4):Option (Wh.Q4⊕Wh.aa2):=
 let k_12:=x.1.1
 let Ge:=x.1.2
 bif decide (k_12>(0:Int)) then
  let pb_15:List Int:=[IntKind.wrap .u8 (IntKind.wrap .i64 ((48:Int)+Int.tmod k_12 (10:Int)))]
  let out_20:List UInt8:=qp pb_15++Ge
  bif iy [decide ((1:Nat)+List.length Ge≤dh),true] then
   some (.inl (((IntKind.wrap .i64 (Int.tdiv k_12 (10:Int))),out_20),()))
  else none
 else
  some (.inr (Ge,()))
def Wh.VM:(((List UInt8))×(Unit)):=default
def Wh.A4 (xs:(Int)):Option (((List UInt8))×(Unit)):=
 let k_0:=xs
 bif decide (k_0≤(0:Int)) then
  some ([(109:UInt8),(48:UInt8)],())
 else
  let x_22:Wh.Q4:=((k_0,[]),())
  bif lF Wh.DW x_22 then
   let y_23:=kG Wh.DW Wh.VM x_22
   let Uk:=y_23.1
   let AQ:List UInt8:=[(109:UInt8)]++Uk
   bif iy [decide ((1:Nat)+List.length Uk≤dh)] then
    some (AQ,())
   else none
  else none
def Wh.Fq:=eB Wh.A4
theorem Wh.Gu:OV Wh.A4 Wh.Fq:=fe _
abbrev Wh.QH:Type:=((Int)×(Unit)×(Int))×((List (an.D)))
abbrev Wh.aaM:Type:=((((Int))×((List (an.D)))))
def Wh.DO (x:Wh.QH):Option (Wh.QH⊕Wh.aaM):=
 let yF:=x.1.1
 let EA:=x.1.2.2
 let BE:List (an.D):=x.2
 let so:Int:=(↑(List.length BE):Int)
 bif decide (yF<so) then
  let A1:List (an.D):=List.set BE (Int.toNat yF) (EA,Prod.snd (List.getD BE (Int.toNat yF) ((0:Int),[],(0:Int),[],())))
  bif iy [decide ((0:Int)≤yF),decide (yF<so)] then
   let n_:=IntKind.wrap .i64 (EA+(1:Int))
   let ym:xU.D:=Wh.Fq n_
   let HA:List (an.D):=List.set A1 (Int.toNat yF) (Prod.fst (List.getD A1 (Int.toNat yF) ((0:Int),[],(0:Int),[],())),ym.1,Prod.snd (Prod.snd (List.getD A1 (Int.toNat yF) ((0:Int),[],(0:Int),[],()))))
   bif iy [decide ((0:Int)≤yF),decide (yF<(↑(List.length A1):Int)),nQ (Wh.A4 n_)] then
    let Bq:=IntKind.wrap .i64 (n_+(1:Int))
    let Ck:List (an.D):=List.set HA (Int.toNat yF) (Prod.fst (List.getD HA (Int.toNat yF) ((0:Int),[],(0:Int),[],())),Prod.fst (Prod.snd (List.getD HA (Int.toNat yF) ((0:Int),[],(0:Int),[],()))),Bq,Prod.snd (Prod.snd (Prod.snd (List.getD HA (Int.toNat yF) ((0:Int),[],(0:Int),[],())))))
    bif iy [decide ((0:Int)≤yF),decide (yF<(↑(List.length HA):Int))] then
     let zj:=IntKind.wrap .i64 (Bq+(1:Int))
     let r_30:xU.D:=Wh.Fq zj
     let s_:List (an.D):=List.set Ck (Int.toNat yF) (Prod.fst (List.getD Ck (Int.toNat yF) ((0:Int),[],(0:Int),[],())),Prod.fst (Prod.snd (List.getD Ck (Int.toNat yF) ((0:Int),[],(0:Int),[],()))),Prod.fst (Prod.snd (Prod.snd (List.getD Ck (Int.toNat yF) ((0:Int),[],(0:Int),[],())))),r_30.1,Prod.snd (Prod.snd (Prod.snd (Prod.snd (List.getD Ck (Int.toNat yF) ((0:Int),[],(0:Int),[],()))))))
     bif iy [decide ((0:Int)≤yF),decide (yF<(↑(List.length Ck):Int)),nQ (Wh.A4 zj)] then
      some (.inl (((IntKind.wrap .i64 (yF+(1:Int))),(),(IntKind.wrap .i64 (zj+(1:Int)))),s_))
     else none
    else none
   else none
  else none
 else
  some (.inr (EA,BE))
def Wh.Vw:(((Int))×((List (an.D)))):=default
def Wh.q40 (xs:(List (an.D))×(Int)):Option (((Int))×((List (an.D))×Unit)):=
 let cr:List (an.D):=xs.1
 let k_1:=xs.2
 let Iw:Wh.QH:=(((0:Int),(),k_1),cr)
 bif lF Wh.DO Iw then
  let IE:=kG Wh.DO Wh.Vw Iw
  let k_36:=IE.1
  let O8:List (an.D):=IE.2
  some (k_36,O8,())
 else none
def Wh.q40':=eB Wh.q40
theorem Wh.q40_v:OV Wh.q40 Wh.q40':=fe _
def Wh.q86 (xs:(bx.D)×(Int)):Option (((Int))×((bx.D)×Unit)):=
 let cr:bx.D:=xs.1
 let k_1:=xs.2
 let r_2:bx.D:=Wh.q40' (cr.2.1,k_1)
 bif iy [nQ (Wh.q40 (cr.2.1,k_1))] then
  some (r_2.1,(cr.1,r_2.2.1,cr.2.2),())
 else none
def Wh.q86':=eB Wh.q86
theorem Wh.q86_v:OV Wh.q86 Wh.q86':=fe _
abbrev Wh.Qv:Type:=((Int)×(Unit)×(Int))×((List (ct.D)))
abbrev Wh.aaF:Type:=((((Int))×((List (ct.D)))))
def Wh.DK (x:Wh.Qv):Option (Wh.Qv⊕Wh.aaF):=
 let mb:=x.1.1
 let Be:=x.1.2.2
 let A0:List (ct.D):=x.2
 let zR:Int:=(↑(List.length A0):Int)
 bif decide (mb<zR) then
  let zP:List (ct.D):=List.set A0 (Int.toNat mb) (Be,Prod.snd (List.getD A0 (Int.toNat mb) ((0:Int),(0:Int),(0:Int),(0:Int),false,())))
  bif iy [decide ((0:Int)≤mb),decide (mb<zR)] then
   let nW:=IntKind.wrap .i64 (Be+(1:Int))
   let x6:List (ct.D):=List.set zP (Int.toNat mb) (Prod.fst (List.getD zP (Int.toNat mb) ((0:Int),(0:Int),(0:Int),(0:Int),false,())),nW,Prod.snd (Prod.snd (List.getD zP (Int.toNat mb) ((0:Int),(0:Int),(0:Int),(0:Int),false,()))))
   bif iy [decide ((0:Int)≤mb),decide (mb<(↑(List.length zP):Int))] then
    let nC:=IntKind.wrap .i64 (nW+(1:Int))
    let x9:List (ct.D):=List.set x6 (Int.toNat mb) (Prod.fst (List.getD x6 (Int.toNat mb) ((0:Int),(0:Int),(0:Int),(0:Int),false,())),Prod.fst (Prod.snd (List.getD x6 (Int.toNat mb) ((0:Int),(0:Int),(0:Int),(0:Int),false,()))),nC,Prod.snd (Prod.snd (Prod.snd (List.getD x6 (Int.toNat mb) ((0:Int),(0:Int),(0:Int),(0:Int),false,())))))
    bif iy [decide ((0:Int)≤mb),decide (mb<(↑(List.length x6):Int))] then
     let zk:=IntKind.wrap .i64 (nC+(1:Int))
     let s_:List (ct.D):=List.set x9 (Int.toNat mb) (Prod.fst (List.getD x9 (Int.toNat mb) ((0:Int),(0:Int),(0:Int),(0:Int),false,())),Prod.fst (Prod.snd (List.getD x9 (Int.toNat mb) ((0:Int),(0:Int),(0:Int),(0:Int),false,()))),Prod.fst (Prod.snd (Prod.snd (List.getD x9 (Int.toNat mb) ((0:Int),(0:Int),(0:Int),(0:Int),false,())))),zk,Prod.snd (Prod.snd (Prod.snd (Prod.snd (List.getD x9 (Int.toNat mb) ((0:Int),(0:Int),(0:Int),(0:Int),false,()))))))
     bif iy [decide ((0:Int)≤mb),decide (mb<(↑(List.length x9):Int))] then
      let AR:=IntKind.wrap .i64 (zk+(1:Int))
      let xT:List (ct.D):=List.set s_ (Int.toNat mb) (Prod.fst (List.getD s_ (Int.toNat mb) ((0:Int),(0:Int),(0:Int),(0:Int),false,())),Prod.fst (Prod.snd (List.getD s_ (Int.toNat mb) ((0:Int),(0:Int),(0:Int),(0:Int),false,()))),Prod.fst (Prod.snd (Prod.snd (List.getD s_ (Int.toNat mb) ((0:Int),(0:Int),(0:Int),(0:Int),false,())))),Prod.fst (Prod.snd (Prod.snd (Prod.snd (List.getD s_ (Int.toNat mb) ((0:Int),(0:Int),(0:Int),(0:Int),false,()))))),Int.tmod AR (3:Int)==(0:Int),Prod.snd (Prod.snd (Prod.snd (Prod.snd (Prod.snd (List.getD s_ (Int.toNat mb) ((0:Int),(0:Int),(0:Int),(0:Int),false,())))))))
      bif iy [decide ((0:Int)≤mb),decide (mb<(↑(List.length s_):Int)),true] then
       some (.inl (((IntKind.wrap .i64 (mb+(1:Int))),(),(IntKind.wrap .i64 (AR+(1:Int)))),xT))
      else none
     else none
    else none
   else none
  else none
 else
  some (.inr (Be,A0))
def Wh.Vn:(((Int))×((List (ct.D)))):=default
def Wh.q26 (xs:(List (ct.D))×(Int)):Option (((Int))×((List (ct.D))×Unit)):=
 let cr:List (ct.D):=xs.1
 let k_1:=xs.2
 let Iy:Wh.Qv:=(((0:Int),(),k_1),cr)
 bif lF Wh.DK Iy then
  let IG:=kG Wh.DK Wh.Vn Iy
  let Hs:=IG.1
  let AF:List (ct.D):=IG.2
  some (Hs,AF,())
 else none
def Wh.q26':=eB Wh.q26
theorem Wh.q26_v:OV Wh.q26 Wh.q26':=fe _
def Wh.q60 (xs:(fN.D)×(Int)):Option (((Int))×((fN.D)×Unit)):=
 let cr:fN.D:=xs.1
 let k_1:=xs.2
 let r_2:Int×List (ct.D)×Unit:=Wh.q26' (cr.1,k_1)
 bif iy [nQ (Wh.q26 (cr.1,k_1))] then
  some (r_2.1,(r_2.2.1,cr.2),())
 else none
def Wh.q60':=eB Wh.q60
theorem Wh.q60_v:OV Wh.q60 Wh.q60':=fe _
abbrev Wh.Qq:Type:=((Int)×(Unit)×(Int))×((List (fT.D)))
abbrev Wh.aaC:Type:=((((Int))×((List (fT.D)))))
def Wh.DH (x:Wh.Qq):Option (Wh.Qq⊕Wh.aaC):=
 let x4:=x.1.1
 let k_17:=x.1.2.2
 let Gg:List (fT.D):=x.2
 let nc:Int:=(↑(List.length Gg):Int)
 bif decide (x4<nc) then
  let EM:List (fT.D):=List.set Gg (Int.toNat x4) (k_17,Prod.snd (List.getD Gg (Int.toNat x4) ((0:Int),(0:Int),(0:Int),(0:Int),())))
  bif iy [decide ((0:Int)≤x4),decide (x4<nc)] then
   let yq:=IntKind.wrap .i64 (k_17+(1:Int))
   let A1:List (fT.D):=List.set EM (Int.toNat x4) (Prod.fst (List.getD EM (Int.toNat x4) ((0:Int),(0:Int),(0:Int),(0:Int),())),yq,Prod.snd (Prod.snd (List.getD EM (Int.toNat x4) ((0:Int),(0:Int),(0:Int),(0:Int),()))))
   bif iy [decide ((0:Int)≤x4),decide (x4<(↑(List.length EM):Int))] then
    let n_:=IntKind.wrap .i64 (yq+(1:Int))
    let zP:List (fT.D):=List.set A1 (Int.toNat x4) (Prod.fst (List.getD A1 (Int.toNat x4) ((0:Int),(0:Int),(0:Int),(0:Int),())),Prod.fst (Prod.snd (List.getD A1 (Int.toNat x4) ((0:Int),(0:Int),(0:Int),(0:Int),()))),n_,Prod.snd (Prod.snd (Prod.snd (List.getD A1 (Int.toNat x4) ((0:Int),(0:Int),(0:Int),(0:Int),())))))
    bif iy [decide ((0:Int)≤x4),decide (x4<(↑(List.length A1):Int))] then
     let nW:=IntKind.wrap .i64 (n_+(1:Int))
     let x6:List (fT.D):=List.set zP (Int.toNat x4) (Prod.fst (List.getD zP (Int.toNat x4) ((0:Int),(0:Int),(0:Int),(0:Int),())),Prod.fst (Prod.snd (List.getD zP (Int.toNat x4) ((0:Int),(0:Int),(0:Int),(0:Int),()))),Prod.fst (Prod.snd (Prod.snd (List.getD zP (Int.toNat x4) ((0:Int),(0:Int),(0:Int),(0:Int),())))),nW,Prod.snd (Prod.snd (Prod.snd (Prod.snd (List.getD zP (Int.toNat x4) ((0:Int),(0:Int),(0:Int),(0:Int),()))))))
     bif iy [decide ((0:Int)≤x4),decide (x4<(↑(List.length zP):Int))] then
      some (.inl (((IntKind.wrap .i64 (x4+(1:Int))),(),(IntKind.wrap .i64 (nW+(1:Int)))),x6))
     else none
    else none
   else none
  else none
 else
  some (.inr (k_17,Gg))
def Wh.Vj:(((Int))×((List (fT.D)))):=default
def Wh.q18 (xs:(List (fT.D))×(Int)):Option (((Int))×((List (fT.D))×Unit)):=
 let cr:List (fT.D):=xs.1
 let k_1:=xs.2
 let Iv:Wh.Qq:=(((0:Int),(),k_1),cr)
 bif lF Wh.DH Iv then
  let FM:=kG Wh.DH Wh.Vj Iv
  let k_32:=FM.1
  let xT:List (fT.D):=FM.2
  some (k_32,xT,())
 else none
def Wh.q18':=eB Wh.q18
theorem Wh.q18_v:OV Wh.q18 Wh.q18':=fe _
abbrev Wh.Qw:Type:=((Int)×(Unit)×(Int))×((List (gd.D)))
abbrev Wh.aaG:Type:=((((Int))×((List (gd.D)))))
def Wh.DL (x:Wh.Qw):Option (Wh.Qw⊕Wh.aaG):=
 let mb:=x.1.1
 let Be:=x.1.2.2
 let A0:List (gd.D):=x.2
 let zR:Int:=(↑(List.length A0):Int)
 bif decide (mb<zR) then
  let zP:List (gd.D):=List.set A0 (Int.toNat mb) (Be,Prod.snd (List.getD A0 (Int.toNat mb) ((0:Int),(0:Int),(0:Int),(0:Int),(0:Int),(0:Int),())))
  bif iy [decide ((0:Int)≤mb),decide (mb<zR)] then
   let nW:=IntKind.wrap .i64 (Be+(1:Int))
   let x6:List (gd.D):=List.set zP (Int.toNat mb) (Prod.fst (List.getD zP (Int.toNat mb) ((0:Int),(0:Int),(0:Int),(0:Int),(0:Int),(0:Int),())),nW,Prod.snd (Prod.snd (List.getD zP (Int.toNat mb) ((0:Int),(0:Int),(0:Int),(0:Int),(0:Int),(0:Int),()))))
   bif iy [decide ((0:Int)≤mb),decide (mb<(↑(List.length zP):Int))] then
    let nC:=IntKind.wrap .i64 (nW+(1:Int))
    let x9:List (gd.D):=List.set x6 (Int.toNat mb) (Prod.fst (List.getD x6 (Int.toNat mb) ((0:Int),(0:Int),(0:Int),(0:Int),(0:Int),(0:Int),())),Prod.fst (Prod.snd (List.getD x6 (Int.toNat mb) ((0:Int),(0:Int),(0:Int),(0:Int),(0:Int),(0:Int),()))),nC,Prod.snd (Prod.snd (Prod.snd (List.getD x6 (Int.toNat mb) ((0:Int),(0:Int),(0:Int),(0:Int),(0:Int),(0:Int),())))))
    bif iy [decide ((0:Int)≤mb),decide (mb<(↑(List.length x6):Int))] then
     let zk:=IntKind.wrap .i64 (nC+(1:Int))
     let s_:List (gd.D):=List.set x9 (Int.toNat mb) (Prod.fst (List.getD x9 (Int.toNat mb) ((0:Int),(0:Int),(0:Int),(0:Int),(0:Int),(0:Int),())),Prod.fst (Prod.snd (List.getD x9 (Int.toNat mb) ((0:Int),(0:Int),(0:Int),(0:Int),(0:Int),(0:Int),()))),Prod.fst (Prod.snd (Prod.snd (List.getD x9 (Int.toNat mb) ((0:Int),(0:Int),(0:Int),(0:Int),(0:Int),(0:Int),())))),zk,Prod.snd (Prod.snd (Prod.snd (Prod.snd (List.getD x9 (Int.toNat mb) ((0:Int),(0:Int),(0:Int),(0:Int),(0:Int),(0:Int),()))))))
     bif iy [decide ((0:Int)≤mb),decide (mb<(↑(List.length x9):Int))] then
      let AR:=IntKind.wrap .i64 (zk+(1:Int))
      let xT:List (gd.D):=List.set s_ (Int.toNat mb) (Prod.fst (List.getD s_ (Int.toNat mb) ((0:Int),(0:Int),(0:Int),(0:Int),(0:Int),(0:Int),())),Prod.fst (Prod.snd (List.getD s_ (Int.toNat mb) ((0:Int),(0:Int),(0:Int),(0:Int),(0:Int),(0:Int),()))),Prod.fst (Prod.snd (Prod.snd (List.getD s_ (Int.toNat mb) ((0:Int),(0:Int),(0:Int),(0:Int),(0:Int),(0:Int),())))),Prod.fst (Prod.snd (Prod.snd (Prod.snd (List.getD s_ (Int.toNat mb) ((0:Int),(0:Int),(0:Int),(0:Int),(0:Int),(0:Int),()))))),AR,Prod.snd (Prod.snd (Prod.snd (Prod.snd (Prod.snd (List.getD s_ (Int.toNat mb) ((0:Int),(0:Int),(0:Int),(0:Int),(0:Int),(0:Int),())))))))
      bif iy [decide ((0:Int)≤mb),decide (mb<(↑(List.length s_):Int))] then
       let A7:=IntKind.wrap .i64 (AR+(1:Int))
       let HC:List (gd.D):=List.set xT (Int.toNat mb) (Prod.fst (List.getD xT (Int.toNat mb) ((0:Int),(0:Int),(0:Int),(0:Int),(0:Int),(0:Int),())),Prod.fst (Prod.snd (List.getD xT (Int.toNat mb) ((0:Int),(0:Int),(0:Int),(0:Int),(0:Int),(0:Int),()))),Prod.fst (Prod.snd (Prod.snd (List.getD xT (Int.toNat mb) ((0:Int),(0:Int),(0:Int),(0:Int),(0:Int),(0:Int),())))),Prod.fst (Prod.snd (Prod.snd (Prod.snd (List.getD xT (Int.toNat mb) ((0:Int),(0:Int),(0:Int),(0:Int),(0:Int),(0:Int),()))))),Prod.fst (Prod.snd (Prod.snd (Prod.snd (Prod.snd (List.getD xT (Int.toNat mb) ((0:Int),(0:Int),(0:Int),(0:Int),(0:Int),(0:Int),())))))),A7,Prod.snd (Prod.snd (Prod.snd (Prod.snd (Prod.snd (Prod.snd (List.getD xT (Int.toNat mb) ((0:Int),(0:Int),(0:Int),(0:Int),(0:Int),(0:Int),()))))))))
       bif iy [decide ((0:Int)≤mb),decide (mb<(↑(List.length xT):Int))] then
        some (.inl (((IntKind.wrap .i64 (mb+(1:Int))),(),(IntKind.wrap .i64 (A7+(1:Int)))),HC))
       else none
      else none
     else none
    else none
   else none
  else none
 else
  some (.inr (Be,A0))
def Wh.Vo:(((Int))×((List (gd.D)))):=default
def Wh.q27 (xs:(List (gd.D))×(Int)):Option (((Int))×((List (gd.D))×Unit)):=
 let cr:List (gd.D):=xs.1
 let k_1:=xs.2
 let Iy:Wh.Qw:=(((0:Int),(),k_1),cr)
 bif lF Wh.DL Iy then
  let IG:=kG Wh.DL Wh.Vo Iy
  let Hs:=IG.1
  let AF:List (gd.D):=IG.2
  some (Hs,AF,())
 else none
def Wh.q27':=eB Wh.q27
theorem Wh.q27_v:OV Wh.q27 Wh.q27':=fe _
def Wh.CJ (xs:(cx.D)×(Int)):Option (((Int))×((cx.D)×Unit)):=
 let cr:cx.D:=xs.1
 let k_1:=xs.2
 let r_2:Int×(bx.D)×Unit:=Wh.q86' ((cr.2.2.2).1,k_1)
 bif iy [nQ (Wh.q86 ((cr.2.2.2).1,k_1))] then
  let r_3:Int×(fN.D)×Unit:=Wh.q60' (cr.2.2.2.2.1,r_2.1)
  bif iy [nQ (Wh.q60 (cr.2.2.2.2.1,r_2.1))] then
   let gz:Int×List (fT.D)×Unit:=Wh.q18' ((cr.2.2.2.2.2).1,r_3.1)
   bif iy [nQ (Wh.q18 ((cr.2.2.2.2.2).1,r_3.1))] then
    let xS:Int×List (gd.D)×Unit:=Wh.q27' ((cr.2.2.2.2.2).2.1,gz.1)
    bif iy [nQ (Wh.q27 ((cr.2.2.2.2.2).2.1,gz.1))] then
     some (xS.1,(cr.1,cr.2.1,cr.2.2.1,((cr.2.2.2).1.1,(r_2.2.1.2).1,(cr.2.2.2).1.2.2),(r_3.2.1.1,(cr.2.2.2.2.1).2),gz.2.1,xS.2.1,(cr.2.2.2.2.2).2.2),())
    else none
   else none
  else none
 else none
def Wh.LS:=eB Wh.CJ
theorem Wh.Qx:OV Wh.CJ Wh.LS:=fe _
abbrev Wh.QF:Type:=((Int)×(List (an.D))×(Int))×(Unit)
abbrev Wh.aaL:Type:=((((Int))×(Unit))⊕(((Int))×(Unit)))
def Wh.DN (x:Wh.QF):Option (Wh.QF⊕Wh.aaL):=
 let yG:=x.1.1
 let a_20:List (an.D):=x.1.2.1
 let Be:=x.1.2.2
 let yq:Int:=(↑(List.length a_20):Int)
 bif decide (yG<yq) then
  let n_:an.D:=List.getD a_20 (Int.toNat yG) ((0:Int),[],(0:Int),[],())
  bif iy [decide ((0:Int)≤yG),decide (yG<yq)] then
   bif(n_.1 != Be) then
    some (.inr (.inl ((-1:Int),())))
   else
    let nW:=IntKind.wrap .i64 (Be+(1:Int))
    let BZ:xU.D:=Wh.Fq nW
    bif iy [nQ (Wh.A4 nW),decide ((0:Int)≤yG),decide (yG<yq)] then
     bif(!n_.2.1==BZ.1) then
      some (.inr (.inl ((-1:Int),())))
     else
      let zj:=IntKind.wrap .i64 (nW+(1:Int))
      bif iy [decide ((0:Int)≤yG),decide (yG<yq)] then
       bif(n_.2.2.1 != zj) then
        some (.inr (.inl ((-1:Int),())))
       else
        let FF:=IntKind.wrap .i64 (zj+(1:Int))
        let vN:xU.D:=Wh.Fq FF
        bif iy [nQ (Wh.A4 FF),decide ((0:Int)≤yG),decide (yG<yq)] then
         bif(!(n_.2.2.2).1==vN.1) then
          some (.inr (.inl ((-1:Int),())))
         else
          some (.inl (((IntKind.wrap .i64 (yG+(1:Int))),a_20,(IntKind.wrap .i64 (FF+(1:Int)))),()))
        else none
      else none
    else none
  else none
 else
  some (.inr (.inr (Be,())))
def Wh.Vu:(((Int))×(Unit))⊕(((Int))×(Unit)):=.inl default
def Wh.q39 (xs:(List (an.D))×(Int)):Option (((Int))×(Unit)):=
 let cr:List (an.D):=xs.1
 let k_1:=xs.2
 let x_36:Wh.QF:=(((0:Int),cr,k_1),())
 bif lF Wh.DN x_36 then
  sumC (kG Wh.DN Wh.Vu x_36) (fun y_37=>
   let FG:=y_37.1
   some (FG,())) (fun z_38=>
   let Hs:=z_38.1
   some (Hs,()))
 else none
def Wh.q39':=eB Wh.q39
theorem Wh.q39_v:OV Wh.q39 Wh.q39':=fe _
def Wh.q85 (xs:(bx.D)×(Int)):Option (((Int))×(Unit)):=
 let cr:bx.D:=xs.1
 let k_1:=xs.2
 let r_2:=Wh.q39' (cr.2.1,k_1)
 bif iy [nQ (Wh.q39 (cr.2.1,k_1))] then
  bif decide (r_2.1<(0:Int)) then
   some ((-1:Int),())
  else
   some (r_2.1,())
 else none
def Wh.q85':=eB Wh.q85
theorem Wh.q85_v:OV Wh.q85 Wh.q85':=fe _
abbrev Wh.Qt:Type:=((Int)×(List (ct.D))×(Int))×(Unit)
abbrev Wh.aaD:Type:=((((Int))×(Unit))⊕(((Int))×(Unit)))
def Wh.DI (x:Wh.Qt):Option (Wh.Qt⊕Wh.aaD):=
 let x5:=x.1.1
 let El:List (ct.D):=x.1.2.1
 let EB:=x.1.2.2
 let n_:Int:=(↑(List.length El):Int)
 bif decide (x5<n_) then
  let nW:ct.D:=List.getD El (Int.toNat x5) ((0:Int),(0:Int),(0:Int),(0:Int),false,())
  bif iy [decide ((0:Int)≤x5),decide (x5<n_)] then
   bif(nW.1 != EB) then
    some (.inr (.inl ((-1:Int),())))
   else
    let nC:=IntKind.wrap .i64 (EB+(1:Int))
    bif iy [decide ((0:Int)≤x5),decide (x5<n_)] then
     bif(nW.2.1 != nC) then
      some (.inr (.inl ((-1:Int),())))
     else
      let zk:=IntKind.wrap .i64 (nC+(1:Int))
      bif iy [decide ((0:Int)≤x5),decide (x5<n_)] then
       bif(nW.2.2.1 != zk) then
        some (.inr (.inl ((-1:Int),())))
       else
        let AR:=IntKind.wrap .i64 (zk+(1:Int))
        let AU:Bool:=(nW.2.2.2).1 != AR
        bif iy [decide ((0:Int)≤x5),decide (x5<n_)] then
         bif AU then
          some (.inr (.inl ((-1:Int),())))
         else
          let A7:=IntKind.wrap .i64 (AR+(1:Int))
          bif iy [true,decide ((0:Int)≤x5),decide (x5<n_)] then
           bif(!nW.2.2.2.2.1==((Int.tmod A7 (3:Int))==(0:Int))) then
            some (.inr (.inl ((-1:Int),())))
           else
            some (.inl (((IntKind.wrap .i64 (x5+(1:Int))),El,(IntKind.wrap .i64 (A7+(1:Int)))),()))
          else none
        else none
      else none
    else none
  else none
 else
  some (.inr (.inr (EB,())))
def Wh.Vl:(((Int))×(Unit))⊕(((Int))×(Unit)):=.inl default
def Wh.q23 (xs:(List (ct.D))×(Int)):Option (((Int))×(Unit)):=
 let cr:List (ct.D):=xs.1
 let k_1:=xs.2
 let Ee:Wh.Qt:=(((0:Int),cr,k_1),())
 bif lF Wh.DI Ee then
  sumC (kG Wh.DI Wh.Vl Ee) (fun GG=>
   let GA:=GG.1
   some (GA,())) (fun z_42=>
   let k_44:=z_42.1
   some (k_44,()))
 else none
def Wh.q23':=eB Wh.q23
theorem Wh.q23_v:OV Wh.q23 Wh.q23':=fe _
def Wh.q59 (xs:(fN.D)×(Int)):Option (((Int))×(Unit)):=
 let cr:fN.D:=xs.1
 let k_1:=xs.2
 let r_2:=Wh.q23' (cr.1,k_1)
 bif iy [nQ (Wh.q23 (cr.1,k_1))] then
  bif decide (r_2.1<(0:Int)) then
   some ((-1:Int),())
  else
   some (r_2.1,())
 else none
def Wh.q59':=eB Wh.q59
theorem Wh.q59_v:OV Wh.q59 Wh.q59':=fe _
abbrev Wh.Qp:Type:=((Int)×(List (fT.D))×(Int))×(Unit)
abbrev Wh.aaB:Type:=((((Int))×(Unit))⊕(((Int))×(Unit)))
def Wh.DG (x:Wh.Qp):Option (Wh.Qp⊕Wh.aaB):=
 let zo:=x.1.1
 let Ek:List (fT.D):=x.1.2.1
 let EA:=x.1.2.2
 let nG:Int:=(↑(List.length Ek):Int)
 bif decide (zo<nG) then
  let yq:fT.D:=List.getD Ek (Int.toNat zo) ((0:Int),(0:Int),(0:Int),(0:Int),())
  bif iy [decide ((0:Int)≤zo),decide (zo<nG)] then
   bif(yq.1 != EA) then
    some (.inr (.inl ((-1:Int),())))
   else
    let n_:=IntKind.wrap .i64 (EA+(1:Int))
    bif iy [decide ((0:Int)≤zo),decide (zo<nG)] then
     bif(yq.2.1 != n_) then
      some (.inr (.inl ((-1:Int),())))
     else
      let nW:=IntKind.wrap .i64 (n_+(1:Int))
      bif iy [decide ((0:Int)≤zo),decide (zo<nG)] then
       bif(yq.2.2.1 != nW) then
        some (.inr (.inl ((-1:Int),())))
       else
        let nC:=IntKind.wrap .i64 (nW+(1:Int))
        let zj:Bool:=(yq.2.2.2).1 != nC
        bif iy [decide ((0:Int)≤zo),decide (zo<nG)] then
         bif zj then
          some (.inr (.inl ((-1:Int),())))
         else
          some (.inl (((IntKind.wrap .i64 (zo+(1:Int))),Ek,(IntKind.wrap .i64 (nC+(1:Int)))),()))
        else none
      else none
    else none
  else none
 else
  some (.inr (.inr (EA,())))
def Wh.Vi:(((Int))×(Unit))⊕(((Int))×(Unit)):=.inl default
def Wh.q17 (xs:(List (fT.D))×(Int)):Option (((Int))×(Unit)):=
 let cr:List (fT.D):=xs.1
 let k_1:=xs.2
 let x_32:Wh.Qp:=(((0:Int),cr,k_1),())
 bif lF Wh.DG x_32 then
  sumC (kG Wh.DG Wh.Vi x_32) (fun y_33=>
   let Il:=y_33.1
   some (Il,())) (fun z_34=>
   let k_36:=z_34.1
   some (k_36,()))
 else none
def Wh.q17':=eB Wh.q17
theorem Wh.q17_v:OV Wh.q17 Wh.q17':=fe _
abbrev Wh.Qu:Type:=((Int)×(List (gd.D))×(Int))×(Unit)
abbrev Wh.aaE:Type:=((((Int))×(Unit))⊕(((Int))×(Unit)))
def Wh.DJ (x:Wh.Qu):Option (Wh.Qu⊕Wh.aaE):=
 let x5:=x.1.1
 let El:List (gd.D):=x.1.2.1
 let EB:=x.1.2.2
 let n_:Int:=(↑(List.length El):Int)
 bif decide (x5<n_) then
  let nW:gd.D:=List.getD El (Int.toNat x5) ((0:Int),(0:Int),(0:Int),(0:Int),(0:Int),(0:Int),())
  bif iy [decide ((0:Int)≤x5),decide (x5<n_)] then
   bif(nW.1 != EB) then
    some (.inr (.inl ((-1:Int),())))
   else
    let nC:=IntKind.wrap .i64 (EB+(1:Int))
    bif iy [decide ((0:Int)≤x5),decide (x5<n_)] then
     bif(nW.2.1 != nC) then
      some (.inr (.inl ((-1:Int),())))
     else
      let zk:=IntKind.wrap .i64 (nC+(1:Int))
      bif iy [decide ((0:Int)≤x5),decide (x5<n_)] then
       bif(nW.2.2.1 != zk) then
        some (.inr (.inl ((-1:Int),())))
       else
        let AR:=IntKind.wrap .i64 (zk+(1:Int))
        let AU:Bool:=(nW.2.2.2).1 != AR
        bif iy [decide ((0:Int)≤x5),decide (x5<n_)] then
         bif AU then
          some (.inr (.inl ((-1:Int),())))
         else
          let A7:=IntKind.wrap .i64 (AR+(1:Int))
          bif iy [decide ((0:Int)≤x5),decide (x5<n_)] then
           bif(nW.2.2.2.2.1 != A7) then
            some (.inr (.inl ((-1:Int),())))
           else
            let yu:=IntKind.wrap .i64 (A7+(1:Int))
            let v_37:Bool:=(nW.2.2.2.2.2).1 != yu
            bif iy [decide ((0:Int)≤x5),decide (x5<n_)] then
             bif v_37 then
              some (.inr (.inl ((-1:Int),())))
             else
              some (.inl (((IntKind.wrap .i64 (x5+(1:Int))),El,(IntKind.wrap .i64 (yu+(1:Int)))),()))
            else none
          else none
        else none
      else none
    else none
  else none
 else
  some (.inr (.inr (EB,())))
def Wh.Vm:(((Int))×(Unit))⊕(((Int))×(Unit)):=.inl default
def Wh.q24 (xs:(List (gd.D))×(Int)):Option (((Int))×(Unit)):=
 let cr:List (gd.D):=xs.1
 let k_1:=xs.2
 let Ee:Wh.Qu:=(((0:Int),cr,k_1),())
 bif lF Wh.DJ Ee then
  sumC (kG Wh.DJ Wh.Vm Ee) (fun GG=>
   let GA:=GG.1
   some (GA,())) (fun z_42=>
   let k_44:=z_42.1
   some (k_44,()))
 else none
def Wh.q24':=eB Wh.q24
theorem Wh.q24_v:OV Wh.q24 Wh.q24':=fe _
def Wh.CI (xs:(cx.D)×(Int)):Option (((Int))×(Unit)):=
 let cr:cx.D:=xs.1
 let k_1:=xs.2
 let r_2:=Wh.q85' ((cr.2.2.2).1,k_1)
 bif iy [nQ (Wh.q85 ((cr.2.2.2).1,k_1))] then
  bif decide (r_2.1<(0:Int)) then
   some ((-1:Int),())
  else
   let gz:=Wh.q59' (cr.2.2.2.2.1,r_2.1)
   bif iy [nQ (Wh.q59 (cr.2.2.2.2.1,r_2.1))] then
    bif decide (gz.1<(0:Int)) then
     some ((-1:Int),())
    else
     let xd:=Wh.q17' ((cr.2.2.2.2.2).1,gz.1)
     bif iy [nQ (Wh.q17 ((cr.2.2.2.2.2).1,gz.1))] then
      bif decide (xd.1<(0:Int)) then
       some ((-1:Int),())
      else
       let yJ:=Wh.q24' ((cr.2.2.2.2.2).2.1,xd.1)
       bif iy [nQ (Wh.q24 ((cr.2.2.2.2.2).2.1,xd.1))] then
        bif decide (yJ.1<(0:Int)) then
         some ((-1:Int),())
        else
         some (yJ.1,())
       else none
     else none
   else none
 else none
def Wh.q25':=eB Wh.CI
theorem Wh.q25_v:OV Wh.CI Wh.q25':=fe _
def Wh.Fb (xs:(List UInt8)):Option (((Bool))×(Unit)):=
 let we:=xs
 let r_1:(List (List UInt8)×Int)×Unit:=Wh.Gk we
 bif iy [nQ (Wh.Bh we)] then
  let yw:=bif(r_1.1.2==(↑(List.length we):Int)) then decide (r_1.1.2≤(9000:Int)) else false
  some (yw,())
 else none
def Wh.P_:=eB Wh.Fb
theorem Wh.U8:OV Wh.Fb Wh.P_:=fe _
def Wh.EY (xs:(List UInt8)×(List UInt8)):Option (((List UInt8)×(Bool))×(Unit)):=
 let we:=xs.1
 let xb:=xs.2
 let r_2:(List (List UInt8)×Int)×Unit:=Wh.Gk we
 bif iy [nQ (Wh.Bh we)] then
  let r_3:=Wh.P_ we
  let gz:=Wh.yl ((↑(List.length xb):Int),(1:Int),(500:Int))
  let xV:=bif !r_3.1 then true else !gz.1
  bif iy [!!!r_3.1 || nQ (Wh.xY ((↑(List.length xb):Int),(1:Int),(500:Int))),nQ (Wh.Fb we)] then
   bif xV then
    some (([],false),())
   else
    let zl:Int:=(↑(List.length r_2.1.1):Int)
    let A5:xU.D:=Wh.HJ (zl,xb)
    let x_11:List UInt8:=we++A5.1
    bif iy [decide (List.length we+List.length ((Wh.HJ (zl,xb)).1)≤dh),nQ (Wh.Dt (zl,xb))] then
     bif decide ((↑(List.length x_11):Int)>(9000:Int)) then
      some (([],false),())
     else
      some ((x_11,true),())
    else none
  else none
 else none
def Wh.PA:=eB Wh.EY
theorem Wh.UI:OV Wh.EY Wh.PA:=fe _
def Wh.ER (xs:(List UInt8)×(List UInt8)):Option (((List UInt8)×(Bool))×(Unit)):=
 let we:=xs.1
 let xb:=xs.2
 let r_2:(List (List UInt8)×Int)×Unit:=Wh.L4 we
 bif iy [nQ (Wh.CW we)] then
  let r5:=r_2.1.2 != (↑(List.length we):Int)
  let xd:=Wh.yQ ((↑(List.length xb):Int),(1:Int),(500:Int))
  let za:=bif bif r5 then true else decide (r_2.1.2>(9000:Int)) then true else !xd.1
  bif iy [(!!bif r5 then true else decide (r_2.1.2>(9000:Int))) || nQ (Wh.x_ ((↑(List.length xb):Int),(1:Int),(500:Int)))] then
   bif za then
    some (([],false),())
   else
    let y6:Int:=(↑(List.length r_2.1.1):Int)
    let zh:xU.D:=Wh.HW (y6,xb)
    let Ge:List UInt8:=we++zh.1
    bif iy [decide (List.length we+List.length ((Wh.HW (y6,xb)).1)≤dh),nQ (Wh.q80 (y6,xb))] then
     bif decide ((↑(List.length Ge):Int)>(9000:Int)) then
      some (([],false),())
     else
      some ((Ge,true),())
    else none
  else none
 else none
def Wh.Pf:=eB Wh.ER
theorem Wh.Uw:OV Wh.ER Wh.Pf:=fe _
def Wh.E0 (xs:(cx.D)×(List UInt8)):Option (((cx.D)×(Int))×(Unit)):=
 let en:cx.D:=xs.1
 let xb:=xs.2
 let r_2:(List UInt8×Bool)×Unit:=Wh.PA (en.2.2.1,xb)
 bif iy [nQ (Wh.EY (en.2.2.1,xb))] then
  bif(!r_2.1.2) then
   some ((en,(4:Int)),())
  else
   let gz:((bx.D)×Bool)×Unit:=Wh.LF ((en.2.2.2).1,xb)
   bif iy [nQ (Wh.BQ ((en.2.2.2).1,xb))] then
    bif(!gz.1.2) then
     some ((en,(1:Int)),())
    else
     some (((en.1,en.2.1,r_2.1.1,gz.1.1,en.2.2.2.2),(0:Int)),())
   else none
 else none
def Wh.PI:=eB Wh.E0
theorem Wh.UP:OV Wh.E0 Wh.PI:=fe _
def Wh.Cp (xs:(bx.D)×(Int)×(List UInt8)):Option (((an.D)×(Bool))×(Unit)):=
 let gv:bx.D:=xs.1
 let nI:=xs.2.1
 let tn:=xs.2.2
 let r_3:=Wh.HQ (gv,nI,tn)
 bif iy [nQ (Wh.A2 (gv,nI,tn))] then
  let gz:=Wh.HM gv
  let xV:=bif !gz.1 then true else decide (r_3.1<(0:Int))
  bif iy [nQ (Wh.Cz gv)] then
   bif xV then
    some ((((0:Int),[],(0:Int),[],()),false),())
   else
    let pb_6:an.D:=List.getD gv.2.1 (Int.toNat r_3.1) ((0:Int),[],(0:Int),[],())
    bif iy [decide ((0:Int)≤r_3.1),decide (r_3.1<(↑(List.length gv.2.1):Int))] then
     some ((pb_6,true),())
    else none
  else none
 else none
def Wh.Py:=eB Wh.Cp
theorem Wh.Pz:OV Wh.Cp Wh.Py:=fe _
abbrev Wh.Rl:Type:=((Int)×(Unit)×(Int)×(Unit))×(((Unit)×((Int)×(Unit)))×((Unit)×((Int)×(Unit)))×(List (ct.D))×(List (ct.D)))
abbrev Wh.abe:Type:=((((Unit)×(Unit))×(((Unit)×((Int)×(Unit)))×((Unit)×((Int)×(Unit)))×(List (ct.D))×(List (ct.D)))))
def Wh.D6 (x:Wh.Rl):Option (Wh.Rl⊕Wh.abe):=
 let yG:=x.1.1
 let Cb:Int:=(x.1.2.2).1
 let yO:=x.2.1.2
 let yc:Int:=(x.2.2.1).2.1
 let yd:Unit:=(x.2.2.1).2.2
 let yU:List (ct.D):=(x.2.2.2).1
 let AZ:List (ct.D):=x.2.2.2.2
 let nW:Int:=(↑(List.length yU):Int)
 bif decide (yG<nW) then
  let nC:Int:=Prod.fst (Prod.snd (List.getD yU (Int.toNat yG) ((0:Int),(0:Int),(0:Int),(0:Int),false,())))
  let FF:=bif nC==Cb then Prod.fst (Prod.snd (Prod.snd (Prod.snd (List.getD yU (Int.toNat yG) ((0:Int),(0:Int),(0:Int),(0:Int),false,())))))==(0:Int) else false
  bif iy [!nC==Cb || decide ((0:Int)≤yG),!nC==Cb || decide (yG<nW),decide ((0:Int)≤yG),decide (yG<nW)] then
   bif FF then
    let y2:List (ct.D):=List.set yU (Int.toNat yG) ((0:Int),(0:Int),(0:Int),(0:Int),false,())
    bif iy [decide ((0:Int)≤yG),decide (yG<nW)] then
     some (.inl (((IntKind.wrap .i64 (yG+(1:Int))),(),Cb,()),((),yO),((),yc,yd),y2,AZ))
    else none
   else
    some (.inl (((IntKind.wrap .i64 (yG+(1:Int))),(),Cb,()),((),yO),((),yc,yd),yU,AZ))
  else none
 else
  some (.inr (((),()),((),yc,yd),((),yO),AZ,yU))
def Wh.VY:(((Unit)×(Unit))×(((Unit)×((Int)×(Unit)))×((Unit)×((Int)×(Unit)))×(List (ct.D))×(List (ct.D)))):=default
def Wh.q94 (xs:(fN.D)×(Int)):Option ((((List (ct.D))×((Int)×(Unit))))×(Unit)):=
 let r_:fN.D:=xs.1
 let Bt:=xs.2
 let r_2:(fN.D)×Unit:=Wh.L7 r_
 bif iy [nQ (Wh.q93 r_)] then
  let x_35:Wh.Rl:=(((0:Int),(),Bt,()),((),r_2.1.2),((),(0:Int),()),r_2.1.1,[])
  bif lF Wh.D6 x_35 then
   let y_36:=kG Wh.D6 Wh.VY x_35
   let BA:Int×Unit:=(y_36.2.2.1).2
   let OH:List (ct.D):=y_36.2.2.2.2
   some ((OH,BA),())
  else none
 else none
def Wh.q94':=eB Wh.q94
theorem Wh.q94_v:OV Wh.q94 Wh.q94':=fe _
def Wh.CK (xs:(cx.D)×(Int)×(List UInt8)):Option (((cx.D)×(Int))×(Unit)):=
 let en:cx.D:=xs.1
 let nI:=xs.2.1
 let tn:=xs.2.2
 let r_3:=Wh.q70' en
 bif iy [nQ (Wh.q70 en)] then
  bif !r_3.1 then
   some (((false,(0:Int),[],((0:Int),[],()),([],(0:Int),()),[],[],()),(1:Int)),())
  else
   let gz:(cx.D)×Unit:=Wh.q95' en
   bif iy [nQ (Wh.q95 en)] then
    let xS:((an.D)×Bool)×Unit:=Wh.Py ((en.2.2.2).1,nI,tn)
    bif iy [nQ (Wh.Cp ((en.2.2.2).1,nI,tn))] then
     bif(!en.1) then
      some ((gz.1,(1:Int)),())
     else
      bif(!xS.1.2) then
       some ((gz.1,(3:Int)),())
      else
       let yJ:xU.D:=Wh.LY (nI,tn,[])
       let zy:((cx.D)×Int)×Unit:=Wh.PI (gz.1,yJ.1)
       bif iy [nQ (Wh.E0 (gz.1,yJ.1)),nQ (Wh.CQ (nI,tn,[]))] then
        bif(zy.1.2==(0:Int)) then
         let r_18:(fN.D)×Unit:=Wh.q94' ((zy.1.1.2.2.2).2.1,xS.1.1.2.2.1)
         bif iy [nQ (Wh.q94 ((zy.1.1.2.2.2).2.1,xS.1.1.2.2.1))] then
          some (((zy.1.1.1,(zy.1.1.2).1,zy.1.1.2.2.1,(zy.1.1.2.2.2).1,r_18.1,(zy.1.1.2.2.2).2.2),zy.1.2),())
         else none
        else
         some ((zy.1.1,zy.1.2),())
       else none
    else none
   else none
 else none
def Wh.q29':=eB Wh.CK
theorem Wh.q29_v:OV Wh.CK Wh.q29':=fe _
abbrev Wh.QB:Type:=((Int)×(Unit)×(Int)×(Unit)×(Unit)×(Int))×(((Unit)×((Int)×(Unit)))×(List (ct.D))×((Unit)×((Int)×(Unit)))×(List (ct.D)))
abbrev Wh.aaI:Type:=((((Unit)×(Unit))×(((Unit)×((Int)×(Unit)))×((Unit)×((Int)×(Unit)))×(List (ct.D))×(List (ct.D)))))
def Wh.DM (x:Wh.QB):Option (Wh.QB⊕Wh.aaI):=
 let nc:=x.1.1
 let Cb:Int:=(x.1.2.2).1
 let so:Int:=(x.1.2.2.2.2).2
 let yc:=x.2.1.2
 let yd:List (ct.D):=x.2.2.1
 let yU:Int:=(x.2.2.2).1.2.1
 let AZ:Unit:=(x.2.2.2).1.2.2
 let zu:List (ct.D):=x.2.2.2.2
 bif decide (nc<so) then
  let Ck:ct.D:=List.getD yd (Int.toNat nc) ((0:Int),(0:Int),(0:Int),(0:Int),false,())
  bif iy [decide ((0:Int)≤nc),decide (nc<(↑(List.length yd):Int))] then
   let zk:=bif(Ck.2.1==Cb) then(Ck.2.2.2).1==(0:Int) else false
   bif zk then
    let yZ:List (ct.D):=List.set yd (Int.toNat nc) ((0:Int),(0:Int),(0:Int),(0:Int),false,())
    bif iy [decide ((0:Int)≤nc),decide (nc<(↑(List.length yd):Int))] then
     some (.inl (((IntKind.wrap .i64 (nc+(1:Int))),(),Cb,(),(),so),((),yc),yZ,((),yU,AZ),zu))
    else none
   else
    some (.inl (((IntKind.wrap .i64 (nc+(1:Int))),(),Cb,(),(),so),((),yc),yd,((),yU,AZ),zu))
  else none
 else
  some (.inr (((),()),((),yU,AZ),((),yc),zu,yd))
def Wh.Vr:(((Unit)×(Unit))×(((Unit)×((Int)×(Unit)))×((Unit)×((Int)×(Unit)))×(List (ct.D))×(List (ct.D)))):=default
def Wh.q34 (xs:(fN.D)×(Int)):Option ((((List (ct.D))×((Int)×(Unit))))×(Unit)):=
 let r_:fN.D:=xs.1
 let Bt:=xs.2
 let r_2:(fN.D)×Unit:=Wh.LW r_
 bif iy [nQ (Wh.q36 r_)] then
  let r5:Int:=(↑(List.length r_2.1.1):Int)
  let Iw:Wh.QB:=(((0:Int),(),Bt,(),(),r5),((),r_2.1.2),r_2.1.1,((),(0:Int),()),[])
  bif lF Wh.DM Iw then
   let IE:=kG Wh.DM Wh.Vr Iw
   let y8:Int×Unit:=(IE.2.2.1).2
   let OG:List (ct.D):=IE.2.2.2.2
   some ((OG,y8),())
  else none
 else none
def Wh.q34':=eB Wh.q34
theorem Wh.q34_v:OV Wh.q34 Wh.q34':=fe _
def Wh.q14 (xs:(cx.D)×(Int)×(List UInt8)):Option (((cx.D)×(Int))×(Unit)):=
 let en:cx.D:=xs.1
 let nI:=xs.2.1
 let tn:=xs.2.2
 let r_3:(cx.D)×Unit:=Wh.q15' en
 bif iy [nQ (Wh.q15 en)] then
  bif(!en.1) then
   some ((r_3.1,(1:Int)),())
  else
   let xS:=Wh.HR ((en.2.2.2).1,nI,tn)
   bif iy [nQ (Wh.A3 ((en.2.2.2).1,nI,tn))] then
    bif decide (xS.1<(0:Int)) then
     some ((r_3.1,(3:Int)),())
    else
     let yI:xU.D:=Wh.LU (nI,tn,[])
     let L9:(List UInt8×Bool)×Unit:=Wh.Pf (en.2.2.1,yI.1)
     bif iy [nQ (Wh.ER (en.2.2.1,yI.1)),nQ (Wh.q31 (nI,tn,[]))] then
      bif(!L9.1.2) then
       some ((r_3.1,(4:Int)),())
      else
       let AN:((bx.D)×Int)×Unit:=Wh.L2 ((en.2.2.2).1,nI,tn)
       bif iy [nQ (Wh.CS ((en.2.2.2).1,nI,tn))] then
        let r_18:(fN.D)×Unit:=Wh.q34' (en.2.2.2.2.1,Prod.fst (Prod.snd (Prod.snd (List.getD ((en.2.2.2).1.2.1) (Int.toNat xS.1) ((0:Int),[],(0:Int),[],())))))
        let nc:an.D:=List.getD ((en.2.2.2).1.2.1) (Int.toNat xS.1) ((0:Int),[],(0:Int),[],())
        bif iy [nQ (Wh.q34 (en.2.2.2.2.1,nc.2.2.1)),decide ((0:Int)≤xS.1),decide (xS.1<(↑(List.length ((en.2.2.2).1.2.1)):Int))] then
         some (((r_3.1.1,r_3.1.2.1,L9.1.1,AN.1.1,r_18.1,(r_3.1.2.2.2.2).2),(0:Int)),())
        else none
       else none
     else none
   else none
 else none
def Wh.q14':=eB Wh.q14
theorem Wh.q14_v:OV Wh.q14 Wh.q14':=fe _
def Wh.CH (xs:(cx.D)×(Int)×(List UInt8)):Option (((cx.D)×(Int))×(Unit)):=
 let en:cx.D:=xs.1
 let nI:=xs.2.1
 let tn:=xs.2.2
 let r_3:=Wh.q50' en
 bif iy [nQ (Wh.q50 en)] then
  bif !r_3.1 then
   some (((false,(0:Int),[],((0:Int),[],()),([],(0:Int),()),[],[],()),(1:Int)),())
  else
   let gz:((cx.D)×Int)×Unit:=Wh.q14' (en,nI,tn)
   bif iy [nQ (Wh.q14 (en,nI,tn))] then
    some (gz.1,())
   else none
 else none
def Wh.q22':=eB Wh.CH
theorem Wh.q22_v:OV Wh.CH Wh.q22':=fe _
def Wh.q5 (xs:(cx.D)×(Int)×(List UInt8)):Option (((Bool))×(Unit)):=
 let Ej:cx.D:=xs.1
 let G9:=xs.2.1
 let FX:=xs.2.2
 bif decide ((↑(List.length FX):Int)>(1048576:Int)) then
  some (true,())
 else
  let gz:=Wh.q64' (Ej,(1048576:Int))
  bif iy [nQ (Wh.q64 (Ej,(1048576:Int)))] then
   bif decide (gz.1<(0:Int)) then
    some (true,())
   else
    let xd:(cx.D)×Unit:=Wh.q68' Ej
    let yI:((cx.D)×Int)×Unit:=Wh.q29' (xd.1,G9,FX)
    bif iy [nQ (Wh.CK (xd.1,G9,FX)),nQ (Wh.BX Ej)] then
     bif iy [nQ (Wh.BX Ej)] then
      let nS:((cx.D)×Int)×Unit:=Wh.q22' (xd.1,G9,FX)
      bif iy [nQ (Wh.CH (xd.1,G9,FX))] then
       let D8:=Wh.HU (nS.1.1,yI.1.1)
       let xZ:=bif !D8.1 then true else nS.1.2 != yI.1.2
       bif iy [nQ (Wh.Bk (nS.1.1,yI.1.1))] then
        bif xZ then
         some (false,())
        else
         let H6:=Wh.HU (xd.1,xd.1)
         bif iy [nQ (Wh.Bk (xd.1,xd.1)),nQ (Wh.BX Ej)] then
          bif !H6.1 then
           some (false,())
          else
           let yB:Int×(cx.D)×Unit:=Wh.LS (xd.1,(1:Int))
           bif iy [nQ (Wh.CJ (xd.1,(1:Int)))] then
            let so:=decide (yB.1<(0:Int))
            let n_:=bif bif so then true else !D8.1 then true else nS.1.2 != yI.1.2
            bif iy [!!so || nQ (Wh.Bk (nS.1.1,yI.1.1))] then
             bif n_ then
              some (false,())
             else
              let ym:Int×(cx.D)×Unit:=Wh.LS (nS.1.1,(1:Int))
              bif iy [nQ (Wh.CJ (nS.1.1,(1:Int)))] then
               let r_26:=Wh.q25' ((nS.1.1.1,(nS.1.1.2).1,nS.1.1.2.2.1,((nS.1.1.2.2.2).1.1,(ym.2.1.2.2.2).1.2.1,(nS.1.1.2.2.2).1.2.2),((ym.2.1.2.2.2).2.1.1,(nS.1.1.2.2.2).2.1.2),(ym.2.1.2.2.2).2.2.1,(ym.2.1.2.2.2).2.2.2.1,(nS.1.1.2.2.2).2.2.2.2),(1:Int))
               bif iy [nQ (Wh.CI ((nS.1.1.1,(nS.1.1.2).1,nS.1.1.2.2.1,((nS.1.1.2.2.2).1.1,(ym.2.1.2.2.2).1.2.1,(nS.1.1.2.2.2).1.2.2),((ym.2.1.2.2.2).2.1.1,(nS.1.1.2.2.2).2.1.2),(ym.2.1.2.2.2).2.2.1,(ym.2.1.2.2.2).2.2.2.1,(nS.1.1.2.2.2).2.2.2.2),(1:Int)))] then
                let Bq:=decide (r_26.1<(0:Int))
                bif Bq then
                 some (false,())
                else
                 let nC:=r_26.1 != ym.1
                 bif nC then
                  some (false,())
                 else
                  bif iy [nQ (Wh.CH (xd.1,G9,FX)),nQ (Wh.BX Ej)] then
                   let r_65:=Wh.HU ((nS.1.1.1,(nS.1.1.2).1,nS.1.1.2.2.1,((nS.1.1.2.2.2).1.1,(nS.1.1.2.2.2).1.2.1,(nS.1.1.2.2.2).1.2.2),((nS.1.1.2.2.2).2.1.1,(nS.1.1.2.2.2).2.1.2),(nS.1.1.2.2.2).2.2.1,(nS.1.1.2.2.2).2.2.2.1,(nS.1.1.2.2.2).2.2.2.2),yI.1.1)
                   let v_66:=bif !r_65.1 then true else nS.1.2 != yI.1.2
                   bif iy [nQ (Wh.Bk ((nS.1.1.1,(nS.1.1.2).1,nS.1.1.2.2.1,((nS.1.1.2.2.2).1.1,(nS.1.1.2.2.2).1.2.1,(nS.1.1.2.2.2).1.2.2),((nS.1.1.2.2.2).2.1.1,(nS.1.1.2.2.2).2.1.2),(nS.1.1.2.2.2).2.2.1,(nS.1.1.2.2.2).2.2.2.1,(nS.1.1.2.2.2).2.2.2.2),yI.1.1))] then
                    bif v_66 then
                     some (false,())
                    else
                     bif iy [nQ (Wh.CI ((nS.1.1.1,(nS.1.1.2).1,nS.1.1.2.2.1,((nS.1.1.2.2.2).1.1,(ym.2.1.2.2.2).1.2.1,(nS.1.1.2.2.2).1.2.2),((ym.2.1.2.2.2).2.1.1,(nS.1.1.2.2.2).2.1.2),(ym.2.1.2.2.2).2.2.1,(ym.2.1.2.2.2).2.2.2.1,(nS.1.1.2.2.2).2.2.2.2),(1:Int)))] then
                      bif Bq then
                       some (false,())
                      else
                       bif nC then
                        some (false,())
                       else
                        some (true,())
                     else none
                   else none
                  else none
               else none
              else none
            else none
           else none
         else none
       else none
      else none
     else none
    else none
  else none
def Wh.q5':=eB Wh.q5
end
