import Derived.Test.YtfeoanopdlpabaaGreatDoorX6
open Go Go.Ab
noncomputable section
def bx {α β:Type}[Inhabited β](f:α→Option β)(x:α):β:=match f x with | some y=>y|none=>default
abbrev OV {α β:Type}(f:α→Option β)(g:α→β):Prop:=∀x y,f x=some y→g x=y
theorem e_ {α β:Type}[Inhabited β](f:α→Option β):OV f (bx f):=fun x y h=>by unfold bx;rw[h]
abbrev Vb:Ty:=(.pair (.int .i64) (.pair (.int .i64) (.pair .bool (.pair (.int .u8) .unit))))
abbrev Vb.D:Type:=(Int)×((Int)×((Bool)×((Int)×(Unit))))
abbrev Vc:Ty:=(.pair .str (.pair (.int .u64) .unit))
abbrev Vc.D:Type:=(List UInt8)×((Int)×(Unit))
abbrev fk:Ty:=(.pair (.int .i64) (.pair (.lst (.pair (.int .i64) (.pair .str (.pair (.int .i64) (.pair .str .unit))))) .unit))
abbrev fk.D:Type:=(Int)×((List ((Int)×((List UInt8)×((Int)×((List UInt8)×(Unit))))))×(Unit))
abbrev n4:Ty:=(.pair (.lst (.pair (.int .i64) (.pair (.int .i64) (.pair (.int .i64) (.pair (.int .i64) (.pair .bool .unit)))))) (.pair (.int .i64) .unit))
abbrev n4.D:Type:=(List ((Int)×((Int)×((Int)×((Int)×((Bool)×(Unit)))))))×((Int)×(Unit))
abbrev ng:Ty:=(.pair .bool (.pair (.int .i64) (.pair .str (.pair fk (.pair n4 (.pair (.lst (.pair (.int .i64) (.pair (.int .i64) (.pair (.int .i64) (.pair (.int .i64) .unit))))) (.pair (.lst (.pair (.int .i64) (.pair (.int .i64) (.pair (.int .i64) (.pair (.int .i64) (.pair (.int .i64) (.pair (.int .i64) .unit))))))) .unit)))))))
abbrev ng.D:Type:=(Bool)×((Int)×((List UInt8)×((fk.D)×((n4.D)×((List ((Int)×((Int)×((Int)×((Int)×(Unit))))))×((List ((Int)×((Int)×((Int)×((Int)×((Int)×((Int)×(Unit))))))))×(Unit)))))))
abbrev r5:Ty:=(.pair (.int .i64) (.pair (.int .i64) (.pair (.lst (.int .i64)) (.pair (.lst (.int .i64)) .unit))))
abbrev r5.D:Type:=(Int)×((Int)×((List (Int))×((List (Int))×(Unit))))
abbrev lg:Ty:=(.pair (.int .i64) (.pair (.int .i64) (.pair (.lst (.pair (.lst (.int .i64)) (.pair .str .unit))) .unit)))
abbrev lg.D:Type:=(Int)×((Int)×((List ((List (Int))×((List UInt8)×(Unit))))×(Unit)))
abbrev xN:Ty:=(.pair r5 (.pair lg .unit))
abbrev xN.D:Type:=(r5.D)×((lg.D)×(Unit))
abbrev nE:Ty:=(.pair (.int .i64) (.pair (.int .i64) (.pair (.int .i64) (.pair .str (.pair (.int .i64) (.pair xN .unit))))))
abbrev nE.D:Type:=(Int)×((Int)×((Int)×((List UInt8)×((Int)×((xN.D)×(Unit))))))
abbrev J9:Ty:=(.pair (.int .i64) (.pair (.int .i64) (.pair (.int .i64) (.pair (.int .i64) (.pair (.int .i64) (.pair .str (.pair .str .unit)))))))
abbrev J9.D:Type:=(Int)×((Int)×((Int)×((Int)×((Int)×((List UInt8)×((List UInt8)×(Unit)))))))
abbrev gv:Ty:=(.pair ng (.pair (.lst nE) (.pair (.lst (.pair (.int .i64) (.pair .str (.pair .bool .unit)))) (.pair (.lst (.pair (.int .i64) (.pair .str (.pair (.int .i64) (.pair .str .unit))))) .unit))))
abbrev gv.D:Type:=(ng.D)×((List (nE.D))×((List ((Int)×((List UInt8)×((Bool)×(Unit)))))×((List ((Int)×((List UInt8)×((Int)×((List UInt8)×(Unit))))))×(Unit))))
abbrev an:Ty:=(.pair (.int .i64) (.pair .str (.pair (.int .i64) (.pair .str .unit))))
abbrev an.D:Type:=(Int)×((List UInt8)×((Int)×((List UInt8)×(Unit))))
abbrev nc:Ty:=(.pair (.int .i64) (.pair (.int .i64) (.pair (.int .i64) (.pair (.int .i64) (.pair .bool .unit)))))
abbrev nc.D:Type:=(Int)×((Int)×((Int)×((Int)×((Bool)×(Unit)))))
abbrev nI:Ty:=(.pair (.int .i64) (.pair (.int .i64) (.pair (.int .i64) (.pair (.int .i64) .unit))))
abbrev nI.D:Type:=(Int)×((Int)×((Int)×((Int)×(Unit))))
abbrev pg:Ty:=(.pair (.int .i64) (.pair (.int .i64) nI))
abbrev pg.D:Type:=(Int)×((Int)×(nI.D))
abbrev ov:Ty:=(.pair (.int .i64) (.pair .str (.pair .bool .unit)))
abbrev ov.D:Type:=(Int)×((List UInt8)×((Bool)×(Unit)))
abbrev OF:Ty:=(.pair (.int .i64) (.pair (.int .i64) (.pair (.int .i64) .unit)))
abbrev OF.D:Type:=(Int)×((Int)×((Int)×(Unit)))
abbrev nW:Ty:=(.pair (.lst (.int .i64)) (.pair .str .unit))
abbrev nW.D:Type:=(List (Int))×((List UInt8)×(Unit))
abbrev Ed:Ty:=(.pair .str .unit)
abbrev Ed.D:Type:=(List UInt8)×(Unit)
abbrev Vd:Ty:=(.pair (.int .u8) (.pair (.int .u8) .unit))
abbrev Vd.D:Type:=(Int)×((Int)×(Unit))
def Wh.Gt (xs:(an.D)×(Int)):Option (((Int))×(Unit)):=
 let bn:=xs.1
 let left_1:=xs.2
 let v_2:Int:=(↑(List.length bn.2.1):Int)
 let yh:=IntKind.wrap .i64 (left_1-v_2)
 bif decide (yh<0) then
  some (-1,())
 else
  let zO:Int:=(↑(List.length ((bn.2.2.2).1)):Int)
  let Xl:=IntKind.wrap .i64 (yh-zO)
  bif decide (Xl<0) then
   some (-1,())
  else
   some (Xl,())
def Wh.SD:=bx Wh.Gt
theorem Wh.SE:OV Wh.Gt Wh.SD:=e_ _
abbrev Wh.UW:Type:=((Int)×(Int)×(List (an.D)))×(Unit)
abbrev Wh.ag6:Type:=((((Int))×(Unit))⊕(((Int))×(Unit)))
def Wh.Fq (x:Wh.UW):Option (Wh.UW⊕Wh.ag6):=
 let xe:=x.1.1
 let AA:=x.1.2.1
 let Aw:=x.1.2.2
 let nG:Int:=(↑(List.length Aw):Int)
 bif decide (xe<nG) then
  let vT:an.D:=List.getD Aw (Int.toNat xe) (0,[],0,[],())
  let x6:=Wh.SD (vT,AA)
  bif iy [nQ (Wh.Gt (vT,AA)),decide (0≤xe),decide (xe<nG)] then
   bif decide (x6.1<0) then
    some (.inr (.inl (-1,())))
   else
    some (.inl (((IntKind.wrap .i64 (xe+1)),x6.1,Aw),()))
  else none
 else
  some (.inr (.inr (AA,())))
def Wh.UX:(((Int))×(Unit))⊕(((Int))×(Unit)):=.inl default
def Wh.q94 (xs:(List (an.D))×(Int)):Option (((Int))×(Unit)):=
 let bn:=xs.1
 let left_1:=xs.2
 let v_2:Int:=(↑(List.length bn):Int)
 let yh:=IntKind.wrap .i64 (left_1-v_2)
 bif decide (yh<0) then
  some (-1,())
 else
  let Ai:Wh.UW:=((0,yh,bn),())
  bif lF Wh.Fq Ai then
   sumC (kG Wh.Fq Wh.UX Ai) (fun Bo=>
    let yT:=Bo.1
    some (yT,())) (fun Em=>
    let F4:=Em.1
    some (F4,()))
  else none
def Wh.On:=bx Wh.q94
theorem Wh.UY:OV Wh.q94 Wh.On:=e_ _
def Wh.GH (xs:(fk.D)×(Int)):Option (((Int))×(Unit)):=
 let bn:=xs.1
 let left_1:=xs.2
 let r_2:=Wh.On (bn.2.1,left_1)
 bif iy [nQ (Wh.q94 (bn.2.1,left_1))] then
  bif decide (r_2.1<0) then
   some (-1,())
  else
   some (r_2.1,())
 else none
def Wh.Th:=bx Wh.GH
theorem Wh.ZH:OV Wh.GH Wh.Th:=e_ _
def Wh.q61 (xs:(List (nc.D))×(Int)):Option (((Int))×(Unit)):=
 let bn:=xs.1
 let left_1:=xs.2
 let v_2:Int:=(↑(List.length bn):Int)
 let yh:=IntKind.wrap .i64 (left_1-v_2)
 bif decide (yh<0) then
  some (-1,())
 else
  some (yh,())
def Wh.q61':=bx Wh.q61
theorem Wh.q61_v:OV Wh.q61 Wh.q61':=e_ _
def Wh.Gv (xs:(n4.D)×(Int)):Option (((Int))×(Unit)):=
 let bn:=xs.1
 let left_1:=xs.2
 let r_2:=Wh.q61' (bn.1,left_1)
 bif iy [nQ (Wh.q61 (bn.1,left_1))] then
  bif decide (r_2.1<0) then
   some (-1,())
  else
   some (r_2.1,())
 else none
def Wh.SG:=bx Wh.Gv
theorem Wh.Zf:OV Wh.Gv Wh.SG:=e_ _
def Wh.q31 (xs:(List (nI.D))×(Int)):Option (((Int))×(Unit)):=
 let bn:=xs.1
 let left_1:=xs.2
 let v_2:Int:=(↑(List.length bn):Int)
 let yh:=IntKind.wrap .i64 (left_1-v_2)
 bif decide (yh<0) then
  some (-1,())
 else
  some (yh,())
def Wh.q31':=bx Wh.q31
theorem Wh.q31_v:OV Wh.q31 Wh.q31':=e_ _
def Wh.q63 (xs:(List (pg.D))×(Int)):Option (((Int))×(Unit)):=
 let bn:=xs.1
 let left_1:=xs.2
 let v_2:Int:=(↑(List.length bn):Int)
 let yh:=IntKind.wrap .i64 (left_1-v_2)
 bif decide (yh<0) then
  some (-1,())
 else
  some (yh,())
def Wh.q63':=bx Wh.q63
theorem Wh.q63_v:OV Wh.q63 Wh.q63':=e_ _
def Wh.q64 (xs:(ng.D)×(Int)):Option (((Int))×(Unit)):=
 let bn:=xs.1
 let left_1:=xs.2
 let v_2:Int:=(↑(List.length (bn.2.2.1)):Int)
 let yh:=IntKind.wrap .i64 (left_1-v_2)
 bif decide (yh<0) then
  some (-1,())
 else
  let yz:=Wh.Th ((bn.2.2.2).1,yh)
  bif iy [nQ (Wh.GH ((bn.2.2.2).1,yh))] then
   bif decide (yz.1<0) then
    some (-1,())
   else
    let yM:=Wh.SG (bn.2.2.2.2.1,yz.1)
    bif iy [nQ (Wh.Gv (bn.2.2.2.2.1,yz.1))] then
     bif decide (yM.1<0) then
      some (-1,())
     else
      let BG:=Wh.q31' ((bn.2.2.2.2.2).1,yM.1)
      bif iy [nQ (Wh.q31 ((bn.2.2.2.2.2).1,yM.1))] then
       bif decide (BG.1<0) then
        some (-1,())
       else
        let Aa:=Wh.q63' ((bn.2.2.2.2.2).2.1,BG.1)
        bif iy [nQ (Wh.q63 ((bn.2.2.2.2.2).2.1,BG.1))] then
         bif decide (Aa.1<0) then
          some (-1,())
         else
          some (Aa.1,())
        else none
      else none
    else none
  else none
def Wh.q64':=bx Wh.q64
theorem Wh.q64_v:OV Wh.q64 Wh.q64':=e_ _
def Wh.H7 (xs:(an.D)):Option (((an.D))×(Unit)):=
 let bn:an.D:=xs
 some ((bn.1,bn.2.1,bn.2.2.1,(bn.2.2.2).1,()),())
def Wh.SI:=bx Wh.H7
theorem Wh.Zh:OV Wh.H7 Wh.SI:=e_ _
abbrev Wh.UZ:Type:=((Int)×(List (an.D))×(Unit))×((List (an.D)))
abbrev Wh.ag7:Type:=((((Unit))×((List (an.D)))))
def Wh.Fs (x:Wh.UZ):Option (Wh.UZ⊕Wh.ag7):=
 let nP:=x.1.1
 let xV:=x.1.2.1
 let x9:=x.2
 let xP:Int:=(↑(List.length xV):Int)
 bif decide (nP<xP) then
  let Ac:=Wh.SI (List.getD xV (Int.toNat nP) (0,[],0,[],()))
  let w9:List (an.D):=List.set x9 (Int.toNat nP) Ac.1
  let nG:an.D:=List.getD xV (Int.toNat nP) (0,[],0,[],())
  bif iy [decide (0≤nP),decide (nP<(↑(List.length x9):Int)),nQ (Wh.H7 nG),decide (0≤nP),decide (nP<xP)] then
   some (.inl (((IntKind.wrap .i64 (nP+1)),xV,()),w9))
  else none
 else
  some (.inr ((),x9))
def Wh.aaS:(((Unit))×((List (an.D)))):=default
def Wh.q97 (xs:(List (an.D))):Option (((List (an.D)))×(Unit)):=
 let bn:List (an.D):=xs
 let y4:List (an.D):=@List.replicate (Int×List UInt8×Int×List UInt8×Unit) (Int.toNat (↑(List.length bn):Int)) (0,[],0,[],())
 let v_2:Int:=(↑(List.length bn):Int)
 bif iy [decide (0≤v_2),decide (v_2≤v_2),decide (v_2≤(↑dh:Int))] then
  let x_21:Wh.UZ:=((0,bn,()),y4)
  bif lF Wh.Fs x_21 then
   let AI:=kG Wh.Fs Wh.aaS x_21
   let zd:=AI.2
   some (zd,())
  else none
 else none
def Wh.Oo:=bx Wh.q97
theorem Wh.U0:OV Wh.q97 Wh.Oo:=e_ _
def Wh.GJ (xs:(fk.D)):Option ((((Int)×((List (an.D))×(Unit))))×(Unit)):=
 let bn:fk.D:=xs
 let r_1:=Wh.Oo bn.2.1
 bif iy [nQ (Wh.q97 bn.2.1)] then
  some ((bn.1,r_1.1,()),())
 else none
def Wh.Tl:=bx Wh.GJ
theorem Wh.ZJ:OV Wh.GJ Wh.Tl:=e_ _
def Wh.q96 (xs:(nc.D)):Option (((nc.D))×(Unit)):=
 let bn:nc.D:=xs
 some ((bn.1,bn.2.1,bn.2.2.1,(bn.2.2.2).1,bn.2.2.2.2.1,()),())
def Wh.q96':=bx Wh.q96
theorem Wh.q96_v:OV Wh.q96 Wh.q96':=e_ _
abbrev Wh.Uu:Type:=((Int)×(List (nc.D))×(Unit))×((List (nc.D)))
abbrev Wh.agM:Type:=((((Unit))×((List (nc.D)))))
def Wh.Fj (x:Wh.Uu):Option (Wh.Uu⊕Wh.agM):=
 let nP:=x.1.1
 let xV:=x.1.2.1
 let x9:=x.2
 let xP:Int:=(↑(List.length xV):Int)
 bif decide (nP<xP) then
  let Ac:=Wh.q96' (List.getD xV (Int.toNat nP) (0,0,0,0,false,()))
  let w9:List (nc.D):=List.set x9 (Int.toNat nP) Ac.1
  let nG:nc.D:=List.getD xV (Int.toNat nP) (0,0,0,0,false,())
  bif iy [decide (0≤nP),decide (nP<(↑(List.length x9):Int)),nQ (Wh.q96 nG),decide (0≤nP),decide (nP<xP)] then
   some (.inl (((IntKind.wrap .i64 (nP+1)),xV,()),w9))
  else none
 else
  some (.inr ((),x9))
def Wh.aay:(((Unit))×((List (nc.D)))):=default
def Wh.q68 (xs:(List (nc.D))):Option (((List (nc.D)))×(Unit)):=
 let bn:List (nc.D):=xs
 let y4:List (nc.D):=@List.replicate (Int×Int×Int×Int×Bool×Unit) (Int.toNat (↑(List.length bn):Int)) (0,0,0,0,false,())
 let v_2:Int:=(↑(List.length bn):Int)
 bif iy [decide (0≤v_2),decide (v_2≤v_2),decide (v_2≤(↑dh:Int))] then
  let x_21:Wh.Uu:=((0,bn,()),y4)
  bif lF Wh.Fj x_21 then
   let AI:=kG Wh.Fj Wh.aay x_21
   let zd:=AI.2
   some (zd,())
  else none
 else none
def Wh.q68':=bx Wh.q68
theorem Wh.q68_v:OV Wh.q68 Wh.q68':=e_ _
def Wh.Gx (xs:(n4.D)):Option ((((List (nc.D))×((Int)×(Unit))))×(Unit)):=
 let bn:n4.D:=xs
 let r_1:=Wh.q68' bn.1
 bif iy [nQ (Wh.q68 bn.1)] then
  some ((r_1.1,bn.2.1,()),())
 else none
def Wh.SK:=bx Wh.Gx
theorem Wh.Zj:OV Wh.Gx Wh.SK:=e_ _
def Wh.q66 (xs:(nI.D)):Option (((nI.D))×(Unit)):=
 let bn:nI.D:=xs
 some ((bn.1,bn.2.1,bn.2.2.1,(bn.2.2.2).1,()),())
def Wh.q66':=bx Wh.q66
theorem Wh.q66_v:OV Wh.q66 Wh.q66':=e_ _
abbrev Wh.T7:Type:=((Int)×(List (nI.D))×(Unit))×((List (nI.D)))
abbrev Wh.agt:Type:=((((Unit))×((List (nI.D)))))
def Wh.Fa (x:Wh.T7):Option (Wh.T7⊕Wh.agt):=
 let nP:=x.1.1
 let xV:=x.1.2.1
 let x9:=x.2
 let xP:Int:=(↑(List.length xV):Int)
 bif decide (nP<xP) then
  let Ac:=Wh.q66' (List.getD xV (Int.toNat nP) (0,0,0,0,()))
  let w9:List (nI.D):=List.set x9 (Int.toNat nP) Ac.1
  let nG:nI.D:=List.getD xV (Int.toNat nP) (0,0,0,0,())
  bif iy [decide (0≤nP),decide (nP<(↑(List.length x9):Int)),nQ (Wh.q66 nG),decide (0≤nP),decide (nP<xP)] then
   some (.inl (((IntKind.wrap .i64 (nP+1)),xV,()),w9))
  else none
 else
  some (.inr ((),x9))
def Wh.aae:(((Unit))×((List (nI.D)))):=default
def Wh.q35 (xs:(List (nI.D))):Option (((List (nI.D)))×(Unit)):=
 let bn:List (nI.D):=xs
 let y4:List (nI.D):=@List.replicate (Int×Int×Int×Int×Unit) (Int.toNat (↑(List.length bn):Int)) (0,0,0,0,())
 let v_2:Int:=(↑(List.length bn):Int)
 bif iy [decide (0≤v_2),decide (v_2≤v_2),decide (v_2≤(↑dh:Int))] then
  let x_21:Wh.T7:=((0,bn,()),y4)
  bif lF Wh.Fa x_21 then
   let AI:=kG Wh.Fa Wh.aae x_21
   let zd:=AI.2
   some (zd,())
  else none
 else none
def Wh.q35':=bx Wh.q35
theorem Wh.q35_v:OV Wh.q35 Wh.q35':=e_ _
def Wh.q98 (xs:(pg.D)):Option (((pg.D))×(Unit)):=
 let bn:pg.D:=xs
 some ((bn.1,bn.2.1,bn.2.2.1,(bn.2.2.2).1,bn.2.2.2.2.1,(bn.2.2.2.2.2).1,()),())
def Wh.q98':=bx Wh.q98
theorem Wh.q98_v:OV Wh.q98 Wh.q98':=e_ _
abbrev Wh.Uv:Type:=((Int)×(List (pg.D))×(Unit))×((List (pg.D)))
abbrev Wh.agN:Type:=((((Unit))×((List (pg.D)))))
def Wh.Fk (x:Wh.Uv):Option (Wh.Uv⊕Wh.agN):=
 let nP:=x.1.1
 let xV:=x.1.2.1
 let x9:=x.2
 let xP:Int:=(↑(List.length xV):Int)
 bif decide (nP<xP) then
  let Ac:=Wh.q98' (List.getD xV (Int.toNat nP) (0,0,0,0,0,0,()))
  let w9:List (pg.D):=List.set x9 (Int.toNat nP) Ac.1
  let nG:pg.D:=List.getD xV (Int.toNat nP) (0,0,0,0,0,0,())
  bif iy [decide (0≤nP),decide (nP<(↑(List.length x9):Int)),nQ (Wh.q98 nG),decide (0≤nP),decide (nP<xP)] then
   some (.inl (((IntKind.wrap .i64 (nP+1)),xV,()),w9))
  else none
 else
  some (.inr ((),x9))
def Wh.aaz:(((Unit))×((List (pg.D)))):=default
def Wh.q70 (xs:(List (pg.D))):Option (((List (pg.D)))×(Unit)):=
 let bn:List (pg.D):=xs
 let y4:List (pg.D):=@List.replicate (Int×Int×Int×Int×Int×Int×Unit) (Int.toNat (↑(List.length bn):Int)) (0,0,0,0,0,0,())
 let v_2:Int:=(↑(List.length bn):Int)
 bif iy [decide (0≤v_2),decide (v_2≤v_2),decide (v_2≤(↑dh:Int))] then
  let x_21:Wh.Uv:=((0,bn,()),y4)
  bif lF Wh.Fk x_21 then
   let AI:=kG Wh.Fk Wh.aaz x_21
   let zd:=AI.2
   some (zd,())
  else none
 else none
def Wh.q70':=bx Wh.q70
theorem Wh.q70_v:OV Wh.q70 Wh.q70':=e_ _
def Wh.q71 (xs:(ng.D)):Option ((((Bool)×((Int)×((List UInt8)×(((Int)×((List (an.D))×(Unit)))×(((List (nc.D))×((Int)×(Unit)))×((List (nI.D))×((List (pg.D))×(Unit)))))))))×(Unit)):=
 let bn:ng.D:=xs
 let r_1:=Wh.Tl ((bn.2.2.2).1)
 bif iy [nQ (Wh.GJ ((bn.2.2.2).1))] then
  let r_2:=Wh.SK (bn.2.2.2.2.1)
  bif iy [nQ (Wh.Gx (bn.2.2.2.2.1))] then
   let r_3:=Wh.q35' ((bn.2.2.2.2.2).1)
   bif iy [nQ (Wh.q35 ((bn.2.2.2.2.2).1))] then
    let nC:=Wh.q70' ((bn.2.2.2.2.2).2.1)
    bif iy [nQ (Wh.q70 ((bn.2.2.2.2.2).2.1))] then
     some ((bn.1,bn.2.1,bn.2.2.1,r_1.1,r_2.1,r_3.1,nC.1,()),())
    else none
   else none
  else none
 else none
def Wh.q71':=bx Wh.q71
theorem Wh.q71_v:OV Wh.q71 Wh.q71':=e_ _
def Wh.xd (xs:(Int)×(Int)×(Int)):Option (((Bool))×(Unit)):=
 let yQ:=xs.1
 let Rr:=xs.2.1
 let Rj:=xs.2.2
 let yw:=bif decide (yQ≥Rr) then decide (yQ≤Rj) else false
 some (yw,())
def Wh.nS:=bx Wh.xd
theorem Wh.zm:OV Wh.xd Wh.nS:=e_ _
abbrev Wh.SX:Type:=((Int)×(Int)×(List UInt8))×(Unit)
abbrev Wh.afX:Type:=((((Int))×(Unit))⊕((Unit)×(Unit)))
def Wh.CH (x:Wh.SX):Option (Wh.SX⊕Wh.afX):=
 let Jc:=x.1.1
 let b_11:=x.1.2.1
 let Hj:=x.1.2.2
 let BM:=decide (Jc<(↑(List.length Hj):Int))
 bif BM then
  let r_:Int:=(↑(UInt8.toNat (List.getD Hj (Int.toNat Jc) (0:UInt8))):Int)
  let xP:=r_==b_11
  bif iy [decide (0≤Jc),BM] then
   bif xP then
    some (.inr (.inl (Jc,())))
   else
    some (.inl (((IntKind.wrap .i64 (Jc+1)),b_11,Hj),()))
  else none
 else
  some (.inr (.inr ((),())))
def Wh.Zu:(((Int))×(Unit))⊕((Unit)×(Unit)):=.inl default
def Wh.zA (xs:(List UInt8)×(Int)×(Int)):Option (((Int))×(Unit)):=
 let fN:=xs.1
 let zQ:=xs.2.1
 let b_2:=xs.2.2
 let x_17:Wh.SX:=((zQ,b_2,fN),())
 bif lF Wh.CH x_17 then
  sumC (kG Wh.CH Wh.Zu x_17) (fun El=>
   let n5:=El.1
   some (n5,())) (fun _=>
   some (-1,()))
 else none
def Wh.JC:=bx Wh.zA
theorem Wh.CI:OV Wh.zA Wh.JC:=e_ _
abbrev Wh.TH:Type:=((Int)×(List UInt8)×(Int))×(Unit)
abbrev Wh.agh:Type:=((((Int))×(Unit))⊕(((Int))×(Unit)))
def Wh.E8 (x:Wh.TH):Option (Wh.TH⊕Wh.agh):=
 let HM:=x.1.1
 let s_18:=x.1.2.1
 let n_19:=x.1.2.2
 let n5:=decide (HM<(↑(List.length s_18):Int))
 bif n5 then
  let vT:Int:=(↑(UInt8.toNat (List.getD s_18 (Int.toNat HM) (0:UInt8))):Int)
  let yC:=bif decide (vT<48) then true else decide (vT>57)
  bif iy [!!decide (vT<48) || decide (0≤HM),!!decide (vT<48) || n5,decide (0≤HM),n5] then
   bif yC then
    some (.inr (.inl (-1,())))
   else
    bif iy [decide (0≤HM),n5] then
     some (.inl (((IntKind.wrap .i64 (HM+1)),s_18,(IntKind.wrap .i64 ((IntKind.wrap .i64 (n_19*10))+IntKind.wrap .i64 (IntKind.wrap .u8 (vT-48))))),()))
    else none
  else none
 else
  some (.inr (.inr (n_19,())))
def Wh.ZY:(((Int))×(Unit))⊕(((Int))×(Unit)):=.inl default
def Wh.Bg (xs:(List UInt8)):Option (((Int))×(Unit)):=
 let fN:=xs
 let r_1:=Wh.nS ((↑(List.length fN):Int),1,6)
 let v_2:=bif !r_1.1 then true else bif decide ((↑(List.length fN):Int)>1) then(↑(UInt8.toNat (List.getD fN (Int.toNat 0) (0:UInt8))):Int)==48 else false
 bif iy [!(decide ((↑(List.length fN):Int)>1) && !!r_1.1) || decide ((0:Int)≤0),!(decide ((↑(List.length fN):Int)>1) && !!r_1.1) || decide (0<(↑(List.length fN):Int)),nQ (Wh.xd ((↑(List.length fN):Int),1,6))] then
  bif v_2 then
   some (-1,())
  else
   let x_31:Wh.TH:=((0,fN,0),())
   bif lF Wh.E8 x_31 then
    sumC (kG Wh.E8 Wh.ZY x_31) (fun y_32=>
     let v_34:=y_32.1
     some (v_34,())) (fun z_33=>
     let n_35:=z_33.1
     some (n_35,()))
   else none
 else none
def Wh.JM:=bx Wh.Bg
theorem Wh.GP:OV Wh.Bg Wh.JM:=e_ _
def Wh.q21 (aaV:((Int))→Option (((List UInt8))×(Unit)))(Oy:((Int))→((List UInt8))×(Unit))(xs:(Int)):Option (((List UInt8))×(Unit)):=
 let yQ:=xs
 bif decide (yQ < -9223372036854775807) then
  some ([(45:UInt8),(57:UInt8),(50:UInt8),(50:UInt8),(51:UInt8),(51:UInt8),(55:UInt8),(50:UInt8),(48:UInt8),(51:UInt8),(54:UInt8),(56:UInt8),(53:UInt8),(52:UInt8),(55:UInt8),(55:UInt8),(53:UInt8),(56:UInt8),(48:UInt8),(56:UInt8)],())
 else
  bif decide (yQ<0) then
   let w8:=IntKind.wrap .i64 (0-yQ)
   let A3:Ed.D:=Oy w8
   let Ah:List UInt8:=[(45:UInt8)]++A3.1
   bif iy [decide ((1:Nat)+List.length ((Oy w8).1)≤dh),nQ (aaV w8)] then
    some (Ah,())
   else none
  else
   bif decide (yQ<10) then
    let R3:List Int:=[IntKind.wrap .u8 (IntKind.wrap .i64 (48+yQ))]
    some (qp R3,())
   else
    let pb_12:List Int:=[IntKind.wrap .u8 (IntKind.wrap .i64 (48+Int.tmod yQ 10))]
    let BM:=IntKind.wrap .i64 (Int.tdiv yQ 10)
    let yS:Ed.D:=Oy BM
    let vT:=yS.1++qp pb_12
    bif iy [decide (List.length ((Oy BM).1)+(1:Nat)≤dh),true,nQ (aaV BM),true] then
     some (vT,())
    else none
def Wh.Bc:Nat→((Int))→Option (((List UInt8))×(Unit))
 |0,_=>none
 |n+1,xs=>Wh.q21 (Wh.Bc n) (fun x=>match Wh.Bc n x with | some y=>y|none=>default) xs
theorem Wh.Tx (n:Nat):Wh.Bc (n+1)=Wh.q21 (Wh.Bc n) (fun x=>match Wh.Bc n x with | some y=>y|none=>default):=rfl
def Wh.CN (xs:(Int)):Option (((List UInt8))×(Unit)):=Wh.Bc 20 xs
def Wh.B5:=bx Wh.CN
theorem Wh.N9:OV Wh.CN Wh.B5:=e_ _
abbrev Wh.UH:Type:=((Int)×(Int)×(Unit))×((List (Int)))
abbrev Wh.agW:Type:=((((Unit))×((List (Int)))))
def Wh.G6 (x:Wh.UH):Option (Wh.UH⊕Wh.agW):=
 let yJ:=x.1.1
 let n_28:=x.1.2.1
 let Rw:=x.2
 bif decide (yJ≥0) then
  let yG:List Int:=[IntKind.wrap .u8 (Int.fdiv n_28 (2 ^ Min.min (Int.toNat (IntKind.wrap .i64 (8*yJ))) (Go.IntKind.bits Go.IntKind.i64)))]
  let zl:=Rw++yG
  bif iy [decide (List.length Rw+(1:Nat)≤dh),decide (0≤(IntKind.wrap .i64 (8*yJ)))] then
   some (.inl (((IntKind.wrap .i64 (yJ-1)),n_28,()),zl))
  else none
 else
  some (.inr ((),Rw))
def Wh.aaI:(((Unit))×((List (Int)))):=default
abbrev Wh.UG:Type:=((Unit)×(List UInt8))×((List (Int)))
abbrev Wh.agV:Type:=((((Unit)×(List UInt8))×((List (Int)))))
def Wh.Fo (x:Wh.UG):Option (Wh.UG⊕Wh.agV):=
 let abm:=x.1.2
 let Dg:=x.2
 let zi:Bool:=(Int.tmod (↑(List.length Dg):Int) 64) != 56
 bif zi then
  let De:=Dg ++ [(0:Int)]
  bif iy [decide (List.length Dg+(1:Nat)≤dh)] then
   some (.inl (((),abm),De))
  else none
 else
  some (.inr (((),abm),Dg))
def Wh.aaH:(((Unit)×(List UInt8))×((List (Int)))):=default
def Wh.q80 (xs:(List UInt8)):Option (((List (Int)))×(Unit)):=
 let y7:=xs
 let y4:List Int:=bytesOf y7 ++ [(128:Int)]
 bif iy [decide (List.length (bytesOf y7)+(1:Nat)≤dh),decide (List.length y7≤dh)] then
  let x_12:Wh.UG:=(((),y7),y4)
  bif lF Wh.Fo x_12 then
   let y_13:=kG Wh.Fo Wh.aaH x_12
   let ajx:=y_13.1.2
   let yL:=y_13.2
   let x_37:Wh.UH:=((7,(IntKind.wrap .i64 ((↑(List.length ajx):Int)*8)),()),yL)
   bif lF Wh.G6 x_37 then
    let y_38:=kG Wh.G6 Wh.aaI x_37
    let zT:=y_38.2
    some (zT,())
   else none
  else none
 else none
def Wh.q80':=bx Wh.q80
theorem Wh.q80_v:OV Wh.q80 Wh.q80':=e_ _
def Wh.yH (xs:(Int)×(Int)):Option (((Int))×(Unit)):=
 let yN:=xs.1
 let n_1:=xs.2
 let v_2:Int:=Int.fdiv yN (2 ^ Min.min (Int.toNat n_1) (Go.IntKind.bits Go.IntKind.u32))
 let w8:=IntKind.wrap .i64 (32-n_1)
 let zO:Int:=nj Go.BinOp.or Go.IntKind.u32 v_2 (IntKind.wrap .u32 (yN*2 ^ Min.min (Int.toNat w8) (Go.IntKind.bits Go.IntKind.u32)))
 bif iy [decide (0≤w8),decide (0≤n_1)] then
  some (zO,())
 else none
def Wh.zU:=bx Wh.yH
theorem Wh.q134_v:OV Wh.yH Wh.zU:=e_ _
abbrev Wh.Sq:Type:=((Int)×(Unit))×((List (Int)))
abbrev Wh.afI:Type:=((((Unit))×((List (Int)))))
def Wh.Gm (x:Wh.Sq):Option (Wh.Sq⊕Wh.afI):=
 let Ev:=x.1.1
 let BX:=x.2
 bif decide (Ev<64) then
  let CY:=IntKind.wrap .i64 (Ev-15)
  let Kq:=List.getD BX (Int.toNat CY) 0
  bif iy [decide (0≤CY),decide (CY<(↑(List.length BX):Int))] then
   let v_99:=IntKind.wrap .i64 (Ev-2)
   let Kr:=List.getD BX (Int.toNat v_99) 0
   bif iy [decide (0≤v_99),decide (v_99<(↑(List.length BX):Int))] then
    let r_102:=Wh.zU (Kq,7)
    let U2:=Wh.zU (Kq,18)
    let v_105:Int:=Int.fdiv Kq (2 ^ Min.min (Int.toNat 3) (Go.IntKind.bits Go.IntKind.u32))
    let a_107:Int:=nj Go.BinOp.xor Go.IntKind.u32 (nj Go.BinOp.xor Go.IntKind.u32 r_102.1 U2.1) v_105
    bif iy [true,nQ (Wh.yH (Kq,18)),nQ (Wh.yH (Kq,7))] then
     let r_108:=Wh.zU (Kr,17)
     let JZ:=Wh.zU (Kr,19)
     let v_111:Int:=Int.fdiv Kr (2 ^ Min.min (Int.toNat 10) (Go.IntKind.bits Go.IntKind.u32))
     let c_113:Int:=nj Go.BinOp.xor Go.IntKind.u32 (nj Go.BinOp.xor Go.IntKind.u32 r_108.1 JZ.1) v_111
     bif iy [true,nQ (Wh.yH (Kr,19)),nQ (Wh.yH (Kr,17))] then
      let pb_114:List Int:=[IntKind.wrap .u32 (IntKind.wrap .u32 (IntKind.wrap .u32 (List.getD BX (Int.toNat (IntKind.wrap .i64 (Ev-16))) 0+a_107)+List.getD BX (Int.toNat (IntKind.wrap .i64 (Ev-7))) 0)+c_113)]
      let Jk:=BX++pb_114
      let v_116:=IntKind.wrap .i64 (Ev-16)
      let OK:=IntKind.wrap .i64 (Ev-7)
      bif iy [decide (List.length BX+(1:Nat)≤dh),decide (0≤OK),decide (OK<(↑(List.length BX):Int)),decide (0≤v_116),decide (v_116<(↑(List.length BX):Int))] then
       some (.inl (((IntKind.wrap .i64 (Ev+1)),()),Jk))
      else none
     else none
    else none
   else none
  else none
 else
  some (.inr ((),BX))
def Wh.Y5:(((Unit))×((List (Int)))):=default
abbrev Wh.Sp:Type:=((Int)×(List (Int))×(Unit))×((List (Int)))
abbrev Wh.afH:Type:=((((Unit))×((List (Int)))))
def Wh.Gk (x:Wh.Sp):Option (Wh.Sp⊕Wh.afH):=
 let F0:=x.1.1
 let C5:=x.1.2.1
 let zl:=x.2
 bif decide (F0<16) then
  let NJ:List Int:=[nj Go.BinOp.or Go.IntKind.u32 (nj Go.BinOp.or Go.IntKind.u32 (nj Go.BinOp.or Go.IntKind.u32 (IntKind.wrap .u32 (IntKind.wrap .u32 (List.getD C5 (Int.toNat (IntKind.wrap .i64 (4*F0))) 0)*2 ^ Min.min (Int.toNat 24) (Go.IntKind.bits Go.IntKind.u32))) (IntKind.wrap .u32 (IntKind.wrap .u32 (List.getD C5 (Int.toNat (IntKind.wrap .i64 (IntKind.wrap .i64 (4*F0)+1))) 0)*2 ^ Min.min (Int.toNat 16) (Go.IntKind.bits Go.IntKind.u32)))) (IntKind.wrap .u32 (IntKind.wrap .u32 (List.getD C5 (Int.toNat (IntKind.wrap .i64 (IntKind.wrap .i64 (4*F0)+2))) 0)*2 ^ Min.min (Int.toNat 8) (Go.IntKind.bits Go.IntKind.u32)))) (IntKind.wrap .u32 (List.getD C5 (Int.toNat (IntKind.wrap .i64 (IntKind.wrap .i64 (4*F0)+3))) 0))]
  let yB:=zl++NJ
  let yl:=IntKind.wrap .i64 (4*F0)
  bif iy [decide (List.length zl+(1:Nat)≤dh),decide (0≤IntKind.wrap .i64 (yl+3)),decide (IntKind.wrap .i64 (yl+3)<(↑(List.length C5):Int)),true,decide (0≤IntKind.wrap .i64 (yl+2)),decide (IntKind.wrap .i64 (yl+2)<(↑(List.length C5):Int)),true,decide (0≤IntKind.wrap .i64 (yl+1)),decide (IntKind.wrap .i64 (yl+1)<(↑(List.length C5):Int)),true,decide (0≤yl),decide (yl<(↑(List.length C5):Int))] then
   some (.inl (((IntKind.wrap .i64 (F0+1)),C5,()),yB))
  else none
 else
  some (.inr ((),zl))
def Wh.Y4:(((Unit))×((List (Int)))):=default
def Wh.Gj (xs:(List (Int))):Option (((List (Int)))×(Unit)):=
 let yY:=xs
 let x_59:Wh.Sp:=((0,yY,()),[])
 bif lF Wh.Gk x_59 then
  let y_60:=kG Wh.Gk Wh.Y4 x_59
  let ls_61:=y_60.2
  let x_124:Wh.Sq:=((16,()),ls_61)
  bif lF Wh.Gm x_124 then
   let y_125:=kG Wh.Gm Wh.Y5 x_124
   let ls_126:=y_125.2
   some (ls_126,())
  else none
 else none
def Wh.So:=bx Wh.Gj
theorem Wh.Y6:OV Wh.Gj Wh.So:=e_ _
def Wh.q79 (_:Unit):Option (((List (Int)))×(Unit)):=
 let pb_0:List Int:=[(1116352408:Int),1899447441,3049323471,3921009573,961987163,1508970993,2453635748,2870763221,3624381080,310598401,607225278,1426881987,1925078388,2162078206,2614888103,3248222580,3835390401,4022224774,264347078,604807628,770255983,1249150122,1555081692,1996064986,2554220882,2821834349,2952996808,3210313671,3336571891,3584528711,113926993,338241895,666307205,773529912,1294757372,1396182291,1695183700,1986661051,2177026350,2456956037,2730485921,2820302411,3259730800,3345764771,3516065817,3600352804,4094571909,275423344,430227734,506948616,659060556,883997877,958139571,1322822218,1537002063,1747873779,1955562222,2024104815,2227730452,2361852424,2428436474,2756734187,3204031479,3329325298]
 some (pb_0,())
def Wh.q79':=bx Wh.q79
theorem Wh.q79_v:OV Wh.q79 Wh.q79':=e_ _
abbrev Wh.Sn:Type:=((Int)×(Unit)×(List (Int))×(Unit))×((List (Int))×(List (Int)))
abbrev Wh.afG:Type:=((((Unit))×((List (Int)))))
def Wh.Jw (x:Wh.Sn):Option (Wh.Sn⊕Wh.afG):=
 let Et:=x.1.1
 let Rh:=(x.1.2.2).1
 let Ru:=x.2.1
 let Rv:=x.2.2
 bif decide (Et<8) then
  let pb_193:List Int:=[IntKind.wrap .u32 (List.getD Rh (Int.toNat Et) 0+List.getD Ru (Int.toNat Et) 0)]
  let ls_194:=Rv++pb_193
  bif iy [decide (List.length Rv+(1:Nat)≤dh),decide (0≤Et),decide (Et<(↑(List.length Ru):Int)),decide (0≤Et),decide (Et<(↑(List.length Rh):Int))] then
   some (.inl (((IntKind.wrap .i64 (Et+1)),(),Rh,()),Ru,ls_194))
  else none
 else
  some (.inr ((),Rv))
def Wh.Y2:(((Unit))×((List (Int)))):=default
abbrev Wh.Sl:Type:=((Int)×(Unit)×(Unit)×(Unit)×(List (Int))×(Int)×(Int)×(Int)×(Int))×((List (Int))×(List (Int))×(List (Int)))
abbrev Wh.afF:Type:=((((Unit)×(Unit)×(Unit)×(List (Int))×(Int)×(Int)×(Int)×(Int))×((List (Int))×(List (Int))×(List (Int)))))
def Wh.Jv (x:Wh.Sl):Option (Wh.Sl⊕Wh.afF):=
 let HW:=x.1.1
 let h_73:=(x.1.2.2.2.2).1
 let i_74:=(x.1.2.2.2.2).2.1
 let Yu:=(x.1.2.2.2.2).2.2.1
 let a_76:=(x.1.2.2.2.2).2.2.2.1
 let t_77:=(x.1.2.2.2.2).2.2.2.2
 let Jm:=x.2.1
 let ls_79:=x.2.2.1
 let Jn:=x.2.2.2
 bif decide (HW>0) then
  let ls_82:=List.set Jm (Int.toNat HW) (List.getD Jm (Int.toNat (IntKind.wrap .i64 (HW-1))) 0)
  let Ek:=IntKind.wrap .i64 (HW-1)
  bif iy [decide (0≤HW),decide (HW<(↑(List.length Jm):Int)),decide (0≤Ek),decide (Ek<(↑(List.length Jm):Int))] then
   some (.inl ((Ek,(),(),(),h_73,i_74,Yu,a_76,t_77),ls_82,ls_79,Jn))
  else none
 else
  some (.inr (((),(),(),h_73,i_74,Yu,a_76,t_77),Jm,ls_79,Jn))
def Wh.Sm:(((Unit)×(Unit)×(Unit)×(List (Int))×(Int)×(Int)×(Int)×(Int))×((List (Int))×(List (Int))×(List (Int)))):=default
abbrev Wh.Sk:Type:=((Unit)×(Int)×(Unit)×(Unit)×(List (Int)))×((List (Int))×(List (Int))×(List (Int)))
abbrev Wh.afE:Type:=((((Unit)×(List (Int)))×((List (Int)))))
def Wh.Gi (x:Wh.Sk):Option (Wh.Sk⊕Wh.afE):=
 let Es:=x.1.2.1
 let h_103:=x.1.2.2.2.2
 let yK:=x.2.1
 let Rs:=x.2.2.1
 let Rt:=x.2.2.2
 bif decide (Es<64) then
  let CX:=List.getD yK (Int.toNat 4) 0
  let r_119:=Wh.zU (CX,6)
  let r_120:=Wh.zU (CX,11)
  let r_121:=Wh.zU (CX,25)
  let e_122:Int:=nj Go.BinOp.xor Go.IntKind.u32 (nj Go.BinOp.xor Go.IntKind.u32 r_119.1 r_120.1) r_121.1
  bif iy [nQ (Wh.yH (CX,25)),true,decide (4<(↑(List.length yK):Int)),nQ (Wh.yH (CX,11)),true,decide (4<(↑(List.length yK):Int)),nQ (Wh.yH (CX,6)),true,decide (4<(↑(List.length yK):Int))] then
   let v_123:=List.getD yK (Int.toNat 5) 0
   let v_124:=List.getD yK (Int.toNat 6) 0
   let ch_127:Int:=nj Go.BinOp.xor Go.IntKind.u32 (nj Go.BinOp.and Go.IntKind.u32 CX v_123) (nj Go.BinOp.and Go.IntKind.u32 (nj Go.BinOp.xor Go.IntKind.u32 (Go.IntKind.max Go.IntKind.u32) CX) v_124)
   bif iy [true,decide (6<(↑(List.length yK):Int)),true,decide (4<(↑(List.length yK):Int)),true,decide (5<(↑(List.length yK):Int)),true,decide (4<(↑(List.length yK):Int))] then
    let v_128:=List.getD yK (Int.toNat 7) 0
    let Vg:=List.getD Rt (Int.toNat Es) 0
    let v_133:=List.getD Rs (Int.toNat Es) 0
    bif iy [decide (0≤Es),decide (Es<(↑(List.length Rs):Int)),decide (0≤Es),decide (Es<(↑(List.length Rt):Int)),true,decide (7<(↑(List.length yK):Int))] then
     let Fx:=List.getD yK (Int.toNat 0) 0
     let r_147:=Wh.zU (Fx,2)
     let r_148:=Wh.zU (Fx,13)
     let r_149:=Wh.zU (Fx,22)
     let a_150:Int:=nj Go.BinOp.xor Go.IntKind.u32 (nj Go.BinOp.xor Go.IntKind.u32 r_147.1 r_148.1) r_149.1
     bif iy [nQ (Wh.yH (Fx,22)),true,decide (0<(↑(List.length yK):Int)),nQ (Wh.yH (Fx,13)),true,decide (0<(↑(List.length yK):Int)),nQ (Wh.yH (Fx,2)),true,decide (0<(↑(List.length yK):Int))] then
      let v_151:=List.getD yK (Int.toNat 1) 0
      let ON:=List.getD yK (Int.toNat 2) 0
      let ad4:Int:=nj Go.BinOp.xor Go.IntKind.u32 (nj Go.BinOp.xor Go.IntKind.u32 (nj Go.BinOp.and Go.IntKind.u32 Fx v_151) (nj Go.BinOp.and Go.IntKind.u32 Fx ON)) (nj Go.BinOp.and Go.IntKind.u32 v_151 ON)
      bif iy [true,decide (2<(↑(List.length yK):Int)),true,decide (1<(↑(List.length yK):Int)),true,decide (2<(↑(List.length yK):Int)),true,decide (0<(↑(List.length yK):Int)),true,decide (1<(↑(List.length yK):Int)),true,decide (0<(↑(List.length yK):Int))] then
       let x_156:Wh.Sl:=((7,(),(),(),h_103,Es,ad4,a_150,(IntKind.wrap .u32 (IntKind.wrap .u32 (IntKind.wrap .u32 (IntKind.wrap .u32 (v_128+e_122)+ch_127)+Vg)+v_133))),yK,Rs,Rt)
       bif lF Wh.Jv x_156 then
        let FE:=kG Wh.Jv Wh.Sm x_156
        let h_158:=FE.1.2.2.2.1
        let i_159:=(FE.1.2.2.2.2).1
        let ad5:=(FE.1.2.2.2.2).2.1
        let a_161:=(FE.1.2.2.2.2).2.2.1
        let t_162:=(FE.1.2.2.2.2).2.2.2
        let Nu:=FE.2.1
        let ls_164:=FE.2.2.1
        let ls_165:=FE.2.2.2
        let Xs:=List.set Nu (Int.toNat 4) (IntKind.wrap .u32 (List.getD Nu (Int.toNat 4) 0+t_162))
        bif iy [true,decide (4<(↑(List.length Nu):Int)),true,decide (4<(↑(List.length Nu):Int))] then
         let ls_169:=List.set Xs (Int.toNat 0) (IntKind.wrap .u32 (IntKind.wrap .u32 (t_162+a_161)+ad5))
         bif iy [true,decide (0<(↑(List.length Xs):Int))] then
          some (.inl (((),(IntKind.wrap .i64 (i_159+1)),(),(),h_158),ls_169,ls_164,ls_165))
         else none
        else none
       else none
      else none
     else none
    else none
   else none
  else none
 else
  some (.inr (((),h_103),yK))
def Wh.Y1:(((Unit)×(List (Int)))×((List (Int)))):=default
def Wh.Gh (xs:(List (Int))×(List (Int))):Option (((List (Int)))×(Unit)):=
 let h_0:=xs.1
 let b_1:=xs.2
 let r_2:=Wh.So b_1
 bif iy [nQ (Wh.Gj b_1)] then
  let r_3:=Wh.q79' ()
  bif iy [nQ (Wh.q79 ())] then
   let pb_4:List Int:=[]++h_0
   bif iy [decide ((0:Nat)+List.length h_0≤dh)] then
    let x_173:Wh.Sk:=(((),0,(),(),h_0),pb_4,r_2.1,r_3.1)
    bif lF Wh.Gi x_173 then
     let y_174:=kG Wh.Gi Wh.Y1 x_173
     let h_175:=y_174.1.2
     let ls_176:=y_174.2
     let x_199:Wh.Sn:=((0,(),h_175,()),ls_176,[])
     bif lF Wh.Jw x_199 then
      let y_200:=kG Wh.Jw Wh.Y2 x_199
      let ls_201:=y_200.2
      some (ls_201,())
     else none
    else none
   else none
  else none
 else none
def Wh.Sj:=bx Wh.Gh
theorem Wh.Y3:OV Wh.Gh Wh.Sj:=e_ _
abbrev Wh.TE:Type:=((Int)×(Unit)×(Unit))×((List (Int))×(List (Int)))
abbrev Wh.agd:Type:=((((Unit))×((List (Int)))))
def Wh.JJ (x:Wh.TE):Option (Wh.TE⊕Wh.agd):=
 let AP:=x.1.1
 let ye:=x.2.1
 let yB:=x.2.2
 bif decide (AP<8) then
  let pb_37:List Int:=[IntKind.wrap .u8 (Int.fdiv (List.getD ye (Int.toNat AP) 0) (2 ^ Min.min (Int.toNat 24) (Go.IntKind.bits Go.IntKind.u32))),IntKind.wrap .u8 (Int.fdiv (List.getD ye (Int.toNat AP) 0) (2 ^ Min.min (Int.toNat 16) (Go.IntKind.bits Go.IntKind.u32))),IntKind.wrap .u8 (Int.fdiv (List.getD ye (Int.toNat AP) 0) (2 ^ Min.min (Int.toNat 8) (Go.IntKind.bits Go.IntKind.u32))),IntKind.wrap .u8 (List.getD ye (Int.toNat AP) 0)]
  let yy:=yB++pb_37
  bif iy [decide (List.length yB+(4:Nat)≤dh),decide (0≤AP),decide (AP<(↑(List.length ye):Int)),true,decide (0≤AP),decide (AP<(↑(List.length ye):Int)),true,decide (0≤AP),decide (AP<(↑(List.length ye):Int)),true,decide (0≤AP),decide (AP<(↑(List.length ye):Int))] then
   some (.inl (((IntKind.wrap .i64 (AP+1)),(),()),ye,yy))
  else none
 else
  some (.inr ((),yB))
def Wh.ZU:(((Unit))×((List (Int)))):=default
abbrev Wh.TD:Type:=((Int)×(Unit)×(Unit))×((List (Int))×(List (Int)))
abbrev Wh.agc:Type:=((((Unit))×((List (Int)))))
def Wh.E4 (x:Wh.TD):Option (Wh.TD⊕Wh.agc):=
 let yA:=x.1.1
 let Ey:=x.2.1
 let De:=x.2.2
 bif decide (yA<(↑(List.length Ey):Int)) then
  let Fv:=Wh.Sj (De,List.take (Int.toNat (IntKind.wrap .i64 (yA+64)-yA)) (List.drop (Int.toNat yA) Ey))
  let r_:=IntKind.wrap .i64 (yA+64)
  bif iy [nQ (Wh.Gh (De,List.take (Int.toNat (r_-yA)) (List.drop (Int.toNat yA) Ey))),decide (0≤yA),decide (yA≤r_),decide (r_≤(↑(List.length Ey):Int))] then
   some (.inl ((r_,(),()),Ey,Fv.1))
  else none
 else
  some (.inr ((),De))
def Wh.ZT:(((Unit))×((List (Int)))):=default
def Wh.GO (xs:(List UInt8)):Option (((List UInt8))×(Unit)):=
 let y7:=xs
 let r_1:=Wh.q80' y7
 bif iy [nQ (Wh.q80 y7)] then
  let x_16:Wh.TD:=((0,(),()),r_1.1,[(1779033703:Int),3144134277,1013904242,2773480762,1359893119,2600822924,528734635,1541459225])
  bif lF Wh.E4 x_16 then
   let Ku:=kG Wh.E4 Wh.ZT x_16
   let w9:=Ku.2
   let Km:Wh.TE:=((0,(),()),w9,[])
   bif lF Wh.JJ Km then
    let y_48:=kG Wh.JJ Wh.ZU Km
    let ls_49:=y_48.2
    some (qp ls_49,())
   else none
  else none
 else none
def Wh.TC:=bx Wh.GO
theorem Wh.ZV:OV Wh.GO Wh.TC:=e_ _
abbrev Wh.Tz:Type:=((Int)×(List UInt8)×(Unit))×((List (Int)))
abbrev Wh.agb:Type:=((((Unit))×((List (Int)))))
def Wh.E3 (x:Wh.Tz):Option (Wh.Tz⊕Wh.agb):=
 let Am:=x.1.1
 let Ce:=x.1.2.1
 let yL:=x.2
 let tn:=decide (Am<(↑(List.length Ce):Int))
 bif tn then
  let Ga:List Int:=[(↑(UInt8.toNat (List.getD [(48:UInt8),(49:UInt8),(50:UInt8),(51:UInt8),(52:UInt8),(53:UInt8),(54:UInt8),(55:UInt8),(56:UInt8),(57:UInt8),(97:UInt8),(98:UInt8),(99:UInt8),(100:UInt8),(101:UInt8),(102:UInt8)] (Int.toNat (IntKind.wrap .u8 (Int.tdiv (↑(UInt8.toNat (List.getD Ce (Int.toNat Am) (0:UInt8))):Int) 16))) (0:UInt8))):Int),(↑(UInt8.toNat (List.getD [(48:UInt8),(49:UInt8),(50:UInt8),(51:UInt8),(52:UInt8),(53:UInt8),(54:UInt8),(55:UInt8),(56:UInt8),(57:UInt8),(97:UInt8),(98:UInt8),(99:UInt8),(100:UInt8),(101:UInt8),(102:UInt8)] (Int.toNat (Int.tmod (↑(UInt8.toNat (List.getD Ce (Int.toNat Am) (0:UInt8))):Int) 16)) (0:UInt8))):Int)]
  let w9:=yL++Ga
  let nG:Int:=(↑(UInt8.toNat (List.getD Ce (Int.toNat Am) (0:UInt8))):Int)
  bif iy [decide (List.length yL+(2:Nat)≤dh),decide (0≤Int.tmod nG 16),decide (Int.tmod nG 16<(↑(16:Nat):Int)),true,decide (0≤Am),tn,decide (0≤IntKind.wrap .u8 (Int.tdiv nG 16)),decide (IntKind.wrap .u8 (Int.tdiv nG 16)<(↑(16:Nat):Int)),true,decide (0≤Am),tn] then
   some (.inl (((IntKind.wrap .i64 (Am+1)),Ce,()),w9))
  else none
 else
  some (.inr ((),yL))
def Wh.ZS:(((Unit))×((List (Int)))):=default
def Wh.E0 (xs:(List UInt8)):Option (((List UInt8))×(Unit)):=
 let fN:=xs
 let x_25:Wh.Tz:=((0,fN,()),[])
 bif lF Wh.E3 x_25 then
  let yW:=kG Wh.E3 Wh.ZS x_25
  let y3:=yW.2
  some (qp y3,())
 else none
def Wh.N_:=bx Wh.E0
theorem Wh.TA:OV Wh.E0 Wh.N_:=e_ _
def Wh.Gd (xs:(List UInt8)):Option (((List UInt8))×(Unit)):=
 let y7:=xs
 let r_1:=Wh.TC y7
 let r_3:=Wh.N_ r_1.1
 bif iy [nQ (Wh.E0 r_1.1),nQ (Wh.GO y7)] then
  some (r_3.1,())
 else none
def Wh.EH:=bx Wh.Gd
theorem Wh.YR:OV Wh.Gd Wh.EH:=e_ _
def Wh.Gy (xs:(Int)×(List UInt8)):Option (((List UInt8))×(Unit)):=
 let yQ:=xs.1
 let zD:=xs.2
 let r_2:=Wh.B5 yQ
 let nC:=Wh.B5 (↑(List.length zD):Int)
 let Az:=r_2.1 ++ [(32:UInt8)]++nC.1 ++ [(32:UInt8)]
 bif iy [decide (List.length (r_2.1 ++ [(32:UInt8)]++nC.1)+(1:Nat)≤dh),decide (List.length (r_2.1 ++ [(32:UInt8)])+List.length nC.1≤dh),nQ (Wh.CN (↑(List.length zD):Int)),decide (List.length r_2.1+(1:Nat)≤dh),nQ (Wh.CN yQ)] then
  let Ah:List UInt8:=Az++zD
  let yS:=Wh.EH Ah
  let vT:List UInt8:=Az++List.take (Int.toNat ((16:Int)-0)) (List.drop (Int.toNat 0) yS.1) ++ [(32:UInt8)]++zD ++ [(10:UInt8)]
  bif iy [decide (List.length (Az++List.take (Int.toNat ((16:Int)-0)) (List.drop (Int.toNat 0) ((Wh.EH Ah).1)) ++ [(32:UInt8)]++zD)+(1:Nat)≤dh),decide (List.length (Az++List.take (Int.toNat ((16:Int)-0)) (List.drop (Int.toNat 0) ((Wh.EH Ah).1)) ++ [(32:UInt8)])+List.length zD≤dh),decide (List.length (Az++List.take (Int.toNat ((16:Int)-0)) (List.drop (Int.toNat 0) ((Wh.EH Ah).1)))+(1:Nat)≤dh),decide (List.length Az+List.length (List.take (Int.toNat ((16:Int)-0)) (List.drop (Int.toNat 0) ((Wh.EH Ah).1)))≤dh),true,true,decide (16≤(↑(List.length ((Wh.EH Ah).1)):Int)),nQ (Wh.Gd Ah),decide (List.length Az+List.length zD≤dh)] then
   some (vT,())
  else none
 else none
def Wh.SY:=bx Wh.Gy
theorem Wh.SZ:OV Wh.Gy Wh.SY:=e_ _
def Wh.DB (xs:(List UInt8)×(Int)×(Int)):Option (((List UInt8)×(Int))×(Unit)):=
 let zb:=xs.1
 let zQ:=xs.2.1
 let RX:=xs.2.2
 let r_3:=Wh.JC (zb,zQ,32)
 bif iy [nQ (Wh.zA (zb,zQ,32))] then
  let xZ:=decide (r_3.1<0)
  let xQ:=Wh.JM (List.take (Int.toNat (r_3.1-zQ)) (List.drop (Int.toNat zQ) zb))
  let zO:=bif xZ then true else xQ.1 != RX
  bif iy [!!xZ || nQ (Wh.Bg (List.take (Int.toNat (r_3.1-zQ)) (List.drop (Int.toNat zQ) zb))),!!xZ || decide (0≤zQ),!!xZ || decide (zQ≤r_3.1),!!xZ || decide (r_3.1≤(↑(List.length zb):Int))] then
   bif zO then
    some (([],0),())
   else
    let w7:=IntKind.wrap .i64 (r_3.1+1)
    let r_9:=Wh.JC (zb,w7,32)
    bif iy [nQ (Wh.zA (zb,w7,32))] then
     bif decide (r_9.1<0) then
      some (([],0),())
     else
      let Fv:=Wh.JM (List.take (Int.toNat (r_9.1-w7)) (List.drop (Int.toNat w7) zb))
      bif iy [nQ (Wh.Bg (List.take (Int.toNat (r_9.1-w7)) (List.drop (Int.toNat w7) zb))),decide (0≤w7),decide (w7≤r_9.1),decide (r_9.1≤(↑(List.length zb):Int))] then
       let r_:=IntKind.wrap .i64 (r_9.1+18)
       let J0:=Wh.nS (Fv.1,1,500)
       let tn:=bif !J0.1 then true else decide (IntKind.wrap .i64 (IntKind.wrap .i64 (r_+Fv.1)+1)>(↑(List.length zb):Int))
       bif iy [nQ (Wh.xd (Fv.1,1,500))] then
        bif tn then
         some (([],0),())
        else
         let xS:=IntKind.wrap .i64 (r_+Fv.1)
         let yS:=Wh.SY (RX,List.take (Int.toNat (xS-r_)) (List.drop (Int.toNat r_) zb))
         bif iy [nQ (Wh.Gy (RX,List.take (Int.toNat (xS-r_)) (List.drop (Int.toNat r_) zb))),decide (0≤r_),decide (r_≤xS),decide (xS≤(↑(List.length zb):Int))] then
          bif iy [decide (0≤zQ),decide (zQ≤IntKind.wrap .i64 (xS+1)),decide (IntKind.wrap .i64 (xS+1)≤(↑(List.length zb):Int))] then
           bif(!List.take (Int.toNat (IntKind.wrap .i64 (xS+1)-zQ)) (List.drop (Int.toNat zQ) zb)==yS.1) then
            some (([],0),())
           else
            let zE:Int:=(↑(List.length yS.1):Int)
            let xY:List UInt8:=List.take (Int.toNat (xS-r_)) (List.drop (Int.toNat r_) zb)
            bif iy [decide (0≤r_),decide (r_≤xS),decide (xS≤(↑(List.length zb):Int))] then
             some ((xY,zE),())
            else none
          else none
         else none
       else none
      else none
    else none
  else none
 else none
def Wh.S0:=bx Wh.DB
theorem Wh.S1:OV Wh.DB Wh.S0:=e_ _
abbrev Wh.S2:Type:=((Int)×(Unit)×(List UInt8))×((List (List UInt8)))
abbrev Wh.afY:Type:=((((Unit)×(Int))×((List (List UInt8)))))
def Wh.EO (x:Wh.S2):Option (Wh.S2⊕Wh.afY):=
 let M6:=x.1.1
 let Rq:=x.1.2.2
 let yu:=x.2
 let n5:Int:=(↑(List.length yu):Int)
 let BI:=Wh.S0 (Rq,M6,n5)
 bif iy [nQ (Wh.DB (Rq,M6,n5))] then
  bif(BI.1.2==0) then
   some (.inr (((),M6),yu))
  else
   let pb_30:List (List UInt8):=[BI.1.1]
   let zJ:List (List UInt8):=yu++pb_30
   bif iy [decide (List.length yu+(1:Nat)≤dh)] then
    some (.inl (((IntKind.wrap .i64 (M6+BI.1.2)),(),Rq),zJ))
   else none
 else none
def Wh.Zv:(((Unit)×(Int))×((List (List UInt8)))):=default
def Wh.B4 (xs:(List UInt8)):Option (((List (List UInt8))×(Int))×(Unit)):=
 let zb:=xs
 let x_33:Wh.S2:=((0,(),zb),[])
 bif lF Wh.EO x_33 then
  let y_34:=kG Wh.EO Wh.Zv x_33
  let yI:=y_34.1.2
  let Ry:=y_34.2
  some ((Ry,yI),())
 else none
def Wh.JD:=bx Wh.B4
theorem Wh.NV:OV Wh.B4 Wh.JD:=e_ _
abbrev Wh.SV:Type:=((Int)×(Int)×(List UInt8)×(Unit)×(Int))×((List (List UInt8)))
abbrev Wh.afW:Type:=((((Int)×(List UInt8)×(Unit))×((List (List UInt8)))))
def Wh.z_ (x:Wh.SV):Option (Wh.SV⊕Wh.afW):=
 let fT:=x.1.1
 let HJ:=x.1.2.1
 let Hl:=(x.1.2.2).1
 let QW:=x.1.2.2.2.2
 let yu:=x.2
 let n5:=decide (fT<(↑(List.length Hl):Int))
 bif n5 then
  let vT:Int:=(↑(UInt8.toNat (List.getD Hl (Int.toNat fT) (0:UInt8))):Int)
  let y9:=vT==QW
  bif iy [decide (0≤fT),n5] then
   bif y9 then
    let zu:List (List UInt8):=[List.take (Int.toNat (fT-HJ)) (List.drop (Int.toNat HJ) Hl)]
    let z6:List (List UInt8):=yu++zu
    bif iy [decide (List.length yu+(1:Nat)≤dh),decide (0≤HJ),decide (HJ≤fT),decide (fT≤(↑(List.length Hl):Int))] then
     let xY:=IntKind.wrap .i64 (fT+1)
     some (.inl ((xY,xY,Hl,(),QW),z6))
    else none
   else
    some (.inl (((IntKind.wrap .i64 (fT+1)),HJ,Hl,(),QW),yu))
  else none
 else
  some (.inr ((HJ,Hl,()),yu))
def Wh.Zt:(((Int)×(List UInt8)×(Unit))×((List (List UInt8)))):=default
def Wh.DA (xs:(List UInt8)×(Int)):Option (((List (List UInt8)))×(Unit)):=
 let fN:=xs.1
 let zQ:=xs.2
 let Aj:Wh.SV:=((0,0,fN,(),zQ),[])
 bif lF Wh.z_ Aj then
  let zV:=kG Wh.z_ Wh.Zt Aj
  let Ni:=zV.1.1
  let J7:=zV.1.2.1
  let zl:=zV.2
  let zv:List (List UInt8):=[List.take (Int.toNat ((↑(List.length J7):Int)-Ni)) (List.drop (Int.toNat Ni) J7)]
  let ye:List (List UInt8):=zl++zv
  bif iy [decide (List.length zl+(1:Nat)≤dh),decide (0≤Ni),decide (Ni≤(↑(List.length J7):Int)),decide ((↑(List.length J7):Int)≤(↑(List.length J7):Int))] then
   some (ye,())
  else none
 else none
def Wh.SU:=bx Wh.DA
theorem Wh.SW:OV Wh.DA Wh.SU:=e_ _
abbrev Wh.SM:Type:=((Int)×(List UInt8))×(Unit)
abbrev Wh.afR:Type:=((((Bool))×(Unit))⊕(((List UInt8))×(Unit)))
def Wh.A1 (x:Wh.SM):Option (Wh.SM⊕Wh.afR):=
 let yA:=x.1.1
 let OH:=x.1.2
 let zo:=decide (yA<(↑(List.length OH):Int))
 bif zo then
  let yp:Int:=(↑(UInt8.toNat (List.getD OH (Int.toNat yA) (0:UInt8))):Int)
  let xP:=bif decide (yp<97) then true else decide (yp>122)
  bif iy [!!decide (yp<97) || decide (0≤yA),!!decide (yp<97) || zo,decide (0≤yA),zo] then
   bif xP then
    some (.inr (.inl (false,())))
   else
    some (.inl (((IntKind.wrap .i64 (yA+1)),OH),()))
  else none
 else
  some (.inr (.inr (OH,())))
def Wh.Zm:(((Bool))×(Unit))⊕(((List UInt8))×(Unit)):=.inl default
def Wh.B3 (xs:(List UInt8)):Option (((Bool))×(Unit)):=
 let y7:=xs
 let x_17:Wh.SM:=((0,y7),())
 bif lF Wh.A1 x_17 then
  sumC (kG Wh.A1 Wh.Zm x_17) (fun El=>
   let n5:=El.1
   some (n5,())) (fun KA=>
   let abk:=KA.1
   let r_22:=Wh.nS ((↑(List.length abk):Int),1,6)
   bif iy [nQ (Wh.xd ((↑(List.length abk):Int),1,6))] then
    some (r_22.1,())
   else none)
 else none
def Wh.NU:=bx Wh.B3
theorem Wh.SN:OV Wh.B3 Wh.NU:=e_ _
def Wh.B7 (xs:(an.D)):Option (((Bool))×(Unit)):=
 let t_0:an.D:=xs
 let r_1:=Wh.nS (t_0.1,0,1)
 let r_2:=Wh.NU t_0.2.1
 let xQ:=Wh.nS ((↑(List.length ((t_0.2.2.2).1)):Int),1,300)
 let w7:=bif bif r_1.1 then r_2.1 else false then xQ.1 else false
 bif iy [(!bif r_1.1 then r_2.1 else false) || nQ (Wh.xd ((↑(List.length ((t_0.2.2.2).1)):Int),1,300)),!r_1.1 || nQ (Wh.B3 t_0.2.1),nQ (Wh.xd (t_0.1,0,1))] then
  some (w7,())
 else none
def Wh.DN:=bx Wh.B7
theorem Wh.DO:OV Wh.B7 Wh.DN:=e_ _
def Wh.q39 (xs:(Int)×(List UInt8)×(List UInt8)):Option (((List UInt8))×(Unit)):=
 let Er:=xs.1
 let zf:=xs.2.1
 let A4:=xs.2.2
 let w8:=A4 == []
 bif w8 then
  let nC:=Wh.DN (Er,zf,0,[(120:UInt8)],())
  bif iy [nQ (Wh.B7 (Er,zf,0,[(120:UInt8)],()))] then
   bif !nC.1 then
    some ([],())
   else
    let xQ:=Wh.B5 Er
    let zi:=xQ.1 ++ [(32:UInt8)]++zf ++ [(58:UInt8)]++A4
    bif iy [decide (List.length (xQ.1 ++ [(32:UInt8)]++zf ++ [(58:UInt8)])+List.length A4≤dh),decide (List.length (xQ.1 ++ [(32:UInt8)]++zf)+(1:Nat)≤dh),decide (List.length (xQ.1 ++ [(32:UInt8)])+List.length zf≤dh),decide (List.length xQ.1+(1:Nat)≤dh),nQ (Wh.CN Er)] then
     some (zi,())
    else none
  else none
 else
  let Fu:=Wh.DN (Er,zf,0,A4,())
  bif iy [nQ (Wh.B7 (Er,zf,0,A4,()))] then
   bif !Fu.1 then
    some ([],())
   else
    let Aa:=Wh.B5 Er
    let xS:=Aa.1 ++ [(32:UInt8)]++zf ++ [(58:UInt8)]++A4
    bif iy [decide (List.length (Aa.1 ++ [(32:UInt8)]++zf ++ [(58:UInt8)])+List.length A4≤dh),decide (List.length (Aa.1 ++ [(32:UInt8)]++zf)+(1:Nat)≤dh),decide (List.length (Aa.1 ++ [(32:UInt8)])+List.length zf≤dh),decide (List.length Aa.1+(1:Nat)≤dh),nQ (Wh.CN Er)] then
     some (xS,())
    else none
  else none
def Wh.q39':=bx Wh.q39
theorem Wh.T_:OV Wh.q39 Wh.q39':=e_ _
def Wh.Gz (xs:(an.D)×(Int)×(List UInt8)):Option (((Bool))×(Unit)):=
 let bn:=xs.1
 let xX:=xs.2.1
 let yR:=xs.2.2
 let yw:=bif decide (bn.1<xX) then true else bif bn.1==xX then Go.Op.bytesLess bn.2.1 yR else false
 some (yw,())
def Wh.NX:=bx Wh.Gz
theorem Wh.NY:OV Wh.Gz Wh.NX:=e_ _
abbrev Wh.Sr:Type:=((Int)×(List (an.D))×(Int)×(Int))×(Unit)
abbrev Wh.afJ:Type:=((((Int))×(Unit)))
def Wh.Du (x:Wh.Sr):Option (Wh.Sr⊕Wh.afJ):=
 let fT:=x.1.1
 let Nt:=x.1.2.1
 let F9:=(x.1.2.2).1
 let FX:=x.1.2.2.2
 let nG:Int:=(↑(List.length Nt):Int)
 bif decide (fT<nG) then
  let vT:an.D:=List.getD Nt (Int.toNat fT) (0,[],0,[],())
  bif iy [decide (0≤fT),decide (fT<nG)] then
   bif(vT.1==FX) then
    bif iy [decide (0≤fT),decide (fT<nG)] then
     some (.inl (((IntKind.wrap .i64 (fT+1)),Nt,(IntKind.wrap .i64 (F9+(↑(List.length ((vT.2.2.2).1)):Int))),FX),()))
    else none
   else
    some (.inl (((IntKind.wrap .i64 (fT+1)),Nt,F9,FX),()))
  else none
 else
  some (.inr (F9,()))
def Wh.Y7:(((Int))×(Unit)):=default
def Wh.EK (xs:(List (an.D))×(Int)):Option (((Int))×(Unit)):=
 let list_0:=xs.1
 let xX:=xs.2
 let Aj:Wh.Sr:=((0,list_0,0,xX),())
 bif lF Wh.Du Aj then
  let zV:=kG Wh.Du Wh.Y7 Aj
  let n_30:=zV.1
  some (n_30,())
 else none
def Wh.NN:=bx Wh.EK
theorem Wh.NO:OV Wh.EK Wh.NN:=e_ _
abbrev Wh.Tr:Type:=((Int)×(Unit))×((fk.D))
abbrev Wh.af9:Type:=((((Bool))×(Unit))⊕((Unit)×(Unit)))
def Wh.GL (x:Wh.Tr):Option (Wh.Tr⊕Wh.af9):=
 let h_66:=x.1.1
 let Jl:=x.2
 bif decide (h_66<2) then
  let r_69:=Wh.NN (Jl.2.1,h_66)
  bif iy [nQ (Wh.EK (Jl.2.1,h_66))] then
   bif decide (r_69.1>500) then
    some (.inr (.inl (false,())))
   else
    some (.inl (((IntKind.wrap .i64 (h_66+1)),()),Jl))
  else none
 else
  some (.inr (.inr ((),())))
def Wh.ZP:(((Bool))×(Unit))⊕((Unit)×(Unit)):=.inl default
abbrev Wh.Tq:Type:=((Int)×(Unit)×(Unit)×(Int))×((an.D)×(fk.D))
abbrev Wh.af8:Type:=((((Bool))×(Unit))⊕(((Unit)×(Int))×((fk.D))))
def Wh.EX (x:Wh.Tq):Option (Wh.Tq⊕Wh.af8):=
 let Jg:=x.1.1
 let An:=x.1.2.2.2
 let z6:=x.2.1
 let Nv:=x.2.2
 bif decide (Jg<An) then
  let zp:an.D:=List.getD Nv.2.1 (Int.toNat Jg) (0,[],0,[],())
  bif iy [decide (0≤Jg),decide (Jg<(↑(List.length Nv.2.1):Int))] then
   bif(zp.2.2.1==z6.2.2.1) then
    some (.inr (.inl (false,())))
   else
    some (.inl (((IntKind.wrap .i64 (Jg+1)),(),(),An),z6,Nv))
  else none
 else
  some (.inr (.inr (((),An),Nv)))
def Wh.ZO:(((Bool))×(Unit))⊕(((Unit)×(Int))×((fk.D))):=.inl default
abbrev Wh.Tp:Type:=((Unit)×(Int))×((fk.D))
abbrev Wh.af7:Type:=((((Bool))×(Unit))⊕(((Unit))×((fk.D))))
def Wh.DH (x:Wh.Tp):Option (Wh.Tp⊕Wh.af7):=
 let A8:=x.1.2
 let yy:=x.2
 let Kd:Int:=(↑(List.length yy.2.1):Int)
 bif decide (A8<Kd) then
  let Dl:an.D:=List.getD yy.2.1 (Int.toNat A8) (0,[],0,[],())
  bif iy [decide (0≤A8),decide (A8<Kd)] then
   let J3:=Wh.DN Dl
   let Ou:=Wh.nS (Dl.2.2.1,1,yy.1)
   let r_46:=Wh.NX (List.getD yy.2.1 (Int.toNat (IntKind.wrap .i64 (A8-1))) (0,[],0,[],()),Dl.1,Dl.2.1)
   let v_47:=bif bif !J3.1 then true else !Ou.1 then true else bif decide (A8>0) then !r_46.1 else false
   bif iy [!(decide (A8>0) && !bif !J3.1 then true else !Ou.1) || nQ (Wh.Gz (List.getD yy.2.1 (Int.toNat (IntKind.wrap .i64 (A8-1))) (0,[],0,[],()),Dl.1,Dl.2.1)),!(decide (A8>0) && !bif !J3.1 then true else !Ou.1) || decide (0≤IntKind.wrap .i64 (A8-1)),!(decide (A8>0) && !bif !J3.1 then true else !Ou.1) || decide (IntKind.wrap .i64 (A8-1)<Kd),!!!J3.1 || nQ (Wh.xd (Dl.2.2.1,1,yy.1)),nQ (Wh.B7 Dl)] then
    bif v_47 then
     some (.inr (.inl (false,())))
    else
     let FD:Wh.Tq:=((0,(),(),A8),Dl,yy)
     bif lF Wh.EX FD then
      sumC (kG Wh.EX Wh.ZO FD) (fun FH=>
       let y_:=FH.1
       some (.inr (.inl (y_,())))) (fun OU=>
       let i_52:=OU.1.2
       let ls_53:=OU.2
       some (.inl (((),(IntKind.wrap .i64 (i_52+1))),ls_53)))
     else none
   else none
  else none
 else
  some (.inr (.inr ((),yy)))
def Wh.ZN:(((Bool))×(Unit))⊕(((Unit))×((fk.D))):=.inl default
def Wh.EW (xs:(fk.D)):Option (((Bool))×(Unit)):=
 let fe:fk.D:=xs
 let r_1:=Wh.nS (fe.1,0,99999)
 let v_2:=bif !r_1.1 then true else decide ((↑(List.length fe.2.1):Int)>8)
 bif iy [nQ (Wh.xd (fe.1,0,99999))] then
  bif v_2 then
   some (false,())
  else
   let Ko:Wh.Tp:=(((),0),fe)
   bif lF Wh.DH Ko then
    sumC (kG Wh.DH Wh.ZN Ko) (fun y_56=>
     let Av:=y_56.1
     some (Av,())) (fun z_57=>
     let ls_59:=z_57.2
     let x_72:Wh.Tr:=((0,()),ls_59)
     bif lF Wh.GL x_72 then
      sumC (kG Wh.GL Wh.ZP x_72) (fun y_73=>
       let v_75:=y_73.1
       some (v_75,())) (fun _=>
       some (true,()))
     else none)
   else none
 else none
def Wh.N5:=bx Wh.EW
theorem Wh.H_:OV Wh.EW Wh.N5:=e_ _
abbrev Wh.TQ:Type:=((Int)×(List UInt8)×(Unit)×(Int))×((fk.D))
abbrev Wh.agk:Type:=((((Int))×(Unit))⊕((Unit)×(Unit)))
def Wh.DM (x:Wh.TQ):Option (Wh.TQ⊕Wh.agk):=
 let za:=x.1.1
 let Yy:=x.1.2.1
 let Np:=x.1.2.2.2
 let xb:=x.2
 let so:Int:=(↑(List.length xb.2.1):Int)
 bif decide (za<so) then
  let n5:an.D:=List.getD xb.2.1 (Int.toNat za) (0,[],0,[],())
  let Ag:=bif n5.1==Np then n5.2.1==Yy else false
  bif iy [!n5.1==Np || decide (0≤za),!n5.1==Np || decide (za<so),decide (0≤za),decide (za<so)] then
   bif Ag then
    some (.inr (.inl (za,())))
   else
    some (.inl (((IntKind.wrap .i64 (za+1)),Yy,(),Np),xb))
  else none
 else
  some (.inr (.inr ((),())))
def Wh.Z5:(((Int))×(Unit))⊕((Unit)×(Unit)):=.inl default
def Wh.B6 (xs:(fk.D)×(Int)×(List UInt8)):Option (((Int))×(Unit)):=
 let fe:=xs.1
 let xX:=xs.2.1
 let yR:=xs.2.2
 let x_25:Wh.TQ:=((0,yR,(),xX),fe)
 bif lF Wh.DM x_25 then
  sumC (kG Wh.DM Wh.Z5 x_25) (fun yW=>
   let wX:=yW.1
   some (wX,())) (fun _=>
   some (-1,()))
 else none
def Wh.Oc:=bx Wh.B6
theorem Wh.JP:OV Wh.B6 Wh.Oc:=e_ _
def Wh.CJ (xs:(fk.D)):Option ((((Int)×((List (an.D))×(Unit))))×(Unit)):=
 let fe:fk.D:=xs
 let y4:List (an.D):=[]++fe.2.1
 bif iy [decide ((0:Nat)+List.length fe.2.1≤dh)] then
  some ((fe.1,y4,fe.2.2),())
 else none
def Wh.H8:=bx Wh.CJ
theorem Wh.JE:OV Wh.CJ Wh.H8:=e_ _
def Wh.GA (xs:(fk.D)×(Int)):Option ((((Int)×((List (an.D))×(Unit))))×(Unit)):=
 let fe:=xs.1
 let k_1:=xs.2
 let pb_2:List (an.D):=[]++List.take (Int.toNat (k_1-0)) (List.drop (Int.toNat 0) fe.2.1)
 let pb_3:List (an.D):=pb_2++List.take (Int.toNat ((↑(List.length fe.2.1):Int)-IntKind.wrap .i64 (k_1+1))) (List.drop (Int.toNat (IntKind.wrap .i64 (k_1+1))) fe.2.1)
 let xZ:List (an.D):=List.take (Int.toNat (k_1-0)) (List.drop (Int.toNat 0) fe.2.1)
 let yw:=IntKind.wrap .i64 (k_1+1)
 bif iy [decide (List.length pb_2+List.length (List.take (Int.toNat ((↑(List.length fe.2.1):Int)-yw)) (List.drop (Int.toNat yw) fe.2.1))≤dh),decide (0≤yw),decide (yw≤(↑(List.length fe.2.1):Int)),decide ((↑(List.length fe.2.1):Int)≤(↑(List.length fe.2.1):Int)),decide ((0:Nat)+List.length xZ≤dh),true,decide (0≤k_1),decide (k_1≤(↑(List.length fe.2.1):Int))] then
  some ((fe.1,pb_3,()),())
 else none
def Wh.S6:=bx Wh.GA
theorem Wh.Zw:OV Wh.GA Wh.S6:=e_ _
def Wh.EG (xs:(fk.D)×(Int)×(List UInt8)):Option ((((Int)×((List (an.D))×(Unit)))×(Int))×(Unit)):=
 let fe:=xs.1
 let xX:=xs.2.1
 let yR:=xs.2.2
 let r_3:=Wh.N5 fe
 bif iy [nQ (Wh.EW fe)] then
  bif !r_3.1 then
   some (((0,[],()),1),())
  else
   let nC:=Wh.Oc (fe,xX,yR)
   bif iy [nQ (Wh.B6 (fe,xX,yR))] then
    bif decide (nC.1<0) then
     let yz:=Wh.H8 fe
     bif iy [nQ (Wh.CJ fe)] then
      some ((yz.1,3),())
     else none
    else
     let A3:=Wh.S6 (fe,nC.1)
     bif iy [nQ (Wh.GA (fe,nC.1))] then
      some ((A3.1,0),())
     else none
   else none
 else none
def Wh.NM:=bx Wh.EG
theorem Wh.YP:OV Wh.EG Wh.NM:=e_ _
abbrev Wh.TK:Type:=((Int)×(Unit)×(Unit)×(Unit))×(((Int)×((Unit)×(Unit)))×(fk.D)×(an.D)×(List (an.D)))
abbrev Wh.agi:Type:=((((Unit)×(Int)×(Unit)×(Unit))×(((Int)×((Unit)×(Unit)))×(fk.D)×(an.D)×(List (an.D)))))
def Wh.DL (x:Wh.TK):Option (Wh.TK⊕Wh.agi):=
 let Cq:=x.1.1
 let yL:=x.2.1.1
 let BA:=x.2.1.2.2
 let xb:=x.2.2.1
 let w9:=(x.2.2.2).1
 let yu:=x.2.2.2.2
 let n5:Int:=(↑(List.length xb.2.1):Int)
 let x6:=Wh.NX (List.getD xb.2.1 (Int.toNat Cq) (0,[],0,[],()),w9.1,w9.2.1)
 let yC:=bif decide (Cq<n5) then x6.1 else false
 bif iy [!decide (Cq<n5) || nQ (Wh.Gz (List.getD xb.2.1 (Int.toNat Cq) (0,[],0,[],()),w9.1,w9.2.1)),!decide (Cq<n5) || decide (0≤Cq),!decide (Cq<n5) || decide (Cq<n5)] then
  bif yC then
   some (.inl (((IntKind.wrap .i64 (Cq+1)),(),(),()),(yL,(),BA),xb,w9,yu))
  else
   some (.inr (((),Cq,(),()),(yL,(),BA),xb,w9,yu))
 else none
def Wh.ZZ:(((Unit)×(Int)×(Unit)×(Unit))×(((Int)×((Unit)×(Unit)))×(fk.D)×(an.D)×(List (an.D)))):=default
def Wh.GQ (xs:(fk.D)×(an.D)):Option ((((Int)×((List (an.D))×(Unit))))×(Unit)):=
 let fe:=xs.1
 let t_1:=xs.2
 let Ai:Wh.TK:=((0,(),(),()),(0,(),()),fe,t_1,[])
 bif lF Wh.DL Ai then
  let Bo:=kG Wh.DL Wh.ZZ Ai
  let Cr:=Bo.1.2.1
  let zJ:=Bo.2.2.1
  let zl:=(Bo.2.2.2).1
  let NJ:=IntKind.wrap .i64 (zJ.1+1)
  let R4:List (an.D):=[]++List.take (Int.toNat (Cr-0)) (List.drop (Int.toNat 0) zJ.2.1)
  let NK:List (an.D):=[(zl.1,zl.2.1,NJ,zl.2.2.2)]
  let pb_38:List (an.D):=R4++NK++List.take (Int.toNat ((↑(List.length zJ.2.1):Int)-Cr)) (List.drop (Int.toNat Cr) zJ.2.1)
  let Kd:List (an.D):=List.take (Int.toNat (Cr-0)) (List.drop (Int.toNat 0) zJ.2.1)
  let Au:List (an.D):=List.take (Int.toNat ((↑(List.length zJ.2.1):Int)-Cr)) (List.drop (Int.toNat Cr) zJ.2.1)
  bif iy [decide (List.length (R4++NK)+List.length Au≤dh),decide (0≤Cr),decide (Cr≤(↑(List.length zJ.2.1):Int)),decide ((↑(List.length zJ.2.1):Int)≤(↑(List.length zJ.2.1):Int)),decide (List.length R4+(1:Nat)≤dh),decide ((0:Nat)+List.length Kd≤dh),true,decide (0≤Cr),decide (Cr≤(↑(List.length zJ.2.1):Int))] then
   some ((NJ,pb_38,()),())
  else none
 else none
def Wh.TJ:=bx Wh.GQ
theorem Wh.Z0:OV Wh.GQ Wh.TJ:=e_ _
def Wh.Dz (xs:(fk.D)×(Int)×(List UInt8)×(List UInt8)):Option ((((Int)×((List (an.D))×(Unit)))×(Int))×(Unit)):=
 let fe:=xs.1
 let xX:=xs.2.1
 let yR:=xs.2.2.1
 let CW:=xs.2.2.2
 let nC:=Wh.N5 fe
 bif iy [nQ (Wh.EW fe)] then
  bif !nC.1 then
   some (((0,[],()),1),())
  else
   let xQ:=Wh.DN (xX,yR,0,CW,())
   bif iy [nQ (Wh.B7 (xX,yR,0,CW,()))] then
    bif !xQ.1 then
     let yz:=Wh.H8 fe
     bif iy [nQ (Wh.CJ fe)] then
      some ((yz.1,1),())
     else none
    else
     let A3:=Wh.Oc (fe,xX,yR)
     bif iy [nQ (Wh.B6 (fe,xX,yR))] then
      bif decide (A3.1≥0) then
       let BG:=Wh.H8 fe
       bif iy [nQ (Wh.CJ fe)] then
        some ((BG.1,2),())
       else none
      else
       let zo:Int:=(↑(List.length fe.2.1):Int)
       let G9:=Wh.NN (fe.2.1,xX)
       let so:=bif bif decide (zo≥8) then true else decide (fe.1≥99999) then true else decide (IntKind.wrap .i64 (G9.1+(↑(List.length CW):Int))>500)
       bif iy [(!!bif decide (zo≥8) then true else decide (fe.1≥99999)) || nQ (Wh.EK (fe.2.1,xX))] then
        bif so then
         let G_:=Wh.H8 fe
         bif iy [nQ (Wh.CJ fe)] then
          some ((G_.1,4),())
         else none
        else
         let yS:=Wh.TJ (fe,xX,yR,0,CW,())
         bif iy [nQ (Wh.GQ (fe,xX,yR,0,CW,()))] then
          some ((yS.1,0),())
         else none
       else none
     else none
   else none
 else none
def Wh.NT:=bx Wh.Dz
theorem Wh.Zl:OV Wh.Dz Wh.NT:=e_ _
def Wh.DC (xs:(fk.D)×(List UInt8)):Option ((((Int)×((List (an.D))×(Unit)))×(Bool))×(Unit)):=
 let fe:=xs.1
 let s_1:=xs.2
 let r_2:=Wh.JC (s_1,0,58)
 bif iy [nQ (Wh.zA (s_1,0,58))] then
  bif decide (r_2.1<0) then
   some (((0,[],()),false),())
  else
   let nC:=Wh.SU (List.take (Int.toNat (r_2.1-0)) (List.drop (Int.toNat 0) s_1),32)
   let yw:List UInt8:=List.take (Int.toNat (r_2.1-0)) (List.drop (Int.toNat 0) s_1)
   bif iy [nQ (Wh.DA (yw,32)),true,decide (0≤r_2.1),decide (r_2.1≤(↑(List.length s_1):Int))] then
    let zO:=IntKind.wrap .i64 (r_2.1+1)
    let Ee:List UInt8:=List.take (Int.toNat ((↑(List.length s_1):Int)-zO)) (List.drop (Int.toNat zO) s_1)
    bif iy [decide (0≤zO),decide (zO≤(↑(List.length s_1):Int)),decide ((↑(List.length s_1):Int)≤(↑(List.length s_1):Int))] then
     let x_:Int:=(↑(List.length nC.1):Int)
     let Aa:=Wh.JM (List.getD nC.1 (Int.toNat 0) [])
     let Fv:=Wh.q39' (Aa.1,List.getD nC.1 (Int.toNat 1) [],Ee)
     let r_:=bif x_ != 2 then true else !Fv.1==s_1
     bif iy [!!x_ != 2 || nQ (Wh.q39 (Aa.1,List.getD nC.1 (Int.toNat 1) [],Ee)),!!x_ != 2 || decide ((0:Int)≤1),!!x_ != 2 || decide (1<x_),!!x_ != 2 || nQ (Wh.Bg (List.getD nC.1 (Int.toNat 0) [])),!!x_ != 2 || decide ((0:Int)≤0),!!x_ != 2 || decide (0<x_)] then
      bif r_ then
       some (((0,[],()),false),())
      else
       let xP:=Ee == []
       bif xP then
        let G9:=Wh.NM (fe,Aa.1,List.getD nC.1 (Int.toNat 1) [])
        let nG:=List.getD nC.1 (Int.toNat 0) []
        let n5:=List.getD nC.1 (Int.toNat 1) []
        let r_30:=Wh.NM (fe,Aa.1,n5)
        bif iy [nQ (Wh.EG (fe,Aa.1,n5)),true,decide (1<x_),nQ (Wh.Bg nG),true,decide (0<x_)] then
         some (((G9.1.1.1,(G9.1.1.2).1,G9.1.1.2.2),(r_30.1.2==0)),())
        else none
       else
        let xU:=Wh.NT (fe,Aa.1,List.getD nC.1 (Int.toNat 1) [],Ee)
        let yI:=List.getD nC.1 (Int.toNat 0) []
        let yl:=List.getD nC.1 (Int.toNat 1) []
        let r_46:=Wh.NT (fe,Aa.1,yl,Ee)
        bif iy [nQ (Wh.Dz (fe,Aa.1,yl,Ee)),true,decide (1<x_),nQ (Wh.Bg yI),true,decide (0<x_)] then
         some (((xU.1.1.1,(xU.1.1.2).1,xU.1.1.2.2),(r_46.1.2==0)),())
        else none
     else none
    else none
   else none
 else none
def Wh.S4:=bx Wh.DC
theorem Wh.S5:OV Wh.DC Wh.S4:=e_ _
abbrev Wh.To:Type:=((Unit)×(Int)×(Unit)×(List (List UInt8)))×(((Int)×((Unit)×(Unit)))×((Int)×((Unit)×(Unit)))×(List (an.D))×(List (an.D)))
abbrev Wh.af6:Type:=((((Unit)×(Bool))×(((Int)×((Unit)×(Unit)))×(List (an.D))))⊕(((Unit)×(Unit))×(((Int)×((Unit)×(Unit)))×((Int)×((Unit)×(Unit)))×(List (an.D))×(List (an.D)))))
def Wh.DG (x:Wh.To):Option (Wh.To⊕Wh.af6):=
 let fT:=x.1.2.1
 let OA:=x.1.2.2.2
 let xb:=x.2.1.1
 let w9:=x.2.1.2.2
 let yu:=x.2.2.1.1
 let zc:=(x.2.2.1).2.2
 let y2:=(x.2.2.2).1
 let zI:=x.2.2.2.2
 let Ag:Int:=(↑(List.length OA):Int)
 bif decide (fT<Ag) then
  let BH:=Wh.S4 ((yu,zI,zc),List.getD OA (Int.toNat fT) [])
  let xY:=List.getD OA (Int.toNat fT) []
  bif iy [nQ (Wh.DC ((yu,zI,zc),xY)),decide (0≤fT),decide (fT<Ag)] then
   bif(!BH.1.2) then
    some (.inr (.inl (((),false),(0,(),()),[])))
   else
    some (.inl (((),(IntKind.wrap .i64 (fT+1)),(),OA),(xb,(),w9),(BH.1.1.1,(),BH.1.1.2.2),y2,(BH.1.1.2).1))
  else none
 else
  some (.inr (.inr (((),()),(xb,(),w9),(yu,(),zc),y2,zI)))
def Wh.ZM:(((Unit)×(Bool))×(((Int)×((Unit)×(Unit)))×(List (an.D))))⊕(((Unit)×(Unit))×(((Int)×((Unit)×(Unit)))×((Int)×((Unit)×(Unit)))×(List (an.D))×(List (an.D)))):=.inl default
def Wh.CL (xs:(List (List UInt8))):Option ((((Int)×((List (an.D))×(Unit)))×(Bool))×(Unit)):=
 let Oz:List (List UInt8):=xs
 let FB:Wh.To:=(((),0,(),Oz),(0,(),()),(0,(),()),[],[])
 bif lF Wh.DG FB then
  sumC (kG Wh.DG Wh.ZM FB) (fun FF=>
   let v_32:=FF.1.2
   let z7:=FF.2.1.1
   let ye:=FF.2.1.2.2
   let yB:=FF.2.2
   some (((z7,yB,ye),v_32),())) (fun Io=>
   let yy:=Io.2.2.1.1
   let zT:=(Io.2.2.1).2.2
   let ls_41:=Io.2.2.2.2
   some (((yy,ls_41,zT),true),()))
 else none
def Wh.JH:=bx Wh.CL
theorem Wh.N4:OV Wh.CL Wh.JH:=e_ _
def Wh.Ge (xs:(ng.D)):Option (((Bool))×(Unit)):=
 let fN:ng.D:=xs
 let r_1:=Wh.JD (fN.2.2.1)
 bif iy [nQ (Wh.B4 (fN.2.2.1))] then
  let r_2:=Wh.JH r_1.1.1
  bif iy [nQ (Wh.CL r_1.1.1)] then
   some (r_2.1.2,())
  else none
 else none
def Wh.Se:=bx Wh.Ge
theorem Wh.YX:OV Wh.Ge Wh.Se:=e_ _
abbrev Wh.Sd:Type:=((Int)×(Unit)×(Unit))×((fk.D)×(fk.D))
abbrev Wh.afC:Type:=((((Bool))×(Unit))⊕((Unit)×(Unit)))
def Wh.Dr (x:Wh.Sd):Option (Wh.Sd⊕Wh.afC):=
 let Am:=x.1.1
 let x9:=x.2.1
 let yL:=x.2.2
 let tn:Int:=(↑(List.length yL.2.1):Int)
 bif decide (Am<tn) then
  let so:an.D:=List.getD yL.2.1 (Int.toNat Am) (0,[],0,[],())
  let nG:an.D:=List.getD x9.2.1 (Int.toNat Am) (0,[],0,[],())
  bif iy [decide (0≤Am),decide (Am<(↑(List.length x9.2.1):Int)),decide (0≤Am),decide (Am<tn)] then
   bif(!(so.1==nG.1&&(so.2.1==nG.2.1&&(so.2.2.1==nG.2.2.1&&((so.2.2.2).1==(nG.2.2.2).1&&true))))) then
    some (.inr (.inl (false,())))
   else
    some (.inl (((IntKind.wrap .i64 (Am+1)),(),()),x9,yL))
  else none
 else
  some (.inr (.inr ((),())))
def Wh.YV:(((Bool))×(Unit))⊕((Unit)×(Unit)):=.inl default
def Wh.Dq (xs:(fk.D)×(fk.D)):Option (((Bool))×(Unit)):=
 let bn:=xs.1
 let b_1:=xs.2
 let w8:=bif(bn.1 != b_1.1) then true else(↑(List.length bn.2.1):Int) != (↑(List.length b_1.2.1):Int)
 bif w8 then
  some (false,())
 else
  let x_22:Wh.Sd:=((0,(),()),b_1,bn)
  bif lF Wh.Dr x_22 then
   sumC (kG Wh.Dr Wh.YV x_22) (fun y_23=>
    let zE:=y_23.1
    some (zE,())) (fun _=>
    some (true,()))
  else none
def Wh.Sc:=bx Wh.Dq
theorem Wh.YW:OV Wh.Dq Wh.Sc:=e_ _
def Wh.EZ (xs:(nc.D)):Option (((Bool))×(Unit)):=
 let AM:nc.D:=xs
 bif(AM.2.1==0) then
  some ((AM.1==0&&(AM.2.1==0&&(AM.2.2.1==0&&((AM.2.2.2).1==0&&(AM.2.2.2.2.1==false&&true))))),())
 else
  let r_3:=Wh.nS (AM.1,0,1)
  let nC:=Wh.nS (AM.2.1,1,99999)
  let A3:=Wh.nS (AM.2.2.1,0,23)
  let BG:=Wh.nS ((AM.2.2.2).1,0,99999)
  let yp:=bif bif bif r_3.1 then nC.1 else false then A3.1 else false then BG.1 else false
  bif iy [(!bif bif r_3.1 then nC.1 else false then A3.1 else false) || nQ (Wh.xd ((AM.2.2.2).1,0,99999)),(!bif r_3.1 then nC.1 else false) || nQ (Wh.xd (AM.2.2.1,0,23)),!r_3.1 || nQ (Wh.xd (AM.2.1,1,99999)),nQ (Wh.xd (AM.1,0,1))] then
   some (yp,())
  else none
def Wh.Tw:=bx Wh.EZ
theorem Wh.N8:OV Wh.EZ Wh.Tw:=e_ _
abbrev Wh.Tv:Type:=((Int)×(Int)×(Int)×(Unit))×((n4.D))
abbrev Wh.aga:Type:=((((Int))×(Unit)))
def Wh.DJ (x:Wh.Tv):Option (Wh.Tv⊕Wh.aga):=
 let fT:=x.1.1
 let F8:=x.1.2.1
 let FW:=(x.1.2.2).1
 let w9:=x.2
 let nG:Int:=(↑(List.length w9.1):Int)
 bif decide (fT<nG) then
  let vT:nc.D:=List.getD w9.1 (Int.toNat fT) (0,0,0,0,false,())
  let yC:=bif decide (vT.2.1>0) then vT.1==FW else false
  bif iy [!decide (vT.2.1>0) || decide (0≤fT),!decide (vT.2.1>0) || decide (fT<nG),decide (0≤fT),decide (fT<nG)] then
   bif yC then
    some (.inl (((IntKind.wrap .i64 (fT+1)),(IntKind.wrap .i64 (F8+1)),FW,()),w9))
   else
    some (.inl (((IntKind.wrap .i64 (fT+1)),F8,FW,()),w9))
  else none
 else
  some (.inr (F8,()))
def Wh.ZR:(((Int))×(Unit)):=default
def Wh.GN (xs:(n4.D)×(Int)):Option (((Int))×(Unit)):=
 let vN:=xs.1
 let xX:=xs.2
 let Aj:Wh.Tv:=((0,0,xX,()),vN)
 bif lF Wh.DJ Aj then
  let zV:=kG Wh.DJ Wh.ZR Aj
  let n_30:=zV.1
  some (n_30,())
 else none
def Wh.Tu:=bx Wh.GN
theorem Wh.Ia:OV Wh.GN Wh.Tu:=e_ _
abbrev Wh.SS:Type:=((Int)×(Unit))×((n4.D))
abbrev Wh.afV:Type:=((((Bool))×(Unit))⊕((Unit)×(Unit)))
def Wh.CG (x:Wh.SS):Option (Wh.SS⊕Wh.afV):=
 let h_67:=x.1.1
 let RG:=x.2
 bif decide (h_67<2) then
  let r_70:=Wh.Tu (RG,h_67)
  bif iy [nQ (Wh.GN (RG,h_67))] then
   bif decide (r_70.1>5) then
    some (.inr (.inl (false,())))
   else
    some (.inl (((IntKind.wrap .i64 (h_67+1)),()),RG))
  else none
 else
  some (.inr (.inr ((),())))
def Wh.Zq:(((Bool))×(Unit))⊕((Unit)×(Unit)):=.inl default
abbrev Wh.SR:Type:=((Int)×(Unit)×(Int))×((n4.D))
abbrev Wh.afU:Type:=((((Bool))×(Unit))⊕(((Unit)×(Int))×((n4.D))))
def Wh.A2 (x:Wh.SR):Option (Wh.SR⊕Wh.afU):=
 let By:=x.1.1
 let Co:=x.1.2.2
 let AR:=x.2
 bif decide (By<Co) then
  let wX:nc.D:=List.getD AR.1 (Int.toNat Co) (0,0,0,0,false,())
  let yD:=bif bif decide (wX.2.1>0) then wX.2.1==Prod.fst (Prod.snd (List.getD AR.1 (Int.toNat By) (0,0,0,0,false,()))) else false then wX.2.2.1==Prod.fst (Prod.snd (Prod.snd (List.getD AR.1 (Int.toNat By) (0,0,0,0,false,())))) else false
  bif iy [(!bif decide (wX.2.1>0) then wX.2.1==Prod.fst (Prod.snd (List.getD AR.1 (Int.toNat By) (0,0,0,0,false,()))) else false) || decide (0≤By),(!bif decide (wX.2.1>0) then wX.2.1==Prod.fst (Prod.snd (List.getD AR.1 (Int.toNat By) (0,0,0,0,false,()))) else false) || decide (By<(↑(List.length AR.1):Int)),(!bif decide (wX.2.1>0) then wX.2.1==Prod.fst (Prod.snd (List.getD AR.1 (Int.toNat By) (0,0,0,0,false,()))) else false) || decide (0≤Co),(!bif decide (wX.2.1>0) then wX.2.1==Prod.fst (Prod.snd (List.getD AR.1 (Int.toNat By) (0,0,0,0,false,()))) else false) || decide (Co<(↑(List.length AR.1):Int)),!decide (wX.2.1>0) || decide (0≤By),!decide (wX.2.1>0) || decide (By<(↑(List.length AR.1):Int)),!decide (wX.2.1>0) || decide (0≤Co),!decide (wX.2.1>0) || decide (Co<(↑(List.length AR.1):Int)),decide (0≤Co),decide (Co<(↑(List.length AR.1):Int))] then
   bif yD then
    some (.inr (.inl (false,())))
   else
    some (.inl (((IntKind.wrap .i64 (By+1)),(),Co),AR))
  else none
 else
  some (.inr (.inr (((),Co),AR)))
def Wh.Zp:(((Bool))×(Unit))⊕(((Unit)×(Int))×((n4.D))):=.inl default
abbrev Wh.SQ:Type:=((Unit)×(Int))×((n4.D))
abbrev Wh.afT:Type:=((((Bool))×(Unit))⊕(((Unit))×((n4.D))))
def Wh.CF (x:Wh.SQ):Option (Wh.SQ⊕Wh.afT):=
 let Je:=x.1.2
 let HU:=x.2
 let v_44:Int:=(↑(List.length HU.1):Int)
 bif decide (Je<v_44) then
  let OO:nc.D:=List.getD HU.1 (Int.toNat Je) (0,0,0,0,false,())
  let r_48:=Wh.Tw OO
  bif iy [nQ (Wh.EZ OO),decide (0≤Je),decide (Je<v_44)] then
   bif !r_48.1 then
    some (.inr (.inl (false,())))
   else
    let x_49:Wh.SR:=((0,(),Je),HU)
    bif lF Wh.A2 x_49 then
     sumC (kG Wh.A2 Wh.Zp x_49) (fun y_50=>
      let v_52:=y_50.1
      some (.inr (.inl (v_52,())))) (fun z_51=>
      let i_53:=z_51.1.2
      let RB:=z_51.2
      some (.inl (((),(IntKind.wrap .i64 (i_53+1))),RB)))
    else none
  else none
 else
  some (.inr (.inr ((),HU)))
def Wh.Zo:(((Bool))×(Unit))⊕(((Unit))×((n4.D))):=.inl default
def Wh.EN (xs:(n4.D)):Option (((Bool))×(Unit)):=
 let vN:n4.D:=xs
 let v_1:Int:=(↑(List.length vN.1):Int)
 let nC:=Wh.nS (vN.2.1,0,7)
 let yw:=bif v_1 != 8 then true else !nC.1
 bif iy [!!v_1 != 8 || nQ (Wh.xd (vN.2.1,0,7))] then
  bif yw then
   some (false,())
  else
   let x_56:Wh.SQ:=(((),0),vN)
   bif lF Wh.CF x_56 then
    sumC (kG Wh.CF Wh.Zo x_56) (fun y_57=>
     let v_59:=y_57.1
     some (v_59,())) (fun z_58=>
     let ls_60:=z_58.2
     let Kp:Wh.SS:=((0,()),ls_60)
     bif lF Wh.CG Kp then
      sumC (kG Wh.CG Wh.Zq Kp) (fun y_74=>
       let v_76:=y_74.1
       some (v_76,())) (fun _=>
       some (true,()))
     else none)
   else none
 else none
def Wh.SP:=bx Wh.EN
theorem Wh.Zr:OV Wh.EN Wh.SP:=e_ _
abbrev Wh.Uc:Type:=((Unit)×(Int)×(Unit)×(Int))×(((Int)×((List UInt8)×((Int)×((List UInt8)×(Unit)))))×(fk.D))
abbrev Wh.agx:Type:=((((Unit)×(Bool))×((an.D)))⊕(((Unit))×(((Int)×((List UInt8)×((Int)×((List UInt8)×(Unit))))))))
def Wh.DW (x:Wh.Uc):Option (Wh.Uc⊕Wh.agx):=
 let fT:=x.1.2.1
 let I4:=x.1.2.2.2
 let xb:=x.2.1.1
 let w9:=(x.2.1.2).1
 let yu:=x.2.1.2.2.1
 let zc:=(x.2.1.2.2.2).1
 let y2:=(x.2.1.2.2.2).2
 let zI:=x.2.2
 let Ag:Int:=(↑(List.length zI.2.1):Int)
 bif decide (fT<Ag) then
  let zE:an.D:=List.getD zI.2.1 (Int.toNat fT) (0,[],0,[],())
  bif iy [decide (0≤fT),decide (fT<Ag)] then
   bif(zE.2.2.1==I4) then
    bif iy [decide (0≤fT),decide (fT<Ag)] then
     some (.inr (.inl (((),true),zE)))
    else none
   else
    some (.inl (((),(IntKind.wrap .i64 (fT+1)),(),I4),(xb,w9,yu,zc,y2),zI))
  else none
 else
  some (.inr (.inr ((),xb,w9,yu,zc,y2)))
def Wh.aaj:(((Unit)×(Bool))×((an.D)))⊕(((Unit))×(((Int)×((List UInt8)×((Int)×((List UInt8)×(Unit))))))):=.inl default
def Wh.q41 (xs:(fk.D)×(Int)):Option (((an.D)×(Bool))×(Unit)):=
 let fe:=xs.1
 let HI:=xs.2
 let Aj:Wh.Uc:=(((),0,(),HI),(0,[],0,[],()),fe)
 bif lF Wh.DW Aj then
  sumC (kG Wh.DW Wh.aaj Aj) (fun zV=>
   let v_31:=zV.1.2
   let zl:=zV.2
   some ((zl,v_31),())) (fun _=>
   some (((0,[],0,[],()),false),()))
 else none
def Wh.Of:=bx Wh.q41
theorem Wh.Fe:OV Wh.q41 Wh.Of:=e_ _
def Wh.q77 (xs:(Int)):Option (((Int))×(Unit)):=
 let Q2:=xs
 some ((Int.tmod Q2 2),())
def Wh.q77':=bx Wh.q77
theorem Wh.UD:OV Wh.q77 Wh.q77':=e_ _
abbrev Wh.Ub:Type:=((Int)×(Unit))×((ng.D))
abbrev Wh.agw:Type:=((((Bool))×(Unit))⊕((Unit)×(Unit)))
def Wh.CP (x:Wh.Ub):Option (Wh.Ub⊕Wh.agw):=
 let yJ:=x.1.1
 let AB:=x.2
 let yT:Int:=(↑(List.length ((AB.2.2.2.2.2).2.1)):Int)
 bif decide (yJ<yT) then
  let yG:pg.D:=List.getD ((AB.2.2.2.2.2).2.1) (Int.toNat yJ) (0,0,0,0,0,0,())
  bif iy [decide (0≤yJ),decide (yJ<yT)] then
   let xU:=Wh.nS (yG.1,0,3)
   let Cd:=Wh.nS (yG.2.1,1,99999)
   let Ec:=Wh.nS (yG.2.2.1,1,(AB.2.2.2).1.1)
   let Ad:=Wh.nS ((yG.2.2.2).1,0,9999)
   let J4:=Wh.nS (yG.2.2.2.2.1,0,3)
   let Hf:=Wh.nS ((yG.2.2.2.2.2).1,0,AB.2.1)
   let Ei:=bif bif bif bif bif bif !xU.1 then true else bif decide (yJ>0) then decide (Prod.fst (List.getD ((AB.2.2.2.2.2).2.1) (Int.toNat (IntKind.wrap .i64 (yJ-1))) (0,0,0,0,0,0,()))≥yG.1) else false then true else !Cd.1 then true else !Ec.1 then true else !Ad.1 then true else !J4.1 then true else !Hf.1
   bif iy [(!!bif bif bif bif bif !xU.1 then true else bif decide (yJ>0) then decide (Prod.fst (List.getD ((AB.2.2.2.2.2).2.1) (Int.toNat (IntKind.wrap .i64 (yJ-1))) (0,0,0,0,0,0,()))≥yG.1) else false then true else !Cd.1 then true else !Ec.1 then true else !Ad.1 then true else !J4.1) || nQ (Wh.xd ((yG.2.2.2.2.2).1,0,AB.2.1)),(!!bif bif bif bif !xU.1 then true else bif decide (yJ>0) then decide (Prod.fst (List.getD ((AB.2.2.2.2.2).2.1) (Int.toNat (IntKind.wrap .i64 (yJ-1))) (0,0,0,0,0,0,()))≥yG.1) else false then true else !Cd.1 then true else !Ec.1 then true else !Ad.1) || nQ (Wh.xd (yG.2.2.2.2.1,0,3)),(!!bif bif bif !xU.1 then true else bif decide (yJ>0) then decide (Prod.fst (List.getD ((AB.2.2.2.2.2).2.1) (Int.toNat (IntKind.wrap .i64 (yJ-1))) (0,0,0,0,0,0,()))≥yG.1) else false then true else !Cd.1 then true else !Ec.1) || nQ (Wh.xd ((yG.2.2.2).1,0,9999)),(!!bif bif !xU.1 then true else bif decide (yJ>0) then decide (Prod.fst (List.getD ((AB.2.2.2.2.2).2.1) (Int.toNat (IntKind.wrap .i64 (yJ-1))) (0,0,0,0,0,0,()))≥yG.1) else false then true else !Cd.1) || nQ (Wh.xd (yG.2.2.1,1,(AB.2.2.2).1.1)),(!!bif !xU.1 then true else bif decide (yJ>0) then decide (Prod.fst (List.getD ((AB.2.2.2.2.2).2.1) (Int.toNat (IntKind.wrap .i64 (yJ-1))) (0,0,0,0,0,0,()))≥yG.1) else false) || nQ (Wh.xd (yG.2.1,1,99999)),!(decide (yJ>0) && !!xU.1) || decide (0≤IntKind.wrap .i64 (yJ-1)),!(decide (yJ>0) && !!xU.1) || decide (IntKind.wrap .i64 (yJ-1)<yT),nQ (Wh.xd (yG.1,0,3))] then
    bif Ei then
     some (.inr (.inl (false,())))
    else
     let J5:=Wh.Of ((AB.2.2.2).1,yG.2.2.1)
     bif iy [nQ (Wh.q41 ((AB.2.2.2).1,yG.2.2.1))] then
      let r_50:=Wh.q77' yG.1
      let y_:=bif J5.1.2 then J5.1.1.1 != r_50.1 else false
      bif iy [!J5.1.2 || nQ (Wh.q77 yG.1)] then
       bif y_ then
        some (.inr (.inl (false,())))
       else
        some (.inl (((IntKind.wrap .i64 (yJ+1)),()),AB))
      else none
     else none
   else none
  else none
 else
  some (.inr (.inr ((),())))
def Wh.aai:(((Bool))×(Unit))⊕((Unit)×(Unit)):=.inl default
def Wh.q40 (xs:(ng.D)):Option (((Bool))×(Unit)):=
 let fN:ng.D:=xs
 let Kn:Wh.Ub:=((0,()),fN)
 bif lF Wh.CP Kn then
  sumC (kG Wh.CP Wh.aai Kn) (fun y_54=>
   let Bn:=y_54.1
   some (Bn,())) (fun _=>
   some (true,()))
 else none
def Wh.q40':=bx Wh.q40
theorem Wh.q40_v:OV Wh.q40 Wh.q40':=e_ _
def Wh.z8 (xs:(r5.D)):Option (((Int))×(Unit)):=
 let vN:r5.D:=xs
 bif iy [vN.2.1 != 0] then
  some ((IntKind.wrap .i64 (Int.tdiv (IntKind.wrap .i64 ((IntKind.wrap .i64 (vN.1+vN.2.1))-1)) vN.2.1)),())
 else none
def Wh.y6:=bx Wh.z8
theorem Wh.CC:OV Wh.z8 Wh.y6:=e_ _
abbrev Wh.TG:Type:=((Unit)×(Unit))×(((Int)×((Int)×((Unit)×((Unit)×(Unit)))))×((Int)×((Int)×((Unit)×((Unit)×(Unit)))))×(List (Int))×(List (Int))×(List (Int))×(List (Int)))
abbrev Wh.agf:Type:=((((Unit)×(Unit))×(((Int)×((Int)×((Unit)×((Unit)×(Unit)))))×((Int)×((Int)×((Unit)×((Unit)×(Unit)))))×(List (Int))×(List (Int))×(List (Int))×(List (Int)))))
def Wh.DK (x:Wh.TG):Option (Wh.TG⊕Wh.agf):=
 let x9:=x.2.1.1
 let yL:=(x.2.1.2).1
 let BA:=(x.2.1.2.2.2).2
 let xb:=x.2.2.1.1
 let w9:=(x.2.2.1).2.1
 let yu:=(x.2.2.1).2.2.2.2
 let zc:=(x.2.2.2).1
 let y2:=x.2.2.2.2.1
 let zI:=(x.2.2.2.2.2).1
 let zd:=(x.2.2.2.2.2).2
 let r_24:=Wh.y6 (x9,yL,zc,y2,BA)
 bif iy [nQ (Wh.z8 (x9,yL,zc,y2,BA))] then
  bif decide (r_24.1>24) then
   some (.inl (((),()),(x9,(IntKind.wrap .i64 (yL+1)),(),(),BA),(xb,w9,(),(),yu),zc,y2,zI,zd))
  else
   some (.inr (((),()),(xb,w9,(),(),yu),(x9,yL,(),(),BA),zI,zd,zc,y2))
 else none
def Wh.ZX:(((Unit)×(Unit))×(((Int)×((Int)×((Unit)×((Unit)×(Unit)))))×((Int)×((Int)×((Unit)×((Unit)×(Unit)))))×(List (Int))×(List (Int))×(List (Int))×(List (Int)))):=default
def Wh.E7 (xs:(Int)):Option ((((Int)×((Int)×((List (Int))×((List (Int))×(Unit))))))×(Unit)):=
 let Jj:=xs
 let Kk:Wh.TG:=(((),()),(Jj,8,(),(),()),(0,0,(),(),()),[],[],[],[])
 bif lF Wh.DK Kk then
  let Ht:=kG Wh.DK Wh.ZX Kk
  let zl:=Ht.2.2.1.1
  let z7:=(Ht.2.2.1).2.1
  let ye:=(Ht.2.2.1).2.2.2.2
  let Nw:=(Ht.2.2.2.2.2).1
  let yy:=(Ht.2.2.2.2.2).2
  let As:=Wh.y6 (zl,z7,Nw,yy,ye)
  bif iy [nQ (Wh.z8 (zl,z7,Nw,yy,ye))] then
   let k_42:=IntKind.wrap .i64 (Int.tdiv (IntKind.wrap .i64 (As.1+3)) 4)
   bif decide (k_42<As.1) then
    let pb_44:List Int:=[k_42,As.1]
    some ((zl,z7,pb_44,[(2:Int),3],ye),())
   else
    let R5:List Int:=[As.1]
    some ((zl,z7,R5,[(1:Int)],ye),())
  else none
 else none
def Wh.JL:=bx Wh.E7
theorem Wh.Oa:OV Wh.E7 Wh.JL:=e_ _
def Wh.q73 (xs:(nI.D)):Option (((Bool))×(Unit)):=
 let yY:nI.D:=xs
 let r_1:=Wh.nS (yY.2.1,0,99999)
 let r_2:=Wh.nS (yY.1,0,yY.2.1)
 let xQ:=Wh.nS (yY.2.2.1,0,99999)
 let yM:=Wh.nS ((yY.2.2.2).1,0,99999)
 let zi:=bif bif bif r_1.1 then r_2.1 else false then xQ.1 else false then yM.1 else false
 bif iy [(!bif bif r_1.1 then r_2.1 else false then xQ.1 else false) || nQ (Wh.xd ((yY.2.2.2).1,0,99999)),(!bif r_1.1 then r_2.1 else false) || nQ (Wh.xd (yY.2.2.1,0,99999)),!r_1.1 || nQ (Wh.xd (yY.1,0,yY.2.1)),nQ (Wh.xd (yY.2.1,0,99999))] then
  some (zi,())
 else none
def Wh.q73':=bx Wh.q73
theorem Wh.q73_v:OV Wh.q73 Wh.q73':=e_ _
abbrev Wh.Ux:Type:=((Int)×(Unit))×((ng.D))
abbrev Wh.agP:Type:=((((Bool))×(Unit))⊕((Unit)×(Unit)))
def Wh.DZ (x:Wh.Ux):Option (Wh.Ux⊕Wh.agP):=
 let h_80:=x.1.1
 let Nx:=x.2
 let v_82:Int:=(↑(List.length ((Nx.2.2.2.2.2).1)):Int)
 bif decide (h_80<v_82) then
  let Jq:nI.D:=List.getD ((Nx.2.2.2.2.2).1) (Int.toNat h_80) (0,0,0,0,())
  bif iy [decide (0≤h_80),decide (h_80<v_82)] then
   let r_85:=Wh.q73' Jq
   let OS:=bif bif bif !r_85.1 then true else Jq.2.1 != 40 then true else Jq.2.2.1 != 8 then true else decide ((Jq.2.2.2).1>Nx.2.1)
   bif iy [nQ (Wh.q73 Jq)] then
    bif OS then
     some (.inr (.inl (false,())))
    else
     some (.inl (((IntKind.wrap .i64 (h_80+1)),()),Nx))
   else none
  else none
 else
  some (.inr (.inr ((),())))
def Wh.aaB:(((Bool))×(Unit))⊕((Unit)×(Unit)):=.inl default
abbrev Wh.Uw:Type:=((Int)×(Unit))×((ng.D))
abbrev Wh.agO:Type:=((((Bool))×(Unit))⊕(((Unit))×((ng.D))))
def Wh.Bi (x:Wh.Uw):Option (Wh.Uw⊕Wh.agO):=
 let AQ:=x.1.1
 let F7:=x.2
 let y_:Int:=(↑(List.length ((F7.2.2.2.2.1).1)):Int)
 bif decide (AQ<y_) then
  let zh:=Wh.Of ((F7.2.2.2).1,Prod.fst (Prod.snd (List.getD ((F7.2.2.2.2.1).1) (Int.toNat AQ) (0,0,0,0,false,()))))
  let xT:nc.D:=List.getD ((F7.2.2.2.2.1).1) (Int.toNat AQ) (0,0,0,0,false,())
  bif iy [nQ (Wh.q41 ((F7.2.2.2).1,xT.2.1)),decide (0≤AQ),decide (AQ<y_)] then
   let BK:=Wh.JL (↑(List.length ((zh.1.1.2.2.2).1)):Int)
   let r_60:=Wh.y6 (BK.1.1,BK.1.2.1,bif(!bif !zh.1.2 then true else zh.1.1.1 != xT.1)&&(decide (xT.2.1>0) && !decide ((xT.2.2.2).1>0)) then(BK.1.2.2).1 else [],bif(!bif !zh.1.2 then true else zh.1.1.1 != xT.1)&&(decide (xT.2.1>0) && !decide ((xT.2.2.2).1>0)) then BK.1.2.2.2.1 else [],BK.1.2.2.2.2)
   let Ij:=bif decide ((xT.2.2.2).1>0) then true else bif decide (xT.2.1>0) then bif bif !zh.1.2 then true else zh.1.1.1 != xT.1 then true else decide (xT.2.2.1≥r_60.1) else false
   bif iy [!((!bif !zh.1.2 then true else zh.1.1.1 != xT.1)&&(decide (xT.2.1>0) && !decide ((xT.2.2.2).1>0))) || nQ (Wh.z8 (BK.1.1,BK.1.2.1,bif(!bif !zh.1.2 then true else zh.1.1.1 != xT.1)&&(decide (xT.2.1>0) && !decide ((xT.2.2.2).1>0)) then(BK.1.2.2).1 else [],bif(!bif !zh.1.2 then true else zh.1.1.1 != xT.1)&&(decide (xT.2.1>0) && !decide ((xT.2.2.2).1>0)) then BK.1.2.2.2.1 else [],BK.1.2.2.2.2)),!((!bif !zh.1.2 then true else zh.1.1.1 != xT.1)&&(decide (xT.2.1>0) && !decide ((xT.2.2.2).1>0))) || nQ (Wh.E7 (↑(List.length ((zh.1.1.2.2.2).1)):Int)),!((!bif !zh.1.2 then true else zh.1.1.1 != xT.1)&&(decide (xT.2.1>0) && !decide ((xT.2.2.2).1>0))) || decide (0≤AQ),!((!bif !zh.1.2 then true else zh.1.1.1 != xT.1)&&(decide (xT.2.1>0) && !decide ((xT.2.2.2).1>0))) || decide (AQ<y_),!(!!zh.1.2&&(decide (xT.2.1>0) && !decide ((xT.2.2.2).1>0))) || decide (0≤AQ),!(!!zh.1.2&&(decide (xT.2.1>0) && !decide ((xT.2.2.2).1>0))) || decide (AQ<y_),!!decide ((xT.2.2.2).1>0) || decide (0≤AQ),!!decide ((xT.2.2.2).1>0) || decide (AQ<y_),decide (0≤AQ),decide (AQ<y_)] then
    bif Ij then
     some (.inr (.inl (false,())))
    else
     some (.inl (((IntKind.wrap .i64 (AQ+1)),()),F7))
   else none
  else none
 else
  some (.inr (.inr ((),F7)))
def Wh.aaA:(((Bool))×(Unit))⊕(((Unit))×((ng.D))):=.inl default
def Wh.q75 (xs:(ng.D)):Option (((Bool))×(Unit)):=
 let fN:ng.D:=xs
 let r_1:=Wh.nS (fN.2.1,0,99999)
 let v_2:=bif !r_1.1 then true else decide ((↑(List.length (fN.2.2.1)):Int)>9000)
 bif iy [nQ (Wh.xd (fN.2.1,0,99999))] then
  bif v_2 then
   some (false,())
  else
   bif(!fN.1) then
    let xZ:Int:=(↑(List.length ((fN.2.2.2).1.2.1)):Int)
    let Ac:=Wh.Se fN
    let nG:=bif bif bif bif bif bif xZ==0 then(fN.2.2.2).1.1==0 else false then(↑(List.length ((fN.2.2.2.2.1).1)):Int)==0 else false then(fN.2.2.2.2.1).2.1==0 else false then(↑(List.length ((fN.2.2.2.2.2).1)):Int)==0 else false then(↑(List.length ((fN.2.2.2.2.2).2.1)):Int)==0 else false then Ac.1 else false
    bif iy [(!bif bif bif bif bif xZ==0 then(fN.2.2.2).1.1==0 else false then(↑(List.length ((fN.2.2.2.2.1).1)):Int)==0 else false then(fN.2.2.2.2.1).2.1==0 else false then(↑(List.length ((fN.2.2.2.2.2).1)):Int)==0 else false then(↑(List.length ((fN.2.2.2.2.2).2.1)):Int)==0 else false) || nQ (Wh.Ge fN)] then
     some (nG,())
    else none
   else
    let yS:=Wh.JD (fN.2.2.1)
    bif iy [nQ (Wh.B4 (fN.2.2.1))] then
     let Bj:=Wh.JH yS.1.1
     bif iy [nQ (Wh.CL yS.1.1)] then
      let y9:= !Bj.1.2
      let BH:=Wh.Sc (Bj.1.1,(fN.2.2.2).1)
      let Ot:=Wh.SP (fN.2.2.2.2.1)
      let BJ:=Wh.q40' fN
      let v_34:=bif bif bif bif bif y9 then true else yS.1.2 != (↑(List.length (fN.2.2.1)):Int) then true else !BH.1 then true else !Ot.1 then true else(↑(List.length ((fN.2.2.2.2.2).1)):Int) != 2 then true else !BJ.1
      bif iy [(!!bif bif bif bif y9 then true else yS.1.2 != (↑(List.length (fN.2.2.1)):Int) then true else !BH.1 then true else !Ot.1 then true else(↑(List.length ((fN.2.2.2.2.2).1)):Int) != 2) || nQ (Wh.q40 fN),(!!bif bif y9 then true else yS.1.2 != (↑(List.length (fN.2.2.1)):Int) then true else !BH.1) || nQ (Wh.EN (fN.2.2.2.2.1)),(!!bif y9 then true else yS.1.2 != (↑(List.length (fN.2.2.1)):Int)) || nQ (Wh.Dq (Bj.1.1,(fN.2.2.2).1))] then
       bif v_34 then
        some (false,())
       else
        let x_63:Wh.Uw:=((0,()),fN)
        bif lF Wh.Bi x_63 then
         sumC (kG Wh.Bi Wh.aaA x_63) (fun y_64=>
          let v_66:=y_64.1
          some (v_66,())) (fun z_65=>
          let Jl:=z_65.2
          let x_92:Wh.Ux:=((0,()),Jl)
          bif lF Wh.DZ x_92 then
           sumC (kG Wh.DZ Wh.aaB x_92) (fun y_93=>
            let v_95:=y_93.1
            some (v_95,())) (fun _=>
            some (true,()))
          else none)
        else none
      else none
     else none
    else none
 else none
def Wh.q75':=bx Wh.q75
theorem Wh.Uy:OV Wh.q75 Wh.q75':=e_ _
def Wh.xR (xs:(Int)×(Int)×(Int)):Option (((Bool))×(Unit)):=
 let yQ:=xs.1
 let Rr:=xs.2.1
 let Rj:=xs.2.2
 let yw:=bif decide (yQ≥Rr) then decide (yQ≤Rj) else false
 some (yw,())
def Wh.n_:=bx Wh.xR
theorem Wh.zK:OV Wh.xR Wh.n_:=e_ _
def Wh.AF (xs:(Int)×(Int)):Option (((Int))×(Unit)):=
 let yN:=xs.1
 let by_1:=xs.2
 let v_2:Int:=Int.fdiv yN (2 ^ Min.min (Int.toNat by_1) (Go.IntKind.bits Go.IntKind.u32))
 let w8:=IntKind.wrap .i64 (32-by_1)
 let zO:Int:=nj Go.BinOp.or Go.IntKind.u32 v_2 (IntKind.wrap .u32 (yN*2 ^ Min.min (Int.toNat w8) (Go.IntKind.bits Go.IntKind.u32)))
 bif iy [decide (0≤w8),decide (0≤by_1)] then
  some (zO,())
 else none
def Wh.Bd:=bx Wh.AF
theorem Wh.q116_v:OV Wh.AF Wh.Bd:=e_ _
abbrev Wh.Up:Type:=((Int)×(Unit)×(List (Int)))×((List (Int)))
abbrev Wh.agJ:Type:=((((Unit))×((List (Int)))))
def Wh.JW (x:Wh.Up):Option (Wh.Up⊕Wh.agJ):=
 let Ke:=x.1.1
 let v_572:=x.1.2.2
 let RC:=x.2
 bif decide (Ke<8) then
  let OQ:=List.getD v_572 (Int.toNat Ke) 0
  bif iy [decide (0≤Ke),decide (Ke<(↑(nat_lit 8):Int))] then
   let pb_576:List Int:=[IntKind.wrap .u8 (Int.fdiv OQ (2 ^ Min.min (Int.toNat 24) (Go.IntKind.bits Go.IntKind.u32))),IntKind.wrap .u8 (Int.fdiv OQ (2 ^ Min.min (Int.toNat 16) (Go.IntKind.bits Go.IntKind.u32))),IntKind.wrap .u8 (Int.fdiv OQ (2 ^ Min.min (Int.toNat 8) (Go.IntKind.bits Go.IntKind.u32))),IntKind.wrap .u8 OQ]
   let ls_577:=RC++pb_576
   bif iy [decide (List.length RC+(4:Nat)≤dh),true,true,true] then
    some (.inl (((IntKind.wrap .i64 (Ke+1)),(),v_572),ls_577))
   else none
  else none
 else
  some (.inr ((),RC))
def Wh.aav:(((Unit))×((List (Int)))):=default
abbrev Wh.Uo:Type:=((Int)×(Unit)×(Unit)×(Nat×Nat))×((List (Int))×(List (Int))×(List (Int)))
abbrev Wh.agI:Type:=((((Unit)×(Nat×Nat))×((List (Int))×(List (Int)))))
def Wh.JV (x:Wh.Uo):Option (Wh.Uo⊕Wh.agI):=
 let Ch:=x.1.1
 let b_510:=x.1.2.2.2.1
 let b_511:=x.1.2.2.2.2
 let RA:=x.2.1
 let Xw:=x.2.2.1
 let Xx:=x.2.2.2
 bif decide (Ch<8) then
  let ls_516:=List.set RA (Int.toNat Ch) (IntKind.wrap .u32 (List.getD RA (Int.toNat Ch) 0+List.getD Xw (Int.toNat Ch) 0))
  bif iy [decide (0≤Ch),decide (Ch<(↑(8:Nat):Int)),decide (0≤Ch),decide (Ch<(↑(8:Nat):Int)),decide (0≤Ch),decide (Ch<(↑(8:Nat):Int))] then
   some (.inl (((IntKind.wrap .i64 (Ch+1)),(),(),b_510,b_511),ls_516,Xw,Xx))
  else none
 else
  some (.inr (((),b_510,b_511),RA,Xx))
def Wh.aau:(((Unit)×(Nat×Nat))×((List (Int))×(List (Int)))):=default
abbrev Wh.Un:Type:=((Int)×(Unit)×(Unit)×(Unit)×(Nat×Nat))×((List (Int))×(List (Int))×(List (Int))×(List (Int)))
abbrev Wh.agH:Type:=((((Unit)×(Unit)×(Nat×Nat))×((List (Int))×(List (Int))×(List (Int)))))
def Wh.G2 (x:Wh.Un):Option (Wh.Un⊕Wh.agH):=
 let FA:=x.1.1
 let b_447:=(x.1.2.2.2.2).1
 let b_448:=(x.1.2.2.2.2).2
 let Df:=x.2.1
 let Xt:=x.2.2.1
 let Xu:=(x.2.2.2).1
 let Xv:=x.2.2.2.2
 bif decide (FA<64) then
  let Eg:=List.getD Df (Int.toNat 4) 0
  let Eh:=List.getD Df (Int.toNat 0) 0
  let v_456:=List.getD Df (Int.toNat 7) 0
  let r_457:=Wh.Bd (Eg,6)
  let r_458:=Wh.Bd (Eg,11)
  let r_460:=Wh.Bd (Eg,25)
  let v_463:=List.getD Df (Int.toNat 5) 0
  let v_464:=List.getD Df (Int.toNat 6) 0
  let v_468:=List.getD Wh.BR (Int.toNat FA) 0
  let v_470:=List.getD Xt (Int.toNat FA) 0
  let YD:=IntKind.wrap .u32 (IntKind.wrap .u32 (IntKind.wrap .u32 (IntKind.wrap .u32 (v_456+nj Go.BinOp.xor Go.IntKind.u32 (nj Go.BinOp.xor Go.IntKind.u32 r_457.1 r_458.1) r_460.1)+nj Go.BinOp.xor Go.IntKind.u32 (nj Go.BinOp.and Go.IntKind.u32 Eg v_463) (nj Go.BinOp.and Go.IntKind.u32 (nj Go.BinOp.xor Go.IntKind.u32 (Go.IntKind.max Go.IntKind.u32) Eg) v_464))+v_468)+v_470)
  bif iy [decide (0≤FA),decide (FA<(↑(64:Nat):Int)),decide (0≤FA),decide (FA<(↑(64:Nat):Int)),true,true,true,true,nQ (Wh.AF (Eg,25)),nQ (Wh.AF (Eg,11)),nQ (Wh.AF (Eg,6)),true,true] then
   let r_473:=Wh.Bd (Eh,2)
   let r_474:=Wh.Bd (Eh,13)
   let r_476:=Wh.Bd (Eh,22)
   let Vk:=List.getD Df (Int.toNat 1) 0
   let Vl:=List.getD Df (Int.toNat 2) 0
   bif iy [true,true,true,true,true,true,true,true,nQ (Wh.AF (Eh,22)),nQ (Wh.AF (Eh,13)),nQ (Wh.AF (Eh,2))] then
    let ls_484:List Int:=[IntKind.wrap .u32 (YD+(IntKind.wrap .u32 (nj Go.BinOp.xor Go.IntKind.u32 (nj Go.BinOp.xor Go.IntKind.u32 r_473.1 r_474.1) r_476.1+nj Go.BinOp.xor Go.IntKind.u32 (nj Go.BinOp.xor Go.IntKind.u32 (nj Go.BinOp.and Go.IntKind.u32 Eh Vk) (nj Go.BinOp.and Go.IntKind.u32 Eh Vl)) (nj Go.BinOp.and Go.IntKind.u32 Vk Vl)))),Eh,Vk,Vl,IntKind.wrap .u32 (List.getD Df (Int.toNat 3) 0+YD),Eg,v_463,v_464]
    some (.inl (((IntKind.wrap .i64 (FA+1)),(),(),(),b_447,b_448),ls_484,Xt,Xu,Xv))
   else none
  else none
 else
  some (.inr (((),(),b_447,b_448),Xu,Df,Xv))
def Wh.aat:(((Unit)×(Unit)×(Nat×Nat))×((List (Int))×(List (Int))×(List (Int)))):=default
abbrev Wh.Um:Type:=((Int)×(Unit)×(Nat×Nat)×(Unit))×((List (Int))×(List (Int))×(List (Int)))
abbrev Wh.agG:Type:=((((Unit)×(Unit)×(Nat×Nat))×((List (Int))×(List (Int))×(List (Int)))))
def Wh.Fi (x:Wh.Um):Option (Wh.Um⊕Wh.agG):=
 let zq:=x.1.1
 let FM:=(x.1.2.2).1.1
 let FN:=(x.1.2.2).1.2
 let F5:=x.2.1
 let F6:=x.2.2.1
 let Rx:=x.2.2.2
 bif decide (zq<64) then
  bif decide (zq<16) then
   let ls_346:=List.set F5 (Int.toNat zq) (nj Go.BinOp.or Go.IntKind.u32 (nj Go.BinOp.or Go.IntKind.u32 (nj Go.BinOp.or Go.IntKind.u32 (IntKind.wrap .u32 (IntKind.wrap .u32 (List.getD F6 (FM+Int.toNat (IntKind.wrap .i64 (4*zq))) 0)*2 ^ Min.min (Int.toNat 24) (Go.IntKind.bits Go.IntKind.u32))) (IntKind.wrap .u32 (IntKind.wrap .u32 (List.getD F6 (FM+Int.toNat (IntKind.wrap .i64 (IntKind.wrap .i64 (4*zq)+1))) 0)*2 ^ Min.min (Int.toNat 16) (Go.IntKind.bits Go.IntKind.u32)))) (IntKind.wrap .u32 (IntKind.wrap .u32 (List.getD F6 (FM+Int.toNat (IntKind.wrap .i64 (IntKind.wrap .i64 (4*zq)+2))) 0)*2 ^ Min.min (Int.toNat 8) (Go.IntKind.bits Go.IntKind.u32)))) (IntKind.wrap .u32 (List.getD F6 (FM+Int.toNat (IntKind.wrap .i64 (IntKind.wrap .i64 (4*zq)+3))) 0)))
   let Fy:=IntKind.wrap .i64 (4*zq)
   bif iy [decide (0≤zq),decide (zq<(↑(64:Nat):Int)),decide (0≤IntKind.wrap .i64 (Fy+3)),decide (IntKind.wrap .i64 (Fy+3)<(↑FN:Int)),true,decide (0≤IntKind.wrap .i64 (Fy+2)),decide (IntKind.wrap .i64 (Fy+2)<(↑FN:Int)),true,decide (0≤IntKind.wrap .i64 (Fy+1)),decide (IntKind.wrap .i64 (Fy+1)<(↑FN:Int)),true,decide (0≤Fy),decide (Fy<(↑FN:Int))] then
    some (.inl (((IntKind.wrap .i64 (zq+1)),(),(FM,FN),()),ls_346,F6,Rx))
   else none
  else
   let Vi:=IntKind.wrap .i64 (zq-15)
   let Vj:=IntKind.wrap .i64 (zq-2)
   let Kl:=List.getD F5 (Int.toNat Vi) 0
   let Kx:=List.getD F5 (Int.toNat Vj) 0
   bif iy [decide (0≤Vj),decide (Vj<(↑(64:Nat):Int)),decide (0≤Vi),decide (Vi<(↑(64:Nat):Int))] then
    let r_376:=Wh.Bd (Kl,7)
    let r_377:=Wh.Bd (Kl,18)
    let r_378:=Wh.Bd (Kx,17)
    let r_379:=Wh.Bd (Kx,19)
    let ls_380:=List.set F5 (Int.toNat zq) (IntKind.wrap .u32 (IntKind.wrap .u32 (IntKind.wrap .u32 (List.getD F5 (Int.toNat (IntKind.wrap .i64 (zq-16))) 0+List.getD F5 (Int.toNat (IntKind.wrap .i64 (zq-7))) 0)+nj Go.BinOp.xor Go.IntKind.u32 (nj Go.BinOp.xor Go.IntKind.u32 r_376.1 r_377.1) (Int.fdiv Kl (2 ^ Min.min (Int.toNat 3) (Go.IntKind.bits Go.IntKind.u32))))+nj Go.BinOp.xor Go.IntKind.u32 (nj Go.BinOp.xor Go.IntKind.u32 r_378.1 r_379.1) (Int.fdiv Kx (2 ^ Min.min (Int.toNat 10) (Go.IntKind.bits Go.IntKind.u32)))))
    let v_381:=IntKind.wrap .i64 (zq-16)
    let v_383:=IntKind.wrap .i64 (zq-7)
    bif iy [decide (0≤zq),decide (zq<(↑(64:Nat):Int)),true,nQ (Wh.AF (Kx,19)),nQ (Wh.AF (Kx,17)),true,nQ (Wh.AF (Kl,18)),nQ (Wh.AF (Kl,7)),decide (0≤v_383),decide (v_383<(↑(64:Nat):Int)),decide (0≤v_381),decide (v_381<(↑(64:Nat):Int))] then
     some (.inl (((IntKind.wrap .i64 (zq+1)),(),(FM,FN),()),ls_380,F6,Rx))
    else none
   else none
 else
  some (.inr (((),(),FM,FN),F5,Rx,F6))
def Wh.aas:(((Unit)×(Unit)×(Nat×Nat))×((List (Int))×(List (Int))×(List (Int)))):=default
abbrev Wh.Ul:Type:=((Nat×Nat)×(Unit))×((List (Int))×(List (Int)))
abbrev Wh.agF:Type:=((((Unit))×((List (Int)))))
def Wh.Fh (x:Wh.Ul):Option (Wh.Ul⊕Wh.agF):=
 let b_529:=x.1.1.1
 let b_530:=x.1.1.2
 let ls_531:=x.2.1
 let Xy:=x.2.2
 bif decide ((↑b_530:Int)>0) then
  let pb_534:List Int:=[(0:Int),0,0,0,0,0,0,0,0,0,0,0,0,0,0,0,0,0,0,0,0,0,0,0,0,0,0,0,0,0,0,0,0,0,0,0,0,0,0,0,0,0,0,0,0,0,0,0,0,0,0,0,0,0,0,0,0,0,0,0,0,0,0,0]
  let x_535:Wh.Um:=((0,(),(b_529,b_530),()),pb_534,ls_531,Xy)
  bif lF Wh.Fi x_535 then
   let Ky:=kG Wh.Fi Wh.aas x_535
   let b_537:=(Ky.1.2.2).1
   let b_538:=Ky.1.2.2.2
   let ls_539:=Ky.2.1
   let Xz:=Ky.2.2.1
   let ls_541:=Ky.2.2.2
   let x_542:Wh.Un:=((0,(),(),(),b_537,b_538),Xz,ls_539,Xz,ls_541)
   bif lF Wh.G2 x_542 then
    let Kz:=kG Wh.G2 Wh.aat x_542
    let b_544:=(Kz.1.2.2).1
    let b_545:=Kz.1.2.2.2
    let ls_546:=Kz.2.1
    let ls_547:=Kz.2.2.1
    let ls_548:=Kz.2.2.2
    let x_549:Wh.Uo:=((0,(),(),b_544,b_545),ls_546,ls_547,ls_548)
    bif lF Wh.JV x_549 then
     let OT:=kG Wh.JV Wh.aau x_549
     let b_551:=OT.1.2.1
     let QZ:=OT.1.2.2
     let ls_553:=OT.2.1
     let XA:=OT.2.2
     let v_555:Nat:=Int.toNat ((↑QZ:Int)-64)
     let v_556:Nat:=b_551+Int.toNat 64
     bif iy [true,decide (64≤(↑QZ:Int)),decide ((↑b_551:Int)+(↑QZ:Int)≤(↑(List.length XA):Int))] then
      some (.inl (((v_556,v_555),()),XA,ls_553))
     else none
    else none
   else none
  else none
 else
  some (.inr ((),Xy))
def Wh.aar:(((Unit))×((List (Int)))):=default
abbrev Wh.Uk:Type:=((Int)×(Int)×(Unit)×(Unit))×((List (Int))×(List (Int)))
abbrev Wh.agE:Type:=((((Unit)×(Unit))×((List (Int))×(List (Int)))))
def Wh.G1 (x:Wh.Uk):Option (Wh.Uk⊕Wh.agE):=
 let M9:=x.1.1
 let Yv:=x.1.2.1
 let z7:=x.2.1
 let ye:=x.2.2
 bif decide (M9≥0) then
  let NK:List Int:=[IntKind.wrap .u8 (Int.fdiv Yv (2 ^ Min.min (Int.toNat M9) (Go.IntKind.bits Go.IntKind.u64)))]
  let Nw:=z7++NK
  bif iy [decide (List.length z7+(1:Nat)≤dh),decide (0≤M9)] then
   some (.inl (((IntKind.wrap .i64 (M9-8)),Yv,(),()),Nw,ye))
  else none
 else
  some (.inr (((),()),z7,ye))
def Wh.aaq:(((Unit)×(Unit))×((List (Int))×(List (Int)))):=default
abbrev Wh.Uj:Type:=((Unit)×(Unit)×(List UInt8))×((List (Int))×(List (Int)))
abbrev Wh.agD:Type:=((((Unit)×(Unit)×(List UInt8))×((List (Int))×(List (Int)))))
def Wh.Fg (x:Wh.Uj):Option (Wh.Uj⊕Wh.agD):=
 let Ee:=x.1.2.2
 let Ny:=x.2.1
 let Ey:=x.2.2
 let yp:Bool:=(Int.tmod (↑(List.length Ny):Int) 64) != 56
 bif yp then
  let Ez:=Ny ++ [(0:Int)]
  bif iy [decide (List.length Ny+(1:Nat)≤dh)] then
   some (.inl (((),(),Ee),Ez,Ey))
  else none
 else
  some (.inr (((),(),Ee),Ny,Ey))
def Wh.aap:(((Unit)×(Unit)×(List UInt8))×((List (Int))×(List (Int)))):=default
def Wh.q52 (xs:(List UInt8)):Option (((List UInt8))×(Unit)):=
 let y7:=xs
 let y4:List Int:=bytesOf y7 ++ [(128:Int)]
 bif iy [decide (List.length (bytesOf y7)+(1:Nat)≤dh),decide (List.length y7≤dh)] then
  let x_14:Wh.Uj:=(((),(),y7),y4,[(1779033703:Int),3144134277,1013904242,2773480762,1359893119,2600822924,528734635,1541459225])
  bif lF Wh.Fg x_14 then
   let y_15:=kG Wh.Fg Wh.aap x_14
   let ajy:=y_15.1.2.2
   let xb:=y_15.2.1
   let w9:=y_15.2.2
   let x_40:Wh.Uk:=((56,(IntKind.wrap .u64 ((IntKind.wrap .u64 (↑(List.length ajy):Int))*8)),(),()),xb,w9)
   bif lF Wh.G1 x_40 then
    let y_41:=kG Wh.G1 Wh.aaq x_40
    let HT:=y_41.2.1
    let HU:=y_41.2.2
    let x_557:Wh.Ul:=((((0:Nat),List.length HT),()),HT,HU)
    bif lF Wh.Fh x_557 then
     let y_558:=kG Wh.Fh Wh.aar x_557
     let ls_559:=y_558.2
     let x_582:Wh.Up:=((0,(),ls_559),[])
     bif lF Wh.JW x_582 then
      let y_583:=kG Wh.JW Wh.aav x_582
      let ls_584:=y_583.2
      some (qp ls_584,())
     else none
    else none
   else none
  else none
 else none
def Wh.q52':=bx Wh.q52
theorem Wh.q52_v:OV Wh.q52 Wh.q52':=e_ _
abbrev Wh.Td:Type:=((Int)×(List UInt8)×(Unit))×((List (Int)))
abbrev Wh.af2:Type:=((((Unit))×((List (Int)))))
def Wh.N0 (x:Wh.Td):Option (Wh.Td⊕Wh.af2):=
 let F2:=x.1.1
 let Ce:=x.1.2.1
 let yL:=x.2
 let tn:=decide (F2<(↑(List.length Ce):Int))
 bif tn then
  let Ga:List Int:=[(↑(UInt8.toNat (List.getD [(48:UInt8),(49:UInt8),(50:UInt8),(51:UInt8),(52:UInt8),(53:UInt8),(54:UInt8),(55:UInt8),(56:UInt8),(57:UInt8),(97:UInt8),(98:UInt8),(99:UInt8),(100:UInt8),(101:UInt8),(102:UInt8)] (Int.toNat (IntKind.wrap .u8 (Int.tdiv (↑(UInt8.toNat (List.getD Ce (Int.toNat F2) (0:UInt8))):Int) 16))) (0:UInt8))):Int),(↑(UInt8.toNat (List.getD [(48:UInt8),(49:UInt8),(50:UInt8),(51:UInt8),(52:UInt8),(53:UInt8),(54:UInt8),(55:UInt8),(56:UInt8),(57:UInt8),(97:UInt8),(98:UInt8),(99:UInt8),(100:UInt8),(101:UInt8),(102:UInt8)] (Int.toNat (Int.tmod (↑(UInt8.toNat (List.getD Ce (Int.toNat F2) (0:UInt8))):Int) 16)) (0:UInt8))):Int)]
  let w9:=yL++Ga
  let nG:Int:=(↑(UInt8.toNat (List.getD Ce (Int.toNat F2) (0:UInt8))):Int)
  bif iy [decide (List.length yL+(2:Nat)≤dh),decide (0≤Int.tmod nG 16),decide (Int.tmod nG 16<(↑(16:Nat):Int)),true,decide (0≤F2),tn,decide (0≤IntKind.wrap .u8 (Int.tdiv nG 16)),decide (IntKind.wrap .u8 (Int.tdiv nG 16)<(↑(16:Nat):Int)),true,decide (0≤F2),tn] then
   some (.inl (((IntKind.wrap .i64 (F2+1)),Ce,()),w9))
  else none
 else
  some (.inr ((),yL))
def Wh.ZC:(((Unit))×((List (Int)))):=default
def Wh.H9 (xs:(List UInt8)):Option (((List UInt8))×(Unit)):=
 let fN:=xs
 let x_25:Wh.Td:=((0,fN,()),[])
 bif lF Wh.N0 x_25 then
  let yW:=kG Wh.N0 Wh.ZC x_25
  let y3:=yW.2
  some (qp y3,())
 else none
def Wh.Tc:=bx Wh.H9
theorem Wh.ZD:OV Wh.H9 Wh.Tc:=e_ _
def Wh.q82 (xs:(List UInt8)):Option (((List UInt8))×(Unit)):=
 let y7:=xs
 let r_1:=Wh.q52' y7
 let r_3:=Wh.Tc r_1.1
 bif iy [nQ (Wh.H9 r_1.1),nQ (Wh.q52 y7)] then
  some (r_3.1,())
 else none
def Wh.Fp:=bx Wh.q82
theorem Wh.q82_v:OV Wh.q82 Wh.Fp:=e_ _
def Wh.q88 (xs:(Int)×(List UInt8)):Option (((List UInt8))×(Unit)):=
 let yQ:=xs.1
 let zD:=xs.2
 let r_2:=Wh.tJ yQ
 let nC:=Wh.tJ (↑(List.length zD):Int)
 let Az:=r_2.1 ++ [(32:UInt8)]++nC.1 ++ [(32:UInt8)]
 bif iy [decide (List.length (r_2.1 ++ [(32:UInt8)]++nC.1)+(1:Nat)≤dh),decide (List.length (r_2.1 ++ [(32:UInt8)])+List.length nC.1≤dh),nQ (Wh.strconv_Itoa (↑(List.length zD):Int)),decide (List.length r_2.1+(1:Nat)≤dh),nQ (Wh.strconv_Itoa yQ)] then
  let Ah:List UInt8:=Az++zD
  let yS:=Wh.Fp Ah
  let vT:List UInt8:=Az++List.take (Int.toNat ((16:Int)-0)) (List.drop (Int.toNat 0) yS.1) ++ [(32:UInt8)]++zD ++ [(10:UInt8)]
  bif iy [decide (List.length (Az++List.take (Int.toNat ((16:Int)-0)) (List.drop (Int.toNat 0) ((Wh.Fp Ah).1)) ++ [(32:UInt8)]++zD)+(1:Nat)≤dh),decide (List.length (Az++List.take (Int.toNat ((16:Int)-0)) (List.drop (Int.toNat 0) ((Wh.Fp Ah).1)) ++ [(32:UInt8)])+List.length zD≤dh),decide (List.length (Az++List.take (Int.toNat ((16:Int)-0)) (List.drop (Int.toNat 0) ((Wh.Fp Ah).1)))+(1:Nat)≤dh),decide (List.length Az+List.length (List.take (Int.toNat ((16:Int)-0)) (List.drop (Int.toNat 0) ((Wh.Fp Ah).1)))≤dh),true,true,decide (16≤(↑(List.length ((Wh.Fp Ah).1)):Int)),nQ (Wh.q82 Ah),decide (List.length Az+List.length zD≤dh)] then
   some (vT,())
  else none
 else none
def Wh.q88':=bx Wh.q88
theorem Wh.US:OV Wh.q88 Wh.q88':=e_ _
def Wh.q5 (xs:(List UInt8)×(List UInt8)):Option (((Bool))×(Unit)):=
 let fN:=xs.1
 let EE:=xs.2
 let v_2:=decide ((↑(List.length fN):Int)≥(↑(List.length EE):Int))
 let xZ:=bif v_2 then List.take (Int.toNat ((↑(List.length EE):Int)-0)) (List.drop (Int.toNat 0) fN)==EE else false
 bif iy [!v_2 || decide ((0:Int)≤0),!v_2 || decide (0≤(↑(List.length EE):Int)),!v_2 || decide ((↑(List.length EE):Int)≤(↑(List.length fN):Int))] then
  some (xZ,())
 else none
def Wh.q5':=bx Wh.q5
theorem Wh.q5_v:OV Wh.q5 Wh.q5':=e_ _
def Wh.q13 (xs:(List UInt8)×(List UInt8)):Option (((Bool))×(Unit)):=
 let fN:=xs.1
 let EE:=xs.2
 let r_2:=Wh.q5' (fN,EE)
 bif iy [nQ (Wh.q5 (fN,EE))] then
  some (r_2.1,())
 else none
def Wh.q13':=bx Wh.q13
theorem Wh.S3:OV Wh.q13 Wh.q13':=e_ _
abbrev Wh.UI:Type:=((Int)×(Unit)×(List UInt8))×((List (List UInt8)))
abbrev Wh.agX:Type:=((((Unit)×(Int))×((List (List UInt8)))))
def Wh.CS (x:Wh.UI):Option (Wh.UI⊕Wh.agX):=
 let BP:=x.1.1
 let Bz:=x.1.2.2
 let AV:=x.2
 let BN:List UInt8:=List.take (Int.toNat ((↑(List.length Bz):Int)-BP)) (List.drop (Int.toNat BP) Bz)
 let Ov:=Wh.tK (BN,[(32:UInt8)])
 bif iy [nQ (Wh.strings_Cut (BN,[(32:UInt8)])),decide (0≤BP),decide (BP≤(↑(List.length Bz):Int)),decide ((↑(List.length Bz):Int)≤(↑(List.length Bz):Int))] then
  let r_66:=Wh.tK (Ov.1.2.1,[(32:UInt8)])
  bif iy [nQ (Wh.strings_Cut (Ov.1.2.1,[(32:UInt8)]))] then
   let Hg:=Wh.rW r_66.1.1
   bif iy [nQ (Wh.rV r_66.1.1)] then
    let Ik:Int:=(↑(List.length AV):Int)
    let v_74:Int:=(↑(List.length r_66.1.1):Int)
    let r_79:=Wh.tJ Ik
    let WO:=IntKind.wrap .i64 (IntKind.wrap .i64 (IntKind.wrap .i64 ((↑(List.length r_79.1):Int)+1)+v_74)+18)
    bif iy [nQ (Wh.strconv_Itoa Ik)] then
     let v_81:= !Hg.1.2
     let r_82:=Wh.n_ (Hg.1.1,1,500)
     let v_85:=bif bif v_81 then true else !r_82.1 then true else decide (IntKind.wrap .i64 ((↑(List.length Bz):Int)-BP)<IntKind.wrap .i64 (IntKind.wrap .i64 (WO+Hg.1.1)+1))
     bif iy [!!v_81 || nQ (Wh.xR (Hg.1.1,1,500))] then
      bif v_85 then
       some (.inr (((),BP),AV))
      else
       let Hs:=IntKind.wrap .i64 (BP+WO)
       let U3:List UInt8:=List.take (Int.toNat (IntKind.wrap .i64 (Hs+Hg.1.1)-Hs)) (List.drop (Int.toNat Hs) Bz)
       bif iy [decide (0≤Hs),decide (Hs≤IntKind.wrap .i64 (Hs+Hg.1.1)),decide (IntKind.wrap .i64 (Hs+Hg.1.1)≤(↑(List.length Bz):Int))] then
        let r_91:=Wh.q88' (Ik,U3)
        bif iy [nQ (Wh.q88 (Ik,U3))] then
         let r_93:=Wh.q13' (BN,r_91.1)
         bif iy [nQ (Wh.q13 (BN,r_91.1)),decide (0≤BP),decide (BP≤(↑(List.length Bz):Int)),decide ((↑(List.length Bz):Int)≤(↑(List.length Bz):Int))] then
          bif !r_93.1 then
           some (.inr (((),BP),AV))
          else
           let pb_94:List (List UInt8):=[U3]
           let ls_95:List (List UInt8):=AV++pb_94
           bif iy [decide (List.length AV+(1:Nat)≤dh)] then
            let CY:Int:=(↑(List.length r_91.1):Int)
            some (.inl (((IntKind.wrap .i64 (BP+CY)),(),Bz),ls_95))
           else none
         else none
        else none
       else none
     else none
    else none
   else none
  else none
 else none
def Wh.aaJ:(((Unit)×(Int))×((List (List UInt8)))):=default
def Wh.CR (xs:(List UInt8)):Option (((List (List UInt8))×(Int))×(Unit)):=
 let zb:=xs
 let x_99:Wh.UI:=((0,(),zb),[])
 bif lF Wh.CS x_99 then
  let y_100:=kG Wh.CS Wh.aaJ x_99
  let v_101:=y_100.1.2
  let ls_102:=y_100.2
  some ((ls_102,v_101),())
 else none
def Wh.Ol:=bx Wh.CR
theorem Wh.UJ:OV Wh.CR Wh.Ol:=e_ _
def Wh.Bf (xs:(Int)):Option (((Bool))×(Unit)):=
 let yQ:=xs
 let r_1:=Wh.n_ (yQ,0,1)
 bif iy [nQ (Wh.xR (yQ,0,1))] then
  some (r_1.1,())
 else none
def Wh.JG:=bx Wh.Bf
theorem Wh.N1:OV Wh.Bf Wh.JG:=e_ _
abbrev Wh.Ss:Type:=((Int)×(List UInt8)×(Int))×(Unit)
abbrev Wh.afK:Type:=((((Bool))×(Unit))⊕(((List UInt8))×(Unit)))
def Wh.AZ (x:Wh.Ss):Option (Wh.Ss⊕Wh.afK):=
 let zi:=x.1.1
 let J_:=x.1.2.1
 let yp:=x.1.2.2
 bif decide (zi<yp) then
  let r_:Int:=(↑(UInt8.toNat (List.getD J_ (Int.toNat zi) (0:UInt8))):Int)
  let xS:=bif decide (r_<97) then true else decide (r_>122)
  bif iy [!!decide (r_<97) || decide (0≤zi),!!decide (r_<97) || decide (zi<(↑(List.length J_):Int)),decide (0≤zi),decide (zi<(↑(List.length J_):Int))] then
   bif xS then
    some (.inr (.inl (false,())))
   else
    some (.inl (((IntKind.wrap .i64 (zi+1)),J_,yp),()))
  else none
 else
  some (.inr (.inr (J_,())))
def Wh.Y8:(((Bool))×(Unit))⊕(((List UInt8))×(Unit)):=.inl default
def Wh.BD (xs:(List UInt8)):Option (((Bool))×(Unit)):=
 let y7:=xs
 let x_19:Wh.Ss:=((0,y7,(↑(List.length y7):Int)),())
 bif lF Wh.AZ x_19 then
  sumC (kG Wh.AZ Wh.Y8 x_19) (fun Kw=>
   let y9:=Kw.1
   some (y9,())) (fun z_21=>
   let abl:=z_21.1
   let r_24:=Wh.n_ ((↑(List.length abl):Int),1,6)
   bif iy [nQ (Wh.xR ((↑(List.length abl):Int),1,6))] then
    some (r_24.1,())
   else none)
 else none
def Wh.Jx:=bx Wh.BD
theorem Wh.NP:OV Wh.BD Wh.Jx:=e_ _
def Wh.q22 (xs:(Int)×(List UInt8)×(List UInt8)):Option (((List UInt8))×(Unit)):=
 let FY:=xs.1
 let zf:=xs.2.1
 let A4:=xs.2.2
 let r_3:=Wh.JG FY
 let nC:=Wh.Jx zf
 let w7:=bif bif !r_3.1 then true else !nC.1 then true else decide ((↑(List.length A4):Int)>300)
 bif iy [!!!r_3.1 || nQ (Wh.BD zf),nQ (Wh.Bf FY)] then
  bif w7 then
   some ([],())
  else
   let yM:=Wh.tJ FY
   let BM:=yM.1 ++ [(32:UInt8)]++zf ++ [(58:UInt8)]++A4
   bif iy [decide (List.length (yM.1 ++ [(32:UInt8)]++zf ++ [(58:UInt8)])+List.length A4≤dh),decide (List.length (yM.1 ++ [(32:UInt8)]++zf)+(1:Nat)≤dh),decide (List.length (yM.1 ++ [(32:UInt8)])+List.length zf≤dh),decide (List.length yM.1+(1:Nat)≤dh),nQ (Wh.strconv_Itoa FY)] then
    some (BM,())
   else none
 else none
def Wh.q22':=bx Wh.q22
theorem Wh.TU:OV Wh.q22 Wh.q22':=e_ _
def Wh.DY (xs:(fk.D)):Option ((((Int)×((List (an.D))×(Unit))))×(Unit)):=
 let fe:fk.D:=xs
 let y4:List (an.D):=[]++fe.2.1
 bif iy [decide ((0:Nat)+List.length fe.2.1≤dh)] then
  some ((fe.1,y4,()),())
 else none
def Wh.JU:=bx Wh.DY
theorem Wh.G0:OV Wh.DY Wh.JU:=e_ _
def Wh.q18 (xs:(an.D)×(Int)×(List UInt8)):Option (((Bool))×(Unit)):=
 let i_0:=xs.1
 let v_1:=xs.2.1
 let v_2:=xs.2.2
 let yw:=bif(i_0.1==v_1) then i_0.2.1==v_2 else false
 some (yw,())
def Wh.q18':=bx Wh.q18
theorem Wh.TR:OV Wh.q18 Wh.q18':=e_ _
abbrev Wh.Ua:Type:=((Int)×(List (an.D))×((Int)×((List UInt8)×(Unit)))×(Int))×(Unit)
abbrev Wh.q3_l0Y:Type:=((((Int))×(Unit))⊕((Unit)×(Unit)))
def Wh.DU (x:Wh.Ua):Option (Wh.Ua⊕Wh.q3_l0Y):=
 let yp:=x.1.1
 let s_13:=x.1.2.1
 let f_14:=(x.1.2.2).1.1
 let f_15:=(x.1.2.2).1.2.1
 let tn:=x.1.2.2.2
 bif decide (yp<tn) then
  let so:an.D:=List.getD s_13 (Int.toNat yp) (0,[],0,[],())
  let G_:=Wh.q18' (so,f_14,f_15)
  bif iy [nQ (Wh.q18 (so,f_14,f_15)),decide (0≤yp),decide (yp<(↑(List.length s_13):Int))] then
   bif G_.1 then
    some (.inr (.inl (yp,())))
   else
    some (.inl (((IntKind.wrap .i64 (yp+1)),s_13,(f_14,f_15,()),tn),()))
  else none
 else
  some (.inr (.inr ((),())))
def Wh.aah:(((Int))×(Unit))⊕((Unit)×(Unit)):=.inl default
def Wh.q3 (xs:(List (an.D))×((Int)×((List UInt8)×(Unit)))):Option (((Int))×(Unit)):=
 let fN:=xs.1
 let f_1:=xs.2
 let v_2:Int:=(↑(List.length fN):Int)
 let x_21:Wh.Ua:=((0,fN,(f_1.1,f_1.2.1,()),v_2),())
 bif lF Wh.DU x_21 then
  sumC (kG Wh.DU Wh.aah x_21) (fun AI=>
   let yC:=AI.1
   some (yC,())) (fun _=>
   some (-1,()))
 else none
def Wh.q3':=bx Wh.q3
theorem Wh.q3_v:OV Wh.q3 Wh.q3':=e_ _
def Wh.B8 (xs:(fk.D)×(Int)×(List UInt8)):Option (((Int))×(Unit)):=
 let fe:=xs.1
 let xX:=xs.2.1
 let yR:=xs.2.2
 let r_3:=Wh.q3' (fe.2.1,xX,yR,())
 bif iy [nQ (Wh.q3 (fe.2.1,xX,yR,()))] then
  some (r_3.1,())
 else none
def Wh.Oh:=bx Wh.B8
theorem Wh.JR:OV Wh.B8 Wh.Oh:=e_ _
def Wh.q10 (xs:(List (an.D))×(Int)×(Int)):Option (((List (an.D)))×(Unit)):=
 let fN:=xs.1
 let i_1:=xs.2.1
 let A9:=xs.2.2
 let w8:Int:=(↑(List.length fN):Int)
 bif iy [decide (0≤i_1),decide (i_1≤A9),decide (A9≤w8),decide (w8≤w8)] then
  let xZ:=i_1==A9
  bif xZ then
   some (fN,())
  else
   let pb_5:List (an.D):=List.take (Int.toNat 0+Int.toNat (i_1-0)) fN++(List.take (Int.toNat (w8-A9)) (List.drop (Int.toNat A9) fN)++List.drop (Int.toNat 0+Int.toNat (i_1-0)+List.length (List.take (Int.toNat (w8-A9)) (List.drop (Int.toNat A9) fN))) fN)
   let zO:Nat:=Int.toNat (i_1-0)
   let s_9:Nat:=zO+List.length (List.take (Int.toNat (w8-A9)) (List.drop (Int.toNat A9) fN))
   bif iy [decide (Int.toNat 0+zO+List.length (List.take (Int.toNat (w8-A9)) (List.drop (Int.toNat A9) fN))≤List.length fN),decide (0≤A9),decide (A9≤w8),decide (w8≤w8),true,decide (0≤i_1),decide (i_1≤w8)] then
    let R3:List (an.D):=List.take (Int.toNat 0+Int.toNat (↑s_9:Int)) pb_5++(@List.replicate (Int×List UInt8×Int×List UInt8×Unit) (Int.toNat (w8-(↑s_9:Int))) (0,[],0,[],())++List.drop (Int.toNat 0+Int.toNat (↑s_9:Int)+List.length (@List.replicate (Int×List UInt8×Int×List UInt8×Unit) (Int.toNat (w8-(↑s_9:Int))) (0,[],0,[],()))) pb_5)
    bif iy [decide (0≤(↑s_9:Int)),decide ((↑s_9:Int)≤w8),decide ((↑(Int.toNat 0):Int)+w8≤(↑(List.length pb_5):Int))] then
     some (List.take s_9 R3,())
    else none
   else none
 else none
def Wh.q10':=bx Wh.q10
theorem Wh.q10_v:OV Wh.q10 Wh.q10':=e_ _
def Wh.q45 (xs:(fk.D)×(Int)×(List UInt8)):Option ((((Int)×((List (an.D))×(Unit)))×(Int))×(Unit)):=
 let fe:=xs.1
 let xX:=xs.2.1
 let yR:=xs.2.2
 let r_3:=Wh.JU fe
 bif iy [nQ (Wh.DY fe)] then
  let nC:=Wh.Oh (fe,xX,yR)
  bif iy [nQ (Wh.B8 (fe,xX,yR))] then
   bif decide (nC.1<0) then
    some ((r_3.1,3),())
   else
    let yz:=Wh.q10' (r_3.1.2.1,nC.1,IntKind.wrap .i64 (nC.1+1))
    let pb_7:List (an.D):=[]++yz.1
    bif iy [decide ((0:Nat)+List.length yz.1≤dh),nQ (Wh.q10 (r_3.1.2.1,nC.1,(IntKind.wrap .i64 (nC.1+1))))] then
     some (((r_3.1.1,pb_7,r_3.1.2.2),0),())
    else none
  else none
 else none
def Wh.q45':=bx Wh.q45
theorem Wh.q45_v:OV Wh.q45 Wh.q45':=e_ _
def Wh.q16 (xs:(Int)×(List UInt8)×(List UInt8)):Option (((Bool))×(Unit)):=
 let FY:=xs.1
 let zf:=xs.2.1
 let A4:=xs.2.2
 let r_3:=Wh.JG FY
 let nC:=Wh.Jx zf
 let A3:=Wh.n_ ((↑(List.length A4):Int),1,300)
 let x_:=bif bif r_3.1 then nC.1 else false then A3.1 else false
 bif iy [(!bif r_3.1 then nC.1 else false) || nQ (Wh.xR ((↑(List.length A4):Int),1,300)),!r_3.1 || nQ (Wh.BD zf),nQ (Wh.Bf FY)] then
  some (x_,())
 else none
def Wh.N7:=bx Wh.q16
theorem Wh.JN:OV Wh.q16 Wh.N7:=e_ _
abbrev Wh.TW:Type:=((Int)×(Int)×(Int)×(List (an.D))×(Int))×(Unit)
abbrev Wh.agm:Type:=((((Int))×(Unit)))
def Wh.DQ (x:Wh.TW):Option (Wh.TW⊕Wh.agm):=
 let tn:=x.1.1
 let F9:=x.1.2.1
 let FX:=(x.1.2.2).1
 let nG:=x.1.2.2.2.1
 let n5:=x.1.2.2.2.2
 bif decide (tn<n5) then
  let pb_22:an.D:=List.getD nG (Int.toNat tn) (0,[],0,[],())
  bif iy [decide (0≤tn),decide (tn<(↑(List.length nG):Int))] then
   bif(pb_22.1==FX) then
    let yC:Int:=(↑(List.length ((pb_22.2.2.2).1)):Int)
    some (.inl (((IntKind.wrap .i64 (tn+1)),(IntKind.wrap .i64 (F9+yC)),FX,nG,n5),()))
   else
    some (.inl (((IntKind.wrap .i64 (tn+1)),F9,FX,nG,n5),()))
  else none
 else
  some (.inr (F9,()))
def Wh.Z8:(((Int))×(Unit)):=default
def Wh.q24 (xs:(fk.D)×(Int)):Option (((Int))×(Unit)):=
 let fe:=xs.1
 let xX:=xs.2
 let v_2:Int:=(↑(List.length fe.2.1):Int)
 let FB:Wh.TW:=((0,0,xX,fe.2.1,v_2),())
 bif lF Wh.DQ FB then
  let FF:=kG Wh.DQ Wh.Z8 FB
  let n_31:=FF.1
  some (n_31,())
 else none
def Wh.q24':=bx Wh.q24
theorem Wh.q24_v:OV Wh.q24 Wh.q24':=e_ _
def Wh.q42 (xs:(Int)):Option (((Bool))×(Unit)):=
 let yN:=xs
 let v_1:=yN != yN
 some (v_1,())
def Wh.Og:=bx Wh.q42
theorem Wh.q42_v:OV Wh.q42 Wh.Og:=e_ _
def Wh.q17 (xs:(Int)×(Int)):Option (((Int))×(Unit)):=
 let yN:=xs.1
 let C0:=xs.2
 let r_2:=Wh.Og yN
 bif iy [nQ (Wh.q42 yN)] then
  let r_3:=Wh.Og C0
  bif iy [nQ (Wh.q42 C0)] then
   bif r_2.1 then
    bif r_3.1 then
     some (0,())
    else
     some (-1,())
   else
    bif r_3.1 then
     some (1,())
    else
     bif decide (yN<C0) then
      some (-1,())
     else
      bif decide (yN>C0) then
       some (1,())
      else
       some (0,())
  else none
 else none
def Wh.q17':=bx Wh.q17
theorem Wh.q17_v:OV Wh.q17 Wh.q17':=e_ _
def Wh.q14 (xs:(List UInt8)):Option (((Bool))×(Unit)):=
 let yN:=xs
 some ((!yN==yN),())
def Wh.NW:=bx Wh.q14
theorem Wh.q14_v:OV Wh.q14 Wh.NW:=e_ _
def Wh.q7 (xs:(List UInt8)×(List UInt8)):Option (((Int))×(Unit)):=
 let yN:=xs.1
 let C0:=xs.2
 let r_2:=Wh.NW yN
 bif iy [nQ (Wh.q14 yN)] then
  let r_3:=Wh.NW C0
  bif iy [nQ (Wh.q14 C0)] then
   bif r_2.1 then
    bif r_3.1 then
     some (0,())
    else
     some (-1,())
   else
    bif r_3.1 then
     some (1,())
    else
     bif Go.Op.bytesLess yN C0 then
      some (-1,())
     else
      bif(!(Go.Op.bytesLess yN C0 || yN==C0)) then
       some (1,())
      else
       some (0,())
  else none
 else none
def Wh.q7':=bx Wh.q7
theorem Wh.q7_v:OV Wh.q7 Wh.q7':=e_ _
abbrev Wh.S8:Type:=((Int)×(Int)×(List (Int))×(Int))×(Unit)
abbrev Wh.afZ:Type:=((((Int))×(Unit))⊕(((Int))×(Unit)))
def Wh.EP (x:Wh.S8):Option (Wh.S8⊕Wh.afZ):=
 let x_:=x.1.1
 let Vm:=x.1.2.1
 let zo:=(x.1.2.2).1
 let yp:=x.1.2.2.2
 bif decide (x_<yp) then
  let r_:=List.getD zo (Int.toNat x_) 0
  bif iy [decide (0≤x_),decide (x_<(↑(List.length zo):Int))] then
   let xP:=r_ != Vm
   bif xP then
    some (.inr (.inl (r_,())))
   else
    some (.inl (((IntKind.wrap .i64 (x_+1)),Vm,zo,yp),()))
  else none
 else
  some (.inr (.inr (Vm,())))
def Wh.Zx:(((Int))×(Unit))⊕(((Int))×(Unit)):=.inl default
def Wh.GB (xs:(List (Int))):Option (((Int))×(Unit)):=
 let abp:=xs
 let x_17:Wh.S8:=((0,0,abp,(↑(List.length abp):Int)),())
 bif lF Wh.EP x_17 then
  sumC (kG Wh.EP Wh.Zx x_17) (fun El=>
   let n5:=El.1
   some (n5,())) (fun KA=>
   let ajZ:=KA.1
   some (ajZ,()))
 else none
def Wh.S7:=bx Wh.GB
theorem Wh.Zy:OV Wh.GB Wh.S7:=e_ _
def Wh.q26 (xs:(an.D)×(an.D)):Option (((Int))×(Unit)):=
 let bn:=xs.1
 let b_1:=xs.2
 let r_2:=Wh.q17' (bn.1,b_1.1)
 let r_3:=Wh.q7' (bn.2.1,b_1.2.1)
 let yz:=Wh.S7 [r_2.1,r_3.1]
 bif iy [nQ (Wh.GB [r_2.1,r_3.1]),nQ (Wh.q7 (bn.2.1,b_1.2.1)),nQ (Wh.q17 (bn.1,b_1.1))] then
  some (yz.1,())
 else none
def Wh.q26':=bx Wh.q26
theorem Wh.Od:OV Wh.q26 Wh.q26':=e_ _
abbrev Wh.R9:Type:=((Int)×(Unit)×(Unit)×(Int)×(Int)×(Int))×((List (an.D)))
abbrev Wh.q0_l1Y:Type:=((((Unit)×(Unit)×(Int)×(Int)×(Int))×((List (an.D)))))
def Wh.CA (x:Wh.R9):Option (Wh.R9⊕Wh.q0_l1Y):=
 let zR:=x.1.1
 let a_24:=x.1.2.2.2.1
 let b_25:=(x.1.2.2.2.2).1
 let i_26:=(x.1.2.2.2.2).2
 let AE:=x.2
 let wX:=decide (zR>a_24)
 let r_29:=Wh.q26' (List.getD AE (Int.toNat zR) (0,[],0,[],()),List.getD AE (Int.toNat (IntKind.wrap .i64 (zR-1))) (0,[],0,[],()))
 let Hq:=bif wX then decide (r_29.1<0) else false
 bif iy [!wX || nQ (Wh.q26 (List.getD AE (Int.toNat zR) (0,[],0,[],()),List.getD AE (Int.toNat (IntKind.wrap .i64 (zR-1))) (0,[],0,[],()))),!wX || decide (0≤IntKind.wrap .i64 (zR-1)),!wX || decide (IntKind.wrap .i64 (zR-1)<(↑(List.length AE):Int)),!wX || decide (0≤zR),!wX || decide (zR<(↑(List.length AE):Int))] then
  bif Hq then
   let yG:List (an.D):=List.set AE (Int.toNat zR) (List.getD AE (Int.toNat (IntKind.wrap .i64 (zR-1))) (0,[],0,[],()))
   let AY:List (an.D):=List.set yG (Int.toNat (IntKind.wrap .i64 (zR-1))) (List.getD AE (Int.toNat zR) (0,[],0,[],()))
   let yD:=IntKind.wrap .i64 (zR-1)
   bif iy [decide (0≤yD),decide (yD<(↑(List.length yG):Int)),decide (0≤zR),decide (zR<(↑(List.length AE):Int)),decide (0≤zR),decide (zR<(↑(List.length AE):Int)),decide (0≤yD),decide (yD<(↑(List.length AE):Int))] then
    some (.inl ((yD,(),(),a_24,b_25,i_26),AY))
   else none
  else
   some (.inr (((),(),a_24,b_25,i_26),AE))
 else none
def Wh.YO:(((Unit)×(Unit)×(Int)×(Int)×(Int))×((List (an.D)))):=default
abbrev Wh.R8:Type:=((Unit)×(Int)×(Unit)×(Int)×(Int))×((List (an.D)))
abbrev Wh.q0_l0Y:Type:=(((Unit)×((List (an.D)))))
def Wh.BZ (x:Wh.R8):Option (Wh.R8⊕Wh.q0_l0Y):=
 let i_43:=x.1.2.1
 let a_44:=x.1.2.2.2.1
 let b_45:=x.1.2.2.2.2
 let Cw:=x.2
 bif decide (i_43<b_45) then
  let FD:Wh.R9:=((i_43,(),(),a_44,b_45,i_43),Cw)
  bif lF Wh.CA FD then
   let FH:=kG Wh.CA Wh.YO FD
   let a_50:=(FH.1.2.2).1
   let b_51:=FH.1.2.2.2.1
   let i_52:=FH.1.2.2.2.2
   let HZ:=FH.2
   some (.inl (((),(IntKind.wrap .i64 (i_52+1)),(),a_50,b_51),HZ))
  else none
 else
  some (.inr ((),Cw))
def Wh.YN:((Unit)×((List (an.D)))):=default
def Wh.q0 (xs:(List (an.D))×(Int)×(Int)×(Unit)):Option ((Unit)×((List (an.D))×Unit)):=
 let Q8:=xs.1
 let a_1:=xs.2.1
 let b_2:=xs.2.2.1
 let Ko:Wh.R8:=(((),(IntKind.wrap .i64 (a_1+1)),(),a_1,b_2),Q8)
 bif lF Wh.BZ Ko then
  let y_56:=kG Wh.BZ Wh.YN Ko
  let pb_57:=y_56.2
  some ((),pb_57,())
 else none
def Wh.q0':=bx Wh.q0
theorem Wh.q0_v:OV Wh.q0 Wh.q0':=e_ _
abbrev Wh.TS:Type:=((Unit)×(Int)×(Int)×(Unit)×(Bool)×(Bool)×(Int))×((List (an.D)))
abbrev Wh.q1_l0Y:Type:=(((Unit)×((List (an.D)))))
def Wh.Ib (x:Wh.TS):Option (Wh.TS⊕Wh.q1_l0Y):=
 let b_15:=x.1.2.1
 let a_16:=(x.1.2.2).1
 let ajW:=(x.1.2.2.2.2).2.1
 let ad0:=(x.1.2.2.2.2).2.2
 let yV:=x.2
 bif decide ((IntKind.wrap .i64 (b_15-a_16))≤12) then
  let x6:=Wh.q0' (yV,a_16,b_15,())
  bif iy [nQ (Wh.q0 (yV,a_16,b_15,()))] then
   some (.inr ((),x6.2.1))
  else none
 else
  let yC:=ad0==0
  bif yC then
   none
  else
   bif !ajW then
    none
   else
    none
def Wh.Z6:((Unit)×((List (an.D)))):=default
def Wh.q1 (xs:(List (an.D))×(Int)×(Int)×(Int)×(Unit)):Option ((Unit)×((List (an.D))×Unit)):=
 let Q8:=xs.1
 let a_1:=xs.2.1
 let b_2:=xs.2.2.1
 let ad1:=(xs.2.2.2).1
 let x_25:Wh.TS:=(((),b_2,a_1,(),true,true,ad1),Q8)
 bif lF Wh.Ib x_25 then
  let yW:=kG Wh.Ib Wh.Z6 x_25
  let AE:=yW.2
  some ((),AE,())
 else none
def Wh.q1':=bx Wh.q1
theorem Wh.q1_v:OV Wh.q1 Wh.q1':=e_ _
def Wh.q4 (xs:(List (an.D))×(Unit)):Option ((Unit)×((List (an.D))×Unit)):=
 let yN:=xs.1
 let v_2:Int:=(↑(List.length yN):Int)
 let r_3:=Wh.qX (IntKind.wrap .u64 v_2)
 let nC:=Wh.q1' (yN,0,v_2,r_3.1,())
 bif iy [nQ (Wh.q1 (yN,0,v_2,r_3.1,())),nQ (Wh.bits_Len (IntKind.wrap .u64 v_2))] then
  some ((),nC.2.1,())
 else none
def Wh.q4':=bx Wh.q4
theorem Wh.q4_v:OV Wh.q4 Wh.q4':=e_ _
def Wh.D5 (xs:(fk.D)×(Int)×(List UInt8)×(List UInt8)):Option ((((Int)×((List (an.D))×(Unit)))×(Int))×(Unit)):=
 let fe:=xs.1
 let xX:=xs.2.1
 let yR:=xs.2.2.1
 let CW:=xs.2.2.2
 let nC:=Wh.JU fe
 bif iy [nQ (Wh.DY fe)] then
  let xQ:=Wh.N7 (xX,yR,CW)
  bif iy [nQ (Wh.q16 (xX,yR,CW))] then
   bif !xQ.1 then
    some ((nC.1,1),())
   else
    let yz:=Wh.Oh (fe,xX,yR)
    bif iy [nQ (Wh.B8 (fe,xX,yR))] then
     bif decide (yz.1≥0) then
      some ((nC.1,2),())
     else
      let x_:Int:=(↑(List.length fe.2.1):Int)
      let r_14:=Wh.q24' (fe,xX)
      let tn:=bif bif x_==8 then true else fe.1==99999 then true else decide (IntKind.wrap .i64 (r_14.1+(↑(List.length CW):Int))>500)
      bif iy [(!!bif x_==8 then true else fe.1==99999) || nQ (Wh.q24 (fe,xX))] then
       bif tn then
        some ((nC.1,4),())
       else
        let Ga:=IntKind.wrap .i64 (nC.1.1+1)
        let pb_18:List (an.D):=[(xX,yR,Ga,CW,())]
        let HY:List (an.D):=nC.1.2.1++pb_18
        bif iy [decide (List.length (nC.1.2.1)+(1:Nat)≤dh)] then
         let yS:=Wh.q4' (HY,())
         bif iy [nQ (Wh.q4 (HY,()))] then
          let Bj:=Wh.JU (Ga,yS.2.1,nC.1.2.2)
          bif iy [nQ (Wh.DY (Ga,yS.2.1,nC.1.2.2))] then
           some ((Bj.1,0),())
          else none
         else none
        else none
      else none
    else none
  else none
 else none
def Wh.q81':=bx Wh.D5
theorem Wh.q81_v:OV Wh.D5 Wh.q81':=e_ _
def Wh.q23 (xs:(fk.D)×(List UInt8)):Option ((((Int)×((List (an.D))×(Unit)))×(Bool))×(Unit)):=
 let fe:=xs.1
 let zD:=xs.2
 let r_2:=Wh.tK (zD,[(58:UInt8)])
 bif iy [nQ (Wh.strings_Cut (zD,[(58:UInt8)]))] then
  let r_3:=Wh.tK (r_2.1.1,[(32:UInt8)])
  bif iy [nQ (Wh.strings_Cut (r_2.1.1,[(32:UInt8)]))] then
   let nC:=Wh.rW r_3.1.1
   bif iy [nQ (Wh.rV r_3.1.1)] then
    let yw:=zD == []
    let yz:=Wh.q22' (nC.1.1,r_3.1.2.1,r_2.1.2.1)
    let w7:=bif yw then true else !yz.1==zD
    bif iy [!!yw || nQ (Wh.q22 (nC.1.1,r_3.1.2.1,r_2.1.2.1))] then
     bif w7 then
      some (((0,[],()),false),())
     else
      let yM:=Wh.q45' (fe,nC.1.1,r_3.1.2.1)
      bif iy [nQ (Wh.q45 (fe,nC.1.1,r_3.1.2.1))] then
       bif(!r_2.1.2.1 == []) then
        let BG:=Wh.q81' (fe,nC.1.1,r_3.1.2.1,r_2.1.2.1)
        bif iy [nQ (Wh.D5 (fe,nC.1.1,r_3.1.2.1,r_2.1.2.1))] then
         some ((BG.1.1,(BG.1.2==0)),())
        else none
       else
        some ((yM.1.1,(yM.1.2==0)),())
      else none
    else none
   else none
  else none
 else none
def Wh.q23':=bx Wh.q23
theorem Wh.TV:OV Wh.q23 Wh.q23':=e_ _
abbrev Wh.S9:Type:=((Unit)×(Int)×(Unit)×(List (List UInt8))×(Int))×(((Int)×((Unit)×(Unit)))×((Int)×((Unit)×(Unit)))×(List (an.D))×(List (an.D)))
abbrev Wh.af0:Type:=((((Unit)×(Bool))×(((Int)×((Unit)×(Unit)))×(List (an.D))))⊕(((Unit)×(Unit))×(((Int)×((Unit)×(Unit)))×((Int)×((Unit)×(Unit)))×(List (an.D))×(List (an.D)))))
def Wh.DE (x:Wh.S9):Option (Wh.S9⊕Wh.af0):=
 let tn:=x.1.2.1
 let xS:=x.1.2.2.2.1
 let so:=x.1.2.2.2.2
 let yu:=x.2.1.1
 let zc:=x.2.1.2.2
 let y2:=x.2.2.1.1
 let zI:=(x.2.2.1).2.2
 let zd:=(x.2.2.2).1
 let z6:=x.2.2.2.2
 bif decide (tn<so) then
  let xY:=List.getD xS (Int.toNat tn) []
  bif iy [decide (0≤tn),decide (tn<(↑(List.length xS):Int))] then
   let BI:=Wh.q23' ((y2,z6,zI),xY)
   bif iy [nQ (Wh.q23 ((y2,z6,zI),xY))] then
    bif(!BI.1.2) then
     some (.inr (.inl (((),false),(0,(),()),[])))
    else
     some (.inl (((),(IntKind.wrap .i64 (tn+1)),(),xS,so),(yu,(),zc),(BI.1.1.1,(),BI.1.1.2.2),zd,(BI.1.1.2).1))
   else none
  else none
 else
  some (.inr (.inr (((),()),(yu,(),zc),(y2,(),zI),zd,z6)))
def Wh.Zz:(((Unit)×(Bool))×(((Int)×((Unit)×(Unit)))×(List (an.D))))⊕(((Unit)×(Unit))×(((Int)×((Unit)×(Unit)))×((Int)×((Unit)×(Unit)))×(List (an.D))×(List (an.D)))):=.inl default
def Wh.DD (xs:(List (List UInt8))):Option ((((Int)×((List (an.D))×(Unit)))×(Bool))×(Unit)):=
 let Oz:List (List UInt8):=xs
 let v_1:Int:=(↑(List.length Oz):Int)
 let FC:Wh.S9:=(((),0,(),Oz,v_1),(0,(),()),(0,(),()),[],[])
 bif lF Wh.DE FC then
  sumC (kG Wh.DE Wh.Zz FC) (fun FG=>
   let yD:=FG.1.2
   let ye:=FG.2.1.1
   let yB:=FG.2.1.2.2
   let Ry:=FG.2.2
   some (((ye,Ry,yB),yD),())) (fun Hu=>
   let zT:=Hu.2.2.1.1
   let ls_40:=(Hu.2.2.1).2.2
   let HT:=Hu.2.2.2.2
   some (((zT,HT,ls_40),true),()))
 else none
def Wh.NZ:=bx Wh.DD
theorem Wh.S_:OV Wh.DD Wh.NZ:=e_ _
abbrev Wh.SL:Type:=((Int)×(List (an.D))×(List (an.D))×(Int))×(Unit)
abbrev Wh.afQ:Type:=((((Bool))×(Unit))⊕((Unit)×(Unit)))
def Wh.Dy (x:Wh.SL):Option (Wh.SL⊕Wh.afQ):=
 let r_:=x.1.1
 let U9:=x.1.2.1
 let U8:=(x.1.2.2).1
 let xS:=x.1.2.2.2
 bif decide (r_<xS) then
  let nG:an.D:=List.getD U8 (Int.toNat r_) (0,[],0,[],())
  let n5:an.D:=List.getD U9 (Int.toNat r_) (0,[],0,[],())
  bif iy [decide (0≤r_),decide (r_<(↑(List.length U9):Int)),decide (0≤r_),decide (r_<(↑(List.length U8):Int))] then
   bif(!(nG.1==n5.1&&(nG.2.1==n5.2.1&&(nG.2.2.1==n5.2.2.1&&((nG.2.2.2).1==(n5.2.2.2).1&&true))))) then
    some (.inr (.inl (false,())))
   else
    some (.inl (((IntKind.wrap .i64 (r_+1)),U9,U8,xS),()))
  else none
 else
  some (.inr (.inr ((),())))
def Wh.Zk:(((Bool))×(Unit))⊕((Unit)×(Unit)):=.inl default
def Wh.q12 (xs:(List (an.D))×(List (an.D))):Option (((Bool))×(Unit)):=
 let s1_0:=xs.1
 let s2_1:=xs.2
 let v_2:Int:=(↑(List.length s1_0):Int)
 let w8:Int:=(↑(List.length s2_1):Int)
 let xZ:=v_2 != w8
 bif xZ then
  some (false,())
 else
  let x_23:Wh.SL:=((0,s2_1,s1_0,v_2),())
  bif lF Wh.Dy x_23 then
   sumC (kG Wh.Dy Wh.Zk x_23) (fun y_24=>
    let xY:=y_24.1
    some (xY,())) (fun _=>
    some (true,()))
  else none
def Wh.q12':=bx Wh.q12
theorem Wh.q12_v:OV Wh.q12 Wh.q12':=e_ _
def Wh.q89 (xs:(fk.D)×(fk.D)):Option (((Bool))×(Unit)):=
 let bn:=xs.1
 let b_1:=xs.2
 let v_2:=bn.1==b_1.1
 let r_3:=Wh.q12' (bn.2.1,b_1.2.1)
 let yw:=bif v_2 then r_3.1 else false
 bif iy [!v_2 || nQ (Wh.q12 (bn.2.1,b_1.2.1))] then
  some (yw,())
 else none
def Wh.q89':=bx Wh.q89
theorem Wh.q89_v:OV Wh.q89 Wh.q89':=e_ _
abbrev Wh.TX:Type:=((Int)×(Int)×(Int)×(List (nc.D))×(Int))×(Unit)
abbrev Wh.agn:Type:=((((Int))×(Unit))⊕((Unit)×(Unit)))
def Wh.DR (x:Wh.TX):Option (Wh.TX⊕Wh.agn):=
 let r_:=x.1.1
 let V2:=x.1.2.1
 let I4:=(x.1.2.2).1
 let xS:=x.1.2.2.2.1
 let so:=x.1.2.2.2.2
 bif decide (r_<so) then
  let yV:nc.D:=List.getD xS (Int.toNat r_) (0,0,0,0,false,())
  bif iy [decide (0≤r_),decide (r_<(↑(List.length xS):Int))] then
   let y9:=bif(yV.2.1==I4) then yV.2.2.1==V2 else false
   bif y9 then
    some (.inr (.inl (r_,())))
   else
    some (.inl (((IntKind.wrap .i64 (r_+1)),V2,I4,xS,so),()))
  else none
 else
  some (.inr (.inr ((),())))
def Wh.Z9:(((Int))×(Unit))⊕((Unit)×(Unit)):=.inl default
def Wh.q25 (xs:(n4.D)×(Int)×(Int)):Option (((Int))×(Unit)):=
 let vN:=xs.1
 let HI:=xs.2.1
 let abE:=xs.2.2
 let w8:Int:=(↑(List.length vN.1):Int)
 let x_24:Wh.TX:=((0,abE,HI,vN.1,w8),())
 bif lF Wh.DR x_24 then
  sumC (kG Wh.DR Wh.Z9 x_24) (fun y_25=>
   let zp:=y_25.1
   some (zp,())) (fun _=>
   some (-1,()))
 else none
def Wh.q25':=bx Wh.q25
theorem Wh.q25_v:OV Wh.q25 Wh.q25':=e_ _
abbrev Wh.UL:Type:=((Int)×(Int)×(Int)×(List (nc.D))×(Int))×(Unit)
abbrev Wh.agZ:Type:=((((Int))×(Unit)))
def Wh.D6 (x:Wh.UL):Option (Wh.UL⊕Wh.agZ):=
 let xP:=x.1.1
 let F8:=x.1.2.1
 let FW:=(x.1.2.2).1
 let so:=x.1.2.2.2.1
 let nG:=x.1.2.2.2.2
 bif decide (xP<nG) then
  let pb_21:nc.D:=List.getD so (Int.toNat xP) (0,0,0,0,false,())
  bif iy [decide (0≤xP),decide (xP<(↑(List.length so):Int))] then
   let Ag:=bif decide (pb_21.2.1>0) then pb_21.1==FW else false
   bif Ag then
    some (.inl (((IntKind.wrap .i64 (xP+1)),(IntKind.wrap .i64 (F8+1)),FW,so,nG),()))
   else
    some (.inl (((IntKind.wrap .i64 (xP+1)),F8,FW,so,nG),()))
  else none
 else
  some (.inr (F8,()))
def Wh.aaL:(((Int))×(Unit)):=default
def Wh.q85 (xs:(n4.D)×(Int)):Option (((Int))×(Unit)):=
 let vN:=xs.1
 let xX:=xs.2
 let v_2:Int:=(↑(List.length vN.1):Int)
 let Kk:Wh.UL:=((0,0,xX,vN.1,v_2),())
 bif lF Wh.D6 Kk then
  let Ht:=kG Wh.D6 Wh.aaL Kk
  let n_29:=Ht.1
  some (n_29,())
 else none
def Wh.q85':=bx Wh.q85
theorem Wh.Ig:OV Wh.q85 Wh.q85':=e_ _
abbrev Wh.Sy:Type:=((Int)×(Unit))×((n4.D))
abbrev Wh.afN:Type:=((((Bool))×(Unit))⊕((Unit)×(Unit)))
def Wh.CE (x:Wh.Sy):Option (Wh.Sy⊕Wh.afN):=
 let Ij:=x.1.1
 let RE:=x.2
 bif decide (Ij<2) then
  let Ov:=Wh.q85' (RE,Ij)
  bif iy [nQ (Wh.q85 (RE,Ij))] then
   bif decide (Ov.1>5) then
    some (.inr (.inl (false,())))
   else
    some (.inl (((IntKind.wrap .i64 (Ij+1)),()),RE))
  else none
 else
  some (.inr (.inr ((),())))
def Wh.Za:(((Bool))×(Unit))⊕((Unit)×(Unit)):=.inl default
abbrev Wh.Sx:Type:=((Int)×(Unit)×(List (nc.D))×(Int))×((n4.D))
abbrev Wh.afM:Type:=((((Bool))×(Unit))⊕(((Unit))×((n4.D))))
def Wh.CD (x:Wh.Sx):Option (Wh.Sx⊕Wh.afM):=
 let wX:=x.1.1
 let yT:=(x.1.2.2).1
 let Hq:=x.1.2.2.2
 let zJ:=x.2
 bif decide (wX<Hq) then
  let zv:nc.D:=List.getD yT (Int.toNat wX) (0,0,0,0,false,())
  bif iy [decide (0≤wX),decide (wX<(↑(List.length yT):Int))] then
   bif(zv.2.1==0) then
    bif(!(zv.1==0&&(zv.2.1==0&&(zv.2.2.1==0&&((zv.2.2.2).1==0&&(zv.2.2.2.2.1==false&&true)))))) then
     some (.inr (.inl (false,())))
    else
     some (.inl (((IntKind.wrap .i64 (wX+1)),(),yT,Hq),zJ))
   else
    let J2:=Wh.JG zv.1
    let Ec:=Wh.n_ (zv.2.1,1,99999)
    let Ad:=Wh.n_ (zv.2.2.1,0,23)
    let J4:=Wh.n_ ((zv.2.2.2).1,0,99999)
    let Hf:=Wh.q25' (zJ,zv.2.1,zv.2.2.1)
    let Ei:=bif bif bif bif !J2.1 then true else !Ec.1 then true else !Ad.1 then true else !J4.1 then true else Hf.1 != wX
    bif iy [(!!bif bif bif !J2.1 then true else !Ec.1 then true else !Ad.1 then true else !J4.1) || nQ (Wh.q25 (zJ,zv.2.1,zv.2.2.1)),(!!bif bif !J2.1 then true else !Ec.1 then true else !Ad.1) || nQ (Wh.xR ((zv.2.2.2).1,0,99999)),(!!bif !J2.1 then true else !Ec.1) || nQ (Wh.xR (zv.2.2.1,0,23)),!!!J2.1 || nQ (Wh.xR (zv.2.1,1,99999)),nQ (Wh.Bf zv.1)] then
     bif Ei then
      some (.inr (.inl (false,())))
     else
      some (.inl (((IntKind.wrap .i64 (wX+1)),(),yT,Hq),zJ))
    else none
  else none
 else
  some (.inr (.inr ((),zJ)))
def Wh.Y_:(((Bool))×(Unit))⊕(((Unit))×((n4.D))):=.inl default
def Wh.EL (xs:(n4.D)):Option (((Bool))×(Unit)):=
 let vN:n4.D:=xs
 let v_1:Int:=(↑(List.length vN.1):Int)
 let nC:=Wh.n_ (vN.2.1,0,7)
 let yw:=bif v_1 != 8 then true else !nC.1
 bif iy [!!v_1 != 8 || nQ (Wh.xR (vN.2.1,0,7))] then
  bif yw then
   some (false,())
  else
   let x_50:Wh.Sx:=((0,(),vN.1,v_1),vN)
   bif lF Wh.CD x_50 then
    sumC (kG Wh.CD Wh.Y_ x_50) (fun y_51=>
     let BN:=y_51.1
     some (BN,())) (fun z_52=>
     let RB:=z_52.2
     let x_67:Wh.Sy:=((0,()),RB)
     bif lF Wh.CE x_67 then
      sumC (kG Wh.CE Wh.Za x_67) (fun y_68=>
       let OR:=y_68.1
       some (OR,())) (fun _=>
       some (true,()))
     else none)
   else none
 else none
def Wh.Sw:=bx Wh.EL
theorem Wh.Sz:OV Wh.EL Wh.Sw:=e_ _
def Wh.Ie (xs:(an.D)×(Int)):Option (((Bool))×(Unit)):=
 let i_0:=xs.1
 let v_1:=xs.2
 some ((i_0.2.2.1==v_1),())
def Wh.q8':=bx Wh.Ie
theorem Wh.q8_v:OV Wh.Ie Wh.q8':=e_ _
abbrev Wh.T0:Type:=((Int)×(List (an.D))×((Int)×(Unit))×(Int))×(Unit)
abbrev Wh.q2_l0Y:Type:=((((Int))×(Unit))⊕((Unit)×(Unit)))
def Wh.DS (x:Wh.T0):Option (Wh.T0⊕Wh.q2_l0Y):=
 let zo:=x.1.1
 let Hj:=x.1.2.1
 let f_13:=(x.1.2.2).1.1
 let r_:=x.1.2.2.2
 bif decide (zo<r_) then
  let tn:an.D:=List.getD Hj (Int.toNat zo) (0,[],0,[],())
  let Ac:=Wh.q8' (tn,f_13)
  bif iy [nQ (Wh.Ie (tn,f_13)),decide (0≤zo),decide (zo<(↑(List.length Hj):Int))] then
   bif Ac.1 then
    some (.inr (.inl (zo,())))
   else
    some (.inl (((IntKind.wrap .i64 (zo+1)),Hj,(f_13,()),r_),()))
  else none
 else
  some (.inr (.inr ((),())))
def Wh.aab:(((Int))×(Unit))⊕((Unit)×(Unit)):=.inl default
def Wh.q2 (xs:(List (an.D))×((Int)×(Unit))):Option (((Int))×(Unit)):=
 let fN:=xs.1
 let f_1:=xs.2
 let v_2:Int:=(↑(List.length fN):Int)
 let x_19:Wh.T0:=((0,fN,(f_1.1,()),v_2),())
 bif lF Wh.DS x_19 then
  sumC (kG Wh.DS Wh.aab x_19) (fun Kw=>
   let y9:=Kw.1
   some (y9,())) (fun _=>
   some (-1,()))
 else none
def Wh.DP:=bx Wh.q2
theorem Wh.q2_v:OV Wh.q2 Wh.DP:=e_ _
def Wh.DF (xs:(fk.D)×(Int)):Option (((Int))×(Unit)):=
 let fe:=xs.1
 let HI:=xs.2
 let r_2:=Wh.DP (fe.2.1,HI,())
 bif iy [nQ (Wh.q2 (fe.2.1,HI,()))] then
  some (r_2.1,())
 else none
def Wh.N2:=bx Wh.DF
theorem Wh.GM:OV Wh.DF Wh.N2:=e_ _
def Wh.AG (xs:(r5.D)):Option (((Int))×(Unit)):=
 let vN:r5.D:=xs
 bif iy [vN.2.1 != 0] then
  some ((IntKind.wrap .i64 (Int.tdiv (IntKind.wrap .i64 ((IntKind.wrap .i64 (vN.1+vN.2.1))-1)) vN.2.1)),())
 else none
def Wh.zg:=bx Wh.AG
theorem Wh.q19_v:OV Wh.AG Wh.zg:=e_ _
abbrev Wh.UK:Type:=((Unit)×(Unit))×(((Int)×((Int)×((Unit)×((Unit)×(Unit)))))×((Int)×((Int)×((Unit)×((Unit)×(Unit)))))×(List (Int))×(List (Int))×(List (Int))×(List (Int)))
abbrev Wh.agY:Type:=((((Unit)×(Unit))×(((Int)×((Int)×((Unit)×((Unit)×(Unit)))))×((Int)×((Int)×((Unit)×((Unit)×(Unit)))))×(List (Int))×(List (Int))×(List (Int))×(List (Int)))))
def Wh.JY (x:Wh.UK):Option (Wh.UK⊕Wh.agY):=
 let yL:=x.2.1.1
 let BA:=(x.2.1.2).1
 let xb:=(x.2.1.2.2.2).2
 let w9:=x.2.2.1.1
 let yu:=(x.2.2.1).2.1
 let zc:=(x.2.2.1).2.2.2.2
 let y2:=(x.2.2.2).1
 let zI:=x.2.2.2.2.1
 let zd:=(x.2.2.2.2.2).1
 let z6:=(x.2.2.2.2.2).2
 let BH:=Wh.zg (yL,BA,y2,zI,xb)
 bif iy [nQ (Wh.AG (yL,BA,y2,zI,xb))] then
  bif decide (BH.1>24) then
   some (.inl (((),()),(yL,(IntKind.wrap .i64 (BA+1)),(),(),xb),(w9,yu,(),(),zc),y2,zI,zd,z6))
  else
   some (.inr (((),()),(w9,yu,(),(),zc),(yL,BA,(),(),xb),zd,z6,y2,zI))
 else none
def Wh.aaK:(((Unit)×(Unit))×(((Int)×((Int)×((Unit)×((Unit)×(Unit)))))×((Int)×((Int)×((Unit)×((Unit)×(Unit)))))×(List (Int))×(List (Int))×(List (Int))×(List (Int)))):=default
def Wh.q84 (xs:(Int)):Option ((((Int)×((Int)×((List (Int))×((List (Int))×(Unit))))))×(Unit)):=
 let Jj:=xs
 let r_1:=Wh.n_ (Jj,1,300)
 bif iy [nQ (Wh.xR (Jj,1,300))] then
  bif !r_1.1 then
   some ((0,0,[],[],()),())
  else
   let Aj:Wh.UK:=(((),()),(Jj,8,(),(),()),(0,0,(),(),()),[],[],[],[])
   bif lF Wh.JY Aj then
    let zV:=kG Wh.JY Wh.aaK Aj
    let z7:=zV.2.2.1.1
    let ye:=(zV.2.2.1).2.1
    let yB:=(zV.2.2.1).2.2.2.2
    let yy:=(zV.2.2.2.2.2).1
    let zT:=(zV.2.2.2.2.2).2
    let Ih:=Wh.zg (z7,ye,yy,zT,yB)
    bif iy [nQ (Wh.AG (z7,ye,yy,zT,yB))] then
     let k_43:=IntKind.wrap .i64 (Int.tdiv (IntKind.wrap .i64 (Ih.1+3)) 4)
     bif decide (k_43<Ih.1) then
      let R5:List Int:=[k_43,Ih.1]
      some ((z7,ye,R5,[(2:Int),3],yB),())
     else
      let Cw:List Int:=[Ih.1]
      some ((z7,ye,Cw,[(1:Int)],yB),())
    else none
   else none
 else none
def Wh.q84':=bx Wh.q84
theorem Wh.q84_v:OV Wh.q84 Wh.q84':=e_ _
abbrev Wh.Ui:Type:=((Int)×(Unit)×(List (nc.D))×(Int))×((fk.D))
abbrev Wh.agC:Type:=((((Bool))×(Unit))⊕((Unit)×(Unit)))
def Wh.Bh (x:Wh.Ui):Option (Wh.Ui⊕Wh.agC):=
 let yC:=x.1.1
 let zE:=(x.1.2.2).1
 let xY:=x.1.2.2.2
 let y3:=x.2
 bif decide (yC<xY) then
  let AX:nc.D:=List.getD zE (Int.toNat yC) (0,0,0,0,false,())
  bif iy [decide (0≤yC),decide (yC<(↑(List.length zE):Int))] then
   bif(AX.2.1==0) then
    some (.inl (((IntKind.wrap .i64 (yC+1)),(),zE,xY),y3))
   else
    let xU:=Wh.N2 (y3,AX.2.1)
    bif iy [nQ (Wh.DF (y3,AX.2.1))] then
     let BJ:=Wh.q84' (↑(List.length (Prod.fst (Prod.snd (Prod.snd (Prod.snd (List.getD y3.2.1 (Int.toNat xU.1) (0,[],0,[],()))))))):Int)
     let yl:=decide ((AX.2.2.2).1>0)
     let Ad:=Wh.zg (BJ.1.1,BJ.1.2.1,bif !bif bif yl then true else decide (xU.1<0) then true else Prod.fst (List.getD y3.2.1 (Int.toNat xU.1) (0,[],0,[],())) != AX.1 then(BJ.1.2.2).1 else [],bif !bif bif yl then true else decide (xU.1<0) then true else Prod.fst (List.getD y3.2.1 (Int.toNat xU.1) (0,[],0,[],())) != AX.1 then BJ.1.2.2.2.1 else [],BJ.1.2.2.2.2)
     let Fz:=bif bif bif yl then true else decide (xU.1<0) then true else Prod.fst (List.getD y3.2.1 (Int.toNat xU.1) (0,[],0,[],())) != AX.1 then true else decide (AX.2.2.1≥Ad.1)
     bif iy [(!!bif bif yl then true else decide (xU.1<0) then true else Prod.fst (List.getD y3.2.1 (Int.toNat xU.1) (0,[],0,[],())) != AX.1) || nQ (Wh.AG (BJ.1.1,BJ.1.2.1,bif !bif bif yl then true else decide (xU.1<0) then true else Prod.fst (List.getD y3.2.1 (Int.toNat xU.1) (0,[],0,[],())) != AX.1 then(BJ.1.2.2).1 else [],bif !bif bif yl then true else decide (xU.1<0) then true else Prod.fst (List.getD y3.2.1 (Int.toNat xU.1) (0,[],0,[],())) != AX.1 then BJ.1.2.2.2.1 else [],BJ.1.2.2.2.2)),(!!bif bif yl then true else decide (xU.1<0) then true else Prod.fst (List.getD y3.2.1 (Int.toNat xU.1) (0,[],0,[],())) != AX.1) || nQ (Wh.q84 (↑(List.length (Prod.fst (Prod.snd (Prod.snd (Prod.snd (List.getD y3.2.1 (Int.toNat xU.1) (0,[],0,[],()))))))):Int)),(!!bif bif yl then true else decide (xU.1<0) then true else Prod.fst (List.getD y3.2.1 (Int.toNat xU.1) (0,[],0,[],())) != AX.1) || decide (0≤xU.1),(!!bif bif yl then true else decide (xU.1<0) then true else Prod.fst (List.getD y3.2.1 (Int.toNat xU.1) (0,[],0,[],())) != AX.1) || decide (xU.1<(↑(List.length y3.2.1):Int)),(!!bif yl then true else decide (xU.1<0)) || decide (0≤xU.1),(!!bif yl then true else decide (xU.1<0)) || decide (xU.1<(↑(List.length y3.2.1):Int))] then
      bif Fz then
       some (.inr (.inl (false,())))
      else
       some (.inl (((IntKind.wrap .i64 (yC+1)),(),zE,xY),y3))
     else none
    else none
  else none
 else
  some (.inr (.inr ((),())))
def Wh.aao:(((Bool))×(Unit))⊕((Unit)×(Unit)):=.inl default
def Wh.q51 (xs:(n4.D)×(fk.D)):Option (((Bool))×(Unit)):=
 let vN:=xs.1
 let c_1:=xs.2
 let r_2:=Wh.Sw vN
 bif iy [nQ (Wh.EL vN)] then
  bif !r_2.1 then
   some (false,())
  else
   let w8:Int:=(↑(List.length vN.1):Int)
   let x_44:Wh.Ui:=((0,(),vN.1,w8),c_1)
   bif lF Wh.Bh x_44 then
    sumC (kG Wh.Bh Wh.aao x_44) (fun y_45=>
     let v_47:=y_45.1
     some (v_47,())) (fun _=>
     some (true,()))
   else none
 else none
def Wh.q51':=bx Wh.q51
theorem Wh.q51_v:OV Wh.q51 Wh.q51':=e_ _
def Wh.q43 (xs:(nI.D)):Option (((Bool))×(Unit)):=
 let yY:nI.D:=xs
 let r_1:=Wh.n_ (yY.2.1,0,99999)
 let r_2:=Wh.n_ (yY.2.2.1,0,99999)
 let xQ:=Wh.n_ (yY.1,0,yY.2.1)
 let yM:=Wh.n_ ((yY.2.2.2).1,0,99999)
 let zi:=bif bif bif r_1.1 then r_2.1 else false then xQ.1 else false then yM.1 else false
 bif iy [(!bif bif r_1.1 then r_2.1 else false then xQ.1 else false) || nQ (Wh.xR ((yY.2.2.2).1,0,99999)),(!bif r_1.1 then r_2.1 else false) || nQ (Wh.xR (yY.1,0,yY.2.1)),!r_1.1 || nQ (Wh.xR (yY.2.2.1,0,99999)),nQ (Wh.xR (yY.2.1,0,99999))] then
  some (zi,())
 else none
def Wh.q43':=bx Wh.q43
theorem Wh.q43_v:OV Wh.q43 Wh.q43':=e_ _
def Wh.Ca (xs:(Int)):Option (((Bool))×(Unit)):=
 let yQ:=xs
 let r_1:=Wh.n_ (yQ,0,3)
 bif iy [nQ (Wh.xR (yQ,0,3))] then
  some (r_1.1,())
 else none
def Wh.Ic:=bx Wh.Ca
theorem Wh.JT:OV Wh.Ca Wh.Ic:=e_ _
def Wh.q87 (xs:(Int)):Option (((Int))×(Unit)):=
 let Q2:=xs
 some ((Int.tmod Q2 2),())
def Wh.q87':=bx Wh.q87
theorem Wh.UR:OV Wh.q87 Wh.q87':=e_ _
abbrev Wh.Ue:Type:=((Int)×(Unit)×(List (pg.D))×(Int))×((ng.D))
abbrev Wh.agz:Type:=((((Bool))×(Unit))⊕((Unit)×(Unit)))
def Wh.CQ (x:Wh.Ue):Option (Wh.Ue⊕Wh.agz):=
 let BO:=x.1.1
 let v_89:=(x.1.2.2).1
 let OS:=x.1.2.2.2
 let AW:=x.2
 bif decide (BO<OS) then
  let zw:pg.D:=List.getD v_89 (Int.toNat BO) (0,0,0,0,0,0,())
  bif iy [decide (0≤BO),decide (BO<(↑(List.length v_89):Int))] then
   let Il:=decide (BO>0)
   let r_97:=Wh.Ic zw.1
   let r_100:=Wh.n_ (zw.2.1,1,99999)
   let U2:=Wh.n_ (zw.2.2.1,1,(AW.2.2.2).1.1)
   let v_104:=bif bif bif bif Il then decide (Prod.fst (List.getD ((AW.2.2.2.2.2).2.1) (Int.toNat (IntKind.wrap .i64 (BO-1))) (0,0,0,0,0,0,()))≥zw.1) else false then true else !r_97.1 then true else !r_100.1 then true else !U2.1
   bif iy [(!!bif bif bif Il then decide (Prod.fst (List.getD ((AW.2.2.2.2.2).2.1) (Int.toNat (IntKind.wrap .i64 (BO-1))) (0,0,0,0,0,0,()))≥zw.1) else false then true else !r_97.1 then true else !r_100.1) || nQ (Wh.xR (zw.2.2.1,1,(AW.2.2.2).1.1)),(!!bif bif Il then decide (Prod.fst (List.getD ((AW.2.2.2.2.2).2.1) (Int.toNat (IntKind.wrap .i64 (BO-1))) (0,0,0,0,0,0,()))≥zw.1) else false then true else !r_97.1) || nQ (Wh.xR (zw.2.1,1,99999)),(!!bif Il then decide (Prod.fst (List.getD ((AW.2.2.2.2.2).2.1) (Int.toNat (IntKind.wrap .i64 (BO-1))) (0,0,0,0,0,0,()))≥zw.1) else false) || nQ (Wh.Ca zw.1),!Il || decide (0≤IntKind.wrap .i64 (BO-1)),!Il || decide (IntKind.wrap .i64 (BO-1)<(↑(List.length ((AW.2.2.2.2.2).2.1)):Int))] then
    bif v_104 then
     some (.inr (.inl (false,())))
    else
     let Oq:=Wh.N2 ((AW.2.2.2).1,zw.2.2.1)
     bif iy [nQ (Wh.DF ((AW.2.2.2).1,zw.2.2.1))] then
      let OI:=decide (Oq.1≥0)
      let r_107:=Wh.q87' zw.1
      let CX:=bif OI then Prod.fst (List.getD ((AW.2.2.2).1.2.1) (Int.toNat Oq.1) (0,[],0,[],())) != r_107.1 else false
      bif iy [!OI || nQ (Wh.q87 zw.1),!OI || decide (0≤Oq.1),!OI || decide (Oq.1<(↑(List.length ((AW.2.2.2).1.2.1)):Int))] then
       bif CX then
        some (.inr (.inl (false,())))
       else
        let JZ:=Wh.n_ ((zw.2.2.2).1,0,9999)
        let r_110:=Wh.n_ (zw.2.2.2.2.1,0,3)
        let r_113:=Wh.n_ ((zw.2.2.2.2.2).1,0,AW.2.1)
        let v_114:=bif bif !JZ.1 then true else !r_110.1 then true else !r_113.1
        bif iy [(!!bif !JZ.1 then true else !r_110.1) || nQ (Wh.xR ((zw.2.2.2.2.2).1,0,AW.2.1)),!!!JZ.1 || nQ (Wh.xR (zw.2.2.2.2.1,0,3)),nQ (Wh.xR ((zw.2.2.2).1,0,9999))] then
         bif v_114 then
          some (.inr (.inl (false,())))
         else
          some (.inl (((IntKind.wrap .i64 (BO+1)),(),v_89,OS),AW))
        else none
      else none
     else none
   else none
  else none
 else
  some (.inr (.inr ((),())))
def Wh.aal:(((Bool))×(Unit))⊕((Unit)×(Unit)):=.inl default
abbrev Wh.Ud:Type:=((Int)×(Unit)×(List (nI.D))×(Int))×((ng.D))
abbrev Wh.agy:Type:=((((Bool))×(Unit))⊕(((Unit))×((ng.D))))
def Wh.DX (x:Wh.Ud):Option (Wh.Ud⊕Wh.agy):=
 let Cg:=x.1.1
 let Fz:=(x.1.2.2).1
 let Hr:=x.1.2.2.2
 let Rz:=x.2
 bif decide (Cg<Hr) then
  let Cw:nI.D:=List.getD Fz (Int.toNat Cg) (0,0,0,0,())
  bif iy [decide (0≤Cg),decide (Cg<(↑(List.length Fz):Int))] then
   let Hf:=Wh.q43' Cw
   let v_52:=bif bif bif !Hf.1 then true else Cw.2.1 != 40 then true else Cw.2.2.1 != 8 then true else decide ((Cw.2.2.2).1>Rz.2.1)
   bif iy [nQ (Wh.q43 Cw)] then
    bif v_52 then
     some (.inr (.inl (false,())))
    else
     some (.inl (((IntKind.wrap .i64 (Cg+1)),(),Fz,Hr),Rz))
   else none
  else none
 else
  some (.inr (.inr ((),Rz)))
def Wh.aak:(((Bool))×(Unit))⊕(((Unit))×((ng.D))):=.inl default
def Wh.q47 (xs:(ng.D)):Option (((Bool))×(Unit)):=
 let fN:ng.D:=xs
 let r_1:=Wh.n_ (fN.2.1,0,99999)
 let v_2:=bif !r_1.1 then true else decide ((↑(List.length (fN.2.2.1)):Int)>9000)
 bif iy [nQ (Wh.xR (fN.2.1,0,99999))] then
  bif v_2 then
   some (false,())
  else
   let r_3:=Wh.Ol (fN.2.2.1)
   bif iy [nQ (Wh.CR (fN.2.2.1))] then
    let nC:=Wh.NZ r_3.1.1
    bif iy [nQ (Wh.DD r_3.1.1)] then
     bif(!nC.1.2) then
      some (false,())
     else
      bif(!fN.1) then
       let w7:Bool:=(fN.2.2.2).1.1==0
       let ad9:=bif bif bif w7 then(↑(List.length ((fN.2.2.2).1.2.1)):Int)==0 else false then(↑(List.length ((fN.2.2.2.2.1).1)):Int)==0 else false then(fN.2.2.2.2.1).2.1==0 else false
       let r_:=bif ad9 then(↑(List.length ((fN.2.2.2.2.2).1)):Int)==0 else false
       let tn:=bif r_ then(↑(List.length ((fN.2.2.2.2.2).2.1)):Int)==0 else false
       some (tn,())
      else
       let xS:Int:=(↑(List.length (fN.2.2.1)):Int)
       let yS:=Wh.q89' (nC.1.1,(fN.2.2.2).1)
       let x6:=Wh.q51' (fN.2.2.2.2.1,(fN.2.2.2).1)
       let xY:=bif bif bif r_3.1.2 != xS then true else !yS.1 then true else !x6.1 then true else(↑(List.length ((fN.2.2.2.2.2).1)):Int) != 2
       bif iy [(!!bif r_3.1.2 != xS then true else !yS.1) || nQ (Wh.q51 (fN.2.2.2.2.1,(fN.2.2.2).1)),!!r_3.1.2 != xS || nQ (Wh.q89 (nC.1.1,(fN.2.2.2).1))] then
        bif xY then
         some (false,())
        else
         let zp:Int:=(↑(List.length ((fN.2.2.2.2.2).1)):Int)
         let x_54:Wh.Ud:=((0,(),(fN.2.2.2.2.2).1,zp),fN)
         bif lF Wh.DX x_54 then
          sumC (kG Wh.DX Wh.aak x_54) (fun y_55=>
           let v_57:=y_55.1
           some (v_57,())) (fun z_56=>
           let RD:=z_56.2
           let v_59:Int:=(↑(List.length ((RD.2.2.2.2.2).2.1)):Int)
           let x_116:Wh.Ue:=((0,(),(RD.2.2.2.2.2).2.1,v_59),RD)
           bif lF Wh.CQ x_116 then
            sumC (kG Wh.CQ Wh.aal x_116) (fun y_117=>
             let OK:=y_117.1
             some (OK,())) (fun _=>
             some (true,()))
           else none)
         else none
       else none
    else none
   else none
 else none
def Wh.q47':=bx Wh.q47
theorem Wh.Uf:OV Wh.q47 Wh.q47':=e_ _
def Wh.Gq (xs:(an.D)×(an.D)):Option (((Bool))×(Unit)):=
 let bn:=xs.1
 let b_1:=xs.2
 bif(bn.1 != b_1.1) then
  some (false,())
 else
  bif(!bn.2.1==b_1.2.1) then
   some (false,())
  else
   bif(bn.2.2.1 != b_1.2.2.1) then
    some (false,())
   else
    bif(!(bn.2.2.2).1==(b_1.2.2.2).1) then
     some (false,())
    else
     some (true,())
def Wh.SB:=bx Wh.Gq
theorem Wh.Zc:OV Wh.Gq Wh.SB:=e_ _
abbrev Wh.UT:Type:=((Int)×(List (an.D))×(List (an.D)))×(Unit)
abbrev Wh.ag5:Type:=((((Bool))×(Unit))⊕((Unit)×(Unit)))
def Wh.G8 (x:Wh.UT):Option (Wh.UT⊕Wh.ag5):=
 let fT:=x.1.1
 let yF:=x.1.2.1
 let yE:=x.1.2.2
 let so:Int:=(↑(List.length yE):Int)
 bif decide (fT<so) then
  let n5:an.D:=List.getD yE (Int.toNat fT) (0,[],0,[],())
  let vT:an.D:=List.getD yF (Int.toNat fT) (0,[],0,[],())
  let x6:=Wh.SB (n5,vT)
  bif iy [nQ (Wh.Gq (n5,vT)),decide (0≤fT),decide (fT<(↑(List.length yF):Int)),decide (0≤fT),decide (fT<so)] then
   bif !x6.1 then
    some (.inr (.inl (false,())))
   else
    some (.inl (((IntKind.wrap .i64 (fT+1)),yF,yE),()))
  else none
 else
  some (.inr (.inr ((),())))
def Wh.aaR:(((Bool))×(Unit))⊕((Unit)×(Unit)):=.inl default
def Wh.q91 (xs:(List (an.D))×(List (an.D))):Option (((Bool))×(Unit)):=
 let bn:=xs.1
 let b_1:=xs.2
 let v_2:Int:=(↑(List.length bn):Int)
 let w8:Int:=(↑(List.length b_1):Int)
 let xZ:=v_2 != w8
 bif xZ then
  some (false,())
 else
  let x_25:Wh.UT:=((0,b_1,bn),())
  bif lF Wh.G8 x_25 then
   sumC (kG Wh.G8 Wh.aaR x_25) (fun yW=>
    let wX:=yW.1
    some (wX,())) (fun _=>
    some (true,()))
  else none
def Wh.Om:=bx Wh.q91
theorem Wh.UU:OV Wh.q91 Wh.Om:=e_ _
def Wh.GD (xs:(fk.D)×(fk.D)):Option (((Bool))×(Unit)):=
 let bn:=xs.1
 let b_1:=xs.2
 bif(bn.1 != b_1.1) then
  some (false,())
 else
  let r_3:=Wh.Om (bn.2.1,b_1.2.1)
  bif iy [nQ (Wh.q91 (bn.2.1,b_1.2.1))] then
   bif !r_3.1 then
    some (false,())
   else
    some (true,())
  else none
def Wh.Tf:=bx Wh.GD
theorem Wh.ZF:OV Wh.GD Wh.Tf:=e_ _
def Wh.q90 (xs:(nc.D)×(nc.D)):Option (((Bool))×(Unit)):=
 let bn:=xs.1
 let b_1:=xs.2
 bif(bn.1 != b_1.1) then
  some (false,())
 else
  bif(bn.2.1 != b_1.2.1) then
   some (false,())
  else
   bif(bn.2.2.1 != b_1.2.2.1) then
    some (false,())
   else
    let yw:Bool:=(bn.2.2.2).1 != (b_1.2.2.2).1
    bif yw then
     some (false,())
    else
     bif(!bn.2.2.2.2.1==b_1.2.2.2.2.1) then
      some (false,())
     else
      some (true,())
def Wh.q90':=bx Wh.q90
theorem Wh.q90_v:OV Wh.q90 Wh.q90':=e_ _
abbrev Wh.Uq:Type:=((Int)×(List (nc.D))×(List (nc.D)))×(Unit)
abbrev Wh.agK:Type:=((((Bool))×(Unit))⊕((Unit)×(Unit)))
def Wh.G3 (x:Wh.Uq):Option (Wh.Uq⊕Wh.agK):=
 let fT:=x.1.1
 let yF:=x.1.2.1
 let yE:=x.1.2.2
 let so:Int:=(↑(List.length yE):Int)
 bif decide (fT<so) then
  let n5:nc.D:=List.getD yE (Int.toNat fT) (0,0,0,0,false,())
  let vT:nc.D:=List.getD yF (Int.toNat fT) (0,0,0,0,false,())
  let x6:=Wh.q90' (n5,vT)
  bif iy [nQ (Wh.q90 (n5,vT)),decide (0≤fT),decide (fT<(↑(List.length yF):Int)),decide (0≤fT),decide (fT<so)] then
   bif !x6.1 then
    some (.inr (.inl (false,())))
   else
    some (.inl (((IntKind.wrap .i64 (fT+1)),yF,yE),()))
  else none
 else
  some (.inr (.inr ((),())))
def Wh.aaw:(((Bool))×(Unit))⊕((Unit)×(Unit)):=.inl default
def Wh.q55 (xs:(List (nc.D))×(List (nc.D))):Option (((Bool))×(Unit)):=
 let bn:=xs.1
 let b_1:=xs.2
 let v_2:Int:=(↑(List.length bn):Int)
 let w8:Int:=(↑(List.length b_1):Int)
 let xZ:=v_2 != w8
 bif xZ then
  some (false,())
 else
  let x_25:Wh.Uq:=((0,b_1,bn),())
  bif lF Wh.G3 x_25 then
   sumC (kG Wh.G3 Wh.aaw x_25) (fun yW=>
    let wX:=yW.1
    some (wX,())) (fun _=>
    some (true,()))
  else none
def Wh.q55':=bx Wh.q55
theorem Wh.q55_v:OV Wh.q55 Wh.q55':=e_ _
def Wh.Gs (xs:(n4.D)×(n4.D)):Option (((Bool))×(Unit)):=
 let bn:=xs.1
 let b_1:=xs.2
 let r_2:=Wh.q55' (bn.1,b_1.1)
 bif iy [nQ (Wh.q55 (bn.1,b_1.1))] then
  bif !r_2.1 then
   some (false,())
  else
   bif(bn.2.1 != b_1.2.1) then
    some (false,())
   else
    some (true,())
 else none
def Wh.SC:=bx Wh.Gs
theorem Wh.Zd:OV Wh.Gs Wh.SC:=e_ _
def Wh.q53 (xs:(nI.D)×(nI.D)):Option (((Bool))×(Unit)):=
 let bn:=xs.1
 let b_1:=xs.2
 bif(bn.1 != b_1.1) then
  some (false,())
 else
  bif(bn.2.1 != b_1.2.1) then
   some (false,())
  else
   bif(bn.2.2.1 != b_1.2.2.1) then
    some (false,())
   else
    let yw:Bool:=(bn.2.2.2).1 != (b_1.2.2.2).1
    bif yw then
     some (false,())
    else
     some (true,())
def Wh.q53':=bx Wh.q53
theorem Wh.q53_v:OV Wh.q53 Wh.q53':=e_ _
abbrev Wh.TY:Type:=((Int)×(List (nI.D))×(List (nI.D)))×(Unit)
abbrev Wh.ago:Type:=((((Bool))×(Unit))⊕((Unit)×(Unit)))
def Wh.GX (x:Wh.TY):Option (Wh.TY⊕Wh.ago):=
 let fT:=x.1.1
 let yF:=x.1.2.1
 let yE:=x.1.2.2
 let so:Int:=(↑(List.length yE):Int)
 bif decide (fT<so) then
  let n5:nI.D:=List.getD yE (Int.toNat fT) (0,0,0,0,())
  let vT:nI.D:=List.getD yF (Int.toNat fT) (0,0,0,0,())
  let x6:=Wh.q53' (n5,vT)
  bif iy [nQ (Wh.q53 (n5,vT)),decide (0≤fT),decide (fT<(↑(List.length yF):Int)),decide (0≤fT),decide (fT<so)] then
   bif !x6.1 then
    some (.inr (.inl (false,())))
   else
    some (.inl (((IntKind.wrap .i64 (fT+1)),yF,yE),()))
  else none
 else
  some (.inr (.inr ((),())))
def Wh.Z_:(((Bool))×(Unit))⊕((Unit)×(Unit)):=.inl default
def Wh.q27 (xs:(List (nI.D))×(List (nI.D))):Option (((Bool))×(Unit)):=
 let bn:=xs.1
 let b_1:=xs.2
 let v_2:Int:=(↑(List.length bn):Int)
 let w8:Int:=(↑(List.length b_1):Int)
 let xZ:=v_2 != w8
 bif xZ then
  some (false,())
 else
  let x_25:Wh.TY:=((0,b_1,bn),())
  bif lF Wh.GX x_25 then
   sumC (kG Wh.GX Wh.Z_ x_25) (fun yW=>
    let wX:=yW.1
    some (wX,())) (fun _=>
    some (true,()))
  else none
def Wh.q27':=bx Wh.q27
theorem Wh.q27_v:OV Wh.q27 Wh.q27':=e_ _
def Wh.q92 (xs:(pg.D)×(pg.D)):Option (((Bool))×(Unit)):=
 let bn:=xs.1
 let b_1:=xs.2
 bif(bn.1 != b_1.1) then
  some (false,())
 else
  bif(bn.2.1 != b_1.2.1) then
   some (false,())
  else
   bif(bn.2.2.1 != b_1.2.2.1) then
    some (false,())
   else
    let yw:Bool:=(bn.2.2.2).1 != (b_1.2.2.2).1
    bif yw then
     some (false,())
    else
     bif(bn.2.2.2.2.1 != b_1.2.2.2.2.1) then
      some (false,())
     else
      let w7:Bool:=(bn.2.2.2.2.2).1 != (b_1.2.2.2.2.2).1
      bif w7 then
       some (false,())
      else
       some (true,())
def Wh.q92':=bx Wh.q92
theorem Wh.q92_v:OV Wh.q92 Wh.q92':=e_ _
abbrev Wh.Ur:Type:=((Int)×(List (pg.D))×(List (pg.D)))×(Unit)
abbrev Wh.agL:Type:=((((Bool))×(Unit))⊕((Unit)×(Unit)))
def Wh.G4 (x:Wh.Ur):Option (Wh.Ur⊕Wh.agL):=
 let fT:=x.1.1
 let yF:=x.1.2.1
 let yE:=x.1.2.2
 let so:Int:=(↑(List.length yE):Int)
 bif decide (fT<so) then
  let n5:pg.D:=List.getD yE (Int.toNat fT) (0,0,0,0,0,0,())
  let vT:pg.D:=List.getD yF (Int.toNat fT) (0,0,0,0,0,0,())
  let x6:=Wh.q92' (n5,vT)
  bif iy [nQ (Wh.q92 (n5,vT)),decide (0≤fT),decide (fT<(↑(List.length yF):Int)),decide (0≤fT),decide (fT<so)] then
   bif !x6.1 then
    some (.inr (.inl (false,())))
   else
    some (.inl (((IntKind.wrap .i64 (fT+1)),yF,yE),()))
  else none
 else
  some (.inr (.inr ((),())))
def Wh.aax:(((Bool))×(Unit))⊕((Unit)×(Unit)):=.inl default
def Wh.q57 (xs:(List (pg.D))×(List (pg.D))):Option (((Bool))×(Unit)):=
 let bn:=xs.1
 let b_1:=xs.2
 let v_2:Int:=(↑(List.length bn):Int)
 let w8:Int:=(↑(List.length b_1):Int)
 let xZ:=v_2 != w8
 bif xZ then
  some (false,())
 else
  let x_25:Wh.Ur:=((0,b_1,bn),())
  bif lF Wh.G4 x_25 then
   sumC (kG Wh.G4 Wh.aax x_25) (fun yW=>
    let wX:=yW.1
    some (wX,())) (fun _=>
    some (true,()))
  else none
def Wh.q57':=bx Wh.q57
theorem Wh.q57_v:OV Wh.q57 Wh.q57':=e_ _
def Wh.q58 (xs:(ng.D)×(ng.D)):Option (((Bool))×(Unit)):=
 let bn:=xs.1
 let b_1:=xs.2
 bif(!bn.1==b_1.1) then
  some (false,())
 else
  bif(bn.2.1 != b_1.2.1) then
   some (false,())
  else
   bif(!bn.2.2.1==b_1.2.2.1) then
    some (false,())
   else
    let xQ:=Wh.Tf ((bn.2.2.2).1,(b_1.2.2.2).1)
    bif iy [nQ (Wh.GD ((bn.2.2.2).1,(b_1.2.2.2).1))] then
     bif !xQ.1 then
      some (false,())
     else
      let yz:=Wh.SC (bn.2.2.2.2.1,b_1.2.2.2.2.1)
      bif iy [nQ (Wh.Gs (bn.2.2.2.2.1,b_1.2.2.2.2.1))] then
       bif !yz.1 then
        some (false,())
       else
        let A3:=Wh.q27' ((bn.2.2.2.2.2).1,(b_1.2.2.2.2.2).1)
        bif iy [nQ (Wh.q27 ((bn.2.2.2.2.2).1,(b_1.2.2.2.2.2).1))] then
         bif !A3.1 then
          some (false,())
         else
          let yM:=Wh.q57' ((bn.2.2.2.2.2).2.1,(b_1.2.2.2.2.2).2.1)
          bif iy [nQ (Wh.q57 ((bn.2.2.2.2.2).2.1,(b_1.2.2.2.2.2).2.1))] then
           bif !yM.1 then
            some (false,())
           else
            some (true,())
          else none
        else none
      else none
    else none
def Wh.q58':=bx Wh.q58
theorem Wh.q58_v:OV Wh.q58 Wh.q58':=e_ _
def Wh.Dw (xs:(List (Int))×(Int)):Option (((Int))×(Unit)):=
 let bn:=xs.1
 let left_1:=xs.2
 let v_2:=IntKind.wrap .i64 (left_1-(↑(List.length bn):Int))
 bif decide (v_2<0) then
  some (-1,())
 else
  some (v_2,())
def Wh.Jz:=bx Wh.Dw
theorem Wh.NR:OV Wh.Dw Wh.Jz:=e_ _
def Wh.Gu (xs:(r5.D)×(Int)):Option (((Int))×(Unit)):=
 let bn:=xs.1
 let left_1:=xs.2
 let r_2:=Wh.Jz (bn.2.2.1,left_1)
 bif iy [nQ (Wh.Dw (bn.2.2.1,left_1))] then
  bif decide (r_2.1<0) then
   some (-1,())
  else
   let nC:=Wh.Jz ((bn.2.2.2).1,r_2.1)
   bif iy [nQ (Wh.Dw ((bn.2.2.2).1,r_2.1))] then
    bif decide (nC.1<0) then
     some (-1,())
    else
     some (nC.1,())
   else none
 else none
def Wh.SF:=bx Wh.Gu
theorem Wh.Ze:OV Wh.Gu Wh.SF:=e_ _
def Wh.GV (xs:(nW.D)×(Int)):Option (((Int))×(Unit)):=
 let bn:=xs.1
 let left_1:=xs.2
 let r_2:=Wh.Jz (bn.1,left_1)
 bif iy [nQ (Wh.Dw (bn.1,left_1))] then
  bif decide (r_2.1<0) then
   some (-1,())
  else
   let xZ:Int:=(↑(List.length bn.2.1):Int)
   let Xk:=IntKind.wrap .i64 (r_2.1-xZ)
   bif decide (Xk<0) then
    some (-1,())
   else
    some (Xk,())
 else none
def Wh.TM:=bx Wh.GV
theorem Wh.TN:OV Wh.GV Wh.TM:=e_ _
abbrev Wh.Tj:Type:=((Int)×(Int)×(List (nW.D)))×(Unit)
abbrev Wh.af4:Type:=((((Int))×(Unit))⊕(((Int))×(Unit)))
def Wh.ET (x:Wh.Tj):Option (Wh.Tj⊕Wh.af4):=
 let xe:=x.1.1
 let AA:=x.1.2.1
 let Aw:=x.1.2.2
 let nG:Int:=(↑(List.length Aw):Int)
 bif decide (xe<nG) then
  let vT:=List.getD Aw (Int.toNat xe) ([],[],())
  let x6:=Wh.TM (vT,AA)
  bif iy [nQ (Wh.GV (vT,AA)),decide (0≤xe),decide (xe<nG)] then
   bif decide (x6.1<0) then
    some (.inr (.inl (-1,())))
   else
    some (.inl (((IntKind.wrap .i64 (xe+1)),x6.1,Aw),()))
  else none
 else
  some (.inr (.inr (AA,())))
def Wh.Tk:(((Int))×(Unit))⊕(((Int))×(Unit)):=.inl default
def Wh.GI (xs:(List (nW.D))×(Int)):Option (((Int))×(Unit)):=
 let bn:=xs.1
 let left_1:=xs.2
 let v_2:Int:=(↑(List.length bn):Int)
 let yh:=IntKind.wrap .i64 (left_1-v_2)
 bif decide (yh<0) then
  some (-1,())
 else
  let Ai:Wh.Tj:=((0,yh,bn),())
  bif lF Wh.ET Ai then
   sumC (kG Wh.ET Wh.Tk Ai) (fun Bo=>
    let yT:=Bo.1
    some (yT,())) (fun Em=>
    let F4:=Em.1
    some (F4,()))
  else none
def Wh.Ti:=bx Wh.GI
theorem Wh.ZI:OV Wh.GI Wh.Ti:=e_ _
def Wh.q65 (xs:(lg.D)×(Int)):Option (((Int))×(Unit)):=
 let bn:=xs.1
 let left_1:=xs.2
 let r_2:=Wh.Ti (bn.2.2.1,left_1)
 bif iy [nQ (Wh.GI (bn.2.2.1,left_1))] then
  bif decide (r_2.1<0) then
   some (-1,())
  else
   some (r_2.1,())
 else none
def Wh.q65':=bx Wh.q65
theorem Wh.q65_v:OV Wh.q65 Wh.q65':=e_ _
def Wh.q33 (xs:(xN.D)×(Int)):Option (((Int))×(Unit)):=
 let bn:=xs.1
 let left_1:=xs.2
 let r_2:=Wh.SF (bn.1,left_1)
 bif iy [nQ (Wh.Gu (bn.1,left_1))] then
  bif decide (r_2.1<0) then
   some (-1,())
  else
   let nC:=Wh.q65' (bn.2.1,r_2.1)
   bif iy [nQ (Wh.q65 (bn.2.1,r_2.1))] then
    bif decide (nC.1<0) then
     some (-1,())
    else
     some (nC.1,())
   else none
 else none
def Wh.q33':=bx Wh.q33
theorem Wh.q33_v:OV Wh.q33 Wh.q33':=e_ _
def Wh.q60 (xs:(nE.D)×(Int)):Option (((Int))×(Unit)):=
 let bn:=xs.1
 let left_1:=xs.2
 let v_2:Int:=(↑(List.length ((bn.2.2.2).1)):Int)
 let yh:=IntKind.wrap .i64 (left_1-v_2)
 bif decide (yh<0) then
  some (-1,())
 else
  let yz:=Wh.q33' ((bn.2.2.2.2.2).1,yh)
  bif iy [nQ (Wh.q33 ((bn.2.2.2.2.2).1,yh))] then
   bif decide (yz.1<0) then
    some (-1,())
   else
    some (yz.1,())
  else none
def Wh.q60':=bx Wh.q60
theorem Wh.Us:OV Wh.q60 Wh.q60':=e_ _
abbrev Wh.T4:Type:=((Int)×(Int)×(List (nE.D)))×(Unit)
abbrev Wh.agr:Type:=((((Int))×(Unit))⊕(((Int))×(Unit)))
def Wh.DT (x:Wh.T4):Option (Wh.T4⊕Wh.agr):=
 let xe:=x.1.1
 let AA:=x.1.2.1
 let Aw:=x.1.2.2
 let nG:Int:=(↑(List.length Aw):Int)
 bif decide (xe<nG) then
  let vT:=List.getD Aw (Int.toNat xe) (0,0,0,[],0,((0,0,[],[],()),(0,0,[],()),()),())
  let x6:=Wh.q60' (vT,AA)
  bif iy [nQ (Wh.q60 (vT,AA)),decide (0≤xe),decide (xe<nG)] then
   bif decide (x6.1<0) then
    some (.inr (.inl (-1,())))
   else
    some (.inl (((IntKind.wrap .i64 (xe+1)),x6.1,Aw),()))
  else none
 else
  some (.inr (.inr (AA,())))
def Wh.aad:(((Int))×(Unit))⊕(((Int))×(Unit)):=.inl default
def Wh.q32 (xs:(List (nE.D))×(Int)):Option (((Int))×(Unit)):=
 let bn:=xs.1
 let left_1:=xs.2
 let v_2:Int:=(↑(List.length bn):Int)
 let yh:=IntKind.wrap .i64 (left_1-v_2)
 bif decide (yh<0) then
  some (-1,())
 else
  let Ai:Wh.T4:=((0,yh,bn),())
  bif lF Wh.DT Ai then
   sumC (kG Wh.DT Wh.aad Ai) (fun Bo=>
    let yT:=Bo.1
    some (yT,())) (fun Em=>
    let F4:=Em.1
    some (F4,()))
  else none
def Wh.q32':=bx Wh.q32
theorem Wh.q32_v:OV Wh.q32 Wh.q32':=e_ _
def Wh.q62 (xs:(ov.D)×(Int)):Option (((Int))×(Unit)):=
 let bn:=xs.1
 let left_1:=xs.2
 let v_2:Int:=(↑(List.length bn.2.1):Int)
 let yh:=IntKind.wrap .i64 (left_1-v_2)
 bif decide (yh<0) then
  some (-1,())
 else
  some (yh,())
def Wh.q62':=bx Wh.q62
theorem Wh.Ut:OV Wh.q62 Wh.q62':=e_ _
end
