import Derived.Test.YthgepblcaaiieaaGreatDoorX5
set_option linter.defProp false
namespace Wh
end Wh
open Wh
open Go Go.Ab
noncomputable section
abbrev VK:Ty:=(.pair (.int .i64) (.pair (.int .i64) (.pair .bool (.pair (.int .u8) .unit))))
abbrev VK.D:Type:=(Int)×((Int)×((Bool)×((Int)×(Unit))))
abbrev VL:Ty:=(.pair .str (.pair (.int .u64) .unit))
abbrev VL.D:Type:=(List UInt8)×((Int)×(Unit))
abbrev bx:Ty:=(.pair (.int .i64) (.pair (.lst (.pair (.int .i64) (.pair .str (.pair (.int .i64) (.pair .str .unit))))) .unit))
abbrev bx.D:Type:=(Int)×((List ((Int)×((List UInt8)×((Int)×((List UInt8)×(Unit))))))×(Unit))
abbrev eI:Ty:=(.pair (.lst (.pair (.int .i64) (.pair (.int .i64) (.pair (.int .i64) (.pair (.int .i64) (.pair .bool .unit)))))) (.pair (.int .i64) .unit))
abbrev eI.D:Type:=(List ((Int)×((Int)×((Int)×((Int)×((Bool)×(Unit)))))))×((Int)×(Unit))
abbrev dj:Ty:=(.pair .bool (.pair (.int .i64) (.pair .str (.pair bx (.pair eI (.pair (.lst (.pair (.int .i64) (.pair (.int .i64) (.pair (.int .i64) (.pair (.int .i64) .unit))))) (.pair (.lst (.pair (.int .i64) (.pair (.int .i64) (.pair (.int .i64) (.pair (.int .i64) (.pair (.int .i64) (.pair (.int .i64) .unit))))))) .unit)))))))
abbrev dj.D:Type:=(Bool)×((Int)×((List UInt8)×((bx.D)×((eI.D)×((List ((Int)×((Int)×((Int)×((Int)×(Unit))))))×((List ((Int)×((Int)×((Int)×((Int)×((Int)×((Int)×(Unit))))))))×(Unit)))))))
abbrev bV:Ty:=(.pair dj (.pair (.lst (.pair (.int .i64) (.pair (.int .i64) (.pair (.int .i64) (.pair .str (.pair (.int .i64) (.pair (.pair (.pair (.int .i64) (.pair (.int .i64) (.pair (.lst (.int .i64)) (.pair (.lst (.int .i64)) .unit)))) (.pair (.pair (.int .i64) (.pair (.int .i64) (.pair (.lst (.pair (.lst (.int .i64)) (.pair .str .unit))) .unit))) .unit)) .unit))))))) (.pair (.lst (.pair (.int .i64) (.pair .str (.pair .bool .unit)))) (.pair (.lst (.pair (.int .i64) (.pair .str (.pair (.int .i64) (.pair .str .unit))))) .unit))))
abbrev bV.D:Type:=(dj.D)×((List ((Int)×((Int)×((Int)×((List UInt8)×((Int)×((((Int)×((Int)×((List (Int))×((List (Int))×(Unit)))))×(((Int)×((Int)×((List ((List (Int))×((List UInt8)×(Unit))))×(Unit))))×(Unit)))×(Unit))))))))×((List ((Int)×((List UInt8)×((Bool)×(Unit)))))×((List ((Int)×((List UInt8)×((Int)×((List UInt8)×(Unit))))))×(Unit))))
abbrev bn:Ty:=(.pair (.int .i64) (.pair .str (.pair (.int .i64) (.pair .str .unit))))
abbrev bn.D:Type:=(Int)×((List UInt8)×((Int)×((List UInt8)×(Unit))))
abbrev fe:Ty:=(.pair (.int .i64) (.pair (.int .i64) (.pair (.lst (.int .i64)) (.pair (.lst (.int .i64)) .unit))))
abbrev fe.D:Type:=(Int)×((Int)×((List (Int))×((List (Int))×(Unit))))
abbrev b7:Ty:=(.pair (.int .i64) (.pair (.int .i64) (.pair (.lst (.pair (.lst (.int .i64)) (.pair .str .unit))) .unit)))
abbrev b7.D:Type:=(Int)×((Int)×((List ((List (Int))×((List UInt8)×(Unit))))×(Unit)))
abbrev fk:Ty:=(.pair fe (.pair b7 .unit))
abbrev fk.D:Type:=(fe.D)×((b7.D)×(Unit))
abbrev b9:Ty:=(.pair (.int .i64) (.pair (.int .i64) (.pair (.int .i64) (.pair .str (.pair (.int .i64) (.pair fk .unit))))))
abbrev b9.D:Type:=(Int)×((Int)×((Int)×((List UInt8)×((Int)×((fk.D)×(Unit))))))
abbrev eL:Ty:=(.pair (.int .i64) (.pair .str (.pair .bool .unit)))
abbrev eL.D:Type:=(Int)×((List UInt8)×((Bool)×(Unit)))
abbrev di:Ty:=(.pair (.int .i64) (.pair (.int .i64) (.pair (.int .i64) (.pair (.int .i64) (.pair .bool .unit)))))
abbrev di.D:Type:=(Int)×((Int)×((Int)×((Int)×((Bool)×(Unit)))))
abbrev ek:Ty:=(.pair (.int .i64) (.pair (.int .i64) (.pair (.int .i64) (.pair (.int .i64) .unit))))
abbrev ek.D:Type:=(Int)×((Int)×((Int)×((Int)×(Unit))))
abbrev er:Ty:=(.pair (.lst (.int .i64)) (.pair .str .unit))
abbrev er.D:Type:=(List (Int))×((List UInt8)×(Unit))
abbrev e_:Ty:=(.pair (.int .i64) (.pair (.int .i64) ek))
abbrev e_.D:Type:=(Int)×((Int)×(ek.D))
abbrev Dv:Ty:=(.pair .str .unit)
abbrev Dv.D:Type:=(List UInt8)×(Unit)
abbrev Py:Ty:=(.pair (.int .i64) (.pair (.int .i64) (.pair (.int .i64) (.pair (.int .i64) (.pair (.int .i64) (.pair .str Dv))))))
abbrev Py.D:Type:=(Int)×((Int)×((Int)×((Int)×((Int)×((List UInt8)×(Dv.D))))))
def Wh.Gj (xs:(bn.D)×(Int)):Option (((Int))×(Unit)):=
 let bp:=xs.1
 let left_1:=xs.2
 let v_2:Int:=(↑(List.length bp.2.1):Int)
 let r5:=IntKind.wrap .i64 (left_1-v_2)
 bif decide (r5<0) then
  some (-1,())
 else
  let AD:Int:=(↑(List.length ((bp.2.2.2).1)):Int)
  let Yd:=IntKind.wrap .i64 (r5-AD)
  bif decide (Yd<0) then
   some (-1,())
  else
   some (Yd,())
abbrev Wh.TF:Type:=((Int)×(Int)×(List (bn.D)))×(Unit)
abbrev Wh.agx:Type:=((((Int))×(Unit))⊕(((Int))×(Unit)))
def Wh.F_ (x:TF):Option (TF⊕agx):=
 let jl:=x.1.1
 let Bn:=x.1.2.1
 let Bg:=x.1.2.2
 let ec:Int:=(↑(List.length Bg):Int)
 bif decide (jl<ec) then
  let gh:bn.D:=List.getD Bg (Int.toNat jl) (0,[],0,[],())
  let nI:=zog Gj (gh,Bn)
  bif jZ [isSm (Gj (gh,Bn)),decide (0≤jl),decide (jl<ec)] then
   bif decide (nI.1<0) then
    some (.inr (.inl (-1,())))
   else
    some (.inl (((IntKind.wrap .i64 (jl+1)),nI.1,Bg),()))
  else none
 else
  some (.inr (.inr (Bn,())))
def Wh.TG:(((Int))×(Unit))⊕(((Int))×(Unit)):=.inl default
def Wh.F9 (xs:(List (bn.D))×(Int)):Option (((Int))×(Unit)):=
 let bp:=xs.1
 let left_1:=xs.2
 let v_2:Int:=(↑(List.length bp):Int)
 let r5:=IntKind.wrap .i64 (left_1-v_2)
 bif decide (r5<0) then
  some (-1,())
 else
  let A2:TF:=((0,r5,bp),())
  bif pY F_ A2 then
   sumC (oa F_ TG A2) (fun Cs=>
    let zE:=Cs.1
    some (zE,())) (fun FO=>
    let HH:=FO.1
    some (HH,()))
  else none
def Wh.Il (xs:(bx.D)×(Int)):Option (((Int))×(Unit)):=
 let bp:=xs.1
 let left_1:=xs.2
 bz F9 (bp.2.1,left_1) fun r_2=>
  bif decide (r_2.1<0) then
   some (-1,())
  else
   some (r_2.1,())
def Wh.q66 (xs:(List (di.D))×(Int)):Option (((Int))×(Unit)):=
 let bp:=xs.1
 let left_1:=xs.2
 let v_2:Int:=(↑(List.length bp):Int)
 let r5:=IntKind.wrap .i64 (left_1-v_2)
 bif decide (r5<0) then
  some (-1,())
 else
  some (r5,())
def Wh.H_ (xs:(eI.D)×(Int)):Option (((Int))×(Unit)):=
 let bp:=xs.1
 let left_1:=xs.2
 bz q66 (bp.1,left_1) fun r_2=>
  bif decide (r_2.1<0) then
   some (-1,())
  else
   some (r_2.1,())
def Wh.q35 (xs:(List (ek.D))×(Int)):Option (((Int))×(Unit)):=
 let bp:=xs.1
 let left_1:=xs.2
 let v_2:Int:=(↑(List.length bp):Int)
 let r5:=IntKind.wrap .i64 (left_1-v_2)
 bif decide (r5<0) then
  some (-1,())
 else
  some (r5,())
def Wh.q68 (xs:(List (e_.D))×(Int)):Option (((Int))×(Unit)):=
 let bp:=xs.1
 let left_1:=xs.2
 let v_2:Int:=(↑(List.length bp):Int)
 let r5:=IntKind.wrap .i64 (left_1-v_2)
 bif decide (r5<0) then
  some (-1,())
 else
  some (r5,())
def Wh.q69 (xs:(dj.D)×(Int)):Option (((Int))×(Unit)):=
 let bp:=xs.1
 let left_1:=xs.2
 let v_2:Int:=(↑(List.length (bp.2.2.1)):Int)
 let r5:=IntKind.wrap .i64 (left_1-v_2)
 bif decide (r5<0) then
  some (-1,())
 else
  bz Il ((bp.2.2.2).1,r5) fun wo=>
   bif decide (wo.1<0) then
    some (-1,())
   else
    bz H_ (bp.2.2.2.2.1,wo.1) fun qj=>
     bif decide (qj.1<0) then
      some (-1,())
     else
      bz q35 ((bp.2.2.2.2.2).1,qj.1) fun Dq=>
       bif decide (Dq.1<0) then
        some (-1,())
       else
        bz q68 ((bp.2.2.2.2.2).2.1,Dq.1) fun Ay=>
         bif decide (Ay.1<0) then
          some (-1,())
         else
          some (Ay.1,())
def Wh.ES (xs:(List (Int))×(Int)):Option (((Int))×(Unit)):=
 let bp:=xs.1
 let left_1:=xs.2
 let v_2:=IntKind.wrap .i64 (left_1-(↑(List.length bp):Int))
 bif decide (v_2<0) then
  some (-1,())
 else
  some (v_2,())
def Wh.H9 (xs:(fe.D)×(Int)):Option (((Int))×(Unit)):=
 let bp:=xs.1
 let left_1:=xs.2
 bz ES (bp.2.2.1,left_1) fun r_2=>
  bif decide (r_2.1<0) then
   some (-1,())
  else
   bz ES ((bp.2.2.2).1,r_2.1) fun dm=>
    bif decide (dm.1<0) then
     some (-1,())
    else
     some (dm.1,())
def Wh.GD (xs:(er.D)×(Int)):Option (((Int))×(Unit)):=
 let bp:=xs.1
 let left_1:=xs.2
 bz ES (bp.1,left_1) fun r_2=>
  bif decide (r_2.1<0) then
   some (-1,())
  else
   let nG:Int:=(↑(List.length bp.2.1):Int)
   let Yc:=IntKind.wrap .i64 (r_2.1-nG)
   bif decide (Yc<0) then
    some (-1,())
   else
    some (Yc,())
abbrev Wh.Uh:Type:=((Int)×(Int)×(List (er.D)))×(Unit)
abbrev Wh.ag4:Type:=((((Int))×(Unit))⊕(((Int))×(Unit)))
def Wh.Gs (x:Uh):Option (Uh⊕ag4):=
 let jl:=x.1.1
 let Bn:=x.1.2.1
 let Bg:=x.1.2.2
 let ec:Int:=(↑(List.length Bg):Int)
 bif decide (jl<ec) then
  let gh:=List.getD Bg (Int.toNat jl) ([],[],())
  let nI:=zog GD (gh,Bn)
  bif jZ [isSm (GD (gh,Bn)),decide (0≤jl),decide (jl<ec)] then
   bif decide (nI.1<0) then
    some (.inr (.inl (-1,())))
   else
    some (.inl (((IntKind.wrap .i64 (jl+1)),nI.1,Bg),()))
  else none
 else
  some (.inr (.inr (Bn,())))
def Wh.Ui:(((Int))×(Unit))⊕(((Int))×(Unit)):=.inl default
def Wh.Im (xs:(List (er.D))×(Int)):Option (((Int))×(Unit)):=
 let bp:=xs.1
 let left_1:=xs.2
 let v_2:Int:=(↑(List.length bp):Int)
 let r5:=IntKind.wrap .i64 (left_1-v_2)
 bif decide (r5<0) then
  some (-1,())
 else
  let A2:Uh:=((0,r5,bp),())
  bif pY Gs A2 then
   sumC (oa Gs Ui A2) (fun Cs=>
    let zE:=Cs.1
    some (zE,())) (fun FO=>
    let HH:=FO.1
    some (HH,()))
  else none
def Wh.q70 (xs:(b7.D)×(Int)):Option (((Int))×(Unit)):=
 let bp:=xs.1
 let left_1:=xs.2
 bz Im (bp.2.2.1,left_1) fun r_2=>
  bif decide (r_2.1<0) then
   some (-1,())
  else
   some (r_2.1,())
def Wh.q37 (xs:(fk.D)×(Int)):Option (((Int))×(Unit)):=
 let bp:=xs.1
 let left_1:=xs.2
 bz H9 (bp.1,left_1) fun r_2=>
  bif decide (r_2.1<0) then
   some (-1,())
  else
   bz q70 (bp.2.1,r_2.1) fun dm=>
    bif decide (dm.1<0) then
     some (-1,())
    else
     some (dm.1,())
def Wh.q65 (xs:(b9.D)×(Int)):Option (((Int))×(Unit)):=
 let bp:=xs.1
 let left_1:=xs.2
 let v_2:Int:=(↑(List.length ((bp.2.2.2).1)):Int)
 let r5:=IntKind.wrap .i64 (left_1-v_2)
 bif decide (r5<0) then
  some (-1,())
 else
  bz q37 ((bp.2.2.2.2.2).1,r5) fun wo=>
   bif decide (wo.1<0) then
    some (-1,())
   else
    some (wo.1,())
abbrev Wh.UO:Type:=((Int)×(Int)×(List (b9.D)))×(Unit)
abbrev Wh.ahv:Type:=((((Int))×(Unit))⊕(((Int))×(Unit)))
def Wh.Fj (x:UO):Option (UO⊕ahv):=
 let jl:=x.1.1
 let Bn:=x.1.2.1
 let Bg:=x.1.2.2
 let ec:Int:=(↑(List.length Bg):Int)
 bif decide (jl<ec) then
  let gh:=List.getD Bg (Int.toNat jl) (0,0,0,[],0,((0,0,[],[],()),(0,0,[],()),()),())
  let nI:=zog q65 (gh,Bn)
  bif jZ [isSm (q65 (gh,Bn)),decide (0≤jl),decide (jl<ec)] then
   bif decide (nI.1<0) then
    some (.inr (.inl (-1,())))
   else
    some (.inl (((IntKind.wrap .i64 (jl+1)),nI.1,Bg),()))
  else none
 else
  some (.inr (.inr (Bn,())))
def Wh.aaN:(((Int))×(Unit))⊕(((Int))×(Unit)):=.inl default
def Wh.q36 (xs:(List (b9.D))×(Int)):Option (((Int))×(Unit)):=
 let bp:=xs.1
 let left_1:=xs.2
 let v_2:Int:=(↑(List.length bp):Int)
 let r5:=IntKind.wrap .i64 (left_1-v_2)
 bif decide (r5<0) then
  some (-1,())
 else
  let A2:UO:=((0,r5,bp),())
  bif pY Fj A2 then
   sumC (oa Fj aaN A2) (fun Cs=>
    let zE:=Cs.1
    some (zE,())) (fun FO=>
    let HH:=FO.1
    some (HH,()))
  else none
def Wh.q67 (xs:(eL.D)×(Int)):Option (((Int))×(Unit)):=
 let bp:=xs.1
 let left_1:=xs.2
 let v_2:Int:=(↑(List.length bp.2.1):Int)
 let r5:=IntKind.wrap .i64 (left_1-v_2)
 bif decide (r5<0) then
  some (-1,())
 else
  some (r5,())
abbrev Wh.UP:Type:=((Int)×(Int)×(List (eL.D)))×(Unit)
abbrev Wh.ahw:Type:=((((Int))×(Unit))⊕(((Int))×(Unit)))
def Wh.GH (x:UP):Option (UP⊕ahw):=
 let jl:=x.1.1
 let Bn:=x.1.2.1
 let Bg:=x.1.2.2
 let ec:Int:=(↑(List.length Bg):Int)
 bif decide (jl<ec) then
  let gh:=List.getD Bg (Int.toNat jl) (0,[],false,())
  let nI:=zog q67 (gh,Bn)
  bif jZ [isSm (q67 (gh,Bn)),decide (0≤jl),decide (jl<ec)] then
   bif decide (nI.1<0) then
    some (.inr (.inl (-1,())))
   else
    some (.inl (((IntKind.wrap .i64 (jl+1)),nI.1,Bg),()))
  else none
 else
  some (.inr (.inr (Bn,())))
def Wh.UQ:(((Int))×(Unit))⊕(((Int))×(Unit)):=.inl default
def Wh.q38 (xs:(List (eL.D))×(Int)):Option (((Int))×(Unit)):=
 let bp:=xs.1
 let left_1:=xs.2
 let v_2:Int:=(↑(List.length bp):Int)
 let r5:=IntKind.wrap .i64 (left_1-v_2)
 bif decide (r5<0) then
  some (-1,())
 else
  let A2:UP:=((0,r5,bp),())
  bif pY GH A2 then
   sumC (oa GH UQ A2) (fun Cs=>
    let zE:=Cs.1
    some (zE,())) (fun FO=>
    let HH:=FO.1
    some (HH,()))
  else none
def Wh.HS (xs:(bV.D)×(Int)):Option (((Int))×(Unit)):=
 let bp:=xs.1
 let left_1:=xs.2
 bz q69 (bp.1,left_1) fun r_2=>
  bif decide (r_2.1<0) then
   some (-1,())
  else
   bz q36 (bp.2.1,r_2.1) fun dm=>
    bif decide (dm.1<0) then
     some (-1,())
    else
     bz q38 (bp.2.2.1,dm.1) fun wo=>
      bif decide (wo.1<0) then
       some (-1,())
      else
       bz F9 ((bp.2.2.2).1,wo.1) fun qj=>
        bif decide (qj.1<0) then
         some (-1,())
        else
         some (qj.1,())
def Wh.Ia (xs:(bn.D)):Option (((bn.D))×(Unit)):=
 let bp:bn.D:=xs
 some ((bp.1,bp.2.1,bp.2.2.1,(bp.2.2.2).1,()),())
abbrev Wh.TH:Type:=((Int)×(List (bn.D))×(Unit))×((List (bn.D)))
abbrev Wh.agy:Type:=((((Unit))×((List (bn.D)))))
def Wh.Gc (x:TH):Option (TH⊕agy):=
 let ez:=x.1.1
 let ng:=x.1.2.1
 let kS:=x.2
 let iL:Int:=(↑(List.length ng):Int)
 bif decide (ez<iL) then
  let AW:=zog Ia (List.getD ng (Int.toNat ez) (0,[],0,[],()))
  let je:List (bn.D):=List.set kS (Int.toNat ez) AW.1
  let ec:bn.D:=List.getD ng (Int.toNat ez) (0,[],0,[],())
  bif jZ [decide (0≤ez),decide (ez<(↑(List.length kS):Int)),isSm (Ia ec),decide (0≤ez),decide (ez<iL)] then
   some (.inl (((IntKind.wrap .i64 (ez+1)),ng,()),je))
  else none
 else
  some (.inr ((),kS))
def Wh.ZS:(((Unit))×((List (bn.D)))):=default
def Wh.Ga (xs:(List (bn.D))):Option (((List (bn.D)))×(Unit)):=
 let bp:List (bn.D):=xs
 let zO:List (bn.D):=@List.replicate (Int×List UInt8×Int×List UInt8×Unit) (Int.toNat (↑(List.length bp):Int)) (0,[],0,[],())
 let v_2:Int:=(↑(List.length bp):Int)
 bif jZ [decide (0≤v_2),decide (v_2≤v_2),decide (v_2≤(↑eD:Int))] then
  let x_21:TH:=((0,bp,()),zO)
  bif pY Gc x_21 then
   let BA:=oa Gc ZS x_21
   let zY:=BA.2
   some (zY,())
  else none
 else none
def Wh.Io (xs:(bx.D)):Option ((((Int)×((List (bn.D))×(Unit))))×(Unit)):=
 let bp:bx.D:=xs
 bz Ga bp.2.1 fun r_1=>
  some ((bp.1,r_1.1,()),())
def Wh.HT (xs:(di.D)):Option (((di.D))×(Unit)):=
 let bp:di.D:=xs
 some ((bp.1,bp.2.1,bp.2.2.1,(bp.2.2.2).1,bp.2.2.2.2.1,()),())
abbrev Wh.Vb:Type:=((Int)×(List (di.D))×(Unit))×((List (di.D)))
abbrev Wh.ahQ:Type:=((((Unit))×((List (di.D)))))
def Wh.GP (x:Vb):Option (Vb⊕ahQ):=
 let ez:=x.1.1
 let ng:=x.1.2.1
 let kS:=x.2
 let iL:Int:=(↑(List.length ng):Int)
 bif decide (ez<iL) then
  let AW:=zog HT (List.getD ng (Int.toNat ez) (0,0,0,0,false,()))
  let je:List (di.D):=List.set kS (Int.toNat ez) AW.1
  let ec:di.D:=List.getD ng (Int.toNat ez) (0,0,0,0,false,())
  bif jZ [decide (0≤ez),decide (ez<(↑(List.length kS):Int)),isSm (HT ec),decide (0≤ez),decide (ez<iL)] then
   some (.inl (((IntKind.wrap .i64 (ez+1)),ng,()),je))
  else none
 else
  some (.inr ((),kS))
def Wh.aa8:(((Unit))×((List (di.D)))):=default
def Wh.q73 (xs:(List (di.D))):Option (((List (di.D)))×(Unit)):=
 let bp:List (di.D):=xs
 let zO:List (di.D):=@List.replicate (Int×Int×Int×Int×Bool×Unit) (Int.toNat (↑(List.length bp):Int)) (0,0,0,0,false,())
 let v_2:Int:=(↑(List.length bp):Int)
 bif jZ [decide (0≤v_2),decide (v_2≤v_2),decide (v_2≤(↑eD:Int))] then
  let x_21:Vb:=((0,bp,()),zO)
  bif pY GP x_21 then
   let BA:=oa GP aa8 x_21
   let zY:=BA.2
   some (zY,())
  else none
 else none
def Wh.Ic (xs:(eI.D)):Option ((((List (di.D))×((Int)×(Unit))))×(Unit)):=
 let bp:eI.D:=xs
 bz q73 bp.1 fun r_1=>
  some ((r_1.1,bp.2.1,()),())
def Wh.q71 (xs:(ek.D)):Option (((ek.D))×(Unit)):=
 let bp:ek.D:=xs
 some ((bp.1,bp.2.1,bp.2.2.1,(bp.2.2.2).1,()),())
abbrev Wh.UR:Type:=((Int)×(List (ek.D))×(Unit))×((List (ek.D)))
abbrev Wh.ahx:Type:=((((Unit))×((List (ek.D)))))
def Wh.GI (x:UR):Option (UR⊕ahx):=
 let ez:=x.1.1
 let ng:=x.1.2.1
 let kS:=x.2
 let iL:Int:=(↑(List.length ng):Int)
 bif decide (ez<iL) then
  let AW:=zog q71 (List.getD ng (Int.toNat ez) (0,0,0,0,()))
  let je:List (ek.D):=List.set kS (Int.toNat ez) AW.1
  let ec:ek.D:=List.getD ng (Int.toNat ez) (0,0,0,0,())
  bif jZ [decide (0≤ez),decide (ez<(↑(List.length kS):Int)),isSm (q71 ec),decide (0≤ez),decide (ez<iL)] then
   some (.inl (((IntKind.wrap .i64 (ez+1)),ng,()),je))
  else none
 else
  some (.inr ((),kS))
def Wh.aaO:(((Unit))×((List (ek.D)))):=default
def Wh.q39 (xs:(List (ek.D))):Option (((List (ek.D)))×(Unit)):=
 let bp:List (ek.D):=xs
 let zO:List (ek.D):=@List.replicate (Int×Int×Int×Int×Unit) (Int.toNat (↑(List.length bp):Int)) (0,0,0,0,())
 let v_2:Int:=(↑(List.length bp):Int)
 bif jZ [decide (0≤v_2),decide (v_2≤v_2),decide (v_2≤(↑eD:Int))] then
  let x_21:UR:=((0,bp,()),zO)
  bif pY GI x_21 then
   let BA:=oa GI aaO x_21
   let zY:=BA.2
   some (zY,())
  else none
 else none
def Wh.HU (xs:(e_.D)):Option (((e_.D))×(Unit)):=
 let bp:e_.D:=xs
 some ((bp.1,bp.2.1,bp.2.2.1,(bp.2.2.2).1,bp.2.2.2.2.1,(bp.2.2.2.2.2).1,()),())
abbrev Wh.Vc:Type:=((Int)×(List (e_.D))×(Unit))×((List (e_.D)))
abbrev Wh.ahR:Type:=((((Unit))×((List (e_.D)))))
def Wh.GQ (x:Vc):Option (Vc⊕ahR):=
 let ez:=x.1.1
 let ng:=x.1.2.1
 let kS:=x.2
 let iL:Int:=(↑(List.length ng):Int)
 bif decide (ez<iL) then
  let AW:=zog HU (List.getD ng (Int.toNat ez) (0,0,0,0,0,0,()))
  let je:List (e_.D):=List.set kS (Int.toNat ez) AW.1
  let ec:e_.D:=List.getD ng (Int.toNat ez) (0,0,0,0,0,0,())
  bif jZ [decide (0≤ez),decide (ez<(↑(List.length kS):Int)),isSm (HU ec),decide (0≤ez),decide (ez<iL)] then
   some (.inl (((IntKind.wrap .i64 (ez+1)),ng,()),je))
  else none
 else
  some (.inr ((),kS))
def Wh.aa9:(((Unit))×((List (e_.D)))):=default
def Wh.q75 (xs:(List (e_.D))):Option (((List (e_.D)))×(Unit)):=
 let bp:List (e_.D):=xs
 let zO:List (e_.D):=@List.replicate (Int×Int×Int×Int×Int×Int×Unit) (Int.toNat (↑(List.length bp):Int)) (0,0,0,0,0,0,())
 let v_2:Int:=(↑(List.length bp):Int)
 bif jZ [decide (0≤v_2),decide (v_2≤v_2),decide (v_2≤(↑eD:Int))] then
  let x_21:Vc:=((0,bp,()),zO)
  bif pY GQ x_21 then
   let BA:=oa GQ aa9 x_21
   let zY:=BA.2
   some (zY,())
  else none
 else none
def Wh.q76 (xs:(dj.D)):Option ((((Bool)×((Int)×((List UInt8)×(((Int)×((List (bn.D))×(Unit)))×(((List (di.D))×((Int)×(Unit)))×((List (ek.D))×((List (e_.D))×(Unit)))))))))×(Unit)):=
 let bp:dj.D:=xs
 bz Io ((bp.2.2.2).1) fun r_1=>
  bz Ic (bp.2.2.2.2.1) fun r_2=>
   bz q39 ((bp.2.2.2.2.2).1) fun r_3=>
    bz q75 ((bp.2.2.2.2.2).2.1) fun dm=>
     some ((bp.1,bp.2.1,bp.2.2.1,r_1.1,r_2.1,r_3.1,dm.1,()),())
abbrev Wh.T3:Type:=((Int)×(List (Int))×(Unit))×((List (Int)))
abbrev Wh.agP:Type:=((((Unit))×((List (Int)))))
def Wh.Gk (x:T3):Option (T3⊕agP):=
 let rm:=x.1.1
 let a_10:=x.1.2.1
 let BL:=x.2
 let nS:=decide (rm<(↑(List.length a_10):Int))
 bif nS then
  let C7:=List.set BL (Int.toNat rm) (List.getD a_10 (Int.toNat rm) 0)
  bif jZ [decide (0≤rm),decide (rm<(↑(List.length BL):Int)),decide (0≤rm),nS] then
   some (.inl (((IntKind.wrap .i64 (rm+1)),a_10,()),C7))
  else none
 else
  some (.inr ((),BL))
def Wh.Z_:(((Unit))×((List (Int)))):=default
def Wh.EU (xs:(List (Int))):Option (((List (Int)))×(Unit)):=
 let bp:=xs
 let zO:List Int:=List.replicate (Int.toNat (↑(List.length bp):Int)) 0
 bif jZ [decide (0≤(↑(List.length bp):Int)),decide ((↑(List.length bp):Int)≤(↑(List.length bp):Int)),decide ((↑(List.length bp):Int)≤(↑eD:Int))] then
  let x_16:T3:=((0,bp,()),zO)
  bif pY Gk x_16 then
   let LL:=oa Gk Z_ x_16
   let je:=LL.2
   some (je,())
  else none
 else none
def Wh.Ib (xs:(fe.D)):Option ((((Int)×((Int)×((List (Int))×((List (Int))×(Unit))))))×(Unit)):=
 let bp:fe.D:=xs
 bz EU (bp.2.2.1) fun r_1=>
  bz EU ((bp.2.2.2).1) fun r_2=>
   some ((bp.1,bp.2.1,r_1.1,r_2.1,()),())
def Wh.GF (xs:(er.D)):Option ((((List (Int))×(Dv.D)))×(Unit)):=
 let bp:=xs
 bz EU bp.1 fun r_1=>
  some ((r_1.1,bp.2.1,()),())
abbrev Wh.Uj:Type:=((Int)×(List (er.D))×(Unit))×((List (er.D)))
abbrev Wh.ag5:Type:=((((Unit))×((List (er.D)))))
def Wh.Gt (x:Uj):Option (Uj⊕ag5):=
 let ez:=x.1.1
 let ng:=x.1.2.1
 let kS:=x.2
 let iL:Int:=(↑(List.length ng):Int)
 bif decide (ez<iL) then
  let AW:=zog GF (List.getD ng (Int.toNat ez) ([],[],()))
  let je:=List.set kS (Int.toNat ez) AW.1
  let ec:=List.getD ng (Int.toNat ez) ([],[],())
  bif jZ [decide (0≤ez),decide (ez<(↑(List.length kS):Int)),isSm (GF ec),decide (0≤ez),decide (ez<iL)] then
   some (.inl (((IntKind.wrap .i64 (ez+1)),ng,()),je))
  else none
 else
  some (.inr ((),kS))
def Wh.aao:(((Unit))×((List (er.D)))):=default
def Wh.Ip (xs:(List (er.D))):Option (((List (er.D)))×(Unit)):=
 let bp:=xs
 let zO:List (er.D):=@List.replicate (List Int×List UInt8×Unit) (Int.toNat (↑(List.length bp):Int)) ([],[],())
 let v_2:Int:=(↑(List.length bp):Int)
 bif jZ [decide (0≤v_2),decide (v_2≤v_2),decide (v_2≤(↑eD:Int))] then
  let x_21:Uj:=((0,bp,()),zO)
  bif pY Gt x_21 then
   let BA:=oa Gt aao x_21
   let zY:=BA.2
   some (zY,())
  else none
 else none
def Wh.q77 (xs:(b7.D)):Option ((((Int)×((Int)×((List (er.D))×(Unit)))))×(Unit)):=
 let bp:=xs
 bz Ip (bp.2.2.1) fun r_1=>
  some ((bp.1,bp.2.1,r_1.1,()),())
def Wh.q41 (xs:(fk.D)):Option (((((Int)×((Int)×((List (Int))×((List (Int))×(Unit)))))×(((Int)×((Int)×((List (er.D))×(Unit))))×(Unit))))×(Unit)):=
 let bp:=xs
 bz Ib bp.1 fun r_1=>
  bz q77 bp.2.1 fun r_2=>
   some ((r_1.1,r_2.1,()),())
def Wh.q72 (xs:(b9.D)):Option ((((Int)×((Int)×((Int)×((List UInt8)×((Int)×((((Int)×((Int)×((List (Int))×((List (Int))×(Unit)))))×(((Int)×((Int)×((List (er.D))×(Unit))))×(Unit)))×(Unit))))))))×(Unit)):=
 let bp:=xs
 bz q41 ((bp.2.2.2.2.2).1) fun r_1=>
  some ((bp.1,bp.2.1,bp.2.2.1,(bp.2.2.2).1,bp.2.2.2.2.1,r_1.1,()),())
abbrev Wh.UT:Type:=((Int)×(List (b9.D))×(Unit))×((List (b9.D)))
abbrev Wh.ahy:Type:=((((Unit))×((List (b9.D)))))
def Wh.GJ (x:UT):Option (UT⊕ahy):=
 let ez:=x.1.1
 let ng:=x.1.2.1
 let kS:=x.2
 let iL:Int:=(↑(List.length ng):Int)
 bif decide (ez<iL) then
  let AW:=zog q72 (List.getD ng (Int.toNat ez) (0,0,0,[],0,((0,0,[],[],()),(0,0,[],()),()),()))
  let je:=List.set kS (Int.toNat ez) AW.1
  let ec:=List.getD ng (Int.toNat ez) (0,0,0,[],0,((0,0,[],[],()),(0,0,[],()),()),())
  bif jZ [decide (0≤ez),decide (ez<(↑(List.length kS):Int)),isSm (q72 ec),decide (0≤ez),decide (ez<iL)] then
   some (.inl (((IntKind.wrap .i64 (ez+1)),ng,()),je))
  else none
 else
  some (.inr ((),kS))
def Wh.aaQ:(((Unit))×((List (b9.D)))):=default
def Wh.q40 (xs:(List (b9.D))):Option (((List (b9.D)))×(Unit)):=
 let bp:=xs
 let zO:List (b9.D):=@List.replicate (Int×Int×Int×List UInt8×Int×((Int×Int×List Int×List Int×Unit)×(Int×Int×List (List Int×List UInt8×Unit)×Unit)×Unit)×Unit) (Int.toNat (↑(List.length bp):Int)) (0,0,0,[],0,((0,0,[],[],()),(0,0,[],()),()),())
 let v_2:Int:=(↑(List.length bp):Int)
 bif jZ [decide (0≤v_2),decide (v_2≤v_2),decide (v_2≤(↑eD:Int))] then
  let x_21:UT:=((0,bp,()),zO)
  bif pY GJ x_21 then
   let BA:=oa GJ aaQ x_21
   let zY:=BA.2
   some (zY,())
  else none
 else none
def Wh.q74 (xs:(eL.D)):Option (((eL.D))×(Unit)):=
 let bp:=xs
 some ((bp.1,bp.2.1,bp.2.2.1,()),())
abbrev Wh.UU:Type:=((Int)×(List (eL.D))×(Unit))×((List (eL.D)))
abbrev Wh.ahz:Type:=((((Unit))×((List (eL.D)))))
def Wh.GK (x:UU):Option (UU⊕ahz):=
 let ez:=x.1.1
 let ng:=x.1.2.1
 let kS:=x.2
 let iL:Int:=(↑(List.length ng):Int)
 bif decide (ez<iL) then
  let AW:=zog q74 (List.getD ng (Int.toNat ez) (0,[],false,()))
  let je:=List.set kS (Int.toNat ez) AW.1
  let ec:=List.getD ng (Int.toNat ez) (0,[],false,())
  bif jZ [decide (0≤ez),decide (ez<(↑(List.length kS):Int)),isSm (q74 ec),decide (0≤ez),decide (ez<iL)] then
   some (.inl (((IntKind.wrap .i64 (ez+1)),ng,()),je))
  else none
 else
  some (.inr ((),kS))
def Wh.aaR:(((Unit))×((List (eL.D)))):=default
def Wh.q42 (xs:(List (eL.D))):Option (((List (eL.D)))×(Unit)):=
 let bp:=xs
 let zO:List (eL.D):=@List.replicate (Int×List UInt8×Bool×Unit) (Int.toNat (↑(List.length bp):Int)) (0,[],false,())
 let v_2:Int:=(↑(List.length bp):Int)
 bif jZ [decide (0≤v_2),decide (v_2≤v_2),decide (v_2≤(↑eD:Int))] then
  let x_21:UU:=((0,bp,()),zO)
  bif pY GK x_21 then
   let BA:=oa GK aaR x_21
   let zY:=BA.2
   some (zY,())
  else none
 else none
def Wh.DQ (xs:(bV.D)):Option (((((Bool)×((Int)×((List UInt8)×(((Int)×((List (bn.D))×(Unit)))×(((List (di.D))×((Int)×(Unit)))×((List (ek.D))×((List (e_.D))×(Unit))))))))×((List (b9.D))×((List (eL.D))×((List (bn.D))×(Unit))))))×(Unit)):=
 let bp:=xs
 bz q76 bp.1 fun r_1=>
  bz q40 bp.2.1 fun r_2=>
   bz q42 (bp.2.2.1) fun r_3=>
    bz Ga ((bp.2.2.2).1) fun dm=>
     some ((r_1.1,r_2.1,r_3.1,dm.1,()),())
def Wh.cr (xs:(Int)×(Int)×(Int)):Option (((Bool))×(Unit)):=
 let wh:=xs.1
 let SM:=xs.2.1
 let SC:=xs.2.2
 let sn:=bif decide (wh≥SM) then decide (wh≤SC) else false
 some (sn,())
abbrev Wh.Ua:Type:=((Int)×(Int)×(List UInt8))×(Unit)
abbrev Wh.agX:Type:=((((Int))×(Unit))⊕((Unit)×(Unit)))
def Wh.DZ (x:Ua):Option (Ua⊕agX):=
 let KL:=x.1.1
 let b_11:=x.1.2.1
 let IP:=x.1.2.2
 let Ac:=decide (KL<(↑(List.length IP):Int))
 bif Ac then
  let fj:Int:=(↑(UInt8.toNat (List.getD IP (Int.toNat KL) (0:UInt8))):Int)
  let iL:=fj==b_11
  bif jZ [decide (0≤KL),Ac] then
   bif iL then
    some (.inr (.inl (KL,())))
   else
    some (.inl (((IntKind.wrap .i64 (KL+1)),b_11,IP),()))
  else none
 else
  some (.inr (.inr ((),())))
def Wh.aah:(((Int))×(Unit))⊕((Unit)×(Unit)):=.inl default
def Wh.Ao (xs:(List UInt8)×(Int)×(Int)):Option (((Int))×(Unit)):=
 let b6:=xs.1
 let As:=xs.2.1
 let b_2:=xs.2.2
 let x_17:Ua:=((As,b_2,b6),())
 bif pY DZ x_17 then
  sumC (oa DZ aah x_17) (fun CX=>
   let eK:=CX.1
   some (eK,())) (fun _=>
   some (-1,()))
 else none
abbrev Wh.Uz:Type:=((Int)×(List UInt8)×(Int))×(Unit)
abbrev Wh.ahj:Type:=((((Int))×(Unit))⊕(((Int))×(Unit)))
def Wh.GB (x:Uz):Option (Uz⊕ahj):=
 let Jp:=x.1.1
 let s_18:=x.1.2.1
 let n_19:=x.1.2.2
 let eK:=decide (Jp<(↑(List.length s_18):Int))
 bif eK then
  let gh:Int:=(↑(UInt8.toNat (List.getD s_18 (Int.toNat Jp) (0:UInt8))):Int)
  let s_:=bif decide (gh<48) then true else decide (gh>57)
  bif jZ [!!decide (gh<48) || decide (0≤Jp),!!decide (gh<48) || eK,decide (0≤Jp),eK] then
   bif s_ then
    some (.inr (.inl (-1,())))
   else
    bif jZ [decide (0≤Jp),eK] then
     some (.inl (((IntKind.wrap .i64 (Jp+1)),s_18,(IntKind.wrap .i64 ((IntKind.wrap .i64 (n_19*10))+IntKind.wrap .i64 (IntKind.wrap .u8 (gh-48))))),()))
    else none
  else none
 else
  some (.inr (.inr (n_19,())))
def Wh.aaB:(((Int))×(Unit))⊕(((Int))×(Unit)):=.inl default
def Wh.Ba (xs:(List UInt8)):Option (((Int))×(Unit)):=
 let b6:=xs
 let r_1:=zog cr ((↑(List.length b6):Int),1,6)
 let v_2:=bif !r_1.1 then true else bif decide ((↑(List.length b6):Int)>1) then(↑(UInt8.toNat (List.getD b6 (Int.toNat 0) (0:UInt8))):Int)==48 else false
 bif jZ [!(decide ((↑(List.length b6):Int)>1) && !!r_1.1) || decide ((0:Int)≤0),!(decide ((↑(List.length b6):Int)>1) && !!r_1.1) || decide (0<(↑(List.length b6):Int)),isSm (cr ((↑(List.length b6):Int),1,6))] then
  bif v_2 then
   some (-1,())
  else
   let x_31:Uz:=((0,b6,0),())
   bif pY GB x_31 then
    sumC (oa GB aaB x_31) (fun y_32=>
     let v_34:=y_32.1
     some (v_34,())) (fun z_33=>
     let n_35:=z_33.1
     some (n_35,()))
   else none
 else none
def Wh.q25 (abw:((Int))→Option (((List UInt8))×(Unit)))(Pp:((Int))→((List UInt8))×(Unit))(xs:(Int)):Option (((List UInt8))×(Unit)):=
 let wh:=xs
 bif decide (wh < -9223372036854775807) then
  some ([(45:UInt8),(57:UInt8),(50:UInt8),(50:UInt8),(51:UInt8),(51:UInt8),(55:UInt8),(50:UInt8),(48:UInt8),(51:UInt8),(54:UInt8),(56:UInt8),(53:UInt8),(52:UInt8),(55:UInt8),(55:UInt8),(53:UInt8),(56:UInt8),(48:UInt8),(56:UInt8)],())
 else
  bif decide (wh<0) then
   let ia:=IntKind.wrap .i64 (0-wh)
   let Ap:Dv.D:=Pp ia
   let A1:List UInt8:=[(45:UInt8)]++Ap.1
   bif jZ [decide ((1:Nat)+List.length ((Pp ia).1)≤eD),isSm (abw ia)] then
    some (A1,())
   else none
  else
   bif decide (wh<10) then
    let Tw:List Int:=[IntKind.wrap .u8 (IntKind.wrap .i64 (48+wh))]
    some (sM Tw,())
   else
    let pb_12:List Int:=[IntKind.wrap .u8 (IntKind.wrap .i64 (48+Int.tmod wh 10))]
    let Ac:=IntKind.wrap .i64 (Int.tdiv wh 10)
    let y3:Dv.D:=Pp Ac
    let gh:=y3.1++sM pb_12
    bif jZ [decide (List.length ((Pp Ac).1)+(1:Nat)≤eD),true,isSm (abw Ac),true] then
     some (gh,())
    else none
def Wh.Ch:Nat→((Int))→Option (((List UInt8))×(Unit))
 |0,_=>none
 |n+1,xs=>q25 (Ch n) (fun x=>match Ch n x with | some y=>y|none=>default) xs
def Wh.Us (n:Nat):Ch (n+1)=q25 (Ch n) (fun x=>match Ch n x with | some y=>y|none=>default):=rfl
def Wh.gb (xs:(Int)):Option (((List UInt8))×(Unit)):=Ch 20 xs
abbrev Wh.Vl:Type:=((Int)×(Int)×(Unit))×((List (Int)))
abbrev Wh.ah0:Type:=((((Unit))×((List (Int)))))
def Wh.ID (x:Vl):Option (Vl⊕ah0):=
 let w8:=x.1.1
 let n_28:=x.1.2.1
 let SV:=x.2
 bif decide (w8≥0) then
  let xe:List Int:=[IntKind.wrap .u8 (Int.fdiv n_28 (2 ^ Min.min (Int.toNat (IntKind.wrap .i64 (8*w8))) (Go.IntKind.bits Go.IntKind.i64)))]
  let AG:=SV++xe
  bif jZ [decide (List.length SV+(1:Nat)≤eD),decide (0≤(IntKind.wrap .i64 (8*w8)))] then
   some (.inl (((IntKind.wrap .i64 (w8-1)),n_28,()),AG))
  else none
 else
  some (.inr ((),SV))
def Wh.abh:(((Unit))×((List (Int)))):=default
abbrev Wh.Vk:Type:=((Unit)×(List UInt8))×((List (Int)))
abbrev Wh.ahZ:Type:=((((Unit)×(List UInt8))×((List (Int)))))
def Wh.GU (x:Vk):Option (Vk⊕ahZ):=
 let abX:=x.1.2
 let F5:=x.2
 let Aa:Bool:=(Int.tmod (↑(List.length F5):Int) 64) != 56
 bif Aa then
  let BL:=F5 ++ [(0:Int)]
  bif jZ [decide (List.length F5+(1:Nat)≤eD)] then
   some (.inl (((),abX),BL))
  else none
 else
  some (.inr (((),abX),F5))
def Wh.abg:(((Unit)×(List UInt8))×((List (Int)))):=default
def Wh.q85 (xs:(List UInt8)):Option (((List (Int)))×(Unit)):=
 let z_:=xs
 let zO:List Int:=bytesOf z_ ++ [(128:Int)]
 bif jZ [decide (List.length (bytesOf z_)+(1:Nat)≤eD),decide (List.length z_≤eD)] then
  let x_12:Vk:=(((),z_),zO)
  bif pY GU x_12 then
   let y_13:=oa GU abg x_12
   let akS:=y_13.1.2
   let tc:=y_13.2
   let x_37:Vl:=((7,(IntKind.wrap .i64 ((↑(List.length akS):Int)*8)),()),tc)
   bif pY ID x_37 then
    let y_38:=oa ID abh x_37
    let AO:=y_38.2
    some (AO,())
   else none
  else none
 else none
def Wh.lA (xs:(Int)×(Int)):Option (((Int))×(Unit)):=
 let zH:=xs.1
 let n_1:=xs.2
 let v_2:Int:=Int.fdiv zH (2 ^ Min.min (Int.toNat n_1) (Go.IntKind.bits Go.IntKind.u32))
 let ia:=IntKind.wrap .i64 (32-n_1)
 let AD:Int:=pS Go.BinOp.or Go.IntKind.u32 v_2 (IntKind.wrap .u32 (zH*2 ^ Min.min (Int.toNat ia) (Go.IntKind.bits Go.IntKind.u32)))
 bif jZ [decide (0≤ia),decide (0≤n_1)] then
  some (AD,())
 else none
abbrev Wh.TT:Type:=((Int)×(Unit))×((List (Int)))
abbrev Wh.agH:Type:=((((Unit))×((List (Int)))))
def Wh.HZ (x:TT):Option (TT⊕agH):=
 let F0:=x.1.1
 let C8:=x.2
 bif decide (F0<64) then
  let G9:=IntKind.wrap .i64 (F0-15)
  let LJ:=List.getD C8 (Int.toNat G9) 0
  bif jZ [decide (0≤G9),decide (G9<(↑(List.length C8):Int))] then
   let v_99:=IntKind.wrap .i64 (F0-2)
   let LK:=List.getD C8 (Int.toNat v_99) 0
   bif jZ [decide (0≤v_99),decide (v_99<(↑(List.length C8):Int))] then
    let r_102:=zog lA (LJ,7)
    let Vy:=zog lA (LJ,18)
    let v_105:Int:=Int.fdiv LJ (2 ^ Min.min (Int.toNat 3) (Go.IntKind.bits Go.IntKind.u32))
    let a_107:Int:=pS Go.BinOp.xor Go.IntKind.u32 (pS Go.BinOp.xor Go.IntKind.u32 r_102.1 Vy.1) v_105
    bif jZ [true,isSm (lA (LJ,18)),isSm (lA (LJ,7))] then
     let r_108:=zog lA (LK,17)
     let Lb:=zog lA (LK,19)
     let v_111:Int:=Int.fdiv LK (2 ^ Min.min (Int.toNat 10) (Go.IntKind.bits Go.IntKind.u32))
     let c_113:Int:=pS Go.BinOp.xor Go.IntKind.u32 (pS Go.BinOp.xor Go.IntKind.u32 r_108.1 Lb.1) v_111
     bif jZ [true,isSm (lA (LK,19)),isSm (lA (LK,17))] then
      let pb_114:List Int:=[IntKind.wrap .u32 (IntKind.wrap .u32 (IntKind.wrap .u32 (List.getD C8 (Int.toNat (IntKind.wrap .i64 (F0-16))) 0+a_107)+List.getD C8 (Int.toNat (IntKind.wrap .i64 (F0-7))) 0)+c_113)]
      let KU:=C8++pb_114
      let v_116:=IntKind.wrap .i64 (F0-16)
      let IW:=IntKind.wrap .i64 (F0-7)
      bif jZ [decide (List.length C8+(1:Nat)≤eD),decide (0≤IW),decide (IW<(↑(List.length C8):Int)),decide (0≤v_116),decide (v_116<(↑(List.length C8):Int))] then
       some (.inl (((IntKind.wrap .i64 (F0+1)),()),KU))
      else none
     else none
    else none
   else none
  else none
 else
  some (.inr ((),C8))
def Wh.Z0:(((Unit))×((List (Int)))):=default
abbrev Wh.TS:Type:=((Int)×(List (Int))×(Unit))×((List (Int)))
abbrev Wh.agG:Type:=((((Unit))×((List (Int)))))
def Wh.HY (x:TS):Option (TS⊕agG):=
 let HD:=x.1.1
 let Em:=x.1.2.1
 let AG:=x.2
 bif decide (HD<16) then
  let O9:List Int:=[pS Go.BinOp.or Go.IntKind.u32 (pS Go.BinOp.or Go.IntKind.u32 (pS Go.BinOp.or Go.IntKind.u32 (IntKind.wrap .u32 (IntKind.wrap .u32 (List.getD Em (Int.toNat (IntKind.wrap .i64 (4*HD))) 0)*2 ^ Min.min (Int.toNat 24) (Go.IntKind.bits Go.IntKind.u32))) (IntKind.wrap .u32 (IntKind.wrap .u32 (List.getD Em (Int.toNat (IntKind.wrap .i64 (IntKind.wrap .i64 (4*HD)+1))) 0)*2 ^ Min.min (Int.toNat 16) (Go.IntKind.bits Go.IntKind.u32)))) (IntKind.wrap .u32 (IntKind.wrap .u32 (List.getD Em (Int.toNat (IntKind.wrap .i64 (IntKind.wrap .i64 (4*HD)+2))) 0)*2 ^ Min.min (Int.toNat 8) (Go.IntKind.bits Go.IntKind.u32)))) (IntKind.wrap .u32 (List.getD Em (Int.toNat (IntKind.wrap .i64 (IntKind.wrap .i64 (4*HD)+3))) 0))]
  let vT:=AG++O9
  let pz:=IntKind.wrap .i64 (4*HD)
  bif jZ [decide (List.length AG+(1:Nat)≤eD),decide (0≤IntKind.wrap .i64 (pz+3)),decide (IntKind.wrap .i64 (pz+3)<(↑(List.length Em):Int)),true,decide (0≤IntKind.wrap .i64 (pz+2)),decide (IntKind.wrap .i64 (pz+2)<(↑(List.length Em):Int)),true,decide (0≤IntKind.wrap .i64 (pz+1)),decide (IntKind.wrap .i64 (pz+1)<(↑(List.length Em):Int)),true,decide (0≤pz),decide (pz<(↑(List.length Em):Int))] then
   some (.inl (((IntKind.wrap .i64 (HD+1)),Em,()),vT))
  else none
 else
  some (.inr ((),AG))
def Wh.ZZ:(((Unit))×((List (Int)))):=default
def Wh.HX (xs:(List (Int))):Option (((List (Int)))×(Unit)):=
 let zK:=xs
 let x_59:TS:=((0,zK,()),[])
 bif pY HY x_59 then
  let y_60:=oa HY ZZ x_59
  let ls_61:=y_60.2
  let x_124:TT:=((16,()),ls_61)
  bif pY HZ x_124 then
   let y_125:=oa HZ Z0 x_124
   let ls_126:=y_125.2
   some (ls_126,())
  else none
 else none
def Wh.q84 (_:Unit):Option (((List (Int)))×(Unit)):=
 let pb_0:List Int:=[(1116352408:Int),1899447441,3049323471,3921009573,961987163,1508970993,2453635748,2870763221,3624381080,310598401,607225278,1426881987,1925078388,2162078206,2614888103,3248222580,3835390401,4022224774,264347078,604807628,770255983,1249150122,1555081692,1996064986,2554220882,2821834349,2952996808,3210313671,3336571891,3584528711,113926993,338241895,666307205,773529912,1294757372,1396182291,1695183700,1986661051,2177026350,2456956037,2730485921,2820302411,3259730800,3345764771,3516065817,3600352804,4094571909,275423344,430227734,506948616,659060556,883997877,958139571,1322822218,1537002063,1747873779,1955562222,2024104815,2227730452,2361852424,2428436474,2756734187,3204031479,3329325298]
 some (pb_0,())
abbrev Wh.TR:Type:=((Int)×(Unit)×(List (Int))×(Unit))×((List (Int))×(List (Int)))
abbrev Wh.agF:Type:=((((Unit))×((List (Int)))))
def Wh.K7 (x:TR):Option (TR⊕agF):=
 let FY:=x.1.1
 let Sz:=(x.1.2.2).1
 let SS:=x.2.1
 let SU:=x.2.2
 bif decide (FY<8) then
  let pb_193:List Int:=[IntKind.wrap .u32 (List.getD Sz (Int.toNat FY) 0+List.getD SS (Int.toNat FY) 0)]
  let ls_194:=SU++pb_193
  bif jZ [decide (List.length SU+(1:Nat)≤eD),decide (0≤FY),decide (FY<(↑(List.length SS):Int)),decide (0≤FY),decide (FY<(↑(List.length Sz):Int))] then
   some (.inl (((IntKind.wrap .i64 (FY+1)),(),Sz,()),SS,ls_194))
  else none
 else
  some (.inr ((),SU))
def Wh.ZY:(((Unit))×((List (Int)))):=default
abbrev Wh.TP:Type:=((Int)×(Unit)×(Unit)×(Unit)×(List (Int))×(Int)×(Int)×(Int)×(Int))×((List (Int))×(List (Int))×(List (Int)))
abbrev Wh.agE:Type:=((((Unit)×(Unit)×(Unit)×(List (Int))×(Int)×(Int)×(Int)×(Int))×((List (Int))×(List (Int))×(List (Int)))))
def Wh.K6 (x:TP):Option (TP⊕agE):=
 let Jz:=x.1.1
 let h_73:=(x.1.2.2.2.2).1
 let i_74:=(x.1.2.2.2.2).2.1
 let Zu:=(x.1.2.2.2.2).2.2.1
 let a_76:=(x.1.2.2.2.2).2.2.2.1
 let t_77:=(x.1.2.2.2.2).2.2.2.2
 let EA:=x.2.1
 let ls_79:=x.2.2.1
 let KW:=x.2.2.2
 bif decide (Jz>0) then
  let ls_82:=List.set EA (Int.toNat Jz) (List.getD EA (Int.toNat (IntKind.wrap .i64 (Jz-1))) 0)
  let FN:=IntKind.wrap .i64 (Jz-1)
  bif jZ [decide (0≤Jz),decide (Jz<(↑(List.length EA):Int)),decide (0≤FN),decide (FN<(↑(List.length EA):Int))] then
   some (.inl ((FN,(),(),(),h_73,i_74,Zu,a_76,t_77),ls_82,ls_79,KW))
  else none
 else
  some (.inr (((),(),(),h_73,i_74,Zu,a_76,t_77),EA,ls_79,KW))
def Wh.TQ:(((Unit)×(Unit)×(Unit)×(List (Int))×(Int)×(Int)×(Int)×(Int))×((List (Int))×(List (Int))×(List (Int)))):=default
abbrev Wh.TN:Type:=((Unit)×(Int)×(Unit)×(Unit)×(List (Int)))×((List (Int))×(List (Int))×(List (Int)))
abbrev Wh.agD:Type:=((((Unit)×(List (Int)))×((List (Int)))))
def Wh.HW (x:TN):Option (TN⊕agD):=
 let FW:=x.1.2.1
 let h_103:=x.1.2.2.2.2
 let xd:=x.2.1
 let SN:=x.2.2.1
 let SO:=x.2.2.2
 bif decide (FW<64) then
  let Ej:=List.getD xd (Int.toNat 4) 0
  let r_119:=zog lA (Ej,6)
  let r_120:=zog lA (Ej,11)
  let r_121:=zog lA (Ej,25)
  let e_122:Int:=pS Go.BinOp.xor Go.IntKind.u32 (pS Go.BinOp.xor Go.IntKind.u32 r_119.1 r_120.1) r_121.1
  bif jZ [isSm (lA (Ej,25)),true,decide (4<(↑(List.length xd):Int)),isSm (lA (Ej,11)),true,decide (4<(↑(List.length xd):Int)),isSm (lA (Ej,6)),true,decide (4<(↑(List.length xd):Int))] then
   let JQ:=List.getD xd (Int.toNat 5) 0
   let Lr:=List.getD xd (Int.toNat 6) 0
   let ch_127:Int:=pS Go.BinOp.xor Go.IntKind.u32 (pS Go.BinOp.and Go.IntKind.u32 Ej JQ) (pS Go.BinOp.and Go.IntKind.u32 (pS Go.BinOp.xor Go.IntKind.u32 (Go.IntKind.max Go.IntKind.u32) Ej) Lr)
   bif jZ [true,decide (6<(↑(List.length xd):Int)),true,decide (4<(↑(List.length xd):Int)),true,decide (5<(↑(List.length xd):Int)),true,decide (4<(↑(List.length xd):Int))] then
    let v_128:=List.getD xd (Int.toNat 7) 0
    let FH:=List.getD SO (Int.toNat FW) 0
    let Ek:=List.getD SN (Int.toNat FW) 0
    bif jZ [decide (0≤FW),decide (FW<(↑(List.length SN):Int)),decide (0≤FW),decide (FW<(↑(List.length SO):Int)),true,decide (7<(↑(List.length xd):Int))] then
     let G4:=List.getD xd (Int.toNat 0) 0
     let r_147:=zog lA (G4,2)
     let r_148:=zog lA (G4,13)
     let VA:=zog lA (G4,22)
     let a_150:Int:=pS Go.BinOp.xor Go.IntKind.u32 (pS Go.BinOp.xor Go.IntKind.u32 r_147.1 r_148.1) VA.1
     bif jZ [isSm (lA (G4,22)),true,decide (0<(↑(List.length xd):Int)),isSm (lA (G4,13)),true,decide (0<(↑(List.length xd):Int)),isSm (lA (G4,2)),true,decide (0<(↑(List.length xd):Int))] then
      let PJ:=List.getD xd (Int.toNat 1) 0
      let PK:=List.getD xd (Int.toNat 2) 0
      let aeP:Int:=pS Go.BinOp.xor Go.IntKind.u32 (pS Go.BinOp.xor Go.IntKind.u32 (pS Go.BinOp.and Go.IntKind.u32 G4 PJ) (pS Go.BinOp.and Go.IntKind.u32 G4 PK)) (pS Go.BinOp.and Go.IntKind.u32 PJ PK)
      bif jZ [true,decide (2<(↑(List.length xd):Int)),true,decide (1<(↑(List.length xd):Int)),true,decide (2<(↑(List.length xd):Int)),true,decide (0<(↑(List.length xd):Int)),true,decide (1<(↑(List.length xd):Int)),true,decide (0<(↑(List.length xd):Int))] then
       let x_156:TP:=((7,(),(),(),h_103,FW,aeP,a_150,(IntKind.wrap .u32 (IntKind.wrap .u32 (IntKind.wrap .u32 (IntKind.wrap .u32 (v_128+e_122)+ch_127)+FH)+Ek))),xd,SN,SO)
       bif pY K6 x_156 then
        let Hh:=oa K6 TQ x_156
        let h_158:=Hh.1.2.2.2.1
        let i_159:=(Hh.1.2.2.2.2).1
        let aeQ:=(Hh.1.2.2.2.2).2.1
        let a_161:=(Hh.1.2.2.2.2).2.2.1
        let t_162:=(Hh.1.2.2.2.2).2.2.2
        let OP:=Hh.2.1
        let ls_164:=Hh.2.2.1
        let SQ:=Hh.2.2.2
        let Yo:=List.set OP (Int.toNat 4) (IntKind.wrap .u32 (List.getD OP (Int.toNat 4) 0+t_162))
        bif jZ [true,decide (4<(↑(List.length OP):Int)),true,decide (4<(↑(List.length OP):Int))] then
         let ls_169:=List.set Yo (Int.toNat 0) (IntKind.wrap .u32 (IntKind.wrap .u32 (t_162+a_161)+aeQ))
         bif jZ [true,decide (0<(↑(List.length Yo):Int))] then
          some (.inl (((),(IntKind.wrap .i64 (i_159+1)),(),(),h_158),ls_169,ls_164,SQ))
         else none
        else none
       else none
      else none
     else none
    else none
   else none
  else none
 else
  some (.inr (((),h_103),xd))
def Wh.ZX:(((Unit)×(List (Int)))×((List (Int)))):=default
def Wh.Gg (xs:(List (Int))×(List (Int))):Option (((List (Int)))×(Unit)):=
 let h_0:=xs.1
 let b_1:=xs.2
 bz HX b_1 fun r_2=>
  bz q84 () fun r_3=>
   let pb_4:List Int:=[]++h_0
   bif jZ [decide ((0:Nat)+List.length h_0≤eD)] then
    let x_173:TN:=(((),0,(),(),h_0),pb_4,r_2.1,r_3.1)
    bif pY HW x_173 then
     let y_174:=oa HW ZX x_173
     let h_175:=y_174.1.2
     let ls_176:=y_174.2
     let x_199:TR:=((0,(),h_175,()),ls_176,[])
     bif pY K7 x_199 then
      let y_200:=oa K7 ZY x_199
      let ls_201:=y_200.2
      some (ls_201,())
     else none
    else none
   else none
abbrev Wh.Uv:Type:=((Int)×(Unit)×(Unit))×((List (Int))×(List (Int)))
abbrev Wh.ahf:Type:=((((Unit))×((List (Int)))))
def Wh.K8 (x:Uv):Option (Uv⊕ahf):=
 let BI:=x.1.1
 let r_:=x.2.1
 let vT:=x.2.2
 bif decide (BI<8) then
  let pb_37:List Int:=[IntKind.wrap .u8 (Int.fdiv (List.getD r_ (Int.toNat BI) 0) (2 ^ Min.min (Int.toNat 24) (Go.IntKind.bits Go.IntKind.u32))),IntKind.wrap .u8 (Int.fdiv (List.getD r_ (Int.toNat BI) 0) (2 ^ Min.min (Int.toNat 16) (Go.IntKind.bits Go.IntKind.u32))),IntKind.wrap .u8 (Int.fdiv (List.getD r_ (Int.toNat BI) 0) (2 ^ Min.min (Int.toNat 8) (Go.IntKind.bits Go.IntKind.u32))),IntKind.wrap .u8 (List.getD r_ (Int.toNat BI) 0)]
  let tn:=vT++pb_37
  bif jZ [decide (List.length vT+(4:Nat)≤eD),decide (0≤BI),decide (BI<(↑(List.length r_):Int)),true,decide (0≤BI),decide (BI<(↑(List.length r_):Int)),true,decide (0≤BI),decide (BI<(↑(List.length r_):Int)),true,decide (0≤BI),decide (BI<(↑(List.length r_):Int))] then
   some (.inl (((IntKind.wrap .i64 (BI+1)),(),()),r_,tn))
  else none
 else
  some (.inr ((),vT))
def Wh.aax:(((Unit))×((List (Int)))):=default
abbrev Wh.Uu:Type:=((Int)×(Unit)×(Unit))×((List (Int))×(List (Int)))
abbrev Wh.ahe:Type:=((((Unit))×((List (Int)))))
def Wh.Gy (x:Uu):Option (Uu⊕ahe):=
 let rm:=x.1.1
 let F2:=x.2.1
 let BL:=x.2.2
 bif decide (rm<(↑(List.length F2):Int)) then
  let GZ:=zog Gg (BL,List.take (Int.toNat (IntKind.wrap .i64 (rm+64)-rm)) (List.drop (Int.toNat rm) F2))
  let fj:=IntKind.wrap .i64 (rm+64)
  bif jZ [isSm (Gg (BL,List.take (Int.toNat (fj-rm)) (List.drop (Int.toNat rm) F2))),decide (0≤rm),decide (rm≤fj),decide (fj≤(↑(List.length F2):Int))] then
   some (.inl ((fj,(),()),F2,GZ.1))
  else none
 else
  some (.inr ((),BL))
def Wh.aaw:(((Unit))×((List (Int)))):=default
def Wh.Gx (xs:(List UInt8)):Option (((List UInt8))×(Unit)):=
 let z_:=xs
 bz q85 z_ fun r_1=>
  let x_16:Uu:=((0,(),()),r_1.1,[(1779033703:Int),3144134277,1013904242,2773480762,1359893119,2600822924,528734635,1541459225])
  bif pY Gy x_16 then
   let LL:=oa Gy aaw x_16
   let je:=LL.2
   let LG:Uv:=((0,(),()),je,[])
   bif pY K8 LG then
    let y_48:=oa K8 aax LG
    let ls_49:=y_48.2
    some (sM ls_49,())
   else none
  else none
abbrev Wh.Ut:Type:=((Int)×(List UInt8)×(Unit))×((List (Int)))
abbrev Wh.ahd:Type:=((((Unit))×((List (Int)))))
def Wh.Gw (x:Ut):Option (Ut⊕ahd):=
 let w7:=x.1.1
 let Dt:=x.1.2.1
 let tc:=x.2
 let fN:=decide (w7<(↑(List.length Dt):Int))
 bif fN then
  let JC:List Int:=[(↑(UInt8.toNat (List.getD [(48:UInt8),(49:UInt8),(50:UInt8),(51:UInt8),(52:UInt8),(53:UInt8),(54:UInt8),(55:UInt8),(56:UInt8),(57:UInt8),(97:UInt8),(98:UInt8),(99:UInt8),(100:UInt8),(101:UInt8),(102:UInt8)] (Int.toNat (IntKind.wrap .u8 (Int.tdiv (↑(UInt8.toNat (List.getD Dt (Int.toNat w7) (0:UInt8))):Int) 16))) (0:UInt8))):Int),(↑(UInt8.toNat (List.getD [(48:UInt8),(49:UInt8),(50:UInt8),(51:UInt8),(52:UInt8),(53:UInt8),(54:UInt8),(55:UInt8),(56:UInt8),(57:UInt8),(97:UInt8),(98:UInt8),(99:UInt8),(100:UInt8),(101:UInt8),(102:UInt8)] (Int.toNat (Int.tmod (↑(UInt8.toNat (List.getD Dt (Int.toNat w7) (0:UInt8))):Int) 16)) (0:UInt8))):Int)]
  let je:=tc++JC
  let ec:Int:=(↑(UInt8.toNat (List.getD Dt (Int.toNat w7) (0:UInt8))):Int)
  bif jZ [decide (List.length tc+(2:Nat)≤eD),decide (0≤Int.tmod ec 16),decide (Int.tmod ec 16<(↑(16:Nat):Int)),true,decide (0≤w7),fN,decide (0≤IntKind.wrap .u8 (Int.tdiv ec 16)),decide (IntKind.wrap .u8 (Int.tdiv ec 16)<(↑(16:Nat):Int)),true,decide (0≤w7),fN] then
   some (.inl (((IntKind.wrap .i64 (w7+1)),Dt,()),je))
  else none
 else
  some (.inr ((),tc))
def Wh.aav:(((Unit))×((List (Int)))):=default
def Wh.D_ (xs:(List UInt8)):Option (((List UInt8))×(Unit)):=
 let b6:=xs
 let x_25:Ut:=((0,b6,()),[])
 bif pY Gw x_25 then
  let zI:=oa Gw aav x_25
  let zZ:=zI.2
  some (sM zZ,())
 else none
def Wh.Cg (xs:(List UInt8)):Option (((List UInt8))×(Unit)):=
 let z_:=xs
 let r_1:=zog Gx z_
 let r_3:=zog D_ r_1.1
 bif jZ [isSm (D_ r_1.1),isSm (Gx z_)] then
  some (r_3.1,())
 else none
def Wh.Gm (xs:(Int)×(List UInt8)):Option (((List UInt8))×(Unit)):=
 let wh:=xs.1
 let Az:=xs.2
 let r_2:=zog gb wh
 let dm:=zog gb (↑(List.length Az):Int)
 let Bj:=r_2.1 ++ [(32:UInt8)]++dm.1 ++ [(32:UInt8)]
 bif jZ [decide (List.length (r_2.1 ++ [(32:UInt8)]++dm.1)+(1:Nat)≤eD),decide (List.length (r_2.1 ++ [(32:UInt8)])+List.length dm.1≤eD),isSm (gb (↑(List.length Az):Int)),decide (List.length r_2.1+(1:Nat)≤eD),isSm (gb wh)] then
  let A1:List UInt8:=Bj++Az
  let y3:=zog Cg A1
  let gh:List UInt8:=Bj++List.take (Int.toNat ((16:Int)-0)) (List.drop (Int.toNat 0) y3.1) ++ [(32:UInt8)]++Az ++ [(10:UInt8)]
  bif jZ [decide (List.length (Bj++List.take (Int.toNat ((16:Int)-0)) (List.drop (Int.toNat 0) ((zog Cg A1).1)) ++ [(32:UInt8)]++Az)+(1:Nat)≤eD),decide (List.length (Bj++List.take (Int.toNat ((16:Int)-0)) (List.drop (Int.toNat 0) ((zog Cg A1).1)) ++ [(32:UInt8)])+List.length Az≤eD),decide (List.length (Bj++List.take (Int.toNat ((16:Int)-0)) (List.drop (Int.toNat 0) ((zog Cg A1).1)))+(1:Nat)≤eD),decide (List.length Bj+List.length (List.take (Int.toNat ((16:Int)-0)) (List.drop (Int.toNat 0) ((zog Cg A1).1)))≤eD),true,true,decide (16≤(↑(List.length ((zog Cg A1).1)):Int)),isSm (Cg A1),decide (List.length Bj+List.length Az≤eD)] then
   some (gh,())
  else none
 else none
def Wh.EY (xs:(List UInt8)×(Int)×(Int)):Option (((List UInt8)×(Int))×(Unit)):=
 let Aj:=xs.1
 let As:=xs.2.1
 let Tk:=xs.2.2
 bz Ao (Aj,As,32) fun r_3=>
  let nG:=decide (r_3.1<0)
  let k8:=zog Ba (List.take (Int.toNat (r_3.1-As)) (List.drop (Int.toNat As) Aj))
  let AD:=bif nG then true else k8.1 != Tk
  bif jZ [!!nG || isSm (Ba (List.take (Int.toNat (r_3.1-As)) (List.drop (Int.toNat As) Aj))),!!nG || decide (0≤As),!!nG || decide (As≤r_3.1),!!nG || decide (r_3.1≤(↑(List.length Aj):Int))] then
   bif AD then
    some (([],0),())
   else
    let ic:=IntKind.wrap .i64 (r_3.1+1)
    bz Ao (Aj,ic,32) fun r_9=>
     bif decide (r_9.1<0) then
      some (([],0),())
     else
      let GZ:=zog Ba (List.take (Int.toNat (r_9.1-ic)) (List.drop (Int.toNat ic) Aj))
      bif jZ [isSm (Ba (List.take (Int.toNat (r_9.1-ic)) (List.drop (Int.toNat ic) Aj))),decide (0≤ic),decide (ic≤r_9.1),decide (r_9.1≤(↑(List.length Aj):Int))] then
       let fj:=IntKind.wrap .i64 (r_9.1+18)
       let Ld:=zog cr (GZ.1,1,500)
       let fN:=bif !Ld.1 then true else decide (IntKind.wrap .i64 (IntKind.wrap .i64 (fj+GZ.1)+1)>(↑(List.length Aj):Int))
       bif jZ [isSm (cr (GZ.1,1,500))] then
        bif fN then
         some (([],0),())
        else
         let jg:=IntKind.wrap .i64 (fj+GZ.1)
         let y3:=zog Gm (Tk,List.take (Int.toNat (jg-fj)) (List.drop (Int.toNat fj) Aj))
         bif jZ [isSm (Gm (Tk,List.take (Int.toNat (jg-fj)) (List.drop (Int.toNat fj) Aj))),decide (0≤fj),decide (fj≤jg),decide (jg≤(↑(List.length Aj):Int))] then
          bif jZ [decide (0≤As),decide (As≤IntKind.wrap .i64 (jg+1)),decide (IntKind.wrap .i64 (jg+1)≤(↑(List.length Aj):Int))] then
           bif(!List.take (Int.toNat (IntKind.wrap .i64 (jg+1)-As)) (List.drop (Int.toNat As) Aj)==y3.1) then
            some (([],0),())
           else
            let AB:Int:=(↑(List.length y3.1):Int)
            let nT:List UInt8:=List.take (Int.toNat (jg-fj)) (List.drop (Int.toNat fj) Aj)
            bif jZ [decide (0≤fj),decide (fj≤jg),decide (jg≤(↑(List.length Aj):Int))] then
             some ((nT,AB),())
            else none
          else none
         else none
       else none
      else none
  else none
abbrev Wh.Ub:Type:=((Int)×(Unit)×(List UInt8))×((List (List UInt8)))
abbrev Wh.agY:Type:=((((Unit)×(Int))×((List (List UInt8)))))
def Wh.Gn (x:Ub):Option (Ub⊕agY):=
 let R4:=x.1.1
 let Ym:=x.1.2.2
 let th:=x.2
 let eK:Int:=(↑(List.length th):Int)
 bz EY (Ym,R4,eK) fun CP=>
  bif(CP.1.2==0) then
   some (.inr (((),R4),th))
  else
   let pb_30:List (List UInt8):=[CP.1.1]
   let Au:List (List UInt8):=th++pb_30
   bif jZ [decide (List.length th+(1:Nat)≤eD)] then
    some (.inl (((IntKind.wrap .i64 (R4+CP.1.2)),(),Ym),Au))
   else none
def Wh.aai:(((Unit)×(Int))×((List (List UInt8)))):=default
def Wh.Db (xs:(List UInt8)):Option (((List (List UInt8))×(Int))×(Unit)):=
 let Aj:=xs
 let x_33:Ub:=((0,(),Aj),[])
 bif pY Gn x_33 then
  let y_34:=oa Gn aai x_33
  let wD:=y_34.1.2
  let SX:=y_34.2
  some ((SX,wD),())
 else none
abbrev Wh.T9:Type:=((Int)×(Int)×(List UInt8)×(Unit)×(Int))×((List (List UInt8)))
abbrev Wh.agV:Type:=((((Int)×(List UInt8)×(Unit))×((List (List UInt8)))))
def Wh.AV (x:T9):Option (T9⊕agV):=
 let ct:=x.1.1
 let Jk:=x.1.2.1
 let IQ:=(x.1.2.2).1
 let R5:=x.1.2.2.2.2
 let th:=x.2
 let eK:=decide (ct<(↑(List.length IQ):Int))
 bif eK then
  let gh:Int:=(↑(UInt8.toNat (List.getD IQ (Int.toNat ct) (0:UInt8))):Int)
  let wv:=gh==R5
  bif jZ [decide (0≤ct),eK] then
   bif wv then
    let Al:List (List UInt8):=[List.take (Int.toNat (ct-Jk)) (List.drop (Int.toNat Jk) IQ)]
    let AF:List (List UInt8):=th++Al
    bif jZ [decide (List.length th+(1:Nat)≤eD),decide (0≤Jk),decide (Jk≤ct),decide (ct≤(↑(List.length IQ):Int))] then
     let nT:=IntKind.wrap .i64 (ct+1)
     some (.inl ((nT,nT,IQ,(),R5),AF))
    else none
   else
    some (.inl (((IntKind.wrap .i64 (ct+1)),Jk,IQ,(),R5),th))
  else none
 else
  some (.inr ((Jk,IQ,()),th))
def Wh.aaf:(((Int)×(List UInt8)×(Unit))×((List (List UInt8)))):=default
def Wh.DY (xs:(List UInt8)×(Int)):Option (((List (List UInt8)))×(Unit)):=
 let b6:=xs.1
 let As:=xs.2
 let BX:T9:=((0,0,b6,(),As),[])
 bif pY AV BX then
  let BB:=oa AV aaf BX
  let OC:=BB.1.1
  let Ll:=BB.1.2.1
  let AG:=BB.2
  let Am:List (List UInt8):=[List.take (Int.toNat ((↑(List.length Ll):Int)-OC)) (List.drop (Int.toNat OC) Ll)]
  let r_:List (List UInt8):=AG++Am
  bif jZ [decide (List.length AG+(1:Nat)≤eD),decide (0≤OC),decide (OC≤(↑(List.length Ll):Int)),decide ((↑(List.length Ll):Int)≤(↑(List.length Ll):Int))] then
   some (r_,())
  else none
 else none
abbrev Wh.T4:Type:=((Int)×(List UInt8))×(Unit)
abbrev Wh.agQ:Type:=((((Bool))×(Unit))⊕(((List UInt8))×(Unit)))
def Wh.BR (x:T4):Option (T4⊕agQ):=
 let rm:=x.1.1
 let PC:=x.1.2
 let zD:=decide (rm<(↑(List.length PC):Int))
 bif zD then
  let nS:Int:=(↑(UInt8.toNat (List.getD PC (Int.toNat rm) (0:UInt8))):Int)
  let iL:=bif decide (nS<97) then true else decide (nS>122)
  bif jZ [!!decide (nS<97) || decide (0≤rm),!!decide (nS<97) || zD,decide (0≤rm),zD] then
   bif iL then
    some (.inr (.inl (false,())))
   else
    some (.inl (((IntKind.wrap .i64 (rm+1)),PC),()))
  else none
 else
  some (.inr (.inr (PC,())))
def Wh.aaa:(((Bool))×(Unit))⊕(((List UInt8))×(Unit)):=.inl default
def Wh.Ci (xs:(List UInt8)):Option (((Bool))×(Unit)):=
 let z_:=xs
 let x_17:T4:=((0,z_),())
 bif pY BR x_17 then
  sumC (oa BR aaa x_17) (fun CX=>
   let eK:=CX.1
   some (eK,())) (fun LP=>
   let akU:=LP.1
   bz cr ((↑(List.length akU):Int),1,6) fun r_22=>
    some (r_22.1,()))
 else none
def Wh.Bw (xs:(bn.D)):Option (((Bool))×(Unit)):=
 let t_0:bn.D:=xs
 let r_1:=zog cr (t_0.1,0,1)
 let r_2:=zog Ci t_0.2.1
 let k8:=zog cr ((↑(List.length ((t_0.2.2.2).1)):Int),1,300)
 let ic:=bif bif r_1.1 then r_2.1 else false then k8.1 else false
 bif jZ [(!bif r_1.1 then r_2.1 else false) || isSm (cr ((↑(List.length ((t_0.2.2.2).1)):Int),1,300)),!r_1.1 || isSm (Ci t_0.2.1),isSm (cr (t_0.1,0,1))] then
  some (ic,())
 else none
def Wh.Fl (xs:(Int)×(List UInt8)×(List UInt8)):Option (((List UInt8))×(Unit)):=
 let Jn:=xs.1
 let Ak:=xs.2.1
 let Cp:=xs.2.2
 let ia:=Cp == []
 bif ia then
  bz Bw (Jn,Ak,0,[(120:UInt8)],()) fun dm=>
   bif !dm.1 then
    some ([],())
   else
    let k8:=zog gb Jn
    let Aa:=k8.1 ++ [(32:UInt8)]++Ak ++ [(58:UInt8)]++Cp
    bif jZ [decide (List.length (k8.1 ++ [(32:UInt8)]++Ak ++ [(58:UInt8)])+List.length Cp≤eD),decide (List.length (k8.1 ++ [(32:UInt8)]++Ak)+(1:Nat)≤eD),decide (List.length (k8.1 ++ [(32:UInt8)])+List.length Ak≤eD),decide (List.length k8.1+(1:Nat)≤eD),isSm (gb Jn)] then
     some (Aa,())
    else none
 else
  bz Bw (Jn,Ak,0,Cp,()) fun GY=>
   bif !GY.1 then
    some ([],())
   else
    let Ay:=zog gb Jn
    let jg:=Ay.1 ++ [(32:UInt8)]++Ak ++ [(58:UInt8)]++Cp
    bif jZ [decide (List.length (Ay.1 ++ [(32:UInt8)]++Ak ++ [(58:UInt8)])+List.length Cp≤eD),decide (List.length (Ay.1 ++ [(32:UInt8)]++Ak)+(1:Nat)≤eD),decide (List.length (Ay.1 ++ [(32:UInt8)])+List.length Ak≤eD),decide (List.length Ay.1+(1:Nat)≤eD),isSm (gb Jn)] then
     some (jg,())
    else none
def Wh.E0 (xs:(bn.D)×(Int)×(List UInt8)):Option (((Bool))×(Unit)):=
 let bp:=xs.1
 let so:=xs.2.1
 let AQ:=xs.2.2
 let sn:=bif decide (bp.1<so) then true else bif bp.1==so then Go.Op.bytesLess bp.2.1 AQ else false
 some (sn,())
abbrev Wh.TU:Type:=((Int)×(List (bn.D))×(Int)×(Int))×(Unit)
abbrev Wh.agI:Type:=((((Int))×(Unit)))
def Wh.EO (x:TU):Option (TU⊕agI):=
 let ct:=x.1.1
 let ON:=x.1.2.1
 let HN:=(x.1.2.2).1
 let HB:=x.1.2.2.2
 let ec:Int:=(↑(List.length ON):Int)
 bif decide (ct<ec) then
  let gh:bn.D:=List.getD ON (Int.toNat ct) (0,[],0,[],())
  bif jZ [decide (0≤ct),decide (ct<ec)] then
   bif(gh.1==HB) then
    bif jZ [decide (0≤ct),decide (ct<ec)] then
     some (.inl (((IntKind.wrap .i64 (ct+1)),ON,(IntKind.wrap .i64 (HN+(↑(List.length ((gh.2.2.2).1)):Int))),HB),()))
    else none
   else
    some (.inl (((IntKind.wrap .i64 (ct+1)),ON,HN,HB),()))
  else none
 else
  some (.inr (HN,()))
def Wh.Z3:(((Int))×(Unit)):=default
def Wh.EN (xs:(List (bn.D))×(Int)):Option (((Int))×(Unit)):=
 let list_0:=xs.1
 let so:=xs.2
 let BX:TU:=((0,list_0,0,so),())
 bif pY EO BX then
  let BB:=oa EO Z3 BX
  let n_30:=BB.1
  some (n_30,())
 else none
abbrev Wh.Un:Type:=((Int)×(Unit))×((bx.D))
abbrev Wh.ag9:Type:=((((Bool))×(Unit))⊕((Unit)×(Unit)))
def Wh.Iq (x:Un):Option (Un⊕ag9):=
 let h_66:=x.1.1
 let OS:=x.2
 bif decide (h_66<2) then
  bz EN (OS.2.1,h_66) fun r_69=>
   bif decide (r_69.1>500) then
    some (.inr (.inl (false,())))
   else
    some (.inl (((IntKind.wrap .i64 (h_66+1)),()),OS))
 else
  some (.inr (.inr ((),())))
def Wh.aas:(((Bool))×(Unit))⊕((Unit)×(Unit)):=.inl default
abbrev Wh.Um:Type:=((Int)×(Unit)×(Unit)×(Int))×((bn.D)×(bx.D))
abbrev Wh.ag8:Type:=((((Bool))×(Unit))⊕(((Unit)×(Int))×((bx.D))))
def Wh.Gv (x:Um):Option (Um⊕ag8):=
 let KQ:=x.1.1
 let A5:=x.1.2.2.2
 let AF:=x.2.1
 let OQ:=x.2.2
 bif decide (KQ<A5) then
  let zW:bn.D:=List.getD OQ.2.1 (Int.toNat KQ) (0,[],0,[],())
  bif jZ [decide (0≤KQ),decide (KQ<(↑(List.length OQ.2.1):Int))] then
   bif(zW.2.2.1==AF.2.2.1) then
    some (.inr (.inl (false,())))
   else
    some (.inl (((IntKind.wrap .i64 (KQ+1)),(),(),A5),AF,OQ))
  else none
 else
  some (.inr (.inr (((),A5),OQ)))
def Wh.aar:(((Bool))×(Unit))⊕(((Unit)×(Int))×((bx.D))):=.inl default
abbrev Wh.Ul:Type:=((Unit)×(Int))×((bx.D))
abbrev Wh.ag7:Type:=((((Bool))×(Unit))⊕(((Unit))×((bx.D))))
def Wh.E6 (x:Ul):Option (Ul⊕ag7):=
 let B4:=x.1.2
 let tn:=x.2
 let Lu:Int:=(↑(List.length tn.2.1):Int)
 bif decide (B4<Lu) then
  let EH:bn.D:=List.getD tn.2.1 (Int.toNat B4) (0,[],0,[],())
  bif jZ [decide (0≤B4),decide (B4<Lu)] then
   let Lg:=zog Bw EH
   let Pm:=zog cr (EH.2.2.1,1,tn.1)
   let r_46:=zog E0 (List.getD tn.2.1 (Int.toNat (IntKind.wrap .i64 (B4-1))) (0,[],0,[],()),EH.1,EH.2.1)
   let v_47:=bif bif !Lg.1 then true else !Pm.1 then true else bif decide (B4>0) then !r_46.1 else false
   bif jZ [!(decide (B4>0) && !bif !Lg.1 then true else !Pm.1) || isSm (E0 (List.getD tn.2.1 (Int.toNat (IntKind.wrap .i64 (B4-1))) (0,[],0,[],()),EH.1,EH.2.1)),!(decide (B4>0) && !bif !Lg.1 then true else !Pm.1) || decide (0≤IntKind.wrap .i64 (B4-1)),!(decide (B4>0) && !bif !Lg.1 then true else !Pm.1) || decide (IntKind.wrap .i64 (B4-1)<Lu),!!!Lg.1 || isSm (cr (EH.2.2.1,1,tn.1)),isSm (Bw EH)] then
    bif v_47 then
     some (.inr (.inl (false,())))
    else
     let Hf:Um:=((0,(),(),B4),EH,tn)
     bif pY Gv Hf then
      sumC (oa Gv aar Hf) (fun Ho=>
       let wJ:=Ho.1
       some (.inr (.inl (wJ,())))) (fun P1=>
       let i_52:=P1.1.2
       let OR:=P1.2
       some (.inl (((),(IntKind.wrap .i64 (i_52+1))),OR)))
     else none
   else none
  else none
 else
  some (.inr (.inr ((),tn)))
def Wh.aaq:(((Bool))×(Unit))⊕(((Unit))×((bx.D))):=.inl default
def Wh.Gu (xs:(bx.D)):Option (((Bool))×(Unit)):=
 let bt:bx.D:=xs
 let r_1:=zog cr (bt.1,0,99999)
 let v_2:=bif !r_1.1 then true else decide ((↑(List.length bt.2.1):Int)>8)
 bif jZ [isSm (cr (bt.1,0,99999))] then
  bif v_2 then
   some (false,())
  else
   let LI:Ul:=(((),0),bt)
   bif pY E6 LI then
    sumC (oa E6 aaq LI) (fun y_56=>
     let Bf:=y_56.1
     some (Bf,())) (fun z_57=>
     let ls_59:=z_57.2
     let x_72:Un:=((0,()),ls_59)
     bif pY Iq x_72 then
      sumC (oa Iq aas x_72) (fun y_73=>
       let v_75:=y_73.1
       some (v_75,())) (fun _=>
       some (true,()))
     else none)
   else none
 else none
abbrev Wh.UD:Type:=((Int)×(List UInt8)×(Unit)×(Int))×((bx.D))
abbrev Wh.ahm:Type:=((((Int))×(Unit))⊕((Unit)×(Unit)))
def Wh.Fe (x:UD):Option (UD⊕ahm):=
 let zX:=x.1.1
 let Zy:=x.1.2.1
 let OH:=x.1.2.2.2
 let jn:=x.2
 let ew:Int:=(↑(List.length jn.2.1):Int)
 bif decide (zX<ew) then
  let eK:bn.D:=List.getD jn.2.1 (Int.toNat zX) (0,[],0,[],())
  let AA:=bif eK.1==OH then eK.2.1==Zy else false
  bif jZ [!eK.1==OH || decide (0≤zX),!eK.1==OH || decide (zX<ew),decide (0≤zX),decide (zX<ew)] then
   bif AA then
    some (.inr (.inl (zX,())))
   else
    some (.inl (((IntKind.wrap .i64 (zX+1)),Zy,(),OH),jn))
  else none
 else
  some (.inr (.inr ((),())))
def Wh.aaE:(((Int))×(Unit))⊕((Unit)×(Unit)):=.inl default
def Wh.Dg (xs:(bx.D)×(Int)×(List UInt8)):Option (((Int))×(Unit)):=
 let bt:=xs.1
 let so:=xs.2.1
 let AQ:=xs.2.2
 let x_25:UD:=((0,AQ,(),so),bt)
 bif pY Fe x_25 then
  sumC (oa Fe aaE x_25) (fun zI=>
   let hJ:=zI.1
   some (hJ,())) (fun _=>
   some (-1,()))
 else none
def Wh.D0 (xs:(bx.D)):Option ((((Int)×((List (bn.D))×(Unit))))×(Unit)):=
 let bt:bx.D:=xs
 let zO:List (bn.D):=[]++bt.2.1
 bif jZ [decide ((0:Nat)+List.length bt.2.1≤eD)] then
  some ((bt.1,zO,bt.2.2),())
 else none
def Wh.Ig (xs:(bx.D)×(Int)):Option ((((Int)×((List (bn.D))×(Unit))))×(Unit)):=
 let bt:=xs.1
 let k_1:=xs.2
 let pb_2:List (bn.D):=[]++List.take (Int.toNat (k_1-0)) (List.drop (Int.toNat 0) bt.2.1)
 let pb_3:List (bn.D):=pb_2++List.take (Int.toNat ((↑(List.length bt.2.1):Int)-IntKind.wrap .i64 (k_1+1))) (List.drop (Int.toNat (IntKind.wrap .i64 (k_1+1))) bt.2.1)
 let nG:List (bn.D):=List.take (Int.toNat (k_1-0)) (List.drop (Int.toNat 0) bt.2.1)
 let sn:=IntKind.wrap .i64 (k_1+1)
 bif jZ [decide (List.length pb_2+List.length (List.take (Int.toNat ((↑(List.length bt.2.1):Int)-sn)) (List.drop (Int.toNat sn) bt.2.1))≤eD),decide (0≤sn),decide (sn≤(↑(List.length bt.2.1):Int)),decide ((↑(List.length bt.2.1):Int)≤(↑(List.length bt.2.1):Int)),decide ((0:Nat)+List.length nG≤eD),true,decide (0≤k_1),decide (k_1≤(↑(List.length bt.2.1):Int))] then
  some ((bt.1,pb_3,()),())
 else none
def Wh.DR (xs:(bx.D)×(Int)×(List UInt8)):Option ((((Int)×((List (bn.D))×(Unit)))×(Int))×(Unit)):=
 let bt:=xs.1
 let so:=xs.2.1
 let AQ:=xs.2.2
 bz Gu bt fun r_3=>
  bif !r_3.1 then
   some (((0,[],()),1),())
  else
   bz Dg (bt,so,AQ) fun dm=>
    bif decide (dm.1<0) then
     bz D0 bt fun wo=>
      some ((wo.1,3),())
    else
     bz Ig (bt,dm.1) fun Ap=>
      some ((Ap.1,0),())
abbrev Wh.UA:Type:=((Int)×(Unit)×(Unit)×(Unit))×(((Int)×((Unit)×(Unit)))×(bx.D)×(bn.D)×(List (bn.D)))
abbrev Wh.ahk:Type:=((((Unit)×(Int)×(Unit)×(Unit))×(((Int)×((Unit)×(Unit)))×(bx.D)×(bn.D)×(List (bn.D)))))
def Wh.Fb (x:UA):Option (UA⊕ahk):=
 let DH:=x.1.1
 let tc:=x.2.1.1
 let DJ:=x.2.1.2.2
 let jn:=x.2.2.1
 let je:=(x.2.2.2).1
 let th:=x.2.2.2.2
 let eK:Int:=(↑(List.length jn.2.1):Int)
 let nI:=zog E0 (List.getD jn.2.1 (Int.toNat DH) (0,[],0,[],()),je.1,je.2.1)
 let s_:=bif decide (DH<eK) then nI.1 else false
 bif jZ [!decide (DH<eK) || isSm (E0 (List.getD jn.2.1 (Int.toNat DH) (0,[],0,[],()),je.1,je.2.1)),!decide (DH<eK) || decide (0≤DH),!decide (DH<eK) || decide (DH<eK)] then
  bif s_ then
   some (.inl (((IntKind.wrap .i64 (DH+1)),(),(),()),(tc,(),DJ),jn,je,th))
  else
   some (.inr (((),DH,(),()),(tc,(),DJ),jn,je,th))
 else none
def Wh.aaC:(((Unit)×(Int)×(Unit)×(Unit))×(((Int)×((Unit)×(Unit)))×(bx.D)×(bn.D)×(List (bn.D)))):=default
def Wh.Is (xs:(bx.D)×(bn.D)):Option ((((Int)×((List (bn.D))×(Unit))))×(Unit)):=
 let bt:=xs.1
 let t_1:=xs.2
 let A2:UA:=((0,(),(),()),(0,(),()),bt,t_1,[])
 bif pY Fb A2 then
  let Cs:=oa Fb aaC A2
  let DI:=Cs.1.2.1
  let Au:=Cs.2.2.1
  let AG:=(Cs.2.2.2).1
  let O9:=IntKind.wrap .i64 (Au.1+1)
  let Tx:List (bn.D):=[]++List.take (Int.toNat (DI-0)) (List.drop (Int.toNat 0) Au.2.1)
  let O_:List (bn.D):=[(AG.1,AG.2.1,O9,AG.2.2.2)]
  let pb_38:List (bn.D):=Tx++O_++List.take (Int.toNat ((↑(List.length Au.2.1):Int)-DI)) (List.drop (Int.toNat DI) Au.2.1)
  let Lu:List (bn.D):=List.take (Int.toNat (DI-0)) (List.drop (Int.toNat 0) Au.2.1)
  let Be:List (bn.D):=List.take (Int.toNat ((↑(List.length Au.2.1):Int)-DI)) (List.drop (Int.toNat DI) Au.2.1)
  bif jZ [decide (List.length (Tx++O_)+List.length Be≤eD),decide (0≤DI),decide (DI≤(↑(List.length Au.2.1):Int)),decide ((↑(List.length Au.2.1):Int)≤(↑(List.length Au.2.1):Int)),decide (List.length Tx+(1:Nat)≤eD),decide ((0:Nat)+List.length Lu≤eD),true,decide (0≤DI),decide (DI≤(↑(List.length Au.2.1):Int))] then
   some ((O9,pb_38,()),())
  else none
 else none
def Wh.Da (xs:(bx.D)×(Int)×(List UInt8)×(List UInt8)):Option ((((Int)×((List (bn.D))×(Unit)))×(Int))×(Unit)):=
 let bt:=xs.1
 let so:=xs.2.1
 let AQ:=xs.2.2.1
 let IV:=xs.2.2.2
 bz Gu bt fun dm=>
  bif !dm.1 then
   some (((0,[],()),1),())
  else
   bz Bw (so,AQ,0,IV,()) fun k8=>
    bif !k8.1 then
     bz D0 bt fun wo=>
      some ((wo.1,1),())
    else
     bz Dg (bt,so,AQ) fun Ap=>
      bif decide (Ap.1≥0) then
       bz D0 bt fun Dq=>
        some ((Dq.1,2),())
      else
       let zD:Int:=(↑(List.length bt.2.1):Int)
       let Eg:=zog EN (bt.2.1,so)
       let ew:=bif bif decide (zD≥8) then true else decide (bt.1≥99999) then true else decide (IntKind.wrap .i64 (Eg.1+(↑(List.length IV):Int))>500)
       bif jZ [(!!bif decide (zD≥8) then true else decide (bt.1≥99999)) || isSm (EN (bt.2.1,so))] then
        bif ew then
         bz D0 bt fun IJ=>
          some ((IJ.1,4),())
        else
         bz Is (bt,so,AQ,0,IV,()) fun y3=>
          some ((y3.1,0),())
       else none
def Wh.D3 (xs:(bx.D)×(List UInt8)):Option ((((Int)×((List (bn.D))×(Unit)))×(Bool))×(Unit)):=
 let bt:=xs.1
 let s_1:=xs.2
 bz Ao (s_1,0,58) fun r_2=>
  bif decide (r_2.1<0) then
   some (((0,[],()),false),())
  else
   let dm:=zog DY (List.take (Int.toNat (r_2.1-0)) (List.drop (Int.toNat 0) s_1),32)
   let sn:List UInt8:=List.take (Int.toNat (r_2.1-0)) (List.drop (Int.toNat 0) s_1)
   bif jZ [isSm (DY (sn,32)),true,decide (0≤r_2.1),decide (r_2.1≤(↑(List.length s_1):Int))] then
    let AD:=IntKind.wrap .i64 (r_2.1+1)
    let FG:List UInt8:=List.take (Int.toNat ((↑(List.length s_1):Int)-AD)) (List.drop (Int.toNat AD) s_1)
    bif jZ [decide (0≤AD),decide (AD≤(↑(List.length s_1):Int)),decide ((↑(List.length s_1):Int)≤(↑(List.length s_1):Int))] then
     let n4:Int:=(↑(List.length dm.1):Int)
     let Ay:=zog Ba (List.getD dm.1 (Int.toNat 0) [])
     let GZ:=zog Fl (Ay.1,List.getD dm.1 (Int.toNat 1) [],FG)
     let fj:=bif n4 != 2 then true else !GZ.1==s_1
     bif jZ [!!n4 != 2 || isSm (Fl (Ay.1,List.getD dm.1 (Int.toNat 1) [],FG)),!!n4 != 2 || decide ((0:Int)≤1),!!n4 != 2 || decide (1<n4),!!n4 != 2 || isSm (Ba (List.getD dm.1 (Int.toNat 0) [])),!!n4 != 2 || decide ((0:Int)≤0),!!n4 != 2 || decide (0<n4)] then
      bif fj then
       some (((0,[],()),false),())
      else
       let iL:=FG == []
       bif iL then
        let Eg:=zog DR (bt,Ay.1,List.getD dm.1 (Int.toNat 1) [])
        let ec:=List.getD dm.1 (Int.toNat 0) []
        let eK:=List.getD dm.1 (Int.toNat 1) []
        let r_30:=zog DR (bt,Ay.1,eK)
        bif jZ [isSm (DR (bt,Ay.1,eK)),true,decide (1<n4),isSm (Ba ec),true,decide (0<n4)] then
         some (((Eg.1.1.1,(Eg.1.1.2).1,Eg.1.1.2.2),(r_30.1.2==0)),())
        else none
       else
        let nc:=zog Da (bt,Ay.1,List.getD dm.1 (Int.toNat 1) [],FG)
        let wD:=List.getD dm.1 (Int.toNat 0) []
        let pz:=List.getD dm.1 (Int.toNat 1) []
        let r_46:=zog Da (bt,Ay.1,pz,FG)
        bif jZ [isSm (Da (bt,Ay.1,pz,FG)),true,decide (1<n4),isSm (Ba wD),true,decide (0<n4)] then
         some (((nc.1.1.1,(nc.1.1.2).1,nc.1.1.2.2),(r_46.1.2==0)),())
        else none
     else none
    else none
   else none
abbrev Wh.Uk:Type:=((Unit)×(Int)×(Unit)×(List (List UInt8)))×(((Int)×((Unit)×(Unit)))×((Int)×((Unit)×(Unit)))×(List (bn.D))×(List (bn.D)))
abbrev Wh.ag6:Type:=((((Unit)×(Bool))×(((Int)×((Unit)×(Unit)))×(List (bn.D))))⊕(((Unit)×(Unit))×(((Int)×((Unit)×(Unit)))×((Int)×((Unit)×(Unit)))×(List (bn.D))×(List (bn.D)))))
def Wh.E5 (x:Uk):Option (Uk⊕ag6):=
 let ct:=x.1.2.1
 let Pr:=x.1.2.2.2
 let jn:=x.2.1.1
 let je:=x.2.1.2.2
 let th:=x.2.2.1.1
 let zN:=(x.2.2.1).2.2
 let AN:=(x.2.2.2).1
 let A8:=x.2.2.2.2
 let AA:Int:=(↑(List.length Pr):Int)
 bif decide (ct<AA) then
  let CN:=zog D3 ((th,A8,zN),List.getD Pr (Int.toNat ct) [])
  let nT:=List.getD Pr (Int.toNat ct) []
  bif jZ [isSm (D3 ((th,A8,zN),nT)),decide (0≤ct),decide (ct<AA)] then
   bif(!CN.1.2) then
    some (.inr (.inl (((),false),(0,(),()),[])))
   else
    some (.inl (((),(IntKind.wrap .i64 (ct+1)),(),Pr),(jn,(),je),(CN.1.1.1,(),CN.1.1.2.2),AN,(CN.1.1.2).1))
  else none
 else
  some (.inr (.inr (((),()),(jn,(),je),(th,(),zN),AN,A8)))
def Wh.aap:(((Unit)×(Bool))×(((Int)×((Unit)×(Unit)))×(List (bn.D))))⊕(((Unit)×(Unit))×(((Int)×((Unit)×(Unit)))×((Int)×((Unit)×(Unit)))×(List (bn.D))×(List (bn.D)))):=.inl default
def Wh.D7 (xs:(List (List UInt8))):Option ((((Int)×((List (bn.D))×(Unit)))×(Bool))×(Unit)):=
 let Pq:List (List UInt8):=xs
 let G_:Uk:=(((),0,(),Pq),(0,(),()),(0,(),()),[],[])
 bif pY E5 G_ then
  sumC (oa E5 aap G_) (fun Hj=>
   let v_32:=Hj.1.2
   let Bo:=Hj.2.1.1
   let r_:=Hj.2.1.2.2
   let vT:=Hj.2.2
   some (((Bo,vT,r_),v_32),())) (fun JU=>
   let tn:=JU.2.2.1.1
   let AO:=(JU.2.2.1).2.2
   let ls_41:=JU.2.2.2.2
   some (((tn,ls_41,AO),true),()))
 else none
def Wh.Ge (xs:(dj.D)):Option (((Bool))×(Unit)):=
 let b6:dj.D:=xs
 bz Db (b6.2.2.1) fun r_1=>
  bz D7 r_1.1.1 fun r_2=>
   some (r_2.1.2,())
abbrev Wh.TL:Type:=((Int)×(Unit)×(Unit))×((bx.D)×(bx.D))
abbrev Wh.agB:Type:=((((Bool))×(Unit))⊕((Unit)×(Unit)))
def Wh.EL (x:TL):Option (TL⊕agB):=
 let w7:=x.1.1
 let kS:=x.2.1
 let tc:=x.2.2
 let fN:Int:=(↑(List.length tc.2.1):Int)
 bif decide (w7<fN) then
  let ew:bn.D:=List.getD tc.2.1 (Int.toNat w7) (0,[],0,[],())
  let ec:bn.D:=List.getD kS.2.1 (Int.toNat w7) (0,[],0,[],())
  bif jZ [decide (0≤w7),decide (w7<(↑(List.length kS.2.1):Int)),decide (0≤w7),decide (w7<fN)] then
   bif(!(ew.1==ec.1&&(ew.2.1==ec.2.1&&(ew.2.2.1==ec.2.2.1&&((ew.2.2.2).1==(ec.2.2.2).1&&true))))) then
    some (.inr (.inl (false,())))
   else
    some (.inl (((IntKind.wrap .i64 (w7+1)),(),()),kS,tc))
  else none
 else
  some (.inr (.inr ((),())))
def Wh.ZV:(((Bool))×(Unit))⊕((Unit)×(Unit)):=.inl default
def Wh.DS (xs:(bx.D)×(bx.D)):Option (((Bool))×(Unit)):=
 let bp:=xs.1
 let b_1:=xs.2
 let ia:=bif(bp.1 != b_1.1) then true else(↑(List.length bp.2.1):Int) != (↑(List.length b_1.2.1):Int)
 bif ia then
  some (false,())
 else
  let x_22:TL:=((0,(),()),b_1,bp)
  bif pY EL x_22 then
   sumC (oa EL ZV x_22) (fun y_23=>
    let AB:=y_23.1
    some (AB,())) (fun _=>
    some (true,()))
  else none
def Wh.E9 (xs:(di.D)):Option (((Bool))×(Unit)):=
 let BG:di.D:=xs
 bif(BG.2.1==0) then
  some ((BG.1==0&&(BG.2.1==0&&(BG.2.2.1==0&&((BG.2.2.2).1==0&&(BG.2.2.2.2.1==false&&true))))),())
 else
  let r_3:=zog cr (BG.1,0,1)
  let dm:=zog cr (BG.2.1,1,99999)
  let Ap:=zog cr (BG.2.2.1,0,23)
  let Dq:=zog cr ((BG.2.2.2).1,0,99999)
  let nS:=bif bif bif r_3.1 then dm.1 else false then Ap.1 else false then Dq.1 else false
  bif jZ [(!bif bif r_3.1 then dm.1 else false then Ap.1 else false) || isSm (cr ((BG.2.2.2).1,0,99999)),(!bif r_3.1 then dm.1 else false) || isSm (cr (BG.2.2.1,0,23)),!r_3.1 || isSm (cr (BG.2.1,1,99999)),isSm (cr (BG.1,0,1))] then
   some (nS,())
  else none
abbrev Wh.Up:Type:=((Int)×(Int)×(Int)×(Unit))×((eI.D))
abbrev Wh.aha:Type:=((((Int))×(Unit)))
def Wh.E7 (x:Up):Option (Up⊕aha):=
 let ct:=x.1.1
 let HM:=x.1.2.1
 let HA:=(x.1.2.2).1
 let je:=x.2
 let ec:Int:=(↑(List.length je.1):Int)
 bif decide (ct<ec) then
  let gh:di.D:=List.getD je.1 (Int.toNat ct) (0,0,0,0,false,())
  let s_:=bif decide (gh.2.1>0) then gh.1==HA else false
  bif jZ [!decide (gh.2.1>0) || decide (0≤ct),!decide (gh.2.1>0) || decide (ct<ec),decide (0≤ct),decide (ct<ec)] then
   bif s_ then
    some (.inl (((IntKind.wrap .i64 (ct+1)),(IntKind.wrap .i64 (HM+1)),HA,()),je))
   else
    some (.inl (((IntKind.wrap .i64 (ct+1)),HM,HA,()),je))
  else none
 else
  some (.inr (HM,()))
def Wh.aau:(((Int))×(Unit)):=default
def Wh.Ir (xs:(eI.D)×(Int)):Option (((Int))×(Unit)):=
 let gv:=xs.1
 let so:=xs.2
 let BX:Up:=((0,0,so,()),gv)
 bif pY E7 BX then
  let BB:=oa E7 aau BX
  let n_30:=BB.1
  some (n_30,())
 else none
abbrev Wh.T8:Type:=((Int)×(Unit))×((eI.D))
abbrev Wh.agU:Type:=((((Bool))×(Unit))⊕((Unit)×(Unit)))
def Wh.DX (x:T8):Option (T8⊕agU):=
 let h_67:=x.1.1
 let ls_68:=x.2
 bif decide (h_67<2) then
  bz Ir (ls_68,h_67) fun r_70=>
   bif decide (r_70.1>5) then
    some (.inr (.inl (false,())))
   else
    some (.inl (((IntKind.wrap .i64 (h_67+1)),()),ls_68))
 else
  some (.inr (.inr ((),())))
def Wh.aae:(((Bool))×(Unit))⊕((Unit)×(Unit)):=.inl default
abbrev Wh.T7:Type:=((Int)×(Unit)×(Int))×((eI.D))
abbrev Wh.agT:Type:=((((Bool))×(Unit))⊕(((Unit)×(Int))×((eI.D))))
def Wh.BU (x:T7):Option (T7⊕agT):=
 let CF:=x.1.1
 let DG:=x.1.2.2
 let BM:=x.2
 bif decide (CF<DG) then
  let hJ:di.D:=List.getD BM.1 (Int.toNat DG) (0,0,0,0,false,())
  let vc:=bif bif decide (hJ.2.1>0) then hJ.2.1==((List.getD BM.1 (Int.toNat CF) (0,0,0,0,false,())).2).1 else false then hJ.2.2.1==(((List.getD BM.1 (Int.toNat CF) (0,0,0,0,false,())).2).2).1 else false
  bif jZ [(!bif decide (hJ.2.1>0) then hJ.2.1==((List.getD BM.1 (Int.toNat CF) (0,0,0,0,false,())).2).1 else false) || decide (0≤CF),(!bif decide (hJ.2.1>0) then hJ.2.1==((List.getD BM.1 (Int.toNat CF) (0,0,0,0,false,())).2).1 else false) || decide (CF<(↑(List.length BM.1):Int)),(!bif decide (hJ.2.1>0) then hJ.2.1==((List.getD BM.1 (Int.toNat CF) (0,0,0,0,false,())).2).1 else false) || decide (0≤DG),(!bif decide (hJ.2.1>0) then hJ.2.1==((List.getD BM.1 (Int.toNat CF) (0,0,0,0,false,())).2).1 else false) || decide (DG<(↑(List.length BM.1):Int)),!decide (hJ.2.1>0) || decide (0≤CF),!decide (hJ.2.1>0) || decide (CF<(↑(List.length BM.1):Int)),!decide (hJ.2.1>0) || decide (0≤DG),!decide (hJ.2.1>0) || decide (DG<(↑(List.length BM.1):Int)),decide (0≤DG),decide (DG<(↑(List.length BM.1):Int))] then
   bif vc then
    some (.inr (.inl (false,())))
   else
    some (.inl (((IntKind.wrap .i64 (CF+1)),(),DG),BM))
  else none
 else
  some (.inr (.inr (((),DG),BM)))
def Wh.aad:(((Bool))×(Unit))⊕(((Unit)×(Int))×((eI.D))):=.inl default
abbrev Wh.T6:Type:=((Unit)×(Int))×((eI.D))
abbrev Wh.agS:Type:=((((Bool))×(Unit))⊕(((Unit))×((eI.D))))
def Wh.DW (x:T6):Option (T6⊕agS):=
 let KN:=x.1.2
 let Jx:=x.2
 let v_44:Int:=(↑(List.length Jx.1):Int)
 bif decide (KN<v_44) then
  let PO:di.D:=List.getD Jx.1 (Int.toNat KN) (0,0,0,0,false,())
  let r_48:=zog E9 PO
  bif jZ [isSm (E9 PO),decide (0≤KN),decide (KN<v_44)] then
   bif !r_48.1 then
    some (.inr (.inl (false,())))
   else
    let x_49:T7:=((0,(),KN),Jx)
    bif pY BU x_49 then
     sumC (oa BU aad x_49) (fun y_50=>
      let FM:=y_50.1
      some (.inr (.inl (FM,())))) (fun z_51=>
      let i_53:=z_51.1.2
      let S1:=z_51.2
      some (.inl (((),(IntKind.wrap .i64 (i_53+1))),S1)))
    else none
  else none
 else
  some (.inr (.inr ((),Jx)))
def Wh.aac:(((Bool))×(Unit))⊕(((Unit))×((eI.D))):=.inl default
def Wh.EW (xs:(eI.D)):Option (((Bool))×(Unit)):=
 let gv:eI.D:=xs
 let v_1:Int:=(↑(List.length gv.1):Int)
 let dm:=zog cr (gv.2.1,0,7)
 let sn:=bif v_1 != 8 then true else !dm.1
 bif jZ [!!v_1 != 8 || isSm (cr (gv.2.1,0,7))] then
  bif sn then
   some (false,())
  else
   let x_56:T6:=(((),0),gv)
   bif pY DW x_56 then
    sumC (oa DW aac x_56) (fun y_57=>
     let v_59:=y_57.1
     some (v_59,())) (fun z_58=>
     let ls_60:=z_58.2
     let Hg:T8:=((0,()),ls_60)
     bif pY DX Hg then
      sumC (oa DX aae Hg) (fun JT=>
       let v_76:=JT.1
       some (v_76,())) (fun _=>
       some (true,()))
     else none)
   else none
 else none
abbrev Wh.UX:Type:=((Unit)×(Int)×(Unit)×(Int))×((bn.D)×(bx.D))
abbrev Wh.ahB:Type:=((((Unit)×(Bool))×((bn.D)))⊕(((Unit))×((bn.D))))
def Wh.Fo (x:UX):Option (UX⊕ahB):=
 let Bk:=x.1.2.1
 let WW:=x.1.2.2.2
 let C7:=x.2.1
 let kS:=x.2.2
 let iL:Int:=(↑(List.length kS.2.1):Int)
 bif decide (Bk<iL) then
  let jg:bn.D:=List.getD kS.2.1 (Int.toNat Bk) (0,[],0,[],())
  bif jZ [decide (0≤Bk),decide (Bk<iL)] then
   bif(jg.2.2.1==WW) then
    bif jZ [decide (0≤Bk),decide (Bk<iL)] then
     some (.inr (.inl (((),true),jg)))
    else none
   else
    some (.inl (((),(IntKind.wrap .i64 (Bk+1)),(),WW),C7,kS))
  else none
 else
  some (.inr (.inr ((),C7)))
def Wh.aaT:(((Unit)×(Bool))×((bn.D)))⊕(((Unit))×((bn.D))):=.inl default
def Wh.Fm (xs:(bx.D)×(Int)):Option (((bn.D)×(Bool))×(Unit)):=
 let bt:=xs.1
 let KC:=xs.2
 let x_20:UX:=(((),0,(),KC),(0,[],0,[],()),bt)
 bif pY Fo x_20 then
  sumC (oa Fo aaT x_20) (fun y_21=>
   let AA:=y_21.1.2
   let AF:=y_21.2
   some ((AF,AA),())) (fun _=>
   some (((0,[],0,[],()),false),()))
 else none
def Wh.q82 (xs:(Int)):Option (((Int))×(Unit)):=
 let Sb:=xs
 some ((Int.tmod Sb 2),())
abbrev Wh.UW:Type:=((Int)×(Unit))×((dj.D))
abbrev Wh.ahA:Type:=((((Bool))×(Unit))⊕((Unit)×(Unit)))
def Wh.Ec (x:UW):Option (UW⊕ahA):=
 let w8:=x.1.1
 let BN:=x.2
 let zE:Int:=(↑(List.length ((BN.2.2.2.2.2).2.1)):Int)
 bif decide (w8<zE) then
  let xe:e_.D:=List.getD ((BN.2.2.2.2.2).2.1) (Int.toNat w8) (0,0,0,0,0,0,())
  bif jZ [decide (0≤w8),decide (w8<zE)] then
   let nc:=zog cr (xe.1,0,3)
   let Dr:=zog cr (xe.2.1,1,99999)
   let FF:=zog cr (xe.2.2.1,1,(BN.2.2.2).1.1)
   let AY:=zog cr ((xe.2.2.2).1,0,9999)
   let Lh:=zog cr (xe.2.2.2.2.1,0,3)
   let IL:=zog cr ((xe.2.2.2.2.2).1,0,BN.2.1)
   let FL:=bif bif bif bif bif bif !nc.1 then true else bif decide (w8>0) then decide ((List.getD ((BN.2.2.2.2.2).2.1) (Int.toNat (IntKind.wrap .i64 (w8-1))) (0,0,0,0,0,0,())).1≥xe.1) else false then true else !Dr.1 then true else !FF.1 then true else !AY.1 then true else !Lh.1 then true else !IL.1
   bif jZ [(!!bif bif bif bif bif !nc.1 then true else bif decide (w8>0) then decide ((List.getD ((BN.2.2.2.2.2).2.1) (Int.toNat (IntKind.wrap .i64 (w8-1))) (0,0,0,0,0,0,())).1≥xe.1) else false then true else !Dr.1 then true else !FF.1 then true else !AY.1 then true else !Lh.1) || isSm (cr ((xe.2.2.2.2.2).1,0,BN.2.1)),(!!bif bif bif bif !nc.1 then true else bif decide (w8>0) then decide ((List.getD ((BN.2.2.2.2.2).2.1) (Int.toNat (IntKind.wrap .i64 (w8-1))) (0,0,0,0,0,0,())).1≥xe.1) else false then true else !Dr.1 then true else !FF.1 then true else !AY.1) || isSm (cr (xe.2.2.2.2.1,0,3)),(!!bif bif bif !nc.1 then true else bif decide (w8>0) then decide ((List.getD ((BN.2.2.2.2.2).2.1) (Int.toNat (IntKind.wrap .i64 (w8-1))) (0,0,0,0,0,0,())).1≥xe.1) else false then true else !Dr.1 then true else !FF.1) || isSm (cr ((xe.2.2.2).1,0,9999)),(!!bif bif !nc.1 then true else bif decide (w8>0) then decide ((List.getD ((BN.2.2.2.2.2).2.1) (Int.toNat (IntKind.wrap .i64 (w8-1))) (0,0,0,0,0,0,())).1≥xe.1) else false then true else !Dr.1) || isSm (cr (xe.2.2.1,1,(BN.2.2.2).1.1)),(!!bif !nc.1 then true else bif decide (w8>0) then decide ((List.getD ((BN.2.2.2.2.2).2.1) (Int.toNat (IntKind.wrap .i64 (w8-1))) (0,0,0,0,0,0,())).1≥xe.1) else false) || isSm (cr (xe.2.1,1,99999)),!(decide (w8>0) && !!nc.1) || decide (0≤IntKind.wrap .i64 (w8-1)),!(decide (w8>0) && !!nc.1) || decide (IntKind.wrap .i64 (w8-1)<zE),isSm (cr (xe.1,0,3))] then
    bif FL then
     some (.inr (.inl (false,())))
    else
     bz Fm ((BN.2.2.2).1,xe.2.2.1) fun Li=>
      let r_50:=zog q82 xe.1
      let wJ:=bif Li.1.2 then Li.1.1.1 != r_50.1 else false
      bif jZ [!Li.1.2 || isSm (q82 xe.1)] then
       bif wJ then
        some (.inr (.inl (false,())))
       else
        some (.inl (((IntKind.wrap .i64 (w8+1)),()),BN))
      else none
   else none
  else none
 else
  some (.inr (.inr ((),())))
def Wh.aaS:(((Bool))×(Unit))⊕((Unit)×(Unit)):=.inl default
def Wh.q44 (xs:(dj.D)):Option (((Bool))×(Unit)):=
 let b6:dj.D:=xs
 let LH:UW:=((0,()),b6)
 bif pY Ec LH then
  sumC (oa Ec aaS LH) (fun y_54=>
   let Cr:=y_54.1
   some (Cr,())) (fun _=>
   some (true,()))
 else none
def Wh.zT (xs:(fe.D)):Option (((Int))×(Unit)):=
 let gv:fe.D:=xs
 bif jZ [gv.2.1 != 0] then
  some ((IntKind.wrap .i64 (Int.tdiv (IntKind.wrap .i64 ((IntKind.wrap .i64 (gv.1+gv.2.1))-1)) gv.2.1)),())
 else none
abbrev Wh.Uy:Type:=((Unit)×(Unit))×(((Int)×((Int)×((Unit)×((Unit)×(Unit)))))×((Int)×((Int)×((Unit)×((Unit)×(Unit)))))×(List (Int))×(List (Int))×(List (Int))×(List (Int)))
abbrev Wh.ahi:Type:=((((Unit)×(Unit))×(((Int)×((Int)×((Unit)×((Unit)×(Unit)))))×((Int)×((Int)×((Unit)×((Unit)×(Unit)))))×(List (Int))×(List (Int))×(List (Int))×(List (Int)))))
def Wh.Fa (x:Uy):Option (Uy⊕ahi):=
 let kS:=x.2.1.1
 let tc:=(x.2.1.2).1
 let DJ:=(x.2.1.2.2.2).2
 let jn:=x.2.2.1.1
 let je:=(x.2.2.1).2.1
 let th:=(x.2.2.1).2.2.2.2
 let zN:=(x.2.2.2).1
 let AN:=x.2.2.2.2.1
 let A8:=(x.2.2.2.2.2).1
 let zY:=(x.2.2.2.2.2).2
 bz zT (kS,tc,zN,AN,DJ) fun r_24=>
  bif decide (r_24.1>24) then
   some (.inl (((),()),(kS,(IntKind.wrap .i64 (tc+1)),(),(),DJ),(jn,je,(),(),th),zN,AN,A8,zY))
  else
   some (.inr (((),()),(jn,je,(),(),th),(kS,tc,(),(),DJ),A8,zY,zN,AN))
def Wh.aaA:(((Unit)×(Unit))×(((Int)×((Int)×((Unit)×((Unit)×(Unit)))))×((Int)×((Int)×((Unit)×((Unit)×(Unit)))))×(List (Int))×(List (Int))×(List (Int))×(List (Int)))):=default
def Wh.Df (xs:(Int)):Option ((((Int)×((Int)×((List (Int))×((List (Int))×(Unit))))))×(Unit)):=
 let OO:=xs
 let LD:Uy:=(((),()),(OO,8,(),(),()),(0,0,(),(),()),[],[],[],[])
 bif pY Fa LD then
  let I4:=oa Fa aaA LD
  let AG:=I4.2.2.1.1
  let Bo:=(I4.2.2.1).2.1
  let r_:=(I4.2.2.1).2.2.2.2
  let SY:=(I4.2.2.2.2.2).1
  let tn:=(I4.2.2.2.2.2).2
  bz zT (AG,Bo,SY,tn,r_) fun Bb=>
   let k_42:=IntKind.wrap .i64 (Int.tdiv (IntKind.wrap .i64 (Bb.1+3)) 4)
   bif decide (k_42<Bb.1) then
    let pb_44:List Int:=[k_42,Bb.1]
    some ((AG,Bo,pb_44,[(2:Int),3],r_),())
   else
    let Tz:List Int:=[Bb.1]
    some ((AG,Bo,Tz,[(1:Int)],r_),())
 else none
def Wh.q78 (xs:(ek.D)):Option (((Bool))×(Unit)):=
 let zK:ek.D:=xs
 let r_1:=zog cr (zK.2.1,0,99999)
 let r_2:=zog cr (zK.1,0,zK.2.1)
 let k8:=zog cr (zK.2.2.1,0,99999)
 let qj:=zog cr ((zK.2.2.2).1,0,99999)
 let Aa:=bif bif bif r_1.1 then r_2.1 else false then k8.1 else false then qj.1 else false
 bif jZ [(!bif bif r_1.1 then r_2.1 else false then k8.1 else false) || isSm (cr ((zK.2.2.2).1,0,99999)),(!bif r_1.1 then r_2.1 else false) || isSm (cr (zK.2.2.1,0,99999)),!r_1.1 || isSm (cr (zK.1,0,zK.2.1)),isSm (cr (zK.2.1,0,99999))] then
  some (Aa,())
 else none
abbrev Wh.Ve:Type:=((Int)×(Unit))×((dj.D))
abbrev Wh.ahT:Type:=((((Bool))×(Unit))⊕((Unit)×(Unit)))
def Wh.Ft (x:Ve):Option (Ve⊕ahT):=
 let h_80:=x.1.1
 let OT:=x.2
 let v_82:Int:=(↑(List.length ((OT.2.2.2.2.2).1)):Int)
 bif decide (h_80<v_82) then
  let K0:ek.D:=List.getD ((OT.2.2.2.2.2).1) (Int.toNat h_80) (0,0,0,0,())
  bif jZ [decide (0≤h_80),decide (h_80<v_82)] then
   let r_85:=zog q78 K0
   let PX:=bif bif bif !r_85.1 then true else K0.2.1 != 40 then true else K0.2.2.1 != 8 then true else decide ((K0.2.2.2).1>OT.2.1)
   bif jZ [isSm (q78 K0)] then
    bif PX then
     some (.inr (.inl (false,())))
    else
     some (.inl (((IntKind.wrap .i64 (h_80+1)),()),OT))
   else none
  else none
 else
  some (.inr (.inr ((),())))
def Wh.aba:(((Bool))×(Unit))⊕((Unit)×(Unit)):=.inl default
abbrev Wh.Vd:Type:=((Int)×(Unit))×((dj.D))
abbrev Wh.ahS:Type:=((((Bool))×(Unit))⊕(((Unit))×((dj.D))))
def Wh.Cl (x:Vd):Option (Vd⊕ahS):=
 let Ai:=x.1.1
 let HK:=x.2
 let wJ:Int:=(↑(List.length ((HK.2.2.2.2.1).1)):Int)
 bif decide (Ai<wJ) then
  let z6:=zog Fm ((HK.2.2.2).1,((List.getD ((HK.2.2.2.2.1).1) (Int.toNat Ai) (0,0,0,0,false,())).2).1)
  let mw:di.D:=List.getD ((HK.2.2.2.2.1).1) (Int.toNat Ai) (0,0,0,0,false,())
  bif jZ [isSm (Fm ((HK.2.2.2).1,mw.2.1)),decide (0≤Ai),decide (Ai<wJ)] then
   let CR:=zog Df (↑(List.length ((z6.1.1.2.2.2).1)):Int)
   let r_60:=zog zT (CR.1.1,CR.1.2.1,bif(!bif !z6.1.2 then true else z6.1.1.1 != mw.1)&&(decide (mw.2.1>0) && !decide ((mw.2.2.2).1>0)) then(CR.1.2.2).1 else [],bif(!bif !z6.1.2 then true else z6.1.1.1 != mw.1)&&(decide (mw.2.1>0) && !decide ((mw.2.2.2).1>0)) then CR.1.2.2.2.1 else [],CR.1.2.2.2.2)
   let Lw:=bif decide ((mw.2.2.2).1>0) then true else bif decide (mw.2.1>0) then bif bif !z6.1.2 then true else z6.1.1.1 != mw.1 then true else decide (mw.2.2.1≥r_60.1) else false
   bif jZ [!((!bif !z6.1.2 then true else z6.1.1.1 != mw.1)&&(decide (mw.2.1>0) && !decide ((mw.2.2.2).1>0))) || isSm (zT (CR.1.1,CR.1.2.1,bif(!bif !z6.1.2 then true else z6.1.1.1 != mw.1)&&(decide (mw.2.1>0) && !decide ((mw.2.2.2).1>0)) then(CR.1.2.2).1 else [],bif(!bif !z6.1.2 then true else z6.1.1.1 != mw.1)&&(decide (mw.2.1>0) && !decide ((mw.2.2.2).1>0)) then CR.1.2.2.2.1 else [],CR.1.2.2.2.2)),!((!bif !z6.1.2 then true else z6.1.1.1 != mw.1)&&(decide (mw.2.1>0) && !decide ((mw.2.2.2).1>0))) || isSm (Df (↑(List.length ((z6.1.1.2.2.2).1)):Int)),!((!bif !z6.1.2 then true else z6.1.1.1 != mw.1)&&(decide (mw.2.1>0) && !decide ((mw.2.2.2).1>0))) || decide (0≤Ai),!((!bif !z6.1.2 then true else z6.1.1.1 != mw.1)&&(decide (mw.2.1>0) && !decide ((mw.2.2.2).1>0))) || decide (Ai<wJ),!(!!z6.1.2&&(decide (mw.2.1>0) && !decide ((mw.2.2.2).1>0))) || decide (0≤Ai),!(!!z6.1.2&&(decide (mw.2.1>0) && !decide ((mw.2.2.2).1>0))) || decide (Ai<wJ),!!decide ((mw.2.2.2).1>0) || decide (0≤Ai),!!decide ((mw.2.2.2).1>0) || decide (Ai<wJ),decide (0≤Ai),decide (Ai<wJ)] then
    bif Lw then
     some (.inr (.inl (false,())))
    else
     some (.inl (((IntKind.wrap .i64 (Ai+1)),()),HK))
   else none
  else none
 else
  some (.inr (.inr ((),HK)))
def Wh.aa_:(((Bool))×(Unit))⊕(((Unit))×((dj.D))):=.inl default
def Wh.q80 (xs:(dj.D)):Option (((Bool))×(Unit)):=
 let b6:dj.D:=xs
 let r_1:=zog cr (b6.2.1,0,99999)
 let v_2:=bif !r_1.1 then true else decide ((↑(List.length (b6.2.2.1)):Int)>9000)
 bif jZ [isSm (cr (b6.2.1,0,99999))] then
  bif v_2 then
   some (false,())
  else
   bif(!b6.1) then
    let nG:Int:=(↑(List.length ((b6.2.2.2).1.2.1)):Int)
    let AW:=zog Ge b6
    let ec:=bif bif bif bif bif bif nG==0 then(b6.2.2.2).1.1==0 else false then(↑(List.length ((b6.2.2.2.2.1).1)):Int)==0 else false then(b6.2.2.2.2.1).2.1==0 else false then(↑(List.length ((b6.2.2.2.2.2).1)):Int)==0 else false then(↑(List.length ((b6.2.2.2.2.2).2.1)):Int)==0 else false then AW.1 else false
    bif jZ [(!bif bif bif bif bif nG==0 then(b6.2.2.2).1.1==0 else false then(↑(List.length ((b6.2.2.2.2.1).1)):Int)==0 else false then(b6.2.2.2.2.1).2.1==0 else false then(↑(List.length ((b6.2.2.2.2.2).1)):Int)==0 else false then(↑(List.length ((b6.2.2.2.2.2).2.1)):Int)==0 else false) || isSm (Ge b6)] then
     some (ec,())
    else none
   else
    bz Db (b6.2.2.1) fun y3=>
     bz D7 y3.1.1 fun AX=>
      let wv:= !AX.1.2
      let CN:=zog DS (AX.1.1,(b6.2.2.2).1)
      let Pk:=zog EW (b6.2.2.2.2.1)
      let CQ:=zog q44 b6
      let v_34:=bif bif bif bif bif wv then true else y3.1.2 != (↑(List.length (b6.2.2.1)):Int) then true else !CN.1 then true else !Pk.1 then true else(↑(List.length ((b6.2.2.2.2.2).1)):Int) != 2 then true else !CQ.1
      bif jZ [(!!bif bif bif bif wv then true else y3.1.2 != (↑(List.length (b6.2.2.1)):Int) then true else !CN.1 then true else !Pk.1 then true else(↑(List.length ((b6.2.2.2.2.2).1)):Int) != 2) || isSm (q44 b6),(!!bif bif wv then true else y3.1.2 != (↑(List.length (b6.2.2.1)):Int) then true else !CN.1) || isSm (EW (b6.2.2.2.2.1)),(!!bif wv then true else y3.1.2 != (↑(List.length (b6.2.2.1)):Int)) || isSm (DS (AX.1.1,(b6.2.2.2).1))] then
       bif v_34 then
        some (false,())
       else
        let x_63:Vd:=((0,()),b6)
        bif pY Cl x_63 then
         sumC (oa Cl aa_ x_63) (fun y_64=>
          let v_66:=y_64.1
          some (v_66,())) (fun z_65=>
          let OS:=z_65.2
          let x_92:Ve:=((0,()),OS)
          bif pY Ft x_92 then
           sumC (oa Ft aba x_92) (fun y_93=>
            let v_95:=y_93.1
            some (v_95,())) (fun _=>
            some (true,()))
          else none)
        else none
      else none
 else none
abbrev Wh.TM:Type:=((Int)×(Unit)×(Unit))×((bV.D)×((Int)×((Unit)×(Unit)))×(List (bn.D)))
abbrev Wh.agC:Type:=((((Bool))×(Unit))⊕(((Unit)×(Unit))×((bV.D)×((Int)×((Unit)×(Unit)))×(List (bn.D)))))
def Wh.EM (x:TM):Option (TM⊕agC):=
 let jl:=x.1.1
 let jn:=x.2.1
 let je:=x.2.2.1.1
 let th:=(x.2.2.1).2.2
 let zN:=x.2.2.2
 let gh:Int:=(↑(List.length zN):Int)
 bif decide (jl<gh) then
  let Al:bn.D:=List.getD zN (Int.toNat jl) (0,[],0,[],())
  bif jZ [decide (0≤jl),decide (jl<gh)] then
   let s_:Int:=(↑(List.length ((jn.2.2.2).1)):Int)
   let zW:=bif decide (Al.2.2.1≤s_) then !((List.getD ((jn.2.2.2).1) (Int.toNat (IntKind.wrap .i64 (Al.2.2.1-1))) (0,[],0,[],())).1==Al.1&&(((List.getD ((jn.2.2.2).1) (Int.toNat (IntKind.wrap .i64 (Al.2.2.1-1))) (0,[],0,[],())).2).1==Al.2.1&&((((List.getD ((jn.2.2.2).1) (Int.toNat (IntKind.wrap .i64 (Al.2.2.1-1))) (0,[],0,[],())).2).2).1==Al.2.2.1&&(((((List.getD ((jn.2.2.2).1) (Int.toNat (IntKind.wrap .i64 (Al.2.2.1-1))) (0,[],0,[],())).2).2).2).1==(Al.2.2.2).1&&true)))) else false
   bif jZ [!decide (Al.2.2.1≤s_) || decide (0≤IntKind.wrap .i64 (Al.2.2.1-1)),!decide (Al.2.2.1≤s_) || decide (IntKind.wrap .i64 (Al.2.2.1-1)<s_)] then
    bif zW then
     some (.inr (.inl (false,())))
    else
     some (.inl (((IntKind.wrap .i64 (jl+1)),(),()),jn,(je,(),th),zN))
   else none
  else none
 else
  some (.inr (.inr (((),()),jn,(je,(),th),zN)))
def Wh.ZW:(((Bool))×(Unit))⊕(((Unit)×(Unit))×((bV.D)×((Int)×((Unit)×(Unit)))×(List (bn.D)))):=.inl default
def Wh.HV (xs:(bV.D)):Option (((Bool))×(Unit)):=
 let w_0:=xs
 bz Db ((w_0.1.2.2).1) fun r_1=>
  bz D7 r_1.1.1 fun r_2=>
   let G_:TM:=((0,(),()),w_0,(r_2.1.1.1,(),r_2.1.1.2.2),(r_2.1.1.2).1)
   bif pY EM G_ then
    sumC (oa EM ZW G_) (fun Hj=>
     let v_32:=Hj.1
     some (v_32,())) (fun JU=>
     let Bo:=JU.2.1
     let r_:=JU.2.2.1.1
     let IY:Int:=(↑(List.length ((Bo.2.2.2).1)):Int)
     bz cr (r_,IY,IntKind.wrap .i64 (IY+1)) fun JL=>
      some (JL.1,()))
   else none
abbrev Wh.Vj:Type:=((Int)×(Unit))×((bV.D))
abbrev Wh.ahY:Type:=((((Bool))×(Unit))⊕(((Unit))×((bV.D))))
def Wh.Fw (x:Vj):Option (Vj⊕ahY):=
 let KM:=x.1.1
 let AO:=x.2
 let Be:Int:=(↑(List.length ((AO.1.2.2.2.1).2.1)):Int)
 bif decide (KM<Be) then
  let Cd:bn.D:=List.getD ((AO.1.2.2.2.1).2.1) (Int.toNat KM) (0,[],0,[],())
  bif jZ [decide (0≤KM),decide (KM<Be)] then
   let IZ:Int:=(↑(List.length ((AO.2.2.2).1)):Int)
   let PO:=bif decide (Cd.2.2.1>IZ) then true else !((List.getD ((AO.2.2.2).1) (Int.toNat (IntKind.wrap .i64 (Cd.2.2.1-1))) (0,[],0,[],())).1==Cd.1&&(((List.getD ((AO.2.2.2).1) (Int.toNat (IntKind.wrap .i64 (Cd.2.2.1-1))) (0,[],0,[],())).2).1==Cd.2.1&&((((List.getD ((AO.2.2.2).1) (Int.toNat (IntKind.wrap .i64 (Cd.2.2.1-1))) (0,[],0,[],())).2).2).1==Cd.2.2.1&&(((((List.getD ((AO.2.2.2).1) (Int.toNat (IntKind.wrap .i64 (Cd.2.2.1-1))) (0,[],0,[],())).2).2).2).1==(Cd.2.2.2).1&&true))))
   bif jZ [!!decide (Cd.2.2.1>IZ) || decide (0≤IntKind.wrap .i64 (Cd.2.2.1-1)),!!decide (Cd.2.2.1>IZ) || decide (IntKind.wrap .i64 (Cd.2.2.1-1)<IZ)] then
    bif PO then
     some (.inr (.inl (false,())))
    else
     some (.inl (((IntKind.wrap .i64 (KM+1)),()),AO))
   else none
  else none
 else
  some (.inr (.inr ((),AO)))
def Wh.abf:(((Bool))×(Unit))⊕(((Unit))×((bV.D))):=.inl default
abbrev Wh.Vi:Type:=((Int)×(Unit))×((bV.D))
abbrev Wh.ahX:Type:=((((Bool))×(Unit))⊕(((Unit))×((bV.D))))
def Wh.Fv (x:Vi):Option (Vi⊕ahX):=
 let ez:=x.1.1
 let C7:=x.2
 let fj:Int:=(↑(List.length ((C7.2.2.2).1)):Int)
 bif decide (ez<fj) then
  let fN:bn.D:=List.getD ((C7.2.2.2).1) (Int.toNat ez) (0,[],0,[],())
  let y3:=zog Bw fN
  let gh:=bif !y3.1 then true else fN.2.2.1 != IntKind.wrap .i64 (ez+1)
  bif jZ [!!!(zog Bw fN).1 || decide (0≤ez),!!!(zog Bw fN).1 || decide (ez<fj),isSm (Bw fN),decide (0≤ez),decide (ez<fj)] then
   bif gh then
    some (.inr (.inl (false,())))
   else
    some (.inl (((IntKind.wrap .i64 (ez+1)),()),C7))
  else none
 else
  some (.inr (.inr ((),C7)))
def Wh.abe:(((Bool))×(Unit))⊕(((Unit))×((bV.D))):=.inl default
def Wh.q83 (xs:(bV.D)):Option (((Bool))×(Unit)):=
 let w_0:=xs
 let x_23:Vi:=((0,()),w_0)
 bif pY Fv x_23 then
  sumC (oa Fv abe x_23) (fun y_24=>
   let nT:=y_24.1
   some (nT,())) (fun z_25=>
   let zZ:=z_25.2
   let Hf:Vj:=((0,()),zZ)
   bif pY Fw Hf then
    sumC (oa Fw abf Hf) (fun Ho=>
     let wJ:=Ho.1
     some (wJ,())) (fun P1=>
     let B9:=P1.2
     bif B9.1.1 then
      let CU:Int:=(↑(List.length ((B9.2.2.2).1)):Int)
      let Dy:Bool:=(B9.1.2.2.2.1).1==CU
      some (Dy,())
     else
      bz HV B9 fun z7=>
       some (z7.1,()))
   else none)
 else none
def Wh.Gf (xs:(b9.D)):Option (((Bool))×(Unit)):=
 let bt:=xs
 let v_1:Int:=(↑(List.length ((bt.2.2.2.2.2).1.1.2.2.1)):Int)
 let iL:=bif bif bif bif bif bif v_1==0 then(↑(List.length ((bt.2.2.2.2.2).1.1.2.2.2.1)):Int)==0 else false then(bt.2.2.2.2.2).1.1.1==0 else false then(bt.2.2.2.2.2).1.1.2.1==0 else false then(bt.2.2.2.2.2).1.2.1.1==0 else false then(bt.2.2.2.2.2).1.2.1.2.1==0 else false then(↑(List.length ((bt.2.2.2.2.2).1.2.1.2.2.1)):Int)==0 else false
 some (iL,())
abbrev Wh.T5:Type:=((Int)×(Unit))×((fe.D))
abbrev Wh.agR:Type:=((((Bool))×(Unit))⊕(((Unit))×((fe.D))))
def Wh.CK (x:T5):Option (T5⊕agR):=
 let xI:=x.1.1
 let vT:=x.2
 let pz:Int:=(↑(List.length (vT.2.2.1)):Int)
 bif decide (xI<pz) then
  let Cq:=List.getD (vT.2.2.1) (Int.toNat xI) 0
  let Bb:=zog zT vT
  let IL:=zog cr (Cq,1,Bb.1)
  let r_48:=zog cr (List.getD ((vT.2.2.2).1) (Int.toNat xI) 0,1,99)
  let Bz:=bif bif !IL.1 then true else bif decide (xI>0) then decide (List.getD (vT.2.2.1) (Int.toNat (IntKind.wrap .i64 (xI-1))) 0≥Cq) else false then true else !r_48.1
  bif jZ [(!!bif !(zog cr (Cq,1,Bb.1)).1 then true else bif decide (xI>0) then decide (List.getD (vT.2.2.1) (Int.toNat (IntKind.wrap .i64 (xI-1))) 0≥Cq) else false) || isSm (cr (List.getD ((vT.2.2.2).1) (Int.toNat xI) 0,1,99)),(!!bif !(zog cr (Cq,1,Bb.1)).1 then true else bif decide (xI>0) then decide (List.getD (vT.2.2.1) (Int.toNat (IntKind.wrap .i64 (xI-1))) 0≥Cq) else false) || decide (0≤xI),(!!bif !(zog cr (Cq,1,Bb.1)).1 then true else bif decide (xI>0) then decide (List.getD (vT.2.2.1) (Int.toNat (IntKind.wrap .i64 (xI-1))) 0≥Cq) else false) || decide (xI<(↑(List.length ((vT.2.2.2).1)):Int)),!(decide (xI>0) && !!(zog cr (Cq,1,Bb.1)).1) || decide (0≤xI),!(decide (xI>0) && !!(zog cr (Cq,1,Bb.1)).1) || decide (xI<pz),!(decide (xI>0) && !!(zog cr (Cq,1,Bb.1)).1) || decide (0≤IntKind.wrap .i64 (xI-1)),!(decide (xI>0) && !!(zog cr (Cq,1,Bb.1)).1) || decide (IntKind.wrap .i64 (xI-1)<pz),isSm (cr (Cq,1,Bb.1)),isSm (zT vT),decide (0≤xI),decide (xI<pz)] then
   bif Bz then
    some (.inr (.inl (false,())))
   else
    some (.inl (((IntKind.wrap .i64 (xI+1)),()),vT))
  else none
 else
  some (.inr (.inr ((),vT)))
def Wh.aab:(((Bool))×(Unit))⊕(((Unit))×((fe.D))):=.inl default
def Wh.BT (xs:(fe.D)):Option (((Bool))×(Unit)):=
 let gv:fe.D:=xs
 let r_1:=zog cr (gv.1,1,300)
 let r_2:=zog cr (gv.2.1,1,16)
 let k8:=zog zT gv
 let GY:=zog cr ((↑(List.length (gv.2.2.1)):Int),1,3)
 let Ld:=zog cr (k8.1,1,24)
 let fN:=bif bif bif bif !r_1.1 then true else !r_2.1 then true else !Ld.1 then true else !GY.1 then true else(↑(List.length ((gv.2.2.2).1)):Int) != (↑(List.length (gv.2.2.1)):Int)
 bif jZ [(!!bif bif !r_1.1 then true else !r_2.1 then true else !(zog cr (k8.1,1,24)).1) || isSm (cr ((↑(List.length (gv.2.2.1)):Int),1,3)),(!!bif !r_1.1 then true else !r_2.1) || isSm (cr (k8.1,1,24)),(!!bif !r_1.1 then true else !r_2.1) || isSm (zT gv),!!!r_1.1 || isSm (cr (gv.2.1,1,16)),isSm (cr (gv.1,1,300))] then
  bif fN then
   some (false,())
  else
   let x_51:T5:=((0,()),gv)
   bif pY CK x_51 then
    sumC (oa CK aab x_51) (fun y_52=>
     let mw:=y_52.1
     some (mw,())) (fun z_53=>
     let F4:=z_53.2
     let Cr:Int:=(↑(List.length (F4.2.2.1)):Int)
     let r_60:=zog zT F4
     let v_62:=List.getD (F4.2.2.1) (Int.toNat (IntKind.wrap .i64 (Cr-1))) 0==r_60.1
     bif jZ [isSm (zT F4),decide (0≤IntKind.wrap .i64 (Cr-1)),decide (IntKind.wrap .i64 (Cr-1)<Cr)] then
      some (v_62,())
     else none)
   else none
 else none
abbrev Wh.Uo:Type:=((Int)×(List (Int))×(Int))×(Unit)
abbrev Wh.ag_:Type:=((((Bool))×(Unit))⊕(((Int))×(Unit)))
def Wh.D9 (x:Uo):Option (Uo⊕ag_):=
 let zX:=x.1.1
 let Lj:=x.1.2.1
 let Se:=x.1.2.2
 let jg:=decide (zX<(↑(List.length Lj):Int))
 bif jg then
  let ew:=List.getD Lj (Int.toNat zX) 0
  let ec:=IntKind.wrap .i64 (Se-1)
  let nI:=zog cr (ew,0,ec)
  let s_:=bif !nI.1 then true else bif decide (zX>0) then decide (List.getD Lj (Int.toNat (IntKind.wrap .i64 (zX-1))) 0≥ew) else false
  bif jZ [!(decide (zX>0) && !!(zog cr (ew,0,ec)).1) || decide (0≤zX),!(decide (zX>0) && !!(zog cr (ew,0,ec)).1) || jg,!(decide (zX>0) && !!(zog cr (ew,0,ec)).1) || decide (0≤IntKind.wrap .i64 (zX-1)),!(decide (zX>0) && !!(zog cr (ew,0,ec)).1) || decide (IntKind.wrap .i64 (zX-1)<(↑(List.length Lj):Int)),isSm (cr (ew,0,ec)),decide (0≤zX),jg] then
   bif s_ then
    some (.inr (.inl (false,())))
   else
    some (.inl (((IntKind.wrap .i64 (zX+1)),Lj,Se),()))
  else none
 else
  some (.inr (.inr (Se,())))
def Wh.aat:(((Bool))×(Unit))⊕(((Int))×(Unit)):=.inl default
def Wh.D8 (xs:(List (Int))×(Int)):Option (((Bool))×(Unit)):=
 let Eh:=xs.1
 let Sd:=xs.2
 let A2:Uo:=((0,Eh,Sd),())
 bif pY D9 A2 then
  sumC (oa D9 aat A2) (fun Cs=>
   let zE:=Cs.1
   some (zE,())) (fun FO=>
   let acm:=FO.1
   bz cr (acm,0,24) fun Le=>
    some (Le.1,()))
 else none
abbrev Wh.Ux:Type:=((Int)×(Int)×(List (Int)))×(Unit)
abbrev Wh.ahh:Type:=((((Bool))×(Unit))⊕((Unit)×(Unit)))
def Wh.GA (x:Ux):Option (Ux⊕ahh):=
 let rm:=x.1.1
 let n_10:=x.1.2.1
 let VD:=x.1.2.2
 let nS:=decide (rm<(↑(List.length VD):Int))
 bif nS then
  let Ac:=List.getD VD (Int.toNat rm) 0
  let fj:=Ac==n_10
  bif jZ [decide (0≤rm),nS] then
   bif fj then
    some (.inr (.inl (true,())))
   else
    some (.inl (((IntKind.wrap .i64 (rm+1)),n_10,VD),()))
  else none
 else
  some (.inr (.inr ((),())))
def Wh.aaz:(((Bool))×(Unit))⊕((Unit)×(Unit)):=.inl default
def Wh.Ea (xs:(List (Int))×(Int)):Option (((Bool))×(Unit)):=
 let Eh:=xs.1
 let n_1:=xs.2
 let x_16:Ux:=((0,n_1,Eh),())
 bif pY GA x_16 then
  sumC (oa GA aaz x_16) (fun LL=>
   let ec:=LL.1
   some (ec,())) (fun _=>
   some (false,()))
 else none
abbrev Wh.Vh:Type:=((Int)×(Int)×(Unit))×((b7.D))
abbrev Wh.ahW:Type:=((((Bool))×(Unit))⊕(((Unit)×(Int))×((b7.D))))
def Wh.GS (x:Vh):Option (Vh⊕ahW):=
 let HG:=x.1.1
 let FZ:=x.1.2.1
 let F3:=x.2
 let Bz:Int:=(↑(List.length (F3.2.2.1)):Int)
 bif decide (HG<Bz) then
  let wJ:=HG != FZ
  let r_52:=zog Ea ((List.getD (F3.2.2.1) (Int.toNat HG) ([],[],())).1,List.getD ((List.getD (F3.2.2.1) (Int.toNat FZ) ([],[],())).1) (Int.toNat 0) 0)
  let CU:=bif wJ then r_52.1 else false
  bif jZ [!wJ || isSm (Ea ((List.getD (F3.2.2.1) (Int.toNat HG) ([],[],())).1,List.getD ((List.getD (F3.2.2.1) (Int.toNat FZ) ([],[],())).1) (Int.toNat 0) 0)),!wJ || decide ((0:Int)≤0),!wJ || decide (0<(↑(List.length ((List.getD (F3.2.2.1) (Int.toNat FZ) ([],[],())).1)):Int)),!wJ || decide (0≤FZ),!wJ || decide (FZ<Bz),!wJ || decide (0≤HG),!wJ || decide (HG<Bz)] then
   bif CU then
    some (.inr (.inl (false,())))
   else
    some (.inl (((IntKind.wrap .i64 (HG+1)),FZ,()),F3))
  else none
 else
  some (.inr (.inr (((),FZ),F3)))
def Wh.abd:(((Bool))×(Unit))⊕(((Unit)×(Int))×((b7.D))):=.inl default
abbrev Wh.Vg:Type:=((Int)×(Unit))×((b7.D))
abbrev Wh.ahV:Type:=((((Bool))×(Unit))⊕((Unit)×(Unit)))
def Wh.GR (x:Vg):Option (Vg⊕ahV):=
 let i_62:=x.1.1
 let ls_63:=x.2
 let CV:Int:=(↑(List.length (ls_63.2.2.1)):Int)
 bif decide (i_62<CV) then
  let x_66:Vh:=((0,i_62,()),ls_63)
  bif pY GS x_66 then
   sumC (oa GS abd x_66) (fun y_67=>
    let Lz:=y_67.1
    some (.inr (.inl (Lz,())))) (fun z_68=>
    let i_70:=z_68.1.2
    let ls_71:=z_68.2
    some (.inl (((IntKind.wrap .i64 (i_70+1)),()),ls_71)))
  else none
 else
  some (.inr (.inr ((),())))
def Wh.abc:(((Bool))×(Unit))⊕((Unit)×(Unit)):=.inl default
abbrev Wh.Vf:Type:=((Int)×(Unit))×((b7.D))
abbrev Wh.ahU:Type:=((((Bool))×(Unit))⊕(((Unit))×((b7.D))))
def Wh.Fu (x:Vf):Option (Vf⊕ahU):=
 let jl:=x.1.1
 let jn:=x.2
 let ew:Int:=(↑(List.length (jn.2.2.1)):Int)
 bif decide (jl<ew) then
  let zQ:=List.getD (jn.2.2.1) (Int.toNat jl) ([],[],())
  bif jZ [decide (0≤jl),decide (jl<ew)] then
   let AX:=zog D8 (zQ.1,jn.1)
   let nT:=bif bif bif !AX.1 then true else(↑(List.length zQ.1):Int)==0 then true else(↑(List.length zQ.2.1):Int) != jn.2.1 then true else bif decide (jl>0) then decide (List.getD ((List.getD (jn.2.2.1) (Int.toNat (IntKind.wrap .i64 (jl-1))) ([],[],())).1) (Int.toNat 0) 0≥List.getD zQ.1 (Int.toNat 0) 0) else false
   bif jZ [!(decide (jl>0) && !bif bif !AX.1 then true else(↑(List.length zQ.1):Int)==0 then true else(↑(List.length zQ.2.1):Int) != jn.2.1) || decide ((0:Int)≤0),!(decide (jl>0) && !bif bif !AX.1 then true else(↑(List.length zQ.1):Int)==0 then true else(↑(List.length zQ.2.1):Int) != jn.2.1) || decide (0<(↑(List.length zQ.1):Int)),!(decide (jl>0) && !bif bif !AX.1 then true else(↑(List.length zQ.1):Int)==0 then true else(↑(List.length zQ.2.1):Int) != jn.2.1) || decide ((0:Int)≤0),!(decide (jl>0) && !bif bif !AX.1 then true else(↑(List.length zQ.1):Int)==0 then true else(↑(List.length zQ.2.1):Int) != jn.2.1) || decide (0<(↑(List.length ((List.getD (jn.2.2.1) (Int.toNat (IntKind.wrap .i64 (jl-1))) ([],[],())).1)):Int)),!(decide (jl>0) && !bif bif !AX.1 then true else(↑(List.length zQ.1):Int)==0 then true else(↑(List.length zQ.2.1):Int) != jn.2.1) || decide (0≤IntKind.wrap .i64 (jl-1)),!(decide (jl>0) && !bif bif !AX.1 then true else(↑(List.length zQ.1):Int)==0 then true else(↑(List.length zQ.2.1):Int) != jn.2.1) || decide (IntKind.wrap .i64 (jl-1)<ew),isSm (D8 (zQ.1,jn.1))] then
    bif nT then
     some (.inr (.inl (false,())))
    else
     some (.inl (((IntKind.wrap .i64 (jl+1)),()),jn))
   else none
  else none
 else
  some (.inr (.inr ((),jn)))
def Wh.abb:(((Bool))×(Unit))⊕(((Unit))×((b7.D))):=.inl default
def Wh.CM (xs:(b7.D)):Option (((Bool))×(Unit)):=
 let b6:=xs
 let r_1:=zog cr (b6.1,1,24)
 let r_2:=zog cr (b6.2.1,1,16)
 let ia:=bif !r_1.1 then true else !r_2.1
 bif jZ [!!!r_1.1 || isSm (cr (b6.2.1,1,16)),isSm (cr (b6.1,1,24))] then
  bif ia then
   some (false,())
  else
   let BX:Vf:=((0,()),b6)
   bif pY Fu BX then
    sumC (oa Fu abb BX) (fun BB=>
     let v_31:=BB.1
     some (v_31,())) (fun z_30=>
     let AG:=z_30.2
     let Hg:Vg:=((0,()),AG)
     bif pY GR Hg then
      sumC (oa GR abc Hg) (fun JT=>
       let v_76:=JT.1
       some (v_76,())) (fun _=>
       some (true,()))
     else none)
   else none
 else none
def Wh.Dc (xs:(fk.D)):Option (((Bool))×(Unit)):=
 let lg:=xs
 let r_1:=zog BT lg.1
 let r_2:=zog CM lg.2.1
 let k8:=zog zT lg.1
 let n4:=bif bif bif r_1.1 then r_2.1 else false then lg.2.1.1==k8.1 else false then(lg.2.1.2).1==lg.1.2.1 else false
 bif jZ [(!bif r_1.1 then r_2.1 else false) || isSm (zT lg.1),!r_1.1 || isSm (CM lg.2.1),isSm (BT lg.1)] then
  some (n4,())
 else none
def Wh.Cf (xs:(fk.D)):Option (((Bool))×(Unit)):=
 let lg:=xs
 let r_1:=zog Dc lg
 let r_2:=zog zT lg.1
 let nG:=bif r_1.1 then(↑(List.length (lg.2.1.2.2.1)):Int)==r_2.1 else false
 bif jZ [!r_1.1 || isSm (zT lg.1),isSm (Dc lg)] then
  some (nG,())
 else none
def Wh.Ck (xs:(b9.D)):Option (((Bool))×(Unit)):=
 let bt:=xs
 let r_1:=zog cr (bt.1,0,3)
 let r_2:=zog cr (bt.2.1,0,99999)
 let k8:=zog cr (bt.2.2.1,0,4)
 let qj:=zog cr (bt.2.2.2.2.1,0,99999)
 let n4:=bif bif bif !r_1.1 then true else !r_2.1 then true else !k8.1 then true else !qj.1
 bif jZ [(!!bif bif !r_1.1 then true else !r_2.1 then true else !k8.1) || isSm (cr (bt.2.2.2.2.1,0,99999)),(!!bif !r_1.1 then true else !r_2.1) || isSm (cr (bt.2.2.1,0,4)),!!!r_1.1 || isSm (cr (bt.2.1,0,99999)),isSm (cr (bt.1,0,3))] then
  bif n4 then
   some (false,())
  else
   let Aa:=bt.2.2.2.2.1==0
   let GY:=zog Gf bt
   let JJ:=zog Dc ((bt.2.2.2.2.2).1)
   let iL:=bif bif Aa then !GY.1 else false then true else bif decide (bt.2.2.2.2.1>0) then !JJ.1 else false
   bif jZ [!(decide (bt.2.2.2.2.1>0) && !bif Aa then !GY.1 else false) || isSm (Dc ((bt.2.2.2.2.2).1)),!Aa || isSm (Gf bt)] then
    bif iL then
     some (false,())
    else
     bif(bt.2.2.1==0) then
      let jg:Bool:=(bt.2.2.2).1 == []
      some (bif jg then Aa else false,())
     else
      let ew:=bt.2.1==0
      let IJ:=zog Ci ((bt.2.2.2).1)
      let eK:=bif ew then true else !IJ.1
      bif jZ [!!ew || isSm (Ci ((bt.2.2.2).1))] then
       bif eK then
        some (false,())
       else
        bif(bt.2.2.1==2) then
         let wv:=decide (bt.2.2.2.2.1>0)
         let nI:=zog Cf ((bt.2.2.2.2.2).1)
         let AB:=bif wv then !nI.1 else false
         bif jZ [!wv || isSm (Cf ((bt.2.2.2.2.2).1))] then
          some (AB,())
         else none
        else
         bif(bt.2.2.1==3) then
          let zW:=decide (bt.2.2.2.2.1>0)
          let Pk:=zog Cf ((bt.2.2.2.2.2).1)
          let IX:=bif zW then Pk.1 else false
          bif jZ [!zW || isSm (Cf ((bt.2.2.2.2.2).1))] then
           some (IX,())
          else none
         else
          let Le:=zog Cf ((bt.2.2.2.2.2).1)
          let vc:=bif Aa then true else !Le.1
          bif jZ [!!Aa || isSm (Cf ((bt.2.2.2.2.2).1))] then
           some (vc,())
          else none
      else none
   else none
 else none
abbrev Wh.TK:Type:=((Int)×(Unit))×((bV.D))
abbrev Wh.agA:Type:=((((Bool))×(Unit))⊕((Unit)×(Unit)))
def Wh.EK (x:TK):Option (TK⊕agA):=
 let Ey:=x.1.1
 let F4:=x.2
 let Cr:Int:=(↑(List.length (F4.2.2.1)):Int)
 bif decide (Ey<Cr) then
  let Bf:=List.getD (F4.2.2.1) (Int.toNat Ey) (0,[],false,())
  let r_62:=zog cr (Bf.1,0,3)
  let v_63:=bif decide ((↑(List.length Bf.2.1):Int)>160) then true else bif Bf.1 != 9 then !r_62.1 else false
  bif jZ [!(Bf.1 != 9 && !decide ((↑(List.length Bf.2.1):Int)>160)) || isSm (cr (Bf.1,0,3)),!(Bf.1 != 9 && !decide ((↑(List.length Bf.2.1):Int)>160)) || decide (0≤Ey),!(Bf.1 != 9 && !decide ((↑(List.length Bf.2.1):Int)>160)) || decide (Ey<Cr),!!decide ((↑(List.length Bf.2.1):Int)>160) || decide (0≤Ey),!!decide ((↑(List.length Bf.2.1):Int)>160) || decide (Ey<Cr),decide (0≤Ey),decide (Ey<Cr)] then
   bif v_63 then
    some (.inr (.inl (false,())))
   else
    some (.inl (((IntKind.wrap .i64 (Ey+1)),()),F4))
  else none
 else
  some (.inr (.inr ((),())))
def Wh.ZU:(((Bool))×(Unit))⊕((Unit)×(Unit)):=.inl default
abbrev Wh.TJ:Type:=((Int)×(Unit))×((bV.D))
abbrev Wh.agz:Type:=((((Bool))×(Unit))⊕(((Unit))×((bV.D))))
def Wh.EJ (x:TJ):Option (TJ⊕agz):=
 let A5:=x.1.1
 let AF:=x.2
 let AB:Int:=(↑(List.length AF.2.1):Int)
 bif decide (A5<AB) then
  let zW:=List.getD AF.2.1 (Int.toNat A5) (0,0,0,[],0,((0,0,[],[],()),(0,0,[],()),()),())
  let Dr:=zog Ck zW
  let pz:=bif bif !Dr.1 then true else zW.1 != A5 then true else decide (zW.2.2.2.2.1>(↑(List.length ((AF.2.2.2).1)):Int))
  bif jZ [(!!bif !(zog Ck zW).1 then true else zW.1 != A5) || decide (0≤A5),(!!bif !(zog Ck zW).1 then true else zW.1 != A5) || decide (A5<AB),!!!(zog Ck zW).1 || decide (0≤A5),!!!(zog Ck zW).1 || decide (A5<AB),isSm (Ck zW),decide (0≤A5),decide (A5<AB)] then
   bif pz then
    some (.inr (.inl (false,())))
   else
    some (.inl (((IntKind.wrap .i64 (A5+1)),()),AF))
  else none
 else
  some (.inr (.inr ((),AF)))
def Wh.ZT:(((Bool))×(Unit))⊕(((Unit))×((bV.D))):=.inl default
def Wh.Gd (xs:(bV.D)):Option (((Bool))×(Unit)):=
 let w_0:=xs
 let r_1:=zog q80 w_0.1
 let wo:=zog q83 w_0
 let ic:=bif bif bif !r_1.1 then true else(↑(List.length w_0.2.1):Int) != 4 then true else decide ((↑(List.length (w_0.2.2.1)):Int)>60) then true else !wo.1
 bif jZ [(!!bif bif !r_1.1 then true else(↑(List.length w_0.2.1):Int) != 4 then true else decide ((↑(List.length (w_0.2.2.1)):Int)>60)) || isSm (q83 w_0),isSm (q80 w_0.1)] then
  bif ic then
   some (false,())
  else
   let x_38:TJ:=((0,()),w_0)
   bif pY EJ x_38 then
    sumC (oa EJ ZT x_38) (fun y_39=>
     let Dw:=y_39.1
     some (Dw,())) (fun z_40=>
     let Jw:=z_40.2
     let x_65:TK:=((0,()),Jw)
     bif pY EK x_65 then
      sumC (oa EK ZU x_65) (fun y_66=>
       let Ly:=y_66.1
       some (Ly,())) (fun _=>
       some (true,()))
     else none)
   else none
 else none
def Wh.q45 (xs:(Int)):Option (((List UInt8))×(Unit)):=
 let wh:=xs
 let v_1:=List.getD [[(105:UInt8),(100:UInt8),(108:UInt8),(101:UInt8)],[(97:UInt8),(115:UInt8),(107:UInt8),(115:UInt8)],[(103:UInt8),(101:UInt8),(116:UInt8),(115:UInt8)],[(102:UInt8),(117:UInt8),(108:UInt8),(108:UInt8)],[(108:UInt8),(111:UInt8),(115:UInt8),(116:UInt8)]] (Int.toNat wh) []
 bif jZ [decide (0≤wh),decide (wh<(↑(5:Nat):Int))] then
  some (v_1,())
 else none
abbrev Wh.Uw:Type:=((Int)×(Unit)×(Int))×((b7.D))
abbrev Wh.ahg:Type:=((((List UInt8)×(Bool))×(Unit))⊕((Unit)×(Unit)))
def Wh.Gz (x:Uw):Option (Uw⊕ahg):=
 let w7:=x.1.1
 let at_14:=x.1.2.2
 let tc:=x.2
 let fN:Int:=(↑(List.length (tc.2.2.1)):Int)
 bif decide (w7<fN) then
  let ew:=List.getD (tc.2.2.1) (Int.toNat w7) ([],[],())
  let wv:=bif(↑(List.length ew.1):Int)==1 then List.getD ew.1 (Int.toNat 0) 0==at_14 else false
  bif jZ [!(↑(List.length ew.1):Int)==1 || decide ((0:Int)≤0),!(↑(List.length ew.1):Int)==1 || decide (0<(↑(List.length ew.1):Int)),!(↑(List.length ew.1):Int)==1 || decide (0≤w7),!(↑(List.length ew.1):Int)==1 || decide (w7<fN),decide (0≤w7),decide (w7<fN)] then
   bif wv then
    bif jZ [decide (0≤w7),decide (w7<fN)] then
     some (.inr (.inl ((ew.2.1,true),())))
    else none
   else
    some (.inl (((IntKind.wrap .i64 (w7+1)),(),at_14),tc))
  else none
 else
  some (.inr (.inr ((),())))
def Wh.aay:(((List UInt8)×(Bool))×(Unit))⊕((Unit)×(Unit)):=.inl default
def Wh.E_ (xs:(b7.D)×(Int)):Option (((List UInt8)×(Bool))×(Unit)):=
 let b6:=xs.1
 let As:=xs.2
 let x_24:Uw:=((0,(),As),b6)
 bif pY Gz x_24 then
  sumC (oa Gz aay x_24) (fun PZ=>
   let zW:=PZ.1.1
   let hJ:=PZ.1.2
   some ((zW,hJ),())) (fun _=>
   some (([],false),()))
 else none
abbrev Wh.Vm:Type:=((Int)×(Unit))×((b7.D))
abbrev Wh.ah1:Type:=((((Int))×(Unit)))
def Wh.GV (x:Vm):Option (Vm⊕ah1):=
 let n_6:=x.1.1
 let ls_7:=x.2
 bz E_ (ls_7,n_6) fun qj=>
  bif(!qj.1.2) then
   some (.inr (n_6,()))
  else
   some (.inl (((IntKind.wrap .i64 (n_6+1)),()),ls_7))
def Wh.abi:(((Int))×(Unit)):=default
def Wh.q86 (xs:(b7.D)):Option (((Int))×(Unit)):=
 let b6:=xs
 let x_11:Vm:=((0,()),b6)
 bif pY GV x_11 then
  let y_12:=oa GV abi x_11
  let Ac:=y_12.1
  some (Ac,())
 else none
abbrev Wh.T_:Type:=((Int)×(List UInt8)×(Unit))×((fk.D))
abbrev Wh.agW:Type:=((((Unit)×(List UInt8))×((fk.D))))
def Wh.Ie (x:T_):Option (T_⊕agW):=
 let rm:=x.1.1
 let Tn:=x.1.2.1
 let BL:=x.2
 bz q86 BL.2.1 fun Ay=>
  bif decide (rm<Ay.1) then
   bz E_ (BL.2.1,rm) fun JJ=>
    let iL:List UInt8:=Tn++JJ.1.1
    bif jZ [decide (List.length Tn+List.length JJ.1.1≤eD)] then
     some (.inl (((IntKind.wrap .i64 (rm+1)),iL,()),BL))
    else none
  else
   some (.inr (((),Tn),BL))
def Wh.aag:(((Unit)×(List UInt8))×((fk.D))):=default
def Wh.EX (xs:(fk.D)):Option (((List UInt8))×(Unit)):=
 let lg:=xs
 let x_17:T_:=((0,[],()),lg)
 bif pY Ie x_17 then
  let CX:=oa Ie aag x_17
  let O6:=CX.1.2
  let zN:=CX.2
  bif decide ((↑(List.length O6):Int)>zN.1.1) then
   let wv:List UInt8:=List.take (Int.toNat (zN.1.1-0)) (List.drop (Int.toNat 0) O6)
   bif jZ [true,decide (0≤zN.1.1),decide (zN.1.1≤(↑(List.length O6):Int))] then
    some (wv,())
   else none
  else
   some (O6,())
 else none
abbrev Wh.Pg:Type:=((Int)×(List UInt8)×(Unit))×((bV.D))
abbrev Wh.ahp:Type:=((((Unit)×(List UInt8))×((bV.D))))
def Wh.Dk (x:Pg):Option (Pg⊕ahp):=
 let FX:=x.1.1
 let To:=x.1.2.1
 let KV:=x.2
 let IW:Int:=(↑(List.length KV.2.1):Int)
 bif decide (FX<IW) then
  let Av:=List.getD KV.2.1 (Int.toNat FX) (0,0,0,[],0,((0,0,[],[],()),(0,0,[],()),()),())
  bif jZ [decide (0≤FX),decide (FX<IW)] then
   let JP:List UInt8:=To ++ [(99:UInt8),(108:UInt8),(105:UInt8),(101:UInt8),(110:UInt8),(116:UInt8),(32:UInt8)]
   let JH:=zog gb FX
   let Pj:=zog q45 (Av.2.2.1)
   let r_129:=zog gb Av.2.1
   let O4:List UInt8:=JP++JH.1 ++ [(32:UInt8)]++Pj.1 ++ [(44:UInt8),(32:UInt8),(116:UInt8),(114:UInt8),(121:UInt8),(32:UInt8)]++r_129.1
   bif jZ [decide (List.length (JP++JH.1 ++ [(32:UInt8)]++Pj.1 ++ [(44:UInt8),(32:UInt8),(116:UInt8),(114:UInt8),(121:UInt8),(32:UInt8)])+List.length r_129.1≤eD),isSm (gb Av.2.1),decide (List.length (JP++JH.1 ++ [(32:UInt8)]++Pj.1)+(6:Nat)≤eD),decide (List.length (JP++JH.1 ++ [(32:UInt8)])+List.length Pj.1≤eD),isSm (q45 (Av.2.2.1)),decide (List.length (JP++JH.1)+(1:Nat)≤eD),decide (List.length JP+List.length JH.1≤eD),isSm (gb FX),decide (List.length To+(7:Nat)≤eD)] then
    bif decide (Av.2.2.2.2.1>0) then
     let Ek:List UInt8:=O4 ++ [(44:UInt8),(32:UInt8)]
     let JI:=zog gb (Av.2.2.2.2.1)
     let Lc:=zog EX ((Av.2.2.2.2.2).1)
     let r_146:=zog gb ((Av.2.2.2.2.2).1.1.1)
     let VA:=zog gb (↑(List.length Lc.1):Int)
     let ZE:List UInt8:=Ek++(Av.2.2.2).1 ++ [(32:UInt8),(101:UInt8),(100:UInt8),(105:UInt8),(116:UInt8),(105:UInt8),(111:UInt8),(110:UInt8),(32:UInt8)]++JI.1 ++ [(44:UInt8),(32:UInt8),(107:UInt8),(110:UInt8),(111:UInt8),(119:UInt8),(115:UInt8),(32:UInt8)]++VA.1 ++ [(32:UInt8),(111:UInt8),(102:UInt8),(32:UInt8)]++r_146.1
     bif jZ [decide (List.length (Ek++(Av.2.2.2).1 ++ [(32:UInt8),(101:UInt8),(100:UInt8),(105:UInt8),(116:UInt8),(105:UInt8),(111:UInt8),(110:UInt8),(32:UInt8)]++JI.1 ++ [(44:UInt8),(32:UInt8),(107:UInt8),(110:UInt8),(111:UInt8),(119:UInt8),(115:UInt8),(32:UInt8)]++(zog gb (↑(List.length Lc.1):Int)).1 ++ [(32:UInt8),(111:UInt8),(102:UInt8),(32:UInt8)])+List.length r_146.1≤eD),isSm (gb ((Av.2.2.2.2.2).1.1.1)),decide (List.length (Ek++(Av.2.2.2).1 ++ [(32:UInt8),(101:UInt8),(100:UInt8),(105:UInt8),(116:UInt8),(105:UInt8),(111:UInt8),(110:UInt8),(32:UInt8)]++JI.1 ++ [(44:UInt8),(32:UInt8),(107:UInt8),(110:UInt8),(111:UInt8),(119:UInt8),(115:UInt8),(32:UInt8)]++(zog gb (↑(List.length Lc.1):Int)).1)+(4:Nat)≤eD),decide (List.length (Ek++(Av.2.2.2).1 ++ [(32:UInt8),(101:UInt8),(100:UInt8),(105:UInt8),(116:UInt8),(105:UInt8),(111:UInt8),(110:UInt8),(32:UInt8)]++JI.1 ++ [(44:UInt8),(32:UInt8),(107:UInt8),(110:UInt8),(111:UInt8),(119:UInt8),(115:UInt8),(32:UInt8)])+List.length ((zog gb (↑(List.length Lc.1):Int)).1)≤eD),isSm (gb (↑(List.length Lc.1):Int)),isSm (EX ((Av.2.2.2.2.2).1)),decide (List.length (Ek++(Av.2.2.2).1 ++ [(32:UInt8),(101:UInt8),(100:UInt8),(105:UInt8),(116:UInt8),(105:UInt8),(111:UInt8),(110:UInt8),(32:UInt8)]++JI.1)+(8:Nat)≤eD),decide (List.length (Ek++(Av.2.2.2).1 ++ [(32:UInt8),(101:UInt8),(100:UInt8),(105:UInt8),(116:UInt8),(105:UInt8),(111:UInt8),(110:UInt8),(32:UInt8)])+List.length JI.1≤eD),isSm (gb (Av.2.2.2.2.1)),decide (List.length (Ek++(Av.2.2.2).1)+(9:Nat)≤eD),decide (List.length Ek+List.length ((Av.2.2.2).1)≤eD),decide (List.length O4+(2:Nat)≤eD)] then
      let PJ:List UInt8:=ZE ++ [(10:UInt8)]
      bif jZ [decide (List.length ZE+(1:Nat)≤eD)] then
       some (.inl (((IntKind.wrap .i64 (FX+1)),PJ,()),KV))
      else none
     else none
    else
     let v_153:List UInt8:=O4 ++ [(10:UInt8)]
     bif jZ [decide (List.length O4+(1:Nat)≤eD)] then
      some (.inl (((IntKind.wrap .i64 (FX+1)),v_153,()),KV))
     else none
   else none
  else none
 else
  some (.inr (((),To),KV))
def Wh.UH:(((Unit)×(List UInt8))×((bV.D))):=default
abbrev Wh.Pf:Type:=((Int)×(List UInt8)×(Unit))×((bV.D))
abbrev Wh.aho:Type:=((((List UInt8)×(Unit))×((bV.D))))
def Wh.Dj (x:Pf):Option (Pf⊕aho):=
 let Ai:=x.1.1
 let HP:=x.1.2.1
 let HL:=x.2
 let FM:Int:=(↑(List.length ((HL.1.2.2.2.1).2.1)):Int)
 bif decide (Ai<FM) then
  let CI:bn.D:=List.getD ((HL.1.2.2.2.1).2.1) (Int.toNat Ai) (0,[],0,[],())
  bif jZ [decide (0≤Ai),decide (Ai<FM)] then
   let Dy:List UInt8:=HP ++ [(32:UInt8),(32:UInt8),(104:UInt8),(111:UInt8),(117:UInt8),(115:UInt8),(101:UInt8),(32:UInt8)]
   let z7:=zog gb CI.1
   let CS:=zog gb (CI.2.2.1)
   let CV:Int:=(↑(List.length ((CI.2.2.2).1)):Int)
   let r_70:=zog gb CV
   let out_71:List UInt8:=Dy++z7.1 ++ [(32:UInt8)]++CI.2.1 ++ [(32:UInt8),(101:UInt8),(100:UInt8),(105:UInt8),(116:UInt8),(105:UInt8),(111:UInt8),(110:UInt8),(32:UInt8)]++CS.1 ++ [(44:UInt8),(32:UInt8)]++r_70.1 ++ [(32:UInt8),(98:UInt8),(121:UInt8),(116:UInt8),(101:UInt8),(115:UInt8),(10:UInt8)]
   bif jZ [decide (List.length (Dy++z7.1 ++ [(32:UInt8)]++CI.2.1 ++ [(32:UInt8),(101:UInt8),(100:UInt8),(105:UInt8),(116:UInt8),(105:UInt8),(111:UInt8),(110:UInt8),(32:UInt8)]++CS.1 ++ [(44:UInt8),(32:UInt8)]++(zog gb CV).1)+(7:Nat)≤eD),decide (List.length (Dy++z7.1 ++ [(32:UInt8)]++CI.2.1 ++ [(32:UInt8),(101:UInt8),(100:UInt8),(105:UInt8),(116:UInt8),(105:UInt8),(111:UInt8),(110:UInt8),(32:UInt8)]++CS.1 ++ [(44:UInt8),(32:UInt8)])+List.length ((zog gb CV).1)≤eD),isSm (gb CV),decide (List.length (Dy++z7.1 ++ [(32:UInt8)]++CI.2.1 ++ [(32:UInt8),(101:UInt8),(100:UInt8),(105:UInt8),(116:UInt8),(105:UInt8),(111:UInt8),(110:UInt8),(32:UInt8)]++CS.1)+(2:Nat)≤eD),decide (List.length (Dy++z7.1 ++ [(32:UInt8)]++CI.2.1 ++ [(32:UInt8),(101:UInt8),(100:UInt8),(105:UInt8),(116:UInt8),(105:UInt8),(111:UInt8),(110:UInt8),(32:UInt8)])+List.length CS.1≤eD),isSm (gb (CI.2.2.1)),decide (List.length (Dy++z7.1 ++ [(32:UInt8)]++CI.2.1)+(9:Nat)≤eD),decide (List.length (Dy++z7.1 ++ [(32:UInt8)])+List.length CI.2.1≤eD),decide (List.length (Dy++z7.1)+(1:Nat)≤eD),decide (List.length Dy+List.length z7.1≤eD),isSm (gb CI.1),decide (List.length HP+(8:Nat)≤eD)] then
    some (.inl (((IntKind.wrap .i64 (Ai+1)),out_71,()),HL))
   else none
  else none
 else
  some (.inr ((HP,()),HL))
def Wh.UG:(((List UInt8)×(Unit))×((bV.D))):=default
def Wh.Dh (xs:(bV.D)):Option (((List UInt8))×(Unit)):=
 let w_0:=xs
 bz Gd w_0 fun r_1=>
  bif !r_1.1 then
   some ([],())
  else
   bif w_0.1.1 then
    let v_2:Int:=(↑(List.length ((w_0.1.2.2.2.1).2.1)):Int)
    let qj:=zog gb ((w_0.1.2.2.2.1).1)
    let Ac:Int:=(↑(List.length ((w_0.1.2.2.2.2).2.2.1)):Int)
    let AX:=zog gb v_2
    let r_22:=zog gb Ac
    let ZF:List UInt8:=[(115:UInt8),(101:UInt8),(114:UInt8),(118:UInt8),(101:UInt8),(114:UInt8),(32:UInt8),(117:UInt8),(112:UInt8),(44:UInt8),(32:UInt8)]++AX.1 ++ [(32:UInt8),(116:UInt8),(104:UInt8),(105:UInt8),(110:UInt8),(103:UInt8),(115:UInt8),(32:UInt8),(111:UInt8),(102:UInt8),(32:UInt8)]++qj.1 ++ [(44:UInt8),(32:UInt8)]++r_22.1 ++ [(32:UInt8),(116:UInt8),(111:UInt8),(108:UInt8),(100:UInt8)]
    bif jZ [decide (List.length ([(115:UInt8),(101:UInt8),(114:UInt8),(118:UInt8),(101:UInt8),(114:UInt8),(32:UInt8),(117:UInt8),(112:UInt8),(44:UInt8),(32:UInt8)]++(zog gb v_2).1 ++ [(32:UInt8),(116:UInt8),(104:UInt8),(105:UInt8),(110:UInt8),(103:UInt8),(115:UInt8),(32:UInt8),(111:UInt8),(102:UInt8),(32:UInt8)]++qj.1 ++ [(44:UInt8),(32:UInt8)]++(zog gb Ac).1)+(5:Nat)≤eD),decide (List.length ([(115:UInt8),(101:UInt8),(114:UInt8),(118:UInt8),(101:UInt8),(114:UInt8),(32:UInt8),(117:UInt8),(112:UInt8),(44:UInt8),(32:UInt8)]++(zog gb v_2).1 ++ [(32:UInt8),(116:UInt8),(104:UInt8),(105:UInt8),(110:UInt8),(103:UInt8),(115:UInt8),(32:UInt8),(111:UInt8),(102:UInt8),(32:UInt8)]++qj.1 ++ [(44:UInt8),(32:UInt8)])+List.length ((zog gb Ac).1)≤eD),isSm (gb Ac),decide (List.length ([(115:UInt8),(101:UInt8),(114:UInt8),(118:UInt8),(101:UInt8),(114:UInt8),(32:UInt8),(117:UInt8),(112:UInt8),(44:UInt8),(32:UInt8)]++(zog gb v_2).1 ++ [(32:UInt8),(116:UInt8),(104:UInt8),(105:UInt8),(110:UInt8),(103:UInt8),(115:UInt8),(32:UInt8),(111:UInt8),(102:UInt8),(32:UInt8)]++qj.1)+(2:Nat)≤eD),decide (List.length ([(115:UInt8),(101:UInt8),(114:UInt8),(118:UInt8),(101:UInt8),(114:UInt8),(32:UInt8),(117:UInt8),(112:UInt8),(44:UInt8),(32:UInt8)]++(zog gb v_2).1 ++ [(32:UInt8),(116:UInt8),(104:UInt8),(105:UInt8),(110:UInt8),(103:UInt8),(115:UInt8),(32:UInt8),(111:UInt8),(102:UInt8),(32:UInt8)])+List.length qj.1≤eD),isSm (gb ((w_0.1.2.2.2.1).1)),decide (List.length ([(115:UInt8),(101:UInt8),(114:UInt8),(118:UInt8),(101:UInt8),(114:UInt8),(32:UInt8),(117:UInt8),(112:UInt8),(44:UInt8),(32:UInt8)]++(zog gb v_2).1)+(11:Nat)≤eD),decide ((11:Nat)+List.length ((zog gb v_2).1)≤eD),isSm (gb v_2)] then
     let s_:List UInt8:=ZF ++ [(10:UInt8)]
     bif jZ [decide (List.length ZF+(1:Nat)≤eD)] then
      let Hg:Pf:=((0,s_,()),w_0)
      bif pY Dj Hg then
       let JT:=oa Dj UG Hg
       let out_75:=JT.1.1
       let ls_76:=JT.2
       let x_155:Pg:=((0,out_75,()),ls_76)
       bif pY Dk x_155 then
        let y_156:=oa Dk UH x_155
        let JB:=y_156.1.2
        let ls_158:=y_156.2
        let PL:Int:=(↑(List.length (ls_158.2.2.1)):Int)
        let r_165:=zog gb PL
        let JR:List UInt8:=JB++r_165.1 ++ [(32:UInt8),(117:UInt8),(110:UInt8),(100:UInt8),(101:UInt8),(114:UInt8),(32:UInt8),(119:UInt8),(97:UInt8),(121:UInt8),(10:UInt8)]
        bif jZ [decide (List.length (JB++(zog gb PL).1)+(11:Nat)≤eD),decide (List.length JB+List.length ((zog gb PL).1)≤eD),isSm (gb PL)] then
         some (JR,())
        else none
       else none
      else none
     else none
    else none
   else
    let x_167:Pf:=((0,[(115:UInt8),(101:UInt8),(114:UInt8),(118:UInt8),(101:UInt8),(114:UInt8),(32:UInt8),(100:UInt8),(111:UInt8),(119:UInt8),(110:UInt8)] ++ [(10:UInt8)],()),w_0)
    bif pY Dj x_167 then
     let y_168:=oa Dj UG x_167
     let agn:=y_168.1.1
     let ls_170:=y_168.2
     let x_171:Pg:=((0,agn,()),ls_170)
     bif pY Dk x_171 then
      let y_172:=oa Dk UH x_171
      let Ts:=y_172.1.2
      let ls_174:=y_172.2
      let PM:Int:=(↑(List.length (ls_174.2.2.1)):Int)
      let r_181:=zog gb PM
      let v_182:List UInt8:=Ts++r_181.1 ++ [(32:UInt8),(117:UInt8),(110:UInt8),(100:UInt8),(101:UInt8),(114:UInt8),(32:UInt8),(119:UInt8),(97:UInt8),(121:UInt8),(10:UInt8)]
      bif jZ [decide (List.length (Ts++(zog gb PM).1)+(11:Nat)≤eD),decide (List.length Ts+List.length ((zog gb PM).1)≤eD),isSm (gb PM)] then
       some (v_182,())
      else none
     else none
    else none
def Wh.eo (xs:(Int)×(Int)×(Int)):Option (((Bool))×(Unit)):=
 let wh:=xs.1
 let SM:=xs.2.1
 let SC:=xs.2.2
 let sn:=bif decide (wh≥SM) then decide (wh≤SC) else false
 some (sn,())
def Wh.y2 (xs:(Int)×(Int)):Option (((Int))×(Unit)):=
 let zH:=xs.1
 let by_1:=xs.2
 let v_2:Int:=Int.fdiv zH (2 ^ Min.min (Int.toNat by_1) (Go.IntKind.bits Go.IntKind.u32))
 let ia:=IntKind.wrap .i64 (32-by_1)
 let AD:Int:=pS Go.BinOp.or Go.IntKind.u32 v_2 (IntKind.wrap .u32 (zH*2 ^ Min.min (Int.toNat ia) (Go.IntKind.bits Go.IntKind.u32)))
 bif jZ [decide (0≤ia),decide (0≤by_1)] then
  some (AD,())
 else none
abbrev Wh.U9:Type:=((Int)×(Unit)×(List (Int)))×((List (Int)))
abbrev Wh.ahN:Type:=((((Unit))×((List (Int)))))
def Wh.K_ (x:U9):Option (U9⊕ahN):=
 let Lv:=x.1.1
 let v_572:=x.1.2.2
 let S2:=x.2
 bif decide (Lv<8) then
  let PU:=List.getD v_572 (Int.toNat Lv) 0
  bif jZ [decide (0≤Lv),decide (Lv<(↑(nat_lit 8):Int))] then
   let pb_576:List Int:=[IntKind.wrap .u8 (Int.fdiv PU (2 ^ Min.min (Int.toNat 24) (Go.IntKind.bits Go.IntKind.u32))),IntKind.wrap .u8 (Int.fdiv PU (2 ^ Min.min (Int.toNat 16) (Go.IntKind.bits Go.IntKind.u32))),IntKind.wrap .u8 (Int.fdiv PU (2 ^ Min.min (Int.toNat 8) (Go.IntKind.bits Go.IntKind.u32))),IntKind.wrap .u8 PU]
   let ls_577:=S2++pb_576
   bif jZ [decide (List.length S2+(4:Nat)≤eD),true,true,true] then
    some (.inl (((IntKind.wrap .i64 (Lv+1)),(),v_572),ls_577))
   else none
  else none
 else
  some (.inr ((),S2))
def Wh.aa5:(((Unit))×((List (Int)))):=default
abbrev Wh.U8:Type:=((Int)×(Unit)×(Unit)×(Nat×Nat))×((List (Int))×(List (Int))×(List (Int)))
abbrev Wh.ahM:Type:=((((Unit)×(Nat×Nat))×((List (Int))×(List (Int)))))
def Wh.K9 (x:U8):Option (U8⊕ahM):=
 let Dx:=x.1.1
 let b_510:=x.1.2.2.2.1
 let b_511:=x.1.2.2.2.2
 let S0:=x.2.1
 let Yt:=x.2.2.1
 let Yu:=x.2.2.2
 bif decide (Dx<8) then
  let ls_516:=List.set S0 (Int.toNat Dx) (IntKind.wrap .u32 (List.getD S0 (Int.toNat Dx) 0+List.getD Yt (Int.toNat Dx) 0))
  bif jZ [decide (0≤Dx),decide (Dx<(↑(8:Nat):Int)),decide (0≤Dx),decide (Dx<(↑(8:Nat):Int)),decide (0≤Dx),decide (Dx<(↑(8:Nat):Int))] then
   some (.inl (((IntKind.wrap .i64 (Dx+1)),(),(),b_510,b_511),ls_516,Yt,Yu))
  else none
 else
  some (.inr (((),b_510,b_511),S0,Yu))
def Wh.aa4:(((Unit)×(Nat×Nat))×((List (Int))×(List (Int)))):=default
abbrev Wh.U7:Type:=((Int)×(Unit)×(Unit)×(Unit)×(Nat×Nat))×((List (Int))×(List (Int))×(List (Int))×(List (Int)))
abbrev Wh.ahL:Type:=((((Unit)×(Unit)×(Nat×Nat))×((List (Int))×(List (Int))×(List (Int)))))
def Wh.Iz (x:U7):Option (U7⊕ahL):=
 let G8:=x.1.1
 let b_447:=(x.1.2.2.2.2).1
 let b_448:=(x.1.2.2.2.2).2
 let Ez:=x.2.1
 let Yp:=x.2.2.1
 let Yq:=(x.2.2.2).1
 let Yr:=x.2.2.2.2
 bif decide (G8<64) then
  let FI:=List.getD Ez (Int.toNat 4) 0
  let FJ:=List.getD Ez (Int.toNat 0) 0
  let v_456:=List.getD Ez (Int.toNat 7) 0
  let r_457:=zog y2 (FI,6)
  let r_458:=zog y2 (FI,11)
  let r_460:=zog y2 (FI,25)
  let v_463:=List.getD Ez (Int.toNat 5) 0
  let v_464:=List.getD Ez (Int.toNat 6) 0
  let v_468:=List.getD C4 (Int.toNat G8) 0
  let v_470:=List.getD Yp (Int.toNat G8) 0
  let ZD:=IntKind.wrap .u32 (IntKind.wrap .u32 (IntKind.wrap .u32 (IntKind.wrap .u32 (v_456+pS Go.BinOp.xor Go.IntKind.u32 (pS Go.BinOp.xor Go.IntKind.u32 r_457.1 r_458.1) r_460.1)+pS Go.BinOp.xor Go.IntKind.u32 (pS Go.BinOp.and Go.IntKind.u32 FI v_463) (pS Go.BinOp.and Go.IntKind.u32 (pS Go.BinOp.xor Go.IntKind.u32 (Go.IntKind.max Go.IntKind.u32) FI) v_464))+v_468)+v_470)
  bif jZ [decide (0≤G8),decide (G8<(↑(64:Nat):Int)),decide (0≤G8),decide (G8<(↑(64:Nat):Int)),true,true,true,true,isSm (y2 (FI,25)),isSm (y2 (FI,11)),isSm (y2 (FI,6)),true,true] then
   let r_473:=zog y2 (FJ,2)
   let r_474:=zog y2 (FJ,13)
   let r_476:=zog y2 (FJ,22)
   let VS:=List.getD Ez (Int.toNat 1) 0
   let VT:=List.getD Ez (Int.toNat 2) 0
   bif jZ [true,true,true,true,true,true,true,true,isSm (y2 (FJ,22)),isSm (y2 (FJ,13)),isSm (y2 (FJ,2))] then
    let ls_484:List Int:=[IntKind.wrap .u32 (ZD+(IntKind.wrap .u32 (pS Go.BinOp.xor Go.IntKind.u32 (pS Go.BinOp.xor Go.IntKind.u32 r_473.1 r_474.1) r_476.1+pS Go.BinOp.xor Go.IntKind.u32 (pS Go.BinOp.xor Go.IntKind.u32 (pS Go.BinOp.and Go.IntKind.u32 FJ VS) (pS Go.BinOp.and Go.IntKind.u32 FJ VT)) (pS Go.BinOp.and Go.IntKind.u32 VS VT)))),FJ,VS,VT,IntKind.wrap .u32 (List.getD Ez (Int.toNat 3) 0+ZD),FI,v_463,v_464]
    some (.inl (((IntKind.wrap .i64 (G8+1)),(),(),(),b_447,b_448),ls_484,Yp,Yq,Yr))
   else none
  else none
 else
  some (.inr (((),(),b_447,b_448),Yq,Ez,Yr))
def Wh.aa3:(((Unit)×(Unit)×(Nat×Nat))×((List (Int))×(List (Int))×(List (Int)))):=default
abbrev Wh.U6:Type:=((Int)×(Unit)×(Nat×Nat)×(Unit))×((List (Int))×(List (Int))×(List (Int)))
abbrev Wh.ahK:Type:=((((Unit)×(Unit)×(Nat×Nat))×((List (Int))×(List (Int))×(List (Int)))))
def Wh.GO (x:U6):Option (U6⊕ahK):=
 let Ag:=x.1.1
 let Hu:=(x.1.2.2).1.1
 let Hv:=(x.1.2.2).1.2
 let HI:=x.2.1
 let HJ:=x.2.2.1
 let SW:=x.2.2.2
 bif decide (Ag<64) then
  bif decide (Ag<16) then
   let ls_346:=List.set HI (Int.toNat Ag) (pS Go.BinOp.or Go.IntKind.u32 (pS Go.BinOp.or Go.IntKind.u32 (pS Go.BinOp.or Go.IntKind.u32 (IntKind.wrap .u32 (IntKind.wrap .u32 (List.getD HJ (Hu+Int.toNat (IntKind.wrap .i64 (4*Ag))) 0)*2 ^ Min.min (Int.toNat 24) (Go.IntKind.bits Go.IntKind.u32))) (IntKind.wrap .u32 (IntKind.wrap .u32 (List.getD HJ (Hu+Int.toNat (IntKind.wrap .i64 (IntKind.wrap .i64 (4*Ag)+1))) 0)*2 ^ Min.min (Int.toNat 16) (Go.IntKind.bits Go.IntKind.u32)))) (IntKind.wrap .u32 (IntKind.wrap .u32 (List.getD HJ (Hu+Int.toNat (IntKind.wrap .i64 (IntKind.wrap .i64 (4*Ag)+2))) 0)*2 ^ Min.min (Int.toNat 8) (Go.IntKind.bits Go.IntKind.u32)))) (IntKind.wrap .u32 (List.getD HJ (Hu+Int.toNat (IntKind.wrap .i64 (IntKind.wrap .i64 (4*Ag)+3))) 0)))
   let G6:=IntKind.wrap .i64 (4*Ag)
   bif jZ [decide (0≤Ag),decide (Ag<(↑(64:Nat):Int)),decide (0≤IntKind.wrap .i64 (G6+3)),decide (IntKind.wrap .i64 (G6+3)<(↑Hv:Int)),true,decide (0≤IntKind.wrap .i64 (G6+2)),decide (IntKind.wrap .i64 (G6+2)<(↑Hv:Int)),true,decide (0≤IntKind.wrap .i64 (G6+1)),decide (IntKind.wrap .i64 (G6+1)<(↑Hv:Int)),true,decide (0≤G6),decide (G6<(↑Hv:Int))] then
    some (.inl (((IntKind.wrap .i64 (Ag+1)),(),(Hu,Hv),()),ls_346,HJ,SW))
   else none
  else
   let VQ:=IntKind.wrap .i64 (Ag-15)
   let VR:=IntKind.wrap .i64 (Ag-2)
   let LF:=List.getD HI (Int.toNat VQ) 0
   let LM:=List.getD HI (Int.toNat VR) 0
   bif jZ [decide (0≤VR),decide (VR<(↑(64:Nat):Int)),decide (0≤VQ),decide (VQ<(↑(64:Nat):Int))] then
    let r_376:=zog y2 (LF,7)
    let r_377:=zog y2 (LF,18)
    let r_378:=zog y2 (LM,17)
    let r_379:=zog y2 (LM,19)
    let ls_380:=List.set HI (Int.toNat Ag) (IntKind.wrap .u32 (IntKind.wrap .u32 (IntKind.wrap .u32 (List.getD HI (Int.toNat (IntKind.wrap .i64 (Ag-16))) 0+List.getD HI (Int.toNat (IntKind.wrap .i64 (Ag-7))) 0)+pS Go.BinOp.xor Go.IntKind.u32 (pS Go.BinOp.xor Go.IntKind.u32 r_376.1 r_377.1) (Int.fdiv LF (2 ^ Min.min (Int.toNat 3) (Go.IntKind.bits Go.IntKind.u32))))+pS Go.BinOp.xor Go.IntKind.u32 (pS Go.BinOp.xor Go.IntKind.u32 r_378.1 r_379.1) (Int.fdiv LM (2 ^ Min.min (Int.toNat 10) (Go.IntKind.bits Go.IntKind.u32)))))
    let v_381:=IntKind.wrap .i64 (Ag-16)
    let v_383:=IntKind.wrap .i64 (Ag-7)
    bif jZ [decide (0≤Ag),decide (Ag<(↑(64:Nat):Int)),true,isSm (y2 (LM,19)),isSm (y2 (LM,17)),true,isSm (y2 (LF,18)),isSm (y2 (LF,7)),decide (0≤v_383),decide (v_383<(↑(64:Nat):Int)),decide (0≤v_381),decide (v_381<(↑(64:Nat):Int))] then
     some (.inl (((IntKind.wrap .i64 (Ag+1)),(),(Hu,Hv),()),ls_380,HJ,SW))
    else none
   else none
 else
  some (.inr (((),(),Hu,Hv),HI,SW,HJ))
def Wh.aa2:(((Unit)×(Unit)×(Nat×Nat))×((List (Int))×(List (Int))×(List (Int)))):=default
abbrev Wh.U5:Type:=((Nat×Nat)×(Unit))×((List (Int))×(List (Int)))
abbrev Wh.ahJ:Type:=((((Unit))×((List (Int)))))
def Wh.GN (x:U5):Option (U5⊕ahJ):=
 let b_529:=x.1.1.1
 let b_530:=x.1.1.2
 let ls_531:=x.2.1
 let Yv:=x.2.2
 bif decide ((↑b_530:Int)>0) then
  let pb_534:List Int:=[(0:Int),0,0,0,0,0,0,0,0,0,0,0,0,0,0,0,0,0,0,0,0,0,0,0,0,0,0,0,0,0,0,0,0,0,0,0,0,0,0,0,0,0,0,0,0,0,0,0,0,0,0,0,0,0,0,0,0,0,0,0,0,0,0,0]
  let x_535:U6:=((0,(),(b_529,b_530),()),pb_534,ls_531,Yv)
  bif pY GO x_535 then
   let LN:=oa GO aa2 x_535
   let b_537:=(LN.1.2.2).1
   let b_538:=LN.1.2.2.2
   let ls_539:=LN.2.1
   let Yw:=LN.2.2.1
   let ls_541:=LN.2.2.2
   let x_542:U7:=((0,(),(),(),b_537,b_538),Yw,ls_539,Yw,ls_541)
   bif pY Iz x_542 then
    let LO:=oa Iz aa3 x_542
    let b_544:=(LO.1.2.2).1
    let b_545:=LO.1.2.2.2
    let ls_546:=LO.2.1
    let ls_547:=LO.2.2.1
    let ls_548:=LO.2.2.2
    let x_549:U8:=((0,(),(),b_544,b_545),ls_546,ls_547,ls_548)
    bif pY K9 x_549 then
     let P0:=oa K9 aa4 x_549
     let b_551:=P0.1.2.1
     let R8:=P0.1.2.2
     let ls_553:=P0.2.1
     let Yx:=P0.2.2
     let v_555:Nat:=Int.toNat ((↑R8:Int)-64)
     let v_556:Nat:=b_551+Int.toNat 64
     bif jZ [true,decide (64≤(↑R8:Int)),decide ((↑b_551:Int)+(↑R8:Int)≤(↑(List.length Yx):Int))] then
      some (.inl (((v_556,v_555),()),Yx,ls_553))
     else none
    else none
   else none
  else none
 else
  some (.inr ((),Yv))
def Wh.aa1:(((Unit))×((List (Int)))):=default
abbrev Wh.U4:Type:=((Int)×(Int)×(Unit)×(Unit))×((List (Int))×(List (Int)))
abbrev Wh.ahI:Type:=((((Unit)×(Unit))×((List (Int))×(List (Int)))))
def Wh.Iy (x:U4):Option (U4⊕ahI):=
 let Oo:=x.1.1
 let Zv:=x.1.2.1
 let Bo:=x.2.1
 let r_:=x.2.2
 bif decide (Oo≥0) then
  let O_:List Int:=[IntKind.wrap .u8 (Int.fdiv Zv (2 ^ Min.min (Int.toNat Oo) (Go.IntKind.bits Go.IntKind.u64)))]
  let SY:=Bo++O_
  bif jZ [decide (List.length Bo+(1:Nat)≤eD),decide (0≤Oo)] then
   some (.inl (((IntKind.wrap .i64 (Oo-8)),Zv,(),()),SY,r_))
  else none
 else
  some (.inr (((),()),Bo,r_))
def Wh.aa0:(((Unit)×(Unit))×((List (Int))×(List (Int)))):=default
abbrev Wh.U3:Type:=((Unit)×(Unit)×(List UInt8))×((List (Int))×(List (Int)))
abbrev Wh.ahH:Type:=((((Unit)×(Unit)×(List UInt8))×((List (Int))×(List (Int)))))
def Wh.GM (x:U3):Option (U3⊕ahH):=
 let FG:=x.1.2.2
 let OU:=x.2.1
 let F2:=x.2.2
 let nS:Bool:=(Int.tmod (↑(List.length OU):Int) 64) != 56
 bif nS then
  let C7:=OU ++ [(0:Int)]
  bif jZ [decide (List.length OU+(1:Nat)≤eD)] then
   some (.inl (((),(),FG),C7,F2))
  else none
 else
  some (.inr (((),(),FG),OU,F2))
def Wh.aaZ:(((Unit)×(Unit)×(List UInt8))×((List (Int))×(List (Int)))):=default
def Wh.q57 (xs:(List UInt8)):Option (((List UInt8))×(Unit)):=
 let z_:=xs
 let zO:List Int:=bytesOf z_ ++ [(128:Int)]
 bif jZ [decide (List.length (bytesOf z_)+(1:Nat)≤eD),decide (List.length z_≤eD)] then
  let x_14:U3:=(((),(),z_),zO,[(1779033703:Int),3144134277,1013904242,2773480762,1359893119,2600822924,528734635,1541459225])
  bif pY GM x_14 then
   let y_15:=oa GM aaZ x_14
   let akT:=y_15.1.2.2
   let jn:=y_15.2.1
   let je:=y_15.2.2
   let x_40:U4:=((56,(IntKind.wrap .u64 ((IntKind.wrap .u64 (↑(List.length akT):Int))*8)),(),()),jn,je)
   bif pY Iy x_40 then
    let y_41:=oa Iy aa0 x_40
    let Jw:=y_41.2.1
    let Jx:=y_41.2.2
    let x_557:U5:=((((0:Nat),List.length Jw),()),Jw,Jx)
    bif pY GN x_557 then
     let y_558:=oa GN aa1 x_557
     let ls_559:=y_558.2
     let x_582:U9:=((0,(),ls_559),[])
     bif pY K_ x_582 then
      let y_583:=oa K_ aa5 x_582
      let ls_584:=y_583.2
      some (sM ls_584,())
     else none
    else none
   else none
  else none
 else none
abbrev Wh.Uf:Type:=((Int)×(List UInt8)×(Unit))×((List (Int)))
abbrev Wh.ag2:Type:=((((Unit))×((List (Int)))))
def Wh.Pb (x:Uf):Option (Uf⊕ag2):=
 let HF:=x.1.1
 let Dt:=x.1.2.1
 let tc:=x.2
 let fN:=decide (HF<(↑(List.length Dt):Int))
 bif fN then
  let JC:List Int:=[(↑(UInt8.toNat (List.getD [(48:UInt8),(49:UInt8),(50:UInt8),(51:UInt8),(52:UInt8),(53:UInt8),(54:UInt8),(55:UInt8),(56:UInt8),(57:UInt8),(97:UInt8),(98:UInt8),(99:UInt8),(100:UInt8),(101:UInt8),(102:UInt8)] (Int.toNat (IntKind.wrap .u8 (Int.tdiv (↑(UInt8.toNat (List.getD Dt (Int.toNat HF) (0:UInt8))):Int) 16))) (0:UInt8))):Int),(↑(UInt8.toNat (List.getD [(48:UInt8),(49:UInt8),(50:UInt8),(51:UInt8),(52:UInt8),(53:UInt8),(54:UInt8),(55:UInt8),(56:UInt8),(57:UInt8),(97:UInt8),(98:UInt8),(99:UInt8),(100:UInt8),(101:UInt8),(102:UInt8)] (Int.toNat (Int.tmod (↑(UInt8.toNat (List.getD Dt (Int.toNat HF) (0:UInt8))):Int) 16)) (0:UInt8))):Int)]
  let je:=tc++JC
  let ec:Int:=(↑(UInt8.toNat (List.getD Dt (Int.toNat HF) (0:UInt8))):Int)
  bif jZ [decide (List.length tc+(2:Nat)≤eD),decide (0≤Int.tmod ec 16),decide (Int.tmod ec 16<(↑(16:Nat):Int)),true,decide (0≤HF),fN,decide (0≤IntKind.wrap .u8 (Int.tdiv ec 16)),decide (IntKind.wrap .u8 (Int.tdiv ec 16)<(↑(16:Nat):Int)),true,decide (0≤HF),fN] then
   some (.inl (((IntKind.wrap .i64 (HF+1)),Dt,()),je))
  else none
 else
  some (.inr ((),tc))
def Wh.aam:(((Unit))×((List (Int)))):=default
def Wh.Ih (xs:(List UInt8)):Option (((List UInt8))×(Unit)):=
 let b6:=xs
 let x_25:Uf:=((0,b6,()),[])
 bif pY Pb x_25 then
  let zI:=oa Pb aam x_25
  let zZ:=zI.2
  some (sM zZ,())
 else none
def Wh.Cm (xs:(List UInt8)):Option (((List UInt8))×(Unit)):=
 let z_:=xs
 let r_1:=zog q57 z_
 let r_3:=zog Ih r_1.1
 bif jZ [isSm (Ih r_1.1),isSm (q57 z_)] then
  some (r_3.1,())
 else none
def Wh.q95 (xs:(Int)×(List UInt8)):Option (((List UInt8))×(Unit)):=
 let wh:=xs.1
 let Az:=xs.2
 let r_2:=zog Wh.strconv_Itoa wh
 let dm:=zog Wh.strconv_Itoa (↑(List.length Az):Int)
 let Bj:=r_2.1 ++ [(32:UInt8)]++dm.1 ++ [(32:UInt8)]
 bif jZ [decide (List.length (r_2.1 ++ [(32:UInt8)]++dm.1)+(1:Nat)≤eD),decide (List.length (r_2.1 ++ [(32:UInt8)])+List.length dm.1≤eD),isSm (Wh.strconv_Itoa (↑(List.length Az):Int)),decide (List.length r_2.1+(1:Nat)≤eD),isSm (Wh.strconv_Itoa wh)] then
  let A1:List UInt8:=Bj++Az
  let y3:=zog Cm A1
  let gh:List UInt8:=Bj++List.take (Int.toNat ((16:Int)-0)) (List.drop (Int.toNat 0) y3.1) ++ [(32:UInt8)]++Az ++ [(10:UInt8)]
  bif jZ [decide (List.length (Bj++List.take (Int.toNat ((16:Int)-0)) (List.drop (Int.toNat 0) ((zog Cm A1).1)) ++ [(32:UInt8)]++Az)+(1:Nat)≤eD),decide (List.length (Bj++List.take (Int.toNat ((16:Int)-0)) (List.drop (Int.toNat 0) ((zog Cm A1).1)) ++ [(32:UInt8)])+List.length Az≤eD),decide (List.length (Bj++List.take (Int.toNat ((16:Int)-0)) (List.drop (Int.toNat 0) ((zog Cm A1).1)))+(1:Nat)≤eD),decide (List.length Bj+List.length (List.take (Int.toNat ((16:Int)-0)) (List.drop (Int.toNat 0) ((zog Cm A1).1)))≤eD),true,true,decide (16≤(↑(List.length ((zog Cm A1).1)):Int)),isSm (Cm A1),decide (List.length Bj+List.length Az≤eD)] then
   some (gh,())
  else none
 else none
def Wh.q6 (xs:(List UInt8)×(List UInt8)):Option (((Bool))×(Unit)):=
 let b6:=xs.1
 let HR:=xs.2
 let v_2:=decide ((↑(List.length b6):Int)≥(↑(List.length HR):Int))
 let nG:=bif v_2 then List.take (Int.toNat ((↑(List.length HR):Int)-0)) (List.drop (Int.toNat 0) b6)==HR else false
 bif jZ [!v_2 || decide ((0:Int)≤0),!v_2 || decide (0≤(↑(List.length HR):Int)),!v_2 || decide ((↑(List.length HR):Int)≤(↑(List.length b6):Int))] then
  some (nG,())
 else none
def Wh.q13 (xs:(List UInt8)×(List UInt8)):Option (((Bool))×(Unit)):=
 let b6:=xs.1
 let HR:=xs.2
 bz Wh.q6 (b6,HR) fun r_2=>
  some (r_2.1,())
abbrev Wh.Vo:Type:=((Int)×(Unit)×(List UInt8))×((List (List UInt8)))
abbrev Wh.ah3:Type:=((((Unit)×(Int))×((List (List UInt8)))))
def Wh.Ef (x:Vo):Option (Vo⊕ah3):=
 let CZ:=x.1.1
 let CH:=x.1.2.2
 let B9:=x.2
 let CU:List UInt8:=List.take (Int.toNat ((↑(List.length CH):Int)-CZ)) (List.drop (Int.toNat CZ) CH)
 let r_64:=zog Wh.strings_Cut (CU,[(32:UInt8)])
 bif jZ [isSm (Wh.strings_Cut (CU,[(32:UInt8)])),decide (0≤CZ),decide (CZ≤(↑(List.length CH):Int)),decide ((↑(List.length CH):Int)≤(↑(List.length CH):Int))] then
  bz Wh.strings_Cut (r_64.1.2.1,[(32:UInt8)]) fun r_66=>
   bz B5 r_66.1.1 fun IM=>
    let Ly:Int:=(↑(List.length B9):Int)
    let v_74:Int:=(↑(List.length r_66.1.1):Int)
    let r_79:=zog Wh.strconv_Itoa Ly
    let XB:=IntKind.wrap .i64 (IntKind.wrap .i64 (IntKind.wrap .i64 ((↑(List.length r_79.1):Int)+1)+v_74)+18)
    bif jZ [isSm (Wh.strconv_Itoa Ly)] then
     let v_81:= !IM.1.2
     let r_82:=zog eo (IM.1.1,1,500)
     let v_85:=bif bif v_81 then true else !r_82.1 then true else decide (IntKind.wrap .i64 ((↑(List.length CH):Int)-CZ)<IntKind.wrap .i64 (IntKind.wrap .i64 (XB+IM.1.1)+1))
     bif jZ [!!v_81 || isSm (eo (IM.1.1,1,500))] then
      bif v_85 then
       some (.inr (((),CZ),B9))
      else
       let I1:=IntKind.wrap .i64 (CZ+XB)
       let aby:List UInt8:=List.take (Int.toNat (IntKind.wrap .i64 (I1+IM.1.1)-I1)) (List.drop (Int.toNat I1) CH)
       bif jZ [decide (0≤I1),decide (I1≤IntKind.wrap .i64 (I1+IM.1.1)),decide (IntKind.wrap .i64 (I1+IM.1.1)≤(↑(List.length CH):Int))] then
        bz q95 (Ly,aby) fun r_91=>
         let r_93:=zog q13 (CU,r_91.1)
         bif jZ [isSm (q13 (CU,r_91.1)),decide (0≤CZ),decide (CZ≤(↑(List.length CH):Int)),decide ((↑(List.length CH):Int)≤(↑(List.length CH):Int))] then
          bif !r_93.1 then
           some (.inr (((),CZ),B9))
          else
           let pb_94:List (List UInt8):=[aby]
           let ls_95:List (List UInt8):=B9++pb_94
           bif jZ [decide (List.length B9+(1:Nat)≤eD)] then
            let G9:Int:=(↑(List.length r_91.1):Int)
            some (.inl (((IntKind.wrap .i64 (CZ+G9)),(),CH),ls_95))
           else none
         else none
       else none
     else none
    else none
 else none
def Wh.abk:(((Unit)×(Int))×((List (List UInt8)))):=default
def Wh.Ee (xs:(List UInt8)):Option (((List (List UInt8))×(Int))×(Unit)):=
 let Aj:=xs
 let x_99:Vo:=((0,(),Aj),[])
 bif pY Ef x_99 then
  let y_100:=oa Ef abk x_99
  let v_101:=y_100.1.2
  let ls_102:=y_100.2
  some ((ls_102,v_101),())
 else none
def Wh.A_ (xs:(Int)):Option (((Bool))×(Unit)):=
 let wh:=xs
 bz eo (wh,0,1) fun r_1=>
  some (r_1.1,())
abbrev Wh.TV:Type:=((Int)×(List UInt8)×(Int))×(Unit)
abbrev Wh.agJ:Type:=((((Bool))×(Unit))⊕(((List UInt8))×(Unit)))
def Wh.BQ (x:TV):Option (TV⊕agJ):=
 let Aa:=x.1.1
 let Lo:=x.1.2.1
 let nS:=x.1.2.2
 bif decide (Aa<nS) then
  let fj:Int:=(↑(UInt8.toNat (List.getD Lo (Int.toNat Aa) (0:UInt8))):Int)
  let jg:=bif decide (fj<97) then true else decide (fj>122)
  bif jZ [!!decide (fj<97) || decide (0≤Aa),!!decide (fj<97) || decide (Aa<(↑(List.length Lo):Int)),decide (0≤Aa),decide (Aa<(↑(List.length Lo):Int))] then
   bif jg then
    some (.inr (.inl (false,())))
   else
    some (.inl (((IntKind.wrap .i64 (Aa+1)),Lo,nS),()))
  else none
 else
  some (.inr (.inr (Lo,())))
def Wh.Z4:(((Bool))×(Unit))⊕(((List UInt8))×(Unit)):=.inl default
def Wh.Br (xs:(List UInt8)):Option (((Bool))×(Unit)):=
 let z_:=xs
 let x_19:TV:=((0,z_,(↑(List.length z_):Int)),())
 bif pY BQ x_19 then
  sumC (oa BQ Z4 x_19) (fun Hi=>
   let wv:=Hi.1
   some (wv,())) (fun z_21=>
   let akV:=z_21.1
   bz eo ((↑(List.length akV):Int),1,6) fun r_24=>
    some (r_24.1,()))
 else none
def Wh.q26 (xs:(Int)×(List UInt8)×(List UInt8)):Option (((List UInt8))×(Unit)):=
 let HC:=xs.1
 let Ak:=xs.2.1
 let Cp:=xs.2.2
 let r_3:=zog A_ HC
 let dm:=zog Br Ak
 let ic:=bif bif !r_3.1 then true else !dm.1 then true else decide ((↑(List.length Cp):Int)>300)
 bif jZ [!!!r_3.1 || isSm (Br Ak),isSm (A_ HC)] then
  bif ic then
   some ([],())
  else
   let qj:=zog Wh.strconv_Itoa HC
   let Ac:=qj.1 ++ [(32:UInt8)]++Ak ++ [(58:UInt8)]++Cp
   bif jZ [decide (List.length (qj.1 ++ [(32:UInt8)]++Ak ++ [(58:UInt8)])+List.length Cp≤eD),decide (List.length (qj.1 ++ [(32:UInt8)]++Ak)+(1:Nat)≤eD),decide (List.length (qj.1 ++ [(32:UInt8)])+List.length Ak≤eD),decide (List.length qj.1+(1:Nat)≤eD),isSm (Wh.strconv_Itoa HC)] then
    some (Ac,())
   else none
 else none
def Wh.Fq (xs:(bx.D)):Option ((((Int)×((List (bn.D))×(Unit))))×(Unit)):=
 let bt:bx.D:=xs
 let zO:List (bn.D):=[]++bt.2.1
 bif jZ [decide ((0:Nat)+List.length bt.2.1≤eD)] then
  some ((bt.1,zO,()),())
 else none
def Wh.q19 (xs:(bn.D)×(Int)×(List UInt8)):Option (((Bool))×(Unit)):=
 let i_0:=xs.1
 let v_1:=xs.2.1
 let v_2:=xs.2.2
 let sn:=bif(i_0.1==v_1) then i_0.2.1==v_2 else false
 some (sn,())
abbrev Wh.US:Type:=((Int)×(List (bn.D))×((Int)×((List UInt8)×(Unit)))×(Int))×(Unit)
abbrev Wh.q3_l0Y:Type:=((((Int))×(Unit))⊕((Unit)×(Unit)))
def Wh.Fk (x:US):Option (US⊕q3_l0Y):=
 let nS:=x.1.1
 let s_13:=x.1.2.1
 let f_14:=(x.1.2.2).1.1
 let f_15:=(x.1.2.2).1.2.1
 let fN:=x.1.2.2.2
 bif decide (nS<fN) then
  let ew:bn.D:=List.getD s_13 (Int.toNat nS) (0,[],0,[],())
  let IJ:=zog q19 (ew,f_14,f_15)
  bif jZ [isSm (q19 (ew,f_14,f_15)),decide (0≤nS),decide (nS<(↑(List.length s_13):Int))] then
   bif IJ.1 then
    some (.inr (.inl (nS,())))
   else
    some (.inl (((IntKind.wrap .i64 (nS+1)),s_13,(f_14,f_15,()),fN),()))
  else none
 else
  some (.inr (.inr ((),())))
def Wh.aaP:(((Int))×(Unit))⊕((Unit)×(Unit)):=.inl default
def Wh.q3 (xs:(List (bn.D))×((Int)×((List UInt8)×(Unit)))):Option (((Int))×(Unit)):=
 let b6:=xs.1
 let f_1:=xs.2
 let v_2:Int:=(↑(List.length b6):Int)
 let x_21:US:=((0,b6,(f_1.1,f_1.2.1,()),v_2),())
 bif pY Fk x_21 then
  sumC (oa Fk aaP x_21) (fun BA=>
   let s_:=BA.1
   some (s_,())) (fun _=>
   some (-1,()))
 else none
def Wh.Dl (xs:(bx.D)×(Int)×(List UInt8)):Option (((Int))×(Unit)):=
 let bt:=xs.1
 let so:=xs.2.1
 let AQ:=xs.2.2
 bz Wh.q3 (bt.2.1,so,AQ,()) fun r_3=>
  some (r_3.1,())
def Wh.q10 (xs:(List (bn.D))×(Int)×(Int)):Option (((List (bn.D)))×(Unit)):=
 let b6:=xs.1
 let i_1:=xs.2.1
 let B6:=xs.2.2
 let ia:Int:=(↑(List.length b6):Int)
 bif jZ [decide (0≤i_1),decide (i_1≤B6),decide (B6≤ia),decide (ia≤ia)] then
  let nG:=i_1==B6
  bif nG then
   some (b6,())
  else
   let pb_5:List (bn.D):=List.take (Int.toNat 0+Int.toNat (i_1-0)) b6++(List.take (Int.toNat (ia-B6)) (List.drop (Int.toNat B6) b6)++List.drop (Int.toNat 0+Int.toNat (i_1-0)+List.length (List.take (Int.toNat (ia-B6)) (List.drop (Int.toNat B6) b6))) b6)
   let AD:Nat:=Int.toNat (i_1-0)
   let s_9:Nat:=AD+List.length (List.take (Int.toNat (ia-B6)) (List.drop (Int.toNat B6) b6))
   bif jZ [decide (Int.toNat 0+AD+List.length (List.take (Int.toNat (ia-B6)) (List.drop (Int.toNat B6) b6))≤List.length b6),decide (0≤B6),decide (B6≤ia),decide (ia≤ia),true,decide (0≤i_1),decide (i_1≤ia)] then
    let Tw:List (bn.D):=List.take (Int.toNat 0+Int.toNat (↑s_9:Int)) pb_5++(@List.replicate (Int×List UInt8×Int×List UInt8×Unit) (Int.toNat (ia-(↑s_9:Int))) (0,[],0,[],())++List.drop (Int.toNat 0+Int.toNat (↑s_9:Int)+List.length (@List.replicate (Int×List UInt8×Int×List UInt8×Unit) (Int.toNat (ia-(↑s_9:Int))) (0,[],0,[],()))) pb_5)
    bif jZ [decide (0≤(↑s_9:Int)),decide ((↑s_9:Int)≤ia),decide ((↑(Int.toNat 0):Int)+ia≤(↑(List.length pb_5):Int))] then
     some (List.take s_9 Tw,())
    else none
   else none
 else none
def Wh.q50 (xs:(bx.D)×(Int)×(List UInt8)):Option ((((Int)×((List (bn.D))×(Unit)))×(Int))×(Unit)):=
 let bt:=xs.1
 let so:=xs.2.1
 let AQ:=xs.2.2
 bz Fq bt fun r_3=>
  bz Dl (bt,so,AQ) fun dm=>
   bif decide (dm.1<0) then
    some ((r_3.1,3),())
   else
    let wo:=zog q10 (r_3.1.2.1,dm.1,IntKind.wrap .i64 (dm.1+1))
    let pb_7:List (bn.D):=[]++wo.1
    bif jZ [decide ((0:Nat)+List.length wo.1≤eD),isSm (q10 (r_3.1.2.1,dm.1,(IntKind.wrap .i64 (dm.1+1))))] then
     some (((r_3.1.1,pb_7,r_3.1.2.2),0),())
    else none
def Wh.E8 (xs:(Int)×(List UInt8)×(List UInt8)):Option (((Bool))×(Unit)):=
 let HC:=xs.1
 let Ak:=xs.2.1
 let Cp:=xs.2.2
 let r_3:=zog A_ HC
 let dm:=zog Br Ak
 let Ap:=zog eo ((↑(List.length Cp):Int),1,300)
 let n4:=bif bif r_3.1 then dm.1 else false then Ap.1 else false
 bif jZ [(!bif r_3.1 then dm.1 else false) || isSm (eo ((↑(List.length Cp):Int),1,300)),!r_3.1 || isSm (Br Ak),isSm (A_ HC)] then
  some (n4,())
 else none
abbrev Wh.UI:Type:=((Int)×(Int)×(Int)×(List (bn.D))×(Int))×(Unit)
abbrev Wh.ahq:Type:=((((Int))×(Unit)))
def Wh.Fg (x:UI):Option (UI⊕ahq):=
 let fN:=x.1.1
 let HN:=x.1.2.1
 let HB:=(x.1.2.2).1
 let ec:=x.1.2.2.2.1
 let eK:=x.1.2.2.2.2
 bif decide (fN<eK) then
  let pb_22:bn.D:=List.getD ec (Int.toNat fN) (0,[],0,[],())
  bif jZ [decide (0≤fN),decide (fN<(↑(List.length ec):Int))] then
   bif(pb_22.1==HB) then
    let s_:Int:=(↑(List.length ((pb_22.2.2.2).1)):Int)
    some (.inl (((IntKind.wrap .i64 (fN+1)),(IntKind.wrap .i64 (HN+s_)),HB,ec,eK),()))
   else
    some (.inl (((IntKind.wrap .i64 (fN+1)),HN,HB,ec,eK),()))
  else none
 else
  some (.inr (HN,()))
def Wh.aaH:(((Int))×(Unit)):=default
def Wh.q28 (xs:(bx.D)×(Int)):Option (((Int))×(Unit)):=
 let bt:=xs.1
 let so:=xs.2
 let v_2:Int:=(↑(List.length bt.2.1):Int)
 let G_:UI:=((0,0,so,bt.2.1,v_2),())
 bif pY Fg G_ then
  let Hj:=oa Fg aaH G_
  let n_31:=Hj.1
  some (n_31,())
 else none
def Wh.q47 (xs:(Int)):Option (((Bool))×(Unit)):=
 let zH:=xs
 let v_1:=zH != zH
 some (v_1,())
def Wh.q18 (xs:(Int)×(Int)):Option (((Int))×(Unit)):=
 let zH:=xs.1
 let y_1:=xs.2
 bz q47 zH fun r_2=>
  bz q47 y_1 fun r_3=>
   bif r_2.1 then
    bif r_3.1 then
     some (0,())
    else
     some (-1,())
   else
    bif r_3.1 then
     some (1,())
    else
     bif decide (zH<y_1) then
      some (-1,())
     else
      bif decide (zH>y_1) then
       some (1,())
      else
       some (0,())
def Wh.q14 (xs:(List UInt8)):Option (((Bool))×(Unit)):=
 let zH:=xs
 some ((!zH==zH),())
def Wh.q7 (xs:(List UInt8)×(List UInt8)):Option (((Int))×(Unit)):=
 let zH:=xs.1
 let y_1:=xs.2
 bz q14 zH fun r_2=>
  bz q14 y_1 fun r_3=>
   bif r_2.1 then
    bif r_3.1 then
     some (0,())
    else
     some (-1,())
   else
    bif r_3.1 then
     some (1,())
    else
     bif Go.Op.bytesLess zH y_1 then
      some (-1,())
     else
      bif(!(Go.Op.bytesLess zH y_1 || zH==y_1)) then
       some (1,())
      else
       some (0,())
abbrev Wh.Uc:Type:=((Int)×(Int)×(List (Int))×(Int))×(Unit)
abbrev Wh.agZ:Type:=((((Int))×(Unit))⊕(((Int))×(Unit)))
def Wh.Gq (x:Uc):Option (Uc⊕agZ):=
 let n4:=x.1.1
 let VU:=x.1.2.1
 let zD:=(x.1.2.2).1
 let nS:=x.1.2.2.2
 bif decide (n4<nS) then
  let fj:=List.getD zD (Int.toNat n4) 0
  bif jZ [decide (0≤n4),decide (n4<(↑(List.length zD):Int))] then
   let iL:=fj != VU
   bif iL then
    some (.inr (.inl (fj,())))
   else
    some (.inl (((IntKind.wrap .i64 (n4+1)),VU,zD,nS),()))
  else none
 else
  some (.inr (.inr (VU,())))
def Wh.aaj:(((Int))×(Unit))⊕(((Int))×(Unit)):=.inl default
def Wh.Gp (xs:(List (Int))):Option (((Int))×(Unit)):=
 let ab0:=xs
 let x_17:Uc:=((0,0,ab0,(↑(List.length ab0):Int)),())
 bif pY Gq x_17 then
  sumC (oa Gq aaj x_17) (fun CX=>
   let eK:=CX.1
   some (eK,())) (fun LP=>
   let alo:=LP.1
   some (alo,()))
 else none
def Wh.q30 (xs:(bn.D)×(bn.D)):Option (((Int))×(Unit)):=
 let bp:=xs.1
 let b_1:=xs.2
 let r_2:=zog q18 (bp.1,b_1.1)
 let r_3:=zog Wh.q7 (bp.2.1,b_1.2.1)
 let wo:=zog Gp [r_2.1,r_3.1]
 bif jZ [isSm (Gp [r_2.1,r_3.1]),isSm (Wh.q7 (bp.2.1,b_1.2.1)),isSm (q18 (bp.1,b_1.1))] then
  some (wo.1,())
 else none
abbrev Wh.TE:Type:=((Int)×(Unit)×(Unit)×(Int)×(Int)×(Int))×((List (bn.D)))
abbrev Wh.q0_l1Y:Type:=((((Unit)×(Unit)×(Int)×(Int)×(Int))×((List (bn.D)))))
def Wh.DP (x:TE):Option (TE⊕q0_l1Y):=
 let AE:=x.1.1
 let a_24:=x.1.2.2.2.1
 let b_25:=(x.1.2.2.2.2).1
 let i_26:=(x.1.2.2.2.2).2
 let Bq:=x.2
 let hJ:=decide (AE>a_24)
 let r_29:=zog q30 (List.getD Bq (Int.toNat AE) (0,[],0,[],()),List.getD Bq (Int.toNat (IntKind.wrap .i64 (AE-1))) (0,[],0,[],()))
 let IX:=bif hJ then decide (r_29.1<0) else false
 bif jZ [!hJ || isSm (q30 (List.getD Bq (Int.toNat AE) (0,[],0,[],()),List.getD Bq (Int.toNat (IntKind.wrap .i64 (AE-1))) (0,[],0,[],()))),!hJ || decide (0≤IntKind.wrap .i64 (AE-1)),!hJ || decide (IntKind.wrap .i64 (AE-1)<(↑(List.length Bq):Int)),!hJ || decide (0≤AE),!hJ || decide (AE<(↑(List.length Bq):Int))] then
  bif IX then
   let xe:List (bn.D):=List.set Bq (Int.toNat AE) (List.getD Bq (Int.toNat (IntKind.wrap .i64 (AE-1))) (0,[],0,[],()))
   let BP:List (bn.D):=List.set xe (Int.toNat (IntKind.wrap .i64 (AE-1))) (List.getD Bq (Int.toNat AE) (0,[],0,[],()))
   let vc:=IntKind.wrap .i64 (AE-1)
   bif jZ [decide (0≤vc),decide (vc<(↑(List.length xe):Int)),decide (0≤AE),decide (AE<(↑(List.length Bq):Int)),decide (0≤AE),decide (AE<(↑(List.length Bq):Int)),decide (0≤vc),decide (vc<(↑(List.length Bq):Int))] then
    some (.inl ((vc,(),(),a_24,b_25,i_26),BP))
   else none
  else
   some (.inr (((),(),a_24,b_25,i_26),Bq))
 else none
def Wh.ZR:(((Unit)×(Unit)×(Int)×(Int)×(Int))×((List (bn.D)))):=default
abbrev Wh.TD:Type:=((Unit)×(Int)×(Unit)×(Int)×(Int))×((List (bn.D)))
abbrev Wh.q0_l0Y:Type:=(((Unit)×((List (bn.D)))))
def Wh.C_ (x:TD):Option (TD⊕q0_l0Y):=
 let i_43:=x.1.2.1
 let a_44:=x.1.2.2.2.1
 let b_45:=x.1.2.2.2.2
 let DM:=x.2
 bif decide (i_43<b_45) then
  let Hf:TE:=((i_43,(),(),a_44,b_45,i_43),DM)
  bif pY DP Hf then
   let Ho:=oa DP ZR Hf
   let a_50:=(Ho.1.2.2).1
   let b_51:=Ho.1.2.2.2.1
   let i_52:=Ho.1.2.2.2.2
   let JD:=Ho.2
   some (.inl (((),(IntKind.wrap .i64 (i_52+1)),(),a_50,b_51),JD))
  else none
 else
  some (.inr ((),DM))
def Wh.ZQ:((Unit)×((List (bn.D)))):=default
def Wh.q0 (xs:(List (bn.D))×(Int)×(Int)×(Unit)):Option ((Unit)×((List (bn.D))×Unit)):=
 let Si:=xs.1
 let a_1:=xs.2.1
 let b_2:=xs.2.2.1
 let LI:TD:=(((),(IntKind.wrap .i64 (a_1+1)),(),a_1,b_2),Si)
 bif pY C_ LI then
  let y_56:=oa C_ ZQ LI
  let pb_57:=y_56.2
  some ((),pb_57,())
 else none
abbrev Wh.UE:Type:=((Unit)×(Int)×(Int)×(Unit)×(Bool)×(Bool)×(Int))×((List (bn.D)))
abbrev Wh.q1_l0Y:Type:=(((Unit)×((List (bn.D)))))
def Wh.JG (x:UE):Option (UE⊕q1_l0Y):=
 let b_15:=x.1.2.1
 let a_16:=(x.1.2.2).1
 let ali:=(x.1.2.2.2.2).2.1
 let aeK:=(x.1.2.2.2.2).2.2
 let zQ:=x.2
 bif decide ((IntKind.wrap .i64 (b_15-a_16))≤12) then
  bz Wh.q0 (zQ,a_16,b_15,()) fun nI=>
   some (.inr ((),nI.2.1))
 else
  let s_:=aeK==0
  bif s_ then
   none
  else
   bif !ali then
    none
   else
    none
def Wh.aaF:((Unit)×((List (bn.D)))):=default
def Wh.q1 (xs:(List (bn.D))×(Int)×(Int)×(Int)×(Unit)):Option ((Unit)×((List (bn.D))×Unit)):=
 let Si:=xs.1
 let a_1:=xs.2.1
 let b_2:=xs.2.2.1
 let aeL:=(xs.2.2.2).1
 let x_25:UE:=(((),b_2,a_1,(),true,true,aeL),Si)
 bif pY JG x_25 then
  let zI:=oa JG aaF x_25
  let Bq:=zI.2
  some ((),Bq,())
 else none
def Wh.q4 (xs:(List (bn.D))×(Unit)):Option ((Unit)×((List (bn.D))×Unit)):=
 let zH:=xs.1
 let v_2:Int:=(↑(List.length zH):Int)
 let r_3:=zog Wh.bits_Len (IntKind.wrap .u64 v_2)
 let dm:=zog Wh.q1 (zH,0,v_2,r_3.1,())
 bif jZ [isSm (Wh.q1 (zH,0,v_2,r_3.1,())),isSm (Wh.bits_Len (IntKind.wrap .u64 v_2))] then
  some ((),dm.2.1,())
 else none
end
