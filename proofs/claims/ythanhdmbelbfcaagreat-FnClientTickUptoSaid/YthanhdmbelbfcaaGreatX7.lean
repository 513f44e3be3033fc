import Derived.Test.YthanhdmbelbfcaaGreatX6
set_option linter.defProp false
namespace Wh
end Wh
open Wh
open Go Go.Ab
noncomputable section
def Wh.q46 (xs:(bn.D)×(eL.D)):Option (((bn.D))×(Unit)):=
 let cx:=xs.1
 let w_1:=xs.2
 dj q60 (w_1.2.2.2.2.2.2.1) fun r_2=>
  let AI:=bif(cx.2.2.1 != 1) then true else !r_2.1.2
  bif AI then
   some (cx,())
  else
   bif(cx.2.2.2.2.1==0) then
    dj Lz r_2.1.1 fun n5=>
     some ((cx.1,cx.2.1,2,cx.2.2.2.1,w_1.2.2.2.1,n5.1,cx.2.2.2.2.2.2),())
   else
    let nP:=cx.2.2.2.2.1==w_1.2.2.2.1
    b8 (zog EG (cx.2.2.2.2.2.1.1)) fun Bd=>
    let A3:=bif nP then Bd.1==w_1.2.2.2.2.2.2.1 else false
    bif kL [!nP || qu (EG (cx.2.2.2.2.2.1.1))] then
     bif A3 then
      some ((cx.1,cx.2.1,2,cx.2.2.2),())
     else
      some (cx,())
    else none
abbrev Wh.aeQ:Type:=((Int)×(Unit)×(Int))×((fy.D))
abbrev Wh.al9:Type:=((((List UInt8)×(Bool))×(Unit))⊕((Unit)×(Unit)))
def Wh.LJ (x:aeQ):Option (aeQ⊕al9):=
 let BH:=x.1.1
 let at_14:=x.1.2.2
 let Aw:=x.2
 let se:Int:=(↑(List.length (Aw.2.2.1)):Int)
 bif decide (BH<se) then
  let s5:=List.getD (Aw.2.2.1) (Int.toNat BH) ([],[],())
  let nT:=bif(↑(List.length s5.1):Int)==1 then List.getD s5.1 (Int.toNat 0) 0==at_14 else false
  bif kL [!(↑(List.length s5.1):Int)==1 || decide ((0:Int)≤0),!(↑(List.length s5.1):Int)==1 || decide (0<(↑(List.length s5.1):Int)),!(↑(List.length s5.1):Int)==1 || decide (0≤BH),!(↑(List.length s5.1):Int)==1 || decide (BH<se),decide (0≤BH),decide (BH<se)] then
   bif nT then
    bif kL [decide (0≤BH),decide (BH<se)] then
     some (.inr (.inl ((s5.2.1,true),())))
    else none
   else
    some (.inl (((IntKind.wrap .i64 (BH+1)),(),at_14),Aw))
  else none
 else
  some (.inr (.inr ((),())))
def Wh.aeR:(((List UInt8)×(Bool))×(Unit))⊕((Unit)×(Unit)):=.inl default
def Wh.J_ (xs:(fy.D)×(Int)):Option (((List UInt8)×(Bool))×(Unit)):=
 let c9:=xs.1
 let C6:=xs.2
 iL LJ aeR (((0,(),C6),c9)) fun q_=>
  sumC q_ (fun UE=>
   let Du:=UE.1.1
   let v5:=UE.1.2
   some ((Du,v5),())) (fun _=>
   some (([],false),()))
abbrev Wh.afX:Type:=((Int)×(Unit))×((fy.D))
abbrev Wh.amG:Type:=(((Int)×(Unit)))
def Wh.PN (x:afX):Option (afX⊕amG):=
 let n_6:=x.1.1
 let ls_7:=x.2
 dj J_ (ls_7,n_6) fun Bd=>
  bif(!Bd.1.2) then
   some (.inr (n_6,()))
  else
   some (.inl (((IntKind.wrap .i64 (n_6+1)),()),ls_7))
def Wh.afY:((Int)×(Unit)):=default
def Wh.q78 (xs:(fy.D)):Option ((Int)×(Unit)):=
 let c9:=xs
 iL PN afY (((0,()),c9)) fun y_12=>
  let BO:=y_12.1
  some (BO,())
abbrev Wh.aft:Type:=((Int)×(Int)×(Unit))×((r5.D))
abbrev Wh.amr:Type:=(((Int)×(Unit)))
def Wh.PJ (x:aft):Option (aft⊕amr):=
 let Ea:=x.1.1
 let k_11:=x.1.2.1
 let K8:=x.2
 let BO:Int:=(↑(List.length (K8.1.2.2.1)):Int)
 let se:=bif decide (Ea<BO) then decide (List.getD (K8.1.2.2.1) (Int.toNat Ea) 0≤k_11) else false
 bif kL [!decide (Ea<BO) || decide (0≤Ea),!decide (Ea<BO) || decide (Ea<BO)] then
  bif se then
   some (.inl (((IntKind.wrap .i64 (Ea+1)),k_11,()),K8))
  else
   some (.inr (Ea,()))
 else none
def Wh.afu:((Int)×(Unit)):=default
def Wh.IQ (xs:(r5.D)):Option ((Int)×(Unit)):=
 let n4:=xs
 dj q78 n4.2.1 fun r_1=>
  iL PJ afu (((0,r_1.1,()),n4)) fun y_19=>
   let n_20:=y_19.1
   some (n_20,())
def Wh.EC (xs:(Int)):Option ((Int)×(Unit)):=
 let Yu:=xs
 some ((Int.tmod (IntKind.wrap .i64 ((IntKind.wrap .i64 (Yu*1103515245))+12345)) 2147483648),())
def Wh.Ee (xs:(Int)×(Int)):Option ((Int)×(Unit)):=
 let Yu:=xs.1
 let n_1:=xs.2
 bif kL [n_1 != 0,true] then
  some (Int.tmod (IntKind.wrap .i64 (Int.tdiv Yu 256)) n_1,())
 else none
abbrev Wh.af3:Type:=((Int)×(Unit)×(Int))×((g7.D))
abbrev Wh.amJ:Type:=(((Int)×(Unit))⊕((Unit)×((g7.D))))
def Wh.IU (x:af3):Option (af3⊕amJ):=
 let GS:=x.1.1
 let OZ:=x.1.2.2
 let nI:=x.2
 let HG:Int:=(↑(List.length (nI.2.2.2.1)):Int)
 bif decide (GS<HG) then
  let Ma:=List.getD (nI.2.2.2.1) (Int.toNat GS) 0
  bif kL [decide (0≤GS),decide (GS<HG)] then
   bif decide (OZ<Ma) then
    let v_48:=List.getD (nI.2.2.1) (Int.toNat GS) 0
    bif kL [decide (0≤GS),decide (GS<(↑(List.length (nI.2.2.1)):Int))] then
     some (.inr (.inl (v_48,())))
    else none
   else
    bif kL [decide (0≤GS),decide (GS<HG)] then
     some (.inl (((IntKind.wrap .i64 (GS+1)),(),(IntKind.wrap .i64 (OZ-Ma))),nI))
    else none
  else none
 else
  some (.inr (.inr ((),nI)))
def Wh.af4:((Int)×(Unit))⊕((Unit)×((g7.D))):=.inl default
abbrev Wh.af1:Type:=((Int)×(Unit)×(Int)×(Int))×((g7.D))
abbrev Wh.amI:Type:=((((Unit)×(Int)×(Int))×((g7.D))))
def Wh.IT (x:af1):Option (af1⊕amI):=
 let CA:=x.1.1
 let agV:=x.1.2.2.1
 let agu:=x.1.2.2.2
 let Aw:=x.2
 let se:Int:=(↑(List.length (Aw.2.2.2.1)):Int)
 bif decide (CA<se) then
  let s5:=List.getD (Aw.2.2.2.1) (Int.toNat CA) 0
  bif kL [decide (0≤CA),decide (CA<se)] then
   some (.inl (((IntKind.wrap .i64 (CA+1)),(),(IntKind.wrap .i64 (agV+s5)),agu),Aw))
  else none
 else
  some (.inr (((),agV,agu),Aw))
def Wh.af2:(((Unit)×(Int)×(Int))×((g7.D))):=default
def Wh.Gx (xs:(g7.D)×(Int)):Option ((Int)×(Unit)):=
 let g9:=xs.1
 let Ua:=xs.2
 iL IT af2 (((0,(),0,Ua),g9)) fun HH=>
  let agW:=HH.1.2.1
  let agv:=HH.1.2.2
  let BU:=HH.2
  b8 (zog EC agv) fun FO=>
  b8 (zog Ee (FO.1,agW)) fun r_29=>
  bif kL [qu (Ee (FO.1,agW)),qu (EC agv)] then
   iL IU af4 (((0,(),r_29.1),BU)) fun q_=>
    sumC q_ (fun B6=>
     let KB:=B6.1
     some (KB,())) (fun z_54=>
     let nS:=z_54.2
     dj Bc nS fun r_57=>
      some (r_57.1,()))
  else none
abbrev Wh.afr:Type:=((Int)×(Int)×(Unit)×(Int))×((List (Int)))
abbrev Wh.amq:Type:=((((Int)×(Unit))×((List (Int)))))
def Wh.IP (x:afr):Option (afr⊕amq):=
 let HW:=x.1.1
 let F7:=x.1.2.1
 let HV:=x.1.2.2.2
 let nC:=x.2
 bif decide (HW<HV) then
  let EK:=IntKind.wrap .i64 (Int.tdiv 65536 HV)
  bif kL [HV != 0] then
   bif decide (HW>1) then
    let EL:=IntKind.wrap .i64 (HW-1)
    let n_44:=IntKind.wrap .i64 (Int.tdiv (IntKind.wrap .i64 (IntKind.wrap .i64 (Int.tdiv 65536 (IntKind.wrap .i64 (HW*EL)))*7)) 8)
    bif kL [true,IntKind.wrap .i64 (HW*EL) != 0] then
     bif decide (n_44>F7) then
      let pb_46:List Int:=[F7]
      let AQ:=nC++pb_46
      bif kL [decide (List.length nC+(1:Nat)≤eV)] then
       some (.inl (((IntKind.wrap .i64 (HW+1)),(IntKind.wrap .i64 (F7-F7)),(),HV),AQ))
      else none
     else
      let pb_50:List Int:=[n_44]
      let wh:=nC++pb_50
      bif kL [decide (List.length nC+(1:Nat)≤eV)] then
       some (.inl (((IntKind.wrap .i64 (HW+1)),(IntKind.wrap .i64 (F7-n_44)),(),HV),wh))
      else none
    else none
   else
    bif decide (EK>F7) then
     let Tu:List Int:=[F7]
     let nS:=nC++Tu
     bif kL [decide (List.length nC+(1:Nat)≤eV)] then
      some (.inl (((IntKind.wrap .i64 (HW+1)),(IntKind.wrap .i64 (F7-F7)),(),HV),nS))
     else none
    else
     let X_:List Int:=[EK]
     let Ba:=nC++X_
     bif kL [decide (List.length nC+(1:Nat)≤eV)] then
      some (.inl (((IntKind.wrap .i64 (HW+1)),(IntKind.wrap .i64 (F7-EK)),(),HV),Ba))
     else none
  else none
 else
  some (.inr ((F7,()),nC))
def Wh.afs:(((Int)×(Unit))×((List (Int)))):=default
def Wh.q52 (xs:(Int)):Option (((List (Int)))×(Unit)):=
 let Fk:=xs
 iL IP afs (((1,65536,(),Fk),[])) fun FY=>
  let aja:=FY.1.1
  let CR:=FY.2
  let pb_67:List Int:=[aja]
  let Cr:=CR++pb_67
  bif kL [decide (List.length CR+(1:Nat)≤eV)] then
   some (Cr,())
  else none
abbrev Wh.afZ:Type:=((Int)×(Unit)×(Int)×(Int))×((List (Int)))
abbrev Wh.amH:Type:=(((Int)×(Unit))⊕((Int)×(Unit)))
def Wh.Kl (x:afZ):Option (afZ⊕amH):=
 let Su:=x.1.1
 let adb:=x.1.2.2.1
 let aad:=x.1.2.2.2
 let AX:=x.2
 bif decide (Su<(↑(List.length AX):Int)) then
  let mb:=IntKind.wrap .i64 (Su-1)
  bif kL [decide (0≤mb),decide (mb<(↑(List.length AX):Int))] then
   bif decide (adb<List.getD AX (Int.toNat mb) 0) then
    some (.inr (.inl (Su,())))
   else
    bif kL [decide (0≤mb),decide (mb<(↑(List.length AX):Int))] then
     some (.inl (((IntKind.wrap .i64 (Su+1)),(),(IntKind.wrap .i64 (adb-List.getD AX (Int.toNat mb) 0)),aad),AX))
    else none
  else none
 else
  some (.inr (.inr (aad,())))
def Wh.af0:((Int)×(Unit))⊕((Int)×(Unit)):=.inl default
def Wh.q79 (xs:(Int)×(Int)):Option ((Int)×(Unit)):=
 let Fk:=xs.1
 let part_1:=xs.2
 dj q52 Fk fun r_2=>
  iL Kl af0 (((1,(),part_1,Fk),r_2.1)) fun q_=>
   sumC q_ (fun Mf=>
    let B3:=Mf.1
    some (B3,())) (fun z_29=>
    let ahC:=z_29.1
    some (ahC,()))
abbrev Wh.aec:Type:=((Int)×(List (Int))×(Int))×(Unit)
abbrev Wh.alP:Type:=((((Int)×(List (Int))×(Int))×(Unit)))
def Wh.IA (x:aec):Option (aec⊕alP):=
 let k_8:=x.1.1
 let S8:=x.1.2.1
 let Ea:=x.1.2.2
 let CH:=decide (k_8<(↑(List.length S8):Int))
 let AV:=bif CH then decide (List.getD S8 (Int.toNat k_8) 0<Ea) else false
 bif kL [!CH || decide (0≤k_8),!CH || CH] then
  bif AV then
   some (.inl (((IntKind.wrap .i64 (k_8+1)),S8,Ea),()))
  else
   some (.inr ((k_8,S8,Ea),()))
 else none
def Wh.aed:(((Int)×(List (Int))×(Int))×(Unit)):=default
def Wh.Iz (xs:(List (Int))×(Int)):Option (((List (Int)))×(Unit)):=
 let K6:=xs.1
 let n_1:=xs.2
 iL IA aed (((0,K6,n_1),())) fun y_15=>
  let GV:=y_15.1.1
  let GZ:=y_15.1.2.1
  let n_18:=y_15.1.2.2
  let Lk:List Int:=[]++List.take (Int.toNat (GV-0)) (List.drop (Int.toNat 0) GZ)
  let BM:List Int:=[n_18]
  let pb_22:List Int:=Lk++BM++List.take (Int.toNat ((↑(List.length GZ):Int)-GV)) (List.drop (Int.toNat GV) GZ)
  let r_:List Int:=List.take (Int.toNat (GV-0)) (List.drop (Int.toNat 0) GZ)
  let BP:List Int:=List.take (Int.toNat ((↑(List.length GZ):Int)-GV)) (List.drop (Int.toNat GV) GZ)
  bif kL [decide (List.length (Lk++BM)+List.length BP≤eV),decide (0≤GV),decide (GV≤(↑(List.length GZ):Int)),decide ((↑(List.length GZ):Int)≤(↑(List.length GZ):Int)),decide (List.length Lk+(1:Nat)≤eV),decide ((0:Nat)+List.length r_≤eV),true,decide (0≤GV),decide (GV≤(↑(List.length GZ):Int))] then
   some (pb_22,())
  else none
abbrev Wh.aeW:Type:=((Int)×(Unit)×(Unit)×(Int)×(Int))×((List (Int))×(List (Int)))
abbrev Wh.amb:Type:=(((Unit)×((List (Int)))))
def Wh.Kb (x:aeW):Option (aeW⊕amb):=
 let De:=x.1.1
 let s_48:=x.1.2.2.2.1
 let d_49:=x.1.2.2.2.2
 let nG:=x.2.1
 let wh:=x.2.2
 bif decide (De<d_49) then
  dj EC s_48 fun BZ=>
   dj Ee (BZ.1,(↑(List.length nG):Int)) fun GC=>
    b8 (zog Iz (wh,List.getD nG (Int.toNat GC.1) 0)) fun FP=>
    let FV:=List.getD nG (Int.toNat GC.1) 0
    bif kL [qu (Iz (wh,FV)),decide (0≤GC.1),decide (GC.1<(↑(List.length nG):Int))] then
     let pb_57:List Int:=[]++List.take (Int.toNat (GC.1-0)) (List.drop (Int.toNat 0) nG)
     let Tv:List Int:=pb_57++List.take (Int.toNat ((↑(List.length nG):Int)-IntKind.wrap .i64 (GC.1+1))) (List.drop (Int.toNat (IntKind.wrap .i64 (GC.1+1))) nG)
     let Qh:Nat:=Int.toNat (GC.1-0)
     let NI:=IntKind.wrap .i64 (GC.1+1)
     bif kL [decide (List.length pb_57+List.length (List.take (Int.toNat ((↑(List.length nG):Int)-NI)) (List.drop (Int.toNat NI) nG))≤eV),decide (0≤NI),decide (NI≤(↑(List.length nG):Int)),decide ((↑(List.length nG):Int)≤(↑(List.length nG):Int)),decide ((0:Nat)+List.length (List.take Qh (List.drop (Int.toNat 0) nG))≤eV),true,decide (0≤GC.1),decide (GC.1≤(↑(List.length nG):Int))] then
      some (.inl (((IntKind.wrap .i64 (De+1)),(),(),BZ.1,d_49),Tv,FP.1))
     else none
    else none
 else
  some (.inr ((),wh))
def Wh.aeX:((Unit)×((List (Int)))):=default
abbrev Wh.aeU:Type:=((Int)×(Unit)×(Int)×(Int)×(Int))×((List (Int)))
abbrev Wh.ama:Type:=((((Unit)×(Int)×(Int))×((List (Int)))))
def Wh.LL (x:aeU):Option (aeU⊕ama):=
 let CB:=x.1.1
 let Nu:=x.1.2.2.1
 let d_19:=x.1.2.2.2.1
 let aae:=x.1.2.2.2.2
 let DE:=x.2
 bif decide (CB<aae) then
  let X5:List Int:=[CB]
  let BJ:=DE++X5
  bif kL [decide (List.length DE+(1:Nat)≤eV)] then
   some (.inl (((IntKind.wrap .i64 (CB+1)),(),Nu,d_19,aae),BJ))
  else none
 else
  some (.inr (((),Nu,d_19),DE))
def Wh.aeV:(((Unit)×(Int)×(Int))×((List (Int)))):=default
def Wh.Ka (xs:(Int)×(Int)):Option (((List (Int)))×(Unit)):=
 let Fk:=xs.1
 let Ua:=xs.2
 b8 (zog EC Ua) fun r_2=>
 b8 (zog EC r_2.1) fun e_=>
 bif kL [qu (EC r_2.1),qu (EC Ua)] then
  b8 (zog Ee (e_.1,65536)) fun ic=>
  b8 (zog q79 (Fk,ic.1)) fun AL=>
  bif kL [qu (q79 (Fk,ic.1)),qu (Ee (e_.1,65536))] then
   iL LL aeV (((0,(),e_.1,AL.1,Fk),[])) fun Ff=>
    let s_28:=Ff.1.2.1
    let d_29:=Ff.1.2.2
    let Bh:=Ff.2
    iL Kb aeX (((0,(),(),s_28,d_29),Bh,[])) fun FY=>
     let BL:=FY.2
     some (BL,())
  else none
 else none
def Wh.E8 (xs:(g7.D)×(Int)):Option (((List (Int)))×(Unit)):=
 let g9:=xs.1
 let F4:=xs.2
 dj Bc g9 fun r_2=>
  bif decide (F4<r_2.1) then
   let Px:List Int:=[F4]
   some (Px,())
  else
   b8 (zog Gx (g9,F4)) fun ic=>
   b8 (zog Ka (ic.1,F4)) fun n5=>
   bif kL [qu (Ka (ic.1,F4)),qu (Gx (g9,F4))] then
    some (n5.1,())
   else none
abbrev Wh.aeM:Type:=((Int)×(List (Int))×(Unit)×(Int)×(List (Int)))×((List (Int)))
abbrev Wh.al7:Type:=(((Unit)×((List (Int)))))
def Wh.FD (x:aeM):Option (aeM⊕al7):=
 let A9:=x.1.1
 let Jk:=x.1.2.1
 let Ep:=x.1.2.2.2.1
 let F1:=x.1.2.2.2.2
 let CQ:=x.2
 let B3:=decide (A9<(↑(List.length Jk):Int))
 let I9:=bif B3 then true else decide (Ep<(↑(List.length F1):Int))
 bif I9 then
  let GG:=decide (Ep≥(↑(List.length F1):Int))
  let FR:=bif GG then true else bif B3 then decide (List.getD Jk (Int.toNat A9) 0<List.getD F1 (Int.toNat Ep) 0) else false
  bif kL [!(B3 && !GG) || decide (0≤Ep),!(B3 && !GG) || decide (Ep<(↑(List.length F1):Int)),!(B3 && !GG) || decide (0≤A9),!(B3 && !GG) || B3] then
   bif FR then
    let Pw:List Int:=[List.getD Jk (Int.toNat A9) 0]
    let AK:=CQ++Pw
    bif kL [decide (List.length CQ+(1:Nat)≤eV),decide (0≤A9),B3] then
     some (.inl (((IntKind.wrap .i64 (A9+1)),Jk,(),Ep,F1),AK))
    else none
   else
    let EL:=decide (A9≥(↑(List.length Jk):Int))
    let L9:=bif EL then true else decide (List.getD F1 (Int.toNat Ep) 0<List.getD Jk (Int.toNat A9) 0)
    bif kL [!!EL || decide (0≤A9),!!EL || B3,!!EL || decide (0≤Ep),!!EL || decide (Ep<(↑(List.length F1):Int))] then
     bif L9 then
      let pb_42:List Int:=[List.getD F1 (Int.toNat Ep) 0]
      let nI:=CQ++pb_42
      bif kL [decide (List.length CQ+(1:Nat)≤eV),decide (0≤Ep),decide (Ep<(↑(List.length F1):Int))] then
       some (.inl ((A9,Jk,(),(IntKind.wrap .i64 (Ep+1)),F1),nI))
      else none
     else
      some (.inl (((IntKind.wrap .i64 (A9+1)),Jk,(),(IntKind.wrap .i64 (Ep+1)),F1),CQ))
    else none
  else none
 else
  some (.inr ((),CQ))
def Wh.aeN:((Unit)×((List (Int)))):=default
def Wh.Hq (xs:(List (Int))×(List (Int))):Option (((List (Int)))×(Unit)):=
 let Ei:=xs.1
 let b_1:=xs.2
 iL FD aeN (((0,Ei,(),0,b_1),[])) fun NQ=>
  let nG:=NQ.2
  some (nG,())
abbrev Wh.adN:Type:=((Int)×(List UInt8)×(List UInt8)×(Unit))×((List (Int)))
abbrev Wh.alC:Type:=(((Unit)×((List (Int)))))
def Wh.Lw (x:adN):Option (adN⊕alC):=
 let CA:=x.1.1
 let b_13:=x.1.2.1
 let a_14:=x.1.2.2.1
 let Aw:=x.2
 let se:=decide (CA<(↑(List.length a_14):Int))
 bif se then
  let X3:List Int:=[pZ Go.BinOp.xor Go.IntKind.u8 (↑(UInt8.toNat (List.getD a_14 (Int.toNat CA) (0:UInt8))):Int) (↑(UInt8.toNat (List.getD b_13 (Int.toNat CA) (0:UInt8))):Int)]
  let AX:=Aw++X3
  bif kL [decide (List.length Aw+(1:Nat)≤eV),decide (0≤CA),decide (CA<(↑(List.length b_13):Int)),decide (0≤CA),se] then
   some (.inl (((IntKind.wrap .i64 (CA+1)),b_13,a_14,()),AX))
  else none
 else
  some (.inr ((),Aw))
def Wh.adO:((Unit)×((List (Int)))):=default
def Wh.Fw (xs:(List UInt8)×(List UInt8)):Option (((List UInt8))×(Unit)):=
 let Ei:=xs.1
 let b_1:=xs.2
 iL Lw adO (((0,b_1,Ei,()),[])) fun HH=>
  let BJ:=HH.2
  some (tv BJ,())
abbrev Wh.aea:Type:=((Int)×(Unit)×(Unit)×(Unit))×((gT.D)×(fy.D)×((Unit)×((List UInt8)×(Unit)))×(List (Int)))
abbrev Wh.alO:Type:=((((Unit)×(Unit))×(((Unit)×((List UInt8)×(Unit)))×(gT.D)×(List (Int)))))
def Wh.J0 (x:aea):Option (aea⊕alO):=
 let C8:=x.1.1
 let AO:=x.2.1
 let CC:=x.2.2.1
 let BJ:=x.2.2.2.1.2
 let A_:=x.2.2.2.2
 let tn:Int:=(↑(List.length (CC.2.2.1)):Int)
 bif decide (C8<tn) then
  let v5:=List.getD (CC.2.2.1) (Int.toNat C8) ([],[],())
  b8 (zog Ef (AO.1,List.getD v5.1 (Int.toNat 0) 0)) fun Fa=>
  bif kL [qu (Ef (AO.1,List.getD v5.1 (Int.toNat 0) 0)),true,decide (0<(↑(List.length v5.1):Int)),decide (0≤C8),decide (C8<tn)] then
   bif Fa.1 then
    b8 (zog Fw (AO.2.1,v5.2.1)) fun CV=>
    b8 (zog Hq (AO.1,v5.1)) fun L0=>
    bif kL [qu (Fw (AO.2.1,v5.2.1)),decide (0≤C8),decide (C8<tn),qu (Hq (AO.1,v5.1)),decide (0≤C8),decide (C8<tn)] then
     some (.inl (((IntKind.wrap .i64 (C8+1)),(),(),()),(L0.1,CV.1,()),CC,((),BJ),A_))
    else none
   else
    some (.inl (((IntKind.wrap .i64 (C8+1)),(),(),()),AO,CC,((),BJ),A_))
  else none
 else
  some (.inr (((),()),((),BJ),AO,A_))
def Wh.aeb:(((Unit)×(Unit))×(((Unit)×((List UInt8)×(Unit)))×(gT.D)×(List (Int)))):=default
def Wh.JZ (xs:(fy.D)×(gT.D)):Option (((gT.D))×(Unit)):=
 let c9:=xs.1
 let e_1:=xs.2
 iL J0 aeb (((0,(),(),()),e_1,c9,((),[],()),[])) fun y_41=>
  let nI:=y_41.2.2.1
  some (nI,())
abbrev Wh.ad7:Type:=((Int)×(List UInt8)×(List UInt8))×(Unit)
abbrev Wh.alM:Type:=((((List UInt8))×(Unit)))
def Wh.LA (x:ad7):Option (ad7⊕alM):=
 let Tk:=x.1.1
 let DY:=x.1.2.1
 let Tp:=x.1.2.2
 bif decide (Tk>0) then
  let s5:Bool:=(Int.tmod Tk 2)==1
  bif s5 then
   let xb:List UInt8:=Tp++DY
   bif kL [decide (List.length Tp+List.length DY≤eV)] then
    let mb:List UInt8:=DY++DY
    bif kL [decide (List.length DY+List.length DY≤eV)] then
     some (.inl (((IntKind.wrap .i64 (Int.tdiv Tk 2)),mb,xb),()))
    else none
   else none
  else
   let nT:List UInt8:=DY++DY
   bif kL [decide (List.length DY+List.length DY≤eV)] then
    some (.inl (((IntKind.wrap .i64 (Int.tdiv Tk 2)),nT,Tp),()))
   else none
 else
  some (.inr (Tp,()))
def Wh.ad8:(((List UInt8))×(Unit)):=default
def Wh.JX (xs:(List UInt8)×(Int)):Option (((List UInt8))×(Unit)):=
 let c9:=xs.1
 let n_1:=xs.2
 iL LA ad8 (((n_1,c9,[]),())) fun UE=>
  let out_26:=UE.1
  some (out_26,())
def Wh.Iy (xs:(Int)):Option (((List UInt8))×(Unit)):=
 let size_0:=xs
 dj JX (tv [(0:Int)],size_0) fun r_1=>
  some (r_1.1,())
abbrev Wh.aeO:Type:=((Int)×(Unit)×(Unit)×(Bool)×(Unit)×(Unit))×(((Int)×((Int)×((Unit)×(Unit))))×(gT.D)×((Int)×((Int)×((Unit)×(Unit))))×((Int)×((Int)×((Unit)×(Unit))))×(List (gT.D))×(List (gT.D))×(List (gT.D)))
abbrev Wh.al8:Type:=((((Unit)×(Unit)×(Unit)×(Bool))×(((Int)×((Int)×((Unit)×(Unit))))×((Int)×((Int)×((Unit)×(Unit))))×(gT.D)×(List (gT.D))×(List (gT.D)))))
def Wh.FE (x:aeO):Option (aeO⊕al8):=
 let Jt:=x.1.1
 let ER:=x.1.2.2.2.1
 let Ax:=x.2.1.1
 let AR:=x.2.1.2.1
 let AG:=x.2.1.2.2.2
 let nS:=x.2.2.1
 let AA:=x.2.2.2.1.1
 let Cl:=x.2.2.2.1.2.1
 let Cb:=x.2.2.2.1.2.2.2
 let Ba:=x.2.2.2.2.1.1
 let BK:=x.2.2.2.2.1.2.1
 let Cc:=x.2.2.2.2.1.2.2.2
 let Bb:=x.2.2.2.2.2.1
 let AU:=x.2.2.2.2.2.2.1
 let BL:=x.2.2.2.2.2.2.2
 let Uw:Int:=(↑(List.length AU):Int)
 bif decide (Jt<Uw) then
  let G6:=List.getD AU (Int.toNat Jt) ([],[],())
  bif kL [decide (0≤Jt),decide (Jt<Uw)] then
   let Fb:=List.getD nS.1 (Int.toNat 0) 0
   b8 (zog Ef (G6.1,Fb)) fun r_70=>
   bif kL [qu (Ef (G6.1,Fb)),true,decide (0<(↑(List.length nS.1):Int))] then
    bif r_70.1 then
     b8 (zog Fw (G6.2.1,nS.2.1)) fun r_71=>
     b8 (zog Hq (G6.1,nS.1)) fun Ku=>
     bif kL [qu (Fw (G6.2.1,nS.2.1)),qu (Hq (G6.1,nS.1))] then
      let Ux:=bif !ER then decide (List.getD Ku.1 (Int.toNat 0) 0>Fb) else false
      bif kL [!!ER || decide ((0:Int)≤0),!!ER || decide (0<(↑(List.length nS.1):Int)),!!ER || decide ((0:Int)≤0),!!ER || decide (0<(↑(List.length Ku.1):Int))] then
       bif Ux then
        let M6:List (gT.D):=[nS]
        let Cs:=Bb++M6
        bif kL [decide (List.length Bb+(1:Nat)≤eV)] then
         let pb_76:List (gT.D):=[(Ku.1,r_71.1,())]
         let Bl:=Cs++pb_76
         bif kL [decide (List.length Cs+(1:Nat)≤eV)] then
          some (.inl (((IntKind.wrap .i64 (Jt+1)),(),(),true,(),()),(Ax,AR,(),AG),nS,(AA,Cl,(),Cb),(Ba,BK,(),Cc),Bl,AU,BL))
         else none
        else none
       else
        let Tz:List (gT.D):=[(Ku.1,r_71.1,())]
        let D8:=Bb++Tz
        bif kL [decide (List.length Bb+(1:Nat)≤eV)] then
         some (.inl (((IntKind.wrap .i64 (Jt+1)),(),(),ER,(),()),(Ax,AR,(),AG),nS,(AA,Cl,(),Cb),(Ba,BK,(),Cc),D8,AU,BL))
        else none
      else none
     else none
    else
     let NJ:=bif !ER then decide (List.getD G6.1 (Int.toNat 0) 0>Fb) else false
     bif kL [!!ER || decide ((0:Int)≤0),!!ER || decide (0<(↑(List.length nS.1):Int)),!!ER || decide ((0:Int)≤0),!!ER || decide (0<(↑(List.length G6.1):Int))] then
      bif NJ then
       let pb_83:List (gT.D):=[nS]
       let CU:=Bb++pb_83
       bif kL [decide (List.length Bb+(1:Nat)≤eV)] then
        let pb_85:List (gT.D):=[G6]
        let Ld:=CU++pb_85
        bif kL [decide (List.length CU+(1:Nat)≤eV)] then
         some (.inl (((IntKind.wrap .i64 (Jt+1)),(),(),true,(),()),(Ax,AR,(),AG),nS,(AA,Cl,(),Cb),(Ba,BK,(),Cc),Ld,AU,BL))
        else none
       else none
      else
       let pb_88:List (gT.D):=[G6]
       let Le:=Bb++pb_88
       bif kL [decide (List.length Bb+(1:Nat)≤eV)] then
        some (.inl (((IntKind.wrap .i64 (Jt+1)),(),(),ER,(),()),(Ax,AR,(),AG),nS,(AA,Cl,(),Cb),(Ba,BK,(),Cc),Le,AU,BL))
       else none
     else none
   else none
  else none
 else
  some (.inr (((),(),(),ER),(Ba,BK,(),Cc),(Ax,AR,(),AG),nS,BL,Bb))
def Wh.aeP:(((Unit)×(Unit)×(Unit)×(Bool))×(((Int)×((Int)×((Unit)×(Unit))))×((Int)×((Int)×((Unit)×(Unit))))×(gT.D)×(List (gT.D))×(List (gT.D)))):=default
def Wh.Gt (xs:(fy.D)×(List (Int))×(List UInt8)):Option ((((Int)×((Int)×((List (gT.D))×(Unit))))×(Int))×(Unit)):=
 let c9:=xs.1
 let T8:=xs.2.1
 let data_2:=xs.2.2
 let Dm:List Int:=[]++T8
 b8 (zog JZ (c9,Dm,data_2,())) fun e_=>
 bif kL [qu (JZ (c9,Dm,data_2,())),decide ((0:Nat)+List.length T8≤eV)] then
  dj Ix c9 fun n5=>
   let nP:Int:=(↑(List.length e_.1.1):Int)
   let FW:=nP==0
   bif FW then
    dj Iy c9.2.1 fun w9=>
     bif(e_.1.2.1==w9.1) then
      some ((n5.1,1),())
     else
      some ((n5.1,2),())
   else
    iL FE aeP (((0,(),(),false,(),()),(c9.1,c9.2.1,(),()),e_.1,(n5.1.1,n5.1.2.1,(),n5.1.2.2.2),(0,0,(),()),[],n5.1.2.2.1,[])) fun NS=>
     let ahO:=NS.1.2.2.2
     let Lf:=NS.2.2.1.1
     let Fv:=NS.2.2.1.2.1
     let Il:=NS.2.2.1.2.2.2
     let MT:=NS.2.2.2.1
     let Df:=NS.2.2.2.2.2
     bif !ahO then
      let pb_103:List (gT.D):=[MT]
      let Ay:=Df++pb_103
      bif kL [decide (List.length Df+(1:Nat)≤eV)] then
       some (((Lf,Fv,Ay,Il),0),())
      else none
     else
      some (((Lf,Fv,Df,Il),0),())
 else none
def Wh.Ly (xs:(r5.D)×(Int)×(List UInt8)):Option (((((Int)×((Int)×((List (Int))×((List (Int))×(Unit)))))×(((Int)×((Int)×((List (gT.D))×(Unit))))×(Unit)))×(Int))×(Unit)):=
 let n4:=xs.1
 let F4:=xs.2.1
 let data_2:=xs.2.2
 dj FB n4 fun r_3=>
  bif !r_3.1 then
   some ((((0,0,[],[],()),(0,0,[],()),()),3),())
  else
   dj J1 n4 fun e_=>
    b8 (zog g8 (F4,0,9999)) fun ic=>
    let oc:=bif !ic.1 then true else(↑(List.length data_2):Int) != n4.1.2.1
    bif kL [qu (g8 (F4,0,9999))] then
     bif oc then
      some ((e_.1,3),())
     else
      b8 (zog E8 (n4.1,F4)) fun AL=>
      b8 (zog Gt (n4.2.1,AL.1,data_2)) fun Bd=>
      bif kL [qu (Gt (n4.2.1,AL.1,data_2)),qu (E8 (n4.1,F4))] then
       some (((e_.1.1,(Bd.1.1.1,Bd.1.1.2.1,Bd.1.1.2.2.1,Bd.1.1.2.2.2),e_.1.2.2),Bd.1.2),())
      else none
    else none
def Wh.JO (xs:(bn.D)):Option (((List (eL.D)))×(Unit)):=
 let cx:=xs
 bif(cx.2.2.2.2.1==0) then
  some ([],())
 else
  let BV:List (eL.D):=[(5,cx.1,cx.2.1,cx.2.2.2.2.1,0,[],[],())]
  some (BV,())
def Wh.q47 (xs:(bn.D)×(eL.D)):Option (((bn.D)×(List (eL.D)))×(Unit)):=
 let cx:=xs.1
 let w_1:=xs.2
 bif(cx.2.2.1==1) then
  some ((cx,[]),())
 else
  let AI:=bif(cx.2.2.2.2.1 != w_1.2.2.2.1) then true else cx.2.2.1 != 2
  bif AI then
   dj JP w_1 fun ic=>
    some ((cx,ic.1),())
  else
   dj IQ (cx.2.2.2.2.2.1) fun n5=>
    dj Ly (cx.2.2.2.2.2.1,w_1.2.2.2.2.1,w_1.2.2.2.2.2.2.1) fun AL=>
     bif(AL.1.2 != 0) then
      some ((cx,[]),())
     else
      dj EH AL.1.1 fun w9=>
       bif w9.1 then
        dj JO (cx.1,cx.2.1,3,cx.2.2.2.1,cx.2.2.2.2.1,AL.1.1,cx.2.2.2.2.2.2) fun A1=>
         some (((cx.1,cx.2.1,3,cx.2.2.2.1,cx.2.2.2.2.1,AL.1.1,cx.2.2.2.2.2.2),A1.1),())
       else
        dj IQ AL.1.1 fun Ce=>
         bif decide (Ce.1>n5.1) then
          let X1:List (eL.D):=[(4,cx.1,cx.2.1,cx.2.2.2.2.1,Ce.1,[],[],())]
          bif kL [qu (IQ AL.1.1)] then
           some (((cx.1,cx.2.1,cx.2.2.1,cx.2.2.2.1,cx.2.2.2.2.1,AL.1.1,cx.2.2.2.2.2.2),X1),())
          else none
         else
          some (((cx.1,cx.2.1,cx.2.2.1,cx.2.2.2.1,cx.2.2.2.2.1,AL.1.1,cx.2.2.2.2.2.2),[]),())
def Wh.q23 (xs:(bn.D)×(eL.D)):Option (((bn.D)×(List (eL.D)))×(Unit)):=
 let cx:=xs.1
 let w_1:=xs.2
 dj DH cx fun r_2=>
  bif !r_2.1 then
   some (((0,0,0,[],0,((0,0,[],[],()),(0,0,[],()),()),()),[]),())
  else
   dj Gk cx fun r_3=>
    b8 (zog Ed w_1) fun e_=>
    let nP:=bif bif !e_.1 then true else w_1.2.1 != cx.1 then true else decide (w_1.2.2.1>cx.2.1)
    bif kL [qu (Ed w_1)] then
     bif nP then
      some ((r_3.1,[]),())
     else
      let A3:=bif decide (w_1.2.2.1<cx.2.1) then true else cx.2.2.1==0
      bif A3 then
       bif(w_1.1==3) then
        dj JP w_1 fun Ce=>
         some ((r_3.1,Ce.1),())
       else
        some ((r_3.1,[]),())
      else
       bif(w_1.1==2) then
        dj q46 (r_3.1,w_1) fun Dr=>
         some ((Dr.1,[]),())
       else
        bif(w_1.1==3) then
         dj q47 (r_3.1,w_1) fun E_=>
          some (E_.1,())
        else
         bif(w_1.1==6) then
          let mb:=bif bif(cx.2.2.1==1) then true else cx.2.2.1==2 then w_1.2.2.2.1==cx.2.2.2.2.1 else false
          bif mb then
           some (((r_3.1.1,r_3.1.2.1,4,r_3.1.2.2.2),[]),())
          else
           some ((r_3.1,[]),())
         else
          some ((r_3.1,[]),())
    else none
def Wh.Nj (x:((Unit)×(Unit)×(Unit)×(Unit))×((((Bool)×((Int)×((List UInt8)×(((Int)×((Unit)×(Unit)))×(((Unit)×((Int)×(Unit)))×((Unit)×((Unit)×(Unit))))))))×((Unit)×((Unit)×((Unit)×(Unit)))))×((b7.D)×((Unit)×((Unit)×((Unit)×(Unit)))))×(b9.D)×(di.D)×(List (an.D))×(List (cg.D))×(List (cw.D))×(List (cp.D))×(List (bn.D))×(List (b9.D))×(List (an.D))×(List (bn.D))×(List (b9.D))×(List (an.D)))):Option ((((Unit)×(Unit)×(Unit))×((((Bool)×((Int)×((List UInt8)×(((Int)×((Unit)×(Unit)))×(((Unit)×((Int)×(Unit)))×((Unit)×((Unit)×(Unit))))))))×((Unit)×((Unit)×((Unit)×(Unit)))))×((b7.D)×((Unit)×((Unit)×((Unit)×(Unit)))))×(b9.D)×(List (an.D))×(List (cg.D))×(List (cw.D))×(List (cp.D))×(List (bn.D))×(List (b9.D))×(List (an.D))×(List (bn.D))×(List (b9.D))×(List (an.D))))):=
 let AD:=x.2.1.1.1
 let Bz:=x.2.1.1.2.1
 let Az:=x.2.1.1.2.2.1
 let nC:=x.2.1.1.2.2.2.1.1
 let AK:=x.2.1.1.2.2.2.1.2.2
 let Bj:=x.2.1.1.2.2.2.2.1.2
 let nE:=x.2.1.1.2.2.2.2.2.2.2
 let A6:=x.2.1.2.2.2.2
 let AP:=x.2.2.1.1
 let AE:=x.2.2.1.2.2.2.2
 let AF:=x.2.2.2.1
 let nI:=x.2.2.2.2.1
 let x3:=x.2.2.2.2.2.1
 let vN:=x.2.2.2.2.2.2.1
 let wX:=x.2.2.2.2.2.2.2.1
 let AQ:=x.2.2.2.2.2.2.2.2.1
 let qe:=x.2.2.2.2.2.2.2.2.2.1
 let z4:=x.2.2.2.2.2.2.2.2.2.2.1
 let nG:=x.2.2.2.2.2.2.2.2.2.2.2.1
 let wh:=x.2.2.2.2.2.2.2.2.2.2.2.2.1
 let s_:=x.2.2.2.2.2.2.2.2.2.2.2.2.2.1
 let Ax:=x.2.2.2.2.2.2.2.2.2.2.2.2.2.2
 bif(!nI.2.2.2.2.2.1) then
  let Tu:List (b9.D):=[]++List.take (Int.toNat (nI.2.1-0)) (List.drop (Int.toNat 0) s_)
  let pb_56:List (b9.D):=Tu++List.take (Int.toNat ((↑(List.length s_):Int)-IntKind.wrap .i64 (nI.2.1+1))) (List.drop (Int.toNat (IntKind.wrap .i64 (nI.2.1+1))) s_)
  let v_57:Nat:=Int.toNat (nI.2.1-0)
  let NH:=IntKind.wrap .i64 (nI.2.1+1)
  bif kL [decide (List.length Tu+List.length (List.take (Int.toNat ((↑(List.length s_):Int)-NH)) (List.drop (Int.toNat NH) s_))≤eV),decide (0≤NH),decide (NH≤(↑(List.length s_):Int)),decide ((↑(List.length s_):Int)≤(↑(List.length s_):Int)),decide ((0:Nat)+List.length (List.take v_57 (List.drop (Int.toNat 0) s_))≤eV),true,decide (0≤nI.2.1),decide (nI.2.1≤(↑(List.length s_):Int))] then
   some ((((),(),()),((AD,Bz,Az,(nC,(),AK),((),Bj),(),(),nE),(),(),(),A6),(AP,(),(),(),AE),AF,x3,vN,wX,AQ,qe,z4,nG,wh,pb_56,Ax))
  else none
 else
  some ((((),(),()),((AD,Bz,Az,(nC,(),AK),((),Bj),(),(),nE),(),(),(),A6),(AP,(),(),(),AE),AF,x3,vN,wX,AQ,qe,z4,nG,wh,s_,Ax))
def Wh.q9' (x:((Unit)×(Unit)×(Unit)×(Unit))×((((Bool)×((Int)×((List UInt8)×(((Int)×((Unit)×(Unit)))×(((Unit)×((Int)×(Unit)))×((Unit)×((Unit)×(Unit))))))))×((Unit)×((Unit)×((Unit)×(Unit)))))×((b7.D)×((Unit)×((Unit)×((Unit)×(Unit)))))×(b9.D)×(di.D)×(List (an.D))×(List (cg.D))×(List (cw.D))×(List (cp.D))×(List (bn.D))×(List (b9.D))×(List (an.D))×(List (bn.D))×(List (b9.D))×(List (an.D)))):(((Unit)×(Unit)×(Unit))×((((Bool)×((Int)×((List UInt8)×(((Int)×((Unit)×(Unit)))×(((Unit)×((Int)×(Unit)))×((Unit)×((Unit)×(Unit))))))))×((Unit)×((Unit)×((Unit)×(Unit)))))×((b7.D)×((Unit)×((Unit)×((Unit)×(Unit)))))×(b9.D)×(List (an.D))×(List (cg.D))×(List (cw.D))×(List (cp.D))×(List (bn.D))×(List (b9.D))×(List (an.D))×(List (bn.D))×(List (b9.D))×(List (an.D)))):=match Nj x with | some y=>y|none=>(default,(default,default,default,default,default,default,default,default,default,default,default,default,default))
def Wh.q9_v (x:((Unit)×(Unit)×(Unit)×(Unit))×((((Bool)×((Int)×((List UInt8)×(((Int)×((Unit)×(Unit)))×(((Unit)×((Int)×(Unit)))×((Unit)×((Unit)×(Unit))))))))×((Unit)×((Unit)×((Unit)×(Unit)))))×((b7.D)×((Unit)×((Unit)×((Unit)×(Unit)))))×(b9.D)×(di.D)×(List (an.D))×(List (cg.D))×(List (cw.D))×(List (cp.D))×(List (bn.D))×(List (b9.D))×(List (an.D))×(List (bn.D))×(List (b9.D))×(List (an.D))))(y:(((Unit)×(Unit)×(Unit))×((((Bool)×((Int)×((List UInt8)×(((Int)×((Unit)×(Unit)))×(((Unit)×((Int)×(Unit)))×((Unit)×((Unit)×(Unit))))))))×((Unit)×((Unit)×((Unit)×(Unit)))))×((b7.D)×((Unit)×((Unit)×((Unit)×(Unit)))))×(b9.D)×(List (an.D))×(List (cg.D))×(List (cw.D))×(List (cp.D))×(List (bn.D))×(List (b9.D))×(List (an.D))×(List (bn.D))×(List (b9.D))×(List (an.D)))))(h:Nj x=some y):q9' x=y:=by unfold q9';rw[h]
def Wh.q66 (xs:((b7.D)×((List (bn.D))×((List (b9.D))×((List (an.D))×(Unit)))))×(di.D)):Option ((((b7.D)×((List (bn.D))×((List (b9.D))×((List (an.D))×(Unit))))))×(Unit)):=
 let w_0:=xs.1
 let e_1:=xs.2
 let BV:=List.getD (w_0.2.2.1) (Int.toNat e_1.2.1) (0,[],false,())
 bif kL [decide (0≤e_1.2.1),decide (e_1.2.1<(↑(List.length (w_0.2.2.1)):Int))] then
  CK Nj q9' ((((),(),(),()),((false,0,[],(0,(),()),((),0,()),(),(),()),(),(),(),()),(w_0.1,(),(),(),w_0.2.2.2.2),BV,e_1,[],[],[],[],[],[],[],w_0.2.1,w_0.2.2.1,w_0.2.2.2.1)) fun NR=>
   let Dh:=NR.2.2.1.1
   let Bk:=NR.2.2.1.2.2.2.2
   let AY:=NR.2.2.2.1
   let D8:=NR.2.2.2.2.2.2.2.2.2.2.2.1
   let G4:=NR.2.2.2.2.2.2.2.2.2.2.2.2.1
   let CT:=NR.2.2.2.2.2.2.2.2.2.2.2.2.2
   dj q63 AY.2.1 fun T5=>
    bif(!T5.1.2) then
     some ((Dh,D8,G4,CT,Bk),())
    else
     bif(AY.1==9) then
      dj q28 (Dh,T5.1.1) fun Np=>
       dj Gm ((Np.1.1,D8,G4,CT,Bk),-1,Np.1.2) fun Nq=>
        some (Nq.1,())
     else
      b8 (zog q23 (List.getD D8 (Int.toNat AY.1) (0,0,0,[],0,((0,0,[],[],()),(0,0,[],()),()),()),T5.1.1)) fun r_88=>
      let Qi:Nat:=Int.toNat AY.1
      bif kL [qu (q23 (List.getD D8 Qi (0,0,0,[],0,((0,0,[],[],()),(0,0,[],()),()),()),T5.1.1)),decide (0≤AY.1),decide (AY.1<(↑(List.length D8):Int))] then
       let XE:=List.set D8 Qi r_88.1.1
       bif kL [decide (0≤AY.1),decide (AY.1<(↑(List.length D8):Int))] then
        dj Gm ((Dh,XE,G4,CT,Bk),9,r_88.1.2) fun Nr=>
         some (Nr.1,())
       else none
      else none
 else none
def Wh.q71 (xs:(b9.D)×(Int)):Option (((b9.D))×(Unit)):=
 let g9:=xs.1
 let n_1:=xs.2
 let BV:List Int:=bytesOf g9.2.1
 bif kL [decide (List.length g9.2.1≤eV)] then
  let k_5:Int:=Int.tmod (Int.tmod n_1 4096) (↑(List.length BV):Int)
  bif kL [(↑(List.length BV):Int) != 0,true] then
   let Py:=List.set BV (Int.toNat k_5) (pZ Go.BinOp.xor Go.IntKind.u8 (List.getD BV (Int.toNat k_5) 0) (IntKind.wrap .u8 (IntKind.wrap .i64 (1+Int.tmod (IntKind.wrap .i64 (Int.tdiv n_1 4096)) 255))))
   bif kL [decide (0≤k_5),decide (k_5<(↑(List.length BV):Int)),true,true,decide (0≤k_5),decide (k_5<(↑(List.length BV):Int))] then
    some ((g9.1,tv Py,true,()),())
   else none
  else none
 else none
def Wh.q70 (xs:((b7.D)×((List (bn.D))×((List (b9.D))×((List (an.D))×(Unit)))))×(di.D)):Option ((((b7.D)×((List (bn.D))×((List (b9.D))×((List (an.D))×(Unit)))))×(Bool))×(Unit)):=
 let w_0:=xs.1
 let e_1:=xs.2
 let v_2:Int:=(↑(List.length (w_0.2.2.1)):Int)
 dj g8 (e_1.2.1,0,IntKind.wrap .i64 (v_2-1)) fun ic=>
  bif !ic.1 then
   some ((w_0,false),())
  else
   bif(e_1.1==8) then
    dj q66 (w_0,e_1) fun AL=>
     some ((AL.1,true),())
   else
    bif(e_1.1==9) then
     let JI:List (b9.D):=[]++List.take (Int.toNat (e_1.2.1-0)) (List.drop (Int.toNat 0) (w_0.2.2.1))
     let XY:List (b9.D):=JI++List.take (Int.toNat (v_2-IntKind.wrap .i64 (e_1.2.1+1))) (List.drop (Int.toNat (IntKind.wrap .i64 (e_1.2.1+1))) (w_0.2.2.1))
     let CH:Nat:=Int.toNat (e_1.2.1-0)
     let AV:=IntKind.wrap .i64 (e_1.2.1+1)
     bif kL [decide (List.length JI+List.length (List.take (Int.toNat (v_2-AV)) (List.drop (Int.toNat AV) (w_0.2.2.1)))≤eV),decide (0≤AV),decide (AV≤v_2),decide (v_2≤v_2),decide ((0:Nat)+List.length (List.take CH (List.drop (Int.toNat 0) (w_0.2.2.1)))≤eV),true,decide (0≤e_1.2.1),decide (e_1.2.1≤v_2)] then
      some (((w_0.1,w_0.2.1,XY,w_0.2.2.2),true),())
     else none
    else
     let pg:Nat:=Int.toNat e_1.2.1
     let xb:=bif bif(((List.getD (w_0.2.2.1) pg (0,[],false,())).2).2).1 then true else((List.getD (w_0.2.2.1) pg (0,[],false,())).2).1 == [] then true else decide (e_1.2.2.1<0)
     bif kL [!!(((List.getD (w_0.2.2.1) pg (0,[],false,())).2).2).1 || decide (0≤e_1.2.1),!!(((List.getD (w_0.2.2.1) pg (0,[],false,())).2).2).1 || decide (e_1.2.1<v_2),decide (0≤e_1.2.1),decide (e_1.2.1<v_2)] then
      bif xb then
       some ((w_0,false),())
      else
       b8 (zog q71 (List.getD (w_0.2.2.1) pg (0,[],false,()),e_1.2.2.1)) fun CE=>
       let pb_21:=List.set (w_0.2.2.1) pg CE.1
       bif kL [decide (0≤e_1.2.1),decide (e_1.2.1<v_2),qu (q71 (List.getD (w_0.2.2.1) pg (0,[],false,()),e_1.2.2.1)),decide (0≤e_1.2.1),decide (e_1.2.1<v_2)] then
        some (((w_0.1,w_0.2.1,pb_21,w_0.2.2.2),true),())
       else none
     else none
def Wh.JN (xs:(bn.D)):Option (((List (eL.D)))×(Unit)):=
 let cx:=xs
 let EY:List (eL.D):=[(1,cx.1,cx.2.1,cx.2.2.2.2.1,0,cx.2.2.2.1,[],())]
 some (EY,())
def Wh.q24 (xs:(bn.D)×(List UInt8)):Option ((((Int)×((Int)×((Int)×((List UInt8)×((Int)×((((Int)×((Int)×((List (Int))×((List (Int))×(Unit)))))×(((Int)×((Int)×((List (gT.D))×(Unit))))×(Unit)))×(Unit)))))))×(List (eL.D)))×(Unit)):=
 let cx:=xs.1
 let Eb:=xs.2
 dj DH cx fun r_2=>
  bif !r_2.1 then
   some (((0,0,0,[],0,((0,0,[],[],()),(0,0,[],()),()),()),[]),())
  else
   let A2:=decide (cx.2.1≥99999)
   b8 (zog DG Eb) fun e_=>
   let n_:=bif A2 then true else !e_.1
   bif kL [!!A2 || qu (DG Eb)] then
    bif n_ then
     dj Gk cx fun n5=>
      some ((n5.1,[]),())
    else
     let Lm:=IntKind.wrap .i64 (cx.2.1+1)
     dj JN (cx.1,Lm,1,Eb,0,((0,0,[],[],()),(0,0,[],()),()),()) fun Bd=>
      some (((cx.1,Lm,1,Eb,0,((0,0,[],[],()),(0,0,[],()),()),()),Bd.1),())
   else none
def Wh.LX (xs:(bn.D)):Option ((((Int)×((Int)×((Int)×((List UInt8)×((Int)×((((Int)×((Int)×((List (Int))×((List (Int))×(Unit)))))×(((Int)×((Int)×((List (gT.D))×(Unit))))×(Unit)))×(Unit)))))))×(List (eL.D)))×(Unit)):=
 let cx:=xs
 dj DH cx fun r_1=>
  bif !r_1.1 then
   some (((0,0,0,[],0,((0,0,[],[],()),(0,0,[],()),()),()),[]),())
  else
   dj Gk cx fun r_2=>
    let oc:=bif bif decide (cx.2.1≥99999) then true else cx.2.2.2.2.1==0 then true else cx.2.2.1==3
    bif oc then
     some ((r_2.1,[]),())
    else
     let Lm:=IntKind.wrap .i64 (cx.2.1+1)
     dj JN (r_2.1.1,Lm,1,r_2.1.2.2.2) fun Bd=>
      some (((r_2.1.1,Lm,1,r_2.1.2.2.2),Bd.1),())
def Wh.q25 (xs:(bn.D)):Option ((((Int)×((Int)×((Int)×((List UInt8)×((Int)×((((Int)×((Int)×((List (Int))×((List (Int))×(Unit)))))×(((Int)×((Int)×((List (gT.D))×(Unit))))×(Unit)))×(Unit)))))))×(List (eL.D)))×(Unit)):=
 let cx:=xs
 dj DH cx fun r_1=>
  bif !r_1.1 then
   some (((0,0,0,[],0,((0,0,[],[],()),(0,0,[],()),()),()),[]),())
  else
   dj JO cx fun r_2=>
    some (((cx.1,cx.2.1,0,[],0,((0,0,[],[],()),(0,0,[],()),()),()),r_2.1),())
def Wh.FG (xs:(bn.D)):Option (((List (eL.D)))×(Unit)):=
 let cx:=xs
 b8 (zog DH cx) fun r_1=>
 let v_2:=bif !r_1.1 then true else bif cx.2.2.1 != 1 then cx.2.2.1 != 2 else false
 bif kL [qu (DH cx)] then
  bif v_2 then
   some ([],())
  else
   dj JN cx fun r_3=>
    some (r_3.1,())
 else none
def Wh.q6 (x:((Unit)×(Unit)×(Unit)×(Unit)×(Unit))×((((Bool)×((Int)×((List UInt8)×(((Int)×((Unit)×(Unit)))×(((Unit)×((Int)×(Unit)))×((Unit)×((Unit)×(Unit))))))))×((Unit)×((Unit)×((Unit)×(Unit)))))×((b7.D)×((Unit)×((Unit)×((Unit)×(Unit)))))×(di.D)×(bn.D)×(bn.D)×(List (an.D))×(List (cg.D))×(List (cw.D))×(List (cp.D))×(List (bn.D))×(List (b9.D))×(List (an.D))×(List (bn.D))×(List (b9.D))×(List (an.D)))):Option ((((Unit)×(Unit)×(Unit)×(Unit)×(Unit)×(Unit))×((((Bool)×((Int)×((List UInt8)×(((Int)×((Unit)×(Unit)))×(((Unit)×((Int)×(Unit)))×((Unit)×((Unit)×(Unit))))))))×((Unit)×((Unit)×((Unit)×(Unit)))))×(List (eL.D))×((b7.D)×((Unit)×((Unit)×((Unit)×(Unit)))))×(di.D)×(bn.D)×((Int)×((Int)×((Int)×((List UInt8)×((Int)×((((Int)×((Int)×((Unit)×((Unit)×(Unit)))))×(((Int)×((Int)×((Unit)×(Unit))))×(Unit)))×(Unit)))))))×(List (an.D))×(List (cg.D))×(List (cw.D))×(List (cp.D))×(List (bn.D))×(List (b9.D))×(List (an.D))×(List (bn.D))×(List (b9.D))×(List (an.D))×(List (Int))×(List (Int))×(List (gT.D))))⊕(((Unit)×(Unit)×(Unit)×(Unit)×(Unit)×(Unit))×((((Bool)×((Int)×((List UInt8)×(((Int)×((Unit)×(Unit)))×(((Unit)×((Int)×(Unit)))×((Unit)×((Unit)×(Unit))))))))×((Unit)×((Unit)×((Unit)×(Unit)))))×(List (eL.D))×((b7.D)×((Unit)×((Unit)×((Unit)×(Unit)))))×(di.D)×(bn.D)×(bn.D)×(List (an.D))×(List (cg.D))×(List (cw.D))×(List (cp.D))×(List (bn.D))×(List (b9.D))×(List (an.D))×(List (bn.D))×(List (b9.D))×(List (an.D))))):=
 let nC:=x.2.1.1.1
 let AK:=x.2.1.1.2.1
 let Bj:=x.2.1.1.2.2.1
 let nE:=x.2.1.1.2.2.2.1.1
 let A6:=x.2.1.1.2.2.2.1.2.2
 let AP:=x.2.1.1.2.2.2.2.1.2
 let AE:=x.2.1.1.2.2.2.2.2.2.2
 let AF:=x.2.1.2.2.2.2
 let nI:=x.2.2.1.1
 let x3:=x.2.2.1.2.2.2.2
 let vN:=x.2.2.2.1
 let wX:=x.2.2.2.2.1
 let AQ:=x.2.2.2.2.2.1
 let qe:=x.2.2.2.2.2.2.1
 let z4:=x.2.2.2.2.2.2.2.1
 let nG:=x.2.2.2.2.2.2.2.2.1
 let wh:=x.2.2.2.2.2.2.2.2.2.1
 let s_:=x.2.2.2.2.2.2.2.2.2.2.1
 let Ax:=x.2.2.2.2.2.2.2.2.2.2.2.1
 let AR:=x.2.2.2.2.2.2.2.2.2.2.2.2.1
 let AG:=x.2.2.2.2.2.2.2.2.2.2.2.2.2.1
 let nS:=x.2.2.2.2.2.2.2.2.2.2.2.2.2.2.1
 let AA:=x.2.2.2.2.2.2.2.2.2.2.2.2.2.2.2
 bif(vN.1==3) then
  dj q24 (wX,vN.2.2.2.1) fun DK=>
   some (.inl ((((),(),(),(),(),()),((nC,AK,Bj,(nE,(),A6),((),AP),(),(),AE),(),(),(),AF),DK.1.2,(nI,(),(),(),x3),vN,wX,(DK.1.1.1,DK.1.1.2.1,DK.1.1.2.2.1,DK.1.1.2.2.2.1,DK.1.1.2.2.2.2.1,((DK.1.1.2.2.2.2.2.1.1.1,DK.1.1.2.2.2.2.2.1.1.2.1,(),(),DK.1.1.2.2.2.2.2.1.1.2.2.2.2),(DK.1.1.2.2.2.2.2.1.2.1.1,DK.1.1.2.2.2.2.2.1.2.1.2.1,(),DK.1.1.2.2.2.2.2.1.2.1.2.2.2),DK.1.1.2.2.2.2.2.1.2.2),DK.1.1.2.2.2.2.2.2),qe,z4,nG,wh,s_,Ax,AR,AG,nS,AA,DK.1.1.2.2.2.2.2.1.1.2.2.1,DK.1.1.2.2.2.2.2.1.1.2.2.2.1,DK.1.1.2.2.2.2.2.1.2.1.2.2.1)))
 else
  bif(vN.1==4) then
   dj LX wX fun CX=>
    some (.inl ((((),(),(),(),(),()),((nC,AK,Bj,(nE,(),A6),((),AP),(),(),AE),(),(),(),AF),CX.1.2,(nI,(),(),(),x3),vN,wX,(CX.1.1.1,CX.1.1.2.1,CX.1.1.2.2.1,CX.1.1.2.2.2.1,CX.1.1.2.2.2.2.1,((CX.1.1.2.2.2.2.2.1.1.1,CX.1.1.2.2.2.2.2.1.1.2.1,(),(),CX.1.1.2.2.2.2.2.1.1.2.2.2.2),(CX.1.1.2.2.2.2.2.1.2.1.1,CX.1.1.2.2.2.2.2.1.2.1.2.1,(),CX.1.1.2.2.2.2.2.1.2.1.2.2.2),CX.1.1.2.2.2.2.2.1.2.2),CX.1.1.2.2.2.2.2.2),qe,z4,nG,wh,s_,Ax,AR,AG,nS,AA,CX.1.1.2.2.2.2.2.1.1.2.2.1,CX.1.1.2.2.2.2.2.1.1.2.2.2.1,CX.1.1.2.2.2.2.2.1.2.1.2.2.1)))
  else
   bif(vN.1==5) then
    dj q25 wX fun DL=>
     some (.inl ((((),(),(),(),(),()),((nC,AK,Bj,(nE,(),A6),((),AP),(),(),AE),(),(),(),AF),DL.1.2,(nI,(),(),(),x3),vN,wX,(DL.1.1.1,DL.1.1.2.1,DL.1.1.2.2.1,DL.1.1.2.2.2.1,DL.1.1.2.2.2.2.1,((DL.1.1.2.2.2.2.2.1.1.1,DL.1.1.2.2.2.2.2.1.1.2.1,(),(),DL.1.1.2.2.2.2.2.1.1.2.2.2.2),(DL.1.1.2.2.2.2.2.1.2.1.1,DL.1.1.2.2.2.2.2.1.2.1.2.1,(),DL.1.1.2.2.2.2.2.1.2.1.2.2.2),DL.1.1.2.2.2.2.2.1.2.2),DL.1.1.2.2.2.2.2.2),qe,z4,nG,wh,s_,Ax,AR,AG,nS,AA,DL.1.1.2.2.2.2.2.1.1.2.2.1,DL.1.1.2.2.2.2.2.1.1.2.2.2.1,DL.1.1.2.2.2.2.2.1.2.1.2.2.1)))
   else
    dj FG wX fun r_64=>
     some (.inr ((((),(),(),(),(),()),((nC,AK,Bj,(nE,(),A6),((),AP),(),(),AE),(),(),(),AF),r_64.1,(nI,(),(),(),x3),vN,wX,AQ,qe,z4,nG,wh,s_,Ax,AR,AG,nS,AA)))
def Wh.q6' (x:((Unit)×(Unit)×(Unit)×(Unit)×(Unit))×((((Bool)×((Int)×((List UInt8)×(((Int)×((Unit)×(Unit)))×(((Unit)×((Int)×(Unit)))×((Unit)×((Unit)×(Unit))))))))×((Unit)×((Unit)×((Unit)×(Unit)))))×((b7.D)×((Unit)×((Unit)×((Unit)×(Unit)))))×(di.D)×(bn.D)×(bn.D)×(List (an.D))×(List (cg.D))×(List (cw.D))×(List (cp.D))×(List (bn.D))×(List (b9.D))×(List (an.D))×(List (bn.D))×(List (b9.D))×(List (an.D)))):(((Unit)×(Unit)×(Unit)×(Unit)×(Unit)×(Unit))×((((Bool)×((Int)×((List UInt8)×(((Int)×((Unit)×(Unit)))×(((Unit)×((Int)×(Unit)))×((Unit)×((Unit)×(Unit))))))))×((Unit)×((Unit)×((Unit)×(Unit)))))×(List (eL.D))×((b7.D)×((Unit)×((Unit)×((Unit)×(Unit)))))×(di.D)×(bn.D)×((Int)×((Int)×((Int)×((List UInt8)×((Int)×((((Int)×((Int)×((Unit)×((Unit)×(Unit)))))×(((Int)×((Int)×((Unit)×(Unit))))×(Unit)))×(Unit)))))))×(List (an.D))×(List (cg.D))×(List (cw.D))×(List (cp.D))×(List (bn.D))×(List (b9.D))×(List (an.D))×(List (bn.D))×(List (b9.D))×(List (an.D))×(List (Int))×(List (Int))×(List (gT.D))))⊕(((Unit)×(Unit)×(Unit)×(Unit)×(Unit)×(Unit))×((((Bool)×((Int)×((List UInt8)×(((Int)×((Unit)×(Unit)))×(((Unit)×((Int)×(Unit)))×((Unit)×((Unit)×(Unit))))))))×((Unit)×((Unit)×((Unit)×(Unit)))))×(List (eL.D))×((b7.D)×((Unit)×((Unit)×((Unit)×(Unit)))))×(di.D)×(bn.D)×(bn.D)×(List (an.D))×(List (cg.D))×(List (cw.D))×(List (cp.D))×(List (bn.D))×(List (b9.D))×(List (an.D))×(List (bn.D))×(List (b9.D))×(List (an.D)))):=match Wh.q6 x with | some y=>y|none=>.inl (default,(default,default,default,default,default,default,default,default,default,default,default,default,default,default,default,default,default,default,default))
def Wh.q6_v (x:((Unit)×(Unit)×(Unit)×(Unit)×(Unit))×((((Bool)×((Int)×((List UInt8)×(((Int)×((Unit)×(Unit)))×(((Unit)×((Int)×(Unit)))×((Unit)×((Unit)×(Unit))))))))×((Unit)×((Unit)×((Unit)×(Unit)))))×((b7.D)×((Unit)×((Unit)×((Unit)×(Unit)))))×(di.D)×(bn.D)×(bn.D)×(List (an.D))×(List (cg.D))×(List (cw.D))×(List (cp.D))×(List (bn.D))×(List (b9.D))×(List (an.D))×(List (bn.D))×(List (b9.D))×(List (an.D))))(y:(((Unit)×(Unit)×(Unit)×(Unit)×(Unit)×(Unit))×((((Bool)×((Int)×((List UInt8)×(((Int)×((Unit)×(Unit)))×(((Unit)×((Int)×(Unit)))×((Unit)×((Unit)×(Unit))))))))×((Unit)×((Unit)×((Unit)×(Unit)))))×(List (eL.D))×((b7.D)×((Unit)×((Unit)×((Unit)×(Unit)))))×(di.D)×(bn.D)×((Int)×((Int)×((Int)×((List UInt8)×((Int)×((((Int)×((Int)×((Unit)×((Unit)×(Unit)))))×(((Int)×((Int)×((Unit)×(Unit))))×(Unit)))×(Unit)))))))×(List (an.D))×(List (cg.D))×(List (cw.D))×(List (cp.D))×(List (bn.D))×(List (b9.D))×(List (an.D))×(List (bn.D))×(List (b9.D))×(List (an.D))×(List (Int))×(List (Int))×(List (gT.D))))⊕(((Unit)×(Unit)×(Unit)×(Unit)×(Unit)×(Unit))×((((Bool)×((Int)×((List UInt8)×(((Int)×((Unit)×(Unit)))×(((Unit)×((Int)×(Unit)))×((Unit)×((Unit)×(Unit))))))))×((Unit)×((Unit)×((Unit)×(Unit)))))×(List (eL.D))×((b7.D)×((Unit)×((Unit)×((Unit)×(Unit)))))×(di.D)×(bn.D)×(bn.D)×(List (an.D))×(List (cg.D))×(List (cw.D))×(List (cp.D))×(List (bn.D))×(List (b9.D))×(List (an.D))×(List (bn.D))×(List (b9.D))×(List (an.D)))))(h:Wh.q6 x=some y):q6' x=y:=by unfold q6';rw[h]
def Wh.q48 (xs:((b7.D)×((List (bn.D))×((List (b9.D))×((List (an.D))×(Unit)))))×(di.D)):Option ((((b7.D)×((List (bn.D))×((List (b9.D))×((List (an.D))×(Unit)))))×(Bool))×(Unit)):=
 let w_0:=xs.1
 let e_1:=xs.2
 dj g8 (e_1.2.1,0,3) fun r_2=>
  bif !r_2.1 then
   some ((w_0,false),())
  else
   let Dm:=List.getD w_0.2.1 (Int.toNat e_1.2.1) (0,0,0,[],0,((0,0,[],[],()),(0,0,[],()),()),())
   bif kL [decide (0≤e_1.2.1),decide (e_1.2.1<(↑(List.length w_0.2.1):Int))] then
    CK Wh.q6 q6' ((((),(),(),(),()),((false,0,[],(0,(),()),((),0,()),(),(),()),(),(),(),()),(w_0.1,(),(),(),w_0.2.2.2.2),e_1,Dm,Dm,[],[],[],[],[],[],[],w_0.2.1,w_0.2.2.1,w_0.2.2.2.1)) fun q_=>
     sumC q_ (fun Ch=>
      let CS:=Ch.2.2.1
      let Bl:=Ch.2.2.2.1.1
      let Ev:=Ch.2.2.2.1.2.2.2.2
      let EW:=Ch.2.2.2.2.1
      let D8:=Ch.2.2.2.2.2.1
      let G4:=Ch.2.2.2.2.2.2.1.1
      let CT:=Ch.2.2.2.2.2.2.1.2.1
      let DF:=Ch.2.2.2.2.2.2.1.2.2.1
      let CU:=Ch.2.2.2.2.2.2.1.2.2.2.1
      let Dj:=Ch.2.2.2.2.2.2.1.2.2.2.2.1
      let Ld:=Ch.2.2.2.2.2.2.1.2.2.2.2.2.1.1.1
      let Pk:=Ch.2.2.2.2.2.2.1.2.2.2.2.2.1.1.2.1
      let Pm:=Ch.2.2.2.2.2.2.1.2.2.2.2.2.1.1.2.2.2.2
      let Le:=Ch.2.2.2.2.2.2.1.2.2.2.2.2.1.2.1.1
      let XD:=Ch.2.2.2.2.2.2.1.2.2.2.2.2.1.2.1.2.1
      let XE:=Ch.2.2.2.2.2.2.1.2.2.2.2.2.1.2.1.2.2.2
      let MX:=Ch.2.2.2.2.2.2.1.2.2.2.2.2.1.2.2
      let MY:=Ch.2.2.2.2.2.2.1.2.2.2.2.2.2
      let K7:=Ch.2.2.2.2.2.2.2.2.2.2.2.2.2.2.1
      let Df:=Ch.2.2.2.2.2.2.2.2.2.2.2.2.2.2.2.1
      let Ie:=Ch.2.2.2.2.2.2.2.2.2.2.2.2.2.2.2.2.1
      let Ay:=Ch.2.2.2.2.2.2.2.2.2.2.2.2.2.2.2.2.2.1
      let Er:=Ch.2.2.2.2.2.2.2.2.2.2.2.2.2.2.2.2.2.2.1
      let Es:=Ch.2.2.2.2.2.2.2.2.2.2.2.2.2.2.2.2.2.2.2
      let Fu:=List.set K7 (Int.toNat EW.2.1) (G4,CT,DF,CU,Dj,((Ld,Pk,Ay,Er,Pm),(Le,XD,Es,XE),MX),MY)
      bif kL [decide (0≤EW.2.1),decide (EW.2.1<(↑(List.length K7):Int))] then
       let ok_113:=bif bif decide (CT>D8.2.1) then true else bif EW.1==5 then D8.2.2.1 != 0 else false then true else bif EW.1==7 then decide ((↑(List.length CS):Int)>0) else false
       dj Gm ((Bl,Fu,Df,Ie,Ev),9,CS) fun r_114=>
        some ((r_114.1,ok_113),())
      else none) (fun Je=>
      let G1:=Je.2.2.1
      let Dg:=Je.2.2.2.1.1
      let Ij:=Je.2.2.2.1.2.2.2.2
      let G2:=Je.2.2.2.2.1
      let JC:=Je.2.2.2.2.2.1
      let O3:=Je.2.2.2.2.2.2.1
      let Tb:=Je.2.2.2.2.2.2.2.2.2.2.2.2.2.2.1
      let Xs:=Je.2.2.2.2.2.2.2.2.2.2.2.2.2.2.2.1
      let Xt:=Je.2.2.2.2.2.2.2.2.2.2.2.2.2.2.2.2
      let Xu:=List.set Tb (Int.toNat G2.2.1) O3
      bif kL [decide (0≤G2.2.1),decide (G2.2.1<(↑(List.length Tb):Int))] then
       let ok_145:=bif bif decide (O3.2.1>JC.2.1) then true else bif G2.1==5 then JC.2.2.1 != 0 else false then true else bif G2.1==7 then decide ((↑(List.length G1):Int)>0) else false
       dj Gm ((Dg,Xu,Xs,Xt,Ij),9,G1) fun r_146=>
        some ((r_146.1,ok_145),())
      else none)
   else none
def Wh.J5 (xs:(List UInt8)):Option ((Bool)×(Unit)):=
 let A5:=xs
 dj E5 A5 fun r_1=>
  let AI:=bif(r_1.1.2==(↑(List.length A5):Int)) then decide (r_1.1.2≤9000) else false
  some (AI,())
def Wh.JW (xs:(List UInt8)×(List UInt8)):Option (((List UInt8)×(Bool))×(Unit)):=
 let A5:=xs.1
 let CY:=xs.2
 dj E5 A5 fun r_2=>
  b8 (zog J5 A5) fun r_3=>
  b8 (zog g8 ((↑(List.length CY):Int),1,500)) fun e_=>
  let n_:=bif !r_3.1 then true else !e_.1
  bif kL [!!!r_3.1 || qu (g8 ((↑(List.length CY):Int),1,500)),qu (J5 A5)] then
   bif n_ then
    some (([],false),())
   else
    let oc:Int:=(↑(List.length r_2.1.1):Int)
    b8 (zog Hi (oc,CY)) fun A1=>
    let x_11:List UInt8:=A5++A1.1
    bif kL [decide (List.length A5+List.length (A1.1)≤eV),qu (Hi (oc,CY))] then
     bif decide ((↑(List.length x_11):Int)>9000) then
      some (([],false),())
     else
      some ((x_11,true),())
    else none
  else none
def Wh.Fy (xs:(b7.D)×(List UInt8)):Option (((b7.D)×(Int))×(Unit)):=
 let c9:=xs.1
 let CY:=xs.2
 dj JW (c9.2.2.1,CY) fun r_2=>
  bif(!r_2.1.2) then
   some ((c9,4),())
  else
   dj FA (c9.2.2.2.1,CY) fun e_=>
    bif(!e_.1.2) then
     some ((c9,1),())
    else
     some (((c9.1,c9.2.1,r_2.1.1,e_.1.1,c9.2.2.2.2),0),())
def Wh.q41 (xs:(b7.D)×(Int)×(List UInt8)×(List UInt8)):Option (((b7.D)×(Int))×(Unit)):=
 let c9:=xs.1
 let AW:=xs.2.1
 let C9:=xs.2.2.1
 let L6:=xs.2.2.2
 dj FJ c9 fun e_=>
  bif !e_.1 then
   some (((false,0,[],(0,[],()),([],0,()),[],[],()),1),())
  else
   dj E9 c9 fun ic=>
    bif(!c9.1) then
     some ((ic.1,1),())
    else
     dj Fx (c9.2.2.2.1,AW,C9,L6) fun AL=>
      bif(AL.1.2 != 0) then
       some ((ic.1,AL.1.2),())
      else
       b8 (zog EE (AW,C9,L6)) fun w9=>
       b8 (zog Fy (ic.1,w9.1)) fun A1=>
       bif kL [qu (Fy (ic.1,w9.1)),qu (EE (AW,C9,L6))] then
        some ((A1.1.1,A1.1.2),())
       else none
abbrev Wh.adA:Type:=((Int)×(Unit)×(Unit))×(((b7.D)×((Unit)×((Unit)×((Unit)×(Unit)))))×(((Bool)×((Int)×((List UInt8)×(((Int)×((Unit)×(Unit)))×(((Unit)×((Int)×(Unit)))×((Unit)×((Unit)×(Unit))))))))×((Unit)×((Unit)×((Unit)×(Unit)))))×(List (bn.D))×(List (b9.D))×(List (an.D))×(List (an.D))×(List (cg.D))×(List (cw.D))×(List (cp.D))×(List (bn.D))×(List (b9.D))×(List (an.D)))
abbrev Wh.alv:Type:=((((Unit)×(Unit))×((((Bool)×((Int)×((List UInt8)×(((Int)×((Unit)×(Unit)))×(((Unit)×((Int)×(Unit)))×((Unit)×((Unit)×(Unit))))))))×((Unit)×((Unit)×((Unit)×(Unit)))))×((b7.D)×((Unit)×((Unit)×((Unit)×(Unit)))))×(List (an.D))×(List (cg.D))×(List (cw.D))×(List (cp.D))×(List (bn.D))×(List (b9.D))×(List (an.D))×(List (bn.D))×(List (b9.D))×(List (an.D)))))
def Wh.PE (x:adA):Option (adA⊕alv):=
 let Js:=x.1.1
 let Bz:=x.2.1.1
 let Az:=x.2.1.2.2.2.2
 let nC:=x.2.2.1.1.1
 let AK:=x.2.2.1.1.2.1
 let Bj:=x.2.2.1.1.2.2.1
 let nE:=x.2.2.1.1.2.2.2.1.1
 let A6:=x.2.2.1.1.2.2.2.1.2.2
 let AP:=x.2.2.1.1.2.2.2.2.1.2
 let AE:=x.2.2.1.1.2.2.2.2.2.2.2
 let AF:=x.2.2.1.2.2.2.2
 let nI:=x.2.2.2.1
 let x3:=x.2.2.2.2.1
 let vN:=x.2.2.2.2.2.1
 let wX:=x.2.2.2.2.2.2.1
 let AQ:=x.2.2.2.2.2.2.2.1
 let qe:=x.2.2.2.2.2.2.2.2.1
 let z4:=x.2.2.2.2.2.2.2.2.2.1
 let nG:=x.2.2.2.2.2.2.2.2.2.2.1
 let wh:=x.2.2.2.2.2.2.2.2.2.2.2.1
 let s_:=x.2.2.2.2.2.2.2.2.2.2.2.2
 let Ja:Int:=(↑(List.length (Bz.2.2.2.1.2.1)):Int)
 bif decide (Js<Ja) then
  let KB:an.D:=List.getD (Bz.2.2.2.1.2.1) (Int.toNat Js) (0,[],0,[],())
  let FV:Int:=(↑(List.length vN):Int)
  bif kL [decide (0≤Js),decide (Js<Ja)] then
   bif decide (KB.2.2.1>FV) then
    let Tv:List (an.D):=[]++vN
    let pb_60:List (an.D):=Tv ++ [KB]
    bif kL [decide (List.length Tv+(1:Nat)≤eV),decide (0≤Js),decide (Js<Ja),decide ((0:Nat)+List.length vN≤eV)] then
     some (.inl (((IntKind.wrap .i64 (Js+1)),(),()),(Bz,(),(),(),Az),((nC,AK,Bj,(nE,(),A6),((),AP),(),(),AE),(),(),(),AF),nI,x3,pb_60,wX,AQ,qe,z4,nG,wh,s_))
    else none
   else
    some (.inl (((IntKind.wrap .i64 (Js+1)),(),()),(Bz,(),(),(),Az),((nC,AK,Bj,(nE,(),A6),((),AP),(),(),AE),(),(),(),AF),nI,x3,vN,wX,AQ,qe,z4,nG,wh,s_))
  else none
 else
  some (.inr (((),()),((nC,AK,Bj,(nE,(),A6),((),AP),(),(),AE),(),(),(),AF),(Bz,(),(),(),Az),wX,AQ,qe,z4,nG,wh,s_,nI,x3,vN))
def Wh.adB:(((Unit)×(Unit))×((((Bool)×((Int)×((List UInt8)×(((Int)×((Unit)×(Unit)))×(((Unit)×((Int)×(Unit)))×((Unit)×((Unit)×(Unit))))))))×((Unit)×((Unit)×((Unit)×(Unit)))))×((b7.D)×((Unit)×((Unit)×((Unit)×(Unit)))))×(List (an.D))×(List (cg.D))×(List (cw.D))×(List (cp.D))×(List (bn.D))×(List (b9.D))×(List (an.D))×(List (bn.D))×(List (b9.D))×(List (an.D)))):=default
def Wh.JR (xs:((b7.D)×((List (bn.D))×((List (b9.D))×((List (an.D))×(Unit)))))):Option ((((b7.D)×((List (bn.D))×((List (b9.D))×((List (an.D))×(Unit))))))×(Unit)):=
 let w_0:=xs
 iL PE adB (((0,(),()),(w_0.1,(),(),(),w_0.2.2.2.2),((false,0,[],(0,(),()),((),0,()),(),(),()),(),(),(),()),w_0.2.1,w_0.2.2.1,w_0.2.2.2.1,[],[],[],[],[],[],[])) fun FY=>
  let CD:=FY.2.2.1.1
  let Cd:=FY.2.2.1.2.2.2.2
  let CT:=FY.2.2.2.2.2.2.2.2.2.2.1
  let DF:=FY.2.2.2.2.2.2.2.2.2.2.2.1
  let CU:=FY.2.2.2.2.2.2.2.2.2.2.2.2
  some ((CD,CT,DF,CU,Cd),())
abbrev Wh.af7:Type:=((Int)×(Unit)×(Int)×(Unit))×(((Unit)×((Int)×(Unit)))×((Unit)×((Int)×(Unit)))×(List (cg.D))×(List (cg.D)))
abbrev Wh.amL:Type:=((((Unit)×(Unit))×(((Unit)×((Int)×(Unit)))×((Unit)×((Int)×(Unit)))×(List (cg.D))×(List (cg.D)))))
def Wh.LY (x:af7):Option (af7⊕amL):=
 let Bf:=x.1.1
 let OL:=x.1.2.2.1
 let Eu:=x.2.1.2
 let DE:=x.2.2.1.2
 let AO:=x.2.2.2.1
 let CC:=x.2.2.2.2
 let BP:Int:=(↑(List.length AO):Int)
 bif decide (Bf<BP) then
  let tn:Int:=((List.getD AO (Int.toNat Bf) (0,0,0,0,false,())).2).1
  let CJ:=bif tn==OL then((((List.getD AO (Int.toNat Bf) (0,0,0,0,false,())).2).2).2).1==0 else false
  bif kL [!tn==OL || decide (0≤Bf),!tn==OL || decide (Bf<BP),decide (0≤Bf),decide (Bf<BP)] then
   bif CJ then
    let Bh:List (cg.D):=List.set AO (Int.toNat Bf) (0,0,0,0,false,())
    bif kL [decide (0≤Bf),decide (Bf<BP)] then
     some (.inl (((IntKind.wrap .i64 (Bf+1)),(),OL,()),((),Eu),((),DE),Bh,CC))
    else none
   else
    some (.inl (((IntKind.wrap .i64 (Bf+1)),(),OL,()),((),Eu),((),DE),AO,CC))
  else none
 else
  some (.inr (((),()),((),DE),((),Eu),CC,AO))
def Wh.af8:(((Unit)×(Unit))×(((Unit)×((Int)×(Unit)))×((Unit)×((Int)×(Unit)))×(List (cg.D))×(List (cg.D)))):=default
def Wh.q88 (xs:(je.D)×(Int)):Option ((((List (cg.D))×((Int)×(Unit))))×(Unit)):=
 let g9:=xs.1
 let OK:=xs.2
 dj FN g9 fun r_2=>
  iL LY af8 (((0,(),OK,()),((),r_2.1.2),((),0,()),r_2.1.1,[])) fun Mh=>
   let AK:=Mh.2.2.1.2
   let nE:=Mh.2.2.2.2
   some ((nE,AK),())
def Wh.IM (xs:(b7.D)×(Int)×(List UInt8)):Option (((b7.D)×(Int))×(Unit)):=
 let c9:=xs.1
 let AW:=xs.2.1
 let C9:=xs.2.2
 dj FJ c9 fun r_3=>
  bif !r_3.1 then
   some (((false,0,[],(0,[],()),([],0,()),[],[],()),1),())
  else
   dj E9 c9 fun e_=>
    dj DU (c9.2.2.2.1,AW,C9) fun ic=>
     bif(!c9.1) then
      some ((e_.1,1),())
     else
      bif(!ic.1.2) then
       some ((e_.1,3),())
      else
       b8 (zog EE (AW,C9,[])) fun Bd=>
       b8 (zog Fy (e_.1,Bd.1)) fun w9=>
       bif kL [qu (Fy (e_.1,Bd.1)),qu (EE (AW,C9,[]))] then
        bif(w9.1.2==0) then
         dj q88 (w9.1.1.2.2.2.2.1,ic.1.1.2.2.1) fun Kq=>
          some (((w9.1.1.1,w9.1.1.2.1,w9.1.1.2.2.1,w9.1.1.2.2.2.1,Kq.1,w9.1.1.2.2.2.2.2),w9.1.2),())
        else
         some ((w9.1.1,w9.1.2),())
       else none
def Wh.Gs (xs:(cw.D)×(Int)):Option (((cw.D))×(Unit)):=
 let BF:=xs.1
 let Pr:=xs.2
 let BV:=IntKind.wrap .i64 (BF.1+IntKind.wrap .i64 (BF.2.2.1*IntKind.wrap .i64 (Pr-BF.2.2.2.1)))
 bif decide (BV>BF.2.1) then
  some ((BF.2.1,BF.2.1,BF.2.2.1,Pr,BF.2.2.2.2),())
 else
  some ((BV,BF.2.1,BF.2.2.1,Pr,BF.2.2.2.2),())
def Wh.EB (xs:(cp.D)):Option (((Bp.D))×(Unit)):=
 let v_0:cp.D:=xs
 some ((v_0.1,(IntKind.wrap .i64 (3-v_0.2.2.2.2.1)),v_0.2.2.2.2.2.1,()),())
abbrev Wh.af5:Type:=((Int)×(Int)×(List (Bp.D))×(Int))×(Unit)
abbrev Wh.amK:Type:=(((Int)×(Unit))⊕((Int)×(Unit)))
def Wh.Km (x:af5):Option (af5⊕amK):=
 let Bf:=x.1.1
 let HU:=x.1.2.1
 let MS:=x.1.2.2.1
 let Li:=x.1.2.2.2
 let nT:Int:=(↑(List.length MS):Int)
 bif decide (Bf<nT) then
  let JG:=List.getD MS (Int.toNat Bf) (0,0,0,())
  bif kL [decide (0≤Bf),decide (Bf<nT)] then
   b8 (zog g8 (JG.2.1,0,99999)) fun DI=>
   b8 (zog g8 (JG.2.2.1,0,Li)) fun IY=>
   let CJ:=bif bif !DI.1 then true else !IY.1 then true else decide (Li>99999)
   bif kL [!!!DI.1 || qu (g8 (JG.2.2.1,0,Li)),qu (g8 (JG.2.1,0,99999))] then
    bif CJ then
     some (.inr (.inl (-1,())))
    else
     let B3:=decide (HU<0)
     let I9:=bif B3 then true else decide (IntKind.wrap .i64 (IntKind.wrap .i64 (JG.2.1+Li)-JG.2.2.1)>IntKind.wrap .i64 (IntKind.wrap .i64 (((List.getD MS (Int.toNat HU) (0,0,0,())).2).1+Li)-(((List.getD MS (Int.toNat HU) (0,0,0,())).2).2).1))
     bif kL [!!B3 || decide (0≤HU),!!B3 || decide (HU<nT),!!B3 || decide (0≤HU),!!B3 || decide (HU<nT)] then
      bif I9 then
       some (.inl (((IntKind.wrap .i64 (Bf+1)),Bf,MS,Li),()))
      else
       some (.inl (((IntKind.wrap .i64 (Bf+1)),HU,MS,Li),()))
     else none
   else none
  else none
 else
  some (.inr (.inr (HU,())))
def Wh.af6:((Int)×(Unit))⊕((Int)×(Unit)):=.inl default
def Wh.q84 (xs:(List (Bp.D))×(Int)):Option ((Int)×(Unit)):=
 let K6:=xs.1
 let Pr:=xs.2
 iL Km af6 (((0,-1,K6,Pr),())) fun q_=>
  sumC q_ (fun y_35=>
   let EK:=y_35.1
   some (EK,())) (fun z_36=>
   let ahl:=z_36.1
   some (ahl,()))
abbrev Wh.aga:Type:=((Int)×(Unit)×(Unit)×(Int))×((b7.D)×(List (Bp.D)))
abbrev Wh.amN:Type:=((((Int)×(Unit)×(Unit))×((List (Bp.D))×(b7.D))))
def Wh.Ko (x:aga):Option (aga⊕amN):=
 let Jq:=x.1.1
 let Oz:=x.1.2.2.2
 let AO:=x.2.1
 let CC:=x.2.2
 let BP:Int:=(↑(List.length (AO.2.2.2.2.2.2.1)):Int)
 bif decide (Jq<BP) then
  let tn:cp.D:=List.getD (AO.2.2.2.2.2.2.1) (Int.toNat Jq) (0,0,0,0,0,0,())
  b8 (zog BX Oz) fun Nm=>
  b8 (zog BX tn.1) fun r_29=>
  bif kL [qu (BX Oz),qu (BX tn.1),decide (0≤Jq),decide (Jq<BP)] then
   bif(r_29.1==Nm.1) then
    b8 (zog EB tn) fun L0=>
    let Az:=CC ++ [L0.1]
    bif kL [decide (List.length CC+(1:Nat)≤eV),qu (EB tn),decide (0≤Jq),decide (Jq<BP)] then
     some (.inl (((IntKind.wrap .i64 (Jq+1)),(),(),Oz),AO,Az))
    else none
   else
    some (.inl (((IntKind.wrap .i64 (Jq+1)),(),(),Oz),AO,CC))
  else none
 else
  some (.inr ((Oz,(),()),CC,AO))
def Wh.agb:(((Int)×(Unit)×(Unit))×((List (Bp.D))×(b7.D))):=default
def Wh.Gy (xs:(b7.D)×(Int)):Option ((Bool)×(Unit)):=
 let c9:=xs.1
 let Oy:=xs.2
 iL Ko agb (((0,(),(),Oy),c9,[])) fun y_39=>
  let ahw:=y_39.1.1
  let AE:=y_39.2.1
  let AF:=y_39.2.2
  dj q84 (AE,AF.2.1) fun EI=>
   let HG:=decide (EI.1≥0)
   let Ma:=bif HG then(List.getD AE (Int.toNat EI.1) (0,0,0,())).1==ahw else false
   bif kL [!HG || decide (0≤EI.1),!HG || decide (EI.1<(↑(List.length AE):Int))] then
    some (Ma,())
   else none
abbrev Wh.agc:Type:=((Int)×(Unit)×(Unit))×((List (Bp.D))×(b7.D))
abbrev Wh.amO:Type:=(((Unit)×((List (Bp.D)))))
def Wh.Hx (x:agc):Option (agc⊕amO):=
 let Jr:=x.1.1
 let By:=x.2.1
 let s9:=x.2.2
 let CJ:Int:=(↑(List.length (s9.2.2.2.2.2.2.1)):Int)
 bif decide (Jr<CJ) then
  let w8:cp.D:=List.getD (s9.2.2.2.2.2.2.1) (Int.toNat Jr) (0,0,0,0,0,0,())
  bif kL [decide (0≤Jr),decide (Jr<CJ)] then
   dj FH (s9.2.2.2.1,w8.2.2.1) fun CV=>
    bif CV.1.2 then
     b8 (zog BW (↑(List.length (CV.1.1.2.2.2.1)):Int)) fun L0=>
     let FR:Int:=(↑(List.length (CV.1.1.2.2.2.1)):Int)
     bif kL [qu (BW FR)] then
      b8 (zog Gy (s9,w8.1)) fun DJ=>
      b8 (zog BX w8.1) fun GB=>
      let EK:=bif DJ.1 then decide ((List.getD (s9.2.2.2.2.2.1) (Int.toNat GB.1) (0,0,0,0,())).1≥L0.1.2.1) else false
      bif kL [!DJ.1 || decide (0≤GB.1),!DJ.1 || decide (GB.1<(↑(List.length (s9.2.2.2.2.2.1)):Int)),!DJ.1 || qu (BX w8.1),qu (Gy (s9,w8.1))] then
       bif EK then
        b8 (zog EB w8) fun IZ=>
        let AP:=By ++ [IZ.1]
        bif kL [decide (List.length By+(1:Nat)≤eV),qu (EB w8)] then
         some (.inl (((IntKind.wrap .i64 (Jr+1)),(),()),AP,s9))
        else none
       else
        some (.inl (((IntKind.wrap .i64 (Jr+1)),(),()),By,s9))
      else none
     else none
    else
     b8 (zog Gy (s9,w8.1)) fun EI=>
     b8 (zog BX w8.1) fun No=>
     let v_45:=bif EI.1 then decide ((List.getD (s9.2.2.2.2.2.1) (Int.toNat No.1) (0,0,0,0,())).1≥0) else false
     bif kL [!EI.1 || decide (0≤No.1),!EI.1 || decide (No.1<(↑(List.length (s9.2.2.2.2.2.1)):Int)),!EI.1 || qu (BX w8.1),qu (Gy (s9,w8.1))] then
      bif v_45 then
       b8 (zog EB w8) fun PU=>
       let qe:=By ++ [PU.1]
       bif kL [decide (List.length By+(1:Nat)≤eV),qu (EB w8)] then
        some (.inl (((IntKind.wrap .i64 (Jr+1)),(),()),qe,s9))
       else none
      else
       some (.inl (((IntKind.wrap .i64 (Jr+1)),(),()),By,s9))
     else none
  else none
 else
  some (.inr ((),By))
def Wh.agd:((Unit)×((List (Bp.D)))):=default
def Wh.q95 (xs:(b7.D)):Option (((List (Bp.D)))×(Unit)):=
 let c9:b7.D:=xs
 iL Hx agd (((0,(),()),[],c9)) fun y_52=>
  let Ax:=y_52.2
  some (Ax,())
abbrev Wh.af9:Type:=((Int)×(Int)×(Unit)×(Int))×((je.D))
abbrev Wh.amM:Type:=(((Int)×(Unit))⊕((Unit)×(Unit)))
def Wh.Kn (x:af9):Option (af9⊕amM):=
 let zP:=x.1.1
 let Z4:=x.1.2.1
 let Sy:=x.1.2.2.2
 let we:=x.2
 let s5:Int:=(↑(List.length we.1):Int)
 bif decide (zP<s5) then
  let mb:cg.D:=List.getD we.1 (Int.toNat zP) (0,0,0,0,false,())
  let r_:=bif mb.2.1==Sy then mb.2.2.1==Z4 else false
  bif kL [!mb.2.1==Sy || decide (0≤zP),!mb.2.1==Sy || decide (zP<s5),decide (0≤zP),decide (zP<s5)] then
   bif r_ then
    some (.inr (.inl (zP,())))
   else
    some (.inl (((IntKind.wrap .i64 (zP+1)),Z4,(),Sy),we))
  else none
 else
  some (.inr (.inr ((),())))
def Wh.af_:((Int)×(Unit))⊕((Unit)×(Unit)):=.inl default
def Wh.q89 (xs:(je.D)×(Int)×(Int)):Option ((Int)×(Unit)):=
 let g9:=xs.1
 let OK:=xs.2.1
 let ahn:=xs.2.2
 iL Kn af_ (((0,ahn,(),OK),g9)) fun q_=>
  sumC q_ (fun KG=>
   let v5:=KG.1
   some (v5,())) (fun _=>
   some (-1,()))
abbrev Wh.afn:Type:=((Int)×(Unit)×(Unit)×(Int)×(Bool))×(((Unit)×((Int)×(Unit)))×((Unit)×((Int)×(Unit)))×(List (cg.D))×(List (cg.D)))
abbrev Wh.amo:Type:=((((Unit)×(Int))×(((Unit)×((Int)×(Unit)))×(List (cg.D))))⊕(((Unit)×(Unit))×(((Unit)×((Int)×(Unit)))×((Unit)×((Int)×(Unit)))×(List (cg.D))×(List (cg.D)))))
def Wh.Kh (x:afn):Option (afn⊕amo):=
 let Tl:=x.1.1
 let SQ:=x.1.2.2.2.1
 let Tq:=x.1.2.2.2.2
 let A_:=x.2.1.2
 let BU:=x.2.2.1.2
 let By:=x.2.2.2.1
 let s9:=x.2.2.2.2
 bif decide (Tl<17) then
  let EZ:cg.D:=List.getD By (Int.toNat A_.1) (0,0,0,0,false,())
  bif kL [decide (0≤A_.1),decide (A_.1<(↑(List.length By):Int))] then
   let Bi:Int:=Int.tmod (IntKind.wrap .i64 (A_.1+1)) 8
   let Cf:=bif Tq then bif EZ.2.1==0 then true else EZ.1 != SQ else false
   bif Cf then
    some (.inl (((IntKind.wrap .i64 (Tl+1)),(),(),SQ,Tq),((),Bi,A_.2),((),BU),By,s9))
   else
    bif decide (EZ.2.2.2.1>0) then
     some (.inl (((IntKind.wrap .i64 (Tl+1)),(),(),SQ,Tq),((),Bi,A_.2),((),BU),By,s9))
    else
     bif EZ.2.2.2.2.1 then
      let Bj:List (cg.D):=List.set By (Int.toNat A_.1) (EZ.1,EZ.2.1,EZ.2.2.1,EZ.2.2.2.1,false,EZ.2.2.2.2.2)
      bif kL [decide (0≤A_.1),decide (A_.1<(↑(List.length By):Int))] then
       some (.inl (((IntKind.wrap .i64 (Tl+1)),(),(),SQ,Tq),((),Bi,A_.2),((),BU),Bj,s9))
      else none
     else
      some (.inr (.inl (((),A_.1),((),Bi,A_.2),By)))
  else none
 else
  some (.inr (.inr (((),()),((),BU),((),A_),s9,By)))
def Wh.afo:(((Unit)×(Int))×(((Unit)×((Int)×(Unit)))×(List (cg.D))))⊕(((Unit)×(Unit))×(((Unit)×((Int)×(Unit)))×((Unit)×((Int)×(Unit)))×(List (cg.D))×(List (cg.D)))):=.inl default
def Wh.q44 (xs:((List (cg.D))×((Int)×(Unit)))×(Int)):Option ((((List (cg.D))×((Int)×(Unit)))×(Int))×(Unit)):=
 let g9:=xs.1
 let AW:=xs.2
 dj J6 (g9,AW) fun r_2=>
  iL Kh afo (((0,(),(),AW,(decide (r_2.1≥5))),((),g9.2),((),0,()),g9.1,[])) fun q_=>
   sumC q_ (fun y_40=>
    let L_:=y_40.1.2
    let nI:=y_40.2.1.2
    let x3:=y_40.2.2
    some (((x3,nI),L_),())) (fun z_41=>
    let wX:=z_41.2.2.1.2
    let qe:=z_41.2.2.2.2
    some (((qe,wX),-1),()))
def Wh.Hw (xs:(je.D)×(Int)×(Int)×(Int)):Option ((((List (cg.D))×((Int)×(Unit)))×(Int)×(Int))×(Unit)):=
 let g9:=xs.1
 let AW:=xs.2.1
 let Sz:=xs.2.2.1
 let Z5:=xs.2.2.2
 dj FN g9 fun e_=>
  dj q89 (e_.1,Sz,Z5) fun ic=>
   bif decide (ic.1≥0) then
    let nP:Int:=((((List.getD e_.1.1 (Int.toNat ic.1) (0,0,0,0,false,())).2).2).2).1
    let Cw:=bif decide (nP≥99999) then true else(List.getD e_.1.1 (Int.toNat ic.1) (0,0,0,0,false,())).1 != AW
    bif kL [!!decide (nP≥99999) || decide (0≤ic.1),!!decide (nP≥99999) || decide (ic.1<(↑(List.length e_.1.1):Int)),decide (0≤ic.1),decide (ic.1<(↑(List.length e_.1.1):Int))] then
     bif Cw then
      bif kL [qu (FN g9)] then
       some ((e_.1,0,3),())
      else none
     else
      let Lj:List (cg.D):=List.set e_.1.1 (Int.toNat ic.1) ((List.getD e_.1.1 (Int.toNat ic.1) (0,0,0,0,false,())).1,((List.getD e_.1.1 (Int.toNat ic.1) (0,0,0,0,false,())).2).1,(((List.getD e_.1.1 (Int.toNat ic.1) (0,0,0,0,false,())).2).2).1,IntKind.wrap .i64 (nP+1),((((List.getD e_.1.1 (Int.toNat ic.1) (0,0,0,0,false,())).2).2).2).2)
      bif kL [decide (0≤ic.1),decide (ic.1<(↑(List.length e_.1.1):Int)),decide (0≤ic.1),decide (ic.1<(↑(List.length e_.1.1):Int))] then
       let X1:List (cg.D):=List.set Lj (Int.toNat ic.1) ((List.getD Lj (Int.toNat ic.1) (0,0,0,0,false,())).1,((List.getD Lj (Int.toNat ic.1) (0,0,0,0,false,())).2).1,(((List.getD Lj (Int.toNat ic.1) (0,0,0,0,false,())).2).2).1,((((List.getD Lj (Int.toNat ic.1) (0,0,0,0,false,())).2).2).2).1,true,(((((List.getD Lj (Int.toNat ic.1) (0,0,0,0,false,())).2).2).2).2).2)
       bif kL [decide (0≤ic.1),decide (ic.1<(↑(List.length Lj):Int))] then
        some (((X1,e_.1.2),ic.1,0),())
       else none
      else none
    else none
   else
    dj q44 (e_.1,AW) fun BY=>
     bif decide (BY.1.2<0) then
      bif kL [qu (FN g9)] then
       some ((e_.1,0,2),())
      else none
     else
      let Pv:List (cg.D):=List.set (BY.1.1.1) (Int.toNat BY.1.2) (AW,Sz,Z5,1,true,())
      bif kL [decide (0≤BY.1.2),decide (BY.1.2<(↑(List.length (BY.1.1.1)):Int))] then
       some (((Pv,BY.1.1.2),BY.1.2,1),())
      else none
def Wh.q86 (xs:(je.D)×(Int)):Option ((((List (cg.D))×((Int)×(Unit)))×(Bool))×(Unit)):=
 let g9:=xs.1
 let D6:=xs.2
 dj G_ g9 fun r_2=>
  bif !r_2.1 then
   some ((([],0,()),false),())
  else
   dj FN g9 fun r_3=>
    b8 (zog g8 (D6,0,7)) fun e_=>
    let n_:=bif !e_.1 then true else((((List.getD r_3.1.1 (Int.toNat D6) (0,0,0,0,false,())).2).2).2).1==0
    bif kL [!!!e_.1 || decide (0≤D6),!!!e_.1 || decide (D6<(↑(List.length r_3.1.1):Int)),qu (g8 (D6,0,7))] then
     bif n_ then
      some ((r_3.1,false),())
     else
      let Py:List (cg.D):=List.set r_3.1.1 (Int.toNat D6) ((List.getD r_3.1.1 (Int.toNat D6) (0,0,0,0,false,())).1,((List.getD r_3.1.1 (Int.toNat D6) (0,0,0,0,false,())).2).1,(((List.getD r_3.1.1 (Int.toNat D6) (0,0,0,0,false,())).2).2).1,IntKind.wrap .i64 (((((List.getD r_3.1.1 (Int.toNat D6) (0,0,0,0,false,())).2).2).2).1-1),((((List.getD r_3.1.1 (Int.toNat D6) (0,0,0,0,false,())).2).2).2).2)
      bif kL [decide (0≤D6),decide (D6<(↑(List.length r_3.1.1):Int)),decide (0≤D6),decide (D6<(↑(List.length r_3.1.1):Int))] then
       some (((Py,r_3.1.2),true),())
      else none
    else none
abbrev Wh.aeY:Type:=((Int)×(Unit)×(List UInt8)×(Unit))×((g7.D)×(List (List UInt8)))
abbrev Wh.amc:Type:=(((Unit)×((List (List UInt8)))))
def Wh.LM (x:aeY):Option (aeY⊕amc):=
 let MN:=x.1.1
 let Wg:=x.1.2.2.1
 let BJ:=x.2.1
 let A_:=x.2.2
 dj Bc BJ fun IY=>
  bif decide (MN<IY.1) then
   let pb_28:List (List UInt8):=[List.take (Int.toNat (IntKind.wrap .i64 (IntKind.wrap .i64 (MN+1)*BJ.2.1)-IntKind.wrap .i64 (MN*BJ.2.1))) (List.drop (Int.toNat (IntKind.wrap .i64 (MN*BJ.2.1))) Wg)]
   let CQ:List (List UInt8):=A_++pb_28
   let B3:=IntKind.wrap .i64 (MN*BJ.2.1)
   let I9:=IntKind.wrap .i64 (MN+1)
   bif kL [decide (List.length A_+(1:Nat)≤eV),decide (0≤B3),decide (B3≤IntKind.wrap .i64 (I9*BJ.2.1)),decide (IntKind.wrap .i64 (I9*BJ.2.1)≤(↑(List.length Wg):Int))] then
    some (.inl ((I9,(),Wg,()),BJ,CQ))
   else none
  else
   some (.inr ((),A_))
def Wh.aeZ:((Unit)×((List (List UInt8)))):=default
def Wh.Kc (xs:(g7.D)×(List UInt8)):Option (((List (List UInt8)))×(Unit)):=
 let g9:=xs.1
 let Un:=xs.2
 b8 (zog Bc g9) fun r_2=>
 b8 (zog Iy (IntKind.wrap .i64 (IntKind.wrap .i64 (r_2.1*g9.2.1)-(↑(List.length Un):Int)))) fun Bd=>
 let all_9:List UInt8:=Un++Bd.1
 bif kL [decide (List.length Un+List.length (Bd.1)≤eV),qu (Iy (IntKind.wrap .i64 (IntKind.wrap .i64 (r_2.1*g9.2.1)-(↑(List.length Un):Int)))),qu (Bc g9)] then
  iL LM aeZ (((0,(),all_9,()),g9,[])) fun y_35=>
   let AK:=y_35.2
   some (AK,())
 else none
abbrev Wh.aeK:Type:=((Int)×(List (Int))×(List (List UInt8))×(List UInt8))×(Unit)
abbrev Wh.al6:Type:=((((List UInt8))×(Unit)))
def Wh.LI (x:aeK):Option (aeK⊕al6):=
 let Av:=x.1.1
 let Yq:=x.1.2.1
 let So:=x.1.2.2.1
 let XV:=x.1.2.2.2
 let xb:=decide (Av<(↑(List.length Yq):Int))
 bif xb then
  let mb:=List.getD Yq (Int.toNat Av) 0
  b8 (zog Fw (XV,List.getD So (Int.toNat mb) [])) fun LZ=>
  bif kL [qu (Fw (XV,List.getD So (Int.toNat mb) [])),decide (0≤mb),decide (mb<(↑(List.length So):Int)),decide (0≤Av),xb] then
   some (.inl (((IntKind.wrap .i64 (Av+1)),Yq,So,LZ.1),()))
  else none
 else
  some (.inr (XV,()))
def Wh.aeL:(((List UInt8))×(Unit)):=default
def Wh.IJ (xs:(List (List UInt8))×(List (Int))×(Int)):Option (((List UInt8))×(Unit)):=
 let aho:=xs.1
 let T8:=xs.2.1
 let size_2:=xs.2.2
 dj JX (tv [(0:Int)],size_2) fun r_3=>
  iL LI aeL (((0,T8,aho,r_3.1),())) fun Ff=>
   let out_28:=Ff.1
   some (out_28,())
abbrev Wh.agh:Type:=((Int)×(Unit)×(Unit)×(Unit)×(Unit)×(Unit)×(Unit)×(Int))×(((Bool)×((Int)×((List UInt8)×(((Int)×((Unit)×(Unit)))×(((Unit)×((Int)×(Unit)))×((Unit)×((Unit)×(Unit))))))))×(List (Int))×(an.D)×((Bool)×((Int)×((List UInt8)×(((Int)×((Unit)×(Unit)))×(((Unit)×((Int)×(Unit)))×((Unit)×((Unit)×(Unit))))))))×((Int)×((Int)×((Unit)×((Unit)×(Unit)))))×(cp.D)×(List (an.D))×(List (cg.D))×(List (cw.D))×(List (cp.D))×(List (an.D))×(List (cg.D))×(List (cw.D))×(List (cp.D))×(List (Int))×(List (Int)))
abbrev Wh.amQ:Type:=((((Unit)×(Unit)×(Unit)×(Unit)×(Unit)×(Unit)×(Int))×(((Bool)×((Int)×((List UInt8)×(((Int)×((Unit)×(Unit)))×(((Unit)×((Int)×(Unit)))×((Unit)×((Unit)×(Unit))))))))×((Int)×((Int)×((Unit)×((Unit)×(Unit)))))×(List (Int))×(an.D)×(cp.D)×((Bool)×((Int)×((List UInt8)×(((Int)×((Unit)×(Unit)))×(((Unit)×((Int)×(Unit)))×((Unit)×((Unit)×(Unit))))))))×(List (an.D))×(List (cg.D))×(List (cw.D))×(List (cp.D))×(List (Int))×(List (Int))×(List (an.D))×(List (cg.D))×(List (cw.D))×(List (cp.D)))))
def Wh.Nk (x:agh):Option (agh⊕amQ):=
 let De:=x.1.1
 let k_48:=x.1.2.2.2.2.2.2.2
 let z4:=x.2.1.1
 let nG:=x.2.1.2.1
 let wh:=x.2.1.2.2.1
 let s_:=x.2.1.2.2.2.1.1
 let Ax:=x.2.1.2.2.2.1.2.2
 let AR:=x.2.1.2.2.2.2.1.2
 let AG:=x.2.1.2.2.2.2.2.2.2
 let nS:=x.2.2.1
 let AA:=x.2.2.2.1
 let Cl:=x.2.2.2.2.1.1
 let Cb:=x.2.2.2.2.1.2.1
 let Ba:=x.2.2.2.2.1.2.2.1
 let BK:=x.2.2.2.2.1.2.2.2.1.1
 let Cc:=x.2.2.2.2.1.2.2.2.1.2.2
 let Bb:=x.2.2.2.2.1.2.2.2.2.1.2
 let AU:=x.2.2.2.2.1.2.2.2.2.2.2.2
 let BL:=x.2.2.2.2.2.1.1
 let CR:=x.2.2.2.2.2.1.2.1
 let BA:=x.2.2.2.2.2.1.2.2.2.2
 let Cr:=x.2.2.2.2.2.2.1
 let EU:=x.2.2.2.2.2.2.2.1
 let Dh:=x.2.2.2.2.2.2.2.2.1
 let Bk:=x.2.2.2.2.2.2.2.2.2.1
 let AY:=x.2.2.2.2.2.2.2.2.2.2.1
 let CD:=x.2.2.2.2.2.2.2.2.2.2.2.1
 let Cd:=x.2.2.2.2.2.2.2.2.2.2.2.2.1
 let Cs:=x.2.2.2.2.2.2.2.2.2.2.2.2.2.1
 let CS:=x.2.2.2.2.2.2.2.2.2.2.2.2.2.2.1
 let Bl:=x.2.2.2.2.2.2.2.2.2.2.2.2.2.2.2.1
 let Ev:=x.2.2.2.2.2.2.2.2.2.2.2.2.2.2.2.2
 let v_79:=decide (De<(↑(List.length nS):Int))
 bif v_79 then
  b8 (zog Hw ((Dh,AR),AA.1,AA.2.2.1,List.getD nS (Int.toNat De) 0)) fun T4=>
  let v_81:=List.getD nS (Int.toNat De) 0
  bif kL [qu (Hw ((Dh,AR),AA.1,AA.2.2.1,v_81)),decide (0≤De),v_79] then
   let Jd:=bif(T4.1.2.2==0) then true else T4.1.2.2==1
   bif Jd then
    dj q86 (T4.1.1,T4.1.2.1) fun r_84=>
     some (.inl (((IntKind.wrap .i64 (De+1)),(),(),(),(),(),(),k_48),(z4,nG,wh,(s_,(),Ax),((),r_84.1.1.2),(),(),AG),nS,AA,(Cl,Cb,Ba,(BK,(),Cc),((),Bb),(),(),AU),(BL,CR,(),(),BA),Cr,EU,r_84.1.1.1,Bk,AY,CD,Cd,Cs,CS,Bl,Ev))
   else
    some (.inl (((IntKind.wrap .i64 (De+1)),(),(),(),(),(),(),k_48),(z4,nG,wh,(s_,(),Ax),((),AR),(),(),AG),nS,AA,(Cl,Cb,Ba,(BK,(),Cc),((),Bb),(),(),AU),(BL,CR,(),(),BA),Cr,EU,Dh,Bk,AY,CD,Cd,Cs,CS,Bl,Ev))
  else none
 else
  some (.inr (((),(),(),(),(),(),k_48),(Cl,Cb,Ba,(BK,(),Cc),((),Bb),(),(),AU),(BL,CR,(),(),BA),nS,AA,Cr,(z4,nG,wh,(s_,(),Ax),((),AR),(),(),AG),CD,Cd,Cs,CS,Bl,Ev,EU,Dh,Bk,AY))
def Wh.agi:(((Unit)×(Unit)×(Unit)×(Unit)×(Unit)×(Unit)×(Int))×(((Bool)×((Int)×((List UInt8)×(((Int)×((Unit)×(Unit)))×(((Unit)×((Int)×(Unit)))×((Unit)×((Unit)×(Unit))))))))×((Int)×((Int)×((Unit)×((Unit)×(Unit)))))×(List (Int))×(an.D)×(cp.D)×((Bool)×((Int)×((List UInt8)×(((Int)×((Unit)×(Unit)))×(((Unit)×((Int)×(Unit)))×((Unit)×((Unit)×(Unit))))))))×(List (an.D))×(List (cg.D))×(List (cw.D))×(List (cp.D))×(List (Int))×(List (Int))×(List (an.D))×(List (cg.D))×(List (cw.D))×(List (cp.D)))):=(default,(default,default,default,default,default,default,default,default,default,default,default,default,default,default,default,default))
def Wh.q99 (xs:((Bool)×((Int)×((List UInt8)×(((Int)×((List (an.D))×(Unit)))×(((List (cg.D))×((Int)×(Unit)))×((List (cw.D))×((List (cp.D))×(Unit))))))))×(Int)×(an.D)):Option ((((Bool)×((Int)×((List UInt8)×(((Int)×((List (an.D))×(Unit)))×(((List (cg.D))×((Int)×(Unit)))×((List (cw.D))×((List (cp.D))×(Unit))))))))×(List (eL.D)))×(Unit)):=
 let c9:=xs.1
 let k_1:=xs.2.1
 let t_2:=xs.2.2
 let Dm:cp.D:=List.getD (c9.2.2.2.2.2.2.1) (Int.toNat k_1) (0,0,0,0,0,0,())
 bif kL [decide (0≤k_1),decide (k_1<(↑(List.length (c9.2.2.2.2.2.2.1)):Int))] then
  b8 (zog BW (↑(List.length (t_2.2.2.2.1)):Int)) fun e_=>
  let n_:Int:=(↑(List.length (t_2.2.2.2.1)):Int)
  bif kL [qu (BW n_)] then
   dj E8 (e_.1,Dm.2.2.2.1) fun n5=>
    iL Nk agi (((0,(),(),(),(),(),(),k_1),(c9.1,c9.2.1,c9.2.2.1,(c9.2.2.2.1.1,(),c9.2.2.2.1.2.2),((),c9.2.2.2.2.1.2),(),(),c9.2.2.2.2.2.2.2),n5.1,t_2,(false,0,[],(0,(),()),((),0,()),(),(),()),(e_.1.1,e_.1.2.1,(),(),e_.1.2.2.2.2),Dm,c9.2.2.2.1.2.1,c9.2.2.2.2.1.1,c9.2.2.2.2.2.1,c9.2.2.2.2.2.2.1,[],[],[],[],e_.1.2.2.1,e_.1.2.2.2.1)) fun C3=>
     let DR:=C3.1.2.2.2.2.2.2
     let Lf:=C3.2.2.1.1
     let Fv:=C3.2.2.1.2.1
     let Il:=C3.2.2.1.2.2.2.2
     let MT:=C3.2.2.2.1
     let K7:=C3.2.2.2.2.1
     let Df:=C3.2.2.2.2.2.1
     let Ie:=C3.2.2.2.2.2.2.1.1
     let Ay:=C3.2.2.2.2.2.2.1.2.1
     let Er:=C3.2.2.2.2.2.2.1.2.2.1
     let Es:=C3.2.2.2.2.2.2.1.2.2.2.1.1
     let Fu:=C3.2.2.2.2.2.2.1.2.2.2.1.2.2
     let G0:=C3.2.2.2.2.2.2.1.2.2.2.2.1.2
     let Jy:=C3.2.2.2.2.2.2.1.2.2.2.2.2.2.2
     let Ig:=C3.2.2.2.2.2.2.2.2.2.2.2.1
     let F8:=C3.2.2.2.2.2.2.2.2.2.2.2.2.1
     let F9:=C3.2.2.2.2.2.2.2.2.2.2.2.2.2.1
     let Ih:=C3.2.2.2.2.2.2.2.2.2.2.2.2.2.2.1
     let ET:=C3.2.2.2.2.2.2.2.2.2.2.2.2.2.2.2.1
     let Et:=C3.2.2.2.2.2.2.2.2.2.2.2.2.2.2.2.2
     dj BX Df.1 fun IW=>
      let Ii:List (cw.D):=List.set ET (Int.toNat IW.1) (IntKind.wrap .i64 ((List.getD ET (Int.toNat IW.1) (0,0,0,0,())).1-Fv),(List.getD ET (Int.toNat IW.1) (0,0,0,0,())).2)
      bif kL [decide (0≤IW.1),decide (IW.1<(↑(List.length ET):Int)),decide (0≤IW.1),decide (IW.1<(↑(List.length ET):Int))] then
       let Dg:List (cp.D):=List.set Et (Int.toNat DR) ((List.getD Et (Int.toNat DR) (0,0,0,0,0,0,())).1,((List.getD Et (Int.toNat DR) (0,0,0,0,0,0,())).2).1,(((List.getD Et (Int.toNat DR) (0,0,0,0,0,0,())).2).2).1,Int.tmod (IntKind.wrap .i64 (Df.2.2.2.1+1)) 10000,((((List.getD Et (Int.toNat DR) (0,0,0,0,0,0,())).2).2).2).2)
       bif kL [decide (0≤DR),decide (DR<(↑(List.length Et):Int)),true] then
        let JC:List (cp.D):=List.set Dg (Int.toNat DR) ((List.getD Dg (Int.toNat DR) (0,0,0,0,0,0,())).1,((List.getD Dg (Int.toNat DR) (0,0,0,0,0,0,())).2).1,(((List.getD Dg (Int.toNat DR) (0,0,0,0,0,0,())).2).2).1,((((List.getD Dg (Int.toNat DR) (0,0,0,0,0,0,())).2).2).2).1,(((((List.getD Dg (Int.toNat DR) (0,0,0,0,0,0,())).2).2).2).2).1,Ay,((((((List.getD Dg (Int.toNat DR) (0,0,0,0,0,0,())).2).2).2).2).2).2)
        bif kL [decide (0≤DR),decide (DR<(↑(List.length Dg):Int))] then
         b8 (zog Kc ((Lf,Fv,Ig,F8,Il),K7.2.2.2.1)) fun r_128=>
         b8 (zog IJ (r_128.1,MT,Fv)) fun r_129=>
         let pb_130:List (eL.D):=[(3,Df.1,Df.2.1,Df.2.2.1,Df.2.2.2.1,[],r_129.1,())]
         bif kL [qu (IJ (r_128.1,MT,Fv)),qu (Kc ((Lf,Fv,Ig,F8,Il),K7.2.2.2.1))] then
          some (((Ie,Ay,Er,(Es,F9,Fu),(Ih,G0),Ii,JC,Jy),pb_130),())
         else none
        else none
       else none
      else none
  else none
 else none
abbrev Wh.afh:Type:=((Int)×(Unit)×(Unit))×(((Bool)×((Int)×((List UInt8)×(((Int)×((Unit)×(Unit)))×(((Unit)×((Int)×(Unit)))×((Unit)×((Unit)×(Unit))))))))×((Bool)×((Int)×((List UInt8)×(((Int)×((Unit)×(Unit)))×(((Unit)×((Int)×(Unit)))×((Unit)×((Unit)×(Unit))))))))×(List (an.D))×(List (cg.D))×(List (cw.D))×(List (cp.D))×(List (an.D))×(List (cg.D))×(List (cw.D))×(List (cp.D)))
abbrev Wh.aml:Type:=((((Unit)×(Unit))×(((Bool)×((Int)×((List UInt8)×(((Int)×((Unit)×(Unit)))×(((Unit)×((Int)×(Unit)))×((Unit)×((Unit)×(Unit))))))))×((Bool)×((Int)×((List UInt8)×(((Int)×((Unit)×(Unit)))×(((Unit)×((Int)×(Unit)))×((Unit)×((Unit)×(Unit))))))))×(List (an.D))×(List (cg.D))×(List (cw.D))×(List (cp.D))×(List (an.D))×(List (cg.D))×(List (cw.D))×(List (cp.D)))))
def Wh.Nf (x:afh):Option (afh⊕aml):=
 let h_34:=x.1.1
 let nC:=x.2.1.1
 let AK:=x.2.1.2.1
 let Bj:=x.2.1.2.2.1
 let nE:=x.2.1.2.2.2.1.1
 let A6:=x.2.1.2.2.2.1.2.2
 let AP:=x.2.1.2.2.2.2.1.2
 let AE:=x.2.1.2.2.2.2.2.2.2
 let AF:=x.2.2.1.1
 let nI:=x.2.2.1.2.1
 let x3:=x.2.2.1.2.2.1
 let vN:=x.2.2.1.2.2.2.1.1
 let wX:=x.2.2.1.2.2.2.1.2.2
 let AQ:=x.2.2.1.2.2.2.2.1.2
 let qe:=x.2.2.1.2.2.2.2.2.2.2
 let z4:=x.2.2.2.1
 let nG:=x.2.2.2.2.1
 let wh:=x.2.2.2.2.2.1
 let s_:=x.2.2.2.2.2.2.1
 let Ax:=x.2.2.2.2.2.2.2.1
 let AR:=x.2.2.2.2.2.2.2.2.1
 let AG:=x.2.2.2.2.2.2.2.2.2.1
 let nS:=x.2.2.2.2.2.2.2.2.2.2
 bif decide (h_34<2) then
  b8 (zog Gs (List.getD wh (Int.toNat h_34) (0,0,0,0,()),AK)) fun L1=>
  let Cb:List (cw.D):=List.set wh (Int.toNat h_34) L1.1
  let NI:cw.D:=List.getD wh (Int.toNat h_34) (0,0,0,0,())
  bif kL [decide (0≤h_34),decide (h_34<(↑(List.length wh):Int)),qu (Gs (NI,AK)),decide (0≤h_34),decide (h_34<(↑(List.length wh):Int))] then
   some (.inl (((IntKind.wrap .i64 (h_34+1)),(),()),(nC,AK,Bj,(nE,(),A6),((),AP),(),(),AE),(AF,nI,x3,(vN,(),wX),((),AQ),(),(),qe),z4,nG,Cb,s_,Ax,AR,AG,nS))
  else none
 else
  some (.inr (((),()),(AF,nI,x3,(vN,(),wX),((),AQ),(),(),qe),(nC,AK,Bj,(nE,(),A6),((),AP),(),(),AE),Ax,AR,AG,nS,z4,nG,wh,s_))
def Wh.afi:(((Unit)×(Unit))×(((Bool)×((Int)×((List UInt8)×(((Int)×((Unit)×(Unit)))×(((Unit)×((Int)×(Unit)))×((Unit)×((Unit)×(Unit))))))))×((Bool)×((Int)×((List UInt8)×(((Int)×((Unit)×(Unit)))×(((Unit)×((Int)×(Unit)))×((Unit)×((Unit)×(Unit))))))))×(List (an.D))×(List (cg.D))×(List (cw.D))×(List (cp.D))×(List (an.D))×(List (cg.D))×(List (cw.D))×(List (cp.D)))):=default
def Wh.q31 (xs:(b7.D)):Option (((b7.D)×(List (eL.D)))×(Unit)):=
 let c9:b7.D:=xs
 dj FJ c9 fun r_1=>
  bif !r_1.1 then
   some (((false,0,[],(0,[],()),([],0,()),[],[],()),[]),())
  else
   dj E9 c9 fun r_2=>
    let AI:=bif(!c9.1) then true else decide (c9.2.1≥99999)
    bif AI then
     some ((r_2.1,[]),())
    else
     iL Nf afi (((0,(),()),(r_2.1.1,(IntKind.wrap .i64 (c9.2.1+1)),r_2.1.2.2.1,(r_2.1.2.2.2.1.1,(),r_2.1.2.2.2.1.2.2),((),r_2.1.2.2.2.2.1.2),(),(),r_2.1.2.2.2.2.2.2.2),(false,0,[],(0,(),()),((),0,()),(),(),()),r_2.1.2.2.2.1.2.1,r_2.1.2.2.2.2.1.1,r_2.1.2.2.2.2.2.1,r_2.1.2.2.2.2.2.2.1,[],[],[],[])) fun GJ=>
      let Bk:=GJ.2.2.1.1
      let AY:=GJ.2.2.1.2.1
      let CD:=GJ.2.2.1.2.2.1
      let Cd:=GJ.2.2.1.2.2.2.1.1
      let Cs:=GJ.2.2.1.2.2.2.1.2.2
      let CS:=GJ.2.2.1.2.2.2.2.1.2
      let Bl:=GJ.2.2.1.2.2.2.2.2.2.2
      let CT:=GJ.2.2.2.2.2.2.2.1
      let DF:=GJ.2.2.2.2.2.2.2.2.1
      let CU:=GJ.2.2.2.2.2.2.2.2.2.1
      let Dj:=GJ.2.2.2.2.2.2.2.2.2.2
      dj q95 (Bk,AY,CD,(Cd,CT,Cs),(DF,CS),CU,Dj,Bl) fun Np=>
       dj q84 (Np.1,AY) fun Nq=>
        bif decide (Nq.1<0) then
         some (((Bk,AY,CD,(Cd,CT,Cs),(DF,CS),CU,Dj,Bl),[]),())
        else
         let Qi:Int:=(List.getD Np.1 (Int.toNat Nq.1) (0,0,0,())).1
         b8 (zog FC ((Bk,AY,CD,(Cd,CT,Cs),(DF,CS),CU,Dj,Bl),Qi)) fun Kw=>
         bif kL [qu (FC ((Bk,AY,CD,(Cd,CT,Cs),(DF,CS),CU,Dj,Bl),Qi)),decide (0≤Nq.1),decide (Nq.1<(↑(List.length Np.1):Int))] then
          b8 (zog FH ((Cd,CT,Cs),(((List.getD Dj (Int.toNat Kw.1) (0,0,0,0,0,0,())).2).2).1)) fun Nr=>
          let v_93:Int:=(((List.getD Dj (Int.toNat Kw.1) (0,0,0,0,0,0,())).2).2).1
          bif kL [qu (FH ((Cd,CT,Cs),v_93)),decide (0≤Kw.1),decide (Kw.1<(↑(List.length Dj):Int))] then
           bif(!Nr.1.2) then
            let JJ:cp.D:=List.getD Dj (Int.toNat Kw.1) (0,0,0,0,0,0,())
            bif kL [decide (0≤Kw.1),decide (Kw.1<(↑(List.length Dj):Int))] then
             b8 (zog Gv ((Bk,AY,CD,(Cd,CT,Cs),(DF,CS),CU,Dj,Bl),JJ.1)) fun r_96=>
             b8 (zog IV (JJ.1,JJ.2.1,JJ.2.2.1)) fun r_97=>
             bif kL [qu (IV (JJ.1,JJ.2.1,JJ.2.2.1)),qu (Gv ((Bk,AY,CD,(Cd,CT,Cs),(DF,CS),CU,Dj,Bl),JJ.1))] then
              some ((r_96.1,r_97.1),())
             else none
            else none
           else
            dj q99 ((Bk,AY,CD,(Cd,CT,Cs),(DF,CS),CU,Dj,Bl),Kw.1,Nr.1.1) fun r_98=>
             some (r_98.1,())
          else none
         else none
def Wh.q49 (xs:(di.D)):Option (((List UInt8))×(Unit)):=
 let e_0:=xs
 dj EE (e_0.2.1,e_0.2.2.2.1,e_0.2.2.2.2.1) fun r_1=>
  some (r_1.1,())
def Wh.q85 (xs:(List UInt8)×(List UInt8)×(Int)):Option (((List UInt8))×(Unit)):=
 let A5:=xs.1
 let CY:=xs.2.1
 let Ov:=xs.2.2
 dj JW (A5,CY) fun r_3=>
  let n_:=bif(!r_3.1.2) then true else decide (Ov<0)
  bif n_ then
   some (A5,())
  else
   let oc:Int:=(↑(List.length r_3.1.1):Int)
   bif(decide (Ov>IntKind.wrap .i64 (oc-(↑(List.length A5):Int)))) then
    some (r_3.1.1,())
   else
    let A3:=IntKind.wrap .i64 ((↑(List.length A5):Int)+Ov)
    let CH:List UInt8:=List.take (Int.toNat (A3-0)) (List.drop (Int.toNat 0) r_3.1.1)
    bif kL [true,decide (0≤A3),decide (A3≤oc)] then
     some (CH,())
    else none
def Wh.IL (xs:(b7.D)×(List UInt8)×(Int)):Option (((b7.D))×(Unit)):=
 let c9:=xs.1
 let CY:=xs.2.1
 let Ov:=xs.2.2
 dj FJ c9 fun r_3=>
  bif !r_3.1 then
   some ((false,0,[],(0,[],()),([],0,()),[],[],()),())
  else
   dj FA (c9.2.2.2.1,CY) fun e_=>
    let n_:=bif c9.1 then e_.1.2 else false
    bif n_ then
     dj q85 (c9.2.2.1,CY,Ov) fun n5=>
      some ((false,c9.2.1,n5.1,(0,[],()),([],0,()),[],[],()),())
    else
     some ((false,c9.2.1,c9.2.2.1,(0,[],()),([],0,()),[],[],()),())
def Wh.q29 (xs:(b7.D)):Option (((b7.D))×(Unit)):=
 let c9:b7.D:=xs
 dj FJ c9 fun r_1=>
  bif !r_1.1 then
   some ((false,0,[],(0,[],()),([],0,()),[],[],()),())
  else
   bif c9.1 then
    dj E9 c9 fun r_2=>
     some (r_2.1,())
   else
    dj E5 (c9.2.2.1) fun r_3=>
     dj IF r_3.1.1 fun e_=>
      b8 (zog He ()) fun ic=>
      b8 (zog Hr c9.2.1) fun n5=>
      let Lm:List UInt8:=List.take (Int.toNat (r_3.1.2-0)) (List.drop (Int.toNat 0) (c9.2.2.1))
      bif kL [qu (Hr c9.2.1),qu (He ()),true,decide (0≤r_3.1.2),decide (r_3.1.2≤(↑(List.length (c9.2.2.1)):Int))] then
       some ((true,c9.2.1,Lm,e_.1.1,ic.1,n5.1,[],()),())
      else none
def Wh.q50 (xs:((b7.D)×((List (bn.D))×((List (b9.D))×((List (an.D))×(Unit)))))×(di.D)):Option ((((b7.D)×((List (bn.D))×((List (b9.D))×((List (an.D))×(Unit)))))×(Bool))×(Unit)):=
 let w_0:=xs.1
 let e_1:=xs.2
 bif(e_1.1==1) then
  dj q41 (w_0.1,e_1.2.1,e_1.2.2.2.1,e_1.2.2.2.2.1) fun r_3=>
   dj JR (r_3.1.1,w_0.2) fun e_=>
    some ((e_.1,(r_3.1.2==0)),())
 else
  bif(e_1.1==2) then
   dj IM (w_0.1,e_1.2.1,e_1.2.2.2.1) fun AL=>
    some (((AL.1.1,w_0.2),(AL.1.2==0)),())
  else
   bif(e_1.1==6) then
    dj q31 w_0.1 fun A1=>
     dj Gm ((A1.1.1,w_0.2),-1,A1.1.2) fun Ce=>
      some ((Ce.1,(decide (A1.1.1.2.1>w_0.1.2.1))),())
   else
    bif(e_1.1==11) then
     b8 (zog q49 e_1) fun BY=>
     b8 (zog IL (w_0.1,BY.1,e_1.2.2.1)) fun E_=>
     bif kL [qu (IL (w_0.1,BY.1,e_1.2.2.1)),qu (q49 e_1)] then
      some (((E_.1,w_0.2),w_0.1.1),())
     else none
    else
     dj q29 w_0.1 fun C_=>
      dj JR (C_.1,w_0.2) fun Kq=>
       some ((Kq.1,(!w_0.1.1)),())
def Wh.q69 (x:((Unit)×(Unit)×(Unit)×(Int))×((((Bool)×((Int)×((List UInt8)×(((Int)×((Unit)×(Unit)))×(((Unit)×((Int)×(Unit)))×((Unit)×((Unit)×(Unit))))))))×((Unit)×((Unit)×((Unit)×(Unit)))))×(di.D)×((b7.D)×((Unit)×((Unit)×((Unit)×(Unit)))))×(List (an.D))×(List (cg.D))×(List (cw.D))×(List (cp.D))×(List (bn.D))×(List (b9.D))×(List (an.D))×(List (bn.D))×(List (b9.D))×(List (an.D)))):Option ((((Bool)×(Unit)×(Unit)×(Unit))×((((Bool)×((Int)×((List UInt8)×(((Int)×((Unit)×(Unit)))×(((Unit)×((Int)×(Unit)))×((Unit)×((Unit)×(Unit))))))))×((Unit)×((Unit)×((Unit)×(Unit)))))×(di.D)×((b7.D)×((Unit)×((Unit)×((Unit)×(Unit)))))×(List (an.D))×(List (cg.D))×(List (cw.D))×(List (cp.D))×(List (bn.D))×(List (b9.D))×(List (an.D))×(List (bn.D))×(List (b9.D))×(List (an.D))))):=
 let Qg:=x.1.2.2.2
 let O4:=x.2.1.1.1
 let La:=x.2.1.1.2.1
 let O5:=x.2.1.1.2.2.1
 let O6:=x.2.1.1.2.2.2.1.1
 let O7:=x.2.1.1.2.2.2.1.2.2
 let O8:=x.2.1.1.2.2.2.2.1.2
 let Ga:=x.2.1.1.2.2.2.2.2.2.2
 let Gc:=x.2.1.2.2.2.2
 let Lb:=x.2.2.1
 let O9:=x.2.2.2.1.1
 let Lc:=x.2.2.2.1.2.2.2.2
 let O_:=x.2.2.2.2.1
 let Pa:=x.2.2.2.2.2.1
 let Pb:=x.2.2.2.2.2.2.1
 let Pd:=x.2.2.2.2.2.2.2.1
 let Pe:=x.2.2.2.2.2.2.2.2.1
 let Pf:=x.2.2.2.2.2.2.2.2.2.1
 let Gd:=x.2.2.2.2.2.2.2.2.2.2.1
 let Pg:=x.2.2.2.2.2.2.2.2.2.2.2.1
 let Ph:=x.2.2.2.2.2.2.2.2.2.2.2.2.1
 let Pj:=x.2.2.2.2.2.2.2.2.2.2.2.2.2
 let v_205:=Qg==1
 bif v_205 then
  some (((v_205,(),(),()),((O4,La,O5,(O6,(),O7),((),O8),(),(),Ga),(),(),(),Gc),Lb,(O9,(),(),(),Lc),O_,Pa,Pb,Pd,Pe,Pf,Gd,Pg,Ph,Pj))
 else
  let v_206:=Qg==2
  bif v_206 then
   some (((v_206,(),(),()),((O4,La,O5,(O6,(),O7),((),O8),(),(),Ga),(),(),(),Gc),Lb,(O9,(),(),(),Lc),O_,Pa,Pb,Pd,Pe,Pf,Gd,Pg,Ph,Pj))
  else
   let Ur:=Qg==6
   bif Ur then
    some (((Ur,(),(),()),((O4,La,O5,(O6,(),O7),((),O8),(),(),Ga),(),(),(),Gc),Lb,(O9,(),(),(),Lc),O_,Pa,Pb,Pd,Pe,Pf,Gd,Pg,Ph,Pj))
   else
    let v_208:=Qg==11
    bif v_208 then
     some (((v_208,(),(),()),((O4,La,O5,(O6,(),O7),((),O8),(),(),Ga),(),(),(),Gc),Lb,(O9,(),(),(),Lc),O_,Pa,Pb,Pd,Pe,Pf,Gd,Pg,Ph,Pj))
    else
     let v_209:=Qg==12
     some (((v_209,(),(),()),((O4,La,O5,(O6,(),O7),((),O8),(),(),Ga),(),(),(),Gc),Lb,(O9,(),(),(),Lc),O_,Pa,Pb,Pd,Pe,Pf,Gd,Pg,Ph,Pj))
def Wh.TU (x:((Unit)×(Unit)×(Unit)×(Int))×((((Bool)×((Int)×((List UInt8)×(((Int)×((Unit)×(Unit)))×(((Unit)×((Int)×(Unit)))×((Unit)×((Unit)×(Unit))))))))×((Unit)×((Unit)×((Unit)×(Unit)))))×(di.D)×((b7.D)×((Unit)×((Unit)×((Unit)×(Unit)))))×(List (an.D))×(List (cg.D))×(List (cw.D))×(List (cp.D))×(List (bn.D))×(List (b9.D))×(List (an.D))×(List (bn.D))×(List (b9.D))×(List (an.D)))):(((Bool)×(Unit)×(Unit)×(Unit))×((((Bool)×((Int)×((List UInt8)×(((Int)×((Unit)×(Unit)))×(((Unit)×((Int)×(Unit)))×((Unit)×((Unit)×(Unit))))))))×((Unit)×((Unit)×((Unit)×(Unit)))))×(di.D)×((b7.D)×((Unit)×((Unit)×((Unit)×(Unit)))))×(List (an.D))×(List (cg.D))×(List (cw.D))×(List (cp.D))×(List (bn.D))×(List (b9.D))×(List (an.D))×(List (bn.D))×(List (b9.D))×(List (an.D)))):=match q69 x with | some y=>y|none=>(default,(default,default,default,default,default,default,default,default,default,default,default,default,default))
def Wh.q69_v (x:((Unit)×(Unit)×(Unit)×(Int))×((((Bool)×((Int)×((List UInt8)×(((Int)×((Unit)×(Unit)))×(((Unit)×((Int)×(Unit)))×((Unit)×((Unit)×(Unit))))))))×((Unit)×((Unit)×((Unit)×(Unit)))))×(di.D)×((b7.D)×((Unit)×((Unit)×((Unit)×(Unit)))))×(List (an.D))×(List (cg.D))×(List (cw.D))×(List (cp.D))×(List (bn.D))×(List (b9.D))×(List (an.D))×(List (bn.D))×(List (b9.D))×(List (an.D))))(y:(((Bool)×(Unit)×(Unit)×(Unit))×((((Bool)×((Int)×((List UInt8)×(((Int)×((Unit)×(Unit)))×(((Unit)×((Int)×(Unit)))×((Unit)×((Unit)×(Unit))))))))×((Unit)×((Unit)×((Unit)×(Unit)))))×(di.D)×((b7.D)×((Unit)×((Unit)×((Unit)×(Unit)))))×(List (an.D))×(List (cg.D))×(List (cw.D))×(List (cp.D))×(List (bn.D))×(List (b9.D))×(List (an.D))×(List (bn.D))×(List (b9.D))×(List (an.D)))))(h:q69 x=some y):TU x=y:=by unfold TU;rw[h]
def Wh.q68 (x:((Unit)×(Unit)×(Unit)×(Int))×((((Bool)×((Int)×((List UInt8)×(((Int)×((Unit)×(Unit)))×(((Unit)×((Int)×(Unit)))×((Unit)×((Unit)×(Unit))))))))×((Unit)×((Unit)×((Unit)×(Unit)))))×(di.D)×((b7.D)×((Unit)×((Unit)×((Unit)×(Unit)))))×(List (an.D))×(List (cg.D))×(List (cw.D))×(List (cp.D))×(List (bn.D))×(List (b9.D))×(List (an.D))×(List (bn.D))×(List (b9.D))×(List (an.D)))):Option ((((Bool)×(Unit)×(Unit)×(Unit)×(Int))×((((Bool)×((Int)×((List UInt8)×(((Int)×((Unit)×(Unit)))×(((Unit)×((Int)×(Unit)))×((Unit)×((Unit)×(Unit))))))))×((Unit)×((Unit)×((Unit)×(Unit)))))×(di.D)×((b7.D)×((Unit)×((Unit)×((Unit)×(Unit)))))×(List (an.D))×(List (cg.D))×(List (cw.D))×(List (cp.D))×(List (bn.D))×(List (b9.D))×(List (an.D))×(List (bn.D))×(List (b9.D))×(List (an.D))))):=
 let Ky:=x.1.2.2.2
 let Er:=x.2.1.1.1
 let Es:=x.2.1.1.2.1
 let Fu:=x.2.1.1.2.2.1
 let G0:=x.2.1.1.2.2.2.1.1
 let Jy:=x.2.1.1.2.2.2.1.2.2
 let Jz:=x.2.1.1.2.2.2.2.1.2
 let JA:=x.2.1.1.2.2.2.2.2.2.2
 let MU:=x.2.1.2.2.2.2
 let JB:=x.2.2.1
 let Ig:=x.2.2.2.1.1
 let F8:=x.2.2.2.1.2.2.2.2
 let F9:=x.2.2.2.2.1
 let Ih:=x.2.2.2.2.2.1
 let ET:=x.2.2.2.2.2.2.1
 let Et:=x.2.2.2.2.2.2.2.1
 let K9:=x.2.2.2.2.2.2.2.2.1
 let Ii:=x.2.2.2.2.2.2.2.2.2.1
 let K_:=x.2.2.2.2.2.2.2.2.2.2.1
 let G1:=x.2.2.2.2.2.2.2.2.2.2.2.1
 let Dg:=x.2.2.2.2.2.2.2.2.2.2.2.2.1
 let Ij:=x.2.2.2.2.2.2.2.2.2.2.2.2.2
 let v_126:=Ky==3
 bif v_126 then
  some (((v_126,(),(),(),Ky),((Er,Es,Fu,(G0,(),Jy),((),Jz),(),(),JA),(),(),(),MU),JB,(Ig,(),(),(),F8),F9,Ih,ET,Et,K9,Ii,K_,G1,Dg,Ij))
 else
  let v_127:=Ky==4
  bif v_127 then
   some (((v_127,(),(),(),Ky),((Er,Es,Fu,(G0,(),Jy),((),Jz),(),(),JA),(),(),(),MU),JB,(Ig,(),(),(),F8),F9,Ih,ET,Et,K9,Ii,K_,G1,Dg,Ij))
  else
   let Uq:=Ky==5
   bif Uq then
    some (((Uq,(),(),(),Ky),((Er,Es,Fu,(G0,(),Jy),((),Jz),(),(),JA),(),(),(),MU),JB,(Ig,(),(),(),F8),F9,Ih,ET,Et,K9,Ii,K_,G1,Dg,Ij))
   else
    let v_129:=Ky==7
    some (((v_129,(),(),(),Ky),((Er,Es,Fu,(G0,(),Jy),((),Jz),(),(),JA),(),(),(),MU),JB,(Ig,(),(),(),F8),F9,Ih,ET,Et,K9,Ii,K_,G1,Dg,Ij))
def Wh.TT (x:((Unit)×(Unit)×(Unit)×(Int))×((((Bool)×((Int)×((List UInt8)×(((Int)×((Unit)×(Unit)))×(((Unit)×((Int)×(Unit)))×((Unit)×((Unit)×(Unit))))))))×((Unit)×((Unit)×((Unit)×(Unit)))))×(di.D)×((b7.D)×((Unit)×((Unit)×((Unit)×(Unit)))))×(List (an.D))×(List (cg.D))×(List (cw.D))×(List (cp.D))×(List (bn.D))×(List (b9.D))×(List (an.D))×(List (bn.D))×(List (b9.D))×(List (an.D)))):(((Bool)×(Unit)×(Unit)×(Unit)×(Int))×((((Bool)×((Int)×((List UInt8)×(((Int)×((Unit)×(Unit)))×(((Unit)×((Int)×(Unit)))×((Unit)×((Unit)×(Unit))))))))×((Unit)×((Unit)×((Unit)×(Unit)))))×(di.D)×((b7.D)×((Unit)×((Unit)×((Unit)×(Unit)))))×(List (an.D))×(List (cg.D))×(List (cw.D))×(List (cp.D))×(List (bn.D))×(List (b9.D))×(List (an.D))×(List (bn.D))×(List (b9.D))×(List (an.D)))):=match q68 x with | some y=>y|none=>(default,(default,default,default,default,default,default,default,default,default,default,default,default,default))
def Wh.q68_v (x:((Unit)×(Unit)×(Unit)×(Int))×((((Bool)×((Int)×((List UInt8)×(((Int)×((Unit)×(Unit)))×(((Unit)×((Int)×(Unit)))×((Unit)×((Unit)×(Unit))))))))×((Unit)×((Unit)×((Unit)×(Unit)))))×(di.D)×((b7.D)×((Unit)×((Unit)×((Unit)×(Unit)))))×(List (an.D))×(List (cg.D))×(List (cw.D))×(List (cp.D))×(List (bn.D))×(List (b9.D))×(List (an.D))×(List (bn.D))×(List (b9.D))×(List (an.D))))(y:(((Bool)×(Unit)×(Unit)×(Unit)×(Int))×((((Bool)×((Int)×((List UInt8)×(((Int)×((Unit)×(Unit)))×(((Unit)×((Int)×(Unit)))×((Unit)×((Unit)×(Unit))))))))×((Unit)×((Unit)×((Unit)×(Unit)))))×(di.D)×((b7.D)×((Unit)×((Unit)×((Unit)×(Unit)))))×(List (an.D))×(List (cg.D))×(List (cw.D))×(List (cp.D))×(List (bn.D))×(List (b9.D))×(List (an.D))×(List (bn.D))×(List (b9.D))×(List (an.D)))))(h:q68 x=some y):TT x=y:=by unfold TT;rw[h]
def Wh.q67 (x:((Unit)×(Unit)×(Unit)×(Int))×((((Bool)×((Int)×((List UInt8)×(((Int)×((Unit)×(Unit)))×(((Unit)×((Int)×(Unit)))×((Unit)×((Unit)×(Unit))))))))×((Unit)×((Unit)×((Unit)×(Unit)))))×(di.D)×((b7.D)×((Unit)×((Unit)×((Unit)×(Unit)))))×(List (an.D))×(List (cg.D))×(List (cw.D))×(List (cp.D))×(List (bn.D))×(List (b9.D))×(List (an.D))×(List (bn.D))×(List (b9.D))×(List (an.D)))):Option ((((Bool)×(Unit)×(Unit)×(Unit)×(Int))×((((Bool)×((Int)×((List UInt8)×(((Int)×((Unit)×(Unit)))×(((Unit)×((Int)×(Unit)))×((Unit)×((Unit)×(Unit))))))))×((Unit)×((Unit)×((Unit)×(Unit)))))×(di.D)×((b7.D)×((Unit)×((Unit)×((Unit)×(Unit)))))×(List (an.D))×(List (cg.D))×(List (cw.D))×(List (cp.D))×(List (bn.D))×(List (b9.D))×(List (an.D))×(List (bn.D))×(List (b9.D))×(List (an.D))))):=
 let Du:=x.1.2.2.2
 let s9:=x.2.1.1.1
 let CQ:=x.2.1.1.2.1
 let Bh:=x.2.1.1.2.2.1
 let Bi:=x.2.1.1.2.2.2.1.1
 let AD:=x.2.1.1.2.2.2.1.2.2
 let Bz:=x.2.1.1.2.2.2.2.1.2
 let Az:=x.2.1.1.2.2.2.2.2.2.2
 let nC:=x.2.1.2.2.2.2
 let AK:=x.2.2.1
 let Bj:=x.2.2.2.1.1
 let nE:=x.2.2.2.1.2.2.2.2
 let A6:=x.2.2.2.2.1
 let AP:=x.2.2.2.2.2.1
 let AE:=x.2.2.2.2.2.2.1
 let AF:=x.2.2.2.2.2.2.2.1
 let nI:=x.2.2.2.2.2.2.2.2.1
 let x3:=x.2.2.2.2.2.2.2.2.2.1
 let vN:=x.2.2.2.2.2.2.2.2.2.2.1
 let wX:=x.2.2.2.2.2.2.2.2.2.2.2.1
 let AQ:=x.2.2.2.2.2.2.2.2.2.2.2.2.1
 let qe:=x.2.2.2.2.2.2.2.2.2.2.2.2.2
 let KA:=Du==8
 bif KA then
  some (((KA,(),(),(),Du),((s9,CQ,Bh,(Bi,(),AD),((),Bz),(),(),Az),(),(),(),nC),AK,(Bj,(),(),(),nE),A6,AP,AE,AF,nI,x3,vN,wX,AQ,qe))
 else
  let I_:=Du==9
  bif I_ then
   some (((I_,(),(),(),Du),((s9,CQ,Bh,(Bi,(),AD),((),Bz),(),(),Az),(),(),(),nC),AK,(Bj,(),(),(),nE),A6,AP,AE,AF,nI,x3,vN,wX,AQ,qe))
  else
   let B5:=Du==10
   some (((B5,(),(),(),Du),((s9,CQ,Bh,(Bi,(),AD),((),Bz),(),(),Az),(),(),(),nC),AK,(Bj,(),(),(),nE),A6,AP,AE,AF,nI,x3,vN,wX,AQ,qe))
def Wh.TS (x:((Unit)×(Unit)×(Unit)×(Int))×((((Bool)×((Int)×((List UInt8)×(((Int)×((Unit)×(Unit)))×(((Unit)×((Int)×(Unit)))×((Unit)×((Unit)×(Unit))))))))×((Unit)×((Unit)×((Unit)×(Unit)))))×(di.D)×((b7.D)×((Unit)×((Unit)×((Unit)×(Unit)))))×(List (an.D))×(List (cg.D))×(List (cw.D))×(List (cp.D))×(List (bn.D))×(List (b9.D))×(List (an.D))×(List (bn.D))×(List (b9.D))×(List (an.D)))):(((Bool)×(Unit)×(Unit)×(Unit)×(Int))×((((Bool)×((Int)×((List UInt8)×(((Int)×((Unit)×(Unit)))×(((Unit)×((Int)×(Unit)))×((Unit)×((Unit)×(Unit))))))))×((Unit)×((Unit)×((Unit)×(Unit)))))×(di.D)×((b7.D)×((Unit)×((Unit)×((Unit)×(Unit)))))×(List (an.D))×(List (cg.D))×(List (cw.D))×(List (cp.D))×(List (bn.D))×(List (b9.D))×(List (an.D))×(List (bn.D))×(List (b9.D))×(List (an.D)))):=match q67 x with | some y=>y|none=>(default,(default,default,default,default,default,default,default,default,default,default,default,default,default))
def Wh.q67_v (x:((Unit)×(Unit)×(Unit)×(Int))×((((Bool)×((Int)×((List UInt8)×(((Int)×((Unit)×(Unit)))×(((Unit)×((Int)×(Unit)))×((Unit)×((Unit)×(Unit))))))))×((Unit)×((Unit)×((Unit)×(Unit)))))×(di.D)×((b7.D)×((Unit)×((Unit)×((Unit)×(Unit)))))×(List (an.D))×(List (cg.D))×(List (cw.D))×(List (cp.D))×(List (bn.D))×(List (b9.D))×(List (an.D))×(List (bn.D))×(List (b9.D))×(List (an.D))))(y:(((Bool)×(Unit)×(Unit)×(Unit)×(Int))×((((Bool)×((Int)×((List UInt8)×(((Int)×((Unit)×(Unit)))×(((Unit)×((Int)×(Unit)))×((Unit)×((Unit)×(Unit))))))))×((Unit)×((Unit)×((Unit)×(Unit)))))×(di.D)×((b7.D)×((Unit)×((Unit)×((Unit)×(Unit)))))×(List (an.D))×(List (cg.D))×(List (cw.D))×(List (cp.D))×(List (bn.D))×(List (b9.D))×(List (an.D))×(List (bn.D))×(List (b9.D))×(List (an.D)))))(h:q67 x=some y):TS x=y:=by unfold TS;rw[h]
def Wh.J8 (xs:((b7.D)×((List (bn.D))×((List (b9.D))×((List (an.D))×(Unit)))))×(di.D)):Option (((fN.D)×(Bool))×(Unit)):=
 let w_0:=xs.1
 let e_1:=xs.2
 CK q67 TS ((((),(),(),e_1.1),((false,0,[],(0,(),()),((),0,()),(),(),()),(),(),(),()),e_1,(w_0.1,(),(),(),w_0.2.2.2.2),[],[],[],[],[],[],[],w_0.2.1,w_0.2.2.1,w_0.2.2.2.1)) fun B6=>
  let At:=B6.1.1
  let KB:=B6.1.2.2.2.2
  let nS:=B6.2.1.1.1
  let AA:=B6.2.1.1.2.1
  let Cl:=B6.2.1.1.2.2.1
  let Cb:=B6.2.1.1.2.2.2.1.1
  let Ba:=B6.2.1.1.2.2.2.1.2.2
  let BK:=B6.2.1.1.2.2.2.2.1.2
  let Cc:=B6.2.1.1.2.2.2.2.2.2.2
  let Bb:=B6.2.1.2.2.2.2
  let AU:=B6.2.2.1
  let BL:=B6.2.2.2.1.1
  let CR:=B6.2.2.2.1.2.2.2.2
  let BA:=B6.2.2.2.2.1
  let Cr:=B6.2.2.2.2.2.1
  let EU:=B6.2.2.2.2.2.2.1
  let Dh:=B6.2.2.2.2.2.2.2.1
  let Bk:=B6.2.2.2.2.2.2.2.2.1
  let AY:=B6.2.2.2.2.2.2.2.2.2.1
  let CD:=B6.2.2.2.2.2.2.2.2.2.2.1
  let Cd:=B6.2.2.2.2.2.2.2.2.2.2.2.1
  let Cs:=B6.2.2.2.2.2.2.2.2.2.2.2.2.1
  let CS:=B6.2.2.2.2.2.2.2.2.2.2.2.2.2
  bif At then
   dj q70 ((BL,Cd,Cs,CS,CR),AU) fun PV=>
    some (PV.1,())
  else
   CK q68 TT ((((),(),(),KB),((nS,AA,Cl,(Cb,(),Ba),((),BK),(),(),Cc),(),(),(),Bb),AU,(BL,(),(),(),CR),BA,Cr,EU,Dh,Bk,AY,CD,Cd,Cs,CS)) fun Co=>
    let v_132:=Co.1.1
    let YK:=Co.1.2.2.2.2
    let S_:=Co.2.1.1.1
    let Ta:=Co.2.1.1.2.1
    let Tb:=Co.2.1.1.2.2.1
    let Xs:=Co.2.1.1.2.2.2.1.1
    let Xt:=Co.2.1.1.2.2.2.1.2.2
    let Xu:=Co.2.1.1.2.2.2.2.1.2
    let ls_140:=Co.2.1.1.2.2.2.2.2.2.2
    let ls_141:=Co.2.1.2.2.2.2
    let aby:=Co.2.2.1
    let abz:=Co.2.2.2.1.1
    let abA:=Co.2.2.2.1.2.2.2.2
    let ls_145:=Co.2.2.2.2.1
    let Xv:=Co.2.2.2.2.2.1
    let Xw:=Co.2.2.2.2.2.2.1
    let MV:=Co.2.2.2.2.2.2.2.1
    let Ik:=Co.2.2.2.2.2.2.2.2.1
    let Xx:=Co.2.2.2.2.2.2.2.2.2.1
    let Xy:=Co.2.2.2.2.2.2.2.2.2.2.1
    let Tc:=Co.2.2.2.2.2.2.2.2.2.2.2.1
    let Td:=Co.2.2.2.2.2.2.2.2.2.2.2.2.1
    let Te:=Co.2.2.2.2.2.2.2.2.2.2.2.2.2
    bif v_132 then
     dj q48 ((abz,Tc,Td,Te,abA),aby) fun r_155=>
      some (r_155.1,())
    else
     CK q69 TU ((((),(),(),YK),((S_,Ta,Tb,(Xs,(),Xt),((),Xu),(),(),ls_140),(),(),(),ls_141),aby,(abz,(),(),(),abA),ls_145,Xv,Xw,MV,Ik,Xx,Xy,Tc,Td,Te)) fun Me=>
      let v_212:=Me.1.1
      let ls_221:=Me.2.2.1
      let abD:=Me.2.2.2.1.1
      let abE:=Me.2.2.2.1.2.2.2.2
      let abF:=Me.2.2.2.2.2.2.2.2.2.2.2.1
      let abG:=Me.2.2.2.2.2.2.2.2.2.2.2.2.1
      let abH:=Me.2.2.2.2.2.2.2.2.2.2.2.2.2
      bif v_212 then
       dj q50 ((abD,abF,abG,abH,abE),ls_221) fun r_234=>
        some (r_234.1,())
      else
       some (((abD,abF,abG,abH,abE),false),())
abbrev Wh.afP:Type:=((Int)×(Unit)×(Unit)×(Unit)×(Unit))×((dz.D)×(fN.D)×(List (di.D))×(((Bool)×((Int)×((List UInt8)×(((Int)×((Unit)×(Unit)))×(((Unit)×((Int)×(Unit)))×((Unit)×((Unit)×(Unit))))))))×((Unit)×((Unit)×((Unit)×(Unit)))))×(List (an.D))×(List (cg.D))×(List (cw.D))×(List (cp.D))×(List (bn.D))×(List (b9.D))×(List (an.D)))
abbrev Wh.amC:Type:=((((Unit)×(Unit)×(Unit))×((dz.D)×(((Bool)×((Int)×((List UInt8)×(((Int)×((Unit)×(Unit)))×(((Unit)×((Int)×(Unit)))×((Unit)×((Unit)×(Unit))))))))×((Unit)×((Unit)×((Unit)×(Unit)))))×(fN.D)×(List (di.D))×(List (an.D))×(List (cg.D))×(List (cw.D))×(List (cp.D))×(List (bn.D))×(List (b9.D))×(List (an.D)))))
def Wh.PL (x:afP):Option (afP⊕amC):=
 let n_38:=x.1.1
 let pb_39:=x.2.1
 let AP:=x.2.2.1
 let AE:=x.2.2.2.1
 let AF:=x.2.2.2.2.1.1.1
 let nI:=x.2.2.2.2.1.1.2.1
 let x3:=x.2.2.2.2.1.1.2.2.1
 let vN:=x.2.2.2.2.1.1.2.2.2.1.1
 let wX:=x.2.2.2.2.1.1.2.2.2.1.2.2
 let AQ:=x.2.2.2.2.1.1.2.2.2.2.1.2
 let qe:=x.2.2.2.2.1.1.2.2.2.2.2.2.2
 let z4:=x.2.2.2.2.1.2.2.2.2
 let nG:=x.2.2.2.2.2.1
 let wh:=x.2.2.2.2.2.2.1
 let s_:=x.2.2.2.2.2.2.2.1
 let Ax:=x.2.2.2.2.2.2.2.2.1
 let AR:=x.2.2.2.2.2.2.2.2.2.1
 let AG:=x.2.2.2.2.2.2.2.2.2.2.1
 let nS:=x.2.2.2.2.2.2.2.2.2.2.2
 bif decide (n_38>0) then
  dj q72 (pb_39,AP) fun L1=>
   let X_:List (di.D):=[L1.1]
   let Ba:=AE++X_
   bif kL [decide (List.length AE+(1:Nat)≤eV)] then
    b8 (zog G9 AP) fun CX=>
    b8 (zog J8 (CX.1,L1.1)) fun r_62=>
    bif kL [qu (J8 (CX.1,L1.1)),qu (G9 AP)] then
     bif r_62.1.2 then
      some (.inl (((IntKind.wrap .i64 (n_38-1)),(),(),(),()),L1.2.1,r_62.1.1,Ba,((AF,nI,x3,(vN,(),wX),((),AQ),(),(),qe),(),(),(),z4),nG,wh,s_,Ax,AR,AG,nS))
     else
      some (.inl (((IntKind.wrap .i64 (n_38-1)),(),(),(),()),L1.2.1,AP,Ba,((AF,nI,x3,(vN,(),wX),((),AQ),(),(),qe),(),(),(),z4),nG,wh,s_,Ax,AR,AG,nS))
    else none
   else none
 else
  some (.inr (((),(),()),pb_39,((AF,nI,x3,(vN,(),wX),((),AQ),(),(),qe),(),(),(),z4),AP,AE,nG,wh,s_,Ax,AR,AG,nS))
def Wh.afQ:(((Unit)×(Unit)×(Unit))×((dz.D)×(((Bool)×((Int)×((List UInt8)×(((Int)×((Unit)×(Unit)))×(((Unit)×((Int)×(Unit)))×((Unit)×((Unit)×(Unit))))))))×((Unit)×((Unit)×((Unit)×(Unit)))))×(fN.D)×(List (di.D))×(List (an.D))×(List (cg.D))×(List (cw.D))×(List (cp.D))×(List (bn.D))×(List (b9.D))×(List (an.D)))):=default
def Wh.q73 (xs:(dz.D)×(Int)):Option (((List (di.D))×((b7.D)×((List (bn.D))×((List (b9.D))×((List (an.D))×(Unit))))))×((dz.D)×Unit)):=
 let vT:=xs.1
 let most_1:=xs.2
 dj q64 () fun r_2=>
  dj m6 (vT,most_1) fun r_3=>
   iL PL afQ (((r_3.1,(),(),(),()),r_3.2.1,r_2.1,[],((false,0,[],(0,(),()),((),0,()),(),(),()),(),(),(),()),[],[],[],[],[],[],[])) fun Qs=>
    let M6:=Qs.2.1
    let DF:=Qs.2.2.2.1
    let CU:=Qs.2.2.2.2.1
    dj G9 DF fun Nr=>
     some ((CU,Nr.1),M6,())
def Wh.q75 (xs:(dz.D)):Option ((((b7.D)×((List (bn.D))×((List (b9.D))×((List (an.D))×(Unit))))))×((dz.D)×Unit)):=
 let vT:dz.D:=xs
 dj q73 (vT,110) fun r_1=>
  some (r_1.1.2,r_1.2.1,())
def Wh.q3 (xs:(dz.D)×(fN.D)):Option ((((b7.D)×((List (bn.D))×((List (b9.D))×((List (an.D))×(Unit))))))×((dz.D)×Unit)):=
 let vT:=xs.1
 let w_1:=xs.2
 dj G9 w_1 fun r_2=>
  dj m6 (vT,8) fun r_3=>
   bif(r_3.1==0) then
    b8 (zog m6 (r_3.2.1,4)) fun ic=>
    b8 (zog m6 (ic.2.1,2)) fun n5=>
    let Ln:=List.set (r_2.1.2.1) (Int.toNat ic.1) ((List.getD (r_2.1.2.1) (Int.toNat ic.1) (0,0,0,[],0,((0,0,[],[],()),(0,0,[],()),()),())).1,List.getD [(-1:Int),0] (Int.toNat n5.1) 0,((List.getD (r_2.1.2.1) (Int.toNat ic.1) (0,0,0,[],0,((0,0,[],[],()),(0,0,[],()),()),())).2).2)
    bif kL [decide (0≤ic.1),decide (ic.1<(↑(List.length (r_2.1.2.1)):Int)),decide (0≤n5.1),decide (n5.1<(↑(2:Nat):Int)),qu (m6 (ic.2.1,2)),qu (m6 (r_3.2.1,4))] then
     some ((r_2.1.1,Ln,r_2.1.2.2),n5.2.1,())
    else none
   else
    bif(r_3.1==1) then
     b8 (zog m6 (r_3.2.1,4)) fun C_=>
     b8 (zog m6 (C_.2.1,6)) fun Kq=>
     let BM:=List.set (r_2.1.2.1) (Int.toNat C_.1) ((List.getD (r_2.1.2.1) (Int.toNat C_.1) (0,0,0,[],0,((0,0,[],[],()),(0,0,[],()),()),())).1,((List.getD (r_2.1.2.1) (Int.toNat C_.1) (0,0,0,[],0,((0,0,[],[],()),(0,0,[],()),()),())).2).1,Kq.1,(((List.getD (r_2.1.2.1) (Int.toNat C_.1) (0,0,0,[],0,((0,0,[],[],()),(0,0,[],()),()),())).2).2).2)
     bif kL [decide (0≤C_.1),decide (C_.1<(↑(List.length (r_2.1.2.1)):Int)),qu (m6 (C_.2.1,6)),qu (m6 (r_3.2.1,4))] then
      some ((r_2.1.1,BM,r_2.1.2.2),Kq.2.1,())
     else none
    else
     bif(r_3.1==2) then
      let pb_25:Nat:=Int.toNat ((↑(List.length (r_2.1.2.1)):Int)-1)
      bif kL [true,decide (1≤(↑(List.length (r_2.1.2.1)):Int)),decide ((↑(List.length (r_2.1.2.1)):Int)≤(↑(List.length (r_2.1.2.1)):Int))] then
       some ((r_2.1.1,List.take pb_25 (List.drop (Int.toNat 1) (r_2.1.2.1)),r_2.1.2.2),r_3.2.1,())
      else none
     else
      bif(r_3.1==3) then
       let X6:=r_2.1.1.2.2.1 ++ [(120:UInt8)]
       bif kL [decide (List.length (r_2.1.1.2.2.1)+(1:Nat)≤eV)] then
        some (((r_2.1.1.1,r_2.1.1.2.1,X6,r_2.1.1.2.2.2),r_2.1.2),r_3.2.1,())
       else none
      else
       bif(r_3.1==4) then
        some ((((!r_2.1.1.1),r_2.1.1.2),r_2.1.2),r_3.2.1,())
       else
        bif(r_3.1==5) then
         let w8:List (an.D):=[(0,[(97:UInt8)],IntKind.wrap .i64 ((↑(List.length (r_2.1.2.2.2.1)):Int)+1),[(120:UInt8)],())]
         let Ez:List (an.D):=r_2.1.2.2.2.1++w8
         bif kL [decide (List.length (r_2.1.2.2.2.1)+(1:Nat)≤eV)] then
          some ((r_2.1.1,r_2.1.2.1,r_2.1.2.2.1,Ez,r_2.1.2.2.2.2),r_3.2.1,())
         else none
        else
         bif(r_3.1==6) then
          let X9:=r_2.1.2.2.1 ++ [(7,[(120:UInt8)],false,())]
          bif kL [decide (List.length (r_2.1.2.2.1)+(1:Nat)≤eV)] then
           some ((r_2.1.1,r_2.1.2.1,X9,r_2.1.2.2.2),r_3.2.1,())
          else none
         else
          some (((r_2.1.1.1,r_2.1.1.2.1,r_2.1.1.2.2.1,((IntKind.wrap .i64 (r_2.1.1.2.2.2.1.1+1)),r_2.1.1.2.2.2.1.2),r_2.1.1.2.2.2.2),r_2.1.2),r_3.2.1,())
def Wh.q10 (xs:(dz.D)):Option ((((b7.D)×((List (bn.D))×((List (b9.D))×((List (an.D))×(Unit))))))×((dz.D)×Unit)):=
 let vT:dz.D:=xs
 dj q75 vT fun r_1=>
  dj m6 (r_1.2.1,14) fun r_2=>
   bif(r_2.1==0) then
    dj Wh.q3 (r_2.2.1,r_1.1) fun e_=>
     some (e_.1,e_.2.1,())
   else
    some (r_1.1,r_2.2.1,())
def Wh.q7 (xs:(dz.D)):Option (((bn.D))×((dz.D)×Unit)):=
 let vT:dz.D:=xs
 dj q10 vT fun r_1=>
  b8 (zog m6 (r_1.2.1,(↑(List.length (r_1.1.2.1)):Int))) fun r_2=>
  let Dm:=List.getD (r_1.1.2.1) (Int.toNat r_2.1) (0,0,0,[],0,((0,0,[],[],()),(0,0,[],()),()),())
  let AI:Int:=(↑(List.length (r_1.1.2.1)):Int)
  bif kL [decide (0≤r_2.1),decide (r_2.1<AI),qu (m6 (r_1.2.1,AI))] then
   some (Dm,r_2.2.1,())
  else none
def Wh.q1 (xs:(List (Int))):Option (((bn.D))×(Unit)):=
 let GP:=xs
 b8 (zog JY GP) fun r_1=>
 b8 (zog Wh.q7 r_1.1) fun r_3=>
 bif kL [qu (Wh.q7 r_1.1),qu (JY GP)] then
  some (r_3.1,())
 else none
def Wh.A0 (xs:(Int)×(Int)×(Int)):Option ((Bool)×(Unit)):=
 let Dl:=xs.1
 let Xr:=xs.2.1
 let Xa:=xs.2.2
 let n_:=bif decide (Dl≥Xr) then decide (Dl≤Xa) else false
 some (n_,())
def Wh.IS (xs:(Int)):Option ((Bool)×(Unit)):=
 let Dl:=xs
 dj A0 (Dl,0,3) fun r_1=>
  some (r_1.1,())
def Wh.J2 (xs:(r5.D)):Option ((Bool)×(Unit)):=
 let n4:=xs
 let BO:=bif bif bif bif bif bif(n4.1.1==0) then n4.1.2.1==0 else false then(↑(List.length (n4.1.2.2.1)):Int)==0 else false then(↑(List.length (n4.1.2.2.2.1)):Int)==0 else false then n4.2.1.1==0 else false then n4.2.1.2.1==0 else false then(↑(List.length (n4.2.1.2.2.1)):Int)==0 else false
 some (BO,())
def Wh.ED (xs:(g7.D)):Option ((Int)×(Unit)):=
 let g9:g7.D:=xs
 bif kL [g9.2.1 != 0] then
  some ((IntKind.wrap .i64 (Int.tdiv (IntKind.wrap .i64 ((IntKind.wrap .i64 (g9.1+g9.2.1))-1)) g9.2.1)),())
 else none
abbrev Wh.adT:Type:=((Int)×(Unit)×(List (Int))×(Int))×((g7.D))
abbrev Wh.alF:Type:=(((Bool)×(Unit))⊕((Unit)×(Unit)))
def Wh.Gn (x:adT):Option (adT⊕alF):=
 let B4:=x.1.1
 let C0:=x.1.2.2.1
 let EK:=x.1.2.2.2
 let nE:=x.2
 bif decide (B4<EK) then
  let FU:=List.getD C0 (Int.toNat B4) 0
  bif kL [decide (0≤B4),decide (B4<(↑(List.length C0):Int))] then
   b8 (zog ED nE) fun Nn=>
   b8 (zog A0 (FU,1,Nn.1)) fun HB=>
   b8 (zog A0 (List.getD (nE.2.2.2.1) (Int.toNat B4) 0,1,99)) fun r_50=>
   let B5:=bif bif !HB.1 then true else bif decide (B4>0) then decide (List.getD (nE.2.2.1) (Int.toNat (IntKind.wrap .i64 (B4-1))) 0≥FU) else false then true else !r_50.1
   bif kL [(!!bif !HB.1 then true else bif decide (B4>0) then decide (List.getD (nE.2.2.1) (Int.toNat (IntKind.wrap .i64 (B4-1))) 0≥FU) else false) || qu (A0 (List.getD (nE.2.2.2.1) (Int.toNat B4) 0,1,99)),(!!bif !HB.1 then true else bif decide (B4>0) then decide (List.getD (nE.2.2.1) (Int.toNat (IntKind.wrap .i64 (B4-1))) 0≥FU) else false) || decide (0≤B4),(!!bif !HB.1 then true else bif decide (B4>0) then decide (List.getD (nE.2.2.1) (Int.toNat (IntKind.wrap .i64 (B4-1))) 0≥FU) else false) || decide (B4<(↑(List.length (nE.2.2.2.1)):Int)),!(decide (B4>0) && !!HB.1) || decide (0≤IntKind.wrap .i64 (B4-1)),!(decide (B4>0) && !!HB.1) || decide (IntKind.wrap .i64 (B4-1)<(↑(List.length (nE.2.2.1)):Int)),qu (A0 (FU,1,Nn.1)),qu (ED nE)] then
    bif B5 then
     some (.inr (.inl (false,())))
    else
     some (.inl (((IntKind.wrap .i64 (B4+1)),(),C0,EK),nE))
   else none
  else none
 else
  some (.inr (.inr ((),())))
def Wh.adU:((Bool)×(Unit))⊕((Unit)×(Unit)):=.inl default
def Wh.Ec (xs:(g7.D)):Option ((Bool)×(Unit)):=
 let g9:g7.D:=xs
 b8 (zog A0 (g9.1,1,300)) fun r_1=>
 b8 (zog A0 (g9.2.1,1,16)) fun r_2=>
 b8 (zog ED g9) fun ic=>
 let oc:=bif bif !r_1.1 then true else !r_2.1 then true else decide (ic.1>24)
 bif kL [(!!bif !r_1.1 then true else !r_2.1) || qu (ED g9),!!!r_1.1 || qu (A0 (g9.2.1,1,16)),qu (A0 (g9.1,1,300))] then
  bif oc then
   some (false,())
  else
   let nP:Int:=(↑(List.length (g9.2.2.1)):Int)
   b8 (zog A0 (nP,1,3)) fun E_=>
   let se:=bif bif !E_.1 then true else(↑(List.length (g9.2.2.2.1)):Int) != nP then true else List.getD (g9.2.2.1) (Int.toNat (IntKind.wrap .i64 (nP-1))) 0 != ic.1
   bif kL [(!!bif !E_.1 then true else(↑(List.length (g9.2.2.2.1)):Int) != nP) || qu (ED g9),(!!bif !E_.1 then true else(↑(List.length (g9.2.2.2.1)):Int) != nP) || decide (0≤IntKind.wrap .i64 (nP-1)),(!!bif !E_.1 then true else(↑(List.length (g9.2.2.2.1)):Int) != nP) || decide (IntKind.wrap .i64 (nP-1)<nP),qu (A0 (nP,1,3))] then
    bif se then
     some (false,())
    else
     iL Gn adU (((0,(),g9.2.2.1,nP),g9)) fun q_=>
      sumC q_ (fun y_54=>
       let FV:=y_54.1
       some (FV,())) (fun _=>
       some (true,()))
   else none
 else none
abbrev Wh.aeo:Type:=((Int)×(List (Int))×(Int)×(List (Int))×(Int))×(Unit)
abbrev Wh.alV:Type:=(((Bool)×(Unit))⊕((Int)×(Unit)))
def Wh.IE (x:aeo):Option (aeo⊕alV):=
 let se:=x.1.1
 let Yr:=x.1.2.1
 let Wz:=x.1.2.2.1
 let xb:=x.1.2.2.2.1
 let mb:=x.1.2.2.2.2
 bif decide (se<mb) then
  let nT:=List.getD xb (Int.toNat se) 0
  bif kL [decide (0≤se),decide (se<(↑(List.length xb):Int))] then
   let r_:=IntKind.wrap .i64 (Wz-1)
   b8 (zog A0 (nT,0,r_)) fun FO=>
   let v5:=bif !FO.1 then true else bif decide (se>0) then decide (List.getD Yr (Int.toNat (IntKind.wrap .i64 (se-1))) 0≥nT) else false
   bif kL [!(decide (se>0) && !!FO.1) || decide (0≤IntKind.wrap .i64 (se-1)),!(decide (se>0) && !!FO.1) || decide (IntKind.wrap .i64 (se-1)<(↑(List.length Yr):Int)),qu (A0 (nT,0,r_))] then
    bif v5 then
     some (.inr (.inl (false,())))
    else
     some (.inl (((IntKind.wrap .i64 (se+1)),Yr,Wz,xb,mb),()))
   else none
  else none
 else
  some (.inr (.inr (Wz,())))
def Wh.aep:((Bool)×(Unit))⊕((Int)×(Unit)):=.inl default
def Wh.Hj (xs:(List (Int))×(Int)):Option ((Bool)×(Unit)):=
 let HD:=xs.1
 let Wx:=xs.2
 iL IE aep (((0,HD,Wx,HD,(↑(List.length HD):Int)),())) fun q_=>
  sumC q_ (fun y_31=>
   let Cf:=y_31.1
   some (Cf,())) (fun z_32=>
   let HV:=z_32.1
   dj A0 (HV,0,24) fun DJ=>
    some (DJ.1,()))
abbrev Wh.ae_:Type:=((Int)×(Int)×(List (Int))×(Int))×(Unit)
abbrev Wh.ami:Type:=(((Int)×(Unit)))
def Wh.Nd (x:ae_):Option (ae_⊕ami):=
 let A3:=x.1.1
 let m_10:=x.1.2.1
 let CH:=x.1.2.2.1
 let AV:=x.1.2.2.2
 bif decide (A3<AV) then
  let pg:=List.getD CH (Int.toNat A3) 0
  bif kL [decide (0≤A3),decide (A3<(↑(List.length CH):Int))] then
   bif kL [decide (0≤pg)] then
    some (.inl (((IntKind.wrap .i64 (A3+1)),pZ Go.BinOp.or Go.IntKind.u32 m_10 (IntKind.wrap .u32 ((1:Int)*2 ^ Min.min (Int.toNat pg) (Go.IntKind.bits Go.IntKind.u32))),CH,AV),()))
   else none
  else none
 else
  some (.inr (m_10,()))
def Wh.afa:((Int)×(Unit)):=default
def Wh.IK (xs:(List (Int))):Option ((Int)×(Unit)):=
 let HD:=xs
 iL Nd afa (((0,0,HD,(↑(List.length HD):Int)),())) fun Qq=>
  let m_19:=Qq.1
  some (m_19,())
abbrev Wh.afz:Type:=((Int)×(Int)×(List (gT.D))×(Int))×(Unit)
abbrev Wh.amu:Type:=(((Bool)×(Unit))⊕((Unit)×(Unit)))
def Wh.LS (x:afz):Option (afz⊕amu):=
 let Jc:=x.1.1
 let adq:=x.1.2.1
 let Fb:=x.1.2.2.1
 let v_70:=x.1.2.2.2
 bif decide (Jc<v_70) then
  let Pz:=List.getD Fb (Int.toNat Jc) ([],[],())
  bif kL [decide (0≤Jc),decide (Jc<(↑(List.length Fb):Int))] then
   let Ux:List Int:=List.take (Int.toNat ((↑(List.length Pz.1):Int)-1)) (List.drop (Int.toNat 1) Pz.1)
   b8 (zog IK Ux) fun PV=>
   let v_78:=pZ Go.BinOp.and Go.IntKind.u32 PV.1 adq != 0
   bif kL [qu (IK Ux),true,decide (1≤(↑(List.length Pz.1):Int)),decide ((↑(List.length Pz.1):Int)≤(↑(List.length Pz.1):Int))] then
    bif v_78 then
     some (.inr (.inl (false,())))
    else
     some (.inl (((IntKind.wrap .i64 (Jc+1)),adq,Fb,v_70),()))
   else none
  else none
 else
  some (.inr (.inr ((),())))
def Wh.afA:((Bool)×(Unit))⊕((Unit)×(Unit)):=.inl default
abbrev Wh.afx:Type:=((Int)×(Int)×(Unit)×(List (gT.D))×(Int))×((fy.D))
abbrev Wh.amt:Type:=(((Bool)×(Unit))⊕(((Int)×(Unit))×((fy.D))))
def Wh.Ht (x:afx):Option (afx⊕amt):=
 let tn:=x.1.1
 let adp:=x.1.2.1
 let v5:=x.1.2.2.2.1
 let CJ:=x.1.2.2.2.2
 let Bh:=x.2
 bif decide (tn<CJ) then
  let Ez:=List.getD v5 (Int.toNat tn) ([],[],())
  bif kL [decide (0≤tn),decide (tn<(↑(List.length v5):Int))] then
   let Cf:Int:=(↑(List.length Ez.1):Int)
   b8 (zog Hj (Ez.1,Bh.1)) fun GB=>
   let L9:=bif bif bif Cf==0 then true else !GB.1 then true else(↑(List.length Ez.2.1):Int) != Bh.2.1 then true else bif decide (tn>0) then decide (List.getD ((List.getD (Bh.2.2.1) (Int.toNat (IntKind.wrap .i64 (tn-1))) ([],[],())).1) (Int.toNat 0) 0≥List.getD Ez.1 (Int.toNat 0) 0) else false
   bif kL [!(decide (tn>0) && !bif bif Cf==0 then true else !GB.1 then true else(↑(List.length Ez.2.1):Int) != Bh.2.1) || decide ((0:Int)≤0),!(decide (tn>0) && !bif bif Cf==0 then true else !GB.1 then true else(↑(List.length Ez.2.1):Int) != Bh.2.1) || decide (0<Cf),!(decide (tn>0) && !bif bif Cf==0 then true else !GB.1 then true else(↑(List.length Ez.2.1):Int) != Bh.2.1) || decide ((0:Int)≤0),!(decide (tn>0) && !bif bif Cf==0 then true else !GB.1 then true else(↑(List.length Ez.2.1):Int) != Bh.2.1) || decide (0<(↑(List.length ((List.getD (Bh.2.2.1) (Int.toNat (IntKind.wrap .i64 (tn-1))) ([],[],())).1)):Int)),!(decide (tn>0) && !bif bif Cf==0 then true else !GB.1 then true else(↑(List.length Ez.2.1):Int) != Bh.2.1) || decide (0≤IntKind.wrap .i64 (tn-1)),!(decide (tn>0) && !bif bif Cf==0 then true else !GB.1 then true else(↑(List.length Ez.2.1):Int) != Bh.2.1) || decide (IntKind.wrap .i64 (tn-1)<(↑(List.length (Bh.2.2.1)):Int)),!!Cf==0 || qu (Hj (Ez.1,Bh.1))] then
    bif L9 then
     some (.inr (.inl (false,())))
    else
     let L_:=List.getD Ez.1 (Int.toNat 0) 0
     let alg:Int:=pZ Go.BinOp.or Go.IntKind.u32 adp (IntKind.wrap .u32 ((1:Int)*2 ^ Min.min (Int.toNat L_) (Go.IntKind.bits Go.IntKind.u32)))
     bif kL [decide (0≤L_),true,decide (0<Cf)] then
      some (.inl (((IntKind.wrap .i64 (tn+1)),alg,(),v5,CJ),Bh))
     else none
   else none
  else none
 else
  some (.inr (.inr ((adp,()),Bh)))
def Wh.afy:((Bool)×(Unit))⊕(((Int)×(Unit))×((fy.D))):=.inl default
def Wh.FI (xs:(fy.D)):Option ((Bool)×(Unit)):=
 let c9:=xs
 b8 (zog A0 (c9.1,1,24)) fun r_1=>
 b8 (zog A0 (c9.2.1,1,16)) fun r_2=>
 let A2:=bif !r_1.1 then true else !r_2.1
 bif kL [!!!r_1.1 || qu (A0 (c9.2.1,1,16)),qu (A0 (c9.1,1,24))] then
  bif A2 then
   some (false,())
  else
   let AI:Int:=(↑(List.length (c9.2.2.1)):Int)
   iL Ht afy (((0,0,(),c9.2.2.1,AI),c9)) fun q_=>
    sumC q_ (fun y_48=>
     let I_:=y_48.1
     some (I_,())) (fun z_49=>
     let alh:=z_49.1.1
     let s_:=z_49.2
     let Ja:Int:=(↑(List.length (s_.2.2.1)):Int)
     iL LS afA (((0,alh,s_.2.2.1,Ja),())) fun q_=>
      sumC q_ (fun y_81=>
       let Jd:=y_81.1
       some (Jd,())) (fun _=>
       some (true,())))
 else none
def Wh.ID (xs:(r5.D)):Option ((Bool)×(Unit)):=
 let n4:=xs
 b8 (zog Ec n4.1) fun r_1=>
 b8 (zog FI n4.2.1) fun r_2=>
 b8 (zog ED n4.1) fun ic=>
 let A3:=bif bif bif r_1.1 then r_2.1 else false then n4.2.1.1==ic.1 else false then n4.2.1.2.1==n4.1.2.1 else false
 bif kL [(!bif r_1.1 then r_2.1 else false) || qu (ED n4.1),!r_1.1 || qu (FI n4.2.1),qu (Ec n4.1)] then
  some (A3,())
 else none
abbrev Wh.adR:Type:=((Int)×(List UInt8)×(Int))×(Unit)
abbrev Wh.alE:Type:=(((Bool)×(Unit))⊕(((List UInt8))×(Unit)))
def Wh.JV (x:adR):Option (adR⊕alE):=
 let Cw:=x.1.1
 let Qc:=x.1.2.1
 let AV:=x.1.2.2
 bif decide (Cw<AV) then
  let pg:Int:=(↑(UInt8.toNat (List.getD Qc (Int.toNat Cw) (0:UInt8))):Int)
  let AN:=bif decide (pg<97) then true else decide (pg>122)
  bif kL [!!decide (pg<97) || decide (0≤Cw),!!decide (pg<97) || decide (Cw<(↑(List.length Qc):Int)),decide (0≤Cw),decide (Cw<(↑(List.length Qc):Int))] then
   bif AN then
    some (.inr (.inl (false,())))
   else
    some (.inl (((IntKind.wrap .i64 (Cw+1)),Qc,AV),()))
  else none
 else
  some (.inr (.inr (Qc,())))
def Wh.adS:((Bool)×(Unit))⊕(((List UInt8))×(Unit)):=.inl default
def Wh.Iu (xs:(List UInt8)):Option ((Bool)×(Unit)):=
 let Be:=xs
 iL JV adS (((0,Be,(↑(List.length Be):Int)),())) fun q_=>
  sumC q_ (fun y_20=>
   let nT:=y_20.1
   some (nT,())) (fun z_21=>
   let apM:=z_21.1
   dj A0 ((↑(List.length apM):Int),1,6) fun LZ=>
    some (LZ.1,()))
abbrev Wh.afd:Type:=((Int)×(Int)×(List (gT.D))×(Int))×(Unit)
abbrev Wh.amk:Type:=((((List UInt8)×(Bool))×(Unit))⊕((Unit)×(Unit)))
def Wh.LP (x:afd):Option (afd⊕amk):=
 let pg:=x.1.1
 let Sn:=x.1.2.1
 let se:=x.1.2.2.1
 let AN:=x.1.2.2.2
 bif decide (pg<AN) then
  let Lk:=List.getD se (Int.toNat pg) ([],[],())
  bif kL [decide (0≤pg),decide (pg<(↑(List.length se):Int))] then
   let mb:Int:=(↑(List.length Lk.1):Int)
   let r_:=bif mb==1 then List.getD Lk.1 (Int.toNat 0) 0==Sn else false
   bif kL [!mb==1 || decide ((0:Int)≤0),!mb==1 || decide (0<mb)] then
    bif r_ then
     some (.inr (.inl ((Lk.2.1,true),())))
    else
     some (.inl (((IntKind.wrap .i64 (pg+1)),Sn,se,AN),()))
   else none
  else none
 else
  some (.inr (.inr ((),())))
def Wh.afe:(((List UInt8)×(Bool))×(Unit))⊕((Unit)×(Unit)):=.inl default
def Wh.q22 (xs:(fy.D)×(Int)):Option (((List UInt8)×(Bool))×(Unit)):=
 let c9:=xs.1
 let C6:=xs.2
 let v_2:Int:=(↑(List.length (c9.2.2.1)):Int)
 iL LP afe (((0,C6,c9.2.2.1,v_2),())) fun q_=>
  sumC q_ (fun KG=>
   let v5:=KG.1.1
   let CJ:=KG.1.2
   some ((v5,CJ),())) (fun _=>
   some (([],false),()))
abbrev Wh.aff:Type:=((Int)×(Unit))×((fy.D))
abbrev Wh.q2_l0Y:Type:=(((Int)×(Unit)))
def Wh.LQ (x:aff):Option (aff⊕q2_l0Y):=
 let n_7:=x.1.1
 let JE:=x.2
 bif decide (n_7<JE.1) then
  dj q22 (JE,n_7) fun A1=>
   bif(!A1.1.2) then
    some (.inr (n_7,()))
   else
    some (.inl (((IntKind.wrap .i64 (n_7+1)),()),JE))
 else
  some (.inr (n_7,()))
def Wh.afg:((Int)×(Unit)):=default
def Wh.q2 (xs:(fy.D)):Option ((Int)×(Unit)):=
 let c9:=xs
 iL LQ afg (((0,()),c9)) fun y_14=>
  let n_15:=y_14.1
  some (n_15,())
def Wh.q4 (xs:(r5.D)):Option ((Bool)×(Unit)):=
 let n4:=xs
 dj Wh.q2 n4.2.1 fun r_1=>
  some ((r_1.1==n4.2.1.1),())
def Wh.Gw (xs:(bn.D)):Option ((Bool)×(Unit)):=
 let cx:=xs
 b8 (zog IS cx.1) fun r_1=>
 b8 (zog A0 (cx.2.1,0,99999)) fun r_2=>
 b8 (zog A0 (cx.2.2.2.2.1,0,99999)) fun ic=>
 let oc:=bif bif !r_1.1 then true else !r_2.1 then true else !ic.1
 bif kL [(!!bif !r_1.1 then true else !r_2.1) || qu (A0 (cx.2.2.2.2.1,0,99999)),!!!r_1.1 || qu (A0 (cx.2.1,0,99999)),qu (IS cx.1)] then
  bif oc then
   some (false,())
  else
   let nP:=decide (cx.2.2.2.2.1>0)
   b8 (zog J2 (cx.2.2.2.2.2.1)) fun Bd=>
   b8 (zog ID (cx.2.2.2.2.2.1)) fun Ce=>
   let AV:=bif bif !nP then !Bd.1 else false then true else bif nP then !Ce.1 else false
   bif kL [!(nP && !bif !nP then !Bd.1 else false) || qu (ID (cx.2.2.2.2.2.1)),!!nP || qu (J2 (cx.2.2.2.2.2.1))] then
    bif AV then
     some (false,())
    else
     bif(cx.2.2.1==0) then
      let pg:=cx.2.2.2.1 == []
      some (bif pg then !nP else false,())
     else
      let Bq:=cx.2.1==0
      b8 (zog Iu (cx.2.2.2.1)) fun IX=>
      let AN:=bif Bq then true else !IX.1
      bif kL [!!Bq || qu (Iu (cx.2.2.2.1))] then
       bif AN then
        some (false,())
       else
        let s5:=cx.2.2.1==1
        bif s5 then
         bif s5 then
          b8 (zog Wh.q4 (cx.2.2.2.2.2.1)) fun Hz=>
          let xd:=bif !nP then true else !Hz.1
          bif kL [!!!nP || qu (Wh.q4 (cx.2.2.2.2.2.1))] then
           some (xd,())
          else none
         else
          bif(cx.2.2.1==2) then
           b8 (zog Wh.q4 (cx.2.2.2.2.2.1)) fun GA=>
           let I7:=bif nP then !GA.1 else false
           bif kL [!nP || qu (Wh.q4 (cx.2.2.2.2.2.1))] then
            some (I7,())
           else none
          else
           bif(cx.2.2.1==3) then
            b8 (zog Wh.q4 (cx.2.2.2.2.2.1)) fun FO=>
            let CJ:=bif nP then FO.1 else false
            bif kL [!nP || qu (Wh.q4 (cx.2.2.2.2.2.1))] then
             some (CJ,())
            else none
           else
            some (false,())
        else
         bif(cx.2.2.1==4) then
          b8 (zog Wh.q4 (cx.2.2.2.2.2.1)) fun Fa=>
          let Cf:=bif !nP then true else !Fa.1
          bif kL [!!!nP || qu (Wh.q4 (cx.2.2.2.2.2.1))] then
           some (Cf,())
          else none
         else
          bif(cx.2.2.1==2) then
           b8 (zog Wh.q4 (cx.2.2.2.2.2.1)) fun DJ=>
           let EK:=bif nP then !DJ.1 else false
           bif kL [!nP || qu (Wh.q4 (cx.2.2.2.2.2.1))] then
            some (EK,())
           else none
          else
           bif(cx.2.2.1==3) then
            b8 (zog Wh.q4 (cx.2.2.2.2.2.1)) fun I1=>
            let L9:=bif nP then I1.1 else false
            bif kL [!nP || qu (Wh.q4 (cx.2.2.2.2.2.1))] then
             some (L9,())
            else none
           else
            some (false,())
      else none
   else none
 else none
def Wh.q0 (xs:(bn.D)):Option (((List (eL.D)))×(Unit)):=
 let cx:=xs
 let EY:List (eL.D):=[(1,cx.1,cx.2.1,cx.2.2.2.2.1,0,cx.2.2.2.1,[],())]
 some (EY,())
def Wh.q20 (xs:(bn.D)):Option (((List (eL.D)))×(Unit)):=
 let cx:=xs
 b8 (zog Gw cx) fun r_1=>
 let v_2:=bif !r_1.1 then true else bif cx.2.2.1 != 1 then cx.2.2.1 != 2 else false
 bif kL [qu (Gw cx)] then
  bif v_2 then
   some ([],())
  else
   dj Wh.q0 cx fun r_3=>
    some (r_3.1,())
 else none
abbrev Wh.adV:Type:=((Int)×(List (eL.D))×(List (eL.D)))×(Unit)
abbrev Wh.alG:Type:=(((Bool)×(Unit))⊕((Unit)×(Unit)))
def Wh.M_ (x:adV):Option (adV⊕alG):=
 let CB:=x.1.1
 let a_18:=x.1.2.1
 let b_19:=x.1.2.2
 let mb:Int:=(↑(List.length a_18):Int)
 bif decide (CB<mb) then
  let nT:=List.getD a_18 (Int.toNat CB) (0,0,0,0,0,[],[],())
  let r_:=List.getD b_19 (Int.toNat CB) (0,0,0,0,0,[],[],())
  b8 (zog Ed nT) fun IY=>
  let Du:=bif !(nT.1==r_.1&&(nT.2.1==r_.2.1&&(nT.2.2.1==r_.2.2.1&&(nT.2.2.2.1==r_.2.2.2.1&&(nT.2.2.2.2.1==r_.2.2.2.2.1&&(nT.2.2.2.2.2.1==r_.2.2.2.2.2.1&&(nT.2.2.2.2.2.2.1==r_.2.2.2.2.2.2.1&&true))))))) then true else !IY.1
  bif kL [!!!(nT.1==r_.1&&(nT.2.1==r_.2.1&&(nT.2.2.1==r_.2.2.1&&(nT.2.2.2.1==r_.2.2.2.1&&(nT.2.2.2.2.1==r_.2.2.2.2.1&&(nT.2.2.2.2.2.1==r_.2.2.2.2.2.1&&(nT.2.2.2.2.2.2.1==r_.2.2.2.2.2.2.1&&true))))))) || qu (Ed nT),!!!(nT.1==r_.1&&(nT.2.1==r_.2.1&&(nT.2.2.1==r_.2.2.1&&(nT.2.2.2.1==r_.2.2.2.1&&(nT.2.2.2.2.1==r_.2.2.2.2.1&&(nT.2.2.2.2.2.1==r_.2.2.2.2.2.1&&(nT.2.2.2.2.2.2.1==r_.2.2.2.2.2.2.1&&true))))))) || decide (0≤CB),!!!(nT.1==r_.1&&(nT.2.1==r_.2.1&&(nT.2.2.1==r_.2.2.1&&(nT.2.2.2.1==r_.2.2.2.1&&(nT.2.2.2.2.1==r_.2.2.2.2.1&&(nT.2.2.2.2.2.1==r_.2.2.2.2.2.1&&(nT.2.2.2.2.2.2.1==r_.2.2.2.2.2.2.1&&true))))))) || decide (CB<mb),decide (0≤CB),decide (CB<(↑(List.length b_19):Int)),decide (0≤CB),decide (CB<mb)] then
   bif Du then
    some (.inr (.inl (false,())))
   else
    some (.inl (((IntKind.wrap .i64 (CB+1)),a_18,b_19),()))
  else none
 else
  some (.inr (.inr ((),())))
def Wh.adW:((Bool)×(Unit))⊕((Unit)×(Unit)):=.inl default
def Wh.Gp (xs:(List (eL.D))×(List (eL.D))):Option ((Bool)×(Unit)):=
 let Ei:=xs.1
 let b_1:=xs.2
 let v_2:Int:=(↑(List.length Ei):Int)
 let A2:Int:=(↑(List.length b_1):Int)
 let AI:=v_2 != A2
 bif AI then
  some (false,())
 else
  iL M_ adW (((0,Ei,b_1),())) fun q_=>
   sumC q_ (fun NN=>
    let GG:=NN.1
    some (GG,())) (fun _=>
    some (true,()))
def Wh.q5 (xs:(List (Int))):Option ((Bool)×(Unit)):=
 let GP:=xs
 bif decide ((↑(List.length GP):Int)>1048576) then
  some (true,())
 else
  dj Wh.q1 GP fun r_2=>
   dj q20 r_2.1 fun r_3=>
    b8 (zog FG r_2.1) fun e_=>
    b8 (zog Gw r_2.1) fun w9=>
    b8 (zog DH r_2.1) fun A1=>
    b8 (zog Gp (r_3.1,e_.1)) fun BY=>
    let Bq:=bif bif !BY.1 then true else !w9.1==A1.1 then true else !A1.1
    bif kL [(!!bif !BY.1 then true else !w9.1==A1.1) || qu (DH r_2.1),!!!BY.1 || qu (DH r_2.1),!!!BY.1 || qu (Gw r_2.1),qu (Gp (r_3.1,e_.1)),qu (FG r_2.1)] then
     bif Bq then
      bif kL [qu (Gp (r_3.1,e_.1)),qu (FG r_2.1)] then
       some (BY.1,())
      else none
     else
      let s5:=r_2.1.2.2.1==1
      let Dv:=bif s5 then true else r_2.1.2.2.1==2
      let xd:Int:=(↑(List.length r_3.1):Int)
      let tn:=bif Dv==(xd==1) then bif !Dv then true else bif bif bif(List.getD r_3.1 (Int.toNat 0) (0,0,0,0,0,[],[],())).1==1 then((((((List.getD r_3.1 (Int.toNat 0) (0,0,0,0,0,[],[],())).2).2).2).2).2).1==r_2.1.2.2.2.1 else false then((((List.getD r_3.1 (Int.toNat 0) (0,0,0,0,0,[],[],())).2).2).2).1==r_2.1.2.2.2.2.1 else false then(((List.getD r_3.1 (Int.toNat 0) (0,0,0,0,0,[],[],())).2).2).1==r_2.1.2.1 else false else false
      bif kL [!((bif bif(List.getD r_3.1 (Int.toNat 0) (0,0,0,0,0,[],[],())).1==1 then((((((List.getD r_3.1 (Int.toNat 0) (0,0,0,0,0,[],[],())).2).2).2).2).2).1==r_2.1.2.2.2.1 else false then((((List.getD r_3.1 (Int.toNat 0) (0,0,0,0,0,[],[],())).2).2).2).1==r_2.1.2.2.2.2.1 else false)&&(!!Dv&&Dv==(xd==1))) || decide ((0:Int)≤0),!((bif bif(List.getD r_3.1 (Int.toNat 0) (0,0,0,0,0,[],[],())).1==1 then((((((List.getD r_3.1 (Int.toNat 0) (0,0,0,0,0,[],[],())).2).2).2).2).2).1==r_2.1.2.2.2.1 else false then((((List.getD r_3.1 (Int.toNat 0) (0,0,0,0,0,[],[],())).2).2).2).1==r_2.1.2.2.2.2.1 else false)&&(!!Dv&&Dv==(xd==1))) || decide (0<xd),!((bif(List.getD r_3.1 (Int.toNat 0) (0,0,0,0,0,[],[],())).1==1 then((((((List.getD r_3.1 (Int.toNat 0) (0,0,0,0,0,[],[],())).2).2).2).2).2).1==r_2.1.2.2.2.1 else false)&&(!!Dv&&Dv==(xd==1))) || decide ((0:Int)≤0),!((bif(List.getD r_3.1 (Int.toNat 0) (0,0,0,0,0,[],[],())).1==1 then((((((List.getD r_3.1 (Int.toNat 0) (0,0,0,0,0,[],[],())).2).2).2).2).2).1==r_2.1.2.2.2.1 else false)&&(!!Dv&&Dv==(xd==1))) || decide (0<xd),!((List.getD r_3.1 (Int.toNat 0) (0,0,0,0,0,[],[],())).1==1&&(!!Dv&&Dv==(xd==1))) || decide ((0:Int)≤0),!((List.getD r_3.1 (Int.toNat 0) (0,0,0,0,0,[],[],())).1==1&&(!!Dv&&Dv==(xd==1))) || decide (0<xd),!(!!Dv&&Dv==(xd==1)) || decide ((0:Int)≤0),!(!!Dv&&Dv==(xd==1)) || decide (0<xd)] then
       some (tn,())
      else none
    else none
end
