import Derived.Test.YthanhdmbelbfcaaGreatX5
set_option linter.defProp false
namespace Wh
end Wh
open Wh
open Go Go.Ab
noncomputable section
def oget {α β:Type}[Inhabited β](f:α→Option β)(x:α):β:=match f x with | some y=>y|none=>default
abbrev YE:Ty:=(.pair (.int .i64) (.pair (.int .i64) (.pair .bool (.pair (.int .u8) .unit))))
abbrev YE.D:Type:=(Int)×((Int)×((Bool)×((Int)×(Unit))))
abbrev YF:Ty:=(.pair .str (.pair (.int .u64) .unit))
abbrev YF.D:Type:=(List UInt8)×((Int)×(Unit))
abbrev g7:Ty:=(.pair (.int .i64) (.pair (.int .i64) (.pair (.lst (.int .i64)) (.pair (.lst (.int .i64)) .unit))))
abbrev g7.D:Type:=(Int)×((Int)×((List (Int))×((List (Int))×(Unit))))
abbrev fy:Ty:=(.pair (.int .i64) (.pair (.int .i64) (.pair (.lst (.pair (.lst (.int .i64)) (.pair .str .unit))) .unit)))
abbrev fy.D:Type:=(Int)×((Int)×((List ((List (Int))×((List UInt8)×(Unit))))×(Unit)))
abbrev r5:Ty:=(.pair g7 (.pair fy .unit))
abbrev r5.D:Type:=(g7.D)×((fy.D)×(Unit))
abbrev bn:Ty:=(.pair (.int .i64) (.pair (.int .i64) (.pair (.int .i64) (.pair .str (.pair (.int .i64) (.pair r5 .unit))))))
abbrev bn.D:Type:=(Int)×((Int)×((Int)×((List UInt8)×((Int)×((r5.D)×(Unit))))))
abbrev eL:Ty:=(.pair (.int .i64) (.pair (.int .i64) (.pair (.int .i64) (.pair (.int .i64) (.pair (.int .i64) (.pair .str (.pair .str .unit)))))))
abbrev eL.D:Type:=(Int)×((Int)×((Int)×((Int)×((Int)×((List UInt8)×((List UInt8)×(Unit)))))))
abbrev gv:Ty:=(.pair (.int .i64) (.pair (.lst (.pair (.int .i64) (.pair .str (.pair (.int .i64) (.pair .str .unit))))) .unit))
abbrev gv.D:Type:=(Int)×((List ((Int)×((List UInt8)×((Int)×((List UInt8)×(Unit))))))×(Unit))
abbrev je:Ty:=(.pair (.lst (.pair (.int .i64) (.pair (.int .i64) (.pair (.int .i64) (.pair (.int .i64) (.pair .bool .unit)))))) (.pair (.int .i64) .unit))
abbrev je.D:Type:=(List ((Int)×((Int)×((Int)×((Int)×((Bool)×(Unit)))))))×((Int)×(Unit))
abbrev b7:Ty:=(.pair .bool (.pair (.int .i64) (.pair .str (.pair gv (.pair je (.pair (.lst (.pair (.int .i64) (.pair (.int .i64) (.pair (.int .i64) (.pair (.int .i64) .unit))))) (.pair (.lst (.pair (.int .i64) (.pair (.int .i64) (.pair (.int .i64) (.pair (.int .i64) (.pair (.int .i64) (.pair (.int .i64) .unit))))))) .unit)))))))
abbrev b7.D:Type:=(Bool)×((Int)×((List UInt8)×((gv.D)×((je.D)×((List ((Int)×((Int)×((Int)×((Int)×(Unit))))))×((List ((Int)×((Int)×((Int)×((Int)×((Int)×((Int)×(Unit))))))))×(Unit)))))))
abbrev fN:Ty:=(.pair b7 (.pair (.lst bn) (.pair (.lst (.pair (.int .i64) (.pair .str (.pair .bool .unit)))) (.pair (.lst (.pair (.int .i64) (.pair .str (.pair (.int .i64) (.pair .str .unit))))) .unit))))
abbrev fN.D:Type:=(b7.D)×((List (bn.D))×((List ((Int)×((List UInt8)×((Bool)×(Unit)))))×((List ((Int)×((List UInt8)×((Int)×((List UInt8)×(Unit))))))×(Unit))))
abbrev dz:Ty:=(.pair (.lst (.int .u8)) (.pair (.int .i64) .unit))
abbrev dz.D:Type:=(List (Int))×((Int)×(Unit))
abbrev gT:Ty:=(.pair (.lst (.int .i64)) (.pair .str .unit))
abbrev gT.D:Type:=(List (Int))×((List UInt8)×(Unit))
abbrev an:Ty:=(.pair (.int .i64) (.pair .str (.pair (.int .i64) (.pair .str .unit))))
abbrev an.D:Type:=(Int)×((List UInt8)×((Int)×((List UInt8)×(Unit))))
abbrev b9:Ty:=(.pair (.int .i64) (.pair .str (.pair .bool .unit)))
abbrev b9.D:Type:=(Int)×((List UInt8)×((Bool)×(Unit)))
abbrev di:Ty:=(.pair (.int .i64) (.pair (.int .i64) (.pair (.int .i64) (.pair .str (.pair .str (.pair .bool .unit))))))
abbrev di.D:Type:=(Int)×((Int)×((Int)×((List UInt8)×((List UInt8)×((Bool)×(Unit))))))
abbrev cw:Ty:=(.pair (.int .i64) (.pair (.int .i64) (.pair (.int .i64) (.pair (.int .i64) .unit))))
abbrev cw.D:Type:=(Int)×((Int)×((Int)×((Int)×(Unit))))
abbrev Bp:Ty:=(.pair (.int .i64) (.pair (.int .i64) (.pair (.int .i64) .unit)))
abbrev Bp.D:Type:=(Int)×((Int)×((Int)×(Unit)))
abbrev cp:Ty:=(.pair (.int .i64) (.pair (.int .i64) cw))
abbrev cp.D:Type:=(Int)×((Int)×(cw.D))
abbrev cg:Ty:=(.pair (.int .i64) (.pair (.int .i64) (.pair (.int .i64) (.pair (.int .i64) (.pair .bool .unit)))))
abbrev cg.D:Type:=(Int)×((Int)×((Int)×((Int)×((Bool)×(Unit)))))
def Wh.JY (xs:(List (Int))):Option (((dz.D))×(Unit)):=
 let GP:=xs
 bif decide ((↑(List.length GP):Int)>2000) then
  let v_2:List Int:=List.take (Int.toNat ((2000:Int)-0)) (List.drop (Int.toNat 0) GP)
  bif kL [true,true,decide (2000≤(↑(List.length GP):Int))] then
   some ((v_2,0,()),())
  else none
 else
  some ((GP,0,()),())
def Wh.He (_:Unit):Option ((((List (cg.D))×((Int)×(Unit))))×(Unit)):=
 let pb_0:List (cg.D):=[(0,0,0,0,false,()),(0,0,0,0,false,()),(0,0,0,0,false,()),(0,0,0,0,false,()),(0,0,0,0,false,()),(0,0,0,0,false,()),(0,0,0,0,false,()),(0,0,0,0,false,())]
 some ((pb_0,0,()),())
abbrev Wh.afj:Type:=((Int)×(Int)×(Unit))×((List (cw.D)))
abbrev Wh.amm:Type:=(((Unit)×((List (cw.D)))))
def Wh.LR (x:afj):Option (afj⊕amm):=
 let h_8:=x.1.1
 let now_9:=x.1.2.1
 let Ic:=x.2
 bif decide (h_8<2) then
  let XZ:List (cw.D):=[(40,40,8,now_9,())]
  let S9:List (cw.D):=Ic++XZ
  bif kL [decide (List.length Ic+(1:Nat)≤eV)] then
   some (.inl (((IntKind.wrap .i64 (h_8+1)),now_9,()),S9))
  else none
 else
  some (.inr ((),Ic))
def Wh.afk:((Unit)×((List (cw.D)))):=default
def Wh.Hr (xs:(Int)):Option (((List (cw.D)))×(Unit)):=
 let now_0:=xs
 iL LR afk (((0,now_0,()),[])) fun y_16=>
  let we:=y_16.2
  some (we,())
def Wh.q40 (_:Unit):Option ((((Bool)×((Int)×((List UInt8)×(((Int)×((List (an.D))×(Unit)))×(((List (cg.D))×((Int)×(Unit)))×((List (cw.D))×((List (cp.D))×(Unit)))))))))×(Unit)):=
 b8 (zog He ()) fun vT=>
 b8 (zog Hr 0) fun r_1=>
 bif kL [qu (Hr 0),qu (He ())] then
  some ((true,0,[],(0,[],()),vT.1,r_1.1,[],()),())
 else none
def Wh.g8 (xs:(Int)×(Int)×(Int)):Option ((Bool)×(Unit)):=
 let Dl:=xs.1
 let Xr:=xs.2.1
 let Xa:=xs.2.2
 let n_:=bif decide (Dl≥Xr) then decide (Dl≤Xa) else false
 some (n_,())
def Wh.q38 (xs:(Int)):Option ((((Int)×((Int)×((Int)×((List UInt8)×((Int)×((((Int)×((Int)×((List (Int))×((List (Int))×(Unit)))))×(((Int)×((Int)×((List (gT.D))×(Unit))))×(Unit)))×(Unit))))))))×(Unit)):=
 let id_0:=xs
 dj g8 (id_0,0,3) fun r_1=>
  bif !r_1.1 then
   some ((0,0,0,[],0,((0,0,[],[],()),(0,0,[],()),()),()),())
  else
   some ((id_0,0,0,[],0,((0,0,[],[],()),(0,0,[],()),()),()),())
abbrev Wh.afL:Type:=((Int)×(Unit)×(Unit))×((((Bool)×((Int)×((List UInt8)×(((Int)×((Unit)×(Unit)))×(((Unit)×((Int)×(Unit)))×((Unit)×((Unit)×(Unit))))))))×((Unit)×((Unit)×((Unit)×(Unit)))))×(((Bool)×((Int)×((List UInt8)×(((Int)×((Unit)×(Unit)))×(((Unit)×((Int)×(Unit)))×((Unit)×((Unit)×(Unit))))))))×((Unit)×((Unit)×((Unit)×(Unit)))))×(List (an.D))×(List (cg.D))×(List (cw.D))×(List (cp.D))×(List (bn.D))×(List (b9.D))×(List (an.D))×(List (an.D))×(List (cg.D))×(List (cw.D))×(List (cp.D))×(List (bn.D))×(List (b9.D))×(List (an.D)))
abbrev Wh.amA:Type:=((((Unit)×(Unit))×((((Bool)×((Int)×((List UInt8)×(((Int)×((Unit)×(Unit)))×(((Unit)×((Int)×(Unit)))×((Unit)×((Unit)×(Unit))))))))×((Unit)×((Unit)×((Unit)×(Unit)))))×(((Bool)×((Int)×((List UInt8)×(((Int)×((Unit)×(Unit)))×(((Unit)×((Int)×(Unit)))×((Unit)×((Unit)×(Unit))))))))×((Unit)×((Unit)×((Unit)×(Unit)))))×(List (an.D))×(List (cg.D))×(List (cw.D))×(List (cp.D))×(List (bn.D))×(List (b9.D))×(List (an.D))×(List (an.D))×(List (cg.D))×(List (cw.D))×(List (cp.D))×(List (bn.D))×(List (b9.D))×(List (an.D)))))
def Wh.PK (x:afL):Option (afL⊕amA):=
 let Dd:=x.1.1
 let nE:=x.2.1.1.1
 let A6:=x.2.1.1.2.1
 let AP:=x.2.1.1.2.2.1
 let AE:=x.2.1.1.2.2.2.1.1
 let AF:=x.2.1.1.2.2.2.1.2.2
 let nI:=x.2.1.1.2.2.2.2.1.2
 let x3:=x.2.1.1.2.2.2.2.2.2.2
 let vN:=x.2.1.2.2.2.2
 let wX:=x.2.2.1.1.1
 let AQ:=x.2.2.1.1.2.1
 let qe:=x.2.2.1.1.2.2.1
 let z4:=x.2.2.1.1.2.2.2.1.1
 let nG:=x.2.2.1.1.2.2.2.1.2.2
 let wh:=x.2.2.1.1.2.2.2.2.1.2
 let s_:=x.2.2.1.1.2.2.2.2.2.2.2
 let Ax:=x.2.2.1.2.2.2.2
 let AR:=x.2.2.2.1
 let AG:=x.2.2.2.2.1
 let nS:=x.2.2.2.2.2.1
 let AA:=x.2.2.2.2.2.2.1
 let Cl:=x.2.2.2.2.2.2.2.1
 let Cb:=x.2.2.2.2.2.2.2.2.1
 let Ba:=x.2.2.2.2.2.2.2.2.2.1
 let BK:=x.2.2.2.2.2.2.2.2.2.2.1
 let Cc:=x.2.2.2.2.2.2.2.2.2.2.2.1
 let Bb:=x.2.2.2.2.2.2.2.2.2.2.2.2.1
 let AU:=x.2.2.2.2.2.2.2.2.2.2.2.2.2.1
 let BL:=x.2.2.2.2.2.2.2.2.2.2.2.2.2.2.1
 let CR:=x.2.2.2.2.2.2.2.2.2.2.2.2.2.2.2.1
 let BA:=x.2.2.2.2.2.2.2.2.2.2.2.2.2.2.2.2
 bif decide (Dd<4) then
  b8 (zog q38 Dd) fun r_69=>
  let Bk:=Cl ++ [r_69.1]
  bif kL [decide (List.length Cl+(1:Nat)≤eV),qu (q38 Dd)] then
   some (.inl (((IntKind.wrap .i64 (Dd+1)),(),()),((nE,A6,AP,(AE,(),AF),((),nI),(),(),x3),(),(),(),vN),((wX,AQ,qe,(z4,(),nG),((),wh),(),(),s_),(),(),(),Ax),AR,AG,nS,AA,Bk,Cb,Ba,BK,Cc,Bb,AU,BL,CR,BA))
  else none
 else
  some (.inr (((),()),((wX,AQ,qe,(z4,(),nG),((),wh),(),(),s_),(),(),(),Ax),((nE,A6,AP,(AE,(),AF),((),nI),(),(),x3),(),(),(),vN),BK,Cc,Bb,AU,BL,CR,BA,AR,AG,nS,AA,Cl,Cb,Ba))
def Wh.afM:(((Unit)×(Unit))×((((Bool)×((Int)×((List UInt8)×(((Int)×((Unit)×(Unit)))×(((Unit)×((Int)×(Unit)))×((Unit)×((Unit)×(Unit))))))))×((Unit)×((Unit)×((Unit)×(Unit)))))×(((Bool)×((Int)×((List UInt8)×(((Int)×((Unit)×(Unit)))×(((Unit)×((Int)×(Unit)))×((Unit)×((Unit)×(Unit))))))))×((Unit)×((Unit)×((Unit)×(Unit)))))×(List (an.D))×(List (cg.D))×(List (cw.D))×(List (cp.D))×(List (bn.D))×(List (b9.D))×(List (an.D))×(List (an.D))×(List (cg.D))×(List (cw.D))×(List (cp.D))×(List (bn.D))×(List (b9.D))×(List (an.D)))):=(default,(default,default,default,default,default,default,default,default,default,default,default,default,default,default,default,default))
def Wh.q64 (_:Unit):Option (((fN.D))×(Unit)):=
 dj q40 () fun vT=>
  iL PK afM (((0,(),()),((vT.1.1,vT.1.2.1,vT.1.2.2.1,(vT.1.2.2.2.1.1,(),vT.1.2.2.2.1.2.2),((),vT.1.2.2.2.2.1.2),(),(),vT.1.2.2.2.2.2.2.2),(),(),(),()),((false,0,[],(0,(),()),((),0,()),(),(),()),(),(),(),()),vT.1.2.2.2.1.2.1,vT.1.2.2.2.2.1.1,vT.1.2.2.2.2.2.1,vT.1.2.2.2.2.2.2.1,[],[],[],[],[],[],[],[],[],[])) fun Bw=>
   let DF:=Bw.2.2.1.1.1
   let CU:=Bw.2.2.1.1.2.1
   let Dj:=Bw.2.2.1.1.2.2.1
   let Ld:=Bw.2.2.1.1.2.2.2.1.1
   let Pk:=Bw.2.2.1.1.2.2.2.1.2.2
   let Pm:=Bw.2.2.1.1.2.2.2.2.1.2
   let Le:=Bw.2.2.1.1.2.2.2.2.2.2.2
   let XD:=Bw.2.2.1.2.2.2.2
   let Fv:=Bw.2.2.2.2.2.2.2.2.2.2.1
   let Il:=Bw.2.2.2.2.2.2.2.2.2.2.2.1
   let MT:=Bw.2.2.2.2.2.2.2.2.2.2.2.2.1
   let K7:=Bw.2.2.2.2.2.2.2.2.2.2.2.2.2.1
   let Df:=Bw.2.2.2.2.2.2.2.2.2.2.2.2.2.2.1
   let Ie:=Bw.2.2.2.2.2.2.2.2.2.2.2.2.2.2.2.1
   let Ay:=Bw.2.2.2.2.2.2.2.2.2.2.2.2.2.2.2.2
   some (((DF,CU,Dj,(Ld,Fv,Pk),(Il,Pm),MT,K7,Le),Df,Ie,Ay,XD),())
def Wh.m6 (xs:(dz.D)×(Int)):Option ((Int)×((dz.D)×Unit)):=
 let vT:=xs.1
 let n_1:=xs.2
 let BV:=IntKind.wrap .i64 (vT.2.1+1)
 let AI:=bif decide (n_1<1) then true else(↑(List.length vT.1):Int)==0
 bif AI then
  some (0,(vT.1,BV,vT.2.2),())
 else
  let n_:=IntKind.wrap .i64 (BV-1)
  let oc:Int:=(↑(List.length vT.1):Int)
  bif decide (n_<oc) then
   let FW:=List.getD vT.1 (Int.toNat n_) 0
   bif kL [n_1 != 0,decide (0≤n_),decide (n_<oc)] then
    some (Int.tmod (IntKind.wrap .i64 FW) n_1,(vT.1,BV,vT.2.2),())
   else none
  else
   let BO:=IntKind.wrap .i64 (n_*7)
   let x_25:=IntKind.wrap .i64 (IntKind.wrap .i64 (IntKind.wrap .i64 (IntKind.wrap .i64 (IntKind.wrap .i64 (List.getD vT.1 (Int.toNat (Int.tmod n_ oc)) 0)*131)+IntKind.wrap .i64 (IntKind.wrap .i64 (List.getD vT.1 (Int.toNat (Int.tmod (IntKind.wrap .i64 (BO+3)) oc)) 0)*1117))+(IntKind.wrap .i64 (n_*29)))+IntKind.wrap .i64 (IntKind.wrap .i64 (Int.tdiv n_ oc)*53))
   bif kL [oc != 0,decide (0≤Int.tmod (IntKind.wrap .i64 (BO+3)) oc),decide (Int.tmod (IntKind.wrap .i64 (BO+3)) oc<oc),oc != 0,decide (0≤Int.tmod n_ oc),decide (Int.tmod n_ oc<oc),oc != 0] then
    bif kL [n_1 != 0] then
     some ((Int.tmod (pZ Go.BinOp.xor Go.IntKind.i64 x_25 (IntKind.wrap .i64 (Int.tdiv x_25 64))) n_1),(vT.1,BV,vT.2.2),())
    else none
   else none
def Wh.Lu (xs:(dz.D)×(List (List UInt8))):Option (((List UInt8))×((dz.D)×Unit)):=
 let vT:=xs.1
 let Xp:=xs.2
 b8 (zog m6 (vT,(↑(List.length Xp):Int))) fun r_2=>
 let A2:Int:=(↑(List.length Xp):Int)
 let oc:=List.getD Xp (Int.toNat r_2.1) []
 bif kL [decide (0≤r_2.1),decide (r_2.1<A2),qu (m6 (vT,A2))] then
  some (oc,r_2.2.1,())
 else none
def Wh.BX (xs:(Int)):Option ((Int)×(Unit)):=
 let Wu:=xs
 some ((Int.tmod Wu 2),())
def Wh.JS (xs:(Bool)):Option ((Int)×(Unit)):=
 let BF:=xs
 bif BF then
  some (1,())
 else
  some (0,())
abbrev Wh.afR:Type:=((Int)×(Unit)×(Unit)×(Int))×((dz.D)×(List (Int)))
abbrev Wh.amD:Type:=(((Unit)×((dz.D)×(List (Int)))))
def Wh.PM (x:afR):Option (afR⊕amD):=
 let CA:=x.1.1
 let abr:=x.1.2.2.2
 let X2:=x.2.1
 let Aw:=x.2.2
 bif decide (CA<abr) then
  b8 (zog m6 (X2,8)) fun C_=>
  let Ca:=Aw ++ [(↑(UInt8.toNat (List.getD [(97:UInt8),(98:UInt8),(99:UInt8),(100:UInt8),(101:UInt8),(102:UInt8),(103:UInt8),(104:UInt8)] (Int.toNat C_.1) (0:UInt8))):Int)]
  bif kL [decide (List.length Aw+(1:Nat)≤eV),decide (0≤C_.1),decide (C_.1<(↑(8:Nat):Int)),qu (m6 (X2,8))] then
   some (.inl (((IntKind.wrap .i64 (CA+1)),(),(),abr),C_.2.1,Ca))
  else none
 else
  some (.inr ((),X2,Aw))
def Wh.afS:((Unit)×((dz.D)×(List (Int)))):=default
def Wh.Hu (xs:(dz.D)×(Int)):Option (((List UInt8))×((dz.D)×Unit)):=
 let vT:=xs.1
 let long_1:=xs.2
 iL PM afS (((0,(),(),long_1),vT,[])) fun HH=>
  let JG:=HH.2.1
  let A_:=HH.2.2
  some (tv A_,JG,())
def Wh.q19 (x:((Unit)×(Int)×(Int))×((dz.D)×(di.D))):Option ((((Bool)×(Unit)×(Int))×((dz.D)×(di.D)))):=
 let ZV:=x.1.2.1
 let v_435:=x.1.2.2
 let adm:=x.2.1
 let abK:=x.2.2
 let v_438:=v_435==24
 bif v_438 then
  some (((v_438,(),ZV),adm,abK))
 else
  let v_439:=v_435==25
  some (((v_439,(),ZV),adm,abK))
def Wh.TQ (x:((Unit)×(Int)×(Int))×((dz.D)×(di.D))):(((Bool)×(Unit)×(Int))×((dz.D)×(di.D))):=match q19 x with | some y=>y|none=>default
def Wh.q19_v (x:((Unit)×(Int)×(Int))×((dz.D)×(di.D)))(y:(((Bool)×(Unit)×(Int))×((dz.D)×(di.D))))(h:q19 x=some y):TQ x=y:=by unfold TQ;rw[h]
def Wh.q18 (x:((Unit)×(Int)×(Int))×((dz.D)×(di.D))):Option ((((Bool)×(Unit)×(Int)×(Int))×((dz.D)×(di.D)))):=
 let ZU:=x.1.2.1
 let Uu:=x.1.2.2
 let adk:=x.2.1
 let abJ:=x.2.2
 let v_419:=Uu==22
 bif v_419 then
  some (((v_419,(),ZU,Uu),adk,abJ))
 else
  let v_420:=Uu==23
  some (((v_420,(),ZU,Uu),adk,abJ))
def Wh.TP (x:((Unit)×(Int)×(Int))×((dz.D)×(di.D))):(((Bool)×(Unit)×(Int)×(Int))×((dz.D)×(di.D))):=match q18 x with | some y=>y|none=>default
def Wh.q18_v (x:((Unit)×(Int)×(Int))×((dz.D)×(di.D)))(y:(((Bool)×(Unit)×(Int)×(Int))×((dz.D)×(di.D))))(h:q18 x=some y):TP x=y:=by unfold TP;rw[h]
def Wh.q17 (x:((Unit)×(Unit)×(Int)×(List UInt8)×(Int))×((dz.D)×(di.D))):Option ((((Bool)×(Unit)×(Unit)×(Int)×(List UInt8)×(Int))×((dz.D)×(di.D)))):=
 let ZT:=x.1.2.2.1
 let acX:=x.1.2.2.2.1
 let Us:=x.1.2.2.2.2
 let adi:=x.2.1
 let abI:=x.2.2
 let v_357:=Us==17
 bif v_357 then
  some (((v_357,(),(),ZT,acX,Us),adi,abI))
 else
  let v_358:=Us==18
  some (((v_358,(),(),ZT,acX,Us),adi,abI))
def Wh.TM (x:((Unit)×(Unit)×(Int)×(List UInt8)×(Int))×((dz.D)×(di.D))):(((Bool)×(Unit)×(Unit)×(Int)×(List UInt8)×(Int))×((dz.D)×(di.D))):=match q17 x with | some y=>y|none=>default
def Wh.q17_v (x:((Unit)×(Unit)×(Int)×(List UInt8)×(Int))×((dz.D)×(di.D)))(y:(((Bool)×(Unit)×(Unit)×(Int)×(List UInt8)×(Int))×((dz.D)×(di.D))))(h:q17 x=some y):TM x=y:=by unfold TM;rw[h]
def Wh.q16 (x:((Unit)×(Unit)×(Int)×(List UInt8)×(Int))×((dz.D)×(di.D))):Option ((((Bool)×(Unit)×(Unit)×(Int)×(List UInt8)×(Int))×((dz.D)×(di.D)))):=
 let Jl:=x.1.2.2.1
 let JF:=x.1.2.2.2.1
 let D0:=x.1.2.2.2.2
 let JH:=x.2.1
 let JD:=x.2.2
 let v_329:=D0==9
 bif v_329 then
  some (((v_329,(),(),Jl,JF,D0),JH,JD))
 else
  let v_330:=D0==10
  bif v_330 then
   some (((v_330,(),(),Jl,JF,D0),JH,JD))
  else
   let v_331:=D0==11
   bif v_331 then
    some (((v_331,(),(),Jl,JF,D0),JH,JD))
   else
    let v_332:=D0==12
    bif v_332 then
     some (((v_332,(),(),Jl,JF,D0),JH,JD))
    else
     let v_333:=D0==13
     bif v_333 then
      some (((v_333,(),(),Jl,JF,D0),JH,JD))
     else
      let v_334:=D0==14
      bif v_334 then
       some (((v_334,(),(),Jl,JF,D0),JH,JD))
      else
       let v_335:=D0==15
       bif v_335 then
        some (((v_335,(),(),Jl,JF,D0),JH,JD))
       else
        let v_336:=D0==16
        some (((v_336,(),(),Jl,JF,D0),JH,JD))
def Wh.TL (x:((Unit)×(Unit)×(Int)×(List UInt8)×(Int))×((dz.D)×(di.D))):(((Bool)×(Unit)×(Unit)×(Int)×(List UInt8)×(Int))×((dz.D)×(di.D))):=match q16 x with | some y=>y|none=>default
def Wh.q16_v (x:((Unit)×(Unit)×(Int)×(List UInt8)×(Int))×((dz.D)×(di.D)))(y:(((Bool)×(Unit)×(Unit)×(Int)×(List UInt8)×(Int))×((dz.D)×(di.D))))(h:q16 x=some y):TL x=y:=by unfold TL;rw[h]
def Wh.q15 (x:((Unit)×(List UInt8)×(Int)×(Unit)×(Int)×(Int))×((dz.D)×(di.D))):Option ((((Bool)×(Unit)×(List UInt8)×(Int)×(Unit)×(Int)×(Int))×((dz.D)×(di.D)))):=
 let XS:=x.1.2.1
 let YO:=x.1.2.2.1
 let Wl:=x.1.2.2.2.2.1
 let NF:=x.1.2.2.2.2.2
 let X7:=x.2.1
 let XC:=x.2.2
 let v_295:=NF==4
 bif v_295 then
  some (((v_295,(),XS,YO,(),Wl,NF),X7,XC))
 else
  let v_296:=NF==5
  bif v_296 then
   some (((v_296,(),XS,YO,(),Wl,NF),X7,XC))
  else
   let v_297:=NF==6
   some (((v_297,(),XS,YO,(),Wl,NF),X7,XC))
def Wh.TK (x:((Unit)×(List UInt8)×(Int)×(Unit)×(Int)×(Int))×((dz.D)×(di.D))):(((Bool)×(Unit)×(List UInt8)×(Int)×(Unit)×(Int)×(Int))×((dz.D)×(di.D))):=match q15 x with | some y=>y|none=>default
def Wh.q15_v (x:((Unit)×(List UInt8)×(Int)×(Unit)×(Int)×(Int))×((dz.D)×(di.D)))(y:(((Bool)×(Unit)×(List UInt8)×(Int)×(Unit)×(Int)×(Int))×((dz.D)×(di.D))))(h:q15 x=some y):TK x=y:=by unfold TK;rw[h]
def Wh.q14 (x:((Unit)×(Unit)×(List UInt8)×(Int)×(Int)×(Int))×((dz.D)×(di.D))):Option ((((Bool)×(Unit)×(Unit)×(List UInt8)×(Int)×(Int)×(Int))×((dz.D)×(di.D)))):=
 let XQ:=x.1.2.2.1
 let YN:=x.1.2.2.2.1
 let Wk:=x.1.2.2.2.2.1
 let ND:=x.1.2.2.2.2.2
 let X4:=x.2.1
 let Gd:=x.2.2
 let v_202:=ND==0
 bif v_202 then
  some (((v_202,(),(),XQ,YN,Wk,ND),X4,Gd))
 else
  let v_203:=ND==1
  bif v_203 then
   some (((v_203,(),(),XQ,YN,Wk,ND),X4,Gd))
  else
   let v_204:=ND==2
   some (((v_204,(),(),XQ,YN,Wk,ND),X4,Gd))
def Wh.TJ (x:((Unit)×(Unit)×(List UInt8)×(Int)×(Int)×(Int))×((dz.D)×(di.D))):(((Bool)×(Unit)×(Unit)×(List UInt8)×(Int)×(Int)×(Int))×((dz.D)×(di.D))):=match q14 x with | some y=>y|none=>default
def Wh.q14_v (x:((Unit)×(Unit)×(List UInt8)×(Int)×(Int)×(Int))×((dz.D)×(di.D)))(y:(((Bool)×(Unit)×(Unit)×(List UInt8)×(Int)×(Int)×(Int))×((dz.D)×(di.D))))(h:q14 x=some y):TJ x=y:=by unfold TJ;rw[h]
def Wh.q13 (x:((Unit)×(Unit)×(Int)×(List UInt8)×(Int)×(Unit))×((dz.D)×(di.D)×(fN.D))):Option (((Unit)×((dz.D)×(di.D)))⊕(((Unit)×(Unit)×(List UInt8)×(Int)×(Int))×((dz.D)×(di.D)))):=
 let D3:=x.1.2.2.1
 let acU:=x.1.2.2.2.1
 let ZS:=x.1.2.2.2.2.1
 let adg:=x.2.1
 let MV:=x.2.2.1
 let Ik:=x.2.2.2
 let L8:Int:=(↑(List.length Ik.2.1):Int)
 let v_153:=bif decide (D3<L8) then bif(((List.getD Ik.2.1 (Int.toNat D3) (0,0,0,[],0,((0,0,[],[],()),(0,0,[],()),()),())).2).2).1==2 then true else(((List.getD Ik.2.1 (Int.toNat D3) (0,0,0,[],0,((0,0,[],[],()),(0,0,[],()),()),())).2).2).1==1 else false
 bif kL [!(!(((List.getD Ik.2.1 (Int.toNat D3) (0,0,0,[],0,((0,0,[],[],()),(0,0,[],()),()),())).2).2).1==2&&decide (D3<L8)) || decide (0≤D3),!(!(((List.getD Ik.2.1 (Int.toNat D3) (0,0,0,[],0,((0,0,[],[],()),(0,0,[],()),()),())).2).2).1==2&&decide (D3<L8)) || decide (D3<L8),!decide (D3<L8) || decide (0≤D3),!decide (D3<L8) || decide (D3<L8)] then
  bif v_153 then
   dj m6 (adg,3) fun TV=>
    bif(TV.1==0) then
     b8 (zog m6 (TV.2.1,4)) fun PO=>
     b8 (zog m6 (PO.2.1,2)) fun Yh=>
     b8 (zog JS (Yh.1==0)) fun r_159=>
     let Xz:=List.getD [(6:Int),6,7,8] (Int.toNat PO.1) 0
     bif kL [qu (JS (Yh.1==0)),qu (m6 (PO.2.1,2)),decide (0≤PO.1),decide (PO.1<(↑(4:Nat):Int)),qu (m6 (TV.2.1,4))] then
      some (.inl (((),Yh.2.1,Xz,(IntKind.wrap .i64 (D3*r_159.1)),0,[],[],false,())))
     else none
    else
     some (.inr ((((),(),acU,D3,ZS),TV.2.1,MV)))
  else
   some (.inr ((((),(),acU,D3,ZS),adg,MV)))
 else none
def Wh.TH (x:((Unit)×(Unit)×(Int)×(List UInt8)×(Int)×(Unit))×((dz.D)×(di.D)×(fN.D))):((Unit)×((dz.D)×(di.D)))⊕(((Unit)×(Unit)×(List UInt8)×(Int)×(Int))×((dz.D)×(di.D))):=match q13 x with | some y=>y|none=>.inl default
def Wh.q13_v (x:((Unit)×(Unit)×(Int)×(List UInt8)×(Int)×(Unit))×((dz.D)×(di.D)×(fN.D)))(y:((Unit)×((dz.D)×(di.D)))⊕(((Unit)×(Unit)×(List UInt8)×(Int)×(Int))×((dz.D)×(di.D))))(h:q13 x=some y):TH x=y:=by unfold TH;rw[h]
abbrev Wh.afN:Type:=((Int)×(Unit)×(Int)×(Unit)×(Unit)×(List UInt8)×(Int))×((dz.D)×(fN.D)×(di.D))
abbrev Wh.amB:Type:=((((Unit)×(Unit)×(Int)×(List UInt8)×(Int)×(Unit))×((dz.D)×(di.D)×(fN.D))))
def Wh.Nh (x:afN):Option (afN⊕amB):=
 let H_:=x.1.1
 let Ql:=x.1.2.2.1
 let acZ:=x.1.2.2.2.2.2.1
 let Wn:=x.1.2.2.2.2.2.2
 let Tw:=x.2.1
 let BA:=x.2.2.1
 let Cr:=x.2.2.2
 let Fb:Int:=(↑(List.length (BA.1.2.2.2.1.2.1)):Int)
 bif decide (H_<Fb) then
  let Tx:an.D:=List.getD (BA.1.2.2.2.1.2.1) (Int.toNat H_) (0,[],0,[],())
  bif kL [decide (0≤H_),decide (H_<Fb)] then
   b8 (zog BX Ql) fun Ku=>
   b8 (zog m6 (Tw,2)) fun r_73=>
   let M6:dz.D:=bif Tx.1==Ku.1 then r_73.2.1 else Tw
   let v_77:=bif Tx.1==Ku.1 then r_73.1==0 else false
   bif kL [!Tx.1==Ku.1 || qu (m6 (Tw,2)),qu (BX Ql)] then
    bif v_77 then
     some (.inl (((IntKind.wrap .i64 (H_+1)),(),Ql,(),(),Tx.2.1,Wn),M6,BA,Cr))
    else
     some (.inl (((IntKind.wrap .i64 (H_+1)),(),Ql,(),(),acZ,Wn),M6,BA,Cr))
   else none
  else none
 else
  some (.inr (((),(),Ql,acZ,Wn,()),Tw,Cr,BA))
def Wh.afO:(((Unit)×(Unit)×(Int)×(List UInt8)×(Int)×(Unit))×((dz.D)×(di.D)×(fN.D))):=default
def Wh.q12 (x:((Unit)×(Int)×(Unit)×(Unit)×(List UInt8)×(Int))×((dz.D)×(fN.D)×(di.D))):Option ((((Unit)×(Unit)×(Int)×(List UInt8)×(Int)×(Unit))×((dz.D)×(di.D)×(fN.D)))):=
 let ag5:=x.1.2.1
 let ac0:=x.1.2.2.2.2.1
 let at_90:=x.1.2.2.2.2.2
 let pb_91:=x.2.1
 let MX:=x.2.2.1
 let MY:=x.2.2.2
 dj m6 (pb_91,3) fun r_94=>
  bif decide (r_94.1>0) then
   iL Nh afO (((0,(),ag5,(),(),ac0,at_90),r_94.2.1,MX,MY)) fun NT=>
    let who_98:=NT.1.2.2.1
    let ajC:=NT.1.2.2.2.1
    let at_100:=NT.1.2.2.2.2.1
    let pb_101:=NT.2.1
    let Df:=NT.2.2.1
    let Ie:=NT.2.2.2
    some ((((),(),who_98,ajC,at_100,()),pb_101,Df,Ie))
  else
   some ((((),(),ag5,ac0,at_90,()),r_94.2.1,MY,MX))
def Wh.TG (x:((Unit)×(Int)×(Unit)×(Unit)×(List UInt8)×(Int))×((dz.D)×(fN.D)×(di.D))):(((Unit)×(Unit)×(Int)×(List UInt8)×(Int)×(Unit))×((dz.D)×(di.D)×(fN.D))):=match q12 x with | some y=>y|none=>default
def Wh.q12_v (x:((Unit)×(Int)×(Unit)×(Unit)×(List UInt8)×(Int))×((dz.D)×(fN.D)×(di.D)))(y:(((Unit)×(Unit)×(Int)×(List UInt8)×(Int)×(Unit))×((dz.D)×(di.D)×(fN.D))))(h:q12 x=some y):TG x=y:=by unfold TG;rw[h]
def Wh.q11 (x:((Unit)×(Unit)×(Unit)×(Int))×((dz.D)×(fN.D)×(di.D))):Option ((((Unit)×(Unit)×(Unit)×(Int))×((dz.D)×(fN.D)×(di.D)))):=
 let Sn:=x.1.2.2.2
 let Pv:=x.2.1
 let we:=x.2.2.1
 let AX:=x.2.2.2
 b8 (zog m6 (Pv,2)) fun Hz=>
 let BM:dz.D:=bif decide ((↑(List.length (we.2.2.1)):Int)>0) then Hz.2.1 else Pv
 let xd:Int:=(↑(List.length (we.2.2.1)):Int)
 let BP:=bif decide (xd>0) then Hz.1==0 else false
 bif kL [!decide (xd>0) || qu (m6 (Pv,2))] then
  bif BP then
   dj m6 (BM,xd) fun DI=>
    some ((((),(),(),DI.1),DI.2.1,we,AX))
  else
   some ((((),(),(),Sn),BM,we,AX))
 else none
def Wh.TD (x:((Unit)×(Unit)×(Unit)×(Int))×((dz.D)×(fN.D)×(di.D))):(((Unit)×(Unit)×(Unit)×(Int))×((dz.D)×(fN.D)×(di.D))):=match q11 x with | some y=>y|none=>default
def Wh.q11_v (x:((Unit)×(Unit)×(Unit)×(Int))×((dz.D)×(fN.D)×(di.D)))(y:(((Unit)×(Unit)×(Unit)×(Int))×((dz.D)×(fN.D)×(di.D))))(h:q11 x=some y):TD x=y:=by unfold TD;rw[h]
def Wh.q72 (xs:(dz.D)×(fN.D)):Option (((di.D))×((dz.D)×Unit)):=
 let vT:=xs.1
 let w_1:=xs.2
 CK q11 TD ((((),(),(),0),vT,w_1,0,0,0,[],[],false,())) fun EM=>
  let at_30:=EM.1.2.2.2
  let w8:=EM.2.1
  let AD:=EM.2.2.1
  let Bz:=EM.2.2.2
  dj Lu (w8,[[(97:UInt8)],[(97:UInt8)],[(98:UInt8)],[(99:UInt8),(99:UInt8)]]) fun r_34=>
   dj m6 (r_34.2.1,4) fun DJ=>
    CK q12 TG ((((),DJ.1,(),(),r_34.1,at_30),DJ.2.1,AD,Bz)) fun NM=>
     let apW:=NM.1.2.2.1
     let ajz:=NM.1.2.2.2.1
     let at_108:=NM.1.2.2.2.2.1
     let pb_109:=NM.2.1
     let Jz:=NM.2.2.1
     let JA:=NM.2.2.2
     CK q13 TH ((((),(),apW,ajz,at_108,()),pb_109,Jz,JA)) fun q_=>
      sumC q_ (fun y_177=>
       let pb_179:=y_177.2.1
       let ls_180:=y_177.2.2
       some (ls_180,pb_179,())) (fun Qv=>
       let ajA:=Qv.1.2.2.1
       let apX:=Qv.1.2.2.2.1
       let at_183:=Qv.1.2.2.2.2
       let pb_184:=Qv.2.1
       let La:=Qv.2.2
       dj m6 (pb_184,40) fun r_186=>
        CK q14 TJ ((((),(),ajA,apX,at_183,r_186.1),r_186.2.1,La)) fun Md=>
         let Ur:=Md.1.1
         let XR:=Md.1.2.2.2.1
         let apY:=Md.1.2.2.2.2.1
         let at_210:=Md.1.2.2.2.2.2.1
         let v_211:=Md.1.2.2.2.2.2.2
         let Tr:=Md.2.1
         let ls_213:=Md.2.2
         bif Ur then
          b8 (zog m6 (Tr,2)) fun Yi=>
          b8 (zog m6 (Yi.2.1,30)) fun TW=>
          b8 (zog m6 (TW.2.1,90)) fun TX=>
          b8 (zog m6 (TX.2.1,250)) fun TY=>
          b8 (zog m6 (TY.2.1,3)) fun Nl=>
          b8 (zog Hu (Nl.2.1,List.getD [IntKind.wrap .i64 (1+TW.1),IntKind.wrap .i64 (1+TX.1),IntKind.wrap .i64 (1+TY.1)] (Int.toNat Nl.1) 0)) fun r_233=>
          bif kL [qu (Hu (Nl.2.1,List.getD [IntKind.wrap .i64 (1+TW.1),IntKind.wrap .i64 (1+TX.1),IntKind.wrap .i64 (1+TY.1)] (Int.toNat (Nl.1)) 0)),decide (0≤Nl.1),decide (Nl.1<(↑(3:Nat):Int)),qu (m6 (TY.2.1,3)),qu (m6 (TX.2.1,250)),qu (m6 (TW.2.1,90)),qu (m6 (Yi.2.1,30)),qu (m6 (Tr,2))] then
           some ((1,Yi.1,0,XR,r_233.1,false,()),r_233.2.1,())
          else none
         else
          let v_278:=v_211==3
          bif v_278 then
           dj m6 (Tr,2) fun r_279=>
            some ((2,r_279.1,0,XR,[],false,()),r_279.2.1,())
          else
           CK q15 TK ((((),XR,apY,(),at_210,v_211),Tr,ls_213)) fun Mg=>
            let v_300:=Mg.1.1
            let acW:=Mg.1.2.2.1
            let apZ:=Mg.1.2.2.2.1
            let at_303:=Mg.1.2.2.2.2.2.1
            let YL:=Mg.1.2.2.2.2.2.2
            let Ts:=Mg.2.1
            let ls_306:=Mg.2.2
            bif v_300 then
             some ((3,apZ,0,acW,[],false,()),Ts,())
            else
             let v_307:=YL==7
             bif v_307 then
              dj m6 (Ts,4) fun r_308=>
               some ((4,r_308.1,0,[],[],false,()),r_308.2.1,())
             else
              let v_309:=YL==8
              bif v_309 then
               dj m6 (Ts,4) fun r_310=>
                some ((5,r_310.1,0,[],[],false,()),r_310.2.1,())
              else
               CK q16 TL ((((),(),at_303,acW,YL),Ts,ls_306)) fun NO=>
                let v_339:=NO.1.1
                let at_340:=NO.1.2.2.2.1
                let ajB:=NO.1.2.2.2.2.1
                let v_342:=NO.1.2.2.2.2.2
                let adh:=NO.2.1
                let ls_344:=NO.2.2
                bif v_339 then
                 some ((6,0,0,[],[],false,()),adh,())
                else
                 CK q17 TM ((((),(),at_340,ajB,v_342),adh,ls_344)) fun NP=>
                  let v_361:=NP.1.1
                  let Wm:=NP.1.2.2.2.1
                  let acY:=NP.1.2.2.2.2.1
                  let Ut:=NP.1.2.2.2.2.2
                  let Ll:=NP.2.1
                  let ls_366:=NP.2.2
                  bif v_361 then
                   dj m6 (Ll,4) fun r_367=>
                    some ((7,r_367.1,0,[],[],false,()),r_367.2.1,())
                  else
                   let v_368:=Ut==19
                   bif v_368 then
                    some ((9,Wm,0,[],[],false,()),Ll,())
                   else
                    let v_369:=Ut==20
                    bif v_369 then
                     b8 (zog m6 (Ll,256)) fun Yj=>
                     b8 (zog m6 (Yj.2.1,256)) fun r_371=>
                     bif kL [qu (m6 (Yj.2.1,256)),qu (m6 (Ll,256))] then
                      some ((10,Wm,(IntKind.wrap .i64 (IntKind.wrap .i64 (Yj.1*256)+r_371.1)),[],[],false,()),r_371.2.1,())
                     else none
                    else
                     let v_380:=Ut==21
                     bif v_380 then
                      b8 (zog m6 (Ll,2)) fun TZ=>
                      b8 (zog m6 (TZ.2.1,40)) fun Yk=>
                      b8 (zog m6 (Yk.2.1,3)) fun T0=>
                      let adj:=List.getD [(0:Int),Yk.1,9999] (Int.toNat T0.1) 0
                      bif kL [decide (0≤T0.1),decide (T0.1<(↑(3:Nat):Int)),qu (m6 (Yk.2.1,3)),qu (m6 (TZ.2.1,40)),qu (m6 (Ll,2))] then
                       dj m6 (T0.2.1,3) fun T1=>
                        bif decide (T1.1>0) then
                         b8 (zog m6 (T1.2.1,90)) fun T3=>
                         b8 (zog Hu (T3.2.1,IntKind.wrap .i64 (1+T3.1))) fun r_405=>
                         bif kL [qu (Hu (T3.2.1,IntKind.wrap .i64 (1+T3.1))),qu (m6 (T1.2.1,90))] then
                          some ((11,TZ.1,adj,acY,r_405.1,false,()),r_405.2.1,())
                         else none
                        else
                         some ((11,TZ.1,adj,acY,[],false,()),T1.2.1,())
                      else none
                     else
                      CK q18 TP ((((),Wm,Ut),Ll,ls_366)) fun Qr=>
                       let v_423:=Qr.1.1
                       let at_424:=Qr.1.2.2.1
                       let v_425:=Qr.1.2.2.2
                       let adl:=Qr.2.1
                       let ls_427:=Qr.2.2
                       bif v_423 then
                        some ((12,0,0,[],[],false,()),adl,())
                       else
                        CK q19 TQ ((((),at_424,v_425),adl,ls_427)) fun YU=>
                         let v_442:=YU.1.1
                         let ZW:=YU.1.2.2
                         let adn:=YU.2.1
                         bif v_442 then
                          some ((8,ZW,0,[],[],true,()),adn,())
                         else
                          some ((8,ZW,0,[],[],false,()),adn,()))
def Wh.Gr (xs:(gv.D)):Option ((((Int)×((List (an.D))×(Unit))))×(Unit)):=
 let cx:gv.D:=xs
 let EY:List (an.D):=[]++cx.2.1
 bif kL [decide ((0:Nat)+List.length cx.2.1≤eV)] then
  some ((cx.1,EY,cx.2.2),())
 else none
def Wh.FN (xs:(je.D)):Option ((((List (cg.D))×((Int)×(Unit))))×(Unit)):=
 let g9:je.D:=xs
 let EY:List (cg.D):=[]++g9.1
 bif kL [decide ((0:Nat)+List.length g9.1≤eV)] then
  some ((EY,g9.2),())
 else none
def Wh.E9 (xs:(b7.D)):Option ((((Bool)×((Int)×((List UInt8)×(((Int)×((List (an.D))×(Unit)))×(((List (cg.D))×((Int)×(Unit)))×((List (cw.D))×((List (cp.D))×(Unit)))))))))×(Unit)):=
 let c9:b7.D:=xs
 dj Gr (c9.2.2.2.1) fun r_1=>
  dj FN (c9.2.2.2.2.1) fun r_2=>
   let Dm:List (cw.D):=[]++c9.2.2.2.2.2.1
   bif kL [decide ((0:Nat)+List.length (c9.2.2.2.2.2.1)≤eV)] then
    let Px:List (cp.D):=[]++c9.2.2.2.2.2.2.1
    bif kL [decide ((0:Nat)+List.length (c9.2.2.2.2.2.2.1)≤eV)] then
     some ((c9.1,c9.2.1,c9.2.2.1,r_1.1,r_2.1,Dm,Px,c9.2.2.2.2.2.2.2),())
    else none
   else none
def Wh.Hh (xs:(g7.D)):Option ((((Int)×((Int)×((List (Int))×((List (Int))×(Unit))))))×(Unit)):=
 let g9:g7.D:=xs
 let EY:List Int:=[]++g9.2.2.1
 bif kL [decide ((0:Nat)+List.length (g9.2.2.1)≤eV)] then
  let BV:List Int:=[]++g9.2.2.2.1
  bif kL [decide ((0:Nat)+List.length (g9.2.2.2.1)≤eV)] then
   some ((g9.1,g9.2.1,EY,BV,g9.2.2.2.2),())
  else none
 else none
abbrev Wh.ad9:Type:=((Int)×(Unit)×(Unit)×(Unit))×(((Int)×((Int)×((Unit)×(Unit))))×(fy.D)×((Int)×((Int)×((Unit)×(Unit))))×(List (gT.D))×(List (gT.D)))
abbrev Wh.alN:Type:=((((Unit)×(Unit))×(((Int)×((Int)×((Unit)×(Unit))))×((Int)×((Int)×((Unit)×(Unit))))×(List (gT.D))×(List (gT.D)))))
def Wh.LB (x:ad9):Option (ad9⊕alN):=
 let Bf:=x.1.1
 let Ca:=x.2.1.1
 let Eu:=x.2.1.2.1
 let DE:=x.2.1.2.2.2
 let AO:=x.2.2.1
 let CC:=x.2.2.2.1.1
 let BJ:=x.2.2.2.1.2.1
 let A_:=x.2.2.2.1.2.2.2
 let BU:=x.2.2.2.2.1
 let By:=x.2.2.2.2.2
 let v5:Int:=(↑(List.length (AO.2.2.1)):Int)
 bif decide (Bf<v5) then
  let EZ:List Int:=[]++(List.getD (AO.2.2.1) (Int.toNat Bf) ([],[],())).1
  let AD:=BU ++ [(EZ,((List.getD (AO.2.2.1) (Int.toNat Bf) ([],[],())).2).1,())]
  let Cf:=List.getD (AO.2.2.1) (Int.toNat Bf) ([],[],())
  bif kL [decide (List.length BU+(1:Nat)≤eV),decide (0≤Bf),decide (Bf<v5),decide ((0:Nat)+List.length Cf.1≤eV),decide (0≤Bf),decide (Bf<v5)] then
   some (.inl (((IntKind.wrap .i64 (Bf+1)),(),(),()),(Ca,Eu,(),DE),AO,(CC,BJ,(),A_),AD,By))
  else none
 else
  some (.inr (((),()),(CC,BJ,(),A_),(Ca,Eu,(),DE),By,BU))
def Wh.ad_:(((Unit)×(Unit))×(((Int)×((Int)×((Unit)×(Unit))))×((Int)×((Int)×((Unit)×(Unit))))×(List (gT.D))×(List (gT.D)))):=default
def Wh.Ix (xs:(fy.D)):Option ((((Int)×((Int)×((List (gT.D))×(Unit)))))×(Unit)):=
 let c9:=xs
 iL LB ad_ (((0,(),(),()),(c9.1,c9.2.1,(),()),c9,(0,0,(),()),[],[])) fun UF=>
  let AP:=UF.2.2.1.1
  let AE:=UF.2.2.1.2.1
  let AF:=UF.2.2.1.2.2.2
  let x3:=UF.2.2.2.2
  some ((AP,AE,x3,AF),())
def Wh.J1 (xs:(r5.D)):Option (((((Int)×((Int)×((List (Int))×((List (Int))×(Unit)))))×(((Int)×((Int)×((List (gT.D))×(Unit))))×(Unit))))×(Unit)):=
 let n4:=xs
 b8 (zog Hh n4.1) fun r_1=>
 b8 (zog Ix n4.2.1) fun r_2=>
 bif kL [qu (Ix n4.2.1),qu (Hh n4.1)] then
  some ((r_1.1,r_2.1,()),())
 else none
def Wh.Gk (xs:(bn.D)):Option ((((Int)×((Int)×((Int)×((List UInt8)×((Int)×((((Int)×((Int)×((List (Int))×((List (Int))×(Unit)))))×(((Int)×((Int)×((List (gT.D))×(Unit))))×(Unit)))×(Unit))))))))×(Unit)):=
 let cx:=xs
 bif decide (cx.2.2.2.2.1>0) then
  dj J1 (cx.2.2.2.2.2.1) fun r_2=>
   some ((cx.1,cx.2.1,cx.2.2.1,cx.2.2.2.1,cx.2.2.2.2.1,r_2.1,cx.2.2.2.2.2.2),())
 else
  some ((cx.1,cx.2.1,cx.2.2.1,cx.2.2.2.1,cx.2.2.2.2.1,((0,0,[],[],()),(0,0,[],()),()),cx.2.2.2.2.2.2),())
abbrev Wh.ady:Type:=((Int)×(Unit)×(Unit)×(Unit))×((((Bool)×((Int)×((List UInt8)×(((Int)×((Unit)×(Unit)))×(((Unit)×((Int)×(Unit)))×((Unit)×((Unit)×(Unit))))))))×((Unit)×((Unit)×((Unit)×(Unit)))))×(fN.D)×(((Bool)×((Int)×((List UInt8)×(((Int)×((Unit)×(Unit)))×(((Unit)×((Int)×(Unit)))×((Unit)×((Unit)×(Unit))))))))×((Unit)×((Unit)×((Unit)×(Unit)))))×(List (an.D))×(List (cg.D))×(List (cw.D))×(List (cp.D))×(List (bn.D))×(List (b9.D))×(List (an.D))×(List (an.D))×(List (cg.D))×(List (cw.D))×(List (cp.D))×(List (bn.D))×(List (b9.D))×(List (an.D)))
abbrev Wh.alu:Type:=((((Unit)×(Unit))×((((Bool)×((Int)×((List UInt8)×(((Int)×((Unit)×(Unit)))×(((Unit)×((Int)×(Unit)))×((Unit)×((Unit)×(Unit))))))))×((Unit)×((Unit)×((Unit)×(Unit)))))×(((Bool)×((Int)×((List UInt8)×(((Int)×((Unit)×(Unit)))×(((Unit)×((Int)×(Unit)))×((Unit)×((Unit)×(Unit))))))))×((Unit)×((Unit)×((Unit)×(Unit)))))×(List (an.D))×(List (cg.D))×(List (cw.D))×(List (cp.D))×(List (bn.D))×(List (b9.D))×(List (an.D))×(List (an.D))×(List (cg.D))×(List (cw.D))×(List (cp.D))×(List (bn.D))×(List (b9.D))×(List (an.D)))))
def Wh.PD (x:ady):Option (ady⊕alu):=
 let MO:=x.1.1
 let x3:=x.2.1.1.1
 let vN:=x.2.1.1.2.1
 let wX:=x.2.1.1.2.2.1
 let AQ:=x.2.1.1.2.2.2.1.1
 let qe:=x.2.1.1.2.2.2.1.2.2
 let z4:=x.2.1.1.2.2.2.2.1.2
 let nG:=x.2.1.1.2.2.2.2.2.2.2
 let wh:=x.2.1.2.2.2.2
 let s_:=x.2.2.1
 let Ax:=x.2.2.2.1.1.1
 let AR:=x.2.2.2.1.1.2.1
 let AG:=x.2.2.2.1.1.2.2.1
 let nS:=x.2.2.2.1.1.2.2.2.1.1
 let AA:=x.2.2.2.1.1.2.2.2.1.2.2
 let Cl:=x.2.2.2.1.1.2.2.2.2.1.2
 let Cb:=x.2.2.2.1.1.2.2.2.2.2.2.2
 let Ba:=x.2.2.2.1.2.2.2.2
 let BK:=x.2.2.2.2.1
 let Cc:=x.2.2.2.2.2.1
 let Bb:=x.2.2.2.2.2.2.1
 let AU:=x.2.2.2.2.2.2.2.1
 let BL:=x.2.2.2.2.2.2.2.2.1
 let CR:=x.2.2.2.2.2.2.2.2.2.1
 let BA:=x.2.2.2.2.2.2.2.2.2.2.1
 let Cr:=x.2.2.2.2.2.2.2.2.2.2.2.1
 let EU:=x.2.2.2.2.2.2.2.2.2.2.2.2.1
 let Dh:=x.2.2.2.2.2.2.2.2.2.2.2.2.2.1
 let Bk:=x.2.2.2.2.2.2.2.2.2.2.2.2.2.2.1
 let AY:=x.2.2.2.2.2.2.2.2.2.2.2.2.2.2.2.1
 let CD:=x.2.2.2.2.2.2.2.2.2.2.2.2.2.2.2.2.1
 let Cd:=x.2.2.2.2.2.2.2.2.2.2.2.2.2.2.2.2.2
 let Uy:Int:=(↑(List.length s_.2.1):Int)
 bif decide (MO<Uy) then
  b8 (zog Gk (List.getD s_.2.1 (Int.toNat MO) (0,0,0,[],0,((0,0,[],[],()),(0,0,[],()),()),()))) fun PV=>
  let EW:=BL ++ [PV.1]
  let v_80:=List.getD s_.2.1 (Int.toNat MO) (0,0,0,[],0,((0,0,[],[],()),(0,0,[],()),()),())
  bif kL [decide (List.length BL+(1:Nat)≤eV),qu (Gk v_80),decide (0≤MO),decide (MO<Uy)] then
   some (.inl (((IntKind.wrap .i64 (MO+1)),(),(),()),((x3,vN,wX,(AQ,(),qe),((),z4),(),(),nG),(),(),(),wh),s_,((Ax,AR,AG,(nS,(),AA),((),Cl),(),(),Cb),(),(),(),Ba),BK,Cc,Bb,AU,EW,CR,BA,Cr,EU,Dh,Bk,AY,CD,Cd))
  else none
 else
  some (.inr (((),()),((Ax,AR,AG,(nS,(),AA),((),Cl),(),(),Cb),(),(),(),Ba),((x3,vN,wX,(AQ,(),qe),((),z4),(),(),nG),(),(),(),wh),Cr,EU,Dh,Bk,AY,CD,Cd,BK,Cc,Bb,AU,BL,CR,BA))
def Wh.adz:(((Unit)×(Unit))×((((Bool)×((Int)×((List UInt8)×(((Int)×((Unit)×(Unit)))×(((Unit)×((Int)×(Unit)))×((Unit)×((Unit)×(Unit))))))))×((Unit)×((Unit)×((Unit)×(Unit)))))×(((Bool)×((Int)×((List UInt8)×(((Int)×((Unit)×(Unit)))×(((Unit)×((Int)×(Unit)))×((Unit)×((Unit)×(Unit))))))))×((Unit)×((Unit)×((Unit)×(Unit)))))×(List (an.D))×(List (cg.D))×(List (cw.D))×(List (cp.D))×(List (bn.D))×(List (b9.D))×(List (an.D))×(List (an.D))×(List (cg.D))×(List (cw.D))×(List (cp.D))×(List (bn.D))×(List (b9.D))×(List (an.D)))):=(default,(default,default,default,default,default,default,default,default,default,default,default,default,default,default,default,default))
def Wh.G9 (xs:(fN.D)):Option ((((b7.D)×((List (bn.D))×((List (b9.D))×((List (an.D))×(Unit))))))×(Unit)):=
 let w_0:=xs
 b8 (zog E9 w_0.1) fun r_1=>
 let BV:List (b9.D):=[]++w_0.2.2.1
 let Dm:List (an.D):=[]++w_0.2.2.2.1
 bif kL [decide ((0:Nat)+List.length (w_0.2.2.2.1)≤eV),decide ((0:Nat)+List.length (w_0.2.2.1)≤eV),qu (E9 w_0.1)] then
  iL PD adz (((0,(),(),()),((r_1.1.1,r_1.1.2.1,r_1.1.2.2.1,(r_1.1.2.2.2.1.1,(),r_1.1.2.2.2.1.2.2),((),r_1.1.2.2.2.2.1.2),(),(),r_1.1.2.2.2.2.2.2.2),(),(),(),()),w_0,((false,0,[],(0,(),()),((),0,()),(),(),()),(),(),(),()),r_1.1.2.2.2.1.2.1,r_1.1.2.2.2.2.1.1,r_1.1.2.2.2.2.2.1,r_1.1.2.2.2.2.2.2.1,[],BV,Dm,[],[],[],[],[],[],[])) fun Eh=>
   let MX:=Eh.2.2.1.1.1
   let MY:=Eh.2.2.1.1.2.1
   let D9:=Eh.2.2.1.1.2.2.1
   let ls_95:=Eh.2.2.1.1.2.2.2.1.1
   let ls_96:=Eh.2.2.1.1.2.2.2.1.2.2
   let Lf:=Eh.2.2.1.1.2.2.2.2.1.2
   let Fv:=Eh.2.2.1.1.2.2.2.2.2.2.2
   let Il:=Eh.2.2.1.2.2.2.2
   let Fu:=Eh.2.2.2.2.2.2.2.2.2.2.1
   let G0:=Eh.2.2.2.2.2.2.2.2.2.2.2.1
   let Jy:=Eh.2.2.2.2.2.2.2.2.2.2.2.2.1
   let Jz:=Eh.2.2.2.2.2.2.2.2.2.2.2.2.2.1
   let JA:=Eh.2.2.2.2.2.2.2.2.2.2.2.2.2.2.1
   let MU:=Eh.2.2.2.2.2.2.2.2.2.2.2.2.2.2.2.1
   let JB:=Eh.2.2.2.2.2.2.2.2.2.2.2.2.2.2.2.2
   some (((MX,MY,D9,(ls_95,Fu,ls_96),(G0,Lf),Jy,Jz,Fv),JA,MU,JB,Il),())
 else none
abbrev Wh.aek:Type:=((Int)×(Int)×(List UInt8))×(Unit)
abbrev Wh.alT:Type:=(((Int)×(Unit))⊕((Unit)×(Unit)))
def Wh.Fz (x:aek):Option (aek⊕alT):=
 let Fq:=x.1.1
 let b_11:=x.1.2.1
 let s_12:=x.1.2.2
 let BO:=decide (Fq<(↑(List.length s_12):Int))
 bif BO then
  let pg:Int:=(↑(UInt8.toNat (List.getD s_12 (Int.toNat Fq) (0:UInt8))):Int)
  let Bq:=pg==b_11
  bif kL [decide (0≤Fq),BO] then
   bif Bq then
    some (.inr (.inl (Fq,())))
   else
    some (.inl (((IntKind.wrap .i64 (Fq+1)),b_11,s_12),()))
  else none
 else
  some (.inr (.inr ((),())))
def Wh.ael:((Int)×(Unit))⊕((Unit)×(Unit)):=.inl default
def Wh.Cn (xs:(List UInt8)×(Int)×(Int)):Option ((Int)×(Unit)):=
 let c9:=xs.1
 let C6:=xs.2.1
 let b_2:=xs.2.2
 iL Fz ael (((C6,b_2,c9),())) fun q_=>
  sumC q_ (fun Qq=>
   let mb:=Qq.1
   some (mb,())) (fun _=>
   some (-1,()))
abbrev Wh.aee:Type:=((Int)×(Int)×(List UInt8)×(Unit)×(Int))×((List (List UInt8)))
abbrev Wh.alQ:Type:=((((Int)×(List UInt8)×(Unit))×((List (List UInt8)))))
def Wh.Dq (x:aee):Option (aee⊕alQ):=
 let Av:=x.1.1
 let MJ:=x.1.2.1
 let L4:=x.1.2.2.1
 let Wj:=x.1.2.2.2.2
 let Ca:=x.2
 let mb:=decide (Av<(↑(List.length L4):Int))
 bif mb then
  let xd:Int:=(↑(UInt8.toNat (List.getD L4 (Int.toNat Av) (0:UInt8))):Int)
  let nT:=xd==Wj
  bif kL [decide (0≤Av),mb] then
   bif nT then
    let X5:List (List UInt8):=[List.take (Int.toNat (Av-MJ)) (List.drop (Int.toNat MJ) L4)]
    let BJ:List (List UInt8):=Ca++X5
    bif kL [decide (List.length Ca+(1:Nat)≤eV),decide (0≤MJ),decide (MJ≤Av),decide (Av≤(↑(List.length L4):Int))] then
     let tn:=IntKind.wrap .i64 (Av+1)
     some (.inl ((tn,tn,L4,(),Wj),BJ))
    else none
   else
    some (.inl (((IntKind.wrap .i64 (Av+1)),MJ,L4,(),Wj),Ca))
  else none
 else
  some (.inr ((MJ,L4,()),Ca))
def Wh.aef:(((Int)×(List UInt8)×(Unit))×((List (List UInt8)))):=default
def Wh.Dp (xs:(List UInt8)×(Int)):Option (((List (List UInt8)))×(Unit)):=
 let c9:=xs.1
 let C6:=xs.2
 iL Dq aef (((0,0,c9,(),C6),[])) fun EM=>
  let SL:=EM.1.1
  let P3:=EM.1.2.1
  let AD:=EM.2
  let X8:List (List UInt8):=[List.take (Int.toNat ((↑(List.length P3):Int)-SL)) (List.drop (Int.toNat SL) P3)]
  let Az:List (List UInt8):=AD++X8
  bif kL [decide (List.length AD+(1:Nat)≤eV),decide (0≤SL),decide (SL≤(↑(List.length P3):Int)),decide ((↑(List.length P3):Int)≤(↑(List.length P3):Int))] then
   some (Az,())
  else none
abbrev Wh.ae2:Type:=((Int)×(List UInt8)×(Int))×(Unit)
abbrev Wh.ame:Type:=(((Int)×(Unit))⊕((Int)×(Unit)))
def Wh.LN (x:ae2):Option (ae2⊕ame):=
 let CB:=x.1.1
 let Nu:=x.1.2.1
 let n_19:=x.1.2.2
 let mb:=decide (CB<(↑(List.length Nu):Int))
 bif mb then
  let xd:Int:=(↑(UInt8.toNat (List.getD Nu (Int.toNat CB) (0:UInt8))):Int)
  let BP:=bif decide (xd<48) then true else decide (xd>57)
  bif kL [!!decide (xd<48) || decide (0≤CB),!!decide (xd<48) || mb,decide (0≤CB),mb] then
   bif BP then
    some (.inr (.inl (-1,())))
   else
    bif kL [decide (0≤CB),mb] then
     some (.inl (((IntKind.wrap .i64 (CB+1)),Nu,(IntKind.wrap .i64 ((IntKind.wrap .i64 (n_19*10))+IntKind.wrap .i64 (IntKind.wrap .u8 (xd-48))))),()))
    else none
  else none
 else
  some (.inr (.inr (n_19,())))
def Wh.ae3:((Int)×(Unit))⊕((Int)×(Unit)):=.inl default
def Wh.z9 (xs:(List UInt8)):Option ((Int)×(Unit)):=
 let c9:=xs
 b8 (zog g8 ((↑(List.length c9):Int),1,6)) fun r_1=>
 let v_2:=bif !r_1.1 then true else bif decide ((↑(List.length c9):Int)>1) then(↑(UInt8.toNat (List.getD c9 (Int.toNat 0) (0:UInt8))):Int)==48 else false
 bif kL [!(decide ((↑(List.length c9):Int)>1) && !!r_1.1) || decide ((0:Int)≤0),!(decide ((↑(List.length c9):Int)>1) && !!r_1.1) || decide (0<(↑(List.length c9):Int)),qu (g8 ((↑(List.length c9):Int),1,6))] then
  bif v_2 then
   some (-1,())
  else
   iL LN ae3 (((0,c9,0),())) fun q_=>
    sumC q_ (fun y_32=>
     let FR:=y_32.1
     some (FR,())) (fun z_33=>
     let n_35:=z_33.1
     some (n_35,()))
 else none
abbrev Wh.adX:Type:=((Int)×(List UInt8))×(Unit)
abbrev Wh.alH:Type:=(((Bool)×(Unit))⊕(((List UInt8))×(Unit)))
def Wh.E3 (x:adX):Option (adX⊕alH):=
 let CN:=x.1.1
 let Uo:=x.1.2
 let CH:=decide (CN<(↑(List.length Uo):Int))
 bif CH then
  let AV:Int:=(↑(UInt8.toNat (List.getD Uo (Int.toNat CN) (0:UInt8))):Int)
  let Bq:=bif decide (AV<97) then true else decide (AV>122)
  bif kL [!!decide (AV<97) || decide (0≤CN),!!decide (AV<97) || CH,decide (0≤CN),CH] then
   bif Bq then
    some (.inr (.inl (false,())))
   else
    some (.inl (((IntKind.wrap .i64 (CN+1)),Uo),()))
  else none
 else
  some (.inr (.inr (Uo,())))
def Wh.adY:((Bool)×(Unit))⊕(((List UInt8))×(Unit)):=.inl default
def Wh.DG (xs:(List UInt8)):Option ((Bool)×(Unit)):=
 let Be:=xs
 iL E3 adY (((0,Be),())) fun q_=>
  sumC q_ (fun Qq=>
   let mb:=Qq.1
   some (mb,())) (fun z_19=>
   let apL:=z_19.1
   dj g8 ((↑(List.length apL):Int),1,6) fun r_22=>
    some (r_22.1,()))
def Wh.Ed (xs:(eL.D)):Option ((Bool)×(Unit)):=
 let w_0:=xs
 b8 (zog g8 (w_0.2.1,0,99999)) fun r_1=>
 b8 (zog g8 (w_0.2.2.1,1,99999)) fun r_2=>
 b8 (zog g8 (w_0.2.2.2.1,0,99999)) fun ic=>
 b8 (zog g8 (w_0.2.2.2.2.1,0,99999)) fun Bd=>
 let CH:=bif bif bif bif !r_1.1 then true else !r_2.1 then true else !ic.1 then true else !Bd.1 then true else decide ((↑(List.length (w_0.2.2.2.2.2.2.1)):Int)>80)
 bif kL [(!!bif bif !r_1.1 then true else !r_2.1 then true else !ic.1) || qu (g8 (w_0.2.2.2.2.1,0,99999)),(!!bif !r_1.1 then true else !r_2.1) || qu (g8 (w_0.2.2.2.1,0,99999)),!!!r_1.1 || qu (g8 (w_0.2.2.1,1,99999)),qu (g8 (w_0.2.1,0,99999))] then
  bif CH then
   some (false,())
  else
   let AV:=w_0.1==1
   b8 (zog DG (w_0.2.2.2.2.2.1)) fun Dr=>
   let se:=bif bif AV then !Dr.1 else false then true else bif !AV then !w_0.2.2.2.2.2.1 == [] else false
   bif kL [!AV || qu (DG (w_0.2.2.2.2.2.1))] then
    bif se then
     some (false,())
    else
     bif AV then
      bif AV then
       let xb:=bif(w_0.2.2.2.2.1==0) then w_0.2.2.2.2.2.2.1 == [] else false
       some (xb,())
      else
       bif(w_0.1==2) then
        let I7:=bif bif decide (w_0.2.2.2.1>0) then w_0.2.2.2.2.1==0 else false then !w_0.2.2.2.2.2.2.1 == [] else false
        some (I7,())
       else
        bif(w_0.1==3) then
         let CJ:=bif decide (w_0.2.2.2.1>0) then !w_0.2.2.2.2.2.2.1 == [] else false
         some (CJ,())
        else
         let B3:=w_0.1==4
         bif B3 then
          bif B3 then
           let Cf:=bif decide (w_0.2.2.2.1>0) then w_0.2.2.2.2.2.2.1 == [] else false
           some (Cf,())
          else
           some (false,())
         else
          bif(w_0.1==5) then
           let EK:=bif decide (w_0.2.2.2.1>0) then w_0.2.2.2.2.2.2.1 == [] else false
           some (EK,())
          else
           some (false,())
     else
      bif(w_0.1==6) then
       let L9:=bif(w_0.2.2.2.2.1==0) then w_0.2.2.2.2.2.2.1 == [] else false
       some (L9,())
      else
       bif(w_0.1==2) then
        let v_47:=bif bif decide (w_0.2.2.2.1>0) then w_0.2.2.2.2.1==0 else false then !w_0.2.2.2.2.2.2.1 == [] else false
        some (v_47,())
       else
        bif(w_0.1==3) then
         let B5:=bif decide (w_0.2.2.2.1>0) then !w_0.2.2.2.2.2.2.1 == [] else false
         some (B5,())
        else
         let Uv:=w_0.1==4
         bif Uv then
          bif Uv then
           let KB:=bif decide (w_0.2.2.2.1>0) then w_0.2.2.2.2.2.2.1 == [] else false
           some (KB,())
          else
           some (false,())
         else
          bif(w_0.1==5) then
           let Qh:=bif decide (w_0.2.2.2.1>0) then w_0.2.2.2.2.2.2.1 == [] else false
           some (Qh,())
          else
           some (false,())
   else none
 else none
def Wh.q36 (agl:(Int)→Option (((List UInt8))×(Unit)))(T6:(Int)→((List UInt8))×(Unit))(xs:(Int)):Option (((List UInt8))×(Unit)):=
 let Dl:=xs
 bif decide (Dl < -9223372036854775807) then
  some ([(45:UInt8),(57:UInt8),(50:UInt8),(50:UInt8),(51:UInt8),(51:UInt8),(55:UInt8),(50:UInt8),(48:UInt8),(51:UInt8),(54:UInt8),(56:UInt8),(53:UInt8),(52:UInt8),(55:UInt8),(55:UInt8),(53:UInt8),(56:UInt8),(48:UInt8),(56:UInt8)],())
 else
  bif decide (Dl<0) then
   let A2:=IntKind.wrap .i64 (0-Dl)
   let AL:=T6 A2
   let FW:List UInt8:=[(45:UInt8)]++AL.1
   bif kL [decide ((1:Nat)+List.length ((T6 A2).1)≤eV),qu (agl A2)] then
    some (FW,())
   else none
  else
   bif decide (Dl<10) then
    let XY:List Int:=[IntKind.wrap .u8 (IntKind.wrap .i64 (48+Dl))]
    some (tv XY,())
   else
    let XZ:List Int:=[IntKind.wrap .u8 (IntKind.wrap .i64 (48+Int.tmod Dl 10))]
    let BO:=IntKind.wrap .i64 (Int.tdiv Dl 10)
    let CE:=T6 BO
    let xd:=CE.1++tv XZ
    bif kL [decide (List.length ((T6 BO).1)+(1:Nat)≤eV),true,qu (agl BO),true] then
     some (xd,())
    else none
def Wh.E0:Nat→(Int)→Option (((List UInt8))×(Unit))
 |0,_=>none
 |n+1,xs=>q36 (E0 n) (fun x=>match E0 n x with | some y=>y|none=>default) xs
def Wh.Yg (n:Nat):E0 (n+1)=q36 (E0 n) (fun x=>match E0 n x with | some y=>y|none=>default):=rfl
def Wh.z5 (xs:(Int)):Option (((List UInt8))×(Unit)):=E0 20 xs
def Wh.Lx (xs:(eL.D)):Option (((List UInt8))×(Unit)):=
 let w_0:=xs
 b8 (zog z5 w_0.1) fun r_1=>
 b8 (zog z5 w_0.2.1) fun r_3=>
 b8 (zog z5 (w_0.2.2.1)) fun n5=>
 b8 (zog z5 (w_0.2.2.2.1)) fun w9=>
 b8 (zog z5 (w_0.2.2.2.2.1)) fun BB=>
 let s5:=r_1.1 ++ [(32:UInt8)]++r_3.1 ++ [(32:UInt8)]++n5.1 ++ [(32:UInt8)]++w9.1 ++ [(32:UInt8)]++BB.1 ++ [(32:UInt8)]++w_0.2.2.2.2.2.1 ++ [(58:UInt8)]++w_0.2.2.2.2.2.2.1
 bif kL [decide (List.length (r_1.1 ++ [(32:UInt8)]++r_3.1 ++ [(32:UInt8)]++n5.1 ++ [(32:UInt8)]++w9.1 ++ [(32:UInt8)]++BB.1 ++ [(32:UInt8)]++w_0.2.2.2.2.2.1 ++ [(58:UInt8)])+List.length (w_0.2.2.2.2.2.2.1)≤eV),decide (List.length (r_1.1 ++ [(32:UInt8)]++r_3.1 ++ [(32:UInt8)]++n5.1 ++ [(32:UInt8)]++w9.1 ++ [(32:UInt8)]++BB.1 ++ [(32:UInt8)]++w_0.2.2.2.2.2.1)+(1:Nat)≤eV),decide (List.length (r_1.1 ++ [(32:UInt8)]++r_3.1 ++ [(32:UInt8)]++n5.1 ++ [(32:UInt8)]++w9.1 ++ [(32:UInt8)]++BB.1 ++ [(32:UInt8)])+List.length (w_0.2.2.2.2.2.1)≤eV),decide (List.length (r_1.1 ++ [(32:UInt8)]++r_3.1 ++ [(32:UInt8)]++n5.1 ++ [(32:UInt8)]++w9.1 ++ [(32:UInt8)]++BB.1)+(1:Nat)≤eV),decide (List.length (r_1.1 ++ [(32:UInt8)]++r_3.1 ++ [(32:UInt8)]++n5.1 ++ [(32:UInt8)]++w9.1 ++ [(32:UInt8)])+List.length BB.1≤eV),qu (z5 (w_0.2.2.2.2.1)),decide (List.length (r_1.1 ++ [(32:UInt8)]++r_3.1 ++ [(32:UInt8)]++n5.1 ++ [(32:UInt8)]++w9.1)+(1:Nat)≤eV),decide (List.length (r_1.1 ++ [(32:UInt8)]++r_3.1 ++ [(32:UInt8)]++n5.1 ++ [(32:UInt8)])+List.length w9.1≤eV),qu (z5 (w_0.2.2.2.1)),decide (List.length (r_1.1 ++ [(32:UInt8)]++r_3.1 ++ [(32:UInt8)]++n5.1)+(1:Nat)≤eV),decide (List.length (r_1.1 ++ [(32:UInt8)]++r_3.1 ++ [(32:UInt8)])+List.length n5.1≤eV),qu (z5 (w_0.2.2.1)),decide (List.length (r_1.1 ++ [(32:UInt8)]++r_3.1)+(1:Nat)≤eV),decide (List.length (r_1.1 ++ [(32:UInt8)])+List.length r_3.1≤eV),qu (z5 w_0.2.1),decide (List.length r_1.1+(1:Nat)≤eV),qu (z5 w_0.1)] then
  some (s5,())
 else none
abbrev Wh.ae6:Type:=((List UInt8))×(Unit)
abbrev Wh.amg:Type:=((((List UInt8))×(Unit)))
def Wh.Nc (x:ae6):Option (ae6⊕amg):=
 let T9:=x.1
 bif decide ((↑(List.length T9):Int)<7) then
  let GG:List UInt8:=[(48:UInt8)]++T9
  bif kL [decide ((1:Nat)+List.length T9≤eV)] then
   some (.inl (GG,()))
  else none
 else
  some (.inr (T9,()))
def Wh.ae7:(((List UInt8))×(Unit)):=default
abbrev Wh.ae4:Type:=((Int)×(List UInt8)×(Int))×(Unit)
abbrev Wh.amf:Type:=(((Int)×(Unit)))
def Wh.PG (x:ae4):Option (ae4⊕amf):=
 let CA:=x.1.1
 let YH:=x.1.2.1
 let n_14:=x.1.2.2
 let Bq:=decide (CA<(↑(List.length YH):Int))
 bif Bq then
  let AN:Int:=(↑(UInt8.toNat (List.getD YH (Int.toNat CA) (0:UInt8))):Int)
  bif kL [true,decide (0≤CA),Bq] then
   some (.inl (((IntKind.wrap .i64 (CA+1)),YH,(Int.tmod (IntKind.wrap .i64 (IntKind.wrap .i64 ((IntKind.wrap .i64 (n_14*31))+IntKind.wrap .i64 AN)+7)) 1000003)),()))
  else none
 else
  some (.inr (n_14,()))
def Wh.ae5:((Int)×(Unit)):=default
def Wh.Kd (xs:(List UInt8)):Option (((List UInt8))×(Unit)):=
 let Be:=xs
 iL PG ae5 (((0,Be,1),())) fun y_24=>
  let n_25:=y_24.1
  dj z5 n_25 fun IY=>
   iL Nc ae7 ((IY.1,())) fun Mh=>
    let s_35:=Mh.1
    some (s_35,())
def Wh.Hs (xs:(eL.D)):Option (((List UInt8))×(Unit)):=
 let w_0:=xs
 dj Ed w_0 fun r_1=>
  bif !r_1.1 then
   some ([],())
  else
   dj Lx w_0 fun r_2=>
    b8 (zog Kd r_2.1) fun r_3=>
    let n_:=r_3.1++r_2.1
    bif kL [decide (List.length r_3.1+List.length r_2.1≤eV),qu (Kd r_2.1)] then
     some (n_,())
    else none
def Wh.q63 (xs:(List UInt8)):Option (((eL.D)×(Bool))×(Unit)):=
 let Be:=xs
 dj Cn (Be,7,58) fun r_1=>
  let A2:=bif decide (r_1.1<0) then true else decide ((↑(List.length Be):Int)>160)
  bif A2 then
   some (((0,0,0,0,0,[],[],()),false),())
  else
   b8 (zog Dp (List.take (Int.toNat (r_1.1-7)) (List.drop (Int.toNat 7) Be),32)) fun e_=>
   let n_:List UInt8:=List.take (Int.toNat (r_1.1-7)) (List.drop (Int.toNat 7) Be)
   bif kL [qu (Dp (n_,32)),true,decide (7≤r_1.1),decide (r_1.1≤(↑(List.length Be):Int))] then
    let oc:Int:=(↑(List.length e_.1):Int)
    let nP:=oc != 6
    bif nP then
     some (((0,0,0,0,0,[],[],()),false),())
    else
     let Ln:List UInt8:=List.take (Int.toNat ((↑(List.length Be):Int)-IntKind.wrap .i64 (r_1.1+1))) (List.drop (Int.toNat (IntKind.wrap .i64 (r_1.1+1))) Be)
     let JI:=List.getD e_.1 (Int.toNat 5) []
     b8 (zog z9 (List.getD e_.1 (Int.toNat 4) [])) fun A1=>
     b8 (zog z9 (List.getD e_.1 (Int.toNat 3) [])) fun Ce=>
     b8 (zog z9 (List.getD e_.1 (Int.toNat 2) [])) fun BB=>
     b8 (zog z9 (List.getD e_.1 (Int.toNat 1) [])) fun Dr=>
     b8 (zog z9 (List.getD e_.1 (Int.toNat 0) [])) fun BY=>
     let Bq:=List.getD e_.1 (Int.toNat 0) []
     let se:=List.getD e_.1 (Int.toNat 1) []
     let AN:=List.getD e_.1 (Int.toNat 2) []
     let s5:=List.getD e_.1 (Int.toNat 3) []
     let xb:=List.getD e_.1 (Int.toNat 4) []
     let mb:=IntKind.wrap .i64 (r_1.1+1)
     bif kL [decide (0≤mb),decide (mb≤(↑(List.length Be):Int)),decide ((↑(List.length Be):Int)≤(↑(List.length Be):Int)),true,decide (5<oc),qu (z9 xb),true,decide (4<oc),qu (z9 s5),true,decide (3<oc),qu (z9 AN),true,decide (2<oc),qu (z9 se),true,decide (1<oc),qu (z9 Bq),true,decide (0<oc)] then
      b8 (zog Ed (BY.1,Dr.1,BB.1,Ce.1,A1.1,JI,Ln,())) fun DX=>
      b8 (zog Hs (BY.1,Dr.1,BB.1,Ce.1,A1.1,JI,Ln,())) fun r_22=>
      let r_:=bif !DX.1 then true else !r_22.1==Be
      bif kL [!!!DX.1 || qu (Hs (BY.1,Dr.1,BB.1,Ce.1,A1.1,JI,Ln,())),qu (Ed (BY.1,Dr.1,BB.1,Ce.1,A1.1,JI,Ln,()))] then
       bif r_ then
        some (((0,0,0,0,0,[],[],()),false),())
       else
        some (((BY.1,Dr.1,BB.1,Ce.1,A1.1,JI,Ln,()),true),())
      else none
     else none
   else none
abbrev Wh.afV:Type:=((Int)×(Int)×(Unit))×((List (Int)))
abbrev Wh.amF:Type:=(((Unit)×((List (Int)))))
def Wh.Ni (x:afV):Option (afV⊕amF):=
 let BI:=x.1.1
 let n_28:=x.1.2.1
 let CQ:=x.2
 bif decide (BI≥0) then
  let w8:List Int:=[IntKind.wrap .u8 (Int.fdiv n_28 (2 ^ Min.min (Int.toNat (IntKind.wrap .i64 (8*BI))) (Go.IntKind.bits Go.IntKind.i64)))]
  let AD:=CQ++w8
  bif kL [decide (List.length CQ+(1:Nat)≤eV),decide (0≤(IntKind.wrap .i64 (8*BI)))] then
   some (.inl (((IntKind.wrap .i64 (BI-1)),n_28,()),AD))
  else none
 else
  some (.inr ((),CQ))
def Wh.afW:((Unit)×((List (Int)))):=default
abbrev Wh.afT:Type:=((Unit)×(List UInt8))×((List (Int)))
abbrev Wh.amE:Type:=((((Unit)×(List UInt8))×((List (Int)))))
def Wh.LW (x:afT):Option (afT⊕amE):=
 let agX:=x.1.2
 let JE:=x.2
 let Cw:Bool:=(Int.tmod (↑(List.length JE):Int) 64) != 56
 bif Cw then
  let O2:=JE ++ [(0:Int)]
  bif kL [decide (List.length JE+(1:Nat)≤eV)] then
   some (.inl (((),agX),O2))
  else none
 else
  some (.inr (((),agX),JE))
def Wh.afU:(((Unit)×(List UInt8))×((List (Int)))):=default
def Wh.q77 (xs:(List UInt8)):Option (((List (Int)))×(Unit)):=
 let Be:=xs
 let EY:List Int:=bytesOf Be ++ [(128:Int)]
 bif kL [decide (List.length (bytesOf Be)+(1:Nat)≤eV),decide (List.length Be≤eV)] then
  iL LW afU ((((),Be),EY)) fun y_13=>
   let apK:=y_13.1.2
   let Aw:=y_13.2
   iL Ni afW (((7,(IntKind.wrap .i64 ((↑(List.length apK):Int)*8)),()),Aw)) fun y_38=>
    let A6:=y_38.2
    some (A6,())
 else none
def Wh.wm (xs:(Int)×(Int)):Option ((Int)×(Unit)):=
 let x_0:=xs.1
 let n_1:=xs.2
 let v_2:Int:=Int.fdiv x_0 (2 ^ Min.min (Int.toNat n_1) (Go.IntKind.bits Go.IntKind.u32))
 let A2:=IntKind.wrap .i64 (32-n_1)
 let oc:Int:=pZ Go.BinOp.or Go.IntKind.u32 v_2 (IntKind.wrap .u32 (x_0*2 ^ Min.min (Int.toNat A2) (Go.IntKind.bits Go.IntKind.u32)))
 bif kL [decide (0≤A2),decide (0≤n_1)] then
  some (oc,())
 else none
abbrev Wh.adL:Type:=((Int)×(Unit))×((List (Int)))
abbrev Wh.alB:Type:=(((Unit)×((List (Int)))))
def Wh.M9 (x:adL):Option (adL⊕alB):=
 let Ju:=x.1.1
 let D9:=x.2
 bif decide (Ju<64) then
  let v_96:=IntKind.wrap .i64 (Ju-15)
  let Qn:=List.getD D9 (Int.toNat v_96) 0
  bif kL [decide (0≤v_96),decide (v_96<(↑(List.length D9):Int))] then
   let v_99:=IntKind.wrap .i64 (Ju-2)
   let Qo:=List.getD D9 (Int.toNat v_99) 0
   bif kL [decide (0≤v_99),decide (v_99<(↑(List.length D9):Int))] then
    b8 (zog wm (Qn,7)) fun r_102=>
    b8 (zog wm (Qn,18)) fun r_103=>
    let v_105:Int:=Int.fdiv Qn (2 ^ Min.min (Int.toNat 3) (Go.IntKind.bits Go.IntKind.u32))
    let a_107:Int:=pZ Go.BinOp.xor Go.IntKind.u32 (pZ Go.BinOp.xor Go.IntKind.u32 r_102.1 r_103.1) v_105
    bif kL [true,qu (wm (Qn,18)),qu (wm (Qn,7))] then
     b8 (zog wm (Qo,17)) fun r_108=>
     b8 (zog wm (Qo,19)) fun r_109=>
     let v_111:Int:=Int.fdiv Qo (2 ^ Min.min (Int.toNat 10) (Go.IntKind.bits Go.IntKind.u32))
     let c_113:Int:=pZ Go.BinOp.xor Go.IntKind.u32 (pZ Go.BinOp.xor Go.IntKind.u32 r_108.1 r_109.1) v_111
     bif kL [true,qu (wm (Qo,19)),qu (wm (Qo,17))] then
      let pb_114:List Int:=[IntKind.wrap .u32 (IntKind.wrap .u32 (IntKind.wrap .u32 (List.getD D9 (Int.toNat (IntKind.wrap .i64 (Ju-16))) 0+a_107)+List.getD D9 (Int.toNat (IntKind.wrap .i64 (Ju-7))) 0)+c_113)]
      let F8:=D9++pb_114
      let v_116:=IntKind.wrap .i64 (Ju-16)
      let v_119:=IntKind.wrap .i64 (Ju-7)
      bif kL [decide (List.length D9+(1:Nat)≤eV),decide (0≤v_119),decide (v_119<(↑(List.length D9):Int)),decide (0≤v_116),decide (v_116<(↑(List.length D9):Int))] then
       some (.inl (((IntKind.wrap .i64 (Ju+1)),()),F8))
      else none
     else none
    else none
   else none
  else none
 else
  some (.inr ((),D9))
def Wh.adM:((Unit)×((List (Int)))):=default
abbrev Wh.adJ:Type:=((Int)×(List (Int))×(Unit))×((List (Int)))
abbrev Wh.alA:Type:=(((Unit)×((List (Int)))))
def Wh.M8 (x:adJ):Option (adJ⊕alA):=
 let K4:=x.1.1
 let HS:=x.1.2.1
 let AD:=x.2
 bif decide (K4<16) then
  let Tt:List Int:=[pZ Go.BinOp.or Go.IntKind.u32 (pZ Go.BinOp.or Go.IntKind.u32 (pZ Go.BinOp.or Go.IntKind.u32 (IntKind.wrap .u32 (IntKind.wrap .u32 (List.getD HS (Int.toNat (IntKind.wrap .i64 (4*K4))) 0)*2 ^ Min.min (Int.toNat 24) (Go.IntKind.bits Go.IntKind.u32))) (IntKind.wrap .u32 (IntKind.wrap .u32 (List.getD HS (Int.toNat (IntKind.wrap .i64 (IntKind.wrap .i64 (4*K4)+1))) 0)*2 ^ Min.min (Int.toNat 16) (Go.IntKind.bits Go.IntKind.u32)))) (IntKind.wrap .u32 (IntKind.wrap .u32 (List.getD HS (Int.toNat (IntKind.wrap .i64 (IntKind.wrap .i64 (4*K4)+2))) 0)*2 ^ Min.min (Int.toNat 8) (Go.IntKind.bits Go.IntKind.u32)))) (IntKind.wrap .u32 (List.getD HS (Int.toNat (IntKind.wrap .i64 (IntKind.wrap .i64 (4*K4)+3))) 0))]
  let nC:=AD++Tt
  let C0:=IntKind.wrap .i64 (4*K4)
  bif kL [decide (List.length AD+(1:Nat)≤eV),decide (0≤IntKind.wrap .i64 (C0+3)),decide (IntKind.wrap .i64 (C0+3)<(↑(List.length HS):Int)),true,decide (0≤IntKind.wrap .i64 (C0+2)),decide (IntKind.wrap .i64 (C0+2)<(↑(List.length HS):Int)),true,decide (0≤IntKind.wrap .i64 (C0+1)),decide (IntKind.wrap .i64 (C0+1)<(↑(List.length HS):Int)),true,decide (0≤C0),decide (C0<(↑(List.length HS):Int))] then
   some (.inl (((IntKind.wrap .i64 (K4+1)),HS,()),nC))
  else none
 else
  some (.inr ((),AD))
def Wh.adK:((Unit)×((List (Int)))):=default
def Wh.Lv (xs:(List (Int))):Option (((List (Int)))×(Unit)):=
 let BF:=xs
 iL M8 adK (((0,BF,()),[])) fun y_60=>
  let BK:=y_60.2
  iL M9 adM (((16,()),BK)) fun y_125=>
   let G2:=y_125.2
   some (G2,())
def Wh.q76 (_:Unit):Option (((List (Int)))×(Unit)):=
 let pb_0:List Int:=[(1116352408:Int),1899447441,3049323471,3921009573,961987163,1508970993,2453635748,2870763221,3624381080,310598401,607225278,1426881987,1925078388,2162078206,2614888103,3248222580,3835390401,4022224774,264347078,604807628,770255983,1249150122,1555081692,1996064986,2554220882,2821834349,2952996808,3210313671,3336571891,3584528711,113926993,338241895,666307205,773529912,1294757372,1396182291,1695183700,1986661051,2177026350,2456956037,2730485921,2820302411,3259730800,3345764771,3516065817,3600352804,4094571909,275423344,430227734,506948616,659060556,883997877,958139571,1322822218,1537002063,1747873779,1955562222,2024104815,2227730452,2361852424,2428436474,2756734187,3204031479,3329325298]
 some (pb_0,())
abbrev Wh.adH:Type:=((Int)×(Unit)×(List (Int))×(Unit))×((List (Int))×(List (Int)))
abbrev Wh.alz:Type:=(((Unit)×((List (Int)))))
def Wh.TF (x:adH):Option (adH⊕alz):=
 let Jp:=x.1.1
 let W9:=x.1.2.2.1
 let Ga:=x.2.1
 let Gc:=x.2.2
 bif decide (Jp<8) then
  let pb_193:List Int:=[IntKind.wrap .u32 (List.getD W9 (Int.toNat Jp) 0+List.getD Ga (Int.toNat Jp) 0)]
  let Lc:=Gc++pb_193
  bif kL [decide (List.length Gc+(1:Nat)≤eV),decide (0≤Jp),decide (Jp<(↑(List.length Ga):Int)),decide (0≤Jp),decide (Jp<(↑(List.length W9):Int))] then
   some (.inl (((IntKind.wrap .i64 (Jp+1)),(),W9,()),Ga,Lc))
  else none
 else
  some (.inr ((),Gc))
def Wh.adI:((Unit)×((List (Int)))):=default
abbrev Wh.adG:Type:=((Int)×(Unit)×(Unit)×(Unit)×(List (Int))×(Int)×(Int)×(Int)×(Int))×((List (Int))×(List (Int))×(List (Int)))
abbrev Wh.aly:Type:=((((Unit)×(Unit)×(Unit)×(List (Int))×(Int)×(Int)×(Int)×(Int))×((List (Int))×(List (Int))×(List (Int)))))
def Wh.TE (x:adG):Option (adG⊕aly):=
 let M0:=x.1.1
 let h_73:=x.1.2.2.2.2.1
 let i_74:=x.1.2.2.2.2.2.1
 let acO:=x.1.2.2.2.2.2.2.1
 let a_76:=x.1.2.2.2.2.2.2.2.1
 let t_77:=x.1.2.2.2.2.2.2.2.2
 let Ev:=x.2.1
 let EW:=x.2.2.1
 let D8:=x.2.2.2
 bif decide (M0>0) then
  let CT:=List.set Ev (Int.toNat M0) (List.getD Ev (Int.toNat (IntKind.wrap .i64 (M0-1))) 0)
  let Jd:=IntKind.wrap .i64 (M0-1)
  bif kL [decide (0≤M0),decide (M0<(↑(List.length Ev):Int)),decide (0≤Jd),decide (Jd<(↑(List.length Ev):Int))] then
   some (.inl ((Jd,(),(),(),h_73,i_74,acO,a_76,t_77),CT,EW,D8))
  else none
 else
  some (.inr (((),(),(),h_73,i_74,acO,a_76,t_77),Ev,EW,D8))
def Wh.Yf:(((Unit)×(Unit)×(Unit)×(List (Int))×(Int)×(Int)×(Int)×(Int))×((List (Int))×(List (Int))×(List (Int)))):=default
abbrev Wh.adE:Type:=((Unit)×(Int)×(Unit)×(Unit)×(List (Int)))×((List (Int))×(List (Int))×(List (Int)))
abbrev Wh.alx:Type:=((((Unit)×(List (Int)))×((List (Int)))))
def Wh.M7 (x:adE):Option (adE⊕alx):=
 let Jo:=x.1.2.1
 let h_103:=x.1.2.2.2.2
 let Ay:=x.2.1
 let Er:=x.2.2.1
 let Es:=x.2.2.2
 bif decide (Jo<64) then
  let Kz:=List.getD Ay (Int.toNat 4) 0
  b8 (zog wm (Kz,6)) fun r_119=>
  b8 (zog wm (Kz,11)) fun IW=>
  b8 (zog wm (Kz,25)) fun r_121=>
  let e_122:Int:=pZ Go.BinOp.xor Go.IntKind.u32 (pZ Go.BinOp.xor Go.IntKind.u32 r_119.1 IW.1) r_121.1
  bif kL [qu (wm (Kz,25)),true,decide (4<(↑(List.length Ay):Int)),qu (wm (Kz,11)),true,decide (4<(↑(List.length Ay):Int)),qu (wm (Kz,6)),true,decide (4<(↑(List.length Ay):Int))] then
   let v_123:=List.getD Ay (Int.toNat 5) 0
   let v_124:=List.getD Ay (Int.toNat 6) 0
   let ch_127:Int:=pZ Go.BinOp.xor Go.IntKind.u32 (pZ Go.BinOp.and Go.IntKind.u32 Kz v_123) (pZ Go.BinOp.and Go.IntKind.u32 (pZ Go.BinOp.xor Go.IntKind.u32 (Go.IntKind.max Go.IntKind.u32) Kz) v_124)
   bif kL [true,decide (6<(↑(List.length Ay):Int)),true,decide (4<(↑(List.length Ay):Int)),true,decide (5<(↑(List.length Ay):Int)),true,decide (4<(↑(List.length Ay):Int))] then
    let Uq:=List.getD Ay (Int.toNat 7) 0
    let v_131:=List.getD Es (Int.toNat Jo) 0
    let YK:=List.getD Er (Int.toNat Jo) 0
    bif kL [decide (0≤Jo),decide (Jo<(↑(List.length Er):Int)),decide (0≤Jo),decide (Jo<(↑(List.length Es):Int)),true,decide (7<(↑(List.length Ay):Int))] then
     let HF:=List.getD Ay (Int.toNat 0) 0
     b8 (zog wm (HF,2)) fun r_147=>
     b8 (zog wm (HF,13)) fun r_148=>
     b8 (zog wm (HF,22)) fun r_149=>
     let a_150:Int:=pZ Go.BinOp.xor Go.IntKind.u32 (pZ Go.BinOp.xor Go.IntKind.u32 r_147.1 r_148.1) r_149.1
     bif kL [qu (wm (HF,22)),true,decide (0<(↑(List.length Ay):Int)),qu (wm (HF,13)),true,decide (0<(↑(List.length Ay):Int)),qu (wm (HF,2)),true,decide (0<(↑(List.length Ay):Int))] then
      let v_151:=List.getD Ay (Int.toNat 1) 0
      let v_152:=List.getD Ay (Int.toNat 2) 0
      let ajq:Int:=pZ Go.BinOp.xor Go.IntKind.u32 (pZ Go.BinOp.xor Go.IntKind.u32 (pZ Go.BinOp.and Go.IntKind.u32 HF v_151) (pZ Go.BinOp.and Go.IntKind.u32 HF v_152)) (pZ Go.BinOp.and Go.IntKind.u32 v_151 v_152)
      bif kL [true,decide (2<(↑(List.length Ay):Int)),true,decide (1<(↑(List.length Ay):Int)),true,decide (2<(↑(List.length Ay):Int)),true,decide (0<(↑(List.length Ay):Int)),true,decide (1<(↑(List.length Ay):Int)),true,decide (0<(↑(List.length Ay):Int))] then
       iL TE Yf (((7,(),(),(),h_103,Jo,ajq,a_150,(IntKind.wrap .u32 (IntKind.wrap .u32 (IntKind.wrap .u32 (IntKind.wrap .u32 (Uq+e_122)+ch_127)+v_131)+YK))),Ay,Er,Es)) fun KF=>
        let h_158:=KF.1.2.2.2.1
        let i_159:=KF.1.2.2.2.2.1
        let ajr:=KF.1.2.2.2.2.2.1
        let a_161:=KF.1.2.2.2.2.2.2.1
        let t_162:=KF.1.2.2.2.2.2.2.2
        let MW:=KF.2.1
        let XA:=KF.2.2.1
        let XB:=KF.2.2.2
        let abC:=List.set MW (Int.toNat 4) (IntKind.wrap .u32 (List.getD MW (Int.toNat 4) 0+t_162))
        bif kL [true,decide (4<(↑(List.length MW):Int)),true,decide (4<(↑(List.length MW):Int))] then
         let ls_169:=List.set abC (Int.toNat 0) (IntKind.wrap .u32 (IntKind.wrap .u32 (t_162+a_161)+ajr))
         bif kL [true,decide (0<(↑(List.length abC):Int))] then
          some (.inl (((),(IntKind.wrap .i64 (i_159+1)),(),(),h_158),ls_169,XA,XB))
         else none
        else none
      else none
     else none
    else none
   else none
  else none
 else
  some (.inr (((),h_103),Ay))
def Wh.adF:(((Unit)×(List (Int)))×((List (Int)))):=default
def Wh.JT (xs:(List (Int))×(List (Int))):Option (((List (Int)))×(Unit)):=
 let h_0:=xs.1
 let b_1:=xs.2
 dj Lv b_1 fun r_2=>
  dj q76 () fun r_3=>
   let Px:List Int:=[]++h_0
   bif kL [decide ((0:Nat)+List.length h_0≤eV)] then
    iL M7 adF ((((),0,(),(),h_0),Px,r_2.1,r_3.1)) fun y_174=>
     let h_175:=y_174.1.2
     let ls_176:=y_174.2
     iL TF adI (((0,(),h_175,()),ls_176,[])) fun y_200=>
      let Gd:=y_200.2
      some (Gd,())
   else none
abbrev Wh.aeI:Type:=((Int)×(Unit)×(Unit))×((List (Int))×(List (Int)))
abbrev Wh.al5:Type:=(((Unit)×((List (Int)))))
def Wh.TN (x:aeI):Option (aeI⊕al5):=
 let Em:=x.1.1
 let Az:=x.2.1
 let nC:=x.2.2
 bif decide (Em<8) then
  let X9:List Int:=[IntKind.wrap .u8 (Int.fdiv (List.getD Az (Int.toNat Em) 0) (2 ^ Min.min (Int.toNat 24) (Go.IntKind.bits Go.IntKind.u32))),IntKind.wrap .u8 (Int.fdiv (List.getD Az (Int.toNat Em) 0) (2 ^ Min.min (Int.toNat 16) (Go.IntKind.bits Go.IntKind.u32))),IntKind.wrap .u8 (Int.fdiv (List.getD Az (Int.toNat Em) 0) (2 ^ Min.min (Int.toNat 8) (Go.IntKind.bits Go.IntKind.u32))),IntKind.wrap .u8 (List.getD Az (Int.toNat Em) 0)]
  let nE:=nC++X9
  bif kL [decide (List.length nC+(4:Nat)≤eV),decide (0≤Em),decide (Em<(↑(List.length Az):Int)),true,decide (0≤Em),decide (Em<(↑(List.length Az):Int)),true,decide (0≤Em),decide (Em<(↑(List.length Az):Int)),true,decide (0≤Em),decide (Em<(↑(List.length Az):Int))] then
   some (.inl (((IntKind.wrap .i64 (Em+1)),(),()),Az,nE))
  else none
 else
  some (.inr ((),nC))
def Wh.aeJ:((Unit)×((List (Int)))):=default
abbrev Wh.aeG:Type:=((Int)×(Unit)×(Unit))×((List (Int))×(List (Int)))
abbrev Wh.al4:Type:=(((Unit)×((List (Int)))))
def Wh.LH (x:aeG):Option (aeG⊕al4):=
 let CN:=x.1.1
 let Ic:=x.2.1
 let O2:=x.2.2
 bif decide (CN<(↑(List.length Ic):Int)) then
  b8 (zog JT (O2,List.take (Int.toNat (IntKind.wrap .i64 (CN+64)-CN)) (List.drop (Int.toNat CN) Ic))) fun Dr=>
  let pg:=IntKind.wrap .i64 (CN+64)
  bif kL [qu (JT (O2,List.take (Int.toNat (pg-CN)) (List.drop (Int.toNat CN) Ic))),decide (0≤CN),decide (CN≤pg),decide (pg≤(↑(List.length Ic):Int))] then
   some (.inl ((pg,(),()),Ic,Dr.1))
  else none
 else
  some (.inr ((),O2))
def Wh.aeH:((Unit)×((List (Int)))):=default
def Wh.J9 (xs:(List UInt8)):Option (((List UInt8))×(Unit)):=
 let Be:=xs
 dj q77 Be fun r_1=>
  iL LH aeH (((0,(),()),r_1.1,[(1779033703:Int),3144134277,1013904242,2773480762,1359893119,2600822924,528734635,1541459225])) fun y_17=>
   let AX:=y_17.2
   iL TN aeJ (((0,(),()),AX,[])) fun y_48=>
    let z4:=y_48.2
    some (tv z4,())
abbrev Wh.aeE:Type:=((Int)×(List UInt8)×(Unit))×((List (Int)))
abbrev Wh.al3:Type:=(((Unit)×((List (Int)))))
def Wh.LG (x:aeE):Option (aeE⊕al3):=
 let BH:=x.1.1
 let DY:=x.1.2.1
 let Aw:=x.2
 let se:=decide (BH<(↑(List.length DY):Int))
 bif se then
  let X3:List Int:=[(↑(UInt8.toNat (List.getD [(48:UInt8),(49:UInt8),(50:UInt8),(51:UInt8),(52:UInt8),(53:UInt8),(54:UInt8),(55:UInt8),(56:UInt8),(57:UInt8),(97:UInt8),(98:UInt8),(99:UInt8),(100:UInt8),(101:UInt8),(102:UInt8)] (Int.toNat (IntKind.wrap .u8 (Int.tdiv (↑(UInt8.toNat (List.getD DY (Int.toNat BH) (0:UInt8))):Int) 16))) (0:UInt8))):Int),(↑(UInt8.toNat (List.getD [(48:UInt8),(49:UInt8),(50:UInt8),(51:UInt8),(52:UInt8),(53:UInt8),(54:UInt8),(55:UInt8),(56:UInt8),(57:UInt8),(97:UInt8),(98:UInt8),(99:UInt8),(100:UInt8),(101:UInt8),(102:UInt8)] (Int.toNat (Int.tmod (↑(UInt8.toNat (List.getD DY (Int.toNat BH) (0:UInt8))):Int) 16)) (0:UInt8))):Int)]
  let AX:=Aw++X3
  let xb:Int:=(↑(UInt8.toNat (List.getD DY (Int.toNat BH) (0:UInt8))):Int)
  bif kL [decide (List.length Aw+(2:Nat)≤eV),decide (0≤Int.tmod xb 16),decide (Int.tmod xb 16<(↑(16:Nat):Int)),true,decide (0≤BH),se,decide (0≤IntKind.wrap .u8 (Int.tdiv xb 16)),decide (IntKind.wrap .u8 (Int.tdiv xb 16)<(↑(16:Nat):Int)),true,decide (0≤BH),se] then
   some (.inl (((IntKind.wrap .i64 (BH+1)),DY,()),AX))
  else none
 else
  some (.inr ((),Aw))
def Wh.aeF:((Unit)×((List (Int)))):=default
def Wh.Hp (xs:(List UInt8)):Option (((List UInt8))×(Unit)):=
 let c9:=xs
 iL LG aeF (((0,c9,()),[])) fun KG=>
  let By:=KG.2
  some (tv By,())
def Wh.q83 (xs:(List UInt8)):Option (((List UInt8))×(Unit)):=
 let Be:=xs
 b8 (zog J9 Be) fun r_1=>
 b8 (zog Hp r_1.1) fun r_3=>
 bif kL [qu (Hp r_1.1),qu (J9 Be)] then
  some (r_3.1,())
 else none
def Wh.Hi (xs:(Int)×(List UInt8)):Option (((List UInt8))×(Unit)):=
 let Dl:=xs.1
 let CY:=xs.2
 b8 (zog z5 Dl) fun r_2=>
 b8 (zog z5 (↑(List.length CY):Int)) fun e_=>
 let K0:=r_2.1 ++ [(32:UInt8)]++e_.1 ++ [(32:UInt8)]
 bif kL [decide (List.length (r_2.1 ++ [(32:UInt8)]++e_.1)+(1:Nat)≤eV),decide (List.length (r_2.1 ++ [(32:UInt8)])+List.length e_.1≤eV),qu (z5 (↑(List.length CY):Int)),decide (List.length r_2.1+(1:Nat)≤eV),qu (z5 Dl)] then
  let FW:List UInt8:=K0++CY
  b8 (zog q83 FW) fun CE=>
  let xd:List UInt8:=K0++List.take (Int.toNat ((16:Int)-0)) (List.drop (Int.toNat 0) CE.1) ++ [(32:UInt8)]++CY ++ [(10:UInt8)]
  bif kL [decide (List.length (K0++List.take (Int.toNat ((16:Int)-0)) (List.drop (Int.toNat 0) (CE.1)) ++ [(32:UInt8)]++CY)+(1:Nat)≤eV),decide (List.length (K0++List.take (Int.toNat ((16:Int)-0)) (List.drop (Int.toNat 0) (CE.1)) ++ [(32:UInt8)])+List.length CY≤eV),decide (List.length (K0++List.take (Int.toNat ((16:Int)-0)) (List.drop (Int.toNat 0) (CE.1)))+(1:Nat)≤eV),decide (List.length K0+List.length (List.take (Int.toNat ((16:Int)-0)) (List.drop (Int.toNat 0) (CE.1)))≤eV),true,true,decide (16≤(↑(List.length (CE.1)):Int)),qu (q83 FW),decide (List.length K0+List.length CY≤eV)] then
   some (xd,())
  else none
 else none
def Wh.IB (xs:(List UInt8)×(Int)×(Int)):Option (((List UInt8)×(Int))×(Unit)):=
 let A5:=xs.1
 let C6:=xs.2.1
 let XT:=xs.2.2
 dj Cn (A5,C6,32) fun r_3=>
  let AI:=decide (r_3.1<0)
  b8 (zog z9 (List.take (Int.toNat (r_3.1-C6)) (List.drop (Int.toNat C6) A5))) fun ic=>
  let oc:=bif AI then true else ic.1 != XT
  bif kL [!!AI || qu (z9 (List.take (Int.toNat (r_3.1-C6)) (List.drop (Int.toNat C6) A5))),!!AI || decide (0≤C6),!!AI || decide (C6≤r_3.1),!!AI || decide (r_3.1≤(↑(List.length A5):Int))] then
   bif oc then
    some (([],0),())
   else
    let nP:=IntKind.wrap .i64 (r_3.1+1)
    dj Cn (A5,nP,32) fun w9=>
     bif decide (w9.1<0) then
      some (([],0),())
     else
      b8 (zog z9 (List.take (Int.toNat (w9.1-nP)) (List.drop (Int.toNat nP) A5))) fun Dr=>
      bif kL [qu (z9 (List.take (Int.toNat (w9.1-nP)) (List.drop (Int.toNat nP) A5))),decide (0≤nP),decide (nP≤w9.1),decide (w9.1≤(↑(List.length A5):Int))] then
       let pg:=IntKind.wrap .i64 (w9.1+18)
       b8 (zog g8 (Dr.1,1,500)) fun E_=>
       let se:=bif !E_.1 then true else decide (IntKind.wrap .i64 (IntKind.wrap .i64 (pg+Dr.1)+1)>(↑(List.length A5):Int))
       bif kL [qu (g8 (Dr.1,1,500))] then
        bif se then
         some (([],0),())
        else
         let AN:=IntKind.wrap .i64 (pg+Dr.1)
         b8 (zog Hi (XT,List.take (Int.toNat (AN-pg)) (List.drop (Int.toNat pg) A5))) fun CE=>
         bif kL [qu (Hi (XT,List.take (Int.toNat (AN-pg)) (List.drop (Int.toNat pg) A5))),decide (0≤pg),decide (pg≤AN),decide (AN≤(↑(List.length A5):Int))] then
          bif kL [decide (0≤C6),decide (C6≤IntKind.wrap .i64 (AN+1)),decide (IntKind.wrap .i64 (AN+1)≤(↑(List.length A5):Int))] then
           bif(!List.take (Int.toNat (IntKind.wrap .i64 (AN+1)-C6)) (List.drop (Int.toNat C6) A5)==CE.1) then
            some (([],0),())
           else
            let I7:Int:=(↑(List.length CE.1):Int)
            let tn:List UInt8:=List.take (Int.toNat (AN-pg)) (List.drop (Int.toNat pg) A5)
            bif kL [decide (0≤pg),decide (pg≤AN),decide (AN≤(↑(List.length A5):Int))] then
             some ((tn,I7),())
            else none
          else none
         else none
       else none
      else none
  else none
abbrev Wh.aem:Type:=((Int)×(Unit)×(List UInt8))×((List (List UInt8)))
abbrev Wh.alU:Type:=((((Unit)×(Int))×((List (List UInt8)))))
def Wh.LC (x:aem):Option (aem⊕alU):=
 let Wi:=x.1.1
 let abq:=x.1.2.2
 let Ca:=x.2
 let mb:Int:=(↑(List.length Ca):Int)
 dj IB (abq,Wi,mb) fun FO=>
  bif(FO.1.2==0) then
   some (.inr (((),Wi),Ca))
  else
   let EZ:List (List UInt8):=[FO.1.1]
   let Bi:List (List UInt8):=Ca++EZ
   bif kL [decide (List.length Ca+(1:Nat)≤eV)] then
    some (.inl (((IntKind.wrap .i64 (Wi+FO.1.2)),(),abq),Bi))
   else none
def Wh.aen:(((Unit)×(Int))×((List (List UInt8)))):=default
def Wh.E5 (xs:(List UInt8)):Option (((List (List UInt8))×(Int))×(Unit)):=
 let A5:=xs
 iL LC aen (((0,(),A5),[])) fun Mh=>
  let B4:=Mh.1.2
  let AK:=Mh.2
  some ((AK,B4),())
def Wh.Gu (xs:(an.D)):Option ((Bool)×(Unit)):=
 let t_0:an.D:=xs
 b8 (zog g8 (t_0.1,0,1)) fun r_1=>
 b8 (zog DG t_0.2.1) fun r_2=>
 b8 (zog g8 ((↑(List.length (t_0.2.2.2.1)):Int),1,300)) fun ic=>
 let nP:=bif bif r_1.1 then r_2.1 else false then ic.1 else false
 bif kL [(!bif r_1.1 then r_2.1 else false) || qu (g8 ((↑(List.length (t_0.2.2.2.1)):Int),1,300)),!r_1.1 || qu (DG t_0.2.1),qu (g8 (t_0.1,0,1))] then
  some (nP,())
 else none
def Wh.EE (xs:(Int)×(List UInt8)×(List UInt8)):Option (((List UInt8))×(Unit)):=
 let MM:=xs.1
 let Eb:=xs.2.1
 let NB:=xs.2.2
 let A2:=NB == []
 bif A2 then
  dj Gu (MM,Eb,0,[(120:UInt8)],()) fun e_=>
   bif !e_.1 then
    some ([],())
   else
    b8 (zog z5 MM) fun ic=>
    let Cw:=ic.1 ++ [(32:UInt8)]++Eb ++ [(58:UInt8)]++NB
    bif kL [decide (List.length (ic.1 ++ [(32:UInt8)]++Eb ++ [(58:UInt8)])+List.length NB≤eV),decide (List.length (ic.1 ++ [(32:UInt8)]++Eb)+(1:Nat)≤eV),decide (List.length (ic.1 ++ [(32:UInt8)])+List.length Eb≤eV),decide (List.length ic.1+(1:Nat)≤eV),qu (z5 MM)] then
     some (Cw,())
    else none
 else
  dj Gu (MM,Eb,0,NB,()) fun Ce=>
   bif !Ce.1 then
    some ([],())
   else
    b8 (zog z5 MM) fun BB=>
    let AN:=BB.1 ++ [(32:UInt8)]++Eb ++ [(58:UInt8)]++NB
    bif kL [decide (List.length (BB.1 ++ [(32:UInt8)]++Eb ++ [(58:UInt8)])+List.length NB≤eV),decide (List.length (BB.1 ++ [(32:UInt8)]++Eb)+(1:Nat)≤eV),decide (List.length (BB.1 ++ [(32:UInt8)])+List.length Eb≤eV),decide (List.length BB.1+(1:Nat)≤eV),qu (z5 MM)] then
     some (AN,())
    else none
def Wh.IC (xs:(an.D)×(Int)×(List UInt8)):Option ((Bool)×(Unit)):=
 let Ei:=xs.1
 let AW:=xs.2.1
 let C9:=xs.2.2
 let n_:=bif decide (Ei.1<AW) then true else bif Ei.1==AW then Go.Op.bytesLess Ei.2.1 C9 else false
 some (n_,())
abbrev Wh.adP:Type:=((Int)×(List (an.D))×(Int)×(Int))×(Unit)
abbrev Wh.alD:Type:=(((Int)×(Unit)))
def Wh.JU (x:adP):Option (adP⊕alD):=
 let Av:=x.1.1
 let S6:=x.1.2.1
 let n_17:=x.1.2.2.1
 let Xc:=x.1.2.2.2
 let xb:Int:=(↑(List.length S6):Int)
 bif decide (Av<xb) then
  let xd:an.D:=List.getD S6 (Int.toNat Av) (0,[],0,[],())
  bif kL [decide (0≤Av),decide (Av<xb)] then
   bif(xd.1==Xc) then
    bif kL [decide (0≤Av),decide (Av<xb)] then
     some (.inl (((IntKind.wrap .i64 (Av+1)),S6,(IntKind.wrap .i64 (n_17+(↑(List.length (xd.2.2.2.1)):Int))),Xc),()))
    else none
   else
    some (.inl (((IntKind.wrap .i64 (Av+1)),S6,n_17,Xc),()))
  else none
 else
  some (.inr (n_17,()))
def Wh.adQ:((Int)×(Unit)):=default
def Wh.Is (xs:(List (an.D))×(Int)):Option ((Int)×(Unit)):=
 let K6:=xs.1
 let AW:=xs.2
 iL JU adQ (((0,K6,0,AW),())) fun EM=>
  let n_30:=EM.1
  some (n_30,())
abbrev Wh.aew:Type:=((Int)×(Unit))×((gv.D))
abbrev Wh.alZ:Type:=(((Bool)×(Unit))⊕((Unit)×(Unit)))
def Wh.Nb (x:aew):Option (aew⊕alZ):=
 let h_66:=x.1.1
 let BA:=x.2
 bif decide (h_66<2) then
  dj Is (BA.2.1,h_66) fun r_69=>
   bif decide (r_69.1>500) then
    some (.inr (.inl (false,())))
   else
    some (.inl (((IntKind.wrap .i64 (h_66+1)),()),BA))
 else
  some (.inr (.inr ((),())))
def Wh.aex:((Bool)×(Unit))⊕((Unit)×(Unit)):=.inl default
abbrev Wh.aeu:Type:=((Int)×(Unit)×(Unit)×(Int))×((an.D)×(gv.D))
abbrev Wh.alY:Type:=(((Bool)×(Unit))⊕(((Unit)×(Int))×((gv.D))))
def Wh.LF (x:aeu):Option (aeu⊕alY):=
 let OY:=x.1.1
 let i_23:=x.1.2.2.2
 let BJ:=x.2.1
 let A_:=x.2.2
 bif decide (OY<i_23) then
  let Du:an.D:=List.getD A_.2.1 (Int.toNat OY) (0,[],0,[],())
  bif kL [decide (0≤OY),decide (OY<(↑(List.length A_.2.1):Int))] then
   bif(Du.2.2.1==BJ.2.2.1) then
    some (.inr (.inl (false,())))
   else
    some (.inl (((IntKind.wrap .i64 (OY+1)),(),(),i_23),BJ,A_))
  else none
 else
  some (.inr (.inr (((),i_23),A_)))
def Wh.aev:((Bool)×(Unit))⊕(((Unit)×(Int))×((gv.D))):=.inl default
abbrev Wh.aes:Type:=((Unit)×(Int))×((gv.D))
abbrev Wh.alX:Type:=(((Bool)×(Unit))⊕((Unit)×((gv.D))))
def Wh.J4 (x:aes):Option (aes⊕alX):=
 let Dd:=x.1.2
 let nE:=x.2
 let EL:Int:=(↑(List.length nE.2.1):Int)
 bif decide (Dd<EL) then
  let Ir:an.D:=List.getD nE.2.1 (Int.toNat Dd) (0,[],0,[],())
  bif kL [decide (0≤Dd),decide (Dd<EL)] then
   b8 (zog Gu Ir) fun PR=>
   b8 (zog g8 (Ir.2.2.1,1,nE.1)) fun EI=>
   b8 (zog IC (List.getD nE.2.1 (Int.toNat (IntKind.wrap .i64 (Dd-1))) (0,[],0,[],()),Ir.1,Ir.2.1)) fun PU=>
   let v_47:=bif bif !PR.1 then true else !EI.1 then true else bif decide (Dd>0) then !PU.1 else false
   bif kL [!(decide (Dd>0) && !bif !PR.1 then true else !EI.1) || qu (IC (List.getD nE.2.1 (Int.toNat (IntKind.wrap .i64 (Dd-1))) (0,[],0,[],()),Ir.1,Ir.2.1)),!(decide (Dd>0) && !bif !PR.1 then true else !EI.1) || decide (0≤IntKind.wrap .i64 (Dd-1)),!(decide (Dd>0) && !bif !PR.1 then true else !EI.1) || decide (IntKind.wrap .i64 (Dd-1)<EL),!!!PR.1 || qu (g8 (Ir.2.2.1,1,nE.1)),qu (Gu Ir)] then
    bif v_47 then
     some (.inr (.inl (false,())))
    else
     iL LF aev (((0,(),(),Dd),Ir,nE)) fun q_=>
      sumC q_ (fun NQ=>
       let B5:=NQ.1
       some (.inr (.inl (B5,())))) (fun z_50=>
       let i_52:=z_50.1.2
       let Ax:=z_50.2
       some (.inl (((),(IntKind.wrap .i64 (i_52+1))),Ax)))
   else none
  else none
 else
  some (.inr (.inr ((),nE)))
def Wh.aet:((Bool)×(Unit))⊕((Unit)×((gv.D))):=.inl default
def Wh.Hl (xs:(gv.D)):Option ((Bool)×(Unit)):=
 let cx:gv.D:=xs
 b8 (zog g8 (cx.1,0,99999)) fun r_1=>
 let v_2:=bif !r_1.1 then true else decide ((↑(List.length cx.2.1):Int)>8)
 bif kL [qu (g8 (cx.1,0,99999))] then
  bif v_2 then
   some (false,())
  else
   iL J4 aet ((((),0),cx)) fun q_=>
    sumC q_ (fun FX=>
     let NH:=FX.1
     some (NH,())) (fun z_57=>
     let Cb:=z_57.2
     iL Nb aex (((0,()),Cb)) fun q_=>
      sumC q_ (fun Qs=>
       let Uy:=Qs.1
       some (Uy,())) (fun _=>
       some (true,())))
 else none
abbrev Wh.afb:Type:=((Int)×(List UInt8)×(Unit)×(Int))×((gv.D))
abbrev Wh.amj:Type:=(((Int)×(Unit))⊕((Unit)×(Unit)))
def Wh.Kf (x:afb):Option (afb⊕amj):=
 let zP:=x.1.1
 let acV:=x.1.2.1
 let SP:=x.1.2.2.2
 let we:=x.2
 let s5:Int:=(↑(List.length we.2.1):Int)
 bif decide (zP<s5) then
  let mb:an.D:=List.getD we.2.1 (Int.toNat zP) (0,[],0,[],())
  let r_:=bif mb.1==SP then mb.2.1==acV else false
  bif kL [!mb.1==SP || decide (0≤zP),!mb.1==SP || decide (zP<s5),decide (0≤zP),decide (zP<s5)] then
   bif r_ then
    some (.inr (.inl (zP,())))
   else
    some (.inl (((IntKind.wrap .i64 (zP+1)),acV,(),SP),we))
  else none
 else
  some (.inr (.inr ((),())))
def Wh.afc:((Int)×(Unit))⊕((Unit)×(Unit)):=.inl default
def Wh.FF (xs:(gv.D)×(Int)×(List UInt8)):Option ((Int)×(Unit)):=
 let cx:=xs.1
 let AW:=xs.2.1
 let C9:=xs.2.2
 iL Kf afc (((0,C9,(),AW),cx)) fun q_=>
  sumC q_ (fun KG=>
   let v5:=KG.1
   some (v5,())) (fun _=>
   some (-1,()))
def Wh.LD (xs:(gv.D)×(Int)):Option ((((Int)×((List (an.D))×(Unit))))×(Unit)):=
 let cx:=xs.1
 let k_1:=xs.2
 let BV:List (an.D):=[]++List.take (Int.toNat (k_1-0)) (List.drop (Int.toNat 0) cx.2.1)
 let Dm:List (an.D):=BV++List.take (Int.toNat ((↑(List.length cx.2.1):Int)-IntKind.wrap .i64 (k_1+1))) (List.drop (Int.toNat (IntKind.wrap .i64 (k_1+1))) cx.2.1)
 let AI:List (an.D):=List.take (Int.toNat (k_1-0)) (List.drop (Int.toNat 0) cx.2.1)
 let n_:=IntKind.wrap .i64 (k_1+1)
 bif kL [decide (List.length BV+List.length (List.take (Int.toNat ((↑(List.length cx.2.1):Int)-n_)) (List.drop (Int.toNat n_) cx.2.1))≤eV),decide (0≤n_),decide (n_≤(↑(List.length cx.2.1):Int)),decide ((↑(List.length cx.2.1):Int)≤(↑(List.length cx.2.1):Int)),decide ((0:Nat)+List.length AI≤eV),true,decide (0≤k_1),decide (k_1≤(↑(List.length cx.2.1):Int))] then
  some ((cx.1,Dm,()),())
 else none
def Wh.Hv (xs:(gv.D)×(Int)×(List UInt8)):Option ((((Int)×((List (an.D))×(Unit)))×(Int))×(Unit)):=
 let cx:=xs.1
 let AW:=xs.2.1
 let C9:=xs.2.2
 dj Hl cx fun r_3=>
  bif !r_3.1 then
   some (((0,[],()),1),())
  else
   dj FF (cx,AW,C9) fun e_=>
    bif decide (e_.1<0) then
     dj Gr cx fun n5=>
      some ((n5.1,3),())
    else
     dj LD (cx,e_.1) fun AL=>
      some ((AL.1,0),())
abbrev Wh.ae8:Type:=((Int)×(Unit)×(Unit)×(Unit))×(((Int)×((Unit)×(Unit)))×(gv.D)×(an.D)×(List (an.D)))
abbrev Wh.amh:Type:=((((Unit)×(Int)×(Unit)×(Unit))×(((Int)×((Unit)×(Unit)))×(gv.D)×(an.D)×(List (an.D)))))
def Wh.Ke (x:ae8):Option (ae8⊕amh):=
 let GU:=x.1.1
 let Aw:=x.2.1.1
 let G3:=x.2.1.2.2
 let we:=x.2.2.1
 let AX:=x.2.2.2.1
 let Ca:=x.2.2.2.2
 let mb:Int:=(↑(List.length we.2.1):Int)
 b8 (zog IC (List.getD we.2.1 (Int.toNat GU) (0,[],0,[],()),AX.1,AX.2.1)) fun GA=>
 let BP:=bif decide (GU<mb) then GA.1 else false
 bif kL [!decide (GU<mb) || qu (IC (List.getD we.2.1 (Int.toNat GU) (0,[],0,[],()),AX.1,AX.2.1)),!decide (GU<mb) || decide (0≤GU),!decide (GU<mb) || decide (GU<mb)] then
  bif BP then
   some (.inl (((IntKind.wrap .i64 (GU+1)),(),(),()),(Aw,(),G3),we,AX,Ca))
  else
   some (.inr (((),GU,(),()),(Aw,(),G3),we,AX,Ca))
 else none
def Wh.ae9:(((Unit)×(Int)×(Unit)×(Unit))×(((Int)×((Unit)×(Unit)))×(gv.D)×(an.D)×(List (an.D)))):=default
def Wh.LO (xs:(gv.D)×(an.D)):Option ((((Int)×((List (an.D))×(Unit))))×(Unit)):=
 let cx:=xs.1
 let t_1:=xs.2
 iL Ke ae9 (((0,(),(),()),(0,(),()),cx,t_1,[])) fun Ff=>
  let GW:=Ff.1.2.1
  let Bi:=Ff.2.2.1
  let AD:=Ff.2.2.2.1
  let Tt:=IntKind.wrap .i64 (Bi.1+1)
  let Pw:List (an.D):=[]++List.take (Int.toNat (GW-0)) (List.drop (Int.toNat 0) Bi.2.1)
  let pb_36:List (an.D):=[(AD.1,AD.2.1,Tt,AD.2.2.2)]
  let pb_38:List (an.D):=Pw++pb_36++List.take (Int.toNat ((↑(List.length Bi.2.1):Int)-GW)) (List.drop (Int.toNat GW) Bi.2.1)
  let EL:List (an.D):=List.take (Int.toNat (GW-0)) (List.drop (Int.toNat 0) Bi.2.1)
  let FU:List (an.D):=List.take (Int.toNat ((↑(List.length Bi.2.1):Int)-GW)) (List.drop (Int.toNat GW) Bi.2.1)
  bif kL [decide (List.length (Pw++pb_36)+List.length FU≤eV),decide (0≤GW),decide (GW≤(↑(List.length Bi.2.1):Int)),decide ((↑(List.length Bi.2.1):Int)≤(↑(List.length Bi.2.1):Int)),decide (List.length Pw+(1:Nat)≤eV),decide ((0:Nat)+List.length EL≤eV),true,decide (0≤GW),decide (GW≤(↑(List.length Bi.2.1):Int))] then
   some ((Tt,pb_38,()),())
  else none
def Wh.Fx (xs:(gv.D)×(Int)×(List UInt8)×(List UInt8)):Option ((((Int)×((List (an.D))×(Unit)))×(Int))×(Unit)):=
 let cx:=xs.1
 let AW:=xs.2.1
 let C9:=xs.2.2.1
 let L6:=xs.2.2.2
 dj Hl cx fun e_=>
  bif !e_.1 then
   some (((0,[],()),1),())
  else
   dj Gu (AW,C9,0,L6,()) fun ic=>
    bif !ic.1 then
     dj Gr cx fun n5=>
      some ((n5.1,1),())
    else
     dj FF (cx,AW,C9) fun AL=>
      bif decide (AL.1≥0) then
       dj Gr cx fun A1=>
        some ((A1.1,2),())
      else
       let CH:Int:=(↑(List.length cx.2.1):Int)
       b8 (zog Is (cx.2.1,AW)) fun IX=>
       let s5:=bif bif decide (CH≥8) then true else decide (cx.1≥99999) then true else decide (IntKind.wrap .i64 (IX.1+(↑(List.length L6):Int))>500)
       bif kL [(!!bif decide (CH≥8) then true else decide (cx.1≥99999)) || qu (Is (cx.2.1,AW))] then
        bif s5 then
         dj Gr cx fun Hz=>
          some ((Hz.1,4),())
        else
         dj LO (cx,AW,C9,0,L6,()) fun CE=>
          some ((CE.1,0),())
       else none
def Wh.FA (xs:(gv.D)×(List UInt8)):Option ((((Int)×((List (an.D))×(Unit)))×(Bool))×(Unit)):=
 let cx:=xs.1
 let s_1:=xs.2
 dj Cn (s_1,0,58) fun r_2=>
  bif decide (r_2.1<0) then
   some (((0,[],()),false),())
  else
   b8 (zog Dp (List.take (Int.toNat (r_2.1-0)) (List.drop (Int.toNat 0) s_1),32)) fun e_=>
   let n_:List UInt8:=List.take (Int.toNat (r_2.1-0)) (List.drop (Int.toNat 0) s_1)
   bif kL [qu (Dp (n_,32)),true,decide (0≤r_2.1),decide (r_2.1≤(↑(List.length s_1):Int))] then
    let oc:=IntKind.wrap .i64 (r_2.1+1)
    let NC:List UInt8:=List.take (Int.toNat ((↑(List.length s_1):Int)-oc)) (List.drop (Int.toNat oc) s_1)
    bif kL [decide (0≤oc),decide (oc≤(↑(List.length s_1):Int)),decide ((↑(List.length s_1):Int)≤(↑(List.length s_1):Int))] then
     let A3:Int:=(↑(List.length e_.1):Int)
     b8 (zog z9 (List.getD e_.1 (Int.toNat 0) [])) fun BB=>
     b8 (zog EE (BB.1,List.getD e_.1 (Int.toNat 1) [],NC)) fun Dr=>
     let pg:=bif A3 != 2 then true else !Dr.1==s_1
     bif kL [!!A3 != 2 || qu (EE (BB.1,List.getD e_.1 (Int.toNat 1) [],NC)),!!A3 != 2 || decide ((0:Int)≤1),!!A3 != 2 || decide (1<A3),!!A3 != 2 || qu (z9 (List.getD e_.1 (Int.toNat 0) [])),!!A3 != 2 || decide ((0:Int)≤0),!!A3 != 2 || decide (0<A3)] then
      bif pg then
       some (((0,[],()),false),())
      else
       let Bq:=NC == []
       bif Bq then
        b8 (zog Hv (cx,BB.1,List.getD e_.1 (Int.toNat 1) [])) fun IX=>
        let xb:=List.getD e_.1 (Int.toNat 0) []
        let mb:=List.getD e_.1 (Int.toNat 1) []
        b8 (zog Hv (cx,BB.1,mb)) fun r_30=>
        bif kL [qu (Hv (cx,BB.1,mb)),true,decide (1<A3),qu (z9 xb),true,decide (0<A3)] then
         some (((IX.1.1.1,IX.1.1.2.1,IX.1.1.2.2),(r_30.1.2==0)),())
        else none
       else
        b8 (zog Fx (cx,BB.1,List.getD e_.1 (Int.toNat 1) [],NC)) fun CV=>
        let B4:=List.getD e_.1 (Int.toNat 0) []
        let C0:=List.getD e_.1 (Int.toNat 1) []
        b8 (zog Fx (cx,BB.1,C0,NC)) fun PU=>
        bif kL [qu (Fx (cx,BB.1,C0,NC)),true,decide (1<A3),qu (z9 B4),true,decide (0<A3)] then
         some (((CV.1.1.1,CV.1.1.2.1,CV.1.1.2.2),(PU.1.2==0)),())
        else none
     else none
    else none
   else none
abbrev Wh.aeq:Type:=((Unit)×(Int)×(Unit)×(List (List UInt8)))×(((Int)×((Unit)×(Unit)))×((Int)×((Unit)×(Unit)))×(List (an.D))×(List (an.D)))
abbrev Wh.alW:Type:=((((Unit)×(Bool))×(((Int)×((Unit)×(Unit)))×(List (an.D))))⊕(((Unit)×(Unit))×(((Int)×((Unit)×(Unit)))×((Int)×((Unit)×(Unit)))×(List (an.D))×(List (an.D)))))
def Wh.J3 (x:aeq):Option (aeq⊕alW):=
 let Av:=x.1.2.1
 let T7:=x.1.2.2.2
 let we:=x.2.1.1
 let AX:=x.2.1.2.2
 let Ca:=x.2.2.1.1
 let Eu:=x.2.2.1.2.2
 let DE:=x.2.2.2.1
 let AO:=x.2.2.2.2
 let r_:Int:=(↑(List.length T7):Int)
 bif decide (Av<r_) then
  b8 (zog FA ((Ca,AO,Eu),List.getD T7 (Int.toNat Av) [])) fun DI=>
  let tn:=List.getD T7 (Int.toNat Av) []
  bif kL [qu (FA ((Ca,AO,Eu),tn)),decide (0≤Av),decide (Av<r_)] then
   bif(!DI.1.2) then
    some (.inr (.inl (((),false),(0,(),()),[])))
   else
    some (.inl (((),(IntKind.wrap .i64 (Av+1)),(),T7),(we,(),AX),(DI.1.1.1,(),DI.1.1.2.2),DE,DI.1.1.2.1))
  else none
 else
  some (.inr (.inr (((),()),(we,(),AX),(Ca,(),Eu),DE,AO)))
def Wh.aer:(((Unit)×(Bool))×(((Int)×((Unit)×(Unit)))×(List (an.D))))⊕(((Unit)×(Unit))×(((Int)×((Unit)×(Unit)))×((Int)×((Unit)×(Unit)))×(List (an.D))×(List (an.D)))):=.inl default
def Wh.IF (xs:(List (List UInt8))):Option ((((Int)×((List (an.D))×(Unit)))×(Bool))×(Unit)):=
 let aoz:List (List UInt8):=xs
 iL J3 aer ((((),0,(),aoz),(0,(),()),(0,(),()),[],[])) fun q_=>
  sumC q_ (fun NN=>
   let GG:=NN.1.2
   let Bz:=NN.2.1.1
   let Az:=NN.2.1.2.2
   let nC:=NN.2.2
   some (((Bz,nC,Az),GG),())) (fun z_31=>
   let nE:=z_31.2.2.1.1
   let A6:=z_31.2.2.1.2.2
   let AE:=z_31.2.2.2.2
   some (((nE,AE,A6),true),()))
def Wh.q98 (xs:(b7.D)):Option ((Bool)×(Unit)):=
 let c9:b7.D:=xs
 dj E5 (c9.2.2.1) fun r_1=>
  dj IF r_1.1.1 fun r_2=>
   some (r_2.1.2,())
abbrev Wh.age:Type:=((Int)×(Unit)×(Unit))×((gv.D)×(gv.D))
abbrev Wh.amP:Type:=(((Bool)×(Unit))⊕((Unit)×(Unit)))
def Wh.Kp (x:age):Option (age⊕amP):=
 let BH:=x.1.1
 let F_:=x.2.1
 let Aw:=x.2.2
 let se:Int:=(↑(List.length Aw.2.1):Int)
 bif decide (BH<se) then
  let s5:an.D:=List.getD Aw.2.1 (Int.toNat BH) (0,[],0,[],())
  let xb:an.D:=List.getD F_.2.1 (Int.toNat BH) (0,[],0,[],())
  bif kL [decide (0≤BH),decide (BH<(↑(List.length F_.2.1):Int)),decide (0≤BH),decide (BH<se)] then
   bif(!(s5.1==xb.1&&(s5.2.1==xb.2.1&&(s5.2.2.1==xb.2.2.1&&(s5.2.2.2.1==xb.2.2.2.1&&true))))) then
    some (.inr (.inl (false,())))
   else
    some (.inl (((IntKind.wrap .i64 (BH+1)),(),()),F_,Aw))
  else none
 else
  some (.inr (.inr ((),())))
def Wh.agf:((Bool)×(Unit))⊕((Unit)×(Unit)):=.inl default
def Wh.Hy (xs:(gv.D)×(gv.D)):Option ((Bool)×(Unit)):=
 let Ei:=xs.1
 let b_1:=xs.2
 let A2:=bif(Ei.1 != b_1.1) then true else(↑(List.length Ei.2.1):Int) != (↑(List.length b_1.2.1):Int)
 bif A2 then
  some (false,())
 else
  iL Kp agf (((0,(),()),b_1,Ei)) fun q_=>
   sumC q_ (fun HH=>
    let I7:=HH.1
    some (I7,())) (fun _=>
    some (true,()))
def Wh.II (xs:(cg.D)):Option ((Bool)×(Unit)):=
 let El:cg.D:=xs
 bif(El.2.1==0) then
  some ((El.1==0&&(El.2.1==0&&(El.2.2.1==0&&(El.2.2.2.1==0&&(El.2.2.2.2.1==false&&true))))),())
 else
  b8 (zog g8 (El.1,0,1)) fun r_3=>
  b8 (zog g8 (El.2.1,1,99999)) fun e_=>
  b8 (zog g8 (El.2.2.1,0,23)) fun AL=>
  b8 (zog g8 (El.2.2.2.1,0,99999)) fun A1=>
  let AV:=bif bif bif r_3.1 then e_.1 else false then AL.1 else false then A1.1 else false
  bif kL [(!bif bif r_3.1 then e_.1 else false then AL.1 else false) || qu (g8 (El.2.2.2.1,0,99999)),(!bif r_3.1 then e_.1 else false) || qu (g8 (El.2.2.1,0,23)),!r_3.1 || qu (g8 (El.2.1,1,99999)),qu (g8 (El.1,0,1))] then
   some (AV,())
  else none
abbrev Wh.aeA:Type:=((Int)×(Int)×(Int)×(Unit))×((je.D))
abbrev Wh.al1:Type:=(((Int)×(Unit)))
def Wh.J7 (x:aeA):Option (aeA⊕al1):=
 let Av:=x.1.1
 let n_16:=x.1.2.1
 let Xb:=x.1.2.2.1
 let AX:=x.2
 let xb:Int:=(↑(List.length AX.1):Int)
 bif decide (Av<xb) then
  let xd:cg.D:=List.getD AX.1 (Int.toNat Av) (0,0,0,0,false,())
  let BP:=bif decide (xd.2.1>0) then xd.1==Xb else false
  bif kL [!decide (xd.2.1>0) || decide (0≤Av),!decide (xd.2.1>0) || decide (Av<xb),decide (0≤Av),decide (Av<xb)] then
   bif BP then
    some (.inl (((IntKind.wrap .i64 (Av+1)),(IntKind.wrap .i64 (n_16+1)),Xb,()),AX))
   else
    some (.inl (((IntKind.wrap .i64 (Av+1)),n_16,Xb,()),AX))
  else none
 else
  some (.inr (n_16,()))
def Wh.aeB:((Int)×(Unit)):=default
def Wh.J6 (xs:(je.D)×(Int)):Option ((Int)×(Unit)):=
 let g9:=xs.1
 let AW:=xs.2
 iL J7 aeB (((0,0,AW,()),g9)) fun EM=>
  let n_30:=EM.1
  some (n_30,())
abbrev Wh.ad5:Type:=((Int)×(Unit))×((je.D))
abbrev Wh.alL:Type:=(((Bool)×(Unit))⊕((Unit)×(Unit)))
def Wh.Iw (x:ad5):Option (ad5⊕alL):=
 let h_67:=x.1.1
 let Cr:=x.2
 bif decide (h_67<2) then
  dj J6 (Cr,h_67) fun r_70=>
   bif decide (r_70.1>5) then
    some (.inr (.inl (false,())))
   else
    some (.inl (((IntKind.wrap .i64 (h_67+1)),()),Cr))
 else
  some (.inr (.inr ((),())))
def Wh.ad6:((Bool)×(Unit))⊕((Unit)×(Unit)):=.inl default
abbrev Wh.ad3:Type:=((Int)×(Unit)×(Int))×((je.D))
abbrev Wh.alK:Type:=(((Bool)×(Unit))⊕(((Unit)×(Int))×((je.D))))
def Wh.E4 (x:ad3):Option (ad3⊕alK):=
 let Ft:=x.1.1
 let A9:=x.1.2.2
 let BU:=x.2
 bif decide (Ft<A9) then
  let v5:cg.D:=List.getD BU.1 (Int.toNat A9) (0,0,0,0,false,())
  let Cf:=bif bif decide (v5.2.1>0) then v5.2.1==((List.getD BU.1 (Int.toNat Ft) (0,0,0,0,false,())).2).1 else false then v5.2.2.1==(((List.getD BU.1 (Int.toNat Ft) (0,0,0,0,false,())).2).2).1 else false
  bif kL [(!bif decide (v5.2.1>0) then v5.2.1==((List.getD BU.1 (Int.toNat Ft) (0,0,0,0,false,())).2).1 else false) || decide (0≤Ft),(!bif decide (v5.2.1>0) then v5.2.1==((List.getD BU.1 (Int.toNat Ft) (0,0,0,0,false,())).2).1 else false) || decide (Ft<(↑(List.length BU.1):Int)),(!bif decide (v5.2.1>0) then v5.2.1==((List.getD BU.1 (Int.toNat Ft) (0,0,0,0,false,())).2).1 else false) || decide (0≤A9),(!bif decide (v5.2.1>0) then v5.2.1==((List.getD BU.1 (Int.toNat Ft) (0,0,0,0,false,())).2).1 else false) || decide (A9<(↑(List.length BU.1):Int)),!decide (v5.2.1>0) || decide (0≤Ft),!decide (v5.2.1>0) || decide (Ft<(↑(List.length BU.1):Int)),!decide (v5.2.1>0) || decide (0≤A9),!decide (v5.2.1>0) || decide (A9<(↑(List.length BU.1):Int)),decide (0≤A9),decide (A9<(↑(List.length BU.1):Int))] then
   bif Cf then
    some (.inr (.inl (false,())))
   else
    some (.inl (((IntKind.wrap .i64 (Ft+1)),(),A9),BU))
  else none
 else
  some (.inr (.inr (((),A9),BU)))
def Wh.ad4:((Bool)×(Unit))⊕(((Unit)×(Int))×((je.D))):=.inl default
abbrev Wh.ad1:Type:=((Unit)×(Int))×((je.D))
abbrev Wh.alJ:Type:=(((Bool)×(Unit))⊕((Unit)×((je.D))))
def Wh.Iv (x:ad1):Option (ad1⊕alJ):=
 let OW:=x.1.2
 let nI:=x.2
 let HG:Int:=(↑(List.length nI.1):Int)
 bif decide (OW<HG) then
  let Ma:cg.D:=List.getD nI.1 (Int.toNat OW) (0,0,0,0,false,())
  b8 (zog II Ma) fun r_48=>
  bif kL [qu (II Ma),decide (0≤OW),decide (OW<HG)] then
   bif !r_48.1 then
    some (.inr (.inl (false,())))
   else
    iL E4 ad4 (((0,(),OW),nI)) fun q_=>
     sumC q_ (fun y_50=>
      let Uv:=y_50.1
      some (.inr (.inl (Uv,())))) (fun z_51=>
      let i_53:=z_51.1.2
      let AR:=z_51.2
      some (.inl (((),(IntKind.wrap .i64 (i_53+1))),AR)))
  else none
 else
  some (.inr (.inr ((),nI)))
def Wh.ad2:((Bool)×(Unit))⊕((Unit)×((je.D))):=.inl default
def Wh.G_ (xs:(je.D)):Option ((Bool)×(Unit)):=
 let g9:je.D:=xs
 let v_1:Int:=(↑(List.length g9.1):Int)
 b8 (zog g8 (g9.2.1,0,7)) fun e_=>
 let n_:=bif v_1 != 8 then true else !e_.1
 bif kL [!!v_1 != 8 || qu (g8 (g9.2.1,0,7))] then
  bif n_ then
   some (false,())
  else
   iL Iv ad2 ((((),0),g9)) fun q_=>
    sumC q_ (fun y_57=>
     let Qh:=y_57.1
     some (Qh,())) (fun z_58=>
     let Ba:=z_58.2
     iL Iw ad6 (((0,()),Ba)) fun q_=>
      sumC q_ (fun Bw=>
       let v_76:=Bw.1
       some (v_76,())) (fun _=>
       some (true,())))
 else none
abbrev Wh.afv:Type:=((Unit)×(Int)×(Unit)×(Int))×((an.D)×(gv.D))
abbrev Wh.ams:Type:=((((Unit)×(Bool))×((an.D)))⊕((Unit)×((an.D))))
def Wh.Ki (x:afv):Option (afv⊕ams):=
 let K3:=x.1.2.1
 let aar:=x.1.2.2.2
 let S9:=x.2.1
 let F_:=x.2.2
 let Bq:Int:=(↑(List.length F_.2.1):Int)
 bif decide (K3<Bq) then
  let AN:an.D:=List.getD F_.2.1 (Int.toNat K3) (0,[],0,[],())
  bif kL [decide (0≤K3),decide (K3<Bq)] then
   bif(AN.2.2.1==aar) then
    bif kL [decide (0≤K3),decide (K3<Bq)] then
     some (.inr (.inl (((),true),AN)))
    else none
   else
    some (.inl (((),(IntKind.wrap .i64 (K3+1)),(),aar),S9,F_))
  else none
 else
  some (.inr (.inr ((),S9)))
def Wh.afw:(((Unit)×(Bool))×((an.D)))⊕((Unit)×((an.D))):=.inl default
def Wh.FH (xs:(gv.D)×(Int)):Option (((an.D)×(Bool))×(Unit)):=
 let cx:=xs.1
 let OK:=xs.2
 iL Ki afw ((((),0,(),OK),(0,[],0,[],()),cx)) fun q_=>
  sumC q_ (fun y_21=>
   let r_:=y_21.1.2
   let BJ:=y_21.2
   some ((BJ,r_),())) (fun _=>
   some (((0,[],0,[],()),false),()))
abbrev Wh.afp:Type:=((Int)×(Unit))×((b7.D))
abbrev Wh.amp:Type:=(((Bool)×(Unit))⊕((Unit)×(Unit)))
def Wh.IN (x:afp):Option (afp⊕amp):=
 let BI:=x.1.1
 let s9:=x.2
 let CJ:Int:=(↑(List.length (s9.2.2.2.2.2.2.1)):Int)
 bif decide (BI<CJ) then
  let w8:cp.D:=List.getD (s9.2.2.2.2.2.2.1) (Int.toNat BI) (0,0,0,0,0,0,())
  bif kL [decide (0≤BI),decide (BI<CJ)] then
   b8 (zog g8 (w8.1,0,3)) fun CV=>
   b8 (zog g8 (w8.2.1,1,99999)) fun DJ=>
   b8 (zog g8 (w8.2.2.1,1,s9.2.2.2.1.1)) fun IZ=>
   b8 (zog g8 (w8.2.2.2.1,0,9999)) fun Nn=>
   b8 (zog g8 (w8.2.2.2.2.1,0,3)) fun No=>
   b8 (zog g8 (w8.2.2.2.2.2.1,0,s9.2.1)) fun HA=>
   let v_48:=bif bif bif bif bif bif !CV.1 then true else bif decide (BI>0) then decide ((List.getD (s9.2.2.2.2.2.2.1) (Int.toNat (IntKind.wrap .i64 (BI-1))) (0,0,0,0,0,0,())).1≥w8.1) else false then true else !DJ.1 then true else !IZ.1 then true else !Nn.1 then true else !No.1 then true else !HA.1
   bif kL [(!!bif bif bif bif bif !CV.1 then true else bif decide (BI>0) then decide ((List.getD (s9.2.2.2.2.2.2.1) (Int.toNat (IntKind.wrap .i64 (BI-1))) (0,0,0,0,0,0,())).1≥w8.1) else false then true else !DJ.1 then true else !IZ.1 then true else !Nn.1 then true else !No.1) || qu (g8 (w8.2.2.2.2.2.1,0,s9.2.1)),(!!bif bif bif bif !CV.1 then true else bif decide (BI>0) then decide ((List.getD (s9.2.2.2.2.2.2.1) (Int.toNat (IntKind.wrap .i64 (BI-1))) (0,0,0,0,0,0,())).1≥w8.1) else false then true else !DJ.1 then true else !IZ.1 then true else !Nn.1) || qu (g8 (w8.2.2.2.2.1,0,3)),(!!bif bif bif !CV.1 then true else bif decide (BI>0) then decide ((List.getD (s9.2.2.2.2.2.2.1) (Int.toNat (IntKind.wrap .i64 (BI-1))) (0,0,0,0,0,0,())).1≥w8.1) else false then true else !DJ.1 then true else !IZ.1) || qu (g8 (w8.2.2.2.1,0,9999)),(!!bif bif !CV.1 then true else bif decide (BI>0) then decide ((List.getD (s9.2.2.2.2.2.2.1) (Int.toNat (IntKind.wrap .i64 (BI-1))) (0,0,0,0,0,0,())).1≥w8.1) else false then true else !DJ.1) || qu (g8 (w8.2.2.1,1,s9.2.2.2.1.1)),(!!bif !CV.1 then true else bif decide (BI>0) then decide ((List.getD (s9.2.2.2.2.2.2.1) (Int.toNat (IntKind.wrap .i64 (BI-1))) (0,0,0,0,0,0,())).1≥w8.1) else false) || qu (g8 (w8.2.1,1,99999)),!(decide (BI>0) && !!CV.1) || decide (0≤IntKind.wrap .i64 (BI-1)),!(decide (BI>0) && !!CV.1) || decide (IntKind.wrap .i64 (BI-1)<CJ),qu (g8 (w8.1,0,3))] then
    bif v_48 then
     some (.inr (.inl (false,())))
    else
     dj FH (s9.2.2.2.1,w8.2.2.1) fun HB=>
      b8 (zog BX w8.1) fun r_50=>
      let B5:=bif HB.1.2 then HB.1.1.1 != r_50.1 else false
      bif kL [!HB.1.2 || qu (BX w8.1)] then
       bif B5 then
        some (.inr (.inl (false,())))
       else
        some (.inl (((IntKind.wrap .i64 (BI+1)),()),s9))
      else none
   else none
  else none
 else
  some (.inr (.inr ((),())))
def Wh.afq:((Bool)×(Unit))⊕((Unit)×(Unit)):=.inl default
def Wh.q45 (xs:(b7.D)):Option ((Bool)×(Unit)):=
 let c9:b7.D:=xs
 iL IN afq (((0,()),c9)) fun q_=>
  sumC q_ (fun y_54=>
   let FV:=y_54.1
   some (FV,())) (fun _=>
   some (true,()))
def Wh.Bc (xs:(g7.D)):Option ((Int)×(Unit)):=
 let g9:g7.D:=xs
 bif kL [g9.2.1 != 0] then
  some ((IntKind.wrap .i64 (Int.tdiv (IntKind.wrap .i64 ((IntKind.wrap .i64 (g9.1+g9.2.1))-1)) g9.2.1)),())
 else none
abbrev Wh.ae0:Type:=((Unit)×(Unit))×(((Int)×((Int)×((Unit)×((Unit)×(Unit)))))×((Int)×((Int)×((Unit)×((Unit)×(Unit)))))×(List (Int))×(List (Int))×(List (Int))×(List (Int)))
abbrev Wh.amd:Type:=((((Unit)×(Unit))×(((Int)×((Int)×((Unit)×((Unit)×(Unit)))))×((Int)×((Int)×((Unit)×((Unit)×(Unit)))))×(List (Int))×(List (Int))×(List (Int))×(List (Int)))))
def Wh.E7 (x:ae0):Option (ae0⊕amd):=
 let F_:=x.2.1.1
 let Aw:=x.2.1.2.1
 let G3:=x.2.1.2.2.2.2
 let we:=x.2.2.1.1
 let AX:=x.2.2.1.2.1
 let Ca:=x.2.2.1.2.2.2.2
 let Eu:=x.2.2.2.1
 let DE:=x.2.2.2.2.1
 let AO:=x.2.2.2.2.2.1
 let CC:=x.2.2.2.2.2.2
 dj Bc (F_,Aw,Eu,DE,G3) fun LZ=>
  bif decide (LZ.1>24) then
   some (.inl (((),()),(F_,(IntKind.wrap .i64 (Aw+1)),(),(),G3),(we,AX,(),(),Ca),Eu,DE,AO,CC))
  else
   some (.inr (((),()),(we,AX,(),(),Ca),(F_,Aw,(),(),G3),AO,CC,Eu,DE))
def Wh.ae1:(((Unit)×(Unit))×(((Int)×((Int)×((Unit)×((Unit)×(Unit)))))×((Int)×((Int)×((Unit)×((Unit)×(Unit)))))×(List (Int))×(List (Int))×(List (Int))×(List (Int)))):=default
def Wh.BW (xs:(Int)):Option ((((Int)×((Int)×((List (Int))×((List (Int))×(Unit))))))×(Unit)):=
 let long_0:=xs
 iL E7 ae1 ((((),()),(long_0,8,(),(),()),(0,0,(),(),()),[],[],[],[])) fun Mf=>
  let AD:=Mf.2.2.1.1
  let Bz:=Mf.2.2.1.2.1
  let Az:=Mf.2.2.1.2.2.2.2
  let Bj:=Mf.2.2.2.2.2.1
  let nE:=Mf.2.2.2.2.2.2
  dj Bc (AD,Bz,Bj,nE,Az) fun I1=>
   let OZ:=IntKind.wrap .i64 (Int.tdiv (IntKind.wrap .i64 (I1.1+3)) 4)
   bif decide (OZ<I1.1) then
    let pb_44:List Int:=[OZ,I1.1]
    some ((AD,Bz,pb_44,[(2:Int),3],Az),())
   else
    let pb_45:List Int:=[I1.1]
    some ((AD,Bz,pb_45,[(1:Int)],Az),())
def Wh.q58 (xs:(cw.D)):Option ((Bool)×(Unit)):=
 let BF:cw.D:=xs
 b8 (zog g8 (BF.2.1,0,99999)) fun r_1=>
 b8 (zog g8 (BF.1,0,BF.2.1)) fun r_2=>
 b8 (zog g8 (BF.2.2.1,0,99999)) fun ic=>
 b8 (zog g8 (BF.2.2.2.1,0,99999)) fun Bd=>
 let Cw:=bif bif bif r_1.1 then r_2.1 else false then ic.1 else false then Bd.1 else false
 bif kL [(!bif bif r_1.1 then r_2.1 else false then ic.1 else false) || qu (g8 (BF.2.2.2.1,0,99999)),(!bif r_1.1 then r_2.1 else false) || qu (g8 (BF.2.2.1,0,99999)),!r_1.1 || qu (g8 (BF.1,0,BF.2.1)),qu (g8 (BF.2.1,0,99999))] then
  some (Cw,())
 else none
abbrev Wh.afD:Type:=((Int)×(Unit))×((b7.D))
abbrev Wh.amw:Type:=(((Bool)×(Unit))⊕((Unit)×(Unit)))
def Wh.Kj (x:afD):Option (afD⊕amw):=
 let h_80:=x.1.1
 let G4:=x.2
 let NJ:Int:=(↑(List.length (G4.2.2.2.2.2.1)):Int)
 bif decide (h_80<NJ) then
  let PA:cw.D:=List.getD (G4.2.2.2.2.2.1) (Int.toNat h_80) (0,0,0,0,())
  bif kL [decide (0≤h_80),decide (h_80<NJ)] then
   b8 (zog q58 PA) fun r_85=>
   let v_90:=bif bif bif !r_85.1 then true else PA.2.1 != 40 then true else PA.2.2.1 != 8 then true else decide (PA.2.2.2.1>G4.2.1)
   bif kL [qu (q58 PA)] then
    bif v_90 then
     some (.inr (.inl (false,())))
    else
     some (.inl (((IntKind.wrap .i64 (h_80+1)),()),G4))
   else none
  else none
 else
  some (.inr (.inr ((),())))
def Wh.afE:((Bool)×(Unit))⊕((Unit)×(Unit)):=.inl default
abbrev Wh.afB:Type:=((Int)×(Unit))×((b7.D))
abbrev Wh.amv:Type:=(((Bool)×(Unit))⊕((Unit)×((b7.D))))
def Wh.FL (x:afB):Option (afB⊕amv):=
 let En:=x.1.1
 let nG:=x.2
 let B5:Int:=(↑(List.length (nG.2.2.2.2.1.1)):Int)
 bif decide (En<B5) then
  b8 (zog FH (nG.2.2.2.1,((List.getD (nG.2.2.2.2.1.1) (Int.toNat En) (0,0,0,0,false,())).2).1)) fun BZ=>
  let At:cg.D:=List.getD (nG.2.2.2.2.1.1) (Int.toNat En) (0,0,0,0,false,())
  bif kL [qu (FH (nG.2.2.2.1,At.2.1)),decide (0≤En),decide (En<B5)] then
   b8 (zog BW (↑(List.length (BZ.1.1.2.2.2.1)):Int)) fun FP=>
   b8 (zog Bc (FP.1.1,FP.1.2.1,bif(!bif !BZ.1.2 then true else BZ.1.1.1 != At.1)&&(decide (At.2.1>0) && !decide (At.2.2.2.1>0)) then FP.1.2.2.1 else [],bif(!bif !BZ.1.2 then true else BZ.1.1.1 != At.1)&&(decide (At.2.1>0) && !decide (At.2.2.2.1>0)) then FP.1.2.2.2.1 else [],FP.1.2.2.2.2)) fun r_60=>
   let v_61:=bif decide (At.2.2.2.1>0) then true else bif decide (At.2.1>0) then bif bif !BZ.1.2 then true else BZ.1.1.1 != At.1 then true else decide (At.2.2.1≥r_60.1) else false
   bif kL [!((!bif !BZ.1.2 then true else BZ.1.1.1 != At.1)&&(decide (At.2.1>0) && !decide (At.2.2.2.1>0))) || qu (Bc (FP.1.1,FP.1.2.1,bif(!bif !BZ.1.2 then true else BZ.1.1.1 != At.1)&&(decide (At.2.1>0) && !decide (At.2.2.2.1>0)) then FP.1.2.2.1 else [],bif(!bif !BZ.1.2 then true else BZ.1.1.1 != At.1)&&(decide (At.2.1>0) && !decide (At.2.2.2.1>0)) then FP.1.2.2.2.1 else [],FP.1.2.2.2.2)),!((!bif !BZ.1.2 then true else BZ.1.1.1 != At.1)&&(decide (At.2.1>0) && !decide (At.2.2.2.1>0))) || qu (BW (↑(List.length (BZ.1.1.2.2.2.1)):Int)),!((!bif !BZ.1.2 then true else BZ.1.1.1 != At.1)&&(decide (At.2.1>0) && !decide (At.2.2.2.1>0))) || decide (0≤En),!((!bif !BZ.1.2 then true else BZ.1.1.1 != At.1)&&(decide (At.2.1>0) && !decide (At.2.2.2.1>0))) || decide (En<B5),!(!!BZ.1.2&&(decide (At.2.1>0) && !decide (At.2.2.2.1>0))) || decide (0≤En),!(!!BZ.1.2&&(decide (At.2.1>0) && !decide (At.2.2.2.1>0))) || decide (En<B5),!!decide (At.2.2.2.1>0) || decide (0≤En),!!decide (At.2.2.2.1>0) || decide (En<B5),decide (0≤En),decide (En<B5)] then
    bif v_61 then
     some (.inr (.inl (false,())))
    else
     some (.inl (((IntKind.wrap .i64 (En+1)),()),nG))
   else none
  else none
 else
  some (.inr (.inr ((),nG)))
def Wh.afC:((Bool)×(Unit))⊕((Unit)×((b7.D))):=.inl default
def Wh.FJ (xs:(b7.D)):Option ((Bool)×(Unit)):=
 let c9:b7.D:=xs
 b8 (zog g8 (c9.2.1,0,99999)) fun r_1=>
 let v_2:=bif !r_1.1 then true else decide ((↑(List.length (c9.2.2.1)):Int)>9000)
 bif kL [qu (g8 (c9.2.1,0,99999))] then
  bif v_2 then
   some (false,())
  else
   bif(!c9.1) then
    let AI:Int:=(↑(List.length (c9.2.2.2.1.2.1)):Int)
    b8 (zog q98 c9) fun C_=>
    let xb:=bif bif bif bif bif bif AI==0 then c9.2.2.2.1.1==0 else false then(↑(List.length (c9.2.2.2.2.1.1)):Int)==0 else false then c9.2.2.2.2.1.2.1==0 else false then(↑(List.length (c9.2.2.2.2.2.1)):Int)==0 else false then(↑(List.length (c9.2.2.2.2.2.2.1)):Int)==0 else false then C_.1 else false
    bif kL [(!bif bif bif bif bif AI==0 then c9.2.2.2.1.1==0 else false then(↑(List.length (c9.2.2.2.2.1.1)):Int)==0 else false then c9.2.2.2.2.1.2.1==0 else false then(↑(List.length (c9.2.2.2.2.2.1)):Int)==0 else false then(↑(List.length (c9.2.2.2.2.2.2.1)):Int)==0 else false) || qu (q98 c9)] then
     some (xb,())
    else none
   else
    dj E5 (c9.2.2.1) fun CE=>
     dj IF CE.1.1 fun DX=>
      let nT:= !DX.1.2
      b8 (zog Hy (DX.1.1,c9.2.2.2.1)) fun DI=>
      b8 (zog G_ (c9.2.2.2.2.1)) fun Nm=>
      b8 (zog q45 c9) fun L0=>
      let FR:=bif bif bif bif bif nT then true else CE.1.2 != (↑(List.length (c9.2.2.1)):Int) then true else !DI.1 then true else !Nm.1 then true else(↑(List.length (c9.2.2.2.2.2.1)):Int) != 2 then true else !L0.1
      bif kL [(!!bif bif bif bif nT then true else CE.1.2 != (↑(List.length (c9.2.2.1)):Int) then true else !DI.1 then true else !Nm.1 then true else(↑(List.length (c9.2.2.2.2.2.1)):Int) != 2) || qu (q45 c9),(!!bif bif nT then true else CE.1.2 != (↑(List.length (c9.2.2.1)):Int) then true else !DI.1) || qu (G_ (c9.2.2.2.2.1)),(!!bif nT then true else CE.1.2 != (↑(List.length (c9.2.2.1)):Int)) || qu (Hy (DX.1.1,c9.2.2.2.1))] then
       bif FR then
        some (false,())
       else
        iL FL afC (((0,()),c9)) fun q_=>
         sumC q_ (fun FY=>
          let Uw:=FY.1
          some (Uw,())) (fun z_65=>
          let BA:=z_65.2
          iL Kj afE (((0,()),BA)) fun q_=>
           sumC q_ (fun y_93=>
            let v_95:=y_93.1
            some (v_95,())) (fun _=>
            some (true,())))
      else none
 else none
abbrev Wh.aeC:Type:=((Int)×(Int)×(Unit))×((b7.D))
abbrev Wh.al2:Type:=(((Int)×(Unit))⊕((Unit)×(Unit)))
def Wh.E6 (x:aeC):Option (aeC⊕al2):=
 let Fq:=x.1.1
 let Z9:=x.1.2.1
 let K8:=x.2
 let BO:Int:=(↑(List.length (K8.2.2.2.2.2.2.1)):Int)
 bif decide (Fq<BO) then
  let Bq:cp.D:=List.getD (K8.2.2.2.2.2.2.1) (Int.toNat Fq) (0,0,0,0,0,0,())
  bif kL [decide (0≤Fq),decide (Fq<BO)] then
   bif(Bq.1==Z9) then
    some (.inr (.inl (Fq,())))
   else
    some (.inl (((IntKind.wrap .i64 (Fq+1)),Z9,()),K8))
  else none
 else
  some (.inr (.inr ((),())))
def Wh.aeD:((Int)×(Unit))⊕((Unit)×(Unit)):=.inl default
def Wh.FC (xs:(b7.D)×(Int)):Option ((Int)×(Unit)):=
 let c9:=xs.1
 let Oy:=xs.2
 iL E6 aeD (((0,Oy,()),c9)) fun q_=>
  sumC q_ (fun y_19=>
   let xd:=y_19.1
   some (xd,())) (fun _=>
   some (-1,()))
def Wh.DU (xs:(gv.D)×(Int)×(List UInt8)):Option (((an.D)×(Bool))×(Unit)):=
 let cx:=xs.1
 let AW:=xs.2.1
 let C9:=xs.2.2
 dj FF (cx,AW,C9) fun r_3=>
  b8 (zog Hl cx) fun e_=>
  let n_:=bif !e_.1 then true else decide (r_3.1<0)
  bif kL [qu (Hl cx)] then
   bif n_ then
    some (((0,[],0,[],()),false),())
   else
    let Py:an.D:=List.getD cx.2.1 (Int.toNat r_3.1) (0,[],0,[],())
    bif kL [decide (0≤r_3.1),decide (r_3.1<(↑(List.length cx.2.1):Int))] then
     some ((Py,true),())
    else none
  else none
abbrev Wh.afl:Type:=((Int)×(Unit)×(Unit)×(Int)×(Unit))×((b7.D)×(List (cp.D))×((Bool)×((Int)×((List UInt8)×(((Int)×((Unit)×(Unit)))×(((Unit)×((Int)×(Unit)))×((Unit)×((Unit)×(Unit))))))))×(List (an.D))×(List (cg.D))×(List (cw.D))×(List (cp.D)))
abbrev Wh.amn:Type:=((((Unit)×(Unit)×(Unit))×(((Bool)×((Int)×((List UInt8)×(((Int)×((Unit)×(Unit)))×(((Unit)×((Int)×(Unit)))×((Unit)×((Unit)×(Unit))))))))×(b7.D)×(List (cp.D))×(List (an.D))×(List (cg.D))×(List (cw.D))×(List (cp.D)))))
def Wh.Kg (x:afl):Option (afl⊕amn):=
 let A9:=x.1.1
 let Wv:=x.1.2.2.2.1
 let By:=x.2.1
 let s9:=x.2.2.1
 let CQ:=x.2.2.2.1.1
 let Bh:=x.2.2.2.1.2.1
 let Bi:=x.2.2.2.1.2.2.1
 let AD:=x.2.2.2.1.2.2.2.1.1
 let Bz:=x.2.2.2.1.2.2.2.1.2.2
 let Az:=x.2.2.2.1.2.2.2.2.1.2
 let nC:=x.2.2.2.1.2.2.2.2.2.2.2
 let AK:=x.2.2.2.2.1
 let Bj:=x.2.2.2.2.2.1
 let nE:=x.2.2.2.2.2.2.1
 let A6:=x.2.2.2.2.2.2.2
 let FU:Int:=(↑(List.length (By.2.2.2.2.2.2.1)):Int)
 bif decide (A9<FU) then
  let L_:cp.D:=List.getD (By.2.2.2.2.2.2.1) (Int.toNat A9) (0,0,0,0,0,0,())
  bif kL [decide (0≤A9),decide (A9<FU)] then
   bif(L_.1 != Wv) then
    let vN:List (cp.D):=s9 ++ [L_]
    bif kL [decide (List.length s9+(1:Nat)≤eV),decide (0≤A9),decide (A9<FU)] then
     some (.inl (((IntKind.wrap .i64 (A9+1)),(),(),Wv,()),By,vN,(CQ,Bh,Bi,(AD,(),Bz),((),Az),(),(),nC),AK,Bj,nE,A6))
    else none
   else
    some (.inl (((IntKind.wrap .i64 (A9+1)),(),(),Wv,()),By,s9,(CQ,Bh,Bi,(AD,(),Bz),((),Az),(),(),nC),AK,Bj,nE,A6))
  else none
 else
  some (.inr (((),(),()),(CQ,Bh,Bi,(AD,(),Bz),((),Az),(),(),nC),By,s9,AK,Bj,nE,A6))
def Wh.afm:(((Unit)×(Unit)×(Unit))×(((Bool)×((Int)×((List UInt8)×(((Int)×((Unit)×(Unit)))×(((Unit)×((Int)×(Unit)))×((Unit)×((Unit)×(Unit))))))))×(b7.D)×(List (cp.D))×(List (an.D))×(List (cg.D))×(List (cw.D))×(List (cp.D)))):=default
def Wh.Gv (xs:(b7.D)×(Int)):Option ((((Bool)×((Int)×((List UInt8)×((gv.D)×((je.D)×((List (cw.D))×((List (cp.D))×(Unit)))))))))×(Unit)):=
 let c9:=xs.1
 let Oy:=xs.2
 iL Kg afm (((0,(),(),Oy,()),c9,[],(false,0,[],(0,(),()),((),0,()),(),(),()),[],[],[],[])) fun NQ=>
  let AA:=NQ.2.2.1
  let Cl:=NQ.2.2.2.1
  some ((AA.1,AA.2.1,AA.2.2.1,AA.2.2.2.1,AA.2.2.2.2.1,AA.2.2.2.2.2.1,Cl,AA.2.2.2.2.2.2.2),())
def Wh.IV (xs:(Int)×(Int)×(Int)):Option (((List (eL.D)))×(Unit)):=
 let Wu:=xs.1
 let try_1:=xs.2.1
 let Sz:=xs.2.2
 let Dm:List (eL.D):=[(6,Wu,try_1,Sz,0,[],[],())]
 some (Dm,())
abbrev Wh.adw:Type:=((Int)×(Unit)×(Unit)×(Unit))×(((Bool)×((Int)×((List UInt8)×(((Int)×((Unit)×(Unit)))×(((Unit)×((Int)×(Unit)))×((Unit)×((Unit)×(Unit))))))))×((Bool)×((Int)×((List UInt8)×((gv.D)×((je.D)×((List (cw.D))×((Unit)×(Unit))))))))×(cp.D)×(List (an.D))×(List (cg.D))×(List (cw.D))×(List (cp.D))×(List (cp.D)))
abbrev Wh.als:Type:=((((Unit)×(Unit)×(Int)×(Unit))×(((Bool)×((Int)×((List UInt8)×(((Int)×((Unit)×(Unit)))×(((Unit)×((Int)×(Unit)))×((Unit)×((Unit)×(Unit))))))))×((Bool)×((Int)×((List UInt8)×((gv.D)×((je.D)×((List (cw.D))×((Unit)×(Unit))))))))×(cp.D)×(List (an.D))×(List (cg.D))×(List (cw.D))×(List (cp.D))×(List (cp.D)))))
def Wh.JM (x:adw):Option (adw⊕als):=
 let Jw:=x.1.1
 let Bh:=x.2.1.1
 let Bi:=x.2.1.2.1
 let AD:=x.2.1.2.2.1
 let Bz:=x.2.1.2.2.2.1.1
 let Az:=x.2.1.2.2.2.1.2.2
 let nC:=x.2.1.2.2.2.2.1.2
 let AK:=x.2.1.2.2.2.2.2.2.2
 let Bj:=x.2.2.1.1
 let nE:=x.2.2.1.2.1
 let A6:=x.2.2.1.2.2.1
 let AP:=x.2.2.1.2.2.2.1
 let AE:=x.2.2.1.2.2.2.2.1
 let AF:=x.2.2.1.2.2.2.2.2.1
 let nI:=x.2.2.1.2.2.2.2.2.2.2
 let x3:=x.2.2.2.1
 let vN:=x.2.2.2.2.1
 let wX:=x.2.2.2.2.2.1
 let AQ:=x.2.2.2.2.2.2.1
 let qe:=x.2.2.2.2.2.2.2.1
 let z4:=x.2.2.2.2.2.2.2.2
 let I_:Int:=(↑(List.length z4):Int)
 let Ja:=bif decide (Jw<I_) then decide ((List.getD z4 (Int.toNat Jw) (0,0,0,0,0,0,())).1<x3.1) else false
 bif kL [!decide (Jw<I_) || decide (0≤Jw),!decide (Jw<I_) || decide (Jw<I_)] then
  bif Ja then
   some (.inl (((IntKind.wrap .i64 (Jw+1)),(),(),()),(Bh,Bi,AD,(Bz,(),Az),((),nC),(),(),AK),(Bj,nE,A6,AP,AE,AF,(),nI),x3,vN,wX,AQ,qe,z4))
  else
   some (.inr (((),(),Jw,()),(Bh,Bi,AD,(Bz,(),Az),((),nC),(),(),AK),(Bj,nE,A6,AP,AE,AF,(),nI),x3,vN,wX,AQ,qe,z4))
 else none
def Wh.adx:(((Unit)×(Unit)×(Int)×(Unit))×(((Bool)×((Int)×((List UInt8)×(((Int)×((Unit)×(Unit)))×(((Unit)×((Int)×(Unit)))×((Unit)×((Unit)×(Unit))))))))×((Bool)×((Int)×((List UInt8)×((gv.D)×((je.D)×((List (cw.D))×((Unit)×(Unit))))))))×(cp.D)×(List (an.D))×(List (cg.D))×(List (cw.D))×(List (cp.D))×(List (cp.D)))):=default
def Wh.Lr (xs:(b7.D)×(cp.D)):Option ((((Bool)×((Int)×((List UInt8)×((gv.D)×((je.D)×((List (cw.D))×((List (cp.D))×(Unit)))))))))×(Unit)):=
 let c9:=xs.1
 let v_1:=xs.2
 dj Gv (c9,v_1.1) fun r_2=>
  iL JM adx (((0,(),(),()),(false,0,[],(0,(),()),((),0,()),(),(),()),(r_2.1.1,r_2.1.2.1,r_2.1.2.2.1,r_2.1.2.2.2.1,r_2.1.2.2.2.2.1,r_2.1.2.2.2.2.2.1,(),r_2.1.2.2.2.2.2.2.2),v_1,[],[],[],[],r_2.1.2.2.2.2.2.2.1)) fun FX=>
   let GX:=FX.1.2.2.1
   let BL:=FX.2.2.1.1
   let CR:=FX.2.2.1.2.1
   let BA:=FX.2.2.1.2.2.1
   let Cr:=FX.2.2.1.2.2.2.1
   let EU:=FX.2.2.1.2.2.2.2.1
   let Dh:=FX.2.2.1.2.2.2.2.2.1
   let Bk:=FX.2.2.1.2.2.2.2.2.2.2
   let AY:=FX.2.2.2.1
   let Bl:=FX.2.2.2.2.2.2.2.2
   let Ya:List (cp.D):=[]++List.take (Int.toNat (GX-0)) (List.drop (Int.toNat 0) Bl)
   let Tz:List (cp.D):=[AY]
   let pb_81:List (cp.D):=Ya++Tz++List.take (Int.toNat ((↑(List.length Bl):Int)-GX)) (List.drop (Int.toNat GX) Bl)
   let NJ:Nat:=Int.toNat (GX-0)
   let Jd:Nat:=Int.toNat ((↑(List.length Bl):Int)-GX)
   bif kL [decide (List.length (Ya++Tz)+List.length (List.take Jd (List.drop (Int.toNat GX) Bl))≤eV),decide (0≤GX),decide (GX≤(↑(List.length Bl):Int)),decide ((↑(List.length Bl):Int)≤(↑(List.length Bl):Int)),decide (List.length Ya+(1:Nat)≤eV),decide ((0:Nat)+List.length (List.take NJ (List.drop (Int.toNat 0) Bl))≤eV),true,decide (0≤GX),decide (GX≤(↑(List.length Bl):Int))] then
    some ((BL,CR,BA,Cr,EU,Dh,pb_81,Bk),())
   else none
abbrev Wh.adZ:Type:=((Int)×(Unit))×((g7.D))
abbrev Wh.alI:Type:=(((Bool)×(Unit))⊕((Unit)×((g7.D))))
def Wh.Gq (x:adZ):Option (adZ⊕alI):=
 let BR:=x.1.1
 let nC:=x.2
 let C0:Int:=(↑(List.length (nC.2.2.1)):Int)
 bif decide (BR<C0) then
  let NG:=List.getD (nC.2.2.1) (Int.toNat BR) 0
  b8 (zog Bc nC) fun I1=>
  b8 (zog g8 (NG,1,I1.1)) fun HA=>
  b8 (zog g8 (List.getD (nC.2.2.2.1) (Int.toNat BR) 0,1,99)) fun r_48=>
  let KA:=bif bif !HA.1 then true else bif decide (BR>0) then decide (List.getD (nC.2.2.1) (Int.toNat (IntKind.wrap .i64 (BR-1))) 0≥NG) else false then true else !r_48.1
  bif kL [(!!bif !HA.1 then true else bif decide (BR>0) then decide (List.getD (nC.2.2.1) (Int.toNat (IntKind.wrap .i64 (BR-1))) 0≥NG) else false) || qu (g8 (List.getD (nC.2.2.2.1) (Int.toNat BR) 0,1,99)),(!!bif !HA.1 then true else bif decide (BR>0) then decide (List.getD (nC.2.2.1) (Int.toNat (IntKind.wrap .i64 (BR-1))) 0≥NG) else false) || decide (0≤BR),(!!bif !HA.1 then true else bif decide (BR>0) then decide (List.getD (nC.2.2.1) (Int.toNat (IntKind.wrap .i64 (BR-1))) 0≥NG) else false) || decide (BR<(↑(List.length (nC.2.2.2.1)):Int)),!(decide (BR>0) && !!HA.1) || decide (0≤BR),!(decide (BR>0) && !!HA.1) || decide (BR<C0),!(decide (BR>0) && !!HA.1) || decide (0≤IntKind.wrap .i64 (BR-1)),!(decide (BR>0) && !!HA.1) || decide (IntKind.wrap .i64 (BR-1)<C0),qu (g8 (NG,1,I1.1)),qu (Bc nC),decide (0≤BR),decide (BR<C0)] then
   bif KA then
    some (.inr (.inl (false,())))
   else
    some (.inl (((IntKind.wrap .i64 (BR+1)),()),nC))
  else none
 else
  some (.inr (.inr ((),nC)))
def Wh.ad0:((Bool)×(Unit))⊕((Unit)×((g7.D))):=.inl default
def Wh.DW (xs:(g7.D)):Option ((Bool)×(Unit)):=
 let g9:g7.D:=xs
 b8 (zog g8 (g9.1,1,300)) fun r_1=>
 b8 (zog g8 (g9.2.1,1,16)) fun r_2=>
 b8 (zog Bc g9) fun ic=>
 b8 (zog g8 ((↑(List.length (g9.2.2.1)):Int),1,3)) fun Ce=>
 b8 (zog g8 (ic.1,1,24)) fun E_=>
 let se:=bif bif bif bif !r_1.1 then true else !r_2.1 then true else !E_.1 then true else !Ce.1 then true else(↑(List.length (g9.2.2.2.1)):Int) != (↑(List.length (g9.2.2.1)):Int)
 bif kL [(!!bif bif !r_1.1 then true else !r_2.1 then true else !E_.1) || qu (g8 ((↑(List.length (g9.2.2.1)):Int),1,3)),(!!bif !r_1.1 then true else !r_2.1) || qu (g8 (ic.1,1,24)),(!!bif !r_1.1 then true else !r_2.1) || qu (Bc g9),!!!r_1.1 || qu (g8 (g9.2.1,1,16)),qu (g8 (g9.1,1,300))] then
  bif se then
   some (false,())
  else
   iL Gq ad0 (((0,()),g9)) fun q_=>
    sumC q_ (fun y_52=>
     let At:=y_52.1
     some (At,())) (fun z_53=>
     let AG:=z_53.2
     let FV:Int:=(↑(List.length (AG.2.2.1)):Int)
     b8 (zog Bc AG) fun r_60=>
     let v_62:=List.getD (AG.2.2.1) (Int.toNat (IntKind.wrap .i64 (FV-1))) 0==r_60.1
     bif kL [qu (Bc AG),decide (0≤IntKind.wrap .i64 (FV-1)),decide (IntKind.wrap .i64 (FV-1)<FV)] then
      some (v_62,())
     else none)
 else none
abbrev Wh.aeg:Type:=((Int)×(List (Int))×(List UInt8))×(Unit)
abbrev Wh.alR:Type:=((((List UInt8))×(Unit)))
def Wh.PF (x:aeg):Option (aeg⊕alR):=
 let C8:=x.1.1
 let O1:=x.1.2.1
 let Pu:=x.1.2.2
 let BP:=decide (C8<(↑(List.length O1):Int))
 bif BP then
  bif decide (C8>0) then
   let tn:List UInt8:=Pu ++ [(44:UInt8)]
   bif kL [decide (List.length Pu+(1:Nat)≤eV)] then
    let Du:=List.getD O1 (Int.toNat C8) 0
    b8 (zog z5 Du) fun Fa=>
    let out_32:List UInt8:=tn++Fa.1
    bif kL [decide (List.length tn+List.length (Fa.1)≤eV),qu (z5 Du),decide (0≤C8),BP] then
     some (.inl (((IntKind.wrap .i64 (C8+1)),O1,out_32),()))
    else none
   else none
  else
   let FR:=List.getD O1 (Int.toNat C8) 0
   b8 (zog z5 FR) fun IZ=>
   let out_39:List UInt8:=Pu++IZ.1
   bif kL [decide (List.length Pu+List.length (IZ.1)≤eV),qu (z5 FR),decide (0≤C8),BP] then
    some (.inl (((IntKind.wrap .i64 (C8+1)),O1,out_39),()))
   else none
 else
  some (.inr (Pu,()))
def Wh.aeh:(((List UInt8))×(Unit)):=default
def Wh.Hf (xs:(List (Int))):Option (((List UInt8))×(Unit)):=
 let K6:=xs
 iL PF aeh (((0,K6,[]),())) fun y_42=>
  let out_43:=y_42.1
  some (out_43,())
def Wh.EG (xs:(g7.D)):Option (((List UInt8))×(Unit)):=
 let g9:g7.D:=xs
 dj DW g9 fun r_1=>
  bif !r_1.1 then
   some ([],())
  else
   b8 (zog z5 g9.1) fun r_2=>
   b8 (zog z5 g9.2.1) fun e_=>
   b8 (zog Hf (g9.2.2.1)) fun AL=>
   b8 (zog Hf (g9.2.2.2.1)) fun A1=>
   let AV:=r_2.1 ++ [(47:UInt8)]++e_.1 ++ [(58:UInt8)]++AL.1 ++ [(58:UInt8)]++A1.1
   bif kL [decide (List.length (r_2.1 ++ [(47:UInt8)]++e_.1 ++ [(58:UInt8)]++AL.1 ++ [(58:UInt8)])+List.length A1.1≤eV),qu (Hf (g9.2.2.2.1)),decide (List.length (r_2.1 ++ [(47:UInt8)]++e_.1 ++ [(58:UInt8)]++AL.1)+(1:Nat)≤eV),decide (List.length (r_2.1 ++ [(47:UInt8)]++e_.1 ++ [(58:UInt8)])+List.length AL.1≤eV),qu (Hf (g9.2.2.1)),decide (List.length (r_2.1 ++ [(47:UInt8)]++e_.1)+(1:Nat)≤eV),decide (List.length (r_2.1 ++ [(47:UInt8)])+List.length e_.1≤eV),qu (z5 g9.2.1),decide (List.length r_2.1+(1:Nat)≤eV),qu (z5 g9.1)] then
    some (AV,())
   else none
def Wh.q96 (xs:((Bool)×((Int)×((List UInt8)×(((Int)×((List (an.D))×(Unit)))×(((List (cg.D))×((Int)×(Unit)))×((List (cw.D))×((List (cp.D))×(Unit))))))))×(eL.D)):Option ((((Bool)×((Int)×((List UInt8)×((gv.D)×((je.D)×((List (cw.D))×((List (cp.D))×(Unit))))))))×(List (eL.D)))×(Unit)):=
 let c9:=xs.1
 let w_1:=xs.2
 dj FC (c9,w_1.2.1) fun r_2=>
  let A2:=decide (r_2.1≥0)
  let AI:=bif A2 then decide (((List.getD (c9.2.2.2.2.2.2.1) (Int.toNat r_2.1) (0,0,0,0,0,0,())).2).1>w_1.2.2.1) else false
  bif kL [!A2 || decide (0≤r_2.1),!A2 || decide (r_2.1<(↑(List.length (c9.2.2.2.2.2.2.1)):Int))] then
   bif AI then
    some ((c9,[]),())
   else
    b8 (zog BX w_1.2.1) fun ic=>
    b8 (zog DU (c9.2.2.2.1,ic.1,w_1.2.2.2.2.2.1)) fun n5=>
    bif kL [qu (DU (c9.2.2.2.1,ic.1,w_1.2.2.2.2.2.1)),qu (BX w_1.2.1)] then
     let Bq:=bif(!n5.1.2) then true else bif decide (w_1.2.2.2.1>0) then n5.1.1.2.2.1 != w_1.2.2.2.1 else false
     bif Bq then
      let se:=bif A2 then decide (((List.getD (c9.2.2.2.2.2.2.1) (Int.toNat r_2.1) (0,0,0,0,0,0,())).2).1<w_1.2.2.1) else false
      bif kL [!A2 || decide (0≤r_2.1),!A2 || decide (r_2.1<(↑(List.length (c9.2.2.2.2.2.2.1)):Int))] then
       bif se then
        dj Gv (c9,w_1.2.1) fun C_=>
         dj IV (w_1.2.1,w_1.2.2.1,w_1.2.2.2.1) fun Kq=>
          some ((C_.1,Kq.1),())
       else
        dj IV (w_1.2.1,w_1.2.2.1,w_1.2.2.2.1) fun Hz=>
         some ((c9,Hz.1),())
      else none
     else
      let mb:=decide (r_2.1<0)
      let r_:=bif bif mb then true else decide (((List.getD (c9.2.2.2.2.2.2.1) (Int.toNat r_2.1) (0,0,0,0,0,0,())).2).1<w_1.2.2.1) then true else(((List.getD (c9.2.2.2.2.2.2.1) (Int.toNat r_2.1) (0,0,0,0,0,0,())).2).2).1 != n5.1.1.2.2.1
      bif kL [(!!bif mb then true else decide (((List.getD (c9.2.2.2.2.2.2.1) (Int.toNat r_2.1) (0,0,0,0,0,0,())).2).1<w_1.2.2.1)) || decide (0≤r_2.1),(!!bif mb then true else decide (((List.getD (c9.2.2.2.2.2.2.1) (Int.toNat r_2.1) (0,0,0,0,0,0,())).2).1<w_1.2.2.1)) || decide (r_2.1<(↑(List.length (c9.2.2.2.2.2.2.1)):Int)),!!mb || decide (0≤r_2.1),!!mb || decide (r_2.1<(↑(List.length (c9.2.2.2.2.2.2.1)):Int))] then
       bif r_ then
        dj Lr (c9,w_1.2.1,w_1.2.2.1,n5.1.1.2.2.1,0,0,c9.2.1,()) fun LZ=>
         b8 (zog BW (↑(List.length (n5.1.1.2.2.2.1)):Int)) fun DI=>
         b8 (zog EG DI.1) fun IY=>
         let X6:List (eL.D):=[(2,w_1.2.1,w_1.2.2.1,n5.1.1.2.2.1,0,[],IY.1,())]
         let v5:Int:=(↑(List.length (n5.1.1.2.2.2.1)):Int)
         bif kL [qu (EG DI.1),qu (BW v5)] then
          some ((LZ.1,X6),())
         else none
       else
        b8 (zog BW (↑(List.length (n5.1.1.2.2.2.1)):Int)) fun Fa=>
        b8 (zog EG Fa.1) fun CV=>
        let X8:List (eL.D):=[(2,w_1.2.1,w_1.2.2.1,n5.1.1.2.2.1,0,[],CV.1,())]
        let FR:Int:=(↑(List.length (n5.1.1.2.2.2.1)):Int)
        bif kL [qu (EG Fa.1),qu (BW FR)] then
         some ((c9,X8),())
        else none
      else none
    else none
  else none
def Wh.q33 (x:((Unit)×(Unit)×(Unit)×(Int))×(((Bool)×((Int)×((List UInt8)×(((Int)×((Unit)×(Unit)))×(((Unit)×((Int)×(Unit)))×((Unit)×((Unit)×(Unit))))))))×((Bool)×((Int)×((List UInt8)×(((Int)×((Unit)×(Unit)))×(((Unit)×((Int)×(Unit)))×((Unit)×((Unit)×(Unit))))))))×(eL.D)×(List (an.D))×(List (cg.D))×(List (cw.D))×(List (cp.D))×(List (an.D))×(List (cg.D))×(List (cw.D))×(List (cp.D)))):Option ((((Unit)×(Unit))×(((Bool)×((Int)×((List UInt8)×(((Int)×((Unit)×(Unit)))×(((Unit)×((Int)×(Unit)))×((Unit)×((Unit)×(Unit))))))))×((Bool)×((Int)×((List UInt8)×((gv.D)×((je.D)×((List (cw.D))×((Unit)×(Unit))))))))×(List (an.D))×(List (cg.D))×(List (cw.D))×(List (cp.D))×(List (cp.D))))⊕(((Unit)×(Unit))×(((Bool)×((Int)×((List UInt8)×(((Int)×((Unit)×(Unit)))×(((Unit)×((Int)×(Unit)))×((Unit)×((Unit)×(Unit))))))))×((Bool)×((Int)×((List UInt8)×(((Int)×((Unit)×(Unit)))×(((Unit)×((Int)×(Unit)))×((Unit)×((Unit)×(Unit))))))))×(List (an.D))×(List (cg.D))×(List (cw.D))×(List (cp.D))×(List (an.D))×(List (cg.D))×(List (cw.D))×(List (cp.D))))):=
 let F6:=x.1.2.2.2
 let AF:=x.2.1.1
 let nI:=x.2.1.2.1
 let x3:=x.2.1.2.2.1
 let vN:=x.2.1.2.2.2.1.1
 let wX:=x.2.1.2.2.2.1.2.2
 let AQ:=x.2.1.2.2.2.2.1.2
 let qe:=x.2.1.2.2.2.2.2.2.2
 let z4:=x.2.2.1.1
 let nG:=x.2.2.1.2.1
 let wh:=x.2.2.1.2.2.1
 let s_:=x.2.2.1.2.2.2.1.1
 let Ax:=x.2.2.1.2.2.2.1.2.2
 let AR:=x.2.2.1.2.2.2.2.1.2
 let AG:=x.2.2.1.2.2.2.2.2.2.2
 let nS:=x.2.2.2.1
 let AA:=x.2.2.2.2.1
 let Cl:=x.2.2.2.2.2.1
 let Cb:=x.2.2.2.2.2.2.1
 let Ba:=x.2.2.2.2.2.2.2.1
 let BK:=x.2.2.2.2.2.2.2.2.1
 let Cc:=x.2.2.2.2.2.2.2.2.2.1
 let Bb:=x.2.2.2.2.2.2.2.2.2.2.1
 let AU:=x.2.2.2.2.2.2.2.2.2.2.2
 bif(nS.1==5) then
  dj Gv ((z4,nG,wh,(s_,BK,Ax),(Cc,AR),Bb,AU,AG),nS.2.1) fun Kr=>
   some (.inl ((((),()),(AF,nI,x3,(vN,(),wX),((),AQ),(),(),qe),(Kr.1.1,Kr.1.2.1,Kr.1.2.2.1,Kr.1.2.2.2.1,Kr.1.2.2.2.2.1,Kr.1.2.2.2.2.2.1,(),Kr.1.2.2.2.2.2.2.2),AA,Cl,Cb,Ba,Kr.1.2.2.2.2.2.2.1)))
 else
  let Jc:=nS.1==4
  let v_71:=bif bif Jc then decide (nS.2.2.2.2.1≤3) else false then decide (nS.2.2.2.2.1>(((((List.getD AU (Int.toNat F6) (0,0,0,0,0,0,())).2).2).2).2).1) else false
  bif kL [(!bif Jc then decide (nS.2.2.2.2.1≤3) else false) || decide (0≤F6),(!bif Jc then decide (nS.2.2.2.2.1≤3) else false) || decide (F6<(↑(List.length AU):Int))] then
   bif v_71 then
    let AY:List (cp.D):=List.set AU (Int.toNat F6) ((List.getD AU (Int.toNat F6) (0,0,0,0,0,0,())).1,((List.getD AU (Int.toNat F6) (0,0,0,0,0,0,())).2).1,(((List.getD AU (Int.toNat F6) (0,0,0,0,0,0,())).2).2).1,((((List.getD AU (Int.toNat F6) (0,0,0,0,0,0,())).2).2).2).1,nS.2.2.2.2.1,(((((List.getD AU (Int.toNat F6) (0,0,0,0,0,0,())).2).2).2).2).2)
    bif kL [decide (0≤F6),decide (F6<(↑(List.length AU):Int))] then
     some (.inr ((((),()),(AF,nI,x3,(vN,(),wX),((),AQ),(),(),qe),(z4,nG,wh,(s_,(),Ax),((),AR),(),(),AG),AA,Cl,Cb,Ba,BK,Cc,Bb,AY)))
    else none
   else
    some (.inr ((((),()),(AF,nI,x3,(vN,(),wX),((),AQ),(),(),qe),(z4,nG,wh,(s_,(),Ax),((),AR),(),(),AG),AA,Cl,Cb,Ba,BK,Cc,Bb,AU)))
  else none
def Wh.TR (x:((Unit)×(Unit)×(Unit)×(Int))×(((Bool)×((Int)×((List UInt8)×(((Int)×((Unit)×(Unit)))×(((Unit)×((Int)×(Unit)))×((Unit)×((Unit)×(Unit))))))))×((Bool)×((Int)×((List UInt8)×(((Int)×((Unit)×(Unit)))×(((Unit)×((Int)×(Unit)))×((Unit)×((Unit)×(Unit))))))))×(eL.D)×(List (an.D))×(List (cg.D))×(List (cw.D))×(List (cp.D))×(List (an.D))×(List (cg.D))×(List (cw.D))×(List (cp.D)))):(((Unit)×(Unit))×(((Bool)×((Int)×((List UInt8)×(((Int)×((Unit)×(Unit)))×(((Unit)×((Int)×(Unit)))×((Unit)×((Unit)×(Unit))))))))×((Bool)×((Int)×((List UInt8)×((gv.D)×((je.D)×((List (cw.D))×((Unit)×(Unit))))))))×(List (an.D))×(List (cg.D))×(List (cw.D))×(List (cp.D))×(List (cp.D))))⊕(((Unit)×(Unit))×(((Bool)×((Int)×((List UInt8)×(((Int)×((Unit)×(Unit)))×(((Unit)×((Int)×(Unit)))×((Unit)×((Unit)×(Unit))))))))×((Bool)×((Int)×((List UInt8)×(((Int)×((Unit)×(Unit)))×(((Unit)×((Int)×(Unit)))×((Unit)×((Unit)×(Unit))))))))×(List (an.D))×(List (cg.D))×(List (cw.D))×(List (cp.D))×(List (an.D))×(List (cg.D))×(List (cw.D))×(List (cp.D)))):=match q33 x with | some y=>y|none=>.inl (default,(default,default,default,default,default,default,default))
def Wh.q33_v (x:((Unit)×(Unit)×(Unit)×(Int))×(((Bool)×((Int)×((List UInt8)×(((Int)×((Unit)×(Unit)))×(((Unit)×((Int)×(Unit)))×((Unit)×((Unit)×(Unit))))))))×((Bool)×((Int)×((List UInt8)×(((Int)×((Unit)×(Unit)))×(((Unit)×((Int)×(Unit)))×((Unit)×((Unit)×(Unit))))))))×(eL.D)×(List (an.D))×(List (cg.D))×(List (cw.D))×(List (cp.D))×(List (an.D))×(List (cg.D))×(List (cw.D))×(List (cp.D))))(y:(((Unit)×(Unit))×(((Bool)×((Int)×((List UInt8)×(((Int)×((Unit)×(Unit)))×(((Unit)×((Int)×(Unit)))×((Unit)×((Unit)×(Unit))))))))×((Bool)×((Int)×((List UInt8)×((gv.D)×((je.D)×((List (cw.D))×((Unit)×(Unit))))))))×(List (an.D))×(List (cg.D))×(List (cw.D))×(List (cp.D))×(List (cp.D))))⊕(((Unit)×(Unit))×(((Bool)×((Int)×((List UInt8)×(((Int)×((Unit)×(Unit)))×(((Unit)×((Int)×(Unit)))×((Unit)×((Unit)×(Unit))))))))×((Bool)×((Int)×((List UInt8)×(((Int)×((Unit)×(Unit)))×(((Unit)×((Int)×(Unit)))×((Unit)×((Unit)×(Unit))))))))×(List (an.D))×(List (cg.D))×(List (cw.D))×(List (cp.D))×(List (an.D))×(List (cg.D))×(List (cw.D))×(List (cp.D)))))(h:q33 x=some y):TR x=y:=by unfold TR;rw[h]
def Wh.q94 (xs:((Bool)×((Int)×((List UInt8)×(((Int)×((List (an.D))×(Unit)))×(((List (cg.D))×((Int)×(Unit)))×((List (cw.D))×((List (cp.D))×(Unit))))))))×(eL.D)):Option ((((Bool)×((Int)×((List UInt8)×((gv.D)×((je.D)×((List (cw.D))×((List (cp.D))×(Unit))))))))×(List (eL.D)))×(Unit)):=
 let c9:=xs.1
 let w_1:=xs.2
 bif(w_1.1==1) then
  dj q96 (c9,w_1) fun r_3=>
   some (r_3.1,())
 else
  dj FC (c9,w_1.2.1) fun e_=>
   let n_:=decide (e_.1<0)
   let FW:=bif bif n_ then true else((List.getD (c9.2.2.2.2.2.2.1) (Int.toNat e_.1) (0,0,0,0,0,0,())).2).1 != w_1.2.2.1 then true else(((List.getD (c9.2.2.2.2.2.2.1) (Int.toNat e_.1) (0,0,0,0,0,0,())).2).2).1 != w_1.2.2.2.1
   bif kL [(!!bif n_ then true else((List.getD (c9.2.2.2.2.2.2.1) (Int.toNat e_.1) (0,0,0,0,0,0,())).2).1 != w_1.2.2.1) || decide (0≤e_.1),(!!bif n_ then true else((List.getD (c9.2.2.2.2.2.2.1) (Int.toNat e_.1) (0,0,0,0,0,0,())).2).1 != w_1.2.2.1) || decide (e_.1<(↑(List.length (c9.2.2.2.2.2.2.1)):Int)),!!n_ || decide (0≤e_.1),!!n_ || decide (e_.1<(↑(List.length (c9.2.2.2.2.2.2.1)):Int))] then
    bif FW then
     some ((c9,[]),())
    else
     CK q33 TR ((((),(),(),e_.1),(false,0,[],(0,(),()),((),0,()),(),(),()),(c9.1,c9.2.1,c9.2.2.1,(c9.2.2.2.1.1,(),c9.2.2.2.1.2.2),((),c9.2.2.2.2.1.2),(),(),c9.2.2.2.2.2.2.2),w_1,[],[],[],[],c9.2.2.2.1.2.1,c9.2.2.2.2.1.1,c9.2.2.2.2.2.1,c9.2.2.2.2.2.2.1)) fun q_=>
      sumC q_ (fun Bw=>
       let DF:=Bw.2.2.1.1
       let CU:=Bw.2.2.1.2.1
       let Dj:=Bw.2.2.1.2.2.1
       let Ld:=Bw.2.2.1.2.2.2.1
       let Pk:=Bw.2.2.1.2.2.2.2.1
       let Pm:=Bw.2.2.1.2.2.2.2.2.1
       let Le:=Bw.2.2.1.2.2.2.2.2.2.2
       let D9:=Bw.2.2.2.2.2.2.2
       some (((DF,CU,Dj,Ld,Pk,Pm,D9,Le),[]),())) (fun GK=>
       let Df:=GK.2.2.1.1
       let Ie:=GK.2.2.1.2.1
       let Ay:=GK.2.2.1.2.2.1
       let Er:=GK.2.2.1.2.2.2.1.1
       let Es:=GK.2.2.1.2.2.2.1.2.2
       let Fu:=GK.2.2.1.2.2.2.2.1.2
       let G0:=GK.2.2.1.2.2.2.2.2.2.2
       let JB:=GK.2.2.2.2.2.2.2.1
       let Ig:=GK.2.2.2.2.2.2.2.2.1
       let F8:=GK.2.2.2.2.2.2.2.2.2.1
       let F9:=GK.2.2.2.2.2.2.2.2.2.2
       some (((Df,Ie,Ay,(Er,JB,Es),(Ig,Fu),F8,F9,G0),[]),()))
   else none
def Wh.q28 (xs:(b7.D)×(eL.D)):Option (((b7.D)×(List (eL.D)))×(Unit)):=
 let c9:=xs.1
 let w_1:=xs.2
 dj FJ c9 fun r_2=>
  bif !r_2.1 then
   some (((false,0,[],(0,[],()),([],0,()),[],[],()),[]),())
  else
   dj E9 c9 fun r_3=>
    let AI:= !c9.1
    b8 (zog Ed w_1) fun ic=>
    let FW:=bif bif AI then true else !ic.1 then true else decide (w_1.2.1≥4)
    bif kL [!!AI || qu (Ed w_1)] then
     bif FW then
      some ((r_3.1,[]),())
     else
      dj q94 (r_3.1,w_1) fun w9=>
       some (w9.1,())
    else none
def Wh.q35 (x:((Unit)×(List (eL.D))×(Int)×(Unit)×(Int)×(Int))×(((b7.D)×((Unit)×((Unit)×((Unit)×(Unit)))))×(((Bool)×((Int)×((List UInt8)×(((Int)×((Unit)×(Unit)))×(((Unit)×((Int)×(Unit)))×((Unit)×((Unit)×(Unit))))))))×((Unit)×((Unit)×((Unit)×(Unit)))))×(List (bn.D))×(List (b9.D))×(List (an.D))×(List (an.D))×(List (cg.D))×(List (cw.D))×(List (cp.D))×(List (bn.D))×(List (b9.D))×(List (an.D)))):Option ((((Unit)×(List (eL.D))×(Int)×(Unit)×(Int)×(Int))×(((b7.D)×((Unit)×((Unit)×((Unit)×(Unit)))))×(((Bool)×((Int)×((List UInt8)×(((Int)×((Unit)×(Unit)))×(((Unit)×((Int)×(Unit)))×((Unit)×((Unit)×(Unit))))))))×((Unit)×((Unit)×((Unit)×(Unit)))))×(List (bn.D))×(List (b9.D))×(List (an.D))×(List (an.D))×(List (cg.D))×(List (cw.D))×(List (cp.D))×(List (bn.D))×(List (b9.D))×(List (an.D))))):=
 let S7:=x.1.2.1
 let to_57:=x.1.2.2.1
 let OX:=x.1.2.2.2.2.1
 let at_59:=x.1.2.2.2.2.2
 let Ba:=x.2.1.1
 let BK:=x.2.1.2.2.2.2
 let Cc:=x.2.2.1.1.1
 let Bb:=x.2.2.1.1.2.1
 let AU:=x.2.2.1.1.2.2.1
 let BL:=x.2.2.1.1.2.2.2.1.1
 let CR:=x.2.2.1.1.2.2.2.1.2.2
 let BA:=x.2.2.1.1.2.2.2.2.1.2
 let Cr:=x.2.2.1.1.2.2.2.2.2.2.2
 let EU:=x.2.2.1.2.2.2.2
 let Dh:=x.2.2.2.1
 let Bk:=x.2.2.2.2.1
 let AY:=x.2.2.2.2.2.1
 let CD:=x.2.2.2.2.2.2.1
 let Cd:=x.2.2.2.2.2.2.2.1
 let Cs:=x.2.2.2.2.2.2.2.2.1
 let CS:=x.2.2.2.2.2.2.2.2.2.1
 let Bl:=x.2.2.2.2.2.2.2.2.2.2.1
 let Ev:=x.2.2.2.2.2.2.2.2.2.2.2.1
 let EW:=x.2.2.2.2.2.2.2.2.2.2.2.2
 bif decide (at_59<0) then
  let v_81:=List.getD S7 (Int.toNat OX) (0,0,0,0,0,[],[],())
  bif kL [decide (0≤OX),decide (OX<(↑(List.length S7):Int))] then
   some ((((),S7,to_57,(),OX,v_81.2.1),(Ba,(),(),(),BK),((Cc,Bb,AU,(BL,(),CR),((),BA),(),(),Cr),(),(),(),EU),Dh,Bk,AY,CD,Cd,Cs,CS,Bl,Ev,EW))
  else none
 else
  some ((((),S7,to_57,(),OX,at_59),(Ba,(),(),(),BK),((Cc,Bb,AU,(BL,(),CR),((),BA),(),(),Cr),(),(),(),EU),Dh,Bk,AY,CD,Cd,Cs,CS,Bl,Ev,EW))
def Wh.Ng (x:((Unit)×(List (eL.D))×(Int)×(Unit)×(Int)×(Int))×(((b7.D)×((Unit)×((Unit)×((Unit)×(Unit)))))×(((Bool)×((Int)×((List UInt8)×(((Int)×((Unit)×(Unit)))×(((Unit)×((Int)×(Unit)))×((Unit)×((Unit)×(Unit))))))))×((Unit)×((Unit)×((Unit)×(Unit)))))×(List (bn.D))×(List (b9.D))×(List (an.D))×(List (an.D))×(List (cg.D))×(List (cw.D))×(List (cp.D))×(List (bn.D))×(List (b9.D))×(List (an.D)))):(((Unit)×(List (eL.D))×(Int)×(Unit)×(Int)×(Int))×(((b7.D)×((Unit)×((Unit)×((Unit)×(Unit)))))×(((Bool)×((Int)×((List UInt8)×(((Int)×((Unit)×(Unit)))×(((Unit)×((Int)×(Unit)))×((Unit)×((Unit)×(Unit))))))))×((Unit)×((Unit)×((Unit)×(Unit)))))×(List (bn.D))×(List (b9.D))×(List (an.D))×(List (an.D))×(List (cg.D))×(List (cw.D))×(List (cp.D))×(List (bn.D))×(List (b9.D))×(List (an.D)))):=match q35 x with | some y=>y|none=>(default,(default,default,default,default,default,default,default,default,default,default,default,default))
def Wh.q35_v (x:((Unit)×(List (eL.D))×(Int)×(Unit)×(Int)×(Int))×(((b7.D)×((Unit)×((Unit)×((Unit)×(Unit)))))×(((Bool)×((Int)×((List UInt8)×(((Int)×((Unit)×(Unit)))×(((Unit)×((Int)×(Unit)))×((Unit)×((Unit)×(Unit))))))))×((Unit)×((Unit)×((Unit)×(Unit)))))×(List (bn.D))×(List (b9.D))×(List (an.D))×(List (an.D))×(List (cg.D))×(List (cw.D))×(List (cp.D))×(List (bn.D))×(List (b9.D))×(List (an.D))))(y:(((Unit)×(List (eL.D))×(Int)×(Unit)×(Int)×(Int))×(((b7.D)×((Unit)×((Unit)×((Unit)×(Unit)))))×(((Bool)×((Int)×((List UInt8)×(((Int)×((Unit)×(Unit)))×(((Unit)×((Int)×(Unit)))×((Unit)×((Unit)×(Unit))))))))×((Unit)×((Unit)×((Unit)×(Unit)))))×(List (bn.D))×(List (b9.D))×(List (an.D))×(List (an.D))×(List (cg.D))×(List (cw.D))×(List (cp.D))×(List (bn.D))×(List (b9.D))×(List (an.D)))))(h:q35 x=some y):Ng x=y:=by unfold Ng;rw[h]
abbrev Wh.adC:Type:=((Int)×(Unit)×(List (eL.D))×(Int)×(Unit))×(((b7.D)×((Unit)×((Unit)×((Unit)×(Unit)))))×(((Bool)×((Int)×((List UInt8)×(((Int)×((Unit)×(Unit)))×(((Unit)×((Int)×(Unit)))×((Unit)×((Unit)×(Unit))))))))×((Unit)×((Unit)×((Unit)×(Unit)))))×(List (bn.D))×(List (b9.D))×(List (an.D))×(List (an.D))×(List (cg.D))×(List (cw.D))×(List (cp.D))×(List (bn.D))×(List (b9.D))×(List (an.D)))
abbrev Wh.alw:Type:=((((Unit)×(Unit))×((((Bool)×((Int)×((List UInt8)×(((Int)×((Unit)×(Unit)))×(((Unit)×((Int)×(Unit)))×((Unit)×((Unit)×(Unit))))))))×((Unit)×((Unit)×((Unit)×(Unit)))))×((b7.D)×((Unit)×((Unit)×((Unit)×(Unit)))))×(List (an.D))×(List (cg.D))×(List (cw.D))×(List (cp.D))×(List (bn.D))×(List (b9.D))×(List (an.D))×(List (bn.D))×(List (b9.D))×(List (an.D)))))
def Wh.Lt (x:adC):Option (adC⊕alw):=
 let i_113:=x.1.1
 let abn:=x.1.2.2.1
 let ag0:=x.1.2.2.2.1
 let F9:=x.2.1.1
 let Ih:=x.2.1.2.2.2.2
 let ET:=x.2.2.1.1.1
 let Et:=x.2.2.1.1.2.1
 let K9:=x.2.2.1.1.2.2.1
 let Ii:=x.2.2.1.1.2.2.2.1.1
 let K_:=x.2.2.1.1.2.2.2.1.2.2
 let G1:=x.2.2.1.1.2.2.2.2.1.2
 let Dg:=x.2.2.1.1.2.2.2.2.2.2.2
 let Ij:=x.2.2.1.2.2.2.2
 let G2:=x.2.2.2.1
 let JC:=x.2.2.2.2.1
 let O3:=x.2.2.2.2.2.1
 let abt:=x.2.2.2.2.2.2.1
 let abu:=x.2.2.2.2.2.2.2.1
 let abv:=x.2.2.2.2.2.2.2.2.1
 let abw:=x.2.2.2.2.2.2.2.2.2.1
 let abx:=x.2.2.2.2.2.2.2.2.2.2.1
 let S_:=x.2.2.2.2.2.2.2.2.2.2.2.1
 let Ta:=x.2.2.2.2.2.2.2.2.2.2.2.2
 let HF:Int:=(↑(List.length abn):Int)
 let v_139:=bif decide (i_113<HF) then decide ((↑(List.length JC):Int)<60) else false
 bif v_139 then
  CK q35 Ng ((((),abn,ag0,(),i_113,ag0),(F9,(),(),(),Ih),((ET,Et,K9,(Ii,(),K_),((),G1),(),(),Dg),(),(),(),Ij),G2,JC,O3,abt,abu,abv,abw,abx,S_,Ta)) fun Cg=>
   let S5:=Cg.1.2.1
   let to_143:=Cg.1.2.2.1
   let OV:=Cg.1.2.2.2.2.1
   let at_145:=Cg.1.2.2.2.2.2
   let Xv:=Cg.2.1.1
   let Xw:=Cg.2.1.2.2.2.2
   let MV:=Cg.2.2.1.1.1
   let Ik:=Cg.2.2.1.1.2.1
   let Xx:=Cg.2.2.1.1.2.2.1
   let Xy:=Cg.2.2.1.1.2.2.2.1.1
   let Tc:=Cg.2.2.1.1.2.2.2.1.2.2
   let Td:=Cg.2.2.1.1.2.2.2.2.1.2
   let Te:=Cg.2.2.1.1.2.2.2.2.2.2.2
   let ls_155:=Cg.2.2.1.2.2.2.2
   let ls_156:=Cg.2.2.2.1
   let abB:=Cg.2.2.2.2.1
   let ls_158:=Cg.2.2.2.2.2.1
   let ls_159:=Cg.2.2.2.2.2.2.1
   let ls_160:=Cg.2.2.2.2.2.2.2.1
   let Xz:=Cg.2.2.2.2.2.2.2.2.1
   let ls_162:=Cg.2.2.2.2.2.2.2.2.2.1
   let MW:=Cg.2.2.2.2.2.2.2.2.2.2.1
   let XA:=Cg.2.2.2.2.2.2.2.2.2.2.2.1
   let XB:=Cg.2.2.2.2.2.2.2.2.2.2.2.2
   b8 (zog Hs (List.getD S5 (Int.toNat OV) (0,0,0,0,0,[],[],()))) fun r_166=>
   let ls_168:=abB ++ [(at_145,r_166.1,false,())]
   let v_169:=List.getD S5 (Int.toNat OV) (0,0,0,0,0,[],[],())
   bif kL [decide (List.length abB+(1:Nat)≤eV),qu (Hs v_169),decide (0≤OV),decide (OV<(↑(List.length S5):Int))] then
    some (.inl (((IntKind.wrap .i64 (OV+1)),(),S5,to_143,()),(Xv,(),(),(),Xw),((MV,Ik,Xx,(Xy,(),Tc),((),Td),(),(),Te),(),(),(),ls_155),ls_156,ls_168,ls_158,ls_159,ls_160,Xz,ls_162,MW,XA,XB))
   else none
 else
  some (.inr (((),()),((ET,Et,K9,(Ii,(),K_),((),G1),(),(),Dg),(),(),(),Ij),(F9,(),(),(),Ih),abt,abu,abv,abw,abx,S_,Ta,G2,JC,O3))
def Wh.adD:(((Unit)×(Unit))×((((Bool)×((Int)×((List UInt8)×(((Int)×((Unit)×(Unit)))×(((Unit)×((Int)×(Unit)))×((Unit)×((Unit)×(Unit))))))))×((Unit)×((Unit)×((Unit)×(Unit)))))×((b7.D)×((Unit)×((Unit)×((Unit)×(Unit)))))×(List (an.D))×(List (cg.D))×(List (cw.D))×(List (cp.D))×(List (bn.D))×(List (b9.D))×(List (an.D))×(List (bn.D))×(List (b9.D))×(List (an.D)))):=default
def Wh.Gm (xs:((b7.D)×((List (bn.D))×((List (b9.D))×((List (an.D))×(Unit)))))×(Int)×(List (eL.D))):Option ((((b7.D)×((List (bn.D))×((List (b9.D))×((List (an.D))×(Unit))))))×(Unit)):=
 let w_0:=xs.1
 let to_1:=xs.2.1
 let list_2:=xs.2.2
 iL Lt adD (((0,(),list_2,to_1,()),(w_0.1,(),(),(),w_0.2.2.2.2),((false,0,[],(0,(),()),((),0,()),(),(),()),(),(),(),()),w_0.2.1,w_0.2.2.1,w_0.2.2.2.1,[],[],[],[],[],[],[])) fun Qp=>
  let ls_181:=Qp.2.2.1.1
  let ls_182:=Qp.2.2.1.2.2.2.2
  let Ga:=Qp.2.2.2.2.2.2.2.2.2.2.1
  let Gc:=Qp.2.2.2.2.2.2.2.2.2.2.2.1
  let Lb:=Qp.2.2.2.2.2.2.2.2.2.2.2.2
  some ((ls_181,Ga,Gc,Lb,ls_182),())
def Wh.JQ (xs:(bn.D)):Option ((Bool)×(Unit)):=
 let cx:=xs
 let v_1:Int:=(↑(List.length (cx.2.2.2.2.2.1.1.2.2.1)):Int)
 let Bq:=bif bif bif bif bif bif v_1==0 then(↑(List.length (cx.2.2.2.2.2.1.1.2.2.2.1)):Int)==0 else false then cx.2.2.2.2.2.1.1.1==0 else false then cx.2.2.2.2.2.1.1.2.1==0 else false then cx.2.2.2.2.2.1.2.1.1==0 else false then cx.2.2.2.2.2.1.2.1.2.1==0 else false then(↑(List.length (cx.2.2.2.2.2.1.2.1.2.2.1)):Int)==0 else false
 some (Bq,())
abbrev Wh.aey:Type:=((Int)×(List (Int))×(Int))×(Unit)
abbrev Wh.al0:Type:=(((Bool)×(Unit))⊕((Int)×(Unit)))
def Wh.IG (x:aey):Option (aey⊕al0):=
 let zP:=x.1.1
 let PZ:=x.1.2.1
 let Wy:=x.1.2.2
 let AN:=decide (zP<(↑(List.length PZ):Int))
 bif AN then
  let s5:=List.getD PZ (Int.toNat zP) 0
  let xb:=IntKind.wrap .i64 (Wy-1)
  b8 (zog g8 (s5,0,xb)) fun GA=>
  let BP:=bif !GA.1 then true else bif decide (zP>0) then decide (List.getD PZ (Int.toNat (IntKind.wrap .i64 (zP-1))) 0≥s5) else false
  bif kL [!(decide (zP>0) && !!GA.1) || decide (0≤zP),!(decide (zP>0) && !!GA.1) || AN,!(decide (zP>0) && !!GA.1) || decide (0≤IntKind.wrap .i64 (zP-1)),!(decide (zP>0) && !!GA.1) || decide (IntKind.wrap .i64 (zP-1)<(↑(List.length PZ):Int)),qu (g8 (s5,0,xb)),decide (0≤zP),AN] then
   bif BP then
    some (.inr (.inl (false,())))
   else
    some (.inl (((IntKind.wrap .i64 (zP+1)),PZ,Wy),()))
  else none
 else
  some (.inr (.inr (Wy,())))
def Wh.aez:((Bool)×(Unit))⊕((Int)×(Unit)):=.inl default
def Wh.Ho (xs:(List (Int))×(Int)):Option ((Bool)×(Unit)):=
 let HD:=xs.1
 let Wx:=xs.2
 iL IG aez (((0,HD,Wx),())) fun q_=>
  sumC q_ (fun Ff=>
   let CJ:=Ff.1
   some (CJ,())) (fun z_28=>
   let ahB:=z_28.1
   dj g8 (ahB,0,24) fun Fa=>
    some (Fa.1,()))
abbrev Wh.aeS:Type:=((Int)×(Int)×(List (Int)))×(Unit)
abbrev Wh.al_:Type:=(((Bool)×(Unit))⊕((Unit)×(Unit)))
def Wh.LK (x:aeS):Option (aeS⊕al_):=
 let CN:=x.1.1
 let Ea:=x.1.2.1
 let Yp:=x.1.2.2
 let AV:=decide (CN<(↑(List.length Yp):Int))
 bif AV then
  let BO:=List.getD Yp (Int.toNat CN) 0
  let pg:=BO==Ea
  bif kL [decide (0≤CN),AV] then
   bif pg then
    some (.inr (.inl (true,())))
   else
    some (.inl (((IntKind.wrap .i64 (CN+1)),Ea,Yp),()))
  else none
 else
  some (.inr (.inr ((),())))
def Wh.aeT:((Bool)×(Unit))⊕((Unit)×(Unit)):=.inl default
def Wh.Ef (xs:(List (Int))×(Int)):Option ((Bool)×(Unit)):=
 let HD:=xs.1
 let n_1:=xs.2
 iL LK aeT (((0,n_1,HD),())) fun q_=>
  sumC q_ (fun y_17=>
   let xb:=y_17.1
   some (xb,())) (fun _=>
   some (false,()))
abbrev Wh.afJ:Type:=((Int)×(Int)×(Unit))×((fy.D))
abbrev Wh.amz:Type:=(((Bool)×(Unit))⊕(((Unit)×(Int))×((fy.D))))
def Wh.LV (x:afJ):Option (afJ⊕amz):=
 let K5:=x.1.1
 let De:=x.1.2.1
 let qe:=x.2
 let KA:Int:=(↑(List.length (qe.2.2.1)):Int)
 bif decide (K5<KA) then
  let B5:=K5 != De
  b8 (zog Ef ((List.getD (qe.2.2.1) (Int.toNat K5) ([],[],())).1,List.getD ((List.getD (qe.2.2.1) (Int.toNat De) ([],[],())).1) (Int.toNat 0) 0)) fun r_52=>
  let Ja:=bif B5 then r_52.1 else false
  bif kL [!B5 || qu (Ef ((List.getD (qe.2.2.1) (Int.toNat K5) ([],[],())).1,List.getD ((List.getD (qe.2.2.1) (Int.toNat De) ([],[],())).1) (Int.toNat 0) 0)),!B5 || decide ((0:Int)≤0),!B5 || decide (0<(↑(List.length ((List.getD (qe.2.2.1) (Int.toNat De) ([],[],())).1)):Int)),!B5 || decide (0≤De),!B5 || decide (De<KA),!B5 || decide (0≤K5),!B5 || decide (K5<KA)] then
   bif Ja then
    some (.inr (.inl (false,())))
   else
    some (.inl (((IntKind.wrap .i64 (K5+1)),De,()),qe))
  else none
 else
  some (.inr (.inr (((),De),qe)))
def Wh.afK:((Bool)×(Unit))⊕(((Unit)×(Int))×((fy.D))):=.inl default
abbrev Wh.afH:Type:=((Int)×(Unit))×((fy.D))
abbrev Wh.amy:Type:=(((Bool)×(Unit))⊕((Unit)×(Unit)))
def Wh.LU (x:afH):Option (afH⊕amy):=
 let H_:=x.1.1
 let Bb:=x.2
 let v_64:Int:=(↑(List.length (Bb.2.2.1)):Int)
 bif decide (H_<v_64) then
  iL LV afK (((0,H_,()),Bb)) fun q_=>
   sumC q_ (fun y_67=>
    let Fb:=y_67.1
    some (.inr (.inl (Fb,())))) (fun z_68=>
    let i_70:=z_68.1.2
    let Bk:=z_68.2
    some (.inl (((IntKind.wrap .i64 (i_70+1)),()),Bk)))
 else
  some (.inr (.inr ((),())))
def Wh.afI:((Bool)×(Unit))⊕((Unit)×(Unit)):=.inl default
abbrev Wh.afF:Type:=((Int)×(Unit))×((fy.D))
abbrev Wh.amx:Type:=(((Bool)×(Unit))⊕((Unit)×((fy.D))))
def Wh.Kk (x:afF):Option (afF⊕amx):=
 let DQ:=x.1.1
 let we:=x.2
 let s5:Int:=(↑(List.length (we.2.2.1)):Int)
 bif decide (DQ<s5) then
  let BM:=List.getD (we.2.2.1) (Int.toNat DQ) ([],[],())
  bif kL [decide (0≤DQ),decide (DQ<s5)] then
   b8 (zog Ho (BM.1,we.1)) fun DX=>
   let tn:=bif bif bif !DX.1 then true else(↑(List.length BM.1):Int)==0 then true else(↑(List.length BM.2.1):Int) != we.2.1 then true else bif decide (DQ>0) then decide (List.getD ((List.getD (we.2.2.1) (Int.toNat (IntKind.wrap .i64 (DQ-1))) ([],[],())).1) (Int.toNat 0) 0≥List.getD BM.1 (Int.toNat 0) 0) else false
   bif kL [!(decide (DQ>0) && !bif bif !DX.1 then true else(↑(List.length BM.1):Int)==0 then true else(↑(List.length BM.2.1):Int) != we.2.1) || decide ((0:Int)≤0),!(decide (DQ>0) && !bif bif !DX.1 then true else(↑(List.length BM.1):Int)==0 then true else(↑(List.length BM.2.1):Int) != we.2.1) || decide (0<(↑(List.length BM.1):Int)),!(decide (DQ>0) && !bif bif !DX.1 then true else(↑(List.length BM.1):Int)==0 then true else(↑(List.length BM.2.1):Int) != we.2.1) || decide ((0:Int)≤0),!(decide (DQ>0) && !bif bif !DX.1 then true else(↑(List.length BM.1):Int)==0 then true else(↑(List.length BM.2.1):Int) != we.2.1) || decide (0<(↑(List.length ((List.getD (we.2.2.1) (Int.toNat (IntKind.wrap .i64 (DQ-1))) ([],[],())).1)):Int)),!(decide (DQ>0) && !bif bif !DX.1 then true else(↑(List.length BM.1):Int)==0 then true else(↑(List.length BM.2.1):Int) != we.2.1) || decide (0≤IntKind.wrap .i64 (DQ-1)),!(decide (DQ>0) && !bif bif !DX.1 then true else(↑(List.length BM.1):Int)==0 then true else(↑(List.length BM.2.1):Int) != we.2.1) || decide (IntKind.wrap .i64 (DQ-1)<s5),qu (Ho (BM.1,we.1))] then
    bif tn then
     some (.inr (.inl (false,())))
    else
     some (.inl (((IntKind.wrap .i64 (DQ+1)),()),we))
   else none
  else none
 else
  some (.inr (.inr ((),we)))
def Wh.afG:((Bool)×(Unit))⊕((Unit)×((fy.D))):=.inl default
def Wh.FM (xs:(fy.D)):Option ((Bool)×(Unit)):=
 let c9:=xs
 b8 (zog g8 (c9.1,1,24)) fun r_1=>
 b8 (zog g8 (c9.2.1,1,16)) fun r_2=>
 let A2:=bif !r_1.1 then true else !r_2.1
 bif kL [!!!r_1.1 || qu (g8 (c9.2.1,1,16)),qu (g8 (c9.1,1,24))] then
  bif A2 then
   some (false,())
  else
   iL Kk afG (((0,()),c9)) fun q_=>
    sumC q_ (fun EM=>
     let I9:=EM.1
     some (I9,())) (fun z_30=>
     let AD:=z_30.2
     iL LU afI (((0,()),AD)) fun q_=>
      sumC q_ (fun Bw=>
       let v_76:=Bw.1
       some (v_76,())) (fun _=>
       some (true,())))
 else none
def Wh.FB (xs:(r5.D)):Option ((Bool)×(Unit)):=
 let n4:=xs
 b8 (zog DW n4.1) fun r_1=>
 b8 (zog FM n4.2.1) fun r_2=>
 b8 (zog Bc n4.1) fun ic=>
 let A3:=bif bif bif r_1.1 then r_2.1 else false then n4.2.1.1==ic.1 else false then n4.2.1.2.1==n4.1.2.1 else false
 bif kL [(!bif r_1.1 then r_2.1 else false) || qu (Bc n4.1),!r_1.1 || qu (FM n4.2.1),qu (DW n4.1)] then
  some (A3,())
 else none
def Wh.EH (xs:(r5.D)):Option ((Bool)×(Unit)):=
 let n4:=xs
 b8 (zog FB n4) fun r_1=>
 b8 (zog Bc n4.1) fun r_2=>
 let AI:=bif r_1.1 then(↑(List.length (n4.2.1.2.2.1)):Int)==r_2.1 else false
 bif kL [!r_1.1 || qu (Bc n4.1),qu (FB n4)] then
  some (AI,())
 else none
def Wh.DH (xs:(bn.D)):Option ((Bool)×(Unit)):=
 let cx:=xs
 b8 (zog g8 (cx.1,0,3)) fun r_1=>
 b8 (zog g8 (cx.2.1,0,99999)) fun r_2=>
 b8 (zog g8 (cx.2.2.1,0,4)) fun ic=>
 b8 (zog g8 (cx.2.2.2.2.1,0,99999)) fun Bd=>
 let A3:=bif bif bif !r_1.1 then true else !r_2.1 then true else !ic.1 then true else !Bd.1
 bif kL [(!!bif bif !r_1.1 then true else !r_2.1 then true else !ic.1) || qu (g8 (cx.2.2.2.2.1,0,99999)),(!!bif !r_1.1 then true else !r_2.1) || qu (g8 (cx.2.2.1,0,4)),!!!r_1.1 || qu (g8 (cx.2.1,0,99999)),qu (g8 (cx.1,0,3))] then
  bif A3 then
   some (false,())
  else
   let Cw:=cx.2.2.2.2.1==0
   b8 (zog JQ cx) fun Ce=>
   b8 (zog FB (cx.2.2.2.2.2.1)) fun BY=>
   let Bq:=bif bif Cw then !Ce.1 else false then true else bif decide (cx.2.2.2.2.1>0) then !BY.1 else false
   bif kL [!(decide (cx.2.2.2.2.1>0) && !bif Cw then !Ce.1 else false) || qu (FB (cx.2.2.2.2.2.1)),!Cw || qu (JQ cx)] then
    bif Bq then
     some (false,())
    else
     bif(cx.2.2.1==0) then
      let AN:=cx.2.2.2.1 == []
      some (bif AN then Cw else false,())
     else
      let s5:=cx.2.1==0
      b8 (zog DG (cx.2.2.2.1)) fun Hz=>
      let mb:=bif s5 then true else !Hz.1
      bif kL [!!s5 || qu (DG (cx.2.2.2.1))] then
       bif mb then
        some (false,())
       else
        bif(cx.2.2.1==2) then
         let nT:=decide (cx.2.2.2.2.1>0)
         b8 (zog EH (cx.2.2.2.2.2.1)) fun GA=>
         let I7:=bif nT then !GA.1 else false
         bif kL [!nT || qu (EH (cx.2.2.2.2.2.1))] then
          some (I7,())
         else none
        else
         bif(cx.2.2.1==3) then
          let Du:=decide (cx.2.2.2.2.1>0)
          b8 (zog EH (cx.2.2.2.2.2.1)) fun Nm=>
          let B3:=bif Du then Nm.1 else false
          bif kL [!Du || qu (EH (cx.2.2.2.2.2.1))] then
           some (B3,())
          else none
         else
          b8 (zog EH (cx.2.2.2.2.2.1)) fun Fa=>
          let Cf:=bif Cw then true else !Fa.1
          bif kL [!!Cw || qu (EH (cx.2.2.2.2.2.1))] then
           some (Cf,())
          else none
      else none
   else none
 else none
def Wh.JP (xs:(eL.D)):Option (((List (eL.D)))×(Unit)):=
 let w_0:=xs
 let EY:List (eL.D):=[(5,w_0.2.1,w_0.2.2.1,w_0.2.2.2.1,0,[],[],())]
 some (EY,())
abbrev Wh.aei:Type:=((Int)×(Unit)×(Unit))×((List (List UInt8))×(List (Int)))
abbrev Wh.alS:Type:=(((Unit)×((List (Int)))))
def Wh.Na (x:aei):Option (aei⊕alS):=
 let zP:=x.1.1
 let Aw:=x.2.1
 let G3:=x.2.2
 let AN:Int:=(↑(List.length Aw):Int)
 let mb:=bif decide (zP<AN) then decide (zP≤3) else false
 bif mb then
  b8 (zog z9 (List.getD Aw (Int.toNat zP) [])) fun DX=>
  let CC:=G3 ++ [DX.1]
  let BP:=List.getD Aw (Int.toNat zP) []
  bif kL [decide (List.length G3+(1:Nat)≤eV),qu (z9 BP),decide (0≤zP),decide (zP<AN)] then
   some (.inl (((IntKind.wrap .i64 (zP+1)),(),()),Aw,CC))
  else none
 else
  some (.inr ((),G3))
def Wh.aej:((Unit)×((List (Int)))):=default
def Wh.Hg (xs:(List UInt8)):Option (((List (Int)))×(Unit)):=
 let c9:=xs
 dj Dp (c9,44) fun r_1=>
  iL Na aej (((0,(),()),r_1.1,[])) fun Ff=>
   let s9:=Ff.2
   some (s9,())
def Wh.q60 (xs:(List UInt8)):Option ((((Int)×((Int)×((List (Int))×((List (Int))×(Unit)))))×(Bool))×(Unit)):=
 let Be:=xs
 dj Dp (Be,58) fun r_1=>
  let v_2:Int:=(↑(List.length r_1.1):Int)
  let A2:=v_2 != 3
  bif A2 then
   some (((0,0,[],[],()),false),())
  else
   b8 (zog Dp (List.getD r_1.1 (Int.toNat 0) [],47)) fun e_=>
   let n_:=List.getD r_1.1 (Int.toNat 0) []
   bif kL [qu (Dp (n_,47)),true,decide (0<v_2)] then
    let oc:Int:=(↑(List.length e_.1):Int)
    let nP:=oc != 2
    bif nP then
     some (((0,0,[],[],()),false),())
    else
     b8 (zog Hg (List.getD r_1.1 (Int.toNat 1) [])) fun Bd=>
     b8 (zog Hg (List.getD r_1.1 (Int.toNat 2) [])) fun w9=>
     b8 (zog z9 (List.getD e_.1 (Int.toNat 1) [])) fun A1=>
     b8 (zog z9 (List.getD e_.1 (Int.toNat 0) [])) fun Ce=>
     let AV:=List.getD e_.1 (Int.toNat 0) []
     let BO:=List.getD e_.1 (Int.toNat 1) []
     let pg:=List.getD r_1.1 (Int.toNat 1) []
     let Bq:=List.getD r_1.1 (Int.toNat 2) []
     bif kL [qu (Hg Bq),true,decide (2<v_2),qu (Hg pg),true,decide (1<v_2),qu (z9 BO),true,decide (1<oc),qu (z9 AV),true,decide (0<oc)] then
      dj EG (Ce.1,A1.1,Bd.1,w9.1,()) fun IX=>
       bif(!IX.1==Be) then
        some (((0,0,[],[],()),false),())
       else
        some (((Ce.1,A1.1,Bd.1,w9.1,()),true),())
     else none
   else none
def Wh.q42 (xs:(Int)×(Int)):Option ((((Int)×((Int)×((List (gT.D))×(Unit)))))×(Unit)):=
 let Fk:=xs.1
 let size_1:=xs.2
 b8 (zog g8 (Fk,1,24)) fun r_2=>
 b8 (zog g8 (size_1,1,16)) fun r_3=>
 let AI:=bif !r_2.1 then true else !r_3.1
 bif kL [!!!r_2.1 || qu (g8 (size_1,1,16)),qu (g8 (Fk,1,24))] then
  bif AI then
   some ((0,0,[],()),())
  else
   some ((Fk,size_1,[],()),())
 else none
def Wh.Lz (xs:(g7.D)):Option (((((Int)×((Int)×((List (Int))×((List (Int))×(Unit)))))×(((Int)×((Int)×((List (gT.D))×(Unit))))×(Unit))))×(Unit)):=
 let g9:g7.D:=xs
 dj DW g9 fun r_1=>
  bif !r_1.1 then
   some (((0,0,[],[],()),(0,0,[],()),()),())
  else
   b8 (zog Hh g9) fun r_2=>
   b8 (zog Bc g9) fun r_3=>
   b8 (zog q42 (r_3.1,g9.2.1)) fun e_=>
   bif kL [qu (q42 (r_3.1,g9.2.1)),qu (Bc g9),qu (Hh g9)] then
    some ((r_2.1,(e_.1.1,e_.1.2.1,e_.1.2.2.1,e_.1.2.2.2),()),())
   else none
end
