import Derived.Test.YtpdphbjjfepigaaA4
open Go Go.Ab
noncomputable section
abbrev tRuntimeBoundsError : Ty := (.pair (.int .i64) (.pair (.int .i64) (.pair .bool (.pair (.int .u8) .unit))))
abbrev tRuntimeBoundsError.D : Type := (Int) × ((Int) × ((Bool) × ((Int) × (Unit))))

abbrev tRuntimeErrorAddressString : Ty := (.pair .str (.pair (.int .u64) .unit))
abbrev tRuntimeErrorAddressString.D : Type := (List UInt8) × ((Int) × (Unit))

abbrev tImplPlan : Ty := (.pair (.int .i64) (.pair (.int .i64) (.pair (.lst (.int .i64)) (.pair (.lst (.int .i64)) .unit))))
abbrev tImplPlan.D : Type := (Int) × ((Int) × ((List (Int)) × ((List (Int)) × (Unit))))

abbrev tImplSolver : Ty := (.pair (.int .i64) (.pair (.int .i64) (.pair (.lst (.pair (.lst (.int .i64)) (.pair .str .unit))) .unit)))
abbrev tImplSolver.D : Type := (Int) × ((Int) × ((List ((List (Int)) × ((List UInt8) × (Unit)))) × (Unit)))

abbrev tImplGetting : Ty := (.pair tImplPlan (.pair tImplSolver .unit))
abbrev tImplGetting.D : Type := (tImplPlan.D) × ((tImplSolver.D) × (Unit))

abbrev tImplClient : Ty := (.pair (.int .i64) (.pair (.int .i64) (.pair (.int .i64) (.pair .str (.pair (.int .i64) (.pair tImplGetting .unit))))))
abbrev tImplClient.D : Type := (Int) × ((Int) × ((Int) × ((List UInt8) × ((Int) × ((tImplGetting.D) × (Unit))))))

abbrev tImplCat : Ty := (.pair (.int .i64) (.pair (.lst (.pair (.int .i64) (.pair .str (.pair (.int .i64) (.pair .str .unit))))) .unit))
abbrev tImplCat.D : Type := (Int) × ((List ((Int) × ((List UInt8) × ((Int) × ((List UInt8) × (Unit)))))) × (Unit))

abbrev tImplPool : Ty := (.pair (.lst (.pair (.int .i64) (.pair (.int .i64) (.pair (.int .i64) (.pair (.int .i64) (.pair .bool .unit)))))) (.pair (.int .i64) .unit))
abbrev tImplPool.D : Type := (List ((Int) × ((Int) × ((Int) × ((Int) × ((Bool) × (Unit))))))) × ((Int) × (Unit))

abbrev tImplServer : Ty := (.pair .bool (.pair (.int .i64) (.pair .str (.pair tImplCat (.pair tImplPool (.pair (.lst (.pair (.int .i64) (.pair (.int .i64) (.pair (.int .i64) (.pair (.int .i64) .unit))))) (.pair (.lst (.pair (.int .i64) (.pair (.int .i64) (.pair (.int .i64) (.pair (.int .i64) (.pair (.int .i64) (.pair (.int .i64) .unit))))))) .unit)))))))
abbrev tImplServer.D : Type := (Bool) × ((Int) × ((List UInt8) × ((tImplCat.D) × ((tImplPool.D) × ((List ((Int) × ((Int) × ((Int) × ((Int) × (Unit)))))) × ((List ((Int) × ((Int) × ((Int) × ((Int) × ((Int) × ((Int) × (Unit)))))))) × (Unit)))))))

abbrev tImplWorld : Ty := (.pair tImplServer (.pair (.lst tImplClient) (.pair (.lst (.pair (.int .i64) (.pair .str (.pair .bool .unit)))) (.pair (.lst (.pair (.int .i64) (.pair .str (.pair (.int .i64) (.pair .str .unit))))) .unit))))
abbrev tImplWorld.D : Type := (tImplServer.D) × ((List (tImplClient.D)) × ((List ((Int) × ((List UInt8) × ((Bool) × (Unit))))) × ((List ((Int) × ((List UInt8) × ((Int) × ((List UInt8) × (Unit)))))) × (Unit))))

abbrev tImplWord : Ty := (.pair (.int .i64) (.pair (.int .i64) (.pair (.int .i64) (.pair (.int .i64) (.pair (.int .i64) (.pair .str (.pair .str .unit)))))))
abbrev tImplWord.D : Type := (Int) × ((Int) × ((Int) × ((Int) × ((Int) × ((List UInt8) × ((List UInt8) × (Unit)))))))

abbrev tImplPacket : Ty := (.pair (.int .i64) (.pair .str (.pair .bool .unit)))
abbrev tImplPacket.D : Type := (Int) × ((List UInt8) × ((Bool) × (Unit)))

abbrev tImplItem : Ty := (.pair (.int .i64) (.pair .str (.pair (.int .i64) (.pair .str .unit))))
abbrev tImplItem.D : Type := (Int) × ((List UInt8) × ((Int) × ((List UInt8) × (Unit))))

abbrev tImplEq : Ty := (.pair (.lst (.int .i64)) (.pair .str .unit))
abbrev tImplEq.D : Type := (List (Int)) × ((List UInt8) × (Unit))

abbrev tImplBucket : Ty := (.pair (.int .i64) (.pair (.int .i64) (.pair (.int .i64) (.pair (.int .i64) .unit))))
abbrev tImplBucket.D : Type := (Int) × ((Int) × ((Int) × ((Int) × (Unit))))

abbrev tImplServe : Ty := (.pair (.int .i64) (.pair (.int .i64) tImplBucket))
abbrev tImplServe.D : Type := (Int) × ((Int) × (tImplBucket.D))

abbrev tImplFrame : Ty := (.pair (.int .i64) (.pair (.int .i64) (.pair (.int .i64) (.pair (.int .i64) (.pair .bool .unit)))))
abbrev tImplFrame.D : Type := (Int) × ((Int) × ((Int) × ((Int) × ((Bool) × (Unit)))))

def Wh.spec_l10New (xs : Unit) : Option ((((List (tImplFrame.D)) × ((Int) × (Unit)))) × (Unit)) :=
  let pb_0 : List (tImplFrame.D) := [((0 : Int), (0 : Int), (0 : Int), (0 : Int), Bool.false, ()), ((0 : Int), (0 : Int), (0 : Int), (0 : Int), Bool.false, ()), ((0 : Int), (0 : Int), (0 : Int), (0 : Int), Bool.false, ()), ((0 : Int), (0 : Int), (0 : Int), (0 : Int), Bool.false, ()), ((0 : Int), (0 : Int), (0 : Int), (0 : Int), Bool.false, ()), ((0 : Int), (0 : Int), (0 : Int), (0 : Int), Bool.false, ()), ((0 : Int), (0 : Int), (0 : Int), (0 : Int), Bool.false, ()), ((0 : Int), (0 : Int), (0 : Int), (0 : Int), Bool.false, ())]
  some ((pb_0, (0 : Int), ()), ())
def Wh.spec_l10New' (xs : Unit) : (((List (tImplFrame.D)) × ((Int) × (Unit)))) × (Unit) := match Wh.spec_l10New xs with | some y => y | none => default
theorem Wh.spec_l10New_v (x : Unit) (y : (((List (tImplFrame.D)) × ((Int) × (Unit)))) × (Unit)) (h : Wh.spec_l10New x = some y) : Wh.spec_l10New' x = y := by unfold Wh.spec_l10New'; rw [h]

def Wh.spec_l12Buckets_l0 (x : ((Int) × (Int) × (Unit)) × ((List (tImplBucket.D)))) : Option ((((Int) × (Int) × (Unit)) × ((List (tImplBucket.D)))) ⊕ ((((Unit)) × ((List (tImplBucket.D)))))) :=
  let h_8 : Int := Prod.fst (Prod.fst x)
  let now_9 : Int := Prod.fst (Prod.snd (Prod.fst x))
  let ls_10 : List (tImplBucket.D) := Prod.snd x
  let v_11 : Bool := Decidable.decide (h_8 < (2 : Int))
  bif v_11 then
    let pb_12 : List (tImplBucket.D) := [((40 : Int), (40 : Int), (8 : Int), now_9, ())]
    let ls_13 : List (tImplBucket.D) := ls_10 ++ pb_12
    bif allB [Decidable.decide (List.length ls_10 + (1 : Nat) ≤ Go.Ab.maxRows)] then
      let v_14 : Int := Go.IntKind.wrap Go.IntKind.i64 (h_8 + (1 : Int))
      some (.inl ((v_14, now_9, ()), ls_13))
    else none
  else
    some (.inr ((), ls_10))
def Wh.spec_l12Buckets_l0_y : (((Unit)) × ((List (tImplBucket.D)))) := default
def Wh.spec_l12Buckets (xs : (Int)) : Option (((List (tImplBucket.D))) × (Unit)) :=
  let now_0 : Int := xs
  let x_15 : ((Int) × (Int) × (Unit)) × ((List (tImplBucket.D))) := (((0 : Int), now_0, ()), [])
  bif comesB Wh.spec_l12Buckets_l0 x_15 then
    let y_16 := comesV Wh.spec_l12Buckets_l0 Wh.spec_l12Buckets_l0_y x_15
    let ls_17 : List (tImplBucket.D) := Prod.snd y_16
    some (ls_17, ())
  else none
def Wh.spec_l12Buckets' (xs : (Int)) : ((List (tImplBucket.D))) × (Unit) := match Wh.spec_l12Buckets xs with | some y => y | none => default
theorem Wh.spec_l12Buckets_v (x : (Int)) (y : ((List (tImplBucket.D))) × (Unit)) (h : Wh.spec_l12Buckets x = some y) : Wh.spec_l12Buckets' x = y := by unfold Wh.spec_l12Buckets'; rw [h]

def Wh.spec_ServerNew (xs : Unit) : Option ((((Bool) × ((Int) × ((List UInt8) × (((Int) × ((List (tImplItem.D)) × (Unit))) × (((List (tImplFrame.D)) × ((Int) × (Unit))) × ((List (tImplBucket.D)) × ((List (tImplServe.D)) × (Unit))))))))) × (Unit)) :=
  bif allB [Option.rec ((fun (_ : Unit) => Bool.false) ()) (fun (val : List (Int × Int × Int × Int × Unit) × Unit) => (fun (val : List (Int × Int × Int × Int × Unit) × Unit) => (fun (val : List (Int × Int × Int × Int × Unit) × Unit) => Bool.true) val) val) (Wh.spec_l12Buckets (0 : Int)), Option.rec ((fun (_ : Unit) => Bool.false) ()) (fun (val : (List (Int × Int × Int × Int × Bool × Unit) × Int × Unit) × Unit) => (fun (val : (List (Int × Int × Int × Int × Bool × Unit) × Int × Unit) × Unit) => (fun (val : (List (Int × Int × Int × Int × Bool × Unit) × Int × Unit) × Unit) => Bool.true) val) val) (Wh.spec_l10New ())] then
    some ((Bool.true, (0 : Int), [], ((0 : Int), [], ()), (Prod.fst (Prod.fst (Wh.spec_l10New' ())), Prod.snd (Prod.fst (Wh.spec_l10New' ()))), Prod.fst (Wh.spec_l12Buckets' (0 : Int)), [], ()), ())
  else none
def Wh.spec_ServerNew' (xs : Unit) : (((Bool) × ((Int) × ((List UInt8) × (((Int) × ((List (tImplItem.D)) × (Unit))) × (((List (tImplFrame.D)) × ((Int) × (Unit))) × ((List (tImplBucket.D)) × ((List (tImplServe.D)) × (Unit))))))))) × (Unit) := match Wh.spec_ServerNew xs with | some y => y | none => default
theorem Wh.spec_ServerNew_v (x : Unit) (y : (((Bool) × ((Int) × ((List UInt8) × (((Int) × ((List (tImplItem.D)) × (Unit))) × (((List (tImplFrame.D)) × ((Int) × (Unit))) × ((List (tImplBucket.D)) × ((List (tImplServe.D)) × (Unit))))))))) × (Unit)) (h : Wh.spec_ServerNew x = some y) : Wh.spec_ServerNew' x = y := by unfold Wh.spec_ServerNew'; rw [h]

def Wh.spec_l1In (xs : (Int) × (Int) × (Int)) : Option (((Bool)) × (Unit)) :=
  let n_0 : Int := Prod.fst xs
  let low_1 : Int := Prod.fst (Prod.snd xs)
  let high_2 : Int := Prod.snd (Prod.snd xs)
  let v_3 : Bool := Decidable.decide (n_0 ≥ low_1)
  let v_5 : Bool := bif v_3 then Decidable.decide (n_0 ≤ high_2) else Bool.false
  some (v_5, ())
def Wh.spec_l1In' (xs : (Int) × (Int) × (Int)) : ((Bool)) × (Unit) := match Wh.spec_l1In xs with | some y => y | none => default
theorem Wh.spec_l1In_v (x : (Int) × (Int) × (Int)) (y : ((Bool)) × (Unit)) (h : Wh.spec_l1In x = some y) : Wh.spec_l1In' x = y := by unfold Wh.spec_l1In'; rw [h]

def Wh.spec_ClientNew (xs : (Int)) : Option ((((Int) × ((Int) × ((Int) × ((List UInt8) × ((Int) × ((((Int) × ((Int) × ((List (Int)) × ((List (Int)) × (Unit))))) × (((Int) × ((Int) × ((List (tImplEq.D)) × (Unit)))) × (Unit))) × (Unit)))))))) × (Unit)) :=
  let id_0 : Int := xs
  let v_1 : Bool := Prod.fst (Wh.spec_l1In' (id_0, (0 : Int), (3 : Int)))
  bif allB [Go.Ab.isSm (Wh.spec_l1In (id_0, (0 : Int), (3 : Int)))] then
    bif !v_1 then
      some (((0 : Int), (0 : Int), (0 : Int), [], (0 : Int), (((0 : Int), (0 : Int), [], [], ()), ((0 : Int), (0 : Int), [], ()), ()), ()), ())
    else
      some ((id_0, (0 : Int), (0 : Int), [], (0 : Int), (((0 : Int), (0 : Int), [], [], ()), ((0 : Int), (0 : Int), [], ()), ()), ()), ())
  else none
def Wh.spec_ClientNew' (xs : (Int)) : (((Int) × ((Int) × ((Int) × ((List UInt8) × ((Int) × ((((Int) × ((Int) × ((List (Int)) × ((List (Int)) × (Unit))))) × (((Int) × ((Int) × ((List (tImplEq.D)) × (Unit)))) × (Unit))) × (Unit)))))))) × (Unit) := match Wh.spec_ClientNew xs with | some y => y | none => default
theorem Wh.spec_ClientNew_v (x : (Int)) (y : (((Int) × ((Int) × ((Int) × ((List UInt8) × ((Int) × ((((Int) × ((Int) × ((List (Int)) × ((List (Int)) × (Unit))))) × (((Int) × ((Int) × ((List (tImplEq.D)) × (Unit)))) × (Unit))) × (Unit)))))))) × (Unit)) (h : Wh.spec_ClientNew x = some y) : Wh.spec_ClientNew' x = y := by unfold Wh.spec_ClientNew'; rw [h]

def Wh.spec_WorldNew_l0 (x : ((Int) × (Unit) × (Unit)) × ((((Bool) × ((Int) × ((List UInt8) × (((Int) × ((Unit) × (Unit))) × (((Unit) × ((Int) × (Unit))) × ((Unit) × ((Unit) × (Unit)))))))) × ((Unit) × ((Unit) × ((Unit) × (Unit))))) × (((Bool) × ((Int) × ((List UInt8) × (((Int) × ((Unit) × (Unit))) × (((Unit) × ((Int) × (Unit))) × ((Unit) × ((Unit) × (Unit)))))))) × ((Unit) × ((Unit) × ((Unit) × (Unit))))) × (List (tImplItem.D)) × (List (tImplFrame.D)) × (List (tImplBucket.D)) × (List (tImplServe.D)) × (List (tImplClient.D)) × (List (tImplPacket.D)) × (List (tImplItem.D)) × (List (tImplItem.D)) × (List (tImplFrame.D)) × (List (tImplBucket.D)) × (List (tImplServe.D)) × (List (tImplClient.D)) × (List (tImplPacket.D)) × (List (tImplItem.D)))) : Option ((((Int) × (Unit) × (Unit)) × ((((Bool) × ((Int) × ((List UInt8) × (((Int) × ((Unit) × (Unit))) × (((Unit) × ((Int) × (Unit))) × ((Unit) × ((Unit) × (Unit)))))))) × ((Unit) × ((Unit) × ((Unit) × (Unit))))) × (((Bool) × ((Int) × ((List UInt8) × (((Int) × ((Unit) × (Unit))) × (((Unit) × ((Int) × (Unit))) × ((Unit) × ((Unit) × (Unit)))))))) × ((Unit) × ((Unit) × ((Unit) × (Unit))))) × (List (tImplItem.D)) × (List (tImplFrame.D)) × (List (tImplBucket.D)) × (List (tImplServe.D)) × (List (tImplClient.D)) × (List (tImplPacket.D)) × (List (tImplItem.D)) × (List (tImplItem.D)) × (List (tImplFrame.D)) × (List (tImplBucket.D)) × (List (tImplServe.D)) × (List (tImplClient.D)) × (List (tImplPacket.D)) × (List (tImplItem.D)))) ⊕ ((((Unit) × (Unit)) × ((((Bool) × ((Int) × ((List UInt8) × (((Int) × ((Unit) × (Unit))) × (((Unit) × ((Int) × (Unit))) × ((Unit) × ((Unit) × (Unit)))))))) × ((Unit) × ((Unit) × ((Unit) × (Unit))))) × (((Bool) × ((Int) × ((List UInt8) × (((Int) × ((Unit) × (Unit))) × (((Unit) × ((Int) × (Unit))) × ((Unit) × ((Unit) × (Unit)))))))) × ((Unit) × ((Unit) × ((Unit) × (Unit))))) × (List (tImplItem.D)) × (List (tImplFrame.D)) × (List (tImplBucket.D)) × (List (tImplServe.D)) × (List (tImplClient.D)) × (List (tImplPacket.D)) × (List (tImplItem.D)) × (List (tImplItem.D)) × (List (tImplFrame.D)) × (List (tImplBucket.D)) × (List (tImplServe.D)) × (List (tImplClient.D)) × (List (tImplPacket.D)) × (List (tImplItem.D)))))) :=
  let i_62 : Int := Prod.fst (Prod.fst x)
  let ls_63 : Bool := Prod.fst (Prod.fst (Prod.fst (Prod.snd x)))
  let ls_64 : Int := Prod.fst (Prod.snd (Prod.fst (Prod.fst (Prod.snd x))))
  let ls_65 : List UInt8 := Prod.fst (Prod.snd (Prod.snd (Prod.fst (Prod.fst (Prod.snd x)))))
  let ls_66 : Int := Prod.fst (Prod.fst (Prod.snd (Prod.snd (Prod.snd (Prod.fst (Prod.fst (Prod.snd x)))))))
  let ls_67 : PUnit := Prod.snd (Prod.snd (Prod.fst (Prod.snd (Prod.snd (Prod.snd (Prod.fst (Prod.fst (Prod.snd x))))))))
  let ls_68 : Int × PUnit := Prod.snd (Prod.fst (Prod.snd (Prod.snd (Prod.snd (Prod.snd (Prod.fst (Prod.fst (Prod.snd x))))))))
  let ls_69 : PUnit := Prod.snd (Prod.snd (Prod.snd (Prod.snd (Prod.snd (Prod.snd (Prod.snd (Prod.fst (Prod.fst (Prod.snd x)))))))))
  let ls_70 : PUnit := Prod.snd (Prod.snd (Prod.snd (Prod.snd (Prod.fst (Prod.snd x)))))
  let ls_71 : Bool := Prod.fst (Prod.fst (Prod.fst (Prod.snd (Prod.snd x))))
  let ls_72 : Int := Prod.fst (Prod.snd (Prod.fst (Prod.fst (Prod.snd (Prod.snd x)))))
  let ls_73 : List UInt8 := Prod.fst (Prod.snd (Prod.snd (Prod.fst (Prod.fst (Prod.snd (Prod.snd x))))))
  let ls_74 : Int := Prod.fst (Prod.fst (Prod.snd (Prod.snd (Prod.snd (Prod.fst (Prod.fst (Prod.snd (Prod.snd x))))))))
  let ls_75 : PUnit := Prod.snd (Prod.snd (Prod.fst (Prod.snd (Prod.snd (Prod.snd (Prod.fst (Prod.fst (Prod.snd (Prod.snd x)))))))))
  let ls_76 : Int := Prod.fst (Prod.snd (Prod.fst (Prod.snd (Prod.snd (Prod.snd (Prod.snd (Prod.fst (Prod.fst (Prod.snd (Prod.snd x))))))))))
  let ls_77 : PUnit := Prod.snd (Prod.snd (Prod.fst (Prod.snd (Prod.snd (Prod.snd (Prod.snd (Prod.fst (Prod.fst (Prod.snd (Prod.snd x))))))))))
  let ls_78 : PUnit := Prod.snd (Prod.snd (Prod.snd (Prod.snd (Prod.snd (Prod.snd (Prod.snd (Prod.fst (Prod.fst (Prod.snd (Prod.snd x))))))))))
  let ls_79 : PUnit := Prod.snd (Prod.snd (Prod.snd (Prod.snd (Prod.fst (Prod.snd (Prod.snd x))))))
  let ls_80 : List (tImplItem.D) := Prod.fst (Prod.snd (Prod.snd (Prod.snd x)))
  let ls_81 : List (tImplFrame.D) := Prod.fst (Prod.snd (Prod.snd (Prod.snd (Prod.snd x))))
  let ls_82 : List (tImplBucket.D) := Prod.fst (Prod.snd (Prod.snd (Prod.snd (Prod.snd (Prod.snd x)))))
  let ls_83 : List (tImplServe.D) := Prod.fst (Prod.snd (Prod.snd (Prod.snd (Prod.snd (Prod.snd (Prod.snd x))))))
  let ls_84 : List (tImplClient.D) := Prod.fst (Prod.snd (Prod.snd (Prod.snd (Prod.snd (Prod.snd (Prod.snd (Prod.snd x)))))))
  let ls_85 : List (tImplPacket.D) := Prod.fst (Prod.snd (Prod.snd (Prod.snd (Prod.snd (Prod.snd (Prod.snd (Prod.snd (Prod.snd x))))))))
  let ls_86 : List (tImplItem.D) := Prod.fst (Prod.snd (Prod.snd (Prod.snd (Prod.snd (Prod.snd (Prod.snd (Prod.snd (Prod.snd (Prod.snd x)))))))))
  let ls_87 : List (tImplItem.D) := Prod.fst (Prod.snd (Prod.snd (Prod.snd (Prod.snd (Prod.snd (Prod.snd (Prod.snd (Prod.snd (Prod.snd (Prod.snd x))))))))))
  let ls_88 : List (tImplFrame.D) := Prod.fst (Prod.snd (Prod.snd (Prod.snd (Prod.snd (Prod.snd (Prod.snd (Prod.snd (Prod.snd (Prod.snd (Prod.snd (Prod.snd x)))))))))))
  let ls_89 : List (tImplBucket.D) := Prod.fst (Prod.snd (Prod.snd (Prod.snd (Prod.snd (Prod.snd (Prod.snd (Prod.snd (Prod.snd (Prod.snd (Prod.snd (Prod.snd (Prod.snd x))))))))))))
  let ls_90 : List (tImplServe.D) := Prod.fst (Prod.snd (Prod.snd (Prod.snd (Prod.snd (Prod.snd (Prod.snd (Prod.snd (Prod.snd (Prod.snd (Prod.snd (Prod.snd (Prod.snd (Prod.snd x)))))))))))))
  let ls_91 : List (tImplClient.D) := Prod.fst (Prod.snd (Prod.snd (Prod.snd (Prod.snd (Prod.snd (Prod.snd (Prod.snd (Prod.snd (Prod.snd (Prod.snd (Prod.snd (Prod.snd (Prod.snd (Prod.snd x))))))))))))))
  let ls_92 : List (tImplPacket.D) := Prod.fst (Prod.snd (Prod.snd (Prod.snd (Prod.snd (Prod.snd (Prod.snd (Prod.snd (Prod.snd (Prod.snd (Prod.snd (Prod.snd (Prod.snd (Prod.snd (Prod.snd (Prod.snd x)))))))))))))))
  let ls_93 : List (tImplItem.D) := Prod.snd (Prod.snd (Prod.snd (Prod.snd (Prod.snd (Prod.snd (Prod.snd (Prod.snd (Prod.snd (Prod.snd (Prod.snd (Prod.snd (Prod.snd (Prod.snd (Prod.snd (Prod.snd x)))))))))))))))
  let v_94 : Bool := Decidable.decide (i_62 < (4 : Int))
  bif v_94 then
    let pb_95 : List (tImplEq.D) := Prod.fst (Prod.snd (Prod.snd (Prod.fst (Prod.snd (Prod.fst (Prod.snd (Prod.snd (Prod.snd (Prod.snd (Prod.snd (Prod.fst (Wh.spec_ClientNew' i_62))))))))))))
    let pb_96 : List Int := Prod.fst (Prod.snd (Prod.snd (Prod.snd (Prod.fst (Prod.fst (Prod.snd (Prod.snd (Prod.snd (Prod.snd (Prod.snd (Prod.fst (Wh.spec_ClientNew' i_62))))))))))))
    let pb_97 : List Int := Prod.fst (Prod.snd (Prod.snd (Prod.fst (Prod.fst (Prod.snd (Prod.snd (Prod.snd (Prod.snd (Prod.snd (Prod.fst (Wh.spec_ClientNew' i_62)))))))))))
    let ls_99 : List (tImplClient.D) := ls_84 ++ [(Prod.fst (Prod.fst (Wh.spec_ClientNew' i_62)), Prod.fst (Prod.snd (Prod.fst (Wh.spec_ClientNew' i_62))), Prod.fst (Prod.snd (Prod.snd (Prod.fst (Wh.spec_ClientNew' i_62)))), Prod.fst (Prod.snd (Prod.snd (Prod.snd (Prod.fst (Wh.spec_ClientNew' i_62))))), Prod.fst (Prod.snd (Prod.snd (Prod.snd (Prod.snd (Prod.fst (Wh.spec_ClientNew' i_62)))))), ((Prod.fst (Prod.fst (Prod.fst (Prod.snd (Prod.snd (Prod.snd (Prod.snd (Prod.snd (Prod.fst (Wh.spec_ClientNew' i_62))))))))), Prod.fst (Prod.snd (Prod.fst (Prod.fst (Prod.snd (Prod.snd (Prod.snd (Prod.snd (Prod.snd (Prod.fst (Wh.spec_ClientNew' i_62)))))))))), pb_97, pb_96, Prod.snd (Prod.snd (Prod.snd (Prod.snd (Prod.fst (Prod.fst (Prod.snd (Prod.snd (Prod.snd (Prod.snd (Prod.snd (Prod.fst (Wh.spec_ClientNew' i_62))))))))))))), (Prod.fst (Prod.fst (Prod.snd (Prod.fst (Prod.snd (Prod.snd (Prod.snd (Prod.snd (Prod.snd (Prod.fst (Wh.spec_ClientNew' i_62)))))))))), Prod.fst (Prod.snd (Prod.fst (Prod.snd (Prod.fst (Prod.snd (Prod.snd (Prod.snd (Prod.snd (Prod.snd (Prod.fst (Wh.spec_ClientNew' i_62))))))))))), pb_95, Prod.snd (Prod.snd (Prod.snd (Prod.fst (Prod.snd (Prod.fst (Prod.snd (Prod.snd (Prod.snd (Prod.snd (Prod.snd (Prod.fst (Wh.spec_ClientNew' i_62))))))))))))), Prod.snd (Prod.snd (Prod.fst (Prod.snd (Prod.snd (Prod.snd (Prod.snd (Prod.snd (Prod.fst (Wh.spec_ClientNew' i_62)))))))))), Prod.snd (Prod.snd (Prod.snd (Prod.snd (Prod.snd (Prod.snd (Prod.fst (Wh.spec_ClientNew' i_62))))))))]
    bif allB [Decidable.decide (List.length ls_84 + (1 : Nat) ≤ Go.Ab.maxRows), Go.Ab.isSm (Wh.spec_ClientNew i_62)] then
      let v_113 : Int := Go.IntKind.wrap Go.IntKind.i64 (i_62 + (1 : Int))
      some (.inl ((v_113, (), ()), ((ls_63, ls_64, ls_65, (ls_66, (), ls_67), ((), ls_68), (), (), ls_69), (), (), (), ls_70), ((ls_71, ls_72, ls_73, (ls_74, (), ls_75), ((), ls_76, ls_77), (), (), ls_78), (), (), (), ls_79), ls_80, ls_81, ls_82, ls_83, ls_99, ls_85, ls_86, ls_87, ls_88, ls_89, ls_90, ls_91, ls_92, ls_93))
    else none
  else
    some (.inr (((), ()), ((ls_71, ls_72, ls_73, (ls_74, (), ls_75), ((), ls_76, ls_77), (), (), ls_78), (), (), (), ls_79), ((ls_63, ls_64, ls_65, (ls_66, (), ls_67), ((), ls_68), (), (), ls_69), (), (), (), ls_70), ls_87, ls_88, ls_89, ls_90, ls_91, ls_92, ls_93, ls_80, ls_81, ls_82, ls_83, ls_84, ls_85, ls_86))
def Wh.spec_WorldNew_l0_y : (((Unit) × (Unit)) × ((((Bool) × ((Int) × ((List UInt8) × (((Int) × ((Unit) × (Unit))) × (((Unit) × ((Int) × (Unit))) × ((Unit) × ((Unit) × (Unit)))))))) × ((Unit) × ((Unit) × ((Unit) × (Unit))))) × (((Bool) × ((Int) × ((List UInt8) × (((Int) × ((Unit) × (Unit))) × (((Unit) × ((Int) × (Unit))) × ((Unit) × ((Unit) × (Unit)))))))) × ((Unit) × ((Unit) × ((Unit) × (Unit))))) × (List (tImplItem.D)) × (List (tImplFrame.D)) × (List (tImplBucket.D)) × (List (tImplServe.D)) × (List (tImplClient.D)) × (List (tImplPacket.D)) × (List (tImplItem.D)) × (List (tImplItem.D)) × (List (tImplFrame.D)) × (List (tImplBucket.D)) × (List (tImplServe.D)) × (List (tImplClient.D)) × (List (tImplPacket.D)) × (List (tImplItem.D)))) := default
def Wh.spec_WorldNew (xs : Unit) : Option (((((Bool) × ((Int) × ((List UInt8) × (((Int) × ((List (tImplItem.D)) × (Unit))) × (((List (tImplFrame.D)) × ((Int) × (Unit))) × ((List (tImplBucket.D)) × ((List (tImplServe.D)) × (Unit)))))))) × ((List (tImplClient.D)) × ((List (tImplPacket.D)) × ((List (tImplItem.D)) × (Unit)))))) × (Unit)) :=
  let pb_0 : List (tImplServe.D) := Prod.fst (Prod.snd (Prod.snd (Prod.snd (Prod.snd (Prod.snd (Prod.snd (Prod.fst (Wh.spec_ServerNew' ()))))))))
  let pb_1 : List (tImplBucket.D) := Prod.fst (Prod.snd (Prod.snd (Prod.snd (Prod.snd (Prod.snd (Prod.fst (Wh.spec_ServerNew' ())))))))
  let pb_2 : List (tImplFrame.D) := Prod.fst (Prod.fst (Prod.snd (Prod.snd (Prod.snd (Prod.snd (Prod.fst (Wh.spec_ServerNew' ())))))))
  let pb_3 : List (tImplItem.D) := Prod.fst (Prod.snd (Prod.fst (Prod.snd (Prod.snd (Prod.snd (Prod.fst (Wh.spec_ServerNew' ())))))))
  let pb_4 : PUnit := Prod.snd (Prod.snd (Prod.snd (Prod.snd (Prod.snd (Prod.snd (Prod.snd (Prod.fst (Wh.spec_ServerNew' ()))))))))
  let pb_5 : Int × PUnit := Prod.snd (Prod.fst (Prod.snd (Prod.snd (Prod.snd (Prod.snd (Prod.fst (Wh.spec_ServerNew' ())))))))
  let pb_6 : PUnit := Prod.snd (Prod.snd (Prod.fst (Prod.snd (Prod.snd (Prod.snd (Prod.fst (Wh.spec_ServerNew' ())))))))
  let pb_7 : Int := Prod.fst (Prod.fst (Prod.snd (Prod.snd (Prod.snd (Prod.fst (Wh.spec_ServerNew' ()))))))
  let pb_8 : List UInt8 := Prod.fst (Prod.snd (Prod.snd (Prod.fst (Wh.spec_ServerNew' ()))))
  let pb_9 : Int := Prod.fst (Prod.snd (Prod.fst (Wh.spec_ServerNew' ())))
  bif allB [Option.rec ((fun (_ : Unit) => Bool.false) ()) (fun (val : (Bool × Int × List UInt8 × (Int × List (Int × List UInt8 × Int × List UInt8 × Unit) × Unit) × (List (Int × Int × Int × Int × Bool × Unit) × Int × Unit) × List (Int × Int × Int × Int × Unit) × List (Int × Int × Int × Int × Int × Int × Unit) × Unit) × Unit) => (fun (val : (Bool × Int × List UInt8 × (Int × List (Int × List UInt8 × Int × List UInt8 × Unit) × Unit) × (List (Int × Int × Int × Int × Bool × Unit) × Int × Unit) × List (Int × Int × Int × Int × Unit) × List (Int × Int × Int × Int × Int × Int × Unit) × Unit) × Unit) => (fun (val : (Bool × Int × List UInt8 × (Int × List (Int × List UInt8 × Int × List UInt8 × Unit) × Unit) × (List (Int × Int × Int × Int × Bool × Unit) × Int × Unit) × List (Int × Int × Int × Int × Unit) × List (Int × Int × Int × Int × Int × Int × Unit) × Unit) × Unit) => Bool.true) val) val) (Wh.spec_ServerNew ())] then
    let x_114 : ((Int) × (Unit) × (Unit)) × ((((Bool) × ((Int) × ((List UInt8) × (((Int) × ((Unit) × (Unit))) × (((Unit) × ((Int) × (Unit))) × ((Unit) × ((Unit) × (Unit)))))))) × ((Unit) × ((Unit) × ((Unit) × (Unit))))) × (((Bool) × ((Int) × ((List UInt8) × (((Int) × ((Unit) × (Unit))) × (((Unit) × ((Int) × (Unit))) × ((Unit) × ((Unit) × (Unit)))))))) × ((Unit) × ((Unit) × ((Unit) × (Unit))))) × (List (tImplItem.D)) × (List (tImplFrame.D)) × (List (tImplBucket.D)) × (List (tImplServe.D)) × (List (tImplClient.D)) × (List (tImplPacket.D)) × (List (tImplItem.D)) × (List (tImplItem.D)) × (List (tImplFrame.D)) × (List (tImplBucket.D)) × (List (tImplServe.D)) × (List (tImplClient.D)) × (List (tImplPacket.D)) × (List (tImplItem.D))) := (((0 : Int), (), ()), ((Prod.fst (Prod.fst (Wh.spec_ServerNew' ())), pb_9, pb_8, (pb_7, (), pb_6), ((), pb_5), (), (), pb_4), (), (), (), ()), ((Bool.false, (0 : Int), [], ((0 : Int), (), ()), ((), (0 : Int), ()), (), (), ()), (), (), (), ()), pb_3, pb_2, pb_1, pb_0, [], [], [], [], [], [], [], [], [], [])
    bif comesB Wh.spec_WorldNew_l0 x_114 then
      let y_115 := comesV Wh.spec_WorldNew_l0 Wh.spec_WorldNew_l0_y x_114
      let ls_125 : Bool := Prod.fst (Prod.fst (Prod.fst (Prod.snd (Prod.snd y_115))))
      let ls_126 : Int := Prod.fst (Prod.snd (Prod.fst (Prod.fst (Prod.snd (Prod.snd y_115)))))
      let ls_127 : List UInt8 := Prod.fst (Prod.snd (Prod.snd (Prod.fst (Prod.fst (Prod.snd (Prod.snd y_115))))))
      let ls_128 : Int := Prod.fst (Prod.fst (Prod.snd (Prod.snd (Prod.snd (Prod.fst (Prod.fst (Prod.snd (Prod.snd y_115))))))))
      let ls_129 : PUnit := Prod.snd (Prod.snd (Prod.fst (Prod.snd (Prod.snd (Prod.snd (Prod.fst (Prod.fst (Prod.snd (Prod.snd y_115)))))))))
      let ls_130 : Int × PUnit := Prod.snd (Prod.fst (Prod.snd (Prod.snd (Prod.snd (Prod.snd (Prod.fst (Prod.fst (Prod.snd (Prod.snd y_115)))))))))
      let ls_131 : PUnit := Prod.snd (Prod.snd (Prod.snd (Prod.snd (Prod.snd (Prod.snd (Prod.snd (Prod.fst (Prod.fst (Prod.snd (Prod.snd y_115))))))))))
      let ls_132 : PUnit := Prod.snd (Prod.snd (Prod.snd (Prod.snd (Prod.fst (Prod.snd (Prod.snd y_115))))))
      let ls_140 : List (tImplItem.D) := Prod.fst (Prod.snd (Prod.snd (Prod.snd (Prod.snd (Prod.snd (Prod.snd (Prod.snd (Prod.snd (Prod.snd (Prod.snd y_115))))))))))
      let ls_141 : List (tImplFrame.D) := Prod.fst (Prod.snd (Prod.snd (Prod.snd (Prod.snd (Prod.snd (Prod.snd (Prod.snd (Prod.snd (Prod.snd (Prod.snd (Prod.snd y_115)))))))))))
      let ls_142 : List (tImplBucket.D) := Prod.fst (Prod.snd (Prod.snd (Prod.snd (Prod.snd (Prod.snd (Prod.snd (Prod.snd (Prod.snd (Prod.snd (Prod.snd (Prod.snd (Prod.snd y_115))))))))))))
      let ls_143 : List (tImplServe.D) := Prod.fst (Prod.snd (Prod.snd (Prod.snd (Prod.snd (Prod.snd (Prod.snd (Prod.snd (Prod.snd (Prod.snd (Prod.snd (Prod.snd (Prod.snd (Prod.snd y_115)))))))))))))
      let ls_144 : List (tImplClient.D) := Prod.fst (Prod.snd (Prod.snd (Prod.snd (Prod.snd (Prod.snd (Prod.snd (Prod.snd (Prod.snd (Prod.snd (Prod.snd (Prod.snd (Prod.snd (Prod.snd (Prod.snd y_115))))))))))))))
      let ls_145 : List (tImplPacket.D) := Prod.fst (Prod.snd (Prod.snd (Prod.snd (Prod.snd (Prod.snd (Prod.snd (Prod.snd (Prod.snd (Prod.snd (Prod.snd (Prod.snd (Prod.snd (Prod.snd (Prod.snd (Prod.snd y_115)))))))))))))))
      let ls_146 : List (tImplItem.D) := Prod.snd (Prod.snd (Prod.snd (Prod.snd (Prod.snd (Prod.snd (Prod.snd (Prod.snd (Prod.snd (Prod.snd (Prod.snd (Prod.snd (Prod.snd (Prod.snd (Prod.snd (Prod.snd y_115)))))))))))))))
      some (((ls_125, ls_126, ls_127, (ls_128, ls_140, ls_129), (ls_141, ls_130), ls_142, ls_143, ls_131), ls_144, ls_145, ls_146, ls_132), ())
    else none
  else none
def Wh.spec_WorldNew' (xs : Unit) : ((((Bool) × ((Int) × ((List UInt8) × (((Int) × ((List (tImplItem.D)) × (Unit))) × (((List (tImplFrame.D)) × ((Int) × (Unit))) × ((List (tImplBucket.D)) × ((List (tImplServe.D)) × (Unit)))))))) × ((List (tImplClient.D)) × ((List (tImplPacket.D)) × ((List (tImplItem.D)) × (Unit)))))) × (Unit) := match Wh.spec_WorldNew xs with | some y => y | none => default
theorem Wh.spec_WorldNew_v (x : Unit) (y : ((((Bool) × ((Int) × ((List UInt8) × (((Int) × ((List (tImplItem.D)) × (Unit))) × (((List (tImplFrame.D)) × ((Int) × (Unit))) × ((List (tImplBucket.D)) × ((List (tImplServe.D)) × (Unit)))))))) × ((List (tImplClient.D)) × ((List (tImplPacket.D)) × ((List (tImplItem.D)) × (Unit)))))) × (Unit)) (h : Wh.spec_WorldNew x = some y) : Wh.spec_WorldNew' x = y := by unfold Wh.spec_WorldNew'; rw [h]

def Wh.impl_poolNew (xs : Unit) : Option ((((List (tImplFrame.D)) × ((Int) × (Unit)))) × (Unit)) :=
  let pb_0 : List (tImplFrame.D) := [((0 : Int), (0 : Int), (0 : Int), (0 : Int), Bool.false, ()), ((0 : Int), (0 : Int), (0 : Int), (0 : Int), Bool.false, ()), ((0 : Int), (0 : Int), (0 : Int), (0 : Int), Bool.false, ()), ((0 : Int), (0 : Int), (0 : Int), (0 : Int), Bool.false, ()), ((0 : Int), (0 : Int), (0 : Int), (0 : Int), Bool.false, ()), ((0 : Int), (0 : Int), (0 : Int), (0 : Int), Bool.false, ()), ((0 : Int), (0 : Int), (0 : Int), (0 : Int), Bool.false, ()), ((0 : Int), (0 : Int), (0 : Int), (0 : Int), Bool.false, ())]
  some ((pb_0, (0 : Int), ()), ())
def Wh.impl_poolNew' (xs : Unit) : (((List (tImplFrame.D)) × ((Int) × (Unit)))) × (Unit) := match Wh.impl_poolNew xs with | some y => y | none => default
theorem Wh.impl_poolNew_v (x : Unit) (y : (((List (tImplFrame.D)) × ((Int) × (Unit)))) × (Unit)) (h : Wh.impl_poolNew x = some y) : Wh.impl_poolNew' x = y := by unfold Wh.impl_poolNew'; rw [h]

def Wh.impl_risen_l0 (x : ((Int) × (Unit) × (Int) × (Unit)) × (((Bool) × ((Int) × ((List UInt8) × (((Int) × ((Unit) × (Unit))) × (((Unit) × ((Int) × (Unit))) × ((Unit) × ((Unit) × (Unit)))))))) × ((Bool) × ((Int) × ((List UInt8) × (((Int) × ((Unit) × (Unit))) × (((Unit) × ((Int) × (Unit))) × ((Unit) × ((Unit) × (Unit)))))))) × (List (tImplItem.D)) × (List (tImplFrame.D)) × (List (tImplBucket.D)) × (List (tImplServe.D)) × (List (tImplItem.D)) × (List (tImplFrame.D)) × (List (tImplBucket.D)) × (List (tImplServe.D)))) : Option ((((Int) × (Unit) × (Int) × (Unit)) × (((Bool) × ((Int) × ((List UInt8) × (((Int) × ((Unit) × (Unit))) × (((Unit) × ((Int) × (Unit))) × ((Unit) × ((Unit) × (Unit)))))))) × ((Bool) × ((Int) × ((List UInt8) × (((Int) × ((Unit) × (Unit))) × (((Unit) × ((Int) × (Unit))) × ((Unit) × ((Unit) × (Unit)))))))) × (List (tImplItem.D)) × (List (tImplFrame.D)) × (List (tImplBucket.D)) × (List (tImplServe.D)) × (List (tImplItem.D)) × (List (tImplFrame.D)) × (List (tImplBucket.D)) × (List (tImplServe.D)))) ⊕ ((((Unit) × (Unit)) × (((Bool) × ((Int) × ((List UInt8) × (((Int) × ((Unit) × (Unit))) × (((Unit) × ((Int) × (Unit))) × ((Unit) × ((Unit) × (Unit)))))))) × ((Bool) × ((Int) × ((List UInt8) × (((Int) × ((Unit) × (Unit))) × (((Unit) × ((Int) × (Unit))) × ((Unit) × ((Unit) × (Unit)))))))) × (List (tImplItem.D)) × (List (tImplFrame.D)) × (List (tImplBucket.D)) × (List (tImplServe.D)) × (List (tImplItem.D)) × (List (tImplFrame.D)) × (List (tImplBucket.D)) × (List (tImplServe.D)))))) :=
  let v_32 : Int := Prod.fst (Prod.fst x)
  let now_33 : Int := Prod.fst (Prod.snd (Prod.snd (Prod.fst x)))
  let ls_34 : Bool := Prod.fst (Prod.fst (Prod.snd x))
  let ls_35 : Int := Prod.fst (Prod.snd (Prod.fst (Prod.snd x)))
  let ls_36 : List UInt8 := Prod.fst (Prod.snd (Prod.snd (Prod.fst (Prod.snd x))))
  let ls_37 : Int := Prod.fst (Prod.fst (Prod.snd (Prod.snd (Prod.snd (Prod.fst (Prod.snd x))))))
  let ls_38 : PUnit := Prod.snd (Prod.snd (Prod.fst (Prod.snd (Prod.snd (Prod.snd (Prod.fst (Prod.snd x)))))))
  let ls_39 : Int × PUnit := Prod.snd (Prod.fst (Prod.snd (Prod.snd (Prod.snd (Prod.snd (Prod.fst (Prod.snd x)))))))
  let ls_40 : PUnit := Prod.snd (Prod.snd (Prod.snd (Prod.snd (Prod.snd (Prod.snd (Prod.snd (Prod.fst (Prod.snd x))))))))
  let ls_41 : Bool := Prod.fst (Prod.fst (Prod.snd (Prod.snd x)))
  let ls_42 : Int := Prod.fst (Prod.snd (Prod.fst (Prod.snd (Prod.snd x))))
  let ls_43 : List UInt8 := Prod.fst (Prod.snd (Prod.snd (Prod.fst (Prod.snd (Prod.snd x)))))
  let ls_44 : Int := Prod.fst (Prod.fst (Prod.snd (Prod.snd (Prod.snd (Prod.fst (Prod.snd (Prod.snd x)))))))
  let ls_45 : PUnit := Prod.snd (Prod.snd (Prod.fst (Prod.snd (Prod.snd (Prod.snd (Prod.fst (Prod.snd (Prod.snd x))))))))
  let ls_46 : Int := Prod.fst (Prod.snd (Prod.fst (Prod.snd (Prod.snd (Prod.snd (Prod.snd (Prod.fst (Prod.snd (Prod.snd x)))))))))
  let ls_47 : PUnit := Prod.snd (Prod.snd (Prod.fst (Prod.snd (Prod.snd (Prod.snd (Prod.snd (Prod.fst (Prod.snd (Prod.snd x)))))))))
  let ls_48 : PUnit := Prod.snd (Prod.snd (Prod.snd (Prod.snd (Prod.snd (Prod.snd (Prod.snd (Prod.fst (Prod.snd (Prod.snd x)))))))))
  let ls_49 : List (tImplItem.D) := Prod.fst (Prod.snd (Prod.snd (Prod.snd x)))
  let ls_50 : List (tImplFrame.D) := Prod.fst (Prod.snd (Prod.snd (Prod.snd (Prod.snd x))))
  let ls_51 : List (tImplBucket.D) := Prod.fst (Prod.snd (Prod.snd (Prod.snd (Prod.snd (Prod.snd x)))))
  let ls_52 : List (tImplServe.D) := Prod.fst (Prod.snd (Prod.snd (Prod.snd (Prod.snd (Prod.snd (Prod.snd x))))))
  let ls_53 : List (tImplItem.D) := Prod.fst (Prod.snd (Prod.snd (Prod.snd (Prod.snd (Prod.snd (Prod.snd (Prod.snd x)))))))
  let ls_54 : List (tImplFrame.D) := Prod.fst (Prod.snd (Prod.snd (Prod.snd (Prod.snd (Prod.snd (Prod.snd (Prod.snd (Prod.snd x))))))))
  let ls_55 : List (tImplBucket.D) := Prod.fst (Prod.snd (Prod.snd (Prod.snd (Prod.snd (Prod.snd (Prod.snd (Prod.snd (Prod.snd (Prod.snd x)))))))))
  let ls_56 : List (tImplServe.D) := Prod.snd (Prod.snd (Prod.snd (Prod.snd (Prod.snd (Prod.snd (Prod.snd (Prod.snd (Prod.snd (Prod.snd x)))))))))
  let v_57 : Bool := Decidable.decide (v_32 < (2 : Int))
  bif v_57 then
    let pb_58 : List (tImplBucket.D) := [((40 : Int), (40 : Int), (8 : Int), now_33, ())]
    let ls_59 : List (tImplBucket.D) := ls_51 ++ pb_58
    bif allB [Decidable.decide (List.length ls_51 + (1 : Nat) ≤ Go.Ab.maxRows)] then
      let v_60 : Int := Go.IntKind.wrap Go.IntKind.i64 (v_32 + (1 : Int))
      some (.inl ((v_60, (), now_33, ()), (ls_34, ls_35, ls_36, (ls_37, (), ls_38), ((), ls_39), (), (), ls_40), (ls_41, ls_42, ls_43, (ls_44, (), ls_45), ((), ls_46, ls_47), (), (), ls_48), ls_49, ls_50, ls_59, ls_52, ls_53, ls_54, ls_55, ls_56))
    else none
  else
    some (.inr (((), ()), (ls_41, ls_42, ls_43, (ls_44, (), ls_45), ((), ls_46, ls_47), (), (), ls_48), (ls_34, ls_35, ls_36, (ls_37, (), ls_38), ((), ls_39), (), (), ls_40), ls_53, ls_54, ls_55, ls_56, ls_49, ls_50, ls_51, ls_52))
def Wh.impl_risen_l0_y : (((Unit) × (Unit)) × (((Bool) × ((Int) × ((List UInt8) × (((Int) × ((Unit) × (Unit))) × (((Unit) × ((Int) × (Unit))) × ((Unit) × ((Unit) × (Unit)))))))) × ((Bool) × ((Int) × ((List UInt8) × (((Int) × ((Unit) × (Unit))) × (((Unit) × ((Int) × (Unit))) × ((Unit) × ((Unit) × (Unit)))))))) × (List (tImplItem.D)) × (List (tImplFrame.D)) × (List (tImplBucket.D)) × (List (tImplServe.D)) × (List (tImplItem.D)) × (List (tImplFrame.D)) × (List (tImplBucket.D)) × (List (tImplServe.D)))) := default
def Wh.impl_risen (xs : (Int) × (List UInt8) × ((Int) × ((List (tImplItem.D)) × (Unit)))) : Option ((((Bool) × ((Int) × ((List UInt8) × (((Int) × ((List (tImplItem.D)) × (Unit))) × (((List (tImplFrame.D)) × ((Int) × (Unit))) × ((List (tImplBucket.D)) × ((List (tImplServe.D)) × (Unit))))))))) × (Unit)) :=
  let now_0 : Int := Prod.fst xs
  let log_1 : List UInt8 := Prod.fst (Prod.snd xs)
  let c_2 : tImplCat.D := Prod.snd (Prod.snd xs)
  bif allB [Option.rec ((fun (_ : Unit) => Bool.false) ()) (fun (val : (List (Int × Int × Int × Int × Bool × Unit) × Int × Unit) × Unit) => (fun (val : (List (Int × Int × Int × Int × Bool × Unit) × Int × Unit) × Unit) => (fun (val : (List (Int × Int × Int × Int × Bool × Unit) × Int × Unit) × Unit) => Bool.true) val) val) (Wh.impl_poolNew ())] then
    let x_61 : ((Int) × (Unit) × (Int) × (Unit)) × (((Bool) × ((Int) × ((List UInt8) × (((Int) × ((Unit) × (Unit))) × (((Unit) × ((Int) × (Unit))) × ((Unit) × ((Unit) × (Unit)))))))) × ((Bool) × ((Int) × ((List UInt8) × (((Int) × ((Unit) × (Unit))) × (((Unit) × ((Int) × (Unit))) × ((Unit) × ((Unit) × (Unit)))))))) × (List (tImplItem.D)) × (List (tImplFrame.D)) × (List (tImplBucket.D)) × (List (tImplServe.D)) × (List (tImplItem.D)) × (List (tImplFrame.D)) × (List (tImplBucket.D)) × (List (tImplServe.D))) := (((0 : Int), (), now_0, ()), (Bool.true, now_0, log_1, (Prod.fst c_2, (), Prod.snd (Prod.snd c_2)), ((), Prod.snd (Prod.fst (Wh.impl_poolNew' ()))), (), (), ()), (Bool.false, (0 : Int), [], ((0 : Int), (), ()), ((), (0 : Int), ()), (), (), ()), Prod.fst (Prod.snd c_2), Prod.fst (Prod.fst (Wh.impl_poolNew' ())), [], [], [], [], [], [])
    bif comesB Wh.impl_risen_l0 x_61 then
      let y_62 := comesV Wh.impl_risen_l0 Wh.impl_risen_l0_y x_61
      let ls_71 : Bool := Prod.fst (Prod.fst (Prod.snd (Prod.snd y_62)))
      let ls_72 : Int := Prod.fst (Prod.snd (Prod.fst (Prod.snd (Prod.snd y_62))))
      let ls_73 : List UInt8 := Prod.fst (Prod.snd (Prod.snd (Prod.fst (Prod.snd (Prod.snd y_62)))))
      let ls_74 : Int := Prod.fst (Prod.fst (Prod.snd (Prod.snd (Prod.snd (Prod.fst (Prod.snd (Prod.snd y_62)))))))
      let ls_75 : PUnit := Prod.snd (Prod.snd (Prod.fst (Prod.snd (Prod.snd (Prod.snd (Prod.fst (Prod.snd (Prod.snd y_62))))))))
      let ls_76 : Int × PUnit := Prod.snd (Prod.fst (Prod.snd (Prod.snd (Prod.snd (Prod.snd (Prod.fst (Prod.snd (Prod.snd y_62))))))))
      let ls_77 : PUnit := Prod.snd (Prod.snd (Prod.snd (Prod.snd (Prod.snd (Prod.snd (Prod.snd (Prod.fst (Prod.snd (Prod.snd y_62)))))))))
      let ls_82 : List (tImplItem.D) := Prod.fst (Prod.snd (Prod.snd (Prod.snd (Prod.snd (Prod.snd (Prod.snd (Prod.snd y_62)))))))
      let ls_83 : List (tImplFrame.D) := Prod.fst (Prod.snd (Prod.snd (Prod.snd (Prod.snd (Prod.snd (Prod.snd (Prod.snd (Prod.snd y_62))))))))
      let ls_84 : List (tImplBucket.D) := Prod.fst (Prod.snd (Prod.snd (Prod.snd (Prod.snd (Prod.snd (Prod.snd (Prod.snd (Prod.snd (Prod.snd y_62)))))))))
      let ls_85 : List (tImplServe.D) := Prod.snd (Prod.snd (Prod.snd (Prod.snd (Prod.snd (Prod.snd (Prod.snd (Prod.snd (Prod.snd (Prod.snd y_62)))))))))
      some ((ls_71, ls_72, ls_73, (ls_74, ls_82, ls_75), (ls_83, ls_76), ls_84, ls_85, ls_77), ())
    else none
  else none
def Wh.impl_risen' (xs : (Int) × (List UInt8) × ((Int) × ((List (tImplItem.D)) × (Unit)))) : (((Bool) × ((Int) × ((List UInt8) × (((Int) × ((List (tImplItem.D)) × (Unit))) × (((List (tImplFrame.D)) × ((Int) × (Unit))) × ((List (tImplBucket.D)) × ((List (tImplServe.D)) × (Unit))))))))) × (Unit) := match Wh.impl_risen xs with | some y => y | none => default
theorem Wh.impl_risen_v (x : (Int) × (List UInt8) × ((Int) × ((List (tImplItem.D)) × (Unit)))) (y : (((Bool) × ((Int) × ((List UInt8) × (((Int) × ((List (tImplItem.D)) × (Unit))) × (((List (tImplFrame.D)) × ((Int) × (Unit))) × ((List (tImplBucket.D)) × ((List (tImplServe.D)) × (Unit))))))))) × (Unit)) (h : Wh.impl_risen x = some y) : Wh.impl_risen' x = y := by unfold Wh.impl_risen'; rw [h]

def Wh.impl_ServerNew (xs : Unit) : Option ((((Bool) × ((Int) × ((List UInt8) × (((Int) × ((List (tImplItem.D)) × (Unit))) × (((List (tImplFrame.D)) × ((Int) × (Unit))) × ((List (tImplBucket.D)) × ((List (tImplServe.D)) × (Unit))))))))) × (Unit)) :=
  let pb_0 : List (tImplServe.D) := Prod.fst (Prod.snd (Prod.snd (Prod.snd (Prod.snd (Prod.snd (Prod.snd (Prod.fst (Wh.impl_risen' ((0 : Int), [], (0 : Int), [], ())))))))))
  let pb_1 : List (tImplBucket.D) := Prod.fst (Prod.snd (Prod.snd (Prod.snd (Prod.snd (Prod.snd (Prod.fst (Wh.impl_risen' ((0 : Int), [], (0 : Int), [], ()))))))))
  let pb_2 : List (tImplFrame.D) := Prod.fst (Prod.fst (Prod.snd (Prod.snd (Prod.snd (Prod.snd (Prod.fst (Wh.impl_risen' ((0 : Int), [], (0 : Int), [], ()))))))))
  let pb_3 : List (tImplItem.D) := Prod.fst (Prod.snd (Prod.fst (Prod.snd (Prod.snd (Prod.snd (Prod.fst (Wh.impl_risen' ((0 : Int), [], (0 : Int), [], ()))))))))
  let pb_4 : PUnit := Prod.snd (Prod.snd (Prod.snd (Prod.snd (Prod.snd (Prod.snd (Prod.snd (Prod.fst (Wh.impl_risen' ((0 : Int), [], (0 : Int), [], ())))))))))
  let pb_5 : Int × PUnit := Prod.snd (Prod.fst (Prod.snd (Prod.snd (Prod.snd (Prod.snd (Prod.fst (Wh.impl_risen' ((0 : Int), [], (0 : Int), [], ()))))))))
  let pb_6 : PUnit := Prod.snd (Prod.snd (Prod.fst (Prod.snd (Prod.snd (Prod.snd (Prod.fst (Wh.impl_risen' ((0 : Int), [], (0 : Int), [], ()))))))))
  let pb_7 : Int := Prod.fst (Prod.fst (Prod.snd (Prod.snd (Prod.snd (Prod.fst (Wh.impl_risen' ((0 : Int), [], (0 : Int), [], ())))))))
  let pb_8 : List UInt8 := Prod.fst (Prod.snd (Prod.snd (Prod.fst (Wh.impl_risen' ((0 : Int), [], (0 : Int), [], ())))))
  let pb_9 : Int := Prod.fst (Prod.snd (Prod.fst (Wh.impl_risen' ((0 : Int), [], (0 : Int), [], ()))))
  let pb_10 : Bool := Prod.fst (Prod.fst (Wh.impl_risen' ((0 : Int), [], (0 : Int), [], ())))
  bif allB [Option.rec ((fun (_ : Unit) => Bool.false) ()) (fun (val : (Bool × Int × List UInt8 × (Int × List (Int × List UInt8 × Int × List UInt8 × Unit) × Unit) × (List (Int × Int × Int × Int × Bool × Unit) × Int × Unit) × List (Int × Int × Int × Int × Unit) × List (Int × Int × Int × Int × Int × Int × Unit) × Unit) × Unit) => (fun (val : (Bool × Int × List UInt8 × (Int × List (Int × List UInt8 × Int × List UInt8 × Unit) × Unit) × (List (Int × Int × Int × Int × Bool × Unit) × Int × Unit) × List (Int × Int × Int × Int × Unit) × List (Int × Int × Int × Int × Int × Int × Unit) × Unit) × Unit) => (fun (val : (Bool × Int × List UInt8 × (Int × List (Int × List UInt8 × Int × List UInt8 × Unit) × Unit) × (List (Int × Int × Int × Int × Bool × Unit) × Int × Unit) × List (Int × Int × Int × Int × Unit) × List (Int × Int × Int × Int × Int × Int × Unit) × Unit) × Unit) => Bool.true) val) val) (Wh.impl_risen ((0 : Int), [], (0 : Int), [], ()))] then
    some ((pb_10, pb_9, pb_8, (pb_7, pb_3, pb_6), (pb_2, pb_5), pb_1, pb_0, pb_4), ())
  else none
def Wh.impl_ServerNew' (xs : Unit) : (((Bool) × ((Int) × ((List UInt8) × (((Int) × ((List (tImplItem.D)) × (Unit))) × (((List (tImplFrame.D)) × ((Int) × (Unit))) × ((List (tImplBucket.D)) × ((List (tImplServe.D)) × (Unit))))))))) × (Unit) := match Wh.impl_ServerNew xs with | some y => y | none => default
theorem Wh.impl_ServerNew_v (x : Unit) (y : (((Bool) × ((Int) × ((List UInt8) × (((Int) × ((List (tImplItem.D)) × (Unit))) × (((List (tImplFrame.D)) × ((Int) × (Unit))) × ((List (tImplBucket.D)) × ((List (tImplServe.D)) × (Unit))))))))) × (Unit)) (h : Wh.impl_ServerNew x = some y) : Wh.impl_ServerNew' x = y := by unfold Wh.impl_ServerNew'; rw [h]

def Wh.impl_within (xs : (Int) × (Int) × (Int)) : Option (((Bool)) × (Unit)) :=
  let n_0 : Int := Prod.fst xs
  let low_1 : Int := Prod.fst (Prod.snd xs)
  let high_2 : Int := Prod.snd (Prod.snd xs)
  let v_3 : Bool := Decidable.decide (n_0 ≥ low_1)
  let v_5 : Bool := bif v_3 then Decidable.decide (n_0 ≤ high_2) else Bool.false
  some (v_5, ())
def Wh.impl_within' (xs : (Int) × (Int) × (Int)) : ((Bool)) × (Unit) := match Wh.impl_within xs with | some y => y | none => default
theorem Wh.impl_within_v (x : (Int) × (Int) × (Int)) (y : ((Bool)) × (Unit)) (h : Wh.impl_within x = some y) : Wh.impl_within' x = y := by unfold Wh.impl_within'; rw [h]

def Wh.impl_clientOf (xs : (Int)) : Option (((Bool)) × (Unit)) :=
  let n_0 : Int := xs
  let v_1 : Bool := Prod.fst (Wh.impl_within' (n_0, (0 : Int), (3 : Int)))
  bif allB [Go.Ab.isSm (Wh.impl_within (n_0, (0 : Int), (3 : Int)))] then
    some (v_1, ())
  else none
def Wh.impl_clientOf' (xs : (Int)) : ((Bool)) × (Unit) := match Wh.impl_clientOf xs with | some y => y | none => default
theorem Wh.impl_clientOf_v (x : (Int)) (y : ((Bool)) × (Unit)) (h : Wh.impl_clientOf x = some y) : Wh.impl_clientOf' x = y := by unfold Wh.impl_clientOf'; rw [h]

def Wh.impl_ClientNew (xs : (Int)) : Option (((tImplClient.D)) × (Unit)) :=
  let id_0 : Int := xs
  bif allB [Go.Ab.isSm (Wh.impl_clientOf id_0)] then
    bif !Prod.fst (Wh.impl_clientOf' id_0) then
      some (((0 : Int), (0 : Int), (0 : Int), [], (0 : Int), (((0 : Int), (0 : Int), [], [], ()), ((0 : Int), (0 : Int), [], ()), ()), ()), ())
    else
      some ((id_0, (0 : Int), (0 : Int), [], (0 : Int), (((0 : Int), (0 : Int), [], [], ()), ((0 : Int), (0 : Int), [], ()), ()), ()), ())
  else none
def Wh.impl_ClientNew' (xs : (Int)) : ((tImplClient.D)) × (Unit) := match Wh.impl_ClientNew xs with | some y => y | none => default
theorem Wh.impl_ClientNew_v (x : (Int)) (y : ((tImplClient.D)) × (Unit)) (h : Wh.impl_ClientNew x = some y) : Wh.impl_ClientNew' x = y := by unfold Wh.impl_ClientNew'; rw [h]

def Wh.impl_WorldNew_l0 (x : ((Int) × (Unit) × (Unit)) × ((((Bool) × ((Int) × ((List UInt8) × (((Int) × ((Unit) × (Unit))) × (((Unit) × ((Int) × (Unit))) × ((Unit) × ((Unit) × (Unit)))))))) × ((Unit) × ((Unit) × ((Unit) × (Unit))))) × (((Bool) × ((Int) × ((List UInt8) × (((Int) × ((Unit) × (Unit))) × (((Unit) × ((Int) × (Unit))) × ((Unit) × ((Unit) × (Unit)))))))) × ((Unit) × ((Unit) × ((Unit) × (Unit))))) × (List (tImplItem.D)) × (List (tImplFrame.D)) × (List (tImplBucket.D)) × (List (tImplServe.D)) × (List (tImplClient.D)) × (List (tImplPacket.D)) × (List (tImplItem.D)) × (List (tImplItem.D)) × (List (tImplFrame.D)) × (List (tImplBucket.D)) × (List (tImplServe.D)) × (List (tImplClient.D)) × (List (tImplPacket.D)) × (List (tImplItem.D)))) : Option ((((Int) × (Unit) × (Unit)) × ((((Bool) × ((Int) × ((List UInt8) × (((Int) × ((Unit) × (Unit))) × (((Unit) × ((Int) × (Unit))) × ((Unit) × ((Unit) × (Unit)))))))) × ((Unit) × ((Unit) × ((Unit) × (Unit))))) × (((Bool) × ((Int) × ((List UInt8) × (((Int) × ((Unit) × (Unit))) × (((Unit) × ((Int) × (Unit))) × ((Unit) × ((Unit) × (Unit)))))))) × ((Unit) × ((Unit) × ((Unit) × (Unit))))) × (List (tImplItem.D)) × (List (tImplFrame.D)) × (List (tImplBucket.D)) × (List (tImplServe.D)) × (List (tImplClient.D)) × (List (tImplPacket.D)) × (List (tImplItem.D)) × (List (tImplItem.D)) × (List (tImplFrame.D)) × (List (tImplBucket.D)) × (List (tImplServe.D)) × (List (tImplClient.D)) × (List (tImplPacket.D)) × (List (tImplItem.D)))) ⊕ ((((Unit) × (Unit)) × ((((Bool) × ((Int) × ((List UInt8) × (((Int) × ((Unit) × (Unit))) × (((Unit) × ((Int) × (Unit))) × ((Unit) × ((Unit) × (Unit)))))))) × ((Unit) × ((Unit) × ((Unit) × (Unit))))) × (((Bool) × ((Int) × ((List UInt8) × (((Int) × ((Unit) × (Unit))) × (((Unit) × ((Int) × (Unit))) × ((Unit) × ((Unit) × (Unit)))))))) × ((Unit) × ((Unit) × ((Unit) × (Unit))))) × (List (tImplItem.D)) × (List (tImplFrame.D)) × (List (tImplBucket.D)) × (List (tImplServe.D)) × (List (tImplClient.D)) × (List (tImplPacket.D)) × (List (tImplItem.D)) × (List (tImplItem.D)) × (List (tImplFrame.D)) × (List (tImplBucket.D)) × (List (tImplServe.D)) × (List (tImplClient.D)) × (List (tImplPacket.D)) × (List (tImplItem.D)))))) :=
  let v_62 : Int := Prod.fst (Prod.fst x)
  let ls_63 : Bool := Prod.fst (Prod.fst (Prod.fst (Prod.snd x)))
  let ls_64 : Int := Prod.fst (Prod.snd (Prod.fst (Prod.fst (Prod.snd x))))
  let ls_65 : List UInt8 := Prod.fst (Prod.snd (Prod.snd (Prod.fst (Prod.fst (Prod.snd x)))))
  let ls_66 : Int := Prod.fst (Prod.fst (Prod.snd (Prod.snd (Prod.snd (Prod.fst (Prod.fst (Prod.snd x)))))))
  let ls_67 : PUnit := Prod.snd (Prod.snd (Prod.fst (Prod.snd (Prod.snd (Prod.snd (Prod.fst (Prod.fst (Prod.snd x))))))))
  let ls_68 : Int × PUnit := Prod.snd (Prod.fst (Prod.snd (Prod.snd (Prod.snd (Prod.snd (Prod.fst (Prod.fst (Prod.snd x))))))))
  let ls_69 : PUnit := Prod.snd (Prod.snd (Prod.snd (Prod.snd (Prod.snd (Prod.snd (Prod.snd (Prod.fst (Prod.fst (Prod.snd x)))))))))
  let ls_70 : PUnit := Prod.snd (Prod.snd (Prod.snd (Prod.snd (Prod.fst (Prod.snd x)))))
  let ls_71 : Bool := Prod.fst (Prod.fst (Prod.fst (Prod.snd (Prod.snd x))))
  let ls_72 : Int := Prod.fst (Prod.snd (Prod.fst (Prod.fst (Prod.snd (Prod.snd x)))))
  let ls_73 : List UInt8 := Prod.fst (Prod.snd (Prod.snd (Prod.fst (Prod.fst (Prod.snd (Prod.snd x))))))
  let ls_74 : Int := Prod.fst (Prod.fst (Prod.snd (Prod.snd (Prod.snd (Prod.fst (Prod.fst (Prod.snd (Prod.snd x))))))))
  let ls_75 : PUnit := Prod.snd (Prod.snd (Prod.fst (Prod.snd (Prod.snd (Prod.snd (Prod.fst (Prod.fst (Prod.snd (Prod.snd x)))))))))
  let ls_76 : Int := Prod.fst (Prod.snd (Prod.fst (Prod.snd (Prod.snd (Prod.snd (Prod.snd (Prod.fst (Prod.fst (Prod.snd (Prod.snd x))))))))))
  let ls_77 : PUnit := Prod.snd (Prod.snd (Prod.fst (Prod.snd (Prod.snd (Prod.snd (Prod.snd (Prod.fst (Prod.fst (Prod.snd (Prod.snd x))))))))))
  let ls_78 : PUnit := Prod.snd (Prod.snd (Prod.snd (Prod.snd (Prod.snd (Prod.snd (Prod.snd (Prod.fst (Prod.fst (Prod.snd (Prod.snd x))))))))))
  let ls_79 : PUnit := Prod.snd (Prod.snd (Prod.snd (Prod.snd (Prod.fst (Prod.snd (Prod.snd x))))))
  let ls_80 : List (tImplItem.D) := Prod.fst (Prod.snd (Prod.snd (Prod.snd x)))
  let ls_81 : List (tImplFrame.D) := Prod.fst (Prod.snd (Prod.snd (Prod.snd (Prod.snd x))))
  let ls_82 : List (tImplBucket.D) := Prod.fst (Prod.snd (Prod.snd (Prod.snd (Prod.snd (Prod.snd x)))))
  let ls_83 : List (tImplServe.D) := Prod.fst (Prod.snd (Prod.snd (Prod.snd (Prod.snd (Prod.snd (Prod.snd x))))))
  let ls_84 : List (tImplClient.D) := Prod.fst (Prod.snd (Prod.snd (Prod.snd (Prod.snd (Prod.snd (Prod.snd (Prod.snd x)))))))
  let ls_85 : List (tImplPacket.D) := Prod.fst (Prod.snd (Prod.snd (Prod.snd (Prod.snd (Prod.snd (Prod.snd (Prod.snd (Prod.snd x))))))))
  let ls_86 : List (tImplItem.D) := Prod.fst (Prod.snd (Prod.snd (Prod.snd (Prod.snd (Prod.snd (Prod.snd (Prod.snd (Prod.snd (Prod.snd x)))))))))
  let ls_87 : List (tImplItem.D) := Prod.fst (Prod.snd (Prod.snd (Prod.snd (Prod.snd (Prod.snd (Prod.snd (Prod.snd (Prod.snd (Prod.snd (Prod.snd x))))))))))
  let ls_88 : List (tImplFrame.D) := Prod.fst (Prod.snd (Prod.snd (Prod.snd (Prod.snd (Prod.snd (Prod.snd (Prod.snd (Prod.snd (Prod.snd (Prod.snd (Prod.snd x)))))))))))
  let ls_89 : List (tImplBucket.D) := Prod.fst (Prod.snd (Prod.snd (Prod.snd (Prod.snd (Prod.snd (Prod.snd (Prod.snd (Prod.snd (Prod.snd (Prod.snd (Prod.snd (Prod.snd x))))))))))))
  let ls_90 : List (tImplServe.D) := Prod.fst (Prod.snd (Prod.snd (Prod.snd (Prod.snd (Prod.snd (Prod.snd (Prod.snd (Prod.snd (Prod.snd (Prod.snd (Prod.snd (Prod.snd (Prod.snd x)))))))))))))
  let ls_91 : List (tImplClient.D) := Prod.fst (Prod.snd (Prod.snd (Prod.snd (Prod.snd (Prod.snd (Prod.snd (Prod.snd (Prod.snd (Prod.snd (Prod.snd (Prod.snd (Prod.snd (Prod.snd (Prod.snd x))))))))))))))
  let ls_92 : List (tImplPacket.D) := Prod.fst (Prod.snd (Prod.snd (Prod.snd (Prod.snd (Prod.snd (Prod.snd (Prod.snd (Prod.snd (Prod.snd (Prod.snd (Prod.snd (Prod.snd (Prod.snd (Prod.snd (Prod.snd x)))))))))))))))
  let ls_93 : List (tImplItem.D) := Prod.snd (Prod.snd (Prod.snd (Prod.snd (Prod.snd (Prod.snd (Prod.snd (Prod.snd (Prod.snd (Prod.snd (Prod.snd (Prod.snd (Prod.snd (Prod.snd (Prod.snd (Prod.snd x)))))))))))))))
  let v_94 : Bool := Decidable.decide (v_62 < (4 : Int))
  bif v_94 then
    let pb_95 : List (tImplEq.D) := Prod.fst (Prod.snd (Prod.snd (Prod.fst (Prod.snd (Prod.fst (Prod.snd (Prod.snd (Prod.snd (Prod.snd (Prod.snd (Prod.fst (Wh.impl_ClientNew' v_62))))))))))))
    let pb_96 : List Int := Prod.fst (Prod.snd (Prod.snd (Prod.snd (Prod.fst (Prod.fst (Prod.snd (Prod.snd (Prod.snd (Prod.snd (Prod.snd (Prod.fst (Wh.impl_ClientNew' v_62))))))))))))
    let pb_97 : List Int := Prod.fst (Prod.snd (Prod.snd (Prod.fst (Prod.fst (Prod.snd (Prod.snd (Prod.snd (Prod.snd (Prod.snd (Prod.fst (Wh.impl_ClientNew' v_62)))))))))))
    let ls_99 : List (tImplClient.D) := ls_84 ++ [(Prod.fst (Prod.fst (Wh.impl_ClientNew' v_62)), Prod.fst (Prod.snd (Prod.fst (Wh.impl_ClientNew' v_62))), Prod.fst (Prod.snd (Prod.snd (Prod.fst (Wh.impl_ClientNew' v_62)))), Prod.fst (Prod.snd (Prod.snd (Prod.snd (Prod.fst (Wh.impl_ClientNew' v_62))))), Prod.fst (Prod.snd (Prod.snd (Prod.snd (Prod.snd (Prod.fst (Wh.impl_ClientNew' v_62)))))), ((Prod.fst (Prod.fst (Prod.fst (Prod.snd (Prod.snd (Prod.snd (Prod.snd (Prod.snd (Prod.fst (Wh.impl_ClientNew' v_62))))))))), Prod.fst (Prod.snd (Prod.fst (Prod.fst (Prod.snd (Prod.snd (Prod.snd (Prod.snd (Prod.snd (Prod.fst (Wh.impl_ClientNew' v_62)))))))))), pb_97, pb_96, Prod.snd (Prod.snd (Prod.snd (Prod.snd (Prod.fst (Prod.fst (Prod.snd (Prod.snd (Prod.snd (Prod.snd (Prod.snd (Prod.fst (Wh.impl_ClientNew' v_62))))))))))))), (Prod.fst (Prod.fst (Prod.snd (Prod.fst (Prod.snd (Prod.snd (Prod.snd (Prod.snd (Prod.snd (Prod.fst (Wh.impl_ClientNew' v_62)))))))))), Prod.fst (Prod.snd (Prod.fst (Prod.snd (Prod.fst (Prod.snd (Prod.snd (Prod.snd (Prod.snd (Prod.snd (Prod.fst (Wh.impl_ClientNew' v_62))))))))))), pb_95, Prod.snd (Prod.snd (Prod.snd (Prod.fst (Prod.snd (Prod.fst (Prod.snd (Prod.snd (Prod.snd (Prod.snd (Prod.snd (Prod.fst (Wh.impl_ClientNew' v_62))))))))))))), Prod.snd (Prod.snd (Prod.fst (Prod.snd (Prod.snd (Prod.snd (Prod.snd (Prod.snd (Prod.fst (Wh.impl_ClientNew' v_62)))))))))), Prod.snd (Prod.snd (Prod.snd (Prod.snd (Prod.snd (Prod.snd (Prod.fst (Wh.impl_ClientNew' v_62))))))))]
    bif allB [Decidable.decide (List.length ls_84 + (1 : Nat) ≤ Go.Ab.maxRows), Go.Ab.isSm (Wh.impl_ClientNew v_62)] then
      let v_113 : Int := Go.IntKind.wrap Go.IntKind.i64 (v_62 + (1 : Int))
      some (.inl ((v_113, (), ()), ((ls_63, ls_64, ls_65, (ls_66, (), ls_67), ((), ls_68), (), (), ls_69), (), (), (), ls_70), ((ls_71, ls_72, ls_73, (ls_74, (), ls_75), ((), ls_76, ls_77), (), (), ls_78), (), (), (), ls_79), ls_80, ls_81, ls_82, ls_83, ls_99, ls_85, ls_86, ls_87, ls_88, ls_89, ls_90, ls_91, ls_92, ls_93))
    else none
  else
    some (.inr (((), ()), ((ls_71, ls_72, ls_73, (ls_74, (), ls_75), ((), ls_76, ls_77), (), (), ls_78), (), (), (), ls_79), ((ls_63, ls_64, ls_65, (ls_66, (), ls_67), ((), ls_68), (), (), ls_69), (), (), (), ls_70), ls_87, ls_88, ls_89, ls_90, ls_91, ls_92, ls_93, ls_80, ls_81, ls_82, ls_83, ls_84, ls_85, ls_86))
def Wh.impl_WorldNew_l0_y : (((Unit) × (Unit)) × ((((Bool) × ((Int) × ((List UInt8) × (((Int) × ((Unit) × (Unit))) × (((Unit) × ((Int) × (Unit))) × ((Unit) × ((Unit) × (Unit)))))))) × ((Unit) × ((Unit) × ((Unit) × (Unit))))) × (((Bool) × ((Int) × ((List UInt8) × (((Int) × ((Unit) × (Unit))) × (((Unit) × ((Int) × (Unit))) × ((Unit) × ((Unit) × (Unit)))))))) × ((Unit) × ((Unit) × ((Unit) × (Unit))))) × (List (tImplItem.D)) × (List (tImplFrame.D)) × (List (tImplBucket.D)) × (List (tImplServe.D)) × (List (tImplClient.D)) × (List (tImplPacket.D)) × (List (tImplItem.D)) × (List (tImplItem.D)) × (List (tImplFrame.D)) × (List (tImplBucket.D)) × (List (tImplServe.D)) × (List (tImplClient.D)) × (List (tImplPacket.D)) × (List (tImplItem.D)))) := default
def Wh.impl_WorldNew (xs : Unit) : Option (((tImplWorld.D)) × (Unit)) :=
  let pb_0 : List (tImplServe.D) := Prod.fst (Prod.snd (Prod.snd (Prod.snd (Prod.snd (Prod.snd (Prod.snd (Prod.fst (Wh.impl_ServerNew' ()))))))))
  let pb_1 : List (tImplBucket.D) := Prod.fst (Prod.snd (Prod.snd (Prod.snd (Prod.snd (Prod.snd (Prod.fst (Wh.impl_ServerNew' ())))))))
  let pb_2 : List (tImplFrame.D) := Prod.fst (Prod.fst (Prod.snd (Prod.snd (Prod.snd (Prod.snd (Prod.fst (Wh.impl_ServerNew' ())))))))
  let pb_3 : List (tImplItem.D) := Prod.fst (Prod.snd (Prod.fst (Prod.snd (Prod.snd (Prod.snd (Prod.fst (Wh.impl_ServerNew' ())))))))
  let pb_4 : PUnit := Prod.snd (Prod.snd (Prod.snd (Prod.snd (Prod.snd (Prod.snd (Prod.snd (Prod.fst (Wh.impl_ServerNew' ()))))))))
  let pb_5 : Int × PUnit := Prod.snd (Prod.fst (Prod.snd (Prod.snd (Prod.snd (Prod.snd (Prod.fst (Wh.impl_ServerNew' ())))))))
  let pb_6 : PUnit := Prod.snd (Prod.snd (Prod.fst (Prod.snd (Prod.snd (Prod.snd (Prod.fst (Wh.impl_ServerNew' ())))))))
  let pb_7 : Int := Prod.fst (Prod.fst (Prod.snd (Prod.snd (Prod.snd (Prod.fst (Wh.impl_ServerNew' ()))))))
  let pb_8 : List UInt8 := Prod.fst (Prod.snd (Prod.snd (Prod.fst (Wh.impl_ServerNew' ()))))
  let pb_9 : Int := Prod.fst (Prod.snd (Prod.fst (Wh.impl_ServerNew' ())))
  bif allB [Option.rec ((fun (_ : Unit) => Bool.false) ()) (fun (val : (Bool × Int × List UInt8 × (Int × List (Int × List UInt8 × Int × List UInt8 × Unit) × Unit) × (List (Int × Int × Int × Int × Bool × Unit) × Int × Unit) × List (Int × Int × Int × Int × Unit) × List (Int × Int × Int × Int × Int × Int × Unit) × Unit) × Unit) => (fun (val : (Bool × Int × List UInt8 × (Int × List (Int × List UInt8 × Int × List UInt8 × Unit) × Unit) × (List (Int × Int × Int × Int × Bool × Unit) × Int × Unit) × List (Int × Int × Int × Int × Unit) × List (Int × Int × Int × Int × Int × Int × Unit) × Unit) × Unit) => (fun (val : (Bool × Int × List UInt8 × (Int × List (Int × List UInt8 × Int × List UInt8 × Unit) × Unit) × (List (Int × Int × Int × Int × Bool × Unit) × Int × Unit) × List (Int × Int × Int × Int × Unit) × List (Int × Int × Int × Int × Int × Int × Unit) × Unit) × Unit) => Bool.true) val) val) (Wh.impl_ServerNew ())] then
    let x_114 : ((Int) × (Unit) × (Unit)) × ((((Bool) × ((Int) × ((List UInt8) × (((Int) × ((Unit) × (Unit))) × (((Unit) × ((Int) × (Unit))) × ((Unit) × ((Unit) × (Unit)))))))) × ((Unit) × ((Unit) × ((Unit) × (Unit))))) × (((Bool) × ((Int) × ((List UInt8) × (((Int) × ((Unit) × (Unit))) × (((Unit) × ((Int) × (Unit))) × ((Unit) × ((Unit) × (Unit)))))))) × ((Unit) × ((Unit) × ((Unit) × (Unit))))) × (List (tImplItem.D)) × (List (tImplFrame.D)) × (List (tImplBucket.D)) × (List (tImplServe.D)) × (List (tImplClient.D)) × (List (tImplPacket.D)) × (List (tImplItem.D)) × (List (tImplItem.D)) × (List (tImplFrame.D)) × (List (tImplBucket.D)) × (List (tImplServe.D)) × (List (tImplClient.D)) × (List (tImplPacket.D)) × (List (tImplItem.D))) := (((0 : Int), (), ()), ((Prod.fst (Prod.fst (Wh.impl_ServerNew' ())), pb_9, pb_8, (pb_7, (), pb_6), ((), pb_5), (), (), pb_4), (), (), (), ()), ((Bool.false, (0 : Int), [], ((0 : Int), (), ()), ((), (0 : Int), ()), (), (), ()), (), (), (), ()), pb_3, pb_2, pb_1, pb_0, [], [], [], [], [], [], [], [], [], [])
    bif comesB Wh.impl_WorldNew_l0 x_114 then
      let y_115 := comesV Wh.impl_WorldNew_l0 Wh.impl_WorldNew_l0_y x_114
      let ls_125 : Bool := Prod.fst (Prod.fst (Prod.fst (Prod.snd (Prod.snd y_115))))
      let ls_126 : Int := Prod.fst (Prod.snd (Prod.fst (Prod.fst (Prod.snd (Prod.snd y_115)))))
      let ls_127 : List UInt8 := Prod.fst (Prod.snd (Prod.snd (Prod.fst (Prod.fst (Prod.snd (Prod.snd y_115))))))
      let ls_128 : Int := Prod.fst (Prod.fst (Prod.snd (Prod.snd (Prod.snd (Prod.fst (Prod.fst (Prod.snd (Prod.snd y_115))))))))
      let ls_129 : PUnit := Prod.snd (Prod.snd (Prod.fst (Prod.snd (Prod.snd (Prod.snd (Prod.fst (Prod.fst (Prod.snd (Prod.snd y_115)))))))))
      let ls_130 : Int × PUnit := Prod.snd (Prod.fst (Prod.snd (Prod.snd (Prod.snd (Prod.snd (Prod.fst (Prod.fst (Prod.snd (Prod.snd y_115)))))))))
      let ls_131 : PUnit := Prod.snd (Prod.snd (Prod.snd (Prod.snd (Prod.snd (Prod.snd (Prod.snd (Prod.fst (Prod.fst (Prod.snd (Prod.snd y_115))))))))))
      let ls_132 : PUnit := Prod.snd (Prod.snd (Prod.snd (Prod.snd (Prod.fst (Prod.snd (Prod.snd y_115))))))
      let ls_140 : List (tImplItem.D) := Prod.fst (Prod.snd (Prod.snd (Prod.snd (Prod.snd (Prod.snd (Prod.snd (Prod.snd (Prod.snd (Prod.snd (Prod.snd y_115))))))))))
      let ls_141 : List (tImplFrame.D) := Prod.fst (Prod.snd (Prod.snd (Prod.snd (Prod.snd (Prod.snd (Prod.snd (Prod.snd (Prod.snd (Prod.snd (Prod.snd (Prod.snd y_115)))))))))))
      let ls_142 : List (tImplBucket.D) := Prod.fst (Prod.snd (Prod.snd (Prod.snd (Prod.snd (Prod.snd (Prod.snd (Prod.snd (Prod.snd (Prod.snd (Prod.snd (Prod.snd (Prod.snd y_115))))))))))))
      let ls_143 : List (tImplServe.D) := Prod.fst (Prod.snd (Prod.snd (Prod.snd (Prod.snd (Prod.snd (Prod.snd (Prod.snd (Prod.snd (Prod.snd (Prod.snd (Prod.snd (Prod.snd (Prod.snd y_115)))))))))))))
      let ls_144 : List (tImplClient.D) := Prod.fst (Prod.snd (Prod.snd (Prod.snd (Prod.snd (Prod.snd (Prod.snd (Prod.snd (Prod.snd (Prod.snd (Prod.snd (Prod.snd (Prod.snd (Prod.snd (Prod.snd y_115))))))))))))))
      let ls_145 : List (tImplPacket.D) := Prod.fst (Prod.snd (Prod.snd (Prod.snd (Prod.snd (Prod.snd (Prod.snd (Prod.snd (Prod.snd (Prod.snd (Prod.snd (Prod.snd (Prod.snd (Prod.snd (Prod.snd (Prod.snd y_115)))))))))))))))
      let ls_146 : List (tImplItem.D) := Prod.snd (Prod.snd (Prod.snd (Prod.snd (Prod.snd (Prod.snd (Prod.snd (Prod.snd (Prod.snd (Prod.snd (Prod.snd (Prod.snd (Prod.snd (Prod.snd (Prod.snd (Prod.snd y_115)))))))))))))))
      some (((ls_125, ls_126, ls_127, (ls_128, ls_140, ls_129), (ls_141, ls_130), ls_142, ls_143, ls_131), ls_144, ls_145, ls_146, ls_132), ())
    else none
  else none
def Wh.impl_WorldNew' (xs : Unit) : ((tImplWorld.D)) × (Unit) := match Wh.impl_WorldNew xs with | some y => y | none => default
theorem Wh.impl_WorldNew_v (x : Unit) (y : ((tImplWorld.D)) × (Unit)) (h : Wh.impl_WorldNew x = some y) : Wh.impl_WorldNew' x = y := by unfold Wh.impl_WorldNew'; rw [h]

def Wh.laws_eqItem (xs : (tImplItem.D) × (tImplItem.D)) : Option (((Bool)) × (Unit)) :=
  let a_0 : tImplItem.D := Prod.fst xs
  let b_1 : tImplItem.D := Prod.snd xs
  let v_2 : Bool := Prod.fst a_0 != Prod.fst b_1
  bif v_2 then
    some (Bool.false, ())
  else
    let v_3 : Bool := !Prod.fst (Prod.snd a_0) == Prod.fst (Prod.snd b_1)
    bif v_3 then
      some (Bool.false, ())
    else
      let v_4 : Bool := Prod.fst (Prod.snd (Prod.snd a_0)) != Prod.fst (Prod.snd (Prod.snd b_1))
      bif v_4 then
        some (Bool.false, ())
      else
        let v_5 : Bool := !Prod.fst (Prod.snd (Prod.snd (Prod.snd a_0))) == Prod.fst (Prod.snd (Prod.snd (Prod.snd b_1)))
        bif v_5 then
          some (Bool.false, ())
        else
          some (Bool.true, ())
def Wh.laws_eqItem' (xs : (tImplItem.D) × (tImplItem.D)) : ((Bool)) × (Unit) := match Wh.laws_eqItem xs with | some y => y | none => default
theorem Wh.laws_eqItem_v (x : (tImplItem.D) × (tImplItem.D)) (y : ((Bool)) × (Unit)) (h : Wh.laws_eqItem x = some y) : Wh.laws_eqItem' x = y := by unfold Wh.laws_eqItem'; rw [h]

def Wh.laws_eqItemS_l0 (x : ((Int) × (List (tImplItem.D)) × (List (tImplItem.D))) × (Unit)) : Option ((((Int) × (List (tImplItem.D)) × (List (tImplItem.D))) × (Unit)) ⊕ ((((Bool)) × (Unit)) ⊕ ((Unit) × (Unit)))) :=
  let i_15 : Int := Prod.fst (Prod.fst x)
  let b_16 : List (tImplItem.D) := Prod.fst (Prod.snd (Prod.fst x))
  let a_17 : List (tImplItem.D) := Prod.snd (Prod.snd (Prod.fst x))
  let v_18 : Int := (↑(List.length a_17) : Int)
  let v_19 : Bool := Decidable.decide (i_15 < v_18)
  bif v_19 then
    let v_20 : tImplItem.D := List.getD a_17 (Int.toNat i_15) ((0 : Int), [], (0 : Int), [], ())
    let v_21 : tImplItem.D := List.getD b_16 (Int.toNat i_15) ((0 : Int), [], (0 : Int), [], ())
    let v_23 : Bool := !Prod.fst (Wh.laws_eqItem' (v_20, v_21))
    bif allB [Go.Ab.isSm (Wh.laws_eqItem (v_20, v_21)), Decidable.decide ((0 : Int) ≤ i_15), Decidable.decide (i_15 < (↑(List.length b_16) : Int)), Decidable.decide ((0 : Int) ≤ i_15), Decidable.decide (i_15 < v_18)] then
      bif v_23 then
        some (.inr (.inl (Bool.false, ())))
      else
        let v_24 : Int := Go.IntKind.wrap Go.IntKind.i64 (i_15 + (1 : Int))
        some (.inl ((v_24, b_16, a_17), ()))
    else none
  else
    some (.inr (.inr ((), ())))
def Wh.laws_eqItemS_l0_y : (((Bool)) × (Unit)) ⊕ ((Unit) × (Unit)) := .inl default
def Wh.laws_eqItemS (xs : (List (tImplItem.D)) × (List (tImplItem.D))) : Option (((Bool)) × (Unit)) :=
  let a_0 : List (tImplItem.D) := Prod.fst xs
  let b_1 : List (tImplItem.D) := Prod.snd xs
  let v_2 : Int := (↑(List.length a_0) : Int)
  let v_3 : Int := (↑(List.length b_1) : Int)
  let v_4 : Bool := v_2 != v_3
  bif v_4 then
    some (Bool.false, ())
  else
    let x_25 : ((Int) × (List (tImplItem.D)) × (List (tImplItem.D))) × (Unit) := (((0 : Int), b_1, a_0), ())
    bif comesB Wh.laws_eqItemS_l0 x_25 then
      sumC (comesV Wh.laws_eqItemS_l0 Wh.laws_eqItemS_l0_y x_25) (fun y_26 =>
        let v_28 : Bool := Prod.fst y_26
        some (v_28, ())) (fun _ =>
        some (Bool.true, ()))
    else none
def Wh.laws_eqItemS' (xs : (List (tImplItem.D)) × (List (tImplItem.D))) : ((Bool)) × (Unit) := match Wh.laws_eqItemS xs with | some y => y | none => default
theorem Wh.laws_eqItemS_v (x : (List (tImplItem.D)) × (List (tImplItem.D))) (y : ((Bool)) × (Unit)) (h : Wh.laws_eqItemS x = some y) : Wh.laws_eqItemS' x = y := by unfold Wh.laws_eqItemS'; rw [h]

def Wh.laws_eqCat (xs : (tImplCat.D) × (tImplCat.D)) : Option (((Bool)) × (Unit)) :=
  let a_0 : tImplCat.D := Prod.fst xs
  let b_1 : tImplCat.D := Prod.snd xs
  let v_2 : Bool := Prod.fst a_0 != Prod.fst b_1
  bif v_2 then
    some (Bool.false, ())
  else
    let v_3 : Bool := Prod.fst (Wh.laws_eqItemS' (Prod.fst (Prod.snd a_0), Prod.fst (Prod.snd b_1)))
    bif allB [Go.Ab.isSm (Wh.laws_eqItemS (Prod.fst (Prod.snd a_0), Prod.fst (Prod.snd b_1)))] then
      bif !v_3 then
        some (Bool.false, ())
      else
        some (Bool.true, ())
    else none
def Wh.laws_eqCat' (xs : (tImplCat.D) × (tImplCat.D)) : ((Bool)) × (Unit) := match Wh.laws_eqCat xs with | some y => y | none => default
theorem Wh.laws_eqCat_v (x : (tImplCat.D) × (tImplCat.D)) (y : ((Bool)) × (Unit)) (h : Wh.laws_eqCat x = some y) : Wh.laws_eqCat' x = y := by unfold Wh.laws_eqCat'; rw [h]

def Wh.laws_eqFrame (xs : (tImplFrame.D) × (tImplFrame.D)) : Option (((Bool)) × (Unit)) :=
  let a_0 : tImplFrame.D := Prod.fst xs
  let b_1 : tImplFrame.D := Prod.snd xs
  let v_2 : Bool := Prod.fst a_0 != Prod.fst b_1
  bif v_2 then
    some (Bool.false, ())
  else
    let v_3 : Bool := Prod.fst (Prod.snd a_0) != Prod.fst (Prod.snd b_1)
    bif v_3 then
      some (Bool.false, ())
    else
      let v_4 : Bool := Prod.fst (Prod.snd (Prod.snd a_0)) != Prod.fst (Prod.snd (Prod.snd b_1))
      bif v_4 then
        some (Bool.false, ())
      else
        let v_5 : Bool := Prod.fst (Prod.snd (Prod.snd (Prod.snd a_0))) != Prod.fst (Prod.snd (Prod.snd (Prod.snd b_1)))
        bif v_5 then
          some (Bool.false, ())
        else
          let v_6 : Bool := !Prod.fst (Prod.snd (Prod.snd (Prod.snd (Prod.snd a_0)))) == Prod.fst (Prod.snd (Prod.snd (Prod.snd (Prod.snd b_1))))
          bif v_6 then
            some (Bool.false, ())
          else
            some (Bool.true, ())
def Wh.laws_eqFrame' (xs : (tImplFrame.D) × (tImplFrame.D)) : ((Bool)) × (Unit) := match Wh.laws_eqFrame xs with | some y => y | none => default
theorem Wh.laws_eqFrame_v (x : (tImplFrame.D) × (tImplFrame.D)) (y : ((Bool)) × (Unit)) (h : Wh.laws_eqFrame x = some y) : Wh.laws_eqFrame' x = y := by unfold Wh.laws_eqFrame'; rw [h]

def Wh.laws_eqFrameS_l0 (x : ((Int) × (List (tImplFrame.D)) × (List (tImplFrame.D))) × (Unit)) : Option ((((Int) × (List (tImplFrame.D)) × (List (tImplFrame.D))) × (Unit)) ⊕ ((((Bool)) × (Unit)) ⊕ ((Unit) × (Unit)))) :=
  let i_15 : Int := Prod.fst (Prod.fst x)
  let b_16 : List (tImplFrame.D) := Prod.fst (Prod.snd (Prod.fst x))
  let a_17 : List (tImplFrame.D) := Prod.snd (Prod.snd (Prod.fst x))
  let v_18 : Int := (↑(List.length a_17) : Int)
  let v_19 : Bool := Decidable.decide (i_15 < v_18)
  bif v_19 then
    let v_20 : tImplFrame.D := List.getD a_17 (Int.toNat i_15) ((0 : Int), (0 : Int), (0 : Int), (0 : Int), Bool.false, ())
    let v_21 : tImplFrame.D := List.getD b_16 (Int.toNat i_15) ((0 : Int), (0 : Int), (0 : Int), (0 : Int), Bool.false, ())
    let v_23 : Bool := !Prod.fst (Wh.laws_eqFrame' (v_20, v_21))
    bif allB [Go.Ab.isSm (Wh.laws_eqFrame (v_20, v_21)), Decidable.decide ((0 : Int) ≤ i_15), Decidable.decide (i_15 < (↑(List.length b_16) : Int)), Decidable.decide ((0 : Int) ≤ i_15), Decidable.decide (i_15 < v_18)] then
      bif v_23 then
        some (.inr (.inl (Bool.false, ())))
      else
        let v_24 : Int := Go.IntKind.wrap Go.IntKind.i64 (i_15 + (1 : Int))
        some (.inl ((v_24, b_16, a_17), ()))
    else none
  else
    some (.inr (.inr ((), ())))
def Wh.laws_eqFrameS_l0_y : (((Bool)) × (Unit)) ⊕ ((Unit) × (Unit)) := .inl default
def Wh.laws_eqFrameS (xs : (List (tImplFrame.D)) × (List (tImplFrame.D))) : Option (((Bool)) × (Unit)) :=
  let a_0 : List (tImplFrame.D) := Prod.fst xs
  let b_1 : List (tImplFrame.D) := Prod.snd xs
  let v_2 : Int := (↑(List.length a_0) : Int)
  let v_3 : Int := (↑(List.length b_1) : Int)
  let v_4 : Bool := v_2 != v_3
  bif v_4 then
    some (Bool.false, ())
  else
    let x_25 : ((Int) × (List (tImplFrame.D)) × (List (tImplFrame.D))) × (Unit) := (((0 : Int), b_1, a_0), ())
    bif comesB Wh.laws_eqFrameS_l0 x_25 then
      sumC (comesV Wh.laws_eqFrameS_l0 Wh.laws_eqFrameS_l0_y x_25) (fun y_26 =>
        let v_28 : Bool := Prod.fst y_26
        some (v_28, ())) (fun _ =>
        some (Bool.true, ()))
    else none
def Wh.laws_eqFrameS' (xs : (List (tImplFrame.D)) × (List (tImplFrame.D))) : ((Bool)) × (Unit) := match Wh.laws_eqFrameS xs with | some y => y | none => default
theorem Wh.laws_eqFrameS_v (x : (List (tImplFrame.D)) × (List (tImplFrame.D))) (y : ((Bool)) × (Unit)) (h : Wh.laws_eqFrameS x = some y) : Wh.laws_eqFrameS' x = y := by unfold Wh.laws_eqFrameS'; rw [h]

def Wh.laws_eqPool (xs : (tImplPool.D) × (tImplPool.D)) : Option (((Bool)) × (Unit)) :=
  let a_0 : tImplPool.D := Prod.fst xs
  let b_1 : tImplPool.D := Prod.snd xs
  let v_2 : Bool := Prod.fst (Wh.laws_eqFrameS' (Prod.fst a_0, Prod.fst b_1))
  bif allB [Go.Ab.isSm (Wh.laws_eqFrameS (Prod.fst a_0, Prod.fst b_1))] then
    bif !v_2 then
      some (Bool.false, ())
    else
      let v_3 : Bool := Prod.fst (Prod.snd a_0) != Prod.fst (Prod.snd b_1)
      bif v_3 then
        some (Bool.false, ())
      else
        some (Bool.true, ())
  else none
def Wh.laws_eqPool' (xs : (tImplPool.D) × (tImplPool.D)) : ((Bool)) × (Unit) := match Wh.laws_eqPool xs with | some y => y | none => default
theorem Wh.laws_eqPool_v (x : (tImplPool.D) × (tImplPool.D)) (y : ((Bool)) × (Unit)) (h : Wh.laws_eqPool x = some y) : Wh.laws_eqPool' x = y := by unfold Wh.laws_eqPool'; rw [h]

def Wh.laws_eqBucket (xs : (tImplBucket.D) × (tImplBucket.D)) : Option (((Bool)) × (Unit)) :=
  let a_0 : tImplBucket.D := Prod.fst xs
  let b_1 : tImplBucket.D := Prod.snd xs
  let v_2 : Bool := Prod.fst a_0 != Prod.fst b_1
  bif v_2 then
    some (Bool.false, ())
  else
    let v_3 : Bool := Prod.fst (Prod.snd a_0) != Prod.fst (Prod.snd b_1)
    bif v_3 then
      some (Bool.false, ())
    else
      let v_4 : Bool := Prod.fst (Prod.snd (Prod.snd a_0)) != Prod.fst (Prod.snd (Prod.snd b_1))
      bif v_4 then
        some (Bool.false, ())
      else
        let v_5 : Bool := Prod.fst (Prod.snd (Prod.snd (Prod.snd a_0))) != Prod.fst (Prod.snd (Prod.snd (Prod.snd b_1)))
        bif v_5 then
          some (Bool.false, ())
        else
          some (Bool.true, ())
def Wh.laws_eqBucket' (xs : (tImplBucket.D) × (tImplBucket.D)) : ((Bool)) × (Unit) := match Wh.laws_eqBucket xs with | some y => y | none => default
theorem Wh.laws_eqBucket_v (x : (tImplBucket.D) × (tImplBucket.D)) (y : ((Bool)) × (Unit)) (h : Wh.laws_eqBucket x = some y) : Wh.laws_eqBucket' x = y := by unfold Wh.laws_eqBucket'; rw [h]

def Wh.laws_eqBucketS_l0 (x : ((Int) × (List (tImplBucket.D)) × (List (tImplBucket.D))) × (Unit)) : Option ((((Int) × (List (tImplBucket.D)) × (List (tImplBucket.D))) × (Unit)) ⊕ ((((Bool)) × (Unit)) ⊕ ((Unit) × (Unit)))) :=
  let i_15 : Int := Prod.fst (Prod.fst x)
  let b_16 : List (tImplBucket.D) := Prod.fst (Prod.snd (Prod.fst x))
  let a_17 : List (tImplBucket.D) := Prod.snd (Prod.snd (Prod.fst x))
  let v_18 : Int := (↑(List.length a_17) : Int)
  let v_19 : Bool := Decidable.decide (i_15 < v_18)
  bif v_19 then
    let v_20 : tImplBucket.D := List.getD a_17 (Int.toNat i_15) ((0 : Int), (0 : Int), (0 : Int), (0 : Int), ())
    let v_21 : tImplBucket.D := List.getD b_16 (Int.toNat i_15) ((0 : Int), (0 : Int), (0 : Int), (0 : Int), ())
    let v_23 : Bool := !Prod.fst (Wh.laws_eqBucket' (v_20, v_21))
    bif allB [Go.Ab.isSm (Wh.laws_eqBucket (v_20, v_21)), Decidable.decide ((0 : Int) ≤ i_15), Decidable.decide (i_15 < (↑(List.length b_16) : Int)), Decidable.decide ((0 : Int) ≤ i_15), Decidable.decide (i_15 < v_18)] then
      bif v_23 then
        some (.inr (.inl (Bool.false, ())))
      else
        let v_24 : Int := Go.IntKind.wrap Go.IntKind.i64 (i_15 + (1 : Int))
        some (.inl ((v_24, b_16, a_17), ()))
    else none
  else
    some (.inr (.inr ((), ())))
def Wh.laws_eqBucketS_l0_y : (((Bool)) × (Unit)) ⊕ ((Unit) × (Unit)) := .inl default
def Wh.laws_eqBucketS (xs : (List (tImplBucket.D)) × (List (tImplBucket.D))) : Option (((Bool)) × (Unit)) :=
  let a_0 : List (tImplBucket.D) := Prod.fst xs
  let b_1 : List (tImplBucket.D) := Prod.snd xs
  let v_2 : Int := (↑(List.length a_0) : Int)
  let v_3 : Int := (↑(List.length b_1) : Int)
  let v_4 : Bool := v_2 != v_3
  bif v_4 then
    some (Bool.false, ())
  else
    let x_25 : ((Int) × (List (tImplBucket.D)) × (List (tImplBucket.D))) × (Unit) := (((0 : Int), b_1, a_0), ())
    bif comesB Wh.laws_eqBucketS_l0 x_25 then
      sumC (comesV Wh.laws_eqBucketS_l0 Wh.laws_eqBucketS_l0_y x_25) (fun y_26 =>
        let v_28 : Bool := Prod.fst y_26
        some (v_28, ())) (fun _ =>
        some (Bool.true, ()))
    else none
def Wh.laws_eqBucketS' (xs : (List (tImplBucket.D)) × (List (tImplBucket.D))) : ((Bool)) × (Unit) := match Wh.laws_eqBucketS xs with | some y => y | none => default
theorem Wh.laws_eqBucketS_v (x : (List (tImplBucket.D)) × (List (tImplBucket.D))) (y : ((Bool)) × (Unit)) (h : Wh.laws_eqBucketS x = some y) : Wh.laws_eqBucketS' x = y := by unfold Wh.laws_eqBucketS'; rw [h]

def Wh.laws_eqServe (xs : (tImplServe.D) × (tImplServe.D)) : Option (((Bool)) × (Unit)) :=
  let a_0 : tImplServe.D := Prod.fst xs
  let b_1 : tImplServe.D := Prod.snd xs
  let v_2 : Bool := Prod.fst a_0 != Prod.fst b_1
  bif v_2 then
    some (Bool.false, ())
  else
    let v_3 : Bool := Prod.fst (Prod.snd a_0) != Prod.fst (Prod.snd b_1)
    bif v_3 then
      some (Bool.false, ())
    else
      let v_4 : Bool := Prod.fst (Prod.snd (Prod.snd a_0)) != Prod.fst (Prod.snd (Prod.snd b_1))
      bif v_4 then
        some (Bool.false, ())
      else
        let v_5 : Bool := Prod.fst (Prod.snd (Prod.snd (Prod.snd a_0))) != Prod.fst (Prod.snd (Prod.snd (Prod.snd b_1)))
        bif v_5 then
          some (Bool.false, ())
        else
          let v_6 : Bool := Prod.fst (Prod.snd (Prod.snd (Prod.snd (Prod.snd a_0)))) != Prod.fst (Prod.snd (Prod.snd (Prod.snd (Prod.snd b_1))))
          bif v_6 then
            some (Bool.false, ())
          else
            let v_7 : Bool := Prod.fst (Prod.snd (Prod.snd (Prod.snd (Prod.snd (Prod.snd a_0))))) != Prod.fst (Prod.snd (Prod.snd (Prod.snd (Prod.snd (Prod.snd b_1)))))
            bif v_7 then
              some (Bool.false, ())
            else
              some (Bool.true, ())
def Wh.laws_eqServe' (xs : (tImplServe.D) × (tImplServe.D)) : ((Bool)) × (Unit) := match Wh.laws_eqServe xs with | some y => y | none => default
theorem Wh.laws_eqServe_v (x : (tImplServe.D) × (tImplServe.D)) (y : ((Bool)) × (Unit)) (h : Wh.laws_eqServe x = some y) : Wh.laws_eqServe' x = y := by unfold Wh.laws_eqServe'; rw [h]

def Wh.laws_eqServeS_l0 (x : ((Int) × (List (tImplServe.D)) × (List (tImplServe.D))) × (Unit)) : Option ((((Int) × (List (tImplServe.D)) × (List (tImplServe.D))) × (Unit)) ⊕ ((((Bool)) × (Unit)) ⊕ ((Unit) × (Unit)))) :=
  let i_15 : Int := Prod.fst (Prod.fst x)
  let b_16 : List (tImplServe.D) := Prod.fst (Prod.snd (Prod.fst x))
  let a_17 : List (tImplServe.D) := Prod.snd (Prod.snd (Prod.fst x))
  let v_18 : Int := (↑(List.length a_17) : Int)
  let v_19 : Bool := Decidable.decide (i_15 < v_18)
  bif v_19 then
    let v_20 : tImplServe.D := List.getD a_17 (Int.toNat i_15) ((0 : Int), (0 : Int), (0 : Int), (0 : Int), (0 : Int), (0 : Int), ())
    let v_21 : tImplServe.D := List.getD b_16 (Int.toNat i_15) ((0 : Int), (0 : Int), (0 : Int), (0 : Int), (0 : Int), (0 : Int), ())
    let v_23 : Bool := !Prod.fst (Wh.laws_eqServe' (v_20, v_21))
    bif allB [Go.Ab.isSm (Wh.laws_eqServe (v_20, v_21)), Decidable.decide ((0 : Int) ≤ i_15), Decidable.decide (i_15 < (↑(List.length b_16) : Int)), Decidable.decide ((0 : Int) ≤ i_15), Decidable.decide (i_15 < v_18)] then
      bif v_23 then
        some (.inr (.inl (Bool.false, ())))
      else
        let v_24 : Int := Go.IntKind.wrap Go.IntKind.i64 (i_15 + (1 : Int))
        some (.inl ((v_24, b_16, a_17), ()))
    else none
  else
    some (.inr (.inr ((), ())))
def Wh.laws_eqServeS_l0_y : (((Bool)) × (Unit)) ⊕ ((Unit) × (Unit)) := .inl default
def Wh.laws_eqServeS (xs : (List (tImplServe.D)) × (List (tImplServe.D))) : Option (((Bool)) × (Unit)) :=
  let a_0 : List (tImplServe.D) := Prod.fst xs
  let b_1 : List (tImplServe.D) := Prod.snd xs
  let v_2 : Int := (↑(List.length a_0) : Int)
  let v_3 : Int := (↑(List.length b_1) : Int)
  let v_4 : Bool := v_2 != v_3
  bif v_4 then
    some (Bool.false, ())
  else
    let x_25 : ((Int) × (List (tImplServe.D)) × (List (tImplServe.D))) × (Unit) := (((0 : Int), b_1, a_0), ())
    bif comesB Wh.laws_eqServeS_l0 x_25 then
      sumC (comesV Wh.laws_eqServeS_l0 Wh.laws_eqServeS_l0_y x_25) (fun y_26 =>
        let v_28 : Bool := Prod.fst y_26
        some (v_28, ())) (fun _ =>
        some (Bool.true, ()))
    else none
def Wh.laws_eqServeS' (xs : (List (tImplServe.D)) × (List (tImplServe.D))) : ((Bool)) × (Unit) := match Wh.laws_eqServeS xs with | some y => y | none => default
theorem Wh.laws_eqServeS_v (x : (List (tImplServe.D)) × (List (tImplServe.D))) (y : ((Bool)) × (Unit)) (h : Wh.laws_eqServeS x = some y) : Wh.laws_eqServeS' x = y := by unfold Wh.laws_eqServeS'; rw [h]

def Wh.laws_eqServer (xs : (tImplServer.D) × (tImplServer.D)) : Option (((Bool)) × (Unit)) :=
  let a_0 : tImplServer.D := Prod.fst xs
  let b_1 : tImplServer.D := Prod.snd xs
  let v_2 : Bool := !Prod.fst a_0 == Prod.fst b_1
  bif v_2 then
    some (Bool.false, ())
  else
    let v_3 : Bool := Prod.fst (Prod.snd a_0) != Prod.fst (Prod.snd b_1)
    bif v_3 then
      some (Bool.false, ())
    else
      let v_4 : Bool := !Prod.fst (Prod.snd (Prod.snd a_0)) == Prod.fst (Prod.snd (Prod.snd b_1))
      bif v_4 then
        some (Bool.false, ())
      else
        let v_5 : Bool := Prod.fst (Wh.laws_eqCat' (Prod.fst (Prod.snd (Prod.snd (Prod.snd a_0))), Prod.fst (Prod.snd (Prod.snd (Prod.snd b_1)))))
        bif allB [Go.Ab.isSm (Wh.laws_eqCat (Prod.fst (Prod.snd (Prod.snd (Prod.snd a_0))), Prod.fst (Prod.snd (Prod.snd (Prod.snd b_1)))))] then
          bif !v_5 then
            some (Bool.false, ())
          else
            let v_6 : Bool := Prod.fst (Wh.laws_eqPool' (Prod.fst (Prod.snd (Prod.snd (Prod.snd (Prod.snd a_0)))), Prod.fst (Prod.snd (Prod.snd (Prod.snd (Prod.snd b_1))))))
            bif allB [Go.Ab.isSm (Wh.laws_eqPool (Prod.fst (Prod.snd (Prod.snd (Prod.snd (Prod.snd a_0)))), Prod.fst (Prod.snd (Prod.snd (Prod.snd (Prod.snd b_1))))))] then
              bif !v_6 then
                some (Bool.false, ())
              else
                let v_7 : Bool := Prod.fst (Wh.laws_eqBucketS' (Prod.fst (Prod.snd (Prod.snd (Prod.snd (Prod.snd (Prod.snd a_0))))), Prod.fst (Prod.snd (Prod.snd (Prod.snd (Prod.snd (Prod.snd b_1)))))))
                bif allB [Go.Ab.isSm (Wh.laws_eqBucketS (Prod.fst (Prod.snd (Prod.snd (Prod.snd (Prod.snd (Prod.snd a_0))))), Prod.fst (Prod.snd (Prod.snd (Prod.snd (Prod.snd (Prod.snd b_1)))))))] then
                  bif !v_7 then
                    some (Bool.false, ())
                  else
                    let v_8 : Bool := Prod.fst (Wh.laws_eqServeS' (Prod.fst (Prod.snd (Prod.snd (Prod.snd (Prod.snd (Prod.snd (Prod.snd a_0)))))), Prod.fst (Prod.snd (Prod.snd (Prod.snd (Prod.snd (Prod.snd (Prod.snd b_1))))))))
                    bif allB [Go.Ab.isSm (Wh.laws_eqServeS (Prod.fst (Prod.snd (Prod.snd (Prod.snd (Prod.snd (Prod.snd (Prod.snd a_0)))))), Prod.fst (Prod.snd (Prod.snd (Prod.snd (Prod.snd (Prod.snd (Prod.snd b_1))))))))] then
                      bif !v_8 then
                        some (Bool.false, ())
                      else
                        some (Bool.true, ())
                    else none
                else none
            else none
        else none
def Wh.laws_eqServer' (xs : (tImplServer.D) × (tImplServer.D)) : ((Bool)) × (Unit) := match Wh.laws_eqServer xs with | some y => y | none => default
theorem Wh.laws_eqServer_v (x : (tImplServer.D) × (tImplServer.D)) (y : ((Bool)) × (Unit)) (h : Wh.laws_eqServer x = some y) : Wh.laws_eqServer' x = y := by unfold Wh.laws_eqServer'; rw [h]

def Wh.laws_eqIntS_l0 (x : ((Int) × (List (Int)) × (List (Int))) × (Unit)) : Option ((((Int) × (List (Int)) × (List (Int))) × (Unit)) ⊕ ((((Bool)) × (Unit)) ⊕ ((Unit) × (Unit)))) :=
  let i_11 : Int := Prod.fst (Prod.fst x)
  let b_12 : List Int := Prod.fst (Prod.snd (Prod.fst x))
  let a_13 : List Int := Prod.snd (Prod.snd (Prod.fst x))
  let v_14 : Bool := Decidable.decide (i_11 < (↑(List.length a_13) : Int))
  bif v_14 then
    let v_15 : Int := List.getD a_13 (Int.toNat i_11) (0 : Int)
    let v_16 : Int := List.getD b_12 (Int.toNat i_11) (0 : Int)
    let v_17 : Bool := v_15 != v_16
    bif allB [Decidable.decide ((0 : Int) ≤ i_11), Decidable.decide (i_11 < (↑(List.length b_12) : Int)), Decidable.decide ((0 : Int) ≤ i_11), v_14] then
      bif v_17 then
        some (.inr (.inl (Bool.false, ())))
      else
        let v_18 : Int := Go.IntKind.wrap Go.IntKind.i64 (i_11 + (1 : Int))
        some (.inl ((v_18, b_12, a_13), ()))
    else none
  else
    some (.inr (.inr ((), ())))
def Wh.laws_eqIntS_l0_y : (((Bool)) × (Unit)) ⊕ ((Unit) × (Unit)) := .inl default
def Wh.laws_eqIntS (xs : (List (Int)) × (List (Int))) : Option (((Bool)) × (Unit)) :=
  let a_0 : List Int := Prod.fst xs
  let b_1 : List Int := Prod.snd xs
  let v_2 : Bool := (↑(List.length a_0) : Int) != (↑(List.length b_1) : Int)
  bif v_2 then
    some (Bool.false, ())
  else
    let x_19 : ((Int) × (List (Int)) × (List (Int))) × (Unit) := (((0 : Int), b_1, a_0), ())
    bif comesB Wh.laws_eqIntS_l0 x_19 then
      sumC (comesV Wh.laws_eqIntS_l0 Wh.laws_eqIntS_l0_y x_19) (fun y_20 =>
        let v_22 : Bool := Prod.fst y_20
        some (v_22, ())) (fun _ =>
        some (Bool.true, ()))
    else none
def Wh.laws_eqIntS' (xs : (List (Int)) × (List (Int))) : ((Bool)) × (Unit) := match Wh.laws_eqIntS xs with | some y => y | none => default
theorem Wh.laws_eqIntS_v (x : (List (Int)) × (List (Int))) (y : ((Bool)) × (Unit)) (h : Wh.laws_eqIntS x = some y) : Wh.laws_eqIntS' x = y := by unfold Wh.laws_eqIntS'; rw [h]

def Wh.laws_eqPlan (xs : (tImplPlan.D) × (tImplPlan.D)) : Option (((Bool)) × (Unit)) :=
  let a_0 : tImplPlan.D := Prod.fst xs
  let b_1 : tImplPlan.D := Prod.snd xs
  let v_2 : Bool := Prod.fst a_0 != Prod.fst b_1
  bif v_2 then
    some (Bool.false, ())
  else
    let v_3 : Bool := Prod.fst (Prod.snd a_0) != Prod.fst (Prod.snd b_1)
    bif v_3 then
      some (Bool.false, ())
    else
      let v_4 : Bool := Prod.fst (Wh.laws_eqIntS' (Prod.fst (Prod.snd (Prod.snd a_0)), Prod.fst (Prod.snd (Prod.snd b_1))))
      bif allB [Go.Ab.isSm (Wh.laws_eqIntS (Prod.fst (Prod.snd (Prod.snd a_0)), Prod.fst (Prod.snd (Prod.snd b_1))))] then
        bif !v_4 then
          some (Bool.false, ())
        else
          let v_5 : Bool := Prod.fst (Wh.laws_eqIntS' (Prod.fst (Prod.snd (Prod.snd (Prod.snd a_0))), Prod.fst (Prod.snd (Prod.snd (Prod.snd b_1)))))
          bif allB [Go.Ab.isSm (Wh.laws_eqIntS (Prod.fst (Prod.snd (Prod.snd (Prod.snd a_0))), Prod.fst (Prod.snd (Prod.snd (Prod.snd b_1)))))] then
            bif !v_5 then
              some (Bool.false, ())
            else
              some (Bool.true, ())
          else none
      else none
def Wh.laws_eqPlan' (xs : (tImplPlan.D) × (tImplPlan.D)) : ((Bool)) × (Unit) := match Wh.laws_eqPlan xs with | some y => y | none => default
theorem Wh.laws_eqPlan_v (x : (tImplPlan.D) × (tImplPlan.D)) (y : ((Bool)) × (Unit)) (h : Wh.laws_eqPlan x = some y) : Wh.laws_eqPlan' x = y := by unfold Wh.laws_eqPlan'; rw [h]

def Wh.laws_eqEq (xs : (tImplEq.D) × (tImplEq.D)) : Option (((Bool)) × (Unit)) :=
  let a_0 : tImplEq.D := Prod.fst xs
  let b_1 : tImplEq.D := Prod.snd xs
  let v_2 : Bool := Prod.fst (Wh.laws_eqIntS' (Prod.fst a_0, Prod.fst b_1))
  bif allB [Go.Ab.isSm (Wh.laws_eqIntS (Prod.fst a_0, Prod.fst b_1))] then
    bif !v_2 then
      some (Bool.false, ())
    else
      let v_3 : Bool := !Prod.fst (Prod.snd a_0) == Prod.fst (Prod.snd b_1)
      bif v_3 then
        some (Bool.false, ())
      else
        some (Bool.true, ())
  else none
def Wh.laws_eqEq' (xs : (tImplEq.D) × (tImplEq.D)) : ((Bool)) × (Unit) := match Wh.laws_eqEq xs with | some y => y | none => default
theorem Wh.laws_eqEq_v (x : (tImplEq.D) × (tImplEq.D)) (y : ((Bool)) × (Unit)) (h : Wh.laws_eqEq x = some y) : Wh.laws_eqEq' x = y := by unfold Wh.laws_eqEq'; rw [h]

def Wh.laws_eqEqS_l0 (x : ((Int) × (List (tImplEq.D)) × (List (tImplEq.D))) × (Unit)) : Option ((((Int) × (List (tImplEq.D)) × (List (tImplEq.D))) × (Unit)) ⊕ ((((Bool)) × (Unit)) ⊕ ((Unit) × (Unit)))) :=
  let i_15 : Int := Prod.fst (Prod.fst x)
  let b_16 : List (tImplEq.D) := Prod.fst (Prod.snd (Prod.fst x))
  let a_17 : List (tImplEq.D) := Prod.snd (Prod.snd (Prod.fst x))
  let v_18 : Int := (↑(List.length a_17) : Int)
  let v_19 : Bool := Decidable.decide (i_15 < v_18)
  bif v_19 then
    let v_20 : tImplEq.D := List.getD a_17 (Int.toNat i_15) ([], [], ())
    let v_21 : tImplEq.D := List.getD b_16 (Int.toNat i_15) ([], [], ())
    let v_23 : Bool := !Prod.fst (Wh.laws_eqEq' (v_20, v_21))
    bif allB [Go.Ab.isSm (Wh.laws_eqEq (v_20, v_21)), Decidable.decide ((0 : Int) ≤ i_15), Decidable.decide (i_15 < (↑(List.length b_16) : Int)), Decidable.decide ((0 : Int) ≤ i_15), Decidable.decide (i_15 < v_18)] then
      bif v_23 then
        some (.inr (.inl (Bool.false, ())))
      else
        let v_24 : Int := Go.IntKind.wrap Go.IntKind.i64 (i_15 + (1 : Int))
        some (.inl ((v_24, b_16, a_17), ()))
    else none
  else
    some (.inr (.inr ((), ())))
def Wh.laws_eqEqS_l0_y : (((Bool)) × (Unit)) ⊕ ((Unit) × (Unit)) := .inl default
def Wh.laws_eqEqS (xs : (List (tImplEq.D)) × (List (tImplEq.D))) : Option (((Bool)) × (Unit)) :=
  let a_0 : List (tImplEq.D) := Prod.fst xs
  let b_1 : List (tImplEq.D) := Prod.snd xs
  let v_2 : Int := (↑(List.length a_0) : Int)
  let v_3 : Int := (↑(List.length b_1) : Int)
  let v_4 : Bool := v_2 != v_3
  bif v_4 then
    some (Bool.false, ())
  else
    let x_25 : ((Int) × (List (tImplEq.D)) × (List (tImplEq.D))) × (Unit) := (((0 : Int), b_1, a_0), ())
    bif comesB Wh.laws_eqEqS_l0 x_25 then
      sumC (comesV Wh.laws_eqEqS_l0 Wh.laws_eqEqS_l0_y x_25) (fun y_26 =>
        let v_28 : Bool := Prod.fst y_26
        some (v_28, ())) (fun _ =>
        some (Bool.true, ()))
    else none
def Wh.laws_eqEqS' (xs : (List (tImplEq.D)) × (List (tImplEq.D))) : ((Bool)) × (Unit) := match Wh.laws_eqEqS xs with | some y => y | none => default
theorem Wh.laws_eqEqS_v (x : (List (tImplEq.D)) × (List (tImplEq.D))) (y : ((Bool)) × (Unit)) (h : Wh.laws_eqEqS x = some y) : Wh.laws_eqEqS' x = y := by unfold Wh.laws_eqEqS'; rw [h]

def Wh.laws_eqSolver (xs : (tImplSolver.D) × (tImplSolver.D)) : Option (((Bool)) × (Unit)) :=
  let a_0 : tImplSolver.D := Prod.fst xs
  let b_1 : tImplSolver.D := Prod.snd xs
  let v_2 : Bool := Prod.fst a_0 != Prod.fst b_1
  bif v_2 then
    some (Bool.false, ())
  else
    let v_3 : Bool := Prod.fst (Prod.snd a_0) != Prod.fst (Prod.snd b_1)
    bif v_3 then
      some (Bool.false, ())
    else
      let v_4 : Bool := Prod.fst (Wh.laws_eqEqS' (Prod.fst (Prod.snd (Prod.snd a_0)), Prod.fst (Prod.snd (Prod.snd b_1))))
      bif allB [Go.Ab.isSm (Wh.laws_eqEqS (Prod.fst (Prod.snd (Prod.snd a_0)), Prod.fst (Prod.snd (Prod.snd b_1))))] then
        bif !v_4 then
          some (Bool.false, ())
        else
          some (Bool.true, ())
      else none
def Wh.laws_eqSolver' (xs : (tImplSolver.D) × (tImplSolver.D)) : ((Bool)) × (Unit) := match Wh.laws_eqSolver xs with | some y => y | none => default
theorem Wh.laws_eqSolver_v (x : (tImplSolver.D) × (tImplSolver.D)) (y : ((Bool)) × (Unit)) (h : Wh.laws_eqSolver x = some y) : Wh.laws_eqSolver' x = y := by unfold Wh.laws_eqSolver'; rw [h]

def Wh.laws_eqGetting (xs : (tImplGetting.D) × (tImplGetting.D)) : Option (((Bool)) × (Unit)) :=
  let a_0 : tImplGetting.D := Prod.fst xs
  let b_1 : tImplGetting.D := Prod.snd xs
  let v_2 : Bool := Prod.fst (Wh.laws_eqPlan' (Prod.fst a_0, Prod.fst b_1))
  bif allB [Go.Ab.isSm (Wh.laws_eqPlan (Prod.fst a_0, Prod.fst b_1))] then
    bif !v_2 then
      some (Bool.false, ())
    else
      let v_3 : Bool := Prod.fst (Wh.laws_eqSolver' (Prod.fst (Prod.snd a_0), Prod.fst (Prod.snd b_1)))
      bif allB [Go.Ab.isSm (Wh.laws_eqSolver (Prod.fst (Prod.snd a_0), Prod.fst (Prod.snd b_1)))] then
        bif !v_3 then
          some (Bool.false, ())
        else
          some (Bool.true, ())
      else none
  else none
def Wh.laws_eqGetting' (xs : (tImplGetting.D) × (tImplGetting.D)) : ((Bool)) × (Unit) := match Wh.laws_eqGetting xs with | some y => y | none => default
theorem Wh.laws_eqGetting_v (x : (tImplGetting.D) × (tImplGetting.D)) (y : ((Bool)) × (Unit)) (h : Wh.laws_eqGetting x = some y) : Wh.laws_eqGetting' x = y := by unfold Wh.laws_eqGetting'; rw [h]

def Wh.laws_eqClient (xs : (tImplClient.D) × (tImplClient.D)) : Option (((Bool)) × (Unit)) :=
  let a_0 : tImplClient.D := Prod.fst xs
  let b_1 : tImplClient.D := Prod.snd xs
  let v_2 : Bool := Prod.fst a_0 != Prod.fst b_1
  bif v_2 then
    some (Bool.false, ())
  else
    let v_3 : Bool := Prod.fst (Prod.snd a_0) != Prod.fst (Prod.snd b_1)
    bif v_3 then
      some (Bool.false, ())
    else
      let v_4 : Bool := Prod.fst (Prod.snd (Prod.snd a_0)) != Prod.fst (Prod.snd (Prod.snd b_1))
      bif v_4 then
        some (Bool.false, ())
      else
        let v_5 : Bool := !Prod.fst (Prod.snd (Prod.snd (Prod.snd a_0))) == Prod.fst (Prod.snd (Prod.snd (Prod.snd b_1)))
        bif v_5 then
          some (Bool.false, ())
        else
          let v_6 : Bool := Prod.fst (Prod.snd (Prod.snd (Prod.snd (Prod.snd a_0)))) != Prod.fst (Prod.snd (Prod.snd (Prod.snd (Prod.snd b_1))))
          bif v_6 then
            some (Bool.false, ())
          else
            let v_7 : Bool := Prod.fst (Wh.laws_eqGetting' (Prod.fst (Prod.snd (Prod.snd (Prod.snd (Prod.snd (Prod.snd a_0))))), Prod.fst (Prod.snd (Prod.snd (Prod.snd (Prod.snd (Prod.snd b_1)))))))
            bif allB [Go.Ab.isSm (Wh.laws_eqGetting (Prod.fst (Prod.snd (Prod.snd (Prod.snd (Prod.snd (Prod.snd a_0))))), Prod.fst (Prod.snd (Prod.snd (Prod.snd (Prod.snd (Prod.snd b_1)))))))] then
              bif !v_7 then
                some (Bool.false, ())
              else
                some (Bool.true, ())
            else none
def Wh.laws_eqClient' (xs : (tImplClient.D) × (tImplClient.D)) : ((Bool)) × (Unit) := match Wh.laws_eqClient xs with | some y => y | none => default
theorem Wh.laws_eqClient_v (x : (tImplClient.D) × (tImplClient.D)) (y : ((Bool)) × (Unit)) (h : Wh.laws_eqClient x = some y) : Wh.laws_eqClient' x = y := by unfold Wh.laws_eqClient'; rw [h]

def Wh.laws_eqClientS_l0 (x : ((Int) × (List (tImplClient.D)) × (List (tImplClient.D))) × (Unit)) : Option ((((Int) × (List (tImplClient.D)) × (List (tImplClient.D))) × (Unit)) ⊕ ((((Bool)) × (Unit)) ⊕ ((Unit) × (Unit)))) :=
  let i_15 : Int := Prod.fst (Prod.fst x)
  let b_16 : List (tImplClient.D) := Prod.fst (Prod.snd (Prod.fst x))
  let a_17 : List (tImplClient.D) := Prod.snd (Prod.snd (Prod.fst x))
  let v_18 : Int := (↑(List.length a_17) : Int)
  let v_19 : Bool := Decidable.decide (i_15 < v_18)
  bif v_19 then
    let v_20 : tImplClient.D := List.getD a_17 (Int.toNat i_15) ((0 : Int), (0 : Int), (0 : Int), [], (0 : Int), (((0 : Int), (0 : Int), [], [], ()), ((0 : Int), (0 : Int), [], ()), ()), ())
    let v_21 : tImplClient.D := List.getD b_16 (Int.toNat i_15) ((0 : Int), (0 : Int), (0 : Int), [], (0 : Int), (((0 : Int), (0 : Int), [], [], ()), ((0 : Int), (0 : Int), [], ()), ()), ())
    let v_23 : Bool := !Prod.fst (Wh.laws_eqClient' (v_20, v_21))
    bif allB [Go.Ab.isSm (Wh.laws_eqClient (v_20, v_21)), Decidable.decide ((0 : Int) ≤ i_15), Decidable.decide (i_15 < (↑(List.length b_16) : Int)), Decidable.decide ((0 : Int) ≤ i_15), Decidable.decide (i_15 < v_18)] then
      bif v_23 then
        some (.inr (.inl (Bool.false, ())))
      else
        let v_24 : Int := Go.IntKind.wrap Go.IntKind.i64 (i_15 + (1 : Int))
        some (.inl ((v_24, b_16, a_17), ()))
    else none
  else
    some (.inr (.inr ((), ())))
def Wh.laws_eqClientS_l0_y : (((Bool)) × (Unit)) ⊕ ((Unit) × (Unit)) := .inl default
def Wh.laws_eqClientS (xs : (List (tImplClient.D)) × (List (tImplClient.D))) : Option (((Bool)) × (Unit)) :=
  let a_0 : List (tImplClient.D) := Prod.fst xs
  let b_1 : List (tImplClient.D) := Prod.snd xs
  let v_2 : Int := (↑(List.length a_0) : Int)
  let v_3 : Int := (↑(List.length b_1) : Int)
  let v_4 : Bool := v_2 != v_3
  bif v_4 then
    some (Bool.false, ())
  else
    let x_25 : ((Int) × (List (tImplClient.D)) × (List (tImplClient.D))) × (Unit) := (((0 : Int), b_1, a_0), ())
    bif comesB Wh.laws_eqClientS_l0 x_25 then
      sumC (comesV Wh.laws_eqClientS_l0 Wh.laws_eqClientS_l0_y x_25) (fun y_26 =>
        let v_28 : Bool := Prod.fst y_26
        some (v_28, ())) (fun _ =>
        some (Bool.true, ()))
    else none
def Wh.laws_eqClientS' (xs : (List (tImplClient.D)) × (List (tImplClient.D))) : ((Bool)) × (Unit) := match Wh.laws_eqClientS xs with | some y => y | none => default
theorem Wh.laws_eqClientS_v (x : (List (tImplClient.D)) × (List (tImplClient.D))) (y : ((Bool)) × (Unit)) (h : Wh.laws_eqClientS x = some y) : Wh.laws_eqClientS' x = y := by unfold Wh.laws_eqClientS'; rw [h]

def Wh.laws_eqPacket (xs : (tImplPacket.D) × (tImplPacket.D)) : Option (((Bool)) × (Unit)) :=
  let a_0 : tImplPacket.D := Prod.fst xs
  let b_1 : tImplPacket.D := Prod.snd xs
  let v_2 : Bool := Prod.fst a_0 != Prod.fst b_1
  bif v_2 then
    some (Bool.false, ())
  else
    let v_3 : Bool := !Prod.fst (Prod.snd a_0) == Prod.fst (Prod.snd b_1)
    bif v_3 then
      some (Bool.false, ())
    else
      let v_4 : Bool := !Prod.fst (Prod.snd (Prod.snd a_0)) == Prod.fst (Prod.snd (Prod.snd b_1))
      bif v_4 then
        some (Bool.false, ())
      else
        some (Bool.true, ())
def Wh.laws_eqPacket' (xs : (tImplPacket.D) × (tImplPacket.D)) : ((Bool)) × (Unit) := match Wh.laws_eqPacket xs with | some y => y | none => default
theorem Wh.laws_eqPacket_v (x : (tImplPacket.D) × (tImplPacket.D)) (y : ((Bool)) × (Unit)) (h : Wh.laws_eqPacket x = some y) : Wh.laws_eqPacket' x = y := by unfold Wh.laws_eqPacket'; rw [h]

def Wh.laws_eqPacketS_l0 (x : ((Int) × (List (tImplPacket.D)) × (List (tImplPacket.D))) × (Unit)) : Option ((((Int) × (List (tImplPacket.D)) × (List (tImplPacket.D))) × (Unit)) ⊕ ((((Bool)) × (Unit)) ⊕ ((Unit) × (Unit)))) :=
  let i_15 : Int := Prod.fst (Prod.fst x)
  let b_16 : List (tImplPacket.D) := Prod.fst (Prod.snd (Prod.fst x))
  let a_17 : List (tImplPacket.D) := Prod.snd (Prod.snd (Prod.fst x))
  let v_18 : Int := (↑(List.length a_17) : Int)
  let v_19 : Bool := Decidable.decide (i_15 < v_18)
  bif v_19 then
    let v_20 : tImplPacket.D := List.getD a_17 (Int.toNat i_15) ((0 : Int), [], Bool.false, ())
    let v_21 : tImplPacket.D := List.getD b_16 (Int.toNat i_15) ((0 : Int), [], Bool.false, ())
    let v_23 : Bool := !Prod.fst (Wh.laws_eqPacket' (v_20, v_21))
    bif allB [Go.Ab.isSm (Wh.laws_eqPacket (v_20, v_21)), Decidable.decide ((0 : Int) ≤ i_15), Decidable.decide (i_15 < (↑(List.length b_16) : Int)), Decidable.decide ((0 : Int) ≤ i_15), Decidable.decide (i_15 < v_18)] then
      bif v_23 then
        some (.inr (.inl (Bool.false, ())))
      else
        let v_24 : Int := Go.IntKind.wrap Go.IntKind.i64 (i_15 + (1 : Int))
        some (.inl ((v_24, b_16, a_17), ()))
    else none
  else
    some (.inr (.inr ((), ())))
def Wh.laws_eqPacketS_l0_y : (((Bool)) × (Unit)) ⊕ ((Unit) × (Unit)) := .inl default
def Wh.laws_eqPacketS (xs : (List (tImplPacket.D)) × (List (tImplPacket.D))) : Option (((Bool)) × (Unit)) :=
  let a_0 : List (tImplPacket.D) := Prod.fst xs
  let b_1 : List (tImplPacket.D) := Prod.snd xs
  let v_2 : Int := (↑(List.length a_0) : Int)
  let v_3 : Int := (↑(List.length b_1) : Int)
  let v_4 : Bool := v_2 != v_3
  bif v_4 then
    some (Bool.false, ())
  else
    let x_25 : ((Int) × (List (tImplPacket.D)) × (List (tImplPacket.D))) × (Unit) := (((0 : Int), b_1, a_0), ())
    bif comesB Wh.laws_eqPacketS_l0 x_25 then
      sumC (comesV Wh.laws_eqPacketS_l0 Wh.laws_eqPacketS_l0_y x_25) (fun y_26 =>
        let v_28 : Bool := Prod.fst y_26
        some (v_28, ())) (fun _ =>
        some (Bool.true, ()))
    else none
def Wh.laws_eqPacketS' (xs : (List (tImplPacket.D)) × (List (tImplPacket.D))) : ((Bool)) × (Unit) := match Wh.laws_eqPacketS xs with | some y => y | none => default
theorem Wh.laws_eqPacketS_v (x : (List (tImplPacket.D)) × (List (tImplPacket.D))) (y : ((Bool)) × (Unit)) (h : Wh.laws_eqPacketS x = some y) : Wh.laws_eqPacketS' x = y := by unfold Wh.laws_eqPacketS'; rw [h]

def Wh.laws_eqWorld (xs : (tImplWorld.D) × (tImplWorld.D)) : Option (((Bool)) × (Unit)) :=
  let a_0 : tImplWorld.D := Prod.fst xs
  let b_1 : tImplWorld.D := Prod.snd xs
  let v_2 : Bool := Prod.fst (Wh.laws_eqServer' (Prod.fst a_0, Prod.fst b_1))
  bif allB [Go.Ab.isSm (Wh.laws_eqServer (Prod.fst a_0, Prod.fst b_1))] then
    bif !v_2 then
      some (Bool.false, ())
    else
      let v_3 : Bool := Prod.fst (Wh.laws_eqClientS' (Prod.fst (Prod.snd a_0), Prod.fst (Prod.snd b_1)))
      bif allB [Go.Ab.isSm (Wh.laws_eqClientS (Prod.fst (Prod.snd a_0), Prod.fst (Prod.snd b_1)))] then
        bif !v_3 then
          some (Bool.false, ())
        else
          let v_4 : Bool := Prod.fst (Wh.laws_eqPacketS' (Prod.fst (Prod.snd (Prod.snd a_0)), Prod.fst (Prod.snd (Prod.snd b_1))))
          bif allB [Go.Ab.isSm (Wh.laws_eqPacketS (Prod.fst (Prod.snd (Prod.snd a_0)), Prod.fst (Prod.snd (Prod.snd b_1))))] then
            bif !v_4 then
              some (Bool.false, ())
            else
              let v_5 : Bool := Prod.fst (Wh.laws_eqItemS' (Prod.fst (Prod.snd (Prod.snd (Prod.snd a_0))), Prod.fst (Prod.snd (Prod.snd (Prod.snd b_1)))))
              bif allB [Go.Ab.isSm (Wh.laws_eqItemS (Prod.fst (Prod.snd (Prod.snd (Prod.snd a_0))), Prod.fst (Prod.snd (Prod.snd (Prod.snd b_1)))))] then
                bif !v_5 then
                  some (Bool.false, ())
                else
                  some (Bool.true, ())
              else none
          else none
      else none
  else none
def Wh.laws_eqWorld' (xs : (tImplWorld.D) × (tImplWorld.D)) : ((Bool)) × (Unit) := match Wh.laws_eqWorld xs with | some y => y | none => default
theorem Wh.laws_eqWorld_v (x : (tImplWorld.D) × (tImplWorld.D)) (y : ((Bool)) × (Unit)) (h : Wh.laws_eqWorld x = some y) : Wh.laws_eqWorld' x = y := by unfold Wh.laws_eqWorld'; rw [h]

def Wh.laws_markText_l0 (x : ((Int) × (List UInt8)) × (Unit)) : Option ((((Int) × (List UInt8)) × (Unit)) ⊕ ((((List UInt8)) × (Unit)))) :=
  let k_12 : Int := Prod.fst (Prod.fst x)
  let out_13 : List UInt8 := Prod.snd (Prod.fst x)
  let v_14 : Bool := Decidable.decide (k_12 > (0 : Int))
  bif v_14 then
    let pb_15 : List Int := [Go.IntKind.wrap Go.IntKind.u8 (Go.IntKind.wrap Go.IntKind.i64 ((48 : Int) + Int.tmod k_12 (10 : Int)))]
    let out_20 : List UInt8 := Go.Ab.strOf pb_15 ++ out_13
    bif allB [Decidable.decide ((1 : Nat) + List.length out_13 ≤ Go.Ab.maxRows), Bool.true] then
      let v_21 : Int := Go.IntKind.wrap Go.IntKind.i64 (Int.tdiv k_12 (10 : Int))
      some (.inl ((v_21, out_20), ()))
    else none
  else
    some (.inr (out_13, ()))
def Wh.laws_markText_l0_y : (((List UInt8)) × (Unit)) := default
def Wh.laws_markText (xs : (Int)) : Option (((List UInt8)) × (Unit)) :=
  let k_0 : Int := xs
  let v_1 : Bool := Decidable.decide (k_0 ≤ (0 : Int))
  bif v_1 then
    some ([(109 : UInt8), (48 : UInt8)], ())
  else
    let x_22 : ((Int) × (List UInt8)) × (Unit) := ((k_0, []), ())
    bif comesB Wh.laws_markText_l0 x_22 then
      let y_23 := comesV Wh.laws_markText_l0 Wh.laws_markText_l0_y x_22
      let out_24 : List UInt8 := Prod.fst y_23
      let v_25 : List UInt8 := [(109 : UInt8)] ++ out_24
      bif allB [Decidable.decide ((1 : Nat) + List.length out_24 ≤ Go.Ab.maxRows)] then
        some (v_25, ())
      else none
    else none
def Wh.laws_markText' (xs : (Int)) : ((List UInt8)) × (Unit) := match Wh.laws_markText xs with | some y => y | none => default
theorem Wh.laws_markText_v (x : (Int)) (y : ((List UInt8)) × (Unit)) (h : Wh.laws_markText x = some y) : Wh.laws_markText' x = y := by unfold Wh.laws_markText'; rw [h]

def Wh.laws_markItemS_l0 (x : ((Int) × (Unit) × (Int)) × ((List (tImplItem.D)))) : Option ((((Int) × (Unit) × (Int)) × ((List (tImplItem.D)))) ⊕ ((((Int)) × ((List (tImplItem.D)))))) :=
  let i_16 : Int := Prod.fst (Prod.fst x)
  let k_17 : Int := Prod.snd (Prod.snd (Prod.fst x))
  let pb_18 : List (tImplItem.D) := Prod.snd x
  let v_19 : Int := (↑(List.length pb_18) : Int)
  let v_20 : Bool := Decidable.decide (i_16 < v_19)
  bif v_20 then
    let pb_21 : List (tImplItem.D) := List.set pb_18 (Int.toNat i_16) (k_17, Prod.snd (List.getD pb_18 (Int.toNat i_16) ((0 : Int), [], (0 : Int), [], ())))
    bif allB [Decidable.decide ((0 : Int) ≤ i_16), Decidable.decide (i_16 < v_19)] then
      let v_22 : Int := Go.IntKind.wrap Go.IntKind.i64 (k_17 + (1 : Int))
      let pb_23 : List (tImplItem.D) := List.set pb_21 (Int.toNat i_16) (Prod.fst (List.getD pb_21 (Int.toNat i_16) ((0 : Int), [], (0 : Int), [], ())), Prod.fst (Wh.laws_markText' v_22), Prod.snd (Prod.snd (List.getD pb_21 (Int.toNat i_16) ((0 : Int), [], (0 : Int), [], ()))))
      bif allB [Decidable.decide ((0 : Int) ≤ i_16), Decidable.decide (i_16 < (↑(List.length pb_21) : Int)), Go.Ab.isSm (Wh.laws_markText v_22)] then
        let v_24 : Int := Go.IntKind.wrap Go.IntKind.i64 (v_22 + (1 : Int))
        let pb_25 : List (tImplItem.D) := List.set pb_23 (Int.toNat i_16) (Prod.fst (List.getD pb_23 (Int.toNat i_16) ((0 : Int), [], (0 : Int), [], ())), Prod.fst (Prod.snd (List.getD pb_23 (Int.toNat i_16) ((0 : Int), [], (0 : Int), [], ()))), v_24, Prod.snd (Prod.snd (Prod.snd (List.getD pb_23 (Int.toNat i_16) ((0 : Int), [], (0 : Int), [], ())))))
        bif allB [Decidable.decide ((0 : Int) ≤ i_16), Decidable.decide (i_16 < (↑(List.length pb_23) : Int))] then
          let v_26 : Int := Go.IntKind.wrap Go.IntKind.i64 (v_24 + (1 : Int))
          let pb_27 : List (tImplItem.D) := List.set pb_25 (Int.toNat i_16) (Prod.fst (List.getD pb_25 (Int.toNat i_16) ((0 : Int), [], (0 : Int), [], ())), Prod.fst (Prod.snd (List.getD pb_25 (Int.toNat i_16) ((0 : Int), [], (0 : Int), [], ()))), Prod.fst (Prod.snd (Prod.snd (List.getD pb_25 (Int.toNat i_16) ((0 : Int), [], (0 : Int), [], ())))), Prod.fst (Wh.laws_markText' v_26), Prod.snd (Prod.snd (Prod.snd (Prod.snd (List.getD pb_25 (Int.toNat i_16) ((0 : Int), [], (0 : Int), [], ()))))))
          bif allB [Decidable.decide ((0 : Int) ≤ i_16), Decidable.decide (i_16 < (↑(List.length pb_25) : Int)), Go.Ab.isSm (Wh.laws_markText v_26)] then
            let v_28 : Int := Go.IntKind.wrap Go.IntKind.i64 (v_26 + (1 : Int))
            let v_29 : Int := Go.IntKind.wrap Go.IntKind.i64 (i_16 + (1 : Int))
            some (.inl ((v_29, (), v_28), pb_27))
          else none
        else none
      else none
    else none
  else
    some (.inr (k_17, pb_18))
def Wh.laws_markItemS_l0_y : (((Int)) × ((List (tImplItem.D)))) := default
def Wh.laws_markItemS (xs : (List (tImplItem.D)) × (Int)) : Option (((Int)) × ((List (tImplItem.D)) × Unit)) :=
  let a_0 : List (tImplItem.D) := Prod.fst xs
  let k_1 : Int := Prod.snd xs
  let x_30 : ((Int) × (Unit) × (Int)) × ((List (tImplItem.D))) := (((0 : Int), (), k_1), a_0)
  bif comesB Wh.laws_markItemS_l0 x_30 then
    let y_31 := comesV Wh.laws_markItemS_l0 Wh.laws_markItemS_l0_y x_30
    let k_32 : Int := Prod.fst y_31
    let pb_33 : List (tImplItem.D) := Prod.snd y_31
    some (k_32, pb_33, ())
  else none
def Wh.laws_markItemS' (xs : (List (tImplItem.D)) × (Int)) : ((Int)) × ((List (tImplItem.D)) × Unit) := match Wh.laws_markItemS xs with | some y => y | none => default
theorem Wh.laws_markItemS_v (x : (List (tImplItem.D)) × (Int)) (y : ((Int)) × ((List (tImplItem.D)) × Unit)) (h : Wh.laws_markItemS x = some y) : Wh.laws_markItemS' x = y := by unfold Wh.laws_markItemS'; rw [h]

def Wh.laws_markCat (xs : (tImplCat.D) × (Int)) : Option (((Int)) × ((tImplCat.D) × Unit)) :=
  let a_0 : tImplCat.D := Prod.fst xs
  let k_1 : Int := Prod.snd xs
  let pb_2 : List (tImplItem.D) := Prod.fst (Prod.snd (Wh.laws_markItemS' (Prod.fst (Prod.snd a_0), k_1)))
  let v_3 : Int := Prod.fst (Wh.laws_markItemS' (Prod.fst (Prod.snd a_0), k_1))
  bif allB [Go.Ab.isSm (Wh.laws_markItemS (Prod.fst (Prod.snd a_0), k_1))] then
    some (v_3, (Prod.fst a_0, pb_2, Prod.snd (Prod.snd a_0)), ())
  else none
def Wh.laws_markCat' (xs : (tImplCat.D) × (Int)) : ((Int)) × ((tImplCat.D) × Unit) := match Wh.laws_markCat xs with | some y => y | none => default
theorem Wh.laws_markCat_v (x : (tImplCat.D) × (Int)) (y : ((Int)) × ((tImplCat.D) × Unit)) (h : Wh.laws_markCat x = some y) : Wh.laws_markCat' x = y := by unfold Wh.laws_markCat'; rw [h]

def Wh.laws_markFrameS_l0 (x : ((Int) × (Unit) × (Int)) × ((List (tImplFrame.D)))) : Option ((((Int) × (Unit) × (Int)) × ((List (tImplFrame.D)))) ⊕ ((((Int)) × ((List (tImplFrame.D)))))) :=
  let i_20 : Int := Prod.fst (Prod.fst x)
  let k_21 : Int := Prod.snd (Prod.snd (Prod.fst x))
  let pb_22 : List (tImplFrame.D) := Prod.snd x
  let v_23 : Int := (↑(List.length pb_22) : Int)
  let v_24 : Bool := Decidable.decide (i_20 < v_23)
  bif v_24 then
    let pb_25 : List (tImplFrame.D) := List.set pb_22 (Int.toNat i_20) (k_21, Prod.snd (List.getD pb_22 (Int.toNat i_20) ((0 : Int), (0 : Int), (0 : Int), (0 : Int), Bool.false, ())))
    bif allB [Decidable.decide ((0 : Int) ≤ i_20), Decidable.decide (i_20 < v_23)] then
      let v_26 : Int := Go.IntKind.wrap Go.IntKind.i64 (k_21 + (1 : Int))
      let pb_27 : List (tImplFrame.D) := List.set pb_25 (Int.toNat i_20) (Prod.fst (List.getD pb_25 (Int.toNat i_20) ((0 : Int), (0 : Int), (0 : Int), (0 : Int), Bool.false, ())), v_26, Prod.snd (Prod.snd (List.getD pb_25 (Int.toNat i_20) ((0 : Int), (0 : Int), (0 : Int), (0 : Int), Bool.false, ()))))
      bif allB [Decidable.decide ((0 : Int) ≤ i_20), Decidable.decide (i_20 < (↑(List.length pb_25) : Int))] then
        let v_28 : Int := Go.IntKind.wrap Go.IntKind.i64 (v_26 + (1 : Int))
        let pb_29 : List (tImplFrame.D) := List.set pb_27 (Int.toNat i_20) (Prod.fst (List.getD pb_27 (Int.toNat i_20) ((0 : Int), (0 : Int), (0 : Int), (0 : Int), Bool.false, ())), Prod.fst (Prod.snd (List.getD pb_27 (Int.toNat i_20) ((0 : Int), (0 : Int), (0 : Int), (0 : Int), Bool.false, ()))), v_28, Prod.snd (Prod.snd (Prod.snd (List.getD pb_27 (Int.toNat i_20) ((0 : Int), (0 : Int), (0 : Int), (0 : Int), Bool.false, ())))))
        bif allB [Decidable.decide ((0 : Int) ≤ i_20), Decidable.decide (i_20 < (↑(List.length pb_27) : Int))] then
          let v_30 : Int := Go.IntKind.wrap Go.IntKind.i64 (v_28 + (1 : Int))
          let pb_31 : List (tImplFrame.D) := List.set pb_29 (Int.toNat i_20) (Prod.fst (List.getD pb_29 (Int.toNat i_20) ((0 : Int), (0 : Int), (0 : Int), (0 : Int), Bool.false, ())), Prod.fst (Prod.snd (List.getD pb_29 (Int.toNat i_20) ((0 : Int), (0 : Int), (0 : Int), (0 : Int), Bool.false, ()))), Prod.fst (Prod.snd (Prod.snd (List.getD pb_29 (Int.toNat i_20) ((0 : Int), (0 : Int), (0 : Int), (0 : Int), Bool.false, ())))), v_30, Prod.snd (Prod.snd (Prod.snd (Prod.snd (List.getD pb_29 (Int.toNat i_20) ((0 : Int), (0 : Int), (0 : Int), (0 : Int), Bool.false, ()))))))
          bif allB [Decidable.decide ((0 : Int) ≤ i_20), Decidable.decide (i_20 < (↑(List.length pb_29) : Int))] then
            let v_32 : Int := Go.IntKind.wrap Go.IntKind.i64 (v_30 + (1 : Int))
            let pb_33 : List (tImplFrame.D) := List.set pb_31 (Int.toNat i_20) (Prod.fst (List.getD pb_31 (Int.toNat i_20) ((0 : Int), (0 : Int), (0 : Int), (0 : Int), Bool.false, ())), Prod.fst (Prod.snd (List.getD pb_31 (Int.toNat i_20) ((0 : Int), (0 : Int), (0 : Int), (0 : Int), Bool.false, ()))), Prod.fst (Prod.snd (Prod.snd (List.getD pb_31 (Int.toNat i_20) ((0 : Int), (0 : Int), (0 : Int), (0 : Int), Bool.false, ())))), Prod.fst (Prod.snd (Prod.snd (Prod.snd (List.getD pb_31 (Int.toNat i_20) ((0 : Int), (0 : Int), (0 : Int), (0 : Int), Bool.false, ()))))), Int.tmod v_32 (3 : Int) == (0 : Int), Prod.snd (Prod.snd (Prod.snd (Prod.snd (Prod.snd (List.getD pb_31 (Int.toNat i_20) ((0 : Int), (0 : Int), (0 : Int), (0 : Int), Bool.false, ())))))))
            bif allB [Decidable.decide ((0 : Int) ≤ i_20), Decidable.decide (i_20 < (↑(List.length pb_31) : Int)), Bool.true] then
              let v_36 : Int := Go.IntKind.wrap Go.IntKind.i64 (v_32 + (1 : Int))
              let v_37 : Int := Go.IntKind.wrap Go.IntKind.i64 (i_20 + (1 : Int))
              some (.inl ((v_37, (), v_36), pb_33))
            else none
          else none
        else none
      else none
    else none
  else
    some (.inr (k_21, pb_22))
def Wh.laws_markFrameS_l0_y : (((Int)) × ((List (tImplFrame.D)))) := default
def Wh.laws_markFrameS (xs : (List (tImplFrame.D)) × (Int)) : Option (((Int)) × ((List (tImplFrame.D)) × Unit)) :=
  let a_0 : List (tImplFrame.D) := Prod.fst xs
  let k_1 : Int := Prod.snd xs
  let x_38 : ((Int) × (Unit) × (Int)) × ((List (tImplFrame.D))) := (((0 : Int), (), k_1), a_0)
  bif comesB Wh.laws_markFrameS_l0 x_38 then
    let y_39 := comesV Wh.laws_markFrameS_l0 Wh.laws_markFrameS_l0_y x_38
    let k_40 : Int := Prod.fst y_39
    let pb_41 : List (tImplFrame.D) := Prod.snd y_39
    some (k_40, pb_41, ())
  else none
def Wh.laws_markFrameS' (xs : (List (tImplFrame.D)) × (Int)) : ((Int)) × ((List (tImplFrame.D)) × Unit) := match Wh.laws_markFrameS xs with | some y => y | none => default
theorem Wh.laws_markFrameS_v (x : (List (tImplFrame.D)) × (Int)) (y : ((Int)) × ((List (tImplFrame.D)) × Unit)) (h : Wh.laws_markFrameS x = some y) : Wh.laws_markFrameS' x = y := by unfold Wh.laws_markFrameS'; rw [h]

def Wh.laws_markPool (xs : (tImplPool.D) × (Int)) : Option (((Int)) × ((tImplPool.D) × Unit)) :=
  let a_0 : tImplPool.D := Prod.fst xs
  let k_1 : Int := Prod.snd xs
  let pb_2 : List (tImplFrame.D) := Prod.fst (Prod.snd (Wh.laws_markFrameS' (Prod.fst a_0, k_1)))
  let v_3 : Int := Prod.fst (Wh.laws_markFrameS' (Prod.fst a_0, k_1))
  bif allB [Go.Ab.isSm (Wh.laws_markFrameS (Prod.fst a_0, k_1))] then
    some (v_3, (pb_2, Prod.snd a_0), ())
  else none
def Wh.laws_markPool' (xs : (tImplPool.D) × (Int)) : ((Int)) × ((tImplPool.D) × Unit) := match Wh.laws_markPool xs with | some y => y | none => default
theorem Wh.laws_markPool_v (x : (tImplPool.D) × (Int)) (y : ((Int)) × ((tImplPool.D) × Unit)) (h : Wh.laws_markPool x = some y) : Wh.laws_markPool' x = y := by unfold Wh.laws_markPool'; rw [h]

def Wh.laws_markBucketS_l0 (x : ((Int) × (Unit) × (Int)) × ((List (tImplBucket.D)))) : Option ((((Int) × (Unit) × (Int)) × ((List (tImplBucket.D)))) ⊕ ((((Int)) × ((List (tImplBucket.D)))))) :=
  let i_16 : Int := Prod.fst (Prod.fst x)
  let k_17 : Int := Prod.snd (Prod.snd (Prod.fst x))
  let pb_18 : List (tImplBucket.D) := Prod.snd x
  let v_19 : Int := (↑(List.length pb_18) : Int)
  let v_20 : Bool := Decidable.decide (i_16 < v_19)
  bif v_20 then
    let pb_21 : List (tImplBucket.D) := List.set pb_18 (Int.toNat i_16) (k_17, Prod.snd (List.getD pb_18 (Int.toNat i_16) ((0 : Int), (0 : Int), (0 : Int), (0 : Int), ())))
    bif allB [Decidable.decide ((0 : Int) ≤ i_16), Decidable.decide (i_16 < v_19)] then
      let v_22 : Int := Go.IntKind.wrap Go.IntKind.i64 (k_17 + (1 : Int))
      let pb_23 : List (tImplBucket.D) := List.set pb_21 (Int.toNat i_16) (Prod.fst (List.getD pb_21 (Int.toNat i_16) ((0 : Int), (0 : Int), (0 : Int), (0 : Int), ())), v_22, Prod.snd (Prod.snd (List.getD pb_21 (Int.toNat i_16) ((0 : Int), (0 : Int), (0 : Int), (0 : Int), ()))))
      bif allB [Decidable.decide ((0 : Int) ≤ i_16), Decidable.decide (i_16 < (↑(List.length pb_21) : Int))] then
        let v_24 : Int := Go.IntKind.wrap Go.IntKind.i64 (v_22 + (1 : Int))
        let pb_25 : List (tImplBucket.D) := List.set pb_23 (Int.toNat i_16) (Prod.fst (List.getD pb_23 (Int.toNat i_16) ((0 : Int), (0 : Int), (0 : Int), (0 : Int), ())), Prod.fst (Prod.snd (List.getD pb_23 (Int.toNat i_16) ((0 : Int), (0 : Int), (0 : Int), (0 : Int), ()))), v_24, Prod.snd (Prod.snd (Prod.snd (List.getD pb_23 (Int.toNat i_16) ((0 : Int), (0 : Int), (0 : Int), (0 : Int), ())))))
        bif allB [Decidable.decide ((0 : Int) ≤ i_16), Decidable.decide (i_16 < (↑(List.length pb_23) : Int))] then
          let v_26 : Int := Go.IntKind.wrap Go.IntKind.i64 (v_24 + (1 : Int))
          let pb_27 : List (tImplBucket.D) := List.set pb_25 (Int.toNat i_16) (Prod.fst (List.getD pb_25 (Int.toNat i_16) ((0 : Int), (0 : Int), (0 : Int), (0 : Int), ())), Prod.fst (Prod.snd (List.getD pb_25 (Int.toNat i_16) ((0 : Int), (0 : Int), (0 : Int), (0 : Int), ()))), Prod.fst (Prod.snd (Prod.snd (List.getD pb_25 (Int.toNat i_16) ((0 : Int), (0 : Int), (0 : Int), (0 : Int), ())))), v_26, Prod.snd (Prod.snd (Prod.snd (Prod.snd (List.getD pb_25 (Int.toNat i_16) ((0 : Int), (0 : Int), (0 : Int), (0 : Int), ()))))))
          bif allB [Decidable.decide ((0 : Int) ≤ i_16), Decidable.decide (i_16 < (↑(List.length pb_25) : Int))] then
            let v_28 : Int := Go.IntKind.wrap Go.IntKind.i64 (v_26 + (1 : Int))
            let v_29 : Int := Go.IntKind.wrap Go.IntKind.i64 (i_16 + (1 : Int))
            some (.inl ((v_29, (), v_28), pb_27))
          else none
        else none
      else none
    else none
  else
    some (.inr (k_17, pb_18))
def Wh.laws_markBucketS_l0_y : (((Int)) × ((List (tImplBucket.D)))) := default
def Wh.laws_markBucketS (xs : (List (tImplBucket.D)) × (Int)) : Option (((Int)) × ((List (tImplBucket.D)) × Unit)) :=
  let a_0 : List (tImplBucket.D) := Prod.fst xs
  let k_1 : Int := Prod.snd xs
  let x_30 : ((Int) × (Unit) × (Int)) × ((List (tImplBucket.D))) := (((0 : Int), (), k_1), a_0)
  bif comesB Wh.laws_markBucketS_l0 x_30 then
    let y_31 := comesV Wh.laws_markBucketS_l0 Wh.laws_markBucketS_l0_y x_30
    let k_32 : Int := Prod.fst y_31
    let pb_33 : List (tImplBucket.D) := Prod.snd y_31
    some (k_32, pb_33, ())
  else none
def Wh.laws_markBucketS' (xs : (List (tImplBucket.D)) × (Int)) : ((Int)) × ((List (tImplBucket.D)) × Unit) := match Wh.laws_markBucketS xs with | some y => y | none => default
theorem Wh.laws_markBucketS_v (x : (List (tImplBucket.D)) × (Int)) (y : ((Int)) × ((List (tImplBucket.D)) × Unit)) (h : Wh.laws_markBucketS x = some y) : Wh.laws_markBucketS' x = y := by unfold Wh.laws_markBucketS'; rw [h]

def Wh.laws_markServeS_l0 (x : ((Int) × (Unit) × (Int)) × ((List (tImplServe.D)))) : Option ((((Int) × (Unit) × (Int)) × ((List (tImplServe.D)))) ⊕ ((((Int)) × ((List (tImplServe.D)))))) :=
  let i_20 : Int := Prod.fst (Prod.fst x)
  let k_21 : Int := Prod.snd (Prod.snd (Prod.fst x))
  let pb_22 : List (tImplServe.D) := Prod.snd x
  let v_23 : Int := (↑(List.length pb_22) : Int)
  let v_24 : Bool := Decidable.decide (i_20 < v_23)
  bif v_24 then
    let pb_25 : List (tImplServe.D) := List.set pb_22 (Int.toNat i_20) (k_21, Prod.snd (List.getD pb_22 (Int.toNat i_20) ((0 : Int), (0 : Int), (0 : Int), (0 : Int), (0 : Int), (0 : Int), ())))
    bif allB [Decidable.decide ((0 : Int) ≤ i_20), Decidable.decide (i_20 < v_23)] then
      let v_26 : Int := Go.IntKind.wrap Go.IntKind.i64 (k_21 + (1 : Int))
      let pb_27 : List (tImplServe.D) := List.set pb_25 (Int.toNat i_20) (Prod.fst (List.getD pb_25 (Int.toNat i_20) ((0 : Int), (0 : Int), (0 : Int), (0 : Int), (0 : Int), (0 : Int), ())), v_26, Prod.snd (Prod.snd (List.getD pb_25 (Int.toNat i_20) ((0 : Int), (0 : Int), (0 : Int), (0 : Int), (0 : Int), (0 : Int), ()))))
      bif allB [Decidable.decide ((0 : Int) ≤ i_20), Decidable.decide (i_20 < (↑(List.length pb_25) : Int))] then
        let v_28 : Int := Go.IntKind.wrap Go.IntKind.i64 (v_26 + (1 : Int))
        let pb_29 : List (tImplServe.D) := List.set pb_27 (Int.toNat i_20) (Prod.fst (List.getD pb_27 (Int.toNat i_20) ((0 : Int), (0 : Int), (0 : Int), (0 : Int), (0 : Int), (0 : Int), ())), Prod.fst (Prod.snd (List.getD pb_27 (Int.toNat i_20) ((0 : Int), (0 : Int), (0 : Int), (0 : Int), (0 : Int), (0 : Int), ()))), v_28, Prod.snd (Prod.snd (Prod.snd (List.getD pb_27 (Int.toNat i_20) ((0 : Int), (0 : Int), (0 : Int), (0 : Int), (0 : Int), (0 : Int), ())))))
        bif allB [Decidable.decide ((0 : Int) ≤ i_20), Decidable.decide (i_20 < (↑(List.length pb_27) : Int))] then
          let v_30 : Int := Go.IntKind.wrap Go.IntKind.i64 (v_28 + (1 : Int))
          let pb_31 : List (tImplServe.D) := List.set pb_29 (Int.toNat i_20) (Prod.fst (List.getD pb_29 (Int.toNat i_20) ((0 : Int), (0 : Int), (0 : Int), (0 : Int), (0 : Int), (0 : Int), ())), Prod.fst (Prod.snd (List.getD pb_29 (Int.toNat i_20) ((0 : Int), (0 : Int), (0 : Int), (0 : Int), (0 : Int), (0 : Int), ()))), Prod.fst (Prod.snd (Prod.snd (List.getD pb_29 (Int.toNat i_20) ((0 : Int), (0 : Int), (0 : Int), (0 : Int), (0 : Int), (0 : Int), ())))), v_30, Prod.snd (Prod.snd (Prod.snd (Prod.snd (List.getD pb_29 (Int.toNat i_20) ((0 : Int), (0 : Int), (0 : Int), (0 : Int), (0 : Int), (0 : Int), ()))))))
          bif allB [Decidable.decide ((0 : Int) ≤ i_20), Decidable.decide (i_20 < (↑(List.length pb_29) : Int))] then
            let v_32 : Int := Go.IntKind.wrap Go.IntKind.i64 (v_30 + (1 : Int))
            let pb_33 : List (tImplServe.D) := List.set pb_31 (Int.toNat i_20) (Prod.fst (List.getD pb_31 (Int.toNat i_20) ((0 : Int), (0 : Int), (0 : Int), (0 : Int), (0 : Int), (0 : Int), ())), Prod.fst (Prod.snd (List.getD pb_31 (Int.toNat i_20) ((0 : Int), (0 : Int), (0 : Int), (0 : Int), (0 : Int), (0 : Int), ()))), Prod.fst (Prod.snd (Prod.snd (List.getD pb_31 (Int.toNat i_20) ((0 : Int), (0 : Int), (0 : Int), (0 : Int), (0 : Int), (0 : Int), ())))), Prod.fst (Prod.snd (Prod.snd (Prod.snd (List.getD pb_31 (Int.toNat i_20) ((0 : Int), (0 : Int), (0 : Int), (0 : Int), (0 : Int), (0 : Int), ()))))), v_32, Prod.snd (Prod.snd (Prod.snd (Prod.snd (Prod.snd (List.getD pb_31 (Int.toNat i_20) ((0 : Int), (0 : Int), (0 : Int), (0 : Int), (0 : Int), (0 : Int), ())))))))
            bif allB [Decidable.decide ((0 : Int) ≤ i_20), Decidable.decide (i_20 < (↑(List.length pb_31) : Int))] then
              let v_34 : Int := Go.IntKind.wrap Go.IntKind.i64 (v_32 + (1 : Int))
              let pb_35 : List (tImplServe.D) := List.set pb_33 (Int.toNat i_20) (Prod.fst (List.getD pb_33 (Int.toNat i_20) ((0 : Int), (0 : Int), (0 : Int), (0 : Int), (0 : Int), (0 : Int), ())), Prod.fst (Prod.snd (List.getD pb_33 (Int.toNat i_20) ((0 : Int), (0 : Int), (0 : Int), (0 : Int), (0 : Int), (0 : Int), ()))), Prod.fst (Prod.snd (Prod.snd (List.getD pb_33 (Int.toNat i_20) ((0 : Int), (0 : Int), (0 : Int), (0 : Int), (0 : Int), (0 : Int), ())))), Prod.fst (Prod.snd (Prod.snd (Prod.snd (List.getD pb_33 (Int.toNat i_20) ((0 : Int), (0 : Int), (0 : Int), (0 : Int), (0 : Int), (0 : Int), ()))))), Prod.fst (Prod.snd (Prod.snd (Prod.snd (Prod.snd (List.getD pb_33 (Int.toNat i_20) ((0 : Int), (0 : Int), (0 : Int), (0 : Int), (0 : Int), (0 : Int), ())))))), v_34, Prod.snd (Prod.snd (Prod.snd (Prod.snd (Prod.snd (Prod.snd (List.getD pb_33 (Int.toNat i_20) ((0 : Int), (0 : Int), (0 : Int), (0 : Int), (0 : Int), (0 : Int), ()))))))))
              bif allB [Decidable.decide ((0 : Int) ≤ i_20), Decidable.decide (i_20 < (↑(List.length pb_33) : Int))] then
                let v_36 : Int := Go.IntKind.wrap Go.IntKind.i64 (v_34 + (1 : Int))
                let v_37 : Int := Go.IntKind.wrap Go.IntKind.i64 (i_20 + (1 : Int))
                some (.inl ((v_37, (), v_36), pb_35))
              else none
            else none
          else none
        else none
      else none
    else none
  else
    some (.inr (k_21, pb_22))
def Wh.laws_markServeS_l0_y : (((Int)) × ((List (tImplServe.D)))) := default
def Wh.laws_markServeS (xs : (List (tImplServe.D)) × (Int)) : Option (((Int)) × ((List (tImplServe.D)) × Unit)) :=
  let a_0 : List (tImplServe.D) := Prod.fst xs
  let k_1 : Int := Prod.snd xs
  let x_38 : ((Int) × (Unit) × (Int)) × ((List (tImplServe.D))) := (((0 : Int), (), k_1), a_0)
  bif comesB Wh.laws_markServeS_l0 x_38 then
    let y_39 := comesV Wh.laws_markServeS_l0 Wh.laws_markServeS_l0_y x_38
    let k_40 : Int := Prod.fst y_39
    let pb_41 : List (tImplServe.D) := Prod.snd y_39
    some (k_40, pb_41, ())
  else none
def Wh.laws_markServeS' (xs : (List (tImplServe.D)) × (Int)) : ((Int)) × ((List (tImplServe.D)) × Unit) := match Wh.laws_markServeS xs with | some y => y | none => default
theorem Wh.laws_markServeS_v (x : (List (tImplServe.D)) × (Int)) (y : ((Int)) × ((List (tImplServe.D)) × Unit)) (h : Wh.laws_markServeS x = some y) : Wh.laws_markServeS' x = y := by unfold Wh.laws_markServeS'; rw [h]

def Wh.laws_markServer (xs : (tImplServer.D) × (Int)) : Option (((Int)) × ((tImplServer.D) × Unit)) :=
  let a_0 : tImplServer.D := Prod.fst xs
  let k_1 : Int := Prod.snd xs
  let pb_2 : List (tImplItem.D) := Prod.fst (Prod.snd (Prod.fst (Prod.snd (Wh.laws_markCat' ((Prod.fst (Prod.fst (Prod.snd (Prod.snd (Prod.snd a_0)))), Prod.fst (Prod.snd (Prod.fst (Prod.snd (Prod.snd (Prod.snd a_0))))), Prod.snd (Prod.snd (Prod.fst (Prod.snd (Prod.snd (Prod.snd a_0)))))), k_1)))))
  let v_3 : Int := Prod.fst (Wh.laws_markCat' ((Prod.fst (Prod.fst (Prod.snd (Prod.snd (Prod.snd a_0)))), Prod.fst (Prod.snd (Prod.fst (Prod.snd (Prod.snd (Prod.snd a_0))))), Prod.snd (Prod.snd (Prod.fst (Prod.snd (Prod.snd (Prod.snd a_0)))))), k_1))
  bif allB [Go.Ab.isSm (Wh.laws_markCat ((Prod.fst (Prod.fst (Prod.snd (Prod.snd (Prod.snd a_0)))), Prod.fst (Prod.snd (Prod.fst (Prod.snd (Prod.snd (Prod.snd a_0))))), Prod.snd (Prod.snd (Prod.fst (Prod.snd (Prod.snd (Prod.snd a_0)))))), k_1))] then
    let pb_4 : List (tImplFrame.D) := Prod.fst (Prod.fst (Prod.snd (Wh.laws_markPool' ((Prod.fst (Prod.fst (Prod.snd (Prod.snd (Prod.snd (Prod.snd a_0))))), Prod.snd (Prod.fst (Prod.snd (Prod.snd (Prod.snd (Prod.snd a_0)))))), v_3))))
    let v_5 : Int := Prod.fst (Wh.laws_markPool' ((Prod.fst (Prod.fst (Prod.snd (Prod.snd (Prod.snd (Prod.snd a_0))))), Prod.snd (Prod.fst (Prod.snd (Prod.snd (Prod.snd (Prod.snd a_0)))))), v_3))
    bif allB [Go.Ab.isSm (Wh.laws_markPool ((Prod.fst (Prod.fst (Prod.snd (Prod.snd (Prod.snd (Prod.snd a_0))))), Prod.snd (Prod.fst (Prod.snd (Prod.snd (Prod.snd (Prod.snd a_0)))))), v_3))] then
      let pb_6 : List (tImplBucket.D) := Prod.fst (Prod.snd (Wh.laws_markBucketS' (Prod.fst (Prod.snd (Prod.snd (Prod.snd (Prod.snd (Prod.snd a_0))))), v_5)))
      let v_7 : Int := Prod.fst (Wh.laws_markBucketS' (Prod.fst (Prod.snd (Prod.snd (Prod.snd (Prod.snd (Prod.snd a_0))))), v_5))
      bif allB [Go.Ab.isSm (Wh.laws_markBucketS (Prod.fst (Prod.snd (Prod.snd (Prod.snd (Prod.snd (Prod.snd a_0))))), v_5))] then
        let pb_8 : List (tImplServe.D) := Prod.fst (Prod.snd (Wh.laws_markServeS' (Prod.fst (Prod.snd (Prod.snd (Prod.snd (Prod.snd (Prod.snd (Prod.snd a_0)))))), v_7)))
        let v_9 : Int := Prod.fst (Wh.laws_markServeS' (Prod.fst (Prod.snd (Prod.snd (Prod.snd (Prod.snd (Prod.snd (Prod.snd a_0)))))), v_7))
        bif allB [Go.Ab.isSm (Wh.laws_markServeS (Prod.fst (Prod.snd (Prod.snd (Prod.snd (Prod.snd (Prod.snd (Prod.snd a_0)))))), v_7))] then
          some (v_9, (Prod.fst a_0, Prod.fst (Prod.snd a_0), Prod.fst (Prod.snd (Prod.snd a_0)), (Prod.fst (Prod.fst (Prod.snd (Prod.snd (Prod.snd a_0)))), pb_2, Prod.snd (Prod.snd (Prod.fst (Prod.snd (Prod.snd (Prod.snd a_0)))))), (pb_4, Prod.snd (Prod.fst (Prod.snd (Prod.snd (Prod.snd (Prod.snd a_0)))))), pb_6, pb_8, Prod.snd (Prod.snd (Prod.snd (Prod.snd (Prod.snd (Prod.snd (Prod.snd a_0))))))), ())
        else none
      else none
    else none
  else none
def Wh.laws_markServer' (xs : (tImplServer.D) × (Int)) : ((Int)) × ((tImplServer.D) × Unit) := match Wh.laws_markServer xs with | some y => y | none => default
theorem Wh.laws_markServer_v (x : (tImplServer.D) × (Int)) (y : ((Int)) × ((tImplServer.D) × Unit)) (h : Wh.laws_markServer x = some y) : Wh.laws_markServer' x = y := by unfold Wh.laws_markServer'; rw [h]

def Wh.laws_markIntS_l0 (x : ((Int) × (Int) × (Unit)) × ((List (Int)))) : Option ((((Int) × (Int) × (Unit)) × ((List (Int)))) ⊕ ((((Int)) × ((List (Int)))))) :=
  let i_8 : Int := Prod.fst (Prod.fst x)
  let k_9 : Int := Prod.fst (Prod.snd (Prod.fst x))
  let pb_10 : List Int := Prod.snd x
  let v_11 : Bool := Decidable.decide (i_8 < (↑(List.length pb_10) : Int))
  bif v_11 then
    bif allB [Decidable.decide ((0 : Int) ≤ i_8), v_11] then
      let v_12 : Int := Go.IntKind.wrap Go.IntKind.i64 (k_9 + (1 : Int))
      let v_13 : Int := Go.IntKind.wrap Go.IntKind.i64 (i_8 + (1 : Int))
      some (.inl ((v_13, v_12, ()), List.set pb_10 (Int.toNat i_8) k_9))
    else none
  else
    some (.inr (k_9, pb_10))
def Wh.laws_markIntS_l0_y : (((Int)) × ((List (Int)))) := default
def Wh.laws_markIntS (xs : (List (Int)) × (Int)) : Option (((Int)) × ((List (Int)) × Unit)) :=
  let a_0 : List Int := Prod.fst xs
  let k_1 : Int := Prod.snd xs
  let x_14 : ((Int) × (Int) × (Unit)) × ((List (Int))) := (((0 : Int), k_1, ()), a_0)
  bif comesB Wh.laws_markIntS_l0 x_14 then
    let y_15 := comesV Wh.laws_markIntS_l0 Wh.laws_markIntS_l0_y x_14
    let k_16 : Int := Prod.fst y_15
    let pb_17 : List Int := Prod.snd y_15
    some (k_16, pb_17, ())
  else none
def Wh.laws_markIntS' (xs : (List (Int)) × (Int)) : ((Int)) × ((List (Int)) × Unit) := match Wh.laws_markIntS xs with | some y => y | none => default
theorem Wh.laws_markIntS_v (x : (List (Int)) × (Int)) (y : ((Int)) × ((List (Int)) × Unit)) (h : Wh.laws_markIntS x = some y) : Wh.laws_markIntS' x = y := by unfold Wh.laws_markIntS'; rw [h]

def Wh.laws_markEqS_l0 (x : ((Int) × (Unit) × (Int)) × ((List (tImplEq.D)))) : Option ((((Int) × (Unit) × (Int)) × ((List (tImplEq.D)))) ⊕ ((((Int)) × ((List (tImplEq.D)))))) :=
  let i_12 : Int := Prod.fst (Prod.fst x)
  let k_13 : Int := Prod.snd (Prod.snd (Prod.fst x))
  let pb_14 : List (tImplEq.D) := Prod.snd x
  let v_15 : Int := (↑(List.length pb_14) : Int)
  let v_16 : Bool := Decidable.decide (i_12 < v_15)
  bif v_16 then
    let pb_17 : List (tImplEq.D) := List.set pb_14 (Int.toNat i_12) (Prod.fst (Prod.snd (Wh.laws_markIntS' (Prod.fst (List.getD pb_14 (Int.toNat i_12) ([], [], ())), k_13))), Prod.snd (List.getD pb_14 (Int.toNat i_12) ([], [], ())))
    let v_18 : Int := Prod.fst (Wh.laws_markIntS' (Prod.fst (List.getD pb_14 (Int.toNat i_12) ([], [], ())), k_13))
    bif allB [Go.Ab.isSm (Wh.laws_markIntS (Prod.fst (List.getD pb_14 (Int.toNat i_12) ([], [], ())), k_13)), Decidable.decide ((0 : Int) ≤ i_12), Decidable.decide (i_12 < v_15)] then
      let pb_19 : List (tImplEq.D) := List.set pb_17 (Int.toNat i_12) (Prod.fst (List.getD pb_17 (Int.toNat i_12) ([], [], ())), Prod.fst (Wh.laws_markText' v_18), Prod.snd (Prod.snd (List.getD pb_17 (Int.toNat i_12) ([], [], ()))))
      bif allB [Decidable.decide ((0 : Int) ≤ i_12), Decidable.decide (i_12 < (↑(List.length pb_17) : Int)), Go.Ab.isSm (Wh.laws_markText v_18)] then
        let v_20 : Int := Go.IntKind.wrap Go.IntKind.i64 (v_18 + (1 : Int))
        let v_21 : Int := Go.IntKind.wrap Go.IntKind.i64 (i_12 + (1 : Int))
        some (.inl ((v_21, (), v_20), pb_19))
      else none
    else none
  else
    some (.inr (k_13, pb_14))
def Wh.laws_markEqS_l0_y : (((Int)) × ((List (tImplEq.D)))) := default
def Wh.laws_markEqS (xs : (List (tImplEq.D)) × (Int)) : Option (((Int)) × ((List (tImplEq.D)) × Unit)) :=
  let a_0 : List (tImplEq.D) := Prod.fst xs
  let k_1 : Int := Prod.snd xs
  let x_22 : ((Int) × (Unit) × (Int)) × ((List (tImplEq.D))) := (((0 : Int), (), k_1), a_0)
  bif comesB Wh.laws_markEqS_l0 x_22 then
    let y_23 := comesV Wh.laws_markEqS_l0 Wh.laws_markEqS_l0_y x_22
    let k_24 : Int := Prod.fst y_23
    let pb_25 : List (tImplEq.D) := Prod.snd y_23
    some (k_24, pb_25, ())
  else none
def Wh.laws_markEqS' (xs : (List (tImplEq.D)) × (Int)) : ((Int)) × ((List (tImplEq.D)) × Unit) := match Wh.laws_markEqS xs with | some y => y | none => default
theorem Wh.laws_markEqS_v (x : (List (tImplEq.D)) × (Int)) (y : ((Int)) × ((List (tImplEq.D)) × Unit)) (h : Wh.laws_markEqS x = some y) : Wh.laws_markEqS' x = y := by unfold Wh.laws_markEqS'; rw [h]

def Wh.laws_markClientS_l0 (x : ((Int) × (Unit) × (Int)) × ((List (tImplClient.D)))) : Option ((((Int) × (Unit) × (Int)) × ((List (tImplClient.D)))) ⊕ ((((Int)) × ((List (tImplClient.D)))))) :=
  let i_32 : Int := Prod.fst (Prod.fst x)
  let k_33 : Int := Prod.snd (Prod.snd (Prod.fst x))
  let pb_34 : List (tImplClient.D) := Prod.snd x
  let v_35 : Int := (↑(List.length pb_34) : Int)
  let v_36 : Bool := Decidable.decide (i_32 < v_35)
  bif v_36 then
    let pb_37 : List (tImplClient.D) := List.set pb_34 (Int.toNat i_32) (k_33, Prod.snd (List.getD pb_34 (Int.toNat i_32) ((0 : Int), (0 : Int), (0 : Int), [], (0 : Int), (((0 : Int), (0 : Int), [], [], ()), ((0 : Int), (0 : Int), [], ()), ()), ())))
    bif allB [Decidable.decide ((0 : Int) ≤ i_32), Decidable.decide (i_32 < v_35)] then
      let v_38 : Int := Go.IntKind.wrap Go.IntKind.i64 (k_33 + (1 : Int))
      let pb_39 : List (tImplClient.D) := List.set pb_37 (Int.toNat i_32) (Prod.fst (List.getD pb_37 (Int.toNat i_32) ((0 : Int), (0 : Int), (0 : Int), [], (0 : Int), (((0 : Int), (0 : Int), [], [], ()), ((0 : Int), (0 : Int), [], ()), ()), ())), v_38, Prod.snd (Prod.snd (List.getD pb_37 (Int.toNat i_32) ((0 : Int), (0 : Int), (0 : Int), [], (0 : Int), (((0 : Int), (0 : Int), [], [], ()), ((0 : Int), (0 : Int), [], ()), ()), ()))))
      bif allB [Decidable.decide ((0 : Int) ≤ i_32), Decidable.decide (i_32 < (↑(List.length pb_37) : Int))] then
        let v_40 : Int := Go.IntKind.wrap Go.IntKind.i64 (v_38 + (1 : Int))
        let pb_41 : List (tImplClient.D) := List.set pb_39 (Int.toNat i_32) (Prod.fst (List.getD pb_39 (Int.toNat i_32) ((0 : Int), (0 : Int), (0 : Int), [], (0 : Int), (((0 : Int), (0 : Int), [], [], ()), ((0 : Int), (0 : Int), [], ()), ()), ())), Prod.fst (Prod.snd (List.getD pb_39 (Int.toNat i_32) ((0 : Int), (0 : Int), (0 : Int), [], (0 : Int), (((0 : Int), (0 : Int), [], [], ()), ((0 : Int), (0 : Int), [], ()), ()), ()))), v_40, Prod.snd (Prod.snd (Prod.snd (List.getD pb_39 (Int.toNat i_32) ((0 : Int), (0 : Int), (0 : Int), [], (0 : Int), (((0 : Int), (0 : Int), [], [], ()), ((0 : Int), (0 : Int), [], ()), ()), ())))))
        bif allB [Decidable.decide ((0 : Int) ≤ i_32), Decidable.decide (i_32 < (↑(List.length pb_39) : Int))] then
          let v_42 : Int := Go.IntKind.wrap Go.IntKind.i64 (v_40 + (1 : Int))
          let pb_43 : List (tImplClient.D) := List.set pb_41 (Int.toNat i_32) (Prod.fst (List.getD pb_41 (Int.toNat i_32) ((0 : Int), (0 : Int), (0 : Int), [], (0 : Int), (((0 : Int), (0 : Int), [], [], ()), ((0 : Int), (0 : Int), [], ()), ()), ())), Prod.fst (Prod.snd (List.getD pb_41 (Int.toNat i_32) ((0 : Int), (0 : Int), (0 : Int), [], (0 : Int), (((0 : Int), (0 : Int), [], [], ()), ((0 : Int), (0 : Int), [], ()), ()), ()))), Prod.fst (Prod.snd (Prod.snd (List.getD pb_41 (Int.toNat i_32) ((0 : Int), (0 : Int), (0 : Int), [], (0 : Int), (((0 : Int), (0 : Int), [], [], ()), ((0 : Int), (0 : Int), [], ()), ()), ())))), Prod.fst (Wh.laws_markText' v_42), Prod.snd (Prod.snd (Prod.snd (Prod.snd (List.getD pb_41 (Int.toNat i_32) ((0 : Int), (0 : Int), (0 : Int), [], (0 : Int), (((0 : Int), (0 : Int), [], [], ()), ((0 : Int), (0 : Int), [], ()), ()), ()))))))
          bif allB [Decidable.decide ((0 : Int) ≤ i_32), Decidable.decide (i_32 < (↑(List.length pb_41) : Int)), Go.Ab.isSm (Wh.laws_markText v_42)] then
            let v_44 : Int := Go.IntKind.wrap Go.IntKind.i64 (v_42 + (1 : Int))
            let pb_45 : List (tImplClient.D) := List.set pb_43 (Int.toNat i_32) (Prod.fst (List.getD pb_43 (Int.toNat i_32) ((0 : Int), (0 : Int), (0 : Int), [], (0 : Int), (((0 : Int), (0 : Int), [], [], ()), ((0 : Int), (0 : Int), [], ()), ()), ())), Prod.fst (Prod.snd (List.getD pb_43 (Int.toNat i_32) ((0 : Int), (0 : Int), (0 : Int), [], (0 : Int), (((0 : Int), (0 : Int), [], [], ()), ((0 : Int), (0 : Int), [], ()), ()), ()))), Prod.fst (Prod.snd (Prod.snd (List.getD pb_43 (Int.toNat i_32) ((0 : Int), (0 : Int), (0 : Int), [], (0 : Int), (((0 : Int), (0 : Int), [], [], ()), ((0 : Int), (0 : Int), [], ()), ()), ())))), Prod.fst (Prod.snd (Prod.snd (Prod.snd (List.getD pb_43 (Int.toNat i_32) ((0 : Int), (0 : Int), (0 : Int), [], (0 : Int), (((0 : Int), (0 : Int), [], [], ()), ((0 : Int), (0 : Int), [], ()), ()), ()))))), v_44, Prod.snd (Prod.snd (Prod.snd (Prod.snd (Prod.snd (List.getD pb_43 (Int.toNat i_32) ((0 : Int), (0 : Int), (0 : Int), [], (0 : Int), (((0 : Int), (0 : Int), [], [], ()), ((0 : Int), (0 : Int), [], ()), ()), ())))))))
            bif allB [Decidable.decide ((0 : Int) ≤ i_32), Decidable.decide (i_32 < (↑(List.length pb_43) : Int))] then
              let v_46 : Int := Go.IntKind.wrap Go.IntKind.i64 (v_44 + (1 : Int))
              let pb_47 : List (tImplClient.D) := List.set pb_45 (Int.toNat i_32) (Prod.fst (List.getD pb_45 (Int.toNat i_32) ((0 : Int), (0 : Int), (0 : Int), [], (0 : Int), (((0 : Int), (0 : Int), [], [], ()), ((0 : Int), (0 : Int), [], ()), ()), ())), Prod.fst (Prod.snd (List.getD pb_45 (Int.toNat i_32) ((0 : Int), (0 : Int), (0 : Int), [], (0 : Int), (((0 : Int), (0 : Int), [], [], ()), ((0 : Int), (0 : Int), [], ()), ()), ()))), Prod.fst (Prod.snd (Prod.snd (List.getD pb_45 (Int.toNat i_32) ((0 : Int), (0 : Int), (0 : Int), [], (0 : Int), (((0 : Int), (0 : Int), [], [], ()), ((0 : Int), (0 : Int), [], ()), ()), ())))), Prod.fst (Prod.snd (Prod.snd (Prod.snd (List.getD pb_45 (Int.toNat i_32) ((0 : Int), (0 : Int), (0 : Int), [], (0 : Int), (((0 : Int), (0 : Int), [], [], ()), ((0 : Int), (0 : Int), [], ()), ()), ()))))), Prod.fst (Prod.snd (Prod.snd (Prod.snd (Prod.snd (List.getD pb_45 (Int.toNat i_32) ((0 : Int), (0 : Int), (0 : Int), [], (0 : Int), (((0 : Int), (0 : Int), [], [], ()), ((0 : Int), (0 : Int), [], ()), ()), ())))))), ((v_46, Prod.snd (Prod.fst (Prod.fst (Prod.snd (Prod.snd (Prod.snd (Prod.snd (Prod.snd (List.getD pb_45 (Int.toNat i_32) ((0 : Int), (0 : Int), (0 : Int), [], (0 : Int), (((0 : Int), (0 : Int), [], [], ()), ((0 : Int), (0 : Int), [], ()), ()), ())))))))))), Prod.snd (Prod.fst (Prod.snd (Prod.snd (Prod.snd (Prod.snd (Prod.snd (List.getD pb_45 (Int.toNat i_32) ((0 : Int), (0 : Int), (0 : Int), [], (0 : Int), (((0 : Int), (0 : Int), [], [], ()), ((0 : Int), (0 : Int), [], ()), ()), ()))))))))), Prod.snd (Prod.snd (Prod.snd (Prod.snd (Prod.snd (Prod.snd (List.getD pb_45 (Int.toNat i_32) ((0 : Int), (0 : Int), (0 : Int), [], (0 : Int), (((0 : Int), (0 : Int), [], [], ()), ((0 : Int), (0 : Int), [], ()), ()), ()))))))))
              bif allB [Decidable.decide ((0 : Int) ≤ i_32), Decidable.decide (i_32 < (↑(List.length pb_45) : Int))] then
                let v_48 : Int := Go.IntKind.wrap Go.IntKind.i64 (v_46 + (1 : Int))
                let pb_49 : List (tImplClient.D) := List.set pb_47 (Int.toNat i_32) (Prod.fst (List.getD pb_47 (Int.toNat i_32) ((0 : Int), (0 : Int), (0 : Int), [], (0 : Int), (((0 : Int), (0 : Int), [], [], ()), ((0 : Int), (0 : Int), [], ()), ()), ())), Prod.fst (Prod.snd (List.getD pb_47 (Int.toNat i_32) ((0 : Int), (0 : Int), (0 : Int), [], (0 : Int), (((0 : Int), (0 : Int), [], [], ()), ((0 : Int), (0 : Int), [], ()), ()), ()))), Prod.fst (Prod.snd (Prod.snd (List.getD pb_47 (Int.toNat i_32) ((0 : Int), (0 : Int), (0 : Int), [], (0 : Int), (((0 : Int), (0 : Int), [], [], ()), ((0 : Int), (0 : Int), [], ()), ()), ())))), Prod.fst (Prod.snd (Prod.snd (Prod.snd (List.getD pb_47 (Int.toNat i_32) ((0 : Int), (0 : Int), (0 : Int), [], (0 : Int), (((0 : Int), (0 : Int), [], [], ()), ((0 : Int), (0 : Int), [], ()), ()), ()))))), Prod.fst (Prod.snd (Prod.snd (Prod.snd (Prod.snd (List.getD pb_47 (Int.toNat i_32) ((0 : Int), (0 : Int), (0 : Int), [], (0 : Int), (((0 : Int), (0 : Int), [], [], ()), ((0 : Int), (0 : Int), [], ()), ()), ())))))), ((Prod.fst (Prod.fst (Prod.fst (Prod.snd (Prod.snd (Prod.snd (Prod.snd (Prod.snd (List.getD pb_47 (Int.toNat i_32) ((0 : Int), (0 : Int), (0 : Int), [], (0 : Int), (((0 : Int), (0 : Int), [], [], ()), ((0 : Int), (0 : Int), [], ()), ()), ()))))))))), v_48, Prod.snd (Prod.snd (Prod.fst (Prod.fst (Prod.snd (Prod.snd (Prod.snd (Prod.snd (Prod.snd (List.getD pb_47 (Int.toNat i_32) ((0 : Int), (0 : Int), (0 : Int), [], (0 : Int), (((0 : Int), (0 : Int), [], [], ()), ((0 : Int), (0 : Int), [], ()), ()), ()))))))))))), Prod.snd (Prod.fst (Prod.snd (Prod.snd (Prod.snd (Prod.snd (Prod.snd (List.getD pb_47 (Int.toNat i_32) ((0 : Int), (0 : Int), (0 : Int), [], (0 : Int), (((0 : Int), (0 : Int), [], [], ()), ((0 : Int), (0 : Int), [], ()), ()), ()))))))))), Prod.snd (Prod.snd (Prod.snd (Prod.snd (Prod.snd (Prod.snd (List.getD pb_47 (Int.toNat i_32) ((0 : Int), (0 : Int), (0 : Int), [], (0 : Int), (((0 : Int), (0 : Int), [], [], ()), ((0 : Int), (0 : Int), [], ()), ()), ()))))))))
                bif allB [Decidable.decide ((0 : Int) ≤ i_32), Decidable.decide (i_32 < (↑(List.length pb_47) : Int))] then
                  let v_50 : Int := Go.IntKind.wrap Go.IntKind.i64 (v_48 + (1 : Int))
                  let pb_51 : List (tImplClient.D) := List.set pb_49 (Int.toNat i_32) (Prod.fst (List.getD pb_49 (Int.toNat i_32) ((0 : Int), (0 : Int), (0 : Int), [], (0 : Int), (((0 : Int), (0 : Int), [], [], ()), ((0 : Int), (0 : Int), [], ()), ()), ())), Prod.fst (Prod.snd (List.getD pb_49 (Int.toNat i_32) ((0 : Int), (0 : Int), (0 : Int), [], (0 : Int), (((0 : Int), (0 : Int), [], [], ()), ((0 : Int), (0 : Int), [], ()), ()), ()))), Prod.fst (Prod.snd (Prod.snd (List.getD pb_49 (Int.toNat i_32) ((0 : Int), (0 : Int), (0 : Int), [], (0 : Int), (((0 : Int), (0 : Int), [], [], ()), ((0 : Int), (0 : Int), [], ()), ()), ())))), Prod.fst (Prod.snd (Prod.snd (Prod.snd (List.getD pb_49 (Int.toNat i_32) ((0 : Int), (0 : Int), (0 : Int), [], (0 : Int), (((0 : Int), (0 : Int), [], [], ()), ((0 : Int), (0 : Int), [], ()), ()), ()))))), Prod.fst (Prod.snd (Prod.snd (Prod.snd (Prod.snd (List.getD pb_49 (Int.toNat i_32) ((0 : Int), (0 : Int), (0 : Int), [], (0 : Int), (((0 : Int), (0 : Int), [], [], ()), ((0 : Int), (0 : Int), [], ()), ()), ())))))), ((Prod.fst (Prod.fst (Prod.fst (Prod.snd (Prod.snd (Prod.snd (Prod.snd (Prod.snd (List.getD pb_49 (Int.toNat i_32) ((0 : Int), (0 : Int), (0 : Int), [], (0 : Int), (((0 : Int), (0 : Int), [], [], ()), ((0 : Int), (0 : Int), [], ()), ()), ()))))))))), Prod.fst (Prod.snd (Prod.fst (Prod.fst (Prod.snd (Prod.snd (Prod.snd (Prod.snd (Prod.snd (List.getD pb_49 (Int.toNat i_32) ((0 : Int), (0 : Int), (0 : Int), [], (0 : Int), (((0 : Int), (0 : Int), [], [], ()), ((0 : Int), (0 : Int), [], ()), ()), ())))))))))), Prod.fst (Prod.snd (Wh.laws_markIntS' (Prod.fst (Prod.snd (Prod.snd (Prod.fst (Prod.fst (Prod.snd (Prod.snd (Prod.snd (Prod.snd (Prod.snd (List.getD pb_49 (Int.toNat i_32) ((0 : Int), (0 : Int), (0 : Int), [], (0 : Int), (((0 : Int), (0 : Int), [], [], ()), ((0 : Int), (0 : Int), [], ()), ()), ()))))))))))), v_50))), Prod.snd (Prod.snd (Prod.snd (Prod.fst (Prod.fst (Prod.snd (Prod.snd (Prod.snd (Prod.snd (Prod.snd (List.getD pb_49 (Int.toNat i_32) ((0 : Int), (0 : Int), (0 : Int), [], (0 : Int), (((0 : Int), (0 : Int), [], [], ()), ((0 : Int), (0 : Int), [], ()), ()), ())))))))))))), Prod.snd (Prod.fst (Prod.snd (Prod.snd (Prod.snd (Prod.snd (Prod.snd (List.getD pb_49 (Int.toNat i_32) ((0 : Int), (0 : Int), (0 : Int), [], (0 : Int), (((0 : Int), (0 : Int), [], [], ()), ((0 : Int), (0 : Int), [], ()), ()), ()))))))))), Prod.snd (Prod.snd (Prod.snd (Prod.snd (Prod.snd (Prod.snd (List.getD pb_49 (Int.toNat i_32) ((0 : Int), (0 : Int), (0 : Int), [], (0 : Int), (((0 : Int), (0 : Int), [], [], ()), ((0 : Int), (0 : Int), [], ()), ()), ()))))))))
                  let v_52 : Int := Prod.fst (Wh.laws_markIntS' (Prod.fst (Prod.snd (Prod.snd (Prod.fst (Prod.fst (Prod.snd (Prod.snd (Prod.snd (Prod.snd (Prod.snd (List.getD pb_49 (Int.toNat i_32) ((0 : Int), (0 : Int), (0 : Int), [], (0 : Int), (((0 : Int), (0 : Int), [], [], ()), ((0 : Int), (0 : Int), [], ()), ()), ()))))))))))), v_50))
                  bif allB [Go.Ab.isSm (Wh.laws_markIntS (Prod.fst (Prod.snd (Prod.snd (Prod.fst (Prod.fst (Prod.snd (Prod.snd (Prod.snd (Prod.snd (Prod.snd (List.getD pb_49 (Int.toNat i_32) ((0 : Int), (0 : Int), (0 : Int), [], (0 : Int), (((0 : Int), (0 : Int), [], [], ()), ((0 : Int), (0 : Int), [], ()), ()), ()))))))))))), v_50)), Decidable.decide ((0 : Int) ≤ i_32), Decidable.decide (i_32 < (↑(List.length pb_49) : Int))] then
                    let pb_53 : List (tImplClient.D) := List.set pb_51 (Int.toNat i_32) (Prod.fst (List.getD pb_51 (Int.toNat i_32) ((0 : Int), (0 : Int), (0 : Int), [], (0 : Int), (((0 : Int), (0 : Int), [], [], ()), ((0 : Int), (0 : Int), [], ()), ()), ())), Prod.fst (Prod.snd (List.getD pb_51 (Int.toNat i_32) ((0 : Int), (0 : Int), (0 : Int), [], (0 : Int), (((0 : Int), (0 : Int), [], [], ()), ((0 : Int), (0 : Int), [], ()), ()), ()))), Prod.fst (Prod.snd (Prod.snd (List.getD pb_51 (Int.toNat i_32) ((0 : Int), (0 : Int), (0 : Int), [], (0 : Int), (((0 : Int), (0 : Int), [], [], ()), ((0 : Int), (0 : Int), [], ()), ()), ())))), Prod.fst (Prod.snd (Prod.snd (Prod.snd (List.getD pb_51 (Int.toNat i_32) ((0 : Int), (0 : Int), (0 : Int), [], (0 : Int), (((0 : Int), (0 : Int), [], [], ()), ((0 : Int), (0 : Int), [], ()), ()), ()))))), Prod.fst (Prod.snd (Prod.snd (Prod.snd (Prod.snd (List.getD pb_51 (Int.toNat i_32) ((0 : Int), (0 : Int), (0 : Int), [], (0 : Int), (((0 : Int), (0 : Int), [], [], ()), ((0 : Int), (0 : Int), [], ()), ()), ())))))), ((Prod.fst (Prod.fst (Prod.fst (Prod.snd (Prod.snd (Prod.snd (Prod.snd (Prod.snd (List.getD pb_51 (Int.toNat i_32) ((0 : Int), (0 : Int), (0 : Int), [], (0 : Int), (((0 : Int), (0 : Int), [], [], ()), ((0 : Int), (0 : Int), [], ()), ()), ()))))))))), Prod.fst (Prod.snd (Prod.fst (Prod.fst (Prod.snd (Prod.snd (Prod.snd (Prod.snd (Prod.snd (List.getD pb_51 (Int.toNat i_32) ((0 : Int), (0 : Int), (0 : Int), [], (0 : Int), (((0 : Int), (0 : Int), [], [], ()), ((0 : Int), (0 : Int), [], ()), ()), ())))))))))), Prod.fst (Prod.snd (Prod.snd (Prod.fst (Prod.fst (Prod.snd (Prod.snd (Prod.snd (Prod.snd (Prod.snd (List.getD pb_51 (Int.toNat i_32) ((0 : Int), (0 : Int), (0 : Int), [], (0 : Int), (((0 : Int), (0 : Int), [], [], ()), ((0 : Int), (0 : Int), [], ()), ()), ()))))))))))), Prod.fst (Prod.snd (Wh.laws_markIntS' (Prod.fst (Prod.snd (Prod.snd (Prod.snd (Prod.fst (Prod.fst (Prod.snd (Prod.snd (Prod.snd (Prod.snd (Prod.snd (List.getD pb_51 (Int.toNat i_32) ((0 : Int), (0 : Int), (0 : Int), [], (0 : Int), (((0 : Int), (0 : Int), [], [], ()), ((0 : Int), (0 : Int), [], ()), ()), ())))))))))))), v_52))), Prod.snd (Prod.snd (Prod.snd (Prod.snd (Prod.fst (Prod.fst (Prod.snd (Prod.snd (Prod.snd (Prod.snd (Prod.snd (List.getD pb_51 (Int.toNat i_32) ((0 : Int), (0 : Int), (0 : Int), [], (0 : Int), (((0 : Int), (0 : Int), [], [], ()), ((0 : Int), (0 : Int), [], ()), ()), ()))))))))))))), Prod.snd (Prod.fst (Prod.snd (Prod.snd (Prod.snd (Prod.snd (Prod.snd (List.getD pb_51 (Int.toNat i_32) ((0 : Int), (0 : Int), (0 : Int), [], (0 : Int), (((0 : Int), (0 : Int), [], [], ()), ((0 : Int), (0 : Int), [], ()), ()), ()))))))))), Prod.snd (Prod.snd (Prod.snd (Prod.snd (Prod.snd (Prod.snd (List.getD pb_51 (Int.toNat i_32) ((0 : Int), (0 : Int), (0 : Int), [], (0 : Int), (((0 : Int), (0 : Int), [], [], ()), ((0 : Int), (0 : Int), [], ()), ()), ()))))))))
                    let v_54 : Int := Prod.fst (Wh.laws_markIntS' (Prod.fst (Prod.snd (Prod.snd (Prod.snd (Prod.fst (Prod.fst (Prod.snd (Prod.snd (Prod.snd (Prod.snd (Prod.snd (List.getD pb_51 (Int.toNat i_32) ((0 : Int), (0 : Int), (0 : Int), [], (0 : Int), (((0 : Int), (0 : Int), [], [], ()), ((0 : Int), (0 : Int), [], ()), ()), ())))))))))))), v_52))
                    bif allB [Go.Ab.isSm (Wh.laws_markIntS (Prod.fst (Prod.snd (Prod.snd (Prod.snd (Prod.fst (Prod.fst (Prod.snd (Prod.snd (Prod.snd (Prod.snd (Prod.snd (List.getD pb_51 (Int.toNat i_32) ((0 : Int), (0 : Int), (0 : Int), [], (0 : Int), (((0 : Int), (0 : Int), [], [], ()), ((0 : Int), (0 : Int), [], ()), ()), ())))))))))))), v_52)), Decidable.decide ((0 : Int) ≤ i_32), Decidable.decide (i_32 < (↑(List.length pb_51) : Int))] then
                      let pb_55 : List (tImplClient.D) := List.set pb_53 (Int.toNat i_32) (Prod.fst (List.getD pb_53 (Int.toNat i_32) ((0 : Int), (0 : Int), (0 : Int), [], (0 : Int), (((0 : Int), (0 : Int), [], [], ()), ((0 : Int), (0 : Int), [], ()), ()), ())), Prod.fst (Prod.snd (List.getD pb_53 (Int.toNat i_32) ((0 : Int), (0 : Int), (0 : Int), [], (0 : Int), (((0 : Int), (0 : Int), [], [], ()), ((0 : Int), (0 : Int), [], ()), ()), ()))), Prod.fst (Prod.snd (Prod.snd (List.getD pb_53 (Int.toNat i_32) ((0 : Int), (0 : Int), (0 : Int), [], (0 : Int), (((0 : Int), (0 : Int), [], [], ()), ((0 : Int), (0 : Int), [], ()), ()), ())))), Prod.fst (Prod.snd (Prod.snd (Prod.snd (List.getD pb_53 (Int.toNat i_32) ((0 : Int), (0 : Int), (0 : Int), [], (0 : Int), (((0 : Int), (0 : Int), [], [], ()), ((0 : Int), (0 : Int), [], ()), ()), ()))))), Prod.fst (Prod.snd (Prod.snd (Prod.snd (Prod.snd (List.getD pb_53 (Int.toNat i_32) ((0 : Int), (0 : Int), (0 : Int), [], (0 : Int), (((0 : Int), (0 : Int), [], [], ()), ((0 : Int), (0 : Int), [], ()), ()), ())))))), (Prod.fst (Prod.fst (Prod.snd (Prod.snd (Prod.snd (Prod.snd (Prod.snd (List.getD pb_53 (Int.toNat i_32) ((0 : Int), (0 : Int), (0 : Int), [], (0 : Int), (((0 : Int), (0 : Int), [], [], ()), ((0 : Int), (0 : Int), [], ()), ()), ())))))))), (v_54, Prod.snd (Prod.fst (Prod.snd (Prod.fst (Prod.snd (Prod.snd (Prod.snd (Prod.snd (Prod.snd (List.getD pb_53 (Int.toNat i_32) ((0 : Int), (0 : Int), (0 : Int), [], (0 : Int), (((0 : Int), (0 : Int), [], [], ()), ((0 : Int), (0 : Int), [], ()), ()), ()))))))))))), Prod.snd (Prod.snd (Prod.fst (Prod.snd (Prod.snd (Prod.snd (Prod.snd (Prod.snd (List.getD pb_53 (Int.toNat i_32) ((0 : Int), (0 : Int), (0 : Int), [], (0 : Int), (((0 : Int), (0 : Int), [], [], ()), ((0 : Int), (0 : Int), [], ()), ()), ())))))))))), Prod.snd (Prod.snd (Prod.snd (Prod.snd (Prod.snd (Prod.snd (List.getD pb_53 (Int.toNat i_32) ((0 : Int), (0 : Int), (0 : Int), [], (0 : Int), (((0 : Int), (0 : Int), [], [], ()), ((0 : Int), (0 : Int), [], ()), ()), ()))))))))
                      bif allB [Decidable.decide ((0 : Int) ≤ i_32), Decidable.decide (i_32 < (↑(List.length pb_53) : Int))] then
                        let v_56 : Int := Go.IntKind.wrap Go.IntKind.i64 (v_54 + (1 : Int))
                        let pb_57 : List (tImplClient.D) := List.set pb_55 (Int.toNat i_32) (Prod.fst (List.getD pb_55 (Int.toNat i_32) ((0 : Int), (0 : Int), (0 : Int), [], (0 : Int), (((0 : Int), (0 : Int), [], [], ()), ((0 : Int), (0 : Int), [], ()), ()), ())), Prod.fst (Prod.snd (List.getD pb_55 (Int.toNat i_32) ((0 : Int), (0 : Int), (0 : Int), [], (0 : Int), (((0 : Int), (0 : Int), [], [], ()), ((0 : Int), (0 : Int), [], ()), ()), ()))), Prod.fst (Prod.snd (Prod.snd (List.getD pb_55 (Int.toNat i_32) ((0 : Int), (0 : Int), (0 : Int), [], (0 : Int), (((0 : Int), (0 : Int), [], [], ()), ((0 : Int), (0 : Int), [], ()), ()), ())))), Prod.fst (Prod.snd (Prod.snd (Prod.snd (List.getD pb_55 (Int.toNat i_32) ((0 : Int), (0 : Int), (0 : Int), [], (0 : Int), (((0 : Int), (0 : Int), [], [], ()), ((0 : Int), (0 : Int), [], ()), ()), ()))))), Prod.fst (Prod.snd (Prod.snd (Prod.snd (Prod.snd (List.getD pb_55 (Int.toNat i_32) ((0 : Int), (0 : Int), (0 : Int), [], (0 : Int), (((0 : Int), (0 : Int), [], [], ()), ((0 : Int), (0 : Int), [], ()), ()), ())))))), (Prod.fst (Prod.fst (Prod.snd (Prod.snd (Prod.snd (Prod.snd (Prod.snd (List.getD pb_55 (Int.toNat i_32) ((0 : Int), (0 : Int), (0 : Int), [], (0 : Int), (((0 : Int), (0 : Int), [], [], ()), ((0 : Int), (0 : Int), [], ()), ()), ())))))))), (Prod.fst (Prod.fst (Prod.snd (Prod.fst (Prod.snd (Prod.snd (Prod.snd (Prod.snd (Prod.snd (List.getD pb_55 (Int.toNat i_32) ((0 : Int), (0 : Int), (0 : Int), [], (0 : Int), (((0 : Int), (0 : Int), [], [], ()), ((0 : Int), (0 : Int), [], ()), ()), ())))))))))), v_56, Prod.snd (Prod.snd (Prod.fst (Prod.snd (Prod.fst (Prod.snd (Prod.snd (Prod.snd (Prod.snd (Prod.snd (List.getD pb_55 (Int.toNat i_32) ((0 : Int), (0 : Int), (0 : Int), [], (0 : Int), (((0 : Int), (0 : Int), [], [], ()), ((0 : Int), (0 : Int), [], ()), ()), ())))))))))))), Prod.snd (Prod.snd (Prod.fst (Prod.snd (Prod.snd (Prod.snd (Prod.snd (Prod.snd (List.getD pb_55 (Int.toNat i_32) ((0 : Int), (0 : Int), (0 : Int), [], (0 : Int), (((0 : Int), (0 : Int), [], [], ()), ((0 : Int), (0 : Int), [], ()), ()), ())))))))))), Prod.snd (Prod.snd (Prod.snd (Prod.snd (Prod.snd (Prod.snd (List.getD pb_55 (Int.toNat i_32) ((0 : Int), (0 : Int), (0 : Int), [], (0 : Int), (((0 : Int), (0 : Int), [], [], ()), ((0 : Int), (0 : Int), [], ()), ()), ()))))))))
                        bif allB [Decidable.decide ((0 : Int) ≤ i_32), Decidable.decide (i_32 < (↑(List.length pb_55) : Int))] then
                          let v_58 : Int := Go.IntKind.wrap Go.IntKind.i64 (v_56 + (1 : Int))
                          let pb_59 : List (tImplClient.D) := List.set pb_57 (Int.toNat i_32) (Prod.fst (List.getD pb_57 (Int.toNat i_32) ((0 : Int), (0 : Int), (0 : Int), [], (0 : Int), (((0 : Int), (0 : Int), [], [], ()), ((0 : Int), (0 : Int), [], ()), ()), ())), Prod.fst (Prod.snd (List.getD pb_57 (Int.toNat i_32) ((0 : Int), (0 : Int), (0 : Int), [], (0 : Int), (((0 : Int), (0 : Int), [], [], ()), ((0 : Int), (0 : Int), [], ()), ()), ()))), Prod.fst (Prod.snd (Prod.snd (List.getD pb_57 (Int.toNat i_32) ((0 : Int), (0 : Int), (0 : Int), [], (0 : Int), (((0 : Int), (0 : Int), [], [], ()), ((0 : Int), (0 : Int), [], ()), ()), ())))), Prod.fst (Prod.snd (Prod.snd (Prod.snd (List.getD pb_57 (Int.toNat i_32) ((0 : Int), (0 : Int), (0 : Int), [], (0 : Int), (((0 : Int), (0 : Int), [], [], ()), ((0 : Int), (0 : Int), [], ()), ()), ()))))), Prod.fst (Prod.snd (Prod.snd (Prod.snd (Prod.snd (List.getD pb_57 (Int.toNat i_32) ((0 : Int), (0 : Int), (0 : Int), [], (0 : Int), (((0 : Int), (0 : Int), [], [], ()), ((0 : Int), (0 : Int), [], ()), ()), ())))))), (Prod.fst (Prod.fst (Prod.snd (Prod.snd (Prod.snd (Prod.snd (Prod.snd (List.getD pb_57 (Int.toNat i_32) ((0 : Int), (0 : Int), (0 : Int), [], (0 : Int), (((0 : Int), (0 : Int), [], [], ()), ((0 : Int), (0 : Int), [], ()), ()), ())))))))), (Prod.fst (Prod.fst (Prod.snd (Prod.fst (Prod.snd (Prod.snd (Prod.snd (Prod.snd (Prod.snd (List.getD pb_57 (Int.toNat i_32) ((0 : Int), (0 : Int), (0 : Int), [], (0 : Int), (((0 : Int), (0 : Int), [], [], ()), ((0 : Int), (0 : Int), [], ()), ()), ())))))))))), Prod.fst (Prod.snd (Prod.fst (Prod.snd (Prod.fst (Prod.snd (Prod.snd (Prod.snd (Prod.snd (Prod.snd (List.getD pb_57 (Int.toNat i_32) ((0 : Int), (0 : Int), (0 : Int), [], (0 : Int), (((0 : Int), (0 : Int), [], [], ()), ((0 : Int), (0 : Int), [], ()), ()), ()))))))))))), Prod.fst (Prod.snd (Wh.laws_markEqS' (Prod.fst (Prod.snd (Prod.snd (Prod.fst (Prod.snd (Prod.fst (Prod.snd (Prod.snd (Prod.snd (Prod.snd (Prod.snd (List.getD pb_57 (Int.toNat i_32) ((0 : Int), (0 : Int), (0 : Int), [], (0 : Int), (((0 : Int), (0 : Int), [], [], ()), ((0 : Int), (0 : Int), [], ()), ()), ())))))))))))), v_58))), Prod.snd (Prod.snd (Prod.snd (Prod.fst (Prod.snd (Prod.fst (Prod.snd (Prod.snd (Prod.snd (Prod.snd (Prod.snd (List.getD pb_57 (Int.toNat i_32) ((0 : Int), (0 : Int), (0 : Int), [], (0 : Int), (((0 : Int), (0 : Int), [], [], ()), ((0 : Int), (0 : Int), [], ()), ()), ()))))))))))))), Prod.snd (Prod.snd (Prod.fst (Prod.snd (Prod.snd (Prod.snd (Prod.snd (Prod.snd (List.getD pb_57 (Int.toNat i_32) ((0 : Int), (0 : Int), (0 : Int), [], (0 : Int), (((0 : Int), (0 : Int), [], [], ()), ((0 : Int), (0 : Int), [], ()), ()), ())))))))))), Prod.snd (Prod.snd (Prod.snd (Prod.snd (Prod.snd (Prod.snd (List.getD pb_57 (Int.toNat i_32) ((0 : Int), (0 : Int), (0 : Int), [], (0 : Int), (((0 : Int), (0 : Int), [], [], ()), ((0 : Int), (0 : Int), [], ()), ()), ()))))))))
                          let v_60 : Int := Prod.fst (Wh.laws_markEqS' (Prod.fst (Prod.snd (Prod.snd (Prod.fst (Prod.snd (Prod.fst (Prod.snd (Prod.snd (Prod.snd (Prod.snd (Prod.snd (List.getD pb_57 (Int.toNat i_32) ((0 : Int), (0 : Int), (0 : Int), [], (0 : Int), (((0 : Int), (0 : Int), [], [], ()), ((0 : Int), (0 : Int), [], ()), ()), ())))))))))))), v_58))
                          bif allB [Go.Ab.isSm (Wh.laws_markEqS (Prod.fst (Prod.snd (Prod.snd (Prod.fst (Prod.snd (Prod.fst (Prod.snd (Prod.snd (Prod.snd (Prod.snd (Prod.snd (List.getD pb_57 (Int.toNat i_32) ((0 : Int), (0 : Int), (0 : Int), [], (0 : Int), (((0 : Int), (0 : Int), [], [], ()), ((0 : Int), (0 : Int), [], ()), ()), ())))))))))))), v_58)), Decidable.decide ((0 : Int) ≤ i_32), Decidable.decide (i_32 < (↑(List.length pb_57) : Int))] then
                            let v_61 : Int := Go.IntKind.wrap Go.IntKind.i64 (i_32 + (1 : Int))
                            some (.inl ((v_61, (), v_60), pb_59))
                          else none
                        else none
                      else none
                    else none
                  else none
                else none
              else none
            else none
          else none
        else none
      else none
    else none
  else
    some (.inr (k_33, pb_34))
def Wh.laws_markClientS_l0_y : (((Int)) × ((List (tImplClient.D)))) := default
def Wh.laws_markClientS (xs : (List (tImplClient.D)) × (Int)) : Option (((Int)) × ((List (tImplClient.D)) × Unit)) :=
  let a_0 : List (tImplClient.D) := Prod.fst xs
  let k_1 : Int := Prod.snd xs
  let x_62 : ((Int) × (Unit) × (Int)) × ((List (tImplClient.D))) := (((0 : Int), (), k_1), a_0)
  bif comesB Wh.laws_markClientS_l0 x_62 then
    let y_63 := comesV Wh.laws_markClientS_l0 Wh.laws_markClientS_l0_y x_62
    let k_64 : Int := Prod.fst y_63
    let pb_65 : List (tImplClient.D) := Prod.snd y_63
    some (k_64, pb_65, ())
  else none
def Wh.laws_markClientS' (xs : (List (tImplClient.D)) × (Int)) : ((Int)) × ((List (tImplClient.D)) × Unit) := match Wh.laws_markClientS xs with | some y => y | none => default
theorem Wh.laws_markClientS_v (x : (List (tImplClient.D)) × (Int)) (y : ((Int)) × ((List (tImplClient.D)) × Unit)) (h : Wh.laws_markClientS x = some y) : Wh.laws_markClientS' x = y := by unfold Wh.laws_markClientS'; rw [h]

def Wh.laws_markPacketS_l0 (x : ((Int) × (Unit) × (Int)) × ((List (tImplPacket.D)))) : Option ((((Int) × (Unit) × (Int)) × ((List (tImplPacket.D)))) ⊕ ((((Int)) × ((List (tImplPacket.D)))))) :=
  let i_16 : Int := Prod.fst (Prod.fst x)
  let k_17 : Int := Prod.snd (Prod.snd (Prod.fst x))
  let pb_18 : List (tImplPacket.D) := Prod.snd x
  let v_19 : Int := (↑(List.length pb_18) : Int)
  let v_20 : Bool := Decidable.decide (i_16 < v_19)
  bif v_20 then
    let pb_21 : List (tImplPacket.D) := List.set pb_18 (Int.toNat i_16) (k_17, Prod.snd (List.getD pb_18 (Int.toNat i_16) ((0 : Int), [], Bool.false, ())))
    bif allB [Decidable.decide ((0 : Int) ≤ i_16), Decidable.decide (i_16 < v_19)] then
      let v_22 : Int := Go.IntKind.wrap Go.IntKind.i64 (k_17 + (1 : Int))
      let pb_23 : List (tImplPacket.D) := List.set pb_21 (Int.toNat i_16) (Prod.fst (List.getD pb_21 (Int.toNat i_16) ((0 : Int), [], Bool.false, ())), Prod.fst (Wh.laws_markText' v_22), Prod.snd (Prod.snd (List.getD pb_21 (Int.toNat i_16) ((0 : Int), [], Bool.false, ()))))
      bif allB [Decidable.decide ((0 : Int) ≤ i_16), Decidable.decide (i_16 < (↑(List.length pb_21) : Int)), Go.Ab.isSm (Wh.laws_markText v_22)] then
        let v_24 : Int := Go.IntKind.wrap Go.IntKind.i64 (v_22 + (1 : Int))
        let pb_25 : List (tImplPacket.D) := List.set pb_23 (Int.toNat i_16) (Prod.fst (List.getD pb_23 (Int.toNat i_16) ((0 : Int), [], Bool.false, ())), Prod.fst (Prod.snd (List.getD pb_23 (Int.toNat i_16) ((0 : Int), [], Bool.false, ()))), Int.tmod v_24 (3 : Int) == (0 : Int), Prod.snd (Prod.snd (Prod.snd (List.getD pb_23 (Int.toNat i_16) ((0 : Int), [], Bool.false, ())))))
        bif allB [Decidable.decide ((0 : Int) ≤ i_16), Decidable.decide (i_16 < (↑(List.length pb_23) : Int)), Bool.true] then
          let v_28 : Int := Go.IntKind.wrap Go.IntKind.i64 (v_24 + (1 : Int))
          let v_29 : Int := Go.IntKind.wrap Go.IntKind.i64 (i_16 + (1 : Int))
          some (.inl ((v_29, (), v_28), pb_25))
        else none
      else none
    else none
  else
    some (.inr (k_17, pb_18))
def Wh.laws_markPacketS_l0_y : (((Int)) × ((List (tImplPacket.D)))) := default
def Wh.laws_markPacketS (xs : (List (tImplPacket.D)) × (Int)) : Option (((Int)) × ((List (tImplPacket.D)) × Unit)) :=
  let a_0 : List (tImplPacket.D) := Prod.fst xs
  let k_1 : Int := Prod.snd xs
  let x_30 : ((Int) × (Unit) × (Int)) × ((List (tImplPacket.D))) := (((0 : Int), (), k_1), a_0)
  bif comesB Wh.laws_markPacketS_l0 x_30 then
    let y_31 := comesV Wh.laws_markPacketS_l0 Wh.laws_markPacketS_l0_y x_30
    let k_32 : Int := Prod.fst y_31
    let pb_33 : List (tImplPacket.D) := Prod.snd y_31
    some (k_32, pb_33, ())
  else none
def Wh.laws_markPacketS' (xs : (List (tImplPacket.D)) × (Int)) : ((Int)) × ((List (tImplPacket.D)) × Unit) := match Wh.laws_markPacketS xs with | some y => y | none => default
theorem Wh.laws_markPacketS_v (x : (List (tImplPacket.D)) × (Int)) (y : ((Int)) × ((List (tImplPacket.D)) × Unit)) (h : Wh.laws_markPacketS x = some y) : Wh.laws_markPacketS' x = y := by unfold Wh.laws_markPacketS'; rw [h]

def Wh.laws_markWorld (xs : (tImplWorld.D) × (Int)) : Option (((Int)) × ((tImplWorld.D) × Unit)) :=
  let a_0 : tImplWorld.D := Prod.fst xs
  let k_1 : Int := Prod.snd xs
  let pb_2 : List (tImplServe.D) := Prod.fst (Prod.snd (Prod.snd (Prod.snd (Prod.snd (Prod.snd (Prod.snd (Prod.fst (Prod.snd (Wh.laws_markServer' ((Prod.fst (Prod.fst a_0), Prod.fst (Prod.snd (Prod.fst a_0)), Prod.fst (Prod.snd (Prod.snd (Prod.fst a_0))), (Prod.fst (Prod.fst (Prod.snd (Prod.snd (Prod.snd (Prod.fst a_0))))), Prod.fst (Prod.snd (Prod.fst (Prod.snd (Prod.snd (Prod.snd (Prod.fst a_0)))))), Prod.snd (Prod.snd (Prod.fst (Prod.snd (Prod.snd (Prod.snd (Prod.fst a_0))))))), (Prod.fst (Prod.fst (Prod.snd (Prod.snd (Prod.snd (Prod.snd (Prod.fst a_0)))))), Prod.snd (Prod.fst (Prod.snd (Prod.snd (Prod.snd (Prod.snd (Prod.fst a_0))))))), Prod.fst (Prod.snd (Prod.snd (Prod.snd (Prod.snd (Prod.snd (Prod.fst a_0)))))), Prod.fst (Prod.snd (Prod.snd (Prod.snd (Prod.snd (Prod.snd (Prod.snd (Prod.fst a_0))))))), Prod.snd (Prod.snd (Prod.snd (Prod.snd (Prod.snd (Prod.snd (Prod.snd (Prod.fst a_0)))))))), k_1))))))))))
  let pb_3 : List (tImplBucket.D) := Prod.fst (Prod.snd (Prod.snd (Prod.snd (Prod.snd (Prod.snd (Prod.fst (Prod.snd (Wh.laws_markServer' ((Prod.fst (Prod.fst a_0), Prod.fst (Prod.snd (Prod.fst a_0)), Prod.fst (Prod.snd (Prod.snd (Prod.fst a_0))), (Prod.fst (Prod.fst (Prod.snd (Prod.snd (Prod.snd (Prod.fst a_0))))), Prod.fst (Prod.snd (Prod.fst (Prod.snd (Prod.snd (Prod.snd (Prod.fst a_0)))))), Prod.snd (Prod.snd (Prod.fst (Prod.snd (Prod.snd (Prod.snd (Prod.fst a_0))))))), (Prod.fst (Prod.fst (Prod.snd (Prod.snd (Prod.snd (Prod.snd (Prod.fst a_0)))))), Prod.snd (Prod.fst (Prod.snd (Prod.snd (Prod.snd (Prod.snd (Prod.fst a_0))))))), Prod.fst (Prod.snd (Prod.snd (Prod.snd (Prod.snd (Prod.snd (Prod.fst a_0)))))), Prod.fst (Prod.snd (Prod.snd (Prod.snd (Prod.snd (Prod.snd (Prod.snd (Prod.fst a_0))))))), Prod.snd (Prod.snd (Prod.snd (Prod.snd (Prod.snd (Prod.snd (Prod.snd (Prod.fst a_0)))))))), k_1)))))))))
  let pb_4 : List (tImplFrame.D) := Prod.fst (Prod.fst (Prod.snd (Prod.snd (Prod.snd (Prod.snd (Prod.fst (Prod.snd (Wh.laws_markServer' ((Prod.fst (Prod.fst a_0), Prod.fst (Prod.snd (Prod.fst a_0)), Prod.fst (Prod.snd (Prod.snd (Prod.fst a_0))), (Prod.fst (Prod.fst (Prod.snd (Prod.snd (Prod.snd (Prod.fst a_0))))), Prod.fst (Prod.snd (Prod.fst (Prod.snd (Prod.snd (Prod.snd (Prod.fst a_0)))))), Prod.snd (Prod.snd (Prod.fst (Prod.snd (Prod.snd (Prod.snd (Prod.fst a_0))))))), (Prod.fst (Prod.fst (Prod.snd (Prod.snd (Prod.snd (Prod.snd (Prod.fst a_0)))))), Prod.snd (Prod.fst (Prod.snd (Prod.snd (Prod.snd (Prod.snd (Prod.fst a_0))))))), Prod.fst (Prod.snd (Prod.snd (Prod.snd (Prod.snd (Prod.snd (Prod.fst a_0)))))), Prod.fst (Prod.snd (Prod.snd (Prod.snd (Prod.snd (Prod.snd (Prod.snd (Prod.fst a_0))))))), Prod.snd (Prod.snd (Prod.snd (Prod.snd (Prod.snd (Prod.snd (Prod.snd (Prod.fst a_0)))))))), k_1)))))))))
  let pb_5 : List (tImplItem.D) := Prod.fst (Prod.snd (Prod.fst (Prod.snd (Prod.snd (Prod.snd (Prod.fst (Prod.snd (Wh.laws_markServer' ((Prod.fst (Prod.fst a_0), Prod.fst (Prod.snd (Prod.fst a_0)), Prod.fst (Prod.snd (Prod.snd (Prod.fst a_0))), (Prod.fst (Prod.fst (Prod.snd (Prod.snd (Prod.snd (Prod.fst a_0))))), Prod.fst (Prod.snd (Prod.fst (Prod.snd (Prod.snd (Prod.snd (Prod.fst a_0)))))), Prod.snd (Prod.snd (Prod.fst (Prod.snd (Prod.snd (Prod.snd (Prod.fst a_0))))))), (Prod.fst (Prod.fst (Prod.snd (Prod.snd (Prod.snd (Prod.snd (Prod.fst a_0)))))), Prod.snd (Prod.fst (Prod.snd (Prod.snd (Prod.snd (Prod.snd (Prod.fst a_0))))))), Prod.fst (Prod.snd (Prod.snd (Prod.snd (Prod.snd (Prod.snd (Prod.fst a_0)))))), Prod.fst (Prod.snd (Prod.snd (Prod.snd (Prod.snd (Prod.snd (Prod.snd (Prod.fst a_0))))))), Prod.snd (Prod.snd (Prod.snd (Prod.snd (Prod.snd (Prod.snd (Prod.snd (Prod.fst a_0)))))))), k_1)))))))))
  let v_6 : Int := Prod.fst (Wh.laws_markServer' ((Prod.fst (Prod.fst a_0), Prod.fst (Prod.snd (Prod.fst a_0)), Prod.fst (Prod.snd (Prod.snd (Prod.fst a_0))), (Prod.fst (Prod.fst (Prod.snd (Prod.snd (Prod.snd (Prod.fst a_0))))), Prod.fst (Prod.snd (Prod.fst (Prod.snd (Prod.snd (Prod.snd (Prod.fst a_0)))))), Prod.snd (Prod.snd (Prod.fst (Prod.snd (Prod.snd (Prod.snd (Prod.fst a_0))))))), (Prod.fst (Prod.fst (Prod.snd (Prod.snd (Prod.snd (Prod.snd (Prod.fst a_0)))))), Prod.snd (Prod.fst (Prod.snd (Prod.snd (Prod.snd (Prod.snd (Prod.fst a_0))))))), Prod.fst (Prod.snd (Prod.snd (Prod.snd (Prod.snd (Prod.snd (Prod.fst a_0)))))), Prod.fst (Prod.snd (Prod.snd (Prod.snd (Prod.snd (Prod.snd (Prod.snd (Prod.fst a_0))))))), Prod.snd (Prod.snd (Prod.snd (Prod.snd (Prod.snd (Prod.snd (Prod.snd (Prod.fst a_0)))))))), k_1))
  bif allB [Go.Ab.isSm (Wh.laws_markServer ((Prod.fst (Prod.fst a_0), Prod.fst (Prod.snd (Prod.fst a_0)), Prod.fst (Prod.snd (Prod.snd (Prod.fst a_0))), (Prod.fst (Prod.fst (Prod.snd (Prod.snd (Prod.snd (Prod.fst a_0))))), Prod.fst (Prod.snd (Prod.fst (Prod.snd (Prod.snd (Prod.snd (Prod.fst a_0)))))), Prod.snd (Prod.snd (Prod.fst (Prod.snd (Prod.snd (Prod.snd (Prod.fst a_0))))))), (Prod.fst (Prod.fst (Prod.snd (Prod.snd (Prod.snd (Prod.snd (Prod.fst a_0)))))), Prod.snd (Prod.fst (Prod.snd (Prod.snd (Prod.snd (Prod.snd (Prod.fst a_0))))))), Prod.fst (Prod.snd (Prod.snd (Prod.snd (Prod.snd (Prod.snd (Prod.fst a_0)))))), Prod.fst (Prod.snd (Prod.snd (Prod.snd (Prod.snd (Prod.snd (Prod.snd (Prod.fst a_0))))))), Prod.snd (Prod.snd (Prod.snd (Prod.snd (Prod.snd (Prod.snd (Prod.snd (Prod.fst a_0)))))))), k_1))] then
    let pb_7 : List (tImplClient.D) := Prod.fst (Prod.snd (Wh.laws_markClientS' (Prod.fst (Prod.snd a_0), v_6)))
    let v_8 : Int := Prod.fst (Wh.laws_markClientS' (Prod.fst (Prod.snd a_0), v_6))
    bif allB [Go.Ab.isSm (Wh.laws_markClientS (Prod.fst (Prod.snd a_0), v_6))] then
      let pb_9 : List (tImplPacket.D) := Prod.fst (Prod.snd (Wh.laws_markPacketS' (Prod.fst (Prod.snd (Prod.snd a_0)), v_8)))
      let v_10 : Int := Prod.fst (Wh.laws_markPacketS' (Prod.fst (Prod.snd (Prod.snd a_0)), v_8))
      bif allB [Go.Ab.isSm (Wh.laws_markPacketS (Prod.fst (Prod.snd (Prod.snd a_0)), v_8))] then
        let pb_11 : List (tImplItem.D) := Prod.fst (Prod.snd (Wh.laws_markItemS' (Prod.fst (Prod.snd (Prod.snd (Prod.snd a_0))), v_10)))
        let v_12 : Int := Prod.fst (Wh.laws_markItemS' (Prod.fst (Prod.snd (Prod.snd (Prod.snd a_0))), v_10))
        bif allB [Go.Ab.isSm (Wh.laws_markItemS (Prod.fst (Prod.snd (Prod.snd (Prod.snd a_0))), v_10))] then
          some (v_12, ((Prod.fst (Prod.fst a_0), Prod.fst (Prod.snd (Prod.fst a_0)), Prod.fst (Prod.snd (Prod.snd (Prod.fst a_0))), (Prod.fst (Prod.fst (Prod.snd (Prod.snd (Prod.snd (Prod.fst a_0))))), pb_5, Prod.snd (Prod.snd (Prod.fst (Prod.snd (Prod.snd (Prod.snd (Prod.fst a_0))))))), (pb_4, Prod.snd (Prod.fst (Prod.snd (Prod.snd (Prod.snd (Prod.snd (Prod.fst a_0))))))), pb_3, pb_2, Prod.snd (Prod.snd (Prod.snd (Prod.snd (Prod.snd (Prod.snd (Prod.snd (Prod.fst a_0)))))))), pb_7, pb_9, pb_11, Prod.snd (Prod.snd (Prod.snd (Prod.snd a_0)))), ())
        else none
      else none
    else none
  else none
def Wh.laws_markWorld' (xs : (tImplWorld.D) × (Int)) : ((Int)) × ((tImplWorld.D) × Unit) := match Wh.laws_markWorld xs with | some y => y | none => default
theorem Wh.laws_markWorld_v (x : (tImplWorld.D) × (Int)) (y : ((Int)) × ((tImplWorld.D) × Unit)) (h : Wh.laws_markWorld x = some y) : Wh.laws_markWorld' x = y := by unfold Wh.laws_markWorld'; rw [h]

def Wh.laws_heldItemS_l0 (x : ((Int) × (List (tImplItem.D)) × (Int)) × (Unit)) : Option ((((Int) × (List (tImplItem.D)) × (Int)) × (Unit)) ⊕ ((((Int)) × (Unit)) ⊕ (((Int)) × (Unit)))) :=
  let i_17 : Int := Prod.fst (Prod.fst x)
  let a_18 : List (tImplItem.D) := Prod.fst (Prod.snd (Prod.fst x))
  let k_19 : Int := Prod.snd (Prod.snd (Prod.fst x))
  let v_20 : Int := (↑(List.length a_18) : Int)
  let v_21 : Bool := Decidable.decide (i_17 < v_20)
  bif v_21 then
    let v_22 : tImplItem.D := List.getD a_18 (Int.toNat i_17) ((0 : Int), [], (0 : Int), [], ())
    let v_23 : Bool := Prod.fst v_22 != k_19
    bif allB [Decidable.decide ((0 : Int) ≤ i_17), Decidable.decide (i_17 < v_20)] then
      bif v_23 then
        some (.inr (.inl ((-1 : Int), ())))
      else
        let v_24 : Int := Go.IntKind.wrap Go.IntKind.i64 (k_19 + (1 : Int))
        let v_25 : Bool := !Prod.fst (Prod.snd v_22) == Prod.fst (Wh.laws_markText' v_24)
        bif allB [Go.Ab.isSm (Wh.laws_markText v_24), Decidable.decide ((0 : Int) ≤ i_17), Decidable.decide (i_17 < v_20)] then
          bif v_25 then
            some (.inr (.inl ((-1 : Int), ())))
          else
            let v_26 : Int := Go.IntKind.wrap Go.IntKind.i64 (v_24 + (1 : Int))
            let v_27 : Bool := Prod.fst (Prod.snd (Prod.snd v_22)) != v_26
            bif allB [Decidable.decide ((0 : Int) ≤ i_17), Decidable.decide (i_17 < v_20)] then
              bif v_27 then
                some (.inr (.inl ((-1 : Int), ())))
              else
                let v_28 : Int := Go.IntKind.wrap Go.IntKind.i64 (v_26 + (1 : Int))
                let v_29 : Bool := !Prod.fst (Prod.snd (Prod.snd (Prod.snd v_22))) == Prod.fst (Wh.laws_markText' v_28)
                bif allB [Go.Ab.isSm (Wh.laws_markText v_28), Decidable.decide ((0 : Int) ≤ i_17), Decidable.decide (i_17 < v_20)] then
                  bif v_29 then
                    some (.inr (.inl ((-1 : Int), ())))
                  else
                    let v_30 : Int := Go.IntKind.wrap Go.IntKind.i64 (v_28 + (1 : Int))
                    let v_31 : Int := Go.IntKind.wrap Go.IntKind.i64 (i_17 + (1 : Int))
                    some (.inl ((v_31, a_18, v_30), ()))
                else none
            else none
        else none
    else none
  else
    some (.inr (.inr (k_19, ())))
def Wh.laws_heldItemS_l0_y : (((Int)) × (Unit)) ⊕ (((Int)) × (Unit)) := .inl default
def Wh.laws_heldItemS (xs : (List (tImplItem.D)) × (Int)) : Option (((Int)) × (Unit)) :=
  let a_0 : List (tImplItem.D) := Prod.fst xs
  let k_1 : Int := Prod.snd xs
  let x_32 : ((Int) × (List (tImplItem.D)) × (Int)) × (Unit) := (((0 : Int), a_0, k_1), ())
  bif comesB Wh.laws_heldItemS_l0 x_32 then
    sumC (comesV Wh.laws_heldItemS_l0 Wh.laws_heldItemS_l0_y x_32) (fun y_33 =>
      let v_35 : Int := Prod.fst y_33
      some (v_35, ())) (fun z_34 =>
      let k_36 : Int := Prod.fst z_34
      some (k_36, ()))
  else none
def Wh.laws_heldItemS' (xs : (List (tImplItem.D)) × (Int)) : ((Int)) × (Unit) := match Wh.laws_heldItemS xs with | some y => y | none => default
theorem Wh.laws_heldItemS_v (x : (List (tImplItem.D)) × (Int)) (y : ((Int)) × (Unit)) (h : Wh.laws_heldItemS x = some y) : Wh.laws_heldItemS' x = y := by unfold Wh.laws_heldItemS'; rw [h]

def Wh.laws_heldCat (xs : (tImplCat.D) × (Int)) : Option (((Int)) × (Unit)) :=
  let a_0 : tImplCat.D := Prod.fst xs
  let k_1 : Int := Prod.snd xs
  let v_2 : Int := Prod.fst (Wh.laws_heldItemS' (Prod.fst (Prod.snd a_0), k_1))
  bif allB [Go.Ab.isSm (Wh.laws_heldItemS (Prod.fst (Prod.snd a_0), k_1))] then
    let v_3 : Bool := Decidable.decide (v_2 < (0 : Int))
    bif v_3 then
      some ((-1 : Int), ())
    else
      some (v_2, ())
  else none
def Wh.laws_heldCat' (xs : (tImplCat.D) × (Int)) : ((Int)) × (Unit) := match Wh.laws_heldCat xs with | some y => y | none => default
theorem Wh.laws_heldCat_v (x : (tImplCat.D) × (Int)) (y : ((Int)) × (Unit)) (h : Wh.laws_heldCat x = some y) : Wh.laws_heldCat' x = y := by unfold Wh.laws_heldCat'; rw [h]

def Wh.laws_heldFrameS_l0 (x : ((Int) × (List (tImplFrame.D)) × (Int)) × (Unit)) : Option ((((Int) × (List (tImplFrame.D)) × (Int)) × (Unit)) ⊕ ((((Int)) × (Unit)) ⊕ (((Int)) × (Unit)))) :=
  let i_21 : Int := Prod.fst (Prod.fst x)
  let a_22 : List (tImplFrame.D) := Prod.fst (Prod.snd (Prod.fst x))
  let k_23 : Int := Prod.snd (Prod.snd (Prod.fst x))
  let v_24 : Int := (↑(List.length a_22) : Int)
  let v_25 : Bool := Decidable.decide (i_21 < v_24)
  bif v_25 then
    let v_26 : tImplFrame.D := List.getD a_22 (Int.toNat i_21) ((0 : Int), (0 : Int), (0 : Int), (0 : Int), Bool.false, ())
    let v_27 : Bool := Prod.fst v_26 != k_23
    bif allB [Decidable.decide ((0 : Int) ≤ i_21), Decidable.decide (i_21 < v_24)] then
      bif v_27 then
        some (.inr (.inl ((-1 : Int), ())))
      else
        let v_28 : Int := Go.IntKind.wrap Go.IntKind.i64 (k_23 + (1 : Int))
        let v_29 : Bool := Prod.fst (Prod.snd v_26) != v_28
        bif allB [Decidable.decide ((0 : Int) ≤ i_21), Decidable.decide (i_21 < v_24)] then
          bif v_29 then
            some (.inr (.inl ((-1 : Int), ())))
          else
            let v_30 : Int := Go.IntKind.wrap Go.IntKind.i64 (v_28 + (1 : Int))
            let v_31 : Bool := Prod.fst (Prod.snd (Prod.snd v_26)) != v_30
            bif allB [Decidable.decide ((0 : Int) ≤ i_21), Decidable.decide (i_21 < v_24)] then
              bif v_31 then
                some (.inr (.inl ((-1 : Int), ())))
              else
                let v_32 : Int := Go.IntKind.wrap Go.IntKind.i64 (v_30 + (1 : Int))
                let v_33 : Bool := Prod.fst (Prod.snd (Prod.snd (Prod.snd v_26))) != v_32
                bif allB [Decidable.decide ((0 : Int) ≤ i_21), Decidable.decide (i_21 < v_24)] then
                  bif v_33 then
                    some (.inr (.inl ((-1 : Int), ())))
                  else
                    let v_34 : Int := Go.IntKind.wrap Go.IntKind.i64 (v_32 + (1 : Int))
                    let v_35 : Int := Int.tmod v_34 (3 : Int)
                    let v_37 : Bool := !Prod.fst (Prod.snd (Prod.snd (Prod.snd (Prod.snd v_26)))) == (v_35 == (0 : Int))
                    bif allB [Bool.true, Decidable.decide ((0 : Int) ≤ i_21), Decidable.decide (i_21 < v_24)] then
                      bif v_37 then
                        some (.inr (.inl ((-1 : Int), ())))
                      else
                        let v_38 : Int := Go.IntKind.wrap Go.IntKind.i64 (v_34 + (1 : Int))
                        let v_39 : Int := Go.IntKind.wrap Go.IntKind.i64 (i_21 + (1 : Int))
                        some (.inl ((v_39, a_22, v_38), ()))
                    else none
                else none
            else none
        else none
    else none
  else
    some (.inr (.inr (k_23, ())))
def Wh.laws_heldFrameS_l0_y : (((Int)) × (Unit)) ⊕ (((Int)) × (Unit)) := .inl default
def Wh.laws_heldFrameS (xs : (List (tImplFrame.D)) × (Int)) : Option (((Int)) × (Unit)) :=
  let a_0 : List (tImplFrame.D) := Prod.fst xs
  let k_1 : Int := Prod.snd xs
  let x_40 : ((Int) × (List (tImplFrame.D)) × (Int)) × (Unit) := (((0 : Int), a_0, k_1), ())
  bif comesB Wh.laws_heldFrameS_l0 x_40 then
    sumC (comesV Wh.laws_heldFrameS_l0 Wh.laws_heldFrameS_l0_y x_40) (fun y_41 =>
      let v_43 : Int := Prod.fst y_41
      some (v_43, ())) (fun z_42 =>
      let k_44 : Int := Prod.fst z_42
      some (k_44, ()))
  else none
def Wh.laws_heldFrameS' (xs : (List (tImplFrame.D)) × (Int)) : ((Int)) × (Unit) := match Wh.laws_heldFrameS xs with | some y => y | none => default
theorem Wh.laws_heldFrameS_v (x : (List (tImplFrame.D)) × (Int)) (y : ((Int)) × (Unit)) (h : Wh.laws_heldFrameS x = some y) : Wh.laws_heldFrameS' x = y := by unfold Wh.laws_heldFrameS'; rw [h]

def Wh.laws_heldPool (xs : (tImplPool.D) × (Int)) : Option (((Int)) × (Unit)) :=
  let a_0 : tImplPool.D := Prod.fst xs
  let k_1 : Int := Prod.snd xs
  let v_2 : Int := Prod.fst (Wh.laws_heldFrameS' (Prod.fst a_0, k_1))
  bif allB [Go.Ab.isSm (Wh.laws_heldFrameS (Prod.fst a_0, k_1))] then
    let v_3 : Bool := Decidable.decide (v_2 < (0 : Int))
    bif v_3 then
      some ((-1 : Int), ())
    else
      some (v_2, ())
  else none
def Wh.laws_heldPool' (xs : (tImplPool.D) × (Int)) : ((Int)) × (Unit) := match Wh.laws_heldPool xs with | some y => y | none => default
theorem Wh.laws_heldPool_v (x : (tImplPool.D) × (Int)) (y : ((Int)) × (Unit)) (h : Wh.laws_heldPool x = some y) : Wh.laws_heldPool' x = y := by unfold Wh.laws_heldPool'; rw [h]

def Wh.laws_heldBucketS_l0 (x : ((Int) × (List (tImplBucket.D)) × (Int)) × (Unit)) : Option ((((Int) × (List (tImplBucket.D)) × (Int)) × (Unit)) ⊕ ((((Int)) × (Unit)) ⊕ (((Int)) × (Unit)))) :=
  let i_17 : Int := Prod.fst (Prod.fst x)
  let a_18 : List (tImplBucket.D) := Prod.fst (Prod.snd (Prod.fst x))
  let k_19 : Int := Prod.snd (Prod.snd (Prod.fst x))
  let v_20 : Int := (↑(List.length a_18) : Int)
  let v_21 : Bool := Decidable.decide (i_17 < v_20)
  bif v_21 then
    let v_22 : tImplBucket.D := List.getD a_18 (Int.toNat i_17) ((0 : Int), (0 : Int), (0 : Int), (0 : Int), ())
    let v_23 : Bool := Prod.fst v_22 != k_19
    bif allB [Decidable.decide ((0 : Int) ≤ i_17), Decidable.decide (i_17 < v_20)] then
      bif v_23 then
        some (.inr (.inl ((-1 : Int), ())))
      else
        let v_24 : Int := Go.IntKind.wrap Go.IntKind.i64 (k_19 + (1 : Int))
        let v_25 : Bool := Prod.fst (Prod.snd v_22) != v_24
        bif allB [Decidable.decide ((0 : Int) ≤ i_17), Decidable.decide (i_17 < v_20)] then
          bif v_25 then
            some (.inr (.inl ((-1 : Int), ())))
          else
            let v_26 : Int := Go.IntKind.wrap Go.IntKind.i64 (v_24 + (1 : Int))
            let v_27 : Bool := Prod.fst (Prod.snd (Prod.snd v_22)) != v_26
            bif allB [Decidable.decide ((0 : Int) ≤ i_17), Decidable.decide (i_17 < v_20)] then
              bif v_27 then
                some (.inr (.inl ((-1 : Int), ())))
              else
                let v_28 : Int := Go.IntKind.wrap Go.IntKind.i64 (v_26 + (1 : Int))
                let v_29 : Bool := Prod.fst (Prod.snd (Prod.snd (Prod.snd v_22))) != v_28
                bif allB [Decidable.decide ((0 : Int) ≤ i_17), Decidable.decide (i_17 < v_20)] then
                  bif v_29 then
                    some (.inr (.inl ((-1 : Int), ())))
                  else
                    let v_30 : Int := Go.IntKind.wrap Go.IntKind.i64 (v_28 + (1 : Int))
                    let v_31 : Int := Go.IntKind.wrap Go.IntKind.i64 (i_17 + (1 : Int))
                    some (.inl ((v_31, a_18, v_30), ()))
                else none
            else none
        else none
    else none
  else
    some (.inr (.inr (k_19, ())))
def Wh.laws_heldBucketS_l0_y : (((Int)) × (Unit)) ⊕ (((Int)) × (Unit)) := .inl default
def Wh.laws_heldBucketS (xs : (List (tImplBucket.D)) × (Int)) : Option (((Int)) × (Unit)) :=
  let a_0 : List (tImplBucket.D) := Prod.fst xs
  let k_1 : Int := Prod.snd xs
  let x_32 : ((Int) × (List (tImplBucket.D)) × (Int)) × (Unit) := (((0 : Int), a_0, k_1), ())
  bif comesB Wh.laws_heldBucketS_l0 x_32 then
    sumC (comesV Wh.laws_heldBucketS_l0 Wh.laws_heldBucketS_l0_y x_32) (fun y_33 =>
      let v_35 : Int := Prod.fst y_33
      some (v_35, ())) (fun z_34 =>
      let k_36 : Int := Prod.fst z_34
      some (k_36, ()))
  else none
def Wh.laws_heldBucketS' (xs : (List (tImplBucket.D)) × (Int)) : ((Int)) × (Unit) := match Wh.laws_heldBucketS xs with | some y => y | none => default
theorem Wh.laws_heldBucketS_v (x : (List (tImplBucket.D)) × (Int)) (y : ((Int)) × (Unit)) (h : Wh.laws_heldBucketS x = some y) : Wh.laws_heldBucketS' x = y := by unfold Wh.laws_heldBucketS'; rw [h]

def Wh.laws_heldServeS_l0 (x : ((Int) × (List (tImplServe.D)) × (Int)) × (Unit)) : Option ((((Int) × (List (tImplServe.D)) × (Int)) × (Unit)) ⊕ ((((Int)) × (Unit)) ⊕ (((Int)) × (Unit)))) :=
  let i_21 : Int := Prod.fst (Prod.fst x)
  let a_22 : List (tImplServe.D) := Prod.fst (Prod.snd (Prod.fst x))
  let k_23 : Int := Prod.snd (Prod.snd (Prod.fst x))
  let v_24 : Int := (↑(List.length a_22) : Int)
  let v_25 : Bool := Decidable.decide (i_21 < v_24)
  bif v_25 then
    let v_26 : tImplServe.D := List.getD a_22 (Int.toNat i_21) ((0 : Int), (0 : Int), (0 : Int), (0 : Int), (0 : Int), (0 : Int), ())
    let v_27 : Bool := Prod.fst v_26 != k_23
    bif allB [Decidable.decide ((0 : Int) ≤ i_21), Decidable.decide (i_21 < v_24)] then
      bif v_27 then
        some (.inr (.inl ((-1 : Int), ())))
      else
        let v_28 : Int := Go.IntKind.wrap Go.IntKind.i64 (k_23 + (1 : Int))
        let v_29 : Bool := Prod.fst (Prod.snd v_26) != v_28
        bif allB [Decidable.decide ((0 : Int) ≤ i_21), Decidable.decide (i_21 < v_24)] then
          bif v_29 then
            some (.inr (.inl ((-1 : Int), ())))
          else
            let v_30 : Int := Go.IntKind.wrap Go.IntKind.i64 (v_28 + (1 : Int))
            let v_31 : Bool := Prod.fst (Prod.snd (Prod.snd v_26)) != v_30
            bif allB [Decidable.decide ((0 : Int) ≤ i_21), Decidable.decide (i_21 < v_24)] then
              bif v_31 then
                some (.inr (.inl ((-1 : Int), ())))
              else
                let v_32 : Int := Go.IntKind.wrap Go.IntKind.i64 (v_30 + (1 : Int))
                let v_33 : Bool := Prod.fst (Prod.snd (Prod.snd (Prod.snd v_26))) != v_32
                bif allB [Decidable.decide ((0 : Int) ≤ i_21), Decidable.decide (i_21 < v_24)] then
                  bif v_33 then
                    some (.inr (.inl ((-1 : Int), ())))
                  else
                    let v_34 : Int := Go.IntKind.wrap Go.IntKind.i64 (v_32 + (1 : Int))
                    let v_35 : Bool := Prod.fst (Prod.snd (Prod.snd (Prod.snd (Prod.snd v_26)))) != v_34
                    bif allB [Decidable.decide ((0 : Int) ≤ i_21), Decidable.decide (i_21 < v_24)] then
                      bif v_35 then
                        some (.inr (.inl ((-1 : Int), ())))
                      else
                        let v_36 : Int := Go.IntKind.wrap Go.IntKind.i64 (v_34 + (1 : Int))
                        let v_37 : Bool := Prod.fst (Prod.snd (Prod.snd (Prod.snd (Prod.snd (Prod.snd v_26))))) != v_36
                        bif allB [Decidable.decide ((0 : Int) ≤ i_21), Decidable.decide (i_21 < v_24)] then
                          bif v_37 then
                            some (.inr (.inl ((-1 : Int), ())))
                          else
                            let v_38 : Int := Go.IntKind.wrap Go.IntKind.i64 (v_36 + (1 : Int))
                            let v_39 : Int := Go.IntKind.wrap Go.IntKind.i64 (i_21 + (1 : Int))
                            some (.inl ((v_39, a_22, v_38), ()))
                        else none
                    else none
                else none
            else none
        else none
    else none
  else
    some (.inr (.inr (k_23, ())))
def Wh.laws_heldServeS_l0_y : (((Int)) × (Unit)) ⊕ (((Int)) × (Unit)) := .inl default
def Wh.laws_heldServeS (xs : (List (tImplServe.D)) × (Int)) : Option (((Int)) × (Unit)) :=
  let a_0 : List (tImplServe.D) := Prod.fst xs
  let k_1 : Int := Prod.snd xs
  let x_40 : ((Int) × (List (tImplServe.D)) × (Int)) × (Unit) := (((0 : Int), a_0, k_1), ())
  bif comesB Wh.laws_heldServeS_l0 x_40 then
    sumC (comesV Wh.laws_heldServeS_l0 Wh.laws_heldServeS_l0_y x_40) (fun y_41 =>
      let v_43 : Int := Prod.fst y_41
      some (v_43, ())) (fun z_42 =>
      let k_44 : Int := Prod.fst z_42
      some (k_44, ()))
  else none
def Wh.laws_heldServeS' (xs : (List (tImplServe.D)) × (Int)) : ((Int)) × (Unit) := match Wh.laws_heldServeS xs with | some y => y | none => default
theorem Wh.laws_heldServeS_v (x : (List (tImplServe.D)) × (Int)) (y : ((Int)) × (Unit)) (h : Wh.laws_heldServeS x = some y) : Wh.laws_heldServeS' x = y := by unfold Wh.laws_heldServeS'; rw [h]

def Wh.laws_heldServer (xs : (tImplServer.D) × (Int)) : Option (((Int)) × (Unit)) :=
  let a_0 : tImplServer.D := Prod.fst xs
  let k_1 : Int := Prod.snd xs
  let v_2 : Int := Prod.fst (Wh.laws_heldCat' (Prod.fst (Prod.snd (Prod.snd (Prod.snd a_0))), k_1))
  bif allB [Go.Ab.isSm (Wh.laws_heldCat (Prod.fst (Prod.snd (Prod.snd (Prod.snd a_0))), k_1))] then
    let v_3 : Bool := Decidable.decide (v_2 < (0 : Int))
    bif v_3 then
      some ((-1 : Int), ())
    else
      let v_4 : Int := Prod.fst (Wh.laws_heldPool' (Prod.fst (Prod.snd (Prod.snd (Prod.snd (Prod.snd a_0)))), v_2))
      bif allB [Go.Ab.isSm (Wh.laws_heldPool (Prod.fst (Prod.snd (Prod.snd (Prod.snd (Prod.snd a_0)))), v_2))] then
        let v_5 : Bool := Decidable.decide (v_4 < (0 : Int))
        bif v_5 then
          some ((-1 : Int), ())
        else
          let v_6 : Int := Prod.fst (Wh.laws_heldBucketS' (Prod.fst (Prod.snd (Prod.snd (Prod.snd (Prod.snd (Prod.snd a_0))))), v_4))
          bif allB [Go.Ab.isSm (Wh.laws_heldBucketS (Prod.fst (Prod.snd (Prod.snd (Prod.snd (Prod.snd (Prod.snd a_0))))), v_4))] then
            let v_7 : Bool := Decidable.decide (v_6 < (0 : Int))
            bif v_7 then
              some ((-1 : Int), ())
            else
              let v_8 : Int := Prod.fst (Wh.laws_heldServeS' (Prod.fst (Prod.snd (Prod.snd (Prod.snd (Prod.snd (Prod.snd (Prod.snd a_0)))))), v_6))
              bif allB [Go.Ab.isSm (Wh.laws_heldServeS (Prod.fst (Prod.snd (Prod.snd (Prod.snd (Prod.snd (Prod.snd (Prod.snd a_0)))))), v_6))] then
                let v_9 : Bool := Decidable.decide (v_8 < (0 : Int))
                bif v_9 then
                  some ((-1 : Int), ())
                else
                  some (v_8, ())
              else none
          else none
      else none
  else none
def Wh.laws_heldServer' (xs : (tImplServer.D) × (Int)) : ((Int)) × (Unit) := match Wh.laws_heldServer xs with | some y => y | none => default
theorem Wh.laws_heldServer_v (x : (tImplServer.D) × (Int)) (y : ((Int)) × (Unit)) (h : Wh.laws_heldServer x = some y) : Wh.laws_heldServer' x = y := by unfold Wh.laws_heldServer'; rw [h]

def Wh.laws_heldIntS_l0 (x : ((Int) × (Int) × (List (Int))) × (Unit)) : Option ((((Int) × (Int) × (List (Int))) × (Unit)) ⊕ ((((Int)) × (Unit)) ⊕ (((Int)) × (Unit)))) :=
  let i_10 : Int := Prod.fst (Prod.fst x)
  let k_11 : Int := Prod.fst (Prod.snd (Prod.fst x))
  let a_12 : List Int := Prod.snd (Prod.snd (Prod.fst x))
  let v_13 : Bool := Decidable.decide (i_10 < (↑(List.length a_12) : Int))
  bif v_13 then
    let v_14 : Int := List.getD a_12 (Int.toNat i_10) (0 : Int)
    let v_15 : Bool := v_14 != k_11
    bif allB [Decidable.decide ((0 : Int) ≤ i_10), v_13] then
      bif v_15 then
        some (.inr (.inl ((-1 : Int), ())))
      else
        let v_16 : Int := Go.IntKind.wrap Go.IntKind.i64 (k_11 + (1 : Int))
        let v_17 : Int := Go.IntKind.wrap Go.IntKind.i64 (i_10 + (1 : Int))
        some (.inl ((v_17, v_16, a_12), ()))
    else none
  else
    some (.inr (.inr (k_11, ())))
def Wh.laws_heldIntS_l0_y : (((Int)) × (Unit)) ⊕ (((Int)) × (Unit)) := .inl default
def Wh.laws_heldIntS (xs : (List (Int)) × (Int)) : Option (((Int)) × (Unit)) :=
  let a_0 : List Int := Prod.fst xs
  let k_1 : Int := Prod.snd xs
  let x_18 : ((Int) × (Int) × (List (Int))) × (Unit) := (((0 : Int), k_1, a_0), ())
  bif comesB Wh.laws_heldIntS_l0 x_18 then
    sumC (comesV Wh.laws_heldIntS_l0 Wh.laws_heldIntS_l0_y x_18) (fun y_19 =>
      let v_21 : Int := Prod.fst y_19
      some (v_21, ())) (fun z_20 =>
      let k_22 : Int := Prod.fst z_20
      some (k_22, ()))
  else none
def Wh.laws_heldIntS' (xs : (List (Int)) × (Int)) : ((Int)) × (Unit) := match Wh.laws_heldIntS xs with | some y => y | none => default
theorem Wh.laws_heldIntS_v (x : (List (Int)) × (Int)) (y : ((Int)) × (Unit)) (h : Wh.laws_heldIntS x = some y) : Wh.laws_heldIntS' x = y := by unfold Wh.laws_heldIntS'; rw [h]

def Wh.laws_heldEqS_l0 (x : ((Int) × (List (tImplEq.D)) × (Int)) × (Unit)) : Option ((((Int) × (List (tImplEq.D)) × (Int)) × (Unit)) ⊕ ((((Int)) × (Unit)) ⊕ (((Int)) × (Unit)))) :=
  let i_14 : Int := Prod.fst (Prod.fst x)
  let a_15 : List (tImplEq.D) := Prod.fst (Prod.snd (Prod.fst x))
  let k_16 : Int := Prod.snd (Prod.snd (Prod.fst x))
  let v_17 : Int := (↑(List.length a_15) : Int)
  let v_18 : Bool := Decidable.decide (i_14 < v_17)
  bif v_18 then
    let v_19 : tImplEq.D := List.getD a_15 (Int.toNat i_14) ([], [], ())
    let k_21 : Int := Prod.fst (Wh.laws_heldIntS' (Prod.fst v_19, k_16))
    bif allB [Go.Ab.isSm (Wh.laws_heldIntS (Prod.fst v_19, k_16)), Decidable.decide ((0 : Int) ≤ i_14), Decidable.decide (i_14 < v_17)] then
      let v_22 : Bool := Decidable.decide (k_21 < (0 : Int))
      bif v_22 then
        some (.inr (.inl ((-1 : Int), ())))
      else
        let v_23 : Bool := !Prod.fst (Prod.snd v_19) == Prod.fst (Wh.laws_markText' k_21)
        bif allB [Go.Ab.isSm (Wh.laws_markText k_21), Decidable.decide ((0 : Int) ≤ i_14), Decidable.decide (i_14 < v_17)] then
          bif v_23 then
            some (.inr (.inl ((-1 : Int), ())))
          else
            let v_24 : Int := Go.IntKind.wrap Go.IntKind.i64 (k_21 + (1 : Int))
            let v_25 : Int := Go.IntKind.wrap Go.IntKind.i64 (i_14 + (1 : Int))
            some (.inl ((v_25, a_15, v_24), ()))
        else none
    else none
  else
    some (.inr (.inr (k_16, ())))
def Wh.laws_heldEqS_l0_y : (((Int)) × (Unit)) ⊕ (((Int)) × (Unit)) := .inl default
def Wh.laws_heldEqS (xs : (List (tImplEq.D)) × (Int)) : Option (((Int)) × (Unit)) :=
  let a_0 : List (tImplEq.D) := Prod.fst xs
  let k_1 : Int := Prod.snd xs
  let x_26 : ((Int) × (List (tImplEq.D)) × (Int)) × (Unit) := (((0 : Int), a_0, k_1), ())
  bif comesB Wh.laws_heldEqS_l0 x_26 then
    sumC (comesV Wh.laws_heldEqS_l0 Wh.laws_heldEqS_l0_y x_26) (fun y_27 =>
      let v_29 : Int := Prod.fst y_27
      some (v_29, ())) (fun z_28 =>
      let k_30 : Int := Prod.fst z_28
      some (k_30, ()))
  else none
def Wh.laws_heldEqS' (xs : (List (tImplEq.D)) × (Int)) : ((Int)) × (Unit) := match Wh.laws_heldEqS xs with | some y => y | none => default
theorem Wh.laws_heldEqS_v (x : (List (tImplEq.D)) × (Int)) (y : ((Int)) × (Unit)) (h : Wh.laws_heldEqS x = some y) : Wh.laws_heldEqS' x = y := by unfold Wh.laws_heldEqS'; rw [h]

def Wh.laws_heldClientS_l0 (x : ((Int) × (List (tImplClient.D)) × (Int)) × (Unit)) : Option ((((Int) × (List (tImplClient.D)) × (Int)) × (Unit)) ⊕ ((((Int)) × (Unit)) ⊕ (((Int)) × (Unit)))) :=
  let i_36 : Int := Prod.fst (Prod.fst x)
  let a_37 : List (tImplClient.D) := Prod.fst (Prod.snd (Prod.fst x))
  let k_38 : Int := Prod.snd (Prod.snd (Prod.fst x))
  let v_39 : Int := (↑(List.length a_37) : Int)
  let v_40 : Bool := Decidable.decide (i_36 < v_39)
  bif v_40 then
    let v_41 : tImplClient.D := List.getD a_37 (Int.toNat i_36) ((0 : Int), (0 : Int), (0 : Int), [], (0 : Int), (((0 : Int), (0 : Int), [], [], ()), ((0 : Int), (0 : Int), [], ()), ()), ())
    let v_42 : Bool := Prod.fst v_41 != k_38
    bif allB [Decidable.decide ((0 : Int) ≤ i_36), Decidable.decide (i_36 < v_39)] then
      bif v_42 then
        some (.inr (.inl ((-1 : Int), ())))
      else
        let v_43 : Int := Go.IntKind.wrap Go.IntKind.i64 (k_38 + (1 : Int))
        let v_44 : Bool := Prod.fst (Prod.snd v_41) != v_43
        bif allB [Decidable.decide ((0 : Int) ≤ i_36), Decidable.decide (i_36 < v_39)] then
          bif v_44 then
            some (.inr (.inl ((-1 : Int), ())))
          else
            let v_45 : Int := Go.IntKind.wrap Go.IntKind.i64 (v_43 + (1 : Int))
            let v_46 : Bool := Prod.fst (Prod.snd (Prod.snd v_41)) != v_45
            bif allB [Decidable.decide ((0 : Int) ≤ i_36), Decidable.decide (i_36 < v_39)] then
              bif v_46 then
                some (.inr (.inl ((-1 : Int), ())))
              else
                let v_47 : Int := Go.IntKind.wrap Go.IntKind.i64 (v_45 + (1 : Int))
                let v_48 : Bool := !Prod.fst (Prod.snd (Prod.snd (Prod.snd v_41))) == Prod.fst (Wh.laws_markText' v_47)
                bif allB [Go.Ab.isSm (Wh.laws_markText v_47), Decidable.decide ((0 : Int) ≤ i_36), Decidable.decide (i_36 < v_39)] then
                  bif v_48 then
                    some (.inr (.inl ((-1 : Int), ())))
                  else
                    let v_49 : Int := Go.IntKind.wrap Go.IntKind.i64 (v_47 + (1 : Int))
                    let v_50 : Bool := Prod.fst (Prod.snd (Prod.snd (Prod.snd (Prod.snd v_41)))) != v_49
                    bif allB [Decidable.decide ((0 : Int) ≤ i_36), Decidable.decide (i_36 < v_39)] then
                      bif v_50 then
                        some (.inr (.inl ((-1 : Int), ())))
                      else
                        let v_51 : Int := Go.IntKind.wrap Go.IntKind.i64 (v_49 + (1 : Int))
                        let v_52 : Bool := Prod.fst (Prod.fst (Prod.fst (Prod.snd (Prod.snd (Prod.snd (Prod.snd (Prod.snd v_41))))))) != v_51
                        bif allB [Decidable.decide ((0 : Int) ≤ i_36), Decidable.decide (i_36 < v_39)] then
                          bif v_52 then
                            some (.inr (.inl ((-1 : Int), ())))
                          else
                            let v_53 : Int := Go.IntKind.wrap Go.IntKind.i64 (v_51 + (1 : Int))
                            let v_54 : Bool := Prod.fst (Prod.snd (Prod.fst (Prod.fst (Prod.snd (Prod.snd (Prod.snd (Prod.snd (Prod.snd v_41)))))))) != v_53
                            bif allB [Decidable.decide ((0 : Int) ≤ i_36), Decidable.decide (i_36 < v_39)] then
                              bif v_54 then
                                some (.inr (.inl ((-1 : Int), ())))
                              else
                                let v_55 : Int := Go.IntKind.wrap Go.IntKind.i64 (v_53 + (1 : Int))
                                let k_57 : Int := Prod.fst (Wh.laws_heldIntS' (Prod.fst (Prod.snd (Prod.snd (Prod.fst (Prod.fst (Prod.snd (Prod.snd (Prod.snd (Prod.snd (Prod.snd v_41))))))))), v_55))
                                bif allB [Go.Ab.isSm (Wh.laws_heldIntS (Prod.fst (Prod.snd (Prod.snd (Prod.fst (Prod.fst (Prod.snd (Prod.snd (Prod.snd (Prod.snd (Prod.snd v_41))))))))), v_55)), Decidable.decide ((0 : Int) ≤ i_36), Decidable.decide (i_36 < v_39)] then
                                  let v_58 : Bool := Decidable.decide (k_57 < (0 : Int))
                                  bif v_58 then
                                    some (.inr (.inl ((-1 : Int), ())))
                                  else
                                    let k_60 : Int := Prod.fst (Wh.laws_heldIntS' (Prod.fst (Prod.snd (Prod.snd (Prod.snd (Prod.fst (Prod.fst (Prod.snd (Prod.snd (Prod.snd (Prod.snd (Prod.snd v_41)))))))))), k_57))
                                    bif allB [Go.Ab.isSm (Wh.laws_heldIntS (Prod.fst (Prod.snd (Prod.snd (Prod.snd (Prod.fst (Prod.fst (Prod.snd (Prod.snd (Prod.snd (Prod.snd (Prod.snd v_41)))))))))), k_57)), Decidable.decide ((0 : Int) ≤ i_36), Decidable.decide (i_36 < v_39)] then
                                      let v_61 : Bool := Decidable.decide (k_60 < (0 : Int))
                                      bif v_61 then
                                        some (.inr (.inl ((-1 : Int), ())))
                                      else
                                        let v_62 : Bool := Prod.fst (Prod.fst (Prod.snd (Prod.fst (Prod.snd (Prod.snd (Prod.snd (Prod.snd (Prod.snd v_41)))))))) != k_60
                                        bif allB [Decidable.decide ((0 : Int) ≤ i_36), Decidable.decide (i_36 < v_39)] then
                                          bif v_62 then
                                            some (.inr (.inl ((-1 : Int), ())))
                                          else
                                            let v_63 : Int := Go.IntKind.wrap Go.IntKind.i64 (k_60 + (1 : Int))
                                            let v_64 : Bool := Prod.fst (Prod.snd (Prod.fst (Prod.snd (Prod.fst (Prod.snd (Prod.snd (Prod.snd (Prod.snd (Prod.snd v_41))))))))) != v_63
                                            bif allB [Decidable.decide ((0 : Int) ≤ i_36), Decidable.decide (i_36 < v_39)] then
                                              bif v_64 then
                                                some (.inr (.inl ((-1 : Int), ())))
                                              else
                                                let v_65 : Int := Go.IntKind.wrap Go.IntKind.i64 (v_63 + (1 : Int))
                                                let k_67 : Int := Prod.fst (Wh.laws_heldEqS' (Prod.fst (Prod.snd (Prod.snd (Prod.fst (Prod.snd (Prod.fst (Prod.snd (Prod.snd (Prod.snd (Prod.snd (Prod.snd v_41)))))))))), v_65))
                                                bif allB [Go.Ab.isSm (Wh.laws_heldEqS (Prod.fst (Prod.snd (Prod.snd (Prod.fst (Prod.snd (Prod.fst (Prod.snd (Prod.snd (Prod.snd (Prod.snd (Prod.snd v_41)))))))))), v_65)), Decidable.decide ((0 : Int) ≤ i_36), Decidable.decide (i_36 < v_39)] then
                                                  let v_68 : Bool := Decidable.decide (k_67 < (0 : Int))
                                                  bif v_68 then
                                                    some (.inr (.inl ((-1 : Int), ())))
                                                  else
                                                    let v_69 : Int := Go.IntKind.wrap Go.IntKind.i64 (i_36 + (1 : Int))
                                                    some (.inl ((v_69, a_37, k_67), ()))
                                                else none
                                            else none
                                        else none
                                    else none
                                else none
                            else none
                        else none
                    else none
                else none
            else none
        else none
    else none
  else
    some (.inr (.inr (k_38, ())))
def Wh.laws_heldClientS_l0_y : (((Int)) × (Unit)) ⊕ (((Int)) × (Unit)) := .inl default
def Wh.laws_heldClientS (xs : (List (tImplClient.D)) × (Int)) : Option (((Int)) × (Unit)) :=
  let a_0 : List (tImplClient.D) := Prod.fst xs
  let k_1 : Int := Prod.snd xs
  let x_70 : ((Int) × (List (tImplClient.D)) × (Int)) × (Unit) := (((0 : Int), a_0, k_1), ())
  bif comesB Wh.laws_heldClientS_l0 x_70 then
    sumC (comesV Wh.laws_heldClientS_l0 Wh.laws_heldClientS_l0_y x_70) (fun y_71 =>
      let v_73 : Int := Prod.fst y_71
      some (v_73, ())) (fun z_72 =>
      let k_74 : Int := Prod.fst z_72
      some (k_74, ()))
  else none
def Wh.laws_heldClientS' (xs : (List (tImplClient.D)) × (Int)) : ((Int)) × (Unit) := match Wh.laws_heldClientS xs with | some y => y | none => default
theorem Wh.laws_heldClientS_v (x : (List (tImplClient.D)) × (Int)) (y : ((Int)) × (Unit)) (h : Wh.laws_heldClientS x = some y) : Wh.laws_heldClientS' x = y := by unfold Wh.laws_heldClientS'; rw [h]


end

