import Derived.Test.YtpdphbjjfepigaaA4
open Go Go.Ab
noncomputable section
abbrev tRuntimeBoundsError : Ty := (.pair (.int .i64) (.pair (.int .i64) (.pair .bool (.pair (.int .u8) .unit))))
abbrev tRuntimeBoundsError.D : Type := (Int) × ((Int) × ((Bool) × ((Int) × (Unit))))

abbrev tRuntimeErrorAddressString : Ty := (.pair .str (.pair (.int .u64) .unit))
abbrev tRuntimeErrorAddressString.D : Type := (List UInt8) × ((Int) × (Unit))

abbrev tImplPlan : Ty := (.pair (.int .i64) (.pair (.int .i64) (.pair (.lst (.int .i64)) (.pair (.lst (.int .i64)) .unit))))
abbrev tImplPlan.D : Type := (Int) × ((Int) × ((List (Int)) × ((List (Int)) × (Unit))))

abbrev tImplSolver : Ty := (.pair (.int .i64) (.pair (.int .i64) (.pair (.lst (.pair (.lst (.int .i64)) (.pair .str .unit))) .unit)))
abbrev tImplSolver.D : Type := (Int) × ((Int) × ((List ((List (Int)) × ((List UInt8) × (Unit)))) × (Unit)))

abbrev tImplGetting : Ty := (.pair tImplPlan (.pair tImplSolver .unit))
abbrev tImplGetting.D : Type := (tImplPlan.D) × ((tImplSolver.D) × (Unit))

abbrev tImplClient : Ty := (.pair (.int .i64) (.pair (.int .i64) (.pair (.int .i64) (.pair .str (.pair (.int .i64) (.pair tImplGetting .unit))))))
abbrev tImplClient.D : Type := (Int) × ((Int) × ((Int) × ((List UInt8) × ((Int) × ((tImplGetting.D) × (Unit))))))

abbrev tImplCat : Ty := (.pair (.int .i64) (.pair (.lst (.pair (.int .i64) (.pair .str (.pair (.int .i64) (.pair .str .unit))))) .unit))
abbrev tImplCat.D : Type := (Int) × ((List ((Int) × ((List UInt8) × ((Int) × ((List UInt8) × (Unit)))))) × (Unit))

abbrev tImplPool : Ty := (.pair (.lst (.pair (.int .i64) (.pair (.int .i64) (.pair (.int .i64) (.pair (.int .i64) (.pair .bool .unit)))))) (.pair (.int .i64) .unit))
abbrev tImplPool.D : Type := (List ((Int) × ((Int) × ((Int) × ((Int) × ((Bool) × (Unit))))))) × ((Int) × (Unit))

abbrev tImplServer : Ty := (.pair .bool (.pair (.int .i64) (.pair .str (.pair tImplCat (.pair tImplPool (.pair (.lst (.pair (.int .i64) (.pair (.int .i64) (.pair (.int .i64) (.pair (.int .i64) .unit))))) (.pair (.lst (.pair (.int .i64) (.pair (.int .i64) (.pair (.int .i64) (.pair (.int .i64) (.pair (.int .i64) (.pair (.int .i64) .unit))))))) .unit)))))))
abbrev tImplServer.D : Type := (Bool) × ((Int) × ((List UInt8) × ((tImplCat.D) × ((tImplPool.D) × ((List ((Int) × ((Int) × ((Int) × ((Int) × (Unit)))))) × ((List ((Int) × ((Int) × ((Int) × ((Int) × ((Int) × ((Int) × (Unit)))))))) × (Unit)))))))

abbrev tImplWorld : Ty := (.pair tImplServer (.pair (.lst tImplClient) (.pair (.lst (.pair (.int .i64) (.pair .str (.pair .bool .unit)))) (.pair (.lst (.pair (.int .i64) (.pair .str (.pair (.int .i64) (.pair .str .unit))))) .unit))))
abbrev tImplWorld.D : Type := (tImplServer.D) × ((List (tImplClient.D)) × ((List ((Int) × ((List UInt8) × ((Bool) × (Unit))))) × ((List ((Int) × ((List UInt8) × ((Int) × ((List UInt8) × (Unit)))))) × (Unit))))

abbrev tImplWord : Ty := (.pair (.int .i64) (.pair (.int .i64) (.pair (.int .i64) (.pair (.int .i64) (.pair (.int .i64) (.pair .str (.pair .str .unit)))))))
abbrev tImplWord.D : Type := (Int) × ((Int) × ((Int) × ((Int) × ((Int) × ((List UInt8) × ((List UInt8) × (Unit)))))))

abbrev tImplPacket : Ty := (.pair (.int .i64) (.pair .str (.pair .bool .unit)))
abbrev tImplPacket.D : Type := (Int) × ((List UInt8) × ((Bool) × (Unit)))

abbrev tImplItem : Ty := (.pair (.int .i64) (.pair .str (.pair (.int .i64) (.pair .str .unit))))
abbrev tImplItem.D : Type := (Int) × ((List UInt8) × ((Int) × ((List UInt8) × (Unit))))

abbrev tImplEq : Ty := (.pair (.lst (.int .i64)) (.pair .str .unit))
abbrev tImplEq.D : Type := (List (Int)) × ((List UInt8) × (Unit))

abbrev tImplBucket : Ty := (.pair (.int .i64) (.pair (.int .i64) (.pair (.int .i64) (.pair (.int .i64) .unit))))
abbrev tImplBucket.D : Type := (Int) × ((Int) × ((Int) × ((Int) × (Unit))))

abbrev tImplServe : Ty := (.pair (.int .i64) (.pair (.int .i64) tImplBucket))
abbrev tImplServe.D : Type := (Int) × ((Int) × (tImplBucket.D))

abbrev tImplFrame : Ty := (.pair (.int .i64) (.pair (.int .i64) (.pair (.int .i64) (.pair (.int .i64) (.pair .bool .unit)))))
abbrev tImplFrame.D : Type := (Int) × ((Int) × ((Int) × ((Int) × ((Bool) × (Unit)))))


def Wh.laws_szIntS (xs : (List (Int)) × (Int)) : Option (((Int)) × (Unit)) :=
  let a_0 : List Int := Prod.fst xs
  let left_1 : Int := Prod.snd xs
  let v_2 : Int := Go.IntKind.wrap Go.IntKind.i64 (left_1 - (↑(List.length a_0) : Int))
  let v_3 : Bool := Decidable.decide (v_2 < (0 : Int))
  bif v_3 then
    some ((-1 : Int), ())
  else
    some (v_2, ())
def Wh.laws_szIntS' (xs : (List (Int)) × (Int)) : ((Int)) × (Unit) := match Wh.laws_szIntS xs with | some y => y | none => default
theorem Wh.laws_szIntS_v (x : (List (Int)) × (Int)) (y : ((Int)) × (Unit)) (h : Wh.laws_szIntS x = some y) : Wh.laws_szIntS' x = y := by unfold Wh.laws_szIntS'; rw [h]

def Wh.laws_szPlan (xs : (tImplPlan.D) × (Int)) : Option (((Int)) × (Unit)) :=
  let a_0 : tImplPlan.D := Prod.fst xs
  let left_1 : Int := Prod.snd xs
  let v_2 : Int := Prod.fst (Wh.laws_szIntS' (Prod.fst (Prod.snd (Prod.snd a_0)), left_1))
  bif allB [Go.Ab.isSm (Wh.laws_szIntS (Prod.fst (Prod.snd (Prod.snd a_0)), left_1))] then
    let v_3 : Bool := Decidable.decide (v_2 < (0 : Int))
    bif v_3 then
      some ((-1 : Int), ())
    else
      let v_4 : Int := Prod.fst (Wh.laws_szIntS' (Prod.fst (Prod.snd (Prod.snd (Prod.snd a_0))), v_2))
      bif allB [Go.Ab.isSm (Wh.laws_szIntS (Prod.fst (Prod.snd (Prod.snd (Prod.snd a_0))), v_2))] then
        let v_5 : Bool := Decidable.decide (v_4 < (0 : Int))
        bif v_5 then
          some ((-1 : Int), ())
        else
          some (v_4, ())
      else none
  else none
def Wh.laws_szPlan' (xs : (tImplPlan.D) × (Int)) : ((Int)) × (Unit) := match Wh.laws_szPlan xs with | some y => y | none => default
theorem Wh.laws_szPlan_v (x : (tImplPlan.D) × (Int)) (y : ((Int)) × (Unit)) (h : Wh.laws_szPlan x = some y) : Wh.laws_szPlan' x = y := by unfold Wh.laws_szPlan'; rw [h]

def Wh.laws_szEq (xs : (tImplEq.D) × (Int)) : Option (((Int)) × (Unit)) :=
  let a_0 : tImplEq.D := Prod.fst xs
  let left_1 : Int := Prod.snd xs
  let v_2 : Int := Prod.fst (Wh.laws_szIntS' (Prod.fst a_0, left_1))
  bif allB [Go.Ab.isSm (Wh.laws_szIntS (Prod.fst a_0, left_1))] then
    let v_3 : Bool := Decidable.decide (v_2 < (0 : Int))
    bif v_3 then
      some ((-1 : Int), ())
    else
      let v_4 : Int := (↑(List.length (Prod.fst (Prod.snd a_0))) : Int)
      let left_6 : Int := Go.IntKind.wrap Go.IntKind.i64 (v_2 - v_4)
      let v_7 : Bool := Decidable.decide (left_6 < (0 : Int))
      bif v_7 then
        some ((-1 : Int), ())
      else
        some (left_6, ())
  else none
def Wh.laws_szEq' (xs : (tImplEq.D) × (Int)) : ((Int)) × (Unit) := match Wh.laws_szEq xs with | some y => y | none => default
theorem Wh.laws_szEq_v (x : (tImplEq.D) × (Int)) (y : ((Int)) × (Unit)) (h : Wh.laws_szEq x = some y) : Wh.laws_szEq' x = y := by unfold Wh.laws_szEq'; rw [h]

def Wh.laws_szEqS_l0 (x : ((Int) × (Int) × (List (tImplEq.D))) × (Unit)) : Option ((((Int) × (Int) × (List (tImplEq.D))) × (Unit)) ⊕ ((((Int)) × (Unit)) ⊕ (((Int)) × (Unit)))) :=
  let i_16 : Int := Prod.fst (Prod.fst x)
  let left_17 : Int := Prod.fst (Prod.snd (Prod.fst x))
  let a_18 : List (tImplEq.D) := Prod.snd (Prod.snd (Prod.fst x))
  let v_19 : Int := (↑(List.length a_18) : Int)
  let v_20 : Bool := Decidable.decide (i_16 < v_19)
  bif v_20 then
    let v_21 : tImplEq.D := List.getD a_18 (Int.toNat i_16) ([], [], ())
    let left_23 : Int := Prod.fst (Wh.laws_szEq' (v_21, left_17))
    bif allB [Go.Ab.isSm (Wh.laws_szEq (v_21, left_17)), Decidable.decide ((0 : Int) ≤ i_16), Decidable.decide (i_16 < v_19)] then
      let v_24 : Bool := Decidable.decide (left_23 < (0 : Int))
      bif v_24 then
        some (.inr (.inl ((-1 : Int), ())))
      else
        let v_25 : Int := Go.IntKind.wrap Go.IntKind.i64 (i_16 + (1 : Int))
        some (.inl ((v_25, left_23, a_18), ()))
    else none
  else
    some (.inr (.inr (left_17, ())))
def Wh.laws_szEqS_l0_y : (((Int)) × (Unit)) ⊕ (((Int)) × (Unit)) := .inl default
def Wh.laws_szEqS (xs : (List (tImplEq.D)) × (Int)) : Option (((Int)) × (Unit)) :=
  let a_0 : List (tImplEq.D) := Prod.fst xs
  let left_1 : Int := Prod.snd xs
  let v_2 : Int := (↑(List.length a_0) : Int)
  let left_4 : Int := Go.IntKind.wrap Go.IntKind.i64 (left_1 - v_2)
  let v_5 : Bool := Decidable.decide (left_4 < (0 : Int))
  bif v_5 then
    some ((-1 : Int), ())
  else
    let x_26 : ((Int) × (Int) × (List (tImplEq.D))) × (Unit) := (((0 : Int), left_4, a_0), ())
    bif comesB Wh.laws_szEqS_l0 x_26 then
      sumC (comesV Wh.laws_szEqS_l0 Wh.laws_szEqS_l0_y x_26) (fun y_27 =>
        let v_29 : Int := Prod.fst y_27
        some (v_29, ())) (fun z_28 =>
        let left_30 : Int := Prod.fst z_28
        some (left_30, ()))
    else none
def Wh.laws_szEqS' (xs : (List (tImplEq.D)) × (Int)) : ((Int)) × (Unit) := match Wh.laws_szEqS xs with | some y => y | none => default
theorem Wh.laws_szEqS_v (x : (List (tImplEq.D)) × (Int)) (y : ((Int)) × (Unit)) (h : Wh.laws_szEqS x = some y) : Wh.laws_szEqS' x = y := by unfold Wh.laws_szEqS'; rw [h]

def Wh.laws_szSolver (xs : (tImplSolver.D) × (Int)) : Option (((Int)) × (Unit)) :=
  let a_0 : tImplSolver.D := Prod.fst xs
  let left_1 : Int := Prod.snd xs
  let v_2 : Int := Prod.fst (Wh.laws_szEqS' (Prod.fst (Prod.snd (Prod.snd a_0)), left_1))
  bif allB [Go.Ab.isSm (Wh.laws_szEqS (Prod.fst (Prod.snd (Prod.snd a_0)), left_1))] then
    let v_3 : Bool := Decidable.decide (v_2 < (0 : Int))
    bif v_3 then
      some ((-1 : Int), ())
    else
      some (v_2, ())
  else none
def Wh.laws_szSolver' (xs : (tImplSolver.D) × (Int)) : ((Int)) × (Unit) := match Wh.laws_szSolver xs with | some y => y | none => default
theorem Wh.laws_szSolver_v (x : (tImplSolver.D) × (Int)) (y : ((Int)) × (Unit)) (h : Wh.laws_szSolver x = some y) : Wh.laws_szSolver' x = y := by unfold Wh.laws_szSolver'; rw [h]

def Wh.laws_szGetting (xs : (tImplGetting.D) × (Int)) : Option (((Int)) × (Unit)) :=
  let a_0 : tImplGetting.D := Prod.fst xs
  let left_1 : Int := Prod.snd xs
  let v_2 : Int := Prod.fst (Wh.laws_szPlan' (Prod.fst a_0, left_1))
  bif allB [Go.Ab.isSm (Wh.laws_szPlan (Prod.fst a_0, left_1))] then
    let v_3 : Bool := Decidable.decide (v_2 < (0 : Int))
    bif v_3 then
      some ((-1 : Int), ())
    else
      let v_4 : Int := Prod.fst (Wh.laws_szSolver' (Prod.fst (Prod.snd a_0), v_2))
      bif allB [Go.Ab.isSm (Wh.laws_szSolver (Prod.fst (Prod.snd a_0), v_2))] then
        let v_5 : Bool := Decidable.decide (v_4 < (0 : Int))
        bif v_5 then
          some ((-1 : Int), ())
        else
          some (v_4, ())
      else none
  else none
def Wh.laws_szGetting' (xs : (tImplGetting.D) × (Int)) : ((Int)) × (Unit) := match Wh.laws_szGetting xs with | some y => y | none => default
theorem Wh.laws_szGetting_v (x : (tImplGetting.D) × (Int)) (y : ((Int)) × (Unit)) (h : Wh.laws_szGetting x = some y) : Wh.laws_szGetting' x = y := by unfold Wh.laws_szGetting'; rw [h]

def Wh.laws_szClient (xs : (tImplClient.D) × (Int)) : Option (((Int)) × (Unit)) :=
  let a_0 : tImplClient.D := Prod.fst xs
  let left_1 : Int := Prod.snd xs
  let v_2 : Int := (↑(List.length (Prod.fst (Prod.snd (Prod.snd (Prod.snd a_0))))) : Int)
  let left_4 : Int := Go.IntKind.wrap Go.IntKind.i64 (left_1 - v_2)
  let v_5 : Bool := Decidable.decide (left_4 < (0 : Int))
  bif v_5 then
    some ((-1 : Int), ())
  else
    let v_6 : Int := Prod.fst (Wh.laws_szGetting' (Prod.fst (Prod.snd (Prod.snd (Prod.snd (Prod.snd (Prod.snd a_0))))), left_4))
    bif allB [Go.Ab.isSm (Wh.laws_szGetting (Prod.fst (Prod.snd (Prod.snd (Prod.snd (Prod.snd (Prod.snd a_0))))), left_4))] then
      let v_7 : Bool := Decidable.decide (v_6 < (0 : Int))
      bif v_7 then
        some ((-1 : Int), ())
      else
        some (v_6, ())
    else none
def Wh.laws_szClient' (xs : (tImplClient.D) × (Int)) : ((Int)) × (Unit) := match Wh.laws_szClient xs with | some y => y | none => default
theorem Wh.laws_szClient_v (x : (tImplClient.D) × (Int)) (y : ((Int)) × (Unit)) (h : Wh.laws_szClient x = some y) : Wh.laws_szClient' x = y := by unfold Wh.laws_szClient'; rw [h]

def Wh.laws_toIntS_l0 (x : ((Int) × (List (Int)) × (Unit)) × ((List (Int)))) : Option ((((Int) × (List (Int)) × (Unit)) × ((List (Int)))) ⊕ ((((Unit)) × ((List (Int)))))) :=
  let i_9 : Int := Prod.fst (Prod.fst x)
  let a_10 : List Int := Prod.fst (Prod.snd (Prod.fst x))
  let ls_11 : List Int := Prod.snd x
  let v_12 : Bool := Decidable.decide (i_9 < (↑(List.length a_10) : Int))
  bif v_12 then
    let ls_13 : List Int := List.set ls_11 (Int.toNat i_9) (List.getD a_10 (Int.toNat i_9) (0 : Int))
    bif allB [Decidable.decide ((0 : Int) ≤ i_9), Decidable.decide (i_9 < (↑(List.length ls_11) : Int)), Decidable.decide ((0 : Int) ≤ i_9), v_12] then
      let v_15 : Int := Go.IntKind.wrap Go.IntKind.i64 (i_9 + (1 : Int))
      some (.inl ((v_15, a_10, ()), ls_13))
    else none
  else
    some (.inr ((), ls_11))
def Wh.laws_toIntS_l0_y : (((Unit)) × ((List (Int)))) := default
def Wh.laws_toIntS (xs : (List (Int))) : Option (((List (Int))) × (Unit)) :=
  let a_0 : List Int := xs
  let pb_1 : List Int := List.replicate (Int.toNat (↑(List.length a_0) : Int)) (0 : Int)
  bif allB [Decidable.decide ((0 : Int) ≤ (↑(List.length a_0) : Int)), Decidable.decide ((↑(List.length a_0) : Int) ≤ (↑(List.length a_0) : Int)), Decidable.decide ((↑(List.length a_0) : Int) ≤ (↑Go.Ab.maxRows : Int))] then
    let x_16 : ((Int) × (List (Int)) × (Unit)) × ((List (Int))) := (((0 : Int), a_0, ()), pb_1)
    bif comesB Wh.laws_toIntS_l0 x_16 then
      let y_17 := comesV Wh.laws_toIntS_l0 Wh.laws_toIntS_l0_y x_16
      let ls_18 : List Int := Prod.snd y_17
      some (ls_18, ())
    else none
  else none
def Wh.laws_toIntS' (xs : (List (Int))) : ((List (Int))) × (Unit) := match Wh.laws_toIntS xs with | some y => y | none => default
theorem Wh.laws_toIntS_v (x : (List (Int))) (y : ((List (Int))) × (Unit)) (h : Wh.laws_toIntS x = some y) : Wh.laws_toIntS' x = y := by unfold Wh.laws_toIntS'; rw [h]

def Wh.laws_toPlan (xs : (tImplPlan.D)) : Option ((((Int) × ((Int) × ((List (Int)) × ((List (Int)) × (Unit)))))) × (Unit)) :=
  let a_0 : tImplPlan.D := xs
  let pb_1 : List Int := Prod.fst (Wh.laws_toIntS' (Prod.fst (Prod.snd (Prod.snd a_0))))
  bif allB [Go.Ab.isSm (Wh.laws_toIntS (Prod.fst (Prod.snd (Prod.snd a_0))))] then
    let pb_2 : List Int := Prod.fst (Wh.laws_toIntS' (Prod.fst (Prod.snd (Prod.snd (Prod.snd a_0)))))
    bif allB [Go.Ab.isSm (Wh.laws_toIntS (Prod.fst (Prod.snd (Prod.snd (Prod.snd a_0)))))] then
      some ((Prod.fst a_0, Prod.fst (Prod.snd a_0), pb_1, pb_2, ()), ())
    else none
  else none
def Wh.laws_toPlan' (xs : (tImplPlan.D)) : (((Int) × ((Int) × ((List (Int)) × ((List (Int)) × (Unit)))))) × (Unit) := match Wh.laws_toPlan xs with | some y => y | none => default
theorem Wh.laws_toPlan_v (x : (tImplPlan.D)) (y : (((Int) × ((Int) × ((List (Int)) × ((List (Int)) × (Unit)))))) × (Unit)) (h : Wh.laws_toPlan x = some y) : Wh.laws_toPlan' x = y := by unfold Wh.laws_toPlan'; rw [h]

def Wh.laws_toEq (xs : (tImplEq.D)) : Option ((((List (Int)) × ((List UInt8) × (Unit)))) × (Unit)) :=
  let a_0 : tImplEq.D := xs
  let pb_1 : List Int := Prod.fst (Wh.laws_toIntS' (Prod.fst a_0))
  bif allB [Go.Ab.isSm (Wh.laws_toIntS (Prod.fst a_0))] then
    some ((pb_1, Prod.fst (Prod.snd a_0), ()), ())
  else none
def Wh.laws_toEq' (xs : (tImplEq.D)) : (((List (Int)) × ((List UInt8) × (Unit)))) × (Unit) := match Wh.laws_toEq xs with | some y => y | none => default
theorem Wh.laws_toEq_v (x : (tImplEq.D)) (y : (((List (Int)) × ((List UInt8) × (Unit)))) × (Unit)) (h : Wh.laws_toEq x = some y) : Wh.laws_toEq' x = y := by unfold Wh.laws_toEq'; rw [h]

def Wh.laws_toEqS_l0 (x : ((Int) × (List (tImplEq.D)) × (Unit)) × ((List (tImplEq.D)))) : Option ((((Int) × (List (tImplEq.D)) × (Unit)) × ((List (tImplEq.D)))) ⊕ ((((Unit)) × ((List (tImplEq.D)))))) :=
  let i_13 : Int := Prod.fst (Prod.fst x)
  let a_14 : List (tImplEq.D) := Prod.fst (Prod.snd (Prod.fst x))
  let ls_15 : List (tImplEq.D) := Prod.snd x
  let v_16 : Int := (↑(List.length a_14) : Int)
  let v_17 : Bool := Decidable.decide (i_13 < v_16)
  bif v_17 then
    let pb_18 : List Int := Prod.fst (Prod.fst (Wh.laws_toEq' (List.getD a_14 (Int.toNat i_13) ([], [], ()))))
    let ls_19 : List (tImplEq.D) := List.set ls_15 (Int.toNat i_13) (pb_18, Prod.snd (Prod.fst (Wh.laws_toEq' (List.getD a_14 (Int.toNat i_13) ([], [], ())))))
    let v_20 : tImplEq.D := List.getD a_14 (Int.toNat i_13) ([], [], ())
    bif allB [Decidable.decide ((0 : Int) ≤ i_13), Decidable.decide (i_13 < (↑(List.length ls_15) : Int)), Go.Ab.isSm (Wh.laws_toEq v_20), Decidable.decide ((0 : Int) ≤ i_13), Decidable.decide (i_13 < v_16)] then
      let v_22 : Int := Go.IntKind.wrap Go.IntKind.i64 (i_13 + (1 : Int))
      some (.inl ((v_22, a_14, ()), ls_19))
    else none
  else
    some (.inr ((), ls_15))
def Wh.laws_toEqS_l0_y : (((Unit)) × ((List (tImplEq.D)))) := default
def Wh.laws_toEqS (xs : (List (tImplEq.D))) : Option (((List (tImplEq.D))) × (Unit)) :=
  let a_0 : List (tImplEq.D) := xs
  let pb_1 : List (tImplEq.D) := List.replicate (Int.toNat (↑(List.length a_0) : Int)) ([], [], ())
  let v_2 : Int := (↑(List.length a_0) : Int)
  bif allB [Decidable.decide ((0 : Int) ≤ v_2), Decidable.decide (v_2 ≤ v_2), Decidable.decide (v_2 ≤ (↑Go.Ab.maxRows : Int))] then
    let x_23 : ((Int) × (List (tImplEq.D)) × (Unit)) × ((List (tImplEq.D))) := (((0 : Int), a_0, ()), pb_1)
    bif comesB Wh.laws_toEqS_l0 x_23 then
      let y_24 := comesV Wh.laws_toEqS_l0 Wh.laws_toEqS_l0_y x_23
      let ls_25 : List (tImplEq.D) := Prod.snd y_24
      some (ls_25, ())
    else none
  else none
def Wh.laws_toEqS' (xs : (List (tImplEq.D))) : ((List (tImplEq.D))) × (Unit) := match Wh.laws_toEqS xs with | some y => y | none => default
theorem Wh.laws_toEqS_v (x : (List (tImplEq.D))) (y : ((List (tImplEq.D))) × (Unit)) (h : Wh.laws_toEqS x = some y) : Wh.laws_toEqS' x = y := by unfold Wh.laws_toEqS'; rw [h]

def Wh.laws_toSolver (xs : (tImplSolver.D)) : Option (((tImplSolver.D)) × (Unit)) :=
  let a_0 : tImplSolver.D := xs
  let pb_1 : List (tImplEq.D) := Prod.fst (Wh.laws_toEqS' (Prod.fst (Prod.snd (Prod.snd a_0))))
  bif allB [Go.Ab.isSm (Wh.laws_toEqS (Prod.fst (Prod.snd (Prod.snd a_0))))] then
    some ((Prod.fst a_0, Prod.fst (Prod.snd a_0), pb_1, ()), ())
  else none
def Wh.laws_toSolver' (xs : (tImplSolver.D)) : ((tImplSolver.D)) × (Unit) := match Wh.laws_toSolver xs with | some y => y | none => default
theorem Wh.laws_toSolver_v (x : (tImplSolver.D)) (y : ((tImplSolver.D)) × (Unit)) (h : Wh.laws_toSolver x = some y) : Wh.laws_toSolver' x = y := by unfold Wh.laws_toSolver'; rw [h]

def Wh.laws_toGetting (xs : (tImplGetting.D)) : Option (((tImplGetting.D)) × (Unit)) :=
  let a_0 : tImplGetting.D := xs
  let pb_1 : List Int := Prod.fst (Prod.snd (Prod.snd (Prod.snd (Prod.fst (Wh.laws_toPlan' (Prod.fst a_0))))))
  let pb_2 : List Int := Prod.fst (Prod.snd (Prod.snd (Prod.fst (Wh.laws_toPlan' (Prod.fst a_0)))))
  let pb_3 : PUnit := Prod.snd (Prod.snd (Prod.snd (Prod.snd (Prod.fst (Wh.laws_toPlan' (Prod.fst a_0))))))
  let pb_4 : Int := Prod.fst (Prod.snd (Prod.fst (Wh.laws_toPlan' (Prod.fst a_0))))
  let pb_5 : Int := Prod.fst (Prod.fst (Wh.laws_toPlan' (Prod.fst a_0)))
  bif allB [Go.Ab.isSm (Wh.laws_toPlan (Prod.fst a_0))] then
    let pb_6 : List (tImplEq.D) := Prod.fst (Prod.snd (Prod.snd (Prod.fst (Wh.laws_toSolver' (Prod.fst (Prod.snd a_0))))))
    let pb_7 : PUnit := Prod.snd (Prod.snd (Prod.snd (Prod.fst (Wh.laws_toSolver' (Prod.fst (Prod.snd a_0))))))
    let pb_8 : Int := Prod.fst (Prod.snd (Prod.fst (Wh.laws_toSolver' (Prod.fst (Prod.snd a_0)))))
    let pb_9 : Int := Prod.fst (Prod.fst (Wh.laws_toSolver' (Prod.fst (Prod.snd a_0))))
    bif allB [Go.Ab.isSm (Wh.laws_toSolver (Prod.fst (Prod.snd a_0)))] then
      some (((pb_5, pb_4, pb_2, pb_1, pb_3), (pb_9, pb_8, pb_6, pb_7), ()), ())
    else none
  else none
def Wh.laws_toGetting' (xs : (tImplGetting.D)) : ((tImplGetting.D)) × (Unit) := match Wh.laws_toGetting xs with | some y => y | none => default
theorem Wh.laws_toGetting_v (x : (tImplGetting.D)) (y : ((tImplGetting.D)) × (Unit)) (h : Wh.laws_toGetting x = some y) : Wh.laws_toGetting' x = y := by unfold Wh.laws_toGetting'; rw [h]

def Wh.laws_toClient (xs : (tImplClient.D)) : Option (((tImplClient.D)) × (Unit)) :=
  let a_0 : tImplClient.D := xs
  let pb_1 : List (tImplEq.D) := Prod.fst (Prod.snd (Prod.snd (Prod.fst (Prod.snd (Prod.fst (Wh.laws_toGetting' (Prod.fst (Prod.snd (Prod.snd (Prod.snd (Prod.snd (Prod.snd a_0))))))))))))
  let pb_2 : List Int := Prod.fst (Prod.snd (Prod.snd (Prod.snd (Prod.fst (Prod.fst (Wh.laws_toGetting' (Prod.fst (Prod.snd (Prod.snd (Prod.snd (Prod.snd (Prod.snd a_0))))))))))))
  let pb_3 : List Int := Prod.fst (Prod.snd (Prod.snd (Prod.fst (Prod.fst (Wh.laws_toGetting' (Prod.fst (Prod.snd (Prod.snd (Prod.snd (Prod.snd (Prod.snd a_0)))))))))))
  let pb_4 : PUnit := Prod.snd (Prod.snd (Prod.fst (Wh.laws_toGetting' (Prod.fst (Prod.snd (Prod.snd (Prod.snd (Prod.snd (Prod.snd a_0)))))))))
  let pb_5 : PUnit := Prod.snd (Prod.snd (Prod.snd (Prod.fst (Prod.snd (Prod.fst (Wh.laws_toGetting' (Prod.fst (Prod.snd (Prod.snd (Prod.snd (Prod.snd (Prod.snd a_0))))))))))))
  let pb_6 : Int := Prod.fst (Prod.snd (Prod.fst (Prod.snd (Prod.fst (Wh.laws_toGetting' (Prod.fst (Prod.snd (Prod.snd (Prod.snd (Prod.snd (Prod.snd a_0)))))))))))
  let pb_7 : Int := Prod.fst (Prod.fst (Prod.snd (Prod.fst (Wh.laws_toGetting' (Prod.fst (Prod.snd (Prod.snd (Prod.snd (Prod.snd (Prod.snd a_0))))))))))
  let pb_8 : PUnit := Prod.snd (Prod.snd (Prod.snd (Prod.snd (Prod.fst (Prod.fst (Wh.laws_toGetting' (Prod.fst (Prod.snd (Prod.snd (Prod.snd (Prod.snd (Prod.snd a_0))))))))))))
  let pb_9 : Int := Prod.fst (Prod.snd (Prod.fst (Prod.fst (Wh.laws_toGetting' (Prod.fst (Prod.snd (Prod.snd (Prod.snd (Prod.snd (Prod.snd a_0))))))))))
  let pb_10 : Int := Prod.fst (Prod.fst (Prod.fst (Wh.laws_toGetting' (Prod.fst (Prod.snd (Prod.snd (Prod.snd (Prod.snd (Prod.snd a_0)))))))))
  bif allB [Go.Ab.isSm (Wh.laws_toGetting (Prod.fst (Prod.snd (Prod.snd (Prod.snd (Prod.snd (Prod.snd a_0)))))))] then
    some ((Prod.fst a_0, Prod.fst (Prod.snd a_0), Prod.fst (Prod.snd (Prod.snd a_0)), Prod.fst (Prod.snd (Prod.snd (Prod.snd a_0))), Prod.fst (Prod.snd (Prod.snd (Prod.snd (Prod.snd a_0)))), ((pb_10, pb_9, pb_3, pb_2, pb_8), (pb_7, pb_6, pb_1, pb_5), pb_4), ()), ())
  else none
def Wh.laws_toClient' (xs : (tImplClient.D)) : ((tImplClient.D)) × (Unit) := match Wh.laws_toClient xs with | some y => y | none => default
theorem Wh.laws_toClient_v (x : (tImplClient.D)) (y : ((tImplClient.D)) × (Unit)) (h : Wh.laws_toClient x = some y) : Wh.laws_toClient' x = y := by unfold Wh.laws_toClient'; rw [h]

def Wh.spec_l1In (xs : (Int) × (Int) × (Int)) : Option (((Bool)) × (Unit)) :=
  let n_0 : Int := Prod.fst xs
  let low_1 : Int := Prod.fst (Prod.snd xs)
  let high_2 : Int := Prod.snd (Prod.snd xs)
  let v_3 : Bool := Decidable.decide (n_0 ≥ low_1)
  let v_5 : Bool := bif v_3 then Decidable.decide (n_0 ≤ high_2) else Bool.false
  some (v_5, ())
def Wh.spec_l1In' (xs : (Int) × (Int) × (Int)) : ((Bool)) × (Unit) := match Wh.spec_l1In xs with | some y => y | none => default
theorem Wh.spec_l1In_v (x : (Int) × (Int) × (Int)) (y : ((Bool)) × (Unit)) (h : Wh.spec_l1In x = some y) : Wh.spec_l1In' x = y := by unfold Wh.spec_l1In'; rw [h]

def Wh.spec_l13None (xs : (tImplClient.D)) : Option (((Bool)) × (Unit)) :=
  let c_0 : tImplClient.D := xs
  let v_1 : Int := (↑(List.length (Prod.fst (Prod.snd (Prod.snd (Prod.fst (Prod.fst (Prod.snd (Prod.snd (Prod.snd (Prod.snd (Prod.snd c_0))))))))))) : Int)
  let v_15 : Bool := bif bif bif bif bif bif v_1 == (0 : Int) then (↑(List.length (Prod.fst (Prod.snd (Prod.snd (Prod.snd (Prod.fst (Prod.fst (Prod.snd (Prod.snd (Prod.snd (Prod.snd (Prod.snd c_0)))))))))))) : Int) == (0 : Int) else Bool.false then Prod.fst (Prod.fst (Prod.fst (Prod.snd (Prod.snd (Prod.snd (Prod.snd (Prod.snd c_0))))))) == (0 : Int) else Bool.false then Prod.fst (Prod.snd (Prod.fst (Prod.fst (Prod.snd (Prod.snd (Prod.snd (Prod.snd (Prod.snd c_0)))))))) == (0 : Int) else Bool.false then Prod.fst (Prod.fst (Prod.snd (Prod.fst (Prod.snd (Prod.snd (Prod.snd (Prod.snd (Prod.snd c_0)))))))) == (0 : Int) else Bool.false then Prod.fst (Prod.snd (Prod.fst (Prod.snd (Prod.fst (Prod.snd (Prod.snd (Prod.snd (Prod.snd (Prod.snd c_0))))))))) == (0 : Int) else Bool.false then (↑(List.length (Prod.fst (Prod.snd (Prod.snd (Prod.fst (Prod.snd (Prod.fst (Prod.snd (Prod.snd (Prod.snd (Prod.snd (Prod.snd c_0)))))))))))) : Int) == (0 : Int) else Bool.false
  some (v_15, ())
def Wh.spec_l13None' (xs : (tImplClient.D)) : ((Bool)) × (Unit) := match Wh.spec_l13None xs with | some y => y | none => default
theorem Wh.spec_l13None_v (x : (tImplClient.D)) (y : ((Bool)) × (Unit)) (h : Wh.spec_l13None x = some y) : Wh.spec_l13None' x = y := by unfold Wh.spec_l13None'; rw [h]

def Wh.spec_l5Count (xs : (tImplPlan.D)) : Option (((Int)) × (Unit)) :=
  let p_0 : tImplPlan.D := xs
  let v_1 : Int := Go.IntKind.wrap Go.IntKind.i64 (Prod.fst p_0 + Prod.fst (Prod.snd p_0))
  let v_4 : Int := Go.IntKind.wrap Go.IntKind.i64 (Int.tdiv (Go.IntKind.wrap Go.IntKind.i64 (v_1 - (1 : Int))) (Prod.fst (Prod.snd p_0)))
  bif allB [Prod.fst (Prod.snd p_0) != (0 : Int)] then
    some (v_4, ())
  else none
def Wh.spec_l5Count' (xs : (tImplPlan.D)) : ((Int)) × (Unit) := match Wh.spec_l5Count xs with | some y => y | none => default
theorem Wh.spec_l5Count_v (x : (tImplPlan.D)) (y : ((Int)) × (Unit)) (h : Wh.spec_l5Count x = some y) : Wh.spec_l5Count' x = y := by unfold Wh.spec_l5Count'; rw [h]

def Wh.spec_PlanOk_l0 (x : ((Int) × (Unit)) × ((tImplPlan.D))) : Option ((((Int) × (Unit)) × ((tImplPlan.D))) ⊕ ((((Bool)) × (Unit)) ⊕ (((Unit)) × ((tImplPlan.D))))) :=
  let i_21 : Int := Prod.fst (Prod.fst x)
  let ls_22 : tImplPlan.D := Prod.snd x
  let v_23 : Int := (↑(List.length (Prod.fst (Prod.snd (Prod.snd ls_22)))) : Int)
  let v_24 : Bool := Decidable.decide (i_21 < v_23)
  bif v_24 then
    let v_25 : Int := List.getD (Prod.fst (Prod.snd (Prod.snd ls_22))) (Int.toNat i_21) (0 : Int)
    let v_31 : Bool := bif bif !Prod.fst (Wh.spec_l1In' (v_25, (1 : Int), Prod.fst (Wh.spec_l5Count' ls_22))) then Bool.true else bif Decidable.decide (i_21 > (0 : Int)) then Decidable.decide (List.getD (Prod.fst (Prod.snd (Prod.snd ls_22))) (Int.toNat (Go.IntKind.wrap Go.IntKind.i64 (i_21 - (1 : Int)))) (0 : Int) ≥ v_25) else Bool.false then Bool.true else !Prod.fst (Wh.spec_l1In' (List.getD (Prod.fst (Prod.snd (Prod.snd (Prod.snd ls_22)))) (Int.toNat i_21) (0 : Int), (1 : Int), (99 : Int)))
    bif allB [(!!bif !Prod.fst (Wh.spec_l1In' (v_25, (1 : Int), Prod.fst (Wh.spec_l5Count' ls_22))) then Bool.true else bif Decidable.decide (i_21 > (0 : Int)) then Decidable.decide (List.getD (Prod.fst (Prod.snd (Prod.snd ls_22))) (Int.toNat (Go.IntKind.wrap Go.IntKind.i64 (i_21 - (1 : Int)))) (0 : Int) ≥ v_25) else Bool.false) || Go.Ab.isSm (Wh.spec_l1In (List.getD (Prod.fst (Prod.snd (Prod.snd (Prod.snd ls_22)))) (Int.toNat i_21) (0 : Int), (1 : Int), (99 : Int))), (!!bif !Prod.fst (Wh.spec_l1In' (v_25, (1 : Int), Prod.fst (Wh.spec_l5Count' ls_22))) then Bool.true else bif Decidable.decide (i_21 > (0 : Int)) then Decidable.decide (List.getD (Prod.fst (Prod.snd (Prod.snd ls_22))) (Int.toNat (Go.IntKind.wrap Go.IntKind.i64 (i_21 - (1 : Int)))) (0 : Int) ≥ v_25) else Bool.false) || Decidable.decide ((0 : Int) ≤ i_21), (!!bif !Prod.fst (Wh.spec_l1In' (v_25, (1 : Int), Prod.fst (Wh.spec_l5Count' ls_22))) then Bool.true else bif Decidable.decide (i_21 > (0 : Int)) then Decidable.decide (List.getD (Prod.fst (Prod.snd (Prod.snd ls_22))) (Int.toNat (Go.IntKind.wrap Go.IntKind.i64 (i_21 - (1 : Int)))) (0 : Int) ≥ v_25) else Bool.false) || Decidable.decide (i_21 < (↑(List.length (Prod.fst (Prod.snd (Prod.snd (Prod.snd ls_22))))) : Int)), !(Decidable.decide (i_21 > (0 : Int)) && !!Prod.fst (Wh.spec_l1In' (v_25, (1 : Int), Prod.fst (Wh.spec_l5Count' ls_22)))) || Decidable.decide ((0 : Int) ≤ i_21), !(Decidable.decide (i_21 > (0 : Int)) && !!Prod.fst (Wh.spec_l1In' (v_25, (1 : Int), Prod.fst (Wh.spec_l5Count' ls_22)))) || Decidable.decide (i_21 < v_23), !(Decidable.decide (i_21 > (0 : Int)) && !!Prod.fst (Wh.spec_l1In' (v_25, (1 : Int), Prod.fst (Wh.spec_l5Count' ls_22)))) || Decidable.decide ((0 : Int) ≤ Go.IntKind.wrap Go.IntKind.i64 (i_21 - (1 : Int))), !(Decidable.decide (i_21 > (0 : Int)) && !!Prod.fst (Wh.spec_l1In' (v_25, (1 : Int), Prod.fst (Wh.spec_l5Count' ls_22)))) || Decidable.decide (Go.IntKind.wrap Go.IntKind.i64 (i_21 - (1 : Int)) < v_23), Go.Ab.isSm (Wh.spec_l1In (v_25, (1 : Int), Prod.fst (Wh.spec_l5Count' ls_22))), Go.Ab.isSm (Wh.spec_l5Count ls_22), Decidable.decide ((0 : Int) ≤ i_21), Decidable.decide (i_21 < v_23)] then
      bif v_31 then
        some (.inr (.inl (Bool.false, ())))
      else
        let v_32 : Int := Go.IntKind.wrap Go.IntKind.i64 (i_21 + (1 : Int))
        some (.inl ((v_32, ()), ls_22))
    else none
  else
    some (.inr (.inr ((), ls_22)))
def Wh.spec_PlanOk_l0_y : (((Bool)) × (Unit)) ⊕ (((Unit)) × ((tImplPlan.D))) := .inl default
def Wh.spec_PlanOk (xs : (tImplPlan.D)) : Option (((Bool)) × (Unit)) :=
  let p_0 : tImplPlan.D := xs
  let v_1 : Bool := Prod.fst (Wh.spec_l1In' (Prod.fst p_0, (1 : Int), (300 : Int)))
  let v_8 : Bool := bif bif bif bif !v_1 then Bool.true else !Prod.fst (Wh.spec_l1In' (Prod.fst (Prod.snd p_0), (1 : Int), (16 : Int))) then Bool.true else !Prod.fst (Wh.spec_l1In' (Prod.fst (Wh.spec_l5Count' p_0), (1 : Int), (24 : Int))) then Bool.true else !Prod.fst (Wh.spec_l1In' ((↑(List.length (Prod.fst (Prod.snd (Prod.snd p_0)))) : Int), (1 : Int), (3 : Int))) then Bool.true else (↑(List.length (Prod.fst (Prod.snd (Prod.snd (Prod.snd p_0))))) : Int) != (↑(List.length (Prod.fst (Prod.snd (Prod.snd p_0)))) : Int)
  bif allB [(!!bif bif !v_1 then Bool.true else !Prod.fst (Wh.spec_l1In' (Prod.fst (Prod.snd p_0), (1 : Int), (16 : Int))) then Bool.true else !Prod.fst (Wh.spec_l1In' (Prod.fst (Wh.spec_l5Count' p_0), (1 : Int), (24 : Int)))) || Go.Ab.isSm (Wh.spec_l1In ((↑(List.length (Prod.fst (Prod.snd (Prod.snd p_0)))) : Int), (1 : Int), (3 : Int))), (!!bif !v_1 then Bool.true else !Prod.fst (Wh.spec_l1In' (Prod.fst (Prod.snd p_0), (1 : Int), (16 : Int)))) || Go.Ab.isSm (Wh.spec_l1In (Prod.fst (Wh.spec_l5Count' p_0), (1 : Int), (24 : Int))), (!!bif !v_1 then Bool.true else !Prod.fst (Wh.spec_l1In' (Prod.fst (Prod.snd p_0), (1 : Int), (16 : Int)))) || Go.Ab.isSm (Wh.spec_l5Count p_0), !!!v_1 || Go.Ab.isSm (Wh.spec_l1In (Prod.fst (Prod.snd p_0), (1 : Int), (16 : Int))), Go.Ab.isSm (Wh.spec_l1In (Prod.fst p_0, (1 : Int), (300 : Int)))] then
    bif v_8 then
      some (Bool.false, ())
    else
      let x_33 : ((Int) × (Unit)) × ((tImplPlan.D)) := (((0 : Int), ()), p_0)
      bif comesB Wh.spec_PlanOk_l0 x_33 then
        sumC (comesV Wh.spec_PlanOk_l0 Wh.spec_PlanOk_l0_y x_33) (fun y_34 =>
          let v_36 : Bool := Prod.fst y_34
          some (v_36, ())) (fun z_35 =>
          let ls_37 : tImplPlan.D := Prod.snd z_35
          let v_38 : Int := (↑(List.length (Prod.fst (Prod.snd (Prod.snd ls_37)))) : Int)
          let v_43 : Bool := List.getD (Prod.fst (Prod.snd (Prod.snd ls_37))) (Int.toNat (Go.IntKind.wrap Go.IntKind.i64 (v_38 - (1 : Int)))) (0 : Int) == Prod.fst (Wh.spec_l5Count' ls_37)
          bif allB [Go.Ab.isSm (Wh.spec_l5Count ls_37), Decidable.decide ((0 : Int) ≤ Go.IntKind.wrap Go.IntKind.i64 (v_38 - (1 : Int))), Decidable.decide (Go.IntKind.wrap Go.IntKind.i64 (v_38 - (1 : Int)) < v_38)] then
            some (v_43, ())
          else none)
      else none
  else none
def Wh.spec_PlanOk' (xs : (tImplPlan.D)) : ((Bool)) × (Unit) := match Wh.spec_PlanOk xs with | some y => y | none => default
theorem Wh.spec_PlanOk_v (x : (tImplPlan.D)) (y : ((Bool)) × (Unit)) (h : Wh.spec_PlanOk x = some y) : Wh.spec_PlanOk' x = y := by unfold Wh.spec_PlanOk'; rw [h]

def Wh.spec_RowOk_l0 (x : ((Int) × (List (Int)) × (Int)) × (Unit)) : Option ((((Int) × (List (Int)) × (Int)) × (Unit)) ⊕ ((((Bool)) × (Unit)) ⊕ (((Int)) × (Unit)))) :=
  let i_13 : Int := Prod.fst (Prod.fst x)
  let row_14 : List Int := Prod.fst (Prod.snd (Prod.fst x))
  let count_15 : Int := Prod.snd (Prod.snd (Prod.fst x))
  let v_16 : Bool := Decidable.decide (i_13 < (↑(List.length row_14) : Int))
  bif v_16 then
    let v_17 : Int := List.getD row_14 (Int.toNat i_13) (0 : Int)
    let v_18 : Int := Go.IntKind.wrap Go.IntKind.i64 (count_15 - (1 : Int))
    let v_22 : Bool := bif !Prod.fst (Wh.spec_l1In' (v_17, (0 : Int), v_18)) then Bool.true else bif Decidable.decide (i_13 > (0 : Int)) then Decidable.decide (List.getD row_14 (Int.toNat (Go.IntKind.wrap Go.IntKind.i64 (i_13 - (1 : Int)))) (0 : Int) ≥ v_17) else Bool.false
    bif allB [!(Decidable.decide (i_13 > (0 : Int)) && !!Prod.fst (Wh.spec_l1In' (v_17, (0 : Int), v_18))) || Decidable.decide ((0 : Int) ≤ i_13), !(Decidable.decide (i_13 > (0 : Int)) && !!Prod.fst (Wh.spec_l1In' (v_17, (0 : Int), v_18))) || v_16, !(Decidable.decide (i_13 > (0 : Int)) && !!Prod.fst (Wh.spec_l1In' (v_17, (0 : Int), v_18))) || Decidable.decide ((0 : Int) ≤ Go.IntKind.wrap Go.IntKind.i64 (i_13 - (1 : Int))), !(Decidable.decide (i_13 > (0 : Int)) && !!Prod.fst (Wh.spec_l1In' (v_17, (0 : Int), v_18))) || Decidable.decide (Go.IntKind.wrap Go.IntKind.i64 (i_13 - (1 : Int)) < (↑(List.length row_14) : Int)), Go.Ab.isSm (Wh.spec_l1In (v_17, (0 : Int), v_18)), Decidable.decide ((0 : Int) ≤ i_13), v_16] then
      bif v_22 then
        some (.inr (.inl (Bool.false, ())))
      else
        let v_23 : Int := Go.IntKind.wrap Go.IntKind.i64 (i_13 + (1 : Int))
        some (.inl ((v_23, row_14, count_15), ()))
    else none
  else
    some (.inr (.inr (count_15, ())))
def Wh.spec_RowOk_l0_y : (((Bool)) × (Unit)) ⊕ (((Int)) × (Unit)) := .inl default
def Wh.spec_RowOk (xs : (List (Int)) × (Int)) : Option (((Bool)) × (Unit)) :=
  let row_0 : List Int := Prod.fst xs
  let count_1 : Int := Prod.snd xs
  let x_24 : ((Int) × (List (Int)) × (Int)) × (Unit) := (((0 : Int), row_0, count_1), ())
  bif comesB Wh.spec_RowOk_l0 x_24 then
    sumC (comesV Wh.spec_RowOk_l0 Wh.spec_RowOk_l0_y x_24) (fun y_25 =>
      let v_27 : Bool := Prod.fst y_25
      some (v_27, ())) (fun z_26 =>
      let count_28 : Int := Prod.fst z_26
      let v_29 : Bool := Prod.fst (Wh.spec_l1In' (count_28, (0 : Int), (24 : Int)))
      bif allB [Go.Ab.isSm (Wh.spec_l1In (count_28, (0 : Int), (24 : Int)))] then
        some (v_29, ())
      else none)
  else none
def Wh.spec_RowOk' (xs : (List (Int)) × (Int)) : ((Bool)) × (Unit) := match Wh.spec_RowOk xs with | some y => y | none => default
theorem Wh.spec_RowOk_v (x : (List (Int)) × (Int)) (y : ((Bool)) × (Unit)) (h : Wh.spec_RowOk x = some y) : Wh.spec_RowOk' x = y := by unfold Wh.spec_RowOk'; rw [h]

def Wh.spec_l3Has_l0 (x : ((Int) × (Int) × (List (Int))) × (Unit)) : Option ((((Int) × (Int) × (List (Int))) × (Unit)) ⊕ ((((Bool)) × (Unit)) ⊕ ((Unit) × (Unit)))) :=
  let i_9 : Int := Prod.fst (Prod.fst x)
  let n_10 : Int := Prod.fst (Prod.snd (Prod.fst x))
  let row_11 : List Int := Prod.snd (Prod.snd (Prod.fst x))
  let v_12 : Bool := Decidable.decide (i_9 < (↑(List.length row_11) : Int))
  bif v_12 then
    let v_13 : Int := List.getD row_11 (Int.toNat i_9) (0 : Int)
    let v_14 : Bool := v_13 == n_10
    bif allB [Decidable.decide ((0 : Int) ≤ i_9), v_12] then
      bif v_14 then
        some (.inr (.inl (Bool.true, ())))
      else
        let v_15 : Int := Go.IntKind.wrap Go.IntKind.i64 (i_9 + (1 : Int))
        some (.inl ((v_15, n_10, row_11), ()))
    else none
  else
    some (.inr (.inr ((), ())))
def Wh.spec_l3Has_l0_y : (((Bool)) × (Unit)) ⊕ ((Unit) × (Unit)) := .inl default
def Wh.spec_l3Has (xs : (List (Int)) × (Int)) : Option (((Bool)) × (Unit)) :=
  let row_0 : List Int := Prod.fst xs
  let n_1 : Int := Prod.snd xs
  let x_16 : ((Int) × (Int) × (List (Int))) × (Unit) := (((0 : Int), n_1, row_0), ())
  bif comesB Wh.spec_l3Has_l0 x_16 then
    sumC (comesV Wh.spec_l3Has_l0 Wh.spec_l3Has_l0_y x_16) (fun y_17 =>
      let v_19 : Bool := Prod.fst y_17
      some (v_19, ())) (fun _ =>
      some (Bool.false, ()))
  else none
def Wh.spec_l3Has' (xs : (List (Int)) × (Int)) : ((Bool)) × (Unit) := match Wh.spec_l3Has xs with | some y => y | none => default
theorem Wh.spec_l3Has_v (x : (List (Int)) × (Int)) (y : ((Bool)) × (Unit)) (h : Wh.spec_l3Has x = some y) : Wh.spec_l3Has' x = y := by unfold Wh.spec_l3Has'; rw [h]

def Wh.spec_SolverOk_l2 (x : ((Int) × (Int) × (Unit)) × ((tImplSolver.D))) : Option ((((Int) × (Int) × (Unit)) × ((tImplSolver.D))) ⊕ ((((Bool)) × (Unit)) ⊕ (((Unit) × (Int)) × ((tImplSolver.D))))) :=
  let k_44 : Int := Prod.fst (Prod.fst x)
  let i_45 : Int := Prod.fst (Prod.snd (Prod.fst x))
  let ls_46 : tImplSolver.D := Prod.snd x
  let v_47 : Int := (↑(List.length (Prod.fst (Prod.snd (Prod.snd ls_46)))) : Int)
  let v_48 : Bool := Decidable.decide (k_44 < v_47)
  bif v_48 then
    let v_49 : Bool := k_44 != i_45
    let v_50 : Bool := bif v_49 then Prod.fst (Wh.spec_l3Has' (Prod.fst (List.getD (Prod.fst (Prod.snd (Prod.snd ls_46))) (Int.toNat k_44) ([], [], ())), List.getD (Prod.fst (List.getD (Prod.fst (Prod.snd (Prod.snd ls_46))) (Int.toNat i_45) ([], [], ()))) (Int.toNat (0 : Int)) (0 : Int))) else Bool.false
    bif allB [!v_49 || Go.Ab.isSm (Wh.spec_l3Has (Prod.fst (List.getD (Prod.fst (Prod.snd (Prod.snd ls_46))) (Int.toNat k_44) ([], [], ())), List.getD (Prod.fst (List.getD (Prod.fst (Prod.snd (Prod.snd ls_46))) (Int.toNat i_45) ([], [], ()))) (Int.toNat (0 : Int)) (0 : Int))), !v_49 || Decidable.decide ((0 : Int) ≤ (0 : Int)), !v_49 || Decidable.decide ((0 : Int) < (↑(List.length (Prod.fst (List.getD (Prod.fst (Prod.snd (Prod.snd ls_46))) (Int.toNat i_45) ([], [], ())))) : Int)), !v_49 || Decidable.decide ((0 : Int) ≤ i_45), !v_49 || Decidable.decide (i_45 < v_47), !v_49 || Decidable.decide ((0 : Int) ≤ k_44), !v_49 || Decidable.decide (k_44 < v_47)] then
      bif v_50 then
        some (.inr (.inl (Bool.false, ())))
      else
        let v_51 : Int := Go.IntKind.wrap Go.IntKind.i64 (k_44 + (1 : Int))
        some (.inl ((v_51, i_45, ()), ls_46))
    else none
  else
    some (.inr (.inr (((), i_45), ls_46)))
def Wh.spec_SolverOk_l2_y : (((Bool)) × (Unit)) ⊕ (((Unit) × (Int)) × ((tImplSolver.D))) := .inl default
def Wh.spec_SolverOk_l1 (x : ((Int) × (Unit)) × ((tImplSolver.D))) : Option ((((Int) × (Unit)) × ((tImplSolver.D))) ⊕ ((((Bool)) × (Unit)) ⊕ ((Unit) × (Unit)))) :=
  let i_59 : Int := Prod.fst (Prod.fst x)
  let ls_60 : tImplSolver.D := Prod.snd x
  let v_61 : Int := (↑(List.length (Prod.fst (Prod.snd (Prod.snd ls_60)))) : Int)
  let v_62 : Bool := Decidable.decide (i_59 < v_61)
  bif v_62 then
    let x_63 : ((Int) × (Int) × (Unit)) × ((tImplSolver.D)) := (((0 : Int), i_59, ()), ls_60)
    bif comesB Wh.spec_SolverOk_l2 x_63 then
      sumC (comesV Wh.spec_SolverOk_l2 Wh.spec_SolverOk_l2_y x_63) (fun y_64 =>
        let v_66 : Bool := Prod.fst y_64
        some (.inr (.inl (v_66, ())))) (fun z_65 =>
        let i_67 : Int := Prod.snd (Prod.fst z_65)
        let ls_68 : tImplSolver.D := Prod.snd z_65
        let v_69 : Int := Go.IntKind.wrap Go.IntKind.i64 (i_67 + (1 : Int))
        some (.inl ((v_69, ()), ls_68)))
    else none
  else
    some (.inr (.inr ((), ())))
def Wh.spec_SolverOk_l1_y : (((Bool)) × (Unit)) ⊕ ((Unit) × (Unit)) := .inl default
def Wh.spec_SolverOk_l0 (x : ((Int) × (Unit)) × ((tImplSolver.D))) : Option ((((Int) × (Unit)) × ((tImplSolver.D))) ⊕ ((((Bool)) × (Unit)) ⊕ (((Unit)) × ((tImplSolver.D))))) :=
  let i_15 : Int := Prod.fst (Prod.fst x)
  let ls_16 : tImplSolver.D := Prod.snd x
  let v_17 : Int := (↑(List.length (Prod.fst (Prod.snd (Prod.snd ls_16)))) : Int)
  let v_18 : Bool := Decidable.decide (i_15 < v_17)
  bif v_18 then
    let pb_19 : tImplEq.D := List.getD (Prod.fst (Prod.snd (Prod.snd ls_16))) (Int.toNat i_15) ([], [], ())
    bif allB [Decidable.decide ((0 : Int) ≤ i_15), Decidable.decide (i_15 < v_17)] then
      let v_20 : Bool := Prod.fst (Wh.spec_RowOk' (Prod.fst pb_19, Prod.fst ls_16))
      let v_25 : Bool := bif bif bif !v_20 then Bool.true else (↑(List.length (Prod.fst pb_19)) : Int) == (0 : Int) then Bool.true else (↑(List.length (Prod.fst (Prod.snd pb_19))) : Int) != Prod.fst (Prod.snd ls_16) then Bool.true else bif Decidable.decide (i_15 > (0 : Int)) then Decidable.decide (List.getD (Prod.fst (List.getD (Prod.fst (Prod.snd (Prod.snd ls_16))) (Int.toNat (Go.IntKind.wrap Go.IntKind.i64 (i_15 - (1 : Int)))) ([], [], ()))) (Int.toNat (0 : Int)) (0 : Int) ≥ List.getD (Prod.fst pb_19) (Int.toNat (0 : Int)) (0 : Int)) else Bool.false
      bif allB [!(Decidable.decide (i_15 > (0 : Int)) && !bif bif !v_20 then Bool.true else (↑(List.length (Prod.fst pb_19)) : Int) == (0 : Int) then Bool.true else (↑(List.length (Prod.fst (Prod.snd pb_19))) : Int) != Prod.fst (Prod.snd ls_16)) || Decidable.decide ((0 : Int) ≤ (0 : Int)), !(Decidable.decide (i_15 > (0 : Int)) && !bif bif !v_20 then Bool.true else (↑(List.length (Prod.fst pb_19)) : Int) == (0 : Int) then Bool.true else (↑(List.length (Prod.fst (Prod.snd pb_19))) : Int) != Prod.fst (Prod.snd ls_16)) || Decidable.decide ((0 : Int) < (↑(List.length (Prod.fst pb_19)) : Int)), !(Decidable.decide (i_15 > (0 : Int)) && !bif bif !v_20 then Bool.true else (↑(List.length (Prod.fst pb_19)) : Int) == (0 : Int) then Bool.true else (↑(List.length (Prod.fst (Prod.snd pb_19))) : Int) != Prod.fst (Prod.snd ls_16)) || Decidable.decide ((0 : Int) ≤ (0 : Int)), !(Decidable.decide (i_15 > (0 : Int)) && !bif bif !v_20 then Bool.true else (↑(List.length (Prod.fst pb_19)) : Int) == (0 : Int) then Bool.true else (↑(List.length (Prod.fst (Prod.snd pb_19))) : Int) != Prod.fst (Prod.snd ls_16)) || Decidable.decide ((0 : Int) < (↑(List.length (Prod.fst (List.getD (Prod.fst (Prod.snd (Prod.snd ls_16))) (Int.toNat (Go.IntKind.wrap Go.IntKind.i64 (i_15 - (1 : Int)))) ([], [], ())))) : Int)), !(Decidable.decide (i_15 > (0 : Int)) && !bif bif !v_20 then Bool.true else (↑(List.length (Prod.fst pb_19)) : Int) == (0 : Int) then Bool.true else (↑(List.length (Prod.fst (Prod.snd pb_19))) : Int) != Prod.fst (Prod.snd ls_16)) || Decidable.decide ((0 : Int) ≤ Go.IntKind.wrap Go.IntKind.i64 (i_15 - (1 : Int))), !(Decidable.decide (i_15 > (0 : Int)) && !bif bif !v_20 then Bool.true else (↑(List.length (Prod.fst pb_19)) : Int) == (0 : Int) then Bool.true else (↑(List.length (Prod.fst (Prod.snd pb_19))) : Int) != Prod.fst (Prod.snd ls_16)) || Decidable.decide (Go.IntKind.wrap Go.IntKind.i64 (i_15 - (1 : Int)) < v_17), Go.Ab.isSm (Wh.spec_RowOk (Prod.fst pb_19, Prod.fst ls_16))] then
        bif v_25 then
          some (.inr (.inl (Bool.false, ())))
        else
          let v_26 : Int := Go.IntKind.wrap Go.IntKind.i64 (i_15 + (1 : Int))
          some (.inl ((v_26, ()), ls_16))
      else none
    else none
  else
    some (.inr (.inr ((), ls_16)))
def Wh.spec_SolverOk_l0_y : (((Bool)) × (Unit)) ⊕ (((Unit)) × ((tImplSolver.D))) := .inl default
def Wh.spec_SolverOk (xs : (tImplSolver.D)) : Option (((Bool)) × (Unit)) :=
  let s_0 : tImplSolver.D := xs
  let v_1 : Bool := Prod.fst (Wh.spec_l1In' (Prod.fst s_0, (1 : Int), (24 : Int)))
  let v_2 : Bool := bif !v_1 then Bool.true else !Prod.fst (Wh.spec_l1In' (Prod.fst (Prod.snd s_0), (1 : Int), (16 : Int)))
  bif allB [!!!v_1 || Go.Ab.isSm (Wh.spec_l1In (Prod.fst (Prod.snd s_0), (1 : Int), (16 : Int))), Go.Ab.isSm (Wh.spec_l1In (Prod.fst s_0, (1 : Int), (24 : Int)))] then
    bif v_2 then
      some (Bool.false, ())
    else
      let x_27 : ((Int) × (Unit)) × ((tImplSolver.D)) := (((0 : Int), ()), s_0)
      bif comesB Wh.spec_SolverOk_l0 x_27 then
        sumC (comesV Wh.spec_SolverOk_l0 Wh.spec_SolverOk_l0_y x_27) (fun y_28 =>
          let v_30 : Bool := Prod.fst y_28
          some (v_30, ())) (fun z_29 =>
          let ls_31 : tImplSolver.D := Prod.snd z_29
          let x_70 : ((Int) × (Unit)) × ((tImplSolver.D)) := (((0 : Int), ()), ls_31)
          bif comesB Wh.spec_SolverOk_l1 x_70 then
            sumC (comesV Wh.spec_SolverOk_l1 Wh.spec_SolverOk_l1_y x_70) (fun y_71 =>
              let v_73 : Bool := Prod.fst y_71
              some (v_73, ())) (fun _ =>
              some (Bool.true, ()))
          else none)
      else none
  else none
def Wh.spec_SolverOk' (xs : (tImplSolver.D)) : ((Bool)) × (Unit) := match Wh.spec_SolverOk xs with | some y => y | none => default
theorem Wh.spec_SolverOk_v (x : (tImplSolver.D)) (y : ((Bool)) × (Unit)) (h : Wh.spec_SolverOk x = some y) : Wh.spec_SolverOk' x = y := by unfold Wh.spec_SolverOk'; rw [h]

def Wh.spec_GetOk (xs : (tImplGetting.D)) : Option (((Bool)) × (Unit)) :=
  let g_0 : tImplGetting.D := xs
  let v_1 : Bool := Prod.fst (Wh.spec_PlanOk' (Prod.fst g_0))
  let v_7 : Bool := bif bif bif v_1 then Prod.fst (Wh.spec_SolverOk' (Prod.fst (Prod.snd g_0))) else Bool.false then Prod.fst (Prod.fst (Prod.snd g_0)) == Prod.fst (Wh.spec_l5Count' (Prod.fst g_0)) else Bool.false then Prod.fst (Prod.snd (Prod.fst (Prod.snd g_0))) == Prod.fst (Prod.snd (Prod.fst g_0)) else Bool.false
  bif allB [(!bif v_1 then Prod.fst (Wh.spec_SolverOk' (Prod.fst (Prod.snd g_0))) else Bool.false) || Go.Ab.isSm (Wh.spec_l5Count (Prod.fst g_0)), !v_1 || Go.Ab.isSm (Wh.spec_SolverOk (Prod.fst (Prod.snd g_0))), Go.Ab.isSm (Wh.spec_PlanOk (Prod.fst g_0))] then
    some (v_7, ())
  else none
def Wh.spec_GetOk' (xs : (tImplGetting.D)) : ((Bool)) × (Unit) := match Wh.spec_GetOk xs with | some y => y | none => default
theorem Wh.spec_GetOk_v (x : (tImplGetting.D)) (y : ((Bool)) × (Unit)) (h : Wh.spec_GetOk x = some y) : Wh.spec_GetOk' x = y := by unfold Wh.spec_GetOk'; rw [h]

def Wh.spec_NameOk_l0 (x : ((Int) × (List UInt8)) × (Unit)) : Option ((((Int) × (List UInt8)) × (Unit)) ⊕ ((((Bool)) × (Unit)) ⊕ (((List UInt8)) × (Unit)))) :=
  let i_9 : Int := Prod.fst (Prod.fst x)
  let text_10 : List UInt8 := Prod.snd (Prod.fst x)
  let v_11 : Bool := Decidable.decide (i_9 < (↑(List.length text_10) : Int))
  bif v_11 then
    let v_12 : Int := (↑(UInt8.toNat (List.getD text_10 (Int.toNat i_9) (0 : UInt8))) : Int)
    let v_15 : Bool := bif Decidable.decide (v_12 < (97 : Int)) then Bool.true else Decidable.decide (v_12 > (122 : Int))
    bif allB [!!Decidable.decide (v_12 < (97 : Int)) || Decidable.decide ((0 : Int) ≤ i_9), !!Decidable.decide (v_12 < (97 : Int)) || v_11, Decidable.decide ((0 : Int) ≤ i_9), v_11] then
      bif v_15 then
        some (.inr (.inl (Bool.false, ())))
      else
        let v_16 : Int := Go.IntKind.wrap Go.IntKind.i64 (i_9 + (1 : Int))
        some (.inl ((v_16, text_10), ()))
    else none
  else
    some (.inr (.inr (text_10, ())))
def Wh.spec_NameOk_l0_y : (((Bool)) × (Unit)) ⊕ (((List UInt8)) × (Unit)) := .inl default
def Wh.spec_NameOk (xs : (List UInt8)) : Option (((Bool)) × (Unit)) :=
  let text_0 : List UInt8 := xs
  let x_17 : ((Int) × (List UInt8)) × (Unit) := (((0 : Int), text_0), ())
  bif comesB Wh.spec_NameOk_l0 x_17 then
    sumC (comesV Wh.spec_NameOk_l0 Wh.spec_NameOk_l0_y x_17) (fun y_18 =>
      let v_20 : Bool := Prod.fst y_18
      some (v_20, ())) (fun z_19 =>
      let text_21 : List UInt8 := Prod.fst z_19
      let v_22 : Bool := Prod.fst (Wh.spec_l1In' ((↑(List.length text_21) : Int), (1 : Int), (6 : Int)))
      bif allB [Go.Ab.isSm (Wh.spec_l1In ((↑(List.length text_21) : Int), (1 : Int), (6 : Int)))] then
        some (v_22, ())
      else none)
  else none
def Wh.spec_NameOk' (xs : (List UInt8)) : ((Bool)) × (Unit) := match Wh.spec_NameOk xs with | some y => y | none => default
theorem Wh.spec_NameOk_v (x : (List UInt8)) (y : ((Bool)) × (Unit)) (h : Wh.spec_NameOk x = some y) : Wh.spec_NameOk' x = y := by unfold Wh.spec_NameOk'; rw [h]

def Wh.spec_GetDone (xs : (tImplGetting.D)) : Option (((Bool)) × (Unit)) :=
  let g_0 : tImplGetting.D := xs
  let v_1 : Bool := bif Prod.fst (Wh.spec_GetOk' g_0) then (↑(List.length (Prod.fst (Prod.snd (Prod.snd (Prod.fst (Prod.snd g_0)))))) : Int) == Prod.fst (Wh.spec_l5Count' (Prod.fst g_0)) else Bool.false
  bif allB [!Prod.fst (Wh.spec_GetOk' g_0) || Go.Ab.isSm (Wh.spec_l5Count (Prod.fst g_0)), Go.Ab.isSm (Wh.spec_GetOk g_0)] then
    some (v_1, ())
  else none
def Wh.spec_GetDone' (xs : (tImplGetting.D)) : ((Bool)) × (Unit) := match Wh.spec_GetDone xs with | some y => y | none => default
theorem Wh.spec_GetDone_v (x : (tImplGetting.D)) (y : ((Bool)) × (Unit)) (h : Wh.spec_GetDone x = some y) : Wh.spec_GetDone' x = y := by unfold Wh.spec_GetDone'; rw [h]

def Wh.spec_ClientOk (xs : (tImplClient.D)) : Option (((Bool)) × (Unit)) :=
  let c_0 : tImplClient.D := xs
  let v_1 : Bool := Prod.fst (Wh.spec_l1In' (Prod.fst c_0, (0 : Int), (3 : Int)))
  let v_6 : Bool := bif bif bif !v_1 then Bool.true else !Prod.fst (Wh.spec_l1In' (Prod.fst (Prod.snd c_0), (0 : Int), (99999 : Int))) then Bool.true else !Prod.fst (Wh.spec_l1In' (Prod.fst (Prod.snd (Prod.snd c_0)), (0 : Int), (4 : Int))) then Bool.true else !Prod.fst (Wh.spec_l1In' (Prod.fst (Prod.snd (Prod.snd (Prod.snd (Prod.snd c_0)))), (0 : Int), (99999 : Int)))
  bif allB [(!!bif bif !v_1 then Bool.true else !Prod.fst (Wh.spec_l1In' (Prod.fst (Prod.snd c_0), (0 : Int), (99999 : Int))) then Bool.true else !Prod.fst (Wh.spec_l1In' (Prod.fst (Prod.snd (Prod.snd c_0)), (0 : Int), (4 : Int)))) || Go.Ab.isSm (Wh.spec_l1In (Prod.fst (Prod.snd (Prod.snd (Prod.snd (Prod.snd c_0)))), (0 : Int), (99999 : Int))), (!!bif !v_1 then Bool.true else !Prod.fst (Wh.spec_l1In' (Prod.fst (Prod.snd c_0), (0 : Int), (99999 : Int)))) || Go.Ab.isSm (Wh.spec_l1In (Prod.fst (Prod.snd (Prod.snd c_0)), (0 : Int), (4 : Int))), !!!v_1 || Go.Ab.isSm (Wh.spec_l1In (Prod.fst (Prod.snd c_0), (0 : Int), (99999 : Int))), Go.Ab.isSm (Wh.spec_l1In (Prod.fst c_0, (0 : Int), (3 : Int)))] then
    bif v_6 then
      some (Bool.false, ())
    else
      let v_7 : Bool := Prod.fst (Prod.snd (Prod.snd (Prod.snd (Prod.snd c_0)))) == (0 : Int)
      let v_10 : Bool := bif bif v_7 then !Prod.fst (Wh.spec_l13None' c_0) else Bool.false then Bool.true else bif Decidable.decide (Prod.fst (Prod.snd (Prod.snd (Prod.snd (Prod.snd c_0)))) > (0 : Int)) then !Prod.fst (Wh.spec_GetOk' (Prod.fst (Prod.snd (Prod.snd (Prod.snd (Prod.snd (Prod.snd c_0))))))) else Bool.false
      bif allB [!(Decidable.decide (Prod.fst (Prod.snd (Prod.snd (Prod.snd (Prod.snd c_0)))) > (0 : Int)) && !bif v_7 then !Prod.fst (Wh.spec_l13None' c_0) else Bool.false) || Go.Ab.isSm (Wh.spec_GetOk (Prod.fst (Prod.snd (Prod.snd (Prod.snd (Prod.snd (Prod.snd c_0))))))), !v_7 || Go.Ab.isSm (Wh.spec_l13None c_0)] then
        bif v_10 then
          some (Bool.false, ())
        else
          let v_11 : Bool := Prod.fst (Prod.snd (Prod.snd c_0)) == (0 : Int)
          bif v_11 then
            let v_12 : Bool := Prod.fst (Prod.snd (Prod.snd (Prod.snd c_0))) == []
            some (bif v_12 then v_7 else Bool.false, ())
          else
            let v_13 : Bool := Prod.fst (Prod.snd c_0) == (0 : Int)
            let v_14 : Bool := bif v_13 then Bool.true else !Prod.fst (Wh.spec_NameOk' (Prod.fst (Prod.snd (Prod.snd (Prod.snd c_0)))))
            bif allB [!!v_13 || Go.Ab.isSm (Wh.spec_NameOk (Prod.fst (Prod.snd (Prod.snd (Prod.snd c_0)))))] then
              bif v_14 then
                some (Bool.false, ())
              else
                let v_15 : Bool := Prod.fst (Prod.snd (Prod.snd c_0)) == (2 : Int)
                bif v_15 then
                  let v_16 : Bool := Decidable.decide (Prod.fst (Prod.snd (Prod.snd (Prod.snd (Prod.snd c_0)))) > (0 : Int))
                  let v_18 : Bool := bif v_16 then !Prod.fst (Wh.spec_GetDone' (Prod.fst (Prod.snd (Prod.snd (Prod.snd (Prod.snd (Prod.snd c_0))))))) else Bool.false
                  bif allB [!v_16 || Go.Ab.isSm (Wh.spec_GetDone (Prod.fst (Prod.snd (Prod.snd (Prod.snd (Prod.snd (Prod.snd c_0)))))))] then
                    some (v_18, ())
                  else none
                else
                  let v_19 : Bool := Prod.fst (Prod.snd (Prod.snd c_0)) == (3 : Int)
                  bif v_19 then
                    let v_20 : Bool := Decidable.decide (Prod.fst (Prod.snd (Prod.snd (Prod.snd (Prod.snd c_0)))) > (0 : Int))
                    let v_22 : Bool := bif v_20 then Prod.fst (Wh.spec_GetDone' (Prod.fst (Prod.snd (Prod.snd (Prod.snd (Prod.snd (Prod.snd c_0))))))) else Bool.false
                    bif allB [!v_20 || Go.Ab.isSm (Wh.spec_GetDone (Prod.fst (Prod.snd (Prod.snd (Prod.snd (Prod.snd (Prod.snd c_0)))))))] then
                      some (v_22, ())
                    else none
                  else
                    let v_24 : Bool := bif v_7 then Bool.true else !Prod.fst (Wh.spec_GetDone' (Prod.fst (Prod.snd (Prod.snd (Prod.snd (Prod.snd (Prod.snd c_0)))))))
                    bif allB [!!v_7 || Go.Ab.isSm (Wh.spec_GetDone (Prod.fst (Prod.snd (Prod.snd (Prod.snd (Prod.snd (Prod.snd c_0)))))))] then
                      some (v_24, ())
                    else none
            else none
      else none
  else none
def Wh.spec_ClientOk' (xs : (tImplClient.D)) : ((Bool)) × (Unit) := match Wh.spec_ClientOk xs with | some y => y | none => default
theorem Wh.spec_ClientOk_v (x : (tImplClient.D)) (y : ((Bool)) × (Unit)) (h : Wh.spec_ClientOk x = some y) : Wh.spec_ClientOk' x = y := by unfold Wh.spec_ClientOk'; rw [h]

def Wh.spec_l13Asks (xs : (tImplClient.D)) : Option (((List (tImplWord.D))) × (Unit)) :=
  let c_0 : tImplClient.D := xs
  let pb_1 : List (tImplWord.D) := [((1 : Int), Prod.fst c_0, Prod.fst (Prod.snd c_0), Prod.fst (Prod.snd (Prod.snd (Prod.snd (Prod.snd c_0)))), (0 : Int), Prod.fst (Prod.snd (Prod.snd (Prod.snd c_0))), [], ())]
  some (pb_1, ())
def Wh.spec_l13Asks' (xs : (tImplClient.D)) : ((List (tImplWord.D))) × (Unit) := match Wh.spec_l13Asks xs with | some y => y | none => default
theorem Wh.spec_l13Asks_v (x : (tImplClient.D)) (y : ((List (tImplWord.D))) × (Unit)) (h : Wh.spec_l13Asks x = some y) : Wh.spec_l13Asks' x = y := by unfold Wh.spec_l13Asks'; rw [h]

def Wh.impl_within (xs : (Int) × (Int) × (Int)) : Option (((Bool)) × (Unit)) :=
  let n_0 : Int := Prod.fst xs
  let low_1 : Int := Prod.fst (Prod.snd xs)
  let high_2 : Int := Prod.snd (Prod.snd xs)
  let v_3 : Bool := Decidable.decide (n_0 ≥ low_1)
  let v_5 : Bool := bif v_3 then Decidable.decide (n_0 ≤ high_2) else Bool.false
  some (v_5, ())
def Wh.impl_within' (xs : (Int) × (Int) × (Int)) : ((Bool)) × (Unit) := match Wh.impl_within xs with | some y => y | none => default
theorem Wh.impl_within_v (x : (Int) × (Int) × (Int)) (y : ((Bool)) × (Unit)) (h : Wh.impl_within x = some y) : Wh.impl_within' x = y := by unfold Wh.impl_within'; rw [h]

def Wh.impl_clientOf (xs : (Int)) : Option (((Bool)) × (Unit)) :=
  let n_0 : Int := xs
  let v_1 : Bool := Prod.fst (Wh.impl_within' (n_0, (0 : Int), (3 : Int)))
  bif allB [Go.Ab.isSm (Wh.impl_within (n_0, (0 : Int), (3 : Int)))] then
    some (v_1, ())
  else none
def Wh.impl_clientOf' (xs : (Int)) : ((Bool)) × (Unit) := match Wh.impl_clientOf xs with | some y => y | none => default
theorem Wh.impl_clientOf_v (x : (Int)) (y : ((Bool)) × (Unit)) (h : Wh.impl_clientOf x = some y) : Wh.impl_clientOf' x = y := by unfold Wh.impl_clientOf'; rw [h]

def Wh.impl_noGet (xs : (tImplGetting.D)) : Option (((Bool)) × (Unit)) :=
  let g_0 : tImplGetting.D := xs
  let v_1 : Bool := Prod.fst (Prod.fst g_0) == (0 : Int)
  let v_13 : Bool := bif bif bif bif bif bif v_1 then Prod.fst (Prod.snd (Prod.fst g_0)) == (0 : Int) else Bool.false then (↑(List.length (Prod.fst (Prod.snd (Prod.snd (Prod.fst g_0))))) : Int) == (0 : Int) else Bool.false then (↑(List.length (Prod.fst (Prod.snd (Prod.snd (Prod.snd (Prod.fst g_0)))))) : Int) == (0 : Int) else Bool.false then Prod.fst (Prod.fst (Prod.snd g_0)) == (0 : Int) else Bool.false then Prod.fst (Prod.snd (Prod.fst (Prod.snd g_0))) == (0 : Int) else Bool.false then (↑(List.length (Prod.fst (Prod.snd (Prod.snd (Prod.fst (Prod.snd g_0)))))) : Int) == (0 : Int) else Bool.false
  some (v_13, ())
def Wh.impl_noGet' (xs : (tImplGetting.D)) : ((Bool)) × (Unit) := match Wh.impl_noGet xs with | some y => y | none => default
theorem Wh.impl_noGet_v (x : (tImplGetting.D)) (y : ((Bool)) × (Unit)) (h : Wh.impl_noGet x = some y) : Wh.impl_noGet' x = y := by unfold Wh.impl_noGet'; rw [h]

def Wh.impl_Plan_count (xs : (tImplPlan.D)) : Option (((Int)) × (Unit)) :=
  let p_0 : tImplPlan.D := xs
  let v_1 : Int := Go.IntKind.wrap Go.IntKind.i64 (Prod.fst p_0 + Prod.fst (Prod.snd p_0))
  let v_4 : Int := Go.IntKind.wrap Go.IntKind.i64 (Int.tdiv (Go.IntKind.wrap Go.IntKind.i64 (v_1 - (1 : Int))) (Prod.fst (Prod.snd p_0)))
  bif allB [Prod.fst (Prod.snd p_0) != (0 : Int)] then
    some (v_4, ())
  else none
def Wh.impl_Plan_count' (xs : (tImplPlan.D)) : ((Int)) × (Unit) := match Wh.impl_Plan_count xs with | some y => y | none => default
theorem Wh.impl_Plan_count_v (x : (tImplPlan.D)) (y : ((Int)) × (Unit)) (h : Wh.impl_Plan_count x = some y) : Wh.impl_Plan_count' x = y := by unfold Wh.impl_Plan_count'; rw [h]

def Wh.impl_PlanOk_l0 (x : ((Int) × (Unit) × (List (Int)) × (Int)) × ((tImplPlan.D))) : Option ((((Int) × (Unit) × (List (Int)) × (Int)) × ((tImplPlan.D))) ⊕ ((((Bool)) × (Unit)) ⊕ ((Unit) × (Unit)))) :=
  let v_23 : Int := Prod.fst (Prod.fst x)
  let v_24 : List Int := Prod.fst (Prod.snd (Prod.snd (Prod.fst x)))
  let v_25 : Int := Prod.snd (Prod.snd (Prod.snd (Prod.fst x)))
  let ls_26 : tImplPlan.D := Prod.snd x
  let v_27 : Bool := Decidable.decide (v_23 < v_25)
  bif v_27 then
    let v_28 : Int := List.getD v_24 (Int.toNat v_23) (0 : Int)
    bif allB [Decidable.decide ((0 : Int) ≤ v_23), Decidable.decide (v_23 < (↑(List.length v_24) : Int))] then
      let v_29 : Bool := Prod.fst (Wh.impl_within' (v_28, (1 : Int), Prod.fst (Wh.impl_Plan_count' ls_26)))
      let v_32 : Bool := bif bif !v_29 then Bool.true else bif Decidable.decide (v_23 > (0 : Int)) then Decidable.decide (List.getD (Prod.fst (Prod.snd (Prod.snd ls_26))) (Int.toNat (Go.IntKind.wrap Go.IntKind.i64 (v_23 - (1 : Int)))) (0 : Int) ≥ v_28) else Bool.false then Bool.true else !Prod.fst (Wh.impl_within' (List.getD (Prod.fst (Prod.snd (Prod.snd (Prod.snd ls_26)))) (Int.toNat v_23) (0 : Int), (1 : Int), (99 : Int)))
      bif allB [(!!bif !v_29 then Bool.true else bif Decidable.decide (v_23 > (0 : Int)) then Decidable.decide (List.getD (Prod.fst (Prod.snd (Prod.snd ls_26))) (Int.toNat (Go.IntKind.wrap Go.IntKind.i64 (v_23 - (1 : Int)))) (0 : Int) ≥ v_28) else Bool.false) || Go.Ab.isSm (Wh.impl_within (List.getD (Prod.fst (Prod.snd (Prod.snd (Prod.snd ls_26)))) (Int.toNat v_23) (0 : Int), (1 : Int), (99 : Int))), (!!bif !v_29 then Bool.true else bif Decidable.decide (v_23 > (0 : Int)) then Decidable.decide (List.getD (Prod.fst (Prod.snd (Prod.snd ls_26))) (Int.toNat (Go.IntKind.wrap Go.IntKind.i64 (v_23 - (1 : Int)))) (0 : Int) ≥ v_28) else Bool.false) || Decidable.decide ((0 : Int) ≤ v_23), (!!bif !v_29 then Bool.true else bif Decidable.decide (v_23 > (0 : Int)) then Decidable.decide (List.getD (Prod.fst (Prod.snd (Prod.snd ls_26))) (Int.toNat (Go.IntKind.wrap Go.IntKind.i64 (v_23 - (1 : Int)))) (0 : Int) ≥ v_28) else Bool.false) || Decidable.decide (v_23 < (↑(List.length (Prod.fst (Prod.snd (Prod.snd (Prod.snd ls_26))))) : Int)), !(Decidable.decide (v_23 > (0 : Int)) && !!v_29) || Decidable.decide ((0 : Int) ≤ Go.IntKind.wrap Go.IntKind.i64 (v_23 - (1 : Int))), !(Decidable.decide (v_23 > (0 : Int)) && !!v_29) || Decidable.decide (Go.IntKind.wrap Go.IntKind.i64 (v_23 - (1 : Int)) < (↑(List.length (Prod.fst (Prod.snd (Prod.snd ls_26)))) : Int)), Go.Ab.isSm (Wh.impl_within (v_28, (1 : Int), Prod.fst (Wh.impl_Plan_count' ls_26))), Go.Ab.isSm (Wh.impl_Plan_count ls_26)] then
        bif v_32 then
          some (.inr (.inl (Bool.false, ())))
        else
          let v_33 : Int := Go.IntKind.wrap Go.IntKind.i64 (v_23 + (1 : Int))
          some (.inl ((v_33, (), v_24, v_25), ls_26))
      else none
    else none
  else
    some (.inr (.inr ((), ())))
def Wh.impl_PlanOk_l0_y : (((Bool)) × (Unit)) ⊕ ((Unit) × (Unit)) := .inl default
def Wh.impl_PlanOk (xs : (tImplPlan.D)) : Option (((Bool)) × (Unit)) :=
  let p_0 : tImplPlan.D := xs
  let v_1 : Bool := Prod.fst (Wh.impl_within' (Prod.fst p_0, (1 : Int), (300 : Int)))
  let v_4 : Bool := bif bif !v_1 then Bool.true else !Prod.fst (Wh.impl_within' (Prod.fst (Prod.snd p_0), (1 : Int), (16 : Int))) then Bool.true else Decidable.decide (Prod.fst (Wh.impl_Plan_count' p_0) > (24 : Int))
  bif allB [(!!bif !v_1 then Bool.true else !Prod.fst (Wh.impl_within' (Prod.fst (Prod.snd p_0), (1 : Int), (16 : Int)))) || Go.Ab.isSm (Wh.impl_Plan_count p_0), !!!v_1 || Go.Ab.isSm (Wh.impl_within (Prod.fst (Prod.snd p_0), (1 : Int), (16 : Int))), Go.Ab.isSm (Wh.impl_within (Prod.fst p_0, (1 : Int), (300 : Int)))] then
    bif v_4 then
      some (Bool.false, ())
    else
      let v_5 : Int := (↑(List.length (Prod.fst (Prod.snd (Prod.snd p_0)))) : Int)
      let v_11 : Bool := bif bif !Prod.fst (Wh.impl_within' (v_5, (1 : Int), (3 : Int))) then Bool.true else (↑(List.length (Prod.fst (Prod.snd (Prod.snd (Prod.snd p_0))))) : Int) != v_5 then Bool.true else List.getD (Prod.fst (Prod.snd (Prod.snd p_0))) (Int.toNat (Go.IntKind.wrap Go.IntKind.i64 (v_5 - (1 : Int)))) (0 : Int) != Prod.fst (Wh.impl_Plan_count' p_0)
      bif allB [(!!bif !Prod.fst (Wh.impl_within' (v_5, (1 : Int), (3 : Int))) then Bool.true else (↑(List.length (Prod.fst (Prod.snd (Prod.snd (Prod.snd p_0))))) : Int) != v_5) || Go.Ab.isSm (Wh.impl_Plan_count p_0), (!!bif !Prod.fst (Wh.impl_within' (v_5, (1 : Int), (3 : Int))) then Bool.true else (↑(List.length (Prod.fst (Prod.snd (Prod.snd (Prod.snd p_0))))) : Int) != v_5) || Decidable.decide ((0 : Int) ≤ Go.IntKind.wrap Go.IntKind.i64 (v_5 - (1 : Int))), (!!bif !Prod.fst (Wh.impl_within' (v_5, (1 : Int), (3 : Int))) then Bool.true else (↑(List.length (Prod.fst (Prod.snd (Prod.snd (Prod.snd p_0))))) : Int) != v_5) || Decidable.decide (Go.IntKind.wrap Go.IntKind.i64 (v_5 - (1 : Int)) < v_5), Go.Ab.isSm (Wh.impl_within (v_5, (1 : Int), (3 : Int)))] then
        bif v_11 then
          some (Bool.false, ())
        else
          let x_34 : ((Int) × (Unit) × (List (Int)) × (Int)) × ((tImplPlan.D)) := (((0 : Int), (), Prod.fst (Prod.snd (Prod.snd p_0)), v_5), p_0)
          bif comesB Wh.impl_PlanOk_l0 x_34 then
            sumC (comesV Wh.impl_PlanOk_l0 Wh.impl_PlanOk_l0_y x_34) (fun y_35 =>
              let v_37 : Bool := Prod.fst y_35
              some (v_37, ())) (fun _ =>
              some (Bool.true, ()))
          else none
      else none
  else none
def Wh.impl_PlanOk' (xs : (tImplPlan.D)) : ((Bool)) × (Unit) := match Wh.impl_PlanOk xs with | some y => y | none => default
theorem Wh.impl_PlanOk_v (x : (tImplPlan.D)) (y : ((Bool)) × (Unit)) (h : Wh.impl_PlanOk x = some y) : Wh.impl_PlanOk' x = y := by unfold Wh.impl_PlanOk'; rw [h]

def Wh.impl_RowOk_l0 (x : ((Int) × (List (Int)) × (Int) × (List (Int)) × (Int)) × (Unit)) : Option ((((Int) × (List (Int)) × (Int) × (List (Int)) × (Int)) × (Unit)) ⊕ ((((Bool)) × (Unit)) ⊕ (((Int)) × (Unit)))) :=
  let v_15 : Int := Prod.fst (Prod.fst x)
  let row_16 : List Int := Prod.fst (Prod.snd (Prod.fst x))
  let count_17 : Int := Prod.fst (Prod.snd (Prod.snd (Prod.fst x)))
  let v_18 : List Int := Prod.fst (Prod.snd (Prod.snd (Prod.snd (Prod.fst x))))
  let v_19 : Int := Prod.snd (Prod.snd (Prod.snd (Prod.snd (Prod.fst x))))
  let v_20 : Bool := Decidable.decide (v_15 < v_19)
  bif v_20 then
    let v_21 : Int := List.getD v_18 (Int.toNat v_15) (0 : Int)
    bif allB [Decidable.decide ((0 : Int) ≤ v_15), Decidable.decide (v_15 < (↑(List.length v_18) : Int))] then
      let v_22 : Int := Go.IntKind.wrap Go.IntKind.i64 (count_17 - (1 : Int))
      let v_26 : Bool := bif !Prod.fst (Wh.impl_within' (v_21, (0 : Int), v_22)) then Bool.true else bif Decidable.decide (v_15 > (0 : Int)) then Decidable.decide (List.getD row_16 (Int.toNat (Go.IntKind.wrap Go.IntKind.i64 (v_15 - (1 : Int)))) (0 : Int) ≥ v_21) else Bool.false
      bif allB [!(Decidable.decide (v_15 > (0 : Int)) && !!Prod.fst (Wh.impl_within' (v_21, (0 : Int), v_22))) || Decidable.decide ((0 : Int) ≤ Go.IntKind.wrap Go.IntKind.i64 (v_15 - (1 : Int))), !(Decidable.decide (v_15 > (0 : Int)) && !!Prod.fst (Wh.impl_within' (v_21, (0 : Int), v_22))) || Decidable.decide (Go.IntKind.wrap Go.IntKind.i64 (v_15 - (1 : Int)) < (↑(List.length row_16) : Int)), Go.Ab.isSm (Wh.impl_within (v_21, (0 : Int), v_22))] then
        bif v_26 then
          some (.inr (.inl (Bool.false, ())))
        else
          let v_27 : Int := Go.IntKind.wrap Go.IntKind.i64 (v_15 + (1 : Int))
          some (.inl ((v_27, row_16, count_17, v_18, v_19), ()))
      else none
    else none
  else
    some (.inr (.inr (count_17, ())))
def Wh.impl_RowOk_l0_y : (((Bool)) × (Unit)) ⊕ (((Int)) × (Unit)) := .inl default
def Wh.impl_RowOk (xs : (List (Int)) × (Int)) : Option (((Bool)) × (Unit)) :=
  let row_0 : List Int := Prod.fst xs
  let count_1 : Int := Prod.snd xs
  let x_28 : ((Int) × (List (Int)) × (Int) × (List (Int)) × (Int)) × (Unit) := (((0 : Int), row_0, count_1, row_0, (↑(List.length row_0) : Int)), ())
  bif comesB Wh.impl_RowOk_l0 x_28 then
    sumC (comesV Wh.impl_RowOk_l0 Wh.impl_RowOk_l0_y x_28) (fun y_29 =>
      let v_31 : Bool := Prod.fst y_29
      some (v_31, ())) (fun z_30 =>
      let count_32 : Int := Prod.fst z_30
      let v_33 : Bool := Prod.fst (Wh.impl_within' (count_32, (0 : Int), (24 : Int)))
      bif allB [Go.Ab.isSm (Wh.impl_within (count_32, (0 : Int), (24 : Int)))] then
        some (v_33, ())
      else none)
  else none
def Wh.impl_RowOk' (xs : (List (Int)) × (Int)) : ((Bool)) × (Unit) := match Wh.impl_RowOk xs with | some y => y | none => default
theorem Wh.impl_RowOk_v (x : (List (Int)) × (Int)) (y : ((Bool)) × (Unit)) (h : Wh.impl_RowOk x = some y) : Wh.impl_RowOk' x = y := by unfold Wh.impl_RowOk'; rw [h]

def Wh.impl_mask_l0 (x : ((Int) × (Int) × (List (Int)) × (Int)) × (Unit)) : Option ((((Int) × (Int) × (List (Int)) × (Int)) × (Unit)) ⊕ ((((Int)) × (Unit)))) :=
  let v_9 : Int := Prod.fst (Prod.fst x)
  let m_10 : Int := Prod.fst (Prod.snd (Prod.fst x))
  let v_11 : List Int := Prod.fst (Prod.snd (Prod.snd (Prod.fst x)))
  let v_12 : Int := Prod.snd (Prod.snd (Prod.snd (Prod.fst x)))
  let v_13 : Bool := Decidable.decide (v_9 < v_12)
  bif v_13 then
    let v_14 : Int := List.getD v_11 (Int.toNat v_9) (0 : Int)
    bif allB [Decidable.decide ((0 : Int) ≤ v_9), Decidable.decide (v_9 < (↑(List.length v_11) : Int))] then
      let v_15 : Int := Go.IntKind.wrap Go.IntKind.u32 ((1 : Int) * (2 : Int) ^ Min.min (Int.toNat v_14) (Go.IntKind.bits Go.IntKind.u32))
      bif allB [Decidable.decide ((0 : Int) ≤ v_14)] then
        let v_16 : Int := Go.IntKind.wrap Go.IntKind.i64 (v_9 + (1 : Int))
        some (.inl ((v_16, Go.Ab.bitsOp Go.BinOp.or Go.IntKind.u32 m_10 v_15, v_11, v_12), ()))
      else none
    else none
  else
    some (.inr (m_10, ()))
def Wh.impl_mask_l0_y : (((Int)) × (Unit)) := default
def Wh.impl_mask (xs : (List (Int))) : Option (((Int)) × (Unit)) :=
  let row_0 : List Int := xs
  let x_17 : ((Int) × (Int) × (List (Int)) × (Int)) × (Unit) := (((0 : Int), (0 : Int), row_0, (↑(List.length row_0) : Int)), ())
  bif comesB Wh.impl_mask_l0 x_17 then
    let y_18 := comesV Wh.impl_mask_l0 Wh.impl_mask_l0_y x_17
    let m_19 : Int := Prod.fst y_18
    some (m_19, ())
  else none
def Wh.impl_mask' (xs : (List (Int))) : ((Int)) × (Unit) := match Wh.impl_mask xs with | some y => y | none => default
theorem Wh.impl_mask_v (x : (List (Int))) (y : ((Int)) × (Unit)) (h : Wh.impl_mask x = some y) : Wh.impl_mask' x = y := by unfold Wh.impl_mask'; rw [h]

def Wh.impl_SolverOk_l1 (x : ((Int) × (Int) × (List (tImplEq.D)) × (Int)) × (Unit)) : Option ((((Int) × (Int) × (List (tImplEq.D)) × (Int)) × (Unit)) ⊕ ((((Bool)) × (Unit)) ⊕ ((Unit) × (Unit)))) :=
  let v_61 : Int := Prod.fst (Prod.fst x)
  let pivots_62 : Int := Prod.fst (Prod.snd (Prod.fst x))
  let v_63 : List (tImplEq.D) := Prod.fst (Prod.snd (Prod.snd (Prod.fst x)))
  let v_64 : Int := Prod.snd (Prod.snd (Prod.snd (Prod.fst x)))
  let v_65 : Bool := Decidable.decide (v_61 < v_64)
  bif v_65 then
    let pb_66 : tImplEq.D := List.getD v_63 (Int.toNat v_61) ([], [], ())
    bif allB [Decidable.decide ((0 : Int) ≤ v_61), Decidable.decide (v_61 < (↑(List.length v_63) : Int))] then
      let v_67 : List Int := List.take (Int.toNat ((↑(List.length (Prod.fst pb_66)) : Int) - (1 : Int))) (List.drop (Int.toNat (1 : Int)) (Prod.fst pb_66))
      let v_69 : Bool := Go.Ab.bitsOp Go.BinOp.and Go.IntKind.u32 (Prod.fst (Wh.impl_mask' v_67)) pivots_62 != (0 : Int)
      bif allB [Go.Ab.isSm (Wh.impl_mask v_67), Bool.true, Decidable.decide ((1 : Int) ≤ (↑(List.length (Prod.fst pb_66)) : Int)), Decidable.decide ((↑(List.length (Prod.fst pb_66)) : Int) ≤ (↑(List.length (Prod.fst pb_66)) : Int))] then
        bif v_69 then
          some (.inr (.inl (Bool.false, ())))
        else
          let v_70 : Int := Go.IntKind.wrap Go.IntKind.i64 (v_61 + (1 : Int))
          some (.inl ((v_70, pivots_62, v_63, v_64), ()))
      else none
    else none
  else
    some (.inr (.inr ((), ())))
def Wh.impl_SolverOk_l1_y : (((Bool)) × (Unit)) ⊕ ((Unit) × (Unit)) := .inl default
def Wh.impl_SolverOk_l0 (x : ((Int) × (Int) × (Unit) × (List (tImplEq.D)) × (Int)) × ((tImplSolver.D))) : Option ((((Int) × (Int) × (Unit) × (List (tImplEq.D)) × (Int)) × ((tImplSolver.D))) ⊕ ((((Bool)) × (Unit)) ⊕ (((Int) × (Unit)) × ((tImplSolver.D))))) :=
  let v_24 : Int := Prod.fst (Prod.fst x)
  let pivots_25 : Int := Prod.fst (Prod.snd (Prod.fst x))
  let v_26 : List (tImplEq.D) := Prod.fst (Prod.snd (Prod.snd (Prod.snd (Prod.fst x))))
  let v_27 : Int := Prod.snd (Prod.snd (Prod.snd (Prod.snd (Prod.fst x))))
  let ls_28 : tImplSolver.D := Prod.snd x
  let v_29 : Bool := Decidable.decide (v_24 < v_27)
  bif v_29 then
    let pb_30 : tImplEq.D := List.getD v_26 (Int.toNat v_24) ([], [], ())
    bif allB [Decidable.decide ((0 : Int) ≤ v_24), Decidable.decide (v_24 < (↑(List.length v_26) : Int))] then
      let v_31 : Int := (↑(List.length (Prod.fst pb_30)) : Int)
      let v_38 : Bool := bif bif bif v_31 == (0 : Int) then Bool.true else !Prod.fst (Wh.impl_RowOk' (Prod.fst pb_30, Prod.fst ls_28)) then Bool.true else (↑(List.length (Prod.fst (Prod.snd pb_30))) : Int) != Prod.fst (Prod.snd ls_28) then Bool.true else bif Decidable.decide (v_24 > (0 : Int)) then Decidable.decide (List.getD (Prod.fst (List.getD (Prod.fst (Prod.snd (Prod.snd ls_28))) (Int.toNat (Go.IntKind.wrap Go.IntKind.i64 (v_24 - (1 : Int)))) ([], [], ()))) (Int.toNat (0 : Int)) (0 : Int) ≥ List.getD (Prod.fst pb_30) (Int.toNat (0 : Int)) (0 : Int)) else Bool.false
      bif allB [!(Decidable.decide (v_24 > (0 : Int)) && !bif bif v_31 == (0 : Int) then Bool.true else !Prod.fst (Wh.impl_RowOk' (Prod.fst pb_30, Prod.fst ls_28)) then Bool.true else (↑(List.length (Prod.fst (Prod.snd pb_30))) : Int) != Prod.fst (Prod.snd ls_28)) || Decidable.decide ((0 : Int) ≤ (0 : Int)), !(Decidable.decide (v_24 > (0 : Int)) && !bif bif v_31 == (0 : Int) then Bool.true else !Prod.fst (Wh.impl_RowOk' (Prod.fst pb_30, Prod.fst ls_28)) then Bool.true else (↑(List.length (Prod.fst (Prod.snd pb_30))) : Int) != Prod.fst (Prod.snd ls_28)) || Decidable.decide ((0 : Int) < v_31), !(Decidable.decide (v_24 > (0 : Int)) && !bif bif v_31 == (0 : Int) then Bool.true else !Prod.fst (Wh.impl_RowOk' (Prod.fst pb_30, Prod.fst ls_28)) then Bool.true else (↑(List.length (Prod.fst (Prod.snd pb_30))) : Int) != Prod.fst (Prod.snd ls_28)) || Decidable.decide ((0 : Int) ≤ (0 : Int)), !(Decidable.decide (v_24 > (0 : Int)) && !bif bif v_31 == (0 : Int) then Bool.true else !Prod.fst (Wh.impl_RowOk' (Prod.fst pb_30, Prod.fst ls_28)) then Bool.true else (↑(List.length (Prod.fst (Prod.snd pb_30))) : Int) != Prod.fst (Prod.snd ls_28)) || Decidable.decide ((0 : Int) < (↑(List.length (Prod.fst (List.getD (Prod.fst (Prod.snd (Prod.snd ls_28))) (Int.toNat (Go.IntKind.wrap Go.IntKind.i64 (v_24 - (1 : Int)))) ([], [], ())))) : Int)), !(Decidable.decide (v_24 > (0 : Int)) && !bif bif v_31 == (0 : Int) then Bool.true else !Prod.fst (Wh.impl_RowOk' (Prod.fst pb_30, Prod.fst ls_28)) then Bool.true else (↑(List.length (Prod.fst (Prod.snd pb_30))) : Int) != Prod.fst (Prod.snd ls_28)) || Decidable.decide ((0 : Int) ≤ Go.IntKind.wrap Go.IntKind.i64 (v_24 - (1 : Int))), !(Decidable.decide (v_24 > (0 : Int)) && !bif bif v_31 == (0 : Int) then Bool.true else !Prod.fst (Wh.impl_RowOk' (Prod.fst pb_30, Prod.fst ls_28)) then Bool.true else (↑(List.length (Prod.fst (Prod.snd pb_30))) : Int) != Prod.fst (Prod.snd ls_28)) || Decidable.decide (Go.IntKind.wrap Go.IntKind.i64 (v_24 - (1 : Int)) < (↑(List.length (Prod.fst (Prod.snd (Prod.snd ls_28)))) : Int)), !!v_31 == (0 : Int) || Go.Ab.isSm (Wh.impl_RowOk (Prod.fst pb_30, Prod.fst ls_28))] then
        bif v_38 then
          some (.inr (.inl (Bool.false, ())))
        else
          let v_39 : Int := List.getD (Prod.fst pb_30) (Int.toNat (0 : Int)) (0 : Int)
          let pivots_42 : Int := Go.Ab.bitsOp Go.BinOp.or Go.IntKind.u32 pivots_25 (Go.IntKind.wrap Go.IntKind.u32 ((1 : Int) * (2 : Int) ^ Min.min (Int.toNat v_39) (Go.IntKind.bits Go.IntKind.u32)))
          bif allB [Decidable.decide ((0 : Int) ≤ v_39), Bool.true, Decidable.decide ((0 : Int) < v_31)] then
            let v_43 : Int := Go.IntKind.wrap Go.IntKind.i64 (v_24 + (1 : Int))
            some (.inl ((v_43, pivots_42, (), v_26, v_27), ls_28))
          else none
      else none
    else none
  else
    some (.inr (.inr ((pivots_25, ()), ls_28)))
def Wh.impl_SolverOk_l0_y : (((Bool)) × (Unit)) ⊕ (((Int) × (Unit)) × ((tImplSolver.D))) := .inl default
def Wh.impl_SolverOk (xs : (tImplSolver.D)) : Option (((Bool)) × (Unit)) :=
  let s_0 : tImplSolver.D := xs
  let v_1 : Bool := Prod.fst (Wh.impl_within' (Prod.fst s_0, (1 : Int), (24 : Int)))
  let v_2 : Bool := bif !v_1 then Bool.true else !Prod.fst (Wh.impl_within' (Prod.fst (Prod.snd s_0), (1 : Int), (16 : Int)))
  bif allB [!!!v_1 || Go.Ab.isSm (Wh.impl_within (Prod.fst (Prod.snd s_0), (1 : Int), (16 : Int))), Go.Ab.isSm (Wh.impl_within (Prod.fst s_0, (1 : Int), (24 : Int)))] then
    bif v_2 then
      some (Bool.false, ())
    else
      let v_3 : Int := (↑(List.length (Prod.fst (Prod.snd (Prod.snd s_0)))) : Int)
      let x_44 : ((Int) × (Int) × (Unit) × (List (tImplEq.D)) × (Int)) × ((tImplSolver.D)) := (((0 : Int), (0 : Int), (), Prod.fst (Prod.snd (Prod.snd s_0)), v_3), s_0)
      bif comesB Wh.impl_SolverOk_l0 x_44 then
        sumC (comesV Wh.impl_SolverOk_l0 Wh.impl_SolverOk_l0_y x_44) (fun y_45 =>
          let v_47 : Bool := Prod.fst y_45
          some (v_47, ())) (fun z_46 =>
          let pivots_48 : Int := Prod.fst (Prod.fst z_46)
          let ls_49 : tImplSolver.D := Prod.snd z_46
          let v_50 : Int := (↑(List.length (Prod.fst (Prod.snd (Prod.snd ls_49)))) : Int)
          let x_71 : ((Int) × (Int) × (List (tImplEq.D)) × (Int)) × (Unit) := (((0 : Int), pivots_48, Prod.fst (Prod.snd (Prod.snd ls_49)), v_50), ())
          bif comesB Wh.impl_SolverOk_l1 x_71 then
            sumC (comesV Wh.impl_SolverOk_l1 Wh.impl_SolverOk_l1_y x_71) (fun y_72 =>
              let v_74 : Bool := Prod.fst y_72
              some (v_74, ())) (fun _ =>
              some (Bool.true, ()))
          else none)
      else none
  else none
def Wh.impl_SolverOk' (xs : (tImplSolver.D)) : ((Bool)) × (Unit) := match Wh.impl_SolverOk xs with | some y => y | none => default
theorem Wh.impl_SolverOk_v (x : (tImplSolver.D)) (y : ((Bool)) × (Unit)) (h : Wh.impl_SolverOk x = some y) : Wh.impl_SolverOk' x = y := by unfold Wh.impl_SolverOk'; rw [h]

def Wh.impl_GetOk (xs : (tImplGetting.D)) : Option (((Bool)) × (Unit)) :=
  let g_0 : tImplGetting.D := xs
  let v_1 : Bool := Prod.fst (Wh.impl_PlanOk' (Prod.fst g_0))
  let v_7 : Bool := bif bif bif v_1 then Prod.fst (Wh.impl_SolverOk' (Prod.fst (Prod.snd g_0))) else Bool.false then Prod.fst (Prod.fst (Prod.snd g_0)) == Prod.fst (Wh.impl_Plan_count' (Prod.fst g_0)) else Bool.false then Prod.fst (Prod.snd (Prod.fst (Prod.snd g_0))) == Prod.fst (Prod.snd (Prod.fst g_0)) else Bool.false
  bif allB [(!bif v_1 then Prod.fst (Wh.impl_SolverOk' (Prod.fst (Prod.snd g_0))) else Bool.false) || Go.Ab.isSm (Wh.impl_Plan_count (Prod.fst g_0)), !v_1 || Go.Ab.isSm (Wh.impl_SolverOk (Prod.fst (Prod.snd g_0))), Go.Ab.isSm (Wh.impl_PlanOk (Prod.fst g_0))] then
    some (v_7, ())
  else none
def Wh.impl_GetOk' (xs : (tImplGetting.D)) : ((Bool)) × (Unit) := match Wh.impl_GetOk xs with | some y => y | none => default
theorem Wh.impl_GetOk_v (x : (tImplGetting.D)) (y : ((Bool)) × (Unit)) (h : Wh.impl_GetOk x = some y) : Wh.impl_GetOk' x = y := by unfold Wh.impl_GetOk'; rw [h]

def Wh.impl_NameOk_l0 (x : ((Int) × (List UInt8) × (Int)) × (Unit)) : Option ((((Int) × (List UInt8) × (Int)) × (Unit)) ⊕ ((((Bool)) × (Unit)) ⊕ (((List UInt8)) × (Unit)))) :=
  let v_10 : Int := Prod.fst (Prod.fst x)
  let text_11 : List UInt8 := Prod.fst (Prod.snd (Prod.fst x))
  let v_12 : Int := Prod.snd (Prod.snd (Prod.fst x))
  let v_13 : Bool := Decidable.decide (v_10 < v_12)
  bif v_13 then
    let v_14 : Int := (↑(UInt8.toNat (List.getD text_11 (Int.toNat v_10) (0 : UInt8))) : Int)
    let v_17 : Bool := bif Decidable.decide (v_14 < (97 : Int)) then Bool.true else Decidable.decide (v_14 > (122 : Int))
    bif allB [!!Decidable.decide (v_14 < (97 : Int)) || Decidable.decide ((0 : Int) ≤ v_10), !!Decidable.decide (v_14 < (97 : Int)) || Decidable.decide (v_10 < (↑(List.length text_11) : Int)), Decidable.decide ((0 : Int) ≤ v_10), Decidable.decide (v_10 < (↑(List.length text_11) : Int))] then
      bif v_17 then
        some (.inr (.inl (Bool.false, ())))
      else
        let v_18 : Int := Go.IntKind.wrap Go.IntKind.i64 (v_10 + (1 : Int))
        some (.inl ((v_18, text_11, v_12), ()))
    else none
  else
    some (.inr (.inr (text_11, ())))
def Wh.impl_NameOk_l0_y : (((Bool)) × (Unit)) ⊕ (((List UInt8)) × (Unit)) := .inl default
def Wh.impl_NameOk (xs : (List UInt8)) : Option (((Bool)) × (Unit)) :=
  let text_0 : List UInt8 := xs
  let x_19 : ((Int) × (List UInt8) × (Int)) × (Unit) := (((0 : Int), text_0, (↑(List.length text_0) : Int)), ())
  bif comesB Wh.impl_NameOk_l0 x_19 then
    sumC (comesV Wh.impl_NameOk_l0 Wh.impl_NameOk_l0_y x_19) (fun y_20 =>
      let v_22 : Bool := Prod.fst y_20
      some (v_22, ())) (fun z_21 =>
      let text_23 : List UInt8 := Prod.fst z_21
      let v_24 : Bool := Prod.fst (Wh.impl_within' ((↑(List.length text_23) : Int), (1 : Int), (6 : Int)))
      bif allB [Go.Ab.isSm (Wh.impl_within ((↑(List.length text_23) : Int), (1 : Int), (6 : Int)))] then
        some (v_24, ())
      else none)
  else none
def Wh.impl_NameOk' (xs : (List UInt8)) : ((Bool)) × (Unit) := match Wh.impl_NameOk xs with | some y => y | none => default
theorem Wh.impl_NameOk_v (x : (List UInt8)) (y : ((Bool)) × (Unit)) (h : Wh.impl_NameOk x = some y) : Wh.impl_NameOk' x = y := by unfold Wh.impl_NameOk'; rw [h]

def Wh.impl_Solver_get_l0 (x : ((Int) × (Int) × (List (tImplEq.D)) × (Int)) × (Unit)) : Option ((((Int) × (Int) × (List (tImplEq.D)) × (Int)) × (Unit)) ⊕ ((((List UInt8) × (Bool)) × (Unit)) ⊕ ((Unit) × (Unit)))) :=
  let v_14 : Int := Prod.fst (Prod.fst x)
  let at_15 : Int := Prod.fst (Prod.snd (Prod.fst x))
  let v_16 : List (tImplEq.D) := Prod.fst (Prod.snd (Prod.snd (Prod.fst x)))
  let v_17 : Int := Prod.snd (Prod.snd (Prod.snd (Prod.fst x)))
  let v_18 : Bool := Decidable.decide (v_14 < v_17)
  bif v_18 then
    let pb_19 : tImplEq.D := List.getD v_16 (Int.toNat v_14) ([], [], ())
    bif allB [Decidable.decide ((0 : Int) ≤ v_14), Decidable.decide (v_14 < (↑(List.length v_16) : Int))] then
      let v_20 : Int := (↑(List.length (Prod.fst pb_19)) : Int)
      let v_23 : Bool := bif v_20 == (1 : Int) then List.getD (Prod.fst pb_19) (Int.toNat (0 : Int)) (0 : Int) == at_15 else Bool.false
      bif allB [!v_20 == (1 : Int) || Decidable.decide ((0 : Int) ≤ (0 : Int)), !v_20 == (1 : Int) || Decidable.decide ((0 : Int) < v_20)] then
        bif v_23 then
          some (.inr (.inl ((Prod.fst (Prod.snd pb_19), Bool.true), ())))
        else
          let v_24 : Int := Go.IntKind.wrap Go.IntKind.i64 (v_14 + (1 : Int))
          some (.inl ((v_24, at_15, v_16, v_17), ()))
      else none
    else none
  else
    some (.inr (.inr ((), ())))
def Wh.impl_Solver_get_l0_y : (((List UInt8) × (Bool)) × (Unit)) ⊕ ((Unit) × (Unit)) := .inl default
def Wh.impl_Solver_get (xs : (tImplSolver.D) × (Int)) : Option (((List UInt8) × (Bool)) × (Unit)) :=
  let s_0 : tImplSolver.D := Prod.fst xs
  let at_1 : Int := Prod.snd xs
  let v_2 : Int := (↑(List.length (Prod.fst (Prod.snd (Prod.snd s_0)))) : Int)
  let x_25 : ((Int) × (Int) × (List (tImplEq.D)) × (Int)) × (Unit) := (((0 : Int), at_1, Prod.fst (Prod.snd (Prod.snd s_0)), v_2), ())
  bif comesB Wh.impl_Solver_get_l0 x_25 then
    sumC (comesV Wh.impl_Solver_get_l0 Wh.impl_Solver_get_l0_y x_25) (fun y_26 =>
      let v_28 : List UInt8 := Prod.fst (Prod.fst y_26)
      let v_29 : Bool := Prod.snd (Prod.fst y_26)
      some ((v_28, v_29), ())) (fun _ =>
      some (([], Bool.false), ()))
  else none
def Wh.impl_Solver_get' (xs : (tImplSolver.D) × (Int)) : ((List UInt8) × (Bool)) × (Unit) := match Wh.impl_Solver_get xs with | some y => y | none => default
theorem Wh.impl_Solver_get_v (x : (tImplSolver.D) × (Int)) (y : ((List UInt8) × (Bool)) × (Unit)) (h : Wh.impl_Solver_get x = some y) : Wh.impl_Solver_get' x = y := by unfold Wh.impl_Solver_get'; rw [h]

def Wh.impl_Solver_prefix_l0 (x : ((Int) × (Unit)) × ((tImplSolver.D))) : Option ((((Int) × (Unit)) × ((tImplSolver.D))) ⊕ ((((Int)) × (Unit)))) :=
  let n_7 : Int := Prod.fst (Prod.fst x)
  let ls_8 : tImplSolver.D := Prod.snd x
  let v_9 : Bool := Decidable.decide (n_7 < Prod.fst ls_8)
  bif v_9 then
    let v_10 : Bool := Prod.snd (Prod.fst (Wh.impl_Solver_get' (ls_8, n_7)))
    bif allB [Go.Ab.isSm (Wh.impl_Solver_get (ls_8, n_7))] then
      bif !v_10 then
        some (.inr (n_7, ()))
      else
        let v_12 : Int := Go.IntKind.wrap Go.IntKind.i64 (n_7 + (1 : Int))
        some (.inl ((v_12, ()), ls_8))
    else none
  else
    some (.inr (n_7, ()))
def Wh.impl_Solver_prefix_l0_y : (((Int)) × (Unit)) := default
def Wh.impl_Solver_prefix (xs : (tImplSolver.D)) : Option (((Int)) × (Unit)) :=
  let s_0 : tImplSolver.D := xs
  let x_13 : ((Int) × (Unit)) × ((tImplSolver.D)) := (((0 : Int), ()), s_0)
  bif comesB Wh.impl_Solver_prefix_l0 x_13 then
    let y_14 := comesV Wh.impl_Solver_prefix_l0 Wh.impl_Solver_prefix_l0_y x_13
    let n_15 : Int := Prod.fst y_14
    some (n_15, ())
  else none
def Wh.impl_Solver_prefix' (xs : (tImplSolver.D)) : ((Int)) × (Unit) := match Wh.impl_Solver_prefix xs with | some y => y | none => default
theorem Wh.impl_Solver_prefix_v (x : (tImplSolver.D)) (y : ((Int)) × (Unit)) (h : Wh.impl_Solver_prefix x = some y) : Wh.impl_Solver_prefix' x = y := by unfold Wh.impl_Solver_prefix'; rw [h]

def Wh.impl_Getting_done (xs : (tImplGetting.D)) : Option (((Bool)) × (Unit)) :=
  let g_0 : tImplGetting.D := xs
  let v_1 : Int := Prod.fst (Wh.impl_Solver_prefix' (Prod.fst (Prod.snd g_0)))
  let v_3 : Bool := v_1 == Prod.fst (Prod.fst (Prod.snd g_0))
  bif allB [Go.Ab.isSm (Wh.impl_Solver_prefix (Prod.fst (Prod.snd g_0)))] then
    some (v_3, ())
  else none
def Wh.impl_Getting_done' (xs : (tImplGetting.D)) : ((Bool)) × (Unit) := match Wh.impl_Getting_done xs with | some y => y | none => default
theorem Wh.impl_Getting_done_v (x : (tImplGetting.D)) (y : ((Bool)) × (Unit)) (h : Wh.impl_Getting_done x = some y) : Wh.impl_Getting_done' x = y := by unfold Wh.impl_Getting_done'; rw [h]

def Wh.impl_ClientOk (xs : (tImplClient.D)) : Option (((Bool)) × (Unit)) :=
  let c_0 : tImplClient.D := xs
  let v_1 : Bool := Prod.fst (Wh.impl_clientOf' (Prod.fst c_0))
  let v_4 : Bool := bif bif !v_1 then Bool.true else !Prod.fst (Wh.impl_within' (Prod.fst (Prod.snd c_0), (0 : Int), (99999 : Int))) then Bool.true else !Prod.fst (Wh.impl_within' (Prod.fst (Prod.snd (Prod.snd (Prod.snd (Prod.snd c_0)))), (0 : Int), (99999 : Int)))
  bif allB [(!!bif !v_1 then Bool.true else !Prod.fst (Wh.impl_within' (Prod.fst (Prod.snd c_0), (0 : Int), (99999 : Int)))) || Go.Ab.isSm (Wh.impl_within (Prod.fst (Prod.snd (Prod.snd (Prod.snd (Prod.snd c_0)))), (0 : Int), (99999 : Int))), !!!v_1 || Go.Ab.isSm (Wh.impl_within (Prod.fst (Prod.snd c_0), (0 : Int), (99999 : Int))), Go.Ab.isSm (Wh.impl_clientOf (Prod.fst c_0))] then
    bif v_4 then
      some (Bool.false, ())
    else
      let v_5 : Bool := Decidable.decide (Prod.fst (Prod.snd (Prod.snd (Prod.snd (Prod.snd c_0)))) > (0 : Int))
      let v_6 : Bool := bif !v_5 then !Prod.fst (Wh.impl_noGet' (Prod.fst (Prod.snd (Prod.snd (Prod.snd (Prod.snd (Prod.snd c_0))))))) else Bool.false
      let v_7 : Bool := bif v_6 then Bool.true else bif v_5 then !Prod.fst (Wh.impl_GetOk' (Prod.fst (Prod.snd (Prod.snd (Prod.snd (Prod.snd (Prod.snd c_0))))))) else Bool.false
      bif allB [!(v_5 && !v_6) || Go.Ab.isSm (Wh.impl_GetOk (Prod.fst (Prod.snd (Prod.snd (Prod.snd (Prod.snd (Prod.snd c_0))))))), !!v_5 || Go.Ab.isSm (Wh.impl_noGet (Prod.fst (Prod.snd (Prod.snd (Prod.snd (Prod.snd (Prod.snd c_0)))))))] then
        bif v_7 then
          some (Bool.false, ())
        else
          let v_8 : Bool := Prod.fst (Prod.snd (Prod.snd c_0)) == (0 : Int)
          bif v_8 then
            let v_9 : Bool := Prod.fst (Prod.snd (Prod.snd (Prod.snd c_0))) == []
            some (bif v_9 then !v_5 else Bool.false, ())
          else
            let v_10 : Bool := Prod.fst (Prod.snd c_0) == (0 : Int)
            let v_11 : Bool := bif v_10 then Bool.true else !Prod.fst (Wh.impl_NameOk' (Prod.fst (Prod.snd (Prod.snd (Prod.snd c_0)))))
            bif allB [!!v_10 || Go.Ab.isSm (Wh.impl_NameOk (Prod.fst (Prod.snd (Prod.snd (Prod.snd c_0)))))] then
              bif v_11 then
                some (Bool.false, ())
              else
                let v_12 : Bool := Prod.fst (Prod.snd (Prod.snd c_0)) == (1 : Int)
                bif v_12 then
                  bif v_12 then
                    let v_13 : Bool := bif !v_5 then Bool.true else !Prod.fst (Wh.impl_Getting_done' (Prod.fst (Prod.snd (Prod.snd (Prod.snd (Prod.snd (Prod.snd c_0)))))))
                    bif allB [!!!v_5 || Go.Ab.isSm (Wh.impl_Getting_done (Prod.fst (Prod.snd (Prod.snd (Prod.snd (Prod.snd (Prod.snd c_0)))))))] then
                      some (v_13, ())
                    else none
                  else
                    let v_14 : Bool := Prod.fst (Prod.snd (Prod.snd c_0)) == (2 : Int)
                    bif v_14 then
                      let v_15 : Bool := bif v_5 then !Prod.fst (Wh.impl_Getting_done' (Prod.fst (Prod.snd (Prod.snd (Prod.snd (Prod.snd (Prod.snd c_0))))))) else Bool.false
                      bif allB [!v_5 || Go.Ab.isSm (Wh.impl_Getting_done (Prod.fst (Prod.snd (Prod.snd (Prod.snd (Prod.snd (Prod.snd c_0)))))))] then
                        some (v_15, ())
                      else none
                    else
                      let v_16 : Bool := Prod.fst (Prod.snd (Prod.snd c_0)) == (3 : Int)
                      bif v_16 then
                        let v_17 : Bool := bif v_5 then Prod.fst (Wh.impl_Getting_done' (Prod.fst (Prod.snd (Prod.snd (Prod.snd (Prod.snd (Prod.snd c_0))))))) else Bool.false
                        bif allB [!v_5 || Go.Ab.isSm (Wh.impl_Getting_done (Prod.fst (Prod.snd (Prod.snd (Prod.snd (Prod.snd (Prod.snd c_0)))))))] then
                          some (v_17, ())
                        else none
                      else
                        some (Bool.false, ())
                else
                  let v_18 : Bool := Prod.fst (Prod.snd (Prod.snd c_0)) == (4 : Int)
                  bif v_18 then
                    let v_19 : Bool := bif !v_5 then Bool.true else !Prod.fst (Wh.impl_Getting_done' (Prod.fst (Prod.snd (Prod.snd (Prod.snd (Prod.snd (Prod.snd c_0)))))))
                    bif allB [!!!v_5 || Go.Ab.isSm (Wh.impl_Getting_done (Prod.fst (Prod.snd (Prod.snd (Prod.snd (Prod.snd (Prod.snd c_0)))))))] then
                      some (v_19, ())
                    else none
                  else
                    let v_20 : Bool := Prod.fst (Prod.snd (Prod.snd c_0)) == (2 : Int)
                    bif v_20 then
                      let v_21 : Bool := bif v_5 then !Prod.fst (Wh.impl_Getting_done' (Prod.fst (Prod.snd (Prod.snd (Prod.snd (Prod.snd (Prod.snd c_0))))))) else Bool.false
                      bif allB [!v_5 || Go.Ab.isSm (Wh.impl_Getting_done (Prod.fst (Prod.snd (Prod.snd (Prod.snd (Prod.snd (Prod.snd c_0)))))))] then
                        some (v_21, ())
                      else none
                    else
                      let v_22 : Bool := Prod.fst (Prod.snd (Prod.snd c_0)) == (3 : Int)
                      bif v_22 then
                        let v_23 : Bool := bif v_5 then Prod.fst (Wh.impl_Getting_done' (Prod.fst (Prod.snd (Prod.snd (Prod.snd (Prod.snd (Prod.snd c_0))))))) else Bool.false
                        bif allB [!v_5 || Go.Ab.isSm (Wh.impl_Getting_done (Prod.fst (Prod.snd (Prod.snd (Prod.snd (Prod.snd (Prod.snd c_0)))))))] then
                          some (v_23, ())
                        else none
                      else
                        some (Bool.false, ())
            else none
      else none
  else none
def Wh.impl_ClientOk' (xs : (tImplClient.D)) : ((Bool)) × (Unit) := match Wh.impl_ClientOk xs with | some y => y | none => default
theorem Wh.impl_ClientOk_v (x : (tImplClient.D)) (y : ((Bool)) × (Unit)) (h : Wh.impl_ClientOk x = some y) : Wh.impl_ClientOk' x = y := by unfold Wh.impl_ClientOk'; rw [h]

def Wh.impl_Client_request (xs : (tImplClient.D)) : Option (((List (tImplWord.D))) × (Unit)) :=
  let c_0 : tImplClient.D := xs
  let pb_1 : List (tImplWord.D) := [((1 : Int), Prod.fst c_0, Prod.fst (Prod.snd c_0), Prod.fst (Prod.snd (Prod.snd (Prod.snd (Prod.snd c_0)))), (0 : Int), Prod.fst (Prod.snd (Prod.snd (Prod.snd c_0))), [], ())]
  some (pb_1, ())
def Wh.impl_Client_request' (xs : (tImplClient.D)) : ((List (tImplWord.D))) × (Unit) := match Wh.impl_Client_request xs with | some y => y | none => default
theorem Wh.impl_Client_request_v (x : (tImplClient.D)) (y : ((List (tImplWord.D))) × (Unit)) (h : Wh.impl_Client_request x = some y) : Wh.impl_Client_request' x = y := by unfold Wh.impl_Client_request'; rw [h]

def Wh.laws_eqWord (xs : (tImplWord.D) × (tImplWord.D)) : Option (((Bool)) × (Unit)) :=
  let a_0 : tImplWord.D := Prod.fst xs
  let b_1 : tImplWord.D := Prod.snd xs
  let v_2 : Bool := Prod.fst a_0 != Prod.fst b_1
  bif v_2 then
    some (Bool.false, ())
  else
    let v_3 : Bool := Prod.fst (Prod.snd a_0) != Prod.fst (Prod.snd b_1)
    bif v_3 then
      some (Bool.false, ())
    else
      let v_4 : Bool := Prod.fst (Prod.snd (Prod.snd a_0)) != Prod.fst (Prod.snd (Prod.snd b_1))
      bif v_4 then
        some (Bool.false, ())
      else
        let v_5 : Bool := Prod.fst (Prod.snd (Prod.snd (Prod.snd a_0))) != Prod.fst (Prod.snd (Prod.snd (Prod.snd b_1)))
        bif v_5 then
          some (Bool.false, ())
        else
          let v_6 : Bool := Prod.fst (Prod.snd (Prod.snd (Prod.snd (Prod.snd a_0)))) != Prod.fst (Prod.snd (Prod.snd (Prod.snd (Prod.snd b_1))))
          bif v_6 then
            some (Bool.false, ())
          else
            let v_7 : Bool := !Prod.fst (Prod.snd (Prod.snd (Prod.snd (Prod.snd (Prod.snd a_0))))) == Prod.fst (Prod.snd (Prod.snd (Prod.snd (Prod.snd (Prod.snd b_1)))))
            bif v_7 then
              some (Bool.false, ())
            else
              let v_8 : Bool := !Prod.fst (Prod.snd (Prod.snd (Prod.snd (Prod.snd (Prod.snd (Prod.snd a_0)))))) == Prod.fst (Prod.snd (Prod.snd (Prod.snd (Prod.snd (Prod.snd (Prod.snd b_1))))))
              bif v_8 then
                some (Bool.false, ())
              else
                some (Bool.true, ())
def Wh.laws_eqWord' (xs : (tImplWord.D) × (tImplWord.D)) : ((Bool)) × (Unit) := match Wh.laws_eqWord xs with | some y => y | none => default
theorem Wh.laws_eqWord_v (x : (tImplWord.D) × (tImplWord.D)) (y : ((Bool)) × (Unit)) (h : Wh.laws_eqWord x = some y) : Wh.laws_eqWord' x = y := by unfold Wh.laws_eqWord'; rw [h]

def Wh.laws_eqWordS_l0 (x : ((Int) × (List (tImplWord.D)) × (List (tImplWord.D))) × (Unit)) : Option ((((Int) × (List (tImplWord.D)) × (List (tImplWord.D))) × (Unit)) ⊕ ((((Bool)) × (Unit)) ⊕ ((Unit) × (Unit)))) :=
  let i_15 : Int := Prod.fst (Prod.fst x)
  let b_16 : List (tImplWord.D) := Prod.fst (Prod.snd (Prod.fst x))
  let a_17 : List (tImplWord.D) := Prod.snd (Prod.snd (Prod.fst x))
  let v_18 : Int := (↑(List.length a_17) : Int)
  let v_19 : Bool := Decidable.decide (i_15 < v_18)
  bif v_19 then
    let v_20 : tImplWord.D := List.getD a_17 (Int.toNat i_15) ((0 : Int), (0 : Int), (0 : Int), (0 : Int), (0 : Int), [], [], ())
    let v_21 : tImplWord.D := List.getD b_16 (Int.toNat i_15) ((0 : Int), (0 : Int), (0 : Int), (0 : Int), (0 : Int), [], [], ())
    let v_23 : Bool := !Prod.fst (Wh.laws_eqWord' (v_20, v_21))
    bif allB [Go.Ab.isSm (Wh.laws_eqWord (v_20, v_21)), Decidable.decide ((0 : Int) ≤ i_15), Decidable.decide (i_15 < (↑(List.length b_16) : Int)), Decidable.decide ((0 : Int) ≤ i_15), Decidable.decide (i_15 < v_18)] then
      bif v_23 then
        some (.inr (.inl (Bool.false, ())))
      else
        let v_24 : Int := Go.IntKind.wrap Go.IntKind.i64 (i_15 + (1 : Int))
        some (.inl ((v_24, b_16, a_17), ()))
    else none
  else
    some (.inr (.inr ((), ())))
def Wh.laws_eqWordS_l0_y : (((Bool)) × (Unit)) ⊕ ((Unit) × (Unit)) := .inl default
def Wh.laws_eqWordS (xs : (List (tImplWord.D)) × (List (tImplWord.D))) : Option (((Bool)) × (Unit)) :=
  let a_0 : List (tImplWord.D) := Prod.fst xs
  let b_1 : List (tImplWord.D) := Prod.snd xs
  let v_2 : Int := (↑(List.length a_0) : Int)
  let v_3 : Int := (↑(List.length b_1) : Int)
  let v_4 : Bool := v_2 != v_3
  bif v_4 then
    some (Bool.false, ())
  else
    let x_25 : ((Int) × (List (tImplWord.D)) × (List (tImplWord.D))) × (Unit) := (((0 : Int), b_1, a_0), ())
    bif comesB Wh.laws_eqWordS_l0 x_25 then
      sumC (comesV Wh.laws_eqWordS_l0 Wh.laws_eqWordS_l0_y x_25) (fun y_26 =>
        let v_28 : Bool := Prod.fst y_26
        some (v_28, ())) (fun _ =>
        some (Bool.true, ()))
    else none
def Wh.laws_eqWordS' (xs : (List (tImplWord.D)) × (List (tImplWord.D))) : ((Bool)) × (Unit) := match Wh.laws_eqWordS xs with | some y => y | none => default
theorem Wh.laws_eqWordS_v (x : (List (tImplWord.D)) × (List (tImplWord.D))) (y : ((Bool)) × (Unit)) (h : Wh.laws_eqWordS x = some y) : Wh.laws_eqWordS' x = y := by unfold Wh.laws_eqWordS'; rw [h]

def Wh.laws_eqIntS_l0 (x : ((Int) × (List (Int)) × (List (Int))) × (Unit)) : Option ((((Int) × (List (Int)) × (List (Int))) × (Unit)) ⊕ ((((Bool)) × (Unit)) ⊕ ((Unit) × (Unit)))) :=
  let i_11 : Int := Prod.fst (Prod.fst x)
  let b_12 : List Int := Prod.fst (Prod.snd (Prod.fst x))
  let a_13 : List Int := Prod.snd (Prod.snd (Prod.fst x))
  let v_14 : Bool := Decidable.decide (i_11 < (↑(List.length a_13) : Int))
  bif v_14 then
    let v_15 : Int := List.getD a_13 (Int.toNat i_11) (0 : Int)
    let v_16 : Int := List.getD b_12 (Int.toNat i_11) (0 : Int)
    let v_17 : Bool := v_15 != v_16
    bif allB [Decidable.decide ((0 : Int) ≤ i_11), Decidable.decide (i_11 < (↑(List.length b_12) : Int)), Decidable.decide ((0 : Int) ≤ i_11), v_14] then
      bif v_17 then
        some (.inr (.inl (Bool.false, ())))
      else
        let v_18 : Int := Go.IntKind.wrap Go.IntKind.i64 (i_11 + (1 : Int))
        some (.inl ((v_18, b_12, a_13), ()))
    else none
  else
    some (.inr (.inr ((), ())))
def Wh.laws_eqIntS_l0_y : (((Bool)) × (Unit)) ⊕ ((Unit) × (Unit)) := .inl default
def Wh.laws_eqIntS (xs : (List (Int)) × (List (Int))) : Option (((Bool)) × (Unit)) :=
  let a_0 : List Int := Prod.fst xs
  let b_1 : List Int := Prod.snd xs
  let v_2 : Bool := (↑(List.length a_0) : Int) != (↑(List.length b_1) : Int)
  bif v_2 then
    some (Bool.false, ())
  else
    let x_19 : ((Int) × (List (Int)) × (List (Int))) × (Unit) := (((0 : Int), b_1, a_0), ())
    bif comesB Wh.laws_eqIntS_l0 x_19 then
      sumC (comesV Wh.laws_eqIntS_l0 Wh.laws_eqIntS_l0_y x_19) (fun y_20 =>
        let v_22 : Bool := Prod.fst y_20
        some (v_22, ())) (fun _ =>
        some (Bool.true, ()))
    else none
def Wh.laws_eqIntS' (xs : (List (Int)) × (List (Int))) : ((Bool)) × (Unit) := match Wh.laws_eqIntS xs with | some y => y | none => default
theorem Wh.laws_eqIntS_v (x : (List (Int)) × (List (Int))) (y : ((Bool)) × (Unit)) (h : Wh.laws_eqIntS x = some y) : Wh.laws_eqIntS' x = y := by unfold Wh.laws_eqIntS'; rw [h]

def Wh.laws_eqPlan (xs : (tImplPlan.D) × (tImplPlan.D)) : Option (((Bool)) × (Unit)) :=
  let a_0 : tImplPlan.D := Prod.fst xs
  let b_1 : tImplPlan.D := Prod.snd xs
  let v_2 : Bool := Prod.fst a_0 != Prod.fst b_1
  bif v_2 then
    some (Bool.false, ())
  else
    let v_3 : Bool := Prod.fst (Prod.snd a_0) != Prod.fst (Prod.snd b_1)
    bif v_3 then
      some (Bool.false, ())
    else
      let v_4 : Bool := Prod.fst (Wh.laws_eqIntS' (Prod.fst (Prod.snd (Prod.snd a_0)), Prod.fst (Prod.snd (Prod.snd b_1))))
      bif allB [Go.Ab.isSm (Wh.laws_eqIntS (Prod.fst (Prod.snd (Prod.snd a_0)), Prod.fst (Prod.snd (Prod.snd b_1))))] then
        bif !v_4 then
          some (Bool.false, ())
        else
          let v_5 : Bool := Prod.fst (Wh.laws_eqIntS' (Prod.fst (Prod.snd (Prod.snd (Prod.snd a_0))), Prod.fst (Prod.snd (Prod.snd (Prod.snd b_1)))))
          bif allB [Go.Ab.isSm (Wh.laws_eqIntS (Prod.fst (Prod.snd (Prod.snd (Prod.snd a_0))), Prod.fst (Prod.snd (Prod.snd (Prod.snd b_1)))))] then
            bif !v_5 then
              some (Bool.false, ())
            else
              some (Bool.true, ())
          else none
      else none
def Wh.laws_eqPlan' (xs : (tImplPlan.D) × (tImplPlan.D)) : ((Bool)) × (Unit) := match Wh.laws_eqPlan xs with | some y => y | none => default
theorem Wh.laws_eqPlan_v (x : (tImplPlan.D) × (tImplPlan.D)) (y : ((Bool)) × (Unit)) (h : Wh.laws_eqPlan x = some y) : Wh.laws_eqPlan' x = y := by unfold Wh.laws_eqPlan'; rw [h]

def Wh.laws_eqEq (xs : (tImplEq.D) × (tImplEq.D)) : Option (((Bool)) × (Unit)) :=
  let a_0 : tImplEq.D := Prod.fst xs
  let b_1 : tImplEq.D := Prod.snd xs
  let v_2 : Bool := Prod.fst (Wh.laws_eqIntS' (Prod.fst a_0, Prod.fst b_1))
  bif allB [Go.Ab.isSm (Wh.laws_eqIntS (Prod.fst a_0, Prod.fst b_1))] then
    bif !v_2 then
      some (Bool.false, ())
    else
      let v_3 : Bool := !Prod.fst (Prod.snd a_0) == Prod.fst (Prod.snd b_1)
      bif v_3 then
        some (Bool.false, ())
      else
        some (Bool.true, ())
  else none
def Wh.laws_eqEq' (xs : (tImplEq.D) × (tImplEq.D)) : ((Bool)) × (Unit) := match Wh.laws_eqEq xs with | some y => y | none => default
theorem Wh.laws_eqEq_v (x : (tImplEq.D) × (tImplEq.D)) (y : ((Bool)) × (Unit)) (h : Wh.laws_eqEq x = some y) : Wh.laws_eqEq' x = y := by unfold Wh.laws_eqEq'; rw [h]

def Wh.laws_eqEqS_l0 (x : ((Int) × (List (tImplEq.D)) × (List (tImplEq.D))) × (Unit)) : Option ((((Int) × (List (tImplEq.D)) × (List (tImplEq.D))) × (Unit)) ⊕ ((((Bool)) × (Unit)) ⊕ ((Unit) × (Unit)))) :=
  let i_15 : Int := Prod.fst (Prod.fst x)
  let b_16 : List (tImplEq.D) := Prod.fst (Prod.snd (Prod.fst x))
  let a_17 : List (tImplEq.D) := Prod.snd (Prod.snd (Prod.fst x))
  let v_18 : Int := (↑(List.length a_17) : Int)
  let v_19 : Bool := Decidable.decide (i_15 < v_18)
  bif v_19 then
    let v_20 : tImplEq.D := List.getD a_17 (Int.toNat i_15) ([], [], ())
    let v_21 : tImplEq.D := List.getD b_16 (Int.toNat i_15) ([], [], ())
    let v_23 : Bool := !Prod.fst (Wh.laws_eqEq' (v_20, v_21))
    bif allB [Go.Ab.isSm (Wh.laws_eqEq (v_20, v_21)), Decidable.decide ((0 : Int) ≤ i_15), Decidable.decide (i_15 < (↑(List.length b_16) : Int)), Decidable.decide ((0 : Int) ≤ i_15), Decidable.decide (i_15 < v_18)] then
      bif v_23 then
        some (.inr (.inl (Bool.false, ())))
      else
        let v_24 : Int := Go.IntKind.wrap Go.IntKind.i64 (i_15 + (1 : Int))
        some (.inl ((v_24, b_16, a_17), ()))
    else none
  else
    some (.inr (.inr ((), ())))
def Wh.laws_eqEqS_l0_y : (((Bool)) × (Unit)) ⊕ ((Unit) × (Unit)) := .inl default
def Wh.laws_eqEqS (xs : (List (tImplEq.D)) × (List (tImplEq.D))) : Option (((Bool)) × (Unit)) :=
  let a_0 : List (tImplEq.D) := Prod.fst xs
  let b_1 : List (tImplEq.D) := Prod.snd xs
  let v_2 : Int := (↑(List.length a_0) : Int)
  let v_3 : Int := (↑(List.length b_1) : Int)
  let v_4 : Bool := v_2 != v_3
  bif v_4 then
    some (Bool.false, ())
  else
    let x_25 : ((Int) × (List (tImplEq.D)) × (List (tImplEq.D))) × (Unit) := (((0 : Int), b_1, a_0), ())
    bif comesB Wh.laws_eqEqS_l0 x_25 then
      sumC (comesV Wh.laws_eqEqS_l0 Wh.laws_eqEqS_l0_y x_25) (fun y_26 =>
        let v_28 : Bool := Prod.fst y_26
        some (v_28, ())) (fun _ =>
        some (Bool.true, ()))
    else none
def Wh.laws_eqEqS' (xs : (List (tImplEq.D)) × (List (tImplEq.D))) : ((Bool)) × (Unit) := match Wh.laws_eqEqS xs with | some y => y | none => default
theorem Wh.laws_eqEqS_v (x : (List (tImplEq.D)) × (List (tImplEq.D))) (y : ((Bool)) × (Unit)) (h : Wh.laws_eqEqS x = some y) : Wh.laws_eqEqS' x = y := by unfold Wh.laws_eqEqS'; rw [h]

def Wh.laws_eqSolver (xs : (tImplSolver.D) × (tImplSolver.D)) : Option (((Bool)) × (Unit)) :=
  let a_0 : tImplSolver.D := Prod.fst xs
  let b_1 : tImplSolver.D := Prod.snd xs
  let v_2 : Bool := Prod.fst a_0 != Prod.fst b_1
  bif v_2 then
    some (Bool.false, ())
  else
    let v_3 : Bool := Prod.fst (Prod.snd a_0) != Prod.fst (Prod.snd b_1)
    bif v_3 then
      some (Bool.false, ())
    else
      let v_4 : Bool := Prod.fst (Wh.laws_eqEqS' (Prod.fst (Prod.snd (Prod.snd a_0)), Prod.fst (Prod.snd (Prod.snd b_1))))
      bif allB [Go.Ab.isSm (Wh.laws_eqEqS (Prod.fst (Prod.snd (Prod.snd a_0)), Prod.fst (Prod.snd (Prod.snd b_1))))] then
        bif !v_4 then
          some (Bool.false, ())
        else
          some (Bool.true, ())
      else none
def Wh.laws_eqSolver' (xs : (tImplSolver.D) × (tImplSolver.D)) : ((Bool)) × (Unit) := match Wh.laws_eqSolver xs with | some y => y | none => default
theorem Wh.laws_eqSolver_v (x : (tImplSolver.D) × (tImplSolver.D)) (y : ((Bool)) × (Unit)) (h : Wh.laws_eqSolver x = some y) : Wh.laws_eqSolver' x = y := by unfold Wh.laws_eqSolver'; rw [h]

def Wh.laws_eqGetting (xs : (tImplGetting.D) × (tImplGetting.D)) : Option (((Bool)) × (Unit)) :=
  let a_0 : tImplGetting.D := Prod.fst xs
  let b_1 : tImplGetting.D := Prod.snd xs
  let v_2 : Bool := Prod.fst (Wh.laws_eqPlan' (Prod.fst a_0, Prod.fst b_1))
  bif allB [Go.Ab.isSm (Wh.laws_eqPlan (Prod.fst a_0, Prod.fst b_1))] then
    bif !v_2 then
      some (Bool.false, ())
    else
      let v_3 : Bool := Prod.fst (Wh.laws_eqSolver' (Prod.fst (Prod.snd a_0), Prod.fst (Prod.snd b_1)))
      bif allB [Go.Ab.isSm (Wh.laws_eqSolver (Prod.fst (Prod.snd a_0), Prod.fst (Prod.snd b_1)))] then
        bif !v_3 then
          some (Bool.false, ())
        else
          some (Bool.true, ())
      else none
  else none
def Wh.laws_eqGetting' (xs : (tImplGetting.D) × (tImplGetting.D)) : ((Bool)) × (Unit) := match Wh.laws_eqGetting xs with | some y => y | none => default
theorem Wh.laws_eqGetting_v (x : (tImplGetting.D) × (tImplGetting.D)) (y : ((Bool)) × (Unit)) (h : Wh.laws_eqGetting x = some y) : Wh.laws_eqGetting' x = y := by unfold Wh.laws_eqGetting'; rw [h]

def Wh.laws_eqClient (xs : (tImplClient.D) × (tImplClient.D)) : Option (((Bool)) × (Unit)) :=
  let a_0 : tImplClient.D := Prod.fst xs
  let b_1 : tImplClient.D := Prod.snd xs
  let v_2 : Bool := Prod.fst a_0 != Prod.fst b_1
  bif v_2 then
    some (Bool.false, ())
  else
    let v_3 : Bool := Prod.fst (Prod.snd a_0) != Prod.fst (Prod.snd b_1)
    bif v_3 then
      some (Bool.false, ())
    else
      let v_4 : Bool := Prod.fst (Prod.snd (Prod.snd a_0)) != Prod.fst (Prod.snd (Prod.snd b_1))
      bif v_4 then
        some (Bool.false, ())
      else
        let v_5 : Bool := !Prod.fst (Prod.snd (Prod.snd (Prod.snd a_0))) == Prod.fst (Prod.snd (Prod.snd (Prod.snd b_1)))
        bif v_5 then
          some (Bool.false, ())
        else
          let v_6 : Bool := Prod.fst (Prod.snd (Prod.snd (Prod.snd (Prod.snd a_0)))) != Prod.fst (Prod.snd (Prod.snd (Prod.snd (Prod.snd b_1))))
          bif v_6 then
            some (Bool.false, ())
          else
            let v_7 : Bool := Prod.fst (Wh.laws_eqGetting' (Prod.fst (Prod.snd (Prod.snd (Prod.snd (Prod.snd (Prod.snd a_0))))), Prod.fst (Prod.snd (Prod.snd (Prod.snd (Prod.snd (Prod.snd b_1)))))))
            bif allB [Go.Ab.isSm (Wh.laws_eqGetting (Prod.fst (Prod.snd (Prod.snd (Prod.snd (Prod.snd (Prod.snd a_0))))), Prod.fst (Prod.snd (Prod.snd (Prod.snd (Prod.snd (Prod.snd b_1)))))))] then
              bif !v_7 then
                some (Bool.false, ())
              else
                some (Bool.true, ())
            else none
def Wh.laws_eqClient' (xs : (tImplClient.D) × (tImplClient.D)) : ((Bool)) × (Unit) := match Wh.laws_eqClient xs with | some y => y | none => default
theorem Wh.laws_eqClient_v (x : (tImplClient.D) × (tImplClient.D)) (y : ((Bool)) × (Unit)) (h : Wh.laws_eqClient x = some y) : Wh.laws_eqClient' x = y := by unfold Wh.laws_eqClient'; rw [h]

def Wh.laws_markIntS_l0 (x : ((Int) × (Int) × (Unit)) × ((List (Int)))) : Option ((((Int) × (Int) × (Unit)) × ((List (Int)))) ⊕ ((((Int)) × ((List (Int)))))) :=
  let i_8 : Int := Prod.fst (Prod.fst x)
  let k_9 : Int := Prod.fst (Prod.snd (Prod.fst x))
  let pb_10 : List Int := Prod.snd x
  let v_11 : Bool := Decidable.decide (i_8 < (↑(List.length pb_10) : Int))
  bif v_11 then
    bif allB [Decidable.decide ((0 : Int) ≤ i_8), v_11] then
      let v_12 : Int := Go.IntKind.wrap Go.IntKind.i64 (k_9 + (1 : Int))
      let v_13 : Int := Go.IntKind.wrap Go.IntKind.i64 (i_8 + (1 : Int))
      some (.inl ((v_13, v_12, ()), List.set pb_10 (Int.toNat i_8) k_9))
    else none
  else
    some (.inr (k_9, pb_10))
def Wh.laws_markIntS_l0_y : (((Int)) × ((List (Int)))) := default
def Wh.laws_markIntS (xs : (List (Int)) × (Int)) : Option (((Int)) × ((List (Int)) × Unit)) :=
  let a_0 : List Int := Prod.fst xs
  let k_1 : Int := Prod.snd xs
  let x_14 : ((Int) × (Int) × (Unit)) × ((List (Int))) := (((0 : Int), k_1, ()), a_0)
  bif comesB Wh.laws_markIntS_l0 x_14 then
    let y_15 := comesV Wh.laws_markIntS_l0 Wh.laws_markIntS_l0_y x_14
    let k_16 : Int := Prod.fst y_15
    let pb_17 : List Int := Prod.snd y_15
    some (k_16, pb_17, ())
  else none
def Wh.laws_markIntS' (xs : (List (Int)) × (Int)) : ((Int)) × ((List (Int)) × Unit) := match Wh.laws_markIntS xs with | some y => y | none => default
theorem Wh.laws_markIntS_v (x : (List (Int)) × (Int)) (y : ((Int)) × ((List (Int)) × Unit)) (h : Wh.laws_markIntS x = some y) : Wh.laws_markIntS' x = y := by unfold Wh.laws_markIntS'; rw [h]

def Wh.laws_markPlan (xs : (tImplPlan.D) × (Int)) : Option (((Int)) × ((tImplPlan.D) × Unit)) :=
  let a_0 : tImplPlan.D := Prod.fst xs
  let k_1 : Int := Prod.snd xs
  let pb_2 : List Int := Prod.fst (Prod.snd (Wh.laws_markIntS' (Prod.fst (Prod.snd (Prod.snd a_0)), k_1)))
  let v_3 : Int := Prod.fst (Wh.laws_markIntS' (Prod.fst (Prod.snd (Prod.snd a_0)), k_1))
  bif allB [Go.Ab.isSm (Wh.laws_markIntS (Prod.fst (Prod.snd (Prod.snd a_0)), k_1))] then
    let pb_4 : List Int := Prod.fst (Prod.snd (Wh.laws_markIntS' (Prod.fst (Prod.snd (Prod.snd (Prod.snd a_0))), v_3)))
    let v_5 : Int := Prod.fst (Wh.laws_markIntS' (Prod.fst (Prod.snd (Prod.snd (Prod.snd a_0))), v_3))
    bif allB [Go.Ab.isSm (Wh.laws_markIntS (Prod.fst (Prod.snd (Prod.snd (Prod.snd a_0))), v_3))] then
      some (v_5, (Prod.fst a_0, Prod.fst (Prod.snd a_0), pb_2, pb_4, Prod.snd (Prod.snd (Prod.snd (Prod.snd a_0)))), ())
    else none
  else none
def Wh.laws_markPlan' (xs : (tImplPlan.D) × (Int)) : ((Int)) × ((tImplPlan.D) × Unit) := match Wh.laws_markPlan xs with | some y => y | none => default
theorem Wh.laws_markPlan_v (x : (tImplPlan.D) × (Int)) (y : ((Int)) × ((tImplPlan.D) × Unit)) (h : Wh.laws_markPlan x = some y) : Wh.laws_markPlan' x = y := by unfold Wh.laws_markPlan'; rw [h]

def Wh.laws_markText_l0 (x : ((Int) × (List UInt8)) × (Unit)) : Option ((((Int) × (List UInt8)) × (Unit)) ⊕ ((((List UInt8)) × (Unit)))) :=
  let k_12 : Int := Prod.fst (Prod.fst x)
  let out_13 : List UInt8 := Prod.snd (Prod.fst x)
  let v_14 : Bool := Decidable.decide (k_12 > (0 : Int))
  bif v_14 then
    let pb_15 : List Int := [Go.IntKind.wrap Go.IntKind.u8 (Go.IntKind.wrap Go.IntKind.i64 ((48 : Int) + Int.tmod k_12 (10 : Int)))]
    let out_20 : List UInt8 := Go.Ab.strOf pb_15 ++ out_13
    bif allB [Decidable.decide ((1 : Nat) + List.length out_13 ≤ Go.Ab.maxRows), Bool.true] then
      let v_21 : Int := Go.IntKind.wrap Go.IntKind.i64 (Int.tdiv k_12 (10 : Int))
      some (.inl ((v_21, out_20), ()))
    else none
  else
    some (.inr (out_13, ()))
def Wh.laws_markText_l0_y : (((List UInt8)) × (Unit)) := default
def Wh.laws_markText (xs : (Int)) : Option (((List UInt8)) × (Unit)) :=
  let k_0 : Int := xs
  let v_1 : Bool := Decidable.decide (k_0 ≤ (0 : Int))
  bif v_1 then
    some ([(109 : UInt8), (48 : UInt8)], ())
  else
    let x_22 : ((Int) × (List UInt8)) × (Unit) := ((k_0, []), ())
    bif comesB Wh.laws_markText_l0 x_22 then
      let y_23 := comesV Wh.laws_markText_l0 Wh.laws_markText_l0_y x_22
      let out_24 : List UInt8 := Prod.fst y_23
      let v_25 : List UInt8 := [(109 : UInt8)] ++ out_24
      bif allB [Decidable.decide ((1 : Nat) + List.length out_24 ≤ Go.Ab.maxRows)] then
        some (v_25, ())
      else none
    else none
def Wh.laws_markText' (xs : (Int)) : ((List UInt8)) × (Unit) := match Wh.laws_markText xs with | some y => y | none => default
theorem Wh.laws_markText_v (x : (Int)) (y : ((List UInt8)) × (Unit)) (h : Wh.laws_markText x = some y) : Wh.laws_markText' x = y := by unfold Wh.laws_markText'; rw [h]

def Wh.laws_markEqS_l0 (x : ((Int) × (Unit) × (Int)) × ((List (tImplEq.D)))) : Option ((((Int) × (Unit) × (Int)) × ((List (tImplEq.D)))) ⊕ ((((Int)) × ((List (tImplEq.D)))))) :=
  let i_12 : Int := Prod.fst (Prod.fst x)
  let k_13 : Int := Prod.snd (Prod.snd (Prod.fst x))
  let pb_14 : List (tImplEq.D) := Prod.snd x
  let v_15 : Int := (↑(List.length pb_14) : Int)
  let v_16 : Bool := Decidable.decide (i_12 < v_15)
  bif v_16 then
    let pb_17 : List (tImplEq.D) := List.set pb_14 (Int.toNat i_12) (Prod.fst (Prod.snd (Wh.laws_markIntS' (Prod.fst (List.getD pb_14 (Int.toNat i_12) ([], [], ())), k_13))), Prod.snd (List.getD pb_14 (Int.toNat i_12) ([], [], ())))
    let v_18 : Int := Prod.fst (Wh.laws_markIntS' (Prod.fst (List.getD pb_14 (Int.toNat i_12) ([], [], ())), k_13))
    bif allB [Go.Ab.isSm (Wh.laws_markIntS (Prod.fst (List.getD pb_14 (Int.toNat i_12) ([], [], ())), k_13)), Decidable.decide ((0 : Int) ≤ i_12), Decidable.decide (i_12 < v_15)] then
      let pb_19 : List (tImplEq.D) := List.set pb_17 (Int.toNat i_12) (Prod.fst (List.getD pb_17 (Int.toNat i_12) ([], [], ())), Prod.fst (Wh.laws_markText' v_18), Prod.snd (Prod.snd (List.getD pb_17 (Int.toNat i_12) ([], [], ()))))
      bif allB [Decidable.decide ((0 : Int) ≤ i_12), Decidable.decide (i_12 < (↑(List.length pb_17) : Int)), Go.Ab.isSm (Wh.laws_markText v_18)] then
        let v_20 : Int := Go.IntKind.wrap Go.IntKind.i64 (v_18 + (1 : Int))
        let v_21 : Int := Go.IntKind.wrap Go.IntKind.i64 (i_12 + (1 : Int))
        some (.inl ((v_21, (), v_20), pb_19))
      else none
    else none
  else
    some (.inr (k_13, pb_14))
def Wh.laws_markEqS_l0_y : (((Int)) × ((List (tImplEq.D)))) := default
def Wh.laws_markEqS (xs : (List (tImplEq.D)) × (Int)) : Option (((Int)) × ((List (tImplEq.D)) × Unit)) :=
  let a_0 : List (tImplEq.D) := Prod.fst xs
  let k_1 : Int := Prod.snd xs
  let x_22 : ((Int) × (Unit) × (Int)) × ((List (tImplEq.D))) := (((0 : Int), (), k_1), a_0)
  bif comesB Wh.laws_markEqS_l0 x_22 then
    let y_23 := comesV Wh.laws_markEqS_l0 Wh.laws_markEqS_l0_y x_22
    let k_24 : Int := Prod.fst y_23
    let pb_25 : List (tImplEq.D) := Prod.snd y_23
    some (k_24, pb_25, ())
  else none
def Wh.laws_markEqS' (xs : (List (tImplEq.D)) × (Int)) : ((Int)) × ((List (tImplEq.D)) × Unit) := match Wh.laws_markEqS xs with | some y => y | none => default
theorem Wh.laws_markEqS_v (x : (List (tImplEq.D)) × (Int)) (y : ((Int)) × ((List (tImplEq.D)) × Unit)) (h : Wh.laws_markEqS x = some y) : Wh.laws_markEqS' x = y := by unfold Wh.laws_markEqS'; rw [h]

def Wh.laws_markSolver (xs : (tImplSolver.D) × (Int)) : Option (((Int)) × ((tImplSolver.D) × Unit)) :=
  let a_0 : tImplSolver.D := Prod.fst xs
  let k_1 : Int := Prod.snd xs
  let pb_2 : List (tImplEq.D) := Prod.fst (Prod.snd (Wh.laws_markEqS' (Prod.fst (Prod.snd (Prod.snd a_0)), k_1)))
  let v_3 : Int := Prod.fst (Wh.laws_markEqS' (Prod.fst (Prod.snd (Prod.snd a_0)), k_1))
  bif allB [Go.Ab.isSm (Wh.laws_markEqS (Prod.fst (Prod.snd (Prod.snd a_0)), k_1))] then
    some (v_3, (Prod.fst a_0, Prod.fst (Prod.snd a_0), pb_2, Prod.snd (Prod.snd (Prod.snd a_0))), ())
  else none
def Wh.laws_markSolver' (xs : (tImplSolver.D) × (Int)) : ((Int)) × ((tImplSolver.D) × Unit) := match Wh.laws_markSolver xs with | some y => y | none => default
theorem Wh.laws_markSolver_v (x : (tImplSolver.D) × (Int)) (y : ((Int)) × ((tImplSolver.D) × Unit)) (h : Wh.laws_markSolver x = some y) : Wh.laws_markSolver' x = y := by unfold Wh.laws_markSolver'; rw [h]

def Wh.laws_markGetting (xs : (tImplGetting.D) × (Int)) : Option (((Int)) × ((tImplGetting.D) × Unit)) :=
  let a_0 : tImplGetting.D := Prod.fst xs
  let k_1 : Int := Prod.snd xs
  let pb_2 : List Int := Prod.fst (Prod.snd (Prod.snd (Prod.snd (Prod.fst (Prod.snd (Wh.laws_markPlan' ((Prod.fst (Prod.fst a_0), Prod.fst (Prod.snd (Prod.fst a_0)), Prod.fst (Prod.snd (Prod.snd (Prod.fst a_0))), Prod.fst (Prod.snd (Prod.snd (Prod.snd (Prod.fst a_0)))), Prod.snd (Prod.snd (Prod.snd (Prod.snd (Prod.fst a_0))))), k_1)))))))
  let pb_3 : List Int := Prod.fst (Prod.snd (Prod.snd (Prod.fst (Prod.snd (Wh.laws_markPlan' ((Prod.fst (Prod.fst a_0), Prod.fst (Prod.snd (Prod.fst a_0)), Prod.fst (Prod.snd (Prod.snd (Prod.fst a_0))), Prod.fst (Prod.snd (Prod.snd (Prod.snd (Prod.fst a_0)))), Prod.snd (Prod.snd (Prod.snd (Prod.snd (Prod.fst a_0))))), k_1))))))
  let v_4 : Int := Prod.fst (Wh.laws_markPlan' ((Prod.fst (Prod.fst a_0), Prod.fst (Prod.snd (Prod.fst a_0)), Prod.fst (Prod.snd (Prod.snd (Prod.fst a_0))), Prod.fst (Prod.snd (Prod.snd (Prod.snd (Prod.fst a_0)))), Prod.snd (Prod.snd (Prod.snd (Prod.snd (Prod.fst a_0))))), k_1))
  bif allB [Go.Ab.isSm (Wh.laws_markPlan ((Prod.fst (Prod.fst a_0), Prod.fst (Prod.snd (Prod.fst a_0)), Prod.fst (Prod.snd (Prod.snd (Prod.fst a_0))), Prod.fst (Prod.snd (Prod.snd (Prod.snd (Prod.fst a_0)))), Prod.snd (Prod.snd (Prod.snd (Prod.snd (Prod.fst a_0))))), k_1))] then
    let pb_5 : List (tImplEq.D) := Prod.fst (Prod.snd (Prod.snd (Prod.fst (Prod.snd (Wh.laws_markSolver' ((Prod.fst (Prod.fst (Prod.snd a_0)), Prod.fst (Prod.snd (Prod.fst (Prod.snd a_0))), Prod.fst (Prod.snd (Prod.snd (Prod.fst (Prod.snd a_0)))), Prod.snd (Prod.snd (Prod.snd (Prod.fst (Prod.snd a_0))))), v_4))))))
    let v_6 : Int := Prod.fst (Wh.laws_markSolver' ((Prod.fst (Prod.fst (Prod.snd a_0)), Prod.fst (Prod.snd (Prod.fst (Prod.snd a_0))), Prod.fst (Prod.snd (Prod.snd (Prod.fst (Prod.snd a_0)))), Prod.snd (Prod.snd (Prod.snd (Prod.fst (Prod.snd a_0))))), v_4))
    bif allB [Go.Ab.isSm (Wh.laws_markSolver ((Prod.fst (Prod.fst (Prod.snd a_0)), Prod.fst (Prod.snd (Prod.fst (Prod.snd a_0))), Prod.fst (Prod.snd (Prod.snd (Prod.fst (Prod.snd a_0)))), Prod.snd (Prod.snd (Prod.snd (Prod.fst (Prod.snd a_0))))), v_4))] then
      some (v_6, ((Prod.fst (Prod.fst a_0), Prod.fst (Prod.snd (Prod.fst a_0)), pb_3, pb_2, Prod.snd (Prod.snd (Prod.snd (Prod.snd (Prod.fst a_0))))), (Prod.fst (Prod.fst (Prod.snd a_0)), Prod.fst (Prod.snd (Prod.fst (Prod.snd a_0))), pb_5, Prod.snd (Prod.snd (Prod.snd (Prod.fst (Prod.snd a_0))))), Prod.snd (Prod.snd a_0)), ())
    else none
  else none
def Wh.laws_markGetting' (xs : (tImplGetting.D) × (Int)) : ((Int)) × ((tImplGetting.D) × Unit) := match Wh.laws_markGetting xs with | some y => y | none => default
theorem Wh.laws_markGetting_v (x : (tImplGetting.D) × (Int)) (y : ((Int)) × ((tImplGetting.D) × Unit)) (h : Wh.laws_markGetting x = some y) : Wh.laws_markGetting' x = y := by unfold Wh.laws_markGetting'; rw [h]

def Wh.laws_markClient (xs : (tImplClient.D) × (Int)) : Option (((Int)) × ((tImplClient.D) × Unit)) :=
  let a_0 : tImplClient.D := Prod.fst xs
  let k_1 : Int := Prod.snd xs
  let pb_2 : List (tImplEq.D) := Prod.fst (Prod.snd (Prod.snd (Prod.fst (Prod.snd (Prod.fst (Prod.snd (Wh.laws_markGetting' (((Prod.fst (Prod.fst (Prod.fst (Prod.snd (Prod.snd (Prod.snd (Prod.snd (Prod.snd a_0))))))), Prod.fst (Prod.snd (Prod.fst (Prod.fst (Prod.snd (Prod.snd (Prod.snd (Prod.snd (Prod.snd a_0)))))))), Prod.fst (Prod.snd (Prod.snd (Prod.fst (Prod.fst (Prod.snd (Prod.snd (Prod.snd (Prod.snd (Prod.snd a_0))))))))), Prod.fst (Prod.snd (Prod.snd (Prod.snd (Prod.fst (Prod.fst (Prod.snd (Prod.snd (Prod.snd (Prod.snd (Prod.snd a_0)))))))))), Prod.snd (Prod.snd (Prod.snd (Prod.snd (Prod.fst (Prod.fst (Prod.snd (Prod.snd (Prod.snd (Prod.snd (Prod.snd a_0))))))))))), (Prod.fst (Prod.fst (Prod.snd (Prod.fst (Prod.snd (Prod.snd (Prod.snd (Prod.snd (Prod.snd a_0)))))))), Prod.fst (Prod.snd (Prod.fst (Prod.snd (Prod.fst (Prod.snd (Prod.snd (Prod.snd (Prod.snd (Prod.snd a_0))))))))), Prod.fst (Prod.snd (Prod.snd (Prod.fst (Prod.snd (Prod.fst (Prod.snd (Prod.snd (Prod.snd (Prod.snd (Prod.snd a_0)))))))))), Prod.snd (Prod.snd (Prod.snd (Prod.fst (Prod.snd (Prod.fst (Prod.snd (Prod.snd (Prod.snd (Prod.snd (Prod.snd a_0))))))))))), Prod.snd (Prod.snd (Prod.fst (Prod.snd (Prod.snd (Prod.snd (Prod.snd (Prod.snd a_0)))))))), k_1))))))))
  let pb_3 : List Int := Prod.fst (Prod.snd (Prod.snd (Prod.snd (Prod.fst (Prod.fst (Prod.snd (Wh.laws_markGetting' (((Prod.fst (Prod.fst (Prod.fst (Prod.snd (Prod.snd (Prod.snd (Prod.snd (Prod.snd a_0))))))), Prod.fst (Prod.snd (Prod.fst (Prod.fst (Prod.snd (Prod.snd (Prod.snd (Prod.snd (Prod.snd a_0)))))))), Prod.fst (Prod.snd (Prod.snd (Prod.fst (Prod.fst (Prod.snd (Prod.snd (Prod.snd (Prod.snd (Prod.snd a_0))))))))), Prod.fst (Prod.snd (Prod.snd (Prod.snd (Prod.fst (Prod.fst (Prod.snd (Prod.snd (Prod.snd (Prod.snd (Prod.snd a_0)))))))))), Prod.snd (Prod.snd (Prod.snd (Prod.snd (Prod.fst (Prod.fst (Prod.snd (Prod.snd (Prod.snd (Prod.snd (Prod.snd a_0))))))))))), (Prod.fst (Prod.fst (Prod.snd (Prod.fst (Prod.snd (Prod.snd (Prod.snd (Prod.snd (Prod.snd a_0)))))))), Prod.fst (Prod.snd (Prod.fst (Prod.snd (Prod.fst (Prod.snd (Prod.snd (Prod.snd (Prod.snd (Prod.snd a_0))))))))), Prod.fst (Prod.snd (Prod.snd (Prod.fst (Prod.snd (Prod.fst (Prod.snd (Prod.snd (Prod.snd (Prod.snd (Prod.snd a_0)))))))))), Prod.snd (Prod.snd (Prod.snd (Prod.fst (Prod.snd (Prod.fst (Prod.snd (Prod.snd (Prod.snd (Prod.snd (Prod.snd a_0))))))))))), Prod.snd (Prod.snd (Prod.fst (Prod.snd (Prod.snd (Prod.snd (Prod.snd (Prod.snd a_0)))))))), k_1))))))))
  let pb_4 : List Int := Prod.fst (Prod.snd (Prod.snd (Prod.fst (Prod.fst (Prod.snd (Wh.laws_markGetting' (((Prod.fst (Prod.fst (Prod.fst (Prod.snd (Prod.snd (Prod.snd (Prod.snd (Prod.snd a_0))))))), Prod.fst (Prod.snd (Prod.fst (Prod.fst (Prod.snd (Prod.snd (Prod.snd (Prod.snd (Prod.snd a_0)))))))), Prod.fst (Prod.snd (Prod.snd (Prod.fst (Prod.fst (Prod.snd (Prod.snd (Prod.snd (Prod.snd (Prod.snd a_0))))))))), Prod.fst (Prod.snd (Prod.snd (Prod.snd (Prod.fst (Prod.fst (Prod.snd (Prod.snd (Prod.snd (Prod.snd (Prod.snd a_0)))))))))), Prod.snd (Prod.snd (Prod.snd (Prod.snd (Prod.fst (Prod.fst (Prod.snd (Prod.snd (Prod.snd (Prod.snd (Prod.snd a_0))))))))))), (Prod.fst (Prod.fst (Prod.snd (Prod.fst (Prod.snd (Prod.snd (Prod.snd (Prod.snd (Prod.snd a_0)))))))), Prod.fst (Prod.snd (Prod.fst (Prod.snd (Prod.fst (Prod.snd (Prod.snd (Prod.snd (Prod.snd (Prod.snd a_0))))))))), Prod.fst (Prod.snd (Prod.snd (Prod.fst (Prod.snd (Prod.fst (Prod.snd (Prod.snd (Prod.snd (Prod.snd (Prod.snd a_0)))))))))), Prod.snd (Prod.snd (Prod.snd (Prod.fst (Prod.snd (Prod.fst (Prod.snd (Prod.snd (Prod.snd (Prod.snd (Prod.snd a_0))))))))))), Prod.snd (Prod.snd (Prod.fst (Prod.snd (Prod.snd (Prod.snd (Prod.snd (Prod.snd a_0)))))))), k_1)))))))
  let v_5 : Int := Prod.fst (Wh.laws_markGetting' (((Prod.fst (Prod.fst (Prod.fst (Prod.snd (Prod.snd (Prod.snd (Prod.snd (Prod.snd a_0))))))), Prod.fst (Prod.snd (Prod.fst (Prod.fst (Prod.snd (Prod.snd (Prod.snd (Prod.snd (Prod.snd a_0)))))))), Prod.fst (Prod.snd (Prod.snd (Prod.fst (Prod.fst (Prod.snd (Prod.snd (Prod.snd (Prod.snd (Prod.snd a_0))))))))), Prod.fst (Prod.snd (Prod.snd (Prod.snd (Prod.fst (Prod.fst (Prod.snd (Prod.snd (Prod.snd (Prod.snd (Prod.snd a_0)))))))))), Prod.snd (Prod.snd (Prod.snd (Prod.snd (Prod.fst (Prod.fst (Prod.snd (Prod.snd (Prod.snd (Prod.snd (Prod.snd a_0))))))))))), (Prod.fst (Prod.fst (Prod.snd (Prod.fst (Prod.snd (Prod.snd (Prod.snd (Prod.snd (Prod.snd a_0)))))))), Prod.fst (Prod.snd (Prod.fst (Prod.snd (Prod.fst (Prod.snd (Prod.snd (Prod.snd (Prod.snd (Prod.snd a_0))))))))), Prod.fst (Prod.snd (Prod.snd (Prod.fst (Prod.snd (Prod.fst (Prod.snd (Prod.snd (Prod.snd (Prod.snd (Prod.snd a_0)))))))))), Prod.snd (Prod.snd (Prod.snd (Prod.fst (Prod.snd (Prod.fst (Prod.snd (Prod.snd (Prod.snd (Prod.snd (Prod.snd a_0))))))))))), Prod.snd (Prod.snd (Prod.fst (Prod.snd (Prod.snd (Prod.snd (Prod.snd (Prod.snd a_0)))))))), k_1))
  bif allB [Go.Ab.isSm (Wh.laws_markGetting (((Prod.fst (Prod.fst (Prod.fst (Prod.snd (Prod.snd (Prod.snd (Prod.snd (Prod.snd a_0))))))), Prod.fst (Prod.snd (Prod.fst (Prod.fst (Prod.snd (Prod.snd (Prod.snd (Prod.snd (Prod.snd a_0)))))))), Prod.fst (Prod.snd (Prod.snd (Prod.fst (Prod.fst (Prod.snd (Prod.snd (Prod.snd (Prod.snd (Prod.snd a_0))))))))), Prod.fst (Prod.snd (Prod.snd (Prod.snd (Prod.fst (Prod.fst (Prod.snd (Prod.snd (Prod.snd (Prod.snd (Prod.snd a_0)))))))))), Prod.snd (Prod.snd (Prod.snd (Prod.snd (Prod.fst (Prod.fst (Prod.snd (Prod.snd (Prod.snd (Prod.snd (Prod.snd a_0))))))))))), (Prod.fst (Prod.fst (Prod.snd (Prod.fst (Prod.snd (Prod.snd (Prod.snd (Prod.snd (Prod.snd a_0)))))))), Prod.fst (Prod.snd (Prod.fst (Prod.snd (Prod.fst (Prod.snd (Prod.snd (Prod.snd (Prod.snd (Prod.snd a_0))))))))), Prod.fst (Prod.snd (Prod.snd (Prod.fst (Prod.snd (Prod.fst (Prod.snd (Prod.snd (Prod.snd (Prod.snd (Prod.snd a_0)))))))))), Prod.snd (Prod.snd (Prod.snd (Prod.fst (Prod.snd (Prod.fst (Prod.snd (Prod.snd (Prod.snd (Prod.snd (Prod.snd a_0))))))))))), Prod.snd (Prod.snd (Prod.fst (Prod.snd (Prod.snd (Prod.snd (Prod.snd (Prod.snd a_0)))))))), k_1))] then
    some (v_5, (Prod.fst a_0, Prod.fst (Prod.snd a_0), Prod.fst (Prod.snd (Prod.snd a_0)), Prod.fst (Prod.snd (Prod.snd (Prod.snd a_0))), Prod.fst (Prod.snd (Prod.snd (Prod.snd (Prod.snd a_0)))), ((Prod.fst (Prod.fst (Prod.fst (Prod.snd (Prod.snd (Prod.snd (Prod.snd (Prod.snd a_0))))))), Prod.fst (Prod.snd (Prod.fst (Prod.fst (Prod.snd (Prod.snd (Prod.snd (Prod.snd (Prod.snd a_0)))))))), pb_4, pb_3, Prod.snd (Prod.snd (Prod.snd (Prod.snd (Prod.fst (Prod.fst (Prod.snd (Prod.snd (Prod.snd (Prod.snd (Prod.snd a_0))))))))))), (Prod.fst (Prod.fst (Prod.snd (Prod.fst (Prod.snd (Prod.snd (Prod.snd (Prod.snd (Prod.snd a_0)))))))), Prod.fst (Prod.snd (Prod.fst (Prod.snd (Prod.fst (Prod.snd (Prod.snd (Prod.snd (Prod.snd (Prod.snd a_0))))))))), pb_2, Prod.snd (Prod.snd (Prod.snd (Prod.fst (Prod.snd (Prod.fst (Prod.snd (Prod.snd (Prod.snd (Prod.snd (Prod.snd a_0))))))))))), Prod.snd (Prod.snd (Prod.fst (Prod.snd (Prod.snd (Prod.snd (Prod.snd (Prod.snd a_0)))))))), Prod.snd (Prod.snd (Prod.snd (Prod.snd (Prod.snd (Prod.snd a_0)))))), ())
  else none
def Wh.laws_markClient' (xs : (tImplClient.D) × (Int)) : ((Int)) × ((tImplClient.D) × Unit) := match Wh.laws_markClient xs with | some y => y | none => default
theorem Wh.laws_markClient_v (x : (tImplClient.D) × (Int)) (y : ((Int)) × ((tImplClient.D) × Unit)) (h : Wh.laws_markClient x = some y) : Wh.laws_markClient' x = y := by unfold Wh.laws_markClient'; rw [h]

def Wh.laws_markWordS_l0 (x : ((Int) × (Unit) × (Int)) × ((List (tImplWord.D)))) : Option ((((Int) × (Unit) × (Int)) × ((List (tImplWord.D)))) ⊕ ((((Int)) × ((List (tImplWord.D)))))) :=
  let i_22 : Int := Prod.fst (Prod.fst x)
  let k_23 : Int := Prod.snd (Prod.snd (Prod.fst x))
  let pb_24 : List (tImplWord.D) := Prod.snd x
  let v_25 : Int := (↑(List.length pb_24) : Int)
  let v_26 : Bool := Decidable.decide (i_22 < v_25)
  bif v_26 then
    let pb_27 : List (tImplWord.D) := List.set pb_24 (Int.toNat i_22) (k_23, Prod.snd (List.getD pb_24 (Int.toNat i_22) ((0 : Int), (0 : Int), (0 : Int), (0 : Int), (0 : Int), [], [], ())))
    bif allB [Decidable.decide ((0 : Int) ≤ i_22), Decidable.decide (i_22 < v_25)] then
      let v_28 : Int := Go.IntKind.wrap Go.IntKind.i64 (k_23 + (1 : Int))
      let pb_29 : List (tImplWord.D) := List.set pb_27 (Int.toNat i_22) (Prod.fst (List.getD pb_27 (Int.toNat i_22) ((0 : Int), (0 : Int), (0 : Int), (0 : Int), (0 : Int), [], [], ())), v_28, Prod.snd (Prod.snd (List.getD pb_27 (Int.toNat i_22) ((0 : Int), (0 : Int), (0 : Int), (0 : Int), (0 : Int), [], [], ()))))
      bif allB [Decidable.decide ((0 : Int) ≤ i_22), Decidable.decide (i_22 < (↑(List.length pb_27) : Int))] then
        let v_30 : Int := Go.IntKind.wrap Go.IntKind.i64 (v_28 + (1 : Int))
        let pb_31 : List (tImplWord.D) := List.set pb_29 (Int.toNat i_22) (Prod.fst (List.getD pb_29 (Int.toNat i_22) ((0 : Int), (0 : Int), (0 : Int), (0 : Int), (0 : Int), [], [], ())), Prod.fst (Prod.snd (List.getD pb_29 (Int.toNat i_22) ((0 : Int), (0 : Int), (0 : Int), (0 : Int), (0 : Int), [], [], ()))), v_30, Prod.snd (Prod.snd (Prod.snd (List.getD pb_29 (Int.toNat i_22) ((0 : Int), (0 : Int), (0 : Int), (0 : Int), (0 : Int), [], [], ())))))
        bif allB [Decidable.decide ((0 : Int) ≤ i_22), Decidable.decide (i_22 < (↑(List.length pb_29) : Int))] then
          let v_32 : Int := Go.IntKind.wrap Go.IntKind.i64 (v_30 + (1 : Int))
          let pb_33 : List (tImplWord.D) := List.set pb_31 (Int.toNat i_22) (Prod.fst (List.getD pb_31 (Int.toNat i_22) ((0 : Int), (0 : Int), (0 : Int), (0 : Int), (0 : Int), [], [], ())), Prod.fst (Prod.snd (List.getD pb_31 (Int.toNat i_22) ((0 : Int), (0 : Int), (0 : Int), (0 : Int), (0 : Int), [], [], ()))), Prod.fst (Prod.snd (Prod.snd (List.getD pb_31 (Int.toNat i_22) ((0 : Int), (0 : Int), (0 : Int), (0 : Int), (0 : Int), [], [], ())))), v_32, Prod.snd (Prod.snd (Prod.snd (Prod.snd (List.getD pb_31 (Int.toNat i_22) ((0 : Int), (0 : Int), (0 : Int), (0 : Int), (0 : Int), [], [], ()))))))
          bif allB [Decidable.decide ((0 : Int) ≤ i_22), Decidable.decide (i_22 < (↑(List.length pb_31) : Int))] then
            let v_34 : Int := Go.IntKind.wrap Go.IntKind.i64 (v_32 + (1 : Int))
            let pb_35 : List (tImplWord.D) := List.set pb_33 (Int.toNat i_22) (Prod.fst (List.getD pb_33 (Int.toNat i_22) ((0 : Int), (0 : Int), (0 : Int), (0 : Int), (0 : Int), [], [], ())), Prod.fst (Prod.snd (List.getD pb_33 (Int.toNat i_22) ((0 : Int), (0 : Int), (0 : Int), (0 : Int), (0 : Int), [], [], ()))), Prod.fst (Prod.snd (Prod.snd (List.getD pb_33 (Int.toNat i_22) ((0 : Int), (0 : Int), (0 : Int), (0 : Int), (0 : Int), [], [], ())))), Prod.fst (Prod.snd (Prod.snd (Prod.snd (List.getD pb_33 (Int.toNat i_22) ((0 : Int), (0 : Int), (0 : Int), (0 : Int), (0 : Int), [], [], ()))))), v_34, Prod.snd (Prod.snd (Prod.snd (Prod.snd (Prod.snd (List.getD pb_33 (Int.toNat i_22) ((0 : Int), (0 : Int), (0 : Int), (0 : Int), (0 : Int), [], [], ())))))))
            bif allB [Decidable.decide ((0 : Int) ≤ i_22), Decidable.decide (i_22 < (↑(List.length pb_33) : Int))] then
              let v_36 : Int := Go.IntKind.wrap Go.IntKind.i64 (v_34 + (1 : Int))
              let pb_37 : List (tImplWord.D) := List.set pb_35 (Int.toNat i_22) (Prod.fst (List.getD pb_35 (Int.toNat i_22) ((0 : Int), (0 : Int), (0 : Int), (0 : Int), (0 : Int), [], [], ())), Prod.fst (Prod.snd (List.getD pb_35 (Int.toNat i_22) ((0 : Int), (0 : Int), (0 : Int), (0 : Int), (0 : Int), [], [], ()))), Prod.fst (Prod.snd (Prod.snd (List.getD pb_35 (Int.toNat i_22) ((0 : Int), (0 : Int), (0 : Int), (0 : Int), (0 : Int), [], [], ())))), Prod.fst (Prod.snd (Prod.snd (Prod.snd (List.getD pb_35 (Int.toNat i_22) ((0 : Int), (0 : Int), (0 : Int), (0 : Int), (0 : Int), [], [], ()))))), Prod.fst (Prod.snd (Prod.snd (Prod.snd (Prod.snd (List.getD pb_35 (Int.toNat i_22) ((0 : Int), (0 : Int), (0 : Int), (0 : Int), (0 : Int), [], [], ())))))), Prod.fst (Wh.laws_markText' v_36), Prod.snd (Prod.snd (Prod.snd (Prod.snd (Prod.snd (Prod.snd (List.getD pb_35 (Int.toNat i_22) ((0 : Int), (0 : Int), (0 : Int), (0 : Int), (0 : Int), [], [], ()))))))))
              bif allB [Decidable.decide ((0 : Int) ≤ i_22), Decidable.decide (i_22 < (↑(List.length pb_35) : Int)), Go.Ab.isSm (Wh.laws_markText v_36)] then
                let v_38 : Int := Go.IntKind.wrap Go.IntKind.i64 (v_36 + (1 : Int))
                let pb_39 : List (tImplWord.D) := List.set pb_37 (Int.toNat i_22) (Prod.fst (List.getD pb_37 (Int.toNat i_22) ((0 : Int), (0 : Int), (0 : Int), (0 : Int), (0 : Int), [], [], ())), Prod.fst (Prod.snd (List.getD pb_37 (Int.toNat i_22) ((0 : Int), (0 : Int), (0 : Int), (0 : Int), (0 : Int), [], [], ()))), Prod.fst (Prod.snd (Prod.snd (List.getD pb_37 (Int.toNat i_22) ((0 : Int), (0 : Int), (0 : Int), (0 : Int), (0 : Int), [], [], ())))), Prod.fst (Prod.snd (Prod.snd (Prod.snd (List.getD pb_37 (Int.toNat i_22) ((0 : Int), (0 : Int), (0 : Int), (0 : Int), (0 : Int), [], [], ()))))), Prod.fst (Prod.snd (Prod.snd (Prod.snd (Prod.snd (List.getD pb_37 (Int.toNat i_22) ((0 : Int), (0 : Int), (0 : Int), (0 : Int), (0 : Int), [], [], ())))))), Prod.fst (Prod.snd (Prod.snd (Prod.snd (Prod.snd (Prod.snd (List.getD pb_37 (Int.toNat i_22) ((0 : Int), (0 : Int), (0 : Int), (0 : Int), (0 : Int), [], [], ()))))))), Prod.fst (Wh.laws_markText' v_38), Prod.snd (Prod.snd (Prod.snd (Prod.snd (Prod.snd (Prod.snd (Prod.snd (List.getD pb_37 (Int.toNat i_22) ((0 : Int), (0 : Int), (0 : Int), (0 : Int), (0 : Int), [], [], ())))))))))
                bif allB [Decidable.decide ((0 : Int) ≤ i_22), Decidable.decide (i_22 < (↑(List.length pb_37) : Int)), Go.Ab.isSm (Wh.laws_markText v_38)] then
                  let v_40 : Int := Go.IntKind.wrap Go.IntKind.i64 (v_38 + (1 : Int))
                  let v_41 : Int := Go.IntKind.wrap Go.IntKind.i64 (i_22 + (1 : Int))
                  some (.inl ((v_41, (), v_40), pb_39))
                else none
              else none
            else none
          else none
        else none
      else none
    else none
  else
    some (.inr (k_23, pb_24))
def Wh.laws_markWordS_l0_y : (((Int)) × ((List (tImplWord.D)))) := default
def Wh.laws_markWordS (xs : (List (tImplWord.D)) × (Int)) : Option (((Int)) × ((List (tImplWord.D)) × Unit)) :=
  let a_0 : List (tImplWord.D) := Prod.fst xs
  let k_1 : Int := Prod.snd xs
  let x_42 : ((Int) × (Unit) × (Int)) × ((List (tImplWord.D))) := (((0 : Int), (), k_1), a_0)
  bif comesB Wh.laws_markWordS_l0 x_42 then
    let y_43 := comesV Wh.laws_markWordS_l0 Wh.laws_markWordS_l0_y x_42
    let k_44 : Int := Prod.fst y_43
    let pb_45 : List (tImplWord.D) := Prod.snd y_43
    some (k_44, pb_45, ())
  else none
def Wh.laws_markWordS' (xs : (List (tImplWord.D)) × (Int)) : ((Int)) × ((List (tImplWord.D)) × Unit) := match Wh.laws_markWordS xs with | some y => y | none => default
theorem Wh.laws_markWordS_v (x : (List (tImplWord.D)) × (Int)) (y : ((Int)) × ((List (tImplWord.D)) × Unit)) (h : Wh.laws_markWordS x = some y) : Wh.laws_markWordS' x = y := by unfold Wh.laws_markWordS'; rw [h]

def Wh.laws_heldWordS_l0 (x : ((Int) × (List (tImplWord.D)) × (Int)) × (Unit)) : Option ((((Int) × (List (tImplWord.D)) × (Int)) × (Unit)) ⊕ ((((Int)) × (Unit)) ⊕ (((Int)) × (Unit)))) :=
  let i_23 : Int := Prod.fst (Prod.fst x)
  let a_24 : List (tImplWord.D) := Prod.fst (Prod.snd (Prod.fst x))
  let k_25 : Int := Prod.snd (Prod.snd (Prod.fst x))
  let v_26 : Int := (↑(List.length a_24) : Int)
  let v_27 : Bool := Decidable.decide (i_23 < v_26)
  bif v_27 then
    let v_28 : tImplWord.D := List.getD a_24 (Int.toNat i_23) ((0 : Int), (0 : Int), (0 : Int), (0 : Int), (0 : Int), [], [], ())
    let v_29 : Bool := Prod.fst v_28 != k_25
    bif allB [Decidable.decide ((0 : Int) ≤ i_23), Decidable.decide (i_23 < v_26)] then
      bif v_29 then
        some (.inr (.inl ((-1 : Int), ())))
      else
        let v_30 : Int := Go.IntKind.wrap Go.IntKind.i64 (k_25 + (1 : Int))
        let v_31 : Bool := Prod.fst (Prod.snd v_28) != v_30
        bif allB [Decidable.decide ((0 : Int) ≤ i_23), Decidable.decide (i_23 < v_26)] then
          bif v_31 then
            some (.inr (.inl ((-1 : Int), ())))
          else
            let v_32 : Int := Go.IntKind.wrap Go.IntKind.i64 (v_30 + (1 : Int))
            let v_33 : Bool := Prod.fst (Prod.snd (Prod.snd v_28)) != v_32
            bif allB [Decidable.decide ((0 : Int) ≤ i_23), Decidable.decide (i_23 < v_26)] then
              bif v_33 then
                some (.inr (.inl ((-1 : Int), ())))
              else
                let v_34 : Int := Go.IntKind.wrap Go.IntKind.i64 (v_32 + (1 : Int))
                let v_35 : Bool := Prod.fst (Prod.snd (Prod.snd (Prod.snd v_28))) != v_34
                bif allB [Decidable.decide ((0 : Int) ≤ i_23), Decidable.decide (i_23 < v_26)] then
                  bif v_35 then
                    some (.inr (.inl ((-1 : Int), ())))
                  else
                    let v_36 : Int := Go.IntKind.wrap Go.IntKind.i64 (v_34 + (1 : Int))
                    let v_37 : Bool := Prod.fst (Prod.snd (Prod.snd (Prod.snd (Prod.snd v_28)))) != v_36
                    bif allB [Decidable.decide ((0 : Int) ≤ i_23), Decidable.decide (i_23 < v_26)] then
                      bif v_37 then
                        some (.inr (.inl ((-1 : Int), ())))
                      else
                        let v_38 : Int := Go.IntKind.wrap Go.IntKind.i64 (v_36 + (1 : Int))
                        let v_39 : Bool := !Prod.fst (Prod.snd (Prod.snd (Prod.snd (Prod.snd (Prod.snd v_28))))) == Prod.fst (Wh.laws_markText' v_38)
                        bif allB [Go.Ab.isSm (Wh.laws_markText v_38), Decidable.decide ((0 : Int) ≤ i_23), Decidable.decide (i_23 < v_26)] then
                          bif v_39 then
                            some (.inr (.inl ((-1 : Int), ())))
                          else
                            let v_40 : Int := Go.IntKind.wrap Go.IntKind.i64 (v_38 + (1 : Int))
                            let v_41 : Bool := !Prod.fst (Prod.snd (Prod.snd (Prod.snd (Prod.snd (Prod.snd (Prod.snd v_28)))))) == Prod.fst (Wh.laws_markText' v_40)
                            bif allB [Go.Ab.isSm (Wh.laws_markText v_40), Decidable.decide ((0 : Int) ≤ i_23), Decidable.decide (i_23 < v_26)] then
                              bif v_41 then
                                some (.inr (.inl ((-1 : Int), ())))
                              else
                                let v_42 : Int := Go.IntKind.wrap Go.IntKind.i64 (v_40 + (1 : Int))
                                let v_43 : Int := Go.IntKind.wrap Go.IntKind.i64 (i_23 + (1 : Int))
                                some (.inl ((v_43, a_24, v_42), ()))
                            else none
                        else none
                    else none
                else none
            else none
        else none
    else none
  else
    some (.inr (.inr (k_25, ())))
def Wh.laws_heldWordS_l0_y : (((Int)) × (Unit)) ⊕ (((Int)) × (Unit)) := .inl default
def Wh.laws_heldWordS (xs : (List (tImplWord.D)) × (Int)) : Option (((Int)) × (Unit)) :=
  let a_0 : List (tImplWord.D) := Prod.fst xs
  let k_1 : Int := Prod.snd xs
  let x_44 : ((Int) × (List (tImplWord.D)) × (Int)) × (Unit) := (((0 : Int), a_0, k_1), ())
  bif comesB Wh.laws_heldWordS_l0 x_44 then
    sumC (comesV Wh.laws_heldWordS_l0 Wh.laws_heldWordS_l0_y x_44) (fun y_45 =>
      let v_47 : Int := Prod.fst y_45
      some (v_47, ())) (fun z_46 =>
      let k_48 : Int := Prod.fst z_46
      some (k_48, ()))
  else none
def Wh.laws_heldWordS' (xs : (List (tImplWord.D)) × (Int)) : ((Int)) × (Unit) := match Wh.laws_heldWordS xs with | some y => y | none => default
theorem Wh.laws_heldWordS_v (x : (List (tImplWord.D)) × (Int)) (y : ((Int)) × (Unit)) (h : Wh.laws_heldWordS x = some y) : Wh.laws_heldWordS' x = y := by unfold Wh.laws_heldWordS'; rw [h]

def Wh.spec_l13Done (xs : (tImplClient.D)) : Option (((List (tImplWord.D))) × (Unit)) :=
  let c_0 : tImplClient.D := xs
  let v_1 : Bool := Prod.fst (Prod.snd (Prod.snd (Prod.snd (Prod.snd c_0)))) == (0 : Int)
  bif v_1 then
    some ([], ())
  else
    let pb_2 : List (tImplWord.D) := [((5 : Int), Prod.fst c_0, Prod.fst (Prod.snd c_0), Prod.fst (Prod.snd (Prod.snd (Prod.snd (Prod.snd c_0)))), (0 : Int), [], [], ())]
    some (pb_2, ())
def Wh.spec_l13Done' (xs : (tImplClient.D)) : ((List (tImplWord.D))) × (Unit) := match Wh.spec_l13Done xs with | some y => y | none => default
theorem Wh.spec_l13Done_v (x : (tImplClient.D)) (y : ((List (tImplWord.D))) × (Unit)) (h : Wh.spec_l13Done x = some y) : Wh.spec_l13Done' x = y := by unfold Wh.spec_l13Done'; rw [h]

def Wh.spec_ClientStop (xs : (tImplClient.D)) : Option ((((Int) × ((Int) × ((Int) × ((List UInt8) × ((Int) × ((((Int) × ((Int) × ((List (Int)) × ((List (Int)) × (Unit))))) × (((Int) × ((Int) × ((List (tImplEq.D)) × (Unit)))) × (Unit))) × (Unit))))))) × (List (tImplWord.D))) × (Unit)) :=
  let c_0 : tImplClient.D := xs
  bif allB [Go.Ab.isSm (Wh.spec_ClientOk c_0)] then
    bif !Prod.fst (Wh.spec_ClientOk' c_0) then
      some ((((0 : Int), (0 : Int), (0 : Int), [], (0 : Int), (((0 : Int), (0 : Int), [], [], ()), ((0 : Int), (0 : Int), [], ()), ()), ()), []), ())
    else
      let pb_1 : List (tImplWord.D) := Prod.fst (Wh.spec_l13Done' c_0)
      bif allB [Go.Ab.isSm (Wh.spec_l13Done c_0)] then
        some (((Prod.fst c_0, Prod.fst (Prod.snd c_0), (0 : Int), [], (0 : Int), (((0 : Int), (0 : Int), [], [], ()), ((0 : Int), (0 : Int), [], ()), ()), ()), pb_1), ())
      else none
  else none
def Wh.spec_ClientStop' (xs : (tImplClient.D)) : (((Int) × ((Int) × ((Int) × ((List UInt8) × ((Int) × ((((Int) × ((Int) × ((List (Int)) × ((List (Int)) × (Unit))))) × (((Int) × ((Int) × ((List (tImplEq.D)) × (Unit)))) × (Unit))) × (Unit))))))) × (List (tImplWord.D))) × (Unit) := match Wh.spec_ClientStop xs with | some y => y | none => default
theorem Wh.spec_ClientStop_v (x : (tImplClient.D)) (y : (((Int) × ((Int) × ((Int) × ((List UInt8) × ((Int) × ((((Int) × ((Int) × ((List (Int)) × ((List (Int)) × (Unit))))) × (((Int) × ((Int) × ((List (tImplEq.D)) × (Unit)))) × (Unit))) × (Unit))))))) × (List (tImplWord.D))) × (Unit)) (h : Wh.spec_ClientStop x = some y) : Wh.spec_ClientStop' x = y := by unfold Wh.spec_ClientStop'; rw [h]

def Wh.impl_ClientStop (xs : (tImplClient.D)) : Option (((tImplClient.D) × (List (tImplWord.D))) × (Unit)) :=
  let c_0 : tImplClient.D := xs
  bif allB [Go.Ab.isSm (Wh.impl_ClientOk c_0)] then
    bif !Prod.fst (Wh.impl_ClientOk' c_0) then
      some ((((0 : Int), (0 : Int), (0 : Int), [], (0 : Int), (((0 : Int), (0 : Int), [], [], ()), ((0 : Int), (0 : Int), [], ()), ()), ()), []), ())
    else
      let v_1 : Bool := Decidable.decide (Prod.fst (Prod.snd (Prod.snd (Prod.snd (Prod.snd c_0)))) > (0 : Int))
      bif v_1 then
        let pb_2 : List (tImplWord.D) := [((5 : Int), Prod.fst c_0, Prod.fst (Prod.snd c_0), Prod.fst (Prod.snd (Prod.snd (Prod.snd (Prod.snd c_0)))), (0 : Int), [], [], ())]
        let pb_3 : List (tImplWord.D) := [] ++ pb_2
        some (((Prod.fst c_0, Prod.fst (Prod.snd c_0), (0 : Int), [], (0 : Int), (((0 : Int), (0 : Int), [], [], ()), ((0 : Int), (0 : Int), [], ()), ()), ()), pb_3), ())
      else
        some (((Prod.fst c_0, Prod.fst (Prod.snd c_0), (0 : Int), [], (0 : Int), (((0 : Int), (0 : Int), [], [], ()), ((0 : Int), (0 : Int), [], ()), ()), ()), []), ())
  else none
def Wh.impl_ClientStop' (xs : (tImplClient.D)) : ((tImplClient.D) × (List (tImplWord.D))) × (Unit) := match Wh.impl_ClientStop xs with | some y => y | none => default
theorem Wh.impl_ClientStop_v (x : (tImplClient.D)) (y : ((tImplClient.D) × (List (tImplWord.D))) × (Unit)) (h : Wh.impl_ClientStop x = some y) : Wh.impl_ClientStop' x = y := by unfold Wh.impl_ClientStop'; rw [h]

def Wh.laws_heldIntS_l0 (x : ((Int) × (Int) × (List (Int))) × (Unit)) : Option ((((Int) × (Int) × (List (Int))) × (Unit)) ⊕ ((((Int)) × (Unit)) ⊕ (((Int)) × (Unit)))) :=
  let i_10 : Int := Prod.fst (Prod.fst x)
  let k_11 : Int := Prod.fst (Prod.snd (Prod.fst x))
  let a_12 : List Int := Prod.snd (Prod.snd (Prod.fst x))
  let v_13 : Bool := Decidable.decide (i_10 < (↑(List.length a_12) : Int))
  bif v_13 then
    let v_14 : Int := List.getD a_12 (Int.toNat i_10) (0 : Int)
    let v_15 : Bool := v_14 != k_11
    bif allB [Decidable.decide ((0 : Int) ≤ i_10), v_13] then
      bif v_15 then
        some (.inr (.inl ((-1 : Int), ())))
      else
        let v_16 : Int := Go.IntKind.wrap Go.IntKind.i64 (k_11 + (1 : Int))
        let v_17 : Int := Go.IntKind.wrap Go.IntKind.i64 (i_10 + (1 : Int))
        some (.inl ((v_17, v_16, a_12), ()))
    else none
  else
    some (.inr (.inr (k_11, ())))
def Wh.laws_heldIntS_l0_y : (((Int)) × (Unit)) ⊕ (((Int)) × (Unit)) := .inl default
def Wh.laws_heldIntS (xs : (List (Int)) × (Int)) : Option (((Int)) × (Unit)) :=
  let a_0 : List Int := Prod.fst xs
  let k_1 : Int := Prod.snd xs
  let x_18 : ((Int) × (Int) × (List (Int))) × (Unit) := (((0 : Int), k_1, a_0), ())
  bif comesB Wh.laws_heldIntS_l0 x_18 then
    sumC (comesV Wh.laws_heldIntS_l0 Wh.laws_heldIntS_l0_y x_18) (fun y_19 =>
      let v_21 : Int := Prod.fst y_19
      some (v_21, ())) (fun z_20 =>
      let k_22 : Int := Prod.fst z_20
      some (k_22, ()))
  else none
def Wh.laws_heldIntS' (xs : (List (Int)) × (Int)) : ((Int)) × (Unit) := match Wh.laws_heldIntS xs with | some y => y | none => default
theorem Wh.laws_heldIntS_v (x : (List (Int)) × (Int)) (y : ((Int)) × (Unit)) (h : Wh.laws_heldIntS x = some y) : Wh.laws_heldIntS' x = y := by unfold Wh.laws_heldIntS'; rw [h]

def Wh.laws_heldPlan (xs : (tImplPlan.D) × (Int)) : Option (((Int)) × (Unit)) :=
  let a_0 : tImplPlan.D := Prod.fst xs
  let k_1 : Int := Prod.snd xs
  let v_2 : Int := Prod.fst (Wh.laws_heldIntS' (Prod.fst (Prod.snd (Prod.snd a_0)), k_1))
  bif allB [Go.Ab.isSm (Wh.laws_heldIntS (Prod.fst (Prod.snd (Prod.snd a_0)), k_1))] then
    let v_3 : Bool := Decidable.decide (v_2 < (0 : Int))
    bif v_3 then
      some ((-1 : Int), ())
    else
      let v_4 : Int := Prod.fst (Wh.laws_heldIntS' (Prod.fst (Prod.snd (Prod.snd (Prod.snd a_0))), v_2))
      bif allB [Go.Ab.isSm (Wh.laws_heldIntS (Prod.fst (Prod.snd (Prod.snd (Prod.snd a_0))), v_2))] then
        let v_5 : Bool := Decidable.decide (v_4 < (0 : Int))
        bif v_5 then
          some ((-1 : Int), ())
        else
          some (v_4, ())
      else none
  else none
def Wh.laws_heldPlan' (xs : (tImplPlan.D) × (Int)) : ((Int)) × (Unit) := match Wh.laws_heldPlan xs with | some y => y | none => default
theorem Wh.laws_heldPlan_v (x : (tImplPlan.D) × (Int)) (y : ((Int)) × (Unit)) (h : Wh.laws_heldPlan x = some y) : Wh.laws_heldPlan' x = y := by unfold Wh.laws_heldPlan'; rw [h]

def Wh.laws_heldEqS_l0 (x : ((Int) × (List (tImplEq.D)) × (Int)) × (Unit)) : Option ((((Int) × (List (tImplEq.D)) × (Int)) × (Unit)) ⊕ ((((Int)) × (Unit)) ⊕ (((Int)) × (Unit)))) :=
  let i_14 : Int := Prod.fst (Prod.fst x)
  let a_15 : List (tImplEq.D) := Prod.fst (Prod.snd (Prod.fst x))
  let k_16 : Int := Prod.snd (Prod.snd (Prod.fst x))
  let v_17 : Int := (↑(List.length a_15) : Int)
  let v_18 : Bool := Decidable.decide (i_14 < v_17)
  bif v_18 then
    let v_19 : tImplEq.D := List.getD a_15 (Int.toNat i_14) ([], [], ())
    let k_21 : Int := Prod.fst (Wh.laws_heldIntS' (Prod.fst v_19, k_16))
    bif allB [Go.Ab.isSm (Wh.laws_heldIntS (Prod.fst v_19, k_16)), Decidable.decide ((0 : Int) ≤ i_14), Decidable.decide (i_14 < v_17)] then
      let v_22 : Bool := Decidable.decide (k_21 < (0 : Int))
      bif v_22 then
        some (.inr (.inl ((-1 : Int), ())))
      else
        let v_23 : Bool := !Prod.fst (Prod.snd v_19) == Prod.fst (Wh.laws_markText' k_21)
        bif allB [Go.Ab.isSm (Wh.laws_markText k_21), Decidable.decide ((0 : Int) ≤ i_14), Decidable.decide (i_14 < v_17)] then
          bif v_23 then
            some (.inr (.inl ((-1 : Int), ())))
          else
            let v_24 : Int := Go.IntKind.wrap Go.IntKind.i64 (k_21 + (1 : Int))
            let v_25 : Int := Go.IntKind.wrap Go.IntKind.i64 (i_14 + (1 : Int))
            some (.inl ((v_25, a_15, v_24), ()))
        else none
    else none
  else
    some (.inr (.inr (k_16, ())))
def Wh.laws_heldEqS_l0_y : (((Int)) × (Unit)) ⊕ (((Int)) × (Unit)) := .inl default
def Wh.laws_heldEqS (xs : (List (tImplEq.D)) × (Int)) : Option (((Int)) × (Unit)) :=
  let a_0 : List (tImplEq.D) := Prod.fst xs
  let k_1 : Int := Prod.snd xs
  let x_26 : ((Int) × (List (tImplEq.D)) × (Int)) × (Unit) := (((0 : Int), a_0, k_1), ())
  bif comesB Wh.laws_heldEqS_l0 x_26 then
    sumC (comesV Wh.laws_heldEqS_l0 Wh.laws_heldEqS_l0_y x_26) (fun y_27 =>
      let v_29 : Int := Prod.fst y_27
      some (v_29, ())) (fun z_28 =>
      let k_30 : Int := Prod.fst z_28
      some (k_30, ()))
  else none
def Wh.laws_heldEqS' (xs : (List (tImplEq.D)) × (Int)) : ((Int)) × (Unit) := match Wh.laws_heldEqS xs with | some y => y | none => default
theorem Wh.laws_heldEqS_v (x : (List (tImplEq.D)) × (Int)) (y : ((Int)) × (Unit)) (h : Wh.laws_heldEqS x = some y) : Wh.laws_heldEqS' x = y := by unfold Wh.laws_heldEqS'; rw [h]

def Wh.laws_heldSolver (xs : (tImplSolver.D) × (Int)) : Option (((Int)) × (Unit)) :=
  let a_0 : tImplSolver.D := Prod.fst xs
  let k_1 : Int := Prod.snd xs
  let v_2 : Int := Prod.fst (Wh.laws_heldEqS' (Prod.fst (Prod.snd (Prod.snd a_0)), k_1))
  bif allB [Go.Ab.isSm (Wh.laws_heldEqS (Prod.fst (Prod.snd (Prod.snd a_0)), k_1))] then
    let v_3 : Bool := Decidable.decide (v_2 < (0 : Int))
    bif v_3 then
      some ((-1 : Int), ())
    else
      some (v_2, ())
  else none
def Wh.laws_heldSolver' (xs : (tImplSolver.D) × (Int)) : ((Int)) × (Unit) := match Wh.laws_heldSolver xs with | some y => y | none => default
theorem Wh.laws_heldSolver_v (x : (tImplSolver.D) × (Int)) (y : ((Int)) × (Unit)) (h : Wh.laws_heldSolver x = some y) : Wh.laws_heldSolver' x = y := by unfold Wh.laws_heldSolver'; rw [h]

def Wh.laws_heldGetting (xs : (tImplGetting.D) × (Int)) : Option (((Int)) × (Unit)) :=
  let a_0 : tImplGetting.D := Prod.fst xs
  let k_1 : Int := Prod.snd xs
  let v_2 : Int := Prod.fst (Wh.laws_heldPlan' (Prod.fst a_0, k_1))
  bif allB [Go.Ab.isSm (Wh.laws_heldPlan (Prod.fst a_0, k_1))] then
    let v_3 : Bool := Decidable.decide (v_2 < (0 : Int))
    bif v_3 then
      some ((-1 : Int), ())
    else
      let v_4 : Int := Prod.fst (Wh.laws_heldSolver' (Prod.fst (Prod.snd a_0), v_2))
      bif allB [Go.Ab.isSm (Wh.laws_heldSolver (Prod.fst (Prod.snd a_0), v_2))] then
        let v_5 : Bool := Decidable.decide (v_4 < (0 : Int))
        bif v_5 then
          some ((-1 : Int), ())
        else
          some (v_4, ())
      else none
  else none
def Wh.laws_heldGetting' (xs : (tImplGetting.D) × (Int)) : ((Int)) × (Unit) := match Wh.laws_heldGetting xs with | some y => y | none => default
theorem Wh.laws_heldGetting_v (x : (tImplGetting.D) × (Int)) (y : ((Int)) × (Unit)) (h : Wh.laws_heldGetting x = some y) : Wh.laws_heldGetting' x = y := by unfold Wh.laws_heldGetting'; rw [h]

def Wh.laws_heldClient (xs : (tImplClient.D) × (Int)) : Option (((Int)) × (Unit)) :=
  let a_0 : tImplClient.D := Prod.fst xs
  let k_1 : Int := Prod.snd xs
  let v_2 : Int := Prod.fst (Wh.laws_heldGetting' (Prod.fst (Prod.snd (Prod.snd (Prod.snd (Prod.snd (Prod.snd a_0))))), k_1))
  bif allB [Go.Ab.isSm (Wh.laws_heldGetting (Prod.fst (Prod.snd (Prod.snd (Prod.snd (Prod.snd (Prod.snd a_0))))), k_1))] then
    let v_3 : Bool := Decidable.decide (v_2 < (0 : Int))
    bif v_3 then
      some ((-1 : Int), ())
    else
      some (v_2, ())
  else none
def Wh.laws_heldClient' (xs : (tImplClient.D) × (Int)) : ((Int)) × (Unit) := match Wh.laws_heldClient xs with | some y => y | none => default
theorem Wh.laws_heldClient_v (x : (tImplClient.D) × (Int)) (y : ((Int)) × (Unit)) (h : Wh.laws_heldClient x = some y) : Wh.laws_heldClient' x = y := by unfold Wh.laws_heldClient'; rw [h]

def Wh.laws_FnExactClientStop (xs : (tImplClient.D)) : Option (((Bool)) × (Unit)) :=
  let aC_0 : tImplClient.D := xs
  let v_1 : Int := Prod.fst (Wh.laws_szClient' (aC_0, (1048576 : Int)))
  bif allB [Go.Ab.isSm (Wh.laws_szClient (aC_0, (1048576 : Int)))] then
    let v_2 : Bool := Decidable.decide (v_1 < (0 : Int))
    bif v_2 then
      some (Bool.true, ())
    else
      let pb_3 : List (tImplEq.D) := Prod.fst (Prod.snd (Prod.snd (Prod.fst (Prod.snd (Prod.fst (Prod.snd (Prod.snd (Prod.snd (Prod.snd (Prod.snd (Prod.fst (Wh.laws_toClient' aC_0))))))))))))
      let pb_4 : List Int := Prod.fst (Prod.snd (Prod.snd (Prod.snd (Prod.fst (Prod.fst (Prod.snd (Prod.snd (Prod.snd (Prod.snd (Prod.snd (Prod.fst (Wh.laws_toClient' aC_0))))))))))))
      let pb_5 : List Int := Prod.fst (Prod.snd (Prod.snd (Prod.fst (Prod.fst (Prod.snd (Prod.snd (Prod.snd (Prod.snd (Prod.snd (Prod.fst (Wh.laws_toClient' aC_0)))))))))))
      let pb_6 : List (tImplWord.D) := Prod.snd (Prod.fst (Wh.spec_ClientStop' (Prod.fst (Prod.fst (Wh.laws_toClient' aC_0)), Prod.fst (Prod.snd (Prod.fst (Wh.laws_toClient' aC_0))), Prod.fst (Prod.snd (Prod.snd (Prod.fst (Wh.laws_toClient' aC_0)))), Prod.fst (Prod.snd (Prod.snd (Prod.snd (Prod.fst (Wh.laws_toClient' aC_0))))), Prod.fst (Prod.snd (Prod.snd (Prod.snd (Prod.snd (Prod.fst (Wh.laws_toClient' aC_0)))))), ((Prod.fst (Prod.fst (Prod.fst (Prod.snd (Prod.snd (Prod.snd (Prod.snd (Prod.snd (Prod.fst (Wh.laws_toClient' aC_0))))))))), Prod.fst (Prod.snd (Prod.fst (Prod.fst (Prod.snd (Prod.snd (Prod.snd (Prod.snd (Prod.snd (Prod.fst (Wh.laws_toClient' aC_0)))))))))), pb_5, pb_4, Prod.snd (Prod.snd (Prod.snd (Prod.snd (Prod.fst (Prod.fst (Prod.snd (Prod.snd (Prod.snd (Prod.snd (Prod.snd (Prod.fst (Wh.laws_toClient' aC_0))))))))))))), (Prod.fst (Prod.fst (Prod.snd (Prod.fst (Prod.snd (Prod.snd (Prod.snd (Prod.snd (Prod.snd (Prod.fst (Wh.laws_toClient' aC_0)))))))))), Prod.fst (Prod.snd (Prod.fst (Prod.snd (Prod.fst (Prod.snd (Prod.snd (Prod.snd (Prod.snd (Prod.snd (Prod.fst (Wh.laws_toClient' aC_0))))))))))), pb_3, Prod.snd (Prod.snd (Prod.snd (Prod.fst (Prod.snd (Prod.fst (Prod.snd (Prod.snd (Prod.snd (Prod.snd (Prod.snd (Prod.fst (Wh.laws_toClient' aC_0))))))))))))), Prod.snd (Prod.snd (Prod.fst (Prod.snd (Prod.snd (Prod.snd (Prod.snd (Prod.snd (Prod.fst (Wh.laws_toClient' aC_0)))))))))), Prod.snd (Prod.snd (Prod.snd (Prod.snd (Prod.snd (Prod.snd (Prod.fst (Wh.laws_toClient' aC_0))))))))))
      let pb_7 : List (tImplEq.D) := Prod.fst (Prod.snd (Prod.snd (Prod.fst (Prod.snd (Prod.fst (Prod.snd (Prod.snd (Prod.snd (Prod.snd (Prod.snd (Prod.fst (Prod.fst (Wh.spec_ClientStop' (Prod.fst (Prod.fst (Wh.laws_toClient' aC_0)), Prod.fst (Prod.snd (Prod.fst (Wh.laws_toClient' aC_0))), Prod.fst (Prod.snd (Prod.snd (Prod.fst (Wh.laws_toClient' aC_0)))), Prod.fst (Prod.snd (Prod.snd (Prod.snd (Prod.fst (Wh.laws_toClient' aC_0))))), Prod.fst (Prod.snd (Prod.snd (Prod.snd (Prod.snd (Prod.fst (Wh.laws_toClient' aC_0)))))), ((Prod.fst (Prod.fst (Prod.fst (Prod.snd (Prod.snd (Prod.snd (Prod.snd (Prod.snd (Prod.fst (Wh.laws_toClient' aC_0))))))))), Prod.fst (Prod.snd (Prod.fst (Prod.fst (Prod.snd (Prod.snd (Prod.snd (Prod.snd (Prod.snd (Prod.fst (Wh.laws_toClient' aC_0)))))))))), pb_5, pb_4, Prod.snd (Prod.snd (Prod.snd (Prod.snd (Prod.fst (Prod.fst (Prod.snd (Prod.snd (Prod.snd (Prod.snd (Prod.snd (Prod.fst (Wh.laws_toClient' aC_0))))))))))))), (Prod.fst (Prod.fst (Prod.snd (Prod.fst (Prod.snd (Prod.snd (Prod.snd (Prod.snd (Prod.snd (Prod.fst (Wh.laws_toClient' aC_0)))))))))), Prod.fst (Prod.snd (Prod.fst (Prod.snd (Prod.fst (Prod.snd (Prod.snd (Prod.snd (Prod.snd (Prod.snd (Prod.fst (Wh.laws_toClient' aC_0))))))))))), pb_3, Prod.snd (Prod.snd (Prod.snd (Prod.fst (Prod.snd (Prod.fst (Prod.snd (Prod.snd (Prod.snd (Prod.snd (Prod.snd (Prod.fst (Wh.laws_toClient' aC_0))))))))))))), Prod.snd (Prod.snd (Prod.fst (Prod.snd (Prod.snd (Prod.snd (Prod.snd (Prod.snd (Prod.fst (Wh.laws_toClient' aC_0)))))))))), Prod.snd (Prod.snd (Prod.snd (Prod.snd (Prod.snd (Prod.snd (Prod.fst (Wh.laws_toClient' aC_0)))))))))))))))))))))
      let pb_8 : List Int := Prod.fst (Prod.snd (Prod.snd (Prod.snd (Prod.fst (Prod.fst (Prod.snd (Prod.snd (Prod.snd (Prod.snd (Prod.snd (Prod.fst (Prod.fst (Wh.spec_ClientStop' (Prod.fst (Prod.fst (Wh.laws_toClient' aC_0)), Prod.fst (Prod.snd (Prod.fst (Wh.laws_toClient' aC_0))), Prod.fst (Prod.snd (Prod.snd (Prod.fst (Wh.laws_toClient' aC_0)))), Prod.fst (Prod.snd (Prod.snd (Prod.snd (Prod.fst (Wh.laws_toClient' aC_0))))), Prod.fst (Prod.snd (Prod.snd (Prod.snd (Prod.snd (Prod.fst (Wh.laws_toClient' aC_0)))))), ((Prod.fst (Prod.fst (Prod.fst (Prod.snd (Prod.snd (Prod.snd (Prod.snd (Prod.snd (Prod.fst (Wh.laws_toClient' aC_0))))))))), Prod.fst (Prod.snd (Prod.fst (Prod.fst (Prod.snd (Prod.snd (Prod.snd (Prod.snd (Prod.snd (Prod.fst (Wh.laws_toClient' aC_0)))))))))), pb_5, pb_4, Prod.snd (Prod.snd (Prod.snd (Prod.snd (Prod.fst (Prod.fst (Prod.snd (Prod.snd (Prod.snd (Prod.snd (Prod.snd (Prod.fst (Wh.laws_toClient' aC_0))))))))))))), (Prod.fst (Prod.fst (Prod.snd (Prod.fst (Prod.snd (Prod.snd (Prod.snd (Prod.snd (Prod.snd (Prod.fst (Wh.laws_toClient' aC_0)))))))))), Prod.fst (Prod.snd (Prod.fst (Prod.snd (Prod.fst (Prod.snd (Prod.snd (Prod.snd (Prod.snd (Prod.snd (Prod.fst (Wh.laws_toClient' aC_0))))))))))), pb_3, Prod.snd (Prod.snd (Prod.snd (Prod.fst (Prod.snd (Prod.fst (Prod.snd (Prod.snd (Prod.snd (Prod.snd (Prod.snd (Prod.fst (Wh.laws_toClient' aC_0))))))))))))), Prod.snd (Prod.snd (Prod.fst (Prod.snd (Prod.snd (Prod.snd (Prod.snd (Prod.snd (Prod.fst (Wh.laws_toClient' aC_0)))))))))), Prod.snd (Prod.snd (Prod.snd (Prod.snd (Prod.snd (Prod.snd (Prod.fst (Wh.laws_toClient' aC_0)))))))))))))))))))))
      let pb_9 : List Int := Prod.fst (Prod.snd (Prod.snd (Prod.fst (Prod.fst (Prod.snd (Prod.snd (Prod.snd (Prod.snd (Prod.snd (Prod.fst (Prod.fst (Wh.spec_ClientStop' (Prod.fst (Prod.fst (Wh.laws_toClient' aC_0)), Prod.fst (Prod.snd (Prod.fst (Wh.laws_toClient' aC_0))), Prod.fst (Prod.snd (Prod.snd (Prod.fst (Wh.laws_toClient' aC_0)))), Prod.fst (Prod.snd (Prod.snd (Prod.snd (Prod.fst (Wh.laws_toClient' aC_0))))), Prod.fst (Prod.snd (Prod.snd (Prod.snd (Prod.snd (Prod.fst (Wh.laws_toClient' aC_0)))))), ((Prod.fst (Prod.fst (Prod.fst (Prod.snd (Prod.snd (Prod.snd (Prod.snd (Prod.snd (Prod.fst (Wh.laws_toClient' aC_0))))))))), Prod.fst (Prod.snd (Prod.fst (Prod.fst (Prod.snd (Prod.snd (Prod.snd (Prod.snd (Prod.snd (Prod.fst (Wh.laws_toClient' aC_0)))))))))), pb_5, pb_4, Prod.snd (Prod.snd (Prod.snd (Prod.snd (Prod.fst (Prod.fst (Prod.snd (Prod.snd (Prod.snd (Prod.snd (Prod.snd (Prod.fst (Wh.laws_toClient' aC_0))))))))))))), (Prod.fst (Prod.fst (Prod.snd (Prod.fst (Prod.snd (Prod.snd (Prod.snd (Prod.snd (Prod.snd (Prod.fst (Wh.laws_toClient' aC_0)))))))))), Prod.fst (Prod.snd (Prod.fst (Prod.snd (Prod.fst (Prod.snd (Prod.snd (Prod.snd (Prod.snd (Prod.snd (Prod.fst (Wh.laws_toClient' aC_0))))))))))), pb_3, Prod.snd (Prod.snd (Prod.snd (Prod.fst (Prod.snd (Prod.fst (Prod.snd (Prod.snd (Prod.snd (Prod.snd (Prod.snd (Prod.fst (Wh.laws_toClient' aC_0))))))))))))), Prod.snd (Prod.snd (Prod.fst (Prod.snd (Prod.snd (Prod.snd (Prod.snd (Prod.snd (Prod.fst (Wh.laws_toClient' aC_0)))))))))), Prod.snd (Prod.snd (Prod.snd (Prod.snd (Prod.snd (Prod.snd (Prod.fst (Wh.laws_toClient' aC_0))))))))))))))))))))
      let pb_10 : PUnit := Prod.snd (Prod.snd (Prod.snd (Prod.snd (Prod.snd (Prod.snd (Prod.fst (Prod.fst (Wh.spec_ClientStop' (Prod.fst (Prod.fst (Wh.laws_toClient' aC_0)), Prod.fst (Prod.snd (Prod.fst (Wh.laws_toClient' aC_0))), Prod.fst (Prod.snd (Prod.snd (Prod.fst (Wh.laws_toClient' aC_0)))), Prod.fst (Prod.snd (Prod.snd (Prod.snd (Prod.fst (Wh.laws_toClient' aC_0))))), Prod.fst (Prod.snd (Prod.snd (Prod.snd (Prod.snd (Prod.fst (Wh.laws_toClient' aC_0)))))), ((Prod.fst (Prod.fst (Prod.fst (Prod.snd (Prod.snd (Prod.snd (Prod.snd (Prod.snd (Prod.fst (Wh.laws_toClient' aC_0))))))))), Prod.fst (Prod.snd (Prod.fst (Prod.fst (Prod.snd (Prod.snd (Prod.snd (Prod.snd (Prod.snd (Prod.fst (Wh.laws_toClient' aC_0)))))))))), pb_5, pb_4, Prod.snd (Prod.snd (Prod.snd (Prod.snd (Prod.fst (Prod.fst (Prod.snd (Prod.snd (Prod.snd (Prod.snd (Prod.snd (Prod.fst (Wh.laws_toClient' aC_0))))))))))))), (Prod.fst (Prod.fst (Prod.snd (Prod.fst (Prod.snd (Prod.snd (Prod.snd (Prod.snd (Prod.snd (Prod.fst (Wh.laws_toClient' aC_0)))))))))), Prod.fst (Prod.snd (Prod.fst (Prod.snd (Prod.fst (Prod.snd (Prod.snd (Prod.snd (Prod.snd (Prod.snd (Prod.fst (Wh.laws_toClient' aC_0))))))))))), pb_3, Prod.snd (Prod.snd (Prod.snd (Prod.fst (Prod.snd (Prod.fst (Prod.snd (Prod.snd (Prod.snd (Prod.snd (Prod.snd (Prod.fst (Wh.laws_toClient' aC_0))))))))))))), Prod.snd (Prod.snd (Prod.fst (Prod.snd (Prod.snd (Prod.snd (Prod.snd (Prod.snd (Prod.fst (Wh.laws_toClient' aC_0)))))))))), Prod.snd (Prod.snd (Prod.snd (Prod.snd (Prod.snd (Prod.snd (Prod.fst (Wh.laws_toClient' aC_0))))))))))))))))
      let pb_11 : PUnit := Prod.snd (Prod.snd (Prod.fst (Prod.snd (Prod.snd (Prod.snd (Prod.snd (Prod.snd (Prod.fst (Prod.fst (Wh.spec_ClientStop' (Prod.fst (Prod.fst (Wh.laws_toClient' aC_0)), Prod.fst (Prod.snd (Prod.fst (Wh.laws_toClient' aC_0))), Prod.fst (Prod.snd (Prod.snd (Prod.fst (Wh.laws_toClient' aC_0)))), Prod.fst (Prod.snd (Prod.snd (Prod.snd (Prod.fst (Wh.laws_toClient' aC_0))))), Prod.fst (Prod.snd (Prod.snd (Prod.snd (Prod.snd (Prod.fst (Wh.laws_toClient' aC_0)))))), ((Prod.fst (Prod.fst (Prod.fst (Prod.snd (Prod.snd (Prod.snd (Prod.snd (Prod.snd (Prod.fst (Wh.laws_toClient' aC_0))))))))), Prod.fst (Prod.snd (Prod.fst (Prod.fst (Prod.snd (Prod.snd (Prod.snd (Prod.snd (Prod.snd (Prod.fst (Wh.laws_toClient' aC_0)))))))))), pb_5, pb_4, Prod.snd (Prod.snd (Prod.snd (Prod.snd (Prod.fst (Prod.fst (Prod.snd (Prod.snd (Prod.snd (Prod.snd (Prod.snd (Prod.fst (Wh.laws_toClient' aC_0))))))))))))), (Prod.fst (Prod.fst (Prod.snd (Prod.fst (Prod.snd (Prod.snd (Prod.snd (Prod.snd (Prod.snd (Prod.fst (Wh.laws_toClient' aC_0)))))))))), Prod.fst (Prod.snd (Prod.fst (Prod.snd (Prod.fst (Prod.snd (Prod.snd (Prod.snd (Prod.snd (Prod.snd (Prod.fst (Wh.laws_toClient' aC_0))))))))))), pb_3, Prod.snd (Prod.snd (Prod.snd (Prod.fst (Prod.snd (Prod.fst (Prod.snd (Prod.snd (Prod.snd (Prod.snd (Prod.snd (Prod.fst (Wh.laws_toClient' aC_0))))))))))))), Prod.snd (Prod.snd (Prod.fst (Prod.snd (Prod.snd (Prod.snd (Prod.snd (Prod.snd (Prod.fst (Wh.laws_toClient' aC_0)))))))))), Prod.snd (Prod.snd (Prod.snd (Prod.snd (Prod.snd (Prod.snd (Prod.fst (Wh.laws_toClient' aC_0))))))))))))))))))
      let pb_12 : PUnit := Prod.snd (Prod.snd (Prod.snd (Prod.fst (Prod.snd (Prod.fst (Prod.snd (Prod.snd (Prod.snd (Prod.snd (Prod.snd (Prod.fst (Prod.fst (Wh.spec_ClientStop' (Prod.fst (Prod.fst (Wh.laws_toClient' aC_0)), Prod.fst (Prod.snd (Prod.fst (Wh.laws_toClient' aC_0))), Prod.fst (Prod.snd (Prod.snd (Prod.fst (Wh.laws_toClient' aC_0)))), Prod.fst (Prod.snd (Prod.snd (Prod.snd (Prod.fst (Wh.laws_toClient' aC_0))))), Prod.fst (Prod.snd (Prod.snd (Prod.snd (Prod.snd (Prod.fst (Wh.laws_toClient' aC_0)))))), ((Prod.fst (Prod.fst (Prod.fst (Prod.snd (Prod.snd (Prod.snd (Prod.snd (Prod.snd (Prod.fst (Wh.laws_toClient' aC_0))))))))), Prod.fst (Prod.snd (Prod.fst (Prod.fst (Prod.snd (Prod.snd (Prod.snd (Prod.snd (Prod.snd (Prod.fst (Wh.laws_toClient' aC_0)))))))))), pb_5, pb_4, Prod.snd (Prod.snd (Prod.snd (Prod.snd (Prod.fst (Prod.fst (Prod.snd (Prod.snd (Prod.snd (Prod.snd (Prod.snd (Prod.fst (Wh.laws_toClient' aC_0))))))))))))), (Prod.fst (Prod.fst (Prod.snd (Prod.fst (Prod.snd (Prod.snd (Prod.snd (Prod.snd (Prod.snd (Prod.fst (Wh.laws_toClient' aC_0)))))))))), Prod.fst (Prod.snd (Prod.fst (Prod.snd (Prod.fst (Prod.snd (Prod.snd (Prod.snd (Prod.snd (Prod.snd (Prod.fst (Wh.laws_toClient' aC_0))))))))))), pb_3, Prod.snd (Prod.snd (Prod.snd (Prod.fst (Prod.snd (Prod.fst (Prod.snd (Prod.snd (Prod.snd (Prod.snd (Prod.snd (Prod.fst (Wh.laws_toClient' aC_0))))))))))))), Prod.snd (Prod.snd (Prod.fst (Prod.snd (Prod.snd (Prod.snd (Prod.snd (Prod.snd (Prod.fst (Wh.laws_toClient' aC_0)))))))))), Prod.snd (Prod.snd (Prod.snd (Prod.snd (Prod.snd (Prod.snd (Prod.fst (Wh.laws_toClient' aC_0)))))))))))))))))))))
      let pb_13 : Int := Prod.fst (Prod.snd (Prod.fst (Prod.snd (Prod.fst (Prod.snd (Prod.snd (Prod.snd (Prod.snd (Prod.snd (Prod.fst (Prod.fst (Wh.spec_ClientStop' (Prod.fst (Prod.fst (Wh.laws_toClient' aC_0)), Prod.fst (Prod.snd (Prod.fst (Wh.laws_toClient' aC_0))), Prod.fst (Prod.snd (Prod.snd (Prod.fst (Wh.laws_toClient' aC_0)))), Prod.fst (Prod.snd (Prod.snd (Prod.snd (Prod.fst (Wh.laws_toClient' aC_0))))), Prod.fst (Prod.snd (Prod.snd (Prod.snd (Prod.snd (Prod.fst (Wh.laws_toClient' aC_0)))))), ((Prod.fst (Prod.fst (Prod.fst (Prod.snd (Prod.snd (Prod.snd (Prod.snd (Prod.snd (Prod.fst (Wh.laws_toClient' aC_0))))))))), Prod.fst (Prod.snd (Prod.fst (Prod.fst (Prod.snd (Prod.snd (Prod.snd (Prod.snd (Prod.snd (Prod.fst (Wh.laws_toClient' aC_0)))))))))), pb_5, pb_4, Prod.snd (Prod.snd (Prod.snd (Prod.snd (Prod.fst (Prod.fst (Prod.snd (Prod.snd (Prod.snd (Prod.snd (Prod.snd (Prod.fst (Wh.laws_toClient' aC_0))))))))))))), (Prod.fst (Prod.fst (Prod.snd (Prod.fst (Prod.snd (Prod.snd (Prod.snd (Prod.snd (Prod.snd (Prod.fst (Wh.laws_toClient' aC_0)))))))))), Prod.fst (Prod.snd (Prod.fst (Prod.snd (Prod.fst (Prod.snd (Prod.snd (Prod.snd (Prod.snd (Prod.snd (Prod.fst (Wh.laws_toClient' aC_0))))))))))), pb_3, Prod.snd (Prod.snd (Prod.snd (Prod.fst (Prod.snd (Prod.fst (Prod.snd (Prod.snd (Prod.snd (Prod.snd (Prod.snd (Prod.fst (Wh.laws_toClient' aC_0))))))))))))), Prod.snd (Prod.snd (Prod.fst (Prod.snd (Prod.snd (Prod.snd (Prod.snd (Prod.snd (Prod.fst (Wh.laws_toClient' aC_0)))))))))), Prod.snd (Prod.snd (Prod.snd (Prod.snd (Prod.snd (Prod.snd (Prod.fst (Wh.laws_toClient' aC_0))))))))))))))))))))
      let pb_14 : Int := Prod.fst (Prod.fst (Prod.snd (Prod.fst (Prod.snd (Prod.snd (Prod.snd (Prod.snd (Prod.snd (Prod.fst (Prod.fst (Wh.spec_ClientStop' (Prod.fst (Prod.fst (Wh.laws_toClient' aC_0)), Prod.fst (Prod.snd (Prod.fst (Wh.laws_toClient' aC_0))), Prod.fst (Prod.snd (Prod.snd (Prod.fst (Wh.laws_toClient' aC_0)))), Prod.fst (Prod.snd (Prod.snd (Prod.snd (Prod.fst (Wh.laws_toClient' aC_0))))), Prod.fst (Prod.snd (Prod.snd (Prod.snd (Prod.snd (Prod.fst (Wh.laws_toClient' aC_0)))))), ((Prod.fst (Prod.fst (Prod.fst (Prod.snd (Prod.snd (Prod.snd (Prod.snd (Prod.snd (Prod.fst (Wh.laws_toClient' aC_0))))))))), Prod.fst (Prod.snd (Prod.fst (Prod.fst (Prod.snd (Prod.snd (Prod.snd (Prod.snd (Prod.snd (Prod.fst (Wh.laws_toClient' aC_0)))))))))), pb_5, pb_4, Prod.snd (Prod.snd (Prod.snd (Prod.snd (Prod.fst (Prod.fst (Prod.snd (Prod.snd (Prod.snd (Prod.snd (Prod.snd (Prod.fst (Wh.laws_toClient' aC_0))))))))))))), (Prod.fst (Prod.fst (Prod.snd (Prod.fst (Prod.snd (Prod.snd (Prod.snd (Prod.snd (Prod.snd (Prod.fst (Wh.laws_toClient' aC_0)))))))))), Prod.fst (Prod.snd (Prod.fst (Prod.snd (Prod.fst (Prod.snd (Prod.snd (Prod.snd (Prod.snd (Prod.snd (Prod.fst (Wh.laws_toClient' aC_0))))))))))), pb_3, Prod.snd (Prod.snd (Prod.snd (Prod.fst (Prod.snd (Prod.fst (Prod.snd (Prod.snd (Prod.snd (Prod.snd (Prod.snd (Prod.fst (Wh.laws_toClient' aC_0))))))))))))), Prod.snd (Prod.snd (Prod.fst (Prod.snd (Prod.snd (Prod.snd (Prod.snd (Prod.snd (Prod.fst (Wh.laws_toClient' aC_0)))))))))), Prod.snd (Prod.snd (Prod.snd (Prod.snd (Prod.snd (Prod.snd (Prod.fst (Wh.laws_toClient' aC_0)))))))))))))))))))
      let pb_15 : PUnit := Prod.snd (Prod.snd (Prod.snd (Prod.snd (Prod.fst (Prod.fst (Prod.snd (Prod.snd (Prod.snd (Prod.snd (Prod.snd (Prod.fst (Prod.fst (Wh.spec_ClientStop' (Prod.fst (Prod.fst (Wh.laws_toClient' aC_0)), Prod.fst (Prod.snd (Prod.fst (Wh.laws_toClient' aC_0))), Prod.fst (Prod.snd (Prod.snd (Prod.fst (Wh.laws_toClient' aC_0)))), Prod.fst (Prod.snd (Prod.snd (Prod.snd (Prod.fst (Wh.laws_toClient' aC_0))))), Prod.fst (Prod.snd (Prod.snd (Prod.snd (Prod.snd (Prod.fst (Wh.laws_toClient' aC_0)))))), ((Prod.fst (Prod.fst (Prod.fst (Prod.snd (Prod.snd (Prod.snd (Prod.snd (Prod.snd (Prod.fst (Wh.laws_toClient' aC_0))))))))), Prod.fst (Prod.snd (Prod.fst (Prod.fst (Prod.snd (Prod.snd (Prod.snd (Prod.snd (Prod.snd (Prod.fst (Wh.laws_toClient' aC_0)))))))))), pb_5, pb_4, Prod.snd (Prod.snd (Prod.snd (Prod.snd (Prod.fst (Prod.fst (Prod.snd (Prod.snd (Prod.snd (Prod.snd (Prod.snd (Prod.fst (Wh.laws_toClient' aC_0))))))))))))), (Prod.fst (Prod.fst (Prod.snd (Prod.fst (Prod.snd (Prod.snd (Prod.snd (Prod.snd (Prod.snd (Prod.fst (Wh.laws_toClient' aC_0)))))))))), Prod.fst (Prod.snd (Prod.fst (Prod.snd (Prod.fst (Prod.snd (Prod.snd (Prod.snd (Prod.snd (Prod.snd (Prod.fst (Wh.laws_toClient' aC_0))))))))))), pb_3, Prod.snd (Prod.snd (Prod.snd (Prod.fst (Prod.snd (Prod.fst (Prod.snd (Prod.snd (Prod.snd (Prod.snd (Prod.snd (Prod.fst (Wh.laws_toClient' aC_0))))))))))))), Prod.snd (Prod.snd (Prod.fst (Prod.snd (Prod.snd (Prod.snd (Prod.snd (Prod.snd (Prod.fst (Wh.laws_toClient' aC_0)))))))))), Prod.snd (Prod.snd (Prod.snd (Prod.snd (Prod.snd (Prod.snd (Prod.fst (Wh.laws_toClient' aC_0)))))))))))))))))))))
      let pb_16 : Int := Prod.fst (Prod.snd (Prod.fst (Prod.fst (Prod.snd (Prod.snd (Prod.snd (Prod.snd (Prod.snd (Prod.fst (Prod.fst (Wh.spec_ClientStop' (Prod.fst (Prod.fst (Wh.laws_toClient' aC_0)), Prod.fst (Prod.snd (Prod.fst (Wh.laws_toClient' aC_0))), Prod.fst (Prod.snd (Prod.snd (Prod.fst (Wh.laws_toClient' aC_0)))), Prod.fst (Prod.snd (Prod.snd (Prod.snd (Prod.fst (Wh.laws_toClient' aC_0))))), Prod.fst (Prod.snd (Prod.snd (Prod.snd (Prod.snd (Prod.fst (Wh.laws_toClient' aC_0)))))), ((Prod.fst (Prod.fst (Prod.fst (Prod.snd (Prod.snd (Prod.snd (Prod.snd (Prod.snd (Prod.fst (Wh.laws_toClient' aC_0))))))))), Prod.fst (Prod.snd (Prod.fst (Prod.fst (Prod.snd (Prod.snd (Prod.snd (Prod.snd (Prod.snd (Prod.fst (Wh.laws_toClient' aC_0)))))))))), pb_5, pb_4, Prod.snd (Prod.snd (Prod.snd (Prod.snd (Prod.fst (Prod.fst (Prod.snd (Prod.snd (Prod.snd (Prod.snd (Prod.snd (Prod.fst (Wh.laws_toClient' aC_0))))))))))))), (Prod.fst (Prod.fst (Prod.snd (Prod.fst (Prod.snd (Prod.snd (Prod.snd (Prod.snd (Prod.snd (Prod.fst (Wh.laws_toClient' aC_0)))))))))), Prod.fst (Prod.snd (Prod.fst (Prod.snd (Prod.fst (Prod.snd (Prod.snd (Prod.snd (Prod.snd (Prod.snd (Prod.fst (Wh.laws_toClient' aC_0))))))))))), pb_3, Prod.snd (Prod.snd (Prod.snd (Prod.fst (Prod.snd (Prod.fst (Prod.snd (Prod.snd (Prod.snd (Prod.snd (Prod.snd (Prod.fst (Wh.laws_toClient' aC_0))))))))))))), Prod.snd (Prod.snd (Prod.fst (Prod.snd (Prod.snd (Prod.snd (Prod.snd (Prod.snd (Prod.fst (Wh.laws_toClient' aC_0)))))))))), Prod.snd (Prod.snd (Prod.snd (Prod.snd (Prod.snd (Prod.snd (Prod.fst (Wh.laws_toClient' aC_0)))))))))))))))))))
      let pb_17 : Int := Prod.fst (Prod.fst (Prod.fst (Prod.snd (Prod.snd (Prod.snd (Prod.snd (Prod.snd (Prod.fst (Prod.fst (Wh.spec_ClientStop' (Prod.fst (Prod.fst (Wh.laws_toClient' aC_0)), Prod.fst (Prod.snd (Prod.fst (Wh.laws_toClient' aC_0))), Prod.fst (Prod.snd (Prod.snd (Prod.fst (Wh.laws_toClient' aC_0)))), Prod.fst (Prod.snd (Prod.snd (Prod.snd (Prod.fst (Wh.laws_toClient' aC_0))))), Prod.fst (Prod.snd (Prod.snd (Prod.snd (Prod.snd (Prod.fst (Wh.laws_toClient' aC_0)))))), ((Prod.fst (Prod.fst (Prod.fst (Prod.snd (Prod.snd (Prod.snd (Prod.snd (Prod.snd (Prod.fst (Wh.laws_toClient' aC_0))))))))), Prod.fst (Prod.snd (Prod.fst (Prod.fst (Prod.snd (Prod.snd (Prod.snd (Prod.snd (Prod.snd (Prod.fst (Wh.laws_toClient' aC_0)))))))))), pb_5, pb_4, Prod.snd (Prod.snd (Prod.snd (Prod.snd (Prod.fst (Prod.fst (Prod.snd (Prod.snd (Prod.snd (Prod.snd (Prod.snd (Prod.fst (Wh.laws_toClient' aC_0))))))))))))), (Prod.fst (Prod.fst (Prod.snd (Prod.fst (Prod.snd (Prod.snd (Prod.snd (Prod.snd (Prod.snd (Prod.fst (Wh.laws_toClient' aC_0)))))))))), Prod.fst (Prod.snd (Prod.fst (Prod.snd (Prod.fst (Prod.snd (Prod.snd (Prod.snd (Prod.snd (Prod.snd (Prod.fst (Wh.laws_toClient' aC_0))))))))))), pb_3, Prod.snd (Prod.snd (Prod.snd (Prod.fst (Prod.snd (Prod.fst (Prod.snd (Prod.snd (Prod.snd (Prod.snd (Prod.snd (Prod.fst (Wh.laws_toClient' aC_0))))))))))))), Prod.snd (Prod.snd (Prod.fst (Prod.snd (Prod.snd (Prod.snd (Prod.snd (Prod.snd (Prod.fst (Wh.laws_toClient' aC_0)))))))))), Prod.snd (Prod.snd (Prod.snd (Prod.snd (Prod.snd (Prod.snd (Prod.fst (Wh.laws_toClient' aC_0))))))))))))))))))
      let pb_18 : Int := Prod.fst (Prod.snd (Prod.snd (Prod.snd (Prod.snd (Prod.fst (Prod.fst (Wh.spec_ClientStop' (Prod.fst (Prod.fst (Wh.laws_toClient' aC_0)), Prod.fst (Prod.snd (Prod.fst (Wh.laws_toClient' aC_0))), Prod.fst (Prod.snd (Prod.snd (Prod.fst (Wh.laws_toClient' aC_0)))), Prod.fst (Prod.snd (Prod.snd (Prod.snd (Prod.fst (Wh.laws_toClient' aC_0))))), Prod.fst (Prod.snd (Prod.snd (Prod.snd (Prod.snd (Prod.fst (Wh.laws_toClient' aC_0)))))), ((Prod.fst (Prod.fst (Prod.fst (Prod.snd (Prod.snd (Prod.snd (Prod.snd (Prod.snd (Prod.fst (Wh.laws_toClient' aC_0))))))))), Prod.fst (Prod.snd (Prod.fst (Prod.fst (Prod.snd (Prod.snd (Prod.snd (Prod.snd (Prod.snd (Prod.fst (Wh.laws_toClient' aC_0)))))))))), pb_5, pb_4, Prod.snd (Prod.snd (Prod.snd (Prod.snd (Prod.fst (Prod.fst (Prod.snd (Prod.snd (Prod.snd (Prod.snd (Prod.snd (Prod.fst (Wh.laws_toClient' aC_0))))))))))))), (Prod.fst (Prod.fst (Prod.snd (Prod.fst (Prod.snd (Prod.snd (Prod.snd (Prod.snd (Prod.snd (Prod.fst (Wh.laws_toClient' aC_0)))))))))), Prod.fst (Prod.snd (Prod.fst (Prod.snd (Prod.fst (Prod.snd (Prod.snd (Prod.snd (Prod.snd (Prod.snd (Prod.fst (Wh.laws_toClient' aC_0))))))))))), pb_3, Prod.snd (Prod.snd (Prod.snd (Prod.fst (Prod.snd (Prod.fst (Prod.snd (Prod.snd (Prod.snd (Prod.snd (Prod.snd (Prod.fst (Wh.laws_toClient' aC_0))))))))))))), Prod.snd (Prod.snd (Prod.fst (Prod.snd (Prod.snd (Prod.snd (Prod.snd (Prod.snd (Prod.fst (Wh.laws_toClient' aC_0)))))))))), Prod.snd (Prod.snd (Prod.snd (Prod.snd (Prod.snd (Prod.snd (Prod.fst (Wh.laws_toClient' aC_0)))))))))))))))
      let pb_19 : List UInt8 := Prod.fst (Prod.snd (Prod.snd (Prod.snd (Prod.fst (Prod.fst (Wh.spec_ClientStop' (Prod.fst (Prod.fst (Wh.laws_toClient' aC_0)), Prod.fst (Prod.snd (Prod.fst (Wh.laws_toClient' aC_0))), Prod.fst (Prod.snd (Prod.snd (Prod.fst (Wh.laws_toClient' aC_0)))), Prod.fst (Prod.snd (Prod.snd (Prod.snd (Prod.fst (Wh.laws_toClient' aC_0))))), Prod.fst (Prod.snd (Prod.snd (Prod.snd (Prod.snd (Prod.fst (Wh.laws_toClient' aC_0)))))), ((Prod.fst (Prod.fst (Prod.fst (Prod.snd (Prod.snd (Prod.snd (Prod.snd (Prod.snd (Prod.fst (Wh.laws_toClient' aC_0))))))))), Prod.fst (Prod.snd (Prod.fst (Prod.fst (Prod.snd (Prod.snd (Prod.snd (Prod.snd (Prod.snd (Prod.fst (Wh.laws_toClient' aC_0)))))))))), pb_5, pb_4, Prod.snd (Prod.snd (Prod.snd (Prod.snd (Prod.fst (Prod.fst (Prod.snd (Prod.snd (Prod.snd (Prod.snd (Prod.snd (Prod.fst (Wh.laws_toClient' aC_0))))))))))))), (Prod.fst (Prod.fst (Prod.snd (Prod.fst (Prod.snd (Prod.snd (Prod.snd (Prod.snd (Prod.snd (Prod.fst (Wh.laws_toClient' aC_0)))))))))), Prod.fst (Prod.snd (Prod.fst (Prod.snd (Prod.fst (Prod.snd (Prod.snd (Prod.snd (Prod.snd (Prod.snd (Prod.fst (Wh.laws_toClient' aC_0))))))))))), pb_3, Prod.snd (Prod.snd (Prod.snd (Prod.fst (Prod.snd (Prod.fst (Prod.snd (Prod.snd (Prod.snd (Prod.snd (Prod.snd (Prod.fst (Wh.laws_toClient' aC_0))))))))))))), Prod.snd (Prod.snd (Prod.fst (Prod.snd (Prod.snd (Prod.snd (Prod.snd (Prod.snd (Prod.fst (Wh.laws_toClient' aC_0)))))))))), Prod.snd (Prod.snd (Prod.snd (Prod.snd (Prod.snd (Prod.snd (Prod.fst (Wh.laws_toClient' aC_0))))))))))))))
      let pb_20 : Int := Prod.fst (Prod.snd (Prod.snd (Prod.fst (Prod.fst (Wh.spec_ClientStop' (Prod.fst (Prod.fst (Wh.laws_toClient' aC_0)), Prod.fst (Prod.snd (Prod.fst (Wh.laws_toClient' aC_0))), Prod.fst (Prod.snd (Prod.snd (Prod.fst (Wh.laws_toClient' aC_0)))), Prod.fst (Prod.snd (Prod.snd (Prod.snd (Prod.fst (Wh.laws_toClient' aC_0))))), Prod.fst (Prod.snd (Prod.snd (Prod.snd (Prod.snd (Prod.fst (Wh.laws_toClient' aC_0)))))), ((Prod.fst (Prod.fst (Prod.fst (Prod.snd (Prod.snd (Prod.snd (Prod.snd (Prod.snd (Prod.fst (Wh.laws_toClient' aC_0))))))))), Prod.fst (Prod.snd (Prod.fst (Prod.fst (Prod.snd (Prod.snd (Prod.snd (Prod.snd (Prod.snd (Prod.fst (Wh.laws_toClient' aC_0)))))))))), pb_5, pb_4, Prod.snd (Prod.snd (Prod.snd (Prod.snd (Prod.fst (Prod.fst (Prod.snd (Prod.snd (Prod.snd (Prod.snd (Prod.snd (Prod.fst (Wh.laws_toClient' aC_0))))))))))))), (Prod.fst (Prod.fst (Prod.snd (Prod.fst (Prod.snd (Prod.snd (Prod.snd (Prod.snd (Prod.snd (Prod.fst (Wh.laws_toClient' aC_0)))))))))), Prod.fst (Prod.snd (Prod.fst (Prod.snd (Prod.fst (Prod.snd (Prod.snd (Prod.snd (Prod.snd (Prod.snd (Prod.fst (Wh.laws_toClient' aC_0))))))))))), pb_3, Prod.snd (Prod.snd (Prod.snd (Prod.fst (Prod.snd (Prod.fst (Prod.snd (Prod.snd (Prod.snd (Prod.snd (Prod.snd (Prod.fst (Wh.laws_toClient' aC_0))))))))))))), Prod.snd (Prod.snd (Prod.fst (Prod.snd (Prod.snd (Prod.snd (Prod.snd (Prod.snd (Prod.fst (Wh.laws_toClient' aC_0)))))))))), Prod.snd (Prod.snd (Prod.snd (Prod.snd (Prod.snd (Prod.snd (Prod.fst (Wh.laws_toClient' aC_0)))))))))))))
      let pb_21 : Int := Prod.fst (Prod.snd (Prod.fst (Prod.fst (Wh.spec_ClientStop' (Prod.fst (Prod.fst (Wh.laws_toClient' aC_0)), Prod.fst (Prod.snd (Prod.fst (Wh.laws_toClient' aC_0))), Prod.fst (Prod.snd (Prod.snd (Prod.fst (Wh.laws_toClient' aC_0)))), Prod.fst (Prod.snd (Prod.snd (Prod.snd (Prod.fst (Wh.laws_toClient' aC_0))))), Prod.fst (Prod.snd (Prod.snd (Prod.snd (Prod.snd (Prod.fst (Wh.laws_toClient' aC_0)))))), ((Prod.fst (Prod.fst (Prod.fst (Prod.snd (Prod.snd (Prod.snd (Prod.snd (Prod.snd (Prod.fst (Wh.laws_toClient' aC_0))))))))), Prod.fst (Prod.snd (Prod.fst (Prod.fst (Prod.snd (Prod.snd (Prod.snd (Prod.snd (Prod.snd (Prod.fst (Wh.laws_toClient' aC_0)))))))))), pb_5, pb_4, Prod.snd (Prod.snd (Prod.snd (Prod.snd (Prod.fst (Prod.fst (Prod.snd (Prod.snd (Prod.snd (Prod.snd (Prod.snd (Prod.fst (Wh.laws_toClient' aC_0))))))))))))), (Prod.fst (Prod.fst (Prod.snd (Prod.fst (Prod.snd (Prod.snd (Prod.snd (Prod.snd (Prod.snd (Prod.fst (Wh.laws_toClient' aC_0)))))))))), Prod.fst (Prod.snd (Prod.fst (Prod.snd (Prod.fst (Prod.snd (Prod.snd (Prod.snd (Prod.snd (Prod.snd (Prod.fst (Wh.laws_toClient' aC_0))))))))))), pb_3, Prod.snd (Prod.snd (Prod.snd (Prod.fst (Prod.snd (Prod.fst (Prod.snd (Prod.snd (Prod.snd (Prod.snd (Prod.snd (Prod.fst (Wh.laws_toClient' aC_0))))))))))))), Prod.snd (Prod.snd (Prod.fst (Prod.snd (Prod.snd (Prod.snd (Prod.snd (Prod.snd (Prod.fst (Wh.laws_toClient' aC_0)))))))))), Prod.snd (Prod.snd (Prod.snd (Prod.snd (Prod.snd (Prod.snd (Prod.fst (Wh.laws_toClient' aC_0))))))))))))
      let pb_22 : Int := Prod.fst (Prod.fst (Prod.fst (Wh.spec_ClientStop' (Prod.fst (Prod.fst (Wh.laws_toClient' aC_0)), Prod.fst (Prod.snd (Prod.fst (Wh.laws_toClient' aC_0))), Prod.fst (Prod.snd (Prod.snd (Prod.fst (Wh.laws_toClient' aC_0)))), Prod.fst (Prod.snd (Prod.snd (Prod.snd (Prod.fst (Wh.laws_toClient' aC_0))))), Prod.fst (Prod.snd (Prod.snd (Prod.snd (Prod.snd (Prod.fst (Wh.laws_toClient' aC_0)))))), ((Prod.fst (Prod.fst (Prod.fst (Prod.snd (Prod.snd (Prod.snd (Prod.snd (Prod.snd (Prod.fst (Wh.laws_toClient' aC_0))))))))), Prod.fst (Prod.snd (Prod.fst (Prod.fst (Prod.snd (Prod.snd (Prod.snd (Prod.snd (Prod.snd (Prod.fst (Wh.laws_toClient' aC_0)))))))))), pb_5, pb_4, Prod.snd (Prod.snd (Prod.snd (Prod.snd (Prod.fst (Prod.fst (Prod.snd (Prod.snd (Prod.snd (Prod.snd (Prod.snd (Prod.fst (Wh.laws_toClient' aC_0))))))))))))), (Prod.fst (Prod.fst (Prod.snd (Prod.fst (Prod.snd (Prod.snd (Prod.snd (Prod.snd (Prod.snd (Prod.fst (Wh.laws_toClient' aC_0)))))))))), Prod.fst (Prod.snd (Prod.fst (Prod.snd (Prod.fst (Prod.snd (Prod.snd (Prod.snd (Prod.snd (Prod.snd (Prod.fst (Wh.laws_toClient' aC_0))))))))))), pb_3, Prod.snd (Prod.snd (Prod.snd (Prod.fst (Prod.snd (Prod.fst (Prod.snd (Prod.snd (Prod.snd (Prod.snd (Prod.snd (Prod.fst (Wh.laws_toClient' aC_0))))))))))))), Prod.snd (Prod.snd (Prod.fst (Prod.snd (Prod.snd (Prod.snd (Prod.snd (Prod.snd (Prod.fst (Wh.laws_toClient' aC_0)))))))))), Prod.snd (Prod.snd (Prod.snd (Prod.snd (Prod.snd (Prod.snd (Prod.fst (Wh.laws_toClient' aC_0)))))))))))
      let v_23 : PUnit := Prod.snd (Prod.snd (Prod.snd (Prod.snd (Prod.snd (Prod.snd (Prod.fst (Wh.laws_toClient' aC_0)))))))
      let v_24 : PUnit := Prod.snd (Prod.snd (Prod.fst (Prod.snd (Prod.snd (Prod.snd (Prod.snd (Prod.snd (Prod.fst (Wh.laws_toClient' aC_0)))))))))
      let v_25 : PUnit := Prod.snd (Prod.snd (Prod.snd (Prod.fst (Prod.snd (Prod.fst (Prod.snd (Prod.snd (Prod.snd (Prod.snd (Prod.snd (Prod.fst (Wh.laws_toClient' aC_0))))))))))))
      let v_26 : Int := Prod.fst (Prod.snd (Prod.fst (Prod.snd (Prod.fst (Prod.snd (Prod.snd (Prod.snd (Prod.snd (Prod.snd (Prod.fst (Wh.laws_toClient' aC_0)))))))))))
      let v_27 : Int := Prod.fst (Prod.fst (Prod.snd (Prod.fst (Prod.snd (Prod.snd (Prod.snd (Prod.snd (Prod.snd (Prod.fst (Wh.laws_toClient' aC_0))))))))))
      let v_28 : PUnit := Prod.snd (Prod.snd (Prod.snd (Prod.snd (Prod.fst (Prod.fst (Prod.snd (Prod.snd (Prod.snd (Prod.snd (Prod.snd (Prod.fst (Wh.laws_toClient' aC_0))))))))))))
      let v_29 : Int := Prod.fst (Prod.snd (Prod.fst (Prod.fst (Prod.snd (Prod.snd (Prod.snd (Prod.snd (Prod.snd (Prod.fst (Wh.laws_toClient' aC_0))))))))))
      let v_30 : Int := Prod.fst (Prod.fst (Prod.fst (Prod.snd (Prod.snd (Prod.snd (Prod.snd (Prod.snd (Prod.fst (Wh.laws_toClient' aC_0)))))))))
      let v_31 : Int := Prod.fst (Prod.snd (Prod.snd (Prod.snd (Prod.snd (Prod.fst (Wh.laws_toClient' aC_0))))))
      let v_32 : List UInt8 := Prod.fst (Prod.snd (Prod.snd (Prod.snd (Prod.fst (Wh.laws_toClient' aC_0)))))
      let v_33 : Int := Prod.fst (Prod.snd (Prod.snd (Prod.fst (Wh.laws_toClient' aC_0))))
      let v_34 : Int := Prod.fst (Prod.snd (Prod.fst (Wh.laws_toClient' aC_0)))
      let v_35 : Int := Prod.fst (Prod.fst (Wh.laws_toClient' aC_0))
      bif allB [Go.Ab.isSm (Wh.spec_ClientStop (v_35, v_34, v_33, v_32, v_31, ((v_30, v_29, pb_5, pb_4, v_28), (v_27, v_26, pb_3, v_25), v_24), v_23)), Go.Ab.isSm (Wh.laws_toClient aC_0)] then
        bif allB [Go.Ab.isSm (Wh.laws_toClient aC_0)] then
          let pb_75 : List (tImplWord.D) := Prod.snd (Prod.fst (Wh.impl_ClientStop' (v_35, v_34, v_33, v_32, v_31, ((v_30, v_29, pb_5, pb_4, v_28), (v_27, v_26, pb_3, v_25), v_24), v_23)))
          let pb_76 : List (tImplEq.D) := Prod.fst (Prod.snd (Prod.snd (Prod.fst (Prod.snd (Prod.fst (Prod.snd (Prod.snd (Prod.snd (Prod.snd (Prod.snd (Prod.fst (Prod.fst (Wh.impl_ClientStop' (v_35, v_34, v_33, v_32, v_31, ((v_30, v_29, pb_5, pb_4, v_28), (v_27, v_26, pb_3, v_25), v_24), v_23))))))))))))))
          let pb_77 : List Int := Prod.fst (Prod.snd (Prod.snd (Prod.snd (Prod.fst (Prod.fst (Prod.snd (Prod.snd (Prod.snd (Prod.snd (Prod.snd (Prod.fst (Prod.fst (Wh.impl_ClientStop' (v_35, v_34, v_33, v_32, v_31, ((v_30, v_29, pb_5, pb_4, v_28), (v_27, v_26, pb_3, v_25), v_24), v_23))))))))))))))
          let pb_78 : List Int := Prod.fst (Prod.snd (Prod.snd (Prod.fst (Prod.fst (Prod.snd (Prod.snd (Prod.snd (Prod.snd (Prod.snd (Prod.fst (Prod.fst (Wh.impl_ClientStop' (v_35, v_34, v_33, v_32, v_31, ((v_30, v_29, pb_5, pb_4, v_28), (v_27, v_26, pb_3, v_25), v_24), v_23)))))))))))))
          let pb_79 : PUnit := Prod.snd (Prod.snd (Prod.snd (Prod.snd (Prod.snd (Prod.snd (Prod.fst (Prod.fst (Wh.impl_ClientStop' (v_35, v_34, v_33, v_32, v_31, ((v_30, v_29, pb_5, pb_4, v_28), (v_27, v_26, pb_3, v_25), v_24), v_23)))))))))
          let pb_80 : PUnit := Prod.snd (Prod.snd (Prod.fst (Prod.snd (Prod.snd (Prod.snd (Prod.snd (Prod.snd (Prod.fst (Prod.fst (Wh.impl_ClientStop' (v_35, v_34, v_33, v_32, v_31, ((v_30, v_29, pb_5, pb_4, v_28), (v_27, v_26, pb_3, v_25), v_24), v_23)))))))))))
          let pb_81 : PUnit := Prod.snd (Prod.snd (Prod.snd (Prod.fst (Prod.snd (Prod.fst (Prod.snd (Prod.snd (Prod.snd (Prod.snd (Prod.snd (Prod.fst (Prod.fst (Wh.impl_ClientStop' (v_35, v_34, v_33, v_32, v_31, ((v_30, v_29, pb_5, pb_4, v_28), (v_27, v_26, pb_3, v_25), v_24), v_23))))))))))))))
          let pb_82 : Int := Prod.fst (Prod.snd (Prod.fst (Prod.snd (Prod.fst (Prod.snd (Prod.snd (Prod.snd (Prod.snd (Prod.snd (Prod.fst (Prod.fst (Wh.impl_ClientStop' (v_35, v_34, v_33, v_32, v_31, ((v_30, v_29, pb_5, pb_4, v_28), (v_27, v_26, pb_3, v_25), v_24), v_23)))))))))))))
          let pb_83 : Int := Prod.fst (Prod.fst (Prod.snd (Prod.fst (Prod.snd (Prod.snd (Prod.snd (Prod.snd (Prod.snd (Prod.fst (Prod.fst (Wh.impl_ClientStop' (v_35, v_34, v_33, v_32, v_31, ((v_30, v_29, pb_5, pb_4, v_28), (v_27, v_26, pb_3, v_25), v_24), v_23))))))))))))
          let pb_84 : PUnit := Prod.snd (Prod.snd (Prod.snd (Prod.snd (Prod.fst (Prod.fst (Prod.snd (Prod.snd (Prod.snd (Prod.snd (Prod.snd (Prod.fst (Prod.fst (Wh.impl_ClientStop' (v_35, v_34, v_33, v_32, v_31, ((v_30, v_29, pb_5, pb_4, v_28), (v_27, v_26, pb_3, v_25), v_24), v_23))))))))))))))
          let pb_85 : Int := Prod.fst (Prod.snd (Prod.fst (Prod.fst (Prod.snd (Prod.snd (Prod.snd (Prod.snd (Prod.snd (Prod.fst (Prod.fst (Wh.impl_ClientStop' (v_35, v_34, v_33, v_32, v_31, ((v_30, v_29, pb_5, pb_4, v_28), (v_27, v_26, pb_3, v_25), v_24), v_23))))))))))))
          let pb_86 : Int := Prod.fst (Prod.fst (Prod.fst (Prod.snd (Prod.snd (Prod.snd (Prod.snd (Prod.snd (Prod.fst (Prod.fst (Wh.impl_ClientStop' (v_35, v_34, v_33, v_32, v_31, ((v_30, v_29, pb_5, pb_4, v_28), (v_27, v_26, pb_3, v_25), v_24), v_23)))))))))))
          let pb_87 : Int := Prod.fst (Prod.snd (Prod.snd (Prod.snd (Prod.snd (Prod.fst (Prod.fst (Wh.impl_ClientStop' (v_35, v_34, v_33, v_32, v_31, ((v_30, v_29, pb_5, pb_4, v_28), (v_27, v_26, pb_3, v_25), v_24), v_23))))))))
          let pb_88 : List UInt8 := Prod.fst (Prod.snd (Prod.snd (Prod.snd (Prod.fst (Prod.fst (Wh.impl_ClientStop' (v_35, v_34, v_33, v_32, v_31, ((v_30, v_29, pb_5, pb_4, v_28), (v_27, v_26, pb_3, v_25), v_24), v_23)))))))
          let pb_89 : Int := Prod.fst (Prod.snd (Prod.snd (Prod.fst (Prod.fst (Wh.impl_ClientStop' (v_35, v_34, v_33, v_32, v_31, ((v_30, v_29, pb_5, pb_4, v_28), (v_27, v_26, pb_3, v_25), v_24), v_23))))))
          let pb_90 : Int := Prod.fst (Prod.snd (Prod.fst (Prod.fst (Wh.impl_ClientStop' (v_35, v_34, v_33, v_32, v_31, ((v_30, v_29, pb_5, pb_4, v_28), (v_27, v_26, pb_3, v_25), v_24), v_23)))))
          let pb_91 : Int := Prod.fst (Prod.fst (Prod.fst (Wh.impl_ClientStop' (v_35, v_34, v_33, v_32, v_31, ((v_30, v_29, pb_5, pb_4, v_28), (v_27, v_26, pb_3, v_25), v_24), v_23))))
          bif allB [Go.Ab.isSm (Wh.impl_ClientStop (v_35, v_34, v_33, v_32, v_31, ((v_30, v_29, pb_5, pb_4, v_28), (v_27, v_26, pb_3, v_25), v_24), v_23))] then
            let v_92 : Bool := Prod.fst (Wh.laws_eqClient' ((pb_91, pb_90, pb_89, pb_88, pb_87, ((pb_86, pb_85, pb_78, pb_77, pb_84), (pb_83, pb_82, pb_76, pb_81), pb_80), pb_79), pb_22, pb_21, pb_20, pb_19, pb_18, ((pb_17, pb_16, pb_9, pb_8, pb_15), (pb_14, pb_13, pb_7, pb_12), pb_11), pb_10))
            let v_93 : Bool := bif !v_92 then Bool.true else !Prod.fst (Wh.laws_eqWordS' (pb_75, pb_6))
            bif allB [!!!v_92 || Go.Ab.isSm (Wh.laws_eqWordS (pb_75, pb_6)), Go.Ab.isSm (Wh.laws_eqClient ((pb_91, pb_90, pb_89, pb_88, pb_87, ((pb_86, pb_85, pb_78, pb_77, pb_84), (pb_83, pb_82, pb_76, pb_81), pb_80), pb_79), pb_22, pb_21, pb_20, pb_19, pb_18, ((pb_17, pb_16, pb_9, pb_8, pb_15), (pb_14, pb_13, pb_7, pb_12), pb_11), pb_10))] then
              bif v_93 then
                some (Bool.false, ())
              else
                let v_95 : Bool := !Prod.fst (Wh.laws_eqClient' ((v_35, v_34, v_33, v_32, v_31, ((v_30, v_29, pb_5, pb_4, v_28), (v_27, v_26, pb_3, v_25), v_24), v_23), v_35, v_34, v_33, v_32, v_31, ((v_30, v_29, pb_5, pb_4, v_28), (v_27, v_26, pb_3, v_25), v_24), v_23))
                bif allB [Go.Ab.isSm (Wh.laws_eqClient ((v_35, v_34, v_33, v_32, v_31, ((v_30, v_29, pb_5, pb_4, v_28), (v_27, v_26, pb_3, v_25), v_24), v_23), v_35, v_34, v_33, v_32, v_31, ((v_30, v_29, pb_5, pb_4, v_28), (v_27, v_26, pb_3, v_25), v_24), v_23)), Go.Ab.isSm (Wh.laws_toClient aC_0)] then
                  bif v_95 then
                    some (Bool.false, ())
                  else
                    let v_99 : Int := Prod.fst (Wh.laws_markClient' ((v_35, v_34, v_33, v_32, v_31, ((v_30, v_29, pb_5, pb_4, v_28), (v_27, v_26, pb_3, v_25), v_24), v_23), (1 : Int)))
                    bif allB [Go.Ab.isSm (Wh.laws_markClient ((v_35, v_34, v_33, v_32, v_31, ((v_30, v_29, pb_5, pb_4, v_28), (v_27, v_26, pb_3, v_25), v_24), v_23), (1 : Int)))] then
                      let v_100 : Bool := Decidable.decide (v_99 < (0 : Int))
                      let v_101 : Bool := bif bif v_100 then Bool.true else !v_92 then Bool.true else !Prod.fst (Wh.laws_eqWordS' (pb_75, pb_6))
                      bif allB [(!!bif v_100 then Bool.true else !v_92) || Go.Ab.isSm (Wh.laws_eqWordS (pb_75, pb_6)), !!v_100 || Go.Ab.isSm (Wh.laws_eqClient ((pb_91, pb_90, pb_89, pb_88, pb_87, ((pb_86, pb_85, pb_78, pb_77, pb_84), (pb_83, pb_82, pb_76, pb_81), pb_80), pb_79), pb_22, pb_21, pb_20, pb_19, pb_18, ((pb_17, pb_16, pb_9, pb_8, pb_15), (pb_14, pb_13, pb_7, pb_12), pb_11), pb_10))] then
                        bif v_101 then
                          some (Bool.false, ())
                        else
                          let pb_102 : List (tImplEq.D) := Prod.fst (Prod.snd (Prod.snd (Prod.fst (Prod.snd (Prod.fst (Prod.snd (Prod.snd (Prod.snd (Prod.snd (Prod.snd (Prod.fst (Prod.snd (Wh.laws_markClient' ((pb_91, pb_90, pb_89, pb_88, pb_87, ((pb_86, pb_85, pb_78, pb_77, pb_84), (pb_83, pb_82, pb_76, pb_81), pb_80), pb_79), (1 : Int)))))))))))))))
                          let pb_103 : List Int := Prod.fst (Prod.snd (Prod.snd (Prod.snd (Prod.fst (Prod.fst (Prod.snd (Prod.snd (Prod.snd (Prod.snd (Prod.snd (Prod.fst (Prod.snd (Wh.laws_markClient' ((pb_91, pb_90, pb_89, pb_88, pb_87, ((pb_86, pb_85, pb_78, pb_77, pb_84), (pb_83, pb_82, pb_76, pb_81), pb_80), pb_79), (1 : Int)))))))))))))))
                          let pb_104 : List Int := Prod.fst (Prod.snd (Prod.snd (Prod.fst (Prod.fst (Prod.snd (Prod.snd (Prod.snd (Prod.snd (Prod.snd (Prod.fst (Prod.snd (Wh.laws_markClient' ((pb_91, pb_90, pb_89, pb_88, pb_87, ((pb_86, pb_85, pb_78, pb_77, pb_84), (pb_83, pb_82, pb_76, pb_81), pb_80), pb_79), (1 : Int))))))))))))))
                          let v_105 : Int := Prod.fst (Wh.laws_markClient' ((pb_91, pb_90, pb_89, pb_88, pb_87, ((pb_86, pb_85, pb_78, pb_77, pb_84), (pb_83, pb_82, pb_76, pb_81), pb_80), pb_79), (1 : Int)))
                          bif allB [Go.Ab.isSm (Wh.laws_markClient ((pb_91, pb_90, pb_89, pb_88, pb_87, ((pb_86, pb_85, pb_78, pb_77, pb_84), (pb_83, pb_82, pb_76, pb_81), pb_80), pb_79), (1 : Int)))] then
                            let pb_106 : List (tImplWord.D) := Prod.fst (Prod.snd (Wh.laws_markWordS' (pb_75, v_105)))
                            let v_107 : Int := Prod.fst (Wh.laws_markWordS' (pb_75, v_105))
                            bif allB [Go.Ab.isSm (Wh.laws_markWordS (pb_75, v_105))] then
                              let v_108 : Int := Prod.fst (Wh.laws_heldClient' ((pb_91, pb_90, pb_89, pb_88, pb_87, ((pb_86, pb_85, pb_104, pb_103, pb_84), (pb_83, pb_82, pb_102, pb_81), pb_80), pb_79), (1 : Int)))
                              bif allB [Go.Ab.isSm (Wh.laws_heldClient ((pb_91, pb_90, pb_89, pb_88, pb_87, ((pb_86, pb_85, pb_104, pb_103, pb_84), (pb_83, pb_82, pb_102, pb_81), pb_80), pb_79), (1 : Int)))] then
                                let v_109 : Bool := Decidable.decide (v_108 < (0 : Int))
                                bif v_109 then
                                  some (Bool.false, ())
                                else
                                  let v_110 : Int := Prod.fst (Wh.laws_heldWordS' (pb_106, v_108))
                                  bif allB [Go.Ab.isSm (Wh.laws_heldWordS (pb_106, v_108))] then
                                    let v_111 : Bool := Decidable.decide (v_110 < (0 : Int))
                                    bif v_111 then
                                      some (Bool.false, ())
                                    else
                                      let v_112 : Bool := v_110 != v_107
                                      bif v_112 then
                                        some (Bool.false, ())
                                      else
                                        let pb_113 : List (tImplWord.D) := Prod.snd (Prod.fst (Wh.impl_ClientStop' (v_35, v_34, v_33, v_32, v_31, ((v_30, v_29, pb_5, pb_4, v_28), (v_27, v_26, pb_3, v_25), v_24), v_23)))
                                        let pb_114 : List (tImplEq.D) := Prod.fst (Prod.snd (Prod.snd (Prod.fst (Prod.snd (Prod.fst (Prod.snd (Prod.snd (Prod.snd (Prod.snd (Prod.snd (Prod.fst (Prod.fst (Wh.impl_ClientStop' (v_35, v_34, v_33, v_32, v_31, ((v_30, v_29, pb_5, pb_4, v_28), (v_27, v_26, pb_3, v_25), v_24), v_23))))))))))))))
                                        let pb_115 : List Int := Prod.fst (Prod.snd (Prod.snd (Prod.snd (Prod.fst (Prod.fst (Prod.snd (Prod.snd (Prod.snd (Prod.snd (Prod.snd (Prod.fst (Prod.fst (Wh.impl_ClientStop' (v_35, v_34, v_33, v_32, v_31, ((v_30, v_29, pb_5, pb_4, v_28), (v_27, v_26, pb_3, v_25), v_24), v_23))))))))))))))
                                        let pb_116 : List Int := Prod.fst (Prod.snd (Prod.snd (Prod.fst (Prod.fst (Prod.snd (Prod.snd (Prod.snd (Prod.snd (Prod.snd (Prod.fst (Prod.fst (Wh.impl_ClientStop' (v_35, v_34, v_33, v_32, v_31, ((v_30, v_29, pb_5, pb_4, v_28), (v_27, v_26, pb_3, v_25), v_24), v_23)))))))))))))
                                        let pb_117 : PUnit := Prod.snd (Prod.snd (Prod.snd (Prod.snd (Prod.snd (Prod.snd (Prod.fst (Prod.fst (Wh.impl_ClientStop' (v_35, v_34, v_33, v_32, v_31, ((v_30, v_29, pb_5, pb_4, v_28), (v_27, v_26, pb_3, v_25), v_24), v_23)))))))))
                                        let pb_118 : PUnit := Prod.snd (Prod.snd (Prod.fst (Prod.snd (Prod.snd (Prod.snd (Prod.snd (Prod.snd (Prod.fst (Prod.fst (Wh.impl_ClientStop' (v_35, v_34, v_33, v_32, v_31, ((v_30, v_29, pb_5, pb_4, v_28), (v_27, v_26, pb_3, v_25), v_24), v_23)))))))))))
                                        let pb_119 : PUnit := Prod.snd (Prod.snd (Prod.snd (Prod.fst (Prod.snd (Prod.fst (Prod.snd (Prod.snd (Prod.snd (Prod.snd (Prod.snd (Prod.fst (Prod.fst (Wh.impl_ClientStop' (v_35, v_34, v_33, v_32, v_31, ((v_30, v_29, pb_5, pb_4, v_28), (v_27, v_26, pb_3, v_25), v_24), v_23))))))))))))))
                                        let pb_120 : Int := Prod.fst (Prod.snd (Prod.fst (Prod.snd (Prod.fst (Prod.snd (Prod.snd (Prod.snd (Prod.snd (Prod.snd (Prod.fst (Prod.fst (Wh.impl_ClientStop' (v_35, v_34, v_33, v_32, v_31, ((v_30, v_29, pb_5, pb_4, v_28), (v_27, v_26, pb_3, v_25), v_24), v_23)))))))))))))
                                        let pb_121 : Int := Prod.fst (Prod.fst (Prod.snd (Prod.fst (Prod.snd (Prod.snd (Prod.snd (Prod.snd (Prod.snd (Prod.fst (Prod.fst (Wh.impl_ClientStop' (v_35, v_34, v_33, v_32, v_31, ((v_30, v_29, pb_5, pb_4, v_28), (v_27, v_26, pb_3, v_25), v_24), v_23))))))))))))
                                        let pb_122 : PUnit := Prod.snd (Prod.snd (Prod.snd (Prod.snd (Prod.fst (Prod.fst (Prod.snd (Prod.snd (Prod.snd (Prod.snd (Prod.snd (Prod.fst (Prod.fst (Wh.impl_ClientStop' (v_35, v_34, v_33, v_32, v_31, ((v_30, v_29, pb_5, pb_4, v_28), (v_27, v_26, pb_3, v_25), v_24), v_23))))))))))))))
                                        let pb_123 : Int := Prod.fst (Prod.snd (Prod.fst (Prod.fst (Prod.snd (Prod.snd (Prod.snd (Prod.snd (Prod.snd (Prod.fst (Prod.fst (Wh.impl_ClientStop' (v_35, v_34, v_33, v_32, v_31, ((v_30, v_29, pb_5, pb_4, v_28), (v_27, v_26, pb_3, v_25), v_24), v_23))))))))))))
                                        let pb_124 : Int := Prod.fst (Prod.fst (Prod.fst (Prod.snd (Prod.snd (Prod.snd (Prod.snd (Prod.snd (Prod.fst (Prod.fst (Wh.impl_ClientStop' (v_35, v_34, v_33, v_32, v_31, ((v_30, v_29, pb_5, pb_4, v_28), (v_27, v_26, pb_3, v_25), v_24), v_23)))))))))))
                                        let pb_125 : Int := Prod.fst (Prod.snd (Prod.snd (Prod.snd (Prod.snd (Prod.fst (Prod.fst (Wh.impl_ClientStop' (v_35, v_34, v_33, v_32, v_31, ((v_30, v_29, pb_5, pb_4, v_28), (v_27, v_26, pb_3, v_25), v_24), v_23))))))))
                                        let pb_126 : List UInt8 := Prod.fst (Prod.snd (Prod.snd (Prod.snd (Prod.fst (Prod.fst (Wh.impl_ClientStop' (v_35, v_34, v_33, v_32, v_31, ((v_30, v_29, pb_5, pb_4, v_28), (v_27, v_26, pb_3, v_25), v_24), v_23)))))))
                                        let pb_127 : Int := Prod.fst (Prod.snd (Prod.snd (Prod.fst (Prod.fst (Wh.impl_ClientStop' (v_35, v_34, v_33, v_32, v_31, ((v_30, v_29, pb_5, pb_4, v_28), (v_27, v_26, pb_3, v_25), v_24), v_23))))))
                                        let pb_128 : Int := Prod.fst (Prod.snd (Prod.fst (Prod.fst (Wh.impl_ClientStop' (v_35, v_34, v_33, v_32, v_31, ((v_30, v_29, pb_5, pb_4, v_28), (v_27, v_26, pb_3, v_25), v_24), v_23)))))
                                        let pb_129 : Int := Prod.fst (Prod.fst (Prod.fst (Wh.impl_ClientStop' (v_35, v_34, v_33, v_32, v_31, ((v_30, v_29, pb_5, pb_4, v_28), (v_27, v_26, pb_3, v_25), v_24), v_23))))
                                        bif allB [Go.Ab.isSm (Wh.impl_ClientStop (v_35, v_34, v_33, v_32, v_31, ((v_30, v_29, pb_5, pb_4, v_28), (v_27, v_26, pb_3, v_25), v_24), v_23)), Go.Ab.isSm (Wh.laws_toClient aC_0)] then
                                          let v_169 : Bool := Prod.fst (Wh.laws_eqClient' ((pb_129, pb_128, pb_127, pb_126, pb_125, ((pb_124, pb_123, pb_116, pb_115, pb_122), (pb_121, pb_120, pb_114, pb_119), pb_118), pb_117), pb_22, pb_21, pb_20, pb_19, pb_18, ((pb_17, pb_16, pb_9, pb_8, pb_15), (pb_14, pb_13, pb_7, pb_12), pb_11), pb_10))
                                          let v_170 : Bool := bif !v_169 then Bool.true else !Prod.fst (Wh.laws_eqWordS' (pb_113, pb_6))
                                          bif allB [!!!v_169 || Go.Ab.isSm (Wh.laws_eqWordS (pb_113, pb_6)), Go.Ab.isSm (Wh.laws_eqClient ((pb_129, pb_128, pb_127, pb_126, pb_125, ((pb_124, pb_123, pb_116, pb_115, pb_122), (pb_121, pb_120, pb_114, pb_119), pb_118), pb_117), pb_22, pb_21, pb_20, pb_19, pb_18, ((pb_17, pb_16, pb_9, pb_8, pb_15), (pb_14, pb_13, pb_7, pb_12), pb_11), pb_10))] then
                                            bif v_170 then
                                              some (Bool.false, ())
                                            else
                                              bif allB [Go.Ab.isSm (Wh.laws_heldClient ((pb_91, pb_90, pb_89, pb_88, pb_87, ((pb_86, pb_85, pb_104, pb_103, pb_84), (pb_83, pb_82, pb_102, pb_81), pb_80), pb_79), (1 : Int)))] then
                                                bif v_109 then
                                                  some (Bool.false, ())
                                                else
                                                  bif allB [Go.Ab.isSm (Wh.laws_heldWordS (pb_106, v_108))] then
                                                    bif v_111 then
                                                      some (Bool.false, ())
                                                    else
                                                      bif v_112 then
                                                        some (Bool.false, ())
                                                      else
                                                        some (Bool.true, ())
                                                  else none
                                              else none
                                          else none
                                        else none
                                  else none
                              else none
                            else none
                          else none
                      else none
                    else none
                else none
            else none
          else none
        else none
      else none
  else none
def Wh.laws_FnExactClientStop' (xs : (tImplClient.D)) : ((Bool)) × (Unit) := match Wh.laws_FnExactClientStop xs with | some y => y | none => default
theorem Wh.laws_FnExactClientStop_v (x : (tImplClient.D)) (y : ((Bool)) × (Unit)) (h : Wh.laws_FnExactClientStop x = some y) : Wh.laws_FnExactClientStop' x = y := by unfold Wh.laws_FnExactClientStop'; rw [h]

def Wh.spec_l6Plan (xs : (tImplPlan.D)) : Option ((((Int) × ((Int) × ((List (Int)) × ((List (Int)) × (Unit)))))) × (Unit)) :=
  let p_0 : tImplPlan.D := xs
  let pb_1 : List Int := [] ++ Prod.fst (Prod.snd (Prod.snd p_0))
  bif allB [Decidable.decide ((0 : Nat) + List.length (Prod.fst (Prod.snd (Prod.snd p_0))) ≤ Go.Ab.maxRows)] then
    let pb_2 : List Int := [] ++ Prod.fst (Prod.snd (Prod.snd (Prod.snd p_0)))
    bif allB [Decidable.decide ((0 : Nat) + List.length (Prod.fst (Prod.snd (Prod.snd (Prod.snd p_0)))) ≤ Go.Ab.maxRows)] then
      some ((Prod.fst p_0, Prod.fst (Prod.snd p_0), pb_1, pb_2, Prod.snd (Prod.snd (Prod.snd (Prod.snd p_0)))), ())
    else none
  else none
def Wh.spec_l6Plan' (xs : (tImplPlan.D)) : (((Int) × ((Int) × ((List (Int)) × ((List (Int)) × (Unit)))))) × (Unit) := match Wh.spec_l6Plan xs with | some y => y | none => default
theorem Wh.spec_l6Plan_v (x : (tImplPlan.D)) (y : (((Int) × ((Int) × ((List (Int)) × ((List (Int)) × (Unit)))))) × (Unit)) (h : Wh.spec_l6Plan x = some y) : Wh.spec_l6Plan' x = y := by unfold Wh.spec_l6Plan'; rw [h]


end

