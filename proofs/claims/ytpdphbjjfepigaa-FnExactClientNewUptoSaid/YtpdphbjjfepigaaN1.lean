import Derived.Test.YtpdphbjjfepigaaA3
open Go Go.Ab
noncomputable section
abbrev tRuntimeBoundsError : Ty := (.pair (.int .i64) (.pair (.int .i64) (.pair .bool (.pair (.int .u8) .unit))))
abbrev tRuntimeBoundsError.D : Type := (Int) × ((Int) × ((Bool) × ((Int) × (Unit))))

abbrev tRuntimeErrorAddressString : Ty := (.pair .str (.pair (.int .u64) .unit))
abbrev tRuntimeErrorAddressString.D : Type := (List UInt8) × ((Int) × (Unit))

abbrev tImplPlan : Ty := (.pair (.int .i64) (.pair (.int .i64) (.pair (.lst (.int .i64)) (.pair (.lst (.int .i64)) .unit))))
abbrev tImplPlan.D : Type := (Int) × ((Int) × ((List (Int)) × ((List (Int)) × (Unit))))

abbrev tImplSolver : Ty := (.pair (.int .i64) (.pair (.int .i64) (.pair (.lst (.pair (.lst (.int .i64)) (.pair .str .unit))) .unit)))
abbrev tImplSolver.D : Type := (Int) × ((Int) × ((List ((List (Int)) × ((List UInt8) × (Unit)))) × (Unit)))

abbrev tImplGetting : Ty := (.pair tImplPlan (.pair tImplSolver .unit))
abbrev tImplGetting.D : Type := (tImplPlan.D) × ((tImplSolver.D) × (Unit))

abbrev tImplClient : Ty := (.pair (.int .i64) (.pair (.int .i64) (.pair (.int .i64) (.pair .str (.pair (.int .i64) (.pair tImplGetting .unit))))))
abbrev tImplClient.D : Type := (Int) × ((Int) × ((Int) × ((List UInt8) × ((Int) × ((tImplGetting.D) × (Unit))))))

abbrev tImplCat : Ty := (.pair (.int .i64) (.pair (.lst (.pair (.int .i64) (.pair .str (.pair (.int .i64) (.pair .str .unit))))) .unit))
abbrev tImplCat.D : Type := (Int) × ((List ((Int) × ((List UInt8) × ((Int) × ((List UInt8) × (Unit)))))) × (Unit))

abbrev tImplPool : Ty := (.pair (.lst (.pair (.int .i64) (.pair (.int .i64) (.pair (.int .i64) (.pair (.int .i64) (.pair .bool .unit)))))) (.pair (.int .i64) .unit))
abbrev tImplPool.D : Type := (List ((Int) × ((Int) × ((Int) × ((Int) × ((Bool) × (Unit))))))) × ((Int) × (Unit))

abbrev tImplServer : Ty := (.pair .bool (.pair (.int .i64) (.pair .str (.pair tImplCat (.pair tImplPool (.pair (.lst (.pair (.int .i64) (.pair (.int .i64) (.pair (.int .i64) (.pair (.int .i64) .unit))))) (.pair (.lst (.pair (.int .i64) (.pair (.int .i64) (.pair (.int .i64) (.pair (.int .i64) (.pair (.int .i64) (.pair (.int .i64) .unit))))))) .unit)))))))
abbrev tImplServer.D : Type := (Bool) × ((Int) × ((List UInt8) × ((tImplCat.D) × ((tImplPool.D) × ((List ((Int) × ((Int) × ((Int) × ((Int) × (Unit)))))) × ((List ((Int) × ((Int) × ((Int) × ((Int) × ((Int) × ((Int) × (Unit)))))))) × (Unit)))))))

abbrev tImplWorld : Ty := (.pair tImplServer (.pair (.lst tImplClient) (.pair (.lst (.pair (.int .i64) (.pair .str (.pair .bool .unit)))) (.pair (.lst (.pair (.int .i64) (.pair .str (.pair (.int .i64) (.pair .str .unit))))) .unit))))
abbrev tImplWorld.D : Type := (tImplServer.D) × ((List (tImplClient.D)) × ((List ((Int) × ((List UInt8) × ((Bool) × (Unit))))) × ((List ((Int) × ((List UInt8) × ((Int) × ((List UInt8) × (Unit)))))) × (Unit))))

abbrev tImplWord : Ty := (.pair (.int .i64) (.pair (.int .i64) (.pair (.int .i64) (.pair (.int .i64) (.pair (.int .i64) (.pair .str (.pair .str .unit)))))))
abbrev tImplWord.D : Type := (Int) × ((Int) × ((Int) × ((Int) × ((Int) × ((List UInt8) × ((List UInt8) × (Unit)))))))

abbrev tImplPacket : Ty := (.pair (.int .i64) (.pair .str (.pair .bool .unit)))
abbrev tImplPacket.D : Type := (Int) × ((List UInt8) × ((Bool) × (Unit)))

abbrev tImplItem : Ty := (.pair (.int .i64) (.pair .str (.pair (.int .i64) (.pair .str .unit))))
abbrev tImplItem.D : Type := (Int) × ((List UInt8) × ((Int) × ((List UInt8) × (Unit))))

abbrev tImplEq : Ty := (.pair (.lst (.int .i64)) (.pair .str .unit))
abbrev tImplEq.D : Type := (List (Int)) × ((List UInt8) × (Unit))

abbrev tImplBucket : Ty := (.pair (.int .i64) (.pair (.int .i64) (.pair (.int .i64) (.pair (.int .i64) .unit))))
abbrev tImplBucket.D : Type := (Int) × ((Int) × ((Int) × ((Int) × (Unit))))

abbrev tImplServe : Ty := (.pair (.int .i64) (.pair (.int .i64) tImplBucket))
abbrev tImplServe.D : Type := (Int) × ((Int) × (tImplBucket.D))

abbrev tImplFrame : Ty := (.pair (.int .i64) (.pair (.int .i64) (.pair (.int .i64) (.pair (.int .i64) (.pair .bool .unit)))))
abbrev tImplFrame.D : Type := (Int) × ((Int) × ((Int) × ((Int) × ((Bool) × (Unit)))))

def Wh.spec_l1In (xs : (Int) × (Int) × (Int)) : Option (((Bool)) × (Unit)) :=
  let n_0 : Int := Prod.fst xs
  let low_1 : Int := Prod.fst (Prod.snd xs)
  let high_2 : Int := Prod.snd (Prod.snd xs)
  let v_3 : Bool := Decidable.decide (n_0 ≥ low_1)
  let v_4 : Bool := bif v_3 then Decidable.decide (n_0 ≤ high_2) else Bool.false
  let v_5 : Bool := bif v_3 then Decidable.decide (n_0 ≤ high_2) else Bool.false
  some (v_5, ())
def Wh.spec_l1In' (xs : (Int) × (Int) × (Int)) : ((Bool)) × (Unit) := match Wh.spec_l1In xs with | some y => y | none => default
theorem Wh.spec_l1In_v (x : (Int) × (Int) × (Int)) (y : ((Bool)) × (Unit)) (h : Wh.spec_l1In x = some y) : Wh.spec_l1In' x = y := by unfold Wh.spec_l1In'; rw [h]

def Wh.spec_ClientNew (xs : (Int)) : Option ((((Int) × ((Int) × ((Int) × ((List UInt8) × ((Int) × ((((Int) × ((Int) × ((List (Int)) × ((List (Int)) × (Unit))))) × (((Int) × ((Int) × ((List (tImplEq.D)) × (Unit)))) × (Unit))) × (Unit)))))))) × (Unit)) :=
  let id_0 : Int := xs
  let v_1 : Bool := Prod.fst (Wh.spec_l1In' (id_0, (0 : Int), (3 : Int)))
  bif allB [Go.Ab.isSm (Wh.spec_l1In (id_0, (0 : Int), (3 : Int)))] then
    bif !v_1 then
      some (((0 : Int), (0 : Int), (0 : Int), [], (0 : Int), (((0 : Int), (0 : Int), [], [], ()), ((0 : Int), (0 : Int), [], ()), ()), ()), ())
    else
      some ((id_0, (0 : Int), (0 : Int), [], (0 : Int), (((0 : Int), (0 : Int), [], [], ()), ((0 : Int), (0 : Int), [], ()), ()), ()), ())
  else none
def Wh.spec_ClientNew' (xs : (Int)) : (((Int) × ((Int) × ((Int) × ((List UInt8) × ((Int) × ((((Int) × ((Int) × ((List (Int)) × ((List (Int)) × (Unit))))) × (((Int) × ((Int) × ((List (tImplEq.D)) × (Unit)))) × (Unit))) × (Unit)))))))) × (Unit) := match Wh.spec_ClientNew xs with | some y => y | none => default
theorem Wh.spec_ClientNew_v (x : (Int)) (y : (((Int) × ((Int) × ((Int) × ((List UInt8) × ((Int) × ((((Int) × ((Int) × ((List (Int)) × ((List (Int)) × (Unit))))) × (((Int) × ((Int) × ((List (tImplEq.D)) × (Unit)))) × (Unit))) × (Unit)))))))) × (Unit)) (h : Wh.spec_ClientNew x = some y) : Wh.spec_ClientNew' x = y := by unfold Wh.spec_ClientNew'; rw [h]

def Wh.impl_within (xs : (Int) × (Int) × (Int)) : Option (((Bool)) × (Unit)) :=
  let n_0 : Int := Prod.fst xs
  let low_1 : Int := Prod.fst (Prod.snd xs)
  let high_2 : Int := Prod.snd (Prod.snd xs)
  let v_3 : Bool := Decidable.decide (n_0 ≥ low_1)
  let v_4 : Bool := bif v_3 then Decidable.decide (n_0 ≤ high_2) else Bool.false
  let v_5 : Bool := bif v_3 then Decidable.decide (n_0 ≤ high_2) else Bool.false
  some (v_5, ())
def Wh.impl_within' (xs : (Int) × (Int) × (Int)) : ((Bool)) × (Unit) := match Wh.impl_within xs with | some y => y | none => default
theorem Wh.impl_within_v (x : (Int) × (Int) × (Int)) (y : ((Bool)) × (Unit)) (h : Wh.impl_within x = some y) : Wh.impl_within' x = y := by unfold Wh.impl_within'; rw [h]

def Wh.impl_clientOf (xs : (Int)) : Option (((Bool)) × (Unit)) :=
  let n_0 : Int := xs
  let v_1 : Bool := Prod.fst (Wh.impl_within' (n_0, (0 : Int), (3 : Int)))
  bif allB [Go.Ab.isSm (Wh.impl_within (n_0, (0 : Int), (3 : Int)))] then
    some (v_1, ())
  else none
def Wh.impl_clientOf' (xs : (Int)) : ((Bool)) × (Unit) := match Wh.impl_clientOf xs with | some y => y | none => default
theorem Wh.impl_clientOf_v (x : (Int)) (y : ((Bool)) × (Unit)) (h : Wh.impl_clientOf x = some y) : Wh.impl_clientOf' x = y := by unfold Wh.impl_clientOf'; rw [h]

def Wh.impl_ClientNew (xs : (Int)) : Option ((((Int) × ((Int) × ((Int) × ((List UInt8) × ((Int) × ((((Int) × ((Int) × ((List (Int)) × ((List (Int)) × (Unit))))) × (((Int) × ((Int) × ((List (tImplEq.D)) × (Unit)))) × (Unit))) × (Unit)))))))) × (Unit)) :=
  let id_0 : Int := xs
  bif allB [Go.Ab.isSm (Wh.impl_clientOf id_0)] then
    bif !Prod.fst (Wh.impl_clientOf' id_0) then
      some (((0 : Int), (0 : Int), (0 : Int), [], (0 : Int), (((0 : Int), (0 : Int), [], [], ()), ((0 : Int), (0 : Int), [], ()), ()), ()), ())
    else
      some ((id_0, (0 : Int), (0 : Int), [], (0 : Int), (((0 : Int), (0 : Int), [], [], ()), ((0 : Int), (0 : Int), [], ()), ()), ()), ())
  else none
def Wh.impl_ClientNew' (xs : (Int)) : (((Int) × ((Int) × ((Int) × ((List UInt8) × ((Int) × ((((Int) × ((Int) × ((List (Int)) × ((List (Int)) × (Unit))))) × (((Int) × ((Int) × ((List (tImplEq.D)) × (Unit)))) × (Unit))) × (Unit)))))))) × (Unit) := match Wh.impl_ClientNew xs with | some y => y | none => default
theorem Wh.impl_ClientNew_v (x : (Int)) (y : (((Int) × ((Int) × ((Int) × ((List UInt8) × ((Int) × ((((Int) × ((Int) × ((List (Int)) × ((List (Int)) × (Unit))))) × (((Int) × ((Int) × ((List (tImplEq.D)) × (Unit)))) × (Unit))) × (Unit)))))))) × (Unit)) (h : Wh.impl_ClientNew x = some y) : Wh.impl_ClientNew' x = y := by unfold Wh.impl_ClientNew'; rw [h]

def Wh.laws_eqIntS_l0 (x : ((Int) × (List (Int)) × (List (Int))) × (Unit)) : Option ((((Int) × (List (Int)) × (List (Int))) × (Unit)) ⊕ ((((Bool)) × (Unit)) ⊕ ((Unit) × (Unit)))) :=
  let i_11 : Int := Prod.fst (Prod.fst x)
  let b_12 : List Int := Prod.fst (Prod.snd (Prod.fst x))
  let a_13 : List Int := Prod.snd (Prod.snd (Prod.fst x))
  let v_14 : Bool := Decidable.decide (i_11 < (↑(List.length a_13) : Int))
  bif v_14 then
    let v_15 : Int := List.getD a_13 (Int.toNat i_11) (0 : Int)
    let v_16 : Int := List.getD b_12 (Int.toNat i_11) (0 : Int)
    let v_17 : Bool := v_15 != v_16
    bif allB [Decidable.decide ((0 : Int) ≤ i_11), Decidable.decide (i_11 < (↑(List.length b_12) : Int)), Decidable.decide ((0 : Int) ≤ i_11), v_14] then
      bif v_17 then
        some (.inr (.inl (Bool.false, ())))
      else
        let v_18 : Int := Go.IntKind.wrap Go.IntKind.i64 (i_11 + (1 : Int))
        some (.inl ((v_18, b_12, a_13), ()))
    else none
  else
    some (.inr (.inr ((), ())))
def Wh.laws_eqIntS_l0_y : (((Bool)) × (Unit)) ⊕ ((Unit) × (Unit)) := .inl default
def Wh.laws_eqIntS (xs : (List (Int)) × (List (Int))) : Option (((Bool)) × (Unit)) :=
  let a_0 : List Int := Prod.fst xs
  let b_1 : List Int := Prod.snd xs
  let v_2 : Bool := (↑(List.length a_0) : Int) != (↑(List.length b_1) : Int)
  bif v_2 then
    some (Bool.false, ())
  else
    let x_19 : ((Int) × (List (Int)) × (List (Int))) × (Unit) := (((0 : Int), b_1, a_0), ())
    bif comesB Wh.laws_eqIntS_l0 x_19 then
      sumC (comesV Wh.laws_eqIntS_l0 Wh.laws_eqIntS_l0_y x_19) (fun y_20 =>
        let v_22 : Bool := Prod.fst y_20
        some (v_22, ())) (fun z_21 =>
        some (Bool.true, ()))
    else none
def Wh.laws_eqIntS' (xs : (List (Int)) × (List (Int))) : ((Bool)) × (Unit) := match Wh.laws_eqIntS xs with | some y => y | none => default
theorem Wh.laws_eqIntS_v (x : (List (Int)) × (List (Int))) (y : ((Bool)) × (Unit)) (h : Wh.laws_eqIntS x = some y) : Wh.laws_eqIntS' x = y := by unfold Wh.laws_eqIntS'; rw [h]

def Wh.laws_eqPlan (xs : (tImplPlan.D) × (tImplPlan.D)) : Option (((Bool)) × (Unit)) :=
  let a_0 : tImplPlan.D := Prod.fst xs
  let b_1 : tImplPlan.D := Prod.snd xs
  let v_2 : Bool := Prod.fst a_0 != Prod.fst b_1
  bif v_2 then
    some (Bool.false, ())
  else
    let v_3 : Bool := Prod.fst (Prod.snd a_0) != Prod.fst (Prod.snd b_1)
    bif v_3 then
      some (Bool.false, ())
    else
      let v_4 : Bool := Prod.fst (Wh.laws_eqIntS' (Prod.fst (Prod.snd (Prod.snd a_0)), Prod.fst (Prod.snd (Prod.snd b_1))))
      bif allB [Go.Ab.isSm (Wh.laws_eqIntS (Prod.fst (Prod.snd (Prod.snd a_0)), Prod.fst (Prod.snd (Prod.snd b_1))))] then
        bif !v_4 then
          some (Bool.false, ())
        else
          let v_5 : Bool := Prod.fst (Wh.laws_eqIntS' (Prod.fst (Prod.snd (Prod.snd (Prod.snd a_0))), Prod.fst (Prod.snd (Prod.snd (Prod.snd b_1)))))
          bif allB [Go.Ab.isSm (Wh.laws_eqIntS (Prod.fst (Prod.snd (Prod.snd (Prod.snd a_0))), Prod.fst (Prod.snd (Prod.snd (Prod.snd b_1)))))] then
            bif !v_5 then
              some (Bool.false, ())
            else
              some (Bool.true, ())
          else none
      else none
def Wh.laws_eqPlan' (xs : (tImplPlan.D) × (tImplPlan.D)) : ((Bool)) × (Unit) := match Wh.laws_eqPlan xs with | some y => y | none => default
theorem Wh.laws_eqPlan_v (x : (tImplPlan.D) × (tImplPlan.D)) (y : ((Bool)) × (Unit)) (h : Wh.laws_eqPlan x = some y) : Wh.laws_eqPlan' x = y := by unfold Wh.laws_eqPlan'; rw [h]

def Wh.laws_eqEq (xs : (tImplEq.D) × (tImplEq.D)) : Option (((Bool)) × (Unit)) :=
  let a_0 : tImplEq.D := Prod.fst xs
  let b_1 : tImplEq.D := Prod.snd xs
  let v_2 : Bool := Prod.fst (Wh.laws_eqIntS' (Prod.fst a_0, Prod.fst b_1))
  bif allB [Go.Ab.isSm (Wh.laws_eqIntS (Prod.fst a_0, Prod.fst b_1))] then
    bif !v_2 then
      some (Bool.false, ())
    else
      let v_3 : Bool := !Prod.fst (Prod.snd a_0) == Prod.fst (Prod.snd b_1)
      bif v_3 then
        some (Bool.false, ())
      else
        some (Bool.true, ())
  else none
def Wh.laws_eqEq' (xs : (tImplEq.D) × (tImplEq.D)) : ((Bool)) × (Unit) := match Wh.laws_eqEq xs with | some y => y | none => default
theorem Wh.laws_eqEq_v (x : (tImplEq.D) × (tImplEq.D)) (y : ((Bool)) × (Unit)) (h : Wh.laws_eqEq x = some y) : Wh.laws_eqEq' x = y := by unfold Wh.laws_eqEq'; rw [h]

def Wh.laws_eqEqS_l0 (x : ((Int) × (List (tImplEq.D)) × (List (tImplEq.D))) × (Unit)) : Option ((((Int) × (List (tImplEq.D)) × (List (tImplEq.D))) × (Unit)) ⊕ ((((Bool)) × (Unit)) ⊕ ((Unit) × (Unit)))) :=
  let i_15 : Int := Prod.fst (Prod.fst x)
  let b_16 : List (tImplEq.D) := Prod.fst (Prod.snd (Prod.fst x))
  let a_17 : List (tImplEq.D) := Prod.snd (Prod.snd (Prod.fst x))
  let v_18 : Int := (↑(List.length a_17) : Int)
  let v_19 : Bool := Decidable.decide (i_15 < v_18)
  bif v_19 then
    let v_20 : tImplEq.D := List.getD a_17 (Int.toNat i_15) ([], [], ())
    let v_21 : tImplEq.D := List.getD b_16 (Int.toNat i_15) ([], [], ())
    let v_22 : Bool := Prod.fst (Wh.laws_eqEq' (v_20, v_21))
    let v_23 : Bool := !Prod.fst (Wh.laws_eqEq' (v_20, v_21))
    bif allB [Go.Ab.isSm (Wh.laws_eqEq (v_20, v_21)), Decidable.decide ((0 : Int) ≤ i_15), Decidable.decide (i_15 < (↑(List.length b_16) : Int)), Decidable.decide ((0 : Int) ≤ i_15), Decidable.decide (i_15 < v_18)] then
      bif v_23 then
        some (.inr (.inl (Bool.false, ())))
      else
        let v_24 : Int := Go.IntKind.wrap Go.IntKind.i64 (i_15 + (1 : Int))
        some (.inl ((v_24, b_16, a_17), ()))
    else none
  else
    some (.inr (.inr ((), ())))
def Wh.laws_eqEqS_l0_y : (((Bool)) × (Unit)) ⊕ ((Unit) × (Unit)) := .inl default
def Wh.laws_eqEqS (xs : (List (tImplEq.D)) × (List (tImplEq.D))) : Option (((Bool)) × (Unit)) :=
  let a_0 : List (tImplEq.D) := Prod.fst xs
  let b_1 : List (tImplEq.D) := Prod.snd xs
  let v_2 : Int := (↑(List.length a_0) : Int)
  let v_3 : Int := (↑(List.length b_1) : Int)
  let v_4 : Bool := v_2 != v_3
  bif v_4 then
    some (Bool.false, ())
  else
    let x_25 : ((Int) × (List (tImplEq.D)) × (List (tImplEq.D))) × (Unit) := (((0 : Int), b_1, a_0), ())
    bif comesB Wh.laws_eqEqS_l0 x_25 then
      sumC (comesV Wh.laws_eqEqS_l0 Wh.laws_eqEqS_l0_y x_25) (fun y_26 =>
        let v_28 : Bool := Prod.fst y_26
        some (v_28, ())) (fun z_27 =>
        some (Bool.true, ()))
    else none
def Wh.laws_eqEqS' (xs : (List (tImplEq.D)) × (List (tImplEq.D))) : ((Bool)) × (Unit) := match Wh.laws_eqEqS xs with | some y => y | none => default
theorem Wh.laws_eqEqS_v (x : (List (tImplEq.D)) × (List (tImplEq.D))) (y : ((Bool)) × (Unit)) (h : Wh.laws_eqEqS x = some y) : Wh.laws_eqEqS' x = y := by unfold Wh.laws_eqEqS'; rw [h]

def Wh.laws_eqSolver (xs : (tImplSolver.D) × (tImplSolver.D)) : Option (((Bool)) × (Unit)) :=
  let a_0 : tImplSolver.D := Prod.fst xs
  let b_1 : tImplSolver.D := Prod.snd xs
  let v_2 : Bool := Prod.fst a_0 != Prod.fst b_1
  bif v_2 then
    some (Bool.false, ())
  else
    let v_3 : Bool := Prod.fst (Prod.snd a_0) != Prod.fst (Prod.snd b_1)
    bif v_3 then
      some (Bool.false, ())
    else
      let v_4 : Bool := Prod.fst (Wh.laws_eqEqS' (Prod.fst (Prod.snd (Prod.snd a_0)), Prod.fst (Prod.snd (Prod.snd b_1))))
      bif allB [Go.Ab.isSm (Wh.laws_eqEqS (Prod.fst (Prod.snd (Prod.snd a_0)), Prod.fst (Prod.snd (Prod.snd b_1))))] then
        bif !v_4 then
          some (Bool.false, ())
        else
          some (Bool.true, ())
      else none
def Wh.laws_eqSolver' (xs : (tImplSolver.D) × (tImplSolver.D)) : ((Bool)) × (Unit) := match Wh.laws_eqSolver xs with | some y => y | none => default
theorem Wh.laws_eqSolver_v (x : (tImplSolver.D) × (tImplSolver.D)) (y : ((Bool)) × (Unit)) (h : Wh.laws_eqSolver x = some y) : Wh.laws_eqSolver' x = y := by unfold Wh.laws_eqSolver'; rw [h]

def Wh.laws_eqGetting (xs : (tImplGetting.D) × (tImplGetting.D)) : Option (((Bool)) × (Unit)) :=
  let a_0 : tImplGetting.D := Prod.fst xs
  let b_1 : tImplGetting.D := Prod.snd xs
  let v_2 : Bool := Prod.fst (Wh.laws_eqPlan' (Prod.fst a_0, Prod.fst b_1))
  bif allB [Go.Ab.isSm (Wh.laws_eqPlan (Prod.fst a_0, Prod.fst b_1))] then
    bif !v_2 then
      some (Bool.false, ())
    else
      let v_3 : Bool := Prod.fst (Wh.laws_eqSolver' (Prod.fst (Prod.snd a_0), Prod.fst (Prod.snd b_1)))
      bif allB [Go.Ab.isSm (Wh.laws_eqSolver (Prod.fst (Prod.snd a_0), Prod.fst (Prod.snd b_1)))] then
        bif !v_3 then
          some (Bool.false, ())
        else
          some (Bool.true, ())
      else none
  else none
def Wh.laws_eqGetting' (xs : (tImplGetting.D) × (tImplGetting.D)) : ((Bool)) × (Unit) := match Wh.laws_eqGetting xs with | some y => y | none => default
theorem Wh.laws_eqGetting_v (x : (tImplGetting.D) × (tImplGetting.D)) (y : ((Bool)) × (Unit)) (h : Wh.laws_eqGetting x = some y) : Wh.laws_eqGetting' x = y := by unfold Wh.laws_eqGetting'; rw [h]

def Wh.laws_eqClient (xs : (tImplClient.D) × (tImplClient.D)) : Option (((Bool)) × (Unit)) :=
  let a_0 : tImplClient.D := Prod.fst xs
  let b_1 : tImplClient.D := Prod.snd xs
  let v_2 : Bool := Prod.fst a_0 != Prod.fst b_1
  bif v_2 then
    some (Bool.false, ())
  else
    let v_3 : Bool := Prod.fst (Prod.snd a_0) != Prod.fst (Prod.snd b_1)
    bif v_3 then
      some (Bool.false, ())
    else
      let v_4 : Bool := Prod.fst (Prod.snd (Prod.snd a_0)) != Prod.fst (Prod.snd (Prod.snd b_1))
      bif v_4 then
        some (Bool.false, ())
      else
        let v_5 : Bool := !Prod.fst (Prod.snd (Prod.snd (Prod.snd a_0))) == Prod.fst (Prod.snd (Prod.snd (Prod.snd b_1)))
        bif v_5 then
          some (Bool.false, ())
        else
          let v_6 : Bool := Prod.fst (Prod.snd (Prod.snd (Prod.snd (Prod.snd a_0)))) != Prod.fst (Prod.snd (Prod.snd (Prod.snd (Prod.snd b_1))))
          bif v_6 then
            some (Bool.false, ())
          else
            let v_7 : Bool := Prod.fst (Wh.laws_eqGetting' (Prod.fst (Prod.snd (Prod.snd (Prod.snd (Prod.snd (Prod.snd a_0))))), Prod.fst (Prod.snd (Prod.snd (Prod.snd (Prod.snd (Prod.snd b_1)))))))
            bif allB [Go.Ab.isSm (Wh.laws_eqGetting (Prod.fst (Prod.snd (Prod.snd (Prod.snd (Prod.snd (Prod.snd a_0))))), Prod.fst (Prod.snd (Prod.snd (Prod.snd (Prod.snd (Prod.snd b_1)))))))] then
              bif !v_7 then
                some (Bool.false, ())
              else
                some (Bool.true, ())
            else none
def Wh.laws_eqClient' (xs : (tImplClient.D) × (tImplClient.D)) : ((Bool)) × (Unit) := match Wh.laws_eqClient xs with | some y => y | none => default
theorem Wh.laws_eqClient_v (x : (tImplClient.D) × (tImplClient.D)) (y : ((Bool)) × (Unit)) (h : Wh.laws_eqClient x = some y) : Wh.laws_eqClient' x = y := by unfold Wh.laws_eqClient'; rw [h]

def Wh.laws_markIntS_l0 (x : ((Int) × (Int) × (List (Int))) × (Unit)) : Option ((((Int) × (Int) × (List (Int))) × (Unit)) ⊕ ((((Int)) × (Unit)))) :=
  let i_6 : Int := Prod.fst (Prod.fst x)
  let k_7 : Int := Prod.fst (Prod.snd (Prod.fst x))
  let a_8 : List Int := Prod.snd (Prod.snd (Prod.fst x))
  let v_9 : Bool := Decidable.decide (i_6 < (↑(List.length a_8) : Int))
  bif v_9 then
    none -- 4004
  else
    some (.inr (k_7, ()))
def Wh.laws_markIntS_l0_y : (((Int)) × (Unit)) := default
def Wh.laws_markIntS (xs : (List (Int)) × (Int)) : Option (((Int)) × (Unit)) :=
  let a_0 : List Int := Prod.fst xs
  let k_1 : Int := Prod.snd xs
  let x_10 : ((Int) × (Int) × (List (Int))) × (Unit) := (((0 : Int), k_1, a_0), ())
  bif comesB Wh.laws_markIntS_l0 x_10 then
    let y_11 := comesV Wh.laws_markIntS_l0 Wh.laws_markIntS_l0_y x_10
    let k_12 : Int := Prod.fst y_11
    some (k_12, ())
  else none
def Wh.laws_markIntS' (xs : (List (Int)) × (Int)) : ((Int)) × (Unit) := match Wh.laws_markIntS xs with | some y => y | none => default
theorem Wh.laws_markIntS_v (x : (List (Int)) × (Int)) (y : ((Int)) × (Unit)) (h : Wh.laws_markIntS x = some y) : Wh.laws_markIntS' x = y := by unfold Wh.laws_markIntS'; rw [h]

def Wh.laws_markPlan (xs : (tImplPlan.D) × (Int)) : Option (((Int)) × (Unit)) :=
  let a_0 : tImplPlan.D := Prod.fst xs
  let k_1 : Int := Prod.snd xs
  let v_2 : Int := Prod.fst (Wh.laws_markIntS' (Prod.fst (Prod.snd (Prod.snd a_0)), k_1))
  bif allB [Go.Ab.isSm (Wh.laws_markIntS (Prod.fst (Prod.snd (Prod.snd a_0)), k_1))] then
    let v_3 : Int := Prod.fst (Wh.laws_markIntS' (Prod.fst (Prod.snd (Prod.snd (Prod.snd a_0))), v_2))
    bif allB [Go.Ab.isSm (Wh.laws_markIntS (Prod.fst (Prod.snd (Prod.snd (Prod.snd a_0))), v_2))] then
      some (v_3, ())
    else none
  else none
def Wh.laws_markPlan' (xs : (tImplPlan.D) × (Int)) : ((Int)) × (Unit) := match Wh.laws_markPlan xs with | some y => y | none => default
theorem Wh.laws_markPlan_v (x : (tImplPlan.D) × (Int)) (y : ((Int)) × (Unit)) (h : Wh.laws_markPlan x = some y) : Wh.laws_markPlan' x = y := by unfold Wh.laws_markPlan'; rw [h]

def Wh.laws_markText_l0 (x : ((Int) × (List UInt8)) × (Unit)) : Option ((((Int) × (List UInt8)) × (Unit)) ⊕ ((((List UInt8)) × (Unit)))) :=
  let k_12 : Int := Prod.fst (Prod.fst x)
  let out_13 : List UInt8 := Prod.snd (Prod.fst x)
  let v_14 : Bool := Decidable.decide (k_12 > (0 : Int))
  bif v_14 then
    let pb_15 : List Int := [Go.IntKind.wrap Go.IntKind.u8 (Go.IntKind.wrap Go.IntKind.i64 ((48 : Int) + Int.tmod k_12 (10 : Int)))]
    let v_16 : Int := Int.tmod k_12 (10 : Int)
    let v_17 : Int := Go.IntKind.wrap Go.IntKind.i64 ((48 : Int) + v_16)
    let v_18 : Int := Go.IntKind.wrap Go.IntKind.u8 (Go.IntKind.wrap Go.IntKind.i64 ((48 : Int) + v_16))
    let v_19 : List UInt8 := Go.Ab.strOf pb_15 ++ out_13
    let out_20 : List UInt8 := Go.Ab.strOf pb_15 ++ out_13
    bif allB [Decidable.decide ((1 : Nat) + List.length out_13 ≤ Go.Ab.maxRows), Bool.true] then
      let v_21 : Int := Go.IntKind.wrap Go.IntKind.i64 (Int.tdiv k_12 (10 : Int))
      some (.inl ((v_21, out_20), ()))
    else none
  else
    some (.inr (out_13, ()))
def Wh.laws_markText_l0_y : (((List UInt8)) × (Unit)) := default
def Wh.laws_markText (xs : (Int)) : Option (((List UInt8)) × (Unit)) :=
  let k_0 : Int := xs
  let v_1 : Bool := Decidable.decide (k_0 ≤ (0 : Int))
  bif v_1 then
    some ([(109 : UInt8), (48 : UInt8)], ())
  else
    let x_22 : ((Int) × (List UInt8)) × (Unit) := ((k_0, []), ())
    bif comesB Wh.laws_markText_l0 x_22 then
      let y_23 := comesV Wh.laws_markText_l0 Wh.laws_markText_l0_y x_22
      let out_24 : List UInt8 := Prod.fst y_23
      let v_25 : List UInt8 := [(109 : UInt8)] ++ out_24
      bif allB [Decidable.decide ((1 : Nat) + List.length out_24 ≤ Go.Ab.maxRows)] then
        some (v_25, ())
      else none
    else none
def Wh.laws_markText' (xs : (Int)) : ((List UInt8)) × (Unit) := match Wh.laws_markText xs with | some y => y | none => default
theorem Wh.laws_markText_v (x : (Int)) (y : ((List UInt8)) × (Unit)) (h : Wh.laws_markText x = some y) : Wh.laws_markText' x = y := by unfold Wh.laws_markText'; rw [h]

def Wh.laws_markEqS_l0 (x : ((Int) × (List (tImplEq.D)) × (Int)) × (Unit)) : Option ((((Int) × (List (tImplEq.D)) × (Int)) × (Unit)) ⊕ ((((Int)) × (Unit)))) :=
  let i_10 : Int := Prod.fst (Prod.fst x)
  let a_11 : List (tImplEq.D) := Prod.fst (Prod.snd (Prod.fst x))
  let k_12 : Int := Prod.snd (Prod.snd (Prod.fst x))
  let v_13 : Int := (↑(List.length a_11) : Int)
  let v_14 : Bool := Decidable.decide (i_10 < v_13)
  bif v_14 then
    let v_15 : tImplEq.D := List.getD a_11 (Int.toNat i_10) ([], [], ())
    let v_16 : Int := Prod.fst (Wh.laws_markIntS' (Prod.fst v_15, k_12))
    let k_17 : Int := Prod.fst (Wh.laws_markIntS' (Prod.fst v_15, k_12))
    bif allB [Go.Ab.isSm (Wh.laws_markIntS (Prod.fst v_15, k_12)), Decidable.decide ((0 : Int) ≤ i_10), Decidable.decide (i_10 < v_13)] then
      none -- 5006
    else none
  else
    some (.inr (k_12, ()))
def Wh.laws_markEqS_l0_y : (((Int)) × (Unit)) := default
def Wh.laws_markEqS (xs : (List (tImplEq.D)) × (Int)) : Option (((Int)) × (Unit)) :=
  let a_0 : List (tImplEq.D) := Prod.fst xs
  let k_1 : Int := Prod.snd xs
  let x_18 : ((Int) × (List (tImplEq.D)) × (Int)) × (Unit) := (((0 : Int), a_0, k_1), ())
  bif comesB Wh.laws_markEqS_l0 x_18 then
    let y_19 := comesV Wh.laws_markEqS_l0 Wh.laws_markEqS_l0_y x_18
    let k_20 : Int := Prod.fst y_19
    some (k_20, ())
  else none
def Wh.laws_markEqS' (xs : (List (tImplEq.D)) × (Int)) : ((Int)) × (Unit) := match Wh.laws_markEqS xs with | some y => y | none => default
theorem Wh.laws_markEqS_v (x : (List (tImplEq.D)) × (Int)) (y : ((Int)) × (Unit)) (h : Wh.laws_markEqS x = some y) : Wh.laws_markEqS' x = y := by unfold Wh.laws_markEqS'; rw [h]

def Wh.laws_markSolver (xs : (tImplSolver.D) × (Int)) : Option (((Int)) × (Unit)) :=
  let a_0 : tImplSolver.D := Prod.fst xs
  let k_1 : Int := Prod.snd xs
  let v_2 : Int := Prod.fst (Wh.laws_markEqS' (Prod.fst (Prod.snd (Prod.snd a_0)), k_1))
  bif allB [Go.Ab.isSm (Wh.laws_markEqS (Prod.fst (Prod.snd (Prod.snd a_0)), k_1))] then
    some (v_2, ())
  else none
def Wh.laws_markSolver' (xs : (tImplSolver.D) × (Int)) : ((Int)) × (Unit) := match Wh.laws_markSolver xs with | some y => y | none => default
theorem Wh.laws_markSolver_v (x : (tImplSolver.D) × (Int)) (y : ((Int)) × (Unit)) (h : Wh.laws_markSolver x = some y) : Wh.laws_markSolver' x = y := by unfold Wh.laws_markSolver'; rw [h]

def Wh.laws_markGetting (xs : (tImplGetting.D) × (Int)) : Option (((Int)) × (Unit)) :=
  let a_0 : tImplGetting.D := Prod.fst xs
  let k_1 : Int := Prod.snd xs
  let v_2 : Int := Prod.fst (Wh.laws_markPlan' (Prod.fst a_0, k_1))
  bif allB [Go.Ab.isSm (Wh.laws_markPlan (Prod.fst a_0, k_1))] then
    let v_3 : Int := Prod.fst (Wh.laws_markSolver' (Prod.fst (Prod.snd a_0), v_2))
    bif allB [Go.Ab.isSm (Wh.laws_markSolver (Prod.fst (Prod.snd a_0), v_2))] then
      some (v_3, ())
    else none
  else none
def Wh.laws_markGetting' (xs : (tImplGetting.D) × (Int)) : ((Int)) × (Unit) := match Wh.laws_markGetting xs with | some y => y | none => default
theorem Wh.laws_markGetting_v (x : (tImplGetting.D) × (Int)) (y : ((Int)) × (Unit)) (h : Wh.laws_markGetting x = some y) : Wh.laws_markGetting' x = y := by unfold Wh.laws_markGetting'; rw [h]

def Wh.laws_markClient (xs : (tImplClient.D) × (Int)) : Option (((Int)) × (Unit)) :=
  let a_0 : tImplClient.D := Prod.fst xs
  let k_1 : Int := Prod.snd xs
  let v_2 : Int := Prod.fst (Wh.laws_markGetting' (Prod.fst (Prod.snd (Prod.snd (Prod.snd (Prod.snd (Prod.snd a_0))))), k_1))
  bif allB [Go.Ab.isSm (Wh.laws_markGetting (Prod.fst (Prod.snd (Prod.snd (Prod.snd (Prod.snd (Prod.snd a_0))))), k_1))] then
    some (v_2, ())
  else none
def Wh.laws_markClient' (xs : (tImplClient.D) × (Int)) : ((Int)) × (Unit) := match Wh.laws_markClient xs with | some y => y | none => default
theorem Wh.laws_markClient_v (x : (tImplClient.D) × (Int)) (y : ((Int)) × (Unit)) (h : Wh.laws_markClient x = some y) : Wh.laws_markClient' x = y := by unfold Wh.laws_markClient'; rw [h]

def Wh.laws_heldIntS_l0 (x : ((Int) × (Int) × (List (Int))) × (Unit)) : Option ((((Int) × (Int) × (List (Int))) × (Unit)) ⊕ ((((Int)) × (Unit)) ⊕ (((Int)) × (Unit)))) :=
  let i_10 : Int := Prod.fst (Prod.fst x)
  let k_11 : Int := Prod.fst (Prod.snd (Prod.fst x))
  let a_12 : List Int := Prod.snd (Prod.snd (Prod.fst x))
  let v_13 : Bool := Decidable.decide (i_10 < (↑(List.length a_12) : Int))
  bif v_13 then
    let v_14 : Int := List.getD a_12 (Int.toNat i_10) (0 : Int)
    let v_15 : Bool := v_14 != k_11
    bif allB [Decidable.decide ((0 : Int) ≤ i_10), v_13] then
      bif v_15 then
        some (.inr (.inl ((-1 : Int), ())))
      else
        let v_16 : Int := Go.IntKind.wrap Go.IntKind.i64 (k_11 + (1 : Int))
        let v_17 : Int := Go.IntKind.wrap Go.IntKind.i64 (i_10 + (1 : Int))
        some (.inl ((v_17, v_16, a_12), ()))
    else none
  else
    some (.inr (.inr (k_11, ())))
def Wh.laws_heldIntS_l0_y : (((Int)) × (Unit)) ⊕ (((Int)) × (Unit)) := .inl default
def Wh.laws_heldIntS (xs : (List (Int)) × (Int)) : Option (((Int)) × (Unit)) :=
  let a_0 : List Int := Prod.fst xs
  let k_1 : Int := Prod.snd xs
  let x_18 : ((Int) × (Int) × (List (Int))) × (Unit) := (((0 : Int), k_1, a_0), ())
  bif comesB Wh.laws_heldIntS_l0 x_18 then
    sumC (comesV Wh.laws_heldIntS_l0 Wh.laws_heldIntS_l0_y x_18) (fun y_19 =>
      let v_21 : Int := Prod.fst y_19
      some (v_21, ())) (fun z_20 =>
      let k_22 : Int := Prod.fst z_20
      some (k_22, ()))
  else none
def Wh.laws_heldIntS' (xs : (List (Int)) × (Int)) : ((Int)) × (Unit) := match Wh.laws_heldIntS xs with | some y => y | none => default
theorem Wh.laws_heldIntS_v (x : (List (Int)) × (Int)) (y : ((Int)) × (Unit)) (h : Wh.laws_heldIntS x = some y) : Wh.laws_heldIntS' x = y := by unfold Wh.laws_heldIntS'; rw [h]

def Wh.laws_heldPlan (xs : (tImplPlan.D) × (Int)) : Option (((Int)) × (Unit)) :=
  let a_0 : tImplPlan.D := Prod.fst xs
  let k_1 : Int := Prod.snd xs
  let v_2 : Int := Prod.fst (Wh.laws_heldIntS' (Prod.fst (Prod.snd (Prod.snd a_0)), k_1))
  bif allB [Go.Ab.isSm (Wh.laws_heldIntS (Prod.fst (Prod.snd (Prod.snd a_0)), k_1))] then
    let v_3 : Bool := Decidable.decide (v_2 < (0 : Int))
    bif v_3 then
      some ((-1 : Int), ())
    else
      let v_4 : Int := Prod.fst (Wh.laws_heldIntS' (Prod.fst (Prod.snd (Prod.snd (Prod.snd a_0))), v_2))
      bif allB [Go.Ab.isSm (Wh.laws_heldIntS (Prod.fst (Prod.snd (Prod.snd (Prod.snd a_0))), v_2))] then
        let v_5 : Bool := Decidable.decide (v_4 < (0 : Int))
        bif v_5 then
          some ((-1 : Int), ())
        else
          some (v_4, ())
      else none
  else none
def Wh.laws_heldPlan' (xs : (tImplPlan.D) × (Int)) : ((Int)) × (Unit) := match Wh.laws_heldPlan xs with | some y => y | none => default
theorem Wh.laws_heldPlan_v (x : (tImplPlan.D) × (Int)) (y : ((Int)) × (Unit)) (h : Wh.laws_heldPlan x = some y) : Wh.laws_heldPlan' x = y := by unfold Wh.laws_heldPlan'; rw [h]

def Wh.laws_heldEqS_l0 (x : ((Int) × (List (tImplEq.D)) × (Int)) × (Unit)) : Option ((((Int) × (List (tImplEq.D)) × (Int)) × (Unit)) ⊕ ((((Int)) × (Unit)) ⊕ (((Int)) × (Unit)))) :=
  let i_14 : Int := Prod.fst (Prod.fst x)
  let a_15 : List (tImplEq.D) := Prod.fst (Prod.snd (Prod.fst x))
  let k_16 : Int := Prod.snd (Prod.snd (Prod.fst x))
  let v_17 : Int := (↑(List.length a_15) : Int)
  let v_18 : Bool := Decidable.decide (i_14 < v_17)
  bif v_18 then
    let v_19 : tImplEq.D := List.getD a_15 (Int.toNat i_14) ([], [], ())
    let v_20 : Int := Prod.fst (Wh.laws_heldIntS' (Prod.fst v_19, k_16))
    let k_21 : Int := Prod.fst (Wh.laws_heldIntS' (Prod.fst v_19, k_16))
    bif allB [Go.Ab.isSm (Wh.laws_heldIntS (Prod.fst v_19, k_16)), Decidable.decide ((0 : Int) ≤ i_14), Decidable.decide (i_14 < v_17)] then
      let v_22 : Bool := Decidable.decide (k_21 < (0 : Int))
      bif v_22 then
        some (.inr (.inl ((-1 : Int), ())))
      else
        let v_23 : Bool := !Prod.fst (Prod.snd v_19) == Prod.fst (Wh.laws_markText' k_21)
        bif allB [Go.Ab.isSm (Wh.laws_markText k_21), Decidable.decide ((0 : Int) ≤ i_14), Decidable.decide (i_14 < v_17)] then
          bif v_23 then
            some (.inr (.inl ((-1 : Int), ())))
          else
            let v_24 : Int := Go.IntKind.wrap Go.IntKind.i64 (k_21 + (1 : Int))
            let v_25 : Int := Go.IntKind.wrap Go.IntKind.i64 (i_14 + (1 : Int))
            some (.inl ((v_25, a_15, v_24), ()))
        else none
    else none
  else
    some (.inr (.inr (k_16, ())))
def Wh.laws_heldEqS_l0_y : (((Int)) × (Unit)) ⊕ (((Int)) × (Unit)) := .inl default
def Wh.laws_heldEqS (xs : (List (tImplEq.D)) × (Int)) : Option (((Int)) × (Unit)) :=
  let a_0 : List (tImplEq.D) := Prod.fst xs
  let k_1 : Int := Prod.snd xs
  let x_26 : ((Int) × (List (tImplEq.D)) × (Int)) × (Unit) := (((0 : Int), a_0, k_1), ())
  bif comesB Wh.laws_heldEqS_l0 x_26 then
    sumC (comesV Wh.laws_heldEqS_l0 Wh.laws_heldEqS_l0_y x_26) (fun y_27 =>
      let v_29 : Int := Prod.fst y_27
      some (v_29, ())) (fun z_28 =>
      let k_30 : Int := Prod.fst z_28
      some (k_30, ()))
  else none
def Wh.laws_heldEqS' (xs : (List (tImplEq.D)) × (Int)) : ((Int)) × (Unit) := match Wh.laws_heldEqS xs with | some y => y | none => default
theorem Wh.laws_heldEqS_v (x : (List (tImplEq.D)) × (Int)) (y : ((Int)) × (Unit)) (h : Wh.laws_heldEqS x = some y) : Wh.laws_heldEqS' x = y := by unfold Wh.laws_heldEqS'; rw [h]

def Wh.laws_heldSolver (xs : (tImplSolver.D) × (Int)) : Option (((Int)) × (Unit)) :=
  let a_0 : tImplSolver.D := Prod.fst xs
  let k_1 : Int := Prod.snd xs
  let v_2 : Int := Prod.fst (Wh.laws_heldEqS' (Prod.fst (Prod.snd (Prod.snd a_0)), k_1))
  bif allB [Go.Ab.isSm (Wh.laws_heldEqS (Prod.fst (Prod.snd (Prod.snd a_0)), k_1))] then
    let v_3 : Bool := Decidable.decide (v_2 < (0 : Int))
    bif v_3 then
      some ((-1 : Int), ())
    else
      some (v_2, ())
  else none
def Wh.laws_heldSolver' (xs : (tImplSolver.D) × (Int)) : ((Int)) × (Unit) := match Wh.laws_heldSolver xs with | some y => y | none => default
theorem Wh.laws_heldSolver_v (x : (tImplSolver.D) × (Int)) (y : ((Int)) × (Unit)) (h : Wh.laws_heldSolver x = some y) : Wh.laws_heldSolver' x = y := by unfold Wh.laws_heldSolver'; rw [h]

def Wh.laws_heldGetting (xs : (tImplGetting.D) × (Int)) : Option (((Int)) × (Unit)) :=
  let a_0 : tImplGetting.D := Prod.fst xs
  let k_1 : Int := Prod.snd xs
  let v_2 : Int := Prod.fst (Wh.laws_heldPlan' (Prod.fst a_0, k_1))
  bif allB [Go.Ab.isSm (Wh.laws_heldPlan (Prod.fst a_0, k_1))] then
    let v_3 : Bool := Decidable.decide (v_2 < (0 : Int))
    bif v_3 then
      some ((-1 : Int), ())
    else
      let v_4 : Int := Prod.fst (Wh.laws_heldSolver' (Prod.fst (Prod.snd a_0), v_2))
      bif allB [Go.Ab.isSm (Wh.laws_heldSolver (Prod.fst (Prod.snd a_0), v_2))] then
        let v_5 : Bool := Decidable.decide (v_4 < (0 : Int))
        bif v_5 then
          some ((-1 : Int), ())
        else
          some (v_4, ())
      else none
  else none
def Wh.laws_heldGetting' (xs : (tImplGetting.D) × (Int)) : ((Int)) × (Unit) := match Wh.laws_heldGetting xs with | some y => y | none => default
theorem Wh.laws_heldGetting_v (x : (tImplGetting.D) × (Int)) (y : ((Int)) × (Unit)) (h : Wh.laws_heldGetting x = some y) : Wh.laws_heldGetting' x = y := by unfold Wh.laws_heldGetting'; rw [h]

def Wh.laws_heldClient (xs : (tImplClient.D) × (Int)) : Option (((Int)) × (Unit)) :=
  let a_0 : tImplClient.D := Prod.fst xs
  let k_1 : Int := Prod.snd xs
  let v_2 : Int := Prod.fst (Wh.laws_heldGetting' (Prod.fst (Prod.snd (Prod.snd (Prod.snd (Prod.snd (Prod.snd a_0))))), k_1))
  bif allB [Go.Ab.isSm (Wh.laws_heldGetting (Prod.fst (Prod.snd (Prod.snd (Prod.snd (Prod.snd (Prod.snd a_0))))), k_1))] then
    let v_3 : Bool := Decidable.decide (v_2 < (0 : Int))
    bif v_3 then
      some ((-1 : Int), ())
    else
      some (v_2, ())
  else none
def Wh.laws_heldClient' (xs : (tImplClient.D) × (Int)) : ((Int)) × (Unit) := match Wh.laws_heldClient xs with | some y => y | none => default
theorem Wh.laws_heldClient_v (x : (tImplClient.D) × (Int)) (y : ((Int)) × (Unit)) (h : Wh.laws_heldClient x = some y) : Wh.laws_heldClient' x = y := by unfold Wh.laws_heldClient'; rw [h]

def Wh.laws_FnExactClientNew (xs : (Int)) : Option (((Bool)) × (Unit)) :=
  let aId_0 : Int := xs
  let pb_1 : List (tImplEq.D) := Prod.fst (Prod.snd (Prod.snd (Prod.fst (Prod.snd (Prod.fst (Prod.snd (Prod.snd (Prod.snd (Prod.snd (Prod.snd (Prod.fst (Wh.spec_ClientNew' aId_0))))))))))))
  let pb_2 : List Int := Prod.fst (Prod.snd (Prod.snd (Prod.snd (Prod.fst (Prod.fst (Prod.snd (Prod.snd (Prod.snd (Prod.snd (Prod.snd (Prod.fst (Wh.spec_ClientNew' aId_0))))))))))))
  let pb_3 : List Int := Prod.fst (Prod.snd (Prod.snd (Prod.fst (Prod.fst (Prod.snd (Prod.snd (Prod.snd (Prod.snd (Prod.snd (Prod.fst (Wh.spec_ClientNew' aId_0)))))))))))
  let pb_4 : PUnit := Prod.snd (Prod.snd (Prod.snd (Prod.snd (Prod.snd (Prod.snd (Prod.fst (Wh.spec_ClientNew' aId_0)))))))
  let pb_5 : PUnit := Prod.snd (Prod.snd (Prod.fst (Prod.snd (Prod.snd (Prod.snd (Prod.snd (Prod.snd (Prod.fst (Wh.spec_ClientNew' aId_0)))))))))
  let pb_6 : PUnit := Prod.snd (Prod.snd (Prod.snd (Prod.fst (Prod.snd (Prod.fst (Prod.snd (Prod.snd (Prod.snd (Prod.snd (Prod.snd (Prod.fst (Wh.spec_ClientNew' aId_0))))))))))))
  let pb_7 : Int := Prod.fst (Prod.snd (Prod.fst (Prod.snd (Prod.fst (Prod.snd (Prod.snd (Prod.snd (Prod.snd (Prod.snd (Prod.fst (Wh.spec_ClientNew' aId_0)))))))))))
  let pb_8 : Int := Prod.fst (Prod.fst (Prod.snd (Prod.fst (Prod.snd (Prod.snd (Prod.snd (Prod.snd (Prod.snd (Prod.fst (Wh.spec_ClientNew' aId_0))))))))))
  let pb_9 : PUnit := Prod.snd (Prod.snd (Prod.snd (Prod.snd (Prod.fst (Prod.fst (Prod.snd (Prod.snd (Prod.snd (Prod.snd (Prod.snd (Prod.fst (Wh.spec_ClientNew' aId_0))))))))))))
  let pb_10 : Int := Prod.fst (Prod.snd (Prod.fst (Prod.fst (Prod.snd (Prod.snd (Prod.snd (Prod.snd (Prod.snd (Prod.fst (Wh.spec_ClientNew' aId_0))))))))))
  let pb_11 : Int := Prod.fst (Prod.fst (Prod.fst (Prod.snd (Prod.snd (Prod.snd (Prod.snd (Prod.snd (Prod.fst (Wh.spec_ClientNew' aId_0)))))))))
  let pb_12 : Int := Prod.fst (Prod.snd (Prod.snd (Prod.snd (Prod.snd (Prod.fst (Wh.spec_ClientNew' aId_0))))))
  let pb_13 : List UInt8 := Prod.fst (Prod.snd (Prod.snd (Prod.snd (Prod.fst (Wh.spec_ClientNew' aId_0)))))
  let pb_14 : Int := Prod.fst (Prod.snd (Prod.snd (Prod.fst (Wh.spec_ClientNew' aId_0))))
  let pb_15 : Int := Prod.fst (Prod.snd (Prod.fst (Wh.spec_ClientNew' aId_0)))
  let pb_16 : Int := Prod.fst (Prod.fst (Wh.spec_ClientNew' aId_0))
  bif allB [Go.Ab.isSm (Wh.spec_ClientNew aId_0)] then
    let pb_17 : List (tImplEq.D) := Prod.fst (Prod.snd (Prod.snd (Prod.fst (Prod.snd (Prod.fst (Prod.snd (Prod.snd (Prod.snd (Prod.snd (Prod.snd (Prod.fst (Wh.impl_ClientNew' aId_0))))))))))))
    let pb_18 : List Int := Prod.fst (Prod.snd (Prod.snd (Prod.snd (Prod.fst (Prod.fst (Prod.snd (Prod.snd (Prod.snd (Prod.snd (Prod.snd (Prod.fst (Wh.impl_ClientNew' aId_0))))))))))))
    let pb_19 : List Int := Prod.fst (Prod.snd (Prod.snd (Prod.fst (Prod.fst (Prod.snd (Prod.snd (Prod.snd (Prod.snd (Prod.snd (Prod.fst (Wh.impl_ClientNew' aId_0)))))))))))
    let pb_20 : PUnit := Prod.snd (Prod.snd (Prod.snd (Prod.snd (Prod.snd (Prod.snd (Prod.fst (Wh.impl_ClientNew' aId_0)))))))
    let pb_21 : PUnit := Prod.snd (Prod.snd (Prod.fst (Prod.snd (Prod.snd (Prod.snd (Prod.snd (Prod.snd (Prod.fst (Wh.impl_ClientNew' aId_0)))))))))
    let pb_22 : PUnit := Prod.snd (Prod.snd (Prod.snd (Prod.fst (Prod.snd (Prod.fst (Prod.snd (Prod.snd (Prod.snd (Prod.snd (Prod.snd (Prod.fst (Wh.impl_ClientNew' aId_0))))))))))))
    let pb_23 : Int := Prod.fst (Prod.snd (Prod.fst (Prod.snd (Prod.fst (Prod.snd (Prod.snd (Prod.snd (Prod.snd (Prod.snd (Prod.fst (Wh.impl_ClientNew' aId_0)))))))))))
    let pb_24 : Int := Prod.fst (Prod.fst (Prod.snd (Prod.fst (Prod.snd (Prod.snd (Prod.snd (Prod.snd (Prod.snd (Prod.fst (Wh.impl_ClientNew' aId_0))))))))))
    let pb_25 : PUnit := Prod.snd (Prod.snd (Prod.snd (Prod.snd (Prod.fst (Prod.fst (Prod.snd (Prod.snd (Prod.snd (Prod.snd (Prod.snd (Prod.fst (Wh.impl_ClientNew' aId_0))))))))))))
    let pb_26 : Int := Prod.fst (Prod.snd (Prod.fst (Prod.fst (Prod.snd (Prod.snd (Prod.snd (Prod.snd (Prod.snd (Prod.fst (Wh.impl_ClientNew' aId_0))))))))))
    let pb_27 : Int := Prod.fst (Prod.fst (Prod.fst (Prod.snd (Prod.snd (Prod.snd (Prod.snd (Prod.snd (Prod.fst (Wh.impl_ClientNew' aId_0)))))))))
    let pb_28 : Int := Prod.fst (Prod.snd (Prod.snd (Prod.snd (Prod.snd (Prod.fst (Wh.impl_ClientNew' aId_0))))))
    let pb_29 : List UInt8 := Prod.fst (Prod.snd (Prod.snd (Prod.snd (Prod.fst (Wh.impl_ClientNew' aId_0)))))
    let pb_30 : Int := Prod.fst (Prod.snd (Prod.snd (Prod.fst (Wh.impl_ClientNew' aId_0))))
    let pb_31 : Int := Prod.fst (Prod.snd (Prod.fst (Wh.impl_ClientNew' aId_0)))
    let pb_32 : Int := Prod.fst (Prod.fst (Wh.impl_ClientNew' aId_0))
    bif allB [Go.Ab.isSm (Wh.impl_ClientNew aId_0)] then
      let v_33 : Bool := Prod.fst (Wh.laws_eqClient' ((pb_32, pb_31, pb_30, pb_29, pb_28, ((pb_27, pb_26, pb_19, pb_18, pb_25), (pb_24, pb_23, pb_17, pb_22), pb_21), pb_20), pb_16, pb_15, pb_14, pb_13, pb_12, ((pb_11, pb_10, pb_3, pb_2, pb_9), (pb_8, pb_7, pb_1, pb_6), pb_5), pb_4))
      bif allB [Go.Ab.isSm (Wh.laws_eqClient ((pb_32, pb_31, pb_30, pb_29, pb_28, ((pb_27, pb_26, pb_19, pb_18, pb_25), (pb_24, pb_23, pb_17, pb_22), pb_21), pb_20), pb_16, pb_15, pb_14, pb_13, pb_12, ((pb_11, pb_10, pb_3, pb_2, pb_9), (pb_8, pb_7, pb_1, pb_6), pb_5), pb_4))] then
        bif !v_33 then
          some (Bool.false, ())
        else
          let v_34 : Int := Prod.fst (Wh.laws_markClient' ((pb_32, pb_31, pb_30, pb_29, pb_28, ((pb_27, pb_26, pb_19, pb_18, pb_25), (pb_24, pb_23, pb_17, pb_22), pb_21), pb_20), (1 : Int)))
          bif allB [Go.Ab.isSm (Wh.laws_markClient ((pb_32, pb_31, pb_30, pb_29, pb_28, ((pb_27, pb_26, pb_19, pb_18, pb_25), (pb_24, pb_23, pb_17, pb_22), pb_21), pb_20), (1 : Int)))] then
            let v_35 : Int := Prod.fst (Wh.laws_heldClient' ((pb_32, pb_31, pb_30, pb_29, pb_28, ((pb_27, pb_26, pb_19, pb_18, pb_25), (pb_24, pb_23, pb_17, pb_22), pb_21), pb_20), (1 : Int)))
            bif allB [Go.Ab.isSm (Wh.laws_heldClient ((pb_32, pb_31, pb_30, pb_29, pb_28, ((pb_27, pb_26, pb_19, pb_18, pb_25), (pb_24, pb_23, pb_17, pb_22), pb_21), pb_20), (1 : Int)))] then
              let v_36 : Bool := Decidable.decide (v_35 < (0 : Int))
              bif v_36 then
                some (Bool.false, ())
              else
                let v_37 : Bool := v_35 != v_34
                bif v_37 then
                  some (Bool.false, ())
                else
                  bif allB [Go.Ab.isSm (Wh.impl_ClientNew aId_0)] then
                    bif allB [Go.Ab.isSm (Wh.laws_eqClient ((pb_32, pb_31, pb_30, pb_29, pb_28, ((pb_27, pb_26, pb_19, pb_18, pb_25), (pb_24, pb_23, pb_17, pb_22), pb_21), pb_20), pb_16, pb_15, pb_14, pb_13, pb_12, ((pb_11, pb_10, pb_3, pb_2, pb_9), (pb_8, pb_7, pb_1, pb_6), pb_5), pb_4))] then
                      bif !v_33 then
                        some (Bool.false, ())
                      else
                        bif allB [Go.Ab.isSm (Wh.laws_heldClient ((pb_32, pb_31, pb_30, pb_29, pb_28, ((pb_27, pb_26, pb_19, pb_18, pb_25), (pb_24, pb_23, pb_17, pb_22), pb_21), pb_20), (1 : Int)))] then
                          bif v_36 then
                            some (Bool.false, ())
                          else
                            bif v_37 then
                              some (Bool.false, ())
                            else
                              some (Bool.true, ())
                        else none
                    else none
                  else none
            else none
          else none
      else none
    else none
  else none
def Wh.laws_FnExactClientNew' (xs : (Int)) : ((Bool)) × (Unit) := match Wh.laws_FnExactClientNew xs with | some y => y | none => default
theorem Wh.laws_FnExactClientNew_v (x : (Int)) (y : ((Bool)) × (Unit)) (h : Wh.laws_FnExactClientNew x = some y) : Wh.laws_FnExactClientNew' x = y := by unfold Wh.laws_FnExactClientNew'; rw [h]



end

