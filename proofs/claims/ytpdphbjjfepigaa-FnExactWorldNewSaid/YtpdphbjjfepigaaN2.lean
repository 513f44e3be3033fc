import Derived.Test.YtpdphbjjfepigaaN1
open Go Go.Ab
noncomputable section
def Wh.laws_heldPacketS_l0 (x : ((Int) × (List (tImplPacket.D)) × (Int)) × (Unit)) : Option ((((Int) × (List (tImplPacket.D)) × (Int)) × (Unit)) ⊕ ((((Int)) × (Unit)) ⊕ (((Int)) × (Unit)))) :=
  let i_17 : Int := Prod.fst (Prod.fst x)
  let a_18 : List (tImplPacket.D) := Prod.fst (Prod.snd (Prod.fst x))
  let k_19 : Int := Prod.snd (Prod.snd (Prod.fst x))
  let v_20 : Int := (↑(List.length a_18) : Int)
  let v_21 : Bool := Decidable.decide (i_17 < v_20)
  bif v_21 then
    let v_22 : tImplPacket.D := List.getD a_18 (Int.toNat i_17) ((0 : Int), [], Bool.false, ())
    let v_23 : Bool := Prod.fst v_22 != k_19
    bif allB [Decidable.decide ((0 : Int) ≤ i_17), Decidable.decide (i_17 < v_20)] then
      bif v_23 then
        some (.inr (.inl ((-1 : Int), ())))
      else
        let v_24 : Int := Go.IntKind.wrap Go.IntKind.i64 (k_19 + (1 : Int))
        let v_25 : Bool := !Prod.fst (Prod.snd v_22) == Prod.fst (Wh.laws_markText' v_24)
        bif allB [Go.Ab.isSm (Wh.laws_markText v_24), Decidable.decide ((0 : Int) ≤ i_17), Decidable.decide (i_17 < v_20)] then
          bif v_25 then
            some (.inr (.inl ((-1 : Int), ())))
          else
            let v_26 : Int := Go.IntKind.wrap Go.IntKind.i64 (v_24 + (1 : Int))
            let v_27 : Int := Int.tmod v_26 (3 : Int)
            let v_29 : Bool := !Prod.fst (Prod.snd (Prod.snd v_22)) == (v_27 == (0 : Int))
            bif allB [Bool.true, Decidable.decide ((0 : Int) ≤ i_17), Decidable.decide (i_17 < v_20)] then
              bif v_29 then
                some (.inr (.inl ((-1 : Int), ())))
              else
                let v_30 : Int := Go.IntKind.wrap Go.IntKind.i64 (v_26 + (1 : Int))
                let v_31 : Int := Go.IntKind.wrap Go.IntKind.i64 (i_17 + (1 : Int))
                some (.inl ((v_31, a_18, v_30), ()))
            else none
        else none
    else none
  else
    some (.inr (.inr (k_19, ())))
def Wh.laws_heldPacketS_l0_y : (((Int)) × (Unit)) ⊕ (((Int)) × (Unit)) := .inl default
def Wh.laws_heldPacketS (xs : (List (tImplPacket.D)) × (Int)) : Option (((Int)) × (Unit)) :=
  let a_0 : List (tImplPacket.D) := Prod.fst xs
  let k_1 : Int := Prod.snd xs
  let x_32 : ((Int) × (List (tImplPacket.D)) × (Int)) × (Unit) := (((0 : Int), a_0, k_1), ())
  bif comesB Wh.laws_heldPacketS_l0 x_32 then
    sumC (comesV Wh.laws_heldPacketS_l0 Wh.laws_heldPacketS_l0_y x_32) (fun y_33 =>
      let v_35 : Int := Prod.fst y_33
      some (v_35, ())) (fun z_34 =>
      let k_36 : Int := Prod.fst z_34
      some (k_36, ()))
  else none
def Wh.laws_heldPacketS' (xs : (List (tImplPacket.D)) × (Int)) : ((Int)) × (Unit) := match Wh.laws_heldPacketS xs with | some y => y | none => default
theorem Wh.laws_heldPacketS_v (x : (List (tImplPacket.D)) × (Int)) (y : ((Int)) × (Unit)) (h : Wh.laws_heldPacketS x = some y) : Wh.laws_heldPacketS' x = y := by unfold Wh.laws_heldPacketS'; rw [h]

def Wh.laws_heldWorld (xs : (tImplWorld.D) × (Int)) : Option (((Int)) × (Unit)) :=
  let a_0 : tImplWorld.D := Prod.fst xs
  let k_1 : Int := Prod.snd xs
  let v_2 : Int := Prod.fst (Wh.laws_heldServer' (Prod.fst a_0, k_1))
  bif allB [Go.Ab.isSm (Wh.laws_heldServer (Prod.fst a_0, k_1))] then
    let v_3 : Bool := Decidable.decide (v_2 < (0 : Int))
    bif v_3 then
      some ((-1 : Int), ())
    else
      let v_4 : Int := Prod.fst (Wh.laws_heldClientS' (Prod.fst (Prod.snd a_0), v_2))
      bif allB [Go.Ab.isSm (Wh.laws_heldClientS (Prod.fst (Prod.snd a_0), v_2))] then
        let v_5 : Bool := Decidable.decide (v_4 < (0 : Int))
        bif v_5 then
          some ((-1 : Int), ())
        else
          let v_6 : Int := Prod.fst (Wh.laws_heldPacketS' (Prod.fst (Prod.snd (Prod.snd a_0)), v_4))
          bif allB [Go.Ab.isSm (Wh.laws_heldPacketS (Prod.fst (Prod.snd (Prod.snd a_0)), v_4))] then
            let v_7 : Bool := Decidable.decide (v_6 < (0 : Int))
            bif v_7 then
              some ((-1 : Int), ())
            else
              let v_8 : Int := Prod.fst (Wh.laws_heldItemS' (Prod.fst (Prod.snd (Prod.snd (Prod.snd a_0))), v_6))
              bif allB [Go.Ab.isSm (Wh.laws_heldItemS (Prod.fst (Prod.snd (Prod.snd (Prod.snd a_0))), v_6))] then
                let v_9 : Bool := Decidable.decide (v_8 < (0 : Int))
                bif v_9 then
                  some ((-1 : Int), ())
                else
                  some (v_8, ())
              else none
          else none
      else none
  else none
def Wh.laws_heldWorld' (xs : (tImplWorld.D) × (Int)) : ((Int)) × (Unit) := match Wh.laws_heldWorld xs with | some y => y | none => default
theorem Wh.laws_heldWorld_v (x : (tImplWorld.D) × (Int)) (y : ((Int)) × (Unit)) (h : Wh.laws_heldWorld x = some y) : Wh.laws_heldWorld' x = y := by unfold Wh.laws_heldWorld'; rw [h]

def Wh.laws_FnExactWorldNew (xs : Unit) : Option (((Bool)) × (Unit)) :=
  let pb_0 : List (tImplItem.D) := Prod.fst (Prod.snd (Prod.snd (Prod.snd (Prod.fst (Wh.spec_WorldNew' ())))))
  let pb_1 : List (tImplPacket.D) := Prod.fst (Prod.snd (Prod.snd (Prod.fst (Wh.spec_WorldNew' ()))))
  let pb_2 : List (tImplClient.D) := Prod.fst (Prod.snd (Prod.fst (Wh.spec_WorldNew' ())))
  let pb_3 : List (tImplServe.D) := Prod.fst (Prod.snd (Prod.snd (Prod.snd (Prod.snd (Prod.snd (Prod.snd (Prod.fst (Prod.fst (Wh.spec_WorldNew' ())))))))))
  let pb_4 : List (tImplBucket.D) := Prod.fst (Prod.snd (Prod.snd (Prod.snd (Prod.snd (Prod.snd (Prod.fst (Prod.fst (Wh.spec_WorldNew' ()))))))))
  let pb_5 : List (tImplFrame.D) := Prod.fst (Prod.fst (Prod.snd (Prod.snd (Prod.snd (Prod.snd (Prod.fst (Prod.fst (Wh.spec_WorldNew' ()))))))))
  let pb_6 : List (tImplItem.D) := Prod.fst (Prod.snd (Prod.fst (Prod.snd (Prod.snd (Prod.snd (Prod.fst (Prod.fst (Wh.spec_WorldNew' ()))))))))
  let pb_7 : PUnit := Prod.snd (Prod.snd (Prod.snd (Prod.snd (Prod.fst (Wh.spec_WorldNew' ())))))
  let pb_8 : PUnit := Prod.snd (Prod.snd (Prod.snd (Prod.snd (Prod.snd (Prod.snd (Prod.snd (Prod.fst (Prod.fst (Wh.spec_WorldNew' ())))))))))
  let pb_9 : Int × PUnit := Prod.snd (Prod.fst (Prod.snd (Prod.snd (Prod.snd (Prod.snd (Prod.fst (Prod.fst (Wh.spec_WorldNew' ()))))))))
  let pb_10 : PUnit := Prod.snd (Prod.snd (Prod.fst (Prod.snd (Prod.snd (Prod.snd (Prod.fst (Prod.fst (Wh.spec_WorldNew' ()))))))))
  let pb_11 : Int := Prod.fst (Prod.fst (Prod.snd (Prod.snd (Prod.snd (Prod.fst (Prod.fst (Wh.spec_WorldNew' ())))))))
  let pb_12 : List UInt8 := Prod.fst (Prod.snd (Prod.snd (Prod.fst (Prod.fst (Wh.spec_WorldNew' ())))))
  let pb_13 : Int := Prod.fst (Prod.snd (Prod.fst (Prod.fst (Wh.spec_WorldNew' ()))))
  let pb_14 : Bool := Prod.fst (Prod.fst (Prod.fst (Wh.spec_WorldNew' ())))
  bif allB [Option.rec ((fun (_ : Unit) => Bool.false) ()) (fun (val : ((Bool × Int × List UInt8 × (Int × List (Int × List UInt8 × Int × List UInt8 × Unit) × Unit) × (List (Int × Int × Int × Int × Bool × Unit) × Int × Unit) × List (Int × Int × Int × Int × Unit) × List (Int × Int × Int × Int × Int × Int × Unit) × Unit) × List (Int × Int × Int × List UInt8 × Int × ((Int × Int × List Int × List Int × Unit) × (Int × Int × List (List Int × List UInt8 × Unit) × Unit) × Unit) × Unit) × List (Int × List UInt8 × Bool × Unit) × List (Int × List UInt8 × Int × List UInt8 × Unit) × Unit) × Unit) => (fun (val : ((Bool × Int × List UInt8 × (Int × List (Int × List UInt8 × Int × List UInt8 × Unit) × Unit) × (List (Int × Int × Int × Int × Bool × Unit) × Int × Unit) × List (Int × Int × Int × Int × Unit) × List (Int × Int × Int × Int × Int × Int × Unit) × Unit) × List (Int × Int × Int × List UInt8 × Int × ((Int × Int × List Int × List Int × Unit) × (Int × Int × List (List Int × List UInt8 × Unit) × Unit) × Unit) × Unit) × List (Int × List UInt8 × Bool × Unit) × List (Int × List UInt8 × Int × List UInt8 × Unit) × Unit) × Unit) => (fun (val : ((Bool × Int × List UInt8 × (Int × List (Int × List UInt8 × Int × List UInt8 × Unit) × Unit) × (List (Int × Int × Int × Int × Bool × Unit) × Int × Unit) × List (Int × Int × Int × Int × Unit) × List (Int × Int × Int × Int × Int × Int × Unit) × Unit) × List (Int × Int × Int × List UInt8 × Int × ((Int × Int × List Int × List Int × Unit) × (Int × Int × List (List Int × List UInt8 × Unit) × Unit) × Unit) × Unit) × List (Int × List UInt8 × Bool × Unit) × List (Int × List UInt8 × Int × List UInt8 × Unit) × Unit) × Unit) => Bool.true) val) val) (Wh.spec_WorldNew ())] then
    let pb_15 : List (tImplItem.D) := Prod.fst (Prod.snd (Prod.snd (Prod.snd (Prod.fst (Wh.impl_WorldNew' ())))))
    let pb_16 : List (tImplPacket.D) := Prod.fst (Prod.snd (Prod.snd (Prod.fst (Wh.impl_WorldNew' ()))))
    let pb_17 : List (tImplClient.D) := Prod.fst (Prod.snd (Prod.fst (Wh.impl_WorldNew' ())))
    let pb_18 : List (tImplServe.D) := Prod.fst (Prod.snd (Prod.snd (Prod.snd (Prod.snd (Prod.snd (Prod.snd (Prod.fst (Prod.fst (Wh.impl_WorldNew' ())))))))))
    let pb_19 : List (tImplBucket.D) := Prod.fst (Prod.snd (Prod.snd (Prod.snd (Prod.snd (Prod.snd (Prod.fst (Prod.fst (Wh.impl_WorldNew' ()))))))))
    let pb_20 : List (tImplFrame.D) := Prod.fst (Prod.fst (Prod.snd (Prod.snd (Prod.snd (Prod.snd (Prod.fst (Prod.fst (Wh.impl_WorldNew' ()))))))))
    let pb_21 : List (tImplItem.D) := Prod.fst (Prod.snd (Prod.fst (Prod.snd (Prod.snd (Prod.snd (Prod.fst (Prod.fst (Wh.impl_WorldNew' ()))))))))
    let pb_22 : PUnit := Prod.snd (Prod.snd (Prod.snd (Prod.snd (Prod.fst (Wh.impl_WorldNew' ())))))
    let pb_23 : PUnit := Prod.snd (Prod.snd (Prod.snd (Prod.snd (Prod.snd (Prod.snd (Prod.snd (Prod.fst (Prod.fst (Wh.impl_WorldNew' ())))))))))
    let pb_24 : Int × PUnit := Prod.snd (Prod.fst (Prod.snd (Prod.snd (Prod.snd (Prod.snd (Prod.fst (Prod.fst (Wh.impl_WorldNew' ()))))))))
    let pb_25 : PUnit := Prod.snd (Prod.snd (Prod.fst (Prod.snd (Prod.snd (Prod.snd (Prod.fst (Prod.fst (Wh.impl_WorldNew' ()))))))))
    let pb_26 : Int := Prod.fst (Prod.fst (Prod.snd (Prod.snd (Prod.snd (Prod.fst (Prod.fst (Wh.impl_WorldNew' ())))))))
    let pb_27 : List UInt8 := Prod.fst (Prod.snd (Prod.snd (Prod.fst (Prod.fst (Wh.impl_WorldNew' ())))))
    let pb_28 : Int := Prod.fst (Prod.snd (Prod.fst (Prod.fst (Wh.impl_WorldNew' ()))))
    let pb_29 : Bool := Prod.fst (Prod.fst (Prod.fst (Wh.impl_WorldNew' ())))
    bif allB [Option.rec ((fun (_ : Unit) => Bool.false) ()) (fun (val : ((Bool × Int × List UInt8 × (Int × List (Int × List UInt8 × Int × List UInt8 × Unit) × Unit) × (List (Int × Int × Int × Int × Bool × Unit) × Int × Unit) × List (Int × Int × Int × Int × Unit) × List (Int × Int × Int × Int × Int × Int × Unit) × Unit) × List (Int × Int × Int × List UInt8 × Int × ((Int × Int × List Int × List Int × Unit) × (Int × Int × List (List Int × List UInt8 × Unit) × Unit) × Unit) × Unit) × List (Int × List UInt8 × Bool × Unit) × List (Int × List UInt8 × Int × List UInt8 × Unit) × Unit) × Unit) => (fun (val : ((Bool × Int × List UInt8 × (Int × List (Int × List UInt8 × Int × List UInt8 × Unit) × Unit) × (List (Int × Int × Int × Int × Bool × Unit) × Int × Unit) × List (Int × Int × Int × Int × Unit) × List (Int × Int × Int × Int × Int × Int × Unit) × Unit) × List (Int × Int × Int × List UInt8 × Int × ((Int × Int × List Int × List Int × Unit) × (Int × Int × List (List Int × List UInt8 × Unit) × Unit) × Unit) × Unit) × List (Int × List UInt8 × Bool × Unit) × List (Int × List UInt8 × Int × List UInt8 × Unit) × Unit) × Unit) => (fun (val : ((Bool × Int × List UInt8 × (Int × List (Int × List UInt8 × Int × List UInt8 × Unit) × Unit) × (List (Int × Int × Int × Int × Bool × Unit) × Int × Unit) × List (Int × Int × Int × Int × Unit) × List (Int × Int × Int × Int × Int × Int × Unit) × Unit) × List (Int × Int × Int × List UInt8 × Int × ((Int × Int × List Int × List Int × Unit) × (Int × Int × List (List Int × List UInt8 × Unit) × Unit) × Unit) × Unit) × List (Int × List UInt8 × Bool × Unit) × List (Int × List UInt8 × Int × List UInt8 × Unit) × Unit) × Unit) => Bool.true) val) val) (Wh.impl_WorldNew ())] then
      let v_30 : Bool := Prod.fst (Wh.laws_eqWorld' (((pb_29, pb_28, pb_27, (pb_26, pb_21, pb_25), (pb_20, pb_24), pb_19, pb_18, pb_23), pb_17, pb_16, pb_15, pb_22), (pb_14, pb_13, pb_12, (pb_11, pb_6, pb_10), (pb_5, pb_9), pb_4, pb_3, pb_8), pb_2, pb_1, pb_0, pb_7))
      bif allB [Go.Ab.isSm (Wh.laws_eqWorld (((pb_29, pb_28, pb_27, (pb_26, pb_21, pb_25), (pb_20, pb_24), pb_19, pb_18, pb_23), pb_17, pb_16, pb_15, pb_22), (pb_14, pb_13, pb_12, (pb_11, pb_6, pb_10), (pb_5, pb_9), pb_4, pb_3, pb_8), pb_2, pb_1, pb_0, pb_7))] then
        bif !v_30 then
          some (Bool.false, ())
        else
          let pb_31 : List (tImplItem.D) := Prod.fst (Prod.snd (Prod.snd (Prod.snd (Prod.fst (Prod.snd (Wh.laws_markWorld' (((pb_29, pb_28, pb_27, (pb_26, pb_21, pb_25), (pb_20, pb_24), pb_19, pb_18, pb_23), pb_17, pb_16, pb_15, pb_22), (1 : Int))))))))
          let pb_32 : List (tImplPacket.D) := Prod.fst (Prod.snd (Prod.snd (Prod.fst (Prod.snd (Wh.laws_markWorld' (((pb_29, pb_28, pb_27, (pb_26, pb_21, pb_25), (pb_20, pb_24), pb_19, pb_18, pb_23), pb_17, pb_16, pb_15, pb_22), (1 : Int)))))))
          let pb_33 : List (tImplClient.D) := Prod.fst (Prod.snd (Prod.fst (Prod.snd (Wh.laws_markWorld' (((pb_29, pb_28, pb_27, (pb_26, pb_21, pb_25), (pb_20, pb_24), pb_19, pb_18, pb_23), pb_17, pb_16, pb_15, pb_22), (1 : Int))))))
          let pb_34 : List (tImplServe.D) := Prod.fst (Prod.snd (Prod.snd (Prod.snd (Prod.snd (Prod.snd (Prod.snd (Prod.fst (Prod.fst (Prod.snd (Wh.laws_markWorld' (((pb_29, pb_28, pb_27, (pb_26, pb_21, pb_25), (pb_20, pb_24), pb_19, pb_18, pb_23), pb_17, pb_16, pb_15, pb_22), (1 : Int))))))))))))
          let pb_35 : List (tImplBucket.D) := Prod.fst (Prod.snd (Prod.snd (Prod.snd (Prod.snd (Prod.snd (Prod.fst (Prod.fst (Prod.snd (Wh.laws_markWorld' (((pb_29, pb_28, pb_27, (pb_26, pb_21, pb_25), (pb_20, pb_24), pb_19, pb_18, pb_23), pb_17, pb_16, pb_15, pb_22), (1 : Int)))))))))))
          let pb_36 : List (tImplFrame.D) := Prod.fst (Prod.fst (Prod.snd (Prod.snd (Prod.snd (Prod.snd (Prod.fst (Prod.fst (Prod.snd (Wh.laws_markWorld' (((pb_29, pb_28, pb_27, (pb_26, pb_21, pb_25), (pb_20, pb_24), pb_19, pb_18, pb_23), pb_17, pb_16, pb_15, pb_22), (1 : Int)))))))))))
          let pb_37 : List (tImplItem.D) := Prod.fst (Prod.snd (Prod.fst (Prod.snd (Prod.snd (Prod.snd (Prod.fst (Prod.fst (Prod.snd (Wh.laws_markWorld' (((pb_29, pb_28, pb_27, (pb_26, pb_21, pb_25), (pb_20, pb_24), pb_19, pb_18, pb_23), pb_17, pb_16, pb_15, pb_22), (1 : Int)))))))))))
          let v_38 : Int := Prod.fst (Wh.laws_markWorld' (((pb_29, pb_28, pb_27, (pb_26, pb_21, pb_25), (pb_20, pb_24), pb_19, pb_18, pb_23), pb_17, pb_16, pb_15, pb_22), (1 : Int)))
          bif allB [Go.Ab.isSm (Wh.laws_markWorld (((pb_29, pb_28, pb_27, (pb_26, pb_21, pb_25), (pb_20, pb_24), pb_19, pb_18, pb_23), pb_17, pb_16, pb_15, pb_22), (1 : Int)))] then
            let v_39 : Int := Prod.fst (Wh.laws_heldWorld' (((pb_29, pb_28, pb_27, (pb_26, pb_37, pb_25), (pb_36, pb_24), pb_35, pb_34, pb_23), pb_33, pb_32, pb_31, pb_22), (1 : Int)))
            bif allB [Go.Ab.isSm (Wh.laws_heldWorld (((pb_29, pb_28, pb_27, (pb_26, pb_37, pb_25), (pb_36, pb_24), pb_35, pb_34, pb_23), pb_33, pb_32, pb_31, pb_22), (1 : Int)))] then
              let v_40 : Bool := Decidable.decide (v_39 < (0 : Int))
              bif v_40 then
                some (Bool.false, ())
              else
                let v_41 : Bool := v_39 != v_38
                bif v_41 then
                  some (Bool.false, ())
                else
                  bif allB [Option.rec ((fun (_ : Unit) => Bool.false) ()) (fun (val : ((Bool × Int × List UInt8 × (Int × List (Int × List UInt8 × Int × List UInt8 × Unit) × Unit) × (List (Int × Int × Int × Int × Bool × Unit) × Int × Unit) × List (Int × Int × Int × Int × Unit) × List (Int × Int × Int × Int × Int × Int × Unit) × Unit) × List (Int × Int × Int × List UInt8 × Int × ((Int × Int × List Int × List Int × Unit) × (Int × Int × List (List Int × List UInt8 × Unit) × Unit) × Unit) × Unit) × List (Int × List UInt8 × Bool × Unit) × List (Int × List UInt8 × Int × List UInt8 × Unit) × Unit) × Unit) => (fun (val : ((Bool × Int × List UInt8 × (Int × List (Int × List UInt8 × Int × List UInt8 × Unit) × Unit) × (List (Int × Int × Int × Int × Bool × Unit) × Int × Unit) × List (Int × Int × Int × Int × Unit) × List (Int × Int × Int × Int × Int × Int × Unit) × Unit) × List (Int × Int × Int × List UInt8 × Int × ((Int × Int × List Int × List Int × Unit) × (Int × Int × List (List Int × List UInt8 × Unit) × Unit) × Unit) × Unit) × List (Int × List UInt8 × Bool × Unit) × List (Int × List UInt8 × Int × List UInt8 × Unit) × Unit) × Unit) => (fun (val : ((Bool × Int × List UInt8 × (Int × List (Int × List UInt8 × Int × List UInt8 × Unit) × Unit) × (List (Int × Int × Int × Int × Bool × Unit) × Int × Unit) × List (Int × Int × Int × Int × Unit) × List (Int × Int × Int × Int × Int × Int × Unit) × Unit) × List (Int × Int × Int × List UInt8 × Int × ((Int × Int × List Int × List Int × Unit) × (Int × Int × List (List Int × List UInt8 × Unit) × Unit) × Unit) × Unit) × List (Int × List UInt8 × Bool × Unit) × List (Int × List UInt8 × Int × List UInt8 × Unit) × Unit) × Unit) => Bool.true) val) val) (Wh.impl_WorldNew ())] then
                    bif allB [Go.Ab.isSm (Wh.laws_eqWorld (((pb_29, pb_28, pb_27, (pb_26, pb_21, pb_25), (pb_20, pb_24), pb_19, pb_18, pb_23), pb_17, pb_16, pb_15, pb_22), (pb_14, pb_13, pb_12, (pb_11, pb_6, pb_10), (pb_5, pb_9), pb_4, pb_3, pb_8), pb_2, pb_1, pb_0, pb_7))] then
                      bif !v_30 then
                        some (Bool.false, ())
                      else
                        bif allB [Go.Ab.isSm (Wh.laws_heldWorld (((pb_29, pb_28, pb_27, (pb_26, pb_37, pb_25), (pb_36, pb_24), pb_35, pb_34, pb_23), pb_33, pb_32, pb_31, pb_22), (1 : Int)))] then
                          bif v_40 then
                            some (Bool.false, ())
                          else
                            bif v_41 then
                              some (Bool.false, ())
                            else
                              some (Bool.true, ())
                        else none
                    else none
                  else none
            else none
          else none
      else none
    else none
  else none
def Wh.laws_FnExactWorldNew' (xs : Unit) : ((Bool)) × (Unit) := match Wh.laws_FnExactWorldNew xs with | some y => y | none => default
theorem Wh.laws_FnExactWorldNew_v (x : Unit) (y : ((Bool)) × (Unit)) (h : Wh.laws_FnExactWorldNew x = some y) : Wh.laws_FnExactWorldNew' x = y := by unfold Wh.laws_FnExactWorldNew'; rw [h]



end

