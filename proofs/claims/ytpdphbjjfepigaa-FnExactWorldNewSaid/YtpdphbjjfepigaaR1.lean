/- The program's WorldNew returns what the reference's returns, and owns its answer. Conditions: none. -/
import Derived.Test.YtpdphbjjfepigaaS1
import Derived.Test.YtpdphbjjfepigaaRows
open Go Go.Ab
namespace Go.Proofs.Ytpdphbjjfepigaa.fnExactWorldNew

theorem ub (H : Type) : UB (H := H) Rows.uptoBulk Rows.uptoBulkAll := by
  refine ⟨fun d => ?_, fun b => ?_, fun e s => ?_, fun p => ?_, fun d r => ?_⟩
  · cases d with
    | lit l => cases l <;> simp [Rows.uptoBulk]
    | _ => simp [Rows.uptoBulk]
  · simp [Rows.uptoBulk]
  · simp [Rows.uptoBulk]
  · simp [Rows.uptoBulk]
  · simp [Rows.uptoBulkAll]

theorem own : ownKnob Try.prog.godebug = none := by kernel_rfl
theorem laid : laidOutB Try.prog = true := by kernel_rfl

theorem holds_law (dvs : List DV) (h1 : dvs.map (·.t) = []) (h2 : ∀ d ∈ dvs, wfT d.t d.x) (h3 : (dvs.map fun d => bulk d.t d.x).sum ≤ 1048576) : Holds Try.prog 10 (dvs.map .v) ⟨[.v ⟨.bool, true⟩], [], []⟩ := by
  rcases dvs with _ | ⟨d, l⟩
  · exact Walk.ok_laws_FnExactWorldNew () (true, ()) Pl.law_WorldNew []
  · simp at h1

theorem none : Try.f10.params.toList = [] := by kernel_rfl
theorem par : All2 (TyOk Try.prog) [] Try.f10.params.toList := by rw [none]; exact .nil
theorem parR (t : TypeId) (h : t ∈ Try.f10.params.toList) : Try.prog.readableRec t = true ∧ t < Try.prog.types.size := by rw [none] at h; cases h
theorem res : Try.f10.resultTypes = #[4] := by kernel_rfl

/-- nothing is read: its bulk is nought -/
theorem small {H : Type} {enc : TypeId × Value → H} {W : World} {args : List Value} {ds gs : List (DataW H)} {before : List MemPlace}
    (hW : DataW.Whole enc Try.prog Try.f10.params.toList Rows.fnExactWorldNewSpec.vars false W args ds gs before) : Rows.uptoBulkAll (ds ++ gs) ≤ 1048576 := by
  obtain ⟨p, q, hA, hV, _, _, _⟩ := hW
  rw [none] at hA
  obtain ⟨_, rfl, _⟩ := ChangeShapes.trodAll_nil hA
  obtain ⟨rfl, _⟩ := ChangeShapes.trodVars_none hV
  simp [Rows.uptoBulkAll]

set_option maxRecDepth 100000 in
theorem contract (H : Type) (enc : TypeId × Value → H) (W : World) (base : Nat) (args : Array Value) (ds gs : List (DataW H)) (before : List MemPlace)
    (hval : ∀ (j : Nat) t v, Try.f10.params[j]? = some t → args[j]? = some v → Value.okWide Try.prog W .any base t v)
    (hW : DataW.Whole enc Try.prog Try.f10.params.toList Rows.fnExactWorldNewSpec.vars false W args.toList ds gs before) :
    Calls Try.prog 10 args W fun e W' => ∃ v, e = .returned v ∧ Rows.fnExactWorldNewSpec.post enc Try.prog Try.f10 false true false false W args v W' :=
  law_ok (ub H) laid par (by intro t ht; cases ht) parR res Try.underlying4 rfl
    (by
      intro ds hl
      rcases ds with _ | ⟨d, l⟩
      · exact ⟨rfl, rfl, rfl⟩
      · simp at hl)
    holds_law hval hW (small hW)

set_option maxRecDepth 100000 in
theorem lifted (os : Os) (started : os.Started) (H : Type) (enc : TypeId × Value → H) :
    ReturnsInHanded {} Try.checked os 10 .any (Rows.fnExactWorldNewSpec.pre6 enc Try.prog Try.f10 Rows.fnExactWorldNewRow.domain false) (Rows.fnExactWorldNewSpec.post enc Try.prog Try.f10 false true false false) := by
  refine returnsInHanded_of_change (C := Try.checked) (s := Rows.fnExactWorldNewSpec) own started (by kernel_rfl) Try.func10
    (ChangeSpec.witness6 (enc := enc) (C := Try.checked) (s := Rows.fnExactWorldNewSpec) false ⟨#[], #[], []⟩ 8 (by kernel_rfl) (by kernel_rfl) (by kernel_rfl) (by kernel_rfl)) ?_
  intro W base args ds gs before hval hW _ _
  exact contract H enc W base args ds gs before hval hW

theorem proved : Rows.FnExactWorldNewSaid :=
  OpenClaim.holds_of_wide 10 Try.f10 rfl rfl rfl rfl rfl rfl rfl ⟨rfl, rfl, rfl, rfl, rfl⟩ rfl rfl rfl rfl rfl (by kernel_rfl) Try.func10 (by kernel_rfl)
    (of_decide_eq_true (by kernel_rfl)) (by unfold Func.isWrapper; first | (rw [if_pos (by decide +kernel)]; kernel_rfl) | (rw [if_neg (by decide +kernel)]; exact ⟨rfl, rfl⟩))
    (fun os started H enc _ => lifted os started H enc)
end Go.Proofs.Ytpdphbjjfepigaa.fnExactWorldNew
