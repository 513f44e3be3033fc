/- The program's ClientNew returns what the reference's returns, for every argument within the bound of the statement. Conditions: none beside the statement's own. -/
import Derived.Test.YtpdphbjjfepigaaS1
import Derived.Test.YtpdphbjjfepigaaRows
open Go Go.Ab
namespace Go.Proofs.Ytpdphbjjfepigaa.fnExactClientNew

theorem ub (H : Type) : UB (H := H) Rows.uptoBulk Rows.uptoBulkAll := by
  refine ⟨fun d => ?_, fun b => ?_, fun e s => ?_, fun p => ?_, fun d r => ?_⟩
  · cases d with
    | lit l => cases l <;> simp [Rows.uptoBulk]
    | _ => simp [Rows.uptoBulk]
  · simp [Rows.uptoBulk]
  · simp [Rows.uptoBulk]
  · simp [Rows.uptoBulk]
  · simp [Rows.uptoBulkAll]

theorem own : ownKnob Try.prog.godebug = none := by kernel_rfl
theorem laid : laidOutB Try.prog = true := by kernel_rfl
theorem fn : Try.prog.funcs[3]? = some Try.f3 := Try.func3

def tys : List Ty := [.int .i64]
theorem holds_law (dvs : List DV) (h1 : dvs.map (·.t) = tys) (h2 : ∀ d ∈ dvs, wfT d.t d.x) (h3 : (dvs.map fun d => bulk d.t d.x).sum ≤ 1048576) : Holds Try.prog 3 (dvs.map .v) ⟨[.v ⟨.bool, true⟩], [], []⟩ := by
  rcases dvs with _ | ⟨⟨t0, x0⟩, _ | ⟨d, l⟩⟩
  · cases h1
  · have e : t0 = .int .i64 := by simpa [tys] using h1
    subst e
    exact Walk.ok_laws_FnExactClientNew x0 (true, ()) (Pl.law_ClientNew x0) []
  · simp [tys] at h1

theorem par : All2 (TyOk Try.prog) tys Try.f3.params.toList := tys_of (by kernel_rfl) (by kernel_rfl)
theorem parB : allL (fun t => Try.prog.readableRec t && Nat.ble (t + 1) Try.prog.types.size) Try.f3.params.toList = true := by kernel_rfl
theorem parR (t : TypeId) (h : t ∈ Try.f3.params.toList) : Try.prog.readableRec t = true ∧ t < Try.prog.types.size := by
  have := allL_mem parB t h
  simp only [Bool.and_eq_true] at this
  exact ⟨this.1, Nat.le_of_ble_eq_true this.2⟩

theorem res : Try.f3.resultTypes = #[4] := by kernel_rfl
set_option maxRecDepth 100000 in
theorem contract (H : Type) (enc : TypeId × Value → H) (W : World) (base : Nat) (args : Array Value) (ds gs : List (DataW H)) (before : List MemPlace)
    (hval : ∀ (j : Nat) t v, Try.f3.params[j]? = some t → args[j]? = some v → Value.okWide Try.prog W .any base t v)
    (hW : DataW.Whole enc Try.prog Try.f3.params.toList Rows.fnExactClientNewSpec.vars false W args.toList ds gs before) (hk : Rows.uptoSmall H (ds ++ gs) = true) :
    Calls Try.prog 3 args W fun e W' => ∃ v, e = .returned v ∧ Rows.fnExactClientNewSpec.post enc Try.prog Try.f3 false true false false W args v W' :=
  law_ok (ub H) laid par (by intro t ht; simp only [tys, List.mem_singleton] at ht; subst ht; rfl) parR res Try.underlying4 rfl
    (by
      intro ds hl
      rcases ds with _ | ⟨d, _ | ⟨d', l⟩⟩
      · simp [tys] at hl
      · exact ⟨rfl, rfl, rfl⟩
      · simp [tys] at hl)
    holds_law hval hW (of_decide_eq_true hk)

set_option maxRecDepth 100000 in
theorem lifted (os : Os) (started : os.Started) (H : Type) (enc : TypeId × Value → H) (F : Stop.Interp) :
    ReturnsInHanded {} Try.checked os 3 .any ((Rows.OpenSpec.upto Rows.fnExactClientNewSpec).pre6 enc Try.prog Try.f3 Rows.fnExactClientNewUptoRow.domain false) (((Rows.OpenSpec.upto Rows.fnExactClientNewSpec).at F).post enc Try.prog Try.f3 false true false false) := by
  refine returnsInHanded_of_cond (C := Try.checked) (s := Rows.OpenSpec.upto Rows.fnExactClientNewSpec) (k := Rows.uptoSmall) rfl own started (by kernel_rfl) Try.func3
    (OpenSpec.witness (enc := enc) (C := Try.checked) (s := Rows.OpenSpec.upto Rows.fnExactClientNewSpec) (k := Rows.uptoSmall) rfl false ⟨#[], #[.int .i64 0], []⟩ 8 (by kernel_rfl) (by kernel_rfl) (by kernel_rfl)
      (x := ([.lit (.int .i64 0)], [], [])) (by kernel_rfl) rfl (by kernel_rfl)) ?_
  intro W base args ds gs before hval hW _ hk _
  exact contract H enc W base args ds gs before hval hW hk

theorem proved : Rows.FnExactClientNewUptoSaid :=
  OpenClaim.holds_of_cond 3 Try.f3 rfl rfl rfl rfl rfl rfl rfl ⟨rfl, rfl, rfl, rfl, rfl⟩ rfl rfl rfl rfl rfl (by kernel_rfl) Try.func3 (by kernel_rfl)
    (of_decide_eq_true (by kernel_rfl)) (by unfold Func.isWrapper; first | (rw [if_pos (by decide +kernel)]; kernel_rfl) | (rw [if_neg (by decide +kernel)]; exact ⟨rfl, rfl⟩))
    (fun os started H enc _ F => lifted os started H enc F)
end Go.Proofs.Ytpdphbjjfepigaa.fnExactClientNew
