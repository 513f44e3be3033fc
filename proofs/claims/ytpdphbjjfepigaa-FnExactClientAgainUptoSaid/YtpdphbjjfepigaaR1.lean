/- The program's ClientAgain returns what the reference's returns, owns its answer and leaves its argument as it was, for every client within the bound of the statement. Conditions: none beside the statement's own. -/
import Derived.Test.YtpdphbjjfepigaaS1
import Derived.Test.YtpdphbjjfepigaaRows
open Go Go.Ab
namespace Go.Proofs.Ytpdphbjjfepigaa.fnExactClientAgain

theorem ub (H : Type) : UB (H := H) Rows.uptoBulk Rows.uptoBulkAll := by
  refine ⟨fun d => ?_, fun b => ?_, fun e s => ?_, fun p => ?_, fun d r => ?_⟩
  · cases d with
    | lit l => cases l <;> simp [Rows.uptoBulk]
    | _ => simp [Rows.uptoBulk]
  · simp [Rows.uptoBulk]
  · simp [Rows.uptoBulk]
  · simp [Rows.uptoBulk]
  · simp [Rows.uptoBulkAll]

theorem own : ownKnob Try.prog.godebug = none := by kernel_rfl
theorem laid : laidOutB Try.prog = true := by kernel_rfl
theorem fn : Try.prog.funcs[9]? = some Try.f9 := Try.func9

def tys : List Ty := [tImplClient]
theorem holds_law (dvs : List DV) (h1 : dvs.map (·.t) = tys) (h2 : ∀ d ∈ dvs, wfT d.t d.x) (h3 : (dvs.map fun d => bulk d.t d.x).sum ≤ 1048576) : Holds Try.prog 9 (dvs.map .v) ⟨[.v ⟨.bool, true⟩], [], []⟩ := by
  rcases dvs with _ | ⟨⟨t0, x0⟩, _ | ⟨d, l⟩⟩
  · cases h1
  · have e : t0 = tImplClient := by simpa [tys] using h1
    subst e
    have hb : bulk tImplClient x0 ≤ 1048576 := by simpa using h3
    exact Walk.ok_laws_FnExactClientAgain x0 (true, ()) (Pl.law_ClientAgain x0 hb) []
  · simp [tys] at h1

theorem par : All2 (TyOk Try.prog) tys Try.f9.params.toList := tys_of (by kernel_rfl) (by kernel_rfl)
theorem parB : allL (fun t => Try.prog.readableRec t && Nat.ble (t + 1) Try.prog.types.size) Try.f9.params.toList = true := by kernel_rfl
theorem parR (t : TypeId) (h : t ∈ Try.f9.params.toList) : Try.prog.readableRec t = true ∧ t < Try.prog.types.size := by
  have := allL_mem parB t h
  simp only [Bool.and_eq_true] at this
  exact ⟨this.1, Nat.le_of_ble_eq_true this.2⟩

theorem res : Try.f9.resultTypes = #[4] := by kernel_rfl
set_option maxRecDepth 100000 in
theorem contract (H : Type) (enc : TypeId × Value → H) (W : World) (base : Nat) (args : Array Value) (ds gs : List (DataW H)) (before : List MemPlace)
    (hval : ∀ (j : Nat) t v, Try.f9.params[j]? = some t → args[j]? = some v → Value.okWide Try.prog W .any base t v)
    (hW : DataW.Whole enc Try.prog Try.f9.params.toList Rows.fnExactClientAgainSpec.vars false W args.toList ds gs before) (hk : Rows.uptoSmall H (ds ++ gs) = true) :
    Calls Try.prog 9 args W fun e W' => ∃ v, e = .returned v ∧ Rows.fnExactClientAgainSpec.post enc Try.prog Try.f9 false true false false W args v W' :=
  law_ok (ub H) laid par (by intro t ht; simp only [tys, List.mem_singleton] at ht; subst ht; rfl) parR res Try.underlying4 rfl
    (by
      intro ds hl
      rcases ds with _ | ⟨d, _ | ⟨d', l⟩⟩
      · simp [tys] at hl
      · exact ⟨rfl, rfl, rfl⟩
      · simp [tys] at hl)
    holds_law hval hW (of_decide_eq_true hk)

set_option maxRecDepth 100000 in
theorem lifted (os : Os) (started : os.Started) (H : Type) (enc : TypeId × Value → H) (F : Stop.Interp) :
    ReturnsInHanded {} Try.checked os 9 .any ((Rows.OpenSpec.upto Rows.fnExactClientAgainSpec).pre6 enc Try.prog Try.f9 Rows.fnExactClientAgainUptoRow.domain false) (((Rows.OpenSpec.upto Rows.fnExactClientAgainSpec).at F).post enc Try.prog Try.f9 false true false false) := by
  refine returnsInHanded_of_cond (C := Try.checked) (s := Rows.OpenSpec.upto Rows.fnExactClientAgainSpec) (k := Rows.uptoSmall) rfl own started (by kernel_rfl) Try.func9
    (OpenSpec.witness (enc := enc) (C := Try.checked) (s := Rows.OpenSpec.upto Rows.fnExactClientAgainSpec) (k := Rows.uptoSmall) rfl false ⟨#[], #[.agg #[.int .i64 0, .int .i64 0, .int .i64 0, .string ⟨#[]⟩, .int .i64 0, .int .i64 0, .int .i64 0, .slice none 0 0, .slice none 0 0, .int .i64 0, .int .i64 0, .slice none 0 0]], []⟩ 8 (by kernel_rfl) (by kernel_rfl) (by kernel_rfl)
      (x := ([.agg [.lit (.int .i64 0), .lit (.int .i64 0), .lit (.int .i64 0), .lit (.string []), .lit (.int .i64 0), .agg [.agg [.lit (.int .i64 0), .lit (.int .i64 0), .nil, .nil], .agg [.lit (.int .i64 0), .lit (.int .i64 0), .nil]]]], [], [])) (by kernel_rfl) rfl (by kernel_rfl)) ?_
  intro W base args ds gs before hval hW _ hk _
  exact contract H enc W base args ds gs before hval hW hk

theorem proved : Rows.FnExactClientAgainUptoSaid :=
  OpenClaim.holds_of_cond 9 Try.f9 rfl rfl rfl rfl rfl rfl rfl ⟨rfl, rfl, rfl, rfl, rfl⟩ rfl rfl rfl rfl rfl (by kernel_rfl) Try.func9 (by kernel_rfl)
    (of_decide_eq_true (by kernel_rfl)) (by unfold Func.isWrapper; first | (rw [if_pos (by decide +kernel)]; kernel_rfl) | (rw [if_neg (by decide +kernel)]; exact ⟨rfl, rfl⟩))
    (fun os started H enc _ F => lifted os started H enc F)
end Go.Proofs.Ytpdphbjjfepigaa.fnExactClientAgain
