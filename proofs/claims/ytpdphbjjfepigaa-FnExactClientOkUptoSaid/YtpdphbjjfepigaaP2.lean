import Derived.Test.YtpdphbjjfepigaaP1
open Go Go.Ab
namespace Pl

theorem l1In_eq (n lo hi : Int) : Wh.spec_l1In (n, lo, hi) = some (decide (lo ≤ n ∧ n ≤ hi), ()) := by
  by_cases h : lo ≤ n <;> simp [Wh.spec_l1In, h]
theorem within_eq (n lo hi : Int) : Wh.impl_within (n, lo, hi) = some (decide (lo ≤ n ∧ n ≤ hi), ()) := by
  by_cases h : lo ≤ n <;> simp [Wh.impl_within, h]
theorem clientOf_eq (n : Int) : Wh.impl_clientOf n = some (decide (0 ≤ n ∧ n ≤ 3), ()) := by
  simp [Wh.impl_clientOf, Wh.impl_within', within_eq, allB, isSm]

/-- a client that knows nothing -/
def client0 (id : Int) : tImplClient.D := (id, 0, 0, [], 0, ((0, 0, [], [], ()), (0, 0, [], ()), ()), ())

theorem spec_ClientNew_eq (n : Int) : Wh.spec_ClientNew n = some (if 0 ≤ n ∧ n ≤ 3 then client0 n else client0 0, ()) := by
  by_cases h : 0 ≤ n ∧ n ≤ 3 <;> simp [Wh.spec_ClientNew, Wh.spec_l1In', l1In_eq, allB, isSm, h, client0]
theorem impl_ClientNew_eq (n : Int) : Wh.impl_ClientNew n = some (if 0 ≤ n ∧ n ≤ 3 then client0 n else client0 0, ()) := by
  by_cases h : 0 ≤ n ∧ n ≤ 3 <;> simp [Wh.impl_ClientNew, Wh.impl_clientOf', clientOf_eq, allB, isSm, h, client0]

theorem markIntS_nil (k : Int) : Wh.laws_markIntS ([], k) = some (k, ()) := by
  have hl : Comes Wh.laws_markIntS_l0 (((0 : Int), k, []), ()) (k, ()) := .out (by simp [Wh.laws_markIntS_l0])
  simp [Wh.laws_markIntS, cb hl, cv hl]
theorem markEqS_nil (k : Int) : Wh.laws_markEqS ([], k) = some (k, ()) := by
  have hl : Comes Wh.laws_markEqS_l0 (((0 : Int), [], k), ()) (k, ()) := .out (by simp [Wh.laws_markEqS_l0])
  simp [Wh.laws_markEqS, cb hl, cv hl]
theorem heldIntS_nil (k : Int) : Wh.laws_heldIntS ([], k) = some (k, ()) := by
  have hl : Comes Wh.laws_heldIntS_l0 (((0 : Int), k, []), ()) (.inr (k, ())) := .out (by simp [Wh.laws_heldIntS_l0])
  simp [Wh.laws_heldIntS, cb hl, cv hl]
theorem heldEqS_nil (k : Int) : Wh.laws_heldEqS ([], k) = some (k, ()) := by
  have hl : Comes Wh.laws_heldEqS_l0 (((0 : Int), [], k), ()) (.inr (k, ())) := .out (by simp [Wh.laws_heldEqS_l0])
  simp [Wh.laws_heldEqS, cb hl, cv hl]

/-- a client without lists is marked without a write -/
theorem markClient0 (a : tImplClient.D) (k : Int) (h1 : a.2.2.2.2.2.1.1.2.2.1 = []) (h2 : a.2.2.2.2.2.1.1.2.2.2.1 = []) (h3 : a.2.2.2.2.2.1.2.1.2.2.1 = []) : Wh.laws_markClient (a, k) = some (k, ()) := by
  simp [Wh.laws_markClient, Wh.laws_markGetting, Wh.laws_markGetting', Wh.laws_markPlan, Wh.laws_markPlan', Wh.laws_markSolver, Wh.laws_markSolver', Wh.laws_markIntS', Wh.laws_markEqS', h1, h2, h3, markIntS_nil, markEqS_nil, allB, isSm]
theorem heldClient0 (a : tImplClient.D) (k : Int) (hk : 0 ≤ k) (h1 : a.2.2.2.2.2.1.1.2.2.1 = []) (h2 : a.2.2.2.2.2.1.1.2.2.2.1 = []) (h3 : a.2.2.2.2.2.1.2.1.2.2.1 = []) : Wh.laws_heldClient (a, k) = some (k, ()) := by
  have hn : ¬ k < 0 := by omega
  simp [Wh.laws_heldClient, Wh.laws_heldGetting, Wh.laws_heldGetting', Wh.laws_heldPlan, Wh.laws_heldPlan', Wh.laws_heldSolver, Wh.laws_heldSolver', Wh.laws_heldIntS', Wh.laws_heldEqS', h1, h2, h3, heldIntS_nil, heldEqS_nil, allB, isSm, hn]

theorem small0 (n : Int) : SmClient (client0 n) := by simp [SmClient, SmGetting, SmPlan, SmSolver, client0]

theorem law_ClientNew (n : Int) : Wh.laws_FnExactClientNew n = some (true, ()) := by
  have hm := markClient0
  have key : ∀ m : Int, Wh.spec_ClientNew n = some (client0 m, ()) → Wh.impl_ClientNew n = some (client0 m, ()) → Wh.laws_FnExactClientNew n = some (true, ()) := by
    intro m h1 h2
    have e := eqClient_refl (client0 m) (small0 m)
    have k1 := markClient0 (client0 m) 1 rfl rfl rfl
    have k2 := heldClient0 (client0 m) 1 (by decide) rfl rfl rfl
    simp only [client0] at e k1 k2 h1 h2
    simp [Wh.laws_FnExactClientNew, Wh.spec_ClientNew', Wh.impl_ClientNew', Wh.laws_eqClient', Wh.laws_markClient', Wh.laws_heldClient', h1, h2, e, k1, k2, allB, isSm]
  by_cases h : 0 ≤ n ∧ n ≤ 3
  · exact key n (by rw [spec_ClientNew_eq, if_pos h]) (by rw [impl_ClientNew_eq, if_pos h])
  · exact key 0 (by rw [spec_ClientNew_eq, if_neg h]) (by rw [impl_ClientNew_eq, if_neg h])

end Pl
