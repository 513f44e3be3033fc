import Derived.Test.YtpdphbjjfepigaaP9
open Go Go.Ab
namespace Pl

theorem sumN_le {α : Type} (f : α → Nat) (M : Nat) : ∀ (l : List α), (∀ x ∈ l, f x ≤ M) → sumN f l ≤ l.length * M
  | [], _ => by simp [sumN]
  | a :: l, h => by
    have := sumN_le f M l (fun x hx => h x (by simp [hx]))
    have := h a (by simp)
    simp only [sumN, List.map_cons, List.sum_cons, List.length_cons, Nat.add_mul] at *
    omega

theorem nC_big (c : tImplClient.D) (h : Sml c) : (1 : Int) + (nC c : Nat) < big := by
  obtain ⟨h0, h1, h2, h3, h4⟩ := h
  have e1 : sumN nE c.2.2.2.2.2.1.2.1.2.2.1 ≤ c.2.2.2.2.2.1.2.1.2.2.1.length * 1048577 := sumN_le _ _ _ fun x hx => by
    have := h4 x hx
    simp only [nE, sumI]
    omega
  have e2 : c.2.2.2.2.2.1.2.1.2.2.1.length * 1048577 ≤ 1048576 * 1048577 := Nat.mul_le_mul_right _ h3
  simp only [nC, nG, nP, nS, sumI, big]
  omega

/-- the message with which a client asks -/
def asks (c : tImplClient.D) : tImplWord.D := (1, c.1, c.2.1, c.2.2.2.2.1, 0, c.2.2.2.1, [], ())
def tickW (c : tImplClient.D) : List tImplWord.D := bif clientOk c && (c.2.2.1 == 1 || c.2.2.1 == 2) then [asks c] else []

theorem spec_ClientTick_eq (c : tImplClient.D) (h : Sml c) : Wh.spec_ClientTick c = some (tickW c, ()) := by
  have e := spec_ClientOk_eq c h.sm (by have := h.1; omega)
  have e2 : Wh.spec_l13Asks c = some ([asks c], ()) := by simp [Wh.spec_l13Asks, asks]
  simp only [Wh.spec_ClientTick, Wh.spec_ClientOk_v _ _ e, e, Wh.spec_l13Asks_v _ _ e2, e2, allB, isSm, cond_true, tickW]
  cases clientOk c <;> cases h1 : c.2.2.1 == 1 <;> cases h2 : c.2.2.1 == 2 <;> simp [bne, h1, h2]
theorem impl_ClientTick_eq (c : tImplClient.D) (h : Sml c) : Wh.impl_ClientTick c = some (tickW c, ()) := by
  have e := impl_ClientOk_eq c h.sm (by have := h.1; omega)
  have e2 : Wh.impl_Client_request c = some ([asks c], ()) := by simp [Wh.impl_Client_request, asks]
  simp only [Wh.impl_ClientTick, Wh.impl_ClientOk_v _ _ e, e, Wh.impl_Client_request_v _ _ e2, e2, allB, isSm, cond_true, tickW]
  cases clientOk c <;> cases h1 : c.2.2.1 == 1 <;> cases h2 : c.2.2.1 == 2 <;> simp [bne, h1, h2]

theorem tickW_len (c : tImplClient.D) : (tickW c).length ≤ 1 := by unfold tickW; cases clientOk c && (c.2.2.1 == 1 || c.2.2.1 == 2) <;> simp

theorem nW_len (a : List tImplWord.D) (h : a.length ≤ 100) : (1 : Int) + (sumN nW a : Nat) < big := by
  have := sumN_le nW 7 a (fun _ _ => Nat.le_refl _)
  simp only [big]
  omega

theorem law_ClientTick (c : tImplClient.D) (hb : bulk tImplClient c ≤ 1048576) : Wh.laws_FnExactClientTick c = some (true, ()) := by
  have hs := sml_of c hb
  obtain ⟨v, hv⟩ := szClient_ok c 1048576 hs
  have hsm : SmClient c := hs.sm
  have e1 := toClient_eq c hs
  have e2 := spec_ClientTick_eq c hs
  have e3 := impl_ClientTick_eq c hs
  have hl := tickW_len c
  have e4 := eqWordS_refl (tickW c) (by omega)
  have e5 := eqClient_refl c hsm
  have e6 := markClient_eq c 1 (by decide) (nC_big c hs) hsm
  have e7 := markWordS_eq (tickW c) 1 (by decide) (nW_len _ (by omega)) (by omega)
  have e8 := heldWordS_eq (tickW c) 1 (by decide) (nW_len _ (by omega)) (by omega)
  have n1 : decide ((1 : Int) + (nC c : Nat) < 0) = false := by simp; omega
  have n2 : decide ((1 : Int) + (sumN nW (tickW c) : Nat) < 0) = false := by simp; omega
  have bn : ∀ x : Int, (x != x) = false := by intro x; simp
  have v1 := Wh.laws_szClient_v _ _ hv
  have t1 := Wh.laws_toClient_v _ _ e1
  have t2 := Wh.spec_ClientTick_v _ _ e2
  have t3 := Wh.impl_ClientTick_v _ _ e3
  have t4 := Wh.laws_eqWordS_v _ _ e4
  have t5 := Wh.laws_eqClient_v _ _ e5
  have t6 := Wh.laws_markClient_v _ _ e6
  have t7 := Wh.laws_markWordS_v _ _ e7
  have t8 := Wh.laws_heldWordS_v _ _ e8
  clear hb hs hsm hl
  generalize mkC c 1 = mc at e6 t6
  generalize ((1 : Int) + (nC c : Nat)) = nc at e6 t6 n1
  generalize ((1 : Int) + (sumN nW (tickW c) : Nat)) = nw at e7 t7 e8 t8 n2
  generalize markL mkW nW (tickW c) 1 = mw at e7 t7 e8 t8
  generalize tickW c = tw at *
  obtain ⟨id, a, st, name, n, ⟨⟨p1, p2, p3, p4, _⟩, ⟨s1, s2, s3, _⟩, _⟩, _⟩ := c
  by_cases hneg : v < 0
  · simp only [Wh.laws_FnExactClientTick, v1, hv, isSm, allB, hneg, decide_true, cond_true]
  · have n0 : decide (v < 0) = false := by simpa using hneg
    simp only [Wh.laws_FnExactClientTick, v1, hv, isSm, allB, n0, cond_true, cond_false, t1, e1, t2, e2, t3, e3, Bool.and_self, t4, e4, Bool.not_true,
      t5, e5, t6, e6, n1, Bool.not_false, Bool.true_or, Bool.or_true, t7, e7, t8, e8, n2, bn]

end Pl
