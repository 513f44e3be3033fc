import Derived.Test.YtpdphbjjfepigaaP9
open Go Go.Ab
namespace Pl

theorem sumN_le {α : Type} (f : α → Nat) (M : Nat) : ∀ (l : List α), (∀ x ∈ l, f x ≤ M) → sumN f l ≤ l.length * M
  | [], _ => by simp [sumN]
  | a :: l, h => by
    have := sumN_le f M l (fun x hx => h x (by simp [hx]))
    have := h a (by simp)
    simp only [sumN, List.map_cons, List.sum_cons, List.length_cons, Nat.add_mul] at *
    omega

theorem nC_big (c : tImplClient.D) (h : Sml c) : (1 : Int) + (nC c : Nat) < big := by
  obtain ⟨h0, h1, h2, h3, h4⟩ := h
  have e1 : sumN nE c.2.2.2.2.2.1.2.1.2.2.1 ≤ c.2.2.2.2.2.1.2.1.2.2.1.length * 1048577 := sumN_le _ _ _ fun x hx => by
    have := h4 x hx
    simp only [nE, sumI]
    omega
  have e2 : c.2.2.2.2.2.1.2.1.2.2.1.length * 1048577 ≤ 1048576 * 1048577 := Nat.mul_le_mul_right _ h3
  simp only [nC, nG, nP, nS, sumI, big]
  omega

/-- the message with which a client asks -/
def asks (c : tImplClient.D) : tImplWord.D := (1, c.1, c.2.1, c.2.2.2.2.1, 0, c.2.2.2.1, [], ())
theorem nW_len (a : List tImplWord.D) (h : a.length ≤ 100) : (1 : Int) + (sumN nW a : Nat) < big := by
  have := sumN_le nW 7 a (fun _ _ => Nat.le_refl _)
  simp only [big]
  omega

end Pl
