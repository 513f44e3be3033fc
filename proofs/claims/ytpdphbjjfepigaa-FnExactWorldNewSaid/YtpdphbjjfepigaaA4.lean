import Derived.Test.YtpdphbjjfepigaaA3
import Derived.Tactics
import Derived.OwnWalk
import Derived.Carry
import Derived.OpenShut
import Derived.JoinedCond
namespace Go.Ab
section
variable {P : Program} {F : Fix} {C : Cx} {o : Oper} {a : Act} {w w' : World} {m m' : MF} {I I' : Nat → Prop} {ρ ρ' : Pl} {d : Did}
variable {n : Nat} {K : Keep} {st st' : St}

def resSem (tmps : Array Value) : ResultVar → Sem Value
  | .tmp t => pure (tmps.getD t Go.undef)
  | .cell a t => do loadVar t (← asAddr (tmps.getD a Go.undef))

theorem loadRes_ok {C : Cx} {tmps : Array Value} (hC : CxOk P C) (hm : MemR F (find st.mem) w I ρ) (he : ∀ s av, find st.env s = some av → SlotR w I (find st.mem) ρ av (tmps.getD s Go.undef))
    {r : ResultVar} {x : AT} (h : loadRes C st r = some x) : ∃ v, (resSem tmps r).run P w = .ok v w ∧ SlotR w I (find st.mem) ρ x v := by
  cases r with
  | tmp s => exact ⟨_, rfl, he s x h⟩
  | cell s T =>
    simp only [loadRes] at h
    split at h
    · rename_i id s0 u hs hu
      split at h
      · rename_i st0 fz t a hcur
        obtain ⟨h1, h2⟩ := bif_some h
        cases h2
        have := Ty.is_eq h1
        subst this
        have hT := hC.ty hu
        obtain ⟨hb, hst⟩ := cur_some hcur
        have hx' := slot_one (a := .vptr id s0 []) rfl (he s _ hs) (by simp) (by simp) (by simp) (by simp)
        simp only [ATR] at hx'
        obtain ⟨_, B, hρ, hv⟩ := hx'.2.2 _ hb hst t x rfl
        simp only [List.cons.injEq, and_true, Ty.off] at hv
        have hblk := hm.blk id _ hb
        simp only [BlkR] at hblk
        obtain ⟨ht, B', cs, f1, f2, f3, _⟩ := hblk
        rw [hρ] at f1
        cases f1
        have hlen := ht.length f3
        have hload := hT.run_loadVar (w := w) (B := B) (o := 0) hlen (fun j _ => by rw [Nat.zero_add]; exact f2.cell j)
        refine ⟨_, ?_, (slotR_val ht).2 (ValR.unpack ht hT f3)⟩
        simp only [resSem, hv]
        simpa [asAddr] using hload
      · cases h
    · cases h

theorem outOf_ok {C : Cx} {tmps : Array Value} (hC : CxOk P C) (hm : MemR F (find st.mem) w I ρ) (hI : ∀ B, I B → I' B) (he : ∀ s av, find st.env s = some av → SlotR w I (find st.mem) ρ av (tmps.getD s Go.undef)) :
    ∀ {rs : List ResultVar} {ws : List Want} {l : List RV} {k : Took}, outOf C st rs ws = some (l, k) →
      (∀ id ∈ k.imm, ∀ b B o, find st.mem id = some b → b.live → ρ id = some (B, o) → I' B) → (∀ id ∈ k.own, ∀ B, Mine (find st.mem) ρ id B → ¬ I' B) → k.own.Nodup →
      rs.length = ws.length ∧ ∃ vals, All2 (fun r v => (resSem tmps r).run P w = .ok v w) rs vals ∧ ∃ Bs, RetsO w I' l vals Bs ∧ Bs.Nodup ∧ ∀ B ∈ Bs, ∃ id ∈ k.own, Mine (find st.mem) ρ id B
  | [], [], l, k, h, _, _, _ => by
    simp only [outOf] at h
    cases h
    exact ⟨rfl, [], .nil, [], rfl, by simp, by simp⟩
  | [], _ :: _, l, k, h, _, _, _ => by simp [outOf] at h
  | _ :: _, [], l, k, h, _, _, _ => by simp [outOf] at h
  | r :: rs, wt :: ws, l, k, h, hi, ho, hn => by
    simp only [outOf] at h
    split at h
    · rename_i x l' k' hx hrest
      obtain ⟨v, hrun, hslot⟩ := loadRes_ok hC hm he hx
      split at h
      · -- a value
        rename_i t x2
        split at h
        · rename_i y i hy
          cases h
          simp only [Took.app, mem_app] at hi ho
          simp only [Took.app, app_eq] at hn
          have hn' := List.nodup_append.1 hn
          obtain ⟨e1, e2⟩ := toT_slot hy
          obtain ⟨cs, hv, hr⟩ := slot_pack e1 e2 hslot
          obtain ⟨B1, q1, q2, q3⟩ := toT_ok hm hI (toT_inv hy) hr (fun id h => hi id (.inl h)) (fun id h => ho id (.inl h)) hn'.1
          obtain ⟨p1, vs, p0, B2, p2, p3, p4⟩ := outOf_ok hC hm hI he hrest (fun id h => hi id (.inr h)) (fun id h => ho id (.inr h)) hn'.2.1
          refine ⟨by simp [p1], v :: vs, .cons hrun p0, B1 ++ B2, ⟨B1, B2, rfl, ⟨cs, hv, q1⟩, p2⟩, nodup_two hm hn q2 p3 q3 p4, fun B hB => ?_⟩
          simp only [Took.app, app_eq]
          rcases List.mem_append.1 hB with hB | hB
          · obtain ⟨i, hi, h⟩ := q3 B hB; exact ⟨i, by simp [hi], h⟩
          · obtain ⟨i, hi, h⟩ := p4 B hB; exact ⟨i, by simp [hi], h⟩
        · cases h
      · -- a value all of whose lists are its own
        rename_i t x2
        split at h
        · rename_i y i hy
          cases h
          simp only [Took.app, mem_app] at hi ho
          simp only [Took.app, app_eq] at hn
          have hn' := List.nodup_append.1 hn
          obtain ⟨cs, hv, B1, q1, q2, q3⟩ := toTD_ok hm hI hy hslot (fun id h => ho id (.inl h)) hn'.1
          obtain ⟨p1, vs, p0, B2, p2, p3, p4⟩ := outOf_ok hC hm hI he hrest (fun id h => hi id (.inr h)) (fun id h => ho id (.inr h)) hn'.2.1
          refine ⟨by simp [p1], v :: vs, .cons hrun p0, B1 ++ B2, ⟨B1, B2, rfl, ⟨cs, hv, q1⟩, p2⟩, nodup_two hm hn q2 p3 q3 p4, fun B hB => ?_⟩
          simp only [Took.app, app_eq]
          rcases List.mem_append.1 hB with hB | hB
          · obtain ⟨i, hi, h⟩ := q3 B hB; exact ⟨i, by simp [hi], h⟩
          · obtain ⟨i, hi, h⟩ := p4 B hB; exact ⟨i, by simp [hi], h⟩
        · cases h
      · -- a pointer
        rename_i t id sd
        split at h
        · rename_i st0 vt b hcur
          split at h
          · rename_i y i hy
            cases h
            obtain ⟨hb, hst⟩ := cur_some hcur
            simp only at hst
            subst hst
            simp only [Took.app, app, mem_app, List.mem_cons, List.not_mem_nil, false_or, or_false] at hi ho
            simp only [Took.app, app, app_eq] at hn
            have hnc := List.nodup_cons.1 hn
            have hn' := List.nodup_append.1 hnc.2
            have hvr := slot_one (a := .vptr id st0 []) rfl hslot (by simp) (by simp) (by simp) (by simp)
            simp only [ATR] at hvr
            obtain ⟨_, B, hρ, hv⟩ := hvr.2.2 _ hb rfl vt b rfl
            simp only [List.cons.injEq, and_true, Ty.off] at hv
            have hblk := hm.blk id _ hb
            simp only [BlkR] at hblk
            obtain ⟨_, B', cs, f1, f2, f3, f4⟩ := hblk
            rw [hρ] at f1
            cases f1
            have hmine : Mine (find st.mem) ρ id B := ⟨_, hb, live_of_var rfl, rfl, .inl ⟨0, hρ⟩⟩
            obtain ⟨B1, q1, q2, q3⟩ := toT_ok hm hI (toT_inv hy) f3 (fun id h => hi id (.inl h)) (fun id h => ho id (.inr (.inl h))) hn'.1
            obtain ⟨p1, vs, p0, B2, p2, p3, p4⟩ := outOf_ok hC hm hI he hrest (fun id h => hi id (.inr h)) (fun id h => ho id (.inr (.inr h))) hn'.2.1
            have hall : ∀ B' ∈ B1 ++ B2, ∃ id' ∈ app i.own k'.own, Mine (find st.mem) ρ id' B' := by
              intro B' hB'
              rw [app_eq]
              rcases List.mem_append.1 hB' with hB' | hB'
              · obtain ⟨i, hi, h⟩ := q3 B' hB'; exact ⟨i, by simp [hi], h⟩
              · obtain ⟨i, hi, h⟩ := p4 B' hB'; exact ⟨i, by simp [hi], h⟩
            refine ⟨by simp [p1], v :: vs, .cons hrun p0, B :: (B1 ++ B2), ⟨B :: B1, B2, rfl, ⟨B, cs, B1, hv, f2, ho id (.inl rfl) B hmine, q1, rfl⟩, p2⟩, ?_, ?_⟩
            · rw [List.nodup_cons]
              refine ⟨fun hin => ?_, nodup_two hm hnc.2 q2 p3 q3 p4⟩
              obtain ⟨j, hj, hmj⟩ := hall B hin
              have := hmj.inj hm hmine
              subst this
              rw [app_eq] at hj
              exact hnc.1 hj
            · intro B' hB'
              simp only [Took.app, app]
              rcases List.mem_cons.1 hB' with e | hB'
              · subst e; exact ⟨id, by simp, hmine⟩
              · obtain ⟨j, hj, hmj⟩ := hall B' hB'; exact ⟨j, by simp only [List.mem_cons]; exact .inr hj, hmj⟩
          · cases h
        · cases h
      · cases h
    · cases h

theorem RepC.free : ∀ {t : Ty} {x : t.den} {vs : List Value} {w w' : World} {I I' : Nat → Prop}, t.hasLst = false → RepC w I t x vs → RepC w' I' t x vs := by
  intro t
  induction t with
  | lst t _ => intro x vs w w' I I' h; simp [Ty.hasLst] at h
  | ref t _ => intro x vs w w' I I' h; simp [Ty.hasLst] at h
  | own t _ => intro x vs w w' I I' _ h; simp only [RepC] at h
  | pair a b iha ihb =>
    intro x vs w w' I I' h hr
    simp only [Ty.hasLst, Bool.or_eq_false_iff] at h
    simp only [RepC] at hr ⊢
    obtain ⟨v1, v2, e, h1, h2⟩ := hr
    exact ⟨v1, v2, e, iha h.1 h1, ihb h.2 h2⟩
  | arr n t ih =>
    intro x vs w w' I I' h hr
    simp only [RepC] at hr ⊢
    exact ⟨hr.1, ArrR.mono (fun x vs hh => ih (by simpa [Ty.hasLst] using h) hh) hr.2⟩
  | _ => intro x vs w w' I I' _ h; exact h

/-- the blocks of an argument's lists, when the call began -/
def HdrsF (w0 : World) (m0 : MF) (pl : Pl) : (t : Ty) → t.den → Nat → List Value → Prop
  | .lst t, xs, n, vs => m0 n = some ⟨0, false, mkRows t xs⟩ ∧ ∃ ad cap, vs = [.slice ad xs.length cap] ∧ xs.length ≤ cap ∧ HdrW w0 pl n t.size ad cap
  | .pair a b, x, n, vs => match (Ty.pair a b).hasLst with
    | true => ∃ v1 v2, vs = v1 ++ v2 ∧ HdrsF w0 m0 pl a x.1 n v1 ∧ HdrsF w0 m0 pl b x.2 (injD (fun _ => none) a x.1 n).2.2 v2
    | false => ∃ J, RepC w0 J (.pair a b) x vs
  | t, x, _, vs => t.hasLst = false ∧ ∃ J, RepC w0 J t x vs

theorem injD_num (m m' : MF) : ∀ (t : Ty) (x y : t.den) (n : Nat), (injD m t x n).2.2 = (injD m' t y n).2.2 := by
  intro t
  induction t with
  | pair a b iha ihb =>
    intro x y n
    simp only [injD]
    cases (Ty.pair a b).hasLst with
    | true => simp only [cond_true]; rw [iha x.1 y.1 n]; exact ihb x.2 y.2 _
    | false => rfl
  | _ => intro x y n; rfl

theorem updD_num {m : MF} : ∀ {t : Ty} {x y : t.den} {n e : Nat} {l : List Nat}, updD m t x n = some (y, l, e) → e = (injD (fun _ => none) t x n).2.2 := by
  intro t
  induction t with
  | lst t _ =>
    intro x y n e l h
    simp only [updD] at h
    obtain ⟨_, h⟩ := bif_some h
    split at h
    · cases h; rfl
    · cases h
  | pair a b iha ihb =>
    intro x y n e l h
    simp only [updD] at h
    simp only [injD]
    cases hl : (Ty.pair a b).hasLst with
    | false => rw [hl] at h; cases h; rfl
    | true =>
      rw [hl] at h
      simp only [cond_true] at h ⊢
      split at h
      · rename_i y1 l1 k h1
        split at h
        · rename_i z l2 e2 h2
          cases h
          have := iha h1
          rw [← this]
          exact ihb h2
        · cases h
      · cases h
  | _ => intro x y n e l h; simp only [updD, Option.some.injEq, Prod.mk.injEq] at h; exact h.2.2.symm

theorem sameT_len {t : Ty} {x : List t.den} {c : BC} {k : Nat} (h : SameT (mkRows t x) c) (ha : c.arr = some (t, k)) : x.length = k := by
  unfold mkRows at h
  cases hl : t.hasLst <;> rw [hl] at h <;> cases c <;> simp only [BC.arr, reduceCtorEq, Option.some.injEq, Prod.mk.injEq] at ha <;> simp only [cond_true, cond_false, SameT] at h
  · exact h.2.trans ha.2
  · exact h.2.trans ha.2

theorem updD_ok {w0 : World} {m0 m : MF} {pl : Pl} (hm : MemR F m w I ρ) (hI : ∀ B, I B → I' B)
    (hk : ∀ id b0, isPid id = true → m0 id = some b0 → ∃ b, m id = some b ∧ (0 < b.st ∨ (b.st = 0 ∧ SameT b0.c b.c ∧ ρ id = pl id ∧
      (b0.live → ∀ B o, pl id = some (B, o) → ∀ cs, Cells w0 B cs → ∃ cs', Cells w B cs' ∧ cs.length ≤ cs'.length)))) :
    ∀ {t : Ty} {x y : t.den} {n e : Nat} {l : List Nat} {cs : List Value}, updD m t x n = some (y, l, e) → HdrsF w0 m0 pl t x n cs → (∀ id ∈ l, ∀ B, Mine m ρ id B → ¬ I' B) → l.Nodup →
      ∃ Bs, RepD w I' t y cs Bs ∧ Bs.Nodup ∧ (∀ B ∈ Bs, ∃ id ∈ l, Mine m ρ id B) ∧ Grown w0 w cs := by
  intro t
  have scal : ∀ {t : Ty} {y : t.den} {cs : List Value}, t.hasLst = false → (∃ J, RepC w0 J t y cs) → ∃ Bs, RepD w I' t y cs Bs ∧ Bs.Nodup ∧ (∀ B ∈ Bs, ∃ id ∈ ([] : List Nat), Mine m ρ id B) ∧ Grown w0 w cs := by
    rintro t y cs hl ⟨J, hr⟩
    refine ⟨[], RepD.of_rep hl (RepC.free hl hr), by simp, by simp, ?_⟩
    -- no header among these cells
    have none : ∀ {t : Ty} {y : t.den} {cs : List Value}, t.hasLst = false → RepC w0 J t y cs → ∀ a n c, ¬ Value.slice a n c ∈ cs := by
      intro t
      induction t with
      | lst t _ => intro y cs h; simp [Ty.hasLst] at h
      | ref t _ => intro y cs h; simp [Ty.hasLst] at h
      | own t _ => intro y cs _ h; simp only [RepC] at h
      | pair a b iha ihb =>
        intro y cs h hr a' n c hin
        simp only [Ty.hasLst, Bool.or_eq_false_iff] at h
        simp only [RepC] at hr
        obtain ⟨v1, v2, e, h1, h2⟩ := hr
        subst e
        rcases List.mem_append.1 hin with hin | hin
        · exact iha h.1 h1 a' n c hin
        · exact ihb h.2 h2 a' n c hin
      | arr k t ih =>
        intro y cs h hr a' n c hin
        simp only [RepC] at hr
        have : ∀ {xs : List t.den} {vs : List Value}, ArrR (RepC w0 J t) xs vs → ¬ Value.slice a' n c ∈ vs := by
          intro xs
          induction xs with
          | nil => intro vs h; cases h; simp
          | cons x xs ihx =>
            rintro vs ⟨v1, v2, e, h1, h2⟩ hin
            subst e
            rcases List.mem_append.1 hin with hin | hin
            · exact ih (by simpa [Ty.hasLst] using h) h1 a' n c hin
            · exact ihx h2 hin
        exact this hr.2 hin
      | unit => intro y cs _ hr a' n c hin; simp only [RepC] at hr; subst hr; simp at hin
      | bool => intro y cs _ hr a' n c hin; simp only [RepC] at hr; subst hr; simp at hin
      | int k => intro y cs _ hr a' n c hin; simp only [RepC] at hr; subst hr; simp at hin
      | str => intro y cs _ hr a' n c hin; simp only [RepC] at hr; subst hr; simp at hin
    intro B o n cap hin
    exact absurd hin (none hl hr _ _ _)
  induction t with
  | lst t _ =>
    intro x y n e l cs h hh ho hn
    simp only [updD] at h
    obtain ⟨hp, h⟩ := bif_some h
    split at h
    · rename_i ys hown
      cases h
      obtain ⟨hm0, ad, cap, hv, hcap, hhdr⟩ := hh
      obtain ⟨b, hb, hor⟩ := hk n _ hp hm0
      have hb0 : b.st = 0 ∧ b.c.arr = some (t, y.length) := by
        rcases own_cases hown with ⟨h1, _⟩ | ⟨fz, rs, h1⟩ <;> (rw [hb] at h1; cases h1; exact ⟨rfl, rfl⟩)
      rcases hor with hor | ⟨_, hsh, hρ, hgrow⟩
      · omega
      · have hlen : x.length = y.length := sameT_len hsh hb0.2
        have hlive : (⟨0, false, mkRows t x⟩ : Blk).live := by unfold Blk.live mkRows; cases t.hasLst <;> trivial
        have hatr : ATR w I m ρ (.whole n 0 t) cs := by
          simp only [ATR]
          refine ⟨⟨_, hv, rfl⟩, RefOk.of hb hb0.1, fun b' hb' hs u k harr => ?_⟩
          rw [hb] at hb'
          cases hb'
          rw [hb0.2] at harr
          cases harr
          refine ⟨ad, cap, by rw [hv, hlen], by omega, ?_⟩
          rcases hhdr with ⟨e1, e2, e3⟩ | ⟨B, o0, cs0, e1, e2, e3, e4⟩
          · exact .inl ⟨e1, e2, hρ.trans e3⟩
          · obtain ⟨cs2, g1, g2⟩ := hgrow hlive B o0 e1 cs0 e3
            exact .inr ⟨B, o0, cs2, hρ.trans e1, e2, g1, by omega⟩
        obtain ⟨Bs, q1, q2, q3⟩ := own_deep hm hatr hown hI (ho n (by simp))
        refine ⟨Bs, q1, q2, fun B hB => ⟨n, by simp, q3 B hB⟩, ?_⟩
        intro B o k c hin ds hds
        rw [hv] at hin
        simp only [List.mem_singleton, Value.slice.injEq] at hin
        rcases hhdr with ⟨e1, e2, e3⟩ | ⟨B', o0, cs0, e1, e2, e3, e4⟩
        · rw [e1] at hin; cases hin.1
        · rw [e2] at hin
          simp only [Option.some.injEq, Addr.mk.injEq, and_true] at hin
          obtain ⟨⟨rfl, rfl⟩, _⟩ := hin
          exact hgrow hlive B o e1 ds hds
    · cases h
  | pair a b iha ihb =>
    intro x y n e l cs h hh ho hn
    simp only [updD] at h
    unfold HdrsF at hh
    cases hl : (Ty.pair a b).hasLst with
    | false =>
      rw [hl] at h hh
      cases h
      exact scal hl hh
    | true =>
      rw [hl] at h hh
      simp only [cond_true] at h hh
      split at h
      · rename_i y1 l1 k h1
        split at h
        · rename_i z l2 e2 h2
          cases h
          obtain ⟨v1, v2, rfl, g1, g2⟩ := hh
          have hnum := updD_num h1
          rw [← hnum] at g2
          simp only [app_eq] at hn ho
          have hn' := List.nodup_append.1 hn
          obtain ⟨B1, q1, q2, q3, q4⟩ := iha h1 g1 (fun id hi => ho id (by simp [hi])) hn'.1
          obtain ⟨B2, p1, p2, p3, p4⟩ := ihb h2 g2 (fun id hi => ho id (by simp [hi])) hn'.2.1
          refine ⟨B1 ++ B2, by simp only [RepD]; exact ⟨v1, v2, B1, B2, rfl, rfl, q1, p1⟩, nodup_two hm hn q2 p2 q3 p3, fun B hB => ?_, fun B o k c hin => ?_⟩
          · simp only [app_eq]
            rcases List.mem_append.1 hB with hB | hB
            · obtain ⟨i, hi, h⟩ := q3 B hB; exact ⟨i, by simp [hi], h⟩
            · obtain ⟨i, hi, h⟩ := p3 B hB; exact ⟨i, by simp [hi], h⟩
          · rcases List.mem_append.1 hin with hin | hin
            · exact q4 B o k c hin
            · exact p4 B o k c hin
        · cases h
      · cases h
  | _ =>
    intro x y n e l cs h hh ho hn
    simp only [updD, Option.some.injEq, Prod.mk.injEq] at h
    obtain ⟨h1, rfl, rfl⟩ := h
    have hxy : x = y := by first | exact h1 | rfl
    subst hxy
    simp only [HdrsF] at hh
    exact scal hh.1 hh.2

theorem isPid_pid {s : Nat} (h : s < 50) : isPid (pid s) = true := by
  unfold isPid pid
  rw [Bool.and_eq_true]
  exact ⟨Nat.ble_eq_true_of_le (by omega), Nat.ble_eq_true_of_le (by omega)⟩

/-- an argument's block, when the call began -/
def ArgF (w0 : World) (m0 : MF) (pl : Pl) (s : Nat) : Arg → Value → Prop
  | .p d, v => ∃ B, pl (pid s) = some (B, 0) ∧ v = .pointer (some ⟨B, 0, none⟩) ∧ ∃ x, m0 (pid s) = some ⟨0, false, .var d.t.imm x⟩
  | .d y, v => ∃ cs, v = packV y.t cs ∧ HdrsF w0 m0 pl y.t y.x (dpid s) cs
  | .m t xs, v => m0 (pid s) = some ⟨0, false, .rows t xs⟩ ∧ ∃ ad cap, v = .slice ad xs.length cap ∧ xs.length ≤ cap ∧ HdrW w0 pl (pid s) t.size ad cap
  | _, _ => True

def ArgFs (w0 : World) (m0 : MF) (pl : Pl) : Nat → List Arg → List Value → Prop
  | _, [], [] => True
  | s, x :: l, v :: vs => ArgF w0 m0 pl s x v ∧ ArgFs w0 m0 pl (s + 1) l vs
  | _, _, _ => False

theorem updOf_ok {w0 : World} {m0 : MF} {pl : Pl} (hm : MemR F (find st.mem) w I ρ) (hI : ∀ B, I B → I' B)
    (hk : ∀ id b0, isPid id = true → m0 id = some b0 → ∃ b, find st.mem id = some b ∧ (0 < b.st ∨ (b.st = 0 ∧ SameT b0.c b.c ∧ ρ id = pl id ∧
      (b0.live → ∀ B o, pl id = some (B, o) → ∀ cs, Cells w0 B cs → ∃ cs', Cells w B cs' ∧ cs.length ≤ cs'.length)))) :
    ∀ {args : List Arg} {s : Nat} {vals : List Value} {us : List DV} {k : Took}, s + args.length ≤ 50 → updOf st s args = some (us, k) → ArgFs w0 m0 pl s args vals →
      (∀ id ∈ k.imm, ∀ b B o, find st.mem id = some b → b.live → ρ id = some (B, o) → I' B) → (∀ id ∈ k.own, ∀ B, Mine (find st.mem) ρ id B → ¬ I' B) → k.own.Nodup →
      ∃ Bs, UpdO w0 w I' args vals us Bs ∧ Bs.Nodup ∧ ∀ B ∈ Bs, ∃ id ∈ k.own, Mine (find st.mem) ρ id B
  | [], s, [], us, k, _, h, _, _, _, _ => by
    simp only [updOf] at h
    cases h
    exact ⟨[], rfl, by simp, by simp⟩
  | [], s, _ :: _, us, k, _, h, hf, _, _, _ => hf.elim
  | _ :: _, s, [], us, k, _, h, hf, _, _, _ => by cases hf
  | .v d :: l, s, v :: vs, us, k, hs, h, hf, hi, ho, hn => by
    simp only [updOf] at h
    obtain ⟨Bs, q⟩ := updOf_ok hm hI hk (by simp only [List.length_cons] at hs; omega) h hf.2 hi ho hn
    exact ⟨Bs, q⟩
  | .f g d :: l, s, v :: vs, us, k, hs, h, hf, hi, ho, hn => by
    simp only [updOf] at h
    obtain ⟨Bs, q⟩ := updOf_ok hm hI hk (by simp only [List.length_cons] at hs; omega) h hf.2 hi ho hn
    exact ⟨Bs, q⟩
  | .d y :: l, s, v :: vs, us, k, hs, h, hf, hi, ho, hn => by
    simp only [List.length_cons] at hs
    simp only [updOf] at h
    split at h
    · rename_i x i e r ids hx hrest
      cases h
      obtain ⟨⟨cs, hv, hh⟩, hf'⟩ := hf
      simp only [Took.app, app, mem_app, List.not_mem_nil, false_or, or_false] at hi ho
      simp only [Took.app, app, app_eq] at hn
      have hn' := List.nodup_append.1 hn
      obtain ⟨B1, q1, q2, q3, q4⟩ := updD_ok hm hI hk hx hh (fun id h => ho id (.inl h)) hn'.1
      obtain ⟨B2, p2, p3, p4⟩ := updOf_ok hm hI hk (by omega) hrest hf' hi (fun id h => ho id (.inr h)) hn'.2.1
      refine ⟨B1 ++ B2, ⟨cs, B1, B2, hv, rfl, q1, rfl, q4, p2⟩, nodup_two hm hn q2 p3 q3 p4, fun B hB => ?_⟩
      simp only [Took.app, app_eq]
      rcases List.mem_append.1 hB with hB | hB
      · obtain ⟨i, hi, h⟩ := q3 B hB; exact ⟨i, by simp [hi], h⟩
      · obtain ⟨i, hi, h⟩ := p4 B hB; exact ⟨i, by simp [hi], h⟩
    · cases h
  | .p d :: l, s, v :: vs, us, k, hs, h, hf, hi, ho, hn => by
    simp only [List.length_cons] at hs
    simp only [updOf] at h
    split at h
    · rename_i vt x r ids hb hrest
      split at h
      · rename_i y i hy
        cases h
        obtain ⟨⟨B, hpl, hv, x0, hm0⟩, hf'⟩ := hf
        obtain ⟨b, hb', hor⟩ := hk (pid s) _ (isPid_pid (by omega)) hm0
        rw [hb] at hb'
        cases hb'
        rcases hor with hor | ⟨_, hsh, hρ, _⟩
        · simp at hor
        · rw [hpl] at hρ
          have hblk := hm.blk _ _ hb
          simp only [BlkR] at hblk
          obtain ⟨_, B', cs, f1, f2, f3, f4⟩ := hblk
          rw [hρ] at f1
          cases f1
          have hmine : Mine (find st.mem) ρ (pid s) B := ⟨_, hb, live_of_var rfl, rfl, .inl ⟨0, hρ⟩⟩
          simp only [Took.app, app, mem_app, List.mem_cons, List.not_mem_nil, false_or, or_false] at hi ho
          simp only [Took.app, app, app_eq] at hn
          have hnc := List.nodup_cons.1 hn
          have hn' := List.nodup_append.1 hnc.2
          obtain ⟨B1, q1, q2, q3⟩ := toT_ok hm hI (toT_inv hy) f3 (fun id h => hi id (.inl h)) (fun id h => ho id (.inr (.inl h))) hn'.1
          obtain ⟨B2, p2, p3, p4⟩ := updOf_ok hm hI hk (by omega) hrest hf' (fun id h => hi id (.inr h)) (fun id h => ho id (.inr (.inr h))) hn'.2.1
          have hall : ∀ B' ∈ B1 ++ B2, ∃ id' ∈ app i.own ids.own, Mine (find st.mem) ρ id' B' := by
            intro B' hB'
            rw [app_eq]
            rcases List.mem_append.1 hB' with hB' | hB'
            · obtain ⟨i, hi, h⟩ := q3 B' hB'; exact ⟨i, by simp [hi], h⟩
            · obtain ⟨i, hi, h⟩ := p4 B' hB'; exact ⟨i, by simp [hi], h⟩
          refine ⟨B :: (B1 ++ B2), ⟨B, cs, B1, B2, hv, f2, ho (pid s) (.inl rfl) B hmine, rfl, q1, rfl, p2⟩, ?_, ?_⟩
          · rw [List.nodup_cons]
            refine ⟨fun hin => ?_, nodup_two hm hnc.2 q2 p3 q3 p4⟩
            obtain ⟨j, hj, hmj⟩ := hall B hin
            have := hmj.inj hm hmine
            subst this
            rw [app_eq] at hj
            exact hnc.1 hj
          · intro B' hB'
            simp only [Took.app, app]
            rcases List.mem_cons.1 hB' with e | hB'
            · subst e; exact ⟨pid s, by simp, hmine⟩
            · obtain ⟨j, hj, hmj⟩ := hall B' hB'; exact ⟨j, by simp only [List.mem_cons]; exact .inr hj, hmj⟩
      · cases h
    · cases h
  | .m t xs :: l, s, v :: vs, us, k, hs, h, hf, hi, ho, hn => by
    simp only [List.length_cons] at hs
    simp only [updOf] at h
    split at h
    · rename_i ys r ids hr hrest
      cases h
      obtain ⟨⟨hm0, ad, cap, hv, hcap, hhdr⟩, hf'⟩ := hf
      have hb := rowsOf_some hr
      obtain ⟨b, hb', hor⟩ := hk (pid s) _ (isPid_pid (by omega)) hm0
      rw [hb] at hb'
      cases hb'
      rcases hor with hor | ⟨_, hsh, hρ, hgrow⟩
      · simp at hor
      · have hlen : xs.length = ys.length := hsh.2
        have hblk := hm.blk _ _ hb
        simp only [BlkR] at hblk
        obtain ⟨_, hblk⟩ := hblk
        simp only [Took.app, app, mem_app, List.mem_cons, List.not_mem_nil, false_or, or_false] at hi ho
        simp only [Took.app, app, app_eq] at hn
        have hnc := List.nodup_cons.1 hn
        obtain ⟨B2, p2, p3, p4⟩ := updOf_ok hm hI hk (by omega) hrest hf' hi (fun id h => ho id (.inr h)) hnc.2
        rcases hhdr with ⟨e1, e2, e3⟩ | ⟨B, o0, cs, e1, e2, e3, e4⟩
        · -- no block
          refine ⟨B2, ⟨ys, [], B2, rfl, hlen.symm, ⟨ad, cap, by rw [hv, hlen], by omega, .inl ⟨e1, e2, rfl⟩⟩, rfl, by simp, p2⟩, p3, fun B hB => ?_⟩
          obtain ⟨j, hj, h⟩ := p4 B hB
          exact ⟨j, by simp only [Took.app, app, List.mem_cons]; exact .inr hj, h⟩
        · rw [e1] at hρ
          obtain ⟨cs2, g1, g2⟩ := hgrow (live_of_rows rfl) B o0 e1 cs e3
          rcases hblk with ⟨_, hno⟩ | ⟨B', o', cs', f1, f2, f3, f4, f5⟩
          · rw [hno] at hρ; cases hρ
          · rw [hρ] at f1
            cases f1
            have hmine : Mine (find st.mem) ρ (pid s) B := ⟨_, hb, live_of_rows rfl, rfl, .inl ⟨o0, hρ⟩⟩
            have hlen2 : cs'.length = cs2.length := by rw [f2.unique g1]
            refine ⟨B :: B2, ⟨ys, [B], B2, rfl, hlen.symm, ⟨ad, cap, by rw [hv, hlen], by omega, .inr ⟨B, o0, cs', e2, f2, by omega, f4.mono (fun _ => rfl) (fun x vs h => RepC.mono ⟨hI, fun _ _ => rfl⟩ h), ho (pid s) (.inl rfl) B hmine, rfl⟩⟩, rfl, ?_, p2⟩, ?_, ?_⟩
            · intro B' hB' cs3 hcs3
              simp only [List.mem_singleton] at hB'
              subst hB'
              have : cs3.length = cs.length := by rw [hcs3.unique e3]
              exact ⟨cs2, g1, by omega⟩
            · rw [List.nodup_cons]
              refine ⟨fun hin => ?_, p3⟩
              obtain ⟨j, hj, hmj⟩ := p4 B hin
              have := hmj.inj hm hmine
              subst this
              exact hnc.1 hj
            · intro B' hB'
              simp only [Took.app, app]
              rcases List.mem_cons.1 hB' with e | hB'
              · subst e; exact ⟨pid s, by simp, hmine⟩
              · obtain ⟨j, hj, hmj⟩ := p4 B' hB'; exact ⟨j, by simp only [List.mem_cons]; exact .inr hj, hmj⟩
    · cases h

end
end Go.Ab
namespace Go.Ab
section
variable {P : Program} {F : Fix} {C : Cx} {o : Oper} {a : Act} {w w' : World} {m m' : MF} {I I' : Nat → Prop} {ρ ρ' : Pl} {d : Did}
variable {n : Nat} {K : Keep} {st st' : St}

/-! ### arguments, as the callee's state has them -/
def argsEnv : Nat → List Arg → List (Nat × AT)
  | _, [] => []
  | s, x :: l => (s, (argAT s x).1) :: argsEnv (s + 1) l
def argsMem : Nat → List Arg → Mem
  | _, [] => []
  | s, x :: l => app (argAT s x).2 (argsMem (s + 1) l)

theorem app_assoc' {α : Type} (x y z : List α) : app (app x y) z = app x (app y z) := by simp [app_eq]
theorem app_nil' {α : Type} (x : List α) : app x [] = x := by simp [app_eq]

theorem argsSt_eq : ∀ (args : List Arg) (s : Nat) (st : St), argsSt s args st = ⟨app st.env (argsEnv s args), app st.mem (argsMem s args), st.ok⟩
  | [], s, st => by simp [argsSt, argsEnv, argsMem, app_nil']
  | x :: l, s, st => by
    simp only [argsSt, argsEnv, argsMem]
    rw [argsSt_eq l]
    simp only [app_assoc', app]

theorem injM_st : ∀ {t : Ty} {x : t.den} {n i : Nat} {b : Blk}, (i, b) ∈ (injM (fun _ => none) t x n).2.1 → b.st = 0 := by
  intro t
  induction t with
  | own u ih => intro x n i b h; simp only [injM, List.mem_singleton, Prod.mk.injEq] at h; obtain ⟨_, rfl⟩ := h; rfl
  | pair u v ihu ihv =>
    intro x n i b h
    simp only [injM] at h
    cases hh : (Ty.pair u v).hasOwn with
    | false => rw [hh] at h; simp at h
    | true =>
      rw [hh] at h
      simp only [cond_true, mem_app] at h
      rcases h with h | h
      · exact ihu h
      · exact ihv h
  | _ => intro x n i b h; simp [injM] at h

theorem injD_st : ∀ {t : Ty} {x : t.den} {n i : Nat} {b : Blk}, (i, b) ∈ (injD (fun _ => none) t x n).2.1 → b.st = 0 := by
  intro t
  induction t with
  | lst u ih => intro x n i b h; simp only [injD, List.mem_singleton, Prod.mk.injEq] at h; obtain ⟨_, rfl⟩ := h; rfl
  | pair u v ihu ihv =>
    intro x n i b h
    simp only [injD] at h
    cases hh : (Ty.pair u v).hasLst with
    | false => rw [hh] at h; simp at h
    | true =>
      rw [hh] at h
      simp only [cond_true, mem_app] at h
      rcases h with h | h
      · exact ihu h
      · exact ihv h
  | _ => intro x n i b h; simp [injD] at h

theorem argsMem_st : ∀ {args : List Arg} {s i : Nat} {b : Blk}, (i, b) ∈ argsMem s args → b.st = 0
  | [], s, i, b, h => by simp [argsMem] at h
  | x :: l, s, i, b, h => by
    simp only [argsMem, mem_app] at h
    rcases h with h | h
    · cases x with
      | v d => exact injM_st h
      | d y => exact injD_st h
      | p d =>
        simp only [argAT, List.mem_cons, Prod.mk.injEq] at h
        rcases h with ⟨_, rfl⟩ | h
        · rfl
        · exact injM_st h
      | m t xs => simp only [argAT, List.mem_singleton, Prod.mk.injEq] at h; obtain ⟨_, rfl⟩ := h; rfl
      | f g d => simp [argAT] at h
    · exact argsMem_st h

theorem injM_nw : ∀ (t : Ty) (x : t.den) (n : Nat), ∀ A b, (injM m t x n).1 ≠ .when_ A b := by
  intro t x n A b h
  cases t with
  | pair u v =>
    simp only [injM] at h
    cases hh : (Ty.pair u v).hasOwn <;> rw [hh] at h <;> cases h
  | _ => cases h

theorem injD_nw : ∀ (t : Ty) (x : t.den) (n : Nat), ∀ A b, (injD m t x n).1 ≠ .when_ A b := by
  intro t x n A b h
  cases t with
  | pair u v =>
    simp only [injD] at h
    cases hh : (Ty.pair u v).hasLst <;> rw [hh] at h <;> cases h
  | _ => cases h

theorem argAT_nw (s : Nat) (x : Arg) : ∀ A b, (argAT s x).1 ≠ .when_ A b := by
  intro A b h
  cases x with
  | v d => exact injM_nw _ _ _ A b h
  | d y => exact injD_nw _ _ _ A b h
  | _ => cases h

theorem argsEnv_find : ∀ {args : List Arg} {s t : Nat} {x : AT}, find (argsEnv s args) t = some x → ∃ k y, args[k]? = some y ∧ t = s + k ∧ x = (argAT t y).1
  | [], s, t, x, h => by simp [argsEnv, find] at h
  | y :: l, s, t, x, h => by
    simp only [argsEnv, find_cons] at h
    split at h
    · rename_i e
      cases h
      subst e
      exact ⟨0, y, rfl, rfl, rfl⟩
    · obtain ⟨k, z, h1, h2, h3⟩ := argsEnv_find h
      exact ⟨k + 1, z, by simpa using h1, by omega, h3⟩

theorem capsAT_ok : ∀ {t : Ty} {x : t.den} {vs : List Value}, CapsO w I t x vs → ATR w I m ρ (capsAT t x) vs
  | .pair a b, x, vs, h => by
    simp only [CapsO] at h
    obtain ⟨v, l, e, _, h1, h2⟩ := h
    exact ⟨v, l, e, h1, capsAT_ok h2⟩
  | .unit, _, vs, h => h

theorem injM_slot {t : Ty} {x : t.den} {n : Nat} {cs : List Value} (h : ATR w I m ρ (injM m' t x n).1 cs) (hl : cs.length = t.size) : SlotR w I m ρ (injM m' t x n).1 (packV t cs) := by
  have ht := inj_typed m' t x n
  refine (slotR_val ht).2 ?_
  have ha : (injM m' t x n).1.isAgg = t.isAgg := by
    cases t with
    | pair u v =>
      simp only [injM]
      cases hh : (Ty.pair u v).hasOwn <;> rfl
    | _ => rfl
  unfold ValR packV
  rw [ha]
  cases hh : t.isAgg with
  | true => exact ⟨cs.toArray, rfl, h⟩
  | false =>
    simp only [Bool.false_eq_true, if_false]
    have hsz : t.size = 1 := by cases t <;> simp_all [Ty.isAgg, Ty.size]
    rw [hsz] at hl
    obtain ⟨v, rfl⟩ := List.length_eq_one_iff.1 hl
    exact h

theorem injD_slot {t : Ty} {x : t.den} {n : Nat} {cs : List Value} (h : ATR w I m ρ (injD m' t x n).1 cs) : SlotR w I m ρ (injD m' t x n).1 (packV t cs) :=
  (slotR_val (injD_typed m' t x n)).2 (val_pack (injD_typed m' t x n) h rfl)

/-- the headers of an argument's lists -/
theorem hdrs_ok : ∀ {t : Ty} {x : t.den} {vs : List Value} {Bs : List Nat} (n : Nat), RepD w I t x vs Bs → Bs.Nodup →
    ∃ pl : Pl, New w I (injD (fun _ => none) t x n).2.1 Bs pl ∧ (∀ m' ρ', Fits (injD (fun _ => none) t x n).2.1 pl m' ρ' → ATR w I m' ρ' (injD (fun _ => none) t x n).1 vs) ∧
      (∀ i b, find (injD (fun _ => none) t x n).2.1 i = some b → n ≤ i ∧ i < (injD (fun _ => none) t x n).2.2) ∧
      ∀ m' pl', (∀ i b, find (injD (fun _ => none) t x n).2.1 i = some b → m' i = some b ∧ pl' i = pl i) → HdrsF w m' pl' t x n vs := by
  intro t
  have light : ∀ {t : Ty} {x : t.den} {vs : List Value} {Bs : List Nat} {n : Nat} {av : AT}, Bs = [] → RepC w I t x vs → av = .leaf t x → (∀ m' pl', HdrsF w m' pl' t x n vs) →
      ∃ pl : Pl, New w I [] Bs pl ∧ (∀ m' ρ', Fits [] pl m' ρ' → ATR w I m' ρ' av vs) ∧ (∀ i b, find ([] : Mem) i = some b → n ≤ i ∧ i < n) ∧ ∀ m' pl', (∀ i b, find ([] : Mem) i = some b → m' i = some b ∧ pl' i = pl i) → HdrsF w m' pl' t x n vs := by
    intro t x vs Bs n av e h1 h2 h3
    subst e h2
    exact ⟨⟨fun _ => none, fun _ => []⟩, New.nil _, fun _ _ _ => h1, fun i b h => by simp [find] at h, fun m' pl' _ => h3 m' pl'⟩
  induction t with
  | lst t _ =>
    intro x vs Bs n h hnd
    obtain ⟨pl, h1, h2, h3⟩ := New.list (n := n) (st := newSt (fun _ => none) n) (mkRows_is t x) h hnd
    refine ⟨pl, h1, h3, fun i b hb => ?_, fun m' pl' hp => ?_⟩
    · simp only [injD, find_cons] at hb
      split at hb
      · rename_i e
        subst e
        simp [injD]
      · simp [find] at hb
    · obtain ⟨p1, p2⟩ := hp n _ (by simp only [injD]; rw [find_cons, if_pos rfl])
      refine ⟨p1, ?_⟩
      simp only [RepD] at h
      obtain ⟨ad, cap, e, hl, hor⟩ := h
      refine ⟨ad, cap, e, hl, ?_⟩
      rw [h2, e] at p2
      rcases hor with ⟨q1, q2, _⟩ | ⟨B, o', cs, Ds, q1, q2, q3, _⟩
      · subst q1
        exact .inl ⟨rfl, q2, p2⟩
      · subst q1
        exact .inr ⟨B, o', cs, p2, rfl, q2, q3⟩
  | pair a b iha ihb =>
    intro x vs Bs n h hnd
    cases ho : (Ty.pair a b).hasLst with
    | false =>
      obtain ⟨h1, h2⟩ := RepD.rep ho h
      simp only [injD, ho, cond_false]
      exact light h2 h1 rfl fun m' pl' => by unfold HdrsF; rw [ho]; exact ⟨I, h1⟩
    | true =>
      simp only [RepD] at h
      obtain ⟨v1, v2, B1, B2, e, eb, h1, h2⟩ := h
      subst eb
      simp only [injD, ho, cond_true]
      have hnd' := List.nodup_append.1 hnd
      obtain ⟨p1, k1, k2, k3, k4⟩ := iha n h1 hnd'.1
      obtain ⟨p2, q1, q2, q3, q4⟩ := ihb (injD (fun _ => none) a x.1 n).2.2 h2 hnd'.2.1
      have hle := injD_end (fun _ => none) a x.1 n
      have hle2 := injD_end (fun _ => none) b x.2 (injD (fun _ => none) a x.1 n).2.2
      have hdis : ∀ i b' c, find (injD (fun _ => none) a x.1 n).2.1 i = some b' → find (injD (fun _ => none) b x.2 (injD (fun _ => none) a x.1 n).2.2).2.1 i = some c → False := by
        intro i b' c hb hc
        have := (k3 i b' hb).2
        have := (q3 i c hc).1
        omega
      refine ⟨plApp (injD (fun _ => none) a x.1 n).2.1 p1 p2, New.app k1 q1 hnd'.2.2 hdis, fun m' ρ' hf => ?_, fun i b' hb => ?_, fun m' pl' hp => ?_⟩
      · simp only [ATR]
        exact ⟨v1, v2, e, k2 m' ρ' hf.left, q2 m' ρ' (hf.right hdis)⟩
      · rw [find_app] at hb
        split at hb
        · rename_i c hc
          cases hb
          obtain ⟨r1, r2⟩ := k3 i _ hc
          exact ⟨r1, by omega⟩
        · obtain ⟨r1, r2⟩ := q3 i b' hb
          exact ⟨by omega, r2⟩
      · unfold HdrsF
        rw [ho]
        refine ⟨v1, v2, e, k4 m' pl' fun i c hc => ?_, q4 m' pl' fun i c hc => ?_⟩
        · obtain ⟨r1, r2⟩ := hp i c (by rw [find_app, hc])
          exact ⟨r1, r2.trans (plApp_some hc).1⟩
        · have hno : find (injD (fun _ => none) a x.1 n).2.1 i = none := by
            cases hf : find (injD (fun _ => none) a x.1 n).2.1 i with
            | none => rfl
            | some c' => exact (hdis i c' c hf hc).elim
          obtain ⟨r1, r2⟩ := hp i c (by rw [find_app, hno]; exact hc)
          exact ⟨r1, r2.trans (plApp_none hno).1⟩
  | own t _ => intro x vs Bs n h; simp only [RepD] at h
  | ref t _ => intro x vs Bs n h; simp only [RepD] at h
  | arr k t _ =>
    intro x vs Bs n h hnd
    simp only [RepD] at h
    simp only [injD]
    exact light h.1 h.2.2 rfl fun m' pl' => ⟨by simpa [Ty.hasLst] using h.2.1, I, h.2.2⟩
  | _ => intro x vs Bs n h hnd; simp only [RepD] at h; simp only [injD]; exact light h.1 h.2 rfl fun m' pl' => ⟨rfl, I, h.2⟩

/-- one argument -/
theorem arg_ok {x : Arg} {s : Nat} {v : Value} {Bs : List Nat} (h : ArgO w I x v Bs) (hn : Bs.Nodup) (hI : ∀ B ∈ Bs, ¬ I B) (hk : ((argAT s x).2.map (·.1)).Nodup) :
    ∃ pl, New w I (argAT s x).2 Bs pl ∧ (∀ m' ρ', Fits (argAT s x).2 pl m' ρ' → SlotR w I m' ρ' (argAT s x).1 v) ∧ ArgF w (find (argAT s x).2) pl s x v := by
  cases x with
  | v d =>
    obtain ⟨cs, hv, hr⟩ := h
    obtain ⟨pl, h1, h2⟩ := inj_ok (fun _ => none) ((pid s + 1) * 1000) hr hn
    refine ⟨pl, h1.new, fun m' ρ' hf => ?_, trivial⟩
    subst hv
    exact injM_slot (h2 m' ρ' fun i b h => ⟨(hf i b h).1, (hf i b h).2.1⟩) hr.length
  | d y =>
    obtain ⟨cs, hv, hr⟩ := h
    obtain ⟨pl, h1, h2, _, h4⟩ := hdrs_ok (dpid s) hr hn
    refine ⟨pl, h1, fun m' ρ' hf => ?_, cs, hv, h4 _ _ fun i b hb => ⟨hb, rfl⟩⟩
    subst hv
    exact injD_slot (h2 m' ρ' hf)
  | p d =>
    obtain ⟨B, cs, B1, hv, hc, hB, hr, e⟩ := h
    subst e hv
    have hn' := List.nodup_cons.1 hn
    obtain ⟨pl, h1, h2⟩ := inj_ok (fun _ => none) ((pid s + 1) * 1000) hr hn'.2
    have hno : find (injM (fun _ => none) d.t d.x ((pid s + 1) * 1000)).2.1 (pid s) = none := by
      cases hf : find (injM (fun _ => none) d.t d.x ((pid s + 1) * 1000)).2.1 (pid s) with
      | none => rfl
      | some b =>
        have := (h1.rng _ _ hf).1
        have : pid s < (pid s + 1) * 1000 := by unfold pid; omega
        omega
    have hnew := New.var (st := 0) h1.new hc hB hn'.1 hno (inj_typed _ _ _ _) fun m' ρ' hf => h2 m' ρ' fun i b h => ⟨(hf i b h).1, (hf i b h).2.1⟩
    refine ⟨_, hnew, fun m' ρ' hf => ?_, B, ?_, rfl, (injM (fun _ => none) d.t d.x ((pid s + 1) * 1000)).1, ?_⟩
    · have hb := hf (pid s) ⟨0, false, .var d.t.imm (injM (fun _ => none) d.t d.x ((pid s + 1) * 1000)).1⟩ (by simp only [argAT, find_cons, if_true])
      obtain ⟨hb1, hb2, _⟩ := hb
      have hp : (Pl.put pl (pid s) (some (B, 0))) (pid s) = some (B, 0) := by simp [Pl.put]
      rw [hp] at hb2
      refine ⟨⟨_, rfl, rfl⟩, ⟨_, hb1, Nat.le_refl _⟩, fun b hb' hst t x hx => ?_⟩
      rw [hb1] at hb'
      cases hb'
      cases hx
      exact ⟨trivial, B, hb2, by simp [Ty.off]⟩
    · simp [Pl.put]
    · simp only [argAT, find_cons, if_true]
  | m t xs =>
    obtain ⟨ad, cap, hv, hcap, hor⟩ := h
    simp only [List.cons.injEq, and_true] at hv
    subst hv
    have hfind : find (argAT s (.m t xs)).2 (pid s) = some ⟨0, false, .rows t xs⟩ := by simp only [argAT, find_cons, if_true]
    rcases hor with ⟨e1, e2, e3⟩ | ⟨B, o', cs, e1, e2, e3, e4, e5, e6⟩
    · have hx : xs = [] := by
        cases xs with
        | nil => rfl
        | cons y ys => simp at hcap; omega
      subst hx e1 e2 e3
      refine ⟨⟨fun _ => none, fun _ => []⟩, New.single rfl (live_of_rows rfl) (fun m' ρ' hp => ⟨trivial, .inl ⟨rfl, hp⟩⟩) (fun B o h => by cases h), fun m' ρ' hf => ?_, ?_, _, _, rfl, Nat.le_refl _, .inl ⟨rfl, rfl, rfl⟩⟩
      · obtain ⟨hb1, hb2, _⟩ := hf (pid s) _ hfind
        refine ⟨⟨_, rfl, rfl⟩, ⟨_, hb1, Nat.zero_le _⟩, fun b hb' hst u ys hy => ?_⟩
        rw [hb1] at hb'
        cases hb'
        cases hy
        exact ⟨none, 0, rfl, Nat.le_refl _, .inl ⟨rfl, rfl, hb2⟩⟩
      · simp only [argAT, find_cons, if_true]
    · subst e1 e6
      have hmul : xs.length * t.size ≤ cap * t.size := Nat.mul_le_mul_right _ hcap
      refine ⟨⟨fun _ => some (B, o'), fun _ => []⟩, New.single rfl (live_of_rows rfl) (fun m' ρ' hp => ⟨trivial, .inr ⟨B, o', cs, hp, e2, by omega, e4, by simp [e5]⟩⟩) (fun B' o'' h => by cases h; simp), fun m' ρ' hf => ?_, ?_, _, _, rfl, hcap, .inr ⟨B, o', cs, rfl, rfl, e2, e3⟩⟩
      · obtain ⟨hb1, hb2, _⟩ := hf (pid s) _ hfind
        refine ⟨⟨_, rfl, rfl⟩, ⟨_, hb1, Nat.zero_le _⟩, fun b hb' hst u ys hy => ?_⟩
        rw [hb1] at hb'
        cases hb'
        cases hy
        exact ⟨_, cap, rfl, hcap, .inr ⟨B, o', cs, hb2, rfl, e2, e3⟩⟩
      · simp only [argAT, find_cons, if_true]
  | f g d =>
    obtain ⟨e, caps, hv, hc⟩ := h
    subst e hv
    refine ⟨⟨fun _ => none, fun _ => []⟩, New.nil _, fun m' ρ' _ => ?_, trivial⟩
    simp only [argAT, SlotR, ValR, AT.isAgg]
    exact ⟨caps, rfl, capsAT_ok hc⟩

theorem HdrsF.mono {m1 m2 : MF} {p1 p2 : Pl} (hm : ∀ i b, m1 i = some b → m2 i = some b ∧ p2 i = p1 i) : ∀ {t : Ty} {x : t.den} {n : Nat} {vs : List Value}, HdrsF w m1 p1 t x n vs → HdrsF w m2 p2 t x n vs := by
  intro t
  induction t with
  | lst t _ =>
    rintro x n vs ⟨h1, ad, cap, h2, h3, h4⟩
    obtain ⟨k1, k2⟩ := hm n _ h1
    exact ⟨k1, ad, cap, h2, h3, h4.to k2⟩
  | pair a b iha ihb =>
    intro x n vs h
    unfold HdrsF at h ⊢
    cases hl : (Ty.pair a b).hasLst with
    | true => rw [hl] at h; obtain ⟨v1, v2, e, h1, h2⟩ := h; exact ⟨v1, v2, e, iha h1, ihb h2⟩
    | false => rw [hl] at h; exact h
  | _ => intro x n vs h; exact h

theorem argF_mono {m1 m2 : MF} {p1 p2 : Pl} {s : Nat} {x : Arg} {v : Value} (h : ArgF w m1 p1 s x v) (hm0 : ∀ i b, m1 i = some b → m2 i = some b ∧ p2 i = p1 i) : ArgF w m2 p2 s x v := by
  have hm := hm0 (pid s)
  cases x with
  | d y =>
    obtain ⟨cs, h1, h2⟩ := h
    exact ⟨cs, h1, h2.mono hm0⟩
  | p d =>
    obtain ⟨B, h1, h2, y, h3⟩ := h
    obtain ⟨k1, k2⟩ := hm _ h3
    exact ⟨B, k2.trans h1, h2, y, k1⟩
  | m t xs =>
    obtain ⟨h3, ad, cap, e1, e2, e3⟩ := h
    obtain ⟨k1, k2⟩ := hm _ h3
    exact ⟨k1, ad, cap, e1, e2, e3.to k2⟩
  | _ => trivial

theorem argFs_mono {m1 m2 : MF} {p1 p2 : Pl} (hm : ∀ i b, m1 i = some b → m2 i = some b ∧ p2 i = p1 i) : ∀ {l : List Arg} {s : Nat} {vs : List Value}, ArgFs w m1 p1 s l vs → ArgFs w m2 p2 s l vs
  | [], _, [], _ => trivial
  | [], _, _ :: _, h => h.elim
  | _ :: _, _, [], h => by cases h
  | _ :: _, _, _ :: _, h => ⟨argF_mono h.1 hm, argFs_mono hm h.2⟩

theorem args_ok : ∀ {args : List Arg} {s : Nat} {vals : List Value} {Bs : List Nat}, ArgsO w I args vals Bs → Bs.Nodup → (∀ B ∈ Bs, ¬ I B) → ((argsMem s args).map (·.1)).Nodup →
    ∃ pl, New w I (argsMem s args) Bs pl ∧ (∀ m' ρ', Fits (argsMem s args) pl m' ρ' → ∀ k x v, args[k]? = some x → vals[k]? = some v → SlotR w I m' ρ' (argAT (s + k) x).1 v) ∧ ArgFs w (find (argsMem s args)) pl s args vals ∧ args.length = vals.length
  | [], s, [], Bs, h, _, _, _ => by
    cases h
    exact ⟨⟨fun _ => none, fun _ => []⟩, New.nil _, fun m' ρ' _ k x v hx => by simp at hx, trivial, rfl⟩
  | [], s, _ :: _, Bs, h, _, _, _ => h.elim
  | _ :: _, s, [], Bs, h, _, _, _ => by cases h
  | x :: l, s, v :: vs, Bs, h, hn, hI, hk => by
    obtain ⟨B1, B2, e, h1, h2⟩ := h
    subst e
    have hn' := List.nodup_append.1 hn
    obtain ⟨k1, k2, k3⟩ := keys_app (l1 := (argAT s x).2) (l2 := argsMem (s + 1) l) hk
    obtain ⟨p1, q1, q2, q3⟩ := arg_ok (s := s) h1 hn'.1 (fun B hB => hI B (by simp [hB])) k1
    obtain ⟨p2, r1, r2, r3, r4⟩ := args_ok (s := s + 1) h2 hn'.2.1 (fun B hB => hI B (by simp [hB])) k2
    have hnew := New.app q1 r1 hn'.2.2 k3
    refine ⟨_, hnew, fun m' ρ' hf k y u hy hu => ?_, ⟨?_, ?_⟩, by simp [r4]⟩
    · cases k with
      | zero =>
        simp only [List.getElem?_cons_zero, Option.some.injEq] at hy hu
        subst hy hu
        exact q2 m' ρ' (Fits.left hf)
      | succ k =>
        have := r2 m' ρ' (Fits.right k3 hf) k y u (by simpa using hy) (by simpa using hu)
        rw [show s + (k + 1) = s + 1 + k by omega]
        exact this
    · refine argF_mono q3 fun i b hb => ?_
      exact ⟨by simp only [argsMem, find_app, hb], (plApp_some hb).1⟩
    · refine argFs_mono (fun i b hb => ?_) r3
      have : find (argAT s x).2 i = none := by
        cases hf : find (argAT s x).2 i with
        | none => rfl
        | some c => exact (k3 i c b hf hb).elim
      exact ⟨by simp only [argsMem, find_app, this]; exact hb, (plApp_none this).1⟩

end
end Go.Ab
namespace Go.Ab
section
variable {P : Program} {F : Fix} {C : Cx} {o : Oper} {a : Act} {w w' : World} {m m' : MF} {I I' : Nat → Prop} {ρ ρ' : Pl} {d : Did}
variable {n : Nat} {K : Keep} {st st' : St}

def resOf : List Value → Value
  | [v] => v
  | l => .tuple l.toArray

theorem run_results {fn : Func} {tmps : Array Value} {vals : List Value} (hr : All2 (fun r v => (resSem tmps r).run P w = .ok v w) fn.results.toList vals) (hl : fn.results.toList.length ≤ 3) :
    (results fn tmps).run P w = .ok (resOf vals) w := by
  have hres : results fn tmps = (do let vs ← fn.results.mapM (resSem tmps); pure (if h : vs.size = 1 then vs[0] else .tuple vs)) := by
    unfold results
    congr 1
  rw [hres]
  generalize hx : fn.results.toList = l at hr hl
  have he : fn.results = l.toArray := by apply Array.ext'; simp [hx]
  rw [he]
  cases hr with
  | nil => simp [resOf]
  | cons h1 hr =>
    cases hr with
    | nil => simp [resOf, h1]
    | cons h2 hr =>
      cases hr with
      | nil => simp [resOf, h1, h2]
      | cons h3 hr =>
        cases hr with
        | nil => simp [resOf, h1, h2, h3]
        | cons _ _ => simp at hl

theorem outO_of {outs : List RV} {vals : List Value} {Bs : List Nat} (h : RetsO w I outs vals Bs) : OutO w I outs (resOf vals) Bs := by
  rcases outs with _ | ⟨x, _ | ⟨y, l⟩⟩
  · cases vals with
    | nil => exact ⟨#[], rfl, h⟩
    | cons _ _ => exact h.elim
  · rcases vals with _ | ⟨v, _ | ⟨u, vs⟩⟩
    · exact h.elim
    · obtain ⟨B1, B2, e, h1, h2⟩ := h
      cases h2
      simp only [List.append_nil] at e
      subst e
      exact h1
    · obtain ⟨B1, B2, e, h1, h2⟩ := h
      exact h2.elim
  · rcases vals with _ | ⟨v, _ | ⟨u, vs⟩⟩
    · exact h.elim
    · obtain ⟨B1, B2, e, h1, h2⟩ := h
      exact h2.elim
    · exact ⟨(v :: u :: vs).toArray, rfl, h⟩

/-- from a run whose end is well, the contract -/
theorem evK_ok {α : Type} {r : α} {Kt : Ex → St → Option α} {c : Code} {fn : Func} {f : FuncId} {lt : List (Nat × LoopD)} {args : List Arg} {ws : List Want} {outs : List RV} {upds : List DV} {ok : List Bool} (hm : P.follows .mixedOrders = true) (hC : CxOk P C) (hF : FnOk P C)
    (hf : P.funcs[f]? = some fn) (hbody : fn.body = some c) (hlo : LoopsOk C lt c) (hco : codeOk fn.ntmps c = true) (hlen : args.length ≤ fn.ntmps) (hlen50 : args.length ≤ 50) (hws : ws.length ≤ 3) (hnd : ((argsMem 0 args).map (·.1)).Nodup)
    (hev : evC C lt c Kt ⟨argsEnv 0 args, argsMem 0 args, []⟩ = some r) (hK : ∀ e st, Kt e st = some r → (∀ i, e ≠ .exit i) ∧ finish C fn args ws st = some (outs, upds)) : Holds P f args ⟨outs, upds, ok⟩ := by
  intro w I vals Bs hI hargs hBn hBI
  · obtain ⟨pl, hnew, hslots, hfs, hlv⟩ := args_ok hargs hBn hBI hnd
    let F : Fix := ⟨w, I, fun B => B ∈ Bs⟩
    let m0 : MF := find (argsMem 0 args)
    let K : Keep := ⟨fun i => bif isPid i then m0 i else none, pl, w, fun id b hb => by
      cases hp : isPid id with
      | true => rfl
      | false => rw [hp] at hb; cases hb⟩
    have hfits : Fits (argsMem 0 args) pl m0 pl := fun j c hc => ⟨hc, rfl, rfl⟩
    have hinv : Inv F fn.ntmps K ⟨argsEnv 0 args, argsMem 0 args, []⟩ { tmps := vals.toArray ++ Array.replicate (fn.ntmps - vals.toArray.size) Go.undef, defers := [] } w := by
      refine ⟨⟨I, pl, ⟨?_, ?_, ?_, rfl, ?_⟩⟩, ?_⟩
      · refine ⟨fun id b hb => (hnew.blk id b hb).2.2 m0 pl hfits, fun id id' b b' B o o' h1 h2 _ _ h5 h6 => hnew.one id id' b b' B h1 h2 (.inl ⟨_, h5⟩) (.inl ⟨_, h6⟩), hI, fun _ h => h, fun _ h => .inl h,
          fun id b B o h1 _ h3 => .inr (hnew.src id b B h1 (.inl ⟨_, h3⟩)), fun id b h1 h2 => ⟨(hnew.dn id b h1 h2).1, fun B hB => ⟨.inr (hnew.src id b B h1 (.inr ⟨h2, hB⟩)), fun id' b' o k1 _ k3 => by
            have := hnew.one id id' b b' B h1 k1 (.inr ⟨h2, hB⟩) (.inl ⟨_, k3⟩)
            subst this
            exact (hnew.dn id b h1 h2).2 B hB o k3, fun id' b' k1 k2 k3 => (hnew.one id id' b b' B h1 k1 (.inr ⟨h2, hB⟩) (.inr ⟨k2, k3⟩)).symm⟩⟩, fun _ _ _ => rfl, Nat.le_refl _, rfl, rfl, rfl⟩
      · intro s av hav
        obtain ⟨k, x, h1, h2, h3⟩ := argsEnv_find hav
        simp only [Nat.zero_add] at h2
        subst h2 h3
        have hk : s < args.length := (List.getElem?_eq_some_iff.1 h1).1
        have hv : vals[s]? = some vals[s] := by simp [show s < vals.length by omega]
        have := hslots m0 pl hfits s x _ h1 hv
        simp only [Nat.zero_add] at this
        have hget : (vals.toArray ++ Array.replicate (fn.ntmps - vals.toArray.size) Go.undef).getD s Go.undef = vals[s] := by
          simp [Array.getElem?_append, show s < vals.length by omega]
        rw [hget]
        exact this
      · simp; omega
      · intro id b0 hb0
        cases hp : isPid id with
        | false => simp only [K, hp] at hb0; cases hb0
        | true =>
          simp only [K, hp, cond_true] at hb0
          exact ⟨b0, hb0, .inr ⟨argsMem_st (find_mem hb0), SameT.refl _, rfl, fun _ _ _ _ cs hc => ⟨cs, hc, Nat.le_refl _⟩⟩⟩
      · intro s A b hf'
        obtain ⟨k, x, _, _, h3⟩ := argsEnv_find hf'
        exact argAT_nw _ _ A b h3.symm
    refine calls_of_wp hf hbody (evC_ok hm hC hF c hco hlo hinv hev ?_)
    · intro e st' a' w' he hi'
      obtain ⟨hne, hfin⟩ := hK e st' he
      unfold finish at hfin
      split at hfin
      · rename_i o i u j ho hu
        obtain ⟨hb, h2⟩ := bif_some hfin
        obtain ⟨_, h3⟩ := bif_some h2
        cases h3
        simp only [Bool.and_eq_true, nodup_spec] at hb
        obtain ⟨hown, himm⟩ := hb
        simp only [Took.app, app_eq] at hown himm
        have hown' := List.nodup_append.1 hown
        obtain ⟨⟨I2, ρ2, hi⟩, _⟩ := hi'
        let I3 := Ifrz (find st'.mem) ρ2 I2 (i.imm ++ j.imm)
        have hfz := Done.freeze hi.mem (i.imm ++ j.imm)
        have hImm : ∀ id ∈ i.imm ++ j.imm, ∀ b B o, find st'.mem id = some b → b.live → ρ2 id = some (B, o) → I3 B := fun id hid b B o h1 h2 h3 => .inr (.inl ⟨id, hid, b, o, h1, h2, h3⟩)
        have hOwn : ∀ id ∈ i.own ++ j.own, ∀ B, Mine (find st'.mem) ρ2 id B → ¬ I3 B := by
          rintro id hid B hmine (hIB | ⟨k, hk, bk, ok', k1, k2, k3⟩ | ⟨k, hk, bk, k1, k2, k3⟩)
          · exact hmine.notI hi.mem hIB
          · obtain ⟨b, h1, h2, h3, h4⟩ := hmine
            have := hi.mem.owns h1 h2 h4 k1 k2 (.inl ⟨_, k3⟩)
            subst this
            have := allL_mem himm id hk
            simp only [Bool.not_eq_true'] at this
            rw [anyL_beq.2 hid] at this
            cases this
          · obtain ⟨b, h1, h2, h3, h4⟩ := hmine
            have := hi.mem.owns h1 h2 h4 k1 (deep_live k2) (.inr ⟨k2, k3⟩)
            subst this
            have := allL_mem himm id hk
            simp only [Bool.not_eq_true'] at this
            rw [anyL_beq.2 hid] at this
            cases this
        obtain ⟨p1, rvs, p0, Ys, p2, p3, p4⟩ := outOf_ok (I' := I3) hC hi.mem (fun _ h => .inl h) hi.env ho (fun id h => hImm id (by simp [h])) (fun id h => hOwn id (by simp [h])) hown'.1
        have hkept : ∀ id b0, isPid id = true → m0 id = some b0 → ∃ b, find st'.mem id = some b ∧ (0 < b.st ∨ (b.st = 0 ∧ SameT b0.c b.c ∧ ρ2 id = pl id ∧
            (b0.live → ∀ B o, pl id = some (B, o) → ∀ cs, Cells w B cs → ∃ cs', Cells w' B cs' ∧ cs.length ≤ cs'.length))) := by
          intro id b0 hp hb0
          refine hi.kept id b0 ?_
          simp only [K, hp, cond_true]
          exact hb0
        obtain ⟨Zs, z1, z2, z3⟩ := updOf_ok (w0 := w) (m0 := m0) (pl := pl) (I' := I3) hi.mem (fun _ h => .inl h) hkept (s := 0) (by omega) hu hfs (fun id h => hImm id (by simp [h])) (fun id h => hOwn id (by simp [h])) hown'.2.1
        have hmine : ∀ B ∈ Ys ++ Zs, ∃ id ∈ i.own ++ j.own, Mine (find st'.mem) ρ2 id B := by
          intro B hB
          rcases List.mem_append.1 hB with hB | hB
          · obtain ⟨k, hk, h⟩ := p4 B hB; exact ⟨k, by simp [hk], h⟩
          · obtain ⟨k, hk, h⟩ := z3 B hB; exact ⟨k, by simp [hk], h⟩
        have hres := run_results (fn := fn) p0 (by rw [p1]; exact hws)
        have hpost : a'.defers = [] ∧ ∃ v, (results fn a'.tmps).run P w' = .ok v w' ∧ (fun e w' => ∃ v I' Ys Zs, e = Ending.returned v ∧ OutO w' I' outs v Ys ∧ UpdO w w' I' args vals upds Zs ∧ (Ys ++ Zs).Nodup ∧
            (∀ B ∈ Ys ++ Zs, (B ∈ Bs ∨ w.heap.size ≤ B) ∧ ¬ I' B) ∧ Agree I I' w w' ∧ (∀ B, I' B → B < w'.heap.size ∧ (I B ∨ w.heap.size ≤ B ∨ B ∈ Bs)) ∧
            (∀ B, B < w.heap.size → ¬ B ∈ Bs → w'.heap[B]? = w.heap[B]?) ∧ w.heap.size ≤ w'.heap.size ∧ w'.os = w.os ∧ w'.tape = w.tape ∧ w'.output = w.output) (.returned v) w' := by
          refine ⟨hi.defers, _, hres, _, I3, Ys, Zs, rfl, outO_of p2, z1, nodup_two hi.mem hown p3 z2 p4 z3, fun B hB => ?_, ⟨fun B h => .inl (hi.mem.imm0 B h), fun B h => ?_⟩, fun B h => ⟨hfz.mem.imm B h, ?_⟩, hi.mem.frame, hi.mem.size, hi.mem.os, hi.mem.tape, hi.mem.output⟩
          · obtain ⟨id, hid, hmn⟩ := hmine B hB
            refine ⟨?_, hOwn id hid B hmn⟩
            rcases hmn.up hi.mem with h | h
            · exact .inr h
            · exact .inl h
          · exact hi.mem.frame B (hI B h) fun hB => hBI B hB h
          · rcases hfz.mem.immN B h with h | h | h
            · exact .inl h
            · exact .inr (.inl h)
            · exact .inr (.inr h)
        cases e with
        | norm => exact hpost
        | ret => exact hpost
        | exit i => exact absurd rfl (hne i)
      · cases hfin

end
end Go.Ab
namespace Go.Ab
open Go.ChangeShapes Go.WideShapes Go.ChangeAt Go.RowKit
section
variable {P : Program} {F : Fix} {C : Cx} {w w' : World} {m m' : MF} {I I' : Nat → Prop} {ρ ρ' : Pl}

/-! ## a law's arguments -/
/-- what the statement's 'bulk' does -/
structure UB {H : Type} (ub : DataW H → Nat) (uba : List (DataW H) → Nat) : Prop where
  one : ∀ d, 1 ≤ ub d
  str : ∀ b, b.length + 1 ≤ ub (.lit (.string b))
  slice : ∀ e s, uba e + uba s + 1 ≤ ub (.slice e s)
  agg : ∀ p, uba p + 1 ≤ ub (.agg p)
  cons : ∀ d r, uba (d :: r) = ub d + uba r

/-- how many values and letters -/
def bulk : (t : Ty) → t.den → Nat
  | .unit, _ => 0
  | .str, s => s.length + 1
  | .lst t, xs => (xs.map (bulk t)).sum + 1
  | .pair a b, x => bulk a x.1 + bulk b x.2
  | _, _ => 1

/-- numbers are in their kind's range -/
def wfT : (t : Ty) → t.den → Prop
  | .int k, n => k.min ≤ n ∧ n ≤ k.max
  | .lst t, xs => ∀ x ∈ xs, wfT t x
  | .pair a b, x => wfT a x.1 ∧ wfT b x.2
  | _, _ => True

/-- plain data of a law's arguments -/
def Ty.given : Ty → Bool
  | .unit | .bool | .int _ | .str => true
  | .lst t => t.given
  | .pair a b => a.given && b.given
  | _ => false

theorem cellsOf_ok {t : Ty} {T : TypeId} (h : TyOk P t T) : P.cellsOf T = t.size := by
  obtain ⟨i, h1, h2, _⟩ := h.info.info
  simp [Program.cellsOf, h1, h2]

theorem pack_ok {t : Ty} {T : TypeId} {v : Value} {r : Reach} {base : Nat} (h : TyOk P t T) (hg : t.given = true) (hv : Value.okWide P w r base T v) : v = packV t v.cells.toList := by
  unfold TyOk at h
  cases t with
  | unit =>
    simp only [TO] at h
    obtain ⟨_, fs, hu, _⟩ := h
    obtain ⟨cs, rfl, _⟩ := okWide_struct hu hv
    simp [packV, Ty.isAgg, Value.cells]
  | bool =>
    simp only [TO] at h
    obtain ⟨b, rfl⟩ := okWide_bool h.2 hv
    simp [packV, Ty.isAgg, Value.cells]
  | int k =>
    simp only [TO] at h
    obtain ⟨b, rfl⟩ := okWide_int h.2 hv
    simp [packV, Ty.isAgg, Value.cells]
  | str =>
    simp only [TO] at h
    obtain ⟨b, rfl⟩ := okWide_string h.2 hv
    simp [packV, Ty.isAgg, Value.cells]
  | lst u =>
    simp only [TO] at h
    obtain ⟨_, E, hu, _⟩ := h
    obtain ⟨a, len, cap, rfl⟩ := okWide_slice hu hv
    simp [packV, Ty.isAgg, Value.cells]
  | pair a b =>
    simp only [TO] at h
    obtain ⟨_, fs, hu, _⟩ := h
    obtain ⟨cs, rfl, _⟩ := okWide_struct hu hv
    simp [packV, Ty.isAgg, Value.cells]
  | _ => simp [Ty.given] at hg

variable {H : Type} {enc : TypeId × Value → H} {ub : DataW H → Nat} {uba : List (DataW H) → Nat}

theorem take_two {α : Type} (l : List α) (o a b : Nat) : (l.drop o).take (a + b) = (l.drop o).take a ++ (l.drop (o + a)).take b := by
  rw [List.take_add, List.drop_drop]

theorem cells_get {base : Nat} {ad : Addr} {n : Nat} {cs : List Value} (h : w.cells? base ad n = some cs) (hn : 0 < n) (hs : ad.spot = none) : cs.length = n ∧ ∀ j, j < n → w.cell? ⟨ad.block, ad.off + j, none⟩ = cs[j]? := by
  obtain ⟨h1, h2, h3⟩ := World.cells?_some h
  refine ⟨h2, fun j hj => ?_⟩
  have := h3 j hj
  rw [← this]
  congr 1
  unfold Addr.add
  obtain ⟨b, o, s⟩ := ad
  simp only at hs
  subst hs
  by_cases e : j = 0 <;> simp [e]

theorem spot_none {base : Nat} {ad : Addr} {n : Nat} {cs : List Value} (h : w.cells? base ad n = some cs) (hn : 0 < n) : ad.spot = none ∧ ad.block < w.heap.size := by
  obtain ⟨h1, h2, h3⟩ := World.cells?_some h
  have h0 := h3 0 hn
  have hc : cs[0]? = some cs[0] := by simp [show 0 < cs.length by omega]
  rw [hc] at h0
  unfold World.cell? at h0
  have ha : ad.add 0 = ad := by simp [Addr.add]
  rw [ha] at h0
  split at h0
  · rename_i c e fr hb
    refine ⟨?_, ?_⟩
    · cases hs : ad.spot with
      | none => rfl
      | some _ => simp [hs] at h0
    · rcases Nat.lt_or_ge ad.block w.heap.size with hl | hl
      · exact hl
      · simp [Array.getElem?_eq_none hl] at hb
  · cases h0

theorem sum_map_le {α : Type} {f : α → Nat} : ∀ {xs : List α} {ds : List (DataW H)}, UB ub uba → xs.length = ds.length → (∀ (i : Nat) (x : α) (d : DataW H), xs[i]? = some x → ds[i]? = some d → f x ≤ ub d) → (xs.map f).sum ≤ uba ds
  | [], [], _, _, _ => by simp
  | x :: xs, d :: ds, hu, hl, h => by
    rw [hu.cons]
    simp only [List.map_cons, List.sum_cons]
    have h1 := h 0 x d rfl rfl
    have h2 := sum_map_le (xs := xs) (ds := ds) (f := f) hu (by simpa using hl) fun i y e hy he => h (i + 1) y e (by simpa using hy) (by simpa using he)
    omega
  | [], _ :: _, _, h, _ => by simp at h
  | _ :: _, [], _, h, _ => by simp at h

theorem list_build {α : Type} {Q : Nat → α → Prop} : ∀ (n : Nat), (∀ i, i < n → ∃ x, Q i x) → ∃ xs : List α, xs.length = n ∧ ∀ (i : Nat) (x : α), xs[i]? = some x → Q i x
  | 0, _ => ⟨[], rfl, fun i x h => by simp at h⟩
  | n + 1, h => by
    obtain ⟨xs, h1, h2⟩ := list_build n fun i hi => h i (by omega)
    obtain ⟨x, hx⟩ := h n (by omega)
    refine ⟨xs ++ [x], by simp [h1], fun i y hy => ?_⟩
    by_cases e : i < n
    · rw [List.getElem?_append_left (by omega)] at hy
      exact h2 i y hy
    · rw [List.getElem?_append_right (by omega)] at hy
      have : i - xs.length = 0 := by
        rcases Nat.eq_zero_or_pos (i - xs.length) with h0 | h0
        · exact h0
        · rw [List.getElem?_eq_none (by simp; omega)] at hy; cases hy
      rw [this] at hy
      simp only [List.getElem?_cons_zero, Option.some.injEq] at hy
      subst hy
      have : i = n := by omega
      subst this
      exact hx

theorem read_ok (hu : UB ub uba) : ∀ (t : Ty), t.given = true →
    (∀ (T : TypeId) (cs : List Value) (fuel : Nat) (x : DataW H × List MemPlace), TyOk P t T → DataW.trod enc P w 0 (fun _ => true) true fuel T cs = some x → ∃ y : t.den, RepC w (· < w.heap.size) t y cs ∧ wfT t y ∧ bulk t y ≤ ub x.1) ∧
    (∀ (fs : List Field) (off : Nat) (cs : List Value) (k : Nat) (xs : List (DataW H × List MemPlace)), FieldsOk P t fs off → xs.length = fs.length →
      (∀ (i : Nat) (f : Field), fs[i]? = some f → DataW.trod enc P w 0 (fun _ => true) true k f.type ((cs.drop f.offset).take (P.cellsOf f.type)) = xs[i]?) →
      ∃ y : t.den, RepC w (· < w.heap.size) t y ((cs.drop off).take t.size) ∧ wfT t y ∧ bulk t y ≤ uba (xs.map (·.1))) := by
  intro t
  induction t with
  | unit =>
    intro _
    refine ⟨fun T cs fuel x hT h => ?_, fun fs off cs k xs hf hl h => ?_⟩
    · have hc := cellsOf_ok hT
      simp only [TyOk, TO] at hT
      obtain ⟨_, fs, hu1, hfs⟩ := hT
      obtain ⟨xs, n, _, _, hl, _⟩ := DataW.trod_struct hu1 h
      rw [hc] at hl
      refine ⟨(), ?_, trivial, Nat.zero_le _⟩
      simp only [RepC]
      exact List.eq_nil_of_length_eq_zero (by simpa [Ty.size] using hl)
    · exact ⟨(), by simp [RepC, Ty.size], trivial, Nat.zero_le _⟩
  | bool =>
    intro _
    refine ⟨fun T cs fuel x hT h => ?_, fun fs off cs k xs hf => by simp [FieldsOk, TO] at hf⟩
    simp only [TyOk, TO] at hT
    obtain ⟨b, rfl, rfl⟩ := DataW.trod_bool hT.2 h
    exact ⟨b, by simp [RepC], trivial, hu.one _⟩
  | int k =>
    intro _
    refine ⟨fun T cs fuel x hT h => ?_, fun fs off cs k xs hf => by simp [FieldsOk, TO] at hf⟩
    simp only [TyOk, TO] at hT
    obtain ⟨b, rfl, rfl, hw⟩ := DataW.trod_int hT.2 h
    simp only [Lit.wf, Bool.and_eq_true, decide_eq_true_eq] at hw
    exact ⟨b, by simp [RepC], hw, hu.one _⟩
  | str =>
    intro _
    refine ⟨fun T cs fuel x hT h => ?_, fun fs off cs k xs hf => by simp [FieldsOk, TO] at hf⟩
    simp only [TyOk, TO] at hT
    obtain ⟨b, rfl, rfl, hw⟩ := DataW.trod_string hT.2 h
    exact ⟨b.data.toList, by simp [RepC], trivial, hu.str _⟩
  | lst u ih =>
    intro hg
    have ih := (ih (by simpa [Ty.given] using hg)).1
    refine ⟨fun T cs fuel x hT h => ?_, fun fs off cs k xs hf => by simp [FieldsOk, TO] at hf⟩
    obtain ⟨E, hE, hsz, hTE⟩ := tyOk_lst hT
    have hcE := cellsOf_ok hTE
    rcases DataW.trod_slice hE h with ⟨rfl, rfl⟩ | ⟨ad, len, cap, elems, rest, n, _, rfl, rfl, _, hlc, hcap, hel, hget, _⟩
    · refine ⟨[], ?_, by intro x hx; simp at hx, ?_⟩
      · simp only [RepC]
        exact ⟨none, 0, by simp, by simp, .inl trivial⟩
      · simp only [bulk, List.map_nil, List.sum_nil]; exact hu.one _
    · have hone : ∀ i, i < len → ∃ y : u.den, ∃ cs d, w.cells? 0 (ad.add (i * u.size)) u.size = some cs ∧ elems[i]? = some d ∧ RepC w (· < w.heap.size) u y cs ∧ wfT u y ∧ bulk u y ≤ ub d.1 := by
        intro i hi
        have h1 := hget i hi
        have h2 : elems[i]? = some elems[i] := by simp [show i < elems.length by omega]
        rw [h2, hcE, Option.bind_eq_some_iff] at h1
        obtain ⟨cs, h3, h4⟩ := h1
        obtain ⟨y, h5, h6, h7⟩ := ih E cs n _ hTE h4
        exact ⟨y, cs, _, h3, h2, h5, h6, h7⟩
      obtain ⟨ys, hyl, hys⟩ := list_build len hone
      refine ⟨ys, ?_, ?_, ?_⟩
      · simp only [RepC]
        refine ⟨some ad, cap, by rw [hyl], by omega, ?_⟩
        by_cases hz : len = 0
        · exact .inl (List.eq_nil_of_length_eq_zero (by omega))
        · refine .inr ?_
          obtain ⟨_, cs0, _, h0, _⟩ := hone 0 (by omega)
          have ha0 : ad.add (0 * u.size) = ad := by simp [Addr.add]
          rw [ha0] at h0
          obtain ⟨hsp, hbl⟩ := spot_none h0 hsz
          obtain ⟨B, off, sp⟩ := ad
          simp only at hsp hbl
          subst hsp
          refine ⟨B, off, rfl, hbl, fun i y hy => ?_⟩
          obtain ⟨cs, d, h1, h2, h3, _⟩ := hys i y hy
          have hadd : (⟨B, off, none⟩ : Addr).add (i * u.size) = ⟨B, off + i * u.size, none⟩ := Addr.add_at _ _ _
          rw [hadd] at h1
          obtain ⟨k1, k2⟩ := cells_get h1 hsz rfl
          exact ⟨cs, k1, k2, h3⟩
      · intro y hy
        obtain ⟨i, hi⟩ := List.getElem?_of_mem hy
        obtain ⟨_, _, _, _, _, h6, _⟩ := hys i y hi
        exact h6
      · have hs := hu.slice (elems.map (·.1)) (rest.map (·.1))
        have : (ys.map (bulk u)).sum ≤ uba (elems.map (·.1)) := by
          refine sum_map_le hu (by simp [hyl, hel]) fun i y d hy hd => ?_
          obtain ⟨_, d', _, h2, _, _, h7⟩ := hys i y hy
          simp only [List.getElem?_map, h2, Option.map_some, Option.some.injEq] at hd
          subst hd
          exact h7
        simp only [bulk]
        omega
  | pair a b iha ihb =>
    intro hg
    simp only [Ty.given, Bool.and_eq_true] at hg
    have iha := (iha hg.1).1
    have ihb := (ihb hg.2).2
    have main : ∀ (f : Field) (l : List Field) (off : Nat) (cs : List Value) (k : Nat) (xs : List (DataW H × List MemPlace)), f.offset = off → TyOk P a f.type → FieldsOk P b l (off + a.size) → xs.length = (f :: l).length →
        (∀ (i : Nat) (g : Field), (f :: l)[i]? = some g → DataW.trod enc P w 0 (fun _ => true) true k g.type ((cs.drop g.offset).take (P.cellsOf g.type)) = xs[i]?) →
        ∃ y : (Ty.pair a b).den, RepC w (· < w.heap.size) (.pair a b) y ((cs.drop off).take (a.size + b.size)) ∧ wfT (.pair a b) y ∧ bulk (.pair a b) y ≤ uba (xs.map (·.1)) := by
      intro f l off cs k xs hfo hfT hl hlen h
      cases xs with
      | nil => simp at hlen
      | cons x xs =>
        have h0 := h 0 f rfl
        simp only [List.getElem?_cons_zero] at h0
        rw [cellsOf_ok hfT, hfo] at h0
        obtain ⟨ya, q1, q2, q3⟩ := iha _ _ _ _ hfT h0
        obtain ⟨yb, p1, p2, p3⟩ := ihb l (off + a.size) cs k xs hl (by simpa using hlen) fun i g hg => by
          have := h (i + 1) g (by simpa using hg)
          simpa using this
        refine ⟨(ya, yb), ?_, ⟨q2, p2⟩, ?_⟩
        · simp only [RepC]
          exact ⟨_, _, take_two _ _ _ _, q1, p1⟩
        · simp only [bulk, List.map_cons, hu.cons]
          omega
    refine ⟨fun T cs fuel x hT h => ?_, fun fs off cs k xs hf hl h => ?_⟩
    · have hc := cellsOf_ok hT
      simp only [TyOk, TO] at hT
      obtain ⟨_, fs, hu1, f, l, hfs, hf0, hfT, hfl⟩ := hT
      obtain ⟨xs, n, _, rfl, hl, hxl, hx⟩ := DataW.trod_struct hu1 h
      rw [hc] at hl
      obtain ⟨y, h1, h2, h3⟩ := main f l 0 cs n xs hf0 hfT (by simpa [FieldsOk] using hfl) (by rw [← hfs]; simpa using hxl) (fun i g hg => hx i g (by rw [← hfs] at hg; simpa using hg))
      refine ⟨y, ?_, h2, ?_⟩
      · rw [List.drop_zero] at h1
        have e : cs.take (a.size + b.size) = cs := List.take_of_length_le (by simp only [Ty.size] at hl; omega)
        rwa [e] at h1
      · have := hu.agg (xs.map (·.1))
        simp only at h3 ⊢
        omega
    · simp only [FieldsOk, TO] at hf
      obtain ⟨f, l, rfl, hfo, hfT, hfl⟩ := hf
      exact main f l off cs k xs hfo hfT hfl hl h
  | _ => intro hg; simp [Ty.given] at hg

end
end Go.Ab
namespace Go.Ab
open Go.ChangeShapes Go.WideShapes Go.ChangeAt Go.RowKit
section
variable {P : Program} {w w' : World} {H : Type} {enc : TypeId × Value → H} {ub : DataW H → Nat} {uba : List (DataW H) → Nat}

theorem read_all (hu : UB ub uba) {base : Nat} {r : Reach} : ∀ {tys : List Ty} {ts : List TypeId} {vs : List Value} {ds : List (DataW H)} {ps : List MemPlace}, All2 (TyOk P) tys ts → (∀ t ∈ tys, t.given = true) →
    DataW.TrodAll enc P w 0 (fun _ => true) true ts vs ds ps → (∀ (j : Nat) (t : TypeId) (v : Value), ts[j]? = some t → vs[j]? = some v → Value.okWide P w r base t v) →
    ∃ dvs : List DV, dvs.map (·.t) = tys ∧ (∀ d ∈ dvs, wfT d.t d.x) ∧ (dvs.map fun d => bulk d.t d.x).sum ≤ uba ds ∧ ArgsO w (· < w.heap.size) (dvs.map .v) vs []
  | [], _, vs, ds, ps, hty, _, h, _ => by
    cases hty
    obtain ⟨rfl, rfl, _⟩ := trodAll_nil h
    exact ⟨[], rfl, by simp, by simp, rfl⟩
  | ty :: tys, _, vs, ds, ps, hty, hg, h, hv => by
    cases hty with
    | cons hT hTs =>
    rename_i T ts
    obtain ⟨v, vs', d, ds', p, q, rfl, rfl, rfl, h1, h2⟩ := trodAll_cons h
    obtain ⟨fuel, hf⟩ := h1
    have hg1 := hg ty (by simp)
    obtain ⟨y, k1, k2, k3⟩ := (read_ok (P := P) (w := w) (enc := enc) hu ty hg1).1 T _ fuel _ hT hf
    obtain ⟨dvs, q1, q2, q3, q4⟩ := read_all hu hTs (fun t ht => hg t (by simp [ht])) h2 fun j t v hj hjv => hv (j + 1) t v (by simpa using hj) (by simpa using hjv)
    have hp := pack_ok hT hg1 (hv 0 T v rfl rfl)
    refine ⟨⟨ty, y⟩ :: dvs, by simp [q1], ?_, ?_, ?_⟩
    · intro d hd
      rcases List.mem_cons.1 hd with e | hd
      · subst e; exact k2
      · exact q2 d hd
    · simp only [List.map_cons, List.sum_cons, hu.cons]
      simp only at k3
      omega
    · exact ⟨[], [], rfl, ⟨_, hp, RepO.of_rep k1⟩, q4⟩

theorem args_stay (hl : laidOutB P = true) (hb : Below w.heap.size w w') : ∀ {ts : List TypeId} {vs : List Value} {ds : List (DataW H)} {ps : List MemPlace}, (∀ t ∈ ts, P.readableRec t = true ∧ t < P.types.size) →
    DataW.TrodAll enc P w 0 (fun _ => true) true ts vs ds ps → (∀ x ∈ ps, x.block < w.heap.size) → DataW.TrodAll enc P w' 0 (fun b => decide (b < w.heap.size)) true ts vs ds ps
  | [], vs, ds, ps, _, h, _ => by
    obtain ⟨rfl, rfl, rfl⟩ := trodAll_nil h
    exact rfl
  | T :: ts, vs, ds, ps, hr, h, hlt => by
    obtain ⟨v, vs', d, ds', p, q, rfl, rfl, rfl, h1, h2⟩ := trodAll_cons h
    have := hr T (by simp)
    exact trodAll_cons_mk (Below.trod hl this.1 this.2 h1 hb fun x hx => hlt x (by simp [hx])) (args_stay hl hb (fun t ht => hr t (by simp [ht])) h2 fun x hx => hlt x (by simp [hx]))

/-- a law that always answers true -/
theorem law_ok {f : FuncId} {fn : Func} {tys : List Ty} {TB : TypeId} {s : ChangeSpec} (hu : UB ub uba) (hl : laidOutB P = true) (htys : All2 (TyOk P) tys fn.params.toList) (hg : ∀ t ∈ tys, t.given = true)
    (hr : ∀ t ∈ fn.params.toList, P.readableRec t = true ∧ t < P.types.size) (hres : fn.resultTypes = #[TB]) (hTB : P.underlying TB = some .bool) (hvars : s.vars = [])
    (hspec : ∀ ds : List (DataW H), ds.length = tys.length → (s.fn H ds).results = [.lit (.bool true)] ∧ (s.fn H ds).args = ds ∧ (s.fn H ds).vars = [])
    (hh : ∀ dvs : List DV, dvs.map (·.t) = tys → (∀ d ∈ dvs, wfT d.t d.x) → (dvs.map fun d => bulk d.t d.x).sum ≤ 1048576 → Holds P f (dvs.map .v) ⟨[.v ⟨.bool, true⟩], [], []⟩)
    {W : World} {base : Nat} {args : Array Value} {ds gs : List (DataW H)} {before : List MemPlace}
    (hval : ∀ (j : Nat) t v, fn.params[j]? = some t → args[j]? = some v → Value.okWide P W .any base t v)
    (hW : DataW.Whole enc P fn.params.toList s.vars false W args.toList ds gs before) (hk : uba (ds ++ gs) ≤ 1048576) :
    Calls P f args W fun e W' => ∃ v, e = .returned v ∧ s.post enc P fn false true false false W args v W' := by
  have hW' := hW
  obtain ⟨p, q, hA, hV, rfl, hfz, hnd⟩ := hW
  rw [hvars] at hV
  obtain ⟨rfl, rfl⟩ := trodVars_none hV
  simp only [List.append_nil] at hk hW'
  obtain ⟨dvs, q1, q2, q3, q4⟩ := read_all hu htys hg hA fun j t v hj hv => hval j t v (by simpa using hj) (by simpa using hv)
  have hlen : ds.length = tys.length := by
    have h1 : ∀ {ts : List TypeId} {vs : List Value} {ds : List (DataW H)} {ps : List MemPlace}, DataW.TrodAll enc P W 0 (fun _ => true) true ts vs ds ps → ds.length = ts.length := by
      intro ts
      induction ts with
      | nil => intro vs ds ps h; obtain ⟨_, rfl, _⟩ := trodAll_nil h; rfl
      | cons t ts ih => intro vs ds ps h; obtain ⟨_, _, _, _, _, _, _, rfl, _, _, h2⟩ := trodAll_cons h; simp [ih h2]
    have h2 : ∀ {tys : List Ty} {ts : List TypeId}, All2 (TyOk P) tys ts → tys.length = ts.length := by
      intro tys
      induction tys with
      | nil => intro ts h; cases h; rfl
      | cons t tys ih => intro ts h; cases h with | cons _ h => simp [ih h]
    rw [h1 hA, h2 htys]
  obtain ⟨s1, s2, s3⟩ := hspec ds hlen
  have hlt : ∀ x ∈ p, x.block < W.heap.size := fun x hx => by simpa using hW'.lt x hx
  have hcall := hh dvs q1 q2 (by omega) W (· < W.heap.size) args.toList [] (fun _ h => h) q4 List.nodup_nil (by simp)
  simp only [Array.toArray_toList] at hcall
  refine Calls.mono hcall fun e W2 he => ?_
  obtain ⟨v, I', Ys, Zs, rfl, hO, _, _, _, _, _, hfr, hsz, hos, htp, hout⟩ := he
  have hv : v = .bool true := by
    obtain ⟨cs, h1, h2⟩ := hO
    obtain ⟨_, h3⟩ := h2
    simp only [RepC] at h3
    subst h3
    exact h1
  subst hv
  have hbelow : Below W.heap.size W W2 := ⟨hos, htp, hout, hsz, fun k hk => hfr k hk (by simp)⟩
  refine ⟨_, rfl, ds, [], p, [], p, [], hW', ?_, ?_, ?_, hbelow.frame _, fun h => by cases h⟩
  · rw [hres, List.append_nil, s1]
    exact trodAll_cons_mk (shut_bool hTB _) trodAll_mk0
  · rw [List.append_nil, s2]
    exact args_stay hl hbelow hr hA hlt
  · rw [hvars, List.append_nil, s3]
    exact rfl

end
end Go.Ab
namespace Go.Ab
section
variable {P : Program} {F : Fix} {C : Cx} {w w' : World} {st : St} {lt : List (Nat × LoopD)}

theorem Took.ext' {a b : Took} (h1 : a.own = b.own) (h2 : a.imm = b.imm) : a = b := by cases a; cases b; simp_all

theorem outOne_ok {r : ResultVar} {wt : Want} {x : wt.den} {i : Took} (h : outOne C st r wt = some (x, i)) {rs : List ResultVar} {ws : List Want} {l : List RV} {j : Took} (hr : outOf C st rs ws = some (l, j)) :
    outOf C st (r :: rs) (wt :: ws) = some (wt.rv x :: l, i.app j) := by
  cases wt with
  | v t =>
    simp only [outOne] at h
    split at h
    · rename_i a ha
      simp only [outOf, ha, hr, h, Want.rv]
    · cases h
  | d t =>
    simp only [outOne] at h
    split at h
    · rename_i a ha
      simp only [outOf, ha, hr, h, Want.rv]
    · cases h
  | p t =>
    simp only [outOne] at h
    split at h
    · rename_i id s ha
      split at h
      · rename_i st0 vt b hc
        split at h
        · rename_i y k hy
          cases h
          simp only [outOf, ha, hr, hc, hy, Want.rv]
          refine congrArg some (congrArg (Prod.mk _) (Took.ext' ?_ ?_)) <;> simp [Took.app, app]
        · cases h
      · cases h
    · cases h

theorem Took.app_nil (i : Took) : i.app {} = i := by refine Took.ext' ?_ ?_ <;> simp [Took.app, app_nil']

theorem outT_ok : ∀ {rs : List ResultVar} {ws : List Want} {y : outsDen ws} {k : Took}, outT C st rs ws = some (y, k) → outOf C st rs ws = some (toOuts ws y, k)
  | [], [], y, k, h => by simp only [outT] at h; cases h; rfl
  | [], _ :: _, y, k, h => by simp [outT] at h
  | [r], [w], y, k, h => by
    have h' : outOne C st r w = some (y, k) := h
    have := outOne_ok h' (rs := []) (ws := []) (l := []) (j := {}) rfl
    rw [Took.app_nil] at this
    exact this
  | [_], [], y, k, h => by cases h
  | _ :: _ :: _, [], y, k, h => by cases h
  | [r], w :: u :: ws, y, k, h => by cases h
  | r :: r' :: rs, [w], y, k, h => by cases h
  | r :: r' :: rs, w :: u :: ws, y, k, h => by
    simp only [outT] at h
    split at h
    · rename_i x i y' j h1 h2
      cases h
      exact outOne_ok h1 (outT_ok h2)
    · cases h

theorem toArgs_cons (p : PT) (l : List PT) (x : argsDen (p :: l)) : ∃ (a : p.den) (as : argsDen l), toArgs (p :: l) x = p.arg a :: toArgs l as := by
  cases l with
  | nil => exact ⟨x, (), rfl⟩
  | cons q l => exact ⟨x.1, x.2, rfl⟩

theorem updT_ok : ∀ {ps : List PT} {s : Nat} {xs : argsDen ps} {u : updsDen ps} {k : Took}, updT st s ps (toArgs ps xs) = some (u, k) → updOf st s (toArgs ps xs) = some (toUpds ps u, k)
  | [], s, xs, u, k, h => by simp only [updT] at h; cases h; rfl
  | .v t :: l, s, xs, u, k, h => by
    obtain ⟨a, as, e⟩ := toArgs_cons (.v t) l xs
    rw [e] at h ⊢
    exact updT_ok (ps := l) h
  | .k t :: l, s, xs, u, k, h => by
    obtain ⟨a, as, e⟩ := toArgs_cons (.k t) l xs
    rw [e] at h ⊢
    exact updT_ok (ps := l) h
  | .f g t :: l, s, xs, u, k, h => by
    obtain ⟨a, as, e⟩ := toArgs_cons (.f g t) l xs
    rw [e] at h ⊢
    exact updT_ok (ps := l) h
  | .d t :: l, s, xs, u, k, h => by
    obtain ⟨a, as, e⟩ := toArgs_cons (.d t) l xs
    rw [e] at h ⊢
    simp only [PT.arg, updT] at h
    split at h
    · rename_i x0 hx0
      have := as_some hx0
      cases this
      split at h
      · rename_i x i e r ids hx hrest
        cases h
        have := updT_ok (ps := l) (xs := as) hrest
        simp only [PT.arg, updOf, hx, this, toUpds]
      · cases h
    · cases h
  | .p t :: l, s, xs, u, k, h => by
    obtain ⟨a, as, e⟩ := toArgs_cons (.p t) l xs
    rw [e] at h ⊢
    simp only [updT] at h
    split at h
    · rename_i vt b r ids hb hrest
      split at h
      · rename_i x i hx
        cases h
        have := updT_ok (ps := l) (xs := as) hrest
        simp only [PT.arg, updOf, hb, this, hx, toUpds]
      · cases h
    · cases h
  | .m t :: l, s, xs, u, k, h => by
    obtain ⟨a, as, e⟩ := toArgs_cons (.m t) l xs
    rw [e] at h ⊢
    simp only [updT] at h
    split at h
    · rename_i ys r ids hb hrest
      cases h
      have := updT_ok (ps := l) (xs := as) hrest
      simp only [PT.arg, updOf, hb, this, toUpds]
    · cases h

theorem evT_ok {fn : Func} {f : FuncId} {ps : List PT} {ws : List Want} {xs : argsDen ps} {y : outsDen ws × updsDen ps} {ok : List Bool} (hm : P.follows .mixedOrders = true) (hC : CxOk P C) (hF : FnOk P C)
    (hf : P.funcs[f]? = some fn) (hlo : ∀ c, fn.body = some c → LoopsOk C lt c) (hev : evT C lt fn ps ws xs = some y) : Holds P f (toArgs ps xs) ⟨toOuts ws y.1, toUpds ps y.2, ok⟩ := by
  unfold evT at hev
  split at hev
  · cases hev
  · rename_i c hbody
    obtain ⟨hb, hev⟩ := bif_some hev
    simp only [Bool.and_eq_true, nodup_spec, mapL_eq] at hb
    obtain ⟨⟨⟨⟨hco, hlen⟩, hlen50⟩, hws⟩, hnd⟩ := hb
    rw [argsSt_eq] at hev hnd
    simp only [app] at hev hnd
    refine evK_ok hm hC hF hf hbody (hlo c hbody) hco (Nat.le_of_ble_eq_true hlen) (Nat.le_of_ble_eq_true hlen50) (Nat.le_of_ble_eq_true hws) hnd hev fun e st he => ?_
    have hfin : (∀ i, e ≠ .exit i) ∧ finT C fn ps (toArgs ps xs) ws st = some y := by
      cases e with
      | norm => exact ⟨(by intro i h; cases h), he⟩
      | ret => exact ⟨(by intro i h; cases h), he⟩
      | exit i => cases he
    refine ⟨hfin.1, ?_⟩
    have h2 := hfin.2
    unfold finT at h2
    split at h2
    · rename_i o i u j ho hu
      obtain ⟨q1, q2⟩ := bif_some h2
      obtain ⟨q3, q4⟩ := bif_some q2
      cases q4
      unfold finish
      simp only [outT_ok ho, updT_ok (xs := xs) hu, q1, q3, cond_true]
    · cases h2

/-- a contract holds -/
def ConOk (P : Program) (c : Con) : Prop := ∀ xs y, c.fn xs = some y → ∀ ok, Holds P c.id (toArgs c.ps xs) ⟨toOuts c.ws y.1, toUpds c.ps y.2, ok⟩

theorem PT.of_ok {p : PT} {a : Arg} {x : p.den} (h : p.of a = some x) : a = p.arg x := by
  cases p with
  | v t => cases a <;> first | (simp only [PT.of] at h; rw [as_some h]; rfl) | cases h
  | k t => cases a <;> first | (simp only [PT.of] at h; rw [as_some h]; rfl) | cases h
  | p t => cases a <;> first | (simp only [PT.of] at h; rw [as_some h]; rfl) | cases h
  | d t => cases a <;> first | (simp only [PT.of] at h; rw [as_some h]; rfl) | cases h
  | m t =>
    cases a with
    | m u ys =>
      simp only [PT.of] at h
      have := as_some h
      cases this
      rfl
    | _ => cases h
  | f g t =>
    cases a with
    | f g' d =>
      simp only [PT.of] at h
      obtain ⟨h1, h2⟩ := bif_some h
      rw [as_some h2, Nat.eq_of_beq_eq_true h1]
      rfl
    | _ => cases h

theorem ofArgs_ok : ∀ {ps : List PT} {as : List Arg} {xs : argsDen ps}, ofArgs ps as = some xs → as = toArgs ps xs
  | [], [], xs, _ => rfl
  | [], _ :: _, xs, h => by cases h
  | [p], [a], xs, h => by
    have := PT.of_ok (p := p) (a := a) (x := xs) h
    rw [this]
    rfl
  | [_], [], xs, h => by cases h
  | _ :: _ :: _, [], xs, h => by cases h
  | [p], _ :: _ :: _, xs, h => by cases h
  | p :: q :: l, [a], xs, h => by
    simp only [ofArgs] at h
    split at h
    · rename_i x y h1 h2; cases h2
    · cases h
  | p :: q :: l, a :: b :: as, xs, h => by
    simp only [ofArgs] at h
    split at h
    · rename_i x y h1 h2
      cases h
      rw [PT.of_ok h1]
      have := ofArgs_ok (ps := q :: l) (as := b :: as) h2
      rw [this]
      rfl
    · cases h

def fnB (P : Program) (f : FuncId) : Bool := match P.funcs[f]? with
  | some fn => !(fn.name == "runtime.NumGoroutine") && fn.body.isSome
  | none => false

theorem enters {f : FuncId} (h : fnB P f = true) (args : Array Value) (w : World) : (callFunc f args).run P w = .ok (.enter f args) w := by
  unfold fnB at h
  split at h
  · rename_i fn hf
    simp only [Bool.and_eq_true, Bool.not_eq_true'] at h
    have hb : fn.body ≠ none := by
      intro hh
      simp [hh] at h
    have hn : ¬ fn.name = "runtime.NumGoroutine" := by simpa using h.1
    simp [callFunc, hf, hn, hb]
  · cases h

theorem FnOk.nil (tab : List (Nat × TI)) (dp : Bool := false) : FnOk P ⟨tab, [], dp⟩ := ⟨fun f modes den h => by simp [find] at h⟩

theorem FnOk.dp {C : Cx} (h : FnOk P C) (b : Bool) : FnOk P ⟨C.tab, C.fns, b⟩ := ⟨h.fns⟩

theorem FnOk.cons {tab : List (Nat × TI)} {fns : List (Nat × List Mode × (List Arg → Option Res))} {dp : Bool} (h : FnOk P ⟨tab, fns, dp⟩) (c : Con) (he : fnB P c.id = true) (hv : ∀ x y, c.fn x = some y → c.val x = y) (hc : ConOk P c) : FnOk P ⟨tab, c.entry :: fns, dp⟩ := by
  refine ⟨fun f modes den hf => ?_⟩
  simp only [Con.entry, find_cons] at hf
  split at hf
  · rename_i e
    cases hf
    subst e
    refine ⟨enters he, fun args r hr hok => ?_⟩
    simp only [Option.map_eq_some_iff] at hr
    obtain ⟨xs, hx, e⟩ := hr
    have := ofArgs_ok hx
    subst this e
    have hs := hok (isSm (c.fn xs)) (by simp [Con.res])
    cases hy : c.fn xs with
    | none => rw [hy] at hs; cases hs
    | some y =>
      unfold Con.res
      rw [hv xs y hy]
      exact hc xs y hy _
  · exact h.fns f modes den hf

/-! ### loops -/
def loopsIn : Code → List Code
  | .seq a b => app (loopsIn a) (loopsIn b)
  | .cond _ a b => app (loopsIn a) (loopsIn b)
  | .block _ c => loopsIn c
  | .scope c => loopsIn c
  | .loop c => c :: loopsIn c
  | _ => []

def LoopFact (C : Cx) (lt : List (Nat × LoopD)) (c : Code) : Prop := ∀ L, find lt (firstReg c) = some L → ∀ x, L.dom x = true → Comes (round C lt c L) x (L.val x)

theorem LoopsOk.of : ∀ {c : Code}, (∀ b ∈ loopsIn c, LoopFact C lt b) → LoopsOk C lt c := by
  intro c
  induction c with
  | seq a b iha ihb => intro h; exact ⟨iha fun x hx => h x (mem_app.2 (.inl hx)), ihb fun x hx => h x (mem_app.2 (.inr hx))⟩
  | cond _ a b iha ihb => intro h; exact ⟨iha fun x hx => h x (mem_app.2 (.inl hx)), ihb fun x hx => h x (mem_app.2 (.inr hx))⟩
  | block _ c ih => intro h; exact ih h
  | scope c ih => intro h; exact ih h
  | loop c ih => intro h; exact ⟨ih fun x hx => h x (List.mem_cons_of_mem _ hx), h c (by simp [loopsIn])⟩
  | _ => intro _; trivial

def bodyOf (fn : Func) : Code := match fn.body with
  | some c => c
  | none => .skip
def nthLoop (fn : Func) (k : Nat) : Code := match nthL (loopsIn (bodyOf fn)) k with
  | some c => c
  | none => .skip

/-- each loop of the function, in order -/
def LoopsL (C : Cx) (lt : List (Nat × LoopD)) (fn : Func) : Nat → List LoopD → Prop
  | k, [] => Nat.beq (loopsIn (bodyOf fn)).length k = true
  | k, L :: l => ((find lt (firstReg (nthLoop fn k)) = some L ∧ ∀ x, L.dom x = true → Comes (round C lt (nthLoop fn k) L) x (L.val x)) ∨ find lt (firstReg (nthLoop fn k)) = none) ∧ LoopsL C lt fn (k + 1) l

theorem loopsL_nil {fn : Func} {k : Nat} (h : Nat.beq (loopsIn (bodyOf fn)).length k = true) : LoopsL C lt fn k [] := h
theorem loopsL_cons {fn : Func} {k : Nat} {L : LoopD} {l : List LoopD} (h1 : find lt (firstReg (nthLoop fn k)) = some L) (h2 : ∀ x, L.dom x = true → Comes (round C lt (nthLoop fn k) L) x (L.val x)) (h3 : LoopsL C lt fn (k + 1) l) :
    LoopsL C lt fn k (L :: l) := ⟨.inl ⟨h1, h2⟩, h3⟩
theorem loopsL_skip {fn : Func} {k : Nat} {L : LoopD} {l : List LoopD} (h1 : (find lt (firstReg (nthLoop fn k))).isSome = false) (h3 : LoopsL C lt fn (k + 1) l) : LoopsL C lt fn k (L :: l) :=
  ⟨.inr (by cases h : find lt (firstReg (nthLoop fn k)) with | none => rfl | some _ => rw [h] at h1; cases h1), h3⟩

theorem loops_of {fn : Func} {Ls : List LoopD} (h : LoopsL C lt fn 0 Ls) : ∀ c, fn.body = some c → LoopsOk C lt c := by
  intro c hc
  have hb : bodyOf fn = c := by unfold bodyOf; rw [hc]
  refine LoopsOk.of fun b hb' => ?_
  have main : ∀ (Ls : List LoopD) (k : Nat), LoopsL C lt fn k Ls → ∀ j, k ≤ j → (loopsIn (bodyOf fn))[j]? = some b → LoopFact C lt b := by
    intro Ls
    induction Ls with
    | nil =>
      intro k h j hj hg
      have := Nat.eq_of_beq_eq_true h
      have := (List.getElem?_eq_some_iff.1 hg).1
      omega
    | cons L Ls ih =>
      intro k h j hj hg
      by_cases e : j = k
      · subst e
        have hn : nthLoop fn j = b := by unfold nthLoop; rw [nthL_eq, hg]
        obtain ⟨h, _⟩ := h
        rw [hn] at h
        intro L' hL'
        rcases h with ⟨h1, h2⟩ | h
        · rw [h1] at hL'
          cases hL'
          exact h2
        · rw [h] at hL'; cases hL'
      · exact ih (k + 1) h.2 j (by omega) hg
  obtain ⟨j, hj⟩ := List.getElem?_of_mem hb'
  exact main Ls 0 h j (Nat.zero_le _) (by rw [hb]; exact hj)

theorem loopD_ok {c : Code} {sh : Sh} {ex : Exits} {y0 : ex.den} {r : sh.den → Option (sh.den ⊕ ex.den)} (h : ∀ x, round C lt c (loopD sh ex y0 r) x = r x) :
    ∀ x, (loopD sh ex y0 r).dom x = true → Comes (round C lt c (loopD sh ex y0 r)) x ((loopD sh ex y0 r).val x) := by
  have e : round C lt c (loopD sh ex y0 r) = r := funext h
  intro x hx
  rw [e]
  simp only [loopD, comesB] at hx
  have hd : CDom r x := @of_decide_eq_true _ (Classical.propDecidable _) hx
  show Comes r x (comesV r y0 x)
  unfold comesV
  rw [dif_pos hd]
  exact Classical.choose_spec hd

theorem Comes.det {X Y : Type} {r : X → Option (X ⊕ Y)} {x : X} {y z : Y} (h : Comes r x y) (h' : Comes r x z) : y = z := by
  induction h with
  | out h1 =>
    cases h' with
    | out h2 => rw [h1] at h2; cases h2; rfl
    | again h2 _ => rw [h1] at h2; cases h2
  | again h1 _ ih =>
    cases h' with
    | out h2 => rw [h1] at h2; cases h2
    | again h2 h3 => rw [h1] at h2; cases h2; exact ih h3

/-- what a loop comes to -/
theorem Comes.is {X Y : Type} {r : X → Option (X ⊕ Y)} {x : X} {y y0 : Y} (h : Comes r x y) : comesB r x = true ∧ comesV r y0 x = y := by
  have hd : CDom r x := ⟨y, h⟩
  refine ⟨by unfold comesB; exact @decide_eq_true _ (Classical.propDecidable _) hd, ?_⟩
  unfold comesV
  rw [dif_pos hd]
  exact (Classical.choose_spec hd).det h

/-- a function's contract, from its evaluation -/
theorem con_ok {fn : Func} {c : Con} {Ls : List LoopD} (hm : P.follows .mixedOrders = true) (hC : CxOk P C) (hF : FnOk P C) (hf : P.funcs[c.id]? = some fn) (hlo : LoopsL C lt fn 0 Ls)
    (hev : ∀ xs, evT C lt fn c.ps c.ws xs = c.fn xs) : ConOk P c :=
  fun xs _ hy _ => evT_ok hm hC hF hf (loops_of hlo) ((hev xs).trans hy)

end

/-! ### the table of types -/
section
variable {P : Program}
def zcB : Ty → List Value → Option (List Value)
  | .unit, l => some l
  | .bool, .bool false :: l => some l
  | .int k, .int k' 0 :: l => bif kindIs k k' then some l else none
  | .str, .string ⟨⟨[]⟩⟩ :: l => some l
  | .lst _, .slice none 0 0 :: l => some l
  | .own _, .slice none 0 0 :: l => some l
  | .pair a b, l => match zcB a l with | some l' => zcB b l' | none => none
  | .arr n t, l => iterZ (zcB t) n l
  | .ref _, .pointer none :: l => some l
  | _, _ => none
where
  iterZ (f : List Value → Option (List Value)) : Nat → List Value → Option (List Value)
    | 0, l => some l
    | n + 1, l => match f l with | some l' => iterZ f n l' | none => none

theorem zcB_ok : ∀ {t : Ty} {l r : List Value}, zcB t l = some r → l = zcells t ++ r := by
  intro t
  induction t with
  | unit => intro l r h; simp only [zcB, Option.some.injEq] at h; simp [zcells, h]
  | pair a b iha ihb =>
    intro l r h
    simp only [zcB] at h
    split at h
    · rename_i l' h1
      rw [iha h1, ihb h]
      simp [zcells]
    · cases h
  | arr n t ih =>
    intro l r h
    simp only [zcB] at h
    have main : ∀ (n : Nat) {l r : List Value}, zcB.iterZ (zcB t) n l = some r → l = (List.replicate n (zcells t)).flatten ++ r := by
      intro n
      induction n with
      | zero => intro l r h; simp only [zcB.iterZ, Option.some.injEq] at h; simp [h]
      | succ n ihn =>
        intro l r h
        simp only [zcB.iterZ] at h
        split at h
        · rename_i l' h1
          rw [ih h1, ihn h]
          simp [List.replicate_succ]
        · cases h
    exact main n h
  | bool => intro l r h; unfold zcB at h; split at h <;> simp_all [zcells]
  | int k =>
    intro l r h
    unfold zcB at h
    split at h <;> first | (cases h; done) | skip
    all_goals simp_all
    obtain ⟨e1, e2⟩ := bif_some h
    have := kindIs_eq e1
    cases e2
    simp_all [zcells]
  | str => intro l r h; unfold zcB at h; split at h <;> simp_all [zcells]
  | lst t _ => intro l r h; unfold zcB at h; split at h <;> simp_all [zcells]
  | own t _ => intro l r h; unfold zcB at h; split at h <;> simp_all [zcells]
  | ref t _ => intro l r h; unfold zcB at h; split at h <;> simp_all [zcells]

end
end Go.Ab
namespace Go.Ab
section
variable {P : Program}

def zeroB (t : Ty) : Value → Bool
  | .agg cs => t.isAgg && (match zcB t cs.toList with | some [] => true | _ => false)
  | v => !t.isAgg && (match zcB t [v] with | some [] => true | _ => false)

theorem zeroB_ok {t : Ty} {v : Value} (h : zeroB t v = true) : v = packV t (zcells t) := by
  have one : ∀ v : Value, (!t.isAgg && (match zcB t [v] with | some [] => true | _ => false)) = true → v = packV t (zcells t) := by
    intro v h
    simp only [Bool.and_eq_true, Bool.not_eq_true'] at h
    obtain ⟨h1, h2⟩ := h
    split at h2
    · rename_i hz
      have := zcB_ok hz
      rw [List.append_nil] at this
      simp [packV, h1, ← this]
    · cases h2
  unfold zeroB at h
  split at h
  · rename_i cs
    simp only [Bool.and_eq_true] at h
    obtain ⟨h1, h2⟩ := h
    split at h2
    · rename_i hz
      have := zcB_ok hz
      rw [List.append_nil] at this
      simp [packV, h1, ← this]
    · cases h2
  · exact one v h

def infoB (P : Program) (t : Ty) (T : TypeId) : Bool := match P.info? T with
  | some i => Nat.beq i.size t.size && (match i.zero with | some z => zeroB t z | none => false) && Nat.ble i.bytes 4096
  | none => false

theorem infoB_ok {t : Ty} {T : TypeId} (h : infoB P t T = true) : InfoOk P t T := by
  unfold infoB at h
  split at h
  · rename_i i hi
    simp only [Bool.and_eq_true] at h
    obtain ⟨⟨h1, h2⟩, h3⟩ := h
    split at h2
    · rename_i z hz
      exact ⟨i, hi, Nat.eq_of_beq_eq_true h1, by rw [hz, zeroB_ok h2], Nat.le_of_ble_eq_true h3⟩
    · cases h2
  · cases h

def tyB (P : Program) : Ty → (TypeId → Bool) × (List Field → Nat → Bool)
  | .unit => (fun T => infoB P .unit T && (match P.underlying T with | some (.struct fs) => fs.toList.isEmpty | _ => false), fun fs _ => fs.isEmpty)
  | .bool => (fun T => infoB P .bool T && (match P.underlying T with | some .bool => true | _ => false), fun _ _ => false)
  | .int k => (fun T => infoB P (.int k) T && (match P.underlying T with | some (.int k') => kindIs k' k | _ => false), fun _ _ => false)
  | .str => (fun T => infoB P .str T && (match P.underlying T with | some .string => true | _ => false), fun _ _ => false)
  | .lst t => (fun T => infoB P (.lst t) T && (match P.underlying T with | some (.slice E) => Nat.ble 1 t.size && (tyB P t).1 E | _ => false), fun _ _ => false)
  | .own _ => (fun _ => false, fun _ _ => false)
  | .pair a b => (fun T => infoB P (.pair a b) T && (match P.underlying T with
      | some (.struct fs) => (match fs.toList with
        | f :: l => Nat.beq f.offset 0 && (tyB P a).1 f.type && (tyB P b).2 l a.size
        | [] => false)
      | _ => false),
    fun fs off => match fs with
      | f :: l => Nat.beq f.offset off && (tyB P a).1 f.type && (tyB P b).2 l (off + a.size)
      | [] => false)
  | .arr n t => (fun T => infoB P (.arr n t) T && (match P.underlying T with | some (.array n' E) => Nat.beq n n' && Nat.ble 2 n && (match t with | .int _ => true | _ => false) && (tyB P t).1 E | _ => false), fun _ _ => false)
  | .ref t => (fun T => infoB P (.ref t) T && (match P.underlying T with | some (.pointer _) => true | _ => false), fun _ _ => false)

theorem tyB_ok : ∀ {t : Ty}, (∀ T, (tyB P t).1 T = true → (TO P t).1 T) ∧ (∀ fs off, (tyB P t).2 fs off = true → (TO P t).2 fs off) := by
  intro t
  induction t with
  | unit =>
    refine ⟨fun T h => ?_, fun fs off h => by simpa [tyB, TO] using h⟩
    simp only [tyB, Bool.and_eq_true] at h
    obtain ⟨h1, h2⟩ := h
    split at h2
    · rename_i fs hf
      exact ⟨infoB_ok h1, fs, hf, by simpa using h2⟩
    · cases h2
  | bool =>
    refine ⟨fun T h => ?_, fun fs off h => by simp [tyB] at h⟩
    simp only [tyB, Bool.and_eq_true] at h
    obtain ⟨h1, h2⟩ := h
    split at h2
    · rename_i hf; exact ⟨infoB_ok h1, hf⟩
    · cases h2
  | int k =>
    refine ⟨fun T h => ?_, fun fs off h => by simp [tyB] at h⟩
    simp only [tyB, Bool.and_eq_true] at h
    obtain ⟨h1, h2⟩ := h
    split at h2
    · rename_i k' hf; rw [kindIs_eq h2] at hf; exact ⟨infoB_ok h1, hf⟩
    · cases h2
  | str =>
    refine ⟨fun T h => ?_, fun fs off h => by simp [tyB] at h⟩
    simp only [tyB, Bool.and_eq_true] at h
    obtain ⟨h1, h2⟩ := h
    split at h2
    · rename_i hf; exact ⟨infoB_ok h1, hf⟩
    · cases h2
  | lst t ih =>
    refine ⟨fun T h => ?_, fun fs off h => by simp [tyB] at h⟩
    simp only [tyB, Bool.and_eq_true] at h
    obtain ⟨h1, h2⟩ := h
    split at h2
    · rename_i E hf
      simp only [Bool.and_eq_true] at h2
      exact ⟨infoB_ok h1, E, hf, Nat.le_of_ble_eq_true h2.1, ih.1 E h2.2⟩
    · cases h2
  | own t _ => exact ⟨fun T h => by simp [tyB] at h, fun fs off h => by simp [tyB] at h⟩
  | pair a b iha ihb =>
    refine ⟨fun T h => ?_, fun fs off h => ?_⟩
    · simp only [tyB, Bool.and_eq_true] at h
      obtain ⟨h1, h2⟩ := h
      split at h2
      · rename_i fs hf
        split at h2
        · rename_i f l hfl
          simp only [Bool.and_eq_true] at h2
          exact ⟨infoB_ok h1, fs, hf, f, l, hfl, Nat.eq_of_beq_eq_true h2.1.1, iha.1 _ h2.1.2, ihb.2 _ _ h2.2⟩
        · cases h2
      · cases h2
    · simp only [tyB] at h
      split at h
      · rename_i f l
        simp only [Bool.and_eq_true] at h
        exact ⟨f, l, rfl, Nat.eq_of_beq_eq_true h.1.1, iha.1 _ h.1.2, ihb.2 _ _ h.2⟩
      · cases h
  | arr n t ih =>
    refine ⟨fun T h => ?_, fun fs off h => by simp [tyB] at h⟩
    simp only [tyB, Bool.and_eq_true] at h
    obtain ⟨h1, h2⟩ := h
    split at h2
    · rename_i n' E hf
      simp only [Bool.and_eq_true] at h2
      obtain ⟨⟨⟨q1, q2⟩, q3⟩, q4⟩ := h2
      have := Nat.eq_of_beq_eq_true q1
      subst this
      refine ⟨infoB_ok h1, E, hf, Nat.le_of_ble_eq_true q2, ?_, ih.1 E q4⟩
      split at q3
      · exact ⟨_, rfl⟩
      · cases q3
    · cases h2
  | ref t _ =>
    refine ⟨fun T h => ?_, fun fs off h => by simp [tyB] at h⟩
    simp only [tyB, Bool.and_eq_true] at h
    obtain ⟨h1, h2⟩ := h
    split at h2
    · rename_i E hf; exact ⟨infoB_ok h1, E, hf⟩
    · cases h2

theorem cxOk_of {C : Cx} (h : allL (fun x => (tyB P x.2.t).1 x.1) C.tab = true) : CxOk P C := by
  refine ⟨fun T ti hf => ?_⟩
  exact tyB_ok.1 T (allL_mem h _ (find_mem hf))

theorem tys_of {tys : List Ty} {ts : List TypeId} (h : tys.length = ts.length) (hh : allL (fun x => (tyB P x.1).1 x.2) (tys.zip ts) = true) : All2 (TyOk P) tys ts := by
  induction tys generalizing ts with
  | nil => cases ts with
    | nil => exact .nil
    | cons _ _ => simp at h
  | cons t tys ih =>
    cases ts with
    | nil => simp at h
    | cons T ts =>
      simp only [List.zip_cons_cons, allL, Bool.and_eq_true] at hh
      exact .cons (tyB_ok.1 T hh.1) (ih (by simpa using h) hh.2)

end
end Go.Ab
