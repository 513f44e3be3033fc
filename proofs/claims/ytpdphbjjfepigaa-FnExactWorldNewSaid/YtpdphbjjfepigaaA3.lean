import Derived.Test.YtpdphbjjfepigaaA2
import Derived.Scope
namespace Go.Ab
section
variable {P : Program} {F : Fix} {C : Cx} {o : Oper} {a : Act} {w w' : World} {m : MF} {I I' : Nat → Prop} {ρ : Pl} {d : Did}

theorem find_killed (m : MF) (i : Nat) : ∀ ids : List Nat, find (killed m ids) i = if i ∈ ids then (m i).map (fun b => ⟨b.st + 1, false, .dead⟩) else none
  | [] => by simp [killed, fmapL, find]
  | j :: l => by
    have ih := find_killed m i l
    unfold killed at ih ⊢
    simp only [fmapL]
    cases hm : m j with
    | none =>
      simp only [Option.map_none, ih]
      by_cases hij : i = j
      · subst hij; simp [hm]
      · simp [hij]
    | some b =>
      simp only [Option.map_some, find_cons, ih]
      by_cases hij : i = j
      · subst hij; simp [hm]
      · have : ¬ j = i := fun e => hij e.symm
        simp [hij, this]

/-- the world behind a call -/
theorem Done.called {ke ki le Bs Ws : List Nat} {L : List (Nat × Blk)} {pl : Pl} (hm : MemR F m w I ρ) (hle : ∀ i ∈ le, ¬ i ∈ ke ++ ki)
    (hBs : ∀ B ∈ Bs, ∃ id ∈ ke ++ ki, Mine m ρ id B) (hnew : New w' I' L Ws pl)
    (hst : ∀ i b, find L i = some b → b.st = newSt m i ∨ (i ∈ ke ∧ Stays m ρ w w' pl i b)) (hke : ∀ i ∈ ke, ∃ b, find L i = some b)
    (hW : ∀ B ∈ Ws, ((∃ id ∈ ke ++ ki, Mine m ρ id B) ∨ w.heap.size ≤ B) ∧ ¬ I' B) (hIa : ∀ B, Ifrz m ρ I le B → I' B) (hIs : ∀ B, I B → w'.heap[B]? = w.heap[B]?)
    (hIb : ∀ B, I' B → B < w'.heap.size ∧ (Ifrz m ρ I le B ∨ w.heap.size ≤ B ∨ ∃ id ∈ ke ++ ki, Mine m ρ id B)) (hframe : ∀ B, B < w.heap.size → ¬ B ∈ Bs → w'.heap[B]? = w.heap[B]?)
    (hsize : w.heap.size ≤ w'.heap.size) (hos : w'.os = w.os) (htape : w'.tape = w.tape) (hout : w'.output = w.output) :
    Done F m (m.upd (app L (app (killed m ki) (frz m le)))) w w' I I' ρ (plApp L pl ρ) ∧ Fits L pl (m.upd (app L (app (killed m ki) (frz m le)))) (plApp L pl ρ) := by
  have hval : ∀ i, m.upd (app L (app (killed m ki) (frz m le))) i = match find L i with
      | some b => some b
      | none => if i ∈ ki then (m i).map (fun b => ⟨b.st + 1, false, .dead⟩) else if i ∈ le then (m i).map Blk.frz else m i := by
    intro i
    unfold MF.upd
    rw [find_app, find_app, find_killed, find_frz]
    cases find L i with
    | some b => rfl
    | none =>
      by_cases h1 : i ∈ ki
      · simp only [h1, if_true]
        cases m i with
        | none => by_cases h2 : i ∈ le <;> simp [h2]
        | some b => rfl
      · by_cases h2 : i ∈ le
        · simp only [h1, h2, if_true, if_false]
          cases m i <;> rfl
        · simp [h1, h2]
  have hfit : Fits L pl (m.upd (app L (app (killed m ki) (frz m le)))) (plApp L pl ρ) := by
    intro j c hc
    exact ⟨by rw [hval, hc], (plApp_some hc).1, (plApp_some hc).2⟩
  refine ⟨?_, hfit⟩
  have ha : Agree I I' w w' := ⟨fun B h => hIa B (.inl h), hIs⟩
  -- a block outside of the call
  have hold : ∀ i b B, find L i = none → ¬ i ∈ ki → m i = some b → b.live → Owns ρ i b B → w'.heap[B]? = w.heap[B]? ∧ B < w.heap.size ∧ ¬ ∃ id ∈ ke ++ ki, Mine m ρ id B := by
    intro i b B h1 h2 h3 h4 h5
    have hlt : B < w.heap.size := by
      rcases h5 with ⟨o, h5⟩ | ⟨h5, h6⟩
      · exact hm.lt h3 h4 h5
      · exact (hm.dlt h3 h5 h6).1
    have hno : ¬ ∃ id ∈ ke ++ ki, Mine m ρ id B := by
      rintro ⟨j, hj, b', k1, k2, _, k3⟩
      have := hm.owns h3 h4 h5 k1 k2 k3
      subst this
      rcases List.mem_append.1 hj with hj | hj
      · obtain ⟨c, hc⟩ := hke i hj
        rw [h1] at hc; cases hc
      · exact h2 hj
    exact ⟨hframe B hlt fun hB => hno (hBs B hB), hlt, hno⟩
  have hk : Keeps m (m.upd (app L (app (killed m ki) (frz m le)))) ρ (plApp L pl ρ) w w' := by
    refine ⟨fun i b hb => ?_, fun i b b' rs t u xs ys hb hb' hs hc hc' B o' hr => ?_⟩
    · rw [hval]
      cases hf : find L i with
      | some c =>
        refine ⟨c, rfl, ?_⟩
        rcases hst i c hf with h | ⟨_, b0, h1, h2, h3, h4, h5, h6, _⟩
        · left
          rw [h]
          exact newSt_lt hb
        · rw [hb] at h1
          cases h1
          exact .inr ⟨h3, h4, (plApp_some hf).1.trans h5, fun _ B o' hr cs hc => h6 B o' cs hr hc⟩
      | none =>
        simp only
        by_cases h1 : i ∈ ki
        · exact ⟨_, by simp only [h1, if_true, hb]; rfl, .inl (Nat.lt_succ_self _)⟩
        · have hpl : plApp L pl ρ i = ρ i := (plApp_none hf).1
          have hcells : b.live → ∀ B o', ρ i = some (B, o') → ∀ cs, Cells w B cs → ∃ cs', Cells w' B cs' ∧ cs.length ≤ cs'.length :=
            fun hl B o' hr cs hc => ⟨cs, hc.of_same (hold i b B hf h1 hb hl (.inl ⟨o', hr⟩)).1, Nat.le_refl _⟩
          by_cases h2 : i ∈ le
          · rcases b.frz_c with ⟨_, hz⟩ | ⟨_, hz⟩
            · exact ⟨b.frz, by simp only [h1, h2, if_true, if_false, hb]; rfl, .inl (by rw [hz]; exact Nat.lt_succ_self _)⟩
            · exact ⟨b.frz, by simp only [h1, h2, if_true, if_false, hb]; rfl, .inr ⟨by rw [hz], by rw [hz]; exact SameSh.refl _, hpl, hcells⟩⟩
          · exact ⟨b, by simp only [h1, h2, if_false, hb], .inr ⟨rfl, SameSh.refl _, hpl, hcells⟩⟩
    · rw [hval] at hb'
      cases hf : find L i with
      | some c =>
        rw [hf] at hb'
        cases hb'
        rcases hst i _ hf with h | ⟨_, b0, h1, h2, h3, h4, h5, h6, h7⟩
        · have := newSt_lt hb
          omega
        · rw [hb] at h1
          cases h1
          exact h7 rs t u xs ys hc hc' B o' hr
      | none =>
        rw [hf] at hb'
        simp only at hb'
        by_cases h1 : i ∈ ki
        · simp only [h1, if_true, hb, Option.map_some, Option.some.injEq] at hb'
          subst hb'
          cases hc'
        · exact (hold i b B hf h1 hb (deep_live (by unfold Blk.isDeep; rw [hc]; trivial)) (.inl ⟨o', hr⟩)).1
  -- what is live behind
  have hlive : ∀ i b, m.upd (app L (app (killed m ki) (frz m le))) i = some b → b.live → (find L i = some b ∧ plApp L pl ρ i = pl i ∧ (plApp L pl ρ).d i = pl.d i) ∨
      (find L i = none ∧ ¬ i ∈ ki ∧ plApp L pl ρ i = ρ i ∧ (plApp L pl ρ).d i = ρ.d i ∧ ∃ b0, m i = some b0 ∧ b0.live ∧ b0.c = b.c ∧ (i ∈ le ∧ b.fz = true ∧ ¬ b0.isDeep ∨ ¬ i ∈ le ∧ b0 = b)) := by
    intro i b hb hl
    rw [hval] at hb
    cases hf : find L i with
    | some c =>
      rw [hf] at hb
      cases hb
      exact .inl ⟨rfl, plApp_some hf⟩
    | none =>
      rw [hf] at hb
      simp only at hb
      by_cases h1 : i ∈ ki
      · simp only [h1, if_true, Option.map_eq_some_iff] at hb
        obtain ⟨b0, _, rfl⟩ := hb
        simp [Blk.live] at hl
      · refine .inr ⟨rfl, h1, (plApp_none hf).1, (plApp_none hf).2, ?_⟩
        by_cases h2 : i ∈ le
        · simp only [h1, h2, if_true, if_false, Option.map_eq_some_iff] at hb
          obtain ⟨b0, h3, rfl⟩ := hb
          rcases b0.frz_c with ⟨_, hz⟩ | ⟨hd, hz⟩
          · rw [hz] at hl; simp [Blk.live] at hl
          · rw [hz] at hl
            exact ⟨b0, h3, hl, by rw [hz], .inl ⟨h2, by rw [hz], hd⟩⟩
        · simp only [h1, h2, if_false] at hb
          exact ⟨b, hb, hl, rfl, .inr ⟨h2, rfl⟩⟩
  have own1 : ∀ {i : Nat} {b : Blk} {B : Nat}, plApp L pl ρ i = pl i ∧ (plApp L pl ρ).d i = pl.d i → Owns (plApp L pl ρ) i b B → Owns pl i b B := by
    intro i b B e h
    exact h.imp (fun ⟨o, h⟩ => ⟨o, e.1 ▸ h⟩) (fun ⟨h1, h2⟩ => ⟨h1, e.2 ▸ h2⟩)
  have own2 : ∀ {i : Nat} {b b0 : Blk} {B : Nat}, plApp L pl ρ i = ρ i → (plApp L pl ρ).d i = ρ.d i → b0.c = b.c → Owns (plApp L pl ρ) i b B → Owns ρ i b0 B := by
    intro i b b0 B e1 e2 hc h
    exact h.imp (fun ⟨o, h⟩ => ⟨o, e1 ▸ h⟩) (fun ⟨h1, h2⟩ => ⟨by unfold Blk.isDeep at *; rw [hc]; exact h1, e2 ▸ h2⟩)
  have cross : ∀ {i j : Nat} {b c : Blk} {B : Nat}, find L i = some b → Owns pl i b B → find L j = none → ¬ j ∈ ki → m j = some c → c.live → Owns ρ j c B → False := by
    intro i j b c B e1 e2 e4 e5 e7 e8 e9
    obtain ⟨_, k2, k3⟩ := hold j c B e4 e5 e7 e8 e9
    rcases (hW B (hnew.src i b B e1 e2)).1 with h | h
    · exact k3 h
    · omega
  have hone : ∀ i j b c B, m.upd (app L (app (killed m ki) (frz m le))) i = some b → m.upd (app L (app (killed m ki) (frz m le))) j = some c → b.live → c.live → Owns (plApp L pl ρ) i b B → Owns (plApp L pl ρ) j c B → i = j := by
    intro i j b c B h1 h2 h3 h4 h5 h6
    rcases hlive i b h1 h3 with ⟨e1, e2⟩ | ⟨e1, e2, e3, e3', b0, e4, e5, e6, _⟩
    · rcases hlive j c h2 h4 with ⟨g1, g2⟩ | ⟨g1, g2, g3, g3', c0, g4, g5, g6, _⟩
      · exact hnew.one i j b c B e1 g1 (own1 e2 h5) (own1 g2 h6)
      · exact (cross e1 (own1 e2 h5) g1 g2 g4 g5 (own2 g3 g3' g6 h6)).elim
    · rcases hlive j c h2 h4 with ⟨g1, g2⟩ | ⟨g1, g2, g3, g3', c0, g4, g5, g6, _⟩
      · exact (cross g1 (own1 g2 h6) e1 e2 e4 e5 (own2 e3 e3' e6 h5)).elim
      · exact hm.owns e4 e5 (own2 e3 e3' e6 h5) g4 g5 (own2 g3 g3' g6 h6)
  have hfzI : ∀ B, Ifrz m ρ I le B → F.I0 B ∨ F.w0.heap.size ≤ B ∨ F.X0 B := by
    rintro B (h | ⟨id, _, b, o', h1, h2, h3⟩ | ⟨id, _, b, h1, h2, h3⟩)
    · exact hm.immN B h
    · exact .inr (hm.mine id b B o' h1 h2 h3)
    · exact .inr ((hm.dp id b h1 h2).2 B h3).1
  have hup : ∀ i b B, m.upd (app L (app (killed m ki) (frz m le))) i = some b → b.live → Owns (plApp L pl ρ) i b B → F.w0.heap.size ≤ B ∨ F.X0 B := by
    intro i b B h1 h2 h3
    rcases hlive i b h1 h2 with ⟨e1, e2⟩ | ⟨e1, e2, e3, e3', b0, e4, e5, e6, _⟩
    · rcases (hW B (hnew.src i b B e1 (own1 e2 h3))).1 with ⟨id, _, h⟩ | h
      · exact h.up hm
      · exact .inl (Nat.le_trans hm.size h)
    · rcases own2 e3 e3' e6 h3 with ⟨o, h⟩ | ⟨h, h'⟩
      · exact hm.mine i b0 B o e4 e5 h
      · exact ((hm.dp i b0 e4 h).2 B h').1
  refine ⟨ha, hk, ⟨fun i b hb => ?_, fun i i' b b' B o1 o2 h1 h2 h3 h4 h5 h6 => hone i i' b b' B h1 h2 h3 h4 (.inl ⟨_, h5⟩) (.inl ⟨_, h6⟩), fun B h => (hIb B h).1, fun B h => hIa B (.inl (hm.imm0 B h)), fun B h => ?_, fun i b B o1 h1 h2 h3 => hup i b B h1 h2 (.inl ⟨_, h3⟩), fun i b hb hd => ?_, fun B h1 h2 => ?_, Nat.le_trans hm.size hsize, hos.trans hm.os, htape.trans hm.tape, hout.trans hm.output⟩⟩
  · by_cases hl : b.live
    · rcases hlive i b hb hl with ⟨h1, _⟩ | ⟨h1, h2, h3, h3', b0, h4, h5, h6, h7⟩
      · exact (hnew.blk i b h1).2.2 _ _ hfit
      · have hblk := hm.blk i b0 h4
        rcases h7 with ⟨hle', hfz, hnd⟩ | ⟨hle', rfl⟩
        · unfold BlkR at hblk ⊢
          cases hc : b.c with
          | dead => trivial
          | deep rs t xs => exact absurd (by unfold Blk.isDeep; rw [h6, hc]; trivial) hnd
          | var t x =>
            rw [h6, hc] at hblk
            simp only at hblk ⊢
            obtain ⟨q1, B, cs, q2, q3, q4, _⟩ := hblk
            obtain ⟨k1, _, _⟩ := hold i b0 B h1 h2 h4 h5 (.inl ⟨_, q2⟩)
            refine ⟨q1, B, cs, h3.trans q2, q3.of_same k1, q4.mono ha hk, ?_⟩
            simp only [hfz, true_iff]
            exact hIa B (.inr (.inl ⟨i, hle', b0, 0, h4, h5, q2⟩))
          | rows t xs =>
            rw [h6, hc] at hblk
            simp only at hblk ⊢
            obtain ⟨_, q⟩ := hblk
            refine ⟨trivial, ?_⟩
            rcases q with ⟨q1, q2⟩ | ⟨B, o', cs, q1, q2, q3, q4, _⟩
            · exact .inl ⟨q1, h3.trans q2⟩
            · obtain ⟨k1, _, _⟩ := hold i b0 B h1 h2 h4 h5 (.inl ⟨_, q1⟩)
              refine .inr ⟨B, o', cs, h3.trans q1, q2.of_same k1, q3, q4.mono (fun o => World.cell?_of_block (w := w) k1) (fun x vs h => RepC.mono ha h), ?_⟩
              simp only [hfz, true_iff]
              exact hIa B (.inr (.inl ⟨i, hle', b0, o', h4, h5, q1⟩))
        · have hback : ∀ B, Owns ρ i b0 B → w'.heap[B]? = w.heap[B]? ∧ (I' B → I B) := by
            intro B hO
            obtain ⟨k1, k2, k3⟩ := hold i b0 B h1 h2 h4 h5 hO
            refine ⟨k1, fun hI' => ?_⟩
            rcases (hIb B hI').2 with h | h | h
            · rcases h with h | ⟨id, hid, c, o'', e1, e2, e3⟩ | ⟨id, hid, c, e1, e2, e3⟩
              · exact h
              · have := hm.owns h4 h5 hO e1 e2 (.inl ⟨_, e3⟩)
                subst this
                exact absurd hid hle'
              · have := hm.owns h4 h5 hO e1 (deep_live e2) (.inr ⟨e2, e3⟩)
                subst this
                exact absurd hid hle'
            · omega
            · exact absurd h k3
          exact hblk.mono ha hk h3 h3' (fun B o' hr _ => hback B (.inl ⟨o', hr⟩)) (fun hd B hB => hback B (.inr ⟨hd, hB⟩))
    · unfold BlkR
      unfold Blk.live at hl
      cases hc : b.c with
      | dead => trivial
      | var t x => simp [hc] at hl
      | rows t xs => simp [hc] at hl
      | deep rs t xs => simp [hc] at hl
  · rcases (hIb B h).2 with h | h | ⟨id, _, h⟩
    · exact hfzI B h
    · exact .inr (.inl (Nat.le_trans hm.size h))
    · exact .inr (h.up hm)
  · have hl := deep_live hd
    have hnm : ((plApp L pl ρ).d i).Nodup ∧ ∀ B ∈ (plApp L pl ρ).d i, ∀ o, plApp L pl ρ i ≠ some (B, o) := by
      rcases hlive i b hb hl with ⟨e1, e2, e3⟩ | ⟨e1, e2, e3, e3', b0, e4, e5, e6, _⟩
      · rw [e2, e3]; exact hnew.dn i b e1 hd
      · rw [e3, e3']
        obtain ⟨q1, q2⟩ := hm.dp i b0 e4 (by unfold Blk.isDeep at *; rw [e6]; exact hd)
        exact ⟨q1, fun B hB o => (q2 B hB).2.1 i b0 o e4 e5⟩
    refine ⟨hnm.1, fun B hB => ⟨hup i b B hb hl (.inr ⟨hd, hB⟩), fun i' b' o h1 h2 h3 => ?_, fun i' b' h1 h2 h3 => ?_⟩⟩
    · have := hone i i' b b' B hb h1 hl h2 (.inr ⟨hd, hB⟩) (.inl ⟨o, h3⟩)
      subst this
      exact hnm.2 B hB o h3
    · exact (hone i i' b b' B hb h1 hl (deep_live h2) (.inr ⟨hd, hB⟩) (.inr ⟨h2, h3⟩)).symm
  · have hnB : ¬ B ∈ Bs := by
      intro h
      obtain ⟨id, _, hmi⟩ := hBs B h
      rcases hmi.up hm with h | h
      · omega
      · exact h2 h
    rw [hframe B (Nat.lt_of_lt_of_le h1 hm.size) hnB]
    exact hm.frame B h1 h2

end
end Go.Ab
namespace Go.Ab
section
variable {P : Program} {F : Fix} {C : Cx} {o : Oper} {a : Act} {w w' : World} {m : MF} {I I' : Nat → Prop} {ρ : Pl} {d : Did}

theorem RepC.noLst : ∀ {t : Ty} {x : t.den} {vs : List Value}, t.hasLst = false → RepC w I t x vs → RepC w I' t x vs := by
  intro t
  induction t with
  | lst t _ => intro x vs h; simp [Ty.hasLst] at h
  | ref t _ => intro x vs h; simp [Ty.hasLst] at h
  | own t _ => intro x vs _ h; simp only [RepC] at h
  | pair a b iha ihb =>
    intro x vs h hr
    simp only [Ty.hasLst, Bool.or_eq_false_iff] at h
    simp only [RepC] at hr ⊢
    obtain ⟨v1, v2, e, h1, h2⟩ := hr
    exact ⟨v1, v2, e, iha h.1 h1, ihb h.2 h2⟩
  | arr n t ih =>
    intro x vs h hr
    simp only [RepC] at hr ⊢
    exact ⟨hr.1, ArrR.mono (fun x vs hh => ih h hh) hr.2⟩
  | _ => intro x vs _ h; exact h

theorem RepO.noLst (hI : ∀ B, I' B → I B) : ∀ {t : Ty} {x : t.den} {vs : List Value} {Bs : List Nat}, t.hasLst = false → RepO w I t x vs Bs → RepO w I' t x vs Bs := by
  intro t
  induction t with
  | own t _ =>
    intro x vs Bs h hr
    obtain ⟨ad, cap, e, hl, hr⟩ := hr
    refine ⟨ad, cap, e, hl, hr.imp (fun h => h) ?_⟩
    rintro ⟨B, o', cs, h1, h2, h3, h4, h5, h6⟩
    exact ⟨B, o', cs, h1, h2, h3, h4.mono (fun _ => rfl) (fun x vs hh => RepC.noLst h hh), fun h => h5 (hI B h), h6⟩
  | pair a b iha ihb =>
    intro x vs Bs h hr
    simp only [Ty.hasLst, Bool.or_eq_false_iff] at h
    obtain ⟨v1, v2, B1, B2, e, eb, h1, h2⟩ := hr
    exact ⟨v1, v2, B1, B2, e, eb, iha h.1 h1, ihb h.2 h2⟩
  | _ => intro x vs Bs h hr; exact ⟨hr.1, RepC.noLst h hr.2⟩

theorem RowsD.anti {α : Type} {B sz : Nat} {R R' : α → List Value → List Nat → Prop} (hR : ∀ x vs D, R x vs D → R' x vs D) : ∀ {xs : List α} {off : Nat} {Ds : List Nat}, RowsD w B sz R off xs Ds → RowsD w B sz R' off xs Ds
  | [], _, _, h => h
  | _ :: _, _, _, ⟨cs, D1, D2, e, h1, h2, h3, h4⟩ => ⟨cs, D1, D2, e, h1, h2, hR _ _ _ h3, RowsD.anti hR h4⟩

theorem RepD.noLst (hI : ∀ B, I' B → I B) : ∀ {t : Ty} {x : t.den} {vs : List Value} {Bs : List Nat}, RepD w I t x vs Bs → RepD w I' t x vs Bs := by
  intro t
  induction t with
  | lst t ih =>
    intro x vs Bs hr
    simp only [RepD] at hr ⊢
    obtain ⟨ad, cap, e, hl, hr⟩ := hr
    refine ⟨ad, cap, e, hl, hr.imp (fun h => h) ?_⟩
    rintro ⟨B, o', cs, Ds, h1, h2, h3, h4, h5, h6⟩
    exact ⟨B, o', cs, Ds, h1, h2, h3, h4.anti fun x vs D h => ih h, fun h => h5 (hI B h), h6⟩
  | pair a b iha ihb =>
    intro x vs Bs hr
    simp only [RepD] at hr ⊢
    obtain ⟨v1, v2, B1, B2, e, eb, h1, h2⟩ := hr
    exact ⟨v1, v2, B1, B2, e, eb, iha h1, ihb h2⟩
  | own t _ => intro x vs Bs hr; simp only [RepD] at hr
  | ref t _ => intro x vs Bs hr; simp only [RepD] at hr
  | arr n t _ => intro x vs Bs hr; simp only [RepD] at hr ⊢; exact ⟨hr.1, hr.2.1, RepC.noLst (by simpa [Ty.hasLst] using hr.2.1) hr.2.2⟩
  | _ => intro x vs Bs hr; simp only [RepD] at hr ⊢; exact ⟨hr.1, RepC.noLst rfl hr.2⟩

theorem RetO.noLst (hI : ∀ B, I' B → I B) {r : RV} {v : Value} {Bs : List Nat} (h : r.lends = false) (hr : RetO w I r v Bs) : RetO w I' r v Bs := by
  cases r with
  | v d => obtain ⟨cs, e, hr⟩ := hr; exact ⟨cs, e, hr.noLst hI h⟩
  | d y => obtain ⟨cs, e, hr⟩ := hr; exact ⟨cs, e, hr.noLst hI⟩
  | p d => obtain ⟨B, cs, B1, e, hc, hB, hr, e2⟩ := hr; exact ⟨B, cs, B1, e, hc, fun h => hB (hI B h), hr.noLst hI h, e2⟩

theorem RetsO.noLst (hI : ∀ B, I' B → I B) : ∀ {outs : List RV} {vs : List Value} {Bs : List Nat}, anyL RV.lends outs = false → RetsO w I outs vs Bs → RetsO w I' outs vs Bs
  | [], [], _, _, h => h
  | [], _ :: _, _, _, h => h
  | _ :: _, [], _, _, h => h
  | r :: outs, v :: vs, Bs, h, hr => by
    simp only [anyL, Bool.or_eq_false_iff] at h
    obtain ⟨B1, B2, e, h1, h2⟩ := hr
    exact ⟨B1, B2, e, h1.noLst hI h.1, RetsO.noLst hI h.2 h2⟩

theorem UpdO.noLst (hI : ∀ B, I' B → I B) : ∀ {args : List Arg} {vs : List Value} {ds : List DV} {Bs : List Nat}, updLst args ds = false → UpdO w w' I args vs ds Bs → UpdO w w' I' args vs ds Bs := by
  intro args
  induction args with
  | nil => intro vs ds Bs h hr; cases ds <;> first | exact hr | (simp only [UpdO] at hr; done)
  | cons a args ih =>
    intro vs ds Bs h hr
    cases vs with
    | nil => cases a <;> cases ds <;> simp only [UpdO] at hr
    | cons v vs =>
    cases a with
    | v d => simp only [UpdO] at hr ⊢; exact ih (by simpa only [updLst] using h) hr
    | f g d => simp only [UpdO] at hr ⊢; exact ih (by simpa only [updLst] using h) hr
    | d y =>
      cases ds with
      | nil => simp only [UpdO] at hr
      | cons u ds =>
      simp only [updLst] at h
      simp only [UpdO] at hr ⊢
      obtain ⟨cs, B1, B2, e1, e2, e3, e4, e5, e6⟩ := hr
      exact ⟨cs, B1, B2, e1, e2, e3.noLst hI, e4, e5, ih h e6⟩
    | p d =>
      cases ds with
      | nil => simp only [UpdO] at hr
      | cons u ds =>
      simp only [updLst, Bool.or_eq_false_iff] at h
      simp only [UpdO] at hr ⊢
      obtain ⟨B, cs, B1, B2, e1, e2, e3, e4, e5, e6, e7⟩ := hr
      exact ⟨B, cs, B1, B2, e1, e2, fun h => e3 (hI B h), e4, e5.noLst hI h.1, e6, ih h.2 e7⟩
    | m t xs =>
      cases ds with
      | nil => simp only [UpdO] at hr
      | cons u ds =>
      simp only [updLst, Bool.or_eq_false_iff] at h
      simp only [UpdO] at hr ⊢
      obtain ⟨ys, B1, B2, e1, e2, e3, e4, e5, e6⟩ := hr
      subst e1
      exact ⟨ys, B1, B2, rfl, e2, e3.noLst hI h.1, e4, e5, ih h.2 e6⟩

end
end Go.Ab
namespace Go.Ab
section
variable {P : Program} {F : Fix} {C : Cx} {o : Oper} {a : Act} {w w' : World} {m : MF} {I I' : Nat → Prop} {ρ : Pl} {d : Did}

theorem All2.app {α β : Type} {R : α → β → Prop} : ∀ {l1 l2 : List α} {k1 k2 : List β}, All2 R l1 k1 → All2 R l2 k2 → All2 R (Ab.app l1 l2) (k1 ++ k2)
  | [], _, _, _, h, h' => by cases h; exact h'
  | _ :: _, _, _, _, h, h' => by cases h with | cons h1 h2 => exact .cons h1 (h2.app h')

theorem caps_ok : ∀ {c : AT} {vs : List Value}, capsOk c = true → ATR w I m ρ c vs → All2 (SlotR w I m ρ) (tupList c) vs := by
  intro c
  induction c with
  | tup l r _ ihr =>
    intro vs h hr
    simp only [capsOk, Bool.and_eq_true] at h
    simp only [ATR] at hr
    obtain ⟨v, vs', rfl, h1, h2⟩ := hr
    refine .cons ?_ (ihr h.2 h2)
    have hsl : l.slot = true := by cases l <;> first | rfl | exact h.1
    refine (slot_val hsl).2 ?_
    unfold ValR
    have : l.isAgg = false := by
      cases l <;> simp [AT.one] at h <;> first | rfl | (simp [AT.isAgg]; exact h.1)
    simpa [this] using h1
  | tend => intro vs _ hr; simp only [ATR] at hr; subst hr; exact .nil
  | _ => intro vs h hr; simp [capsOk] at h

theorem slots_one : ∀ {l : List AT} {vs : List Value}, All2 (fun x v => x.slot = true ∧ SlotR w I m ρ x v) l vs → TupR w I m ρ (tupOf l) vs
  | [], _, h => by cases h; rfl
  | _ :: _, _, h => by
    cases h with
    | cons h1 h2 => exact ⟨_, _, rfl, (slot_val h1.1).1 h1.2, slots_one h2⟩

/-- the program's functions, as the evaluator has them -/
structure FnOk (P : Program) (C : Cx) : Prop where
  fns : ∀ f modes den, find C.fns f = some (modes, den) → (∀ (args : Array Value) (w : World), (callFunc f args).run P w = .ok (.enter f args) w) ∧
    ∀ args r, den args = some r → (∀ b ∈ r.ok, b = true) → Holds P f args r

end
end Go.Ab
namespace Go.Ab
section
variable {P : Program} {F : Fix} {C : Cx} {o : Oper} {a : Act} {w w' : World} {m : MF} {I I' : Nat → Prop} {ρ : Pl} {d : Did}

theorem oneOf_ok {outs : List RV} {v : Value} {Ys : List Nat} {n : Nat} (h : OutO w I outs v Ys) (hnd : Ys.Nodup) :
    ∃ pl : Pl, New w I (outAT m outs n).2 Ys pl ∧ (∀ i b, find (outAT m outs n).2 i = some b → n ≤ i ∧ b.st = newSt m i) ∧
      ∀ m' ρ', Fits (outAT m outs n).2 pl m' ρ' → SlotR w I m' ρ' (oneOf (outAT m outs n).1) v := by
  have hlen : ∀ {outs : List RV} {n : Nat}, (outAT m outs n).1.length = outs.length := by
    intro outs
    induction outs with
    | nil => intro n; rfl
    | cons r outs ih => intro n; cases r <;> simp [outAT, ih]
  match outs, h with
  | [r], h =>
    have h' : RetsO w I [r] [v] Ys := ⟨Ys, [], by simp, h, rfl⟩
    obtain ⟨pl, h1, h2, h3⟩ := outs_ok m n h' hnd
    refine ⟨pl, h1, h2, fun m' ρ' hf => ?_⟩
    have h4 := h3 m' ρ' hf
    generalize (outAT m [r] n).1 = l at h4
    cases h4 with
    | cons h5 h6 => cases h6; exact h5.2
  | [], h =>
    obtain ⟨arr, rfl, h'⟩ := h
    obtain ⟨pl, h1, h2, h3⟩ := outs_ok m n h' hnd
    refine ⟨pl, h1, h2, fun m' ρ' hf => ?_⟩
    have h4 := h3 m' ρ' hf
    have h5 : arr.toList = [] := by
      cases ha : arr.toList with
      | nil => rfl
      | cons x l => rw [ha] at h'; simp [RetsO] at h'
    have : arr = #[] := by apply Array.ext'; simpa using h5
    subst this
    rfl
  | r :: r2 :: outs, h =>
    obtain ⟨arr, rfl, h'⟩ := h
    obtain ⟨pl, h1, h2, h3⟩ := outs_ok m n h' hnd
    refine ⟨pl, h1, h2, fun m' ρ' hf => ?_⟩
    have h4 := slots_one (h3 m' ρ' hf)
    have hl := hlen (outs := r :: r2 :: outs) (n := n)
    generalize (outAT m (r :: r2 :: outs) n).1 = l at h4 hl
    match l, hl with
    | x :: y :: l, _ => exact ⟨arr, rfl, h4⟩

end
end Go.Ab
namespace Go.Ab
section
variable {P : Program} {F : Fix} {C : Cx} {o : Oper} {a : Act} {w w' : World} {m : MF} {I I' : Nat → Prop} {ρ : Pl} {d : Did}

theorem apartL_spec {l l' : List Nat} (h : apartL l l' = true) : ∀ i ∈ l, ¬ i ∈ l' := by
  induction l with
  | nil => simp
  | cons x l ih =>
    simp only [apartL, allL, Bool.and_eq_true, Bool.not_eq_true'] at h
    intro i hi
    rcases List.mem_cons.1 hi with e | hi
    · subst e
      intro hin
      rw [anyL_beq.2 hin] at h
      simp at h
    · exact ih h.2 i hi

theorem gives_call {g : Operand} {f : FuncId} {caps : AT} {args : Array Operand} {ts : Array Nat} {as : List AT} {dst : Nat} (hC : FnOk P C) (ho : o.op = .call ⟨.value g, args, ts⟩) (hm : MemR F m w I ρ)
    (hg : SlotR w I m ρ (.fn f caps) (a.eval g)) (hs : All2 (SlotR w I m ρ) as (args.toList.map a.eval)) (hcaps : capsOk caps = true)
    (hd : callD C m dst f (app as (tupList caps)) = some d) (hok : ∀ b ∈ d.ok, b = true) : Gives P F o a w m I ρ d := by
  have hg' := slot_one (a := .fn f caps) rfl hg (by simp) (by simp) (by simp) (by simp)
  simp only [ATR, List.cons.injEq, and_true] at hg'
  obtain ⟨cv, hgv, hcv⟩ := hg'
  have hall := All2.app hs (caps_ok hcaps hcv)
  unfold callD at hd
  split at hd
  · simp at hd
  · rename_i modes den hfn
    obtain ⟨hent, hden⟩ := hC.fns f modes den hfn
    generalize app as (tupList caps) = xs at hd hall
    cases hch : nodup (app (keepIds modes xs) (killIds m modes xs)) && apartL (lentIds m modes xs) (app (keepIds modes xs) (killIds m modes xs)) with
    | false => simp [hch] at hd
    | true =>
    simp only [hch, cond_true] at hd
    simp only [Bool.and_eq_true, nodup_spec, app_eq] at hch
    have hap := apartL_spec hch.2
    split at hd
    · simp at hd
    · rename_i ar har
      split at hd
      · simp at hd
      · rename_i r hdr
        split at hd
        · simp at hd
        · rename_i u hu
          obtain ⟨hk, hd⟩ := bif_some hd
          cases hd
          rw [nodup_spec, mapL_eq] at hk
          obtain ⟨kd1, kd2, kd3⟩ := keys_app hk
          -- what is lent is written no more while the call runs
          have hown : ∀ id ∈ keepIds modes xs ++ killIds m modes xs, ∀ B, Mine m ρ id B → ¬ Ifrz m ρ I (lentIds m modes xs) B := by
            rintro id hid B hmine (hI | ⟨j, hj, bj, oj, k1, k2, k3⟩ | ⟨j, hj, bj, k1, k2, k3⟩)
            · exact hmine.notI hm hI
            · obtain ⟨b, h1, h2, h3, h4⟩ := hmine
              have := hm.owns h1 h2 h4 k1 k2 (.inl ⟨_, k3⟩)
              subst this
              exact hap id hj hid
            · obtain ⟨b, h1, h2, h3, h4⟩ := hmine
              have := hm.owns h1 h2 h4 k1 (deep_live k2) (.inr ⟨k2, k3⟩)
              subst this
              exact hap id hj hid
          have hlent : ∀ id ∈ lentIds m modes xs, ∀ b B, m id = some b → b.live → Owns ρ id b B → Ifrz m ρ I (lentIds m modes xs) B := by
            rintro id hi b B h1 h2 (⟨o', h3⟩ | ⟨h3, h4⟩)
            · exact .inr (.inl ⟨id, hi, b, o', h1, h2, h3⟩)
            · exact .inr (.inr ⟨id, hi, b, h1, h3, h4⟩)
          obtain ⟨Bs, Ks, hargs, hBK, hBsrc, hcont⟩ := calls_ok (I' := Ifrz m ρ I (lentIds m modes xs)) hm (fun _ h => .inl h) har hall hlent hown hch.1
          have hBK' := List.nodup_append.1 hBK
          have hBnd := hBK'.1
          have hBnot : ∀ B ∈ Bs ++ Ks, ¬ Ifrz m ρ I (lentIds m modes xs) B := by
            intro B hB
            obtain ⟨id, hid, hmine⟩ := hBsrc B hB
            exact hown id hid B hmine
          have hBlt : ∀ B ∈ Bs ++ Ks, B < w.heap.size := by
            intro B hB
            obtain ⟨id, hid, hmine⟩ := hBsrc B hB
            exact hmine.lt hm
          have hcall := hden ar r hdr hok w (Ifrz m ρ I (lentIds m modes xs)) _ Bs (Done.freeze hm _).mem.imm hargs hBnd (fun B hB => hBnot B (List.mem_append_left _ hB))
          intro K Q hK
          have hexec : (execOp a.eval o).run P w = .ok (.enter f (args.toList.map a.eval ++ cv.toList).toArray) w := by
            have : args.map a.eval ++ cv = (args.toList.map a.eval ++ cv.toList).toArray := by apply Array.ext'; simp
            simp [execOp, ho, resolve, hgv, Deferred.ofValue, invoke, hent]
          unfold Oper.wp
          rw [hexec, Oper.upon_enter]
          refine Calls.mono hcall fun e w' he => ?_
          obtain ⟨v, I', Ys, Zs, rfl, hO, hU, hYZ, hW, hag, hI', hfr, hsz, hos, htp, hout⟩ := he
          simp only
          have hYn := List.nodup_append.1 hYZ
          -- what stays behind is as it was
          have hKs : ∀ B ∈ Ks, w'.heap[B]? = w.heap[B]? := fun B hB => hfr B (hBlt B (List.mem_append_right _ hB)) fun h => hBK'.2.2 B h B hB rfl
          have hKn : ∀ B ∈ Ks, ¬ I' B := by
            intro B hB hIB
            rcases (hI' B hIB).2 with h | h | h
            · exact hBnot B (List.mem_append_right _ hB) h
            · have := hBlt B (List.mem_append_right _ hB); omega
            · exact hBK'.2.2 B h B hB rfl
          have hYK : ∀ B ∈ Ys ++ Zs, ∀ B' ∈ Ks, B ≠ B' := by
            rintro B hB B' hB' rfl
            rcases (hW B hB).1 with h | h
            · exact hBK'.2.2 B h B hB' rfl
            · have := hBlt B (List.mem_append_right _ hB'); omega
          have hZK : (Zs ++ Ks).Nodup := List.nodup_append.2 ⟨hYn.2.1, hBK'.2.1, fun B hB B' hB' => hYK B (List.mem_append_right _ hB) B' hB'⟩
          have fin : ∀ (I2 : Nat → Prop) (le2 : List Nat), (∀ i ∈ le2, i ∈ lentIds m modes xs) → OutO w' I2 r.outs v Ys → UpdO w w' I2 ar (args.toList.map a.eval ++ cv.toList) r.upds Zs → (∀ B, I2 B → I' B) → (∀ B, Ifrz m ρ I le2 B → I2 B) →
              (∀ B, I2 B → Ifrz m ρ I le2 B ∨ w.heap.size ≤ B ∨ B ∈ Bs) →
              ∃ ρ', Done F m (m.upd (app (app (outAT m r.outs ((dst + 1) * 1000)).2 u) (app (killed m (killIds m modes xs)) (frz m le2)))) w w' I I2 ρ ρ' ∧
                SlotR w' I2 (m.upd (app (app (outAT m r.outs ((dst + 1) * 1000)).2 u) (app (killed m (killIds m modes xs)) (frz m le2)))) ρ' (oneOf (outAT m r.outs ((dst + 1) * 1000)).1) v := by
            intro I2 le2 hle2 hO2 hU2 hsub hIa hIb
            have hag0 : ∀ B, I B → w'.heap[B]? = w.heap[B]? := fun B h => hag.same B (.inl h)
            have hagr : Agree I I2 w w' := ⟨fun B h => hIa B (.inl h), hag0⟩
            obtain ⟨p1, n1, n2, n3⟩ := oneOf_ok (m := m) (n := (dst + 1) * 1000) hO2 hYn.1
            obtain ⟨p2, Ws, u1, us, u2, u3⟩ := hcont w' I2 r.upds u Zs hagr hu hU2 hZK kd2 (fun B hB hI => by
              rcases List.mem_append.1 hB with h | h
              · exact (hW B (List.mem_append_right _ h)).2 (hsub B hI)
              · exact hKn B h (hsub B hI)) hKs
            have hnew := New.app n1 u1 (fun B hB B' hB' => by
              rcases List.mem_append.1 (us B' hB') with h | h
              · exact hYn.2.2 B hB B' h
              · exact hYK B (List.mem_append_left _ hB) B' h) kd3
            have hA : ∀ i b, find (app (outAT m r.outs ((dst + 1) * 1000)).2 u) i = some b → b.st = newSt m i ∨ (i ∈ keepIds modes xs ∧ Stays m ρ w w' (plApp (outAT m r.outs ((dst + 1) * 1000)).2 p1 p2) i b) := by
              intro i b hb
              rw [find_app] at hb
              split at hb
              · rename_i b' hb'
                cases hb
                exact .inl (n2 i b hb').2
              · rename_i hno
                exact (u2 i b hb).imp id fun h => ⟨h.1, h.2.to (plApp_none hno).1⟩
            have hB : ∀ i ∈ keepIds modes xs, ∃ b, find (app (outAT m r.outs ((dst + 1) * 1000)).2 u) i = some b := by
              intro i hi
              obtain ⟨b, hb, _⟩ := u3 i hi
              have hno : find (outAT m r.outs ((dst + 1) * 1000)).2 i = none := by
                cases hf : find (outAT m r.outs ((dst + 1) * 1000)).2 i with
                | none => rfl
                | some c => exact (kd3 i c b hf hb).elim
              exact ⟨b, by rw [find_app, hno]; exact hb⟩
            have hBs' : ∀ B ∈ Bs, ∃ id ∈ keepIds modes xs ++ killIds m modes xs, Mine m ρ id B := fun B hB => hBsrc B (List.mem_append_left _ hB)
            obtain ⟨c1, c2⟩ := Done.called (le := le2) hm (fun i hi => hap i (hle2 i hi)) hBs' hnew hA hB (fun B hB => by
                have hor : B ∈ Ys ++ Zs ∨ B ∈ Ks := by
                  rcases List.mem_append.1 hB with h | h
                  · exact .inl (List.mem_append_left _ h)
                  · rcases List.mem_append.1 (us B h) with h | h
                    · exact .inl (List.mem_append_right _ h)
                    · exact .inr h
                rcases hor with h | h
                · exact ⟨(hW B h).1.imp (hBs' B) id, fun hI => (hW B h).2 (hsub B hI)⟩
                · exact ⟨.inl (hBsrc B (List.mem_append_right _ h)), fun hI => hKn B h (hsub B hI)⟩) hIa hag0
              (fun B hB => ⟨(hI' B (hsub B hB)).1, (hIb B hB).imp id (Or.imp id (hBs' B))⟩) hfr hsz hos htp hout
            exact ⟨_, c1, n3 _ _ (Fits.left c2)⟩
          have hass : ∀ {x y z : List (Nat × Blk)}, app (app x y) z = app x (app y z) := by intro x y z; simp [app_eq]
          cases hkp : anyL RV.lends r.outs || updLst ar r.upds with
          | true =>
            obtain ⟨ρ', f1, f2⟩ := fin I' (lentIds m modes xs) (fun _ h => h) hO hU (fun _ h => h) (fun B h => hag.sub B h) (fun B h => (hI' B h).2)
            rw [hass] at f1 f2
            exact hK v w' I' ρ' (by simpa only [hkp, cond_true] using f1) (by simpa only [hkp, cond_true] using f2)
          | false =>
            simp only [Bool.or_eq_false_iff] at hkp
            have hsub : ∀ B, I B → I' B := fun B h => hag.sub B (.inl h)
            have hO2 : OutO w' I r.outs v Ys := by
              have hO' := hO
              unfold OutO at hO' ⊢
              split
              · rename_i x hx
                rw [hx] at hO' hkp
                simp only [anyL, Bool.or_false] at hkp
                exact hO'.noLst hsub hkp.1
              · rename_i hx
                split at hO'
                · rename_i x hx2; exact absurd hx2 (hx x)
                · obtain ⟨arr, e, h⟩ := hO'
                  exact ⟨arr, e, h.noLst hsub hkp.1⟩
            obtain ⟨ρ', f1, f2⟩ := fin I [] (fun _ h => by simp at h) hO2 (hU.noLst hsub hkp.2) hsub (fun B h => by
              rcases h with h | ⟨_, h, _⟩ | ⟨_, h, _⟩
              · exact h
              · simp at h
              · simp at h) (fun B h => .inl (.inl h))
            rw [hass] at f1 f2
            exact hK v w' I ρ' (by simpa only [hkp, Bool.or_false, cond_false, frz, fmapL] using f1) (by simpa only [hkp, Bool.or_false, cond_false, frz, fmapL] using f2)

end
end Go.Ab
namespace Go.Ab
section
variable {P : Program} {F : Fix} {C : Cx} {o : Oper} {a : Act} {w w' : World} {m : MF} {I I' : Nat → Prop} {ρ : Pl} {d : Did}

/-- a deep block, anew -/
theorem New.deep {id st rs B o : Nat} {t : Ty} {zs : List t.den} {Ds : List Nat} {cs : List Value} (hc : Cells w B cs) (hl : o + zs.length * t.size ≤ cs.length) (hr : RowsD w B t.size (RepD w I t) o zs Ds) (hI : ¬ I B) (hnd : (B :: Ds).Nodup) :
    New w I [(id, ⟨st, false, .deep rs t zs⟩)] (B :: Ds) ⟨fun _ => some (B, o), fun _ => Ds⟩ := by
  have hnc := List.nodup_cons.1 hnd
  refine ⟨fun i b hf => ?_, fun i b C hf hO => ?_, fun i j b c C hf hf' _ _ => (find_one hf).1.symm.trans (find_one hf').1, fun i b hf _ => ⟨hnc.2, fun C hC o2 he => ?_⟩⟩
  · obtain ⟨rfl, rfl⟩ := find_one hf
    refine ⟨rfl, trivial, fun m' ρ' hfit => ?_⟩
    obtain ⟨_, k2, k3⟩ := hfit id _ (by rw [find_cons, if_pos rfl])
    simp only [BlkR]
    exact ⟨trivial, .inr ⟨B, o, cs, k2, hc, hl, by rw [k3]; exact hr, hI⟩⟩
  · obtain ⟨rfl, rfl⟩ := find_one hf
    rcases hO with ⟨o2, hO⟩ | ⟨_, hO⟩
    · cases hO; exact List.mem_cons_self
    · exact List.mem_cons_of_mem _ hO
  · cases he
    exact hnc.1 hC

/-- an empty deep list without memory -/
theorem New.deep0 {id st rs : Nat} {t : Ty} : New w I [(id, ⟨st, false, .deep rs t []⟩)] [] ⟨fun _ => none, fun _ => []⟩ := by
  refine ⟨fun i b hf => ?_, fun i b C hf hO => ?_, fun i j b c C hf hf' _ _ => (find_one hf).1.symm.trans (find_one hf').1, fun i b hf _ => ⟨by simp, by simp⟩⟩
  · obtain ⟨rfl, rfl⟩ := find_one hf
    refine ⟨rfl, trivial, fun m' ρ' hfit => ?_⟩
    obtain ⟨_, k2, k3⟩ := hfit id _ (by rw [find_cons, if_pos rfl])
    simp only [BlkR]
    exact ⟨trivial, .inl ⟨trivial, k2, k3⟩⟩
  · rcases hO with ⟨o2, hO⟩ | ⟨_, hO⟩
    · cases hO
    · simp at hO

theorem slot_deep {m' : MF} {ρ' : Pl} {id st rs B o cap : Nat} {t : Ty} {zs : List t.den} {cs : List Value} {n : Nat} (hm' : m' id = some ⟨st, false, .deep rs t zs⟩) (hρ' : ρ' id = some (B, o)) (hn : n = zs.length) (hl : n ≤ cap) (hc : Cells w B cs) (hcap : o + cap * t.size ≤ cs.length) :
    SlotR w I m' ρ' (.whole id st t) (.slice (some ⟨B, o, none⟩) n cap) := by
  subst hn
  show ValR _ _ _ _ _ _
  unfold ValR
  simp only [AT.isAgg, Bool.false_eq_true, if_false, ATR]
  refine ⟨⟨_, rfl, rfl⟩, RefOk.of hm' rfl, fun b hb' hs' t' k hc' => ?_⟩
  rw [hm'] at hb'
  cases hb'
  cases hc'
  exact ⟨_, cap, rfl, hl, .inr ⟨B, o, cs, hρ', rfl, hc, hcap⟩⟩

theorem slot_deep0 {m' : MF} {ρ' : Pl} {id st rs : Nat} {t : Ty} (hm' : m' id = some ⟨st, false, .deep rs t []⟩) (hρ' : ρ' id = none) : SlotR w I m' ρ' (.whole id st t) (.slice none 0 0) := by
  show ValR _ _ _ _ _ _
  unfold ValR
  simp only [AT.isAgg, Bool.false_eq_true, if_false, ATR]
  refine ⟨⟨_, rfl, rfl⟩, RefOk.of hm' rfl, fun b hb' hs' t' k hc' => ?_⟩
  rw [hm'] at hb'
  cases hb'
  cases hc'
  exact ⟨none, 0, rfl, Nat.le_refl _, .inl ⟨rfl, rfl, hρ'⟩⟩

/-- rows, as cells that may lie elsewhere -/
theorem RowsD.cells {α : Type} {B sz : Nat} {R : α → List Value → List Nat → Prop} : ∀ {xs : List α} {off : Nat} {Ds : List Nat}, RowsD w B sz R off xs Ds →
    ∃ cs : List Value, cs.length = xs.length * sz ∧ (∀ j, j < cs.length → w.cell? ⟨B, off + j, none⟩ = cs[j]?) ∧ ((∀ x vs D, R x vs D → ∀ v ∈ vs, v.oneCell' = true) → ∀ v ∈ cs, v.oneCell' = true) ∧
      ∀ (w' : World) (B' off' : Nat) (R' : α → List Value → List Nat → Prop), (∀ j, j < cs.length → w'.cell? ⟨B', off' + j, none⟩ = cs[j]?) → (∀ x vs D, (∀ b ∈ D, b ∈ Ds) → R x vs D → R' x vs D) → RowsD w' B' sz R' off' xs Ds
  | [], off, Ds, h => ⟨[], by simp, fun j hj => by simp at hj, fun _ => by simp, fun _ _ _ _ _ _ => h⟩
  | x :: xs, off, Ds, h => by
    obtain ⟨cs, D1, D2, e, h1, h2, h3, h4⟩ := h
    subst e
    obtain ⟨ds, k1, k2, k3, k4⟩ := RowsD.cells h4
    refine ⟨cs ++ ds, by simp [h1, k1, Nat.add_mul]; omega, fun j hj => ?_, fun hR v hv => ?_, fun w' B' off' R' hc hR => ?_⟩
    · by_cases hjs : j < sz
      · rw [List.getElem?_append_left (by omega), ← h2 j hjs]
      · simp only [List.length_append] at hj
        have := k2 (j - sz) (by omega)
        rw [List.getElem?_append_right (by omega), h1, ← this]
        congr 2
        omega
    · rcases List.mem_append.1 hv with h | h
      · exact hR _ _ _ h3 v h
      · exact k3 hR v h
    · refine ⟨cs, D1, D2, rfl, h1, fun j hj => ?_, hR _ _ _ (fun b hb => List.mem_append_left _ hb) h3, k4 w' B' (off' + sz) R' (fun j hj => ?_) (fun x vs D hD => hR x vs D fun b hb => List.mem_append_right _ (hD b hb))⟩
      · rw [hc j (by simp; omega), List.getElem?_append_left (by omega)]
      · have := hc (sz + j) (by simp; omega)
        rw [← Nat.add_assoc] at this
        rw [this, List.getElem?_append_right (by omega), h1]
        congr 1
        omega

theorem heap_eq_cell {w w' : World} {B : Nat} (h : w'.heap[B]? = w.heap[B]?) (k : Nat) : w'.cell? ⟨B, k, none⟩ = w.cell? ⟨B, k, none⟩ := World.cell?_of_block (w := w) h


/-- the zero value, with lists of its own -/
theorem zero_repD : ∀ {t : Ty}, t.dok = true → (∀ {T : Nat}, TyOk P t T → RepD w I t t.dflt (zcells t) []) ∧ (∀ {fs off}, FieldsOk P t fs off → RepD w I t t.dflt (zcells t) []) := by
  intro t
  induction t with
  | unit => intro _; exact ⟨fun _ => RepD.of_rep rfl rfl, fun _ => RepD.of_rep rfl rfl⟩
  | bool => intro _; exact ⟨fun _ => RepD.of_rep rfl rfl, fun _ => RepD.of_rep rfl rfl⟩
  | int k => intro _; exact ⟨fun _ => RepD.of_rep rfl rfl, fun _ => RepD.of_rep rfl rfl⟩
  | str => intro _; exact ⟨fun _ => RepD.of_rep rfl rfl, fun _ => RepD.of_rep rfl rfl⟩
  | lst u _ =>
    intro _
    have : RepD w I (.lst u) (Ty.dflt (.lst u)) (zcells (.lst u)) [] := by
      simp only [RepD]
      exact ⟨none, 0, rfl, Nat.le_refl _, .inl ⟨rfl, rfl, trivial⟩⟩
    exact ⟨fun _ => this, fun _ => this⟩
  | own u _ => intro h; simp [Ty.dok] at h
  | pair x y ihx ihy =>
    intro h
    simp only [Ty.dok, Bool.and_eq_true] at h
    refine ⟨fun {T} hT => ?_, fun {fs off} hF => ?_⟩
    · unfold TyOk at hT
      simp only [TO] at hT
      obtain ⟨_, fs, _, f, l, _, _, h1, h2⟩ := hT
      simp only [RepD]
      exact ⟨_, _, [], [], rfl, rfl, (ihx h.1).1 h1, (ihy h.2).2 h2⟩
    · unfold FieldsOk at hF
      simp only [TO] at hF
      obtain ⟨f, l, _, _, h1, h2⟩ := hF
      simp only [RepD]
      exact ⟨_, _, [], [], rfl, rfl, (ihx h.1).1 h1, (ihy h.2).2 h2⟩
  | arr n u ih =>
    intro h
    simp only [Ty.dok, Bool.and_eq_true, Bool.not_eq_true'] at h
    refine ⟨fun {T} hT => ?_, fun {fs off} hF => by unfold FieldsOk at hF; simp only [TO] at hF⟩
    exact RepD.of_rep (by simpa [Ty.hasLst] using h.2) ((zero_rep (P := P) (t := .arr n u) (by simp [Ty.zok])).1 hT)
  | ref u _ => intro h; simp [Ty.dok] at h

theorem zero_rows {t : Ty} {x : t.den} {z : List Value} {B : Nat} (hz : RepD w I t x z []) : ∀ (n off : Nat), (∀ j, j < n * z.length → w.cell? ⟨B, off + j, none⟩ = ((List.replicate n z).flatten)[j]?) →
    RowsD w B t.size (RepD w I t) off (List.replicate n x) []
  | 0, _, _ => rfl
  | n + 1, off, h => by
    have hl := RepD.length hz
    have hfl : ((List.replicate n z).flatten).length = n * z.length := by simp
    rw [List.replicate_succ]
    refine ⟨z, [], [], rfl, hl, fun j hj => ?_, hz, zero_rows hz n (off + t.size) fun j hj => ?_⟩
    · rw [h j (by rw [Nat.add_mul]; omega), List.replicate_succ, List.flatten_cons, List.getElem?_append_left (by omega)]
    · have := h (t.size + j) (by rw [Nat.add_mul]; omega)
      rw [← Nat.add_assoc] at this
      rw [this, List.replicate_succ, List.flatten_cons, List.getElem?_append_right (by omega), hl]
      congr 1
      omega

theorem Ifrz_nil {B : Nat} : Ifrz m ρ I [] B → I B := by
  rintro (h | ⟨_, h, _⟩ | ⟨_, h, _⟩)
  · exact h
  · simp at h
  · simp at h

/-- a deep block of one's own takes blocks of others along: the world behind it -/
theorem Done.absorb {id st rs B o : Nat} {t : Ty} {zs : List t.den} {Ds ki Bs : List Nat} {cs : List Value} (hm : MemR F m w I ρ) (hst : st = newSt m id)
    (hc : Cells w' B cs) (hl : o + zs.length * t.size ≤ cs.length) (hr : RowsD w' B t.size (RepD w' I t) o zs Ds) (hnd : (B :: Ds).Nodup)
    (hW : ∀ b ∈ B :: Ds, ((∃ i ∈ ki, Mine m ρ i b) ∨ w.heap.size ≤ b) ∧ ¬ I b) (hBs : ∀ b ∈ Bs, ∃ i ∈ ki, Mine m ρ i b)
    (hframe : ∀ b, b < w.heap.size → ¬ b ∈ Bs → w'.heap[b]? = w.heap[b]?) (hsize : w.heap.size ≤ w'.heap.size) (hos : w'.os = w.os) (htape : w'.tape = w.tape) (hout : w'.output = w.output) :
    ∃ ρ', Done F m (m.upd (app [(id, ⟨st, false, .deep rs t zs⟩)] (app (killed m ki) (frz m [])))) w w' I I ρ ρ' ∧ ρ' id = some (B, o) ∧ (m.upd (app [(id, ⟨st, false, .deep rs t zs⟩)] (app (killed m ki) (frz m [])))) id = some ⟨st, false, .deep rs t zs⟩ := by
  have hnew := New.deep (id := id) (st := st) (rs := rs) hc hl hr (hW B List.mem_cons_self).2 hnd
  obtain ⟨h1, h2⟩ := Done.called (ke := []) (ki := ki) (le := []) (Bs := Bs) hm (by simp) (by simpa using hBs) hnew (fun i b hf => by
      obtain ⟨rfl, rfl⟩ := find_one hf
      exact .inl hst) (by simp) (by simpa using hW) (fun _ h => Ifrz_nil h) (fun b hI => hframe b (hm.imm b hI) fun hb => by
      obtain ⟨i, _, h⟩ := hBs b hb
      exact h.notI hm hI) (fun b hI => ⟨Nat.lt_of_lt_of_le (hm.imm b hI) hsize, .inl (.inl hI)⟩) hframe hsize hos htape hout
  obtain ⟨h3, h4, _⟩ := h2 id _ (by rw [find_cons, if_pos rfl])
  exact ⟨_, h1, h4, h3⟩

theorem gives_makeSlice {T : Nat} {xl xc : Operand} {al ac : AT} {l c : Int} {dst : Nat} (hC : CxOk P C) (ho : o.op = .makeSlice T xl xc) (hm : MemR F m w I ρ) (hl : SlotR w I m ρ al (a.eval xl)) (hc : SlotR w I m ρ ac (a.eval xc))
    (hil : intAt al = some l) (hic : intAt ac = some c) (hd : makeSliceD C m dst T l c = some d) (hok : ∀ b ∈ d.ok, b = true) : Gives P F o a w m I ρ d := by
  cases hel : C.el T with
  | none => simp [makeSliceD, hel] at hd
  | some t =>
  cases hdp : C.dp && t.hasLst with
  | false => exact gives_makeSlice_flat hC ho hm hl hc hil hic (fun t' ht' => by rw [hel] at ht'; cases ht'; exact hdp) hd hok
  | true =>
    obtain ⟨kl, hkl⟩ := intAt_some hil hl
    obtain ⟨kc, hkc⟩ := intAt_some hic hc
    unfold makeSliceD at hd
    rw [hel] at hd
    obtain ⟨hz, hd⟩ := bif_some hd
    rw [hdp, cond_true] at hd
    cases hd
    simp only [Bool.and_eq_true, Bool.or_eq_true, Bool.not_eq_true'] at hz hdp
    have hdok : t.dok = true := by rcases hz.2 with h | h; exact h; rw [h] at hdp; cases hdp.1
    simp only [List.mem_cons, List.not_mem_nil, or_false, forall_eq_or_imp, forall_eq, decide_eq_true_eq] at hok
    obtain ⟨h0, hlc, hmax⟩ := hok
    obtain ⟨E, h1, h2, h3⟩ := hC.el hel
    obtain ⟨i0, g1, g2, g3, g4⟩ := h3.info.info
    obtain ⟨z1, z2⟩ := zeroAT_typed (w := w) (I := I) (m := m) (ρ := ρ) h3
    have hzc := cells_packV h3 (z1.length z2) (ATR.oneCell z1 z2)
    have hzl := z1.length z2
    have hmx : c ≤ 34359738368 := by unfold maxRows at hmax; omega
    have hb : (i0.bytes : Int) * c ≤ 281474976710656 := by
      have h5 : (i0.bytes : Int) ≤ 4096 := by omega
      have := Int.mul_le_mul h5 hmx (by omega) (by omega)
      omega
    have hrun := run_make (P := P) w T E i0 _ h1 g1 g3 kl kc l c h0 hlc hb (by omega)
    have hcells : madeCells (packV t (zcells t)).cells (c.toNat * i0.size) = ((List.replicate l.toNat (zcells t)).flatten ++ (List.replicate (c.toNat - l.toNat) (zcells t)).flatten).toArray := by
      apply Array.ext'
      rw [hzc, g2, ← hzl, madeCells_flat, ← List.flatten_append, List.replicate_append_replicate, show l.toNat + (c.toNat - l.toNat) = c.toNat by omega]
    rw [hcells] at hrun
    generalize hcs : (List.replicate l.toNat (zcells t)).flatten ++ (List.replicate (c.toNat - l.toNat) (zcells t)).flatten = cs at hrun
    have hcl : cs.length = c.toNat * t.size := by
      rw [← hcs]
      simp only [List.length_append, List.length_flatten, List.map_replicate, List.sum_replicate_nat, hzl]
      rw [← Nat.add_mul]
      congr 1
      omega
    have hnewc : Cells (w.alloc (.cells cs.toArray E)) w.heap.size cs := by simpa using Cells.alloc w cs.toArray E
    have hrows : RowsD (w.alloc (.cells cs.toArray E)) w.heap.size t.size (RepD (w.alloc (.cells cs.toArray E)) I t) 0 (List.replicate l.toNat t.dflt) [] := by
      refine zero_rows ((zero_repD (P := P) hdok).1 h3) l.toNat 0 fun j hj => ?_
      rw [Nat.zero_add, hnewc.cell, ← hcs, List.getElem?_append_left (by simpa using hj)]
    obtain ⟨ρ', hd1, hd2, hd3⟩ := Done.absorb (id := dst) (rs := 0) (o := 0) (ki := []) (Bs := []) hm rfl hnewc (by
        simp only [List.length_replicate, hcl, Nat.zero_add]
        exact Nat.mul_le_mul_right _ (by omega)) hrows (by simp) (fun b hb => by
        simp only [List.mem_singleton] at hb
        subst hb
        exact ⟨.inr (Nat.le_refl _), fun hI => absurd (hm.imm _ hI) (Nat.lt_irrefl _)⟩) (by simp) (fun b hb _ => heap_alloc_old w _ b hb) (by simp) rfl rfl rfl
    refine Gives.world (v := .slice (some ⟨w.heap.size, 0, none⟩) l.toNat c.toNat) (w' := w.alloc (.cells cs.toArray E)) (by simp only [execOp, ho, hkl, hkc, Sem.run_bind, hrun, Result.andThen_ok]; rfl) hd1 ?_
    exact slot_deep hd3 hd2 (by simp) (by omega) hnewc (by rw [hcl]; omega)


theorem toD_type : ∀ {v : AT} {u : Ty} {y : DV}, Typed v u → toD m v = some y → y.t = u := by
  intro v
  induction v with
  | leaf t x => intro u y h hv; simp only [toD] at hv; cases hl : t.hasLst <;> rw [hl] at hv <;> simp at hv; subst hv; exact h
  | nil t => intro u y h hv; simp only [toD, Option.some.injEq] at hv; subst hv; exact h.symm
  | whole id st t => intro u y h hv; simp only [toD, Option.map_eq_some_iff] at hv; obtain ⟨r, _, rfl⟩ := hv; exact h.symm
  | pair l r ihl ihr =>
    intro u y h hv
    simp only [Typed] at h
    obtain ⟨a, b, rfl, h1, h2⟩ := h
    simp only [toD] at hv
    split at hv
    · rename_i x y hx hy
      simp only [Option.some.injEq] at hv
      subst hv
      simp [ihl h1 hx, ihr h2 hy]
    · simp at hv
  | nest id st rs row p t =>
    intro u y h hv
    simp only [toD] at hv
    split at hv
    · obtain ⟨h1, h2⟩ := bif_some hv
      simp only [Bool.and_eq_true] at h1
      obtain ⟨z, rfl, _⟩ := nest_data (isSome?_eq h1.2) h1.1.2 h2
      exact h
    · cases hv
  | _ => intro u y h hv; simp [toD] at hv

theorem gives_store {T : Nat} {xo vo : Operand} {ax av : AT} (hC : CxOk P C) (ho : o.op = .store T xo vo) (hm : MemR F m w I ρ) (hx : SlotR w I m ρ ax (a.eval xo)) (hv : SlotR w I m ρ av (a.eval vo))
    (hd : storeD C m T ax av = some d) : Gives P F o a w m I ρ d := by
  by_cases hdeep : ∃ id st row p s fz rs t xs, ax = .ptr id st row p ∧ cur m id st = some ⟨s, fz, .deep rs t xs⟩
  case neg =>
    exact gives_store_flat hC ho hm hx hv (fun id st row p e s fz rs t xs h => hdeep ⟨id, st, row, p, s, fz, rs, t, xs, e, h⟩) hd
  case pos =>
    obtain ⟨id, st, row, p, s, fz, rs, t, xs, rfl, hc⟩ := hdeep
    unfold storeD at hd
    simp only at hd
    cases hu : C.ty T with
    | none => simp [hu] at hd
    | some u =>
    have hT := hC.ty hu
    rw [hu] at hd
    simp only [hc] at hd
    obtain ⟨hb, hst⟩ := cur_some hc
    simp only at hst
    subst hst
    cases fz with
    | true => simp at hd
    | false =>
    obtain ⟨hi, hd⟩ := bif_some hd
    simp only [Bool.and_eq_true, Bool.not_eq_true'] at hi
    obtain ⟨⟨⟨⟨hi1, hi2⟩, hi3⟩, hi5⟩, hi6⟩ := hi
    have hat := isSome?_eq hi1
    have hty := fits_typed hi2
    have hnot : ¬ id ∈ av.ids := fun h => by rw [anyL_beq.2 h] at hi5; cases hi5
    have hnd := nodup_spec.1 hi6
    split at hd
    · rename_i s' y hvv
      split at hd
      · rename_i r hr0
        split at hd
        · rename_i z hz
          cases hd
          have hsu := toD_type hty hvv
          simp only at hsu
          subst hsu
          have hx' := slot_one (a := .ptr id s row p) rfl hx (by simp) (by simp) (by simp) (by simp)
          simp only [ATR] at hx'
          obtain ⟨_, _, h3⟩ := hx'
          obtain ⟨e0, hrow, B, o', e1, e2⟩ := h3 _ hb rfl t xs.length rfl
          simp only [List.cons.injEq, and_true] at e2
          obtain ⟨mid', hv', hmid⟩ := ValR.pack hty ((slotR_val hty).1 hv)
          have hlen := hty.length hmid
          have hone := ATR.oneCell hty hmid
          have hcells : (a.eval vo).cells = mid'.toArray := by rw [hv']; exact cells_packV hT hlen hone
          obtain ⟨Bv, Kv, r1, r2, r3, _⟩ := toD_both (I' := I) hm (fun _ h => h) hvv hmid (fun i _ B hB => hB.notI hm) hnd
          have r2' := (List.nodup_append.1 r2).1
          have r3' : ∀ b ∈ Bv, ∃ i ∈ av.ids, Mine m ρ i b := fun b hb' => r3 b (List.mem_append_left _ hb')
          obtain ⟨B', o'', cs, rcs, pre, mid, post, D1, D2, B1, Bm, B2, y', f1, f2, f3, f4, f5, f6, f7, f8, f9, f10, f11, f12, f13⟩ := deep_at hm hb hrow hi3 hat
          rw [e1] at f1
          cases f1
          have hml := RepD.length f12
          have hrl : rcs.length = t.off p + s'.size + post.length := by rw [f10, List.length_append, List.length_append, f11, hml]
          have hrowle : (row + 1) * t.size ≤ xs.length * t.size := Nat.mul_le_mul_right _ hrow
          rw [Nat.add_mul] at hrowle
          have hfit : o' + row * t.size + t.off p + mid'.length ≤ cs.length := by omega
          obtain ⟨w', hr, hc', hsame, hsize, hos, htape, hout⟩ := run_storeAt hT hcells hlen hone f2 hfit
          have hlen' := putAt_length hfit
          have hmB : Mine m ρ id B := ⟨_, hb, trivial, rfl, .inl ⟨o', e1⟩⟩
          have hmD : ∀ b ∈ ρ.d id, Mine m ρ id b := fun b hb' => ⟨_, hb, trivial, rfl, .inr ⟨trivial, hb'⟩⟩
          obtain ⟨dq1, dq2⟩ := hm.dp id _ hb trivial
          have hBd : ¬ B ∈ ρ.d id := fun hin => (dq2 B hin).2.1 id _ _ hb trivial e1
          have hBv : ∀ b ∈ Bv, b ≠ B ∧ ¬ b ∈ ρ.d id := by
            intro b hb'
            obtain ⟨i, hi, hmi⟩ := r3' b hb'
            refine ⟨fun e => ?_, fun e => ?_⟩
            · subst e
              have := hmi.inj hm hmB
              subst this
              exact hnot hi
            · have := hmi.inj hm (hmD b e)
              subst this
              exact hnot hi
          have ha : Agree I I w w' := ⟨fun _ h => h, fun k hk => hsame k (fun e => f4 (e ▸ hk))⟩
          have hsub : ∀ b ∈ D1 ++ (B1 ++ B2) ++ D2, b ∈ ρ.d id := by
            intro b hb'
            rw [f6]
            simp only [List.mem_append] at hb' ⊢
            rcases hb' with (h | h | h) | h <;> simp [h]
          obtain ⟨x', g1, g2⟩ := f13 w' I y mid' Bv ha (fun b hb' => ⟨hsame b (fun e => hBd (e ▸ hsub b hb')), fun h => h⟩) (fun k hk => by
              rw [hc'.cell, f2.cell, putAt_get hfit, if_neg (by omega)]) (fun j hj => by
              rw [hc'.cell, putAt_get hfit]
              by_cases hin : t.off p ≤ j ∧ j < t.off p + mid'.length
              · rw [if_pos (by omega), List.append_assoc, List.getElem?_append_right (by omega), List.getElem?_append_left (by omega)]
                congr 1
                omega
              · rw [if_neg (by omega), ← f2.cell, f8 j hj, f10]
                by_cases hlo : j < pre.length
                · rw [List.append_assoc, List.append_assoc, List.getElem?_append_left hlo, List.getElem?_append_left hlo]
                · rw [List.getElem?_append_right (by simp; omega), List.getElem?_append_right (by simp; omega)]
                  simp only [List.length_append]
                  congr 1
                  omega) (RepD.mono ha (fun b hb' => ⟨hsame b (hBv b hb').1, fun h => h⟩) r1)
          rw [g1] at hr0
          cases hr0
          have : z = x' := by simpa [DV.as] using hz.symm
          subst this
          have hmem : ∀ b ∈ D1 ++ (B1 ++ Bv ++ B2) ++ D2, b ∈ Bv ∨ b ∈ D1 ++ (B1 ++ B2) ++ D2 := by
            intro b hb'
            simp only [List.mem_append] at hb' ⊢
            rcases hb' with (h | (h | h) | h) | h <;> simp [h]
          have hndD : (B :: (D1 ++ (B1 ++ Bv ++ B2) ++ D2)).Nodup := by
            rw [List.nodup_cons]
            refine ⟨fun h => ?_, ?_⟩
            · rcases hmem B h with h | h
              · exact (hBv B h).1 rfl
              · exact hBd (hsub B h)
            · have e1 : (D1 ++ (B1 ++ Bv ++ B2) ++ D2).Perm (Bv ++ (D1 ++ (B1 ++ B2) ++ D2)) := by
                have e1 : D1 ++ (B1 ++ Bv ++ B2) ++ D2 = ((D1 ++ B1) ++ Bv) ++ (B2 ++ D2) := by simp
                have e2 : Bv ++ (D1 ++ (B1 ++ B2) ++ D2) = (Bv ++ (D1 ++ B1)) ++ (B2 ++ D2) := by simp
                rw [e1, e2]
                exact List.Perm.append_right _ List.perm_append_comm
              have e2 : (ρ.d id).Perm (Bm ++ (D1 ++ (B1 ++ B2) ++ D2)) := by
                rw [f6]
                have e1 : D1 ++ (B1 ++ Bm ++ B2) ++ D2 = ((D1 ++ B1) ++ Bm) ++ (B2 ++ D2) := by simp
                have e2 : Bm ++ (D1 ++ (B1 ++ B2) ++ D2) = (Bm ++ (D1 ++ B1)) ++ (B2 ++ D2) := by simp
                rw [e1, e2]
                exact List.Perm.append_right _ List.perm_append_comm
              refine e1.nodup_iff.2 (List.nodup_append.2 ⟨r2', (List.nodup_append.1 (e2.nodup_iff.1 dq1)).2.1, ?_⟩)
              rintro b hb1 b' hb2 rfl
              exact (hBv b hb1).2 (hsub b hb2)
          have hlenx : (xs.set row z).length = xs.length := List.length_set
          have hnew := New.deep (id := id) (st := s) (rs := rs + 1) hc' (by rw [hlen', hlenx]; exact f3) g2 f4 hndD
          have hstay : Stays m ρ w w' ⟨fun _ => some (B, o'), fun _ => D1 ++ (B1 ++ Bv ++ B2) ++ D2⟩ id ⟨s, false, .deep (rs + 1) t (xs.set row z)⟩ := by
            refine ⟨_, hb, trivial, rfl, ⟨Nat.le_succ _, rfl, hlenx.symm⟩, e1.symm, fun C o2 cs' hp hcs => ?_, fun r' _ _ _ _ h h' => ?_⟩
            · rw [e1] at hp
              cases hp
              have := f2.unique hcs
              subst this
              exact ⟨_, hc', by omega⟩
            · cases h
              simp only [BC.deep.injEq] at h'
              omega
          obtain ⟨c1, c2⟩ := Done.called (ke := [id]) (ki := av.ids) (le := []) (Bs := [B]) hm (by simp) (fun b hb' => by
              simp only [List.mem_singleton] at hb'
              subst hb'
              exact ⟨id, by simp, hmB⟩) hnew (fun i b hf => by
              obtain ⟨rfl, rfl⟩ := find_one hf
              exact .inr ⟨by simp, hstay⟩) (fun i hi => by
              simp only [List.mem_singleton] at hi
              subst hi
              exact ⟨_, by rw [find_cons, if_pos rfl]⟩) (fun b hb' => by
              rcases List.mem_cons.1 hb' with e | h
              · subst e; exact ⟨.inl ⟨id, by simp, hmB⟩, f4⟩
              · rcases hmem b h with h | h
                · obtain ⟨i, hi, hmi⟩ := r3' b h
                  exact ⟨.inl ⟨i, by simp [hi], hmi⟩, hmi.notI hm⟩
                · exact ⟨.inl ⟨id, by simp, hmD b (hsub b h)⟩, (hmD b (hsub b h)).notI hm⟩) (fun _ h => Ifrz_nil h) (fun b hI => ha.same b hI)
            (fun b hI => ⟨by rw [hsize]; exact hm.imm b hI, .inl (.inl hI)⟩) (fun b _ hb' => hsame b (by simpa using hb')) (by rw [hsize]; exact Nat.le_refl _) hos htape hout
          have hmm : m.upd (app [(id, (⟨s, false, .deep (rs + 1) t (xs.set row z)⟩ : Blk))] (app (killed m av.ids) (frz m []))) = m.upd ((id, ⟨s, false, .deep (rs + 1) t (xs.set row z)⟩) :: killed m av.ids) := by
            simp [app_eq, frz, fmapL]
          rw [hmm] at c1
          exact Gives.skip (w' := w') (by simp [execOp, ho, e2, hr]) c1 rfl
        · cases hd
      · cases hd
    · cases hd

end
end Go.Ab
namespace Go.Ab
section
variable {P : Program} {F : Fix} {C : Cx} {o : Oper} {a : Act} {w w' : World} {m : MF} {I I' : Nat → Prop} {ρ : Pl} {d : Did}

/-- rows that keep their blocks, wherever their cells come to lie -/
def Moves (w : World) (I : Nat → Prop) (t : Ty) (xs : List t.den) (Ds : List Nat) (news : List Value) : Prop :=
  ∀ (w' : World) (B' off' : Nat), Agree I I w w' → (∀ j, j < news.length → w'.cell? ⟨B', off' + j, none⟩ = news[j]?) → (∀ b ∈ Ds, w'.heap[b]? = w.heap[b]?) → RowsD w' B' t.size (RepD w' I t) off' xs Ds

theorem deep_tail {jd sj rs : Nat} {fz : Bool} {t u : Ty} {ys : List t.den} {v : Value} (hm : MemR F m w I ρ) (hs : SlotR w I m ρ (.whole jd sj u) v) (hb : m jd = some ⟨sj, fz, .deep rs t ys⟩) :
    ∃ news, TailAt P w t.size v ys.length news ∧ news.length = ys.length * t.size ∧ (∀ v ∈ news, v.oneCell' = true) ∧ Moves w I t ys (ρ.d jd) news := by
  obtain ⟨ad, cap, e1, e2, e3⟩ := hdr_wholeA hs hb rfl rfl
  subst e1
  have hblk := hm.blk jd _ hb
  simp only [BlkR] at hblk
  obtain ⟨_, hblk⟩ := hblk
  have hempty : ys = [] → ρ.d jd = [] → ∃ news, TailAt P w t.size (.slice ad ys.length cap) ys.length news ∧ news.length = ys.length * t.size ∧ (∀ v ∈ news, v.oneCell' = true) ∧ Moves w I t ys (ρ.d jd) news := by
    intro h1 h2
    subst h1
    refine ⟨[], ⟨by simp [Builtin.lenOf], fun w' _ => ?_⟩, by simp, by simp, fun w' B' off' _ _ _ => ?_⟩
    · cases ad <;> simp [Builtin.firstCells, loadCells, loadCellsFrom]
    · rw [h2]; rfl
  rcases hblk with ⟨f1, _, f3⟩ | ⟨B, o', cs, f1, f2, f3, f4, f5⟩
  · exact hempty f1 f3
  · rcases e3 with ⟨g1, g2, g3⟩ | ⟨B', o'', cs', g1, g2, g3, g4⟩
    · rw [g3] at f1; cases f1
    · rw [f1] at g1
      cases g1
      subst g2
      obtain ⟨news, k1, k2, k3, k4⟩ := f4.cells
      refine ⟨news, ⟨by simp [Builtin.lenOf], fun w' hw => ?_⟩, k1, k3 fun x vs D h => RepD.oneCell h, fun w' B' off' ha hc hD => k4 w' B' off' _ hc fun x vs D hsub h => RepD.mono ha (fun b hb => ⟨hD b (hsub b hb), fun h => h⟩) h⟩
      have : (loadCells ⟨B, o', none⟩ news.length).run P w' = .ok news.toArray w' := run_loadCells_at fun j hj => by
        rw [← k2 j hj]
        simp [World.cell?, hw]
      simp [Builtin.firstCells, ← k1, this]

theorem upd_self (m : MF) (id : Nat) (b : Blk) (l : List Nat) : m.upd (app [(id, b)] (app (killed m (id :: l)) (frz m []))) = m.upd ((id, b) :: killed m l) := by
  funext i
  have e : app [(id, b)] (app (killed m (id :: l)) (frz m [])) = (id, b) :: killed m (id :: l) := by simp [app_eq, frz, fmapL]
  unfold MF.upd
  rw [e, find_cons, find_cons, find_killed, find_killed]
  by_cases h : id = i
  · rw [if_pos h, if_pos h]
  · have : ¬ i = id := fun e => h e.symm
    rw [if_neg h, if_neg h]
    simp only [List.mem_cons, this, false_or]

theorem upd_frz0 (m : MF) (id : Nat) (b : Blk) (l : List Nat) : m.upd (app [(id, b)] (app (killed m l) (frz m []))) = m.upd ((id, b) :: killed m l) := by
  simp [app_eq, frz, fmapL]

/-- an empty deep list without memory: the world behind it -/
theorem Done.absorb0 {id st rs : Nat} {t : Ty} {ki : List Nat} (hm : MemR F m w I ρ) (hst : st = newSt m id) :
    ∃ ρ', Done F m (m.upd (app [(id, ⟨st, false, .deep rs t []⟩)] (app (killed m ki) (frz m [])))) w w I I ρ ρ' ∧ ρ' id = none ∧ (m.upd (app [(id, ⟨st, false, .deep rs t []⟩)] (app (killed m ki) (frz m [])))) id = some ⟨st, false, .deep rs t []⟩ := by
  have hnew := New.deep0 (w := w) (I := I) (id := id) (st := st) (rs := rs) (t := t)
  obtain ⟨h1, h2⟩ := Done.called (ke := []) (ki := ki) (le := []) (Bs := []) hm (by simp) (by simp) hnew (fun i b hf => by
      obtain ⟨rfl, rfl⟩ := find_one hf
      exact .inl hst) (by simp) (by simp) (fun _ h => Ifrz_nil h) (fun b hI => rfl) (fun b hI => ⟨hm.imm b hI, .inl (.inl hI)⟩) (fun _ _ _ => rfl) (Nat.le_refl _) rfl rfl rfl
  obtain ⟨h3, h4, _⟩ := h2 id _ (by rw [find_cons, if_pos rfl])
  exact ⟨_, h1, h4, h3⟩

theorem mine_d {id : Nat} {b : Blk} (hb : m id = some b) (hf : b.fz = false) (hd : b.isDeep) : ∀ B ∈ ρ.d id, Mine m ρ id B := fun B hB => ⟨b, hb, deep_live hd, hf, .inr ⟨hd, hB⟩⟩

theorem gives_append {T T2 : Nat} {xo yo : Operand} {ax ay : AT} {dst : Nat} {t : Ty} {dT2 : TypeDesc} (hC : CxOk P C) (ho : o.op = .call ⟨.builtin .append, #[xo, yo], #[T, T2]⟩) (hm : MemR F m w I ρ)
    (hx : SlotR w I m ρ ax (a.eval xo)) (hy : SlotR w I m ρ ay (a.eval yo)) (ht : C.el T = some t) (hT2 : P.underlying T2 = some dT2) (hk : ∀ k, dT2 ≠ .int k)
    (hd : appendD C m dst t ax ay = some d) (hok : ∀ b ∈ d.ok, b = true) : Gives P F o a w m I ρ d := by
  cases hdp : isDeepAt m ay with
  | false => exact gives_append_flat hC ho hm hx hy ht hT2 hk hdp hd hok
  | true =>
  obtain ⟨E, h1, h2, h3⟩ := hC.el ht
  obtain ⟨i0, g1, g2, g3, g4⟩ := h3.info.info
  obtain ⟨z1, z2⟩ := zeroAT_typed (w := w) (I := I) (m := m) (ρ := ρ) h3
  have hzc := cells_packV h3 (z1.length z2) (ATR.oneCell z1 z2)
  have hzl := z1.length z2
  have hzs : (packV t (zcells t)).cells.size = t.size := by rw [hzc]; simpa using hzl
  have hexec : ∀ {v : Value} {w' : World}, (Builtin.append_ #[T, T2] o.type #[a.eval xo, a.eval yo]).run P w = .ok v w' → (execOp a.eval o).run P w = .ok (.value v) w' := by
    intro v w' h
    simp [execOp, ho, resolve, invoke, builtin, h]
  unfold appendD at hd
  rw [hdp, cond_true] at hd
  unfold appendDD at hd
  split at hd
  case h_2 => cases hd
  rename_i jd sj u'
  split at hd
  case h_2 => cases hd
  rename_i sj' rs' v zs hcj
  obtain ⟨hbj, hsj⟩ := cur_some hcj
  simp only at hsj
  subst hsj
  split at hd
  case h_1 => cases hd
  rename_i ys hys
  have := as_some hys
  cases this
  obtain ⟨news, ht1, hnl, hn1, hmv⟩ := deep_tail (P := P) hm hy hbj
  rw [← g2] at ht1
  have hmj : ∀ b ∈ ρ.d jd, Mine m ρ jd b := mine_d hbj rfl trivial
  obtain ⟨dj1, dj2⟩ := hm.dp jd _ hbj trivial
  have hdlt : ∀ {i b : Nat}, Mine m ρ i b → b < w.heap.size := fun h => h.lt hm
  -- a new list
  have fresh : ∀ {y : AT}, y = ax → (y = .nil t ∨ y = .nil0) → ys.length ≤ maxRows →
      Gives P F o a w m I ρ ⟨.whole dst (newSt m dst) t, (dst, ⟨newSt m dst, false, .deep 0 t ys⟩) :: killed m [jd], [decide (ys.length ≤ maxRows)]⟩ := by
    intro y hya hyn hmax
    subst hya
    have hv := slot_nil hyn hx
    cases hys0 : ys with
    | nil =>
      subst hys0
      have hn0 : news = [] := by rw [← List.length_eq_zero_iff, hnl]; simp
      subst hn0
      obtain ⟨ρ', q1, q2, q3⟩ := Done.absorb0 (id := dst) (rs := 0) (t := t) (ki := [jd]) hm rfl
      rw [upd_frz0] at q1 q3
      refine Gives.world (v := .slice none 0 0) (w' := w) (hexec ?_) q1 (slot_deep0 q3 q2)
      rw [hv]
      exact run_append_in h1 hT2 hk g1 ht1 (Nat.le_refl _) rfl
    | cons y0 ys0 =>
      have hpos : 0 < ys.length := by rw [hys0]; simp
      rw [← hys0]
      have hrun := run_append_out (ty := o.type) (base := none) (sLen := 0) (sCap := 0) (olds := []) h1 hT2 hk g1 g3 ht1 (by omega) (fun w' _ => by simp [Builtin.firstCells]) (by simpa [maxRows] using hmax) g4
      have hge := grownCap_ge w (0 + ys.length) 0 E
      generalize hrest : (Builtin.zeroCells (packV t (zcells t)).cells (grownCap w (0 + ys.length) 0 E - (0 + ys.length))).toList = rest at hrun
      have hrl : rest.length = (grownCap w (0 + ys.length) 0 E - (0 + ys.length)) * t.size := by rw [← hrest, size_zc, hzs]
      generalize grownCap w (0 + ys.length) 0 E = cap at hrun hge hrl
      have hnewc : Cells (w.drew.alloc (.cells ([] ++ news ++ rest).toArray E)) w.heap.size (news ++ rest) := by
        exact Cells.alloc w.drew ([] ++ news ++ rest).toArray E
      have hag : Agree I I w (w.drew.alloc (.cells ([] ++ news ++ rest).toArray E)) := ⟨fun _ h => h, fun b hb => heap_alloc_old w.drew _ b (hm.imm b hb)⟩
      have hrows := hmv (w.drew.alloc (.cells ([] ++ news ++ rest).toArray E)) w.heap.size 0 hag (fun j hj => by rw [Nat.zero_add, hnewc.cell, List.getElem?_append_left hj]) (fun b hb => heap_alloc_old w.drew _ b (hdlt (hmj b hb)))
      have hmul : ys.length * t.size + (cap - (0 + ys.length)) * t.size = cap * t.size := by rw [← Nat.add_mul]; congr 1; omega
      obtain ⟨ρ', q1, q2, q3⟩ := Done.absorb (id := dst) (rs := 0) (o := 0) (ki := [jd]) (Bs := []) hm rfl hnewc (by simp only [List.length_append]; omega) hrows (by
          rw [List.nodup_cons]
          exact ⟨fun h => absurd (hdlt (hmj _ h)) (Nat.lt_irrefl _), dj1⟩) (fun b hb => by
          rcases List.mem_cons.1 hb with e | h
          · subst e; exact ⟨.inr (Nat.le_refl _), fun hI => absurd (hm.imm _ hI) (Nat.lt_irrefl _)⟩
          · exact ⟨.inl ⟨jd, by simp, hmj b h⟩, (hmj b h).notI hm⟩) (by simp) (fun b hb _ => heap_alloc_old w.drew _ b hb) (by simp) rfl rfl rfl
      rw [upd_frz0] at q1 q3
      rw [← hv] at hrun
      refine Gives.world (hexec hrun) q1 (slot_deep q3 q2 (by omega) hge hnewc (by simp only [List.length_append]; omega))
  simp only at hd
  split at hd
  · -- nil
    rename_i u
    obtain ⟨hu, hd1⟩ := bif_some hd
    obtain ⟨_, hd2⟩ := bif_some hd1
    have := Ty.is_eq hu
    subst this
    cases hd2
    exact fresh rfl (.inl rfl) (by simpa using hok)
  · obtain ⟨_, hd⟩ := bif_some hd
    cases hd
    exact fresh rfl (.inr rfl) (by simpa using hok)
  · rename_i id st u
    split at hd
    case h_2 => cases hd
    rename_i st' rs v' ws hci
    obtain ⟨hbi, hsi⟩ := cur_some hci
    simp only at hsi
    subst hsi
    split at hd
    case h_2 => cases hd
    rename_i xs hxs
    have := as_some hxs
    cases this
    obtain ⟨hu, hd1⟩ := bif_some hd
    cases hd1
    simp only [Bool.and_eq_true, Bool.not_eq_true'] at hu
    have hut := Ty.is_eq hu.1
    subst hut
    have hne : id ≠ jd := fun e => by rw [e, Nat.beq_refl] at hu; cases hu.2
    have hmax : xs.length + ys.length ≤ maxRows := by simpa using hok
    obtain ⟨olds, ot1, onl, on1, omv⟩ := deep_tail (P := P) hm hx hbi
    obtain ⟨ad, cap, e1, e2, e3⟩ := hdr_wholeA hx hbi rfl rfl
    have hmi : ∀ b ∈ ρ.d id, Mine m ρ id b := mine_d hbi rfl trivial
    obtain ⟨di1, di2⟩ := hm.dp id _ hbi trivial
    have hdd : (ρ.d id ++ ρ.d jd).Nodup := List.nodup_append.2 ⟨di1, dj1, fun b hb b' hb' e => by
      subst e
      exact hne ((hmi b hb).inj hm (hmj b hb'))⟩
    have hst1 : st' + 1 = newSt m id := by simp [newSt, hbi]
    by_cases hroom : xs.length + ys.length ≤ cap
    · rcases e3 with ⟨k1, k2, k3⟩ | ⟨B, o', cs, k1, k2, k3, k4⟩
      · subst k1 k2
        have hx0 : xs = [] := by rw [← List.length_eq_zero_iff]; omega
        have hy0 : ys = [] := by rw [← List.length_eq_zero_iff]; omega
        subst hx0 hy0
        have hn0 : news = [] := by rw [← List.length_eq_zero_iff, hnl]; simp
        subst hn0
        obtain ⟨ρ', q1, q2, q3⟩ := Done.absorb0 (id := id) (rs := rs + 1) (t := u) (ki := [id, jd]) hm hst1
        rw [upd_self] at q1 q3
        refine Gives.world (v := .slice none 0 0) (w' := w) (hexec ?_) q1 (slot_deep0 q3 q2)
        rw [e1]
        exact run_append_in h1 hT2 hk g1 ht1 (Nat.le_refl _) rfl
      · subst k2
        have hblk := hm.blk id _ hbi
        simp only [BlkR] at hblk
        rcases hblk.2 with ⟨_, hno, _⟩ | ⟨B', o'', cs', f1, f2, f3, f4, f5⟩
        · rw [k1] at hno; cases hno
        · rw [k1] at f1
          cases f1
          have := k3.unique f2
          subst this
          have hmB : Mine m ρ id B := ⟨_, hbi, trivial, rfl, .inl ⟨o', k1⟩⟩
          have hmul : xs.length * u.size + ys.length * u.size ≤ cap * u.size := by rw [← Nat.add_mul]; exact Nat.mul_le_mul_right _ hroom
          have hle : o' + xs.length * u.size + news.length ≤ cs.length := by omega
          obtain ⟨w', hr, hc', hsame, hsize, hos, htape, hout⟩ := run_storeCells_cells P B (o' + xs.length * u.size) news 0 cs w k3 (by simpa using hle) hn1
          simp only [Nat.add_zero] at hc'
          have hlen' := putAt_length hle
          have hag : Agree I I w w' := ⟨fun _ h => h, fun k hk => hsame k (fun e => f5 (e ▸ hk))⟩
          have hBi : ∀ b ∈ ρ.d id, b ≠ B := fun b hb e => (di2 b hb).2.1 id _ _ hbi trivial (e ▸ k1)
          have hBj : ∀ b ∈ ρ.d jd, b ≠ B := fun b hb e => by
            subst e
            exact hne (hmB.inj hm (hmj b hb))
          -- the old rows lie where they lay
          have hr1 : RowsD w' B u.size (RepD w' I u) o' xs (ρ.d id) := by
            obtain ⟨os', p1, p2, _, p4⟩ := f4.cells
            refine p4 w' B o' _ (fun j hj => ?_) fun x vs D hsub h => RepD.mono hag (fun b hb => ⟨hsame b (hBi b (hsub b hb)), fun h => h⟩) h
            rw [← p2 j hj, hc'.cell, k3.cell, putAt_get hle, if_neg (by omega)]
          have hr2 : RowsD w' B u.size (RepD w' I u) (o' + xs.length * u.size) ys (ρ.d jd) := hmv w' B _ hag (fun j hj => by
            rw [hc'.cell, putAt_get hle, if_pos (by omega)]
            congr 1
            omega) (fun b hb => hsame b (hBj b hb))
          obtain ⟨ρ', q1, q2, q3⟩ := Done.absorb (id := id) (st := st' + 1) (rs := rs + 1) (ki := [id, jd]) (Bs := [B]) hm hst1 hc' (by rw [hlen', List.length_append, Nat.add_mul]; omega) (hr1.app hr2) (by
              rw [List.nodup_cons]
              refine ⟨fun h => ?_, hdd⟩
              rcases List.mem_append.1 h with h | h
              · exact hBi B h rfl
              · exact hBj B h rfl) (fun b hb => by
              have hor : Mine m ρ id b ∨ Mine m ρ jd b := by
                rcases List.mem_cons.1 hb with e | h
                · subst e; exact .inl hmB
                · rcases List.mem_append.1 h with h | h
                  · exact .inl (hmi b h)
                  · exact .inr (hmj b h)
              rcases hor with h | h
              · exact ⟨.inl ⟨id, by simp, h⟩, h.notI hm⟩
              · exact ⟨.inl ⟨jd, by simp, h⟩, h.notI hm⟩) (fun b hb => by
              simp only [List.mem_singleton] at hb
              subst hb
              exact ⟨id, by simp, hmB⟩) (fun b _ hb => hsame b (by simpa using hb)) (by rw [hsize]; exact Nat.le_refl _) hos htape hout
          rw [upd_self] at q1 q3
          refine Gives.world (v := .slice (some ⟨B, o', none⟩) (xs.length + ys.length) cap) (w' := w') (hexec ?_) q1 (slot_deep q3 q2 (by simp) hroom hc' (by rw [hlen']; omega))
          rw [e1]
          exact run_append_in h1 hT2 hk g1 ht1 hroom (by simp only [Addr.add_at, g2]; exact hr)
    · have ho2 : ∀ w' : World, w'.heap = w.heap → (Builtin.firstCells i0.size xs.length (.slice ad xs.length cap)).run P w' = .ok olds.toArray w' := by
        intro w' hw
        have := ot1.2 w' hw
        rw [e1] at this
        rw [g2]
        exact this
      have hrun := run_append_out (ty := o.type) h1 hT2 hk g1 g3 ht1 (by omega) ho2 (by simpa [maxRows] using hmax) g4
      have hge := grownCap_ge w (xs.length + ys.length) cap E
      generalize hrest : (Builtin.zeroCells (packV u (zcells u)).cells (grownCap w (xs.length + ys.length) cap E - (xs.length + ys.length))).toList = rest at hrun
      have hrl : rest.length = (grownCap w (xs.length + ys.length) cap E - (xs.length + ys.length)) * u.size := by rw [← hrest, size_zc, hzs]
      generalize grownCap w (xs.length + ys.length) cap E = cap' at hrun hge hrl
      have hnewc : Cells (w.drew.alloc (.cells (olds ++ news ++ rest).toArray E)) w.heap.size (olds ++ news ++ rest) := Cells.alloc w.drew (olds ++ news ++ rest).toArray E
      have hag : Agree I I w (w.drew.alloc (.cells (olds ++ news ++ rest).toArray E)) := ⟨fun _ h => h, fun b hb => heap_alloc_old w.drew _ b (hm.imm b hb)⟩
      have hr1 := omv (w.drew.alloc (.cells (olds ++ news ++ rest).toArray E)) w.heap.size 0 hag (fun j hj => by rw [Nat.zero_add, hnewc.cell, List.append_assoc, List.getElem?_append_left hj]) (fun b hb => heap_alloc_old w.drew _ b (hdlt (hmi b hb)))
      have hr2 := hmv (w.drew.alloc (.cells (olds ++ news ++ rest).toArray E)) w.heap.size (0 + xs.length * u.size) hag (fun j hj => by
        rw [hnewc.cell, List.append_assoc, List.getElem?_append_right (by omega), List.getElem?_append_left (by omega)]
        congr 1
        omega) (fun b hb => heap_alloc_old w.drew _ b (hdlt (hmj b hb)))
      have hmul : xs.length * u.size + ys.length * u.size + (cap' - (xs.length + ys.length)) * u.size = cap' * u.size := by rw [← Nat.add_mul, ← Nat.add_mul]; congr 1; omega
      obtain ⟨ρ', q1, q2, q3⟩ := Done.absorb (id := id) (st := st' + 1) (rs := rs + 1) (o := 0) (ki := [id, jd]) (Bs := []) hm hst1 hnewc (by simp only [List.length_append, Nat.add_mul]; omega) (hr1.app hr2) (by
          rw [List.nodup_cons]
          refine ⟨fun h => ?_, hdd⟩
          rcases List.mem_append.1 h with h | h
          · exact absurd (hdlt (hmi _ h)) (Nat.lt_irrefl _)
          · exact absurd (hdlt (hmj _ h)) (Nat.lt_irrefl _)) (fun b hb => by
          rcases List.mem_cons.1 hb with e | h
          · subst e; exact ⟨.inr (Nat.le_refl _), fun hI => absurd (hm.imm _ hI) (Nat.lt_irrefl _)⟩
          · rcases List.mem_append.1 h with h | h
            · exact ⟨.inl ⟨id, by simp, hmi b h⟩, (hmi b h).notI hm⟩
            · exact ⟨.inl ⟨jd, by simp, hmj b h⟩, (hmj b h).notI hm⟩) (by simp) (fun b hb _ => heap_alloc_old w.drew _ b hb) (by simp) rfl rfl rfl
      rw [upd_self] at q1 q3
      rw [← e1] at hrun
      exact Gives.world (hexec hrun) q1 (slot_deep q3 q2 (by simp) hge hnewc (by simp only [List.length_append]; omega))
  · cases hd

end
end Go.Ab
namespace Go.Ab
section
variable {P : Program} {F : Fix} {C : Cx} {o : Oper} {a : Act} {w w' : World} {m : MF} {I I' : Nat → Prop} {ρ : Pl} {d : Did}

theorem litRowsD_ok {t : Ty} {T' : Nat} {ρf : Operand → AT} (hT : TyOk P t T') (hm : MemR F m w I ρ) :
    ∀ (ps : List (Nat × Operand)) {n : Nat} {ys : List t.den} {pre post : List Value}, (∀ p ∈ ps, SlotR w I m ρ (ρf p.2) (a.eval p.2)) →
      (bindL (fun p : Nat × AT => p.2.ids) (mapL (fun p => (p.1, ρf p.2)) ps)).Nodup → litRowsD m t n (mapL (fun p => (p.1, ρf p.2)) ps) = some ys → pre.length = n * t.size → post.length = ps.length * t.size →
      ∃ news Ds, Instr.fill (fun i => some (i * t.size, t.size)) (pre ++ post).toArray (ps.map fun p => (p.1, a.eval p.2)) = some (pre ++ news).toArray ∧ news.length = ps.length * t.size ∧ ys.length = ps.length ∧
        Ds.Nodup ∧ (∀ b ∈ Ds, ∃ i ∈ bindL (fun p : Nat × AT => p.2.ids) (mapL (fun p => (p.1, ρf p.2)) ps), Mine m ρ i b) ∧ Moves w I t ys Ds news
  | [], n, ys, pre, post, _, _, h, hpre, hpost => by
    simp only [mapL, litRowsD, Option.some.injEq] at h
    subst h
    have : post = [] := by rw [← List.length_eq_zero_iff, hpost]; simp
    subst this
    exact ⟨[], [], by simp [Instr.fill], by simp, rfl, by simp, by simp, fun w' B' off' _ _ _ => rfl⟩
  | (i, x) :: ps, n, ys, pre, post, hs, hnd, h, hpre, hpost => by
    simp only [mapL, litRowsD] at h
    obtain ⟨hb, h1⟩ := bif_some h
    simp only [Bool.and_eq_true] at hb
    have hi := Nat.eq_of_beq_eq_true hb.1
    subst hi
    split at h1
    · rename_i d0 hd0
      split at h1
      · rename_i y ys' hy hys
        cases h1
        have e0 := as_some hy
        subst e0
        have hty := fits_typed hb.2
        have hx := coerceTo_ok (u := some t) (hs (i, x) (by simp))
        obtain ⟨mid', hv, hmid⟩ := ValR.pack hty ((slotR_val hty).1 hx)
        have hlen := hty.length hmid
        have hcells : (a.eval x).cells = mid'.toArray := by rw [hv]; exact cells_packV hT hlen (ATR.oneCell hty hmid)
        have hidsub : ∀ j ∈ (coerceTo (some t) (ρf x)).ids, j ∈ (ρf x).ids := by
          intro j hj
          unfold coerceTo at hj
          split at hj
          · simp [AT.ids] at hj
          · exact hj
        simp only [mapL, bindL, app_eq] at hnd
        have hnd' := List.nodup_append.1 hnd
        have hidn : (coerceTo (some t) (ρf x)).ids.Nodup := by
          unfold coerceTo
          split
          · simp [AT.ids]
          · exact hnd'.1
        obtain ⟨Bv, Kv, r1, r2, r3, _⟩ := toD_both (I' := I) hm (fun _ h => h) hd0 hmid (fun i _ B hB => hB.notI hm) hidn
        have hpl : post.length = t.size + ps.length * t.size := by rw [hpost, List.length_cons, Nat.add_mul]; omega
        obtain ⟨mid, post', rfl, hml⟩ : ∃ mid post', post = mid ++ post' ∧ mid.length = t.size := ⟨post.take t.size, post.drop t.size, (List.take_append_drop _ _).symm, by rw [List.length_take]; omega⟩
        obtain ⟨news, Ds, k1, k2, k3, k4, k5, k6⟩ := litRowsD_ok hT hm ps (n := i + 1) (pre := pre ++ mid') (post := post') (fun p hp => hs p (by simp [hp])) hnd'.2.1 hys (by rw [List.length_append, hpre, hlen, Nat.add_mul]; omega) (by simp only [List.length_append] at hpl; omega)
        have hr3 : ∀ b ∈ Bv, ∃ j ∈ (ρf x).ids, Mine m ρ j b := fun b hb => by
          obtain ⟨j, hj, h⟩ := r3 b (List.mem_append_left _ hb)
          exact ⟨j, hidsub j hj, h⟩
        refine ⟨mid' ++ news, Bv ++ Ds, ?_, by rw [List.length_append, k2, hlen, List.length_cons, Nat.add_mul]; omega, by simp [k3], nodup_two hm hnd (List.nodup_append.1 r2).1 k4 hr3 k5, fun b hb => ?_, fun w' B' off' ha hc hD => ?_⟩
        · simp only [List.map_cons]
          rw [← List.append_assoc, fill_step (n := t.size) (by rw [hpre]) hcells hml hlen]
          simpa [List.append_assoc] using k1
        · simp only [mapL, bindL, app_eq]
          rcases List.mem_append.1 hb with h | h
          · obtain ⟨j, hj, h⟩ := hr3 b h; exact ⟨j, by simp [hj], h⟩
          · obtain ⟨j, hj, h⟩ := k5 b h; exact ⟨j, by simp [hj], h⟩
        · refine ⟨mid', Bv, Ds, rfl, hlen, fun j hj => ?_, RepD.mono ha (fun b hb => ⟨hD b (List.mem_append_left _ hb), fun h => h⟩) r1, k6 w' B' (off' + t.size) ha (fun j hj => ?_) (fun b hb => hD b (List.mem_append_right _ hb))⟩
          · rw [hc j (by simp; omega), List.getElem?_append_left (by omega)]
          · have := hc (t.size + j) (by simp; omega)
            rw [← Nat.add_assoc] at this
            rw [this, List.getElem?_append_right (by omega), hlen]
            congr 1
            omega
      · cases h1
    · cases h1

theorem gives_buildSlice {T len : Nat} {parts : Array (Nat × Operand)} {ρf : Operand → AT} {dst : Nat} (hC : CxOk P C) (ho : o.op = .buildSlice T len parts) (hm : MemR F m w I ρ)
    (hs : ∀ p ∈ parts.toList, SlotR w I m ρ (ρf p.2) (a.eval p.2)) (hd : buildSliceD C m dst T len (mapL (fun p => (p.1, ρf p.2)) parts.toList) = some d) : Gives P F o a w m I ρ d := by
  cases hel : C.el T with
  | none => simp [buildSliceD, hel] at hd
  | some t =>
  cases hdp : C.dp && t.hasLst with
  | false => exact gives_buildSlice_flat hC ho hm hs (fun t' ht' => by rw [hel] at ht'; cases ht'; exact hdp) hd
  | true =>
    unfold buildSliceD at hd
    rw [hel] at hd
    simp only at hd
    rw [hdp, cond_true] at hd
    obtain ⟨hz, hd1⟩ := bif_some hd
    simp only [Bool.and_eq_true] at hz
    obtain ⟨⟨hz1, hz2⟩, hz3⟩ := hz
    have hlen : parts.toList.length = len := by
      have := Nat.eq_of_beq_eq_true hz1
      rw [mapL_eq, List.length_map] at this
      exact this
    have hsm := Nat.le_of_ble_eq_true hz2
    have hndc := List.nodup_cons.1 (nodup_spec.1 hz3)
    obtain ⟨ys, hys, rfl⟩ := Option.map_eq_some_iff.1 hd1
    obtain ⟨E, h1, h2, h3⟩ := hC.el hel
    obtain ⟨i0, g1, g2, g3, g4⟩ := h3.info.info
    obtain ⟨z1, z2⟩ := zeroAT_typed (w := w) (I := I) (m := m) (ρ := ρ) h3
    have hzc := cells_packV h3 (z1.length z2) (ATR.oneCell z1 z2)
    have hzl := z1.length z2
    obtain ⟨news, Ds, q1, q2, q3, q4, q5, q6⟩ := litRowsD_ok (P := P) (pre := []) (post := (List.replicate len (zcells t)).flatten) (n := 0) h3 hm parts.toList hs hndc.2 hys (by simp) (by simp [hzl, hlen])
    simp only [List.nil_append] at q1
    have hrun : (Instr.buildSlice T len (parts.map fun (i, x) => (i, a.eval x))).run P w = .ok (.slice (some ⟨w.heap.size, 0, none⟩) len len) (w.alloc (.cells news.toArray E)) := by
      by_cases hl0 : len = 0
      · subst hl0
        have hps : parts.toList = [] := by rw [← List.length_eq_zero_iff]; exact hlen
        rw [hps] at q1 q2
        simp only [List.map_nil, List.length_nil, Nat.zero_mul] at q1 q2
        have hn0 : news = [] := by rw [← List.length_eq_zero_iff]; exact q2
        subst hn0
        have : parts = #[] := by apply Array.ext'; simpa using hps
        subst this
        simp [Instr.buildSlice, run_underlying h1, h3.info.run_sizeOf, Instr.fill, newRow, Array.range_zero']
      · have hne : ¬ len * i0.size = 0 := by
          rw [g2]
          exact Nat.ne_of_gt (Nat.mul_pos (by omega) h2)
        refine run_buildSlice w T E len _ _ i0 _ h1 g1 g3 (by rw [g2]; omega) hne ?_
        have hcells : ((Array.range (len * i0.size)).map ((packV t (zcells t)).cells[· % (packV t (zcells t)).cells.size]!)) = (List.replicate len (zcells t)).flatten.toArray := by
          apply Array.ext'
          have := madeCells_flat (zcells t) len
          unfold madeCells at this
          rw [hzc, g2, ← hzl, this]
        rw [hcells, g2, ← q1]
        simp
    have hnewc : Cells (w.alloc (.cells news.toArray E)) w.heap.size news := Cells.alloc w news.toArray E
    have hag : Agree I I w (w.alloc (.cells news.toArray E)) := ⟨fun _ h => h, fun b hb => heap_alloc_old w _ b (hm.imm b hb)⟩
    have hlt : ∀ b ∈ Ds, b < w.heap.size := fun b hb => by obtain ⟨j, _, h⟩ := q5 b hb; exact h.lt hm
    have hrows := q6 (w.alloc (.cells news.toArray E)) w.heap.size 0 hag (fun j _ => by rw [Nat.zero_add, hnewc.cell]) (fun b hb => heap_alloc_old w _ b (hlt b hb))
    rw [hlen] at q2 q3
    obtain ⟨ρ', p1, p2, p3⟩ := Done.absorb (id := dst) (rs := 0) (o := 0) (ki := bindL (fun p : Nat × AT => p.2.ids) (mapL (fun p => (p.1, ρf p.2)) parts.toList)) (Bs := []) hm rfl hnewc (by rw [q2, q3]; omega) hrows (by
        rw [List.nodup_cons]
        exact ⟨fun h => absurd (hlt _ h) (Nat.lt_irrefl _), q4⟩) (fun b hb => by
        rcases List.mem_cons.1 hb with e | h
        · subst e; exact ⟨.inr (Nat.le_refl _), fun hI => absurd (hm.imm _ hI) (Nat.lt_irrefl _)⟩
        · obtain ⟨j, hj, hmj⟩ := q5 b h
          exact ⟨.inl ⟨j, hj, hmj⟩, hmj.notI hm⟩) (by simp) (fun b hb _ => heap_alloc_old w _ b hb) (by simp) rfl rfl rfl
    rw [upd_frz0] at p1 p3
    exact Gives.world (v := .slice (some ⟨w.heap.size, 0, none⟩) len len) (w' := w.alloc (.cells news.toArray E)) (by simp only [execOp, ho, Sem.run_bind, hrun, Result.andThen_ok]; rfl) p1 (slot_deep p3 p2 q3.symm (Nat.le_refl _) hnewc (by rw [q2]; omega))

end
end Go.Ab
namespace Go.Ab
section
variable {P : Program} {F : Fix} {C : Cx} {o : Oper} {a : Act} {w w' : World} {m : MF} {I I' : Nat → Prop} {ρ : Pl} {d : Did}

theorem coArgs_ok : ∀ {ts : List Nat} {as : List AT} {vs : List Value}, All2 (SlotR w I m ρ) as vs → All2 (SlotR w I m ρ) (coArgs C ts as) vs
  | [], _, _, h => h
  | _ :: _, [], _, h => h
  | _ :: _, _ :: _, _, .cons h1 h2 => .cons (co_ok h1) (coArgs_ok h2)

theorem all2_args {ρf : Operand → AT} : ∀ {l : List Operand}, (∀ x ∈ l, SlotR w I m ρ (ρf x) (a.eval x)) → All2 (SlotR w I m ρ) (mapL ρf l) (l.map a.eval)
  | [], _ => .nil
  | x :: l, h => .cons (h x (by simp)) (all2_args fun y hy => h y (by simp [hy]))

theorem opt_list {α : Type} {x : α} (h : some x ∈ ([] : List (Option α))) : False := by simp at h

theorem gives_step {ρf : Operand → AT} {dst : Nat} (hC : CxOk P C) (hF : FnOk P C) (hm : MemR F m w I ρ) (hx : ∀ x ∈ o.op.operands, SlotR w I m ρ (ρf x) (a.eval x))
    (hd : stepD C m dst ρf o = some d) (hok : ∀ b ∈ d.ok, b = true) : Gives P F o a w m I ρ d := by
  obtain ⟨odst, op, oty, pos, after, guard⟩ := o
  cases op with
  | move x => simp only [stepD, Option.some.injEq] at hd; subst hd; exact gives_move (.inl rfl) hm (hx x (by simp [Op.operands]))
  | assign x => simp only [stepD, Option.some.injEq] at hd; subst hd; exact gives_move (.inr rfl) hm (hx x (by simp [Op.operands]))
  | alloc T =>
    simp only [stepD] at hd
    split at hd
    · rename_i t ht; cases hd; exact gives_alloc hC rfl hm ht
    · cases hd
  | box T x =>
    simp only [stepD] at hd
    split at hd
    · rename_i t ht
      cases hb : (C.co T (ρf x)).fits t with
      | false => simp [hb] at hd
      | true =>
        simp only [hb, cond_true, Option.some.injEq] at hd
        subst hd
        exact gives_box hC rfl hm (co_ok (hx x (by simp [Op.operands]))) ht hb
    · cases hd
  | build T parts =>
    simp only [stepD] at hd
    exact gives_build hC rfl hm (fun p hp => hx p.2 (by simp only [Op.operands, List.mem_toArray, List.mem_map]; exact ⟨p, hp, rfl⟩)) hd
  | buildSlice T len parts =>
    simp only [stepD] at hd
    exact gives_buildSlice hC rfl hm (fun p hp => hx p.2 (by simp only [Op.operands, List.mem_toArray, List.mem_map]; exact ⟨p, hp, rfl⟩)) hd
  | load T x => exact gives_load hC rfl hm (hx x (by simp [Op.operands])) hd
  | store T x v => exact gives_store hC rfl hm (hx x (by simp [Op.operands])) (co_ok (hx v (by simp [Op.operands]))) hd
  | binOp op T x y T2 => exact gives_binOp hC rfl hm (hx x (by simp [Op.operands])) (hx y (by simp [Op.operands])) hd hok
  | unOp op T x => exact gives_unOp rfl hm (hx x (by simp [Op.operands])) hd
  | convert S T x => exact gives_convert hC rfl hm (hx x (by simp [Op.operands])) hd hok
  | makeSlice T l c =>
    simp only [stepD] at hd
    split at hd
    · rename_i x y h1 h2
      exact gives_makeSlice hC rfl hm (hx l (by simp [Op.operands])) (hx c (by simp [Op.operands])) h1 h2 hd hok
    · cases hd
  | slice T x lo hi mx =>
    cases mx with
    | some _ => simp [stepD] at hd
    | none =>
      exact gives_slice hC rfl hm (hx x (by simp [Op.operands])) (fun y hy => hx y (by subst hy; simp [Op.operands])) (fun y hy => hx y (by subst hy; simp [Op.operands])) hd hok
  | fieldAddr T x f => exact gives_fieldAddr hC rfl hm (hx x (by simp [Op.operands])) hd
  | field T x f => exact gives_field hC rfl hm (hx x (by simp [Op.operands])) hd
  | indexAddr T x i =>
    simp only [stepD] at hd
    split at hd
    · rename_i n hn
      exact gives_indexAddr hC rfl hm (hx x (by simp [Op.operands])) (hx i (by simp [Op.operands])) hn hd hok
    · cases hd
  | index T x i =>
    simp only [stepD] at hd
    split at hd
    · rename_i n hn
      exact gives_index hC rfl hm (hx x (by simp [Op.operands])) (hx i (by simp [Op.operands])) hn hd hok
    · cases hd
  | extract x i => exact gives_extract rfl hm (hx x (by simp [Op.operands])) hd
  | makeFunc fn first caps =>
    cases fn with
    | func g =>
      simp only [stepD] at hd
      cases hb : first.toList.isEmpty && allL AT.one (mapL ρf caps.toList) with
      | false => simp only [hb] at hd; simp at hd
      | true =>
        simp only [hb, cond_true, Option.some.injEq] at hd
        simp only [Bool.and_eq_true] at hb
        subst hd
        exact gives_makeFunc rfl hm hb.1 (all2_args fun y hy => hx y (by simp [Op.operands, Array.mem_toList_iff.1 hy])) hb.2
    | _ => simp [stepD] at hd
  | nilCheck x => exact gives_nilCheck rfl hm (hx x (by simp [Op.operands])) hd
  | call c =>
    obtain ⟨callee, args, ts⟩ := c
    cases callee with
    | builtin b =>
      simp only [stepD] at hd
      have hall := coArgs_ok (C := C) (ts := ts.toList) (all2_args (a := a) (ρf := ρf) (l := args.toList) fun y hy => hx y (by simp [Op.operands, Call.operands, Array.mem_toList_iff.1 hy]))
      unfold builtinD at hd
      split at hd
      · rename_i T x h1 h2
        have ets : ts = #[T] := by apply Array.ext'; simpa using h1
        rw [h2] at hall
        cases hlt : lenTy C T x with
        | false => simp [hlt] at hd
        | true =>
          simp only [hlt, cond_true] at hd
          split at hd
          · rename_i n hn
            cases hd
            generalize hal : args.toList = al at hall
            cases al with
            | nil => cases hall
            | cons y al =>
              cases hall with
              | cons e1 e2 =>
                cases al with
                | cons _ _ => cases e2
                | nil =>
                  have ea : args = #[y] := by apply Array.ext'; simpa using hal
                  subst ea ets
                  exact gives_len hC rfl hm e1 hlt hn
          · cases hd
      · rename_i t t2 x y h1 h2
        have ets : ts = #[t, t2] := by apply Array.ext'; simpa using h1
        rw [h2] at hall
        generalize hal : args.toList = al at hall
        rcases al with _ | ⟨p, _ | ⟨q, _ | ⟨r, al⟩⟩⟩
        · cases hall
        · cases hall with | cons _ e => cases e
        · cases hall with
          | cons e1 e2 =>
          cases e2 with
          | cons e2 _ =>
          have ea : args = #[p, q] := by apply Array.ext'; simpa using hal
          subst ea ets
          split at hd
          · rename_i u v hu hv
            obtain ⟨E, hE, _⟩ := tyOk_lst (hC.ty hv)
            exact gives_append hC rfl hm e1 e2 hu hE (by intro k hk; cases hk) hd hok
          · rename_i u hu hv
            exact gives_append hC rfl hm e1 e2 hu (tyOk_str (hC.ty hv)) (by intro k hk; cases hk) hd hok
          · cases hd
        · cases hall with | cons _ e => cases e with | cons _ e => cases e
      · exact gives_min rfl hm hall hd
      · exact gives_max rfl hm hall hd
      · cases hd
    | value g =>
      simp only [stepD] at hd
      split at hd
      · rename_i f caps hg
        cases hc : capsOk caps with
        | false => simp [hc] at hd
        | true =>
          simp only [hc, cond_true] at hd
          exact gives_call hF rfl hm (hg ▸ hx g (by simp [Op.operands, Call.operands]))
            (coArgs_ok (all2_args fun y hy => hx y (by simp [Op.operands, Call.operands, Array.mem_toList_iff.1 hy]))) hc hd hok
      · cases hd
    | invoke r mm => simp [stepD] at hd
  | _ => simp [stepD] at hd

end
end Go.Ab
namespace Go.Ab
section
variable {P : Program} {F : Fix} {C : Cx} {o : Oper} {a : Act} {w w' : World} {m : MF} {I I' : Nat → Prop} {ρ : Pl} {d : Did}

/-! ## operands, tags -/
theorem const_ok (v : Value) : SlotR w I m ρ (constAT v) v := by
  unfold constAT
  split
  · exact slot_bool.2 rfl
  · exact slot_int.2 rfl
  · refine slot_str.2 ?_
    rename_i s
    simp
  · simp [SlotR, ValR, AT.isAgg, ATR]
  · trivial

theorem boolIs_eq {x y : Bool} (h : boolIs x y = true) : x = y := by cases x <;> cases y <;> simp_all [boolIs]

theorem anyL_mem {α : Type} {p : α → Bool} : ∀ {l : List α}, anyL p l = true → ∃ x ∈ l, p x = true
  | [], h => by simp [anyL] at h
  | x :: l, h => by
    simp only [anyL, Bool.or_eq_true] at h
    rcases h with h | h
    · exact ⟨x, by simp, h⟩
    · obtain ⟨y, h1, h2⟩ := anyL_mem h
      exact ⟨y, by simp [h1], h2⟩

theorem anyL_of {α : Type} {p : α → Bool} : ∀ {l : List α} {x : α}, x ∈ l → p x = true → anyL p l = true
  | [], x, h, _ => by simp at h
  | y :: l, x, h, hp => by
    simp only [anyL, Bool.or_eq_true]
    rcases List.mem_cons.1 h with e | h
    · subst e; exact .inl hp
    · exact .inr (anyL_of h hp)

theorem allL_mem {α : Type} {p : α → Bool} : ∀ {l : List α}, allL p l = true → ∀ x ∈ l, p x = true
  | [], _, x, h => by simp at h
  | y :: l, h, x, hx => by
    simp only [allL, Bool.and_eq_true] at h
    rcases List.mem_cons.1 hx with e | hx
    · subst e; exact h.1
    · exact allL_mem h.2 x hx

theorem subTags_ok {A T : Tags} {tmps : Array Value} (h : subTags A T = true) (hT : TagsHold tmps T) : TagsHold tmps A := by
  intro t ht
  have := allL_mem h t ht
  unfold hasTag at this
  obtain ⟨u, hu, h2⟩ := anyL_mem this
  simp only [Bool.and_eq_true] at h2
  have h3 := Nat.eq_of_beq_eq_true h2.1
  have h4 := boolIs_eq h2.2
  have := hT u hu
  rw [h3, h4] at this
  exact this

/-- what slots hold -/
def Reads (w : World) (I : Nat → Prop) (m : MF) (ρ : Pl) (tmps : Array Value) (env : List (Nat × AT)) (s : Nat) : Prop :=
  ∀ av, find env s = some av → EnvR w I m ρ tmps av (tmps.getD s Go.undef)

theorem opnd_ok {env : List (Nat × AT)} {T : Tags} {x : Operand} (h : ∀ s, x = .tmp s → Reads w I m ρ a.tmps env s) (hT : TagsHold a.tmps T) : SlotR w I m ρ (opnd C env T x) (a.eval x) := by
  unfold opnd
  cases x with
  | tmp s =>
    simp only [operand, Act.eval]
    cases hf : find env s with
    | none => exact trivial
    | some av =>
      have := h s rfl av hf
      simp only [Option.getD_some]
      split
      · rename_i A b
        cases hs : subTags A T with
        | true => exact this.1 (subTags_ok hs hT)
        | false => trivial
      · rename_i hn
        unfold EnvR at this
        split at this
        · rename_i A b; exact absurd rfl (hn A b)
        · exact this
  | const v =>
    simp only [operand, Act.eval]
    split
    · rename_i A b h; unfold constAT at h; split at h <;> cases h
    · exact const_ok v
  | global g => simp only [operand]; trivial
  | func f =>
    simp only [operand, Act.eval, SlotR, ValR, AT.isAgg]
    exact ⟨#[], rfl, rfl⟩

theorem pickD_leaf {ac ax ay : AT} (h : pickD ac ax ay = some d) : (∃ g, ac = .leaf .bool g) ∧ (∃ t x, ax = .leaf t x) ∧ (∃ t x, ay = .leaf t x) ∧ d.upd = [] ∧ d.ok = [] := by
  unfold pickD at h
  split at h
  · split at h
    · cases h; exact ⟨⟨_, rfl⟩, ⟨_, _, rfl⟩, ⟨_, _, rfl⟩, rfl, rfl⟩
    · cases h
  · cases h

theorem doS_ok {env : List (Nat × AT)} {T : Tags} {p : Nat → Bool} (hC : CxOk P C) (hF : FnOk P C) (hm : MemR F m w I ρ) (hcl : Closed m p) (hup : ∀ x ∈ d.upd, p x.1 = true)
    (hr : ∀ s, Operand.tmp s ∈ o.op.operands → Reads w I m ρ a.tmps env s) (hT : TagsHold a.tmps T) (hp : ∀ x ∈ o.op.operands, ∀ id ∈ (opnd C env T x).ids, p id = true)
    (hd : doS C env T (m.on p) o = some d) (hok : ∀ b ∈ d.ok, b = true) : Gives P F o a w m I ρ d := by
  refine Gives.lift hm hcl hup fun F' hm' => ?_
  have hx : ∀ x ∈ o.op.operands, SlotR w I (m.on p) ρ (opnd C env T x) (a.eval x) := fun x hx =>
    SlotR.cut (hp x hx) (opnd_ok (fun s hs => hr s (hs ▸ hx)) hT)
  unfold doS at hd
  split at hd
  · rename_i c x y ho
    split at hd
    · rename_i s hs
      have hc : c = .tmp s := by cases c <;> simp [tmpOf] at hs; subst hs; rfl
      subst hc
      obtain ⟨⟨g, hg⟩, ⟨tx, vx, hlx⟩, ⟨ty, vy, hly⟩, _, _⟩ := pickD_leaf hd
      have mc : Operand.tmp s ∈ o.op.operands := by rw [ho]; simp [Op.operands]
      have mx : x ∈ o.op.operands := by rw [ho]; simp [Op.operands]
      have my : y ∈ o.op.operands := by rw [ho]; simp [Op.operands]
      have tags : ∀ b, a.eval (.tmp s) = .bool b → TagsHold a.tmps (app (tagsAt env s b) T) := by
        intro b hb t ht
        rw [mem_app] at ht
        rcases ht with ht | ht
        · unfold tagsAt at ht
          split at ht
          · rename_i A e hf
            rcases List.mem_cons.1 ht with e | ht
            · subst e; exact hb
            · unfold opnd at hg
              simp only [operand, hf, Option.getD_some] at hg
              cases hsub : subTags A T with
              | true => exact subTags_ok hsub hT t ht
              | false => rw [hsub] at hg; cases hg
          · rcases List.mem_cons.1 ht with e | ht
            · subst e; exact hb
            · simp at ht
        · exact hT t ht
      refine gives_pick ho hm' (hx _ mc) (fun h => ?_) (fun h => ?_) hd
      · refine SlotR.cut (by rw [hlx]; simp [AT.ids]) (opnd_ok (fun s hs => hr s (hs ▸ mx)) (tags true h))
      · refine SlotR.cut (by rw [hly]; simp [AT.ids]) (opnd_ok (fun s hs => hr s (hs ▸ my)) (tags false h))
    · cases hd
  · exact gives_step hC hF hm' hx hd hok

theorem closedB_ok {mem : Mem} {D : List Nat} (h : closedB mem D = true) : Closed (find mem) (inDom D) := by
  intro id b t x hid hb hc j hj
  have := allL_mem h _ (find_mem hb)
  simp only [hid, Bool.not_true, Bool.false_or, hb] at this
  obtain ⟨st, fz, c⟩ := b
  simp only at hc
  subst hc
  exact allL_mem this j hj

theorem inDom_of {D : List Nat} {i : Nat} (h : i ∈ D) : inDom D i = true := anyL_of h (by simp)

theorem mem_idsIn {mf : Nat → Option Blk} : ∀ {l : List Nat} {i : Nat}, i ∈ l → i ∈ idsIn mf l
  | [], i, h => by simp at h
  | x :: l, i, h => by
    simp only [idsIn, List.mem_cons, mem_app]
    rcases List.mem_cons.1 h with e | h
    · exact .inl e
    · exact .inr (.inr (mem_idsIn h))

theorem mem_dom {mem : Mem} {dst : Nat} {as : List AT} {x : AT} {i : Nat} (h : x ∈ as) (hi : i ∈ x.ids) : i ∈ dom mem dst as :=
  List.mem_cons_of_mem _ (mem_idsIn (mem_bindL.2 ⟨x, h, hi⟩))

end
end Go.Ab
namespace Go.Ab
section
variable {P : Program} {F : Fix} {C : Cx} {o : Oper} {a : Act} {w w' : World} {m : MF} {I I' : Nat → Prop} {ρ : Pl} {d : Did}

/-! ## regions: what each operation did, in the order of the list -/
inductive Runs (C : Cx) (ops : List Oper) : St → List Rec → St → Prop where
  | nil (st : St) : Runs C ops st [] st
  | cons {st st' : St} {r : Rec} {rs : List Rec} : recS C ops r.o st = some r → Runs C ops (r.go st) rs st' → Runs C ops st (r :: rs) st'

theorem recS_o {ops : List Oper} {st : St} {r : Rec} (h : recS C ops o st = some r) : r.o = o := by
  unfold recS at h
  split at h
  · cases h
  · dsimp only at h
    split at h
    · cases h
    · rename_i d _
      generalize hb : (allL _ d.upd && _ && _ : Bool) = b at h
      cases b with
      | false => cases h
      | true => cases h; rfl

theorem opsS_runs {ops : List Oper} : ∀ {l : List Oper} {st st' : St} {rs : List Rec}, opsS C ops l st = some (st', rs) → Runs C ops st rs st' ∧ rs.map (·.o) = l
  | [], st, st', rs, h => by simp only [opsS, Option.some.injEq, Prod.mk.injEq] at h; obtain ⟨rfl, rfl⟩ := h; exact ⟨.nil _, rfl⟩
  | o :: l, st, st', rs, h => by
    simp only [opsS] at h
    split at h
    · rename_i r hr
      split at h
      · rename_i st2 rs2 h2
        simp only [Option.some.injEq, Prod.mk.injEq] at h
        obtain ⟨rfl, rfl⟩ := h
        obtain ⟨e1, e2⟩ := opsS_runs h2
        have ho := recS_o hr
        exact ⟨.cons (ho ▸ hr) e1, by simp [ho, e2]⟩
      · cases h
    · cases h

/-- the state ahead of an operation -/
def stAt : List Rec → Nat → St → St
  | [], _, st => st
  | _ :: _, 0, st => st
  | r :: rs, k + 1, st => stAt rs k (r.go st)

theorem Runs.at {ops : List Oper} : ∀ {st st' : St} {rs : List Rec}, Runs C ops st rs st' → ∀ {k : Nat} {r : Rec}, rs[k]? = some r → recS C ops r.o (stAt rs k st) = some r
  | _, _, _, .nil _, k, r, h => by simp at h
  | _, _, _, .cons h1 h2, k, r, h => by
    cases k with
    | zero => simp only [List.getElem?_cons_zero, Option.some.injEq] at h; subst h; exact h1
    | succ k => exact h2.at (by simpa using h)

def memL (L : Nat → Bool) : List Rec → MF → MF
  | [], m => m
  | r :: rs, m => memL (fun k => L (k + 1)) rs (bif L 0 then m.upd r.d.upd else m)

abbrev EF := Nat → Option AT
def EF.put (e : EF) (r : Rec) : EF := match r.o.dst with
  | some s => fun i => if s = i then some (whenT r.T r.d.av) else e i
  | none => e
def envL (L : Nat → Bool) : List Rec → EF → EF
  | [], e => e
  | r :: rs, e => envL (fun k => L (k + 1)) rs (bif L 0 then e.put r else e)

theorem mem_go (r : Rec) (st : St) : find (r.go st).mem = MF.upd (find st.mem) r.d.upd := find_upd _ _
theorem env_go (r : Rec) (st : St) : find (r.go st).env = EF.put (find st.env) r := by
  funext i
  unfold Rec.go EF.put
  cases r.o.dst with
  | some s => simp only [find_cons]
  | none => rfl

theorem memL_none : ∀ (rs : List Rec) (m : MF), memL (fun _ => false) rs m = m
  | [], _ => rfl
  | r :: rs, m => by simp only [memL, cond_false]; exact memL_none rs m
theorem envL_none : ∀ (rs : List Rec) (e : EF), envL (fun _ => false) rs e = e
  | [], _ => rfl
  | r :: rs, m => by simp only [envL, cond_false]; exact envL_none rs m

theorem memL_at : ∀ (rs : List Rec) (k : Nat) (st : St), memL (fun i => decide (i < k)) rs (find st.mem) = find (stAt rs k st).mem
  | [], k, st => by cases k <;> rfl
  | r :: rs, 0, st => by
    have : (fun i => decide (i < 0)) = fun _ => false := by funext i; simp
    rw [this, memL_none]; rfl
  | r :: rs, k + 1, st => by
    have : (fun i => decide (i + 1 < k + 1)) = fun i => decide (i < k) := by funext i; simp
    simp only [memL, stAt, Nat.zero_lt_succ, decide_true, cond_true]
    rw [this, ← mem_go]
    exact memL_at rs k _

theorem envL_at : ∀ (rs : List Rec) (k : Nat) (st : St), envL (fun i => decide (i < k)) rs (find st.env) = find (stAt rs k st).env
  | [], k, st => by cases k <;> rfl
  | r :: rs, 0, st => by
    have : (fun i => decide (i < 0)) = fun _ => false := by funext i; simp
    rw [this, envL_none]; rfl
  | r :: rs, k + 1, st => by
    have : (fun i => decide (i + 1 < k + 1)) = fun i => decide (i < k) := by funext i; simp
    simp only [envL, stAt, Nat.zero_lt_succ, decide_true, cond_true]
    rw [this, ← env_go]
    exact envL_at rs k _

theorem Runs.last {ops : List Oper} : ∀ {st st' : St} {rs : List Rec}, Runs C ops st rs st' → stAt rs rs.length st = st'
  | _, _, _, .nil _ => rfl
  | _, _, _, .cons _ h2 => h2.last

/-- two sets of operations that agree on the writers of a block -/
theorem memL_agree {id : Nat} : ∀ {rs : List Rec} {L L' : Nat → Bool} {m m' : MF}, (∀ k r, rs[k]? = some r → find r.d.upd id ≠ none → L k = L' k) → m id = m' id → memL L rs m id = memL L' rs m' id
  | [], _, _, _, _, _, h => h
  | r :: rs, L, L', m, m', hl, h => by
    simp only [memL]
    refine memL_agree (fun k r' hk hw => hl (k + 1) r' (by simpa using hk) hw) ?_
    by_cases hw : find r.d.upd id = none
    · have : ∀ (b : Bool) (m : MF), (bif b then m.upd r.d.upd else m) id = m id := by
        intro b m; cases b
        · rfl
        · simp [MF.upd, hw]
      rw [this, this, h]
    · rw [hl 0 r rfl hw]
      cases L' 0 with
      | false => exact h
      | true => simp only [cond_true, MF.upd]; split <;> first | rfl | exact h

theorem memL_last {id : Nat} {b : Blk} : ∀ {rs : List Rec} {L : Nat → Bool} {m : MF} {j : Nat} {r : Rec}, rs[j]? = some r → L j = true → find r.d.upd id = some b →
    (∀ k r', j < k → rs[k]? = some r' → find r'.d.upd id ≠ none → L k = false) → memL L rs m id = some b
  | [], _, _, j, r, h, _, _, _ => by simp at h
  | x :: rs, L, m, 0, r, h, hL, hf, hk => by
    simp only [List.getElem?_cons_zero, Option.some.injEq] at h
    subst h
    simp only [memL, hL, cond_true]
    have : memL (fun k => L (k + 1)) rs (m.upd x.d.upd) id = memL (fun _ => false) rs (m.upd x.d.upd) id :=
      memL_agree (fun k r' hr hw => hk (k + 1) r' (by omega) (by simpa using hr) hw) rfl
    rw [this, memL_none]
    simp [MF.upd, hf]
  | x :: rs, L, m, j + 1, r, h, hL, hf, hk => by
    simp only [memL]
    exact memL_last (j := j) (by simpa using h) hL hf (fun k r' hjk hr hw => hk (k + 1) r' (by omega) (by simpa using hr) hw)

theorem envL_agree {s : Nat} : ∀ {rs : List Rec} {L L' : Nat → Bool} {e e' : EF}, (∀ k r, rs[k]? = some r → r.o.dst = some s → L k = L' k) → e s = e' s → envL L rs e s = envL L' rs e' s
  | [], _, _, _, _, _, h => h
  | r :: rs, L, L', e, e', hl, h => by
    simp only [envL]
    refine envL_agree (fun k r' hk hw => hl (k + 1) r' (by simpa using hk) hw) ?_
    by_cases hw : r.o.dst = some s
    · rw [hl 0 r rfl hw]
      cases L' 0 with
      | false => exact h
      | true => simp [cond_true, EF.put, hw]
    · have : ∀ (b : Bool) (e : EF), (bif b then e.put r else e) s = e s := by
        intro b e; cases b
        · rfl
        · simp only [cond_true, EF.put]
          cases hd : r.o.dst with
          | some s' =>
            have : ¬ s' = s := fun h => hw (h ▸ hd)
            simp [this]
          | none => rfl
      rw [this, this, h]

theorem envL_mine {s : Nat} : ∀ {rs : List Rec} {L : Nat → Bool} {e : EF} {j : Nat} {r : Rec}, rs[j]? = some r → L j = true → r.o.dst = some s →
    (∀ k r', j < k → rs[k]? = some r' → r'.o.dst ≠ some s) → envL L rs e s = some (whenT r.T r.d.av)
  | [], _, _, j, r, h, _, _, _ => by simp at h
  | x :: rs, L, e, 0, r, h, hL, hf, hk => by
    simp only [List.getElem?_cons_zero, Option.some.injEq] at h
    subst h
    simp only [envL, hL, cond_true]
    have : envL (fun k => L (k + 1)) rs (e.put x) s = envL (fun _ => false) rs (e.put x) s :=
      envL_agree (fun k r' hr hw => absurd hw (hk (k + 1) r' (by omega) (by simpa using hr))) rfl
    rw [this, envL_none]
    simp [EF.put, hf]
  | x :: rs, L, e, j + 1, r, h, hL, hf, hk => by
    simp only [envL]
    exact envL_mine (j := j) (by simpa using h) hL hf (fun k r' hjk hr => hk (k + 1) r' (by omega) (by simpa using hr))

/-- one operation more -/
def with1 (L : Nat → Bool) (j : Nat) : Nat → Bool := fun k => L k || decide (k = j)

end
end Go.Ab
namespace Go.Ab
section
variable {P : Program} {F : Fix} {C : Cx} {o : Oper} {a : Act} {w w' : World} {m : MF} {I I' : Nat → Prop} {ρ : Pl} {d : Did}

theorem mem_fmapL {α β : Type} {f : α → Option β} {y : β} : ∀ {l : List α}, y ∈ fmapL f l ↔ ∃ x ∈ l, f x = some y
  | [] => by simp [fmapL]
  | x :: l => by
    have ih := mem_fmapL (f := f) (y := y) (l := l)
    simp only [fmapL]
    cases hf : f x with
    | none =>
      simp only [ih, List.mem_cons]
      constructor
      · rintro ⟨z, h1, h2⟩; exact ⟨z, .inr h1, h2⟩
      · rintro ⟨z, h1 | h1, h2⟩
        · subst h1; rw [hf] at h2; cases h2
        · exact ⟨z, h1, h2⟩
    | some z =>
      simp only [ih, List.mem_cons]
      constructor
      · rintro (h | ⟨z, h1, h2⟩)
        · subst h; exact ⟨x, .inl rfl, hf⟩
        · exact ⟨z, .inr h1, h2⟩
      · rintro ⟨z, h1 | h1, h2⟩
        · subst h1; rw [hf] at h2; cases h2; exact .inl rfl
        · exact .inr ⟨z, h1, h2⟩

theorem nthL_eq {α : Type} : ∀ (l : List α) (i : Nat), nthL l i = l[i]?
  | [], _ => by simp [nthL]
  | _ :: _, 0 => by simp [nthL]
  | _ :: l, n + 1 => by simp [nthL, nthL_eq l n]

/-- of one type and length -/
def SameT : BC → BC → Prop
  | .var t _, .var u _ => t = u
  | .rows t xs, .rows u ys => t = u ∧ xs.length = ys.length
  | .deep _ t xs, .deep _ u ys => t = u ∧ xs.length = ys.length
  | .dead, .dead => True
  | _, _ => False

theorem SameSh.toT {a b : BC} (h : SameSh a b) : SameT a b := by
  cases a <;> cases b <;> simp only [SameSh] at h <;> simp only [SameT]
  · exact h
  · exact h
  · exact h.2

theorem SameT.refl : ∀ c : BC, SameT c c
  | .var _ _ => rfl
  | .rows _ _ => ⟨rfl, rfl⟩
  | .deep _ _ _ => ⟨rfl, rfl⟩
  | .dead => trivial

theorem live_sameT {b b' : Blk} (h : SameT b.c b'.c) (hl : b.live) : b'.live := by
  unfold Blk.live at *
  cases hb : b.c <;> cases hb' : b'.c <;> simp_all [SameT]

theorem SameT.trans {a b c : BC} (h : SameT a b) (k : SameT b c) : SameT a c := by
  cases a <;> cases b <;> simp only [SameT] at h <;> cases c <;> simp only [SameT] at k ⊢
  · exact h.trans k
  · exact ⟨h.1.trans k.1, h.2.trans k.2⟩
  · exact ⟨h.1.trans k.1, h.2.trans k.2⟩

/-- what parameters' blocks keep -/
structure Keep where
  m : MF
  ρ : Pl
  w : World
  pid : ∀ id b, m id = some b → isPid id = true
def Kept (K : Keep) (m : MF) (ρ : Pl) (w : World) : Prop := ∀ id b0, K.m id = some b0 → ∃ b, m id = some b ∧ (0 < b.st ∨ (b.st = 0 ∧ SameT b0.c b.c ∧ ρ id = K.ρ id ∧
  (b0.live → ∀ B o, K.ρ id = some (B, o) → ∀ cs, Cells K.w B cs → ∃ cs', Cells w B cs' ∧ cs.length ≤ cs'.length)))

theorem Kept.mono {K : Keep} {m' : MF} {ρ' : Pl} (h : Kept K m ρ w) (hk : Keeps m m' ρ ρ' w w') : Kept K m' ρ' w' := by
  intro id b0 hb0
  obtain ⟨b, hb, h1⟩ := h id b0 hb0
  obtain ⟨b', hb', h2⟩ := hk.keep id b hb
  refine ⟨b', hb', ?_⟩
  rcases h2 with h2 | ⟨e1, e2, e3, e4⟩
  · exact .inl (by omega)
  · rcases h1 with h1 | ⟨k1, k2, k3, k4⟩
    · exact .inl (by omega)
    · refine .inr ⟨by omega, k2.trans e2.toT, e3.trans k3, fun hl B o hB cs hc => ?_⟩
      obtain ⟨cs1, c1, c2⟩ := k4 hl B o hB cs hc
      obtain ⟨cs2, c3, c4⟩ := e4 (live_sameT k2 hl) B o (k3.trans hB) cs1 c1
      exact ⟨cs2, c3, by omega⟩

structure RInv (F : Fix) (n : Nat) (K : Keep) (rs : List Rec) (st : St) (L : Nat → Bool) (a : Act) (w : World) (I : Nat → Prop) (ρ : Pl) : Prop where
  mem : MemR F (memL L rs (find st.mem)) w I ρ
  env : ∀ s av, envL L rs (find st.env) s = some av → EnvR w I (memL L rs (find st.mem)) ρ a.tmps av (a.tmps.getD s Go.undef)
  size : a.tmps.size = n
  defers : a.defers = []
  kept : Kept K (memL L rs (find st.mem)) ρ w

structure Reg (C : Cx) (n : Nat) (ops : List Oper) (st st' : St) (rs : List Rec) (ah : Nat → Nat → Prop) : Prop where
  runs : Runs C ops st rs st'
  ops_eq : rs.map (·.o) = ops
  dsts : ∀ (i j : Nat) (ri rj : Rec) (s : Nat), rs[i]? = some ri → rs[j]? = some rj → ri.o.dst = some s → rj.o.dst = some s → i = j
  back : ∀ (i : Nat) (r : Rec) (g : Nat) (w : Bool), rs[i]? = some r → r.o.guard = some (g, w) → g < i
  lt : ∀ i j, ah i j → i < j
  sep : ∀ (i j : Nat) (f g : Rec), i < j → rs[i]? = some f → rs[j]? = some g → ah i j ∨ apartF (f.foot ops) (g.foot ops) = true
  e0 : ∀ s A b, find st.env s ≠ some (.when_ A b)
  tmps : ∀ (r : Rec) (s : Nat), r ∈ rs → r.o.dst = some s → s < n

def Shut (ah : Nat → Nat → Prop) (L : Nat → Bool) : Prop := ∀ i j, ah i j → L j = true → L i = true

theorem slotApart_not {s : Nat} {R : List Nat} (h : slotApart (some s) R = true) : ¬ s ∈ R := by
  intro hs
  simp only [slotApart, Bool.not_eq_true'] at h
  rw [anyL_beq.2 hs] at h
  cases h

theorem whenT_nil (a : AT) : ∀ A b, whenT [] a ≠ .when_ A b := by
  intro A b h
  unfold whenT at h
  cases a <;> simp at h

section
variable {n : Nat} {K : Keep} {ops : List Oper} {st st' : St} {rs : List Rec} {ah : Nat → Nat → Prop}

theorem Reg.op (h : Reg C n ops st st' rs ah) {j : Nat} {r : Rec} (hr : rs[j]? = some r) : ops[j]? = some r.o := by
  rw [← h.ops_eq]; simp [hr]

theorem Reg.did (h : Reg C n ops st st' rs ah) {j : Nat} {r : Rec} (hr : rs[j]? = some r) :
    guardOf (stAt rs j st).env ops r.o = some r.T ∧ r.D = dom (stAt rs j st).mem (dstOf r.o) (mapL (opnd C (stAt rs j st).env r.T) r.o.op.operands.toList) ∧
    doS C (stAt rs j st).env r.T (view (stAt rs j st).mem r.D) r.o = some r.d ∧ (∀ x ∈ r.d.upd, inDom r.D x.1 = true) ∧ Closed (find (stAt rs j st).mem) (inDom r.D) ∧ (r.T = [] ∨ r.d.upd = []) := by
  have h1 := h.runs.at hr
  unfold recS at h1
  split at h1
  · cases h1
  · rename_i T hT
    dsimp only at h1
    split at h1
    · cases h1
    · rename_i d hd
      generalize hb : (allL _ d.upd && _ && _ : Bool) = b at h1
      cases b with
      | false => cases h1
      | true =>
        simp only [cond_true, Option.some.injEq] at h1
        simp only [Bool.and_eq_true, Bool.or_eq_true] at hb
        obtain ⟨⟨hb1, hb2⟩, hb3⟩ := hb
        have e1 : r.T = T := by rw [← h1]
        have e2 : r.d = d := by rw [← h1]
        have e3 : r.D = dom (stAt rs j st).mem (dstOf r.o) (mapL (opnd C (stAt rs j st).env T) r.o.op.operands.toList) := by rw [← h1]
        rw [← e3] at hd hb1 hb2
        refine ⟨by rw [e1]; exact hT, by rw [e1]; exact e3, by rw [e1, e2]; exact hd, by rw [e2]; exact allL_mem hb1, closedB_ok hb2, ?_⟩
        rw [e1, e2]
        rcases hb3 with hb3 | hb3
        · exact .inl (by simpa using hb3)
        · exact .inr (by simpa using hb3)

theorem Reg.sepW (h : Reg C n ops st st' rs ah) {i j : Nat} {f g : Rec} (hi : rs[i]? = some f) (hj : rs[j]? = some g) (hij : i ≠ j) :
    ah i j ∨ ah j i ∨ apartF (f.foot ops) (g.foot ops) = true ∨ apartF (g.foot ops) (f.foot ops) = true := by
  rcases Nat.lt_or_gt_of_ne hij with hlt | hlt
  · rcases h.sep i j f g hlt hi hj with h1 | h1
    · exact .inl h1
    · exact .inr (.inr (.inl h1))
  · rcases h.sep j i g f hlt hj hi with h1 | h1
    · exact .inr (.inl h1)
    · exact .inr (.inr (.inr h1))

/-- a block that 'f' writes and 'g' may look at: an edge stands between them -/
theorem Reg.edgeW (h : Reg C n ops st st' rs ah) {i j : Nat} {f g : Rec} (hi : rs[i]? = some f) (hj : rs[j]? = some g) (hij : i ≠ j) {id : Nat} (hw : find f.d.upd id ≠ none) (hd : inDom g.D id = true) : ah i j ∨ ah j i := by
  have hin : id ∈ mapL (fun x => x.1) f.d.upd := by
    rw [mapL_eq]
    cases hf : find f.d.upd id with
    | none => exact absurd hf hw
    | some b => exact find_key hf
  rcases h.sepW hi hj hij with h1 | h1 | h1 | h1
  · exact .inl h1
  · exact .inr h1
  · simp only [apartF, Bool.and_eq_true] at h1
    have := allL_mem h1.1.1.1 id hin
    simp only [Rec.foot, hd] at this
    cases this
  · simp only [apartF, Bool.and_eq_true] at h1
    have := allL_mem h1.1.1.2 id hin
    simp only [Rec.foot, hd] at this
    cases this

theorem Reg.edgeS (h : Reg C n ops st st' rs ah) {i j : Nat} {f g : Rec} (hi : rs[i]? = some f) (hj : rs[j]? = some g) (hij : i ≠ j) {s : Nat} (hw : f.o.dst = some s) (hd : s ∈ looks ops g.o) : ah i j ∨ ah j i := by
  rcases h.sepW hi hj hij with h1 | h1 | h1 | h1
  · exact .inl h1
  · exact .inr h1
  · simp only [apartF, Bool.and_eq_true, Rec.foot, hw] at h1
    exact absurd hd (slotApart_not h1.1.2)
  · simp only [apartF, Bool.and_eq_true, Rec.foot, hw] at h1
    exact absurd hd (slotApart_not h1.2)

theorem looks_tmp {s : Nat} (h : Operand.tmp s ∈ o.op.operands) : s ∈ looks ops o := by
  unfold looks
  rw [mem_app]
  exact .inl (mem_fmapL.2 ⟨.tmp s, Array.mem_toList_iff.2 h, rfl⟩)

theorem looks_guard {g s : Nat} {b : Bool} (h : o.guard = some (g, b)) (hs : (nthL ops g).bind (·.dst) = some s) : s ∈ looks ops o := by
  unfold looks
  rw [mem_app, h]
  refine .inr ?_
  simp only
  rw [hs]
  simp

variable {L : Nat → Bool}

/-- in this set, the blocks that the operation may look at are as they were in the list's order -/
theorem Reg.memSame (h : Reg C n ops st st' rs ah) {j : Nat} {r : Rec} (hr : rs[j]? = some r) (hL : L j = false) (hcl : Shut ah L) (hah : ∀ i, ah i j → L i = true) {id : Nat} (hid : inDom r.D id = true) :
    memL L rs (find st.mem) id = find (stAt rs j st).mem id := by
  rw [← memL_at]
  refine memL_agree (fun k f hk hw => ?_) rfl
  by_cases hkj : k = j
  · subst hkj; simp [hL]
  · rcases h.edgeW hk hr hkj hw hid with h1 | h1
    · have := h.lt _ _ h1
      simp [hah k h1, this]
    · have hlt := h.lt _ _ h1
      have : ¬ k < j := by omega
      simp only [this, decide_false]
      cases hLk : L k with
      | false => rfl
      | true => have := hcl _ _ h1 hLk; rw [hL] at this; cases this

theorem Reg.envSame (h : Reg C n ops st st' rs ah) {j : Nat} {r : Rec} (hr : rs[j]? = some r) (hL : L j = false) (hcl : Shut ah L) (hah : ∀ i, ah i j → L i = true) {s : Nat} (hs : s ∈ looks ops r.o) :
    envL L rs (find st.env) s = find (stAt rs j st).env s := by
  rw [← envL_at]
  refine envL_agree (fun k f hk hw => ?_) rfl
  by_cases hkj : k = j
  · subst hkj; simp [hL]
  · rcases h.edgeS hk hr hkj hw hs with h1 | h1
    · have := h.lt _ _ h1
      simp [hah k h1, this]
    · have hlt := h.lt _ _ h1
      have : ¬ k < j := by omega
      simp only [this, decide_false]
      cases hLk : L k with
      | false => rfl
      | true => have := hcl _ _ h1 hLk; rw [hL] at this; cases this

/-- a slot that an operation of the set writes -/
theorem Reg.slot (h : Reg C n ops st st' rs ah) {k : Nat} {r : Rec} (hr : rs[k]? = some r) (hL : L k = true) {s : Nat} (hs : r.o.dst = some s) (e : EF) : envL L rs e s = some (whenT r.T r.d.av) :=
  envL_mine hr hL hs fun k' r' hk hr' hs' => by have := h.dsts _ _ _ _ _ hr hr' hs hs'; omega

/-- tags name slots of operations ahead -/
theorem Reg.tags (h : Reg C n ops st st' rs ah) : ∀ (j : Nat) {r : Rec}, rs[j]? = some r → ∀ t ∈ r.T, ∃ k r', k < j ∧ rs[k]? = some r' ∧ r'.o.dst = some t.1 ∧
    ∀ L, Shut ah L → (∀ i, ah i j → L i = true) → L k = true := by
  intro j
  induction j using Nat.strongRecOn with
  | _ j ih =>
  intro r hr t ht
  obtain ⟨hg, _⟩ := h.did hr
  unfold guardOf at hg
  cases hgd : r.o.guard with
  | none => rw [hgd] at hg; simp only [Option.some.injEq] at hg; rw [← hg] at ht; simp at ht
  | some gw =>
    obtain ⟨g, b⟩ := gw
    rw [hgd] at hg
    simp only [Option.map_eq_some_iff] at hg
    obtain ⟨s, hs, hT⟩ := hg
    have hgj := h.back j r g b hr hgd
    have hlook := looks_guard hgd hs
    rw [nthL_eq, ← h.ops_eq] at hs
    simp only [List.getElem?_map, Option.bind_map] at hs
    obtain ⟨rg, hrg, hsg⟩ := Option.bind_eq_some_iff.1 hs
    simp only [Function.comp_apply] at hsg
    have hLg : ∀ L, Shut ah L → (∀ i, ah i j → L i = true) → L g = true := by
      intro L hcl hah
      rcases h.edgeS hrg hr (by omega) hsg hlook with h1 | h1
      · exact hah g h1
      · have := h.lt _ _ h1; omega
    have hev : find (stAt rs j st).env s = some (whenT rg.T rg.d.av) := by
      rw [← envL_at]
      exact h.slot hrg (by simp [hgj]) hsg _
    rw [← hT] at ht
    have first : t = (s, b) → ∃ k r', k < j ∧ rs[k]? = some r' ∧ r'.o.dst = some t.1 ∧ ∀ L, Shut ah L → (∀ i, ah i j → L i = true) → L k = true :=
      fun e => ⟨g, rg, hgj, hrg, by rw [e]; exact hsg, hLg⟩
    unfold tagsAt at ht
    split at ht
    · rename_i A e hf
      rcases List.mem_cons.1 ht with e1 | ht
      · exact first e1
      · rw [hev] at hf
        have : A = rg.T := by
          unfold whenT at hf
          split at hf
          · split at hf <;> simp at hf
            rename_i hn
            exact absurd hf (hn _ _)
          · simp only [Option.some.injEq, AT.when_.injEq] at hf; exact hf.1.symm
        subst this
        obtain ⟨k, r', h1, h2, h3, h4⟩ := ih g hgj hrg t ht
        exact ⟨k, r', by omega, h2, h3, fun L hcl hah => h4 L hcl fun i hi => hcl i g hi (hLg L hcl hah)⟩
    · rcases List.mem_cons.1 ht with e1 | ht
      · exact first e1
      · simp at ht

end
end
end Go.Ab
namespace Go.Ab
section
variable {P : Program} {F : Fix} {C : Cx} {o : Oper} {a : Act} {w w' : World} {m : MF} {I I' : Nat → Prop} {ρ : Pl} {d : Did}
variable {n : Nat} {K : Keep} {ops : List Oper} {st st' : St} {rs : List Rec} {ah : Nat → Nat → Prop} {L : Nat → Bool}

theorem put_size (a : Act) (s : Option Nat) (v : Value) : (a.put s v).tmps.size = a.tmps.size := by cases s <;> simp [Act.put]
theorem put_defers (a : Act) (s : Option Nat) (v : Value) : (a.put s v).defers = a.defers := by cases s <;> simp [Act.put]
theorem put_same (a : Act) (s : Nat) (v : Value) (h : s < a.tmps.size) : (a.put (some s) v).tmps.getD s Go.undef = v := by simp [Act.put, h]
theorem put_other (a : Act) (s : Option Nat) (t : Nat) (v : Value) (h : s ≠ some t) : (a.put s v).tmps.getD t Go.undef = a.tmps.getD t Go.undef := by
  cases s with
  | none => rfl
  | some s =>
    have : s ≠ t := fun e => h (e ▸ rfl)
    simp [Act.put, Array.getElem?_setIfInBounds_ne this]

theorem EnvR.tmps {tmps tmps' : Array Value} {av : AT} {v : Value} (h : EnvR w I m ρ tmps av v) (ht : ∀ T b, av = .when_ T b → ∀ t ∈ T, tmps'.getD t.1 Go.undef = tmps.getD t.1 Go.undef) :
    EnvR w I m ρ tmps' av v := by
  cases av with
  | when_ T b =>
    have : TagsHold tmps' T ↔ TagsHold tmps T := by
      constructor
      · intro h1 t htt; rw [← ht T b rfl t htt]; exact h1 t htt
      · intro h1 t htt; rw [ht T b rfl t htt]; exact h1 t htt
    exact ⟨fun h1 => h.1 (this.1 h1), fun h1 => h.2 fun h2 => h1 (this.2 h2)⟩
  | _ => exact h

theorem undef_ne (b : Bool) : Go.undef ≠ .bool b := by intro h; cases h

theorem yielded_eq {ops : Array Oper} {tmps : Array Value} {g s : Nat} {b : Bool} (hs : (ops[g]?).bind (·.dst) = some s) : yielded ops tmps g = some b ↔ tmps.getD s Go.undef = .bool b := by
  unfold yielded
  rw [hs]
  simp only [Option.bind_some]
  rw [Array.getD_eq_getD_getElem?]
  cases hv : tmps[s]? with
  | none => simp only [Option.getD_none]; constructor <;> intro h <;> cases h
  | some v =>
    simp only [Option.getD_some]
    constructor
    · intro h
      split at h
      · rename_i b' hb; cases h; cases hb; rfl
      · cases h
    · intro h; subst h; rfl

/-- one operation more has been carried out: slots -/
theorem Reg.slots (h : Reg C n ops st st' rs ah) {j : Nat} {r : Rec} (hr : rs[j]? = some r) (hL : L j = false) (hcl : Shut ah L) {tmps tmps' : Array Value}
    (hold : ∀ t, r.o.dst ≠ some t → tmps'.getD t Go.undef = tmps.getD t Go.undef)
    (henv : ∀ s av, envL L rs (find st.env) s = some av → EnvR w I m ρ tmps av (tmps.getD s Go.undef))
    (hnew : ∀ s, r.o.dst = some s → EnvR w I m ρ tmps' (whenT r.T r.d.av) (tmps'.getD s Go.undef)) :
    ∀ s av, envL (with1 L j) rs (find st.env) s = some av → EnvR w I m ρ tmps' av (tmps'.getD s Go.undef) := by
  intro s av hav
  by_cases hs : r.o.dst = some s
  · rw [h.slot hr (by simp [with1]) hs] at hav
    cases hav
    exact hnew s hs
  · have hsame : envL (with1 L j) rs (find st.env) s = envL L rs (find st.env) s := by
      refine envL_agree (fun k f hk hw => ?_) rfl
      unfold with1
      by_cases hkj : k = j
      · subst hkj; rw [hr] at hk; cases hk; exact absurd hw hs
      · simp [hkj]
    rw [hsame] at hav
    have h1 := henv s av hav
    rw [hold s hs]
    refine h1.tmps fun T b e t ht => hold t.1 fun hd => ?_
    -- a tag's slot was written by an operation of the set
    subst e
    by_cases hex : ∃ k f, rs[k]? = some f ∧ L k = true ∧ f.o.dst = some s
    · obtain ⟨k, f, hk, hLk, hf⟩ := hex
      rw [h.slot hk hLk hf] at hav
      have hT : f.T = T := by
        simp only [Option.some.injEq] at hav
        unfold whenT at hav
        split at hav
        · split at hav
          · cases hav
          · rename_i hn
            exact absurd hav (hn _ _)
        · simp only [AT.when_.injEq] at hav; exact hav.1
      subst hT
      obtain ⟨k2, f2, _, hk2, hf2, hin⟩ := h.tags k hk t ht
      have := hin L hcl fun i hi => hcl i k hi hLk
      have e := h.dsts _ _ _ _ _ hk2 hr hf2 hd
      subst e
      rw [hL] at this
      cases this
    · have : envL L rs (find st.env) s = find st.env s := by
        have h2 : envL L rs (find st.env) s = envL (fun _ => false) rs (find st.env) s := by
          refine envL_agree (fun k f hk hw => ?_) rfl
          cases hLk : L k with
          | false => rfl
          | true => exact absurd ⟨k, f, hk, hLk, hw⟩ hex
        rw [h2, envL_none]
      rw [this] at hav
      exact absurd hav (h.e0 s T b)

theorem Reg.mems (h : Reg C n ops st st' rs ah) {j : Nat} {r : Rec} (hr : rs[j]? = some r) (hL : L j = false) (hcl : Shut ah L) :
    memL (with1 L j) rs (find st.mem) = MF.upd (memL L rs (find st.mem)) r.d.upd := by
  funext id
  cases hf : find r.d.upd id with
  | none =>
    have : MF.upd (memL L rs (find st.mem)) r.d.upd id = memL L rs (find st.mem) id := by simp [MF.upd, hf]
    rw [this]
    refine memL_agree (fun k f hk hw => ?_) rfl
    unfold with1
    by_cases hkj : k = j
    · subst hkj; rw [hr] at hk; cases hk; exact absurd hf hw
    · simp [hkj]
  | some b =>
    have : MF.upd (memL L rs (find st.mem)) r.d.upd id = some b := by simp [MF.upd, hf]
    rw [this]
    refine memL_last hr (by simp [with1]) hf fun k f hjk hk hw => ?_
    have hkj : k ≠ j := by omega
    simp only [with1, hkj, decide_false, Bool.or_false]
    have hdom : inDom r.D id = true := (h.did hr).2.2.2.1 _ (find_mem hf)
    rcases h.edgeW hk hr hkj hw hdom with h1 | h1
    · have := h.lt _ _ h1; omega
    · cases hLk : L k with
      | false => rfl
      | true => have := hcl _ _ h1 hLk; rw [hL] at this; cases this

theorem tagsB_ok {env : List (Nat × AT)} {tmps : Array Value} : ∀ {T : Tags}, TagsHold tmps T → (∀ t ∈ T, Reads w I m ρ tmps env t.1) → tagsB env T = true := by
  have one : ∀ {T : Tags}, TagsHold tmps T → (∀ t ∈ T, Reads w I m ρ tmps env t.1) → ∀ t ∈ T, tagB env t.1 t.2 = true := by
    intro T hT hr t ht
    have hv := hT t ht
    have h1 := hr t ht
    unfold tagB
    split
    · rename_i b hf
      have h2 := h1 _ hf
      rw [hv] at h2
      have := slot_bool.1 (show SlotR w I m ρ (.leaf .bool b) (.bool t.2) from h2)
      cases this
      cases t.2 <;> rfl
    · rename_i A b hf
      have h2 := h1 _ hf
      rw [hv] at h2
      by_cases hA : TagsHold tmps A
      · have := slot_bool.1 (h2.1 hA)
        cases this
        cases t.2 <;> rfl
      · exact absurd (h2.2 hA).symm (undef_ne _)
    · rfl
  intro T hT hr
  have h1 := one hT hr
  induction T with
  | nil => rfl
  | cons t T ih =>
    have h2 := h1 t (by simp)
    cases T with
    | nil => exact h2
    | cons u T =>
      obtain ⟨s, b⟩ := t
      show (tagB env s b && tagsB env (u :: T)) = true
      rw [show tagB env s b = true from h2, ih (fun t ht => hT t (by simp [ht])) (fun t ht => hr t (by simp [ht])) (fun t ht => h1 t (by simp [ht]))]
      rfl

end
end Go.Ab
namespace Go.Ab
section
variable {P : Program} {F : Fix} {C : Cx} {o : Oper} {a : Act} {w w' : World} {m : MF} {I I' : Nat → Prop} {ρ : Pl} {d : Did}
variable {n : Nat} {K : Keep} {ops : List Oper} {st st' : St} {rs : List Rec} {ah : Nat → Nat → Prop} {L : Nat → Bool}

def RAny (F : Fix) (n : Nat) (K : Keep) (rs : List Rec) (st : St) (L : Nat → Bool) (a : Act) (w : World) : Prop := ∃ I ρ, RInv F n K rs st L a w I ρ

theorem onlyIf_ok {l : List Bool} (h : ∀ b ∈ onlyIf true l, b = true) : ∀ b ∈ l, b = true := by
  intro b hb
  have : (!true || b) ∈ onlyIf true l := by unfold onlyIf; rw [mapL_eq]; exact List.mem_map.2 ⟨b, hb, rfl⟩
  simpa using h _ this

theorem envR_of {av : AT} {tmps : Array Value} {v : Value} (h : SlotR w I m ρ av v) (hn : ∀ A b, av = .when_ A b → False) : EnvR w I m ρ tmps av v := by
  cases av with
  | when_ A b => exact (hn A b rfl).elim
  | _ => exact h

/-- one operation, at any time that the edges allow -/
theorem Reg.step (h : Reg C n ops st st' rs ah) (hC : CxOk P C) (hF : FnOk P C) {j : Nat} {r : Rec} (hr : rs[j]? = some r) (hL : L j = false) (hcl : Shut ah L) (hah : ∀ i, ah i j → L i = true)
    (hok : ∀ b ∈ okT (stAt rs j st).env r.T r.d.ok, b = true) {Q : Exit → Act → World → Prop} {Kt : Act → World → Prop} (hinv : RAny F n K rs st L a w)
    (hK : ∀ a' w', RAny F n K rs st (with1 L j) a' w' → Kt a' w') : wpOp P ops.toArray Q j Kt a w := by
  obtain ⟨I, ρ, hi⟩ := hinv
  obtain ⟨hg, hD, hd, hup, hclo, hTu⟩ := h.did hr
  have hop := h.op hr
  have hreads : ∀ s, s ∈ looks ops r.o → Reads w I (memL L rs (find st.mem)) ρ a.tmps (stAt rs j st).env s := by
    intro s hs av hav
    exact hi.env s av (by rw [h.envSame hr hL hcl hah hs]; exact hav)
  have htags : ∀ t ∈ r.T, Reads w I (memL L rs (find st.mem)) ρ a.tmps (stAt rs j st).env t.1 := by
    intro t ht av hav
    obtain ⟨k, f, hkj, hk, hf, hin⟩ := h.tags j hr t ht
    have hLk := hin L hcl hah
    refine hi.env t.1 av ?_
    rw [h.slot hk hLk hf]
    rw [← envL_at, h.slot hk (by simp [hkj]) hf] at hav
    exact hav
  have hview : view (stAt rs j st).mem r.D = (memL L rs (find st.mem)).on (inDom r.D) := by
    funext id
    unfold view MF.on
    cases hid : inDom r.D id with
    | false => rfl
    | true => simp only [cond_true]; exact (h.memSame hr hL hcl hah hid).symm
  have hclo' : Closed (memL L rs (find st.mem)) (inDom r.D) := by
    intro id b t x hid hb hc
    rw [h.memSame hr hL hcl hah hid] at hb
    exact hclo id b t x hid hb hc
  have hwant : Region.wanted r.o (yielded ops.toArray a.tmps) = true ↔ TagsHold a.tmps r.T := by
    unfold guardOf at hg
    unfold Region.wanted
    cases hgd : r.o.guard with
    | none =>
      rw [hgd] at hg
      simp only [Option.some.injEq] at hg
      rw [← hg]
      simp [TagsHold]
    | some gw =>
      obtain ⟨g, b⟩ := gw
      rw [hgd] at hg
      simp only [Option.map_eq_some_iff] at hg
      obtain ⟨s, hs, hT⟩ := hg
      have hlook := looks_guard hgd hs
      have hs' : (ops.toArray[g]?).bind (·.dst) = some s := by rw [nthL_eq] at hs; simpa using hs
      have hin : (s, b) ∈ r.T := by
        rw [← hT]; unfold tagsAt; split <;> simp
      simp only [beq_iff_eq]
      rw [yielded_eq hs']
      constructor
      · intro hv t ht
        rw [← hT] at ht
        unfold tagsAt at ht
        split at ht
        · rename_i A e hf
          rcases List.mem_cons.1 ht with e1 | ht
          · subst e1; exact hv
          · have h1 := hreads s hlook _ hf
            by_cases hA : TagsHold a.tmps A
            · exact hA t ht
            · have := h1.2 hA
              rw [hv] at this
              exact absurd this.symm (undef_ne _)
        · rcases List.mem_cons.1 ht with e1 | ht
          · subst e1; exact hv
          · simp at ht
      · intro hT'; exact hT' _ hin
  unfold wpOp
  simp only [List.getElem?_toArray, hop]
  by_cases hw : TagsHold a.tmps r.T
  · rw [if_pos (hwant.2 hw)]
    refine .inl ?_
    have hdok : ∀ b ∈ r.d.ok, b = true := by
      intro b hb
      unfold okT at hok
      split at hok
      · exact hok b hb
      · rw [tagsB_ok hw htags] at hok
        exact onlyIf_ok hok b hb
    have hgives : Gives P F r.o a w (memL L rs (find st.mem)) I ρ r.d := by
      refine doS_ok (p := inDom r.D) hC hF hi.mem hclo' hup (fun s hs => hreads s (looks_tmp hs)) hw ?_ (hview ▸ hd) hdok
      intro x hx id hid
      rw [hD]
      exact inDom_of (mem_dom (x := opnd C (stAt rs j st).env r.T x) (by rw [mapL_eq]; exact List.mem_map.2 ⟨x, Array.mem_toList_iff.2 hx, rfl⟩) hid)
    refine hgives _ _ fun v w' I' ρ' hdn hs => hK _ _ ⟨I', ρ', ?_⟩
    have hmm := h.mems hr hL hcl
    rw [← hmm] at hdn hs
    refine ⟨hdn.mem, ?_, by rw [put_size]; exact hi.size, by rw [put_defers]; exact hi.defers, hi.kept.mono hdn.keep⟩
    refine h.slots hr hL hcl (tmps := a.tmps) (fun t ht => put_other _ _ _ _ ht) (fun s av hav => (hi.env s av hav).mono hdn.agree hdn.keep) ?_
    intro s hs'
    have hput : (a.put r.o.dst v).tmps.getD s Go.undef = v := by
      rw [hs']; exact put_same _ _ _ (by rw [hi.size]; exact h.tmps r s (List.mem_of_getElem? hr) hs')
    rw [hput]
    have htag : TagsHold (a.put r.o.dst v).tmps r.T := by
      intro t ht
      obtain ⟨k, f, hkj, hk, hf, _⟩ := h.tags j hr t ht
      rw [put_other]
      · exact hw t ht
      · intro e
        have := h.dsts _ _ _ _ _ hk hr hf e
        omega
    unfold whenT
    split
    · split
      · trivial
      · rename_i hn
        exact envR_of hs hn
    · exact ⟨fun _ => hs, fun hn => absurd htag hn⟩
  · rw [if_neg (fun h => hw (hwant.1 h))]
    refine hK _ _ ⟨I, ρ, ?_⟩
    have hTne : r.T ≠ [] := by intro e; rw [e] at hw; exact hw (by simp [TagsHold])
    have hu : r.d.upd = [] := hTu.resolve_left hTne
    have hmm := h.mems hr hL hcl
    rw [hu, MF.upd_nil] at hmm
    refine ⟨by rw [hmm]; exact hi.mem, ?_, by rw [put_size]; exact hi.size, by rw [put_defers]; exact hi.defers, by rw [hmm]; exact hi.kept⟩
    rw [hmm]
    refine h.slots hr hL hcl (tmps := a.tmps) (fun t ht => put_other _ _ _ _ ht) hi.env ?_
    intro s hs'
    have hput : (a.put r.o.dst Go.undef).tmps.getD s Go.undef = Go.undef := by
      rw [hs']; exact put_same _ _ _ (by rw [hi.size]; exact h.tmps r s (List.mem_of_getElem? hr) hs')
    rw [hput]
    have htag : ¬ TagsHold (a.put r.o.dst Go.undef).tmps r.T := by
      intro hh
      refine hw fun t ht => ?_
      obtain ⟨k, f, hkj, hk, hf, _⟩ := h.tags j hr t ht
      have := hh t ht
      rw [put_other] at this
      · exact this
      · intro e
        have := h.dsts _ _ _ _ _ hk hr hf e
        omega
    unfold whenT
    split
    · rename_i e; exact absurd e hTne
    · exact ⟨fun hh => absurd hh htag, fun _ => rfl⟩

end
end Go.Ab
namespace Go.Ab
section
variable {P : Program} {F : Fix} {C : Cx} {o : Oper} {a : Act} {w w' : World} {m : MF} {I I' : Nat → Prop} {ρ : Pl} {d : Did}
variable {n : Nat} {K : Keep} {ops : List Oper} {st st' : St} {rs : List Rec} {ah : Nat → Nat → Prop} {L : Nat → Bool}

theorem allB_iff : ∀ {l : List Bool}, allB l = true ↔ ∀ b ∈ l, b = true
  | [] => by simp [allB]
  | [a] => by simp [allB]
  | a :: b :: l => by
    have ih := allB_iff (l := b :: l)
    show (a && allB (b :: l)) = true ↔ _
    rw [Bool.and_eq_true, ih]
    simp

theorem Runs.oks {ops : List Oper} : ∀ {st st' : St} {rs : List Rec}, Runs C ops st rs st' → (∀ b ∈ st'.ok, b = true) → (∀ b ∈ st.ok, b = true) ∧ ∀ j r, rs[j]? = some r → ∀ b ∈ okT (stAt rs j st).env r.T r.d.ok, b = true
  | _, _, _, .nil _, h => ⟨h, fun j r hr => by simp at hr⟩
  | _, _, _, .cons (r := r) h1 h2, h => by
    obtain ⟨e1, e2⟩ := h2.oks h
    refine ⟨fun b hb => e1 b (by unfold Rec.go; simp only; rw [mem_app]; exact .inr hb), fun j r' hr => ?_⟩
    cases j with
    | zero =>
      simp only [List.getElem?_cons_zero, Option.some.injEq] at hr
      subst hr
      intro b hb
      exact e1 b (by unfold Rec.go; simp only; rw [mem_app]; exact .inl hb)
    | succ j => exact e2 j r' (by simpa using hr)

/-! ### edges, as bits -/
theorem aheads_take : ∀ (l : List Oper) (acc : List Nat), ∃ t, aheads l acc = acc ++ t
  | [], acc => ⟨[], by simp [aheads]⟩
  | o :: l, acc => by
    obtain ⟨t, ht⟩ := aheads_take l (app acc [aheadOf acc o.after.toList])
    refine ⟨[aheadOf acc o.after.toList] ++ t, ?_⟩
    simp only [aheads]
    rw [ht, app_eq]
    simp

theorem aheads_at : ∀ (l : List Oper) (acc : List Nat) (k : Nat) (o : Oper), l[k]? = some o →
    ∃ pre, pre.length = acc.length + k ∧ (∃ t, aheads l acc = pre ++ t) ∧ (aheads l acc)[acc.length + k]? = some (aheadOf pre o.after.toList)
  | [], acc, k, o, h => by simp at h
  | x :: l, acc, 0, o, h => by
    simp only [List.getElem?_cons_zero, Option.some.injEq] at h
    subst h
    obtain ⟨t, ht⟩ := aheads_take l (app acc [aheadOf acc x.after.toList])
    refine ⟨acc, rfl, ⟨[aheadOf acc x.after.toList] ++ t, ?_⟩, ?_⟩
    · simp only [aheads]; rw [ht, app_eq]; simp
    · simp only [aheads]; rw [ht, app_eq]; simp
  | x :: l, acc, k + 1, o, h => by
    obtain ⟨pre, h1, h2, h3⟩ := aheads_at l (app acc [aheadOf acc x.after.toList]) k o (by simpa using h)
    have hl : (app acc [aheadOf acc x.after.toList]).length = acc.length + 1 := by rw [app_eq]; simp
    rw [hl] at h1 h3
    refine ⟨pre, by omega, h2, ?_⟩
    rw [show acc.length + (k + 1) = acc.length + 1 + k by omega]
    exact h3

def bitAh (ops : List Oper) (i j : Nat) : Prop := Nat.testBit ((nthL (aheads ops []) j).getD 0) i = true

theorem aheadOf_bit {acc : List Nat} {i : Nat} : ∀ {es : List Edge}, Nat.testBit (aheadOf acc es) i = true → ∃ e ∈ es, Region.binds .any e = true ∧ (i = e.on ∨ Nat.testBit ((nthL acc e.on).getD 0) i = true)
  | [], h => by simp [aheadOf] at h
  | e :: es, h => by
    have rest : Nat.testBit (aheadOf acc es) i = true → ∃ x ∈ e :: es, Region.binds .any x = true ∧ (i = x.on ∨ Nat.testBit ((nthL acc x.on).getD 0) i = true) := fun h => by
      obtain ⟨x, h1, h2⟩ := aheadOf_bit h
      exact ⟨x, by simp [h1], h2⟩
    simp only [aheadOf] at h
    have main : Nat.testBit (Nat.lor (Nat.lor (2 ^ e.on) ((nthL acc e.on).getD 0)) (aheadOf acc es)) i = true → Region.binds .any e = true → ∃ x ∈ e :: es, Region.binds .any x = true ∧ (i = x.on ∨ Nat.testBit ((nthL acc x.on).getD 0) i = true) := by
      intro h hb
      change Nat.testBit ((2 ^ e.on ||| ((nthL acc e.on).getD 0)) ||| (aheadOf acc es)) i = true at h
      rw [Nat.testBit_or, Nat.testBit_or, Bool.or_eq_true, Bool.or_eq_true, Nat.testBit_two_pow] at h
      rcases h with (h | h) | h
      · exact ⟨e, by simp, hb, .inl (by simpa using (of_decide_eq_true h).symm)⟩
      · exact ⟨e, by simp, hb, .inr h⟩
      · exact rest h
    split at h
    · exact rest h
    · exact rest h
    · rename_i h1 h2
      refine main h ?_
      unfold Region.binds
      split <;> simp_all

theorem aheadOf_edge {acc : List Nat} : ∀ {es : List Edge} {e : Edge}, e ∈ es → Region.binds .any e = true → Nat.testBit (aheadOf acc es) e.on = true
  | x :: es, e, h, hb => by
    simp only [aheadOf]
    rcases List.mem_cons.1 h with he | h
    · subst he
      unfold Region.binds at hb
      split
      · simp_all
      · simp_all
      · change Nat.testBit ((2 ^ e.on ||| ((nthL acc e.on).getD 0)) ||| (aheadOf acc es)) e.on = true
        rw [Nat.testBit_or, Nat.testBit_or, Nat.testBit_two_pow]
        simp
    · have := aheadOf_edge (acc := acc) h hb
      split
      · exact this
      · exact this
      · change Nat.testBit ((2 ^ x.on ||| ((nthL acc x.on).getD 0)) ||| (aheadOf acc es)) e.on = true
        rw [Nat.testBit_or, this]
        simp

/-- the set holds what its operations' edges name -/
def Listed (ops : List Oper) (L : Nat → Bool) (j : Nat) : Prop := ∀ o, ops[j]? = some o → ∀ e ∈ o.after, Region.binds .any e = true → L e.on = true

theorem bit_of {j : Nat} {o : Oper} (ho : ops[j]? = some o) : ∃ pre, pre.length = j ∧ (∃ t, aheads ops [] = pre ++ t) ∧ (nthL (aheads ops []) j).getD 0 = aheadOf pre o.after.toList := by
  obtain ⟨pre, h1, h2, h3⟩ := aheads_at ops [] j o ho
  refine ⟨pre, by simpa using h1, h2, ?_⟩
  rw [nthL_eq]
  simp only [List.length_nil, Nat.zero_add] at h3
  rw [h3]
  rfl

theorem aheads_length : ∀ (l : List Oper) (acc : List Nat), (aheads l acc).length = acc.length + l.length
  | [], acc => by simp [aheads]
  | o :: l, acc => by simp only [aheads]; rw [aheads_length, app_eq]; simp; omega

theorem bitAh_in (hL : ∀ j, L j = true → Listed ops L j) : ∀ (j : Nat) {i : Nat}, bitAh ops i j → Listed ops L j → L i = true := by
  intro j
  induction j using Nat.strongRecOn with
  | _ j ih =>
  intro i h hj
  unfold bitAh at h
  cases ho : ops[j]? with
  | none =>
    have : nthL (aheads ops []) j = none := by
      rw [nthL_eq]
      have h1 := aheads_length ops []
      have h2 : ops.length ≤ j := by simpa using ho
      simp only [List.length_nil, Nat.zero_add] at h1
      exact List.getElem?_eq_none (by omega)
    rw [this] at h
    simp at h
  | some o =>
    obtain ⟨pre, h1, ⟨t, h2⟩, h3⟩ := bit_of ho
    rw [h3] at h
    obtain ⟨e, he, hb, h4⟩ := aheadOf_bit h
    have hLe := hj o ho e (Array.mem_toList_iff.1 he) hb
    rcases h4 with h4 | h4
    · rw [h4]; exact hLe
    · have hlt : e.on < j := by
        rcases Nat.lt_or_ge e.on pre.length with hh | hh
        · omega
        · rw [nthL_eq, List.getElem?_eq_none hh] at h4
          simp at h4
      refine ih e.on hlt ?_ (hL _ hLe)
      unfold bitAh
      rw [h2, nthL_eq, List.getElem?_append_left (by omega), ← nthL_eq]
      exact h4

theorem bitAh_shut (hL : ∀ j, L j = true → Listed ops L j) : Shut (bitAh ops) L := fun _ j h hj => bitAh_in hL j h (hL j hj)

theorem free_at {bits : List Nat} {fs : List Foot} : ∀ {n j : Nat}, free bits fs n = true → j < n → Nat.ble ((nthL bits j).getD 0 + 1) (2 ^ j) = true ∧
    allL (fun i => Nat.testBit ((nthL bits j).getD 0) i || (match nthL fs i, nthL fs j with | some f, some g => apartF f g | _, _ => false)) (upto j) = true
  | 0, j, _, h => by omega
  | n + 1, j, h, hj => by
    simp only [free, Bool.and_eq_true] at h
    by_cases e : j = n
    · subst e; exact ⟨h.1.2, h.2⟩
    · exact free_at h.1.1 (by omega)

theorem mem_upto : ∀ {n i : Nat}, i < n → i ∈ upto n
  | 0, i, h => by omega
  | n + 1, i, h => by
    unfold upto
    rw [mem_app]
    by_cases e : i = n
    · exact .inr (by simp [e])
    · exact .inl (mem_upto (by omega))

theorem guardsBack_at : ∀ {l : List Oper} {n i : Nat} {o : Oper} {g : Nat} {b : Bool}, guardsBack n l = true → l[i]? = some o → o.guard = some (g, b) → g < n + i
  | [], _, _, _, _, _, _, h, _ => by simp at h
  | x :: l, n, 0, o, g, b, hg, h, hh => by
    simp only [List.getElem?_cons_zero, Option.some.injEq] at h
    subst h
    simp only [guardsBack, hh, Bool.and_eq_true] at hg
    have := Nat.le_of_ble_eq_true hg.1
    omega
  | x :: l, n, i + 1, o, g, b, hg, h, hh => by
    simp only [guardsBack, Bool.and_eq_true] at hg
    have := guardsBack_at hg.2 (by simpa using h) hh
    omega

theorem fmapL_cons {α β : Type} (f : α → Option β) (x : α) (l : List α) : fmapL f (x :: l) = match f x with | some y => y :: fmapL f l | none => fmapL f l := rfl

theorem dsts_one : ∀ {l : List Oper}, (fmapL (fun o => o.dst) l).Nodup → ∀ {i j : Nat} {x y : Oper} {s : Nat}, l[i]? = some x → l[j]? = some y → x.dst = some s → y.dst = some s → i = j
  | [], _, _, _, _, _, _, h, _, _, _ => by simp at h
  | z :: l, hnd, i, j, x, y, s, hx, hy, hsx, hsy => by
    have hnd' : (fmapL (fun o => o.dst) l).Nodup := by
      rw [fmapL_cons] at hnd
      split at hnd
      · exact (List.nodup_cons.1 hnd).2
      · exact hnd
    have head : ∀ {k : Nat} {u : Oper}, z.dst = some s → l[k]? = some u → u.dst = some s → False := by
      intro k u hz hu hs
      rw [fmapL_cons, hz] at hnd
      exact (List.nodup_cons.1 hnd).1 (mem_fmapL.2 ⟨u, List.mem_of_getElem? hu, hs⟩)
    cases i with
    | zero =>
      simp only [List.getElem?_cons_zero, Option.some.injEq] at hx
      subst hx
      cases j with
      | zero => rfl
      | succ j => exact (head hsx (by simpa using hy) hsy).elim
    | succ i =>
      cases j with
      | zero =>
        simp only [List.getElem?_cons_zero, Option.some.injEq] at hy
        subst hy
        exact (head hsy (by simpa using hx) hsx).elim
      | succ j =>
        have hx' : l[i]? = some x := by simpa using hx
        have hy' : l[j]? = some y := by simpa using hy
        rw [dsts_one hnd' hx' hy' hsx hsy]

/-- a region's facts, from its evaluation -/
theorem Reg.of (hok : opsOk n ops = true) (hr : Runs C ops st rs st') (ho : rs.map (·.o) = ops) (he : ∀ s A b, find st.env s ≠ some (.when_ A b)) (hlt : ∀ i j, ah i j → i < j)
    (hsep : ∀ (i j : Nat) (f g : Rec), i < j → rs[i]? = some f → rs[j]? = some g → ah i j ∨ apartF (f.foot ops) (g.foot ops) = true) : Reg C n ops st st' rs ah := by
  simp only [opsOk, Bool.and_eq_true, nodup_spec] at hok
  obtain ⟨⟨h1, h2⟩, h3⟩ := hok
  have at_ : ∀ {i : Nat} {r : Rec}, rs[i]? = some r → ops[i]? = some r.o := fun {i r} h => by
    have := congrArg (fun l => l[i]?) ho
    simp only [List.getElem?_map, h, Option.map_some] at this
    exact this.symm
  refine ⟨hr, ho, fun i j ri rj s hi hj hsi hsj => dsts_one h1 (at_ hi) (at_ hj) hsi hsj, fun i r g b hi hg => by simpa using guardsBack_at h2 (at_ hi) hg, hlt, hsep, he, fun r s hr hs => ?_⟩
  have hm : r.o ∈ ops := ho ▸ List.mem_map.2 ⟨r, hr, rfl⟩
  have := allL_mem h3 r.o hm
  rw [hs] at this
  have := Nat.le_of_ble_eq_true this
  omega

end
end Go.Ab
namespace Go.Ab
section
variable {P : Program} {F : Fix} {C : Cx} {o : Oper} {a : Act} {w w' : World} {m : MF} {I I' : Nat → Prop} {ρ : Pl} {d : Did}
variable {n : Nat} {K : Keep} {ops : List Oper} {st st' : St} {rs : List Rec} {ah : Nat → Nat → Prop} {L : Nat → Bool}

/-- a state, as the machine has it -/
structure InvA (F : Fix) (n : Nat) (K : Keep) (st : St) (a : Act) (w : World) (I : Nat → Prop) (ρ : Pl) : Prop where
  mem : MemR F (find st.mem) w I ρ
  env : ∀ s av, find st.env s = some av → SlotR w I (find st.mem) ρ av (a.tmps.getD s Go.undef)
  size : a.tmps.size = n
  defers : a.defers = []
  kept : Kept K (find st.mem) ρ w
structure Inv (F : Fix) (n : Nat) (K : Keep) (st : St) (a : Act) (w : World) : Prop where
  any : ∃ I ρ, InvA F n K st a w I ρ
  nw : ∀ s A b, find st.env s ≠ some (.when_ A b)

theorem Inv.start (h : Inv F n K st a w) (rs : List Rec) : RAny F n K rs st (fun _ => false) a w := by
  obtain ⟨⟨I, ρ, h1⟩, hn⟩ := h
  refine ⟨I, ρ, by rw [memL_none]; exact h1.mem, fun s av hav => ?_, h1.size, h1.defers, by rw [memL_none]; exact h1.kept⟩
  rw [envL_none] at hav
  rw [memL_none]
  exact envR_of (h1.env s av hav) fun A b e => hn s A b (e ▸ hav)

theorem RAny.congr {L' : Nat → Bool} (h : RAny F n K rs st L a w) (hl : ∀ k, k < rs.length → L k = L' k) : RAny F n K rs st L' a w := by
  obtain ⟨I, ρ, h⟩ := h
  have hm : memL L rs (find st.mem) = memL L' rs (find st.mem) := by
    funext id
    exact memL_agree (fun k r hk _ => hl k (List.getElem?_eq_some_iff.1 hk).1) rfl
  have he : envL L rs (find st.env) = envL L' rs (find st.env) := by
    funext s
    exact envL_agree (fun k r hk _ => hl k (List.getElem?_eq_some_iff.1 hk).1) rfl
  exact ⟨I, ρ, hm ▸ h.mem, fun s av hav => hm ▸ h.env s av (he ▸ hav), h.size, h.defers, hm ▸ h.kept⟩

theorem Inv.drew (h : Inv F n K st a w) : Inv F n K st a { w with drawn := w.drawn + 1 } := by
  obtain ⟨⟨I, ρ, h1⟩, hn⟩ := h
  have hd := Done.drew h1.mem
  exact ⟨⟨I, ρ, hd.mem, fun s av hav => (h1.env s av hav).mono hd.agree hd.keep, h1.size, h1.defers, h1.kept.mono hd.keep⟩, hn⟩

theorem find_noWhen : ∀ (l : List (Nat × AT)) (s : Nat), find (noWhen l) s = (find l s).map fun a => match a with | .when_ _ _ => .any | a => a
  | [], s => rfl
  | (t, a) :: l, s => by
    have ih := find_noWhen l s
    cases a <;> simp only [noWhen, find_cons] <;> by_cases h : t = s <;> simp [h, ih]

theorem RAny.finish (h : RAny F n K rs st (fun k => decide (k < rs.length)) a w) (hr : Runs C ops st rs st') : 
    ∃ I ρ, InvA F n K st' a w I ρ := by
  obtain ⟨I, ρ, h⟩ := h
  have h1 := h.mem
  have h2 := h.env
  have h3 := h.kept
  rw [memL_at, hr.last] at h1 h2 h3
  rw [envL_at, hr.last] at h2
  refine ⟨I, ρ, h1, fun s av hav => ?_, h.size, h.defers, h3⟩
  have := h2 s av hav
  cases av with
  | when_ A b => trivial
  | _ => exact this

theorem Runs.noWhen : ∀ {st st' : St} {rs : List Rec}, Runs C ops st rs st' → (∀ r ∈ rs, r.T = []) → (∀ s A b, find st.env s ≠ some (.when_ A b)) → ∀ s A b, find st'.env s ≠ some (.when_ A b)
  | _, _, _, .nil _, _, h => h
  | _, _, _, .cons (r := r) h1 h2, hT, h => by
    refine h2.noWhen (fun r hr => hT r (by simp [hr])) fun s A b hf => ?_
    rw [env_go] at hf
    unfold EF.put at hf
    have hTr := hT r (by simp)
    cases hd : r.o.dst with
    | none => rw [hd] at hf; exact h s A b hf
    | some t =>
      rw [hd] at hf
      simp only at hf
      split at hf
      · rw [hTr, Option.some.injEq] at hf
        exact whenT_nil _ _ _ hf
      · exact h s A b hf

theorem regionS_inv {draw : Bool} {r : St} (hd : regionS C ops draw st = some r) : ∃ st' rs, opsS C ops ops st = some (st', rs) ∧
    (r = if anyL (fun o => o.guard.isSome) ops = true then { st' with env := noWhen st'.env } else st') ∧ (draw = true → free (aheads ops []) (mapL (Rec.foot ops) rs) ops.length = true) := by
  unfold regionS at hd
  split at hd
  · cases hd
  · rename_i st' rs hops
    refine ⟨st', rs, hops, ?_⟩
    dsimp only at hd
    cases draw with
    | false =>
      simp only [cond_false, Option.some.injEq] at hd
      refine ⟨?_, by simp⟩
      rw [← hd]
      cases anyL (fun o => o.guard.isSome) ops <;> rfl
    | true =>
      cases hf : free (aheads ops []) (mapL (Rec.foot ops) rs) ops.length with
      | false => simp [hf] at hd
      | true =>
        simp only [cond_true, hf, Option.some.injEq] at hd
        refine ⟨?_, fun _ => rfl⟩
        rw [← hd]
        cases anyL (fun o => o.guard.isSome) ops <;> rfl

/-- the state behind a region -/
theorem region_end {r : St} (hinv : Inv F n K st a w) {a' : Act} {w' : World} (hops : opsS C ops ops st = some (st', rs)) (hr : r = if anyL (fun o => o.guard.isSome) ops = true then { st' with env := noWhen st'.env } else st')
    (h : RAny F n K rs st (fun k => decide (k < rs.length)) a' w') : Inv F n K r a' w' := by
  obtain ⟨hrun, hmap⟩ := opsS_runs hops
  obtain ⟨I, ρ, h1⟩ := h.finish hrun
  cases hg : anyL (fun o => o.guard.isSome) ops with
  | true =>
    rw [hg, if_pos rfl] at hr
    subst hr
    refine ⟨⟨I, ρ, h1.mem, fun s av hav => ?_, h1.size, h1.defers, h1.kept⟩, fun s A b hf => ?_⟩
    · simp only [find_noWhen, Option.map_eq_some_iff] at hav
      obtain ⟨b, hb, e⟩ := hav
      have := h1.env s b hb
      subst e
      cases b <;> first | exact this | trivial
    · simp only [find_noWhen, Option.map_eq_some_iff] at hf
      obtain ⟨b', hb, e⟩ := hf
      cases b' <;> simp at e
  | false =>
    rw [hg, if_neg (by simp)] at hr
    subst hr
    refine ⟨⟨I, ρ, h1⟩, hrun.noWhen (fun x hx => ?_) hinv.nw⟩
    obtain ⟨k, hk⟩ := List.getElem?_of_mem hx
    have h2 := hrun.at hk
    have hxo : x.o ∈ ops := hmap ▸ List.mem_map.2 ⟨x, hx, rfl⟩
    have hng : x.o.guard = none := by
      cases hgg : x.o.guard with
      | none => rfl
      | some g =>
        have := anyL_of (p := fun o : Oper => o.guard.isSome) hxo (by simp [hgg])
        rw [hg] at this
        cases this
    unfold recS guardOf at h2
    rw [hng] at h2
    simp only at h2
    split at h2
    · cases h2
    · generalize hb : (allL _ _ && _ && _ : Bool) = b at h2
      cases b with
      | false => cases h2
      | true => simp only [cond_true, Option.some.injEq] at h2; rw [← h2]

theorem with1_lt (k : Nat) : with1 (fun i => decide (i < k)) k = fun i => decide (i < k + 1) := by
  funext i
  unfold with1
  by_cases h : i < k
  · have : i < k + 1 := by omega
    simp [h, this]
  · by_cases e : i = k
    · subst e; simp
    · have : ¬ i < k + 1 := by omega
      simp [h, e, this]

/-- in the list's order -/
theorem region_inorder {r : St} (hC : CxOk P C) (hF : FnOk P C) {ops : Array Oper} {id : Nat} (hok : opsOk n ops.toList = true) (hd : regionS C ops.toList false st = some r) (hro : ∀ b ∈ r.ok, b = true) (hinv : Inv F n K st a w)
    {Q : Exit → Act → World → Prop} (hQ : ∀ a' w', Inv F n K r a' w' → Q .normal a' w') : (Code.region id ops false).wp P Q a w := by
  obtain ⟨st', rs, hops, hr, _⟩ := regionS_inv hd
  obtain ⟨hrun, hmap⟩ := opsS_runs hops
  have hlen : rs.length = ops.size := by have := congrArg List.length hmap; simpa using this
  have hreg : Reg C n ops.toList st st' rs (fun i j => i < j) := Reg.of hok hrun hmap hinv.nw (fun _ _ h => h) (fun i j f g h _ _ => .inl h)
  have hst : ∀ b ∈ st'.ok, b = true := by
    intro b hb
    refine hro b ?_
    rw [hr]
    split <;> exact hb
  obtain ⟨_, hoks⟩ := hrun.oks hst
  refine wp_region ?_
  have main : ∀ (d k : Nat) (a : Act) (w : World), k + d = ops.size → RAny F n K rs st (fun i => decide (i < k)) a w → wpOps P ops Q (List.range' k d) a w := by
    intro d
    induction d with
    | zero =>
      intro k a w hk h
      simp only [List.range'_zero, wpOps]
      have : k = rs.length := by omega
      subst this
      exact hQ _ _ (region_end hinv hops hr h)
    | succ d ih =>
      intro k a w hk h
      rw [List.range'_succ, wpOps_cons]
      have hkl : k < rs.length := by omega
      have hrk : rs[k]? = some rs[k] := by simp [hkl]
      have := hreg.step hC hF hrk (L := fun i => decide (i < k)) (by simp) (by intro i j hij hj; simp at hj ⊢; omega) (by intro i hi; simpa using hi) (hoks k _ hrk) (Q := Q) (Kt := wpOps P ops Q (List.range' (k + 1) d)) h
        (fun a' w' h' => ih (k + 1) a' w' (by omega) (by rw [with1_lt] at h'; exact h'))
      simpa using this
  have := main ops.size 0 a w (by omega) ((hinv.start rs).congr (fun k _ => by simp))
  rwa [List.range_eq_range']

end
end Go.Ab
namespace Go.Ab
section
variable {P : Program} {F : Fix} {C : Cx} {o : Oper} {a : Act} {w w' : World} {m : MF} {I I' : Nat → Prop} {ρ : Pl} {d : Did}
variable {n : Nat} {K : Keep} {ops : List Oper} {st st' : St} {rs : List Rec} {ah : Nat → Nat → Prop} {L : Nat → Bool}

/-- how many are not listed yet -/
def unl : List Bool → Nat
  | [] => 0
  | b :: l => (if b then 0 else 1) + unl l

theorem unl_set : ∀ {l : List Bool} {i : Nat}, l[i]? = some false → unl (l.set i true) + 1 = unl l
  | [], i, h => by simp at h
  | b :: l, 0, h => by simp only [List.getElem?_cons_zero, Option.some.injEq] at h; subst h; simp [unl]; omega
  | b :: l, i + 1, h => by
    have := unl_set (l := l) (i := i) (by simpa using h)
    simp only [List.set_cons_succ, unl]
    omega

theorem unl_replicate : ∀ n : Nat, unl (List.replicate n false) = n
  | 0 => rfl
  | n + 1 => by simp [List.replicate_succ, unl, unl_replicate n]; omega

theorem unl_pos : ∀ {l : List Bool} {k : Nat}, l[k]? = some false → 0 < unl l
  | [], k, h => by simp at h
  | b :: l, 0, h => by simp only [List.getElem?_cons_zero, Option.some.injEq] at h; subst h; simp [unl]; omega
  | b :: l, k + 1, h => by
    have := unl_pos (l := l) (k := k) (by simpa using h)
    simp only [unl]
    omega

theorem getD_false {listed : Array Bool} {k : Nat} (h : k < listed.size) : listed.getD k true = listed.getD k false := by simp [h]

theorem ready_first {ops : Array Oper} {listed : Array Bool} (hs : listed.size = ops.size) (hback : ∀ j o, ops[j]? = some o → ∀ e ∈ o.after, Region.binds .any e = true → e.on < j) :
    ∀ (j : Nat), j < ops.size → listed.getD j false = false → Region.ready .any ops listed ≠ [] := by
  intro j
  induction j using Nat.strongRecOn with
  | _ j ih =>
  intro hj hl hr
  by_cases hex : ∃ k, k < j ∧ listed.getD k false = false
  · obtain ⟨k, hk, hkl⟩ := hex
    exact ih k hk (by omega) hkl hr
  · have hmem : j ∈ Region.ready .any ops listed := by
      rw [mem_ready]
      refine ⟨by rw [getD_false (by omega)]; exact hl, ops[j], by simp [hj], fun e he hb => ?_⟩
      have := hback j ops[j] (by simp [hj]) e he hb
      cases hv : listed.getD e.on false with
      | true => rfl
      | false => exact absurd ⟨e.on, this, hv⟩ hex
    rw [hr] at hmem
    simp at hmem

theorem any_ok (hC : CxOk P C) (hF : FnOk P C) {ops : Array Oper} (hreg : Reg C n ops.toList st st' rs (bitAh ops.toList)) (hlen : rs.length = ops.size)
    (hoks : ∀ j r, rs[j]? = some r → ∀ b ∈ okT (stAt rs j st).env r.T r.d.ok, b = true) (hback : ∀ j o, ops[j]? = some o → ∀ e ∈ o.after, Region.binds .any e = true → e.on < j)
    {Q : Exit → Act → World → Prop} (hQ : ∀ a' w', RAny F n K rs st (fun k => decide (k < rs.length)) a' w' → Q .normal a' w') :
    ∀ (fuel : Nat) (listed : Array Bool) (a : Act) (w : World), listed.size = ops.size → unl listed.toList ≤ fuel → (∀ j, listed.getD j false = true → Listed ops.toList (fun k => listed.getD k false) j) →
      RAny F n K rs st (fun k => listed.getD k false) a w → wpAny P .any ops Q fuel listed a w := by
  have done : ∀ (listed : Array Bool) (a : Act) (w : World), listed.size = ops.size → RAny F n K rs st (fun k => listed.getD k false) a w → Region.ready .any ops listed = [] → Q .normal a w := by
    intro listed a w hs h hr
    refine hQ a w (h.congr fun k hk => ?_)
    have hk' : k < ops.size := by omega
    cases hv : listed.getD k false with
    | true => simp [hk]
    | false => exact absurd hr (ready_first hs hback k hk' hv)
  intro fuel
  induction fuel with
  | zero =>
    intro listed a w hs hu _ h
    have hr : Region.ready .any ops listed = [] := by
      refine Classical.byContradiction fun hne => ?_
      obtain ⟨j, hj⟩ := List.exists_mem_of_ne_nil _ hne
      obtain ⟨h1, o, h2, _⟩ := mem_ready.1 hj
      have hjs : j < listed.size := by rw [hs]; exact (Array.getElem?_eq_some_iff.1 h2).1
      have : 0 < unl listed.toList := unl_pos (k := j) (by simp [hjs] at h1 ⊢; exact h1)
      omega
    exact ⟨hr, done listed a w hs h hr⟩
  | succ fuel ih =>
    intro listed a w hs hu hE h
    refine ⟨done listed a w hs h, fun j hj => ?_⟩
    obtain ⟨h1, o, h2, h3⟩ := mem_ready.1 hj
    have hjs : j < listed.size := by rw [hs]; exact (Array.getElem?_eq_some_iff.1 h2).1
    have hjf : listed.getD j false = false := by rw [← getD_false hjs]; exact h1
    have hjr : j < rs.length := by omega
    have hrj : rs[j]? = some rs[j] := by simp [hjr]
    have hlj : Listed ops.toList (fun k => listed.getD k false) j := by
      intro o' ho' e he hb
      have : o' = o := by have h4 : ops[j]? = some o' := by simpa using ho'
                          rw [h2] at h4; cases h4; rfl
      subst this
      exact h3 e he hb
    have hstep := hreg.step hC hF hrj (L := fun k => listed.getD k false) hjf (bitAh_shut hE) (fun i hi => bitAh_in hE j hi hlj) (hoks j _ hrj) (Q := Q)
      (Kt := wpAny P .any ops Q fuel (listed.setIfInBounds j true)) h (fun a' w' h' => ?_)
    · simpa using hstep
    · have hset : ∀ k, (listed.setIfInBounds j true).getD k false = with1 (fun k => listed.getD k false) j k := by
        intro k
        unfold with1
        by_cases e : k = j
        · subst e; simp [hjs]
        · simp [Array.getElem?_setIfInBounds_ne (Ne.symm e), e]
      refine ih _ a' w' (by simpa using hs) ?_ ?_ ?_
      · have hset' : (listed.setIfInBounds j true).toList = listed.toList.set j true := by simp
        have := unl_set (l := listed.toList) (i := j) (by simp [hjs] at hjf ⊢; exact hjf)
        rw [hset']
        omega
      · intro k hk o' ho' e he hb
        rw [hset] at hk
        show (listed.setIfInBounds j true).getD e.on false = true
        rw [hset]
        unfold with1 at hk ⊢
        simp only [Bool.or_eq_true, decide_eq_true_eq] at hk ⊢
        rcases hk with hk | hk
        · exact .inl (hE k hk o' ho' e he hb)
        · subst hk
          exact .inl (hlj o' ho' e he hb)
      · have : (fun k => (listed.setIfInBounds j true).getD k false) = with1 (fun k => listed.getD k false) j := funext hset
        rw [this]; exact h'

theorem region_drawn (hm : P.follows .mixedOrders = true) {r : St} (hC : CxOk P C) (hF : FnOk P C) {ops : Array Oper} {id : Nat} (hok : opsOk n ops.toList = true) (hd : regionS C ops.toList true st = some r) (hro : ∀ b ∈ r.ok, b = true) (hinv : Inv F n K st a w)
    {Q : Exit → Act → World → Prop} (hQ : ∀ a' w', Inv F n K r a' w' → Q .normal a' w') : (Code.region id ops true).wp P Q a w := by
  obtain ⟨st', rs, hops, hr, hfree⟩ := regionS_inv hd
  have hfree := hfree rfl
  obtain ⟨hrun, hmap⟩ := opsS_runs hops
  have hlen : rs.length = ops.size := by have := congrArg List.length hmap; simpa using this
  have hbit : ∀ i j, bitAh ops.toList i j → i < j := by
    intro i j h
    unfold bitAh at h
    by_cases hj : j < ops.toList.length
    · have h1 := Nat.le_of_ble_eq_true (free_at hfree hj).1
      have h2 := Nat.ge_two_pow_of_testBit h
      exact (Nat.pow_lt_pow_iff_right (by omega : 1 < 2)).1 (by omega)
    · have : nthL (aheads ops.toList []) j = none := by
        rw [nthL_eq]
        have h1 := aheads_length ops.toList []
        simp only [List.length_nil, Nat.zero_add] at h1
        exact List.getElem?_eq_none (by omega)
      rw [this] at h
      simp at h
  have hsep : ∀ (i j : Nat) (f g : Rec), i < j → rs[i]? = some f → rs[j]? = some g → bitAh ops.toList i j ∨ apartF (f.foot ops.toList) (g.foot ops.toList) = true := by
    intro i j f g hij hf hg
    have hj : j < ops.toList.length := by
      have := (List.getElem?_eq_some_iff.1 hg).1
      simp; omega
    have h1 := allL_mem (free_at hfree hj).2 i (mem_upto hij)
    rw [Bool.or_eq_true] at h1
    rcases h1 with h1 | h1
    · exact .inl h1
    · refine .inr ?_
      simp only [nthL_eq, mapL_eq, List.getElem?_map, hf, hg, Option.map_some] at h1
      exact h1
  have hreg : Reg C n ops.toList st st' rs (bitAh ops.toList) := Reg.of hok hrun hmap hinv.nw hbit hsep
  have hst : ∀ b ∈ st'.ok, b = true := by
    intro b hb
    refine hro b ?_
    rw [hr]
    split <;> exact hb
  obtain ⟨_, hoks⟩ := hrun.oks hst
  have hback : ∀ j o, ops[j]? = some o → ∀ e ∈ o.after, Region.binds .any e = true → e.on < j := by
    intro j o ho e he hb
    refine hbit e.on j ?_
    have ho' : ops.toList[j]? = some o := by simpa using ho
    obtain ⟨pre, h1, h2, h3⟩ := bit_of ho'
    unfold bitAh
    rw [h3]
    exact aheadOf_edge (Array.mem_toList_iff.2 he) hb
  refine wp_region_any hm ?_
  have hz : ∀ k, (Array.replicate ops.size false).getD k false = false := by intro k; by_cases h : k < ops.size <;> simp [h]
  refine any_ok hC hF hreg hlen hoks hback (fun a' w' h => hQ a' w' (region_end hinv hops hr h)) ops.size _ a _ (by simp) ?_ ?_ ?_
  · simp [unl_replicate]
  · intro j hj; rw [hz] at hj; cases hj
  · exact (hinv.drew.start rs).congr fun k _ => (hz k).symm

end
end Go.Ab
namespace Go.Ab
section
variable {P : Program} {F : Fix} {C : Cx} {o : Oper} {a : Act} {w w' : World} {m : MF} {I I' : Nat → Prop} {ρ : Pl} {d : Did}
variable {n : Nat} {K : Keep} {st st' : St}

/-! ### nil gets a block -/
structure FreshL (l : List (Nat × Blk)) (n e : Nat) : Prop where
  le : n ≤ e
  all : ∀ x ∈ l, n ≤ x.1 ∧ x.1 < e ∧ ∃ t, x.2 = ⟨0, false, .rows t []⟩
  fnd : ∀ x ∈ l, find l x.1 = some x.2

theorem FreshL.nil (n : Nat) : FreshL [] n n := ⟨Nat.le_refl _, fun x h => by simp at h, fun x h => by simp at h⟩

theorem FreshL.app {l l' : List (Nat × Blk)} {n k e : Nat} (h : FreshL l n k) (h' : FreshL l' k e) : FreshL (app l l') n e := by
  refine ⟨Nat.le_trans h.le h'.le, fun x hx => ?_, fun x hx => ?_⟩
  · rw [mem_app] at hx
    have := h.le
    have := h'.le
    rcases hx with hx | hx
    · obtain ⟨h1, h2, h3⟩ := h.all x hx; exact ⟨h1, by omega, h3⟩
    · obtain ⟨h1, h2, h3⟩ := h'.all x hx; exact ⟨by omega, h2, h3⟩
  · rw [find_app]
    rw [mem_app] at hx
    rcases hx with hx | hx
    · rw [h.fnd x hx]
    · cases hf : find l x.1 with
      | none => exact h'.fnd x hx
      | some b =>
        have h1 := (h.all _ (find_mem hf)).2.1
        have h2 := (h'.all x hx).1
        simp only at h1
        omega

/-- the new blocks are there -/
def There (l : List (Nat × Blk)) (m : MF) (ρ : Pl) : Prop := ∀ x ∈ l, m x.1 = some x.2 ∧ ρ x.1 = none

theorem There.left {l l' : List (Nat × Blk)} (h : There (app l l') m ρ) : There l m ρ := fun x hx => h x (mem_app.2 (.inl hx))
theorem There.right {l l' : List (Nat × Blk)} (h : There (app l l') m ρ) : There l' m ρ := fun x hx => h x (mem_app.2 (.inr hx))

theorem nilW_fresh : ∀ (a : AT) (n : Nat), FreshL (nilW a n).2.1 n (nilW a n).2.2 := by
  intro a
  induction a with
  | nil t => intro n; exact ⟨by simp [nilW], fun x hx => by simp only [nilW, List.mem_singleton] at hx; subst hx; simp only [nilW]; exact ⟨Nat.le_refl _, by omega, t, rfl⟩, fun x hx => by simp only [nilW, List.mem_singleton] at hx; subst hx; simp [nilW, find_cons]⟩
  | pair l r ihl ihr => intro n; exact (ihl n).app (ihr _)
  | tup l r ihl ihr => intro n; exact (ihl n).app (ihr _)
  | fn f c ih => intro n; exact ih n
  | _ => intro n; exact FreshL.nil n

theorem nilW_atr : ∀ {x : AT} {n : Nat} {vs : List Value}, There (nilW x n).2.1 m ρ → ATR w I m ρ x vs → ATR w I m ρ (nilW x n).1 vs := by
  intro x
  induction x with
  | nil t =>
    intro n vs ht h
    simp only [ATR] at h
    subst h
    obtain ⟨h1, h2⟩ := ht (n, ⟨0, false, .rows t []⟩) (by simp [nilW])
    simp only [nilW, ATR]
    refine ⟨⟨_, rfl, rfl⟩, ⟨_, h1, Nat.le_refl _⟩, fun b hb _ u xs hc => ?_⟩
    simp only at h1 h2
    rw [h1] at hb
    cases hb
    cases hc
    exact ⟨none, 0, rfl, Nat.le_refl _, .inl ⟨rfl, rfl, h2⟩⟩
  | pair l r ihl ihr =>
    intro n vs ht h
    simp only [ATR] at h
    obtain ⟨v1, v2, e, h1, h2⟩ := h
    exact ⟨v1, v2, e, ihl ht.left h1, ihr ht.right h2⟩
  | tup l r ihl ihr =>
    intro n vs ht h
    simp only [ATR] at h
    obtain ⟨v1, v2, e, h1, h2⟩ := h
    exact ⟨v1, v2, e, ihl ht.left h1, ihr ht.right h2⟩
  | fn f c ih =>
    intro n vs ht h
    simp only [ATR] at h
    obtain ⟨caps, e, h1⟩ := h
    exact ⟨caps, e, ih ht h1⟩
  | _ => intro n vs _ h; exact h

theorem nilW_typed : ∀ {x : AT} {n : Nat} {t : Ty}, Typed x t → Typed (nilW x n).1 t := by
  intro x
  induction x with
  | pair l r ihl ihr =>
    intro n t h
    simp only [Typed] at h
    obtain ⟨a, b, e, h1, h2⟩ := h
    exact ⟨a, b, e, ihl h1, ihr h2⟩
  | _ => intro n t h; exact h

theorem nilW_agg (x : AT) (n : Nat) : (nilW x n).1.isAgg = x.isAgg := by cases x <;> rfl

theorem nilW_val {x : AT} {n : Nat} {v : Value} (ht : There (nilW x n).2.1 m ρ) (h : ValR w I m ρ x v) : ValR w I m ρ (nilW x n).1 v := by
  unfold ValR at h ⊢
  rw [nilW_agg]
  split
  · rename_i hh
    rw [if_pos hh] at h
    obtain ⟨arr, e, h1⟩ := h
    exact ⟨arr, e, nilW_atr ht h1⟩
  · rename_i hh
    rw [if_neg hh] at h
    exact nilW_atr ht h

theorem nilW_tup : ∀ {x : AT} {n : Nat} {vs : List Value}, There (nilW x n).2.1 m ρ → TupR w I m ρ x vs → TupR w I m ρ (nilW x n).1 vs := by
  intro x
  induction x with
  | tup l r ihl ihr =>
    intro n vs ht h
    simp only [TupR] at h
    obtain ⟨v, vs', e, h1, h2⟩ := h
    exact ⟨v, vs', e, nilW_val ht.left h1, ihr ht.right h2⟩
  | tend => intro n vs _ h; exact h
  | _ => intro n vs _ h; simp [TupR] at h

theorem nilW_slot {x : AT} {n : Nat} {v : Value} (ht : There (nilW x n).2.1 m ρ) (h : SlotR w I m ρ x v) : SlotR w I m ρ (nilW x n).1 v := by
  cases x with
  | tup l r =>
    obtain ⟨arr, e, h1⟩ := h
    exact ⟨arr, e, nilW_tup (x := .tup l r) ht h1⟩
  | tend => exact h
  | any => trivial
  | when_ _ _ => trivial
  | leaf t y => exact h
  | nil t => exact nilW_val (x := .nil t) ht h
  | pair l r => exact nilW_val (x := .pair l r) ht h
  | fn f c => exact nilW_val (x := .fn f c) ht h
  | _ => exact h

theorem nilEnv_fresh : ∀ (l : List (Nat × AT)) (n : Nat), FreshL (nilEnv l n).2.1 n (nilEnv l n).2.2
  | [], n => FreshL.nil n
  | (s, x) :: l, n => (nilW_fresh x n).app (nilEnv_fresh l _)

theorem nilEnv_find : ∀ {l : List (Nat × AT)} {n s : Nat} {x' : AT}, find (nilEnv l n).1 s = some x' → ∃ x k, find l s = some x ∧ x' = (nilW x k).1 ∧ ∀ y ∈ (nilW x k).2.1, y ∈ (nilEnv l n).2.1
  | [], n, s, x', h => by simp [nilEnv, find] at h
  | (t, x) :: l, n, s, x', h => by
    simp only [nilEnv, find_cons] at h
    by_cases e : t = s
    · rw [if_pos e] at h
      cases h
      exact ⟨x, n, by simp [find_cons, e], rfl, fun y hy => mem_app.2 (.inl hy)⟩
    · rw [if_neg e] at h
      obtain ⟨z, k, h1, h2, h3⟩ := nilEnv_find h
      exact ⟨z, k, by simp [find_cons, e, h1], h2, fun y hy => mem_app.2 (.inr (h3 y hy))⟩

theorem nilBlk_fresh (b : Blk) (n : Nat) : FreshL (nilBlk b n).2.1 n (nilBlk b n).2.2 := by
  obtain ⟨st, fz, c⟩ := b
  cases c with
  | var t x => exact nilW_fresh x n
  | _ => exact FreshL.nil n

theorem nilMem_fresh : ∀ (l : Mem) (n : Nat), FreshL (nilMem l n).2.1 n (nilMem l n).2.2
  | [], n => FreshL.nil n
  | (s, x) :: l, n => (nilBlk_fresh x n).app (nilMem_fresh l _)

theorem nilMem_find : ∀ {l : Mem} {n s : Nat} {x' : Blk}, find (nilMem l n).1 s = some x' → ∃ x k, find l s = some x ∧ x' = (nilBlk x k).1 ∧ ∀ y ∈ (nilBlk x k).2.1, y ∈ (nilMem l n).2.1
  | [], n, s, x', h => by simp [nilMem, find] at h
  | (t, x) :: l, n, s, x', h => by
    simp only [nilMem, find_cons] at h
    by_cases e : t = s
    · rw [if_pos e] at h
      cases h
      exact ⟨x, n, by simp [find_cons, e], rfl, fun y hy => mem_app.2 (.inl hy)⟩
    · rw [if_neg e] at h
      obtain ⟨z, k, h1, h2, h3⟩ := nilMem_find h
      exact ⟨z, k, by simp [find_cons, e, h1], h2, fun y hy => mem_app.2 (.inr (h3 y hy))⟩

theorem nilMem_some : ∀ {l : Mem} {n s : Nat} {x : Blk}, find l s = some x → ∃ x', find (nilMem l n).1 s = some x'
  | [], n, s, x', h => by simp [find] at h
  | (t, x) :: l, n, s, x', h => by
    simp only [nilMem, find_cons] at h ⊢
    by_cases e : t = s
    · simp [e]
    · rw [if_neg e] at h ⊢
      exact nilMem_some h

theorem find_uniq : ∀ (l : Mem) (seen : List Nat) (i : Nat), find (uniq l seen) i = if i ∈ seen then none else find l i
  | [], seen, i => by simp [uniq, find]
  | (j, b) :: l, seen, i => by
    simp only [uniq]
    by_cases hj : j ∈ seen
    · rw [anyL_beq.2 hj]
      simp only [cond_true, find_uniq l seen i, find_cons]
      by_cases hi : i ∈ seen
      · simp [hi]
      · have : j ≠ i := fun e => hi (e ▸ hj)
        simp [hi, this]
    · have : anyL (Nat.beq j) seen = false := by
        cases h : anyL (Nat.beq j) seen with
        | false => rfl
        | true => exact absurd (anyL_beq.1 h) hj
      rw [this]
      simp only [cond_false, find_cons, find_uniq l (j :: seen) i, List.mem_cons]
      by_cases e : j = i
      · subst e; simp [hj]
      · have : ¬ i = j := fun h => e h.symm
        simp [e, this]

theorem find_keepEnv : ∀ {l : List Nat} {env : List (Nat × AT)} {s : Nat} {x : AT}, find (keepEnv env l) s = some x → find env s = some x
  | [], env, s, x, h => by simp [keepEnv, find] at h
  | t :: l, env, s, x, h => by
    simp only [keepEnv] at h
    split at h
    · rename_i y hy
      rw [find_cons] at h
      split at h
      · rename_i e; subst e; rw [hy]; exact h
      · exact find_keepEnv h
    · exact find_keepEnv h

theorem nilBlk_same (b : Blk) (n : Nat) : (nilBlk b n).1.st = b.st ∧ (nilBlk b n).1.fz = b.fz ∧ SameSh b.c (nilBlk b n).1.c := by
  obtain ⟨st, fz, c⟩ := b
  cases c with
  | var t x => exact ⟨rfl, rfl, rfl⟩
  | rows t xs => exact ⟨rfl, rfl, rfl, rfl⟩
  | deep rs t xs => exact ⟨rfl, rfl, SameSh.refl _⟩
  | dead => exact ⟨rfl, rfl, trivial⟩

theorem nilBlk_rel {id : Nat} {b : Blk} {k : Nat} (ht : There (nilBlk b k).2.1 m ρ) (h : BlkR w I m ρ id b) : BlkR w I m ρ id (nilBlk b k).1 := by
  obtain ⟨st, fz, c⟩ := b
  cases c with
  | var t x =>
    obtain ⟨h1, B, cs, h2, h3, h4, h5⟩ := h
    exact ⟨nilW_typed h1, B, cs, h2, h3, nilW_atr (x := x) (n := k) ht h4, h5⟩
  | rows t xs => exact h
  | deep rs t xs => exact h
  | dead => exact h

theorem nilBlk_deep {b : Blk} {k : Nat} (h : (nilBlk b k).1.isDeep) : (nilBlk b k).1 = b := by
  obtain ⟨st, fz, c⟩ := b
  cases c with
  | var t x => simp [nilBlk, Blk.isDeep] at h
  | rows t xs => rfl
  | deep rs t xs => rfl
  | dead => rfl

theorem plainA_ok {keep : List Nat} (hb : allL (fun x => Nat.ble (x.1 + 1) nilBase) st.mem = true) (h : Inv F n K st a w) :
    ∃ I ρ, InvA F n K (plainA keep st) a w I ρ := by
  obtain ⟨⟨I, ρ, hi⟩, hn⟩ := h
  have hA : plainA keep st = ⟨(nilEnv (keepEnv st.env keep) nilBase).1, app (nilMem (uniq st.mem []) (nilEnv (keepEnv st.env keep) nilBase).2.2).1 (app (nilEnv (keepEnv st.env keep) nilBase).2.1 (nilMem (uniq st.mem []) (nilEnv (keepEnv st.env keep) nilBase).2.2).2.1), st.ok⟩ := rfl
  rw [hA]
  generalize hE : nilEnv (keepEnv st.env keep) nilBase = E
  generalize hM : nilMem (uniq st.mem []) E.2.2 = M
  have hfe : FreshL E.2.1 nilBase E.2.2 := hE ▸ nilEnv_fresh _ _
  have hfm : FreshL M.2.1 E.2.2 M.2.2 := hM ▸ nilMem_fresh _ _
  have hfr := hfe.app hfm
  have hlt : ∀ id b, find st.mem id = some b → id < nilBase := fun id b hb' => by
    have := allL_mem hb _ (find_mem hb')
    have := Nat.le_of_ble_eq_true this
    omega
  have huniq : ∀ i, find (uniq st.mem []) i = find st.mem i := fun i => by rw [find_uniq]; simp
  have hold : ∀ id b', find M.1 id = some b' → ∃ b k, find st.mem id = some b ∧ b' = (nilBlk b k).1 ∧ ∀ y ∈ (nilBlk b k).2.1, y ∈ M.2.1 := by
    intro id b' hf
    rw [← hM] at hf
    obtain ⟨b, k, h1, h2, h3⟩ := nilMem_find hf
    rw [huniq] at h1
    exact ⟨b, k, h1, h2, hM ▸ h3⟩
  let m1 : MF := find (app M.1 (app E.2.1 M.2.1))
  let ρ1 : Pl := ⟨fun i => if i < nilBase then ρ i else none, fun i => if i < nilBase then ρ.d i else []⟩
  have hfind : ∀ id b', m1 id = some b' → (∃ b k, find st.mem id = some b ∧ b' = (nilBlk b k).1 ∧ ∀ y ∈ (nilBlk b k).2.1, y ∈ M.2.1) ∨ (nilBase ≤ id ∧ ∃ t, b' = ⟨0, false, .rows t []⟩) := by
    intro id b' hf
    change find (app M.1 (app E.2.1 M.2.1)) id = some b' at hf
    rw [find_app] at hf
    split at hf
    · rename_i b hb'
      cases hf
      exact .inl (hold id _ hb')
    · obtain ⟨h1, _, h3⟩ := hfr.all _ (find_mem hf)
      exact .inr ⟨h1, h3⟩
  have hold1 : ∀ id b, find st.mem id = some b → ∃ k, m1 id = some (nilBlk b k).1 := by
    intro id b hb'
    obtain ⟨b', hb2⟩ := nilMem_some (l := uniq st.mem []) (n := E.2.2) (by rw [huniq]; exact hb')
    rw [hM] at hb2
    obtain ⟨b0, k, h1, h2, h3⟩ := hold id b' hb2
    rw [hb'] at h1
    cases h1
    refine ⟨k, ?_⟩
    show find (app M.1 (app E.2.1 M.2.1)) id = _
    rw [find_app, hb2, h2]
  have hthere : There (app E.2.1 M.2.1) m1 ρ1 := by
    intro x hx
    obtain ⟨h1, _, _⟩ := hfr.all x hx
    refine ⟨?_, by show (if x.1 < nilBase then ρ x.1 else none) = none; rw [if_neg (by omega)]⟩
    show find (app M.1 (app E.2.1 M.2.1)) x.1 = _
    rw [find_app]
    cases hf : find M.1 x.1 with
    | none => exact hfr.fnd x hx
    | some b =>
      obtain ⟨b0, k, h2, _⟩ := hold _ _ hf
      have := hlt _ _ h2
      omega
  have hkeep : Keeps (find st.mem) m1 ρ ρ1 w w := by
    refine ⟨fun id b hb' => ?_, fun _ _ _ _ _ _ _ _ _ _ _ _ _ _ _ _ => rfl⟩
    obtain ⟨k, hk⟩ := hold1 id b hb'
    obtain ⟨e1, e2, e3⟩ := nilBlk_same b k
    exact ⟨_, hk, .inr ⟨e1.symm, e3, by show (if id < nilBase then ρ id else none) = _; rw [if_pos (hlt id b hb')], fun _ _ _ _ cs hc => ⟨cs, hc, Nat.le_refl _⟩⟩⟩
  have hag := Agree.refl I w
  have hρ : ∀ id B o, ρ1 id = some (B, o) → ρ id = some (B, o) := by
    intro id B o h
    change (if id < nilBase then ρ id else none) = _ at h
    split at h
    · exact h
    · cases h
  have hlive : ∀ {id : Nat} {b' : Blk}, m1 id = some b' → b'.live → ∀ {B o}, ρ1 id = some (B, o) → ∃ b, find st.mem id = some b ∧ b.live := by
    intro id b' hb' hl B o hr
    rcases hfind id b' hb' with ⟨b, k, h1, h2, _⟩ | ⟨h1, _⟩
    · refine ⟨b, h1, ?_⟩
      obtain ⟨_, _, e3⟩ := nilBlk_same b k
      rw [h2] at hl
      unfold Blk.live at hl ⊢
      revert e3 hl
      cases b.c <;> cases (nilBlk b k).1.c <;> simp [SameSh]
    · change (if id < nilBase then ρ id else none) = _ at hr
      rw [if_neg (by omega)] at hr
      cases hr
  refine ⟨I, ρ1, ⟨?_, ?_, hi.size, hi.defers, hi.kept.mono hkeep⟩⟩
  · refine ⟨fun id b' hb' => ?_, fun id id' b b' B o o' h1 h2 h3 h4 h5 h6 => ?_, hi.mem.imm, hi.mem.imm0, hi.mem.immN, fun id b B o h1 h2 h3 => ?_, fun id b hb' hdp => ?_, hi.mem.frame, hi.mem.size, hi.mem.os, hi.mem.tape, hi.mem.output⟩
    · rcases hfind id b' hb' with ⟨b, k, h1, h2, h3⟩ | ⟨h1, t, h2⟩
      · subst h2
        refine nilBlk_rel (m := m1) (ρ := ρ1) (fun y hy => hthere y (mem_app.2 (.inr (h3 y hy)))) ?_
        refine (hi.mem.blk id b h1).mono hag hkeep ?_ ?_ (fun _ _ _ _ => ⟨rfl, fun h => h⟩) (fun _ _ _ => ⟨rfl, fun h => h⟩)
        · show (if id < nilBase then ρ id else none) = _
          rw [if_pos (hlt id b h1)]
        · show (if id < nilBase then ρ.d id else []) = _
          rw [if_pos (hlt id b h1)]
      · subst h2
        refine ⟨trivial, .inl ⟨rfl, ?_⟩⟩
        show (if id < nilBase then ρ id else none) = none
        rw [if_neg (by omega)]
    · obtain ⟨c, hc1, hc2⟩ := hlive h1 h3 h5
      obtain ⟨c', hc1', hc2'⟩ := hlive h2 h4 h6
      exact hi.mem.inj id id' c c' B o o' hc1 hc1' hc2 hc2' (hρ _ _ _ h5) (hρ _ _ _ h6)
    · obtain ⟨c, hc1, hc2⟩ := hlive h1 h2 h3
      exact hi.mem.mine id c B o hc1 hc2 (hρ _ _ _ h3)
    · have hback : ∀ {i : Nat} {c : Blk}, m1 i = some c → c.isDeep → find st.mem i = some c ∧ ρ1.d i = ρ.d i := by
        intro i c hc hd
        rcases hfind i c hc with ⟨b0, k, h1, h2, _⟩ | ⟨_, t, h2⟩
        · rw [h2] at hd
          have := nilBlk_deep hd
          rw [h2, this]
          refine ⟨h1, ?_⟩
          show (if i < nilBase then ρ.d i else []) = _
          rw [if_pos (hlt i b0 h1)]
        · rw [h2] at hd; simp [Blk.isDeep] at hd
      obtain ⟨h1, h2⟩ := hback hb' hdp
      obtain ⟨q1, q2⟩ := hi.mem.dp id b h1 hdp
      rw [h2]
      refine ⟨q1, fun B hB => ⟨(q2 B hB).1, fun id' b' o g1 g2 g3 => ?_, fun id' b' g1 g2 g3 => ?_⟩⟩
      · obtain ⟨c, hc1, hc2⟩ := hlive g1 g2 g3
        exact (q2 B hB).2.1 id' c o hc1 hc2 (hρ _ _ _ g3)
      · obtain ⟨k1, k2⟩ := hback g1 g2
        rw [k2] at g3
        exact (q2 B hB).2.2 id' b' k1 g2 g3
  · intro s av hav
    rw [← hE] at hav
    obtain ⟨x, k, h1, h2, h3⟩ := nilEnv_find hav
    subst h2
    refine nilW_slot (m := m1) (ρ := ρ1) (fun y hy => hthere y (mem_app.2 (.inl (hE ▸ h3 y hy)))) ?_
    exact (hi.env s x (find_keepEnv h1)).mono hag hkeep

end
end Go.Ab
namespace Go.Ab
section
variable {P : Program} {F : Fix} {C : Cx} {o : Oper} {a : Act} {w w' : World} {m m' : MF} {I I' : Nat → Prop} {ρ ρ' : Pl} {d : Did}
variable {n : Nat} {K : Keep} {st st' : St} {μ : List (Nat × Nat)}

/-! ### blocks get new numbers -/
def SameC : BC → BC → Prop
  | c, .rows u xs => c = .rows u xs
  | c, .deep _ u xs => ∃ r, c = .deep r u xs
  | c, .var t _ => ∃ x, c = .var t x
  | _, .dead => True

theorem SameC.arr {c c' : BC} {x : Ty × Nat} (h : SameC c c') (e : c'.arr = some x) : c.arr = some x := by
  cases c' with
  | rows u xs => simp only [SameC] at h; subst h; exact e
  | deep r u xs => obtain ⟨r', h⟩ := h; subst h; exact e
  | var _ _ => cases e
  | dead => cases e

structure Moved (m m' : MF) (ρ ρ' : Pl) (μ : List (Nat × Nat)) : Prop where
  to : ∀ id j b, find μ id = some j → m id = some b → ∃ b', m' j = some b' ∧ (0 < b'.st ∨ (b'.st = 0 ∧ SameC b.c b'.c)) ∧ ρ' j = ρ id

theorem renRef_cases {id st : Nat} {f : Nat → AT} : renRef m μ id st f = .undef 1 ∨ ∃ b j, m id = some b ∧ b.st = st ∧ find μ id = some j ∧ renRef m μ id st f = f j := by
  unfold renRef
  split
  · rename_i b hb
    split
    · rename_i j hj
      exact .inr ⟨b, j, (cur_some hb).1, (cur_some hb).2, hj, rfl⟩
    · exact .inl rfl
  · exact .inl rfl

theorem one_undef {vs : List Value} (h : OneR vs) : ATR w I m ρ (.undef 1) vs := by
  obtain ⟨v, e, h1⟩ := h
  subst e
  exact ⟨rfl, fun u hu => by simp only [List.mem_singleton] at hu; subst hu; exact h1⟩

theorem HdrAt.to {id j sz off : Nat} {ad : Option Addr} {cap : Nat} (h : HdrAt w ρ id sz off ad cap) (e : ρ' j = ρ id) : HdrAt w ρ' j sz off ad cap := by
  unfold HdrAt at *
  rw [e]; exact h
theorem HdrW.to {id j sz : Nat} {ad : Option Addr} {cap : Nat} (h : HdrW w ρ id sz ad cap) (e : ρ' j = ρ id) : HdrW w ρ' j sz ad cap := by
  unfold HdrW at *
  rw [e]; exact h

theorem renA_atr (hμ : Moved m m' ρ ρ' μ) : ∀ {x : AT} {vs : List Value}, ATR w I m ρ x vs → ATR w I m' ρ' (renA m μ x) vs := by
  intro x
  have ref : ∀ {id st : Nat} {f : Nat → AT} {vs : List Value}, OneR vs →
      (∀ b j b', m id = some b → b.st = st → m' j = some b' → (b'.st = 0 → SameC b.c b'.c) → ρ' j = ρ id → ATR w I m' ρ' (f j) vs) → ATR w I m' ρ' (renRef m μ id st f) vs := by
    intro id st f vs h1 h
    rcases renRef_cases (m := m) (μ := μ) (id := id) (st := st) (f := f) with e | ⟨b, j, e1, e2, e3, e4⟩
    · rw [e]; exact one_undef h1
    · rw [e4]
      obtain ⟨b', k1, k2, k3⟩ := hμ.to id j b e3 e1
      refine h b j b' e1 e2 k1 (fun hz => ?_) k3
      rcases k2 with k2 | k2
      · omega
      · exact k2.2
  induction x with
  | leaf t x => intro vs h; exact h
  | whole id st t =>
    intro vs h
    simp only [ATR] at h
    refine ref h.1 fun b j b' e1 e2 k1 k2 k3 => ⟨h.1, ⟨b', k1, Nat.zero_le _⟩, fun b2 hb2 hst u xs hc => ?_⟩
    rw [k1] at hb2; cases hb2
    obtain ⟨ad, cap, q1, q2, q3⟩ := h.2.2 b e1 e2 u xs ((k2 hst).arr hc)
    exact ⟨ad, cap, q1, q2, q3.to k3⟩
  | piece id st off len t =>
    intro vs h
    simp only [ATR] at h
    refine ref h.1 fun b j b' e1 e2 k1 k2 k3 => ⟨h.1, ⟨b', k1, Nat.zero_le _⟩, fun b2 hb2 hst u xs hc => ?_⟩
    rw [k1] at hb2; cases hb2
    obtain ⟨ad, cap, q1, q2, q3, q4⟩ := h.2.2 b e1 e2 u xs ((k2 hst).arr hc)
    exact ⟨ad, cap, q1, q2, q3, q4.to k3⟩
  | nil t => intro vs h; exact h
  | nil0 => intro vs h; exact h
  | pair l r ihl ihr => intro vs h; obtain ⟨v1, v2, e, h1, h2⟩ := h; exact ⟨v1, v2, e, ihl h1, ihr h2⟩
  | undef n => intro vs h; exact h
  | vptr id st p =>
    intro vs h
    simp only [ATR] at h
    refine ref h.1 fun b j b' e1 e2 k1 k2 k3 => ⟨h.1, ⟨b', k1, Nat.zero_le _⟩, fun b2 hb2 hst t x hc => ?_⟩
    rw [k1] at hb2; cases hb2
    have := k2 hst
    rw [hc] at this
    obtain ⟨x', hx'⟩ := this
    rw [k3]
    exact h.2.2 b e1 e2 t x' hx'
  | ptr id st row p =>
    intro vs h
    simp only [ATR] at h
    refine ref h.1 fun b j b' e1 e2 k1 k2 k3 => ⟨h.1, ⟨b', k1, Nat.zero_le _⟩, fun b2 hb2 hst t xs hc => ?_⟩
    rw [k1] at hb2; cases hb2
    rw [k3]
    exact h.2.2 b e1 e2 t xs ((k2 hst).arr hc)
  | nest id st rs row p u => intro vs h; simp only [ATR] at h; exact ⟨h.1, h.2.1⟩
  | fn f c ih => intro vs h; obtain ⟨caps, e, h1⟩ := h; exact ⟨caps, e, ih h1⟩
  | tup l r ihl ihr => intro vs h; obtain ⟨v1, v2, e, h1, h2⟩ := h; exact ⟨v1, v2, e, ihl h1, ihr h2⟩
  | tend => intro vs h; exact h
  | when_ g b => intro vs h; simp [ATR] at h
  | any => intro vs h; exact h

theorem renA_agg : ∀ (x : AT), x.noNest = true → (renA m μ x).isAgg = x.isAgg := by
  intro x hnn
  have ref : ∀ {id st : Nat} {f : Nat → AT}, (∀ j, (f j).isAgg = false) → (renRef m μ id st f).isAgg = false := by
    intro id st f h
    rcases renRef_cases (m := m) (μ := μ) (id := id) (st := st) (f := f) with e | ⟨b, j, _, _, _, e⟩ <;> rw [e]
    · rfl
    · exact h j
  cases x <;> first | rfl | exact ref fun _ => rfl | (simp [AT.noNest] at hnn)

theorem renA_typed : ∀ {x : AT} {t : Ty}, x.noNest = true → Typed x t → Typed (renA m μ x) t := by
  intro x
  induction x with
  | whole id st u =>
    intro t _ h
    simp only [Typed] at h
    subst h
    simp only [renA]
    rcases renRef_cases (m := m) (μ := μ) (id := id) (st := st) (f := fun j => AT.whole j 0 u) with e | ⟨b, j, _, _, _, e⟩ <;> rw [e]
    · exact ⟨rfl, rfl⟩
    · rfl
  | piece id st off len u =>
    intro t _ h
    simp only [Typed] at h
    subst h
    simp only [renA]
    rcases renRef_cases (m := m) (μ := μ) (id := id) (st := st) (f := fun j => AT.piece j 0 off len u) with e | ⟨b, j, _, _, _, e⟩ <;> rw [e]
    · exact ⟨rfl, rfl⟩
    · rfl
  | pair l r ihl ihr => intro t hn h; simp only [AT.noNest, Bool.and_eq_true] at hn; obtain ⟨a, b, e, h1, h2⟩ := h; exact ⟨a, b, e, ihl hn.1 h1, ihr hn.2 h2⟩
  | nest _ _ _ _ _ _ => intro t hn h; simp [AT.noNest] at hn
  | vptr id st p => intro t _ h; simp [Typed] at h
  | ptr id st row p => intro t _ h; simp [Typed] at h
  | fn f c ih => intro t _ h; simp [Typed] at h
  | tup l r ihl ihr => intro t _ h; simp [Typed] at h
  | when_ g b => intro t _ h; simp [Typed] at h
  | _ => intro t _ h; exact h

theorem renA_val (hμ : Moved m m' ρ ρ' μ) {x : AT} {v : Value} (hn : x.noNest = true) (h : ValR w I m ρ x v) : ValR w I m' ρ' (renA m μ x) v := by
  unfold ValR at h ⊢
  rw [renA_agg x hn]
  split
  · rename_i hh
    rw [if_pos hh] at h
    obtain ⟨arr, e, h1⟩ := h
    exact ⟨arr, e, renA_atr hμ h1⟩
  · rename_i hh
    rw [if_neg hh] at h
    exact renA_atr hμ h

theorem renA_tup (hμ : Moved m m' ρ ρ' μ) : ∀ {x : AT} {vs : List Value}, x.noNest = true → TupR w I m ρ x vs → TupR w I m' ρ' (renA m μ x) vs := by
  intro x
  induction x with
  | tup l r ihl ihr => intro vs hn h; simp only [AT.noNest, Bool.and_eq_true] at hn; obtain ⟨v, vs', e, h1, h2⟩ := h; exact ⟨v, vs', e, renA_val hμ hn.1 h1, ihr hn.2 h2⟩
  | tend => intro vs _ h; exact h
  | _ => intro vs _ h; simp [TupR] at h

theorem slot_of_val {x : AT} {v : Value} (h : ValR w I m ρ x v) (hn : ∀ l r, x ≠ .tup l r) (h1 : x ≠ .tend) : SlotR w I m ρ x v := by
  cases x <;> first | exact h | trivial | exact absurd rfl (hn _ _) | exact absurd rfl h1

theorem renA_slot (hμ : Moved m m' ρ ρ' μ) {x : AT} {v : Value} (hn : x.noNest = true) (h : SlotR w I m ρ x v) : SlotR w I m' ρ' (renA m μ x) v := by
  have ref : ∀ {id st : Nat} {f : Nat → AT}, (∀ j, (∀ l r, f j ≠ .tup l r) ∧ f j ≠ .tend) → ValR w I m' ρ' (renRef m μ id st f) v → SlotR w I m' ρ' (renRef m μ id st f) v := by
    intro id st f hf hv
    refine slot_of_val hv ?_ ?_ <;> rcases renRef_cases (m := m) (μ := μ) (id := id) (st := st) (f := f) with e | ⟨b, j, _, _, _, e⟩ <;> rw [e]
    · intro l r; simp
    · exact (hf j).1
    · simp
    · exact (hf j).2
  cases x with
  | tup l r => obtain ⟨arr, e, h1⟩ := h; exact ⟨arr, e, renA_tup hμ (x := .tup l r) hn h1⟩
  | tend => exact h
  | any => trivial
  | when_ _ _ => trivial
  | whole id st t => exact ref (fun j => ⟨by intro l r; simp, by simp⟩) (renA_val hμ (x := .whole id st t) hn h)
  | piece id st off len t => exact ref (fun j => ⟨by intro l r; simp, by simp⟩) (renA_val hμ (x := .piece id st off len t) hn h)
  | ptr id st row p => exact ref (fun j => ⟨by intro l r; simp, by simp⟩) (renA_val hμ (x := .ptr id st row p) hn h)
  | vptr id st p => exact ref (fun j => ⟨by intro l r; simp, by simp⟩) (renA_val hμ (x := .vptr id st p) hn h)
  | leaf t y => exact h
  | nil t => exact h
  | nil0 => exact h
  | pair l r => exact renA_val hμ (x := .pair l r) hn h
  | undef k => exact h
  | fn f c => exact renA_val hμ (x := .fn f c) hn h
  | nest _ _ _ _ _ _ => simp [AT.noNest] at hn

theorem renE_slot (hμ : Moved m m' ρ ρ' μ) {x : AT} {v : Value} (h : SlotR w I m ρ x v) : SlotR w I m' ρ' (renE m μ x) v := by
  have main : SlotR w I m' ρ' (bif x.noNest then renA m μ x else .any) v := by
    cases hn : x.noNest with
    | true => exact renA_slot hμ hn h
    | false => trivial
  cases x <;> first | exact main | trivial

theorem find_putM {i : Nat} {b : Blk} : ∀ {l : Mem} (j : Nat), find (putM i b l) j = if i = j then some b else find l j
  | [], j => by simp [putM, find_cons]
  | (k, c) :: l, j => by
    simp only [putM]
    cases h : Nat.ble i k with
    | true => simp only [cond_true, find_cons]
    | false =>
      have hik : i ≠ k := by intro e; subst e; rw [Nat.ble_eq_true_of_le (Nat.le_refl _)] at h; cases h
      simp only [cond_false, find_cons, find_putM (l := l)]
      by_cases e : i = j
      · subst e
        have : ¬ k = i := fun e => hik e.symm
        simp [this]
      · simp [e]

theorem find_sortM : ∀ (l : Mem) (j : Nat), find (sortM l) j = find l j
  | [], _ => rfl
  | (i, b) :: l, j => by
    show find (putM i b (sortM l)) j = _
    rw [find_putM, find_cons, find_sortM l]

theorem find_of_nodup {α : Type} : ∀ {l : List (Nat × α)} {i : Nat} {x : α}, (l.map (·.1)).Nodup → (i, x) ∈ l → find l i = some x
  | [], i, x, _, h => by simp at h
  | (j, y) :: l, i, x, hn, h => by
    simp only [List.map_cons, List.nodup_cons] at hn
    rw [find_cons]
    rcases List.mem_cons.1 h with e | h
    · cases e; simp
    · have : j ≠ i := by intro e; subst e; exact hn.1 (List.mem_map.2 ⟨_, h, rfl⟩)
      rw [if_neg this]
      exact find_of_nodup hn.2 h

theorem renBlk_spec {i : Nat} {b : Blk} (h : m i = some b) : (renBlk m μ i = ⟨1, false, .dead⟩ ∧ 0 < b.st ∧ isPid i = true) ∨
    ((isPid i = false ∨ b.st = 0) ∧ (renBlk m μ i).st = 0 ∧ (renBlk m μ i).fz = b.fz ∧ ((∃ t x, b.c = .var t x ∧ (renBlk m μ i).c = .var t (renA m μ x)) ∨ (∃ t xs, b.c = .rows t xs ∧ (renBlk m μ i).c = .rows t xs) ∨ (∃ r t xs, b.c = .deep r t xs ∧ (renBlk m μ i).c = .deep 0 t xs) ∨ (b.c = .dead ∧ (renBlk m μ i).c = .dead))) := by
  obtain ⟨st, fz, c⟩ := b
  unfold renBlk
  rw [h]
  simp only
  cases hp : isPid i && !(Nat.beq st 0) with
  | true =>
    simp only [cond_true, true_and]
    simp only [Bool.and_eq_true, Bool.not_eq_true'] at hp
    refine .inl ⟨Nat.pos_of_ne_zero fun e => ?_, hp.1⟩
    subst e
    simp at hp
  | false =>
    simp only [cond_false]
    refine .inr ⟨?_, ?_⟩
    · rw [Bool.and_eq_false_iff] at hp
      rcases hp with hp | hp
      · exact .inl hp
      · refine .inr ?_
        simp only [Bool.not_eq_false'] at hp
        exact Nat.eq_of_beq_eq_true hp
    · cases c with
      | var t x => exact ⟨rfl, rfl, .inl ⟨t, x, rfl, rfl⟩⟩
      | rows t xs => exact ⟨rfl, rfl, .inr (.inl ⟨t, xs, rfl, rfl⟩)⟩
      | deep r t xs => exact ⟨rfl, rfl, .inr (.inr (.inl ⟨r, t, xs, rfl, rfl⟩))⟩
      | dead => exact ⟨rfl, rfl, .inr (.inr (.inr ⟨rfl, rfl⟩))⟩

theorem renA_nw (x : AT) : ∀ A b, renA m μ x ≠ .when_ A b := by
  intro A b
  cases x <;> simp only [renA] <;> first
    | (intro h; cases h; done)
    | (rename_i id st _; rcases renRef_cases (m := m) (μ := μ) (id := id) (st := st) with e | ⟨_, j, _, _, _, e⟩ <;> rw [e] <;> simp; done)
    | skip
  all_goals (intro h; unfold renRef at h; split at h <;> (try split at h) <;> cases h)

theorem renE_nw (x : AT) : ∀ A b, renE m μ x ≠ .when_ A b := by
  intro A b
  have main : (bif x.noNest then renA m μ x else .any) ≠ .when_ A b := by
    cases x.noNest with
    | true => exact renA_nw x A b
    | false => simp
  cases x <;> first | exact main | simp [renE]

theorem find_mapR (m : MF) (μ : List (Nat × Nat)) : ∀ (env : List (Nat × AT)) (s : Nat), find (mapL (fun x => (x.1, renE m μ x.2)) env) s = (find env s).map (renE m μ)
  | [], s => rfl
  | (t, x) :: l, s => by
    simp only [mapL, find_cons, find_mapR m μ l]
    by_cases e : t = s <;> simp [e]

theorem plainB_ok {p : St} (hb : plainB st = some p) (h : ∃ I ρ, InvA F n K st a w I ρ) : Inv F n K p a w := by
  obtain ⟨I, ρ, hi⟩ := h
  unfold plainB at hb
  dsimp only at hb
  generalize renIds st.mem 100 _ = μ at hb
  obtain ⟨hok, hb⟩ := bif_some hb
  cases hb
  rw [Bool.and_eq_true] at hok
  obtain ⟨hok, hnn⟩ := hok
  have hnn' : ∀ i fz s t x, find st.mem i = some ⟨s, fz, .var t x⟩ → x.noNest = true := fun i fz s t x h => allL_mem hnn _ (find_mem h)
  simp only [renOk, Bool.and_eq_true, nodup_spec, mapL_eq] at hok
  obtain ⟨⟨⟨n1, n2⟩, hpid⟩, hpm⟩ := hok
  let m : MF := find st.mem
  let m' : MF := find (sortM (mapL (fun x => (x.2, renBlk (find st.mem) μ x.1)) μ))
  let sw : List (Nat × Nat) := μ.map fun x => (x.2, x.1)
  let ρ' : Pl := ⟨fun j => match find sw j with | some i => ρ i | none => none, fun j => match find sw j with | some i => ρ.d i | none => []⟩
  have nsw : (sw.map (·.1)).Nodup := by simpa [sw, Function.comp_def] using n2
  have hsw : ∀ i j, (i, j) ∈ μ → ρ' j = ρ i := by
    intro i j hij
    show (match find sw j with | some i => ρ i | none => none) = _
    rw [find_of_nodup nsw (List.mem_map.2 ⟨(i, j), hij, rfl⟩)]
  have hswd : ∀ i j, (i, j) ∈ μ → ρ'.d j = ρ.d i := by
    intro i j hij
    show (match find sw j with | some i => ρ.d i | none => []) = _
    rw [find_of_nodup nsw (List.mem_map.2 ⟨(i, j), hij, rfl⟩)]
  have nm : (((mapL (fun x : Nat × Nat => (x.2, renBlk (find st.mem) μ x.1)) μ)).map (·.1)).Nodup := by
    rw [mapL_eq]
    simpa [Function.comp_def] using n2
  have hto : ∀ i j, (i, j) ∈ μ → m' j = some (renBlk m μ i) := by
    intro i j hij
    show find (sortM _) j = _
    rw [find_sortM]
    exact find_of_nodup nm (by rw [mapL_eq]; exact List.mem_map.2 ⟨(i, j), hij, rfl⟩)
  have hfrom : ∀ j b', m' j = some b' → ∃ i, (i, j) ∈ μ ∧ b' = renBlk m μ i := by
    intro j b' h
    change find (sortM _) j = _ at h
    rw [find_sortM, mapL_eq] at h
    obtain ⟨⟨i, k⟩, h1, h2⟩ := List.mem_map.1 (find_mem h)
    cases h2
    exact ⟨i, h1, rfl⟩
  have hmv : Moved m m' ρ ρ' μ := by
    refine ⟨fun id j b hf hb => ?_⟩
    have hin := find_mem hf
    refine ⟨_, hto id j hin, ?_, hsw id j hin⟩
    rcases renBlk_spec (μ := μ) hb with ⟨e, _, _⟩ | ⟨_, e1, _, e2⟩
    · rw [e]; exact .inl (by decide)
    · refine .inr ⟨e1, ?_⟩
      rcases e2 with ⟨t, x, k1, k2⟩ | ⟨t, xs, k1, k2⟩ | ⟨r, t, xs, k1, k2⟩ | ⟨k1, k2⟩ <;> rw [k2, k1]
      · exact ⟨x, rfl⟩
      · rfl
      · exact ⟨r, rfl⟩
      · trivial
  have hlive : ∀ i j, (i, j) ∈ μ → (renBlk m μ i).live → ∃ b, m i = some b ∧ b.live := by
    intro i j hij hl
    cases hb : m i with
    | none =>
      have : renBlk m μ i = ⟨0, false, .dead⟩ := by unfold renBlk; rw [hb]
      rw [this] at hl
      exact hl.elim
    | some b =>
      refine ⟨b, rfl, ?_⟩
      rcases renBlk_spec (μ := μ) hb with ⟨e, _, _⟩ | ⟨_, _, _, e2⟩
      · rw [e] at hl; exact hl.elim
      · rcases e2 with ⟨t, x, k1, k2⟩ | ⟨t, xs, k1, k2⟩ | ⟨r, t, xs, k1, k2⟩ | ⟨k1, k2⟩
        · exact live_of_var k1
        · exact live_of_rows k1
        · unfold Blk.live; rw [k1]; trivial
        · unfold Blk.live at hl; rw [k2] at hl; exact hl.elim
  have hdeep : ∀ i j, (i, j) ∈ μ → (renBlk m μ i).isDeep → ∃ b, m i = some b ∧ b.isDeep := by
    intro i j hij hd
    obtain ⟨b, hb, _⟩ := hlive i j hij (deep_live hd)
    refine ⟨b, hb, ?_⟩
    unfold Blk.isDeep at hd ⊢
    rcases renBlk_spec (μ := μ) hb with ⟨e, _, _⟩ | ⟨_, _, _, e2⟩
    · rw [e] at hd; exact hd.elim
    · rcases e2 with ⟨t, x, k1, k2⟩ | ⟨t, xs, k1, k2⟩ | ⟨r, t, xs, k1, k2⟩ | ⟨k1, k2⟩ <;> rw [k2] at hd
      · exact hd.elim
      · exact hd.elim
      · rw [k1]; trivial
      · exact hd.elim
  have hsame : ∀ {i j j' : Nat}, (i, j) ∈ μ → (i, j') ∈ μ → j = j' := by
    intro i j j' h h'
    have f1 := find_of_nodup n1 h
    rw [find_of_nodup n1 h'] at f1
    cases f1
    rfl
  refine ⟨⟨I, ρ', ⟨?_, ?_, hi.size, hi.defers, ?_⟩⟩, ?_⟩
  · refine ⟨fun j b' hb' => ?_, fun j j' b b' B o o' h1 h2 h3 h4 h5 h6 => ?_, hi.mem.imm, hi.mem.imm0, hi.mem.immN, fun j b B o h1 h2 h3 => ?_, fun j b hb' hd => ?_, hi.mem.frame, hi.mem.size, hi.mem.os, hi.mem.tape, hi.mem.output⟩
    · obtain ⟨i, hij, e⟩ := hfrom j b' hb'
      subst e
      cases hb : m i with
      | none =>
        have : renBlk m μ i = ⟨0, false, .dead⟩ := by unfold renBlk; rw [hb]
        rw [this]; trivial
      | some b =>
        have hblk := hi.mem.blk i b hb
        rcases renBlk_spec (μ := μ) hb with ⟨e, _, _⟩ | ⟨_, _, e1, e2⟩
        · rw [e]; trivial
        · unfold BlkR at hblk ⊢
          rcases e2 with ⟨t, x, k1, k2⟩ | ⟨t, xs, k1, k2⟩ | ⟨r, t, xs, k1, k2⟩ | ⟨k1, k2⟩
          · rw [k1] at hblk
            rw [k2]
            simp only at hblk ⊢
            obtain ⟨q1, B, cs, q2, q3, q4, q5⟩ := hblk
            exact ⟨renA_typed (hnn' i b.fz b.st t x (by show m i = _; rw [hb, ← k1])) q1, B, cs, by rw [hsw i j hij]; exact q2, q3, renA_atr hmv q4, by rw [e1]; exact q5⟩
          · rw [k1] at hblk
            rw [k2]
            simp only at hblk ⊢
            rw [hsw i j hij, e1]
            exact hblk
          · rw [k1] at hblk
            rw [k2]
            simp only at hblk ⊢
            rw [hsw i j hij, hswd i j hij, e1]
            exact hblk
          · rw [k2]; trivial
    · obtain ⟨i, hij, e⟩ := hfrom j b h1
      obtain ⟨i', hij', e'⟩ := hfrom j' b' h2
      subst e e'
      obtain ⟨c, hc1, hc2⟩ := hlive i j hij h3
      obtain ⟨c', hc1', hc2'⟩ := hlive i' j' hij' h4
      have := hi.mem.inj i i' c c' B o o' hc1 hc1' hc2 hc2' (by rw [← hsw i j hij]; exact h5) (by rw [← hsw i' j' hij']; exact h6)
      subst this
      have f1 := find_of_nodup n1 hij
      have f2 := find_of_nodup n1 hij'
      rw [f1] at f2
      cases f2
      rfl
    · obtain ⟨i, hij, e⟩ := hfrom j b h1
      subst e
      obtain ⟨c, hc1, hc2⟩ := hlive i j hij h2
      exact hi.mem.mine i c B o hc1 hc2 (by rw [← hsw i j hij]; exact h3)
    · obtain ⟨i, hij, e⟩ := hfrom j b hb'
      subst e
      obtain ⟨c, hc1, hc2⟩ := hdeep i j hij hd
      obtain ⟨q1, q2⟩ := hi.mem.dp i c hc1 hc2
      rw [hswd i j hij]
      refine ⟨q1, fun B hB => ⟨(q2 B hB).1, fun j' b' o g1 g2 g3 => ?_, fun j' b' g1 g2 g3 => ?_⟩⟩
      · obtain ⟨i', hij', e'⟩ := hfrom j' b' g1
        subst e'
        obtain ⟨c', hc1', hc2'⟩ := hlive i' j' hij' g2
        exact (q2 B hB).2.1 i' c' o hc1' hc2' (by rw [← hsw i' j' hij']; exact g3)
      · obtain ⟨i', hij', e'⟩ := hfrom j' b' g1
        subst e'
        obtain ⟨c', hc1', hc2'⟩ := hdeep i' j' hij' g2
        have := (q2 B hB).2.2 i' c' hc1' hc2' (by rw [← hswd i' j' hij']; exact g3)
        subst this
        exact hsame hij' hij
  · intro s av hav
    simp only [find_mapR, Option.map_eq_some_iff] at hav
    obtain ⟨x, hx, e⟩ := hav
    subst e
    exact renE_slot hmv (hi.env s x hx)
  · intro id b0 hb0
    obtain ⟨b, hb, h1⟩ := hi.kept id b0 hb0
    have hp := K.pid id b0 hb0
    have := allL_mem hpm _ (find_mem hb)
    simp only [hp, Bool.not_true, Bool.false_or] at this
    split at this
    · rename_i j hj
      have := Nat.eq_of_beq_eq_true this
      subst this
      have hin := find_mem hj
      refine ⟨_, hto _ _ hin, ?_⟩
      rcases renBlk_spec (μ := μ) hb with ⟨e, _, _⟩ | ⟨e0, e1, _, e2⟩
      · rw [e]; exact .inl (by decide)
      · refine .inr ⟨e1, ?_⟩
        have hz : b.st = 0 := by
          rcases e0 with e0 | e0
          · rw [hp] at e0; cases e0
          · exact e0
        rcases h1 with h1 | ⟨_, k2, k3, k4⟩
        · omega
        · refine ⟨k2.trans ?_, (hsw _ _ hin).trans k3, k4⟩
          rcases e2 with ⟨t, x, q1, q2⟩ | ⟨t, xs, q1, q2⟩ | ⟨r, t, xs, q1, q2⟩ | ⟨q1, q2⟩ <;> (show SameT b.c (renBlk m μ _).c) <;> rw [q1, q2]
          · exact rfl
          · exact ⟨rfl, rfl⟩
          · exact ⟨rfl, rfl⟩
          · trivial
    · cases this
  · intro s A b hf
    simp only [find_mapR, Option.map_eq_some_iff] at hf
    obtain ⟨x, hx, e⟩ := hf
    exact renE_nw x A b e

theorem plain_ok {keep : List Nat} {p : St} (hp : plain keep st = some p) (h : Inv F n K st a w) : Inv F n K p a w := by
  unfold plain at hp
  cases hb : allL (fun x => Nat.ble (x.1 + 1) nilBase) st.mem with
  | false => rw [hb] at hp; cases hp
  | true =>
    rw [hb] at hp
    exact plainB_ok hp (plainA_ok hb h)

end
end Go.Ab
namespace Go.Ab
section
variable {P : Program} {F : Fix} {C : Cx} {o : Oper} {a : Act} {w w' : World} {m m' : MF} {I I' : Nat → Prop} {ρ ρ' : Pl} {d : Did}
variable {n : Nat} {K : Keep} {st st' : St}

/-! ### data of a plain state -/
theorem pathIs_eq : ∀ {p q : Path}, pathIs p q = true → p = q
  | [], [], _ => rfl
  | .fst :: p, .fst :: q, h => by rw [pathIs_eq (p := p) (q := q) h]
  | .snd :: p, .snd :: q, h => by rw [pathIs_eq (p := p) (q := q) h]
  | .idx i :: p, .idx j :: q, h => by
    simp only [pathIs, Bool.and_eq_true] at h
    rw [Nat.eq_of_beq_eq_true h.1, pathIs_eq (p := p) (q := q) h.2]
  | [], _ :: _, h => by simp [pathIs] at h
  | .fst :: _, [], h => by simp [pathIs] at h
  | .snd :: _, [], h => by simp [pathIs] at h
  | .idx _ :: _, [], h => by simp [pathIs] at h
  | .fst :: _, .snd :: _, h => by simp [pathIs] at h
  | .fst :: _, .idx _ :: _, h => by simp [pathIs] at h
  | .snd :: _, .fst :: _, h => by simp [pathIs] at h
  | .snd :: _, .idx _ :: _, h => by simp [pathIs] at h
  | .idx _ :: _, .fst :: _, h => by simp [pathIs] at h
  | .idx _ :: _, .snd :: _, h => by simp [pathIs] at h

theorem AS.data_ok : ∀ {s : AS} {x : AT} {y : s.den}, s.data x = some y → s.of y = x := by
  intro s
  induction s with
  | leaf t =>
    intro x y h
    cases x <;> simp only [AS.data, reduceCtorEq] at h
    have := as_some h
    cases this
    rfl
  | whole id t =>
    intro x y h
    cases x <;> (try simp only [AS.data, reduceCtorEq] at h)
    rename_i jd st u
    cases st with
    | succ k => cases h
    | zero =>
      simp only [AS.data] at h
      obtain ⟨e1, _⟩ := bif_some h
      simp only [Bool.and_eq_true] at e1
      have := Nat.eq_of_beq_eq_true e1.1
      have := Ty.is_eq e1.2
      subst_vars
      rfl
  | piece id t =>
    intro x y h
    cases x <;> (try simp only [AS.data, reduceCtorEq] at h)
    rename_i jd st off len u
    cases st with
    | succ k => cases h
    | zero =>
      simp only [AS.data] at h
      obtain ⟨e1, e2⟩ := bif_some h
      simp only [Bool.and_eq_true] at e1
      have := Nat.eq_of_beq_eq_true e1.1
      have := Ty.is_eq e1.2
      subst_vars
      cases e2
      rfl
  | nil0 => intro x y h; cases x <;> simp only [AS.data, reduceCtorEq] at h; rfl
  | pair l r ihl ihr =>
    intro x y h
    cases x <;> simp only [AS.data, reduceCtorEq] at h
    split at h
    · rename_i u v hu hv
      cases h
      simp only [AS.of, ihl hu, ihr hv]
    · cases h
  | undef k =>
    intro x y h
    cases x <;> simp only [AS.data, reduceCtorEq] at h
    obtain ⟨e1, _⟩ := bif_some h
    have := Nat.eq_of_beq_eq_true e1
    subst_vars
    rfl
  | ptr id p =>
    intro x y h
    cases x <;> (try simp only [AS.data, reduceCtorEq] at h)
    rename_i jd st row q
    cases st with
    | succ k => cases h
    | zero =>
      simp only [AS.data] at h
      obtain ⟨e1, e2⟩ := bif_some h
      simp only [Bool.and_eq_true] at e1
      have := Nat.eq_of_beq_eq_true e1.1
      have := pathIs_eq e1.2
      subst_vars
      cases e2
      rfl
  | vptr id p =>
    intro x y h
    cases x <;> (try simp only [AS.data, reduceCtorEq] at h)
    rename_i jd st q
    cases st with
    | succ k => cases h
    | zero =>
      simp only [AS.data] at h
      obtain ⟨e1, e2⟩ := bif_some h
      simp only [Bool.and_eq_true] at e1
      have := Nat.eq_of_beq_eq_true e1.1
      have := pathIs_eq e1.2
      subst_vars
      rfl
  | fn f c ih =>
    intro x y h
    cases x <;> simp only [AS.data, reduceCtorEq] at h
    obtain ⟨e1, e2⟩ := bif_some h
    have := Nat.eq_of_beq_eq_true e1
    subst this
    simp only [AS.of, ih e2]
  | tup l r ihl ihr =>
    intro x y h
    cases x <;> simp only [AS.data, reduceCtorEq] at h
    split at h
    · rename_i u v hu hv
      cases h
      simp only [AS.of, ihl hu, ihr hv]
    · cases h
  | tend => intro x y h; cases x <;> simp only [AS.data, reduceCtorEq] at h; rfl
  | any => intro x y h; cases x <;> simp only [AS.data, reduceCtorEq] at h; rfl

theorem BS.data_ok {s : BS} {x : BC} {y : s.den} (h : s.data x = some y) : s.of y = x := by
  cases s with
  | var t a =>
    cases x <;> simp only [BS.data, reduceCtorEq] at h
    obtain ⟨e1, e2⟩ := bif_some h
    have := Ty.is_eq e1
    subst this
    simp only [BS.of, AS.data_ok e2]
  | rows t =>
    cases x <;> simp only [BS.data, reduceCtorEq] at h
    have := as_some h
    cases this
    rfl
  | deep t =>
    cases x with
    | deep r u xs =>
      cases r with
      | zero =>
        simp only [BS.data] at h
        have := as_some h
        cases this
        rfl
      | succ r => simp [BS.data] at h
    | _ => simp [BS.data] at h

theorem envData_ok : ∀ {l : List (Nat × AS)} {e : List (Nat × AT)} {y : envDen l}, envData l e = some y → envOf l y = e
  | [], [], y, _ => rfl
  | [], _ :: _, y, h => by simp [envData] at h
  | [(s, a)], [], y, h => by simp [envData] at h
  | [(s, a)], [(s', b)], y, h => by
    simp only [envData] at h
    obtain ⟨e1, e2⟩ := bif_some h
    have := Nat.eq_of_beq_eq_true e1
    subst this
    simp only [envOf, AS.data_ok e2]
  | [(s, a)], _ :: _ :: _, y, h => by simp [envData] at h
  | (s, a) :: a' :: l, [], y, h => by simp [envData] at h
  | (s, a) :: a' :: l, (s', b) :: l', y, h => by
    simp only [envData] at h
    obtain ⟨e1, e2⟩ := bif_some h
    have := Nat.eq_of_beq_eq_true e1
    subst this
    split at e2
    · rename_i u v hu hv
      cases e2
      simp only [envOf, AS.data_ok hu, envData_ok hv]
    · cases e2

theorem memData_ok : ∀ {l : List (Nat × Bool × BS)} {e : Mem} {y : memDen l}, memData l e = some y → memOf l y = e
  | [], [], y, _ => rfl
  | [], _ :: _, y, h => by simp [memData] at h
  | [(s, f, a)], [], y, h => by simp [memData] at h
  | [(s, f, a)], [(s', ⟨st, f', b⟩)], y, h => by
    cases st with
    | succ k => simp [memData] at h
    | zero =>
      simp only [memData] at h
      obtain ⟨e1, e2⟩ := bif_some h
      simp only [Bool.and_eq_true] at e1
      have := Nat.eq_of_beq_eq_true e1.1
      have := boolIs_eq e1.2
      subst_vars
      simp only [memOf, BS.data_ok e2]
  | [(s, f, a)], _ :: _ :: _, y, h => by simp [memData] at h
  | (s, f, a) :: a' :: l, [], y, h => by simp [memData] at h
  | (s, f, a) :: a' :: l, (s', ⟨st, f', b⟩) :: l', y, h => by
    cases st with
    | succ k => simp [memData] at h
    | zero =>
      simp only [memData] at h
      obtain ⟨e1, e2⟩ := bif_some h
      simp only [Bool.and_eq_true] at e1
      have := Nat.eq_of_beq_eq_true e1.1
      have := boolIs_eq e1.2
      subst_vars
      split at e2
      · rename_i u v hu hv
        cases e2
        simp only [memOf, BS.data_ok hu, memData_ok hv]
      · cases e2

theorem Inv.ok_any {e : List (Nat × AT)} {m : Mem} {k k' : List Bool} (h : Inv F n K ⟨e, m, k⟩ a w) : Inv F n K ⟨e, m, k'⟩ a w := by
  obtain ⟨⟨I, ρ, h1⟩, h2⟩ := h
  exact ⟨⟨I, ρ, h1.mem, h1.env, h1.size, h1.defers, h1.kept⟩, h2⟩

theorem sh_data {s : Sh} {x : s.den} {ok : List Bool} (hd : s.data st = some x) (h : Inv F n K st a w) : Inv F n K { s.of x with ok := ok } a w := by
  unfold Sh.data at hd
  split at hd
  · cases hd
  · rename_i p hp
    split at hd
    · rename_i u v hu hv
      cases hd
      have h1 := plain_ok hp h
      obtain ⟨pe, pm, pk⟩ := p
      have e1 := envData_ok hu
      have e2 := memData_ok hv
      simp only at e1 e2
      subst e1 e2
      exact h1.ok_any
    · cases hd

def exOf : Ex → Exit
  | .norm => .normal
  | .exit i => .exit i
  | .ret => .ret

theorem Ex.is_eq : ∀ {e f : Ex}, e.is f = true → e = f
  | .norm, .norm, _ => rfl
  | .exit i, .exit j, h => by rw [Nat.eq_of_beq_eq_true (show Nat.beq i j = true from h)]
  | .ret, .ret, _ => rfl
  | .norm, .exit _, h => by simp [Ex.is] at h
  | .norm, .ret, h => by simp [Ex.is] at h
  | .exit _, .norm, h => by simp [Ex.is] at h
  | .exit _, .ret, h => by simp [Ex.is] at h
  | .ret, .norm, h => by simp [Ex.is] at h
  | .ret, .exit _, h => by simp [Ex.is] at h

theorem exits_ok {α : Type} {Kt : Ex → St → Option α} {ok : List Bool} {r : α} {f : Ex} : ∀ {l : Exits} {y : l.den}, l.data f st = some y → Exits.go Kt ok l y = some r →
    ∃ (s : Sh) (z : s.den), s.data st = some z ∧ Kt f { s.of z with ok := ok } = some r
  | [], y, h, _ => by simp [Exits.data] at h
  | [(e, s)], y, h, hg => by
    simp only [Exits.data] at h
    obtain ⟨e1, e2⟩ := bif_some h
    have := Ex.is_eq e1
    subst this
    exact ⟨s, y, e2, hg⟩
  | (e, s) :: b :: l, y, h, hg => by
    simp only [Exits.data] at h
    split at h
    · rename_i x hx
      cases h
      obtain ⟨e1, e2⟩ := bif_some hx
      have := Ex.is_eq e1
      subst this
      exact ⟨s, x, e2, hg⟩
    · rw [Option.map_eq_some_iff] at h
      obtain ⟨z, hz, e⟩ := h
      subst e
      exact exits_ok hz hg

/-! ### loops -/
def LoopFrom (P : Program) (c : Code) (Q : Exit → Act → World → Prop) (a : Act) (w : World) : Prop :=
  ∀ (b : Frame) (k : List Item) (cs : List Frame), ∃ e a' w', Q e a' w' ∧ Arrives P (lone (b.at a (.code c :: .inLoop c :: k)) cs w) b k cs e a' w'

theorem loop_from {c : Code} {Q : Exit → Act → World → Prop} (h : LoopFrom P c Q a w) : (Code.loop c).wp P Q a w := fun b k cs => by
  obtain ⟨e, a', w', hq, harr⟩ := h b k cs
  exact ⟨e, a', w', hq, .of_steps (.one step_loop) harr⟩

theorem loop_unroll {c : Code} {Q : Exit → Act → World → Prop} (h : c.wp P (Exit.then (LoopFrom P c Q) Q) a w) : LoopFrom P c Q a w := by
  intro b k cs
  obtain ⟨e, a₁, w₁, hq, harr⟩ := h b (.inLoop c :: k) cs
  cases e with
  | normal =>
    obtain ⟨e₂, a₂, w₂, hq₂, harr₂⟩ := hq b k cs
    exact ⟨e₂, a₂, w₂, hq₂, .of_steps (Steps.trans harr (.one step_inLoop)) harr₂⟩
  | exit id => exact ⟨_, a₁, w₁, hq, .pass (x := .inLoop c) rfl (fun _ _ => .inl (by simp)) harr⟩
  | goto l => exact ⟨_, a₁, w₁, hq, .pass (x := .inLoop c) rfl (fun _ _ => .inl (by simp)) harr⟩
  | ret => exact ⟨_, a₁, w₁, hq, .pass (x := .inLoop c) rfl (fun _ _ => .inl (by simp)) harr⟩
  | panic ch => exact ⟨_, a₁, w₁, hq, .pass (x := .inLoop c) rfl (fun _ _ => .inl (by simp)) harr⟩
  | outgrown => exact ⟨_, a₁, w₁, hq, .pass (x := .inLoop c) rfl (fun _ _ => .inl (by simp)) harr⟩

def LoopsOk (C : Cx) (lt : List (Nat × LoopD)) : Code → Prop
  | .seq a b => LoopsOk C lt a ∧ LoopsOk C lt b
  | .cond _ a b => LoopsOk C lt a ∧ LoopsOk C lt b
  | .block _ c => LoopsOk C lt c
  | .scope c => LoopsOk C lt c
  | .loop c => LoopsOk C lt c ∧ ∀ L, find lt (firstReg c) = some L → ∀ x, L.dom x = true → Comes (round C lt c L) x (L.val x)
  | _ => True

end
end Go.Ab
namespace Go.Ab
section
variable {P : Program} {F : Fix} {C : Cx} {o : Oper} {a : Act} {w w' : World} {m m' : MF} {I I' : Nat → Prop} {ρ ρ' : Pl} {d : Did}
variable {n : Nat} {K : Keep} {st st' : St}

theorem condB_ok {c : Operand} {g : Bool} (h : condB st.env C c = some g) (hi : Inv F n K st a w) : a.eval c = .bool g := by
  obtain ⟨⟨I, ρ, h1⟩, h2⟩ := hi
  have h3 : SlotR w I (find st.mem) ρ (opnd C st.env [] c) (a.eval c) := by
    refine opnd_ok (fun s _ av hav => ?_) (by intro t ht; simp at ht)
    exact envR_of (h1.env s av hav) fun A b e => h2 s A b (e ▸ hav)
  have h4 : opnd C st.env [] c = .leaf .bool g := by
    unfold condB at h
    unfold opnd
    split at h
    · rename_i g' hg
      cases h
      rw [hg]
    · cases h
  rw [h4] at h3
  exact slot_bool.1 h3

theorem evC_ok (hm : P.follows .mixedOrders = true) (hC : CxOk P C) (hF : FnOk P C) {lt : List (Nat × LoopD)} : ∀ (c : Code) {α : Type} {r : α} {Kt : Ex → St → Option α} {st : St} {a : Act} {w : World} {Q : Exit → Act → World → Prop},
    codeOk n c = true → LoopsOk C lt c → Inv F n K st a w → evC C lt c Kt st = some r →
    (∀ e st' a' w', Kt e st' = some r → Inv F n K st' a' w' → Q (exOf e) a' w') → c.wp P Q a w := by
  intro c
  induction c with
  | skip => intro α r Kt st a w Q _ _ hi h hQ; exact wp_skip (hQ _ _ _ _ h hi)
  | region id ops draw =>
    intro α r Kt st a w Q hco _ hi h hQ
    simp only [evC] at h
    split at h
    · rename_i st' hst
      obtain ⟨h1, h2⟩ := bif_some h
      have hok := allB_iff.1 h1
      have hn : ∀ a' w', Inv F n K st' a' w' → Q .normal a' w' := fun a' w' h' => by
        obtain ⟨e, m, k⟩ := st'
        exact hQ .norm _ _ _ h2 h'.ok_any
      cases draw with
      | false => exact region_inorder hC hF hco hst hok hi hn
      | true => exact region_drawn hm hC hF hco hst hok hi hn
    · cases h
  | seq x y ihx ihy =>
    intro α r Kt st a w Q hco hl hi h hQ
    simp only [codeOk, Bool.and_eq_true] at hco
    simp only [evC] at h
    refine wp_seq (ihx hco.1 hl.1 hi h ?_)
    intro e st' a' w' he hi'
    split at he
    · exact ihy hco.2 hl.2 hi' he hQ
    · rename_i hne
      have := hQ e st' a' w' he hi'
      cases e with
      | norm => exact absurd rfl hne
      | exit i => exact this
      | ret => exact this
  | cond c x y ihx ihy =>
    intro α r Kt st a w Q hco hl hi h hQ
    simp only [codeOk, Bool.and_eq_true] at hco
    simp only [evC] at h
    split at h
    · rename_i g hcg
      have hc := condB_ok hcg hi
      cases g with
      | true => exact wp_cond_true hc (ihx hco.1 hl.1 hi h hQ)
      | false => exact wp_cond_false hc (ihy hco.2 hl.2 hi h hQ)
    · cases h
  | block id c ih =>
    intro α r Kt st a w Q hco hl hi h hQ
    simp only [evC] at h
    refine wp_block (ih hco hl hi h ?_)
    intro e st' a' w' he hi'
    split at he
    · rename_i i
      cases hb : Nat.beq i id with
      | true =>
        rw [hb] at he
        have := Nat.eq_of_beq_eq_true hb
        subst this
        have h1 := hQ _ _ _ _ he hi'
        simp only [exOf, Exit.inBlock, if_true]
        exact h1
      | false =>
        rw [hb] at he
        have hne : i ≠ id := by intro e; subst e; simp at hb
        have h1 := hQ _ _ _ _ he hi'
        simp only [exOf, Exit.inBlock, hne, if_false]
        exact h1
    · rename_i hne
      have h1 := hQ _ _ _ _ he hi'
      cases e with
      | norm => exact h1
      | exit i => exact absurd rfl (hne i)
      | ret => exact h1
  | loop c ih =>
    intro α r Kt st a w Q hco hl hi h hQ
    simp only [evC] at h
    split at h
    · rename_i L hL
      split at h
      · rename_i x hx
        obtain ⟨hdom, h2⟩ := bif_some h
        have hcomes := hl.2 L hL x hdom
        have hix : Inv F n K (L.sh.of x) a w := (sh_data (ok := []) hx hi)
        clear hdom h hx hi
        refine loop_from ?_
        generalize L.val x = y at hcomes h2
        induction hcomes generalizing a w with
        | out hr =>
          rename_i x' y'
          refine loop_unroll (ih (r := Sum.inr y') hco hl.1 hix hr ?_)
          intro e st' a' w' he hi'
          have he2 := (bif_some he).2
          split at he2
          · rw [Option.map_eq_some_iff] at he2
            obtain ⟨_, _, e⟩ := he2
            cases e
          · rename_i hne
            rw [Option.map_eq_some_iff] at he2
            obtain ⟨z, hz, e2⟩ := he2
            cases e2
            obtain ⟨s, v, k1, k2⟩ := exits_ok hz h2
            have h3 := hQ _ _ _ _ k2 (sh_data k1 hi')
            cases e with
            | norm => exact absurd rfl hne
            | exit i => exact h3
            | ret => exact h3
        | again hr _ ihc =>
          rename_i x' x'' y' _
          refine loop_unroll (ih (r := Sum.inl x'') hco hl.1 hix hr ?_)
          intro e st' a' w' he hi'
          have he2 := (bif_some he).2
          split at he2
          · rw [Option.map_eq_some_iff] at he2
            obtain ⟨z, hz, e⟩ := he2
            cases e
            exact ihc (sh_data (ok := []) hz hi') h2
          · rw [Option.map_eq_some_iff] at he2
            obtain ⟨_, _, e⟩ := he2
            cases e
      · cases h
    · cases h
  | exit id => intro α r Kt st a w Q _ _ hi h hQ; exact wp_exit (hQ _ _ _ _ h hi)
  | scope c ih =>
    intro α r Kt st a w Q hco hl hi h hQ
    refine wp_scope_straight (ih hco hl hi h fun e st' a' w' he hi' => ?_)
    have := hQ e st' a' w' he hi'
    cases e <;> exact this
  | label l => intro α r Kt st a w Q _ _ hi h hQ; exact wp_label (hQ _ _ _ _ h hi)
  | ret => intro α r Kt st a w Q _ _ hi h hQ; exact wp_ret (hQ _ _ _ _ h hi)
  | _ => intro α r Kt st a w Q _ _ _ h; simp [evC] at h

end
end Go.Ab
namespace Go.Ab
section
variable {P : Program} {F : Fix} {C : Cx} {o : Oper} {a : Act} {w w' : World} {m m' : MF} {I I' : Nat → Prop} {ρ ρ' : Pl} {d : Did}
variable {n : Nat} {K : Keep} {st st' : St}

/-! ### results -/
theorem rest_some {t : Ty} {x : AT} {y : t.den} {k : Took} (h : (bif t.hasOwn then none else match toV m (coerceTo (some t) x) with
    | some d => match d.as t with
      | some x' => some (x', (⟨[], idsIn m x.ids⟩ : Took))
      | none => none
    | none => none) = some (y, k)) : t.hasOwn = false ∧ toV m (coerceTo (some t) x) = some ⟨t, y⟩ ∧ k = ⟨[], idsIn m x.ids⟩ := by
  cases ho : t.hasOwn with
  | true => rw [ho] at h; cases h
  | false =>
    rw [ho] at h
    simp only [cond_false] at h
    split at h
    · rename_i d hd
      split at h
      · rename_i x' hx'
        cases h
        have := as_some hx'
        subst this
        exact ⟨rfl, hd, rfl⟩
      · cases h
    · cases h

/-- the ways to a result -/
inductive ToT (m : MF) : (t : Ty) → AT → t.den → Took → Prop where
  | whole {id st : Nat} {u : Ty} {xs : List u.den} : rowsOf m id st u = some (false, xs) → ToT m (.own u) (.whole id st u) xs ⟨[id], []⟩
  | nil {u : Ty} {x : AT} : (x = .nil u ∨ x = .nil0) → ToT m (.own u) x [] {}
  | pair {a b : Ty} {l r : AT} {ya : a.den} {yb : b.den} {ka kb : Took} : ToT m a l ya ka → ToT m b r yb kb → ToT m (.pair a b) (.pair l r) (ya, yb) (ka.app kb)
  | rest {t : Ty} {x : AT} {y : t.den} : t.hasOwn = false → toV m (coerceTo (some t) x) = some ⟨t, y⟩ → ToT m t x y ⟨[], idsIn m x.ids⟩

theorem toT_rest {t : Ty} {x : AT} {y : t.den} {k : Took} (h : (bif t.hasOwn then none else match toV m (coerceTo (some t) x) with
    | some d => match d.as t with
      | some x' => some (x', (⟨[], idsIn m x.ids⟩ : Took))
      | none => none
    | none => none) = some (y, k)) : ToT m t x y k := by
  obtain ⟨h1, h2, h3⟩ := rest_some h
  subst h3
  exact .rest h1 h2

theorem toT_inv : ∀ {t : Ty} {x : AT} {y : t.den} {k : Took}, toT m t x = some (y, k) → ToT m t x y k := by
  intro t
  induction t with
  | own u _ =>
    intro x y k h
    cases x with
    | whole id st u' =>
      simp only [toT] at h
      split at h
      · rename_i xs hr
        split at h
        · rename_i ys hys
          cases h
          have := as_some hys
          cases this
          exact .whole hr
        · cases h
      · cases h
    | nil u' =>
      simp only [toT] at h
      split at h
      · rename_i ys hys
        cases h
        have := as_some hys
        cases this
        exact .nil (.inl rfl)
      · cases h
    | nil0 =>
      simp only [toT] at h
      cases h
      exact .nil (.inr rfl)
    | _ => exact toT_rest (t := .own u) h
  | pair ta tb iha ihb =>
    intro x y k h
    cases x with
    | pair l r =>
      simp only [toT] at h
      split at h
      · rename_i x1 i x2 j h1 h2
        cases h
        exact .pair (iha h1) (ihb h2)
      · cases h
    | _ => exact toT_rest (t := .pair ta tb) h
  | _ => intro x y k h; cases x <;> exact toT_rest h

theorem coerce_slot {t : Ty} {x : AT} {d : DV} (h : toV m (coerceTo (some t) x) = some d) (ht : d.t = t) : x.slot = true ∧ x.isAgg = t.isAgg := by
  have h1 := toV_slot h
  rw [ht] at h1
  cases t <;> cases x <;> simp_all [coerceTo, AT.slot, AT.one, AT.isAgg, Ty.isAgg]

theorem toT_slot {t : Ty} {x : AT} {y : t.den} {k : Took} (h : toT m t x = some (y, k)) : x.slot = true ∧ x.isAgg = t.isAgg := by
  cases toT_inv h with
  | whole _ => exact ⟨rfl, rfl⟩
  | nil e => rcases e with e | e <;> subst e <;> exact ⟨rfl, rfl⟩
  | pair _ _ => exact ⟨rfl, rfl⟩
  | rest _ h2 => exact coerce_slot h2 rfl

theorem coerce_atr {t : Ty} {x : AT} {vs : List Value} (h : ATR w I m ρ x vs) : ATR w I m ρ (coerceTo (some t) x) vs := by
  unfold coerceTo
  split
  · exact h
  · exact h

theorem coerce_ids {t : Ty} {x : AT} {id : Nat} (h : id ∈ (coerceTo (some t) x).ids) : id ∈ x.ids := by
  unfold coerceTo at h
  split at h
  · simp [AT.ids] at h
  · exact h

theorem toT_ok {I' : Nat → Prop} (hm : MemR F m w I ρ) (hI : ∀ B, I B → I' B) {t : Ty} {x : AT} {y : t.den} {k : Took} (h : ToT m t x y k) : ∀ {vs : List Value}, ATR w I m ρ x vs →
    (∀ id ∈ k.imm, ∀ b B o, m id = some b → b.live → ρ id = some (B, o) → I' B) → (∀ id ∈ k.own, ∀ B, Mine m ρ id B → ¬ I' B) → k.own.Nodup →
    ∃ Bs, RepO w I' t y vs Bs ∧ Bs.Nodup ∧ ∀ B ∈ Bs, ∃ id ∈ k.own, Mine m ρ id B := by
  induction h with
  | whole h1 =>
    rename_i id st u xs
    intro vs hr hi ho hn
    obtain ⟨Bs, q1, q2⟩ := own_whole hm hr h1 hI (ho id (by simp))
    refine ⟨Bs, q1, ?_, ?_⟩
    · rcases q2 with rfl | ⟨B, rfl, _⟩ <;> simp
    · rcases q2 with rfl | ⟨B, rfl, q2⟩
      · simp
      · intro B' hB'
        simp only [List.mem_singleton] at hB'
        subst hB'
        exact ⟨id, by simp, q2⟩
  | nil e2 =>
    intro vs hr hi ho hn
    have : vs = [.slice none 0 0] := by rcases e2 with e2 | e2 <;> subst e2 <;> exact hr
    subst this
    exact ⟨[], ⟨none, 0, by simp, by simp, .inl ⟨rfl, rfl, rfl⟩⟩, by simp, by simp⟩
  | pair h1 h2 iha ihb =>
    intro vs hr hi ho hn
    obtain ⟨v1, v2, e3, r1, r2⟩ := hr
    simp only [Took.app, mem_app] at hi ho
    simp only [Took.app, app_eq] at hn
    have hn' := List.nodup_append.1 hn
    obtain ⟨B1, q1, q2, q3⟩ := iha r1 (fun id h => hi id (.inl h)) (fun id h => ho id (.inl h)) hn'.1
    obtain ⟨B2, p1, p2, p3⟩ := ihb r2 (fun id h => hi id (.inr h)) (fun id h => ho id (.inr h)) hn'.2.1
    refine ⟨B1 ++ B2, ⟨v1, v2, B1, B2, e3, rfl, q1, p1⟩, nodup_two hm hn q2 p2 q3 p3, fun B hB => ?_⟩
    simp only [Took.app, app_eq]
    rcases List.mem_append.1 hB with hB | hB
    · obtain ⟨i, hi, h⟩ := q3 B hB; exact ⟨i, by simp [hi], h⟩
    · obtain ⟨i, hi, h⟩ := p3 B hB; exact ⟨i, by simp [hi], h⟩
  | rest h1 h2 =>
    intro vs hr hi ho hn
    exact ⟨[], RepO.of_rep (toV_ok (d := ⟨_, _⟩) hm hI (fun id h => hi id (mem_idsIn (coerce_ids h))) h2 (coerce_atr hr)), by simp, by simp⟩

/-- results all of whose lists are theirs -/
theorem toTD_ok {I' : Nat → Prop} (hm : MemR F m w I ρ) (hI : ∀ B, I B → I' B) {t : Ty} {x : AT} {y : t.den} {k : Took} {v : Value} (h : toTD m t x = some (y, k)) (hs : SlotR w I m ρ x v)
    (ho : ∀ id ∈ k.own, ∀ B, Mine m ρ id B → ¬ I' B) (hn : k.own.Nodup) : ∃ cs, v = packV t cs ∧ ∃ Bs, RepD w I' t y cs Bs ∧ Bs.Nodup ∧ ∀ B ∈ Bs, ∃ id ∈ k.own, Mine m ρ id B := by
  unfold toTD at h
  split at h
  · rename_i d0 hd
    split at h
    · rename_i y' hy
      cases h
      have := as_some hy
      subst this
      have hs' : SlotR w I m ρ (coerceTo (some t) x) v := coerceTo_ok (u := some t) hs
      obtain ⟨e1, e2⟩ := toD_slot hd
      obtain ⟨cs, hv, hr⟩ := slot_pack e1 e2 hs'
      have hids : ∀ id ∈ (coerceTo (some t) x).ids, id ∈ x.ids := fun id hi => coerce_ids hi
      have hnd : (coerceTo (some t) x).ids.Nodup := by
        unfold coerceTo
        split
        · simp [AT.ids]
        · exact hn
      obtain ⟨Bs, Ks, q1, q2, q3, _⟩ := toD_both (I' := I') hm hI hd hr (fun id hi => ho id (hids id hi)) hnd
      exact ⟨cs, hv, Bs, q1, (List.nodup_append.1 q2).1, fun B hB => by obtain ⟨i, hi, h⟩ := q3 B (List.mem_append_left _ hB); exact ⟨i, hids i hi, h⟩⟩
    · cases h
  · cases h

end
end Go.Ab
