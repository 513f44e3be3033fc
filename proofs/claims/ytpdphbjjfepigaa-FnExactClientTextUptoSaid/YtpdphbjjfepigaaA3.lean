import Derived.Test.YtpdphbjjfepigaaA2
import Derived.Scope
import Derived.Tactics
import Derived.OwnWalk
import Derived.Carry
import Derived.OpenShut
import Derived.JoinedCond
namespace Go.Ab
section
variable {P : Program} {F : Fix} {C : Cx} {o : Oper} {a : Act} {w w' : World} {m : MF} {I I' : Nat → Prop} {ρ : Pl} {d : Did}
variable {n : Nat} {K : Keep} {ops : List Oper} {st st' : St} {rs : List Rec} {ah : Nat → Nat → Prop} {L : Nat → Bool}

/-- how many are not listed yet -/
def unl : List Bool → Nat
  | [] => 0
  | b :: l => (if b then 0 else 1) + unl l

theorem unl_set : ∀ {l : List Bool} {i : Nat}, l[i]? = some false → unl (l.set i true) + 1 = unl l
  | [], i, h => by simp at h
  | b :: l, 0, h => by simp only [List.getElem?_cons_zero, Option.some.injEq] at h; subst h; simp [unl]; omega
  | b :: l, i + 1, h => by
    have := unl_set (l := l) (i := i) (by simpa using h)
    simp only [List.set_cons_succ, unl]
    omega

theorem unl_replicate : ∀ n : Nat, unl (List.replicate n false) = n
  | 0 => rfl
  | n + 1 => by simp [List.replicate_succ, unl, unl_replicate n]; omega

theorem unl_pos : ∀ {l : List Bool} {k : Nat}, l[k]? = some false → 0 < unl l
  | [], k, h => by simp at h
  | b :: l, 0, h => by simp only [List.getElem?_cons_zero, Option.some.injEq] at h; subst h; simp [unl]; omega
  | b :: l, k + 1, h => by
    have := unl_pos (l := l) (k := k) (by simpa using h)
    simp only [unl]
    omega

theorem getD_false {listed : Array Bool} {k : Nat} (h : k < listed.size) : listed.getD k true = listed.getD k false := by simp [h]

theorem ready_first {ops : Array Oper} {listed : Array Bool} (hs : listed.size = ops.size) (hback : ∀ j o, ops[j]? = some o → ∀ e ∈ o.after, Region.binds .any e = true → e.on < j) :
    ∀ (j : Nat), j < ops.size → listed.getD j false = false → Region.ready .any ops listed ≠ [] := by
  intro j
  induction j using Nat.strongRecOn with
  | _ j ih =>
  intro hj hl hr
  by_cases hex : ∃ k, k < j ∧ listed.getD k false = false
  · obtain ⟨k, hk, hkl⟩ := hex
    exact ih k hk (by omega) hkl hr
  · have hmem : j ∈ Region.ready .any ops listed := by
      rw [mem_ready]
      refine ⟨by rw [getD_false (by omega)]; exact hl, ops[j], by simp [hj], fun e he hb => ?_⟩
      have := hback j ops[j] (by simp [hj]) e he hb
      cases hv : listed.getD e.on false with
      | true => rfl
      | false => exact absurd ⟨e.on, this, hv⟩ hex
    rw [hr] at hmem
    simp at hmem

theorem any_ok (hC : CxOk P C) (hF : FnOk P C) {ops : Array Oper} (hreg : Reg C n ops.toList st st' rs (bitAh ops.toList)) (hlen : rs.length = ops.size)
    (hoks : ∀ j r, rs[j]? = some r → ∀ b ∈ okT (stAt rs j st).env r.T r.d.ok, b = true) (hback : ∀ j o, ops[j]? = some o → ∀ e ∈ o.after, Region.binds .any e = true → e.on < j)
    {Q : Exit → Act → World → Prop} (hQ : ∀ a' w', RAny F n K rs st (fun k => decide (k < rs.length)) a' w' → Q .normal a' w') :
    ∀ (fuel : Nat) (listed : Array Bool) (a : Act) (w : World), listed.size = ops.size → unl listed.toList ≤ fuel → (∀ j, listed.getD j false = true → Listed ops.toList (fun k => listed.getD k false) j) →
      RAny F n K rs st (fun k => listed.getD k false) a w → wpAny P .any ops Q fuel listed a w := by
  have done : ∀ (listed : Array Bool) (a : Act) (w : World), listed.size = ops.size → RAny F n K rs st (fun k => listed.getD k false) a w → Region.ready .any ops listed = [] → Q .normal a w := by
    intro listed a w hs h hr
    refine hQ a w (h.congr fun k hk => ?_)
    have hk' : k < ops.size := by omega
    cases hv : listed.getD k false with
    | true => simp [hk]
    | false => exact absurd hr (ready_first hs hback k hk' hv)
  intro fuel
  induction fuel with
  | zero =>
    intro listed a w hs hu _ h
    have hr : Region.ready .any ops listed = [] := by
      refine Classical.byContradiction fun hne => ?_
      obtain ⟨j, hj⟩ := List.exists_mem_of_ne_nil _ hne
      obtain ⟨h1, o, h2, _⟩ := mem_ready.1 hj
      have hjs : j < listed.size := by rw [hs]; exact (Array.getElem?_eq_some_iff.1 h2).1
      have : 0 < unl listed.toList := unl_pos (k := j) (by simp [hjs] at h1 ⊢; exact h1)
      omega
    exact ⟨hr, done listed a w hs h hr⟩
  | succ fuel ih =>
    intro listed a w hs hu hE h
    refine ⟨done listed a w hs h, fun j hj => ?_⟩
    obtain ⟨h1, o, h2, h3⟩ := mem_ready.1 hj
    have hjs : j < listed.size := by rw [hs]; exact (Array.getElem?_eq_some_iff.1 h2).1
    have hjf : listed.getD j false = false := by rw [← getD_false hjs]; exact h1
    have hjr : j < rs.length := by omega
    have hrj : rs[j]? = some rs[j] := by simp [hjr]
    have hlj : Listed ops.toList (fun k => listed.getD k false) j := by
      intro o' ho' e he hb
      have : o' = o := by have h4 : ops[j]? = some o' := by simpa using ho'
                          rw [h2] at h4; cases h4; rfl
      subst this
      exact h3 e he hb
    have hstep := hreg.step hC hF hrj (L := fun k => listed.getD k false) hjf (bitAh_shut hE) (fun i hi => bitAh_in hE j hi hlj) (hoks j _ hrj) (Q := Q)
      (Kt := wpAny P .any ops Q fuel (listed.setIfInBounds j true)) h (fun a' w' h' => ?_)
    · simpa using hstep
    · have hset : ∀ k, (listed.setIfInBounds j true).getD k false = with1 (fun k => listed.getD k false) j k := by
        intro k
        unfold with1
        by_cases e : k = j
        · subst e; simp [hjs]
        · simp [Array.getElem?_setIfInBounds_ne (Ne.symm e), e]
      refine ih _ a' w' (by simpa using hs) ?_ ?_ ?_
      · have hset' : (listed.setIfInBounds j true).toList = listed.toList.set j true := by simp
        have := unl_set (l := listed.toList) (i := j) (by simp [hjs] at hjf ⊢; exact hjf)
        rw [hset']
        omega
      · intro k hk o' ho' e he hb
        rw [hset] at hk
        show (listed.setIfInBounds j true).getD e.on false = true
        rw [hset]
        unfold with1 at hk ⊢
        simp only [Bool.or_eq_true, decide_eq_true_eq] at hk ⊢
        rcases hk with hk | hk
        · exact .inl (hE k hk o' ho' e he hb)
        · subst hk
          exact .inl (hlj o' ho' e he hb)
      · have : (fun k => (listed.setIfInBounds j true).getD k false) = with1 (fun k => listed.getD k false) j := funext hset
        rw [this]; exact h'

theorem region_drawn (hm : P.follows .mixedOrders = true) {r : St} (hC : CxOk P C) (hF : FnOk P C) {ops : Array Oper} {id : Nat} (hok : opsOk n ops.toList = true) (hd : regionS C ops.toList true st = some r) (hro : ∀ b ∈ r.ok, b = true) (hinv : Inv F n K st a w)
    {Q : Exit → Act → World → Prop} (hQ : ∀ a' w', Inv F n K r a' w' → Q .normal a' w') : (Code.region id ops true).wp P Q a w := by
  obtain ⟨st', rs, hops, hr, hfree⟩ := regionS_inv hd
  have hfree := hfree rfl
  obtain ⟨hrun, hmap⟩ := opsS_runs hops
  have hlen : rs.length = ops.size := by have := congrArg List.length hmap; simpa using this
  have hbit : ∀ i j, bitAh ops.toList i j → i < j := by
    intro i j h
    unfold bitAh at h
    by_cases hj : j < ops.toList.length
    · have h1 := Nat.le_of_ble_eq_true (free_at hfree hj).1
      have h2 := Nat.ge_two_pow_of_testBit h
      exact (Nat.pow_lt_pow_iff_right (by omega : 1 < 2)).1 (by omega)
    · have : nthL (aheads ops.toList []) j = none := by
        rw [nthL_eq]
        have h1 := aheads_length ops.toList []
        simp only [List.length_nil, Nat.zero_add] at h1
        exact List.getElem?_eq_none (by omega)
      rw [this] at h
      simp at h
  have hsep : ∀ (i j : Nat) (f g : Rec), i < j → rs[i]? = some f → rs[j]? = some g → bitAh ops.toList i j ∨ apartF (f.foot ops.toList) (g.foot ops.toList) = true := by
    intro i j f g hij hf hg
    have hj : j < ops.toList.length := by
      have := (List.getElem?_eq_some_iff.1 hg).1
      simp; omega
    have h1 := allL_mem (free_at hfree hj).2 i (mem_upto hij)
    rw [Bool.or_eq_true] at h1
    rcases h1 with h1 | h1
    · exact .inl h1
    · refine .inr ?_
      simp only [nthL_eq, mapL_eq, List.getElem?_map, hf, hg, Option.map_some] at h1
      exact h1
  have hreg : Reg C n ops.toList st st' rs (bitAh ops.toList) := Reg.of hok hrun hmap hinv.nw hbit hsep
  have hst : ∀ b ∈ st'.ok, b = true := by
    intro b hb
    refine hro b ?_
    rw [hr]
    split <;> exact hb
  obtain ⟨_, hoks⟩ := hrun.oks hst
  have hback : ∀ j o, ops[j]? = some o → ∀ e ∈ o.after, Region.binds .any e = true → e.on < j := by
    intro j o ho e he hb
    refine hbit e.on j ?_
    have ho' : ops.toList[j]? = some o := by simpa using ho
    obtain ⟨pre, h1, h2, h3⟩ := bit_of ho'
    unfold bitAh
    rw [h3]
    exact aheadOf_edge (Array.mem_toList_iff.2 he) hb
  refine wp_region_any hm ?_
  have hz : ∀ k, (Array.replicate ops.size false).getD k false = false := by intro k; by_cases h : k < ops.size <;> simp [h]
  refine any_ok hC hF hreg hlen hoks hback (fun a' w' h => hQ a' w' (region_end hinv hops hr h)) ops.size _ a _ (by simp) ?_ ?_ ?_
  · simp [unl_replicate]
  · intro j hj; rw [hz] at hj; cases hj
  · exact (hinv.drew.start rs).congr fun k _ => (hz k).symm

end
end Go.Ab
namespace Go.Ab
section
variable {P : Program} {F : Fix} {C : Cx} {o : Oper} {a : Act} {w w' : World} {m : MF} {I I' : Nat → Prop} {ρ : Pl} {d : Did}
variable {n : Nat} {K : Keep} {st st' : St}

/-! ### nil gets a block -/
structure FreshL (l : List (Nat × Blk)) (n e : Nat) : Prop where
  le : n ≤ e
  all : ∀ x ∈ l, n ≤ x.1 ∧ x.1 < e ∧ ∃ t, x.2 = ⟨0, false, .rows t []⟩
  fnd : ∀ x ∈ l, find l x.1 = some x.2

theorem FreshL.nil (n : Nat) : FreshL [] n n := ⟨Nat.le_refl _, fun x h => by simp at h, fun x h => by simp at h⟩

theorem FreshL.app {l l' : List (Nat × Blk)} {n k e : Nat} (h : FreshL l n k) (h' : FreshL l' k e) : FreshL (app l l') n e := by
  refine ⟨Nat.le_trans h.le h'.le, fun x hx => ?_, fun x hx => ?_⟩
  · rw [mem_app] at hx
    have := h.le
    have := h'.le
    rcases hx with hx | hx
    · obtain ⟨h1, h2, h3⟩ := h.all x hx; exact ⟨h1, by omega, h3⟩
    · obtain ⟨h1, h2, h3⟩ := h'.all x hx; exact ⟨by omega, h2, h3⟩
  · rw [find_app]
    rw [mem_app] at hx
    rcases hx with hx | hx
    · rw [h.fnd x hx]
    · cases hf : find l x.1 with
      | none => exact h'.fnd x hx
      | some b =>
        have h1 := (h.all _ (find_mem hf)).2.1
        have h2 := (h'.all x hx).1
        simp only at h1
        omega

/-- the new blocks are there -/
def There (l : List (Nat × Blk)) (m : MF) (ρ : Pl) : Prop := ∀ x ∈ l, m x.1 = some x.2 ∧ ρ x.1 = none

theorem There.left {l l' : List (Nat × Blk)} (h : There (app l l') m ρ) : There l m ρ := fun x hx => h x (mem_app.2 (.inl hx))
theorem There.right {l l' : List (Nat × Blk)} (h : There (app l l') m ρ) : There l' m ρ := fun x hx => h x (mem_app.2 (.inr hx))

theorem nilW_fresh : ∀ (a : AT) (n : Nat), FreshL (nilW a n).2.1 n (nilW a n).2.2 := by
  intro a
  induction a with
  | nil t => intro n; exact ⟨by simp [nilW], fun x hx => by simp only [nilW, List.mem_singleton] at hx; subst hx; simp only [nilW]; exact ⟨Nat.le_refl _, by omega, t, rfl⟩, fun x hx => by simp only [nilW, List.mem_singleton] at hx; subst hx; simp [nilW, find_cons]⟩
  | pair l r ihl ihr => intro n; exact (ihl n).app (ihr _)
  | tup l r ihl ihr => intro n; exact (ihl n).app (ihr _)
  | fn f c ih => intro n; exact ih n
  | _ => intro n; exact FreshL.nil n

theorem nilW_atr : ∀ {x : AT} {n : Nat} {vs : List Value}, There (nilW x n).2.1 m ρ → ATR w I m ρ x vs → ATR w I m ρ (nilW x n).1 vs := by
  intro x
  induction x with
  | nil t =>
    intro n vs ht h
    simp only [ATR] at h
    subst h
    obtain ⟨h1, h2⟩ := ht (n, ⟨0, false, .rows t []⟩) (by simp [nilW])
    simp only [nilW, ATR]
    refine ⟨⟨_, rfl, rfl⟩, ⟨_, h1, Nat.le_refl _⟩, fun b hb _ u xs hc => ?_⟩
    simp only at h1 h2
    rw [h1] at hb
    cases hb
    cases hc
    exact ⟨none, 0, rfl, Nat.le_refl _, .inl ⟨rfl, rfl, h2⟩⟩
  | pair l r ihl ihr =>
    intro n vs ht h
    simp only [ATR] at h
    obtain ⟨v1, v2, e, h1, h2⟩ := h
    exact ⟨v1, v2, e, ihl ht.left h1, ihr ht.right h2⟩
  | tup l r ihl ihr =>
    intro n vs ht h
    simp only [ATR] at h
    obtain ⟨v1, v2, e, h1, h2⟩ := h
    exact ⟨v1, v2, e, ihl ht.left h1, ihr ht.right h2⟩
  | fn f c ih =>
    intro n vs ht h
    simp only [ATR] at h
    obtain ⟨caps, e, h1⟩ := h
    exact ⟨caps, e, ih ht h1⟩
  | _ => intro n vs _ h; exact h

theorem nilW_typed : ∀ {x : AT} {n : Nat} {t : Ty}, Typed x t → Typed (nilW x n).1 t := by
  intro x
  induction x with
  | pair l r ihl ihr =>
    intro n t h
    simp only [Typed] at h
    obtain ⟨a, b, e, h1, h2⟩ := h
    exact ⟨a, b, e, ihl h1, ihr h2⟩
  | _ => intro n t h; exact h

theorem nilW_agg (x : AT) (n : Nat) : (nilW x n).1.isAgg = x.isAgg := by cases x <;> rfl

theorem nilW_val {x : AT} {n : Nat} {v : Value} (ht : There (nilW x n).2.1 m ρ) (h : ValR w I m ρ x v) : ValR w I m ρ (nilW x n).1 v := by
  unfold ValR at h ⊢
  rw [nilW_agg]
  split
  · rename_i hh
    rw [if_pos hh] at h
    obtain ⟨arr, e, h1⟩ := h
    exact ⟨arr, e, nilW_atr ht h1⟩
  · rename_i hh
    rw [if_neg hh] at h
    exact nilW_atr ht h

theorem nilW_tup : ∀ {x : AT} {n : Nat} {vs : List Value}, There (nilW x n).2.1 m ρ → TupR w I m ρ x vs → TupR w I m ρ (nilW x n).1 vs := by
  intro x
  induction x with
  | tup l r ihl ihr =>
    intro n vs ht h
    simp only [TupR] at h
    obtain ⟨v, vs', e, h1, h2⟩ := h
    exact ⟨v, vs', e, nilW_val ht.left h1, ihr ht.right h2⟩
  | tend => intro n vs _ h; exact h
  | _ => intro n vs _ h; simp [TupR] at h

theorem nilW_slot {x : AT} {n : Nat} {v : Value} (ht : There (nilW x n).2.1 m ρ) (h : SlotR w I m ρ x v) : SlotR w I m ρ (nilW x n).1 v := by
  cases x with
  | tup l r =>
    obtain ⟨arr, e, h1⟩ := h
    exact ⟨arr, e, nilW_tup (x := .tup l r) ht h1⟩
  | tend => exact h
  | any => trivial
  | when_ _ _ => trivial
  | leaf t y => exact h
  | nil t => exact nilW_val (x := .nil t) ht h
  | pair l r => exact nilW_val (x := .pair l r) ht h
  | fn f c => exact nilW_val (x := .fn f c) ht h
  | _ => exact h

theorem nilEnv_fresh : ∀ (l : List (Nat × AT)) (n : Nat), FreshL (nilEnv l n).2.1 n (nilEnv l n).2.2
  | [], n => FreshL.nil n
  | (s, x) :: l, n => (nilW_fresh x n).app (nilEnv_fresh l _)

theorem nilEnv_find : ∀ {l : List (Nat × AT)} {n s : Nat} {x' : AT}, find (nilEnv l n).1 s = some x' → ∃ x k, find l s = some x ∧ x' = (nilW x k).1 ∧ ∀ y ∈ (nilW x k).2.1, y ∈ (nilEnv l n).2.1
  | [], n, s, x', h => by simp [nilEnv, find] at h
  | (t, x) :: l, n, s, x', h => by
    simp only [nilEnv, find_cons] at h
    by_cases e : t = s
    · rw [if_pos e] at h
      cases h
      exact ⟨x, n, by simp [find_cons, e], rfl, fun y hy => mem_app.2 (.inl hy)⟩
    · rw [if_neg e] at h
      obtain ⟨z, k, h1, h2, h3⟩ := nilEnv_find h
      exact ⟨z, k, by simp [find_cons, e, h1], h2, fun y hy => mem_app.2 (.inr (h3 y hy))⟩

theorem nilBlk_fresh (b : Blk) (n : Nat) : FreshL (nilBlk b n).2.1 n (nilBlk b n).2.2 := by
  obtain ⟨st, fz, c⟩ := b
  cases c with
  | var t x => exact nilW_fresh x n
  | _ => exact FreshL.nil n

theorem nilMem_fresh : ∀ (l : Mem) (n : Nat), FreshL (nilMem l n).2.1 n (nilMem l n).2.2
  | [], n => FreshL.nil n
  | (s, x) :: l, n => (nilBlk_fresh x n).app (nilMem_fresh l _)

theorem nilMem_find : ∀ {l : Mem} {n s : Nat} {x' : Blk}, find (nilMem l n).1 s = some x' → ∃ x k, find l s = some x ∧ x' = (nilBlk x k).1 ∧ ∀ y ∈ (nilBlk x k).2.1, y ∈ (nilMem l n).2.1
  | [], n, s, x', h => by simp [nilMem, find] at h
  | (t, x) :: l, n, s, x', h => by
    simp only [nilMem, find_cons] at h
    by_cases e : t = s
    · rw [if_pos e] at h
      cases h
      exact ⟨x, n, by simp [find_cons, e], rfl, fun y hy => mem_app.2 (.inl hy)⟩
    · rw [if_neg e] at h
      obtain ⟨z, k, h1, h2, h3⟩ := nilMem_find h
      exact ⟨z, k, by simp [find_cons, e, h1], h2, fun y hy => mem_app.2 (.inr (h3 y hy))⟩

theorem nilMem_some : ∀ {l : Mem} {n s : Nat} {x : Blk}, find l s = some x → ∃ x', find (nilMem l n).1 s = some x'
  | [], n, s, x', h => by simp [find] at h
  | (t, x) :: l, n, s, x', h => by
    simp only [nilMem, find_cons] at h ⊢
    by_cases e : t = s
    · simp [e]
    · rw [if_neg e] at h ⊢
      exact nilMem_some h

theorem find_uniq : ∀ (l : Mem) (seen : List Nat) (i : Nat), find (uniq l seen) i = if i ∈ seen then none else find l i
  | [], seen, i => by simp [uniq, find]
  | (j, b) :: l, seen, i => by
    simp only [uniq]
    by_cases hj : j ∈ seen
    · rw [anyL_beq.2 hj]
      simp only [cond_true, find_uniq l seen i, find_cons]
      by_cases hi : i ∈ seen
      · simp [hi]
      · have : j ≠ i := fun e => hi (e ▸ hj)
        simp [hi, this]
    · have : anyL (Nat.beq j) seen = false := by
        cases h : anyL (Nat.beq j) seen with
        | false => rfl
        | true => exact absurd (anyL_beq.1 h) hj
      rw [this]
      simp only [cond_false, find_cons, find_uniq l (j :: seen) i, List.mem_cons]
      by_cases e : j = i
      · subst e; simp [hj]
      · have : ¬ i = j := fun h => e h.symm
        simp [e, this]

theorem find_keepEnv : ∀ {l : List Nat} {env : List (Nat × AT)} {s : Nat} {x : AT}, find (keepEnv env l) s = some x → find env s = some x
  | [], env, s, x, h => by simp [keepEnv, find] at h
  | t :: l, env, s, x, h => by
    simp only [keepEnv] at h
    split at h
    · rename_i y hy
      rw [find_cons] at h
      split at h
      · rename_i e; subst e; rw [hy]; exact h
      · exact find_keepEnv h
    · exact find_keepEnv h

theorem nilBlk_same (b : Blk) (n : Nat) : (nilBlk b n).1.st = b.st ∧ (nilBlk b n).1.fz = b.fz ∧ SameSh b.c (nilBlk b n).1.c := by
  obtain ⟨st, fz, c⟩ := b
  cases c with
  | var t x => exact ⟨rfl, rfl, rfl⟩
  | rows t xs => exact ⟨rfl, rfl, rfl, rfl⟩
  | dead => exact ⟨rfl, rfl, trivial⟩

theorem nilBlk_rel {id : Nat} {b : Blk} {k : Nat} (ht : There (nilBlk b k).2.1 m ρ) (h : BlkR w I m ρ id b) : BlkR w I m ρ id (nilBlk b k).1 := by
  obtain ⟨st, fz, c⟩ := b
  cases c with
  | var t x =>
    obtain ⟨h1, B, cs, h2, h3, h4, h5⟩ := h
    exact ⟨nilW_typed h1, B, cs, h2, h3, nilW_atr (x := x) (n := k) ht h4, h5⟩
  | rows t xs => exact h
  | dead => exact h

theorem plainA_ok {keep : List Nat} (hb : allL (fun x => Nat.ble (x.1 + 1) nilBase) st.mem = true) (h : Inv F n K st a w) :
    ∃ I ρ, InvA F n K (plainA keep st) a w I ρ := by
  obtain ⟨⟨I, ρ, hi⟩, hn⟩ := h
  have hA : plainA keep st = ⟨(nilEnv (keepEnv st.env keep) nilBase).1, app (nilMem (uniq st.mem []) (nilEnv (keepEnv st.env keep) nilBase).2.2).1 (app (nilEnv (keepEnv st.env keep) nilBase).2.1 (nilMem (uniq st.mem []) (nilEnv (keepEnv st.env keep) nilBase).2.2).2.1), st.ok⟩ := rfl
  rw [hA]
  generalize hE : nilEnv (keepEnv st.env keep) nilBase = E
  generalize hM : nilMem (uniq st.mem []) E.2.2 = M
  have hfe : FreshL E.2.1 nilBase E.2.2 := hE ▸ nilEnv_fresh _ _
  have hfm : FreshL M.2.1 E.2.2 M.2.2 := hM ▸ nilMem_fresh _ _
  have hfr := hfe.app hfm
  have hlt : ∀ id b, find st.mem id = some b → id < nilBase := fun id b hb' => by
    have := allL_mem hb _ (find_mem hb')
    have := Nat.le_of_ble_eq_true this
    omega
  have huniq : ∀ i, find (uniq st.mem []) i = find st.mem i := fun i => by rw [find_uniq]; simp
  have hold : ∀ id b', find M.1 id = some b' → ∃ b k, find st.mem id = some b ∧ b' = (nilBlk b k).1 ∧ ∀ y ∈ (nilBlk b k).2.1, y ∈ M.2.1 := by
    intro id b' hf
    rw [← hM] at hf
    obtain ⟨b, k, h1, h2, h3⟩ := nilMem_find hf
    rw [huniq] at h1
    exact ⟨b, k, h1, h2, hM ▸ h3⟩
  let m1 : MF := find (app M.1 (app E.2.1 M.2.1))
  let ρ1 : Pl := fun i => if i < nilBase then ρ i else none
  have hfind : ∀ id b', m1 id = some b' → (∃ b k, find st.mem id = some b ∧ b' = (nilBlk b k).1 ∧ ∀ y ∈ (nilBlk b k).2.1, y ∈ M.2.1) ∨ (nilBase ≤ id ∧ ∃ t, b' = ⟨0, false, .rows t []⟩) := by
    intro id b' hf
    change find (app M.1 (app E.2.1 M.2.1)) id = some b' at hf
    rw [find_app] at hf
    split at hf
    · rename_i b hb'
      cases hf
      exact .inl (hold id _ hb')
    · obtain ⟨h1, _, h3⟩ := hfr.all _ (find_mem hf)
      exact .inr ⟨h1, h3⟩
  have hold1 : ∀ id b, find st.mem id = some b → ∃ k, m1 id = some (nilBlk b k).1 := by
    intro id b hb'
    obtain ⟨b', hb2⟩ := nilMem_some (l := uniq st.mem []) (n := E.2.2) (by rw [huniq]; exact hb')
    rw [hM] at hb2
    obtain ⟨b0, k, h1, h2, h3⟩ := hold id b' hb2
    rw [hb'] at h1
    cases h1
    refine ⟨k, ?_⟩
    show find (app M.1 (app E.2.1 M.2.1)) id = _
    rw [find_app, hb2, h2]
  have hthere : There (app E.2.1 M.2.1) m1 ρ1 := by
    intro x hx
    obtain ⟨h1, _, _⟩ := hfr.all x hx
    refine ⟨?_, by show (if x.1 < nilBase then ρ x.1 else none) = none; rw [if_neg (by omega)]⟩
    show find (app M.1 (app E.2.1 M.2.1)) x.1 = _
    rw [find_app]
    cases hf : find M.1 x.1 with
    | none => exact hfr.fnd x hx
    | some b =>
      obtain ⟨b0, k, h2, _⟩ := hold _ _ hf
      have := hlt _ _ h2
      omega
  have hkeep : Keeps (find st.mem) m1 ρ ρ1 w w := by
    refine ⟨fun id b hb' => ?_⟩
    obtain ⟨k, hk⟩ := hold1 id b hb'
    obtain ⟨e1, e2, e3⟩ := nilBlk_same b k
    exact ⟨_, hk, .inr ⟨e1.symm, e3, by show (if id < nilBase then ρ id else none) = _; rw [if_pos (hlt id b hb')], fun _ _ _ _ cs hc => ⟨cs, hc, Nat.le_refl _⟩⟩⟩
  have hag := Agree.refl I w
  have hρ : ∀ id B o, ρ1 id = some (B, o) → ρ id = some (B, o) := by
    intro id B o h
    change (if id < nilBase then ρ id else none) = _ at h
    split at h
    · exact h
    · cases h
  have hlive : ∀ {id : Nat} {b' : Blk}, m1 id = some b' → b'.live → ∀ {B o}, ρ1 id = some (B, o) → ∃ b, find st.mem id = some b ∧ b.live := by
    intro id b' hb' hl B o hr
    rcases hfind id b' hb' with ⟨b, k, h1, h2, _⟩ | ⟨h1, _⟩
    · refine ⟨b, h1, ?_⟩
      obtain ⟨_, _, e3⟩ := nilBlk_same b k
      rw [h2] at hl
      unfold Blk.live at hl ⊢
      revert e3 hl
      cases b.c <;> cases (nilBlk b k).1.c <;> simp [SameSh]
    · change (if id < nilBase then ρ id else none) = _ at hr
      rw [if_neg (by omega)] at hr
      cases hr
  refine ⟨I, ρ1, ⟨?_, ?_, hi.size, hi.defers, hi.kept.mono hkeep⟩⟩
  · refine ⟨fun id b' hb' => ?_, fun id id' b b' B o o' h1 h2 h3 h4 h5 h6 => ?_, hi.mem.imm, hi.mem.imm0, hi.mem.immN, fun id b B o h1 h2 h3 => ?_, hi.mem.frame, hi.mem.size, hi.mem.os, hi.mem.tape, hi.mem.output⟩
    · rcases hfind id b' hb' with ⟨b, k, h1, h2, h3⟩ | ⟨h1, t, h2⟩
      · subst h2
        refine nilBlk_rel (m := m1) (ρ := ρ1) (fun y hy => hthere y (mem_app.2 (.inr (h3 y hy)))) ?_
        refine (hi.mem.blk id b h1).mono hag hkeep ?_ fun _ _ _ _ => ⟨rfl, fun h => h⟩
        show (if id < nilBase then ρ id else none) = _
        rw [if_pos (hlt id b h1)]
      · subst h2
        refine ⟨trivial, .inl ⟨rfl, ?_⟩⟩
        show (if id < nilBase then ρ id else none) = none
        rw [if_neg (by omega)]
    · obtain ⟨c, hc1, hc2⟩ := hlive h1 h3 h5
      obtain ⟨c', hc1', hc2'⟩ := hlive h2 h4 h6
      exact hi.mem.inj id id' c c' B o o' hc1 hc1' hc2 hc2' (hρ _ _ _ h5) (hρ _ _ _ h6)
    · obtain ⟨c, hc1, hc2⟩ := hlive h1 h2 h3
      exact hi.mem.mine id c B o hc1 hc2 (hρ _ _ _ h3)
  · intro s av hav
    rw [← hE] at hav
    obtain ⟨x, k, h1, h2, h3⟩ := nilEnv_find hav
    subst h2
    refine nilW_slot (m := m1) (ρ := ρ1) (fun y hy => hthere y (mem_app.2 (.inl (hE ▸ h3 y hy)))) ?_
    exact (hi.env s x (find_keepEnv h1)).mono hag hkeep

end
end Go.Ab
namespace Go.Ab
section
variable {P : Program} {F : Fix} {C : Cx} {o : Oper} {a : Act} {w w' : World} {m m' : MF} {I I' : Nat → Prop} {ρ ρ' : Pl} {d : Did}
variable {n : Nat} {K : Keep} {st st' : St} {μ : List (Nat × Nat)}

/-! ### blocks get new numbers -/
def SameC : BC → BC → Prop
  | c, .rows u xs => c = .rows u xs
  | c, .var t _ => ∃ x, c = .var t x
  | _, .dead => True

structure Moved (m m' : MF) (ρ ρ' : Pl) (μ : List (Nat × Nat)) : Prop where
  to : ∀ id j b, find μ id = some j → m id = some b → ∃ b', m' j = some b' ∧ (0 < b'.st ∨ (b'.st = 0 ∧ SameC b.c b'.c)) ∧ ρ' j = ρ id

theorem renRef_cases {id st : Nat} {f : Nat → AT} : renRef m μ id st f = .undef 1 ∨ ∃ b j, m id = some b ∧ b.st = st ∧ find μ id = some j ∧ renRef m μ id st f = f j := by
  unfold renRef
  split
  · rename_i b hb
    split
    · rename_i j hj
      exact .inr ⟨b, j, (cur_some hb).1, (cur_some hb).2, hj, rfl⟩
    · exact .inl rfl
  · exact .inl rfl

theorem one_undef {vs : List Value} (h : OneR vs) : ATR w I m ρ (.undef 1) vs := by
  obtain ⟨v, e, h1⟩ := h
  subst e
  exact ⟨rfl, fun u hu => by simp only [List.mem_singleton] at hu; subst hu; exact h1⟩

theorem HdrAt.to {id j sz off : Nat} {ad : Option Addr} {cap : Nat} (h : HdrAt w ρ id sz off ad cap) (e : ρ' j = ρ id) : HdrAt w ρ' j sz off ad cap := by
  unfold HdrAt at *
  rw [e]; exact h
theorem HdrW.to {id j sz : Nat} {ad : Option Addr} {cap : Nat} (h : HdrW w ρ id sz ad cap) (e : ρ' j = ρ id) : HdrW w ρ' j sz ad cap := by
  unfold HdrW at *
  rw [e]; exact h

theorem renA_atr (hμ : Moved m m' ρ ρ' μ) : ∀ {x : AT} {vs : List Value}, ATR w I m ρ x vs → ATR w I m' ρ' (renA m μ x) vs := by
  intro x
  have ref : ∀ {id st : Nat} {f : Nat → AT} {vs : List Value}, OneR vs →
      (∀ b j b', m id = some b → b.st = st → m' j = some b' → (b'.st = 0 → SameC b.c b'.c) → ρ' j = ρ id → ATR w I m' ρ' (f j) vs) → ATR w I m' ρ' (renRef m μ id st f) vs := by
    intro id st f vs h1 h
    rcases renRef_cases (m := m) (μ := μ) (id := id) (st := st) (f := f) with e | ⟨b, j, e1, e2, e3, e4⟩
    · rw [e]; exact one_undef h1
    · rw [e4]
      obtain ⟨b', k1, k2, k3⟩ := hμ.to id j b e3 e1
      refine h b j b' e1 e2 k1 (fun hz => ?_) k3
      rcases k2 with k2 | k2
      · omega
      · exact k2.2
  induction x with
  | leaf t x => intro vs h; exact h
  | whole id st t =>
    intro vs h
    simp only [ATR] at h
    refine ref h.1 fun b j b' e1 e2 k1 k2 k3 => ⟨h.1, ⟨b', k1, Nat.zero_le _⟩, fun b2 hb2 hst u xs hc => ?_⟩
    rw [k1] at hb2; cases hb2
    have := k2 hst
    rw [hc] at this
    obtain ⟨ad, cap, q1, q2, q3⟩ := h.2.2 b e1 e2 u xs this
    exact ⟨ad, cap, q1, q2, q3.to k3⟩
  | piece id st off len t =>
    intro vs h
    simp only [ATR] at h
    refine ref h.1 fun b j b' e1 e2 k1 k2 k3 => ⟨h.1, ⟨b', k1, Nat.zero_le _⟩, fun b2 hb2 hst u xs hc => ?_⟩
    rw [k1] at hb2; cases hb2
    have := k2 hst
    rw [hc] at this
    obtain ⟨ad, cap, q1, q2, q3, q4⟩ := h.2.2 b e1 e2 u xs this
    exact ⟨ad, cap, q1, q2, q3, q4.to k3⟩
  | nil t => intro vs h; exact h
  | nil0 => intro vs h; exact h
  | pair l r ihl ihr => intro vs h; obtain ⟨v1, v2, e, h1, h2⟩ := h; exact ⟨v1, v2, e, ihl h1, ihr h2⟩
  | undef n => intro vs h; exact h
  | vptr id st p =>
    intro vs h
    simp only [ATR] at h
    refine ref h.1 fun b j b' e1 e2 k1 k2 k3 => ⟨h.1, ⟨b', k1, Nat.zero_le _⟩, fun b2 hb2 hst t x hc => ?_⟩
    rw [k1] at hb2; cases hb2
    have := k2 hst
    rw [hc] at this
    obtain ⟨x', hx'⟩ := this
    rw [k3]
    exact h.2.2 b e1 e2 t x' hx'
  | ptr id st row p =>
    intro vs h
    simp only [ATR] at h
    refine ref h.1 fun b j b' e1 e2 k1 k2 k3 => ⟨h.1, ⟨b', k1, Nat.zero_le _⟩, fun b2 hb2 hst t xs hc => ?_⟩
    rw [k1] at hb2; cases hb2
    have := k2 hst
    rw [hc] at this
    rw [k3]
    exact h.2.2 b e1 e2 t xs this
  | fn f c ih => intro vs h; obtain ⟨caps, e, h1⟩ := h; exact ⟨caps, e, ih h1⟩
  | tup l r ihl ihr => intro vs h; obtain ⟨v1, v2, e, h1, h2⟩ := h; exact ⟨v1, v2, e, ihl h1, ihr h2⟩
  | tend => intro vs h; exact h
  | when_ g b => intro vs h; simp [ATR] at h
  | any => intro vs h; exact h

theorem renA_agg : ∀ (x : AT), (renA m μ x).isAgg = x.isAgg := by
  intro x
  have ref : ∀ {id st : Nat} {f : Nat → AT}, (∀ j, (f j).isAgg = false) → (renRef m μ id st f).isAgg = false := by
    intro id st f h
    rcases renRef_cases (m := m) (μ := μ) (id := id) (st := st) (f := f) with e | ⟨b, j, _, _, _, e⟩ <;> rw [e]
    · rfl
    · exact h j
  cases x <;> first | rfl | exact ref fun _ => rfl

theorem renA_typed : ∀ {x : AT} {t : Ty}, Typed x t → Typed (renA m μ x) t := by
  intro x
  induction x with
  | whole id st u =>
    intro t h
    simp only [Typed] at h
    subst h
    simp only [renA]
    rcases renRef_cases (m := m) (μ := μ) (id := id) (st := st) (f := fun j => AT.whole j 0 u) with e | ⟨b, j, _, _, _, e⟩ <;> rw [e]
    · exact ⟨rfl, rfl⟩
    · rfl
  | piece id st off len u =>
    intro t h
    simp only [Typed] at h
    subst h
    simp only [renA]
    rcases renRef_cases (m := m) (μ := μ) (id := id) (st := st) (f := fun j => AT.piece j 0 off len u) with e | ⟨b, j, _, _, _, e⟩ <;> rw [e]
    · exact ⟨rfl, rfl⟩
    · rfl
  | pair l r ihl ihr => intro t h; obtain ⟨a, b, e, h1, h2⟩ := h; exact ⟨a, b, e, ihl h1, ihr h2⟩
  | vptr id st p => intro t h; simp [Typed] at h
  | ptr id st row p => intro t h; simp [Typed] at h
  | fn f c ih => intro t h; simp [Typed] at h
  | tup l r ihl ihr => intro t h; simp [Typed] at h
  | when_ g b => intro t h; simp [Typed] at h
  | _ => intro t h; exact h

theorem renA_val (hμ : Moved m m' ρ ρ' μ) {x : AT} {v : Value} (h : ValR w I m ρ x v) : ValR w I m' ρ' (renA m μ x) v := by
  unfold ValR at h ⊢
  rw [renA_agg]
  split
  · rename_i hh
    rw [if_pos hh] at h
    obtain ⟨arr, e, h1⟩ := h
    exact ⟨arr, e, renA_atr hμ h1⟩
  · rename_i hh
    rw [if_neg hh] at h
    exact renA_atr hμ h

theorem renA_tup (hμ : Moved m m' ρ ρ' μ) : ∀ {x : AT} {vs : List Value}, TupR w I m ρ x vs → TupR w I m' ρ' (renA m μ x) vs := by
  intro x
  induction x with
  | tup l r ihl ihr => intro vs h; obtain ⟨v, vs', e, h1, h2⟩ := h; exact ⟨v, vs', e, renA_val hμ h1, ihr h2⟩
  | tend => intro vs h; exact h
  | _ => intro vs h; simp [TupR] at h

theorem slot_of_val {x : AT} {v : Value} (h : ValR w I m ρ x v) (hn : ∀ l r, x ≠ .tup l r) (h1 : x ≠ .tend) : SlotR w I m ρ x v := by
  cases x <;> first | exact h | trivial | exact absurd rfl (hn _ _) | exact absurd rfl h1

theorem renA_slot (hμ : Moved m m' ρ ρ' μ) {x : AT} {v : Value} (h : SlotR w I m ρ x v) : SlotR w I m' ρ' (renA m μ x) v := by
  have ref : ∀ {id st : Nat} {f : Nat → AT}, (∀ j, (∀ l r, f j ≠ .tup l r) ∧ f j ≠ .tend) → ValR w I m' ρ' (renRef m μ id st f) v → SlotR w I m' ρ' (renRef m μ id st f) v := by
    intro id st f hf hv
    refine slot_of_val hv ?_ ?_ <;> rcases renRef_cases (m := m) (μ := μ) (id := id) (st := st) (f := f) with e | ⟨b, j, _, _, _, e⟩ <;> rw [e]
    · intro l r; simp
    · exact (hf j).1
    · simp
    · exact (hf j).2
  cases x with
  | tup l r => obtain ⟨arr, e, h1⟩ := h; exact ⟨arr, e, renA_tup hμ (x := .tup l r) h1⟩
  | tend => exact h
  | any => trivial
  | when_ _ _ => trivial
  | whole id st t => exact ref (fun j => ⟨by intro l r; simp, by simp⟩) (renA_val hμ (x := .whole id st t) h)
  | piece id st off len t => exact ref (fun j => ⟨by intro l r; simp, by simp⟩) (renA_val hμ (x := .piece id st off len t) h)
  | ptr id st row p => exact ref (fun j => ⟨by intro l r; simp, by simp⟩) (renA_val hμ (x := .ptr id st row p) h)
  | vptr id st p => exact ref (fun j => ⟨by intro l r; simp, by simp⟩) (renA_val hμ (x := .vptr id st p) h)
  | leaf t y => exact h
  | nil t => exact h
  | nil0 => exact h
  | pair l r => exact renA_val hμ (x := .pair l r) h
  | undef k => exact h
  | fn f c => exact renA_val hμ (x := .fn f c) h

theorem find_putM {i : Nat} {b : Blk} : ∀ {l : Mem} (j : Nat), find (putM i b l) j = if i = j then some b else find l j
  | [], j => by simp [putM, find_cons]
  | (k, c) :: l, j => by
    simp only [putM]
    cases h : Nat.ble i k with
    | true => simp only [cond_true, find_cons]
    | false =>
      have hik : i ≠ k := by intro e; subst e; rw [Nat.ble_eq_true_of_le (Nat.le_refl _)] at h; cases h
      simp only [cond_false, find_cons, find_putM (l := l)]
      by_cases e : i = j
      · subst e
        have : ¬ k = i := fun e => hik e.symm
        simp [this]
      · simp [e]

theorem find_sortM : ∀ (l : Mem) (j : Nat), find (sortM l) j = find l j
  | [], _ => rfl
  | (i, b) :: l, j => by
    show find (putM i b (sortM l)) j = _
    rw [find_putM, find_cons, find_sortM l]

theorem find_of_nodup {α : Type} : ∀ {l : List (Nat × α)} {i : Nat} {x : α}, (l.map (·.1)).Nodup → (i, x) ∈ l → find l i = some x
  | [], i, x, _, h => by simp at h
  | (j, y) :: l, i, x, hn, h => by
    simp only [List.map_cons, List.nodup_cons] at hn
    rw [find_cons]
    rcases List.mem_cons.1 h with e | h
    · cases e; simp
    · have : j ≠ i := by intro e; subst e; exact hn.1 (List.mem_map.2 ⟨_, h, rfl⟩)
      rw [if_neg this]
      exact find_of_nodup hn.2 h

theorem renBlk_spec {i : Nat} {b : Blk} (h : m i = some b) : (renBlk m μ i = ⟨1, false, .dead⟩ ∧ 0 < b.st ∧ isPid i = true) ∨
    ((isPid i = false ∨ b.st = 0) ∧ (renBlk m μ i).st = 0 ∧ (renBlk m μ i).fz = b.fz ∧ ((∃ t x, b.c = .var t x ∧ (renBlk m μ i).c = .var t (renA m μ x)) ∨ (∃ t xs, b.c = .rows t xs ∧ (renBlk m μ i).c = .rows t xs) ∨ (b.c = .dead ∧ (renBlk m μ i).c = .dead))) := by
  obtain ⟨st, fz, c⟩ := b
  unfold renBlk
  rw [h]
  simp only
  cases hp : isPid i && !(Nat.beq st 0) with
  | true =>
    simp only [cond_true, true_and]
    simp only [Bool.and_eq_true, Bool.not_eq_true'] at hp
    refine .inl ⟨Nat.pos_of_ne_zero fun e => ?_, hp.1⟩
    subst e
    simp at hp
  | false =>
    simp only [cond_false]
    refine .inr ⟨?_, ?_⟩
    · rw [Bool.and_eq_false_iff] at hp
      rcases hp with hp | hp
      · exact .inl hp
      · refine .inr ?_
        simp only [Bool.not_eq_false'] at hp
        exact Nat.eq_of_beq_eq_true hp
    · cases c with
      | var t x => exact ⟨rfl, rfl, .inl ⟨t, x, rfl, rfl⟩⟩
      | rows t xs => exact ⟨rfl, rfl, .inr (.inl ⟨t, xs, rfl, rfl⟩)⟩
      | dead => exact ⟨rfl, rfl, .inr (.inr ⟨rfl, rfl⟩)⟩

theorem renA_nw (x : AT) : ∀ A b, renA m μ x ≠ .when_ A b := by
  intro A b
  cases x <;> simp only [renA] <;> first
    | (intro h; cases h; done)
    | (rename_i id st _; rcases renRef_cases (m := m) (μ := μ) (id := id) (st := st) with e | ⟨_, j, _, _, _, e⟩ <;> rw [e] <;> simp; done)
    | skip
  all_goals (intro h; unfold renRef at h; split at h <;> (try split at h) <;> cases h)

theorem find_mapR (m : MF) (μ : List (Nat × Nat)) : ∀ (env : List (Nat × AT)) (s : Nat), find (mapL (fun x => (x.1, renA m μ x.2)) env) s = (find env s).map (renA m μ)
  | [], s => rfl
  | (t, x) :: l, s => by
    simp only [mapL, find_cons, find_mapR m μ l]
    by_cases e : t = s <;> simp [e]

theorem plainB_ok {p : St} (hb : plainB st = some p) (h : ∃ I ρ, InvA F n K st a w I ρ) : Inv F n K p a w := by
  obtain ⟨I, ρ, hi⟩ := h
  unfold plainB at hb
  dsimp only at hb
  generalize renIds st.mem 100 _ = μ at hb
  cases hok : renOk st.mem μ with
  | false => simp [hok] at hb
  | true =>
  simp only [hok, cond_true, Option.some.injEq] at hb
  subst hb
  simp only [renOk, Bool.and_eq_true, nodup_spec, mapL_eq] at hok
  obtain ⟨⟨⟨n1, n2⟩, hpid⟩, hpm⟩ := hok
  let m : MF := find st.mem
  let m' : MF := find (sortM (mapL (fun x => (x.2, renBlk (find st.mem) μ x.1)) μ))
  let sw : List (Nat × Nat) := μ.map fun x => (x.2, x.1)
  let ρ' : Pl := fun j => match find sw j with | some i => ρ i | none => none
  have nsw : (sw.map (·.1)).Nodup := by simpa [sw, Function.comp_def] using n2
  have hsw : ∀ i j, (i, j) ∈ μ → ρ' j = ρ i := by
    intro i j hij
    show (match find sw j with | some i => ρ i | none => none) = _
    rw [find_of_nodup nsw (List.mem_map.2 ⟨(i, j), hij, rfl⟩)]
  have nm : (((mapL (fun x : Nat × Nat => (x.2, renBlk (find st.mem) μ x.1)) μ)).map (·.1)).Nodup := by
    rw [mapL_eq]
    simpa [Function.comp_def] using n2
  have hto : ∀ i j, (i, j) ∈ μ → m' j = some (renBlk m μ i) := by
    intro i j hij
    show find (sortM _) j = _
    rw [find_sortM]
    exact find_of_nodup nm (by rw [mapL_eq]; exact List.mem_map.2 ⟨(i, j), hij, rfl⟩)
  have hfrom : ∀ j b', m' j = some b' → ∃ i, (i, j) ∈ μ ∧ b' = renBlk m μ i := by
    intro j b' h
    change find (sortM _) j = _ at h
    rw [find_sortM, mapL_eq] at h
    obtain ⟨⟨i, k⟩, h1, h2⟩ := List.mem_map.1 (find_mem h)
    cases h2
    exact ⟨i, h1, rfl⟩
  have hmv : Moved m m' ρ ρ' μ := by
    refine ⟨fun id j b hf hb => ?_⟩
    have hin := find_mem hf
    refine ⟨_, hto id j hin, ?_, hsw id j hin⟩
    rcases renBlk_spec (μ := μ) hb with ⟨e, _, _⟩ | ⟨_, e1, _, e2⟩
    · rw [e]; exact .inl (by decide)
    · refine .inr ⟨e1, ?_⟩
      rcases e2 with ⟨t, x, k1, k2⟩ | ⟨t, xs, k1, k2⟩ | ⟨k1, k2⟩ <;> rw [k2, k1]
      · exact ⟨x, rfl⟩
      · rfl
      · trivial
  have hlive : ∀ i j, (i, j) ∈ μ → (renBlk m μ i).live → ∃ b, m i = some b ∧ b.live := by
    intro i j hij hl
    cases hb : m i with
    | none =>
      have : renBlk m μ i = ⟨0, false, .dead⟩ := by unfold renBlk; rw [hb]
      rw [this] at hl
      exact hl.elim
    | some b =>
      refine ⟨b, rfl, ?_⟩
      rcases renBlk_spec (μ := μ) hb with ⟨e, _, _⟩ | ⟨_, _, _, e2⟩
      · rw [e] at hl; exact hl.elim
      · rcases e2 with ⟨t, x, k1, k2⟩ | ⟨t, xs, k1, k2⟩ | ⟨k1, k2⟩
        · exact live_of_var k1
        · exact live_of_rows k1
        · unfold Blk.live at hl; rw [k2] at hl; exact hl.elim
  refine ⟨⟨I, ρ', ⟨?_, ?_, hi.size, hi.defers, ?_⟩⟩, ?_⟩
  · refine ⟨fun j b' hb' => ?_, fun j j' b b' B o o' h1 h2 h3 h4 h5 h6 => ?_, hi.mem.imm, hi.mem.imm0, hi.mem.immN, fun j b B o h1 h2 h3 => ?_, hi.mem.frame, hi.mem.size, hi.mem.os, hi.mem.tape, hi.mem.output⟩
    · obtain ⟨i, hij, e⟩ := hfrom j b' hb'
      subst e
      cases hb : m i with
      | none =>
        have : renBlk m μ i = ⟨0, false, .dead⟩ := by unfold renBlk; rw [hb]
        rw [this]; trivial
      | some b =>
        have hblk := hi.mem.blk i b hb
        rcases renBlk_spec (μ := μ) hb with ⟨e, _, _⟩ | ⟨_, _, e1, e2⟩
        · rw [e]; trivial
        · unfold BlkR at hblk ⊢
          rcases e2 with ⟨t, x, k1, k2⟩ | ⟨t, xs, k1, k2⟩ | ⟨k1, k2⟩
          · rw [k1] at hblk
            rw [k2]
            simp only at hblk ⊢
            obtain ⟨q1, B, cs, q2, q3, q4, q5⟩ := hblk
            exact ⟨renA_typed q1, B, cs, by rw [hsw i j hij]; exact q2, q3, renA_atr hmv q4, by rw [e1]; exact q5⟩
          · rw [k1] at hblk
            rw [k2]
            simp only at hblk ⊢
            rw [hsw i j hij, e1]
            exact hblk
          · rw [k2]; trivial
    · obtain ⟨i, hij, e⟩ := hfrom j b h1
      obtain ⟨i', hij', e'⟩ := hfrom j' b' h2
      subst e e'
      obtain ⟨c, hc1, hc2⟩ := hlive i j hij h3
      obtain ⟨c', hc1', hc2'⟩ := hlive i' j' hij' h4
      have := hi.mem.inj i i' c c' B o o' hc1 hc1' hc2 hc2' (by rw [← hsw i j hij]; exact h5) (by rw [← hsw i' j' hij']; exact h6)
      subst this
      have f1 := find_of_nodup n1 hij
      have f2 := find_of_nodup n1 hij'
      rw [f1] at f2
      cases f2
      rfl
    · obtain ⟨i, hij, e⟩ := hfrom j b h1
      subst e
      obtain ⟨c, hc1, hc2⟩ := hlive i j hij h2
      exact hi.mem.mine i c B o hc1 hc2 (by rw [← hsw i j hij]; exact h3)
  · intro s av hav
    simp only [find_mapR, Option.map_eq_some_iff] at hav
    obtain ⟨x, hx, e⟩ := hav
    subst e
    exact renA_slot hmv (hi.env s x hx)
  · intro id b0 hb0
    obtain ⟨b, hb, h1⟩ := hi.kept id b0 hb0
    have hp := K.pid id b0 hb0
    have := allL_mem hpm _ (find_mem hb)
    simp only [hp, Bool.not_true, Bool.false_or] at this
    split at this
    · rename_i j hj
      have := Nat.eq_of_beq_eq_true this
      subst this
      have hin := find_mem hj
      refine ⟨_, hto _ _ hin, ?_⟩
      rcases renBlk_spec (μ := μ) hb with ⟨e, _, _⟩ | ⟨e0, e1, _, e2⟩
      · rw [e]; exact .inl (by decide)
      · refine .inr ⟨e1, ?_⟩
        have hz : b.st = 0 := by
          rcases e0 with e0 | e0
          · rw [hp] at e0; cases e0
          · exact e0
        rcases h1 with h1 | ⟨_, k2, k3, k4⟩
        · omega
        · refine ⟨k2.trans ?_, (hsw _ _ hin).trans k3, k4⟩
          rcases e2 with ⟨t, x, q1, q2⟩ | ⟨t, xs, q1, q2⟩ | ⟨q1, q2⟩ <;> (show SameSh b.c (renBlk m μ _).c) <;> rw [q1, q2]
          · exact rfl
          · exact ⟨rfl, rfl⟩
          · trivial
    · cases this
  · intro s A b hf
    simp only [find_mapR, Option.map_eq_some_iff] at hf
    obtain ⟨x, hx, e⟩ := hf
    exact renA_nw x A b e

theorem plain_ok {keep : List Nat} {p : St} (hp : plain keep st = some p) (h : Inv F n K st a w) : Inv F n K p a w := by
  unfold plain at hp
  cases hb : allL (fun x => Nat.ble (x.1 + 1) nilBase) st.mem with
  | false => rw [hb] at hp; cases hp
  | true =>
    rw [hb] at hp
    exact plainB_ok hp (plainA_ok hb h)

end
end Go.Ab
namespace Go.Ab
section
variable {P : Program} {F : Fix} {C : Cx} {o : Oper} {a : Act} {w w' : World} {m m' : MF} {I I' : Nat → Prop} {ρ ρ' : Pl} {d : Did}
variable {n : Nat} {K : Keep} {st st' : St}

/-! ### data of a plain state -/
theorem pathIs_eq : ∀ {p q : Path}, pathIs p q = true → p = q
  | [], [], _ => rfl
  | .fst :: p, .fst :: q, h => by rw [pathIs_eq (p := p) (q := q) h]
  | .snd :: p, .snd :: q, h => by rw [pathIs_eq (p := p) (q := q) h]
  | .idx i :: p, .idx j :: q, h => by
    simp only [pathIs, Bool.and_eq_true] at h
    rw [Nat.eq_of_beq_eq_true h.1, pathIs_eq (p := p) (q := q) h.2]
  | [], _ :: _, h => by simp [pathIs] at h
  | .fst :: _, [], h => by simp [pathIs] at h
  | .snd :: _, [], h => by simp [pathIs] at h
  | .idx _ :: _, [], h => by simp [pathIs] at h
  | .fst :: _, .snd :: _, h => by simp [pathIs] at h
  | .fst :: _, .idx _ :: _, h => by simp [pathIs] at h
  | .snd :: _, .fst :: _, h => by simp [pathIs] at h
  | .snd :: _, .idx _ :: _, h => by simp [pathIs] at h
  | .idx _ :: _, .fst :: _, h => by simp [pathIs] at h
  | .idx _ :: _, .snd :: _, h => by simp [pathIs] at h

theorem as_some {d : DV} {t : Ty} {x : t.den} (h : d.as t = some x) : d = ⟨t, x⟩ := by
  obtain ⟨u, y⟩ := d
  unfold DV.as at h
  split at h
  · rename_i e
    simp only at e
    subst e
    cases h
    rfl
  · cases h

theorem bif_some {α : Type} {b : Bool} {x : Option α} {y : α} (h : (bif b then x else none) = some y) : b = true ∧ x = some y := by
  cases b <;> simp_all

theorem AS.data_ok : ∀ {s : AS} {x : AT} {y : s.den}, s.data x = some y → s.of y = x := by
  intro s
  induction s with
  | leaf t =>
    intro x y h
    cases x <;> simp only [AS.data, reduceCtorEq] at h
    have := as_some h
    cases this
    rfl
  | whole id t =>
    intro x y h
    cases x <;> (try simp only [AS.data, reduceCtorEq] at h)
    rename_i jd st u
    cases st with
    | succ k => cases h
    | zero =>
      simp only [AS.data] at h
      obtain ⟨e1, _⟩ := bif_some h
      simp only [Bool.and_eq_true] at e1
      have := Nat.eq_of_beq_eq_true e1.1
      have := Ty.is_eq e1.2
      subst_vars
      rfl
  | piece id t =>
    intro x y h
    cases x <;> (try simp only [AS.data, reduceCtorEq] at h)
    rename_i jd st off len u
    cases st with
    | succ k => cases h
    | zero =>
      simp only [AS.data] at h
      obtain ⟨e1, e2⟩ := bif_some h
      simp only [Bool.and_eq_true] at e1
      have := Nat.eq_of_beq_eq_true e1.1
      have := Ty.is_eq e1.2
      subst_vars
      cases e2
      rfl
  | nil0 => intro x y h; cases x <;> simp only [AS.data, reduceCtorEq] at h; rfl
  | pair l r ihl ihr =>
    intro x y h
    cases x <;> simp only [AS.data, reduceCtorEq] at h
    split at h
    · rename_i u v hu hv
      cases h
      simp only [AS.of, ihl hu, ihr hv]
    · cases h
  | undef k =>
    intro x y h
    cases x <;> simp only [AS.data, reduceCtorEq] at h
    obtain ⟨e1, _⟩ := bif_some h
    have := Nat.eq_of_beq_eq_true e1
    subst_vars
    rfl
  | ptr id p =>
    intro x y h
    cases x <;> (try simp only [AS.data, reduceCtorEq] at h)
    rename_i jd st row q
    cases st with
    | succ k => cases h
    | zero =>
      simp only [AS.data] at h
      obtain ⟨e1, e2⟩ := bif_some h
      simp only [Bool.and_eq_true] at e1
      have := Nat.eq_of_beq_eq_true e1.1
      have := pathIs_eq e1.2
      subst_vars
      cases e2
      rfl
  | vptr id p =>
    intro x y h
    cases x <;> (try simp only [AS.data, reduceCtorEq] at h)
    rename_i jd st q
    cases st with
    | succ k => cases h
    | zero =>
      simp only [AS.data] at h
      obtain ⟨e1, e2⟩ := bif_some h
      simp only [Bool.and_eq_true] at e1
      have := Nat.eq_of_beq_eq_true e1.1
      have := pathIs_eq e1.2
      subst_vars
      rfl
  | fn f c ih =>
    intro x y h
    cases x <;> simp only [AS.data, reduceCtorEq] at h
    obtain ⟨e1, e2⟩ := bif_some h
    have := Nat.eq_of_beq_eq_true e1
    subst this
    simp only [AS.of, ih e2]
  | tup l r ihl ihr =>
    intro x y h
    cases x <;> simp only [AS.data, reduceCtorEq] at h
    split at h
    · rename_i u v hu hv
      cases h
      simp only [AS.of, ihl hu, ihr hv]
    · cases h
  | tend => intro x y h; cases x <;> simp only [AS.data, reduceCtorEq] at h; rfl
  | any => intro x y h; cases x <;> simp only [AS.data, reduceCtorEq] at h; rfl

theorem BS.data_ok {s : BS} {x : BC} {y : s.den} (h : s.data x = some y) : s.of y = x := by
  cases s with
  | var t a =>
    cases x <;> simp only [BS.data, reduceCtorEq] at h
    obtain ⟨e1, e2⟩ := bif_some h
    have := Ty.is_eq e1
    subst this
    simp only [BS.of, AS.data_ok e2]
  | rows t =>
    cases x <;> simp only [BS.data, reduceCtorEq] at h
    have := as_some h
    cases this
    rfl

theorem envData_ok : ∀ {l : List (Nat × AS)} {e : List (Nat × AT)} {y : envDen l}, envData l e = some y → envOf l y = e
  | [], [], y, _ => rfl
  | [], _ :: _, y, h => by simp [envData] at h
  | [(s, a)], [], y, h => by simp [envData] at h
  | [(s, a)], [(s', b)], y, h => by
    simp only [envData] at h
    obtain ⟨e1, e2⟩ := bif_some h
    have := Nat.eq_of_beq_eq_true e1
    subst this
    simp only [envOf, AS.data_ok e2]
  | [(s, a)], _ :: _ :: _, y, h => by simp [envData] at h
  | (s, a) :: a' :: l, [], y, h => by simp [envData] at h
  | (s, a) :: a' :: l, (s', b) :: l', y, h => by
    simp only [envData] at h
    obtain ⟨e1, e2⟩ := bif_some h
    have := Nat.eq_of_beq_eq_true e1
    subst this
    split at e2
    · rename_i u v hu hv
      cases e2
      simp only [envOf, AS.data_ok hu, envData_ok hv]
    · cases e2

theorem memData_ok : ∀ {l : List (Nat × Bool × BS)} {e : Mem} {y : memDen l}, memData l e = some y → memOf l y = e
  | [], [], y, _ => rfl
  | [], _ :: _, y, h => by simp [memData] at h
  | [(s, f, a)], [], y, h => by simp [memData] at h
  | [(s, f, a)], [(s', ⟨st, f', b⟩)], y, h => by
    cases st with
    | succ k => simp [memData] at h
    | zero =>
      simp only [memData] at h
      obtain ⟨e1, e2⟩ := bif_some h
      simp only [Bool.and_eq_true] at e1
      have := Nat.eq_of_beq_eq_true e1.1
      have := boolIs_eq e1.2
      subst_vars
      simp only [memOf, BS.data_ok e2]
  | [(s, f, a)], _ :: _ :: _, y, h => by simp [memData] at h
  | (s, f, a) :: a' :: l, [], y, h => by simp [memData] at h
  | (s, f, a) :: a' :: l, (s', ⟨st, f', b⟩) :: l', y, h => by
    cases st with
    | succ k => simp [memData] at h
    | zero =>
      simp only [memData] at h
      obtain ⟨e1, e2⟩ := bif_some h
      simp only [Bool.and_eq_true] at e1
      have := Nat.eq_of_beq_eq_true e1.1
      have := boolIs_eq e1.2
      subst_vars
      split at e2
      · rename_i u v hu hv
        cases e2
        simp only [memOf, BS.data_ok hu, memData_ok hv]
      · cases e2

theorem Inv.ok_any {e : List (Nat × AT)} {m : Mem} {k k' : List Bool} (h : Inv F n K ⟨e, m, k⟩ a w) : Inv F n K ⟨e, m, k'⟩ a w := by
  obtain ⟨⟨I, ρ, h1⟩, h2⟩ := h
  exact ⟨⟨I, ρ, h1.mem, h1.env, h1.size, h1.defers, h1.kept⟩, h2⟩

theorem sh_data {s : Sh} {x : s.den} {ok : List Bool} (hd : s.data st = some x) (h : Inv F n K st a w) : Inv F n K { s.of x with ok := ok } a w := by
  unfold Sh.data at hd
  split at hd
  · cases hd
  · rename_i p hp
    split at hd
    · rename_i u v hu hv
      cases hd
      have h1 := plain_ok hp h
      obtain ⟨pe, pm, pk⟩ := p
      have e1 := envData_ok hu
      have e2 := memData_ok hv
      simp only at e1 e2
      subst e1 e2
      exact h1.ok_any
    · cases hd

def exOf : Ex → Exit
  | .norm => .normal
  | .exit i => .exit i
  | .ret => .ret

theorem Ex.is_eq : ∀ {e f : Ex}, e.is f = true → e = f
  | .norm, .norm, _ => rfl
  | .exit i, .exit j, h => by rw [Nat.eq_of_beq_eq_true (show Nat.beq i j = true from h)]
  | .ret, .ret, _ => rfl
  | .norm, .exit _, h => by simp [Ex.is] at h
  | .norm, .ret, h => by simp [Ex.is] at h
  | .exit _, .norm, h => by simp [Ex.is] at h
  | .exit _, .ret, h => by simp [Ex.is] at h
  | .ret, .norm, h => by simp [Ex.is] at h
  | .ret, .exit _, h => by simp [Ex.is] at h

theorem exits_ok {α : Type} {Kt : Ex → St → Option α} {ok : List Bool} {r : α} {f : Ex} : ∀ {l : Exits} {y : l.den}, l.data f st = some y → Exits.go Kt ok l y = some r →
    ∃ (s : Sh) (z : s.den), s.data st = some z ∧ Kt f { s.of z with ok := ok } = some r
  | [], y, h, _ => by simp [Exits.data] at h
  | [(e, s)], y, h, hg => by
    simp only [Exits.data] at h
    obtain ⟨e1, e2⟩ := bif_some h
    have := Ex.is_eq e1
    subst this
    exact ⟨s, y, e2, hg⟩
  | (e, s) :: b :: l, y, h, hg => by
    simp only [Exits.data] at h
    split at h
    · rename_i x hx
      cases h
      obtain ⟨e1, e2⟩ := bif_some hx
      have := Ex.is_eq e1
      subst this
      exact ⟨s, x, e2, hg⟩
    · rw [Option.map_eq_some_iff] at h
      obtain ⟨z, hz, e⟩ := h
      subst e
      exact exits_ok hz hg

/-! ### loops -/
def LoopFrom (P : Program) (c : Code) (Q : Exit → Act → World → Prop) (a : Act) (w : World) : Prop :=
  ∀ (b : Frame) (k : List Item) (cs : List Frame), ∃ e a' w', Q e a' w' ∧ Arrives P (lone (b.at a (.code c :: .inLoop c :: k)) cs w) b k cs e a' w'

theorem loop_from {c : Code} {Q : Exit → Act → World → Prop} (h : LoopFrom P c Q a w) : (Code.loop c).wp P Q a w := fun b k cs => by
  obtain ⟨e, a', w', hq, harr⟩ := h b k cs
  exact ⟨e, a', w', hq, .of_steps (.one step_loop) harr⟩

theorem loop_unroll {c : Code} {Q : Exit → Act → World → Prop} (h : c.wp P (Exit.then (LoopFrom P c Q) Q) a w) : LoopFrom P c Q a w := by
  intro b k cs
  obtain ⟨e, a₁, w₁, hq, harr⟩ := h b (.inLoop c :: k) cs
  cases e with
  | normal =>
    obtain ⟨e₂, a₂, w₂, hq₂, harr₂⟩ := hq b k cs
    exact ⟨e₂, a₂, w₂, hq₂, .of_steps (Steps.trans harr (.one step_inLoop)) harr₂⟩
  | exit id => exact ⟨_, a₁, w₁, hq, .pass (x := .inLoop c) rfl (fun _ _ => .inl (by simp)) harr⟩
  | goto l => exact ⟨_, a₁, w₁, hq, .pass (x := .inLoop c) rfl (fun _ _ => .inl (by simp)) harr⟩
  | ret => exact ⟨_, a₁, w₁, hq, .pass (x := .inLoop c) rfl (fun _ _ => .inl (by simp)) harr⟩
  | panic ch => exact ⟨_, a₁, w₁, hq, .pass (x := .inLoop c) rfl (fun _ _ => .inl (by simp)) harr⟩
  | outgrown => exact ⟨_, a₁, w₁, hq, .pass (x := .inLoop c) rfl (fun _ _ => .inl (by simp)) harr⟩

def LoopsOk (C : Cx) (lt : List (Nat × LoopD)) : Code → Prop
  | .seq a b => LoopsOk C lt a ∧ LoopsOk C lt b
  | .cond _ a b => LoopsOk C lt a ∧ LoopsOk C lt b
  | .block _ c => LoopsOk C lt c
  | .scope c => LoopsOk C lt c
  | .loop c => LoopsOk C lt c ∧ ∀ L, find lt (firstReg c) = some L → ∀ x, L.dom x = true → Comes (round C lt c L) x (L.val x)
  | _ => True

end
end Go.Ab
namespace Go.Ab
section
variable {P : Program} {F : Fix} {C : Cx} {o : Oper} {a : Act} {w w' : World} {m m' : MF} {I I' : Nat → Prop} {ρ ρ' : Pl} {d : Did}
variable {n : Nat} {K : Keep} {st st' : St}

theorem condB_ok {c : Operand} {g : Bool} (h : condB st.env C c = some g) (hi : Inv F n K st a w) : a.eval c = .bool g := by
  obtain ⟨⟨I, ρ, h1⟩, h2⟩ := hi
  have h3 : SlotR w I (find st.mem) ρ (opnd C st.env [] c) (a.eval c) := by
    refine opnd_ok (fun s _ av hav => ?_) (by intro t ht; simp at ht)
    exact envR_of (h1.env s av hav) fun A b e => h2 s A b (e ▸ hav)
  have h4 : opnd C st.env [] c = .leaf .bool g := by
    unfold condB at h
    unfold opnd
    split at h
    · rename_i g' hg
      cases h
      rw [hg]
    · cases h
  rw [h4] at h3
  exact slot_bool.1 h3

theorem evC_ok (hm : P.follows .mixedOrders = true) (hC : CxOk P C) (hF : FnOk P C) {lt : List (Nat × LoopD)} : ∀ (c : Code) {α : Type} {r : α} {Kt : Ex → St → Option α} {st : St} {a : Act} {w : World} {Q : Exit → Act → World → Prop},
    codeOk n c = true → LoopsOk C lt c → Inv F n K st a w → evC C lt c Kt st = some r →
    (∀ e st' a' w', Kt e st' = some r → Inv F n K st' a' w' → Q (exOf e) a' w') → c.wp P Q a w := by
  intro c
  induction c with
  | skip => intro α r Kt st a w Q _ _ hi h hQ; exact wp_skip (hQ _ _ _ _ h hi)
  | region id ops draw =>
    intro α r Kt st a w Q hco _ hi h hQ
    simp only [evC] at h
    split at h
    · rename_i st' hst
      obtain ⟨h1, h2⟩ := bif_some h
      have hok := allB_iff.1 h1
      have hn : ∀ a' w', Inv F n K st' a' w' → Q .normal a' w' := fun a' w' h' => by
        obtain ⟨e, m, k⟩ := st'
        exact hQ .norm _ _ _ h2 h'.ok_any
      cases draw with
      | false => exact region_inorder hC hF hco hst hok hi hn
      | true => exact region_drawn hm hC hF hco hst hok hi hn
    · cases h
  | seq x y ihx ihy =>
    intro α r Kt st a w Q hco hl hi h hQ
    simp only [codeOk, Bool.and_eq_true] at hco
    simp only [evC] at h
    refine wp_seq (ihx hco.1 hl.1 hi h ?_)
    intro e st' a' w' he hi'
    split at he
    · exact ihy hco.2 hl.2 hi' he hQ
    · rename_i hne
      have := hQ e st' a' w' he hi'
      cases e with
      | norm => exact absurd rfl hne
      | exit i => exact this
      | ret => exact this
  | cond c x y ihx ihy =>
    intro α r Kt st a w Q hco hl hi h hQ
    simp only [codeOk, Bool.and_eq_true] at hco
    simp only [evC] at h
    split at h
    · rename_i g hcg
      have hc := condB_ok hcg hi
      cases g with
      | true => exact wp_cond_true hc (ihx hco.1 hl.1 hi h hQ)
      | false => exact wp_cond_false hc (ihy hco.2 hl.2 hi h hQ)
    · cases h
  | block id c ih =>
    intro α r Kt st a w Q hco hl hi h hQ
    simp only [evC] at h
    refine wp_block (ih hco hl hi h ?_)
    intro e st' a' w' he hi'
    split at he
    · rename_i i
      cases hb : Nat.beq i id with
      | true =>
        rw [hb] at he
        have := Nat.eq_of_beq_eq_true hb
        subst this
        have h1 := hQ _ _ _ _ he hi'
        simp only [exOf, Exit.inBlock, if_true]
        exact h1
      | false =>
        rw [hb] at he
        have hne : i ≠ id := by intro e; subst e; simp at hb
        have h1 := hQ _ _ _ _ he hi'
        simp only [exOf, Exit.inBlock, hne, if_false]
        exact h1
    · rename_i hne
      have h1 := hQ _ _ _ _ he hi'
      cases e with
      | norm => exact h1
      | exit i => exact absurd rfl (hne i)
      | ret => exact h1
  | loop c ih =>
    intro α r Kt st a w Q hco hl hi h hQ
    simp only [evC] at h
    split at h
    · rename_i L hL
      split at h
      · rename_i x hx
        obtain ⟨hdom, h2⟩ := bif_some h
        have hcomes := hl.2 L hL x hdom
        have hix : Inv F n K (L.sh.of x) a w := (sh_data (ok := []) hx hi)
        clear hdom h hx hi
        refine loop_from ?_
        generalize L.val x = y at hcomes h2
        induction hcomes generalizing a w with
        | out hr =>
          rename_i x' y'
          refine loop_unroll (ih (r := Sum.inr y') hco hl.1 hix hr ?_)
          intro e st' a' w' he hi'
          have he2 := (bif_some he).2
          split at he2
          · rw [Option.map_eq_some_iff] at he2
            obtain ⟨_, _, e⟩ := he2
            cases e
          · rename_i hne
            rw [Option.map_eq_some_iff] at he2
            obtain ⟨z, hz, e2⟩ := he2
            cases e2
            obtain ⟨s, v, k1, k2⟩ := exits_ok hz h2
            have h3 := hQ _ _ _ _ k2 (sh_data k1 hi')
            cases e with
            | norm => exact absurd rfl hne
            | exit i => exact h3
            | ret => exact h3
        | again hr _ ihc =>
          rename_i x' x'' y' _
          refine loop_unroll (ih (r := Sum.inl x'') hco hl.1 hix hr ?_)
          intro e st' a' w' he hi'
          have he2 := (bif_some he).2
          split at he2
          · rw [Option.map_eq_some_iff] at he2
            obtain ⟨z, hz, e⟩ := he2
            cases e
            exact ihc (sh_data (ok := []) hz hi') h2
          · rw [Option.map_eq_some_iff] at he2
            obtain ⟨_, _, e⟩ := he2
            cases e
      · cases h
    · cases h
  | exit id => intro α r Kt st a w Q _ _ hi h hQ; exact wp_exit (hQ _ _ _ _ h hi)
  | scope c ih =>
    intro α r Kt st a w Q hco hl hi h hQ
    refine wp_scope_straight (ih hco hl hi h fun e st' a' w' he hi' => ?_)
    have := hQ e st' a' w' he hi'
    cases e <;> exact this
  | label l => intro α r Kt st a w Q _ _ hi h hQ; exact wp_label (hQ _ _ _ _ h hi)
  | ret => intro α r Kt st a w Q _ _ hi h hQ; exact wp_ret (hQ _ _ _ _ h hi)
  | _ => intro α r Kt st a w Q _ _ _ h; simp [evC] at h

end
end Go.Ab
namespace Go.Ab
section
variable {P : Program} {F : Fix} {C : Cx} {o : Oper} {a : Act} {w w' : World} {m m' : MF} {I I' : Nat → Prop} {ρ ρ' : Pl} {d : Did}
variable {n : Nat} {K : Keep} {st st' : St}

/-! ### results -/
theorem rest_some {t : Ty} {x : AT} {y : t.den} {k : Took} (h : (bif t.hasOwn then none else match toV m (coerceTo (some t) x) with
    | some d => match d.as t with
      | some x' => some (x', (⟨[], idsIn m x.ids⟩ : Took))
      | none => none
    | none => none) = some (y, k)) : t.hasOwn = false ∧ toV m (coerceTo (some t) x) = some ⟨t, y⟩ ∧ k = ⟨[], idsIn m x.ids⟩ := by
  cases ho : t.hasOwn with
  | true => rw [ho] at h; cases h
  | false =>
    rw [ho] at h
    simp only [cond_false] at h
    split at h
    · rename_i d hd
      split at h
      · rename_i x' hx'
        cases h
        have := as_some hx'
        subst this
        exact ⟨rfl, hd, rfl⟩
      · cases h
    · cases h

/-- the ways to a result -/
inductive ToT (m : MF) : (t : Ty) → AT → t.den → Took → Prop where
  | whole {id st : Nat} {u : Ty} {xs : List u.den} : rowsOf m id st u = some (false, xs) → ToT m (.own u) (.whole id st u) xs ⟨[id], []⟩
  | nil {u : Ty} {x : AT} : (x = .nil u ∨ x = .nil0) → ToT m (.own u) x [] {}
  | pair {a b : Ty} {l r : AT} {ya : a.den} {yb : b.den} {ka kb : Took} : ToT m a l ya ka → ToT m b r yb kb → ToT m (.pair a b) (.pair l r) (ya, yb) (ka.app kb)
  | rest {t : Ty} {x : AT} {y : t.den} : t.hasOwn = false → toV m (coerceTo (some t) x) = some ⟨t, y⟩ → ToT m t x y ⟨[], idsIn m x.ids⟩

theorem toT_rest {t : Ty} {x : AT} {y : t.den} {k : Took} (h : (bif t.hasOwn then none else match toV m (coerceTo (some t) x) with
    | some d => match d.as t with
      | some x' => some (x', (⟨[], idsIn m x.ids⟩ : Took))
      | none => none
    | none => none) = some (y, k)) : ToT m t x y k := by
  obtain ⟨h1, h2, h3⟩ := rest_some h
  subst h3
  exact .rest h1 h2

theorem toT_inv : ∀ {t : Ty} {x : AT} {y : t.den} {k : Took}, toT m t x = some (y, k) → ToT m t x y k := by
  intro t
  induction t with
  | own u _ =>
    intro x y k h
    cases x with
    | whole id st u' =>
      simp only [toT] at h
      split at h
      · rename_i xs hr
        split at h
        · rename_i ys hys
          cases h
          have := as_some hys
          cases this
          exact .whole hr
        · cases h
      · cases h
    | nil u' =>
      simp only [toT] at h
      split at h
      · rename_i ys hys
        cases h
        have := as_some hys
        cases this
        exact .nil (.inl rfl)
      · cases h
    | nil0 =>
      simp only [toT] at h
      cases h
      exact .nil (.inr rfl)
    | _ => exact toT_rest (t := .own u) h
  | pair ta tb iha ihb =>
    intro x y k h
    cases x with
    | pair l r =>
      simp only [toT] at h
      split at h
      · rename_i x1 i x2 j h1 h2
        cases h
        exact .pair (iha h1) (ihb h2)
      · cases h
    | _ => exact toT_rest (t := .pair ta tb) h
  | _ => intro x y k h; cases x <;> exact toT_rest h

theorem coerce_slot {t : Ty} {x : AT} {d : DV} (h : toV m (coerceTo (some t) x) = some d) (ht : d.t = t) : x.slot = true ∧ x.isAgg = t.isAgg := by
  have h1 := toV_slot h
  rw [ht] at h1
  cases t <;> cases x <;> simp_all [coerceTo, AT.slot, AT.one, AT.isAgg, Ty.isAgg]

theorem toT_slot {t : Ty} {x : AT} {y : t.den} {k : Took} (h : toT m t x = some (y, k)) : x.slot = true ∧ x.isAgg = t.isAgg := by
  cases toT_inv h with
  | whole _ => exact ⟨rfl, rfl⟩
  | nil e => rcases e with e | e <;> subst e <;> exact ⟨rfl, rfl⟩
  | pair _ _ => exact ⟨rfl, rfl⟩
  | rest _ h2 => exact coerce_slot h2 rfl

theorem Mine.inj (hm : MemR F m w I ρ) {i j B : Nat} (hi : Mine m ρ i B) (hj : Mine m ρ j B) : i = j := by
  obtain ⟨b, o, h1, h2, _, h4⟩ := hi
  obtain ⟨b', o', h1', h2', _, h4'⟩ := hj
  exact hm.inj i j b b' B o o' h1 h1' h2 h2' h4 h4'

theorem nodup_two (hm : MemR F m w I ρ) {l l' Bs Bs' : List Nat} (hn : (l ++ l').Nodup) (h : Bs.Nodup) (h' : Bs'.Nodup) (hl : ∀ B ∈ Bs, ∃ id ∈ l, Mine m ρ id B) (hl' : ∀ B ∈ Bs', ∃ id ∈ l', Mine m ρ id B) : (Bs ++ Bs').Nodup := by
  rw [List.nodup_append]
  refine ⟨h, h', fun x hx y hy e => ?_⟩
  subst e
  obtain ⟨i, hi, h1⟩ := hl x hx
  obtain ⟨j, hj, h2⟩ := hl' x hy
  have := h1.inj hm h2
  subst this
  exact (List.nodup_append.1 hn).2.2 i hi i hj rfl

theorem coerce_atr {t : Ty} {x : AT} {vs : List Value} (h : ATR w I m ρ x vs) : ATR w I m ρ (coerceTo (some t) x) vs := by
  unfold coerceTo
  split
  · exact h
  · exact h

theorem coerce_ids {t : Ty} {x : AT} {id : Nat} (h : id ∈ (coerceTo (some t) x).ids) : id ∈ x.ids := by
  unfold coerceTo at h
  split at h
  · simp [AT.ids] at h
  · exact h

theorem toT_ok {I' : Nat → Prop} (hm : MemR F m w I ρ) (hI : ∀ B, I B → I' B) {t : Ty} {x : AT} {y : t.den} {k : Took} (h : ToT m t x y k) : ∀ {vs : List Value}, ATR w I m ρ x vs →
    (∀ id ∈ k.imm, ∀ b B o, m id = some b → b.live → ρ id = some (B, o) → I' B) → (∀ id ∈ k.own, ∀ B, Mine m ρ id B → ¬ I' B) → k.own.Nodup →
    ∃ Bs, RepO w I' t y vs Bs ∧ Bs.Nodup ∧ ∀ B ∈ Bs, ∃ id ∈ k.own, Mine m ρ id B := by
  induction h with
  | whole h1 =>
    rename_i id st u xs
    intro vs hr hi ho hn
    obtain ⟨Bs, q1, q2⟩ := own_whole hm hr h1 hI (ho id (by simp))
    refine ⟨Bs, q1, ?_, ?_⟩
    · rcases q2 with rfl | ⟨B, rfl, _⟩ <;> simp
    · rcases q2 with rfl | ⟨B, rfl, q2⟩
      · simp
      · intro B' hB'
        simp only [List.mem_singleton] at hB'
        subst hB'
        exact ⟨id, by simp, q2⟩
  | nil e2 =>
    intro vs hr hi ho hn
    have : vs = [.slice none 0 0] := by rcases e2 with e2 | e2 <;> subst e2 <;> exact hr
    subst this
    exact ⟨[], ⟨none, 0, by simp, by simp, .inl ⟨rfl, rfl, rfl⟩⟩, by simp, by simp⟩
  | pair h1 h2 iha ihb =>
    intro vs hr hi ho hn
    obtain ⟨v1, v2, e3, r1, r2⟩ := hr
    simp only [Took.app, mem_app] at hi ho
    simp only [Took.app, app_eq] at hn
    have hn' := List.nodup_append.1 hn
    obtain ⟨B1, q1, q2, q3⟩ := iha r1 (fun id h => hi id (.inl h)) (fun id h => ho id (.inl h)) hn'.1
    obtain ⟨B2, p1, p2, p3⟩ := ihb r2 (fun id h => hi id (.inr h)) (fun id h => ho id (.inr h)) hn'.2.1
    refine ⟨B1 ++ B2, ⟨v1, v2, B1, B2, e3, rfl, q1, p1⟩, nodup_two hm hn q2 p2 q3 p3, fun B hB => ?_⟩
    simp only [Took.app, app_eq]
    rcases List.mem_append.1 hB with hB | hB
    · obtain ⟨i, hi, h⟩ := q3 B hB; exact ⟨i, by simp [hi], h⟩
    · obtain ⟨i, hi, h⟩ := p3 B hB; exact ⟨i, by simp [hi], h⟩
  | rest h1 h2 =>
    intro vs hr hi ho hn
    exact ⟨[], RepO.of_rep (toV_ok (d := ⟨_, _⟩) hm hI (fun id h => hi id (mem_idsIn (coerce_ids h))) h2 (coerce_atr hr)), by simp, by simp⟩

end
end Go.Ab
namespace Go.Ab
section
variable {P : Program} {F : Fix} {C : Cx} {o : Oper} {a : Act} {w w' : World} {m m' : MF} {I I' : Nat → Prop} {ρ ρ' : Pl} {d : Did}
variable {n : Nat} {K : Keep} {st st' : St}

def resSem (tmps : Array Value) : ResultVar → Sem Value
  | .tmp t => pure (tmps.getD t Go.undef)
  | .cell a t => do loadVar t (← asAddr (tmps.getD a Go.undef))

theorem loadRes_ok {C : Cx} {tmps : Array Value} (hC : CxOk P C) (hm : MemR F (find st.mem) w I ρ) (he : ∀ s av, find st.env s = some av → SlotR w I (find st.mem) ρ av (tmps.getD s Go.undef))
    {r : ResultVar} {x : AT} (h : loadRes C st r = some x) : ∃ v, (resSem tmps r).run P w = .ok v w ∧ SlotR w I (find st.mem) ρ x v := by
  cases r with
  | tmp s => exact ⟨_, rfl, he s x h⟩
  | cell s T =>
    simp only [loadRes] at h
    split at h
    · rename_i id s0 u hs hu
      split at h
      · rename_i st0 fz t a hcur
        obtain ⟨h1, h2⟩ := bif_some h
        cases h2
        have := Ty.is_eq h1
        subst this
        have hT := hC.ty hu
        obtain ⟨hb, hst⟩ := cur_some hcur
        have hx' := slot_one (a := .vptr id s0 []) rfl (he s _ hs) (by simp) (by simp) (by simp) (by simp)
        simp only [ATR] at hx'
        obtain ⟨_, B, hρ, hv⟩ := hx'.2.2 _ hb hst t x rfl
        simp only [List.cons.injEq, and_true, Ty.off] at hv
        have hblk := hm.blk id _ hb
        simp only [BlkR] at hblk
        obtain ⟨ht, B', cs, f1, f2, f3, _⟩ := hblk
        rw [hρ] at f1
        cases f1
        have hlen := ht.length f3
        have hload := hT.run_loadVar (w := w) (B := B) (o := 0) hlen (fun j _ => by rw [Nat.zero_add]; exact f2.cell j)
        refine ⟨_, ?_, (slotR_val ht).2 (ValR.unpack ht hT f3)⟩
        simp only [resSem, hv]
        simpa [asAddr] using hload
      · cases h
    · cases h

theorem outOf_ok {C : Cx} {tmps : Array Value} (hC : CxOk P C) (hm : MemR F (find st.mem) w I ρ) (hI : ∀ B, I B → I' B) (he : ∀ s av, find st.env s = some av → SlotR w I (find st.mem) ρ av (tmps.getD s Go.undef)) :
    ∀ {rs : List ResultVar} {ws : List Want} {l : List RV} {k : Took}, outOf C st rs ws = some (l, k) →
      (∀ id ∈ k.imm, ∀ b B o, find st.mem id = some b → b.live → ρ id = some (B, o) → I' B) → (∀ id ∈ k.own, ∀ B, Mine (find st.mem) ρ id B → ¬ I' B) → k.own.Nodup →
      rs.length = ws.length ∧ ∃ vals, All2 (fun r v => (resSem tmps r).run P w = .ok v w) rs vals ∧ ∃ Bs, RetsO w I' l vals Bs ∧ Bs.Nodup ∧ ∀ B ∈ Bs, ∃ id ∈ k.own, Mine (find st.mem) ρ id B
  | [], [], l, k, h, _, _, _ => by
    simp only [outOf] at h
    cases h
    exact ⟨rfl, [], .nil, [], rfl, by simp, by simp⟩
  | [], _ :: _, l, k, h, _, _, _ => by simp [outOf] at h
  | _ :: _, [], l, k, h, _, _, _ => by simp [outOf] at h
  | r :: rs, wt :: ws, l, k, h, hi, ho, hn => by
    simp only [outOf] at h
    split at h
    · rename_i x l' k' hx hrest
      obtain ⟨v, hrun, hslot⟩ := loadRes_ok hC hm he hx
      split at h
      · -- a value
        rename_i t x2
        split at h
        · rename_i y i hy
          cases h
          simp only [Took.app, mem_app] at hi ho
          simp only [Took.app, app_eq] at hn
          have hn' := List.nodup_append.1 hn
          obtain ⟨e1, e2⟩ := toT_slot hy
          obtain ⟨cs, hv, hr⟩ := slot_pack e1 e2 hslot
          obtain ⟨B1, q1, q2, q3⟩ := toT_ok hm hI (toT_inv hy) hr (fun id h => hi id (.inl h)) (fun id h => ho id (.inl h)) hn'.1
          obtain ⟨p1, vs, p0, B2, p2, p3, p4⟩ := outOf_ok hC hm hI he hrest (fun id h => hi id (.inr h)) (fun id h => ho id (.inr h)) hn'.2.1
          refine ⟨by simp [p1], v :: vs, .cons hrun p0, B1 ++ B2, ⟨B1, B2, rfl, ⟨cs, hv, q1⟩, p2⟩, nodup_two hm hn q2 p3 q3 p4, fun B hB => ?_⟩
          simp only [Took.app, app_eq]
          rcases List.mem_append.1 hB with hB | hB
          · obtain ⟨i, hi, h⟩ := q3 B hB; exact ⟨i, by simp [hi], h⟩
          · obtain ⟨i, hi, h⟩ := p4 B hB; exact ⟨i, by simp [hi], h⟩
        · cases h
      · -- a pointer
        rename_i t id sd
        split at h
        · rename_i st0 vt b hcur
          split at h
          · rename_i y i hy
            cases h
            obtain ⟨hb, hst⟩ := cur_some hcur
            simp only at hst
            subst hst
            simp only [Took.app, app, mem_app, List.mem_cons, List.not_mem_nil, false_or, or_false] at hi ho
            simp only [Took.app, app, app_eq] at hn
            have hnc := List.nodup_cons.1 hn
            have hn' := List.nodup_append.1 hnc.2
            have hvr := slot_one (a := .vptr id st0 []) rfl hslot (by simp) (by simp) (by simp) (by simp)
            simp only [ATR] at hvr
            obtain ⟨_, B, hρ, hv⟩ := hvr.2.2 _ hb rfl vt b rfl
            simp only [List.cons.injEq, and_true, Ty.off] at hv
            have hblk := hm.blk id _ hb
            simp only [BlkR] at hblk
            obtain ⟨_, B', cs, f1, f2, f3, f4⟩ := hblk
            rw [hρ] at f1
            cases f1
            have hmine : Mine (find st.mem) ρ id B := ⟨_, 0, hb, live_of_var rfl, rfl, hρ⟩
            obtain ⟨B1, q1, q2, q3⟩ := toT_ok hm hI (toT_inv hy) f3 (fun id h => hi id (.inl h)) (fun id h => ho id (.inr (.inl h))) hn'.1
            obtain ⟨p1, vs, p0, B2, p2, p3, p4⟩ := outOf_ok hC hm hI he hrest (fun id h => hi id (.inr h)) (fun id h => ho id (.inr (.inr h))) hn'.2.1
            have hall : ∀ B' ∈ B1 ++ B2, ∃ id' ∈ app i.own k'.own, Mine (find st.mem) ρ id' B' := by
              intro B' hB'
              rw [app_eq]
              rcases List.mem_append.1 hB' with hB' | hB'
              · obtain ⟨i, hi, h⟩ := q3 B' hB'; exact ⟨i, by simp [hi], h⟩
              · obtain ⟨i, hi, h⟩ := p4 B' hB'; exact ⟨i, by simp [hi], h⟩
            refine ⟨by simp [p1], v :: vs, .cons hrun p0, B :: (B1 ++ B2), ⟨B :: B1, B2, rfl, ⟨B, cs, B1, hv, f2, ho id (.inl rfl) B hmine, q1, rfl⟩, p2⟩, ?_, ?_⟩
            · rw [List.nodup_cons]
              refine ⟨fun hin => ?_, nodup_two hm hnc.2 q2 p3 q3 p4⟩
              obtain ⟨j, hj, hmj⟩ := hall B hin
              have := hmj.inj hm hmine
              subst this
              rw [app_eq] at hj
              exact hnc.1 hj
            · intro B' hB'
              simp only [Took.app, app]
              rcases List.mem_cons.1 hB' with e | hB'
              · subst e; exact ⟨id, by simp, hmine⟩
              · obtain ⟨j, hj, hmj⟩ := hall B' hB'; exact ⟨j, by simp only [List.mem_cons]; exact .inr hj, hmj⟩
          · cases h
        · cases h
      · cases h
    · cases h

/-- an argument's block, when the call began -/
def ArgF (w0 : World) (m0 : MF) (pl : Pl) (s : Nat) : Arg → Value → Prop
  | .p d, v => ∃ B, pl (pid s) = some (B, 0) ∧ v = .pointer (some ⟨B, 0, none⟩) ∧ ∃ x, m0 (pid s) = some ⟨0, false, .var d.t.imm x⟩
  | .m t xs, v => m0 (pid s) = some ⟨0, false, .rows t xs⟩ ∧ ∃ ad cap, v = .slice ad xs.length cap ∧ xs.length ≤ cap ∧ HdrW w0 pl (pid s) t.size ad cap
  | _, _ => True

def ArgFs (w0 : World) (m0 : MF) (pl : Pl) : Nat → List Arg → List Value → Prop
  | _, [], [] => True
  | s, x :: l, v :: vs => ArgF w0 m0 pl s x v ∧ ArgFs w0 m0 pl (s + 1) l vs
  | _, _, _ => False

theorem updOf_ok {w0 : World} {m0 : MF} {pl : Pl} (hm : MemR F (find st.mem) w I ρ) (hI : ∀ B, I B → I' B)
    (hk : ∀ s b0, s < 50 → m0 (pid s) = some b0 → ∃ b, find st.mem (pid s) = some b ∧ (0 < b.st ∨ (b.st = 0 ∧ SameSh b0.c b.c ∧ ρ (pid s) = pl (pid s) ∧
      (b0.live → ∀ B o, pl (pid s) = some (B, o) → ∀ cs, Cells w0 B cs → ∃ cs', Cells w B cs' ∧ cs.length ≤ cs'.length)))) :
    ∀ {args : List Arg} {s : Nat} {vals : List Value} {us : List DV} {k : Took}, s + args.length ≤ 50 → updOf st s args = some (us, k) → ArgFs w0 m0 pl s args vals →
      (∀ id ∈ k.imm, ∀ b B o, find st.mem id = some b → b.live → ρ id = some (B, o) → I' B) → (∀ id ∈ k.own, ∀ B, Mine (find st.mem) ρ id B → ¬ I' B) → k.own.Nodup →
      ∃ Bs, UpdO w0 w I' args vals us Bs ∧ Bs.Nodup ∧ ∀ B ∈ Bs, ∃ id ∈ k.own, Mine (find st.mem) ρ id B
  | [], s, [], us, k, _, h, _, _, _, _ => by
    simp only [updOf] at h
    cases h
    exact ⟨[], rfl, by simp, by simp⟩
  | [], s, _ :: _, us, k, _, h, hf, _, _, _ => hf.elim
  | _ :: _, s, [], us, k, _, h, hf, _, _, _ => by cases hf
  | .v d :: l, s, v :: vs, us, k, hs, h, hf, hi, ho, hn => by
    simp only [updOf] at h
    obtain ⟨Bs, q⟩ := updOf_ok hm hI hk (by simp only [List.length_cons] at hs; omega) h hf.2 hi ho hn
    exact ⟨Bs, q⟩
  | .f g d :: l, s, v :: vs, us, k, hs, h, hf, hi, ho, hn => by
    simp only [updOf] at h
    obtain ⟨Bs, q⟩ := updOf_ok hm hI hk (by simp only [List.length_cons] at hs; omega) h hf.2 hi ho hn
    exact ⟨Bs, q⟩
  | .p d :: l, s, v :: vs, us, k, hs, h, hf, hi, ho, hn => by
    simp only [List.length_cons] at hs
    simp only [updOf] at h
    split at h
    · rename_i vt x r ids hb hrest
      split at h
      · rename_i y i hy
        cases h
        obtain ⟨⟨B, hpl, hv, x0, hm0⟩, hf'⟩ := hf
        obtain ⟨b, hb', hor⟩ := hk s _ (by omega) hm0
        rw [hb] at hb'
        cases hb'
        rcases hor with hor | ⟨_, hsh, hρ, _⟩
        · simp at hor
        · rw [hpl] at hρ
          have hblk := hm.blk _ _ hb
          simp only [BlkR] at hblk
          obtain ⟨_, B', cs, f1, f2, f3, f4⟩ := hblk
          rw [hρ] at f1
          cases f1
          have hmine : Mine (find st.mem) ρ (pid s) B := ⟨_, 0, hb, live_of_var rfl, rfl, hρ⟩
          simp only [Took.app, app, mem_app, List.mem_cons, List.not_mem_nil, false_or, or_false] at hi ho
          simp only [Took.app, app, app_eq] at hn
          have hnc := List.nodup_cons.1 hn
          have hn' := List.nodup_append.1 hnc.2
          obtain ⟨B1, q1, q2, q3⟩ := toT_ok hm hI (toT_inv hy) f3 (fun id h => hi id (.inl h)) (fun id h => ho id (.inr (.inl h))) hn'.1
          obtain ⟨B2, p2, p3, p4⟩ := updOf_ok hm hI hk (by omega) hrest hf' (fun id h => hi id (.inr h)) (fun id h => ho id (.inr (.inr h))) hn'.2.1
          have hall : ∀ B' ∈ B1 ++ B2, ∃ id' ∈ app i.own ids.own, Mine (find st.mem) ρ id' B' := by
            intro B' hB'
            rw [app_eq]
            rcases List.mem_append.1 hB' with hB' | hB'
            · obtain ⟨i, hi, h⟩ := q3 B' hB'; exact ⟨i, by simp [hi], h⟩
            · obtain ⟨i, hi, h⟩ := p4 B' hB'; exact ⟨i, by simp [hi], h⟩
          refine ⟨B :: (B1 ++ B2), ⟨B, cs, B1, B2, hv, f2, ho (pid s) (.inl rfl) B hmine, rfl, q1, rfl, p2⟩, ?_, ?_⟩
          · rw [List.nodup_cons]
            refine ⟨fun hin => ?_, nodup_two hm hnc.2 q2 p3 q3 p4⟩
            obtain ⟨j, hj, hmj⟩ := hall B hin
            have := hmj.inj hm hmine
            subst this
            rw [app_eq] at hj
            exact hnc.1 hj
          · intro B' hB'
            simp only [Took.app, app]
            rcases List.mem_cons.1 hB' with e | hB'
            · subst e; exact ⟨pid s, by simp, hmine⟩
            · obtain ⟨j, hj, hmj⟩ := hall B' hB'; exact ⟨j, by simp only [List.mem_cons]; exact .inr hj, hmj⟩
      · cases h
    · cases h
  | .m t xs :: l, s, v :: vs, us, k, hs, h, hf, hi, ho, hn => by
    simp only [List.length_cons] at hs
    simp only [updOf] at h
    split at h
    · rename_i ys r ids hr hrest
      cases h
      obtain ⟨⟨hm0, ad, cap, hv, hcap, hhdr⟩, hf'⟩ := hf
      have hb := rowsOf_some hr
      obtain ⟨b, hb', hor⟩ := hk s _ (by omega) hm0
      rw [hb] at hb'
      cases hb'
      rcases hor with hor | ⟨_, hsh, hρ, hgrow⟩
      · simp at hor
      · have hlen : xs.length = ys.length := hsh.2
        have hblk := hm.blk _ _ hb
        simp only [BlkR] at hblk
        obtain ⟨_, hblk⟩ := hblk
        simp only [Took.app, app, mem_app, List.mem_cons, List.not_mem_nil, false_or, or_false] at hi ho
        simp only [Took.app, app, app_eq] at hn
        have hnc := List.nodup_cons.1 hn
        obtain ⟨B2, p2, p3, p4⟩ := updOf_ok hm hI hk (by omega) hrest hf' hi (fun id h => ho id (.inr h)) hnc.2
        rcases hhdr with ⟨e1, e2, e3⟩ | ⟨B, o0, cs, e1, e2, e3, e4⟩
        · -- no block
          refine ⟨B2, ⟨ys, [], B2, rfl, hlen.symm, ⟨ad, cap, by rw [hv, hlen], by omega, .inl ⟨e1, e2, rfl⟩⟩, rfl, by simp, p2⟩, p3, fun B hB => ?_⟩
          obtain ⟨j, hj, h⟩ := p4 B hB
          exact ⟨j, by simp only [Took.app, app, List.mem_cons]; exact .inr hj, h⟩
        · rw [e1] at hρ
          obtain ⟨cs2, g1, g2⟩ := hgrow (live_of_rows rfl) B o0 e1 cs e3
          rcases hblk with ⟨_, hno⟩ | ⟨B', o', cs', f1, f2, f3, f4, f5⟩
          · rw [hno] at hρ; cases hρ
          · rw [hρ] at f1
            cases f1
            have hmine : Mine (find st.mem) ρ (pid s) B := ⟨_, o0, hb, live_of_rows rfl, rfl, hρ⟩
            have hlen2 : cs'.length = cs2.length := by rw [f2.unique g1]
            refine ⟨B :: B2, ⟨ys, [B], B2, rfl, hlen.symm, ⟨ad, cap, by rw [hv, hlen], by omega, .inr ⟨B, o0, cs', e2, f2, by omega, f4.mono (fun _ => rfl) (fun x vs h => RepC.mono ⟨hI, fun _ _ => rfl⟩ h), ho (pid s) (.inl rfl) B hmine, rfl⟩⟩, rfl, ?_, p2⟩, ?_, ?_⟩
            · intro B' hB' cs3 hcs3
              simp only [List.mem_singleton] at hB'
              subst hB'
              have : cs3.length = cs.length := by rw [hcs3.unique e3]
              exact ⟨cs2, g1, by omega⟩
            · rw [List.nodup_cons]
              refine ⟨fun hin => ?_, p3⟩
              obtain ⟨j, hj, hmj⟩ := p4 B hin
              have := hmj.inj hm hmine
              subst this
              exact hnc.1 hj
            · intro B' hB'
              simp only [Took.app, app]
              rcases List.mem_cons.1 hB' with e | hB'
              · subst e; exact ⟨pid s, by simp, hmine⟩
              · obtain ⟨j, hj, hmj⟩ := p4 B' hB'; exact ⟨j, by simp only [List.mem_cons]; exact .inr hj, hmj⟩
    · cases h

end
end Go.Ab
namespace Go.Ab
section
variable {P : Program} {F : Fix} {C : Cx} {o : Oper} {a : Act} {w w' : World} {m m' : MF} {I I' : Nat → Prop} {ρ ρ' : Pl} {d : Did}
variable {n : Nat} {K : Keep} {st st' : St}

/-! ### arguments, as the callee's state has them -/
def argsEnv : Nat → List Arg → List (Nat × AT)
  | _, [] => []
  | s, x :: l => (s, (argAT s x).1) :: argsEnv (s + 1) l
def argsMem : Nat → List Arg → Mem
  | _, [] => []
  | s, x :: l => app (argAT s x).2 (argsMem (s + 1) l)

theorem app_assoc' {α : Type} (x y z : List α) : app (app x y) z = app x (app y z) := by simp [app_eq]
theorem app_nil' {α : Type} (x : List α) : app x [] = x := by simp [app_eq]

theorem argsSt_eq : ∀ (args : List Arg) (s : Nat) (st : St), argsSt s args st = ⟨app st.env (argsEnv s args), app st.mem (argsMem s args), st.ok⟩
  | [], s, st => by simp [argsSt, argsEnv, argsMem, app_nil']
  | x :: l, s, st => by
    simp only [argsSt, argsEnv, argsMem]
    rw [argsSt_eq l]
    simp only [app_assoc', app]

theorem injM_st : ∀ {t : Ty} {x : t.den} {n i : Nat} {b : Blk}, (i, b) ∈ (injM (fun _ => none) t x n).2.1 → b.st = 0 := by
  intro t
  induction t with
  | own u ih => intro x n i b h; simp only [injM, List.mem_singleton, Prod.mk.injEq] at h; obtain ⟨_, rfl⟩ := h; rfl
  | pair u v ihu ihv =>
    intro x n i b h
    simp only [injM] at h
    cases hh : (Ty.pair u v).hasOwn with
    | false => rw [hh] at h; simp at h
    | true =>
      rw [hh] at h
      simp only [cond_true, mem_app] at h
      rcases h with h | h
      · exact ihu h
      · exact ihv h
  | _ => intro x n i b h; simp [injM] at h

theorem argsMem_st : ∀ {args : List Arg} {s i : Nat} {b : Blk}, (i, b) ∈ argsMem s args → b.st = 0
  | [], s, i, b, h => by simp [argsMem] at h
  | x :: l, s, i, b, h => by
    simp only [argsMem, mem_app] at h
    rcases h with h | h
    · cases x with
      | v d => exact injM_st h
      | p d =>
        simp only [argAT, List.mem_cons, Prod.mk.injEq] at h
        rcases h with ⟨_, rfl⟩ | h
        · rfl
        · exact injM_st h
      | m t xs => simp only [argAT, List.mem_singleton, Prod.mk.injEq] at h; obtain ⟨_, rfl⟩ := h; rfl
      | f g d => simp [argAT] at h
    · exact argsMem_st h

theorem injM_nw : ∀ (t : Ty) (x : t.den) (n : Nat), ∀ A b, (injM m t x n).1 ≠ .when_ A b := by
  intro t x n A b h
  cases t with
  | pair u v =>
    simp only [injM] at h
    cases hh : (Ty.pair u v).hasOwn <;> rw [hh] at h <;> cases h
  | _ => cases h

theorem argAT_nw (s : Nat) (x : Arg) : ∀ A b, (argAT s x).1 ≠ .when_ A b := by
  intro A b h
  cases x with
  | v d => exact injM_nw _ _ _ A b h
  | _ => cases h

theorem argsEnv_find : ∀ {args : List Arg} {s t : Nat} {x : AT}, find (argsEnv s args) t = some x → ∃ k y, args[k]? = some y ∧ t = s + k ∧ x = (argAT t y).1
  | [], s, t, x, h => by simp [argsEnv, find] at h
  | y :: l, s, t, x, h => by
    simp only [argsEnv, find_cons] at h
    split at h
    · rename_i e
      cases h
      subst e
      exact ⟨0, y, rfl, rfl, rfl⟩
    · obtain ⟨k, z, h1, h2, h3⟩ := argsEnv_find h
      exact ⟨k + 1, z, by simpa using h1, by omega, h3⟩

theorem capsAT_ok : ∀ {t : Ty} {x : t.den} {vs : List Value}, CapsO w I t x vs → ATR w I m ρ (capsAT t x) vs
  | .pair a b, x, vs, h => by
    simp only [CapsO] at h
    obtain ⟨v, l, e, _, h1, h2⟩ := h
    exact ⟨v, l, e, h1, capsAT_ok h2⟩
  | .unit, _, vs, h => h

theorem injM_slot {t : Ty} {x : t.den} {n : Nat} {cs : List Value} (h : ATR w I m ρ (injM m' t x n).1 cs) (hl : cs.length = t.size) : SlotR w I m ρ (injM m' t x n).1 (packV t cs) := by
  have ht := inj_typed m' t x n
  refine (slotR_val ht).2 ?_
  have ha : (injM m' t x n).1.isAgg = t.isAgg := by
    cases t with
    | pair u v =>
      simp only [injM]
      cases hh : (Ty.pair u v).hasOwn <;> rfl
    | _ => rfl
  unfold ValR packV
  rw [ha]
  cases hh : t.isAgg with
  | true => exact ⟨cs.toArray, rfl, h⟩
  | false =>
    simp only [Bool.false_eq_true, if_false]
    have hsz : t.size = 1 := by cases t <;> simp_all [Ty.isAgg, Ty.size]
    rw [hsz] at hl
    obtain ⟨v, rfl⟩ := List.length_eq_one_iff.1 hl
    exact h

/-- one argument -/
theorem arg_ok {x : Arg} {s : Nat} {v : Value} {Bs : List Nat} (h : ArgO w I x v Bs) (hn : Bs.Nodup) (hI : ∀ B ∈ Bs, ¬ I B) (hk : ((argAT s x).2.map (·.1)).Nodup) :
    ∃ pl, New w I (argAT s x).2 Bs pl ∧ (∀ m' ρ', Fits (argAT s x).2 pl m' ρ' → SlotR w I m' ρ' (argAT s x).1 v) ∧ ArgF w (find (argAT s x).2) pl s x v := by
  cases x with
  | v d =>
    obtain ⟨cs, hv, hr⟩ := h
    obtain ⟨pl, h1, h2⟩ := inj_ok (fun _ => none) ((pid s + 1) * 1000) hr hn
    refine ⟨pl, h1.new, fun m' ρ' hf => ?_, trivial⟩
    subst hv
    exact injM_slot (h2 m' ρ' hf) hr.length
  | p d =>
    obtain ⟨B, cs, B1, hv, hc, hB, hr, e⟩ := h
    subst e hv
    have hn' := List.nodup_cons.1 hn
    obtain ⟨pl, h1, h2⟩ := inj_ok (fun _ => none) ((pid s + 1) * 1000) hr hn'.2
    have hno : find (injM (fun _ => none) d.t d.x ((pid s + 1) * 1000)).2.1 (pid s) = none := by
      cases hf : find (injM (fun _ => none) d.t d.x ((pid s + 1) * 1000)).2.1 (pid s) with
      | none => rfl
      | some b =>
        have := (h1.rng _ _ hf).1
        have : pid s < (pid s + 1) * 1000 := by unfold pid; omega
        omega
    have hnew := New.var (st := 0) h1.new hc hB hn'.1 hno (inj_typed _ _ _ _) h2
    refine ⟨_, hnew, fun m' ρ' hf => ?_, B, ?_, rfl, (injM (fun _ => none) d.t d.x ((pid s + 1) * 1000)).1, ?_⟩
    · have hb := hf (pid s) ⟨0, false, .var d.t.imm (injM (fun _ => none) d.t d.x ((pid s + 1) * 1000)).1⟩ (by simp only [argAT, find_cons, if_true])
      obtain ⟨hb1, hb2⟩ := hb
      have hp : (Pl.put pl (pid s) (some (B, 0))) (pid s) = some (B, 0) := by simp [Pl.put]
      rw [hp] at hb2
      refine ⟨⟨_, rfl, rfl⟩, ⟨_, hb1, Nat.le_refl _⟩, fun b hb' hst t x hx => ?_⟩
      rw [hb1] at hb'
      cases hb'
      cases hx
      exact ⟨trivial, B, hb2, by simp [Ty.off]⟩
    · simp [Pl.put]
    · simp only [argAT, find_cons, if_true]
  | m t xs =>
    obtain ⟨ad, cap, hv, hcap, hor⟩ := h
    simp only [List.cons.injEq, and_true] at hv
    subst hv
    have hfind : find (argAT s (.m t xs)).2 (pid s) = some ⟨0, false, .rows t xs⟩ := by simp only [argAT, find_cons, if_true]
    rcases hor with ⟨e1, e2, e3⟩ | ⟨B, o', cs, e1, e2, e3, e4, e5, e6⟩
    · have hx : xs = [] := by
        cases xs with
        | nil => rfl
        | cons y ys => simp at hcap; omega
      subst hx e1 e2 e3
      refine ⟨fun _ => none, New.single rfl (live_of_rows rfl) (fun m' ρ' hp => ⟨trivial, .inl ⟨rfl, hp⟩⟩) (fun B o h => by cases h), fun m' ρ' hf => ?_, ?_, _, _, rfl, Nat.le_refl _, .inl ⟨rfl, rfl, rfl⟩⟩
      · obtain ⟨hb1, hb2⟩ := hf (pid s) _ hfind
        refine ⟨⟨_, rfl, rfl⟩, ⟨_, hb1, Nat.zero_le _⟩, fun b hb' hst u ys hy => ?_⟩
        rw [hb1] at hb'
        cases hb'
        cases hy
        exact ⟨none, 0, rfl, Nat.le_refl _, .inl ⟨rfl, rfl, hb2⟩⟩
      · simp only [argAT, find_cons, if_true]
    · subst e1 e6
      have hmul : xs.length * t.size ≤ cap * t.size := Nat.mul_le_mul_right _ hcap
      refine ⟨fun _ => some (B, o'), New.single rfl (live_of_rows rfl) (fun m' ρ' hp => ⟨trivial, .inr ⟨B, o', cs, hp, e2, by omega, e4, by simp [e5]⟩⟩) (fun B' o'' h => by cases h; simp), fun m' ρ' hf => ?_, ?_, _, _, rfl, hcap, .inr ⟨B, o', cs, rfl, rfl, e2, e3⟩⟩
      · obtain ⟨hb1, hb2⟩ := hf (pid s) _ hfind
        refine ⟨⟨_, rfl, rfl⟩, ⟨_, hb1, Nat.zero_le _⟩, fun b hb' hst u ys hy => ?_⟩
        rw [hb1] at hb'
        cases hb'
        cases hy
        exact ⟨_, cap, rfl, hcap, .inr ⟨B, o', cs, hb2, rfl, e2, e3⟩⟩
      · simp only [argAT, find_cons, if_true]
  | f g d =>
    obtain ⟨e, caps, hv, hc⟩ := h
    subst e hv
    refine ⟨fun _ => none, New.nil _, fun m' ρ' _ => ?_, trivial⟩
    simp only [argAT, SlotR, ValR, AT.isAgg]
    exact ⟨caps, rfl, capsAT_ok hc⟩

theorem argF_mono {m1 m2 : MF} {p1 p2 : Pl} {s : Nat} {x : Arg} {v : Value} (h : ArgF w m1 p1 s x v) (hm : ∀ b, m1 (pid s) = some b → m2 (pid s) = some b ∧ p2 (pid s) = p1 (pid s)) : ArgF w m2 p2 s x v := by
  cases x with
  | p d =>
    obtain ⟨B, h1, h2, y, h3⟩ := h
    obtain ⟨k1, k2⟩ := hm _ h3
    exact ⟨B, k2.trans h1, h2, y, k1⟩
  | m t xs =>
    obtain ⟨h3, ad, cap, e1, e2, e3⟩ := h
    obtain ⟨k1, k2⟩ := hm _ h3
    exact ⟨k1, ad, cap, e1, e2, e3.to k2⟩
  | _ => trivial

theorem argFs_mono {m1 m2 : MF} {p1 p2 : Pl} (hm : ∀ i b, m1 i = some b → m2 i = some b ∧ p2 i = p1 i) : ∀ {l : List Arg} {s : Nat} {vs : List Value}, ArgFs w m1 p1 s l vs → ArgFs w m2 p2 s l vs
  | [], _, [], _ => trivial
  | [], _, _ :: _, h => h.elim
  | _ :: _, _, [], h => by cases h
  | _ :: _, _, _ :: _, h => ⟨argF_mono h.1 fun b hb => hm _ b hb, argFs_mono hm h.2⟩

theorem args_ok : ∀ {args : List Arg} {s : Nat} {vals : List Value} {Bs : List Nat}, ArgsO w I args vals Bs → Bs.Nodup → (∀ B ∈ Bs, ¬ I B) → ((argsMem s args).map (·.1)).Nodup →
    ∃ pl, New w I (argsMem s args) Bs pl ∧ (∀ m' ρ', Fits (argsMem s args) pl m' ρ' → ∀ k x v, args[k]? = some x → vals[k]? = some v → SlotR w I m' ρ' (argAT (s + k) x).1 v) ∧ ArgFs w (find (argsMem s args)) pl s args vals ∧ args.length = vals.length
  | [], s, [], Bs, h, _, _, _ => by
    cases h
    exact ⟨fun _ => none, New.nil _, fun m' ρ' _ k x v hx => by simp at hx, trivial, rfl⟩
  | [], s, _ :: _, Bs, h, _, _, _ => h.elim
  | _ :: _, s, [], Bs, h, _, _, _ => by cases h
  | x :: l, s, v :: vs, Bs, h, hn, hI, hk => by
    obtain ⟨B1, B2, e, h1, h2⟩ := h
    subst e
    have hn' := List.nodup_append.1 hn
    obtain ⟨k1, k2, k3⟩ := keys_app (l1 := (argAT s x).2) (l2 := argsMem (s + 1) l) hk
    obtain ⟨p1, q1, q2, q3⟩ := arg_ok (s := s) h1 hn'.1 (fun B hB => hI B (by simp [hB])) k1
    obtain ⟨p2, r1, r2, r3, r4⟩ := args_ok (s := s + 1) h2 hn'.2.1 (fun B hB => hI B (by simp [hB])) k2
    have hnew := New.app q1 r1 hn k3
    refine ⟨_, hnew, fun m' ρ' hf k y u hy hu => ?_, ⟨?_, ?_⟩, by simp [r4]⟩
    · cases k with
      | zero =>
        simp only [List.getElem?_cons_zero, Option.some.injEq] at hy hu
        subst hy hu
        exact q2 m' ρ' (Fits.left hf)
      | succ k =>
        have := r2 m' ρ' (Fits.right k3 hf) k y u (by simpa using hy) (by simpa using hu)
        rw [show s + (k + 1) = s + 1 + k by omega]
        exact this
    · refine argF_mono q3 fun b hb => ?_
      simp only [argsMem, find_app, hb, plApp]
      exact ⟨trivial, trivial⟩
    · refine argFs_mono (fun i b hb => ?_) r3
      have : find (argAT s x).2 i = none := by
        cases hf : find (argAT s x).2 i with
        | none => rfl
        | some c => exact (k3 i c b hf hb).elim
      simp only [argsMem, find_app, this, plApp]
      exact ⟨hb, trivial⟩

end
end Go.Ab
namespace Go.Ab
section
variable {P : Program} {F : Fix} {C : Cx} {o : Oper} {a : Act} {w w' : World} {m m' : MF} {I I' : Nat → Prop} {ρ ρ' : Pl} {d : Did}
variable {n : Nat} {K : Keep} {st st' : St}

def resOf : List Value → Value
  | [v] => v
  | l => .tuple l.toArray

theorem run_results {fn : Func} {tmps : Array Value} {vals : List Value} (hr : All2 (fun r v => (resSem tmps r).run P w = .ok v w) fn.results.toList vals) (hl : fn.results.toList.length ≤ 3) :
    (results fn tmps).run P w = .ok (resOf vals) w := by
  have hres : results fn tmps = (do let vs ← fn.results.mapM (resSem tmps); pure (if h : vs.size = 1 then vs[0] else .tuple vs)) := by
    unfold results
    congr 1
  rw [hres]
  generalize hx : fn.results.toList = l at hr hl
  have he : fn.results = l.toArray := by apply Array.ext'; simp [hx]
  rw [he]
  cases hr with
  | nil => simp [resOf]
  | cons h1 hr =>
    cases hr with
    | nil => simp [resOf, h1]
    | cons h2 hr =>
      cases hr with
      | nil => simp [resOf, h1, h2]
      | cons h3 hr =>
        cases hr with
        | nil => simp [resOf, h1, h2, h3]
        | cons _ _ => simp at hl

theorem outO_of {outs : List RV} {vals : List Value} {Bs : List Nat} (h : RetsO w I outs vals Bs) : OutO w I outs (resOf vals) Bs := by
  rcases outs with _ | ⟨x, _ | ⟨y, l⟩⟩
  · cases vals with
    | nil => exact ⟨#[], rfl, h⟩
    | cons _ _ => exact h.elim
  · rcases vals with _ | ⟨v, _ | ⟨u, vs⟩⟩
    · exact h.elim
    · obtain ⟨B1, B2, e, h1, h2⟩ := h
      cases h2
      simp only [List.append_nil] at e
      subst e
      exact h1
    · obtain ⟨B1, B2, e, h1, h2⟩ := h
      exact h2.elim
  · rcases vals with _ | ⟨v, _ | ⟨u, vs⟩⟩
    · exact h.elim
    · obtain ⟨B1, B2, e, h1, h2⟩ := h
      exact h2.elim
    · exact ⟨(v :: u :: vs).toArray, rfl, h⟩

/-- from a run whose end is well, the contract -/
theorem evK_ok {α : Type} {r : α} {Kt : Ex → St → Option α} {c : Code} {fn : Func} {f : FuncId} {lt : List (Nat × LoopD)} {args : List Arg} {ws : List Want} {outs : List RV} {upds : List DV} {ok : List Bool} (hm : P.follows .mixedOrders = true) (hC : CxOk P C) (hF : FnOk P C)
    (hf : P.funcs[f]? = some fn) (hbody : fn.body = some c) (hlo : LoopsOk C lt c) (hco : codeOk fn.ntmps c = true) (hlen : args.length ≤ fn.ntmps) (hlen50 : args.length ≤ 50) (hws : ws.length ≤ 3) (hnd : ((argsMem 0 args).map (·.1)).Nodup)
    (hev : evC C lt c Kt ⟨argsEnv 0 args, argsMem 0 args, []⟩ = some r) (hK : ∀ e st, Kt e st = some r → (∀ i, e ≠ .exit i) ∧ finish C fn args ws st = some (outs, upds)) : Holds P f args ⟨outs, upds, ok⟩ := by
  intro w I vals Bs hI hargs hBn hBI
  · obtain ⟨pl, hnew, hslots, hfs, hlv⟩ := args_ok hargs hBn hBI hnd
    let F : Fix := ⟨w, I, fun B => B ∈ Bs⟩
    let m0 : MF := find (argsMem 0 args)
    let K : Keep := ⟨fun i => bif isPid i then m0 i else none, pl, w, fun id b hb => by
      cases hp : isPid id with
      | true => rfl
      | false => rw [hp] at hb; cases hb⟩
    have hfits : Fits (argsMem 0 args) pl m0 pl := fun j c hc => ⟨hc, rfl⟩
    have hinv : Inv F fn.ntmps K ⟨argsEnv 0 args, argsMem 0 args, []⟩ { tmps := vals.toArray ++ Array.replicate (fn.ntmps - vals.toArray.size) Go.undef, defers := [] } w := by
      refine ⟨⟨I, pl, ⟨?_, ?_, ?_, rfl, ?_⟩⟩, ?_⟩
      · refine ⟨fun id b hb => (hnew.blk id b hb).2.2 m0 pl hfits, fun id id' b b' B o o' h1 h2 _ _ h5 h6 => hnew.one id id' b b' B o o' h1 h2 h5 h6, hI, fun _ h => h, fun _ h => .inl h,
          fun id b B o h1 _ h3 => .inr (hnew.src id b B o h1 h3), fun _ _ _ => rfl, Nat.le_refl _, rfl, rfl, rfl⟩
      · intro s av hav
        obtain ⟨k, x, h1, h2, h3⟩ := argsEnv_find hav
        simp only [Nat.zero_add] at h2
        subst h2 h3
        have hk : s < args.length := (List.getElem?_eq_some_iff.1 h1).1
        have hv : vals[s]? = some vals[s] := by simp [show s < vals.length by omega]
        have := hslots m0 pl hfits s x _ h1 hv
        simp only [Nat.zero_add] at this
        have hget : (vals.toArray ++ Array.replicate (fn.ntmps - vals.toArray.size) Go.undef).getD s Go.undef = vals[s] := by
          simp [Array.getElem?_append, show s < vals.length by omega]
        rw [hget]
        exact this
      · simp; omega
      · intro id b0 hb0
        cases hp : isPid id with
        | false => simp only [K, hp] at hb0; cases hb0
        | true =>
          simp only [K, hp, cond_true] at hb0
          exact ⟨b0, hb0, .inr ⟨argsMem_st (find_mem hb0), SameSh.refl _, rfl, fun _ _ _ _ cs hc => ⟨cs, hc, Nat.le_refl _⟩⟩⟩
      · intro s A b hf'
        obtain ⟨k, x, _, _, h3⟩ := argsEnv_find hf'
        exact argAT_nw _ _ A b h3.symm
    refine calls_of_wp hf hbody (evC_ok hm hC hF c hco hlo hinv hev ?_)
    · intro e st' a' w' he hi'
      obtain ⟨hne, hfin⟩ := hK e st' he
      unfold finish at hfin
      split at hfin
      · rename_i o i u j ho hu
        obtain ⟨hb, h2⟩ := bif_some hfin
        obtain ⟨_, h3⟩ := bif_some h2
        cases h3
        simp only [Bool.and_eq_true, nodup_spec] at hb
        obtain ⟨hown, himm⟩ := hb
        simp only [Took.app, app_eq] at hown himm
        have hown' := List.nodup_append.1 hown
        obtain ⟨⟨I2, ρ2, hi⟩, _⟩ := hi'
        let I3 := Ifrz (find st'.mem) ρ2 I2 (i.imm ++ j.imm)
        have hfz := Done.freeze hi.mem (i.imm ++ j.imm)
        have hImm : ∀ id ∈ i.imm ++ j.imm, ∀ b B o, find st'.mem id = some b → b.live → ρ2 id = some (B, o) → I3 B := fun id hid b B o h1 h2 h3 => .inr ⟨id, hid, b, o, h1, h2, h3⟩
        have hOwn : ∀ id ∈ i.own ++ j.own, ∀ B, Mine (find st'.mem) ρ2 id B → ¬ I3 B := by
          rintro id hid B ⟨b, o', h1, h2, h3, h4⟩ (hIB | ⟨k, hk, bk, ok', k1, k2, k3⟩)
          · have hblk := hi.mem.blk id b h1
            unfold BlkR at hblk
            unfold Blk.live at h2
            cases hc : b.c with
            | dead => simp [hc] at h2
            | var t x =>
              simp only [hc] at hblk
              obtain ⟨_, B', cs, e1, _, _, e2⟩ := hblk
              rw [h4] at e1; cases e1
              rw [e2.2 hIB] at h3; cases h3
            | rows t ys =>
              simp only [hc] at hblk
              rcases hblk.2 with ⟨_, e1⟩ | ⟨B', o'', cs, e1, _, _, _, e2⟩
              · rw [h4] at e1; cases e1
              · rw [h4] at e1; cases e1
                rw [e2.2 hIB] at h3; cases h3
          · have := hi.mem.inj id k b bk B o' ok' h1 k1 h2 k2 h4 k3
            subst this
            have := allL_mem himm id hk
            simp only [Bool.not_eq_true'] at this
            rw [anyL_beq.2 hid] at this
            cases this
        obtain ⟨p1, rvs, p0, Ys, p2, p3, p4⟩ := outOf_ok (I' := I3) hC hi.mem (fun _ h => .inl h) hi.env ho (fun id h => hImm id (by simp [h])) (fun id h => hOwn id (by simp [h])) hown'.1
        have hkept : ∀ s b0, s < 50 → m0 (pid s) = some b0 → ∃ b, find st'.mem (pid s) = some b ∧ (0 < b.st ∨ (b.st = 0 ∧ SameSh b0.c b.c ∧ ρ2 (pid s) = pl (pid s) ∧
            (b0.live → ∀ B o, pl (pid s) = some (B, o) → ∀ cs, Cells w B cs → ∃ cs', Cells w' B cs' ∧ cs.length ≤ cs'.length))) := by
          intro s b0 hs hb0
          refine hi.kept (pid s) b0 ?_
          have hp : isPid (pid s) = true := by
            unfold isPid pid
            rw [Bool.and_eq_true]
            exact ⟨Nat.ble_eq_true_of_le (by omega), Nat.ble_eq_true_of_le (by omega)⟩
          simp only [K, hp, cond_true]
          exact hb0
        obtain ⟨Zs, z1, z2, z3⟩ := updOf_ok (w0 := w) (m0 := m0) (pl := pl) (I' := I3) hi.mem (fun _ h => .inl h) hkept (s := 0) (by omega) hu hfs (fun id h => hImm id (by simp [h])) (fun id h => hOwn id (by simp [h])) hown'.2.1
        have hmine : ∀ B ∈ Ys ++ Zs, ∃ id ∈ i.own ++ j.own, Mine (find st'.mem) ρ2 id B := by
          intro B hB
          rcases List.mem_append.1 hB with hB | hB
          · obtain ⟨k, hk, h⟩ := p4 B hB; exact ⟨k, by simp [hk], h⟩
          · obtain ⟨k, hk, h⟩ := z3 B hB; exact ⟨k, by simp [hk], h⟩
        have hres := run_results (fn := fn) p0 (by rw [p1]; exact hws)
        have hpost : a'.defers = [] ∧ ∃ v, (results fn a'.tmps).run P w' = .ok v w' ∧ (fun e w' => ∃ v I' Ys Zs, e = Ending.returned v ∧ OutO w' I' outs v Ys ∧ UpdO w w' I' args vals upds Zs ∧ (Ys ++ Zs).Nodup ∧
            (∀ B ∈ Ys ++ Zs, (B ∈ Bs ∨ w.heap.size ≤ B) ∧ ¬ I' B) ∧ Agree I I' w w' ∧ (∀ B, I' B → B < w'.heap.size ∧ (I B ∨ w.heap.size ≤ B ∨ B ∈ Bs)) ∧
            (∀ B, B < w.heap.size → ¬ B ∈ Bs → w'.heap[B]? = w.heap[B]?) ∧ w.heap.size ≤ w'.heap.size ∧ w'.os = w.os ∧ w'.tape = w.tape ∧ w'.output = w.output) (.returned v) w' := by
          refine ⟨hi.defers, _, hres, _, I3, Ys, Zs, rfl, outO_of p2, z1, nodup_two hi.mem hown p3 z2 p4 z3, fun B hB => ?_, ⟨fun B h => .inl (hi.mem.imm0 B h), fun B h => ?_⟩, fun B h => ⟨hfz.mem.imm B h, ?_⟩, hi.mem.frame, hi.mem.size, hi.mem.os, hi.mem.tape, hi.mem.output⟩
          · obtain ⟨id, hid, hmn⟩ := hmine B hB
            refine ⟨?_, hOwn id hid B hmn⟩
            obtain ⟨b, o', h1, h2, _, h4⟩ := hmn
            rcases hi.mem.mine id b B o' h1 h2 h4 with h | h
            · exact .inr h
            · exact .inl h
          · exact hi.mem.frame B (hI B h) fun hB => hBI B hB h
          · rcases hfz.mem.immN B h with h | h | h
            · exact .inl h
            · exact .inr (.inl h)
            · exact .inr (.inr h)
        cases e with
        | norm => exact hpost
        | ret => exact hpost
        | exit i => exact absurd rfl (hne i)
      · cases hfin

end
end Go.Ab
namespace Go.Ab
open Go.ChangeShapes Go.WideShapes Go.ChangeAt Go.RowKit
section
variable {P : Program} {F : Fix} {C : Cx} {w w' : World} {m m' : MF} {I I' : Nat → Prop} {ρ ρ' : Pl}

/-! ## a law's arguments -/
/-- what the statement's 'bulk' does -/
structure UB {H : Type} (ub : DataW H → Nat) (uba : List (DataW H) → Nat) : Prop where
  one : ∀ d, 1 ≤ ub d
  str : ∀ b, b.length + 1 ≤ ub (.lit (.string b))
  slice : ∀ e s, uba e + uba s + 1 ≤ ub (.slice e s)
  agg : ∀ p, uba p + 1 ≤ ub (.agg p)
  cons : ∀ d r, uba (d :: r) = ub d + uba r

/-- how many values and letters -/
def bulk : (t : Ty) → t.den → Nat
  | .unit, _ => 0
  | .str, s => s.length + 1
  | .lst t, xs => (xs.map (bulk t)).sum + 1
  | .pair a b, x => bulk a x.1 + bulk b x.2
  | _, _ => 1

/-- numbers are in their kind's range -/
def wfT : (t : Ty) → t.den → Prop
  | .int k, n => k.min ≤ n ∧ n ≤ k.max
  | .lst t, xs => ∀ x ∈ xs, wfT t x
  | .pair a b, x => wfT a x.1 ∧ wfT b x.2
  | _, _ => True

/-- plain data of a law's arguments -/
def Ty.given : Ty → Bool
  | .unit | .bool | .int _ | .str => true
  | .lst t => t.given
  | .pair a b => a.given && b.given
  | _ => false

theorem cellsOf_ok {t : Ty} {T : TypeId} (h : TyOk P t T) : P.cellsOf T = t.size := by
  obtain ⟨i, h1, h2, _⟩ := h.info.info
  simp [Program.cellsOf, h1, h2]

theorem pack_ok {t : Ty} {T : TypeId} {v : Value} {r : Reach} {base : Nat} (h : TyOk P t T) (hg : t.given = true) (hv : Value.okWide P w r base T v) : v = packV t v.cells.toList := by
  unfold TyOk at h
  cases t with
  | unit =>
    simp only [TO] at h
    obtain ⟨_, fs, hu, _⟩ := h
    obtain ⟨cs, rfl, _⟩ := okWide_struct hu hv
    simp [packV, Ty.isAgg, Value.cells]
  | bool =>
    simp only [TO] at h
    obtain ⟨b, rfl⟩ := okWide_bool h.2 hv
    simp [packV, Ty.isAgg, Value.cells]
  | int k =>
    simp only [TO] at h
    obtain ⟨b, rfl⟩ := okWide_int h.2 hv
    simp [packV, Ty.isAgg, Value.cells]
  | str =>
    simp only [TO] at h
    obtain ⟨b, rfl⟩ := okWide_string h.2 hv
    simp [packV, Ty.isAgg, Value.cells]
  | lst u =>
    simp only [TO] at h
    obtain ⟨_, E, hu, _⟩ := h
    obtain ⟨a, len, cap, rfl⟩ := okWide_slice hu hv
    simp [packV, Ty.isAgg, Value.cells]
  | pair a b =>
    simp only [TO] at h
    obtain ⟨_, fs, hu, _⟩ := h
    obtain ⟨cs, rfl, _⟩ := okWide_struct hu hv
    simp [packV, Ty.isAgg, Value.cells]
  | _ => simp [Ty.given] at hg

variable {H : Type} {enc : TypeId × Value → H} {ub : DataW H → Nat} {uba : List (DataW H) → Nat}

theorem take_two {α : Type} (l : List α) (o a b : Nat) : (l.drop o).take (a + b) = (l.drop o).take a ++ (l.drop (o + a)).take b := by
  rw [List.take_add, List.drop_drop]

theorem cells_get {base : Nat} {ad : Addr} {n : Nat} {cs : List Value} (h : w.cells? base ad n = some cs) (hn : 0 < n) (hs : ad.spot = none) : cs.length = n ∧ ∀ j, j < n → w.cell? ⟨ad.block, ad.off + j, none⟩ = cs[j]? := by
  obtain ⟨h1, h2, h3⟩ := World.cells?_some h
  refine ⟨h2, fun j hj => ?_⟩
  have := h3 j hj
  rw [← this]
  congr 1
  unfold Addr.add
  obtain ⟨b, o, s⟩ := ad
  simp only at hs
  subst hs
  by_cases e : j = 0 <;> simp [e]

theorem spot_none {base : Nat} {ad : Addr} {n : Nat} {cs : List Value} (h : w.cells? base ad n = some cs) (hn : 0 < n) : ad.spot = none ∧ ad.block < w.heap.size := by
  obtain ⟨h1, h2, h3⟩ := World.cells?_some h
  have h0 := h3 0 hn
  have hc : cs[0]? = some cs[0] := by simp [show 0 < cs.length by omega]
  rw [hc] at h0
  unfold World.cell? at h0
  have ha : ad.add 0 = ad := by simp [Addr.add]
  rw [ha] at h0
  split at h0
  · rename_i c e fr hb
    refine ⟨?_, ?_⟩
    · cases hs : ad.spot with
      | none => rfl
      | some _ => simp [hs] at h0
    · rcases Nat.lt_or_ge ad.block w.heap.size with hl | hl
      · exact hl
      · simp [Array.getElem?_eq_none hl] at hb
  · cases h0

theorem sum_map_le {α : Type} {f : α → Nat} : ∀ {xs : List α} {ds : List (DataW H)}, UB ub uba → xs.length = ds.length → (∀ (i : Nat) (x : α) (d : DataW H), xs[i]? = some x → ds[i]? = some d → f x ≤ ub d) → (xs.map f).sum ≤ uba ds
  | [], [], _, _, _ => by simp
  | x :: xs, d :: ds, hu, hl, h => by
    rw [hu.cons]
    simp only [List.map_cons, List.sum_cons]
    have h1 := h 0 x d rfl rfl
    have h2 := sum_map_le (xs := xs) (ds := ds) (f := f) hu (by simpa using hl) fun i y e hy he => h (i + 1) y e (by simpa using hy) (by simpa using he)
    omega
  | [], _ :: _, _, h, _ => by simp at h
  | _ :: _, [], _, h, _ => by simp at h

theorem list_build {α : Type} {Q : Nat → α → Prop} : ∀ (n : Nat), (∀ i, i < n → ∃ x, Q i x) → ∃ xs : List α, xs.length = n ∧ ∀ (i : Nat) (x : α), xs[i]? = some x → Q i x
  | 0, _ => ⟨[], rfl, fun i x h => by simp at h⟩
  | n + 1, h => by
    obtain ⟨xs, h1, h2⟩ := list_build n fun i hi => h i (by omega)
    obtain ⟨x, hx⟩ := h n (by omega)
    refine ⟨xs ++ [x], by simp [h1], fun i y hy => ?_⟩
    by_cases e : i < n
    · rw [List.getElem?_append_left (by omega)] at hy
      exact h2 i y hy
    · rw [List.getElem?_append_right (by omega)] at hy
      have : i - xs.length = 0 := by
        rcases Nat.eq_zero_or_pos (i - xs.length) with h0 | h0
        · exact h0
        · rw [List.getElem?_eq_none (by simp; omega)] at hy; cases hy
      rw [this] at hy
      simp only [List.getElem?_cons_zero, Option.some.injEq] at hy
      subst hy
      have : i = n := by omega
      subst this
      exact hx

theorem read_ok (hu : UB ub uba) : ∀ (t : Ty), t.given = true →
    (∀ (T : TypeId) (cs : List Value) (fuel : Nat) (x : DataW H × List MemPlace), TyOk P t T → DataW.trod enc P w 0 (fun _ => true) true fuel T cs = some x → ∃ y : t.den, RepC w (· < w.heap.size) t y cs ∧ wfT t y ∧ bulk t y ≤ ub x.1) ∧
    (∀ (fs : List Field) (off : Nat) (cs : List Value) (k : Nat) (xs : List (DataW H × List MemPlace)), FieldsOk P t fs off → xs.length = fs.length →
      (∀ (i : Nat) (f : Field), fs[i]? = some f → DataW.trod enc P w 0 (fun _ => true) true k f.type ((cs.drop f.offset).take (P.cellsOf f.type)) = xs[i]?) →
      ∃ y : t.den, RepC w (· < w.heap.size) t y ((cs.drop off).take t.size) ∧ wfT t y ∧ bulk t y ≤ uba (xs.map (·.1))) := by
  intro t
  induction t with
  | unit =>
    intro _
    refine ⟨fun T cs fuel x hT h => ?_, fun fs off cs k xs hf hl h => ?_⟩
    · have hc := cellsOf_ok hT
      simp only [TyOk, TO] at hT
      obtain ⟨_, fs, hu1, hfs⟩ := hT
      obtain ⟨xs, n, _, _, hl, _⟩ := DataW.trod_struct hu1 h
      rw [hc] at hl
      refine ⟨(), ?_, trivial, Nat.zero_le _⟩
      simp only [RepC]
      exact List.eq_nil_of_length_eq_zero (by simpa [Ty.size] using hl)
    · exact ⟨(), by simp [RepC, Ty.size], trivial, Nat.zero_le _⟩
  | bool =>
    intro _
    refine ⟨fun T cs fuel x hT h => ?_, fun fs off cs k xs hf => by simp [FieldsOk, TO] at hf⟩
    simp only [TyOk, TO] at hT
    obtain ⟨b, rfl, rfl⟩ := DataW.trod_bool hT.2 h
    exact ⟨b, by simp [RepC], trivial, hu.one _⟩
  | int k =>
    intro _
    refine ⟨fun T cs fuel x hT h => ?_, fun fs off cs k xs hf => by simp [FieldsOk, TO] at hf⟩
    simp only [TyOk, TO] at hT
    obtain ⟨b, rfl, rfl, hw⟩ := DataW.trod_int hT.2 h
    simp only [Lit.wf, Bool.and_eq_true, decide_eq_true_eq] at hw
    exact ⟨b, by simp [RepC], hw, hu.one _⟩
  | str =>
    intro _
    refine ⟨fun T cs fuel x hT h => ?_, fun fs off cs k xs hf => by simp [FieldsOk, TO] at hf⟩
    simp only [TyOk, TO] at hT
    obtain ⟨b, rfl, rfl, hw⟩ := DataW.trod_string hT.2 h
    exact ⟨b.data.toList, by simp [RepC], trivial, hu.str _⟩
  | lst u ih =>
    intro hg
    have ih := (ih (by simpa [Ty.given] using hg)).1
    refine ⟨fun T cs fuel x hT h => ?_, fun fs off cs k xs hf => by simp [FieldsOk, TO] at hf⟩
    obtain ⟨E, hE, hsz, hTE⟩ := tyOk_lst hT
    have hcE := cellsOf_ok hTE
    rcases DataW.trod_slice hE h with ⟨rfl, rfl⟩ | ⟨ad, len, cap, elems, rest, n, _, rfl, rfl, _, hlc, hcap, hel, hget, _⟩
    · refine ⟨[], ?_, by intro x hx; simp at hx, ?_⟩
      · simp only [RepC]
        exact ⟨none, 0, by simp, by simp, .inl trivial⟩
      · simp only [bulk, List.map_nil, List.sum_nil]; exact hu.one _
    · have hone : ∀ i, i < len → ∃ y : u.den, ∃ cs d, w.cells? 0 (ad.add (i * u.size)) u.size = some cs ∧ elems[i]? = some d ∧ RepC w (· < w.heap.size) u y cs ∧ wfT u y ∧ bulk u y ≤ ub d.1 := by
        intro i hi
        have h1 := hget i hi
        have h2 : elems[i]? = some elems[i] := by simp [show i < elems.length by omega]
        rw [h2, hcE, Option.bind_eq_some_iff] at h1
        obtain ⟨cs, h3, h4⟩ := h1
        obtain ⟨y, h5, h6, h7⟩ := ih E cs n _ hTE h4
        exact ⟨y, cs, _, h3, h2, h5, h6, h7⟩
      obtain ⟨ys, hyl, hys⟩ := list_build len hone
      refine ⟨ys, ?_, ?_, ?_⟩
      · simp only [RepC]
        refine ⟨some ad, cap, by rw [hyl], by omega, ?_⟩
        by_cases hz : len = 0
        · exact .inl (List.eq_nil_of_length_eq_zero (by omega))
        · refine .inr ?_
          obtain ⟨_, cs0, _, h0, _⟩ := hone 0 (by omega)
          have ha0 : ad.add (0 * u.size) = ad := by simp [Addr.add]
          rw [ha0] at h0
          obtain ⟨hsp, hbl⟩ := spot_none h0 hsz
          obtain ⟨B, off, sp⟩ := ad
          simp only at hsp hbl
          subst hsp
          refine ⟨B, off, rfl, hbl, fun i y hy => ?_⟩
          obtain ⟨cs, d, h1, h2, h3, _⟩ := hys i y hy
          have hadd : (⟨B, off, none⟩ : Addr).add (i * u.size) = ⟨B, off + i * u.size, none⟩ := Addr.add_at _ _ _
          rw [hadd] at h1
          obtain ⟨k1, k2⟩ := cells_get h1 hsz rfl
          exact ⟨cs, k1, k2, h3⟩
      · intro y hy
        obtain ⟨i, hi⟩ := List.getElem?_of_mem hy
        obtain ⟨_, _, _, _, _, h6, _⟩ := hys i y hi
        exact h6
      · have hs := hu.slice (elems.map (·.1)) (rest.map (·.1))
        have : (ys.map (bulk u)).sum ≤ uba (elems.map (·.1)) := by
          refine sum_map_le hu (by simp [hyl, hel]) fun i y d hy hd => ?_
          obtain ⟨_, d', _, h2, _, _, h7⟩ := hys i y hy
          simp only [List.getElem?_map, h2, Option.map_some, Option.some.injEq] at hd
          subst hd
          exact h7
        simp only [bulk]
        omega
  | pair a b iha ihb =>
    intro hg
    simp only [Ty.given, Bool.and_eq_true] at hg
    have iha := (iha hg.1).1
    have ihb := (ihb hg.2).2
    have main : ∀ (f : Field) (l : List Field) (off : Nat) (cs : List Value) (k : Nat) (xs : List (DataW H × List MemPlace)), f.offset = off → TyOk P a f.type → FieldsOk P b l (off + a.size) → xs.length = (f :: l).length →
        (∀ (i : Nat) (g : Field), (f :: l)[i]? = some g → DataW.trod enc P w 0 (fun _ => true) true k g.type ((cs.drop g.offset).take (P.cellsOf g.type)) = xs[i]?) →
        ∃ y : (Ty.pair a b).den, RepC w (· < w.heap.size) (.pair a b) y ((cs.drop off).take (a.size + b.size)) ∧ wfT (.pair a b) y ∧ bulk (.pair a b) y ≤ uba (xs.map (·.1)) := by
      intro f l off cs k xs hfo hfT hl hlen h
      cases xs with
      | nil => simp at hlen
      | cons x xs =>
        have h0 := h 0 f rfl
        simp only [List.getElem?_cons_zero] at h0
        rw [cellsOf_ok hfT, hfo] at h0
        obtain ⟨ya, q1, q2, q3⟩ := iha _ _ _ _ hfT h0
        obtain ⟨yb, p1, p2, p3⟩ := ihb l (off + a.size) cs k xs hl (by simpa using hlen) fun i g hg => by
          have := h (i + 1) g (by simpa using hg)
          simpa using this
        refine ⟨(ya, yb), ?_, ⟨q2, p2⟩, ?_⟩
        · simp only [RepC]
          exact ⟨_, _, take_two _ _ _ _, q1, p1⟩
        · simp only [bulk, List.map_cons, hu.cons]
          omega
    refine ⟨fun T cs fuel x hT h => ?_, fun fs off cs k xs hf hl h => ?_⟩
    · have hc := cellsOf_ok hT
      simp only [TyOk, TO] at hT
      obtain ⟨_, fs, hu1, f, l, hfs, hf0, hfT, hfl⟩ := hT
      obtain ⟨xs, n, _, rfl, hl, hxl, hx⟩ := DataW.trod_struct hu1 h
      rw [hc] at hl
      obtain ⟨y, h1, h2, h3⟩ := main f l 0 cs n xs hf0 hfT (by simpa [FieldsOk] using hfl) (by rw [← hfs]; simpa using hxl) (fun i g hg => hx i g (by rw [← hfs] at hg; simpa using hg))
      refine ⟨y, ?_, h2, ?_⟩
      · rw [List.drop_zero] at h1
        have e : cs.take (a.size + b.size) = cs := List.take_of_length_le (by simp only [Ty.size] at hl; omega)
        rwa [e] at h1
      · have := hu.agg (xs.map (·.1))
        simp only at h3 ⊢
        omega
    · simp only [FieldsOk, TO] at hf
      obtain ⟨f, l, rfl, hfo, hfT, hfl⟩ := hf
      exact main f l off cs k xs hfo hfT hfl hl h
  | _ => intro hg; simp [Ty.given] at hg

end
end Go.Ab
namespace Go.Ab
open Go.ChangeShapes Go.WideShapes Go.ChangeAt Go.RowKit
section
variable {P : Program} {w w' : World} {H : Type} {enc : TypeId × Value → H} {ub : DataW H → Nat} {uba : List (DataW H) → Nat}

theorem read_all (hu : UB ub uba) {base : Nat} {r : Reach} : ∀ {tys : List Ty} {ts : List TypeId} {vs : List Value} {ds : List (DataW H)} {ps : List MemPlace}, All2 (TyOk P) tys ts → (∀ t ∈ tys, t.given = true) →
    DataW.TrodAll enc P w 0 (fun _ => true) true ts vs ds ps → (∀ (j : Nat) (t : TypeId) (v : Value), ts[j]? = some t → vs[j]? = some v → Value.okWide P w r base t v) →
    ∃ dvs : List DV, dvs.map (·.t) = tys ∧ (∀ d ∈ dvs, wfT d.t d.x) ∧ (dvs.map fun d => bulk d.t d.x).sum ≤ uba ds ∧ ArgsO w (· < w.heap.size) (dvs.map .v) vs []
  | [], _, vs, ds, ps, hty, _, h, _ => by
    cases hty
    obtain ⟨rfl, rfl, _⟩ := trodAll_nil h
    exact ⟨[], rfl, by simp, by simp, rfl⟩
  | ty :: tys, _, vs, ds, ps, hty, hg, h, hv => by
    cases hty with
    | cons hT hTs =>
    rename_i T ts
    obtain ⟨v, vs', d, ds', p, q, rfl, rfl, rfl, h1, h2⟩ := trodAll_cons h
    obtain ⟨fuel, hf⟩ := h1
    have hg1 := hg ty (by simp)
    obtain ⟨y, k1, k2, k3⟩ := (read_ok (P := P) (w := w) (enc := enc) hu ty hg1).1 T _ fuel _ hT hf
    obtain ⟨dvs, q1, q2, q3, q4⟩ := read_all hu hTs (fun t ht => hg t (by simp [ht])) h2 fun j t v hj hjv => hv (j + 1) t v (by simpa using hj) (by simpa using hjv)
    have hp := pack_ok hT hg1 (hv 0 T v rfl rfl)
    refine ⟨⟨ty, y⟩ :: dvs, by simp [q1], ?_, ?_, ?_⟩
    · intro d hd
      rcases List.mem_cons.1 hd with e | hd
      · subst e; exact k2
      · exact q2 d hd
    · simp only [List.map_cons, List.sum_cons, hu.cons]
      simp only at k3
      omega
    · exact ⟨[], [], rfl, ⟨_, hp, RepO.of_rep k1⟩, q4⟩

theorem args_stay (hl : laidOutB P = true) (hb : Below w.heap.size w w') : ∀ {ts : List TypeId} {vs : List Value} {ds : List (DataW H)} {ps : List MemPlace}, (∀ t ∈ ts, P.readableRec t = true ∧ t < P.types.size) →
    DataW.TrodAll enc P w 0 (fun _ => true) true ts vs ds ps → (∀ x ∈ ps, x.block < w.heap.size) → DataW.TrodAll enc P w' 0 (fun b => decide (b < w.heap.size)) true ts vs ds ps
  | [], vs, ds, ps, _, h, _ => by
    obtain ⟨rfl, rfl, rfl⟩ := trodAll_nil h
    exact rfl
  | T :: ts, vs, ds, ps, hr, h, hlt => by
    obtain ⟨v, vs', d, ds', p, q, rfl, rfl, rfl, h1, h2⟩ := trodAll_cons h
    have := hr T (by simp)
    exact trodAll_cons_mk (Below.trod hl this.1 this.2 h1 hb fun x hx => hlt x (by simp [hx])) (args_stay hl hb (fun t ht => hr t (by simp [ht])) h2 fun x hx => hlt x (by simp [hx]))

/-- a law that always answers true -/
theorem law_ok {f : FuncId} {fn : Func} {tys : List Ty} {TB : TypeId} {s : ChangeSpec} (hu : UB ub uba) (hl : laidOutB P = true) (htys : All2 (TyOk P) tys fn.params.toList) (hg : ∀ t ∈ tys, t.given = true)
    (hr : ∀ t ∈ fn.params.toList, P.readableRec t = true ∧ t < P.types.size) (hres : fn.resultTypes = #[TB]) (hTB : P.underlying TB = some .bool) (hvars : s.vars = [])
    (hspec : ∀ ds : List (DataW H), ds.length = tys.length → (s.fn H ds).results = [.lit (.bool true)] ∧ (s.fn H ds).args = ds ∧ (s.fn H ds).vars = [])
    (hh : ∀ dvs : List DV, dvs.map (·.t) = tys → (∀ d ∈ dvs, wfT d.t d.x) → (dvs.map fun d => bulk d.t d.x).sum ≤ 1048576 → Holds P f (dvs.map .v) ⟨[.v ⟨.bool, true⟩], [], []⟩)
    {W : World} {base : Nat} {args : Array Value} {ds gs : List (DataW H)} {before : List MemPlace}
    (hval : ∀ (j : Nat) t v, fn.params[j]? = some t → args[j]? = some v → Value.okWide P W .any base t v)
    (hW : DataW.Whole enc P fn.params.toList s.vars false W args.toList ds gs before) (hk : uba (ds ++ gs) ≤ 1048576) :
    Calls P f args W fun e W' => ∃ v, e = .returned v ∧ s.post enc P fn false true false false W args v W' := by
  have hW' := hW
  obtain ⟨p, q, hA, hV, rfl, hfz, hnd⟩ := hW
  rw [hvars] at hV
  obtain ⟨rfl, rfl⟩ := trodVars_none hV
  simp only [List.append_nil] at hk hW'
  obtain ⟨dvs, q1, q2, q3, q4⟩ := read_all hu htys hg hA fun j t v hj hv => hval j t v (by simpa using hj) (by simpa using hv)
  have hlen : ds.length = tys.length := by
    have h1 : ∀ {ts : List TypeId} {vs : List Value} {ds : List (DataW H)} {ps : List MemPlace}, DataW.TrodAll enc P W 0 (fun _ => true) true ts vs ds ps → ds.length = ts.length := by
      intro ts
      induction ts with
      | nil => intro vs ds ps h; obtain ⟨_, rfl, _⟩ := trodAll_nil h; rfl
      | cons t ts ih => intro vs ds ps h; obtain ⟨_, _, _, _, _, _, _, rfl, _, _, h2⟩ := trodAll_cons h; simp [ih h2]
    have h2 : ∀ {tys : List Ty} {ts : List TypeId}, All2 (TyOk P) tys ts → tys.length = ts.length := by
      intro tys
      induction tys with
      | nil => intro ts h; cases h; rfl
      | cons t tys ih => intro ts h; cases h with | cons _ h => simp [ih h]
    rw [h1 hA, h2 htys]
  obtain ⟨s1, s2, s3⟩ := hspec ds hlen
  have hlt : ∀ x ∈ p, x.block < W.heap.size := fun x hx => by simpa using hW'.lt x hx
  have hcall := hh dvs q1 q2 (by omega) W (· < W.heap.size) args.toList [] (fun _ h => h) q4 List.nodup_nil (by simp)
  simp only [Array.toArray_toList] at hcall
  refine Calls.mono hcall fun e W2 he => ?_
  obtain ⟨v, I', Ys, Zs, rfl, hO, _, _, _, _, _, hfr, hsz, hos, htp, hout⟩ := he
  have hv : v = .bool true := by
    obtain ⟨cs, h1, h2⟩ := hO
    obtain ⟨_, h3⟩ := h2
    simp only [RepC] at h3
    subst h3
    exact h1
  subst hv
  have hbelow : Below W.heap.size W W2 := ⟨hos, htp, hout, hsz, fun k hk => hfr k hk (by simp)⟩
  refine ⟨_, rfl, ds, [], p, [], p, [], hW', ?_, ?_, ?_, hbelow.frame _, fun h => by cases h⟩
  · rw [hres, List.append_nil, s1]
    exact trodAll_cons_mk (shut_bool hTB _) trodAll_mk0
  · rw [List.append_nil, s2]
    exact args_stay hl hbelow hr hA hlt
  · rw [hvars, List.append_nil, s3]
    exact rfl

end
end Go.Ab
namespace Go.Ab
section
variable {P : Program} {F : Fix} {C : Cx} {w w' : World} {st : St} {lt : List (Nat × LoopD)}

theorem Took.ext' {a b : Took} (h1 : a.own = b.own) (h2 : a.imm = b.imm) : a = b := by cases a; cases b; simp_all

theorem outOne_ok {r : ResultVar} {wt : Want} {x : wt.den} {i : Took} (h : outOne C st r wt = some (x, i)) {rs : List ResultVar} {ws : List Want} {l : List RV} {j : Took} (hr : outOf C st rs ws = some (l, j)) :
    outOf C st (r :: rs) (wt :: ws) = some (wt.rv x :: l, i.app j) := by
  cases wt with
  | v t =>
    simp only [outOne] at h
    split at h
    · rename_i a ha
      simp only [outOf, ha, hr, h, Want.rv]
    · cases h
  | p t =>
    simp only [outOne] at h
    split at h
    · rename_i id s ha
      split at h
      · rename_i st0 vt b hc
        split at h
        · rename_i y k hy
          cases h
          simp only [outOf, ha, hr, hc, hy, Want.rv]
          refine congrArg some (congrArg (Prod.mk _) (Took.ext' ?_ ?_)) <;> simp [Took.app, app]
        · cases h
      · cases h
    · cases h

theorem Took.app_nil (i : Took) : i.app {} = i := by refine Took.ext' ?_ ?_ <;> simp [Took.app, app_nil']

theorem outT_ok : ∀ {rs : List ResultVar} {ws : List Want} {y : outsDen ws} {k : Took}, outT C st rs ws = some (y, k) → outOf C st rs ws = some (toOuts ws y, k)
  | [], [], y, k, h => by simp only [outT] at h; cases h; rfl
  | [], _ :: _, y, k, h => by simp [outT] at h
  | [r], [w], y, k, h => by
    have h' : outOne C st r w = some (y, k) := h
    have := outOne_ok h' (rs := []) (ws := []) (l := []) (j := {}) rfl
    rw [Took.app_nil] at this
    exact this
  | [_], [], y, k, h => by cases h
  | _ :: _ :: _, [], y, k, h => by cases h
  | [r], w :: u :: ws, y, k, h => by cases h
  | r :: r' :: rs, [w], y, k, h => by cases h
  | r :: r' :: rs, w :: u :: ws, y, k, h => by
    simp only [outT] at h
    split at h
    · rename_i x i y' j h1 h2
      cases h
      exact outOne_ok h1 (outT_ok h2)
    · cases h

theorem toArgs_cons (p : PT) (l : List PT) (x : argsDen (p :: l)) : ∃ (a : p.den) (as : argsDen l), toArgs (p :: l) x = p.arg a :: toArgs l as := by
  cases l with
  | nil => exact ⟨x, (), rfl⟩
  | cons q l => exact ⟨x.1, x.2, rfl⟩

theorem updT_ok : ∀ {ps : List PT} {s : Nat} {xs : argsDen ps} {u : updsDen ps} {k : Took}, updT st s ps = some (u, k) → updOf st s (toArgs ps xs) = some (toUpds ps u, k)
  | [], s, xs, u, k, h => by simp only [updT] at h; cases h; rfl
  | .v t :: l, s, xs, u, k, h => by
    obtain ⟨a, as, e⟩ := toArgs_cons (.v t) l xs
    rw [e]
    exact updT_ok (ps := l) h
  | .k t :: l, s, xs, u, k, h => by
    obtain ⟨a, as, e⟩ := toArgs_cons (.k t) l xs
    rw [e]
    exact updT_ok (ps := l) h
  | .f g t :: l, s, xs, u, k, h => by
    obtain ⟨a, as, e⟩ := toArgs_cons (.f g t) l xs
    rw [e]
    exact updT_ok (ps := l) h
  | .p t :: l, s, xs, u, k, h => by
    obtain ⟨a, as, e⟩ := toArgs_cons (.p t) l xs
    rw [e]
    simp only [updT] at h
    split at h
    · rename_i vt b r ids hb hrest
      split at h
      · rename_i x i hx
        cases h
        have := updT_ok (ps := l) (xs := as) hrest
        simp only [PT.arg, updOf, hb, this, hx, toUpds]
      · cases h
    · cases h
  | .m t :: l, s, xs, u, k, h => by
    obtain ⟨a, as, e⟩ := toArgs_cons (.m t) l xs
    rw [e]
    simp only [updT] at h
    split at h
    · rename_i ys r ids hb hrest
      cases h
      have := updT_ok (ps := l) (xs := as) hrest
      simp only [PT.arg, updOf, hb, this, toUpds]
    · cases h

theorem evT_ok {fn : Func} {f : FuncId} {ps : List PT} {ws : List Want} {xs : argsDen ps} {y : outsDen ws × updsDen ps} {ok : List Bool} (hm : P.follows .mixedOrders = true) (hC : CxOk P C) (hF : FnOk P C)
    (hf : P.funcs[f]? = some fn) (hlo : ∀ c, fn.body = some c → LoopsOk C lt c) (hev : evT C lt fn ps ws xs = some y) : Holds P f (toArgs ps xs) ⟨toOuts ws y.1, toUpds ps y.2, ok⟩ := by
  unfold evT at hev
  split at hev
  · cases hev
  · rename_i c hbody
    obtain ⟨hb, hev⟩ := bif_some hev
    simp only [Bool.and_eq_true, nodup_spec, mapL_eq] at hb
    obtain ⟨⟨⟨⟨hco, hlen⟩, hlen50⟩, hws⟩, hnd⟩ := hb
    rw [argsSt_eq] at hev hnd
    simp only [app] at hev hnd
    refine evK_ok hm hC hF hf hbody (hlo c hbody) hco (Nat.le_of_ble_eq_true hlen) (Nat.le_of_ble_eq_true hlen50) (Nat.le_of_ble_eq_true hws) hnd hev fun e st he => ?_
    have hfin : (∀ i, e ≠ .exit i) ∧ finT C fn ps ws st = some y := by
      cases e with
      | norm => exact ⟨(by intro i h; cases h), he⟩
      | ret => exact ⟨(by intro i h; cases h), he⟩
      | exit i => cases he
    refine ⟨hfin.1, ?_⟩
    have h2 := hfin.2
    unfold finT at h2
    split at h2
    · rename_i o i u j ho hu
      obtain ⟨q1, q2⟩ := bif_some h2
      obtain ⟨q3, q4⟩ := bif_some q2
      cases q4
      unfold finish
      simp only [outT_ok ho, updT_ok (xs := xs) hu, q1, q3, cond_true]
    · cases h2

/-- a contract holds -/
def ConOk (P : Program) (c : Con) : Prop := ∀ xs y, c.fn xs = some y → ∀ ok, Holds P c.id (toArgs c.ps xs) ⟨toOuts c.ws y.1, toUpds c.ps y.2, ok⟩

theorem PT.of_ok {p : PT} {a : Arg} {x : p.den} (h : p.of a = some x) : a = p.arg x := by
  cases p with
  | v t => cases a <;> first | (simp only [PT.of] at h; rw [as_some h]; rfl) | cases h
  | k t => cases a <;> first | (simp only [PT.of] at h; rw [as_some h]; rfl) | cases h
  | p t => cases a <;> first | (simp only [PT.of] at h; rw [as_some h]; rfl) | cases h
  | m t =>
    cases a with
    | m u ys =>
      simp only [PT.of] at h
      have := as_some h
      cases this
      rfl
    | _ => cases h
  | f g t =>
    cases a with
    | f g' d =>
      simp only [PT.of] at h
      obtain ⟨h1, h2⟩ := bif_some h
      rw [as_some h2, Nat.eq_of_beq_eq_true h1]
      rfl
    | _ => cases h

theorem ofArgs_ok : ∀ {ps : List PT} {as : List Arg} {xs : argsDen ps}, ofArgs ps as = some xs → as = toArgs ps xs
  | [], [], xs, _ => rfl
  | [], _ :: _, xs, h => by cases h
  | [p], [a], xs, h => by
    have := PT.of_ok (p := p) (a := a) (x := xs) h
    rw [this]
    rfl
  | [_], [], xs, h => by cases h
  | _ :: _ :: _, [], xs, h => by cases h
  | [p], _ :: _ :: _, xs, h => by cases h
  | p :: q :: l, [a], xs, h => by
    simp only [ofArgs] at h
    split at h
    · rename_i x y h1 h2; cases h2
    · cases h
  | p :: q :: l, a :: b :: as, xs, h => by
    simp only [ofArgs] at h
    split at h
    · rename_i x y h1 h2
      cases h
      rw [PT.of_ok h1]
      have := ofArgs_ok (ps := q :: l) (as := b :: as) h2
      rw [this]
      rfl
    · cases h

def fnB (P : Program) (f : FuncId) : Bool := match P.funcs[f]? with
  | some fn => !(fn.name == "runtime.NumGoroutine") && fn.body.isSome
  | none => false

theorem enters {f : FuncId} (h : fnB P f = true) (args : Array Value) (w : World) : (callFunc f args).run P w = .ok (.enter f args) w := by
  unfold fnB at h
  split at h
  · rename_i fn hf
    simp only [Bool.and_eq_true, Bool.not_eq_true'] at h
    have hb : fn.body ≠ none := by
      intro hh
      simp [hh] at h
    have hn : ¬ fn.name = "runtime.NumGoroutine" := by simpa using h.1
    simp [callFunc, hf, hn, hb]
  · cases h

theorem FnOk.nil (tab : List (Nat × TI)) : FnOk P ⟨tab, []⟩ := ⟨fun f modes den h => by simp [find] at h⟩

theorem FnOk.cons {tab : List (Nat × TI)} {fns : List (Nat × List Mode × (List Arg → Option Res))} (h : FnOk P ⟨tab, fns⟩) (c : Con) (he : fnB P c.id = true) (hv : ∀ x y, c.fn x = some y → c.val x = y) (hc : ConOk P c) : FnOk P ⟨tab, c.entry :: fns⟩ := by
  refine ⟨fun f modes den hf => ?_⟩
  simp only [Con.entry, find_cons] at hf
  split at hf
  · rename_i e
    cases hf
    subst e
    refine ⟨enters he, fun args r hr hok => ?_⟩
    simp only [Option.map_eq_some_iff] at hr
    obtain ⟨xs, hx, e⟩ := hr
    have := ofArgs_ok hx
    subst this e
    have hs := hok (isSm (c.fn xs)) (by simp [Con.res])
    cases hy : c.fn xs with
    | none => rw [hy] at hs; cases hs
    | some y =>
      unfold Con.res
      rw [hv xs y hy]
      exact hc xs y hy _
  · exact h.fns f modes den hf

/-! ### loops -/
def loopsIn : Code → List Code
  | .seq a b => app (loopsIn a) (loopsIn b)
  | .cond _ a b => app (loopsIn a) (loopsIn b)
  | .block _ c => loopsIn c
  | .scope c => loopsIn c
  | .loop c => c :: loopsIn c
  | _ => []

def LoopFact (C : Cx) (lt : List (Nat × LoopD)) (c : Code) : Prop := ∀ L, find lt (firstReg c) = some L → ∀ x, L.dom x = true → Comes (round C lt c L) x (L.val x)

theorem LoopsOk.of : ∀ {c : Code}, (∀ b ∈ loopsIn c, LoopFact C lt b) → LoopsOk C lt c := by
  intro c
  induction c with
  | seq a b iha ihb => intro h; exact ⟨iha fun x hx => h x (mem_app.2 (.inl hx)), ihb fun x hx => h x (mem_app.2 (.inr hx))⟩
  | cond _ a b iha ihb => intro h; exact ⟨iha fun x hx => h x (mem_app.2 (.inl hx)), ihb fun x hx => h x (mem_app.2 (.inr hx))⟩
  | block _ c ih => intro h; exact ih h
  | scope c ih => intro h; exact ih h
  | loop c ih => intro h; exact ⟨ih fun x hx => h x (List.mem_cons_of_mem _ hx), h c (by simp [loopsIn])⟩
  | _ => intro _; trivial

def bodyOf (fn : Func) : Code := match fn.body with
  | some c => c
  | none => .skip
def nthLoop (fn : Func) (k : Nat) : Code := match nthL (loopsIn (bodyOf fn)) k with
  | some c => c
  | none => .skip

/-- each loop of the function, in order -/
def LoopsL (C : Cx) (lt : List (Nat × LoopD)) (fn : Func) : Nat → List LoopD → Prop
  | k, [] => Nat.beq (loopsIn (bodyOf fn)).length k = true
  | k, L :: l => ((find lt (firstReg (nthLoop fn k)) = some L ∧ ∀ x, L.dom x = true → Comes (round C lt (nthLoop fn k) L) x (L.val x)) ∨ find lt (firstReg (nthLoop fn k)) = none) ∧ LoopsL C lt fn (k + 1) l

theorem loopsL_nil {fn : Func} {k : Nat} (h : Nat.beq (loopsIn (bodyOf fn)).length k = true) : LoopsL C lt fn k [] := h
theorem loopsL_cons {fn : Func} {k : Nat} {L : LoopD} {l : List LoopD} (h1 : find lt (firstReg (nthLoop fn k)) = some L) (h2 : ∀ x, L.dom x = true → Comes (round C lt (nthLoop fn k) L) x (L.val x)) (h3 : LoopsL C lt fn (k + 1) l) :
    LoopsL C lt fn k (L :: l) := ⟨.inl ⟨h1, h2⟩, h3⟩
theorem loopsL_skip {fn : Func} {k : Nat} {L : LoopD} {l : List LoopD} (h1 : (find lt (firstReg (nthLoop fn k))).isSome = false) (h3 : LoopsL C lt fn (k + 1) l) : LoopsL C lt fn k (L :: l) :=
  ⟨.inr (by cases h : find lt (firstReg (nthLoop fn k)) with | none => rfl | some _ => rw [h] at h1; cases h1), h3⟩

theorem loops_of {fn : Func} {Ls : List LoopD} (h : LoopsL C lt fn 0 Ls) : ∀ c, fn.body = some c → LoopsOk C lt c := by
  intro c hc
  have hb : bodyOf fn = c := by unfold bodyOf; rw [hc]
  refine LoopsOk.of fun b hb' => ?_
  have main : ∀ (Ls : List LoopD) (k : Nat), LoopsL C lt fn k Ls → ∀ j, k ≤ j → (loopsIn (bodyOf fn))[j]? = some b → LoopFact C lt b := by
    intro Ls
    induction Ls with
    | nil =>
      intro k h j hj hg
      have := Nat.eq_of_beq_eq_true h
      have := (List.getElem?_eq_some_iff.1 hg).1
      omega
    | cons L Ls ih =>
      intro k h j hj hg
      by_cases e : j = k
      · subst e
        have hn : nthLoop fn j = b := by unfold nthLoop; rw [nthL_eq, hg]
        obtain ⟨h, _⟩ := h
        rw [hn] at h
        intro L' hL'
        rcases h with ⟨h1, h2⟩ | h
        · rw [h1] at hL'
          cases hL'
          exact h2
        · rw [h] at hL'; cases hL'
      · exact ih (k + 1) h.2 j (by omega) hg
  obtain ⟨j, hj⟩ := List.getElem?_of_mem hb'
  exact main Ls 0 h j (Nat.zero_le _) (by rw [hb]; exact hj)

theorem loopD_ok {c : Code} {sh : Sh} {ex : Exits} {y0 : ex.den} {r : sh.den → Option (sh.den ⊕ ex.den)} (h : ∀ x, round C lt c (loopD sh ex y0 r) x = r x) :
    ∀ x, (loopD sh ex y0 r).dom x = true → Comes (round C lt c (loopD sh ex y0 r)) x ((loopD sh ex y0 r).val x) := by
  have e : round C lt c (loopD sh ex y0 r) = r := funext h
  intro x hx
  rw [e]
  simp only [loopD, comesB] at hx
  have hd : CDom r x := @of_decide_eq_true _ (Classical.propDecidable _) hx
  show Comes r x (comesV r y0 x)
  unfold comesV
  rw [dif_pos hd]
  exact Classical.choose_spec hd

theorem Comes.det {X Y : Type} {r : X → Option (X ⊕ Y)} {x : X} {y z : Y} (h : Comes r x y) (h' : Comes r x z) : y = z := by
  induction h with
  | out h1 =>
    cases h' with
    | out h2 => rw [h1] at h2; cases h2; rfl
    | again h2 _ => rw [h1] at h2; cases h2
  | again h1 _ ih =>
    cases h' with
    | out h2 => rw [h1] at h2; cases h2
    | again h2 h3 => rw [h1] at h2; cases h2; exact ih h3

/-- what a loop comes to -/
theorem Comes.is {X Y : Type} {r : X → Option (X ⊕ Y)} {x : X} {y y0 : Y} (h : Comes r x y) : comesB r x = true ∧ comesV r y0 x = y := by
  have hd : CDom r x := ⟨y, h⟩
  refine ⟨by unfold comesB; exact @decide_eq_true _ (Classical.propDecidable _) hd, ?_⟩
  unfold comesV
  rw [dif_pos hd]
  exact (Classical.choose_spec hd).det h

/-- a function's contract, from its evaluation -/
theorem con_ok {fn : Func} {c : Con} {Ls : List LoopD} (hm : P.follows .mixedOrders = true) (hC : CxOk P C) (hF : FnOk P C) (hf : P.funcs[c.id]? = some fn) (hlo : LoopsL C lt fn 0 Ls)
    (hev : ∀ xs, evT C lt fn c.ps c.ws xs = c.fn xs) : ConOk P c :=
  fun xs _ hy _ => evT_ok hm hC hF hf (loops_of hlo) ((hev xs).trans hy)

end

/-! ### the table of types -/
section
variable {P : Program}
def zcB : Ty → List Value → Option (List Value)
  | .unit, l => some l
  | .bool, .bool false :: l => some l
  | .int k, .int k' 0 :: l => bif kindIs k k' then some l else none
  | .str, .string ⟨⟨[]⟩⟩ :: l => some l
  | .lst _, .slice none 0 0 :: l => some l
  | .own _, .slice none 0 0 :: l => some l
  | .pair a b, l => match zcB a l with | some l' => zcB b l' | none => none
  | .arr n t, l => iterZ (zcB t) n l
  | .ref _, .pointer none :: l => some l
  | _, _ => none
where
  iterZ (f : List Value → Option (List Value)) : Nat → List Value → Option (List Value)
    | 0, l => some l
    | n + 1, l => match f l with | some l' => iterZ f n l' | none => none

theorem zcB_ok : ∀ {t : Ty} {l r : List Value}, zcB t l = some r → l = zcells t ++ r := by
  intro t
  induction t with
  | unit => intro l r h; simp only [zcB, Option.some.injEq] at h; simp [zcells, h]
  | pair a b iha ihb =>
    intro l r h
    simp only [zcB] at h
    split at h
    · rename_i l' h1
      rw [iha h1, ihb h]
      simp [zcells]
    · cases h
  | arr n t ih =>
    intro l r h
    simp only [zcB] at h
    have main : ∀ (n : Nat) {l r : List Value}, zcB.iterZ (zcB t) n l = some r → l = (List.replicate n (zcells t)).flatten ++ r := by
      intro n
      induction n with
      | zero => intro l r h; simp only [zcB.iterZ, Option.some.injEq] at h; simp [h]
      | succ n ihn =>
        intro l r h
        simp only [zcB.iterZ] at h
        split at h
        · rename_i l' h1
          rw [ih h1, ihn h]
          simp [List.replicate_succ]
        · cases h
    exact main n h
  | bool => intro l r h; unfold zcB at h; split at h <;> simp_all [zcells]
  | int k =>
    intro l r h
    unfold zcB at h
    split at h <;> first | (cases h; done) | skip
    all_goals simp_all
    obtain ⟨e1, e2⟩ := bif_some h
    have := kindIs_eq e1
    cases e2
    simp_all [zcells]
  | str => intro l r h; unfold zcB at h; split at h <;> simp_all [zcells]
  | lst t _ => intro l r h; unfold zcB at h; split at h <;> simp_all [zcells]
  | own t _ => intro l r h; unfold zcB at h; split at h <;> simp_all [zcells]
  | ref t _ => intro l r h; unfold zcB at h; split at h <;> simp_all [zcells]

end
end Go.Ab
namespace Go.Ab
section
variable {P : Program}

def zeroB (t : Ty) : Value → Bool
  | .agg cs => t.isAgg && (match zcB t cs.toList with | some [] => true | _ => false)
  | v => !t.isAgg && (match zcB t [v] with | some [] => true | _ => false)

theorem zeroB_ok {t : Ty} {v : Value} (h : zeroB t v = true) : v = packV t (zcells t) := by
  have one : ∀ v : Value, (!t.isAgg && (match zcB t [v] with | some [] => true | _ => false)) = true → v = packV t (zcells t) := by
    intro v h
    simp only [Bool.and_eq_true, Bool.not_eq_true'] at h
    obtain ⟨h1, h2⟩ := h
    split at h2
    · rename_i hz
      have := zcB_ok hz
      rw [List.append_nil] at this
      simp [packV, h1, ← this]
    · cases h2
  unfold zeroB at h
  split at h
  · rename_i cs
    simp only [Bool.and_eq_true] at h
    obtain ⟨h1, h2⟩ := h
    split at h2
    · rename_i hz
      have := zcB_ok hz
      rw [List.append_nil] at this
      simp [packV, h1, ← this]
    · cases h2
  · exact one v h

def infoB (P : Program) (t : Ty) (T : TypeId) : Bool := match P.info? T with
  | some i => Nat.beq i.size t.size && (match i.zero with | some z => zeroB t z | none => false) && Nat.ble i.bytes 4096
  | none => false

theorem infoB_ok {t : Ty} {T : TypeId} (h : infoB P t T = true) : InfoOk P t T := by
  unfold infoB at h
  split at h
  · rename_i i hi
    simp only [Bool.and_eq_true] at h
    obtain ⟨⟨h1, h2⟩, h3⟩ := h
    split at h2
    · rename_i z hz
      exact ⟨i, hi, Nat.eq_of_beq_eq_true h1, by rw [hz, zeroB_ok h2], Nat.le_of_ble_eq_true h3⟩
    · cases h2
  · cases h

def tyB (P : Program) : Ty → (TypeId → Bool) × (List Field → Nat → Bool)
  | .unit => (fun T => infoB P .unit T && (match P.underlying T with | some (.struct fs) => fs.toList.isEmpty | _ => false), fun fs _ => fs.isEmpty)
  | .bool => (fun T => infoB P .bool T && (match P.underlying T with | some .bool => true | _ => false), fun _ _ => false)
  | .int k => (fun T => infoB P (.int k) T && (match P.underlying T with | some (.int k') => kindIs k' k | _ => false), fun _ _ => false)
  | .str => (fun T => infoB P .str T && (match P.underlying T with | some .string => true | _ => false), fun _ _ => false)
  | .lst t => (fun T => infoB P (.lst t) T && (match P.underlying T with | some (.slice E) => Nat.ble 1 t.size && (tyB P t).1 E | _ => false), fun _ _ => false)
  | .own _ => (fun _ => false, fun _ _ => false)
  | .pair a b => (fun T => infoB P (.pair a b) T && (match P.underlying T with
      | some (.struct fs) => (match fs.toList with
        | f :: l => Nat.beq f.offset 0 && (tyB P a).1 f.type && (tyB P b).2 l a.size
        | [] => false)
      | _ => false),
    fun fs off => match fs with
      | f :: l => Nat.beq f.offset off && (tyB P a).1 f.type && (tyB P b).2 l (off + a.size)
      | [] => false)
  | .arr n t => (fun T => infoB P (.arr n t) T && (match P.underlying T with | some (.array n' E) => Nat.beq n n' && Nat.ble 2 n && (match t with | .int _ => true | _ => false) && (tyB P t).1 E | _ => false), fun _ _ => false)
  | .ref t => (fun T => infoB P (.ref t) T && (match P.underlying T with | some (.pointer _) => true | _ => false), fun _ _ => false)

theorem tyB_ok : ∀ {t : Ty}, (∀ T, (tyB P t).1 T = true → (TO P t).1 T) ∧ (∀ fs off, (tyB P t).2 fs off = true → (TO P t).2 fs off) := by
  intro t
  induction t with
  | unit =>
    refine ⟨fun T h => ?_, fun fs off h => by simpa [tyB, TO] using h⟩
    simp only [tyB, Bool.and_eq_true] at h
    obtain ⟨h1, h2⟩ := h
    split at h2
    · rename_i fs hf
      exact ⟨infoB_ok h1, fs, hf, by simpa using h2⟩
    · cases h2
  | bool =>
    refine ⟨fun T h => ?_, fun fs off h => by simp [tyB] at h⟩
    simp only [tyB, Bool.and_eq_true] at h
    obtain ⟨h1, h2⟩ := h
    split at h2
    · rename_i hf; exact ⟨infoB_ok h1, hf⟩
    · cases h2
  | int k =>
    refine ⟨fun T h => ?_, fun fs off h => by simp [tyB] at h⟩
    simp only [tyB, Bool.and_eq_true] at h
    obtain ⟨h1, h2⟩ := h
    split at h2
    · rename_i k' hf; rw [kindIs_eq h2] at hf; exact ⟨infoB_ok h1, hf⟩
    · cases h2
  | str =>
    refine ⟨fun T h => ?_, fun fs off h => by simp [tyB] at h⟩
    simp only [tyB, Bool.and_eq_true] at h
    obtain ⟨h1, h2⟩ := h
    split at h2
    · rename_i hf; exact ⟨infoB_ok h1, hf⟩
    · cases h2
  | lst t ih =>
    refine ⟨fun T h => ?_, fun fs off h => by simp [tyB] at h⟩
    simp only [tyB, Bool.and_eq_true] at h
    obtain ⟨h1, h2⟩ := h
    split at h2
    · rename_i E hf
      simp only [Bool.and_eq_true] at h2
      exact ⟨infoB_ok h1, E, hf, Nat.le_of_ble_eq_true h2.1, ih.1 E h2.2⟩
    · cases h2
  | own t _ => exact ⟨fun T h => by simp [tyB] at h, fun fs off h => by simp [tyB] at h⟩
  | pair a b iha ihb =>
    refine ⟨fun T h => ?_, fun fs off h => ?_⟩
    · simp only [tyB, Bool.and_eq_true] at h
      obtain ⟨h1, h2⟩ := h
      split at h2
      · rename_i fs hf
        split at h2
        · rename_i f l hfl
          simp only [Bool.and_eq_true] at h2
          exact ⟨infoB_ok h1, fs, hf, f, l, hfl, Nat.eq_of_beq_eq_true h2.1.1, iha.1 _ h2.1.2, ihb.2 _ _ h2.2⟩
        · cases h2
      · cases h2
    · simp only [tyB] at h
      split at h
      · rename_i f l
        simp only [Bool.and_eq_true] at h
        exact ⟨f, l, rfl, Nat.eq_of_beq_eq_true h.1.1, iha.1 _ h.1.2, ihb.2 _ _ h.2⟩
      · cases h
  | arr n t ih =>
    refine ⟨fun T h => ?_, fun fs off h => by simp [tyB] at h⟩
    simp only [tyB, Bool.and_eq_true] at h
    obtain ⟨h1, h2⟩ := h
    split at h2
    · rename_i n' E hf
      simp only [Bool.and_eq_true] at h2
      obtain ⟨⟨⟨q1, q2⟩, q3⟩, q4⟩ := h2
      have := Nat.eq_of_beq_eq_true q1
      subst this
      refine ⟨infoB_ok h1, E, hf, Nat.le_of_ble_eq_true q2, ?_, ih.1 E q4⟩
      split at q3
      · exact ⟨_, rfl⟩
      · cases q3
    · cases h2
  | ref t _ =>
    refine ⟨fun T h => ?_, fun fs off h => by simp [tyB] at h⟩
    simp only [tyB, Bool.and_eq_true] at h
    obtain ⟨h1, h2⟩ := h
    split at h2
    · rename_i E hf; exact ⟨infoB_ok h1, E, hf⟩
    · cases h2

theorem cxOk_of {C : Cx} (h : allL (fun x => (tyB P x.2.t).1 x.1) C.tab = true) : CxOk P C := by
  refine ⟨fun T ti hf => ?_⟩
  exact tyB_ok.1 T (allL_mem h _ (find_mem hf))

theorem tys_of {tys : List Ty} {ts : List TypeId} (h : tys.length = ts.length) (hh : allL (fun x => (tyB P x.1).1 x.2) (tys.zip ts) = true) : All2 (TyOk P) tys ts := by
  induction tys generalizing ts with
  | nil => cases ts with
    | nil => exact .nil
    | cons _ _ => simp at h
  | cons t tys ih =>
    cases ts with
    | nil => simp at h
    | cons T ts =>
      simp only [List.zip_cons_cons, allL, Bool.and_eq_true] at hh
      exact .cons (tyB_ok.1 T hh.1) (ih (by simpa using h) hh.2)

end
end Go.Ab
