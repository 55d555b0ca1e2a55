/- Regions whose order is drawn: operations that touch no object come to the same in every order. -/
import Derived.Test.YtnennmlpaijedaaAbT
import Derived.Still
set_option linter.unusedVariables false
set_option linter.unusedSectionVars false
namespace Go.Ab
open Go Go.RowKit

def putd (d : Option Nat) (x : AV) (regs : List (Nat × AV)) : List (Nat × AV) :=
  match d with
  | some d => (d, x) :: regs
  | none => regs

/-- Two states with the same registers. -/
structure Eqv (s s' : S) : Prop where
  regs : ∀ t, get s.regs t = get s'.regs t
  objs : s.objs = s'.objs

theorem Eqv.refl (s : S) : Eqv s s := ⟨fun _ => rfl, rfl⟩
theorem Eqv.symm {s s' : S} (h : Eqv s s') : Eqv s' s := ⟨fun t => (h.regs t).symm, h.objs.symm⟩
theorem Eqv.trans {a b c : S} (h : Eqv a b) (k : Eqv b c) : Eqv a c := ⟨fun t => (h.regs t).trans (k.regs t), h.objs.trans k.objs⟩

theorem get_putd (d : Option Nat) (x : AV) (regs : List (Nat × AV)) (t : Nat) : get (putd d x regs) t = if d = some t then some x else get regs t := by
  cases d with
  | none => simp [putd]
  | some d =>
    simp only [putd, get, Option.some.injEq]
    by_cases h : d = t
    · subst h; simp [Nat.beq_refl]
    · have : Nat.beq d t = false := by
        cases hb : Nat.beq d t with
        | false => rfl
        | true => exact absurd (Nat.eq_of_beq_eq_true hb) h
      simp [this, h]

theorem Eqv.putd {s s' : S} (h : Eqv s s') (d : Option Nat) (x : AV) : Eqv ⟨Ab.putd d x s.regs, s.objs⟩ ⟨Ab.putd d x s'.regs, s'.objs⟩ :=
  ⟨fun t => by simp only [get_putd, h.regs t], h.objs⟩

theorem putd_comm {d e : Option Nat} (x y : AV) (s : S) (h : ∀ k, d = some k → e ≠ some k) : Eqv ⟨putd d x (putd e y s.regs), s.objs⟩ ⟨putd e y (putd d x s.regs), s.objs⟩ :=
  ⟨fun t => by
    simp only [get_putd]
    by_cases h1 : d = some t
    · have := h t h1; simp [h1, this]
    · simp [h1], rfl⟩

theorem Eqv.rel {P : Program} {cx : Cx} {n : Nat} {s s' : S} {a : Act} {w : World} (h : Eqv s s') (r : Rel P cx n s a w) : Rel P cx n s' a w := by
  obtain ⟨regs, objs⟩ := s
  obtain ⟨regs', objs'⟩ := s'
  obtain ⟨h1, h2⟩ := h
  simp only at h1 h2
  subst h2
  obtain ⟨own, r⟩ := r
  exact ⟨own, { defs := r.defs, size := r.size, ok := r.ok, regs := fun t x hx => r.regs t x ((h1 t).trans hx), stp := r.stp, fix := r.fix, fr := r.fr }⟩

abbrev Regs := List (Nat × AV)

def agr (r r' : Regs) : Prop := ∀ t, get r t = get r' t

theorem agr_putd {r r' : Regs} (h : agr r r') (d : Option Nat) (x : AV) : agr (putd d x r) (putd d x r') := fun t => by simp only [get_putd, h t]

section
variable {ops : Array Oper} {md : Region.Mode} {Y : Nat → AV → Regs → Prop} {E : Array Bool → Regs → Prop}

/-- Does the operation at k need the one at j? -/
def needs (md : Region.Mode) (ops : Array Oper) : Nat → Nat → Nat → Bool
  | 0, _, _ => false
  | f + 1, j, k => match ops[k]? with
    | some o => o.after.any fun e => Region.binds md e && (Nat.beq e.on j || needs md ops f j e.on)
    | none => false

def Clos (md : Region.Mode) (ops : Array Oper) (listed : Array Bool) : Prop :=
  listed.size = ops.size ∧ ∀ k o, ops[k]? = some o → listed.getD k true = true → ∀ e ∈ o.after, Region.binds md e = true → listed.getD e.on false = true

theorem needs_listed {listed : Array Bool} (hc : Clos md ops listed) {j : Nat} : ∀ (f k : Nat), needs md ops f j k = true → (∀ o, ops[k]? = some o → ∀ e ∈ o.after, Region.binds md e = true → listed.getD e.on false = true) → listed.getD j false = true
  | 0, k, h, _ => by simp [needs] at h
  | f + 1, k, h, hk => by
    simp only [needs] at h
    split at h
    · rename_i o ho
      obtain ⟨e, he, hb⟩ := Array.any_eq_true'.1 h
      simp only [Bool.and_eq_true, Bool.or_eq_true] at hb
      have h1 := hk o ho e he hb.1
      rcases hb.2 with h2 | h2
      · rw [← Nat.eq_of_beq_eq_true h2]; exact h1
      · refine needs_listed hc f e.on h2 fun o' ho' e' he' hb' => hc.2 e.on o' ho' ?_ e' he' hb'
        have hlt : e.on < listed.size := by
          rcases Nat.lt_or_ge e.on listed.size with h' | h'
          · exact h'
          · simp [Array.getElem?_eq_none h'] at h1
        simp [hlt] at h1 ⊢; exact h1
    · cases h

theorem Clos.set {listed : Array Bool} (hc : Clos md ops listed) {i : Nat} (hi : i ∈ Region.ready md ops listed) : Clos md ops (listed.setIfInBounds i true) := by
  obtain ⟨h0, o, ho, hall⟩ := mem_ready.1 hi
  refine ⟨by simp [hc.1], fun k ok hk hl e he hb => getD_set_true ?_⟩
  by_cases hik : i = k
  · subst hik; rw [ho] at hk; cases hk; exact hall e he hb
  · rw [getD_set_ne true hik] at hl; exact hc.2 k ok hk hl e he hb

theorem getD_tf {listed : Array Bool} {i : Nat} (h : listed.getD i true = false) : listed.getD i false = false := by
  rcases Nat.lt_or_ge i listed.size with h' | h'
  · simp [h'] at h ⊢; exact h
  · simp [Array.getElem?_eq_none h'] at h

/-- Two that are ready at once need not one another. -/
theorem ready_unneeded {listed : Array Bool} (hc : Clos md ops listed) {i j : Nat} (hi : i ∈ Region.ready md ops listed) (hj : listed.getD j true = false) (f : Nat) : needs md ops f j i = false := by
  cases hb : needs md ops f j i with
  | false => rfl
  | true =>
    obtain ⟨h0, o, ho, hall⟩ := mem_ready.1 hi
    have := needs_listed hc f i hb (fun o' ho' => by rw [ho] at ho'; cases ho'; exact hall)
    rw [getD_tf hj] at this; cases this

def aR (ops : Array Oper) (Y : Nat → AV → Regs → Prop) (i : Nat) (K : Regs → Prop) (r : Regs) : Prop :=
  match ops[i]? with
  | none => K r
  | some o => ∃ x, Y i x r ∧ K (putd o.dst x r)

theorem aR_mono {i : Nat} {K K' : Regs → Prop} {r : Regs} (h : ∀ r, K r → K' r) (hh : aR ops Y i K r) : aR ops Y i K' r := by
  unfold aR at *
  split
  · exact h _ (by simpa [*] using hh)
  · rename_i o ho
    simp only [ho] at hh
    obtain ⟨x, h1, h2⟩ := hh
    exact ⟨x, h1, h _ h2⟩

def anyR (md : Region.Mode) (ops : Array Oper) (Y : Nat → AV → Regs → Prop) (E : Array Bool → Regs → Prop) : Nat → Array Bool → Regs → Prop
  | 0, listed, r => Region.ready md ops listed = [] ∧ E listed r
  | fuel + 1, listed, r => (Region.ready md ops listed = [] → E listed r) ∧ ∀ i ∈ Region.ready md ops listed, aR ops Y i (anyR md ops Y E fuel (listed.setIfInBounds i true)) r

theorem anyR_agr (hY : ∀ i x r r', agr r r' → Y i x r → Y i x r') (hE : ∀ l r r', agr r r' → E l r → E l r') : ∀ (fuel : Nat) (listed : Array Bool) (r r' : Regs), agr r r' → anyR md ops Y E fuel listed r → anyR md ops Y E fuel listed r'
  | 0, listed, r, r', he, h => ⟨h.1, hE _ r r' he h.2⟩
  | fuel + 1, listed, r, r', he, h => by
    refine ⟨fun h0 => hE _ r r' he (h.1 h0), fun i hi => ?_⟩
    have h1 := h.2 i hi
    unfold aR at *
    split
    · rename_i ho
      simp only [ho] at h1
      exact anyR_agr hY hE fuel _ r r' he h1
    · rename_i o ho
      simp only [ho] at h1
      obtain ⟨x, h2, h3⟩ := h1
      exact ⟨x, hY _ _ _ _ he h2, anyR_agr hY hE fuel _ _ _ (agr_putd he _ _) h3⟩

theorem anyR_first {ex : Nat → Bool} (hY : ∀ i x r r', agr r r' → Y i x r → Y i x r') (hE : ∀ l r r', agr r r' → E l r → E l r')
    (hYl : ∀ i x r r' o, ops[i]? = some o → ex i = false → (∀ t, t ∈ o.looksAt ops → get r' t = get r t) → Y i x r → Y i x r')
    (hex : ∀ i j, ex i = true → i < ops.size → j < ops.size → i = j ∨ (∃ f, needs md ops f i j = true) ∨ ∃ f, needs md ops f j i = true)
    {i : Nat} {oi : Oper} {x : AV} (hi : ops[i]? = some oi) : ∀ (fuel : Nat) (listed : Array Bool) (r : Regs), Clos md ops listed →
    (∀ j oj, ops[j]? = some oj → j ≠ i → listed.getD j true = false → (∀ e ∈ oj.after, Region.binds md e = true → e.on ≠ i) → oi.apart ops oj = true) →
    i ∈ Region.ready md ops listed → Y i x r → anyR md ops Y E fuel (listed.setIfInBounds i true) (putd oi.dst x r) → anyR md ops Y E (fuel + 1) listed r := by
  intro fuel
  induction fuel with
  | zero =>
    intro listed r _ _ hr hy H
    refine ⟨fun h => (by rw [h] at hr; cases hr), fun j hj => ?_⟩
    by_cases hji : j = i
    · subst hji; unfold aR; simp only [hi]; exact ⟨x, hy, H⟩
    · have := ready_mono hj hji
      rw [H.1] at this
      cases this
  | succ fuel ih =>
    intro listed r hc hfree hr hy H
    refine ⟨fun h => (by rw [h] at hr; cases hr), fun j hj => ?_⟩
    by_cases hji : j = i
    · subst hji; unfold aR; simp only [hi]; exact ⟨x, hy, H⟩
    · have h1 := H.2 j (ready_mono hj hji)
      obtain ⟨hjun, oj, hoj, hall⟩ := mem_ready.1 hj
      have hiun := (mem_ready.1 hr).1
      have hnot : ∀ e ∈ oj.after, Region.binds md e = true → e.on ≠ i := fun e he hb heq => by
        have h1 := hall e he hb
        rw [heq, getD_tf hiun] at h1; cases h1
      have hlti := (Array.getElem?_eq_some_iff.1 hi).1
      have hltj := (Array.getElem?_eq_some_iff.1 hoj).1
      have exi : ex i = false := by
        cases hb : ex i with
        | false => rfl
        | true =>
          rcases hex i j hb hlti hltj with h | ⟨f, h⟩ | ⟨f, h⟩
          · exact absurd h.symm hji
          · rw [ready_unneeded hc hj hiun f] at h; cases h
          · rw [ready_unneeded hc hr hjun f] at h; cases h
      have exj : ex j = false := by
        cases hb : ex j with
        | false => rfl
        | true =>
          rcases hex j i hb hltj hlti with h | ⟨f, h⟩ | ⟨f, h⟩
          · exact absurd h hji
          · rw [ready_unneeded hc hr hjun f] at h; cases h
          · rw [ready_unneeded hc hj hiun f] at h; cases h
      obtain ⟨a1, a2, a3⟩ := Oper.apart_spec (hfree j oj hoj hji hjun hnot)
      have hfree' : ∀ k ok, ops[k]? = some ok → k ≠ i → (listed.setIfInBounds j true).getD k true = false →
          (∀ e ∈ ok.after, Region.binds md e = true → e.on ≠ i) → oi.apart ops ok = true := fun k ok hk hki hun hno => by
        refine hfree k ok hk hki ?_ hno
        by_cases hjk : j = k
        · subst hjk; exact hjun
        · rw [getD_set_ne true hjk] at hun; exact hun
      unfold aR at h1 ⊢
      simp only [hoj] at h1 ⊢
      obtain ⟨u, hu, hk⟩ := h1
      refine ⟨u, hYl j u _ _ oj hoj exj (fun t ht => ?_) hu, ih (listed.setIfInBounds j true) _ (hc.set hj) hfree' (ready_mono hr (Ne.symm hji)) (hYl i x _ _ oi hi exi (fun t ht => ?_) hy) ?_⟩
      · simp only [get_putd]
        rw [if_neg fun e => a1 t e ht]
      · simp only [get_putd]
        rw [if_neg fun e => a3 t e ht]
      · rw [Array.setIfInBounds_comm _ _ hji]
        exact anyR_agr hY hE _ _ _ _ (putd_comm u x ⟨r, []⟩ fun k hk he => a2 k he hk).regs hk

/-- The walk in the text's own order. -/
def AWd (Y : Nat → AV → Regs → Prop) (E : Regs → Prop) : Nat → List Oper → Regs → Prop
  | _, [], r => E r
  | k, o :: rest, r => ∃ x, Y k x r ∧ AWd Y E (k + 1) rest (putd o.dst x r)

def cntG (gens : List Nat) (listed : Array Bool) : Nat := gens.countP fun g => listed.getD g false

def lexC (md : Region.Mode) (ops : Array Oper) (gens : List Nat) : Nat → Nat → Array Bool → Bool
  | 0, _, listed => (Region.ready md ops listed).isEmpty && Nat.beq (cntG gens listed) gens.length
  | f + 1, k, listed => (Region.ready md ops listed).contains k && Region.free md ops listed k && lexC md ops gens f (k + 1) (listed.setIfInBounds k true)

theorem anyR_lex {ex : Nat → Bool} {gens : List Nat} {E : Regs → Prop} (hY : ∀ i x r r', agr r r' → Y i x r → Y i x r') (hE : ∀ r r', agr r r' → E r → E r')
    (hYl : ∀ i x r r' o, ops[i]? = some o → ex i = false → (∀ t, t ∈ o.looksAt ops → get r' t = get r t) → Y i x r → Y i x r')
    (hex : ∀ i j, ex i = true → i < ops.size → j < ops.size → i = j ∨ (∃ f, needs md ops f i j = true) ∨ ∃ f, needs md ops f j i = true) :
    ∀ (l : List Oper) (k : Nat) (listed : Array Bool) (r : Regs), (∀ j, l[j]? = ops[k + j]?) → Clos md ops listed →
    lexC md ops gens l.length k listed = true → AWd Y E k l r → anyR md ops Y (fun li r => cntG gens li = gens.length ∧ E r) l.length listed r
  | [], _, _, _, _, _, hB, h => by
    simp only [List.length_nil, lexC, Bool.and_eq_true, List.isEmpty_iff] at hB
    exact ⟨hB.1, Nat.eq_of_beq_eq_true hB.2, h⟩
  | o :: l, k, listed, r, hl, hc, hB, h => by
    have h0 : ops[k]? = some o := by simpa using (hl 0).symm
    simp only [List.length_cons, lexC, Bool.and_eq_true] at hB
    obtain ⟨⟨hr, hf⟩, hB'⟩ := hB
    obtain ⟨x, hy, hK⟩ := h
    have hr' : k ∈ Region.ready md ops listed := by simpa using hr
    exact anyR_first hY (fun l r r' he h => ⟨h.1, hE r r' he h.2⟩) hYl hex h0 l.length listed r hc (Region.free_spec h0 hf) hr' hy
      (anyR_lex hY hE hYl hex l (k + 1) _ _ (fun j => by have := hl (j + 1); simpa [Nat.add_assoc, Nat.add_comm 1 j] using this) (hc.set hr') hB' hK)
end

section
variable {P : Program} {cx : Cx} {n : Nat} {ops : Array Oper} {md : Region.Mode}

def loG (md : Region.Mode) (ops : Array Oper) (gens : List Nat) (i : Nat) : Nat := gens.countP fun g => needs md ops ops.size g i
def hiG (md : Region.Mode) (ops : Array Oper) (gens : List Nat) (i : Nat) : Nat := gens.countP fun g => !needs md ops ops.size i g && !Nat.beq g i
def deG (gens : List Nat) (i : Nat) : Nat := if gens.contains i then 1 else 0

/-- What is asked of the operation at i: in any objects in which it may run. -/
def YG (P : Program) (cx : Cx) (n : Nat) (md : Region.Mode) (ops : Array Oper) (gens exs : List Nat) (ch : Nat → Obs) (i : Nat) (x : AV) (r : Regs) : Prop :=
  ∀ o, ops[i]? = some o → ∀ m, loG md ops gens i ≤ m → m ≤ hiG md ops gens i → ∀ r', (∀ t, (exs.contains i = true ∨ t ∈ o.looksAt ops) → get r' t = get r t) →
    AWl P cx n ops [o] (fun e s1 => e = .normal ∧ agr s1.regs (putd o.dst x r') ∧ s1.objs = ch (m + deG gens i)) ⟨r', ch m⟩

theorem wpl_mono {Q Q' : Exit → Act → World → Prop} {o : Oper} {a : Act} {w : World} (h : wpList P ops Q [o] a w) (k : ∀ e a w, Q e a w → Q' e a w) (hn : ¬ LetsOut Q) : wpList P ops Q' [o] a w := by
  unfold wpList at *
  split
  · rename_i hw
    rw [if_pos hw] at h
    left
    rcases h with h | ⟨_, h⟩
    · unfold Oper.wp at *
      generalize (execOp a.eval o).run P w = q at *
      cases q with
      | ok nx w' =>
        cases nx <;> simp only [Oper.upon] at h ⊢ <;>
          first
            | exact k _ _ _ h
            | exact Calls.mono h (fun e w'' he => by
                cases e with
                | returned v => exact k _ _ _ he
                | panicked c => exact k _ _ _ he
                | outgrown => exact absurd he hn)
            | exact Rows.mono h (fun _ _ he => k _ _ _ he)
      | halt x w' =>
        cases x <;> simp only [Oper.upon] at h ⊢ <;> first | exact h | exact k _ _ _ h
    · exact absurd h hn
  · rename_i hw
    rw [if_neg hw] at h
    exact k _ _ _ h

theorem AWl.one {o : Oper} {Q : Exit → S → Prop} {s : S} {i : Nat} (hi : ops[i]? = some o) (h : AWl P cx n ops [o] (fun e s1 => e = .normal ∧ Q e s1) s) {K' : Act → World → Prop} {Q' : Exit → Act → World → Prop} {a : Act} {w : World} (r : Rel P cx n s a w)
    (hK : ∀ s1 a w, Rel P cx n s1 a w → Q .normal s1 → K' a w) : wpOp P ops Q' i K' a w := by
  have h3 := h a w r
  unfold wpOp
  simp only [hi]
  have fin : ∀ a' w', post P cx n (fun e s1 => e = .normal ∧ Q e s1) .normal a' w' → K' a' w' := by
    rintro a' w' ⟨s1, hr1, _, he⟩
    exact hK s1 a' w' hr1 he
  unfold wpList at h3
  split
  · rename_i hw
    rw [if_pos hw] at h3
    left
    rcases h3 with h3 | ⟨_, a0, w0, s1, _, h4, _⟩
    · unfold Oper.wp at *
      generalize (execOp a.eval o).run P w = q at *
      cases q with
      | ok nx w' =>
        cases nx <;> simp only [Oper.upon] at h3 ⊢ <;>
          first
            | exact fin _ _ h3
            | exact Calls.mono h3 (fun e w'' he => by
                cases e with
                | returned v => exact fin _ _ he
                | panicked c => obtain ⟨_, _, h4, _⟩ := he; cases h4
                | outgrown => obtain ⟨_, _, _, _, h4, _⟩ := he; cases h4)
            | exact Rows.mono h3 (fun _ _ he => fin _ _ he)
      | halt x w' =>
        cases x <;> simp only [Oper.upon] at h3 ⊢ <;> first | exact h3 | (obtain ⟨_, _, h4, _⟩ := h3; cases h4)
    · cases h4
  · rename_i hw
    rw [if_neg hw] at h3
    exact fin _ _ h3

theorem countP_set {i : Nat} {listed : Array Bool} (h0 : listed.getD i true = false) : ∀ (gens : List Nat), gens.Nodup → cntG gens (listed.setIfInBounds i true) = cntG gens listed + deG gens i
  | [], _ => by simp [cntG, deG]
  | g :: r, hn => by
    simp only [List.nodup_cons] at hn
    have ih := countP_set h0 r hn.2
    have hlt : i < listed.size := by
      rcases Nat.lt_or_ge i listed.size with h' | h'
      · exact h'
      · simp [Array.getElem?_eq_none h'] at h0
    simp only [cntG, List.countP_cons] at ih ⊢
    rw [ih]
    by_cases hg : g = i
    · subst hg
      have e1 : (listed.setIfInBounds g true).getD g false = true := by simp [hlt]
      have e2 := getD_tf h0
      have e3 : deG r g = 0 := by simp [deG, hn.1]
      have e4 : deG (g :: r) g = 1 := by simp [deG]
      simp only [e1, e2, e3, e4]; simp
    · have e1 : (listed.setIfInBounds i true).getD g false = listed.getD g false := getD_set_ne false (Ne.symm hg)
      have e4 : deG (g :: r) i = deG r i := by simp [deG, Ne.symm hg]
      rw [e1, e4]; omega

theorem wpAny_of_anyR {gens exs : List Nat} {ch : Nat → Obs} {Q : S → Prop} {Q' : Exit → Act → World → Prop} (hg : gens.Nodup) (hQ : ∀ s a w, Rel P cx n s a w → Q s → Q' .normal a w)
    {E : Regs → Prop} (hE : ∀ r, E r → Q ⟨r, ch gens.length⟩) (hEa : ∀ r r', agr r r' → E r → E r') :
    ∀ (fuel : Nat) (listed : Array Bool) (r : Regs) (a : Act) (w : World), Clos md ops listed → Rel P cx n ⟨r, ch (cntG gens listed)⟩ a w →
    anyR md ops (YG P cx n md ops gens exs ch) (fun li r => cntG gens li = gens.length ∧ E r) fuel listed r → wpAny P md ops Q' fuel listed a w
  | 0, _, r, a, w, hc, hr, h => ⟨h.1, hQ _ a w hr (by rw [h.2.1]; exact hE r h.2.2)⟩
  | fuel + 1, listed, r, a, w, hc, hr, h => by
    refine ⟨fun h0 => hQ _ a w hr (by rw [(h.1 h0).1]; exact hE r (h.1 h0).2), fun i hi => ?_⟩
    have h1 := h.2 i hi
    obtain ⟨h0, o, ho, hall⟩ := mem_ready.1 hi
    unfold aR at h1
    simp only [ho] at h1
    obtain ⟨x, hy, hk⟩ := h1
    have hlo : loG md ops gens i ≤ cntG gens listed := List.countP_mono_left fun g hg hn => needs_listed hc _ i hn (fun o' ho' => by rw [ho] at ho'; cases ho'; exact hall)
    have hhi : cntG gens listed ≤ hiG md ops gens i := List.countP_mono_left fun g hg hn => by
      have hlt : g < listed.size := by
        rcases Nat.lt_or_ge g listed.size with h' | h'
        · exact h'
        · simp [Array.getElem?_eq_none h'] at hn
      simp only [Bool.and_eq_true, Bool.not_eq_true']
      refine ⟨?_, ?_⟩
      · cases hb : needs md ops ops.size i g with
        | false => rfl
        | true =>
          have := needs_listed hc ops.size g hb (fun o' ho' e he hb' => hc.2 g o' ho' (by simp [hlt] at hn ⊢; exact hn) e he hb')
          rw [getD_tf h0] at this; cases this
      · cases hb : Nat.beq g i with
        | false => rfl
        | true => rw [Nat.eq_of_beq_eq_true hb, getD_tf h0] at hn; cases hn
    refine AWl.one (Q := fun e s1 => agr s1.regs (putd o.dst x r) ∧ s1.objs = ch (cntG gens listed + deG gens i)) ho (hy o ho _ hlo hhi r (fun _ _ => rfl)) hr fun s1 a1 w1 hr1 he => ?_
    refine wpAny_of_anyR hg hQ hE hEa fuel _ _ a1 w1 (hc.set hi) ?_ hk
    rw [countP_set h0 gens hg]
    exact (⟨he.1, he.2⟩ : Eqv s1 ⟨putd o.dst x r, ch (cntG gens listed + deG gens i)⟩).rel hr1

def exB (md : Region.Mode) (ops : Array Oper) (exs : List Nat) : Bool :=
  exs.all fun i => (List.range ops.size).all fun j => Nat.beq i j || needs md ops ops.size i j || needs md ops ops.size j i

def drawB (ops : Array Oper) (gens exs : List Nat) : Bool := nodupB gens && exB .any ops exs && lexC .any ops gens ops.size 0 (Array.replicate ops.size false)

theorem awp_draw {id : Nat} {l : List Oper} {Q : Exit → S → Prop} {regs : Regs} {objs : Obs} (gens exs : List Nat) (ch : Nat → Obs) (h0 : ch 0 = objs) (hm : P.follows .mixedOrders = true) (hB : drawB l.toArray gens exs = true)
    (h : AWd (YG P cx n .any l.toArray gens exs ch) (fun r => ∃ r0, agr r r0 ∧ Q .normal ⟨r0, ch gens.length⟩) 0 l regs) : AWp P cx n (.region id l.toArray true) Q ⟨regs, objs⟩ := fun a w r => by
  subst h0
  simp only [drawB, Bool.and_eq_true] at hB
  obtain ⟨⟨hn, hx⟩, hB⟩ := hB
  have r' : Rel P cx n ⟨regs, ch 0⟩ a { w with drawn := w.drawn + 1 } := by
    obtain ⟨own, r⟩ := r
    have hs : Stp w (Mu cx.M0 own (ch 0)) { w with drawn := w.drawn + 1 } (Mu cx.M0 own (ch 0)) := ⟨rfl, rfl, rfl, Nat.le_refl _, fun _ _ _ _ h => h, fun _ _ h => .inl h, fun _ cs _ h => ⟨cs, h⟩⟩
    refine ⟨own, { defs := r.defs, size := r.size, ok := ?_, regs := fun t x hx => (r.regs t x hx).tr_same hs, stp := r.stp.trans hs, fix := r.fix, fr := r.fr.trans ⟨fun _ _ _ => rfl, fun k o b hk hb => .inl ⟨k, o, hk, hb⟩, Nat.le_refl _⟩ }⟩
    refine { obs := fun k o hk => ?_, keys := r.ok.keys, inj := r.ok.inj, m0 := r.ok.m0, m0old := r.ok.m0old }
    have := r.ok.obs k o hk
    cases o with
    | ce T cs =>
      obtain ⟨b, vals, e1, e2, e3, e4⟩ := this
      exact ⟨b, vals, e1, e2, e3, fun j x hj => ⟨(e4 j x hj).1, (e4 j x hj).2.tr_same hs⟩⟩
    | ar T sz m => exact this
    | mu T sz ver xs =>
      obtain ⟨cells, e, e2, e3⟩ := this
      exact ⟨cells, e, e2, fun i row j x hi hj => (e3 i row j x hi hj).stp hs⟩
  have hc0 : Clos .any l.toArray (Array.replicate l.toArray.size false) := by
    refine ⟨by simp, fun k o hk hl => ?_⟩
    have hlt := (Array.getElem?_eq_some_iff.1 hk).1
    simp at hlt
    simp [hlt] at hl
  have hcnt : cntG gens (Array.replicate l.toArray.size false) = 0 := by
    rw [cntG, List.countP_eq_zero]
    intro g _
    by_cases hlt : g < l.length <;> simp [hlt]
  have hE : ∀ r r', agr r r' → (∃ r0, agr r r0 ∧ Q .normal ⟨r0, ch gens.length⟩) → (∃ r0, agr r' r0 ∧ Q .normal ⟨r0, ch gens.length⟩) :=
    fun r r' he ⟨r0, h1, h2⟩ => ⟨r0, fun t => (he t).symm.trans (h1 t), h2⟩
  have hY : ∀ i x r r', agr r r' → YG P cx n .any l.toArray gens exs ch i x r → YG P cx n .any l.toArray gens exs ch i x r' :=
    fun i x r r' he hy o ho m h1 h2 r2 hr2 => hy o ho m h1 h2 r2 (fun t ht => (hr2 t ht).trans (he t).symm)
  have hlex := anyR_lex (ex := fun i => exs.contains i) hY hE
    (fun i x r r' o ho hex hr hy o' ho' m h1 h2 r2 hr2 => hy o' ho' m h1 h2 r2 (fun t ht => by
      rcases ht with ht | ht
      · rw [hex] at ht; cases ht
      · rw [ho] at ho'; cases ho'
        exact (hr2 t (.inr ht)).trans (hr t ht)))
    (fun i j hi hli hlj => by
      have h1 := List.all_eq_true.1 hx i (by simpa using hi)
      have h2 := List.all_eq_true.1 h1 j (by simpa using hlj)
      simp only [Bool.or_eq_true] at h2
      rcases h2 with (h2 | h2) | h2
      · exact .inl (Nat.eq_of_beq_eq_true h2)
      · exact .inr (.inl ⟨_, h2⟩)
      · exact .inr (.inr ⟨_, h2⟩))
    l 0 (Array.replicate l.toArray.size false) regs (by simp) hc0 (by simpa using hB) h
  refine wp_region_any hm (wpAny_of_anyR (gens := gens) (exs := exs) (ch := ch) (Q := fun s => ∃ s0, Eqv s s0 ∧ Q .normal s0) (nodupB_spec hn) (fun s a w r ⟨s0, he, hq⟩ => ⟨s0, he.rel r, hq⟩)
    (fun r ⟨r0, h1, h2⟩ => ⟨⟨r0, ch gens.length⟩, ⟨h1, rfl⟩, h2⟩) hE _ _ regs a _ hc0 (by rw [hcnt]; exact r') ?_)
  simpa using hlex

/-! One operation of such a region: what it looks at stands in front. -/
def looks (l : Regs) (o : Oper) (ops : Array Oper) : Bool := (o.looksAt ops).all (fun t => mem t (l.map (·.1))) && (l.map (·.1)).all (fun t => (o.looksAt ops).contains t)

theorem get_append_in {α : Type} {l r : List (Nat × α)} {t : Nat} : t ∈ l.map (·.1) → get (l ++ r) t = get l t := by
  induction l with
  | nil => intro h; simp at h
  | cons p l ih =>
    obtain ⟨k, y⟩ := p
    intro h
    simp only [List.cons_append, get]
    cases hb : Nat.beq k t with
    | true => rfl
    | false =>
      simp only [cond_false]
      refine ih ?_
      simp only [List.map_cons, List.mem_cons] at h
      rcases h with h | h
      · subst h; simp [Nat.beq_refl] at hb
      · exact h
theorem get_append_out {α : Type} {l r : List (Nat × α)} {t : Nat} : t ∉ l.map (·.1) → get (l ++ r) t = get r t := by
  induction l with
  | nil => intro _; rfl
  | cons p l ih =>
    obtain ⟨k, y⟩ := p
    intro h
    simp only [List.map_cons, List.mem_cons, not_or] at h
    simp only [List.cons_append, get]
    cases hb : Nat.beq k t with
    | true => exact absurd (Nat.eq_of_beq_eq_true hb).symm h.1
    | false => exact ih h.2

/-- The registers of the list, each as it stands. -/
inductive Look (regs : Regs) : Regs → Prop
  | nil : Look regs []
  | cons {t : Nat} {x : AV} {r : Regs} (h : get regs t = some x) (hr : Look regs r) : Look regs ((t, x) :: r)

theorem Look.get : ∀ {regs l : Regs}, Look regs l → ∀ t, t ∈ l.map (·.1) → Ab.get l t = Ab.get regs t
  | _, _, .nil, t, h => by simp at h
  | _, _, .cons (t := k) h hr, t, ht => by
    simp only [Ab.get]
    cases hb : Nat.beq k t with
    | true => obtain rfl : k = t := Nat.eq_of_beq_eq_true hb; simp [h]
    | false =>
      simp only [List.map_cons, List.mem_cons] at ht
      rcases ht with ht | ht
      · subst ht; simp [Nat.beq_refl] at hb
      · exact hr.get t ht

section
variable {gens exs : List Nat} {ch : Nat → Obs} {E : Regs → Prop} {o : Oper} {rest : List Oper} {regs : Regs} {x : AV} {k : Nat}

/-- At one place among the turns. -/
def atM (P : Program) (cx : Cx) (n : Nat) (ops : Array Oper) (o : Oper) (x : AV) (l : Regs) (objs objs' : Obs) : Prop :=
  ∀ regs', AWl P cx n ops [o] (fun e s1 => e = .normal ∧ s1 = ⟨putd o.dst x (l ++ regs'), objs'⟩) ⟨l ++ regs', objs⟩

def atAll (P : Program) (cx : Cx) (n : Nat) (ops : Array Oper) (o : Oper) (x : AV) (l : Regs) (ch : Nat → Obs) (de : Nat) : Nat → Nat → Prop
  | _, 0 => True
  | m, c + 1 => atM P cx n ops o x l (ch m) (ch (m + de)) ∧ atAll P cx n ops o x l ch de (m + 1) c

theorem atAll_at {l : Regs} {de : Nat} : ∀ {c m : Nat}, atAll P cx n ops o x l ch de m c → ∀ q, m ≤ q → q < m + c → atM P cx n ops o x l (ch q) (ch (q + de))
  | 0, m, h, q, h1, h2 => by omega
  | c + 1, m, h, q, h1, h2 => by
    by_cases e : q = m
    · subst e; exact h.1
    · exact atAll_at h.2 q (by omega) (by omega)

/-- The operation in any objects in which it may run; it looks at a few registers. -/
theorem awd_all (l : Regs) (hl : Look regs l) (ho : ops[k]? = some o) (hk : looks l o ops = true) (c : Nat) (hc : Nat.beq (hiG .any ops gens k + 1) (loG .any ops gens k + c) = true)
    (h : atAll P cx n ops o x l ch (deG gens k) (loG .any ops gens k) c)
    (kk : AWd (YG P cx n .any ops gens exs ch) E (k + 1) rest (putd o.dst x regs)) : AWd (YG P cx n .any ops gens exs ch) E k (o :: rest) regs := by
  refine ⟨x, fun o' ho' m h1 h2 r' hr' a w hr => ?_, kk⟩
  rw [ho] at ho'; cases ho'
  have hE : agr r' (l ++ r') := fun t => by
    by_cases ht : t ∈ l.map (·.1)
    · simp only [looks, Bool.and_eq_true] at hk
      have h3 := List.all_eq_true.1 hk.2 t ht
      rw [get_append_in ht, hl.get t ht]
      exact hr' t (.inr (by simpa using h3))
    · rw [get_append_out ht]
  have hEv : Eqv ⟨r', ch m⟩ ⟨l ++ r', ch m⟩ := ⟨hE, rfl⟩
  have hc' := Nat.eq_of_beq_eq_true hc
  have := atAll_at h m h1 (by omega) r' a w (hEv.rel hr)
  refine wpl_mono this ?_ (fun ⟨_, _, _, _, h4, _⟩ => by cases h4)
  rintro e a1 w1 ⟨s1, q1, q2, q3⟩
  subst q3
  exact ⟨_, q1, q2, agr_putd (fun t => (hE t).symm) _ _, rfl⟩

/-- One that all others stand before or behind. -/
theorem awd_x0 {objs objs' : Obs} (ho : ops[k]? = some o) (hx : exs.contains k = true) (hc : Nat.beq (hiG .any ops gens k) (loG .any ops gens k) = true) (h0 : ch (loG .any ops gens k) = objs)
    (h : AWl P cx n ops [o] (fun e s1 => e = .normal ∧ s1 = ⟨putd o.dst x regs, objs'⟩) ⟨regs, objs⟩) (h1 : ch (loG .any ops gens k + deG gens k) = objs')
    (kk : AWd (YG P cx n .any ops gens exs ch) E (k + 1) rest (putd o.dst x regs)) : AWd (YG P cx n .any ops gens exs ch) E k (o :: rest) regs := by
  subst h0 h1
  refine ⟨x, fun o' ho' m h1 h2 r' hr' a w hr => ?_, kk⟩
  rw [ho] at ho'; cases ho'
  have hc' := Nat.eq_of_beq_eq_true hc
  obtain rfl : m = loG .any ops gens k := by omega
  have hE : agr r' regs := fun t => hr' t (.inl hx)
  have hEv : Eqv ⟨r', ch (loG .any ops gens k)⟩ ⟨regs, ch (loG .any ops gens k)⟩ := ⟨hE, rfl⟩
  refine wpl_mono (h a w (hEv.rel hr)) ?_ (fun ⟨_, _, _, _, h4, _⟩ => by cases h4)
  rintro e a1 w1 ⟨s1, q1, q2, q3⟩
  subst q3
  exact ⟨_, q1, q2, agr_putd (fun t => (hE t).symm) _ _, rfl⟩
end
end
end Go.Ab
