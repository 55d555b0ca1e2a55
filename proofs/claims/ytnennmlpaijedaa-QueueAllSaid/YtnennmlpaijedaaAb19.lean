/- Regions whose order is drawn and in which objects are made: the objects hang on which operations have run. -/
import Derived.Test.YtnennmlpaijedaaAb18
set_option linter.unusedVariables false
set_option linter.unusedSectionVars false
set_option linter.unusedSimpArgs false
namespace Go.Ab
open Go Go.RowKit

def subs : List Nat → List (List Nat)
  | [] => [[]]
  | a :: r => (subs r).map (fun l => a :: l) ++ subs r
theorem filter_subs (p : Nat → Bool) : ∀ l : List Nat, l.filter p ∈ subs l
  | [] => by simp [subs]
  | a :: r => by
    simp only [subs, List.mem_append, List.mem_map]
    by_cases h : p a = true
    · left; exact ⟨r.filter p, filter_subs p r, by simp [h]⟩
    · right; rw [List.filter_cons_of_neg h]; exact filter_subs p r

section
variable {P : Program} {cx : Cx} {n : Nat} {ops : Array Oper} {md : Region.Mode}

def okS (md : Region.Mode) (ops : Array Oper) (gens : List Nat) (i : Nat) (L : List Nat) : Bool :=
  !mem i L && gens.all fun g => (!needs md ops ops.size g i || mem g L) && (!needs md ops ops.size i g || !mem g L)
def consS (md : Region.Mode) (ops : Array Oper) (gens : List Nat) (i : Nat) : List (List Nat) := (subs gens).filter (okS md ops gens i)
def nextS (gens L : List Nat) (i : Nat) : List Nat := gens.filter fun g => mem g L || Nat.beq g i
def setS (gens : List Nat) (listed : Array Bool) : List Nat := gens.filter fun g => listed.getD g false

/-- What is asked of the operation at i. keys: the operations that make objects, with their keys. -/
def YS (P : Program) (cx : Cx) (n : Nat) (md : Region.Mode) (ops : Array Oper) (gens exs : List Nat) (keys : List (Nat × Nat)) (och : List Nat → Obs) (i : Nat) (x : AV) (r : Regs) : Prop :=
  ∀ o, ops[i]? = some o → (∀ a ∈ keys, a.1 ≠ i → needs md ops ops.size a.1 i = false → x.no a.2 = true) ∧
    ∀ L ∈ consS md ops gens i, ∀ r', (∀ t, (exs.contains i = true ∨ t ∈ o.looksAt ops) → get r' t = get r t) → (∀ a ∈ keys, a.1 = i → freshR a.2 r' = true) →
      AWl P cx n ops [o] (fun e s1 => e = .normal ∧ ∃ r2, agr r2 (putd o.dst x r') ∧ Le P cx n s1 ⟨r2, och (nextS gens L i)⟩) ⟨r', och L⟩

theorem mem_setS {gens : List Nat} {listed : Array Bool} {g : Nat} : mem g (setS gens listed) = true ↔ g ∈ gens ∧ listed.getD g false = true := by
  rw [mem_iff, setS, List.mem_filter]

theorem setS_next {gens : List Nat} {listed : Array Bool} {i : Nat} (hi : i < listed.size) : setS gens (listed.setIfInBounds i true) = nextS gens (setS gens listed) i := by
  unfold setS nextS
  apply List.filter_congr
  intro g hg
  by_cases hgi : i = g
  · subst hgi
    simp [hi, Nat.beq_refl]
  · rw [getD_set_ne false hgi]
    have h1 : Nat.beq g i = false := by
      cases hb : Nat.beq g i with
      | false => rfl
      | true => exact absurd (Nat.eq_of_beq_eq_true hb).symm hgi
    rw [h1, Bool.or_false]
    cases h2 : listed.getD g false with
    | true => exact (mem_setS.2 ⟨hg, h2⟩).symm
    | false =>
      cases h3 : mem g (List.filter (fun g => listed.getD g false) gens) with
      | false => rfl
      | true => have := (mem_setS (gens := gens) (listed := listed)).1 h3; rw [h2] at this; cases this.2

theorem wpAny_of_anyS {gens exs : List Nat} {keys : List (Nat × Nat)} {och : List Nat → Obs} {Q : S → Prop} {Q' : Exit → Act → World → Prop} (hQ : ∀ s a w, Rel P cx n s a w → Q s → Q' .normal a w)
    {E : Regs → Prop} (hE : ∀ r, E r → Q ⟨r, och gens⟩) (hEa : ∀ r r', agr r r' → E r → E r') :
    ∀ (fuel : Nat) (listed : Array Bool) (r : Regs) (a : Act) (w : World), Clos md ops listed → (∀ q ∈ keys, listed.getD q.1 false = false → freshR q.2 r = true) → Rel P cx n ⟨r, och (setS gens listed)⟩ a w →
    anyR md ops (YS P cx n md ops gens exs keys och) (fun li r => setS gens li = gens ∧ E r) fuel listed r → wpAny P md ops Q' fuel listed a w
  | 0, _, r, a, w, hc, hk, hr, h => ⟨h.1, hQ _ a w hr (by rw [h.2.1]; exact hE r h.2.2)⟩
  | fuel + 1, listed, r, a, w, hc, hk, hr, h => by
    refine ⟨fun h0 => hQ _ a w hr (by rw [(h.1 h0).1]; exact hE r (h.1 h0).2), fun i hi => ?_⟩
    have h1 := h.2 i hi
    obtain ⟨h0, o, ho, hall⟩ := mem_ready.1 hi
    have hlt : i < listed.size := by
      rcases Nat.lt_or_ge i listed.size with h' | h'
      · exact h'
      · simp [Array.getElem?_eq_none h'] at h0
    unfold aR at h1
    simp only [ho] at h1
    obtain ⟨x, hy, hkk⟩ := h1
    obtain ⟨hno, hy⟩ := hy o ho
    have hL : setS gens listed ∈ consS md ops gens i := by
      refine List.mem_filter.2 ⟨filter_subs _ gens, ?_⟩
      simp only [okS, Bool.and_eq_true, Bool.not_eq_true', List.all_eq_true, Bool.or_eq_true]
      refine ⟨?_, fun g hg => ⟨?_, ?_⟩⟩
      · cases hb : mem i (setS gens listed) with
        | false => rfl
        | true => have := (mem_setS.1 hb).2; rw [getD_tf h0] at this; cases this
      · cases hb : needs md ops ops.size g i with
        | false => left; rfl
        | true => right; exact mem_setS.2 ⟨hg, needs_listed hc _ i hb (fun o' ho' => by rw [ho] at ho'; cases ho'; exact hall)⟩
      · cases hb : needs md ops ops.size i g with
        | false => left; rfl
        | true =>
          right
          cases hm : mem g (setS gens listed) with
          | false => rfl
          | true =>
            have hl := (mem_setS.1 hm).2
            have hlt' : g < listed.size := by
              rcases Nat.lt_or_ge g listed.size with h' | h'
              · exact h'
              · simp [Array.getElem?_eq_none h'] at hl
            have := needs_listed hc ops.size g hb (fun o' ho' e he hb' => hc.2 g o' ho' (by simp [hlt'] at hl ⊢; exact hl) e he hb')
            rw [getD_tf h0] at this; cases this
    refine AWl.one (Q := fun e s1 => ∃ r2, agr r2 (putd o.dst x r) ∧ Le P cx n s1 ⟨r2, och (nextS gens (setS gens listed) i)⟩) ho (hy _ hL r (fun _ _ => rfl) (fun q hq hqi => hk q hq (by rw [hqi]; exact getD_tf h0))) hr fun s1 a1 w1 hr1 he => ?_
    obtain ⟨r2, he1, he2⟩ := he
    refine wpAny_of_anyS hQ hE hEa fuel _ _ a1 w1 (hc.set hi) (fun q hq hql => ?_) ?_ hkk
    · by_cases hqi : q.1 = i
      · rw [hqi] at hql; simp [hlt] at hql
      · rw [getD_set_ne false (Ne.symm hqi)] at hql
        have hun : needs md ops ops.size q.1 i = false := by
          cases hb : needs md ops ops.size q.1 i with
          | false => rfl
          | true =>
            have := needs_listed hc ops.size i hb (fun o' ho' => by rw [ho] at ho'; cases ho'; exact hall)
            rw [hql] at this; cases this
        have h2 := hno q hq hqi hun
        have h3 := hk q hq hql
        cases hd : o.dst with
        | none => simpa [putd, hd] using h3
        | some d => simp [putd, hd, freshR, h2, h3]
    · rw [setS_next hlt]
      exact (⟨he1, rfl⟩ : Eqv ⟨r2, och (nextS gens (setS gens listed) i)⟩ ⟨putd o.dst x r, och (nextS gens (setS gens listed) i)⟩).rel (he2 a1 w1 hr1)

def lexS (md : Region.Mode) (ops : Array Oper) (gens : List Nat) : Nat → Nat → Array Bool → Bool
  | 0, _, listed => (Region.ready md ops listed).isEmpty && (gens.all fun g => listed.getD g false)
  | f + 1, k, listed => (Region.ready md ops listed).contains k && Region.free md ops listed k && lexS md ops gens f (k + 1) (listed.setIfInBounds k true)

theorem anyS_lex {ex : Nat → Bool} {Y : Nat → AV → Regs → Prop} {gens : List Nat} {E : Regs → Prop} (hY : ∀ i x r r', agr r r' → Y i x r → Y i x r') (hE : ∀ r r', agr r r' → E r → E r')
    (hYl : ∀ i x r r' o, ops[i]? = some o → ex i = false → (∀ t, t ∈ o.looksAt ops → get r' t = get r t) → Y i x r → Y i x r')
    (hex : ∀ i j, ex i = true → i < ops.size → j < ops.size → i = j ∨ (∃ f, needs md ops f i j = true) ∨ ∃ f, needs md ops f j i = true) :
    ∀ (l : List Oper) (k : Nat) (listed : Array Bool) (r : Regs), (∀ j, l[j]? = ops[k + j]?) → Clos md ops listed →
    lexS md ops gens l.length k listed = true → AWd Y E k l r → anyR md ops Y (fun li r => setS gens li = gens ∧ E r) l.length listed r
  | [], _, listed, _, _, _, hB, h => by
    simp only [List.length_nil, lexS, Bool.and_eq_true, List.isEmpty_iff] at hB
    refine ⟨hB.1, ?_, h⟩
    exact List.filter_eq_self.2 fun g hg => List.all_eq_true.1 hB.2 g hg
  | o :: l, k, listed, r, hl, hc, hB, h => by
    have h0 : ops[k]? = some o := by simpa using (hl 0).symm
    simp only [List.length_cons, lexS, Bool.and_eq_true] at hB
    obtain ⟨⟨hr, hf⟩, hB'⟩ := hB
    obtain ⟨x, hy, hK⟩ := h
    have hr' : k ∈ Region.ready md ops listed := by simpa using hr
    exact anyR_first hY (fun l r r' he h => ⟨h.1, hE r r' he h.2⟩) hYl hex h0 l.length listed r hc (Region.free_spec h0 hf) hr' hy
      (anyS_lex hY hE hYl hex l (k + 1) _ _ (fun j => by have := hl (j + 1); simpa [Nat.add_assoc, Nat.add_comm 1 j] using this) (hc.set hr') hB' hK)

def drawS (ops : Array Oper) (gens exs : List Nat) : Bool := exB .any ops exs && lexS .any ops gens ops.size 0 (Array.replicate ops.size false)
def freshK (keys : List (Nat × Nat)) (regs : Regs) : Bool := keys.all fun a => freshR a.2 regs

theorem awp_drawS {id : Nat} {l : List Oper} {Q : Exit → S → Prop} {regs : Regs} {objs objs' : Obs} (gens exs : List Nat) (keys : List (Nat × Nat)) (och : List Nat → Obs) (h0 : och [] = objs) (h1 : och gens = objs') (hm : P.follows .mixedOrders = true) (hB : drawS l.toArray gens exs = true) (hk : freshK keys regs = true)
    (h : AWd (YS P cx n .any l.toArray gens exs keys och) (fun r => ∃ r0, agr r r0 ∧ Q .normal ⟨r0, objs'⟩) 0 l regs) : AWp P cx n (.region id l.toArray true) Q ⟨regs, objs⟩ := fun a w r => by
  subst h0 h1
  simp only [drawS, Bool.and_eq_true] at hB
  obtain ⟨hx, hB⟩ := hB
  have r' : Rel P cx n ⟨regs, och []⟩ a { w with drawn := w.drawn + 1 } := by
    obtain ⟨own, r⟩ := r
    have hs : Stp w (Mu cx.M0 own (och [])) { w with drawn := w.drawn + 1 } (Mu cx.M0 own (och [])) := ⟨rfl, rfl, rfl, Nat.le_refl _, fun _ _ _ _ h => h, fun _ _ h => .inl h, fun _ cs _ h => ⟨cs, h⟩⟩
    refine ⟨own, { defs := r.defs, size := r.size, ok := ?_, regs := fun t x hx => (r.regs t x hx).tr_same hs, stp := r.stp.trans hs, fix := r.fix, fr := r.fr.trans ⟨fun _ _ _ => rfl, fun k o b hk hb => .inl ⟨k, o, hk, hb⟩, Nat.le_refl _⟩ }⟩
    refine { obs := fun k o hk => ?_, keys := r.ok.keys, inj := r.ok.inj, m0 := r.ok.m0, m0old := r.ok.m0old }
    have := r.ok.obs k o hk
    cases o with
    | ce T cs =>
      obtain ⟨b, vals, e1, e2, e3, e4⟩ := this
      exact ⟨b, vals, e1, e2, e3, fun j x hj => ⟨(e4 j x hj).1, (e4 j x hj).2.tr_same hs⟩⟩
    | ar T sz m => exact this
    | mu T sz ver xs =>
      obtain ⟨cells, e, e2, e3⟩ := this
      exact ⟨cells, e, e2, fun i row j x hi hj => (e3 i row j x hi hj).stp hs⟩
  have hc0 : Clos .any l.toArray (Array.replicate l.toArray.size false) := by
    refine ⟨by simp, fun k o hk hl => ?_⟩
    have hlt := (Array.getElem?_eq_some_iff.1 hk).1
    simp at hlt
    simp [hlt] at hl
  have hset : setS gens (Array.replicate l.toArray.size false) = [] := by
    rw [setS, List.filter_eq_nil_iff]
    intro g _
    by_cases hlt : g < l.length <;> simp [hlt]
  have hE : ∀ r r', agr r r' → (∃ r0, agr r r0 ∧ Q .normal ⟨r0, och gens⟩) → (∃ r0, agr r' r0 ∧ Q .normal ⟨r0, och gens⟩) :=
    fun r r' he ⟨r0, h1, h2⟩ => ⟨r0, fun t => (he t).symm.trans (h1 t), h2⟩
  have hY : ∀ i x r r', agr r r' → YS P cx n .any l.toArray gens exs keys och i x r → YS P cx n .any l.toArray gens exs keys och i x r' :=
    fun i x r r' he hy o ho => ⟨(hy o ho).1, fun L hL r2 hr2 => (hy o ho).2 L hL r2 (fun t ht => (hr2 t ht).trans (he t).symm)⟩
  have hlex := anyS_lex (ex := fun i => exs.contains i) hY hE
    (fun i x r r' o ho hex hr hy o' ho' => ⟨(hy o' ho').1, fun L hL r2 hr2 => (hy o' ho').2 L hL r2 (fun t ht => by
      rcases ht with ht | ht
      · rw [hex] at ht; cases ht
      · rw [ho] at ho'; cases ho'
        exact (hr2 t (.inr ht)).trans (hr t ht))⟩)
    (fun i j hi hli hlj => by
      have h1 := List.all_eq_true.1 hx i (by simpa using hi)
      have h2 := List.all_eq_true.1 h1 j (by simpa using hlj)
      simp only [Bool.or_eq_true] at h2
      rcases h2 with (h2 | h2) | h2
      · exact .inl (Nat.eq_of_beq_eq_true h2)
      · exact .inr (.inl ⟨_, h2⟩)
      · exact .inr (.inr ⟨_, h2⟩))
    l 0 (Array.replicate l.toArray.size false) regs (by simp) hc0 (by simpa using hB) h
  refine wp_region_any hm (wpAny_of_anyS (gens := gens) (exs := exs) (keys := keys) (och := och) (Q := fun s => ∃ s0, Eqv s s0 ∧ Q .normal s0) (fun s a w r ⟨s0, he, hq⟩ => ⟨s0, he.rel r, hq⟩)
    (fun r ⟨r0, h1, h2⟩ => ⟨⟨r0, och gens⟩, ⟨h1, rfl⟩, h2⟩) hE _ _ regs a _ hc0 (fun q hq _ => List.all_eq_true.1 hk q hq) (by rw [hset]; exact r') ?_)
  simpa using hlex
end

/-- The same registers, fewer objects or in another order. -/
theorem Le.objs {P : Program} {cx : Cx} {n : Nat} {regs : Regs} {objs objs' : Obs} (ho : LeO objs objs') (hn : nodupB (objs'.map (·.1)) = true) : Le P cx n ⟨regs, objs⟩ ⟨regs, objs'⟩ := fun a w ⟨own, r⟩ => by
  obtain ⟨hok, hle⟩ := r.ok.part ho.mem (nodupB_spec hn) cx.M0 (fun b i h => .inl h) (fun k o b hk hb => r.ok.m0 k o b (ho.mem _ hk) hb)
  refine ⟨own, { defs := r.defs, size := r.size, ok := hok, regs := fun t y hy => (r.regs t y hy).part r.ok ho.mem hle, stp := r.stp.less hle, fix := fun k o hk => (r.fix k o hk).trans ?_, fr := ⟨r.fr.keep, fun k o b hk hb => r.fr.loc k o b (ho.mem _ hk) hb, r.fr.size⟩ }⟩
  cases h3 : hwOf objs' k with
  | none => exact .inr (.inl ⟨h3, .inl rfl⟩)
  | some m =>
    obtain ⟨oo, hm, hwi⟩ := hwOf_some h3
    exact .inl ⟨rfl, by rw [h3, hwOf_of r.ok.keys (ho.mem _ hm) hwi]⟩

/-- The objects, by which have run. -/
def oget : List (List Nat × Obs) → List Nat → Obs
  | [], _ => []
  | (l, o) :: r, L => bif l == L then o else oget r L

def noAll (ops : Array Oper) (keys : List (Nat × Nat)) (i : Nat) (x : AV) : Bool := keys.all fun a => Nat.beq a.1 i || needs .any ops ops.size a.1 i || x.no a.2

section
variable {P : Program} {cx : Cx} {n : Nat} {ops : Array Oper} {gens exs : List Nat} {keys : List (Nat × Nat)} {och : List Nat → Obs} {E : Regs → Prop} {o : Oper} {rest : List Oper} {regs : Regs} {k : Nat}

def atC (P : Program) (cx : Cx) (n : Nat) (ops : Array Oper) (o : Oper) (gens : List Nat) (och : List Nat → Obs) (k : Nat) (d : Option Nat) (x : AV) (lk : Regs) : List (List Nat) → Prop
  | [] => True
  | L :: r => (∀ regs', AWl P cx n ops [o] (fun e s1 => e = .normal ∧ ∃ r2, agr r2 (putd d x (lk ++ regs')) ∧ Le P cx n s1 ⟨r2, och (nextS gens L k)⟩) ⟨lk ++ regs', och L⟩) ∧ atC P cx n ops o gens och k d x lk r
theorem atC_mem {d : Option Nat} {x : AV} {lk : Regs} : ∀ {cs : List (List Nat)}, atC P cx n ops o gens och k d x lk cs → ∀ L ∈ cs, ∀ regs', AWl P cx n ops [o] (fun e s1 => e = .normal ∧ ∃ r2, agr r2 (putd d x (lk ++ regs')) ∧ Le P cx n s1 ⟨r2, och (nextS gens L k)⟩) ⟨lk ++ regs', och L⟩
  | L :: r, h, L', hm => by
    rcases List.mem_cons.1 hm with rfl | hm
    · exact h.1
    · exact atC_mem h.2 L' hm

theorem noAll_spec {x : AV} (h : noAll ops keys k x = true) : ∀ a ∈ keys, a.1 ≠ k → needs .any ops ops.size a.1 k = false → x.no a.2 = true := fun a ha h1 h2 => by
  have := List.all_eq_true.1 h a ha
  simp only [Bool.or_eq_true, h2, Bool.false_eq_true, or_false] at this
  rcases this with this | this
  · exact absurd (Nat.eq_of_beq_eq_true this) h1
  · exact this

/-- An operation that looks at a few registers. -/
theorem awd_s {d : Option Nat} (cs : List (List Nat)) (lk : Regs) (hl : Look regs lk) (ho : ops[k]? = some o) (hk : looks lk o ops = true) (hd : o.dst = d) (hc : consS .any ops gens k = cs)
    (h : ∃ x, atC P cx n ops o gens och k d x lk cs ∧ noAll ops keys k x = true ∧ AWd (YS P cx n .any ops gens exs keys och) E (k + 1) rest (putd d x regs)) : AWd (YS P cx n .any ops gens exs keys och) E k (o :: rest) regs := by
  obtain ⟨x, h, hno, kk⟩ := h
  subst hd
  refine ⟨x, fun o' ho' => ⟨noAll_spec hno, fun L hL r' hr' _ a w hr => ?_⟩, kk⟩
  rw [ho] at ho'; cases ho'
  have hE : agr r' (lk ++ r') := fun t => by
    by_cases ht : t ∈ lk.map (·.1)
    · simp only [looks, Bool.and_eq_true] at hk
      have h3 := List.all_eq_true.1 hk.2 t ht
      rw [get_append_in ht, hl.get t ht]
      exact hr' t (.inr (by simpa using h3))
    · rw [get_append_out ht]
  have hEv : Eqv ⟨r', och L⟩ ⟨lk ++ r', och L⟩ := ⟨hE, rfl⟩
  have := atC_mem h L (hc ▸ hL) r' a w (hEv.rel hr)
  refine wpl_mono this ?_ (fun ⟨_, _, _, _, h4, _⟩ => by cases h4)
  rintro e a1 w1 ⟨s1, q1, q2, r2, q3, q4⟩
  exact ⟨_, q1, q2, r2, fun t => (q3 t).trans ((agr_putd (fun t => (hE t).symm) _ _) t), q4⟩

/-- One that all others stand before or behind. -/
theorem awd_e {d : Option Nat} {objs objs' : Obs} (L : List Nat) (ho : ops[k]? = some o) (hx : exs.contains k = true) (hd : o.dst = d) (hc : consS .any ops gens k = [L]) (h0 : och L = objs) (h1 : och (nextS gens L k) = objs')
    (h : ∃ x, AWl P cx n ops [o] (fun e s1 => e = .normal ∧ s1 = ⟨putd d x regs, objs'⟩) ⟨regs, objs⟩ ∧ noAll ops keys k x = true ∧ AWd (YS P cx n .any ops gens exs keys och) E (k + 1) rest (putd d x regs)) : AWd (YS P cx n .any ops gens exs keys och) E k (o :: rest) regs := by
  obtain ⟨x, h, hno, kk⟩ := h
  subst hd h0 h1
  refine ⟨x, fun o' ho' => ⟨noAll_spec hno, fun L' hL r' hr' _ a w hr => ?_⟩, kk⟩
  rw [ho] at ho'; cases ho'
  rw [hc, List.mem_singleton] at hL
  subst hL
  have hE : agr r' regs := fun t => hr' t (.inl hx)
  have hEv : Eqv ⟨r', och L'⟩ ⟨regs, och L'⟩ := ⟨hE, rfl⟩
  refine wpl_mono (h a w (hEv.rel hr)) ?_ (fun ⟨_, _, _, _, h4, _⟩ => by cases h4)
  rintro e a1 w1 ⟨s1, q1, q2, q3⟩
  subst q3
  exact ⟨_, q1, q2, _, agr_putd (fun t => (hE t).symm) _ _, Le.refl⟩

def leC (gens : List Nat) (och : List Nat → Obs) (k d : Nat) (ob : Ob) : List (List Nat) → Prop
  | [] => True
  | L :: r => (LeO ((d, ob) :: och L) (och (nextS gens L k)) ∧ nodupB ((och (nextS gens L k)).map (·.1)) = true) ∧ leC gens och k d ob r
theorem leC_mem {d : Nat} {ob : Ob} : ∀ {cs : List (List Nat)}, leC gens och k d ob cs → ∀ L ∈ cs, LeO ((d, ob) :: och L) (och (nextS gens L k)) ∧ nodupB ((och (nextS gens L k)).map (·.1)) = true
  | L :: r, h, L', hm => by
    rcases List.mem_cons.1 hm with rfl | hm
    · exact h.1
    · exact leC_mem h.2 L' hm

/-- A new object. -/
theorem awd_new {T d : Nat} {zs : List Value} {q : List AV} {ty : Nat} {pos : String} {aft : Array Edge} (cs : List (List Nat)) (tz : TZ P T zs) (hq : zerq zs = some q) (hdn : Nat.blt d n = true) (h0 : get cx.objs0 d = none) (ho : ops[k]? = some ⟨some d, .alloc T, ty, pos, aft, none⟩) (hkey : keys.contains (k, d) = true)
    (hc : consS .any ops gens k = cs) (hfo : (cs.all fun L => freshO d (och L)) = true) (hno : noAll ops keys k (.ptr d 0) = true)
    (hle : leC gens och k d (.ce T q) cs)
    (kk : AWd (YS P cx n .any ops gens exs keys och) E (k + 1) rest ((d, .ptr d 0) :: regs)) : AWd (YS P cx n .any ops gens exs keys och) E k (⟨some d, .alloc T, ty, pos, aft, none⟩ :: rest) regs := by
  refine ⟨.ptr d 0, fun o' ho' => ⟨noAll_spec hno, fun L hL r' hr' hf => ?_⟩, kk⟩
  rw [ho] at ho'; cases ho'
  rw [hc] at hL
  have hfr := hf (k, d) (by simpa using hkey) rfl
  refine x_alloc tz hq (by simp only [fresh, Bool.and_eq_true]; exact ⟨hfr, List.all_eq_true.1 hfo L hL⟩) h0 hdn (awl_nil ⟨rfl, _, fun _ => rfl, ?_⟩)
  exact Le.objs (leC_mem hle L hL).1 (leC_mem hle L hL).2

theorem awl_doneS {d : Option Nat} {x : AV} {r r1 : Regs} {objs objs' : Obs} (h1 : r1 = putd d x r) (h : objs = objs') : AWl P cx n ops [] (fun e s1 => e = .normal ∧ ∃ r2, agr r2 (putd d x r) ∧ Le P cx n s1 ⟨r2, objs'⟩) ⟨r1, objs⟩ := by
  subst h h1; exact awl_nil ⟨rfl, _, fun _ => rfl, Le.refl⟩
theorem awd_endS {Q : S → Prop} {objs : Obs} {Y : Nat → AV → Regs → Prop} (h : Q ⟨regs, objs⟩) : AWd Y (fun r => ∃ r0, agr r r0 ∧ Q ⟨r0, objs⟩) k [] regs := ⟨regs, fun _ => rfl, h⟩
end
end Go.Ab
