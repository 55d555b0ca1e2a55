/- Keys under other names; lengths are bounded. -/
import Derived.Test.YtnennmlpaijedaaAb11
set_option linter.unusedVariables false
set_option linter.unusedSectionVars false
set_option linter.unusedSimpArgs false
namespace Go.Ab
open Go Go.RowKit

mutual
def AV.ren (ρ : Nat → Nat) : AV → AV
  | .p x => .p x
  | .any => .any
  | .ptr k o => .ptr (ρ k) o
  | .ts k sz xs => .ts (ρ k) sz xs
  | .ag cs => .ag (AV.renL ρ cs)
  | .tp cs => .tp (AV.renL ρ cs)
  | .fv f a b => .fv f (AV.renL ρ a) (AV.renL ρ b)
  | .tm k ver => .tm (ρ k) ver
  | .pe k ver off => .pe (ρ k) ver off
  | .ifc T x => .ifc T (x.ren ρ)
def AV.renL (ρ : Nat → Nat) : List AV → List AV
  | [] => []
  | x :: r => x.ren ρ :: AV.renL ρ r
end
theorem AV.renL_get {ρ : Nat → Nat} : ∀ (l : List AV) (j : Nat), (AV.renL ρ l)[j]? = l[j]?.map (AV.ren ρ)
  | [], j => by simp [AV.renL]
  | x :: r, 0 => by simp [AV.renL]
  | x :: r, j + 1 => by simp [AV.renL, AV.renL_get r j]
theorem AV.renL_len {ρ : Nat → Nat} : ∀ (l : List AV), (AV.renL ρ l).length = l.length
  | [] => rfl
  | x :: r => by simp [AV.renL, AV.renL_len r]

def Ob.ren (ρ : Nat → Nat) : Ob → Ob
  | .ce T cs => .ce T (AV.renL ρ cs)
  | .ar T sz n => .ar T sz n
  | .mu T sz ver xs => .mu T sz ver xs
def renO (ρ : Nat → Nat) : Obs → Obs
  | [] => []
  | (k, o) :: r => (ρ k, o.ren ρ) :: renO ρ r
theorem renO_eq (ρ : Nat → Nat) : ∀ l : Obs, renO ρ l = l.map fun p => (ρ p.1, p.2.ren ρ)
  | [] => rfl
  | (k, o) :: r => by simp [renO, renO_eq ρ r]

theorem RepA.ren_of {w : World} {M : Nat → Nat → Prop} {own : Nat → Value} {hw : Nat → Option Nat} {ρ : Nat → Nat} {x : AV} {v : Value} (h : RepA w M (own ∘ ρ) (hw ∘ ρ) x v) : RepA w M own hw (x.ren ρ) v := by
  induction h with
  | p h => exact .p h
  | ag vs hl h1 _ ih =>
    refine .ag vs (hl.trans (AV.renL_len _).symm) h1 fun j x hj => ?_
    rw [AV.renL_get] at hj
    obtain ⟨y, hy, rfl⟩ := Option.map_eq_some_iff.1 hj
    exact ih j y hy
  | ptr h => exact .ptr h
  | ts h ho => exact .ts h ho
  | tp vs hl _ ih =>
    refine .tp vs (hl.trans (AV.renL_len _).symm) fun j x hj => ?_
    rw [AV.renL_get] at hj
    obtain ⟨y, hy, rfl⟩ := Option.map_eq_some_iff.1 hj
    exact ih j y hy
  | fv vf vc hf hc _ _ ih1 ih2 =>
    refine .fv vf vc (hf.trans (AV.renL_len _).symm) (hc.trans (AV.renL_len _).symm) (fun j x hj => ?_) (fun j x hj => ?_)
    · rw [AV.renL_get] at hj
      obtain ⟨y, hy, rfl⟩ := Option.map_eq_some_iff.1 hj
      exact ih1 j y hy
    · rw [AV.renL_get] at hj
      obtain ⟨y, hy, rfl⟩ := Option.map_eq_some_iff.1 hj
      exact ih2 j y hy
  | any => exact .any
  | tm h1 ho => exact .tm h1 ho
  | pe h1 ho => exact .pe h1 ho
  | ifc _ ih => exact .ifc ih

theorem AV.ren_ren {ρ σ : Nat → Nat} (h : ∀ k, σ (ρ k) = k) : ∀ x : AV, (x.ren ρ).ren σ = x := by
  intro x
  exact AV.rec (motive_1 := fun x => (x.ren ρ).ren σ = x) (motive_2 := fun l => AV.renL σ (AV.renL ρ l) = l)
    (fun x => rfl) (fun cs ih => by simp only [AV.ren]; rw [ih]) (fun k o => by simp only [AV.ren, h]) (fun k sz xs => by simp only [AV.ren, h]) (fun vs ih => by simp only [AV.ren]; rw [ih])
    (fun f a b iha ihb => by simp only [AV.ren]; rw [iha, ihb]) rfl (fun k ver => by simp only [AV.ren, h]) (fun k ver off => by simp only [AV.ren, h]) (fun T x ih => by simp only [AV.ren]; rw [ih]) rfl (fun x r ihx ihr => by simp only [AV.renL]; rw [ihx, ihr]) x

theorem RepA.ren_back {w : World} {M : Nat → Nat → Prop} {own : Nat → Value} {hw : Nat → Option Nat} {ρ σ : Nat → Nat} (h1 : ∀ k, σ (ρ k) = k) (h2 : ∀ k, ρ (σ k) = k) {x : AV} {v : Value} (h : RepA w M own hw (x.ren ρ) v) : RepA w M (own ∘ ρ) (hw ∘ ρ) x v := by
  have e : RepA w M ((own ∘ ρ) ∘ σ) ((hw ∘ ρ) ∘ σ) (x.ren ρ) v := by
    have e1 : (own ∘ ρ) ∘ σ = own := by funext k; simp [h2]
    have e2 : (hw ∘ ρ) ∘ σ = hw := by funext k; simp [h2]
    rw [e1, e2]; exact h
  have := RepA.ren_of (own := own ∘ ρ) (hw := hw ∘ ρ) (ρ := σ) e
  rwa [AV.ren_ren h1] at this

theorem Has.ren {ρ : Nat → Nat} {k : Nat} : ∀ {x : AV}, Has k (x.ren ρ) → ∃ j, Has j x ∧ ρ j = k := by
  intro x
  have key : ∀ x : AV, ∀ k, Has k (x.ren ρ) → ∃ j, Has j x ∧ ρ j = k := by
    intro x
    refine AV.rec (motive_1 := fun x => ∀ k, Has k (x.ren ρ) → ∃ j, Has j x ∧ ρ j = k) (motive_2 := fun l => ∀ y ∈ AV.renL ρ l, ∀ k, Has k y → ∃ j z, z ∈ l ∧ Has j z ∧ ρ j = k)
      (fun x k h => by cases h) (fun cs ih k h => by
        cases h with
        | ag hm hx => obtain ⟨j, z, h1, h2, h3⟩ := ih _ hm _ hx; exact ⟨j, .ag h1 h2, h3⟩)
      (fun k0 o k h => by cases h with | ptr => exact ⟨k0, .ptr _, rfl⟩) (fun k0 sz xs k h => by cases h with | ts => exact ⟨k0, .ts _ _, rfl⟩)
      (fun cs ih k h => by
        cases h with
        | tp hm hx => obtain ⟨j, z, h1, h2, h3⟩ := ih _ hm _ hx; exact ⟨j, .tp h1 h2, h3⟩)
      (fun f a b iha ihb k h => by
        cases h with
        | fv1 hm hx => obtain ⟨j, z, h1, h2, h3⟩ := iha _ hm _ hx; exact ⟨j, .fv1 h1 h2, h3⟩
        | fv2 hm hx => obtain ⟨j, z, h1, h2, h3⟩ := ihb _ hm _ hx; exact ⟨j, .fv2 h1 h2, h3⟩)
      (fun k h => by cases h) (fun k0 ver k h => by cases h with | tm => exact ⟨k0, .tm _, rfl⟩) (fun k0 ver off k h => by cases h with | pe => exact ⟨k0, .pe _ _, rfl⟩)
      (fun T x ih k h => by
        cases h with
        | ifc hx => obtain ⟨j, h1, h2⟩ := ih _ hx; exact ⟨j, .ifc h1, h2⟩) (fun y h => by cases h) (fun x r ihx ihr y h k hk => by
        simp only [AV.renL] at h
        rcases List.mem_cons.1 h with rfl | h
        · obtain ⟨j, h1, h2⟩ := ihx k hk; exact ⟨j, x, List.mem_cons_self .., h1, h2⟩
        · obtain ⟨j, z, h1, h2, h3⟩ := ihr y h k hk; exact ⟨j, z, List.mem_cons_of_mem _ h1, h2, h3⟩) x
  exact key x k

theorem AV.mem_renL {ρ : Nat → Nat} {y : AV} : ∀ {l : List AV}, y ∈ AV.renL ρ l → ∃ z ∈ l, y = z.ren ρ
  | x :: r, h => by
    simp only [AV.renL] at h
    rcases List.mem_cons.1 h with rfl | h
    · exact ⟨x, List.mem_cons_self .., rfl⟩
    · obtain ⟨z, h1, h2⟩ := AV.mem_renL h; exact ⟨z, List.mem_cons_of_mem _ h1, h2⟩

theorem renO_mem {ρ : Nat → Nat} {l : Obs} {k : Nat} {o : Ob} : (k, o) ∈ renO ρ l ↔ ∃ k' o', (k', o') ∈ l ∧ k = ρ k' ∧ o = o'.ren ρ := by
  rw [renO_eq, List.mem_map]
  constructor
  · rintro ⟨⟨k', o'⟩, h, e⟩; cases e; exact ⟨k', o', h, rfl, rfl⟩
  · rintro ⟨k', o', h, rfl, rfl⟩; exact ⟨(k', o'), h, rfl⟩

section
variable {P : Program} {ρ σ : Nat → Nat} (h1 : ∀ k, σ (ρ k) = k) (h2 : ∀ k, ρ (σ k) = k)
include h1 h2

theorem hwOf_ren (objs : Obs) (hn : (objs.map (·.1)).Nodup) : hwOf (renO ρ objs) ∘ ρ = hwOf objs := by
  have hn' : ((renO ρ objs).map (·.1)).Nodup := by
    rw [renO_eq, List.map_map]
    have : ((fun x => x.1) ∘ fun (p : Nat × Ob) => (ρ p.1, p.2.ren ρ)) = fun p => ρ p.1 := rfl
    rw [this]
    have e : (objs.map fun p => ρ p.1) = (objs.map (·.1)).map ρ := by simp
    rw [e]
    exact List.Pairwise.map ρ (fun a b hne he => hne (by rw [← h1 a, ← h1 b, he])) hn
  funext k
  show hwOf (renO ρ objs) (ρ k) = hwOf objs k
  cases h3 : hwOf objs k with
  | some m =>
    obtain ⟨oo, hm, ho⟩ := hwOf_some h3
    exact hwOf_of hn' (renO_mem.2 ⟨k, _, hm, rfl, rfl⟩) (by rcases ho with ⟨T, sz, rfl⟩ | ⟨T, sz, xs, rfl⟩; exact .inl ⟨T, sz, rfl⟩; exact .inr ⟨T, sz, xs, rfl⟩)
  | none =>
    cases h4 : hwOf (renO ρ objs) (ρ k) with
    | none => rfl
    | some m =>
      obtain ⟨oo, hm, ho⟩ := hwOf_some h4
      obtain ⟨k', o', e1, e2, e3⟩ := renO_mem.1 hm
      have : k = k' := by rw [← h1 k, ← h1 k', e2]
      subst this
      cases o' with
      | ce => subst e3; rcases ho with ⟨_, _, h⟩ | ⟨_, _, _, h⟩ <;> cases h
      | ar T' sz' m' =>
        subst e3
        rcases ho with ⟨_, _, h⟩ | ⟨_, _, _, h⟩
        · cases h; rw [hwOf_of hn e1 (.inl ⟨_, _, rfl⟩)] at h3; cases h3
        · cases h
      | mu T' sz' v' xs' =>
        subst e3
        rcases ho with ⟨_, _, h⟩ | ⟨_, _, _, h⟩
        · cases h
        · cases h; rw [hwOf_of hn e1 (.inr ⟨_, _, _, rfl⟩)] at h3; cases h3

theorem Mu_ren (M0 : Nat → Nat → Prop) (own : Nat → Value) (objs : Obs) : Mu M0 own (renO ρ objs) = Mu M0 (own ∘ ρ) objs := by
  funext b i
  apply propext
  constructor
  · rintro (h | ⟨k, o, hk, hm⟩)
    · exact .inl h
    · obtain ⟨k', o', e1, rfl, rfl⟩ := renO_mem.1 hk
      exact .inr ⟨k', o', e1, by cases o' <;> exact hm⟩
  · rintro (h | ⟨k, o, hk, hm⟩)
    · exact .inl h
    · exact .inr ⟨ρ k, o.ren ρ, renO_mem.2 ⟨k, o, hk, rfl, rfl⟩, by cases o <;> exact hm⟩

theorem OK.ren {w : World} {M0 : Nat → Nat → Prop} {own : Nat → Value} {objs : Obs} : OK P w M0 own (renO ρ objs) ↔ OK P w M0 (own ∘ ρ) objs := by
  have hk : ((renO ρ objs).map (·.1)).Nodup ↔ (objs.map (·.1)).Nodup := by
    rw [renO_eq, List.map_map]
    have e : (objs.map ((fun x => x.1) ∘ fun (p : Nat × Ob) => (ρ p.1, p.2.ren ρ))) = (objs.map (·.1)).map ρ := by simp
    rw [e]
    constructor
    · intro h
      exact (List.pairwise_map.1 h).imp fun hne he => hne (by rw [he])
    · intro h
      exact List.Pairwise.map ρ (fun a b hne he => hne (by rw [← h1 a, ← h1 b, he])) h
  constructor
  · intro h
    have hn := hk.1 h.keys
    refine { obs := fun k o hm => ?_, keys := hn, inj := fun k o k' o' a b hne => h.inj _ _ _ _ (renO_mem.2 ⟨k, o, a, rfl, rfl⟩) (renO_mem.2 ⟨k', o', b, rfl, rfl⟩) (fun e => hne (by rw [← h1 k, ← h1 k', e])), m0 := fun k o b a => h.m0 _ _ b (renO_mem.2 ⟨k, o, a, rfl, rfl⟩), m0old := h.m0old }
    have := h.obs _ _ (renO_mem.2 ⟨k, o, hm, rfl, rfl⟩)
    rw [Mu_ren h1 h2] at this
    cases o with
    | ce T cs =>
      obtain ⟨b, vals, e1, e2, e3, e4⟩ := this
      refine ⟨b, vals, e1, e2, e3.trans (AV.renL_len _), fun j x hj => ?_⟩
      have := e4 j (x.ren ρ) (by rw [AV.renL_get, hj]; rfl)
      refine ⟨by have h3 := this.1; cases x <;> exact h3, ?_⟩
      have h4 := RepA.ren_back h1 h2 this.2
      rwa [hwOf_ren h1 h2 objs hn] at h4
    | ar T sz m => exact this
    | mu T sz ver xs => exact this
  · intro h
    refine { obs := fun k o hm => ?_, keys := hk.2 h.keys, inj := fun k o k' o' a b hne => ?_, m0 := fun k o b a => ?_, m0old := h.m0old }
    · obtain ⟨k', o', e1, rfl, rfl⟩ := renO_mem.1 hm
      have := h.obs k' o' e1
      rw [Mu_ren h1 h2]
      cases o' with
      | ce T cs =>
        obtain ⟨b, vals, e1, e2, e3, e4⟩ := this
        refine ⟨b, vals, e1, e2, e3.trans (AV.renL_len _).symm, fun j x hj => ?_⟩
        rw [AV.renL_get] at hj
        obtain ⟨y, hy, rfl⟩ := Option.map_eq_some_iff.1 hj
        have := e4 j y hy
        refine ⟨by have h3 := this.1; cases y <;> exact h3, RepA.ren_of ?_⟩
        rw [hwOf_ren h1 h2 objs h.keys]
        exact this.2
      | ar T sz m => exact this
      | mu T sz ver xs => exact this
    · obtain ⟨q, p, e1, rfl, rfl⟩ := renO_mem.1 a
      obtain ⟨q', p', e2, rfl, rfl⟩ := renO_mem.1 b
      exact h.inj q p q' p' e1 e2 (fun e => hne (by rw [e]))
    · obtain ⟨q, p, e1, rfl, rfl⟩ := renO_mem.1 a
      exact h.m0 q p b e1

/-- A contract under other keys. -/
theorem Con.ren {f : Nat} {args : List AV} {objs : Obs} {R : AV → Obs → Prop} (h : Con P f args objs R) :
    Con P f (AV.renL ρ args) (renO ρ objs) (fun r o => ∃ r0 o0, R r0 o0 ∧ r = r0.ren ρ ∧ o = renO ρ o0) := by
  intro w M0 own vals hok harg
  have hok' := (OK.ren h1 h2).1 hok
  have harg' : ArgsOK w (Mu M0 (own ∘ ρ) objs) (own ∘ ρ) (hwOf objs) args vals := by
    refine ⟨harg.1.trans (AV.renL_len _), fun j x hj => ?_⟩
    have := harg.2 j (x.ren ρ) (by rw [AV.renL_get, hj]; rfl)
    rw [Mu_ren h1 h2] at this
    have h4 := RepA.ren_back h1 h2 this
    rwa [hwOf_ren h1 h2 objs hok'.keys] at h4
  refine (h w M0 (own ∘ ρ) vals hok' harg').mono ?_
  rintro e w' ⟨r, o, own', v, rfl, g1, g2, g3, g4, g5, g6, g7⟩
  have ec : (own' ∘ σ) ∘ ρ = own' := by funext k; simp [h1]
  have hokr : OK P w' M0 (own' ∘ σ) (renO ρ o) := (OK.ren h1 h2).2 (by rw [ec]; exact g2)
  have hMe : Mu M0 (own' ∘ σ) (renO ρ o) = Mu M0 own' o := by rw [Mu_ren h1 h2, ec]
  refine ⟨r.ren ρ, renO ρ o, own' ∘ σ, v, rfl, ⟨r, o, g1, rfl, rfl⟩, hokr, ?_, ?_, fun k ob hk => ?_, ⟨fun k hk => ?_, fun k T cs hk y hy q hq => ?_⟩, ⟨fun b hb hn => g7.keep b hb fun k ob hk => ?_, fun k ob b hk hb => ?_, g7.size⟩⟩
  · rw [hMe]
    refine RepA.ren_of ?_
    rw [ec, hwOf_ren h1 h2 o g2.keys]; exact g3
  · rw [hMe, Mu_ren h1 h2]; exact g4
  · obtain ⟨k', o', e1, rfl, rfl⟩ := renO_mem.1 hk
    have := g5 k' o' e1
    rw [← hwOf_ren h1 h2 o g2.keys, ← hwOf_ren h1 h2 objs hok'.keys] at this
    unfold Kr at this ⊢
    simp only [Function.comp, h1] at this ⊢
    exact this
  · obtain ⟨j, hj, rfl⟩ := hk.ren
    obtain ⟨⟨k', o'⟩, hm, e⟩ := List.mem_map.1 (g6.1 j hj)
    simp only at e; subst e
    exact List.mem_map_of_mem (f := (·.1)) (renO_mem.2 ⟨k', o', hm, rfl, rfl⟩)
  · obtain ⟨k', o', e1, e2, e3⟩ := renO_mem.1 hk
    cases o' with
    | ar => cases e3
    | mu => cases e3
    | ce T' cs' =>
      cases e3
      obtain ⟨z, hz, rfl⟩ := AV.mem_renL hy
      obtain ⟨j, hj, rfl⟩ := hq.ren
      obtain ⟨⟨k2, o2⟩, hm, e⟩ := List.mem_map.1 (g6.2 k' T cs' e1 z hz j hj)
      simp only at e; subst e
      exact List.mem_map_of_mem (f := (·.1)) (renO_mem.2 ⟨k2, o2, hm, rfl, rfl⟩)
  · exact hn (ρ k) (ob.ren ρ) (renO_mem.2 ⟨k, ob, hk, rfl, rfl⟩)
  · obtain ⟨k', o', e1, rfl, rfl⟩ := renO_mem.1 hk
    simp only [Function.comp, h1] at hb
    rcases g7.loc k' o' b e1 hb with ⟨q, p, e2, e3⟩ | e2
    · exact .inl ⟨ρ q, p.ren ρ, renO_mem.2 ⟨q, p, e2, rfl, rfl⟩, e3⟩
    · exact .inr e2
end

/-- Two keys change places. -/
def sw (a b k : Nat) : Nat := bif Nat.beq k a then b else bif Nat.beq k b then a else k
theorem sw_sw (a b k : Nat) : sw a b (sw a b k) = k := by
  unfold sw
  by_cases h1 : k = a
  · subst h1
    by_cases h2 : b = k
    · subst h2; simp [Nat.beq_refl]
    · have : Nat.beq b k = false := by
        cases h : Nat.beq b k with
        | false => rfl
        | true => exact absurd (Nat.eq_of_beq_eq_true h) h2
      simp [Nat.beq_refl, this]
  · have e1 : Nat.beq k a = false := by
      cases h : Nat.beq k a with
      | false => rfl
      | true => exact absurd (Nat.eq_of_beq_eq_true h) h1
    by_cases h2 : k = b
    · subst h2; simp [e1, Nat.beq_refl]
    · have e2 : Nat.beq k b = false := by
        cases h : Nat.beq k b with
        | false => rfl
        | true => exact absurd (Nat.eq_of_beq_eq_true h) h2
      simp [e1, e2]

theorem Con.sw {P : Program} {f : Nat} {args : List AV} {objs : Obs} {R : AV → Obs → Prop} (h : Con P f args objs R) (a b : Nat) :
    Con P f (AV.renL (sw a b) args) (renO (Ab.sw a b) objs) (fun r o => ∃ r0 o0, R r0 o0 ∧ r = r0.ren (Ab.sw a b) ∧ o = renO (Ab.sw a b) o0) := h.ren (sw_sw a b) (sw_sw a b)
theorem sw_a (a b : Nat) : Ab.sw a b a = b := by simp [Ab.sw, Nat.beq_refl]

section
variable {P : Program} {cx : Cx} {n : Nat} {Q : Exit → S → Prop} {regs : List (Nat × AV)} {objs : Obs} {ops : Array Oper} {rest : List Oper} {d : Nat} {pos : String} {aft : Array Edge} {ty : Nat}

theorem x_len {T E rty : Nat} {x : Operand} {av : AV} {sz : Nat} {xs : List (List PV)} (si : SI P T E) (hx : S.ev ⟨regs, objs⟩ x = some av) (hr : av.rows = some (sz, xs)) (hd : Nat.blt d n = true)
    (kk : xs.length ≤ 9223372036854775807 → AWl P cx n ops rest Q ⟨(d, .p (I xs.length)) :: regs, objs⟩) :
    AWl P cx n ops (⟨some d, .call ⟨.builtin .len, #[x], #[T]⟩, rty, pos, aft, none⟩ :: rest) Q ⟨regs, objs⟩ := fun a w ⟨own, r⟩ => by
  obtain ⟨ad, cap, hv, h1, h2⟩ := ((r.ev hx).rows hr).sl_len
  exact awl_len si hx hr hd (kk (Nat.le_trans h1 h2)) a w ⟨own, r⟩
end
end Go.Ab
