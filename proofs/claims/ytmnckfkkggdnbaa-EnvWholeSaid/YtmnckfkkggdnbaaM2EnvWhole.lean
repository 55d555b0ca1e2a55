/- Texts of our own, laid together. -/
import Derived.Still
import Derived.Laws.StructEq
import Derived.Laws.Sem
import Derived.Laws.Small
import Derived.Laws.Pointers
import Derived.Laws.Cover3
import Derived.Test.YtmnckfkkggdnbaaM1EnvWhole
/- Keys under other names; lengths are bounded. -/
set_option linter.unusedVariables false
set_option linter.unusedSectionVars false
set_option linter.unusedSimpArgs false
namespace Go.Ab
open Go Go.RowKit

mutual
def AV.ren (ρ : Nat → Nat) : AV → AV
  | .p x => .p x
  | .any => .any
  | .ptr k o => .ptr (ρ k) o
  | .ts k sz xs => .ts (ρ k) sz xs
  | .ag cs => .ag (AV.renL ρ cs)
  | .tp cs => .tp (AV.renL ρ cs)
  | .fv f a b => .fv f (AV.renL ρ a) (AV.renL ρ b)
  | .tm k ver => .tm (ρ k) ver
  | .pe k ver off => .pe (ρ k) ver off
  | .ifc T x => .ifc T (x.ren ρ)
  | .nn k sz xs => .nn (ρ k) sz xs
def AV.renL (ρ : Nat → Nat) : List AV → List AV
  | [] => []
  | x :: r => x.ren ρ :: AV.renL ρ r
end
theorem AV.renL_get {ρ : Nat → Nat} : ∀ (l : List AV) (j : Nat), (AV.renL ρ l)[j]? = l[j]?.map (AV.ren ρ)
  | [], j => by simp [AV.renL]
  | x :: r, 0 => by simp [AV.renL]
  | x :: r, j + 1 => by simp [AV.renL, AV.renL_get r j]
theorem AV.renL_len {ρ : Nat → Nat} : ∀ (l : List AV), (AV.renL ρ l).length = l.length
  | [] => rfl
  | x :: r => by simp [AV.renL, AV.renL_len r]

def Ob.ren (ρ : Nat → Nat) : Ob → Ob
  | .ce T cs => .ce T (AV.renL ρ cs)
  | .ar T sz n => .ar T sz n
  | .mu T sz ver xs => .mu T sz ver xs
  | .mp ver l => .mp ver l
def renO (ρ : Nat → Nat) : Obs → Obs
  | [] => []
  | (k, o) :: r => (ρ k, o.ren ρ) :: renO ρ r
theorem renO_eq (ρ : Nat → Nat) : ∀ l : Obs, renO ρ l = l.map fun p => (ρ p.1, p.2.ren ρ)
  | [] => rfl
  | (k, o) :: r => by simp [renO, renO_eq ρ r]

theorem RepA.ren_of {w : World} {M : Nat → Nat → Prop} {own : Nat → Value} {hw : Nat → Option Nat} {ρ : Nat → Nat} {x : AV} {v : Value} (h : RepA w M (own ∘ ρ) (hw ∘ ρ) x v) : RepA w M own hw (x.ren ρ) v := by
  induction h with
  | p h => exact .p h
  | ag vs hl h1 _ ih =>
    refine .ag vs (hl.trans (AV.renL_len _).symm) h1 fun j x hj => ?_
    rw [AV.renL_get] at hj
    obtain ⟨y, hy, rfl⟩ := Option.map_eq_some_iff.1 hj
    exact ih j y hy
  | ptr h => exact .ptr h
  | ts h ho => exact .ts h ho
  | tp vs hl _ ih =>
    refine .tp vs (hl.trans (AV.renL_len _).symm) fun j x hj => ?_
    rw [AV.renL_get] at hj
    obtain ⟨y, hy, rfl⟩ := Option.map_eq_some_iff.1 hj
    exact ih j y hy
  | fv vf vc hf hc _ _ ih1 ih2 =>
    refine .fv vf vc (hf.trans (AV.renL_len _).symm) (hc.trans (AV.renL_len _).symm) (fun j x hj => ?_) (fun j x hj => ?_)
    · rw [AV.renL_get] at hj
      obtain ⟨y, hy, rfl⟩ := Option.map_eq_some_iff.1 hj
      exact ih1 j y hy
    · rw [AV.renL_get] at hj
      obtain ⟨y, hy, rfl⟩ := Option.map_eq_some_iff.1 hj
      exact ih2 j y hy
  | any => exact .any
  | tm h1 ho => exact .tm h1 ho
  | pe h1 ho => exact .pe h1 ho
  | ifc _ ih => exact .ifc ih
  | nn h ho hn => exact .nn h ho hn

theorem AV.ren_ren {ρ σ : Nat → Nat} (h : ∀ k, σ (ρ k) = k) : ∀ x : AV, (x.ren ρ).ren σ = x := by
  intro x
  exact AV.rec (motive_1 := fun x => (x.ren ρ).ren σ = x) (motive_2 := fun l => AV.renL σ (AV.renL ρ l) = l)
    (fun x => rfl) (fun cs ih => by simp only [AV.ren]; rw [ih]) (fun k o => by simp only [AV.ren, h]) (fun k sz xs => by simp only [AV.ren, h]) (fun vs ih => by simp only [AV.ren]; rw [ih])
    (fun f a b iha ihb => by simp only [AV.ren]; rw [iha, ihb]) rfl (fun k ver => by simp only [AV.ren, h]) (fun k ver off => by simp only [AV.ren, h]) (fun T x ih => by simp only [AV.ren]; rw [ih]) (fun k sz xs => by simp only [AV.ren, h]) rfl (fun x r ihx ihr => by simp only [AV.renL]; rw [ihx, ihr]) x

theorem RepA.ren_back {w : World} {M : Nat → Nat → Prop} {own : Nat → Value} {hw : Nat → Option Nat} {ρ σ : Nat → Nat} (h1 : ∀ k, σ (ρ k) = k) (h2 : ∀ k, ρ (σ k) = k) {x : AV} {v : Value} (h : RepA w M own hw (x.ren ρ) v) : RepA w M (own ∘ ρ) (hw ∘ ρ) x v := by
  have e : RepA w M ((own ∘ ρ) ∘ σ) ((hw ∘ ρ) ∘ σ) (x.ren ρ) v := by
    have e1 : (own ∘ ρ) ∘ σ = own := by funext k; simp [h2]
    have e2 : (hw ∘ ρ) ∘ σ = hw := by funext k; simp [h2]
    rw [e1, e2]; exact h
  have := RepA.ren_of (own := own ∘ ρ) (hw := hw ∘ ρ) (ρ := σ) e
  rwa [AV.ren_ren h1] at this

theorem Has.ren {ρ : Nat → Nat} {k : Nat} : ∀ {x : AV}, Has k (x.ren ρ) → ∃ j, Has j x ∧ ρ j = k := by
  intro x
  have key : ∀ x : AV, ∀ k, Has k (x.ren ρ) → ∃ j, Has j x ∧ ρ j = k := by
    intro x
    refine AV.rec (motive_1 := fun x => ∀ k, Has k (x.ren ρ) → ∃ j, Has j x ∧ ρ j = k) (motive_2 := fun l => ∀ y ∈ AV.renL ρ l, ∀ k, Has k y → ∃ j z, z ∈ l ∧ Has j z ∧ ρ j = k)
      (fun x k h => by cases h) (fun cs ih k h => by
        cases h with
        | ag hm hx => obtain ⟨j, z, h1, h2, h3⟩ := ih _ hm _ hx; exact ⟨j, .ag h1 h2, h3⟩)
      (fun k0 o k h => by cases h with | ptr => exact ⟨k0, .ptr _, rfl⟩) (fun k0 sz xs k h => by cases h with | ts => exact ⟨k0, .ts _ _, rfl⟩)
      (fun cs ih k h => by
        cases h with
        | tp hm hx => obtain ⟨j, z, h1, h2, h3⟩ := ih _ hm _ hx; exact ⟨j, .tp h1 h2, h3⟩)
      (fun f a b iha ihb k h => by
        cases h with
        | fv1 hm hx => obtain ⟨j, z, h1, h2, h3⟩ := iha _ hm _ hx; exact ⟨j, .fv1 h1 h2, h3⟩
        | fv2 hm hx => obtain ⟨j, z, h1, h2, h3⟩ := ihb _ hm _ hx; exact ⟨j, .fv2 h1 h2, h3⟩)
      (fun k h => by cases h) (fun k0 ver k h => by cases h with | tm => exact ⟨k0, .tm _, rfl⟩) (fun k0 ver off k h => by cases h with | pe => exact ⟨k0, .pe _ _, rfl⟩)
      (fun T x ih k h => by
        cases h with
        | ifc hx => obtain ⟨j, h1, h2⟩ := ih _ hx; exact ⟨j, .ifc h1, h2⟩) (fun k0 sz xs k h => by cases h with | nn => exact ⟨k0, .nn _ _, rfl⟩) (fun y h => by cases h) (fun x r ihx ihr y h k hk => by
        simp only [AV.renL] at h
        rcases List.mem_cons.1 h with rfl | h
        · obtain ⟨j, h1, h2⟩ := ihx k hk; exact ⟨j, x, List.mem_cons_self .., h1, h2⟩
        · obtain ⟨j, z, h1, h2, h3⟩ := ihr y h k hk; exact ⟨j, z, List.mem_cons_of_mem _ h1, h2, h3⟩) x
  exact key x k

theorem AV.mem_renL {ρ : Nat → Nat} {y : AV} : ∀ {l : List AV}, y ∈ AV.renL ρ l → ∃ z ∈ l, y = z.ren ρ
  | x :: r, h => by
    simp only [AV.renL] at h
    rcases List.mem_cons.1 h with rfl | h
    · exact ⟨x, List.mem_cons_self .., rfl⟩
    · obtain ⟨z, h1, h2⟩ := AV.mem_renL h; exact ⟨z, List.mem_cons_of_mem _ h1, h2⟩

theorem renO_mem {ρ : Nat → Nat} {l : Obs} {k : Nat} {o : Ob} : (k, o) ∈ renO ρ l ↔ ∃ k' o', (k', o') ∈ l ∧ k = ρ k' ∧ o = o'.ren ρ := by
  rw [renO_eq, List.mem_map]
  constructor
  · rintro ⟨⟨k', o'⟩, h, e⟩; cases e; exact ⟨k', o', h, rfl, rfl⟩
  · rintro ⟨k', o', h, rfl, rfl⟩; exact ⟨(k', o'), h, rfl⟩

section
variable {P : Program} {ρ σ : Nat → Nat} (h1 : ∀ k, σ (ρ k) = k) (h2 : ∀ k, ρ (σ k) = k)
include h1 h2

theorem hwOf_ren (objs : Obs) (hn : (objs.map (·.1)).Nodup) : hwOf (renO ρ objs) ∘ ρ = hwOf objs := by
  have hn' : ((renO ρ objs).map (·.1)).Nodup := by
    rw [renO_eq, List.map_map]
    have : ((fun x => x.1) ∘ fun (p : Nat × Ob) => (ρ p.1, p.2.ren ρ)) = fun p => ρ p.1 := rfl
    rw [this]
    have e : (objs.map fun p => ρ p.1) = (objs.map (·.1)).map ρ := by simp
    rw [e]
    exact List.Pairwise.map ρ (fun a b hne he => hne (by rw [← h1 a, ← h1 b, he])) hn
  funext k
  show hwOf (renO ρ objs) (ρ k) = hwOf objs k
  cases h3 : hwOf objs k with
  | some m =>
    obtain ⟨oo, hm, ho⟩ := hwOf_some h3
    exact hwOf_of hn' (renO_mem.2 ⟨k, _, hm, rfl, rfl⟩) (by rcases ho with ⟨T, sz, rfl⟩ | ⟨T, sz, xs, rfl⟩ | ⟨l, rfl⟩; exact .inl ⟨T, sz, rfl⟩; exact .inr (.inl ⟨T, sz, xs, rfl⟩); exact .inr (.inr ⟨l, rfl⟩))
  | none =>
    cases h4 : hwOf (renO ρ objs) (ρ k) with
    | none => rfl
    | some m =>
      obtain ⟨oo, hm, ho⟩ := hwOf_some h4
      obtain ⟨k', o', e1, e2, e3⟩ := renO_mem.1 hm
      have : k = k' := by rw [← h1 k, ← h1 k', e2]
      subst this
      cases o' with
      | ce => subst e3; rcases ho with ⟨_, _, h⟩ | ⟨_, _, _, h⟩ | ⟨_, h⟩ <;> cases h
      | ar T' sz' m' =>
        subst e3
        rcases ho with ⟨_, _, h⟩ | ⟨_, _, _, h⟩ | ⟨_, h⟩
        · cases h; rw [hwOf_of hn e1 (.inl ⟨_, _, rfl⟩)] at h3; cases h3
        · cases h
        · cases h
      | mu T' sz' v' xs' =>
        subst e3
        rcases ho with ⟨_, _, h⟩ | ⟨_, _, _, h⟩ | ⟨_, h⟩
        · cases h
        · cases h; rw [hwOf_of hn e1 (.inr (.inl ⟨_, _, _, rfl⟩))] at h3; cases h3
        · cases h
      | mp v' l' =>
        subst e3
        rcases ho with ⟨_, _, h⟩ | ⟨_, _, _, h⟩ | ⟨_, h⟩
        · cases h
        · cases h
        · cases h; rw [hwOf_of hn e1 (.inr (.inr ⟨_, rfl⟩))] at h3; cases h3

theorem Mu_ren (M0 : Nat → Nat → Prop) (own : Nat → Value) (objs : Obs) : Mu M0 own (renO ρ objs) = Mu M0 (own ∘ ρ) objs := by
  funext b i
  apply propext
  constructor
  · rintro (h | ⟨k, o, hk, hm⟩)
    · exact .inl h
    · obtain ⟨k', o', e1, rfl, rfl⟩ := renO_mem.1 hk
      exact .inr ⟨k', o', e1, by cases o' <;> exact hm⟩
  · rintro (h | ⟨k, o, hk, hm⟩)
    · exact .inl h
    · exact .inr ⟨ρ k, o.ren ρ, renO_mem.2 ⟨k, o, hk, rfl, rfl⟩, by cases o <;> exact hm⟩

theorem OK.ren {w : World} {M0 : Nat → Nat → Prop} {own : Nat → Value} {objs : Obs} : OK P w M0 own (renO ρ objs) ↔ OK P w M0 (own ∘ ρ) objs := by
  have hk : ((renO ρ objs).map (·.1)).Nodup ↔ (objs.map (·.1)).Nodup := by
    rw [renO_eq, List.map_map]
    have e : (objs.map ((fun x => x.1) ∘ fun (p : Nat × Ob) => (ρ p.1, p.2.ren ρ))) = (objs.map (·.1)).map ρ := by simp
    rw [e]
    constructor
    · intro h
      exact (List.pairwise_map.1 h).imp fun hne he => hne (by rw [he])
    · intro h
      exact List.Pairwise.map ρ (fun a b hne he => hne (by rw [← h1 a, ← h1 b, he])) h
  constructor
  · intro h
    have hn := hk.1 h.keys
    refine { obs := fun k o hm => ?_, keys := hn, inj := fun k o k' o' a b hne => h.inj _ _ _ _ (renO_mem.2 ⟨k, o, a, rfl, rfl⟩) (renO_mem.2 ⟨k', o', b, rfl, rfl⟩) (fun e => hne (by rw [← h1 k, ← h1 k', e])), m0 := fun k o b a => h.m0 _ _ b (renO_mem.2 ⟨k, o, a, rfl, rfl⟩), m0old := h.m0old }
    have := h.obs _ _ (renO_mem.2 ⟨k, o, hm, rfl, rfl⟩)
    rw [Mu_ren h1 h2] at this
    cases o with
    | ce T cs =>
      obtain ⟨b, vals, e1, e2, e3, e4⟩ := this
      refine ⟨b, vals, e1, e2, e3.trans (AV.renL_len _), fun j x hj => ?_⟩
      have := e4 j (x.ren ρ) (by rw [AV.renL_get, hj]; rfl)
      refine ⟨by have h3 := this.1; cases x <;> exact h3, ?_⟩
      have h4 := RepA.ren_back h1 h2 this.2
      rwa [hwOf_ren h1 h2 objs hn] at h4
    | ar T sz m => exact this
    | mu T sz ver xs => exact this
    | mp ver l => exact this
  · intro h
    refine { obs := fun k o hm => ?_, keys := hk.2 h.keys, inj := fun k o k' o' a b hne => ?_, m0 := fun k o b a => ?_, m0old := h.m0old }
    · obtain ⟨k', o', e1, rfl, rfl⟩ := renO_mem.1 hm
      have := h.obs k' o' e1
      rw [Mu_ren h1 h2]
      cases o' with
      | ce T cs =>
        obtain ⟨b, vals, e1, e2, e3, e4⟩ := this
        refine ⟨b, vals, e1, e2, e3.trans (AV.renL_len _).symm, fun j x hj => ?_⟩
        rw [AV.renL_get] at hj
        obtain ⟨y, hy, rfl⟩ := Option.map_eq_some_iff.1 hj
        have := e4 j y hy
        refine ⟨by have h3 := this.1; cases y <;> exact h3, RepA.ren_of ?_⟩
        rw [hwOf_ren h1 h2 objs h.keys]
        exact this.2
      | ar T sz m => exact this
      | mu T sz ver xs => exact this
      | mp ver l => exact this
    · obtain ⟨q, p, e1, rfl, rfl⟩ := renO_mem.1 a
      obtain ⟨q', p', e2, rfl, rfl⟩ := renO_mem.1 b
      exact h.inj q p q' p' e1 e2 (fun e => hne (by rw [e]))
    · obtain ⟨q, p, e1, rfl, rfl⟩ := renO_mem.1 a
      exact h.m0 q p b e1

/-- A contract under other keys. -/
theorem Con.ren {f : Nat} {args : List AV} {objs : Obs} {R : AV → Obs → Prop} (h : Con P f args objs R) :
    Con P f (AV.renL ρ args) (renO ρ objs) (fun r o => ∃ r0 o0, R r0 o0 ∧ r = r0.ren ρ ∧ o = renO ρ o0) := by
  intro w M0 own vals hok harg
  have hok' := (OK.ren h1 h2).1 hok
  have harg' : ArgsOK w (Mu M0 (own ∘ ρ) objs) (own ∘ ρ) (hwOf objs) args vals := by
    refine ⟨harg.1.trans (AV.renL_len _), fun j x hj => ?_⟩
    have := harg.2 j (x.ren ρ) (by rw [AV.renL_get, hj]; rfl)
    rw [Mu_ren h1 h2] at this
    have h4 := RepA.ren_back h1 h2 this
    rwa [hwOf_ren h1 h2 objs hok'.keys] at h4
  refine (h w M0 (own ∘ ρ) vals hok' harg').mono ?_
  rintro e w' ⟨r, o, own', v, rfl, g1, g2, g3, g4, g5, g6, g7⟩
  have ec : (own' ∘ σ) ∘ ρ = own' := by funext k; simp [h1]
  have hokr : OK P w' M0 (own' ∘ σ) (renO ρ o) := (OK.ren h1 h2).2 (by rw [ec]; exact g2)
  have hMe : Mu M0 (own' ∘ σ) (renO ρ o) = Mu M0 own' o := by rw [Mu_ren h1 h2, ec]
  refine ⟨r.ren ρ, renO ρ o, own' ∘ σ, v, rfl, ⟨r, o, g1, rfl, rfl⟩, hokr, ?_, ?_, fun k ob hk => ?_, ⟨fun k hk => ?_, fun k T cs hk y hy q hq => ?_⟩, ⟨fun b hb hn => g7.keep b hb fun k ob hk => ?_, fun k ob b hk hb => ?_, g7.size⟩⟩
  · rw [hMe]
    refine RepA.ren_of ?_
    rw [ec, hwOf_ren h1 h2 o g2.keys]; exact g3
  · rw [hMe, Mu_ren h1 h2]; exact g4
  · obtain ⟨k', o', e1, rfl, rfl⟩ := renO_mem.1 hk
    have := g5 k' o' e1
    rw [← hwOf_ren h1 h2 o g2.keys, ← hwOf_ren h1 h2 objs hok'.keys] at this
    unfold Kr at this ⊢
    simp only [Function.comp, h1] at this ⊢
    exact this
  · obtain ⟨j, hj, rfl⟩ := hk.ren
    obtain ⟨⟨k', o'⟩, hm, e⟩ := List.mem_map.1 (g6.1 j hj)
    simp only at e; subst e
    exact List.mem_map_of_mem (f := (·.1)) (renO_mem.2 ⟨k', o', hm, rfl, rfl⟩)
  · obtain ⟨k', o', e1, e2, e3⟩ := renO_mem.1 hk
    cases o' with
    | ar => cases e3
    | mu => cases e3
    | mp => cases e3
    | ce T' cs' =>
      cases e3
      obtain ⟨z, hz, rfl⟩ := AV.mem_renL hy
      obtain ⟨j, hj, rfl⟩ := hq.ren
      obtain ⟨⟨k2, o2⟩, hm, e⟩ := List.mem_map.1 (g6.2 k' T cs' e1 z hz j hj)
      simp only at e; subst e
      exact List.mem_map_of_mem (f := (·.1)) (renO_mem.2 ⟨k2, o2, hm, rfl, rfl⟩)
  · exact hn (ρ k) (ob.ren ρ) (renO_mem.2 ⟨k, ob, hk, rfl, rfl⟩)
  · obtain ⟨k', o', e1, rfl, rfl⟩ := renO_mem.1 hk
    simp only [Function.comp, h1] at hb
    rcases g7.loc k' o' b e1 hb with ⟨q, p, e2, e3⟩ | e2
    · exact .inl ⟨ρ q, p.ren ρ, renO_mem.2 ⟨q, p, e2, rfl, rfl⟩, e3⟩
    · exact .inr e2
end

/-- Two keys change places. -/
def sw (a b k : Nat) : Nat := bif Nat.beq k a then b else bif Nat.beq k b then a else k
theorem sw_sw (a b k : Nat) : sw a b (sw a b k) = k := by
  unfold sw
  by_cases h1 : k = a
  · subst h1
    by_cases h2 : b = k
    · subst h2; simp [Nat.beq_refl]
    · have : Nat.beq b k = false := by
        cases h : Nat.beq b k with
        | false => rfl
        | true => exact absurd (Nat.eq_of_beq_eq_true h) h2
      simp [Nat.beq_refl, this]
  · have e1 : Nat.beq k a = false := by
      cases h : Nat.beq k a with
      | false => rfl
      | true => exact absurd (Nat.eq_of_beq_eq_true h) h1
    by_cases h2 : k = b
    · subst h2; simp [e1, Nat.beq_refl]
    · have e2 : Nat.beq k b = false := by
        cases h : Nat.beq k b with
        | false => rfl
        | true => exact absurd (Nat.eq_of_beq_eq_true h) h2
      simp [e1, e2]

theorem Con.sw {P : Program} {f : Nat} {args : List AV} {objs : Obs} {R : AV → Obs → Prop} (h : Con P f args objs R) (a b : Nat) :
    Con P f (AV.renL (sw a b) args) (renO (Ab.sw a b) objs) (fun r o => ∃ r0 o0, R r0 o0 ∧ r = r0.ren (Ab.sw a b) ∧ o = renO (Ab.sw a b) o0) := h.ren (sw_sw a b) (sw_sw a b)
theorem sw_a (a b : Nat) : Ab.sw a b a = b := by simp [Ab.sw, Nat.beq_refl]

section
variable {P : Program} {cx : Cx} {n : Nat} {Q : Exit → S → Prop} {regs : List (Nat × AV)} {objs : Obs} {ops : Array Oper} {rest : List Oper} {d : Nat} {pos : String} {aft : Array Edge} {ty : Nat}

theorem x_len {T E rty : Nat} {x : Operand} {av : AV} {sz : Nat} {xs : List (List PV)} (si : SI P T E) (hx : S.ev ⟨regs, objs⟩ x = some av) (hr : av.rows = some (sz, xs)) (hd : Nat.blt d n = true)
    (kk : xs.length ≤ 9223372036854775807 → AWl P cx n ops rest Q ⟨(d, .p (I xs.length)) :: regs, objs⟩) :
    AWl P cx n ops (⟨some d, .call ⟨.builtin .len, #[x], #[T]⟩, rty, pos, aft, none⟩ :: rest) Q ⟨regs, objs⟩ := fun a w ⟨own, r⟩ => by
  obtain ⟨ad, cap, hv, h1, h2⟩ := ((r.ev hx).rows hr).sl_len
  exact awl_len si hx hr hd (kk (Nat.le_trans h1 h2)) a w ⟨own, r⟩
end
end Go.Ab

/- Levels and terms as plain data, and the cells that stand for them. -/
set_option linter.unusedVariables false
set_option linter.unusedSectionVars false
namespace Go.Ab
open Go Go.RowKit

structure Lvl where
  kind : Int
  n : Int
  args : List Lvl
  deriving Inhabited

structure Trm where
  kind : Int
  n : Int
  name : ByteArray
  levels : List Lvl
  args : List Trm
  deriving Inhabited

mutual
def encL : Lvl → List PV
  | ⟨k, n, as⟩ => [I k, I n, .sl 3 (encLs as)]
def encLs : List Lvl → List (List PV)
  | [] => []
  | a :: r => encL a :: encLs r
end
mutual
def encT : Trm → List PV
  | ⟨k, n, s, ls, as⟩ => [I k, I n, St s, .sl 3 (encLs ls), .sl 5 (encTs as)]
def encTs : List Trm → List (List PV)
  | [] => []
  | a :: r => encT a :: encTs r
end

/-- The cells of a level, written out. -/
def rowL (a : Lvl) : List PV := [I a.kind, I a.n, .sl 3 (encLs a.args)]
def rowT (a : Trm) : List PV := [I a.kind, I a.n, St a.name, .sl 3 (encLs a.levels), .sl 5 (encTs a.args)]
theorem encL_eq (a : Lvl) : encL a = rowL a := by cases a; rfl
theorem encT_eq (a : Trm) : encT a = rowT a := by cases a; rfl
def lv (a : Lvl) : AV := .ag [.p (I a.kind), .p (I a.n), .p (.sl 3 (encLs a.args))]
def tv (a : Trm) : AV := .ag [.p (I a.kind), .p (I a.n), .p (St a.name), .p (.sl 3 (encLs a.levels)), .p (.sl 5 (encTs a.args))]

theorem encLs_eq : ∀ l : List Lvl, encLs l = l.map rowL
  | [] => rfl
  | a :: r => by simp [encLs, encL_eq, encLs_eq r]
theorem encTs_eq : ∀ l : List Trm, encTs l = l.map rowT
  | [] => rfl
  | a :: r => by simp [encTs, encT_eq, encTs_eq r]
@[simp] theorem encLs_len (l : List Lvl) : (encLs l).length = l.length := by simp [encLs_eq]
@[simp] theorem encTs_len (l : List Trm) : (encTs l).length = l.length := by simp [encTs_eq]

/-- The element that a loop has come to. -/
theorem rowL_at {l r : List Lvl} {a : Lvl} {i : Nat} (h : l.drop i = a :: r) : rowAt (encLs l) (i : Int) = rowL a := by
  have h1 : l[i]? = some a := by have := congrArg (·[0]?) h; simpa using this
  unfold rowAt
  simp [List.getD_eq_getElem?_getD, encLs_eq, h1]
theorem rowT_at {l r : List Trm} {a : Trm} {i : Nat} (h : l.drop i = a :: r) : rowAt (encTs l) (i : Int) = rowT a := by
  have h1 : l[i]? = some a := by have := congrArg (·[0]?) h; simpa using this
  unfold rowAt
  simp [List.getD_eq_getElem?_getD, encTs_eq, h1]
theorem drop_lt {α : Type} {l r : List α} {a : α} {i : Nat} (h : l.drop i = a :: r) : i < l.length := by
  rcases Nat.lt_or_ge i l.length with h1 | h1
  · exact h1
  · rw [List.drop_eq_nil_of_le h1] at h; cases h
theorem drop_next {α : Type} {l r : List α} {a : α} {i : Nat} (h : l.drop i = a :: r) : l.drop (i + 1) = r := by
  have : l.drop (i + 1) = (l.drop i).drop 1 := by rw [List.drop_drop]
  rw [this, h]; rfl
theorem drop_nil {α : Type} {l : List α} {i : Nat} (h : l.drop i = []) : l.length ≤ i := by
  rcases Nat.lt_or_ge i l.length with h1 | h1
  · rw [List.drop_eq_getElem_cons h1] at h; cases h
  · exact h1
theorem drop_mem {α : Type} {l r : List α} {a : α} {i : Nat} (h : l.drop i = a :: r) : a ∈ l := List.mem_of_mem_drop (h ▸ List.mem_cons_self ..)

theorem drop_ne {α : Type} {l r : List α} {i : Nat} (h : l.drop i = r) (hi : i < l.length) : ∃ a r', r = a :: r' := by
  cases r with
  | nil => exact absurd (drop_nil h) (by omega)
  | cons a r' => exact ⟨a, r', rfl⟩
theorem I_eq {a b : Int} (h : a = b) : AV.p (I a) = AV.p (I b) := by rw [h]
theorem B_eq {a b : Bool} (h : a = b) : AV.p (B a) = AV.p (B b) := by rw [h]
theorem O_eq {k T : Nat} {a b : Int} (h : a = b) : ([(k, Ob.ce T [.p (I a)])] : Obs) = [(k, Ob.ce T [.p (I b)])] := by rw [h]
theorem drop_end {α : Type} {l r : List α} {i : Nat} (h : l.drop i = r) (hi : l.length ≤ i) : r = [] := by rw [← h]; exact List.drop_eq_nil_of_le hi
theorem Lvl.lt {a t : Lvl} (h : a ∈ t.args) : SizeOf.sizeOf a < SizeOf.sizeOf t := by
  cases t; have := List.sizeOf_lt_of_mem h; simp at this ⊢; omega
theorem Trm.lt {a t : Trm} (h : a ∈ t.args) : SizeOf.sizeOf a < SizeOf.sizeOf t := by
  cases t; have := List.sizeOf_lt_of_mem h; simp at this ⊢; omega

/-- The loop rule, what stands still apart from what turns. -/
theorem x_loop {P : Program} {cx : Cx} {n : Nat} {Q : Exit → S → Prop} {s : S} {X : Type} (stat : List (Nat × AV)) (sobjs : Obs) (dyn : X → List (Nat × AV)) (dobjs : X → Obs) (inv : X → Prop) (μ : X → Nat) (x0 : X) {c : Code}
    (h0 : Le P cx n s ⟨dyn x0 ++ stat, dobjs x0 ++ sobjs⟩) (hi : inv x0)
    (round : ∀ x, inv x → AWp P cx n c (thn (fun s' => ∃ x', inv x' ∧ μ x' < μ x ∧ Le P cx n s' ⟨dyn x' ++ stat, dobjs x' ++ sobjs⟩) Q) ⟨dyn x ++ stat, dobjs x ++ sobjs⟩) : AWp P cx n (.loop c) Q s :=
  awp_loop (fun x => ⟨dyn x ++ stat, dobjs x ++ sobjs⟩) inv μ x0 h0 hi round
end Go.Ab

/- Regions whose order is drawn: operations that touch no object come to the same in every order. -/
set_option linter.unusedVariables false
set_option linter.unusedSectionVars false
namespace Go.Ab
open Go Go.RowKit

def putd (d : Option Nat) (x : AV) (regs : List (Nat × AV)) : List (Nat × AV) :=
  match d with
  | some d => (d, x) :: regs
  | none => regs

/-- Two states with the same registers. -/
structure Eqv (s s' : S) : Prop where
  regs : ∀ t, get s.regs t = get s'.regs t
  objs : s.objs = s'.objs

theorem Eqv.refl (s : S) : Eqv s s := ⟨fun _ => rfl, rfl⟩
theorem Eqv.symm {s s' : S} (h : Eqv s s') : Eqv s' s := ⟨fun t => (h.regs t).symm, h.objs.symm⟩
theorem Eqv.trans {a b c : S} (h : Eqv a b) (k : Eqv b c) : Eqv a c := ⟨fun t => (h.regs t).trans (k.regs t), h.objs.trans k.objs⟩

theorem get_putd (d : Option Nat) (x : AV) (regs : List (Nat × AV)) (t : Nat) : get (putd d x regs) t = if d = some t then some x else get regs t := by
  cases d with
  | none => simp [putd]
  | some d =>
    simp only [putd, get, Option.some.injEq]
    by_cases h : d = t
    · subst h; simp [Nat.beq_refl]
    · have : Nat.beq d t = false := by
        cases hb : Nat.beq d t with
        | false => rfl
        | true => exact absurd (Nat.eq_of_beq_eq_true hb) h
      simp [this, h]

theorem Eqv.putd {s s' : S} (h : Eqv s s') (d : Option Nat) (x : AV) : Eqv ⟨Ab.putd d x s.regs, s.objs⟩ ⟨Ab.putd d x s'.regs, s'.objs⟩ :=
  ⟨fun t => by simp only [get_putd, h.regs t], h.objs⟩

theorem putd_comm {d e : Option Nat} (x y : AV) (s : S) (h : ∀ k, d = some k → e ≠ some k) : Eqv ⟨putd d x (putd e y s.regs), s.objs⟩ ⟨putd e y (putd d x s.regs), s.objs⟩ :=
  ⟨fun t => by
    simp only [get_putd]
    by_cases h1 : d = some t
    · have := h t h1; simp [h1, this]
    · simp [h1], rfl⟩

theorem Eqv.rel {P : Program} {cx : Cx} {n : Nat} {s s' : S} {a : Act} {w : World} (h : Eqv s s') (r : Rel P cx n s a w) : Rel P cx n s' a w := by
  obtain ⟨regs, objs⟩ := s
  obtain ⟨regs', objs'⟩ := s'
  obtain ⟨h1, h2⟩ := h
  simp only at h1 h2
  subst h2
  obtain ⟨own, r⟩ := r
  exact ⟨own, { defs := r.defs, size := r.size, ok := r.ok, regs := fun t x hx => r.regs t x ((h1 t).trans hx), stp := r.stp, fix := r.fix, fr := r.fr }⟩

abbrev Regs := List (Nat × AV)

def agr (r r' : Regs) : Prop := ∀ t, get r t = get r' t

theorem agr_putd {r r' : Regs} (h : agr r r') (d : Option Nat) (x : AV) : agr (putd d x r) (putd d x r') := fun t => by simp only [get_putd, h t]

section
variable {ops : Array Oper} {md : Region.Mode} {Y : Nat → AV → Regs → Prop} {E : Array Bool → Regs → Prop}

/-- Does the operation at k need the one at j? -/
def needs (md : Region.Mode) (ops : Array Oper) : Nat → Nat → Nat → Bool
  | 0, _, _ => false
  | f + 1, j, k => match ops[k]? with
    | some o => o.after.any fun e => Region.binds md e && (Nat.beq e.on j || needs md ops f j e.on)
    | none => false

def Clos (md : Region.Mode) (ops : Array Oper) (listed : Array Bool) : Prop :=
  listed.size = ops.size ∧ ∀ k o, ops[k]? = some o → listed.getD k true = true → ∀ e ∈ o.after, Region.binds md e = true → listed.getD e.on false = true

theorem needs_listed {listed : Array Bool} (hc : Clos md ops listed) {j : Nat} : ∀ (f k : Nat), needs md ops f j k = true → (∀ o, ops[k]? = some o → ∀ e ∈ o.after, Region.binds md e = true → listed.getD e.on false = true) → listed.getD j false = true
  | 0, k, h, _ => by simp [needs] at h
  | f + 1, k, h, hk => by
    simp only [needs] at h
    split at h
    · rename_i o ho
      obtain ⟨e, he, hb⟩ := Array.any_eq_true'.1 h
      simp only [Bool.and_eq_true, Bool.or_eq_true] at hb
      have h1 := hk o ho e he hb.1
      rcases hb.2 with h2 | h2
      · rw [← Nat.eq_of_beq_eq_true h2]; exact h1
      · refine needs_listed hc f e.on h2 fun o' ho' e' he' hb' => hc.2 e.on o' ho' ?_ e' he' hb'
        have hlt : e.on < listed.size := by
          rcases Nat.lt_or_ge e.on listed.size with h' | h'
          · exact h'
          · simp [Array.getElem?_eq_none h'] at h1
        simp [hlt] at h1 ⊢; exact h1
    · cases h

theorem Clos.set {listed : Array Bool} (hc : Clos md ops listed) {i : Nat} (hi : i ∈ Region.ready md ops listed) : Clos md ops (listed.setIfInBounds i true) := by
  obtain ⟨h0, o, ho, hall⟩ := mem_ready.1 hi
  refine ⟨by simp [hc.1], fun k ok hk hl e he hb => getD_set_true ?_⟩
  by_cases hik : i = k
  · subst hik; rw [ho] at hk; cases hk; exact hall e he hb
  · rw [getD_set_ne true hik] at hl; exact hc.2 k ok hk hl e he hb

theorem getD_tf {listed : Array Bool} {i : Nat} (h : listed.getD i true = false) : listed.getD i false = false := by
  rcases Nat.lt_or_ge i listed.size with h' | h'
  · simp [h'] at h ⊢; exact h
  · simp [Array.getElem?_eq_none h'] at h

/-- Two that are ready at once need not one another. -/
theorem ready_unneeded {listed : Array Bool} (hc : Clos md ops listed) {i j : Nat} (hi : i ∈ Region.ready md ops listed) (hj : listed.getD j true = false) (f : Nat) : needs md ops f j i = false := by
  cases hb : needs md ops f j i with
  | false => rfl
  | true =>
    obtain ⟨h0, o, ho, hall⟩ := mem_ready.1 hi
    have := needs_listed hc f i hb (fun o' ho' => by rw [ho] at ho'; cases ho'; exact hall)
    rw [getD_tf hj] at this; cases this

def aR (ops : Array Oper) (Y : Nat → AV → Regs → Prop) (i : Nat) (K : Regs → Prop) (r : Regs) : Prop :=
  match ops[i]? with
  | none => K r
  | some o => ∃ x, Y i x r ∧ K (putd o.dst x r)

theorem aR_mono {i : Nat} {K K' : Regs → Prop} {r : Regs} (h : ∀ r, K r → K' r) (hh : aR ops Y i K r) : aR ops Y i K' r := by
  unfold aR at *
  split
  · exact h _ (by simpa [*] using hh)
  · rename_i o ho
    simp only [ho] at hh
    obtain ⟨x, h1, h2⟩ := hh
    exact ⟨x, h1, h _ h2⟩

def anyR (md : Region.Mode) (ops : Array Oper) (Y : Nat → AV → Regs → Prop) (E : Array Bool → Regs → Prop) : Nat → Array Bool → Regs → Prop
  | 0, listed, r => Region.ready md ops listed = [] ∧ E listed r
  | fuel + 1, listed, r => (Region.ready md ops listed = [] → E listed r) ∧ ∀ i ∈ Region.ready md ops listed, aR ops Y i (anyR md ops Y E fuel (listed.setIfInBounds i true)) r

theorem anyR_agr (hY : ∀ i x r r', agr r r' → Y i x r → Y i x r') (hE : ∀ l r r', agr r r' → E l r → E l r') : ∀ (fuel : Nat) (listed : Array Bool) (r r' : Regs), agr r r' → anyR md ops Y E fuel listed r → anyR md ops Y E fuel listed r'
  | 0, listed, r, r', he, h => ⟨h.1, hE _ r r' he h.2⟩
  | fuel + 1, listed, r, r', he, h => by
    refine ⟨fun h0 => hE _ r r' he (h.1 h0), fun i hi => ?_⟩
    have h1 := h.2 i hi
    unfold aR at *
    split
    · rename_i ho
      simp only [ho] at h1
      exact anyR_agr hY hE fuel _ r r' he h1
    · rename_i o ho
      simp only [ho] at h1
      obtain ⟨x, h2, h3⟩ := h1
      exact ⟨x, hY _ _ _ _ he h2, anyR_agr hY hE fuel _ _ _ (agr_putd he _ _) h3⟩

theorem anyR_first {ex : Nat → Bool} (hY : ∀ i x r r', agr r r' → Y i x r → Y i x r') (hE : ∀ l r r', agr r r' → E l r → E l r')
    (hYl : ∀ i x r r' o, ops[i]? = some o → ex i = false → (∀ t, t ∈ o.looksAt ops → get r' t = get r t) → Y i x r → Y i x r')
    (hex : ∀ i j, ex i = true → i < ops.size → j < ops.size → i = j ∨ (∃ f, needs md ops f i j = true) ∨ ∃ f, needs md ops f j i = true)
    {i : Nat} {oi : Oper} {x : AV} (hi : ops[i]? = some oi) : ∀ (fuel : Nat) (listed : Array Bool) (r : Regs), Clos md ops listed →
    (∀ j oj, ops[j]? = some oj → j ≠ i → listed.getD j true = false → (∀ e ∈ oj.after, Region.binds md e = true → e.on ≠ i) → oi.apart ops oj = true) →
    i ∈ Region.ready md ops listed → Y i x r → anyR md ops Y E fuel (listed.setIfInBounds i true) (putd oi.dst x r) → anyR md ops Y E (fuel + 1) listed r := by
  intro fuel
  induction fuel with
  | zero =>
    intro listed r _ _ hr hy H
    refine ⟨fun h => (by rw [h] at hr; cases hr), fun j hj => ?_⟩
    by_cases hji : j = i
    · subst hji; unfold aR; simp only [hi]; exact ⟨x, hy, H⟩
    · have := ready_mono hj hji
      rw [H.1] at this
      cases this
  | succ fuel ih =>
    intro listed r hc hfree hr hy H
    refine ⟨fun h => (by rw [h] at hr; cases hr), fun j hj => ?_⟩
    by_cases hji : j = i
    · subst hji; unfold aR; simp only [hi]; exact ⟨x, hy, H⟩
    · have h1 := H.2 j (ready_mono hj hji)
      obtain ⟨hjun, oj, hoj, hall⟩ := mem_ready.1 hj
      have hiun := (mem_ready.1 hr).1
      have hnot : ∀ e ∈ oj.after, Region.binds md e = true → e.on ≠ i := fun e he hb heq => by
        have h1 := hall e he hb
        rw [heq, getD_tf hiun] at h1; cases h1
      have hlti := (Array.getElem?_eq_some_iff.1 hi).1
      have hltj := (Array.getElem?_eq_some_iff.1 hoj).1
      have exi : ex i = false := by
        cases hb : ex i with
        | false => rfl
        | true =>
          rcases hex i j hb hlti hltj with h | ⟨f, h⟩ | ⟨f, h⟩
          · exact absurd h.symm hji
          · rw [ready_unneeded hc hj hiun f] at h; cases h
          · rw [ready_unneeded hc hr hjun f] at h; cases h
      have exj : ex j = false := by
        cases hb : ex j with
        | false => rfl
        | true =>
          rcases hex j i hb hltj hlti with h | ⟨f, h⟩ | ⟨f, h⟩
          · exact absurd h hji
          · rw [ready_unneeded hc hr hjun f] at h; cases h
          · rw [ready_unneeded hc hj hiun f] at h; cases h
      obtain ⟨a1, a2, a3⟩ := Oper.apart_spec (hfree j oj hoj hji hjun hnot)
      have hfree' : ∀ k ok, ops[k]? = some ok → k ≠ i → (listed.setIfInBounds j true).getD k true = false →
          (∀ e ∈ ok.after, Region.binds md e = true → e.on ≠ i) → oi.apart ops ok = true := fun k ok hk hki hun hno => by
        refine hfree k ok hk hki ?_ hno
        by_cases hjk : j = k
        · subst hjk; exact hjun
        · rw [getD_set_ne true hjk] at hun; exact hun
      unfold aR at h1 ⊢
      simp only [hoj] at h1 ⊢
      obtain ⟨u, hu, hk⟩ := h1
      refine ⟨u, hYl j u _ _ oj hoj exj (fun t ht => ?_) hu, ih (listed.setIfInBounds j true) _ (hc.set hj) hfree' (ready_mono hr (Ne.symm hji)) (hYl i x _ _ oi hi exi (fun t ht => ?_) hy) ?_⟩
      · simp only [get_putd]
        rw [if_neg fun e => a1 t e ht]
      · simp only [get_putd]
        rw [if_neg fun e => a3 t e ht]
      · rw [Array.setIfInBounds_comm _ _ hji]
        exact anyR_agr hY hE _ _ _ _ (putd_comm u x ⟨r, []⟩ fun k hk he => a2 k he hk).regs hk

/-- The walk in the text's own order. -/
def AWd (Y : Nat → AV → Regs → Prop) (E : Regs → Prop) : Nat → List Oper → Regs → Prop
  | _, [], r => E r
  | k, o :: rest, r => ∃ x, Y k x r ∧ AWd Y E (k + 1) rest (putd o.dst x r)

def cntG (gens : List Nat) (listed : Array Bool) : Nat := gens.countP fun g => listed.getD g false

def lexC (md : Region.Mode) (ops : Array Oper) (gens : List Nat) : Nat → Nat → Array Bool → Bool
  | 0, _, listed => (Region.ready md ops listed).isEmpty && Nat.beq (cntG gens listed) gens.length
  | f + 1, k, listed => (Region.ready md ops listed).contains k && Region.free md ops listed k && lexC md ops gens f (k + 1) (listed.setIfInBounds k true)

theorem anyR_lex {ex : Nat → Bool} {gens : List Nat} {E : Regs → Prop} (hY : ∀ i x r r', agr r r' → Y i x r → Y i x r') (hE : ∀ r r', agr r r' → E r → E r')
    (hYl : ∀ i x r r' o, ops[i]? = some o → ex i = false → (∀ t, t ∈ o.looksAt ops → get r' t = get r t) → Y i x r → Y i x r')
    (hex : ∀ i j, ex i = true → i < ops.size → j < ops.size → i = j ∨ (∃ f, needs md ops f i j = true) ∨ ∃ f, needs md ops f j i = true) :
    ∀ (l : List Oper) (k : Nat) (listed : Array Bool) (r : Regs), (∀ j, l[j]? = ops[k + j]?) → Clos md ops listed →
    lexC md ops gens l.length k listed = true → AWd Y E k l r → anyR md ops Y (fun li r => cntG gens li = gens.length ∧ E r) l.length listed r
  | [], _, _, _, _, _, hB, h => by
    simp only [List.length_nil, lexC, Bool.and_eq_true, List.isEmpty_iff] at hB
    exact ⟨hB.1, Nat.eq_of_beq_eq_true hB.2, h⟩
  | o :: l, k, listed, r, hl, hc, hB, h => by
    have h0 : ops[k]? = some o := by simpa using (hl 0).symm
    simp only [List.length_cons, lexC, Bool.and_eq_true] at hB
    obtain ⟨⟨hr, hf⟩, hB'⟩ := hB
    obtain ⟨x, hy, hK⟩ := h
    have hr' : k ∈ Region.ready md ops listed := by simpa using hr
    exact anyR_first hY (fun l r r' he h => ⟨h.1, hE r r' he h.2⟩) hYl hex h0 l.length listed r hc (Region.free_spec h0 hf) hr' hy
      (anyR_lex hY hE hYl hex l (k + 1) _ _ (fun j => by have := hl (j + 1); simpa [Nat.add_assoc, Nat.add_comm 1 j] using this) (hc.set hr') hB' hK)
end

section
variable {P : Program} {cx : Cx} {n : Nat} {ops : Array Oper} {md : Region.Mode}

def loG (md : Region.Mode) (ops : Array Oper) (gens : List Nat) (i : Nat) : Nat := gens.countP fun g => needs md ops ops.size g i
def hiG (md : Region.Mode) (ops : Array Oper) (gens : List Nat) (i : Nat) : Nat := gens.countP fun g => !needs md ops ops.size i g && !Nat.beq g i
def deG (gens : List Nat) (i : Nat) : Nat := if gens.contains i then 1 else 0

/-- What is asked of the operation at i: in any objects in which it may run. -/
def YG (P : Program) (cx : Cx) (n : Nat) (md : Region.Mode) (ops : Array Oper) (gens exs : List Nat) (ch : Nat → Obs) (i : Nat) (x : AV) (r : Regs) : Prop :=
  ∀ o, ops[i]? = some o → ∀ m, loG md ops gens i ≤ m → m ≤ hiG md ops gens i → ∀ r', (∀ t, (exs.contains i = true ∨ t ∈ o.looksAt ops) → get r' t = get r t) →
    AWl P cx n ops [o] (fun e s1 => e = .normal ∧ agr s1.regs (putd o.dst x r') ∧ s1.objs = ch (m + deG gens i)) ⟨r', ch m⟩

theorem wpl_mono {Q Q' : Exit → Act → World → Prop} {o : Oper} {a : Act} {w : World} (h : wpList P ops Q [o] a w) (k : ∀ e a w, Q e a w → Q' e a w) (hn : ¬ LetsOut Q) : wpList P ops Q' [o] a w := by
  unfold wpList at *
  split
  · rename_i hw
    rw [if_pos hw] at h
    left
    rcases h with h | ⟨_, h⟩
    · unfold Oper.wp at *
      generalize (execOp a.eval o).run P w = q at *
      cases q with
      | ok nx w' =>
        cases nx <;> simp only [Oper.upon] at h ⊢ <;>
          first
            | exact k _ _ _ h
            | exact Calls.mono h (fun e w'' he => by
                cases e with
                | returned v => exact k _ _ _ he
                | panicked c => exact k _ _ _ he
                | outgrown => exact absurd he hn)
            | exact Rows.mono h (fun _ _ he => k _ _ _ he)
      | halt x w' =>
        cases x <;> simp only [Oper.upon] at h ⊢ <;> first | exact h | exact k _ _ _ h
    · exact absurd h hn
  · rename_i hw
    rw [if_neg hw] at h
    exact k _ _ _ h

theorem AWl.one {o : Oper} {Q : Exit → S → Prop} {s : S} {i : Nat} (hi : ops[i]? = some o) (h : AWl P cx n ops [o] (fun e s1 => e = .normal ∧ Q e s1) s) {K' : Act → World → Prop} {Q' : Exit → Act → World → Prop} {a : Act} {w : World} (r : Rel P cx n s a w)
    (hK : ∀ s1 a w, Rel P cx n s1 a w → Q .normal s1 → K' a w) : wpOp P ops Q' i K' a w := by
  have h3 := h a w r
  unfold wpOp
  simp only [hi]
  have fin : ∀ a' w', post P cx n (fun e s1 => e = .normal ∧ Q e s1) .normal a' w' → K' a' w' := by
    rintro a' w' ⟨s1, hr1, _, he⟩
    exact hK s1 a' w' hr1 he
  unfold wpList at h3
  split
  · rename_i hw
    rw [if_pos hw] at h3
    left
    rcases h3 with h3 | ⟨_, a0, w0, s1, _, h4, _⟩
    · unfold Oper.wp at *
      generalize (execOp a.eval o).run P w = q at *
      cases q with
      | ok nx w' =>
        cases nx <;> simp only [Oper.upon] at h3 ⊢ <;>
          first
            | exact fin _ _ h3
            | exact Calls.mono h3 (fun e w'' he => by
                cases e with
                | returned v => exact fin _ _ he
                | panicked c => obtain ⟨_, _, h4, _⟩ := he; cases h4
                | outgrown => obtain ⟨_, _, _, _, h4, _⟩ := he; cases h4)
            | exact Rows.mono h3 (fun _ _ he => fin _ _ he)
      | halt x w' =>
        cases x <;> simp only [Oper.upon] at h3 ⊢ <;> first | exact h3 | (obtain ⟨_, _, h4, _⟩ := h3; cases h4)
    · cases h4
  · rename_i hw
    rw [if_neg hw] at h3
    exact fin _ _ h3

theorem countP_set {i : Nat} {listed : Array Bool} (h0 : listed.getD i true = false) : ∀ (gens : List Nat), gens.Nodup → cntG gens (listed.setIfInBounds i true) = cntG gens listed + deG gens i
  | [], _ => by simp [cntG, deG]
  | g :: r, hn => by
    simp only [List.nodup_cons] at hn
    have ih := countP_set h0 r hn.2
    have hlt : i < listed.size := by
      rcases Nat.lt_or_ge i listed.size with h' | h'
      · exact h'
      · simp [Array.getElem?_eq_none h'] at h0
    simp only [cntG, List.countP_cons] at ih ⊢
    rw [ih]
    by_cases hg : g = i
    · subst hg
      have e1 : (listed.setIfInBounds g true).getD g false = true := by simp [hlt]
      have e2 := getD_tf h0
      have e3 : deG r g = 0 := by simp [deG, hn.1]
      have e4 : deG (g :: r) g = 1 := by simp [deG]
      simp only [e1, e2, e3, e4]; simp
    · have e1 : (listed.setIfInBounds i true).getD g false = listed.getD g false := getD_set_ne false (Ne.symm hg)
      have e4 : deG (g :: r) i = deG r i := by simp [deG, Ne.symm hg]
      rw [e1, e4]; omega

theorem wpAny_of_anyR {gens exs : List Nat} {ch : Nat → Obs} {Q : S → Prop} {Q' : Exit → Act → World → Prop} (hg : gens.Nodup) (hQ : ∀ s a w, Rel P cx n s a w → Q s → Q' .normal a w)
    {E : Regs → Prop} (hE : ∀ r, E r → Q ⟨r, ch gens.length⟩) (hEa : ∀ r r', agr r r' → E r → E r') :
    ∀ (fuel : Nat) (listed : Array Bool) (r : Regs) (a : Act) (w : World), Clos md ops listed → Rel P cx n ⟨r, ch (cntG gens listed)⟩ a w →
    anyR md ops (YG P cx n md ops gens exs ch) (fun li r => cntG gens li = gens.length ∧ E r) fuel listed r → wpAny P md ops Q' fuel listed a w
  | 0, _, r, a, w, hc, hr, h => ⟨h.1, hQ _ a w hr (by rw [h.2.1]; exact hE r h.2.2)⟩
  | fuel + 1, listed, r, a, w, hc, hr, h => by
    refine ⟨fun h0 => hQ _ a w hr (by rw [(h.1 h0).1]; exact hE r (h.1 h0).2), fun i hi => ?_⟩
    have h1 := h.2 i hi
    obtain ⟨h0, o, ho, hall⟩ := mem_ready.1 hi
    unfold aR at h1
    simp only [ho] at h1
    obtain ⟨x, hy, hk⟩ := h1
    have hlo : loG md ops gens i ≤ cntG gens listed := List.countP_mono_left fun g hg hn => needs_listed hc _ i hn (fun o' ho' => by rw [ho] at ho'; cases ho'; exact hall)
    have hhi : cntG gens listed ≤ hiG md ops gens i := List.countP_mono_left fun g hg hn => by
      have hlt : g < listed.size := by
        rcases Nat.lt_or_ge g listed.size with h' | h'
        · exact h'
        · simp [Array.getElem?_eq_none h'] at hn
      simp only [Bool.and_eq_true, Bool.not_eq_true']
      refine ⟨?_, ?_⟩
      · cases hb : needs md ops ops.size i g with
        | false => rfl
        | true =>
          have := needs_listed hc ops.size g hb (fun o' ho' e he hb' => hc.2 g o' ho' (by simp [hlt] at hn ⊢; exact hn) e he hb')
          rw [getD_tf h0] at this; cases this
      · cases hb : Nat.beq g i with
        | false => rfl
        | true => rw [Nat.eq_of_beq_eq_true hb, getD_tf h0] at hn; cases hn
    refine AWl.one (Q := fun e s1 => agr s1.regs (putd o.dst x r) ∧ s1.objs = ch (cntG gens listed + deG gens i)) ho (hy o ho _ hlo hhi r (fun _ _ => rfl)) hr fun s1 a1 w1 hr1 he => ?_
    refine wpAny_of_anyR hg hQ hE hEa fuel _ _ a1 w1 (hc.set hi) ?_ hk
    rw [countP_set h0 gens hg]
    exact (⟨he.1, he.2⟩ : Eqv s1 ⟨putd o.dst x r, ch (cntG gens listed + deG gens i)⟩).rel hr1

def exB (md : Region.Mode) (ops : Array Oper) (exs : List Nat) : Bool :=
  exs.all fun i => (List.range ops.size).all fun j => Nat.beq i j || needs md ops ops.size i j || needs md ops ops.size j i

def drawB (ops : Array Oper) (gens exs : List Nat) : Bool := nodupB gens && exB .any ops exs && lexC .any ops gens ops.size 0 (Array.replicate ops.size false)

theorem awp_draw {id : Nat} {l : List Oper} {Q : Exit → S → Prop} {regs : Regs} {objs : Obs} (gens exs : List Nat) (ch : Nat → Obs) (h0 : ch 0 = objs) (hm : P.follows .mixedOrders = true) (hB : drawB l.toArray gens exs = true)
    (h : AWd (YG P cx n .any l.toArray gens exs ch) (fun r => ∃ r0, agr r r0 ∧ Q .normal ⟨r0, ch gens.length⟩) 0 l regs) : AWp P cx n (.region id l.toArray true) Q ⟨regs, objs⟩ := fun a w r => by
  subst h0
  simp only [drawB, Bool.and_eq_true] at hB
  obtain ⟨⟨hn, hx⟩, hB⟩ := hB
  have r' : Rel P cx n ⟨regs, ch 0⟩ a { w with drawn := w.drawn + 1 } := by
    obtain ⟨own, r⟩ := r
    have hs : Stp w (Mu cx.M0 own (ch 0)) { w with drawn := w.drawn + 1 } (Mu cx.M0 own (ch 0)) := ⟨rfl, rfl, rfl, Nat.le_refl _, fun _ _ _ _ h => h, fun _ _ h => .inl h, fun _ cs _ h => ⟨cs, h⟩⟩
    refine ⟨own, { defs := r.defs, size := r.size, ok := ?_, regs := fun t x hx => (r.regs t x hx).tr_same hs, stp := r.stp.trans hs, fix := r.fix, fr := r.fr.trans ⟨fun _ _ _ => rfl, fun k o b hk hb => .inl ⟨k, o, hk, hb⟩, Nat.le_refl _⟩ }⟩
    refine { obs := fun k o hk => ?_, keys := r.ok.keys, inj := r.ok.inj, m0 := r.ok.m0, m0old := r.ok.m0old }
    have := r.ok.obs k o hk
    cases o with
    | ce T cs =>
      obtain ⟨b, vals, e1, e2, e3, e4⟩ := this
      exact ⟨b, vals, e1, e2, e3, fun j x hj => ⟨(e4 j x hj).1, (e4 j x hj).2.tr_same hs⟩⟩
    | ar T sz m => exact this
    | mu T sz ver xs =>
      obtain ⟨cells, e, e2, e3⟩ := this
      exact ⟨cells, e, e2, fun i row j x hi hj => (e3 i row j x hi hj).stp hs⟩
    | mp ver l => exact this
  have hc0 : Clos .any l.toArray (Array.replicate l.toArray.size false) := by
    refine ⟨by simp, fun k o hk hl => ?_⟩
    have hlt := (Array.getElem?_eq_some_iff.1 hk).1
    simp at hlt
    simp [hlt] at hl
  have hcnt : cntG gens (Array.replicate l.toArray.size false) = 0 := by
    rw [cntG, List.countP_eq_zero]
    intro g _
    by_cases hlt : g < l.length <;> simp [hlt]
  have hE : ∀ r r', agr r r' → (∃ r0, agr r r0 ∧ Q .normal ⟨r0, ch gens.length⟩) → (∃ r0, agr r' r0 ∧ Q .normal ⟨r0, ch gens.length⟩) :=
    fun r r' he ⟨r0, h1, h2⟩ => ⟨r0, fun t => (he t).symm.trans (h1 t), h2⟩
  have hY : ∀ i x r r', agr r r' → YG P cx n .any l.toArray gens exs ch i x r → YG P cx n .any l.toArray gens exs ch i x r' :=
    fun i x r r' he hy o ho m h1 h2 r2 hr2 => hy o ho m h1 h2 r2 (fun t ht => (hr2 t ht).trans (he t).symm)
  have hlex := anyR_lex (ex := fun i => exs.contains i) hY hE
    (fun i x r r' o ho hex hr hy o' ho' m h1 h2 r2 hr2 => hy o' ho' m h1 h2 r2 (fun t ht => by
      rcases ht with ht | ht
      · rw [hex] at ht; cases ht
      · rw [ho] at ho'; cases ho'
        exact (hr2 t (.inr ht)).trans (hr t ht)))
    (fun i j hi hli hlj => by
      have h1 := List.all_eq_true.1 hx i (by simpa using hi)
      have h2 := List.all_eq_true.1 h1 j (by simpa using hlj)
      simp only [Bool.or_eq_true] at h2
      rcases h2 with (h2 | h2) | h2
      · exact .inl (Nat.eq_of_beq_eq_true h2)
      · exact .inr (.inl ⟨_, h2⟩)
      · exact .inr (.inr ⟨_, h2⟩))
    l 0 (Array.replicate l.toArray.size false) regs (by simp) hc0 (by simpa using hB) h
  refine wp_region_any hm (wpAny_of_anyR (gens := gens) (exs := exs) (ch := ch) (Q := fun s => ∃ s0, Eqv s s0 ∧ Q .normal s0) (nodupB_spec hn) (fun s a w r ⟨s0, he, hq⟩ => ⟨s0, he.rel r, hq⟩)
    (fun r ⟨r0, h1, h2⟩ => ⟨⟨r0, ch gens.length⟩, ⟨h1, rfl⟩, h2⟩) hE _ _ regs a _ hc0 (by rw [hcnt]; exact r') ?_)
  simpa using hlex

/-! One operation of such a region: what it looks at stands in front. -/
def looks (l : Regs) (o : Oper) (ops : Array Oper) : Bool := (o.looksAt ops).all (fun t => mem t (l.map (·.1))) && (l.map (·.1)).all (fun t => (o.looksAt ops).contains t)

theorem get_append_in {α : Type} {l r : List (Nat × α)} {t : Nat} : t ∈ l.map (·.1) → get (l ++ r) t = get l t := by
  induction l with
  | nil => intro h; simp at h
  | cons p l ih =>
    obtain ⟨k, y⟩ := p
    intro h
    simp only [List.cons_append, get]
    cases hb : Nat.beq k t with
    | true => rfl
    | false =>
      simp only [cond_false]
      refine ih ?_
      simp only [List.map_cons, List.mem_cons] at h
      rcases h with h | h
      · subst h; simp [Nat.beq_refl] at hb
      · exact h
theorem get_append_out {α : Type} {l r : List (Nat × α)} {t : Nat} : t ∉ l.map (·.1) → get (l ++ r) t = get r t := by
  induction l with
  | nil => intro _; rfl
  | cons p l ih =>
    obtain ⟨k, y⟩ := p
    intro h
    simp only [List.map_cons, List.mem_cons, not_or] at h
    simp only [List.cons_append, get]
    cases hb : Nat.beq k t with
    | true => exact absurd (Nat.eq_of_beq_eq_true hb).symm h.1
    | false => exact ih h.2

/-- The registers of the list, each as it stands. -/
inductive Look (regs : Regs) : Regs → Prop
  | nil : Look regs []
  | cons {t : Nat} {x : AV} {r : Regs} (h : get regs t = some x) (hr : Look regs r) : Look regs ((t, x) :: r)

theorem Look.get : ∀ {regs l : Regs}, Look regs l → ∀ t, t ∈ l.map (·.1) → Ab.get l t = Ab.get regs t
  | _, _, .nil, t, h => by simp at h
  | _, _, .cons (t := k) h hr, t, ht => by
    simp only [Ab.get]
    cases hb : Nat.beq k t with
    | true => obtain rfl : k = t := Nat.eq_of_beq_eq_true hb; simp [h]
    | false =>
      simp only [List.map_cons, List.mem_cons] at ht
      rcases ht with ht | ht
      · subst ht; simp [Nat.beq_refl] at hb
      · exact hr.get t ht

section
variable {gens exs : List Nat} {ch : Nat → Obs} {E : Regs → Prop} {o : Oper} {rest : List Oper} {regs : Regs} {x : AV} {k : Nat}

/-- At one place among the turns. -/
def atM (P : Program) (cx : Cx) (n : Nat) (ops : Array Oper) (o : Oper) (x : AV) (l : Regs) (objs objs' : Obs) : Prop :=
  ∀ regs', AWl P cx n ops [o] (fun e s1 => e = .normal ∧ s1 = ⟨putd o.dst x (l ++ regs'), objs'⟩) ⟨l ++ regs', objs⟩

def atAll (P : Program) (cx : Cx) (n : Nat) (ops : Array Oper) (o : Oper) (x : AV) (l : Regs) (ch : Nat → Obs) (de : Nat) : Nat → Nat → Prop
  | _, 0 => True
  | m, c + 1 => atM P cx n ops o x l (ch m) (ch (m + de)) ∧ atAll P cx n ops o x l ch de (m + 1) c

theorem atAll_at {l : Regs} {de : Nat} : ∀ {c m : Nat}, atAll P cx n ops o x l ch de m c → ∀ q, m ≤ q → q < m + c → atM P cx n ops o x l (ch q) (ch (q + de))
  | 0, m, h, q, h1, h2 => by omega
  | c + 1, m, h, q, h1, h2 => by
    by_cases e : q = m
    · subst e; exact h.1
    · exact atAll_at h.2 q (by omega) (by omega)

/-- The operation in any objects in which it may run; it looks at a few registers. -/
theorem awd_all (l : Regs) (hl : Look regs l) (ho : ops[k]? = some o) (hk : looks l o ops = true) (c : Nat) (hc : Nat.beq (hiG .any ops gens k + 1) (loG .any ops gens k + c) = true)
    (h : atAll P cx n ops o x l ch (deG gens k) (loG .any ops gens k) c)
    (kk : AWd (YG P cx n .any ops gens exs ch) E (k + 1) rest (putd o.dst x regs)) : AWd (YG P cx n .any ops gens exs ch) E k (o :: rest) regs := by
  refine ⟨x, fun o' ho' m h1 h2 r' hr' a w hr => ?_, kk⟩
  rw [ho] at ho'; cases ho'
  have hE : agr r' (l ++ r') := fun t => by
    by_cases ht : t ∈ l.map (·.1)
    · simp only [looks, Bool.and_eq_true] at hk
      have h3 := List.all_eq_true.1 hk.2 t ht
      rw [get_append_in ht, hl.get t ht]
      exact hr' t (.inr (by simpa using h3))
    · rw [get_append_out ht]
  have hEv : Eqv ⟨r', ch m⟩ ⟨l ++ r', ch m⟩ := ⟨hE, rfl⟩
  have hc' := Nat.eq_of_beq_eq_true hc
  have := atAll_at h m h1 (by omega) r' a w (hEv.rel hr)
  refine wpl_mono this ?_ (fun ⟨_, _, _, _, h4, _⟩ => by cases h4)
  rintro e a1 w1 ⟨s1, q1, q2, q3⟩
  subst q3
  exact ⟨_, q1, q2, agr_putd (fun t => (hE t).symm) _ _, rfl⟩

/-- One that all others stand before or behind. -/
theorem awd_x0 {objs objs' : Obs} (ho : ops[k]? = some o) (hx : exs.contains k = true) (hc : Nat.beq (hiG .any ops gens k) (loG .any ops gens k) = true) (h0 : ch (loG .any ops gens k) = objs)
    (h : AWl P cx n ops [o] (fun e s1 => e = .normal ∧ s1 = ⟨putd o.dst x regs, objs'⟩) ⟨regs, objs⟩) (h1 : ch (loG .any ops gens k + deG gens k) = objs')
    (kk : AWd (YG P cx n .any ops gens exs ch) E (k + 1) rest (putd o.dst x regs)) : AWd (YG P cx n .any ops gens exs ch) E k (o :: rest) regs := by
  subst h0 h1
  refine ⟨x, fun o' ho' m h1 h2 r' hr' a w hr => ?_, kk⟩
  rw [ho] at ho'; cases ho'
  have hc' := Nat.eq_of_beq_eq_true hc
  obtain rfl : m = loG .any ops gens k := by omega
  have hE : agr r' regs := fun t => hr' t (.inl hx)
  have hEv : Eqv ⟨r', ch (loG .any ops gens k)⟩ ⟨regs, ch (loG .any ops gens k)⟩ := ⟨hE, rfl⟩
  refine wpl_mono (h a w (hEv.rel hr)) ?_ (fun ⟨_, _, _, _, h4, _⟩ => by cases h4)
  rintro e a1 w1 ⟨s1, q1, q2, q3⟩
  subst q3
  exact ⟨_, q1, q2, agr_putd (fun t => (hE t).symm) _ _, rfl⟩
end
end
end Go.Ab

/- Facts about structs; equality of structs of whole numbers; steps of a region whose order is drawn. -/
set_option linter.unusedVariables false
set_option linter.unusedSectionVars false
set_option linter.unusedSimpArgs false
namespace Go.Ab
open Go Go.RowKit

def plq (P : Program) : List Field → Option (List (Nat × Nat))
  | [] => some []
  | f :: r => match P.info? f.type, plq P r with
    | some i, some q => some ((f.offset, i.size) :: q)
    | _, _ => none

theorem plq_run {P : Program} : ∀ (fs : List Field) (pl : List (Nat × Nat)), plq P fs = some pl → ∀ w, (fs.mapM (fun f => do pure (f.offset, ← sizeOf f.type)) : Sem (List (Nat × Nat))).run P w = .ok pl w
  | [], pl, h, w => by simp [plq] at h; subst h; simp
  | f :: r, pl, h, w => by
    simp only [plq] at h
    split at h
    · rename_i i q h1 h2
      cases h
      have ih := plq_run r q h2 w
      simp only [List.mapM_cons, Sem.run_bind, sizeOf, typeInfo, run_program, h1, Sem.run_pure, Result.andThen_ok] at ih ⊢
      rw [ih]
      simp
    · cases h

theorem BI.mk' {P : Program} {T : Nat} {fs : List Field} {pl : List (Nat × Nat)} (hu : P.underlying T = some (.struct fs.toArray)) (h : plq P fs = some pl) : BI P T pl :=
  ⟨fs.toArray, hu, fun w => by
    rw [List.mapM_toArray]
    have := plq_run fs pl h w
    simp only [map_eq_pure_bind, Sem.run_bind, this, Result.andThen_ok, Sem.run_pure]⟩

/-! Structs of whole numbers. -/
def okF (P : Program) : Nat → List Field → Bool
  | _, [] => true
  | i, f :: r => (f.name != "_") && Nat.beq f.offset i && (match P.underlying f.type with | some (.int .i64) => true | _ => false) && okF P (i + 1) r

structure EqI (P : Program) (T n : Nat) : Prop where
  h : ∃ fs : List Field, fs.length = n ∧ P.underlying T = some (.struct fs.toArray) ∧ okF P 0 fs = true
  p : P.stoodInHeld T = false
  g : P.eqGuardType P.depth T = false

theorem eqF_run {P : Program} {d : Nat} {w : World} : ∀ (fs : List Field) (i : Nat) (xs ys : Array Value) (as bs : List Int), okF P i fs = true → as.length = fs.length → bs.length = fs.length →
    (∀ j, j < fs.length → xs[i + j]? = (as[j]?).map (Value.int .i64)) → (∀ j, j < fs.length → ys[i + j]? = (bs[j]?).map (Value.int .i64)) →
    (Op.eqFields (d + 1) xs ys fs).run P w = .ok (decide (as = bs)) w
  | [], i, xs, ys, as, bs, h, h1, h2, h3, h4 => by
    obtain rfl := List.eq_nil_of_length_eq_zero h1
    obtain rfl := List.eq_nil_of_length_eq_zero h2
    simp [Op.eqFields]
  | f :: r, i, xs, ys, a :: as, b :: bs, h, h1, h2, h3, h4 => by
    simp only [okF, Bool.and_eq_true] at h
    obtain ⟨⟨⟨hn, ho⟩, hk⟩, hr⟩ := h
    obtain rfl : f.offset = i := Nat.eq_of_beq_eq_true ho
    have hn' : f.name ≠ "_" := by simpa using hn
    have hu : P.underlying f.type = some (.int .i64) := by
      split at hk
      · assumption
      · cases hk
    have e1 : xs[f.offset]? = some (.int .i64 a) := by simpa using h3 0 (by simp)
    have e2 : ys[f.offset]? = some (.int .i64 b) := by simpa using h4 0 (by simp)
    have ih := eqF_run (d := d) (w := w) r (f.offset + 1) xs ys as bs hr (by simpa using h1) (by simpa using h2)
      (fun j hj => by have := h3 (j + 1) (by simp; omega); simpa [Nat.add_assoc, Nat.add_comm 1 j] using this)
      (fun j hj => by have := h4 (j + 1) (by simp; omega); simpa [Nat.add_assoc, Nat.add_comm 1 j] using this)
    have p1 : (part f.type xs f.offset).run P w = .ok (.int .i64 a) w := by simp [part, isAgg, Sem.run_bind, run_underlying hu w, e1]
    have p2 : (part f.type ys f.offset).run P w = .ok (.int .i64 b) w := by simp [part, isAgg, Sem.run_bind, run_underlying hu w, e2]
    rw [Op.eqFields]
    simp only [if_pos hn', Sem.run_bind, p1, p2, Result.andThen_ok, run_equalIn_int w d f.type .i64 .i64 a b hu]
    by_cases hab : a = b
    · subst hab
      simp [ih]
    · simp [hab]

theorem EqI.eql {P : Program} {T n : Nat} (e : EqI P T n) {as bs : List Int} (h1 : as.length = n) (h2 : bs.length = n) (w : World) :
    (Op.equalIn 10000 T (.agg (as.map (Value.int .i64)).toArray) (.agg (bs.map (Value.int .i64)).toArray)).run P w = .ok (decide (as = bs)) w := by
  obtain ⟨fs, hl, hu, hok⟩ := e.h
  have hf : P.fieldsOf T = fs.toArray := by simp [Program.fieldsOf, hu]
  rw [run_equalIn_struct w 9999 T _ _ (by rw [hf]; exact hu) e.p, hf]
  exact eqF_run (d := 9998) fs 0 _ _ as bs hok (by omega) (by omega) (fun j hj => by simp) (fun j hj => by simp)

def intq : List AV → Option (List Int)
  | [] => some []
  | .p (.v (.int .i64 n)) :: r => match intq r with
    | some q => some (n :: q)
    | none => none
  | _ => none
theorem intq_spec : ∀ {l : List AV} {r : List Int}, intq l = some r → l = r.map fun n => .p (I n)
  | [], r, h => by simp [intq] at h; simp [h]
  | x :: l, r, h => by
    unfold intq at h
    split at h
    · cases ‹_ :: _ = []›
    · rename_i n r' he
      split at h
      · rename_i q hq
        cases h
        cases he
        simp [intq_spec hq]
      · cases h
    · cases h

section
variable {P : Program} {cx : Cx} {n : Nat} {Q : Exit → S → Prop} {regs : List (Nat × AV)} {objs : Obs} {ops : Array Oper} {rest : List Oper} {d : Nat} {pos : String} {aft : Array Edge} {ty : Nat}

theorem RepA.ints {w : World} {M : Nat → Nat → Prop} {own : Nat → Value} {hw : Nat → Option Nat} {as : List Int} {v : Value} (h : RepA w M own hw (.ag (as.map fun n => .p (I n))) v) : v = .agg (as.map (Value.int .i64)).toArray := by
  cases h with
  | ag vs hl h1 h =>
    congr 2
    apply List.ext_getElem?
    intro j
    rcases Nat.lt_or_ge j as.length with hj | hj
    · have := (h j (.p (I as[j])) (by simp [hj])).val
      have hlt : j < vs.length := by rw [hl]; simpa using hj
      simp [List.getD_eq_getElem?_getD, hlt] at this
      simp [hlt, hj, this]
    · rw [List.getElem?_eq_none (by rw [hl]; simpa using hj), List.getElem?_eq_none (by simpa using hj)]

theorem x_eqs {op : BinOp} {T yT m : Nat} {x y : Operand} {cs ds : List AV} {as bs : List Int} (e : EqI P T m) (hop : op = .eql) (hx : S.ev ⟨regs, objs⟩ x = some (.ag cs)) (hy : S.ev ⟨regs, objs⟩ y = some (.ag ds)) (hi : intq cs = some as) (hj : intq ds = some bs)
    (h1 : Nat.beq as.length m = true) (h2 : Nat.beq bs.length m = true) (hd : Nat.blt d n = true) (kk : AWl P cx n ops rest Q ⟨(d, .p (B (decide (as = bs)))) :: regs, objs⟩) :
    AWl P cx n ops (⟨some d, .binOp op T x y yT, ty, pos, aft, none⟩ :: rest) Q ⟨regs, objs⟩ := by
  subst hop
  refine awl_val (.p (B (decide (as = bs)))) rfl rfl (by simpa using hd) (fun a w own r => ?_) kk
  have hx' := r.ev hx; have hy' := r.ev hy
  rw [intq_spec hi] at hx'; rw [intq_spec hj] at hy'
  refine ⟨.bool (decide (as = bs)), ?_, .scal rfl⟩
  simp only [execOp, hx'.ints, hy'.ints, Sem.run_bind, run_eqGuard_agg w .eql T _ _ _ _ e.g, run_eql_struct, Result.andThen_ok, e.eql (Nat.eq_of_beq_eq_true h1) (Nat.eq_of_beq_eq_true h2) w, Sem.run_pure]
theorem x_nes {op : BinOp} {T yT m : Nat} {x y : Operand} {cs ds : List AV} {as bs : List Int} (e : EqI P T m) (hop : op = .neq) (hx : S.ev ⟨regs, objs⟩ x = some (.ag cs)) (hy : S.ev ⟨regs, objs⟩ y = some (.ag ds)) (hi : intq cs = some as) (hj : intq ds = some bs)
    (h1 : Nat.beq as.length m = true) (h2 : Nat.beq bs.length m = true) (hd : Nat.blt d n = true) (kk : AWl P cx n ops rest Q ⟨(d, .p (B (decide (as ≠ bs)))) :: regs, objs⟩) :
    AWl P cx n ops (⟨some d, .binOp op T x y yT, ty, pos, aft, none⟩ :: rest) Q ⟨regs, objs⟩ := by
  subst hop
  refine awl_val (.p (B (decide (as ≠ bs)))) rfl rfl (by simpa using hd) (fun a w own r => ?_) kk
  have hx' := r.ev hx; have hy' := r.ev hy
  rw [intq_spec hi] at hx'; rw [intq_spec hj] at hy'
  refine ⟨.bool (decide (as ≠ bs)), ?_, .scal rfl⟩
  have hb : (!decide (as = bs)) = decide (as ≠ bs) := by by_cases h : as = bs <;> simp [h]
  simp only [execOp, hx'.ints, hy'.ints, Sem.run_bind, run_eqGuard_agg w .neq T _ _ _ _ e.g, run_neq_struct, Result.andThen_ok, e.eql (Nat.eq_of_beq_eq_true h1) (Nat.eq_of_beq_eq_true h2) w, Sem.run_pure, hb]

/-! ## Regions whose order is drawn -/
variable {E : Regs → Prop} {o : Oper} {k : Nat} {x : AV} {id : Nat} {l : List Oper}

/-- No object is touched. -/
theorem awp_draw0 (hm : P.follows .mixedOrders = true) (hB : drawB l.toArray [] [] = true)
    (h : AWd (YG P cx n .any l.toArray [] [] (fun _ => objs)) (fun r => Q .normal ⟨r, objs⟩) 0 l regs) : AWp P cx n (.region id l.toArray true) Q ⟨regs, objs⟩ := by
  refine awp_draw [] [] (fun _ => objs) rfl hm hB ?_
  have key : ∀ (l' : List Oper) (k : Nat) (r : Regs), AWd (YG P cx n .any l.toArray [] [] (fun _ => objs)) (fun r => Q .normal ⟨r, objs⟩) k l' r → AWd (YG P cx n .any l.toArray [] [] (fun _ => objs)) (fun r => ∃ r0, agr r r0 ∧ Q .normal ⟨r0, objs⟩) k l' r := by
    intro l'
    induction l' with
    | nil => intro k r h; exact ⟨r, fun _ => rfl, h⟩
    | cons o l' ih => intro k r ⟨x, h1, h2⟩; exact ⟨x, h1, ih _ _ h2⟩
  exact key l 0 regs h

theorem awd_q {d : Nat} (lk : Regs) (hl : Look regs lk) (ho : ops[k]? = some o) (hk : looks lk o ops = true) (hd : o.dst = some d)
    (h : ∃ x, (∀ regs', AWl P cx n ops [o] (fun e s1 => e = .normal ∧ s1 = ⟨(d, x) :: (lk ++ regs'), objs⟩) ⟨lk ++ regs', objs⟩) ∧
      AWd (YG P cx n .any ops [] [] (fun _ => objs)) E (k + 1) rest ((d, x) :: regs)) : AWd (YG P cx n .any ops [] [] (fun _ => objs)) E k (o :: rest) regs := by
  obtain ⟨x, h, kk⟩ := h
  exact awd_all lk hl ho hk 1 rfl ⟨fun r' => by simpa [putd, hd] using h r', trivial⟩ (by simpa [putd, hd] using kk)
theorem awd_q' (lk : Regs) (hl : Look regs lk) (ho : ops[k]? = some o) (hk : looks lk o ops = true) (hd : o.dst = none)
    (h : ∀ regs', AWl P cx n ops [o] (fun e s1 => e = .normal ∧ s1 = ⟨lk ++ regs', objs⟩) ⟨lk ++ regs', objs⟩)
    (kk : AWd (YG P cx n .any ops [] [] (fun _ => objs)) E (k + 1) rest regs) : AWd (YG P cx n .any ops [] [] (fun _ => objs)) E k (o :: rest) regs :=
  awd_all (x := .any) lk hl ho hk 1 rfl ⟨fun r' => by simpa [putd, hd] using h r', trivial⟩ (by simpa [putd, hd] using kk)

theorem awd_nil {Y : Nat → AV → Regs → Prop} (h : E regs) : AWd Y E k [] regs := h

theorem awd_split {Y : Nat → AV → Regs → Prop} (t : Nat) {b : Bool} (ht : get regs t = some (.p (.v (.bool b)))) {l : List Oper} (h1 : b = true → AWd Y E k l regs) (h2 : b = false → AWd Y E k l regs) : AWd Y E k l regs := by
  cases b
  · exact h2 rfl
  · exact h1 rfl
theorem awd_split_p {Y : Nat → AV → Regs → Prop} (t : Nat) {q : Prop} [Decidable q] (ht : get regs t = some (.p (.v (.bool (decide q))))) {l : List Oper} (h1 : q → AWd Y E k l regs) (h2 : ¬ q → AWd Y E k l regs) : AWd Y E k l regs := by
  by_cases h : q
  · exact h1 h
  · exact h2 h

/-- A call that takes and leaves no object, its answer at hand. -/
theorem awl_done {s s' : S} (h : s = s') : AWl P cx n ops [] (fun e s1 => e = .normal ∧ s1 = s') s := awl_nil ⟨rfl, h⟩
end
end Go.Ab

/- Steps of a region whose order is drawn and in which objects turn. -/
set_option linter.unusedVariables false
set_option linter.unusedSectionVars false
set_option linter.unusedSimpArgs false
namespace Go.Ab
open Go Go.RowKit

/-- One state of the objects behind the other. -/
def lch : Obs → List Obs → Nat → Obs
  | o, _, 0 => o
  | o, [], _ + 1 => o
  | _, a :: r, m + 1 => lch a r m

section
variable {P : Program} {cx : Cx} {n : Nat} {ops : Array Oper} {gens exs : List Nat} {ch : Nat → Obs} {E : Regs → Prop} {o : Oper} {rest : List Oper} {regs : Regs} {x : AV} {k : Nat} {objs objs' : Obs}

theorem awd_x {d : Nat} (lo de : Nat) (ho : ops[k]? = some o) (hx : exs.contains k = true) (hd : o.dst = some d) (hlo : Nat.beq (loG .any ops gens k) lo = true) (hhi : Nat.beq (hiG .any ops gens k) lo = true) (hde : Nat.beq (deG gens k) de = true) (h0 : ch lo = objs) (h1 : ch (lo + de) = objs')
    (h : ∃ x, (AWl P cx n ops [o] (fun e s1 => e = .normal ∧ s1 = ⟨(d, x) :: regs, objs'⟩) ⟨regs, objs⟩) ∧
      AWd (YG P cx n .any ops gens exs ch) E (k + 1) rest ((d, x) :: regs)) : AWd (YG P cx n .any ops gens exs ch) E k (o :: rest) regs := by
  obtain ⟨x, h, kk⟩ := h
  have e1 := Nat.eq_of_beq_eq_true hlo
  have e2 := Nat.eq_of_beq_eq_true hhi
  have e3 := Nat.eq_of_beq_eq_true hde
  exact Ab.awd_x0 (x := x) (objs := objs) (objs' := objs') ho hx (by rw [e1, e2]; exact Nat.beq_refl _) (by rw [e1]; exact h0) (by simpa [putd, hd] using h) (by rw [e1, e3]; exact h1) (by simpa [putd, hd] using kk)
theorem awd_x' (lo de : Nat) (ho : ops[k]? = some o) (hx : exs.contains k = true) (hd : o.dst = none) (hlo : Nat.beq (loG .any ops gens k) lo = true) (hhi : Nat.beq (hiG .any ops gens k) lo = true) (hde : Nat.beq (deG gens k) de = true) (h0 : ch lo = objs) (h1 : ch (lo + de) = objs')
    (h : AWl P cx n ops [o] (fun e s1 => e = .normal ∧ s1 = ⟨regs, objs'⟩) ⟨regs, objs⟩)
    (kk : AWd (YG P cx n .any ops gens exs ch) E (k + 1) rest regs) : AWd (YG P cx n .any ops gens exs ch) E k (o :: rest) regs := by
  have e1 := Nat.eq_of_beq_eq_true hlo
  have e2 := Nat.eq_of_beq_eq_true hhi
  have e3 := Nat.eq_of_beq_eq_true hde
  exact Ab.awd_x0 (x := .any) (objs := objs) (objs' := objs') ho hx (by rw [e1, e2]; exact Nat.beq_refl _) (by rw [e1]; exact h0) (by simpa [putd, hd] using h) (by rw [e1, e3]; exact h1) (by simpa [putd, hd] using kk)

theorem awd_g {d : Nat} (lo de : Nat) (lk : Regs) (hl : Look regs lk) (ho : ops[k]? = some o) (hk : looks lk o ops = true) (hd : o.dst = some d) (hlo : Nat.beq (loG .any ops gens k) lo = true) (hhi : Nat.beq (hiG .any ops gens k) lo = true) (hde : Nat.beq (deG gens k) de = true) (h0 : ch lo = objs) (h1 : ch (lo + de) = objs')
    (h : ∃ x, (∀ regs', AWl P cx n ops [o] (fun e s1 => e = .normal ∧ s1 = ⟨(d, x) :: (lk ++ regs'), objs'⟩) ⟨lk ++ regs', objs⟩) ∧
      AWd (YG P cx n .any ops gens exs ch) E (k + 1) rest ((d, x) :: regs)) : AWd (YG P cx n .any ops gens exs ch) E k (o :: rest) regs := by
  obtain ⟨x, h, kk⟩ := h
  have e1 := Nat.eq_of_beq_eq_true hlo
  have e2 := Nat.eq_of_beq_eq_true hhi
  have e3 := Nat.eq_of_beq_eq_true hde
  subst h0 h1
  refine awd_all (x := x) lk hl ho hk 1 (by rw [e1, e2]; exact Nat.beq_refl _) ?_ (by simpa [putd, hd] using kk)
  rw [e1, e3]
  exact ⟨fun r' => by simpa [putd, hd] using h r', trivial⟩

/-- In either of two states of the objects. -/
theorem awd_g2 {d : Nat} {objs2 objs2' : Obs} (lo : Nat) (lk : Regs) (hl : Look regs lk) (ho : ops[k]? = some o) (hk : looks lk o ops = true) (hd : o.dst = some d) (hlo : Nat.beq (loG .any ops gens k) lo = true) (hhi : Nat.beq (hiG .any ops gens k) (lo + 1) = true) (hde : Nat.beq (deG gens k) 0 = true)
    (h0 : ch lo = objs) (h1 : ch (lo + 1) = objs2)
    (h : ∃ x, (∀ regs', AWl P cx n ops [o] (fun e s1 => e = .normal ∧ s1 = ⟨(d, x) :: (lk ++ regs'), objs⟩) ⟨lk ++ regs', objs⟩) ∧
      (∀ regs', AWl P cx n ops [o] (fun e s1 => e = .normal ∧ s1 = ⟨(d, x) :: (lk ++ regs'), objs2⟩) ⟨lk ++ regs', objs2⟩) ∧
      AWd (YG P cx n .any ops gens exs ch) E (k + 1) rest ((d, x) :: regs)) : AWd (YG P cx n .any ops gens exs ch) E k (o :: rest) regs := by
  obtain ⟨x, h, h2, kk⟩ := h
  have e1 := Nat.eq_of_beq_eq_true hlo
  have e2 := Nat.eq_of_beq_eq_true hhi
  have e3 := Nat.eq_of_beq_eq_true hde
  subst h0 h1
  refine awd_all (x := x) lk hl ho hk 2 (by rw [e1, e2]; exact Nat.beq_refl _) ?_ (by simpa [putd, hd] using kk)
  rw [e1, e3]
  exact ⟨fun r' => by simpa [putd, hd] using h r', ⟨fun r' => by simpa [putd, hd] using h2 r', trivial⟩⟩

theorem awp_draw1 {Q : Exit → S → Prop} {id : Nat} {l : List Oper} (gens exs : List Nat) (ch : Nat → Obs) (h0 : ch 0 = objs) (hm : P.follows .mixedOrders = true) (hB : drawB l.toArray gens exs = true) (m : Nat) (hl : Nat.beq gens.length m = true) (h1 : ch m = objs')
    (h : AWd (YG P cx n .any l.toArray gens exs ch) (fun r => Q .normal ⟨r, objs'⟩) 0 l regs) : AWp P cx n (.region id l.toArray true) Q ⟨regs, objs⟩ := by
  refine awp_draw gens exs ch h0 hm hB ?_
  rw [Nat.eq_of_beq_eq_true hl, h1]
  have key : ∀ (l' : List Oper) (k : Nat) (r : Regs), AWd (YG P cx n .any l.toArray gens exs ch) (fun r => Q .normal ⟨r, objs'⟩) k l' r → AWd (YG P cx n .any l.toArray gens exs ch) (fun r => ∃ r0, agr r r0 ∧ Q .normal ⟨r0, objs'⟩) k l' r := by
    intro l'
    induction l' with
    | nil => intro k r h; exact ⟨r, fun _ => rfl, h⟩
    | cons o l' ih => intro k r ⟨x, h1, h2⟩; exact ⟨x, h1, ih _ _ h2⟩
  exact key l 0 regs h

/-! Parts of literals that stand in a region whose order is drawn: a key that nobody names. -/
mutual
def AV.mx : AV → Nat
  | .p _ => 0
  | .any => 0
  | .ptr k _ => k + 1
  | .ts k _ _ => k + 1
  | .ag cs => AV.mxL cs
  | .tp cs => AV.mxL cs
  | .fv _ a b => AV.mxL a + AV.mxL b
  | .tm k _ => k + 1
  | .pe k _ _ => k + 1
  | .ifc _ x => x.mx
  | .nn k _ _ => k + 1
def AV.mxL : List AV → Nat
  | [] => 0
  | x :: r => x.mx + AV.mxL r
end
mutual
theorem AV.mx_no : ∀ (x : AV) (k : Nat), x.mx ≤ k → x.no k = true
  | .p _, k, h => rfl
  | .any, k, h => rfl
  | .ptr j _, k, h => by
    simp only [AV.mx] at h; simp only [AV.no, Bool.not_eq_true']
    cases hb : Nat.beq j k with
    | false => rfl
    | true => have := Nat.eq_of_beq_eq_true hb; omega
  | .ts j _ _, k, h => by
    simp only [AV.mx] at h; simp only [AV.no, Bool.not_eq_true']
    cases hb : Nat.beq j k with
    | false => rfl
    | true => have := Nat.eq_of_beq_eq_true hb; omega
  | .ag cs, k, h => AV.mxL_no cs k h
  | .tp cs, k, h => AV.mxL_no cs k h
  | .fv _ a b, k, h => by
    simp only [AV.mx] at h
    simp only [AV.no, AV.mxL_no a k (by omega), AV.mxL_no b k (by omega), Bool.and_self]
  | .tm j _, k, h => by
    simp only [AV.mx] at h; simp only [AV.no, Bool.not_eq_true']
    cases hb : Nat.beq j k with
    | false => rfl
    | true => have := Nat.eq_of_beq_eq_true hb; omega
  | .pe j _ _, k, h => by
    simp only [AV.mx] at h; simp only [AV.no, Bool.not_eq_true']
    cases hb : Nat.beq j k with
    | false => rfl
    | true => have := Nat.eq_of_beq_eq_true hb; omega
  | .ifc _ x, k, h => AV.mx_no x k h
  | .nn j _ _, k, h => by
    simp only [AV.mx] at h; simp only [AV.no, Bool.not_eq_true']
    cases hb : Nat.beq j k with
    | false => rfl
    | true => have := Nat.eq_of_beq_eq_true hb; omega
theorem AV.mxL_no : ∀ (l : List AV) (k : Nat), AV.mxL l ≤ k → AV.noL k l = true
  | [], k, h => rfl
  | x :: r, k, h => by
    simp only [AV.mxL] at h
    simp only [AV.noL, AV.mx_no x k (by omega), AV.mxL_no r k (by omega), Bool.and_self]
end

def mxR : Regs → Nat
  | [] => 0
  | (_, x) :: r => x.mx + mxR r
def Ob.mx : Ob → Nat
  | .ce _ cs => AV.mxL cs
  | .ar _ _ _ => 0
  | .mu _ _ _ _ => 0
  | .mp _ _ => 0
def mxO : Obs → Nat
  | [] => 0
  | (k, o) :: r => (k + 1) + o.mx + mxO r
theorem mxR_no : ∀ (l : Regs) (k : Nat), mxR l ≤ k → freshR k l = true
  | [], k, h => rfl
  | (t, x) :: r, k, h => by
    simp only [mxR] at h
    simp only [freshR, AV.mx_no x k (by omega), mxR_no r k (by omega), Bool.and_self]
theorem mxO_no : ∀ (l : Obs) (k : Nat), mxO l ≤ k → freshO k l = true
  | [], k, h => rfl
  | (j, o) :: r, k, h => by
    simp only [mxO] at h
    have h1 : Nat.beq j k = false := by
      cases hb : Nat.beq j k with
      | false => rfl
      | true => have := Nat.eq_of_beq_eq_true hb; omega
    have h2 : o.no k = true := by
      cases o with
      | ar => rfl
      | mu => rfl
      | mp => rfl
      | ce T cs => simp only [Ob.mx] at h; exact AV.mxL_no cs k (by omega)
    simp only [freshO, h1, h2, mxO_no r k (by omega), Bool.and_self, Bool.not_false]
theorem mxO_get : ∀ (l : Obs) (k : Nat), mxO l ≤ k → get l k = none
  | [], k, h => rfl
  | (j, o) :: r, k, h => by
    simp only [mxO] at h
    have h1 : Nat.beq j k = false := by
      cases hb : Nat.beq j k with
      | false => rfl
      | true => have := Nat.eq_of_beq_eq_true hb; omega
    simp only [get, h1, cond_false]
    exact mxO_get r k (by omega)
theorem fresh_ex (s : S) (o0 : Obs) : ∃ k, fresh k s = true ∧ get o0 k = none :=
  ⟨mxR s.regs + mxO s.objs + mxO o0, by
    have h1 := mxR_no s.regs (mxR s.regs + mxO s.objs + mxO o0) (by omega)
    have h2 := mxO_no s.objs (mxR s.regs + mxO s.objs + mxO o0) (by omega)
    simp only [fresh, h1, h2, Bool.and_self], mxO_get o0 _ (by omega)⟩

section
variable {P : Program} {cx : Cx} {n : Nat} {Q : Exit → S → Prop} {regs : List (Nat × AV)} {objs : Obs} {ops : Array Oper} {rest : List Oper} {d : Nat} {pos : String} {aft : Array Edge} {ty : Nat}

/-- A slice's literal that nobody writes. -/
theorem x_slice {T E sz bytes len : Nat} {parts : List (Nat × Operand)} {rows : List (List PV)} (si : SI P T E) (ei : EI P E sz bytes) (hr : rowsOf ⟨regs, objs⟩ sz 0 parts = some rows) (hl : Nat.beq parts.length len = true) (hs : (Nat.ble (len * sz) 16777216 && Nat.ble len 16777216) = true)
    (hd : Nat.blt d n = true) (kk : AWl P cx n ops rest Q ⟨(d, .p (.sl sz rows)) :: regs, objs⟩) :
    AWl P cx n ops (⟨some d, .buildSlice T len parts.toArray, ty, pos, aft, none⟩ :: rest) Q ⟨regs, objs⟩ := by
  obtain ⟨k, hf, h0⟩ := fresh_ex ⟨regs, objs⟩ cx.objs0
  refine awl_op rfl (s' := ⟨(d, .p (.sl sz rows)) :: regs, objs⟩) (fun a w own r => ?_) kk
  obtain ⟨v, w', e1, e2, e3⟩ := r.build si ei hr (Nat.eq_of_beq_eq_true hl) (by simp at hs; exact hs.1) (by simp at hs; exact hs.2) hf h0
  refine ⟨v, w', .inl (exec_build e1), upd own k v, ?_⟩
  have r2 := e2.put_same (by simpa using hd : d < n) e3
  have hn := r2.ok.keys
  simp only [S.put, List.map_cons, List.nodup_cons] at hn
  obtain ⟨hok, hle⟩ := r2.ok.part (objs' := objs) (fun x h => List.mem_cons_of_mem _ h) hn.2 cx.M0 (fun b i h => .inl h) (fun j o b hk hb => r2.ok.m0 j o b (List.mem_cons_of_mem _ hk) hb)
  refine { defs := r2.defs, size := r2.size, ok := hok, regs := fun t y hy => ?_, stp := r2.stp.less hle, fix := fun j o hj => (r2.fix j o hj).trans ?_, fr := ⟨r2.fr.keep, fun j o b hk hb => r2.fr.loc j o b (List.mem_cons_of_mem _ hk) hb, r2.fr.size⟩ }
  · simp only [get] at hy
    cases hb : Nat.beq d t with
    | true =>
      obtain rfl : d = t := Nat.eq_of_beq_eq_true hb
      rw [hb] at hy; simp at hy; subst hy
      exact Sub.ts _ _ _ _ _ ((r2.regs d (.ts k sz rows) (by simp [S.put, get, Nat.beq_refl])).part r2.ok (fun x h => List.mem_cons_of_mem _ h) hle)
    | false =>
      rw [hb] at hy
      exact (r2.regs t y (by simp only [S.put, get, hb]; exact hy)).part r2.ok (fun x h => List.mem_cons_of_mem _ h) hle
  · cases h3 : hwOf objs j with
    | none => exact .inr (.inl ⟨h3, .inl rfl⟩)
    | some m =>
      obtain ⟨oo, hm, hwi⟩ := hwOf_some h3
      exact .inl ⟨rfl, by rw [h3]; exact (hwOf_of r2.ok.keys (List.mem_cons_of_mem _ hm) hwi).symm⟩
theorem Sub.agc {l l' : List AV} (h : Subs l l') : Sub (.ag l) (.ag l') := by
  obtain ⟨h1, h2⟩ := h.get
  refine Sub.ag h1 fun j x y hx hy => ?_
  obtain ⟨x', h3, h4⟩ := h2 j y hy
  rw [hx] at h3; cases h3; exact h4

/-- A register as it is told. -/
theorem awl_sub {x y : AV} (hs : Sub x y) (kk : AWl P cx n ops rest Q ⟨(d, y) :: regs, objs⟩) : AWl P cx n ops rest Q ⟨(d, x) :: regs, objs⟩ := fun a w ⟨own, r⟩ => kk a w ⟨own,
  { defs := r.defs, size := r.size, ok := r.ok, stp := r.stp, fix := r.fix, fr := r.fr, regs := fun t z hz => by
      simp only [get] at hz
      cases hb : Nat.beq d t with
      | true =>
        rw [hb] at hz; simp at hz; subst hz
        exact hs _ _ _ _ _ (r.regs t x (by simp [get, hb]))
      | false => exact r.regs t z (by simp only [get, hb]; rw [hb] at hz; exact hz) }⟩
end
end
end Go.Ab

/- More operators: conversions of whole numbers, Bools compared, strings compared. -/
set_option linter.unusedVariables false
set_option linter.unusedSectionVars false
set_option linter.unusedSimpArgs false
namespace Go.Ab
open Go Go.RowKit

section
variable {P : Program} {T src dst : Nat} {x y : Operand} {a b n : Int} {k k' : IntKind} {p q : Bool}

theorem conv_w {d : TypeDesc} (hs : P.underlying src = some d) (hd : P.underlying dst = some (.int k)) : ∀ w, (convert src dst (.int k' n)).run P w = .ok (.int k (k.wrap n)) w := fun w => by
  simp only [convert, Sem.run_bind, run_underlying hs w, run_underlying hd w, Result.andThen_ok]
  cases d <;> rfl
theorem conv_i {d : TypeDesc} (hs : P.underlying src = some d) (hd : P.underlying dst = some (.int .i64)) (h : -9223372036854775808 ≤ n ∧ n ≤ 9223372036854775807) : ∀ w, (convert src dst (.int k' n)).run P w = .ok (.int .i64 n) w := fun w => by
  rw [conv_w hs hd w, wrap64_id h]

theorem bool_eql (hu : P.underlying T = some .bool) : ∀ w, (do eqGuard .eql T x y (.bool p) (.bool q); binOp .eql T (.bool p) (.bool q) : Sem Value).run P w = .ok (.bool (p == q)) w := fun w => by
  have h1 : (eqGuard .eql T x y (.bool p) (.bool q)).run P w = .ok () w := by simp [eqGuard]
  have h2 : binOp .eql T (.bool p) (.bool q) = (do pure (.bool (← Op.equal T (.bool p) (.bool q)))) := rfl
  simp only [Sem.run_bind, h1, h2, Result.andThen_ok, run_equal_bool w T p q hu, Sem.run_pure]
theorem bool_neq (hu : P.underlying T = some .bool) : ∀ w, (do eqGuard .neq T x y (.bool p) (.bool q); binOp .neq T (.bool p) (.bool q) : Sem Value).run P w = .ok (.bool (!(p == q))) w := fun w => by
  have h1 : (eqGuard .neq T x y (.bool p) (.bool q)).run P w = .ok () w := by simp [eqGuard]
  have h2 : binOp .neq T (.bool p) (.bool q) = (do pure (.bool (!(← Op.equal T (.bool p) (.bool q))))) := rfl
  simp only [Sem.run_bind, h1, h2, Result.andThen_ok, run_equal_bool w T p q hu, Sem.run_pure]
end

section
variable {P : Program} {cx : Cx} {n : Nat} {Q : Exit → S → Prop} {regs : Regs} {objs : Obs}
/-- Behind a piece of code only this is kept: a register holds whether F; these registers stand. -/
theorem awp_fml {c : Code} (t : Nat) (F : Prop) [Decidable F] (stat : Regs) (hl : Look regs stat)
    (h : AWp P cx n c (fun e s => e = .normal ∧ ∃ b : Bool, (b = true ↔ F) ∧ Le P cx n s ⟨(t, .p (B b)) :: stat, objs⟩) ⟨regs, objs⟩) (k : Q .normal ⟨(t, .p (B (decide F))) :: stat, objs⟩) : AWp P cx n c Q ⟨regs, objs⟩ := fun a w r => by
  refine wp_mono (h a w r) ?_
  rintro e a' w' ⟨s, hr, rfl, b, hb, hle⟩
  have e1 : b = decide F := by
    cases b with
    | true => exact (decide_eq_true (hb.1 rfl)).symm
    | false => exact (decide_eq_false fun hf => by have := hb.2 hf; cases this).symm
  subst e1
  exact ⟨_, hle a' w' hr, k⟩
end
end Go.Ab

/- Arrays: an element's address, an element, equality. -/
set_option linter.unusedVariables false
set_option linter.unusedSectionVars false
set_option linter.unusedSimpArgs false
namespace Go.Ab
open Go Go.RowKit

structure AI (P : Program) (T m E : Nat) : Prop where
  h : P.underlying T = some (.array m E)

section
variable {P : Program} {cx : Cx} {n : Nat} {Q : Exit → S → Prop} {regs : List (Nat × AV)} {objs : Obs} {ops : Array Oper} {rest : List Oper} {d : Nat} {pos : String} {aft : Array Edge} {ty : Nat}

theorem x_arr {T m E esz k off o2 : Nat} {ag : Bool} {x y : Operand} {kd : IntKind} {i : Int} (ai : AI P T m E) (ti : TI P E esz ag) (hx : S.ev ⟨regs, objs⟩ x = some (.ptr k off)) (hy : S.ev ⟨regs, objs⟩ y = some (.p (.v (.int kd i)))) (h0 : 0 ≤ i) (h1 : i < (m : Int))
    (ho : off + i.toNat * esz = o2) (hd : Nat.blt d n = true) (kk : AWl P cx n ops rest Q ⟨(d, .ptr k o2) :: regs, objs⟩) :
    AWl P cx n ops (⟨some d, .indexAddr T x y, ty, pos, aft, none⟩ :: rest) Q ⟨regs, objs⟩ :=
  awl_val (.ptr k o2) rfl rfl (by simpa using hd) (fun a w own r => by
    obtain ⟨b, hb, hv⟩ := (r.ev hx).ptr_inv
    have hvy := (r.ev hy).val
    refine ⟨.pointer (some ⟨b, o2, none⟩), ?_, .ptr hb⟩
    have e1 : P.arrayLen T = m := by simp [Program.arrayLen, ai.h]
    have e2 : P.elem T = E := by simp [Program.elem, ai.h]
    have hu : P.underlying T = some (.array (P.arrayLen T) (P.elem T)) := by rw [e1, e2]; exact ai.h
    simp only [execOp, hv, hvy, Sem.run_bind]
    rw [run_indexAt_array w T _ kd i hu, e1, e2, if_pos ⟨h0, h1⟩, ti.run_size w]
    simp only [Result.andThen_ok, Sem.run_pure, add_at, ho]) kk

theorem x_idx {T m E : Nat} {x y : Operand} {cs : List AV} {z : AV} {kd : IntKind} {i : Int} (ai : AI P T m E) (ti : TI P E 1 false) (hx : S.ev ⟨regs, objs⟩ x = some (.ag cs)) (hy : S.ev ⟨regs, objs⟩ y = some (.p (.v (.int kd i)))) (h0 : 0 ≤ i) (h1 : i < (m : Int))
    (hz : nthq cs i.toNat = some z) (hd : Nat.blt d n = true) (kk : AWl P cx n ops rest Q ⟨(d, z) :: regs, objs⟩) :
    AWl P cx n ops (⟨some d, .index T x y, ty, pos, aft, none⟩ :: rest) Q ⟨regs, objs⟩ :=
  awl_val z rfl rfl (by simpa using hd) (fun a w own r => by
    have hvy := (r.ev hy).val
    have hvx := r.ev hx
    generalize hv : a.eval x = v at hvx
    cases hvx with
    | ag vs hl h1' h =>
      rw [nthq_eq] at hz
      have hlt : i.toNat < vs.length := by rw [hl]; exact (List.getElem?_eq_some_iff.1 hz).1
      refine ⟨vs.getD i.toNat undef, ?_, h _ _ hz⟩
      simp only [execOp, hv, hvy, Sem.run_bind, Instr.index, asIntOf, run_underlying ai.h w, Sem.run_pure, Result.andThen_ok, if_pos (show 0 ≤ i ∧ i < (m : Int) from ⟨h0, h1⟩), ti.run_size w, Nat.mul_one, part, ti.run_agg w]
      simp [List.getD_eq_getElem?_getD, hlt]) kk

end

/-! Equality of rows of whole numbers, in structs and arrays. -/
theorem eqArr_run {P : Program} {T E d m : Nat} (hu : P.underlying T = some (.array m E)) (he : P.underlying E = some (.int .i64)) (hs : TI P E 1 false) (w : World) (as bs : List Int) (h1 : as.length = m) (h2 : bs.length = m) :
    (Op.equalIn (d + 2) T (.agg (as.map (Value.int .i64)).toArray) (.agg (bs.map (Value.int .i64)).toArray)).run P w = .ok (decide (as = bs)) w := by
  have hp : ∀ (l : List Int) (i : Nat), i < l.length → (part E (l.map (Value.int .i64)).toArray i).run P w = .ok (.int .i64 (l.getD i 0)) w := fun l i hi => by
    simp [part, Sem.run_bind, hs.run_agg w, List.getD_eq_getElem?_getD, hi]
  rw [show d + 2 = (d + 1) + 1 from rfl, Op.equalIn]
  simp only [Sem.run_bind, run_underlying hu w, Result.andThen_ok, hs.run_size w, Nat.mul_one]
  rw [Std.Legacy.Range.forIn_eq_forIn_range']
  simp only [Std.Legacy.Range.size, Nat.sub_zero, Nat.add_sub_cancel, Nat.div_one]
  have key : ∀ (c i : Nat), i + c = m → (forIn (List.range' i c) ((none, PUnit.unit) : Option Bool × PUnit) (fun j r => do
        let a ← part E (as.map (Value.int .i64)).toArray j
        let b ← part E (bs.map (Value.int .i64)).toArray j
        let q ← Op.equalIn (d + 1) E a b
        if (!q) = true then pure (ForInStep.done (some false, PUnit.unit)) else pure (ForInStep.yield (none, PUnit.unit))) : Sem (Option Bool × PUnit)).run P w
      = .ok (if as.drop i = bs.drop i then (none, PUnit.unit) else (some false, PUnit.unit)) w := by
    intro c
    induction c with
    | zero =>
      intro i hi
      have ea : as.drop i = [] := List.drop_eq_nil_of_le (by omega)
      have eb : bs.drop i = [] := List.drop_eq_nil_of_le (by omega)
      simp [ea, eb]
    | succ c ih =>
      intro i hi
      have la : i < as.length := by omega
      have lb : i < bs.length := by omega
      rw [List.range'_succ, List.forIn_cons]
      simp only [Sem.run_bind, hp as i la, hp bs i lb, Result.andThen_ok, run_equalIn_int w d E .i64 .i64 _ _ he]
      have ea : as.drop i = as.getD i 0 :: as.drop (i + 1) := by rw [List.drop_eq_getElem_cons la]; simp [List.getD_eq_getElem?_getD, la]
      have eb : bs.drop i = bs.getD i 0 :: bs.drop (i + 1) := by rw [List.drop_eq_getElem_cons lb]; simp [List.getD_eq_getElem?_getD, lb]
      by_cases hq : as.getD i 0 = bs.getD i 0
      · have hq' : (as.getD i 0 == bs.getD i 0) = true := by simpa using hq
        simp only [hq', Bool.not_true, Bool.false_eq_true, if_false, Sem.run_bind, Sem.run_pure, Result.andThen_ok]
        rw [ih (i + 1) (by omega), ea, eb]
        simp only [List.cons.injEq, hq, true_and]
      · have hq' : (as.getD i 0 == bs.getD i 0) = false := by simpa using hq
        simp only [hq', Bool.not_false, if_true, Sem.run_pure, Result.andThen_ok]
        rw [ea, eb]
        simp only [List.cons.injEq, hq, false_and, if_false]
  have h := key m 0 (by omega)
  simp only [List.drop_zero] at h
  erw [h]
  by_cases hab : as = bs <;> simp [hab]

/-- Equality of rows of so many whole numbers. -/
structure EqV (P : Program) (T n : Nat) : Prop where
  run : ∀ (w : World) (as bs : List Int), as.length = n → bs.length = n → (Op.equalIn 10000 T (.agg (as.map (Value.int .i64)).toArray) (.agg (bs.map (Value.int .i64)).toArray)).run P w = .ok (decide (as = bs)) w
  g : P.eqGuardType P.depth T = false

theorem EqV.flat {P : Program} {T m A E I0 : Nat} {f0 f1 : Field} (hu : P.underlying T = some (.struct #[f0, f1])) (t0 : f0.type = I0) (hi : P.underlying I0 = some (.int .i64)) (o0 : f0.offset = 0) (t1 : f1.type = A) (o1 : f1.offset = 1) (n0 : (f0.name != "_") = true) (n1 : (f1.name != "_") = true)
    (ha : P.underlying A = some (.array m E)) (he : P.underlying E = some (.int .i64)) (hs : TI P E 1 false) (hA : TI P A m true) (hp : P.stoodInHeld T = false) (hg : P.eqGuardType P.depth T = false) : EqV P T (m + 1) := by
  refine ⟨fun w as bs h1 h2 => ?_, hg⟩
  have hf : P.fieldsOf T = #[f0, f1] := by simp [Program.fieldsOf, hu]
  rw [run_equalIn_struct w 9999 T _ _ (by rw [hf]; exact hu) hp, hf]
  obtain ⟨a, as', rfl⟩ : ∃ a r, as = a :: r := by cases as with | nil => simp at h1 | cons a r => exact ⟨a, r, rfl⟩
  obtain ⟨b, bs', rfl⟩ : ∃ a r, bs = a :: r := by cases bs with | nil => simp at h2 | cons a r => exact ⟨a, r, rfl⟩
  simp only [List.length_cons] at h1 h2
  have q0 : f0.name ≠ "_" := by simpa using n0
  have q1 : f1.name ≠ "_" := by simpa using n1
  have p0 : ∀ (x : Int) (l : List Int), (part f0.type ((x :: l).map (Value.int .i64)).toArray f0.offset).run P w = .ok (.int .i64 x) w := fun x l => by
    simp [part, isAgg, Sem.run_bind, t0, o0, run_underlying hi w]
  have p1 : ∀ (x : Int) (l : List Int), l.length = m → (part f1.type ((x :: l).map (Value.int .i64)).toArray f1.offset).run P w = .ok (.agg (l.map (Value.int .i64)).toArray) w := fun x l hl => by
    have : (((x :: l).map (Value.int .i64)).toArray.extract 1 (1 + m)) = (l.map (Value.int .i64)).toArray := by
      simp only [List.map_cons, List.extract_toArray]
      congr 1
      rw [show (1 + m) = m + 1 by omega]
      simp only [List.extract_eq_take_drop, List.drop_succ_cons, List.drop_zero, Nat.add_sub_cancel]
      exact List.take_of_length_le (by simp [hl])
    rw [t1, o1]
    simp only [part, Sem.run_bind, hA.run_agg w, Result.andThen_ok, if_true, hA.run_size w, Sem.run_pure, this]
  simp only [Op.eqFields, if_pos q0, if_pos q1, Sem.run_bind, p0, p1 a as' (by omega), p1 b bs' (by omega), Result.andThen_ok]
  have hq : (Op.equalIn 9999 A (.agg (as'.map (Value.int .i64)).toArray) (.agg (bs'.map (Value.int .i64)).toArray)).run P w = .ok (decide (as' = bs')) w := eqArr_run (d := 9997) ha he hs w as' bs' (by omega) (by omega)
  have p1' := p1
  rw [t1] at p1'
  rw [t0, t1, run_equalIn_int w 9998 I0 .i64 .i64 a b hi]
  simp only [Result.andThen_ok]
  by_cases hab : a = b
  · subst hab
    simp only [beq_self_eq_true, Bool.not_true, Bool.false_eq_true, if_false, Sem.run_bind, p1' a as' (by omega), p1' a bs' (by omega), Result.andThen_ok, hq, Result.andThen_ok]
    by_cases hr : as' = bs' <;> simp [hr]
  · have : (a == b) = false := by simpa using hab
    simp [this, hab]

section
variable {P : Program} {cx : Cx} {n : Nat} {Q : Exit → S → Prop} {regs : List (Nat × AV)} {objs : Obs} {ops : Array Oper} {rest : List Oper} {d : Nat} {pos : String} {aft : Array Edge} {ty : Nat}
theorem x_eqv {op : BinOp} {T yT m : Nat} {x y : Operand} {cs ds : List AV} {as bs : List Int} (e : EqV P T m) (hop : op = .eql) (hx : S.ev ⟨regs, objs⟩ x = some (.ag cs)) (hy : S.ev ⟨regs, objs⟩ y = some (.ag ds)) (hi : intq cs = some as) (hj : intq ds = some bs)
    (h1 : Nat.beq as.length m = true) (h2 : Nat.beq bs.length m = true) (hd : Nat.blt d n = true) (kk : AWl P cx n ops rest Q ⟨(d, .p (B (decide (as = bs)))) :: regs, objs⟩) :
    AWl P cx n ops (⟨some d, .binOp op T x y yT, ty, pos, aft, none⟩ :: rest) Q ⟨regs, objs⟩ := by
  subst hop
  refine awl_val (.p (B (decide (as = bs)))) rfl rfl (by simpa using hd) (fun a w own r => ?_) kk
  have hx' := r.ev hx; have hy' := r.ev hy
  rw [intq_spec hi] at hx'; rw [intq_spec hj] at hy'
  refine ⟨.bool (decide (as = bs)), ?_, .scal rfl⟩
  simp only [execOp, hx'.ints, hy'.ints, Sem.run_bind, run_eqGuard_agg w .eql T _ _ _ _ e.g, run_eql_struct, Result.andThen_ok, e.run w as bs (Nat.eq_of_beq_eq_true h1) (Nat.eq_of_beq_eq_true h2), Sem.run_pure]
end
end Go.Ab

/- Shifts, the last bit, conversions to what has no sign. -/
set_option linter.unusedVariables false
set_option linter.unusedSectionVars false
set_option linter.unusedSimpArgs false
namespace Go.Ab
open Go Go.RowKit

section
variable {P : Program} {T src dst : Nat} {x y : Operand} {a b n : Int} {k k' : IntKind}

theorem bin_shr (h0 : 0 ≤ b ∧ b ≤ 64) : ∀ w, (do eqGuard .shr T x y (.int .i64 a) (.int k' b); binOp .shr T (.int .i64 a) (.int k' b) : Sem Value).run P w = .ok (.int .i64 (a / 2 ^ b.toNat)) w := fun w => by
  have h1 : (eqGuard .shr T x y (.int .i64 a) (.int k' b)).run P w = .ok () w := rfl
  have h2 : binOp .shr T (.int .i64 a) (.int k' b) = Op.shift .shr .i64 a k' b := rfl
  simp only [Sem.run_bind, h1, h2, Result.andThen_ok]
  rw [shift_shr .i64 k' a b h0.1 (by simp [IntKind.bits]; omega)]
  rfl
theorem wraps_i64 (n : Int) (h₀ : 0 ≤ n) (h₁ : n < 2 ^ 63) : IntKind.i64.wrap n = n := by rw [IntKind.wrap_i64]; omega
theorem bin_and1 (h0 : 0 ≤ a ∧ a < 9223372036854775808) : ∀ w, (do eqGuard .and T x y (.int .i64 a) (.int .i64 1); binOp .and T (.int .i64 a) (.int .i64 1) : Sem Value).run P w = .ok (.int .i64 (a % 2)) w := fun w => by
  have h1 : (eqGuard .and T x y (.int .i64 a) (.int .i64 1)).run P w = .ok () w := rfl
  have h2 : binOp .and T (.int .i64 a) (.int .i64 1) = Op.intBits .and .i64 a 1 := rfl
  simp only [Sem.run_bind, h1, h2, Result.andThen_ok]
  have h3 := bits_mask .i64 63 (by decide) wraps_i64 1 (by decide) a h0.1 (by omega)
  simp only [Op.intBits]
  have h4 : bits .and .i64 a 1 = a % 2 := by simpa using h3
  unfold bits at h4
  simp only at h4
  rw [h4]; rfl
theorem conv_u {d : TypeDesc} (hs : P.underlying src = some d) (hd : P.underlying dst = some (.int .u64)) (h : 0 ≤ n ∧ n ≤ 9223372036854775807) : ∀ w, (convert src dst (.int k' n)).run P w = .ok (.int .u64 n) w := fun w => by
  rw [conv_w hs hd w]
  have : IntKind.u64.wrap n = n := by simp [IntKind.wrap, IntKind.bits, IntKind.signed]; omega
  rw [this]
end
end Go.Ab

/- Regions whose order is drawn and in which objects are made: the objects hang on which operations have run. -/
set_option linter.unusedVariables false
set_option linter.unusedSectionVars false
set_option linter.unusedSimpArgs false
namespace Go.Ab
open Go Go.RowKit

def subs : List Nat → List (List Nat)
  | [] => [[]]
  | a :: r => (subs r).map (fun l => a :: l) ++ subs r
theorem filter_subs (p : Nat → Bool) : ∀ l : List Nat, l.filter p ∈ subs l
  | [] => by simp [subs]
  | a :: r => by
    simp only [subs, List.mem_append, List.mem_map]
    by_cases h : p a = true
    · left; exact ⟨r.filter p, filter_subs p r, by simp [h]⟩
    · right; rw [List.filter_cons_of_neg h]; exact filter_subs p r

section
variable {P : Program} {cx : Cx} {n : Nat} {ops : Array Oper} {md : Region.Mode}

def okS (md : Region.Mode) (ops : Array Oper) (gens : List Nat) (i : Nat) (L : List Nat) : Bool :=
  !mem i L && gens.all fun g => (!needs md ops ops.size g i || mem g L) && (!needs md ops ops.size i g || !mem g L)
def consS (md : Region.Mode) (ops : Array Oper) (gens : List Nat) (i : Nat) : List (List Nat) := (subs gens).filter (okS md ops gens i)
def nextS (gens L : List Nat) (i : Nat) : List Nat := gens.filter fun g => mem g L || Nat.beq g i
def setS (gens : List Nat) (listed : Array Bool) : List Nat := gens.filter fun g => listed.getD g false

/-- What is asked of the operation at i. keys: the operations that make objects, with their keys. -/
def YS (P : Program) (cx : Cx) (n : Nat) (md : Region.Mode) (ops : Array Oper) (gens exs : List Nat) (keys : List (Nat × Nat)) (och : List Nat → Obs) (i : Nat) (x : AV) (r : Regs) : Prop :=
  ∀ o, ops[i]? = some o → (∀ a ∈ keys, a.1 ≠ i → needs md ops ops.size a.1 i = false → x.no a.2 = true) ∧
    ∀ L ∈ consS md ops gens i, ∀ r', (∀ t, (exs.contains i = true ∨ t ∈ o.looksAt ops) → get r' t = get r t) → (∀ a ∈ keys, a.1 = i → freshR a.2 r' = true) →
      AWl P cx n ops [o] (fun e s1 => e = .normal ∧ ∃ r2, agr r2 (putd o.dst x r') ∧ Le P cx n s1 ⟨r2, och (nextS gens L i)⟩) ⟨r', och L⟩

theorem mem_setS {gens : List Nat} {listed : Array Bool} {g : Nat} : mem g (setS gens listed) = true ↔ g ∈ gens ∧ listed.getD g false = true := by
  rw [mem_iff, setS, List.mem_filter]

theorem setS_next {gens : List Nat} {listed : Array Bool} {i : Nat} (hi : i < listed.size) : setS gens (listed.setIfInBounds i true) = nextS gens (setS gens listed) i := by
  unfold setS nextS
  apply List.filter_congr
  intro g hg
  by_cases hgi : i = g
  · subst hgi
    simp [hi, Nat.beq_refl]
  · rw [getD_set_ne false hgi]
    have h1 : Nat.beq g i = false := by
      cases hb : Nat.beq g i with
      | false => rfl
      | true => exact absurd (Nat.eq_of_beq_eq_true hb).symm hgi
    rw [h1, Bool.or_false]
    cases h2 : listed.getD g false with
    | true => exact (mem_setS.2 ⟨hg, h2⟩).symm
    | false =>
      cases h3 : mem g (List.filter (fun g => listed.getD g false) gens) with
      | false => rfl
      | true => have := (mem_setS (gens := gens) (listed := listed)).1 h3; rw [h2] at this; cases this.2

theorem wpAny_of_anyS {gens exs : List Nat} {keys : List (Nat × Nat)} {och : List Nat → Obs} {Q : S → Prop} {Q' : Exit → Act → World → Prop} (hQ : ∀ s a w, Rel P cx n s a w → Q s → Q' .normal a w)
    {E : Regs → Prop} (hE : ∀ r, E r → Q ⟨r, och gens⟩) (hEa : ∀ r r', agr r r' → E r → E r') :
    ∀ (fuel : Nat) (listed : Array Bool) (r : Regs) (a : Act) (w : World), Clos md ops listed → (∀ q ∈ keys, listed.getD q.1 false = false → freshR q.2 r = true) → Rel P cx n ⟨r, och (setS gens listed)⟩ a w →
    anyR md ops (YS P cx n md ops gens exs keys och) (fun li r => setS gens li = gens ∧ E r) fuel listed r → wpAny P md ops Q' fuel listed a w
  | 0, _, r, a, w, hc, hk, hr, h => ⟨h.1, hQ _ a w hr (by rw [h.2.1]; exact hE r h.2.2)⟩
  | fuel + 1, listed, r, a, w, hc, hk, hr, h => by
    refine ⟨fun h0 => hQ _ a w hr (by rw [(h.1 h0).1]; exact hE r (h.1 h0).2), fun i hi => ?_⟩
    have h1 := h.2 i hi
    obtain ⟨h0, o, ho, hall⟩ := mem_ready.1 hi
    have hlt : i < listed.size := by
      rcases Nat.lt_or_ge i listed.size with h' | h'
      · exact h'
      · simp [Array.getElem?_eq_none h'] at h0
    unfold aR at h1
    simp only [ho] at h1
    obtain ⟨x, hy, hkk⟩ := h1
    obtain ⟨hno, hy⟩ := hy o ho
    have hL : setS gens listed ∈ consS md ops gens i := by
      refine List.mem_filter.2 ⟨filter_subs _ gens, ?_⟩
      simp only [okS, Bool.and_eq_true, Bool.not_eq_true', List.all_eq_true, Bool.or_eq_true]
      refine ⟨?_, fun g hg => ⟨?_, ?_⟩⟩
      · cases hb : mem i (setS gens listed) with
        | false => rfl
        | true => have := (mem_setS.1 hb).2; rw [getD_tf h0] at this; cases this
      · cases hb : needs md ops ops.size g i with
        | false => left; rfl
        | true => right; exact mem_setS.2 ⟨hg, needs_listed hc _ i hb (fun o' ho' => by rw [ho] at ho'; cases ho'; exact hall)⟩
      · cases hb : needs md ops ops.size i g with
        | false => left; rfl
        | true =>
          right
          cases hm : mem g (setS gens listed) with
          | false => rfl
          | true =>
            have hl := (mem_setS.1 hm).2
            have hlt' : g < listed.size := by
              rcases Nat.lt_or_ge g listed.size with h' | h'
              · exact h'
              · simp [Array.getElem?_eq_none h'] at hl
            have := needs_listed hc ops.size g hb (fun o' ho' e he hb' => hc.2 g o' ho' (by simp [hlt'] at hl ⊢; exact hl) e he hb')
            rw [getD_tf h0] at this; cases this
    refine AWl.one (Q := fun e s1 => ∃ r2, agr r2 (putd o.dst x r) ∧ Le P cx n s1 ⟨r2, och (nextS gens (setS gens listed) i)⟩) ho (hy _ hL r (fun _ _ => rfl) (fun q hq hqi => hk q hq (by rw [hqi]; exact getD_tf h0))) hr fun s1 a1 w1 hr1 he => ?_
    obtain ⟨r2, he1, he2⟩ := he
    refine wpAny_of_anyS hQ hE hEa fuel _ _ a1 w1 (hc.set hi) (fun q hq hql => ?_) ?_ hkk
    · by_cases hqi : q.1 = i
      · rw [hqi] at hql; simp [hlt] at hql
      · rw [getD_set_ne false (Ne.symm hqi)] at hql
        have hun : needs md ops ops.size q.1 i = false := by
          cases hb : needs md ops ops.size q.1 i with
          | false => rfl
          | true =>
            have := needs_listed hc ops.size i hb (fun o' ho' => by rw [ho] at ho'; cases ho'; exact hall)
            rw [hql] at this; cases this
        have h2 := hno q hq hqi hun
        have h3 := hk q hq hql
        cases hd : o.dst with
        | none => simpa [putd, hd] using h3
        | some d => simp [putd, hd, freshR, h2, h3]
    · rw [setS_next hlt]
      exact (⟨he1, rfl⟩ : Eqv ⟨r2, och (nextS gens (setS gens listed) i)⟩ ⟨putd o.dst x r, och (nextS gens (setS gens listed) i)⟩).rel (he2 a1 w1 hr1)

def lexS (md : Region.Mode) (ops : Array Oper) (gens : List Nat) : Nat → Nat → Array Bool → Bool
  | 0, _, listed => (Region.ready md ops listed).isEmpty && (gens.all fun g => listed.getD g false)
  | f + 1, k, listed => (Region.ready md ops listed).contains k && Region.free md ops listed k && lexS md ops gens f (k + 1) (listed.setIfInBounds k true)

theorem anyS_lex {ex : Nat → Bool} {Y : Nat → AV → Regs → Prop} {gens : List Nat} {E : Regs → Prop} (hY : ∀ i x r r', agr r r' → Y i x r → Y i x r') (hE : ∀ r r', agr r r' → E r → E r')
    (hYl : ∀ i x r r' o, ops[i]? = some o → ex i = false → (∀ t, t ∈ o.looksAt ops → get r' t = get r t) → Y i x r → Y i x r')
    (hex : ∀ i j, ex i = true → i < ops.size → j < ops.size → i = j ∨ (∃ f, needs md ops f i j = true) ∨ ∃ f, needs md ops f j i = true) :
    ∀ (l : List Oper) (k : Nat) (listed : Array Bool) (r : Regs), (∀ j, l[j]? = ops[k + j]?) → Clos md ops listed →
    lexS md ops gens l.length k listed = true → AWd Y E k l r → anyR md ops Y (fun li r => setS gens li = gens ∧ E r) l.length listed r
  | [], _, listed, _, _, _, hB, h => by
    simp only [List.length_nil, lexS, Bool.and_eq_true, List.isEmpty_iff] at hB
    refine ⟨hB.1, ?_, h⟩
    exact List.filter_eq_self.2 fun g hg => List.all_eq_true.1 hB.2 g hg
  | o :: l, k, listed, r, hl, hc, hB, h => by
    have h0 : ops[k]? = some o := by simpa using (hl 0).symm
    simp only [List.length_cons, lexS, Bool.and_eq_true] at hB
    obtain ⟨⟨hr, hf⟩, hB'⟩ := hB
    obtain ⟨x, hy, hK⟩ := h
    have hr' : k ∈ Region.ready md ops listed := by simpa using hr
    exact anyR_first hY (fun l r r' he h => ⟨h.1, hE r r' he h.2⟩) hYl hex h0 l.length listed r hc (Region.free_spec h0 hf) hr' hy
      (anyS_lex hY hE hYl hex l (k + 1) _ _ (fun j => by have := hl (j + 1); simpa [Nat.add_assoc, Nat.add_comm 1 j] using this) (hc.set hr') hB' hK)

def drawS (ops : Array Oper) (gens exs : List Nat) : Bool := exB .any ops exs && lexS .any ops gens ops.size 0 (Array.replicate ops.size false)
def freshK (keys : List (Nat × Nat)) (regs : Regs) : Bool := keys.all fun a => freshR a.2 regs

theorem awp_drawS {id : Nat} {l : List Oper} {Q : Exit → S → Prop} {regs : Regs} {objs objs' : Obs} (gens exs : List Nat) (keys : List (Nat × Nat)) (och : List Nat → Obs) (h0 : och [] = objs) (h1 : och gens = objs') (hm : P.follows .mixedOrders = true) (hB : drawS l.toArray gens exs = true) (hk : freshK keys regs = true)
    (h : AWd (YS P cx n .any l.toArray gens exs keys och) (fun r => ∃ r0, agr r r0 ∧ Q .normal ⟨r0, objs'⟩) 0 l regs) : AWp P cx n (.region id l.toArray true) Q ⟨regs, objs⟩ := fun a w r => by
  subst h0 h1
  simp only [drawS, Bool.and_eq_true] at hB
  obtain ⟨hx, hB⟩ := hB
  have r' : Rel P cx n ⟨regs, och []⟩ a { w with drawn := w.drawn + 1 } := by
    obtain ⟨own, r⟩ := r
    have hs : Stp w (Mu cx.M0 own (och [])) { w with drawn := w.drawn + 1 } (Mu cx.M0 own (och [])) := ⟨rfl, rfl, rfl, Nat.le_refl _, fun _ _ _ _ h => h, fun _ _ h => .inl h, fun _ cs _ h => ⟨cs, h⟩⟩
    refine ⟨own, { defs := r.defs, size := r.size, ok := ?_, regs := fun t x hx => (r.regs t x hx).tr_same hs, stp := r.stp.trans hs, fix := r.fix, fr := r.fr.trans ⟨fun _ _ _ => rfl, fun k o b hk hb => .inl ⟨k, o, hk, hb⟩, Nat.le_refl _⟩ }⟩
    refine { obs := fun k o hk => ?_, keys := r.ok.keys, inj := r.ok.inj, m0 := r.ok.m0, m0old := r.ok.m0old }
    have := r.ok.obs k o hk
    cases o with
    | ce T cs =>
      obtain ⟨b, vals, e1, e2, e3, e4⟩ := this
      exact ⟨b, vals, e1, e2, e3, fun j x hj => ⟨(e4 j x hj).1, (e4 j x hj).2.tr_same hs⟩⟩
    | ar T sz m => exact this
    | mu T sz ver xs =>
      obtain ⟨cells, e, e2, e3⟩ := this
      exact ⟨cells, e, e2, fun i row j x hi hj => (e3 i row j x hi hj).stp hs⟩
    | mp ver l => exact this
  have hc0 : Clos .any l.toArray (Array.replicate l.toArray.size false) := by
    refine ⟨by simp, fun k o hk hl => ?_⟩
    have hlt := (Array.getElem?_eq_some_iff.1 hk).1
    simp at hlt
    simp [hlt] at hl
  have hset : setS gens (Array.replicate l.toArray.size false) = [] := by
    rw [setS, List.filter_eq_nil_iff]
    intro g _
    by_cases hlt : g < l.length <;> simp [hlt]
  have hE : ∀ r r', agr r r' → (∃ r0, agr r r0 ∧ Q .normal ⟨r0, och gens⟩) → (∃ r0, agr r' r0 ∧ Q .normal ⟨r0, och gens⟩) :=
    fun r r' he ⟨r0, h1, h2⟩ => ⟨r0, fun t => (he t).symm.trans (h1 t), h2⟩
  have hY : ∀ i x r r', agr r r' → YS P cx n .any l.toArray gens exs keys och i x r → YS P cx n .any l.toArray gens exs keys och i x r' :=
    fun i x r r' he hy o ho => ⟨(hy o ho).1, fun L hL r2 hr2 => (hy o ho).2 L hL r2 (fun t ht => (hr2 t ht).trans (he t).symm)⟩
  have hlex := anyS_lex (ex := fun i => exs.contains i) hY hE
    (fun i x r r' o ho hex hr hy o' ho' => ⟨(hy o' ho').1, fun L hL r2 hr2 => (hy o' ho').2 L hL r2 (fun t ht => by
      rcases ht with ht | ht
      · rw [hex] at ht; cases ht
      · rw [ho] at ho'; cases ho'
        exact (hr2 t (.inr ht)).trans (hr t ht))⟩)
    (fun i j hi hli hlj => by
      have h1 := List.all_eq_true.1 hx i (by simpa using hi)
      have h2 := List.all_eq_true.1 h1 j (by simpa using hlj)
      simp only [Bool.or_eq_true] at h2
      rcases h2 with (h2 | h2) | h2
      · exact .inl (Nat.eq_of_beq_eq_true h2)
      · exact .inr (.inl ⟨_, h2⟩)
      · exact .inr (.inr ⟨_, h2⟩))
    l 0 (Array.replicate l.toArray.size false) regs (by simp) hc0 (by simpa using hB) h
  refine wp_region_any hm (wpAny_of_anyS (gens := gens) (exs := exs) (keys := keys) (och := och) (Q := fun s => ∃ s0, Eqv s s0 ∧ Q .normal s0) (fun s a w r ⟨s0, he, hq⟩ => ⟨s0, he.rel r, hq⟩)
    (fun r ⟨r0, h1, h2⟩ => ⟨⟨r0, och gens⟩, ⟨h1, rfl⟩, h2⟩) hE _ _ regs a _ hc0 (fun q hq _ => List.all_eq_true.1 hk q hq) (by rw [hset]; exact r') ?_)
  simpa using hlex
end

/-- The same registers, fewer objects or in another order. -/
theorem Le.objs {P : Program} {cx : Cx} {n : Nat} {regs : Regs} {objs objs' : Obs} (ho : LeO objs objs') (hn : nodupB (objs'.map (·.1)) = true) : Le P cx n ⟨regs, objs⟩ ⟨regs, objs'⟩ := fun a w ⟨own, r⟩ => by
  obtain ⟨hok, hle⟩ := r.ok.part ho.mem (nodupB_spec hn) cx.M0 (fun b i h => .inl h) (fun k o b hk hb => r.ok.m0 k o b (ho.mem _ hk) hb)
  refine ⟨own, { defs := r.defs, size := r.size, ok := hok, regs := fun t y hy => (r.regs t y hy).part r.ok ho.mem hle, stp := r.stp.less hle, fix := fun k o hk => (r.fix k o hk).trans ?_, fr := ⟨r.fr.keep, fun k o b hk hb => r.fr.loc k o b (ho.mem _ hk) hb, r.fr.size⟩ }⟩
  cases h3 : hwOf objs' k with
  | none => exact .inr (.inl ⟨h3, .inl rfl⟩)
  | some m =>
    obtain ⟨oo, hm, hwi⟩ := hwOf_some h3
    exact .inl ⟨rfl, by rw [h3, hwOf_of r.ok.keys (ho.mem _ hm) hwi]⟩

/-- The objects, by which have run. -/
def oget : List (List Nat × Obs) → List Nat → Obs
  | [], _ => []
  | (l, o) :: r, L => bif l == L then o else oget r L

def noAll (ops : Array Oper) (keys : List (Nat × Nat)) (i : Nat) (x : AV) : Bool := keys.all fun a => Nat.beq a.1 i || needs .any ops ops.size a.1 i || x.no a.2

section
variable {P : Program} {cx : Cx} {n : Nat} {ops : Array Oper} {gens exs : List Nat} {keys : List (Nat × Nat)} {och : List Nat → Obs} {E : Regs → Prop} {o : Oper} {rest : List Oper} {regs : Regs} {k : Nat}

def atC (P : Program) (cx : Cx) (n : Nat) (ops : Array Oper) (o : Oper) (gens : List Nat) (och : List Nat → Obs) (k : Nat) (d : Option Nat) (x : AV) (lk : Regs) : List (List Nat) → Prop
  | [] => True
  | L :: r => (∀ regs', AWl P cx n ops [o] (fun e s1 => e = .normal ∧ ∃ r2, agr r2 (putd d x (lk ++ regs')) ∧ Le P cx n s1 ⟨r2, och (nextS gens L k)⟩) ⟨lk ++ regs', och L⟩) ∧ atC P cx n ops o gens och k d x lk r
theorem atC_mem {d : Option Nat} {x : AV} {lk : Regs} : ∀ {cs : List (List Nat)}, atC P cx n ops o gens och k d x lk cs → ∀ L ∈ cs, ∀ regs', AWl P cx n ops [o] (fun e s1 => e = .normal ∧ ∃ r2, agr r2 (putd d x (lk ++ regs')) ∧ Le P cx n s1 ⟨r2, och (nextS gens L k)⟩) ⟨lk ++ regs', och L⟩
  | L :: r, h, L', hm => by
    rcases List.mem_cons.1 hm with rfl | hm
    · exact h.1
    · exact atC_mem h.2 L' hm

theorem noAll_spec {x : AV} (h : noAll ops keys k x = true) : ∀ a ∈ keys, a.1 ≠ k → needs .any ops ops.size a.1 k = false → x.no a.2 = true := fun a ha h1 h2 => by
  have := List.all_eq_true.1 h a ha
  simp only [Bool.or_eq_true, h2, Bool.false_eq_true, or_false] at this
  rcases this with this | this
  · exact absurd (Nat.eq_of_beq_eq_true this) h1
  · exact this

/-- An operation that looks at a few registers. -/
theorem awd_s {d : Option Nat} (cs : List (List Nat)) (lk : Regs) (hl : Look regs lk) (ho : ops[k]? = some o) (hk : looks lk o ops = true) (hd : o.dst = d) (hc : consS .any ops gens k = cs)
    (h : ∃ x, atC P cx n ops o gens och k d x lk cs ∧ noAll ops keys k x = true ∧ AWd (YS P cx n .any ops gens exs keys och) E (k + 1) rest (putd d x regs)) : AWd (YS P cx n .any ops gens exs keys och) E k (o :: rest) regs := by
  obtain ⟨x, h, hno, kk⟩ := h
  subst hd
  refine ⟨x, fun o' ho' => ⟨noAll_spec hno, fun L hL r' hr' _ a w hr => ?_⟩, kk⟩
  rw [ho] at ho'; cases ho'
  have hE : agr r' (lk ++ r') := fun t => by
    by_cases ht : t ∈ lk.map (·.1)
    · simp only [looks, Bool.and_eq_true] at hk
      have h3 := List.all_eq_true.1 hk.2 t ht
      rw [get_append_in ht, hl.get t ht]
      exact hr' t (.inr (by simpa using h3))
    · rw [get_append_out ht]
  have hEv : Eqv ⟨r', och L⟩ ⟨lk ++ r', och L⟩ := ⟨hE, rfl⟩
  have := atC_mem h L (hc ▸ hL) r' a w (hEv.rel hr)
  refine wpl_mono this ?_ (fun ⟨_, _, _, _, h4, _⟩ => by cases h4)
  rintro e a1 w1 ⟨s1, q1, q2, r2, q3, q4⟩
  exact ⟨_, q1, q2, r2, fun t => (q3 t).trans ((agr_putd (fun t => (hE t).symm) _ _) t), q4⟩

/-- One that all others stand before or behind. -/
theorem awd_e {d : Option Nat} {objs objs' : Obs} (L : List Nat) (ho : ops[k]? = some o) (hx : exs.contains k = true) (hd : o.dst = d) (hc : consS .any ops gens k = [L]) (h0 : och L = objs) (h1 : och (nextS gens L k) = objs')
    (h : ∃ x, AWl P cx n ops [o] (fun e s1 => e = .normal ∧ s1 = ⟨putd d x regs, objs'⟩) ⟨regs, objs⟩ ∧ noAll ops keys k x = true ∧ AWd (YS P cx n .any ops gens exs keys och) E (k + 1) rest (putd d x regs)) : AWd (YS P cx n .any ops gens exs keys och) E k (o :: rest) regs := by
  obtain ⟨x, h, hno, kk⟩ := h
  subst hd h0 h1
  refine ⟨x, fun o' ho' => ⟨noAll_spec hno, fun L' hL r' hr' _ a w hr => ?_⟩, kk⟩
  rw [ho] at ho'; cases ho'
  rw [hc, List.mem_singleton] at hL
  subst hL
  have hE : agr r' regs := fun t => hr' t (.inl hx)
  have hEv : Eqv ⟨r', och L'⟩ ⟨regs, och L'⟩ := ⟨hE, rfl⟩
  refine wpl_mono (h a w (hEv.rel hr)) ?_ (fun ⟨_, _, _, _, h4, _⟩ => by cases h4)
  rintro e a1 w1 ⟨s1, q1, q2, q3⟩
  subst q3
  exact ⟨_, q1, q2, _, agr_putd (fun t => (hE t).symm) _ _, Le.refl⟩

def leC (gens : List Nat) (och : List Nat → Obs) (k d : Nat) (ob : Ob) : List (List Nat) → Prop
  | [] => True
  | L :: r => (LeO ((d, ob) :: och L) (och (nextS gens L k)) ∧ nodupB ((och (nextS gens L k)).map (·.1)) = true) ∧ leC gens och k d ob r
theorem leC_mem {d : Nat} {ob : Ob} : ∀ {cs : List (List Nat)}, leC gens och k d ob cs → ∀ L ∈ cs, LeO ((d, ob) :: och L) (och (nextS gens L k)) ∧ nodupB ((och (nextS gens L k)).map (·.1)) = true
  | L :: r, h, L', hm => by
    rcases List.mem_cons.1 hm with rfl | hm
    · exact h.1
    · exact leC_mem h.2 L' hm

/-- A new object. -/
theorem awd_new {T d : Nat} {zs : List Value} {q : List AV} {ty : Nat} {pos : String} {aft : Array Edge} (cs : List (List Nat)) (tz : TZ P T zs) (hq : zerq zs = some q) (hdn : Nat.blt d n = true) (h0 : get cx.objs0 d = none) (ho : ops[k]? = some ⟨some d, .alloc T, ty, pos, aft, none⟩) (hkey : keys.contains (k, d) = true)
    (hc : consS .any ops gens k = cs) (hfo : (cs.all fun L => freshO d (och L)) = true) (hno : noAll ops keys k (.ptr d 0) = true)
    (hle : leC gens och k d (.ce T q) cs)
    (kk : AWd (YS P cx n .any ops gens exs keys och) E (k + 1) rest ((d, .ptr d 0) :: regs)) : AWd (YS P cx n .any ops gens exs keys och) E k (⟨some d, .alloc T, ty, pos, aft, none⟩ :: rest) regs := by
  refine ⟨.ptr d 0, fun o' ho' => ⟨noAll_spec hno, fun L hL r' hr' hf => ?_⟩, kk⟩
  rw [ho] at ho'; cases ho'
  rw [hc] at hL
  have hfr := hf (k, d) (by simpa using hkey) rfl
  refine x_alloc tz hq (by simp only [fresh, Bool.and_eq_true]; exact ⟨hfr, List.all_eq_true.1 hfo L hL⟩) h0 hdn (awl_nil ⟨rfl, _, fun _ => rfl, ?_⟩)
  exact Le.objs (leC_mem hle L hL).1 (leC_mem hle L hL).2

theorem awl_doneS {d : Option Nat} {x : AV} {r r1 : Regs} {objs objs' : Obs} (h1 : r1 = putd d x r) (h : objs = objs') : AWl P cx n ops [] (fun e s1 => e = .normal ∧ ∃ r2, agr r2 (putd d x r) ∧ Le P cx n s1 ⟨r2, objs'⟩) ⟨r1, objs⟩ := by
  subst h h1; exact awl_nil ⟨rfl, _, fun _ => rfl, Le.refl⟩
theorem awd_endS {Q : S → Prop} {objs : Obs} {Y : Nat → AV → Regs → Prop} (h : Q ⟨regs, objs⟩) : AWd Y (fun r => ∃ r0, agr r r0 ∧ Q ⟨r0, objs⟩) k [] regs := ⟨regs, fun _ => rfl, h⟩
end
end Go.Ab

/- Calls of a function's value; a nil field becomes a slice of one's own. -/
set_option linter.unusedVariables false
set_option linter.unusedSectionVars false
set_option linter.unusedSimpArgs false
namespace Go.Ab
open Go Go.RowKit

section
variable {P : Program} {cx : Cx} {n : Nat} {Q : Exit → S → Prop} {regs : List (Nat × AV)} {objs : Obs} {ops : Array Oper} {rest : List Oper} {d : Nat} {pos : String} {aft : Array Edge} {ty : Nat}

theorem awl_calltmp {t f : Nat} {l : Array Operand} {ts : Array Nat} (ht : get regs t = some (.p (.fn (.func f) [] [])))
    (h : AWl P cx n ops (⟨some d, .call ⟨.value (.func f), l, ts⟩, ty, pos, aft, none⟩ :: rest) Q ⟨regs, objs⟩) :
    AWl P cx n ops (⟨some d, .call ⟨.value (.tmp t), l, ts⟩, ty, pos, aft, none⟩ :: rest) Q ⟨regs, objs⟩ := fun a w ⟨own, r⟩ => by
  have hv : a.tmps.getD t undef = .func (.func f) #[] #[] := by
    have h1 := r.regs t _ ht
    generalize a.tmps.getD t undef = u at h1
    cases h1 with
    | p h1 =>
      cases h1 with
      | fn vf vc hf hc _ _ =>
        obtain rfl := List.eq_nil_of_length_eq_zero hf
        obtain rfl := List.eq_nil_of_length_eq_zero hc
        rfl
  have he : execOp a.eval ⟨some d, .call ⟨.value (.tmp t), l, ts⟩, ty, pos, aft, none⟩ = execOp a.eval ⟨some d, .call ⟨.value (.func f), l, ts⟩, ty, pos, aft, none⟩ := by
    simp only [execOp, resolve, Act.eval, hv]
  have h' := h a w ⟨own, r⟩
  unfold wpList at h' ⊢
  rw [if_pos (by simp [Region.wanted])] at h' ⊢
  rcases h' with h' | ⟨h1, h2⟩
  · left
    unfold Oper.wp at h' ⊢
    rw [he]; exact h'
  · right
    refine ⟨?_, h2⟩
    unfold Oper.asks at h1 ⊢
    rw [he]; exact h1

/-- A field that is nil becomes an own slice. -/
theorem Le.tokO {k0 T j : Nat} {cs cs' : List AV} {regs : List (Nat × AV)} {objs objs' : Obs} (k E sz : Nat) (hk : get objs k0 = some (.ce T cs)) (hj : cs[j]? = some (.p nilS)) (hc : cs' = cs.set j (.ts k sz [])) (ho : objs' = setO objs k0 (.ce T cs')) (hf : fresh k ⟨regs, objs⟩ = true) (h0 : get cx.objs0 k = none) :
    Le P cx n ⟨regs, objs⟩ ⟨regs, (k, .ar E sz 0) :: objs'⟩ := fun a w ⟨own, r⟩ => by
  obtain ⟨r', hM, hkr⟩ := r.newTok k E sz hf h0
  have hmem := get_mem hk
  subst ho hc
  simp only [fresh, Bool.and_eq_true] at hf
  have hne : k0 ≠ k := (freshO_mem hf.2 _ _ hmem).1
  have hn := r.ok.keys
  have hmem2 : (k0, Ob.ce T (cs.set j (.ts k sz []))) ∈ setO objs k0 (.ce T (cs.set j (.ts k sz []))) := setO_mem_eq hk
  have hMu : ∀ ow, Mu cx.M0 ow ((k, .ar E sz 0) :: setO objs k0 (.ce T (cs.set j (.ts k sz [])))) = Mu cx.M0 ow ((k, .ar E sz 0) :: objs) := fun ow => by
    funext b i
    apply propext
    constructor
    · rintro (h | ⟨q, o, hq, hm⟩)
      · exact .inl h
      · rcases List.mem_cons.1 hq with e | e
        · exact .inr ⟨q, o, by rw [e]; exact List.mem_cons_self .., hm⟩
        · rcases setO_mem hn e with ⟨rfl, rfl⟩ | ⟨_, h2⟩
          · exact .inr ⟨q, _, List.mem_cons_of_mem _ hmem, hm⟩
          · exact .inr ⟨q, o, List.mem_cons_of_mem _ h2, hm⟩
    · rintro (h | ⟨q, o, hq, hm⟩)
      · exact .inl h
      · rcases List.mem_cons.1 hq with e | e
        · exact .inr ⟨q, o, by rw [e]; exact List.mem_cons_self .., hm⟩
        · by_cases hqk : q = k0
          · subst hqk
            obtain rfl : o = .ce T cs := by have := get_of_mem hn e; rw [hk] at this; exact (Option.some.inj this).symm
            exact .inr ⟨q, _, List.mem_cons_of_mem _ hmem2, hm⟩
          · exact .inr ⟨q, o, List.mem_cons_of_mem _ (setO_mem_ne hqk e), hm⟩
  have hhw : hwOf ((k, Ob.ar E sz 0) :: setO objs k0 (.ce T (cs.set j (.ts k sz [])))) = hwOf ((k, .ar E sz 0) :: objs) := by
    funext q
    have h1 := hwOf_setO_ce (T' := T) (cs' := cs.set j (.ts k sz [])) hk q
    unfold hwOf at h1 ⊢
    simp only [get]
    cases Nat.beq k q with
    | true => rfl
    | false => exact h1
  have hk1 : (k, Ob.ar E sz 0) ∈ (k, Ob.ar E sz 0) :: objs := List.mem_cons_self ..
  refine ⟨_, { defs := r'.defs, size := r'.size, ok := ?_, regs := fun q y hq => by rw [hMu, hhw]; exact r'.regs q y hq, stp := by rw [hMu]; exact r'.stp, fix := fun q o hq => by rw [hhw]; exact r'.fix q o hq, fr := ⟨r'.fr.keep, fun q o b hq hb => ?_, r'.fr.size⟩ }⟩
  · refine { obs := fun q o hq => ?_, keys := ?_, inj := fun q o q' o' hq hq' hqq b hb hb' => ?_, m0 := fun q o b hq hb => ?_, m0old := r'.ok.m0old }
    · rw [hMu, hhw]
      rcases List.mem_cons.1 hq with e | e
      · cases e; exact r'.ok.obs k _ (List.mem_cons_self ..)
      · rcases setO_mem hn e with ⟨rfl, rfl⟩ | ⟨_, h2⟩
        · obtain ⟨b, vals, e1, e2, e3, e4⟩ := r'.ok.obs q _ (List.mem_cons_of_mem _ hmem)
          refine ⟨b, vals, e1, e2, by simpa using e3, fun i x hi => ?_⟩
          by_cases hij : j = i
          · subst hij
            have hjl : j < cs.length := (List.getElem?_eq_some_iff.1 hj).1
            rw [List.getElem?_set_self hjl] at hi
            cases hi
            have hv := (e4 j _ hj).2.val
            rw [hv]
            refine ⟨rfl, .ts .nil fun m hm => ?_⟩
            have : hwOf ((k, Ob.ar E sz 0) :: objs) k = some 0 := by simp [hwOf, get, Nat.beq_refl]
            rw [this] at hm; cases hm
            exact ⟨Nat.le_refl _, fun _ => by rw [upd_eq]⟩
          · rw [List.getElem?_set_ne hij] at hi
            exact e4 i x hi
        · exact r'.ok.obs q o (List.mem_cons_of_mem _ h2)
    · have := r'.ok.keys
      simpa [setO_keys] using this
    · have key : ∀ q o, (q, o) ∈ (k, Ob.ar E sz 0) :: setO objs k0 (.ce T (cs.set j (.ts k sz []))) → ∃ o', (q, o') ∈ (k, Ob.ar E sz 0) :: objs := fun q o hq => by
        rcases List.mem_cons.1 hq with e | e
        · exact ⟨o, by rw [e]; exact List.mem_cons_self ..⟩
        · rcases setO_mem hn e with ⟨rfl, rfl⟩ | ⟨_, h2⟩
          · exact ⟨_, List.mem_cons_of_mem _ hmem⟩
          · exact ⟨o, List.mem_cons_of_mem _ h2⟩
      obtain ⟨o1, h1⟩ := key q o hq
      obtain ⟨o2, h2⟩ := key q' o' hq'
      exact r'.ok.inj q o1 q' o2 h1 h2 hqq b hb hb'
    · rcases List.mem_cons.1 hq with e | e
      · exact r'.ok.m0 q o b (by rw [e]; exact List.mem_cons_self ..) hb
      · rcases setO_mem hn e with ⟨rfl, rfl⟩ | ⟨_, h2⟩
        · exact r'.ok.m0 q _ b (List.mem_cons_of_mem _ hmem) hb
        · exact r'.ok.m0 q o b (List.mem_cons_of_mem _ h2) hb
  · rcases List.mem_cons.1 hq with e | e
    · exact r'.fr.loc q o b (by rw [e]; exact List.mem_cons_self ..) hb
    · rcases setO_mem hn e with ⟨rfl, rfl⟩ | ⟨_, h2⟩
      · exact r'.fr.loc q _ b (List.mem_cons_of_mem _ hmem) hb
      · exact r'.fr.loc q o b (List.mem_cons_of_mem _ h2) hb
end
end Go.Ab

/- An empty slice of one's own, made in a region whose order is drawn; division. -/
set_option linter.unusedVariables false
set_option linter.unusedSectionVars false
set_option linter.unusedSimpArgs false
namespace Go.Ab
open Go Go.RowKit

section
variable {P : Program} {cx : Cx} {n : Nat} {ops : Array Oper} {gens exs : List Nat} {keys : List (Nat × Nat)} {och : List Nat → Obs} {E : Regs → Prop} {rest : List Oper} {regs : Regs} {k : Nat}

theorem awd_newsl {T El sz bytes d : Nat} {ty : Nat} {pos : String} {aft : Array Edge} (cs : List (List Nat)) (si : SI P T El) (ei : EI P El sz bytes) (hdn : Nat.blt d n = true) (h0 : get cx.objs0 d = none) (ho : ops[k]? = some ⟨some d, .buildSlice T 0 ([] : List (Nat × Operand)).toArray, ty, pos, aft, none⟩) (hkey : keys.contains (k, d) = true)
    (hc : consS .any ops gens k = cs) (hfo : (cs.all fun L => freshO d (och L)) = true) (hno : noAll ops keys k (.ts d sz []) = true)
    (hle : leC gens och k d (.ar El sz 0) cs)
    (kk : AWd (YS P cx n .any ops gens exs keys och) E (k + 1) rest ((d, .ts d sz []) :: regs)) : AWd (YS P cx n .any ops gens exs keys och) E k (⟨some d, .buildSlice T 0 ([] : List (Nat × Operand)).toArray, ty, pos, aft, none⟩ :: rest) regs := by
  refine ⟨.ts d sz [], fun o' ho' => ⟨noAll_spec hno, fun L hL r' hr' hf => ?_⟩, kk⟩
  rw [ho] at ho'; cases ho'
  rw [hc] at hL
  have hfr := hf (k, d) (by simpa using hkey) rfl
  refine awl_slice_own (len := 0) (parts := []) (rows := []) si ei rfl rfl (by simp) (by simp only [fresh, Bool.and_eq_true]; exact ⟨hfr, List.all_eq_true.1 hfo L hL⟩) h0 hdn (awl_nil ⟨rfl, _, fun _ => rfl, ?_⟩)
  exact Le.objs (leC_mem hle L hL).1 (leC_mem hle L hL).2
end

section
variable {P : Program} {T : Nat} {x y : Operand} {a b : Int}
theorem bin_rem (h : 0 ≤ a ∧ a ≤ 9223372036854775807 ∧ 0 < b ∧ b ≤ 9223372036854775807) : ∀ w, (do eqGuard .rem T x y (.int .i64 a) (.int .i64 b); binOp .rem T (.int .i64 a) (.int .i64 b) : Sem Value).run P w = .ok (.int .i64 (a % b)) w := fun w => by
  have h1 : (eqGuard .rem T x y (.int .i64 a) (.int .i64 b)).run P w = .ok () w := rfl
  have h2 : binOp .rem T (.int .i64 a) (.int .i64 b) = Op.intDiv .rem .i64 a b := rfl
  have hb : ¬ b = 0 := by omega
  simp only [Sem.run_bind, h1, h2, Result.andThen_ok, Op.intDiv]
  have e1 : a.tmod b = a % b := Int.tmod_eq_emod_of_nonneg h.1
  rw [if_neg hb, e1]; rfl
end
end Go.Ab

/- An object that nobody writes any more; a slice of a whole array. -/
set_option linter.unusedVariables false
set_option linter.unusedSectionVars false
set_option linter.unusedSimpArgs false
namespace Go.Ab
open Go Go.RowKit

theorem Le.ice {P : Program} {cx : Cx} {n : Nat} {regs : List (Nat × AV)} {objs : Obs} {k T t : Nat} {cs : List PV} (hk : get objs k = some (.ce T (cs.map .p))) (ht : get regs t = some (.ptr k 0)) :
    Le P cx n ⟨regs, objs⟩ ⟨(t, .p (.ip cs)) :: regs, oth [k] objs⟩ := fun a w ⟨own, r⟩ => by
  have hmem := get_mem hk
  have hn' : ((oth [k] objs).map (·.1)).Nodup := ((oth_sub [k] objs).map _).nodup r.ok.keys
  have hs : ∀ x, x ∈ oth [k] objs → x ∈ objs := fun x hx => (oth_sub [k] objs).mem hx
  have hok := r.ok.part hs hn' cx.M0 (fun b i h => .inl h) (fun k' o b hk' hb => r.ok.m0 k' o b (hs _ hk') hb)
  obtain ⟨b, vals, e1, e2, e3, e4⟩ := r.ok.obs k _ hmem
  have hw : hwOf objs k = none := by simp [hwOf, hk]
  have hkr : ∀ j, Kr own own (hwOf objs) (hwOf (oth [k] objs)) j := fun j => by
    by_cases e : j = k
    · subst e
      exact .inl ⟨rfl, by rw [hw]; exact hwOf_none fun h => by obtain ⟨⟨_, o⟩, ho, rfl⟩ := List.mem_map.1 h; exact (oth_mem.1 ho).2 (by simp)⟩
    · exact .inl ⟨rfl, hwOf_congr hn' r.ok.keys fun o => by rw [oth_mem]; simp [e]⟩
  have htr : ∀ {x : AV} {v : Value}, RepA w (Mu cx.M0 own objs) own (hwOf objs) x v → RepA w (Mu cx.M0 own (oth [k] objs)) own (hwOf (oth [k] objs)) x v := fun h =>
    h.tr ((Stp.refl w _).less hok.2) fun j _ => hkr j
  refine ⟨own, { defs := r.defs, size := r.size, ok := hok.1, regs := fun u x hx => ?_, stp := r.stp.less hok.2, fix := fun j o hj => (r.fix j o hj).trans (hkr j), fr := r.fr.trans ⟨fun _ _ _ => rfl, fun j o c hj hc => .inl ⟨j, o, hs _ hj, hc⟩, Nat.le_refl _⟩ }⟩
  simp only [get] at hx
  cases hb : Nat.beq t u with
  | false => rw [hb] at hx; exact htr (r.regs u x hx)
  | true =>
    obtain rfl : t = u := Nat.eq_of_beq_eq_true hb
    rw [hb] at hx
    simp at hx
    subst hx
    obtain ⟨b', hb', hv⟩ := (r.regs t _ ht).ptr_inv
    obtain rfl : b = b' := by rw [e1] at hb'; injection hb' with q; injection q with q; injection q
    rw [hv]
    have hlen : vals.length = cs.length := by rw [e3, List.length_map]
    refine .p (.ip ⟨b, 0, none⟩ (fun j => vals.getD j undef) (fun j x hj => ?_) (fun j x hj => ?_) (fun j x hj => ?_))
    · rw [add_at, Nat.zero_add]
      have hlt : j < vals.length := by rw [hlen]; exact (List.getElem?_eq_some_iff.1 hj).1
      simp [World.cell?, e2, hlt, List.getD_eq_getElem?_getD]
    · rintro (h | ⟨k', o, hk', hm⟩)
      · exact r.ok.m0 k _ b hmem (by rw [e1]; rfl) _ h
      · have := oth_mem.1 hk'
        exact r.ok.inj k _ k' o hmem this.1 (fun e => this.2 (by simp [e])) b (by rw [e1]; rfl) (mutOf_blk hm)
    · have := (e4 j (.p x) (by simp [hj])).2
      cases htr this with
      | p h => exact h

theorem awp_ice {P : Program} {cx : Cx} {n : Nat} {regs : List (Nat × AV)} {objs objs' : Obs} {c : Code} {Q : Exit → S → Prop} (k t : Nat) {T : Nat} {cs : List PV} (hk : get objs k = some (.ce T (cs.map .p))) (ht : get regs t = some (.ptr k 0)) (ho : oth [k] objs = objs')
    (h : AWp P cx n c Q ⟨(t, .p (.ip cs)) :: regs, objs'⟩) : AWp P cx n c Q ⟨regs, objs⟩ := awp_le (Le.ice hk ht) (ho ▸ h)

section
variable {P : Program} {cx : Cx} {n : Nat} {Q : Exit → S → Prop} {regs : List (Nat × AV)} {objs : Obs} {ops : Array Oper} {rest : List Oper} {d : Nat} {pos : String} {aft : Array Edge} {ty : Nat}

theorem x_whole {T m E : Nat} {x : Operand} {cs : List PV} (ai : AI P T m E) (ti : TI P E 1 false) (hx : S.ev ⟨regs, objs⟩ x = some (.p (.ip cs))) (hl : Nat.beq cs.length m = true) (hm : Nat.ble m 1000000 = true) (hd : Nat.blt d n = true)
    (kk : AWl P cx n ops rest Q ⟨(d, .p (.sl 1 (cs.map fun c => [c]))) :: regs, objs⟩) :
    AWl P cx n ops (⟨some d, .slice T x none none none, ty, pos, aft, none⟩ :: rest) Q ⟨regs, objs⟩ :=
  awl_val (.p (.sl 1 (cs.map fun c => [c]))) rfl rfl (by simpa using hd) (fun a w own r => by
    obtain ⟨ad, f, hv, h1, h2, h3⟩ := Rep.ip_inv (r.ev hx)
    have e1 : P.arrayLen T = m := by simp [Program.arrayLen, ai.h]
    have e2 : P.elem T = E := by simp [Program.elem, ai.h]
    have hu : P.underlying T = some (.array (P.arrayLen T) (P.elem T)) := by rw [e1, e2]; exact ai.h
    have hlen := Nat.eq_of_beq_eq_true hl
    have hm' : m ≤ 1000000 := Nat.le_of_ble_eq_true hm
    refine ⟨.slice (some ad) m m, ?_, .p ?_⟩
    · simp only [execOp, hv, Sem.run_bind, Option.map_none]
      rw [run_sliceAt_array_all w T ad hu, e1, e2, ti.run_size w]
      simp only [Result.andThen_ok, Sem.run_pure, slicedAt, Nat.zero_mul, Nat.sub_zero]
      have : ad.add 0 = ad := by simp [Addr.add]
      simp [this]
    · have hrow : ∀ (i : Nat) (row : List PV), (cs.map fun c => [c])[i]? = some row → ∃ x, cs[i]? = some x ∧ row = [x] := fun i row h => by
        rw [List.getElem?_map] at h
        obtain ⟨x, hx, e⟩ := Option.map_eq_some_iff.1 h
        exact ⟨x, hx, e.symm⟩
      have hj : ∀ {row : List PV} {y z : PV} {j : Nat}, row = [y] → row[j]? = some z → j = 0 ∧ z = y := fun e h => by
        subst e
        rename_i j
        cases j with
        | zero => simp at h; exact ⟨rfl, h.symm⟩
        | succ j => simp at h
      have key : Rep w (Mu cx.M0 own objs) (.sl 1 (cs.map fun c => [c])) (.slice (some ad) (cs.map fun c => [c]).length m) := by
        refine .sl ad m (fun i _ => f i) (by simp [hlen]) (by omega) (fun i row h => ?_) (fun i row j x h hx => ?_) (fun i row j x h hx => ?_) (fun i row j x h hx => ?_)
        · obtain ⟨y, _, e⟩ := hrow i row h; rw [e]; rfl
        · obtain ⟨y, hy, e⟩ := hrow i row h
          obtain ⟨rfl, rfl⟩ := hj e hx
          rw [Nat.mul_one, Nat.add_zero]; exact h1 i _ hy
        · obtain ⟨y, hy, e⟩ := hrow i row h
          obtain ⟨rfl, rfl⟩ := hj e hx
          rw [Nat.mul_one, Nat.add_zero]; exact h2 i _ hy
        · obtain ⟨y, hy, e⟩ := hrow i row h
          obtain ⟨rfl, rfl⟩ := hj e hx
          exact h3 i _ hy
      rw [List.length_map, hlen] at key
      exact key) kk
end
end Go.Ab

/- Quotients; the greatest of four. -/
set_option linter.unusedVariables false
set_option linter.unusedSectionVars false
set_option linter.unusedSimpArgs false
namespace Go.Ab
open Go Go.RowKit

section
variable {P : Program} {T : Nat} {x y : Operand} {a b : Int}
theorem bin_quo (h : 0 ≤ a ∧ a ≤ 9223372036854775807 ∧ 0 < b ∧ b ≤ 9223372036854775807) : ∀ w, (do eqGuard .quo T x y (.int .i64 a) (.int .i64 b); binOp .quo T (.int .i64 a) (.int .i64 b) : Sem Value).run P w = .ok (.int .i64 (a / b)) w := fun w => by
  have h1 : (eqGuard .quo T x y (.int .i64 a) (.int .i64 b)).run P w = .ok () w := rfl
  have h2 : binOp .quo T (.int .i64 a) (.int .i64 b) = Op.intDiv .quo .i64 a b := rfl
  have hb : ¬ b = 0 := by omega
  have e1 : a.tdiv b = a / b := Int.tdiv_eq_ediv_of_nonneg h.1
  have h3 : 0 ≤ a / b := Int.ediv_nonneg h.1 (by omega)
  have h4 : a / b ≤ a := Int.ediv_le_self b h.1
  simp only [Sem.run_bind, h1, h2, Result.andThen_ok, Op.intDiv]
  rw [if_neg hb, e1]
  have : IntKind.i64.wrap (a / b) = a / b := wrap64_id ⟨by omega, by omega⟩
  simp [this]
end
section
variable {P : Program} {cx : Cx} {n : Nat} {Q : Exit → S → Prop} {regs : List (Nat × AV)} {objs : Obs} {ops : Array Oper} {rest : List Oper} {d : Nat} {pos : String} {aft : Array Edge} {ty : Nat}
theorem awl_max4 {rty : Nat} {x y z u : Operand} {k : IntKind} {p q r s : Int} {ts : Array Nat} (hx : S.ev ⟨regs, objs⟩ x = some (.p (.v (.int k p)))) (hy : S.ev ⟨regs, objs⟩ y = some (.p (.v (.int k q)))) (hz : S.ev ⟨regs, objs⟩ z = some (.p (.v (.int k r)))) (hu : S.ev ⟨regs, objs⟩ u = some (.p (.v (.int k s)))) (hd : Nat.blt d n = true)
    (kk : AWl P cx n ops rest Q ⟨(d, .p (.v (.int k (max (max (max p q) r) s)))) :: regs, objs⟩) :
    AWl P cx n ops (⟨some d, .call ⟨.builtin .max, #[x, y, z, u], ts⟩, rty, pos, aft, none⟩ :: rest) Q ⟨regs, objs⟩ :=
  awl_val (.p (.v (.int k (max (max (max p q) r) s)))) rfl rfl (by simpa using hd) (fun a w own ro => by
    have h1 := (ro.ev hx).val
    have h2 := (ro.ev hy).val
    have h3 := (ro.ev hz).val
    have h4 := (ro.ev hu).val
    have e : ∀ a b : Int, (if b > a then b else a) = max a b := fun a b => by split <;> omega
    refine ⟨.int k (max (max (max p q) r) s), ?_, .scal rfl⟩
    simp [execOp, resolve, invoke, builtin, h1, h2, h3, h4, Builtin.max_, Builtin.max2, e]) kk
end
end Go.Ab

/- What is new, and may be written over by others. -/
set_option linter.unusedVariables false
set_option linter.unusedSectionVars false
set_option linter.unusedSimpArgs false
namespace Go.Ab
open Go Go.RowKit

theorem Sub.fs {lo T : Nat} {x : PV} : Sub (.p (.fs lo T x)) (.p x) := fun _ _ _ _ _ h => by
  cases h with | p h => cases h with | fs h _ => exact .p h

/-- A slice of one's own, made behind the start, is a new one. -/
theorem Le.fr {P : Program} {cx : Cx} {n : Nat} {regs : List (Nat × AV)} {objs : Obs} {t k T sz m lo : Nat} {xs : List (List PV)} (hcx : cx.objs0 = []) (hlo : lo ≤ cx.w0.heap.size) (ht : get regs t = some (.ts k sz xs)) (hk : get objs k = some (.ar T sz m)) (hm : m = xs.length) :
    Le P cx n ⟨regs, objs⟩ ⟨(t, .p (.fs lo T (.sl sz xs))) :: regs, objs⟩ := fun a w ⟨own, r⟩ => by
  refine ⟨own, { defs := r.defs, size := r.size, ok := r.ok, regs := fun u x hx => ?_, stp := r.stp, fix := r.fix, fr := r.fr }⟩
  simp only [get] at hx
  cases hb : Nat.beq t u with
  | false => rw [hb] at hx; exact r.regs u x hx
  | true =>
    obtain rfl : t = u := Nat.eq_of_beq_eq_true hb
    rw [hb] at hx
    simp at hx
    subst hx
    have h := r.regs t _ ht
    have hmem := get_mem hk
    have hw : hwOf objs k = some m := by simp [hwOf, hk]
    obtain ⟨cells, hc⟩ := r.ok.obs k _ hmem
    generalize a.tmps.getD t undef = v at h
    cases h with
    | ts h ho =>
      have hv := (ho m hw).2 hm.symm
      refine .p (.fs h ?_)
      rcases hc.2 with ⟨h1, _⟩ | ⟨g, cap, cur, h1, _, h2, _⟩
      · exact .inl (by rw [hv, h1])
      · refine .inr ⟨g, m, cap, cur, by rw [hv, h1], ?_, h2⟩
        rcases r.fr.loc k _ g hmem (by rw [h1]; rfl) with ⟨_, _, hq, _⟩ | hq
        · rw [hcx] at hq; cases hq
        · omega
end Go.Ab

/- Posts of the machine; memory that others write over. -/
set_option linter.unusedVariables false
set_option linter.unusedSectionVars false
set_option linter.unusedSimpArgs false
namespace Go.Ab
open Go Go.RowKit

abbrev MPost := Exit → Act → World → Prop

def AWpM (P : Program) (cx : Cx) (n : Nat) (c : Code) (K : MPost) (s : S) : Prop := ∀ a w, Rel P cx n s a w → c.wp P K a w
def AWlM (P : Program) (cx : Cx) (n : Nat) (ops : Array Oper) (rest : List Oper) (K : MPost) (s : S) : Prop := ∀ a w, Rel P cx n s a w → wpList P ops K rest a w

/-- First this, then y. -/
def seqK (P : Program) (y : Code) (K : MPost) : MPost
  | .normal, a, w => y.wp P K a w
  | e, a, w => K e a w

section
variable {P : Program} {cx : Cx} {n : Nat} {K : MPost} {s : S}
theorem awp_toM {c : Code} {Q : Exit → S → Prop} (h : AWpM P cx n c (post P cx n Q) s) : AWp P cx n c Q s := h
theorem awpM_of {c : Code} {Q : Exit → S → Prop} (h : AWp P cx n c Q s) (k : ∀ e s a w, Rel P cx n s a w → Q e s → K e a w) : AWpM P cx n c K s :=
  fun a w r => wp_mono (h a w r) fun e a w ⟨s, hs, hq⟩ => k e s a w hs hq
theorem awpM_seq {x y : Code} (h : AWpM P cx n x (seqK P y K) s) : AWpM P cx n (.seq x y) K s := fun a w r => by
  refine wp_seq (wp_mono (h a w r) fun e a w hq => ?_)
  cases e <;> exact hq
theorem awpM_region {id : Nat} {l : List Oper} (h : AWlM P cx n l.toArray l K s) : AWpM P cx n (.region id l.toArray false) K s :=
  fun a w r => wp_region_lit (h a w r)
theorem awlM_nil {ops : Array Oper} {y : Code} (h : AWpM P cx n y K s) : AWlM P cx n ops [] (seqK P y K) s := fun a w r => wpList_nil (h a w r)
theorem awlM_end {ops : Array Oper} (h : ∀ a w, Rel P cx n s a w → K .normal a w) : AWlM P cx n ops [] K s := fun a w r => wpList_nil (h a w r)

theorem awlM_one {ops : Array Oper} {rest : List Oper} {o : Oper} {s' : S} (h : AWl P cx n ops [o] (fun e s1 => e = .normal ∧ s1 = s') s) (k : AWlM P cx n ops rest K s') : AWlM P cx n ops (o :: rest) K s := fun a w r => by
  have h3 := h a w r
  have fin : ∀ a' w', post P cx n (fun e s1 => e = .normal ∧ s1 = s') .normal a' w' → wpList P ops K rest a' w' := by
    rintro a' w' ⟨s1, hr1, _, rfl⟩
    exact k a' w' hr1
  unfold wpList at h3 ⊢
  split
  · rename_i hw
    rw [if_pos hw] at h3
    left
    rcases h3 with h3 | ⟨_, a0, w0, s1, _, h4, _⟩
    · unfold Oper.wp at *
      generalize (execOp a.eval o).run P w = q at *
      cases q with
      | ok nx w' =>
        cases nx <;> simp only [Oper.upon] at h3 ⊢ <;>
          first
            | exact fin _ _ h3
            | exact Calls.mono h3 (fun e w'' he => by
                cases e with
                | returned v => exact fin _ _ he
                | panicked c => obtain ⟨_, _, h4, _⟩ := he; cases h4
                | outgrown => obtain ⟨_, _, _, _, h4, _⟩ := he; cases h4)
            | exact Rows.mono h3 (fun _ _ he => fin _ _ he)
      | halt x w' =>
        cases x <;> simp only [Oper.upon] at h3 ⊢ <;> first | exact h3 | (obtain ⟨_, _, h4, _⟩ := h3; cases h4)
    · cases h4
  · rename_i hw
    rw [if_neg hw] at h3
    exact fin _ _ h3
end

/-! A new start in the midst. -/
structure LkOK (cx0 cx1 : Cx) : Prop where
  stp : Stp cx0.w0 cx0.M cx1.w0 cx1.M
  fr : Fr cx0.w0 cx0.own0 cx0.objs0 cx1.w0 cx1.own0 cx1.objs0
  m0 : ∀ b i, cx0.M0 b i → cx1.M0 b i
  o0 : cx0.objs0 = []

theorem LkOK.rl {P : Program} {cx0 cx1 : Cx} {n : Nat} {s : S} {a : Act} {w : World} {own : Nat → Value} (lk : LkOK cx0 cx1) (r : Rl P cx1 n s a w own) : Rl P cx0 n s a w own := by
  have hp := r.ok.part (fun x h => h) r.ok.keys cx0.M0 (fun b i h => .inl (lk.m0 b i h)) (fun k o b hk hb i h => r.ok.m0 k o b hk hb i (lk.m0 b i h))
  exact { defs := r.defs, size := r.size, ok := hp.1, regs := fun t x hx => (r.regs t x hx).tr_same ((Stp.refl w _).less hp.2),
          stp := (lk.stp.trans r.stp).less hp.2, fix := fun k o h => (by rw [lk.o0] at h; cases h), fr := lk.fr.trans r.fr }
theorem LkOK.rel {P : Program} {cx0 cx1 : Cx} {n : Nat} {s : S} {a : Act} {w : World} (lk : LkOK cx0 cx1) (r : Rel P cx1 n s a w) : Rel P cx0 n s a w := by
  obtain ⟨own, r⟩ := r; exact ⟨own, lk.rl r⟩

theorem OK.later {P : Program} {w w' : World} {M0 M1 : Nat → Nat → Prop} {own : Nat → Value} {objs : Obs} (h : OK P w M0 own objs) (hb : ∀ k o b, (k, o) ∈ objs → blk (own k) = some b → w'.heap[b]? = w.heap[b]?) (hs : Stp w (Mu M0 own objs) w' (Mu M1 own objs))
    (hm : ∀ k o b, (k, o) ∈ objs → blk (own k) = some b → ∀ i, ¬ M1 b i) (hold : ∀ b i, M1 b i → b < w'.heap.size) : OK P w' M1 own objs := by
  refine { obs := fun k o hk => ?_, keys := h.keys, inj := h.inj, m0 := hm, m0old := hold }
  have h1 := h.obs k o hk
  cases o with
  | ce T cs =>
    obtain ⟨b, vals, e1, e2, e3, e4⟩ := h1
    exact ⟨b, vals, e1, by rw [hb k _ b hk (by rw [e1]; rfl)]; exact e2, e3, fun j x hj => ⟨(e4 j x hj).1, (e4 j x hj).2.tr_same hs⟩⟩
  | ar T sz m =>
    obtain ⟨cells, e⟩ := h1
    exact ⟨cells, ownsRow_keep e fun b hq => hb k _ b hk hq⟩
  | mu T sz ver xs =>
    obtain ⟨cells, e, e2, e3⟩ := h1
    exact ⟨cells, ownsRow_keep e fun b hq => hb k _ b hk hq, e2, fun i row j x hi hj => (e3 i row j x hi hj).stp hs⟩
  | mp ver l => exact MpOK.keep h1 fun b hq => hb k _ b hk hq

/-- Between lo and the size at the start of cx1 there is memory that others write over. -/
structure JF (cx0 cx1 : Cx) (lo : Nat) : Prop where
  lk : LkOK cx0 cx1
  m : ∀ b i, cx1.M0 b i ↔ cx0.M0 b i ∨ (lo ≤ b ∧ b < cx1.w0.heap.size)
  low : cx0.w0.heap.size ≤ lo
  obs : ∀ k o b, (k, o) ∈ cx1.objs0 → blk (cx1.own0 k) = some b → b < lo

theorem Rl.start {P : Program} {n : Nat} {regs : List (Nat × AV)} {objs : Obs} {a : Act} {w : World} {own : Nat → Value} {M0 : Nat → Nat → Prop} (hd : a.defers = []) (hs : a.tmps.size = n) (ok : OK P w M0 own objs)
    (hr : ∀ t x, get regs t = some x → RepA w (Mu M0 own objs) own (hwOf objs) x (a.tmps.getD t undef)) : Rl P ⟨w, M0, own, objs⟩ n ⟨regs, objs⟩ a w own :=
  { defs := hd, size := hs, ok := ok, regs := hr, stp := Stp.refl _ _, fix := fun _ _ _ => .same, fr := Fr.refl _ _ _ }

section
variable {P : Program} {cx : Cx} {n : Nat} {K : MPost} {regs : List (Nat × AV)} {objs : Obs} {ops : Array Oper} {rest : List Oper} {d : Nat} {pos : String} {aft : Array Edge} {ty f : Nat} {l : List Operand} {ts : Array Nat}

theorem run_enter {a : Act} {w : World} (hf : FB P f) : (execOp a.eval ⟨some d, .call ⟨.value (.func f), l.toArray, ts⟩, ty, pos, aft, none⟩).run P w = .ok (.enter f (l.map a.eval).toArray) w := by
  simp only [execOp, resolve, Act.eval, Deferred.ofValue, Sem.run_bind, Sem.run_pure, Result.andThen_ok, invoke]
  rw [hf.run]
  simp

theorem regs_put {a : Act} {u : Nat} {v : Value} {w : World} {M : Nat → Nat → Prop} {own : Nat → Value} {hw : Nat → Option Nat} {x y : AV} (hs : a.tmps.size = n) (hd : d < n) (hx : RepA w M own hw x v)
    (h : ∀ t y, get regs t = some y → RepA w M own hw y (a.tmps.getD t undef)) (hy : get ((d, x) :: regs) u = some y) : RepA w M own hw y ((a.put (some d) v).tmps.getD u undef) := by
  simp only [get] at hy
  cases hb : Nat.beq d u with
  | true =>
    obtain rfl : d = u := Nat.eq_of_beq_eq_true hb
    rw [hb] at hy
    simp at hy
    subst hy
    have : (a.put (some d) v).tmps.getD d undef = v := by simp [Act.put, Array.getD, hs, hd]
    rw [this]; exact hx
  | false =>
    rw [hb] at hy
    have hne : d ≠ u := fun e => by subst e; simp [Nat.beq_refl] at hb
    have : (a.put (some d) v).tmps.getD u undef = a.tmps.getD u undef := by
      simp only [Act.put, Array.getD_eq_getD_getElem?, Array.getElem?_setIfInBounds_ne hne]
    rw [this]; exact h u y hy

/-- A call that hands back what is new; from then on it is memory that others write over. -/
theorem awlM_callJ {avs args : List AV} {k m : Int} {T : Nat} {X : Nat → PV} (hf : FB P f) (hx : evs ⟨regs, objs⟩ l = some avs) (h0 : cx.objs0 = [])
    (con : ∀ lo, ConG (fun w => lo ≤ w.heap.size) P f args [] (fun r o => r = .ag [.p (I k), .p (I m), .p (.fs lo T (X lo))] ∧ o = [])) (hs : Subs avs args) (hd : Nat.blt d n = true)
    (kk : ∀ cx1 lo V, cx1.objs0 = objs → JF cx cx1 lo → Rep cx1.w0 (Mu cx.M0 cx1.own0 cx1.objs0) (.fs lo T (X lo)) V → AWlM P cx1 n ops rest K ⟨(d, .ag [.p (I k), .p (I m), .p (.v V)]) :: regs, objs⟩) :
    AWlM P cx n ops (⟨some d, .call ⟨.value (.func f), l.toArray, ts⟩, ty, pos, aft, none⟩ :: rest) K ⟨regs, objs⟩ := fun a w ⟨own, r⟩ => by
  refine wpList_plain rfl fun KK hK => ?_
  unfold Oper.wp
  rw [run_enter hf, Oper.upon_enter]
  have hMe : ∀ (M : Nat → Nat → Prop) (ow : Nat → Value), Mu M ow [] = M := fun M ow => by
    funext b i; apply propext
    exact ⟨fun h => (by rcases h with h | ⟨_, _, h, _⟩ <;> first | exact h | cases h), .inl⟩
  have hok := r.ok.part (objs' := []) (fun x h => by cases h) (by simp) (Mu cx.M0 own objs) (fun b i h => h) (fun k o b hk => by cases hk)
  have harg := evs_ok r hx hs
  have harg' : ArgsOK w (Mu (Mu cx.M0 own objs) own []) own (hwOf []) args (l.map a.eval) := ⟨harg.1, fun j x hj => (harg.2 j x hj).part r.ok (fun x h => by cases h) hok.2⟩
  refine (con w.heap.size w _ own (l.map a.eval) (Nat.le_refl _) hok.1 harg').mono ?_
  rintro e w' ⟨x, objs', own', v, rfl, ⟨rfl, rfl⟩, h1, h2, h3, h4, h5, h6⟩
  rw [hMe, hMe] at h3
  rw [hMe] at h2
  have hkeep : ∀ b, b < w.heap.size → w'.heap[b]? = w.heap[b]? := fun b hb => h6.keep b hb (fun _ _ h => by cases h)
  -- the new memory
  let M1 : Nat → Nat → Prop := fun b i => cx.M0 b i ∨ (w.heap.size ≤ b ∧ b < w'.heap.size)
  have hst : Stp w (Mu cx.M0 own objs) w' (Mu M1 own objs) :=
    { os := h3.os, tape := h3.tape, output := h3.output, size := h3.size, cell := h3.cell, shape := h3.shape,
      mu := fun b i h => by
        rcases h with (h | ⟨h, _⟩) | h
        · exact .inl (.inl h)
        · exact .inr h
        · exact .inl (.inr h) }
  have hok1 : OK P w' M1 own objs := r.ok.later (fun k o b hk hb => hkeep b (blk_lt r.ok hk hb)) hst
    (fun k o b hk hb i h => by
      rcases h with h | ⟨h, _⟩
      · exact r.ok.m0 k o b hk hb i h
      · have := blk_lt r.ok hk hb; omega)
    (fun b i h => by
      rcases h with h | ⟨_, h⟩
      · exact Nat.lt_of_lt_of_le (r.ok.m0old b i h) h3.size
      · exact h)
  have hfr : Fr w own objs w' own objs := ⟨fun b hb _ => hkeep b hb, fun k o b hk hb => .inl ⟨k, o, hk, hb⟩, h3.size⟩
  have lk : LkOK cx ⟨w', M1, own, objs⟩ := ⟨r.stp.trans hst, r.fr.trans hfr, fun b i h => .inl h, h0⟩
  have jf : JF cx ⟨w', M1, own, objs⟩ w.heap.size := ⟨lk, fun b i => Iff.rfl, r.stp.size, fun k o b hk hb => blk_lt r.ok hk hb⟩
  -- what is handed back
  generalize hv : v = v0 at h2
  cases h2 with
  | ag vs hl hone hel =>
    have g0 := hel 0 _ rfl
    have g1 := hel 1 _ rfl
    have g2 := hel 2 _ rfl
    have hrep : Rep w' (Mu cx.M0 own objs) (.fs w.heap.size T (X w.heap.size)) (vs.getD 2 undef) := by
      cases g2 with
      | p g2 => exact g2.stp ((Stp.refl w' _).less fun b i h => by
          rcases h with h | h
          · exact .inl h
          · exact .inr h)
    have ho : (vs.getD 2 undef).oneCell' = true := hrep.one
    refine hK _ _ (kk ⟨w', M1, own, objs⟩ w.heap.size (vs.getD 2 undef) rfl jf hrep _ w' ⟨own, Rl.start ?_ ?_ hok1 fun t y hy => ?_⟩)
    · exact r.defs
    · simp only [Act.put, Array.size_setIfInBounds]; exact r.size
    · refine regs_put r.size (by simpa using hd) ?_ (fun t y hy => (r.regs t y hy).tr_same hst) hy
      refine .ag vs hl hone fun j y hj => ?_
      match j with
      | 0 => simp at hj; subst hj; rw [g0.val]; exact .scal rfl
      | 1 => simp at hj; subst hj; rw [g1.val]; exact .scal rfl
      | 2 => simp at hj; subst hj; exact .scal ho
      | j + 3 => simp at hj

/-- A call that only looks, at memory that others write over too. -/
theorem awl_callJ {cx0 : Cx} {lo : Nat} {Q : Exit → S → Prop} {x0 x1 : Operand} {k m : Int} {V : Value} {X : PV} {y warg : AV} {bb : Bool} (hf : FB P f) (hV : S.ev ⟨regs, objs⟩ x0 = some (.ag [.p (I k), .p (I m), .p (.v V)])) (hW : S.ev ⟨regs, objs⟩ x1 = some y) (hsW : Sub y warg)
    (con : PCon P f [.ag [.p (I k), .p (I m), .p X], warg] (.p (B bb))) (jf : JF cx0 cx lo) (hrep : Rep cx.w0 (Mu cx0.M0 cx.own0 cx.objs0) X V) (hd : Nat.blt d n = true)
    (kk : AWl P cx n ops rest Q ⟨(d, .p (B bb)) :: regs, objs⟩) :
    AWl P cx n ops (⟨some d, .call ⟨.value (.func f), #[x0, x1], ts⟩, ty, pos, aft, none⟩ :: rest) Q ⟨regs, objs⟩ := fun a w ⟨own, r⟩ => by
  refine wpList_plain rfl fun KK hK => ?_
  unfold Oper.wp
  rw [show (#[x0, x1] : Array Operand) = [x0, x1].toArray from rfl, run_enter hf, Oper.upon_enter]
  have hMe : ∀ (M : Nat → Nat → Prop) (ow : Nat → Value), Mu M ow [] = M := fun M ow => by
    funext b i; apply propext
    exact ⟨fun h => (by rcases h with h | ⟨_, _, h, _⟩ <;> first | exact h | cases h), .inl⟩
  let M1 : Nat → Nat → Prop := fun b i => Mu cx.M0 own objs b i ∧ ¬ (lo ≤ b ∧ b < cx.w0.heap.size)
  have hsub : ∀ b i, M1 b i → Mu cx.M0 own objs b i := fun b i h => h.1
  have hst0 : Stp cx.w0 (Mu cx0.M0 cx.own0 cx.objs0) w M1 :=
    { os := r.stp.os, tape := r.stp.tape, output := r.stp.output, size := r.stp.size, shape := r.stp.shape
      cell := fun b i v hm hc => by
        by_cases hj : lo ≤ b ∧ b < cx.w0.heap.size
        · rw [World.cell?_of_block (w := cx.w0) (r.fr.keep b hj.2 fun k o hk hb => by have := jf.obs k o b hk hb; omega)]; exact hc
        · refine r.stp.cell b i v (fun h => ?_) hc
          rcases h with h | h
          · rcases (jf.m b i).1 h with h | h
            · exact hm (.inl h)
            · exact hj h
          · exact hm (.inr h)
      mu := fun b i h => by
        rcases r.stp.mu b i h.1 with h' | h'
        · rcases h' with h' | h'
          · rcases (jf.m b i).1 h' with h' | h'
            · exact .inl (.inl h')
            · exact absurd h' h.2
          · exact .inl (.inr h')
        · exact .inr h' }
  have hok : OK P w M1 own [] := (r.ok.part (objs' := []) (fun x h => by cases h) (by simp) M1 (fun b i h => h.1) (fun k o b hk => by cases hk)).1
  have hargs : ArgsOK w (Mu M1 own []) own (hwOf []) [.ag [.p (I k), .p (I m), .p X], warg] ([x0, x1].map a.eval) := by
    rw [hMe]
    refine ⟨rfl, fun j z hj => ?_⟩
    match j with
    | 0 =>
      simp at hj; subst hj
      have hv := r.ev hV
      show RepA w M1 own (hwOf []) _ (a.eval x0)
      generalize a.eval x0 = v at hv
      cases hv with
      | ag vs hl hone hel =>
        refine .ag vs hl hone fun j z hj => ?_
        match j with
        | 0 => simp at hj; subst hj; rw [(hel 0 _ rfl).val]; exact .scal rfl
        | 1 => simp at hj; subst hj; rw [(hel 1 _ rfl).val]; exact .scal rfl
        | 2 => simp at hj; subst hj; rw [(hel 2 _ rfl).val]; exact .p (hrep.stp hst0)
        | j + 3 => simp at hj
    | 1 =>
      simp at hj; subst hj
      have hv := hsW _ _ _ _ _ (r.ev hW)
      have := hv.part (M1 := M1) (objs' := []) r.ok (fun x h => by cases h) (fun b i h => by rw [hMe] at h; exact h.1)
      rw [hMe] at this
      exact this
    | j + 2 => simp at hj
  refine (con w _ own _ hok hargs).mono ?_
  rintro e w' ⟨x, objs', own', v, rfl, ⟨rfl, rfl⟩, h1, h2, h3, h4, h5, h6⟩
  rw [hMe, hMe] at h3
  have hkeep : ∀ b, b < w.heap.size → w'.heap[b]? = w.heap[b]? := fun b hb => h6.keep b hb (fun _ _ h => by cases h)
  have hst : Stp w (Mu cx.M0 own objs) w' (Mu cx.M0 own objs) :=
    { os := h3.os, tape := h3.tape, output := h3.output, size := h3.size, shape := h3.shape, cell := fun b i u hm => h3.cell b i u (fun h => hm h.1), mu := fun b i h => .inl h }
  have hok1 : OK P w' cx.M0 own objs := r.ok.later (fun k o b hk hb => hkeep b (blk_lt r.ok hk hb)) hst (fun k o b hk hb i h => r.ok.m0 k o b hk hb i h) (fun b i h => Nat.lt_of_lt_of_le (r.ok.m0old b i h) h3.size)
  have hfr : Fr w own objs w' own objs := ⟨fun b hb _ => hkeep b hb, fun k o b hk hb => .inl ⟨k, o, hk, hb⟩, h3.size⟩
  have hv : v = .bool bb := by cases h2 with | p h => cases h; rfl
  subst hv
  exact hK _ _ (kk _ _ ⟨own, r.put (by simpa using hd) hst hok1 (fun _ _ _ _ _ => .same) (fun _ _ _ => .same) hfr (.scal rfl)⟩)

/-- What a step does that writes over the memory between lo and hi. -/
structure WS (lo hi : Nat) (I : World → Prop) (w w' : World) : Prop where
  os : w'.os = w.os
  tape : w'.tape = w.tape
  output : w'.output = w.output
  size : w.heap.size ≤ w'.heap.size
  keep : ∀ b, b < w.heap.size → b < lo ∨ hi ≤ b → w'.heap[b]? = w.heap[b]?
  shape : ∀ (b : Nat) (cs : Array Value) (T : Nat), w.heap[b]? = some (Obj.cells cs T (0, 0)) → ∃ cs' : Array Value, w'.heap[b]? = some (Obj.cells cs' T (0, 0))
  inv : I w'

/-- A call that writes over it. -/
theorem awlM_wipe {cx0 : Cx} {lo : Nat} {x0 : Operand} {k m : Int} {V : Value} {I' : World → Prop} (hf : FB P f) (hV : S.ev ⟨regs, objs⟩ x0 = some (.ag [.p (I k), .p (I m), .p (.v V)])) (jf : JF cx0 cx lo)
    (hw : ∀ w, (∀ b, lo ≤ b → b < cx.w0.heap.size → w.heap[b]? = cx.w0.heap[b]?) → cx.w0.heap.size ≤ w.heap.size → Calls P f #[.agg #[.int .i64 k, .int .i64 m, V]] w fun e w' => e = .returned (.tuple #[]) ∧ WS lo cx.w0.heap.size I' w w') (hd : Nat.blt d n = true)
    (kk : ∀ cx2, cx2.objs0 = objs → LkOK cx0 cx2 → AWlM P cx2 n ops rest K ⟨(d, .tp []) :: regs, objs⟩) :
    AWlM P cx n ops (⟨some d, .call ⟨.value (.func f), #[x0], ts⟩, ty, pos, aft, none⟩ :: rest) K ⟨regs, objs⟩ := fun a w ⟨own, r⟩ => by
  refine wpList_plain rfl fun KK hK => ?_
  unfold Oper.wp
  rw [show (#[x0] : Array Operand) = [x0].toArray from rfl, run_enter hf, Oper.upon_enter]
  have hj : ∀ b, lo ≤ b → b < cx.w0.heap.size → w.heap[b]? = cx.w0.heap[b]? := fun b h1 h2 => r.fr.keep b h2 fun k o hk hb => by have := jf.obs k o b hk hb; omega
  have hv : a.eval x0 = .agg #[.int .i64 k, .int .i64 m, V] := by
    have hv := r.ev hV
    generalize a.eval x0 = v at hv
    cases hv with
    | ag vs hl hone hel =>
      have g0 := (hel 0 _ rfl).val
      have g1 := (hel 1 _ rfl).val
      have g2 := (hel 2 _ rfl).val
      match vs, hl with
      | [p, q, u], _ => simp at g0 g1 g2; subst g0 g1 g2; rfl
  rw [show ([x0].map a.eval).toArray = #[a.eval x0] from rfl, hv]
  refine (hw w hj r.stp.size).mono ?_
  rintro e w' ⟨rfl, ws⟩
  have hJm : ∀ b i, lo ≤ b → b < cx.w0.heap.size → Mu cx.M0 own objs b i := fun b i h1 h2 => .inl ((jf.m b i).2 (.inr ⟨h1, h2⟩))
  have hst : Stp w (Mu cx.M0 own objs) w' (Mu cx.M0 own objs) :=
    { os := ws.os, tape := ws.tape, output := ws.output, size := ws.size, shape := ws.shape, mu := fun b i h => .inl h
      cell := fun b i u hm hu => by
        have hlt := World.block_lt_of_cell? w _ hu
        rw [World.cell?_of_block (w := w) (ws.keep b hlt (by
          by_cases h1 : lo ≤ b
          · by_cases h2 : b < cx.w0.heap.size
            · exact absurd (hJm b i h1 h2) hm
            · exact .inr (by omega)
          · exact .inl (by omega)))]; exact hu }
  have hfar : ∀ k o b, (k, o) ∈ objs → blk (own k) = some b → w'.heap[b]? = w.heap[b]? := fun k o b hk hb =>
    ws.keep b (blk_lt r.ok hk hb) (by
      by_cases h1 : lo ≤ b
      · by_cases h2 : b < cx.w0.heap.size
        · exact absurd ((jf.m b 0).2 (.inr ⟨h1, h2⟩)) (r.ok.m0 k o b hk hb 0)
        · exact .inr (by omega)
      · exact .inl (by omega))
  have hok1 : OK P w' cx.M0 own objs := r.ok.later hfar hst (fun k o b hk hb i h => r.ok.m0 k o b hk hb i h) (fun b i h => Nat.lt_of_lt_of_le (r.ok.m0old b i h) ws.size)
  have hfr := jf.lk.fr.trans r.fr
  have lk : LkOK cx0 ⟨w', cx.M0, own, objs⟩ := ⟨(jf.lk.stp.trans r.stp).trans hst,
    ⟨fun b hb hn => (ws.keep b (Nat.lt_of_lt_of_le hb hfr.size) (.inl (Nat.lt_of_lt_of_le hb jf.low))).trans (hfr.keep b hb hn), hfr.loc, Nat.le_trans hfr.size ws.size⟩, jf.lk.m0, jf.lk.o0⟩
  refine hK _ _ (kk ⟨w', cx.M0, own, objs⟩ rfl lk _ w' ⟨own, Rl.start ?_ ?_ hok1 fun t y hy => ?_⟩)
  · exact r.defs
  · simp only [Act.put, Array.size_setIfInBounds]; exact r.size
  · refine regs_put r.size (by simpa using hd) ?_ (fun t y hy => (r.regs t y hy).tr_same hst) hy
    exact .tp [] rfl (fun j x hj => by simp at hj)
end
end Go.Ab

/- Writing over memory of which only its form is known. -/
set_option linter.unusedVariables false
set_option linter.unusedSectionVars false
set_option linter.unusedSimpArgs false
namespace Go.Ab
open Go Go.RowKit

/-- What has turned from w to w', but for what lies between lo and hi. -/
structure Wr (lo hi : Nat) (w : World) (own : Nat → Value) (objs : Obs) (w' : World) (own' : Nat → Value) (objs' : Obs) : Prop where
  os : w'.os = w.os
  tape : w'.tape = w.tape
  output : w'.output = w.output
  size : w.heap.size ≤ w'.heap.size
  keep : ∀ b, b < w.heap.size → b < lo ∨ hi ≤ b → (∀ k o, (k, o) ∈ objs → blk (own k) ≠ some b) → w'.heap[b]? = w.heap[b]?
  loc : ∀ k o b, (k, o) ∈ objs' → blk (own' k) = some b → (∃ k' o', (k', o') ∈ objs ∧ blk (own k') = some b) ∨ w.heap.size ≤ b
  shape : ∀ (b : Nat) (cs : Array Value) (T : Nat), w.heap[b]? = some (Obj.cells cs T (0, 0)) → ∃ cs' : Array Value, w'.heap[b]? = some (Obj.cells cs' T (0, 0))

theorem Wr.trans {lo hi : Nat} {w w1 w2 : World} {own own1 own2 : Nat → Value} {objs objs1 objs2 : Obs} (h : Wr lo hi w own objs w1 own1 objs1) (k : Wr lo hi w1 own1 objs1 w2 own2 objs2) : Wr lo hi w own objs w2 own2 objs2 where
  os := k.os.trans h.os
  tape := k.tape.trans h.tape
  output := k.output.trans h.output
  size := Nat.le_trans h.size k.size
  keep b hb hj hn := by
    rw [k.keep b (Nat.lt_of_lt_of_le hb h.size) hj (fun j o hj' he => ?_), h.keep b hb hj hn]
    rcases h.loc j o b hj' he with ⟨j', o', h1, h2⟩ | h1
    · exact hn j' o' h1 h2
    · omega
  loc j o b hj he := by
    rcases k.loc j o b hj he with ⟨j', o', h1, h2⟩ | h1
    · exact h.loc j' o' b h1 h2
    · exact .inr (Nat.le_trans h.size h1)
  shape b cs T hb := by
    obtain ⟨cs', h'⟩ := h.shape b cs T hb
    exact k.shape b cs' T h'

theorem Wr.of_rl {P : Program} {cx : Cx} {n : Nat} {s : S} {a : Act} {w : World} {own : Nat → Value} (lo hi : Nat) (r : Rl P cx n s a w own) : Wr lo hi cx.w0 cx.own0 cx.objs0 w own s.objs :=
  ⟨r.stp.os, r.stp.tape, r.stp.output, r.stp.size, fun b hb _ hn => r.fr.keep b hb hn, r.fr.loc, r.stp.shape⟩
theorem Wr.of_ws {lo hi : Nat} {I : World → Prop} {w w' : World} (own : Nat → Value) (objs : Obs) (h : WS lo hi I w w') : Wr lo hi w own objs w' own objs :=
  ⟨h.os, h.tape, h.output, h.size, fun b hb hj _ => h.keep b hb hj, fun k o b hk hb => .inl ⟨k, o, hk, hb⟩, h.shape⟩
theorem Wr.ws {lo hi : Nat} {I : World → Prop} {w w' : World} {own own' : Nat → Value} {objs' : Obs} (h : Wr lo hi w own [] w' own' objs') (hi' : I w') : WS lo hi I w w' :=
  ⟨h.os, h.tape, h.output, h.size, fun b hb hj => h.keep b hb hj (fun _ _ hk => by cases hk), h.shape, hi'⟩

/-- The state lives on, where a step has written over that memory. -/
theorem Rl.wiped {P : Program} {cx : Cx} {n : Nat} {regs : List (Nat × AV)} {objs : Obs} {a : Act} {w w' : World} {own : Nat → Value} {lo hi : Nat} {I' : World → Prop} (r : Rl P cx n ⟨regs, objs⟩ a w own) (hM : ∀ b i, lo ≤ b → b < hi → cx.M0 b i) (ws : WS lo hi I' w w') :
    Rl P ⟨w', cx.M0, own, objs⟩ n ⟨regs, objs⟩ a w' own := by
  have hst : Stp w (Mu cx.M0 own objs) w' (Mu cx.M0 own objs) :=
    { os := ws.os, tape := ws.tape, output := ws.output, size := ws.size, shape := ws.shape, mu := fun b i h => .inl h
      cell := fun b i u hm hu => by
        have hlt := World.block_lt_of_cell? w _ hu
        rw [World.cell?_of_block (w := w) (ws.keep b hlt (by
          by_cases h1 : lo ≤ b
          · by_cases h2 : b < hi
            · exact absurd (Or.inl (hM b i h1 h2)) hm
            · exact .inr (by omega)
          · exact .inl (by omega)))]; exact hu }
  have hfar : ∀ k o b, (k, o) ∈ objs → blk (own k) = some b → w'.heap[b]? = w.heap[b]? := fun k o b hk hb =>
    ws.keep b (blk_lt r.ok hk hb) (by
      by_cases h1 : lo ≤ b
      · by_cases h2 : b < hi
        · exact absurd (hM b 0 h1 h2) (r.ok.m0 k o b hk hb 0)
        · exact .inr (by omega)
      · exact .inl (by omega))
  exact Rl.start r.defs r.size (r.ok.later hfar hst (fun k o b hk hb i h => r.ok.m0 k o b hk hb i h) (fun b i h => Nat.lt_of_lt_of_le (r.ok.m0old b i h) ws.size)) fun t x hx => (r.regs t x hx).tr_same hst

section
variable {P : Program} {cx : Cx} {n : Nat} {K : MPost} {regs : List (Nat × AV)} {objs : Obs} {ops : Array Oper} {rest : List Oper} {d : Nat} {pos : String} {aft : Array Edge} {ty f : Nat} {l : List Operand} {ts : Array Nat} {lo hi : Nat}

theorem awlM_callW {x0 : Operand} {k m : Int} {V : Value} {I' : World → World → Prop} (hf : FB P f) (hV : S.ev ⟨regs, objs⟩ x0 = some (.ag [.p (I k), .p (I m), .p (.v V)])) (hM : ∀ b i, lo ≤ b → b < hi → cx.M0 b i) (hd : Nat.blt d n = true)
    (hw : ∀ a w own, Rl P cx n ⟨regs, objs⟩ a w own → Calls P f #[.agg #[.int .i64 k, .int .i64 m, V]] w fun e w' => e = .returned (.tuple #[]) ∧ WS lo hi (I' w) w w')
    (kk : ∀ a w own w', Rl P cx n ⟨regs, objs⟩ a w own → WS lo hi (I' w) w w' → AWlM P ⟨w', cx.M0, own, objs⟩ n ops rest K ⟨(d, .tp []) :: regs, objs⟩) :
    AWlM P cx n ops (⟨some d, .call ⟨.value (.func f), #[x0], ts⟩, ty, pos, aft, none⟩ :: rest) K ⟨regs, objs⟩ := fun a w ⟨own, r⟩ => by
  refine wpList_plain rfl fun KK hK => ?_
  unfold Oper.wp
  rw [show (#[x0] : Array Operand) = [x0].toArray from rfl, run_enter hf, Oper.upon_enter]
  have hv : a.eval x0 = .agg #[.int .i64 k, .int .i64 m, V] := by
    have hv := r.ev hV
    generalize a.eval x0 = v at hv
    cases hv with
    | ag vs hl hone hel =>
      have g0 := (hel 0 _ rfl).val
      have g1 := (hel 1 _ rfl).val
      have g2 := (hel 2 _ rfl).val
      match vs, hl with
      | [p, q, u], _ => simp at g0 g1 g2; subst g0 g1 g2; rfl
  rw [show ([x0].map a.eval).toArray = #[a.eval x0] from rfl, hv]
  refine (hw a w own r).mono ?_
  rintro e w' ⟨rfl, ws⟩
  have r' := r.wiped hM ws
  exact hK _ _ (kk a w own w' r ws _ w' ⟨own, r'.put_same (by simpa using hd) (.tp [] rfl (fun j x hj => by simp at hj))⟩)

theorem awlM_storeJ {T Tb sz b o : Nat} {p x : Operand} {vals : List Value} (ti : TI P T sz true) (hp : S.ev ⟨regs, objs⟩ p = some (.p (.v (.pointer (some ⟨b, o, none⟩))))) (hx : S.ev ⟨regs, objs⟩ x = some (.ag (vals.map fun v => .p (.v v)))) (hsz : vals.length = sz) (hone : ∀ v ∈ vals, v.oneCell' = true)
    (hlo : lo ≤ b) (hhi : b < hi) (hM : ∀ b i, lo ≤ b → b < hi → cx.M0 b i)
    (hb : ∀ a w own, Rl P cx n ⟨regs, objs⟩ a w own → ∃ cs, w.heap[b]? = some (Obj.cells cs Tb (0, 0)) ∧ o + vals.length ≤ cs.size)
    (kk : ∀ a w own cs, Rl P cx n ⟨regs, objs⟩ a w own → w.heap[b]? = some (Obj.cells cs Tb (0, 0)) → o + vals.length ≤ cs.size →
      WS lo hi (fun _ => True) w (w.setRow b (cs.toList.take o ++ vals ++ cs.toList.drop (o + vals.length)).toArray) →
      AWlM P ⟨w.setRow b (cs.toList.take o ++ vals ++ cs.toList.drop (o + vals.length)).toArray, cx.M0, own, objs⟩ n ops rest K ⟨regs, objs⟩) :
    AWlM P cx n ops (⟨none, .store T p x, ty, pos, aft, none⟩ :: rest) K ⟨regs, objs⟩ := fun a w ⟨own, r⟩ => by
  refine wpList_plain rfl fun KK hK => ?_
  obtain ⟨cs, hcs, hfit⟩ := hb a w own r
  have hv := (r.ev hp).val
  have hxv : a.eval x = .agg vals.toArray := by
    have hv := r.ev hx
    generalize a.eval x = v at hv
    cases hv with
    | ag vs hl hone hel =>
      have : vs = vals := by
        refine List.ext_getElem? fun j => ?_
        rcases Nat.lt_or_ge j vals.length with h | h
        · have h2 : j < vs.length := by rw [hl]; simpa using h
          have := (hel j (.p (.v vals[j])) (by simp [h])).val
          rw [List.getD_eq_getElem?_getD, List.getElem?_eq_getElem h2] at this
          simp at this
          rw [List.getElem?_eq_getElem h2, List.getElem?_eq_getElem h, this]
        · rw [List.getElem?_eq_none (by rw [hl]; simpa using h), List.getElem?_eq_none h]
      rw [this]
  have hst := run_storeCells_at P b o Tb vals 0 cs w hcs (by simpa using hfit) hone
  simp only [Nat.add_zero] at hst
  have hrun : (execOp a.eval ⟨none, .store T p x, ty, pos, aft, none⟩).run P w = .ok .skip (w.setRow b (cs.toList.take o ++ vals ++ cs.toList.drop (o + vals.length)).toArray) := by
    simp only [execOp, hv, hxv, Instr.storeAt, Instr.sureAddr, storeVar, Sem.run_bind, Sem.run_pure, Result.andThen_ok, ti.run_size w]
    have hcl : (Value.agg vals.toArray).cells = vals.toArray := rfl
    rw [hcl]
    have : ¬ vals.toArray.size ≠ sz := by simp [hsz]
    rw [if_neg this]
    simp only [List.toList_toArray]
    rw [hst]
    rfl
  have ws : WS lo hi (fun _ => True) w (w.setRow b (cs.toList.take o ++ vals ++ cs.toList.drop (o + vals.length)).toArray) :=
    { os := rfl, tape := rfl, output := rfl, size := by rw [setRow_size]; exact Nat.le_refl _, inv := trivial
      keep := fun c _ hj => setRow_far w b _ (by omega)
      shape := fun c cs' T' h => by
        by_cases e : c = b
        · subst e; exact ⟨_, setRow_heap w c _ _ T' (0, 0) h⟩
        · exact ⟨cs', by rw [setRow_far _ _ _ e]; exact h⟩ }
  unfold Oper.wp
  rw [hrun]
  exact hK _ _ (kk a w own cs r hcs hfit ws _ _ ⟨own, r.wiped hM ws⟩)
end

section
variable {P : Program} {cx : Cx} {n : Nat} {Q : Exit → S → Prop} {regs : List (Nat × AV)} {objs : Obs} {ops : Array Oper} {rest : List Oper} {d : Nat} {pos : String} {aft : Array Edge} {ty : Nat}
theorem awl_len_c {T E rty len cap : Nat} {ad : Option Addr} {x : Operand} (si : SI P T E) (hx : S.ev ⟨regs, objs⟩ x = some (.p (.v (.slice ad len cap)))) (hd : Nat.blt d n = true)
    (kk : AWl P cx n ops rest Q ⟨(d, .p (I len)) :: regs, objs⟩) :
    AWl P cx n ops (⟨some d, .call ⟨.builtin .len, #[x], #[T]⟩, rty, pos, aft, none⟩ :: rest) Q ⟨regs, objs⟩ :=
  awl_val (.p (I len)) rfl rfl (by simpa using hd) (fun a w own r => by
    have hv := (r.ev hx).val
    have hel : P.underlying T = some (.slice (P.elem T)) := by simp [Program.elem, si.h]
    refine ⟨.int .i64 len, ?_, .scal rfl⟩
    simp only [execOp, resolve, invoke, builtin, Sem.run_bind, Sem.run_pure, Result.andThen_ok, List.map_toArray, List.map_cons, List.map_nil, hv]
    rw [run_len_slice w T rty ad len cap hel]
    rfl) kk
theorem awl_index_c {T E esz len cap b o : Nat} {ag : Bool} {x y : Operand} {kd : IntKind} {i : Int} (si : SI P T E) (ti : TI P E esz ag) (hx : S.ev ⟨regs, objs⟩ x = some (.p (.v (.slice (some ⟨b, 0, none⟩) len cap))))
    (hy : S.ev ⟨regs, objs⟩ y = some (.p (.v (.int kd i)))) (h0 : 0 ≤ i) (h1 : i < (len : Int)) (ho : i.toNat * esz = o) (hd : Nat.blt d n = true)
    (kk : AWl P cx n ops rest Q ⟨(d, .p (.v (.pointer (some ⟨b, o, none⟩)))) :: regs, objs⟩) : AWl P cx n ops (⟨some d, .indexAddr T x y, ty, pos, aft, none⟩ :: rest) Q ⟨regs, objs⟩ :=
  awl_val (.p (.v (.pointer (some ⟨b, o, none⟩)))) rfl rfl (by simpa using hd) (fun a w own r => by
    have hv := (r.ev hy).val
    have ha := (r.ev hx).val
    refine ⟨_, ?_, .scal rfl⟩
    have hel : P.underlying T = some (.slice (P.elem T)) := by simp [Program.elem, si.h]
    have hel' : P.elem T = E := by simp [Program.elem, si.h]
    simp only [execOp, ha, hv, Sem.run_bind]
    rw [run_indexAt_slice w T ⟨b, 0, none⟩ len cap kd i hel, if_pos ⟨h0, h1⟩, hel', ti.run_size w]
    subst ho
    simp only [Result.andThen_ok, add_at, Nat.zero_add, Sem.run_pure]) kk
theorem awl_load_c {T sz b o : Nat} {x : Operand} {vals : List Value} (ti : TI P T sz true) (hx : S.ev ⟨regs, objs⟩ x = some (.p (.v (.pointer (some ⟨b, o, none⟩))))) (hl : vals.length = sz) (hone : ∀ v ∈ vals, v.oneCell' = true)
    (hc : ∀ a w own, Rl P cx n ⟨regs, objs⟩ a w own → ∀ j v, vals[j]? = some v → w.cell? ⟨b, o + j, none⟩ = some v) (hd : Nat.blt d n = true)
    (kk : AWl P cx n ops rest Q ⟨(d, .ag (vals.map fun v => .p (.v v))) :: regs, objs⟩) : AWl P cx n ops (⟨some d, .load T x, ty, pos, aft, none⟩ :: rest) Q ⟨regs, objs⟩ :=
  awl_val (.ag (vals.map fun v => .p (.v v))) rfl rfl (by simpa using hd) (fun a w own r => by
    have hv := (r.ev hx).val
    refine ⟨.agg vals.toArray, ?_, .ag vals (by simp) hone fun j y hj => ?_⟩
    · simp only [execOp, hv, Instr.loadAt, Instr.sureAddr, Sem.run_bind, Sem.run_pure, Result.andThen_ok]
      rw [run_load_row ti w _ vals hl (fun j v hj => by rw [add_at]; exact hc a w own r j v hj)]
      rfl
    · rw [List.getElem?_map] at hj
      obtain ⟨v, hv', rfl⟩ := Option.map_eq_some_iff.1 hj
      rw [List.getD_eq_getElem?_getD, hv']
      exact .scal (hone v (List.mem_of_getElem? hv'))) kk
end

section
variable {P : Program} {cx : Cx} {n : Nat} {K : MPost} {s : S}
theorem awlM_blk {ops : Array Oper} {y : Code} {id : Nat} (h : AWpM P cx n y K s) : AWlM P cx n ops [] (Exit.inBlock id (seqK P y K)) s := fun a w r => wpList_nil (h a w r)
theorem awpM_skip {y : Code} (h : AWpM P cx n y K s) : AWpM P cx n .skip (seqK P y K) s := fun a w r => wp_skip (h a w r)
theorem awpM_exit {id : Nat} (h : ∀ a w, Rel P cx n s a w → K (.exit id) a w) : AWpM P cx n (.exit id) K s := fun a w r => wp_exit (h a w r)
theorem awpM_block {id : Nat} {c : Code} (h : AWpM P cx n c (Exit.inBlock id K) s) : AWpM P cx n (.block id c) K s := fun a w r => wp_block (h a w r)
theorem awpM_cond_p {c : Operand} {x y : Code} {q : Prop} [Decidable q] (hc : s.ev c = some (.p (.v (.bool (decide q))))) (ht : q → AWpM P cx n x K s) (hf : ¬ q → AWpM P cx n y K s) :
    AWpM P cx n (.cond c x y) K s := fun a w r => by
  obtain ⟨own, r'⟩ := r
  have hv' : a.eval c = .bool (decide q) := (r'.ev hc).val
  by_cases h : q
  · exact wp_cond_true (by rw [hv', decide_eq_true h]) (ht h a w ⟨own, r'⟩)
  · exact wp_cond_false (by rw [hv', decide_eq_false h]) (hf h a w ⟨own, r'⟩)
end
end Go.Ab

/- Slices whose elements may be written: the rules. -/
set_option linter.unusedVariables false
set_option linter.unusedSectionVars false
set_option linter.unusedSimpArgs false
namespace Go.Ab
open Go Go.RowKit

/-- The slice k turns: its header, its elements. -/
theorem Rl.remu {P : Program} {cx : Cx} {n : Nat} {s : S} {a : Act} {w w' : World} {own : Nat → Value} (r : Rl P cx n s a w own) {k T sz ver ver' : Nat} {xs xs' : List (List PV)} {v' : Value} {cells' : List Value}
    (hk : get s.objs k = some (.mu T sz ver xs)) (hver : ver ≤ ver') (hsame : ver' = ver → v' = own k) (hown : w'.ownsRow 0 T sz v' xs'.length cells') (hrow : ∀ row ∈ xs', row.length = sz)
    (hos : w'.os = w.os) (htp : w'.tape = w.tape) (hou : w'.output = w.output) (hsize : w.heap.size ≤ w'.heap.size) (hkeep : ∀ b, b < w.heap.size → blk (own k) ≠ some b → w'.heap[b]? = w.heap[b]?)
    (hblk : ∀ b, blk v' = some b → blk (own k) = some b ∨ w.heap.size ≤ b) (hshape : ∀ b cs, blk (own k) = some b → w.heap[b]? = some (Obj.cells cs T (0, 0)) → ∃ cs' : Array Value, w'.heap[b]? = some (Obj.cells cs' T (0, 0)))
    (hcells : Stp w (Mu cx.M0 own s.objs) w' (Mu cx.M0 (upd own k v') (setO s.objs k (.mu T sz ver' xs'))) → ∀ (i : Nat) (row : List PV) (j : Nat) (x : PV), xs'[i]? = some row → row[j]? = some x → Rep w' (Mu cx.M0 (upd own k v') (setO s.objs k (.mu T sz ver' xs'))) x (cells'.getD (i * sz + j) undef)) :
    Rl P cx n ⟨s.regs, setO s.objs k (.mu T sz ver' xs')⟩ a w' (upd own k v') ∧ Stp w (Mu cx.M0 own s.objs) w' (Mu cx.M0 (upd own k v') (setO s.objs k (.mu T sz ver' xs'))) := by
  have hmem := get_mem hk
  obtain ⟨cells, hc, _, _⟩ := r.ok.obs k _ hmem
  have hM : ∀ b i, Mu cx.M0 (upd own k v') (setO s.objs k (.mu T sz ver' xs')) b i → Mu cx.M0 own s.objs b i ∨ w.heap.size ≤ b := by
    rintro b i (h | ⟨j, o, hj, hmu⟩)
    · exact .inl (.inl h)
    · rcases setO_mem r.ok.keys hj with ⟨rfl, rfl⟩ | ⟨hne, h⟩
      · rw [upd_eq] at hmu
        rcases hblk b hmu with h3 | h3
        · exact .inl (.inr ⟨j, _, hmem, h3⟩)
        · exact .inr h3
      · rw [upd_ne _ _ hne] at hmu
        exact .inl (.inr ⟨j, o, h, hmu⟩)
  have hs : Stp w (Mu cx.M0 own s.objs) w' (Mu cx.M0 (upd own k v') (setO s.objs k (.mu T sz ver' xs'))) :=
    { os := hos, tape := htp, output := hou, size := hsize
      cell := fun b i u hmu hu => by
        by_cases hb : blk (own k) = some b
        · exact absurd (Or.inr ⟨k, _, hmem, hb⟩) hmu
        · rw [World.cell?_of_block (w := w) (hkeep b (World.block_lt_of_cell? w _ hu) hb)]; exact hu
      mu := hM
      shape := fun b cs T' hb => by
        by_cases hbk : blk (own k) = some b
        · rcases hc.2 with ⟨h5, _⟩ | ⟨g', cap', cur', h5, _, h6, _⟩
          · rw [h5] at hbk; simp [blk] at hbk
          · rw [h5] at hbk
            simp only [blk, Option.some.injEq] at hbk
            subst hbk
            rw [hb] at h6
            injection h6 with h6
            injection h6 with _ h7 _
            subst h7
            exact hshape g' cs (by rw [h5]; rfl) hb
        · exact ⟨cs, by rw [hkeep b (Array.getElem?_eq_some_iff.1 hb).1 hbk]; exact hb⟩ }
  have hw1 : hwOf s.objs k = some ver := by unfold hwOf; rw [hk]
  have hw2 : hwOf (setO s.objs k (.mu T sz ver' xs')) k = some ver' := by unfold hwOf; rw [get_setO, hk]; simp
  have hkr : ∀ j, Kr own (upd own k v') (hwOf s.objs) (hwOf (setO s.objs k (.mu T sz ver' xs'))) j := fun j => by
    by_cases e : j = k
    · subst e
      by_cases e : ver' = ver
      · exact .inl ⟨by rw [upd_eq]; exact hsame e, by rw [hw1, hw2, e]⟩
      · refine .inr (.inr ⟨ver, ver', hw1, hw2, by omega, fun q hq => ?_⟩)
        rcases hc.2 with ⟨h3, _⟩ | ⟨_, _, _, h3, _⟩ <;> rw [hq] at h3 <;> cases h3
    · refine .inl ⟨upd_ne _ _ e, ?_⟩
      unfold hwOf
      rw [get_setO]
      have : Nat.beq k j = false := by
        cases h : Nat.beq k j with
        | false => rfl
        | true => exact absurd (Nat.eq_of_beq_eq_true h).symm e
      rw [this]; rfl
  refine ⟨{ defs := r.defs, size := r.size, ok := ?_, regs := fun t x hx => (r.regs t x hx).tr hs fun j _ => hkr j, stp := r.stp.trans hs, fix := fun j o hm => (r.fix j o hm).trans (hkr j), fr := r.fr.trans ⟨fun b hb hn => hkeep b hb (hn k _ hmem), fun j o b hj hb => ?_, hsize⟩ }, hs⟩
  · refine { obs := fun j o hj => ?_, keys := by rw [setO_keys]; exact r.ok.keys, inj := ?_, m0 := ?_, m0old := fun b i h => Nat.lt_of_lt_of_le (r.ok.m0old b i h) hsize }
    · rcases setO_mem r.ok.keys hj with ⟨rfl, rfl⟩ | ⟨hne, h⟩
      · exact ⟨cells', by rw [upd_eq]; exact hown, hrow, hcells hs⟩
      · have hfar : ∀ b, blk (own j) = some b → w'.heap[b]? = w.heap[b]? := fun b hb =>
          hkeep b (blk_lt r.ok h hb) fun e => r.ok.inj k _ j o hmem h (Ne.symm hne) b e hb
        have h1 := r.ok.obs j o h
        cases o with
        | ce T' cs =>
          obtain ⟨b, vals, e1, e2, e3, e4⟩ := h1
          exact ⟨b, vals, by rw [upd_ne _ _ hne]; exact e1, by rw [hfar b (by rw [e1]; rfl)]; exact e2, e3, fun i x hi => ⟨(e4 i x hi).1, (e4 i x hi).2.tr hs fun q _ => hkr q⟩⟩
        | ar T' sz' q =>
          obtain ⟨cs, e⟩ := h1
          exact ⟨cs, by rw [upd_ne _ _ hne]; exact ownsRow_keep e hfar⟩
        | mu T' sz' q ys =>
          obtain ⟨cs, e, e2, e3⟩ := h1
          exact ⟨cs, by rw [upd_ne _ _ hne]; exact ownsRow_keep e hfar, e2, fun i row j x hi hj => (e3 i row j x hi hj).stp hs⟩
        | mp ver l =>
          show MpOK _ _ _
          rw [upd_ne _ _ hne]; exact MpOK.keep h1 hfar
    · intro j o j' o' hj hj' hne b hb hb'
      have g : ∀ {j o}, (j, o) ∈ setO s.objs k (.mu T sz ver' xs') → j ≠ k → (j, o) ∈ s.objs := fun {j o} hj hne => by
        rcases setO_mem r.ok.keys hj with ⟨rfl, _⟩ | ⟨_, h⟩
        · exact absurd rfl hne
        · exact h
      by_cases e : j = k
      · subst e
        have h' := g hj' (Ne.symm hne)
        rw [upd_eq] at hb
        rw [upd_ne _ _ (Ne.symm hne)] at hb'
        rcases hblk b hb with h3 | h3
        · exact r.ok.inj j _ j' o' hmem h' hne b h3 hb'
        · have := blk_lt r.ok h' hb'; omega
      · have h1 := g hj e
        rw [upd_ne _ _ e] at hb
        by_cases e' : j' = k
        · subst e'
          rw [upd_eq] at hb'
          rcases hblk b hb' with h3 | h3
          · exact r.ok.inj j' _ j o hmem h1 (Ne.symm hne) b h3 hb
          · have := blk_lt r.ok h1 hb; omega
        · rw [upd_ne _ _ e'] at hb'
          exact r.ok.inj j o j' o' h1 (g hj' e') hne b hb hb'
    · intro j o b hj hb i hm0
      rcases setO_mem r.ok.keys hj with ⟨rfl, rfl⟩ | ⟨hne, h⟩
      · rw [upd_eq] at hb
        rcases hblk b hb with h3 | h3
        · exact r.ok.m0 j _ b hmem h3 i hm0
        · have := r.ok.m0old b i hm0; omega
      · rw [upd_ne _ _ hne] at hb
        exact r.ok.m0 j o b h hb i hm0
  · rcases setO_mem r.ok.keys hj with ⟨rfl, rfl⟩ | ⟨hne, h⟩
    · rw [upd_eq] at hb
      rcases hblk b hb with h3 | h3
      · exact .inl ⟨j, _, hmem, h3⟩
      · exact .inr h3
    · rw [upd_ne _ _ hne] at hb
      exact .inl ⟨j, o, h, hb⟩

/-- What the header k is. -/
theorem Rl.tm_val {P : Program} {cx : Cx} {n : Nat} {s : S} {a : Act} {w : World} {own : Nat → Value} (r : Rl P cx n s a w own) {k T sz ver : Nat} {xs : List (List PV)} {v : Value} (hk : get s.objs k = some (.mu T sz ver xs)) (h : RepA w (Mu cx.M0 own s.objs) own (hwOf s.objs) (.tm k ver) v) : v = own k := by
  cases h with
  | tm h1 ho => exact (ho ver (by unfold hwOf; rw [hk])).2 rfl
theorem Rl.mu_own {P : Program} {cx : Cx} {n : Nat} {s : S} {a : Act} {w : World} {own : Nat → Value} (r : Rl P cx n s a w own) {k T sz ver : Nat} {xs : List (List PV)} (hk : get s.objs k = some (.mu T sz ver xs)) :
    ∃ cells, w.ownsRow 0 T sz (own k) xs.length cells ∧ (∀ row ∈ xs, row.length = sz) ∧ ∀ (i : Nat) (row : List PV) (j : Nat) (x : PV), xs[i]? = some row → row[j]? = some x → Rep w (Mu cx.M0 own s.objs) x (cells.getD (i * sz + j) undef) := r.ok.obs k _ (get_mem hk)
theorem ownsRow_hdr {w : World} {T sz m : Nat} {v : Value} {cells : List Value} (h : w.ownsRow 0 T sz v m cells) : ∃ ad cap, v = .slice ad m cap ∧ m ≤ cap ∧ cap ≤ 9223372036854775807 := by
  rcases h.2 with ⟨rfl, rfl⟩ | ⟨g, cap, cur, rfl, _, _, h1, h2, _⟩
  · exact ⟨none, 0, rfl, Nat.le_refl _, by omega⟩
  · exact ⟨_, cap, rfl, h1, by simp only [maxLen] at h2; omega⟩

section
variable {P : Program} {cx : Cx} {n : Nat} {Q : Exit → S → Prop} {regs : List (Nat × AV)} {objs : Obs} {ops : Array Oper} {rest : List Oper} {d : Nat} {pos : String} {aft : Array Edge} {ty : Nat}

theorem awl_len_m {T E rty k T' sz ver : Nat} {x : Operand} {xs : List (List PV)} (si : SI P T E) (hx : S.ev ⟨regs, objs⟩ x = some (.tm k ver)) (hk : get objs k = some (.mu T' sz ver xs)) (hd : Nat.blt d n = true)
    (kk : xs.length ≤ 9223372036854775807 → AWl P cx n ops rest Q ⟨(d, .p (I xs.length)) :: regs, objs⟩) :
    AWl P cx n ops (⟨some d, .call ⟨.builtin .len, #[x], #[T]⟩, rty, pos, aft, none⟩ :: rest) Q ⟨regs, objs⟩ := fun a0 w0 ⟨own0, r0⟩ => by
  obtain ⟨cells0, hc0, _⟩ := r0.mu_own hk
  obtain ⟨_, _, _, hle, hmax⟩ := ownsRow_hdr hc0
  refine awl_val (.p (I xs.length)) rfl rfl (by simpa using hd) (fun a w own r => ?_) (kk (Nat.le_trans hle hmax)) a0 w0 ⟨own0, r0⟩
  have hv := r.tm_val hk (r.ev hx)
  obtain ⟨cells, hc, _⟩ := r.mu_own hk
  obtain ⟨ad, cap, e, _, _⟩ := ownsRow_hdr hc
  have hel : P.underlying T = some (.slice (P.elem T)) := by simp [Program.elem, si.h]
  refine ⟨.int .i64 xs.length, ?_, .scal rfl⟩
  simp only [execOp, resolve, invoke, builtin, Sem.run_bind, Sem.run_pure, Result.andThen_ok, List.map_toArray, List.map_cons, List.map_nil, hv, e]
  rw [run_len_slice w T rty ad xs.length cap hel]
  rfl

theorem awl_index_m {T E sz k ver : Nat} {ag : Bool} {x y : Operand} {xs : List (List PV)} {kd : IntKind} {i : Int} (si : SI P T E) (ti : TI P E sz ag) (hx : S.ev ⟨regs, objs⟩ x = some (.tm k ver)) (hk : get objs k = some (.mu E sz ver xs))
    (hy : S.ev ⟨regs, objs⟩ y = some (.p (.v (.int kd i)))) (h0 : 0 ≤ i) (h1 : i < (xs.length : Int)) (hd : Nat.blt d n = true)
    (kk : AWl P cx n ops rest Q ⟨(d, .pe k ver (i.toNat * sz + 0)) :: regs, objs⟩) : AWl P cx n ops (⟨some d, .indexAddr T x y, ty, pos, aft, none⟩ :: rest) Q ⟨regs, objs⟩ :=
  awl_val (.pe k ver (i.toNat * sz + 0)) rfl rfl (by simpa using hd) (fun a w own r => by
    have hv := r.tm_val hk (r.ev hx)
    have hvy := (r.ev hy).val
    obtain ⟨cells, hc, _⟩ := r.mu_own hk
    have hel : P.underlying T = some (.slice (P.elem T)) := by simp [Program.elem, si.h]
    have hel' : P.elem T = E := by simp [Program.elem, si.h]
    rcases hc.2 with ⟨_, h⟩ | ⟨g, cap, cur, h, _⟩
    · omega
    · refine ⟨.pointer (some ⟨g, i.toNat * sz + 0, none⟩), ?_, .pe rfl fun q hq => ?_⟩
      · simp only [execOp, hv, hvy, h, Sem.run_bind]
        rw [run_indexAt_slice w T ⟨g, 0, none⟩ xs.length cap kd i hel, if_pos ⟨h0, h1⟩, hel', ti.run_size w]
        simp only [Result.andThen_ok, add_at, Nat.zero_add, Sem.run_pure, Nat.add_zero]
      · have : hwOf objs k = some ver := by unfold hwOf; rw [hk]
        rw [this] at hq; cases hq
        exact ⟨Nat.le_refl _, fun _ => ⟨g, _, cap, h, rfl⟩⟩) kk

theorem awl_field_m {T i off k ver q o : Nat} {x : Operand} (fi : FI P T i off) (hx : S.ev ⟨regs, objs⟩ x = some (.pe k ver (q + o))) {T' sz : Nat} {xs : List (List PV)} (hk : get objs k = some (.mu T' sz ver xs)) (hd : Nat.blt d n = true)
    (kk : AWl P cx n ops rest Q ⟨(d, .pe k ver (q + (o + off))) :: regs, objs⟩) : AWl P cx n ops (⟨some d, .fieldAddr T x i, ty, pos, aft, none⟩ :: rest) Q ⟨regs, objs⟩ :=
  awl_val (.pe k ver (q + (o + off))) rfl rfl (by simpa using hd) (fun a w own r => by
    have h := r.ev hx
    have hw : hwOf objs k = some ver := by unfold hwOf; rw [hk]
    generalize hv : a.eval x = v at h
    cases h with
    | pe h1 ho =>
      obtain ⟨b, len, cap, e, rfl⟩ := (ho ver hw).2 rfl
      refine ⟨.pointer (some ⟨b, q + (o + off), none⟩), ?_, .pe rfl fun p hp => ?_⟩
      · simp only [execOp, hv, Sem.run_bind, run_fieldAt fi w b (q + o), Result.andThen_ok]
        rw [Nat.add_assoc]; rfl
      · rw [hw] at hp; cases hp
        exact ⟨Nat.le_refl _, fun _ => ⟨b, len, cap, e, rfl⟩⟩) kk

/-- The cells that a place stands for. -/
theorem Rl.pe_cells {s : S} {a : Act} {w : World} {own : Nat → Value} (r : Rl P cx n s a w own) {k T sz ver i off sz' : Nat} {xs : List (List PV)} {row : List PV} {l : List PV} {v : Value} (hk : get s.objs k = some (.mu T sz ver xs)) (hi : xs[i]? = some row) (hl : rng row off sz' = some l)
    (h : RepA w (Mu cx.M0 own s.objs) own (hwOf s.objs) (.pe k ver (i * sz + off)) v) :
    ∃ (b : Nat) (vals : List Value), v = .pointer (some ⟨b, i * sz + off, none⟩) ∧ vals.length = sz' ∧ (∀ j u, vals[j]? = some u → w.cell? ⟨b, i * sz + off + j, none⟩ = some u) ∧ l.length = sz' ∧ ∀ j y, l[j]? = some y → Rep w (Mu cx.M0 own s.objs) y (vals.getD j undef) := by
  have hw : hwOf s.objs k = some ver := by unfold hwOf; rw [hk]
  obtain ⟨cells, hc, hrow, hx⟩ := r.mu_own hk
  cases h with
  | pe h1 ho =>
    obtain ⟨b, len, cap, e, rfl⟩ := (ho ver hw).2 rfl
    obtain ⟨q1, q2, q3⟩ := rng_spec hl
    have hlen := hrow row (List.mem_of_getElem? hi)
    have hil : i < xs.length := (List.getElem?_eq_some_iff.1 hi).1
    have hfit : i * sz + sz ≤ cells.length := by
      rw [hc.1]
      have : (i + 1) * sz ≤ xs.length * sz := Nat.mul_le_mul_right _ hil
      rw [Nat.add_mul] at this; omega
    refine ⟨b, (cells.drop (i * sz + off)).take sz', rfl, by simp; omega, fun j u hj => ?_, q1, fun j y hy => ?_⟩
    · have hjs : j < sz' := by have := (List.getElem?_eq_some_iff.1 hj).1; simp at this; omega
      rw [List.getElem?_take_of_lt hjs, List.getElem?_drop] at hj
      have hown := hc.cells (g := b) (by rw [e]; rfl) _ _ hj
      rw [add_at, Nat.zero_add] at hown
      exact hown
    · have hjs : j < sz' := by have := (List.getElem?_eq_some_iff.1 hy).1; omega
      rw [q3 j hjs] at hy
      have := hx i row (off + j) y hi hy
      have e : ((cells.drop (i * sz + off)).take sz').getD j undef = cells.getD (i * sz + (off + j)) undef := by
        rw [List.getD_eq_getElem?_getD, List.getElem?_take_of_lt hjs, List.getElem?_drop, ← List.getD_eq_getElem?_getD, Nat.add_assoc]
      rw [e]; exact this

theorem awl_load_m {T T' sz sz' k ver i off : Nat} {x : Operand} {xs : List (List PV)} {row l : List PV} (ti : TI P T' sz' true) (hx : S.ev ⟨regs, objs⟩ x = some (.pe k ver (i * sz + off))) (hk : get objs k = some (.mu T sz ver xs)) (hi : xs[i]? = some row) (hl : rng row off sz' = some l) (hd : Nat.blt d n = true)
    (kk : AWl P cx n ops rest Q ⟨(d, .ag (l.map .p)) :: regs, objs⟩) : AWl P cx n ops (⟨some d, .load T' x, ty, pos, aft, none⟩ :: rest) Q ⟨regs, objs⟩ :=
  awl_val (.ag (l.map .p)) rfl rfl (by simpa using hd) (fun a w own r => by
    obtain ⟨b, vals, hv, hl1, hc, hl2, hr⟩ := r.pe_cells hk hi hl (r.ev hx)
    refine ⟨.agg vals.toArray, ?_, .ag vals (by rw [hl1, List.length_map, hl2]) (fun v hv => ?_) fun j y hj => ?_⟩
    · simp only [execOp, hv, Instr.loadAt, Instr.sureAddr, Sem.run_bind, Sem.run_pure, Result.andThen_ok]
      rw [run_load_row ti w _ vals hl1 (fun j v hj => by rw [add_at]; exact hc j v hj)]
      rfl
    · obtain ⟨j, hj⟩ := List.getElem?_of_mem hv
      have hlt : j < l.length := by have := (List.getElem?_eq_some_iff.1 hj).1; omega
      have := (hr j _ (List.getElem?_eq_getElem hlt)).one
      rwa [List.getD_eq_getElem?_getD, hj] at this
    · rw [List.getElem?_map] at hj
      obtain ⟨z, hz, rfl⟩ := Option.map_eq_some_iff.1 hj
      exact .p (hr j z hz)) kk
theorem awl_load_m1 {T T' sz k ver i off : Nat} {x : Operand} {xs : List (List PV)} {row : List PV} {y : PV} (ti : TI P T' 1 false) (hx : S.ev ⟨regs, objs⟩ x = some (.pe k ver (i * sz + off))) (hk : get objs k = some (.mu T sz ver xs)) (hi : xs[i]? = some row) (hl : rng row off 1 = some [y]) (hd : Nat.blt d n = true)
    (kk : AWl P cx n ops rest Q ⟨(d, .p y) :: regs, objs⟩) : AWl P cx n ops (⟨some d, .load T' x, ty, pos, aft, none⟩ :: rest) Q ⟨regs, objs⟩ :=
  awl_val (.p y) rfl rfl (by simpa using hd) (fun a w own r => by
    obtain ⟨b, vals, hv, hl1, hc, hl2, hr⟩ := r.pe_cells hk hi hl (r.ev hx)
    obtain ⟨u, rfl⟩ : ∃ u, vals = [u] := by match vals, hl1 with | [u], _ => exact ⟨u, rfl⟩
    refine ⟨u, ?_, .p (hr 0 y rfl)⟩
    simp only [execOp, hv, Instr.loadAt, Instr.sureAddr, Sem.run_bind, Sem.run_pure, Result.andThen_ok]
    have := hc 0 u rfl
    rw [Nat.add_zero] at this
    rw [run_load_one ti w _ u this]
    rfl) kk
end

/-- Cells, written over from o on. -/
theorem ovr_getD {L us : List Value} {o q : Nat} (h : o + us.length ≤ L.length) : (L.take o ++ us ++ L.drop (o + us.length)).getD q undef = if q < o then L.getD q undef else if q < o + us.length then us.getD (q - o) undef else L.getD q undef := by
  have hl : (L.take o).length = o := by simp; omega
  simp only [List.getD_eq_getElem?_getD]
  split
  · rename_i hq
    rw [List.append_assoc, List.getElem?_append_left (by omega), List.getElem?_take_of_lt hq]
  · split
    · rw [List.append_assoc, List.getElem?_append_right (by omega), hl, List.getElem?_append_left (by omega)]
    · rw [List.getElem?_append_right (by simp; omega), List.getElem?_drop]
      congr 2
      simp; omega

/-- A row of the slice k is written. -/
theorem Rl.setMu {P : Program} {cx : Cx} {n : Nat} {s : S} {a : Act} {w : World} {own : Nat → Value} (r : Rl P cx n s a w own) {k T sz ver i : Nat} {xs : List (List PV)} {ps : List PV} {us : List Value} {b : Nat}
    (hk : get s.objs k = some (.mu T sz ver xs)) (hb : blk (own k) = some b) (hi : i < xs.length) (hp : ps.length = sz) (hu : us.length = sz) (hus : ∀ (j : Nat) (x : PV), ps[j]? = some x → Rep w (Mu cx.M0 own s.objs) x (us.getD j undef)) :
    ∃ cur, w.heap[b]? = some (Obj.cells cur T (0, 0)) ∧ i * sz + us.length ≤ cur.size ∧ Rl P cx n ⟨s.regs, setO s.objs k (.mu T sz ver (xs.set i ps))⟩ a (w.setRow b (cur.toList.take (i * sz) ++ us ++ cur.toList.drop (i * sz + us.length)).toArray) own := by
  obtain ⟨cells, hc, hrow, hx⟩ := r.mu_own hk
  rcases hc.2 with ⟨h5, _⟩ | ⟨g, cap, cur, h5, h50, hg, hnc, hcm, hcs, htake⟩
  · rw [h5] at hb; simp [blk] at hb
  · rw [h5] at hb
    simp only [blk, Option.some.injEq] at hb
    subst hb
    have hm : (i + 1) * sz ≤ xs.length * sz := Nat.mul_le_mul_right _ hi
    rw [Nat.add_mul, Nat.one_mul] at hm
    have hm2 : xs.length * sz ≤ cap * sz := Nat.mul_le_mul_right _ hnc
    have hfit : i * sz + us.length ≤ cur.toList.length := by simp; omega
    refine ⟨cur, hg, by simpa using hfit, ?_⟩
    have hov := fun q => ovr_getD (L := cur.toList) (us := us) (o := i * sz) (q := q) hfit
    have hupd : upd own k (own k) = own := by
      funext j
      by_cases e : j = k
      · subst e; rw [upd_eq]
      · rw [upd_ne _ _ e]
    have key := r.remu (v' := own k) (ver' := ver) (xs' := xs.set i ps) (w' := w.setRow g (cur.toList.take (i * sz) ++ us ++ cur.toList.drop (i * sz + us.length)).toArray)
      (cells' := ((cur.toList.take (i * sz) ++ us ++ cur.toList.drop (i * sz + us.length)).take (xs.length * sz))) hk (Nat.le_refl _) (fun _ => rfl)
      (by
        rw [List.length_set]
        refine ⟨by simp; omega, .inr ⟨g, cap, _, h5, h50, setRow_heap w g _ _ T (0, 0) hg, hnc, hcm, by simp; omega, by simp⟩⟩)
      (fun row hr => by
        rcases List.mem_or_eq_of_mem_set hr with h | h
        · exact hrow row h
        · rw [h]; exact hp)
      rfl rfl rfl (by rw [setRow_size]; exact Nat.le_refl _) (fun c _ hne => setRow_far w g _ fun e => hne (by rw [h5, e]; rfl)) (fun c hc' => .inl hc') (fun c cs hc' h => by
        rw [h5] at hc'; simp only [blk, Option.some.injEq] at hc'; subst hc'; exact ⟨_, setRow_heap w g _ _ T (0, 0) h⟩)
      (fun hst q row j x hq hj => by
        have hql : q < xs.length := by have := (List.getElem?_eq_some_iff.1 hq).1; simpa using this
        have hjs : j < sz := by
          have : row.length = sz := by
            rcases List.mem_or_eq_of_mem_set (List.mem_of_getElem? hq) with h | h
            · exact hrow row h
            · rw [h]; exact hp
          have := (List.getElem?_eq_some_iff.1 hj).1; omega
        have hqm : (q + 1) * sz ≤ xs.length * sz := Nat.mul_le_mul_right _ hql
        rw [Nat.add_mul, Nat.one_mul] at hqm
        have e1 : ((cur.toList.take (i * sz) ++ us ++ cur.toList.drop (i * sz + us.length)).take (xs.length * sz)).getD (q * sz + j) undef = (cur.toList.take (i * sz) ++ us ++ cur.toList.drop (i * sz + us.length)).getD (q * sz + j) undef := by
          rw [List.getD_eq_getElem?_getD, List.getElem?_take_of_lt (by omega), ← List.getD_eq_getElem?_getD]
        rw [e1, hov]
        by_cases hqi : q = i
        · subst hqi
          rw [List.getElem?_set_self hql] at hq
          cases hq
          rw [if_neg (by omega), if_pos (by omega), Nat.add_sub_cancel_left]
          exact (hus j x hj).stp hst
        · rw [List.getElem?_set_ne (Ne.symm hqi)] at hq
          have hcell : cells.getD (q * sz + j) undef = cur.toList.getD (q * sz + j) undef := by
            rw [← htake, List.getD_eq_getElem?_getD, List.getElem?_take_of_lt (by omega), ← List.getD_eq_getElem?_getD]
          have h9 := (hx q row j x hq hj).stp hst
          rw [hcell] at h9
          rcases Nat.lt_or_gt_of_ne hqi with hlt | hlt
          · have : (q + 1) * sz ≤ i * sz := Nat.mul_le_mul_right _ hlt
            rw [Nat.add_mul, Nat.one_mul] at this
            rw [if_pos (by omega)]; exact h9
          · have : (i + 1) * sz ≤ q * sz := Nat.mul_le_mul_right _ hlt
            rw [Nat.add_mul, Nat.one_mul] at this
            rw [if_neg (by omega), if_neg (by omega)]; exact h9)
    rw [hupd] at key
    exact key.1

end Go.Ab

/- Slices whose elements may be written: made, appended to, cut; interfaces. -/
set_option linter.unusedVariables false
set_option linter.unusedSectionVars false
set_option linter.unusedSimpArgs false
namespace Go.Ab
open Go Go.RowKit

/-- A new slice whose elements may be written. -/
theorem Rl.newMu {P : Program} {vr : Nat} {cx : Cx} {n : Nat} {s : S} {a : Act} {w w' : World} {own : Nat → Value} (r : Rl P cx n s a w own) (d T sz : Nat) (xs : List (List PV)) (v : Value) (cells : List Value) (hf : fresh d s = true) (h0 : get cx.objs0 d = none)
    (hown : w'.ownsRow 0 T sz v xs.length cells) (hg : w.grownBy w' none) (hb : ∀ b, blk v = some b → w.heap.size ≤ b) (hrow : ∀ row ∈ xs, row.length = sz)
    (hcells : Stp w (Mu cx.M0 own s.objs) w' (Mu cx.M0 (upd own d v) ((d, .mu T sz vr xs) :: s.objs)) → ∀ (i : Nat) (row : List PV) (j : Nat) (x : PV), xs[i]? = some row → row[j]? = some x → Rep w' (Mu cx.M0 (upd own d v) ((d, .mu T sz vr xs) :: s.objs)) x (cells.getD (i * sz + j) undef)) :
    Rl P cx n ⟨s.regs, (d, .mu T sz vr xs) :: s.objs⟩ a w' (upd own d v) ∧ Stp w (Mu cx.M0 own s.objs) w' (Mu cx.M0 (upd own d v) ((d, .mu T sz vr xs) :: s.objs)) := by
  simp only [fresh, Bool.and_eq_true] at hf
  have hM : ∀ b i, Mu cx.M0 (upd own d v) ((d, .mu T sz vr xs) :: s.objs) b i → Mu cx.M0 own s.objs b i ∨ w.heap.size ≤ b := by
    rintro b i (h | ⟨k, o, hk, hm⟩)
    · exact .inl (.inl h)
    · rcases List.mem_cons.1 hk with e | e
      · cases e; rw [upd_eq] at hm; exact .inr (hb b hm)
      · rw [upd_ne _ _ (freshO_mem hf.2 k o e).1] at hm; exact .inl (.inr ⟨k, o, e, hm⟩)
  have hs : Stp w (Mu cx.M0 own s.objs) w' (Mu cx.M0 (upd own d v) ((d, .mu T sz vr xs) :: s.objs)) :=
    { os := hg.os, tape := hg.tape, output := hg.output, size := hg.size,
      cell := fun b i u _ hu => by rw [World.cell?_of_block (w := w) (hg.block b (World.block_lt_of_cell? w _ hu) (by simp))]; exact hu
      mu := hM
      shape := fun b cs T h => ⟨cs, by rw [hg.block b (Array.getElem?_eq_some_iff.1 h).1 (by simp)]; exact h⟩ }
  have hkr : ∀ k, k ≠ d → Kr own (upd own d v) (hwOf s.objs) (hwOf ((d, .mu T sz vr xs) :: s.objs)) k := fun k hk => .inl ⟨upd_ne _ _ hk, hwOf_cons_ne hk⟩
  have hne : ∀ {k o}, (k, o) ∈ s.objs → k ≠ d := fun h => (freshO_mem hf.2 _ _ h).1
  refine ⟨{ defs := r.defs, size := r.size, ok := ?_, regs := fun t x hx => (r.regs t x hx).tr hs fun k hk => hkr k (freshR_get hf.1 t x hx k hk), stp := r.stp.trans hs, fix := fun k o hm => (r.fix k o hm).trans (hkr k ?_), fr := r.fr.trans ⟨fun b hb _ => hg.block b hb (by simp), fun k o b hk hb' => ?_, hg.size⟩ }, hs⟩
  · refine { obs := fun k o hk => ?_, keys := ?_, inj := fun k o k' o' hk hk' hne' b hb1 hb2 => ?_, m0 := fun k o b hk hb1 i hm => ?_, m0old := fun b i h => Nat.lt_of_lt_of_le (r.ok.m0old b i h) hg.size }
    · rcases List.mem_cons.1 hk with e | e
      · cases e; exact ⟨cells, by rw [upd_eq]; exact hown, hrow, hcells hs⟩
      · have h1 := r.ok.obs k o e
        have hfar : ∀ b, blk (own k) = some b → w'.heap[b]? = w.heap[b]? := fun b hb => hg.block b (blk_lt r.ok e hb) (by simp)
        cases o with
        | ce T' cs =>
          obtain ⟨b, vals, e1, e2, e3, e4⟩ := h1
          exact ⟨b, vals, by rw [upd_ne _ _ (hne e)]; exact e1, by rw [hfar b (by rw [e1]; rfl)]; exact e2, e3, fun i x hi => ⟨(e4 i x hi).1, (e4 i x hi).2.tr hs fun q hq => hkr q (freshO_has hf.2 e hi hq)⟩⟩
        | ar T' sz' q =>
          obtain ⟨cs, h2⟩ := h1
          exact ⟨cs, by rw [upd_ne _ _ (hne e)]; exact ownsRow_keep h2 hfar⟩
        | mu T' sz' ver ys =>
          obtain ⟨cs, h2, h3, h4⟩ := h1
          exact ⟨cs, by rw [upd_ne _ _ (hne e)]; exact ownsRow_keep h2 hfar, h3, fun i row j x hi hj => (h4 i row j x hi hj).stp hs⟩
        | mp ver l =>
          show MpOK _ _ _
          rw [upd_ne _ _ (hne e)]; exact MpOK.keep h1 hfar
    · simp only [List.map_cons, List.nodup_cons]
      refine ⟨fun h => ?_, r.ok.keys⟩
      obtain ⟨⟨k, o⟩, hk, e⟩ := List.mem_map.1 h
      exact hne hk e
    · rcases List.mem_cons.1 hk with e | e <;> rcases List.mem_cons.1 hk' with e' | e'
      · cases e; cases e'; exact hne' rfl
      · cases e; rw [upd_eq] at hb1; rw [upd_ne _ _ (hne e')] at hb2
        have := hb b hb1; have := blk_lt r.ok e' hb2; omega
      · cases e'; rw [upd_eq] at hb2; rw [upd_ne _ _ (hne e)] at hb1
        have := hb b hb2; have := blk_lt r.ok e hb1; omega
      · rw [upd_ne _ _ (hne e)] at hb1; rw [upd_ne _ _ (hne e')] at hb2
        exact r.ok.inj k o k' o' e e' hne' b hb1 hb2
    · rcases List.mem_cons.1 hk with e | e
      · cases e; rw [upd_eq] at hb1
        have := hb b hb1; have := r.ok.m0old b i hm; omega
      · rw [upd_ne _ _ (hne e)] at hb1; exact r.ok.m0 k o b e hb1 i hm
  · intro e; subst e; exact get_some_of_mem (List.mem_map_of_mem (f := (·.1)) hm) h0
  · rcases List.mem_cons.1 hk with e | e
    · cases e; rw [upd_eq] at hb'; exact .inr (hb b hb')
    · rw [upd_ne _ _ (hne e)] at hb'; exact .inl ⟨k, o, e, hb'⟩

/-- What is appended: its cells. -/
def Src (w : World) (M : Nat → Nat → Prop) (sz : Nat) (ys : List (List PV)) (y : Value) : Prop :=
  ∃ news : List Value, ((y = .slice none 0 0 ∧ ys.length = 0 ∧ news = []) ∨ ∃ a c, y = .slice (some a) ys.length c ∧ news.length = ys.length * sz ∧ ∀ j u, news[j]? = some u → w.cell? (a.add j) = some u) ∧
      (∀ u ∈ news, u.oneCell' = true) ∧ news.length = ys.length * sz ∧ (∀ row ∈ ys, row.length = sz) ∧
      ∀ (i : Nat) (row : List PV) (j : Nat) (x : PV), ys[i]? = some row → row[j]? = some x → Rep w M x (news.getD (i * sz + j) undef)
theorem Src.of_rep {w : World} {M : Nat → Nat → Prop} {sz : Nat} {ys : List (List PV)} {y : Value} (h : Rep w M (.sl sz ys) y) : Src w M sz ys y := by
  obtain ⟨news, h1, h2, h3, h4, h5⟩ := h.sl_cells
  refine ⟨news, h1, h2, h3, fun row hr => ?_, h5⟩
  obtain ⟨i, hi⟩ := List.getElem?_of_mem hr
  exact h4 i row hi
theorem Src.of_mu {P : Program} {cx : Cx} {n : Nat} {s : S} {a : Act} {w : World} {own : Nat → Value} (r : Rl P cx n s a w own) {k T sz ver : Nat} {xs : List (List PV)} (hk : get s.objs k = some (.mu T sz ver xs)) : Src w (Mu cx.M0 own s.objs) sz xs (own k) := by
  obtain ⟨cells, hc, hrow, hx⟩ := r.mu_own hk
  refine ⟨cells, ?_, fun u hu => ?_, hc.1, hrow, hx⟩
  · rcases hc.2 with ⟨h1, h2⟩ | ⟨g, cap, cur, h1, _⟩
    · exact .inl ⟨h1, h2, by have := hc.1; rw [h2, Nat.zero_mul] at this; exact List.eq_nil_of_length_eq_zero this⟩
    · exact .inr ⟨⟨g, 0, none⟩, cap, h1, hc.1, hc.cells (g := g) (by rw [h1]; rfl)⟩
  · obtain ⟨q, hq⟩ := List.getElem?_of_mem hu
    have hlt := (List.getElem?_eq_some_iff.1 hq).1
    rw [hc.1] at hlt
    have hs : 0 < sz := by
      rcases Nat.eq_zero_or_pos sz with h | h
      · subst h; simp at hlt
      · exact h
    have hi : q / sz < xs.length := by rw [Nat.div_lt_iff_lt_mul hs]; exact hlt
    have hm : q % sz < (xs[q / sz]).length := by rw [hrow _ (List.getElem_mem hi)]; exact Nat.mod_lt _ hs
    have := (hx _ _ _ _ (List.getElem?_eq_getElem hi) (List.getElem?_eq_getElem hm)).one
    rw [Nat.div_add_mod'] at this
    rwa [List.getD_eq_getElem?_getD, hq] at this

theorem Rl.appMu {P : Program} {cx : Cx} {n : Nat} {s : S} {a : Act} {w : World} {own : Nat → Value} (r : Rl P cx n s a w own) {T E sz bytes ty k ver : Nat} (si : SI P T E) (ei : EI P E sz bytes) (hsz : 0 < sz) {xs ys : List (List PV)}
    (hk : get s.objs k = some (.mu E sz ver xs)) {y : Value} (hy : Src w (Mu cx.M0 own s.objs) sz ys y) (hb : (xs.length + ys.length) * bytes ≤ 140737488355328) (h63 : xs.length + ys.length ≤ 140737488355328) :
    ∃ v' w', (Builtin.append_ #[T, T] ty #[own k, y]).run P w = .ok v' w' ∧ Rl P cx n ⟨s.regs, setO s.objs k (.mu E sz (ver + 1) (xs ++ ys))⟩ a w' (upd own k v') ∧ v'.oneCell' = true := by
  obtain ⟨cells, hc, hrow, hx⟩ := r.mu_own hk
  obtain ⟨news, hn1, hn2, hn3, hn4, hn5⟩ := hy
  obtain ⟨v', w', hr, g1, g2, g3⟩ := run_app (ty := ty) si ei hsz hc hn1 hn2 hb h63
  have hsize : w.heap.size ≤ w'.heap.size := by rcases g3 with ⟨h, _⟩ | ⟨h, _⟩ <;> exact h.size
  have key := r.remu (v' := v') (ver' := ver + 1) (xs' := xs ++ ys) (w' := w') (cells' := cells ++ news) hk (Nat.le_succ _) (fun h => by omega) (by rw [List.length_append]; exact g1)
    (fun row h => by
      rcases List.mem_append.1 h with h | h
      · exact hrow row h
      · exact hn4 row h)
    (by rcases g3 with ⟨h, _⟩ | ⟨h, _⟩ <;> exact h.os) (by rcases g3 with ⟨h, _⟩ | ⟨h, _⟩ <;> exact h.tape) (by rcases g3 with ⟨h, _⟩ | ⟨h, _⟩ <;> exact h.output) hsize
    (fun b hb hne => by
      rcases g3 with ⟨h, h2⟩ | ⟨h, _⟩
      · exact h.block b hb (fun e => hne (h2 ▸ e.symm))
      · exact h.block b hb (by simp))
    (fun b hb => by
      rcases g3 with ⟨_, h2⟩ | ⟨_, h2⟩
      · exact .inl (h2 ▸ hb)
      · exact .inr (h2 b hb))
    (fun b cs hb hcs => by
      rcases g3 with ⟨h, h2⟩ | ⟨h, _⟩
      · rcases g1.2 with ⟨h3, _⟩ | ⟨g, cap, cur, h3, _, h4, _⟩
        · rw [← h2, h3] at hb; simp [blk] at hb
        · rw [← h2, h3] at hb
          simp only [blk, Option.some.injEq] at hb
          subst hb
          exact ⟨_, h4⟩
      · exact ⟨cs, by rw [h.block b (Array.getElem?_eq_some_iff.1 hcs).1 (by simp)]; exact hcs⟩)
    (fun hst i row j x hi hj => by
      rcases Nat.lt_or_ge i xs.length with h | h
      · rw [List.getElem?_append_left h] at hi
        have hjs : j < sz := by have := hrow _ (List.mem_of_getElem? hi); have := (List.getElem?_eq_some_iff.1 hj).1; omega
        have hlt : i * sz + j < xs.length * sz := by
          have : (i + 1) * sz ≤ xs.length * sz := Nat.mul_le_mul_right _ h
          rw [Nat.add_mul] at this; omega
        rw [List.getD_eq_getElem?_getD, List.getElem?_append_left (by rw [hc.1]; exact hlt), ← List.getD_eq_getElem?_getD]
        exact (hx i row j x hi hj).stp hst
      · rw [List.getElem?_append_right h] at hi
        have hge : xs.length * sz ≤ i * sz := Nat.mul_le_mul_right _ h
        have e : (cells ++ news).getD (i * sz + j) undef = news.getD ((i - xs.length) * sz + j) undef := by
          rw [List.getD_eq_getElem?_getD, List.getElem?_append_right (by rw [hc.1]; omega), ← List.getD_eq_getElem?_getD, hc.1]
          congr 1
          rw [Nat.sub_mul]; omega
        rw [e]
        exact (hn5 _ row j x hi hj).stp hst)
  refine ⟨v', w', hr, key.1, ?_⟩
  rcases g1.2 with ⟨h3, _⟩ | ⟨g, cap, cur, h3, _⟩ <;> rw [h3] <;> rfl

theorem Rl.put_tm {P : Program} {cx : Cx} {n : Nat} {s : S} {a : Act} {w : World} {own : Nat → Value} (r : Rl P cx n s a w own) {d k T sz ver : Nat} {xs : List (List PV)} {v : Value} (hd : d < n) (hk : get s.objs k = some (.mu T sz ver xs)) (hv : v = own k) (h1 : v.oneCell' = true) :
    Rl P cx n (s.put d (.tm k ver)) (a.put (some d) v) w own := r.put_same hd (.tm h1 fun q hq => by
  have : hwOf s.objs k = some ver := by unfold hwOf; rw [hk]
  rw [this] at hq; cases hq
  exact ⟨Nat.le_refl _, fun _ => hv⟩)

theorem ti_elem_size {P : Program} {T E sz : Nat} {ag : Bool} (h : P.elem T = E) (ti : TI P E sz ag) (w : World) : (sizeOf (P.elem T)).run P w = .ok sz w := by rw [h]; exact ti.run_size w

section
variable {P : Program} {cx : Cx} {n : Nat} {Q : Exit → S → Prop} {regs : List (Nat × AV)} {objs : Obs} {ops : Array Oper} {rest : List Oper} {d : Nat} {pos : String} {aft : Array Edge} {ty : Nat}

theorem get_setO_self {l : Obs} {k : Nat} {o o' : Ob} (h : get l k = some o) : get (setO l k o') k = some o' := by rw [get_setO, Nat.beq_refl, cond_true, h]; rfl

theorem awl_store_m {T sz k ver i : Nat} {ag : Bool} {p x : Operand} {av : AV} {l : List AV} {ps : List PV} {xs : List (List PV)} {objs' : Obs} (ti : TI P T sz ag) (hp : S.ev ⟨regs, objs⟩ p = some (.pe k ver (i * sz + 0))) (hx : S.ev ⟨regs, objs⟩ x = some av) (hk : get objs k = some (.mu T sz ver xs))
    (hi : i < xs.length) (hl : av.ce = some l) (hps : pus l = some ps) (hsz : Nat.beq ps.length sz = true) (hq : setq objs k (.mu T sz ver (xs.set i ps)) = some objs')
    (kk : AWl P cx n ops rest Q ⟨regs, objs'⟩) : AWl P cx n ops (⟨none, .store T p x, ty, pos, aft, none⟩ :: rest) Q ⟨regs, objs⟩ :=
  awl_op rfl (fun a w own r => by
    have hw : hwOf objs k = some ver := by unfold hwOf; rw [hk]
    have h := r.ev hp
    obtain ⟨us, hu1, hu2, hu3, hu4⟩ := (r.ev hx).ce hl
    obtain ⟨g1, g2⟩ := pus_get hps
    have hs : ps.length = sz := Nat.eq_of_beq_eq_true hsz
    generalize hv : a.eval p = v at h
    cases h with
    | pe h1 ho =>
      obtain ⟨b, len, cap, e, rfl⟩ := (ho ver hw).2 rfl
      obtain ⟨cur, hg, hfit, r'⟩ := r.setMu (us := us) hk (b := b) (by rw [e]; rfl) hi hs (by omega) (fun j y hj => by
        obtain ⟨z, hz, hzp⟩ := g2 j y hj
        exact (hu4 j z hz).pu hzp)
      have hst := run_storeCells_at P b (i * sz) T us 0 cur w hg (by simpa using hfit) hu3
      simp only [Nat.add_zero] at hst
      have hrun : (execOp a.eval ⟨none, .store T p x, ty, pos, aft, none⟩).run P w = .ok .skip (w.setRow b (cur.toList.take (i * sz) ++ us ++ cur.toList.drop (i * sz + us.length)).toArray) := by
        simp only [execOp, hv, Instr.storeAt, Instr.sureAddr, storeVar, Sem.run_bind, Sem.run_pure, Result.andThen_ok, ti.run_size w, Nat.add_zero]
        rw [hu1]
        have : ¬ us.toArray.size ≠ sz := by simp; omega
        rw [if_neg this]
        simp only [List.toList_toArray]
        rw [hst]
        rfl
      exact ⟨undef, _, .inr ⟨hrun, rfl⟩, own, by rw [setq_spec hq]; exact r'⟩) kk

theorem awl_append_m {T E sz bytes k ver : Nat} {s x : Operand} {xs ys : List (List PV)} {av : AV} {objs' : Obs} (si : SI P T E) (ei : EI P E sz bytes) (hs : S.ev ⟨regs, objs⟩ s = some (.tm k ver)) (hk : get objs k = some (.mu E sz ver xs))
    (hx : S.ev ⟨regs, objs⟩ x = some av) (hr : av.rows = some (sz, ys)) (hsz : Nat.blt 0 sz = true) (hq : setq objs k (.mu E sz (ver + 1) (xs ++ ys)) = some objs') (hd : Nat.blt d n = true) (hb : (xs.length + ys.length) * bytes ≤ 140737488355328) (h63 : xs.length + ys.length ≤ 140737488355328)
    (kk : AWl P cx n ops rest Q ⟨(d, .tm k (ver + 1)) :: regs, objs'⟩) :
    AWl P cx n ops (⟨some d, .call ⟨.builtin .append, #[s, x], #[T, T]⟩, ty, pos, aft, none⟩ :: rest) Q ⟨regs, objs⟩ :=
  awl_op rfl (fun a w own r => by
    have hv := r.tm_val hk (r.ev hs)
    obtain ⟨v', w', e1, e2, e3⟩ := r.appMu (ty := ty) si ei (by simpa using hsz) hk (Src.of_rep ((r.ev hx).rows hr)) hb h63
    refine ⟨v', w', .inl (exec_append (by rw [hv]; exact e1)), upd own k v', ?_⟩
    have := e2.put_tm (d := d) (v := v') (by simpa using hd) (get_setO_self hk) (by rw [upd_eq]) e3
    rw [← setq_spec hq] at this
    exact this) kk
/-- What is appended may be written over itself. -/
theorem awl_append_m2 {T E sz bytes k ver k2 ver2 : Nat} {s x : Operand} {xs ys : List (List PV)} {objs' : Obs} (si : SI P T E) (ei : EI P E sz bytes) (hs : S.ev ⟨regs, objs⟩ s = some (.tm k ver)) (hk : get objs k = some (.mu E sz ver xs))
    (hx : S.ev ⟨regs, objs⟩ x = some (.tm k2 ver2)) (hk2 : get objs k2 = some (.mu E sz ver2 ys)) (hsz : Nat.blt 0 sz = true) (hq : setq objs k (.mu E sz (ver + 1) (xs ++ ys)) = some objs') (hd : Nat.blt d n = true) (hb : (xs.length + ys.length) * bytes ≤ 140737488355328) (h63 : xs.length + ys.length ≤ 140737488355328)
    (kk : AWl P cx n ops rest Q ⟨(d, .tm k (ver + 1)) :: regs, objs'⟩) :
    AWl P cx n ops (⟨some d, .call ⟨.builtin .append, #[s, x], #[T, T]⟩, ty, pos, aft, none⟩ :: rest) Q ⟨regs, objs⟩ :=
  awl_op rfl (fun a w own r => by
    have hv := r.tm_val hk (r.ev hs)
    have hv2 := r.tm_val hk2 (r.ev hx)
    obtain ⟨v', w', e1, e2, e3⟩ := r.appMu (ty := ty) si ei (by simpa using hsz) hk (Src.of_mu r hk2) hb h63
    refine ⟨v', w', .inl (exec_append (by rw [hv, hv2]; exact e1)), upd own k v', ?_⟩
    have := e2.put_tm (d := d) (v := v') (by simpa using hd) (get_setO_self hk) (by rw [upd_eq]) e3
    rw [← setq_spec hq] at this
    exact this) kk

/-- The first h elements. -/
theorem awl_cut_m {T E sz k ver : Nat} {ag : Bool} {x y : Operand} {xs : List (List PV)} {kd : IntKind} {h : Int} {objs' : Obs} (si : SI P T E) (ti : TI P E sz ag) (hx : S.ev ⟨regs, objs⟩ x = some (.tm k ver)) (hk : get objs k = some (.mu E sz ver xs))
    (hy : S.ev ⟨regs, objs⟩ y = some (.p (.v (.int kd h)))) (h0 : 0 ≤ h) (h1 : h ≤ (xs.length : Int)) (hq : setq objs k (.mu E sz (ver + 1) (xs.take h.toNat)) = some objs') (hd : Nat.blt d n = true)
    (kk : AWl P cx n ops rest Q ⟨(d, .tm k (ver + 1)) :: regs, objs'⟩) :
    AWl P cx n ops (⟨some d, .slice T x none (some y) none, ty, pos, aft, none⟩ :: rest) Q ⟨regs, objs⟩ :=
  awl_op rfl (fun a w own r => by
    have hv := r.tm_val hk (r.ev hx)
    have hvy := (r.ev hy).val
    obtain ⟨cells, hc, hrow, hxx⟩ := r.mu_own hk
    have hel : P.underlying T = some (.slice (P.elem T)) := by simp [Program.elem, si.h]
    have hel' : P.elem T = E := by simp [Program.elem, si.h]
    have hlen : (xs.take h.toNat).length = h.toNat := by simp; omega
    have hm : h.toNat * sz ≤ xs.length * sz := Nat.mul_le_mul_right _ (by omega)
    obtain ⟨v', hrun, hown, hbk⟩ : ∃ v', (execOp a.eval ⟨some d, .slice T x none (some y) none, ty, pos, aft, none⟩).run P w = .ok (.value v') w ∧ w.ownsRow 0 E sz v' (xs.take h.toNat).length (cells.take (h.toNat * sz)) ∧ blk v' = blk (own k) := by
      rw [hlen]
      rcases hc.2 with ⟨e1, e2⟩ | ⟨g, cap, cur, e1, e2, e3, e4, e5, e6, e7⟩
      · refine ⟨.slice none 0 0, ?_, ⟨by have := hc.1; simp; omega, .inl ⟨rfl, by omega⟩⟩, by rw [e1]⟩
        simp only [execOp, hv, hvy, e1, Option.map_some, Option.map_none, Sem.run_bind]
        rw [run_sliceAt_slice w T _ _ _ _ hel, run_slice_h w T none 0 0 hel kd h h0 (by omega), ti_elem_size hel' ti w]
        have : h.toNat = 0 := by omega
        simp [Result.andThen_ok, sliced, this]
      · refine ⟨.slice (some ⟨g, 0, none⟩) h.toNat cap, ?_, ⟨by have := hc.1; simp; omega, .inr ⟨g, cap, cur, rfl, e2, e3, by omega, e5, e6, ?_⟩⟩, by rw [e1]; rfl⟩
        · simp only [execOp, hv, hvy, e1, Option.map_some, Option.map_none, Sem.run_bind]
          rw [run_sliceAt_slice w T _ _ _ _ hel, run_slice_h w T (some ⟨g, 0, none⟩) xs.length cap hel kd h h0 (by omega), ti_elem_size hel' ti w]
          have : (⟨g, 0, none⟩ : Addr).add 0 = ⟨g, 0, none⟩ := by simp [Addr.add]
          simp [Result.andThen_ok, sliced, this]
        · rw [← e7, List.take_take, Nat.min_eq_left hm]
    have key := r.remu (v' := v') (ver' := ver + 1) (xs' := xs.take h.toNat) (w' := w) (cells' := cells.take (h.toNat * sz)) hk (Nat.le_succ _) (fun h => by omega) hown (fun row hr => hrow row (List.mem_of_mem_take hr)) rfl rfl rfl (Nat.le_refl _) (fun _ _ _ => rfl)
      (fun b hb => .inl (by rw [← hbk]; exact hb)) (fun b cs _ hcs => ⟨cs, hcs⟩)
      (fun hst i row j x hi hj => by
        have hil : i < h.toNat := by have := (List.getElem?_eq_some_iff.1 hi).1; omega
        rw [List.getElem?_take_of_lt hil] at hi
        have hjs : j < sz := by have := hrow _ (List.mem_of_getElem? hi); have := (List.getElem?_eq_some_iff.1 hj).1; omega
        have hlt : i * sz + j < h.toNat * sz := by
          have : (i + 1) * sz ≤ h.toNat * sz := Nat.mul_le_mul_right _ hil
          rw [Nat.add_mul] at this; omega
        rw [List.getD_eq_getElem?_getD, List.getElem?_take_of_lt hlt, ← List.getD_eq_getElem?_getD]
        exact (hxx i row j x hi hj).stp hst)
    have hone : v'.oneCell' = true := by rcases hown.2 with ⟨h3, _⟩ | ⟨g, cap, cur, h3, _⟩ <;> rw [h3] <;> rfl
    refine ⟨v', w, .inl hrun, upd own k v', ?_⟩
    have := key.1.put_tm (d := d) (v := v') (by simpa using hd) (get_setO_self hk) (by rw [upd_eq]) hone
    rw [← setq_spec hq] at this
    exact this) kk
end
end Go.Ab

/- From nil to a slice whose elements may be written; interfaces; methods. -/
set_option linter.unusedVariables false
set_option linter.unusedSectionVars false
set_option linter.unusedSimpArgs false
namespace Go.Ab
open Go Go.RowKit

theorem Sub.tstm {k sz : Nat} : Sub (.ts k sz []) (.tm k 0) := fun w M own hw v h => by
  cases h with
  | ts h ho => exact .tm h.one fun n hn => ⟨Nat.zero_le _, fun e => (ho n hn).2 (by simpa using e)⟩

/-- An own slice without elements, of which elements may be written from now on. -/
theorem Le.arMu {P : Program} {cx : Cx} {n : Nat} {regs : List (Nat × AV)} {objs objs' : Obs} {k T sz : Nat} (hk : get objs k = some (.ar T sz 0)) (hq : setq objs k (.mu T sz 0 []) = some objs') :
    Le P cx n ⟨regs, objs⟩ ⟨regs, objs'⟩ := fun a w ⟨own, r⟩ => by
  have hmem := get_mem hk
  rw [setq_spec hq]
  have hMu : Mu cx.M0 own (setO objs k (.mu T sz 0 [])) = Mu cx.M0 own objs := by
    funext b i
    apply propext
    constructor
    · rintro (h | ⟨j, o, hj, hm⟩)
      · exact .inl h
      · rcases setO_mem r.ok.keys hj with ⟨rfl, rfl⟩ | ⟨_, h⟩
        · exact .inr ⟨j, _, hmem, hm, by simp⟩
        · exact .inr ⟨j, o, h, hm⟩
    · rintro (h | ⟨j, o, hj, hm⟩)
      · exact .inl h
      · by_cases e : j = k
        · subst e
          have := get_of_mem r.ok.keys hj
          rw [hk] at this
          cases this
          exact .inr ⟨j, _, setO_mem_eq hk, hm.1⟩
        · exact .inr ⟨j, o, setO_mem_ne e hj, hm⟩
  have hhw : hwOf (setO objs k (.mu T sz 0 [])) = hwOf objs := by
    funext j
    unfold hwOf
    rw [get_setO]
    cases hb : Nat.beq k j with
    | true => obtain rfl : k = j := Nat.eq_of_beq_eq_true hb; simp [hk]
    | false => simp
  have hget : ∀ {j o}, (j, o) ∈ setO objs k (.mu T sz 0 []) → ∃ o', (j, o') ∈ objs := fun {j o} hj => by
    rcases setO_mem r.ok.keys hj with ⟨rfl, _⟩ | ⟨_, h⟩
    · exact ⟨_, hmem⟩
    · exact ⟨_, h⟩
  refine ⟨own, { defs := r.defs, size := r.size, ok := ?_, regs := fun t x hx => by rw [hMu, hhw]; exact r.regs t x hx, stp := by rw [hMu]; exact r.stp, fix := fun j o hj => by rw [hhw]; exact r.fix j o hj, fr := r.fr.trans ⟨fun _ _ _ => rfl, fun j o b hj hb => ?_, Nat.le_refl _⟩ }⟩
  · refine { obs := fun j o hj => ?_, keys := by rw [setO_keys]; exact r.ok.keys, inj := fun j o j' o' hj hj' => ?_, m0 := fun j o b hj => ?_, m0old := r.ok.m0old }
    · rw [hMu, hhw]
      rcases setO_mem r.ok.keys hj with ⟨rfl, rfl⟩ | ⟨_, h⟩
      · obtain ⟨cells, hc⟩ := r.ok.obs j _ hmem
        exact ⟨cells, hc, by simp, by simp⟩
      · exact r.ok.obs j o h
    · obtain ⟨q, hq⟩ := hget hj
      obtain ⟨q', hq'⟩ := hget hj'
      exact r.ok.inj j q j' q' hq hq'
    · obtain ⟨q, hq⟩ := hget hj
      exact r.ok.m0 j q b hq
  · obtain ⟨q, hq⟩ := hget hj
    exact .inl ⟨j, q, hq, hb⟩

/-- A cell told as another value. -/
theorem Le.cell {P : Program} {cx : Cx} {n : Nat} {regs : List (Nat × AV)} {objs objs' : Obs} {q T : Nat} {cs cs' : List AV} (hk : get objs q = some (.ce T cs)) (hs : Subs cs cs') (hc : allCell cs' = true) (hq : setq objs q (.ce T cs') = some objs') :
    Le P cx n ⟨regs, objs⟩ ⟨regs, objs'⟩ := fun a w ⟨own, r⟩ => by
  have hmem := get_mem hk
  rw [setq_spec hq]
  have hlen : cs'.length = cs.length := by
    clear hk hc hq hmem
    induction hs with
    | nil => rfl
    | cons _ _ ih => simp [ih]
  have hsub : ∀ (j : Nat) (y : AV), cs'[j]? = some y → ∃ x, cs[j]? = some x ∧ Sub x y := by
    clear hk hc hq hmem hlen
    induction hs with
    | nil => intro j y h; simp at h
    | cons h1 _ ih =>
      intro j y hj
      cases j with
      | zero => simp at hj; subst hj; exact ⟨_, rfl, h1⟩
      | succ j => simpa using ih j y (by simpa using hj)
  have hMu : Mu cx.M0 own (setO objs q (.ce T cs')) = Mu cx.M0 own objs := by
    funext b i
    apply propext
    constructor
    · rintro (h | ⟨j, o, hj, hm⟩)
      · exact .inl h
      · rcases setO_mem r.ok.keys hj with ⟨rfl, rfl⟩ | ⟨_, h⟩
        · exact .inr ⟨j, _, hmem, hm⟩
        · exact .inr ⟨j, o, h, hm⟩
    · rintro (h | ⟨j, o, hj, hm⟩)
      · exact .inl h
      · by_cases e : j = q
        · subst e
          have := get_of_mem r.ok.keys hj
          rw [hk] at this
          cases this
          exact .inr ⟨j, _, setO_mem_eq hk, hm⟩
        · exact .inr ⟨j, o, setO_mem_ne e hj, hm⟩
  have hhw : hwOf (setO objs q (.ce T cs')) = hwOf objs := by funext j; exact hwOf_setO_ce hk j
  have hget : ∀ {j o}, (j, o) ∈ setO objs q (.ce T cs') → ∃ o', (j, o') ∈ objs := fun {j o} hj => by
    rcases setO_mem r.ok.keys hj with ⟨rfl, _⟩ | ⟨_, h⟩
    · exact ⟨_, hmem⟩
    · exact ⟨_, h⟩
  refine ⟨own, { defs := r.defs, size := r.size, ok := ?_, regs := fun t x hx => by rw [hMu, hhw]; exact r.regs t x hx, stp := by rw [hMu]; exact r.stp, fix := fun j o hj => by rw [hhw]; exact r.fix j o hj, fr := r.fr.trans ⟨fun _ _ _ => rfl, fun j o b hj hb => ?_, Nat.le_refl _⟩ }⟩
  · refine { obs := fun j o hj => ?_, keys := by rw [setO_keys]; exact r.ok.keys, inj := fun j o j' o' hj hj' => ?_, m0 := fun j o b hj => ?_, m0old := r.ok.m0old }
    · rw [hMu, hhw]
      rcases setO_mem r.ok.keys hj with ⟨rfl, rfl⟩ | ⟨_, h⟩
      · obtain ⟨b, vals, e1, e2, e3, e4⟩ := r.ok.obs j _ hmem
        refine ⟨b, vals, e1, e2, by rw [e3, hlen], fun i y hi => ⟨allCell_get hc i y hi, ?_⟩⟩
        obtain ⟨x, hx, hxy⟩ := hsub i y hi
        exact hxy _ _ _ _ _ (e4 i x hx).2
      · exact r.ok.obs j o h
    · obtain ⟨p, hp⟩ := hget hj
      obtain ⟨p', hp'⟩ := hget hj'
      exact r.ok.inj j p j' p' hp hp'
    · obtain ⟨p, hp⟩ := hget hj
      exact r.ok.m0 j p b hp
  · obtain ⟨p, hp⟩ := hget hj
    exact .inl ⟨j, p, hp, hb⟩

/-- A method of pointers. -/
structure MI (P : Program) (T : Nat) (name : String) (f : Nat) : Prop where
  h : ∀ (w : World) (b o : Nat) (args : Array Value), (callMethod (.iface T (.pointer (some ⟨b, o, none⟩))) name args).run P w = .ok (.enter f (#[.pointer (some ⟨b, o, none⟩)] ++ args)) w

section
variable {P : Program} {cx : Cx} {n : Nat} {Q : Exit → S → Prop} {regs : List (Nat × AV)} {objs : Obs} {ops : Array Oper} {rest : List Oper} {d : Nat} {pos : String} {aft : Array Edge} {ty : Nat}

theorem awl_mkifc {T : Nat} {x : Operand} {av : AV} (hT : P.concrete T = true) (hx : S.ev ⟨regs, objs⟩ x = some av) (hd : Nat.blt d n = true) (kk : AWl P cx n ops rest Q ⟨(d, .ifc T av) :: regs, objs⟩) :
    AWl P cx n ops (⟨some d, .makeInterface T x, ty, pos, aft, none⟩ :: rest) Q ⟨regs, objs⟩ :=
  awl_val (.ifc T av) rfl rfl (by simpa using hd) (fun a w own r => by
    refine ⟨.iface T (a.eval x), ?_, .ifc (r.ev hx)⟩
    simp only [execOp, Sem.run_bind, run_makeInterface w T _ hT, Result.andThen_ok, Sem.run_pure]) kk

/-- The text of a type assertion that holds. -/
theorem awl_assert {T X : Nat} {x : Operand} {av : AV} (hT : P.concrete T = true) (hx : S.ev ⟨regs, objs⟩ x = some (.ifc T av)) (hd : Nat.blt d n = true) (kk : AWl P cx n ops rest Q ⟨(d, .tp [av, .p (B true)]) :: regs, objs⟩) :
    AWl P cx n ops (⟨some d, .typeAssert x X T true, ty, pos, aft, none⟩ :: rest) Q ⟨regs, objs⟩ :=
  awl_val (.tp [av, .p (B true)]) rfl rfl (by simpa using hd) (fun a w own r => by
    have h := r.ev hx
    generalize hv : a.eval x = v at h
    cases h with
    | ifc h =>
      rename_i u
      refine ⟨.tuple [u, .bool true].toArray, ?_, .tp [u, .bool true] rfl fun j y hj => ?_⟩
      · have hc : (Instr.typeAssert (.iface T u) X T true).run P w = .ok (.tuple #[u, .bool true]) w := by
          unfold Program.concrete at hT
          cases hq : P.underlying T with
          | none => simp [hq] at hT
          | some dd => cases dd <;> first | (simp [hq] at hT; done) | simp [Instr.typeAssert, run_underlying hq]
        simp only [execOp, hv, Sem.run_bind, hc, Result.andThen_ok, Sem.run_pure]
      · match j with
        | 0 => simp at hj; subst hj; exact h
        | 1 => simp at hj; subst hj; exact .scal rfl
        | j + 2 => simp at hj) kk

/-- A method is called through an interface. -/
theorem awl_invoke {T f k off : Nat} {name : String} {rc : Operand} {l : List Operand} {ts : Array Nat} (mi : MI P T name f) (hf : FB P f) (hr : S.ev ⟨regs, objs⟩ rc = some (.ifc T (.ptr k off))) (hd0 : Nat.blt d n = true)
    {avs args : List AV} {sub : Obs} {R : AV → Obs → Prop} (ks : List Nat) (hx : evs ⟨regs, objs⟩ l = some avs) (hs : Subs (.ptr k off :: avs) args) (con : Con P f args sub R) (hsub : sel ks objs = sub)
    (kk : ∀ r objs', R r objs' → newOK ks ⟨regs, objs⟩ cx.objs0 objs' = true ∧ AWl P cx n ops rest Q ⟨(d, r) :: regs, objs' ++ oth ks objs⟩) :
    AWl P cx n ops (⟨some d, .call ⟨.invoke rc name, l.toArray, ts⟩, ty, pos, aft, none⟩ :: rest) Q ⟨regs, objs⟩ := fun a w ⟨own, r⟩ => by
  refine wpList_plain rfl fun K hK => ?_
  unfold Oper.wp
  have hrv : ∃ b, own k = .pointer (some ⟨b, 0, none⟩) ∧ a.eval rc = .iface T (.pointer (some ⟨b, off, none⟩)) := by
    have h := r.ev hr
    generalize a.eval rc = v at h
    cases h with
    | ifc h =>
      obtain ⟨b, hb, hv⟩ := h.ptr_inv
      exact ⟨b, hb, by rw [hv]⟩
  obtain ⟨b, hb, hrv⟩ := hrv
  have hrun : (execOp a.eval ⟨some d, .call ⟨.invoke rc name, l.toArray, ts⟩, ty, pos, aft, none⟩).run P w = .ok (.enter f (.pointer (some ⟨b, off, none⟩) :: l.map a.eval).toArray) w := by
    simp only [execOp, resolve, Sem.run_bind, Sem.run_pure, Result.andThen_ok, invoke, hrv]
    have e1 : (#[Value.iface T (.pointer (some ⟨b, off, none⟩))] ++ l.toArray.map a.eval)[0]? = some (Value.iface T (.pointer (some ⟨b, off, none⟩))) := by simp
    have e2 : (#[Value.iface T (.pointer (some ⟨b, off, none⟩))] ++ l.toArray.map a.eval).extract 1 (#[Value.iface T (.pointer (some ⟨b, off, none⟩))] ++ l.toArray.map a.eval).size = (l.map a.eval).toArray := by
      simp
      exact List.take_of_length_le (by simp)
    simp only [e1, e2]
    rw [mi.h w b off]
    simp
  rw [hrun, Oper.upon_enter]
  subst hsub
  have hMe : Mu (fun b i => cx.M0 b i ∨ ∃ k o, (k, o) ∈ oth ks objs ∧ mutOf o (own k) b i) own (sel ks objs) = Mu cx.M0 own objs := by
    funext b i
    apply propext
    constructor
    · rintro ((h | ⟨k, o, hk, hm⟩) | ⟨k, o, hk, hm⟩)
      · exact .inl h
      · exact .inr ⟨k, o, (oth_mem.1 hk).1, hm⟩
      · exact .inr ⟨k, o, (sel_mem.1 hk).1, hm⟩
    · rintro (h | ⟨k, o, hk, hm⟩)
      · exact .inl (.inl h)
      · by_cases h : k ∈ ks
        · exact .inr ⟨k, o, sel_mem.2 ⟨hk, h⟩, hm⟩
        · exact .inl (.inr ⟨k, o, oth_mem.2 ⟨hk, h⟩, hm⟩)
  have hok := r.ok.part (fun x h => (sel_sub ks objs).subset h) (((sel_sub ks objs).map _).nodup r.ok.keys) (fun b i => cx.M0 b i ∨ ∃ k o, (k, o) ∈ oth ks objs ∧ mutOf o (own k) b i)
    (fun b i h => by
      rcases h with h | ⟨k, o, hk, hm⟩
      · exact .inl h
      · exact .inr ⟨k, o, (oth_mem.1 hk).1, hm⟩)
    (fun k o b hk hb i h => by
      rcases h with h | ⟨k', o', hk', hm⟩
      · exact r.ok.m0 k o b (sel_mem.1 hk).1 hb i h
      · have h1 := sel_mem.1 hk
        have h2 := oth_mem.1 hk'
        exact r.ok.inj k o k' o' h1.1 h2.1 (fun e => h2.2 (e ▸ h1.2)) b hb (mutOf_blk hm))
  have hargs : ArgsOK w (Mu cx.M0 own objs) own (hwOf objs) args (.pointer (some ⟨b, off, none⟩) :: l.map a.eval) := by
    cases hs with
    | cons h1 h2 =>
      have h3 := evs_ok r hx h2
      refine ⟨by simp [h3.1], fun j x hj => ?_⟩
      cases j with
      | zero => simp at hj; subst hj; exact h1 _ _ _ _ _ (.ptr hb)
      | succ j => simpa using h3.2 j x (by simpa using hj)
  have harg' : ArgsOK w (Mu (fun b i => cx.M0 b i ∨ ∃ k o, (k, o) ∈ oth ks objs ∧ mutOf o (own k) b i) own (sel ks objs)) own (hwOf (sel ks objs)) args (.pointer (some ⟨b, off, none⟩) :: l.map a.eval) :=
    ⟨hargs.1, fun j x hj => (hargs.2 j x hj).part r.ok (fun x h => (sel_sub ks objs).subset h) hok.2⟩
  refine (con w _ own _ hok.1 harg').mono ?_
  rintro e w' ⟨x, objs', own', v, rfl, hR, h1, h2, h3, h4, h5, h6⟩
  obtain ⟨hnew, k2⟩ := kk x objs' hR
  rw [hMe] at h3
  obtain ⟨own'', r''⟩ := r.called ks (by simpa using hd0) hnew h1 h2 h3 h4 h5 h6
  exact hK _ _ (k2 _ _ ⟨own'', r''⟩)
end
end Go.Ab

/- Comparisons with nil; rests of small numbers; slices made. -/
set_option linter.unusedVariables false
set_option linter.unusedSectionVars false
set_option linter.unusedSimpArgs false
namespace Go.Ab
open Go Go.RowKit

section
variable {P : Program} {T : Nat} {x y : Operand}
theorem ptr_nil {p : Option Addr} {e : Nat} (h : P.underlying T = some (.pointer e)) : ∀ w, (do eqGuard .eql T x y (.pointer p) (.pointer none); binOp .eql T (.pointer p) (.pointer none) : Sem Value).run P w = .ok (.bool p.isNone) w := fun w => by
  have h1 : (eqGuard .eql T x y (.pointer p) (.pointer none)).run P w = .ok () w := by simp [eqGuard]
  have h2 : binOp .eql T (.pointer p) (.pointer none) = (do pure (.bool (← Op.equal T (.pointer p) (.pointer none)))) := rfl
  have h3 : (Op.equal T (.pointer p) (.pointer none)).run P w = .ok p.isNone w := by
    show (Op.equalIn (9999 + 1) T (.pointer p) (.pointer none)).run P w = _
    generalize 9999 = dd
    cases p <;> simp [Op.equalIn, run_underlying h]
  simp only [Sem.run_bind, h1, h2, h3, Result.andThen_ok, Sem.run_pure]
theorem pointer_eql {e : Nat} (h : P.underlying T = some (.pointer e)) : ∀ w, (do eqGuard .eql T x y (.pointer none) (.pointer none); binOp .eql T (.pointer none) (.pointer none) : Sem Value).run P w = .ok (.bool true) w := ptr_nil h
theorem func_nil {ps rs : Array TypeId} {vd : Bool} (h : P.underlying T = some (.func ps rs vd)) : ∀ w, (do eqGuard .eql T x y .nilFunc .nilFunc; binOp .eql T .nilFunc .nilFunc : Sem Value).run P w = .ok (.bool true) w := fun w => by
  have h1 : (eqGuard .eql T x y .nilFunc .nilFunc).run P w = .ok () w := by simp [eqGuard]
  have h2 : binOp .eql T .nilFunc .nilFunc = (do pure (.bool (← Op.equal T .nilFunc .nilFunc))) := rfl
  have h3 : (Op.equal T .nilFunc .nilFunc).run P w = .ok true w := by
    show (Op.equalIn (9999 + 1) T .nilFunc .nilFunc).run P w = _
    generalize 9999 = dd
    simp [Op.equalIn, run_underlying h]
  simp only [Sem.run_bind, h1, h2, h3, Result.andThen_ok, Sem.run_pure]
theorem slice_nil {a : Option Addr} {l c e : Nat} (h : P.underlying T = some (.slice e)) : ∀ w, (do eqGuard .eql T x y (.slice a l c) (.slice none 0 0); binOp .eql T (.slice a l c) (.slice none 0 0) : Sem Value).run P w = .ok (.bool a.isNone) w := fun w => by
  have h1 : (eqGuard .eql T x y (.slice a l c) (.slice none 0 0)).run P w = .ok () w := by simp [eqGuard]
  have h2 : binOp .eql T (.slice a l c) (.slice none 0 0) = (do pure (.bool (← Op.equal T (.slice a l c) (.slice none 0 0)))) := rfl
  simp only [Sem.run_bind, h1, h2, run_equal_slice_nil w T e a l c h, Result.andThen_ok, Sem.run_pure]
theorem bin_rem_u8 {a b : Int} (h : 0 ≤ a ∧ a ≤ 255 ∧ 0 < b ∧ b ≤ 255) : ∀ w, (do eqGuard .rem T x y (.int .u8 a) (.int .u8 b); binOp .rem T (.int .u8 a) (.int .u8 b) : Sem Value).run P w = .ok (.int .u8 (a % b)) w := fun w => by
  have h1 : (eqGuard .rem T x y (.int .u8 a) (.int .u8 b)).run P w = .ok () w := rfl
  have h2 : binOp .rem T (.int .u8 a) (.int .u8 b) = Op.intDiv .rem .u8 a b := rfl
  have hb : ¬ b = 0 := by omega
  simp only [Sem.run_bind, h1, h2, Result.andThen_ok, Op.intDiv]
  have e1 : a.tmod b = a % b := Int.tmod_eq_emod_of_nonneg h.1
  rw [if_neg hb, e1]; rfl
end

section
variable {P : Program} {cx : Cx} {n : Nat} {Q : Exit → S → Prop} {regs : List (Nat × AV)} {objs : Obs} {ops : Array Oper} {rest : List Oper} {d : Nat} {pos : String} {aft : Array Edge} {ty : Nat}

theorem awl_ptr_nil {xT yT e k off : Nat} {x y : Operand} (hT : P.underlying xT = some (.pointer e)) (hx : S.ev ⟨regs, objs⟩ x = some (.ptr k off)) (hy : S.ev ⟨regs, objs⟩ y = some (.p (.v (.pointer none)))) (hd : Nat.blt d n = true) (kk : AWl P cx n ops rest Q ⟨(d, .p (B false)) :: regs, objs⟩) :
    AWl P cx n ops (⟨some d, .binOp .eql xT x y yT, ty, pos, aft, none⟩ :: rest) Q ⟨regs, objs⟩ :=
  awl_val (.p (B false)) rfl rfl (by simpa using hd) (fun a w own r => by
    obtain ⟨b, _, h1⟩ := (r.ev hx).ptr_inv
    have h2 := (r.ev hy).val
    have h3 := ptr_nil (x := x) (y := y) (p := some ⟨b, off, none⟩) hT w
    refine ⟨.bool false, ?_, .scal rfl⟩
    simp only [execOp, h1, h2, Sem.run_bind] at h3 ⊢
    rw [h3]; simp) kk

theorem awl_tm_nil {xT yT e k T sz ver : Nat} {x y : Operand} {xs : List (List PV)} (hT : P.underlying xT = some (.slice e)) (hx : S.ev ⟨regs, objs⟩ x = some (.tm k ver)) (hk : get objs k = some (.mu T sz ver xs)) (hy : S.ev ⟨regs, objs⟩ y = some (.p nilS)) (hd : Nat.blt d n = true)
    (kk : ∀ b : Bool, (b = true → xs = []) → AWl P cx n ops rest Q ⟨(d, .p (B b)) :: regs, objs⟩) :
    AWl P cx n ops (⟨some d, .binOp .eql xT x y yT, ty, pos, aft, none⟩ :: rest) Q ⟨regs, objs⟩ := fun a w ⟨own, r⟩ => by
  have hv := r.tm_val hk (r.ev hx)
  have h2 := (r.ev hy).val
  obtain ⟨cells, hc, _⟩ := r.mu_own hk
  obtain ⟨ad, cap, e1, _, _⟩ := ownsRow_hdr hc
  have h3 := slice_nil (x := x) (y := y) (a := ad) (l := xs.length) (c := cap) hT w
  refine wpList_plain rfl fun K hK => ?_
  unfold Oper.wp
  have hrun : (execOp a.eval ⟨some d, .binOp .eql xT x y yT, ty, pos, aft, none⟩).run P w = .ok (.value (.bool ad.isNone)) w := by
    simp only [execOp, hv, e1, h2, Sem.run_bind] at h3 ⊢
    rw [h3]; simp
  rw [hrun]
  refine hK _ _ (kk ad.isNone (fun hb => ?_) _ _ ⟨own, r.put_same (by simpa using hd) (.scal rfl)⟩)
  rcases hc.2 with ⟨_, h5⟩ | ⟨g, cap', cur, h5, _⟩
  · exact List.eq_nil_of_length_eq_zero h5
  · rw [e1] at h5; cases h5; simp at hb

/-- A slice of zeros. -/
theorem awl_make_m {T E bytes : Nat} {x : Operand} {kd : IntKind} {m : Nat} {z : Value} (si : SI P T E) (hi : (P.info? E).map (fun i => (i.size, i.bytes, i.zero)) = some (1, bytes, some z)) (hz : z.oneCell' = true) (hzc : z.cells = #[z]) (hx : S.ev ⟨regs, objs⟩ x = some (.p (.v (.int kd (m : Int))))) (hb : bytes * m ≤ 281474976710656) (h63 : m ≤ 9223372036854775807)
    (hf : fresh d ⟨regs, objs⟩ = true) (h0 : get cx.objs0 d = none) (hd : Nat.blt d n = true) (kk : AWl P cx n ops rest Q ⟨(d, .tm d 0) :: regs, (d, .mu E 1 0 (List.replicate m [.v z])) :: objs⟩) :
    AWl P cx n ops (⟨some d, .makeSlice T x x, ty, pos, aft, none⟩ :: rest) Q ⟨regs, objs⟩ :=
  awl_op rfl (fun a w own r => by
    have hv := (r.ev hx).val
    cases hq : P.info? E with
    | none => simp [hq] at hi
    | some i =>
      simp only [hq, Option.map_some, Option.some.injEq, Prod.mk.injEq] at hi
      obtain ⟨e1, e2, e3⟩ := hi
      obtain ⟨w', hr, hown, hg⟩ := run_make_full (P := P) w 0 T E i z 1 si.h hq e3 e1 kd kd m (by rw [e2]; exact hb) (by simp only [maxLen]; omega) (Nat.zero_le _)
      rw [hzc] at hown
      have hlen : (List.replicate m [PV.v z]).length = m := by simp
      have hcl : (madeCells #[z] (m * 1)).toList = List.replicate m z := by rw [Nat.mul_one]; exact toList_madeCells_one z m
      rw [hcl] at hown
      have key := r.newMu (vr := 0) (w' := w') d E 1 (List.replicate m [.v z]) (.slice (some ⟨w.heap.size, 0, none⟩) m m) (List.replicate m z) hf h0 (by rw [hlen]; exact hown) hg (fun b hb => by simp only [blk, Option.some.injEq] at hb; omega)
        (fun row hr => by rw [(List.mem_replicate.1 hr).2]; rfl)
        (fun _ q row j y hq hj => by
          have hqm : q < m := by have := (List.getElem?_eq_some_iff.1 hq).1; simpa using this
          simp only [List.getElem?_replicate, hqm, if_true, Option.some.injEq] at hq
          subst hq
          cases j with
          | zero =>
            simp at hj; subst hj
            have : (List.replicate m z).getD (q * 1 + 0) undef = z := by simp [List.getD_eq_getElem?_getD, hqm]
            rw [this]; exact .v hz
          | succ j => simp at hj)
      refine ⟨_, w', .inl ?_, _, key.1.put_tm (d := d) (k := d) (T := E) (sz := 1) (ver := 0) (xs := List.replicate m [.v z]) (by simpa using hd) (by simp [get, Nat.beq_refl]) (by rw [upd_eq]) rfl⟩
      simp only [execOp, hv, hr, Sem.run_bind, Result.andThen_ok, Sem.run_pure]) kk
theorem x_invoke {T f k off : Nat} {name : String} {rc : Operand} {l : List Operand} {ts : Array Nat} {avs args : List AV} {sub o2 : Obs} {R : AV → Obs → Prop} (mi : MI P T name f) (ks : List Nat) (hf : FB P f) (hr : S.ev ⟨regs, objs⟩ rc = some (.ifc T (.ptr k off))) (hx : evs ⟨regs, objs⟩ l = some avs) (hsub : selq ks objs = some sub) (ho : othq ks objs = some o2) (con : Con P f args sub R) (hs : Subs (.ptr k off :: avs) args) (hd : Nat.blt d n = true)
    (kk : ∀ r objs', R r objs' → newOK ks ⟨regs, objs⟩ cx.objs0 objs' = true ∧ ∃ o3, appq objs' o2 = some o3 ∧ AWl P cx n ops rest Q ⟨(d, r) :: regs, o3⟩) :
    AWl P cx n ops (⟨some d, .call ⟨.invoke rc name, l.toArray, ts⟩, ty, pos, aft, none⟩ :: rest) Q ⟨regs, objs⟩ :=
  awl_invoke mi hf hr hd ks hx hs con (selq_spec hsub).symm fun r objs' hR => by
    obtain ⟨h1, o3, h2, h3⟩ := kk r objs' hR
    refine ⟨h1, ?_⟩
    rw [← othq_spec ho, ← appq_spec h2]; exact h3
end
end Go.Ab
