/- A nil register as a slice whose elements may be written; steps at the end. -/
import Derived.Test.YtnennmlpaijedaaAb30
set_option linter.unusedVariables false
set_option linter.unusedSectionVars false
set_option linter.unusedSimpArgs false
namespace Go.Ab
open Go Go.RowKit

theorem ends_le {P : Program} {cx : Cx} {n : Nat} {fn : Func} {R : AV → Obs → Prop} {s s' : S} (h : Le P cx n s s') (k : Ends P cx n fn R s') : Ends P cx n fn R s := fun a w own r => by
  obtain ⟨own', r'⟩ := h a w ⟨own, r⟩
  exact k a w own' r'

theorem Le.nilMu {P : Program} {cx : Cx} {n : Nat} {regs : List (Nat × AV)} {objs : Obs} (t k T sz vr : Nat) (hx : get regs t = some (.p nilS)) (hf : fresh k ⟨regs, objs⟩ = true) (h0 : get cx.objs0 k = none) :
    Le P cx n ⟨regs, objs⟩ ⟨(t, .tm k vr) :: regs, (k, .mu T sz vr []) :: objs⟩ := fun a w ⟨own, r⟩ => by
  have key := r.newMu (vr := vr) (w' := w) k T sz [] (.slice none 0 0) [] hf h0 ⟨by simp, .inl ⟨rfl, rfl⟩⟩ (World.grownBy.refl w _) (fun b hb => by simp [blk] at hb) (by simp) (by simp)
  refine ⟨_, { defs := key.1.defs, size := key.1.size, ok := key.1.ok, regs := fun u x hx' => ?_, stp := key.1.stp, fix := key.1.fix, fr := key.1.fr }⟩
  simp only [get] at hx'
  cases hb : Nat.beq t u with
  | false => rw [hb] at hx'; exact key.1.regs u x hx'
  | true =>
    obtain rfl : t = u := Nat.eq_of_beq_eq_true hb
    rw [hb] at hx'
    simp at hx'
    subst hx'
    have hv := (r.regs t _ hx).val
    rw [hv]
    refine .tm rfl fun q hq => ?_
    have : hwOf ((k, Ob.mu T sz vr []) :: objs) k = some vr := by simp [hwOf, get, Nat.beq_refl]
    rw [this] at hq; cases hq
    exact ⟨Nat.le_refl _, fun _ => by rw [upd_eq]⟩
theorem newOK_fresh {ks : List Nat} {s : S} {objs0 : Obs} {k0 : Nat} {o0 : Ob} {rest : Obs} (hf : freshR k0 s.regs = true) (hfo : freshO k0 s.objs = true) (h0 : get objs0 k0 = none) (hr : newOK ks s objs0 rest = true) : newOK ks s objs0 ((k0, o0) :: rest) = true := by
  simp only [newOK, fresh, hf, hfo, h0, hr, Bool.and_self, Bool.or_true]

section
variable {P : Program} {cx : Cx} {n : Nat} {ops : Array Oper} {gens exs : List Nat} {keys : List (Nat × Nat)} {och : List Nat → Obs} {E : Regs → Prop} {o : Oper} {rest : List Oper} {regs : Regs} {k : Nat}

def atK (P : Program) (cx : Cx) (n : Nat) (ops : Array Oper) (o : Oper) (gens : List Nat) (och : List Nat → Obs) (k : Nat) (d : Option Nat) (key : Nat) (x : AV) (lk : Regs) : List (List Nat) → Prop
  | [] => True
  | L :: r => (∀ regs', freshR key (lk ++ regs') = true → AWl P cx n ops [o] (fun e s1 => e = .normal ∧ ∃ r2, agr r2 (putd d x (lk ++ regs')) ∧ Le P cx n s1 ⟨r2, och (nextS gens L k)⟩) ⟨lk ++ regs', och L⟩) ∧ atK P cx n ops o gens och k d key x lk r
theorem atK_mem {d : Option Nat} {key : Nat} {x : AV} {lk : Regs} : ∀ {cs : List (List Nat)}, atK P cx n ops o gens och k d key x lk cs → ∀ L ∈ cs, ∀ regs', freshR key (lk ++ regs') = true → AWl P cx n ops [o] (fun e s1 => e = .normal ∧ ∃ r2, agr r2 (putd d x (lk ++ regs')) ∧ Le P cx n s1 ⟨r2, och (nextS gens L k)⟩) ⟨lk ++ regs', och L⟩
  | L :: r, h, L', hm => by
    rcases List.mem_cons.1 hm with rfl | hm
    · exact h.1
    · exact atK_mem h.2 L' hm
theorem freshR_app {d : Nat} : ∀ {l r : Regs}, freshR d l = true → freshR d r = true → freshR d (l ++ r) = true
  | [], r, _, h => h
  | (t, x) :: l, r, h1, h2 => by
    simp only [freshR, Bool.and_eq_true, List.cons_append] at h1 ⊢
    exact ⟨h1.1, freshR_app h1.2 h2⟩

/-- An operation that makes an object, whose key no other value names yet. -/
theorem awd_k {d : Option Nat} (key : Nat) (cs : List (List Nat)) (lk : Regs) (hl : Look regs lk) (ho : ops[k]? = some o) (hk : looks lk o ops = true) (hd : o.dst = d) (hc : consS .any ops gens k = cs) (hkey : keys.contains (k, key) = true) (hlk : freshR key lk = true)
    (h : ∃ x, atK P cx n ops o gens och k d key x lk cs ∧ noAll ops keys k x = true ∧ AWd (YS P cx n .any ops gens exs keys och) E (k + 1) rest (putd d x regs)) : AWd (YS P cx n .any ops gens exs keys och) E k (o :: rest) regs := by
  obtain ⟨x, h, hno, kk⟩ := h
  subst hd
  refine ⟨x, fun o' ho' => ⟨noAll_spec hno, fun L hL r' hr' hf a w hr => ?_⟩, kk⟩
  rw [ho] at ho'; cases ho'
  have hfr := hf (k, key) (by simpa using hkey) rfl
  have hE : agr r' (lk ++ r') := fun t => by
    by_cases ht : t ∈ lk.map (·.1)
    · simp only [looks, Bool.and_eq_true] at hk
      have h3 := List.all_eq_true.1 hk.2 t ht
      rw [get_append_in ht, hl.get t ht]
      exact hr' t (.inr (by simpa using h3))
    · rw [get_append_out ht]
  have hEv : Eqv ⟨r', och L⟩ ⟨lk ++ r', och L⟩ := ⟨hE, rfl⟩
  have := atK_mem h L (hc ▸ hL) r' (freshR_app hlk hfr) a w (hEv.rel hr)
  refine wpl_mono this ?_ (fun ⟨_, _, _, _, h4, _⟩ => by cases h4)
  rintro e a1 w1 ⟨s1, q1, q2, r2, q3, q4⟩
  exact ⟨_, q1, q2, r2, fun t => (q3 t).trans ((agr_putd (fun t => (hE t).symm) _ _) t), q4⟩
end
end Go.Ab
