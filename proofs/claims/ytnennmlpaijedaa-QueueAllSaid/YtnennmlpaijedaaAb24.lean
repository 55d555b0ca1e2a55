/- What is new, and may be written over by others. -/
import Derived.Test.YtnennmlpaijedaaAb23
set_option linter.unusedVariables false
set_option linter.unusedSectionVars false
set_option linter.unusedSimpArgs false
namespace Go.Ab
open Go Go.RowKit

theorem Sub.fs {lo T : Nat} {x : PV} : Sub (.p (.fs lo T x)) (.p x) := fun _ _ _ _ _ h => by
  cases h with | p h => cases h with | fs h _ => exact .p h

/-- A slice of one's own, made behind the start, is a new one. -/
theorem Le.fr {P : Program} {cx : Cx} {n : Nat} {regs : List (Nat × AV)} {objs : Obs} {t k T sz m lo : Nat} {xs : List (List PV)} (hcx : cx.objs0 = []) (hlo : lo ≤ cx.w0.heap.size) (ht : get regs t = some (.ts k sz xs)) (hk : get objs k = some (.ar T sz m)) (hm : m = xs.length) :
    Le P cx n ⟨regs, objs⟩ ⟨(t, .p (.fs lo T (.sl sz xs))) :: regs, objs⟩ := fun a w ⟨own, r⟩ => by
  refine ⟨own, { defs := r.defs, size := r.size, ok := r.ok, regs := fun u x hx => ?_, stp := r.stp, fix := r.fix, fr := r.fr }⟩
  simp only [get] at hx
  cases hb : Nat.beq t u with
  | false => rw [hb] at hx; exact r.regs u x hx
  | true =>
    obtain rfl : t = u := Nat.eq_of_beq_eq_true hb
    rw [hb] at hx
    simp at hx
    subst hx
    have h := r.regs t _ ht
    have hmem := get_mem hk
    have hw : hwOf objs k = some m := by simp [hwOf, hk]
    obtain ⟨cells, hc⟩ := r.ok.obs k _ hmem
    generalize a.tmps.getD t undef = v at h
    cases h with
    | ts h ho =>
      have hv := (ho m hw).2 hm.symm
      refine .p (.fs h ?_)
      rcases hc.2 with ⟨h1, _⟩ | ⟨g, cap, cur, h1, _, h2, _⟩
      · exact .inl (by rw [hv, h1])
      · refine .inr ⟨g, m, cap, cur, by rw [hv, h1], ?_, h2⟩
        rcases r.fr.loc k _ g hmem (by rw [h1]; rfl) with ⟨_, _, hq, _⟩ | hq
        · rw [hcx] at hq; cases hq
        · omega
end Go.Ab
