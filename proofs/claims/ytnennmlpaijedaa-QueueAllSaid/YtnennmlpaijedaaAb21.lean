/- An empty slice of one's own, made in a region whose order is drawn; division. -/
import Derived.Test.YtnennmlpaijedaaAb20
set_option linter.unusedVariables false
set_option linter.unusedSectionVars false
set_option linter.unusedSimpArgs false
namespace Go.Ab
open Go Go.RowKit

section
variable {P : Program} {cx : Cx} {n : Nat} {ops : Array Oper} {gens exs : List Nat} {keys : List (Nat × Nat)} {och : List Nat → Obs} {E : Regs → Prop} {rest : List Oper} {regs : Regs} {k : Nat}

theorem awd_newsl {T El sz bytes d : Nat} {ty : Nat} {pos : String} {aft : Array Edge} (cs : List (List Nat)) (si : SI P T El) (ei : EI P El sz bytes) (hdn : Nat.blt d n = true) (h0 : get cx.objs0 d = none) (ho : ops[k]? = some ⟨some d, .buildSlice T 0 ([] : List (Nat × Operand)).toArray, ty, pos, aft, none⟩) (hkey : keys.contains (k, d) = true)
    (hc : consS .any ops gens k = cs) (hfo : (cs.all fun L => freshO d (och L)) = true) (hno : noAll ops keys k (.ts d sz []) = true)
    (hle : leC gens och k d (.ar El sz 0) cs)
    (kk : AWd (YS P cx n .any ops gens exs keys och) E (k + 1) rest ((d, .ts d sz []) :: regs)) : AWd (YS P cx n .any ops gens exs keys och) E k (⟨some d, .buildSlice T 0 ([] : List (Nat × Operand)).toArray, ty, pos, aft, none⟩ :: rest) regs := by
  refine ⟨.ts d sz [], fun o' ho' => ⟨noAll_spec hno, fun L hL r' hr' hf => ?_⟩, kk⟩
  rw [ho] at ho'; cases ho'
  rw [hc] at hL
  have hfr := hf (k, d) (by simpa using hkey) rfl
  refine awl_slice_own (len := 0) (parts := []) (rows := []) si ei rfl rfl (by simp) (by simp only [fresh, Bool.and_eq_true]; exact ⟨hfr, List.all_eq_true.1 hfo L hL⟩) h0 hdn (awl_nil ⟨rfl, _, fun _ => rfl, ?_⟩)
  exact Le.objs (leC_mem hle L hL).1 (leC_mem hle L hL).2
end

section
variable {P : Program} {T : Nat} {x y : Operand} {a b : Int}
theorem bin_rem (h : 0 ≤ a ∧ a ≤ 9223372036854775807 ∧ 0 < b ∧ b ≤ 9223372036854775807) : ∀ w, (do eqGuard .rem T x y (.int .i64 a) (.int .i64 b); binOp .rem T (.int .i64 a) (.int .i64 b) : Sem Value).run P w = .ok (.int .i64 (a % b)) w := fun w => by
  have h1 : (eqGuard .rem T x y (.int .i64 a) (.int .i64 b)).run P w = .ok () w := rfl
  have h2 : binOp .rem T (.int .i64 a) (.int .i64 b) = Op.intDiv .rem .i64 a b := rfl
  have hb : ¬ b = 0 := by omega
  simp only [Sem.run_bind, h1, h2, Result.andThen_ok, Op.intDiv]
  have e1 : a.tmod b = a % b := Int.tmod_eq_emod_of_nonneg h.1
  rw [if_neg hb, e1]; rfl
end
end Go.Ab
