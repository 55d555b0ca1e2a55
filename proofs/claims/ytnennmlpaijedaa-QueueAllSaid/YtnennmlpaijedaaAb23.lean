/- Quotients; the greatest of four. -/
import Derived.Test.YtnennmlpaijedaaAb22
set_option linter.unusedVariables false
set_option linter.unusedSectionVars false
set_option linter.unusedSimpArgs false
namespace Go.Ab
open Go Go.RowKit

section
variable {P : Program} {T : Nat} {x y : Operand} {a b : Int}
theorem bin_quo (h : 0 ≤ a ∧ a ≤ 9223372036854775807 ∧ 0 < b ∧ b ≤ 9223372036854775807) : ∀ w, (do eqGuard .quo T x y (.int .i64 a) (.int .i64 b); binOp .quo T (.int .i64 a) (.int .i64 b) : Sem Value).run P w = .ok (.int .i64 (a / b)) w := fun w => by
  have h1 : (eqGuard .quo T x y (.int .i64 a) (.int .i64 b)).run P w = .ok () w := rfl
  have h2 : binOp .quo T (.int .i64 a) (.int .i64 b) = Op.intDiv .quo .i64 a b := rfl
  have hb : ¬ b = 0 := by omega
  have e1 : a.tdiv b = a / b := Int.tdiv_eq_ediv_of_nonneg h.1
  have h3 : 0 ≤ a / b := Int.ediv_nonneg h.1 (by omega)
  have h4 : a / b ≤ a := Int.ediv_le_self b h.1
  simp only [Sem.run_bind, h1, h2, Result.andThen_ok, Op.intDiv]
  rw [if_neg hb, e1]
  have : IntKind.i64.wrap (a / b) = a / b := wrap64_id ⟨by omega, by omega⟩
  simp [this]
end
section
variable {P : Program} {cx : Cx} {n : Nat} {Q : Exit → S → Prop} {regs : List (Nat × AV)} {objs : Obs} {ops : Array Oper} {rest : List Oper} {d : Nat} {pos : String} {aft : Array Edge} {ty : Nat}
theorem awl_max4 {rty : Nat} {x y z u : Operand} {k : IntKind} {p q r s : Int} {ts : Array Nat} (hx : S.ev ⟨regs, objs⟩ x = some (.p (.v (.int k p)))) (hy : S.ev ⟨regs, objs⟩ y = some (.p (.v (.int k q)))) (hz : S.ev ⟨regs, objs⟩ z = some (.p (.v (.int k r)))) (hu : S.ev ⟨regs, objs⟩ u = some (.p (.v (.int k s)))) (hd : Nat.blt d n = true)
    (kk : AWl P cx n ops rest Q ⟨(d, .p (.v (.int k (max (max (max p q) r) s)))) :: regs, objs⟩) :
    AWl P cx n ops (⟨some d, .call ⟨.builtin .max, #[x, y, z, u], ts⟩, rty, pos, aft, none⟩ :: rest) Q ⟨regs, objs⟩ :=
  awl_val (.p (.v (.int k (max (max (max p q) r) s)))) rfl rfl (by simpa using hd) (fun a w own ro => by
    have h1 := (ro.ev hx).val
    have h2 := (ro.ev hy).val
    have h3 := (ro.ev hz).val
    have h4 := (ro.ev hu).val
    have e : ∀ a b : Int, (if b > a then b else a) = max a b := fun a b => by split <;> omega
    refine ⟨.int k (max (max (max p q) r) s), ?_, .scal rfl⟩
    simp [execOp, resolve, invoke, builtin, h1, h2, h3, h4, Builtin.max_, Builtin.max2, e]) kk
end
end Go.Ab
