/- More operators: conversions of whole numbers, Bools compared, strings compared. -/
import Derived.Test.YtnennmlpaijedaaAb15
import Derived.Laws.Small
set_option linter.unusedVariables false
set_option linter.unusedSectionVars false
set_option linter.unusedSimpArgs false
namespace Go.Ab
open Go Go.RowKit

section
variable {P : Program} {T src dst : Nat} {x y : Operand} {a b n : Int} {k k' : IntKind} {p q : Bool}

theorem conv_w {d : TypeDesc} (hs : P.underlying src = some d) (hd : P.underlying dst = some (.int k)) : ∀ w, (convert src dst (.int k' n)).run P w = .ok (.int k (k.wrap n)) w := fun w => by
  simp only [convert, Sem.run_bind, run_underlying hs w, run_underlying hd w, Result.andThen_ok]
  cases d <;> rfl
theorem conv_i {d : TypeDesc} (hs : P.underlying src = some d) (hd : P.underlying dst = some (.int .i64)) (h : -9223372036854775808 ≤ n ∧ n ≤ 9223372036854775807) : ∀ w, (convert src dst (.int k' n)).run P w = .ok (.int .i64 n) w := fun w => by
  rw [conv_w hs hd w, wrap64_id h]

theorem bool_eql (hu : P.underlying T = some .bool) : ∀ w, (do eqGuard .eql T x y (.bool p) (.bool q); binOp .eql T (.bool p) (.bool q) : Sem Value).run P w = .ok (.bool (p == q)) w := fun w => by
  have h1 : (eqGuard .eql T x y (.bool p) (.bool q)).run P w = .ok () w := by simp [eqGuard]
  have h2 : binOp .eql T (.bool p) (.bool q) = (do pure (.bool (← Op.equal T (.bool p) (.bool q)))) := rfl
  simp only [Sem.run_bind, h1, h2, Result.andThen_ok, run_equal_bool w T p q hu, Sem.run_pure]
theorem bool_neq (hu : P.underlying T = some .bool) : ∀ w, (do eqGuard .neq T x y (.bool p) (.bool q); binOp .neq T (.bool p) (.bool q) : Sem Value).run P w = .ok (.bool (!(p == q))) w := fun w => by
  have h1 : (eqGuard .neq T x y (.bool p) (.bool q)).run P w = .ok () w := by simp [eqGuard]
  have h2 : binOp .neq T (.bool p) (.bool q) = (do pure (.bool (!(← Op.equal T (.bool p) (.bool q))))) := rfl
  simp only [Sem.run_bind, h1, h2, Result.andThen_ok, run_equal_bool w T p q hu, Sem.run_pure]
end

section
variable {P : Program} {cx : Cx} {n : Nat} {Q : Exit → S → Prop} {regs : Regs} {objs : Obs}
/-- Behind a piece of code only this is kept: a register holds whether F; these registers stand. -/
theorem awp_fml {c : Code} (t : Nat) (F : Prop) [Decidable F] (stat : Regs) (hl : Look regs stat)
    (h : AWp P cx n c (fun e s => e = .normal ∧ ∃ b : Bool, (b = true ↔ F) ∧ Le P cx n s ⟨(t, .p (B b)) :: stat, objs⟩) ⟨regs, objs⟩) (k : Q .normal ⟨(t, .p (B (decide F))) :: stat, objs⟩) : AWp P cx n c Q ⟨regs, objs⟩ := fun a w r => by
  refine wp_mono (h a w r) ?_
  rintro e a' w' ⟨s, hr, rfl, b, hb, hle⟩
  have e1 : b = decide F := by
    cases b with
    | true => exact (decide_eq_true (hb.1 rfl)).symm
    | false => exact (decide_eq_false fun hf => by have := hb.2 hf; cases this).symm
  subst e1
  exact ⟨_, hle a' w' hr, k⟩
end
end Go.Ab
