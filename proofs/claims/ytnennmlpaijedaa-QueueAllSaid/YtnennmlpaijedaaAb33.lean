/- Remainders of any numbers; a function's value is not nil. -/
import Derived.Test.YtnennmlpaijedaaAb32
set_option linter.unusedVariables false
set_option linter.unusedSectionVars false
set_option linter.unusedSimpArgs false
namespace Go.Ab
open Go Go.RowKit

section
variable {P : Program} {T : Nat} {x y : Operand} {a b : Int}
theorem bin_remt (hb : ¬ b = 0) : ∀ w, (do eqGuard .rem T x y (.int .i64 a) (.int .i64 b); binOp .rem T (.int .i64 a) (.int .i64 b) : Sem Value).run P w = .ok (.int .i64 (a.tmod b)) w := fun w => by
  have h1 : (eqGuard .rem T x y (.int .i64 a) (.int .i64 b)).run P w = .ok () w := rfl
  have h2 : binOp .rem T (.int .i64 a) (.int .i64 b) = Op.intDiv .rem .i64 a b := rfl
  simp only [Sem.run_bind, h1, h2, Result.andThen_ok, Op.intDiv]
  rw [if_neg hb]; rfl
end

section
variable {P : Program} {cx : Cx} {n : Nat} {Q : Exit → S → Prop} {regs : List (Nat × AV)} {objs : Obs} {ops : Array Oper} {rest : List Oper} {d : Nat} {pos : String} {aft : Array Edge} {ty : Nat}

theorem awl_fv_nil {xT yT f : Nat} {x y : Operand} {first caps : List AV} {ps rs : Array TypeId} {vd : Bool} (hT : P.underlying xT = some (.func ps rs vd)) (hx : S.ev ⟨regs, objs⟩ x = some (.fv (.func f) first caps)) (hy : S.ev ⟨regs, objs⟩ y = some (.p (.v .nilFunc))) (hd : Nat.blt d n = true) (kk : AWl P cx n ops rest Q ⟨(d, .p (B false)) :: regs, objs⟩) :
    AWl P cx n ops (⟨some d, .binOp .eql xT x y yT, ty, pos, aft, none⟩ :: rest) Q ⟨regs, objs⟩ :=
  awl_val (.p (B false)) rfl rfl (by simpa using hd) (fun a w own r => by
    have h := r.ev hx
    have h2 := (r.ev hy).val
    generalize hv : a.eval x = v at h
    cases h with
    | fv vf vc g1 g2 g3 g4 =>
      have q1 : (eqGuard .eql xT x y (.func (.func f) vf.toArray vc.toArray) .nilFunc).run P w = .ok () w := by simp [eqGuard]
      have q2 : binOp .eql xT (.func (.func f) vf.toArray vc.toArray) .nilFunc = (do pure (.bool (← Op.equal xT (.func (.func f) vf.toArray vc.toArray) .nilFunc))) := rfl
      have q3 : (Op.equal xT (.func (.func f) vf.toArray vc.toArray) .nilFunc).run P w = .ok false w := by
        show (Op.equalIn (9999 + 1) xT (.func (.func f) vf.toArray vc.toArray) .nilFunc).run P w = _
        generalize 9999 = dd
        simp [Op.equalIn, run_underlying hT]
      refine ⟨.bool false, ?_, .scal rfl⟩
      simp only [execOp, hv, h2, Sem.run_bind, q1, q2, q3, Result.andThen_ok, Sem.run_pure]) kk
end
end Go.Ab
