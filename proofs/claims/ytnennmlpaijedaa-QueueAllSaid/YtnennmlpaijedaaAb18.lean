/- Shifts, the last bit, conversions to what has no sign. -/
import Derived.Test.YtnennmlpaijedaaAb17
set_option linter.unusedVariables false
set_option linter.unusedSectionVars false
set_option linter.unusedSimpArgs false
namespace Go.Ab
open Go Go.RowKit

section
variable {P : Program} {T src dst : Nat} {x y : Operand} {a b n : Int} {k k' : IntKind}

theorem bin_shr (h0 : 0 ≤ b ∧ b ≤ 64) : ∀ w, (do eqGuard .shr T x y (.int .i64 a) (.int k' b); binOp .shr T (.int .i64 a) (.int k' b) : Sem Value).run P w = .ok (.int .i64 (a / 2 ^ b.toNat)) w := fun w => by
  have h1 : (eqGuard .shr T x y (.int .i64 a) (.int k' b)).run P w = .ok () w := rfl
  have h2 : binOp .shr T (.int .i64 a) (.int k' b) = Op.shift .shr .i64 a k' b := rfl
  simp only [Sem.run_bind, h1, h2, Result.andThen_ok]
  rw [shift_shr .i64 k' a b h0.1 (by simp [IntKind.bits]; omega)]
  rfl
theorem wraps_i64 (n : Int) (h₀ : 0 ≤ n) (h₁ : n < 2 ^ 63) : IntKind.i64.wrap n = n := by rw [IntKind.wrap_i64]; omega
theorem bin_and1 (h0 : 0 ≤ a ∧ a < 9223372036854775808) : ∀ w, (do eqGuard .and T x y (.int .i64 a) (.int .i64 1); binOp .and T (.int .i64 a) (.int .i64 1) : Sem Value).run P w = .ok (.int .i64 (a % 2)) w := fun w => by
  have h1 : (eqGuard .and T x y (.int .i64 a) (.int .i64 1)).run P w = .ok () w := rfl
  have h2 : binOp .and T (.int .i64 a) (.int .i64 1) = Op.intBits .and .i64 a 1 := rfl
  simp only [Sem.run_bind, h1, h2, Result.andThen_ok]
  have h3 := bits_mask .i64 63 (by decide) wraps_i64 1 (by decide) a h0.1 (by omega)
  simp only [Op.intBits]
  have h4 : bits .and .i64 a 1 = a % 2 := by simpa using h3
  unfold bits at h4
  simp only at h4
  rw [h4]; rfl
theorem conv_u {d : TypeDesc} (hs : P.underlying src = some d) (hd : P.underlying dst = some (.int .u64)) (h : 0 ≤ n ∧ n ≤ 9223372036854775807) : ∀ w, (convert src dst (.int k' n)).run P w = .ok (.int .u64 n) w := fun w => by
  rw [conv_w hs hd w]
  have : IntKind.u64.wrap n = n := by simp [IntKind.wrap, IntKind.bits, IntKind.signed]; omega
  rw [this]
end
end Go.Ab
