/- Rows.LevelKeepsSaid: for every input, the law LevelKeeps returns true and leaves what it reads as it was. No condition. -/
import Derived.Test.YtfgndomaadikoaaRows
import Derived.Test.YtfgndomaadikoaaLvX
import Derived.Test.YtfgndomaadikoaaAbRd
namespace Go.Proofs.Ytfgndomaadikoaa.levelKeeps
open Go Go.Ab Go.Ab.Ytfgndomaadikoaa
open Go.ChangeShapes Go.WideShapes Go.ChangeAt Go.RowKit
open Go.ChangeMaps (open_string shut_string)
set_option linter.unusedVariables false

theorem own : ownKnob Try.prog.godebug = none := by kernel_rfl
theorem laidOut : laidOutB Try.prog = true := by kernel_rfl
theorem at4 : AT Try.prog 52 3 4 := ⟨Try.underlying3, by kernel_rfl, by kernel_rfl, Try.underlying52⟩
set_option maxRecDepth 100000 in
theorem lifted (os : Os) (started : os.Started) (H : Type) (enc : TypeId × Value → H) :
    ReturnsInHanded {} Try.checked os 11 .any (Rows.levelKeepsSpec.pre6 enc Try.prog Try.f11 Rows.levelKeepsRow.domain false) (Rows.levelKeepsSpec.post enc Try.prog Try.f11 false true false false) := by
  refine returnsInHanded_of_change (C := Try.checked) own started (by kernel_rfl) Try.func11
    (ChangeSpec.witness6 (enc := enc) (C := Try.checked) false ⟨#[], #[(.slice none 0 0), .agg #[(.int .i64 0), (.int .i64 0), (.int .i64 0), (.int .i64 0)]], []⟩ 8 (by kernel_rfl) (by kernel_rfl) (by kernel_rfl) (by kernel_rfl)) ?_
  intro W base args ds gs before hval0 hW hcnd _
  have hval : ∀ (j : Nat) t v, Try.f11.params[j]? = some t → args[j]? = some v → Value.okWide Try.prog W .any base t v := hval0
  have hW' := hW
  obtain ⟨p, q, hA0, hV, rfl, hfz, hnd⟩ := hW
  have hA : DataW.TrodAll enc Try.prog W 0 (fun _ => true) true Try.f11.params.toList args.toList ds p := hA0
  rw [Try.params11] at hA hval
  obtain ⟨v0, vs0, d0, ds0, p0, q0, hargs, rfl, rfl, h0, r0⟩ := trodAll_cons hA
  obtain ⟨v1, vs1, d1, ds1, p1, q1, rfl, rfl, rfl, h1, r1⟩ := trodAll_cons r0
  obtain ⟨rfl, rfl, rfl⟩ := trodAll_nil r1
  obtain rfl : args = #[v0, v1] := by cases args; simp_all
  obtain ⟨rfl, rfl⟩ := trodVars_none hV
  have k0 := h0
  have lt0 : ∀ x ∈ p0, x.block < W.heap.size := by obtain ⟨m, hm⟩ := k0; exact DataW.trod_lt m _ _ _ hm
  obtain ⟨x0, l0, c0, rfl⟩ := okWide_slice Try.underlying45 (hval 0 45 v0 rfl rfl)
  obtain ⟨u0, hu0⟩ := h0
  obtain ⟨u0, rfl⟩ : ∃ m, u0 = m + 1 := by cases u0 with | zero => simp [DataW.trod] at hu0 | succ m => exact ⟨m, rfl⟩
  obtain ⟨e0, a0, ee0, ok0, len0, rep0⟩ := read_slice (sz := 1) (R := fun n => (Lit.int .u8 n).wf = true) (row := fun n => [U8 n]) Try.underlying45 (by kernel_rfl) hu0 (fun cs y hy => by obtain ⟨n, e, hn⟩ := read_int Try.underlying5 hy; subst e; exact ⟨n, hn, rfl, fun j z hj => by cases j with | zero => simp at hj; subst hj; exact .v rfl | succ j => simp at hj⟩)
  obtain rfl : .slice x0 l0 c0 = e0 := by simpa [Value.cells] using ee0
  have k1 := h1
  have lt1 : ∀ x ∈ p1, x.block < W.heap.size := by obtain ⟨m, hm⟩ := k1; exact DataW.trod_lt m _ _ _ hm
  obtain ⟨c1, rfl, hs1⟩ := at4.open (hval 1 52 v1 rfl rfl)
  obtain ⟨u1, hu1⟩ := h1
  obtain ⟨l1, ll1, len1, rep1⟩ := read_arr (fuel := u1) at4 hu1
  obtain ⟨a1_0, a1_1, a1_2, a1_3, rfl⟩ : ∃ a b c d, l1 = [a, b, c, d] := by match l1, ll1 with | [a, b, c, d], _ => exact ⟨a, b, c, d, rfl⟩
  clear hA0 hval0
  refine (walk_of (LevelKeeps_con a0 a1_0 a1_1 a1_2 a1_3 (fun n hn => bounds_u8 (ok0 n hn)) (Int.le_trans (Int.ofNat_le.2 len0) (by decide))) W [.slice x0 l0 c0, .agg c1] (args_cons (arg_pv rep0) (args_cons (arg_row (row := [I a1_0, I a1_1, I a1_2, I a1_3]) len1 rep1) args_nil))).mono fun e W' ⟨he, bel⟩ => ?_
  subst he
  exact ⟨_, rfl, _, _, _, [], _, [], hW', trodAll_mk1 (shut_bool Try.underlying4 _), (trodAll_cons_mk (Below.trod laidOut (by kernel_rfl) (of_decide_eq_true (by kernel_rfl)) k0 bel lt0) (trodAll_cons_mk (Below.trod laidOut (by kernel_rfl) (of_decide_eq_true (by kernel_rfl)) k1 bel lt1) trodAll_mk0)), rfl, bel.frame _, fun h => by cases h⟩
theorem over : Rows.levelKeepsRow.holds Try.pinned (OpenSpec.ofChange Rows.levelKeepsSpec) :=
  OpenClaim.holds_of_wide 11 Try.f11 rfl rfl rfl rfl rfl rfl rfl ⟨rfl, rfl, rfl, rfl, rfl⟩ rfl rfl rfl rfl rfl (by kernel_rfl) Try.func11 (by kernel_rfl)
    (of_decide_eq_true (by kernel_rfl)) (by unfold Func.isWrapper; first | (rw [if_pos (by decide +kernel)]; kernel_rfl) | (rw [if_neg (by decide +kernel)]; exact ⟨rfl, rfl⟩))
    (fun os started H enc _ => lifted os started H enc)
end Go.Proofs.Ytfgndomaadikoaa.levelKeeps
namespace Go.Proofs.Ytfgndomaadikoaa
/-- The row, under a short name, for the claim. -/
theorem levelKeeps_holds : Rows.LevelKeepsSaid := levelKeeps.over
#print axioms levelKeeps_holds
end Go.Proofs.Ytfgndomaadikoaa
