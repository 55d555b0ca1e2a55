/- Rows.LevelLeqSaid: for every input, the law LevelLeq returns true and leaves what it reads as it was. No condition. -/
import Derived.Test.YtfgndomaadikoaaRows
import Derived.Test.YtfgndomaadikoaaLvT
import Derived.Test.YtfgndomaadikoaaAbRd
namespace Go.Proofs.Ytfgndomaadikoaa.levelLeq
open Go Go.Ab Go.Ab.Ytfgndomaadikoaa
open Go.ChangeShapes Go.WideShapes Go.ChangeAt Go.RowKit
open Go.ChangeMaps (open_string shut_string)
set_option linter.unusedVariables false

theorem own : ownKnob Try.prog.godebug = none := by kernel_rfl
theorem laidOut : laidOutB Try.prog = true := by kernel_rfl
theorem lt : LT Try.prog 39 24 3 := ⟨Try.underlying3, Try.underlying24, by kernel_rfl, by kernel_rfl, by kernel_rfl, ⟨_, _, _, Try.underlying39, rfl, rfl, rfl, rfl, rfl, rfl⟩⟩
set_option maxRecDepth 100000 in
theorem lifted (os : Os) (started : os.Started) (H : Type) (enc : TypeId × Value → H) :
    ReturnsInHanded {} Try.checked os 7 .any (Rows.levelLeqSpec.pre6 enc Try.prog Try.f7 Rows.levelLeqRow.domain false) (Rows.levelLeqSpec.post enc Try.prog Try.f7 false true false false) := by
  refine returnsInHanded_of_change (C := Try.checked) own started (by kernel_rfl) Try.func7
    (ChangeSpec.witness6 (enc := enc) (C := Try.checked) false ⟨#[], #[.agg #[(.int .i64 0), (.int .i64 0), (.slice none 0 0)], .agg #[(.int .i64 0), (.int .i64 0), (.slice none 0 0)], (.slice none 0 0), (.bool false)], []⟩ 8 (by kernel_rfl) (by kernel_rfl) (by kernel_rfl) (by kernel_rfl)) ?_
  intro W base args ds gs before hval0 hW hcnd _
  have hval : ∀ (j : Nat) t v, Try.f7.params[j]? = some t → args[j]? = some v → Value.okWide Try.prog W .any base t v := hval0
  have hW' := hW
  obtain ⟨p, q, hA0, hV, rfl, hfz, hnd⟩ := hW
  have hA : DataW.TrodAll enc Try.prog W 0 (fun _ => true) true Try.f7.params.toList args.toList ds p := hA0
  rw [Try.params7] at hA hval
  obtain ⟨v0, vs0, d0, ds0, p0, q0, hargs, rfl, rfl, h0, r0⟩ := trodAll_cons hA
  obtain ⟨v1, vs1, d1, ds1, p1, q1, rfl, rfl, rfl, h1, r1⟩ := trodAll_cons r0
  obtain ⟨v2, vs2, d2, ds2, p2, q2, rfl, rfl, rfl, h2, r2⟩ := trodAll_cons r1
  obtain ⟨v3, vs3, d3, ds3, p3, q3, rfl, rfl, rfl, h3, r3⟩ := trodAll_cons r2
  obtain ⟨rfl, rfl, rfl⟩ := trodAll_nil r3
  obtain rfl : args = #[v0, v1, v2, v3] := by cases args; simp_all
  obtain ⟨rfl, rfl⟩ := trodVars_none hV
  have k0 := h0
  have lt0 : ∀ x ∈ p0, x.block < W.heap.size := by obtain ⟨m, hm⟩ := k0; exact DataW.trod_lt m _ _ _ hm
  obtain ⟨c0, rfl, hs0⟩ := okWide_struct Try.underlying39 (hval 0 39 v0 rfl rfl)
  obtain ⟨u0, hu0⟩ := h0
  obtain ⟨a0, ok0, len0, rep0⟩ := read_lvl lt u0 _ _ hu0
  have k1 := h1
  have lt1 : ∀ x ∈ p1, x.block < W.heap.size := by obtain ⟨m, hm⟩ := k1; exact DataW.trod_lt m _ _ _ hm
  obtain ⟨c1, rfl, hs1⟩ := okWide_struct Try.underlying39 (hval 1 39 v1 rfl rfl)
  obtain ⟨u1, hu1⟩ := h1
  obtain ⟨a1, ok1, len1, rep1⟩ := read_lvl lt u1 _ _ hu1
  have k2 := h2
  have lt2 : ∀ x ∈ p2, x.block < W.heap.size := by obtain ⟨m, hm⟩ := k2; exact DataW.trod_lt m _ _ _ hm
  obtain ⟨x2, l2, c2, rfl⟩ := okWide_slice Try.underlying45 (hval 2 45 v2 rfl rfl)
  obtain ⟨u2, hu2⟩ := h2
  obtain ⟨u2, rfl⟩ : ∃ m, u2 = m + 1 := by cases u2 with | zero => simp [DataW.trod] at hu2 | succ m => exact ⟨m, rfl⟩
  obtain ⟨e2, a2, ee2, ok2, len2, rep2⟩ := read_slice (sz := 1) (R := fun n => (Lit.int .u8 n).wf = true) (row := fun n => [U8 n]) Try.underlying45 (by kernel_rfl) hu2 (fun cs y hy => by obtain ⟨n, e, hn⟩ := read_int Try.underlying5 hy; subst e; exact ⟨n, hn, rfl, fun j z hj => by cases j with | zero => simp at hj; subst hj; exact .v rfl | succ j => simp at hj⟩)
  obtain rfl : .slice x2 l2 c2 = e2 := by simpa [Value.cells] using ee2
  obtain ⟨a3, rfl, rfl, rfl⟩ := open_bool Try.underlying4 (hval 3 4 v3 rfl rfl) h3
  clear hA0 hval0
  refine (walk_of (LevelLeq_con a0 a1 a2 a3 (fun n hn => bounds_u8 (ok2 n hn)) (Int.le_trans (Int.ofNat_le.2 len2) (by decide))) W [.agg c0, .agg c1, .slice x2 l2 c2, .bool a3] (args_cons (arg_row (row := rowL a0) len0 rep0) (args_cons (arg_row (row := rowL a1) len1 rep1) (args_cons (arg_pv rep2) (args_cons (arg_v rfl) args_nil))))).mono fun e W' ⟨he, bel⟩ => ?_
  subst he
  exact ⟨_, rfl, _, _, _, [], _, [], hW', trodAll_mk1 (shut_bool Try.underlying4 _), (trodAll_cons_mk (Below.trod laidOut (by kernel_rfl) (of_decide_eq_true (by kernel_rfl)) k0 bel lt0) (trodAll_cons_mk (Below.trod laidOut (by kernel_rfl) (of_decide_eq_true (by kernel_rfl)) k1 bel lt1) (trodAll_cons_mk (Below.trod laidOut (by kernel_rfl) (of_decide_eq_true (by kernel_rfl)) k2 bel lt2) (trodAll_cons_mk (shut_bool Try.underlying4 _) trodAll_mk0)))), rfl, bel.frame _, fun h => by cases h⟩
theorem over : Rows.levelLeqRow.holds Try.pinned (OpenSpec.ofChange Rows.levelLeqSpec) :=
  OpenClaim.holds_of_wide 7 Try.f7 rfl rfl rfl rfl rfl rfl rfl ⟨rfl, rfl, rfl, rfl, rfl⟩ rfl rfl rfl rfl rfl (by kernel_rfl) Try.func7 (by kernel_rfl)
    (of_decide_eq_true (by kernel_rfl)) (by unfold Func.isWrapper; first | (rw [if_pos (by decide +kernel)]; kernel_rfl) | (rw [if_neg (by decide +kernel)]; exact ⟨rfl, rfl⟩))
    (fun os started H enc _ => lifted os started H enc)
end Go.Proofs.Ytfgndomaadikoaa.levelLeq
namespace Go.Proofs.Ytfgndomaadikoaa
/-- The row, under a short name, for the claim. -/
theorem levelLeq_holds : Rows.LevelLeqSaid := levelLeq.over
#print axioms levelLeq_holds
end Go.Proofs.Ytfgndomaadikoaa
