/- Rows.QueueAllSaid: for every input, the law QueueAll returns true and leaves what it reads as it was. No condition. -/
import Derived.Test.YtnennmlpaijedaaRows
import Derived.Test.YtnennmlpaijedaaQuO
import Derived.Test.YtnennmlpaijedaaAbRd
namespace Go.Proofs.Ytnennmlpaijedaa.queueAll
open Go Go.Ab Go.Ab.Ytnennmlpaijedaa
open Go.ChangeShapes Go.WideShapes Go.ChangeAt Go.RowKit
open Go.ChangeMaps (open_string shut_string)
set_option linter.unusedVariables false

theorem own : ownKnob Try.prog.godebug = none := by kernel_rfl
theorem laidOut : laidOutB Try.prog = true := by kernel_rfl
theorem mt3 : MT3 Try.prog 31 3 := ⟨Try.underlying3, by kernel_rfl, by kernel_rfl, ⟨_, _, _, Try.underlying31, rfl, rfl, rfl, rfl, rfl, rfl⟩⟩
set_option maxRecDepth 100000 in
theorem lifted (os : Os) (started : os.Started) (H : Type) (enc : TypeId × Value → H) :
    ReturnsInHanded {} Try.checked os 3 .any (Rows.queueAllSpec.pre6 enc Try.prog Try.f3 Rows.queueAllRow.domain false) (Rows.queueAllSpec.post enc Try.prog Try.f3 false true false false) := by
  refine returnsInHanded_of_change (C := Try.checked) own started (by kernel_rfl) Try.func3
    (ChangeSpec.witness6 (enc := enc) (C := Try.checked) false ⟨#[], #[(.slice none 0 0)], []⟩ 8 (by kernel_rfl) (by kernel_rfl) (by kernel_rfl) (by kernel_rfl)) ?_
  intro W base args ds gs before hval0 hW hcnd _
  have hval : ∀ (j : Nat) t v, Try.f3.params[j]? = some t → args[j]? = some v → Value.okWide Try.prog W .any base t v := hval0
  have hW' := hW
  obtain ⟨p, q, hA0, hV, rfl, hfz, hnd⟩ := hW
  have hA : DataW.TrodAll enc Try.prog W 0 (fun _ => true) true Try.f3.params.toList args.toList ds p := hA0
  rw [Try.params3] at hA hval
  obtain ⟨v0, vs0, d0, ds0, p0, q0, hargs, rfl, rfl, h0, r0⟩ := trodAll_cons hA
  obtain ⟨rfl, rfl, rfl⟩ := trodAll_nil r0
  obtain rfl : args = #[v0] := by cases args; simp_all
  obtain ⟨rfl, rfl⟩ := trodVars_none hV
  have k0 := h0
  have lt0 : ∀ x ∈ p0, x.block < W.heap.size := by obtain ⟨m, hm⟩ := k0; exact DataW.trod_lt m _ _ _ hm
  obtain ⟨x0, l0, c0, rfl⟩ := okWide_slice Try.underlying22 (hval 0 22 v0 rfl rfl)
  obtain ⟨u0, hu0⟩ := h0
  obtain ⟨u0, rfl⟩ : ∃ m, u0 = m + 1 := by cases u0 with | zero => simp [DataW.trod] at hu0 | succ m => exact ⟨m, rfl⟩
  obtain ⟨e0, a0, ee0, ok0, len0, rep0⟩ := read_slice (R := fun _ : Int × Int × Int => True) (row := fun o => [I o.1, I o.2.1, I o.2.2]) Try.underlying22 mt3.sz hu0 (fun cs y hy => by obtain ⟨a, b, c, _, _, _, k1, k2⟩ := read_three mt3 hy; exact ⟨(a, b, c), trivial, rfl, k2⟩)
  obtain rfl : .slice x0 l0 c0 = e0 := by simpa [Value.cells] using ee0
  clear hA0 hval0
  refine (walk_of (QueueAll_con a0) W [.slice x0 l0 c0] (args_cons (arg_pv rep0) args_nil)).mono fun e W' ⟨he, bel⟩ => ?_
  subst he
  exact ⟨_, rfl, _, _, _, [], _, [], hW', trodAll_mk1 (shut_bool Try.underlying4 _), (trodAll_cons_mk (Below.trod laidOut (by kernel_rfl) (of_decide_eq_true (by kernel_rfl)) k0 bel lt0) trodAll_mk0), rfl, bel.frame _, fun h => by cases h⟩
theorem over : Rows.queueAllRow.holds Try.pinned (OpenSpec.ofChange Rows.queueAllSpec) :=
  OpenClaim.holds_of_wide 3 Try.f3 rfl rfl rfl rfl rfl rfl rfl ⟨rfl, rfl, rfl, rfl, rfl⟩ rfl rfl rfl rfl rfl (by kernel_rfl) Try.func3 (by kernel_rfl)
    (of_decide_eq_true (by kernel_rfl)) (by unfold Func.isWrapper; first | (rw [if_pos (by decide +kernel)]; kernel_rfl) | (rw [if_neg (by decide +kernel)]; exact ⟨rfl, rfl⟩))
    (fun os started H enc _ => lifted os started H enc)
end Go.Proofs.Ytnennmlpaijedaa.queueAll
namespace Go.Proofs.Ytnennmlpaijedaa
/-- The row, under a short name, for the claim. -/
theorem queueAll_holds : Rows.QueueAllSaid := queueAll.over
#print axioms queueAll_holds
end Go.Proofs.Ytnennmlpaijedaa
