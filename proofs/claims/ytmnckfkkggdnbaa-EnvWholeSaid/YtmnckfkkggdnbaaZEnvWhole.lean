/- Texts of our own, laid together. -/
import Derived.Test.YtmnckfkkggdnbaaRows
import Derived.Test.YtmnckfkkggdnbaaM5EnvWhole
/- Rows.EnvWholeSaid: for every input, the law EnvWhole returns true and leaves what it reads as it was. No condition. -/
namespace Go.Proofs.Ytmnckfkkggdnbaa.envWhole
open Go Go.Ab Go.Ab.Ytmnckfkkggdnbaa
open Go.ChangeShapes Go.WideShapes Go.ChangeAt Go.RowKit
open Go.ChangeMaps (open_string shut_string)
set_option linter.unusedVariables false

theorem own : ownKnob Try.prog.godebug = none := by kernel_rfl
theorem laidOut : laidOutB Try.prog = true := by kernel_rfl
theorem lt : LT Try.prog 84 30 3 := ⟨Try.underlying3, Try.underlying30, by kernel_rfl, by kernel_rfl, by kernel_rfl, ⟨_, _, _, Try.underlying84, rfl, rfl, rfl, rfl, rfl, rfl⟩⟩
theorem tt : TT Try.prog 33 31 84 30 3 9 := ⟨lt, Try.underlying9, Try.underlying31, by kernel_rfl, by kernel_rfl, by kernel_rfl, ⟨_, _, _, _, _, Try.underlying33, rfl, rfl, rfl, rfl, rfl, rfl, rfl, rfl, rfl, rfl⟩⟩
theorem dt : DT Try.prog 36 22 52 34 33 31 84 30 3 9 := ⟨⟨tt, Try.underlying34, by kernel_rfl, by kernel_rfl, by kernel_rfl, by kernel_rfl, ⟨_, _, Try.underlying52, rfl, rfl, rfl, rfl⟩⟩, Try.underlying22, by kernel_rfl, ⟨_, _, _, _, _, _, _, _, Try.underlying36, ⟨rfl, rfl⟩, ⟨rfl, rfl⟩, ⟨rfl, rfl⟩, ⟨rfl, rfl⟩, ⟨rfl, rfl⟩, ⟨rfl, rfl⟩, ⟨rfl, rfl⟩, ⟨rfl, rfl⟩⟩⟩
set_option maxRecDepth 100000 in
theorem lifted (os : Os) (started : os.Started) (H : Type) (enc : TypeId × Value → H) :
    ReturnsInHanded {} Try.checked os 4 .any (Rows.envWholeSpec.pre6 enc Try.prog Try.f4 Rows.envWholeRow.domain false) (Rows.envWholeSpec.post enc Try.prog Try.f4 false true false false) := by
  refine returnsInHanded_of_change_sized (C := Try.checked) own started (by kernel_rfl) Try.func4
    (ChangeSpec.witness6 (enc := enc) (C := Try.checked) false ⟨#[], #[(.slice none 0 0), (.int .u8 0), (.int .u8 0)], []⟩ 8 (by kernel_rfl) (by kernel_rfl) (by kernel_rfl) (by kernel_rfl)) ?_
  intro W base args ds gs before hval0 hW hcnd hz _
  have hval : ∀ (j : Nat) t v, Try.f4.params[j]? = some t → args[j]? = some v → Value.okWide Try.prog W .any base t v := hval0
  have hW' := hW
  obtain ⟨p, q, hA0, hV, rfl, hfz, hnd⟩ := hW
  have hA : DataW.TrodAll enc Try.prog W 0 (fun _ => true) true Try.f4.params.toList args.toList ds p := hA0
  rw [Try.params4] at hA hval
  obtain ⟨v0, vs0, d0, ds0, p0, q0, hargs, rfl, rfl, h0, r0⟩ := trodAll_cons hA
  obtain ⟨v1, vs1, d1, ds1, p1, q1, rfl, rfl, rfl, h1, r1⟩ := trodAll_cons r0
  obtain ⟨v2, vs2, d2, ds2, p2, q2, rfl, rfl, rfl, h2, r2⟩ := trodAll_cons r1
  obtain ⟨rfl, rfl, rfl⟩ := trodAll_nil r2
  obtain rfl : args = #[v0, v1, v2] := by cases args; simp_all
  obtain ⟨rfl, rfl⟩ := trodVars_none hV
  have k0 := h0
  have lt0 : ∀ x ∈ p0, x.block < W.heap.size := by obtain ⟨m, hm⟩ := k0; exact DataW.trod_lt m _ _ _ hm
  obtain ⟨x0, l0, c0, rfl⟩ := okWide_slice Try.underlying22 (hval 0 22 v0 rfl rfl)
  obtain ⟨u0, hu0⟩ := h0
  obtain ⟨u0, rfl⟩ : ∃ m, u0 = m + 1 := by cases u0 with | zero => simp [DataW.trod] at hu0 | succ m => exact ⟨m, rfl⟩
  have wb0 : Wb Try.prog 22 d0 := fun n hn => of_decide_eq_true (List.all_eq_true.1 hz n (DataW.weights_mem_each (j := 0) rfl rfl n hn))
  obtain ⟨e0, a0, ee0, ok0, len0, rep0, _⟩ := readW_slice (R := fun d : Dcl => narD0 d = true) (row := rowD) dt.ls dt.sz hu0 wb0 (fun cs y hy hw => by obtain ⟨l, k1, k2, k3⟩ := readW_dcl dt _ cs y hy hw; exact ⟨l, k1, rfl, k3⟩)
  obtain rfl : .slice x0 l0 c0 = e0 := by simpa [Value.cells] using ee0
  obtain ⟨a1, rfl, rfl, rfl, w1⟩ := open_int Try.underlying5 (hval 1 5 v1 rfl rfl) h1
  have b1 := bounds_u8 w1
  obtain ⟨a2, rfl, rfl, rfl, w2⟩ := open_int Try.underlying5 (hval 2 5 v2 rfl rfl) h2
  have b2 := bounds_u8 w2
  clear hA0 hval0
  refine (walk_of (EnvWhole_con a0 a1 a2 ok0 b1 b2) W [.slice x0 l0 c0, .int .u8 a1, .int .u8 a2] (args_cons (arg_pv rep0) (args_cons (arg_v rfl) (args_cons (arg_v rfl) args_nil)))).mono fun e W' ⟨he, bel⟩ => ?_
  subst he
  exact ⟨_, rfl, _, _, _, [], _, [], hW', trodAll_mk1 (shut_bool Try.underlying4 _), (trodAll_cons_mk (Below.trod laidOut (by kernel_rfl) (of_decide_eq_true (by kernel_rfl)) k0 bel lt0) (trodAll_cons_mk (shut_int Try.underlying5 w1) (trodAll_cons_mk (shut_int Try.underlying5 w2) trodAll_mk0))), rfl, bel.frame _, fun h => by cases h⟩
theorem over : Rows.envWholeRow.holds Try.pinned (OpenSpec.ofChange Rows.envWholeSpec) :=
  OpenClaim.holds_of_wide 4 Try.f4 rfl rfl rfl rfl rfl rfl rfl ⟨rfl, rfl, rfl, rfl, rfl⟩ rfl rfl rfl rfl rfl (by kernel_rfl) Try.func4 (by kernel_rfl)
    (of_decide_eq_true (by kernel_rfl)) (by unfold Func.isWrapper; first | (rw [if_pos (by decide +kernel)]; kernel_rfl) | (rw [if_neg (by decide +kernel)]; exact ⟨rfl, rfl⟩))
    (fun os started H enc _ => lifted os started H enc)
end Go.Proofs.Ytmnckfkkggdnbaa.envWhole
namespace Go.Proofs.Ytmnckfkkggdnbaa
/-- The row, under a short name, for the claim. -/
theorem envWhole_holds : Rows.EnvWholeSaid := envWhole.over
#print axioms envWhole_holds
end Go.Proofs.Ytmnckfkkggdnbaa
