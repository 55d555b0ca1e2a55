/- Texts of our own, laid together. -/
import Derived.Test.YtmnckfkkggdnbaaRows
import Derived.Test.YtmnckfkkggdnbaaM5EnvApart
/- Rows.EnvApartSaid: for every input, the law EnvApart returns true and leaves what it reads as it was. No condition. -/
namespace Go.Proofs.Ytmnckfkkggdnbaa.envApart
open Go Go.Ab Go.Ab.Ytmnckfkkggdnbaa
open Go.ChangeShapes Go.WideShapes Go.ChangeAt Go.RowKit
open Go.ChangeMaps (open_string shut_string)
set_option linter.unusedVariables false

theorem own : ownKnob Try.prog.godebug = none := by kernel_rfl
theorem laidOut : laidOutB Try.prog = true := by kernel_rfl
theorem lt : LT Try.prog 84 30 3 := ⟨Try.underlying3, Try.underlying30, by kernel_rfl, by kernel_rfl, by kernel_rfl, ⟨_, _, _, Try.underlying84, rfl, rfl, rfl, rfl, rfl, rfl⟩⟩
theorem tt : TT Try.prog 33 31 84 30 3 9 := ⟨lt, Try.underlying9, Try.underlying31, by kernel_rfl, by kernel_rfl, by kernel_rfl, ⟨_, _, _, _, _, Try.underlying33, rfl, rfl, rfl, rfl, rfl, rfl, rfl, rfl, rfl, rfl⟩⟩
theorem dt : DT Try.prog 36 22 52 34 33 31 84 30 3 9 := ⟨⟨tt, Try.underlying34, by kernel_rfl, by kernel_rfl, by kernel_rfl, by kernel_rfl, ⟨_, _, Try.underlying52, rfl, rfl, rfl, rfl⟩⟩, Try.underlying22, by kernel_rfl, ⟨_, _, _, _, _, _, _, _, Try.underlying36, ⟨rfl, rfl⟩, ⟨rfl, rfl⟩, ⟨rfl, rfl⟩, ⟨rfl, rfl⟩, ⟨rfl, rfl⟩, ⟨rfl, rfl⟩, ⟨rfl, rfl⟩, ⟨rfl, rfl⟩⟩⟩
set_option maxRecDepth 100000 in
theorem lifted (os : Os) (started : os.Started) (H : Type) (enc : TypeId × Value → H) :
    ReturnsInHanded {} Try.checked os 3 .any (Rows.envApartSpec.pre6 enc Try.prog Try.f3 Rows.envApartRow.domain false) (Rows.envApartSpec.post enc Try.prog Try.f3 false true false false) := by
  refine returnsInHanded_of_change_sized (C := Try.checked) own started (by kernel_rfl) Try.func3
    (ChangeSpec.witness6 (enc := enc) (C := Try.checked) false ⟨#[], #[(.slice none 0 0), (.slice none 0 0), (.slice none 0 0)], []⟩ 8 (by kernel_rfl) (by kernel_rfl) (by kernel_rfl) (by kernel_rfl)) ?_
  intro W base args ds gs before hval0 hW hcnd hz _
  have hval : ∀ (j : Nat) t v, Try.f3.params[j]? = some t → args[j]? = some v → Value.okWide Try.prog W .any base t v := hval0
  have hW' := hW
  obtain ⟨p, q, hA0, hV, rfl, hfz, hnd⟩ := hW
  have hA : DataW.TrodAll enc Try.prog W 0 (fun _ => true) true Try.f3.params.toList args.toList ds p := hA0
  rw [Try.params3] at hA hval
  obtain ⟨v0, vs0, d0, ds0, p0, q0, hargs, rfl, rfl, h0, r0⟩ := trodAll_cons hA
  obtain ⟨v1, vs1, d1, ds1, p1, q1, rfl, rfl, rfl, h1, r1⟩ := trodAll_cons r0
  obtain ⟨v2, vs2, d2, ds2, p2, q2, rfl, rfl, rfl, h2, r2⟩ := trodAll_cons r1
  obtain ⟨rfl, rfl, rfl⟩ := trodAll_nil r2
  obtain rfl : args = #[v0, v1, v2] := by cases args; simp_all
  obtain ⟨rfl, rfl⟩ := trodVars_none hV
  have k0 := h0
  have lt0 : ∀ x ∈ p0, x.block < W.heap.size := by obtain ⟨m, hm⟩ := k0; exact DataW.trod_lt m _ _ _ hm
  obtain ⟨x0, l0, c0, rfl⟩ := okWide_slice Try.underlying22 (hval 0 22 v0 rfl rfl)
  obtain ⟨u0, hu0⟩ := h0
  obtain ⟨u0, rfl⟩ : ∃ m, u0 = m + 1 := by cases u0 with | zero => simp [DataW.trod] at hu0 | succ m => exact ⟨m, rfl⟩
  have wb0 : Wb Try.prog 22 d0 := fun n hn => of_decide_eq_true (List.all_eq_true.1 hz n (DataW.weights_mem_each (j := 0) rfl rfl n hn))
  obtain ⟨e0, a0, ee0, ok0, len0, rep0, _⟩ := readW_slice (R := fun d : Dcl => narD0 d = true) (row := rowD) dt.ls dt.sz hu0 wb0 (fun cs y hy hw => by obtain ⟨l, k1, k2, k3⟩ := readW_dcl dt _ cs y hy hw; exact ⟨l, k1, rfl, k3⟩)
  obtain rfl : .slice x0 l0 c0 = e0 := by simpa [Value.cells] using ee0
  have k1 := h1
  have lt1 : ∀ x ∈ p1, x.block < W.heap.size := by obtain ⟨m, hm⟩ := k1; exact DataW.trod_lt m _ _ _ hm
  obtain ⟨x1, l1, c1, rfl⟩ := okWide_slice Try.underlying22 (hval 1 22 v1 rfl rfl)
  obtain ⟨u1, hu1⟩ := h1
  obtain ⟨u1, rfl⟩ : ∃ m, u1 = m + 1 := by cases u1 with | zero => simp [DataW.trod] at hu1 | succ m => exact ⟨m, rfl⟩
  have wb1 : Wb Try.prog 22 d1 := fun n hn => of_decide_eq_true (List.all_eq_true.1 hz n (DataW.weights_mem_each (j := 1) rfl rfl n hn))
  obtain ⟨e1, a1, ee1, ok1, len1, rep1, _⟩ := readW_slice (R := fun d : Dcl => narD0 d = true) (row := rowD) dt.ls dt.sz hu1 wb1 (fun cs y hy hw => by obtain ⟨l, k1, k2, k3⟩ := readW_dcl dt _ cs y hy hw; exact ⟨l, k1, rfl, k3⟩)
  obtain rfl : .slice x1 l1 c1 = e1 := by simpa [Value.cells] using ee1
  have k2 := h2
  have lt2 : ∀ x ∈ p2, x.block < W.heap.size := by obtain ⟨m, hm⟩ := k2; exact DataW.trod_lt m _ _ _ hm
  obtain ⟨x2, l2, c2, rfl⟩ := okWide_slice Try.underlying22 (hval 2 22 v2 rfl rfl)
  obtain ⟨u2, hu2⟩ := h2
  obtain ⟨u2, rfl⟩ : ∃ m, u2 = m + 1 := by cases u2 with | zero => simp [DataW.trod] at hu2 | succ m => exact ⟨m, rfl⟩
  have wb2 : Wb Try.prog 22 d2 := fun n hn => of_decide_eq_true (List.all_eq_true.1 hz n (DataW.weights_mem_each (j := 2) rfl rfl n hn))
  obtain ⟨e2, a2, ee2, ok2, len2, rep2, _⟩ := readW_slice (R := fun d : Dcl => narD0 d = true) (row := rowD) dt.ls dt.sz hu2 wb2 (fun cs y hy hw => by obtain ⟨l, k1, k2, k3⟩ := readW_dcl dt _ cs y hy hw; exact ⟨l, k1, rfl, k3⟩)
  obtain rfl : .slice x2 l2 c2 = e2 := by simpa [Value.cells] using ee2
  clear hA0 hval0
  refine (walk_of (EnvApart_con a0 a1 a2 ok0 ok1 ok2) W [.slice x0 l0 c0, .slice x1 l1 c1, .slice x2 l2 c2] (args_cons (arg_pv rep0) (args_cons (arg_pv rep1) (args_cons (arg_pv rep2) args_nil)))).mono fun e W' ⟨he, bel⟩ => ?_
  subst he
  exact ⟨_, rfl, _, _, _, [], _, [], hW', trodAll_mk1 (shut_bool Try.underlying4 _), (trodAll_cons_mk (Below.trod laidOut (by kernel_rfl) (of_decide_eq_true (by kernel_rfl)) k0 bel lt0) (trodAll_cons_mk (Below.trod laidOut (by kernel_rfl) (of_decide_eq_true (by kernel_rfl)) k1 bel lt1) (trodAll_cons_mk (Below.trod laidOut (by kernel_rfl) (of_decide_eq_true (by kernel_rfl)) k2 bel lt2) trodAll_mk0))), rfl, bel.frame _, fun h => by cases h⟩
theorem over : Rows.envApartRow.holds Try.pinned (OpenSpec.ofChange Rows.envApartSpec) :=
  OpenClaim.holds_of_wide 3 Try.f3 rfl rfl rfl rfl rfl rfl rfl ⟨rfl, rfl, rfl, rfl, rfl⟩ rfl rfl rfl rfl rfl (by kernel_rfl) Try.func3 (by kernel_rfl)
    (of_decide_eq_true (by kernel_rfl)) (by unfold Func.isWrapper; first | (rw [if_pos (by decide +kernel)]; kernel_rfl) | (rw [if_neg (by decide +kernel)]; exact ⟨rfl, rfl⟩))
    (fun os started H enc _ => lifted os started H enc)
end Go.Proofs.Ytmnckfkkggdnbaa.envApart
namespace Go.Proofs.Ytmnckfkkggdnbaa
/-- The row, under a short name, for the claim. -/
theorem envApart_holds : Rows.EnvApartSaid := envApart.over
#print axioms envApart_holds
end Go.Proofs.Ytmnckfkkggdnbaa
