/- Rows.WhnfRecsSaid: for every input, the law WhnfRecs returns true and leaves what it reads as it was. No condition. -/
import Derived.Test.YtplnabidakjhiaaGreatRows
import Derived.Test.YtplnabidakjhiaaGreatM7W8
namespace Go.Proofs.YtplnabidakjhiaaGreat.whnfRecs
open Go Go.Ab Go.Ab.YtplnabidakjhiaaGreat
open Go.ChangeShapes Go.WideShapes Go.ChangeAt Go.RowKit
open Go.ChangeMaps (open_string shut_string)
set_option linter.unusedVariables false

theorem own : ownKnob Tryz.prog.godebug = none := by kernel_rfl
theorem laidOut : laidOutB Tryz.prog = true := by kernel_rfl
theorem lt : LT Tryz.prog 90 29 3 := ⟨Tryz.underlying3, Tryz.underlying29, by kernel_rfl, by kernel_rfl, by kernel_rfl, ⟨_, _, _, Tryz.underlying90, rfl, rfl, rfl, rfl, rfl, rfl⟩⟩
theorem tt : TT Tryz.prog 32 30 90 29 3 9 := ⟨lt, Tryz.underlying9, Tryz.underlying30, by kernel_rfl, by kernel_rfl, by kernel_rfl, ⟨_, _, _, _, _, Tryz.underlying32, rfl, rfl, rfl, rfl, rfl, rfl, rfl, rfl, rfl, rfl⟩⟩
set_option maxRecDepth 100000 in
theorem lifted (os : Os) (started : os.Started) (H : Type) (enc : TypeId × Value → H) :
    ReturnsInHanded {} Tryz.checked os 7 .any (Rows.whnfRecsSpec.pre6 enc Tryz.prog Tryz.f7 Rows.whnfRecsRow.domain false) (Rows.whnfRecsSpec.post enc Tryz.prog Tryz.f7 false true false false) := by
  refine returnsInHanded_of_change_sized (C := Tryz.checked) own started (by kernel_rfl) Tryz.func7
    (ChangeSpec.witness6 (enc := enc) (C := Tryz.checked) false ⟨#[], #[(.int .u8 0), (.slice none 0 0), (.int .u16 0)], []⟩ 8 (by kernel_rfl) (by kernel_rfl) (by kernel_rfl) (by kernel_rfl)) ?_
  intro W base args ds gs before hval0 hW hcnd hz _
  have hval : ∀ (j : Nat) t v, Tryz.f7.params[j]? = some t → args[j]? = some v → Value.okWide Tryz.prog W .any base t v := hval0
  have hW' := hW
  obtain ⟨p, q, hA0, hV, rfl, hfz, hnd⟩ := hW
  have hA : DataW.TrodAll enc Tryz.prog W 0 (fun _ => true) true Tryz.f7.params.toList args.toList ds p := hA0
  rw [Tryz.params7] at hA hval
  obtain ⟨v0, vs0, d0, ds0, p0, q0, hargs, rfl, rfl, h0, r0⟩ := trodAll_cons hA
  obtain ⟨v1, vs1, d1, ds1, p1, q1, rfl, rfl, rfl, h1, r1⟩ := trodAll_cons r0
  obtain ⟨v2, vs2, d2, ds2, p2, q2, rfl, rfl, rfl, h2, r2⟩ := trodAll_cons r1
  obtain ⟨rfl, rfl, rfl⟩ := trodAll_nil r2
  obtain rfl : args = #[v0, v1, v2] := by cases args; simp_all
  obtain ⟨rfl, rfl⟩ := trodVars_none hV
  obtain ⟨a0, rfl, rfl, rfl, w0⟩ := open_int Tryz.underlying5 (hval 0 5 v0 rfl rfl) h0
  have b0 := bounds_u8 w0
  have k1 := h1
  have lt1 : ∀ x ∈ p1, x.block < W.heap.size := by obtain ⟨m, hm⟩ := k1; exact DataW.trod_lt m _ _ _ hm
  obtain ⟨x1, l1, c1, rfl⟩ := okWide_slice Tryz.underlying30 (hval 1 30 v1 rfl rfl)
  obtain ⟨u1, hu1⟩ := h1
  obtain ⟨u1, rfl⟩ : ∃ m, u1 = m + 1 := by cases u1 with | zero => simp [DataW.trod] at hu1 | succ m => exact ⟨m, rfl⟩
  have wb1 : Wb Tryz.prog 30 d1 := fun n hn => of_decide_eq_true (List.all_eq_true.1 hz n (DataW.weights_mem_each (j := 1) rfl rfl n hn))
  obtain ⟨e1, a1, ee1, ok1, len1, rep1, _⟩ := readW_slice (R := fun x : Trm => narT x = true) (row := rowT) tt.ls tt.sz hu1 wb1 (fun cs y hy hw => by obtain ⟨l, k1, k2, k3⟩ := readW_trm tt (by kernel_rfl) (by kernel_rfl) _ cs y hy hw; exact ⟨l, k1, rfl, k3⟩)
  obtain rfl : .slice x1 l1 c1 = e1 := by simpa [Value.cells] using ee1
  obtain ⟨a2, rfl, rfl, rfl, w2⟩ := open_int Tryz.underlying23 (hval 2 23 v2 rfl rfl) h2
  have b2 := bounds_u16 w2
  clear hA0 hval0
  refine (walk_of (WhnfRecs_con a0 a1 a2 b0 ok1 (Int.le_trans (Int.ofNat_le.2 len1) (by decide)) b2) W [.int .u8 a0, .slice x1 l1 c1, .int .u16 a2] (args_cons (arg_v rfl) (args_cons (arg_pv (x := .sl 5 (encTs a1)) (by rw [encTs_eq]; exact rep1)) (args_cons (arg_v rfl) args_nil)))).mono fun e W' ⟨he, bel⟩ => ?_
  subst he
  exact ⟨_, rfl, _, _, _, [], _, [], hW', trodAll_mk1 (shut_bool Tryz.underlying4 _), (trodAll_cons_mk (shut_int Tryz.underlying5 w0) (trodAll_cons_mk (Below.trod laidOut (by kernel_rfl) (of_decide_eq_true (by kernel_rfl)) k1 bel lt1) (trodAll_cons_mk (shut_int Tryz.underlying23 w2) trodAll_mk0))), rfl, bel.frame _, fun h => by cases h⟩
set_option maxHeartbeats 40000000 in
set_option maxRecDepth 100000 in
theorem facts : joinedFacts Tryz.pinned.checked.prog 7 Tryz.f7 Rows.whnfRecsSpec Rows.whnfRecsRow = true := by
  simp only [joinedFacts, Bool.and_eq_true]
  repeat' (refine And.intro ?_ ?_)
  all_goals decide +kernel
theorem over : Rows.whnfRecsRow.holds Tryz.pinned (OpenSpec.ofChange Rows.whnfRecsSpec) :=
  OpenClaim.holds_of_wide 7 Tryz.f7 rfl rfl rfl rfl rfl rfl rfl ⟨rfl, rfl, rfl, rfl, rfl⟩ rfl rfl rfl rfl rfl (by kernel_rfl) Tryz.func7 facts
    (of_decide_eq_true (by kernel_rfl)) (by unfold Func.isWrapper; first | (rw [if_pos (by decide +kernel)]; kernel_rfl) | (rw [if_neg (by decide +kernel)]; exact ⟨rfl, rfl⟩))
    (fun os started H enc _ => lifted os started H enc)
end Go.Proofs.YtplnabidakjhiaaGreat.whnfRecs
namespace Go.Proofs.YtplnabidakjhiaaGreat
/-- The row, under a short name, for the claim. -/
theorem whnfRecs_holds : Rows.WhnfRecsSaid := whnfRecs.over
#print axioms whnfRecs_holds
end Go.Proofs.YtplnabidakjhiaaGreat
