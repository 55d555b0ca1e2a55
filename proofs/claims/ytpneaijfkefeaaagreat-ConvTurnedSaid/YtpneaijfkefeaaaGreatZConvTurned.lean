/- Rows.ConvTurnedSaid: for every input, the law ConvTurned returns true and leaves what it reads as it was. No condition. -/
import Derived.Test.YtpneaijfkefeaaaGreatRows
import Derived.Test.YtpneaijfkefeaaaGreatM8T1
namespace Go.Proofs.YtpneaijfkefeaaaGreat.convTurned
open Go Go.Ab Go.Ab.YtpneaijfkefeaaaGreat
open Go.ChangeShapes Go.WideShapes Go.ChangeAt Go.RowKit
open Go.ChangeMaps (open_string shut_string)
set_option linter.unusedVariables false

theorem own : ownKnob Tryz.prog.godebug = none := by kernel_rfl
theorem laidOut : laidOutB Tryz.prog = true := by kernel_rfl
set_option maxRecDepth 100000 in
theorem lifted (os : Os) (started : os.Started) (H : Type) (enc : TypeId × Value → H) :
    ReturnsInHanded {} Tryz.checked os 13 .any (Rows.convTurnedSpec.pre6 enc Tryz.prog Tryz.f13 Rows.convTurnedRow.domain false) (Rows.convTurnedSpec.post enc Tryz.prog Tryz.f13 false true false false) := by
  refine returnsInHanded_of_change (C := Tryz.checked) own started (by kernel_rfl) Tryz.func13
    (ChangeSpec.witness6 (enc := enc) (C := Tryz.checked) false ⟨#[], #[(.slice none 0 0), (.slice none 0 0), (.slice none 0 0)], []⟩ 8 (by kernel_rfl) (by kernel_rfl) (by kernel_rfl) (by kernel_rfl)) ?_
  intro W base args ds gs before hval0 hW hcnd _
  have hval : ∀ (j : Nat) t v, Tryz.f13.params[j]? = some t → args[j]? = some v → Value.okWide Tryz.prog W .any base t v := hval0
  have hW' := hW
  obtain ⟨p, q, hA0, hV, rfl, hfz, hnd⟩ := hW
  have hA : DataW.TrodAll enc Tryz.prog W 0 (fun _ => true) true Tryz.f13.params.toList args.toList ds p := hA0
  rw [Tryz.params13] at hA hval
  obtain ⟨v0, vs0, d0, ds0, p0, q0, hargs, rfl, rfl, h0, r0⟩ := trodAll_cons hA
  obtain ⟨v1, vs1, d1, ds1, p1, q1, rfl, rfl, rfl, h1, r1⟩ := trodAll_cons r0
  obtain ⟨v2, vs2, d2, ds2, p2, q2, rfl, rfl, rfl, h2, r2⟩ := trodAll_cons r1
  obtain ⟨rfl, rfl, rfl⟩ := trodAll_nil r2
  obtain rfl : args = #[v0, v1, v2] := by cases args; simp_all
  obtain ⟨rfl, rfl⟩ := trodVars_none hV
  have k0 := h0
  have lt0 : ∀ x ∈ p0, x.block < W.heap.size := by obtain ⟨m, hm⟩ := k0; exact DataW.trod_lt m _ _ _ hm
  obtain ⟨x0, l0, c0, rfl⟩ := okWide_slice Tryz.underlying22 (hval 0 22 v0 rfl rfl)
  obtain ⟨u0, hu0⟩ := h0
  obtain ⟨u0, rfl⟩ : ∃ m, u0 = m + 1 := by cases u0 with | zero => simp [DataW.trod] at hu0 | succ m => exact ⟨m, rfl⟩
  obtain ⟨e0, a0, ee0, ok0, len0, rep0⟩ := z5l (sz := 1) (R := fun n => (Lit.int .u8 n).wf = true) (row := fun n => [U8 n]) Tryz.underlying22 (by kernel_rfl) hu0 (fun cs y hy => by obtain ⟨n, e, hn⟩ := z9t Tryz.underlying5 hy; subst e; exact ⟨n, hn, rfl, fun j z hj => by cases j with | zero => simp at hj; subst hj; exact .v rfl | succ j => simp at hj⟩)
  obtain rfl : .slice x0 l0 c0 = e0 := by simpa [Value.cells] using ee0
  have k1 := h1
  have lt1 : ∀ x ∈ p1, x.block < W.heap.size := by obtain ⟨m, hm⟩ := k1; exact DataW.trod_lt m _ _ _ hm
  obtain ⟨x1, l1, c1, rfl⟩ := okWide_slice Tryz.underlying22 (hval 1 22 v1 rfl rfl)
  obtain ⟨u1, hu1⟩ := h1
  obtain ⟨u1, rfl⟩ : ∃ m, u1 = m + 1 := by cases u1 with | zero => simp [DataW.trod] at hu1 | succ m => exact ⟨m, rfl⟩
  obtain ⟨e1, a1, ee1, ok1, len1, rep1⟩ := z5l (sz := 1) (R := fun n => (Lit.int .u8 n).wf = true) (row := fun n => [U8 n]) Tryz.underlying22 (by kernel_rfl) hu1 (fun cs y hy => by obtain ⟨n, e, hn⟩ := z9t Tryz.underlying5 hy; subst e; exact ⟨n, hn, rfl, fun j z hj => by cases j with | zero => simp at hj; subst hj; exact .v rfl | succ j => simp at hj⟩)
  obtain rfl : .slice x1 l1 c1 = e1 := by simpa [Value.cells] using ee1
  have k2 := h2
  have lt2 : ∀ x ∈ p2, x.block < W.heap.size := by obtain ⟨m, hm⟩ := k2; exact DataW.trod_lt m _ _ _ hm
  obtain ⟨x2, l2, c2, rfl⟩ := okWide_slice Tryz.underlying22 (hval 2 22 v2 rfl rfl)
  obtain ⟨u2, hu2⟩ := h2
  obtain ⟨u2, rfl⟩ : ∃ m, u2 = m + 1 := by cases u2 with | zero => simp [DataW.trod] at hu2 | succ m => exact ⟨m, rfl⟩
  obtain ⟨e2, a2, ee2, ok2, len2, rep2⟩ := z5l (sz := 1) (R := fun n => (Lit.int .u8 n).wf = true) (row := fun n => [U8 n]) Tryz.underlying22 (by kernel_rfl) hu2 (fun cs y hy => by obtain ⟨n, e, hn⟩ := z9t Tryz.underlying5 hy; subst e; exact ⟨n, hn, rfl, fun j z hj => by cases j with | zero => simp at hj; subst hj; exact .v rfl | succ j => simp at hj⟩)
  obtain rfl : .slice x2 l2 c2 = e2 := by simpa [Value.cells] using ee2
  clear hA0 hval0
  refine (zuq (zer a0 a1 a2 (fun n hn => bounds_u8 (ok0 n hn)) (fun n hn => bounds_u8 (ok1 n hn)) (fun n hn => bounds_u8 (ok2 n hn)) (Int.le_trans (Int.ofNat_le.2 len0) (by decide)) (Int.le_trans (Int.ofNat_le.2 len1) (by decide)) (Int.le_trans (Int.ofNat_le.2 len2) (by decide))) W [.slice x0 l0 c0, .slice x1 l1 c1, .slice x2 l2 c2] (z6o (zk5 rep0) (z6o (zk5 rep1) (z6o (zk5 rep2) z9u)))).mono fun e W' ⟨he, bel⟩ => ?_
  subst he
  exact ⟨_, rfl, _, _, _, [], _, [], hW', trodAll_mk1 (shut_bool Tryz.underlying4 _), (trodAll_cons_mk (Below.trod laidOut (by kernel_rfl) (of_decide_eq_true (by kernel_rfl)) k0 bel lt0) (trodAll_cons_mk (Below.trod laidOut (by kernel_rfl) (of_decide_eq_true (by kernel_rfl)) k1 bel lt1) (trodAll_cons_mk (Below.trod laidOut (by kernel_rfl) (of_decide_eq_true (by kernel_rfl)) k2 bel lt2) trodAll_mk0))), rfl, bel.frame _, fun h => by cases h⟩
set_option maxHeartbeats 40000000 in
set_option maxRecDepth 100000 in
theorem facts : joinedFacts Tryz.pinned.checked.prog 13 Tryz.f13 Rows.convTurnedSpec Rows.convTurnedRow = true := by
  simp only [joinedFacts, Bool.and_eq_true]
  repeat' (refine And.intro ?_ ?_)
  all_goals decide +kernel
theorem over : Rows.convTurnedRow.holds Tryz.pinned (OpenSpec.ofChange Rows.convTurnedSpec) :=
  OpenClaim.holds_of_wide 13 Tryz.f13 rfl rfl rfl rfl rfl rfl rfl ⟨rfl, rfl, rfl, rfl, rfl⟩ rfl rfl rfl rfl rfl (by kernel_rfl) Tryz.func13 facts
    (of_decide_eq_true (by kernel_rfl)) (by unfold Func.isWrapper; first | (rw [if_pos (by decide +kernel)]; kernel_rfl) | (rw [if_neg (by decide +kernel)]; exact ⟨rfl, rfl⟩))
    (fun os started H enc _ => lifted os started H enc)
end Go.Proofs.YtpneaijfkefeaaaGreat.convTurned
namespace Go.Proofs.YtpneaijfkefeaaaGreat
/-- The row, under a short name, for the claim. -/
theorem convTurned_holds : Rows.ConvTurnedSaid := convTurned.over
#print axioms convTurned_holds
end Go.Proofs.YtpneaijfkefeaaaGreat
