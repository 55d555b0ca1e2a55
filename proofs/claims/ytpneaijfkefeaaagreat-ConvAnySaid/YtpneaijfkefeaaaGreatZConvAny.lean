/- Rows.ConvAnySaid: for every input, the law ConvAny returns true and leaves what it reads as it was. No condition. -/
import Derived.Test.YtpneaijfkefeaaaGreatRows
import Derived.Test.YtpneaijfkefeaaaGreatM8C0
namespace Go.Proofs.YtpneaijfkefeaaaGreat.convAny
open Go Go.Ab Go.Ab.YtpneaijfkefeaaaGreat
open Go.ChangeShapes Go.WideShapes Go.ChangeAt Go.RowKit
open Go.ChangeMaps (open_string shut_string)
set_option linter.unusedVariables false

theorem own : ownKnob Tryz.prog.godebug = none := by kernel_rfl
theorem laidOut : laidOutB Tryz.prog = true := by kernel_rfl
theorem lt : LT Tryz.prog 74 32 3 := ⟨Tryz.underlying3, Tryz.underlying32, by kernel_rfl, by kernel_rfl, by kernel_rfl, ⟨_, _, _, Tryz.underlying74, rfl, rfl, rfl, rfl, rfl, rfl⟩⟩
theorem tt : TT Tryz.prog 35 33 74 32 3 9 := ⟨lt, Tryz.underlying9, Tryz.underlying33, by kernel_rfl, by kernel_rfl, by kernel_rfl, ⟨_, _, _, _, _, Tryz.underlying35, rfl, rfl, rfl, rfl, rfl, rfl, rfl, rfl, rfl, rfl⟩⟩
theorem dt : DT Tryz.prog 89 26 156 87 35 33 74 32 3 9 := ⟨⟨tt, Tryz.underlying87, by kernel_rfl, by kernel_rfl, by kernel_rfl, by kernel_rfl, ⟨_, _, Tryz.underlying156, rfl, rfl, rfl, rfl⟩⟩, Tryz.underlying26, by kernel_rfl, ⟨_, _, _, _, _, _, _, _, Tryz.underlying89, ⟨rfl, rfl⟩, ⟨rfl, rfl⟩, ⟨rfl, rfl⟩, ⟨rfl, rfl⟩, ⟨rfl, rfl⟩, ⟨rfl, rfl⟩, ⟨rfl, rfl⟩, ⟨rfl, rfl⟩⟩⟩
set_option maxRecDepth 100000 in
theorem lifted (os : Os) (started : os.Started) (H : Type) (enc : TypeId × Value → H) :
    ReturnsInHanded {} Tryz.checked os 9 .any (Rows.convAnySpec.pre6 enc Tryz.prog Tryz.f9 Rows.convAnyRow.domain false) (Rows.convAnySpec.post enc Tryz.prog Tryz.f9 false true false false) := by
  refine returnsInHanded_of_change_sized (C := Tryz.checked) own started (by kernel_rfl) Tryz.func9
    (ChangeSpec.witness6 (enc := enc) (C := Tryz.checked) false ⟨#[], #[(.slice none 0 0), .agg #[(.int .i64 0), (.int .i64 0), (.string ByteArray.empty), (.slice none 0 0), (.slice none 0 0)], .agg #[(.int .i64 0), (.int .i64 0), (.string ByteArray.empty), (.slice none 0 0), (.slice none 0 0)], (.int .u16 0)], []⟩ 8 (by kernel_rfl) (by kernel_rfl) (by kernel_rfl) (by kernel_rfl)) ?_
  intro W base args ds gs before hval0 hW hcnd hz _
  have hval : ∀ (j : Nat) t v, Tryz.f9.params[j]? = some t → args[j]? = some v → Value.okWide Tryz.prog W .any base t v := hval0
  have hW' := hW
  obtain ⟨p, q, hA0, hV, rfl, hfz, hnd⟩ := hW
  have hA : DataW.TrodAll enc Tryz.prog W 0 (fun _ => true) true Tryz.f9.params.toList args.toList ds p := hA0
  rw [Tryz.params9] at hA hval
  obtain ⟨v0, vs0, d0, ds0, p0, q0, hargs, rfl, rfl, h0, r0⟩ := trodAll_cons hA
  obtain ⟨v1, vs1, d1, ds1, p1, q1, rfl, rfl, rfl, h1, r1⟩ := trodAll_cons r0
  obtain ⟨v2, vs2, d2, ds2, p2, q2, rfl, rfl, rfl, h2, r2⟩ := trodAll_cons r1
  obtain ⟨v3, vs3, d3, ds3, p3, q3, rfl, rfl, rfl, h3, r3⟩ := trodAll_cons r2
  obtain ⟨rfl, rfl, rfl⟩ := trodAll_nil r3
  obtain rfl : args = #[v0, v1, v2, v3] := by cases args; simp_all
  obtain ⟨rfl, rfl⟩ := trodVars_none hV
  have k0 := h0
  have lt0 : ∀ x ∈ p0, x.block < W.heap.size := by obtain ⟨m, hm⟩ := k0; exact DataW.trod_lt m _ _ _ hm
  obtain ⟨x0, l0, c0, rfl⟩ := okWide_slice Tryz.underlying26 (hval 0 26 v0 rfl rfl)
  obtain ⟨u0, hu0⟩ := h0
  obtain ⟨u0, rfl⟩ : ∃ m, u0 = m + 1 := by cases u0 with | zero => simp [DataW.trod] at hu0 | succ m => exact ⟨m, rfl⟩
  have wb0 : Wb Tryz.prog 26 d0 := fun n hn => of_decide_eq_true (List.all_eq_true.1 hz n (DataW.weights_mem_each (j := 0) rfl rfl n hn))
  obtain ⟨e0, a0, ee0, ok0, len0, rep0, _⟩ := z5n (R := fun d : Dcl => narD0 d = true) (row := rowD) dt.ls dt.sz hu0 wb0 (fun cs y hy hw => by obtain ⟨l, k1, k2, k3⟩ := zxl dt _ cs y hy hw; exact ⟨l, k1, rfl, k3⟩)
  obtain rfl : .slice x0 l0 c0 = e0 := by simpa [Value.cells] using ee0
  have k1 := h1
  have lt1 : ∀ x ∈ p1, x.block < W.heap.size := by obtain ⟨m, hm⟩ := k1; exact DataW.trod_lt m _ _ _ hm
  obtain ⟨c1, rfl, hs1⟩ := okWide_struct Tryz.underlying35 (hval 1 35 v1 rfl rfl)
  obtain ⟨u1, hu1⟩ := h1
  have wb1 : Wb Tryz.prog 35 d1 := fun n hn => of_decide_eq_true (List.all_eq_true.1 hz n (DataW.weights_mem_each (j := 1) rfl rfl n hn))
  obtain ⟨a1, ok1, len1, rep1⟩ := z7w tt (by kernel_rfl) (by kernel_rfl) u1 _ _ hu1 wb1
  have k2 := h2
  have lt2 : ∀ x ∈ p2, x.block < W.heap.size := by obtain ⟨m, hm⟩ := k2; exact DataW.trod_lt m _ _ _ hm
  obtain ⟨c2, rfl, hs2⟩ := okWide_struct Tryz.underlying35 (hval 2 35 v2 rfl rfl)
  obtain ⟨u2, hu2⟩ := h2
  have wb2 : Wb Tryz.prog 35 d2 := fun n hn => of_decide_eq_true (List.all_eq_true.1 hz n (DataW.weights_mem_each (j := 2) rfl rfl n hn))
  obtain ⟨a2, ok2, len2, rep2⟩ := z7w tt (by kernel_rfl) (by kernel_rfl) u2 _ _ hu2 wb2
  obtain ⟨a3, rfl, rfl, rfl, w3⟩ := open_int Tryz.underlying23 (hval 3 23 v3 rfl rfl) h3
  have b3 := bounds_u16 w3
  clear hA0 hval0
  refine (z9j (zog a0 a1 a2 a3 ok0 ok1 ok2 b3) W [.slice x0 l0 c0, .agg c1, .agg c2, .int .u16 a3] (z1b (z7v rep0) (z1b (zxi (row := rowT a1) len1 rep1) (z1b (zxi (row := rowT a2) len2 rep2) (z1b (arg_v rfl) z6y))))).mono fun e W' ⟨he, bel⟩ => ?_
  subst he
  exact ⟨_, rfl, _, _, _, [], _, [], hW', trodAll_mk1 (shut_bool Tryz.underlying4 _), (trodAll_cons_mk (Below.trod laidOut (by kernel_rfl) (of_decide_eq_true (by kernel_rfl)) k0 bel lt0) (trodAll_cons_mk (Below.trod laidOut (by kernel_rfl) (of_decide_eq_true (by kernel_rfl)) k1 bel lt1) (trodAll_cons_mk (Below.trod laidOut (by kernel_rfl) (of_decide_eq_true (by kernel_rfl)) k2 bel lt2) (trodAll_cons_mk (shut_int Tryz.underlying23 w3) trodAll_mk0)))), rfl, bel.frame _, fun h => by cases h⟩
set_option maxHeartbeats 40000000 in
set_option maxRecDepth 100000 in
theorem facts : joinedFacts Tryz.pinned.checked.prog 9 Tryz.f9 Rows.convAnySpec Rows.convAnyRow = true := by
  simp only [joinedFacts, Bool.and_eq_true]
  repeat' (refine And.intro ?_ ?_)
  all_goals decide +kernel
theorem over : Rows.convAnyRow.holds Tryz.pinned (OpenSpec.ofChange Rows.convAnySpec) :=
  OpenClaim.holds_of_wide 9 Tryz.f9 rfl rfl rfl rfl rfl rfl rfl ⟨rfl, rfl, rfl, rfl, rfl⟩ rfl rfl rfl rfl rfl (by kernel_rfl) Tryz.func9 facts
    (of_decide_eq_true (by kernel_rfl)) (by unfold Func.isWrapper; first | (rw [if_pos (by decide +kernel)]; kernel_rfl) | (rw [if_neg (by decide +kernel)]; exact ⟨rfl, rfl⟩))
    (fun os started H enc _ => lifted os started H enc)
end Go.Proofs.YtpneaijfkefeaaaGreat.convAny
namespace Go.Proofs.YtpneaijfkefeaaaGreat
/-- The row, under a short name, for the claim. -/
theorem convAny_holds : Rows.ConvAnySaid := convAny.over
#print axioms convAny_holds
end Go.Proofs.YtpneaijfkefeaaaGreat
