/- The law LevelOrder. -/
import Derived.Test.YtfgndomaadikoaaLvU
set_option linter.unusedVariables false
set_option linter.unusedSimpArgs false
namespace Go.Ab.Ytfgndomaadikoaa
open Go Go.RowKit Go.Ab Go.Proofs

theorem fb23_LvV : FB Try.prog 23 := ⟨_, Try.func23, rfl, by kernel_rfl⟩
theorem si45_LvV : SI Try.prog 45 5 := ⟨Try.underlying45⟩
theorem fb29_LvV : FB Try.prog 29 := ⟨_, Try.func29, rfl, by kernel_rfl⟩
theorem fb30_LvV : FB Try.prog 30 := ⟨_, Try.func30, rfl, by kernel_rfl⟩
theorem tz39_LvV : TZ Try.prog 39 [(.int .i64 0), (.int .i64 0), (.slice none 0 0)] := ⟨⟨.agg #[(.int .i64 0), (.int .i64 0), (.slice none 0 0)], by kernel_rfl, rfl⟩, by kernel_rfl⟩
theorem ti39_LvV : TI Try.prog 39 3 true := ⟨by kernel_rfl, by kernel_rfl⟩
theorem hmo_LvV : Try.prog.follows .mixedOrders = true := by kernel_rfl
theorem fb39_LvV : FB Try.prog 39 := ⟨_, Try.func39, rfl, by kernel_rfl⟩
theorem fb40_LvV : FB Try.prog 40 := ⟨_, Try.func40, rfl, by kernel_rfl⟩
theorem si24_LvV : SI Try.prog 24 39 := ⟨Try.underlying24⟩
theorem ei39_LvV : EI Try.prog 39 3 40 := ⟨by kernel_rfl⟩
theorem fb26_LvV : FB Try.prog 26 := ⟨_, Try.func26, rfl, by kernel_rfl⟩
theorem fb31_LvV : FB Try.prog 31 := ⟨_, Try.func31, rfl, by kernel_rfl⟩
theorem fb41_LvV : FB Try.prog 41 := ⟨_, Try.func41, rfl, by kernel_rfl⟩
theorem fb35_LvV : FB Try.prog 35 := ⟨_, Try.func35, rfl, by kernel_rfl⟩
theorem fb33_LvV : FB Try.prog 33 := ⟨_, Try.func33, rfl, by kernel_rfl⟩

abbrev mx (a b : Lvl) : Lvl := ⟨2, 0, [a, b]⟩
abbrev imx (a b : Lvl) : Lvl := ⟨3, 0, [a, b]⟩
abbrev sc (a : Lvl) : Lvl := ⟨1, 0, [a]⟩
/-- A level that may be. -/
abbrev lt4 (a : Lvl) : Prop := partsL a ≤ 64 ∧ deepL a ≤ 32 ∧ wfL a 4 = true
theorem isP_in {x0 x1 x2 x3 : Int} (p0 : isP x0) (p1 : isP x1) (p2 : isP x2) (p3 : isP x3) : inX x0 x1 x2 x3 := by
  unfold isP at p0 p1 p2 p3; unfold inX; omega
theorem leq_by {a b : Lvl} (hA : lt4 a) (hB : lt4 b) (h : ∀ x0 x1 x2 x3 : Int, inX x0 x1 x2 x3 → evalF [x0, x1, x2, x3] a ≤ evalF [x0, x1, x2, x3] b) : leqF a b = true :=
  leq_complete hA.2.2 hB.2.2 hA.2.1 hB.2.1 fun x0 x1 x2 x3 p0 p1 p2 p3 => h x0 x1 x2 x3 (isP_in p0 p1 p2 p3)
theorem leq_at {a b : Lvl} (hA : lt4 a) (hB : lt4 b) (h : leqF a b = true) {x0 x1 x2 x3 : Int} (hx : inX x0 x1 x2 x3) : evalF [x0, x1, x2, x3] a ≤ evalF [x0, x1, x2, x3] b :=
  leq_sound hA.2.2 hB.2.2 h hx
theorem eval_mx (l : List Int) (a b : Lvl) : evalF l (mx a b) = max (evalF l a) (evalF l b) := by simp [evalF, evalFs, evK]
theorem eval_imx (l : List Int) (a b : Lvl) : evalF l (imx a b) = if evalF l b = 0 then 0 else max (evalF l a) (evalF l b) := by simp [evalF, evalFs, evK]
theorem eval_sc (l : List Int) (a : Lvl) : evalF l (sc a) = evalF l a + 1 := by simp [evalF, evalFs, evK]
theorem ev0 (l : List Int) (a : Lvl) : 0 ≤ evalF l a := (evalF_bd l a).1

theorem ord_through {a b c : Lvl} (hA : lt4 a) (hB : lt4 b) (hC : lt4 c) (h1 : (!leqF a b) = false) (h2 : (!leqF b c) = false) : leqF a c = true := by
  simp only [Bool.not_eq_false'] at h1 h2
  exact leq_by hA hC fun x0 x1 x2 x3 hx => Int.le_trans (leq_at hA hB h1 hx) (leq_at hB hC h2 hx)
theorem ord_least {a b c : Lvl} (hA : lt4 a) (hB : lt4 b) (hC : lt4 c) (hM : lt4 (mx a b)) : leqF (mx a b) c = (leqF a c && leqF b c) := by
  refine Bool.eq_iff_iff.2 ⟨fun h => ?_, fun h => ?_⟩
  · refine Bool.and_eq_true_iff.2 ⟨leq_by hA hC fun x0 x1 x2 x3 hx => ?_, leq_by hB hC fun x0 x1 x2 x3 hx => ?_⟩ <;>
    · have := leq_at hM hC h hx
      rw [eval_mx] at this
      omega
  · obtain ⟨h1, h2⟩ := Bool.and_eq_true_iff.1 h
    refine leq_by hM hC fun x0 x1 x2 x3 hx => ?_
    have := leq_at hA hC h1 hx; have := leq_at hB hC h2 hx
    rw [eval_mx]; omega
theorem ord_strict {a : Lvl} (hA : lt4 a) (hS : lt4 (sc a)) : leqF (sc a) a = false := by
  cases h : leqF (sc a) a with
  | false => rfl
  | true =>
    have := leq_at hS hA h (x0 := 0) (x1 := 0) (x2 := 0) (x3 := 0) (by unfold inX; omega)
    rw [eval_sc] at this; omega
theorem ord_refl {a : Lvl} (hA : lt4 a) : leqF a a = true := leq_by hA hA fun _ _ _ _ _ => Int.le_refl _
theorem ord_am {a b : Lvl} (hA : lt4 a) (hM : lt4 (mx a b)) : leqF a (mx a b) = true := leq_by hA hM fun _ _ _ _ _ => by rw [eval_mx]; omega
theorem ord_bi {a b : Lvl} (hB : lt4 b) (hI : lt4 (imx a b)) : leqF b (imx a b) = true := leq_by hB hI fun _ _ _ _ _ => by rw [eval_imx]; split <;> omega
theorem ord_im {a b : Lvl} (hI : lt4 (imx a b)) (hM : lt4 (mx a b)) : leqF (imx a b) (mx a b) = true := leq_by hI hM fun x0 x1 x2 x3 _ => by
  have := ev0 [x0, x1, x2, x3] a
  rw [eval_imx, eval_mx]; split <;> omega
theorem ord_same {a b : Lvl} (hB : lt4 b) (hI : lt4 (imx a b)) (hM : lt4 (mx a b)) (h : evalF [] b > 0) : (leqF (imx a b) (mx a b) && leqF (mx a b) (imx a b)) = true := by
  refine Bool.and_eq_true_iff.2 ⟨ord_im hI hM, leq_by hM hI fun x0 x1 x2 x3 hx => ?_⟩
  have := never_up x0 x1 x2 x3 hx b hB.2.2 h
  rw [eval_imx, eval_mx, if_neg (by omega)]; omega
theorem ord_same' {a b : Lvl} (hB : lt4 b) (hI : lt4 (imx a b)) (hM : lt4 (mx a b)) (h : (!decide (evalF [] b > 0)) = false) : (leqF (imx a b) (mx a b) && leqF (mx a b) (imx a b)) = true :=
  ord_same hB hI hM (by simpa using h)
theorem ord_same'' {a b : Lvl} (hB : lt4 b) (hI : lt4 (imx a b)) (hM : lt4 (mx a b)) (h : ¬ ¬ evalF [] b > 0) : (leqF (imx a b) (mx a b) && leqF (mx a b) (imx a b)) = true :=
  ord_same hB hI hM (Decidable.not_not.1 h)

theorem sub_five (a b c m i : Lvl) : Sub (.p (.sl 3 [[I a.kind, I a.n, .sl 3 (encLs a.args)], [I b.kind, I b.n, .sl 3 (encLs b.args)], [I c.kind, I c.n, .sl 3 (encLs c.args)], [I m.kind, I m.n, .sl 3 (encLs m.args)], [I i.kind, I i.n, .sl 3 (encLs i.args)]])) (.p (.sl 3 (encLs [a, b, c, m, i]))) :=
  Sub.eq (by simp [encLs, encL_eq, rowL])
theorem light5 {a b c m i : Lvl} (h : (!(([a, b, c, m, i] : List Lvl).all fun l => lightB l 4)) = false) : lt4 a ∧ lt4 b ∧ lt4 c ∧ lt4 m ∧ lt4 i := by
  simp only [List.all_cons, List.all_nil, Bool.and_true, Bool.not_eq_false', Bool.and_eq_true] at h
  exact ⟨of_decide_eq_true h.1, of_decide_eq_true h.2.1, of_decide_eq_true h.2.2.1, of_decide_eq_true h.2.2.2.1, of_decide_eq_true h.2.2.2.2⟩
theorem sub_one (a : Lvl) : Sub (.p (.sl 3 [[I a.kind, I a.n, .sl 3 (encLs a.args)]])) (.p (.sl 3 (encLs [a]))) := Sub.eq (by rw [← encLs_one])
theorem light1 {a : Lvl} (h : (!(([a] : List Lvl).all fun l => lightB l 4)) = false) : lt4 a := by
  simp only [List.all_cons, List.all_nil, Bool.and_true, Bool.not_eq_false', Bool.and_eq_true] at h
  exact of_decide_eq_true h

theorem LevelOrder_con (picks : List Int) (hl : okB picks) (hll : (picks.length : Int) ≤ 9223372036854775807) :
    PCon Try.prog 9 [.p (.sl 1 (byts picks))] (.p (B true)) := by
  have hg := pL_ge picks 4 (picks.length + 1) 0
  have hg2 := pL_ge picks 4 (picks.length + 1) (pL picks 4 (picks.length + 1) 0).2
  have na := pL_nar picks 4 (picks.length + 1) 0
  have nb := pL_nar picks 4 (picks.length + 1) (pL picks 4 (picks.length + 1) 0).2
  refine con_of Try.func9 rfl 116 Try.ntmps9 rfl fun cx hcx => ?_
  refine awp_seq ?_
  refine awp_region ?_
  refine awl_assign rfl rfl ?_
  refine awl_nil ?_
  change AWp _ _ _ _ _ _
  refine awp_seq ?_
  refine awp_seq ?_
  refine awp_region ?_
  refine awl_pcall fb23_LvV rfl (begun4_con) .nil rfl ?_
  first | refine awl_un rfl rfl rfl un_notd ?_ | refine awl_un rfl rfl rfl un_not ?_
  refine awl_nil ?_
  change AWp _ _ _ _ _ _
  refine awp_cond_f (by first | exact rfl | exact decide_eq_true rfl | exact decide_eq_false rfl) rfl ?_
  refine awp_skip ?_
  change AWp _ _ _ _ _ _
  refine awp_seq ?_
  refine awp_seq ?_
  refine awp_region ?_
  refine awl_move rfl rfl ?_
  refine x_len si45_LvV rfl rfl rfl (fun hlen5 => ?_)
  refine awl_bin rfl rfl rfl rfl bin_gtr ?_
  refine awl_nil ?_
  change AWp _ _ _ _ _ _
  first | refine awp_cond_p rfl (fun hm => ?_) (fun hm => ?_) | refine awp_cond rfl (fun hm => ?_) (fun hm => ?_)
  · skip
    refine awp_seq ?_
    refine awp_region ?_
    refine awl_assign rfl rfl ?_
    refine awl_nil ?_
    change AWp _ _ _ _ _ _
    refine awp_ret ?_
    change Ends _ _ _ _ _ _
    refine ends1 [] rfl (.tmp rfl) ?_ rfl
    first | exact ⟨rfl, rfl⟩ | exact ⟨B_eq (ord_same' hB hI hM q9), rfl⟩ | exact ⟨B_eq (ord_same'' hB hI hM q9), rfl⟩
  · skip
    refine awp_skip ?_
    change AWp _ _ _ _ _ _
    refine awp_seq ?_
    refine awp_region ?_
    refine awl_move rfl rfl ?_
    refine x_call [] fb29_LvV rfl rfl rfl ((Made_con picks).sw 5 800) (.cons (by first | exact Sub.refl _ | exact Sub.ts | exact Sub.nil | exact Sub.agc (by repeat (first | exact .nil | refine .cons (by first | exact Sub.refl _ | exact Sub.nil) ?_))) .nil) rfl (fun r o ⟨_, _, ⟨e1, e2⟩, e3, e4⟩ => ?_)
    subst e1 e2 e3 e4
    refine ⟨by rw [hcx]; rfl, _, rfl, ?_⟩
    refine awl_assign rfl rfl ?_
    refine awl_nil ?_
    change AWp _ _ _ _ _ _
    refine awp_seq ?_
    refine awp_region ?_
    refine awl_move rfl rfl ?_
    refine x_call [800] fb30_LvV rfl rfl rfl ((Level_con picks hl hll 4 (by omega) (picks.length + 1) 0 (by omega) (by omega) (by omega)).sw 1000 800) (.cons (by first | exact Sub.refl _ | exact Sub.ts | exact Sub.nil | exact Sub.agc (by repeat (first | exact .nil | refine .cons (by first | exact Sub.refl _ | exact Sub.nil) ?_))) (.cons (by first | exact Sub.refl _ | exact Sub.ts | exact Sub.nil | exact Sub.agc (by repeat (first | exact .nil | refine .cons (by first | exact Sub.refl _ | exact Sub.nil) ?_))) .nil)) rfl (fun r o ⟨_, _, ⟨e1, e2⟩, e3, e4⟩ => ?_)
    subst e1 e2 e3 e4
    refine ⟨by rw [hcx]; rfl, _, rfl, ?_⟩
    refine x_alloc tz39_LvV rfl rfl (by rw [hcx]; rfl) rfl ?_
    refine x_store ti39_LvV rfl rfl rfl rfl rfl rfl rfl rfl ?_
    refine awl_nil ?_
    change AWp _ _ _ _ _ _
    refine awp_seq ?_
    refine awp_region ?_
    refine awl_move rfl rfl ?_
    refine x_call [800] fb30_LvV rfl rfl rfl ((Level_con picks hl hll 4 (by omega) (picks.length + 1) (pL picks 4 (picks.length + 1) 0).2 (by omega) (by omega) (by omega)).sw 1000 800) (.cons (by first | exact Sub.refl _ | exact Sub.ts | exact Sub.nil | exact Sub.agc (by repeat (first | exact .nil | refine .cons (by first | exact Sub.refl _ | exact Sub.nil) ?_))) (.cons (by first | exact Sub.refl _ | exact Sub.ts | exact Sub.nil | exact Sub.agc (by repeat (first | exact .nil | refine .cons (by first | exact Sub.refl _ | exact Sub.nil) ?_))) .nil)) rfl (fun r o ⟨_, _, ⟨e1, e2⟩, e3, e4⟩ => ?_)
    subst e1 e2 e3 e4
    refine ⟨by rw [hcx]; rfl, _, rfl, ?_⟩
    refine x_alloc tz39_LvV rfl rfl (by rw [hcx]; rfl) rfl ?_
    refine x_store ti39_LvV rfl rfl rfl rfl rfl rfl rfl rfl ?_
    refine awl_nil ?_
    change AWp _ _ _ _ _ _
    refine awp_seq ?_
    refine awp_region ?_
    refine awl_move rfl rfl ?_
    refine x_call [800] fb30_LvV rfl rfl rfl ((Level_con picks hl hll 4 (by omega) (picks.length + 1) (pL picks 4 (picks.length + 1) (pL picks 4 (picks.length + 1) 0).2).2 (by omega) (by omega) (by omega)).sw 1000 800) (.cons (by first | exact Sub.refl _ | exact Sub.ts | exact Sub.nil | exact Sub.agc (by repeat (first | exact .nil | refine .cons (by first | exact Sub.refl _ | exact Sub.nil) ?_))) (.cons (by first | exact Sub.refl _ | exact Sub.ts | exact Sub.nil | exact Sub.agc (by repeat (first | exact .nil | refine .cons (by first | exact Sub.refl _ | exact Sub.nil) ?_))) .nil)) rfl (fun r o ⟨_, _, ⟨e1, e2⟩, e3, e4⟩ => ?_)
    subst e1 e2 e3 e4
    refine ⟨by rw [hcx]; rfl, _, rfl, ?_⟩
    refine x_alloc tz39_LvV rfl rfl (by rw [hcx]; rfl) rfl ?_
    refine x_store ti39_LvV rfl rfl rfl rfl rfl rfl rfl rfl ?_
    refine awl_nil ?_
    change AWp _ _ _ _ _ _
    refine awp_seq ?_
    apply awp_drawS [6, 7, 8, 9] [8, 9] [(6, 7), (7, 8)] ((fun (B : Obs) => oget [([], B), ([6], (7, .ce 39 [.p (.v (.int .i64 0)), .p (.v (.int .i64 0)), .p (.v (.slice none 0 0))]) :: B), ([7], (8, .ce 39 [.p (.v (.int .i64 0)), .p (.v (.int .i64 0)), .p (.v (.slice none 0 0))]) :: B), ([6, 7], (8, .ce 39 [.p (.v (.int .i64 0)), .p (.v (.int .i64 0)), .p (.v (.slice none 0 0))]) :: (7, .ce 39 [.p (.v (.int .i64 0)), .p (.v (.int .i64 0)), .p (.v (.slice none 0 0))]) :: B), ([6, 7, 8], _), ([6, 7, 8, 9], _)]) _)
    · rfl
    · rfl
    · exact hmo_LvV
    · kernel_rfl
    · rfl
    refine awd_s [[6, 7], [6], [7], []] [(4, _)] (.cons rfl (.nil)) rfl rfl rfl (by kernel_rfl) ?_
    apply Exists.intro
    refine ⟨(⟨fun regs' => ?_,⟨fun regs' => ?_,⟨fun regs' => ?_,⟨fun regs' => ?_, trivial⟩⟩⟩⟩), ?_, ?_⟩
    · skip
      first | refine awl_load_row ti39_LvV rfl rfl rfl rfl ?_ | refine x_irow ti39_LvV rfl rfl rfl rfl ?_
      exact awl_doneS rfl rfl
    · skip
      first | refine awl_load_row ti39_LvV rfl rfl rfl rfl ?_ | refine x_irow ti39_LvV rfl rfl rfl rfl ?_
      exact awl_doneS rfl rfl
    · skip
      first | refine awl_load_row ti39_LvV rfl rfl rfl rfl ?_ | refine x_irow ti39_LvV rfl rfl rfl rfl ?_
      exact awl_doneS rfl rfl
    · skip
      first | refine awl_load_row ti39_LvV rfl rfl rfl rfl ?_ | refine x_irow ti39_LvV rfl rfl rfl rfl ?_
      exact awl_doneS rfl rfl
    · kernel_rfl
    refine awd_s [[6, 7], [6], [7], []] [(5, _)] (.cons rfl (.nil)) rfl rfl rfl (by kernel_rfl) ?_
    apply Exists.intro
    refine ⟨(⟨fun regs' => ?_,⟨fun regs' => ?_,⟨fun regs' => ?_,⟨fun regs' => ?_, trivial⟩⟩⟩⟩), ?_, ?_⟩
    · skip
      first | refine awl_load_row ti39_LvV rfl rfl rfl rfl ?_ | refine x_irow ti39_LvV rfl rfl rfl rfl ?_
      exact awl_doneS rfl rfl
    · skip
      first | refine awl_load_row ti39_LvV rfl rfl rfl rfl ?_ | refine x_irow ti39_LvV rfl rfl rfl rfl ?_
      exact awl_doneS rfl rfl
    · skip
      first | refine awl_load_row ti39_LvV rfl rfl rfl rfl ?_ | refine x_irow ti39_LvV rfl rfl rfl rfl ?_
      exact awl_doneS rfl rfl
    · skip
      first | refine awl_load_row ti39_LvV rfl rfl rfl rfl ?_ | refine x_irow ti39_LvV rfl rfl rfl rfl ?_
      exact awl_doneS rfl rfl
    · kernel_rfl
    refine awd_s [[6, 7], [6], [7], []] [(26, _), (27, _)] (.cons rfl (.cons rfl (.nil))) rfl rfl rfl (by kernel_rfl) ?_
    apply Exists.intro
    refine ⟨(⟨fun regs' => ?_,⟨fun regs' => ?_,⟨fun regs' => ?_,⟨fun regs' => ?_, trivial⟩⟩⟩⟩), ?_, ?_⟩
    · skip
      refine awl_pcall fb39_LvV rfl (Max_con _ _ na nb) (.cons (by first | exact Sub.refl _ | exact Sub.ts | exact Sub.nil | exact Sub.agc (by repeat (first | exact .nil | refine .cons (by first | exact Sub.refl _ | exact Sub.nil) ?_))) (.cons (by first | exact Sub.refl _ | exact Sub.ts | exact Sub.nil | exact Sub.agc (by repeat (first | exact .nil | refine .cons (by first | exact Sub.refl _ | exact Sub.nil) ?_))) .nil)) rfl ?_
      exact awl_doneS rfl rfl
    · skip
      refine awl_pcall fb39_LvV rfl (Max_con _ _ na nb) (.cons (by first | exact Sub.refl _ | exact Sub.ts | exact Sub.nil | exact Sub.agc (by repeat (first | exact .nil | refine .cons (by first | exact Sub.refl _ | exact Sub.nil) ?_))) (.cons (by first | exact Sub.refl _ | exact Sub.ts | exact Sub.nil | exact Sub.agc (by repeat (first | exact .nil | refine .cons (by first | exact Sub.refl _ | exact Sub.nil) ?_))) .nil)) rfl ?_
      exact awl_doneS rfl rfl
    · skip
      refine awl_pcall fb39_LvV rfl (Max_con _ _ na nb) (.cons (by first | exact Sub.refl _ | exact Sub.ts | exact Sub.nil | exact Sub.agc (by repeat (first | exact .nil | refine .cons (by first | exact Sub.refl _ | exact Sub.nil) ?_))) (.cons (by first | exact Sub.refl _ | exact Sub.ts | exact Sub.nil | exact Sub.agc (by repeat (first | exact .nil | refine .cons (by first | exact Sub.refl _ | exact Sub.nil) ?_))) .nil)) rfl ?_
      exact awl_doneS rfl rfl
    · skip
      refine awl_pcall fb39_LvV rfl (Max_con _ _ na nb) (.cons (by first | exact Sub.refl _ | exact Sub.ts | exact Sub.nil | exact Sub.agc (by repeat (first | exact .nil | refine .cons (by first | exact Sub.refl _ | exact Sub.nil) ?_))) (.cons (by first | exact Sub.refl _ | exact Sub.ts | exact Sub.nil | exact Sub.agc (by repeat (first | exact .nil | refine .cons (by first | exact Sub.refl _ | exact Sub.nil) ?_))) .nil)) rfl ?_
      exact awl_doneS rfl rfl
    · kernel_rfl
    refine awd_s [[6, 7], [6], [7], []] [(4, _)] (.cons rfl (.nil)) rfl rfl rfl (by kernel_rfl) ?_
    apply Exists.intro
    refine ⟨(⟨fun regs' => ?_,⟨fun regs' => ?_,⟨fun regs' => ?_,⟨fun regs' => ?_, trivial⟩⟩⟩⟩), ?_, ?_⟩
    · skip
      first | refine awl_load_row ti39_LvV rfl rfl rfl rfl ?_ | refine x_irow ti39_LvV rfl rfl rfl rfl ?_
      exact awl_doneS rfl rfl
    · skip
      first | refine awl_load_row ti39_LvV rfl rfl rfl rfl ?_ | refine x_irow ti39_LvV rfl rfl rfl rfl ?_
      exact awl_doneS rfl rfl
    · skip
      first | refine awl_load_row ti39_LvV rfl rfl rfl rfl ?_ | refine x_irow ti39_LvV rfl rfl rfl rfl ?_
      exact awl_doneS rfl rfl
    · skip
      first | refine awl_load_row ti39_LvV rfl rfl rfl rfl ?_ | refine x_irow ti39_LvV rfl rfl rfl rfl ?_
      exact awl_doneS rfl rfl
    · kernel_rfl
    refine awd_s [[6, 7], [6], [7], []] [(5, _)] (.cons rfl (.nil)) rfl rfl rfl (by kernel_rfl) ?_
    apply Exists.intro
    refine ⟨(⟨fun regs' => ?_,⟨fun regs' => ?_,⟨fun regs' => ?_,⟨fun regs' => ?_, trivial⟩⟩⟩⟩), ?_, ?_⟩
    · skip
      first | refine awl_load_row ti39_LvV rfl rfl rfl rfl ?_ | refine x_irow ti39_LvV rfl rfl rfl rfl ?_
      exact awl_doneS rfl rfl
    · skip
      first | refine awl_load_row ti39_LvV rfl rfl rfl rfl ?_ | refine x_irow ti39_LvV rfl rfl rfl rfl ?_
      exact awl_doneS rfl rfl
    · skip
      first | refine awl_load_row ti39_LvV rfl rfl rfl rfl ?_ | refine x_irow ti39_LvV rfl rfl rfl rfl ?_
      exact awl_doneS rfl rfl
    · skip
      first | refine awl_load_row ti39_LvV rfl rfl rfl rfl ?_ | refine x_irow ti39_LvV rfl rfl rfl rfl ?_
      exact awl_doneS rfl rfl
    · kernel_rfl
    refine awd_s [[6, 7], [6], [7], []] [(29, _), (30, _)] (.cons rfl (.cons rfl (.nil))) rfl rfl rfl (by kernel_rfl) ?_
    apply Exists.intro
    refine ⟨(⟨fun regs' => ?_,⟨fun regs' => ?_,⟨fun regs' => ?_,⟨fun regs' => ?_, trivial⟩⟩⟩⟩), ?_, ?_⟩
    · skip
      refine awl_pcall fb40_LvV rfl (Imax_con _ _ na nb) (.cons (by first | exact Sub.refl _ | exact Sub.ts | exact Sub.nil | exact Sub.agc (by repeat (first | exact .nil | refine .cons (by first | exact Sub.refl _ | exact Sub.nil) ?_))) (.cons (by first | exact Sub.refl _ | exact Sub.ts | exact Sub.nil | exact Sub.agc (by repeat (first | exact .nil | refine .cons (by first | exact Sub.refl _ | exact Sub.nil) ?_))) .nil)) rfl ?_
      exact awl_doneS rfl rfl
    · skip
      refine awl_pcall fb40_LvV rfl (Imax_con _ _ na nb) (.cons (by first | exact Sub.refl _ | exact Sub.ts | exact Sub.nil | exact Sub.agc (by repeat (first | exact .nil | refine .cons (by first | exact Sub.refl _ | exact Sub.nil) ?_))) (.cons (by first | exact Sub.refl _ | exact Sub.ts | exact Sub.nil | exact Sub.agc (by repeat (first | exact .nil | refine .cons (by first | exact Sub.refl _ | exact Sub.nil) ?_))) .nil)) rfl ?_
      exact awl_doneS rfl rfl
    · skip
      refine awl_pcall fb40_LvV rfl (Imax_con _ _ na nb) (.cons (by first | exact Sub.refl _ | exact Sub.ts | exact Sub.nil | exact Sub.agc (by repeat (first | exact .nil | refine .cons (by first | exact Sub.refl _ | exact Sub.nil) ?_))) (.cons (by first | exact Sub.refl _ | exact Sub.ts | exact Sub.nil | exact Sub.agc (by repeat (first | exact .nil | refine .cons (by first | exact Sub.refl _ | exact Sub.nil) ?_))) .nil)) rfl ?_
      exact awl_doneS rfl rfl
    · skip
      refine awl_pcall fb40_LvV rfl (Imax_con _ _ na nb) (.cons (by first | exact Sub.refl _ | exact Sub.ts | exact Sub.nil | exact Sub.agc (by repeat (first | exact .nil | refine .cons (by first | exact Sub.refl _ | exact Sub.nil) ?_))) (.cons (by first | exact Sub.refl _ | exact Sub.ts | exact Sub.nil | exact Sub.agc (by repeat (first | exact .nil | refine .cons (by first | exact Sub.refl _ | exact Sub.nil) ?_))) .nil)) rfl ?_
      exact awl_doneS rfl rfl
    · kernel_rfl
    refine awd_new [[7], []] tz39_LvV rfl rfl (by rw [hcx]; rfl) rfl rfl (by kernel_rfl) rfl (by kernel_rfl) (⟨⟨by repeat (first | exact .nil | refine .cons rfl rfl ?_), rfl⟩,⟨⟨by repeat (first | exact .nil | refine .cons rfl rfl ?_), rfl⟩, trivial⟩⟩) ?_
    refine awd_new [[6], []] tz39_LvV rfl rfl (by rw [hcx]; rfl) rfl rfl (by kernel_rfl) rfl (by kernel_rfl) (⟨⟨by repeat (first | exact .nil | refine .cons rfl rfl ?_), rfl⟩,⟨⟨by repeat (first | exact .nil | refine .cons rfl rfl ?_), rfl⟩, trivial⟩⟩) ?_
    refine awd_e [6, 7] rfl rfl rfl (by kernel_rfl) rfl rfl ?_
    refine ⟨.any, ?_⟩
    refine ⟨?_, ?_, ?_⟩
    · skip
      refine x_store ti39_LvV rfl rfl rfl rfl rfl rfl rfl rfl ?_
      exact awl_done rfl
    · kernel_rfl
    refine awd_e [6, 7, 8] rfl rfl rfl (by kernel_rfl) rfl rfl ?_
    refine ⟨.any, ?_⟩
    refine ⟨?_, ?_, ?_⟩
    · skip
      refine x_store ti39_LvV rfl rfl rfl rfl rfl rfl rfl rfl ?_
      exact awl_done rfl
    · kernel_rfl
    refine awd_endS ?_
    try dsimp only [putd]
    change AWp _ _ _ _ _ _
    refine awp_seq ?_
    refine awp_seq ?_
    refine awp_region ?_
    first | refine awl_load_row ti39_LvV rfl rfl rfl rfl ?_ | refine x_irow ti39_LvV rfl rfl rfl rfl ?_
    first | refine awl_load_row ti39_LvV rfl rfl rfl rfl ?_ | refine x_irow ti39_LvV rfl rfl rfl rfl ?_
    first | refine awl_load_row ti39_LvV rfl rfl rfl rfl ?_ | refine x_irow ti39_LvV rfl rfl rfl rfl ?_
    first | refine awl_load_row ti39_LvV rfl rfl rfl rfl ?_ | refine x_irow ti39_LvV rfl rfl rfl rfl ?_
    first | refine awl_load_row ti39_LvV rfl rfl rfl rfl ?_ | refine x_irow ti39_LvV rfl rfl rfl rfl ?_
    refine x_slice si24_LvV ei39_LvV rfl rfl rfl rfl ?_
    refine awl_sub (sub_five _ _ _ (mx _ _) (imx _ _)) ?_
    refine awl_pcall fb26_LvV rfl (Light_con _) (.cons (by first | exact Sub.refl _ | exact Sub.ts | exact Sub.nil | exact Sub.agc (by repeat (first | exact .nil | refine .cons (by first | exact Sub.refl _ | exact Sub.nil) ?_))) .nil) rfl ?_
    first | refine awl_un rfl rfl rfl un_notd ?_ | refine awl_un rfl rfl rfl un_not ?_
    refine awl_nil ?_
    change AWp _ _ _ _ _ _
    first | refine awp_cond_p rfl (fun hg3 => ?_) (fun hg3 => ?_) | refine awp_cond rfl (fun hg3 => ?_) (fun hg3 => ?_)
    · skip
      refine awp_seq ?_
      refine awp_region ?_
      refine awl_assign rfl rfl ?_
      refine awl_nil ?_
      change AWp _ _ _ _ _ _
      refine awp_ret ?_
      change Ends _ _ _ _ _ _
      refine ends1 [] rfl (.tmp rfl) ?_ rfl
      first | exact ⟨rfl, rfl⟩ | exact ⟨B_eq (ord_same' hB hI hM q9), rfl⟩ | exact ⟨B_eq (ord_same'' hB hI hM q9), rfl⟩
    · skip
      obtain ⟨hA, hB, hC, hM, hI⟩ := light5 hg3
      refine awp_skip ?_
      change AWp _ _ _ _ _ _
      refine awp_seq ?_
      refine awp_fml 9 (True) [(3, _), (4, _), (5, _), (6, _), (7, _), (8, _)] (.cons rfl (.cons rfl (.cons rfl (.cons rfl (.cons rfl (.cons rfl (.nil))))))) ?_ ?_
      · skip
        refine awp_region ?_
        first | refine awl_load_row ti39_LvV rfl rfl rfl rfl ?_ | refine x_irow ti39_LvV rfl rfl rfl rfl ?_
        first | refine awl_load_row ti39_LvV rfl rfl rfl rfl ?_ | refine x_irow ti39_LvV rfl rfl rfl rfl ?_
        refine awl_pcall fb31_LvV rfl (Leq_con _ _ hA.2.2 hB.2.2 (by omega) (by omega)) (.cons (by first | exact Sub.refl _ | exact Sub.ts | exact Sub.nil | exact Sub.agc (by repeat (first | exact .nil | refine .cons (by first | exact Sub.refl _ | exact Sub.nil) ?_))) (.cons (by first | exact Sub.refl _ | exact Sub.ts | exact Sub.nil | exact Sub.agc (by repeat (first | exact .nil | refine .cons (by first | exact Sub.refl _ | exact Sub.nil) ?_))) .nil)) rfl ?_
        first | refine awl_un rfl rfl rfl un_notd ?_ | refine awl_un rfl rfl rfl un_not ?_
        refine awl_move rfl rfl ?_
        first | refine awl_split_p 44 rfl (fun q1 => ?_) (fun q1 => ?_) | refine awl_split 44 rfl (fun q1 => ?_) (fun q1 => ?_)
        · skip
          refine awl_guard_no rfl (by first | exact q1 | exact decide_eq_true q1 | exact decide_eq_false q1) rfl rfl rfl rfl ?_
          refine awl_guard_no rfl (by first | exact q1 | exact decide_eq_true q1 | exact decide_eq_false q1) rfl rfl rfl rfl ?_
          refine awl_guard_no rfl (by first | exact q1 | exact decide_eq_true q1 | exact decide_eq_false q1) rfl rfl rfl rfl ?_
          refine awl_guard_no rfl (by first | exact q1 | exact decide_eq_true q1 | exact decide_eq_false q1) rfl rfl rfl rfl ?_
          refine awl_pick_t (by first | exact q1 | exact decide_eq_true q1 | exact decide_eq_false q1) rfl rfl rfl ?_
          refine awl_move rfl rfl ?_
          refine awl_guard_no rfl rfl rfl rfl rfl rfl ?_
          refine awl_guard_no rfl rfl rfl rfl rfl rfl ?_
          refine awl_guard_no rfl rfl rfl rfl rfl rfl ?_
          refine awl_pick_t rfl rfl rfl rfl ?_
          refine awl_assign rfl rfl ?_
          refine awl_nil ?_
          exact ⟨rfl, _, (by first | (simp; done) | (rw [ord_through hA hB hC q1 q2]; simp; done)), Le.mk (.cons rfl (Sub.refl _) (.cons rfl (Sub.refl _) (.cons rfl (Sub.refl _) (.cons rfl (Sub.refl _) (.cons rfl (Sub.refl _) (.cons rfl (Sub.refl _) (.cons rfl (Sub.refl _) .nil))))))) (by repeat (first | exact .nil | refine .cons rfl rfl ?_)) rfl⟩
        · skip
          refine awl_guard_yes rfl (by first | exact q1 | exact decide_eq_true q1 | exact decide_eq_false q1) rfl rfl ?_
          first | refine awl_load_row ti39_LvV rfl rfl rfl rfl ?_ | refine x_irow ti39_LvV rfl rfl rfl rfl ?_
          refine awl_guard_yes rfl (by first | exact q1 | exact decide_eq_true q1 | exact decide_eq_false q1) rfl rfl ?_
          first | refine awl_load_row ti39_LvV rfl rfl rfl rfl ?_ | refine x_irow ti39_LvV rfl rfl rfl rfl ?_
          refine awl_guard_yes rfl (by first | exact q1 | exact decide_eq_true q1 | exact decide_eq_false q1) rfl rfl ?_
          refine awl_pcall fb31_LvV rfl (Leq_con _ _ hB.2.2 hC.2.2 (by omega) (by omega)) (.cons (by first | exact Sub.refl _ | exact Sub.ts | exact Sub.nil | exact Sub.agc (by repeat (first | exact .nil | refine .cons (by first | exact Sub.refl _ | exact Sub.nil) ?_))) (.cons (by first | exact Sub.refl _ | exact Sub.ts | exact Sub.nil | exact Sub.agc (by repeat (first | exact .nil | refine .cons (by first | exact Sub.refl _ | exact Sub.nil) ?_))) .nil)) rfl ?_
          refine awl_guard_yes rfl (by first | exact q1 | exact decide_eq_true q1 | exact decide_eq_false q1) rfl rfl ?_
          first | refine awl_un rfl rfl rfl un_notd ?_ | refine awl_un rfl rfl rfl un_not ?_
          refine awl_pick_f (by first | exact q1 | exact decide_eq_true q1 | exact decide_eq_false q1) rfl rfl rfl ?_
          refine awl_move rfl rfl ?_
          first | refine awl_split_p 50 rfl (fun q2 => ?_) (fun q2 => ?_) | refine awl_split 50 rfl (fun q2 => ?_) (fun q2 => ?_)
          · skip
            refine awl_guard_no rfl (by first | exact q2 | exact decide_eq_true q2 | exact decide_eq_false q2) rfl rfl rfl rfl ?_
            refine awl_guard_no rfl (by first | exact q2 | exact decide_eq_true q2 | exact decide_eq_false q2) rfl rfl rfl rfl ?_
            refine awl_guard_no rfl (by first | exact q2 | exact decide_eq_true q2 | exact decide_eq_false q2) rfl rfl rfl rfl ?_
            refine awl_pick_t (by first | exact q2 | exact decide_eq_true q2 | exact decide_eq_false q2) rfl rfl rfl ?_
            refine awl_assign rfl rfl ?_
            refine awl_nil ?_
            exact ⟨rfl, _, (by first | (simp; done) | (rw [ord_through hA hB hC q1 q2]; simp; done)), Le.mk (.cons rfl (Sub.refl _) (.cons rfl (Sub.refl _) (.cons rfl (Sub.refl _) (.cons rfl (Sub.refl _) (.cons rfl (Sub.refl _) (.cons rfl (Sub.refl _) (.cons rfl (Sub.refl _) .nil))))))) (by repeat (first | exact .nil | refine .cons rfl rfl ?_)) rfl⟩
          · skip
            refine awl_guard_yes rfl (by first | exact q2 | exact decide_eq_true q2 | exact decide_eq_false q2) rfl rfl ?_
            first | refine awl_load_row ti39_LvV rfl rfl rfl rfl ?_ | refine x_irow ti39_LvV rfl rfl rfl rfl ?_
            refine awl_guard_yes rfl (by first | exact q2 | exact decide_eq_true q2 | exact decide_eq_false q2) rfl rfl ?_
            first | refine awl_load_row ti39_LvV rfl rfl rfl rfl ?_ | refine x_irow ti39_LvV rfl rfl rfl rfl ?_
            refine awl_guard_yes rfl (by first | exact q2 | exact decide_eq_true q2 | exact decide_eq_false q2) rfl rfl ?_
            refine awl_pcall fb31_LvV rfl (Leq_con _ _ hA.2.2 hC.2.2 (by omega) (by omega)) (.cons (by first | exact Sub.refl _ | exact Sub.ts | exact Sub.nil | exact Sub.agc (by repeat (first | exact .nil | refine .cons (by first | exact Sub.refl _ | exact Sub.nil) ?_))) (.cons (by first | exact Sub.refl _ | exact Sub.ts | exact Sub.nil | exact Sub.agc (by repeat (first | exact .nil | refine .cons (by first | exact Sub.refl _ | exact Sub.nil) ?_))) .nil)) rfl ?_
            refine awl_pick_f (by first | exact q2 | exact decide_eq_true q2 | exact decide_eq_false q2) rfl rfl rfl ?_
            refine awl_assign rfl rfl ?_
            refine awl_nil ?_
            exact ⟨rfl, _, (by first | (simp; done) | (rw [ord_through hA hB hC q1 q2]; simp; done)), Le.mk (.cons rfl (Sub.refl _) (.cons rfl (Sub.refl _) (.cons rfl (Sub.refl _) (.cons rfl (Sub.refl _) (.cons rfl (Sub.refl _) (.cons rfl (Sub.refl _) (.cons rfl (Sub.refl _) .nil))))))) (by repeat (first | exact .nil | refine .cons rfl rfl ?_)) rfl⟩
      change AWp _ _ _ _ _ _
      refine awp_seq ?_
      refine awp_fml 10 (True) [(3, _), (4, _), (5, _), (6, _), (7, _), (8, _), (9, _)] (.cons rfl (.cons rfl (.cons rfl (.cons rfl (.cons rfl (.cons rfl (.cons rfl (.nil)))))))) ?_ ?_
      · skip
        refine awp_draw0 hmo_LvV (by kernel_rfl) ?_
        refine awd_q [(7, _)] (.cons rfl (.nil)) rfl rfl rfl ?_
        apply Exists.intro
        refine ⟨fun regs' => ?_, ?_⟩
        · skip
          first | refine awl_load_row ti39_LvV rfl rfl rfl rfl ?_ | refine x_irow ti39_LvV rfl rfl rfl rfl ?_
          exact awl_done rfl
        refine awd_q [(6, _)] (.cons rfl (.nil)) rfl rfl rfl ?_
        apply Exists.intro
        refine ⟨fun regs' => ?_, ?_⟩
        · skip
          first | refine awl_load_row ti39_LvV rfl rfl rfl rfl ?_ | refine x_irow ti39_LvV rfl rfl rfl rfl ?_
          exact awl_done rfl
        refine awd_q [(55, _), (56, _)] (.cons rfl (.cons rfl (.nil))) rfl rfl rfl ?_
        apply Exists.intro
        refine ⟨fun regs' => ?_, ?_⟩
        · skip
          refine awl_pcall fb31_LvV rfl (Leq_con (mx _ _) _ hM.2.2 hC.2.2 (by omega) (by omega)) (.cons (by first | exact Sub.refl _ | exact Sub.ts | exact Sub.nil | exact Sub.agc (by repeat (first | exact .nil | refine .cons (by first | exact Sub.refl _ | exact Sub.nil) ?_))) (.cons (by first | exact Sub.refl _ | exact Sub.ts | exact Sub.nil | exact Sub.agc (by repeat (first | exact .nil | refine .cons (by first | exact Sub.refl _ | exact Sub.nil) ?_))) .nil)) rfl ?_
          exact awl_done rfl
        refine awd_q [(4, _)] (.cons rfl (.nil)) rfl rfl rfl ?_
        apply Exists.intro
        refine ⟨fun regs' => ?_, ?_⟩
        · skip
          first | refine awl_load_row ti39_LvV rfl rfl rfl rfl ?_ | refine x_irow ti39_LvV rfl rfl rfl rfl ?_
          exact awl_done rfl
        refine awd_q [(6, _)] (.cons rfl (.nil)) rfl rfl rfl ?_
        apply Exists.intro
        refine ⟨fun regs' => ?_, ?_⟩
        · skip
          first | refine awl_load_row ti39_LvV rfl rfl rfl rfl ?_ | refine x_irow ti39_LvV rfl rfl rfl rfl ?_
          exact awl_done rfl
        refine awd_q [(58, _), (59, _)] (.cons rfl (.cons rfl (.nil))) rfl rfl rfl ?_
        apply Exists.intro
        refine ⟨fun regs' => ?_, ?_⟩
        · skip
          refine awl_pcall fb31_LvV rfl (Leq_con _ _ hA.2.2 hC.2.2 (by omega) (by omega)) (.cons (by first | exact Sub.refl _ | exact Sub.ts | exact Sub.nil | exact Sub.agc (by repeat (first | exact .nil | refine .cons (by first | exact Sub.refl _ | exact Sub.nil) ?_))) (.cons (by first | exact Sub.refl _ | exact Sub.ts | exact Sub.nil | exact Sub.agc (by repeat (first | exact .nil | refine .cons (by first | exact Sub.refl _ | exact Sub.nil) ?_))) .nil)) rfl ?_
          exact awl_done rfl
        refine awd_q [(60, _)] (.cons rfl (.nil)) rfl rfl rfl ?_
        apply Exists.intro
        refine ⟨fun regs' => ?_, ?_⟩
        · skip
          refine awl_move rfl rfl ?_
          exact awl_done rfl
        first | refine awd_split_p 61 rfl (fun q3 => ?_) (fun q3 => ?_) | refine awd_split 61 rfl (fun q3 => ?_) (fun q3 => ?_)
        · skip
          refine awd_q [(5, _), (61, _)] (.cons rfl (.cons rfl (.nil))) rfl rfl rfl ?_
          apply Exists.intro
          refine ⟨fun regs' => ?_, ?_⟩
          · skip
            refine awl_guard_yes rfl (by first | exact q3 | exact decide_eq_true q3 | exact decide_eq_false q3) rfl rfl ?_
            first | refine awl_load_row ti39_LvV rfl rfl rfl rfl ?_ | refine x_irow ti39_LvV rfl rfl rfl rfl ?_
            exact awl_done rfl
          refine awd_q [(6, _), (61, _)] (.cons rfl (.cons rfl (.nil))) rfl rfl rfl ?_
          apply Exists.intro
          refine ⟨fun regs' => ?_, ?_⟩
          · skip
            refine awl_guard_yes rfl (by first | exact q3 | exact decide_eq_true q3 | exact decide_eq_false q3) rfl rfl ?_
            first | refine awl_load_row ti39_LvV rfl rfl rfl rfl ?_ | refine x_irow ti39_LvV rfl rfl rfl rfl ?_
            exact awl_done rfl
          refine awd_q [(62, _), (63, _), (61, _)] (.cons rfl (.cons rfl (.cons rfl (.nil)))) rfl rfl rfl ?_
          apply Exists.intro
          refine ⟨fun regs' => ?_, ?_⟩
          · skip
            refine awl_guard_yes rfl (by first | exact q3 | exact decide_eq_true q3 | exact decide_eq_false q3) rfl rfl ?_
            refine awl_pcall fb31_LvV rfl (Leq_con _ _ hB.2.2 hC.2.2 (by omega) (by omega)) (.cons (by first | exact Sub.refl _ | exact Sub.ts | exact Sub.nil | exact Sub.agc (by repeat (first | exact .nil | refine .cons (by first | exact Sub.refl _ | exact Sub.nil) ?_))) (.cons (by first | exact Sub.refl _ | exact Sub.ts | exact Sub.nil | exact Sub.agc (by repeat (first | exact .nil | refine .cons (by first | exact Sub.refl _ | exact Sub.nil) ?_))) .nil)) rfl ?_
            exact awl_done rfl
          refine awd_q [(61, _), (64, _)] (.cons rfl (.cons rfl (.nil))) rfl rfl rfl ?_
          apply Exists.intro
          refine ⟨fun regs' => ?_, ?_⟩
          · skip
            refine awl_pick_t (by first | exact q3 | exact decide_eq_true q3 | exact decide_eq_false q3) rfl rfl rfl ?_
            exact awl_done rfl
          refine awd_q [(57, _), (65, _)] (.cons rfl (.cons rfl (.nil))) rfl rfl rfl ?_
          apply Exists.intro
          refine ⟨fun regs' => ?_, ?_⟩
          · skip
            refine awl_bin rfl rfl rfl rfl (bool_eql Try.underlying4) ?_
            exact awl_done rfl
          refine awd_q [(66, _)] (.cons rfl (.nil)) rfl rfl rfl ?_
          apply Exists.intro
          refine ⟨fun regs' => ?_, ?_⟩
          · skip
            refine awl_assign rfl rfl ?_
            exact awl_done rfl
          refine awd_nil ?_
          exact ⟨rfl, _, (by rw [ord_least hA hB hC hM, q3]; simp), Le.mk (.cons rfl (Sub.refl _) (.cons rfl (Sub.refl _) (.cons rfl (Sub.refl _) (.cons rfl (Sub.refl _) (.cons rfl (Sub.refl _) (.cons rfl (Sub.refl _) (.cons rfl (Sub.refl _) (.cons rfl (Sub.refl _) .nil)))))))) (by repeat (first | exact .nil | refine .cons rfl rfl ?_)) rfl⟩
        · skip
          refine awd_q [(5, _), (61, _)] (.cons rfl (.cons rfl (.nil))) rfl rfl rfl ?_
          apply Exists.intro
          refine ⟨fun regs' => ?_, ?_⟩
          · skip
            refine awl_guard_no rfl (by first | exact q3 | exact decide_eq_true q3 | exact decide_eq_false q3) rfl rfl rfl rfl ?_
            exact awl_done rfl
          refine awd_q [(6, _), (61, _)] (.cons rfl (.cons rfl (.nil))) rfl rfl rfl ?_
          apply Exists.intro
          refine ⟨fun regs' => ?_, ?_⟩
          · skip
            refine awl_guard_no rfl (by first | exact q3 | exact decide_eq_true q3 | exact decide_eq_false q3) rfl rfl rfl rfl ?_
            exact awl_done rfl
          refine awd_q [(62, _), (63, _), (61, _)] (.cons rfl (.cons rfl (.cons rfl (.nil)))) rfl rfl rfl ?_
          apply Exists.intro
          refine ⟨fun regs' => ?_, ?_⟩
          · skip
            refine awl_guard_no rfl (by first | exact q3 | exact decide_eq_true q3 | exact decide_eq_false q3) rfl rfl rfl rfl ?_
            exact awl_done rfl
          refine awd_q [(61, _), (64, _)] (.cons rfl (.cons rfl (.nil))) rfl rfl rfl ?_
          apply Exists.intro
          refine ⟨fun regs' => ?_, ?_⟩
          · skip
            refine awl_pick_f (by first | exact q3 | exact decide_eq_true q3 | exact decide_eq_false q3) rfl rfl rfl ?_
            exact awl_done rfl
          refine awd_q [(57, _), (65, _)] (.cons rfl (.cons rfl (.nil))) rfl rfl rfl ?_
          apply Exists.intro
          refine ⟨fun regs' => ?_, ?_⟩
          · skip
            refine awl_bin rfl rfl rfl rfl (bool_eql Try.underlying4) ?_
            exact awl_done rfl
          refine awd_q [(66, _)] (.cons rfl (.nil)) rfl rfl rfl ?_
          apply Exists.intro
          refine ⟨fun regs' => ?_, ?_⟩
          · skip
            refine awl_assign rfl rfl ?_
            exact awl_done rfl
          refine awd_nil ?_
          exact ⟨rfl, _, (by rw [ord_least hA hB hC hM, q3]; simp), Le.mk (.cons rfl (Sub.refl _) (.cons rfl (Sub.refl _) (.cons rfl (Sub.refl _) (.cons rfl (Sub.refl _) (.cons rfl (Sub.refl _) (.cons rfl (Sub.refl _) (.cons rfl (Sub.refl _) (.cons rfl (Sub.refl _) .nil)))))))) (by repeat (first | exact .nil | refine .cons rfl rfl ?_)) rfl⟩
      change AWp _ _ _ _ _ _
      refine awp_seq ?_
      refine awp_region ?_
      first | refine awl_load_row ti39_LvV rfl rfl rfl rfl ?_ | refine x_irow ti39_LvV rfl rfl rfl rfl ?_
      refine awl_pcall fb41_LvV rfl (Succ_con _ na) (.cons (by first | exact Sub.refl _ | exact Sub.ts | exact Sub.nil | exact Sub.agc (by repeat (first | exact .nil | refine .cons (by first | exact Sub.refl _ | exact Sub.nil) ?_))) .nil) rfl ?_
      refine x_alloc tz39_LvV rfl rfl (by rw [hcx]; rfl) rfl ?_
      refine x_store ti39_LvV rfl rfl rfl rfl rfl rfl rfl rfl ?_
      refine awl_nil ?_
      change AWp _ _ _ _ _ _
      refine awp_seq ?_
      refine awp_fml 12 (True) [(3, _), (4, _), (5, _), (6, _), (7, _), (8, _), (9, _), (10, _), (11, _)] (.cons rfl (.cons rfl (.cons rfl (.cons rfl (.cons rfl (.cons rfl (.cons rfl (.cons rfl (.cons rfl (.nil)))))))))) ?_ ?_
      · skip
        refine awp_region ?_
        first | refine awl_load_row ti39_LvV rfl rfl rfl rfl ?_ | refine x_irow ti39_LvV rfl rfl rfl rfl ?_
        refine x_slice si24_LvV ei39_LvV rfl rfl rfl rfl ?_
        refine awl_sub (sub_one (sc _)) ?_
        refine awl_pcall fb26_LvV rfl (Light_con _) (.cons (by first | exact Sub.refl _ | exact Sub.ts | exact Sub.nil | exact Sub.agc (by repeat (first | exact .nil | refine .cons (by first | exact Sub.refl _ | exact Sub.nil) ?_))) .nil) rfl ?_
        first | refine awl_un rfl rfl rfl un_notd ?_ | refine awl_un rfl rfl rfl un_not ?_
        refine awl_move rfl rfl ?_
        first | refine awl_split_p 73 rfl (fun q4 => ?_) (fun q4 => ?_) | refine awl_split 73 rfl (fun q4 => ?_) (fun q4 => ?_)
        · skip
          refine awl_guard_no rfl (by first | exact q4 | exact decide_eq_true q4 | exact decide_eq_false q4) rfl rfl rfl rfl ?_
          refine awl_guard_no rfl (by first | exact q4 | exact decide_eq_true q4 | exact decide_eq_false q4) rfl rfl rfl rfl ?_
          refine awl_guard_no rfl (by first | exact q4 | exact decide_eq_true q4 | exact decide_eq_false q4) rfl rfl rfl rfl ?_
          refine awl_guard_no rfl (by first | exact q4 | exact decide_eq_true q4 | exact decide_eq_false q4) rfl rfl rfl rfl ?_
          refine awl_pick_t (by first | exact q4 | exact decide_eq_true q4 | exact decide_eq_false q4) rfl rfl rfl ?_
          refine awl_assign rfl rfl ?_
          refine awl_nil ?_
          exact ⟨rfl, _, (by first | (rw [ord_strict hA hS]; simp; done) | (simp; done)), Le.mk (.cons rfl (Sub.refl _) (.cons rfl (Sub.refl _) (.cons rfl (Sub.refl _) (.cons rfl (Sub.refl _) (.cons rfl (Sub.refl _) (.cons rfl (Sub.refl _) (.cons rfl (Sub.refl _) (.cons rfl (Sub.refl _) (.cons rfl (Sub.refl _) (.cons rfl (Sub.refl _) .nil)))))))))) (by repeat (first | exact .nil | refine .cons rfl rfl ?_)) rfl⟩
        · skip
          have hS := light1 q4
          refine awl_guard_yes rfl (by first | exact q4 | exact decide_eq_true q4 | exact decide_eq_false q4) rfl rfl ?_
          first | refine awl_load_row ti39_LvV rfl rfl rfl rfl ?_ | refine x_irow ti39_LvV rfl rfl rfl rfl ?_
          refine awl_guard_yes rfl (by first | exact q4 | exact decide_eq_true q4 | exact decide_eq_false q4) rfl rfl ?_
          first | refine awl_load_row ti39_LvV rfl rfl rfl rfl ?_ | refine x_irow ti39_LvV rfl rfl rfl rfl ?_
          refine awl_guard_yes rfl (by first | exact q4 | exact decide_eq_true q4 | exact decide_eq_false q4) rfl rfl ?_
          refine awl_pcall fb31_LvV rfl (Leq_con (sc _) _ hS.2.2 hA.2.2 (by omega) (by omega)) (.cons (by first | exact Sub.refl _ | exact Sub.ts | exact Sub.nil | exact Sub.agc (by repeat (first | exact .nil | refine .cons (by first | exact Sub.refl _ | exact Sub.nil) ?_))) (.cons (by first | exact Sub.refl _ | exact Sub.ts | exact Sub.nil | exact Sub.agc (by repeat (first | exact .nil | refine .cons (by first | exact Sub.refl _ | exact Sub.nil) ?_))) .nil)) rfl ?_
          refine awl_guard_yes rfl (by first | exact q4 | exact decide_eq_true q4 | exact decide_eq_false q4) rfl rfl ?_
          first | refine awl_un rfl rfl rfl un_notd ?_ | refine awl_un rfl rfl rfl un_not ?_
          refine awl_pick_f (by first | exact q4 | exact decide_eq_true q4 | exact decide_eq_false q4) rfl rfl rfl ?_
          refine awl_assign rfl rfl ?_
          refine awl_nil ?_
          exact ⟨rfl, _, (by first | (rw [ord_strict hA hS]; simp; done) | (simp; done)), Le.mk (.cons rfl (Sub.refl _) (.cons rfl (Sub.refl _) (.cons rfl (Sub.refl _) (.cons rfl (Sub.refl _) (.cons rfl (Sub.refl _) (.cons rfl (Sub.refl _) (.cons rfl (Sub.refl _) (.cons rfl (Sub.refl _) (.cons rfl (Sub.refl _) (.cons rfl (Sub.refl _) .nil)))))))))) (by repeat (first | exact .nil | refine .cons rfl rfl ?_)) rfl⟩
      change AWp _ _ _ _ _ _
      refine awp_seq ?_
      refine awp_region ?_
      refine awl_move rfl rfl ?_
      refine awl_move rfl rfl ?_
      refine awl_guard_yes rfl (by first | exact (decide_eq_true trivial) | exact decide_eq_true (decide_eq_true trivial) | exact decide_eq_false (decide_eq_true trivial)) rfl rfl ?_
      refine awl_move rfl rfl ?_
      refine awl_pick_t (by first | exact (decide_eq_true trivial) | exact decide_eq_true (decide_eq_true trivial) | exact decide_eq_false (decide_eq_true trivial)) rfl rfl rfl ?_
      refine awl_move rfl rfl ?_
      refine awl_guard_yes rfl (by first | exact (decide_eq_true trivial) | exact decide_eq_true (decide_eq_true trivial) | exact decide_eq_false (decide_eq_true trivial)) rfl rfl ?_
      refine awl_move rfl rfl ?_
      refine awl_pick_t (by first | exact (decide_eq_true trivial) | exact decide_eq_true (decide_eq_true trivial) | exact decide_eq_false (decide_eq_true trivial)) rfl rfl rfl ?_
      refine awl_move rfl rfl ?_
      refine awl_guard_yes rfl (by first | exact (decide_eq_true trivial) | exact decide_eq_true (decide_eq_true trivial) | exact decide_eq_false (decide_eq_true trivial)) rfl rfl ?_
      first | refine awl_load_row ti39_LvV rfl rfl rfl rfl ?_ | refine x_irow ti39_LvV rfl rfl rfl rfl ?_
      refine awl_guard_yes rfl (by first | exact (decide_eq_true trivial) | exact decide_eq_true (decide_eq_true trivial) | exact decide_eq_false (decide_eq_true trivial)) rfl rfl ?_
      first | refine awl_load_row ti39_LvV rfl rfl rfl rfl ?_ | refine x_irow ti39_LvV rfl rfl rfl rfl ?_
      refine awl_guard_yes rfl (by first | exact (decide_eq_true trivial) | exact decide_eq_true (decide_eq_true trivial) | exact decide_eq_false (decide_eq_true trivial)) rfl rfl ?_
      refine awl_pcall fb31_LvV rfl (Leq_con _ _ hA.2.2 hA.2.2 (by omega) (by omega)) (.cons (by first | exact Sub.refl _ | exact Sub.ts | exact Sub.nil | exact Sub.agc (by repeat (first | exact .nil | refine .cons (by first | exact Sub.refl _ | exact Sub.nil) ?_))) (.cons (by first | exact Sub.refl _ | exact Sub.ts | exact Sub.nil | exact Sub.agc (by repeat (first | exact .nil | refine .cons (by first | exact Sub.refl _ | exact Sub.nil) ?_))) .nil)) rfl ?_
      refine awl_pick_t (by first | exact (decide_eq_true trivial) | exact decide_eq_true (decide_eq_true trivial) | exact decide_eq_false (decide_eq_true trivial)) rfl rfl rfl ?_
      refine awl_move rfl rfl ?_
      refine awl_guard_yes rfl (by first | exact (ord_refl hA) | exact decide_eq_true (ord_refl hA) | exact decide_eq_false (ord_refl hA)) rfl rfl ?_
      first | refine awl_load_row ti39_LvV rfl rfl rfl rfl ?_ | refine x_irow ti39_LvV rfl rfl rfl rfl ?_
      refine awl_guard_yes rfl (by first | exact (ord_refl hA) | exact decide_eq_true (ord_refl hA) | exact decide_eq_false (ord_refl hA)) rfl rfl ?_
      first | refine awl_load_row ti39_LvV rfl rfl rfl rfl ?_ | refine x_irow ti39_LvV rfl rfl rfl rfl ?_
      refine awl_guard_yes rfl (by first | exact (ord_refl hA) | exact decide_eq_true (ord_refl hA) | exact decide_eq_false (ord_refl hA)) rfl rfl ?_
      refine awl_pcall fb31_LvV rfl (Leq_con _ (mx _ _) hA.2.2 hM.2.2 (by omega) (by omega)) (.cons (by first | exact Sub.refl _ | exact Sub.ts | exact Sub.nil | exact Sub.agc (by repeat (first | exact .nil | refine .cons (by first | exact Sub.refl _ | exact Sub.nil) ?_))) (.cons (by first | exact Sub.refl _ | exact Sub.ts | exact Sub.nil | exact Sub.agc (by repeat (first | exact .nil | refine .cons (by first | exact Sub.refl _ | exact Sub.nil) ?_))) .nil)) rfl ?_
      refine awl_pick_t (by first | exact (ord_refl hA) | exact decide_eq_true (ord_refl hA) | exact decide_eq_false (ord_refl hA)) rfl rfl rfl ?_
      refine awl_move rfl rfl ?_
      refine awl_guard_yes rfl (by first | exact (ord_am hA hM) | exact decide_eq_true (ord_am hA hM) | exact decide_eq_false (ord_am hA hM)) rfl rfl ?_
      first | refine awl_load_row ti39_LvV rfl rfl rfl rfl ?_ | refine x_irow ti39_LvV rfl rfl rfl rfl ?_
      refine awl_guard_yes rfl (by first | exact (ord_am hA hM) | exact decide_eq_true (ord_am hA hM) | exact decide_eq_false (ord_am hA hM)) rfl rfl ?_
      first | refine awl_load_row ti39_LvV rfl rfl rfl rfl ?_ | refine x_irow ti39_LvV rfl rfl rfl rfl ?_
      refine awl_guard_yes rfl (by first | exact (ord_am hA hM) | exact decide_eq_true (ord_am hA hM) | exact decide_eq_false (ord_am hA hM)) rfl rfl ?_
      refine awl_pcall fb31_LvV rfl (Leq_con _ (imx _ _) hB.2.2 hI.2.2 (by omega) (by omega)) (.cons (by first | exact Sub.refl _ | exact Sub.ts | exact Sub.nil | exact Sub.agc (by repeat (first | exact .nil | refine .cons (by first | exact Sub.refl _ | exact Sub.nil) ?_))) (.cons (by first | exact Sub.refl _ | exact Sub.ts | exact Sub.nil | exact Sub.agc (by repeat (first | exact .nil | refine .cons (by first | exact Sub.refl _ | exact Sub.nil) ?_))) .nil)) rfl ?_
      refine awl_pick_t (by first | exact (ord_am hA hM) | exact decide_eq_true (ord_am hA hM) | exact decide_eq_false (ord_am hA hM)) rfl rfl rfl ?_
      refine awl_move rfl rfl ?_
      refine awl_guard_yes rfl (by first | exact (ord_bi hB hI) | exact decide_eq_true (ord_bi hB hI) | exact decide_eq_false (ord_bi hB hI)) rfl rfl ?_
      first | refine awl_load_row ti39_LvV rfl rfl rfl rfl ?_ | refine x_irow ti39_LvV rfl rfl rfl rfl ?_
      refine awl_guard_yes rfl (by first | exact (ord_bi hB hI) | exact decide_eq_true (ord_bi hB hI) | exact decide_eq_false (ord_bi hB hI)) rfl rfl ?_
      first | refine awl_load_row ti39_LvV rfl rfl rfl rfl ?_ | refine x_irow ti39_LvV rfl rfl rfl rfl ?_
      refine awl_guard_yes rfl (by first | exact (ord_bi hB hI) | exact decide_eq_true (ord_bi hB hI) | exact decide_eq_false (ord_bi hB hI)) rfl rfl ?_
      refine awl_pcall fb31_LvV rfl (Leq_con (imx _ _) (mx _ _) hI.2.2 hM.2.2 (by omega) (by omega)) (.cons (by first | exact Sub.refl _ | exact Sub.ts | exact Sub.nil | exact Sub.agc (by repeat (first | exact .nil | refine .cons (by first | exact Sub.refl _ | exact Sub.nil) ?_))) (.cons (by first | exact Sub.refl _ | exact Sub.ts | exact Sub.nil | exact Sub.agc (by repeat (first | exact .nil | refine .cons (by first | exact Sub.refl _ | exact Sub.nil) ?_))) .nil)) rfl ?_
      refine awl_pick_t (by first | exact (ord_bi hB hI) | exact decide_eq_true (ord_bi hB hI) | exact decide_eq_false (ord_bi hB hI)) rfl rfl rfl ?_
      refine awl_move rfl rfl ?_
      refine awl_guard_yes rfl (by first | exact (ord_im hI hM) | exact decide_eq_true (ord_im hI hM) | exact decide_eq_false (ord_im hI hM)) rfl rfl ?_
      first | refine awl_load_row ti39_LvV rfl rfl rfl rfl ?_ | refine x_irow ti39_LvV rfl rfl rfl rfl ?_
      refine awl_guard_yes rfl (by first | exact (ord_im hI hM) | exact decide_eq_true (ord_im hI hM) | exact decide_eq_false (ord_im hI hM)) rfl rfl ?_
      refine awl_pcall fb35_LvV rfl (Never_con _ hB.2.2 (by omega)) (.cons (by first | exact Sub.refl _ | exact Sub.ts | exact Sub.nil | exact Sub.agc (by repeat (first | exact .nil | refine .cons (by first | exact Sub.refl _ | exact Sub.nil) ?_))) .nil) rfl ?_
      refine awl_guard_yes rfl (by first | exact (ord_im hI hM) | exact decide_eq_true (ord_im hI hM) | exact decide_eq_false (ord_im hI hM)) rfl rfl ?_
      first | refine awl_un rfl rfl rfl un_notd ?_ | refine awl_un rfl rfl rfl un_not ?_
      refine awl_guard_yes rfl (by first | exact (ord_im hI hM) | exact decide_eq_true (ord_im hI hM) | exact decide_eq_false (ord_im hI hM)) rfl rfl ?_
      refine awl_move rfl rfl ?_
      first | refine awl_split_p 110 rfl (fun q9 => ?_) (fun q9 => ?_) | refine awl_split 110 rfl (fun q9 => ?_) (fun q9 => ?_)
      · skip
        refine awl_guard_no rfl (by first | exact q9 | exact decide_eq_true q9 | exact decide_eq_false q9) rfl rfl rfl rfl ?_
        refine awl_guard_no rfl (by first | exact q9 | exact decide_eq_true q9 | exact decide_eq_false q9) rfl rfl rfl rfl ?_
        refine awl_guard_no rfl (by first | exact q9 | exact decide_eq_true q9 | exact decide_eq_false q9) rfl rfl rfl rfl ?_
        refine awl_guard_yes rfl (by first | exact (ord_im hI hM) | exact decide_eq_true (ord_im hI hM) | exact decide_eq_false (ord_im hI hM)) rfl rfl ?_
        refine awl_pick_t (by first | exact q9 | exact decide_eq_true q9 | exact decide_eq_false q9) rfl rfl rfl ?_
        refine awl_pick_t (by first | exact (ord_im hI hM) | exact decide_eq_true (ord_im hI hM) | exact decide_eq_false (ord_im hI hM)) rfl rfl rfl ?_
        refine awl_assign rfl rfl ?_
        refine awl_nil ?_
        change AWp _ _ _ _ _ _
        refine awp_ret ?_
        change Ends _ _ _ _ _ _
        refine ends1 [] rfl (.tmp rfl) ?_ rfl
        first | exact ⟨rfl, rfl⟩ | exact ⟨B_eq (ord_same' hB hI hM q9), rfl⟩ | exact ⟨B_eq (ord_same'' hB hI hM q9), rfl⟩
      · skip
        refine awl_guard_yes rfl (by first | exact q9 | exact decide_eq_true q9 | exact decide_eq_false q9) rfl rfl ?_
        first | refine awl_load_row ti39_LvV rfl rfl rfl rfl ?_ | refine x_irow ti39_LvV rfl rfl rfl rfl ?_
        refine awl_guard_yes rfl (by first | exact q9 | exact decide_eq_true q9 | exact decide_eq_false q9) rfl rfl ?_
        first | refine awl_load_row ti39_LvV rfl rfl rfl rfl ?_ | refine x_irow ti39_LvV rfl rfl rfl rfl ?_
        refine awl_guard_yes rfl (by first | exact q9 | exact decide_eq_true q9 | exact decide_eq_false q9) rfl rfl ?_
        refine awl_pcall fb33_LvV rfl (Same_con (imx _ _) (mx _ _) hI.2.2 hM.2.2 (by omega) (by omega)) (.cons (by first | exact Sub.refl _ | exact Sub.ts | exact Sub.nil | exact Sub.agc (by repeat (first | exact .nil | refine .cons (by first | exact Sub.refl _ | exact Sub.nil) ?_))) (.cons (by first | exact Sub.refl _ | exact Sub.ts | exact Sub.nil | exact Sub.agc (by repeat (first | exact .nil | refine .cons (by first | exact Sub.refl _ | exact Sub.nil) ?_))) .nil)) rfl ?_
        refine awl_guard_yes rfl (by first | exact (ord_im hI hM) | exact decide_eq_true (ord_im hI hM) | exact decide_eq_false (ord_im hI hM)) rfl rfl ?_
        refine awl_pick_f (by first | exact q9 | exact decide_eq_true q9 | exact decide_eq_false q9) rfl rfl rfl ?_
        refine awl_pick_t (by first | exact (ord_im hI hM) | exact decide_eq_true (ord_im hI hM) | exact decide_eq_false (ord_im hI hM)) rfl rfl rfl ?_
        refine awl_assign rfl rfl ?_
        refine awl_nil ?_
        change AWp _ _ _ _ _ _
        refine awp_ret ?_
        change Ends _ _ _ _ _ _
        refine ends1 [] rfl (.tmp rfl) ?_ rfl
        first | exact ⟨rfl, rfl⟩ | exact ⟨B_eq (ord_same' hB hI hM q9), rfl⟩ | exact ⟨B_eq (ord_same'' hB hI hM q9), rfl⟩

end Go.Ab.Ytfgndomaadikoaa
