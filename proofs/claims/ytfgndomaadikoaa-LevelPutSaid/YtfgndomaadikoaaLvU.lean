/- The law LevelHolds. -/
import Derived.Test.YtfgndomaadikoaaLvT
import Derived.Test.YtfgndomaadikoaaAb22
set_option linter.unusedVariables false
set_option linter.unusedSimpArgs false
namespace Go.Ab.Ytfgndomaadikoaa
open Go Go.RowKit Go.Ab Go.Proofs

theorem fb23_LvU : FB Try.prog 23 := ⟨_, Try.func23, rfl, by kernel_rfl⟩
theorem si45_LvU : SI Try.prog 45 5 := ⟨Try.underlying45⟩
theorem fb29_LvU : FB Try.prog 29 := ⟨_, Try.func29, rfl, by kernel_rfl⟩
theorem fb30_LvU : FB Try.prog 30 := ⟨_, Try.func30, rfl, by kernel_rfl⟩
theorem tz39_LvU : TZ Try.prog 39 [(.int .i64 0), (.int .i64 0), (.slice none 0 0)] := ⟨⟨.agg #[(.int .i64 0), (.int .i64 0), (.slice none 0 0)], by kernel_rfl, rfl⟩, by kernel_rfl⟩
theorem ti39_LvU : TI Try.prog 39 3 true := ⟨by kernel_rfl, by kernel_rfl⟩
theorem si24_LvU : SI Try.prog 24 39 := ⟨Try.underlying24⟩
theorem ei39_LvU : EI Try.prog 39 3 40 := ⟨by kernel_rfl⟩
theorem fb26_LvU : FB Try.prog 26 := ⟨_, Try.func26, rfl, by kernel_rfl⟩
theorem hmo_LvU : Try.prog.follows .mixedOrders = true := by kernel_rfl
theorem ai52_LvU : AI Try.prog 52 4 3 := ⟨Try.underlying52⟩
theorem ti3_LvU : TI Try.prog 3 1 false := ⟨by kernel_rfl, by kernel_rfl⟩
theorem fb27_LvU : FB Try.prog 27 := ⟨_, Try.func27, rfl, by kernel_rfl⟩
theorem fb31_LvU : FB Try.prog 31 := ⟨_, Try.func31, rfl, by kernel_rfl⟩
theorem fb33_LvU : FB Try.prog 33 := ⟨_, Try.func33, rfl, by kernel_rfl⟩
theorem fb35_LvU : FB Try.prog 35 := ⟨_, Try.func35, rfl, by kernel_rfl⟩

/-- A number as a place takes it. -/
def cl (x : Int) : Int := min (max x 0) 1099511627776
theorem cl_in (x0 x1 x2 x3 : Int) : inX (cl x0) (cl x1) (cl x2) (cl x3) := by unfold inX cl; omega
theorem evK_cl (l : List Int) (k n : Int) (vs : List Int) : evK (l.map cl) k n vs = evK l k n vs := by
  unfold evK
  simp only [List.length_map]
  have : ∀ m : Nat, m < l.length → (l.map cl).getD m 0 = cl (l.getD m 0) := fun m hm => by simp [List.getD_eq_getElem?_getD, hm]
  split
  · rfl
  · split
    · rfl
    · split
      · rfl
      · split
        · by_cases h : 0 ≤ n ∧ n < (l.length : Int)
          · rw [if_pos h, if_pos h, this _ (by omega)]; unfold cl; omega
          · rw [if_neg h, if_neg h]
        · rfl
mutual
theorem eval_cl (l : List Int) : ∀ t : Lvl, evalF (l.map cl) t = evalF l t
  | ⟨k, n, r⟩ => by simp only [evalF]; rw [evals_cl l r, evK_cl]
theorem evals_cl (l : List Int) : ∀ r : List Lvl, evalFs (l.map cl) r = evalFs l r
  | [] => rfl
  | a :: r => by simp only [evalFs]; rw [eval_cl l a, evals_cl l r]
end
theorem leq_sound' {a b : Lvl} (x0 x1 x2 x3 : Int) (hwa : wfL a 4 = true) (hwb : wfL b 4 = true) (h : leqF a b = true) : evalF [x0, x1, x2, x3] a ≤ evalF [x0, x1, x2, x3] b := by
  rw [← eval_cl [x0, x1, x2, x3] a, ← eval_cl [x0, x1, x2, x3] b]
  exact leq_sound hwa hwb h (cl_in x0 x1 x2 x3)
theorem never_up' {a : Lvl} (x0 x1 x2 x3 : Int) (hwa : wfL a 4 = true) (h : evalF [] a > 0) : evalF [x0, x1, x2, x3] a > 0 := by
  rw [← eval_cl [x0, x1, x2, x3] a]
  exact never_up _ _ _ _ (cl_in x0 x1 x2 x3) a hwa h

theorem holds1 {a b : Lvl} (x0 x1 x2 x3 : Int) (hwa : wfL a 4 = true) (hwb : wfL b 4 = true) (h : (!leqF a b) = false) : evalF [x0, x1, x2, x3] a ≤ evalF [x0, x1, x2, x3] b :=
  leq_sound' _ _ _ _ hwa hwb (by simpa using h)
theorem holds2 {a b : Lvl} (x0 x1 x2 x3 : Int) (hwa : wfL a 4 = true) (hwb : wfL b 4 = true) (h : (!(leqF a b && leqF b a)) = false) : evalF [x0, x1, x2, x3] a = evalF [x0, x1, x2, x3] b := by
  simp only [Bool.not_eq_false', Bool.and_eq_true] at h
  exact Int.le_antisymm (leq_sound' _ _ _ _ hwa hwb h.1) (leq_sound' _ _ _ _ hwb hwa h.2)
theorem holds3 {a : Lvl} (x0 x1 x2 x3 : Int) (hwa : wfL a 4 = true) (h : (!decide (evalF [] a > 0)) = false) : evalF [x0, x1, x2, x3] a > 0 :=
  never_up' _ _ _ _ hwa (by simpa using h)
theorem holds3' {a : Lvl} (x0 x1 x2 x3 : Int) (hwa : wfL a 4 = true) (h : ¬ (¬ evalF [] a > 0)) : evalF [x0, x1, x2, x3] a > 0 :=
  never_up' _ _ _ _ hwa (Decidable.not_not.1 h)

theorem LevelHolds_con (picks : List Int) (x0 x1 x2 x3 : Int) (hl : okB picks) (hll : (picks.length : Int) ≤ 9223372036854775807) :
    PCon Try.prog 8 [.p (.sl 1 (byts picks)), .ag [.p (I x0), .p (I x1), .p (I x2), .p (I x3)]] (.p (B true)) := by
  have hg := pL_ge picks 4 (picks.length + 1) 0
  refine con_of Try.func8 rfl 61 Try.ntmps8 rfl fun cx hcx => ?_
  refine awp_seq ?_
  refine awp_region ?_
  refine awl_box rfl rfl rfl rfl rfl (by rw [hcx]; rfl) rfl ?_
  refine awl_assign rfl rfl ?_
  refine awl_nil ?_
  change AWp _ _ _ _ _ _
  refine awp_seq ?_
  refine awp_seq ?_
  refine awp_region ?_
  refine awl_pcall fb23_LvU rfl (begun4_con) .nil rfl ?_
  first | refine awl_un rfl rfl rfl un_notd ?_ | refine awl_un rfl rfl rfl un_not ?_
  refine awl_nil ?_
  change AWp _ _ _ _ _ _
  refine awp_cond_f (by first | exact rfl | exact decide_eq_true rfl | exact decide_eq_false rfl) rfl ?_
  refine awp_skip ?_
  change AWp _ _ _ _ _ _
  refine awp_seq ?_
  refine awp_seq ?_
  refine awp_region ?_
  refine awl_move rfl rfl ?_
  refine x_len si45_LvU rfl rfl rfl (fun hlen6 => ?_)
  refine awl_bin rfl rfl rfl rfl bin_gtr ?_
  refine awl_nil ?_
  change AWp _ _ _ _ _ _
  first | refine awp_cond_p rfl (fun hm => ?_) (fun hm => ?_) | refine awp_cond rfl (fun hm => ?_) (fun hm => ?_)
  · skip
    refine awp_seq ?_
    refine awp_region ?_
    refine awl_assign rfl rfl ?_
    refine awl_nil ?_
    change AWp _ _ _ _ _ _
    refine awp_ret ?_
    change Ends _ _ _ _ _ _
    refine ends1 [] rfl (.tmp rfl) ?_ rfl
    first | exact ⟨rfl, rfl⟩ | exact ⟨B_eq (decide_eq_true (holds3 x0 x1 x2 x3 hA.2.2 q3)), rfl⟩ | exact ⟨B_eq (decide_eq_true (holds3' x0 x1 x2 x3 hA.2.2 q3)), rfl⟩
  · skip
    refine awp_skip ?_
    change AWp _ _ _ _ _ _
    refine awp_seq ?_
    refine awp_region ?_
    refine awl_move rfl rfl ?_
    refine x_call [] fb29_LvU rfl rfl rfl ((Made_con picks).sw 5 800) (.cons (by first | exact Sub.refl _ | exact Sub.ts | exact Sub.nil | exact Sub.agc (by repeat (first | exact .nil | refine .cons (by first | exact Sub.refl _ | exact Sub.nil) ?_))) .nil) rfl (fun r o ⟨_, _, ⟨e1, e2⟩, e3, e4⟩ => ?_)
    subst e1 e2 e3 e4
    refine ⟨by rw [hcx]; rfl, _, rfl, ?_⟩
    refine awl_assign rfl rfl ?_
    refine awl_nil ?_
    change AWp _ _ _ _ _ _
    refine awp_seq ?_
    refine awp_region ?_
    refine awl_move rfl rfl ?_
    refine x_call [800] fb30_LvU rfl rfl rfl ((Level_con picks hl hll 4 (by omega) (picks.length + 1) 0 (by omega) (by omega) (by omega)).sw 1000 800) (.cons (by first | exact Sub.refl _ | exact Sub.ts | exact Sub.nil | exact Sub.agc (by repeat (first | exact .nil | refine .cons (by first | exact Sub.refl _ | exact Sub.nil) ?_))) (.cons (by first | exact Sub.refl _ | exact Sub.ts | exact Sub.nil | exact Sub.agc (by repeat (first | exact .nil | refine .cons (by first | exact Sub.refl _ | exact Sub.nil) ?_))) .nil)) rfl (fun r o ⟨_, _, ⟨e1, e2⟩, e3, e4⟩ => ?_)
    subst e1 e2 e3 e4
    refine ⟨by rw [hcx]; rfl, _, rfl, ?_⟩
    refine x_alloc tz39_LvU rfl rfl (by rw [hcx]; rfl) rfl ?_
    refine x_store ti39_LvU rfl rfl rfl rfl rfl rfl rfl rfl ?_
    refine awl_nil ?_
    change AWp _ _ _ _ _ _
    refine awp_seq ?_
    refine awp_region ?_
    refine awl_move rfl rfl ?_
    refine x_call [800] fb30_LvU rfl rfl rfl ((Level_con picks hl hll 4 (by omega) (picks.length + 1) (pL picks 4 (picks.length + 1) 0).2 (by omega) (by omega) (by omega)).sw 1000 800) (.cons (by first | exact Sub.refl _ | exact Sub.ts | exact Sub.nil | exact Sub.agc (by repeat (first | exact .nil | refine .cons (by first | exact Sub.refl _ | exact Sub.nil) ?_))) (.cons (by first | exact Sub.refl _ | exact Sub.ts | exact Sub.nil | exact Sub.agc (by repeat (first | exact .nil | refine .cons (by first | exact Sub.refl _ | exact Sub.nil) ?_))) .nil)) rfl (fun r o ⟨_, _, ⟨e1, e2⟩, e3, e4⟩ => ?_)
    subst e1 e2 e3 e4
    refine ⟨by rw [hcx]; rfl, _, rfl, ?_⟩
    refine x_alloc tz39_LvU rfl rfl (by rw [hcx]; rfl) rfl ?_
    refine x_store ti39_LvU rfl rfl rfl rfl rfl rfl rfl rfl ?_
    refine awl_nil ?_
    change AWp _ _ _ _ _ _
    refine awp_seq ?_
    refine awp_seq ?_
    refine awp_region ?_
    first | refine awl_load_row ti39_LvU rfl rfl rfl rfl ?_ | refine x_irow ti39_LvU rfl rfl rfl rfl ?_
    first | refine awl_load_row ti39_LvU rfl rfl rfl rfl ?_ | refine x_irow ti39_LvU rfl rfl rfl rfl ?_
    refine x_slice si24_LvU ei39_LvU rfl rfl rfl rfl ?_
    refine awl_sub (sub_two _ _) ?_
    refine awl_pcall fb26_LvU rfl (Light_con _) (.cons (by first | exact Sub.refl _ | exact Sub.ts | exact Sub.nil | exact Sub.agc (by repeat (first | exact .nil | refine .cons (by first | exact Sub.refl _ | exact Sub.nil) ?_))) .nil) rfl ?_
    first | refine awl_un rfl rfl rfl un_notd ?_ | refine awl_un rfl rfl rfl un_not ?_
    refine awl_nil ?_
    change AWp _ _ _ _ _ _
    first | refine awp_cond_p rfl (fun hg2 => ?_) (fun hg2 => ?_) | refine awp_cond rfl (fun hg2 => ?_) (fun hg2 => ?_)
    · skip
      refine awp_seq ?_
      refine awp_region ?_
      refine awl_assign rfl rfl ?_
      refine awl_nil ?_
      change AWp _ _ _ _ _ _
      refine awp_ret ?_
      change Ends _ _ _ _ _ _
      refine ends1 [] rfl (.tmp rfl) ?_ rfl
      first | exact ⟨rfl, rfl⟩ | exact ⟨B_eq (decide_eq_true (holds3 x0 x1 x2 x3 hA.2.2 q3)), rfl⟩ | exact ⟨B_eq (decide_eq_true (holds3' x0 x1 x2 x3 hA.2.2 q3)), rfl⟩
    · skip
      obtain ⟨hA, hB⟩ := light2 hg2
      refine awp_skip ?_
      change AWp _ _ _ _ _ _
      refine awp_seq ?_
      refine awp_ice 3 3 (cs := [I x0, I x1, I x2, I x3]) rfl rfl rfl ?_
      refine awp_draw0 hmo_LvU (by kernel_rfl) ?_
      refine awd_q [(6, _)] (.cons rfl (.nil)) rfl rfl rfl ?_
      apply Exists.intro
      refine ⟨fun regs' => ?_, ?_⟩
      · skip
        first | refine awl_load_row ti39_LvU rfl rfl rfl rfl ?_ | refine x_irow ti39_LvU rfl rfl rfl rfl ?_
        exact awl_done rfl
      refine awd_q [(3, _)] (.cons rfl (.nil)) rfl rfl rfl ?_
      apply Exists.intro
      refine ⟨fun regs' => ?_, ?_⟩
      · skip
        refine x_whole ai52_LvU ti3_LvU rfl rfl rfl rfl ?_
        exact awl_done rfl
      refine awd_q [(26, _), (27, _)] (.cons rfl (.cons rfl (.nil))) rfl rfl rfl ?_
      apply Exists.intro
      refine ⟨fun regs' => ?_, ?_⟩
      · skip
        refine awl_pcall fb27_LvU rfl (Eval_con [x0, x1, x2, x3] 4 _ hA.2.2 (by omega)) (.cons (by first | exact Sub.refl _ | exact Sub.ts | exact Sub.nil | exact Sub.agc (by repeat (first | exact .nil | refine .cons (by first | exact Sub.refl _ | exact Sub.nil) ?_))) (.cons (by first | exact Sub.refl _ | exact Sub.ts | exact Sub.nil | exact Sub.agc (by repeat (first | exact .nil | refine .cons (by first | exact Sub.refl _ | exact Sub.nil) ?_))) .nil)) rfl ?_
        exact awl_done rfl
      refine awd_q [(7, _)] (.cons rfl (.nil)) rfl rfl rfl ?_
      apply Exists.intro
      refine ⟨fun regs' => ?_, ?_⟩
      · skip
        first | refine awl_load_row ti39_LvU rfl rfl rfl rfl ?_ | refine x_irow ti39_LvU rfl rfl rfl rfl ?_
        exact awl_done rfl
      refine awd_q [(3, _)] (.cons rfl (.nil)) rfl rfl rfl ?_
      apply Exists.intro
      refine ⟨fun regs' => ?_, ?_⟩
      · skip
        refine x_whole ai52_LvU ti3_LvU rfl rfl rfl rfl ?_
        exact awl_done rfl
      refine awd_q [(29, _), (30, _)] (.cons rfl (.cons rfl (.nil))) rfl rfl rfl ?_
      apply Exists.intro
      refine ⟨fun regs' => ?_, ?_⟩
      · skip
        refine awl_pcall fb27_LvU rfl (Eval_con [x0, x1, x2, x3] 4 _ hB.2.2 (by omega)) (.cons (by first | exact Sub.refl _ | exact Sub.ts | exact Sub.nil | exact Sub.agc (by repeat (first | exact .nil | refine .cons (by first | exact Sub.refl _ | exact Sub.nil) ?_))) (.cons (by first | exact Sub.refl _ | exact Sub.ts | exact Sub.nil | exact Sub.agc (by repeat (first | exact .nil | refine .cons (by first | exact Sub.refl _ | exact Sub.nil) ?_))) .nil)) rfl ?_
        exact awl_done rfl
      refine awd_q [(28, _)] (.cons rfl (.nil)) rfl rfl rfl ?_
      apply Exists.intro
      refine ⟨fun regs' => ?_, ?_⟩
      · skip
        refine awl_assign rfl rfl ?_
        exact awl_done rfl
      refine awd_q [(31, _)] (.cons rfl (.nil)) rfl rfl rfl ?_
      apply Exists.intro
      refine ⟨fun regs' => ?_, ?_⟩
      · skip
        refine awl_assign rfl rfl ?_
        exact awl_done rfl
      refine awd_nil ?_
      change AWp _ _ _ _ _ _
      refine awp_seq ?_
      refine awp_region ?_
      first | refine awl_load_row ti39_LvU rfl rfl rfl rfl ?_ | refine x_irow ti39_LvU rfl rfl rfl rfl ?_
      first | refine awl_load_row ti39_LvU rfl rfl rfl rfl ?_ | refine x_irow ti39_LvU rfl rfl rfl rfl ?_
      refine awl_pcall fb31_LvU rfl (Leq_con _ _ hA.2.2 hB.2.2 (by omega) (by omega)) (.cons (by first | exact Sub.refl _ | exact Sub.ts | exact Sub.nil | exact Sub.agc (by repeat (first | exact .nil | refine .cons (by first | exact Sub.refl _ | exact Sub.nil) ?_))) (.cons (by first | exact Sub.refl _ | exact Sub.ts | exact Sub.nil | exact Sub.agc (by repeat (first | exact .nil | refine .cons (by first | exact Sub.refl _ | exact Sub.nil) ?_))) .nil)) rfl ?_
      first | refine awl_un rfl rfl rfl un_notd ?_ | refine awl_un rfl rfl rfl un_not ?_
      refine awl_move rfl rfl ?_
      first | refine awl_split_p 36 rfl (fun q1 => ?_) (fun q1 => ?_) | refine awl_split 36 rfl (fun q1 => ?_) (fun q1 => ?_)
      · skip
        refine awl_guard_no rfl (by first | exact q1 | exact decide_eq_true q1 | exact decide_eq_false q1) rfl rfl rfl rfl ?_
        refine awl_guard_no rfl (by first | exact q1 | exact decide_eq_true q1 | exact decide_eq_false q1) rfl rfl rfl rfl ?_
        refine awl_guard_no rfl (by first | exact q1 | exact decide_eq_true q1 | exact decide_eq_false q1) rfl rfl rfl rfl ?_
        refine awl_pick_t (by first | exact q1 | exact decide_eq_true q1 | exact decide_eq_false q1) rfl rfl rfl ?_
        refine awl_move rfl rfl ?_
        refine awl_guard_yes rfl rfl rfl rfl ?_
        first | refine awl_load_row ti39_LvU rfl rfl rfl rfl ?_ | refine x_irow ti39_LvU rfl rfl rfl rfl ?_
        refine awl_guard_yes rfl rfl rfl rfl ?_
        first | refine awl_load_row ti39_LvU rfl rfl rfl rfl ?_ | refine x_irow ti39_LvU rfl rfl rfl rfl ?_
        refine awl_guard_yes rfl rfl rfl rfl ?_
        refine awl_pcall fb33_LvU rfl (Same_con _ _ hA.2.2 hB.2.2 (by omega) (by omega)) (.cons (by first | exact Sub.refl _ | exact Sub.ts | exact Sub.nil | exact Sub.agc (by repeat (first | exact .nil | refine .cons (by first | exact Sub.refl _ | exact Sub.nil) ?_))) (.cons (by first | exact Sub.refl _ | exact Sub.ts | exact Sub.nil | exact Sub.agc (by repeat (first | exact .nil | refine .cons (by first | exact Sub.refl _ | exact Sub.nil) ?_))) .nil)) rfl ?_
        refine awl_guard_yes rfl rfl rfl rfl ?_
        first | refine awl_un rfl rfl rfl un_notd ?_ | refine awl_un rfl rfl rfl un_not ?_
        refine awl_guard_yes rfl rfl rfl rfl ?_
        refine awl_move rfl rfl ?_
        first | refine awl_split_p 46 rfl (fun q2 => ?_) (fun q2 => ?_) | refine awl_split 46 rfl (fun q2 => ?_) (fun q2 => ?_)
        · skip
          refine awl_guard_no rfl (by first | exact q2 | exact decide_eq_true q2 | exact decide_eq_false q2) rfl rfl rfl rfl ?_
          refine awl_guard_no rfl (by first | exact q2 | exact decide_eq_true q2 | exact decide_eq_false q2) rfl rfl rfl rfl ?_
          refine awl_guard_no rfl (by first | exact q2 | exact decide_eq_true q2 | exact decide_eq_false q2) rfl rfl rfl rfl ?_
          refine awl_guard_yes rfl rfl rfl rfl ?_
          refine awl_pick_t (by first | exact q2 | exact decide_eq_true q2 | exact decide_eq_false q2) rfl rfl rfl ?_
          refine awl_pick_t rfl rfl rfl rfl ?_
          refine awl_move rfl rfl ?_
          refine awl_guard_yes rfl rfl rfl rfl ?_
          first | refine awl_load_row ti39_LvU rfl rfl rfl rfl ?_ | refine x_irow ti39_LvU rfl rfl rfl rfl ?_
          refine awl_guard_yes rfl rfl rfl rfl ?_
          refine awl_pcall fb35_LvU rfl (Never_con _ hA.2.2 (by omega)) (.cons (by first | exact Sub.refl _ | exact Sub.ts | exact Sub.nil | exact Sub.agc (by repeat (first | exact .nil | refine .cons (by first | exact Sub.refl _ | exact Sub.nil) ?_))) .nil) rfl ?_
          refine awl_guard_yes rfl rfl rfl rfl ?_
          first | refine awl_un rfl rfl rfl un_notd ?_ | refine awl_un rfl rfl rfl un_not ?_
          refine awl_guard_yes rfl rfl rfl rfl ?_
          refine awl_move rfl rfl ?_
          first | refine awl_split_p 56 rfl (fun q3 => ?_) (fun q3 => ?_) | refine awl_split 56 rfl (fun q3 => ?_) (fun q3 => ?_)
          · skip
            refine awl_guard_no rfl (by first | exact q3 | exact decide_eq_true q3 | exact decide_eq_false q3) rfl rfl rfl rfl ?_
            refine awl_guard_no rfl (by first | exact q3 | exact decide_eq_true q3 | exact decide_eq_false q3) rfl rfl rfl rfl ?_
            refine awl_guard_yes rfl rfl rfl rfl ?_
            refine awl_pick_t (by first | exact q3 | exact decide_eq_true q3 | exact decide_eq_false q3) rfl rfl rfl ?_
            refine awl_pick_t rfl rfl rfl rfl ?_
            refine awl_assign rfl rfl ?_
            refine awl_nil ?_
            change AWp _ _ _ _ _ _
            refine awp_ret ?_
            change Ends _ _ _ _ _ _
            refine ends1 [] rfl (.tmp rfl) ?_ rfl
            first | exact ⟨rfl, rfl⟩ | exact ⟨B_eq (decide_eq_true (holds3 x0 x1 x2 x3 hA.2.2 q3)), rfl⟩ | exact ⟨B_eq (decide_eq_true (holds3' x0 x1 x2 x3 hA.2.2 q3)), rfl⟩
          · skip
            refine awl_guard_yes rfl (by first | exact q3 | exact decide_eq_true q3 | exact decide_eq_false q3) rfl rfl ?_
            refine awl_move rfl rfl ?_
            refine awl_guard_yes rfl (by first | exact q3 | exact decide_eq_true q3 | exact decide_eq_false q3) rfl rfl ?_
            refine awl_bin rfl rfl rfl rfl bin_gtr ?_
            refine awl_guard_yes rfl rfl rfl rfl ?_
            refine awl_pick_f (by first | exact q3 | exact decide_eq_true q3 | exact decide_eq_false q3) rfl rfl rfl ?_
            refine awl_pick_t rfl rfl rfl rfl ?_
            refine awl_assign rfl rfl ?_
            refine awl_nil ?_
            change AWp _ _ _ _ _ _
            refine awp_ret ?_
            change Ends _ _ _ _ _ _
            refine ends1 [] rfl (.tmp rfl) ?_ rfl
            first | exact ⟨rfl, rfl⟩ | exact ⟨B_eq (decide_eq_true (holds3 x0 x1 x2 x3 hA.2.2 q3)), rfl⟩ | exact ⟨B_eq (decide_eq_true (holds3' x0 x1 x2 x3 hA.2.2 q3)), rfl⟩
        · skip
          refine awl_guard_yes rfl (by first | exact q2 | exact decide_eq_true q2 | exact decide_eq_false q2) rfl rfl ?_
          refine awl_move rfl rfl ?_
          refine awl_guard_yes rfl (by first | exact q2 | exact decide_eq_true q2 | exact decide_eq_false q2) rfl rfl ?_
          refine awl_move rfl rfl ?_
          refine awl_guard_yes rfl (by first | exact q2 | exact decide_eq_true q2 | exact decide_eq_false q2) rfl rfl ?_
          refine awl_bin rfl rfl rfl rfl bin_eql ?_
          refine awl_guard_yes rfl rfl rfl rfl ?_
          refine awl_pick_f (by first | exact q2 | exact decide_eq_true q2 | exact decide_eq_false q2) rfl rfl rfl ?_
          refine awl_pick_t rfl rfl rfl rfl ?_
          refine awl_move rfl rfl ?_
          refine awl_guard_yes rfl (by first | exact (holds2 x0 x1 x2 x3 hA.2.2 hB.2.2 q2) | exact decide_eq_true (holds2 x0 x1 x2 x3 hA.2.2 hB.2.2 q2) | exact decide_eq_false (holds2 x0 x1 x2 x3 hA.2.2 hB.2.2 q2)) rfl rfl ?_
          first | refine awl_load_row ti39_LvU rfl rfl rfl rfl ?_ | refine x_irow ti39_LvU rfl rfl rfl rfl ?_
          refine awl_guard_yes rfl (by first | exact (holds2 x0 x1 x2 x3 hA.2.2 hB.2.2 q2) | exact decide_eq_true (holds2 x0 x1 x2 x3 hA.2.2 hB.2.2 q2) | exact decide_eq_false (holds2 x0 x1 x2 x3 hA.2.2 hB.2.2 q2)) rfl rfl ?_
          refine awl_pcall fb35_LvU rfl (Never_con _ hA.2.2 (by omega)) (.cons (by first | exact Sub.refl _ | exact Sub.ts | exact Sub.nil | exact Sub.agc (by repeat (first | exact .nil | refine .cons (by first | exact Sub.refl _ | exact Sub.nil) ?_))) .nil) rfl ?_
          refine awl_guard_yes rfl (by first | exact (holds2 x0 x1 x2 x3 hA.2.2 hB.2.2 q2) | exact decide_eq_true (holds2 x0 x1 x2 x3 hA.2.2 hB.2.2 q2) | exact decide_eq_false (holds2 x0 x1 x2 x3 hA.2.2 hB.2.2 q2)) rfl rfl ?_
          first | refine awl_un rfl rfl rfl un_notd ?_ | refine awl_un rfl rfl rfl un_not ?_
          refine awl_guard_yes rfl (by first | exact (holds2 x0 x1 x2 x3 hA.2.2 hB.2.2 q2) | exact decide_eq_true (holds2 x0 x1 x2 x3 hA.2.2 hB.2.2 q2) | exact decide_eq_false (holds2 x0 x1 x2 x3 hA.2.2 hB.2.2 q2)) rfl rfl ?_
          refine awl_move rfl rfl ?_
          first | refine awl_split_p 56 rfl (fun q3 => ?_) (fun q3 => ?_) | refine awl_split 56 rfl (fun q3 => ?_) (fun q3 => ?_)
          · skip
            refine awl_guard_no rfl (by first | exact q3 | exact decide_eq_true q3 | exact decide_eq_false q3) rfl rfl rfl rfl ?_
            refine awl_guard_no rfl (by first | exact q3 | exact decide_eq_true q3 | exact decide_eq_false q3) rfl rfl rfl rfl ?_
            refine awl_guard_yes rfl (by first | exact (holds2 x0 x1 x2 x3 hA.2.2 hB.2.2 q2) | exact decide_eq_true (holds2 x0 x1 x2 x3 hA.2.2 hB.2.2 q2) | exact decide_eq_false (holds2 x0 x1 x2 x3 hA.2.2 hB.2.2 q2)) rfl rfl ?_
            refine awl_pick_t (by first | exact q3 | exact decide_eq_true q3 | exact decide_eq_false q3) rfl rfl rfl ?_
            refine awl_pick_t (by first | exact (holds2 x0 x1 x2 x3 hA.2.2 hB.2.2 q2) | exact decide_eq_true (holds2 x0 x1 x2 x3 hA.2.2 hB.2.2 q2) | exact decide_eq_false (holds2 x0 x1 x2 x3 hA.2.2 hB.2.2 q2)) rfl rfl rfl ?_
            refine awl_assign rfl rfl ?_
            refine awl_nil ?_
            change AWp _ _ _ _ _ _
            refine awp_ret ?_
            change Ends _ _ _ _ _ _
            refine ends1 [] rfl (.tmp rfl) ?_ rfl
            first | exact ⟨rfl, rfl⟩ | exact ⟨B_eq (decide_eq_true (holds3 x0 x1 x2 x3 hA.2.2 q3)), rfl⟩ | exact ⟨B_eq (decide_eq_true (holds3' x0 x1 x2 x3 hA.2.2 q3)), rfl⟩
          · skip
            refine awl_guard_yes rfl (by first | exact q3 | exact decide_eq_true q3 | exact decide_eq_false q3) rfl rfl ?_
            refine awl_move rfl rfl ?_
            refine awl_guard_yes rfl (by first | exact q3 | exact decide_eq_true q3 | exact decide_eq_false q3) rfl rfl ?_
            refine awl_bin rfl rfl rfl rfl bin_gtr ?_
            refine awl_guard_yes rfl (by first | exact (holds2 x0 x1 x2 x3 hA.2.2 hB.2.2 q2) | exact decide_eq_true (holds2 x0 x1 x2 x3 hA.2.2 hB.2.2 q2) | exact decide_eq_false (holds2 x0 x1 x2 x3 hA.2.2 hB.2.2 q2)) rfl rfl ?_
            refine awl_pick_f (by first | exact q3 | exact decide_eq_true q3 | exact decide_eq_false q3) rfl rfl rfl ?_
            refine awl_pick_t (by first | exact (holds2 x0 x1 x2 x3 hA.2.2 hB.2.2 q2) | exact decide_eq_true (holds2 x0 x1 x2 x3 hA.2.2 hB.2.2 q2) | exact decide_eq_false (holds2 x0 x1 x2 x3 hA.2.2 hB.2.2 q2)) rfl rfl rfl ?_
            refine awl_assign rfl rfl ?_
            refine awl_nil ?_
            change AWp _ _ _ _ _ _
            refine awp_ret ?_
            change Ends _ _ _ _ _ _
            refine ends1 [] rfl (.tmp rfl) ?_ rfl
            first | exact ⟨rfl, rfl⟩ | exact ⟨B_eq (decide_eq_true (holds3 x0 x1 x2 x3 hA.2.2 q3)), rfl⟩ | exact ⟨B_eq (decide_eq_true (holds3' x0 x1 x2 x3 hA.2.2 q3)), rfl⟩
      · skip
        refine awl_guard_yes rfl (by first | exact q1 | exact decide_eq_true q1 | exact decide_eq_false q1) rfl rfl ?_
        refine awl_move rfl rfl ?_
        refine awl_guard_yes rfl (by first | exact q1 | exact decide_eq_true q1 | exact decide_eq_false q1) rfl rfl ?_
        refine awl_move rfl rfl ?_
        refine awl_guard_yes rfl (by first | exact q1 | exact decide_eq_true q1 | exact decide_eq_false q1) rfl rfl ?_
        refine awl_bin rfl rfl rfl rfl bin_leq ?_
        refine awl_pick_f (by first | exact q1 | exact decide_eq_true q1 | exact decide_eq_false q1) rfl rfl rfl ?_
        refine awl_move rfl rfl ?_
        refine awl_guard_yes rfl (by first | exact (holds1 x0 x1 x2 x3 hA.2.2 hB.2.2 q1) | exact decide_eq_true (holds1 x0 x1 x2 x3 hA.2.2 hB.2.2 q1) | exact decide_eq_false (holds1 x0 x1 x2 x3 hA.2.2 hB.2.2 q1)) rfl rfl ?_
        first | refine awl_load_row ti39_LvU rfl rfl rfl rfl ?_ | refine x_irow ti39_LvU rfl rfl rfl rfl ?_
        refine awl_guard_yes rfl (by first | exact (holds1 x0 x1 x2 x3 hA.2.2 hB.2.2 q1) | exact decide_eq_true (holds1 x0 x1 x2 x3 hA.2.2 hB.2.2 q1) | exact decide_eq_false (holds1 x0 x1 x2 x3 hA.2.2 hB.2.2 q1)) rfl rfl ?_
        first | refine awl_load_row ti39_LvU rfl rfl rfl rfl ?_ | refine x_irow ti39_LvU rfl rfl rfl rfl ?_
        refine awl_guard_yes rfl (by first | exact (holds1 x0 x1 x2 x3 hA.2.2 hB.2.2 q1) | exact decide_eq_true (holds1 x0 x1 x2 x3 hA.2.2 hB.2.2 q1) | exact decide_eq_false (holds1 x0 x1 x2 x3 hA.2.2 hB.2.2 q1)) rfl rfl ?_
        refine awl_pcall fb33_LvU rfl (Same_con _ _ hA.2.2 hB.2.2 (by omega) (by omega)) (.cons (by first | exact Sub.refl _ | exact Sub.ts | exact Sub.nil | exact Sub.agc (by repeat (first | exact .nil | refine .cons (by first | exact Sub.refl _ | exact Sub.nil) ?_))) (.cons (by first | exact Sub.refl _ | exact Sub.ts | exact Sub.nil | exact Sub.agc (by repeat (first | exact .nil | refine .cons (by first | exact Sub.refl _ | exact Sub.nil) ?_))) .nil)) rfl ?_
        refine awl_guard_yes rfl (by first | exact (holds1 x0 x1 x2 x3 hA.2.2 hB.2.2 q1) | exact decide_eq_true (holds1 x0 x1 x2 x3 hA.2.2 hB.2.2 q1) | exact decide_eq_false (holds1 x0 x1 x2 x3 hA.2.2 hB.2.2 q1)) rfl rfl ?_
        first | refine awl_un rfl rfl rfl un_notd ?_ | refine awl_un rfl rfl rfl un_not ?_
        refine awl_guard_yes rfl (by first | exact (holds1 x0 x1 x2 x3 hA.2.2 hB.2.2 q1) | exact decide_eq_true (holds1 x0 x1 x2 x3 hA.2.2 hB.2.2 q1) | exact decide_eq_false (holds1 x0 x1 x2 x3 hA.2.2 hB.2.2 q1)) rfl rfl ?_
        refine awl_move rfl rfl ?_
        first | refine awl_split_p 46 rfl (fun q2 => ?_) (fun q2 => ?_) | refine awl_split 46 rfl (fun q2 => ?_) (fun q2 => ?_)
        · skip
          refine awl_guard_no rfl (by first | exact q2 | exact decide_eq_true q2 | exact decide_eq_false q2) rfl rfl rfl rfl ?_
          refine awl_guard_no rfl (by first | exact q2 | exact decide_eq_true q2 | exact decide_eq_false q2) rfl rfl rfl rfl ?_
          refine awl_guard_no rfl (by first | exact q2 | exact decide_eq_true q2 | exact decide_eq_false q2) rfl rfl rfl rfl ?_
          refine awl_guard_yes rfl (by first | exact (holds1 x0 x1 x2 x3 hA.2.2 hB.2.2 q1) | exact decide_eq_true (holds1 x0 x1 x2 x3 hA.2.2 hB.2.2 q1) | exact decide_eq_false (holds1 x0 x1 x2 x3 hA.2.2 hB.2.2 q1)) rfl rfl ?_
          refine awl_pick_t (by first | exact q2 | exact decide_eq_true q2 | exact decide_eq_false q2) rfl rfl rfl ?_
          refine awl_pick_t (by first | exact (holds1 x0 x1 x2 x3 hA.2.2 hB.2.2 q1) | exact decide_eq_true (holds1 x0 x1 x2 x3 hA.2.2 hB.2.2 q1) | exact decide_eq_false (holds1 x0 x1 x2 x3 hA.2.2 hB.2.2 q1)) rfl rfl rfl ?_
          refine awl_move rfl rfl ?_
          refine awl_guard_yes rfl rfl rfl rfl ?_
          first | refine awl_load_row ti39_LvU rfl rfl rfl rfl ?_ | refine x_irow ti39_LvU rfl rfl rfl rfl ?_
          refine awl_guard_yes rfl rfl rfl rfl ?_
          refine awl_pcall fb35_LvU rfl (Never_con _ hA.2.2 (by omega)) (.cons (by first | exact Sub.refl _ | exact Sub.ts | exact Sub.nil | exact Sub.agc (by repeat (first | exact .nil | refine .cons (by first | exact Sub.refl _ | exact Sub.nil) ?_))) .nil) rfl ?_
          refine awl_guard_yes rfl rfl rfl rfl ?_
          first | refine awl_un rfl rfl rfl un_notd ?_ | refine awl_un rfl rfl rfl un_not ?_
          refine awl_guard_yes rfl rfl rfl rfl ?_
          refine awl_move rfl rfl ?_
          first | refine awl_split_p 56 rfl (fun q3 => ?_) (fun q3 => ?_) | refine awl_split 56 rfl (fun q3 => ?_) (fun q3 => ?_)
          · skip
            refine awl_guard_no rfl (by first | exact q3 | exact decide_eq_true q3 | exact decide_eq_false q3) rfl rfl rfl rfl ?_
            refine awl_guard_no rfl (by first | exact q3 | exact decide_eq_true q3 | exact decide_eq_false q3) rfl rfl rfl rfl ?_
            refine awl_guard_yes rfl rfl rfl rfl ?_
            refine awl_pick_t (by first | exact q3 | exact decide_eq_true q3 | exact decide_eq_false q3) rfl rfl rfl ?_
            refine awl_pick_t rfl rfl rfl rfl ?_
            refine awl_assign rfl rfl ?_
            refine awl_nil ?_
            change AWp _ _ _ _ _ _
            refine awp_ret ?_
            change Ends _ _ _ _ _ _
            refine ends1 [] rfl (.tmp rfl) ?_ rfl
            first | exact ⟨rfl, rfl⟩ | exact ⟨B_eq (decide_eq_true (holds3 x0 x1 x2 x3 hA.2.2 q3)), rfl⟩ | exact ⟨B_eq (decide_eq_true (holds3' x0 x1 x2 x3 hA.2.2 q3)), rfl⟩
          · skip
            refine awl_guard_yes rfl (by first | exact q3 | exact decide_eq_true q3 | exact decide_eq_false q3) rfl rfl ?_
            refine awl_move rfl rfl ?_
            refine awl_guard_yes rfl (by first | exact q3 | exact decide_eq_true q3 | exact decide_eq_false q3) rfl rfl ?_
            refine awl_bin rfl rfl rfl rfl bin_gtr ?_
            refine awl_guard_yes rfl rfl rfl rfl ?_
            refine awl_pick_f (by first | exact q3 | exact decide_eq_true q3 | exact decide_eq_false q3) rfl rfl rfl ?_
            refine awl_pick_t rfl rfl rfl rfl ?_
            refine awl_assign rfl rfl ?_
            refine awl_nil ?_
            change AWp _ _ _ _ _ _
            refine awp_ret ?_
            change Ends _ _ _ _ _ _
            refine ends1 [] rfl (.tmp rfl) ?_ rfl
            first | exact ⟨rfl, rfl⟩ | exact ⟨B_eq (decide_eq_true (holds3 x0 x1 x2 x3 hA.2.2 q3)), rfl⟩ | exact ⟨B_eq (decide_eq_true (holds3' x0 x1 x2 x3 hA.2.2 q3)), rfl⟩
        · skip
          refine awl_guard_yes rfl (by first | exact q2 | exact decide_eq_true q2 | exact decide_eq_false q2) rfl rfl ?_
          refine awl_move rfl rfl ?_
          refine awl_guard_yes rfl (by first | exact q2 | exact decide_eq_true q2 | exact decide_eq_false q2) rfl rfl ?_
          refine awl_move rfl rfl ?_
          refine awl_guard_yes rfl (by first | exact q2 | exact decide_eq_true q2 | exact decide_eq_false q2) rfl rfl ?_
          refine awl_bin rfl rfl rfl rfl bin_eql ?_
          refine awl_guard_yes rfl (by first | exact (holds1 x0 x1 x2 x3 hA.2.2 hB.2.2 q1) | exact decide_eq_true (holds1 x0 x1 x2 x3 hA.2.2 hB.2.2 q1) | exact decide_eq_false (holds1 x0 x1 x2 x3 hA.2.2 hB.2.2 q1)) rfl rfl ?_
          refine awl_pick_f (by first | exact q2 | exact decide_eq_true q2 | exact decide_eq_false q2) rfl rfl rfl ?_
          refine awl_pick_t (by first | exact (holds1 x0 x1 x2 x3 hA.2.2 hB.2.2 q1) | exact decide_eq_true (holds1 x0 x1 x2 x3 hA.2.2 hB.2.2 q1) | exact decide_eq_false (holds1 x0 x1 x2 x3 hA.2.2 hB.2.2 q1)) rfl rfl rfl ?_
          refine awl_move rfl rfl ?_
          refine awl_guard_yes rfl (by first | exact (holds2 x0 x1 x2 x3 hA.2.2 hB.2.2 q2) | exact decide_eq_true (holds2 x0 x1 x2 x3 hA.2.2 hB.2.2 q2) | exact decide_eq_false (holds2 x0 x1 x2 x3 hA.2.2 hB.2.2 q2)) rfl rfl ?_
          first | refine awl_load_row ti39_LvU rfl rfl rfl rfl ?_ | refine x_irow ti39_LvU rfl rfl rfl rfl ?_
          refine awl_guard_yes rfl (by first | exact (holds2 x0 x1 x2 x3 hA.2.2 hB.2.2 q2) | exact decide_eq_true (holds2 x0 x1 x2 x3 hA.2.2 hB.2.2 q2) | exact decide_eq_false (holds2 x0 x1 x2 x3 hA.2.2 hB.2.2 q2)) rfl rfl ?_
          refine awl_pcall fb35_LvU rfl (Never_con _ hA.2.2 (by omega)) (.cons (by first | exact Sub.refl _ | exact Sub.ts | exact Sub.nil | exact Sub.agc (by repeat (first | exact .nil | refine .cons (by first | exact Sub.refl _ | exact Sub.nil) ?_))) .nil) rfl ?_
          refine awl_guard_yes rfl (by first | exact (holds2 x0 x1 x2 x3 hA.2.2 hB.2.2 q2) | exact decide_eq_true (holds2 x0 x1 x2 x3 hA.2.2 hB.2.2 q2) | exact decide_eq_false (holds2 x0 x1 x2 x3 hA.2.2 hB.2.2 q2)) rfl rfl ?_
          first | refine awl_un rfl rfl rfl un_notd ?_ | refine awl_un rfl rfl rfl un_not ?_
          refine awl_guard_yes rfl (by first | exact (holds2 x0 x1 x2 x3 hA.2.2 hB.2.2 q2) | exact decide_eq_true (holds2 x0 x1 x2 x3 hA.2.2 hB.2.2 q2) | exact decide_eq_false (holds2 x0 x1 x2 x3 hA.2.2 hB.2.2 q2)) rfl rfl ?_
          refine awl_move rfl rfl ?_
          first | refine awl_split_p 56 rfl (fun q3 => ?_) (fun q3 => ?_) | refine awl_split 56 rfl (fun q3 => ?_) (fun q3 => ?_)
          · skip
            refine awl_guard_no rfl (by first | exact q3 | exact decide_eq_true q3 | exact decide_eq_false q3) rfl rfl rfl rfl ?_
            refine awl_guard_no rfl (by first | exact q3 | exact decide_eq_true q3 | exact decide_eq_false q3) rfl rfl rfl rfl ?_
            refine awl_guard_yes rfl (by first | exact (holds2 x0 x1 x2 x3 hA.2.2 hB.2.2 q2) | exact decide_eq_true (holds2 x0 x1 x2 x3 hA.2.2 hB.2.2 q2) | exact decide_eq_false (holds2 x0 x1 x2 x3 hA.2.2 hB.2.2 q2)) rfl rfl ?_
            refine awl_pick_t (by first | exact q3 | exact decide_eq_true q3 | exact decide_eq_false q3) rfl rfl rfl ?_
            refine awl_pick_t (by first | exact (holds2 x0 x1 x2 x3 hA.2.2 hB.2.2 q2) | exact decide_eq_true (holds2 x0 x1 x2 x3 hA.2.2 hB.2.2 q2) | exact decide_eq_false (holds2 x0 x1 x2 x3 hA.2.2 hB.2.2 q2)) rfl rfl rfl ?_
            refine awl_assign rfl rfl ?_
            refine awl_nil ?_
            change AWp _ _ _ _ _ _
            refine awp_ret ?_
            change Ends _ _ _ _ _ _
            refine ends1 [] rfl (.tmp rfl) ?_ rfl
            first | exact ⟨rfl, rfl⟩ | exact ⟨B_eq (decide_eq_true (holds3 x0 x1 x2 x3 hA.2.2 q3)), rfl⟩ | exact ⟨B_eq (decide_eq_true (holds3' x0 x1 x2 x3 hA.2.2 q3)), rfl⟩
          · skip
            refine awl_guard_yes rfl (by first | exact q3 | exact decide_eq_true q3 | exact decide_eq_false q3) rfl rfl ?_
            refine awl_move rfl rfl ?_
            refine awl_guard_yes rfl (by first | exact q3 | exact decide_eq_true q3 | exact decide_eq_false q3) rfl rfl ?_
            refine awl_bin rfl rfl rfl rfl bin_gtr ?_
            refine awl_guard_yes rfl (by first | exact (holds2 x0 x1 x2 x3 hA.2.2 hB.2.2 q2) | exact decide_eq_true (holds2 x0 x1 x2 x3 hA.2.2 hB.2.2 q2) | exact decide_eq_false (holds2 x0 x1 x2 x3 hA.2.2 hB.2.2 q2)) rfl rfl ?_
            refine awl_pick_f (by first | exact q3 | exact decide_eq_true q3 | exact decide_eq_false q3) rfl rfl rfl ?_
            refine awl_pick_t (by first | exact (holds2 x0 x1 x2 x3 hA.2.2 hB.2.2 q2) | exact decide_eq_true (holds2 x0 x1 x2 x3 hA.2.2 hB.2.2 q2) | exact decide_eq_false (holds2 x0 x1 x2 x3 hA.2.2 hB.2.2 q2)) rfl rfl rfl ?_
            refine awl_assign rfl rfl ?_
            refine awl_nil ?_
            change AWp _ _ _ _ _ _
            refine awp_ret ?_
            change Ends _ _ _ _ _ _
            refine ends1 [] rfl (.tmp rfl) ?_ rfl
            first | exact ⟨rfl, rfl⟩ | exact ⟨B_eq (decide_eq_true (holds3 x0 x1 x2 x3 hA.2.2 q3)), rfl⟩ | exact ⟨B_eq (decide_eq_true (holds3' x0 x1 x2 x3 hA.2.2 q3)), rfl⟩

end Go.Ab.Ytfgndomaadikoaa
