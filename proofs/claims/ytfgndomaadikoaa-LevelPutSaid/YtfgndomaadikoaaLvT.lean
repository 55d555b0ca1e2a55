/- The law LevelLeq. -/
import Derived.Test.YtfgndomaadikoaaLvS
set_option linter.unusedVariables false
set_option linter.unusedSimpArgs false
namespace Go.Ab.Ytfgndomaadikoaa
open Go Go.RowKit Go.Ab Go.Proofs

theorem bi68_LvT : BI Try.prog 68 [(0, 1), (1, 1)] := BI.mk' Try.underlying68 (by kernel_rfl)
theorem tz68_LvT : TZ Try.prog 68 [(.slice none 0 0), (.int .i64 0)] := ⟨⟨.agg #[(.slice none 0 0), (.int .i64 0)], by kernel_rfl, rfl⟩, by kernel_rfl⟩
theorem fb23_LvT : FB Try.prog 23 := ⟨_, Try.func23, rfl, by kernel_rfl⟩
theorem fb29_LvT : FB Try.prog 29 := ⟨_, Try.func29, rfl, by kernel_rfl⟩
theorem fb30_LvT : FB Try.prog 30 := ⟨_, Try.func30, rfl, by kernel_rfl⟩
theorem ti39_LvT : TI Try.prog 39 3 true := ⟨by kernel_rfl, by kernel_rfl⟩
theorem si24_LvT : SI Try.prog 24 39 := ⟨Try.underlying24⟩
theorem ei39_LvT : EI Try.prog 39 3 40 := ⟨by kernel_rfl⟩
theorem fb26_LvT : FB Try.prog 26 := ⟨_, Try.func26, rfl, by kernel_rfl⟩
theorem si45_LvT : SI Try.prog 45 5 := ⟨Try.underlying45⟩
theorem hmo_LvT : Try.prog.follows .mixedOrders = true := by kernel_rfl
theorem fb31_LvT : FB Try.prog 31 := ⟨_, Try.func31, rfl, by kernel_rfl⟩
theorem fb32_LvT : FB Try.prog 32 := ⟨_, Try.func32, rfl, by kernel_rfl⟩
theorem fb33_LvT : FB Try.prog 33 := ⟨_, Try.func33, rfl, by kernel_rfl⟩
theorem fb34_LvT : FB Try.prog 34 := ⟨_, Try.func34, rfl, by kernel_rfl⟩
theorem fb35_LvT : FB Try.prog 35 := ⟨_, Try.func35, rfl, by kernel_rfl⟩
theorem fb36_LvT : FB Try.prog 36 := ⟨_, Try.func36, rfl, by kernel_rfl⟩
theorem fb37_LvT : FB Try.prog 37 := ⟨_, Try.func37, rfl, by kernel_rfl⟩
theorem fb38_LvT : FB Try.prog 38 := ⟨_, Try.func38, rfl, by kernel_rfl⟩

theorem Made_con (l : List Int) : Con Try.prog 29 [.p (.sl 1 (byts l))] [] (fun r o => r = .ptr 5 0 ∧ o = [(5, pk l 0)]) := by
  refine con_of Try.func29 rfl 6 Try.ntmps29 rfl fun cx hcx => ?_
  refine awp_seq ?_
  refine awp_region ?_
  refine awl_assign rfl rfl ?_
  refine awl_nil ?_
  change AWp _ _ _ _ _ _
  refine awp_seq ?_
  refine awp_region ?_
  refine awl_move rfl rfl ?_
  refine x_build bi68_LvT tz68_LvT rfl rfl rfl ?_
  refine awl_box rfl rfl rfl rfl rfl (by rw [hcx]; rfl) rfl ?_
  refine awl_assign rfl rfl ?_
  refine awl_nil ?_
  change AWp _ _ _ _ _ _
  refine awp_ret ?_
  change Ends _ _ _ _ _ _
  refine ends1 [5] rfl (.tmp rfl) ?_ rfl
  exact ⟨rfl, rfl⟩

theorem sub_two (a b : Lvl) : Sub (.p (.sl 3 [[I a.kind, I a.n, .sl 3 (encLs a.args)], [I b.kind, I b.n, .sl 3 (encLs b.args)]])) (.p (.sl 3 (encLs [a, b]))) := Sub.eq (by rw [← encLs_two])
theorem light2 {a b : Lvl} (h : (!(([a, b] : List Lvl).all fun l => lightB l 4)) = false) : (partsL a ≤ 64 ∧ deepL a ≤ 32 ∧ wfL a 4 = true) ∧ (partsL b ≤ 64 ∧ deepL b ≤ 32 ∧ wfL b 4 = true) := by
  simp only [List.all_cons, List.all_nil, Bool.and_true, Bool.not_eq_false', Bool.and_eq_true] at h
  exact ⟨of_decide_eq_true h.1, of_decide_eq_true h.2⟩

theorem LevelLeq_con (a b : Lvl) (picks : List Int) (made : Bool) (hl : okB picks) (hll : (picks.length : Int) ≤ 9223372036854775807) : PCon Try.prog 7 [lv a, lv b, .p (.sl 1 (byts picks)), .p (B made)] (.p (B true)) := by
  have hg := pL_ge picks 4 (picks.length + 1) 0
  refine con_of Try.func7 rfl 75 Try.ntmps7 rfl fun cx hcx => ?_
  refine awp_seq ?_
  refine awp_region ?_
  refine awl_box rfl rfl rfl rfl rfl (by rw [hcx]; rfl) rfl ?_
  refine awl_box rfl rfl rfl rfl rfl (by rw [hcx]; rfl) rfl ?_
  refine awl_assign rfl rfl ?_
  refine awl_nil ?_
  change AWp _ _ _ _ _ _
  refine awp_seq ?_
  refine awp_seq ?_
  refine awp_region ?_
  refine awl_pcall fb23_LvT rfl (begun4_con) .nil rfl ?_
  first | refine awl_un rfl rfl rfl un_notd ?_ | refine awl_un rfl rfl rfl un_not ?_
  refine awl_nil ?_
  change AWp _ _ _ _ _ _
  refine awp_cond_f (by first | exact rfl | exact decide_eq_true rfl | exact decide_eq_false rfl) rfl ?_
  refine awp_skip ?_
  change AWp _ _ _ _ _ _
  refine awp_seq ?_
  refine awp_seq ?_
  refine awp_region ?_
  refine awl_move rfl rfl ?_
  refine awl_nil ?_
  change AWp _ _ _ _ _ _
  first | refine awp_cond_p rfl (fun hm => ?_) (fun hm => ?_) | refine awp_cond rfl (fun hm => ?_) (fun hm => ?_)
  · skip
    refine awp_seq ?_
    refine awp_region ?_
    refine awl_move rfl rfl ?_
    refine x_call [] fb29_LvT rfl rfl rfl ((Made_con picks).sw 5 800) (.cons (by first | exact Sub.refl _ | exact Sub.ts | exact Sub.nil | exact Sub.agc (by repeat (first | exact .nil | refine .cons (by first | exact Sub.refl _ | exact Sub.nil) ?_))) .nil) rfl (fun r o ⟨_, _, ⟨e1, e2⟩, e3, e4⟩ => ?_)
    subst e1 e2 e3 e4
    refine ⟨by rw [hcx]; rfl, _, rfl, ?_⟩
    refine awl_assign rfl rfl ?_
    refine awl_nil ?_
    change AWp _ _ _ _ _ _
    refine awp_seq ?_
    refine awp_region ?_
    refine awl_move rfl rfl ?_
    refine x_call [800] fb30_LvT rfl rfl rfl ((Level_con picks hl hll 4 (by omega) (picks.length + 1) 0 (by omega) (by omega) (by omega)).sw 1000 800) (.cons (by first | exact Sub.refl _ | exact Sub.ts | exact Sub.nil | exact Sub.agc (by repeat (first | exact .nil | refine .cons (by first | exact Sub.refl _ | exact Sub.nil) ?_))) (.cons (by first | exact Sub.refl _ | exact Sub.ts | exact Sub.nil | exact Sub.agc (by repeat (first | exact .nil | refine .cons (by first | exact Sub.refl _ | exact Sub.nil) ?_))) .nil)) rfl (fun r o ⟨_, _, ⟨e1, e2⟩, e3, e4⟩ => ?_)
    subst e1 e2 e3 e4
    refine ⟨by rw [hcx]; rfl, _, rfl, ?_⟩
    refine x_store ti39_LvT rfl rfl rfl rfl rfl rfl rfl rfl ?_
    refine awl_nil ?_
    change AWp _ _ _ _ _ _
    refine awp_region ?_
    refine awl_move rfl rfl ?_
    refine x_call [800] fb30_LvT rfl rfl rfl ((Level_con picks hl hll 4 (by omega) (picks.length + 1) (pL picks 4 (picks.length + 1) 0).2 (by omega) (by omega) (by omega)).sw 1000 800) (.cons (by first | exact Sub.refl _ | exact Sub.ts | exact Sub.nil | exact Sub.agc (by repeat (first | exact .nil | refine .cons (by first | exact Sub.refl _ | exact Sub.nil) ?_))) (.cons (by first | exact Sub.refl _ | exact Sub.ts | exact Sub.nil | exact Sub.agc (by repeat (first | exact .nil | refine .cons (by first | exact Sub.refl _ | exact Sub.nil) ?_))) .nil)) rfl (fun r o ⟨_, _, ⟨e1, e2⟩, e3, e4⟩ => ?_)
    subst e1 e2 e3 e4
    refine ⟨by rw [hcx]; rfl, _, rfl, ?_⟩
    refine x_store ti39_LvT rfl rfl rfl rfl rfl rfl rfl rfl ?_
    refine awl_nil ?_
    change AWp _ _ _ _ _ _
    refine awp_seq ?_
    refine awp_seq ?_
    refine awp_region ?_
    first | refine awl_load_row ti39_LvT rfl rfl rfl rfl ?_ | refine x_irow ti39_LvT rfl rfl rfl rfl ?_
    first | refine awl_load_row ti39_LvT rfl rfl rfl rfl ?_ | refine x_irow ti39_LvT rfl rfl rfl rfl ?_
    refine x_slice si24_LvT ei39_LvT rfl rfl rfl rfl ?_
    refine awl_sub (sub_two _ _) ?_
    refine awl_pcall fb26_LvT rfl (Light_con _) (.cons (by first | exact Sub.refl _ | exact Sub.ts | exact Sub.nil | exact Sub.agc (by repeat (first | exact .nil | refine .cons (by first | exact Sub.refl _ | exact Sub.nil) ?_))) .nil) rfl ?_
    first | refine awl_un rfl rfl rfl un_notd ?_ | refine awl_un rfl rfl rfl un_not ?_
    refine awl_move rfl rfl ?_
    first | refine awl_split_p 24 rfl (fun hg2 => ?_) (fun hg2 => ?_) | refine awl_split 24 rfl (fun hg2 => ?_) (fun hg2 => ?_)
    · skip
      refine awl_guard_no rfl (by first | exact hg2 | exact decide_eq_true hg2 | exact decide_eq_false hg2) rfl rfl rfl rfl ?_
      refine awl_guard_no rfl (by first | exact hg2 | exact decide_eq_true hg2 | exact decide_eq_false hg2) rfl rfl rfl rfl ?_
      refine awl_guard_no rfl (by first | exact hg2 | exact decide_eq_true hg2 | exact decide_eq_false hg2) rfl rfl rfl rfl ?_
      refine awl_pick_t (by first | exact hg2 | exact decide_eq_true hg2 | exact decide_eq_false hg2) rfl rfl rfl ?_
      refine awl_nil ?_
      change AWp _ _ _ _ _ _
      refine awp_cond_t rfl rfl ?_
      refine awp_seq ?_
      refine awp_region ?_
      refine awl_assign rfl rfl ?_
      refine awl_nil ?_
      change AWp _ _ _ _ _ _
      refine awp_ret ?_
      change Ends _ _ _ _ _ _
      refine ends1 [] rfl (.tmp rfl) ?_ rfl
      first | exact ⟨rfl, rfl⟩ | exact ⟨B_eq (eqL_self _), rfl⟩
    · skip
      obtain ⟨hA, hB⟩ := light2 hg2
      refine awl_guard_yes rfl (by first | exact hg2 | exact decide_eq_true hg2 | exact decide_eq_false hg2) rfl rfl ?_
      refine awl_move rfl rfl ?_
      refine awl_guard_yes rfl (by first | exact hg2 | exact decide_eq_true hg2 | exact decide_eq_false hg2) rfl rfl ?_
      refine x_len si45_LvT rfl rfl rfl (fun hlen30 => ?_)
      refine awl_guard_yes rfl (by first | exact hg2 | exact decide_eq_true hg2 | exact decide_eq_false hg2) rfl rfl ?_
      refine awl_bin rfl rfl rfl rfl bin_gtr ?_
      refine awl_pick_f (by first | exact hg2 | exact decide_eq_true hg2 | exact decide_eq_false hg2) rfl rfl rfl ?_
      refine awl_nil ?_
      change AWp _ _ _ _ _ _
      first | refine awp_cond_p rfl (fun h4 => ?_) (fun h4 => ?_) | refine awp_cond rfl (fun h4 => ?_) (fun h4 => ?_)
      · skip
        refine awp_seq ?_
        refine awp_region ?_
        refine awl_assign rfl rfl ?_
        refine awl_nil ?_
        change AWp _ _ _ _ _ _
        refine awp_ret ?_
        change Ends _ _ _ _ _ _
        refine ends1 [] rfl (.tmp rfl) ?_ rfl
        first | exact ⟨rfl, rfl⟩ | exact ⟨B_eq (eqL_self _), rfl⟩
      · skip
        refine awp_skip ?_
        change AWp _ _ _ _ _ _
        refine awp_seq ?_
        refine awp_draw0 hmo_LvT (by kernel_rfl) ?_
        refine awd_q [(4, _)] (.cons rfl (.nil)) rfl rfl rfl ?_
        apply Exists.intro
        refine ⟨fun regs' => ?_, ?_⟩
        · skip
          first | refine awl_load_row ti39_LvT rfl rfl rfl rfl ?_ | refine x_irow ti39_LvT rfl rfl rfl rfl ?_
          exact awl_done rfl
        refine awd_q [(5, _)] (.cons rfl (.nil)) rfl rfl rfl ?_
        apply Exists.intro
        refine ⟨fun regs' => ?_, ?_⟩
        · skip
          first | refine awl_load_row ti39_LvT rfl rfl rfl rfl ?_ | refine x_irow ti39_LvT rfl rfl rfl rfl ?_
          exact awl_done rfl
        refine awd_q [(29, _), (30, _)] (.cons rfl (.cons rfl (.nil))) rfl rfl rfl ?_
        apply Exists.intro
        refine ⟨fun regs' => ?_, ?_⟩
        · skip
          refine awl_pcall fb31_LvT rfl (Leq_con _ _ hA.2.2 hB.2.2 (by omega) (by omega)) (.cons (by first | exact Sub.refl _ | exact Sub.ts | exact Sub.nil | exact Sub.agc (by repeat (first | exact .nil | refine .cons (by first | exact Sub.refl _ | exact Sub.nil) ?_))) (.cons (by first | exact Sub.refl _ | exact Sub.ts | exact Sub.nil | exact Sub.agc (by repeat (first | exact .nil | refine .cons (by first | exact Sub.refl _ | exact Sub.nil) ?_))) .nil)) rfl ?_
          exact awl_done rfl
        refine awd_q [(4, _)] (.cons rfl (.nil)) rfl rfl rfl ?_
        apply Exists.intro
        refine ⟨fun regs' => ?_, ?_⟩
        · skip
          first | refine awl_load_row ti39_LvT rfl rfl rfl rfl ?_ | refine x_irow ti39_LvT rfl rfl rfl rfl ?_
          exact awl_done rfl
        refine awd_q [(5, _)] (.cons rfl (.nil)) rfl rfl rfl ?_
        apply Exists.intro
        refine ⟨fun regs' => ?_, ?_⟩
        · skip
          first | refine awl_load_row ti39_LvT rfl rfl rfl rfl ?_ | refine x_irow ti39_LvT rfl rfl rfl rfl ?_
          exact awl_done rfl
        refine awd_q [(32, _), (33, _)] (.cons rfl (.cons rfl (.nil))) rfl rfl rfl ?_
        apply Exists.intro
        refine ⟨fun regs' => ?_, ?_⟩
        · skip
          refine awl_pcall fb32_LvT rfl (rLeq_con _ _ hA.2.2 hB.2.2 hA.2.1 hB.2.1) (.cons (by first | exact Sub.refl _ | exact Sub.ts | exact Sub.nil | exact Sub.agc (by repeat (first | exact .nil | refine .cons (by first | exact Sub.refl _ | exact Sub.nil) ?_))) (.cons (by first | exact Sub.refl _ | exact Sub.ts | exact Sub.nil | exact Sub.agc (by repeat (first | exact .nil | refine .cons (by first | exact Sub.refl _ | exact Sub.nil) ?_))) .nil)) rfl ?_
          exact awl_done rfl
        refine awd_q [(31, _), (34, _)] (.cons rfl (.cons rfl (.nil))) rfl rfl rfl ?_
        apply Exists.intro
        refine ⟨fun regs' => ?_, ?_⟩
        · skip
          refine awl_bin rfl rfl rfl rfl (bool_eql Try.underlying4) ?_
          exact awl_done rfl
        refine awd_q [(35, _)] (.cons rfl (.nil)) rfl rfl rfl ?_
        apply Exists.intro
        refine ⟨fun regs' => ?_, ?_⟩
        · skip
          refine awl_move rfl rfl ?_
          exact awl_done rfl
        refine awd_q [(5, _), (36, _)] (.cons rfl (.cons rfl (.nil))) rfl rfl rfl ?_
        apply Exists.intro
        refine ⟨fun regs' => ?_, ?_⟩
        · skip
          refine awl_guard_yes rfl (by first | exact (beq_self_eq_true _) | exact decide_eq_true (beq_self_eq_true _) | exact decide_eq_false (beq_self_eq_true _)) rfl rfl ?_
          first | refine awl_load_row ti39_LvT rfl rfl rfl rfl ?_ | refine x_irow ti39_LvT rfl rfl rfl rfl ?_
          exact awl_done rfl
        refine awd_q [(4, _), (36, _)] (.cons rfl (.cons rfl (.nil))) rfl rfl rfl ?_
        apply Exists.intro
        refine ⟨fun regs' => ?_, ?_⟩
        · skip
          refine awl_guard_yes rfl (by first | exact (beq_self_eq_true _) | exact decide_eq_true (beq_self_eq_true _) | exact decide_eq_false (beq_self_eq_true _)) rfl rfl ?_
          first | refine awl_load_row ti39_LvT rfl rfl rfl rfl ?_ | refine x_irow ti39_LvT rfl rfl rfl rfl ?_
          exact awl_done rfl
        refine awd_q [(37, _), (38, _), (36, _)] (.cons rfl (.cons rfl (.cons rfl (.nil)))) rfl rfl rfl ?_
        apply Exists.intro
        refine ⟨fun regs' => ?_, ?_⟩
        · skip
          refine awl_guard_yes rfl (by first | exact (beq_self_eq_true _) | exact decide_eq_true (beq_self_eq_true _) | exact decide_eq_false (beq_self_eq_true _)) rfl rfl ?_
          refine awl_pcall fb31_LvT rfl (Leq_con _ _ hB.2.2 hA.2.2 (by omega) (by omega)) (.cons (by first | exact Sub.refl _ | exact Sub.ts | exact Sub.nil | exact Sub.agc (by repeat (first | exact .nil | refine .cons (by first | exact Sub.refl _ | exact Sub.nil) ?_))) (.cons (by first | exact Sub.refl _ | exact Sub.ts | exact Sub.nil | exact Sub.agc (by repeat (first | exact .nil | refine .cons (by first | exact Sub.refl _ | exact Sub.nil) ?_))) .nil)) rfl ?_
          exact awl_done rfl
        refine awd_q [(5, _), (36, _)] (.cons rfl (.cons rfl (.nil))) rfl rfl rfl ?_
        apply Exists.intro
        refine ⟨fun regs' => ?_, ?_⟩
        · skip
          refine awl_guard_yes rfl (by first | exact (beq_self_eq_true _) | exact decide_eq_true (beq_self_eq_true _) | exact decide_eq_false (beq_self_eq_true _)) rfl rfl ?_
          first | refine awl_load_row ti39_LvT rfl rfl rfl rfl ?_ | refine x_irow ti39_LvT rfl rfl rfl rfl ?_
          exact awl_done rfl
        refine awd_q [(4, _), (36, _)] (.cons rfl (.cons rfl (.nil))) rfl rfl rfl ?_
        apply Exists.intro
        refine ⟨fun regs' => ?_, ?_⟩
        · skip
          refine awl_guard_yes rfl (by first | exact (beq_self_eq_true _) | exact decide_eq_true (beq_self_eq_true _) | exact decide_eq_false (beq_self_eq_true _)) rfl rfl ?_
          first | refine awl_load_row ti39_LvT rfl rfl rfl rfl ?_ | refine x_irow ti39_LvT rfl rfl rfl rfl ?_
          exact awl_done rfl
        refine awd_q [(40, _), (41, _), (36, _)] (.cons rfl (.cons rfl (.cons rfl (.nil)))) rfl rfl rfl ?_
        apply Exists.intro
        refine ⟨fun regs' => ?_, ?_⟩
        · skip
          refine awl_guard_yes rfl (by first | exact (beq_self_eq_true _) | exact decide_eq_true (beq_self_eq_true _) | exact decide_eq_false (beq_self_eq_true _)) rfl rfl ?_
          refine awl_pcall fb32_LvT rfl (rLeq_con _ _ hB.2.2 hA.2.2 hB.2.1 hA.2.1) (.cons (by first | exact Sub.refl _ | exact Sub.ts | exact Sub.nil | exact Sub.agc (by repeat (first | exact .nil | refine .cons (by first | exact Sub.refl _ | exact Sub.nil) ?_))) (.cons (by first | exact Sub.refl _ | exact Sub.ts | exact Sub.nil | exact Sub.agc (by repeat (first | exact .nil | refine .cons (by first | exact Sub.refl _ | exact Sub.nil) ?_))) .nil)) rfl ?_
          exact awl_done rfl
        refine awd_q [(39, _), (42, _), (36, _)] (.cons rfl (.cons rfl (.cons rfl (.nil)))) rfl rfl rfl ?_
        apply Exists.intro
        refine ⟨fun regs' => ?_, ?_⟩
        · skip
          refine awl_guard_yes rfl (by first | exact (beq_self_eq_true _) | exact decide_eq_true (beq_self_eq_true _) | exact decide_eq_false (beq_self_eq_true _)) rfl rfl ?_
          refine awl_bin rfl rfl rfl rfl (bool_eql Try.underlying4) ?_
          exact awl_done rfl
        refine awd_q [(36, _), (43, _)] (.cons rfl (.cons rfl (.nil))) rfl rfl rfl ?_
        apply Exists.intro
        refine ⟨fun regs' => ?_, ?_⟩
        · skip
          refine awl_pick_t (by first | exact (beq_self_eq_true _) | exact decide_eq_true (beq_self_eq_true _) | exact decide_eq_false (beq_self_eq_true _)) rfl rfl rfl ?_
          exact awl_done rfl
        refine awd_q [(44, _)] (.cons rfl (.nil)) rfl rfl rfl ?_
        apply Exists.intro
        refine ⟨fun regs' => ?_, ?_⟩
        · skip
          refine awl_move rfl rfl ?_
          exact awl_done rfl
        refine awd_q [(4, _), (45, _)] (.cons rfl (.cons rfl (.nil))) rfl rfl rfl ?_
        apply Exists.intro
        refine ⟨fun regs' => ?_, ?_⟩
        · skip
          refine awl_guard_yes rfl (by first | exact (beq_self_eq_true _) | exact decide_eq_true (beq_self_eq_true _) | exact decide_eq_false (beq_self_eq_true _)) rfl rfl ?_
          first | refine awl_load_row ti39_LvT rfl rfl rfl rfl ?_ | refine x_irow ti39_LvT rfl rfl rfl rfl ?_
          exact awl_done rfl
        refine awd_q [(5, _), (45, _)] (.cons rfl (.cons rfl (.nil))) rfl rfl rfl ?_
        apply Exists.intro
        refine ⟨fun regs' => ?_, ?_⟩
        · skip
          refine awl_guard_yes rfl (by first | exact (beq_self_eq_true _) | exact decide_eq_true (beq_self_eq_true _) | exact decide_eq_false (beq_self_eq_true _)) rfl rfl ?_
          first | refine awl_load_row ti39_LvT rfl rfl rfl rfl ?_ | refine x_irow ti39_LvT rfl rfl rfl rfl ?_
          exact awl_done rfl
        refine awd_q [(46, _), (47, _), (45, _)] (.cons rfl (.cons rfl (.cons rfl (.nil)))) rfl rfl rfl ?_
        apply Exists.intro
        refine ⟨fun regs' => ?_, ?_⟩
        · skip
          refine awl_guard_yes rfl (by first | exact (beq_self_eq_true _) | exact decide_eq_true (beq_self_eq_true _) | exact decide_eq_false (beq_self_eq_true _)) rfl rfl ?_
          refine awl_pcall fb33_LvT rfl (Same_con _ _ hA.2.2 hB.2.2 (by omega) (by omega)) (.cons (by first | exact Sub.refl _ | exact Sub.ts | exact Sub.nil | exact Sub.agc (by repeat (first | exact .nil | refine .cons (by first | exact Sub.refl _ | exact Sub.nil) ?_))) (.cons (by first | exact Sub.refl _ | exact Sub.ts | exact Sub.nil | exact Sub.agc (by repeat (first | exact .nil | refine .cons (by first | exact Sub.refl _ | exact Sub.nil) ?_))) .nil)) rfl ?_
          exact awl_done rfl
        refine awd_q [(4, _), (45, _)] (.cons rfl (.cons rfl (.nil))) rfl rfl rfl ?_
        apply Exists.intro
        refine ⟨fun regs' => ?_, ?_⟩
        · skip
          refine awl_guard_yes rfl (by first | exact (beq_self_eq_true _) | exact decide_eq_true (beq_self_eq_true _) | exact decide_eq_false (beq_self_eq_true _)) rfl rfl ?_
          first | refine awl_load_row ti39_LvT rfl rfl rfl rfl ?_ | refine x_irow ti39_LvT rfl rfl rfl rfl ?_
          exact awl_done rfl
        refine awd_q [(5, _), (45, _)] (.cons rfl (.cons rfl (.nil))) rfl rfl rfl ?_
        apply Exists.intro
        refine ⟨fun regs' => ?_, ?_⟩
        · skip
          refine awl_guard_yes rfl (by first | exact (beq_self_eq_true _) | exact decide_eq_true (beq_self_eq_true _) | exact decide_eq_false (beq_self_eq_true _)) rfl rfl ?_
          first | refine awl_load_row ti39_LvT rfl rfl rfl rfl ?_ | refine x_irow ti39_LvT rfl rfl rfl rfl ?_
          exact awl_done rfl
        refine awd_q [(49, _), (50, _), (45, _)] (.cons rfl (.cons rfl (.cons rfl (.nil)))) rfl rfl rfl ?_
        apply Exists.intro
        refine ⟨fun regs' => ?_, ?_⟩
        · skip
          refine awl_guard_yes rfl (by first | exact (beq_self_eq_true _) | exact decide_eq_true (beq_self_eq_true _) | exact decide_eq_false (beq_self_eq_true _)) rfl rfl ?_
          refine awl_pcall fb34_LvT rfl (rSame_con _ _ hA.2.2 hB.2.2 hA.2.1 hB.2.1) (.cons (by first | exact Sub.refl _ | exact Sub.ts | exact Sub.nil | exact Sub.agc (by repeat (first | exact .nil | refine .cons (by first | exact Sub.refl _ | exact Sub.nil) ?_))) (.cons (by first | exact Sub.refl _ | exact Sub.ts | exact Sub.nil | exact Sub.agc (by repeat (first | exact .nil | refine .cons (by first | exact Sub.refl _ | exact Sub.nil) ?_))) .nil)) rfl ?_
          exact awl_done rfl
        refine awd_q [(48, _), (51, _), (45, _)] (.cons rfl (.cons rfl (.cons rfl (.nil)))) rfl rfl rfl ?_
        apply Exists.intro
        refine ⟨fun regs' => ?_, ?_⟩
        · skip
          refine awl_guard_yes rfl (by first | exact (beq_self_eq_true _) | exact decide_eq_true (beq_self_eq_true _) | exact decide_eq_false (beq_self_eq_true _)) rfl rfl ?_
          refine awl_bin rfl rfl rfl rfl (bool_eql Try.underlying4) ?_
          exact awl_done rfl
        refine awd_q [(45, _), (52, _)] (.cons rfl (.cons rfl (.nil))) rfl rfl rfl ?_
        apply Exists.intro
        refine ⟨fun regs' => ?_, ?_⟩
        · skip
          refine awl_pick_t (by first | exact (beq_self_eq_true _) | exact decide_eq_true (beq_self_eq_true _) | exact decide_eq_false (beq_self_eq_true _)) rfl rfl rfl ?_
          exact awl_done rfl
        refine awd_q [(53, _)] (.cons rfl (.nil)) rfl rfl rfl ?_
        apply Exists.intro
        refine ⟨fun regs' => ?_, ?_⟩
        · skip
          refine awl_move rfl rfl ?_
          exact awl_done rfl
        refine awd_q [(4, _), (54, _)] (.cons rfl (.cons rfl (.nil))) rfl rfl rfl ?_
        apply Exists.intro
        refine ⟨fun regs' => ?_, ?_⟩
        · skip
          refine awl_guard_yes rfl (by first | exact (beq_self_eq_true _) | exact decide_eq_true (beq_self_eq_true _) | exact decide_eq_false (beq_self_eq_true _)) rfl rfl ?_
          first | refine awl_load_row ti39_LvT rfl rfl rfl rfl ?_ | refine x_irow ti39_LvT rfl rfl rfl rfl ?_
          exact awl_done rfl
        refine awd_q [(55, _), (54, _)] (.cons rfl (.cons rfl (.nil))) rfl rfl rfl ?_
        apply Exists.intro
        refine ⟨fun regs' => ?_, ?_⟩
        · skip
          refine awl_guard_yes rfl (by first | exact (beq_self_eq_true _) | exact decide_eq_true (beq_self_eq_true _) | exact decide_eq_false (beq_self_eq_true _)) rfl rfl ?_
          refine awl_pcall fb35_LvT rfl (Never_con _ hA.2.2 (by omega)) (.cons (by first | exact Sub.refl _ | exact Sub.ts | exact Sub.nil | exact Sub.agc (by repeat (first | exact .nil | refine .cons (by first | exact Sub.refl _ | exact Sub.nil) ?_))) .nil) rfl ?_
          exact awl_done rfl
        refine awd_q [(4, _), (54, _)] (.cons rfl (.cons rfl (.nil))) rfl rfl rfl ?_
        apply Exists.intro
        refine ⟨fun regs' => ?_, ?_⟩
        · skip
          refine awl_guard_yes rfl (by first | exact (beq_self_eq_true _) | exact decide_eq_true (beq_self_eq_true _) | exact decide_eq_false (beq_self_eq_true _)) rfl rfl ?_
          first | refine awl_load_row ti39_LvT rfl rfl rfl rfl ?_ | refine x_irow ti39_LvT rfl rfl rfl rfl ?_
          exact awl_done rfl
        refine awd_q [(57, _), (54, _)] (.cons rfl (.cons rfl (.nil))) rfl rfl rfl ?_
        apply Exists.intro
        refine ⟨fun regs' => ?_, ?_⟩
        · skip
          refine awl_guard_yes rfl (by first | exact (beq_self_eq_true _) | exact decide_eq_true (beq_self_eq_true _) | exact decide_eq_false (beq_self_eq_true _)) rfl rfl ?_
          refine awl_pcall fb36_LvT rfl (rNever_con _ hA.2.2 hA.2.1) (.cons (by first | exact Sub.refl _ | exact Sub.ts | exact Sub.nil | exact Sub.agc (by repeat (first | exact .nil | refine .cons (by first | exact Sub.refl _ | exact Sub.nil) ?_))) .nil) rfl ?_
          exact awl_done rfl
        refine awd_q [(56, _), (58, _), (54, _)] (.cons rfl (.cons rfl (.cons rfl (.nil)))) rfl rfl rfl ?_
        apply Exists.intro
        refine ⟨fun regs' => ?_, ?_⟩
        · skip
          refine awl_guard_yes rfl (by first | exact (beq_self_eq_true _) | exact decide_eq_true (beq_self_eq_true _) | exact decide_eq_false (beq_self_eq_true _)) rfl rfl ?_
          refine awl_bin rfl rfl rfl rfl (bool_eql Try.underlying4) ?_
          exact awl_done rfl
        refine awd_q [(54, _), (59, _)] (.cons rfl (.cons rfl (.nil))) rfl rfl rfl ?_
        apply Exists.intro
        refine ⟨fun regs' => ?_, ?_⟩
        · skip
          refine awl_pick_t (by first | exact (beq_self_eq_true _) | exact decide_eq_true (beq_self_eq_true _) | exact decide_eq_false (beq_self_eq_true _)) rfl rfl rfl ?_
          exact awl_done rfl
        refine awd_q [(60, _)] (.cons rfl (.nil)) rfl rfl rfl ?_
        apply Exists.intro
        refine ⟨fun regs' => ?_, ?_⟩
        · skip
          refine awl_move rfl rfl ?_
          exact awl_done rfl
        refine awd_q [(4, _), (61, _)] (.cons rfl (.cons rfl (.nil))) rfl rfl rfl ?_
        apply Exists.intro
        refine ⟨fun regs' => ?_, ?_⟩
        · skip
          refine awl_guard_yes rfl (by first | exact (beq_self_eq_true _) | exact decide_eq_true (beq_self_eq_true _) | exact decide_eq_false (beq_self_eq_true _)) rfl rfl ?_
          first | refine awl_load_row ti39_LvT rfl rfl rfl rfl ?_ | refine x_irow ti39_LvT rfl rfl rfl rfl ?_
          exact awl_done rfl
        refine awd_q [(5, _), (61, _)] (.cons rfl (.cons rfl (.nil))) rfl rfl rfl ?_
        apply Exists.intro
        refine ⟨fun regs' => ?_, ?_⟩
        · skip
          refine awl_guard_yes rfl (by first | exact (beq_self_eq_true _) | exact decide_eq_true (beq_self_eq_true _) | exact decide_eq_false (beq_self_eq_true _)) rfl rfl ?_
          first | refine awl_load_row ti39_LvT rfl rfl rfl rfl ?_ | refine x_irow ti39_LvT rfl rfl rfl rfl ?_
          exact awl_done rfl
        refine awd_q [(62, _), (63, _), (61, _)] (.cons rfl (.cons rfl (.cons rfl (.nil)))) rfl rfl rfl ?_
        apply Exists.intro
        refine ⟨fun regs' => ?_, ?_⟩
        · skip
          refine awl_guard_yes rfl (by first | exact (beq_self_eq_true _) | exact decide_eq_true (beq_self_eq_true _) | exact decide_eq_false (beq_self_eq_true _)) rfl rfl ?_
          refine awl_pcall fb37_LvT rfl (Equal_con _ _) (.cons (by first | exact Sub.refl _ | exact Sub.ts | exact Sub.nil | exact Sub.agc (by repeat (first | exact .nil | refine .cons (by first | exact Sub.refl _ | exact Sub.nil) ?_))) (.cons (by first | exact Sub.refl _ | exact Sub.ts | exact Sub.nil | exact Sub.agc (by repeat (first | exact .nil | refine .cons (by first | exact Sub.refl _ | exact Sub.nil) ?_))) .nil)) rfl ?_
          exact awl_done rfl
        refine awd_q [(4, _), (61, _)] (.cons rfl (.cons rfl (.nil))) rfl rfl rfl ?_
        apply Exists.intro
        refine ⟨fun regs' => ?_, ?_⟩
        · skip
          refine awl_guard_yes rfl (by first | exact (beq_self_eq_true _) | exact decide_eq_true (beq_self_eq_true _) | exact decide_eq_false (beq_self_eq_true _)) rfl rfl ?_
          first | refine awl_load_row ti39_LvT rfl rfl rfl rfl ?_ | refine x_irow ti39_LvT rfl rfl rfl rfl ?_
          exact awl_done rfl
        refine awd_q [(5, _), (61, _)] (.cons rfl (.cons rfl (.nil))) rfl rfl rfl ?_
        apply Exists.intro
        refine ⟨fun regs' => ?_, ?_⟩
        · skip
          refine awl_guard_yes rfl (by first | exact (beq_self_eq_true _) | exact decide_eq_true (beq_self_eq_true _) | exact decide_eq_false (beq_self_eq_true _)) rfl rfl ?_
          first | refine awl_load_row ti39_LvT rfl rfl rfl rfl ?_ | refine x_irow ti39_LvT rfl rfl rfl rfl ?_
          exact awl_done rfl
        refine awd_q [(65, _), (66, _), (61, _)] (.cons rfl (.cons rfl (.cons rfl (.nil)))) rfl rfl rfl ?_
        apply Exists.intro
        refine ⟨fun regs' => ?_, ?_⟩
        · skip
          refine awl_guard_yes rfl (by first | exact (beq_self_eq_true _) | exact decide_eq_true (beq_self_eq_true _) | exact decide_eq_false (beq_self_eq_true _)) rfl rfl ?_
          refine awl_pcall fb38_LvT rfl (rEqual_con _ _) (.cons (by first | exact Sub.refl _ | exact Sub.ts | exact Sub.nil | exact Sub.agc (by repeat (first | exact .nil | refine .cons (by first | exact Sub.refl _ | exact Sub.nil) ?_))) (.cons (by first | exact Sub.refl _ | exact Sub.ts | exact Sub.nil | exact Sub.agc (by repeat (first | exact .nil | refine .cons (by first | exact Sub.refl _ | exact Sub.nil) ?_))) .nil)) rfl ?_
          exact awl_done rfl
        refine awd_q [(64, _), (67, _), (61, _)] (.cons rfl (.cons rfl (.cons rfl (.nil)))) rfl rfl rfl ?_
        apply Exists.intro
        refine ⟨fun regs' => ?_, ?_⟩
        · skip
          refine awl_guard_yes rfl (by first | exact (beq_self_eq_true _) | exact decide_eq_true (beq_self_eq_true _) | exact decide_eq_false (beq_self_eq_true _)) rfl rfl ?_
          refine awl_bin rfl rfl rfl rfl (bool_eql Try.underlying4) ?_
          exact awl_done rfl
        refine awd_q [(61, _), (68, _)] (.cons rfl (.cons rfl (.nil))) rfl rfl rfl ?_
        apply Exists.intro
        refine ⟨fun regs' => ?_, ?_⟩
        · skip
          refine awl_pick_t (by first | exact (beq_self_eq_true _) | exact decide_eq_true (beq_self_eq_true _) | exact decide_eq_false (beq_self_eq_true _)) rfl rfl rfl ?_
          exact awl_done rfl
        refine awd_q [(69, _)] (.cons rfl (.nil)) rfl rfl rfl ?_
        apply Exists.intro
        refine ⟨fun regs' => ?_, ?_⟩
        · skip
          refine awl_move rfl rfl ?_
          exact awl_done rfl
        refine awd_q [(4, _), (70, _)] (.cons rfl (.cons rfl (.nil))) rfl rfl rfl ?_
        apply Exists.intro
        refine ⟨fun regs' => ?_, ?_⟩
        · skip
          refine awl_guard_yes rfl (by first | exact (beq_self_eq_true _) | exact decide_eq_true (beq_self_eq_true _) | exact decide_eq_false (beq_self_eq_true _)) rfl rfl ?_
          first | refine awl_load_row ti39_LvT rfl rfl rfl rfl ?_ | refine x_irow ti39_LvT rfl rfl rfl rfl ?_
          exact awl_done rfl
        refine awd_q [(4, _), (70, _)] (.cons rfl (.cons rfl (.nil))) rfl rfl rfl ?_
        apply Exists.intro
        refine ⟨fun regs' => ?_, ?_⟩
        · skip
          refine awl_guard_yes rfl (by first | exact (beq_self_eq_true _) | exact decide_eq_true (beq_self_eq_true _) | exact decide_eq_false (beq_self_eq_true _)) rfl rfl ?_
          first | refine awl_load_row ti39_LvT rfl rfl rfl rfl ?_ | refine x_irow ti39_LvT rfl rfl rfl rfl ?_
          exact awl_done rfl
        refine awd_q [(71, _), (72, _), (70, _)] (.cons rfl (.cons rfl (.cons rfl (.nil)))) rfl rfl rfl ?_
        apply Exists.intro
        refine ⟨fun regs' => ?_, ?_⟩
        · skip
          refine awl_guard_yes rfl (by first | exact (beq_self_eq_true _) | exact decide_eq_true (beq_self_eq_true _) | exact decide_eq_false (beq_self_eq_true _)) rfl rfl ?_
          refine awl_pcall fb37_LvT rfl (Equal_con _ _) (.cons (by first | exact Sub.refl _ | exact Sub.ts | exact Sub.nil | exact Sub.agc (by repeat (first | exact .nil | refine .cons (by first | exact Sub.refl _ | exact Sub.nil) ?_))) (.cons (by first | exact Sub.refl _ | exact Sub.ts | exact Sub.nil | exact Sub.agc (by repeat (first | exact .nil | refine .cons (by first | exact Sub.refl _ | exact Sub.nil) ?_))) .nil)) rfl ?_
          exact awl_done rfl
        refine awd_q [(70, _), (73, _)] (.cons rfl (.cons rfl (.nil))) rfl rfl rfl ?_
        apply Exists.intro
        refine ⟨fun regs' => ?_, ?_⟩
        · skip
          refine awl_pick_t (by first | exact (beq_self_eq_true _) | exact decide_eq_true (beq_self_eq_true _) | exact decide_eq_false (beq_self_eq_true _)) rfl rfl rfl ?_
          exact awl_done rfl
        refine awd_q [(74, _)] (.cons rfl (.nil)) rfl rfl rfl ?_
        apply Exists.intro
        refine ⟨fun regs' => ?_, ?_⟩
        · skip
          refine awl_assign rfl rfl ?_
          exact awl_done rfl
        refine awd_nil ?_
        change AWp _ _ _ _ _ _
        refine awp_ret ?_
        change Ends _ _ _ _ _ _
        refine ends1 [] rfl (.tmp rfl) ?_ rfl
        first | exact ⟨rfl, rfl⟩ | exact ⟨B_eq (eqL_self _), rfl⟩
  · skip
    refine awp_skip ?_
    change AWp _ _ _ _ _ _
    refine awp_seq ?_
    refine awp_seq ?_
    refine awp_region ?_
    first | refine awl_load_row ti39_LvT rfl rfl rfl rfl ?_ | refine x_irow ti39_LvT rfl rfl rfl rfl ?_
    first | refine awl_load_row ti39_LvT rfl rfl rfl rfl ?_ | refine x_irow ti39_LvT rfl rfl rfl rfl ?_
    refine x_slice si24_LvT ei39_LvT rfl rfl rfl rfl ?_
    refine awl_sub (sub_two _ _) ?_
    refine awl_pcall fb26_LvT rfl (Light_con _) (.cons (by first | exact Sub.refl _ | exact Sub.ts | exact Sub.nil | exact Sub.agc (by repeat (first | exact .nil | refine .cons (by first | exact Sub.refl _ | exact Sub.nil) ?_))) .nil) rfl ?_
    first | refine awl_un rfl rfl rfl un_notd ?_ | refine awl_un rfl rfl rfl un_not ?_
    refine awl_move rfl rfl ?_
    first | refine awl_split_p 24 rfl (fun hg2 => ?_) (fun hg2 => ?_) | refine awl_split 24 rfl (fun hg2 => ?_) (fun hg2 => ?_)
    · skip
      refine awl_guard_no rfl (by first | exact hg2 | exact decide_eq_true hg2 | exact decide_eq_false hg2) rfl rfl rfl rfl ?_
      refine awl_guard_no rfl (by first | exact hg2 | exact decide_eq_true hg2 | exact decide_eq_false hg2) rfl rfl rfl rfl ?_
      refine awl_guard_no rfl (by first | exact hg2 | exact decide_eq_true hg2 | exact decide_eq_false hg2) rfl rfl rfl rfl ?_
      refine awl_pick_t (by first | exact hg2 | exact decide_eq_true hg2 | exact decide_eq_false hg2) rfl rfl rfl ?_
      refine awl_nil ?_
      change AWp _ _ _ _ _ _
      refine awp_cond_t rfl rfl ?_
      refine awp_seq ?_
      refine awp_region ?_
      refine awl_assign rfl rfl ?_
      refine awl_nil ?_
      change AWp _ _ _ _ _ _
      refine awp_ret ?_
      change Ends _ _ _ _ _ _
      refine ends1 [] rfl (.tmp rfl) ?_ rfl
      first | exact ⟨rfl, rfl⟩ | exact ⟨B_eq (eqL_self _), rfl⟩
    · skip
      obtain ⟨hA, hB⟩ := light2 hg2
      refine awl_guard_yes rfl (by first | exact hg2 | exact decide_eq_true hg2 | exact decide_eq_false hg2) rfl rfl ?_
      refine awl_move rfl rfl ?_
      refine awl_guard_yes rfl (by first | exact hg2 | exact decide_eq_true hg2 | exact decide_eq_false hg2) rfl rfl ?_
      refine x_len si45_LvT rfl rfl rfl (fun hlen138 => ?_)
      refine awl_guard_yes rfl (by first | exact hg2 | exact decide_eq_true hg2 | exact decide_eq_false hg2) rfl rfl ?_
      refine awl_bin rfl rfl rfl rfl bin_gtr ?_
      refine awl_pick_f (by first | exact hg2 | exact decide_eq_true hg2 | exact decide_eq_false hg2) rfl rfl rfl ?_
      refine awl_nil ?_
      change AWp _ _ _ _ _ _
      first | refine awp_cond_p rfl (fun h11 => ?_) (fun h11 => ?_) | refine awp_cond rfl (fun h11 => ?_) (fun h11 => ?_)
      · skip
        refine awp_seq ?_
        refine awp_region ?_
        refine awl_assign rfl rfl ?_
        refine awl_nil ?_
        change AWp _ _ _ _ _ _
        refine awp_ret ?_
        change Ends _ _ _ _ _ _
        refine ends1 [] rfl (.tmp rfl) ?_ rfl
        first | exact ⟨rfl, rfl⟩ | exact ⟨B_eq (eqL_self _), rfl⟩
      · skip
        refine awp_skip ?_
        change AWp _ _ _ _ _ _
        refine awp_seq ?_
        refine awp_draw0 hmo_LvT (by kernel_rfl) ?_
        refine awd_q [(4, _)] (.cons rfl (.nil)) rfl rfl rfl ?_
        apply Exists.intro
        refine ⟨fun regs' => ?_, ?_⟩
        · skip
          first | refine awl_load_row ti39_LvT rfl rfl rfl rfl ?_ | refine x_irow ti39_LvT rfl rfl rfl rfl ?_
          exact awl_done rfl
        refine awd_q [(5, _)] (.cons rfl (.nil)) rfl rfl rfl ?_
        apply Exists.intro
        refine ⟨fun regs' => ?_, ?_⟩
        · skip
          first | refine awl_load_row ti39_LvT rfl rfl rfl rfl ?_ | refine x_irow ti39_LvT rfl rfl rfl rfl ?_
          exact awl_done rfl
        refine awd_q [(29, _), (30, _)] (.cons rfl (.cons rfl (.nil))) rfl rfl rfl ?_
        apply Exists.intro
        refine ⟨fun regs' => ?_, ?_⟩
        · skip
          refine awl_pcall fb31_LvT rfl (Leq_con _ _ hA.2.2 hB.2.2 (by omega) (by omega)) (.cons (by first | exact Sub.refl _ | exact Sub.ts | exact Sub.nil | exact Sub.agc (by repeat (first | exact .nil | refine .cons (by first | exact Sub.refl _ | exact Sub.nil) ?_))) (.cons (by first | exact Sub.refl _ | exact Sub.ts | exact Sub.nil | exact Sub.agc (by repeat (first | exact .nil | refine .cons (by first | exact Sub.refl _ | exact Sub.nil) ?_))) .nil)) rfl ?_
          exact awl_done rfl
        refine awd_q [(4, _)] (.cons rfl (.nil)) rfl rfl rfl ?_
        apply Exists.intro
        refine ⟨fun regs' => ?_, ?_⟩
        · skip
          first | refine awl_load_row ti39_LvT rfl rfl rfl rfl ?_ | refine x_irow ti39_LvT rfl rfl rfl rfl ?_
          exact awl_done rfl
        refine awd_q [(5, _)] (.cons rfl (.nil)) rfl rfl rfl ?_
        apply Exists.intro
        refine ⟨fun regs' => ?_, ?_⟩
        · skip
          first | refine awl_load_row ti39_LvT rfl rfl rfl rfl ?_ | refine x_irow ti39_LvT rfl rfl rfl rfl ?_
          exact awl_done rfl
        refine awd_q [(32, _), (33, _)] (.cons rfl (.cons rfl (.nil))) rfl rfl rfl ?_
        apply Exists.intro
        refine ⟨fun regs' => ?_, ?_⟩
        · skip
          refine awl_pcall fb32_LvT rfl (rLeq_con _ _ hA.2.2 hB.2.2 hA.2.1 hB.2.1) (.cons (by first | exact Sub.refl _ | exact Sub.ts | exact Sub.nil | exact Sub.agc (by repeat (first | exact .nil | refine .cons (by first | exact Sub.refl _ | exact Sub.nil) ?_))) (.cons (by first | exact Sub.refl _ | exact Sub.ts | exact Sub.nil | exact Sub.agc (by repeat (first | exact .nil | refine .cons (by first | exact Sub.refl _ | exact Sub.nil) ?_))) .nil)) rfl ?_
          exact awl_done rfl
        refine awd_q [(31, _), (34, _)] (.cons rfl (.cons rfl (.nil))) rfl rfl rfl ?_
        apply Exists.intro
        refine ⟨fun regs' => ?_, ?_⟩
        · skip
          refine awl_bin rfl rfl rfl rfl (bool_eql Try.underlying4) ?_
          exact awl_done rfl
        refine awd_q [(35, _)] (.cons rfl (.nil)) rfl rfl rfl ?_
        apply Exists.intro
        refine ⟨fun regs' => ?_, ?_⟩
        · skip
          refine awl_move rfl rfl ?_
          exact awl_done rfl
        refine awd_q [(5, _), (36, _)] (.cons rfl (.cons rfl (.nil))) rfl rfl rfl ?_
        apply Exists.intro
        refine ⟨fun regs' => ?_, ?_⟩
        · skip
          refine awl_guard_yes rfl (by first | exact (beq_self_eq_true _) | exact decide_eq_true (beq_self_eq_true _) | exact decide_eq_false (beq_self_eq_true _)) rfl rfl ?_
          first | refine awl_load_row ti39_LvT rfl rfl rfl rfl ?_ | refine x_irow ti39_LvT rfl rfl rfl rfl ?_
          exact awl_done rfl
        refine awd_q [(4, _), (36, _)] (.cons rfl (.cons rfl (.nil))) rfl rfl rfl ?_
        apply Exists.intro
        refine ⟨fun regs' => ?_, ?_⟩
        · skip
          refine awl_guard_yes rfl (by first | exact (beq_self_eq_true _) | exact decide_eq_true (beq_self_eq_true _) | exact decide_eq_false (beq_self_eq_true _)) rfl rfl ?_
          first | refine awl_load_row ti39_LvT rfl rfl rfl rfl ?_ | refine x_irow ti39_LvT rfl rfl rfl rfl ?_
          exact awl_done rfl
        refine awd_q [(37, _), (38, _), (36, _)] (.cons rfl (.cons rfl (.cons rfl (.nil)))) rfl rfl rfl ?_
        apply Exists.intro
        refine ⟨fun regs' => ?_, ?_⟩
        · skip
          refine awl_guard_yes rfl (by first | exact (beq_self_eq_true _) | exact decide_eq_true (beq_self_eq_true _) | exact decide_eq_false (beq_self_eq_true _)) rfl rfl ?_
          refine awl_pcall fb31_LvT rfl (Leq_con _ _ hB.2.2 hA.2.2 (by omega) (by omega)) (.cons (by first | exact Sub.refl _ | exact Sub.ts | exact Sub.nil | exact Sub.agc (by repeat (first | exact .nil | refine .cons (by first | exact Sub.refl _ | exact Sub.nil) ?_))) (.cons (by first | exact Sub.refl _ | exact Sub.ts | exact Sub.nil | exact Sub.agc (by repeat (first | exact .nil | refine .cons (by first | exact Sub.refl _ | exact Sub.nil) ?_))) .nil)) rfl ?_
          exact awl_done rfl
        refine awd_q [(5, _), (36, _)] (.cons rfl (.cons rfl (.nil))) rfl rfl rfl ?_
        apply Exists.intro
        refine ⟨fun regs' => ?_, ?_⟩
        · skip
          refine awl_guard_yes rfl (by first | exact (beq_self_eq_true _) | exact decide_eq_true (beq_self_eq_true _) | exact decide_eq_false (beq_self_eq_true _)) rfl rfl ?_
          first | refine awl_load_row ti39_LvT rfl rfl rfl rfl ?_ | refine x_irow ti39_LvT rfl rfl rfl rfl ?_
          exact awl_done rfl
        refine awd_q [(4, _), (36, _)] (.cons rfl (.cons rfl (.nil))) rfl rfl rfl ?_
        apply Exists.intro
        refine ⟨fun regs' => ?_, ?_⟩
        · skip
          refine awl_guard_yes rfl (by first | exact (beq_self_eq_true _) | exact decide_eq_true (beq_self_eq_true _) | exact decide_eq_false (beq_self_eq_true _)) rfl rfl ?_
          first | refine awl_load_row ti39_LvT rfl rfl rfl rfl ?_ | refine x_irow ti39_LvT rfl rfl rfl rfl ?_
          exact awl_done rfl
        refine awd_q [(40, _), (41, _), (36, _)] (.cons rfl (.cons rfl (.cons rfl (.nil)))) rfl rfl rfl ?_
        apply Exists.intro
        refine ⟨fun regs' => ?_, ?_⟩
        · skip
          refine awl_guard_yes rfl (by first | exact (beq_self_eq_true _) | exact decide_eq_true (beq_self_eq_true _) | exact decide_eq_false (beq_self_eq_true _)) rfl rfl ?_
          refine awl_pcall fb32_LvT rfl (rLeq_con _ _ hB.2.2 hA.2.2 hB.2.1 hA.2.1) (.cons (by first | exact Sub.refl _ | exact Sub.ts | exact Sub.nil | exact Sub.agc (by repeat (first | exact .nil | refine .cons (by first | exact Sub.refl _ | exact Sub.nil) ?_))) (.cons (by first | exact Sub.refl _ | exact Sub.ts | exact Sub.nil | exact Sub.agc (by repeat (first | exact .nil | refine .cons (by first | exact Sub.refl _ | exact Sub.nil) ?_))) .nil)) rfl ?_
          exact awl_done rfl
        refine awd_q [(39, _), (42, _), (36, _)] (.cons rfl (.cons rfl (.cons rfl (.nil)))) rfl rfl rfl ?_
        apply Exists.intro
        refine ⟨fun regs' => ?_, ?_⟩
        · skip
          refine awl_guard_yes rfl (by first | exact (beq_self_eq_true _) | exact decide_eq_true (beq_self_eq_true _) | exact decide_eq_false (beq_self_eq_true _)) rfl rfl ?_
          refine awl_bin rfl rfl rfl rfl (bool_eql Try.underlying4) ?_
          exact awl_done rfl
        refine awd_q [(36, _), (43, _)] (.cons rfl (.cons rfl (.nil))) rfl rfl rfl ?_
        apply Exists.intro
        refine ⟨fun regs' => ?_, ?_⟩
        · skip
          refine awl_pick_t (by first | exact (beq_self_eq_true _) | exact decide_eq_true (beq_self_eq_true _) | exact decide_eq_false (beq_self_eq_true _)) rfl rfl rfl ?_
          exact awl_done rfl
        refine awd_q [(44, _)] (.cons rfl (.nil)) rfl rfl rfl ?_
        apply Exists.intro
        refine ⟨fun regs' => ?_, ?_⟩
        · skip
          refine awl_move rfl rfl ?_
          exact awl_done rfl
        refine awd_q [(4, _), (45, _)] (.cons rfl (.cons rfl (.nil))) rfl rfl rfl ?_
        apply Exists.intro
        refine ⟨fun regs' => ?_, ?_⟩
        · skip
          refine awl_guard_yes rfl (by first | exact (beq_self_eq_true _) | exact decide_eq_true (beq_self_eq_true _) | exact decide_eq_false (beq_self_eq_true _)) rfl rfl ?_
          first | refine awl_load_row ti39_LvT rfl rfl rfl rfl ?_ | refine x_irow ti39_LvT rfl rfl rfl rfl ?_
          exact awl_done rfl
        refine awd_q [(5, _), (45, _)] (.cons rfl (.cons rfl (.nil))) rfl rfl rfl ?_
        apply Exists.intro
        refine ⟨fun regs' => ?_, ?_⟩
        · skip
          refine awl_guard_yes rfl (by first | exact (beq_self_eq_true _) | exact decide_eq_true (beq_self_eq_true _) | exact decide_eq_false (beq_self_eq_true _)) rfl rfl ?_
          first | refine awl_load_row ti39_LvT rfl rfl rfl rfl ?_ | refine x_irow ti39_LvT rfl rfl rfl rfl ?_
          exact awl_done rfl
        refine awd_q [(46, _), (47, _), (45, _)] (.cons rfl (.cons rfl (.cons rfl (.nil)))) rfl rfl rfl ?_
        apply Exists.intro
        refine ⟨fun regs' => ?_, ?_⟩
        · skip
          refine awl_guard_yes rfl (by first | exact (beq_self_eq_true _) | exact decide_eq_true (beq_self_eq_true _) | exact decide_eq_false (beq_self_eq_true _)) rfl rfl ?_
          refine awl_pcall fb33_LvT rfl (Same_con _ _ hA.2.2 hB.2.2 (by omega) (by omega)) (.cons (by first | exact Sub.refl _ | exact Sub.ts | exact Sub.nil | exact Sub.agc (by repeat (first | exact .nil | refine .cons (by first | exact Sub.refl _ | exact Sub.nil) ?_))) (.cons (by first | exact Sub.refl _ | exact Sub.ts | exact Sub.nil | exact Sub.agc (by repeat (first | exact .nil | refine .cons (by first | exact Sub.refl _ | exact Sub.nil) ?_))) .nil)) rfl ?_
          exact awl_done rfl
        refine awd_q [(4, _), (45, _)] (.cons rfl (.cons rfl (.nil))) rfl rfl rfl ?_
        apply Exists.intro
        refine ⟨fun regs' => ?_, ?_⟩
        · skip
          refine awl_guard_yes rfl (by first | exact (beq_self_eq_true _) | exact decide_eq_true (beq_self_eq_true _) | exact decide_eq_false (beq_self_eq_true _)) rfl rfl ?_
          first | refine awl_load_row ti39_LvT rfl rfl rfl rfl ?_ | refine x_irow ti39_LvT rfl rfl rfl rfl ?_
          exact awl_done rfl
        refine awd_q [(5, _), (45, _)] (.cons rfl (.cons rfl (.nil))) rfl rfl rfl ?_
        apply Exists.intro
        refine ⟨fun regs' => ?_, ?_⟩
        · skip
          refine awl_guard_yes rfl (by first | exact (beq_self_eq_true _) | exact decide_eq_true (beq_self_eq_true _) | exact decide_eq_false (beq_self_eq_true _)) rfl rfl ?_
          first | refine awl_load_row ti39_LvT rfl rfl rfl rfl ?_ | refine x_irow ti39_LvT rfl rfl rfl rfl ?_
          exact awl_done rfl
        refine awd_q [(49, _), (50, _), (45, _)] (.cons rfl (.cons rfl (.cons rfl (.nil)))) rfl rfl rfl ?_
        apply Exists.intro
        refine ⟨fun regs' => ?_, ?_⟩
        · skip
          refine awl_guard_yes rfl (by first | exact (beq_self_eq_true _) | exact decide_eq_true (beq_self_eq_true _) | exact decide_eq_false (beq_self_eq_true _)) rfl rfl ?_
          refine awl_pcall fb34_LvT rfl (rSame_con _ _ hA.2.2 hB.2.2 hA.2.1 hB.2.1) (.cons (by first | exact Sub.refl _ | exact Sub.ts | exact Sub.nil | exact Sub.agc (by repeat (first | exact .nil | refine .cons (by first | exact Sub.refl _ | exact Sub.nil) ?_))) (.cons (by first | exact Sub.refl _ | exact Sub.ts | exact Sub.nil | exact Sub.agc (by repeat (first | exact .nil | refine .cons (by first | exact Sub.refl _ | exact Sub.nil) ?_))) .nil)) rfl ?_
          exact awl_done rfl
        refine awd_q [(48, _), (51, _), (45, _)] (.cons rfl (.cons rfl (.cons rfl (.nil)))) rfl rfl rfl ?_
        apply Exists.intro
        refine ⟨fun regs' => ?_, ?_⟩
        · skip
          refine awl_guard_yes rfl (by first | exact (beq_self_eq_true _) | exact decide_eq_true (beq_self_eq_true _) | exact decide_eq_false (beq_self_eq_true _)) rfl rfl ?_
          refine awl_bin rfl rfl rfl rfl (bool_eql Try.underlying4) ?_
          exact awl_done rfl
        refine awd_q [(45, _), (52, _)] (.cons rfl (.cons rfl (.nil))) rfl rfl rfl ?_
        apply Exists.intro
        refine ⟨fun regs' => ?_, ?_⟩
        · skip
          refine awl_pick_t (by first | exact (beq_self_eq_true _) | exact decide_eq_true (beq_self_eq_true _) | exact decide_eq_false (beq_self_eq_true _)) rfl rfl rfl ?_
          exact awl_done rfl
        refine awd_q [(53, _)] (.cons rfl (.nil)) rfl rfl rfl ?_
        apply Exists.intro
        refine ⟨fun regs' => ?_, ?_⟩
        · skip
          refine awl_move rfl rfl ?_
          exact awl_done rfl
        refine awd_q [(4, _), (54, _)] (.cons rfl (.cons rfl (.nil))) rfl rfl rfl ?_
        apply Exists.intro
        refine ⟨fun regs' => ?_, ?_⟩
        · skip
          refine awl_guard_yes rfl (by first | exact (beq_self_eq_true _) | exact decide_eq_true (beq_self_eq_true _) | exact decide_eq_false (beq_self_eq_true _)) rfl rfl ?_
          first | refine awl_load_row ti39_LvT rfl rfl rfl rfl ?_ | refine x_irow ti39_LvT rfl rfl rfl rfl ?_
          exact awl_done rfl
        refine awd_q [(55, _), (54, _)] (.cons rfl (.cons rfl (.nil))) rfl rfl rfl ?_
        apply Exists.intro
        refine ⟨fun regs' => ?_, ?_⟩
        · skip
          refine awl_guard_yes rfl (by first | exact (beq_self_eq_true _) | exact decide_eq_true (beq_self_eq_true _) | exact decide_eq_false (beq_self_eq_true _)) rfl rfl ?_
          refine awl_pcall fb35_LvT rfl (Never_con _ hA.2.2 (by omega)) (.cons (by first | exact Sub.refl _ | exact Sub.ts | exact Sub.nil | exact Sub.agc (by repeat (first | exact .nil | refine .cons (by first | exact Sub.refl _ | exact Sub.nil) ?_))) .nil) rfl ?_
          exact awl_done rfl
        refine awd_q [(4, _), (54, _)] (.cons rfl (.cons rfl (.nil))) rfl rfl rfl ?_
        apply Exists.intro
        refine ⟨fun regs' => ?_, ?_⟩
        · skip
          refine awl_guard_yes rfl (by first | exact (beq_self_eq_true _) | exact decide_eq_true (beq_self_eq_true _) | exact decide_eq_false (beq_self_eq_true _)) rfl rfl ?_
          first | refine awl_load_row ti39_LvT rfl rfl rfl rfl ?_ | refine x_irow ti39_LvT rfl rfl rfl rfl ?_
          exact awl_done rfl
        refine awd_q [(57, _), (54, _)] (.cons rfl (.cons rfl (.nil))) rfl rfl rfl ?_
        apply Exists.intro
        refine ⟨fun regs' => ?_, ?_⟩
        · skip
          refine awl_guard_yes rfl (by first | exact (beq_self_eq_true _) | exact decide_eq_true (beq_self_eq_true _) | exact decide_eq_false (beq_self_eq_true _)) rfl rfl ?_
          refine awl_pcall fb36_LvT rfl (rNever_con _ hA.2.2 hA.2.1) (.cons (by first | exact Sub.refl _ | exact Sub.ts | exact Sub.nil | exact Sub.agc (by repeat (first | exact .nil | refine .cons (by first | exact Sub.refl _ | exact Sub.nil) ?_))) .nil) rfl ?_
          exact awl_done rfl
        refine awd_q [(56, _), (58, _), (54, _)] (.cons rfl (.cons rfl (.cons rfl (.nil)))) rfl rfl rfl ?_
        apply Exists.intro
        refine ⟨fun regs' => ?_, ?_⟩
        · skip
          refine awl_guard_yes rfl (by first | exact (beq_self_eq_true _) | exact decide_eq_true (beq_self_eq_true _) | exact decide_eq_false (beq_self_eq_true _)) rfl rfl ?_
          refine awl_bin rfl rfl rfl rfl (bool_eql Try.underlying4) ?_
          exact awl_done rfl
        refine awd_q [(54, _), (59, _)] (.cons rfl (.cons rfl (.nil))) rfl rfl rfl ?_
        apply Exists.intro
        refine ⟨fun regs' => ?_, ?_⟩
        · skip
          refine awl_pick_t (by first | exact (beq_self_eq_true _) | exact decide_eq_true (beq_self_eq_true _) | exact decide_eq_false (beq_self_eq_true _)) rfl rfl rfl ?_
          exact awl_done rfl
        refine awd_q [(60, _)] (.cons rfl (.nil)) rfl rfl rfl ?_
        apply Exists.intro
        refine ⟨fun regs' => ?_, ?_⟩
        · skip
          refine awl_move rfl rfl ?_
          exact awl_done rfl
        refine awd_q [(4, _), (61, _)] (.cons rfl (.cons rfl (.nil))) rfl rfl rfl ?_
        apply Exists.intro
        refine ⟨fun regs' => ?_, ?_⟩
        · skip
          refine awl_guard_yes rfl (by first | exact (beq_self_eq_true _) | exact decide_eq_true (beq_self_eq_true _) | exact decide_eq_false (beq_self_eq_true _)) rfl rfl ?_
          first | refine awl_load_row ti39_LvT rfl rfl rfl rfl ?_ | refine x_irow ti39_LvT rfl rfl rfl rfl ?_
          exact awl_done rfl
        refine awd_q [(5, _), (61, _)] (.cons rfl (.cons rfl (.nil))) rfl rfl rfl ?_
        apply Exists.intro
        refine ⟨fun regs' => ?_, ?_⟩
        · skip
          refine awl_guard_yes rfl (by first | exact (beq_self_eq_true _) | exact decide_eq_true (beq_self_eq_true _) | exact decide_eq_false (beq_self_eq_true _)) rfl rfl ?_
          first | refine awl_load_row ti39_LvT rfl rfl rfl rfl ?_ | refine x_irow ti39_LvT rfl rfl rfl rfl ?_
          exact awl_done rfl
        refine awd_q [(62, _), (63, _), (61, _)] (.cons rfl (.cons rfl (.cons rfl (.nil)))) rfl rfl rfl ?_
        apply Exists.intro
        refine ⟨fun regs' => ?_, ?_⟩
        · skip
          refine awl_guard_yes rfl (by first | exact (beq_self_eq_true _) | exact decide_eq_true (beq_self_eq_true _) | exact decide_eq_false (beq_self_eq_true _)) rfl rfl ?_
          refine awl_pcall fb37_LvT rfl (Equal_con _ _) (.cons (by first | exact Sub.refl _ | exact Sub.ts | exact Sub.nil | exact Sub.agc (by repeat (first | exact .nil | refine .cons (by first | exact Sub.refl _ | exact Sub.nil) ?_))) (.cons (by first | exact Sub.refl _ | exact Sub.ts | exact Sub.nil | exact Sub.agc (by repeat (first | exact .nil | refine .cons (by first | exact Sub.refl _ | exact Sub.nil) ?_))) .nil)) rfl ?_
          exact awl_done rfl
        refine awd_q [(4, _), (61, _)] (.cons rfl (.cons rfl (.nil))) rfl rfl rfl ?_
        apply Exists.intro
        refine ⟨fun regs' => ?_, ?_⟩
        · skip
          refine awl_guard_yes rfl (by first | exact (beq_self_eq_true _) | exact decide_eq_true (beq_self_eq_true _) | exact decide_eq_false (beq_self_eq_true _)) rfl rfl ?_
          first | refine awl_load_row ti39_LvT rfl rfl rfl rfl ?_ | refine x_irow ti39_LvT rfl rfl rfl rfl ?_
          exact awl_done rfl
        refine awd_q [(5, _), (61, _)] (.cons rfl (.cons rfl (.nil))) rfl rfl rfl ?_
        apply Exists.intro
        refine ⟨fun regs' => ?_, ?_⟩
        · skip
          refine awl_guard_yes rfl (by first | exact (beq_self_eq_true _) | exact decide_eq_true (beq_self_eq_true _) | exact decide_eq_false (beq_self_eq_true _)) rfl rfl ?_
          first | refine awl_load_row ti39_LvT rfl rfl rfl rfl ?_ | refine x_irow ti39_LvT rfl rfl rfl rfl ?_
          exact awl_done rfl
        refine awd_q [(65, _), (66, _), (61, _)] (.cons rfl (.cons rfl (.cons rfl (.nil)))) rfl rfl rfl ?_
        apply Exists.intro
        refine ⟨fun regs' => ?_, ?_⟩
        · skip
          refine awl_guard_yes rfl (by first | exact (beq_self_eq_true _) | exact decide_eq_true (beq_self_eq_true _) | exact decide_eq_false (beq_self_eq_true _)) rfl rfl ?_
          refine awl_pcall fb38_LvT rfl (rEqual_con _ _) (.cons (by first | exact Sub.refl _ | exact Sub.ts | exact Sub.nil | exact Sub.agc (by repeat (first | exact .nil | refine .cons (by first | exact Sub.refl _ | exact Sub.nil) ?_))) (.cons (by first | exact Sub.refl _ | exact Sub.ts | exact Sub.nil | exact Sub.agc (by repeat (first | exact .nil | refine .cons (by first | exact Sub.refl _ | exact Sub.nil) ?_))) .nil)) rfl ?_
          exact awl_done rfl
        refine awd_q [(64, _), (67, _), (61, _)] (.cons rfl (.cons rfl (.cons rfl (.nil)))) rfl rfl rfl ?_
        apply Exists.intro
        refine ⟨fun regs' => ?_, ?_⟩
        · skip
          refine awl_guard_yes rfl (by first | exact (beq_self_eq_true _) | exact decide_eq_true (beq_self_eq_true _) | exact decide_eq_false (beq_self_eq_true _)) rfl rfl ?_
          refine awl_bin rfl rfl rfl rfl (bool_eql Try.underlying4) ?_
          exact awl_done rfl
        refine awd_q [(61, _), (68, _)] (.cons rfl (.cons rfl (.nil))) rfl rfl rfl ?_
        apply Exists.intro
        refine ⟨fun regs' => ?_, ?_⟩
        · skip
          refine awl_pick_t (by first | exact (beq_self_eq_true _) | exact decide_eq_true (beq_self_eq_true _) | exact decide_eq_false (beq_self_eq_true _)) rfl rfl rfl ?_
          exact awl_done rfl
        refine awd_q [(69, _)] (.cons rfl (.nil)) rfl rfl rfl ?_
        apply Exists.intro
        refine ⟨fun regs' => ?_, ?_⟩
        · skip
          refine awl_move rfl rfl ?_
          exact awl_done rfl
        refine awd_q [(4, _), (70, _)] (.cons rfl (.cons rfl (.nil))) rfl rfl rfl ?_
        apply Exists.intro
        refine ⟨fun regs' => ?_, ?_⟩
        · skip
          refine awl_guard_yes rfl (by first | exact (beq_self_eq_true _) | exact decide_eq_true (beq_self_eq_true _) | exact decide_eq_false (beq_self_eq_true _)) rfl rfl ?_
          first | refine awl_load_row ti39_LvT rfl rfl rfl rfl ?_ | refine x_irow ti39_LvT rfl rfl rfl rfl ?_
          exact awl_done rfl
        refine awd_q [(4, _), (70, _)] (.cons rfl (.cons rfl (.nil))) rfl rfl rfl ?_
        apply Exists.intro
        refine ⟨fun regs' => ?_, ?_⟩
        · skip
          refine awl_guard_yes rfl (by first | exact (beq_self_eq_true _) | exact decide_eq_true (beq_self_eq_true _) | exact decide_eq_false (beq_self_eq_true _)) rfl rfl ?_
          first | refine awl_load_row ti39_LvT rfl rfl rfl rfl ?_ | refine x_irow ti39_LvT rfl rfl rfl rfl ?_
          exact awl_done rfl
        refine awd_q [(71, _), (72, _), (70, _)] (.cons rfl (.cons rfl (.cons rfl (.nil)))) rfl rfl rfl ?_
        apply Exists.intro
        refine ⟨fun regs' => ?_, ?_⟩
        · skip
          refine awl_guard_yes rfl (by first | exact (beq_self_eq_true _) | exact decide_eq_true (beq_self_eq_true _) | exact decide_eq_false (beq_self_eq_true _)) rfl rfl ?_
          refine awl_pcall fb37_LvT rfl (Equal_con _ _) (.cons (by first | exact Sub.refl _ | exact Sub.ts | exact Sub.nil | exact Sub.agc (by repeat (first | exact .nil | refine .cons (by first | exact Sub.refl _ | exact Sub.nil) ?_))) (.cons (by first | exact Sub.refl _ | exact Sub.ts | exact Sub.nil | exact Sub.agc (by repeat (first | exact .nil | refine .cons (by first | exact Sub.refl _ | exact Sub.nil) ?_))) .nil)) rfl ?_
          exact awl_done rfl
        refine awd_q [(70, _), (73, _)] (.cons rfl (.cons rfl (.nil))) rfl rfl rfl ?_
        apply Exists.intro
        refine ⟨fun regs' => ?_, ?_⟩
        · skip
          refine awl_pick_t (by first | exact (beq_self_eq_true _) | exact decide_eq_true (beq_self_eq_true _) | exact decide_eq_false (beq_self_eq_true _)) rfl rfl rfl ?_
          exact awl_done rfl
        refine awd_q [(74, _)] (.cons rfl (.nil)) rfl rfl rfl ?_
        apply Exists.intro
        refine ⟨fun regs' => ?_, ?_⟩
        · skip
          refine awl_assign rfl rfl ?_
          exact awl_done rfl
        refine awd_nil ?_
        change AWp _ _ _ _ _ _
        refine awp_ret ?_
        change Ends _ _ _ _ _ _
        refine ends1 [] rfl (.tmp rfl) ?_ rfl
        first | exact ⟨rfl, rfl⟩ | exact ⟨B_eq (eqL_self _), rfl⟩

end Go.Ab.Ytfgndomaadikoaa
