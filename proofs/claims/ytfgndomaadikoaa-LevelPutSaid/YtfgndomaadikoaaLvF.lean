/- Levels: Leq, Same, Never in the program. -/
import Derived.Test.YtfgndomaadikoaaLvE
set_option linter.unusedVariables false
set_option linter.unusedSimpArgs false
namespace Go.Ab.Ytfgndomaadikoaa
open Go Go.RowKit Go.Ab Go.Proofs

theorem hmo_LvF : Try.prog.follows .mixedOrders = true := by kernel_rfl
theorem ti39_LvF : TI Try.prog 39 3 true := ⟨by kernel_rfl, by kernel_rfl⟩
theorem fb55_LvF : FB Try.prog 55 := ⟨_, Try.func55, rfl, by kernel_rfl⟩
theorem fb56_LvF : FB Try.prog 56 := ⟨_, Try.func56, rfl, by kernel_rfl⟩
theorem fb31_LvF : FB Try.prog 31 := ⟨_, Try.func31, rfl, by kernel_rfl⟩
theorem fb27_LvF : FB Try.prog 27 := ⟨_, Try.func27, rfl, by kernel_rfl⟩

def leqF (a b : Lvl) : Bool := (List.range' 0 16).all fun z => belowF (flatF z a) (flatF z b)

theorem Leq_con (a b : Lvl) (hwa : wfL a 4 = true) (hwb : wfL b 4 = true) (hda : deepL a ≤ 1000000) (hdb : deepL b ≤ 1000000) : PCon Try.prog 31 [lv a, lv b] (.p (B (leqF a b))) := by
  refine con_of Try.func31 rfl 18 Try.ntmps31 rfl fun cx hcx => ?_
  refine awp_seq ?_
  refine awp_region ?_
  refine awl_box rfl rfl rfl rfl rfl (by rw [hcx]; rfl) rfl ?_
  refine awl_box rfl rfl rfl rfl rfl (by rw [hcx]; rfl) rfl ?_
  refine awl_assign rfl rfl ?_
  refine awl_nil ?_
  change AWp _ _ _ _ _ _
  refine awp_seq ?_
  refine awp_seq ?_
  refine awp_region ?_
  refine awl_move rfl rfl ?_
  refine awl_nil ?_
  change AWp _ _ _ _ _ _
  refine awp_block ?_
  refine x_loop [(2, _), (3, _)] [(2, _), (3, _)] (fun x : Nat => [(6, .p (I x))]) (fun x => []) (fun x => x ≤ 16 ∧ leqF a b = ((List.range' x (16 - x)).all fun z => belowF (flatF z a) (flatF z b))) (fun x => 16 - x) 0 (Le.mk (.cons rfl (by first | exact Sub.refl _ | exact Sub.ts | exact Sub.nil | (refine Sub.eq ?_; first | (simp; done) | (simp; omega))) (.cons rfl (by first | exact Sub.refl _ | exact Sub.ts | exact Sub.nil | (refine Sub.eq ?_; first | (simp; done) | (simp; omega))) (.cons rfl (by first | exact Sub.refl _ | exact Sub.ts | exact Sub.nil | (refine Sub.eq ?_; first | (simp; done) | (simp; omega))) (.nil)))) (.cons rfl (by first | rfl | (simp; done)) (.cons rfl (by first | rfl | (simp; done)) (.nil))) rfl) ⟨by omega, rfl⟩ (fun x hx => ?_)
  obtain ⟨hx, hsp⟩ := hx
  dsimp only [List.cons_append, List.nil_append]
  refine awp_seq ?_
  refine awp_region ?_
  refine awl_bin rfl rfl rfl rfl bin_lss ?_
  refine awl_nil ?_
  change AWp _ _ _ _ _ _
  refine awp_seq ?_
  first | refine awp_cond_p rfl (fun hi => ?_) (fun hi => ?_) | refine awp_cond rfl (fun hi => ?_) (fun hi => ?_)
  · skip
    have hfb := flatF_ok (x : Int) b
    simp only [Flat.ok] at hfb
    have hr : List.range' x (16 - x) = x :: List.range' (x + 1) (16 - (x + 1)) := by rw [show 16 - x = (16 - (x + 1)) + 1 by omega, List.range'_succ]
    refine awp_skip ?_
    change AWp _ _ _ _ _ _
    refine awp_seq ?_
    refine awp_block ?_
    refine awp_seq ?_
    refine awp_region ?_
    refine awl_move rfl rfl ?_
    refine awl_assign rfl rfl ?_
    refine awl_nil ?_
    change AWp _ _ _ _ _ _
    refine awp_seq ?_
    refine awp_draw0 hmo_LvF (by kernel_rfl) ?_
    refine awd_q [(2, _)] (.cons rfl (.nil)) rfl rfl rfl ?_
    apply Exists.intro
    refine ⟨fun regs' => ?_, ?_⟩
    · skip
      first | refine awl_load_row ti39_LvF rfl rfl rfl rfl ?_ | refine x_irow ti39_LvF rfl rfl rfl rfl ?_
      exact awl_done rfl
    refine awd_q [(5, _)] (.cons rfl (.nil)) rfl rfl rfl ?_
    apply Exists.intro
    refine ⟨fun regs' => ?_, ?_⟩
    · skip
      refine awl_move rfl rfl ?_
      exact awl_done rfl
    refine awd_q [(9, _), (10, _)] (.cons rfl (.cons rfl (.nil))) rfl rfl rfl ?_
    apply Exists.intro
    refine ⟨fun regs' => ?_, ?_⟩
    · skip
      refine awl_pcall fb55_LvF rfl (flatten_con 4 (by omega) (x : Int) (by omega) a hwa hda) (.cons (by first | exact Sub.refl _ | exact Sub.ts | exact Sub.nil | exact Sub.agc (by repeat (first | exact .nil | refine .cons (by first | exact Sub.refl _ | exact Sub.nil) ?_))) (.cons (by first | exact Sub.refl _ | exact Sub.ts | exact Sub.nil | exact Sub.agc (by repeat (first | exact .nil | refine .cons (by first | exact Sub.refl _ | exact Sub.nil) ?_))) .nil)) rfl ?_
      exact awl_done rfl
    refine awd_q [(3, _)] (.cons rfl (.nil)) rfl rfl rfl ?_
    apply Exists.intro
    refine ⟨fun regs' => ?_, ?_⟩
    · skip
      first | refine awl_load_row ti39_LvF rfl rfl rfl rfl ?_ | refine x_irow ti39_LvF rfl rfl rfl rfl ?_
      exact awl_done rfl
    refine awd_q [(5, _)] (.cons rfl (.nil)) rfl rfl rfl ?_
    apply Exists.intro
    refine ⟨fun regs' => ?_, ?_⟩
    · skip
      refine awl_move rfl rfl ?_
      exact awl_done rfl
    refine awd_q [(12, _), (13, _)] (.cons rfl (.cons rfl (.nil))) rfl rfl rfl ?_
    apply Exists.intro
    refine ⟨fun regs' => ?_, ?_⟩
    · skip
      refine awl_pcall fb55_LvF rfl (flatten_con 4 (by omega) (x : Int) (by omega) b hwb hdb) (.cons (by first | exact Sub.refl _ | exact Sub.ts | exact Sub.nil | exact Sub.agc (by repeat (first | exact .nil | refine .cons (by first | exact Sub.refl _ | exact Sub.nil) ?_))) (.cons (by first | exact Sub.refl _ | exact Sub.ts | exact Sub.nil | exact Sub.agc (by repeat (first | exact .nil | refine .cons (by first | exact Sub.refl _ | exact Sub.nil) ?_))) .nil)) rfl ?_
      exact awl_done rfl
    refine awd_q [(11, _), (14, _)] (.cons rfl (.cons rfl (.nil))) rfl rfl rfl ?_
    apply Exists.intro
    refine ⟨fun regs' => ?_, ?_⟩
    · skip
      refine awl_pcall fb56_LvF rfl (below_con (flatF x a) (flatF x b) (by omega) (by omega) (by omega) (by omega)) (.cons (by first | exact Sub.refl _ | exact Sub.ts | exact Sub.nil | exact Sub.agc (by repeat (first | exact .nil | refine .cons (by first | exact Sub.refl _ | exact Sub.nil) ?_))) (.cons (by first | exact Sub.refl _ | exact Sub.ts | exact Sub.nil | exact Sub.agc (by repeat (first | exact .nil | refine .cons (by first | exact Sub.refl _ | exact Sub.nil) ?_))) .nil)) rfl ?_
      exact awl_done rfl
    refine awd_q [(15, _)] (.cons rfl (.nil)) rfl rfl rfl ?_
    apply Exists.intro
    refine ⟨fun regs' => ?_, ?_⟩
    · skip
      first | refine awl_un rfl rfl rfl un_notd ?_ | refine awl_un rfl rfl rfl un_not ?_
      exact awl_done rfl
    refine awd_nil ?_
    change AWp _ _ _ _ _ _
    first | refine awp_cond_p rfl (fun hc => ?_) (fun hc => ?_) | refine awp_cond rfl (fun hc => ?_) (fun hc => ?_)
    · skip
      have hc' : belowF (flatF x a) (flatF x b) = false := by unfold belowF; simpa using hc
      refine awp_seq ?_
      refine awp_region ?_
      refine awl_assign rfl rfl ?_
      refine awl_nil ?_
      change AWp _ _ _ _ _ _
      refine awp_ret ?_
      change Ends _ _ _ _ _ _
      refine ends1 [] rfl (.tmp rfl) ?_ rfl
      refine ⟨B_eq ?_, rfl⟩; rw [hsp, hr]; simp [hc']
    · skip
      have hc' : belowF (flatF x a) (flatF x b) = true := by unfold belowF; simpa using hc
      refine awp_skip ?_
      change AWp _ _ _ _ _ _
      refine awp_region ?_
      first | refine awl_bin rfl rfl rfl rfl (bin_add_i (by omega)) ?_ | refine awl_bin rfl rfl rfl rfl bin_add ?_
      refine awl_move rfl rfl ?_
      refine awl_nil ?_
      change ∃ x', _
      refine ⟨x + 1, ⟨by omega, by rw [hsp, hr]; simp [hc']⟩, (by omega), (Le.mk (.cons rfl (by first | exact Sub.refl _ | exact Sub.ts | exact Sub.nil | (refine Sub.eq ?_; first | (simp; done) | (simp; omega))) (.cons rfl (by first | exact Sub.refl _ | exact Sub.ts | exact Sub.nil | (refine Sub.eq ?_; first | (simp; done) | (simp; omega))) (.cons rfl (by first | exact Sub.refl _ | exact Sub.ts | exact Sub.nil | (refine Sub.eq ?_; first | (simp; done) | (simp; omega))) (.nil)))) (.cons rfl (by first | rfl | (simp; done)) (.cons rfl (by first | rfl | (simp; done)) (.nil))) rfl)⟩
  · skip
    refine awp_exit ?_
    change AWp _ _ _ _ _ _
    refine awp_seq ?_
    refine awp_region ?_
    refine awl_assign rfl rfl ?_
    refine awl_nil ?_
    change AWp _ _ _ _ _ _
    refine awp_ret ?_
    change Ends _ _ _ _ _ _
    refine ends1 [] rfl (.tmp rfl) ?_ rfl
    refine ⟨B_eq ?_, rfl⟩; rw [hsp, show 16 - x = 0 by omega]; rfl

theorem Same_con (a b : Lvl) (hwa : wfL a 4 = true) (hwb : wfL b 4 = true) (hda : deepL a ≤ 1000000) (hdb : deepL b ≤ 1000000) : PCon Try.prog 33 [lv a, lv b] (.p (B (leqF a b && leqF b a))) := by
  refine con_of Try.func33 rfl 13 Try.ntmps33 rfl fun cx hcx => ?_
  refine awp_seq ?_
  refine awp_region ?_
  refine awl_box rfl rfl rfl rfl rfl (by rw [hcx]; rfl) rfl ?_
  refine awl_box rfl rfl rfl rfl rfl (by rw [hcx]; rfl) rfl ?_
  refine awl_assign rfl rfl ?_
  refine awl_nil ?_
  change AWp _ _ _ _ _ _
  refine awp_seq ?_
  refine awp_region ?_
  first | refine awl_load_row ti39_LvF rfl rfl rfl rfl ?_ | refine x_irow ti39_LvF rfl rfl rfl rfl ?_
  first | refine awl_load_row ti39_LvF rfl rfl rfl rfl ?_ | refine x_irow ti39_LvF rfl rfl rfl rfl ?_
  refine awl_pcall fb31_LvF rfl (Leq_con a b hwa hwb hda hdb) (.cons (by first | exact Sub.refl _ | exact Sub.ts | exact Sub.nil | exact Sub.agc (by repeat (first | exact .nil | refine .cons (by first | exact Sub.refl _ | exact Sub.nil) ?_))) (.cons (by first | exact Sub.refl _ | exact Sub.ts | exact Sub.nil | exact Sub.agc (by repeat (first | exact .nil | refine .cons (by first | exact Sub.refl _ | exact Sub.nil) ?_))) .nil)) rfl ?_
  refine awl_move rfl rfl ?_
  first | refine awl_split_p 8 rfl (fun h1 => ?_) (fun h1 => ?_) | refine awl_split 8 rfl (fun h1 => ?_) (fun h1 => ?_)
  · skip
    refine awl_guard_yes rfl (by first | exact h1 | exact decide_eq_true h1 | exact decide_eq_false h1) rfl rfl ?_
    first | refine awl_load_row ti39_LvF rfl rfl rfl rfl ?_ | refine x_irow ti39_LvF rfl rfl rfl rfl ?_
    refine awl_guard_yes rfl (by first | exact h1 | exact decide_eq_true h1 | exact decide_eq_false h1) rfl rfl ?_
    first | refine awl_load_row ti39_LvF rfl rfl rfl rfl ?_ | refine x_irow ti39_LvF rfl rfl rfl rfl ?_
    refine awl_guard_yes rfl (by first | exact h1 | exact decide_eq_true h1 | exact decide_eq_false h1) rfl rfl ?_
    refine awl_pcall fb31_LvF rfl (Leq_con b a hwb hwa hdb hda) (.cons (by first | exact Sub.refl _ | exact Sub.ts | exact Sub.nil | exact Sub.agc (by repeat (first | exact .nil | refine .cons (by first | exact Sub.refl _ | exact Sub.nil) ?_))) (.cons (by first | exact Sub.refl _ | exact Sub.ts | exact Sub.nil | exact Sub.agc (by repeat (first | exact .nil | refine .cons (by first | exact Sub.refl _ | exact Sub.nil) ?_))) .nil)) rfl ?_
    refine awl_pick_t (by first | exact h1 | exact decide_eq_true h1 | exact decide_eq_false h1) rfl rfl rfl ?_
    refine awl_assign rfl rfl ?_
    refine awl_nil ?_
    change AWp _ _ _ _ _ _
    refine awp_ret ?_
    change Ends _ _ _ _ _ _
    refine ends1 [] rfl (.tmp rfl) ?_ rfl
    refine ⟨B_eq ?_, rfl⟩; rw [h1]; rfl
  · skip
    refine awl_guard_no rfl (by first | exact h1 | exact decide_eq_true h1 | exact decide_eq_false h1) rfl rfl rfl rfl ?_
    refine awl_guard_no rfl (by first | exact h1 | exact decide_eq_true h1 | exact decide_eq_false h1) rfl rfl rfl rfl ?_
    refine awl_guard_no rfl (by first | exact h1 | exact decide_eq_true h1 | exact decide_eq_false h1) rfl rfl rfl rfl ?_
    refine awl_pick_f (by first | exact h1 | exact decide_eq_true h1 | exact decide_eq_false h1) rfl rfl rfl ?_
    refine awl_assign rfl rfl ?_
    refine awl_nil ?_
    change AWp _ _ _ _ _ _
    refine awp_ret ?_
    change Ends _ _ _ _ _ _
    refine ends1 [] rfl (.tmp rfl) ?_ rfl
    refine ⟨B_eq ?_, rfl⟩; rw [h1]; rfl

theorem Never_con (a : Lvl) (hwa : wfL a 4 = true) (hda : deepL a ≤ 1000000) : PCon Try.prog 35 [lv a] (.p (B (decide (evalF [] a > 0)))) := by
  refine con_of Try.func35 rfl 6 Try.ntmps35 rfl fun cx hcx => ?_
  refine awp_seq ?_
  refine awp_region ?_
  refine awl_box rfl rfl rfl rfl rfl (by rw [hcx]; rfl) rfl ?_
  refine awl_assign rfl rfl ?_
  refine awl_nil ?_
  change AWp _ _ _ _ _ _
  refine awp_seq ?_
  refine awp_region ?_
  first | refine awl_load_row ti39_LvF rfl rfl rfl rfl ?_ | refine x_irow ti39_LvF rfl rfl rfl rfl ?_
  refine awl_pcall fb27_LvF rfl (Eval_con [] 4 a hwa (by omega)) (.cons (by first | exact Sub.refl _ | exact Sub.ts | exact Sub.nil | exact Sub.agc (by repeat (first | exact .nil | refine .cons (by first | exact Sub.refl _ | exact Sub.nil) ?_))) (.cons (by first | exact Sub.refl _ | exact Sub.ts | exact Sub.nil | exact Sub.agc (by repeat (first | exact .nil | refine .cons (by first | exact Sub.refl _ | exact Sub.nil) ?_))) .nil)) rfl ?_
  refine awl_bin rfl rfl rfl rfl bin_gtr ?_
  refine awl_assign rfl rfl ?_
  refine awl_nil ?_
  change AWp _ _ _ _ _ _
  refine awp_ret ?_
  change Ends _ _ _ _ _ _
  refine ends1 [] rfl (.tmp rfl) ?_ rfl
  exact ⟨rfl, rfl⟩

end Go.Ab.Ytfgndomaadikoaa
