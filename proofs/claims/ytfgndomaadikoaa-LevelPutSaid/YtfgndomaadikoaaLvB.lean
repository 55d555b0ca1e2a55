/- Levels: May, whole, Light; their values. -/
import Derived.Test.YtfgndomaadikoaaLvA
set_option linter.unusedVariables false
set_option linter.unusedSimpArgs false
namespace Go.Ab.Ytfgndomaadikoaa
open Go Go.RowKit Go.Ab Go.Proofs

theorem hmo_LvB : Try.prog.follows .mixedOrders = true := by kernel_rfl
theorem fi39_0_LvB : FI Try.prog 39 0 0 := ⟨_, _, 0, Try.underlying39, rfl, rfl, by kernel_rfl⟩
theorem ti3_LvB : TI Try.prog 3 1 false := ⟨by kernel_rfl, by kernel_rfl⟩
theorem fb63_LvB : FB Try.prog 63 := ⟨_, Try.func63, rfl, by kernel_rfl⟩
theorem fi39_2_LvB : FI Try.prog 39 2 2 := ⟨_, _, 0, Try.underlying39, rfl, rfl, by kernel_rfl⟩
theorem ti24_LvB : TI Try.prog 24 1 false := ⟨by kernel_rfl, by kernel_rfl⟩
theorem si24_LvB : SI Try.prog 24 39 := ⟨Try.underlying24⟩
theorem fi39_1_LvB : FI Try.prog 39 1 1 := ⟨_, _, 0, Try.underlying39, rfl, rfl, by kernel_rfl⟩
theorem ti39_LvB : TI Try.prog 39 3 true := ⟨by kernel_rfl, by kernel_rfl⟩
theorem fb52_LvB : FB Try.prog 52 := ⟨_, Try.func52, rfl, by kernel_rfl⟩
theorem tz3_LvB : TZ Try.prog 3 [(.int .i64 0)] := ⟨⟨(.int .i64 0), by kernel_rfl, rfl⟩, by kernel_rfl⟩
theorem fb50_LvB : FB Try.prog 50 := ⟨_, Try.func50, rfl, by kernel_rfl⟩
theorem fb51_LvB : FB Try.prog 51 := ⟨_, Try.func51, rfl, by kernel_rfl⟩
theorem fb25_LvB : FB Try.prog 25 := ⟨_, Try.func25, rfl, by kernel_rfl⟩

/-- May it be, among ps parameters? -/
def lightB (l : Lvl) (ps : Int) : Bool := decide (partsL l ≤ 64 ∧ deepL l ≤ 32 ∧ wfL l ps = true)

theorem whole_con (ps : Int) (t : Lvl) : ∀ (d : Int), 0 ≤ d → d ≤ 33 → PCon Try.prog 52 [lv t, .p (I ps), .p (I d)] (.p (B (decide (d - 1 + deepL t ≤ 32 ∧ wfL t ps = true)))) := by
  intro d hd0 hd1
  have ih : ∀ a ∈ t.args, ∀ (d : Int), 0 ≤ d → d ≤ 33 → PCon Try.prog 52 [lv a, .p (I ps), .p (I d)] (.p (B (decide (d - 1 + deepL a ≤ 32 ∧ wfL a ps = true)))) :=
    fun a ha d h0 h1 => whole_con ps a d h0 h1
  have hlen := encLs_len t.args
  have hdp := deepL_eq t
  have hd2 := deepLs_pos t.args
  have hwf := wfL_eq t ps
  have hF : (d > 32 ∨ ¬ (argsOf t.kind = (encLs t.args).length ∧ ¬ (t.kind = 4 ∧ (t.n < 0 ∨ t.n ≥ ps)) ∧ ¬ (t.kind ≠ 4 ∧ t.n ≠ 0))) → decide (d - 1 + deepL t ≤ 32 ∧ wfL t ps = true) = false := fun h => by
    apply decide_eq_false
    rintro ⟨h1, h2⟩
    rw [hwf, Bool.and_eq_true] at h2
    have h3 := of_decide_eq_true h2.1
    unfold hereL at h3; rw [hlen] at h
    omega
  have hT : ¬ (d > 32 ∨ ¬ (argsOf t.kind = (encLs t.args).length ∧ ¬ (t.kind = 4 ∧ (t.n < 0 ∨ t.n ≥ ps)) ∧ ¬ (t.kind ≠ 4 ∧ t.n ≠ 0))) → decide (d - 1 + deepL t ≤ 32 ∧ wfL t ps = true) = decide (d + deepLs t.args ≤ 32 ∧ wfLs t.args ps = true) := fun h => by
    have h3 : hereL t.kind t.n t.args.length ps := by unfold hereL; rw [hlen] at h; omega
    rw [hwf, decide_eq_true h3, Bool.true_and]
    congr 1; apply propext
    exact ⟨fun ⟨a, b⟩ => ⟨by omega, b⟩, fun ⟨a, b⟩ => ⟨by omega, b⟩⟩
  refine con_of Try.func52 rfl 60 Try.ntmps52 rfl fun cx hcx => ?_
  refine awp_seq ?_
  refine awp_region ?_
  refine awl_box rfl rfl rfl rfl rfl (by rw [hcx]; rfl) rfl ?_
  refine awl_assign rfl rfl ?_
  refine awl_nil ?_
  change AWp _ _ _ _ _ _
  refine awp_seq ?_
  refine awp_seq ?_
  refine awp_fml 18 (d > 32 ∨ argsOf t.kind ≠ (encLs t.args).length) [(0, _), (1, _), (2, _), (3, _)] (.cons rfl (.cons rfl (.cons rfl (.cons rfl (.nil))))) ?_ ?_
  · skip
    refine awp_draw0 hmo_LvB (by kernel_rfl) ?_
    refine awd_q [(2, _)] (.cons rfl (.nil)) rfl rfl rfl ?_
    apply Exists.intro
    refine ⟨fun regs' => ?_, ?_⟩
    · skip
      refine awl_move rfl rfl ?_
      exact awl_done rfl
    refine awd_q [(8, _)] (.cons rfl (.nil)) rfl rfl rfl ?_
    apply Exists.intro
    refine ⟨fun regs' => ?_, ?_⟩
    · skip
      refine awl_bin rfl rfl rfl rfl bin_gtr ?_
      exact awl_done rfl
    refine awd_q [(9, _)] (.cons rfl (.nil)) rfl rfl rfl ?_
    apply Exists.intro
    refine ⟨fun regs' => ?_, ?_⟩
    · skip
      refine awl_move rfl rfl ?_
      exact awl_done rfl
    first | refine awd_split_p 10 rfl (fun h1 => ?_) (fun h1 => ?_) | refine awd_split 10 rfl (fun h1 => ?_) (fun h1 => ?_)
    · skip
      refine awd_q [(3, _), (10, _)] (.cons rfl (.cons rfl (.nil))) rfl rfl rfl ?_
      apply Exists.intro
      refine ⟨fun regs' => ?_, ?_⟩
      · skip
        refine awl_guard_no rfl (by first | exact h1 | exact decide_eq_true h1 | exact decide_eq_false h1) rfl rfl rfl rfl ?_
        exact awl_done rfl
      refine awd_q [(11, _), (10, _)] (.cons rfl (.cons rfl (.nil))) rfl rfl rfl ?_
      apply Exists.intro
      refine ⟨fun regs' => ?_, ?_⟩
      · skip
        refine awl_guard_no rfl (by first | exact h1 | exact decide_eq_true h1 | exact decide_eq_false h1) rfl rfl rfl rfl ?_
        exact awl_done rfl
      refine awd_q [(12, _), (10, _)] (.cons rfl (.cons rfl (.nil))) rfl rfl rfl ?_
      apply Exists.intro
      refine ⟨fun regs' => ?_, ?_⟩
      · skip
        refine awl_guard_no rfl (by first | exact h1 | exact decide_eq_true h1 | exact decide_eq_false h1) rfl rfl rfl rfl ?_
        exact awl_done rfl
      refine awd_q [(3, _), (10, _)] (.cons rfl (.cons rfl (.nil))) rfl rfl rfl ?_
      apply Exists.intro
      refine ⟨fun regs' => ?_, ?_⟩
      · skip
        refine awl_guard_no rfl (by first | exact h1 | exact decide_eq_true h1 | exact decide_eq_false h1) rfl rfl rfl rfl ?_
        exact awl_done rfl
      refine awd_q [(14, _), (10, _)] (.cons rfl (.cons rfl (.nil))) rfl rfl rfl ?_
      apply Exists.intro
      refine ⟨fun regs' => ?_, ?_⟩
      · skip
        refine awl_guard_no rfl (by first | exact h1 | exact decide_eq_true h1 | exact decide_eq_false h1) rfl rfl rfl rfl ?_
        exact awl_done rfl
      refine awd_q [(15, _), (10, _)] (.cons rfl (.cons rfl (.nil))) rfl rfl rfl ?_
      apply Exists.intro
      refine ⟨fun regs' => ?_, ?_⟩
      · skip
        refine awl_guard_no rfl (by first | exact h1 | exact decide_eq_true h1 | exact decide_eq_false h1) rfl rfl rfl rfl ?_
        exact awl_done rfl
      refine awd_q [(13, _), (16, _), (10, _)] (.cons rfl (.cons rfl (.cons rfl (.nil)))) rfl rfl rfl ?_
      apply Exists.intro
      refine ⟨fun regs' => ?_, ?_⟩
      · skip
        refine awl_guard_no rfl (by first | exact h1 | exact decide_eq_true h1 | exact decide_eq_false h1) rfl rfl rfl rfl ?_
        exact awl_done rfl
      refine awd_q [(10, _), (17, _)] (.cons rfl (.cons rfl (.nil))) rfl rfl rfl ?_
      apply Exists.intro
      refine ⟨fun regs' => ?_, ?_⟩
      · skip
        refine awl_pick_t (by first | exact h1 | exact decide_eq_true h1 | exact decide_eq_false h1) rfl rfl rfl ?_
        exact awl_done rfl
      refine awd_nil ?_
      exact ⟨rfl, _, (by first | (simp; omega) | omega | (simp; done)), Le.mk (.cons rfl (Sub.refl _) (.cons rfl (Sub.refl _) (.cons rfl (Sub.refl _) (.cons rfl (Sub.refl _) (.cons rfl (Sub.refl _) .nil))))) (by repeat (first | exact .nil | refine .cons rfl rfl ?_)) rfl⟩
    · skip
      refine awd_q [(3, _), (10, _)] (.cons rfl (.cons rfl (.nil))) rfl rfl rfl ?_
      apply Exists.intro
      refine ⟨fun regs' => ?_, ?_⟩
      · skip
        refine awl_guard_yes rfl (by first | exact h1 | exact decide_eq_true h1 | exact decide_eq_false h1) rfl rfl ?_
        first | refine awl_fieldAddr fi39_0_LvB rfl rfl ?_ | refine awl_fieldAddr_i fi39_0_LvB rfl rfl rfl ?_
        exact awl_done rfl
      refine awd_q [(11, _), (10, _)] (.cons rfl (.cons rfl (.nil))) rfl rfl rfl ?_
      apply Exists.intro
      refine ⟨fun regs' => ?_, ?_⟩
      · skip
        refine awl_guard_yes rfl (by first | exact h1 | exact decide_eq_true h1 | exact decide_eq_false h1) rfl rfl ?_
        first | refine awl_load_one ti3_LvB rfl rfl rfl rfl ?_ | refine awl_load_ione ti3_LvB rfl rfl rfl ?_
        exact awl_done rfl
      refine awd_q [(12, _), (10, _)] (.cons rfl (.cons rfl (.nil))) rfl rfl rfl ?_
      apply Exists.intro
      refine ⟨fun regs' => ?_, ?_⟩
      · skip
        refine awl_guard_yes rfl (by first | exact h1 | exact decide_eq_true h1 | exact decide_eq_false h1) rfl rfl ?_
        refine awl_pcall fb63_LvB rfl (rargs_con t.kind) (.cons (by first | exact Sub.refl _ | exact Sub.ts | exact Sub.nil | exact Sub.agc (by repeat (first | exact .nil | refine .cons (by first | exact Sub.refl _ | exact Sub.nil) ?_))) .nil) rfl ?_
        exact awl_done rfl
      refine awd_q [(3, _), (10, _)] (.cons rfl (.cons rfl (.nil))) rfl rfl rfl ?_
      apply Exists.intro
      refine ⟨fun regs' => ?_, ?_⟩
      · skip
        refine awl_guard_yes rfl (by first | exact h1 | exact decide_eq_true h1 | exact decide_eq_false h1) rfl rfl ?_
        first | refine awl_fieldAddr fi39_2_LvB rfl rfl ?_ | refine awl_fieldAddr_i fi39_2_LvB rfl rfl rfl ?_
        exact awl_done rfl
      refine awd_q [(14, _), (10, _)] (.cons rfl (.cons rfl (.nil))) rfl rfl rfl ?_
      apply Exists.intro
      refine ⟨fun regs' => ?_, ?_⟩
      · skip
        refine awl_guard_yes rfl (by first | exact h1 | exact decide_eq_true h1 | exact decide_eq_false h1) rfl rfl ?_
        first | refine awl_load_one ti24_LvB rfl rfl rfl rfl ?_ | refine awl_load_ione ti24_LvB rfl rfl rfl ?_
        exact awl_done rfl
      refine awd_q [(15, _), (10, _)] (.cons rfl (.cons rfl (.nil))) rfl rfl rfl ?_
      apply Exists.intro
      refine ⟨fun regs' => ?_, ?_⟩
      · skip
        refine awl_guard_yes rfl (by first | exact h1 | exact decide_eq_true h1 | exact decide_eq_false h1) rfl rfl ?_
        refine x_len si24_LvB rfl rfl rfl (fun hlen25 => ?_)
        exact awl_done rfl
      refine awd_q [(13, _), (16, _), (10, _)] (.cons rfl (.cons rfl (.cons rfl (.nil)))) rfl rfl rfl ?_
      apply Exists.intro
      refine ⟨fun regs' => ?_, ?_⟩
      · skip
        refine awl_guard_yes rfl (by first | exact h1 | exact decide_eq_true h1 | exact decide_eq_false h1) rfl rfl ?_
        refine awl_bin rfl rfl rfl rfl bin_neq ?_
        exact awl_done rfl
      refine awd_q [(10, _), (17, _)] (.cons rfl (.cons rfl (.nil))) rfl rfl rfl ?_
      apply Exists.intro
      refine ⟨fun regs' => ?_, ?_⟩
      · skip
        refine awl_pick_f (by first | exact h1 | exact decide_eq_true h1 | exact decide_eq_false h1) rfl rfl rfl ?_
        exact awl_done rfl
      refine awd_nil ?_
      exact ⟨rfl, _, (by first | (simp; omega) | omega | (simp; done)), Le.mk (.cons rfl (Sub.refl _) (.cons rfl (Sub.refl _) (.cons rfl (Sub.refl _) (.cons rfl (Sub.refl _) (.cons rfl (Sub.refl _) .nil))))) (by repeat (first | exact .nil | refine .cons rfl rfl ?_)) rfl⟩
  change AWp _ _ _ _ _ _
  first | refine awp_cond_p rfl (fun hx => ?_) (fun hx => ?_) | refine awp_cond rfl (fun hx => ?_) (fun hx => ?_)
  · skip
    refine awp_seq ?_
    refine awp_region ?_
    refine awl_assign rfl rfl ?_
    refine awl_nil ?_
    change AWp _ _ _ _ _ _
    refine awp_ret ?_
    change Ends _ _ _ _ _ _
    refine ends1 [] rfl (.tmp rfl) ?_ rfl
    rw [hF (by omega)]; exact ⟨rfl, rfl⟩
  · skip
    refine awp_skip ?_
    change AWp _ _ _ _ _ _
    refine awp_seq ?_
    refine awp_seq ?_
    refine awp_fml 42 ((t.kind = 4 ∧ (t.n < 0 ∨ t.n ≥ ps)) ∨ (t.kind ≠ 4 ∧ t.n ≠ 0)) [(0, _), (1, _), (2, _), (3, _)] (.cons rfl (.cons rfl (.cons rfl (.cons rfl (.nil))))) ?_ ?_
    · skip
      refine awp_region ?_
      first | refine awl_fieldAddr fi39_0_LvB rfl rfl ?_ | refine awl_fieldAddr_i fi39_0_LvB rfl rfl rfl ?_
      first | refine awl_load_one ti3_LvB rfl rfl rfl rfl ?_ | refine awl_load_ione ti3_LvB rfl rfl rfl ?_
      refine awl_bin rfl rfl rfl rfl bin_eql ?_
      refine awl_move rfl rfl ?_
      first | refine awl_split_p 22 rfl (fun h3 => ?_) (fun h3 => ?_) | refine awl_split 22 rfl (fun h3 => ?_) (fun h3 => ?_)
      · skip
        refine awl_guard_yes rfl (by first | exact h3 | exact decide_eq_true h3 | exact decide_eq_false h3) rfl rfl ?_
        first | refine awl_fieldAddr fi39_1_LvB rfl rfl ?_ | refine awl_fieldAddr_i fi39_1_LvB rfl rfl rfl ?_
        refine awl_guard_yes rfl (by first | exact h3 | exact decide_eq_true h3 | exact decide_eq_false h3) rfl rfl ?_
        first | refine awl_load_one ti3_LvB rfl rfl rfl rfl ?_ | refine awl_load_ione ti3_LvB rfl rfl rfl ?_
        refine awl_guard_yes rfl (by first | exact h3 | exact decide_eq_true h3 | exact decide_eq_false h3) rfl rfl ?_
        refine awl_bin rfl rfl rfl rfl bin_lss ?_
        refine awl_guard_yes rfl (by first | exact h3 | exact decide_eq_true h3 | exact decide_eq_false h3) rfl rfl ?_
        refine awl_move rfl rfl ?_
        first | refine awl_split_p 26 rfl (fun h4 => ?_) (fun h4 => ?_) | refine awl_split 26 rfl (fun h4 => ?_) (fun h4 => ?_)
        · skip
          refine awl_guard_no rfl (by first | exact h4 | exact decide_eq_true h4 | exact decide_eq_false h4) rfl rfl rfl rfl ?_
          refine awl_guard_no rfl (by first | exact h4 | exact decide_eq_true h4 | exact decide_eq_false h4) rfl rfl rfl rfl ?_
          refine awl_guard_no rfl (by first | exact h4 | exact decide_eq_true h4 | exact decide_eq_false h4) rfl rfl rfl rfl ?_
          refine awl_guard_no rfl (by first | exact h4 | exact decide_eq_true h4 | exact decide_eq_false h4) rfl rfl rfl rfl ?_
          refine awl_guard_yes rfl (by first | exact h3 | exact decide_eq_true h3 | exact decide_eq_false h3) rfl rfl ?_
          refine awl_pick_t (by first | exact h4 | exact decide_eq_true h4 | exact decide_eq_false h4) rfl rfl rfl ?_
          refine awl_pick_t (by first | exact h3 | exact decide_eq_true h3 | exact decide_eq_false h3) rfl rfl rfl ?_
          refine awl_move rfl rfl ?_
          refine awl_guard_no rfl rfl rfl rfl rfl rfl ?_
          refine awl_guard_no rfl rfl rfl rfl rfl rfl ?_
          refine awl_guard_no rfl rfl rfl rfl rfl rfl ?_
          refine awl_guard_no rfl rfl rfl rfl rfl rfl ?_
          refine awl_guard_un rfl rfl rfl rfl rfl ?_
          refine awl_guard_un rfl rfl rfl rfl rfl ?_
          refine awl_guard_un rfl rfl rfl rfl rfl ?_
          refine awl_guard_no rfl rfl rfl rfl rfl rfl ?_
          refine awl_pick_t rfl rfl rfl rfl ?_
          refine awl_nil ?_
          exact ⟨rfl, _, (by first | (simp; omega) | omega | (simp; done)), Le.mk (.cons rfl (Sub.refl _) (.cons rfl (Sub.refl _) (.cons rfl (Sub.refl _) (.cons rfl (Sub.refl _) (.cons rfl (Sub.refl _) .nil))))) (by repeat (first | exact .nil | refine .cons rfl rfl ?_)) rfl⟩
        · skip
          refine awl_guard_yes rfl (by first | exact h4 | exact decide_eq_true h4 | exact decide_eq_false h4) rfl rfl ?_
          first | refine awl_fieldAddr fi39_1_LvB rfl rfl ?_ | refine awl_fieldAddr_i fi39_1_LvB rfl rfl rfl ?_
          refine awl_guard_yes rfl (by first | exact h4 | exact decide_eq_true h4 | exact decide_eq_false h4) rfl rfl ?_
          first | refine awl_load_one ti3_LvB rfl rfl rfl rfl ?_ | refine awl_load_ione ti3_LvB rfl rfl rfl ?_
          refine awl_guard_yes rfl (by first | exact h4 | exact decide_eq_true h4 | exact decide_eq_false h4) rfl rfl ?_
          refine awl_move rfl rfl ?_
          refine awl_guard_yes rfl (by first | exact h4 | exact decide_eq_true h4 | exact decide_eq_false h4) rfl rfl ?_
          refine awl_bin rfl rfl rfl rfl bin_geq ?_
          refine awl_guard_yes rfl (by first | exact h3 | exact decide_eq_true h3 | exact decide_eq_false h3) rfl rfl ?_
          refine awl_pick_f (by first | exact h4 | exact decide_eq_true h4 | exact decide_eq_false h4) rfl rfl rfl ?_
          refine awl_pick_t (by first | exact h3 | exact decide_eq_true h3 | exact decide_eq_false h3) rfl rfl rfl ?_
          refine awl_move rfl rfl ?_
          first | refine awl_split_p 33 rfl (fun h5 => ?_) (fun h5 => ?_) | refine awl_split 33 rfl (fun h5 => ?_) (fun h5 => ?_)
          · skip
            refine awl_guard_no rfl (by first | exact h5 | exact decide_eq_true h5 | exact decide_eq_false h5) rfl rfl rfl rfl ?_
            refine awl_guard_no rfl (by first | exact h5 | exact decide_eq_true h5 | exact decide_eq_false h5) rfl rfl rfl rfl ?_
            refine awl_guard_no rfl (by first | exact h5 | exact decide_eq_true h5 | exact decide_eq_false h5) rfl rfl rfl rfl ?_
            refine awl_guard_no rfl (by first | exact h5 | exact decide_eq_true h5 | exact decide_eq_false h5) rfl rfl rfl rfl ?_
            refine awl_guard_un rfl rfl rfl rfl rfl ?_
            refine awl_guard_un rfl rfl rfl rfl rfl ?_
            refine awl_guard_un rfl rfl rfl rfl rfl ?_
            refine awl_guard_no rfl (by first | exact h5 | exact decide_eq_true h5 | exact decide_eq_false h5) rfl rfl rfl rfl ?_
            refine awl_pick_t (by first | exact h5 | exact decide_eq_true h5 | exact decide_eq_false h5) rfl rfl rfl ?_
            refine awl_nil ?_
            exact ⟨rfl, _, (by first | (simp; omega) | omega | (simp; done)), Le.mk (.cons rfl (Sub.refl _) (.cons rfl (Sub.refl _) (.cons rfl (Sub.refl _) (.cons rfl (Sub.refl _) (.cons rfl (Sub.refl _) .nil))))) (by repeat (first | exact .nil | refine .cons rfl rfl ?_)) rfl⟩
          · skip
            refine awl_guard_yes rfl (by first | exact h5 | exact decide_eq_true h5 | exact decide_eq_false h5) rfl rfl ?_
            first | refine awl_fieldAddr fi39_0_LvB rfl rfl ?_ | refine awl_fieldAddr_i fi39_0_LvB rfl rfl rfl ?_
            refine awl_guard_yes rfl (by first | exact h5 | exact decide_eq_true h5 | exact decide_eq_false h5) rfl rfl ?_
            first | refine awl_load_one ti3_LvB rfl rfl rfl rfl ?_ | refine awl_load_ione ti3_LvB rfl rfl rfl ?_
            refine awl_guard_yes rfl (by first | exact h5 | exact decide_eq_true h5 | exact decide_eq_false h5) rfl rfl ?_
            refine awl_bin rfl rfl rfl rfl bin_neq ?_
            refine awl_guard_yes rfl (by first | exact h5 | exact decide_eq_true h5 | exact decide_eq_false h5) rfl rfl ?_
            refine awl_move rfl rfl ?_
            first | refine awl_split_p 37 rfl (fun h6 => ?_) (fun h6 => ?_) | refine awl_split 37 rfl (fun h6 => ?_) (fun h6 => ?_)
            · skip
              refine awl_guard_yes rfl (by first | exact h6 | exact decide_eq_true h6 | exact decide_eq_false h6) rfl rfl ?_
              first | refine awl_fieldAddr fi39_1_LvB rfl rfl ?_ | refine awl_fieldAddr_i fi39_1_LvB rfl rfl rfl ?_
              refine awl_guard_yes rfl (by first | exact h6 | exact decide_eq_true h6 | exact decide_eq_false h6) rfl rfl ?_
              first | refine awl_load_one ti3_LvB rfl rfl rfl rfl ?_ | refine awl_load_ione ti3_LvB rfl rfl rfl ?_
              refine awl_guard_yes rfl (by first | exact h6 | exact decide_eq_true h6 | exact decide_eq_false h6) rfl rfl ?_
              refine awl_bin rfl rfl rfl rfl bin_neq ?_
              refine awl_guard_yes rfl (by first | exact h5 | exact decide_eq_true h5 | exact decide_eq_false h5) rfl rfl ?_
              refine awl_pick_t (by first | exact h6 | exact decide_eq_true h6 | exact decide_eq_false h6) rfl rfl rfl ?_
              refine awl_pick_f (by first | exact h5 | exact decide_eq_true h5 | exact decide_eq_false h5) rfl rfl rfl ?_
              refine awl_nil ?_
              exact ⟨rfl, _, (by first | (simp; omega) | omega | (simp; done)), Le.mk (.cons rfl (Sub.refl _) (.cons rfl (Sub.refl _) (.cons rfl (Sub.refl _) (.cons rfl (Sub.refl _) (.cons rfl (Sub.refl _) .nil))))) (by repeat (first | exact .nil | refine .cons rfl rfl ?_)) rfl⟩
            · skip
              refine awl_guard_no rfl (by first | exact h6 | exact decide_eq_true h6 | exact decide_eq_false h6) rfl rfl rfl rfl ?_
              refine awl_guard_no rfl (by first | exact h6 | exact decide_eq_true h6 | exact decide_eq_false h6) rfl rfl rfl rfl ?_
              refine awl_guard_no rfl (by first | exact h6 | exact decide_eq_true h6 | exact decide_eq_false h6) rfl rfl rfl rfl ?_
              refine awl_guard_yes rfl (by first | exact h5 | exact decide_eq_true h5 | exact decide_eq_false h5) rfl rfl ?_
              refine awl_pick_f (by first | exact h6 | exact decide_eq_true h6 | exact decide_eq_false h6) rfl rfl rfl ?_
              refine awl_pick_f (by first | exact h5 | exact decide_eq_true h5 | exact decide_eq_false h5) rfl rfl rfl ?_
              refine awl_nil ?_
              exact ⟨rfl, _, (by first | (simp; omega) | omega | (simp; done)), Le.mk (.cons rfl (Sub.refl _) (.cons rfl (Sub.refl _) (.cons rfl (Sub.refl _) (.cons rfl (Sub.refl _) (.cons rfl (Sub.refl _) .nil))))) (by repeat (first | exact .nil | refine .cons rfl rfl ?_)) rfl⟩
      · skip
        refine awl_guard_no rfl (by first | exact h3 | exact decide_eq_true h3 | exact decide_eq_false h3) rfl rfl rfl rfl ?_
        refine awl_guard_no rfl (by first | exact h3 | exact decide_eq_true h3 | exact decide_eq_false h3) rfl rfl rfl rfl ?_
        refine awl_guard_no rfl (by first | exact h3 | exact decide_eq_true h3 | exact decide_eq_false h3) rfl rfl rfl rfl ?_
        refine awl_guard_no rfl (by first | exact h3 | exact decide_eq_true h3 | exact decide_eq_false h3) rfl rfl rfl rfl ?_
        refine awl_guard_un rfl rfl rfl rfl rfl ?_
        refine awl_guard_un rfl rfl rfl rfl rfl ?_
        refine awl_guard_un rfl rfl rfl rfl rfl ?_
        refine awl_guard_un rfl rfl rfl rfl rfl ?_
        refine awl_guard_no rfl (by first | exact h3 | exact decide_eq_true h3 | exact decide_eq_false h3) rfl rfl rfl rfl ?_
        refine awl_pick_f (by first | exact h3 | exact decide_eq_true h3 | exact decide_eq_false h3) rfl rfl rfl ?_
        refine awl_move rfl rfl ?_
        refine awl_guard_yes rfl rfl rfl rfl ?_
        first | refine awl_fieldAddr fi39_0_LvB rfl rfl ?_ | refine awl_fieldAddr_i fi39_0_LvB rfl rfl rfl ?_
        refine awl_guard_yes rfl rfl rfl rfl ?_
        first | refine awl_load_one ti3_LvB rfl rfl rfl rfl ?_ | refine awl_load_ione ti3_LvB rfl rfl rfl ?_
        refine awl_guard_yes rfl rfl rfl rfl ?_
        refine awl_bin rfl rfl rfl rfl bin_neq ?_
        refine awl_guard_yes rfl rfl rfl rfl ?_
        refine awl_move rfl rfl ?_
        first | refine awl_split_p 37 rfl (fun h7 => ?_) (fun h7 => ?_) | refine awl_split 37 rfl (fun h7 => ?_) (fun h7 => ?_)
        · skip
          refine awl_guard_yes rfl (by first | exact h7 | exact decide_eq_true h7 | exact decide_eq_false h7) rfl rfl ?_
          first | refine awl_fieldAddr fi39_1_LvB rfl rfl ?_ | refine awl_fieldAddr_i fi39_1_LvB rfl rfl rfl ?_
          refine awl_guard_yes rfl (by first | exact h7 | exact decide_eq_true h7 | exact decide_eq_false h7) rfl rfl ?_
          first | refine awl_load_one ti3_LvB rfl rfl rfl rfl ?_ | refine awl_load_ione ti3_LvB rfl rfl rfl ?_
          refine awl_guard_yes rfl (by first | exact h7 | exact decide_eq_true h7 | exact decide_eq_false h7) rfl rfl ?_
          refine awl_bin rfl rfl rfl rfl bin_neq ?_
          refine awl_guard_yes rfl rfl rfl rfl ?_
          refine awl_pick_t (by first | exact h7 | exact decide_eq_true h7 | exact decide_eq_false h7) rfl rfl rfl ?_
          refine awl_pick_f rfl rfl rfl rfl ?_
          refine awl_nil ?_
          exact ⟨rfl, _, (by first | (simp; omega) | omega | (simp; done)), Le.mk (.cons rfl (Sub.refl _) (.cons rfl (Sub.refl _) (.cons rfl (Sub.refl _) (.cons rfl (Sub.refl _) (.cons rfl (Sub.refl _) .nil))))) (by repeat (first | exact .nil | refine .cons rfl rfl ?_)) rfl⟩
        · skip
          refine awl_guard_no rfl (by first | exact h7 | exact decide_eq_true h7 | exact decide_eq_false h7) rfl rfl rfl rfl ?_
          refine awl_guard_no rfl (by first | exact h7 | exact decide_eq_true h7 | exact decide_eq_false h7) rfl rfl rfl rfl ?_
          refine awl_guard_no rfl (by first | exact h7 | exact decide_eq_true h7 | exact decide_eq_false h7) rfl rfl rfl rfl ?_
          refine awl_guard_yes rfl rfl rfl rfl ?_
          refine awl_pick_f (by first | exact h7 | exact decide_eq_true h7 | exact decide_eq_false h7) rfl rfl rfl ?_
          refine awl_pick_f rfl rfl rfl rfl ?_
          refine awl_nil ?_
          exact ⟨rfl, _, (by first | (simp; omega) | omega | (simp; done)), Le.mk (.cons rfl (Sub.refl _) (.cons rfl (Sub.refl _) (.cons rfl (Sub.refl _) (.cons rfl (Sub.refl _) (.cons rfl (Sub.refl _) .nil))))) (by repeat (first | exact .nil | refine .cons rfl rfl ?_)) rfl⟩
    change AWp _ _ _ _ _ _
    first | refine awp_cond_p rfl (fun hy => ?_) (fun hy => ?_) | refine awp_cond rfl (fun hy => ?_) (fun hy => ?_)
    · skip
      refine awp_seq ?_
      refine awp_region ?_
      refine awl_assign rfl rfl ?_
      refine awl_nil ?_
      change AWp _ _ _ _ _ _
      refine awp_ret ?_
      change Ends _ _ _ _ _ _
      refine ends1 [] rfl (.tmp rfl) ?_ rfl
      rw [hF (by omega)]; exact ⟨rfl, rfl⟩
    · skip
      refine awp_skip ?_
      change AWp _ _ _ _ _ _
      refine awp_seq ?_
      refine awp_seq ?_
      refine awp_region ?_
      refine awl_assign rfl rfl ?_
      refine awl_nil ?_
      change AWp _ _ _ _ _ _
      refine awp_block ?_
      refine x_loop [(1, _), (2, _), (3, _)] [(3, _)] (fun x : Nat × List Lvl => [(7, .p (I x.1))]) (fun x => []) (fun x => t.args.drop x.1 = x.2 ∧ decide (d - 1 + deepL t ≤ 32 ∧ wfL t ps = true) = decide (d + deepLs x.2 ≤ 32 ∧ wfLs x.2 ps = true)) (fun x => x.2.length) (0, t.args) (Le.mk (.cons rfl (by first | exact Sub.refl _ | exact Sub.ts | exact Sub.nil | (refine Sub.eq ?_; first | (simp; done) | (simp; omega))) (.cons rfl (by first | exact Sub.refl _ | exact Sub.ts | exact Sub.nil | (refine Sub.eq ?_; first | (simp; done) | (simp; omega))) (.cons rfl (by first | exact Sub.refl _ | exact Sub.ts | exact Sub.nil | (refine Sub.eq ?_; first | (simp; done) | (simp; omega))) (.cons rfl (by first | exact Sub.refl _ | exact Sub.ts | exact Sub.nil | (refine Sub.eq ?_; first | (simp; done) | (simp; omega))) (.nil))))) (.cons rfl (by first | rfl | (simp; done)) (.nil)) rfl) ⟨rfl, hT (by omega)⟩ (fun x hx => ?_)
      obtain ⟨i, r⟩ := x
      obtain ⟨hd, hsp⟩ := hx
      simp only at hd hsp
      dsimp only [List.cons_append, List.nil_append]
      refine awp_seq ?_
      refine awp_seq ?_
      refine awp_region ?_
      refine awl_move rfl rfl ?_
      first | refine awl_fieldAddr fi39_2_LvB rfl rfl ?_ | refine awl_fieldAddr_i fi39_2_LvB rfl rfl rfl ?_
      first | refine awl_load_one ti24_LvB rfl rfl rfl rfl ?_ | refine awl_load_ione ti24_LvB rfl rfl rfl ?_
      refine x_len si24_LvB rfl rfl rfl (fun hlen158 => ?_)
      refine awl_bin rfl rfl rfl rfl bin_lss ?_
      refine awl_nil ?_
      change AWp _ _ _ _ _ _
      first | refine awp_cond_p rfl (fun hi => ?_) (fun hi => ?_) | refine awp_cond rfl (fun hi => ?_) (fun hi => ?_)
      · skip
        obtain ⟨a, r', rfl⟩ := drop_ne hd (by simp at hi; omega)
        have hrow := rowL_at hd
        refine awp_skip ?_
        change AWp _ _ _ _ _ _
        refine awp_seq ?_
        refine awp_block ?_
        refine awp_seq ?_
        refine awp_region ?_
        first | refine awl_fieldAddr fi39_2_LvB rfl rfl ?_ | refine awl_fieldAddr_i fi39_2_LvB rfl rfl rfl ?_
        first | refine awl_load_one ti24_LvB rfl rfl rfl rfl ?_ | refine awl_load_ione ti24_LvB rfl rfl rfl ?_
        refine awl_move rfl rfl ?_
        refine x_index si24_LvB ti39_LvB rfl rfl rfl rfl (by omega) (by first | omega | (simp only [List.length_map]; omega) | (simp; omega)) hrow rfl ?_
        first | refine awl_load_row ti39_LvB rfl rfl rfl rfl ?_ | refine x_irow ti39_LvB rfl rfl rfl rfl ?_
        refine awl_move rfl rfl ?_
        refine awl_move rfl rfl ?_
        first | refine awl_bin rfl rfl rfl rfl (bin_add_i (by omega)) ?_ | refine awl_bin rfl rfl rfl rfl bin_add ?_
        refine awl_pcall fb52_LvB rfl (ih a (drop_mem hd) (d + 1) (by omega) (by omega)) (.cons (by first | exact Sub.refl _ | exact Sub.ts | exact Sub.nil | exact Sub.agc (by repeat (first | exact .nil | refine .cons (by first | exact Sub.refl _ | exact Sub.nil) ?_))) (.cons (by first | exact Sub.refl _ | exact Sub.ts | exact Sub.nil | exact Sub.agc (by repeat (first | exact .nil | refine .cons (by first | exact Sub.refl _ | exact Sub.nil) ?_))) (.cons (by first | exact Sub.refl _ | exact Sub.ts | exact Sub.nil | exact Sub.agc (by repeat (first | exact .nil | refine .cons (by first | exact Sub.refl _ | exact Sub.nil) ?_))) .nil))) rfl ?_
        first | refine awl_un rfl rfl rfl un_notd ?_ | refine awl_un rfl rfl rfl un_not ?_
        refine awl_nil ?_
        change AWp _ _ _ _ _ _
        first | refine awp_cond_p rfl (fun hc => ?_) (fun hc => ?_) | refine awp_cond rfl (fun hc => ?_) (fun hc => ?_)
        · skip
          have hc' : ¬ (d + 1 - 1 + deepL a ≤ 32 ∧ wfL a ps = true) := by simpa using hc
          refine awp_seq ?_
          refine awp_region ?_
          refine awl_assign rfl rfl ?_
          refine awl_nil ?_
          change AWp _ _ _ _ _ _
          refine awp_ret ?_
          change Ends _ _ _ _ _ _
          refine ends1 [] rfl (.tmp rfl) ?_ rfl
          refine ⟨B_eq ?_, rfl⟩; rw [hsp]; refine (decide_eq_false fun ⟨x, y⟩ => hc' ?_).symm; simp only [deepLs, wfLs, Bool.and_eq_true] at x y; exact ⟨by omega, y.1⟩
        · skip
          have hc' : d + 1 - 1 + deepL a ≤ 32 ∧ wfL a ps = true := by simpa using hc
          refine awp_skip ?_
          change AWp _ _ _ _ _ _
          refine awp_region ?_
          refine awl_move rfl rfl ?_
          first | refine awl_bin rfl rfl rfl rfl (bin_add_i (by omega)) ?_ | refine awl_bin rfl rfl rfl rfl bin_add ?_
          refine awl_assign rfl rfl ?_
          refine awl_nil ?_
          change ∃ x', _
          refine ⟨(i + 1, r'), ⟨drop_next hd, by rw [hsp]; simp only [deepLs, wfLs, Bool.and_eq_true]; congr 1; apply propext; exact ⟨fun ⟨x, y⟩ => ⟨by omega, y.2⟩, fun ⟨x, y⟩ => ⟨by omega, hc'.2, y⟩⟩⟩, by simp, (Le.mk (.cons rfl (by first | exact Sub.refl _ | exact Sub.ts | exact Sub.nil | (refine Sub.eq ?_; first | (simp; done) | (simp; omega))) (.cons rfl (by first | exact Sub.refl _ | exact Sub.ts | exact Sub.nil | (refine Sub.eq ?_; first | (simp; done) | (simp; omega))) (.cons rfl (by first | exact Sub.refl _ | exact Sub.ts | exact Sub.nil | (refine Sub.eq ?_; first | (simp; done) | (simp; omega))) (.cons rfl (by first | exact Sub.refl _ | exact Sub.ts | exact Sub.nil | (refine Sub.eq ?_; first | (simp; done) | (simp; omega))) (.nil))))) (.cons rfl (by first | rfl | (simp; done)) (.nil)) rfl)⟩
      · skip
        refine awp_exit ?_
        change AWp _ _ _ _ _ _
        refine awp_seq ?_
        refine awp_region ?_
        refine awl_assign rfl rfl ?_
        refine awl_nil ?_
        change AWp _ _ _ _ _ _
        refine awp_ret ?_
        change Ends _ _ _ _ _ _
        refine ends1 [] rfl (.tmp rfl) ?_ rfl
        refine ⟨B_eq ?_, rfl⟩; rw [hsp]; obtain rfl := drop_end hd (by simp at hi; omega); exact (decide_eq_true ⟨by simp only [deepLs]; omega, rfl⟩).symm
termination_by SizeOf.sizeOf t
decreasing_by exact Lvl.lt ha

theorem May_con (t : Lvl) (ps : Int) : PCon Try.prog 24 [lv t, .p (I ps)] (.p (B (lightB t (min (max ps 0) 4)))) := by
  have hm : (mayL (min (max ps 0) 4) t 1 0).1 = lightB t (min (max ps 0) 4) := by
    unfold lightB
    have h := (mayL_spec (min (max ps 0) 4) t 1 0).1
    cases hb : (mayL (min (max ps 0) 4) t 1 0).1 with
    | true => have h1 := h.1 hb; exact (decide_eq_true ⟨by omega, by omega, h1.2.2⟩).symm
    | false => exact (decide_eq_false fun h1 => by have := h.2 ⟨by omega, by omega, h1.2.2⟩; rw [hb] at this; cases this).symm
  refine con_of Try.func24 rfl 11 Try.ntmps24 rfl fun cx hcx => ?_
  refine awp_seq ?_
  refine awp_region ?_
  refine awl_box rfl rfl rfl rfl rfl (by rw [hcx]; rfl) rfl ?_
  refine awl_assign rfl rfl ?_
  refine awl_nil ?_
  change AWp _ _ _ _ _ _
  refine awp_seq ?_
  refine awp_region ?_
  refine x_alloc tz3_LvB rfl rfl (by rw [hcx]; rfl) rfl ?_
  refine x_store ti3_LvB rfl rfl rfl rfl rfl rfl rfl rfl ?_
  refine awl_nil ?_
  change AWp _ _ _ _ _ _
  refine awp_seq ?_
  refine awp_region ?_
  first | refine awl_load_row ti39_LvB rfl rfl rfl rfl ?_ | refine x_irow ti39_LvB rfl rfl rfl rfl ?_
  refine awl_move rfl rfl ?_
  refine awl_max rfl rfl rfl ?_
  refine awl_min rfl rfl rfl ?_
  refine x_call [5] fb50_LvB rfl rfl rfl ((may_con (min (max ps 0) 4) t 1 0 (by omega) (by omega) (by omega) (by omega)).sw 1000 5) (.cons (by first | exact Sub.refl _ | exact Sub.ts | exact Sub.nil | exact Sub.agc (by repeat (first | exact .nil | refine .cons (by first | exact Sub.refl _ | exact Sub.nil) ?_))) (.cons (by first | exact Sub.refl _ | exact Sub.ts | exact Sub.nil | exact Sub.agc (by repeat (first | exact .nil | refine .cons (by first | exact Sub.refl _ | exact Sub.nil) ?_))) (.cons (by first | exact Sub.refl _ | exact Sub.ts | exact Sub.nil | exact Sub.agc (by repeat (first | exact .nil | refine .cons (by first | exact Sub.refl _ | exact Sub.nil) ?_))) (.cons (by first | exact Sub.refl _ | exact Sub.ts | exact Sub.nil | exact Sub.agc (by repeat (first | exact .nil | refine .cons (by first | exact Sub.refl _ | exact Sub.nil) ?_))) .nil)))) rfl (fun r o ⟨_, _, ⟨e1, e2⟩, e3, e4⟩ => ?_)
  subst e1 e2 e3 e4
  refine ⟨rfl, _, rfl, ?_⟩
  refine awl_assign rfl rfl ?_
  refine awl_nil ?_
  change AWp _ _ _ _ _ _
  refine awp_ret ?_
  change Ends _ _ _ _ _ _
  refine ends1 [] rfl (.tmp rfl) ?_ rfl
  exact ⟨B_eq hm, rfl⟩

theorem rMay_con (t : Lvl) (ps : Int) : PCon Try.prog 25 [lv t, .p (I ps)] (.p (B (lightB t (min (max ps 0) 4)))) := by
  refine con_of Try.func25 rfl 15 Try.ntmps25 rfl fun cx hcx => ?_
  refine awp_seq ?_
  refine awp_region ?_
  refine awl_box rfl rfl rfl rfl rfl (by rw [hcx]; rfl) rfl ?_
  refine awl_assign rfl rfl ?_
  refine awl_nil ?_
  change AWp _ _ _ _ _ _
  refine awp_seq ?_
  refine awp_region ?_
  first | refine awl_load_row ti39_LvB rfl rfl rfl rfl ?_ | refine x_irow ti39_LvB rfl rfl rfl rfl ?_
  refine awl_pcall fb51_LvB rfl (Parts_con t 64 (by omega) (by omega)) (.cons (by first | exact Sub.refl _ | exact Sub.ts | exact Sub.nil | exact Sub.agc (by repeat (first | exact .nil | refine .cons (by first | exact Sub.refl _ | exact Sub.nil) ?_))) (.cons (by first | exact Sub.refl _ | exact Sub.ts | exact Sub.nil | exact Sub.agc (by repeat (first | exact .nil | refine .cons (by first | exact Sub.refl _ | exact Sub.nil) ?_))) .nil)) rfl ?_
  refine awl_bin rfl rfl rfl rfl bin_leq ?_
  refine awl_move rfl rfl ?_
  first | refine awl_split_p 8 rfl (fun h1 => ?_) (fun h1 => ?_) | refine awl_split 8 rfl (fun h1 => ?_) (fun h1 => ?_)
  · skip
    refine awl_guard_yes rfl (by first | exact h1 | exact decide_eq_true h1 | exact decide_eq_false h1) rfl rfl ?_
    first | refine awl_load_row ti39_LvB rfl rfl rfl rfl ?_ | refine x_irow ti39_LvB rfl rfl rfl rfl ?_
    refine awl_guard_yes rfl (by first | exact h1 | exact decide_eq_true h1 | exact decide_eq_false h1) rfl rfl ?_
    refine awl_move rfl rfl ?_
    refine awl_guard_yes rfl (by first | exact h1 | exact decide_eq_true h1 | exact decide_eq_false h1) rfl rfl ?_
    refine awl_max rfl rfl rfl ?_
    refine awl_guard_yes rfl (by first | exact h1 | exact decide_eq_true h1 | exact decide_eq_false h1) rfl rfl ?_
    refine awl_min rfl rfl rfl ?_
    refine awl_guard_yes rfl (by first | exact h1 | exact decide_eq_true h1 | exact decide_eq_false h1) rfl rfl ?_
    refine awl_pcall fb52_LvB rfl (whole_con (min (max ps 0) 4) t 1 (by omega) (by omega)) (.cons (by first | exact Sub.refl _ | exact Sub.ts | exact Sub.nil | exact Sub.agc (by repeat (first | exact .nil | refine .cons (by first | exact Sub.refl _ | exact Sub.nil) ?_))) (.cons (by first | exact Sub.refl _ | exact Sub.ts | exact Sub.nil | exact Sub.agc (by repeat (first | exact .nil | refine .cons (by first | exact Sub.refl _ | exact Sub.nil) ?_))) (.cons (by first | exact Sub.refl _ | exact Sub.ts | exact Sub.nil | exact Sub.agc (by repeat (first | exact .nil | refine .cons (by first | exact Sub.refl _ | exact Sub.nil) ?_))) .nil))) rfl ?_
    refine awl_pick_t (by first | exact h1 | exact decide_eq_true h1 | exact decide_eq_false h1) rfl rfl rfl ?_
    refine awl_assign rfl rfl ?_
    refine awl_nil ?_
    change AWp _ _ _ _ _ _
    refine awp_ret ?_
    change Ends _ _ _ _ _ _
    refine ends1 [] rfl (.tmp rfl) ?_ rfl
    refine ⟨B_eq ?_, rfl⟩
    unfold lightB
    congr 1; apply propext
    exact ⟨fun ⟨x, y⟩ => ⟨by omega, by omega, y⟩, fun ⟨x, y, z⟩ => ⟨by omega, z⟩⟩
  · skip
    refine awl_guard_no rfl (by first | exact h1 | exact decide_eq_true h1 | exact decide_eq_false h1) rfl rfl rfl rfl ?_
    refine awl_guard_no rfl (by first | exact h1 | exact decide_eq_true h1 | exact decide_eq_false h1) rfl rfl rfl rfl ?_
    refine awl_guard_no rfl (by first | exact h1 | exact decide_eq_true h1 | exact decide_eq_false h1) rfl rfl rfl rfl ?_
    refine awl_guard_no rfl (by first | exact h1 | exact decide_eq_true h1 | exact decide_eq_false h1) rfl rfl rfl rfl ?_
    refine awl_guard_no rfl (by first | exact h1 | exact decide_eq_true h1 | exact decide_eq_false h1) rfl rfl rfl rfl ?_
    refine awl_pick_f (by first | exact h1 | exact decide_eq_true h1 | exact decide_eq_false h1) rfl rfl rfl ?_
    refine awl_assign rfl rfl ?_
    refine awl_nil ?_
    change AWp _ _ _ _ _ _
    refine awp_ret ?_
    change Ends _ _ _ _ _ _
    refine ends1 [] rfl (.tmp rfl) ?_ rfl
    refine ⟨B_eq ?_, rfl⟩
    exact (decide_eq_false fun ⟨x, _, _⟩ => h1 (by omega)).symm

theorem rMay4_con (t : Lvl) : PCon Try.prog 25 [lv t, .p (I 4)] (.p (B (lightB t 4))) := rMay_con t 4

theorem Light_con (ls : List Lvl) : PCon Try.prog 26 [.p (.sl 3 (encLs ls))] (.p (B (ls.all fun l => lightB l 4))) := by
  refine con_of Try.func26 rfl 16 Try.ntmps26 rfl fun cx hcx => ?_
  refine awp_seq ?_
  refine awp_region ?_
  refine awl_assign rfl rfl ?_
  refine awl_nil ?_
  change AWp _ _ _ _ _ _
  refine awp_seq ?_
  refine awp_seq ?_
  refine awp_region ?_
  refine awl_assign rfl rfl ?_
  refine awl_nil ?_
  change AWp _ _ _ _ _ _
  refine awp_block ?_
  refine x_loop [(0, _)] [] (fun x : Nat × List Lvl => [(3, .p (I x.1))]) (fun x => []) (fun x => ls.drop x.1 = x.2 ∧ (ls.all fun l => lightB l 4) = (x.2.all fun l => lightB l 4)) (fun x => x.2.length) (0, ls) (Le.mk (.cons rfl (by first | exact Sub.refl _ | exact Sub.ts | exact Sub.nil | (refine Sub.eq ?_; first | (simp; done) | (simp; omega))) (.cons rfl (by first | exact Sub.refl _ | exact Sub.ts | exact Sub.nil | (refine Sub.eq ?_; first | (simp; done) | (simp; omega))) (.nil))) (.nil) rfl) ⟨rfl, rfl⟩ (fun x hx => ?_)
  obtain ⟨i, r⟩ := x
  obtain ⟨hd, hsp⟩ := hx
  simp only at hd hsp
  dsimp only [List.cons_append, List.nil_append]
  refine awp_seq ?_
  refine awp_seq ?_
  refine awp_region ?_
  refine awl_move rfl rfl ?_
  refine awl_move rfl rfl ?_
  refine x_len si24_LvB rfl rfl rfl (fun hlen4 => ?_)
  refine awl_bin rfl rfl rfl rfl bin_lss ?_
  refine awl_nil ?_
  change AWp _ _ _ _ _ _
  first | refine awp_cond_p rfl (fun hi => ?_) (fun hi => ?_) | refine awp_cond rfl (fun hi => ?_) (fun hi => ?_)
  · skip
    obtain ⟨a, r', rfl⟩ := drop_ne hd (by simp at hi; omega)
    have hrow := rowL_at hd
    refine awp_skip ?_
    change AWp _ _ _ _ _ _
    refine awp_seq ?_
    refine awp_block ?_
    refine awp_seq ?_
    refine awp_region ?_
    refine awl_move rfl rfl ?_
    refine awl_move rfl rfl ?_
    refine x_index si24_LvB ti39_LvB rfl rfl rfl rfl (by omega) (by first | omega | (simp only [List.length_map]; omega) | (simp; omega)) hrow rfl ?_
    first | refine awl_load_row ti39_LvB rfl rfl rfl rfl ?_ | refine x_irow ti39_LvB rfl rfl rfl rfl ?_
    refine awl_pcall fb25_LvB rfl (rMay4_con a) (.cons (by first | exact Sub.refl _ | exact Sub.ts | exact Sub.nil | exact Sub.agc (by repeat (first | exact .nil | refine .cons (by first | exact Sub.refl _ | exact Sub.nil) ?_))) (.cons (by first | exact Sub.refl _ | exact Sub.ts | exact Sub.nil | exact Sub.agc (by repeat (first | exact .nil | refine .cons (by first | exact Sub.refl _ | exact Sub.nil) ?_))) .nil)) rfl ?_
    first | refine awl_un rfl rfl rfl un_notd ?_ | refine awl_un rfl rfl rfl un_not ?_
    refine awl_nil ?_
    change AWp _ _ _ _ _ _
    first | refine awp_cond_p rfl (fun hc => ?_) (fun hc => ?_) | refine awp_cond rfl (fun hc => ?_) (fun hc => ?_)
    · skip
      have hc' : lightB a 4 = false := by unfold lightB; simpa using hc
      refine awp_seq ?_
      refine awp_region ?_
      refine awl_assign rfl rfl ?_
      refine awl_nil ?_
      change AWp _ _ _ _ _ _
      refine awp_ret ?_
      change Ends _ _ _ _ _ _
      refine ends1 [] rfl (.tmp rfl) ?_ rfl
      refine ⟨B_eq ?_, rfl⟩; rw [hsp]; simp [hc']
    · skip
      have hc' : lightB a 4 = true := by unfold lightB; simpa using hc
      refine awp_skip ?_
      change AWp _ _ _ _ _ _
      refine awp_region ?_
      refine awl_move rfl rfl ?_
      first | refine awl_bin rfl rfl rfl rfl (bin_add_i (by omega)) ?_ | refine awl_bin rfl rfl rfl rfl bin_add ?_
      refine awl_assign rfl rfl ?_
      refine awl_nil ?_
      change ∃ x', _
      refine ⟨(i + 1, r'), ⟨drop_next hd, by rw [hsp]; simp [hc']⟩, by simp, (Le.mk (.cons rfl (by first | exact Sub.refl _ | exact Sub.ts | exact Sub.nil | (refine Sub.eq ?_; first | (simp; done) | (simp; omega))) (.cons rfl (by first | exact Sub.refl _ | exact Sub.ts | exact Sub.nil | (refine Sub.eq ?_; first | (simp; done) | (simp; omega))) (.nil))) (.nil) rfl)⟩
  · skip
    refine awp_exit ?_
    change AWp _ _ _ _ _ _
    refine awp_seq ?_
    refine awp_region ?_
    refine awl_assign rfl rfl ?_
    refine awl_nil ?_
    change AWp _ _ _ _ _ _
    refine awp_ret ?_
    change Ends _ _ _ _ _ _
    refine ends1 [] rfl (.tmp rfl) ?_ rfl
    refine ⟨B_eq ?_, rfl⟩; rw [hsp]; obtain rfl := drop_end hd (by simp at hi; omega); rfl

end Go.Ab.Ytfgndomaadikoaa
