/- Levels: which may be; what level.May and the document's May come to. -/
import Derived.Test.YtfgndomaadikoaaMeA
import Derived.Test.YtfgndomaadikoaaAb16
set_option linter.unusedVariables false
set_option linter.unusedSimpArgs false
namespace Go.Ab.Ytfgndomaadikoaa
open Go Go.RowKit Go.Ab Go.Proofs

theorem ti3_LvA : TI Try.prog 3 1 false := ⟨by kernel_rfl, by kernel_rfl⟩
theorem hmo_LvA : Try.prog.follows .mixedOrders = true := by kernel_rfl
theorem fi39_0_LvA : FI Try.prog 39 0 0 := ⟨_, _, 0, Try.underlying39, rfl, rfl, by kernel_rfl⟩
theorem fb53_LvA : FB Try.prog 53 := ⟨_, Try.func53, rfl, by kernel_rfl⟩
theorem fi39_2_LvA : FI Try.prog 39 2 2 := ⟨_, _, 0, Try.underlying39, rfl, rfl, by kernel_rfl⟩
theorem ti24_LvA : TI Try.prog 24 1 false := ⟨by kernel_rfl, by kernel_rfl⟩
theorem si24_LvA : SI Try.prog 24 39 := ⟨Try.underlying24⟩
theorem fi39_1_LvA : FI Try.prog 39 1 1 := ⟨_, _, 0, Try.underlying39, rfl, rfl, by kernel_rfl⟩
theorem ti39_LvA : TI Try.prog 39 3 true := ⟨by kernel_rfl, by kernel_rfl⟩
theorem tz39_LvA : TZ Try.prog 39 [(.int .i64 0), (.int .i64 0), (.slice none 0 0)] := ⟨⟨.agg #[(.int .i64 0), (.int .i64 0), (.slice none 0 0)], by kernel_rfl, rfl⟩, by kernel_rfl⟩
theorem fb50_LvA : FB Try.prog 50 := ⟨_, Try.func50, rfl, by kernel_rfl⟩

def argsOf (k : Int) : Int := if k = 0 then 0 else if k = 4 then 0 else if k = 1 then 1 else if k = 2 then 2 else if k = 3 then 2 else -1

theorem args_con (k : Int) : PCon Try.prog 53 [.p (I k)] (.p (I (argsOf k))) := by
  refine con_of Try.func53 rfl 12 Try.ntmps53 rfl fun cx hcx => ?_
  refine awp_seq ?_
  refine awp_region ?_
  refine awl_assign rfl rfl ?_
  refine awl_nil ?_
  change AWp _ _ _ _ _ _
  refine awp_seq ?_
  refine awp_seq ?_
  refine awp_region ?_
  refine awl_move rfl rfl ?_
  refine awl_nil ?_
  change AWp _ _ _ _ _ _
  refine awp_block ?_
  refine awp_seq ?_
  refine awp_seq ?_
  refine awp_region ?_
  refine awl_bin rfl rfl rfl rfl bin_eql ?_
  refine awl_assign rfl rfl ?_
  refine awl_nil ?_
  change AWp _ _ _ _ _ _
  first | refine awp_cond_p rfl (fun h1 => ?_) (fun h1 => ?_) | refine awp_cond rfl (fun h1 => ?_) (fun h1 => ?_)
  · skip
    refine awp_skip ?_
    change AWp _ _ _ _ _ _
    refine awp_cond_t (by first | exact h1 | exact decide_eq_true h1 | exact decide_eq_false h1) rfl ?_
    refine awp_seq ?_
    refine awp_region ?_
    refine awl_assign rfl rfl ?_
    refine awl_nil ?_
    change AWp _ _ _ _ _ _
    refine awp_ret ?_
    change Ends _ _ _ _ _ _
    refine ends1 [] rfl (.tmp rfl) ?_ rfl
    exact ⟨by simp [argsOf, *], rfl⟩
  · skip
    refine awp_region ?_
    refine awl_bin rfl rfl rfl rfl bin_eql ?_
    refine awl_assign rfl rfl ?_
    refine awl_nil ?_
    change AWp _ _ _ _ _ _
    first | refine awp_cond_p rfl (fun h2 => ?_) (fun h2 => ?_) | refine awp_cond rfl (fun h2 => ?_) (fun h2 => ?_)
    · skip
      refine awp_seq ?_
      refine awp_region ?_
      refine awl_assign rfl rfl ?_
      refine awl_nil ?_
      change AWp _ _ _ _ _ _
      refine awp_ret ?_
      change Ends _ _ _ _ _ _
      refine ends1 [] rfl (.tmp rfl) ?_ rfl
      exact ⟨by simp [argsOf, *], rfl⟩
    · skip
      refine awp_seq ?_
      refine awp_region ?_
      refine awl_bin rfl rfl rfl rfl bin_eql ?_
      refine awl_assign rfl rfl ?_
      refine awl_nil ?_
      change AWp _ _ _ _ _ _
      first | refine awp_cond_p rfl (fun h3 => ?_) (fun h3 => ?_) | refine awp_cond rfl (fun h3 => ?_) (fun h3 => ?_)
      · skip
        refine awp_seq ?_
        refine awp_region ?_
        refine awl_assign rfl rfl ?_
        refine awl_nil ?_
        change AWp _ _ _ _ _ _
        refine awp_ret ?_
        change Ends _ _ _ _ _ _
        refine ends1 [] rfl (.tmp rfl) ?_ rfl
        exact ⟨by simp [argsOf, *], rfl⟩
      · skip
        refine awp_seq ?_
        refine awp_seq ?_
        refine awp_region ?_
        refine awl_bin rfl rfl rfl rfl bin_eql ?_
        refine awl_assign rfl rfl ?_
        refine awl_nil ?_
        change AWp _ _ _ _ _ _
        first | refine awp_cond_p rfl (fun h4 => ?_) (fun h4 => ?_) | refine awp_cond rfl (fun h4 => ?_) (fun h4 => ?_)
        · skip
          refine awp_skip ?_
          change AWp _ _ _ _ _ _
          refine awp_cond_t (by first | exact h4 | exact decide_eq_true h4 | exact decide_eq_false h4) rfl ?_
          refine awp_seq ?_
          refine awp_region ?_
          refine awl_assign rfl rfl ?_
          refine awl_nil ?_
          change AWp _ _ _ _ _ _
          refine awp_ret ?_
          change Ends _ _ _ _ _ _
          refine ends1 [] rfl (.tmp rfl) ?_ rfl
          exact ⟨by simp [argsOf, *], rfl⟩
        · skip
          refine awp_region ?_
          refine awl_bin rfl rfl rfl rfl bin_eql ?_
          refine awl_assign rfl rfl ?_
          refine awl_nil ?_
          change AWp _ _ _ _ _ _
          first | refine awp_cond_p rfl (fun h5 => ?_) (fun h5 => ?_) | refine awp_cond rfl (fun h5 => ?_) (fun h5 => ?_)
          · skip
            refine awp_seq ?_
            refine awp_region ?_
            refine awl_assign rfl rfl ?_
            refine awl_nil ?_
            change AWp _ _ _ _ _ _
            refine awp_ret ?_
            change Ends _ _ _ _ _ _
            refine ends1 [] rfl (.tmp rfl) ?_ rfl
            exact ⟨by simp [argsOf, *], rfl⟩
          · skip
            refine awp_skip ?_
            change AWp _ _ _ _ _ _
            refine awp_seq ?_
            refine awp_region ?_
            refine awl_assign rfl rfl ?_
            refine awl_nil ?_
            change AWp _ _ _ _ _ _
            refine awp_ret ?_
            change Ends _ _ _ _ _ _
            refine ends1 [] rfl (.tmp rfl) ?_ rfl
            exact ⟨by simp [argsOf, *], rfl⟩
theorem rargs_con (k : Int) : PCon Try.prog 63 [.p (I k)] (.p (I (argsOf k))) := by
  refine con_of Try.func63 rfl 12 Try.ntmps63 rfl fun cx hcx => ?_
  refine awp_seq ?_
  refine awp_region ?_
  refine awl_assign rfl rfl ?_
  refine awl_nil ?_
  change AWp _ _ _ _ _ _
  refine awp_seq ?_
  refine awp_seq ?_
  refine awp_region ?_
  refine awl_move rfl rfl ?_
  refine awl_nil ?_
  change AWp _ _ _ _ _ _
  refine awp_block ?_
  refine awp_seq ?_
  refine awp_seq ?_
  refine awp_region ?_
  refine awl_bin rfl rfl rfl rfl bin_eql ?_
  refine awl_assign rfl rfl ?_
  refine awl_nil ?_
  change AWp _ _ _ _ _ _
  first | refine awp_cond_p rfl (fun h1 => ?_) (fun h1 => ?_) | refine awp_cond rfl (fun h1 => ?_) (fun h1 => ?_)
  · skip
    refine awp_skip ?_
    change AWp _ _ _ _ _ _
    refine awp_cond_t (by first | exact h1 | exact decide_eq_true h1 | exact decide_eq_false h1) rfl ?_
    refine awp_seq ?_
    refine awp_region ?_
    refine awl_assign rfl rfl ?_
    refine awl_nil ?_
    change AWp _ _ _ _ _ _
    refine awp_ret ?_
    change Ends _ _ _ _ _ _
    refine ends1 [] rfl (.tmp rfl) ?_ rfl
    exact ⟨by simp [argsOf, *], rfl⟩
  · skip
    refine awp_region ?_
    refine awl_bin rfl rfl rfl rfl bin_eql ?_
    refine awl_assign rfl rfl ?_
    refine awl_nil ?_
    change AWp _ _ _ _ _ _
    first | refine awp_cond_p rfl (fun h2 => ?_) (fun h2 => ?_) | refine awp_cond rfl (fun h2 => ?_) (fun h2 => ?_)
    · skip
      refine awp_seq ?_
      refine awp_region ?_
      refine awl_assign rfl rfl ?_
      refine awl_nil ?_
      change AWp _ _ _ _ _ _
      refine awp_ret ?_
      change Ends _ _ _ _ _ _
      refine ends1 [] rfl (.tmp rfl) ?_ rfl
      exact ⟨by simp [argsOf, *], rfl⟩
    · skip
      refine awp_seq ?_
      refine awp_region ?_
      refine awl_bin rfl rfl rfl rfl bin_eql ?_
      refine awl_assign rfl rfl ?_
      refine awl_nil ?_
      change AWp _ _ _ _ _ _
      first | refine awp_cond_p rfl (fun h3 => ?_) (fun h3 => ?_) | refine awp_cond rfl (fun h3 => ?_) (fun h3 => ?_)
      · skip
        refine awp_seq ?_
        refine awp_region ?_
        refine awl_assign rfl rfl ?_
        refine awl_nil ?_
        change AWp _ _ _ _ _ _
        refine awp_ret ?_
        change Ends _ _ _ _ _ _
        refine ends1 [] rfl (.tmp rfl) ?_ rfl
        exact ⟨by simp [argsOf, *], rfl⟩
      · skip
        refine awp_seq ?_
        refine awp_seq ?_
        refine awp_region ?_
        refine awl_bin rfl rfl rfl rfl bin_eql ?_
        refine awl_assign rfl rfl ?_
        refine awl_nil ?_
        change AWp _ _ _ _ _ _
        first | refine awp_cond_p rfl (fun h4 => ?_) (fun h4 => ?_) | refine awp_cond rfl (fun h4 => ?_) (fun h4 => ?_)
        · skip
          refine awp_skip ?_
          change AWp _ _ _ _ _ _
          refine awp_cond_t (by first | exact h4 | exact decide_eq_true h4 | exact decide_eq_false h4) rfl ?_
          refine awp_seq ?_
          refine awp_region ?_
          refine awl_assign rfl rfl ?_
          refine awl_nil ?_
          change AWp _ _ _ _ _ _
          refine awp_ret ?_
          change Ends _ _ _ _ _ _
          refine ends1 [] rfl (.tmp rfl) ?_ rfl
          exact ⟨by simp [argsOf, *], rfl⟩
        · skip
          refine awp_region ?_
          refine awl_bin rfl rfl rfl rfl bin_eql ?_
          refine awl_assign rfl rfl ?_
          refine awl_nil ?_
          change AWp _ _ _ _ _ _
          first | refine awp_cond_p rfl (fun h5 => ?_) (fun h5 => ?_) | refine awp_cond rfl (fun h5 => ?_) (fun h5 => ?_)
          · skip
            refine awp_seq ?_
            refine awp_region ?_
            refine awl_assign rfl rfl ?_
            refine awl_nil ?_
            change AWp _ _ _ _ _ _
            refine awp_ret ?_
            change Ends _ _ _ _ _ _
            refine ends1 [] rfl (.tmp rfl) ?_ rfl
            exact ⟨by simp [argsOf, *], rfl⟩
          · skip
            refine awp_skip ?_
            change AWp _ _ _ _ _ _
            refine awp_seq ?_
            refine awp_region ?_
            refine awl_assign rfl rfl ?_
            refine awl_nil ?_
            change AWp _ _ _ _ _ _
            refine awp_ret ?_
            change Ends _ _ _ _ _ _
            refine ends1 [] rfl (.tmp rfl) ?_ rfl
            exact ⟨by simp [argsOf, *], rfl⟩

/-- Kind, count and number are right, here. -/
def hereL (k n len ps : Int) : Prop := argsOf k = len ∧ ¬ (k = 4 ∧ (n < 0 ∨ n ≥ ps)) ∧ ¬ (k ≠ 4 ∧ n ≠ 0)
instance (k n len ps : Int) : Decidable (hereL k n len ps) := by unfold hereL; infer_instance
mutual
def wfL : Lvl → Int → Bool
  | ⟨k, n, l⟩, ps => decide (hereL k n l.length ps) && wfLs l ps
def wfLs : List Lvl → Int → Bool
  | [], _ => true
  | a :: r, ps => wfL a ps && wfLs r ps
end
theorem wfL_eq (t : Lvl) (ps : Int) : wfL t ps = (decide (hereL t.kind t.n t.args.length ps) && wfLs t.args ps) := by cases t; rfl

mutual
def mayL (ps : Int) : Lvl → Int → Int → Bool × Int
  | ⟨k, n, l⟩, d, p => if d > 32 ∨ p + 1 > 64 ∨ ¬ hereL k n l.length ps then (false, p + 1) else mayLs ps l (d + 1) (p + 1)
def mayLs (ps : Int) : List Lvl → Int → Int → Bool × Int
  | [], d, p => (true, p)
  | a :: r, d, p => if (mayL ps a d p).1 then mayLs ps r d (mayL ps a d p).2 else (false, (mayL ps a d p).2)
end
theorem mayL_eq (ps : Int) (t : Lvl) (d p : Int) : mayL ps t d p = if d > 32 ∨ p + 1 > 64 ∨ ¬ hereL t.kind t.n t.args.length ps then (false, p + 1) else mayLs ps t.args (d + 1) (p + 1) := by cases t; rfl

mutual
theorem mayL_spec (ps : Int) : ∀ (t : Lvl) (d p : Int), ((mayL ps t d p).1 = true ↔ p + partsL t ≤ 64 ∧ d - 1 + deepL t ≤ 32 ∧ wfL t ps = true) ∧ ((mayL ps t d p).1 = true → (mayL ps t d p).2 = p + partsL t)
  | ⟨k, n, l⟩, d, p => by
    simp only [mayL, partsL, deepL, wfL, Bool.and_eq_true, decide_eq_true_eq]
    have h1 := partsLs_pos l
    have h2 := deepLs_pos l
    by_cases hc : d > 32 ∨ p + 1 > 64 ∨ ¬ hereL k n l.length ps
    · rw [if_pos hc]
      refine ⟨⟨fun h => (by cases h), fun h => ?_⟩, fun h => (by cases h)⟩
      rcases hc with hc | hc | hc
      · omega
      · omega
      · exact absurd h.2.2.1 hc
    · rw [if_neg hc]
      have hd : ¬ d > 32 := fun h => hc (.inl h)
      have hp : ¬ p + 1 > 64 := fun h => hc (.inr (.inl h))
      have hh : hereL k n l.length ps := Classical.byContradiction fun h => hc (.inr (.inr h))
      have ⟨h3, h4⟩ := mayLs_spec ps l (d + 1) (p + 1) (by omega) (by omega)
      refine ⟨?_, fun h => ?_⟩
      · rw [h3]
        refine ⟨fun ⟨a, b, c⟩ => ⟨by omega, by omega, hh, c⟩, fun ⟨a, b, _, c⟩ => ⟨by omega, by omega, c⟩⟩
      · rw [h4 h]; omega
theorem mayLs_spec (ps : Int) : ∀ (l : List Lvl) (d p : Int), d ≤ 33 → p ≤ 64 → ((mayLs ps l d p).1 = true ↔ p + partsLs l ≤ 64 ∧ d - 1 + deepLs l ≤ 32 ∧ wfLs l ps = true) ∧ ((mayLs ps l d p).1 = true → (mayLs ps l d p).2 = p + partsLs l)
  | [], d, p, hd, hp => by
    simp only [mayLs, partsLs, deepLs, wfLs]
    exact ⟨⟨fun _ => ⟨by omega, by omega, trivial⟩, fun _ => trivial⟩, fun _ => by omega⟩
  | a :: r, d, p, hd, hp => by
    simp only [mayLs, partsLs, deepLs, wfLs, Bool.and_eq_true]
    have ⟨h1, h2⟩ := mayL_spec ps a d p
    have h5 := partsLs_pos r
    have h6 := deepLs_pos r
    by_cases hb : (mayL ps a d p).1 = true
    · rw [if_pos hb]
      have h7 := h2 hb
      have ⟨b1, b2, b3⟩ := h1.1 hb
      have ⟨h3, h4⟩ := mayLs_spec ps r d (mayL ps a d p).2 hd (by omega)
      rw [h7] at h3 h4
      refine ⟨?_, fun h => ?_⟩
      · rw [h7, h3]
        exact ⟨fun ⟨x, y, z⟩ => ⟨by omega, by omega, b3, z⟩, fun ⟨x, y, _, z⟩ => ⟨by omega, by omega, z⟩⟩
      · rw [h7] at h ⊢; rw [h4 h]; omega
    · rw [if_neg hb]
      refine ⟨⟨fun h => (by cases h), fun ⟨x, y, z, _⟩ => ?_⟩, fun h => (by cases h)⟩
      exact absurd (h1.2 ⟨by omega, by omega, z⟩) hb
end

theorem may_con (ps : Int) (t : Lvl) : ∀ (d p : Int), 0 ≤ d → d ≤ 33 → 0 ≤ p → p ≤ 64 →
    Con Try.prog 50 [lv t, .p (I ps), .p (I d), .ptr 1000 0] [(1000, .ce 3 [.p (I p)])] (fun r o => r = .p (B (mayL ps t d p).1) ∧ o = [(1000, .ce 3 [.p (I (mayL ps t d p).2)])]) := by
  intro d p hd0 hd1 hp0 hp1
  have ih : ∀ a ∈ t.args, ∀ (d p : Int), 0 ≤ d → d ≤ 33 → 0 ≤ p → p ≤ 64 → Con Try.prog 50 [lv a, .p (I ps), .p (I d), .ptr 1000 0] [(1000, .ce 3 [.p (I p)])] (fun r o => r = .p (B (mayL ps a d p).1) ∧ o = [(1000, .ce 3 [.p (I (mayL ps a d p).2)])]) :=
    fun a ha d p h0 h1 h2 h3 => may_con ps a d p h0 h1 h2 h3
  have hlen := encLs_len t.args
  have hF : (d > 32 ∨ p + 1 > 64 ∨ ¬ (argsOf t.kind = (encLs t.args).length ∧ ¬ (t.kind = 4 ∧ (t.n < 0 ∨ t.n ≥ ps)) ∧ ¬ (t.kind ≠ 4 ∧ t.n ≠ 0))) → mayL ps t d p = (false, p + 1) := fun h => by
    rw [mayL_eq, if_pos]; unfold hereL; rw [hlen] at h; exact h
  have hT : ¬ (d > 32 ∨ p + 1 > 64 ∨ ¬ (argsOf t.kind = (encLs t.args).length ∧ ¬ (t.kind = 4 ∧ (t.n < 0 ∨ t.n ≥ ps)) ∧ ¬ (t.kind ≠ 4 ∧ t.n ≠ 0))) → mayL ps t d p = mayLs ps t.args (d + 1) (p + 1) := fun h => by
    rw [mayL_eq, if_neg]; unfold hereL; rw [hlen] at h; exact h
  refine con_of Try.func50 rfl 72 Try.ntmps50 rfl fun cx hcx => ?_
  refine awp_seq ?_
  refine awp_region ?_
  refine awl_box rfl rfl rfl rfl rfl (by rw [hcx]; rfl) rfl ?_
  refine awl_assign rfl rfl ?_
  refine awl_nil ?_
  change AWp _ _ _ _ _ _
  refine awp_seq ?_
  refine awp_region ?_
  refine awl_move rfl rfl ?_
  refine awl_nilCheck rfl rfl rfl ?_
  first | refine awl_load_one ti3_LvA rfl rfl rfl rfl ?_ | refine awl_load_ione ti3_LvA rfl rfl rfl ?_
  first | refine awl_bin rfl rfl rfl rfl (bin_add_i (by omega)) ?_ | refine awl_bin rfl rfl rfl rfl bin_add ?_
  refine awl_nilCheck rfl rfl rfl ?_
  refine x_store ti3_LvA rfl rfl rfl rfl rfl rfl rfl rfl ?_
  refine awl_nil ?_
  change AWp _ _ _ _ _ _
  refine awp_seq ?_
  refine awp_seq ?_
  refine awp_fml 32 (d > 32 ∨ p + 1 > 64 ∨ argsOf t.kind ≠ (encLs t.args).length) [(0, _), (1, _), (2, _), (3, _), (4, _)] (.cons rfl (.cons rfl (.cons rfl (.cons rfl (.cons rfl (.nil)))))) ?_ ?_
  · skip
    refine awp_draw0 hmo_LvA (by kernel_rfl) ?_
    refine awd_q [(2, _)] (.cons rfl (.nil)) rfl rfl rfl ?_
    apply Exists.intro
    refine ⟨fun regs' => ?_, ?_⟩
    · skip
      refine awl_move rfl rfl ?_
      exact awl_done rfl
    refine awd_q [(16, _)] (.cons rfl (.nil)) rfl rfl rfl ?_
    apply Exists.intro
    refine ⟨fun regs' => ?_, ?_⟩
    · skip
      refine awl_bin rfl rfl rfl rfl bin_gtr ?_
      exact awl_done rfl
    refine awd_q [(17, _)] (.cons rfl (.nil)) rfl rfl rfl ?_
    apply Exists.intro
    refine ⟨fun regs' => ?_, ?_⟩
    · skip
      refine awl_move rfl rfl ?_
      exact awl_done rfl
    first | refine awd_split_p 18 rfl (fun h1 => ?_) (fun h1 => ?_) | refine awd_split 18 rfl (fun h1 => ?_) (fun h1 => ?_)
    · skip
      refine awd_q [(3, _), (18, _)] (.cons rfl (.cons rfl (.nil))) rfl rfl rfl ?_
      apply Exists.intro
      refine ⟨fun regs' => ?_, ?_⟩
      · skip
        refine awl_guard_no rfl (by first | exact h1 | exact decide_eq_true h1 | exact decide_eq_false h1) rfl rfl rfl rfl ?_
        exact awl_done rfl
      refine awd_q [(19, _), (18, _)] (.cons rfl (.cons rfl (.nil))) rfl rfl rfl ?_
      apply Exists.intro
      refine ⟨fun regs' => ?_, ?_⟩
      · skip
        refine awl_guard_no rfl (by first | exact h1 | exact decide_eq_true h1 | exact decide_eq_false h1) rfl rfl rfl rfl ?_
        exact awl_done rfl
      refine awd_q [(20, _), (18, _)] (.cons rfl (.cons rfl (.nil))) rfl rfl rfl ?_
      apply Exists.intro
      refine ⟨fun regs' => ?_, ?_⟩
      · skip
        refine awl_guard_no rfl (by first | exact h1 | exact decide_eq_true h1 | exact decide_eq_false h1) rfl rfl rfl rfl ?_
        exact awl_done rfl
      refine awd_q [(21, _), (18, _)] (.cons rfl (.cons rfl (.nil))) rfl rfl rfl ?_
      apply Exists.intro
      refine ⟨fun regs' => ?_, ?_⟩
      · skip
        refine awl_guard_no rfl (by first | exact h1 | exact decide_eq_true h1 | exact decide_eq_false h1) rfl rfl rfl rfl ?_
        exact awl_done rfl
      refine awd_q [(18, _), (22, _)] (.cons rfl (.cons rfl (.nil))) rfl rfl rfl ?_
      apply Exists.intro
      refine ⟨fun regs' => ?_, ?_⟩
      · skip
        refine awl_pick_t (by first | exact h1 | exact decide_eq_true h1 | exact decide_eq_false h1) rfl rfl rfl ?_
        exact awl_done rfl
      refine awd_q [(23, _)] (.cons rfl (.nil)) rfl rfl rfl ?_
      apply Exists.intro
      refine ⟨fun regs' => ?_, ?_⟩
      · skip
        refine awl_move rfl rfl ?_
        exact awl_done rfl
      refine awd_q [(4, _), (24, _)] (.cons rfl (.cons rfl (.nil))) rfl rfl rfl ?_
      apply Exists.intro
      refine ⟨fun regs' => ?_, ?_⟩
      · skip
        refine awl_guard_no rfl rfl rfl rfl rfl rfl ?_
        exact awl_done rfl
      refine awd_q [(25, _), (24, _)] (.cons rfl (.cons rfl (.nil))) rfl rfl rfl ?_
      apply Exists.intro
      refine ⟨fun regs' => ?_, ?_⟩
      · skip
        refine awl_guard_no rfl rfl rfl rfl rfl rfl ?_
        exact awl_done rfl
      refine awd_q [(26, _), (24, _)] (.cons rfl (.cons rfl (.nil))) rfl rfl rfl ?_
      apply Exists.intro
      refine ⟨fun regs' => ?_, ?_⟩
      · skip
        refine awl_guard_no rfl rfl rfl rfl rfl rfl ?_
        exact awl_done rfl
      refine awd_q [(4, _), (24, _)] (.cons rfl (.cons rfl (.nil))) rfl rfl rfl ?_
      apply Exists.intro
      refine ⟨fun regs' => ?_, ?_⟩
      · skip
        refine awl_guard_no rfl rfl rfl rfl rfl rfl ?_
        exact awl_done rfl
      refine awd_q [(28, _), (24, _)] (.cons rfl (.cons rfl (.nil))) rfl rfl rfl ?_
      apply Exists.intro
      refine ⟨fun regs' => ?_, ?_⟩
      · skip
        refine awl_guard_no rfl rfl rfl rfl rfl rfl ?_
        exact awl_done rfl
      refine awd_q [(29, _), (24, _)] (.cons rfl (.cons rfl (.nil))) rfl rfl rfl ?_
      apply Exists.intro
      refine ⟨fun regs' => ?_, ?_⟩
      · skip
        refine awl_guard_no rfl rfl rfl rfl rfl rfl ?_
        exact awl_done rfl
      refine awd_q [(27, _), (30, _), (24, _)] (.cons rfl (.cons rfl (.cons rfl (.nil)))) rfl rfl rfl ?_
      apply Exists.intro
      refine ⟨fun regs' => ?_, ?_⟩
      · skip
        refine awl_guard_no rfl rfl rfl rfl rfl rfl ?_
        exact awl_done rfl
      refine awd_q [(24, _), (31, _)] (.cons rfl (.cons rfl (.nil))) rfl rfl rfl ?_
      apply Exists.intro
      refine ⟨fun regs' => ?_, ?_⟩
      · skip
        refine awl_pick_t rfl rfl rfl rfl ?_
        exact awl_done rfl
      refine awd_nil ?_
      exact ⟨rfl, _, (by first | (simp; omega) | omega | (simp; done)), Le.mk (.cons rfl (Sub.refl _) (.cons rfl (Sub.refl _) (.cons rfl (Sub.refl _) (.cons rfl (Sub.refl _) (.cons rfl (Sub.refl _) (.cons rfl (Sub.refl _) .nil)))))) (by repeat (first | exact .nil | refine .cons rfl rfl ?_)) rfl⟩
    · skip
      refine awd_q [(3, _), (18, _)] (.cons rfl (.cons rfl (.nil))) rfl rfl rfl ?_
      apply Exists.intro
      refine ⟨fun regs' => ?_, ?_⟩
      · skip
        refine awl_guard_yes rfl (by first | exact h1 | exact decide_eq_true h1 | exact decide_eq_false h1) rfl rfl ?_
        refine awl_move rfl rfl ?_
        exact awl_done rfl
      refine awd_q [(19, _), (18, _)] (.cons rfl (.cons rfl (.nil))) rfl rfl rfl ?_
      apply Exists.intro
      refine ⟨fun regs' => ?_, ?_⟩
      · skip
        refine awl_guard_yes rfl (by first | exact h1 | exact decide_eq_true h1 | exact decide_eq_false h1) rfl rfl ?_
        refine awl_nilCheck rfl rfl rfl ?_
        exact awl_done rfl
      refine awd_q [(20, _), (18, _)] (.cons rfl (.cons rfl (.nil))) rfl rfl rfl ?_
      apply Exists.intro
      refine ⟨fun regs' => ?_, ?_⟩
      · skip
        refine awl_guard_yes rfl (by first | exact h1 | exact decide_eq_true h1 | exact decide_eq_false h1) rfl rfl ?_
        first | refine awl_load_one ti3_LvA rfl rfl rfl rfl ?_ | refine awl_load_ione ti3_LvA rfl rfl rfl ?_
        exact awl_done rfl
      refine awd_q [(21, _), (18, _)] (.cons rfl (.cons rfl (.nil))) rfl rfl rfl ?_
      apply Exists.intro
      refine ⟨fun regs' => ?_, ?_⟩
      · skip
        refine awl_guard_yes rfl (by first | exact h1 | exact decide_eq_true h1 | exact decide_eq_false h1) rfl rfl ?_
        refine awl_bin rfl rfl rfl rfl bin_gtr ?_
        exact awl_done rfl
      refine awd_q [(18, _), (22, _)] (.cons rfl (.cons rfl (.nil))) rfl rfl rfl ?_
      apply Exists.intro
      refine ⟨fun regs' => ?_, ?_⟩
      · skip
        refine awl_pick_f (by first | exact h1 | exact decide_eq_true h1 | exact decide_eq_false h1) rfl rfl rfl ?_
        exact awl_done rfl
      refine awd_q [(23, _)] (.cons rfl (.nil)) rfl rfl rfl ?_
      apply Exists.intro
      refine ⟨fun regs' => ?_, ?_⟩
      · skip
        refine awl_move rfl rfl ?_
        exact awl_done rfl
      first | refine awd_split_p 24 rfl (fun h2 => ?_) (fun h2 => ?_) | refine awd_split 24 rfl (fun h2 => ?_) (fun h2 => ?_)
      · skip
        refine awd_q [(4, _), (24, _)] (.cons rfl (.cons rfl (.nil))) rfl rfl rfl ?_
        apply Exists.intro
        refine ⟨fun regs' => ?_, ?_⟩
        · skip
          refine awl_guard_no rfl (by first | exact h2 | exact decide_eq_true h2 | exact decide_eq_false h2) rfl rfl rfl rfl ?_
          exact awl_done rfl
        refine awd_q [(25, _), (24, _)] (.cons rfl (.cons rfl (.nil))) rfl rfl rfl ?_
        apply Exists.intro
        refine ⟨fun regs' => ?_, ?_⟩
        · skip
          refine awl_guard_no rfl (by first | exact h2 | exact decide_eq_true h2 | exact decide_eq_false h2) rfl rfl rfl rfl ?_
          exact awl_done rfl
        refine awd_q [(26, _), (24, _)] (.cons rfl (.cons rfl (.nil))) rfl rfl rfl ?_
        apply Exists.intro
        refine ⟨fun regs' => ?_, ?_⟩
        · skip
          refine awl_guard_no rfl (by first | exact h2 | exact decide_eq_true h2 | exact decide_eq_false h2) rfl rfl rfl rfl ?_
          exact awl_done rfl
        refine awd_q [(4, _), (24, _)] (.cons rfl (.cons rfl (.nil))) rfl rfl rfl ?_
        apply Exists.intro
        refine ⟨fun regs' => ?_, ?_⟩
        · skip
          refine awl_guard_no rfl (by first | exact h2 | exact decide_eq_true h2 | exact decide_eq_false h2) rfl rfl rfl rfl ?_
          exact awl_done rfl
        refine awd_q [(28, _), (24, _)] (.cons rfl (.cons rfl (.nil))) rfl rfl rfl ?_
        apply Exists.intro
        refine ⟨fun regs' => ?_, ?_⟩
        · skip
          refine awl_guard_no rfl (by first | exact h2 | exact decide_eq_true h2 | exact decide_eq_false h2) rfl rfl rfl rfl ?_
          exact awl_done rfl
        refine awd_q [(29, _), (24, _)] (.cons rfl (.cons rfl (.nil))) rfl rfl rfl ?_
        apply Exists.intro
        refine ⟨fun regs' => ?_, ?_⟩
        · skip
          refine awl_guard_no rfl (by first | exact h2 | exact decide_eq_true h2 | exact decide_eq_false h2) rfl rfl rfl rfl ?_
          exact awl_done rfl
        refine awd_q [(27, _), (30, _), (24, _)] (.cons rfl (.cons rfl (.cons rfl (.nil)))) rfl rfl rfl ?_
        apply Exists.intro
        refine ⟨fun regs' => ?_, ?_⟩
        · skip
          refine awl_guard_no rfl (by first | exact h2 | exact decide_eq_true h2 | exact decide_eq_false h2) rfl rfl rfl rfl ?_
          exact awl_done rfl
        refine awd_q [(24, _), (31, _)] (.cons rfl (.cons rfl (.nil))) rfl rfl rfl ?_
        apply Exists.intro
        refine ⟨fun regs' => ?_, ?_⟩
        · skip
          refine awl_pick_t (by first | exact h2 | exact decide_eq_true h2 | exact decide_eq_false h2) rfl rfl rfl ?_
          exact awl_done rfl
        refine awd_nil ?_
        exact ⟨rfl, _, (by first | (simp; omega) | omega | (simp; done)), Le.mk (.cons rfl (Sub.refl _) (.cons rfl (Sub.refl _) (.cons rfl (Sub.refl _) (.cons rfl (Sub.refl _) (.cons rfl (Sub.refl _) (.cons rfl (Sub.refl _) .nil)))))) (by repeat (first | exact .nil | refine .cons rfl rfl ?_)) rfl⟩
      · skip
        refine awd_q [(4, _), (24, _)] (.cons rfl (.cons rfl (.nil))) rfl rfl rfl ?_
        apply Exists.intro
        refine ⟨fun regs' => ?_, ?_⟩
        · skip
          refine awl_guard_yes rfl (by first | exact h2 | exact decide_eq_true h2 | exact decide_eq_false h2) rfl rfl ?_
          first | refine awl_fieldAddr fi39_0_LvA rfl rfl ?_ | refine awl_fieldAddr_i fi39_0_LvA rfl rfl rfl ?_
          exact awl_done rfl
        refine awd_q [(25, _), (24, _)] (.cons rfl (.cons rfl (.nil))) rfl rfl rfl ?_
        apply Exists.intro
        refine ⟨fun regs' => ?_, ?_⟩
        · skip
          refine awl_guard_yes rfl (by first | exact h2 | exact decide_eq_true h2 | exact decide_eq_false h2) rfl rfl ?_
          first | refine awl_load_one ti3_LvA rfl rfl rfl rfl ?_ | refine awl_load_ione ti3_LvA rfl rfl rfl ?_
          exact awl_done rfl
        refine awd_q [(26, _), (24, _)] (.cons rfl (.cons rfl (.nil))) rfl rfl rfl ?_
        apply Exists.intro
        refine ⟨fun regs' => ?_, ?_⟩
        · skip
          refine awl_guard_yes rfl (by first | exact h2 | exact decide_eq_true h2 | exact decide_eq_false h2) rfl rfl ?_
          refine awl_pcall fb53_LvA rfl (args_con t.kind) (.cons (by first | exact Sub.refl _ | exact Sub.ts | exact Sub.nil | exact Sub.agc (by repeat (first | exact .nil | refine .cons (by first | exact Sub.refl _ | exact Sub.nil) ?_))) .nil) rfl ?_
          exact awl_done rfl
        refine awd_q [(4, _), (24, _)] (.cons rfl (.cons rfl (.nil))) rfl rfl rfl ?_
        apply Exists.intro
        refine ⟨fun regs' => ?_, ?_⟩
        · skip
          refine awl_guard_yes rfl (by first | exact h2 | exact decide_eq_true h2 | exact decide_eq_false h2) rfl rfl ?_
          first | refine awl_fieldAddr fi39_2_LvA rfl rfl ?_ | refine awl_fieldAddr_i fi39_2_LvA rfl rfl rfl ?_
          exact awl_done rfl
        refine awd_q [(28, _), (24, _)] (.cons rfl (.cons rfl (.nil))) rfl rfl rfl ?_
        apply Exists.intro
        refine ⟨fun regs' => ?_, ?_⟩
        · skip
          refine awl_guard_yes rfl (by first | exact h2 | exact decide_eq_true h2 | exact decide_eq_false h2) rfl rfl ?_
          first | refine awl_load_one ti24_LvA rfl rfl rfl rfl ?_ | refine awl_load_ione ti24_LvA rfl rfl rfl ?_
          exact awl_done rfl
        refine awd_q [(29, _), (24, _)] (.cons rfl (.cons rfl (.nil))) rfl rfl rfl ?_
        apply Exists.intro
        refine ⟨fun regs' => ?_, ?_⟩
        · skip
          refine awl_guard_yes rfl (by first | exact h2 | exact decide_eq_true h2 | exact decide_eq_false h2) rfl rfl ?_
          refine x_len si24_LvA rfl rfl rfl (fun hlen56 => ?_)
          exact awl_done rfl
        refine awd_q [(27, _), (30, _), (24, _)] (.cons rfl (.cons rfl (.cons rfl (.nil)))) rfl rfl rfl ?_
        apply Exists.intro
        refine ⟨fun regs' => ?_, ?_⟩
        · skip
          refine awl_guard_yes rfl (by first | exact h2 | exact decide_eq_true h2 | exact decide_eq_false h2) rfl rfl ?_
          refine awl_bin rfl rfl rfl rfl bin_neq ?_
          exact awl_done rfl
        refine awd_q [(24, _), (31, _)] (.cons rfl (.cons rfl (.nil))) rfl rfl rfl ?_
        apply Exists.intro
        refine ⟨fun regs' => ?_, ?_⟩
        · skip
          refine awl_pick_f (by first | exact h2 | exact decide_eq_true h2 | exact decide_eq_false h2) rfl rfl rfl ?_
          exact awl_done rfl
        refine awd_nil ?_
        exact ⟨rfl, _, (by first | (simp; omega) | omega | (simp; done)), Le.mk (.cons rfl (Sub.refl _) (.cons rfl (Sub.refl _) (.cons rfl (Sub.refl _) (.cons rfl (Sub.refl _) (.cons rfl (Sub.refl _) (.cons rfl (Sub.refl _) .nil)))))) (by repeat (first | exact .nil | refine .cons rfl rfl ?_)) rfl⟩
  change AWp _ _ _ _ _ _
  first | refine awp_cond_p rfl (fun hx => ?_) (fun hx => ?_) | refine awp_cond rfl (fun hx => ?_) (fun hx => ?_)
  · skip
    refine awp_seq ?_
    refine awp_region ?_
    refine awl_assign rfl rfl ?_
    refine awl_nil ?_
    change AWp _ _ _ _ _ _
    refine awp_ret ?_
    change Ends _ _ _ _ _ _
    refine ends1 [1000] rfl (.tmp rfl) ?_ rfl
    rw [hF (by omega)]; exact ⟨rfl, rfl⟩
  · skip
    refine awp_skip ?_
    change AWp _ _ _ _ _ _
    refine awp_seq ?_
    refine awp_seq ?_
    refine awp_fml 56 ((t.kind = 4 ∧ (t.n < 0 ∨ t.n ≥ ps)) ∨ (t.kind ≠ 4 ∧ t.n ≠ 0)) [(0, _), (1, _), (2, _), (3, _), (4, _)] (.cons rfl (.cons rfl (.cons rfl (.cons rfl (.cons rfl (.nil)))))) ?_ ?_
    · skip
      refine awp_region ?_
      first | refine awl_fieldAddr fi39_0_LvA rfl rfl ?_ | refine awl_fieldAddr_i fi39_0_LvA rfl rfl rfl ?_
      first | refine awl_load_one ti3_LvA rfl rfl rfl rfl ?_ | refine awl_load_ione ti3_LvA rfl rfl rfl ?_
      refine awl_bin rfl rfl rfl rfl bin_eql ?_
      refine awl_move rfl rfl ?_
      first | refine awl_split_p 36 rfl (fun h4 => ?_) (fun h4 => ?_) | refine awl_split 36 rfl (fun h4 => ?_) (fun h4 => ?_)
      · skip
        refine awl_guard_yes rfl (by first | exact h4 | exact decide_eq_true h4 | exact decide_eq_false h4) rfl rfl ?_
        first | refine awl_fieldAddr fi39_1_LvA rfl rfl ?_ | refine awl_fieldAddr_i fi39_1_LvA rfl rfl rfl ?_
        refine awl_guard_yes rfl (by first | exact h4 | exact decide_eq_true h4 | exact decide_eq_false h4) rfl rfl ?_
        first | refine awl_load_one ti3_LvA rfl rfl rfl rfl ?_ | refine awl_load_ione ti3_LvA rfl rfl rfl ?_
        refine awl_guard_yes rfl (by first | exact h4 | exact decide_eq_true h4 | exact decide_eq_false h4) rfl rfl ?_
        refine awl_bin rfl rfl rfl rfl bin_lss ?_
        refine awl_guard_yes rfl (by first | exact h4 | exact decide_eq_true h4 | exact decide_eq_false h4) rfl rfl ?_
        refine awl_move rfl rfl ?_
        first | refine awl_split_p 40 rfl (fun h5 => ?_) (fun h5 => ?_) | refine awl_split 40 rfl (fun h5 => ?_) (fun h5 => ?_)
        · skip
          refine awl_guard_no rfl (by first | exact h5 | exact decide_eq_true h5 | exact decide_eq_false h5) rfl rfl rfl rfl ?_
          refine awl_guard_no rfl (by first | exact h5 | exact decide_eq_true h5 | exact decide_eq_false h5) rfl rfl rfl rfl ?_
          refine awl_guard_no rfl (by first | exact h5 | exact decide_eq_true h5 | exact decide_eq_false h5) rfl rfl rfl rfl ?_
          refine awl_guard_no rfl (by first | exact h5 | exact decide_eq_true h5 | exact decide_eq_false h5) rfl rfl rfl rfl ?_
          refine awl_guard_yes rfl (by first | exact h4 | exact decide_eq_true h4 | exact decide_eq_false h4) rfl rfl ?_
          refine awl_pick_t (by first | exact h5 | exact decide_eq_true h5 | exact decide_eq_false h5) rfl rfl rfl ?_
          refine awl_pick_t (by first | exact h4 | exact decide_eq_true h4 | exact decide_eq_false h4) rfl rfl rfl ?_
          refine awl_move rfl rfl ?_
          refine awl_guard_no rfl rfl rfl rfl rfl rfl ?_
          refine awl_guard_no rfl rfl rfl rfl rfl rfl ?_
          refine awl_guard_no rfl rfl rfl rfl rfl rfl ?_
          refine awl_guard_no rfl rfl rfl rfl rfl rfl ?_
          refine awl_guard_un rfl rfl rfl rfl rfl ?_
          refine awl_guard_un rfl rfl rfl rfl rfl ?_
          refine awl_guard_un rfl rfl rfl rfl rfl ?_
          refine awl_guard_no rfl rfl rfl rfl rfl rfl ?_
          refine awl_pick_t rfl rfl rfl rfl ?_
          refine awl_nil ?_
          exact ⟨rfl, _, (by first | (simp; omega) | omega | (simp; done)), Le.mk (.cons rfl (Sub.refl _) (.cons rfl (Sub.refl _) (.cons rfl (Sub.refl _) (.cons rfl (Sub.refl _) (.cons rfl (Sub.refl _) (.cons rfl (Sub.refl _) .nil)))))) (by repeat (first | exact .nil | refine .cons rfl rfl ?_)) rfl⟩
        · skip
          refine awl_guard_yes rfl (by first | exact h5 | exact decide_eq_true h5 | exact decide_eq_false h5) rfl rfl ?_
          first | refine awl_fieldAddr fi39_1_LvA rfl rfl ?_ | refine awl_fieldAddr_i fi39_1_LvA rfl rfl rfl ?_
          refine awl_guard_yes rfl (by first | exact h5 | exact decide_eq_true h5 | exact decide_eq_false h5) rfl rfl ?_
          first | refine awl_load_one ti3_LvA rfl rfl rfl rfl ?_ | refine awl_load_ione ti3_LvA rfl rfl rfl ?_
          refine awl_guard_yes rfl (by first | exact h5 | exact decide_eq_true h5 | exact decide_eq_false h5) rfl rfl ?_
          refine awl_move rfl rfl ?_
          refine awl_guard_yes rfl (by first | exact h5 | exact decide_eq_true h5 | exact decide_eq_false h5) rfl rfl ?_
          refine awl_bin rfl rfl rfl rfl bin_geq ?_
          refine awl_guard_yes rfl (by first | exact h4 | exact decide_eq_true h4 | exact decide_eq_false h4) rfl rfl ?_
          refine awl_pick_f (by first | exact h5 | exact decide_eq_true h5 | exact decide_eq_false h5) rfl rfl rfl ?_
          refine awl_pick_t (by first | exact h4 | exact decide_eq_true h4 | exact decide_eq_false h4) rfl rfl rfl ?_
          refine awl_move rfl rfl ?_
          first | refine awl_split_p 47 rfl (fun h6 => ?_) (fun h6 => ?_) | refine awl_split 47 rfl (fun h6 => ?_) (fun h6 => ?_)
          · skip
            refine awl_guard_no rfl (by first | exact h6 | exact decide_eq_true h6 | exact decide_eq_false h6) rfl rfl rfl rfl ?_
            refine awl_guard_no rfl (by first | exact h6 | exact decide_eq_true h6 | exact decide_eq_false h6) rfl rfl rfl rfl ?_
            refine awl_guard_no rfl (by first | exact h6 | exact decide_eq_true h6 | exact decide_eq_false h6) rfl rfl rfl rfl ?_
            refine awl_guard_no rfl (by first | exact h6 | exact decide_eq_true h6 | exact decide_eq_false h6) rfl rfl rfl rfl ?_
            refine awl_guard_un rfl rfl rfl rfl rfl ?_
            refine awl_guard_un rfl rfl rfl rfl rfl ?_
            refine awl_guard_un rfl rfl rfl rfl rfl ?_
            refine awl_guard_no rfl (by first | exact h6 | exact decide_eq_true h6 | exact decide_eq_false h6) rfl rfl rfl rfl ?_
            refine awl_pick_t (by first | exact h6 | exact decide_eq_true h6 | exact decide_eq_false h6) rfl rfl rfl ?_
            refine awl_nil ?_
            exact ⟨rfl, _, (by first | (simp; omega) | omega | (simp; done)), Le.mk (.cons rfl (Sub.refl _) (.cons rfl (Sub.refl _) (.cons rfl (Sub.refl _) (.cons rfl (Sub.refl _) (.cons rfl (Sub.refl _) (.cons rfl (Sub.refl _) .nil)))))) (by repeat (first | exact .nil | refine .cons rfl rfl ?_)) rfl⟩
          · skip
            refine awl_guard_yes rfl (by first | exact h6 | exact decide_eq_true h6 | exact decide_eq_false h6) rfl rfl ?_
            first | refine awl_fieldAddr fi39_0_LvA rfl rfl ?_ | refine awl_fieldAddr_i fi39_0_LvA rfl rfl rfl ?_
            refine awl_guard_yes rfl (by first | exact h6 | exact decide_eq_true h6 | exact decide_eq_false h6) rfl rfl ?_
            first | refine awl_load_one ti3_LvA rfl rfl rfl rfl ?_ | refine awl_load_ione ti3_LvA rfl rfl rfl ?_
            refine awl_guard_yes rfl (by first | exact h6 | exact decide_eq_true h6 | exact decide_eq_false h6) rfl rfl ?_
            refine awl_bin rfl rfl rfl rfl bin_neq ?_
            refine awl_guard_yes rfl (by first | exact h6 | exact decide_eq_true h6 | exact decide_eq_false h6) rfl rfl ?_
            refine awl_move rfl rfl ?_
            first | refine awl_split_p 51 rfl (fun h7 => ?_) (fun h7 => ?_) | refine awl_split 51 rfl (fun h7 => ?_) (fun h7 => ?_)
            · skip
              refine awl_guard_yes rfl (by first | exact h7 | exact decide_eq_true h7 | exact decide_eq_false h7) rfl rfl ?_
              first | refine awl_fieldAddr fi39_1_LvA rfl rfl ?_ | refine awl_fieldAddr_i fi39_1_LvA rfl rfl rfl ?_
              refine awl_guard_yes rfl (by first | exact h7 | exact decide_eq_true h7 | exact decide_eq_false h7) rfl rfl ?_
              first | refine awl_load_one ti3_LvA rfl rfl rfl rfl ?_ | refine awl_load_ione ti3_LvA rfl rfl rfl ?_
              refine awl_guard_yes rfl (by first | exact h7 | exact decide_eq_true h7 | exact decide_eq_false h7) rfl rfl ?_
              refine awl_bin rfl rfl rfl rfl bin_neq ?_
              refine awl_guard_yes rfl (by first | exact h6 | exact decide_eq_true h6 | exact decide_eq_false h6) rfl rfl ?_
              refine awl_pick_t (by first | exact h7 | exact decide_eq_true h7 | exact decide_eq_false h7) rfl rfl rfl ?_
              refine awl_pick_f (by first | exact h6 | exact decide_eq_true h6 | exact decide_eq_false h6) rfl rfl rfl ?_
              refine awl_nil ?_
              exact ⟨rfl, _, (by first | (simp; omega) | omega | (simp; done)), Le.mk (.cons rfl (Sub.refl _) (.cons rfl (Sub.refl _) (.cons rfl (Sub.refl _) (.cons rfl (Sub.refl _) (.cons rfl (Sub.refl _) (.cons rfl (Sub.refl _) .nil)))))) (by repeat (first | exact .nil | refine .cons rfl rfl ?_)) rfl⟩
            · skip
              refine awl_guard_no rfl (by first | exact h7 | exact decide_eq_true h7 | exact decide_eq_false h7) rfl rfl rfl rfl ?_
              refine awl_guard_no rfl (by first | exact h7 | exact decide_eq_true h7 | exact decide_eq_false h7) rfl rfl rfl rfl ?_
              refine awl_guard_no rfl (by first | exact h7 | exact decide_eq_true h7 | exact decide_eq_false h7) rfl rfl rfl rfl ?_
              refine awl_guard_yes rfl (by first | exact h6 | exact decide_eq_true h6 | exact decide_eq_false h6) rfl rfl ?_
              refine awl_pick_f (by first | exact h7 | exact decide_eq_true h7 | exact decide_eq_false h7) rfl rfl rfl ?_
              refine awl_pick_f (by first | exact h6 | exact decide_eq_true h6 | exact decide_eq_false h6) rfl rfl rfl ?_
              refine awl_nil ?_
              exact ⟨rfl, _, (by first | (simp; omega) | omega | (simp; done)), Le.mk (.cons rfl (Sub.refl _) (.cons rfl (Sub.refl _) (.cons rfl (Sub.refl _) (.cons rfl (Sub.refl _) (.cons rfl (Sub.refl _) (.cons rfl (Sub.refl _) .nil)))))) (by repeat (first | exact .nil | refine .cons rfl rfl ?_)) rfl⟩
      · skip
        refine awl_guard_no rfl (by first | exact h4 | exact decide_eq_true h4 | exact decide_eq_false h4) rfl rfl rfl rfl ?_
        refine awl_guard_no rfl (by first | exact h4 | exact decide_eq_true h4 | exact decide_eq_false h4) rfl rfl rfl rfl ?_
        refine awl_guard_no rfl (by first | exact h4 | exact decide_eq_true h4 | exact decide_eq_false h4) rfl rfl rfl rfl ?_
        refine awl_guard_no rfl (by first | exact h4 | exact decide_eq_true h4 | exact decide_eq_false h4) rfl rfl rfl rfl ?_
        refine awl_guard_un rfl rfl rfl rfl rfl ?_
        refine awl_guard_un rfl rfl rfl rfl rfl ?_
        refine awl_guard_un rfl rfl rfl rfl rfl ?_
        refine awl_guard_un rfl rfl rfl rfl rfl ?_
        refine awl_guard_no rfl (by first | exact h4 | exact decide_eq_true h4 | exact decide_eq_false h4) rfl rfl rfl rfl ?_
        refine awl_pick_f (by first | exact h4 | exact decide_eq_true h4 | exact decide_eq_false h4) rfl rfl rfl ?_
        refine awl_move rfl rfl ?_
        refine awl_guard_yes rfl rfl rfl rfl ?_
        first | refine awl_fieldAddr fi39_0_LvA rfl rfl ?_ | refine awl_fieldAddr_i fi39_0_LvA rfl rfl rfl ?_
        refine awl_guard_yes rfl rfl rfl rfl ?_
        first | refine awl_load_one ti3_LvA rfl rfl rfl rfl ?_ | refine awl_load_ione ti3_LvA rfl rfl rfl ?_
        refine awl_guard_yes rfl rfl rfl rfl ?_
        refine awl_bin rfl rfl rfl rfl bin_neq ?_
        refine awl_guard_yes rfl rfl rfl rfl ?_
        refine awl_move rfl rfl ?_
        first | refine awl_split_p 51 rfl (fun h8 => ?_) (fun h8 => ?_) | refine awl_split 51 rfl (fun h8 => ?_) (fun h8 => ?_)
        · skip
          refine awl_guard_yes rfl (by first | exact h8 | exact decide_eq_true h8 | exact decide_eq_false h8) rfl rfl ?_
          first | refine awl_fieldAddr fi39_1_LvA rfl rfl ?_ | refine awl_fieldAddr_i fi39_1_LvA rfl rfl rfl ?_
          refine awl_guard_yes rfl (by first | exact h8 | exact decide_eq_true h8 | exact decide_eq_false h8) rfl rfl ?_
          first | refine awl_load_one ti3_LvA rfl rfl rfl rfl ?_ | refine awl_load_ione ti3_LvA rfl rfl rfl ?_
          refine awl_guard_yes rfl (by first | exact h8 | exact decide_eq_true h8 | exact decide_eq_false h8) rfl rfl ?_
          refine awl_bin rfl rfl rfl rfl bin_neq ?_
          refine awl_guard_yes rfl rfl rfl rfl ?_
          refine awl_pick_t (by first | exact h8 | exact decide_eq_true h8 | exact decide_eq_false h8) rfl rfl rfl ?_
          refine awl_pick_f rfl rfl rfl rfl ?_
          refine awl_nil ?_
          exact ⟨rfl, _, (by first | (simp; omega) | omega | (simp; done)), Le.mk (.cons rfl (Sub.refl _) (.cons rfl (Sub.refl _) (.cons rfl (Sub.refl _) (.cons rfl (Sub.refl _) (.cons rfl (Sub.refl _) (.cons rfl (Sub.refl _) .nil)))))) (by repeat (first | exact .nil | refine .cons rfl rfl ?_)) rfl⟩
        · skip
          refine awl_guard_no rfl (by first | exact h8 | exact decide_eq_true h8 | exact decide_eq_false h8) rfl rfl rfl rfl ?_
          refine awl_guard_no rfl (by first | exact h8 | exact decide_eq_true h8 | exact decide_eq_false h8) rfl rfl rfl rfl ?_
          refine awl_guard_no rfl (by first | exact h8 | exact decide_eq_true h8 | exact decide_eq_false h8) rfl rfl rfl rfl ?_
          refine awl_guard_yes rfl rfl rfl rfl ?_
          refine awl_pick_f (by first | exact h8 | exact decide_eq_true h8 | exact decide_eq_false h8) rfl rfl rfl ?_
          refine awl_pick_f rfl rfl rfl rfl ?_
          refine awl_nil ?_
          exact ⟨rfl, _, (by first | (simp; omega) | omega | (simp; done)), Le.mk (.cons rfl (Sub.refl _) (.cons rfl (Sub.refl _) (.cons rfl (Sub.refl _) (.cons rfl (Sub.refl _) (.cons rfl (Sub.refl _) (.cons rfl (Sub.refl _) .nil)))))) (by repeat (first | exact .nil | refine .cons rfl rfl ?_)) rfl⟩
    change AWp _ _ _ _ _ _
    first | refine awp_cond_p rfl (fun hy => ?_) (fun hy => ?_) | refine awp_cond rfl (fun hy => ?_) (fun hy => ?_)
    · skip
      refine awp_seq ?_
      refine awp_region ?_
      refine awl_assign rfl rfl ?_
      refine awl_nil ?_
      change AWp _ _ _ _ _ _
      refine awp_ret ?_
      change Ends _ _ _ _ _ _
      refine ends1 [1000] rfl (.tmp rfl) ?_ rfl
      rw [hF (by omega)]; exact ⟨rfl, rfl⟩
    · skip
      refine awp_skip ?_
      change AWp _ _ _ _ _ _
      refine awp_seq ?_
      refine awp_seq ?_
      refine awp_region ?_
      first | refine awl_fieldAddr fi39_2_LvA rfl rfl ?_ | refine awl_fieldAddr_i fi39_2_LvA rfl rfl rfl ?_
      first | refine awl_load_one ti24_LvA rfl rfl rfl rfl ?_ | refine awl_load_ione ti24_LvA rfl rfl rfl ?_
      refine x_len si24_LvA rfl rfl rfl (fun hlen187 => ?_)
      refine awl_move rfl rfl ?_
      refine awl_nil ?_
      change AWp _ _ _ _ _ _
      refine awp_block ?_
      refine x_loop [(1, _), (2, _), (3, _), (58, _), (59, _)] [] (fun x : Nat × List Lvl × Int => [(60, .p (I x.1))]) (fun x => [(1000, .ce 3 [.p (I x.2.2)])]) (fun x => t.args.drop x.1 = x.2.1 ∧ 0 ≤ x.2.2 ∧ x.2.2 ≤ 64 ∧ mayL ps t d p = mayLs ps x.2.1 (d + 1) x.2.2) (fun x => x.2.1.length) (0, t.args, p + 1) (Le.mk (.cons rfl (by first | exact Sub.refl _ | exact Sub.ts | exact Sub.nil | (refine Sub.eq ?_; first | (simp; done) | (simp; omega))) (.cons rfl (by first | exact Sub.refl _ | exact Sub.ts | exact Sub.nil | (refine Sub.eq ?_; first | (simp; done) | (simp; omega))) (.cons rfl (by first | exact Sub.refl _ | exact Sub.ts | exact Sub.nil | (refine Sub.eq ?_; first | (simp; done) | (simp; omega))) (.cons rfl (by first | exact Sub.refl _ | exact Sub.ts | exact Sub.nil | (refine Sub.eq ?_; first | (simp; done) | (simp; omega))) (.cons rfl (by first | exact Sub.refl _ | exact Sub.ts | exact Sub.nil | (refine Sub.eq ?_; first | (simp; done) | (simp; omega))) (.cons rfl (by first | exact Sub.refl _ | exact Sub.ts | exact Sub.nil | (refine Sub.eq ?_; first | (simp; done) | (simp; omega))) (.nil))))))) (.cons rfl (by first | rfl | (simp; done)) (.nil)) rfl) ⟨rfl, by simp only; omega, by simp only; omega, hT (by omega)⟩ (fun x hx => ?_)
      obtain ⟨i, r, m⟩ := x
      obtain ⟨hd, hm0, hm1, hsp⟩ := hx
      simp only at hd hm0 hm1 hsp
      dsimp only [List.cons_append, List.nil_append]
      refine awp_seq ?_
      refine awp_region ?_
      refine awl_bin rfl rfl rfl rfl bin_lss ?_
      refine awl_nil ?_
      change AWp _ _ _ _ _ _
      refine awp_seq ?_
      first | refine awp_cond_p rfl (fun hi => ?_) (fun hi => ?_) | refine awp_cond rfl (fun hi => ?_) (fun hi => ?_)
      · skip
        obtain ⟨a, r', rfl⟩ := drop_ne hd (by simp at hi; omega)
        have hrow := rowL_at hd
        refine awp_skip ?_
        change AWp _ _ _ _ _ _
        refine awp_seq ?_
        refine awp_block ?_
        refine awp_seq ?_
        refine awp_region ?_
        refine x_index si24_LvA ti39_LvA rfl rfl rfl rfl (by omega) (by first | omega | (simp only [List.length_map]; omega) | (simp; omega)) hrow rfl ?_
        first | refine awl_load_row ti39_LvA rfl rfl rfl rfl ?_ | refine x_irow ti39_LvA rfl rfl rfl rfl ?_
        refine x_alloc tz39_LvA rfl rfl (by rw [hcx]; rfl) rfl ?_
        refine x_store ti39_LvA rfl rfl rfl rfl rfl rfl rfl rfl ?_
        refine awl_nil ?_
        change AWp _ _ _ _ _ _
        refine awp_seq ?_
        refine awp_region ?_
        first | refine awl_load_row ti39_LvA rfl rfl rfl rfl ?_ | refine x_irow ti39_LvA rfl rfl rfl rfl ?_
        refine awl_move rfl rfl ?_
        refine awl_move rfl rfl ?_
        first | refine awl_bin rfl rfl rfl rfl (bin_add_i (by omega)) ?_ | refine awl_bin rfl rfl rfl rfl bin_add ?_
        refine awl_move rfl rfl ?_
        refine x_call [1000] fb50_LvA rfl rfl rfl (ih a (drop_mem hd) (d + 1) m (by omega) (by omega) hm0 hm1) (.cons (by first | exact Sub.refl _ | exact Sub.ts | exact Sub.nil | exact Sub.agc (by repeat (first | exact .nil | refine .cons (by first | exact Sub.refl _ | exact Sub.nil) ?_))) (.cons (by first | exact Sub.refl _ | exact Sub.ts | exact Sub.nil | exact Sub.agc (by repeat (first | exact .nil | refine .cons (by first | exact Sub.refl _ | exact Sub.nil) ?_))) (.cons (by first | exact Sub.refl _ | exact Sub.ts | exact Sub.nil | exact Sub.agc (by repeat (first | exact .nil | refine .cons (by first | exact Sub.refl _ | exact Sub.nil) ?_))) (.cons (by first | exact Sub.refl _ | exact Sub.ts | exact Sub.nil | exact Sub.agc (by repeat (first | exact .nil | refine .cons (by first | exact Sub.refl _ | exact Sub.nil) ?_))) .nil)))) rfl (fun r o ⟨e1, e2⟩ => ?_)
        subst e1 e2
        refine ⟨rfl, _, rfl, ?_⟩
        first | refine awl_un rfl rfl rfl un_notd ?_ | refine awl_un rfl rfl rfl un_not ?_
        refine awl_nil ?_
        change AWp _ _ _ _ _ _
        first | refine awp_cond_p rfl (fun hc => ?_) (fun hc => ?_) | refine awp_cond rfl (fun hc => ?_) (fun hc => ?_)
        · skip
          refine awp_seq ?_
          refine awp_region ?_
          refine awl_assign rfl rfl ?_
          refine awl_nil ?_
          change AWp _ _ _ _ _ _
          refine awp_ret ?_
          change Ends _ _ _ _ _ _
          refine ends1 [1000] rfl (.tmp rfl) ?_ rfl
          rw [hsp]; simp only [mayLs]; rw [if_neg (by simpa using hc)]; exact ⟨rfl, rfl⟩
        · skip
          have h4' : (mayL ps a (d + 1) m).1 = true := by simpa using hc
          have ⟨hs1, hs2⟩ := mayL_spec ps a (d + 1) m
          have hs3 := hs2 h4'
          have hs4 := hs1.1 h4'
          have hs5 := partsL_pos a
          refine awp_skip ?_
          change AWp _ _ _ _ _ _
          refine awp_region ?_
          first | refine awl_bin rfl rfl rfl rfl (bin_add_i (by omega)) ?_ | refine awl_bin rfl rfl rfl rfl bin_add ?_
          refine awl_move rfl rfl ?_
          refine awl_nil ?_
          change ∃ x', _
          refine ⟨(i + 1, r', (mayL ps a (d + 1) m).2), ⟨drop_next hd, by simp only; omega, by simp only; omega, by rw [hsp]; simp only [mayLs]; rw [if_pos h4']⟩, by simp, (Le.mk (.cons rfl (by first | exact Sub.refl _ | exact Sub.ts | exact Sub.nil | (refine Sub.eq ?_; first | (simp; done) | (simp; omega))) (.cons rfl (by first | exact Sub.refl _ | exact Sub.ts | exact Sub.nil | (refine Sub.eq ?_; first | (simp; done) | (simp; omega))) (.cons rfl (by first | exact Sub.refl _ | exact Sub.ts | exact Sub.nil | (refine Sub.eq ?_; first | (simp; done) | (simp; omega))) (.cons rfl (by first | exact Sub.refl _ | exact Sub.ts | exact Sub.nil | (refine Sub.eq ?_; first | (simp; done) | (simp; omega))) (.cons rfl (by first | exact Sub.refl _ | exact Sub.ts | exact Sub.nil | (refine Sub.eq ?_; first | (simp; done) | (simp; omega))) (.cons rfl (by first | exact Sub.refl _ | exact Sub.ts | exact Sub.nil | (refine Sub.eq ?_; first | (simp; done) | (simp; omega))) (.nil))))))) (.cons rfl (by first | rfl | (simp; done)) (.nil)) rfl)⟩
      · skip
        refine awp_exit ?_
        change AWp _ _ _ _ _ _
        refine awp_seq ?_
        refine awp_region ?_
        refine awl_assign rfl rfl ?_
        refine awl_nil ?_
        change AWp _ _ _ _ _ _
        refine awp_ret ?_
        change Ends _ _ _ _ _ _
        refine ends1 [1000] rfl (.tmp rfl) ?_ rfl
        rw [hsp]; obtain rfl := drop_end hd (by simp at hi; omega); exact ⟨rfl, rfl⟩
termination_by SizeOf.sizeOf t
decreasing_by exact Lvl.lt ha

end Go.Ab.Ytfgndomaadikoaa
