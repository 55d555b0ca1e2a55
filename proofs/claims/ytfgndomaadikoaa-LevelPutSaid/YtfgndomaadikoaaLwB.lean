/- The law LevelPut. -/
import Derived.Test.YtfgndomaadikoaaLwA
set_option linter.unusedVariables false
set_option linter.unusedSimpArgs false
namespace Go.Ab.Ytfgndomaadikoaa
open Go Go.RowKit Go.Ab Go.Proofs

theorem fb23_LwB : FB Try.prog 23 := ⟨_, Try.func23, rfl, by kernel_rfl⟩
theorem si24_LwB : SI Try.prog 24 39 := ⟨Try.underlying24⟩
theorem ti39_LwB : TI Try.prog 39 3 true := ⟨by kernel_rfl, by kernel_rfl⟩
theorem ei39_LwB : EI Try.prog 39 3 40 := ⟨by kernel_rfl⟩
theorem fb26_LwB : FB Try.prog 26 := ⟨_, Try.func26, rfl, by kernel_rfl⟩
theorem hmo_LwB : Try.prog.follows .mixedOrders = true := by kernel_rfl
theorem fb43_LwB : FB Try.prog 43 := ⟨_, Try.func43, rfl, by kernel_rfl⟩
theorem fb38_LwB : FB Try.prog 38 := ⟨_, Try.func38, rfl, by kernel_rfl⟩
theorem fb42 : FB Try.prog 42 := ⟨_, Try.func42, rfl, by kernel_rfl⟩
theorem fb43 : FB Try.prog 43 := ⟨_, Try.func43, rfl, by kernel_rfl⟩
theorem fb38 : FB Try.prog 38 := ⟨_, Try.func38, rfl, by kernel_rfl⟩

theorem lights {ls : List Lvl} (h : (!(ls.all fun l => lightB l 4)) = false) : ∀ b ∈ ls, narL b = true := fun b hb => by
  simp only [Bool.not_eq_false'] at h
  have := of_decide_eq_true (List.all_eq_true.1 h b hb)
  exact nar_parts b (by omega)

theorem LevelPut_con (t : Lvl) (by_ : List Lvl) (hlb : (by_.length : Int) ≤ 9223372036854775807) : PCon Try.prog 10 [lv t, .p (.sl 3 (encLs by_))] (.p (B true)) := by
  refine con_of Try.func10 rfl 43 Try.ntmps10 rfl fun cx hcx => ?_
  refine awp_seq ?_
  refine awp_region ?_
  refine awl_box rfl rfl rfl rfl rfl (by rw [hcx]; rfl) rfl ?_
  refine awl_assign rfl rfl ?_
  refine awl_nil ?_
  change AWp _ _ _ _ _ _
  refine awp_seq ?_
  refine awp_seq ?_
  refine awp_region ?_
  refine awl_pcall fb23_LwB rfl (begun4_con) .nil rfl ?_
  first | refine awl_un rfl rfl rfl un_notd ?_ | refine awl_un rfl rfl rfl un_not ?_
  refine awl_nil ?_
  change AWp _ _ _ _ _ _
  refine awp_cond_f (by first | exact rfl | exact decide_eq_true rfl | exact decide_eq_false rfl) rfl ?_
  refine awp_skip ?_
  change AWp _ _ _ _ _ _
  refine awp_seq ?_
  refine awp_seq ?_
  refine awp_region ?_
  refine awl_move rfl rfl ?_
  refine x_len si24_LwB rfl rfl rfl (fun hlen6 => ?_)
  refine awl_bin rfl rfl rfl rfl bin_gtr ?_
  refine awl_move rfl rfl ?_
  first | refine awl_split_p 13 rfl (fun h1 => ?_) (fun h1 => ?_) | refine awl_split 13 rfl (fun h1 => ?_) (fun h1 => ?_)
  · skip
    refine awl_guard_no rfl (by first | exact h1 | exact decide_eq_true h1 | exact decide_eq_false h1) rfl rfl rfl rfl ?_
    refine awl_guard_no rfl (by first | exact h1 | exact decide_eq_true h1 | exact decide_eq_false h1) rfl rfl rfl rfl ?_
    refine awl_guard_no rfl (by first | exact h1 | exact decide_eq_true h1 | exact decide_eq_false h1) rfl rfl rfl rfl ?_
    refine awl_guard_no rfl (by first | exact h1 | exact decide_eq_true h1 | exact decide_eq_false h1) rfl rfl rfl rfl ?_
    refine awl_pick_t (by first | exact h1 | exact decide_eq_true h1 | exact decide_eq_false h1) rfl rfl rfl ?_
    refine awl_move rfl rfl ?_
    refine awl_guard_no rfl rfl rfl rfl rfl rfl ?_
    refine awl_guard_no rfl rfl rfl rfl rfl rfl ?_
    refine awl_guard_no rfl rfl rfl rfl rfl rfl ?_
    refine awl_pick_t rfl rfl rfl rfl ?_
    refine awl_nil ?_
    change AWp _ _ _ _ _ _
    refine awp_cond_t rfl rfl ?_
    refine awp_seq ?_
    refine awp_region ?_
    refine awl_assign rfl rfl ?_
    refine awl_nil ?_
    change AWp _ _ _ _ _ _
    refine awp_ret ?_
    change Ends _ _ _ _ _ _
    refine ends1 [] rfl (.tmp rfl) ?_ rfl
    first | exact ⟨rfl, rfl⟩ | exact ⟨B_eq (eqL_self _), rfl⟩
  · skip
    refine awl_guard_yes rfl (by first | exact h1 | exact decide_eq_true h1 | exact decide_eq_false h1) rfl rfl ?_
    first | refine awl_load_row ti39_LwB rfl rfl rfl rfl ?_ | refine x_irow ti39_LwB rfl rfl rfl rfl ?_
    refine awl_guard_yes rfl (by first | exact h1 | exact decide_eq_true h1 | exact decide_eq_false h1) rfl rfl ?_
    refine x_slice si24_LwB ei39_LwB rfl rfl rfl rfl ?_
    refine awl_sub (sub_one _) ?_
    refine awl_guard_yes rfl (by first | exact h1 | exact decide_eq_true h1 | exact decide_eq_false h1) rfl rfl ?_
    refine awl_pcall fb26_LwB rfl (Light_con _) (.cons (by first | exact Sub.refl _ | exact Sub.ts | exact Sub.nil | exact Sub.agc (by repeat (first | exact .nil | refine .cons (by first | exact Sub.refl _ | exact Sub.nil) ?_))) .nil) rfl ?_
    refine awl_guard_yes rfl (by first | exact h1 | exact decide_eq_true h1 | exact decide_eq_false h1) rfl rfl ?_
    first | refine awl_un rfl rfl rfl un_notd ?_ | refine awl_un rfl rfl rfl un_not ?_
    refine awl_pick_f (by first | exact h1 | exact decide_eq_true h1 | exact decide_eq_false h1) rfl rfl rfl ?_
    refine awl_move rfl rfl ?_
    first | refine awl_split_p 19 rfl (fun h2 => ?_) (fun h2 => ?_) | refine awl_split 19 rfl (fun h2 => ?_) (fun h2 => ?_)
    · skip
      refine awl_guard_no rfl (by first | exact h2 | exact decide_eq_true h2 | exact decide_eq_false h2) rfl rfl rfl rfl ?_
      refine awl_guard_no rfl (by first | exact h2 | exact decide_eq_true h2 | exact decide_eq_false h2) rfl rfl rfl rfl ?_
      refine awl_guard_no rfl (by first | exact h2 | exact decide_eq_true h2 | exact decide_eq_false h2) rfl rfl rfl rfl ?_
      refine awl_pick_t (by first | exact h2 | exact decide_eq_true h2 | exact decide_eq_false h2) rfl rfl rfl ?_
      refine awl_nil ?_
      change AWp _ _ _ _ _ _
      refine awp_cond_t rfl rfl ?_
      refine awp_seq ?_
      refine awp_region ?_
      refine awl_assign rfl rfl ?_
      refine awl_nil ?_
      change AWp _ _ _ _ _ _
      refine awp_ret ?_
      change Ends _ _ _ _ _ _
      refine ends1 [] rfl (.tmp rfl) ?_ rfl
      first | exact ⟨rfl, rfl⟩ | exact ⟨B_eq (eqL_self _), rfl⟩
    · skip
      refine awl_guard_yes rfl (by first | exact h2 | exact decide_eq_true h2 | exact decide_eq_false h2) rfl rfl ?_
      refine awl_move rfl rfl ?_
      refine awl_guard_yes rfl (by first | exact h2 | exact decide_eq_true h2 | exact decide_eq_false h2) rfl rfl ?_
      refine awl_pcall fb26_LwB rfl (Light_con _) (.cons (by first | exact Sub.refl _ | exact Sub.ts | exact Sub.nil | exact Sub.agc (by repeat (first | exact .nil | refine .cons (by first | exact Sub.refl _ | exact Sub.nil) ?_))) .nil) rfl ?_
      refine awl_guard_yes rfl (by first | exact h2 | exact decide_eq_true h2 | exact decide_eq_false h2) rfl rfl ?_
      first | refine awl_un rfl rfl rfl un_notd ?_ | refine awl_un rfl rfl rfl un_not ?_
      refine awl_pick_f (by first | exact h2 | exact decide_eq_true h2 | exact decide_eq_false h2) rfl rfl rfl ?_
      refine awl_nil ?_
      change AWp _ _ _ _ _ _
      first | refine awp_cond_p rfl (fun h3 => ?_) (fun h3 => ?_) | refine awp_cond rfl (fun h3 => ?_) (fun h3 => ?_)
      · skip
        refine awp_seq ?_
        refine awp_region ?_
        refine awl_assign rfl rfl ?_
        refine awl_nil ?_
        change AWp _ _ _ _ _ _
        refine awp_ret ?_
        change Ends _ _ _ _ _ _
        refine ends1 [] rfl (.tmp rfl) ?_ rfl
        first | exact ⟨rfl, rfl⟩ | exact ⟨B_eq (eqL_self _), rfl⟩
      · skip
        have hnb := lights h3
        have hnt := lights h2 t (List.mem_singleton.2 rfl)
        refine awp_skip ?_
        change AWp _ _ _ _ _ _
        refine awp_toM ?_
        refine awpM_seq (awpM_region ?_)
        refine awlM_one (by refine awl_load_row tiL rfl rfl rfl rfl ?_; exact awl_done rfl) ?_
        refine awlM_one (by refine awl_move rfl rfl ?_; exact awl_done rfl) ?_
        refine awlM_callJ (T := 39) (k := (putF by_ t).kind) (m := (putF by_ t).n) (X := fun lo => .sl 3 (encFs lo (putF by_ t).args)) fb42 rfl hcx (fun lo => PutF_con lo by_ hnb t hnt) (.cons (by first | exact Sub.refl _ | exact Sub.ts) (.cons (by first | exact Sub.refl _ | exact Sub.ts) .nil)) rfl ?_
        intro cx1 lo V hcx1 jf hrep
        obtain ⟨dd, hdd⟩ := rep_wp (w := cx1.w0) (M := Mu cx.M0 cx1.own0 cx1.objs0) (lo := lo) (putF by_ t).args
        have hrep2 : Rep cx1.w0 (Mu cx.M0 cx1.own0 cx1.objs0) (.sl 3 (encLs (putF by_ t).args)) V := by
          cases hrep with | fs h _ => exact forget lo _ _ _ _ h
        refine awlM_one (by refine x_alloc tzL rfl rfl (by rw [hcx1]; rfl) rfl ?_; exact awl_done rfl) ?_
        refine awlM_one (by refine x_store tiL rfl rfl rfl rfl rfl rfl rfl rfl ?_; exact awl_done rfl) ?_
        refine awlM_nil ?_
        refine awpM_seq (awpM_region ?_)
        refine awlM_one (by refine awl_load_row tiL rfl rfl rfl rfl ?_; exact awl_done rfl) ?_
        refine awlM_one (by refine awl_move rfl rfl ?_; exact awl_done rfl) ?_
        refine awlM_one (by refine awl_pcall fb43 rfl (rPut_con by_ hnb t hnt) (.cons (by first | exact Sub.refl _ | exact Sub.ts) (.cons (by first | exact Sub.refl _ | exact Sub.ts) .nil)) rfl ?_; exact awl_done rfl) ?_
        refine awlM_one (by refine x_alloc tzL rfl rfl (by rw [hcx1]; rfl) rfl ?_; exact awl_done rfl) ?_
        refine awlM_one (by refine x_store tiL rfl rfl rfl rfl rfl rfl rfl rfl ?_; exact awl_done rfl) ?_
        refine awlM_nil ?_
        refine awpM_seq (awpM_region ?_)
        refine awlM_one (by refine awl_load_row tiL rfl rfl rfl rfl ?_; exact awl_done rfl) ?_
        refine awlM_one (by refine awl_load_row tiL rfl rfl rfl rfl ?_; exact awl_done rfl) ?_
        refine awlM_one (by refine awl_callJ (V := V) fb38 rfl rfl (Sub.refl _) (rEqual_con (putF by_ t) (putF by_ t)) jf hrep2 rfl ?_; exact awl_done rfl) ?_
        refine awlM_one (by refine awl_assign rfl rfl ?_; exact awl_done rfl) ?_
        refine awlM_nil ?_
        refine awpM_seq (awpM_region ?_)
        refine awlM_one (by refine awl_load_row tiL rfl rfl rfl rfl ?_; exact awl_done rfl) ?_
        refine awlM_wipe (k := (putF by_ t).kind) (m := (putF by_ t).n) (V := V) (I' := fun _ => True) fb44 rfl jf (fun w hj hs => (wipe_calls lo cx1.w0.heap.size dd _ _ V w hs (Wp.same hj dd V (hdd V hrep))).mono fun e w' h => ⟨h.1, { h.2 with inv := trivial }⟩) rfl ?_
        intro cx2 hcx2 lk2
        refine awlM_nil ?_
        refine awpM_of ?_ (fun e s a w r q => ⟨s, lk2.rel r, q⟩)
        refine awp_seq ?_
        refine awp_draw0 hmo_LwB (by kernel_rfl) ?_
        refine awd_q [(7, _)] (.cons rfl (.nil)) rfl rfl rfl ?_
        apply Exists.intro
        refine ⟨fun regs' => ?_, ?_⟩
        · skip
          refine awl_move rfl rfl ?_
          exact awl_done rfl
        refine awd_q [(35, _)] (.cons rfl (.nil)) rfl rfl rfl ?_
        apply Exists.intro
        refine ⟨fun regs' => ?_, ?_⟩
        · skip
          refine awl_move rfl rfl ?_
          exact awl_done rfl
        refine awd_q [(2, _), (36, _)] (.cons rfl (.cons rfl (.nil))) rfl rfl rfl ?_
        apply Exists.intro
        refine ⟨fun regs' => ?_, ?_⟩
        · skip
          refine awl_guard_yes rfl (by first | exact (eqL_self _) | exact decide_eq_true (eqL_self _) | exact decide_eq_false (eqL_self _)) rfl rfl ?_
          first | refine awl_load_row ti39_LwB rfl rfl rfl rfl ?_ | refine x_irow ti39_LwB rfl rfl rfl rfl ?_
          exact awl_done rfl
        refine awd_q [(1, _), (36, _)] (.cons rfl (.cons rfl (.nil))) rfl rfl rfl ?_
        apply Exists.intro
        refine ⟨fun regs' => ?_, ?_⟩
        · skip
          refine awl_guard_yes rfl (by first | exact (eqL_self _) | exact decide_eq_true (eqL_self _) | exact decide_eq_false (eqL_self _)) rfl rfl ?_
          refine awl_move rfl rfl ?_
          exact awl_done rfl
        refine awd_q [(37, _), (38, _), (36, _)] (.cons rfl (.cons rfl (.cons rfl (.nil)))) rfl rfl rfl ?_
        apply Exists.intro
        refine ⟨fun regs' => ?_, ?_⟩
        · skip
          refine awl_guard_yes rfl (by first | exact (eqL_self _) | exact decide_eq_true (eqL_self _) | exact decide_eq_false (eqL_self _)) rfl rfl ?_
          refine awl_pcall fb43_LwB rfl (rPut_con by_ hnb t hnt) (.cons (by first | exact Sub.refl _ | exact Sub.ts | exact Sub.nil | exact Sub.agc (by repeat (first | exact .nil | refine .cons (by first | exact Sub.refl _ | exact Sub.nil) ?_))) (.cons (by first | exact Sub.refl _ | exact Sub.ts | exact Sub.nil | exact Sub.agc (by repeat (first | exact .nil | refine .cons (by first | exact Sub.refl _ | exact Sub.nil) ?_))) .nil)) rfl ?_
          exact awl_done rfl
        refine awd_q [(6, _), (36, _)] (.cons rfl (.cons rfl (.nil))) rfl rfl rfl ?_
        apply Exists.intro
        refine ⟨fun regs' => ?_, ?_⟩
        · skip
          refine awl_guard_yes rfl (by first | exact (eqL_self _) | exact decide_eq_true (eqL_self _) | exact decide_eq_false (eqL_self _)) rfl rfl ?_
          first | refine awl_load_row ti39_LwB rfl rfl rfl rfl ?_ | refine x_irow ti39_LwB rfl rfl rfl rfl ?_
          exact awl_done rfl
        refine awd_q [(39, _), (40, _), (36, _)] (.cons rfl (.cons rfl (.cons rfl (.nil)))) rfl rfl rfl ?_
        apply Exists.intro
        refine ⟨fun regs' => ?_, ?_⟩
        · skip
          refine awl_guard_yes rfl (by first | exact (eqL_self _) | exact decide_eq_true (eqL_self _) | exact decide_eq_false (eqL_self _)) rfl rfl ?_
          refine awl_pcall fb38_LwB rfl (rEqual_con (putF by_ t) (putF by_ t)) (.cons (by first | exact Sub.refl _ | exact Sub.ts | exact Sub.nil | exact Sub.agc (by repeat (first | exact .nil | refine .cons (by first | exact Sub.refl _ | exact Sub.nil) ?_))) (.cons (by first | exact Sub.refl _ | exact Sub.ts | exact Sub.nil | exact Sub.agc (by repeat (first | exact .nil | refine .cons (by first | exact Sub.refl _ | exact Sub.nil) ?_))) .nil)) rfl ?_
          exact awl_done rfl
        refine awd_q [(36, _), (41, _)] (.cons rfl (.cons rfl (.nil))) rfl rfl rfl ?_
        apply Exists.intro
        refine ⟨fun regs' => ?_, ?_⟩
        · skip
          refine awl_pick_t (by first | exact (eqL_self _) | exact decide_eq_true (eqL_self _) | exact decide_eq_false (eqL_self _)) rfl rfl rfl ?_
          exact awl_done rfl
        refine awd_q [(42, _)] (.cons rfl (.nil)) rfl rfl rfl ?_
        apply Exists.intro
        refine ⟨fun regs' => ?_, ?_⟩
        · skip
          refine awl_assign rfl rfl ?_
          exact awl_done rfl
        refine awd_nil ?_
        change AWp _ _ _ _ _ _
        refine awp_ret ?_
        change Ends _ _ _ _ _ _
        refine ends1 [] rfl (.tmp rfl) ?_ rfl
        first | exact ⟨rfl, rfl⟩ | exact ⟨B_eq (eqL_self _), rfl⟩

end Go.Ab.Ytfgndomaadikoaa
