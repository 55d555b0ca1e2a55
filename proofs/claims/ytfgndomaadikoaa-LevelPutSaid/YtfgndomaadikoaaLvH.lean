/- Levels: Equal; whether level does anything yet; the laws LevelMay and LevelEval. -/
import Derived.Test.YtfgndomaadikoaaLvG
set_option linter.unusedVariables false
set_option linter.unusedSimpArgs false
namespace Go.Ab.Ytfgndomaadikoaa
open Go Go.RowKit Go.Ab Go.Proofs

theorem si24_LvH : SI Try.prog 24 39 := ⟨Try.underlying24⟩
theorem ti39_LvH : TI Try.prog 39 3 true := ⟨by kernel_rfl, by kernel_rfl⟩
theorem tz39_LvH : TZ Try.prog 39 [(.int .i64 0), (.int .i64 0), (.slice none 0 0)] := ⟨⟨.agg #[(.int .i64 0), (.int .i64 0), (.slice none 0 0)], by kernel_rfl, rfl⟩, by kernel_rfl⟩
theorem fb37_LvH : FB Try.prog 37 := ⟨_, Try.func37, rfl, by kernel_rfl⟩
theorem fi39_0_LvH : FI Try.prog 39 0 0 := ⟨_, _, 0, Try.underlying39, rfl, rfl, by kernel_rfl⟩
theorem ti3_LvH : TI Try.prog 3 1 false := ⟨by kernel_rfl, by kernel_rfl⟩
theorem fi39_1_LvH : FI Try.prog 39 1 1 := ⟨_, _, 0, Try.underlying39, rfl, rfl, by kernel_rfl⟩
theorem fi39_2_LvH : FI Try.prog 39 2 2 := ⟨_, _, 0, Try.underlying39, rfl, rfl, by kernel_rfl⟩
theorem ti24_LvH : TI Try.prog 24 1 false := ⟨by kernel_rfl, by kernel_rfl⟩
theorem fb58_LvH : FB Try.prog 58 := ⟨_, Try.func58, rfl, by kernel_rfl⟩
theorem fb48_LvH : FB Try.prog 48 := ⟨_, Try.func48, rfl, by kernel_rfl⟩
theorem fb49_LvH : FB Try.prog 49 := ⟨_, Try.func49, rfl, by kernel_rfl⟩
theorem hmo_LvH : Try.prog.follows .mixedOrders = true := by kernel_rfl
theorem fb24_LvH : FB Try.prog 24 := ⟨_, Try.func24, rfl, by kernel_rfl⟩
theorem fb41_LvH : FB Try.prog 41 := ⟨_, Try.func41, rfl, by kernel_rfl⟩
theorem si41_LvH : SI Try.prog 41 3 := ⟨Try.underlying41⟩
theorem ei3_LvH : EI Try.prog 3 1 8 := ⟨by kernel_rfl⟩
theorem fb27_LvH : FB Try.prog 27 := ⟨_, Try.func27, rfl, by kernel_rfl⟩
theorem fb40_LvH : FB Try.prog 40 := ⟨_, Try.func40, rfl, by kernel_rfl⟩
theorem fb33_LvH : FB Try.prog 33 := ⟨_, Try.func33, rfl, by kernel_rfl⟩
theorem fb31_LvH : FB Try.prog 31 := ⟨_, Try.func31, rfl, by kernel_rfl⟩
theorem fb35_LvH : FB Try.prog 35 := ⟨_, Try.func35, rfl, by kernel_rfl⟩
theorem ei39_LvH : EI Try.prog 39 3 40 := ⟨by kernel_rfl⟩
theorem fb42_LvH : FB Try.prog 42 := ⟨_, Try.func42, rfl, by kernel_rfl⟩
theorem fb23_LvH : FB Try.prog 23 := ⟨_, Try.func23, rfl, by kernel_rfl⟩
theorem fb25_LvH : FB Try.prog 25 := ⟨_, Try.func25, rfl, by kernel_rfl⟩
theorem fb26_LvH : FB Try.prog 26 := ⟨_, Try.func26, rfl, by kernel_rfl⟩
theorem fb28_LvH : FB Try.prog 28 := ⟨_, Try.func28, rfl, by kernel_rfl⟩

mutual
def eqL : Lvl → Lvl → Bool
  | ⟨k, n, l⟩, ⟨k', n', l'⟩ => decide (k = k') && (decide (n = n') && eqLs l l')
def eqLs : List Lvl → List Lvl → Bool
  | [], [] => true
  | a :: r, b :: s => eqL a b && eqLs r s
  | [], _ :: _ => false
  | _ :: _, [] => false
end
theorem eqL_eq (a b : Lvl) : eqL a b = (decide (a.kind = b.kind) && (decide (a.n = b.n) && eqLs a.args b.args)) := by cases a; cases b; rfl
theorem eqLs_len : ∀ (l m : List Lvl), l.length ≠ m.length → eqLs l m = false
  | [], [], h => absurd rfl h
  | a :: r, b :: s, h => by simp only [eqLs, eqLs_len r s (by simpa using h), Bool.and_false]
  | [], _ :: _, _ => rfl
  | _ :: _, [], _ => rfl
mutual
theorem eqL_self : ∀ a : Lvl, eqL a a = true
  | ⟨k, n, l⟩ => by simp [eqL, eqLs_self l]
theorem eqLs_self : ∀ l : List Lvl, eqLs l l = true
  | [] => rfl
  | a :: r => by simp [eqLs, eqL_self a, eqLs_self r]
end

theorem EqF_con (l m : List Lvl) (h : ∀ a ∈ l, ∀ b, PCon Try.prog 37 [lv a, lv b] (.p (B (eqL a b)))) :
    PCon Try.prog 58 [.p (.sl 3 (encLs l)), .p (.sl 3 (encLs m)), .p (.fn (.func 37) [] [])] (.p (B (eqLs l m))) := by
  refine con_of Try.func58 rfl 32 Try.ntmps58 rfl fun cx hcx => ?_
  refine awp_seq ?_
  refine awp_region ?_
  refine awl_assign rfl rfl ?_
  refine awl_nil ?_
  change AWp _ _ _ _ _ _
  refine awp_seq ?_
  refine awp_seq ?_
  refine awp_region ?_
  refine awl_move rfl rfl ?_
  refine x_len si24_LvH rfl rfl rfl (fun hlen2 => ?_)
  refine awl_move rfl rfl ?_
  refine x_len si24_LvH rfl rfl rfl (fun hlen5 => ?_)
  refine awl_bin rfl rfl rfl rfl bin_neq ?_
  refine awl_nil ?_
  change AWp _ _ _ _ _ _
  first | refine awp_cond_p rfl (fun hl => ?_) (fun hl => ?_) | refine awp_cond rfl (fun hl => ?_) (fun hl => ?_)
  · skip
    refine awp_seq ?_
    refine awp_region ?_
    refine awl_assign rfl rfl ?_
    refine awl_nil ?_
    change AWp _ _ _ _ _ _
    refine awp_ret ?_
    change Ends _ _ _ _ _ _
    refine ends1 [] rfl (.tmp rfl) ?_ rfl
    refine ⟨B_eq ?_, rfl⟩; exact (eqLs_len l m (by simp at hl; omega)).symm
  · skip
    have hlm : l.length = m.length := by simp at hl; omega
    refine awp_skip ?_
    change AWp _ _ _ _ _ _
    refine awp_seq ?_
    refine awp_seq ?_
    refine awp_region ?_
    refine awl_move rfl rfl ?_
    refine x_len si24_LvH rfl rfl rfl (fun hlen10 => ?_)
    refine awl_move rfl rfl ?_
    refine awl_nil ?_
    change AWp _ _ _ _ _ _
    refine awp_block ?_
    refine x_loop [(1, _), (2, _), (15, _), (16, _)] [] (fun x : Nat × List Lvl × List Lvl => [(17, .p (I x.1))]) (fun x => []) (fun x => l.drop x.1 = x.2.1 ∧ m.drop x.1 = x.2.2 ∧ eqLs l m = eqLs x.2.1 x.2.2) (fun x => x.2.1.length) (0, l, m) (Le.mk (.cons rfl (by first | exact Sub.refl _ | exact Sub.ts | exact Sub.nil | (refine Sub.eq ?_; first | (simp; done) | (simp; omega))) (.cons rfl (by first | exact Sub.refl _ | exact Sub.ts | exact Sub.nil | (refine Sub.eq ?_; first | (simp; done) | (simp; omega))) (.cons rfl (by first | exact Sub.refl _ | exact Sub.ts | exact Sub.nil | (refine Sub.eq ?_; first | (simp; done) | (simp; omega))) (.cons rfl (by first | exact Sub.refl _ | exact Sub.ts | exact Sub.nil | (refine Sub.eq ?_; first | (simp; done) | (simp; omega))) (.cons rfl (by first | exact Sub.refl _ | exact Sub.ts | exact Sub.nil | (refine Sub.eq ?_; first | (simp; done) | (simp; omega))) (.nil)))))) (.nil) rfl) ⟨rfl, rfl, rfl⟩ (fun x hx => ?_)
    obtain ⟨i, r, s⟩ := x
    obtain ⟨hd, he, hsp⟩ := hx
    simp only at hd he hsp
    dsimp only [List.cons_append, List.nil_append]
    refine awp_seq ?_
    refine awp_region ?_
    refine awl_bin rfl rfl rfl rfl bin_lss ?_
    refine awl_nil ?_
    change AWp _ _ _ _ _ _
    refine awp_seq ?_
    first | refine awp_cond_p rfl (fun hi => ?_) (fun hi => ?_) | refine awp_cond rfl (fun hi => ?_) (fun hi => ?_)
    · skip
      obtain ⟨a, r', rfl⟩ := drop_ne hd (by simp at hi; omega)
      obtain ⟨b, s', rfl⟩ := drop_ne he (by simp at hi; omega)
      have hrow := rowL_at hd
      have hrow2 := rowL_at he
      have hdl := drop_lt hd
      refine awp_skip ?_
      change AWp _ _ _ _ _ _
      refine awp_seq ?_
      refine awp_block ?_
      refine awp_seq ?_
      refine awp_region ?_
      refine awl_move rfl rfl ?_
      refine x_index si24_LvH ti39_LvH rfl rfl rfl rfl (by omega) (by first | omega | (simp only [List.length_map]; omega) | (simp; omega)) (by assumption) rfl ?_
      first | refine awl_load_row ti39_LvH rfl rfl rfl rfl ?_ | refine x_irow ti39_LvH rfl rfl rfl rfl ?_
      refine x_alloc tz39_LvH rfl rfl (by rw [hcx]; rfl) rfl ?_
      refine awl_assign rfl rfl ?_
      refine x_store ti39_LvH rfl rfl rfl rfl rfl rfl rfl rfl ?_
      refine awl_nil ?_
      change AWp _ _ _ _ _ _
      refine awp_seq ?_
      refine awp_region ?_
      refine awl_move rfl rfl ?_
      refine awl_move rfl rfl ?_
      refine x_index si24_LvH ti39_LvH rfl rfl rfl rfl (by omega) (by first | omega | (simp only [List.length_map]; omega) | (simp; omega)) (by assumption) rfl ?_
      first | refine awl_load_row ti39_LvH rfl rfl rfl rfl ?_ | refine x_irow ti39_LvH rfl rfl rfl rfl ?_
      refine x_alloc tz39_LvH rfl rfl (by rw [hcx]; rfl) rfl ?_
      refine x_store ti39_LvH rfl rfl rfl rfl rfl rfl rfl rfl ?_
      refine awl_nil ?_
      change AWp _ _ _ _ _ _
      refine awp_seq ?_
      refine awp_region ?_
      refine awl_move rfl rfl ?_
      first | refine awl_load_row ti39_LvH rfl rfl rfl rfl ?_ | refine x_irow ti39_LvH rfl rfl rfl rfl ?_
      first | refine awl_load_row ti39_LvH rfl rfl rfl rfl ?_ | refine x_irow ti39_LvH rfl rfl rfl rfl ?_
      refine awl_calltmp rfl ?_
      refine awl_pcall fb37_LvH rfl (h a (drop_mem hd) b) (.cons (by first | exact Sub.refl _ | exact Sub.ts | exact Sub.nil | exact Sub.agc (by repeat (first | exact .nil | refine .cons (by first | exact Sub.refl _ | exact Sub.nil) ?_))) (.cons (by first | exact Sub.refl _ | exact Sub.ts | exact Sub.nil | exact Sub.agc (by repeat (first | exact .nil | refine .cons (by first | exact Sub.refl _ | exact Sub.nil) ?_))) .nil)) rfl ?_
      first | refine awl_un rfl rfl rfl un_notd ?_ | refine awl_un rfl rfl rfl un_not ?_
      refine awl_nil ?_
      change AWp _ _ _ _ _ _
      first | refine awp_cond_p rfl (fun hc => ?_) (fun hc => ?_) | refine awp_cond rfl (fun hc => ?_) (fun hc => ?_)
      · skip
        have hc' : eqL a b = false := by simpa using hc
        refine awp_seq ?_
        refine awp_region ?_
        refine awl_assign rfl rfl ?_
        refine awl_nil ?_
        change AWp _ _ _ _ _ _
        refine awp_ret ?_
        change Ends _ _ _ _ _ _
        refine ends1 [] rfl (.tmp rfl) ?_ rfl
        refine ⟨B_eq ?_, rfl⟩; rw [hsp]; simp [eqLs, hc']
      · skip
        have hc' : eqL a b = true := by simpa using hc
        refine awp_skip ?_
        change AWp _ _ _ _ _ _
        refine awp_region ?_
        first | refine awl_bin rfl rfl rfl rfl (bin_add_i (by omega)) ?_ | refine awl_bin rfl rfl rfl rfl bin_add ?_
        refine awl_move rfl rfl ?_
        refine awl_nil ?_
        change ∃ x', _
        refine ⟨(i + 1, r', s'), ⟨drop_next hd, drop_next he, by rw [hsp]; simp [eqLs, hc']⟩, by simp, (Le.mk (.cons rfl (by first | exact Sub.refl _ | exact Sub.ts | exact Sub.nil | (refine Sub.eq ?_; first | (simp; done) | (simp; omega))) (.cons rfl (by first | exact Sub.refl _ | exact Sub.ts | exact Sub.nil | (refine Sub.eq ?_; first | (simp; done) | (simp; omega))) (.cons rfl (by first | exact Sub.refl _ | exact Sub.ts | exact Sub.nil | (refine Sub.eq ?_; first | (simp; done) | (simp; omega))) (.cons rfl (by first | exact Sub.refl _ | exact Sub.ts | exact Sub.nil | (refine Sub.eq ?_; first | (simp; done) | (simp; omega))) (.cons rfl (by first | exact Sub.refl _ | exact Sub.ts | exact Sub.nil | (refine Sub.eq ?_; first | (simp; done) | (simp; omega))) (.nil)))))) (.nil) rfl)⟩
    · skip
      refine awp_exit ?_
      change AWp _ _ _ _ _ _
      refine awp_seq ?_
      refine awp_region ?_
      refine awl_assign rfl rfl ?_
      refine awl_nil ?_
      change AWp _ _ _ _ _ _
      refine awp_ret ?_
      change Ends _ _ _ _ _ _
      refine ends1 [] rfl (.tmp rfl) ?_ rfl
      refine ⟨B_eq ?_, rfl⟩; obtain rfl := drop_end hd (by simp at hi; omega); obtain rfl := drop_end he (by simp at hi; omega); rw [hsp]; rfl

theorem Equal_con (a : Lvl) : ∀ b, PCon Try.prog 37 [lv a, lv b] (.p (B (eqL a b))) := by
  intro b
  have ih : ∀ c ∈ a.args, ∀ b, PCon Try.prog 37 [lv c, lv b] (.p (B (eqL c b))) := fun c hc b => Equal_con c b
  have he := eqL_eq a b
  refine con_of Try.func37 rfl 24 Try.ntmps37 rfl fun cx hcx => ?_
  refine awp_seq ?_
  refine awp_region ?_
  refine awl_box rfl rfl rfl rfl rfl (by rw [hcx]; rfl) rfl ?_
  refine awl_box rfl rfl rfl rfl rfl (by rw [hcx]; rfl) rfl ?_
  refine awl_assign rfl rfl ?_
  refine awl_nil ?_
  change AWp _ _ _ _ _ _
  refine awp_seq ?_
  refine awp_region ?_
  first | refine awl_fieldAddr fi39_0_LvH rfl rfl ?_ | refine awl_fieldAddr_i fi39_0_LvH rfl rfl rfl ?_
  first | refine awl_load_one ti3_LvH rfl rfl rfl rfl ?_ | refine awl_load_ione ti3_LvH rfl rfl rfl ?_
  first | refine awl_fieldAddr fi39_0_LvH rfl rfl ?_ | refine awl_fieldAddr_i fi39_0_LvH rfl rfl rfl ?_
  first | refine awl_load_one ti3_LvH rfl rfl rfl rfl ?_ | refine awl_load_ione ti3_LvH rfl rfl rfl ?_
  refine awl_bin rfl rfl rfl rfl bin_eql ?_
  refine awl_move rfl rfl ?_
  first | refine awl_split_p 10 rfl (fun h1 => ?_) (fun h1 => ?_) | refine awl_split 10 rfl (fun h1 => ?_) (fun h1 => ?_)
  · skip
    refine awl_guard_yes rfl (by first | exact h1 | exact decide_eq_true h1 | exact decide_eq_false h1) rfl rfl ?_
    first | refine awl_fieldAddr fi39_1_LvH rfl rfl ?_ | refine awl_fieldAddr_i fi39_1_LvH rfl rfl rfl ?_
    refine awl_guard_yes rfl (by first | exact h1 | exact decide_eq_true h1 | exact decide_eq_false h1) rfl rfl ?_
    first | refine awl_load_one ti3_LvH rfl rfl rfl rfl ?_ | refine awl_load_ione ti3_LvH rfl rfl rfl ?_
    refine awl_guard_yes rfl (by first | exact h1 | exact decide_eq_true h1 | exact decide_eq_false h1) rfl rfl ?_
    first | refine awl_fieldAddr fi39_1_LvH rfl rfl ?_ | refine awl_fieldAddr_i fi39_1_LvH rfl rfl rfl ?_
    refine awl_guard_yes rfl (by first | exact h1 | exact decide_eq_true h1 | exact decide_eq_false h1) rfl rfl ?_
    first | refine awl_load_one ti3_LvH rfl rfl rfl rfl ?_ | refine awl_load_ione ti3_LvH rfl rfl rfl ?_
    refine awl_guard_yes rfl (by first | exact h1 | exact decide_eq_true h1 | exact decide_eq_false h1) rfl rfl ?_
    refine awl_bin rfl rfl rfl rfl bin_eql ?_
    refine awl_pick_t (by first | exact h1 | exact decide_eq_true h1 | exact decide_eq_false h1) rfl rfl rfl ?_
    refine awl_move rfl rfl ?_
    first | refine awl_split_p 17 rfl (fun h2 => ?_) (fun h2 => ?_) | refine awl_split 17 rfl (fun h2 => ?_) (fun h2 => ?_)
    · skip
      refine awl_guard_yes rfl (by first | exact h2 | exact decide_eq_true h2 | exact decide_eq_false h2) rfl rfl ?_
      first | refine awl_fieldAddr fi39_2_LvH rfl rfl ?_ | refine awl_fieldAddr_i fi39_2_LvH rfl rfl rfl ?_
      refine awl_guard_yes rfl (by first | exact h2 | exact decide_eq_true h2 | exact decide_eq_false h2) rfl rfl ?_
      first | refine awl_load_one ti24_LvH rfl rfl rfl rfl ?_ | refine awl_load_ione ti24_LvH rfl rfl rfl ?_
      refine awl_guard_yes rfl (by first | exact h2 | exact decide_eq_true h2 | exact decide_eq_false h2) rfl rfl ?_
      first | refine awl_fieldAddr fi39_2_LvH rfl rfl ?_ | refine awl_fieldAddr_i fi39_2_LvH rfl rfl rfl ?_
      refine awl_guard_yes rfl (by first | exact h2 | exact decide_eq_true h2 | exact decide_eq_false h2) rfl rfl ?_
      first | refine awl_load_one ti24_LvH rfl rfl rfl rfl ?_ | refine awl_load_ione ti24_LvH rfl rfl rfl ?_
      refine awl_guard_yes rfl (by first | exact h2 | exact decide_eq_true h2 | exact decide_eq_false h2) rfl rfl ?_
      refine awl_pcall fb58_LvH rfl (EqF_con a.args b.args ih) (.cons (by first | exact Sub.refl _ | exact Sub.ts | exact Sub.nil | exact Sub.agc (by repeat (first | exact .nil | refine .cons (by first | exact Sub.refl _ | exact Sub.nil) ?_))) (.cons (by first | exact Sub.refl _ | exact Sub.ts | exact Sub.nil | exact Sub.agc (by repeat (first | exact .nil | refine .cons (by first | exact Sub.refl _ | exact Sub.nil) ?_))) (.cons (by first | exact Sub.refl _ | exact Sub.ts | exact Sub.nil | exact Sub.agc (by repeat (first | exact .nil | refine .cons (by first | exact Sub.refl _ | exact Sub.nil) ?_))) .nil))) rfl ?_
      refine awl_pick_t (by first | exact h2 | exact decide_eq_true h2 | exact decide_eq_false h2) rfl rfl rfl ?_
      refine awl_assign rfl rfl ?_
      refine awl_nil ?_
      change AWp _ _ _ _ _ _
      refine awp_ret ?_
      change Ends _ _ _ _ _ _
      refine ends1 [] rfl (.tmp rfl) ?_ rfl
      refine ⟨B_eq ?_, rfl⟩; rw [he]; simp [h1, h2]
    · skip
      refine awl_guard_no rfl (by first | exact h2 | exact decide_eq_true h2 | exact decide_eq_false h2) rfl rfl rfl rfl ?_
      refine awl_guard_no rfl (by first | exact h2 | exact decide_eq_true h2 | exact decide_eq_false h2) rfl rfl rfl rfl ?_
      refine awl_guard_no rfl (by first | exact h2 | exact decide_eq_true h2 | exact decide_eq_false h2) rfl rfl rfl rfl ?_
      refine awl_guard_no rfl (by first | exact h2 | exact decide_eq_true h2 | exact decide_eq_false h2) rfl rfl rfl rfl ?_
      refine awl_guard_no rfl (by first | exact h2 | exact decide_eq_true h2 | exact decide_eq_false h2) rfl rfl rfl rfl ?_
      refine awl_pick_f (by first | exact h2 | exact decide_eq_true h2 | exact decide_eq_false h2) rfl rfl rfl ?_
      refine awl_assign rfl rfl ?_
      refine awl_nil ?_
      change AWp _ _ _ _ _ _
      refine awp_ret ?_
      change Ends _ _ _ _ _ _
      refine ends1 [] rfl (.tmp rfl) ?_ rfl
      refine ⟨B_eq ?_, rfl⟩; rw [he]; simp [h1, h2]
  · skip
    refine awl_guard_no rfl (by first | exact h1 | exact decide_eq_true h1 | exact decide_eq_false h1) rfl rfl rfl rfl ?_
    refine awl_guard_no rfl (by first | exact h1 | exact decide_eq_true h1 | exact decide_eq_false h1) rfl rfl rfl rfl ?_
    refine awl_guard_no rfl (by first | exact h1 | exact decide_eq_true h1 | exact decide_eq_false h1) rfl rfl rfl rfl ?_
    refine awl_guard_no rfl (by first | exact h1 | exact decide_eq_true h1 | exact decide_eq_false h1) rfl rfl rfl rfl ?_
    refine awl_guard_no rfl (by first | exact h1 | exact decide_eq_true h1 | exact decide_eq_false h1) rfl rfl rfl rfl ?_
    refine awl_pick_f (by first | exact h1 | exact decide_eq_true h1 | exact decide_eq_false h1) rfl rfl rfl ?_
    refine awl_move rfl rfl ?_
    refine awl_guard_no rfl rfl rfl rfl rfl rfl ?_
    refine awl_guard_no rfl rfl rfl rfl rfl rfl ?_
    refine awl_guard_no rfl rfl rfl rfl rfl rfl ?_
    refine awl_guard_no rfl rfl rfl rfl rfl rfl ?_
    refine awl_guard_no rfl rfl rfl rfl rfl rfl ?_
    refine awl_pick_f rfl rfl rfl rfl ?_
    refine awl_assign rfl rfl ?_
    refine awl_nil ?_
    change AWp _ _ _ _ _ _
    refine awp_ret ?_
    change Ends _ _ _ _ _ _
    refine ends1 [] rfl (.tmp rfl) ?_ rfl
    refine ⟨B_eq ?_, rfl⟩; rw [he]; simp [h1]
termination_by SizeOf.sizeOf a
decreasing_by exact Lvl.lt hc

theorem begun4_con : PCon Try.prog 23 [] (.p (B true)) := by
  have e1 : lightB ⟨4, 0, []⟩ (min (max 1 0) 4) = true := by decide
  have c1 := May_con ⟨4, 0, []⟩ 1
  rw [e1] at c1
  have c2 := Succ_con ⟨4, 0, []⟩ (by decide)
  have e3 : evalF [4] ⟨1, 0, [⟨4, 0, []⟩]⟩ = 5 := by decide
  have w1 : wfL ⟨1, 0, [⟨4, 0, []⟩]⟩ 4 = true := by simp [wfL, wfLs, hereL, argsOf]
  have w2 : wfL ⟨4, 0, []⟩ 4 = true := by simp [wfL, wfLs, hereL, argsOf]
  have w3 : wfL ⟨3, 0, [⟨4, 0, []⟩, ⟨0, 0, []⟩]⟩ 4 = true := by simp [wfL, wfLs, hereL, argsOf]
  have w4 : wfL ⟨0, 0, []⟩ 4 = true := by simp [wfL, wfLs, hereL, argsOf]
  have d1 : deepL ⟨1, 0, [⟨4, 0, []⟩]⟩ ≤ 1000000 := by decide
  have d2 : deepL ⟨4, 0, []⟩ ≤ 1000000 := by decide
  have d3 : deepL ⟨3, 0, [⟨4, 0, []⟩, ⟨0, 0, []⟩]⟩ ≤ 1000000 := by decide
  have d4 : deepL ⟨0, 0, []⟩ ≤ 1000000 := by decide
  have c3 := Eval_con [4] 4 ⟨1, 0, [⟨4, 0, []⟩]⟩ w1 (by omega)
  rw [e3] at c3
  have c4 := Imax_con ⟨4, 0, []⟩ ⟨0, 0, []⟩ (by decide) (by decide)
  have e5 : (leqF ⟨3, 0, [⟨4, 0, []⟩, ⟨0, 0, []⟩]⟩ ⟨0, 0, []⟩ && leqF ⟨0, 0, []⟩ ⟨3, 0, [⟨4, 0, []⟩, ⟨0, 0, []⟩]⟩) = true := by decide
  have c5 := Same_con ⟨3, 0, [⟨4, 0, []⟩, ⟨0, 0, []⟩]⟩ ⟨0, 0, []⟩ w3 w4 d3 d4
  rw [e5] at c5
  have e6 : leqF ⟨1, 0, [⟨4, 0, []⟩]⟩ ⟨4, 0, []⟩ = false := by decide
  have c6 := Leq_con ⟨1, 0, [⟨4, 0, []⟩]⟩ ⟨4, 0, []⟩ w1 w2 d1 d2
  rw [e6] at c6
  have e7 : decide (evalF [] ⟨1, 0, [⟨4, 0, []⟩]⟩ > 0) = true := by simp [evalF, evalFs, evK]
  have c7 := Never_con ⟨1, 0, [⟨4, 0, []⟩]⟩ w1 d1
  rw [e7] at c7
  have c8 := Put_con [⟨0, 0, []⟩] (fun b hb => by simp at hb; subst hb; decide) ⟨4, 0, []⟩ (by decide)
  have e8 : putF [⟨0, 0, []⟩] ⟨4, 0, []⟩ = ⟨0, 0, []⟩ := by simp [putF]
  rw [e8] at c8
  have c9 := Equal_con ⟨0, 0, []⟩ ⟨0, 0, []⟩
  rw [eqL_self] at c9
  refine con_of Try.func23 rfl 41 Try.ntmps23 rfl fun cx hcx => ?_
  refine awp_seq ?_
  refine awp_region ?_
  refine awl_assign rfl rfl ?_
  refine awl_nil ?_
  change AWp _ _ _ _ _ _
  refine awp_seq ?_
  refine awp_region ?_
  refine awl_pcall fb48_LvH rfl (Param_con 0) (.cons (by first | exact Sub.refl _ | exact Sub.ts | exact Sub.nil | exact Sub.agc (by repeat (first | exact .nil | refine .cons (by first | exact Sub.refl _ | exact Sub.nil) ?_))) .nil) rfl ?_
  refine awl_pcall fb49_LvH rfl (Zero_con) .nil rfl ?_
  refine x_alloc tz39_LvH rfl rfl (by rw [hcx]; rfl) rfl ?_
  refine x_alloc tz39_LvH rfl rfl (by rw [hcx]; rfl) rfl ?_
  refine x_store ti39_LvH rfl rfl rfl rfl rfl rfl rfl rfl ?_
  refine x_store ti39_LvH rfl rfl rfl rfl rfl rfl rfl rfl ?_
  refine awl_nil ?_
  change AWp _ _ _ _ _ _
  refine awp_seq ?_
  refine awp_draw0 hmo_LvH (by kernel_rfl) ?_
  refine awd_q [(1, _)] (.cons rfl (.nil)) rfl rfl rfl ?_
  apply Exists.intro
  refine ⟨fun regs' => ?_, ?_⟩
  · skip
    first | refine awl_load_row ti39_LvH rfl rfl rfl rfl ?_ | refine x_irow ti39_LvH rfl rfl rfl rfl ?_
    exact awl_done rfl
  refine awd_q [(5, _)] (.cons rfl (.nil)) rfl rfl rfl ?_
  apply Exists.intro
  refine ⟨fun regs' => ?_, ?_⟩
  · skip
    refine awl_pcall fb24_LvH rfl (c1) (.cons (by first | exact Sub.refl _ | exact Sub.ts | exact Sub.nil | exact Sub.agc (by repeat (first | exact .nil | refine .cons (by first | exact Sub.refl _ | exact Sub.nil) ?_))) (.cons (by first | exact Sub.refl _ | exact Sub.ts | exact Sub.nil | exact Sub.agc (by repeat (first | exact .nil | refine .cons (by first | exact Sub.refl _ | exact Sub.nil) ?_))) .nil)) rfl ?_
    exact awl_done rfl
  refine awd_q [(6, _)] (.cons rfl (.nil)) rfl rfl rfl ?_
  apply Exists.intro
  refine ⟨fun regs' => ?_, ?_⟩
  · skip
    refine awl_move rfl rfl ?_
    exact awl_done rfl
  refine awd_q [(1, _), (7, _)] (.cons rfl (.cons rfl (.nil))) rfl rfl rfl ?_
  apply Exists.intro
  refine ⟨fun regs' => ?_, ?_⟩
  · skip
    refine awl_guard_yes rfl (by first | exact rfl | exact decide_eq_true rfl | exact decide_eq_false rfl) rfl rfl ?_
    first | refine awl_load_row ti39_LvH rfl rfl rfl rfl ?_ | refine x_irow ti39_LvH rfl rfl rfl rfl ?_
    exact awl_done rfl
  refine awd_q [(8, _), (7, _)] (.cons rfl (.cons rfl (.nil))) rfl rfl rfl ?_
  apply Exists.intro
  refine ⟨fun regs' => ?_, ?_⟩
  · skip
    refine awl_guard_yes rfl (by first | exact rfl | exact decide_eq_true rfl | exact decide_eq_false rfl) rfl rfl ?_
    refine awl_pcall fb41_LvH rfl (c2) (.cons (by first | exact Sub.refl _ | exact Sub.ts | exact Sub.nil | exact Sub.agc (by repeat (first | exact .nil | refine .cons (by first | exact Sub.refl _ | exact Sub.nil) ?_))) .nil) rfl ?_
    exact awl_done rfl
  refine awd_q [(7, _)] (.cons rfl (.nil)) rfl rfl rfl ?_
  apply Exists.intro
  refine ⟨fun regs' => ?_, ?_⟩
  · skip
    refine awl_guard_yes rfl (by first | exact rfl | exact decide_eq_true rfl | exact decide_eq_false rfl) rfl rfl ?_
    refine x_slice si41_LvH ei3_LvH rfl rfl rfl rfl ?_
    exact awl_done rfl
  refine awd_q [(9, _), (10, _), (7, _)] (.cons rfl (.cons rfl (.cons rfl (.nil)))) rfl rfl rfl ?_
  apply Exists.intro
  refine ⟨fun regs' => ?_, ?_⟩
  · skip
    refine awl_guard_yes rfl (by first | exact rfl | exact decide_eq_true rfl | exact decide_eq_false rfl) rfl rfl ?_
    refine awl_pcall fb27_LvH rfl (c3) (.cons (by first | exact Sub.refl _ | exact Sub.ts | exact Sub.nil | exact Sub.agc (by repeat (first | exact .nil | refine .cons (by first | exact Sub.refl _ | exact Sub.nil) ?_))) (.cons (by first | exact Sub.refl _ | exact Sub.ts | exact Sub.nil | exact Sub.agc (by repeat (first | exact .nil | refine .cons (by first | exact Sub.refl _ | exact Sub.nil) ?_))) .nil)) rfl ?_
    exact awl_done rfl
  refine awd_q [(11, _), (7, _)] (.cons rfl (.cons rfl (.nil))) rfl rfl rfl ?_
  apply Exists.intro
  refine ⟨fun regs' => ?_, ?_⟩
  · skip
    refine awl_guard_yes rfl (by first | exact rfl | exact decide_eq_true rfl | exact decide_eq_false rfl) rfl rfl ?_
    refine awl_bin rfl rfl rfl rfl bin_eql ?_
    exact awl_done rfl
  refine awd_q [(7, _), (12, _)] (.cons rfl (.cons rfl (.nil))) rfl rfl rfl ?_
  apply Exists.intro
  refine ⟨fun regs' => ?_, ?_⟩
  · skip
    refine awl_pick_t (by first | exact rfl | exact decide_eq_true rfl | exact decide_eq_false rfl) rfl rfl rfl ?_
    exact awl_done rfl
  refine awd_q [(13, _)] (.cons rfl (.nil)) rfl rfl rfl ?_
  apply Exists.intro
  refine ⟨fun regs' => ?_, ?_⟩
  · skip
    refine awl_move rfl rfl ?_
    exact awl_done rfl
  refine awd_q [(1, _), (14, _)] (.cons rfl (.cons rfl (.nil))) rfl rfl rfl ?_
  apply Exists.intro
  refine ⟨fun regs' => ?_, ?_⟩
  · skip
    refine awl_guard_yes rfl (by first | exact rfl | exact decide_eq_true rfl | exact decide_eq_false rfl) rfl rfl ?_
    first | refine awl_load_row ti39_LvH rfl rfl rfl rfl ?_ | refine x_irow ti39_LvH rfl rfl rfl rfl ?_
    exact awl_done rfl
  refine awd_q [(2, _), (14, _)] (.cons rfl (.cons rfl (.nil))) rfl rfl rfl ?_
  apply Exists.intro
  refine ⟨fun regs' => ?_, ?_⟩
  · skip
    refine awl_guard_yes rfl (by first | exact rfl | exact decide_eq_true rfl | exact decide_eq_false rfl) rfl rfl ?_
    first | refine awl_load_row ti39_LvH rfl rfl rfl rfl ?_ | refine x_irow ti39_LvH rfl rfl rfl rfl ?_
    exact awl_done rfl
  refine awd_q [(15, _), (16, _), (14, _)] (.cons rfl (.cons rfl (.cons rfl (.nil)))) rfl rfl rfl ?_
  apply Exists.intro
  refine ⟨fun regs' => ?_, ?_⟩
  · skip
    refine awl_guard_yes rfl (by first | exact rfl | exact decide_eq_true rfl | exact decide_eq_false rfl) rfl rfl ?_
    refine awl_pcall fb40_LvH rfl (c4) (.cons (by first | exact Sub.refl _ | exact Sub.ts | exact Sub.nil | exact Sub.agc (by repeat (first | exact .nil | refine .cons (by first | exact Sub.refl _ | exact Sub.nil) ?_))) (.cons (by first | exact Sub.refl _ | exact Sub.ts | exact Sub.nil | exact Sub.agc (by repeat (first | exact .nil | refine .cons (by first | exact Sub.refl _ | exact Sub.nil) ?_))) .nil)) rfl ?_
    exact awl_done rfl
  refine awd_q [(2, _), (14, _)] (.cons rfl (.cons rfl (.nil))) rfl rfl rfl ?_
  apply Exists.intro
  refine ⟨fun regs' => ?_, ?_⟩
  · skip
    refine awl_guard_yes rfl (by first | exact rfl | exact decide_eq_true rfl | exact decide_eq_false rfl) rfl rfl ?_
    first | refine awl_load_row ti39_LvH rfl rfl rfl rfl ?_ | refine x_irow ti39_LvH rfl rfl rfl rfl ?_
    exact awl_done rfl
  refine awd_q [(17, _), (18, _), (14, _)] (.cons rfl (.cons rfl (.cons rfl (.nil)))) rfl rfl rfl ?_
  apply Exists.intro
  refine ⟨fun regs' => ?_, ?_⟩
  · skip
    refine awl_guard_yes rfl (by first | exact rfl | exact decide_eq_true rfl | exact decide_eq_false rfl) rfl rfl ?_
    refine awl_pcall fb33_LvH rfl (c5) (.cons (by first | exact Sub.refl _ | exact Sub.ts | exact Sub.nil | exact Sub.agc (by repeat (first | exact .nil | refine .cons (by first | exact Sub.refl _ | exact Sub.nil) ?_))) (.cons (by first | exact Sub.refl _ | exact Sub.ts | exact Sub.nil | exact Sub.agc (by repeat (first | exact .nil | refine .cons (by first | exact Sub.refl _ | exact Sub.nil) ?_))) .nil)) rfl ?_
    exact awl_done rfl
  refine awd_q [(14, _), (19, _)] (.cons rfl (.cons rfl (.nil))) rfl rfl rfl ?_
  apply Exists.intro
  refine ⟨fun regs' => ?_, ?_⟩
  · skip
    refine awl_pick_t (by first | exact rfl | exact decide_eq_true rfl | exact decide_eq_false rfl) rfl rfl rfl ?_
    exact awl_done rfl
  refine awd_q [(20, _)] (.cons rfl (.nil)) rfl rfl rfl ?_
  apply Exists.intro
  refine ⟨fun regs' => ?_, ?_⟩
  · skip
    refine awl_move rfl rfl ?_
    exact awl_done rfl
  refine awd_q [(1, _), (21, _)] (.cons rfl (.cons rfl (.nil))) rfl rfl rfl ?_
  apply Exists.intro
  refine ⟨fun regs' => ?_, ?_⟩
  · skip
    refine awl_guard_yes rfl (by first | exact rfl | exact decide_eq_true rfl | exact decide_eq_false rfl) rfl rfl ?_
    first | refine awl_load_row ti39_LvH rfl rfl rfl rfl ?_ | refine x_irow ti39_LvH rfl rfl rfl rfl ?_
    exact awl_done rfl
  refine awd_q [(22, _), (21, _)] (.cons rfl (.cons rfl (.nil))) rfl rfl rfl ?_
  apply Exists.intro
  refine ⟨fun regs' => ?_, ?_⟩
  · skip
    refine awl_guard_yes rfl (by first | exact rfl | exact decide_eq_true rfl | exact decide_eq_false rfl) rfl rfl ?_
    refine awl_pcall fb41_LvH rfl (c2) (.cons (by first | exact Sub.refl _ | exact Sub.ts | exact Sub.nil | exact Sub.agc (by repeat (first | exact .nil | refine .cons (by first | exact Sub.refl _ | exact Sub.nil) ?_))) .nil) rfl ?_
    exact awl_done rfl
  refine awd_q [(1, _), (21, _)] (.cons rfl (.cons rfl (.nil))) rfl rfl rfl ?_
  apply Exists.intro
  refine ⟨fun regs' => ?_, ?_⟩
  · skip
    refine awl_guard_yes rfl (by first | exact rfl | exact decide_eq_true rfl | exact decide_eq_false rfl) rfl rfl ?_
    first | refine awl_load_row ti39_LvH rfl rfl rfl rfl ?_ | refine x_irow ti39_LvH rfl rfl rfl rfl ?_
    exact awl_done rfl
  refine awd_q [(23, _), (24, _), (21, _)] (.cons rfl (.cons rfl (.cons rfl (.nil)))) rfl rfl rfl ?_
  apply Exists.intro
  refine ⟨fun regs' => ?_, ?_⟩
  · skip
    refine awl_guard_yes rfl (by first | exact rfl | exact decide_eq_true rfl | exact decide_eq_false rfl) rfl rfl ?_
    refine awl_pcall fb31_LvH rfl (c6) (.cons (by first | exact Sub.refl _ | exact Sub.ts | exact Sub.nil | exact Sub.agc (by repeat (first | exact .nil | refine .cons (by first | exact Sub.refl _ | exact Sub.nil) ?_))) (.cons (by first | exact Sub.refl _ | exact Sub.ts | exact Sub.nil | exact Sub.agc (by repeat (first | exact .nil | refine .cons (by first | exact Sub.refl _ | exact Sub.nil) ?_))) .nil)) rfl ?_
    exact awl_done rfl
  refine awd_q [(25, _), (21, _)] (.cons rfl (.cons rfl (.nil))) rfl rfl rfl ?_
  apply Exists.intro
  refine ⟨fun regs' => ?_, ?_⟩
  · skip
    refine awl_guard_yes rfl (by first | exact rfl | exact decide_eq_true rfl | exact decide_eq_false rfl) rfl rfl ?_
    first | refine awl_un rfl rfl rfl un_notd ?_ | refine awl_un rfl rfl rfl un_not ?_
    exact awl_done rfl
  refine awd_q [(21, _), (26, _)] (.cons rfl (.cons rfl (.nil))) rfl rfl rfl ?_
  apply Exists.intro
  refine ⟨fun regs' => ?_, ?_⟩
  · skip
    refine awl_pick_t (by first | exact rfl | exact decide_eq_true rfl | exact decide_eq_false rfl) rfl rfl rfl ?_
    exact awl_done rfl
  refine awd_q [(27, _)] (.cons rfl (.nil)) rfl rfl rfl ?_
  apply Exists.intro
  refine ⟨fun regs' => ?_, ?_⟩
  · skip
    refine awl_move rfl rfl ?_
    exact awl_done rfl
  refine awd_q [(1, _), (28, _)] (.cons rfl (.cons rfl (.nil))) rfl rfl rfl ?_
  apply Exists.intro
  refine ⟨fun regs' => ?_, ?_⟩
  · skip
    refine awl_guard_yes rfl (by first | exact rfl | exact decide_eq_true rfl | exact decide_eq_false rfl) rfl rfl ?_
    first | refine awl_load_row ti39_LvH rfl rfl rfl rfl ?_ | refine x_irow ti39_LvH rfl rfl rfl rfl ?_
    exact awl_done rfl
  refine awd_q [(29, _), (28, _)] (.cons rfl (.cons rfl (.nil))) rfl rfl rfl ?_
  apply Exists.intro
  refine ⟨fun regs' => ?_, ?_⟩
  · skip
    refine awl_guard_yes rfl (by first | exact rfl | exact decide_eq_true rfl | exact decide_eq_false rfl) rfl rfl ?_
    refine awl_pcall fb41_LvH rfl (c2) (.cons (by first | exact Sub.refl _ | exact Sub.ts | exact Sub.nil | exact Sub.agc (by repeat (first | exact .nil | refine .cons (by first | exact Sub.refl _ | exact Sub.nil) ?_))) .nil) rfl ?_
    exact awl_done rfl
  refine awd_q [(30, _), (28, _)] (.cons rfl (.cons rfl (.nil))) rfl rfl rfl ?_
  apply Exists.intro
  refine ⟨fun regs' => ?_, ?_⟩
  · skip
    refine awl_guard_yes rfl (by first | exact rfl | exact decide_eq_true rfl | exact decide_eq_false rfl) rfl rfl ?_
    refine awl_pcall fb35_LvH rfl (c7) (.cons (by first | exact Sub.refl _ | exact Sub.ts | exact Sub.nil | exact Sub.agc (by repeat (first | exact .nil | refine .cons (by first | exact Sub.refl _ | exact Sub.nil) ?_))) .nil) rfl ?_
    exact awl_done rfl
  refine awd_q [(28, _), (31, _)] (.cons rfl (.cons rfl (.nil))) rfl rfl rfl ?_
  apply Exists.intro
  refine ⟨fun regs' => ?_, ?_⟩
  · skip
    refine awl_pick_t (by first | exact rfl | exact decide_eq_true rfl | exact decide_eq_false rfl) rfl rfl rfl ?_
    exact awl_done rfl
  refine awd_q [(32, _)] (.cons rfl (.nil)) rfl rfl rfl ?_
  apply Exists.intro
  refine ⟨fun regs' => ?_, ?_⟩
  · skip
    refine awl_move rfl rfl ?_
    exact awl_done rfl
  refine awd_q [(1, _), (33, _)] (.cons rfl (.cons rfl (.nil))) rfl rfl rfl ?_
  apply Exists.intro
  refine ⟨fun regs' => ?_, ?_⟩
  · skip
    refine awl_guard_yes rfl (by first | exact rfl | exact decide_eq_true rfl | exact decide_eq_false rfl) rfl rfl ?_
    first | refine awl_load_row ti39_LvH rfl rfl rfl rfl ?_ | refine x_irow ti39_LvH rfl rfl rfl rfl ?_
    exact awl_done rfl
  refine awd_q [(2, _), (33, _)] (.cons rfl (.cons rfl (.nil))) rfl rfl rfl ?_
  apply Exists.intro
  refine ⟨fun regs' => ?_, ?_⟩
  · skip
    refine awl_guard_yes rfl (by first | exact rfl | exact decide_eq_true rfl | exact decide_eq_false rfl) rfl rfl ?_
    first | refine awl_load_row ti39_LvH rfl rfl rfl rfl ?_ | refine x_irow ti39_LvH rfl rfl rfl rfl ?_
    exact awl_done rfl
  refine awd_q [(35, _), (33, _)] (.cons rfl (.cons rfl (.nil))) rfl rfl rfl ?_
  apply Exists.intro
  refine ⟨fun regs' => ?_, ?_⟩
  · skip
    refine awl_guard_yes rfl (by first | exact rfl | exact decide_eq_true rfl | exact decide_eq_false rfl) rfl rfl ?_
    refine x_slice si24_LvH ei39_LvH rfl rfl rfl rfl ?_
    refine awl_sub (y := .p (.sl 3 (encLs [⟨0, 0, []⟩]))) (Sub.eq (by rw [← encLs_one])) ?_
    exact awl_done rfl
  refine awd_q [(34, _), (36, _), (33, _)] (.cons rfl (.cons rfl (.cons rfl (.nil)))) rfl rfl rfl ?_
  apply Exists.intro
  refine ⟨fun regs' => ?_, ?_⟩
  · skip
    refine awl_guard_yes rfl (by first | exact rfl | exact decide_eq_true rfl | exact decide_eq_false rfl) rfl rfl ?_
    refine awl_pcall fb42_LvH rfl (c8) (.cons (by first | exact Sub.refl _ | exact Sub.ts | exact Sub.nil | exact Sub.agc (by repeat (first | exact .nil | refine .cons (by first | exact Sub.refl _ | exact Sub.nil) ?_))) (.cons (by first | exact Sub.refl _ | exact Sub.ts | exact Sub.nil | exact Sub.agc (by repeat (first | exact .nil | refine .cons (by first | exact Sub.refl _ | exact Sub.nil) ?_))) .nil)) rfl ?_
    exact awl_done rfl
  refine awd_q [(2, _), (33, _)] (.cons rfl (.cons rfl (.nil))) rfl rfl rfl ?_
  apply Exists.intro
  refine ⟨fun regs' => ?_, ?_⟩
  · skip
    refine awl_guard_yes rfl (by first | exact rfl | exact decide_eq_true rfl | exact decide_eq_false rfl) rfl rfl ?_
    first | refine awl_load_row ti39_LvH rfl rfl rfl rfl ?_ | refine x_irow ti39_LvH rfl rfl rfl rfl ?_
    exact awl_done rfl
  refine awd_q [(37, _), (38, _), (33, _)] (.cons rfl (.cons rfl (.cons rfl (.nil)))) rfl rfl rfl ?_
  apply Exists.intro
  refine ⟨fun regs' => ?_, ?_⟩
  · skip
    refine awl_guard_yes rfl (by first | exact rfl | exact decide_eq_true rfl | exact decide_eq_false rfl) rfl rfl ?_
    refine awl_pcall fb37_LvH rfl (c9) (.cons (by first | exact Sub.refl _ | exact Sub.ts | exact Sub.nil | exact Sub.agc (by repeat (first | exact .nil | refine .cons (by first | exact Sub.refl _ | exact Sub.nil) ?_))) (.cons (by first | exact Sub.refl _ | exact Sub.ts | exact Sub.nil | exact Sub.agc (by repeat (first | exact .nil | refine .cons (by first | exact Sub.refl _ | exact Sub.nil) ?_))) .nil)) rfl ?_
    exact awl_done rfl
  refine awd_q [(33, _), (39, _)] (.cons rfl (.cons rfl (.nil))) rfl rfl rfl ?_
  apply Exists.intro
  refine ⟨fun regs' => ?_, ?_⟩
  · skip
    refine awl_pick_t (by first | exact rfl | exact decide_eq_true rfl | exact decide_eq_false rfl) rfl rfl rfl ?_
    exact awl_done rfl
  refine awd_q [(40, _)] (.cons rfl (.nil)) rfl rfl rfl ?_
  apply Exists.intro
  refine ⟨fun regs' => ?_, ?_⟩
  · skip
    refine awl_assign rfl rfl ?_
    exact awl_done rfl
  refine awd_nil ?_
  change AWp _ _ _ _ _ _
  refine awp_ret ?_
  change Ends _ _ _ _ _ _
  refine ends1 [] rfl (.tmp rfl) ?_ rfl
  exact ⟨rfl, rfl⟩

theorem LevelMay_con (t : Lvl) (ps : Int) : PCon Try.prog 5 [lv t, .p (I ps)] (.p (B true)) := by
  refine con_of Try.func5 rfl 15 Try.ntmps5 rfl fun cx hcx => ?_
  refine awp_seq ?_
  refine awp_region ?_
  refine awl_box rfl rfl rfl rfl rfl (by rw [hcx]; rfl) rfl ?_
  refine awl_assign rfl rfl ?_
  refine awl_nil ?_
  change AWp _ _ _ _ _ _
  refine awp_seq ?_
  refine awp_draw0 hmo_LvH (by kernel_rfl) ?_
  refine awd_q [] (.nil) rfl rfl rfl ?_
  apply Exists.intro
  refine ⟨fun regs' => ?_, ?_⟩
  · skip
    refine awl_pcall fb23_LvH rfl (begun4_con) .nil rfl ?_
    exact awl_done rfl
  refine awd_q [(5, _)] (.cons rfl (.nil)) rfl rfl rfl ?_
  apply Exists.intro
  refine ⟨fun regs' => ?_, ?_⟩
  · skip
    refine awl_move rfl rfl ?_
    exact awl_done rfl
  refine awd_q [(2, _), (6, _)] (.cons rfl (.cons rfl (.nil))) rfl rfl rfl ?_
  apply Exists.intro
  refine ⟨fun regs' => ?_, ?_⟩
  · skip
    refine awl_guard_yes rfl (by first | exact rfl | exact decide_eq_true rfl | exact decide_eq_false rfl) rfl rfl ?_
    first | refine awl_load_row ti39_LvH rfl rfl rfl rfl ?_ | refine x_irow ti39_LvH rfl rfl rfl rfl ?_
    exact awl_done rfl
  refine awd_q [(1, _), (6, _)] (.cons rfl (.cons rfl (.nil))) rfl rfl rfl ?_
  apply Exists.intro
  refine ⟨fun regs' => ?_, ?_⟩
  · skip
    refine awl_guard_yes rfl (by first | exact rfl | exact decide_eq_true rfl | exact decide_eq_false rfl) rfl rfl ?_
    refine awl_move rfl rfl ?_
    exact awl_done rfl
  refine awd_q [(7, _), (8, _), (6, _)] (.cons rfl (.cons rfl (.cons rfl (.nil)))) rfl rfl rfl ?_
  apply Exists.intro
  refine ⟨fun regs' => ?_, ?_⟩
  · skip
    refine awl_guard_yes rfl (by first | exact rfl | exact decide_eq_true rfl | exact decide_eq_false rfl) rfl rfl ?_
    refine awl_pcall fb24_LvH rfl (May_con t ps) (.cons (by first | exact Sub.refl _ | exact Sub.ts | exact Sub.nil | exact Sub.agc (by repeat (first | exact .nil | refine .cons (by first | exact Sub.refl _ | exact Sub.nil) ?_))) (.cons (by first | exact Sub.refl _ | exact Sub.ts | exact Sub.nil | exact Sub.agc (by repeat (first | exact .nil | refine .cons (by first | exact Sub.refl _ | exact Sub.nil) ?_))) .nil)) rfl ?_
    exact awl_done rfl
  refine awd_q [(2, _), (6, _)] (.cons rfl (.cons rfl (.nil))) rfl rfl rfl ?_
  apply Exists.intro
  refine ⟨fun regs' => ?_, ?_⟩
  · skip
    refine awl_guard_yes rfl (by first | exact rfl | exact decide_eq_true rfl | exact decide_eq_false rfl) rfl rfl ?_
    first | refine awl_load_row ti39_LvH rfl rfl rfl rfl ?_ | refine x_irow ti39_LvH rfl rfl rfl rfl ?_
    exact awl_done rfl
  refine awd_q [(1, _), (6, _)] (.cons rfl (.cons rfl (.nil))) rfl rfl rfl ?_
  apply Exists.intro
  refine ⟨fun regs' => ?_, ?_⟩
  · skip
    refine awl_guard_yes rfl (by first | exact rfl | exact decide_eq_true rfl | exact decide_eq_false rfl) rfl rfl ?_
    refine awl_move rfl rfl ?_
    exact awl_done rfl
  refine awd_q [(10, _), (11, _), (6, _)] (.cons rfl (.cons rfl (.cons rfl (.nil)))) rfl rfl rfl ?_
  apply Exists.intro
  refine ⟨fun regs' => ?_, ?_⟩
  · skip
    refine awl_guard_yes rfl (by first | exact rfl | exact decide_eq_true rfl | exact decide_eq_false rfl) rfl rfl ?_
    refine awl_pcall fb25_LvH rfl (rMay_con t ps) (.cons (by first | exact Sub.refl _ | exact Sub.ts | exact Sub.nil | exact Sub.agc (by repeat (first | exact .nil | refine .cons (by first | exact Sub.refl _ | exact Sub.nil) ?_))) (.cons (by first | exact Sub.refl _ | exact Sub.ts | exact Sub.nil | exact Sub.agc (by repeat (first | exact .nil | refine .cons (by first | exact Sub.refl _ | exact Sub.nil) ?_))) .nil)) rfl ?_
    exact awl_done rfl
  refine awd_q [(9, _), (12, _), (6, _)] (.cons rfl (.cons rfl (.cons rfl (.nil)))) rfl rfl rfl ?_
  apply Exists.intro
  refine ⟨fun regs' => ?_, ?_⟩
  · skip
    refine awl_guard_yes rfl (by first | exact rfl | exact decide_eq_true rfl | exact decide_eq_false rfl) rfl rfl ?_
    refine awl_bin rfl rfl rfl rfl (bool_eql Try.underlying4) ?_
    exact awl_done rfl
  refine awd_q [(6, _), (13, _)] (.cons rfl (.cons rfl (.nil))) rfl rfl rfl ?_
  apply Exists.intro
  refine ⟨fun regs' => ?_, ?_⟩
  · skip
    refine awl_pick_t (by first | exact rfl | exact decide_eq_true rfl | exact decide_eq_false rfl) rfl rfl rfl ?_
    exact awl_done rfl
  refine awd_q [(14, _)] (.cons rfl (.nil)) rfl rfl rfl ?_
  apply Exists.intro
  refine ⟨fun regs' => ?_, ?_⟩
  · skip
    refine awl_assign rfl rfl ?_
    exact awl_done rfl
  refine awd_nil ?_
  change AWp _ _ _ _ _ _
  refine awp_ret ?_
  change Ends _ _ _ _ _ _
  refine ends1 [] rfl (.tmp rfl) ?_ rfl
  exact ⟨B_eq (by simp), rfl⟩

theorem LevelEval_con (t : Lvl) (at_ : List Int) : PCon Try.prog 6 [lv t, .p (.sl 1 (ints at_))] (.p (B true)) := by
  refine con_of Try.func6 rfl 23 Try.ntmps6 rfl fun cx hcx => ?_
  refine awp_seq ?_
  refine awp_region ?_
  refine awl_box rfl rfl rfl rfl rfl (by rw [hcx]; rfl) rfl ?_
  refine awl_assign rfl rfl ?_
  refine awl_nil ?_
  change AWp _ _ _ _ _ _
  refine awp_seq ?_
  refine awp_seq ?_
  refine awp_region ?_
  refine awl_pcall fb23_LvH rfl (begun4_con) .nil rfl ?_
  first | refine awl_un rfl rfl rfl un_notd ?_ | refine awl_un rfl rfl rfl un_not ?_
  refine awl_nil ?_
  change AWp _ _ _ _ _ _
  refine awp_cond_f (by first | exact rfl | exact decide_eq_true rfl | exact decide_eq_false rfl) rfl ?_
  refine awp_skip ?_
  change AWp _ _ _ _ _ _
  refine awp_seq ?_
  refine awp_seq ?_
  refine awp_region ?_
  first | refine awl_load_row ti39_LvH rfl rfl rfl rfl ?_ | refine x_irow ti39_LvH rfl rfl rfl rfl ?_
  refine x_slice si24_LvH ei39_LvH rfl rfl rfl rfl ?_
  refine awl_sub (y := .p (.sl 3 (encLs [t]))) (Sub.eq (by rw [← encLs_one])) ?_
  refine awl_pcall fb26_LvH rfl (Light_con [t]) (.cons (by first | exact Sub.refl _ | exact Sub.ts | exact Sub.nil | exact Sub.agc (by repeat (first | exact .nil | refine .cons (by first | exact Sub.refl _ | exact Sub.nil) ?_))) .nil) rfl ?_
  first | refine awl_un rfl rfl rfl un_notd ?_ | refine awl_un rfl rfl rfl un_not ?_
  refine awl_move rfl rfl ?_
  first | refine awl_split_p 11 rfl (fun hg => ?_) (fun hg => ?_) | refine awl_split 11 rfl (fun hg => ?_) (fun hg => ?_)
  · skip
    refine awl_guard_no rfl (by first | exact hg | exact decide_eq_true hg | exact decide_eq_false hg) rfl rfl rfl rfl ?_
    refine awl_guard_no rfl (by first | exact hg | exact decide_eq_true hg | exact decide_eq_false hg) rfl rfl rfl rfl ?_
    refine awl_guard_no rfl (by first | exact hg | exact decide_eq_true hg | exact decide_eq_false hg) rfl rfl rfl rfl ?_
    refine awl_pick_t (by first | exact hg | exact decide_eq_true hg | exact decide_eq_false hg) rfl rfl rfl ?_
    refine awl_nil ?_
    change AWp _ _ _ _ _ _
    refine awp_cond_t rfl rfl ?_
    refine awp_seq ?_
    refine awp_region ?_
    refine awl_assign rfl rfl ?_
    refine awl_nil ?_
    change AWp _ _ _ _ _ _
    refine awp_ret ?_
    change Ends _ _ _ _ _ _
    refine ends1 [] rfl (.tmp rfl) ?_ rfl
    exact ⟨rfl, rfl⟩
  · skip
    have hL : lightB t 4 = true := by simpa using hg
    have hL2 := of_decide_eq_true hL
    refine awl_guard_yes rfl (by first | exact hg | exact decide_eq_true hg | exact decide_eq_false hg) rfl rfl ?_
    refine awl_move rfl rfl ?_
    refine awl_guard_yes rfl (by first | exact hg | exact decide_eq_true hg | exact decide_eq_false hg) rfl rfl ?_
    refine x_len si41_LvH rfl rfl rfl (fun hlen19 => ?_)
    refine awl_guard_yes rfl (by first | exact hg | exact decide_eq_true hg | exact decide_eq_false hg) rfl rfl ?_
    refine awl_bin rfl rfl rfl rfl bin_gtr ?_
    refine awl_pick_f (by first | exact hg | exact decide_eq_true hg | exact decide_eq_false hg) rfl rfl rfl ?_
    refine awl_nil ?_
    change AWp _ _ _ _ _ _
    first | refine awp_cond_p rfl (fun hn => ?_) (fun hn => ?_) | refine awp_cond rfl (fun hn => ?_) (fun hn => ?_)
    · skip
      refine awp_seq ?_
      refine awp_region ?_
      refine awl_assign rfl rfl ?_
      refine awl_nil ?_
      change AWp _ _ _ _ _ _
      refine awp_ret ?_
      change Ends _ _ _ _ _ _
      refine ends1 [] rfl (.tmp rfl) ?_ rfl
      exact ⟨rfl, rfl⟩
    · skip
      refine awp_skip ?_
      change AWp _ _ _ _ _ _
      refine awp_seq ?_
      refine awp_draw0 hmo_LvH (by kernel_rfl) ?_
      refine awd_q [(2, _)] (.cons rfl (.nil)) rfl rfl rfl ?_
      apply Exists.intro
      refine ⟨fun regs' => ?_, ?_⟩
      · skip
        first | refine awl_load_row ti39_LvH rfl rfl rfl rfl ?_ | refine x_irow ti39_LvH rfl rfl rfl rfl ?_
        exact awl_done rfl
      refine awd_q [(1, _)] (.cons rfl (.nil)) rfl rfl rfl ?_
      apply Exists.intro
      refine ⟨fun regs' => ?_, ?_⟩
      · skip
        refine awl_move rfl rfl ?_
        exact awl_done rfl
      refine awd_q [(16, _), (17, _)] (.cons rfl (.cons rfl (.nil))) rfl rfl rfl ?_
      apply Exists.intro
      refine ⟨fun regs' => ?_, ?_⟩
      · skip
        refine awl_pcall fb27_LvH rfl (Eval_con at_ 4 t hL2.2.2 (by omega)) (.cons (by first | exact Sub.refl _ | exact Sub.ts | exact Sub.nil | exact Sub.agc (by repeat (first | exact .nil | refine .cons (by first | exact Sub.refl _ | exact Sub.nil) ?_))) (.cons (by first | exact Sub.refl _ | exact Sub.ts | exact Sub.nil | exact Sub.agc (by repeat (first | exact .nil | refine .cons (by first | exact Sub.refl _ | exact Sub.nil) ?_))) .nil)) rfl ?_
        exact awl_done rfl
      refine awd_q [(2, _)] (.cons rfl (.nil)) rfl rfl rfl ?_
      apply Exists.intro
      refine ⟨fun regs' => ?_, ?_⟩
      · skip
        first | refine awl_load_row ti39_LvH rfl rfl rfl rfl ?_ | refine x_irow ti39_LvH rfl rfl rfl rfl ?_
        exact awl_done rfl
      refine awd_q [(1, _)] (.cons rfl (.nil)) rfl rfl rfl ?_
      apply Exists.intro
      refine ⟨fun regs' => ?_, ?_⟩
      · skip
        refine awl_move rfl rfl ?_
        exact awl_done rfl
      refine awd_q [(19, _), (20, _)] (.cons rfl (.cons rfl (.nil))) rfl rfl rfl ?_
      apply Exists.intro
      refine ⟨fun regs' => ?_, ?_⟩
      · skip
        refine awl_pcall fb28_LvH rfl (rEval_con at_ 4 t hL2.2.2 (by omega)) (.cons (by first | exact Sub.refl _ | exact Sub.ts | exact Sub.nil | exact Sub.agc (by repeat (first | exact .nil | refine .cons (by first | exact Sub.refl _ | exact Sub.nil) ?_))) (.cons (by first | exact Sub.refl _ | exact Sub.ts | exact Sub.nil | exact Sub.agc (by repeat (first | exact .nil | refine .cons (by first | exact Sub.refl _ | exact Sub.nil) ?_))) .nil)) rfl ?_
        exact awl_done rfl
      refine awd_q [(18, _), (21, _)] (.cons rfl (.cons rfl (.nil))) rfl rfl rfl ?_
      apply Exists.intro
      refine ⟨fun regs' => ?_, ?_⟩
      · skip
        refine awl_bin rfl rfl rfl rfl bin_eql ?_
        exact awl_done rfl
      refine awd_q [(22, _)] (.cons rfl (.nil)) rfl rfl rfl ?_
      apply Exists.intro
      refine ⟨fun regs' => ?_, ?_⟩
      · skip
        refine awl_assign rfl rfl ?_
        exact awl_done rfl
      refine awd_nil ?_
      change AWp _ _ _ _ _ _
      refine awp_ret ?_
      change Ends _ _ _ _ _ _
      refine ends1 [] rfl (.tmp rfl) ?_ rfl
      exact ⟨B_eq (decide_eq_true rfl), rfl⟩

end Go.Ab.Ytfgndomaadikoaa
