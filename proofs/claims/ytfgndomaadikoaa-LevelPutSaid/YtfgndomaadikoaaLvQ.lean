/- The document's Leq, Same, Never, Equal. -/
import Derived.Test.YtfgndomaadikoaaLvP
set_option linter.unusedVariables false
set_option linter.unusedSimpArgs false
namespace Go.Ab.Ytfgndomaadikoaa
open Go Go.RowKit Go.Ab Go.Proofs

theorem fb57_LvQ : FB Try.prog 57 := ⟨_, Try.func57, rfl, by kernel_rfl⟩
theorem si73_LvQ : SI Try.prog 73 41 := ⟨Try.underlying73⟩
theorem hmo_LvQ : Try.prog.follows .mixedOrders = true := by kernel_rfl
theorem ti39_LvQ : TI Try.prog 39 3 true := ⟨by kernel_rfl, by kernel_rfl⟩
theorem ti41_LvQ : TI Try.prog 41 1 false := ⟨by kernel_rfl, by kernel_rfl⟩
theorem fb28_LvQ : FB Try.prog 28 := ⟨_, Try.func28, rfl, by kernel_rfl⟩
theorem fb32_LvQ : FB Try.prog 32 := ⟨_, Try.func32, rfl, by kernel_rfl⟩
theorem fi39_0_LvQ : FI Try.prog 39 0 0 := ⟨_, _, 0, Try.underlying39, rfl, rfl, by kernel_rfl⟩
theorem ti3_LvQ : TI Try.prog 3 1 false := ⟨by kernel_rfl, by kernel_rfl⟩
theorem fi39_1_LvQ : FI Try.prog 39 1 1 := ⟨_, _, 0, Try.underlying39, rfl, rfl, by kernel_rfl⟩
theorem fi39_2_LvQ : FI Try.prog 39 2 2 := ⟨_, _, 0, Try.underlying39, rfl, rfl, by kernel_rfl⟩
theorem ti24_LvQ : TI Try.prog 24 1 false := ⟨by kernel_rfl, by kernel_rfl⟩
theorem si24_LvQ : SI Try.prog 24 39 := ⟨Try.underlying24⟩
theorem fb38_LvQ : FB Try.prog 38 := ⟨_, Try.func38, rfl, by kernel_rfl⟩

theorem pl_snoc {n : Nat} {l : List Int} {x : Int} (h : l ∈ plN n) (hx : isP x) : l ++ [x] ∈ plN (n + 1) := by
  simp only [plN, List.mem_flatMap]
  refine ⟨l, h, ?_⟩
  rcases hx with rfl | rfl | rfl <;> simp [ext]
theorem pl4_mem {x0 x1 x2 x3 : Int} (h0 : isP x0) (h1 : isP x1) (h2 : isP x2) (h3 : isP x3) : [x0, x1, x2, x3] ∈ plN 4 :=
  pl_snoc (l := [x0, x1, x2]) (pl_snoc (l := [x0, x1]) (pl_snoc (l := [x0]) (pl_snoc (l := []) (by simp [plN]) h0) h1) h2) h3
theorem pl4_of {l : List Int} (h : l ∈ plN 4) : ∃ x0 x1 x2 x3, l = [x0, x1, x2, x3] ∧ isP x0 ∧ isP x1 ∧ isP x2 ∧ isP x3 := by
  obtain ⟨hl, hp⟩ := plN_elt 4 l h
  match l, hl with
  | [x0, x1, x2, x3], _ => exact ⟨x0, x1, x2, x3, rfl, hp x0 (by simp), hp x1 (by simp), hp x2 (by simp), hp x3 (by simp)⟩

theorem leq_places {a b : Lvl} (hwa : wfL a 4 = true) (hwb : wfL b 4 = true) (hda : deepL a ≤ 32) (hdb : deepL b ≤ 32) : leqF a b = (plN 4).all fun l => decide (evalF l a ≤ evalF l b) := by
  have h := leq_iff hwa hwb hda hdb
  cases hb : (plN 4).all fun l => decide (evalF l a ≤ evalF l b) with
  | true =>
    refine h.2 fun x0 x1 x2 x3 p0 p1 p2 p3 => ?_
    exact of_decide_eq_true (List.all_eq_true.1 hb _ (pl4_mem p0 p1 p2 p3))
  | false =>
    cases hc : leqF a b with
    | false => rfl
    | true =>
      have h1 := h.1 hc
      have : ((plN 4).all fun l => decide (evalF l a ≤ evalF l b)) = true := List.all_eq_true.2 fun l hl => by
        obtain ⟨x0, x1, x2, x3, rfl, p0, p1, p2, p3⟩ := pl4_of hl
        exact decide_eq_true (h1 x0 x1 x2 x3 p0 p1 p2 p3)
      rw [hb] at this; cases this

theorem rLeq_con (a b : Lvl) (hwa : wfL a 4 = true) (hwb : wfL b 4 = true) (hda : deepL a ≤ 32) (hdb : deepL b ≤ 32) : PCon Try.prog 32 [lv a, lv b] (.p (B (leqF a b))) := by
  have hlp := leq_places hwa hwb hda hdb
  refine con_of Try.func32 rfl 27 Try.ntmps32 rfl fun cx hcx => ?_
  refine awp_seq ?_
  refine awp_region ?_
  refine awl_box rfl rfl rfl rfl rfl (by rw [hcx]; rfl) rfl ?_
  refine awl_box rfl rfl rfl rfl rfl (by rw [hcx]; rfl) rfl ?_
  refine awl_assign rfl rfl ?_
  refine awl_nil ?_
  change AWp _ _ _ _ _ _
  refine awp_seq ?_
  refine awp_region ?_
  refine awl_pcall fb57_LvQ rfl (Places_con) .nil rfl ?_
  refine awl_assign rfl rfl ?_
  refine awl_nil ?_
  change AWp _ _ _ _ _ _
  refine awp_seq ?_
  refine awp_seq ?_
  refine awp_region ?_
  refine awl_assign rfl rfl ?_
  refine awl_nil ?_
  change AWp _ _ _ _ _ _
  refine awp_block ?_
  refine x_loop [(2, _), (3, _), (5, _)] [(3, _), (2, _)] (fun x : Nat × List (List Int) => [(6, .p (I x.1))]) (fun x => []) (fun x => (plN 4).drop x.1 = x.2 ∧ leqF a b = x.2.all fun l => decide (evalF l a ≤ evalF l b)) (fun x => x.2.length) (0, plN 4) (Le.mk (.cons rfl (by first | exact Sub.refl _ | exact Sub.ts | exact Sub.nil | (refine Sub.eq ?_; first | (simp; done) | (simp; omega))) (.cons rfl (by first | exact Sub.refl _ | exact Sub.ts | exact Sub.nil | (refine Sub.eq ?_; first | (simp; done) | (simp; omega))) (.cons rfl (by first | exact Sub.refl _ | exact Sub.ts | exact Sub.nil | (refine Sub.eq ?_; first | (simp; done) | (simp; omega))) (.cons rfl (by first | exact Sub.refl _ | exact Sub.ts | exact Sub.nil | (refine Sub.eq ?_; first | (simp; done) | (simp; omega))) (.nil))))) (.cons rfl (by first | rfl | (simp; done)) (.cons rfl (by first | rfl | (simp; done)) (.nil))) rfl) ⟨rfl, hlp⟩ (fun x hx => ?_)
  obtain ⟨i, r⟩ := x
  obtain ⟨hd, hsp⟩ := hx
  simp only at hd hsp
  have h81 := plN_len 4
  dsimp only [List.cons_append, List.nil_append]
  refine awp_seq ?_
  refine awp_seq ?_
  refine awp_region ?_
  refine awl_move rfl rfl ?_
  refine awl_move rfl rfl ?_
  refine x_len si73_LvQ rfl rfl rfl (fun hlen8 => ?_)
  refine awl_bin rfl rfl rfl rfl bin_lss ?_
  refine awl_nil ?_
  change AWp _ _ _ _ _ _
  first | refine awp_cond_p rfl (fun hi => ?_) (fun hi => ?_) | refine awp_cond rfl (fun hi => ?_) (fun hi => ?_)
  · skip
    obtain ⟨l, r', rfl⟩ := drop_ne hd (by simp at hi; omega)
    have hrow := pls_at hd
    have hdl := drop_lt hd
    refine awp_skip ?_
    change AWp _ _ _ _ _ _
    refine awp_seq ?_
    refine awp_block ?_
    refine awp_seq ?_
    refine awp_draw0 hmo_LvQ (by kernel_rfl) ?_
    refine awd_q [(2, _)] (.cons rfl (.nil)) rfl rfl rfl ?_
    apply Exists.intro
    refine ⟨fun regs' => ?_, ?_⟩
    · skip
      first | refine awl_load_row ti39_LvQ rfl rfl rfl rfl ?_ | refine x_irow ti39_LvQ rfl rfl rfl rfl ?_
      exact awl_done rfl
    refine awd_q [(5, _)] (.cons rfl (.nil)) rfl rfl rfl ?_
    apply Exists.intro
    refine ⟨fun regs' => ?_, ?_⟩
    · skip
      refine awl_move rfl rfl ?_
      exact awl_done rfl
    refine awd_q [(6, _)] (.cons rfl (.nil)) rfl rfl rfl ?_
    apply Exists.intro
    refine ⟨fun regs' => ?_, ?_⟩
    · skip
      refine awl_move rfl rfl ?_
      exact awl_done rfl
    refine awd_q [(15, _), (16, _)] (.cons rfl (.cons rfl (.nil))) rfl rfl rfl ?_
    apply Exists.intro
    refine ⟨fun regs' => ?_, ?_⟩
    · skip
      refine x_index si73_LvQ ti41_LvQ rfl rfl rfl rfl (by omega) (by first | omega | (simp only [List.length_map]; omega) | (simp; omega)) (by assumption) rfl ?_
      exact awl_done rfl
    refine awd_q [(17, _)] (.cons rfl (.nil)) rfl rfl rfl ?_
    apply Exists.intro
    refine ⟨fun regs' => ?_, ?_⟩
    · skip
      first | refine awl_load_one ti41_LvQ rfl rfl rfl rfl ?_ | refine awl_load_ione ti41_LvQ rfl rfl rfl ?_
      exact awl_done rfl
    refine awd_q [(14, _), (18, _)] (.cons rfl (.cons rfl (.nil))) rfl rfl rfl ?_
    apply Exists.intro
    refine ⟨fun regs' => ?_, ?_⟩
    · skip
      refine awl_pcall fb28_LvQ rfl (rEval_con l 4 a hwa (by omega)) (.cons (by first | exact Sub.refl _ | exact Sub.ts | exact Sub.nil | exact Sub.agc (by repeat (first | exact .nil | refine .cons (by first | exact Sub.refl _ | exact Sub.nil) ?_))) (.cons (by first | exact Sub.refl _ | exact Sub.ts | exact Sub.nil | exact Sub.agc (by repeat (first | exact .nil | refine .cons (by first | exact Sub.refl _ | exact Sub.nil) ?_))) .nil)) rfl ?_
      exact awl_done rfl
    refine awd_q [(3, _)] (.cons rfl (.nil)) rfl rfl rfl ?_
    apply Exists.intro
    refine ⟨fun regs' => ?_, ?_⟩
    · skip
      first | refine awl_load_row ti39_LvQ rfl rfl rfl rfl ?_ | refine x_irow ti39_LvQ rfl rfl rfl rfl ?_
      exact awl_done rfl
    refine awd_q [(5, _)] (.cons rfl (.nil)) rfl rfl rfl ?_
    apply Exists.intro
    refine ⟨fun regs' => ?_, ?_⟩
    · skip
      refine awl_move rfl rfl ?_
      exact awl_done rfl
    refine awd_q [(6, _)] (.cons rfl (.nil)) rfl rfl rfl ?_
    apply Exists.intro
    refine ⟨fun regs' => ?_, ?_⟩
    · skip
      refine awl_move rfl rfl ?_
      exact awl_done rfl
    refine awd_q [(21, _), (22, _)] (.cons rfl (.cons rfl (.nil))) rfl rfl rfl ?_
    apply Exists.intro
    refine ⟨fun regs' => ?_, ?_⟩
    · skip
      refine x_index si73_LvQ ti41_LvQ rfl rfl rfl rfl (by omega) (by first | omega | (simp only [List.length_map]; omega) | (simp; omega)) (by assumption) rfl ?_
      exact awl_done rfl
    refine awd_q [(23, _)] (.cons rfl (.nil)) rfl rfl rfl ?_
    apply Exists.intro
    refine ⟨fun regs' => ?_, ?_⟩
    · skip
      first | refine awl_load_one ti41_LvQ rfl rfl rfl rfl ?_ | refine awl_load_ione ti41_LvQ rfl rfl rfl ?_
      exact awl_done rfl
    refine awd_q [(20, _), (24, _)] (.cons rfl (.cons rfl (.nil))) rfl rfl rfl ?_
    apply Exists.intro
    refine ⟨fun regs' => ?_, ?_⟩
    · skip
      refine awl_pcall fb28_LvQ rfl (rEval_con l 4 b hwb (by omega)) (.cons (by first | exact Sub.refl _ | exact Sub.ts | exact Sub.nil | exact Sub.agc (by repeat (first | exact .nil | refine .cons (by first | exact Sub.refl _ | exact Sub.nil) ?_))) (.cons (by first | exact Sub.refl _ | exact Sub.ts | exact Sub.nil | exact Sub.agc (by repeat (first | exact .nil | refine .cons (by first | exact Sub.refl _ | exact Sub.nil) ?_))) .nil)) rfl ?_
      exact awl_done rfl
    refine awd_q [(19, _), (25, _)] (.cons rfl (.cons rfl (.nil))) rfl rfl rfl ?_
    apply Exists.intro
    refine ⟨fun regs' => ?_, ?_⟩
    · skip
      refine awl_bin rfl rfl rfl rfl bin_gtr ?_
      exact awl_done rfl
    refine awd_nil ?_
    change AWp _ _ _ _ _ _
    first | refine awp_cond_p rfl (fun hc => ?_) (fun hc => ?_) | refine awp_cond rfl (fun hc => ?_) (fun hc => ?_)
    · skip
      refine awp_seq ?_
      refine awp_region ?_
      refine awl_assign rfl rfl ?_
      refine awl_nil ?_
      change AWp _ _ _ _ _ _
      refine awp_ret ?_
      change Ends _ _ _ _ _ _
      refine ends1 [] rfl (.tmp rfl) ?_ rfl
      refine ⟨B_eq ?_, rfl⟩; rw [hsp]; simp [show ¬ evalF l a ≤ evalF l b by omega]
    · skip
      refine awp_skip ?_
      change AWp _ _ _ _ _ _
      refine awp_region ?_
      refine awl_move rfl rfl ?_
      first | refine awl_bin rfl rfl rfl rfl (bin_add_i (by omega)) ?_ | refine awl_bin rfl rfl rfl rfl bin_add ?_
      refine awl_assign rfl rfl ?_
      refine awl_nil ?_
      change ∃ x', _
      refine ⟨(i + 1, r'), ⟨drop_next hd, by rw [hsp]; simp [show evalF l a ≤ evalF l b by omega]⟩, by simp, (Le.mk (.cons rfl (by first | exact Sub.refl _ | exact Sub.ts | exact Sub.nil | (refine Sub.eq ?_; first | (simp; done) | (simp; omega))) (.cons rfl (by first | exact Sub.refl _ | exact Sub.ts | exact Sub.nil | (refine Sub.eq ?_; first | (simp; done) | (simp; omega))) (.cons rfl (by first | exact Sub.refl _ | exact Sub.ts | exact Sub.nil | (refine Sub.eq ?_; first | (simp; done) | (simp; omega))) (.cons rfl (by first | exact Sub.refl _ | exact Sub.ts | exact Sub.nil | (refine Sub.eq ?_; first | (simp; done) | (simp; omega))) (.nil))))) (.cons rfl (by first | rfl | (simp; done)) (.cons rfl (by first | rfl | (simp; done)) (.nil))) rfl)⟩
  · skip
    refine awp_exit ?_
    change AWp _ _ _ _ _ _
    refine awp_seq ?_
    refine awp_region ?_
    refine awl_assign rfl rfl ?_
    refine awl_nil ?_
    change AWp _ _ _ _ _ _
    refine awp_ret ?_
    change Ends _ _ _ _ _ _
    refine ends1 [] rfl (.tmp rfl) ?_ rfl
    refine ⟨B_eq ?_, rfl⟩; obtain rfl := drop_end hd (by simp at hi; omega); rw [hsp]; rfl

theorem rSame_con (a b : Lvl) (hwa : wfL a 4 = true) (hwb : wfL b 4 = true) (hda : deepL a ≤ 32) (hdb : deepL b ≤ 32) : PCon Try.prog 34 [lv a, lv b] (.p (B (leqF a b && leqF b a))) := by
  refine con_of Try.func34 rfl 13 Try.ntmps34 rfl fun cx hcx => ?_
  refine awp_seq ?_
  refine awp_region ?_
  refine awl_box rfl rfl rfl rfl rfl (by rw [hcx]; rfl) rfl ?_
  refine awl_box rfl rfl rfl rfl rfl (by rw [hcx]; rfl) rfl ?_
  refine awl_assign rfl rfl ?_
  refine awl_nil ?_
  change AWp _ _ _ _ _ _
  refine awp_seq ?_
  refine awp_region ?_
  first | refine awl_load_row ti39_LvQ rfl rfl rfl rfl ?_ | refine x_irow ti39_LvQ rfl rfl rfl rfl ?_
  first | refine awl_load_row ti39_LvQ rfl rfl rfl rfl ?_ | refine x_irow ti39_LvQ rfl rfl rfl rfl ?_
  refine awl_pcall fb32_LvQ rfl (rLeq_con a b hwa hwb hda hdb) (.cons (by first | exact Sub.refl _ | exact Sub.ts | exact Sub.nil | exact Sub.agc (by repeat (first | exact .nil | refine .cons (by first | exact Sub.refl _ | exact Sub.nil) ?_))) (.cons (by first | exact Sub.refl _ | exact Sub.ts | exact Sub.nil | exact Sub.agc (by repeat (first | exact .nil | refine .cons (by first | exact Sub.refl _ | exact Sub.nil) ?_))) .nil)) rfl ?_
  refine awl_move rfl rfl ?_
  first | refine awl_split_p 8 rfl (fun h1 => ?_) (fun h1 => ?_) | refine awl_split 8 rfl (fun h1 => ?_) (fun h1 => ?_)
  · skip
    refine awl_guard_yes rfl (by first | exact h1 | exact decide_eq_true h1 | exact decide_eq_false h1) rfl rfl ?_
    first | refine awl_load_row ti39_LvQ rfl rfl rfl rfl ?_ | refine x_irow ti39_LvQ rfl rfl rfl rfl ?_
    refine awl_guard_yes rfl (by first | exact h1 | exact decide_eq_true h1 | exact decide_eq_false h1) rfl rfl ?_
    first | refine awl_load_row ti39_LvQ rfl rfl rfl rfl ?_ | refine x_irow ti39_LvQ rfl rfl rfl rfl ?_
    refine awl_guard_yes rfl (by first | exact h1 | exact decide_eq_true h1 | exact decide_eq_false h1) rfl rfl ?_
    refine awl_pcall fb32_LvQ rfl (rLeq_con b a hwb hwa hdb hda) (.cons (by first | exact Sub.refl _ | exact Sub.ts | exact Sub.nil | exact Sub.agc (by repeat (first | exact .nil | refine .cons (by first | exact Sub.refl _ | exact Sub.nil) ?_))) (.cons (by first | exact Sub.refl _ | exact Sub.ts | exact Sub.nil | exact Sub.agc (by repeat (first | exact .nil | refine .cons (by first | exact Sub.refl _ | exact Sub.nil) ?_))) .nil)) rfl ?_
    refine awl_pick_t (by first | exact h1 | exact decide_eq_true h1 | exact decide_eq_false h1) rfl rfl rfl ?_
    refine awl_assign rfl rfl ?_
    refine awl_nil ?_
    change AWp _ _ _ _ _ _
    refine awp_ret ?_
    change Ends _ _ _ _ _ _
    refine ends1 [] rfl (.tmp rfl) ?_ rfl
    refine ⟨B_eq ?_, rfl⟩; rw [h1]; rfl
  · skip
    refine awl_guard_no rfl (by first | exact h1 | exact decide_eq_true h1 | exact decide_eq_false h1) rfl rfl rfl rfl ?_
    refine awl_guard_no rfl (by first | exact h1 | exact decide_eq_true h1 | exact decide_eq_false h1) rfl rfl rfl rfl ?_
    refine awl_guard_no rfl (by first | exact h1 | exact decide_eq_true h1 | exact decide_eq_false h1) rfl rfl rfl rfl ?_
    refine awl_pick_f (by first | exact h1 | exact decide_eq_true h1 | exact decide_eq_false h1) rfl rfl rfl ?_
    refine awl_assign rfl rfl ?_
    refine awl_nil ?_
    change AWp _ _ _ _ _ _
    refine awp_ret ?_
    change Ends _ _ _ _ _ _
    refine ends1 [] rfl (.tmp rfl) ?_ rfl
    refine ⟨B_eq ?_, rfl⟩; rw [h1]; rfl

theorem evK_zero (k n : Int) (vs : List Int) : evK [0, 0, 0, 0] k n vs = evK [] k n vs := by
  have h : ∀ n : Int, ([0, 0, 0, 0] : List Int).getD n.toNat 0 = 0 := fun n => by
    generalize n.toNat = m
    rcases Nat.lt_or_ge m 4 with h | h
    · rcases (by omega : m = 0 ∨ m = 1 ∨ m = 2 ∨ m = 3) with rfl | rfl | rfl | rfl <;> rfl
    · simp [List.getD_eq_getElem?_getD, h]
  unfold evK
  split
  · rfl
  · split
    · rfl
    · split
      · rfl
      · split
        · rw [h]
          split
          · rw [if_neg (by rintro ⟨_, q⟩; simp at q; omega)]; rfl
          · rw [if_neg (by rintro ⟨_, q⟩; simp at q; omega)]
        · rfl
mutual
theorem eval_zero : ∀ t : Lvl, evalF [0, 0, 0, 0] t = evalF [] t
  | ⟨k, n, l⟩ => by simp only [evalF]; rw [evals_zero l, evK_zero]
theorem evals_zero : ∀ l : List Lvl, evalFs [0, 0, 0, 0] l = evalFs [] l
  | [] => rfl
  | a :: r => by simp only [evalFs]; rw [eval_zero a, evals_zero r]
end
theorem never_places {a : Lvl} (hwa : wfL a 4 = true) : decide (evalF [] a > 0) = (plN 4).all fun l => decide (evalF l a ≠ 0) := by
  have hp : ∀ l : List Int, 0 ≤ evalF l a := fun l => (evalF_bd l a).1
  by_cases h : evalF [] a > 0
  · rw [decide_eq_true h]
    refine (List.all_eq_true.2 fun l hl => ?_).symm
    obtain ⟨x0, x1, x2, x3, rfl, p0, p1, p2, p3⟩ := pl4_of hl
    unfold isP at p0 p1 p2 p3
    have := never_up x0 x1 x2 x3 ⟨by omega, by omega, by omega, by omega⟩ a hwa h
    exact decide_eq_true (by omega)
  · rw [decide_eq_false h]
    cases hb : (plN 4).all fun l => decide (evalF l a ≠ 0) with
    | false => rfl
    | true =>
      have h1 := of_decide_eq_true (List.all_eq_true.1 hb _ (pl4_mem (x0 := 0) (x1 := 0) (x2 := 0) (x3 := 0) (.inl rfl) (.inl rfl) (.inl rfl) (.inl rfl)))
      rw [eval_zero] at h1
      have := hp []; omega

theorem rNever_con (a : Lvl) (hwa : wfL a 4 = true) (hda : deepL a ≤ 32) : PCon Try.prog 36 [lv a] (.p (B (decide (evalF [] a > 0)))) := by
  have hlp := never_places hwa
  refine con_of Try.func36 rfl 19 Try.ntmps36 rfl fun cx hcx => ?_
  refine awp_seq ?_
  refine awp_region ?_
  refine awl_box rfl rfl rfl rfl rfl (by rw [hcx]; rfl) rfl ?_
  refine awl_assign rfl rfl ?_
  refine awl_nil ?_
  change AWp _ _ _ _ _ _
  refine awp_seq ?_
  refine awp_region ?_
  refine awl_pcall fb57_LvQ rfl (Places_con) .nil rfl ?_
  refine awl_assign rfl rfl ?_
  refine awl_nil ?_
  change AWp _ _ _ _ _ _
  refine awp_seq ?_
  refine awp_seq ?_
  refine awp_region ?_
  refine awl_assign rfl rfl ?_
  refine awl_nil ?_
  change AWp _ _ _ _ _ _
  refine awp_block ?_
  refine x_loop [(1, _), (3, _)] [(1, _)] (fun x : Nat × List (List Int) => [(4, .p (I x.1))]) (fun x => []) (fun x => (plN 4).drop x.1 = x.2 ∧ decide (evalF [] a > 0) = x.2.all fun l => decide (evalF l a ≠ 0)) (fun x => x.2.length) (0, plN 4) (Le.mk (.cons rfl (by first | exact Sub.refl _ | exact Sub.ts | exact Sub.nil | (refine Sub.eq ?_; first | (simp; done) | (simp; omega))) (.cons rfl (by first | exact Sub.refl _ | exact Sub.ts | exact Sub.nil | (refine Sub.eq ?_; first | (simp; done) | (simp; omega))) (.cons rfl (by first | exact Sub.refl _ | exact Sub.ts | exact Sub.nil | (refine Sub.eq ?_; first | (simp; done) | (simp; omega))) (.nil)))) (.cons rfl (by first | rfl | (simp; done)) (.nil)) rfl) ⟨rfl, hlp⟩ (fun x hx => ?_)
  obtain ⟨i, r⟩ := x
  obtain ⟨hd, hsp⟩ := hx
  simp only at hd hsp
  have h81 := plN_len 4
  dsimp only [List.cons_append, List.nil_append]
  refine awp_seq ?_
  refine awp_seq ?_
  refine awp_region ?_
  refine awl_move rfl rfl ?_
  refine awl_move rfl rfl ?_
  refine x_len si73_LvQ rfl rfl rfl (fun hlen7 => ?_)
  refine awl_bin rfl rfl rfl rfl bin_lss ?_
  refine awl_nil ?_
  change AWp _ _ _ _ _ _
  first | refine awp_cond_p rfl (fun hi => ?_) (fun hi => ?_) | refine awp_cond rfl (fun hi => ?_) (fun hi => ?_)
  · skip
    obtain ⟨l, r', rfl⟩ := drop_ne hd (by simp at hi; omega)
    have hrow := pls_at hd
    have hdl := drop_lt hd
    refine awp_skip ?_
    change AWp _ _ _ _ _ _
    refine awp_seq ?_
    refine awp_block ?_
    refine awp_seq ?_
    refine awp_draw0 hmo_LvQ (by kernel_rfl) ?_
    refine awd_q [(1, _)] (.cons rfl (.nil)) rfl rfl rfl ?_
    apply Exists.intro
    refine ⟨fun regs' => ?_, ?_⟩
    · skip
      first | refine awl_load_row ti39_LvQ rfl rfl rfl rfl ?_ | refine x_irow ti39_LvQ rfl rfl rfl rfl ?_
      exact awl_done rfl
    refine awd_q [(3, _)] (.cons rfl (.nil)) rfl rfl rfl ?_
    apply Exists.intro
    refine ⟨fun regs' => ?_, ?_⟩
    · skip
      refine awl_move rfl rfl ?_
      exact awl_done rfl
    refine awd_q [(4, _)] (.cons rfl (.nil)) rfl rfl rfl ?_
    apply Exists.intro
    refine ⟨fun regs' => ?_, ?_⟩
    · skip
      refine awl_move rfl rfl ?_
      exact awl_done rfl
    refine awd_q [(13, _), (14, _)] (.cons rfl (.cons rfl (.nil))) rfl rfl rfl ?_
    apply Exists.intro
    refine ⟨fun regs' => ?_, ?_⟩
    · skip
      refine x_index si73_LvQ ti41_LvQ rfl rfl rfl rfl (by omega) (by first | omega | (simp only [List.length_map]; omega) | (simp; omega)) (by assumption) rfl ?_
      exact awl_done rfl
    refine awd_q [(15, _)] (.cons rfl (.nil)) rfl rfl rfl ?_
    apply Exists.intro
    refine ⟨fun regs' => ?_, ?_⟩
    · skip
      first | refine awl_load_one ti41_LvQ rfl rfl rfl rfl ?_ | refine awl_load_ione ti41_LvQ rfl rfl rfl ?_
      exact awl_done rfl
    refine awd_q [(12, _), (16, _)] (.cons rfl (.cons rfl (.nil))) rfl rfl rfl ?_
    apply Exists.intro
    refine ⟨fun regs' => ?_, ?_⟩
    · skip
      refine awl_pcall fb28_LvQ rfl (rEval_con l 4 a hwa (by omega)) (.cons (by first | exact Sub.refl _ | exact Sub.ts | exact Sub.nil | exact Sub.agc (by repeat (first | exact .nil | refine .cons (by first | exact Sub.refl _ | exact Sub.nil) ?_))) (.cons (by first | exact Sub.refl _ | exact Sub.ts | exact Sub.nil | exact Sub.agc (by repeat (first | exact .nil | refine .cons (by first | exact Sub.refl _ | exact Sub.nil) ?_))) .nil)) rfl ?_
      exact awl_done rfl
    refine awd_q [(17, _)] (.cons rfl (.nil)) rfl rfl rfl ?_
    apply Exists.intro
    refine ⟨fun regs' => ?_, ?_⟩
    · skip
      refine awl_bin rfl rfl rfl rfl bin_eql ?_
      exact awl_done rfl
    refine awd_nil ?_
    change AWp _ _ _ _ _ _
    first | refine awp_cond_p rfl (fun hc => ?_) (fun hc => ?_) | refine awp_cond rfl (fun hc => ?_) (fun hc => ?_)
    · skip
      refine awp_seq ?_
      refine awp_region ?_
      refine awl_assign rfl rfl ?_
      refine awl_nil ?_
      change AWp _ _ _ _ _ _
      refine awp_ret ?_
      change Ends _ _ _ _ _ _
      refine ends1 [] rfl (.tmp rfl) ?_ rfl
      refine ⟨B_eq ?_, rfl⟩; rw [hsp]; simp [hc]
    · skip
      refine awp_skip ?_
      change AWp _ _ _ _ _ _
      refine awp_region ?_
      refine awl_move rfl rfl ?_
      first | refine awl_bin rfl rfl rfl rfl (bin_add_i (by omega)) ?_ | refine awl_bin rfl rfl rfl rfl bin_add ?_
      refine awl_assign rfl rfl ?_
      refine awl_nil ?_
      change ∃ x', _
      refine ⟨(i + 1, r'), ⟨drop_next hd, by rw [hsp]; simp [hc]⟩, by simp, (Le.mk (.cons rfl (by first | exact Sub.refl _ | exact Sub.ts | exact Sub.nil | (refine Sub.eq ?_; first | (simp; done) | (simp; omega))) (.cons rfl (by first | exact Sub.refl _ | exact Sub.ts | exact Sub.nil | (refine Sub.eq ?_; first | (simp; done) | (simp; omega))) (.cons rfl (by first | exact Sub.refl _ | exact Sub.ts | exact Sub.nil | (refine Sub.eq ?_; first | (simp; done) | (simp; omega))) (.nil)))) (.cons rfl (by first | rfl | (simp; done)) (.nil)) rfl)⟩
  · skip
    refine awp_exit ?_
    change AWp _ _ _ _ _ _
    refine awp_seq ?_
    refine awp_region ?_
    refine awl_assign rfl rfl ?_
    refine awl_nil ?_
    change AWp _ _ _ _ _ _
    refine awp_ret ?_
    change Ends _ _ _ _ _ _
    refine ends1 [] rfl (.tmp rfl) ?_ rfl
    refine ⟨B_eq ?_, rfl⟩; obtain rfl := drop_end hd (by simp at hi; omega); rw [hsp]; rfl

theorem rEqual_con (a : Lvl) : ∀ b : Lvl, PCon Try.prog 38 [lv a, lv b] (.p (B (eqL a b))) := by
  intro b
  have ih : ∀ c ∈ a.args, ∀ b, PCon Try.prog 38 [lv c, lv b] (.p (B (eqL c b))) := fun c hc b => rEqual_con c b
  have he0 := eqL_eq a b
  have hla := encLs_len a.args
  have hlb := encLs_len b.args
  refine con_of Try.func38 rfl 46 Try.ntmps38 rfl fun cx hcx => ?_
  refine awp_seq ?_
  refine awp_region ?_
  refine awl_box rfl rfl rfl rfl rfl (by rw [hcx]; rfl) rfl ?_
  refine awl_box rfl rfl rfl rfl rfl (by rw [hcx]; rfl) rfl ?_
  refine awl_assign rfl rfl ?_
  refine awl_nil ?_
  change AWp _ _ _ _ _ _
  refine awp_seq ?_
  refine awp_seq ?_
  refine awp_fml 26 (a.kind ≠ b.kind ∨ a.n ≠ b.n ∨ (encLs a.args).length ≠ (encLs b.args).length) [(0, _), (1, _), (2, _), (3, _)] (.cons rfl (.cons rfl (.cons rfl (.cons rfl (.nil))))) ?_ ?_
  · skip
    refine awp_region ?_
    first | refine awl_fieldAddr fi39_0_LvQ rfl rfl ?_ | refine awl_fieldAddr_i fi39_0_LvQ rfl rfl rfl ?_
    first | refine awl_load_one ti3_LvQ rfl rfl rfl rfl ?_ | refine awl_load_ione ti3_LvQ rfl rfl rfl ?_
    first | refine awl_fieldAddr fi39_0_LvQ rfl rfl ?_ | refine awl_fieldAddr_i fi39_0_LvQ rfl rfl rfl ?_
    first | refine awl_load_one ti3_LvQ rfl rfl rfl rfl ?_ | refine awl_load_ione ti3_LvQ rfl rfl rfl ?_
    refine awl_bin rfl rfl rfl rfl bin_neq ?_
    refine awl_move rfl rfl ?_
    first | refine awl_split_p 11 rfl (fun h1 => ?_) (fun h1 => ?_) | refine awl_split 11 rfl (fun h1 => ?_) (fun h1 => ?_)
    · skip
      refine awl_guard_no rfl (by first | exact h1 | exact decide_eq_true h1 | exact decide_eq_false h1) rfl rfl rfl rfl ?_
      refine awl_guard_no rfl (by first | exact h1 | exact decide_eq_true h1 | exact decide_eq_false h1) rfl rfl rfl rfl ?_
      refine awl_guard_no rfl (by first | exact h1 | exact decide_eq_true h1 | exact decide_eq_false h1) rfl rfl rfl rfl ?_
      refine awl_guard_no rfl (by first | exact h1 | exact decide_eq_true h1 | exact decide_eq_false h1) rfl rfl rfl rfl ?_
      refine awl_guard_no rfl (by first | exact h1 | exact decide_eq_true h1 | exact decide_eq_false h1) rfl rfl rfl rfl ?_
      refine awl_pick_t (by first | exact h1 | exact decide_eq_true h1 | exact decide_eq_false h1) rfl rfl rfl ?_
      refine awl_move rfl rfl ?_
      refine awl_guard_no rfl rfl rfl rfl rfl rfl ?_
      refine awl_guard_no rfl rfl rfl rfl rfl rfl ?_
      refine awl_guard_no rfl rfl rfl rfl rfl rfl ?_
      refine awl_guard_no rfl rfl rfl rfl rfl rfl ?_
      refine awl_guard_no rfl rfl rfl rfl rfl rfl ?_
      refine awl_guard_no rfl rfl rfl rfl rfl rfl ?_
      refine awl_guard_no rfl rfl rfl rfl rfl rfl ?_
      refine awl_pick_t rfl rfl rfl rfl ?_
      refine awl_nil ?_
      exact ⟨rfl, _, (by first | (simp; omega) | omega | (simp; done)), Le.mk (.cons rfl (Sub.refl _) (.cons rfl (Sub.refl _) (.cons rfl (Sub.refl _) (.cons rfl (Sub.refl _) (.cons rfl (Sub.refl _) .nil))))) (by repeat (first | exact .nil | refine .cons rfl rfl ?_)) rfl⟩
    · skip
      refine awl_guard_yes rfl (by first | exact h1 | exact decide_eq_true h1 | exact decide_eq_false h1) rfl rfl ?_
      first | refine awl_fieldAddr fi39_1_LvQ rfl rfl ?_ | refine awl_fieldAddr_i fi39_1_LvQ rfl rfl rfl ?_
      refine awl_guard_yes rfl (by first | exact h1 | exact decide_eq_true h1 | exact decide_eq_false h1) rfl rfl ?_
      first | refine awl_load_one ti3_LvQ rfl rfl rfl rfl ?_ | refine awl_load_ione ti3_LvQ rfl rfl rfl ?_
      refine awl_guard_yes rfl (by first | exact h1 | exact decide_eq_true h1 | exact decide_eq_false h1) rfl rfl ?_
      first | refine awl_fieldAddr fi39_1_LvQ rfl rfl ?_ | refine awl_fieldAddr_i fi39_1_LvQ rfl rfl rfl ?_
      refine awl_guard_yes rfl (by first | exact h1 | exact decide_eq_true h1 | exact decide_eq_false h1) rfl rfl ?_
      first | refine awl_load_one ti3_LvQ rfl rfl rfl rfl ?_ | refine awl_load_ione ti3_LvQ rfl rfl rfl ?_
      refine awl_guard_yes rfl (by first | exact h1 | exact decide_eq_true h1 | exact decide_eq_false h1) rfl rfl ?_
      refine awl_bin rfl rfl rfl rfl bin_neq ?_
      refine awl_pick_f (by first | exact h1 | exact decide_eq_true h1 | exact decide_eq_false h1) rfl rfl rfl ?_
      refine awl_move rfl rfl ?_
      first | refine awl_split_p 18 rfl (fun h2 => ?_) (fun h2 => ?_) | refine awl_split 18 rfl (fun h2 => ?_) (fun h2 => ?_)
      · skip
        refine awl_guard_no rfl (by first | exact h2 | exact decide_eq_true h2 | exact decide_eq_false h2) rfl rfl rfl rfl ?_
        refine awl_guard_no rfl (by first | exact h2 | exact decide_eq_true h2 | exact decide_eq_false h2) rfl rfl rfl rfl ?_
        refine awl_guard_no rfl (by first | exact h2 | exact decide_eq_true h2 | exact decide_eq_false h2) rfl rfl rfl rfl ?_
        refine awl_guard_no rfl (by first | exact h2 | exact decide_eq_true h2 | exact decide_eq_false h2) rfl rfl rfl rfl ?_
        refine awl_guard_no rfl (by first | exact h2 | exact decide_eq_true h2 | exact decide_eq_false h2) rfl rfl rfl rfl ?_
        refine awl_guard_no rfl (by first | exact h2 | exact decide_eq_true h2 | exact decide_eq_false h2) rfl rfl rfl rfl ?_
        refine awl_guard_no rfl (by first | exact h2 | exact decide_eq_true h2 | exact decide_eq_false h2) rfl rfl rfl rfl ?_
        refine awl_pick_t (by first | exact h2 | exact decide_eq_true h2 | exact decide_eq_false h2) rfl rfl rfl ?_
        refine awl_nil ?_
        exact ⟨rfl, _, (by first | (simp; omega) | omega | (simp; done)), Le.mk (.cons rfl (Sub.refl _) (.cons rfl (Sub.refl _) (.cons rfl (Sub.refl _) (.cons rfl (Sub.refl _) (.cons rfl (Sub.refl _) .nil))))) (by repeat (first | exact .nil | refine .cons rfl rfl ?_)) rfl⟩
      · skip
        refine awl_guard_yes rfl (by first | exact h2 | exact decide_eq_true h2 | exact decide_eq_false h2) rfl rfl ?_
        first | refine awl_fieldAddr fi39_2_LvQ rfl rfl ?_ | refine awl_fieldAddr_i fi39_2_LvQ rfl rfl rfl ?_
        refine awl_guard_yes rfl (by first | exact h2 | exact decide_eq_true h2 | exact decide_eq_false h2) rfl rfl ?_
        first | refine awl_load_one ti24_LvQ rfl rfl rfl rfl ?_ | refine awl_load_ione ti24_LvQ rfl rfl rfl ?_
        refine awl_guard_yes rfl (by first | exact h2 | exact decide_eq_true h2 | exact decide_eq_false h2) rfl rfl ?_
        refine x_len si24_LvQ rfl rfl rfl (fun hlen52 => ?_)
        refine awl_guard_yes rfl (by first | exact h2 | exact decide_eq_true h2 | exact decide_eq_false h2) rfl rfl ?_
        first | refine awl_fieldAddr fi39_2_LvQ rfl rfl ?_ | refine awl_fieldAddr_i fi39_2_LvQ rfl rfl rfl ?_
        refine awl_guard_yes rfl (by first | exact h2 | exact decide_eq_true h2 | exact decide_eq_false h2) rfl rfl ?_
        first | refine awl_load_one ti24_LvQ rfl rfl rfl rfl ?_ | refine awl_load_ione ti24_LvQ rfl rfl rfl ?_
        refine awl_guard_yes rfl (by first | exact h2 | exact decide_eq_true h2 | exact decide_eq_false h2) rfl rfl ?_
        refine x_len si24_LvQ rfl rfl rfl (fun hlen59 => ?_)
        refine awl_guard_yes rfl (by first | exact h2 | exact decide_eq_true h2 | exact decide_eq_false h2) rfl rfl ?_
        refine awl_bin rfl rfl rfl rfl bin_neq ?_
        refine awl_pick_f (by first | exact h2 | exact decide_eq_true h2 | exact decide_eq_false h2) rfl rfl rfl ?_
        refine awl_nil ?_
        exact ⟨rfl, _, (by first | (simp; omega) | omega | (simp; done)), Le.mk (.cons rfl (Sub.refl _) (.cons rfl (Sub.refl _) (.cons rfl (Sub.refl _) (.cons rfl (Sub.refl _) (.cons rfl (Sub.refl _) .nil))))) (by repeat (first | exact .nil | refine .cons rfl rfl ?_)) rfl⟩
  change AWp _ _ _ _ _ _
  first | refine awp_cond_p rfl (fun hx => ?_) (fun hx => ?_) | refine awp_cond rfl (fun hx => ?_) (fun hx => ?_)
  · skip
    refine awp_seq ?_
    refine awp_region ?_
    refine awl_assign rfl rfl ?_
    refine awl_nil ?_
    change AWp _ _ _ _ _ _
    refine awp_ret ?_
    change Ends _ _ _ _ _ _
    refine ends1 [] rfl (.tmp rfl) ?_ rfl
    refine ⟨B_eq ?_, rfl⟩; rw [he0]; rcases hx with hx | hx | hx; simp [hx]; simp [hx]; rw [eqLs_len a.args b.args (by omega)]; simp
  · skip
    have hk : a.kind = b.kind := by omega
    have hn : a.n = b.n := by omega
    have hlm : a.args.length = b.args.length := by omega
    have hs0 : eqL a b = eqLs a.args b.args := by rw [he0]; simp [hk, hn]
    refine awp_skip ?_
    change AWp _ _ _ _ _ _
    refine awp_seq ?_
    refine awp_seq ?_
    refine awp_region ?_
    refine awl_assign rfl rfl ?_
    refine awl_nil ?_
    change AWp _ _ _ _ _ _
    refine awp_block ?_
    refine x_loop [(2, _), (3, _)] [(3, _), (2, _)] (fun x : Nat × List Lvl × List Lvl => [(5, .p (I x.1))]) (fun x => []) (fun x => a.args.drop x.1 = x.2.1 ∧ b.args.drop x.1 = x.2.2 ∧ eqL a b = eqLs x.2.1 x.2.2) (fun x => x.2.1.length) (0, a.args, b.args) (Le.mk (.cons rfl (by first | exact Sub.refl _ | exact Sub.ts | exact Sub.nil | (refine Sub.eq ?_; first | (simp; done) | (simp; omega))) (.cons rfl (by first | exact Sub.refl _ | exact Sub.ts | exact Sub.nil | (refine Sub.eq ?_; first | (simp; done) | (simp; omega))) (.cons rfl (by first | exact Sub.refl _ | exact Sub.ts | exact Sub.nil | (refine Sub.eq ?_; first | (simp; done) | (simp; omega))) (.nil)))) (.cons rfl (by first | rfl | (simp; done)) (.cons rfl (by first | rfl | (simp; done)) (.nil))) rfl) ⟨rfl, rfl, hs0⟩ (fun x hx => ?_)
    obtain ⟨i, r, s⟩ := x
    obtain ⟨hd, he, hsp⟩ := hx
    simp only at hd he hsp
    dsimp only [List.cons_append, List.nil_append]
    refine awp_seq ?_
    refine awp_seq ?_
    refine awp_region ?_
    refine awl_move rfl rfl ?_
    first | refine awl_fieldAddr fi39_2_LvQ rfl rfl ?_ | refine awl_fieldAddr_i fi39_2_LvQ rfl rfl rfl ?_
    first | refine awl_load_one ti24_LvQ rfl rfl rfl rfl ?_ | refine awl_load_ione ti24_LvQ rfl rfl rfl ?_
    refine x_len si24_LvQ rfl rfl rfl (fun hlen70 => ?_)
    refine awl_bin rfl rfl rfl rfl bin_lss ?_
    refine awl_nil ?_
    change AWp _ _ _ _ _ _
    first | refine awp_cond_p rfl (fun hi => ?_) (fun hi => ?_) | refine awp_cond rfl (fun hi => ?_) (fun hi => ?_)
    · skip
      obtain ⟨c, r', rfl⟩ := drop_ne hd (by simp at hi; omega)
      obtain ⟨d, s', rfl⟩ := drop_ne he (by simp at hi; omega)
      have hrow := rowL_at hd
      have hrow2 := rowL_at he
      have hdl := drop_lt hd
      refine awp_skip ?_
      change AWp _ _ _ _ _ _
      refine awp_seq ?_
      refine awp_block ?_
      refine awp_seq ?_
      refine awp_draw0 hmo_LvQ (by kernel_rfl) ?_
      refine awd_q [(2, _)] (.cons rfl (.nil)) rfl rfl rfl ?_
      apply Exists.intro
      refine ⟨fun regs' => ?_, ?_⟩
      · skip
        first | refine awl_fieldAddr fi39_2_LvQ rfl rfl ?_ | refine awl_fieldAddr_i fi39_2_LvQ rfl rfl rfl ?_
        exact awl_done rfl
      refine awd_q [(34, _)] (.cons rfl (.nil)) rfl rfl rfl ?_
      apply Exists.intro
      refine ⟨fun regs' => ?_, ?_⟩
      · skip
        first | refine awl_load_one ti24_LvQ rfl rfl rfl rfl ?_ | refine awl_load_ione ti24_LvQ rfl rfl rfl ?_
        exact awl_done rfl
      refine awd_q [(5, _)] (.cons rfl (.nil)) rfl rfl rfl ?_
      apply Exists.intro
      refine ⟨fun regs' => ?_, ?_⟩
      · skip
        refine awl_move rfl rfl ?_
        exact awl_done rfl
      refine awd_q [(35, _), (36, _)] (.cons rfl (.cons rfl (.nil))) rfl rfl rfl ?_
      apply Exists.intro
      refine ⟨fun regs' => ?_, ?_⟩
      · skip
        refine x_index si24_LvQ ti39_LvQ rfl rfl rfl rfl (by omega) (by first | omega | (simp only [List.length_map]; omega) | (simp; omega)) (by assumption) rfl ?_
        exact awl_done rfl
      refine awd_q [(37, _)] (.cons rfl (.nil)) rfl rfl rfl ?_
      apply Exists.intro
      refine ⟨fun regs' => ?_, ?_⟩
      · skip
        first | refine awl_load_row ti39_LvQ rfl rfl rfl rfl ?_ | refine x_irow ti39_LvQ rfl rfl rfl rfl ?_
        exact awl_done rfl
      refine awd_q [(3, _)] (.cons rfl (.nil)) rfl rfl rfl ?_
      apply Exists.intro
      refine ⟨fun regs' => ?_, ?_⟩
      · skip
        first | refine awl_fieldAddr fi39_2_LvQ rfl rfl ?_ | refine awl_fieldAddr_i fi39_2_LvQ rfl rfl rfl ?_
        exact awl_done rfl
      refine awd_q [(39, _)] (.cons rfl (.nil)) rfl rfl rfl ?_
      apply Exists.intro
      refine ⟨fun regs' => ?_, ?_⟩
      · skip
        first | refine awl_load_one ti24_LvQ rfl rfl rfl rfl ?_ | refine awl_load_ione ti24_LvQ rfl rfl rfl ?_
        exact awl_done rfl
      refine awd_q [(5, _)] (.cons rfl (.nil)) rfl rfl rfl ?_
      apply Exists.intro
      refine ⟨fun regs' => ?_, ?_⟩
      · skip
        refine awl_move rfl rfl ?_
        exact awl_done rfl
      refine awd_q [(40, _), (41, _)] (.cons rfl (.cons rfl (.nil))) rfl rfl rfl ?_
      apply Exists.intro
      refine ⟨fun regs' => ?_, ?_⟩
      · skip
        refine x_index si24_LvQ ti39_LvQ rfl rfl rfl rfl (by omega) (by first | omega | (simp only [List.length_map]; omega) | (simp; omega)) (by assumption) rfl ?_
        exact awl_done rfl
      refine awd_q [(42, _)] (.cons rfl (.nil)) rfl rfl rfl ?_
      apply Exists.intro
      refine ⟨fun regs' => ?_, ?_⟩
      · skip
        first | refine awl_load_row ti39_LvQ rfl rfl rfl rfl ?_ | refine x_irow ti39_LvQ rfl rfl rfl rfl ?_
        exact awl_done rfl
      refine awd_q [(38, _), (43, _)] (.cons rfl (.cons rfl (.nil))) rfl rfl rfl ?_
      apply Exists.intro
      refine ⟨fun regs' => ?_, ?_⟩
      · skip
        refine awl_pcall fb38_LvQ rfl (ih c (drop_mem hd) d) (.cons (by first | exact Sub.refl _ | exact Sub.ts | exact Sub.nil | exact Sub.agc (by repeat (first | exact .nil | refine .cons (by first | exact Sub.refl _ | exact Sub.nil) ?_))) (.cons (by first | exact Sub.refl _ | exact Sub.ts | exact Sub.nil | exact Sub.agc (by repeat (first | exact .nil | refine .cons (by first | exact Sub.refl _ | exact Sub.nil) ?_))) .nil)) rfl ?_
        exact awl_done rfl
      refine awd_q [(44, _)] (.cons rfl (.nil)) rfl rfl rfl ?_
      apply Exists.intro
      refine ⟨fun regs' => ?_, ?_⟩
      · skip
        first | refine awl_un rfl rfl rfl un_notd ?_ | refine awl_un rfl rfl rfl un_not ?_
        exact awl_done rfl
      refine awd_nil ?_
      change AWp _ _ _ _ _ _
      first | refine awp_cond_p rfl (fun hc => ?_) (fun hc => ?_) | refine awp_cond rfl (fun hc => ?_) (fun hc => ?_)
      · skip
        have hc' : eqL c d = false := by simpa using hc
        refine awp_seq ?_
        refine awp_region ?_
        refine awl_assign rfl rfl ?_
        refine awl_nil ?_
        change AWp _ _ _ _ _ _
        refine awp_ret ?_
        change Ends _ _ _ _ _ _
        refine ends1 [] rfl (.tmp rfl) ?_ rfl
        refine ⟨B_eq ?_, rfl⟩; rw [hsp]; simp [eqLs, hc']
      · skip
        have hc' : eqL c d = true := by simpa using hc
        refine awp_skip ?_
        change AWp _ _ _ _ _ _
        refine awp_region ?_
        refine awl_move rfl rfl ?_
        first | refine awl_bin rfl rfl rfl rfl (bin_add_i (by omega)) ?_ | refine awl_bin rfl rfl rfl rfl bin_add ?_
        refine awl_assign rfl rfl ?_
        refine awl_nil ?_
        change ∃ x', _
        refine ⟨(i + 1, r', s'), ⟨drop_next hd, drop_next he, by rw [hsp]; simp [eqLs, hc']⟩, by simp, (Le.mk (.cons rfl (by first | exact Sub.refl _ | exact Sub.ts | exact Sub.nil | (refine Sub.eq ?_; first | (simp; done) | (simp; omega))) (.cons rfl (by first | exact Sub.refl _ | exact Sub.ts | exact Sub.nil | (refine Sub.eq ?_; first | (simp; done) | (simp; omega))) (.cons rfl (by first | exact Sub.refl _ | exact Sub.ts | exact Sub.nil | (refine Sub.eq ?_; first | (simp; done) | (simp; omega))) (.nil)))) (.cons rfl (by first | rfl | (simp; done)) (.cons rfl (by first | rfl | (simp; done)) (.nil))) rfl)⟩
    · skip
      refine awp_exit ?_
      change AWp _ _ _ _ _ _
      refine awp_seq ?_
      refine awp_region ?_
      refine awl_assign rfl rfl ?_
      refine awl_nil ?_
      change AWp _ _ _ _ _ _
      refine awp_ret ?_
      change Ends _ _ _ _ _ _
      refine ends1 [] rfl (.tmp rfl) ?_ rfl
      refine ⟨B_eq ?_, rfl⟩; obtain rfl := drop_end hd (by simp at hi; omega); obtain rfl := drop_end he (by simp at hi; omega); rw [hsp]; rfl
termination_by SizeOf.sizeOf a
decreasing_by exact Lvl.lt hc

end Go.Ab.Ytfgndomaadikoaa
