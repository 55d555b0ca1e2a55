/- The law LevelKeeps. -/
import Derived.Test.YtfgndomaadikoaaLvV
import Derived.Test.YtfgndomaadikoaaAb23
set_option linter.unusedVariables false
set_option linter.unusedSimpArgs false
namespace Go.Ab.Ytfgndomaadikoaa
open Go Go.RowKit Go.Ab Go.Proofs

theorem fb23_LvX : FB Try.prog 23 := ⟨_, Try.func23, rfl, by kernel_rfl⟩
theorem si45_LvX : SI Try.prog 45 5 := ⟨Try.underlying45⟩
theorem ai52_LvX : AI Try.prog 52 4 3 := ⟨Try.underlying52⟩
theorem ti3_LvX : TI Try.prog 3 1 false := ⟨by kernel_rfl, by kernel_rfl⟩
theorem fb29_LvX : FB Try.prog 29 := ⟨_, Try.func29, rfl, by kernel_rfl⟩
theorem fb30_LvX : FB Try.prog 30 := ⟨_, Try.func30, rfl, by kernel_rfl⟩
theorem tz39_LvX : TZ Try.prog 39 [(.int .i64 0), (.int .i64 0), (.slice none 0 0)] := ⟨⟨.agg #[(.int .i64 0), (.int .i64 0), (.slice none 0 0)], by kernel_rfl, rfl⟩, by kernel_rfl⟩
theorem ti39_LvX : TI Try.prog 39 3 true := ⟨by kernel_rfl, by kernel_rfl⟩
theorem si24_LvX : SI Try.prog 24 39 := ⟨Try.underlying24⟩
theorem ei39_LvX : EI Try.prog 39 3 40 := ⟨by kernel_rfl⟩
theorem fb26_LvX : FB Try.prog 26 := ⟨_, Try.func26, rfl, by kernel_rfl⟩
theorem hmo_LvX : Try.prog.follows .mixedOrders = true := by kernel_rfl
theorem fb27_LvX : FB Try.prog 27 := ⟨_, Try.func27, rfl, by kernel_rfl⟩
theorem si41_LvX : SI Try.prog 41 3 := ⟨Try.underlying41⟩
theorem ei3_LvX : EI Try.prog 3 1 8 := ⟨by kernel_rfl⟩
theorem fb42_LvX : FB Try.prog 42 := ⟨_, Try.func42, rfl, by kernel_rfl⟩
theorem fb31_LvX : FB Try.prog 31 := ⟨_, Try.func31, rfl, by kernel_rfl⟩

mutual
/-- How great a value is, where no number is more than M. -/
theorem eval_le {at_ : List Int} {M : Int} (hM : 0 ≤ M) (hl : ∀ x ∈ at_, x ≤ M) : ∀ t : Lvl, evalF at_ t ≤ M + deepL t
  | ⟨k, n, l⟩ => by
    simp only [evalF, deepL]
    have h0 := evals_le hM hl l 0
    have h1 := evals_le hM hl l 1
    have hd := deepLs_pos l
    unfold evK
    split
    · omega
    · split
      · omega
      · split
        · split <;> omega
        · split
          · split
            · rename_i hc
              have hlt : n.toNat < at_.length := by omega
              have : at_.getD n.toNat 0 ≤ M := by
                rw [List.getD_eq_getElem?_getD, List.getElem?_eq_getElem hlt]; exact hl _ (List.getElem_mem hlt)
              omega
            · omega
          · omega
theorem evals_le {at_ : List Int} {M : Int} (hM : 0 ≤ M) (hl : ∀ x ∈ at_, x ≤ M) : ∀ (l : List Lvl) (i : Nat), (evalFs at_ l).getD i 0 ≤ M + deepLs l
  | [], i => by simp [evalFs, deepLs]; omega
  | a :: r, 0 => by
    simp only [evalFs, deepLs, List.getD_cons_zero]
    have := eval_le hM hl a
    omega
  | a :: r, i + 1 => by
    simp only [evalFs, deepLs, List.getD_cons_succ]
    have := evals_le hM hl r i
    omega
end

theorem evK_ne4 (l l' : List Int) {k n : Int} (h : k ≠ 4) (vs : List Int) : evK l k n vs = evK l' k n vs := by
  unfold evK
  simp only [if_neg h]
mutual
/-- Values go through what is put. -/
theorem eval_put (l : List Int) (by_ : List Lvl) (hby : ∀ b ∈ by_, evalF l b ≤ 1099511627776) (h4 : by_.length = 4) : ∀ t : Lvl, wfL t 4 = true → evalF l (putF by_ t) = evalF (by_.map (evalF l)) t
  | ⟨k, n, r⟩, h => by
    have h1 := wf_here h
    simp only [wfL, Bool.and_eq_true] at h
    have hr := evals_put l by_ hby h4 r h.2
    rw [putF_eq]
    simp only
    by_cases hk : k = 4
    · subst hk
      have h2 := h1.2.1
      simp only [true_and, not_or] at h2
      have hlt : n.toNat < by_.length := by omega
      rw [if_pos ⟨rfl, by omega, by omega⟩]
      have hb := hby (by_.getD n.toNat ⟨0, 0, []⟩) (by rw [List.getD_eq_getElem?_getD, List.getElem?_eq_getElem hlt]; exact List.getElem_mem hlt)
      have hb0 := (evalF_bd l (by_.getD n.toNat ⟨0, 0, []⟩)).1
      have e : (by_.map (evalF l)).getD n.toNat 0 = evalF l (by_.getD n.toNat ⟨0, 0, []⟩) := by
        simp [List.getD_eq_getElem?_getD, hlt]
      rw [evalF_eq (by_.map (evalF l))]
      have hq : evK (by_.map (evalF l)) 4 n (evalFs (by_.map (evalF l)) r) = min (max ((by_.map (evalF l)).getD n.toNat 0) 0) 1099511627776 := by
        unfold evK
        simp only [List.length_map, if_neg (show ¬ (4 : Int) = 1 by omega), if_neg (show ¬ (4 : Int) = 2 by omega), if_neg (show ¬ (4 : Int) = 3 by omega), if_true]
        rw [if_pos ⟨by omega, by omega⟩]
      simp only
      rw [hq, e]
      omega
    · rw [if_neg (fun q => hk q.1), evalF_eq, evalF_eq (by_.map (evalF l))]
      simp only
      rw [hr, evK_ne4 l (by_.map (evalF l)) hk]
theorem evals_put (l : List Int) (by_ : List Lvl) (hby : ∀ b ∈ by_, evalF l b ≤ 1099511627776) (h4 : by_.length = 4) : ∀ r : List Lvl, wfLs r 4 = true → evalFs l (putFs by_ r) = evalFs (by_.map (evalF l)) r
  | [], _ => rfl
  | a :: r, h => by
    simp only [wfLs, Bool.and_eq_true] at h
    simp only [putFs, evalFs]
    rw [eval_put l by_ hby h4 a h.1, evals_put l by_ hby h4 r h.2]
end

theorem small_by {l : List Int} {M : Int} {by_ : List Lvl} (hM : 0 ≤ M) (hM2 : M ≤ 1099511627744) (hl : ∀ x ∈ l, x ≤ M) (hby : ∀ b ∈ by_, lt4 b) : ∀ b ∈ by_, evalF l b ≤ 1099511627776 := fun b hb => by
  have := eval_le hM hl b
  have := (hby b hb).2.1
  omega
theorem keeps_leq {a b : Lvl} {by_ : List Lvl} (hA : lt4 a) (hB : lt4 b) (hby : ∀ b ∈ by_, lt4 b) (h4 : by_.length = 4) (hX : lt4 (putF by_ a)) (hY : lt4 (putF by_ b)) (h : (!leqF a b) = false) : leqF (putF by_ a) (putF by_ b) = true := by
  simp only [Bool.not_eq_false'] at h
  refine leq_complete hX.2.2 hY.2.2 hX.2.1 hY.2.1 fun x0 x1 x2 x3 p0 p1 p2 p3 => ?_
  have hs := small_by (l := [x0, x1, x2, x3]) (M := 1000) (by omega) (by omega) (by unfold isP at p0 p1 p2 p3; simp; omega) hby
  rw [eval_put _ by_ hs h4 a hA.2.2, eval_put _ by_ hs h4 b hB.2.2]
  obtain ⟨y0, y1, y2, y3, e⟩ : ∃ y0 y1 y2 y3, by_.map (evalF [x0, x1, x2, x3]) = [y0, y1, y2, y3] := by
    match by_, h4 with
    | [b0, b1, b2, b3], _ => exact ⟨_, _, _, _, rfl⟩
  rw [e]
  exact leq_sound' _ _ _ _ hA.2.2 hB.2.2 h
theorem keeps_eval {a : Lvl} {by_ : List Lvl} {x0 x1 x2 x3 : Int} (hA : lt4 a) (hby : ∀ b ∈ by_, lt4 b) (h4 : by_.length = 4) (hx : ¬ max (max (max x0 x1) x2) x3 > 1073741824) : evalF [x0, x1, x2, x3] (putF by_ a) = evalF (by_.map (evalF [x0, x1, x2, x3])) a :=
  eval_put _ by_ (small_by (l := [x0, x1, x2, x3]) (M := 1073741824) (by omega) (by omega) (by simp; omega) hby) h4 a hA.2.2
theorem light_all {ls : List Lvl} (h : (!(ls.all fun l => lightB l 4)) = false) : ∀ b ∈ ls, lt4 b := fun b hb => by
  simp only [Bool.not_eq_false'] at h
  exact of_decide_eq_true (List.all_eq_true.1 h b hb)
theorem sub_by {k : Nat} {xs : List Lvl} {a : Lvl} : Sub (.ts k 3 (encLs xs ++ encLs [a])) (.p (.sl 3 (encLs (xs ++ [a])))) := by rw [encLs_app]; exact Sub.ts

theorem LevelKeeps_con (picks : List Int) (x0 x1 x2 x3 : Int) (hl : okB picks) (hll : (picks.length : Int) ≤ 9223372036854775807) :
    PCon Try.prog 11 [.p (.sl 1 (byts picks)), .ag [.p (I x0), .p (I x1), .p (I x2), .p (I x3)]] (.p (B true)) := by
  have hg := pL_ge picks 4 (picks.length + 1) 0
  have hg2 := pL_ge picks 4 (picks.length + 1) (pL picks 4 (picks.length + 1) 0).2
  refine con_of Try.func11 rfl 91 Try.ntmps11 rfl fun cx hcx => ?_
  refine awp_seq ?_
  refine awp_region ?_
  refine awl_box rfl rfl rfl rfl rfl (by rw [hcx]; rfl) rfl ?_
  refine awl_assign rfl rfl ?_
  refine awl_nil ?_
  change AWp _ _ _ _ _ _
  refine awp_seq ?_
  refine awp_seq ?_
  refine awp_region ?_
  refine awl_pcall fb23_LvX rfl (begun4_con) .nil rfl ?_
  first | refine awl_un rfl rfl rfl un_notd ?_ | refine awl_un rfl rfl rfl un_not ?_
  refine awl_nil ?_
  change AWp _ _ _ _ _ _
  refine awp_cond_f (by first | exact rfl | exact decide_eq_true rfl | exact decide_eq_false rfl) rfl ?_
  refine awp_skip ?_
  change AWp _ _ _ _ _ _
  refine awp_seq ?_
  refine awp_seq ?_
  refine awp_region ?_
  refine awl_move rfl rfl ?_
  refine x_len si45_LvX rfl rfl rfl (fun hlen6 => ?_)
  refine awl_bin rfl rfl rfl rfl bin_gtr ?_
  refine awl_move rfl rfl ?_
  first | refine awl_split_p 18 rfl (fun hm => ?_) (fun hm => ?_) | refine awl_split 18 rfl (fun hm => ?_) (fun hm => ?_)
  · skip
    refine awl_guard_no rfl (by first | exact hm | exact decide_eq_true hm | exact decide_eq_false hm) rfl rfl rfl rfl ?_
    refine awl_guard_no rfl (by first | exact hm | exact decide_eq_true hm | exact decide_eq_false hm) rfl rfl rfl rfl ?_
    refine awl_guard_no rfl (by first | exact hm | exact decide_eq_true hm | exact decide_eq_false hm) rfl rfl rfl rfl ?_
    refine awl_guard_no rfl (by first | exact hm | exact decide_eq_true hm | exact decide_eq_false hm) rfl rfl rfl rfl ?_
    refine awl_guard_no rfl (by first | exact hm | exact decide_eq_true hm | exact decide_eq_false hm) rfl rfl rfl rfl ?_
    refine awl_guard_no rfl (by first | exact hm | exact decide_eq_true hm | exact decide_eq_false hm) rfl rfl rfl rfl ?_
    refine awl_guard_no rfl (by first | exact hm | exact decide_eq_true hm | exact decide_eq_false hm) rfl rfl rfl rfl ?_
    refine awl_guard_no rfl (by first | exact hm | exact decide_eq_true hm | exact decide_eq_false hm) rfl rfl rfl rfl ?_
    refine awl_guard_no rfl (by first | exact hm | exact decide_eq_true hm | exact decide_eq_false hm) rfl rfl rfl rfl ?_
    refine awl_guard_no rfl (by first | exact hm | exact decide_eq_true hm | exact decide_eq_false hm) rfl rfl rfl rfl ?_
    refine awl_pick_t (by first | exact hm | exact decide_eq_true hm | exact decide_eq_false hm) rfl rfl rfl ?_
    refine awl_nil ?_
    change AWp _ _ _ _ _ _
    refine awp_cond_t rfl rfl ?_
    refine awp_seq ?_
    refine awp_region ?_
    refine awl_assign rfl rfl ?_
    refine awl_nil ?_
    change AWp _ _ _ _ _ _
    refine awp_ret ?_
    change Ends _ _ _ _ _ _
    refine ends1 [] rfl (.tmp rfl) ?_ rfl
    first | exact ⟨rfl, rfl⟩ | exact ⟨B_eq (decide_eq_true (keeps_eval hA hby hlen hmx)), rfl⟩
  · skip
    refine awl_guard_yes rfl (by first | exact hm | exact decide_eq_true hm | exact decide_eq_false hm) rfl rfl ?_
    refine x_arr ai52_LvX ti3_LvX rfl rfl (by omega) (by omega) rfl rfl ?_
    refine awl_guard_yes rfl (by first | exact hm | exact decide_eq_true hm | exact decide_eq_false hm) rfl rfl ?_
    first | refine awl_load_one ti3_LvX rfl rfl rfl rfl ?_ | refine awl_load_ione ti3_LvX rfl rfl rfl ?_
    refine awl_guard_yes rfl (by first | exact hm | exact decide_eq_true hm | exact decide_eq_false hm) rfl rfl ?_
    refine x_arr ai52_LvX ti3_LvX rfl rfl (by omega) (by omega) rfl rfl ?_
    refine awl_guard_yes rfl (by first | exact hm | exact decide_eq_true hm | exact decide_eq_false hm) rfl rfl ?_
    first | refine awl_load_one ti3_LvX rfl rfl rfl rfl ?_ | refine awl_load_ione ti3_LvX rfl rfl rfl ?_
    refine awl_guard_yes rfl (by first | exact hm | exact decide_eq_true hm | exact decide_eq_false hm) rfl rfl ?_
    refine x_arr ai52_LvX ti3_LvX rfl rfl (by omega) (by omega) rfl rfl ?_
    refine awl_guard_yes rfl (by first | exact hm | exact decide_eq_true hm | exact decide_eq_false hm) rfl rfl ?_
    first | refine awl_load_one ti3_LvX rfl rfl rfl rfl ?_ | refine awl_load_ione ti3_LvX rfl rfl rfl ?_
    refine awl_guard_yes rfl (by first | exact hm | exact decide_eq_true hm | exact decide_eq_false hm) rfl rfl ?_
    refine x_arr ai52_LvX ti3_LvX rfl rfl (by omega) (by omega) rfl rfl ?_
    refine awl_guard_yes rfl (by first | exact hm | exact decide_eq_true hm | exact decide_eq_false hm) rfl rfl ?_
    first | refine awl_load_one ti3_LvX rfl rfl rfl rfl ?_ | refine awl_load_ione ti3_LvX rfl rfl rfl ?_
    refine awl_guard_yes rfl (by first | exact hm | exact decide_eq_true hm | exact decide_eq_false hm) rfl rfl ?_
    refine awl_max4 rfl rfl rfl rfl rfl ?_
    refine awl_guard_yes rfl (by first | exact hm | exact decide_eq_true hm | exact decide_eq_false hm) rfl rfl ?_
    refine awl_bin rfl rfl rfl rfl bin_gtr ?_
    refine awl_pick_f (by first | exact hm | exact decide_eq_true hm | exact decide_eq_false hm) rfl rfl rfl ?_
    refine awl_nil ?_
    change AWp _ _ _ _ _ _
    first | refine awp_cond_p rfl (fun hmx => ?_) (fun hmx => ?_) | refine awp_cond rfl (fun hmx => ?_) (fun hmx => ?_)
    · skip
      refine awp_seq ?_
      refine awp_region ?_
      refine awl_assign rfl rfl ?_
      refine awl_nil ?_
      change AWp _ _ _ _ _ _
      refine awp_ret ?_
      change Ends _ _ _ _ _ _
      refine ends1 [] rfl (.tmp rfl) ?_ rfl
      first | exact ⟨rfl, rfl⟩ | exact ⟨B_eq (decide_eq_true (keeps_eval hA hby hlen hmx)), rfl⟩
    · skip
      refine awp_skip ?_
      change AWp _ _ _ _ _ _
      refine awp_seq ?_
      refine awp_ice 3 3 (cs := [I x0, I x1, I x2, I x3]) rfl rfl rfl ?_
      refine awp_region ?_
      refine awl_move rfl rfl ?_
      refine x_call [] fb29_LvX rfl rfl rfl ((Made_con picks).sw 5 800) (.cons (by first | exact Sub.refl _ | exact Sub.ts | exact Sub.nil | exact Sub.agc (by repeat (first | exact .nil | refine .cons (by first | exact Sub.refl _ | exact Sub.nil) ?_))) .nil) rfl (fun r o ⟨_, _, ⟨e1, e2⟩, e3, e4⟩ => ?_)
      subst e1 e2 e3 e4
      refine ⟨by rw [hcx]; rfl, _, rfl, ?_⟩
      refine awl_assign rfl rfl ?_
      refine awl_nil ?_
      change AWp _ _ _ _ _ _
      refine awp_seq ?_
      refine awp_region ?_
      refine awl_move rfl rfl ?_
      refine x_call [800] fb30_LvX rfl rfl rfl ((Level_con picks hl hll 4 (by omega) (picks.length + 1) 0 (by omega) (by omega) (by omega)).sw 1000 800) (.cons (by first | exact Sub.refl _ | exact Sub.ts | exact Sub.nil | exact Sub.agc (by repeat (first | exact .nil | refine .cons (by first | exact Sub.refl _ | exact Sub.nil) ?_))) (.cons (by first | exact Sub.refl _ | exact Sub.ts | exact Sub.nil | exact Sub.agc (by repeat (first | exact .nil | refine .cons (by first | exact Sub.refl _ | exact Sub.nil) ?_))) .nil)) rfl (fun r o ⟨_, _, ⟨e1, e2⟩, e3, e4⟩ => ?_)
      subst e1 e2 e3 e4
      refine ⟨by rw [hcx]; rfl, _, rfl, ?_⟩
      refine x_alloc tz39_LvX rfl rfl (by rw [hcx]; rfl) rfl ?_
      refine x_store ti39_LvX rfl rfl rfl rfl rfl rfl rfl rfl ?_
      refine awl_nil ?_
      change AWp _ _ _ _ _ _
      refine awp_seq ?_
      refine awp_region ?_
      refine awl_move rfl rfl ?_
      refine x_call [800] fb30_LvX rfl rfl rfl ((Level_con picks hl hll 4 (by omega) (picks.length + 1) (pL picks 4 (picks.length + 1) 0).2 (by omega) (by omega) (by omega)).sw 1000 800) (.cons (by first | exact Sub.refl _ | exact Sub.ts | exact Sub.nil | exact Sub.agc (by repeat (first | exact .nil | refine .cons (by first | exact Sub.refl _ | exact Sub.nil) ?_))) (.cons (by first | exact Sub.refl _ | exact Sub.ts | exact Sub.nil | exact Sub.agc (by repeat (first | exact .nil | refine .cons (by first | exact Sub.refl _ | exact Sub.nil) ?_))) .nil)) rfl (fun r o ⟨_, _, ⟨e1, e2⟩, e3, e4⟩ => ?_)
      subst e1 e2 e3 e4
      refine ⟨by rw [hcx]; rfl, _, rfl, ?_⟩
      refine x_alloc tz39_LvX rfl rfl (by rw [hcx]; rfl) rfl ?_
      refine x_store ti39_LvX rfl rfl rfl rfl rfl rfl rfl rfl ?_
      refine awl_nil ?_
      change AWp _ _ _ _ _ _
      refine awp_seq ?_
      refine awp_region ?_
      refine awl_assign rfl rfl ?_
      refine awl_nil ?_
      change AWp _ _ _ _ _ _
      refine awp_seq ?_
      refine awp_region ?_
      refine awl_assign rfl rfl ?_
      refine awl_nil ?_
      change AWp _ _ _ _ _ _
      refine awp_seq ?_
      refine awp_seq ?_
      refine awp_region ?_
      refine awl_assign rfl rfl ?_
      refine awl_nil ?_
      change AWp _ _ _ _ _ _
      refine awp_block ?_
      refine x_loop [(3, _), (5, _), (6, _), (7, _)] [(7, _), (6, _)] (fun x : Nat × List Lvl × Int => [(10, .p (I x.1)), (8, .ts 500 3 (encLs x.2.1)), (9, .ts 600 1 (ints (x.2.1.map (evalF [x0, x1, x2, x3]))))]) (fun x => [(500, .ar 39 3 (encLs x.2.1).length), (600, .ar 3 1 (ints (x.2.1.map (evalF [x0, x1, x2, x3]))).length), (800, pk picks x.2.2)]) (fun x => x.1 ≤ 4 ∧ x.2.1.length = x.1 ∧ (∀ b ∈ x.2.1, lt4 b) ∧ (∀ b ∈ x.2.1, narL b = true) ∧ 0 ≤ x.2.2 ∧ x.2.2 ≤ picks.length) (fun x => 4 - x.1) (0, [], (pL picks 4 (picks.length + 1) (pL picks 4 (picks.length + 1) 0).2).2) (Le.trans (Le.trans (Le.tok 8 500 39 3 rfl rfl (by rw [hcx]; rfl)) (Le.tok 9 600 3 1 rfl rfl (by rw [hcx]; rfl))) (Le.mk (.cons rfl (by first | exact Sub.refl _ | exact Sub.ts | exact Sub.nil | (refine Sub.eq ?_; first | (simp; done) | (simp; omega) | (simp [encLs_app, ints]))) (.cons rfl (by first | exact Sub.refl _ | exact Sub.ts | exact Sub.nil | (refine Sub.eq ?_; first | (simp; done) | (simp; omega) | (simp [encLs_app, ints]))) (.cons rfl (by first | exact Sub.refl _ | exact Sub.ts | exact Sub.nil | (refine Sub.eq ?_; first | (simp; done) | (simp; omega) | (simp [encLs_app, ints]))) (.cons rfl (by first | exact Sub.refl _ | exact Sub.ts | exact Sub.nil | (refine Sub.eq ?_; first | (simp; done) | (simp; omega) | (simp [encLs_app, ints]))) (.cons rfl (by first | exact Sub.refl _ | exact Sub.ts | exact Sub.nil | (refine Sub.eq ?_; first | (simp; done) | (simp; omega) | (simp [encLs_app, ints]))) (.cons rfl (by first | exact Sub.refl _ | exact Sub.ts | exact Sub.nil | (refine Sub.eq ?_; first | (simp; done) | (simp; omega) | (simp [encLs_app, ints]))) (.cons rfl (by first | exact Sub.refl _ | exact Sub.ts | exact Sub.nil | (refine Sub.eq ?_; first | (simp; done) | (simp; omega) | (simp [encLs_app, ints]))) (.nil)))))))) (.cons rfl (by first | rfl | (simp; done) | (simp; done)) (.cons rfl (by first | rfl | (simp; done) | (simp; done)) (.cons rfl (by first | rfl | (simp; done) | (simp; done)) (.cons rfl (by first | rfl | (simp; done) | (simp; done)) (.cons rfl (by first | rfl | (simp; done) | (simp; done)) (.nil)))))) rfl)) ⟨by simp, rfl, (fun b hb => by cases hb), (fun b hb => by cases hb), by simp only; omega, by simp only; omega⟩ (fun x hx => ?_)
      obtain ⟨i, bys, p⟩ := x
      obtain ⟨hi4, hlen, hby, hnar, hp0, hp1⟩ := hx
      simp only at hi4 hlen hby hnar hp0 hp1
      dsimp only [List.cons_append, List.nil_append]
      refine awp_seq ?_
      refine awp_seq ?_
      refine awp_region ?_
      refine awl_move rfl rfl ?_
      refine awl_bin rfl rfl rfl rfl bin_lss ?_
      refine awl_nil ?_
      change AWp _ _ _ _ _ _
      first | refine awp_cond_p rfl (fun hi => ?_) (fun hi => ?_) | refine awp_cond rfl (fun hi => ?_) (fun hi => ?_)
      · skip
        have hgp := pL_ge picks 4 (picks.length + 1) p
        have hrow : rowAt (encLs (bys ++ [(pL picks 4 (picks.length + 1) p).1])) (i : Int) = rowL (pL picks 4 (picks.length + 1) p).1 := rowL_at (r := []) (by simp [hlen])
        refine awp_skip ?_
        change AWp _ _ _ _ _ _
        refine awp_seq ?_
        refine awp_block ?_
        refine awp_seq ?_
        refine awp_region ?_
        refine awl_move rfl rfl ?_
        refine awl_move rfl rfl ?_
        refine x_call [800] fb30_LvX rfl rfl rfl ((Level_con picks hl hll 4 (by omega) (picks.length + 1) p (by omega) (by omega) (by omega)).sw 1000 800) (.cons (by first | exact Sub.refl _ | exact Sub.ts | exact Sub.nil | exact Sub.agc (by repeat (first | exact .nil | refine .cons (by first | exact Sub.refl _ | exact Sub.nil) ?_))) (.cons (by first | exact Sub.refl _ | exact Sub.ts | exact Sub.nil | exact Sub.agc (by repeat (first | exact .nil | refine .cons (by first | exact Sub.refl _ | exact Sub.nil) ?_))) .nil)) rfl (fun r o ⟨_, _, ⟨e1, e2⟩, e3, e4⟩ => ?_)
        subst e1 e2 e3 e4
        refine ⟨by rw [hcx]; rfl, _, rfl, ?_⟩
        refine x_slice si24_LvX ei39_LvX rfl rfl rfl rfl ?_
        refine awl_sub (sub_one _) ?_
        first | refine x_append si24_LvX ei39_LvX rfl rfl (by first | rfl | simp) rfl rfl rfl (.inl rfl) rfl rfl (by simp; omega) (by simp; omega) ?_ | refine awl_append_nil si24_LvX ei39_LvX rfl rfl (by rw [hcx]; rfl) rfl rfl rfl (.inl rfl) (by simp; omega) (by simp; omega) rfl ?_
        refine awl_assign rfl rfl ?_
        refine awl_nil ?_
        change AWp _ _ _ _ _ _
        refine awp_seq ?_
        refine awp_seq ?_
        refine awp_region ?_
        refine awl_move rfl rfl ?_
        refine awl_sub sub_by ?_
        refine awl_pcall fb26_LvX rfl (Light_con _) (.cons (by first | exact Sub.refl _ | exact Sub.ts | exact Sub.nil | exact Sub.agc (by repeat (first | exact .nil | refine .cons (by first | exact Sub.refl _ | exact Sub.nil) ?_))) .nil) rfl ?_
        first | refine awl_un rfl rfl rfl un_notd ?_ | refine awl_un rfl rfl rfl un_not ?_
        refine awl_nil ?_
        change AWp _ _ _ _ _ _
        first | refine awp_cond_p rfl (fun hL => ?_) (fun hL => ?_) | refine awp_cond rfl (fun hL => ?_) (fun hL => ?_)
        · skip
          refine awp_seq ?_
          refine awp_region ?_
          refine awl_assign rfl rfl ?_
          refine awl_nil ?_
          change AWp _ _ _ _ _ _
          refine awp_ret ?_
          change Ends _ _ _ _ _ _
          refine ends1 [] rfl (.tmp rfl) ?_ rfl
          first | exact ⟨rfl, rfl⟩ | exact ⟨B_eq (decide_eq_true (keeps_eval hA hby hlen hmx)), rfl⟩
        · skip
          have hby2 := light_all hL
          have hA1 := hby2 _ (List.mem_append_right _ (List.mem_singleton.2 rfl))
          refine awp_skip ?_
          change AWp _ _ _ _ _ _
          apply awp_drawS [8] [8] [] ((fun (B : Obs) => oget [([], B), ([8], _)]) _)
          · rfl
          · rfl
          · exact hmo_LvX
          · kernel_rfl
          · rfl
          refine awd_s [[]] [(9, _)] (.cons rfl (.nil)) rfl rfl rfl (by kernel_rfl) ?_
          apply Exists.intro
          refine ⟨(⟨fun regs' => ?_, trivial⟩), ?_, ?_⟩
          · skip
            refine awl_move rfl rfl ?_
            exact awl_doneS rfl rfl
          · kernel_rfl
          refine awd_s [[]] [(8, _)] (.cons rfl (.nil)) rfl rfl rfl (by kernel_rfl) ?_
          apply Exists.intro
          refine ⟨(⟨fun regs' => ?_, trivial⟩), ?_, ?_⟩
          · skip
            refine awl_move rfl rfl ?_
            refine awl_sub sub_by ?_
            exact awl_doneS rfl rfl
          · kernel_rfl
          refine awd_s [[]] [(10, _)] (.cons rfl (.nil)) rfl rfl rfl (by kernel_rfl) ?_
          apply Exists.intro
          refine ⟨(⟨fun regs' => ?_, trivial⟩), ?_, ?_⟩
          · skip
            refine awl_move rfl rfl ?_
            exact awl_doneS rfl rfl
          · kernel_rfl
          refine awd_s [[]] [(49, _), (50, _)] (.cons rfl (.cons rfl (.nil))) rfl rfl rfl (by kernel_rfl) ?_
          apply Exists.intro
          refine ⟨(⟨fun regs' => ?_, trivial⟩), ?_, ?_⟩
          · skip
            refine x_index si24_LvX ti39_LvX rfl rfl rfl rfl (by omega) (by first | omega | (simp only [List.length_map]; omega) | (simp; omega)) hrow rfl ?_
            exact awl_doneS rfl rfl
          · kernel_rfl
          refine awd_s [[]] [(51, _)] (.cons rfl (.nil)) rfl rfl rfl (by kernel_rfl) ?_
          apply Exists.intro
          refine ⟨(⟨fun regs' => ?_, trivial⟩), ?_, ?_⟩
          · skip
            first | refine awl_load_row ti39_LvX rfl rfl rfl rfl ?_ | refine x_irow ti39_LvX rfl rfl rfl rfl ?_
            exact awl_doneS rfl rfl
          · kernel_rfl
          refine awd_s [[]] [(3, _)] (.cons rfl (.nil)) rfl rfl rfl (by kernel_rfl) ?_
          apply Exists.intro
          refine ⟨(⟨fun regs' => ?_, trivial⟩), ?_, ?_⟩
          · skip
            refine x_whole ai52_LvX ti3_LvX rfl rfl rfl rfl ?_
            exact awl_doneS rfl rfl
          · kernel_rfl
          refine awd_s [[]] [(52, _), (53, _)] (.cons rfl (.cons rfl (.nil))) rfl rfl rfl (by kernel_rfl) ?_
          apply Exists.intro
          refine ⟨(⟨fun regs' => ?_, trivial⟩), ?_, ?_⟩
          · skip
            refine awl_pcall fb27_LvX rfl (Eval_con [x0, x1, x2, x3] 4 _ hA1.2.2 (by omega)) (.cons (by first | exact Sub.refl _ | exact Sub.ts | exact Sub.nil | exact Sub.agc (by repeat (first | exact .nil | refine .cons (by first | exact Sub.refl _ | exact Sub.nil) ?_))) (.cons (by first | exact Sub.refl _ | exact Sub.ts | exact Sub.nil | exact Sub.agc (by repeat (first | exact .nil | refine .cons (by first | exact Sub.refl _ | exact Sub.nil) ?_))) .nil)) rfl ?_
            exact awl_doneS rfl rfl
          · kernel_rfl
          refine awd_s [[]] [(54, _)] (.cons rfl (.nil)) rfl rfl rfl (by kernel_rfl) ?_
          apply Exists.intro
          refine ⟨(⟨fun regs' => ?_, trivial⟩), ?_, ?_⟩
          · skip
            refine x_slice si41_LvX ei3_LvX rfl rfl rfl rfl ?_
            exact awl_doneS rfl rfl
          · kernel_rfl
          refine awd_e [] rfl rfl rfl (by kernel_rfl) rfl rfl ?_
          apply Exists.intro
          refine ⟨?_, ?_, ?_⟩
          · skip
            first | refine x_append si41_LvX ei3_LvX rfl rfl (by first | rfl | simp) rfl rfl rfl (.inl rfl) rfl rfl (by simp; omega) (by simp; omega) ?_ | refine awl_append_nil si41_LvX ei3_LvX rfl rfl (by rw [hcx]; rfl) rfl rfl rfl (.inl rfl) (by simp; omega) (by simp; omega) rfl ?_
            exact awl_done rfl
          · kernel_rfl
          refine awd_s [[8]] [(56, _)] (.cons rfl (.nil)) rfl rfl rfl (by kernel_rfl) ?_
          apply Exists.intro
          refine ⟨(⟨fun regs' => ?_, trivial⟩), ?_, ?_⟩
          · skip
            refine awl_assign rfl rfl ?_
            exact awl_doneS rfl rfl
          · kernel_rfl
          refine awd_endS ?_
          try dsimp only [putd]
          change AWp _ _ _ _ _ _
          refine awp_region ?_
          refine awl_move rfl rfl ?_
          first | refine awl_bin rfl rfl rfl rfl (bin_add_i (by omega)) ?_ | refine awl_bin rfl rfl rfl rfl bin_add ?_
          refine awl_assign rfl rfl ?_
          refine awl_nil ?_
          change ∃ x', _
          refine ⟨(i + 1, bys ++ [(pL picks 4 (picks.length + 1) p).1], (pL picks 4 (picks.length + 1) p).2), ⟨by simp only; omega, by simp [hlen], hby2, (fun b hb => by rcases List.mem_append.1 hb with h | h; exact hnar b h; rw [List.mem_singleton.1 h]; exact pL_nar ..), by simp only; omega, by simp only; omega⟩, (by simp only; omega), (Le.mk (.cons rfl (by first | exact Sub.refl _ | exact Sub.ts | exact Sub.nil | (refine Sub.eq ?_; first | (simp; done) | (simp; omega) | (simp [encLs_app, ints]))) (.cons rfl (by first | exact Sub.refl _ | exact Sub.ts | exact Sub.nil | (refine Sub.eq ?_; first | (simp; done) | (simp; omega) | (simp [encLs_app, ints]))) (.cons rfl (by first | exact Sub.refl _ | exact Sub.ts | exact Sub.nil | (refine Sub.eq ?_; first | (simp; done) | (simp; omega) | (simp [encLs_app, ints]))) (.cons rfl (by first | exact Sub.refl _ | exact Sub.ts | exact Sub.nil | (refine Sub.eq ?_; first | (simp; done) | (simp; omega) | (simp [encLs_app, ints]))) (.cons rfl (by first | exact Sub.refl _ | exact Sub.ts | exact Sub.nil | (refine Sub.eq ?_; first | (simp; done) | (simp; omega) | (simp [encLs_app, ints]))) (.cons rfl (by first | exact Sub.refl _ | exact Sub.ts | exact Sub.nil | (refine Sub.eq ?_; first | (simp; done) | (simp; omega) | (simp [encLs_app, ints]))) (.cons rfl (by first | exact Sub.refl _ | exact Sub.ts | exact Sub.nil | (refine Sub.eq ?_; first | (simp; done) | (simp; omega) | (simp [encLs_app, ints]))) (.nil)))))))) (.cons rfl (by first | rfl | (simp; done) | (simp; done)) (.cons rfl (by first | rfl | (simp; done) | (simp; done)) (.cons rfl (by first | rfl | (simp; done) | (simp; done)) (.cons rfl (by first | rfl | (simp; done) | (simp; done)) (.cons rfl (by first | rfl | (simp; done) | (simp; done)) (.nil)))))) rfl)⟩
      · skip
        obtain rfl : i = 4 := by omega
        refine awp_exit ?_
        change AWp _ _ _ _ _ _
        refine awp_seq ?_
        refine awp_seq ?_
        refine awp_region ?_
        first | refine awl_load_row ti39_LvX rfl rfl rfl rfl ?_ | refine x_irow ti39_LvX rfl rfl rfl rfl ?_
        first | refine awl_load_row ti39_LvX rfl rfl rfl rfl ?_ | refine x_irow ti39_LvX rfl rfl rfl rfl ?_
        refine x_slice si24_LvX ei39_LvX rfl rfl rfl rfl ?_
        refine awl_sub (sub_two _ _) ?_
        refine awl_pcall fb26_LvX rfl (Light_con _) (.cons (by first | exact Sub.refl _ | exact Sub.ts | exact Sub.nil | exact Sub.agc (by repeat (first | exact .nil | refine .cons (by first | exact Sub.refl _ | exact Sub.nil) ?_))) .nil) rfl ?_
        first | refine awl_un rfl rfl rfl un_notd ?_ | refine awl_un rfl rfl rfl un_not ?_
        refine awl_nil ?_
        change AWp _ _ _ _ _ _
        first | refine awp_cond_p rfl (fun hg3 => ?_) (fun hg3 => ?_) | refine awp_cond rfl (fun hg3 => ?_) (fun hg3 => ?_)
        · skip
          refine awp_seq ?_
          refine awp_region ?_
          refine awl_assign rfl rfl ?_
          refine awl_nil ?_
          change AWp _ _ _ _ _ _
          refine awp_ret ?_
          change Ends _ _ _ _ _ _
          refine ends1 [] rfl (.tmp rfl) ?_ rfl
          first | exact ⟨rfl, rfl⟩ | exact ⟨B_eq (decide_eq_true (keeps_eval hA hby hlen hmx)), rfl⟩
        · skip
          obtain ⟨hA, hB⟩ := light2 hg3
          refine awp_skip ?_
          change AWp _ _ _ _ _ _
          refine awp_seq ?_
          apply awp_drawS [6, 7, 8, 9] [8, 9] [(6, 11), (7, 12)] ((fun (B : Obs) => oget [([], B), ([6], (11, .ce 39 [.p (.v (.int .i64 0)), .p (.v (.int .i64 0)), .p (.v (.slice none 0 0))]) :: B), ([7], (12, .ce 39 [.p (.v (.int .i64 0)), .p (.v (.int .i64 0)), .p (.v (.slice none 0 0))]) :: B), ([6, 7], (12, .ce 39 [.p (.v (.int .i64 0)), .p (.v (.int .i64 0)), .p (.v (.slice none 0 0))]) :: (11, .ce 39 [.p (.v (.int .i64 0)), .p (.v (.int .i64 0)), .p (.v (.slice none 0 0))]) :: B), ([6, 7, 8], _), ([6, 7, 8, 9], _)]) _)
          · rfl
          · rfl
          · exact hmo_LvX
          · kernel_rfl
          · rfl
          refine awd_s [[6, 7], [6], [7], []] [(6, _)] (.cons rfl (.nil)) rfl rfl rfl (by kernel_rfl) ?_
          apply Exists.intro
          refine ⟨(⟨fun regs' => ?_,⟨fun regs' => ?_,⟨fun regs' => ?_,⟨fun regs' => ?_, trivial⟩⟩⟩⟩), ?_, ?_⟩
          · skip
            first | refine awl_load_row ti39_LvX rfl rfl rfl rfl ?_ | refine x_irow ti39_LvX rfl rfl rfl rfl ?_
            exact awl_doneS rfl rfl
          · skip
            first | refine awl_load_row ti39_LvX rfl rfl rfl rfl ?_ | refine x_irow ti39_LvX rfl rfl rfl rfl ?_
            exact awl_doneS rfl rfl
          · skip
            first | refine awl_load_row ti39_LvX rfl rfl rfl rfl ?_ | refine x_irow ti39_LvX rfl rfl rfl rfl ?_
            exact awl_doneS rfl rfl
          · skip
            first | refine awl_load_row ti39_LvX rfl rfl rfl rfl ?_ | refine x_irow ti39_LvX rfl rfl rfl rfl ?_
            exact awl_doneS rfl rfl
          · kernel_rfl
          refine awd_s [[6, 7], [6], [7], []] [(8, _)] (.cons rfl (.nil)) rfl rfl rfl (by kernel_rfl) ?_
          apply Exists.intro
          refine ⟨(⟨fun regs' => ?_,⟨fun regs' => ?_,⟨fun regs' => ?_,⟨fun regs' => ?_, trivial⟩⟩⟩⟩), ?_, ?_⟩
          · skip
            refine awl_move rfl rfl ?_
            exact awl_doneS rfl rfl
          · skip
            refine awl_move rfl rfl ?_
            exact awl_doneS rfl rfl
          · skip
            refine awl_move rfl rfl ?_
            exact awl_doneS rfl rfl
          · skip
            refine awl_move rfl rfl ?_
            exact awl_doneS rfl rfl
          · kernel_rfl
          refine awd_s [[6, 7], [6], [7], []] [(62, _), (63, _)] (.cons rfl (.cons rfl (.nil))) rfl rfl rfl (by kernel_rfl) ?_
          apply Exists.intro
          refine ⟨(⟨fun regs' => ?_,⟨fun regs' => ?_,⟨fun regs' => ?_,⟨fun regs' => ?_, trivial⟩⟩⟩⟩), ?_, ?_⟩
          · skip
            refine awl_pcall fb42_LvX rfl (Put_con bys hnar _ (pL_nar ..)) (.cons (by first | exact Sub.refl _ | exact Sub.ts | exact Sub.nil | exact Sub.agc (by repeat (first | exact .nil | refine .cons (by first | exact Sub.refl _ | exact Sub.nil) ?_))) (.cons (by first | exact Sub.refl _ | exact Sub.ts | exact Sub.nil | exact Sub.agc (by repeat (first | exact .nil | refine .cons (by first | exact Sub.refl _ | exact Sub.nil) ?_))) .nil)) rfl ?_
            exact awl_doneS rfl rfl
          · skip
            refine awl_pcall fb42_LvX rfl (Put_con bys hnar _ (pL_nar ..)) (.cons (by first | exact Sub.refl _ | exact Sub.ts | exact Sub.nil | exact Sub.agc (by repeat (first | exact .nil | refine .cons (by first | exact Sub.refl _ | exact Sub.nil) ?_))) (.cons (by first | exact Sub.refl _ | exact Sub.ts | exact Sub.nil | exact Sub.agc (by repeat (first | exact .nil | refine .cons (by first | exact Sub.refl _ | exact Sub.nil) ?_))) .nil)) rfl ?_
            exact awl_doneS rfl rfl
          · skip
            refine awl_pcall fb42_LvX rfl (Put_con bys hnar _ (pL_nar ..)) (.cons (by first | exact Sub.refl _ | exact Sub.ts | exact Sub.nil | exact Sub.agc (by repeat (first | exact .nil | refine .cons (by first | exact Sub.refl _ | exact Sub.nil) ?_))) (.cons (by first | exact Sub.refl _ | exact Sub.ts | exact Sub.nil | exact Sub.agc (by repeat (first | exact .nil | refine .cons (by first | exact Sub.refl _ | exact Sub.nil) ?_))) .nil)) rfl ?_
            exact awl_doneS rfl rfl
          · skip
            refine awl_pcall fb42_LvX rfl (Put_con bys hnar _ (pL_nar ..)) (.cons (by first | exact Sub.refl _ | exact Sub.ts | exact Sub.nil | exact Sub.agc (by repeat (first | exact .nil | refine .cons (by first | exact Sub.refl _ | exact Sub.nil) ?_))) (.cons (by first | exact Sub.refl _ | exact Sub.ts | exact Sub.nil | exact Sub.agc (by repeat (first | exact .nil | refine .cons (by first | exact Sub.refl _ | exact Sub.nil) ?_))) .nil)) rfl ?_
            exact awl_doneS rfl rfl
          · kernel_rfl
          refine awd_s [[6, 7], [6], [7], []] [(7, _)] (.cons rfl (.nil)) rfl rfl rfl (by kernel_rfl) ?_
          apply Exists.intro
          refine ⟨(⟨fun regs' => ?_,⟨fun regs' => ?_,⟨fun regs' => ?_,⟨fun regs' => ?_, trivial⟩⟩⟩⟩), ?_, ?_⟩
          · skip
            first | refine awl_load_row ti39_LvX rfl rfl rfl rfl ?_ | refine x_irow ti39_LvX rfl rfl rfl rfl ?_
            exact awl_doneS rfl rfl
          · skip
            first | refine awl_load_row ti39_LvX rfl rfl rfl rfl ?_ | refine x_irow ti39_LvX rfl rfl rfl rfl ?_
            exact awl_doneS rfl rfl
          · skip
            first | refine awl_load_row ti39_LvX rfl rfl rfl rfl ?_ | refine x_irow ti39_LvX rfl rfl rfl rfl ?_
            exact awl_doneS rfl rfl
          · skip
            first | refine awl_load_row ti39_LvX rfl rfl rfl rfl ?_ | refine x_irow ti39_LvX rfl rfl rfl rfl ?_
            exact awl_doneS rfl rfl
          · kernel_rfl
          refine awd_s [[6, 7], [6], [7], []] [(8, _)] (.cons rfl (.nil)) rfl rfl rfl (by kernel_rfl) ?_
          apply Exists.intro
          refine ⟨(⟨fun regs' => ?_,⟨fun regs' => ?_,⟨fun regs' => ?_,⟨fun regs' => ?_, trivial⟩⟩⟩⟩), ?_, ?_⟩
          · skip
            refine awl_move rfl rfl ?_
            exact awl_doneS rfl rfl
          · skip
            refine awl_move rfl rfl ?_
            exact awl_doneS rfl rfl
          · skip
            refine awl_move rfl rfl ?_
            exact awl_doneS rfl rfl
          · skip
            refine awl_move rfl rfl ?_
            exact awl_doneS rfl rfl
          · kernel_rfl
          refine awd_s [[6, 7], [6], [7], []] [(65, _), (66, _)] (.cons rfl (.cons rfl (.nil))) rfl rfl rfl (by kernel_rfl) ?_
          apply Exists.intro
          refine ⟨(⟨fun regs' => ?_,⟨fun regs' => ?_,⟨fun regs' => ?_,⟨fun regs' => ?_, trivial⟩⟩⟩⟩), ?_, ?_⟩
          · skip
            refine awl_pcall fb42_LvX rfl (Put_con bys hnar _ (pL_nar ..)) (.cons (by first | exact Sub.refl _ | exact Sub.ts | exact Sub.nil | exact Sub.agc (by repeat (first | exact .nil | refine .cons (by first | exact Sub.refl _ | exact Sub.nil) ?_))) (.cons (by first | exact Sub.refl _ | exact Sub.ts | exact Sub.nil | exact Sub.agc (by repeat (first | exact .nil | refine .cons (by first | exact Sub.refl _ | exact Sub.nil) ?_))) .nil)) rfl ?_
            exact awl_doneS rfl rfl
          · skip
            refine awl_pcall fb42_LvX rfl (Put_con bys hnar _ (pL_nar ..)) (.cons (by first | exact Sub.refl _ | exact Sub.ts | exact Sub.nil | exact Sub.agc (by repeat (first | exact .nil | refine .cons (by first | exact Sub.refl _ | exact Sub.nil) ?_))) (.cons (by first | exact Sub.refl _ | exact Sub.ts | exact Sub.nil | exact Sub.agc (by repeat (first | exact .nil | refine .cons (by first | exact Sub.refl _ | exact Sub.nil) ?_))) .nil)) rfl ?_
            exact awl_doneS rfl rfl
          · skip
            refine awl_pcall fb42_LvX rfl (Put_con bys hnar _ (pL_nar ..)) (.cons (by first | exact Sub.refl _ | exact Sub.ts | exact Sub.nil | exact Sub.agc (by repeat (first | exact .nil | refine .cons (by first | exact Sub.refl _ | exact Sub.nil) ?_))) (.cons (by first | exact Sub.refl _ | exact Sub.ts | exact Sub.nil | exact Sub.agc (by repeat (first | exact .nil | refine .cons (by first | exact Sub.refl _ | exact Sub.nil) ?_))) .nil)) rfl ?_
            exact awl_doneS rfl rfl
          · skip
            refine awl_pcall fb42_LvX rfl (Put_con bys hnar _ (pL_nar ..)) (.cons (by first | exact Sub.refl _ | exact Sub.ts | exact Sub.nil | exact Sub.agc (by repeat (first | exact .nil | refine .cons (by first | exact Sub.refl _ | exact Sub.nil) ?_))) (.cons (by first | exact Sub.refl _ | exact Sub.ts | exact Sub.nil | exact Sub.agc (by repeat (first | exact .nil | refine .cons (by first | exact Sub.refl _ | exact Sub.nil) ?_))) .nil)) rfl ?_
            exact awl_doneS rfl rfl
          · kernel_rfl
          refine awd_new [[7], []] tz39_LvX rfl rfl (by rw [hcx]; rfl) rfl rfl (by kernel_rfl) rfl (by kernel_rfl) (⟨⟨by repeat (first | exact .nil | refine .cons rfl rfl ?_), rfl⟩,⟨⟨by repeat (first | exact .nil | refine .cons rfl rfl ?_), rfl⟩, trivial⟩⟩) ?_
          refine awd_new [[6], []] tz39_LvX rfl rfl (by rw [hcx]; rfl) rfl rfl (by kernel_rfl) rfl (by kernel_rfl) (⟨⟨by repeat (first | exact .nil | refine .cons rfl rfl ?_), rfl⟩,⟨⟨by repeat (first | exact .nil | refine .cons rfl rfl ?_), rfl⟩, trivial⟩⟩) ?_
          refine awd_e [6, 7] rfl rfl rfl (by kernel_rfl) rfl rfl ?_
          refine ⟨.any, ?_⟩
          refine ⟨?_, ?_, ?_⟩
          · skip
            refine x_store ti39_LvX rfl rfl rfl rfl rfl rfl rfl rfl ?_
            exact awl_done rfl
          · kernel_rfl
          refine awd_e [6, 7, 8] rfl rfl rfl (by kernel_rfl) rfl rfl ?_
          refine ⟨.any, ?_⟩
          refine ⟨?_, ?_, ?_⟩
          · skip
            refine x_store ti39_LvX rfl rfl rfl rfl rfl rfl rfl rfl ?_
            exact awl_done rfl
          · kernel_rfl
          refine awd_endS ?_
          try dsimp only [putd]
          change AWp _ _ _ _ _ _
          refine awp_seq ?_
          refine awp_seq ?_
          refine awp_region ?_
          first | refine awl_load_row ti39_LvX rfl rfl rfl rfl ?_ | refine x_irow ti39_LvX rfl rfl rfl rfl ?_
          first | refine awl_load_row ti39_LvX rfl rfl rfl rfl ?_ | refine x_irow ti39_LvX rfl rfl rfl rfl ?_
          refine x_slice si24_LvX ei39_LvX rfl rfl rfl rfl ?_
          refine awl_sub (sub_two _ _) ?_
          refine awl_pcall fb26_LvX rfl (Light_con _) (.cons (by first | exact Sub.refl _ | exact Sub.ts | exact Sub.nil | exact Sub.agc (by repeat (first | exact .nil | refine .cons (by first | exact Sub.refl _ | exact Sub.nil) ?_))) .nil) rfl ?_
          first | refine awl_un rfl rfl rfl un_notd ?_ | refine awl_un rfl rfl rfl un_not ?_
          refine awl_nil ?_
          change AWp _ _ _ _ _ _
          first | refine awp_cond_p rfl (fun hg4 => ?_) (fun hg4 => ?_) | refine awp_cond rfl (fun hg4 => ?_) (fun hg4 => ?_)
          · skip
            refine awp_seq ?_
            refine awp_region ?_
            refine awl_assign rfl rfl ?_
            refine awl_nil ?_
            change AWp _ _ _ _ _ _
            refine awp_ret ?_
            change Ends _ _ _ _ _ _
            refine ends1 [] rfl (.tmp rfl) ?_ rfl
            first | exact ⟨rfl, rfl⟩ | exact ⟨B_eq (decide_eq_true (keeps_eval hA hby hlen hmx)), rfl⟩
          · skip
            obtain ⟨hX, hY⟩ := light2 hg4
            refine awp_skip ?_
            change AWp _ _ _ _ _ _
            refine awp_seq ?_
            refine awp_draw0 hmo_LvX (by kernel_rfl) ?_
            refine awd_q [(6, _)] (.cons rfl (.nil)) rfl rfl rfl ?_
            apply Exists.intro
            refine ⟨fun regs' => ?_, ?_⟩
            · skip
              first | refine awl_load_row ti39_LvX rfl rfl rfl rfl ?_ | refine x_irow ti39_LvX rfl rfl rfl rfl ?_
              exact awl_done rfl
            refine awd_q [(7, _)] (.cons rfl (.nil)) rfl rfl rfl ?_
            apply Exists.intro
            refine ⟨fun regs' => ?_, ?_⟩
            · skip
              first | refine awl_load_row ti39_LvX rfl rfl rfl rfl ?_ | refine x_irow ti39_LvX rfl rfl rfl rfl ?_
              exact awl_done rfl
            refine awd_q [(73, _), (74, _)] (.cons rfl (.cons rfl (.nil))) rfl rfl rfl ?_
            apply Exists.intro
            refine ⟨fun regs' => ?_, ?_⟩
            · skip
              refine awl_pcall fb31_LvX rfl (Leq_con _ _ hA.2.2 hB.2.2 (by omega) (by omega)) (.cons (by first | exact Sub.refl _ | exact Sub.ts | exact Sub.nil | exact Sub.agc (by repeat (first | exact .nil | refine .cons (by first | exact Sub.refl _ | exact Sub.nil) ?_))) (.cons (by first | exact Sub.refl _ | exact Sub.ts | exact Sub.nil | exact Sub.agc (by repeat (first | exact .nil | refine .cons (by first | exact Sub.refl _ | exact Sub.nil) ?_))) .nil)) rfl ?_
              exact awl_done rfl
            refine awd_q [(75, _)] (.cons rfl (.nil)) rfl rfl rfl ?_
            apply Exists.intro
            refine ⟨fun regs' => ?_, ?_⟩
            · skip
              first | refine awl_un rfl rfl rfl un_notd ?_ | refine awl_un rfl rfl rfl un_not ?_
              exact awl_done rfl
            refine awd_q [(76, _)] (.cons rfl (.nil)) rfl rfl rfl ?_
            apply Exists.intro
            refine ⟨fun regs' => ?_, ?_⟩
            · skip
              refine awl_move rfl rfl ?_
              exact awl_done rfl
            first | refine awd_split_p 77 rfl (fun q1 => ?_) (fun q1 => ?_) | refine awd_split 77 rfl (fun q1 => ?_) (fun q1 => ?_)
            · skip
              refine awd_q [(11, _), (77, _)] (.cons rfl (.cons rfl (.nil))) rfl rfl rfl ?_
              apply Exists.intro
              refine ⟨fun regs' => ?_, ?_⟩
              · skip
                refine awl_guard_no rfl (by first | exact q1 | exact decide_eq_true q1 | exact decide_eq_false q1) rfl rfl rfl rfl ?_
                exact awl_done rfl
              refine awd_q [(12, _), (77, _)] (.cons rfl (.cons rfl (.nil))) rfl rfl rfl ?_
              apply Exists.intro
              refine ⟨fun regs' => ?_, ?_⟩
              · skip
                refine awl_guard_no rfl (by first | exact q1 | exact decide_eq_true q1 | exact decide_eq_false q1) rfl rfl rfl rfl ?_
                exact awl_done rfl
              refine awd_q [(78, _), (79, _), (77, _)] (.cons rfl (.cons rfl (.cons rfl (.nil)))) rfl rfl rfl ?_
              apply Exists.intro
              refine ⟨fun regs' => ?_, ?_⟩
              · skip
                refine awl_guard_no rfl (by first | exact q1 | exact decide_eq_true q1 | exact decide_eq_false q1) rfl rfl rfl rfl ?_
                exact awl_done rfl
              refine awd_q [(77, _), (80, _)] (.cons rfl (.cons rfl (.nil))) rfl rfl rfl ?_
              apply Exists.intro
              refine ⟨fun regs' => ?_, ?_⟩
              · skip
                refine awl_pick_t (by first | exact q1 | exact decide_eq_true q1 | exact decide_eq_false q1) rfl rfl rfl ?_
                exact awl_done rfl
              refine awd_q [(81, _)] (.cons rfl (.nil)) rfl rfl rfl ?_
              apply Exists.intro
              refine ⟨fun regs' => ?_, ?_⟩
              · skip
                refine awl_move rfl rfl ?_
                exact awl_done rfl
              refine awd_q [(11, _), (82, _)] (.cons rfl (.cons rfl (.nil))) rfl rfl rfl ?_
              apply Exists.intro
              refine ⟨fun regs' => ?_, ?_⟩
              · skip
                refine awl_guard_yes rfl rfl rfl rfl ?_
                first | refine awl_load_row ti39_LvX rfl rfl rfl rfl ?_ | refine x_irow ti39_LvX rfl rfl rfl rfl ?_
                exact awl_done rfl
              refine awd_q [(3, _), (82, _)] (.cons rfl (.cons rfl (.nil))) rfl rfl rfl ?_
              apply Exists.intro
              refine ⟨fun regs' => ?_, ?_⟩
              · skip
                refine awl_guard_yes rfl rfl rfl rfl ?_
                refine x_whole ai52_LvX ti3_LvX rfl rfl rfl rfl ?_
                exact awl_done rfl
              refine awd_q [(83, _), (84, _), (82, _)] (.cons rfl (.cons rfl (.cons rfl (.nil)))) rfl rfl rfl ?_
              apply Exists.intro
              refine ⟨fun regs' => ?_, ?_⟩
              · skip
                refine awl_guard_yes rfl rfl rfl rfl ?_
                refine awl_pcall fb27_LvX rfl (Eval_con [x0, x1, x2, x3] 4 _ hX.2.2 (by omega)) (.cons (by first | exact Sub.refl _ | exact Sub.ts | exact Sub.nil | exact Sub.agc (by repeat (first | exact .nil | refine .cons (by first | exact Sub.refl _ | exact Sub.nil) ?_))) (.cons (by first | exact Sub.refl _ | exact Sub.ts | exact Sub.nil | exact Sub.agc (by repeat (first | exact .nil | refine .cons (by first | exact Sub.refl _ | exact Sub.nil) ?_))) .nil)) rfl ?_
                exact awl_done rfl
              refine awd_q [(6, _), (82, _)] (.cons rfl (.cons rfl (.nil))) rfl rfl rfl ?_
              apply Exists.intro
              refine ⟨fun regs' => ?_, ?_⟩
              · skip
                refine awl_guard_yes rfl rfl rfl rfl ?_
                first | refine awl_load_row ti39_LvX rfl rfl rfl rfl ?_ | refine x_irow ti39_LvX rfl rfl rfl rfl ?_
                exact awl_done rfl
              refine awd_q [(9, _), (82, _)] (.cons rfl (.cons rfl (.nil))) rfl rfl rfl ?_
              apply Exists.intro
              refine ⟨fun regs' => ?_, ?_⟩
              · skip
                refine awl_guard_yes rfl rfl rfl rfl ?_
                refine awl_move rfl rfl ?_
                exact awl_done rfl
              refine awd_q [(86, _), (87, _), (82, _)] (.cons rfl (.cons rfl (.cons rfl (.nil)))) rfl rfl rfl ?_
              apply Exists.intro
              refine ⟨fun regs' => ?_, ?_⟩
              · skip
                refine awl_guard_yes rfl rfl rfl rfl ?_
                refine awl_pcall fb27_LvX rfl (Eval_con (bys.map (evalF [x0, x1, x2, x3])) 4 _ hA.2.2 (by omega)) (.cons (by first | exact Sub.refl _ | exact Sub.ts | exact Sub.nil | exact Sub.agc (by repeat (first | exact .nil | refine .cons (by first | exact Sub.refl _ | exact Sub.nil) ?_))) (.cons (by first | exact Sub.refl _ | exact Sub.ts | exact Sub.nil | exact Sub.agc (by repeat (first | exact .nil | refine .cons (by first | exact Sub.refl _ | exact Sub.nil) ?_))) .nil)) rfl ?_
                exact awl_done rfl
              refine awd_q [(85, _), (88, _), (82, _)] (.cons rfl (.cons rfl (.cons rfl (.nil)))) rfl rfl rfl ?_
              apply Exists.intro
              refine ⟨fun regs' => ?_, ?_⟩
              · skip
                refine awl_guard_yes rfl rfl rfl rfl ?_
                refine awl_bin rfl rfl rfl rfl bin_eql ?_
                exact awl_done rfl
              refine awd_q [(82, _), (89, _)] (.cons rfl (.cons rfl (.nil))) rfl rfl rfl ?_
              apply Exists.intro
              refine ⟨fun regs' => ?_, ?_⟩
              · skip
                refine awl_pick_t rfl rfl rfl rfl ?_
                exact awl_done rfl
              refine awd_q [(90, _)] (.cons rfl (.nil)) rfl rfl rfl ?_
              apply Exists.intro
              refine ⟨fun regs' => ?_, ?_⟩
              · skip
                refine awl_assign rfl rfl ?_
                exact awl_done rfl
              refine awd_nil ?_
              change AWp _ _ _ _ _ _
              refine awp_ret ?_
              change Ends _ _ _ _ _ _
              refine ends1 [] rfl (.tmp rfl) ?_ rfl
              first | exact ⟨rfl, rfl⟩ | exact ⟨B_eq (decide_eq_true (keeps_eval hA hby hlen hmx)), rfl⟩
            · skip
              refine awd_q [(11, _), (77, _)] (.cons rfl (.cons rfl (.nil))) rfl rfl rfl ?_
              apply Exists.intro
              refine ⟨fun regs' => ?_, ?_⟩
              · skip
                refine awl_guard_yes rfl (by first | exact q1 | exact decide_eq_true q1 | exact decide_eq_false q1) rfl rfl ?_
                first | refine awl_load_row ti39_LvX rfl rfl rfl rfl ?_ | refine x_irow ti39_LvX rfl rfl rfl rfl ?_
                exact awl_done rfl
              refine awd_q [(12, _), (77, _)] (.cons rfl (.cons rfl (.nil))) rfl rfl rfl ?_
              apply Exists.intro
              refine ⟨fun regs' => ?_, ?_⟩
              · skip
                refine awl_guard_yes rfl (by first | exact q1 | exact decide_eq_true q1 | exact decide_eq_false q1) rfl rfl ?_
                first | refine awl_load_row ti39_LvX rfl rfl rfl rfl ?_ | refine x_irow ti39_LvX rfl rfl rfl rfl ?_
                exact awl_done rfl
              refine awd_q [(78, _), (79, _), (77, _)] (.cons rfl (.cons rfl (.cons rfl (.nil)))) rfl rfl rfl ?_
              apply Exists.intro
              refine ⟨fun regs' => ?_, ?_⟩
              · skip
                refine awl_guard_yes rfl (by first | exact q1 | exact decide_eq_true q1 | exact decide_eq_false q1) rfl rfl ?_
                refine awl_pcall fb31_LvX rfl (Leq_con _ _ hX.2.2 hY.2.2 (by omega) (by omega)) (.cons (by first | exact Sub.refl _ | exact Sub.ts | exact Sub.nil | exact Sub.agc (by repeat (first | exact .nil | refine .cons (by first | exact Sub.refl _ | exact Sub.nil) ?_))) (.cons (by first | exact Sub.refl _ | exact Sub.ts | exact Sub.nil | exact Sub.agc (by repeat (first | exact .nil | refine .cons (by first | exact Sub.refl _ | exact Sub.nil) ?_))) .nil)) rfl ?_
                exact awl_done rfl
              refine awd_q [(77, _), (80, _)] (.cons rfl (.cons rfl (.nil))) rfl rfl rfl ?_
              apply Exists.intro
              refine ⟨fun regs' => ?_, ?_⟩
              · skip
                refine awl_pick_f (by first | exact q1 | exact decide_eq_true q1 | exact decide_eq_false q1) rfl rfl rfl ?_
                exact awl_done rfl
              refine awd_q [(81, _)] (.cons rfl (.nil)) rfl rfl rfl ?_
              apply Exists.intro
              refine ⟨fun regs' => ?_, ?_⟩
              · skip
                refine awl_move rfl rfl ?_
                exact awl_done rfl
              refine awd_q [(11, _), (82, _)] (.cons rfl (.cons rfl (.nil))) rfl rfl rfl ?_
              apply Exists.intro
              refine ⟨fun regs' => ?_, ?_⟩
              · skip
                refine awl_guard_yes rfl (by first | exact (keeps_leq hA hB hby hlen hX hY q1) | exact decide_eq_true (keeps_leq hA hB hby hlen hX hY q1) | exact decide_eq_false (keeps_leq hA hB hby hlen hX hY q1)) rfl rfl ?_
                first | refine awl_load_row ti39_LvX rfl rfl rfl rfl ?_ | refine x_irow ti39_LvX rfl rfl rfl rfl ?_
                exact awl_done rfl
              refine awd_q [(3, _), (82, _)] (.cons rfl (.cons rfl (.nil))) rfl rfl rfl ?_
              apply Exists.intro
              refine ⟨fun regs' => ?_, ?_⟩
              · skip
                refine awl_guard_yes rfl (by first | exact (keeps_leq hA hB hby hlen hX hY q1) | exact decide_eq_true (keeps_leq hA hB hby hlen hX hY q1) | exact decide_eq_false (keeps_leq hA hB hby hlen hX hY q1)) rfl rfl ?_
                refine x_whole ai52_LvX ti3_LvX rfl rfl rfl rfl ?_
                exact awl_done rfl
              refine awd_q [(83, _), (84, _), (82, _)] (.cons rfl (.cons rfl (.cons rfl (.nil)))) rfl rfl rfl ?_
              apply Exists.intro
              refine ⟨fun regs' => ?_, ?_⟩
              · skip
                refine awl_guard_yes rfl (by first | exact (keeps_leq hA hB hby hlen hX hY q1) | exact decide_eq_true (keeps_leq hA hB hby hlen hX hY q1) | exact decide_eq_false (keeps_leq hA hB hby hlen hX hY q1)) rfl rfl ?_
                refine awl_pcall fb27_LvX rfl (Eval_con [x0, x1, x2, x3] 4 _ hX.2.2 (by omega)) (.cons (by first | exact Sub.refl _ | exact Sub.ts | exact Sub.nil | exact Sub.agc (by repeat (first | exact .nil | refine .cons (by first | exact Sub.refl _ | exact Sub.nil) ?_))) (.cons (by first | exact Sub.refl _ | exact Sub.ts | exact Sub.nil | exact Sub.agc (by repeat (first | exact .nil | refine .cons (by first | exact Sub.refl _ | exact Sub.nil) ?_))) .nil)) rfl ?_
                exact awl_done rfl
              refine awd_q [(6, _), (82, _)] (.cons rfl (.cons rfl (.nil))) rfl rfl rfl ?_
              apply Exists.intro
              refine ⟨fun regs' => ?_, ?_⟩
              · skip
                refine awl_guard_yes rfl (by first | exact (keeps_leq hA hB hby hlen hX hY q1) | exact decide_eq_true (keeps_leq hA hB hby hlen hX hY q1) | exact decide_eq_false (keeps_leq hA hB hby hlen hX hY q1)) rfl rfl ?_
                first | refine awl_load_row ti39_LvX rfl rfl rfl rfl ?_ | refine x_irow ti39_LvX rfl rfl rfl rfl ?_
                exact awl_done rfl
              refine awd_q [(9, _), (82, _)] (.cons rfl (.cons rfl (.nil))) rfl rfl rfl ?_
              apply Exists.intro
              refine ⟨fun regs' => ?_, ?_⟩
              · skip
                refine awl_guard_yes rfl (by first | exact (keeps_leq hA hB hby hlen hX hY q1) | exact decide_eq_true (keeps_leq hA hB hby hlen hX hY q1) | exact decide_eq_false (keeps_leq hA hB hby hlen hX hY q1)) rfl rfl ?_
                refine awl_move rfl rfl ?_
                exact awl_done rfl
              refine awd_q [(86, _), (87, _), (82, _)] (.cons rfl (.cons rfl (.cons rfl (.nil)))) rfl rfl rfl ?_
              apply Exists.intro
              refine ⟨fun regs' => ?_, ?_⟩
              · skip
                refine awl_guard_yes rfl (by first | exact (keeps_leq hA hB hby hlen hX hY q1) | exact decide_eq_true (keeps_leq hA hB hby hlen hX hY q1) | exact decide_eq_false (keeps_leq hA hB hby hlen hX hY q1)) rfl rfl ?_
                refine awl_pcall fb27_LvX rfl (Eval_con (bys.map (evalF [x0, x1, x2, x3])) 4 _ hA.2.2 (by omega)) (.cons (by first | exact Sub.refl _ | exact Sub.ts | exact Sub.nil | exact Sub.agc (by repeat (first | exact .nil | refine .cons (by first | exact Sub.refl _ | exact Sub.nil) ?_))) (.cons (by first | exact Sub.refl _ | exact Sub.ts | exact Sub.nil | exact Sub.agc (by repeat (first | exact .nil | refine .cons (by first | exact Sub.refl _ | exact Sub.nil) ?_))) .nil)) rfl ?_
                exact awl_done rfl
              refine awd_q [(85, _), (88, _), (82, _)] (.cons rfl (.cons rfl (.cons rfl (.nil)))) rfl rfl rfl ?_
              apply Exists.intro
              refine ⟨fun regs' => ?_, ?_⟩
              · skip
                refine awl_guard_yes rfl (by first | exact (keeps_leq hA hB hby hlen hX hY q1) | exact decide_eq_true (keeps_leq hA hB hby hlen hX hY q1) | exact decide_eq_false (keeps_leq hA hB hby hlen hX hY q1)) rfl rfl ?_
                refine awl_bin rfl rfl rfl rfl bin_eql ?_
                exact awl_done rfl
              refine awd_q [(82, _), (89, _)] (.cons rfl (.cons rfl (.nil))) rfl rfl rfl ?_
              apply Exists.intro
              refine ⟨fun regs' => ?_, ?_⟩
              · skip
                refine awl_pick_t (by first | exact (keeps_leq hA hB hby hlen hX hY q1) | exact decide_eq_true (keeps_leq hA hB hby hlen hX hY q1) | exact decide_eq_false (keeps_leq hA hB hby hlen hX hY q1)) rfl rfl rfl ?_
                exact awl_done rfl
              refine awd_q [(90, _)] (.cons rfl (.nil)) rfl rfl rfl ?_
              apply Exists.intro
              refine ⟨fun regs' => ?_, ?_⟩
              · skip
                refine awl_assign rfl rfl ?_
                exact awl_done rfl
              refine awd_nil ?_
              change AWp _ _ _ _ _ _
              refine awp_ret ?_
              change Ends _ _ _ _ _ _
              refine ends1 [] rfl (.tmp rfl) ?_ rfl
              first | exact ⟨rfl, rfl⟩ | exact ⟨B_eq (decide_eq_true (keeps_eval hA hby hlen hmx)), rfl⟩

end Go.Ab.Ytfgndomaadikoaa
