/- Picks: levels made of numbers. -/
import Derived.Test.YtfgndomaadikoaaLvR
set_option linter.unusedVariables false
set_option linter.unusedSimpArgs false
namespace Go.Ab.Ytfgndomaadikoaa
open Go Go.RowKit Go.Ab Go.Proofs

theorem tz39_LvS : TZ Try.prog 39 [(.int .i64 0), (.int .i64 0), (.slice none 0 0)] := ⟨⟨.agg #[(.int .i64 0), (.int .i64 0), (.slice none 0 0)], by kernel_rfl, rfl⟩, by kernel_rfl⟩
theorem fb54_LvS : FB Try.prog 54 := ⟨_, Try.func54, rfl, by kernel_rfl⟩
theorem fb30_LvS : FB Try.prog 30 := ⟨_, Try.func30, rfl, by kernel_rfl⟩
theorem fb41_LvS : FB Try.prog 41 := ⟨_, Try.func41, rfl, by kernel_rfl⟩
theorem ti39_LvS : TI Try.prog 39 3 true := ⟨by kernel_rfl, by kernel_rfl⟩
theorem hmo_LvS : Try.prog.follows .mixedOrders = true := by kernel_rfl
theorem fb39_LvS : FB Try.prog 39 := ⟨_, Try.func39, rfl, by kernel_rfl⟩
theorem fb40_LvS : FB Try.prog 40 := ⟨_, Try.func40, rfl, by kernel_rfl⟩
theorem fb48_LvS : FB Try.prog 48 := ⟨_, Try.func48, rfl, by kernel_rfl⟩
theorem fb49_LvS : FB Try.prog 49 := ⟨_, Try.func49, rfl, by kernel_rfl⟩

/-- The level that is made, and where the picks stand then. -/
def pL (l : List Int) (v : Int) : Nat → Int → Lvl × Int
  | 0, a => (⟨0, 0, []⟩, a)
  | f + 1, a =>
    if nxt l a 6 = 1 then (⟨1, 0, [(pL l v f (nxA l a 6)).1]⟩, (pL l v f (nxA l a 6)).2)
    else if nxt l a 6 = 2 then (⟨2, 0, [(pL l v f (nxA l a 6)).1, (pL l v f (pL l v f (nxA l a 6)).2).1]⟩, (pL l v f (pL l v f (nxA l a 6)).2).2)
    else if nxt l a 6 = 3 then (⟨3, 0, [(pL l v f (nxA l a 6)).1, (pL l v f (pL l v f (nxA l a 6)).2).1]⟩, (pL l v f (pL l v f (nxA l a 6)).2).2)
    else if (nxt l a 6 = 4 ∨ nxt l a 6 = 5) ∧ v > 0 then (⟨4, nxt l (nxA l a 6) v, []⟩, nxA l (nxA l a 6) v)
    else (⟨0, 0, []⟩, nxA l a 6)
theorem nxA_ge (l : List Int) (a n : Int) : a ≤ nxA l a n ∧ (nxt l a n ≠ 0 → nxA l a n = a + 1 ∧ a < l.length) ∧ nxA l a n ≤ max a l.length := by
  unfold nxA nxt
  split
  · exact ⟨by omega, fun h => absurd rfl h, by omega⟩
  · exact ⟨by omega, fun _ => ⟨rfl, by omega⟩, by omega⟩
theorem pL_ge (l : List Int) (v : Int) : ∀ (f : Nat) (a : Int), a ≤ (pL l v f a).2 ∧ (pL l v f a).2 ≤ max a l.length
  | 0, a => by simp [pL]; omega
  | f + 1, a => by
    have h0 := nxA_ge l a 6
    have h1 := nxA_ge l (nxA l a 6) v
    have h2 := pL_ge l v f (nxA l a 6)
    have h3 := pL_ge l v f (pL l v f (nxA l a 6)).2
    unfold pL
    split
    · simp only; omega
    · split
      · simp only; omega
      · split
        · simp only; omega
        · split <;> (simp only; omega)
theorem pL_nar (l : List Int) (v : Int) : ∀ (f : Nat) (a : Int), narL (pL l v f a).1 = true
  | 0, a => rfl
  | f + 1, a => by
    have h2 := pL_nar l v f (nxA l a 6)
    have h3 := pL_nar l v f (pL l v f (nxA l a 6)).2
    unfold pL
    split
    · simp [narL, narLs, h2]
    · split
      · simp [narL, narLs, h2, h3]
      · split
        · simp [narL, narLs, h2, h3]
        · split <;> simp [narL, narLs]

theorem pL_eq (l : List Int) (v : Int) (f : Nat) (a : Int) : pL l v (f + 1) a =
    if nxt l a 6 = 1 then (⟨1, 0, [(pL l v f (nxA l a 6)).1]⟩, (pL l v f (nxA l a 6)).2)
    else if nxt l a 6 = 2 then (⟨2, 0, [(pL l v f (nxA l a 6)).1, (pL l v f (pL l v f (nxA l a 6)).2).1]⟩, (pL l v f (pL l v f (nxA l a 6)).2).2)
    else if nxt l a 6 = 3 then (⟨3, 0, [(pL l v f (nxA l a 6)).1, (pL l v f (pL l v f (nxA l a 6)).2).1]⟩, (pL l v f (pL l v f (nxA l a 6)).2).2)
    else if (nxt l a 6 = 4 ∨ nxt l a 6 = 5) ∧ v > 0 then (⟨4, nxt l (nxA l a 6) v, []⟩, nxA l (nxA l a 6) v)
    else (⟨0, 0, []⟩, nxA l a 6) := rfl
attribute [local irreducible] pL

theorem Level_con (l : List Int) (hl : okB l) (hll : (l.length : Int) ≤ 9223372036854775807) (v : Int) (hv0 : v ≤ 9223372036854775807) (fu : Nat) (at_ : Int) (h0 : 0 ≤ at_) (hat : at_ ≤ 9223372036854775807) (hfu : (l.length : Int) - at_ < fu ∧ 0 < fu) :
    Con Try.prog 30 [.ptr 1000 0, .p (I v)] [(1000, pk l at_)] (fun r o => r = lv (pL l v fu at_).1 ∧ o = [(1000, pk l (pL l v fu at_).2)]) := by
  obtain ⟨f, rfl⟩ : ∃ f, fu = f + 1 := ⟨fu - 1, by omega⟩
  have ih := fun (a : Int) (g0 : 0 ≤ a) (g1 : a ≤ 9223372036854775807) (g2 : (l.length : Int) - a < f ∧ 0 < f) => Level_con l hl hll v hv0 f a g0 g1 g2
  have n1 := nxA_ge l at_ 6
  have n2 := pL_ge l v f (nxA l at_ 6)
  have r1 := pL_nar l v f (nxA l at_ 6)
  have r2 := pL_nar l v f (pL l v f (nxA l at_ 6)).2
  refine con_of Try.func30 rfl 45 Try.ntmps30 rfl fun cx hcx => ?_
  refine awp_seq ?_
  refine awp_region ?_
  refine x_alloc tz39_LvS rfl rfl (by rw [hcx]; rfl) rfl ?_
  refine awl_nil ?_
  change AWp _ _ _ _ _ _
  refine awp_seq ?_
  refine awp_seq ?_
  refine awp_region ?_
  refine awl_move rfl rfl ?_
  refine x_call [1000] fb54_LvS rfl rfl rfl (Next_con l hl at_ 6 (by omega) (by omega) hll (by omega)) (.cons (by first | exact Sub.refl _ | exact Sub.ts | exact Sub.nil | exact Sub.agc (by repeat (first | exact .nil | refine .cons (by first | exact Sub.refl _ | exact Sub.nil) ?_))) (.cons (by first | exact Sub.refl _ | exact Sub.ts | exact Sub.nil | exact Sub.agc (by repeat (first | exact .nil | refine .cons (by first | exact Sub.refl _ | exact Sub.nil) ?_))) .nil)) rfl (fun r o ⟨e1, e2⟩ => ?_)
  subst e1 e2
  refine ⟨rfl, _, rfl, ?_⟩
  refine awl_nil ?_
  change AWp _ _ _ _ _ _
  refine awp_block ?_
  refine awp_seq ?_
  refine awp_region ?_
  refine awl_bin rfl rfl rfl rfl bin_eql ?_
  refine awl_assign rfl rfl ?_
  refine awl_nil ?_
  change AWp _ _ _ _ _ _
  first | refine awp_cond_p rfl (fun k1 => ?_) (fun k1 => ?_) | refine awp_cond rfl (fun k1 => ?_) (fun k1 => ?_)
  · skip
    have n3 := n1.2.1 (by omega)
    refine awp_seq ?_
    refine awp_region ?_
    refine awl_move rfl rfl ?_
    refine awl_move rfl rfl ?_
    refine x_call [1000] fb30_LvS rfl rfl rfl (ih (nxA l at_ 6) (by omega) (by omega) (by omega)) (.cons (by first | exact Sub.refl _ | exact Sub.ts | exact Sub.nil | exact Sub.agc (by repeat (first | exact .nil | refine .cons (by first | exact Sub.refl _ | exact Sub.nil) ?_))) (.cons (by first | exact Sub.refl _ | exact Sub.ts | exact Sub.nil | exact Sub.agc (by repeat (first | exact .nil | refine .cons (by first | exact Sub.refl _ | exact Sub.nil) ?_))) .nil)) rfl (fun r o ⟨e1, e2⟩ => ?_)
    subst e1 e2
    refine ⟨rfl, _, rfl, ?_⟩
    refine awl_pcall fb41_LvS rfl (Succ_con _ r1) (.cons (by first | exact Sub.refl _ | exact Sub.ts | exact Sub.nil | exact Sub.agc (by repeat (first | exact .nil | refine .cons (by first | exact Sub.refl _ | exact Sub.nil) ?_))) .nil) rfl ?_
    refine x_store ti39_LvS rfl rfl rfl rfl rfl rfl rfl rfl ?_
    refine awl_nil ?_
    change AWp _ _ _ _ _ _
    refine awp_ret ?_
    change Ends _ _ _ _ _ _
    refine ends1 [1000] rfl (.row ti39_LvS rfl rfl rfl) ?_ rfl
    rw [pL_eq, if_pos k1]; exact ⟨rfl, rfl⟩
  · skip
    refine awp_seq ?_
    refine awp_region ?_
    refine awl_bin rfl rfl rfl rfl bin_eql ?_
    refine awl_assign rfl rfl ?_
    refine awl_nil ?_
    change AWp _ _ _ _ _ _
    first | refine awp_cond_p rfl (fun k2 => ?_) (fun k2 => ?_) | refine awp_cond rfl (fun k2 => ?_) (fun k2 => ?_)
    · skip
      have n3 := n1.2.1 (by omega)
      refine awp_seq ?_
      refine awp_region ?_
      refine awl_move rfl rfl ?_
      refine awl_move rfl rfl ?_
      refine x_call [1000] fb30_LvS rfl rfl rfl (ih (nxA l at_ 6) (by omega) (by omega) (by omega)) (.cons (by first | exact Sub.refl _ | exact Sub.ts | exact Sub.nil | exact Sub.agc (by repeat (first | exact .nil | refine .cons (by first | exact Sub.refl _ | exact Sub.nil) ?_))) (.cons (by first | exact Sub.refl _ | exact Sub.ts | exact Sub.nil | exact Sub.agc (by repeat (first | exact .nil | refine .cons (by first | exact Sub.refl _ | exact Sub.nil) ?_))) .nil)) rfl (fun r o ⟨e1, e2⟩ => ?_)
      subst e1 e2
      refine ⟨rfl, _, rfl, ?_⟩
      refine x_alloc tz39_LvS rfl rfl (by rw [hcx]; rfl) rfl ?_
      refine x_store ti39_LvS rfl rfl rfl rfl rfl rfl rfl rfl ?_
      refine awl_nil ?_
      change AWp _ _ _ _ _ _
      refine awp_seq ?_
      apply awp_drawS [3, 5] [5] [] ((fun (B : Obs) => oget [([], B), ([3], (1000, pk l (pL l v f (pL l v f (nxA l at_ 6)).2).2) :: oth [1000] B), ([3, 5], _)]) _)
      · rfl
      · rfl
      · exact hmo_LvS
      · kernel_rfl
      · rfl
      refine awd_s [[3], []] [(5, _)] (.cons rfl (.nil)) rfl rfl rfl (by kernel_rfl) ?_
      apply Exists.intro
      refine ⟨(⟨fun regs' => ?_,⟨fun regs' => ?_, trivial⟩⟩), ?_, ?_⟩
      · skip
        first | refine awl_load_row ti39_LvS rfl rfl rfl rfl ?_ | refine x_irow ti39_LvS rfl rfl rfl rfl ?_
        exact awl_doneS rfl rfl
      · skip
        first | refine awl_load_row ti39_LvS rfl rfl rfl rfl ?_ | refine x_irow ti39_LvS rfl rfl rfl rfl ?_
        exact awl_doneS rfl rfl
      · kernel_rfl
      refine awd_s [[]] [(0, _)] (.cons rfl (.nil)) rfl rfl rfl (by kernel_rfl) ?_
      apply Exists.intro
      refine ⟨(⟨fun regs' => ?_, trivial⟩), ?_, ?_⟩
      · skip
        refine awl_move rfl rfl ?_
        exact awl_doneS rfl rfl
      · kernel_rfl
      refine awd_s [[]] [(1, _)] (.cons rfl (.nil)) rfl rfl rfl (by kernel_rfl) ?_
      apply Exists.intro
      refine ⟨(⟨fun regs' => ?_, trivial⟩), ?_, ?_⟩
      · skip
        refine awl_move rfl rfl ?_
        exact awl_doneS rfl rfl
      · kernel_rfl
      refine awd_s [[]] [(21, _), (22, _)] (.cons rfl (.cons rfl (.nil))) rfl rfl rfl (by kernel_rfl) ?_
      apply Exists.intro
      refine ⟨(⟨fun regs' => ?_, trivial⟩), ?_, ?_⟩
      · skip
        refine x_call [1000] fb30_LvS rfl rfl rfl (ih (pL l v f (nxA l at_ 6)).2 (by omega) (by omega) (by omega)) (.cons (by first | exact Sub.refl _ | exact Sub.ts | exact Sub.nil | exact Sub.agc (by repeat (first | exact .nil | refine .cons (by first | exact Sub.refl _ | exact Sub.nil) ?_))) (.cons (by first | exact Sub.refl _ | exact Sub.ts | exact Sub.nil | exact Sub.agc (by repeat (first | exact .nil | refine .cons (by first | exact Sub.refl _ | exact Sub.nil) ?_))) .nil)) rfl (fun r o ⟨e1, e2⟩ => ?_)
        subst e1 e2
        refine ⟨rfl, _, rfl, ?_⟩
        exact awl_doneS rfl rfl
      · kernel_rfl
      refine awd_s [[3]] [(20, _), (23, _)] (.cons rfl (.cons rfl (.nil))) rfl rfl rfl (by kernel_rfl) ?_
      apply Exists.intro
      refine ⟨(⟨fun regs' => ?_, trivial⟩), ?_, ?_⟩
      · skip
        refine awl_pcall fb39_LvS rfl (Max_con _ _ r1 r2) (.cons (by first | exact Sub.refl _ | exact Sub.ts | exact Sub.nil | exact Sub.agc (by repeat (first | exact .nil | refine .cons (by first | exact Sub.refl _ | exact Sub.nil) ?_))) (.cons (by first | exact Sub.refl _ | exact Sub.ts | exact Sub.nil | exact Sub.agc (by repeat (first | exact .nil | refine .cons (by first | exact Sub.refl _ | exact Sub.nil) ?_))) .nil)) rfl ?_
        exact awl_doneS rfl rfl
      · kernel_rfl
      refine awd_e [3] rfl rfl rfl (by kernel_rfl) rfl rfl ?_
      refine ⟨.any, ?_⟩
      refine ⟨?_, ?_, ?_⟩
      · skip
        refine x_store ti39_LvS rfl rfl rfl rfl rfl rfl rfl rfl ?_
        exact awl_done rfl
      · kernel_rfl
      refine awd_endS ?_
      try dsimp only [putd]
      change AWp _ _ _ _ _ _
      refine awp_ret ?_
      change Ends _ _ _ _ _ _
      refine ends1 [1000] rfl (.row ti39_LvS rfl rfl rfl) ?_ rfl
      rw [pL_eq, if_neg k1, if_pos k2]; exact ⟨rfl, rfl⟩
    · skip
      refine awp_seq ?_
      refine awp_region ?_
      refine awl_bin rfl rfl rfl rfl bin_eql ?_
      refine awl_assign rfl rfl ?_
      refine awl_nil ?_
      change AWp _ _ _ _ _ _
      first | refine awp_cond_p rfl (fun k3 => ?_) (fun k3 => ?_) | refine awp_cond rfl (fun k3 => ?_) (fun k3 => ?_)
      · skip
        have n3 := n1.2.1 (by omega)
        refine awp_seq ?_
        refine awp_region ?_
        refine awl_move rfl rfl ?_
        refine awl_move rfl rfl ?_
        refine x_call [1000] fb30_LvS rfl rfl rfl (ih (nxA l at_ 6) (by omega) (by omega) (by omega)) (.cons (by first | exact Sub.refl _ | exact Sub.ts | exact Sub.nil | exact Sub.agc (by repeat (first | exact .nil | refine .cons (by first | exact Sub.refl _ | exact Sub.nil) ?_))) (.cons (by first | exact Sub.refl _ | exact Sub.ts | exact Sub.nil | exact Sub.agc (by repeat (first | exact .nil | refine .cons (by first | exact Sub.refl _ | exact Sub.nil) ?_))) .nil)) rfl (fun r o ⟨e1, e2⟩ => ?_)
        subst e1 e2
        refine ⟨rfl, _, rfl, ?_⟩
        refine x_alloc tz39_LvS rfl rfl (by rw [hcx]; rfl) rfl ?_
        refine x_store ti39_LvS rfl rfl rfl rfl rfl rfl rfl rfl ?_
        refine awl_nil ?_
        change AWp _ _ _ _ _ _
        refine awp_seq ?_
        apply awp_drawS [3, 5] [5] [] ((fun (B : Obs) => oget [([], B), ([3], (1000, pk l (pL l v f (pL l v f (nxA l at_ 6)).2).2) :: oth [1000] B), ([3, 5], _)]) _)
        · rfl
        · rfl
        · exact hmo_LvS
        · kernel_rfl
        · rfl
        refine awd_s [[3], []] [(6, _)] (.cons rfl (.nil)) rfl rfl rfl (by kernel_rfl) ?_
        apply Exists.intro
        refine ⟨(⟨fun regs' => ?_,⟨fun regs' => ?_, trivial⟩⟩), ?_, ?_⟩
        · skip
          first | refine awl_load_row ti39_LvS rfl rfl rfl rfl ?_ | refine x_irow ti39_LvS rfl rfl rfl rfl ?_
          exact awl_doneS rfl rfl
        · skip
          first | refine awl_load_row ti39_LvS rfl rfl rfl rfl ?_ | refine x_irow ti39_LvS rfl rfl rfl rfl ?_
          exact awl_doneS rfl rfl
        · kernel_rfl
        refine awd_s [[]] [(0, _)] (.cons rfl (.nil)) rfl rfl rfl (by kernel_rfl) ?_
        apply Exists.intro
        refine ⟨(⟨fun regs' => ?_, trivial⟩), ?_, ?_⟩
        · skip
          refine awl_move rfl rfl ?_
          exact awl_doneS rfl rfl
        · kernel_rfl
        refine awd_s [[]] [(1, _)] (.cons rfl (.nil)) rfl rfl rfl (by kernel_rfl) ?_
        apply Exists.intro
        refine ⟨(⟨fun regs' => ?_, trivial⟩), ?_, ?_⟩
        · skip
          refine awl_move rfl rfl ?_
          exact awl_doneS rfl rfl
        · kernel_rfl
        refine awd_s [[]] [(31, _), (32, _)] (.cons rfl (.cons rfl (.nil))) rfl rfl rfl (by kernel_rfl) ?_
        apply Exists.intro
        refine ⟨(⟨fun regs' => ?_, trivial⟩), ?_, ?_⟩
        · skip
          refine x_call [1000] fb30_LvS rfl rfl rfl (ih (pL l v f (nxA l at_ 6)).2 (by omega) (by omega) (by omega)) (.cons (by first | exact Sub.refl _ | exact Sub.ts | exact Sub.nil | exact Sub.agc (by repeat (first | exact .nil | refine .cons (by first | exact Sub.refl _ | exact Sub.nil) ?_))) (.cons (by first | exact Sub.refl _ | exact Sub.ts | exact Sub.nil | exact Sub.agc (by repeat (first | exact .nil | refine .cons (by first | exact Sub.refl _ | exact Sub.nil) ?_))) .nil)) rfl (fun r o ⟨e1, e2⟩ => ?_)
          subst e1 e2
          refine ⟨rfl, _, rfl, ?_⟩
          exact awl_doneS rfl rfl
        · kernel_rfl
        refine awd_s [[3]] [(30, _), (33, _)] (.cons rfl (.cons rfl (.nil))) rfl rfl rfl (by kernel_rfl) ?_
        apply Exists.intro
        refine ⟨(⟨fun regs' => ?_, trivial⟩), ?_, ?_⟩
        · skip
          refine awl_pcall fb40_LvS rfl (Imax_con _ _ r1 r2) (.cons (by first | exact Sub.refl _ | exact Sub.ts | exact Sub.nil | exact Sub.agc (by repeat (first | exact .nil | refine .cons (by first | exact Sub.refl _ | exact Sub.nil) ?_))) (.cons (by first | exact Sub.refl _ | exact Sub.ts | exact Sub.nil | exact Sub.agc (by repeat (first | exact .nil | refine .cons (by first | exact Sub.refl _ | exact Sub.nil) ?_))) .nil)) rfl ?_
          exact awl_doneS rfl rfl
        · kernel_rfl
        refine awd_e [3] rfl rfl rfl (by kernel_rfl) rfl rfl ?_
        refine ⟨.any, ?_⟩
        refine ⟨?_, ?_, ?_⟩
        · skip
          refine x_store ti39_LvS rfl rfl rfl rfl rfl rfl rfl rfl ?_
          exact awl_done rfl
        · kernel_rfl
        refine awd_endS ?_
        try dsimp only [putd]
        change AWp _ _ _ _ _ _
        refine awp_ret ?_
        change Ends _ _ _ _ _ _
        refine ends1 [1000] rfl (.row ti39_LvS rfl rfl rfl) ?_ rfl
        rw [pL_eq, if_neg k1, if_neg k2, if_pos k3]; exact ⟨rfl, rfl⟩
      · skip
        refine awp_seq ?_
        refine awp_seq ?_
        refine awp_region ?_
        refine awl_bin rfl rfl rfl rfl bin_eql ?_
        refine awl_assign rfl rfl ?_
        refine awl_nil ?_
        change AWp _ _ _ _ _ _
        first | refine awp_cond_p rfl (fun k4 => ?_) (fun k4 => ?_) | refine awp_cond rfl (fun k4 => ?_) (fun k4 => ?_)
        · skip
          refine awp_skip ?_
          change AWp _ _ _ _ _ _
          refine awp_cond_t (by first | exact k4 | exact decide_eq_true k4 | exact decide_eq_false k4) rfl ?_
          refine awp_seq ?_
          refine awp_region ?_
          refine awl_move rfl rfl ?_
          refine awl_bin rfl rfl rfl rfl bin_gtr ?_
          refine awl_nil ?_
          change AWp _ _ _ _ _ _
          first | refine awp_cond_p rfl (fun hv => ?_) (fun hv => ?_) | refine awp_cond rfl (fun hv => ?_) (fun hv => ?_)
          · skip
            refine awp_seq ?_
            refine awp_region ?_
            refine awl_move rfl rfl ?_
            refine awl_move rfl rfl ?_
            refine x_call [1000] fb54_LvS rfl rfl rfl (Next_con l hl (nxA l at_ 6) v (by omega) (by omega) hll (by omega)) (.cons (by first | exact Sub.refl _ | exact Sub.ts | exact Sub.nil | exact Sub.agc (by repeat (first | exact .nil | refine .cons (by first | exact Sub.refl _ | exact Sub.nil) ?_))) (.cons (by first | exact Sub.refl _ | exact Sub.ts | exact Sub.nil | exact Sub.agc (by repeat (first | exact .nil | refine .cons (by first | exact Sub.refl _ | exact Sub.nil) ?_))) .nil)) rfl (fun r o ⟨e1, e2⟩ => ?_)
            subst e1 e2
            refine ⟨rfl, _, rfl, ?_⟩
            refine awl_pcall fb48_LvS rfl (Param_con _) (.cons (by first | exact Sub.refl _ | exact Sub.ts | exact Sub.nil | exact Sub.agc (by repeat (first | exact .nil | refine .cons (by first | exact Sub.refl _ | exact Sub.nil) ?_))) .nil) rfl ?_
            refine x_store ti39_LvS rfl rfl rfl rfl rfl rfl rfl rfl ?_
            refine awl_nil ?_
            change AWp _ _ _ _ _ _
            refine awp_ret ?_
            change Ends _ _ _ _ _ _
            refine ends1 [1000] rfl (.row ti39_LvS rfl rfl rfl) ?_ rfl
            first | (rw [pL_eq, if_neg k1, if_neg k2, if_neg k3, if_pos (by omega)]; exact ⟨rfl, rfl⟩) | (rw [pL_eq, if_neg k1, if_neg k2, if_neg k3, if_neg (by omega)]; exact ⟨rfl, rfl⟩)
          · skip
            refine awp_skip ?_
            change AWp _ _ _ _ _ _
            refine awp_seq ?_
            refine awp_region ?_
            refine awl_pcall fb49_LvS rfl (Zero_con) .nil rfl ?_
            refine x_store ti39_LvS rfl rfl rfl rfl rfl rfl rfl rfl ?_
            refine awl_nil ?_
            change AWp _ _ _ _ _ _
            refine awp_ret ?_
            change Ends _ _ _ _ _ _
            refine ends1 [1000] rfl (.row ti39_LvS rfl rfl rfl) ?_ rfl
            first | (rw [pL_eq, if_neg k1, if_neg k2, if_neg k3, if_pos (by omega)]; exact ⟨rfl, rfl⟩) | (rw [pL_eq, if_neg k1, if_neg k2, if_neg k3, if_neg (by omega)]; exact ⟨rfl, rfl⟩)
        · skip
          refine awp_region ?_
          refine awl_bin rfl rfl rfl rfl bin_eql ?_
          refine awl_assign rfl rfl ?_
          refine awl_nil ?_
          change AWp _ _ _ _ _ _
          first | refine awp_cond_p rfl (fun k5 => ?_) (fun k5 => ?_) | refine awp_cond rfl (fun k5 => ?_) (fun k5 => ?_)
          · skip
            refine awp_seq ?_
            refine awp_region ?_
            refine awl_move rfl rfl ?_
            refine awl_bin rfl rfl rfl rfl bin_gtr ?_
            refine awl_nil ?_
            change AWp _ _ _ _ _ _
            first | refine awp_cond_p rfl (fun hv => ?_) (fun hv => ?_) | refine awp_cond rfl (fun hv => ?_) (fun hv => ?_)
            · skip
              refine awp_seq ?_
              refine awp_region ?_
              refine awl_move rfl rfl ?_
              refine awl_move rfl rfl ?_
              refine x_call [1000] fb54_LvS rfl rfl rfl (Next_con l hl (nxA l at_ 6) v (by omega) (by omega) hll (by omega)) (.cons (by first | exact Sub.refl _ | exact Sub.ts | exact Sub.nil | exact Sub.agc (by repeat (first | exact .nil | refine .cons (by first | exact Sub.refl _ | exact Sub.nil) ?_))) (.cons (by first | exact Sub.refl _ | exact Sub.ts | exact Sub.nil | exact Sub.agc (by repeat (first | exact .nil | refine .cons (by first | exact Sub.refl _ | exact Sub.nil) ?_))) .nil)) rfl (fun r o ⟨e1, e2⟩ => ?_)
              subst e1 e2
              refine ⟨rfl, _, rfl, ?_⟩
              refine awl_pcall fb48_LvS rfl (Param_con _) (.cons (by first | exact Sub.refl _ | exact Sub.ts | exact Sub.nil | exact Sub.agc (by repeat (first | exact .nil | refine .cons (by first | exact Sub.refl _ | exact Sub.nil) ?_))) .nil) rfl ?_
              refine x_store ti39_LvS rfl rfl rfl rfl rfl rfl rfl rfl ?_
              refine awl_nil ?_
              change AWp _ _ _ _ _ _
              refine awp_ret ?_
              change Ends _ _ _ _ _ _
              refine ends1 [1000] rfl (.row ti39_LvS rfl rfl rfl) ?_ rfl
              first | (rw [pL_eq, if_neg k1, if_neg k2, if_neg k3, if_pos (by omega)]; exact ⟨rfl, rfl⟩) | (rw [pL_eq, if_neg k1, if_neg k2, if_neg k3, if_neg (by omega)]; exact ⟨rfl, rfl⟩)
            · skip
              refine awp_skip ?_
              change AWp _ _ _ _ _ _
              refine awp_seq ?_
              refine awp_region ?_
              refine awl_pcall fb49_LvS rfl (Zero_con) .nil rfl ?_
              refine x_store ti39_LvS rfl rfl rfl rfl rfl rfl rfl rfl ?_
              refine awl_nil ?_
              change AWp _ _ _ _ _ _
              refine awp_ret ?_
              change Ends _ _ _ _ _ _
              refine ends1 [1000] rfl (.row ti39_LvS rfl rfl rfl) ?_ rfl
              first | (rw [pL_eq, if_neg k1, if_neg k2, if_neg k3, if_pos (by omega)]; exact ⟨rfl, rfl⟩) | (rw [pL_eq, if_neg k1, if_neg k2, if_neg k3, if_neg (by omega)]; exact ⟨rfl, rfl⟩)
          · skip
            refine awp_skip ?_
            change AWp _ _ _ _ _ _
            refine awp_seq ?_
            refine awp_region ?_
            refine awl_pcall fb49_LvS rfl (Zero_con) .nil rfl ?_
            refine x_store ti39_LvS rfl rfl rfl rfl rfl rfl rfl rfl ?_
            refine awl_nil ?_
            change AWp _ _ _ _ _ _
            refine awp_ret ?_
            change Ends _ _ _ _ _ _
            refine ends1 [1000] rfl (.row ti39_LvS rfl rfl rfl) ?_ rfl
            first | (rw [pL_eq, if_neg k1, if_neg k2, if_neg k3, if_pos (by omega)]; exact ⟨rfl, rfl⟩) | (rw [pL_eq, if_neg k1, if_neg k2, if_neg k3, if_neg (by omega)]; exact ⟨rfl, rfl⟩)
termination_by fu
decreasing_by omega

end Go.Ab.Ytfgndomaadikoaa
