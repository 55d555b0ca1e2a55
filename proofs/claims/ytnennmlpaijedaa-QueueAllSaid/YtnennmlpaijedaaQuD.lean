/- container/heap over the pile: down, Push, Pop. -/
import Derived.Test.YtnennmlpaijedaaQuC
set_option linter.unusedVariables false
set_option linter.unusedSimpArgs false
namespace Go.Ab.Ytnennmlpaijedaa
open Go Go.RowKit Go.Ab Go.Proofs

theorem mi55_Less_QuD : MI Try.prog 55 "Less" 42 := ⟨fun w b o args => by kernel_rfl⟩
theorem fb42_QuD : FB Try.prog 42 := ⟨_, Try.func42, rfl, by kernel_rfl⟩
theorem mi55_Swap_QuD : MI Try.prog 55 "Swap" 45 := ⟨fun w b o args => by kernel_rfl⟩
theorem fb45_QuD : FB Try.prog 45 := ⟨_, Try.func45, rfl, by kernel_rfl⟩
theorem mi55_Push_QuD : MI Try.prog 55 "Push" 44 := ⟨fun w b o args => by kernel_rfl⟩
theorem fb44_QuD : FB Try.prog 44 := ⟨_, Try.func44, rfl, by kernel_rfl⟩
theorem mi55_Len_QuD : MI Try.prog 55 "Len" 41 := ⟨fun w b o args => by kernel_rfl⟩
theorem fb41_QuD : FB Try.prog 41 := ⟨_, Try.func41, rfl, by kernel_rfl⟩
theorem fb22_QuD : FB Try.prog 22 := ⟨_, Try.func22, rfl, by kernel_rfl⟩
theorem fb23_QuD : FB Try.prog 23 := ⟨_, Try.func23, rfl, by kernel_rfl⟩
theorem mi55_Pop_QuD : MI Try.prog 55 "Pop" 43 := ⟨fun w b o args => by kernel_rfl⟩
theorem fb43_QuD : FB Try.prog 43 := ⟨_, Try.func43, rfl, by kernel_rfl⟩

theorem ch_a {l : List Ent} {i m : Nat} (h1 : 2 * i + 2 < m) (h2 : lessE (l.getD (2 * i + 2) e0) (l.getD (2 * i + 1) e0) = true) : chF l i m = 2 * i + 2 := by unfold chF; rw [if_pos ⟨h1, h2⟩]
theorem ch_b {l : List Ent} {i m : Nat} (h2 : lessE (l.getD (2 * i + 2) e0) (l.getD (2 * i + 1) e0) = false) : chF l i m = 2 * i + 1 := by unfold chF; rw [if_neg (fun h => by rw [h2] at h; exact absurd h.2 (by decide))]
theorem ch_c {l : List Ent} {i m : Nat} (h1 : ¬ 2 * i + 2 < m) : chF l i m = 2 * i + 1 := by unfold chF; rw [if_neg (by simp [h1])]

theorem down_con (ver : Nat) (xs : List Ent) (n : Int) (i0 m : Nat) (hm : m ≤ xs.length) (hi0 : i0 ≤ 1000000) (hlen : xs.length ≤ 1000000) : Con Try.prog 23 [hI', .p (I i0), .p (I m)] (qo ver xs n) (fun r o => (∃ b, r = .p (B b)) ∧ o = qo ver (dnF xs i0 m) n) := by
  refine con_of Try.func23 rfl 48 Try.ntmps23 rfl fun cx hcx => ?_
  refine awp_seq ?_
  refine awp_region ?_
  refine awl_assign rfl rfl ?_
  refine awl_nil ?_
  change AWp _ _ _ _ _ _
  refine awp_seq ?_
  refine awp_region ?_
  refine awl_move rfl rfl ?_
  refine awl_assign rfl rfl ?_
  refine awl_nil ?_
  change AWp _ _ _ _ _ _
  refine awp_seq ?_
  refine awp_block ?_
  refine x_loop [(0, _), (1, _), (2, _)] [] (fun x : List Ent × Nat => [(7, .p (I x.2))]) (fun x => [(1000, qh ver n), (1001, qa ver x.1)]) (fun x => x.1.length = xs.length ∧ x.2 ≤ 1000000 ∧ dnF x.1 x.2 m = dnF xs i0 m) (fun x => 1000001 - x.2) (xs, i0) (Le.mk (.cons rfl (by first | exact Sub.refl _ | exact Sub.ts | exact Sub.nil | (refine Sub.eq ?_; first | (simp; done) | (simp; omega))) (.cons rfl (by first | exact Sub.refl _ | exact Sub.ts | exact Sub.nil | (refine Sub.eq ?_; first | (simp; done) | (simp; omega))) (.cons rfl (by first | exact Sub.refl _ | exact Sub.ts | exact Sub.nil | (refine Sub.eq ?_; first | (simp; done) | (simp; omega))) (.cons rfl (by first | exact Sub.refl _ | exact Sub.ts | exact Sub.nil | (refine Sub.eq ?_; first | (simp; done) | (simp; omega))) (.nil))))) (.cons rfl (by first | rfl | (simp; done)) (.cons rfl (by first | rfl | (simp; done)) (.nil))) rfl) ⟨rfl, hi0, rfl⟩ (fun x hx => ?_)
  obtain ⟨l, i⟩ := x
  obtain ⟨hll, hi6, hdn⟩ := hx
  simp only at hll hi6 hdn
  dsimp only [List.cons_append, List.nil_append]
  refine awp_block ?_
  refine awp_seq ?_
  refine awp_region ?_
  refine awl_move rfl rfl ?_
  first | refine awl_bin rfl rfl rfl rfl (bin_mul_i (by omega)) ?_ | refine awl_bin rfl rfl rfl rfl bin_mul ?_
  first | refine awl_bin rfl rfl rfl rfl (bin_add_i (by omega)) ?_ | refine awl_bin rfl rfl rfl rfl bin_add ?_
  refine awl_sub (y := .p (I ((2 * i + 1 : Nat) : Int))) (Sub.eq (I_eq (by omega))) ?_
  refine awl_assign rfl rfl ?_
  refine awl_nil ?_
  change AWp _ _ _ _ _ _
  refine awp_seq ?_
  refine awp_seq ?_
  refine awp_region ?_
  refine awl_move rfl rfl ?_
  refine awl_move rfl rfl ?_
  refine awl_bin rfl rfl rfl rfl bin_geq ?_
  refine awl_move rfl rfl ?_
  first | refine awl_split_p 18 rfl (fun hge => ?_) (fun hge => ?_) | refine awl_split 18 rfl (fun hge => ?_) (fun hge => ?_)
  · skip
    refine awl_guard_no rfl (by first | exact hge | exact decide_eq_true hge | exact decide_eq_false hge) rfl rfl rfl rfl ?_
    refine awl_guard_no rfl (by first | exact hge | exact decide_eq_true hge | exact decide_eq_false hge) rfl rfl rfl rfl ?_
    refine awl_pick_t (by first | exact hge | exact decide_eq_true hge | exact decide_eq_false hge) rfl rfl rfl ?_
    refine awl_nil ?_
    change AWp _ _ _ _ _ _
    refine awp_cond_t rfl rfl ?_
    refine awp_exit ?_
    change AWp _ _ _ _ _ _
    refine awp_seq ?_
    refine awp_region ?_
    refine awl_move rfl rfl ?_
    refine awl_move rfl rfl ?_
    refine awl_bin rfl rfl rfl rfl bin_gtr ?_
    refine awl_assign rfl rfl ?_
    refine awl_nil ?_
    change AWp _ _ _ _ _ _
    refine awp_ret ?_
    change Ends _ _ _ _ _ _
    refine ends1 [1000, 1001] rfl (.tmp rfl) ?_ rfl
    first | (rw [← hdn, dnF_eq l i, if_neg (by omega)]; exact ⟨⟨_, rfl⟩, rfl⟩) | (rw [← hdn, dnF_eq l i, if_pos (by omega), if_neg (by rw [← hj]; simpa using hc)]; exact ⟨⟨_, rfl⟩, rfl⟩)
  · skip
    refine awl_guard_yes rfl (by first | exact hge | exact decide_eq_true hge | exact decide_eq_false hge) rfl rfl ?_
    refine awl_move rfl rfl ?_
    refine awl_guard_yes rfl (by first | exact hge | exact decide_eq_true hge | exact decide_eq_false hge) rfl rfl ?_
    refine awl_bin rfl rfl rfl rfl bin_lss ?_
    refine awl_pick_f (by first | exact hge | exact decide_eq_true hge | exact decide_eq_false hge) rfl rfl rfl ?_
    refine awl_nil ?_
    change AWp _ _ _ _ _ _
    refine awp_cond_f (by first | exact (by omega : ¬ ((2 * i + 1 : Nat) : Int) < 0) | exact decide_eq_true (by omega : ¬ ((2 * i + 1 : Nat) : Int) < 0) | exact decide_eq_false (by omega : ¬ ((2 * i + 1 : Nat) : Int) < 0)) rfl ?_
    refine awp_skip ?_
    change AWp _ _ _ _ _ _
    refine awp_seq ?_
    refine awp_region ?_
    refine awl_move rfl rfl ?_
    refine awl_assign rfl rfl ?_
    refine awl_nil ?_
    change AWp _ _ _ _ _ _
    refine awp_seq ?_
    refine awp_seq ?_
    refine awp_region ?_
    refine awl_move rfl rfl ?_
    first | refine awl_bin rfl rfl rfl rfl (bin_add_i (by omega)) ?_ | refine awl_bin rfl rfl rfl rfl bin_add ?_
    refine awl_sub (y := .p (I ((2 * i + 2 : Nat) : Int))) (Sub.eq (I_eq (by omega))) ?_
    refine awl_assign rfl rfl ?_
    refine awl_nil ?_
    change AWp _ _ _ _ _ _
    refine awp_seq ?_
    refine awp_region ?_
    refine awl_move rfl rfl ?_
    refine awl_move rfl rfl ?_
    refine awl_bin rfl rfl rfl rfl bin_lss ?_
    refine awl_move rfl rfl ?_
    first | refine awl_split_p 28 rfl (fun h2 => ?_) (fun h2 => ?_) | refine awl_split 28 rfl (fun h2 => ?_) (fun h2 => ?_)
    · skip
      refine awl_guard_yes rfl (by first | exact h2 | exact decide_eq_true h2 | exact decide_eq_false h2) rfl rfl ?_
      refine awl_move rfl rfl ?_
      refine awl_guard_yes rfl (by first | exact h2 | exact decide_eq_true h2 | exact decide_eq_false h2) rfl rfl ?_
      refine awl_move rfl rfl ?_
      refine awl_guard_yes rfl (by first | exact h2 | exact decide_eq_true h2 | exact decide_eq_false h2) rfl rfl ?_
      refine awl_move rfl rfl ?_
      refine awl_guard_yes rfl (by first | exact h2 | exact decide_eq_true h2 | exact decide_eq_false h2) rfl rfl ?_
      refine x_invoke mi55_Less_QuD [1000, 1001] fb42_QuD rfl rfl rfl rfl (Less_con ver l n (2 * i + 2) (2 * i + 1) (by omega) (by omega)) (.cons (by first | exact Sub.refl _ | exact Sub.ts | exact Sub.nil | exact Sub.agc (by repeat (first | exact .nil | refine .cons (by first | exact Sub.refl _ | exact Sub.nil) ?_))) (.cons (by first | exact Sub.refl _ | exact Sub.ts | exact Sub.nil | exact Sub.agc (by repeat (first | exact .nil | refine .cons (by first | exact Sub.refl _ | exact Sub.nil) ?_))) (.cons (by first | exact Sub.refl _ | exact Sub.ts | exact Sub.nil | exact Sub.agc (by repeat (first | exact .nil | refine .cons (by first | exact Sub.refl _ | exact Sub.nil) ?_))) .nil))) rfl (fun r o ⟨e1, e2⟩ => ?_)
      subst e1 e2
      refine ⟨by rw [hcx]; rfl, _, rfl, ?_⟩
      refine awl_pick_t (by first | exact h2 | exact decide_eq_true h2 | exact decide_eq_false h2) rfl rfl rfl ?_
      refine awl_nil ?_
      change AWp _ _ _ _ _ _
      first | refine awp_cond_p rfl (fun hl => ?_) (fun hl => ?_) | refine awp_cond rfl (fun hl => ?_) (fun hl => ?_)
      · skip
        have hch := ch_a (l := l) (i := i) (m := m) (by omega) hl
        obtain ⟨j, hj⟩ : ∃ j, j = chF l i m := ⟨_, rfl⟩
        rw [← hj] at hch
        rw [show (2 * i + 2 : Nat) = j from hch.symm]
        refine awp_region ?_
        refine awl_move rfl rfl ?_
        refine awl_assign rfl rfl ?_
        refine awl_nil ?_
        change AWp _ _ _ _ _ _
        refine awp_seq ?_
        refine awp_seq ?_
        refine awp_region ?_
        refine awl_move rfl rfl ?_
        refine awl_move rfl rfl ?_
        refine awl_move rfl rfl ?_
        refine x_invoke mi55_Less_QuD [1000, 1001] fb42_QuD rfl rfl rfl rfl (Less_con ver l n j i (by omega) (by omega)) (.cons (by first | exact Sub.refl _ | exact Sub.ts | exact Sub.nil | exact Sub.agc (by repeat (first | exact .nil | refine .cons (by first | exact Sub.refl _ | exact Sub.nil) ?_))) (.cons (by first | exact Sub.refl _ | exact Sub.ts | exact Sub.nil | exact Sub.agc (by repeat (first | exact .nil | refine .cons (by first | exact Sub.refl _ | exact Sub.nil) ?_))) (.cons (by first | exact Sub.refl _ | exact Sub.ts | exact Sub.nil | exact Sub.agc (by repeat (first | exact .nil | refine .cons (by first | exact Sub.refl _ | exact Sub.nil) ?_))) .nil))) rfl (fun r o ⟨e1, e2⟩ => ?_)
        subst e1 e2
        refine ⟨by rw [hcx]; rfl, _, rfl, ?_⟩
        first | refine awl_un rfl rfl rfl un_notd ?_ | refine awl_un rfl rfl rfl un_not ?_
        refine awl_nil ?_
        change AWp _ _ _ _ _ _
        first | refine awp_cond_p rfl (fun hc => ?_) (fun hc => ?_) | refine awp_cond rfl (fun hc => ?_) (fun hc => ?_)
        · skip
          refine awp_exit ?_
          change AWp _ _ _ _ _ _
          refine awp_seq ?_
          refine awp_region ?_
          refine awl_move rfl rfl ?_
          refine awl_move rfl rfl ?_
          refine awl_bin rfl rfl rfl rfl bin_gtr ?_
          refine awl_assign rfl rfl ?_
          refine awl_nil ?_
          change AWp _ _ _ _ _ _
          refine awp_ret ?_
          change Ends _ _ _ _ _ _
          refine ends1 [1000, 1001] rfl (.tmp rfl) ?_ rfl
          first | (rw [← hdn, dnF_eq l i, if_neg (by omega)]; exact ⟨⟨_, rfl⟩, rfl⟩) | (rw [← hdn, dnF_eq l i, if_pos (by omega), if_neg (by rw [← hj]; simpa using hc)]; exact ⟨⟨_, rfl⟩, rfl⟩)
        · skip
          refine awp_skip ?_
          change AWp _ _ _ _ _ _
          refine awp_seq ?_
          refine awp_region ?_
          refine awl_move rfl rfl ?_
          refine awl_move rfl rfl ?_
          refine awl_move rfl rfl ?_
          refine x_invoke mi55_Swap_QuD [1000, 1001] fb45_QuD rfl rfl rfl rfl (Swap_con ver l n i j (by omega) (by omega)) (.cons (by first | exact Sub.refl _ | exact Sub.ts | exact Sub.nil | exact Sub.agc (by repeat (first | exact .nil | refine .cons (by first | exact Sub.refl _ | exact Sub.nil) ?_))) (.cons (by first | exact Sub.refl _ | exact Sub.ts | exact Sub.nil | exact Sub.agc (by repeat (first | exact .nil | refine .cons (by first | exact Sub.refl _ | exact Sub.nil) ?_))) (.cons (by first | exact Sub.refl _ | exact Sub.ts | exact Sub.nil | exact Sub.agc (by repeat (first | exact .nil | refine .cons (by first | exact Sub.refl _ | exact Sub.nil) ?_))) .nil))) rfl (fun r o ⟨e1, e2⟩ => ?_)
          subst e1 e2
          refine ⟨by rw [hcx]; rfl, _, rfl, ?_⟩
          refine awl_nil ?_
          change AWp _ _ _ _ _ _
          refine awp_region ?_
          refine awl_move rfl rfl ?_
          refine awl_assign rfl rfl ?_
          refine awl_nil ?_
          change ∃ x', _
          refine ⟨(swE l i j, j), ⟨by simp [hll], by simp only; omega, by rw [← hdn, dnF_eq l i, if_pos (by omega), if_pos (by rw [← hj]; simpa using hc), ← hj]⟩, (by simp only; omega), (Le.mk (.cons rfl (by first | exact Sub.refl _ | exact Sub.ts | exact Sub.nil | (refine Sub.eq ?_; first | (simp; done) | (simp; omega))) (.cons rfl (by first | exact Sub.refl _ | exact Sub.ts | exact Sub.nil | (refine Sub.eq ?_; first | (simp; done) | (simp; omega))) (.cons rfl (by first | exact Sub.refl _ | exact Sub.ts | exact Sub.nil | (refine Sub.eq ?_; first | (simp; done) | (simp; omega))) (.cons rfl (by first | exact Sub.refl _ | exact Sub.ts | exact Sub.nil | (refine Sub.eq ?_; first | (simp; done) | (simp; omega))) (.nil))))) (.cons rfl (by first | rfl | (simp; done)) (.cons rfl (by first | rfl | (simp; done)) (.nil))) rfl)⟩
      · skip
        have hch := ch_b (l := l) (i := i) (m := m) hl
        obtain ⟨j, hj⟩ : ∃ j, j = chF l i m := ⟨_, rfl⟩
        rw [← hj] at hch
        rw [show (2 * i + 1 : Nat) = j from hch.symm]
        refine awp_skip ?_
        change AWp _ _ _ _ _ _
        refine awp_seq ?_
        refine awp_seq ?_
        refine awp_region ?_
        refine awl_move rfl rfl ?_
        refine awl_move rfl rfl ?_
        refine awl_move rfl rfl ?_
        refine x_invoke mi55_Less_QuD [1000, 1001] fb42_QuD rfl rfl rfl rfl (Less_con ver l n j i (by omega) (by omega)) (.cons (by first | exact Sub.refl _ | exact Sub.ts | exact Sub.nil | exact Sub.agc (by repeat (first | exact .nil | refine .cons (by first | exact Sub.refl _ | exact Sub.nil) ?_))) (.cons (by first | exact Sub.refl _ | exact Sub.ts | exact Sub.nil | exact Sub.agc (by repeat (first | exact .nil | refine .cons (by first | exact Sub.refl _ | exact Sub.nil) ?_))) (.cons (by first | exact Sub.refl _ | exact Sub.ts | exact Sub.nil | exact Sub.agc (by repeat (first | exact .nil | refine .cons (by first | exact Sub.refl _ | exact Sub.nil) ?_))) .nil))) rfl (fun r o ⟨e1, e2⟩ => ?_)
        subst e1 e2
        refine ⟨by rw [hcx]; rfl, _, rfl, ?_⟩
        first | refine awl_un rfl rfl rfl un_notd ?_ | refine awl_un rfl rfl rfl un_not ?_
        refine awl_nil ?_
        change AWp _ _ _ _ _ _
        first | refine awp_cond_p rfl (fun hc => ?_) (fun hc => ?_) | refine awp_cond rfl (fun hc => ?_) (fun hc => ?_)
        · skip
          refine awp_exit ?_
          change AWp _ _ _ _ _ _
          refine awp_seq ?_
          refine awp_region ?_
          refine awl_move rfl rfl ?_
          refine awl_move rfl rfl ?_
          refine awl_bin rfl rfl rfl rfl bin_gtr ?_
          refine awl_assign rfl rfl ?_
          refine awl_nil ?_
          change AWp _ _ _ _ _ _
          refine awp_ret ?_
          change Ends _ _ _ _ _ _
          refine ends1 [1000, 1001] rfl (.tmp rfl) ?_ rfl
          first | (rw [← hdn, dnF_eq l i, if_neg (by omega)]; exact ⟨⟨_, rfl⟩, rfl⟩) | (rw [← hdn, dnF_eq l i, if_pos (by omega), if_neg (by rw [← hj]; simpa using hc)]; exact ⟨⟨_, rfl⟩, rfl⟩)
        · skip
          refine awp_skip ?_
          change AWp _ _ _ _ _ _
          refine awp_seq ?_
          refine awp_region ?_
          refine awl_move rfl rfl ?_
          refine awl_move rfl rfl ?_
          refine awl_move rfl rfl ?_
          refine x_invoke mi55_Swap_QuD [1000, 1001] fb45_QuD rfl rfl rfl rfl (Swap_con ver l n i j (by omega) (by omega)) (.cons (by first | exact Sub.refl _ | exact Sub.ts | exact Sub.nil | exact Sub.agc (by repeat (first | exact .nil | refine .cons (by first | exact Sub.refl _ | exact Sub.nil) ?_))) (.cons (by first | exact Sub.refl _ | exact Sub.ts | exact Sub.nil | exact Sub.agc (by repeat (first | exact .nil | refine .cons (by first | exact Sub.refl _ | exact Sub.nil) ?_))) (.cons (by first | exact Sub.refl _ | exact Sub.ts | exact Sub.nil | exact Sub.agc (by repeat (first | exact .nil | refine .cons (by first | exact Sub.refl _ | exact Sub.nil) ?_))) .nil))) rfl (fun r o ⟨e1, e2⟩ => ?_)
          subst e1 e2
          refine ⟨by rw [hcx]; rfl, _, rfl, ?_⟩
          refine awl_nil ?_
          change AWp _ _ _ _ _ _
          refine awp_region ?_
          refine awl_move rfl rfl ?_
          refine awl_assign rfl rfl ?_
          refine awl_nil ?_
          change ∃ x', _
          refine ⟨(swE l i j, j), ⟨by simp [hll], by simp only; omega, by rw [← hdn, dnF_eq l i, if_pos (by omega), if_pos (by rw [← hj]; simpa using hc), ← hj]⟩, (by simp only; omega), (Le.mk (.cons rfl (by first | exact Sub.refl _ | exact Sub.ts | exact Sub.nil | (refine Sub.eq ?_; first | (simp; done) | (simp; omega))) (.cons rfl (by first | exact Sub.refl _ | exact Sub.ts | exact Sub.nil | (refine Sub.eq ?_; first | (simp; done) | (simp; omega))) (.cons rfl (by first | exact Sub.refl _ | exact Sub.ts | exact Sub.nil | (refine Sub.eq ?_; first | (simp; done) | (simp; omega))) (.cons rfl (by first | exact Sub.refl _ | exact Sub.ts | exact Sub.nil | (refine Sub.eq ?_; first | (simp; done) | (simp; omega))) (.nil))))) (.cons rfl (by first | rfl | (simp; done)) (.cons rfl (by first | rfl | (simp; done)) (.nil))) rfl)⟩
    · skip
      have hch := ch_c (l := l) (i := i) (m := m) (by omega)
      obtain ⟨j, hj⟩ : ∃ j, j = chF l i m := ⟨_, rfl⟩
      rw [← hj] at hch
      rw [show (2 * i + 1 : Nat) = j from hch.symm]
      refine awl_guard_no rfl (by first | exact h2 | exact decide_eq_true h2 | exact decide_eq_false h2) rfl rfl rfl rfl ?_
      refine awl_guard_no rfl (by first | exact h2 | exact decide_eq_true h2 | exact decide_eq_false h2) rfl rfl rfl rfl ?_
      refine awl_guard_no rfl (by first | exact h2 | exact decide_eq_true h2 | exact decide_eq_false h2) rfl rfl rfl rfl ?_
      refine awl_guard_no rfl (by first | exact h2 | exact decide_eq_true h2 | exact decide_eq_false h2) rfl rfl rfl rfl ?_
      refine awl_pick_f (by first | exact h2 | exact decide_eq_true h2 | exact decide_eq_false h2) rfl rfl rfl ?_
      refine awl_nil ?_
      change AWp _ _ _ _ _ _
      refine awp_cond_f rfl rfl ?_
      refine awp_skip ?_
      change AWp _ _ _ _ _ _
      refine awp_seq ?_
      refine awp_seq ?_
      refine awp_region ?_
      refine awl_move rfl rfl ?_
      refine awl_move rfl rfl ?_
      refine awl_move rfl rfl ?_
      refine x_invoke mi55_Less_QuD [1000, 1001] fb42_QuD rfl rfl rfl rfl (Less_con ver l n j i (by omega) (by omega)) (.cons (by first | exact Sub.refl _ | exact Sub.ts | exact Sub.nil | exact Sub.agc (by repeat (first | exact .nil | refine .cons (by first | exact Sub.refl _ | exact Sub.nil) ?_))) (.cons (by first | exact Sub.refl _ | exact Sub.ts | exact Sub.nil | exact Sub.agc (by repeat (first | exact .nil | refine .cons (by first | exact Sub.refl _ | exact Sub.nil) ?_))) (.cons (by first | exact Sub.refl _ | exact Sub.ts | exact Sub.nil | exact Sub.agc (by repeat (first | exact .nil | refine .cons (by first | exact Sub.refl _ | exact Sub.nil) ?_))) .nil))) rfl (fun r o ⟨e1, e2⟩ => ?_)
      subst e1 e2
      refine ⟨by rw [hcx]; rfl, _, rfl, ?_⟩
      first | refine awl_un rfl rfl rfl un_notd ?_ | refine awl_un rfl rfl rfl un_not ?_
      refine awl_nil ?_
      change AWp _ _ _ _ _ _
      first | refine awp_cond_p rfl (fun hc => ?_) (fun hc => ?_) | refine awp_cond rfl (fun hc => ?_) (fun hc => ?_)
      · skip
        refine awp_exit ?_
        change AWp _ _ _ _ _ _
        refine awp_seq ?_
        refine awp_region ?_
        refine awl_move rfl rfl ?_
        refine awl_move rfl rfl ?_
        refine awl_bin rfl rfl rfl rfl bin_gtr ?_
        refine awl_assign rfl rfl ?_
        refine awl_nil ?_
        change AWp _ _ _ _ _ _
        refine awp_ret ?_
        change Ends _ _ _ _ _ _
        refine ends1 [1000, 1001] rfl (.tmp rfl) ?_ rfl
        first | (rw [← hdn, dnF_eq l i, if_neg (by omega)]; exact ⟨⟨_, rfl⟩, rfl⟩) | (rw [← hdn, dnF_eq l i, if_pos (by omega), if_neg (by rw [← hj]; simpa using hc)]; exact ⟨⟨_, rfl⟩, rfl⟩)
      · skip
        refine awp_skip ?_
        change AWp _ _ _ _ _ _
        refine awp_seq ?_
        refine awp_region ?_
        refine awl_move rfl rfl ?_
        refine awl_move rfl rfl ?_
        refine awl_move rfl rfl ?_
        refine x_invoke mi55_Swap_QuD [1000, 1001] fb45_QuD rfl rfl rfl rfl (Swap_con ver l n i j (by omega) (by omega)) (.cons (by first | exact Sub.refl _ | exact Sub.ts | exact Sub.nil | exact Sub.agc (by repeat (first | exact .nil | refine .cons (by first | exact Sub.refl _ | exact Sub.nil) ?_))) (.cons (by first | exact Sub.refl _ | exact Sub.ts | exact Sub.nil | exact Sub.agc (by repeat (first | exact .nil | refine .cons (by first | exact Sub.refl _ | exact Sub.nil) ?_))) (.cons (by first | exact Sub.refl _ | exact Sub.ts | exact Sub.nil | exact Sub.agc (by repeat (first | exact .nil | refine .cons (by first | exact Sub.refl _ | exact Sub.nil) ?_))) .nil))) rfl (fun r o ⟨e1, e2⟩ => ?_)
        subst e1 e2
        refine ⟨by rw [hcx]; rfl, _, rfl, ?_⟩
        refine awl_nil ?_
        change AWp _ _ _ _ _ _
        refine awp_region ?_
        refine awl_move rfl rfl ?_
        refine awl_assign rfl rfl ?_
        refine awl_nil ?_
        change ∃ x', _
        refine ⟨(swE l i j, j), ⟨by simp [hll], by simp only; omega, by rw [← hdn, dnF_eq l i, if_pos (by omega), if_pos (by rw [← hj]; simpa using hc), ← hj]⟩, (by simp only; omega), (Le.mk (.cons rfl (by first | exact Sub.refl _ | exact Sub.ts | exact Sub.nil | (refine Sub.eq ?_; first | (simp; done) | (simp; omega))) (.cons rfl (by first | exact Sub.refl _ | exact Sub.ts | exact Sub.nil | (refine Sub.eq ?_; first | (simp; done) | (simp; omega))) (.cons rfl (by first | exact Sub.refl _ | exact Sub.ts | exact Sub.nil | (refine Sub.eq ?_; first | (simp; done) | (simp; omega))) (.cons rfl (by first | exact Sub.refl _ | exact Sub.ts | exact Sub.nil | (refine Sub.eq ?_; first | (simp; done) | (simp; omega))) (.nil))))) (.cons rfl (by first | rfl | (simp; done)) (.cons rfl (by first | rfl | (simp; done)) (.nil))) rfl)⟩

theorem HPush_con (ver : Nat) (xs : List Ent) (n : Int) (e : Ent) (hlen : xs.length ≤ 999999) : Con Try.prog 16 [hI', .ifc 57 (.ag [.p (I e.w), .p (I e.n), .p (I e.t)])] (qo ver xs n) (fun r o => r = .tp [] ∧ o = qo (ver + 1) (upF (xs ++ [e]) xs.length) n) := by
  have hl : ((xs ++ [e]).length : Int) - 1 = (xs.length : Int) := by simp
  refine con_of Try.func16 rfl 12 Try.ntmps16 rfl fun cx hcx => ?_
  refine awp_seq ?_
  refine awp_region ?_
  refine awl_move rfl rfl ?_
  refine awl_move rfl rfl ?_
  refine x_invoke mi55_Push_QuD [1000, 1001] fb44_QuD rfl rfl rfl rfl (PilePush_con ver xs n e (by omega)) (.cons (by first | exact Sub.refl _ | exact Sub.ts | exact Sub.nil | exact Sub.agc (by repeat (first | exact .nil | refine .cons (by first | exact Sub.refl _ | exact Sub.nil) ?_))) (.cons (by first | exact Sub.refl _ | exact Sub.ts | exact Sub.nil | exact Sub.agc (by repeat (first | exact .nil | refine .cons (by first | exact Sub.refl _ | exact Sub.nil) ?_))) .nil)) rfl (fun r o ⟨e1, e2⟩ => ?_)
  subst e1 e2
  refine ⟨by rw [hcx]; rfl, _, rfl, ?_⟩
  refine awl_nil ?_
  change AWp _ _ _ _ _ _
  refine awp_region ?_
  refine awl_move rfl rfl ?_
  refine awl_move rfl rfl ?_
  refine x_invoke mi55_Len_QuD [1000, 1001] fb41_QuD rfl rfl rfl rfl (Len_con (ver + 1) (xs ++ [e]) n) (.cons (by first | exact Sub.refl _ | exact Sub.ts | exact Sub.nil | exact Sub.agc (by repeat (first | exact .nil | refine .cons (by first | exact Sub.refl _ | exact Sub.nil) ?_))) .nil) rfl (fun r o ⟨e1, e2⟩ => ?_)
  subst e1 e2
  refine ⟨by rw [hcx]; rfl, _, rfl, ?_⟩
  first | refine awl_bin rfl rfl rfl rfl (bin_sub_i (by omega)) ?_ | refine awl_bin rfl rfl rfl rfl bin_sub ?_
  refine awl_sub (y := .p (I (xs.length : Int))) (Sub.eq (I_eq hl)) ?_
  refine x_call [1000, 1001] fb22_QuD rfl rfl rfl (up_con (ver + 1) (xs ++ [e]) n xs.length (by simp) (by simp; omega)) (.cons (by first | exact Sub.refl _ | exact Sub.ts | exact Sub.nil | exact Sub.agc (by repeat (first | exact .nil | refine .cons (by first | exact Sub.refl _ | exact Sub.nil) ?_))) (.cons (by first | exact Sub.refl _ | exact Sub.ts | exact Sub.nil | exact Sub.agc (by repeat (first | exact .nil | refine .cons (by first | exact Sub.refl _ | exact Sub.nil) ?_))) .nil)) rfl (fun r o ⟨e1, e2⟩ => ?_)
  subst e1 e2
  refine ⟨by rw [hcx]; rfl, _, rfl, ?_⟩
  refine awl_nil ?_
  change Ends _ _ _ _ _ _
  refine ends0 [1000, 1001] rfl  ?_ rfl
  exact ⟨rfl, rfl⟩

/-- What Pop leaves. -/
def popF (xs : List Ent) : List Ent := (dnF (swE xs 0 (xs.length - 1)) 0 (xs.length - 1)).take (xs.length - 1)
theorem dnF_len (l : List Ent) (i m : Nat) : (dnF l i m).length = l.length := by
  rw [dnF_eq]
  split
  · split
    · rw [dnF_len]; simp
    · rfl
  · rfl
termination_by m - i
decreasing_by have := chF_gt l i m; omega

theorem HPop_con (ver : Nat) (xs : List Ent) (n : Int) (hx : 0 < xs.length) (hlen : xs.length ≤ 1000000) : Con Try.prog 17 [hI'] (qo ver xs n) (fun r o => r = .any ∧ o = qo (ver + 1) (popF xs) n) := by
  have hl : ((xs.length : Nat) : Int) - 1 = ((xs.length - 1 : Nat) : Int) := by omega
  have hdl := dnF_len (swE xs 0 (xs.length - 1)) 0 (xs.length - 1)
  rw [swE_len] at hdl
  have hpop : popF xs = (dnF (swE xs 0 (xs.length - 1)) 0 (xs.length - 1)).take ((dnF (swE xs 0 (xs.length - 1)) 0 (xs.length - 1)).length - 1) := by rw [hdl]; rfl
  refine con_of Try.func17 rfl 15 Try.ntmps17 rfl fun cx hcx => ?_
  refine awp_seq ?_
  refine awp_region ?_
  refine awl_assign rfl rfl ?_
  refine awl_nil ?_
  change AWp _ _ _ _ _ _
  refine awp_seq ?_
  refine awp_region ?_
  refine awl_move rfl rfl ?_
  refine x_invoke mi55_Len_QuD [1000, 1001] fb41_QuD rfl rfl rfl rfl (Len_con ver xs n) (.cons (by first | exact Sub.refl _ | exact Sub.ts | exact Sub.nil | exact Sub.agc (by repeat (first | exact .nil | refine .cons (by first | exact Sub.refl _ | exact Sub.nil) ?_))) .nil) rfl (fun r o ⟨e1, e2⟩ => ?_)
  subst e1 e2
  refine ⟨by rw [hcx]; rfl, _, rfl, ?_⟩
  first | refine awl_bin rfl rfl rfl rfl (bin_sub_i (by omega)) ?_ | refine awl_bin rfl rfl rfl rfl bin_sub ?_
  refine awl_sub (y := .p (I ((xs.length - 1 : Nat) : Int))) (Sub.eq (I_eq hl)) ?_
  refine awl_assign rfl rfl ?_
  refine awl_nil ?_
  change AWp _ _ _ _ _ _
  refine awp_seq ?_
  refine awp_region ?_
  refine awl_move rfl rfl ?_
  refine awl_move rfl rfl ?_
  refine x_invoke mi55_Swap_QuD [1000, 1001] fb45_QuD rfl rfl rfl rfl (Swap_con ver xs n 0 (xs.length - 1) hx (by omega)) (.cons (by first | exact Sub.refl _ | exact Sub.ts | exact Sub.nil | exact Sub.agc (by repeat (first | exact .nil | refine .cons (by first | exact Sub.refl _ | exact Sub.nil) ?_))) (.cons (by first | exact Sub.refl _ | exact Sub.ts | exact Sub.nil | exact Sub.agc (by repeat (first | exact .nil | refine .cons (by first | exact Sub.refl _ | exact Sub.nil) ?_))) (.cons (by first | exact Sub.refl _ | exact Sub.ts | exact Sub.nil | exact Sub.agc (by repeat (first | exact .nil | refine .cons (by first | exact Sub.refl _ | exact Sub.nil) ?_))) .nil))) rfl (fun r o ⟨e1, e2⟩ => ?_)
  subst e1 e2
  refine ⟨by rw [hcx]; rfl, _, rfl, ?_⟩
  refine awl_nil ?_
  change AWp _ _ _ _ _ _
  refine awp_seq ?_
  refine awp_region ?_
  refine awl_move rfl rfl ?_
  refine awl_move rfl rfl ?_
  refine x_call [1000, 1001] fb23_QuD rfl rfl rfl (down_con ver (swE xs 0 (xs.length - 1)) n 0 (xs.length - 1) (by simp) (by omega) (by simp; omega)) (.cons (by first | exact Sub.refl _ | exact Sub.ts | exact Sub.nil | exact Sub.agc (by repeat (first | exact .nil | refine .cons (by first | exact Sub.refl _ | exact Sub.nil) ?_))) (.cons (by first | exact Sub.refl _ | exact Sub.ts | exact Sub.nil | exact Sub.agc (by repeat (first | exact .nil | refine .cons (by first | exact Sub.refl _ | exact Sub.nil) ?_))) (.cons (by first | exact Sub.refl _ | exact Sub.ts | exact Sub.nil | exact Sub.agc (by repeat (first | exact .nil | refine .cons (by first | exact Sub.refl _ | exact Sub.nil) ?_))) .nil))) rfl (fun r o ⟨⟨b, e1⟩, e2⟩ => ?_)
  subst e1 e2
  refine ⟨by rw [hcx]; rfl, _, rfl, ?_⟩
  refine awl_nil ?_
  change AWp _ _ _ _ _ _
  refine awp_seq ?_
  refine awp_region ?_
  refine awl_move rfl rfl ?_
  refine x_invoke mi55_Pop_QuD [1000, 1001] fb43_QuD rfl rfl rfl rfl (PilePop_con ver _ n (by rw [hdl]; exact hx)) (.cons (by first | exact Sub.refl _ | exact Sub.ts | exact Sub.nil | exact Sub.agc (by repeat (first | exact .nil | refine .cons (by first | exact Sub.refl _ | exact Sub.nil) ?_))) .nil) rfl (fun r o ⟨e1, e2⟩ => ?_)
  subst e1 e2
  refine ⟨by rw [hcx]; rfl, _, rfl, ?_⟩
  refine awl_assign rfl rfl ?_
  refine awl_nil ?_
  change AWp _ _ _ _ _ _
  refine awp_ret ?_
  change Ends _ _ _ _ _ _
  refine ends1 [1000, 1001] rfl (.tmp rfl) ?_ rfl
  exact ⟨rfl, by rw [hpop]; rfl⟩

end Go.Ab.Ytnennmlpaijedaa
