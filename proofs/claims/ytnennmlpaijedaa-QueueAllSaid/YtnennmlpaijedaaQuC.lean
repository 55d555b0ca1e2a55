/- container/heap over the pile: up, down, Push, Pop. -/
import Derived.Test.YtnennmlpaijedaaQuB
set_option linter.unusedVariables false
set_option linter.unusedSimpArgs false
namespace Go.Ab.Ytnennmlpaijedaa
open Go Go.RowKit Go.Ab Go.Proofs

theorem mi55_Less_QuC : MI Try.prog 55 "Less" 42 := ⟨fun w b o args => by kernel_rfl⟩
theorem fb42_QuC : FB Try.prog 42 := ⟨_, Try.func42, rfl, by kernel_rfl⟩
theorem mi55_Swap_QuC : MI Try.prog 55 "Swap" 45 := ⟨fun w b o args => by kernel_rfl⟩
theorem fb45_QuC : FB Try.prog 45 := ⟨_, Try.func45, rfl, by kernel_rfl⟩

@[simp] theorem swE_len (l : List Ent) (i k : Nat) : (swE l i k).length = l.length := by simp [swE]
def upF (l : List Ent) (j : Nat) : List Ent :=
  if j = 0 then l else if lessE (l.getD j e0) (l.getD ((j - 1) / 2) e0) = true then upF (swE l ((j - 1) / 2) j) ((j - 1) / 2) else l
termination_by j
decreasing_by omega
theorem upF_eq (l : List Ent) (j : Nat) : upF l j = if j = 0 then l else if lessE (l.getD j e0) (l.getD ((j - 1) / 2) e0) = true then upF (swE l ((j - 1) / 2) j) ((j - 1) / 2) else l := by rw [upF]
/-- The lesser child. -/
def chF (l : List Ent) (i m : Nat) : Nat := if 2 * i + 2 < m ∧ lessE (l.getD (2 * i + 2) e0) (l.getD (2 * i + 1) e0) = true then 2 * i + 2 else 2 * i + 1
theorem chF_gt (l : List Ent) (i m : Nat) : i < chF l i m ∧ (2 * i + 1 < m → chF l i m < m) := by unfold chF; split <;> omega
def dnF (l : List Ent) (i m : Nat) : List Ent :=
  if 2 * i + 1 < m then (if lessE (l.getD (chF l i m) e0) (l.getD i e0) = true then dnF (swE l i (chF l i m)) (chF l i m) m else l) else l
termination_by m - i
decreasing_by have := chF_gt l i m; omega
theorem dnF_eq (l : List Ent) (i m : Nat) : dnF l i m = if 2 * i + 1 < m then (if lessE (l.getD (chF l i m) e0) (l.getD i e0) = true then dnF (swE l i (chF l i m)) (chF l i m) m else l) else l := by rw [dnF]

theorem bin_half {T : Nat} {x y : Operand} (j : Nat) (hj : j ≤ 9223372036854775807) : ∀ w, (do eqGuard .quo T x y (.int .i64 ((j : Int) - 1)) (.int .i64 2); binOp .quo T (.int .i64 ((j : Int) - 1)) (.int .i64 2) : Sem Value).run Try.prog w = .ok (.int .i64 (((j - 1) / 2 : Nat) : Int)) w := fun w => by
  rcases Nat.eq_zero_or_pos j with rfl | h
  · rfl
  · have e : ((j : Int) - 1) / 2 = (((j - 1) / 2 : Nat) : Int) := by omega
    rw [bin_quo (a := (j : Int) - 1) (b := 2) (by omega) w, e]

abbrev hI : AV := .ifc 49 (.ptr 1000 0)
abbrev hI' : AV := .ifc 55 (.ptr 1000 0)

theorem up_con (ver : Nat) (xs : List Ent) (n : Int) (j : Nat) (hj : j < xs.length) (hlen : xs.length ≤ 1000000) : Con Try.prog 22 [hI', .p (I j)] (qo ver xs n) (fun r o => r = .tp [] ∧ o = qo ver (upF xs j) n) := by
  refine con_of Try.func22 rfl 23 Try.ntmps22 rfl fun cx hcx => ?_
  refine awp_block ?_
  refine x_loop [(0, _)] [] (fun x : List Ent × Nat => [(1, .p (I x.2))]) (fun x => [(1000, qh ver n), (1001, qa ver x.1)]) (fun x => x.2 < x.1.length ∧ x.1.length = xs.length ∧ upF x.1 x.2 = upF xs j) (fun x => x.2) (xs, j) (Le.mk (.cons rfl (by first | exact Sub.refl _ | exact Sub.ts | exact Sub.nil | (refine Sub.eq ?_; first | (simp; done) | (simp; omega))) (.cons rfl (by first | exact Sub.refl _ | exact Sub.ts | exact Sub.nil | (refine Sub.eq ?_; first | (simp; done) | (simp; omega))) (.nil))) (.cons rfl (by first | rfl | (simp; done)) (.cons rfl (by first | rfl | (simp; done)) (.nil))) rfl) ⟨hj, rfl, rfl⟩ (fun x hx => ?_)
  obtain ⟨l, i⟩ := x
  obtain ⟨hi, hll, hup⟩ := hx
  simp only at hi hll hup
  dsimp only [List.cons_append, List.nil_append]
  refine awp_block ?_
  refine awp_seq ?_
  refine awp_region ?_
  refine awl_move rfl rfl ?_
  first | refine awl_bin rfl rfl rfl rfl (bin_sub_i (by omega)) ?_ | refine awl_bin rfl rfl rfl rfl bin_sub ?_
  refine awl_bin rfl rfl rfl rfl (bin_half i (by omega)) ?_
  refine awl_assign rfl rfl ?_
  refine awl_nil ?_
  change AWp _ _ _ _ _ _
  refine awp_seq ?_
  refine awp_seq ?_
  refine awp_region ?_
  refine awl_move rfl rfl ?_
  refine awl_move rfl rfl ?_
  refine awl_bin rfl rfl rfl rfl bin_eql ?_
  refine awl_move rfl rfl ?_
  first | refine awl_split_p 11 rfl (fun hz => ?_) (fun hz => ?_) | refine awl_split 11 rfl (fun hz => ?_) (fun hz => ?_)
  · skip
    refine awl_guard_no rfl (by first | exact hz | exact decide_eq_true hz | exact decide_eq_false hz) rfl rfl rfl rfl ?_
    refine awl_guard_no rfl (by first | exact hz | exact decide_eq_true hz | exact decide_eq_false hz) rfl rfl rfl rfl ?_
    refine awl_guard_no rfl (by first | exact hz | exact decide_eq_true hz | exact decide_eq_false hz) rfl rfl rfl rfl ?_
    refine awl_guard_no rfl (by first | exact hz | exact decide_eq_true hz | exact decide_eq_false hz) rfl rfl rfl rfl ?_
    refine awl_guard_no rfl (by first | exact hz | exact decide_eq_true hz | exact decide_eq_false hz) rfl rfl rfl rfl ?_
    refine awl_pick_t (by first | exact hz | exact decide_eq_true hz | exact decide_eq_false hz) rfl rfl rfl ?_
    refine awl_nil ?_
    change AWp _ _ _ _ _ _
    refine awp_cond_t rfl rfl ?_
    refine awp_exit ?_
    change Ends _ _ _ _ _ _
    refine ends0 [1000, 1001] rfl  ?_ rfl
    first | (rw [← hup, upF_eq l i, if_pos (by omega)]; exact ⟨rfl, rfl⟩) | (rw [← hup, upF_eq l i, if_neg (by omega), if_neg (by simpa using hc)]; exact ⟨rfl, rfl⟩)
  · skip
    refine awl_guard_yes rfl (by first | exact hz | exact decide_eq_true hz | exact decide_eq_false hz) rfl rfl ?_
    refine awl_move rfl rfl ?_
    refine awl_guard_yes rfl (by first | exact hz | exact decide_eq_true hz | exact decide_eq_false hz) rfl rfl ?_
    refine awl_move rfl rfl ?_
    refine awl_guard_yes rfl (by first | exact hz | exact decide_eq_true hz | exact decide_eq_false hz) rfl rfl ?_
    refine awl_move rfl rfl ?_
    refine awl_guard_yes rfl (by first | exact hz | exact decide_eq_true hz | exact decide_eq_false hz) rfl rfl ?_
    refine x_invoke mi55_Less_QuC [1000, 1001] fb42_QuC rfl rfl rfl rfl (Less_con ver l n i ((i - 1) / 2) hi (by omega)) (.cons (by first | exact Sub.refl _ | exact Sub.ts | exact Sub.nil | exact Sub.agc (by repeat (first | exact .nil | refine .cons (by first | exact Sub.refl _ | exact Sub.nil) ?_))) (.cons (by first | exact Sub.refl _ | exact Sub.ts | exact Sub.nil | exact Sub.agc (by repeat (first | exact .nil | refine .cons (by first | exact Sub.refl _ | exact Sub.nil) ?_))) (.cons (by first | exact Sub.refl _ | exact Sub.ts | exact Sub.nil | exact Sub.agc (by repeat (first | exact .nil | refine .cons (by first | exact Sub.refl _ | exact Sub.nil) ?_))) .nil))) rfl (fun r o ⟨e1, e2⟩ => ?_)
    subst e1 e2
    refine ⟨by rw [hcx]; rfl, _, rfl, ?_⟩
    refine awl_guard_yes rfl (by first | exact hz | exact decide_eq_true hz | exact decide_eq_false hz) rfl rfl ?_
    first | refine awl_un rfl rfl rfl un_notd ?_ | refine awl_un rfl rfl rfl un_not ?_
    refine awl_pick_f (by first | exact hz | exact decide_eq_true hz | exact decide_eq_false hz) rfl rfl rfl ?_
    refine awl_nil ?_
    change AWp _ _ _ _ _ _
    first | refine awp_cond_p rfl (fun hc => ?_) (fun hc => ?_) | refine awp_cond rfl (fun hc => ?_) (fun hc => ?_)
    · skip
      refine awp_exit ?_
      change Ends _ _ _ _ _ _
      refine ends0 [1000, 1001] rfl  ?_ rfl
      first | (rw [← hup, upF_eq l i, if_pos (by omega)]; exact ⟨rfl, rfl⟩) | (rw [← hup, upF_eq l i, if_neg (by omega), if_neg (by simpa using hc)]; exact ⟨rfl, rfl⟩)
    · skip
      refine awp_skip ?_
      change AWp _ _ _ _ _ _
      refine awp_seq ?_
      refine awp_region ?_
      refine awl_move rfl rfl ?_
      refine awl_move rfl rfl ?_
      refine awl_move rfl rfl ?_
      refine x_invoke mi55_Swap_QuC [1000, 1001] fb45_QuC rfl rfl rfl rfl (Swap_con ver l n ((i - 1) / 2) i (by omega) hi) (.cons (by first | exact Sub.refl _ | exact Sub.ts | exact Sub.nil | exact Sub.agc (by repeat (first | exact .nil | refine .cons (by first | exact Sub.refl _ | exact Sub.nil) ?_))) (.cons (by first | exact Sub.refl _ | exact Sub.ts | exact Sub.nil | exact Sub.agc (by repeat (first | exact .nil | refine .cons (by first | exact Sub.refl _ | exact Sub.nil) ?_))) (.cons (by first | exact Sub.refl _ | exact Sub.ts | exact Sub.nil | exact Sub.agc (by repeat (first | exact .nil | refine .cons (by first | exact Sub.refl _ | exact Sub.nil) ?_))) .nil))) rfl (fun r o ⟨e1, e2⟩ => ?_)
      subst e1 e2
      refine ⟨by rw [hcx]; rfl, _, rfl, ?_⟩
      refine awl_nil ?_
      change AWp _ _ _ _ _ _
      refine awp_region ?_
      refine awl_move rfl rfl ?_
      refine awl_assign rfl rfl ?_
      refine awl_nil ?_
      change ∃ x', _
      refine ⟨(swE l ((i - 1) / 2) i, (i - 1) / 2), ⟨by simp; omega, by simp [hll], by rw [← hup, upF_eq l i, if_neg (by omega), if_pos (by simpa using hc)]⟩, (by simp only; omega), (Le.mk (.cons rfl (by first | exact Sub.refl _ | exact Sub.ts | exact Sub.nil | (refine Sub.eq ?_; first | (simp; done) | (simp; omega))) (.cons rfl (by first | exact Sub.refl _ | exact Sub.ts | exact Sub.nil | (refine Sub.eq ?_; first | (simp; done) | (simp; omega))) (.nil))) (.cons rfl (by first | rfl | (simp; done)) (.cons rfl (by first | rfl | (simp; done)) (.nil))) rfl)⟩

end Go.Ab.Ytnennmlpaijedaa
