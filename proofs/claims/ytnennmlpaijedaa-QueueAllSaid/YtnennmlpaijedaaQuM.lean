/- The document's queue: First, Take. -/
import Derived.Test.YtnennmlpaijedaaQuL
set_option linter.unusedVariables false
set_option linter.unusedSimpArgs false
namespace Go.Ab.Ytnennmlpaijedaa
open Go Go.RowKit Go.Ab Go.Proofs

theorem fi29_0_QuM : FI Try.prog 29 0 0 := ⟨_, _, 0, Try.underlying29, rfl, rfl, by kernel_rfl⟩
theorem ti27_QuM : TI Try.prog 27 1 false := ⟨by kernel_rfl, by kernel_rfl⟩
theorem si27_QuM : SI Try.prog 27 36 := ⟨Try.underlying27⟩
theorem hmo_QuM : Try.prog.follows .mixedOrders = true := by kernel_rfl
theorem ti36_QuM : TI Try.prog 36 2 true := ⟨by kernel_rfl, by kernel_rfl⟩
theorem fi36_0_QuM : FI Try.prog 36 0 0 := ⟨_, _, 0, Try.underlying36, rfl, rfl, by kernel_rfl⟩
theorem ti3_QuM : TI Try.prog 3 1 false := ⟨by kernel_rfl, by kernel_rfl⟩
theorem tz36_QuM : TZ Try.prog 36 [(.int .i64 0), (.int .i64 0)] := ⟨⟨.agg #[(.int .i64 0), (.int .i64 0)], by kernel_rfl, rfl⟩, by kernel_rfl⟩
theorem ei36_QuM : EI Try.prog 36 2 16 := ⟨by kernel_rfl⟩

def rowR (e : Ent) : List PV := [I e.w, I e.n]
def encR (l : List Ent) : List (List PV) := l.map rowR
@[simp] theorem encR_len (l : List Ent) : (encR l).length = l.length := by simp [encR]
theorem encR_at {l : List Ent} {i : Int} (h0 : 0 ≤ i) (h : i < l.length) : rowAt (encR l) i = rowR (l.getD i.toNat e0) := by
  have : i.toNat < l.length := by omega
  unfold rowAt; simp [encR, this]
def ro (xs : List Ent) : Obs := [(24, .ce 29 [.ts 2001 2 (encR xs)]), (2001, .ar 36 2 xs.length)]

/-- The first of the least weight; -1 where none is. -/
def fF (l : List Ent) : Nat → Int
  | 0 => -1
  | i + 1 => if fF l i < 0 ∨ (l.getD i e0).w < (l.getD (fF l i).toNat e0).w then i else fF l i
theorem fF_lt (l : List Ent) (i : Nat) : -1 ≤ fF l i ∧ fF l i < i := by
  induction i with
  | zero => simp [fF]
  | succ i ih => rw [fF]; split <;> omega
theorem fF_t {l : List Ent} {i : Nat} (h : fF l i < 0 ∨ (l.getD i e0).w < (l.getD (fF l i).toNat e0).w) : ((i : Nat) : Int) = fF l (i + 1) := by rw [fF, if_pos h]
theorem fF_f {l : List Ent} {i : Nat} (h : ¬ fF l i < 0) (h2 : ¬ (l.getD i e0).w < (l.getD (fF l i).toNat e0).w) : fF l i = fF l (i + 1) := by rw [fF, if_neg (by rintro (h3 | h3) <;> contradiction)]

theorem First_con (xs : List Ent) (hlen : xs.length ≤ 1000000) : Con Try.prog 10 [.ptr 24 0] (ro xs) (fun r o => r = .p (I (fF xs xs.length)) ∧ o = ro xs) := by
  have hl := encR_len xs
  refine con_of Try.func10 rfl 37 Try.ntmps10 rfl fun cx hcx => ?_
  refine awp_seq ?_
  refine awp_region ?_
  refine awl_assign rfl rfl ?_
  refine awl_nil ?_
  change AWp _ _ _ _ _ _
  refine awp_seq ?_
  refine awp_region ?_
  refine awl_assign rfl rfl ?_
  refine awl_nil ?_
  change AWp _ _ _ _ _ _
  refine awp_seq ?_
  refine awp_seq ?_
  refine awp_region ?_
  refine awl_assign rfl rfl ?_
  refine awl_nil ?_
  change AWp _ _ _ _ _ _
  refine awp_block ?_
  refine x_loop [(0, _)] [(24, _), (2001, _)] (fun x : Nat => [(3, .p (I (fF xs x))), (4, .p (I x))]) (fun x => []) (fun x => x ≤ xs.length) (fun x => xs.length - x) 0 (Le.mk (.cons rfl (by first | exact Sub.refl _ | exact Sub.ts | exact Sub.nil | (refine Sub.eq ?_; first | (simp; done) | (simp; omega) | (exact congrArg (fun z => AV.p (I z)) hf))) (.cons rfl (by first | exact Sub.refl _ | exact Sub.ts | exact Sub.nil | (refine Sub.eq ?_; first | (simp; done) | (simp; omega) | (exact congrArg (fun z => AV.p (I z)) hf))) (.cons rfl (by first | exact Sub.refl _ | exact Sub.ts | exact Sub.nil | (refine Sub.eq ?_; first | (simp; done) | (simp; omega) | (exact congrArg (fun z => AV.p (I z)) hf))) (.nil)))) (.cons rfl (by first | rfl | (simp; done)) (.cons rfl (by first | rfl | (simp; done)) (.nil))) rfl) (Nat.zero_le _) (fun x hx => ?_)
  skip
  dsimp only [List.cons_append, List.nil_append]
  refine awp_seq ?_
  refine awp_seq ?_
  refine awp_region ?_
  refine awl_move rfl rfl ?_
  refine awl_move rfl rfl ?_
  refine awl_nilCheck rfl rfl rfl ?_
  first | refine awl_fieldAddr fi29_0_QuM rfl rfl ?_ | refine awl_fieldAddr_i fi29_0_QuM rfl rfl rfl ?_ | refine awl_field_m fi29_0_QuM rfl rfl rfl ?_
  first | refine awl_load_one ti27_QuM rfl rfl rfl rfl ?_ | refine awl_load_ione ti27_QuM rfl rfl rfl ?_ | refine awl_load_m1 ti27_QuM rfl rfl (by assumption) rfl rfl ?_
  first | refine x_len si27_QuM rfl rfl rfl (fun hlen9 => ?_) | refine awl_len_m si27_QuM rfl rfl rfl (fun hlen9 => ?_)
  refine awl_bin rfl rfl rfl rfl bin_lss ?_
  refine awl_nil ?_
  change AWp _ _ _ _ _ _
  first | refine awp_cond_p rfl (fun hc => ?_) (fun hc => ?_) | refine awp_cond rfl (fun hc => ?_) (fun hc => ?_)
  · skip
    have hf0 := fF_lt xs x
    have hrow1 := encR_at (l := xs) (i := (x : Int)) (by omega) (by omega)
    refine awp_skip ?_
    change AWp _ _ _ _ _ _
    refine awp_seq ?_
    refine awp_block ?_
    refine awp_seq ?_
    refine awp_draw0 hmo_QuM (by kernel_rfl) ?_
    refine awd_q [(3, _)] (.cons rfl (.nil)) rfl rfl rfl ?_
    apply Exists.intro
    refine ⟨fun regs' => ?_, ?_⟩
    · skip
      refine awl_move rfl rfl ?_
      exact awl_done rfl
    refine awd_q [(14, _)] (.cons rfl (.nil)) rfl rfl rfl ?_
    apply Exists.intro
    refine ⟨fun regs' => ?_, ?_⟩
    · skip
      refine awl_bin rfl rfl rfl rfl bin_lss ?_
      exact awl_done rfl
    refine awd_q [(15, _)] (.cons rfl (.nil)) rfl rfl rfl ?_
    apply Exists.intro
    refine ⟨fun regs' => ?_, ?_⟩
    · skip
      refine awl_move rfl rfl ?_
      exact awl_done rfl
    first | refine awd_split_p 16 rfl (fun hk => ?_) (fun hk => ?_) | refine awd_split 16 rfl (fun hk => ?_) (fun hk => ?_)
    · skip
      have hf : ((x : Nat) : Int) = fF xs (x + 1) := fF_t (.inl hk)
      refine awd_q [(0, _), (16, _)] (.cons rfl (.cons rfl (.nil))) rfl rfl rfl ?_
      apply Exists.intro
      refine ⟨fun regs' => ?_, ?_⟩
      · skip
        refine awl_guard_no rfl (by first | exact hk | exact decide_eq_true hk | exact decide_eq_false hk) rfl rfl rfl rfl ?_
        exact awl_done rfl
      refine awd_q [(17, _), (16, _)] (.cons rfl (.cons rfl (.nil))) rfl rfl rfl ?_
      apply Exists.intro
      refine ⟨fun regs' => ?_, ?_⟩
      · skip
        refine awl_guard_no rfl (by first | exact hk | exact decide_eq_true hk | exact decide_eq_false hk) rfl rfl rfl rfl ?_
        exact awl_done rfl
      refine awd_q [(18, _), (16, _)] (.cons rfl (.cons rfl (.nil))) rfl rfl rfl ?_
      apply Exists.intro
      refine ⟨fun regs' => ?_, ?_⟩
      · skip
        refine awl_guard_no rfl (by first | exact hk | exact decide_eq_true hk | exact decide_eq_false hk) rfl rfl rfl rfl ?_
        exact awl_done rfl
      refine awd_q [(19, _), (16, _)] (.cons rfl (.cons rfl (.nil))) rfl rfl rfl ?_
      apply Exists.intro
      refine ⟨fun regs' => ?_, ?_⟩
      · skip
        refine awl_guard_no rfl (by first | exact hk | exact decide_eq_true hk | exact decide_eq_false hk) rfl rfl rfl rfl ?_
        exact awl_done rfl
      refine awd_q [(4, _), (16, _)] (.cons rfl (.cons rfl (.nil))) rfl rfl rfl ?_
      apply Exists.intro
      refine ⟨fun regs' => ?_, ?_⟩
      · skip
        refine awl_guard_no rfl (by first | exact hk | exact decide_eq_true hk | exact decide_eq_false hk) rfl rfl rfl rfl ?_
        exact awl_done rfl
      refine awd_q [(20, _), (21, _), (16, _)] (.cons rfl (.cons rfl (.cons rfl (.nil)))) rfl rfl rfl ?_
      apply Exists.intro
      refine ⟨fun regs' => ?_, ?_⟩
      · skip
        refine awl_guard_no rfl (by first | exact hk | exact decide_eq_true hk | exact decide_eq_false hk) rfl rfl rfl rfl ?_
        exact awl_done rfl
      refine awd_q [(22, _), (16, _)] (.cons rfl (.cons rfl (.nil))) rfl rfl rfl ?_
      apply Exists.intro
      refine ⟨fun regs' => ?_, ?_⟩
      · skip
        refine awl_guard_no rfl (by first | exact hk | exact decide_eq_true hk | exact decide_eq_false hk) rfl rfl rfl rfl ?_
        exact awl_done rfl
      refine awd_q [(23, _), (16, _)] (.cons rfl (.cons rfl (.nil))) rfl rfl rfl ?_
      apply Exists.intro
      refine ⟨fun regs' => ?_, ?_⟩
      · skip
        refine awl_guard_no rfl (by first | exact hk | exact decide_eq_true hk | exact decide_eq_false hk) rfl rfl rfl rfl ?_
        exact awl_done rfl
      refine awd_q [(0, _), (16, _)] (.cons rfl (.cons rfl (.nil))) rfl rfl rfl ?_
      apply Exists.intro
      refine ⟨fun regs' => ?_, ?_⟩
      · skip
        refine awl_guard_no rfl (by first | exact hk | exact decide_eq_true hk | exact decide_eq_false hk) rfl rfl rfl rfl ?_
        exact awl_done rfl
      refine awd_q [(25, _), (16, _)] (.cons rfl (.cons rfl (.nil))) rfl rfl rfl ?_
      apply Exists.intro
      refine ⟨fun regs' => ?_, ?_⟩
      · skip
        refine awl_guard_no rfl (by first | exact hk | exact decide_eq_true hk | exact decide_eq_false hk) rfl rfl rfl rfl ?_
        exact awl_done rfl
      refine awd_q [(26, _), (16, _)] (.cons rfl (.cons rfl (.nil))) rfl rfl rfl ?_
      apply Exists.intro
      refine ⟨fun regs' => ?_, ?_⟩
      · skip
        refine awl_guard_no rfl (by first | exact hk | exact decide_eq_true hk | exact decide_eq_false hk) rfl rfl rfl rfl ?_
        exact awl_done rfl
      refine awd_q [(27, _), (16, _)] (.cons rfl (.cons rfl (.nil))) rfl rfl rfl ?_
      apply Exists.intro
      refine ⟨fun regs' => ?_, ?_⟩
      · skip
        refine awl_guard_no rfl (by first | exact hk | exact decide_eq_true hk | exact decide_eq_false hk) rfl rfl rfl rfl ?_
        exact awl_done rfl
      refine awd_q [(3, _), (16, _)] (.cons rfl (.cons rfl (.nil))) rfl rfl rfl ?_
      apply Exists.intro
      refine ⟨fun regs' => ?_, ?_⟩
      · skip
        refine awl_guard_no rfl (by first | exact hk | exact decide_eq_true hk | exact decide_eq_false hk) rfl rfl rfl rfl ?_
        exact awl_done rfl
      refine awd_q [(28, _), (29, _), (16, _)] (.cons rfl (.cons rfl (.cons rfl (.nil)))) rfl rfl rfl ?_
      apply Exists.intro
      refine ⟨fun regs' => ?_, ?_⟩
      · skip
        refine awl_guard_no rfl (by first | exact hk | exact decide_eq_true hk | exact decide_eq_false hk) rfl rfl rfl rfl ?_
        exact awl_done rfl
      refine awd_q [(30, _), (16, _)] (.cons rfl (.cons rfl (.nil))) rfl rfl rfl ?_
      apply Exists.intro
      refine ⟨fun regs' => ?_, ?_⟩
      · skip
        refine awl_guard_no rfl (by first | exact hk | exact decide_eq_true hk | exact decide_eq_false hk) rfl rfl rfl rfl ?_
        exact awl_done rfl
      refine awd_q [(31, _), (16, _)] (.cons rfl (.cons rfl (.nil))) rfl rfl rfl ?_
      apply Exists.intro
      refine ⟨fun regs' => ?_, ?_⟩
      · skip
        refine awl_guard_no rfl (by first | exact hk | exact decide_eq_true hk | exact decide_eq_false hk) rfl rfl rfl rfl ?_
        exact awl_done rfl
      refine awd_q [(24, _), (32, _), (16, _)] (.cons rfl (.cons rfl (.cons rfl (.nil)))) rfl rfl rfl ?_
      apply Exists.intro
      refine ⟨fun regs' => ?_, ?_⟩
      · skip
        refine awl_guard_no rfl (by first | exact hk | exact decide_eq_true hk | exact decide_eq_false hk) rfl rfl rfl rfl ?_
        exact awl_done rfl
      refine awd_q [(16, _), (33, _)] (.cons rfl (.cons rfl (.nil))) rfl rfl rfl ?_
      apply Exists.intro
      refine ⟨fun regs' => ?_, ?_⟩
      · skip
        refine awl_pick_t (by first | exact hk | exact decide_eq_true hk | exact decide_eq_false hk) rfl rfl rfl ?_
        exact awl_done rfl
      refine awd_nil ?_
      change AWp _ _ _ _ _ _
      refine awp_cond_t rfl rfl ?_
      refine awp_region ?_
      refine awl_move rfl rfl ?_
      refine awl_assign rfl rfl ?_
      refine awl_nil ?_
      change AWp _ _ _ _ _ _
      refine awp_region ?_
      refine awl_move rfl rfl ?_
      first | refine awl_bin rfl rfl rfl rfl (bin_add_i (by omega)) ?_ | refine awl_bin rfl rfl rfl rfl bin_add ?_
      refine awl_assign rfl rfl ?_
      refine awl_nil ?_
      change ∃ x', _
      refine ⟨(x + 1), (by omega), (by omega), (Le.mk (.cons rfl (by first | exact Sub.refl _ | exact Sub.ts | exact Sub.nil | (refine Sub.eq ?_; first | (simp; done) | (simp; omega) | (exact congrArg (fun z => AV.p (I z)) hf))) (.cons rfl (by first | exact Sub.refl _ | exact Sub.ts | exact Sub.nil | (refine Sub.eq ?_; first | (simp; done) | (simp; omega) | (exact congrArg (fun z => AV.p (I z)) hf))) (.cons rfl (by first | exact Sub.refl _ | exact Sub.ts | exact Sub.nil | (refine Sub.eq ?_; first | (simp; done) | (simp; omega) | (exact congrArg (fun z => AV.p (I z)) hf))) (.nil)))) (.cons rfl (by first | rfl | (simp; done)) (.cons rfl (by first | rfl | (simp; done)) (.nil))) rfl)⟩
    · skip
      have hrow2 := encR_at (l := xs) (i := fF xs x) (by omega) (by omega)
      refine awd_q [(0, _), (16, _)] (.cons rfl (.cons rfl (.nil))) rfl rfl rfl ?_
      apply Exists.intro
      refine ⟨fun regs' => ?_, ?_⟩
      · skip
        refine awl_guard_yes rfl (by first | exact hk | exact decide_eq_true hk | exact decide_eq_false hk) rfl rfl ?_
        refine awl_move rfl rfl ?_
        exact awl_done rfl
      refine awd_q [(17, _), (16, _)] (.cons rfl (.cons rfl (.nil))) rfl rfl rfl ?_
      apply Exists.intro
      refine ⟨fun regs' => ?_, ?_⟩
      · skip
        refine awl_guard_yes rfl (by first | exact hk | exact decide_eq_true hk | exact decide_eq_false hk) rfl rfl ?_
        refine awl_nilCheck rfl rfl rfl ?_
        exact awl_done rfl
      refine awd_q [(18, _), (16, _)] (.cons rfl (.cons rfl (.nil))) rfl rfl rfl ?_
      apply Exists.intro
      refine ⟨fun regs' => ?_, ?_⟩
      · skip
        refine awl_guard_yes rfl (by first | exact hk | exact decide_eq_true hk | exact decide_eq_false hk) rfl rfl ?_
        first | refine awl_fieldAddr fi29_0_QuM rfl rfl ?_ | refine awl_fieldAddr_i fi29_0_QuM rfl rfl rfl ?_ | refine awl_field_m fi29_0_QuM rfl rfl rfl ?_
        exact awl_done rfl
      refine awd_q [(19, _), (16, _)] (.cons rfl (.cons rfl (.nil))) rfl rfl rfl ?_
      apply Exists.intro
      refine ⟨fun regs' => ?_, ?_⟩
      · skip
        refine awl_guard_yes rfl (by first | exact hk | exact decide_eq_true hk | exact decide_eq_false hk) rfl rfl ?_
        first | refine awl_load_one ti27_QuM rfl rfl rfl rfl ?_ | refine awl_load_ione ti27_QuM rfl rfl rfl ?_ | refine awl_load_m1 ti27_QuM rfl rfl (by assumption) rfl rfl ?_
        exact awl_done rfl
      refine awd_q [(4, _), (16, _)] (.cons rfl (.cons rfl (.nil))) rfl rfl rfl ?_
      apply Exists.intro
      refine ⟨fun regs' => ?_, ?_⟩
      · skip
        refine awl_guard_yes rfl (by first | exact hk | exact decide_eq_true hk | exact decide_eq_false hk) rfl rfl ?_
        refine awl_move rfl rfl ?_
        exact awl_done rfl
      refine awd_q [(20, _), (21, _), (16, _)] (.cons rfl (.cons rfl (.cons rfl (.nil)))) rfl rfl rfl ?_
      apply Exists.intro
      refine ⟨fun regs' => ?_, ?_⟩
      · skip
        refine awl_guard_yes rfl (by first | exact hk | exact decide_eq_true hk | exact decide_eq_false hk) rfl rfl ?_
        refine x_index si27_QuM ti36_QuM rfl rfl rfl rfl (by omega) (by first | omega | (simp only [List.length_map]; omega) | (simp; omega)) (by first | exact hrow1 | exact hrow2) rfl ?_
        exact awl_done rfl
      refine awd_q [(22, _), (16, _)] (.cons rfl (.cons rfl (.nil))) rfl rfl rfl ?_
      apply Exists.intro
      refine ⟨fun regs' => ?_, ?_⟩
      · skip
        refine awl_guard_yes rfl (by first | exact hk | exact decide_eq_true hk | exact decide_eq_false hk) rfl rfl ?_
        first | refine awl_fieldAddr fi36_0_QuM rfl rfl ?_ | refine awl_fieldAddr_i fi36_0_QuM rfl rfl rfl ?_ | refine awl_field_m fi36_0_QuM rfl rfl rfl ?_
        exact awl_done rfl
      refine awd_q [(23, _), (16, _)] (.cons rfl (.cons rfl (.nil))) rfl rfl rfl ?_
      apply Exists.intro
      refine ⟨fun regs' => ?_, ?_⟩
      · skip
        refine awl_guard_yes rfl (by first | exact hk | exact decide_eq_true hk | exact decide_eq_false hk) rfl rfl ?_
        first | refine awl_load_one ti3_QuM rfl rfl rfl rfl ?_ | refine awl_load_ione ti3_QuM rfl rfl rfl ?_ | refine awl_load_m1 ti3_QuM rfl rfl (by assumption) rfl rfl ?_
        exact awl_done rfl
      refine awd_q [(0, _), (16, _)] (.cons rfl (.cons rfl (.nil))) rfl rfl rfl ?_
      apply Exists.intro
      refine ⟨fun regs' => ?_, ?_⟩
      · skip
        refine awl_guard_yes rfl (by first | exact hk | exact decide_eq_true hk | exact decide_eq_false hk) rfl rfl ?_
        refine awl_move rfl rfl ?_
        exact awl_done rfl
      refine awd_q [(25, _), (16, _)] (.cons rfl (.cons rfl (.nil))) rfl rfl rfl ?_
      apply Exists.intro
      refine ⟨fun regs' => ?_, ?_⟩
      · skip
        refine awl_guard_yes rfl (by first | exact hk | exact decide_eq_true hk | exact decide_eq_false hk) rfl rfl ?_
        refine awl_nilCheck rfl rfl rfl ?_
        exact awl_done rfl
      refine awd_q [(26, _), (16, _)] (.cons rfl (.cons rfl (.nil))) rfl rfl rfl ?_
      apply Exists.intro
      refine ⟨fun regs' => ?_, ?_⟩
      · skip
        refine awl_guard_yes rfl (by first | exact hk | exact decide_eq_true hk | exact decide_eq_false hk) rfl rfl ?_
        first | refine awl_fieldAddr fi29_0_QuM rfl rfl ?_ | refine awl_fieldAddr_i fi29_0_QuM rfl rfl rfl ?_ | refine awl_field_m fi29_0_QuM rfl rfl rfl ?_
        exact awl_done rfl
      refine awd_q [(27, _), (16, _)] (.cons rfl (.cons rfl (.nil))) rfl rfl rfl ?_
      apply Exists.intro
      refine ⟨fun regs' => ?_, ?_⟩
      · skip
        refine awl_guard_yes rfl (by first | exact hk | exact decide_eq_true hk | exact decide_eq_false hk) rfl rfl ?_
        first | refine awl_load_one ti27_QuM rfl rfl rfl rfl ?_ | refine awl_load_ione ti27_QuM rfl rfl rfl ?_ | refine awl_load_m1 ti27_QuM rfl rfl (by assumption) rfl rfl ?_
        exact awl_done rfl
      refine awd_q [(3, _), (16, _)] (.cons rfl (.cons rfl (.nil))) rfl rfl rfl ?_
      apply Exists.intro
      refine ⟨fun regs' => ?_, ?_⟩
      · skip
        refine awl_guard_yes rfl (by first | exact hk | exact decide_eq_true hk | exact decide_eq_false hk) rfl rfl ?_
        refine awl_move rfl rfl ?_
        exact awl_done rfl
      refine awd_q [(28, _), (29, _), (16, _)] (.cons rfl (.cons rfl (.cons rfl (.nil)))) rfl rfl rfl ?_
      apply Exists.intro
      refine ⟨fun regs' => ?_, ?_⟩
      · skip
        refine awl_guard_yes rfl (by first | exact hk | exact decide_eq_true hk | exact decide_eq_false hk) rfl rfl ?_
        refine x_index si27_QuM ti36_QuM rfl rfl rfl rfl (by omega) (by first | omega | (simp only [List.length_map]; omega) | (simp; omega)) (by first | exact hrow1 | exact hrow2) rfl ?_
        exact awl_done rfl
      refine awd_q [(30, _), (16, _)] (.cons rfl (.cons rfl (.nil))) rfl rfl rfl ?_
      apply Exists.intro
      refine ⟨fun regs' => ?_, ?_⟩
      · skip
        refine awl_guard_yes rfl (by first | exact hk | exact decide_eq_true hk | exact decide_eq_false hk) rfl rfl ?_
        first | refine awl_fieldAddr fi36_0_QuM rfl rfl ?_ | refine awl_fieldAddr_i fi36_0_QuM rfl rfl rfl ?_ | refine awl_field_m fi36_0_QuM rfl rfl rfl ?_
        exact awl_done rfl
      refine awd_q [(31, _), (16, _)] (.cons rfl (.cons rfl (.nil))) rfl rfl rfl ?_
      apply Exists.intro
      refine ⟨fun regs' => ?_, ?_⟩
      · skip
        refine awl_guard_yes rfl (by first | exact hk | exact decide_eq_true hk | exact decide_eq_false hk) rfl rfl ?_
        first | refine awl_load_one ti3_QuM rfl rfl rfl rfl ?_ | refine awl_load_ione ti3_QuM rfl rfl rfl ?_ | refine awl_load_m1 ti3_QuM rfl rfl (by assumption) rfl rfl ?_
        exact awl_done rfl
      refine awd_q [(24, _), (32, _), (16, _)] (.cons rfl (.cons rfl (.cons rfl (.nil)))) rfl rfl rfl ?_
      apply Exists.intro
      refine ⟨fun regs' => ?_, ?_⟩
      · skip
        refine awl_guard_yes rfl (by first | exact hk | exact decide_eq_true hk | exact decide_eq_false hk) rfl rfl ?_
        refine awl_bin rfl rfl rfl rfl bin_lss ?_
        exact awl_done rfl
      refine awd_q [(16, _), (33, _)] (.cons rfl (.cons rfl (.nil))) rfl rfl rfl ?_
      apply Exists.intro
      refine ⟨fun regs' => ?_, ?_⟩
      · skip
        refine awl_pick_f (by first | exact hk | exact decide_eq_true hk | exact decide_eq_false hk) rfl rfl rfl ?_
        exact awl_done rfl
      refine awd_nil ?_
      change AWp _ _ _ _ _ _
      first | refine awp_cond_p rfl (fun hb => ?_) (fun hb => ?_) | refine awp_cond rfl (fun hb => ?_) (fun hb => ?_)
      · skip
        have hf : ((x : Nat) : Int) = fF xs (x + 1) := fF_t (.inr hb)
        refine awp_region ?_
        refine awl_move rfl rfl ?_
        refine awl_assign rfl rfl ?_
        refine awl_nil ?_
        change AWp _ _ _ _ _ _
        refine awp_region ?_
        refine awl_move rfl rfl ?_
        first | refine awl_bin rfl rfl rfl rfl (bin_add_i (by omega)) ?_ | refine awl_bin rfl rfl rfl rfl bin_add ?_
        refine awl_assign rfl rfl ?_
        refine awl_nil ?_
        change ∃ x', _
        refine ⟨(x + 1), (by omega), (by omega), (Le.mk (.cons rfl (by first | exact Sub.refl _ | exact Sub.ts | exact Sub.nil | (refine Sub.eq ?_; first | (simp; done) | (simp; omega) | (exact congrArg (fun z => AV.p (I z)) hf))) (.cons rfl (by first | exact Sub.refl _ | exact Sub.ts | exact Sub.nil | (refine Sub.eq ?_; first | (simp; done) | (simp; omega) | (exact congrArg (fun z => AV.p (I z)) hf))) (.cons rfl (by first | exact Sub.refl _ | exact Sub.ts | exact Sub.nil | (refine Sub.eq ?_; first | (simp; done) | (simp; omega) | (exact congrArg (fun z => AV.p (I z)) hf))) (.nil)))) (.cons rfl (by first | rfl | (simp; done)) (.cons rfl (by first | rfl | (simp; done)) (.nil))) rfl)⟩
      · skip
        have hf : fF xs x = fF xs (x + 1) := fF_f hk hb
        refine awp_skip ?_
        change AWp _ _ _ _ _ _
        refine awp_region ?_
        refine awl_move rfl rfl ?_
        first | refine awl_bin rfl rfl rfl rfl (bin_add_i (by omega)) ?_ | refine awl_bin rfl rfl rfl rfl bin_add ?_
        refine awl_assign rfl rfl ?_
        refine awl_nil ?_
        change ∃ x', _
        refine ⟨(x + 1), (by omega), (by omega), (Le.mk (.cons rfl (by first | exact Sub.refl _ | exact Sub.ts | exact Sub.nil | (refine Sub.eq ?_; first | (simp; done) | (simp; omega) | (exact congrArg (fun z => AV.p (I z)) hf))) (.cons rfl (by first | exact Sub.refl _ | exact Sub.ts | exact Sub.nil | (refine Sub.eq ?_; first | (simp; done) | (simp; omega) | (exact congrArg (fun z => AV.p (I z)) hf))) (.cons rfl (by first | exact Sub.refl _ | exact Sub.ts | exact Sub.nil | (refine Sub.eq ?_; first | (simp; done) | (simp; omega) | (exact congrArg (fun z => AV.p (I z)) hf))) (.nil)))) (.cons rfl (by first | rfl | (simp; done)) (.cons rfl (by first | rfl | (simp; done)) (.nil))) rfl)⟩
  · skip
    refine awp_exit ?_
    change AWp _ _ _ _ _ _
    refine awp_seq ?_
    refine awp_region ?_
    refine awl_move rfl rfl ?_
    refine awl_assign rfl rfl ?_
    refine awl_nil ?_
    change AWp _ _ _ _ _ _
    refine awp_ret ?_
    change Ends _ _ _ _ _ _
    refine ends1 [24, 2001] rfl (.tmp rfl) ?_ rfl
    obtain rfl : x = xs.length := by omega
    exact ⟨rfl, rfl⟩

theorem encR_erase (xs : List Ent) (k : Nat) : (encR xs).take k ++ (encR xs).drop (k + 1) = encR (xs.eraseIdx k) := by
  rw [encR, List.eraseIdx_eq_take_drop_succ, ← List.map_take, ← List.map_drop, ← List.map_append]; rfl

theorem Take_con (xs : List Ent) (k : Nat) (hk : k < xs.length) (hlen : xs.length ≤ 1000000) : Con Try.prog 11 [.ptr 24 0, .p (I k)] (ro xs)
    (fun r o => r = .ag [.p (I (xs.getD k e0).w), .p (I (xs.getD k e0).n)] ∧ o = [(14, .ar 36 2 (xs.eraseIdx k).length), (24, .ce 29 [.ts 14 2 (encR (xs.eraseIdx k))])]) := by
  have hl := encR_len xs
  have hrow1 := encR_at (l := xs) (i := (k : Int)) (by omega) (by omega)
  have he := encR_erase xs k
  have h1 : ((encR xs).take k).length = k := by simp; omega
  have h2 : ((encR xs).drop (k + 1)).length = xs.length - (k + 1) := by simp
  have h3 : (xs.eraseIdx k).length = ((encR xs).take k).length + ((encR xs).drop (k + 1)).length := by rw [h1, h2, List.length_eraseIdx, if_pos hk]; omega
  refine con_of Try.func11 rfl 33 Try.ntmps11 rfl fun cx hcx => ?_
  refine awp_seq ?_
  refine awp_region ?_
  refine x_alloc tz36_QuM rfl rfl (by rw [hcx]; rfl) rfl ?_
  refine awl_nil ?_
  change AWp _ _ _ _ _ _
  refine awp_seq ?_
  refine awp_region ?_
  refine awl_move rfl rfl ?_
  refine awl_nilCheck rfl rfl rfl ?_
  first | refine awl_fieldAddr fi29_0_QuM rfl rfl ?_ | refine awl_fieldAddr_i fi29_0_QuM rfl rfl rfl ?_ | refine awl_field_m fi29_0_QuM rfl rfl rfl ?_
  first | refine awl_load_one ti27_QuM rfl rfl rfl rfl ?_ | refine awl_load_ione ti27_QuM rfl rfl rfl ?_ | refine awl_load_m1 ti27_QuM rfl rfl (by assumption) rfl rfl ?_
  refine awl_move rfl rfl ?_
  refine x_index si27_QuM ti36_QuM rfl rfl rfl rfl (by omega) (by first | omega | (simp only [List.length_map]; omega) | (simp; omega)) (by exact hrow1) rfl ?_
  first | refine awl_load_row ti36_QuM rfl rfl rfl rfl ?_ | refine x_irow ti36_QuM rfl rfl rfl rfl ?_ | refine awl_load_m ti36_QuM rfl rfl (by assumption) rfl rfl ?_
  refine x_alloc tz36_QuM rfl rfl (by rw [hcx]; rfl) rfl ?_
  first | refine x_store ti36_QuM rfl rfl rfl rfl rfl rfl rfl rfl ?_ | refine awl_store_m ti36_QuM rfl rfl rfl (by first | omega | (simp; omega)) rfl rfl rfl rfl ?_
  refine awl_nil ?_
  change AWp _ _ _ _ _ _
  refine awp_seq ?_
  apply awp_drawS [1, 8, 16, 19] [19] [(1, 14)] ((fun (B : Obs) => oget [([], B), ([1], (14, .ar 36 2 0) :: B), ([1, 8], (14, .ar 36 2 (0 + ((encR xs).take k).length)) :: B), ([1, 8, 16], (14, .ar 36 2 (((encR xs).take k).length + ((encR xs).drop (k + 1)).length)) :: B), ([1, 8, 16, 19], [(14, .ar 36 2 (((encR xs).take k).length + ((encR xs).drop (k + 1)).length)), (5, .ce 36 [.p (I (xs.getD k e0).w), .p (I (xs.getD k e0).n)]), (4, .ce 36 [.p (I 0), .p (I 0)]), (24, .ce 29 [.ts 14 2 ((encR xs).take k ++ (encR xs).drop (k + 1))]), (2001, .ar 36 2 xs.length)]), ([1, 16], B), ([8, 16], B), ([8], B), ([16], B)]) _)
  · rfl
  · rfl
  · exact hmo_QuM
  · kernel_rfl
  · rfl
  refine awd_s [[1, 8, 16], [1, 8], [1, 16], [1], [8, 16], [8], [16], []] [(0, _)] (.cons rfl (.nil)) rfl rfl rfl (by kernel_rfl) ?_
  apply Exists.intro
  refine ⟨(⟨fun regs' => ?_,⟨fun regs' => ?_,⟨fun regs' => ?_,⟨fun regs' => ?_,⟨fun regs' => ?_,⟨fun regs' => ?_,⟨fun regs' => ?_,⟨fun regs' => ?_, trivial⟩⟩⟩⟩⟩⟩⟩⟩), ?_, ?_⟩
  · skip
    refine awl_move rfl rfl ?_
    exact awl_doneS rfl rfl
  · skip
    refine awl_move rfl rfl ?_
    exact awl_doneS rfl rfl
  · skip
    refine awl_move rfl rfl ?_
    exact awl_doneS rfl rfl
  · skip
    refine awl_move rfl rfl ?_
    exact awl_doneS rfl rfl
  · skip
    refine awl_move rfl rfl ?_
    exact awl_doneS rfl rfl
  · skip
    refine awl_move rfl rfl ?_
    exact awl_doneS rfl rfl
  · skip
    refine awl_move rfl rfl ?_
    exact awl_doneS rfl rfl
  · skip
    refine awl_move rfl rfl ?_
    exact awl_doneS rfl rfl
  · kernel_rfl
  refine awd_newsl [[]] si27_QuM ei36_QuM rfl (by rw [hcx]; rfl) rfl rfl (by kernel_rfl) rfl (by kernel_rfl) (⟨⟨by repeat (first | exact .nil | refine .cons rfl rfl ?_), rfl⟩, trivial⟩) ?_
  refine awd_s [[1], []] [(0, _)] (.cons rfl (.nil)) rfl rfl rfl (by kernel_rfl) ?_
  apply Exists.intro
  refine ⟨(⟨fun regs' => ?_,⟨fun regs' => ?_, trivial⟩⟩), ?_, ?_⟩
  · skip
    refine awl_move rfl rfl ?_
    exact awl_doneS rfl rfl
  · skip
    refine awl_move rfl rfl ?_
    exact awl_doneS rfl rfl
  · kernel_rfl
  refine awd_s [[1], []] [(15, _)] (.cons rfl (.nil)) rfl rfl rfl (by kernel_rfl) ?_
  apply Exists.intro
  refine ⟨(⟨fun regs' => ?_,⟨fun regs' => ?_, trivial⟩⟩), ?_, ?_⟩
  · skip
    refine awl_nilCheck rfl rfl rfl ?_
    exact awl_doneS rfl rfl
  · skip
    refine awl_nilCheck rfl rfl rfl ?_
    exact awl_doneS rfl rfl
  · kernel_rfl
  refine awd_s [[1], []] [(16, _)] (.cons rfl (.nil)) rfl rfl rfl (by kernel_rfl) ?_
  apply Exists.intro
  refine ⟨(⟨fun regs' => ?_,⟨fun regs' => ?_, trivial⟩⟩), ?_, ?_⟩
  · skip
    first | refine awl_fieldAddr fi29_0_QuM rfl rfl ?_ | refine awl_fieldAddr_i fi29_0_QuM rfl rfl rfl ?_ | refine awl_field_m fi29_0_QuM rfl rfl rfl ?_
    exact awl_doneS rfl rfl
  · skip
    first | refine awl_fieldAddr fi29_0_QuM rfl rfl ?_ | refine awl_fieldAddr_i fi29_0_QuM rfl rfl rfl ?_ | refine awl_field_m fi29_0_QuM rfl rfl rfl ?_
    exact awl_doneS rfl rfl
  · kernel_rfl
  refine awd_s [[1], []] [(17, _)] (.cons rfl (.nil)) rfl rfl rfl (by kernel_rfl) ?_
  apply Exists.intro
  refine ⟨(⟨fun regs' => ?_,⟨fun regs' => ?_, trivial⟩⟩), ?_, ?_⟩
  · skip
    first | refine awl_load_one ti27_QuM rfl rfl rfl rfl ?_ | refine awl_load_ione ti27_QuM rfl rfl rfl ?_ | refine awl_load_m1 ti27_QuM rfl rfl (by assumption) rfl rfl ?_
    exact awl_doneS rfl rfl
  · skip
    first | refine awl_load_one ti27_QuM rfl rfl rfl rfl ?_ | refine awl_load_ione ti27_QuM rfl rfl rfl ?_ | refine awl_load_m1 ti27_QuM rfl rfl (by assumption) rfl rfl ?_
    exact awl_doneS rfl rfl
  · kernel_rfl
  refine awd_s [[1], []] [(1, _)] (.cons rfl (.nil)) rfl rfl rfl (by kernel_rfl) ?_
  apply Exists.intro
  refine ⟨(⟨fun regs' => ?_,⟨fun regs' => ?_, trivial⟩⟩), ?_, ?_⟩
  · skip
    refine awl_move rfl rfl ?_
    exact awl_doneS rfl rfl
  · skip
    refine awl_move rfl rfl ?_
    exact awl_doneS rfl rfl
  · kernel_rfl
  refine awd_s [[1], []] [(18, _), (19, _)] (.cons rfl (.cons rfl (.nil))) rfl rfl rfl (by kernel_rfl) ?_
  apply Exists.intro
  refine ⟨(⟨fun regs' => ?_,⟨fun regs' => ?_, trivial⟩⟩), ?_, ?_⟩
  · skip
    refine awl_cut_hi si27_QuM ti36_QuM rfl rfl rfl rfl (by omega) (by first | omega | (simp; omega)) rfl ?_
    exact awl_doneS rfl rfl
  · skip
    refine awl_cut_hi si27_QuM ti36_QuM rfl rfl rfl rfl (by omega) (by first | omega | (simp; omega)) rfl ?_
    exact awl_doneS rfl rfl
  · kernel_rfl
  refine awd_s [[1]] [(14, _), (20, _)] (.cons rfl (.cons rfl (.nil))) rfl rfl rfl (by kernel_rfl) ?_
  apply Exists.intro
  refine ⟨(⟨fun regs' => ?_, trivial⟩), ?_, ?_⟩
  · skip
    first | refine x_append si27_QuM ei36_QuM rfl rfl (by first | rfl | simp) rfl rfl rfl (.inl rfl) rfl rfl (by simp; omega) (by simp; omega) ?_ | refine awl_append_nil si27_QuM ei36_QuM rfl rfl (by rw [hcx]; rfl) rfl rfl rfl (.inl rfl) (by simp; omega) (by simp; omega) rfl ?_ | refine awl_append_m si27_QuM ei36_QuM rfl rfl rfl rfl rfl rfl rfl (by simp; omega) (by simp; omega) ?_ | refine awl_append_m2 si27_QuM ei36_QuM rfl rfl rfl rfl rfl rfl rfl (by simp; omega) (by simp; omega) ?_
    exact awl_doneS rfl rfl
  · kernel_rfl
  refine awd_s [[1, 8], [1], [8], []] [(0, _)] (.cons rfl (.nil)) rfl rfl rfl (by kernel_rfl) ?_
  apply Exists.intro
  refine ⟨(⟨fun regs' => ?_,⟨fun regs' => ?_,⟨fun regs' => ?_,⟨fun regs' => ?_, trivial⟩⟩⟩⟩), ?_, ?_⟩
  · skip
    refine awl_move rfl rfl ?_
    exact awl_doneS rfl rfl
  · skip
    refine awl_move rfl rfl ?_
    exact awl_doneS rfl rfl
  · skip
    refine awl_move rfl rfl ?_
    exact awl_doneS rfl rfl
  · skip
    refine awl_move rfl rfl ?_
    exact awl_doneS rfl rfl
  · kernel_rfl
  refine awd_s [[1, 8], [1], [8], []] [(22, _)] (.cons rfl (.nil)) rfl rfl rfl (by kernel_rfl) ?_
  apply Exists.intro
  refine ⟨(⟨fun regs' => ?_,⟨fun regs' => ?_,⟨fun regs' => ?_,⟨fun regs' => ?_, trivial⟩⟩⟩⟩), ?_, ?_⟩
  · skip
    refine awl_nilCheck rfl rfl rfl ?_
    exact awl_doneS rfl rfl
  · skip
    refine awl_nilCheck rfl rfl rfl ?_
    exact awl_doneS rfl rfl
  · skip
    refine awl_nilCheck rfl rfl rfl ?_
    exact awl_doneS rfl rfl
  · skip
    refine awl_nilCheck rfl rfl rfl ?_
    exact awl_doneS rfl rfl
  · kernel_rfl
  refine awd_s [[1, 8], [1], [8], []] [(23, _)] (.cons rfl (.nil)) rfl rfl rfl (by kernel_rfl) ?_
  apply Exists.intro
  refine ⟨(⟨fun regs' => ?_,⟨fun regs' => ?_,⟨fun regs' => ?_,⟨fun regs' => ?_, trivial⟩⟩⟩⟩), ?_, ?_⟩
  · skip
    first | refine awl_fieldAddr fi29_0_QuM rfl rfl ?_ | refine awl_fieldAddr_i fi29_0_QuM rfl rfl rfl ?_ | refine awl_field_m fi29_0_QuM rfl rfl rfl ?_
    exact awl_doneS rfl rfl
  · skip
    first | refine awl_fieldAddr fi29_0_QuM rfl rfl ?_ | refine awl_fieldAddr_i fi29_0_QuM rfl rfl rfl ?_ | refine awl_field_m fi29_0_QuM rfl rfl rfl ?_
    exact awl_doneS rfl rfl
  · skip
    first | refine awl_fieldAddr fi29_0_QuM rfl rfl ?_ | refine awl_fieldAddr_i fi29_0_QuM rfl rfl rfl ?_ | refine awl_field_m fi29_0_QuM rfl rfl rfl ?_
    exact awl_doneS rfl rfl
  · skip
    first | refine awl_fieldAddr fi29_0_QuM rfl rfl ?_ | refine awl_fieldAddr_i fi29_0_QuM rfl rfl rfl ?_ | refine awl_field_m fi29_0_QuM rfl rfl rfl ?_
    exact awl_doneS rfl rfl
  · kernel_rfl
  refine awd_s [[1, 8], [1], [8], []] [(24, _)] (.cons rfl (.nil)) rfl rfl rfl (by kernel_rfl) ?_
  apply Exists.intro
  refine ⟨(⟨fun regs' => ?_,⟨fun regs' => ?_,⟨fun regs' => ?_,⟨fun regs' => ?_, trivial⟩⟩⟩⟩), ?_, ?_⟩
  · skip
    first | refine awl_load_one ti27_QuM rfl rfl rfl rfl ?_ | refine awl_load_ione ti27_QuM rfl rfl rfl ?_ | refine awl_load_m1 ti27_QuM rfl rfl (by assumption) rfl rfl ?_
    exact awl_doneS rfl rfl
  · skip
    first | refine awl_load_one ti27_QuM rfl rfl rfl rfl ?_ | refine awl_load_ione ti27_QuM rfl rfl rfl ?_ | refine awl_load_m1 ti27_QuM rfl rfl (by assumption) rfl rfl ?_
    exact awl_doneS rfl rfl
  · skip
    first | refine awl_load_one ti27_QuM rfl rfl rfl rfl ?_ | refine awl_load_ione ti27_QuM rfl rfl rfl ?_ | refine awl_load_m1 ti27_QuM rfl rfl (by assumption) rfl rfl ?_
    exact awl_doneS rfl rfl
  · skip
    first | refine awl_load_one ti27_QuM rfl rfl rfl rfl ?_ | refine awl_load_ione ti27_QuM rfl rfl rfl ?_ | refine awl_load_m1 ti27_QuM rfl rfl (by assumption) rfl rfl ?_
    exact awl_doneS rfl rfl
  · kernel_rfl
  refine awd_s [[1, 8], [1], [8], []] [(1, _)] (.cons rfl (.nil)) rfl rfl rfl (by kernel_rfl) ?_
  apply Exists.intro
  refine ⟨(⟨fun regs' => ?_,⟨fun regs' => ?_,⟨fun regs' => ?_,⟨fun regs' => ?_, trivial⟩⟩⟩⟩), ?_, ?_⟩
  · skip
    refine awl_move rfl rfl ?_
    exact awl_doneS rfl rfl
  · skip
    refine awl_move rfl rfl ?_
    exact awl_doneS rfl rfl
  · skip
    refine awl_move rfl rfl ?_
    exact awl_doneS rfl rfl
  · skip
    refine awl_move rfl rfl ?_
    exact awl_doneS rfl rfl
  · kernel_rfl
  refine awd_s [[1, 8], [1], [8], []] [(26, _)] (.cons rfl (.nil)) rfl rfl rfl (by kernel_rfl) ?_
  apply Exists.intro
  refine ⟨(⟨fun regs' => ?_,⟨fun regs' => ?_,⟨fun regs' => ?_,⟨fun regs' => ?_, trivial⟩⟩⟩⟩), ?_, ?_⟩
  · skip
    first | refine awl_bin rfl rfl rfl rfl (bin_add_i (by omega)) ?_ | refine awl_bin rfl rfl rfl rfl bin_add ?_
    refine awl_sub (y := .p (I ((k + 1 : Nat) : Int))) (Sub.eq (I_eq (by omega))) ?_
    exact awl_doneS rfl rfl
  · skip
    first | refine awl_bin rfl rfl rfl rfl (bin_add_i (by omega)) ?_ | refine awl_bin rfl rfl rfl rfl bin_add ?_
    refine awl_sub (y := .p (I ((k + 1 : Nat) : Int))) (Sub.eq (I_eq (by omega))) ?_
    exact awl_doneS rfl rfl
  · skip
    first | refine awl_bin rfl rfl rfl rfl (bin_add_i (by omega)) ?_ | refine awl_bin rfl rfl rfl rfl bin_add ?_
    refine awl_sub (y := .p (I ((k + 1 : Nat) : Int))) (Sub.eq (I_eq (by omega))) ?_
    exact awl_doneS rfl rfl
  · skip
    first | refine awl_bin rfl rfl rfl rfl (bin_add_i (by omega)) ?_ | refine awl_bin rfl rfl rfl rfl bin_add ?_
    refine awl_sub (y := .p (I ((k + 1 : Nat) : Int))) (Sub.eq (I_eq (by omega))) ?_
    exact awl_doneS rfl rfl
  · kernel_rfl
  refine awd_s [[1, 8], [1], [8], []] [(25, _), (27, _)] (.cons rfl (.cons rfl (.nil))) rfl rfl rfl (by kernel_rfl) ?_
  apply Exists.intro
  refine ⟨(⟨fun regs' => ?_,⟨fun regs' => ?_,⟨fun regs' => ?_,⟨fun regs' => ?_, trivial⟩⟩⟩⟩), ?_, ?_⟩
  · skip
    refine awl_cut_lo si27_QuM ti36_QuM rfl rfl rfl rfl (by omega) (by first | omega | (simp; omega)) rfl ?_
    exact awl_doneS rfl rfl
  · skip
    refine awl_cut_lo si27_QuM ti36_QuM rfl rfl rfl rfl (by omega) (by first | omega | (simp; omega)) rfl ?_
    exact awl_doneS rfl rfl
  · skip
    refine awl_cut_lo si27_QuM ti36_QuM rfl rfl rfl rfl (by omega) (by first | omega | (simp; omega)) rfl ?_
    exact awl_doneS rfl rfl
  · skip
    refine awl_cut_lo si27_QuM ti36_QuM rfl rfl rfl rfl (by omega) (by first | omega | (simp; omega)) rfl ?_
    exact awl_doneS rfl rfl
  · kernel_rfl
  refine awd_s [[1, 8]] [(21, _), (28, _)] (.cons rfl (.cons rfl (.nil))) rfl rfl rfl (by kernel_rfl) ?_
  apply Exists.intro
  refine ⟨(⟨fun regs' => ?_, trivial⟩), ?_, ?_⟩
  · skip
    first | refine x_append si27_QuM ei36_QuM rfl rfl (by first | rfl | simp) rfl rfl rfl (.inl rfl) rfl rfl (by simp; omega) (by simp; omega) ?_ | refine awl_append_nil si27_QuM ei36_QuM rfl rfl (by rw [hcx]; rfl) rfl rfl rfl (.inl rfl) (by simp; omega) (by simp; omega) rfl ?_ | refine awl_append_m si27_QuM ei36_QuM rfl rfl rfl rfl rfl rfl rfl (by simp; omega) (by simp; omega) ?_ | refine awl_append_m2 si27_QuM ei36_QuM rfl rfl rfl rfl rfl rfl rfl (by simp; omega) (by simp; omega) ?_
    exact awl_doneS rfl rfl
  · kernel_rfl
  refine awd_s [[1, 8, 16]] [(13, _)] (.cons rfl (.nil)) rfl rfl rfl (by kernel_rfl) ?_
  apply Exists.intro
  refine ⟨(⟨fun regs' => ?_, trivial⟩), ?_, ?_⟩
  · skip
    refine awl_nilCheck rfl rfl rfl ?_
    exact awl_doneS rfl rfl
  · kernel_rfl
  refine awd_s [[1, 8, 16]] [(30, _)] (.cons rfl (.nil)) rfl rfl rfl (by kernel_rfl) ?_
  apply Exists.intro
  refine ⟨(⟨fun regs' => ?_, trivial⟩), ?_, ?_⟩
  · skip
    first | refine awl_fieldAddr fi29_0_QuM rfl rfl ?_ | refine awl_fieldAddr_i fi29_0_QuM rfl rfl rfl ?_ | refine awl_field_m fi29_0_QuM rfl rfl rfl ?_
    exact awl_doneS rfl rfl
  · kernel_rfl
  refine awd_e [1, 8, 16] rfl rfl rfl (by kernel_rfl) rfl rfl ?_
  refine ⟨.any, ?_⟩
  refine ⟨?_, ?_, ?_⟩
  · skip
    first | refine x_store ti27_QuM rfl rfl rfl rfl rfl rfl rfl rfl ?_ | refine awl_store_m ti27_QuM rfl rfl rfl (by first | omega | (simp; omega)) rfl rfl rfl rfl ?_
    exact awl_done rfl
  · kernel_rfl
  refine awd_endS ?_
  try dsimp only [putd]
  change AWp _ _ _ _ _ _
  refine awp_seq ?_
  refine awp_region ?_
  first | refine awl_load_row ti36_QuM rfl rfl rfl rfl ?_ | refine x_irow ti36_QuM rfl rfl rfl rfl ?_ | refine awl_load_m ti36_QuM rfl rfl (by assumption) rfl rfl ?_
  first | refine x_store ti36_QuM rfl rfl rfl rfl rfl rfl rfl rfl ?_ | refine awl_store_m ti36_QuM rfl rfl rfl (by first | omega | (simp; omega)) rfl rfl rfl rfl ?_
  refine awl_nil ?_
  change AWp _ _ _ _ _ _
  refine awp_ret ?_
  change Ends _ _ _ _ _ _
  refine ends1 [24, 14] rfl (.row ti36_QuM rfl rfl rfl) ?_ rfl
  exact ⟨rfl, by rw [h3, ← he]; rfl⟩

end Go.Ab.Ytnennmlpaijedaa
