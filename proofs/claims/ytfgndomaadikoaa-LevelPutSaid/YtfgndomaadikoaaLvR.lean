/- Picks: numbers that things are made of. -/
import Derived.Test.YtfgndomaadikoaaLvQ
set_option linter.unusedVariables false
set_option linter.unusedSimpArgs false
namespace Go.Ab.Ytfgndomaadikoaa
open Go Go.RowKit Go.Ab Go.Proofs

theorem hmo_LvR : Try.prog.follows .mixedOrders = true := by kernel_rfl
theorem fi68_1_LvR : FI Try.prog 68 1 1 := ⟨_, _, 0, Try.underlying68, rfl, rfl, by kernel_rfl⟩
theorem ti3_LvR : TI Try.prog 3 1 false := ⟨by kernel_rfl, by kernel_rfl⟩
theorem fi68_0_LvR : FI Try.prog 68 0 0 := ⟨_, _, 0, Try.underlying68, rfl, rfl, by kernel_rfl⟩
theorem ti45_LvR : TI Try.prog 45 1 false := ⟨by kernel_rfl, by kernel_rfl⟩
theorem si45_LvR : SI Try.prog 45 5 := ⟨Try.underlying45⟩
theorem ti5_LvR : TI Try.prog 5 1 false := ⟨by kernel_rfl, by kernel_rfl⟩

def byts (l : List Int) : List (List PV) := l.map fun n => [U8 n]
@[simp] theorem byts_len (l : List Int) : (byts l).length = l.length := by simp [byts]
theorem byts_at {l : List Int} {n : Int} (h0 : 0 ≤ n) (h1 : n < l.length) : rowAt (byts l) n = [U8 (l.getD n.toNat 0)] := by
  have h : n.toNat < l.length := by omega
  simp [rowAt, byts, List.getD_eq_getElem?_getD, h]
def okB (l : List Int) : Prop := ∀ n ∈ l, 0 ≤ n ∧ n ≤ 255
theorem okB_at {l : List Int} (h : okB l) (m : Nat) : 0 ≤ l.getD m 0 ∧ l.getD m 0 ≤ 255 := by
  rcases Nat.lt_or_ge m l.length with hm | hm
  · have := h _ (List.getElem_mem hm); simp [List.getD_eq_getElem?_getD, hm]; exact this
  · simp [List.getD_eq_getElem?_getD, hm]

/-- The state of picks. -/
def pk (l : List Int) (at_ : Int) : Ob := .ce 68 [.p (.sl 1 (byts l)), .p (I at_)]
def nxt (l : List Int) (at_ n : Int) : Int := if at_ ≥ l.length ∨ n < 1 then 0 else l.getD at_.toNat 0 % n
def nxA (l : List Int) (at_ n : Int) : Int := if at_ ≥ l.length ∨ n < 1 then at_ else at_ + 1

theorem Next_con (l : List Int) (hl : okB l) (at_ n : Int) (h0 : 0 ≤ at_) (hat : at_ ≤ 9223372036854775807) (hll : (l.length : Int) ≤ 9223372036854775807) (hn : n ≤ 9223372036854775807) :
    Con Try.prog 54 [.ptr 1000 0, .p (I n)] [(1000, pk l at_)] (fun r o => r = .p (I (nxt l at_ n)) ∧ o = [(1000, pk l (nxA l at_ n))]) := by
  have hb := okB_at hl at_.toNat
  refine con_of Try.func54 rfl 40 Try.ntmps54 rfl fun cx hcx => ?_
  refine awp_seq ?_
  refine awp_region ?_
  refine awl_assign rfl rfl ?_
  refine awl_nil ?_
  change AWp _ _ _ _ _ _
  refine awp_seq ?_
  refine awp_seq ?_
  refine awp_fml 18 (at_ ≥ l.length ∨ n < 1) [(0, _), (1, _)] (.cons rfl (.cons rfl (.nil))) ?_ ?_
  · skip
    refine awp_draw0 hmo_LvR (by kernel_rfl) ?_
    refine awd_q [(0, _)] (.cons rfl (.nil)) rfl rfl rfl ?_
    apply Exists.intro
    refine ⟨fun regs' => ?_, ?_⟩
    · skip
      refine awl_move rfl rfl ?_
      exact awl_done rfl
    refine awd_q [(5, _)] (.cons rfl (.nil)) rfl rfl rfl ?_
    apply Exists.intro
    refine ⟨fun regs' => ?_, ?_⟩
    · skip
      refine awl_nilCheck rfl rfl rfl ?_
      exact awl_done rfl
    refine awd_q [(6, _)] (.cons rfl (.nil)) rfl rfl rfl ?_
    apply Exists.intro
    refine ⟨fun regs' => ?_, ?_⟩
    · skip
      first | refine awl_fieldAddr fi68_1_LvR rfl rfl ?_ | refine awl_fieldAddr_i fi68_1_LvR rfl rfl rfl ?_
      exact awl_done rfl
    refine awd_q [(7, _)] (.cons rfl (.nil)) rfl rfl rfl ?_
    apply Exists.intro
    refine ⟨fun regs' => ?_, ?_⟩
    · skip
      first | refine awl_load_one ti3_LvR rfl rfl rfl rfl ?_ | refine awl_load_ione ti3_LvR rfl rfl rfl ?_
      exact awl_done rfl
    refine awd_q [(0, _)] (.cons rfl (.nil)) rfl rfl rfl ?_
    apply Exists.intro
    refine ⟨fun regs' => ?_, ?_⟩
    · skip
      refine awl_move rfl rfl ?_
      exact awl_done rfl
    refine awd_q [(9, _)] (.cons rfl (.nil)) rfl rfl rfl ?_
    apply Exists.intro
    refine ⟨fun regs' => ?_, ?_⟩
    · skip
      refine awl_nilCheck rfl rfl rfl ?_
      exact awl_done rfl
    refine awd_q [(10, _)] (.cons rfl (.nil)) rfl rfl rfl ?_
    apply Exists.intro
    refine ⟨fun regs' => ?_, ?_⟩
    · skip
      first | refine awl_fieldAddr fi68_0_LvR rfl rfl ?_ | refine awl_fieldAddr_i fi68_0_LvR rfl rfl rfl ?_
      exact awl_done rfl
    refine awd_q [(11, _)] (.cons rfl (.nil)) rfl rfl rfl ?_
    apply Exists.intro
    refine ⟨fun regs' => ?_, ?_⟩
    · skip
      first | refine awl_load_one ti45_LvR rfl rfl rfl rfl ?_ | refine awl_load_ione ti45_LvR rfl rfl rfl ?_
      exact awl_done rfl
    refine awd_q [(12, _)] (.cons rfl (.nil)) rfl rfl rfl ?_
    apply Exists.intro
    refine ⟨fun regs' => ?_, ?_⟩
    · skip
      refine x_len si45_LvR rfl rfl rfl (fun hlen10 => ?_)
      exact awl_done rfl
    refine awd_q [(8, _), (13, _)] (.cons rfl (.cons rfl (.nil))) rfl rfl rfl ?_
    apply Exists.intro
    refine ⟨fun regs' => ?_, ?_⟩
    · skip
      refine awl_bin rfl rfl rfl rfl bin_geq ?_
      exact awl_done rfl
    refine awd_q [(14, _)] (.cons rfl (.nil)) rfl rfl rfl ?_
    apply Exists.intro
    refine ⟨fun regs' => ?_, ?_⟩
    · skip
      refine awl_move rfl rfl ?_
      exact awl_done rfl
    first | refine awd_split_p 15 rfl (fun h1 => ?_) (fun h1 => ?_) | refine awd_split 15 rfl (fun h1 => ?_) (fun h1 => ?_)
    · skip
      refine awd_q [(1, _), (15, _)] (.cons rfl (.cons rfl (.nil))) rfl rfl rfl ?_
      apply Exists.intro
      refine ⟨fun regs' => ?_, ?_⟩
      · skip
        refine awl_guard_no rfl (by first | exact h1 | exact decide_eq_true h1 | exact decide_eq_false h1) rfl rfl rfl rfl ?_
        exact awl_done rfl
      refine awd_q [(16, _), (15, _)] (.cons rfl (.cons rfl (.nil))) rfl rfl rfl ?_
      apply Exists.intro
      refine ⟨fun regs' => ?_, ?_⟩
      · skip
        refine awl_guard_no rfl (by first | exact h1 | exact decide_eq_true h1 | exact decide_eq_false h1) rfl rfl rfl rfl ?_
        exact awl_done rfl
      refine awd_q [(15, _), (17, _)] (.cons rfl (.cons rfl (.nil))) rfl rfl rfl ?_
      apply Exists.intro
      refine ⟨fun regs' => ?_, ?_⟩
      · skip
        refine awl_pick_t (by first | exact h1 | exact decide_eq_true h1 | exact decide_eq_false h1) rfl rfl rfl ?_
        exact awl_done rfl
      refine awd_nil ?_
      exact ⟨rfl, _, (by have hbl := byts_len l; first | (simp; omega) | omega | (simp; done)), Le.mk (.cons rfl (Sub.refl _) (.cons rfl (Sub.refl _) (.cons rfl (Sub.refl _) .nil))) (by repeat (first | exact .nil | refine .cons rfl rfl ?_)) rfl⟩
    · skip
      refine awd_q [(1, _), (15, _)] (.cons rfl (.cons rfl (.nil))) rfl rfl rfl ?_
      apply Exists.intro
      refine ⟨fun regs' => ?_, ?_⟩
      · skip
        refine awl_guard_yes rfl (by first | exact h1 | exact decide_eq_true h1 | exact decide_eq_false h1) rfl rfl ?_
        refine awl_move rfl rfl ?_
        exact awl_done rfl
      refine awd_q [(16, _), (15, _)] (.cons rfl (.cons rfl (.nil))) rfl rfl rfl ?_
      apply Exists.intro
      refine ⟨fun regs' => ?_, ?_⟩
      · skip
        refine awl_guard_yes rfl (by first | exact h1 | exact decide_eq_true h1 | exact decide_eq_false h1) rfl rfl ?_
        refine awl_bin rfl rfl rfl rfl bin_lss ?_
        exact awl_done rfl
      refine awd_q [(15, _), (17, _)] (.cons rfl (.cons rfl (.nil))) rfl rfl rfl ?_
      apply Exists.intro
      refine ⟨fun regs' => ?_, ?_⟩
      · skip
        refine awl_pick_f (by first | exact h1 | exact decide_eq_true h1 | exact decide_eq_false h1) rfl rfl rfl ?_
        exact awl_done rfl
      refine awd_nil ?_
      exact ⟨rfl, _, (by have hbl := byts_len l; first | (simp; omega) | omega | (simp; done)), Le.mk (.cons rfl (Sub.refl _) (.cons rfl (Sub.refl _) (.cons rfl (Sub.refl _) .nil))) (by repeat (first | exact .nil | refine .cons rfl rfl ?_)) rfl⟩
  change AWp _ _ _ _ _ _
  first | refine awp_cond_p rfl (fun hp => ?_) (fun hp => ?_) | refine awp_cond rfl (fun hp => ?_) (fun hp => ?_)
  · skip
    refine awp_seq ?_
    refine awp_region ?_
    refine awl_assign rfl rfl ?_
    refine awl_nil ?_
    change AWp _ _ _ _ _ _
    refine awp_ret ?_
    change Ends _ _ _ _ _ _
    refine ends1 [1000] rfl (.tmp rfl) ?_ rfl
    unfold nxt nxA; rw [if_pos hp, if_pos hp]; exact ⟨rfl, rfl⟩
  · skip
    have hrow := byts_at (l := l) (n := at_ + 1 - 1) (by omega) (by omega)
    have hb2 := okB_at hl (at_ + 1 - 1).toNat
    refine awp_skip ?_
    change AWp _ _ _ _ _ _
    refine awp_seq ?_
    refine awp_region ?_
    refine awl_move rfl rfl ?_
    refine awl_nilCheck rfl rfl rfl ?_
    first | refine awl_fieldAddr fi68_1_LvR rfl rfl ?_ | refine awl_fieldAddr_i fi68_1_LvR rfl rfl rfl ?_
    first | refine awl_load_one ti3_LvR rfl rfl rfl rfl ?_ | refine awl_load_ione ti3_LvR rfl rfl rfl ?_
    first | refine awl_bin rfl rfl rfl rfl (bin_add_i (by omega)) ?_ | refine awl_bin rfl rfl rfl rfl bin_add ?_
    refine awl_nilCheck rfl rfl rfl ?_
    first | refine awl_fieldAddr fi68_1_LvR rfl rfl ?_ | refine awl_fieldAddr_i fi68_1_LvR rfl rfl rfl ?_
    refine x_store ti3_LvR rfl rfl rfl rfl rfl rfl rfl rfl ?_
    refine awl_nil ?_
    change AWp _ _ _ _ _ _
    refine awp_seq ?_
    refine awp_draw0 hmo_LvR (by kernel_rfl) ?_
    refine awd_q [(0, _)] (.cons rfl (.nil)) rfl rfl rfl ?_
    apply Exists.intro
    refine ⟨fun regs' => ?_, ?_⟩
    · skip
      refine awl_move rfl rfl ?_
      exact awl_done rfl
    refine awd_q [(26, _)] (.cons rfl (.nil)) rfl rfl rfl ?_
    apply Exists.intro
    refine ⟨fun regs' => ?_, ?_⟩
    · skip
      refine awl_nilCheck rfl rfl rfl ?_
      exact awl_done rfl
    refine awd_q [(27, _)] (.cons rfl (.nil)) rfl rfl rfl ?_
    apply Exists.intro
    refine ⟨fun regs' => ?_, ?_⟩
    · skip
      first | refine awl_fieldAddr fi68_0_LvR rfl rfl ?_ | refine awl_fieldAddr_i fi68_0_LvR rfl rfl rfl ?_
      exact awl_done rfl
    refine awd_q [(28, _)] (.cons rfl (.nil)) rfl rfl rfl ?_
    apply Exists.intro
    refine ⟨fun regs' => ?_, ?_⟩
    · skip
      first | refine awl_load_one ti45_LvR rfl rfl rfl rfl ?_ | refine awl_load_ione ti45_LvR rfl rfl rfl ?_
      exact awl_done rfl
    refine awd_q [(0, _)] (.cons rfl (.nil)) rfl rfl rfl ?_
    apply Exists.intro
    refine ⟨fun regs' => ?_, ?_⟩
    · skip
      refine awl_move rfl rfl ?_
      exact awl_done rfl
    refine awd_q [(30, _)] (.cons rfl (.nil)) rfl rfl rfl ?_
    apply Exists.intro
    refine ⟨fun regs' => ?_, ?_⟩
    · skip
      refine awl_nilCheck rfl rfl rfl ?_
      exact awl_done rfl
    refine awd_q [(31, _)] (.cons rfl (.nil)) rfl rfl rfl ?_
    apply Exists.intro
    refine ⟨fun regs' => ?_, ?_⟩
    · skip
      first | refine awl_fieldAddr fi68_1_LvR rfl rfl ?_ | refine awl_fieldAddr_i fi68_1_LvR rfl rfl rfl ?_
      exact awl_done rfl
    refine awd_q [(32, _)] (.cons rfl (.nil)) rfl rfl rfl ?_
    apply Exists.intro
    refine ⟨fun regs' => ?_, ?_⟩
    · skip
      first | refine awl_load_one ti3_LvR rfl rfl rfl rfl ?_ | refine awl_load_ione ti3_LvR rfl rfl rfl ?_
      exact awl_done rfl
    refine awd_q [(33, _)] (.cons rfl (.nil)) rfl rfl rfl ?_
    apply Exists.intro
    refine ⟨fun regs' => ?_, ?_⟩
    · skip
      first | refine awl_bin rfl rfl rfl rfl (bin_sub_i (by omega)) ?_ | refine awl_bin rfl rfl rfl rfl bin_sub ?_
      exact awl_done rfl
    refine awd_q [(29, _), (34, _)] (.cons rfl (.cons rfl (.nil))) rfl rfl rfl ?_
    apply Exists.intro
    refine ⟨fun regs' => ?_, ?_⟩
    · skip
      refine x_index si45_LvR ti5_LvR rfl rfl rfl rfl (by omega) (by first | omega | (simp only [List.length_map]; omega) | (simp; omega)) (by assumption) rfl ?_
      exact awl_done rfl
    refine awd_q [(35, _)] (.cons rfl (.nil)) rfl rfl rfl ?_
    apply Exists.intro
    refine ⟨fun regs' => ?_, ?_⟩
    · skip
      first | refine awl_load_one ti5_LvR rfl rfl rfl rfl ?_ | refine awl_load_ione ti5_LvR rfl rfl rfl ?_
      exact awl_done rfl
    refine awd_q [(36, _)] (.cons rfl (.nil)) rfl rfl rfl ?_
    apply Exists.intro
    refine ⟨fun regs' => ?_, ?_⟩
    · skip
      refine awl_conv rfl rfl rfl (conv_i Try.underlying5 Try.underlying3 (by omega)) ?_
      exact awl_done rfl
    refine awd_q [(1, _)] (.cons rfl (.nil)) rfl rfl rfl ?_
    apply Exists.intro
    refine ⟨fun regs' => ?_, ?_⟩
    · skip
      refine awl_move rfl rfl ?_
      exact awl_done rfl
    refine awd_q [(37, _), (38, _)] (.cons rfl (.cons rfl (.nil))) rfl rfl rfl ?_
    apply Exists.intro
    refine ⟨fun regs' => ?_, ?_⟩
    · skip
      refine awl_bin rfl rfl rfl rfl (bin_rem (by omega)) ?_
      exact awl_done rfl
    refine awd_q [(39, _)] (.cons rfl (.nil)) rfl rfl rfl ?_
    apply Exists.intro
    refine ⟨fun regs' => ?_, ?_⟩
    · skip
      refine awl_assign rfl rfl ?_
      exact awl_done rfl
    refine awd_nil ?_
    change AWp _ _ _ _ _ _
    refine awp_ret ?_
    change Ends _ _ _ _ _ _
    refine ends1 [1000] rfl (.tmp rfl) ?_ rfl
    refine ⟨I_eq ?_, ?_⟩
    · unfold nxt; rw [if_neg hp, show at_ + 1 - 1 = at_ by omega]
    · unfold nxA; rw [if_neg hp]; rfl

end Go.Ab.Ytfgndomaadikoaa
