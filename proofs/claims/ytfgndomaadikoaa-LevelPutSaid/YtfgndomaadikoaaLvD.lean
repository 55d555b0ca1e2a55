/- Levels flattened where it is known which parameters are 0. -/
import Derived.Test.YtfgndomaadikoaaLvC
import Derived.Test.YtfgndomaadikoaaAb17
set_option linter.unusedVariables false
set_option linter.unusedSimpArgs false
namespace Go.Ab.Ytfgndomaadikoaa
open Go Go.RowKit Go.Ab Go.Proofs

theorem tz70_LvD : TZ Try.prog 70 [(.int .i64 0), (.int .i64 0), (.int .i64 0), (.int .i64 0), (.int .i64 0)] := ⟨⟨.agg #[(.int .i64 0), (.int .i64 0), (.int .i64 0), (.int .i64 0), (.int .i64 0)], by kernel_rfl, rfl⟩, by kernel_rfl⟩
theorem bi70_LvD : BI Try.prog 70 [(0, 1), (1, 4)] := BI.mk' Try.underlying70 (by kernel_rfl)
theorem ti70_LvD : TI Try.prog 70 5 true := ⟨by kernel_rfl, by kernel_rfl⟩
theorem fi70_1_LvD : FI Try.prog 70 1 1 := ⟨_, _, 3, Try.underlying70, rfl, rfl, by kernel_rfl⟩
theorem ai52_LvD : AI Try.prog 52 4 3 := ⟨Try.underlying52⟩
theorem ti3_LvD : TI Try.prog 3 1 false := ⟨by kernel_rfl, by kernel_rfl⟩
theorem fi70_0_LvD : FI Try.prog 70 0 0 := ⟨_, _, 0, Try.underlying70, rfl, rfl, by kernel_rfl⟩
theorem ti52_LvD : TI Try.prog 52 4 true := ⟨by kernel_rfl, by kernel_rfl⟩
theorem hmo_LvD : Try.prog.follows .mixedOrders = true := by kernel_rfl
theorem fb66_LvD : FB Try.prog 66 := ⟨_, Try.func66, rfl, by kernel_rfl⟩
theorem fb64_LvD : FB Try.prog 64 := ⟨_, Try.func64, rfl, by kernel_rfl⟩
theorem eqv70_LvD : EqV Try.prog 70 5 := EqV.flat Try.underlying70 rfl Try.underlying3 rfl rfl rfl rfl rfl Try.underlying52 Try.underlying3 ti3_LvD ti52_LvD (by kernel_rfl) (by kernel_rfl)

structure Flat where
  b : Int
  p0 : Int
  p1 : Int
  p2 : Int
  p3 : Int
  deriving DecidableEq
def fl (f : Flat) : AV := .ag [.p (I f.b), .p (I f.p0), .p (I f.p1), .p (I f.p2), .p (I f.p3)]
def flat0 : Flat := ⟨0, -1, -1, -1, -1⟩

/-- So far. -/
def sof (x i : Int) (a b : Int) : Int := if i < x then a else b

theorem nothing_con : PCon Try.prog 64 [] (fl flat0) := by
  refine con_of Try.func64 rfl 12 Try.ntmps64 rfl fun cx hcx => ?_
  refine awp_seq ?_
  refine awp_region ?_
  refine x_alloc tz70_LvD rfl rfl (by rw [hcx]; rfl) rfl ?_
  refine awl_nil ?_
  change AWp _ _ _ _ _ _
  refine awp_seq ?_
  refine awp_region ?_
  refine x_build bi70_LvD tz70_LvD rfl rfl rfl ?_
  refine x_alloc tz70_LvD rfl rfl (by rw [hcx]; rfl) rfl ?_
  refine x_store ti70_LvD rfl rfl rfl rfl rfl rfl rfl rfl ?_
  refine awl_nil ?_
  change AWp _ _ _ _ _ _
  refine awp_seq ?_
  refine awp_seq ?_
  refine awp_region ?_
  refine awl_move rfl rfl ?_
  refine awl_nil ?_
  change AWp _ _ _ _ _ _
  refine awp_block ?_
  refine x_loop [(0, _), (1, _)] [(0, _)] (fun x : Int => [(4, .p (I x))]) (fun x => [(1, .ce 70 [.p (I 0), .p (I (sof x 0 (-1) 0)), .p (I (sof x 1 (-1) 0)), .p (I (sof x 2 (-1) 0)), .p (I (sof x 3 (-1) 0))])]) (fun x => 0 ≤ x ∧ x ≤ 4) (fun x => (4 - x).toNat) 0 (Le.mk (.cons rfl (by first | exact Sub.refl _ | exact Sub.ts | exact Sub.nil | (refine Sub.eq ?_; first | (simp; done) | (simp; omega))) (.cons rfl (by first | exact Sub.refl _ | exact Sub.ts | exact Sub.nil | (refine Sub.eq ?_; first | (simp; done) | (simp; omega))) (.cons rfl (by first | exact Sub.refl _ | exact Sub.ts | exact Sub.nil | (refine Sub.eq ?_; first | (simp; done) | (simp; omega))) (.nil)))) (.cons rfl (by first | rfl | (simp; done) | (simp [sof]; done)) (.cons rfl (by first | rfl | (simp; done) | (simp [sof]; done)) (.nil))) rfl) (by omega) (fun x hx => ?_)
  obtain ⟨hx0, hx4⟩ := hx
  dsimp only [List.cons_append, List.nil_append]
  rcases (by omega : x = 0 ∨ x = 1 ∨ x = 2 ∨ x = 3 ∨ x = 4) with rfl | rfl | rfl | rfl | rfl
  · skip
    skip
    refine awp_seq ?_
    refine awp_region ?_
    refine awl_bin rfl rfl rfl rfl bin_lss ?_
    refine awl_nil ?_
    change AWp _ _ _ _ _ _
    refine awp_seq ?_
    refine awp_cond_t (by first | exact (by decide) | exact decide_eq_true (by decide) | exact decide_eq_false (by decide)) rfl ?_
    refine awp_skip ?_
    change AWp _ _ _ _ _ _
    refine awp_seq ?_
    refine awp_block ?_
    refine awp_seq ?_
    refine awp_region ?_
    refine awl_move rfl rfl ?_
    refine awl_assign rfl rfl ?_
    refine awl_nil ?_
    change AWp _ _ _ _ _ _
    refine awp_region ?_
    refine awl_move rfl rfl ?_
    first | refine awl_fieldAddr fi70_1_LvD rfl rfl ?_ | refine awl_fieldAddr_i fi70_1_LvD rfl rfl rfl ?_
    refine x_arr ai52_LvD ti3_LvD rfl rfl (by omega) (by omega) rfl rfl ?_
    refine x_store ti3_LvD rfl rfl rfl rfl rfl rfl rfl rfl ?_
    refine awl_nil ?_
    change AWp _ _ _ _ _ _
    refine awp_region ?_
    first | refine awl_bin rfl rfl rfl rfl (bin_add_i (by omega)) ?_ | refine awl_bin rfl rfl rfl rfl bin_add ?_
    refine awl_move rfl rfl ?_
    refine awl_nil ?_
    change ∃ x', _
    refine ⟨1, (by omega), by simp, (Le.mk (.cons rfl (by first | exact Sub.refl _ | exact Sub.ts | exact Sub.nil | (refine Sub.eq ?_; first | (simp; done) | (simp; omega))) (.cons rfl (by first | exact Sub.refl _ | exact Sub.ts | exact Sub.nil | (refine Sub.eq ?_; first | (simp; done) | (simp; omega))) (.cons rfl (by first | exact Sub.refl _ | exact Sub.ts | exact Sub.nil | (refine Sub.eq ?_; first | (simp; done) | (simp; omega))) (.nil)))) (.cons rfl (by first | rfl | (simp; done) | (simp [sof]; done)) (.cons rfl (by first | rfl | (simp; done) | (simp [sof]; done)) (.nil))) rfl)⟩
  · skip
    skip
    refine awp_seq ?_
    refine awp_region ?_
    refine awl_bin rfl rfl rfl rfl bin_lss ?_
    refine awl_nil ?_
    change AWp _ _ _ _ _ _
    refine awp_seq ?_
    refine awp_cond_t (by first | exact (by decide) | exact decide_eq_true (by decide) | exact decide_eq_false (by decide)) rfl ?_
    refine awp_skip ?_
    change AWp _ _ _ _ _ _
    refine awp_seq ?_
    refine awp_block ?_
    refine awp_seq ?_
    refine awp_region ?_
    refine awl_move rfl rfl ?_
    refine awl_assign rfl rfl ?_
    refine awl_nil ?_
    change AWp _ _ _ _ _ _
    refine awp_region ?_
    refine awl_move rfl rfl ?_
    first | refine awl_fieldAddr fi70_1_LvD rfl rfl ?_ | refine awl_fieldAddr_i fi70_1_LvD rfl rfl rfl ?_
    refine x_arr ai52_LvD ti3_LvD rfl rfl (by omega) (by omega) rfl rfl ?_
    refine x_store ti3_LvD rfl rfl rfl rfl rfl rfl rfl rfl ?_
    refine awl_nil ?_
    change AWp _ _ _ _ _ _
    refine awp_region ?_
    first | refine awl_bin rfl rfl rfl rfl (bin_add_i (by omega)) ?_ | refine awl_bin rfl rfl rfl rfl bin_add ?_
    refine awl_move rfl rfl ?_
    refine awl_nil ?_
    change ∃ x', _
    refine ⟨2, (by omega), by simp, (Le.mk (.cons rfl (by first | exact Sub.refl _ | exact Sub.ts | exact Sub.nil | (refine Sub.eq ?_; first | (simp; done) | (simp; omega))) (.cons rfl (by first | exact Sub.refl _ | exact Sub.ts | exact Sub.nil | (refine Sub.eq ?_; first | (simp; done) | (simp; omega))) (.cons rfl (by first | exact Sub.refl _ | exact Sub.ts | exact Sub.nil | (refine Sub.eq ?_; first | (simp; done) | (simp; omega))) (.nil)))) (.cons rfl (by first | rfl | (simp; done) | (simp [sof]; done)) (.cons rfl (by first | rfl | (simp; done) | (simp [sof]; done)) (.nil))) rfl)⟩
  · skip
    skip
    refine awp_seq ?_
    refine awp_region ?_
    refine awl_bin rfl rfl rfl rfl bin_lss ?_
    refine awl_nil ?_
    change AWp _ _ _ _ _ _
    refine awp_seq ?_
    refine awp_cond_t (by first | exact (by decide) | exact decide_eq_true (by decide) | exact decide_eq_false (by decide)) rfl ?_
    refine awp_skip ?_
    change AWp _ _ _ _ _ _
    refine awp_seq ?_
    refine awp_block ?_
    refine awp_seq ?_
    refine awp_region ?_
    refine awl_move rfl rfl ?_
    refine awl_assign rfl rfl ?_
    refine awl_nil ?_
    change AWp _ _ _ _ _ _
    refine awp_region ?_
    refine awl_move rfl rfl ?_
    first | refine awl_fieldAddr fi70_1_LvD rfl rfl ?_ | refine awl_fieldAddr_i fi70_1_LvD rfl rfl rfl ?_
    refine x_arr ai52_LvD ti3_LvD rfl rfl (by omega) (by omega) rfl rfl ?_
    refine x_store ti3_LvD rfl rfl rfl rfl rfl rfl rfl rfl ?_
    refine awl_nil ?_
    change AWp _ _ _ _ _ _
    refine awp_region ?_
    first | refine awl_bin rfl rfl rfl rfl (bin_add_i (by omega)) ?_ | refine awl_bin rfl rfl rfl rfl bin_add ?_
    refine awl_move rfl rfl ?_
    refine awl_nil ?_
    change ∃ x', _
    refine ⟨3, (by omega), by simp, (Le.mk (.cons rfl (by first | exact Sub.refl _ | exact Sub.ts | exact Sub.nil | (refine Sub.eq ?_; first | (simp; done) | (simp; omega))) (.cons rfl (by first | exact Sub.refl _ | exact Sub.ts | exact Sub.nil | (refine Sub.eq ?_; first | (simp; done) | (simp; omega))) (.cons rfl (by first | exact Sub.refl _ | exact Sub.ts | exact Sub.nil | (refine Sub.eq ?_; first | (simp; done) | (simp; omega))) (.nil)))) (.cons rfl (by first | rfl | (simp; done) | (simp [sof]; done)) (.cons rfl (by first | rfl | (simp; done) | (simp [sof]; done)) (.nil))) rfl)⟩
  · skip
    skip
    refine awp_seq ?_
    refine awp_region ?_
    refine awl_bin rfl rfl rfl rfl bin_lss ?_
    refine awl_nil ?_
    change AWp _ _ _ _ _ _
    refine awp_seq ?_
    refine awp_cond_t (by first | exact (by decide) | exact decide_eq_true (by decide) | exact decide_eq_false (by decide)) rfl ?_
    refine awp_skip ?_
    change AWp _ _ _ _ _ _
    refine awp_seq ?_
    refine awp_block ?_
    refine awp_seq ?_
    refine awp_region ?_
    refine awl_move rfl rfl ?_
    refine awl_assign rfl rfl ?_
    refine awl_nil ?_
    change AWp _ _ _ _ _ _
    refine awp_region ?_
    refine awl_move rfl rfl ?_
    first | refine awl_fieldAddr fi70_1_LvD rfl rfl ?_ | refine awl_fieldAddr_i fi70_1_LvD rfl rfl rfl ?_
    refine x_arr ai52_LvD ti3_LvD rfl rfl (by omega) (by omega) rfl rfl ?_
    refine x_store ti3_LvD rfl rfl rfl rfl rfl rfl rfl rfl ?_
    refine awl_nil ?_
    change AWp _ _ _ _ _ _
    refine awp_region ?_
    first | refine awl_bin rfl rfl rfl rfl (bin_add_i (by omega)) ?_ | refine awl_bin rfl rfl rfl rfl bin_add ?_
    refine awl_move rfl rfl ?_
    refine awl_nil ?_
    change ∃ x', _
    refine ⟨4, (by omega), by simp, (Le.mk (.cons rfl (by first | exact Sub.refl _ | exact Sub.ts | exact Sub.nil | (refine Sub.eq ?_; first | (simp; done) | (simp; omega))) (.cons rfl (by first | exact Sub.refl _ | exact Sub.ts | exact Sub.nil | (refine Sub.eq ?_; first | (simp; done) | (simp; omega))) (.cons rfl (by first | exact Sub.refl _ | exact Sub.ts | exact Sub.nil | (refine Sub.eq ?_; first | (simp; done) | (simp; omega))) (.nil)))) (.cons rfl (by first | rfl | (simp; done) | (simp [sof]; done)) (.cons rfl (by first | rfl | (simp; done) | (simp [sof]; done)) (.nil))) rfl)⟩
  · skip
    skip
    refine awp_seq ?_
    refine awp_region ?_
    refine awl_bin rfl rfl rfl rfl bin_lss ?_
    refine awl_nil ?_
    change AWp _ _ _ _ _ _
    refine awp_seq ?_
    refine awp_cond_f (by first | exact (by decide) | exact decide_eq_true (by decide) | exact decide_eq_false (by decide)) rfl ?_
    refine awp_exit ?_
    change AWp _ _ _ _ _ _
    refine awp_seq ?_
    refine awp_region ?_
    first | refine awl_load_row ti70_LvD rfl rfl rfl rfl ?_ | refine x_irow ti70_LvD rfl rfl rfl rfl ?_
    refine x_store ti70_LvD rfl rfl rfl rfl rfl rfl rfl rfl ?_
    refine awl_nil ?_
    change AWp _ _ _ _ _ _
    refine awp_ret ?_
    change Ends _ _ _ _ _ _
    refine ends1 [] rfl (.row ti70_LvD rfl rfl rfl) ?_ rfl
    exact ⟨by simp [fl, flat0, sof], rfl⟩

def lst (b k : Int) : Int := if k ≥ 0 then max b (k + 1) else b
theorem lst_pos {b k : Int} (h : k ≥ 0) : max b (k + 1) = lst b k := by rw [lst, if_pos h]
theorem lst_neg {b k : Int} (h : ¬ k ≥ 0) : b = lst b k := by rw [lst, if_neg h]
def leastF (f : Flat) : Int := lst (lst (lst (lst f.b f.p0) f.p1) f.p2) f.p3
theorem least_con (f : Flat) (h0 : f.p0 ≤ 1000000) (h1 : f.p1 ≤ 1000000) (h2 : f.p2 ≤ 1000000) (h3 : f.p3 ≤ 1000000) : PCon Try.prog 66 [fl f] (.p (I (leastF f))) := by
  refine con_of Try.func66 rfl 21 Try.ntmps66 rfl fun cx hcx => ?_
  refine awp_seq ?_
  refine awp_region ?_
  refine awl_box rfl rfl rfl rfl rfl (by rw [hcx]; rfl) rfl ?_
  refine awl_assign rfl rfl ?_
  refine awl_nil ?_
  change AWp _ _ _ _ _ _
  refine awp_seq ?_
  refine awp_region ?_
  first | refine awl_fieldAddr fi70_0_LvD rfl rfl ?_ | refine awl_fieldAddr_i fi70_0_LvD rfl rfl rfl ?_
  first | refine awl_load_one ti3_LvD rfl rfl rfl rfl ?_ | refine awl_load_ione ti3_LvD rfl rfl rfl ?_
  refine awl_assign rfl rfl ?_
  refine awl_nil ?_
  change AWp _ _ _ _ _ _
  refine awp_seq ?_
  refine awp_seq ?_
  refine awp_region ?_
  first | refine awl_fieldAddr fi70_1_LvD rfl rfl ?_ | refine awl_fieldAddr_i fi70_1_LvD rfl rfl rfl ?_
  first | refine awl_load_row ti52_LvD rfl rfl rfl rfl ?_ | refine x_irow ti52_LvD rfl rfl rfl rfl ?_
  refine awl_move rfl rfl ?_
  refine awl_nil ?_
  change AWp _ _ _ _ _ _
  refine awp_block ?_
  refine x_loop [(1, _), (9, _)] [(1, _)] (fun x : Int × Int => [(10, .p (I x.1)), (3, .p (I x.2))]) (fun x => []) (fun x => (x.1 = 0 ∧ x.2 = f.b) ∨ (x.1 = 1 ∧ x.2 = lst f.b f.p0) ∨ (x.1 = 2 ∧ x.2 = lst (lst f.b f.p0) f.p1) ∨ (x.1 = 3 ∧ x.2 = lst (lst (lst f.b f.p0) f.p1) f.p2) ∨ (x.1 = 4 ∧ x.2 = leastF f)) (fun x => (4 - x.1).toNat) (0, f.b) (Le.mk (.cons rfl (by first | exact Sub.refl _ | exact Sub.ts | exact Sub.nil | (refine Sub.eq ?_; first | (simp; done) | (simp; omega) | (first | exact I_eq (lst_pos hk) | exact I_eq (lst_neg hk)))) (.cons rfl (by first | exact Sub.refl _ | exact Sub.ts | exact Sub.nil | (refine Sub.eq ?_; first | (simp; done) | (simp; omega) | (first | exact I_eq (lst_pos hk) | exact I_eq (lst_neg hk)))) (.cons rfl (by first | exact Sub.refl _ | exact Sub.ts | exact Sub.nil | (refine Sub.eq ?_; first | (simp; done) | (simp; omega) | (first | exact I_eq (lst_pos hk) | exact I_eq (lst_neg hk)))) (.cons rfl (by first | exact Sub.refl _ | exact Sub.ts | exact Sub.nil | (refine Sub.eq ?_; first | (simp; done) | (simp; omega) | (first | exact I_eq (lst_pos hk) | exact I_eq (lst_neg hk)))) (.nil))))) (.cons rfl (by first | rfl | (simp; done)) (.nil)) rfl) (.inl ⟨rfl, rfl⟩) (fun x hx => ?_)
  obtain ⟨x, m⟩ := x
  simp only at hx
  dsimp only [List.cons_append, List.nil_append]
  rcases hx with ⟨rfl, rfl⟩ | ⟨rfl, rfl⟩ | ⟨rfl, rfl⟩ | ⟨rfl, rfl⟩ | ⟨rfl, rfl⟩
  · skip
    skip
    refine awp_seq ?_
    refine awp_region ?_
    refine awl_bin rfl rfl rfl rfl bin_lss ?_
    refine awl_nil ?_
    change AWp _ _ _ _ _ _
    refine awp_seq ?_
    refine awp_cond_t (by first | exact (by decide) | exact decide_eq_true (by decide) | exact decide_eq_false (by decide)) rfl ?_
    refine awp_skip ?_
    change AWp _ _ _ _ _ _
    refine awp_seq ?_
    refine awp_block ?_
    refine awp_seq ?_
    refine awp_region ?_
    refine x_idx ai52_LvD ti3_LvD rfl rfl (by omega) (by omega) rfl rfl ?_
    refine awl_assign rfl rfl ?_
    refine awl_nil ?_
    change AWp _ _ _ _ _ _
    refine awp_seq ?_
    refine awp_region ?_
    refine awl_move rfl rfl ?_
    refine awl_bin rfl rfl rfl rfl bin_geq ?_
    refine awl_nil ?_
    change AWp _ _ _ _ _ _
    first | refine awp_cond_p rfl (fun hk => ?_) (fun hk => ?_) | refine awp_cond rfl (fun hk => ?_) (fun hk => ?_)
    · skip
      refine awp_region ?_
      refine awl_move rfl rfl ?_
      refine awl_move rfl rfl ?_
      first | refine awl_bin rfl rfl rfl rfl (bin_add_i (by omega)) ?_ | refine awl_bin rfl rfl rfl rfl bin_add ?_
      refine awl_max rfl rfl rfl ?_
      refine awl_assign rfl rfl ?_
      refine awl_nil ?_
      change AWp _ _ _ _ _ _
      refine awp_region ?_
      first | refine awl_bin rfl rfl rfl rfl (bin_add_i (by omega)) ?_ | refine awl_bin rfl rfl rfl rfl bin_add ?_
      refine awl_move rfl rfl ?_
      refine awl_nil ?_
      change ∃ x', _
      refine ⟨(1, lst f.b f.p0), (.inr (.inl ⟨rfl, rfl⟩)), by simp, (Le.mk (.cons rfl (by first | exact Sub.refl _ | exact Sub.ts | exact Sub.nil | (refine Sub.eq ?_; first | (simp; done) | (simp; omega) | (first | exact I_eq (lst_pos hk) | exact I_eq (lst_neg hk)))) (.cons rfl (by first | exact Sub.refl _ | exact Sub.ts | exact Sub.nil | (refine Sub.eq ?_; first | (simp; done) | (simp; omega) | (first | exact I_eq (lst_pos hk) | exact I_eq (lst_neg hk)))) (.cons rfl (by first | exact Sub.refl _ | exact Sub.ts | exact Sub.nil | (refine Sub.eq ?_; first | (simp; done) | (simp; omega) | (first | exact I_eq (lst_pos hk) | exact I_eq (lst_neg hk)))) (.cons rfl (by first | exact Sub.refl _ | exact Sub.ts | exact Sub.nil | (refine Sub.eq ?_; first | (simp; done) | (simp; omega) | (first | exact I_eq (lst_pos hk) | exact I_eq (lst_neg hk)))) (.nil))))) (.cons rfl (by first | rfl | (simp; done)) (.nil)) rfl)⟩
    · skip
      refine awp_skip ?_
      change AWp _ _ _ _ _ _
      refine awp_region ?_
      first | refine awl_bin rfl rfl rfl rfl (bin_add_i (by omega)) ?_ | refine awl_bin rfl rfl rfl rfl bin_add ?_
      refine awl_move rfl rfl ?_
      refine awl_nil ?_
      change ∃ x', _
      refine ⟨(1, lst f.b f.p0), (.inr (.inl ⟨rfl, rfl⟩)), by simp, (Le.mk (.cons rfl (by first | exact Sub.refl _ | exact Sub.ts | exact Sub.nil | (refine Sub.eq ?_; first | (simp; done) | (simp; omega) | (first | exact I_eq (lst_pos hk) | exact I_eq (lst_neg hk)))) (.cons rfl (by first | exact Sub.refl _ | exact Sub.ts | exact Sub.nil | (refine Sub.eq ?_; first | (simp; done) | (simp; omega) | (first | exact I_eq (lst_pos hk) | exact I_eq (lst_neg hk)))) (.cons rfl (by first | exact Sub.refl _ | exact Sub.ts | exact Sub.nil | (refine Sub.eq ?_; first | (simp; done) | (simp; omega) | (first | exact I_eq (lst_pos hk) | exact I_eq (lst_neg hk)))) (.cons rfl (by first | exact Sub.refl _ | exact Sub.ts | exact Sub.nil | (refine Sub.eq ?_; first | (simp; done) | (simp; omega) | (first | exact I_eq (lst_pos hk) | exact I_eq (lst_neg hk)))) (.nil))))) (.cons rfl (by first | rfl | (simp; done)) (.nil)) rfl)⟩
  · skip
    skip
    refine awp_seq ?_
    refine awp_region ?_
    refine awl_bin rfl rfl rfl rfl bin_lss ?_
    refine awl_nil ?_
    change AWp _ _ _ _ _ _
    refine awp_seq ?_
    refine awp_cond_t (by first | exact (by decide) | exact decide_eq_true (by decide) | exact decide_eq_false (by decide)) rfl ?_
    refine awp_skip ?_
    change AWp _ _ _ _ _ _
    refine awp_seq ?_
    refine awp_block ?_
    refine awp_seq ?_
    refine awp_region ?_
    refine x_idx ai52_LvD ti3_LvD rfl rfl (by omega) (by omega) rfl rfl ?_
    refine awl_assign rfl rfl ?_
    refine awl_nil ?_
    change AWp _ _ _ _ _ _
    refine awp_seq ?_
    refine awp_region ?_
    refine awl_move rfl rfl ?_
    refine awl_bin rfl rfl rfl rfl bin_geq ?_
    refine awl_nil ?_
    change AWp _ _ _ _ _ _
    first | refine awp_cond_p rfl (fun hk => ?_) (fun hk => ?_) | refine awp_cond rfl (fun hk => ?_) (fun hk => ?_)
    · skip
      refine awp_region ?_
      refine awl_move rfl rfl ?_
      refine awl_move rfl rfl ?_
      first | refine awl_bin rfl rfl rfl rfl (bin_add_i (by omega)) ?_ | refine awl_bin rfl rfl rfl rfl bin_add ?_
      refine awl_max rfl rfl rfl ?_
      refine awl_assign rfl rfl ?_
      refine awl_nil ?_
      change AWp _ _ _ _ _ _
      refine awp_region ?_
      first | refine awl_bin rfl rfl rfl rfl (bin_add_i (by omega)) ?_ | refine awl_bin rfl rfl rfl rfl bin_add ?_
      refine awl_move rfl rfl ?_
      refine awl_nil ?_
      change ∃ x', _
      refine ⟨(2, lst (lst f.b f.p0) f.p1), (.inr (.inr (.inl ⟨rfl, rfl⟩))), by simp, (Le.mk (.cons rfl (by first | exact Sub.refl _ | exact Sub.ts | exact Sub.nil | (refine Sub.eq ?_; first | (simp; done) | (simp; omega) | (first | exact I_eq (lst_pos hk) | exact I_eq (lst_neg hk)))) (.cons rfl (by first | exact Sub.refl _ | exact Sub.ts | exact Sub.nil | (refine Sub.eq ?_; first | (simp; done) | (simp; omega) | (first | exact I_eq (lst_pos hk) | exact I_eq (lst_neg hk)))) (.cons rfl (by first | exact Sub.refl _ | exact Sub.ts | exact Sub.nil | (refine Sub.eq ?_; first | (simp; done) | (simp; omega) | (first | exact I_eq (lst_pos hk) | exact I_eq (lst_neg hk)))) (.cons rfl (by first | exact Sub.refl _ | exact Sub.ts | exact Sub.nil | (refine Sub.eq ?_; first | (simp; done) | (simp; omega) | (first | exact I_eq (lst_pos hk) | exact I_eq (lst_neg hk)))) (.nil))))) (.cons rfl (by first | rfl | (simp; done)) (.nil)) rfl)⟩
    · skip
      refine awp_skip ?_
      change AWp _ _ _ _ _ _
      refine awp_region ?_
      first | refine awl_bin rfl rfl rfl rfl (bin_add_i (by omega)) ?_ | refine awl_bin rfl rfl rfl rfl bin_add ?_
      refine awl_move rfl rfl ?_
      refine awl_nil ?_
      change ∃ x', _
      refine ⟨(2, lst (lst f.b f.p0) f.p1), (.inr (.inr (.inl ⟨rfl, rfl⟩))), by simp, (Le.mk (.cons rfl (by first | exact Sub.refl _ | exact Sub.ts | exact Sub.nil | (refine Sub.eq ?_; first | (simp; done) | (simp; omega) | (first | exact I_eq (lst_pos hk) | exact I_eq (lst_neg hk)))) (.cons rfl (by first | exact Sub.refl _ | exact Sub.ts | exact Sub.nil | (refine Sub.eq ?_; first | (simp; done) | (simp; omega) | (first | exact I_eq (lst_pos hk) | exact I_eq (lst_neg hk)))) (.cons rfl (by first | exact Sub.refl _ | exact Sub.ts | exact Sub.nil | (refine Sub.eq ?_; first | (simp; done) | (simp; omega) | (first | exact I_eq (lst_pos hk) | exact I_eq (lst_neg hk)))) (.cons rfl (by first | exact Sub.refl _ | exact Sub.ts | exact Sub.nil | (refine Sub.eq ?_; first | (simp; done) | (simp; omega) | (first | exact I_eq (lst_pos hk) | exact I_eq (lst_neg hk)))) (.nil))))) (.cons rfl (by first | rfl | (simp; done)) (.nil)) rfl)⟩
  · skip
    skip
    refine awp_seq ?_
    refine awp_region ?_
    refine awl_bin rfl rfl rfl rfl bin_lss ?_
    refine awl_nil ?_
    change AWp _ _ _ _ _ _
    refine awp_seq ?_
    refine awp_cond_t (by first | exact (by decide) | exact decide_eq_true (by decide) | exact decide_eq_false (by decide)) rfl ?_
    refine awp_skip ?_
    change AWp _ _ _ _ _ _
    refine awp_seq ?_
    refine awp_block ?_
    refine awp_seq ?_
    refine awp_region ?_
    refine x_idx ai52_LvD ti3_LvD rfl rfl (by omega) (by omega) rfl rfl ?_
    refine awl_assign rfl rfl ?_
    refine awl_nil ?_
    change AWp _ _ _ _ _ _
    refine awp_seq ?_
    refine awp_region ?_
    refine awl_move rfl rfl ?_
    refine awl_bin rfl rfl rfl rfl bin_geq ?_
    refine awl_nil ?_
    change AWp _ _ _ _ _ _
    first | refine awp_cond_p rfl (fun hk => ?_) (fun hk => ?_) | refine awp_cond rfl (fun hk => ?_) (fun hk => ?_)
    · skip
      refine awp_region ?_
      refine awl_move rfl rfl ?_
      refine awl_move rfl rfl ?_
      first | refine awl_bin rfl rfl rfl rfl (bin_add_i (by omega)) ?_ | refine awl_bin rfl rfl rfl rfl bin_add ?_
      refine awl_max rfl rfl rfl ?_
      refine awl_assign rfl rfl ?_
      refine awl_nil ?_
      change AWp _ _ _ _ _ _
      refine awp_region ?_
      first | refine awl_bin rfl rfl rfl rfl (bin_add_i (by omega)) ?_ | refine awl_bin rfl rfl rfl rfl bin_add ?_
      refine awl_move rfl rfl ?_
      refine awl_nil ?_
      change ∃ x', _
      refine ⟨(3, lst (lst (lst f.b f.p0) f.p1) f.p2), (.inr (.inr (.inr (.inl ⟨rfl, rfl⟩)))), by simp, (Le.mk (.cons rfl (by first | exact Sub.refl _ | exact Sub.ts | exact Sub.nil | (refine Sub.eq ?_; first | (simp; done) | (simp; omega) | (first | exact I_eq (lst_pos hk) | exact I_eq (lst_neg hk)))) (.cons rfl (by first | exact Sub.refl _ | exact Sub.ts | exact Sub.nil | (refine Sub.eq ?_; first | (simp; done) | (simp; omega) | (first | exact I_eq (lst_pos hk) | exact I_eq (lst_neg hk)))) (.cons rfl (by first | exact Sub.refl _ | exact Sub.ts | exact Sub.nil | (refine Sub.eq ?_; first | (simp; done) | (simp; omega) | (first | exact I_eq (lst_pos hk) | exact I_eq (lst_neg hk)))) (.cons rfl (by first | exact Sub.refl _ | exact Sub.ts | exact Sub.nil | (refine Sub.eq ?_; first | (simp; done) | (simp; omega) | (first | exact I_eq (lst_pos hk) | exact I_eq (lst_neg hk)))) (.nil))))) (.cons rfl (by first | rfl | (simp; done)) (.nil)) rfl)⟩
    · skip
      refine awp_skip ?_
      change AWp _ _ _ _ _ _
      refine awp_region ?_
      first | refine awl_bin rfl rfl rfl rfl (bin_add_i (by omega)) ?_ | refine awl_bin rfl rfl rfl rfl bin_add ?_
      refine awl_move rfl rfl ?_
      refine awl_nil ?_
      change ∃ x', _
      refine ⟨(3, lst (lst (lst f.b f.p0) f.p1) f.p2), (.inr (.inr (.inr (.inl ⟨rfl, rfl⟩)))), by simp, (Le.mk (.cons rfl (by first | exact Sub.refl _ | exact Sub.ts | exact Sub.nil | (refine Sub.eq ?_; first | (simp; done) | (simp; omega) | (first | exact I_eq (lst_pos hk) | exact I_eq (lst_neg hk)))) (.cons rfl (by first | exact Sub.refl _ | exact Sub.ts | exact Sub.nil | (refine Sub.eq ?_; first | (simp; done) | (simp; omega) | (first | exact I_eq (lst_pos hk) | exact I_eq (lst_neg hk)))) (.cons rfl (by first | exact Sub.refl _ | exact Sub.ts | exact Sub.nil | (refine Sub.eq ?_; first | (simp; done) | (simp; omega) | (first | exact I_eq (lst_pos hk) | exact I_eq (lst_neg hk)))) (.cons rfl (by first | exact Sub.refl _ | exact Sub.ts | exact Sub.nil | (refine Sub.eq ?_; first | (simp; done) | (simp; omega) | (first | exact I_eq (lst_pos hk) | exact I_eq (lst_neg hk)))) (.nil))))) (.cons rfl (by first | rfl | (simp; done)) (.nil)) rfl)⟩
  · skip
    skip
    refine awp_seq ?_
    refine awp_region ?_
    refine awl_bin rfl rfl rfl rfl bin_lss ?_
    refine awl_nil ?_
    change AWp _ _ _ _ _ _
    refine awp_seq ?_
    refine awp_cond_t (by first | exact (by decide) | exact decide_eq_true (by decide) | exact decide_eq_false (by decide)) rfl ?_
    refine awp_skip ?_
    change AWp _ _ _ _ _ _
    refine awp_seq ?_
    refine awp_block ?_
    refine awp_seq ?_
    refine awp_region ?_
    refine x_idx ai52_LvD ti3_LvD rfl rfl (by omega) (by omega) rfl rfl ?_
    refine awl_assign rfl rfl ?_
    refine awl_nil ?_
    change AWp _ _ _ _ _ _
    refine awp_seq ?_
    refine awp_region ?_
    refine awl_move rfl rfl ?_
    refine awl_bin rfl rfl rfl rfl bin_geq ?_
    refine awl_nil ?_
    change AWp _ _ _ _ _ _
    first | refine awp_cond_p rfl (fun hk => ?_) (fun hk => ?_) | refine awp_cond rfl (fun hk => ?_) (fun hk => ?_)
    · skip
      refine awp_region ?_
      refine awl_move rfl rfl ?_
      refine awl_move rfl rfl ?_
      first | refine awl_bin rfl rfl rfl rfl (bin_add_i (by omega)) ?_ | refine awl_bin rfl rfl rfl rfl bin_add ?_
      refine awl_max rfl rfl rfl ?_
      refine awl_assign rfl rfl ?_
      refine awl_nil ?_
      change AWp _ _ _ _ _ _
      refine awp_region ?_
      first | refine awl_bin rfl rfl rfl rfl (bin_add_i (by omega)) ?_ | refine awl_bin rfl rfl rfl rfl bin_add ?_
      refine awl_move rfl rfl ?_
      refine awl_nil ?_
      change ∃ x', _
      refine ⟨(4, leastF f), (.inr (.inr (.inr (.inr ⟨rfl, rfl⟩)))), by simp, (Le.mk (.cons rfl (by first | exact Sub.refl _ | exact Sub.ts | exact Sub.nil | (refine Sub.eq ?_; first | (simp; done) | (simp; omega) | (first | exact I_eq (lst_pos hk) | exact I_eq (lst_neg hk)))) (.cons rfl (by first | exact Sub.refl _ | exact Sub.ts | exact Sub.nil | (refine Sub.eq ?_; first | (simp; done) | (simp; omega) | (first | exact I_eq (lst_pos hk) | exact I_eq (lst_neg hk)))) (.cons rfl (by first | exact Sub.refl _ | exact Sub.ts | exact Sub.nil | (refine Sub.eq ?_; first | (simp; done) | (simp; omega) | (first | exact I_eq (lst_pos hk) | exact I_eq (lst_neg hk)))) (.cons rfl (by first | exact Sub.refl _ | exact Sub.ts | exact Sub.nil | (refine Sub.eq ?_; first | (simp; done) | (simp; omega) | (first | exact I_eq (lst_pos hk) | exact I_eq (lst_neg hk)))) (.nil))))) (.cons rfl (by first | rfl | (simp; done)) (.nil)) rfl)⟩
    · skip
      refine awp_skip ?_
      change AWp _ _ _ _ _ _
      refine awp_region ?_
      first | refine awl_bin rfl rfl rfl rfl (bin_add_i (by omega)) ?_ | refine awl_bin rfl rfl rfl rfl bin_add ?_
      refine awl_move rfl rfl ?_
      refine awl_nil ?_
      change ∃ x', _
      refine ⟨(4, leastF f), (.inr (.inr (.inr (.inr ⟨rfl, rfl⟩)))), by simp, (Le.mk (.cons rfl (by first | exact Sub.refl _ | exact Sub.ts | exact Sub.nil | (refine Sub.eq ?_; first | (simp; done) | (simp; omega) | (first | exact I_eq (lst_pos hk) | exact I_eq (lst_neg hk)))) (.cons rfl (by first | exact Sub.refl _ | exact Sub.ts | exact Sub.nil | (refine Sub.eq ?_; first | (simp; done) | (simp; omega) | (first | exact I_eq (lst_pos hk) | exact I_eq (lst_neg hk)))) (.cons rfl (by first | exact Sub.refl _ | exact Sub.ts | exact Sub.nil | (refine Sub.eq ?_; first | (simp; done) | (simp; omega) | (first | exact I_eq (lst_pos hk) | exact I_eq (lst_neg hk)))) (.cons rfl (by first | exact Sub.refl _ | exact Sub.ts | exact Sub.nil | (refine Sub.eq ?_; first | (simp; done) | (simp; omega) | (first | exact I_eq (lst_pos hk) | exact I_eq (lst_neg hk)))) (.nil))))) (.cons rfl (by first | rfl | (simp; done)) (.nil)) rfl)⟩
  · skip
    skip
    refine awp_seq ?_
    refine awp_region ?_
    refine awl_bin rfl rfl rfl rfl bin_lss ?_
    refine awl_nil ?_
    change AWp _ _ _ _ _ _
    refine awp_seq ?_
    refine awp_cond_f (by first | exact (by decide) | exact decide_eq_true (by decide) | exact decide_eq_false (by decide)) rfl ?_
    refine awp_exit ?_
    change AWp _ _ _ _ _ _
    refine awp_seq ?_
    refine awp_region ?_
    refine awl_move rfl rfl ?_
    refine awl_assign rfl rfl ?_
    refine awl_nil ?_
    change AWp _ _ _ _ _ _
    refine awp_ret ?_
    change Ends _ _ _ _ _ _
    refine ends1 [] rfl (.tmp rfl) ?_ rfl
    exact ⟨rfl, rfl⟩

def belowF (f o : Flat) : Bool := decide (f.p0 ≤ o.p0 ∧ f.p1 ≤ o.p1 ∧ f.p2 ≤ o.p2 ∧ f.p3 ≤ o.p3 ∧ f.b ≤ leastF o)
theorem below_con (f o : Flat) (h0 : o.p0 ≤ 1000000) (h1 : o.p1 ≤ 1000000) (h2 : o.p2 ≤ 1000000) (h3 : o.p3 ≤ 1000000) : PCon Try.prog 56 [fl f, fl o] (.p (B (belowF f o))) := by
  refine con_of Try.func56 rfl 25 Try.ntmps56 rfl fun cx hcx => ?_
  refine awp_seq ?_
  refine awp_region ?_
  refine awl_box rfl rfl rfl rfl rfl (by rw [hcx]; rfl) rfl ?_
  refine awl_box rfl rfl rfl rfl rfl (by rw [hcx]; rfl) rfl ?_
  refine awl_assign rfl rfl ?_
  refine awl_nil ?_
  change AWp _ _ _ _ _ _
  refine awp_seq ?_
  refine awp_seq ?_
  refine awp_region ?_
  first | refine awl_fieldAddr fi70_1_LvD rfl rfl ?_ | refine awl_fieldAddr_i fi70_1_LvD rfl rfl rfl ?_
  first | refine awl_load_row ti52_LvD rfl rfl rfl rfl ?_ | refine x_irow ti52_LvD rfl rfl rfl rfl ?_
  refine awl_move rfl rfl ?_
  refine awl_nil ?_
  change AWp _ _ _ _ _ _
  refine awp_block ?_
  refine x_loop [(2, _), (3, _), (8, _)] [(2, _), (3, _)] (fun x : Int => [(9, .p (I x))]) (fun x => []) (fun x => (x = 0) ∨ (x = 1 ∧ f.p0 ≤ o.p0) ∨ (x = 2 ∧ f.p0 ≤ o.p0 ∧ f.p1 ≤ o.p1) ∨ (x = 3 ∧ f.p0 ≤ o.p0 ∧ f.p1 ≤ o.p1 ∧ f.p2 ≤ o.p2) ∨ (x = 4 ∧ f.p0 ≤ o.p0 ∧ f.p1 ≤ o.p1 ∧ f.p2 ≤ o.p2 ∧ f.p3 ≤ o.p3)) (fun x => (4 - x).toNat) 0 (Le.mk (.cons rfl (by first | exact Sub.refl _ | exact Sub.ts | exact Sub.nil | (refine Sub.eq ?_; first | (simp; done) | (simp; omega))) (.cons rfl (by first | exact Sub.refl _ | exact Sub.ts | exact Sub.nil | (refine Sub.eq ?_; first | (simp; done) | (simp; omega))) (.cons rfl (by first | exact Sub.refl _ | exact Sub.ts | exact Sub.nil | (refine Sub.eq ?_; first | (simp; done) | (simp; omega))) (.cons rfl (by first | exact Sub.refl _ | exact Sub.ts | exact Sub.nil | (refine Sub.eq ?_; first | (simp; done) | (simp; omega))) (.nil))))) (.cons rfl (by first | rfl | (simp; done)) (.cons rfl (by first | rfl | (simp; done)) (.nil))) rfl) (.inl rfl) (fun x hx => ?_)
  skip
  dsimp only [List.cons_append, List.nil_append]
  rcases hx with rfl | ⟨rfl, g0⟩ | ⟨rfl, g0, g1⟩ | ⟨rfl, g0, g1, g2⟩ | ⟨rfl, g0, g1, g2, g3⟩
  · skip
    skip
    refine awp_seq ?_
    refine awp_region ?_
    refine awl_bin rfl rfl rfl rfl bin_lss ?_
    refine awl_nil ?_
    change AWp _ _ _ _ _ _
    refine awp_seq ?_
    refine awp_cond_t (by first | exact (by decide) | exact decide_eq_true (by decide) | exact decide_eq_false (by decide)) rfl ?_
    refine awp_skip ?_
    change AWp _ _ _ _ _ _
    refine awp_seq ?_
    refine awp_block ?_
    refine awp_seq ?_
    refine awp_region ?_
    refine awl_move rfl rfl ?_
    refine x_idx ai52_LvD ti3_LvD rfl rfl (by omega) (by omega) rfl rfl ?_
    refine awl_assign rfl rfl ?_
    refine awl_assign rfl rfl ?_
    refine awl_nil ?_
    change AWp _ _ _ _ _ _
    refine awp_seq ?_
    refine awp_region ?_
    refine awl_move rfl rfl ?_
    refine awl_move rfl rfl ?_
    first | refine awl_fieldAddr fi70_1_LvD rfl rfl ?_ | refine awl_fieldAddr_i fi70_1_LvD rfl rfl rfl ?_
    refine x_arr ai52_LvD ti3_LvD rfl rfl (by omega) (by omega) rfl rfl ?_
    first | refine awl_load_one ti3_LvD rfl rfl rfl rfl ?_ | refine awl_load_ione ti3_LvD rfl rfl rfl ?_
    refine awl_bin rfl rfl rfl rfl bin_gtr ?_
    refine awl_nil ?_
    change AWp _ _ _ _ _ _
    first | refine awp_cond_p rfl (fun hk => ?_) (fun hk => ?_) | refine awp_cond rfl (fun hk => ?_) (fun hk => ?_)
    · skip
      refine awp_seq ?_
      refine awp_region ?_
      refine awl_assign rfl rfl ?_
      refine awl_nil ?_
      change AWp _ _ _ _ _ _
      refine awp_ret ?_
      change Ends _ _ _ _ _ _
      refine ends1 [] rfl (.tmp rfl) ?_ rfl
      refine ⟨B_eq ?_, rfl⟩; exact (decide_eq_false (by omega)).symm
    · skip
      refine awp_skip ?_
      change AWp _ _ _ _ _ _
      refine awp_region ?_
      first | refine awl_bin rfl rfl rfl rfl (bin_add_i (by omega)) ?_ | refine awl_bin rfl rfl rfl rfl bin_add ?_
      refine awl_move rfl rfl ?_
      refine awl_nil ?_
      change ∃ x', _
      refine ⟨1, (by omega), by simp, (Le.mk (.cons rfl (by first | exact Sub.refl _ | exact Sub.ts | exact Sub.nil | (refine Sub.eq ?_; first | (simp; done) | (simp; omega))) (.cons rfl (by first | exact Sub.refl _ | exact Sub.ts | exact Sub.nil | (refine Sub.eq ?_; first | (simp; done) | (simp; omega))) (.cons rfl (by first | exact Sub.refl _ | exact Sub.ts | exact Sub.nil | (refine Sub.eq ?_; first | (simp; done) | (simp; omega))) (.cons rfl (by first | exact Sub.refl _ | exact Sub.ts | exact Sub.nil | (refine Sub.eq ?_; first | (simp; done) | (simp; omega))) (.nil))))) (.cons rfl (by first | rfl | (simp; done)) (.cons rfl (by first | rfl | (simp; done)) (.nil))) rfl)⟩
  · skip
    skip
    refine awp_seq ?_
    refine awp_region ?_
    refine awl_bin rfl rfl rfl rfl bin_lss ?_
    refine awl_nil ?_
    change AWp _ _ _ _ _ _
    refine awp_seq ?_
    refine awp_cond_t (by first | exact (by decide) | exact decide_eq_true (by decide) | exact decide_eq_false (by decide)) rfl ?_
    refine awp_skip ?_
    change AWp _ _ _ _ _ _
    refine awp_seq ?_
    refine awp_block ?_
    refine awp_seq ?_
    refine awp_region ?_
    refine awl_move rfl rfl ?_
    refine x_idx ai52_LvD ti3_LvD rfl rfl (by omega) (by omega) rfl rfl ?_
    refine awl_assign rfl rfl ?_
    refine awl_assign rfl rfl ?_
    refine awl_nil ?_
    change AWp _ _ _ _ _ _
    refine awp_seq ?_
    refine awp_region ?_
    refine awl_move rfl rfl ?_
    refine awl_move rfl rfl ?_
    first | refine awl_fieldAddr fi70_1_LvD rfl rfl ?_ | refine awl_fieldAddr_i fi70_1_LvD rfl rfl rfl ?_
    refine x_arr ai52_LvD ti3_LvD rfl rfl (by omega) (by omega) rfl rfl ?_
    first | refine awl_load_one ti3_LvD rfl rfl rfl rfl ?_ | refine awl_load_ione ti3_LvD rfl rfl rfl ?_
    refine awl_bin rfl rfl rfl rfl bin_gtr ?_
    refine awl_nil ?_
    change AWp _ _ _ _ _ _
    first | refine awp_cond_p rfl (fun hk => ?_) (fun hk => ?_) | refine awp_cond rfl (fun hk => ?_) (fun hk => ?_)
    · skip
      refine awp_seq ?_
      refine awp_region ?_
      refine awl_assign rfl rfl ?_
      refine awl_nil ?_
      change AWp _ _ _ _ _ _
      refine awp_ret ?_
      change Ends _ _ _ _ _ _
      refine ends1 [] rfl (.tmp rfl) ?_ rfl
      refine ⟨B_eq ?_, rfl⟩; exact (decide_eq_false (by omega)).symm
    · skip
      refine awp_skip ?_
      change AWp _ _ _ _ _ _
      refine awp_region ?_
      first | refine awl_bin rfl rfl rfl rfl (bin_add_i (by omega)) ?_ | refine awl_bin rfl rfl rfl rfl bin_add ?_
      refine awl_move rfl rfl ?_
      refine awl_nil ?_
      change ∃ x', _
      refine ⟨2, (by omega), by simp, (Le.mk (.cons rfl (by first | exact Sub.refl _ | exact Sub.ts | exact Sub.nil | (refine Sub.eq ?_; first | (simp; done) | (simp; omega))) (.cons rfl (by first | exact Sub.refl _ | exact Sub.ts | exact Sub.nil | (refine Sub.eq ?_; first | (simp; done) | (simp; omega))) (.cons rfl (by first | exact Sub.refl _ | exact Sub.ts | exact Sub.nil | (refine Sub.eq ?_; first | (simp; done) | (simp; omega))) (.cons rfl (by first | exact Sub.refl _ | exact Sub.ts | exact Sub.nil | (refine Sub.eq ?_; first | (simp; done) | (simp; omega))) (.nil))))) (.cons rfl (by first | rfl | (simp; done)) (.cons rfl (by first | rfl | (simp; done)) (.nil))) rfl)⟩
  · skip
    skip
    refine awp_seq ?_
    refine awp_region ?_
    refine awl_bin rfl rfl rfl rfl bin_lss ?_
    refine awl_nil ?_
    change AWp _ _ _ _ _ _
    refine awp_seq ?_
    refine awp_cond_t (by first | exact (by decide) | exact decide_eq_true (by decide) | exact decide_eq_false (by decide)) rfl ?_
    refine awp_skip ?_
    change AWp _ _ _ _ _ _
    refine awp_seq ?_
    refine awp_block ?_
    refine awp_seq ?_
    refine awp_region ?_
    refine awl_move rfl rfl ?_
    refine x_idx ai52_LvD ti3_LvD rfl rfl (by omega) (by omega) rfl rfl ?_
    refine awl_assign rfl rfl ?_
    refine awl_assign rfl rfl ?_
    refine awl_nil ?_
    change AWp _ _ _ _ _ _
    refine awp_seq ?_
    refine awp_region ?_
    refine awl_move rfl rfl ?_
    refine awl_move rfl rfl ?_
    first | refine awl_fieldAddr fi70_1_LvD rfl rfl ?_ | refine awl_fieldAddr_i fi70_1_LvD rfl rfl rfl ?_
    refine x_arr ai52_LvD ti3_LvD rfl rfl (by omega) (by omega) rfl rfl ?_
    first | refine awl_load_one ti3_LvD rfl rfl rfl rfl ?_ | refine awl_load_ione ti3_LvD rfl rfl rfl ?_
    refine awl_bin rfl rfl rfl rfl bin_gtr ?_
    refine awl_nil ?_
    change AWp _ _ _ _ _ _
    first | refine awp_cond_p rfl (fun hk => ?_) (fun hk => ?_) | refine awp_cond rfl (fun hk => ?_) (fun hk => ?_)
    · skip
      refine awp_seq ?_
      refine awp_region ?_
      refine awl_assign rfl rfl ?_
      refine awl_nil ?_
      change AWp _ _ _ _ _ _
      refine awp_ret ?_
      change Ends _ _ _ _ _ _
      refine ends1 [] rfl (.tmp rfl) ?_ rfl
      refine ⟨B_eq ?_, rfl⟩; exact (decide_eq_false (by omega)).symm
    · skip
      refine awp_skip ?_
      change AWp _ _ _ _ _ _
      refine awp_region ?_
      first | refine awl_bin rfl rfl rfl rfl (bin_add_i (by omega)) ?_ | refine awl_bin rfl rfl rfl rfl bin_add ?_
      refine awl_move rfl rfl ?_
      refine awl_nil ?_
      change ∃ x', _
      refine ⟨3, (by omega), by simp, (Le.mk (.cons rfl (by first | exact Sub.refl _ | exact Sub.ts | exact Sub.nil | (refine Sub.eq ?_; first | (simp; done) | (simp; omega))) (.cons rfl (by first | exact Sub.refl _ | exact Sub.ts | exact Sub.nil | (refine Sub.eq ?_; first | (simp; done) | (simp; omega))) (.cons rfl (by first | exact Sub.refl _ | exact Sub.ts | exact Sub.nil | (refine Sub.eq ?_; first | (simp; done) | (simp; omega))) (.cons rfl (by first | exact Sub.refl _ | exact Sub.ts | exact Sub.nil | (refine Sub.eq ?_; first | (simp; done) | (simp; omega))) (.nil))))) (.cons rfl (by first | rfl | (simp; done)) (.cons rfl (by first | rfl | (simp; done)) (.nil))) rfl)⟩
  · skip
    skip
    refine awp_seq ?_
    refine awp_region ?_
    refine awl_bin rfl rfl rfl rfl bin_lss ?_
    refine awl_nil ?_
    change AWp _ _ _ _ _ _
    refine awp_seq ?_
    refine awp_cond_t (by first | exact (by decide) | exact decide_eq_true (by decide) | exact decide_eq_false (by decide)) rfl ?_
    refine awp_skip ?_
    change AWp _ _ _ _ _ _
    refine awp_seq ?_
    refine awp_block ?_
    refine awp_seq ?_
    refine awp_region ?_
    refine awl_move rfl rfl ?_
    refine x_idx ai52_LvD ti3_LvD rfl rfl (by omega) (by omega) rfl rfl ?_
    refine awl_assign rfl rfl ?_
    refine awl_assign rfl rfl ?_
    refine awl_nil ?_
    change AWp _ _ _ _ _ _
    refine awp_seq ?_
    refine awp_region ?_
    refine awl_move rfl rfl ?_
    refine awl_move rfl rfl ?_
    first | refine awl_fieldAddr fi70_1_LvD rfl rfl ?_ | refine awl_fieldAddr_i fi70_1_LvD rfl rfl rfl ?_
    refine x_arr ai52_LvD ti3_LvD rfl rfl (by omega) (by omega) rfl rfl ?_
    first | refine awl_load_one ti3_LvD rfl rfl rfl rfl ?_ | refine awl_load_ione ti3_LvD rfl rfl rfl ?_
    refine awl_bin rfl rfl rfl rfl bin_gtr ?_
    refine awl_nil ?_
    change AWp _ _ _ _ _ _
    first | refine awp_cond_p rfl (fun hk => ?_) (fun hk => ?_) | refine awp_cond rfl (fun hk => ?_) (fun hk => ?_)
    · skip
      refine awp_seq ?_
      refine awp_region ?_
      refine awl_assign rfl rfl ?_
      refine awl_nil ?_
      change AWp _ _ _ _ _ _
      refine awp_ret ?_
      change Ends _ _ _ _ _ _
      refine ends1 [] rfl (.tmp rfl) ?_ rfl
      refine ⟨B_eq ?_, rfl⟩; exact (decide_eq_false (by omega)).symm
    · skip
      refine awp_skip ?_
      change AWp _ _ _ _ _ _
      refine awp_region ?_
      first | refine awl_bin rfl rfl rfl rfl (bin_add_i (by omega)) ?_ | refine awl_bin rfl rfl rfl rfl bin_add ?_
      refine awl_move rfl rfl ?_
      refine awl_nil ?_
      change ∃ x', _
      refine ⟨4, (by omega), by simp, (Le.mk (.cons rfl (by first | exact Sub.refl _ | exact Sub.ts | exact Sub.nil | (refine Sub.eq ?_; first | (simp; done) | (simp; omega))) (.cons rfl (by first | exact Sub.refl _ | exact Sub.ts | exact Sub.nil | (refine Sub.eq ?_; first | (simp; done) | (simp; omega))) (.cons rfl (by first | exact Sub.refl _ | exact Sub.ts | exact Sub.nil | (refine Sub.eq ?_; first | (simp; done) | (simp; omega))) (.cons rfl (by first | exact Sub.refl _ | exact Sub.ts | exact Sub.nil | (refine Sub.eq ?_; first | (simp; done) | (simp; omega))) (.nil))))) (.cons rfl (by first | rfl | (simp; done)) (.cons rfl (by first | rfl | (simp; done)) (.nil))) rfl)⟩
  · skip
    skip
    refine awp_seq ?_
    refine awp_region ?_
    refine awl_bin rfl rfl rfl rfl bin_lss ?_
    refine awl_nil ?_
    change AWp _ _ _ _ _ _
    refine awp_seq ?_
    refine awp_cond_f (by first | exact (by decide) | exact decide_eq_true (by decide) | exact decide_eq_false (by decide)) rfl ?_
    refine awp_exit ?_
    change AWp _ _ _ _ _ _
    refine awp_seq ?_
    refine awp_draw0 hmo_LvD (by kernel_rfl) ?_
    refine awd_q [(2, _)] (.cons rfl (.nil)) rfl rfl rfl ?_
    apply Exists.intro
    refine ⟨fun regs' => ?_, ?_⟩
    · skip
      first | refine awl_fieldAddr fi70_0_LvD rfl rfl ?_ | refine awl_fieldAddr_i fi70_0_LvD rfl rfl rfl ?_
      exact awl_done rfl
    refine awd_q [(20, _)] (.cons rfl (.nil)) rfl rfl rfl ?_
    apply Exists.intro
    refine ⟨fun regs' => ?_, ?_⟩
    · skip
      first | refine awl_load_one ti3_LvD rfl rfl rfl rfl ?_ | refine awl_load_ione ti3_LvD rfl rfl rfl ?_
      exact awl_done rfl
    refine awd_q [(3, _)] (.cons rfl (.nil)) rfl rfl rfl ?_
    apply Exists.intro
    refine ⟨fun regs' => ?_, ?_⟩
    · skip
      first | refine awl_load_row ti70_LvD rfl rfl rfl rfl ?_ | refine x_irow ti70_LvD rfl rfl rfl rfl ?_
      exact awl_done rfl
    refine awd_q [(22, _)] (.cons rfl (.nil)) rfl rfl rfl ?_
    apply Exists.intro
    refine ⟨fun regs' => ?_, ?_⟩
    · skip
      refine awl_pcall fb66_LvD rfl (least_con o h0 h1 h2 h3) (.cons (by first | exact Sub.refl _ | exact Sub.ts | exact Sub.nil | exact Sub.agc (by repeat (first | exact .nil | refine .cons (by first | exact Sub.refl _ | exact Sub.nil) ?_))) .nil) rfl ?_
      exact awl_done rfl
    refine awd_q [(21, _), (23, _)] (.cons rfl (.cons rfl (.nil))) rfl rfl rfl ?_
    apply Exists.intro
    refine ⟨fun regs' => ?_, ?_⟩
    · skip
      refine awl_bin rfl rfl rfl rfl bin_leq ?_
      exact awl_done rfl
    refine awd_q [(24, _)] (.cons rfl (.nil)) rfl rfl rfl ?_
    apply Exists.intro
    refine ⟨fun regs' => ?_, ?_⟩
    · skip
      refine awl_assign rfl rfl ?_
      exact awl_done rfl
    refine awd_nil ?_
    change AWp _ _ _ _ _ _
    refine awp_ret ?_
    change Ends _ _ _ _ _ _
    refine ends1 [] rfl (.tmp rfl) ?_ rfl
    refine ⟨B_eq ?_, rfl⟩; unfold belowF; congr 1; apply propext; omega

theorem zero_con (f : Flat) : PCon Try.prog 65 [fl f] (.p (B (decide (f = flat0)))) := by
  refine con_of Try.func65 rfl 6 Try.ntmps65 rfl fun cx hcx => ?_
  refine awp_seq ?_
  refine awp_region ?_
  refine awl_box rfl rfl rfl rfl rfl (by rw [hcx]; rfl) rfl ?_
  refine awl_assign rfl rfl ?_
  refine awl_nil ?_
  change AWp _ _ _ _ _ _
  refine awp_seq ?_
  refine awp_draw0 hmo_LvD (by kernel_rfl) ?_
  refine awd_q [(1, _)] (.cons rfl (.nil)) rfl rfl rfl ?_
  apply Exists.intro
  refine ⟨fun regs' => ?_, ?_⟩
  · skip
    first | refine awl_load_row ti70_LvD rfl rfl rfl rfl ?_ | refine x_irow ti70_LvD rfl rfl rfl rfl ?_
    exact awl_done rfl
  refine awd_q [] (.nil) rfl rfl rfl ?_
  apply Exists.intro
  refine ⟨fun regs' => ?_, ?_⟩
  · skip
    refine awl_pcall fb64_LvD rfl (nothing_con) .nil rfl ?_
    exact awl_done rfl
  refine awd_q [(3, _), (4, _)] (.cons rfl (.cons rfl (.nil))) rfl rfl rfl ?_
  apply Exists.intro
  refine ⟨fun regs' => ?_, ?_⟩
  · skip
    refine x_eqv eqv70_LvD rfl rfl rfl rfl rfl rfl rfl rfl ?_
    exact awl_done rfl
  refine awd_q [(5, _)] (.cons rfl (.nil)) rfl rfl rfl ?_
  apply Exists.intro
  refine ⟨fun regs' => ?_, ?_⟩
  · skip
    refine awl_assign rfl rfl ?_
    exact awl_done rfl
  refine awd_nil ?_
  change AWp _ _ _ _ _ _
  refine awp_ret ?_
  change Ends _ _ _ _ _ _
  refine ends1 [] rfl (.tmp rfl) ?_ rfl
  refine ⟨B_eq ?_, rfl⟩; cases f; simp [flat0]

end Go.Ab.Ytfgndomaadikoaa
