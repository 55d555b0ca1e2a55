/- A queue's copy. -/
import Derived.Test.YtnennmlpaijedaaQuF
import Derived.Test.YtnennmlpaijedaaAb31
set_option linter.unusedVariables false
set_option linter.unusedSimpArgs false
namespace Go.Ab.Ytnennmlpaijedaa
open Go Go.RowKit Go.Ab Go.Proofs

theorem si49_QuI : SI Try.prog 49 57 := ⟨Try.underlying49⟩
theorem ei57_QuI : EI Try.prog 57 3 24 := ⟨by kernel_rfl⟩
theorem hmo_QuI : Try.prog.follows .mixedOrders = true := by kernel_rfl
theorem fi51_0_QuI : FI Try.prog 51 0 0 := ⟨_, _, 0, Try.underlying51, rfl, rfl, by kernel_rfl⟩
theorem ti49_QuI : TI Try.prog 49 1 false := ⟨by kernel_rfl, by kernel_rfl⟩
theorem fb21_QuI : FB Try.prog 21 := ⟨_, Try.func21, rfl, by kernel_rfl⟩
theorem fi51_1_QuI : FI Try.prog 51 1 1 := ⟨_, _, 0, Try.underlying51, rfl, rfl, by kernel_rfl⟩
theorem ti3_QuI : TI Try.prog 3 1 false := ⟨by kernel_rfl, by kernel_rfl⟩
theorem bi51_QuI : BI Try.prog 51 [(0, 1), (1, 1)] := BI.mk' Try.underlying51 (by kernel_rfl)
theorem tz51_QuI : TZ Try.prog 51 [(.slice none 0 0), (.int .i64 0)] := ⟨⟨.agg #[(.slice none 0 0), (.int .i64 0)], by kernel_rfl, rfl⟩, by kernel_rfl⟩

theorem Clone_con (ver : Nat) (xs : List Ent) (hlen : xs.length ≤ 1000000) : Con Try.prog 21 [.tm 1001 ver] [(1001, qa ver xs)] (fun r o => r = .tm 5 1 ∧ o = [(5, qa 1 xs), (1001, qa ver xs)]) := by
  have hl := encE_len xs
  refine con_of Try.func21 rfl 8 Try.ntmps21 rfl fun cx hcx => ?_
  refine awp_seq ?_
  refine awp_region ?_
  refine awl_assign rfl rfl ?_
  refine awl_nil ?_
  change AWp _ _ _ _ _ _
  refine awp_seq ?_
  refine awp_seq ?_
  refine awp_region ?_
  refine awl_move rfl rfl ?_
  refine awl_tm_nil Try.underlying48 rfl rfl rfl rfl (fun bnil hnil => ?_)
  refine awl_nil ?_
  change AWp _ _ _ _ _ _
  first | refine awp_cond_p rfl (fun hz => ?_) (fun hz => ?_) | refine awp_cond rfl (fun hz => ?_) (fun hz => ?_)
  · skip
    refine awp_seq ?_
    refine awp_region ?_
    refine awl_assign rfl rfl ?_
    refine awl_nil ?_
    change AWp _ _ _ _ _ _
    refine awp_ret ?_
    change Ends _ _ _ _ _ _
    first | (refine ends1 [5, 1001] rfl (.tmp rfl) ?_ rfl; exact ⟨rfl, rfl⟩) | (have hx0 : xs = [] := (by have := hnil hz; simpa [encE] using this); subst hx0; refine ends_le (Le.nilMu 2 5 57 3 1 rfl rfl (by rw [hcx]; rfl)) ?_; refine ends1 [5, 1001] rfl (.tmp rfl) ?_ rfl; exact ⟨rfl, rfl⟩)
  · skip
    refine awp_skip ?_
    change AWp _ _ _ _ _ _
    refine awp_seq ?_
    refine awp_region ?_
    refine awl_slice_own si49_QuI ei57_QuI rfl rfl rfl rfl (by rw [hcx]; rfl) rfl ?_
    refine awl_le (Le.arMu (k := 5) rfl rfl) ?_
    refine awl_sub Sub.tstm ?_
    refine awl_move rfl rfl ?_
    first | refine x_append si49_QuI ei57_QuI rfl rfl (by first | rfl | simp) rfl rfl rfl (.inl rfl) rfl rfl (by simp; omega) (by simp; omega) ?_ | refine awl_append_nil si49_QuI ei57_QuI rfl rfl (by rw [hcx]; rfl) rfl rfl rfl (.inl rfl) (by simp; omega) (by simp; omega) rfl ?_ | refine awl_append_m si49_QuI ei57_QuI rfl rfl rfl rfl rfl rfl rfl (by simp; omega) (by simp; omega) ?_ | refine awl_append_m2 si49_QuI ei57_QuI rfl rfl rfl rfl rfl rfl rfl (by simp; omega) (by simp; omega) ?_
    refine awl_assign rfl rfl ?_
    refine awl_nil ?_
    change AWp _ _ _ _ _ _
    refine awp_ret ?_
    change Ends _ _ _ _ _ _
    first | (refine ends1 [5, 1001] rfl (.tmp rfl) ?_ rfl; exact ⟨rfl, rfl⟩) | (have hx0 : xs = [] := (by have := hnil hz; simpa [encE] using this); subst hx0; refine ends_le (Le.nilMu 2 5 57 3 1 rfl rfl (by rw [hcx]; rfl)) ?_; refine ends1 [5, 1001] rfl (.tmp rfl) ?_ rfl; exact ⟨rfl, rfl⟩)

theorem Copy_con (ver : Nat) (xs : List Ent) (n : Int) (hlen : xs.length ≤ 1000000) : Con Try.prog 14 [.ptr 1000 0] (qo ver xs n) (fun r o => r = .ptr 15 0 ∧ o = [(15, .ce 51 [.tm 5 1, .p (I n)]), (5, qa 1 xs), (1001, qa ver xs), (1000, qh ver n)]) := by
  refine con_of Try.func14 rfl 16 Try.ntmps14 rfl fun cx hcx => ?_
  refine awp_seq ?_
  refine awp_region ?_
  refine awl_assign rfl rfl ?_
  refine awl_nil ?_
  change AWp _ _ _ _ _ _
  refine awp_seq ?_
  refine awp_seq ?_
  refine awp_region ?_
  refine awl_move rfl rfl ?_
  first | refine awl_ptr_nil Try.underlying24 rfl rfl rfl ?_ | refine awl_bin rfl rfl rfl rfl (pointer_eql Try.underlying24) ?_
  refine awl_nil ?_
  change AWp _ _ _ _ _ _
  refine awp_cond_f (by first | exact rfl | exact decide_eq_true rfl | exact decide_eq_false rfl) rfl ?_
  refine awp_skip ?_
  change AWp _ _ _ _ _ _
  refine awp_seq ?_
  apply awp_drawS [4, 10] [10] [(4, 5)] ((fun (B : Obs) => oget [([], B), ([4], [(5, qa 1 xs), (1001, qa ver xs), (1000, qh ver n)]), ([4, 10], [(15, .ce 51 [.tm 5 1, .p (I n)]), (5, qa 1 xs), (1001, qa ver xs), (1000, qh ver n)])]) _)
  · rfl
  · rfl
  · exact hmo_QuI
  · kernel_rfl
  · rfl
  refine awd_s [[]] [(0, _)] (.cons rfl (.nil)) rfl rfl rfl (by kernel_rfl) ?_
  apply Exists.intro
  refine ⟨(⟨fun regs' => ?_, trivial⟩), ?_, ?_⟩
  · skip
    refine awl_move rfl rfl ?_
    exact awl_doneS rfl rfl
  · kernel_rfl
  refine awd_s [[]] [(5, _)] (.cons rfl (.nil)) rfl rfl rfl (by kernel_rfl) ?_
  apply Exists.intro
  refine ⟨(⟨fun regs' => ?_, trivial⟩), ?_, ?_⟩
  · skip
    refine awl_nilCheck rfl rfl rfl ?_
    exact awl_doneS rfl rfl
  · kernel_rfl
  refine awd_s [[]] [(6, _)] (.cons rfl (.nil)) rfl rfl rfl (by kernel_rfl) ?_
  apply Exists.intro
  refine ⟨(⟨fun regs' => ?_, trivial⟩), ?_, ?_⟩
  · skip
    first | refine awl_fieldAddr fi51_0_QuI rfl rfl ?_ | refine awl_fieldAddr_i fi51_0_QuI rfl rfl rfl ?_ | refine awl_field_m fi51_0_QuI rfl rfl rfl ?_
    exact awl_doneS rfl rfl
  · kernel_rfl
  refine awd_s [[]] [(7, _)] (.cons rfl (.nil)) rfl rfl rfl (by kernel_rfl) ?_
  apply Exists.intro
  refine ⟨(⟨fun regs' => ?_, trivial⟩), ?_, ?_⟩
  · skip
    first | refine awl_load_one ti49_QuI rfl rfl rfl rfl ?_ | refine awl_load_ione ti49_QuI rfl rfl rfl ?_ | refine awl_load_m1 ti49_QuI rfl rfl (by assumption) rfl rfl ?_
    exact awl_doneS rfl rfl
  · kernel_rfl
  refine awd_k 5 [[]] [(8, _)] (.cons rfl (.nil)) rfl rfl rfl (by kernel_rfl) rfl rfl ?_
  apply Exists.intro
  refine ⟨(⟨fun regs' hfr => ?_, trivial⟩), ?_, ?_⟩
  · skip
    refine x_call [1001] fb21_QuI rfl rfl rfl (Clone_con ver xs hlen) (.cons (by first | exact Sub.refl _ | exact Sub.ts | exact Sub.nil | exact Sub.agc (by repeat (first | exact .nil | refine .cons (by first | exact Sub.refl _ | exact Sub.nil) ?_))) .nil) rfl (fun r o ⟨e1, e2⟩ => ?_)
    subst e1 e2
    refine ⟨newOK_fresh hfr rfl (by rw [hcx]; rfl) (by rw [hcx]; rfl), _, rfl, ?_⟩
    exact awl_doneS rfl rfl
  · kernel_rfl
  refine awd_s [[4], []] [(0, _)] (.cons rfl (.nil)) rfl rfl rfl (by kernel_rfl) ?_
  apply Exists.intro
  refine ⟨(⟨fun regs' => ?_,⟨fun regs' => ?_, trivial⟩⟩), ?_, ?_⟩
  · skip
    refine awl_move rfl rfl ?_
    exact awl_doneS rfl rfl
  · skip
    refine awl_move rfl rfl ?_
    exact awl_doneS rfl rfl
  · kernel_rfl
  refine awd_s [[4], []] [(10, _)] (.cons rfl (.nil)) rfl rfl rfl (by kernel_rfl) ?_
  apply Exists.intro
  refine ⟨(⟨fun regs' => ?_,⟨fun regs' => ?_, trivial⟩⟩), ?_, ?_⟩
  · skip
    refine awl_nilCheck rfl rfl rfl ?_
    exact awl_doneS rfl rfl
  · skip
    refine awl_nilCheck rfl rfl rfl ?_
    exact awl_doneS rfl rfl
  · kernel_rfl
  refine awd_s [[4], []] [(11, _)] (.cons rfl (.nil)) rfl rfl rfl (by kernel_rfl) ?_
  apply Exists.intro
  refine ⟨(⟨fun regs' => ?_,⟨fun regs' => ?_, trivial⟩⟩), ?_, ?_⟩
  · skip
    first | refine awl_fieldAddr fi51_1_QuI rfl rfl ?_ | refine awl_fieldAddr_i fi51_1_QuI rfl rfl rfl ?_ | refine awl_field_m fi51_1_QuI rfl rfl rfl ?_
    exact awl_doneS rfl rfl
  · skip
    first | refine awl_fieldAddr fi51_1_QuI rfl rfl ?_ | refine awl_fieldAddr_i fi51_1_QuI rfl rfl rfl ?_ | refine awl_field_m fi51_1_QuI rfl rfl rfl ?_
    exact awl_doneS rfl rfl
  · kernel_rfl
  refine awd_s [[4], []] [(12, _)] (.cons rfl (.nil)) rfl rfl rfl (by kernel_rfl) ?_
  apply Exists.intro
  refine ⟨(⟨fun regs' => ?_,⟨fun regs' => ?_, trivial⟩⟩), ?_, ?_⟩
  · skip
    first | refine awl_load_one ti3_QuI rfl rfl rfl rfl ?_ | refine awl_load_ione ti3_QuI rfl rfl rfl ?_ | refine awl_load_m1 ti3_QuI rfl rfl (by assumption) rfl rfl ?_
    exact awl_doneS rfl rfl
  · skip
    first | refine awl_load_one ti3_QuI rfl rfl rfl rfl ?_ | refine awl_load_ione ti3_QuI rfl rfl rfl ?_ | refine awl_load_m1 ti3_QuI rfl rfl (by assumption) rfl rfl ?_
    exact awl_doneS rfl rfl
  · kernel_rfl
  refine awd_s [[4]] [(9, _), (13, _)] (.cons rfl (.cons rfl (.nil))) rfl rfl rfl (by kernel_rfl) ?_
  apply Exists.intro
  refine ⟨(⟨fun regs' => ?_, trivial⟩), ?_, ?_⟩
  · skip
    refine x_build bi51_QuI tz51_QuI rfl rfl rfl ?_
    exact awl_doneS rfl rfl
  · kernel_rfl
  refine awd_e [4] rfl rfl rfl (by kernel_rfl) rfl rfl ?_
  apply Exists.intro
  refine ⟨?_, ?_, ?_⟩
  · skip
    refine awl_box rfl rfl rfl rfl rfl (by rw [hcx]; rfl) rfl ?_
    exact awl_done rfl
  · kernel_rfl
  refine awd_s [[4, 10]] [(15, _)] (.cons rfl (.nil)) rfl rfl rfl (by kernel_rfl) ?_
  apply Exists.intro
  refine ⟨(⟨fun regs' => ?_, trivial⟩), ?_, ?_⟩
  · skip
    refine awl_assign rfl rfl ?_
    exact awl_doneS rfl rfl
  · kernel_rfl
  refine awd_endS ?_
  try dsimp only [putd]
  change AWp _ _ _ _ _ _
  refine awp_ret ?_
  change Ends _ _ _ _ _ _
  refine ends1 [15, 5, 1000, 1001] rfl (.tmp rfl) ?_ rfl
  exact ⟨rfl, rfl⟩

end Go.Ab.Ytnennmlpaijedaa
