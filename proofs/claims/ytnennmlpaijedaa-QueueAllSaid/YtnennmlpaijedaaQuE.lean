/- The queue: New, Push, Pop, Len; what nil answers. -/
import Derived.Test.YtnennmlpaijedaaQuD
set_option linter.unusedVariables false
set_option linter.unusedSimpArgs false
namespace Go.Ab.Ytnennmlpaijedaa
open Go Go.RowKit Go.Ab Go.Proofs

theorem bi51_QuE : BI Try.prog 51 [(0, 1), (1, 1)] := BI.mk' Try.underlying51 (by kernel_rfl)
theorem tz51_QuE : TZ Try.prog 51 [(.slice none 0 0), (.int .i64 0)] := ⟨⟨.agg #[(.slice none 0 0), (.int .i64 0)], by kernel_rfl, rfl⟩, by kernel_rfl⟩
theorem fi51_0_QuE : FI Try.prog 51 0 0 := ⟨_, _, 0, Try.underlying51, rfl, rfl, by kernel_rfl⟩
theorem ti49_QuE : TI Try.prog 49 1 false := ⟨by kernel_rfl, by kernel_rfl⟩
theorem si49_QuE : SI Try.prog 49 57 := ⟨Try.underlying49⟩
theorem fi51_1_QuE : FI Try.prog 51 1 1 := ⟨_, _, 0, Try.underlying51, rfl, rfl, by kernel_rfl⟩
theorem ti3_QuE : TI Try.prog 3 1 false := ⟨by kernel_rfl, by kernel_rfl⟩
theorem hmo_QuE : Try.prog.follows .mixedOrders = true := by kernel_rfl
theorem cc55_QuE : Try.prog.concrete 55 = true := by kernel_rfl
theorem ti35_QuE : TI Try.prog 35 2 true := ⟨by kernel_rfl, by kernel_rfl⟩
theorem bi57_QuE : BI Try.prog 57 [(0, 2), (2, 1)] := BI.mk' Try.underlying57 (by kernel_rfl)
theorem tz57_QuE : TZ Try.prog 57 [(.int .i64 0), (.int .i64 0), (.int .i64 0)] := ⟨⟨.agg #[(.int .i64 0), (.int .i64 0), (.int .i64 0)], by kernel_rfl, rfl⟩, by kernel_rfl⟩
theorem cc57_QuE : Try.prog.concrete 57 = true := by kernel_rfl
theorem fb16_QuE : FB Try.prog 16 := ⟨_, Try.func16, rfl, by kernel_rfl⟩
theorem tz35_QuE : TZ Try.prog 35 [(.int .i64 0), (.int .i64 0)] := ⟨⟨.agg #[(.int .i64 0), (.int .i64 0)], by kernel_rfl, rfl⟩, by kernel_rfl⟩
theorem ti57_QuE : TI Try.prog 57 3 true := ⟨by kernel_rfl, by kernel_rfl⟩
theorem fi57_0_QuE : FI Try.prog 57 0 0 := ⟨_, _, 1, Try.underlying57, rfl, rfl, by kernel_rfl⟩
theorem fb17_QuE : FB Try.prog 17 := ⟨_, Try.func17, rfl, by kernel_rfl⟩
theorem ti44_QuE : TI Try.prog 44 1 false := ⟨by kernel_rfl, by kernel_rfl⟩

theorem New_con : Con Try.prog 7 [] [] (fun r o => r = .ptr 2 0 ∧ o = [(2, qh 0 0), (1001, qa 0 [])]) := by
  refine con_of Try.func7 rfl 3 Try.ntmps7 rfl fun cx hcx => ?_
  refine awp_seq ?_
  refine awp_region ?_
  refine awl_assign rfl rfl ?_
  refine awl_nil ?_
  change AWp _ _ _ _ _ _
  refine awp_seq ?_
  refine awp_region ?_
  refine x_build bi51_QuE tz51_QuE rfl rfl rfl ?_
  refine awl_box rfl rfl rfl rfl rfl (by rw [hcx]; rfl) rfl ?_
  refine awl_le (Le.tokO (k0 := 2) (j := 0) 1001 57 3 rfl rfl rfl rfl rfl (by rw [hcx]; rfl)) ?_
  refine awl_le (Le.arMu (k := 1001) rfl rfl) ?_
  refine awl_le (Le.cell (q := 2) rfl (.cons Sub.tstm (.cons (Sub.refl _) .nil)) rfl rfl) ?_
  refine awl_le (Le.objs (objs' := [(2, qh 0 0), (1001, qa 0 [])]) (.cons rfl rfl (.cons rfl rfl .nil)) rfl) ?_
  refine awl_assign rfl rfl ?_
  refine awl_nil ?_
  change AWp _ _ _ _ _ _
  refine awp_ret ?_
  change Ends _ _ _ _ _ _
  refine ends1 [2, 1001] rfl (.tmp rfl) ?_ rfl
  exact ⟨rfl, rfl⟩

theorem QLen_con (ver : Nat) (xs : List Ent) (n : Int) : Con Try.prog 15 [.ptr 1000 0] (qo ver xs n) (fun r o => r = .p (I xs.length) ∧ o = qo ver xs n) := by
  have hl := encE_len xs
  refine con_of Try.func15 rfl 10 Try.ntmps15 rfl fun cx hcx => ?_
  refine awp_seq ?_
  refine awp_region ?_
  refine awl_assign rfl rfl ?_
  refine awl_nil ?_
  change AWp _ _ _ _ _ _
  refine awp_seq ?_
  refine awp_seq ?_
  refine awp_region ?_
  refine awl_move rfl rfl ?_
  first | refine awl_ptr_nil Try.underlying24 rfl rfl rfl ?_ | refine awl_bin rfl rfl rfl rfl (pointer_eql Try.underlying24) ?_
  refine awl_nil ?_
  change AWp _ _ _ _ _ _
  refine awp_cond_f (by first | exact rfl | exact decide_eq_true rfl | exact decide_eq_false rfl) rfl ?_
  refine awp_skip ?_
  change AWp _ _ _ _ _ _
  refine awp_seq ?_
  refine awp_region ?_
  refine awl_move rfl rfl ?_
  refine awl_nilCheck rfl rfl rfl ?_
  first | refine awl_fieldAddr fi51_0_QuE rfl rfl ?_ | refine awl_fieldAddr_i fi51_0_QuE rfl rfl rfl ?_ | refine awl_field_m fi51_0_QuE rfl rfl rfl ?_
  first | refine awl_load_one ti49_QuE rfl rfl rfl rfl ?_ | refine awl_load_ione ti49_QuE rfl rfl rfl ?_ | refine awl_load_m1 ti49_QuE rfl rfl (by assumption) rfl rfl ?_
  first | refine x_len si49_QuE rfl rfl rfl (fun hlen9 => ?_) | refine awl_len_m si49_QuE rfl rfl rfl (fun hlen9 => ?_)
  refine awl_assign rfl rfl ?_
  refine awl_nil ?_
  change AWp _ _ _ _ _ _
  refine awp_ret ?_
  change Ends _ _ _ _ _ _
  refine ends1 [1000, 1001] rfl (.tmp rfl) ?_ rfl
  exact ⟨by rw [hl], rfl⟩
theorem QLenNil_con : PCon Try.prog 15 [.p (.v (.pointer none))] (.p (I 0)) := by
  refine con_of Try.func15 rfl 10 Try.ntmps15 rfl fun cx hcx => ?_
  refine awp_seq ?_
  refine awp_region ?_
  refine awl_assign rfl rfl ?_
  refine awl_nil ?_
  change AWp _ _ _ _ _ _
  refine awp_seq ?_
  refine awp_seq ?_
  refine awp_region ?_
  refine awl_move rfl rfl ?_
  first | refine awl_ptr_nil Try.underlying24 rfl rfl rfl ?_ | refine awl_bin rfl rfl rfl rfl (pointer_eql Try.underlying24) ?_
  refine awl_nil ?_
  change AWp _ _ _ _ _ _
  refine awp_cond_t (by first | exact rfl | exact decide_eq_true rfl | exact decide_eq_false rfl) rfl ?_
  refine awp_seq ?_
  refine awp_region ?_
  refine awl_assign rfl rfl ?_
  refine awl_nil ?_
  change AWp _ _ _ _ _ _
  refine awp_ret ?_
  change Ends _ _ _ _ _ _
  refine ends1 [] rfl (.tmp rfl) ?_ rfl
  exact ⟨rfl, rfl⟩

theorem QPush_con (ver : Nat) (xs : List Ent) (n : Int) (wt nr : Int) (hlen : xs.length < 256) (hn0 : 0 ≤ n) (hn1 : n ≤ 1000000) : Con Try.prog 8 [.ptr 1000 0, .ag [.p (I wt), .p (I nr)]] (qo ver xs n)
    (fun r o => r = .p (I 0) ∧ o = qo (ver + 1) (upF (xs ++ [⟨wt, nr, n + 1⟩]) xs.length) (n + 1)) := by
  have hl := encE_len xs
  refine con_of Try.func8 rfl 34 Try.ntmps8 rfl fun cx hcx => ?_
  refine awp_seq ?_
  refine awp_region ?_
  refine awl_box rfl rfl rfl rfl rfl (by rw [hcx]; rfl) rfl ?_
  refine awl_assign rfl rfl ?_
  refine awl_nil ?_
  change AWp _ _ _ _ _ _
  refine awp_seq ?_
  refine awp_block ?_
  refine awp_seq ?_
  refine awp_region ?_
  refine awl_move rfl rfl ?_
  first | refine awl_ptr_nil Try.underlying24 rfl rfl rfl ?_ | refine awl_bin rfl rfl rfl rfl (pointer_eql Try.underlying24) ?_
  refine awl_assign rfl rfl ?_
  refine awl_nil ?_
  change AWp _ _ _ _ _ _
  refine awp_cond_f (by first | exact rfl | exact decide_eq_true rfl | exact decide_eq_false rfl) rfl ?_
  refine awp_seq ?_
  refine awp_region ?_
  refine awl_move rfl rfl ?_
  refine awl_nilCheck rfl rfl rfl ?_
  first | refine awl_fieldAddr fi51_0_QuE rfl rfl ?_ | refine awl_fieldAddr_i fi51_0_QuE rfl rfl rfl ?_ | refine awl_field_m fi51_0_QuE rfl rfl rfl ?_
  first | refine awl_load_one ti49_QuE rfl rfl rfl rfl ?_ | refine awl_load_ione ti49_QuE rfl rfl rfl ?_ | refine awl_load_m1 ti49_QuE rfl rfl (by assumption) rfl rfl ?_
  first | refine x_len si49_QuE rfl rfl rfl (fun hlen11 => ?_) | refine awl_len_m si49_QuE rfl rfl rfl (fun hlen11 => ?_)
  refine awl_bin rfl rfl rfl rfl bin_geq ?_
  refine awl_assign rfl rfl ?_
  refine awl_nil ?_
  change AWp _ _ _ _ _ _
  refine awp_cond_f (by first | exact (by omega : ¬ ((encE xs).length : Int) ≥ 256) | exact decide_eq_true (by omega : ¬ ((encE xs).length : Int) ≥ 256) | exact decide_eq_false (by omega : ¬ ((encE xs).length : Int) ≥ 256)) rfl ?_
  refine awp_skip ?_
  change AWp _ _ _ _ _ _
  refine awp_seq ?_
  refine awp_region ?_
  refine awl_move rfl rfl ?_
  refine awl_nilCheck rfl rfl rfl ?_
  first | refine awl_fieldAddr fi51_1_QuE rfl rfl ?_ | refine awl_fieldAddr_i fi51_1_QuE rfl rfl rfl ?_ | refine awl_field_m fi51_1_QuE rfl rfl rfl ?_
  first | refine awl_load_one ti3_QuE rfl rfl rfl rfl ?_ | refine awl_load_ione ti3_QuE rfl rfl rfl ?_ | refine awl_load_m1 ti3_QuE rfl rfl (by assumption) rfl rfl ?_
  first | refine awl_bin rfl rfl rfl rfl (bin_add_i (by omega)) ?_ | refine awl_bin rfl rfl rfl rfl bin_add ?_
  refine awl_nilCheck rfl rfl rfl ?_
  first | refine awl_fieldAddr fi51_1_QuE rfl rfl ?_ | refine awl_fieldAddr_i fi51_1_QuE rfl rfl rfl ?_ | refine awl_field_m fi51_1_QuE rfl rfl rfl ?_
  first | refine x_store ti3_QuE rfl rfl rfl rfl rfl rfl rfl rfl ?_ | refine awl_store_m ti3_QuE rfl rfl rfl (by first | omega | (simp; omega)) rfl rfl rfl rfl ?_
  refine awl_nil ?_
  change AWp _ _ _ _ _ _
  refine awp_seq ?_
  apply awp_drawS [11] [11] [] ((fun (B : Obs) => oget [([], B), ([11], [(1000, qh (ver + 1) (n + 1)), (1001, qa (ver + 1) (upF (xs ++ [⟨wt, nr, n + 1⟩]) xs.length)), (3, .ce 35 [.p (I wt), .p (I nr)])])]) _)
  · rfl
  · rfl
  · exact hmo_QuE
  · kernel_rfl
  · rfl
  refine awd_s [[]] [(0, _)] (.cons rfl (.nil)) rfl rfl rfl (by kernel_rfl) ?_
  apply Exists.intro
  refine ⟨(⟨fun regs' => ?_, trivial⟩), ?_, ?_⟩
  · skip
    refine awl_move rfl rfl ?_
    exact awl_doneS rfl rfl
  · kernel_rfl
  refine awd_s [[]] [(22, _)] (.cons rfl (.nil)) rfl rfl rfl (by kernel_rfl) ?_
  apply Exists.intro
  refine ⟨(⟨fun regs' => ?_, trivial⟩), ?_, ?_⟩
  · skip
    refine awl_nilCheck rfl rfl rfl ?_
    exact awl_doneS rfl rfl
  · kernel_rfl
  refine awd_s [[]] [(23, _)] (.cons rfl (.nil)) rfl rfl rfl (by kernel_rfl) ?_
  apply Exists.intro
  refine ⟨(⟨fun regs' => ?_, trivial⟩), ?_, ?_⟩
  · skip
    first | refine awl_fieldAddr fi51_0_QuE rfl rfl ?_ | refine awl_fieldAddr_i fi51_0_QuE rfl rfl rfl ?_ | refine awl_field_m fi51_0_QuE rfl rfl rfl ?_
    exact awl_doneS rfl rfl
  · kernel_rfl
  refine awd_s [[]] [(24, _)] (.cons rfl (.nil)) rfl rfl rfl (by kernel_rfl) ?_
  apply Exists.intro
  refine ⟨(⟨fun regs' => ?_, trivial⟩), ?_, ?_⟩
  · skip
    refine awl_mkifc cc55_QuE rfl rfl ?_
    exact awl_doneS rfl rfl
  · kernel_rfl
  refine awd_s [[]] [(3, _)] (.cons rfl (.nil)) rfl rfl rfl (by kernel_rfl) ?_
  apply Exists.intro
  refine ⟨(⟨fun regs' => ?_, trivial⟩), ?_, ?_⟩
  · skip
    first | refine awl_load_row ti35_QuE rfl rfl rfl rfl ?_ | refine x_irow ti35_QuE rfl rfl rfl rfl ?_ | refine awl_load_m ti35_QuE rfl rfl (by assumption) rfl rfl ?_
    exact awl_doneS rfl rfl
  · kernel_rfl
  refine awd_s [[]] [(0, _)] (.cons rfl (.nil)) rfl rfl rfl (by kernel_rfl) ?_
  apply Exists.intro
  refine ⟨(⟨fun regs' => ?_, trivial⟩), ?_, ?_⟩
  · skip
    refine awl_move rfl rfl ?_
    exact awl_doneS rfl rfl
  · kernel_rfl
  refine awd_s [[]] [(27, _)] (.cons rfl (.nil)) rfl rfl rfl (by kernel_rfl) ?_
  apply Exists.intro
  refine ⟨(⟨fun regs' => ?_, trivial⟩), ?_, ?_⟩
  · skip
    refine awl_nilCheck rfl rfl rfl ?_
    exact awl_doneS rfl rfl
  · kernel_rfl
  refine awd_s [[]] [(28, _)] (.cons rfl (.nil)) rfl rfl rfl (by kernel_rfl) ?_
  apply Exists.intro
  refine ⟨(⟨fun regs' => ?_, trivial⟩), ?_, ?_⟩
  · skip
    first | refine awl_fieldAddr fi51_1_QuE rfl rfl ?_ | refine awl_fieldAddr_i fi51_1_QuE rfl rfl rfl ?_ | refine awl_field_m fi51_1_QuE rfl rfl rfl ?_
    exact awl_doneS rfl rfl
  · kernel_rfl
  refine awd_s [[]] [(29, _)] (.cons rfl (.nil)) rfl rfl rfl (by kernel_rfl) ?_
  apply Exists.intro
  refine ⟨(⟨fun regs' => ?_, trivial⟩), ?_, ?_⟩
  · skip
    first | refine awl_load_one ti3_QuE rfl rfl rfl rfl ?_ | refine awl_load_ione ti3_QuE rfl rfl rfl ?_ | refine awl_load_m1 ti3_QuE rfl rfl (by assumption) rfl rfl ?_
    exact awl_doneS rfl rfl
  · kernel_rfl
  refine awd_s [[]] [(26, _), (30, _)] (.cons rfl (.cons rfl (.nil))) rfl rfl rfl (by kernel_rfl) ?_
  apply Exists.intro
  refine ⟨(⟨fun regs' => ?_, trivial⟩), ?_, ?_⟩
  · skip
    refine x_build bi57_QuE tz57_QuE rfl rfl rfl ?_
    exact awl_doneS rfl rfl
  · kernel_rfl
  refine awd_s [[]] [(31, _)] (.cons rfl (.nil)) rfl rfl rfl (by kernel_rfl) ?_
  apply Exists.intro
  refine ⟨(⟨fun regs' => ?_, trivial⟩), ?_, ?_⟩
  · skip
    refine awl_mkifc cc57_QuE rfl rfl ?_
    exact awl_doneS rfl rfl
  · kernel_rfl
  refine awd_e [] rfl rfl rfl (by kernel_rfl) rfl rfl ?_
  apply Exists.intro
  refine ⟨?_, ?_, ?_⟩
  · skip
    refine x_call [1000, 1001] fb16_QuE rfl rfl rfl (HPush_con ver xs (n + 1) ⟨wt, nr, n + 1⟩ (by omega)) (.cons (by first | exact Sub.refl _ | exact Sub.ts | exact Sub.nil | exact Sub.agc (by repeat (first | exact .nil | refine .cons (by first | exact Sub.refl _ | exact Sub.nil) ?_))) (.cons (by first | exact Sub.refl _ | exact Sub.ts | exact Sub.nil | exact Sub.agc (by repeat (first | exact .nil | refine .cons (by first | exact Sub.refl _ | exact Sub.nil) ?_))) .nil)) rfl (fun r o ⟨e1, e2⟩ => ?_)
    subst e1 e2
    refine ⟨by rw [hcx]; rfl, _, rfl, ?_⟩
    exact awl_done rfl
  · kernel_rfl
  refine awd_endS ?_
  try dsimp only [putd]
  change AWp _ _ _ _ _ _
  refine awp_seq ?_
  refine awp_region ?_
  refine awl_assign rfl rfl ?_
  refine awl_nil ?_
  change AWp _ _ _ _ _ _
  refine awp_ret ?_
  change Ends _ _ _ _ _ _
  refine ends1 [1000, 1001] rfl (.tmp rfl) ?_ rfl
  exact ⟨rfl, rfl⟩
theorem QPushNil_con (wt nr : Int) : PCon Try.prog 8 [.p (.v (.pointer none)), .ag [.p (I wt), .p (I nr)]] (.p (I 1)) := by
  refine con_of Try.func8 rfl 34 Try.ntmps8 rfl fun cx hcx => ?_
  refine awp_seq ?_
  refine awp_region ?_
  refine awl_box rfl rfl rfl rfl rfl (by rw [hcx]; rfl) rfl ?_
  refine awl_assign rfl rfl ?_
  refine awl_nil ?_
  change AWp _ _ _ _ _ _
  refine awp_seq ?_
  refine awp_block ?_
  refine awp_seq ?_
  refine awp_region ?_
  refine awl_move rfl rfl ?_
  first | refine awl_ptr_nil Try.underlying24 rfl rfl rfl ?_ | refine awl_bin rfl rfl rfl rfl (pointer_eql Try.underlying24) ?_
  refine awl_assign rfl rfl ?_
  refine awl_nil ?_
  change AWp _ _ _ _ _ _
  refine awp_cond_t (by first | exact rfl | exact decide_eq_true rfl | exact decide_eq_false rfl) rfl ?_
  refine awp_seq ?_
  refine awp_region ?_
  refine awl_assign rfl rfl ?_
  refine awl_nil ?_
  change AWp _ _ _ _ _ _
  refine awp_ret ?_
  change Ends _ _ _ _ _ _
  refine ends1 [] rfl (.tmp rfl) ?_ rfl
  exact ⟨rfl, rfl⟩

theorem QPop_con (ver : Nat) (xs : List Ent) (n : Int) (hx : 0 < xs.length) (hlen : xs.length ≤ 1000000) : Con Try.prog 9 [.ptr 1000 0] (qo ver xs n)
    (fun r o => r = .tp [.ag [.p (I (xs.getD 0 e0).w), .p (I (xs.getD 0 e0).n)], .p (I 0)] ∧ o = qo (ver + 1) (popF xs) n) := by
  have hl := encE_len xs
  have hr0 : (encE xs)[(0 : Int).toNat]? = some (rowE (xs.getD 0 e0)) := encE_at hx
  refine con_of Try.func9 rfl 30 Try.ntmps9 rfl fun cx hcx => ?_
  refine awp_seq ?_
  refine awp_region ?_
  refine x_alloc tz35_QuE rfl rfl (by rw [hcx]; rfl) rfl ?_
  refine awl_assign rfl rfl ?_
  refine awl_nil ?_
  change AWp _ _ _ _ _ _
  refine awp_seq ?_
  refine awp_block ?_
  refine awp_seq ?_
  refine awp_region ?_
  refine awl_move rfl rfl ?_
  first | refine awl_ptr_nil Try.underlying24 rfl rfl rfl ?_ | refine awl_bin rfl rfl rfl rfl (pointer_eql Try.underlying24) ?_
  refine awl_assign rfl rfl ?_
  refine awl_nil ?_
  change AWp _ _ _ _ _ _
  refine awp_cond_f (by first | exact rfl | exact decide_eq_true rfl | exact decide_eq_false rfl) rfl ?_
  refine awp_seq ?_
  refine awp_region ?_
  refine awl_move rfl rfl ?_
  refine awl_nilCheck rfl rfl rfl ?_
  first | refine awl_fieldAddr fi51_0_QuE rfl rfl ?_ | refine awl_fieldAddr_i fi51_0_QuE rfl rfl rfl ?_ | refine awl_field_m fi51_0_QuE rfl rfl rfl ?_
  first | refine awl_load_one ti49_QuE rfl rfl rfl rfl ?_ | refine awl_load_ione ti49_QuE rfl rfl rfl ?_ | refine awl_load_m1 ti49_QuE rfl rfl (by assumption) rfl rfl ?_
  first | refine x_len si49_QuE rfl rfl rfl (fun hlen11 => ?_) | refine awl_len_m si49_QuE rfl rfl rfl (fun hlen11 => ?_)
  refine awl_bin rfl rfl rfl rfl bin_eql ?_
  refine awl_assign rfl rfl ?_
  refine awl_nil ?_
  change AWp _ _ _ _ _ _
  refine awp_cond_f (by first | exact (by omega : ¬ ((encE xs).length : Int) = 0) | exact decide_eq_true (by omega : ¬ ((encE xs).length : Int) = 0) | exact decide_eq_false (by omega : ¬ ((encE xs).length : Int) = 0)) rfl ?_
  refine awp_skip ?_
  change AWp _ _ _ _ _ _
  refine awp_seq ?_
  refine awp_region ?_
  refine awl_move rfl rfl ?_
  refine awl_nilCheck rfl rfl rfl ?_
  first | refine awl_fieldAddr fi51_0_QuE rfl rfl ?_ | refine awl_fieldAddr_i fi51_0_QuE rfl rfl rfl ?_ | refine awl_field_m fi51_0_QuE rfl rfl rfl ?_
  first | refine awl_load_one ti49_QuE rfl rfl rfl rfl ?_ | refine awl_load_ione ti49_QuE rfl rfl rfl ?_ | refine awl_load_m1 ti49_QuE rfl rfl (by assumption) rfl rfl ?_
  refine awl_index_m si49_QuE ti57_QuE rfl rfl rfl (by omega) (by first | omega | (simp; omega)) rfl ?_
  first | refine awl_fieldAddr fi57_0_QuE rfl rfl ?_ | refine awl_fieldAddr_i fi57_0_QuE rfl rfl rfl ?_ | refine awl_field_m fi57_0_QuE rfl rfl rfl ?_
  first | refine awl_load_row ti35_QuE rfl rfl rfl rfl ?_ | refine x_irow ti35_QuE rfl rfl rfl rfl ?_ | refine awl_load_m ti35_QuE rfl rfl hr0 rfl rfl ?_
  refine x_alloc tz35_QuE rfl rfl (by rw [hcx]; rfl) rfl ?_
  first | refine x_store ti35_QuE rfl rfl rfl rfl rfl rfl rfl rfl ?_ | refine awl_store_m ti35_QuE rfl rfl rfl (by first | omega | (simp; omega)) rfl rfl rfl rfl ?_
  refine awl_nil ?_
  change AWp _ _ _ _ _ _
  refine awp_seq ?_
  refine awp_region ?_
  refine awl_move rfl rfl ?_
  refine awl_nilCheck rfl rfl rfl ?_
  first | refine awl_fieldAddr fi51_0_QuE rfl rfl ?_ | refine awl_fieldAddr_i fi51_0_QuE rfl rfl rfl ?_ | refine awl_field_m fi51_0_QuE rfl rfl rfl ?_
  refine awl_mkifc cc55_QuE rfl rfl ?_
  refine x_call [1000, 1001] fb17_QuE rfl rfl rfl (HPop_con ver xs n hx hlen) (.cons (by first | exact Sub.refl _ | exact Sub.ts | exact Sub.nil | exact Sub.agc (by repeat (first | exact .nil | refine .cons (by first | exact Sub.refl _ | exact Sub.nil) ?_))) .nil) rfl (fun r o ⟨e1, e2⟩ => ?_)
  subst e1 e2
  refine ⟨by rw [hcx]; rfl, _, rfl, ?_⟩
  refine awl_nil ?_
  change AWp _ _ _ _ _ _
  refine awp_seq ?_
  refine awp_region ?_
  first | refine awl_load_row ti35_QuE rfl rfl rfl rfl ?_ | refine x_irow ti35_QuE rfl rfl rfl rfl ?_ | refine awl_load_m ti35_QuE rfl rfl (by assumption) rfl rfl ?_
  first | refine x_store ti35_QuE rfl rfl rfl rfl rfl rfl rfl rfl ?_ | refine awl_store_m ti35_QuE rfl rfl rfl (by first | omega | (simp; omega)) rfl rfl rfl rfl ?_
  refine awl_assign rfl rfl ?_
  refine awl_nil ?_
  change AWp _ _ _ _ _ _
  refine awp_ret ?_
  change Ends _ _ _ _ _ _
  refine ends2 [1000, 1001] rfl (.row ti35_QuE rfl rfl rfl) (.tmp rfl) ?_ rfl
  exact ⟨rfl, rfl⟩

theorem DropNil_con (ver : Nat) (xs : List Ent) (n : Int) : Con Try.prog 12 [.ptr 1000 0, .p (.v .nilFunc)] (qo ver xs n) (fun r o => r = .p (I 0) ∧ o = qo ver xs n) := by
  refine con_of Try.func12 rfl 38 Try.ntmps12 rfl fun cx hcx => ?_
  refine awp_seq ?_
  refine awp_region ?_
  refine awl_box rfl rfl rfl rfl rfl (by rw [hcx]; rfl) rfl ?_
  refine awl_assign rfl rfl ?_
  refine awl_nil ?_
  change AWp _ _ _ _ _ _
  refine awp_seq ?_
  refine awp_seq ?_
  refine awp_region ?_
  refine awl_move rfl rfl ?_
  first | refine awl_ptr_nil Try.underlying24 rfl rfl rfl ?_ | refine awl_bin rfl rfl rfl rfl (pointer_eql Try.underlying24) ?_
  refine awl_move rfl rfl ?_
  refine awl_guard_yes rfl (by first | exact rfl | exact decide_eq_true rfl | exact decide_eq_false rfl) rfl rfl ?_
  first | refine awl_load_one ti44_QuE rfl rfl rfl rfl ?_ | refine awl_load_ione ti44_QuE rfl rfl rfl ?_ | refine awl_load_m1 ti44_QuE rfl rfl (by assumption) rfl rfl ?_
  refine awl_guard_yes rfl (by first | exact rfl | exact decide_eq_true rfl | exact decide_eq_false rfl) rfl rfl ?_
  first | refine awl_fv_nil Try.underlying44 rfl rfl rfl ?_ | refine awl_bin rfl rfl rfl rfl (func_nil Try.underlying44) ?_
  refine awl_pick_f (by first | exact rfl | exact decide_eq_true rfl | exact decide_eq_false rfl) rfl rfl rfl ?_
  refine awl_nil ?_
  change AWp _ _ _ _ _ _
  refine awp_cond_t (by first | exact rfl | exact decide_eq_true rfl | exact decide_eq_false rfl) rfl ?_
  refine awp_seq ?_
  refine awp_region ?_
  refine awl_assign rfl rfl ?_
  refine awl_nil ?_
  change AWp _ _ _ _ _ _
  refine awp_ret ?_
  change Ends _ _ _ _ _ _
  refine ends1 [1000, 1001] rfl (.tmp rfl) ?_ rfl
  exact ⟨rfl, rfl⟩
theorem CopyNil_con : PCon Try.prog 14 [.p (.v (.pointer none))] (.p (.v (.pointer none))) := by
  refine con_of Try.func14 rfl 16 Try.ntmps14 rfl fun cx hcx => ?_
  refine awp_seq ?_
  refine awp_region ?_
  refine awl_assign rfl rfl ?_
  refine awl_nil ?_
  change AWp _ _ _ _ _ _
  refine awp_seq ?_
  refine awp_seq ?_
  refine awp_region ?_
  refine awl_move rfl rfl ?_
  first | refine awl_ptr_nil Try.underlying24 rfl rfl rfl ?_ | refine awl_bin rfl rfl rfl rfl (pointer_eql Try.underlying24) ?_
  refine awl_nil ?_
  change AWp _ _ _ _ _ _
  refine awp_cond_t (by first | exact rfl | exact decide_eq_true rfl | exact decide_eq_false rfl) rfl ?_
  refine awp_seq ?_
  refine awp_region ?_
  refine awl_assign rfl rfl ?_
  refine awl_nil ?_
  change AWp _ _ _ _ _ _
  refine awp_ret ?_
  change Ends _ _ _ _ _ _
  refine ends1 [] rfl (.tmp rfl) ?_ rfl
  exact ⟨rfl, rfl⟩

end Go.Ab.Ytnennmlpaijedaa
