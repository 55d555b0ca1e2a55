/- The law QueueAll: its walk. -/
import Derived.Test.YtnennmlpaijedaaQuG
import Derived.Test.YtnennmlpaijedaaQuI
import Derived.Test.YtnennmlpaijedaaQuN
import Derived.Test.YtnennmlpaijedaaAb34
set_option linter.unusedVariables false
set_option linter.unusedSimpArgs false
namespace Go.Ab.Ytnennmlpaijedaa
open Go Go.RowKit Go.Ab Go.Proofs

theorem fb6_QuO : FB Try.prog 6 := ⟨_, Try.func6, rfl, by kernel_rfl⟩
theorem si22_QuO : SI Try.prog 22 31 := ⟨Try.underlying22⟩
theorem fb7_QuO : FB Try.prog 7 := ⟨_, Try.func7, rfl, by kernel_rfl⟩
theorem bi29_QuO : BI Try.prog 29 [(0, 1)] := BI.mk' Try.underlying29 (by kernel_rfl)
theorem tz29_QuO : TZ Try.prog 29 [(.slice none 0 0)] := ⟨⟨.agg #[(.slice none 0 0)], by kernel_rfl, rfl⟩, by kernel_rfl⟩
theorem ti31_QuO : TI Try.prog 31 3 true := ⟨by kernel_rfl, by kernel_rfl⟩
theorem tz31_QuO : TZ Try.prog 31 [(.int .i64 0), (.int .i64 0), (.int .i64 0)] := ⟨⟨.agg #[(.int .i64 0), (.int .i64 0), (.int .i64 0)], by kernel_rfl, rfl⟩, by kernel_rfl⟩
theorem fi31_0_QuO : FI Try.prog 31 0 0 := ⟨_, _, 0, Try.underlying31, rfl, rfl, by kernel_rfl⟩
theorem ti3_QuO : TI Try.prog 3 1 false := ⟨by kernel_rfl, by kernel_rfl⟩
theorem fi31_1_QuO : FI Try.prog 31 1 1 := ⟨_, _, 0, Try.underlying31, rfl, rfl, by kernel_rfl⟩
theorem fi31_2_QuO : FI Try.prog 31 2 2 := ⟨_, _, 0, Try.underlying31, rfl, rfl, by kernel_rfl⟩
theorem bi35_QuO : BI Try.prog 35 [(0, 1), (1, 1)] := BI.mk' Try.underlying35 (by kernel_rfl)
theorem tz35_QuO : TZ Try.prog 35 [(.int .i64 0), (.int .i64 0)] := ⟨⟨.agg #[(.int .i64 0), (.int .i64 0)], by kernel_rfl, rfl⟩, by kernel_rfl⟩
theorem fb8_QuO : FB Try.prog 8 := ⟨_, Try.func8, rfl, by kernel_rfl⟩
theorem fi29_0_QuO : FI Try.prog 29 0 0 := ⟨_, _, 0, Try.underlying29, rfl, rfl, by kernel_rfl⟩
theorem ti27_QuO : TI Try.prog 27 1 false := ⟨by kernel_rfl, by kernel_rfl⟩
theorem si27_QuO : SI Try.prog 27 36 := ⟨Try.underlying27⟩
theorem hmo_QuO : Try.prog.follows .mixedOrders = true := by kernel_rfl
theorem bi36_QuO : BI Try.prog 36 [(0, 1), (1, 1)] := BI.mk' Try.underlying36 (by kernel_rfl)
theorem tz36_QuO : TZ Try.prog 36 [(.int .i64 0), (.int .i64 0)] := ⟨⟨.agg #[(.int .i64 0), (.int .i64 0)], by kernel_rfl, rfl⟩, by kernel_rfl⟩
theorem ei36_QuO : EI Try.prog 36 2 16 := ⟨by kernel_rfl⟩
theorem fb15_QuO : FB Try.prog 15 := ⟨_, Try.func15, rfl, by kernel_rfl⟩
theorem fb9_QuO : FB Try.prog 9 := ⟨_, Try.func9, rfl, by kernel_rfl⟩
theorem ti35_QuO : TI Try.prog 35 2 true := ⟨by kernel_rfl, by kernel_rfl⟩
theorem fb10_QuO : FB Try.prog 10 := ⟨_, Try.func10, rfl, by kernel_rfl⟩
theorem fb11_QuO : FB Try.prog 11 := ⟨_, Try.func11, rfl, by kernel_rfl⟩
theorem ti36_QuO : TI Try.prog 36 2 true := ⟨by kernel_rfl, by kernel_rfl⟩
theorem fi35_0_QuO : FI Try.prog 35 0 0 := ⟨_, _, 0, Try.underlying35, rfl, rfl, by kernel_rfl⟩
theorem fi36_0_QuO : FI Try.prog 36 0 0 := ⟨_, _, 0, Try.underlying36, rfl, rfl, by kernel_rfl⟩
theorem fi35_1_QuO : FI Try.prog 35 1 1 := ⟨_, _, 0, Try.underlying35, rfl, rfl, by kernel_rfl⟩
theorem fi36_1_QuO : FI Try.prog 36 1 1 := ⟨_, _, 0, Try.underlying36, rfl, rfl, by kernel_rfl⟩
theorem eq35_QuO : EqI Try.prog 35 2 := ⟨⟨_, rfl, Try.underlying35, by kernel_rfl⟩, by kernel_rfl, by kernel_rfl⟩
theorem bi42_QuO : BI Try.prog 42 [(0, 1)] := BI.mk' Try.underlying42 (by kernel_rfl)
theorem tz42_QuO : TZ Try.prog 42 [(.int .i64 0)] := ⟨⟨.agg #[(.int .i64 0)], by kernel_rfl, rfl⟩, by kernel_rfl⟩
theorem ti42_QuO : TI Try.prog 42 1 true := ⟨by kernel_rfl, by kernel_rfl⟩
theorem fb12_QuO : FB Try.prog 12 := ⟨_, Try.func12, rfl, by kernel_rfl⟩
theorem fb13_QuO : FB Try.prog 13 := ⟨_, Try.func13, rfl, by kernel_rfl⟩
theorem fb14_QuO : FB Try.prog 14 := ⟨_, Try.func14, rfl, by kernel_rfl⟩

abbrev Op3 := Int × Int × Int
def rowO (o : Op3) : List PV := [I o.1, I o.2.1, I o.2.2]
def encO (l : List Op3) : List (List PV) := l.map rowO
@[simp] theorem encO_len (l : List Op3) : (encO l).length = l.length := by simp [encO]
def o0 : Op3 := (0, 0, 0)
theorem encO_at {l : List Op3} {i : Int} (h0 : 0 ≤ i) (h : i < l.length) : rowAt (encO l) i = rowO (l.getD i.toNat o0) := by
  have : i.toNat < l.length := by omega
  unfold rowAt; simp [encO, this]
theorem tm5 (n : Int) : -5 < n.tmod 5 ∧ n.tmod 5 < 5 := by
  rcases Int.le_total 0 n with h | h
  · rw [Int.tmod_eq_emod_of_nonneg h]; omega
  · have e : n = -(-n) := by omega
    rw [e, Int.neg_tmod, Int.tmod_eq_emod_of_nonneg (by omega)]; omega

theorem QPopX_con (ver : Nat) (xs : List Ent) (n : Int) (hlen : xs.length ≤ 1000000) : Con Try.prog 9 [.ptr 1000 0] (qo ver xs n) (fun r o => (∃ a b c, r = .tp [.ag [.p (I a), .p (I b)], .p (I c)]) ∧ ∃ v ys, o = qo v ys n) := by
  rcases Nat.eq_zero_or_pos xs.length with h | h
  · obtain rfl := List.eq_nil_of_length_eq_zero h
    exact (QPop0_con ver n).mono fun r o ⟨e1, e2⟩ => ⟨⟨_, _, _, e1⟩, _, _, e2⟩
  · exact (QPop_con ver xs n h hlen).mono fun r o ⟨e1, e2⟩ => ⟨⟨_, _, _, e1⟩, _, _, e2⟩

structure QI (m i : Nat) (H M : List Ent) (n : Int) : Prop where
  le : i ≤ m
  rel : RelI H M n
  n0 : 0 ≤ n
  ni : n ≤ i
  h256 : H.length ≤ 256

theorem QueueAll_con (ops : List Op3) : PCon Try.prog 3 [.p (.sl 3 (encO ops))] (.p (B true)) := by
  have hol := encO_len ops
  refine con_of Try.func3 rfl 205 Try.ntmps3 rfl fun cx hcx => ?_
  refine awp_seq ?_
  refine awp_region ?_
  refine awl_assign rfl rfl ?_
  refine awl_nil ?_
  change AWp _ _ _ _ _ _
  refine awp_seq ?_
  refine awp_seq ?_
  refine awp_region ?_
  refine awl_pcall fb6_QuO rfl (begun_con) .nil rfl ?_
  first | refine awl_un rfl rfl rfl un_notd ?_ | refine awl_un rfl rfl rfl un_not ?_
  refine awl_nil ?_
  change AWp _ _ _ _ _ _
  refine awp_cond_f (by first | exact rfl | exact decide_eq_true rfl | exact decide_eq_false rfl) rfl ?_
  refine awp_skip ?_
  change AWp _ _ _ _ _ _
  refine awp_seq ?_
  refine awp_seq ?_
  refine awp_region ?_
  refine awl_move rfl rfl ?_
  first | refine x_len si22_QuO rfl rfl rfl (fun hlen5 => ?_) | refine awl_len_m si22_QuO rfl rfl rfl (fun hlen5 => ?_)
  refine awl_bin rfl rfl rfl rfl bin_gtr ?_
  refine awl_nil ?_
  change AWp _ _ _ _ _ _
  first | refine awp_cond_p rfl (fun hm1 => ?_) (fun hm1 => ?_) | refine awp_cond rfl (fun hm1 => ?_) (fun hm1 => ?_)
  · skip
    refine awp_seq ?_
    refine awp_region ?_
    refine awl_assign rfl rfl ?_
    refine awl_nil ?_
    change AWp _ _ _ _ _ _
    refine awp_ret ?_
    change Ends _ _ _ _ _ _
    refine ends1 [] rfl (.tmp rfl) ?_ rfl
    exact ⟨rfl, rfl⟩
  · skip
    refine awp_skip ?_
    change AWp _ _ _ _ _ _
    refine awp_seq ?_
    refine awp_region ?_
    refine x_call [] fb7_QuO rfl rfl rfl (New_con.sw 2 1000) .nil rfl (fun r o ⟨_, _, ⟨e1, e2⟩, e3, e4⟩ => ?_)
    subst e1 e2 e3 e4
    refine ⟨by rw [hcx]; rfl, _, rfl, ?_⟩
    refine awl_le (Le.objs (objs' := [(1000, qh 0 0), (1001, qa 0 [])]) (.cons rfl rfl (.cons rfl rfl .nil)) rfl) ?_
    refine awl_sub (y := .ptr 1000 0) (Sub.eq rfl) ?_
    refine x_build bi29_QuO tz29_QuO rfl rfl rfl ?_
    refine awl_box rfl rfl rfl rfl rfl (by rw [hcx]; rfl) rfl ?_
    refine awl_le (Le.tokO (k0 := 24) (j := 0) 2001 36 2 rfl rfl rfl rfl rfl (by rw [hcx]; rfl)) ?_
    refine awl_assign rfl rfl ?_
    refine awl_assign rfl rfl ?_
    refine awl_nil ?_
    change AWp _ _ _ _ _ _
    refine awp_seq ?_
    refine awp_seq ?_
    refine awp_region ?_
    refine awl_assign rfl rfl ?_
    refine awl_nil ?_
    change AWp _ _ _ _ _ _
    refine awp_block ?_
    refine x_loop [(0, _)] [] (fun x : Nat × List Ent × List Ent × Int × Nat => [(5, .p (I x.1)), (3, .ptr 1000 0), (4, .ptr 24 0)]) (fun x => [(1000, qh x.2.2.2.2 x.2.2.2.1), (1001, qa x.2.2.2.2 x.2.1), (24, .ce 29 [.ts 2001 2 (encR x.2.2.1)]), (2001, .ar 36 2 x.2.2.1.length)]) (fun x => QI ops.length x.1 x.2.1 x.2.2.1 x.2.2.2.1) (fun x => ops.length - x.1) (0, [], [], 0, 0) (Le.mk (.cons rfl (by first | exact Sub.refl _ | exact Sub.ts | exact Sub.nil | (refine Sub.eq ?_; first | (simp; done) | (simp; omega))) (.cons rfl (by first | exact Sub.refl _ | exact Sub.ts | exact Sub.nil | (refine Sub.eq ?_; first | (simp; done) | (simp; omega))) (.cons rfl (by first | exact Sub.refl _ | exact Sub.ts | exact Sub.nil | (refine Sub.eq ?_; first | (simp; done) | (simp; omega))) (.cons rfl (by first | exact Sub.refl _ | exact Sub.ts | exact Sub.nil | (refine Sub.eq ?_; first | (simp; done) | (simp; omega))) (.nil))))) (.cons rfl (by first | rfl | (simp; done) | (simp [encR, rowR]; done)) (.cons rfl (by first | rfl | (simp; done) | (simp [encR, rowR]; done)) (.cons rfl (by first | rfl | (simp; done) | (simp [encR, rowR]; done)) (.cons rfl (by first | rfl | (simp; done) | (simp [encR, rowR]; done)) (.nil))))) rfl) ⟨Nat.zero_le _, RelI.start, Int.le_refl _, Int.le_refl _, Nat.zero_le _⟩ (fun x hx => ?_)
    obtain ⟨i, H, M, n, ver⟩ := x
    have hI : QI ops.length i H M n := hx
    have hi2 := hI.le
    have hml := encR_len M
    have hmh := hI.rel.len
    have hm256 := hI.h256
    dsimp only [List.cons_append, List.nil_append]
    refine awp_seq ?_
    refine awp_seq ?_
    refine awp_region ?_
    refine awl_move rfl rfl ?_
    refine awl_move rfl rfl ?_
    first | refine x_len si22_QuO rfl rfl rfl (fun hlen17 => ?_) | refine awl_len_m si22_QuO rfl rfl rfl (fun hlen17 => ?_)
    refine awl_bin rfl rfl rfl rfl bin_lss ?_
    refine awl_nil ?_
    change AWp _ _ _ _ _ _
    first | refine awp_cond_p rfl (fun hc => ?_) (fun hc => ?_) | refine awp_cond rfl (fun hc => ?_) (fun hc => ?_)
    · skip
      have hrow := encO_at (l := ops) (i := (i : Int)) (by omega) (by omega)
      generalize ops.getD (i : Int).toNat o0 = op at hrow
      obtain ⟨ko, wo, no⟩ := op
      simp only [rowO] at hrow
      have ht5 := tm5 ko
      have ht4 := tm4 wo
      refine awp_skip ?_
      change AWp _ _ _ _ _ _
      refine awp_seq ?_
      refine awp_block ?_
      refine awp_seq ?_
      refine awp_region ?_
      refine awl_move rfl rfl ?_
      refine awl_move rfl rfl ?_
      refine x_index si22_QuO ti31_QuO rfl rfl rfl rfl (by omega) (by first | omega | (simp only [List.length_map]; omega) | (simp; omega)) (by exact hrow) rfl ?_
      first | refine awl_load_row ti31_QuO rfl rfl rfl rfl ?_ | refine x_irow ti31_QuO rfl rfl rfl rfl ?_ | refine awl_load_m ti31_QuO rfl rfl (by assumption) rfl rfl ?_
      refine x_alloc tz31_QuO rfl rfl (by rw [hcx]; rfl) rfl ?_
      first | refine x_store ti31_QuO rfl rfl rfl rfl rfl rfl rfl rfl ?_ | refine awl_store_m ti31_QuO rfl rfl rfl (by first | omega | (simp; omega)) rfl rfl rfl rfl ?_
      refine awl_nil ?_
      change AWp _ _ _ _ _ _
      refine awp_seq ?_
      refine awp_seq ?_
      refine awp_region ?_
      first | refine awl_fieldAddr fi31_0_QuO rfl rfl ?_ | refine awl_fieldAddr_i fi31_0_QuO rfl rfl rfl ?_ | refine awl_field_m fi31_0_QuO rfl rfl rfl ?_
      first | refine awl_load_one ti3_QuO rfl rfl rfl rfl ?_ | refine awl_load_ione ti3_QuO rfl rfl rfl ?_ | refine awl_load_m1 ti3_QuO rfl rfl (by assumption) rfl rfl ?_
      refine awl_bin rfl rfl rfl rfl (bin_remt (by decide)) ?_
      first | refine awl_bin rfl rfl rfl rfl (bin_add_i (by omega)) ?_ | refine awl_bin rfl rfl rfl rfl bin_add ?_
      refine awl_bin rfl rfl rfl rfl (bin_rem (by omega)) ?_
      refine awl_nil ?_
      change AWp _ _ _ _ _ _
      refine awp_block ?_
      refine awp_seq ?_
      refine awp_seq ?_
      refine awp_region ?_
      refine awl_bin rfl rfl rfl rfl bin_eql ?_
      refine awl_assign rfl rfl ?_
      refine awl_nil ?_
      change AWp _ _ _ _ _ _
      first | refine awp_cond_p rfl (fun c0 => ?_) (fun c0 => ?_) | refine awp_cond rfl (fun c0 => ?_) (fun c0 => ?_)
      · skip
        rcases Nat.lt_or_ge M.length 256 with hful | hful
        · skip
          refine awp_skip ?_
          change AWp _ _ _ _ _ _
          refine awp_cond_t (by first | exact c0 | exact decide_eq_true c0 | exact decide_eq_false c0) rfl ?_
          refine awp_seq ?_
          refine awp_region ?_
          refine awl_move rfl rfl ?_
          first | refine awl_fieldAddr fi31_1_QuO rfl rfl ?_ | refine awl_fieldAddr_i fi31_1_QuO rfl rfl rfl ?_ | refine awl_field_m fi31_1_QuO rfl rfl rfl ?_
          first | refine awl_load_one ti3_QuO rfl rfl rfl rfl ?_ | refine awl_load_ione ti3_QuO rfl rfl rfl ?_ | refine awl_load_m1 ti3_QuO rfl rfl (by assumption) rfl rfl ?_
          first | refine awl_fieldAddr fi31_2_QuO rfl rfl ?_ | refine awl_fieldAddr_i fi31_2_QuO rfl rfl rfl ?_ | refine awl_field_m fi31_2_QuO rfl rfl rfl ?_
          first | refine awl_load_one ti3_QuO rfl rfl rfl rfl ?_ | refine awl_load_ione ti3_QuO rfl rfl rfl ?_ | refine awl_load_m1 ti3_QuO rfl rfl (by assumption) rfl rfl ?_
          refine x_build bi35_QuO tz35_QuO rfl rfl rfl ?_
          refine x_call [1000, 1001] fb8_QuO rfl rfl rfl (QPush_con ver H n wo no (by have := hI.rel.len; omega) hI.n0 (by have := hI.ni; omega)) (.cons (by first | exact Sub.refl _ | exact Sub.ts | exact Sub.nil | exact Sub.agc (by repeat (first | exact .nil | refine .cons (by first | exact Sub.refl _ | exact Sub.nil) ?_))) (.cons (by first | exact Sub.refl _ | exact Sub.ts | exact Sub.nil | exact Sub.agc (by repeat (first | exact .nil | refine .cons (by first | exact Sub.refl _ | exact Sub.nil) ?_))) .nil)) rfl (fun r o ⟨e1, e2⟩ => ?_)
          subst e1 e2
          refine ⟨by rw [hcx]; rfl, _, rfl, ?_⟩
          refine awl_assign rfl rfl ?_
          refine awl_nil ?_
          change AWp _ _ _ _ _ _
          refine awp_seq ?_
          refine awp_seq ?_
          refine awp_region ?_
          refine awl_move rfl rfl ?_
          refine awl_bin rfl rfl rfl rfl bin_eql ?_
          refine awl_move rfl rfl ?_
          refine awl_nilCheck rfl rfl rfl ?_
          first | refine awl_fieldAddr fi29_0_QuO rfl rfl ?_ | refine awl_fieldAddr_i fi29_0_QuO rfl rfl rfl ?_ | refine awl_field_m fi29_0_QuO rfl rfl rfl ?_
          first | refine awl_load_one ti27_QuO rfl rfl rfl rfl ?_ | refine awl_load_ione ti27_QuO rfl rfl rfl ?_ | refine awl_load_m1 ti27_QuO rfl rfl (by assumption) rfl rfl ?_
          first | refine x_len si27_QuO rfl rfl rfl (fun hlen49 => ?_) | refine awl_len_m si27_QuO rfl rfl rfl (fun hlen49 => ?_)
          refine awl_bin rfl rfl rfl rfl bin_lss ?_
          refine awl_bin rfl rfl rfl rfl (bool_neq Try.underlying4) ?_
          refine awl_sub (y := .p (B false)) (Sub.eq (B_eq (by simp; omega))) ?_
          refine awl_move rfl rfl ?_
          refine awl_guard_yes rfl (by first | exact rfl | exact decide_eq_true rfl | exact decide_eq_false rfl) rfl rfl ?_
          refine awl_move rfl rfl ?_
          refine awl_guard_yes rfl (by first | exact rfl | exact decide_eq_true rfl | exact decide_eq_false rfl) rfl rfl ?_
          refine awl_bin rfl rfl rfl rfl bin_neq ?_
          refine awl_guard_yes rfl (by first | exact rfl | exact decide_eq_true rfl | exact decide_eq_false rfl) rfl rfl ?_
          refine awl_move rfl rfl ?_
          refine awl_guard_no rfl (by first | exact (fun h => h rfl) | exact decide_eq_true (fun h => h rfl) | exact decide_eq_false (fun h => h rfl)) rfl rfl rfl rfl ?_
          refine awl_guard_no rfl (by first | exact (fun h => h rfl) | exact decide_eq_true (fun h => h rfl) | exact decide_eq_false (fun h => h rfl)) rfl rfl rfl rfl ?_
          refine awl_guard_yes rfl (by first | exact rfl | exact decide_eq_true rfl | exact decide_eq_false rfl) rfl rfl ?_
          refine awl_pick_f (by first | exact (fun h => h rfl) | exact decide_eq_true (fun h => h rfl) | exact decide_eq_false (fun h => h rfl)) rfl rfl rfl ?_
          refine awl_pick_f (by first | exact rfl | exact decide_eq_true rfl | exact decide_eq_false rfl) rfl rfl rfl ?_
          refine awl_nil ?_
          change AWp _ _ _ _ _ _
          refine awp_cond_f rfl rfl ?_
          refine awp_skip ?_
          change AWp _ _ _ _ _ _
          refine awp_seq ?_
          refine awp_region ?_
          refine awl_move rfl rfl ?_
          refine awl_bin rfl rfl rfl rfl bin_eql ?_
          refine awl_nil ?_
          change AWp _ _ _ _ _ _
          refine awp_cond_t (by first | exact rfl | exact decide_eq_true rfl | exact decide_eq_false rfl) rfl ?_
          apply awp_drawS [11, 14] [14] [] ((fun (B : Obs) => oget [([], B), ([11], [(1000, qh (ver + 1) (n + 1)), (1001, qa (ver + 1) (upF (H ++ [⟨wo, no, n + 1⟩]) H.length)), (6, .ce 31 [.p (I ko), .p (I wo), .p (I no)]), (24, .ce 29 [.ts 2001 2 (encR M)]), (2001, .ar 36 2 ((encR M).length + 1))]), ([11, 14], [(1000, qh (ver + 1) (n + 1)), (1001, qa (ver + 1) (upF (H ++ [⟨wo, no, n + 1⟩]) H.length)), (6, .ce 31 [.p (I ko), .p (I wo), .p (I no)]), (24, .ce 29 [.ts 2001 2 (encR M ++ [[I wo, I no]])]), (2001, .ar 36 2 ((encR M).length + 1))])]) _)
          · rfl
          · rfl
          · exact hmo_QuO
          · kernel_rfl
          · rfl
          refine awd_s [[11], []] [(4, _)] (.cons rfl (.nil)) rfl rfl rfl (by kernel_rfl) ?_
          apply Exists.intro
          refine ⟨(⟨fun regs' => ?_,⟨fun regs' => ?_, trivial⟩⟩), ?_, ?_⟩
          · skip
            refine awl_move rfl rfl ?_
            exact awl_doneS rfl rfl
          · skip
            refine awl_move rfl rfl ?_
            exact awl_doneS rfl rfl
          · kernel_rfl
          refine awd_s [[]] [(4, _)] (.cons rfl (.nil)) rfl rfl rfl (by kernel_rfl) ?_
          apply Exists.intro
          refine ⟨(⟨fun regs' => ?_, trivial⟩), ?_, ?_⟩
          · skip
            refine awl_move rfl rfl ?_
            exact awl_doneS rfl rfl
          · kernel_rfl
          refine awd_s [[]] [(75, _)] (.cons rfl (.nil)) rfl rfl rfl (by kernel_rfl) ?_
          apply Exists.intro
          refine ⟨(⟨fun regs' => ?_, trivial⟩), ?_, ?_⟩
          · skip
            refine awl_nilCheck rfl rfl rfl ?_
            exact awl_doneS rfl rfl
          · kernel_rfl
          refine awd_s [[]] [(76, _)] (.cons rfl (.nil)) rfl rfl rfl (by kernel_rfl) ?_
          apply Exists.intro
          refine ⟨(⟨fun regs' => ?_, trivial⟩), ?_, ?_⟩
          · skip
            first | refine awl_fieldAddr fi29_0_QuO rfl rfl ?_ | refine awl_fieldAddr_i fi29_0_QuO rfl rfl rfl ?_ | refine awl_field_m fi29_0_QuO rfl rfl rfl ?_
            exact awl_doneS rfl rfl
          · kernel_rfl
          refine awd_s [[]] [(77, _)] (.cons rfl (.nil)) rfl rfl rfl (by kernel_rfl) ?_
          apply Exists.intro
          refine ⟨(⟨fun regs' => ?_, trivial⟩), ?_, ?_⟩
          · skip
            first | refine awl_load_one ti27_QuO rfl rfl rfl rfl ?_ | refine awl_load_ione ti27_QuO rfl rfl rfl ?_ | refine awl_load_m1 ti27_QuO rfl rfl (by assumption) rfl rfl ?_
            exact awl_doneS rfl rfl
          · kernel_rfl
          refine awd_s [[]] [(6, _)] (.cons rfl (.nil)) rfl rfl rfl (by kernel_rfl) ?_
          apply Exists.intro
          refine ⟨(⟨fun regs' => ?_, trivial⟩), ?_, ?_⟩
          · skip
            first | refine awl_fieldAddr fi31_1_QuO rfl rfl ?_ | refine awl_fieldAddr_i fi31_1_QuO rfl rfl rfl ?_ | refine awl_field_m fi31_1_QuO rfl rfl rfl ?_
            exact awl_doneS rfl rfl
          · kernel_rfl
          refine awd_s [[]] [(79, _)] (.cons rfl (.nil)) rfl rfl rfl (by kernel_rfl) ?_
          apply Exists.intro
          refine ⟨(⟨fun regs' => ?_, trivial⟩), ?_, ?_⟩
          · skip
            first | refine awl_load_one ti3_QuO rfl rfl rfl rfl ?_ | refine awl_load_ione ti3_QuO rfl rfl rfl ?_ | refine awl_load_m1 ti3_QuO rfl rfl (by assumption) rfl rfl ?_
            exact awl_doneS rfl rfl
          · kernel_rfl
          refine awd_s [[]] [(6, _)] (.cons rfl (.nil)) rfl rfl rfl (by kernel_rfl) ?_
          apply Exists.intro
          refine ⟨(⟨fun regs' => ?_, trivial⟩), ?_, ?_⟩
          · skip
            first | refine awl_fieldAddr fi31_2_QuO rfl rfl ?_ | refine awl_fieldAddr_i fi31_2_QuO rfl rfl rfl ?_ | refine awl_field_m fi31_2_QuO rfl rfl rfl ?_
            exact awl_doneS rfl rfl
          · kernel_rfl
          refine awd_s [[]] [(81, _)] (.cons rfl (.nil)) rfl rfl rfl (by kernel_rfl) ?_
          apply Exists.intro
          refine ⟨(⟨fun regs' => ?_, trivial⟩), ?_, ?_⟩
          · skip
            first | refine awl_load_one ti3_QuO rfl rfl rfl rfl ?_ | refine awl_load_ione ti3_QuO rfl rfl rfl ?_ | refine awl_load_m1 ti3_QuO rfl rfl (by assumption) rfl rfl ?_
            exact awl_doneS rfl rfl
          · kernel_rfl
          refine awd_s [[]] [(80, _), (82, _)] (.cons rfl (.cons rfl (.nil))) rfl rfl rfl (by kernel_rfl) ?_
          apply Exists.intro
          refine ⟨(⟨fun regs' => ?_, trivial⟩), ?_, ?_⟩
          · skip
            refine x_build bi36_QuO tz36_QuO rfl rfl rfl ?_
            exact awl_doneS rfl rfl
          · kernel_rfl
          refine awd_s [[]] [(83, _)] (.cons rfl (.nil)) rfl rfl rfl (by kernel_rfl) ?_
          apply Exists.intro
          refine ⟨(⟨fun regs' => ?_, trivial⟩), ?_, ?_⟩
          · skip
            refine x_slice si27_QuO ei36_QuO rfl rfl rfl rfl ?_
            exact awl_doneS rfl rfl
          · kernel_rfl
          refine awd_s [[]] [(78, _), (84, _)] (.cons rfl (.cons rfl (.nil))) rfl rfl rfl (by kernel_rfl) ?_
          apply Exists.intro
          refine ⟨(⟨fun regs' => ?_, trivial⟩), ?_, ?_⟩
          · skip
            first | refine x_append si27_QuO ei36_QuO rfl rfl (by first | rfl | simp) rfl rfl rfl (.inl rfl) rfl rfl (by simp; omega) (by simp; omega) ?_ | refine awl_append_nil si27_QuO ei36_QuO rfl rfl (by rw [hcx]; rfl) rfl rfl rfl (.inl rfl) (by simp; omega) (by simp; omega) rfl ?_ | refine awl_append_m si27_QuO ei36_QuO rfl rfl rfl rfl rfl rfl rfl (by simp; omega) (by simp; omega) ?_ | refine awl_append_m2 si27_QuO ei36_QuO rfl rfl rfl rfl rfl rfl rfl (by simp; omega) (by simp; omega) ?_
            exact awl_doneS rfl rfl
          · kernel_rfl
          refine awd_s [[11]] [(74, _)] (.cons rfl (.nil)) rfl rfl rfl (by kernel_rfl) ?_
          apply Exists.intro
          refine ⟨(⟨fun regs' => ?_, trivial⟩), ?_, ?_⟩
          · skip
            refine awl_nilCheck rfl rfl rfl ?_
            exact awl_doneS rfl rfl
          · kernel_rfl
          refine awd_s [[11]] [(86, _)] (.cons rfl (.nil)) rfl rfl rfl (by kernel_rfl) ?_
          apply Exists.intro
          refine ⟨(⟨fun regs' => ?_, trivial⟩), ?_, ?_⟩
          · skip
            first | refine awl_fieldAddr fi29_0_QuO rfl rfl ?_ | refine awl_fieldAddr_i fi29_0_QuO rfl rfl rfl ?_ | refine awl_field_m fi29_0_QuO rfl rfl rfl ?_
            exact awl_doneS rfl rfl
          · kernel_rfl
          refine awd_e [11] rfl rfl rfl (by kernel_rfl) rfl rfl ?_
          refine ⟨.any, ?_⟩
          refine ⟨?_, ?_, ?_⟩
          · skip
            first | refine x_store ti27_QuO rfl rfl rfl rfl rfl rfl rfl rfl ?_ | refine awl_store_m ti27_QuO rfl rfl rfl (by first | omega | (simp; omega)) rfl rfl rfl rfl ?_
            exact awl_done rfl
          · kernel_rfl
          refine awd_endS ?_
          try dsimp only [putd]
          change AWp _ _ _ _ _ _
          refine awp_seq ?_
          refine awp_draw0 hmo_QuO (by kernel_rfl) ?_
          refine awd_q [(3, _)] (.cons rfl (.nil)) rfl rfl rfl ?_
          apply Exists.intro
          refine ⟨fun regs' => ?_, ?_⟩
          · skip
            refine awl_move rfl rfl ?_
            exact awl_done rfl
          refine awd_q [(197, _)] (.cons rfl (.nil)) rfl rfl rfl ?_
          apply Exists.intro
          refine ⟨fun regs' => ?_, ?_⟩
          · skip
            refine x_rcall [1000, 1001] fb15_QuO rfl rfl (QLen_con _ _ _) (.cons (by first | exact Sub.refl _ | exact Sub.ts | exact Sub.nil | exact Sub.agc (by repeat (first | exact .nil | refine .cons (by first | exact Sub.refl _ | exact Sub.nil) ?_))) .nil) rfl ?_
            exact awl_done rfl
          refine awd_q [(4, _)] (.cons rfl (.nil)) rfl rfl rfl ?_
          apply Exists.intro
          refine ⟨fun regs' => ?_, ?_⟩
          · skip
            refine awl_move rfl rfl ?_
            exact awl_done rfl
          refine awd_q [(199, _)] (.cons rfl (.nil)) rfl rfl rfl ?_
          apply Exists.intro
          refine ⟨fun regs' => ?_, ?_⟩
          · skip
            refine awl_nilCheck rfl rfl rfl ?_
            exact awl_done rfl
          refine awd_q [(200, _)] (.cons rfl (.nil)) rfl rfl rfl ?_
          apply Exists.intro
          refine ⟨fun regs' => ?_, ?_⟩
          · skip
            first | refine awl_fieldAddr fi29_0_QuO rfl rfl ?_ | refine awl_fieldAddr_i fi29_0_QuO rfl rfl rfl ?_ | refine awl_field_m fi29_0_QuO rfl rfl rfl ?_
            exact awl_done rfl
          refine awd_q [(201, _)] (.cons rfl (.nil)) rfl rfl rfl ?_
          apply Exists.intro
          refine ⟨fun regs' => ?_, ?_⟩
          · skip
            first | refine awl_load_one ti27_QuO rfl rfl rfl rfl ?_ | refine awl_load_ione ti27_QuO rfl rfl rfl ?_ | refine awl_load_m1 ti27_QuO rfl rfl (by assumption) rfl rfl ?_
            exact awl_done rfl
          refine awd_q [(202, _)] (.cons rfl (.nil)) rfl rfl rfl ?_
          apply Exists.intro
          refine ⟨fun regs' => ?_, ?_⟩
          · skip
            first | refine x_len si27_QuO rfl rfl rfl (fun hlen92 => ?_) | refine awl_len_m si27_QuO rfl rfl rfl (fun hlen92 => ?_)
            exact awl_done rfl
          refine awd_q [(198, _), (203, _)] (.cons rfl (.cons rfl (.nil))) rfl rfl rfl ?_
          apply Exists.intro
          refine ⟨fun regs' => ?_, ?_⟩
          · skip
            refine awl_bin rfl rfl rfl rfl bin_neq ?_
            exact awl_done rfl
          refine awd_nil ?_
          change AWp _ _ _ _ _ _
          refine awp_cond_f (by first | exact (fun h => h (by have := (hI.rel.push (wt := wo) (nr := no)).len; simp at this ⊢; omega)) | exact decide_eq_true (fun h => h (by have := (hI.rel.push (wt := wo) (nr := no)).len; simp at this ⊢; omega)) | exact decide_eq_false (fun h => h (by have := (hI.rel.push (wt := wo) (nr := no)).len; simp at this ⊢; omega))) rfl ?_
          refine awp_skip ?_
          change AWp _ _ _ _ _ _
          refine awp_region ?_
          refine awl_move rfl rfl ?_
          first | refine awl_bin rfl rfl rfl rfl (bin_add_i (by omega)) ?_ | refine awl_bin rfl rfl rfl rfl bin_add ?_
          refine awl_assign rfl rfl ?_
          refine awl_nil ?_
          change ∃ x', _
          refine ⟨(i + 1, upF (H ++ [⟨wo, no, n + 1⟩]) H.length, M ++ [⟨wo, no, n + 1⟩], n + 1, ver + 1), ⟨by simp only; omega, hI.rel.push, by have := hI.n0; simp only; omega, by have := hI.ni; simp only; omega, by have h1 := (hI.rel.push (wt := wo) (nr := no)).len; have h2 := hI.rel.len; rw [List.length_append] at h1; simp at h1 ⊢; omega⟩, (by simp only; omega), (Le.mk (.cons rfl (by first | exact Sub.refl _ | exact Sub.ts | exact Sub.nil | (refine Sub.eq ?_; first | (simp; done) | (simp; omega))) (.cons rfl (by first | exact Sub.refl _ | exact Sub.ts | exact Sub.nil | (refine Sub.eq ?_; first | (simp; done) | (simp; omega))) (.cons rfl (by first | exact Sub.refl _ | exact Sub.ts | exact Sub.nil | (refine Sub.eq ?_; first | (simp; done) | (simp; omega))) (.cons rfl (by first | exact Sub.refl _ | exact Sub.ts | exact Sub.nil | (refine Sub.eq ?_; first | (simp; done) | (simp; omega))) (.nil))))) (.cons rfl (by first | rfl | (simp; done) | (simp [encR, rowR]; done)) (.cons rfl (by first | rfl | (simp; done) | (simp [encR, rowR]; done)) (.cons rfl (by first | rfl | (simp; done) | (simp [encR, rowR]; done)) (.cons rfl (by first | rfl | (simp; done) | (simp [encR, rowR]; done)) (.nil))))) rfl)⟩
        · skip
          refine awp_skip ?_
          change AWp _ _ _ _ _ _
          refine awp_cond_t (by first | exact c0 | exact decide_eq_true c0 | exact decide_eq_false c0) rfl ?_
          refine awp_seq ?_
          refine awp_region ?_
          refine awl_move rfl rfl ?_
          first | refine awl_fieldAddr fi31_1_QuO rfl rfl ?_ | refine awl_fieldAddr_i fi31_1_QuO rfl rfl rfl ?_ | refine awl_field_m fi31_1_QuO rfl rfl rfl ?_
          first | refine awl_load_one ti3_QuO rfl rfl rfl rfl ?_ | refine awl_load_ione ti3_QuO rfl rfl rfl ?_ | refine awl_load_m1 ti3_QuO rfl rfl (by assumption) rfl rfl ?_
          first | refine awl_fieldAddr fi31_2_QuO rfl rfl ?_ | refine awl_fieldAddr_i fi31_2_QuO rfl rfl rfl ?_ | refine awl_field_m fi31_2_QuO rfl rfl rfl ?_
          first | refine awl_load_one ti3_QuO rfl rfl rfl rfl ?_ | refine awl_load_ione ti3_QuO rfl rfl rfl ?_ | refine awl_load_m1 ti3_QuO rfl rfl (by assumption) rfl rfl ?_
          refine x_build bi35_QuO tz35_QuO rfl rfl rfl ?_
          refine x_call [1000, 1001] fb8_QuO rfl rfl rfl (QPushF_con ver H n wo no (by have := hI.rel.len; omega)) (.cons (by first | exact Sub.refl _ | exact Sub.ts | exact Sub.nil | exact Sub.agc (by repeat (first | exact .nil | refine .cons (by first | exact Sub.refl _ | exact Sub.nil) ?_))) (.cons (by first | exact Sub.refl _ | exact Sub.ts | exact Sub.nil | exact Sub.agc (by repeat (first | exact .nil | refine .cons (by first | exact Sub.refl _ | exact Sub.nil) ?_))) .nil)) rfl (fun r o ⟨e1, e2⟩ => ?_)
          subst e1 e2
          refine ⟨by rw [hcx]; rfl, _, rfl, ?_⟩
          refine awl_assign rfl rfl ?_
          refine awl_nil ?_
          change AWp _ _ _ _ _ _
          refine awp_seq ?_
          refine awp_seq ?_
          refine awp_region ?_
          refine awl_move rfl rfl ?_
          refine awl_bin rfl rfl rfl rfl bin_eql ?_
          refine awl_move rfl rfl ?_
          refine awl_nilCheck rfl rfl rfl ?_
          first | refine awl_fieldAddr fi29_0_QuO rfl rfl ?_ | refine awl_fieldAddr_i fi29_0_QuO rfl rfl rfl ?_ | refine awl_field_m fi29_0_QuO rfl rfl rfl ?_
          first | refine awl_load_one ti27_QuO rfl rfl rfl rfl ?_ | refine awl_load_ione ti27_QuO rfl rfl rfl ?_ | refine awl_load_m1 ti27_QuO rfl rfl (by assumption) rfl rfl ?_
          first | refine x_len si27_QuO rfl rfl rfl (fun hlen114 => ?_) | refine awl_len_m si27_QuO rfl rfl rfl (fun hlen114 => ?_)
          refine awl_bin rfl rfl rfl rfl bin_lss ?_
          refine awl_bin rfl rfl rfl rfl (bool_neq Try.underlying4) ?_
          refine awl_sub (y := .p (B false)) (Sub.eq (B_eq (by simp; omega))) ?_
          refine awl_move rfl rfl ?_
          refine awl_guard_yes rfl (by first | exact rfl | exact decide_eq_true rfl | exact decide_eq_false rfl) rfl rfl ?_
          refine awl_move rfl rfl ?_
          refine awl_guard_yes rfl (by first | exact rfl | exact decide_eq_true rfl | exact decide_eq_false rfl) rfl rfl ?_
          refine awl_bin rfl rfl rfl rfl bin_neq ?_
          refine awl_guard_yes rfl (by first | exact rfl | exact decide_eq_true rfl | exact decide_eq_false rfl) rfl rfl ?_
          refine awl_move rfl rfl ?_
          refine awl_guard_yes rfl (by first | exact (by decide) | exact decide_eq_true (by decide) | exact decide_eq_false (by decide)) rfl rfl ?_
          refine awl_move rfl rfl ?_
          refine awl_guard_yes rfl (by first | exact (by decide) | exact decide_eq_true (by decide) | exact decide_eq_false (by decide)) rfl rfl ?_
          refine awl_bin rfl rfl rfl rfl bin_neq ?_
          refine awl_guard_yes rfl (by first | exact rfl | exact decide_eq_true rfl | exact decide_eq_false rfl) rfl rfl ?_
          refine awl_pick_t (by first | exact (by decide) | exact decide_eq_true (by decide) | exact decide_eq_false (by decide)) rfl rfl rfl ?_
          refine awl_pick_f (by first | exact rfl | exact decide_eq_true rfl | exact decide_eq_false rfl) rfl rfl rfl ?_
          refine awl_nil ?_
          change AWp _ _ _ _ _ _
          refine awp_cond_f (by first | exact (fun h => h rfl) | exact decide_eq_true (fun h => h rfl) | exact decide_eq_false (fun h => h rfl)) rfl ?_
          refine awp_skip ?_
          change AWp _ _ _ _ _ _
          refine awp_seq ?_
          refine awp_region ?_
          refine awl_move rfl rfl ?_
          refine awl_bin rfl rfl rfl rfl bin_eql ?_
          refine awl_nil ?_
          change AWp _ _ _ _ _ _
          refine awp_cond_f (by first | exact (by decide) | exact decide_eq_true (by decide) | exact decide_eq_false (by decide)) rfl ?_
          refine awp_skip ?_
          change AWp _ _ _ _ _ _
          refine awp_seq ?_
          refine awp_draw0 hmo_QuO (by kernel_rfl) ?_
          refine awd_q [(3, _)] (.cons rfl (.nil)) rfl rfl rfl ?_
          apply Exists.intro
          refine ⟨fun regs' => ?_, ?_⟩
          · skip
            refine awl_move rfl rfl ?_
            exact awl_done rfl
          refine awd_q [(197, _)] (.cons rfl (.nil)) rfl rfl rfl ?_
          apply Exists.intro
          refine ⟨fun regs' => ?_, ?_⟩
          · skip
            refine x_rcall [1000, 1001] fb15_QuO rfl rfl (QLen_con _ _ _) (.cons (by first | exact Sub.refl _ | exact Sub.ts | exact Sub.nil | exact Sub.agc (by repeat (first | exact .nil | refine .cons (by first | exact Sub.refl _ | exact Sub.nil) ?_))) .nil) rfl ?_
            exact awl_done rfl
          refine awd_q [(4, _)] (.cons rfl (.nil)) rfl rfl rfl ?_
          apply Exists.intro
          refine ⟨fun regs' => ?_, ?_⟩
          · skip
            refine awl_move rfl rfl ?_
            exact awl_done rfl
          refine awd_q [(199, _)] (.cons rfl (.nil)) rfl rfl rfl ?_
          apply Exists.intro
          refine ⟨fun regs' => ?_, ?_⟩
          · skip
            refine awl_nilCheck rfl rfl rfl ?_
            exact awl_done rfl
          refine awd_q [(200, _)] (.cons rfl (.nil)) rfl rfl rfl ?_
          apply Exists.intro
          refine ⟨fun regs' => ?_, ?_⟩
          · skip
            first | refine awl_fieldAddr fi29_0_QuO rfl rfl ?_ | refine awl_fieldAddr_i fi29_0_QuO rfl rfl rfl ?_ | refine awl_field_m fi29_0_QuO rfl rfl rfl ?_
            exact awl_done rfl
          refine awd_q [(201, _)] (.cons rfl (.nil)) rfl rfl rfl ?_
          apply Exists.intro
          refine ⟨fun regs' => ?_, ?_⟩
          · skip
            first | refine awl_load_one ti27_QuO rfl rfl rfl rfl ?_ | refine awl_load_ione ti27_QuO rfl rfl rfl ?_ | refine awl_load_m1 ti27_QuO rfl rfl (by assumption) rfl rfl ?_
            exact awl_done rfl
          refine awd_q [(202, _)] (.cons rfl (.nil)) rfl rfl rfl ?_
          apply Exists.intro
          refine ⟨fun regs' => ?_, ?_⟩
          · skip
            first | refine x_len si27_QuO rfl rfl rfl (fun hlen146 => ?_) | refine awl_len_m si27_QuO rfl rfl rfl (fun hlen146 => ?_)
            exact awl_done rfl
          refine awd_q [(198, _), (203, _)] (.cons rfl (.cons rfl (.nil))) rfl rfl rfl ?_
          apply Exists.intro
          refine ⟨fun regs' => ?_, ?_⟩
          · skip
            refine awl_bin rfl rfl rfl rfl bin_neq ?_
            exact awl_done rfl
          refine awd_nil ?_
          change AWp _ _ _ _ _ _
          refine awp_cond_f (by first | exact (fun h => h (by have := hI.rel.len; simp at this ⊢; omega)) | exact decide_eq_true (fun h => h (by have := hI.rel.len; simp at this ⊢; omega)) | exact decide_eq_false (fun h => h (by have := hI.rel.len; simp at this ⊢; omega))) rfl ?_
          refine awp_skip ?_
          change AWp _ _ _ _ _ _
          refine awp_region ?_
          refine awl_move rfl rfl ?_
          first | refine awl_bin rfl rfl rfl rfl (bin_add_i (by omega)) ?_ | refine awl_bin rfl rfl rfl rfl bin_add ?_
          refine awl_assign rfl rfl ?_
          refine awl_nil ?_
          change ∃ x', _
          refine ⟨(i + 1, H, M, n, ver), ⟨by simp only; omega, hI.rel, hI.n0, by have := hI.ni; simp only; omega, hI.h256⟩, (by simp only; omega), (Le.mk (.cons rfl (by first | exact Sub.refl _ | exact Sub.ts | exact Sub.nil | (refine Sub.eq ?_; first | (simp; done) | (simp; omega))) (.cons rfl (by first | exact Sub.refl _ | exact Sub.ts | exact Sub.nil | (refine Sub.eq ?_; first | (simp; done) | (simp; omega))) (.cons rfl (by first | exact Sub.refl _ | exact Sub.ts | exact Sub.nil | (refine Sub.eq ?_; first | (simp; done) | (simp; omega))) (.cons rfl (by first | exact Sub.refl _ | exact Sub.ts | exact Sub.nil | (refine Sub.eq ?_; first | (simp; done) | (simp; omega))) (.nil))))) (.cons rfl (by first | rfl | (simp; done) | (simp [encR, rowR]; done)) (.cons rfl (by first | rfl | (simp; done) | (simp [encR, rowR]; done)) (.cons rfl (by first | rfl | (simp; done) | (simp [encR, rowR]; done)) (.cons rfl (by first | rfl | (simp; done) | (simp [encR, rowR]; done)) (.nil))))) rfl)⟩
      · skip
        refine awp_region ?_
        refine awl_bin rfl rfl rfl rfl bin_eql ?_
        refine awl_assign rfl rfl ?_
        refine awl_nil ?_
        change AWp _ _ _ _ _ _
        first | refine awp_cond_p rfl (fun c1 => ?_) (fun c1 => ?_) | refine awp_cond rfl (fun c1 => ?_) (fun c1 => ?_)
        · skip
          rcases Nat.lt_or_ge M.length 256 with hful | hful
          · skip
            refine awp_seq ?_
            refine awp_region ?_
            refine awl_move rfl rfl ?_
            first | refine awl_fieldAddr fi31_1_QuO rfl rfl ?_ | refine awl_fieldAddr_i fi31_1_QuO rfl rfl rfl ?_ | refine awl_field_m fi31_1_QuO rfl rfl rfl ?_
            first | refine awl_load_one ti3_QuO rfl rfl rfl rfl ?_ | refine awl_load_ione ti3_QuO rfl rfl rfl ?_ | refine awl_load_m1 ti3_QuO rfl rfl (by assumption) rfl rfl ?_
            first | refine awl_fieldAddr fi31_2_QuO rfl rfl ?_ | refine awl_fieldAddr_i fi31_2_QuO rfl rfl rfl ?_ | refine awl_field_m fi31_2_QuO rfl rfl rfl ?_
            first | refine awl_load_one ti3_QuO rfl rfl rfl rfl ?_ | refine awl_load_ione ti3_QuO rfl rfl rfl ?_ | refine awl_load_m1 ti3_QuO rfl rfl (by assumption) rfl rfl ?_
            refine x_build bi35_QuO tz35_QuO rfl rfl rfl ?_
            refine x_call [1000, 1001] fb8_QuO rfl rfl rfl (QPush_con ver H n wo no (by have := hI.rel.len; omega) hI.n0 (by have := hI.ni; omega)) (.cons (by first | exact Sub.refl _ | exact Sub.ts | exact Sub.nil | exact Sub.agc (by repeat (first | exact .nil | refine .cons (by first | exact Sub.refl _ | exact Sub.nil) ?_))) (.cons (by first | exact Sub.refl _ | exact Sub.ts | exact Sub.nil | exact Sub.agc (by repeat (first | exact .nil | refine .cons (by first | exact Sub.refl _ | exact Sub.nil) ?_))) .nil)) rfl (fun r o ⟨e1, e2⟩ => ?_)
            subst e1 e2
            refine ⟨by rw [hcx]; rfl, _, rfl, ?_⟩
            refine awl_assign rfl rfl ?_
            refine awl_nil ?_
            change AWp _ _ _ _ _ _
            refine awp_seq ?_
            refine awp_seq ?_
            refine awp_region ?_
            refine awl_move rfl rfl ?_
            refine awl_bin rfl rfl rfl rfl bin_eql ?_
            refine awl_move rfl rfl ?_
            refine awl_nilCheck rfl rfl rfl ?_
            first | refine awl_fieldAddr fi29_0_QuO rfl rfl ?_ | refine awl_fieldAddr_i fi29_0_QuO rfl rfl rfl ?_ | refine awl_field_m fi29_0_QuO rfl rfl rfl ?_
            first | refine awl_load_one ti27_QuO rfl rfl rfl rfl ?_ | refine awl_load_ione ti27_QuO rfl rfl rfl ?_ | refine awl_load_m1 ti27_QuO rfl rfl (by assumption) rfl rfl ?_
            first | refine x_len si27_QuO rfl rfl rfl (fun hlen170 => ?_) | refine awl_len_m si27_QuO rfl rfl rfl (fun hlen170 => ?_)
            refine awl_bin rfl rfl rfl rfl bin_lss ?_
            refine awl_bin rfl rfl rfl rfl (bool_neq Try.underlying4) ?_
            refine awl_sub (y := .p (B false)) (Sub.eq (B_eq (by simp; omega))) ?_
            refine awl_move rfl rfl ?_
            refine awl_guard_yes rfl (by first | exact rfl | exact decide_eq_true rfl | exact decide_eq_false rfl) rfl rfl ?_
            refine awl_move rfl rfl ?_
            refine awl_guard_yes rfl (by first | exact rfl | exact decide_eq_true rfl | exact decide_eq_false rfl) rfl rfl ?_
            refine awl_bin rfl rfl rfl rfl bin_neq ?_
            refine awl_guard_yes rfl (by first | exact rfl | exact decide_eq_true rfl | exact decide_eq_false rfl) rfl rfl ?_
            refine awl_move rfl rfl ?_
            refine awl_guard_no rfl (by first | exact (fun h => h rfl) | exact decide_eq_true (fun h => h rfl) | exact decide_eq_false (fun h => h rfl)) rfl rfl rfl rfl ?_
            refine awl_guard_no rfl (by first | exact (fun h => h rfl) | exact decide_eq_true (fun h => h rfl) | exact decide_eq_false (fun h => h rfl)) rfl rfl rfl rfl ?_
            refine awl_guard_yes rfl (by first | exact rfl | exact decide_eq_true rfl | exact decide_eq_false rfl) rfl rfl ?_
            refine awl_pick_f (by first | exact (fun h => h rfl) | exact decide_eq_true (fun h => h rfl) | exact decide_eq_false (fun h => h rfl)) rfl rfl rfl ?_
            refine awl_pick_f (by first | exact rfl | exact decide_eq_true rfl | exact decide_eq_false rfl) rfl rfl rfl ?_
            refine awl_nil ?_
            change AWp _ _ _ _ _ _
            refine awp_cond_f rfl rfl ?_
            refine awp_skip ?_
            change AWp _ _ _ _ _ _
            refine awp_seq ?_
            refine awp_region ?_
            refine awl_move rfl rfl ?_
            refine awl_bin rfl rfl rfl rfl bin_eql ?_
            refine awl_nil ?_
            change AWp _ _ _ _ _ _
            refine awp_cond_t (by first | exact rfl | exact decide_eq_true rfl | exact decide_eq_false rfl) rfl ?_
            apply awp_drawS [11, 14] [14] [] ((fun (B : Obs) => oget [([], B), ([11], [(1000, qh (ver + 1) (n + 1)), (1001, qa (ver + 1) (upF (H ++ [⟨wo, no, n + 1⟩]) H.length)), (6, .ce 31 [.p (I ko), .p (I wo), .p (I no)]), (24, .ce 29 [.ts 2001 2 (encR M)]), (2001, .ar 36 2 ((encR M).length + 1))]), ([11, 14], [(1000, qh (ver + 1) (n + 1)), (1001, qa (ver + 1) (upF (H ++ [⟨wo, no, n + 1⟩]) H.length)), (6, .ce 31 [.p (I ko), .p (I wo), .p (I no)]), (24, .ce 29 [.ts 2001 2 (encR M ++ [[I wo, I no]])]), (2001, .ar 36 2 ((encR M).length + 1))])]) _)
            · rfl
            · rfl
            · exact hmo_QuO
            · kernel_rfl
            · rfl
            refine awd_s [[11], []] [(4, _)] (.cons rfl (.nil)) rfl rfl rfl (by kernel_rfl) ?_
            apply Exists.intro
            refine ⟨(⟨fun regs' => ?_,⟨fun regs' => ?_, trivial⟩⟩), ?_, ?_⟩
            · skip
              refine awl_move rfl rfl ?_
              exact awl_doneS rfl rfl
            · skip
              refine awl_move rfl rfl ?_
              exact awl_doneS rfl rfl
            · kernel_rfl
            refine awd_s [[]] [(4, _)] (.cons rfl (.nil)) rfl rfl rfl (by kernel_rfl) ?_
            apply Exists.intro
            refine ⟨(⟨fun regs' => ?_, trivial⟩), ?_, ?_⟩
            · skip
              refine awl_move rfl rfl ?_
              exact awl_doneS rfl rfl
            · kernel_rfl
            refine awd_s [[]] [(75, _)] (.cons rfl (.nil)) rfl rfl rfl (by kernel_rfl) ?_
            apply Exists.intro
            refine ⟨(⟨fun regs' => ?_, trivial⟩), ?_, ?_⟩
            · skip
              refine awl_nilCheck rfl rfl rfl ?_
              exact awl_doneS rfl rfl
            · kernel_rfl
            refine awd_s [[]] [(76, _)] (.cons rfl (.nil)) rfl rfl rfl (by kernel_rfl) ?_
            apply Exists.intro
            refine ⟨(⟨fun regs' => ?_, trivial⟩), ?_, ?_⟩
            · skip
              first | refine awl_fieldAddr fi29_0_QuO rfl rfl ?_ | refine awl_fieldAddr_i fi29_0_QuO rfl rfl rfl ?_ | refine awl_field_m fi29_0_QuO rfl rfl rfl ?_
              exact awl_doneS rfl rfl
            · kernel_rfl
            refine awd_s [[]] [(77, _)] (.cons rfl (.nil)) rfl rfl rfl (by kernel_rfl) ?_
            apply Exists.intro
            refine ⟨(⟨fun regs' => ?_, trivial⟩), ?_, ?_⟩
            · skip
              first | refine awl_load_one ti27_QuO rfl rfl rfl rfl ?_ | refine awl_load_ione ti27_QuO rfl rfl rfl ?_ | refine awl_load_m1 ti27_QuO rfl rfl (by assumption) rfl rfl ?_
              exact awl_doneS rfl rfl
            · kernel_rfl
            refine awd_s [[]] [(6, _)] (.cons rfl (.nil)) rfl rfl rfl (by kernel_rfl) ?_
            apply Exists.intro
            refine ⟨(⟨fun regs' => ?_, trivial⟩), ?_, ?_⟩
            · skip
              first | refine awl_fieldAddr fi31_1_QuO rfl rfl ?_ | refine awl_fieldAddr_i fi31_1_QuO rfl rfl rfl ?_ | refine awl_field_m fi31_1_QuO rfl rfl rfl ?_
              exact awl_doneS rfl rfl
            · kernel_rfl
            refine awd_s [[]] [(79, _)] (.cons rfl (.nil)) rfl rfl rfl (by kernel_rfl) ?_
            apply Exists.intro
            refine ⟨(⟨fun regs' => ?_, trivial⟩), ?_, ?_⟩
            · skip
              first | refine awl_load_one ti3_QuO rfl rfl rfl rfl ?_ | refine awl_load_ione ti3_QuO rfl rfl rfl ?_ | refine awl_load_m1 ti3_QuO rfl rfl (by assumption) rfl rfl ?_
              exact awl_doneS rfl rfl
            · kernel_rfl
            refine awd_s [[]] [(6, _)] (.cons rfl (.nil)) rfl rfl rfl (by kernel_rfl) ?_
            apply Exists.intro
            refine ⟨(⟨fun regs' => ?_, trivial⟩), ?_, ?_⟩
            · skip
              first | refine awl_fieldAddr fi31_2_QuO rfl rfl ?_ | refine awl_fieldAddr_i fi31_2_QuO rfl rfl rfl ?_ | refine awl_field_m fi31_2_QuO rfl rfl rfl ?_
              exact awl_doneS rfl rfl
            · kernel_rfl
            refine awd_s [[]] [(81, _)] (.cons rfl (.nil)) rfl rfl rfl (by kernel_rfl) ?_
            apply Exists.intro
            refine ⟨(⟨fun regs' => ?_, trivial⟩), ?_, ?_⟩
            · skip
              first | refine awl_load_one ti3_QuO rfl rfl rfl rfl ?_ | refine awl_load_ione ti3_QuO rfl rfl rfl ?_ | refine awl_load_m1 ti3_QuO rfl rfl (by assumption) rfl rfl ?_
              exact awl_doneS rfl rfl
            · kernel_rfl
            refine awd_s [[]] [(80, _), (82, _)] (.cons rfl (.cons rfl (.nil))) rfl rfl rfl (by kernel_rfl) ?_
            apply Exists.intro
            refine ⟨(⟨fun regs' => ?_, trivial⟩), ?_, ?_⟩
            · skip
              refine x_build bi36_QuO tz36_QuO rfl rfl rfl ?_
              exact awl_doneS rfl rfl
            · kernel_rfl
            refine awd_s [[]] [(83, _)] (.cons rfl (.nil)) rfl rfl rfl (by kernel_rfl) ?_
            apply Exists.intro
            refine ⟨(⟨fun regs' => ?_, trivial⟩), ?_, ?_⟩
            · skip
              refine x_slice si27_QuO ei36_QuO rfl rfl rfl rfl ?_
              exact awl_doneS rfl rfl
            · kernel_rfl
            refine awd_s [[]] [(78, _), (84, _)] (.cons rfl (.cons rfl (.nil))) rfl rfl rfl (by kernel_rfl) ?_
            apply Exists.intro
            refine ⟨(⟨fun regs' => ?_, trivial⟩), ?_, ?_⟩
            · skip
              first | refine x_append si27_QuO ei36_QuO rfl rfl (by first | rfl | simp) rfl rfl rfl (.inl rfl) rfl rfl (by simp; omega) (by simp; omega) ?_ | refine awl_append_nil si27_QuO ei36_QuO rfl rfl (by rw [hcx]; rfl) rfl rfl rfl (.inl rfl) (by simp; omega) (by simp; omega) rfl ?_ | refine awl_append_m si27_QuO ei36_QuO rfl rfl rfl rfl rfl rfl rfl (by simp; omega) (by simp; omega) ?_ | refine awl_append_m2 si27_QuO ei36_QuO rfl rfl rfl rfl rfl rfl rfl (by simp; omega) (by simp; omega) ?_
              exact awl_doneS rfl rfl
            · kernel_rfl
            refine awd_s [[11]] [(74, _)] (.cons rfl (.nil)) rfl rfl rfl (by kernel_rfl) ?_
            apply Exists.intro
            refine ⟨(⟨fun regs' => ?_, trivial⟩), ?_, ?_⟩
            · skip
              refine awl_nilCheck rfl rfl rfl ?_
              exact awl_doneS rfl rfl
            · kernel_rfl
            refine awd_s [[11]] [(86, _)] (.cons rfl (.nil)) rfl rfl rfl (by kernel_rfl) ?_
            apply Exists.intro
            refine ⟨(⟨fun regs' => ?_, trivial⟩), ?_, ?_⟩
            · skip
              first | refine awl_fieldAddr fi29_0_QuO rfl rfl ?_ | refine awl_fieldAddr_i fi29_0_QuO rfl rfl rfl ?_ | refine awl_field_m fi29_0_QuO rfl rfl rfl ?_
              exact awl_doneS rfl rfl
            · kernel_rfl
            refine awd_e [11] rfl rfl rfl (by kernel_rfl) rfl rfl ?_
            refine ⟨.any, ?_⟩
            refine ⟨?_, ?_, ?_⟩
            · skip
              first | refine x_store ti27_QuO rfl rfl rfl rfl rfl rfl rfl rfl ?_ | refine awl_store_m ti27_QuO rfl rfl rfl (by first | omega | (simp; omega)) rfl rfl rfl rfl ?_
              exact awl_done rfl
            · kernel_rfl
            refine awd_endS ?_
            try dsimp only [putd]
            change AWp _ _ _ _ _ _
            refine awp_seq ?_
            refine awp_draw0 hmo_QuO (by kernel_rfl) ?_
            refine awd_q [(3, _)] (.cons rfl (.nil)) rfl rfl rfl ?_
            apply Exists.intro
            refine ⟨fun regs' => ?_, ?_⟩
            · skip
              refine awl_move rfl rfl ?_
              exact awl_done rfl
            refine awd_q [(197, _)] (.cons rfl (.nil)) rfl rfl rfl ?_
            apply Exists.intro
            refine ⟨fun regs' => ?_, ?_⟩
            · skip
              refine x_rcall [1000, 1001] fb15_QuO rfl rfl (QLen_con _ _ _) (.cons (by first | exact Sub.refl _ | exact Sub.ts | exact Sub.nil | exact Sub.agc (by repeat (first | exact .nil | refine .cons (by first | exact Sub.refl _ | exact Sub.nil) ?_))) .nil) rfl ?_
              exact awl_done rfl
            refine awd_q [(4, _)] (.cons rfl (.nil)) rfl rfl rfl ?_
            apply Exists.intro
            refine ⟨fun regs' => ?_, ?_⟩
            · skip
              refine awl_move rfl rfl ?_
              exact awl_done rfl
            refine awd_q [(199, _)] (.cons rfl (.nil)) rfl rfl rfl ?_
            apply Exists.intro
            refine ⟨fun regs' => ?_, ?_⟩
            · skip
              refine awl_nilCheck rfl rfl rfl ?_
              exact awl_done rfl
            refine awd_q [(200, _)] (.cons rfl (.nil)) rfl rfl rfl ?_
            apply Exists.intro
            refine ⟨fun regs' => ?_, ?_⟩
            · skip
              first | refine awl_fieldAddr fi29_0_QuO rfl rfl ?_ | refine awl_fieldAddr_i fi29_0_QuO rfl rfl rfl ?_ | refine awl_field_m fi29_0_QuO rfl rfl rfl ?_
              exact awl_done rfl
            refine awd_q [(201, _)] (.cons rfl (.nil)) rfl rfl rfl ?_
            apply Exists.intro
            refine ⟨fun regs' => ?_, ?_⟩
            · skip
              first | refine awl_load_one ti27_QuO rfl rfl rfl rfl ?_ | refine awl_load_ione ti27_QuO rfl rfl rfl ?_ | refine awl_load_m1 ti27_QuO rfl rfl (by assumption) rfl rfl ?_
              exact awl_done rfl
            refine awd_q [(202, _)] (.cons rfl (.nil)) rfl rfl rfl ?_
            apply Exists.intro
            refine ⟨fun regs' => ?_, ?_⟩
            · skip
              first | refine x_len si27_QuO rfl rfl rfl (fun hlen213 => ?_) | refine awl_len_m si27_QuO rfl rfl rfl (fun hlen213 => ?_)
              exact awl_done rfl
            refine awd_q [(198, _), (203, _)] (.cons rfl (.cons rfl (.nil))) rfl rfl rfl ?_
            apply Exists.intro
            refine ⟨fun regs' => ?_, ?_⟩
            · skip
              refine awl_bin rfl rfl rfl rfl bin_neq ?_
              exact awl_done rfl
            refine awd_nil ?_
            change AWp _ _ _ _ _ _
            refine awp_cond_f (by first | exact (fun h => h (by have := (hI.rel.push (wt := wo) (nr := no)).len; simp at this ⊢; omega)) | exact decide_eq_true (fun h => h (by have := (hI.rel.push (wt := wo) (nr := no)).len; simp at this ⊢; omega)) | exact decide_eq_false (fun h => h (by have := (hI.rel.push (wt := wo) (nr := no)).len; simp at this ⊢; omega))) rfl ?_
            refine awp_skip ?_
            change AWp _ _ _ _ _ _
            refine awp_region ?_
            refine awl_move rfl rfl ?_
            first | refine awl_bin rfl rfl rfl rfl (bin_add_i (by omega)) ?_ | refine awl_bin rfl rfl rfl rfl bin_add ?_
            refine awl_assign rfl rfl ?_
            refine awl_nil ?_
            change ∃ x', _
            refine ⟨(i + 1, upF (H ++ [⟨wo, no, n + 1⟩]) H.length, M ++ [⟨wo, no, n + 1⟩], n + 1, ver + 1), ⟨by simp only; omega, hI.rel.push, by have := hI.n0; simp only; omega, by have := hI.ni; simp only; omega, by have h1 := (hI.rel.push (wt := wo) (nr := no)).len; have h2 := hI.rel.len; rw [List.length_append] at h1; simp at h1 ⊢; omega⟩, (by simp only; omega), (Le.mk (.cons rfl (by first | exact Sub.refl _ | exact Sub.ts | exact Sub.nil | (refine Sub.eq ?_; first | (simp; done) | (simp; omega))) (.cons rfl (by first | exact Sub.refl _ | exact Sub.ts | exact Sub.nil | (refine Sub.eq ?_; first | (simp; done) | (simp; omega))) (.cons rfl (by first | exact Sub.refl _ | exact Sub.ts | exact Sub.nil | (refine Sub.eq ?_; first | (simp; done) | (simp; omega))) (.cons rfl (by first | exact Sub.refl _ | exact Sub.ts | exact Sub.nil | (refine Sub.eq ?_; first | (simp; done) | (simp; omega))) (.nil))))) (.cons rfl (by first | rfl | (simp; done) | (simp [encR, rowR]; done)) (.cons rfl (by first | rfl | (simp; done) | (simp [encR, rowR]; done)) (.cons rfl (by first | rfl | (simp; done) | (simp [encR, rowR]; done)) (.cons rfl (by first | rfl | (simp; done) | (simp [encR, rowR]; done)) (.nil))))) rfl)⟩
          · skip
            refine awp_seq ?_
            refine awp_region ?_
            refine awl_move rfl rfl ?_
            first | refine awl_fieldAddr fi31_1_QuO rfl rfl ?_ | refine awl_fieldAddr_i fi31_1_QuO rfl rfl rfl ?_ | refine awl_field_m fi31_1_QuO rfl rfl rfl ?_
            first | refine awl_load_one ti3_QuO rfl rfl rfl rfl ?_ | refine awl_load_ione ti3_QuO rfl rfl rfl ?_ | refine awl_load_m1 ti3_QuO rfl rfl (by assumption) rfl rfl ?_
            first | refine awl_fieldAddr fi31_2_QuO rfl rfl ?_ | refine awl_fieldAddr_i fi31_2_QuO rfl rfl rfl ?_ | refine awl_field_m fi31_2_QuO rfl rfl rfl ?_
            first | refine awl_load_one ti3_QuO rfl rfl rfl rfl ?_ | refine awl_load_ione ti3_QuO rfl rfl rfl ?_ | refine awl_load_m1 ti3_QuO rfl rfl (by assumption) rfl rfl ?_
            refine x_build bi35_QuO tz35_QuO rfl rfl rfl ?_
            refine x_call [1000, 1001] fb8_QuO rfl rfl rfl (QPushF_con ver H n wo no (by have := hI.rel.len; omega)) (.cons (by first | exact Sub.refl _ | exact Sub.ts | exact Sub.nil | exact Sub.agc (by repeat (first | exact .nil | refine .cons (by first | exact Sub.refl _ | exact Sub.nil) ?_))) (.cons (by first | exact Sub.refl _ | exact Sub.ts | exact Sub.nil | exact Sub.agc (by repeat (first | exact .nil | refine .cons (by first | exact Sub.refl _ | exact Sub.nil) ?_))) .nil)) rfl (fun r o ⟨e1, e2⟩ => ?_)
            subst e1 e2
            refine ⟨by rw [hcx]; rfl, _, rfl, ?_⟩
            refine awl_assign rfl rfl ?_
            refine awl_nil ?_
            change AWp _ _ _ _ _ _
            refine awp_seq ?_
            refine awp_seq ?_
            refine awp_region ?_
            refine awl_move rfl rfl ?_
            refine awl_bin rfl rfl rfl rfl bin_eql ?_
            refine awl_move rfl rfl ?_
            refine awl_nilCheck rfl rfl rfl ?_
            first | refine awl_fieldAddr fi29_0_QuO rfl rfl ?_ | refine awl_fieldAddr_i fi29_0_QuO rfl rfl rfl ?_ | refine awl_field_m fi29_0_QuO rfl rfl rfl ?_
            first | refine awl_load_one ti27_QuO rfl rfl rfl rfl ?_ | refine awl_load_ione ti27_QuO rfl rfl rfl ?_ | refine awl_load_m1 ti27_QuO rfl rfl (by assumption) rfl rfl ?_
            first | refine x_len si27_QuO rfl rfl rfl (fun hlen234 => ?_) | refine awl_len_m si27_QuO rfl rfl rfl (fun hlen234 => ?_)
            refine awl_bin rfl rfl rfl rfl bin_lss ?_
            refine awl_bin rfl rfl rfl rfl (bool_neq Try.underlying4) ?_
            refine awl_sub (y := .p (B false)) (Sub.eq (B_eq (by simp; omega))) ?_
            refine awl_move rfl rfl ?_
            refine awl_guard_yes rfl (by first | exact rfl | exact decide_eq_true rfl | exact decide_eq_false rfl) rfl rfl ?_
            refine awl_move rfl rfl ?_
            refine awl_guard_yes rfl (by first | exact rfl | exact decide_eq_true rfl | exact decide_eq_false rfl) rfl rfl ?_
            refine awl_bin rfl rfl rfl rfl bin_neq ?_
            refine awl_guard_yes rfl (by first | exact rfl | exact decide_eq_true rfl | exact decide_eq_false rfl) rfl rfl ?_
            refine awl_move rfl rfl ?_
            refine awl_guard_yes rfl (by first | exact (by decide) | exact decide_eq_true (by decide) | exact decide_eq_false (by decide)) rfl rfl ?_
            refine awl_move rfl rfl ?_
            refine awl_guard_yes rfl (by first | exact (by decide) | exact decide_eq_true (by decide) | exact decide_eq_false (by decide)) rfl rfl ?_
            refine awl_bin rfl rfl rfl rfl bin_neq ?_
            refine awl_guard_yes rfl (by first | exact rfl | exact decide_eq_true rfl | exact decide_eq_false rfl) rfl rfl ?_
            refine awl_pick_t (by first | exact (by decide) | exact decide_eq_true (by decide) | exact decide_eq_false (by decide)) rfl rfl rfl ?_
            refine awl_pick_f (by first | exact rfl | exact decide_eq_true rfl | exact decide_eq_false rfl) rfl rfl rfl ?_
            refine awl_nil ?_
            change AWp _ _ _ _ _ _
            refine awp_cond_f (by first | exact (fun h => h rfl) | exact decide_eq_true (fun h => h rfl) | exact decide_eq_false (fun h => h rfl)) rfl ?_
            refine awp_skip ?_
            change AWp _ _ _ _ _ _
            refine awp_seq ?_
            refine awp_region ?_
            refine awl_move rfl rfl ?_
            refine awl_bin rfl rfl rfl rfl bin_eql ?_
            refine awl_nil ?_
            change AWp _ _ _ _ _ _
            refine awp_cond_f (by first | exact (by decide) | exact decide_eq_true (by decide) | exact decide_eq_false (by decide)) rfl ?_
            refine awp_skip ?_
            change AWp _ _ _ _ _ _
            refine awp_seq ?_
            refine awp_draw0 hmo_QuO (by kernel_rfl) ?_
            refine awd_q [(3, _)] (.cons rfl (.nil)) rfl rfl rfl ?_
            apply Exists.intro
            refine ⟨fun regs' => ?_, ?_⟩
            · skip
              refine awl_move rfl rfl ?_
              exact awl_done rfl
            refine awd_q [(197, _)] (.cons rfl (.nil)) rfl rfl rfl ?_
            apply Exists.intro
            refine ⟨fun regs' => ?_, ?_⟩
            · skip
              refine x_rcall [1000, 1001] fb15_QuO rfl rfl (QLen_con _ _ _) (.cons (by first | exact Sub.refl _ | exact Sub.ts | exact Sub.nil | exact Sub.agc (by repeat (first | exact .nil | refine .cons (by first | exact Sub.refl _ | exact Sub.nil) ?_))) .nil) rfl ?_
              exact awl_done rfl
            refine awd_q [(4, _)] (.cons rfl (.nil)) rfl rfl rfl ?_
            apply Exists.intro
            refine ⟨fun regs' => ?_, ?_⟩
            · skip
              refine awl_move rfl rfl ?_
              exact awl_done rfl
            refine awd_q [(199, _)] (.cons rfl (.nil)) rfl rfl rfl ?_
            apply Exists.intro
            refine ⟨fun regs' => ?_, ?_⟩
            · skip
              refine awl_nilCheck rfl rfl rfl ?_
              exact awl_done rfl
            refine awd_q [(200, _)] (.cons rfl (.nil)) rfl rfl rfl ?_
            apply Exists.intro
            refine ⟨fun regs' => ?_, ?_⟩
            · skip
              first | refine awl_fieldAddr fi29_0_QuO rfl rfl ?_ | refine awl_fieldAddr_i fi29_0_QuO rfl rfl rfl ?_ | refine awl_field_m fi29_0_QuO rfl rfl rfl ?_
              exact awl_done rfl
            refine awd_q [(201, _)] (.cons rfl (.nil)) rfl rfl rfl ?_
            apply Exists.intro
            refine ⟨fun regs' => ?_, ?_⟩
            · skip
              first | refine awl_load_one ti27_QuO rfl rfl rfl rfl ?_ | refine awl_load_ione ti27_QuO rfl rfl rfl ?_ | refine awl_load_m1 ti27_QuO rfl rfl (by assumption) rfl rfl ?_
              exact awl_done rfl
            refine awd_q [(202, _)] (.cons rfl (.nil)) rfl rfl rfl ?_
            apply Exists.intro
            refine ⟨fun regs' => ?_, ?_⟩
            · skip
              first | refine x_len si27_QuO rfl rfl rfl (fun hlen266 => ?_) | refine awl_len_m si27_QuO rfl rfl rfl (fun hlen266 => ?_)
              exact awl_done rfl
            refine awd_q [(198, _), (203, _)] (.cons rfl (.cons rfl (.nil))) rfl rfl rfl ?_
            apply Exists.intro
            refine ⟨fun regs' => ?_, ?_⟩
            · skip
              refine awl_bin rfl rfl rfl rfl bin_neq ?_
              exact awl_done rfl
            refine awd_nil ?_
            change AWp _ _ _ _ _ _
            refine awp_cond_f (by first | exact (fun h => h (by have := hI.rel.len; simp at this ⊢; omega)) | exact decide_eq_true (fun h => h (by have := hI.rel.len; simp at this ⊢; omega)) | exact decide_eq_false (fun h => h (by have := hI.rel.len; simp at this ⊢; omega))) rfl ?_
            refine awp_skip ?_
            change AWp _ _ _ _ _ _
            refine awp_region ?_
            refine awl_move rfl rfl ?_
            first | refine awl_bin rfl rfl rfl rfl (bin_add_i (by omega)) ?_ | refine awl_bin rfl rfl rfl rfl bin_add ?_
            refine awl_assign rfl rfl ?_
            refine awl_nil ?_
            change ∃ x', _
            refine ⟨(i + 1, H, M, n, ver), ⟨by simp only; omega, hI.rel, hI.n0, by have := hI.ni; simp only; omega, hI.h256⟩, (by simp only; omega), (Le.mk (.cons rfl (by first | exact Sub.refl _ | exact Sub.ts | exact Sub.nil | (refine Sub.eq ?_; first | (simp; done) | (simp; omega))) (.cons rfl (by first | exact Sub.refl _ | exact Sub.ts | exact Sub.nil | (refine Sub.eq ?_; first | (simp; done) | (simp; omega))) (.cons rfl (by first | exact Sub.refl _ | exact Sub.ts | exact Sub.nil | (refine Sub.eq ?_; first | (simp; done) | (simp; omega))) (.cons rfl (by first | exact Sub.refl _ | exact Sub.ts | exact Sub.nil | (refine Sub.eq ?_; first | (simp; done) | (simp; omega))) (.nil))))) (.cons rfl (by first | rfl | (simp; done) | (simp [encR, rowR]; done)) (.cons rfl (by first | rfl | (simp; done) | (simp [encR, rowR]; done)) (.cons rfl (by first | rfl | (simp; done) | (simp [encR, rowR]; done)) (.cons rfl (by first | rfl | (simp; done) | (simp [encR, rowR]; done)) (.nil))))) rfl)⟩
        · skip
          refine awp_seq ?_
          refine awp_region ?_
          refine awl_bin rfl rfl rfl rfl bin_eql ?_
          refine awl_assign rfl rfl ?_
          refine awl_nil ?_
          change AWp _ _ _ _ _ _
          first | refine awp_cond_p rfl (fun c2 => ?_) (fun c2 => ?_) | refine awp_cond rfl (fun c2 => ?_) (fun c2 => ?_)
          · skip
            rcases Nat.lt_or_ge 0 M.length with hful | hful
            · skip
              obtain ⟨hf0, hk, he⟩ := hI.rel.first hful
              have hlenM := hI.rel.len
              refine awp_seq ?_
              refine awp_region ?_
              refine awl_move rfl rfl ?_
              refine x_call [1000, 1001] fb9_QuO rfl rfl rfl (QPop_con ver H n (by have := hI.rel.len; omega) (by have := hI.h256; omega)) (.cons (by first | exact Sub.refl _ | exact Sub.ts | exact Sub.nil | exact Sub.agc (by repeat (first | exact .nil | refine .cons (by first | exact Sub.refl _ | exact Sub.nil) ?_))) .nil) rfl (fun r o ⟨e1, e2⟩ => ?_)
              subst e1 e2
              refine ⟨by rw [hcx]; rfl, _, rfl, ?_⟩
              refine awl_move rfl rfl ?_
              refine awl_extract rfl rfl rfl ?_
              refine awl_extract rfl rfl rfl ?_
              refine x_alloc tz35_QuO rfl rfl (by rw [hcx]; rfl) rfl ?_
              first | refine x_store ti35_QuO rfl rfl rfl rfl rfl rfl rfl rfl ?_ | refine awl_store_m ti35_QuO rfl rfl rfl (by first | omega | (simp; omega)) rfl rfl rfl rfl ?_
              refine awl_assign rfl rfl ?_
              refine awl_nil ?_
              change AWp _ _ _ _ _ _
              refine awp_seq ?_
              refine awp_region ?_
              refine awl_move rfl rfl ?_
              refine x_rcall [24, 2001] fb10_QuO rfl rfl (First_con _ (by first | (have := hI.rel.len; have := hI.h256; omega) | decide)) (.cons (by first | exact Sub.refl _ | exact Sub.ts | exact Sub.nil | exact Sub.agc (by repeat (first | exact .nil | refine .cons (by first | exact Sub.refl _ | exact Sub.nil) ?_))) .nil) rfl ?_
              refine awl_assign rfl rfl ?_
              refine awl_nil ?_
              change AWp _ _ _ _ _ _
              refine awp_seq ?_
              refine awp_seq ?_
              refine awp_region ?_
              refine awl_move rfl rfl ?_
              refine awl_bin rfl rfl rfl rfl bin_eql ?_
              refine awl_move rfl rfl ?_
              refine awl_bin rfl rfl rfl rfl bin_geq ?_
              refine awl_bin rfl rfl rfl rfl (bool_neq Try.underlying4) ?_
              refine awl_sub (y := .p (B false)) (Sub.eq (B_eq (by simp; omega))) ?_
              refine awl_move rfl rfl ?_
              refine awl_guard_yes rfl (by first | exact rfl | exact decide_eq_true rfl | exact decide_eq_false rfl) rfl rfl ?_
              refine awl_move rfl rfl ?_
              refine awl_guard_yes rfl (by first | exact rfl | exact decide_eq_true rfl | exact decide_eq_false rfl) rfl rfl ?_
              refine awl_bin rfl rfl rfl rfl bin_neq ?_
              refine awl_guard_yes rfl (by first | exact rfl | exact decide_eq_true rfl | exact decide_eq_false rfl) rfl rfl ?_
              refine awl_move rfl rfl ?_
              refine awl_guard_no rfl (by first | exact (fun h => h rfl) | exact decide_eq_true (fun h => h rfl) | exact decide_eq_false (fun h => h rfl)) rfl rfl rfl rfl ?_
              refine awl_guard_no rfl (by first | exact (fun h => h rfl) | exact decide_eq_true (fun h => h rfl) | exact decide_eq_false (fun h => h rfl)) rfl rfl rfl rfl ?_
              refine awl_guard_no rfl (by first | exact (fun h => h rfl) | exact decide_eq_true (fun h => h rfl) | exact decide_eq_false (fun h => h rfl)) rfl rfl rfl rfl ?_
              refine awl_guard_un rfl rfl rfl rfl rfl ?_
              refine awl_guard_un rfl rfl rfl rfl rfl ?_
              refine awl_guard_un rfl rfl rfl rfl rfl ?_
              refine awl_guard_no rfl (by first | exact (fun h => h rfl) | exact decide_eq_true (fun h => h rfl) | exact decide_eq_false (fun h => h rfl)) rfl rfl rfl rfl ?_
              refine awl_guard_yes rfl (by first | exact rfl | exact decide_eq_true rfl | exact decide_eq_false rfl) rfl rfl ?_
              refine awl_pick_f (by first | exact (fun h => h rfl) | exact decide_eq_true (fun h => h rfl) | exact decide_eq_false (fun h => h rfl)) rfl rfl rfl ?_
              refine awl_pick_f (by first | exact rfl | exact decide_eq_true rfl | exact decide_eq_false rfl) rfl rfl rfl ?_
              refine awl_nil ?_
              change AWp _ _ _ _ _ _
              refine awp_cond_f rfl rfl ?_
              refine awp_skip ?_
              change AWp _ _ _ _ _ _
              refine awp_seq ?_
              refine awp_region ?_
              refine awl_move rfl rfl ?_
              refine awl_bin rfl rfl rfl rfl bin_geq ?_
              refine awl_nil ?_
              change AWp _ _ _ _ _ _
              refine awp_cond_t (by first | exact (by omega) | exact decide_eq_true (by omega) | exact decide_eq_false (by omega)) rfl ?_
              refine awp_seq ?_
              refine awp_region ?_
              refine awl_move rfl rfl ?_
              refine awl_move rfl rfl ?_
              refine awl_sub (y := .p (I (((fF M M.length).toNat : Nat) : Int))) (Sub.eq (I_eq (by omega))) ?_
              refine x_call [24, 2001] fb11_QuO rfl rfl rfl (Take_con M (fF M M.length).toNat hk (by have := hI.rel.len; have := hI.h256; omega)) (.cons (by first | exact Sub.refl _ | exact Sub.ts | exact Sub.nil | exact Sub.agc (by repeat (first | exact .nil | refine .cons (by first | exact Sub.refl _ | exact Sub.nil) ?_))) (.cons (by first | exact Sub.refl _ | exact Sub.ts | exact Sub.nil | exact Sub.agc (by repeat (first | exact .nil | refine .cons (by first | exact Sub.refl _ | exact Sub.nil) ?_))) .nil)) rfl (fun r o ⟨e1, e2⟩ => ?_)
              subst e1 e2
              refine ⟨by rw [hcx]; rfl, _, rfl, ?_⟩
              rw [he]
              refine awl_le (Le.trans (Le.sw 14 2001 hcx) (Le.mk (s' := ⟨[(0, .p (.sl 3 (encO ops))), (3, .ptr 1000 0), (4, .ptr 24 0), (5, .p (I i)), (8, .ptr 8 0), (119, .ag [.p (I (H.getD 0 e0).w), .p (I (H.getD 0 e0).n)])], [(1000, qh (ver + 1) n), (1001, qa (ver + 1) (popF H)), (8, .ce 35 [.p (I (H.getD 0 e0).w), .p (I (H.getD 0 e0).n)]), (24, .ce 29 [.ts 2001 2 (encR (M.eraseIdx (fF M M.length).toNat))]), (2001, .ar 36 2 (M.eraseIdx (fF M M.length).toNat).length)]⟩) (.cons rfl (Sub.eq rfl) (.cons rfl (Sub.eq rfl) (.cons rfl (Sub.eq rfl) (.cons rfl (Sub.eq rfl) (.cons rfl (Sub.eq rfl) (.cons rfl (Sub.eq rfl) (.nil))))))) (.cons rfl rfl (.cons rfl rfl (.cons rfl rfl (.cons rfl rfl (.cons rfl rfl (.nil)))))) rfl)) ?_
              refine x_alloc tz36_QuO rfl rfl (by rw [hcx]; rfl) rfl ?_
              first | refine x_store ti36_QuO rfl rfl rfl rfl rfl rfl rfl rfl ?_ | refine awl_store_m ti36_QuO rfl rfl rfl (by first | omega | (simp; omega)) rfl rfl rfl rfl ?_
              refine awl_nil ?_
              change AWp _ _ _ _ _ _
              refine awp_seq ?_
              refine awp_region ?_
              first | refine awl_fieldAddr fi35_0_QuO rfl rfl ?_ | refine awl_fieldAddr_i fi35_0_QuO rfl rfl rfl ?_ | refine awl_field_m fi35_0_QuO rfl rfl rfl ?_
              first | refine awl_load_one ti3_QuO rfl rfl rfl rfl ?_ | refine awl_load_ione ti3_QuO rfl rfl rfl ?_ | refine awl_load_m1 ti3_QuO rfl rfl (by assumption) rfl rfl ?_
              first | refine awl_fieldAddr fi36_0_QuO rfl rfl ?_ | refine awl_fieldAddr_i fi36_0_QuO rfl rfl rfl ?_ | refine awl_field_m fi36_0_QuO rfl rfl rfl ?_
              first | refine awl_load_one ti3_QuO rfl rfl rfl rfl ?_ | refine awl_load_ione ti3_QuO rfl rfl rfl ?_ | refine awl_load_m1 ti3_QuO rfl rfl (by assumption) rfl rfl ?_
              refine awl_bin rfl rfl rfl rfl bin_neq ?_
              refine awl_move rfl rfl ?_
              refine awl_guard_yes rfl (by first | exact (fun h => h rfl) | exact decide_eq_true (fun h => h rfl) | exact decide_eq_false (fun h => h rfl)) rfl rfl ?_
              first | refine awl_fieldAddr fi35_1_QuO rfl rfl ?_ | refine awl_fieldAddr_i fi35_1_QuO rfl rfl rfl ?_ | refine awl_field_m fi35_1_QuO rfl rfl rfl ?_
              refine awl_guard_yes rfl (by first | exact (fun h => h rfl) | exact decide_eq_true (fun h => h rfl) | exact decide_eq_false (fun h => h rfl)) rfl rfl ?_
              first | refine awl_load_one ti3_QuO rfl rfl rfl rfl ?_ | refine awl_load_ione ti3_QuO rfl rfl rfl ?_ | refine awl_load_m1 ti3_QuO rfl rfl (by assumption) rfl rfl ?_
              refine awl_guard_yes rfl (by first | exact (fun h => h rfl) | exact decide_eq_true (fun h => h rfl) | exact decide_eq_false (fun h => h rfl)) rfl rfl ?_
              first | refine awl_fieldAddr fi36_1_QuO rfl rfl ?_ | refine awl_fieldAddr_i fi36_1_QuO rfl rfl rfl ?_ | refine awl_field_m fi36_1_QuO rfl rfl rfl ?_
              refine awl_guard_yes rfl (by first | exact (fun h => h rfl) | exact decide_eq_true (fun h => h rfl) | exact decide_eq_false (fun h => h rfl)) rfl rfl ?_
              first | refine awl_load_one ti3_QuO rfl rfl rfl rfl ?_ | refine awl_load_ione ti3_QuO rfl rfl rfl ?_ | refine awl_load_m1 ti3_QuO rfl rfl (by assumption) rfl rfl ?_
              refine awl_guard_yes rfl (by first | exact (fun h => h rfl) | exact decide_eq_true (fun h => h rfl) | exact decide_eq_false (fun h => h rfl)) rfl rfl ?_
              refine awl_bin rfl rfl rfl rfl bin_neq ?_
              refine awl_pick_f (by first | exact (fun h => h rfl) | exact decide_eq_true (fun h => h rfl) | exact decide_eq_false (fun h => h rfl)) rfl rfl rfl ?_
              refine awl_nil ?_
              change AWp _ _ _ _ _ _
              refine awp_cond_f (by first | exact (fun h => h rfl) | exact decide_eq_true (fun h => h rfl) | exact decide_eq_false (fun h => h rfl)) rfl ?_
              refine awp_skip ?_
              change AWp _ _ _ _ _ _
              refine awp_seq ?_
              refine awp_draw0 hmo_QuO (by kernel_rfl) ?_
              refine awd_q [(3, _)] (.cons rfl (.nil)) rfl rfl rfl ?_
              apply Exists.intro
              refine ⟨fun regs' => ?_, ?_⟩
              · skip
                refine awl_move rfl rfl ?_
                exact awl_done rfl
              refine awd_q [(197, _)] (.cons rfl (.nil)) rfl rfl rfl ?_
              apply Exists.intro
              refine ⟨fun regs' => ?_, ?_⟩
              · skip
                refine x_rcall [1000, 1001] fb15_QuO rfl rfl (QLen_con _ _ _) (.cons (by first | exact Sub.refl _ | exact Sub.ts | exact Sub.nil | exact Sub.agc (by repeat (first | exact .nil | refine .cons (by first | exact Sub.refl _ | exact Sub.nil) ?_))) .nil) rfl ?_
                exact awl_done rfl
              refine awd_q [(4, _)] (.cons rfl (.nil)) rfl rfl rfl ?_
              apply Exists.intro
              refine ⟨fun regs' => ?_, ?_⟩
              · skip
                refine awl_move rfl rfl ?_
                exact awl_done rfl
              refine awd_q [(199, _)] (.cons rfl (.nil)) rfl rfl rfl ?_
              apply Exists.intro
              refine ⟨fun regs' => ?_, ?_⟩
              · skip
                refine awl_nilCheck rfl rfl rfl ?_
                exact awl_done rfl
              refine awd_q [(200, _)] (.cons rfl (.nil)) rfl rfl rfl ?_
              apply Exists.intro
              refine ⟨fun regs' => ?_, ?_⟩
              · skip
                first | refine awl_fieldAddr fi29_0_QuO rfl rfl ?_ | refine awl_fieldAddr_i fi29_0_QuO rfl rfl rfl ?_ | refine awl_field_m fi29_0_QuO rfl rfl rfl ?_
                exact awl_done rfl
              refine awd_q [(201, _)] (.cons rfl (.nil)) rfl rfl rfl ?_
              apply Exists.intro
              refine ⟨fun regs' => ?_, ?_⟩
              · skip
                first | refine awl_load_one ti27_QuO rfl rfl rfl rfl ?_ | refine awl_load_ione ti27_QuO rfl rfl rfl ?_ | refine awl_load_m1 ti27_QuO rfl rfl (by assumption) rfl rfl ?_
                exact awl_done rfl
              refine awd_q [(202, _)] (.cons rfl (.nil)) rfl rfl rfl ?_
              apply Exists.intro
              refine ⟨fun regs' => ?_, ?_⟩
              · skip
                first | refine x_len si27_QuO rfl rfl rfl (fun hlen345 => ?_) | refine awl_len_m si27_QuO rfl rfl rfl (fun hlen345 => ?_)
                exact awl_done rfl
              refine awd_q [(198, _), (203, _)] (.cons rfl (.cons rfl (.nil))) rfl rfl rfl ?_
              apply Exists.intro
              refine ⟨fun regs' => ?_, ?_⟩
              · skip
                refine awl_bin rfl rfl rfl rfl bin_neq ?_
                exact awl_done rfl
              refine awd_nil ?_
              change AWp _ _ _ _ _ _
              refine awp_cond_f (by first | exact (fun h => h (by have := (hI.rel.pop hful).len; simp at this ⊢; omega)) | exact decide_eq_true (fun h => h (by have := (hI.rel.pop hful).len; simp at this ⊢; omega)) | exact decide_eq_false (fun h => h (by have := (hI.rel.pop hful).len; simp at this ⊢; omega))) rfl ?_
              refine awp_skip ?_
              change AWp _ _ _ _ _ _
              refine awp_region ?_
              refine awl_move rfl rfl ?_
              first | refine awl_bin rfl rfl rfl rfl (bin_add_i (by omega)) ?_ | refine awl_bin rfl rfl rfl rfl bin_add ?_
              refine awl_assign rfl rfl ?_
              refine awl_nil ?_
              change ∃ x', _
              refine ⟨(i + 1, popF H, M.eraseIdx (fF M M.length).toNat, n, ver + 1), ⟨by simp only; omega, hI.rel.pop hful, hI.n0, by have := hI.ni; simp only; omega, by have := (hI.rel.pop hful).len; have := hI.rel.len; have := hI.h256; have := (List.eraseIdx_sublist M (fF M M.length).toNat).length_le; simp only at *; omega⟩, (by simp only; omega), (Le.mk (.cons rfl (by first | exact Sub.refl _ | exact Sub.ts | exact Sub.nil | (refine Sub.eq ?_; first | (simp; done) | (simp; omega))) (.cons rfl (by first | exact Sub.refl _ | exact Sub.ts | exact Sub.nil | (refine Sub.eq ?_; first | (simp; done) | (simp; omega))) (.cons rfl (by first | exact Sub.refl _ | exact Sub.ts | exact Sub.nil | (refine Sub.eq ?_; first | (simp; done) | (simp; omega))) (.cons rfl (by first | exact Sub.refl _ | exact Sub.ts | exact Sub.nil | (refine Sub.eq ?_; first | (simp; done) | (simp; omega))) (.nil))))) (.cons rfl (by first | rfl | (simp; done) | (simp [encR, rowR]; done)) (.cons rfl (by first | rfl | (simp; done) | (simp [encR, rowR]; done)) (.cons rfl (by first | rfl | (simp; done) | (simp [encR, rowR]; done)) (.cons rfl (by first | rfl | (simp; done) | (simp [encR, rowR]; done)) (.nil))))) rfl)⟩
            · skip
              obtain rfl : M = [] := List.eq_nil_of_length_eq_zero (by omega)
              obtain rfl : H = [] := List.eq_nil_of_length_eq_zero hI.rel.len
              refine awp_seq ?_
              refine awp_region ?_
              refine awl_move rfl rfl ?_
              refine x_call [1000, 1001] fb9_QuO rfl rfl rfl (QPop0_con ver n) (.cons (by first | exact Sub.refl _ | exact Sub.ts | exact Sub.nil | exact Sub.agc (by repeat (first | exact .nil | refine .cons (by first | exact Sub.refl _ | exact Sub.nil) ?_))) .nil) rfl (fun r o ⟨e1, e2⟩ => ?_)
              subst e1 e2
              refine ⟨by rw [hcx]; rfl, _, rfl, ?_⟩
              refine awl_move rfl rfl ?_
              refine awl_extract rfl rfl rfl ?_
              refine awl_extract rfl rfl rfl ?_
              refine x_alloc tz35_QuO rfl rfl (by rw [hcx]; rfl) rfl ?_
              first | refine x_store ti35_QuO rfl rfl rfl rfl rfl rfl rfl rfl ?_ | refine awl_store_m ti35_QuO rfl rfl rfl (by first | omega | (simp; omega)) rfl rfl rfl rfl ?_
              refine awl_assign rfl rfl ?_
              refine awl_nil ?_
              change AWp _ _ _ _ _ _
              refine awp_seq ?_
              refine awp_region ?_
              refine awl_move rfl rfl ?_
              refine x_rcall [24, 2001] fb10_QuO rfl rfl (First_con _ (by first | (have := hI.rel.len; have := hI.h256; omega) | decide)) (.cons (by first | exact Sub.refl _ | exact Sub.ts | exact Sub.nil | exact Sub.agc (by repeat (first | exact .nil | refine .cons (by first | exact Sub.refl _ | exact Sub.nil) ?_))) .nil) rfl ?_
              refine awl_assign rfl rfl ?_
              refine awl_nil ?_
              change AWp _ _ _ _ _ _
              refine awp_seq ?_
              refine awp_seq ?_
              refine awp_region ?_
              refine awl_move rfl rfl ?_
              refine awl_bin rfl rfl rfl rfl bin_eql ?_
              refine awl_move rfl rfl ?_
              refine awl_bin rfl rfl rfl rfl bin_geq ?_
              refine awl_bin rfl rfl rfl rfl (bool_neq Try.underlying4) ?_
              refine awl_sub (y := .p (B false)) (Sub.eq (B_eq (by decide))) ?_
              refine awl_move rfl rfl ?_
              refine awl_guard_yes rfl (by first | exact rfl | exact decide_eq_true rfl | exact decide_eq_false rfl) rfl rfl ?_
              refine awl_move rfl rfl ?_
              refine awl_guard_yes rfl (by first | exact rfl | exact decide_eq_true rfl | exact decide_eq_false rfl) rfl rfl ?_
              refine awl_bin rfl rfl rfl rfl bin_neq ?_
              refine awl_guard_yes rfl (by first | exact rfl | exact decide_eq_true rfl | exact decide_eq_false rfl) rfl rfl ?_
              refine awl_move rfl rfl ?_
              refine awl_guard_yes rfl (by first | exact (by decide) | exact decide_eq_true (by decide) | exact decide_eq_false (by decide)) rfl rfl ?_
              refine awl_move rfl rfl ?_
              refine awl_guard_yes rfl (by first | exact (by decide) | exact decide_eq_true (by decide) | exact decide_eq_false (by decide)) rfl rfl ?_
              refine awl_bin rfl rfl rfl rfl bin_neq ?_
              refine awl_guard_yes rfl (by first | exact (by decide) | exact decide_eq_true (by decide) | exact decide_eq_false (by decide)) rfl rfl ?_
              refine awl_move rfl rfl ?_
              refine awl_guard_yes rfl (by first | exact (fun h => h rfl) | exact decide_eq_true (fun h => h rfl) | exact decide_eq_false (fun h => h rfl)) rfl rfl ?_
              first | refine awl_load_row ti35_QuO rfl rfl rfl rfl ?_ | refine x_irow ti35_QuO rfl rfl rfl rfl ?_ | refine awl_load_m ti35_QuO rfl rfl (by assumption) rfl rfl ?_
              refine awl_guard_yes rfl (by first | exact (fun h => h rfl) | exact decide_eq_true (fun h => h rfl) | exact decide_eq_false (fun h => h rfl)) rfl rfl ?_
              refine x_build bi35_QuO tz35_QuO rfl rfl rfl ?_
              refine awl_guard_yes rfl (by first | exact (fun h => h rfl) | exact decide_eq_true (fun h => h rfl) | exact decide_eq_false (fun h => h rfl)) rfl rfl ?_
              refine x_nes eq35_QuO rfl rfl rfl rfl rfl rfl rfl rfl ?_
              refine awl_guard_yes rfl (by first | exact (by decide) | exact decide_eq_true (by decide) | exact decide_eq_false (by decide)) rfl rfl ?_
              refine awl_pick_f (by first | exact (fun h => h rfl) | exact decide_eq_true (fun h => h rfl) | exact decide_eq_false (fun h => h rfl)) rfl rfl rfl ?_
              refine awl_guard_yes rfl (by first | exact rfl | exact decide_eq_true rfl | exact decide_eq_false rfl) rfl rfl ?_
              refine awl_pick_t (by first | exact (by decide) | exact decide_eq_true (by decide) | exact decide_eq_false (by decide)) rfl rfl rfl ?_
              refine awl_pick_f (by first | exact rfl | exact decide_eq_true rfl | exact decide_eq_false rfl) rfl rfl rfl ?_
              refine awl_nil ?_
              change AWp _ _ _ _ _ _
              refine awp_cond_f (by first | exact rfl | exact decide_eq_true rfl | exact decide_eq_false rfl) rfl ?_
              refine awp_skip ?_
              change AWp _ _ _ _ _ _
              refine awp_seq ?_
              refine awp_region ?_
              refine awl_move rfl rfl ?_
              refine awl_bin rfl rfl rfl rfl bin_geq ?_
              refine awl_nil ?_
              change AWp _ _ _ _ _ _
              refine awp_cond_f (by first | exact (by decide) | exact decide_eq_true (by decide) | exact decide_eq_false (by decide)) rfl ?_
              refine awp_skip ?_
              change AWp _ _ _ _ _ _
              refine awp_seq ?_
              refine awp_draw0 hmo_QuO (by kernel_rfl) ?_
              refine awd_q [(3, _)] (.cons rfl (.nil)) rfl rfl rfl ?_
              apply Exists.intro
              refine ⟨fun regs' => ?_, ?_⟩
              · skip
                refine awl_move rfl rfl ?_
                exact awl_done rfl
              refine awd_q [(197, _)] (.cons rfl (.nil)) rfl rfl rfl ?_
              apply Exists.intro
              refine ⟨fun regs' => ?_, ?_⟩
              · skip
                refine x_rcall [1000, 1001] fb15_QuO rfl rfl (QLen_con _ _ _) (.cons (by first | exact Sub.refl _ | exact Sub.ts | exact Sub.nil | exact Sub.agc (by repeat (first | exact .nil | refine .cons (by first | exact Sub.refl _ | exact Sub.nil) ?_))) .nil) rfl ?_
                exact awl_done rfl
              refine awd_q [(4, _)] (.cons rfl (.nil)) rfl rfl rfl ?_
              apply Exists.intro
              refine ⟨fun regs' => ?_, ?_⟩
              · skip
                refine awl_move rfl rfl ?_
                exact awl_done rfl
              refine awd_q [(199, _)] (.cons rfl (.nil)) rfl rfl rfl ?_
              apply Exists.intro
              refine ⟨fun regs' => ?_, ?_⟩
              · skip
                refine awl_nilCheck rfl rfl rfl ?_
                exact awl_done rfl
              refine awd_q [(200, _)] (.cons rfl (.nil)) rfl rfl rfl ?_
              apply Exists.intro
              refine ⟨fun regs' => ?_, ?_⟩
              · skip
                first | refine awl_fieldAddr fi29_0_QuO rfl rfl ?_ | refine awl_fieldAddr_i fi29_0_QuO rfl rfl rfl ?_ | refine awl_field_m fi29_0_QuO rfl rfl rfl ?_
                exact awl_done rfl
              refine awd_q [(201, _)] (.cons rfl (.nil)) rfl rfl rfl ?_
              apply Exists.intro
              refine ⟨fun regs' => ?_, ?_⟩
              · skip
                first | refine awl_load_one ti27_QuO rfl rfl rfl rfl ?_ | refine awl_load_ione ti27_QuO rfl rfl rfl ?_ | refine awl_load_m1 ti27_QuO rfl rfl (by assumption) rfl rfl ?_
                exact awl_done rfl
              refine awd_q [(202, _)] (.cons rfl (.nil)) rfl rfl rfl ?_
              apply Exists.intro
              refine ⟨fun regs' => ?_, ?_⟩
              · skip
                first | refine x_len si27_QuO rfl rfl rfl (fun hlen407 => ?_) | refine awl_len_m si27_QuO rfl rfl rfl (fun hlen407 => ?_)
                exact awl_done rfl
              refine awd_q [(198, _), (203, _)] (.cons rfl (.cons rfl (.nil))) rfl rfl rfl ?_
              apply Exists.intro
              refine ⟨fun regs' => ?_, ?_⟩
              · skip
                refine awl_bin rfl rfl rfl rfl bin_neq ?_
                exact awl_done rfl
              refine awd_nil ?_
              change AWp _ _ _ _ _ _
              refine awp_cond_f (by first | exact (fun h => h rfl) | exact decide_eq_true (fun h => h rfl) | exact decide_eq_false (fun h => h rfl)) rfl ?_
              refine awp_skip ?_
              change AWp _ _ _ _ _ _
              refine awp_region ?_
              refine awl_move rfl rfl ?_
              first | refine awl_bin rfl rfl rfl rfl (bin_add_i (by omega)) ?_ | refine awl_bin rfl rfl rfl rfl bin_add ?_
              refine awl_assign rfl rfl ?_
              refine awl_nil ?_
              change ∃ x', _
              refine ⟨(i + 1, [], [], n, ver), ⟨by simp only; omega, hI.rel, hI.n0, by have := hI.ni; simp only; omega, hI.h256⟩, (by simp only; omega), (Le.mk (.cons rfl (by first | exact Sub.refl _ | exact Sub.ts | exact Sub.nil | (refine Sub.eq ?_; first | (simp; done) | (simp; omega))) (.cons rfl (by first | exact Sub.refl _ | exact Sub.ts | exact Sub.nil | (refine Sub.eq ?_; first | (simp; done) | (simp; omega))) (.cons rfl (by first | exact Sub.refl _ | exact Sub.ts | exact Sub.nil | (refine Sub.eq ?_; first | (simp; done) | (simp; omega))) (.cons rfl (by first | exact Sub.refl _ | exact Sub.ts | exact Sub.nil | (refine Sub.eq ?_; first | (simp; done) | (simp; omega))) (.nil))))) (.cons rfl (by first | rfl | (simp; done) | (simp [encR, rowR]; done)) (.cons rfl (by first | rfl | (simp; done) | (simp [encR, rowR]; done)) (.cons rfl (by first | rfl | (simp; done) | (simp [encR, rowR]; done)) (.cons rfl (by first | rfl | (simp; done) | (simp [encR, rowR]; done)) (.nil))))) rfl)⟩
          · skip
            refine awp_seq ?_
            refine awp_region ?_
            refine awl_bin rfl rfl rfl rfl bin_eql ?_
            refine awl_assign rfl rfl ?_
            refine awl_nil ?_
            change AWp _ _ _ _ _ _
            first | refine awp_cond_p rfl (fun c3 => ?_) (fun c3 => ?_) | refine awp_cond rfl (fun c3 => ?_) (fun c3 => ?_)
            · skip
              skip
              · skip
                refine awp_seq ?_
                refine awp_region ?_
                first | refine awl_fieldAddr fi31_1_QuO rfl rfl ?_ | refine awl_fieldAddr_i fi31_1_QuO rfl rfl rfl ?_ | refine awl_field_m fi31_1_QuO rfl rfl rfl ?_
                first | refine awl_load_one ti3_QuO rfl rfl rfl rfl ?_ | refine awl_load_ione ti3_QuO rfl rfl rfl ?_ | refine awl_load_m1 ti3_QuO rfl rfl (by assumption) rfl rfl ?_
                refine awl_bin rfl rfl rfl rfl (bin_remt (by decide)) ?_
                first | refine awl_bin rfl rfl rfl rfl (bin_add_i (by omega)) ?_ | refine awl_bin rfl rfl rfl rfl bin_add ?_
                refine awl_bin rfl rfl rfl rfl (bin_rem (by omega)) ?_
                refine awl_sub (y := .p (I (r4 wo))) (Sub.eq rfl) ?_
                refine x_build bi42_QuO tz42_QuO rfl rfl rfl ?_
                refine x_alloc tz42_QuO rfl rfl (by rw [hcx]; rfl) rfl ?_
                first | refine x_store ti42_QuO rfl rfl rfl rfl rfl rfl rfl rfl ?_ | refine awl_store_m ti42_QuO rfl rfl rfl (by first | omega | (simp; omega)) rfl rfl rfl rfl ?_
                refine awl_nil ?_
                change AWp _ _ _ _ _ _
                refine awp_seq ?_
                refine awp_region ?_
                refine awl_move rfl rfl ?_
                first | refine awl_load_row ti42_QuO rfl rfl rfl rfl ?_ | refine x_irow ti42_QuO rfl rfl rfl rfl ?_ | refine awl_load_m ti42_QuO rfl rfl (by assumption) rfl rfl ?_
                refine awl_mkfun rfl rfl rfl ?_
                refine x_call [1000, 1001] fb12_QuO rfl rfl rfl (Drop_con ver H n (r4 wo) (by have := hI.h256; omega)) (.cons (by first | exact Sub.refl _ | exact Sub.ts | exact Sub.nil | exact Sub.agc (by repeat (first | exact .nil | refine .cons (by first | exact Sub.refl _ | exact Sub.nil) ?_))) (.cons (by first | exact Sub.refl _ | exact Sub.ts | exact Sub.nil | exact Sub.agc (by repeat (first | exact .nil | refine .cons (by first | exact Sub.refl _ | exact Sub.nil) ?_))) .nil)) rfl (fun r o ⟨v, e1, e2⟩ => ?_)
                subst e1 e2
                refine ⟨by rw [hcx]; rfl, _, rfl, ?_⟩
                refine awl_assign rfl rfl ?_
                refine awl_nil ?_
                change AWp _ _ _ _ _ _
                refine awp_seq ?_
                refine awp_region ?_
                refine awl_assign rfl rfl ?_
                first | refine awl_le (Le.tok 14 2002 36 2 rfl rfl (by rw [hcx]; rfl)) ?_ | skip
                refine awl_nil ?_
                change AWp _ _ _ _ _ _
                refine awp_seq ?_
                refine awp_seq ?_
                refine awp_region ?_
                refine awl_assign rfl rfl ?_
                refine awl_nil ?_
                change AWp _ _ _ _ _ _
                refine awp_block ?_
                refine x_loop [(0, _), (3, _), (4, _), (5, _), (12, _), (13, _)] [(1000, _), (1001, _), (24, _), (2001, _), (12, _)] (fun x : Nat => [(14, .ts 2002 2 (encR (keepE (r4 wo) (M.take x)))), (15, .p (I x))]) (fun x => [(2002, .ar 36 2 (keepE (r4 wo) (M.take x)).length)]) (fun x => x ≤ M.length) (fun x => M.length - x) 0 (Le.mk (.cons rfl (by first | exact Sub.refl _ | exact Sub.ts | exact Sub.nil | (refine Sub.eq ?_; first | (simp; done) | (simp; omega) | (first | (rw [hk1]; done) | (rw [hk1]; rfl)))) (.cons rfl (by first | exact Sub.refl _ | exact Sub.ts | exact Sub.nil | (refine Sub.eq ?_; first | (simp; done) | (simp; omega) | (first | (rw [hk1]; done) | (rw [hk1]; rfl)))) (.cons rfl (by first | exact Sub.refl _ | exact Sub.ts | exact Sub.nil | (refine Sub.eq ?_; first | (simp; done) | (simp; omega) | (first | (rw [hk1]; done) | (rw [hk1]; rfl)))) (.cons rfl (by first | exact Sub.refl _ | exact Sub.ts | exact Sub.nil | (refine Sub.eq ?_; first | (simp; done) | (simp; omega) | (first | (rw [hk1]; done) | (rw [hk1]; rfl)))) (.cons rfl (by first | exact Sub.refl _ | exact Sub.ts | exact Sub.nil | (refine Sub.eq ?_; first | (simp; done) | (simp; omega) | (first | (rw [hk1]; done) | (rw [hk1]; rfl)))) (.cons rfl (by first | exact Sub.refl _ | exact Sub.ts | exact Sub.nil | (refine Sub.eq ?_; first | (simp; done) | (simp; omega) | (first | (rw [hk1]; done) | (rw [hk1]; rfl)))) (.cons rfl (by first | exact Sub.refl _ | exact Sub.ts | exact Sub.nil | (refine Sub.eq ?_; first | (simp; done) | (simp; omega) | (first | (rw [hk1]; done) | (rw [hk1]; rfl)))) (.cons rfl (by first | exact Sub.refl _ | exact Sub.ts | exact Sub.nil | (refine Sub.eq ?_; first | (simp; done) | (simp; omega) | (first | (rw [hk1]; done) | (rw [hk1]; rfl)))) (.nil))))))))) (.cons rfl (by first | rfl | (simp; done) | (simp [hk2]; done)) (.cons rfl (by first | rfl | (simp; done) | (simp [hk2]; done)) (.cons rfl (by first | rfl | (simp; done) | (simp [hk2]; done)) (.cons rfl (by first | rfl | (simp; done) | (simp [hk2]; done)) (.cons rfl (by first | rfl | (simp; done) | (simp [hk2]; done)) (.cons rfl (by first | rfl | (simp; done) | (simp [hk2]; done)) (.nil))))))) rfl) (Nat.zero_le _) (fun x hx => ?_)
                obtain ⟨j, hj⟩ : ∃ j, j = x := ⟨x, rfl⟩
                subst hj
                have hjM : j ≤ M.length := hx
                dsimp only [List.cons_append, List.nil_append]
                refine awp_seq ?_
                refine awp_seq ?_
                refine awp_region ?_
                refine awl_move rfl rfl ?_
                refine awl_move rfl rfl ?_
                refine awl_nilCheck rfl rfl rfl ?_
                first | refine awl_fieldAddr fi29_0_QuO rfl rfl ?_ | refine awl_fieldAddr_i fi29_0_QuO rfl rfl rfl ?_ | refine awl_field_m fi29_0_QuO rfl rfl rfl ?_
                first | refine awl_load_one ti27_QuO rfl rfl rfl rfl ?_ | refine awl_load_ione ti27_QuO rfl rfl rfl ?_ | refine awl_load_m1 ti27_QuO rfl rfl (by assumption) rfl rfl ?_
                first | refine x_len si27_QuO rfl rfl rfl (fun hlen436 => ?_) | refine awl_len_m si27_QuO rfl rfl rfl (fun hlen436 => ?_)
                refine awl_bin rfl rfl rfl rfl bin_lss ?_
                refine awl_nil ?_
                change AWp _ _ _ _ _ _
                first | refine awp_cond_p rfl (fun hl => ?_) (fun hl => ?_) | refine awp_cond rfl (fun hl => ?_) (fun hl => ?_)
                · skip
                  have hkb : (keepE (r4 wo) (M.take j)).length ≤ 256 := by have h1 := keep_le (r4 wo) (M.take j); rw [List.length_take] at h1; omega
                  have hrowM := encR_at (l := M) (i := (j : Int)) (by omega) (by omega)
                  have hks := keep_succ (r := r4 wo) (xs := M) (k := j) (by omega)
                  refine awp_skip ?_
                  change AWp _ _ _ _ _ _
                  refine awp_seq ?_
                  refine awp_block ?_
                  refine awp_seq ?_
                  refine awp_draw0 hmo_QuO (by kernel_rfl) ?_
                  refine awd_q [(12, _)] (.cons rfl (.nil)) rfl rfl rfl ?_
                  apply Exists.intro
                  refine ⟨fun regs' => ?_, ?_⟩
                  · skip
                    first | refine awl_load_row ti42_QuO rfl rfl rfl rfl ?_ | refine x_irow ti42_QuO rfl rfl rfl rfl ?_ | refine awl_load_m ti42_QuO rfl rfl (by assumption) rfl rfl ?_
                    exact awl_done rfl
                  refine awd_q [(4, _)] (.cons rfl (.nil)) rfl rfl rfl ?_
                  apply Exists.intro
                  refine ⟨fun regs' => ?_, ?_⟩
                  · skip
                    refine awl_move rfl rfl ?_
                    exact awl_done rfl
                  refine awd_q [(154, _)] (.cons rfl (.nil)) rfl rfl rfl ?_
                  apply Exists.intro
                  refine ⟨fun regs' => ?_, ?_⟩
                  · skip
                    refine awl_nilCheck rfl rfl rfl ?_
                    exact awl_done rfl
                  refine awd_q [(155, _)] (.cons rfl (.nil)) rfl rfl rfl ?_
                  apply Exists.intro
                  refine ⟨fun regs' => ?_, ?_⟩
                  · skip
                    first | refine awl_fieldAddr fi29_0_QuO rfl rfl ?_ | refine awl_fieldAddr_i fi29_0_QuO rfl rfl rfl ?_ | refine awl_field_m fi29_0_QuO rfl rfl rfl ?_
                    exact awl_done rfl
                  refine awd_q [(156, _)] (.cons rfl (.nil)) rfl rfl rfl ?_
                  apply Exists.intro
                  refine ⟨fun regs' => ?_, ?_⟩
                  · skip
                    first | refine awl_load_one ti27_QuO rfl rfl rfl rfl ?_ | refine awl_load_ione ti27_QuO rfl rfl rfl ?_ | refine awl_load_m1 ti27_QuO rfl rfl (by assumption) rfl rfl ?_
                    exact awl_done rfl
                  refine awd_q [(15, _)] (.cons rfl (.nil)) rfl rfl rfl ?_
                  apply Exists.intro
                  refine ⟨fun regs' => ?_, ?_⟩
                  · skip
                    refine awl_move rfl rfl ?_
                    exact awl_done rfl
                  refine awd_q [(157, _), (158, _)] (.cons rfl (.cons rfl (.nil))) rfl rfl rfl ?_
                  apply Exists.intro
                  refine ⟨fun regs' => ?_, ?_⟩
                  · skip
                    refine x_index si27_QuO ti36_QuO rfl rfl rfl rfl (by omega) (by first | omega | (simp only [List.length_map]; omega) | (simp; omega)) (by exact hrowM) rfl ?_
                    exact awl_done rfl
                  refine awd_q [(159, _)] (.cons rfl (.nil)) rfl rfl rfl ?_
                  apply Exists.intro
                  refine ⟨fun regs' => ?_, ?_⟩
                  · skip
                    first | refine awl_fieldAddr fi36_0_QuO rfl rfl ?_ | refine awl_fieldAddr_i fi36_0_QuO rfl rfl rfl ?_ | refine awl_field_m fi36_0_QuO rfl rfl rfl ?_
                    exact awl_done rfl
                  refine awd_q [(160, _)] (.cons rfl (.nil)) rfl rfl rfl ?_
                  apply Exists.intro
                  refine ⟨fun regs' => ?_, ?_⟩
                  · skip
                    first | refine awl_load_one ti3_QuO rfl rfl rfl rfl ?_ | refine awl_load_ione ti3_QuO rfl rfl rfl ?_ | refine awl_load_m1 ti3_QuO rfl rfl (by assumption) rfl rfl ?_
                    exact awl_done rfl
                  refine awd_q [(4, _)] (.cons rfl (.nil)) rfl rfl rfl ?_
                  apply Exists.intro
                  refine ⟨fun regs' => ?_, ?_⟩
                  · skip
                    refine awl_move rfl rfl ?_
                    exact awl_done rfl
                  refine awd_q [(162, _)] (.cons rfl (.nil)) rfl rfl rfl ?_
                  apply Exists.intro
                  refine ⟨fun regs' => ?_, ?_⟩
                  · skip
                    refine awl_nilCheck rfl rfl rfl ?_
                    exact awl_done rfl
                  refine awd_q [(163, _)] (.cons rfl (.nil)) rfl rfl rfl ?_
                  apply Exists.intro
                  refine ⟨fun regs' => ?_, ?_⟩
                  · skip
                    first | refine awl_fieldAddr fi29_0_QuO rfl rfl ?_ | refine awl_fieldAddr_i fi29_0_QuO rfl rfl rfl ?_ | refine awl_field_m fi29_0_QuO rfl rfl rfl ?_
                    exact awl_done rfl
                  refine awd_q [(164, _)] (.cons rfl (.nil)) rfl rfl rfl ?_
                  apply Exists.intro
                  refine ⟨fun regs' => ?_, ?_⟩
                  · skip
                    first | refine awl_load_one ti27_QuO rfl rfl rfl rfl ?_ | refine awl_load_ione ti27_QuO rfl rfl rfl ?_ | refine awl_load_m1 ti27_QuO rfl rfl (by assumption) rfl rfl ?_
                    exact awl_done rfl
                  refine awd_q [(15, _)] (.cons rfl (.nil)) rfl rfl rfl ?_
                  apply Exists.intro
                  refine ⟨fun regs' => ?_, ?_⟩
                  · skip
                    refine awl_move rfl rfl ?_
                    exact awl_done rfl
                  refine awd_q [(165, _), (166, _)] (.cons rfl (.cons rfl (.nil))) rfl rfl rfl ?_
                  apply Exists.intro
                  refine ⟨fun regs' => ?_, ?_⟩
                  · skip
                    refine x_index si27_QuO ti36_QuO rfl rfl rfl rfl (by omega) (by first | omega | (simp only [List.length_map]; omega) | (simp; omega)) (by exact hrowM) rfl ?_
                    exact awl_done rfl
                  refine awd_q [(167, _)] (.cons rfl (.nil)) rfl rfl rfl ?_
                  apply Exists.intro
                  refine ⟨fun regs' => ?_, ?_⟩
                  · skip
                    first | refine awl_fieldAddr fi36_1_QuO rfl rfl ?_ | refine awl_fieldAddr_i fi36_1_QuO rfl rfl rfl ?_ | refine awl_field_m fi36_1_QuO rfl rfl rfl ?_
                    exact awl_done rfl
                  refine awd_q [(168, _)] (.cons rfl (.nil)) rfl rfl rfl ?_
                  apply Exists.intro
                  refine ⟨fun regs' => ?_, ?_⟩
                  · skip
                    first | refine awl_load_one ti3_QuO rfl rfl rfl rfl ?_ | refine awl_load_ione ti3_QuO rfl rfl rfl ?_ | refine awl_load_m1 ti3_QuO rfl rfl (by assumption) rfl rfl ?_
                    exact awl_done rfl
                  refine awd_q [(161, _), (169, _)] (.cons rfl (.cons rfl (.nil))) rfl rfl rfl ?_
                  apply Exists.intro
                  refine ⟨fun regs' => ?_, ?_⟩
                  · skip
                    refine x_build bi35_QuO tz35_QuO rfl rfl rfl ?_
                    exact awl_done rfl
                  refine awd_q [(153, _), (170, _)] (.cons rfl (.cons rfl (.nil))) rfl rfl rfl ?_
                  apply Exists.intro
                  refine ⟨fun regs' => ?_, ?_⟩
                  · skip
                    refine awl_pcall fb13_QuO rfl (is_con (r4 wo) (M.getD j e0).w (M.getD j e0).n) (.cons (by first | exact Sub.refl _ | exact Sub.ts | exact Sub.nil | exact Sub.agc (by repeat (first | exact .nil | refine .cons (by first | exact Sub.refl _ | exact Sub.nil) ?_))) (.cons (by first | exact Sub.refl _ | exact Sub.ts | exact Sub.nil | exact Sub.agc (by repeat (first | exact .nil | refine .cons (by first | exact Sub.refl _ | exact Sub.nil) ?_))) .nil)) rfl ?_
                    exact awl_done rfl
                  refine awd_q [(171, _)] (.cons rfl (.nil)) rfl rfl rfl ?_
                  apply Exists.intro
                  refine ⟨fun regs' => ?_, ?_⟩
                  · skip
                    first | refine awl_un rfl rfl rfl un_notd ?_ | refine awl_un rfl rfl rfl un_not ?_
                    exact awl_done rfl
                  refine awd_nil ?_
                  change AWp _ _ _ _ _ _
                  first | refine awp_cond_p rfl (fun hs => ?_) (fun hs => ?_) | refine awp_cond rfl (fun hs => ?_) (fun hs => ?_)
                  · skip
                    have hk1 : encR (keepE (r4 wo) (M.take (j + 1))) = encR (keepE (r4 wo) (M.take j)) ++ [rowR (M.getD j e0)] := by rw [hks, if_neg (by simpa [isE] using hs), encR, List.map_append]; rfl
                    have hk2 : (keepE (r4 wo) (M.take (j + 1))).length = (keepE (r4 wo) (M.take j)).length + 1 := by have := congrArg List.length hk1; simpa using this
                    refine awp_region ?_
                    refine awl_move rfl rfl ?_
                    refine awl_move rfl rfl ?_
                    refine awl_nilCheck rfl rfl rfl ?_
                    first | refine awl_fieldAddr fi29_0_QuO rfl rfl ?_ | refine awl_fieldAddr_i fi29_0_QuO rfl rfl rfl ?_ | refine awl_field_m fi29_0_QuO rfl rfl rfl ?_
                    first | refine awl_load_one ti27_QuO rfl rfl rfl rfl ?_ | refine awl_load_ione ti27_QuO rfl rfl rfl ?_ | refine awl_load_m1 ti27_QuO rfl rfl (by assumption) rfl rfl ?_
                    refine awl_move rfl rfl ?_
                    refine x_index si27_QuO ti36_QuO rfl rfl rfl rfl (by omega) (by first | omega | (simp only [List.length_map]; omega) | (simp; omega)) (by exact hrowM) rfl ?_
                    first | refine awl_load_row ti36_QuO rfl rfl rfl rfl ?_ | refine x_irow ti36_QuO rfl rfl rfl rfl ?_ | refine awl_load_m ti36_QuO rfl rfl (by assumption) rfl rfl ?_
                    refine x_slice si27_QuO ei36_QuO rfl rfl rfl rfl ?_
                    first | refine x_append si27_QuO ei36_QuO rfl rfl (by first | rfl | simp) rfl rfl rfl (.inl rfl) rfl rfl (by simp; omega) (by simp; omega) ?_ | refine awl_append_nil si27_QuO ei36_QuO rfl rfl (by rw [hcx]; rfl) rfl rfl rfl (.inl rfl) (by simp; omega) (by simp; omega) rfl ?_ | refine awl_append_m si27_QuO ei36_QuO rfl rfl rfl rfl rfl rfl rfl (by simp; omega) (by simp; omega) ?_ | refine awl_append_m2 si27_QuO ei36_QuO rfl rfl rfl rfl rfl rfl rfl (by simp; omega) (by simp; omega) ?_
                    refine awl_assign rfl rfl ?_
                    first | refine awl_le (Le.tok 14 2002 36 2 rfl rfl (by rw [hcx]; rfl)) ?_ | skip
                    refine awl_nil ?_
                    change AWp _ _ _ _ _ _
                    refine awp_region ?_
                    refine awl_move rfl rfl ?_
                    first | refine awl_bin rfl rfl rfl rfl (bin_add_i (by omega)) ?_ | refine awl_bin rfl rfl rfl rfl bin_add ?_
                    refine awl_assign rfl rfl ?_
                    refine awl_nil ?_
                    change ∃ x', _
                    refine ⟨(j + 1), (show j + 1 ≤ M.length by omega), (by omega), (Le.mk (.cons rfl (by first | exact Sub.refl _ | exact Sub.ts | exact Sub.nil | (refine Sub.eq ?_; first | (simp; done) | (simp; omega) | (first | (rw [hk1]; done) | (rw [hk1]; rfl)))) (.cons rfl (by first | exact Sub.refl _ | exact Sub.ts | exact Sub.nil | (refine Sub.eq ?_; first | (simp; done) | (simp; omega) | (first | (rw [hk1]; done) | (rw [hk1]; rfl)))) (.cons rfl (by first | exact Sub.refl _ | exact Sub.ts | exact Sub.nil | (refine Sub.eq ?_; first | (simp; done) | (simp; omega) | (first | (rw [hk1]; done) | (rw [hk1]; rfl)))) (.cons rfl (by first | exact Sub.refl _ | exact Sub.ts | exact Sub.nil | (refine Sub.eq ?_; first | (simp; done) | (simp; omega) | (first | (rw [hk1]; done) | (rw [hk1]; rfl)))) (.cons rfl (by first | exact Sub.refl _ | exact Sub.ts | exact Sub.nil | (refine Sub.eq ?_; first | (simp; done) | (simp; omega) | (first | (rw [hk1]; done) | (rw [hk1]; rfl)))) (.cons rfl (by first | exact Sub.refl _ | exact Sub.ts | exact Sub.nil | (refine Sub.eq ?_; first | (simp; done) | (simp; omega) | (first | (rw [hk1]; done) | (rw [hk1]; rfl)))) (.cons rfl (by first | exact Sub.refl _ | exact Sub.ts | exact Sub.nil | (refine Sub.eq ?_; first | (simp; done) | (simp; omega) | (first | (rw [hk1]; done) | (rw [hk1]; rfl)))) (.cons rfl (by first | exact Sub.refl _ | exact Sub.ts | exact Sub.nil | (refine Sub.eq ?_; first | (simp; done) | (simp; omega) | (first | (rw [hk1]; done) | (rw [hk1]; rfl)))) (.nil))))))))) (.cons rfl (by first | rfl | (simp; done) | (simp [hk2]; done)) (.cons rfl (by first | rfl | (simp; done) | (simp [hk2]; done)) (.cons rfl (by first | rfl | (simp; done) | (simp [hk2]; done)) (.cons rfl (by first | rfl | (simp; done) | (simp [hk2]; done)) (.cons rfl (by first | rfl | (simp; done) | (simp [hk2]; done)) (.cons rfl (by first | rfl | (simp; done) | (simp [hk2]; done)) (.nil))))))) rfl)⟩
                  · skip
                    have hk0 : keepE (r4 wo) (M.take (j + 1)) = keepE (r4 wo) (M.take j) := by rw [hks, if_pos (by simpa [isE] using hs), List.append_nil]
                    have hk1 : encR (keepE (r4 wo) (M.take (j + 1))) = encR (keepE (r4 wo) (M.take j)) := by rw [hk0]
                    have hk2 : (keepE (r4 wo) (M.take (j + 1))).length = (keepE (r4 wo) (M.take j)).length := by rw [hk0]
                    refine awp_skip ?_
                    change AWp _ _ _ _ _ _
                    refine awp_region ?_
                    refine awl_move rfl rfl ?_
                    first | refine awl_bin rfl rfl rfl rfl (bin_add_i (by omega)) ?_ | refine awl_bin rfl rfl rfl rfl bin_add ?_
                    refine awl_assign rfl rfl ?_
                    refine awl_nil ?_
                    change ∃ x', _
                    refine ⟨(j + 1), (show j + 1 ≤ M.length by omega), (by omega), (Le.mk (.cons rfl (by first | exact Sub.refl _ | exact Sub.ts | exact Sub.nil | (refine Sub.eq ?_; first | (simp; done) | (simp; omega) | (first | (rw [hk1]; done) | (rw [hk1]; rfl)))) (.cons rfl (by first | exact Sub.refl _ | exact Sub.ts | exact Sub.nil | (refine Sub.eq ?_; first | (simp; done) | (simp; omega) | (first | (rw [hk1]; done) | (rw [hk1]; rfl)))) (.cons rfl (by first | exact Sub.refl _ | exact Sub.ts | exact Sub.nil | (refine Sub.eq ?_; first | (simp; done) | (simp; omega) | (first | (rw [hk1]; done) | (rw [hk1]; rfl)))) (.cons rfl (by first | exact Sub.refl _ | exact Sub.ts | exact Sub.nil | (refine Sub.eq ?_; first | (simp; done) | (simp; omega) | (first | (rw [hk1]; done) | (rw [hk1]; rfl)))) (.cons rfl (by first | exact Sub.refl _ | exact Sub.ts | exact Sub.nil | (refine Sub.eq ?_; first | (simp; done) | (simp; omega) | (first | (rw [hk1]; done) | (rw [hk1]; rfl)))) (.cons rfl (by first | exact Sub.refl _ | exact Sub.ts | exact Sub.nil | (refine Sub.eq ?_; first | (simp; done) | (simp; omega) | (first | (rw [hk1]; done) | (rw [hk1]; rfl)))) (.cons rfl (by first | exact Sub.refl _ | exact Sub.ts | exact Sub.nil | (refine Sub.eq ?_; first | (simp; done) | (simp; omega) | (first | (rw [hk1]; done) | (rw [hk1]; rfl)))) (.cons rfl (by first | exact Sub.refl _ | exact Sub.ts | exact Sub.nil | (refine Sub.eq ?_; first | (simp; done) | (simp; omega) | (first | (rw [hk1]; done) | (rw [hk1]; rfl)))) (.nil))))))))) (.cons rfl (by first | rfl | (simp; done) | (simp [hk2]; done)) (.cons rfl (by first | rfl | (simp; done) | (simp [hk2]; done)) (.cons rfl (by first | rfl | (simp; done) | (simp [hk2]; done)) (.cons rfl (by first | rfl | (simp; done) | (simp [hk2]; done)) (.cons rfl (by first | rfl | (simp; done) | (simp [hk2]; done)) (.cons rfl (by first | rfl | (simp; done) | (simp [hk2]; done)) (.nil))))))) rfl)⟩
                · skip
                  obtain rfl : j = M.length := by omega
                  rw [List.take_length]
                  refine awp_exit ?_
                  change AWp _ _ _ _ _ _
                  refine awp_seq ?_
                  refine awp_seq ?_
                  refine awp_region ?_
                  refine awl_move rfl rfl ?_
                  refine awl_move rfl rfl ?_
                  refine awl_nilCheck rfl rfl rfl ?_
                  first | refine awl_fieldAddr fi29_0_QuO rfl rfl ?_ | refine awl_fieldAddr_i fi29_0_QuO rfl rfl rfl ?_ | refine awl_field_m fi29_0_QuO rfl rfl rfl ?_
                  first | refine awl_load_one ti27_QuO rfl rfl rfl rfl ?_ | refine awl_load_ione ti27_QuO rfl rfl rfl ?_ | refine awl_load_m1 ti27_QuO rfl rfl (by assumption) rfl rfl ?_
                  first | refine x_len si27_QuO rfl rfl rfl (fun hlen483 => ?_) | refine awl_len_m si27_QuO rfl rfl rfl (fun hlen483 => ?_)
                  refine awl_move rfl rfl ?_
                  first | refine x_len si27_QuO rfl rfl rfl (fun hlen486 => ?_) | refine awl_len_m si27_QuO rfl rfl rfl (fun hlen486 => ?_)
                  first | refine awl_bin rfl rfl rfl rfl (bin_sub_i (by omega)) ?_ | refine awl_bin rfl rfl rfl rfl bin_sub ?_
                  refine awl_bin rfl rfl rfl rfl bin_neq ?_
                  refine awl_nil ?_
                  change AWp _ _ _ _ _ _
                  refine awp_cond_f (by first | exact (fun h => h (by have := hI.rel.len; have := (hI.rel.drop (r4 wo)).len; simp only [encR_len]; omega)) | exact decide_eq_true (fun h => h (by have := hI.rel.len; have := (hI.rel.drop (r4 wo)).len; simp only [encR_len]; omega)) | exact decide_eq_false (fun h => h (by have := hI.rel.len; have := (hI.rel.drop (r4 wo)).len; simp only [encR_len]; omega))) rfl ?_
                  refine awp_skip ?_
                  change AWp _ _ _ _ _ _
                  refine awp_region ?_
                  refine awl_move rfl rfl ?_
                  refine awl_move rfl rfl ?_
                  refine awl_nilCheck rfl rfl rfl ?_
                  first | refine awl_fieldAddr fi29_0_QuO rfl rfl ?_ | refine awl_fieldAddr_i fi29_0_QuO rfl rfl rfl ?_ | refine awl_field_m fi29_0_QuO rfl rfl rfl ?_
                  first | refine x_store ti27_QuO rfl rfl rfl rfl rfl rfl rfl rfl ?_ | refine awl_store_m ti27_QuO rfl rfl rfl (by first | omega | (simp; omega)) rfl rfl rfl rfl ?_
                  refine awl_nil ?_
                  change AWp _ _ _ _ _ _
                  refine awp_seq ?_
                  refine awp_draw0 hmo_QuO (by kernel_rfl) ?_
                  refine awd_q [(3, _)] (.cons rfl (.nil)) rfl rfl rfl ?_
                  apply Exists.intro
                  refine ⟨fun regs' => ?_, ?_⟩
                  · skip
                    refine awl_move rfl rfl ?_
                    exact awl_done rfl
                  refine awd_q [(197, _)] (.cons rfl (.nil)) rfl rfl rfl ?_
                  apply Exists.intro
                  refine ⟨fun regs' => ?_, ?_⟩
                  · skip
                    refine x_rcall [1000, 1001] fb15_QuO rfl rfl (QLen_con _ _ _) (.cons (by first | exact Sub.refl _ | exact Sub.ts | exact Sub.nil | exact Sub.agc (by repeat (first | exact .nil | refine .cons (by first | exact Sub.refl _ | exact Sub.nil) ?_))) .nil) rfl ?_
                    exact awl_done rfl
                  refine awd_q [(4, _)] (.cons rfl (.nil)) rfl rfl rfl ?_
                  apply Exists.intro
                  refine ⟨fun regs' => ?_, ?_⟩
                  · skip
                    refine awl_move rfl rfl ?_
                    exact awl_done rfl
                  refine awd_q [(199, _)] (.cons rfl (.nil)) rfl rfl rfl ?_
                  apply Exists.intro
                  refine ⟨fun regs' => ?_, ?_⟩
                  · skip
                    refine awl_nilCheck rfl rfl rfl ?_
                    exact awl_done rfl
                  refine awd_q [(200, _)] (.cons rfl (.nil)) rfl rfl rfl ?_
                  apply Exists.intro
                  refine ⟨fun regs' => ?_, ?_⟩
                  · skip
                    first | refine awl_fieldAddr fi29_0_QuO rfl rfl ?_ | refine awl_fieldAddr_i fi29_0_QuO rfl rfl rfl ?_ | refine awl_field_m fi29_0_QuO rfl rfl rfl ?_
                    exact awl_done rfl
                  refine awd_q [(201, _)] (.cons rfl (.nil)) rfl rfl rfl ?_
                  apply Exists.intro
                  refine ⟨fun regs' => ?_, ?_⟩
                  · skip
                    first | refine awl_load_one ti27_QuO rfl rfl rfl rfl ?_ | refine awl_load_ione ti27_QuO rfl rfl rfl ?_ | refine awl_load_m1 ti27_QuO rfl rfl (by assumption) rfl rfl ?_
                    exact awl_done rfl
                  refine awd_q [(202, _)] (.cons rfl (.nil)) rfl rfl rfl ?_
                  apply Exists.intro
                  refine ⟨fun regs' => ?_, ?_⟩
                  · skip
                    first | refine x_len si27_QuO rfl rfl rfl (fun hlen501 => ?_) | refine awl_len_m si27_QuO rfl rfl rfl (fun hlen501 => ?_)
                    exact awl_done rfl
                  refine awd_q [(198, _), (203, _)] (.cons rfl (.cons rfl (.nil))) rfl rfl rfl ?_
                  apply Exists.intro
                  refine ⟨fun regs' => ?_, ?_⟩
                  · skip
                    refine awl_bin rfl rfl rfl rfl bin_neq ?_
                    exact awl_done rfl
                  refine awd_nil ?_
                  change AWp _ _ _ _ _ _
                  refine awp_cond_f (by first | exact (fun h => h (by have h9 := (hI.rel.drop (r4 wo)).len; rw [encR_len]; omega)) | exact decide_eq_true (fun h => h (by have h9 := (hI.rel.drop (r4 wo)).len; rw [encR_len]; omega)) | exact decide_eq_false (fun h => h (by have h9 := (hI.rel.drop (r4 wo)).len; rw [encR_len]; omega))) rfl ?_
                  refine awp_skip ?_
                  change AWp _ _ _ _ _ _
                  refine awp_region ?_
                  refine awl_move rfl rfl ?_
                  first | refine awl_bin rfl rfl rfl rfl (bin_add_i (by omega)) ?_ | refine awl_bin rfl rfl rfl rfl bin_add ?_
                  refine awl_assign rfl rfl ?_
                  refine awl_nil ?_
                  change ∃ x', _
                  refine ⟨(i + 1, dropF (r4 wo) H, keepE (r4 wo) M, n, v), ⟨by simp only; omega, hI.rel.drop _, hI.n0, by have := hI.ni; simp only; omega, by have := (hI.rel.drop (r4 wo)).len; have := hI.rel.len; have := hI.h256; have := keep_le (r4 wo) M; simp only at *; omega⟩, (by simp only; omega), (Le.trans (Le.sw 2002 2001 hcx) (Le.mk (.cons rfl (by first | exact Sub.refl _ | exact Sub.ts | exact Sub.nil | (refine Sub.eq ?_; first | (simp; done) | (simp; omega))) (.cons rfl (by first | exact Sub.refl _ | exact Sub.ts | exact Sub.nil | (refine Sub.eq ?_; first | (simp; done) | (simp; omega))) (.cons rfl (by first | exact Sub.refl _ | exact Sub.ts | exact Sub.nil | (refine Sub.eq ?_; first | (simp; done) | (simp; omega))) (.cons rfl (by first | exact Sub.refl _ | exact Sub.ts | exact Sub.nil | (refine Sub.eq ?_; first | (simp; done) | (simp; omega))) (.nil))))) (.cons rfl (by first | rfl | (simp; done) | (simp [encR, rowR]; done)) (.cons rfl (by first | rfl | (simp; done) | (simp [encR, rowR]; done)) (.cons rfl (by first | rfl | (simp; done) | (simp [encR, rowR]; done)) (.cons rfl (by first | rfl | (simp; done) | (simp [encR, rowR]; done)) (.nil))))) rfl))⟩
            · skip
              skip
              · skip
                refine awp_seq ?_
                refine awp_region ?_
                refine awl_move rfl rfl ?_
                refine x_call [1000, 1001] fb14_QuO rfl rfl rfl (Copy_con ver H n (by have := hI.h256; omega)) (.cons (by first | exact Sub.refl _ | exact Sub.ts | exact Sub.nil | exact Sub.agc (by repeat (first | exact .nil | refine .cons (by first | exact Sub.refl _ | exact Sub.nil) ?_))) .nil) rfl (fun r o ⟨e1, e2⟩ => ?_)
                subst e1 e2
                refine ⟨by rw [hcx]; rfl, _, rfl, ?_⟩
                refine awl_le (Le.objs (objs' := [(1000, _), (1001, _), (15, _), (5, _), (24, _), (2001, _)]) (.cons rfl rfl (.cons rfl rfl (.cons rfl rfl (.cons rfl rfl (.cons rfl rfl (.cons rfl rfl .nil)))))) rfl) ?_
                refine awl_assign rfl rfl ?_
                refine awl_nil ?_
                change AWp _ _ _ _ _ _
                refine awp_seq ?_
                refine awp_region ?_
                refine awl_move rfl rfl ?_
                refine x_call [1000, 1001] fb9_QuO rfl rfl rfl (QPopX_con ver H n (by have := hI.h256; omega)) (.cons (by first | exact Sub.refl _ | exact Sub.ts | exact Sub.nil | exact Sub.agc (by repeat (first | exact .nil | refine .cons (by first | exact Sub.refl _ | exact Sub.nil) ?_))) .nil) rfl (fun r o ⟨⟨a1, b1, c9, e1⟩, v1, ys1, e2⟩ => ?_)
                subst e1 e2
                refine ⟨by rw [hcx]; rfl, _, rfl, ?_⟩
                refine awl_nil ?_
                change AWp _ _ _ _ _ _
                refine awp_region ?_
                refine awl_move rfl rfl ?_
                refine awl_assign rfl rfl ?_
                refine awl_le (Le.trans (Le.sw 15 1000 hcx) (Le.trans (Le.sw 5 1001 hcx) (Le.mk (s' := ⟨[(0, .p (.sl 3 (encO ops))), (3, .ptr 1000 0), (4, .ptr 24 0), (5, .p (I i))], [(1000, qh 1 n), (1001, qa 1 H), (24, .ce 29 [.ts 2001 2 (encR M)]), (2001, .ar 36 2 M.length)]⟩) (.cons rfl (Sub.eq rfl) (.cons rfl (Sub.eq rfl) (.cons rfl (Sub.eq rfl) (.cons rfl (Sub.eq rfl) (.nil))))) (.cons rfl rfl (.cons rfl rfl (.cons rfl rfl (.cons rfl rfl (.nil))))) rfl))) ?_
                refine awl_nil ?_
                change AWp _ _ _ _ _ _
                refine awp_seq ?_
                refine awp_draw0 hmo_QuO (by kernel_rfl) ?_
                refine awd_q [(3, _)] (.cons rfl (.nil)) rfl rfl rfl ?_
                apply Exists.intro
                refine ⟨fun regs' => ?_, ?_⟩
                · skip
                  refine awl_move rfl rfl ?_
                  exact awl_done rfl
                refine awd_q [(197, _)] (.cons rfl (.nil)) rfl rfl rfl ?_
                apply Exists.intro
                refine ⟨fun regs' => ?_, ?_⟩
                · skip
                  refine x_rcall [1000, 1001] fb15_QuO rfl rfl (QLen_con _ _ _) (.cons (by first | exact Sub.refl _ | exact Sub.ts | exact Sub.nil | exact Sub.agc (by repeat (first | exact .nil | refine .cons (by first | exact Sub.refl _ | exact Sub.nil) ?_))) .nil) rfl ?_
                  exact awl_done rfl
                refine awd_q [(4, _)] (.cons rfl (.nil)) rfl rfl rfl ?_
                apply Exists.intro
                refine ⟨fun regs' => ?_, ?_⟩
                · skip
                  refine awl_move rfl rfl ?_
                  exact awl_done rfl
                refine awd_q [(199, _)] (.cons rfl (.nil)) rfl rfl rfl ?_
                apply Exists.intro
                refine ⟨fun regs' => ?_, ?_⟩
                · skip
                  refine awl_nilCheck rfl rfl rfl ?_
                  exact awl_done rfl
                refine awd_q [(200, _)] (.cons rfl (.nil)) rfl rfl rfl ?_
                apply Exists.intro
                refine ⟨fun regs' => ?_, ?_⟩
                · skip
                  first | refine awl_fieldAddr fi29_0_QuO rfl rfl ?_ | refine awl_fieldAddr_i fi29_0_QuO rfl rfl rfl ?_ | refine awl_field_m fi29_0_QuO rfl rfl rfl ?_
                  exact awl_done rfl
                refine awd_q [(201, _)] (.cons rfl (.nil)) rfl rfl rfl ?_
                apply Exists.intro
                refine ⟨fun regs' => ?_, ?_⟩
                · skip
                  first | refine awl_load_one ti27_QuO rfl rfl rfl rfl ?_ | refine awl_load_ione ti27_QuO rfl rfl rfl ?_ | refine awl_load_m1 ti27_QuO rfl rfl (by assumption) rfl rfl ?_
                  exact awl_done rfl
                refine awd_q [(202, _)] (.cons rfl (.nil)) rfl rfl rfl ?_
                apply Exists.intro
                refine ⟨fun regs' => ?_, ?_⟩
                · skip
                  first | refine x_len si27_QuO rfl rfl rfl (fun hlen521 => ?_) | refine awl_len_m si27_QuO rfl rfl rfl (fun hlen521 => ?_)
                  exact awl_done rfl
                refine awd_q [(198, _), (203, _)] (.cons rfl (.cons rfl (.nil))) rfl rfl rfl ?_
                apply Exists.intro
                refine ⟨fun regs' => ?_, ?_⟩
                · skip
                  refine awl_bin rfl rfl rfl rfl bin_neq ?_
                  exact awl_done rfl
                refine awd_nil ?_
                change AWp _ _ _ _ _ _
                refine awp_cond_f (by first | exact (fun h => h (by have := hI.rel.len; simp at this ⊢; omega)) | exact decide_eq_true (fun h => h (by have := hI.rel.len; simp at this ⊢; omega)) | exact decide_eq_false (fun h => h (by have := hI.rel.len; simp at this ⊢; omega))) rfl ?_
                refine awp_skip ?_
                change AWp _ _ _ _ _ _
                refine awp_region ?_
                refine awl_move rfl rfl ?_
                first | refine awl_bin rfl rfl rfl rfl (bin_add_i (by omega)) ?_ | refine awl_bin rfl rfl rfl rfl bin_add ?_
                refine awl_assign rfl rfl ?_
                refine awl_nil ?_
                change ∃ x', _
                refine ⟨(i + 1, H, M, n, 1), ⟨by simp only; omega, hI.rel, hI.n0, by have := hI.ni; simp only; omega, hI.h256⟩, (by simp only; omega), (Le.mk (.cons rfl (by first | exact Sub.refl _ | exact Sub.ts | exact Sub.nil | (refine Sub.eq ?_; first | (simp; done) | (simp; omega))) (.cons rfl (by first | exact Sub.refl _ | exact Sub.ts | exact Sub.nil | (refine Sub.eq ?_; first | (simp; done) | (simp; omega))) (.cons rfl (by first | exact Sub.refl _ | exact Sub.ts | exact Sub.nil | (refine Sub.eq ?_; first | (simp; done) | (simp; omega))) (.cons rfl (by first | exact Sub.refl _ | exact Sub.ts | exact Sub.nil | (refine Sub.eq ?_; first | (simp; done) | (simp; omega))) (.nil))))) (.cons rfl (by first | rfl | (simp; done) | (simp [encR, rowR]; done)) (.cons rfl (by first | rfl | (simp; done) | (simp [encR, rowR]; done)) (.cons rfl (by first | rfl | (simp; done) | (simp [encR, rowR]; done)) (.cons rfl (by first | rfl | (simp; done) | (simp [encR, rowR]; done)) (.nil))))) rfl)⟩
    · skip
      refine awp_exit ?_
      change AWp _ _ _ _ _ _
      refine awp_seq ?_
      refine awp_region ?_
      refine awl_assign rfl rfl ?_
      refine awl_nil ?_
      change AWp _ _ _ _ _ _
      refine awp_ret ?_
      change Ends _ _ _ _ _ _
      refine ends1 [] rfl (.tmp rfl) ?_ rfl
      exact ⟨rfl, rfl⟩

end Go.Ab.Ytnennmlpaijedaa
