/- Meters: what New, Step, Less and Fits answer, in the program and in the document. -/
import Derived.Test.YtfgndomaadikoaaMeB
import Derived.Test.YtfgndomaadikoaaAb16
set_option linter.unusedVariables false
set_option linter.unusedSimpArgs false
namespace Go.Ab.Ytfgndomaadikoaa
open Go Go.RowKit Go.Ab Go.Proofs

theorem tz23_MeC : TZ Try.prog 23 [(.int .i64 0), (.int .i64 0)] := ⟨⟨.agg #[(.int .i64 0), (.int .i64 0)], by kernel_rfl, rfl⟩, by kernel_rfl⟩
theorem bi23_MeC : BI Try.prog 23 [(0, 1), (1, 1)] := BI.mk' Try.underlying23 (by kernel_rfl)
theorem ti23_MeC : TI Try.prog 23 2 true := ⟨by kernel_rfl, by kernel_rfl⟩
theorem fi23_0_MeC : FI Try.prog 23 0 0 := ⟨_, _, 0, Try.underlying23, rfl, rfl, by kernel_rfl⟩
theorem ti3_MeC : TI Try.prog 3 1 false := ⟨by kernel_rfl, by kernel_rfl⟩
theorem fi23_1_MeC : FI Try.prog 23 1 1 := ⟨_, _, 0, Try.underlying23, rfl, rfl, by kernel_rfl⟩
theorem ti27_MeC : TI Try.prog 27 5 true := ⟨by kernel_rfl, by kernel_rfl⟩
theorem fb45_MeC : FB Try.prog 45 := ⟨_, Try.func45, rfl, by kernel_rfl⟩
theorem fb46_MeC : FB Try.prog 46 := ⟨_, Try.func46, rfl, by kernel_rfl⟩
theorem hmo_MeC : Try.prog.follows .mixedOrders = true := by kernel_rfl
theorem fb14_MeC : FB Try.prog 14 := ⟨_, Try.func14, rfl, by kernel_rfl⟩
theorem fb47_MeC : FB Try.prog 47 := ⟨_, Try.func47, rfl, by kernel_rfl⟩
theorem fb17_MeC : FB Try.prog 17 := ⟨_, Try.func17, rfl, by kernel_rfl⟩
theorem fb15_MeC : FB Try.prog 15 := ⟨_, Try.func15, rfl, by kernel_rfl⟩
theorem bi27_MeC : BI Try.prog 27 [(0, 1), (1, 1), (2, 1), (3, 1), (4, 1)] := BI.mk' Try.underlying27 (by kernel_rfl)
theorem tz27_MeC : TZ Try.prog 27 [(.int .i64 0), (.int .i64 0), (.string ByteArray.empty), (.slice none 0 0), (.slice none 0 0)] := ⟨⟨.agg #[(.int .i64 0), (.int .i64 0), (.string ByteArray.empty), (.slice none 0 0), (.slice none 0 0)], by kernel_rfl, rfl⟩, by kernel_rfl⟩
theorem fb19_MeC : FB Try.prog 19 := ⟨_, Try.func19, rfl, by kernel_rfl⟩
theorem fb13_MeC : FB Try.prog 13 := ⟨_, Try.func13, rfl, by kernel_rfl⟩
theorem fb16_MeC : FB Try.prog 16 := ⟨_, Try.func16, rfl, by kernel_rfl⟩
theorem fb18_MeC : FB Try.prog 18 := ⟨_, Try.func18, rfl, by kernel_rfl⟩
theorem eq23_MeC : EqI Try.prog 23 2 := ⟨⟨_, rfl, Try.underlying23, by kernel_rfl⟩, by kernel_rfl, by kernel_rfl⟩
theorem fb20_MeC : FB Try.prog 20 := ⟨_, Try.func20, rfl, by kernel_rfl⟩
theorem fb21_MeC : FB Try.prog 21 := ⟨_, Try.func21, rfl, by kernel_rfl⟩
theorem fb22_MeC : FB Try.prog 22 := ⟨_, Try.func22, rfl, by kernel_rfl⟩

def mv (f c : Int) : AV := .ag [.p (I f), .p (I c)]
def newF (f c : Int) : AV := mv (min (max f 0) 1073741824) (min (max c 0) 100000)
def stepF (f c : Int) : AV := .tp [mv (if f ≤ 0 then f else f - 1) c, .p (I (if f ≤ 0 then 11 else 0))]
def lessF (f c s : Int) : AV := mv (max f 0 - min (max s 0) (max f 0)) c
def fitsF (c : Int) (t : Trm) : Int := if szT t > max c 0 then 12 else if okT t then 0 else 12

theorem pNew_con (f c : Int) : PCon Try.prog 17 [.p (I f), .p (I c)] (newF f c) := by
  refine con_of Try.func17 rfl 12 Try.ntmps17 rfl fun cx hcx => ?_
  refine awp_seq ?_
  refine awp_region ?_
  refine x_alloc tz23_MeC rfl rfl (by rw [hcx]; rfl) rfl ?_
  refine awl_nil ?_
  change AWp _ _ _ _ _ _
  refine awp_seq ?_
  refine awp_region ?_
  refine awl_move rfl rfl ?_
  refine awl_max rfl rfl rfl ?_
  refine awl_min rfl rfl rfl ?_
  refine awl_move rfl rfl ?_
  refine awl_max rfl rfl rfl ?_
  refine awl_min rfl rfl rfl ?_
  refine x_build bi23_MeC tz23_MeC rfl rfl rfl ?_
  refine x_store ti23_MeC rfl rfl rfl rfl rfl rfl rfl rfl ?_
  refine awl_nil ?_
  change AWp _ _ _ _ _ _
  refine awp_ret ?_
  change Ends _ _ _ _ _ _
  refine ends1 [] rfl (.row ti23_MeC rfl rfl rfl) ?_ rfl
  exact ⟨rfl, rfl⟩

theorem pStep_con (f c : Int) (hf : f ≤ 9223372036854775807) : PCon Try.prog 15 [mv f c] (stepF f c) := by
  refine con_of Try.func15 rfl 13 Try.ntmps15 rfl fun cx hcx => ?_
  refine awp_seq ?_
  refine awp_region ?_
  refine awl_box rfl rfl rfl rfl rfl (by rw [hcx]; rfl) rfl ?_
  refine x_alloc tz23_MeC rfl rfl (by rw [hcx]; rfl) rfl ?_
  refine awl_assign rfl rfl ?_
  refine awl_nil ?_
  change AWp _ _ _ _ _ _
  refine awp_seq ?_
  refine awp_seq ?_
  refine awp_region ?_
  first | refine awl_fieldAddr fi23_0_MeC rfl rfl ?_ | refine awl_fieldAddr_i fi23_0_MeC rfl rfl rfl ?_
  first | refine awl_load_one ti3_MeC rfl rfl rfl rfl ?_ | refine awl_load_ione ti3_MeC rfl rfl rfl ?_
  refine awl_bin rfl rfl rfl rfl bin_leq ?_
  refine awl_nil ?_
  change AWp _ _ _ _ _ _
  first | refine awp_cond_p rfl (fun h1 => ?_) (fun h1 => ?_) | refine awp_cond rfl (fun h1 => ?_) (fun h1 => ?_)
  · skip
    refine awp_seq ?_
    refine awp_region ?_
    first | refine awl_load_row ti23_MeC rfl rfl rfl rfl ?_ | refine x_irow ti23_MeC rfl rfl rfl rfl ?_
    refine x_store ti23_MeC rfl rfl rfl rfl rfl rfl rfl rfl ?_
    refine awl_assign rfl rfl ?_
    refine awl_nil ?_
    change AWp _ _ _ _ _ _
    refine awp_ret ?_
    change Ends _ _ _ _ _ _
    refine ends2 [] rfl (.row ti23_MeC rfl rfl rfl) (.tmp rfl) ?_ rfl
    unfold stepF; rw [if_pos h1, if_pos h1]; exact ⟨rfl, rfl⟩
  · skip
    refine awp_skip ?_
    change AWp _ _ _ _ _ _
    refine awp_seq ?_
    refine awp_region ?_
    first | refine awl_fieldAddr fi23_0_MeC rfl rfl ?_ | refine awl_fieldAddr_i fi23_0_MeC rfl rfl rfl ?_
    first | refine awl_load_one ti3_MeC rfl rfl rfl rfl ?_ | refine awl_load_ione ti3_MeC rfl rfl rfl ?_
    first | refine awl_bin rfl rfl rfl rfl (bin_sub_i (by omega)) ?_ | refine awl_bin rfl rfl rfl rfl bin_sub ?_
    first | refine awl_fieldAddr fi23_0_MeC rfl rfl ?_ | refine awl_fieldAddr_i fi23_0_MeC rfl rfl rfl ?_
    refine x_store ti3_MeC rfl rfl rfl rfl rfl rfl rfl rfl ?_
    refine awl_nil ?_
    change AWp _ _ _ _ _ _
    refine awp_seq ?_
    refine awp_region ?_
    first | refine awl_load_row ti23_MeC rfl rfl rfl rfl ?_ | refine x_irow ti23_MeC rfl rfl rfl rfl ?_
    refine x_store ti23_MeC rfl rfl rfl rfl rfl rfl rfl rfl ?_
    refine awl_assign rfl rfl ?_
    refine awl_nil ?_
    change AWp _ _ _ _ _ _
    refine awp_ret ?_
    change Ends _ _ _ _ _ _
    refine ends2 [] rfl (.row ti23_MeC rfl rfl rfl) (.tmp rfl) ?_ rfl
    unfold stepF; rw [if_neg h1, if_neg h1]; exact ⟨rfl, rfl⟩

theorem pLess_con (f c s : Int) (hf : f ≤ 9223372036854775807) : PCon Try.prog 21 [mv f c, .p (I s)] (lessF f c s) := by
  refine con_of Try.func21 rfl 19 Try.ntmps21 rfl fun cx hcx => ?_
  refine awp_seq ?_
  refine awp_region ?_
  refine awl_box rfl rfl rfl rfl rfl (by rw [hcx]; rfl) rfl ?_
  refine x_alloc tz23_MeC rfl rfl (by rw [hcx]; rfl) rfl ?_
  refine awl_nil ?_
  change AWp _ _ _ _ _ _
  refine awp_seq ?_
  refine awp_region ?_
  first | refine awl_fieldAddr fi23_0_MeC rfl rfl ?_ | refine awl_fieldAddr_i fi23_0_MeC rfl rfl rfl ?_
  first | refine awl_load_one ti3_MeC rfl rfl rfl rfl ?_ | refine awl_load_ione ti3_MeC rfl rfl rfl ?_
  refine awl_max rfl rfl rfl ?_
  first | refine awl_fieldAddr fi23_0_MeC rfl rfl ?_ | refine awl_fieldAddr_i fi23_0_MeC rfl rfl rfl ?_
  refine x_store ti3_MeC rfl rfl rfl rfl rfl rfl rfl rfl ?_
  refine awl_nil ?_
  change AWp _ _ _ _ _ _
  refine awp_seq ?_
  refine awp_region ?_
  first | refine awl_fieldAddr fi23_0_MeC rfl rfl ?_ | refine awl_fieldAddr_i fi23_0_MeC rfl rfl rfl ?_
  first | refine awl_load_one ti3_MeC rfl rfl rfl rfl ?_ | refine awl_load_ione ti3_MeC rfl rfl rfl ?_
  refine awl_move rfl rfl ?_
  refine awl_max rfl rfl rfl ?_
  first | refine awl_fieldAddr fi23_0_MeC rfl rfl ?_ | refine awl_fieldAddr_i fi23_0_MeC rfl rfl rfl ?_
  first | refine awl_load_one ti3_MeC rfl rfl rfl rfl ?_ | refine awl_load_ione ti3_MeC rfl rfl rfl ?_
  refine awl_min rfl rfl rfl ?_
  first | refine awl_bin rfl rfl rfl rfl (bin_sub_i (by omega)) ?_ | refine awl_bin rfl rfl rfl rfl bin_sub ?_
  first | refine awl_fieldAddr fi23_0_MeC rfl rfl ?_ | refine awl_fieldAddr_i fi23_0_MeC rfl rfl rfl ?_
  refine x_store ti3_MeC rfl rfl rfl rfl rfl rfl rfl rfl ?_
  refine awl_nil ?_
  change AWp _ _ _ _ _ _
  refine awp_seq ?_
  refine awp_region ?_
  first | refine awl_load_row ti23_MeC rfl rfl rfl rfl ?_ | refine x_irow ti23_MeC rfl rfl rfl rfl ?_
  refine x_store ti23_MeC rfl rfl rfl rfl rfl rfl rfl rfl ?_
  refine awl_nil ?_
  change AWp _ _ _ _ _ _
  refine awp_ret ?_
  change Ends _ _ _ _ _ _
  refine ends1 [] rfl (.row ti23_MeC rfl rfl rfl) ?_ rfl
  exact ⟨rfl, rfl⟩

theorem pFits_con (f c : Int) (t : Trm) (hc : c ≤ 9223372036854775807) (ht : szT t ≤ 4611686018427387904) : PCon Try.prog 19 [mv f c, tv t] (.p (I (fitsF c t))) := by
  have hpos := szT_pos t
  refine con_of Try.func19 rfl 19 Try.ntmps19 rfl fun cx hcx => ?_
  refine awp_seq ?_
  refine awp_region ?_
  refine awl_box rfl rfl rfl rfl rfl (by rw [hcx]; rfl) rfl ?_
  refine awl_box rfl rfl rfl rfl rfl (by rw [hcx]; rfl) rfl ?_
  refine awl_assign rfl rfl ?_
  refine awl_nil ?_
  change AWp _ _ _ _ _ _
  refine awp_seq ?_
  refine awp_region ?_
  first | refine awl_fieldAddr fi23_1_MeC rfl rfl ?_ | refine awl_fieldAddr_i fi23_1_MeC rfl rfl rfl ?_
  first | refine awl_load_one ti3_MeC rfl rfl rfl rfl ?_ | refine awl_load_ione ti3_MeC rfl rfl rfl ?_
  refine awl_max rfl rfl rfl ?_
  refine awl_assign rfl rfl ?_
  refine awl_nil ?_
  change AWp _ _ _ _ _ _
  refine awp_seq ?_
  refine awp_seq ?_
  refine awp_region ?_
  first | refine awl_load_row ti27_MeC rfl rfl rfl rfl ?_ | refine x_irow ti27_MeC rfl rfl rfl rfl ?_
  refine awl_move rfl rfl ?_
  refine awl_pcall fb45_MeC rfl (Size_con t (max c 0) (by omega) (by omega) (.inr ht)) (.cons (by first | exact Sub.refl _ | exact Sub.ts | exact Sub.nil | exact Sub.agc (by repeat (first | exact .nil | refine .cons (by first | exact Sub.refl _ | exact Sub.nil) ?_))) (.cons (by first | exact Sub.refl _ | exact Sub.ts | exact Sub.nil | exact Sub.agc (by repeat (first | exact .nil | refine .cons (by first | exact Sub.refl _ | exact Sub.nil) ?_))) .nil)) rfl ?_
  refine awl_move rfl rfl ?_
  refine awl_bin rfl rfl rfl rfl bin_gtr ?_
  refine awl_move rfl rfl ?_
  first | refine awl_split_p 14 rfl (fun h1 => ?_) (fun h1 => ?_) | refine awl_split 14 rfl (fun h1 => ?_) (fun h1 => ?_)
  · skip
    refine awl_guard_no rfl (by first | exact h1 | exact decide_eq_true h1 | exact decide_eq_false h1) rfl rfl rfl rfl ?_
    refine awl_guard_no rfl (by first | exact h1 | exact decide_eq_true h1 | exact decide_eq_false h1) rfl rfl rfl rfl ?_
    refine awl_guard_no rfl (by first | exact h1 | exact decide_eq_true h1 | exact decide_eq_false h1) rfl rfl rfl rfl ?_
    refine awl_pick_t (by first | exact h1 | exact decide_eq_true h1 | exact decide_eq_false h1) rfl rfl rfl ?_
    refine awl_nil ?_
    change AWp _ _ _ _ _ _
    refine awp_cond_t rfl rfl ?_
    refine awp_seq ?_
    refine awp_region ?_
    refine awl_assign rfl rfl ?_
    refine awl_nil ?_
    change AWp _ _ _ _ _ _
    refine awp_ret ?_
    change Ends _ _ _ _ _ _
    refine ends1 [] rfl (.tmp rfl) ?_ rfl
    refine ⟨I_eq ?_, rfl⟩
    unfold fitsF; rw [if_pos (by omega)]
  · skip
    refine awl_guard_yes rfl (by first | exact h1 | exact decide_eq_true h1 | exact decide_eq_false h1) rfl rfl ?_
    first | refine awl_load_row ti27_MeC rfl rfl rfl rfl ?_ | refine x_irow ti27_MeC rfl rfl rfl rfl ?_
    refine awl_guard_yes rfl (by first | exact h1 | exact decide_eq_true h1 | exact decide_eq_false h1) rfl rfl ?_
    refine awl_pcall fb46_MeC rfl (levels_con t) (.cons (by first | exact Sub.refl _ | exact Sub.ts | exact Sub.nil | exact Sub.agc (by repeat (first | exact .nil | refine .cons (by first | exact Sub.refl _ | exact Sub.nil) ?_))) .nil) rfl ?_
    refine awl_guard_yes rfl (by first | exact h1 | exact decide_eq_true h1 | exact decide_eq_false h1) rfl rfl ?_
    first | refine awl_un rfl rfl rfl un_notd ?_ | refine awl_un rfl rfl rfl un_not ?_
    refine awl_pick_f (by first | exact h1 | exact decide_eq_true h1 | exact decide_eq_false h1) rfl rfl rfl ?_
    refine awl_nil ?_
    change AWp _ _ _ _ _ _
    first | refine awp_cond_p rfl (fun h2 => ?_) (fun h2 => ?_) | refine awp_cond rfl (fun h2 => ?_) (fun h2 => ?_)
    · skip
      refine awp_seq ?_
      refine awp_region ?_
      refine awl_assign rfl rfl ?_
      refine awl_nil ?_
      change AWp _ _ _ _ _ _
      refine awp_ret ?_
      change Ends _ _ _ _ _ _
      refine ends1 [] rfl (.tmp rfl) ?_ rfl
      refine ⟨I_eq ?_, rfl⟩
      unfold fitsF; rw [if_neg (by omega), if_neg (by simpa using h2)]
    · skip
      refine awp_skip ?_
      change AWp _ _ _ _ _ _
      refine awp_seq ?_
      refine awp_region ?_
      refine awl_assign rfl rfl ?_
      refine awl_nil ?_
      change AWp _ _ _ _ _ _
      refine awp_ret ?_
      change Ends _ _ _ _ _ _
      refine ends1 [] rfl (.tmp rfl) ?_ rfl
      refine ⟨I_eq ?_, rfl⟩
      unfold fitsF; rw [if_neg (by omega), if_pos (by simpa using h2)]

theorem rNew_con (f c : Int) : PCon Try.prog 18 [.p (I f), .p (I c)] (newF f c) := by
  refine con_of Try.func18 rfl 12 Try.ntmps18 rfl fun cx hcx => ?_
  refine awp_seq ?_
  refine awp_region ?_
  refine x_alloc tz23_MeC rfl rfl (by rw [hcx]; rfl) rfl ?_
  refine awl_nil ?_
  change AWp _ _ _ _ _ _
  refine awp_seq ?_
  refine awp_region ?_
  refine awl_move rfl rfl ?_
  refine awl_max rfl rfl rfl ?_
  refine awl_min rfl rfl rfl ?_
  refine awl_move rfl rfl ?_
  refine awl_max rfl rfl rfl ?_
  refine awl_min rfl rfl rfl ?_
  refine x_build bi23_MeC tz23_MeC rfl rfl rfl ?_
  refine x_store ti23_MeC rfl rfl rfl rfl rfl rfl rfl rfl ?_
  refine awl_nil ?_
  change AWp _ _ _ _ _ _
  refine awp_ret ?_
  change Ends _ _ _ _ _ _
  refine ends1 [] rfl (.row ti23_MeC rfl rfl rfl) ?_ rfl
  exact ⟨rfl, rfl⟩

theorem rStep_con (f c : Int) (hf : f ≤ 9223372036854775807) : PCon Try.prog 16 [mv f c] (stepF f c) := by
  refine con_of Try.func16 rfl 13 Try.ntmps16 rfl fun cx hcx => ?_
  refine awp_seq ?_
  refine awp_region ?_
  refine awl_box rfl rfl rfl rfl rfl (by rw [hcx]; rfl) rfl ?_
  refine x_alloc tz23_MeC rfl rfl (by rw [hcx]; rfl) rfl ?_
  refine awl_assign rfl rfl ?_
  refine awl_nil ?_
  change AWp _ _ _ _ _ _
  refine awp_seq ?_
  refine awp_seq ?_
  refine awp_region ?_
  first | refine awl_fieldAddr fi23_0_MeC rfl rfl ?_ | refine awl_fieldAddr_i fi23_0_MeC rfl rfl rfl ?_
  first | refine awl_load_one ti3_MeC rfl rfl rfl rfl ?_ | refine awl_load_ione ti3_MeC rfl rfl rfl ?_
  refine awl_bin rfl rfl rfl rfl bin_leq ?_
  refine awl_nil ?_
  change AWp _ _ _ _ _ _
  first | refine awp_cond_p rfl (fun h1 => ?_) (fun h1 => ?_) | refine awp_cond rfl (fun h1 => ?_) (fun h1 => ?_)
  · skip
    refine awp_seq ?_
    refine awp_region ?_
    first | refine awl_load_row ti23_MeC rfl rfl rfl rfl ?_ | refine x_irow ti23_MeC rfl rfl rfl rfl ?_
    refine x_store ti23_MeC rfl rfl rfl rfl rfl rfl rfl rfl ?_
    refine awl_assign rfl rfl ?_
    refine awl_nil ?_
    change AWp _ _ _ _ _ _
    refine awp_ret ?_
    change Ends _ _ _ _ _ _
    refine ends2 [] rfl (.row ti23_MeC rfl rfl rfl) (.tmp rfl) ?_ rfl
    unfold stepF; rw [if_pos h1, if_pos h1]; exact ⟨rfl, rfl⟩
  · skip
    refine awp_skip ?_
    change AWp _ _ _ _ _ _
    refine awp_seq ?_
    refine awp_region ?_
    first | refine awl_fieldAddr fi23_0_MeC rfl rfl ?_ | refine awl_fieldAddr_i fi23_0_MeC rfl rfl rfl ?_
    first | refine awl_load_one ti3_MeC rfl rfl rfl rfl ?_ | refine awl_load_ione ti3_MeC rfl rfl rfl ?_
    first | refine awl_bin rfl rfl rfl rfl (bin_sub_i (by omega)) ?_ | refine awl_bin rfl rfl rfl rfl bin_sub ?_
    first | refine awl_fieldAddr fi23_0_MeC rfl rfl ?_ | refine awl_fieldAddr_i fi23_0_MeC rfl rfl rfl ?_
    refine x_store ti3_MeC rfl rfl rfl rfl rfl rfl rfl rfl ?_
    refine awl_nil ?_
    change AWp _ _ _ _ _ _
    refine awp_seq ?_
    refine awp_region ?_
    first | refine awl_load_row ti23_MeC rfl rfl rfl rfl ?_ | refine x_irow ti23_MeC rfl rfl rfl rfl ?_
    refine x_store ti23_MeC rfl rfl rfl rfl rfl rfl rfl rfl ?_
    refine awl_assign rfl rfl ?_
    refine awl_nil ?_
    change AWp _ _ _ _ _ _
    refine awp_ret ?_
    change Ends _ _ _ _ _ _
    refine ends2 [] rfl (.row ti23_MeC rfl rfl rfl) (.tmp rfl) ?_ rfl
    unfold stepF; rw [if_neg h1, if_neg h1]; exact ⟨rfl, rfl⟩

theorem rLess_con (f c s : Int) (hf : f ≤ 9223372036854775807) : PCon Try.prog 22 [mv f c, .p (I s)] (lessF f c s) := by
  refine con_of Try.func22 rfl 19 Try.ntmps22 rfl fun cx hcx => ?_
  refine awp_seq ?_
  refine awp_region ?_
  refine awl_box rfl rfl rfl rfl rfl (by rw [hcx]; rfl) rfl ?_
  refine x_alloc tz23_MeC rfl rfl (by rw [hcx]; rfl) rfl ?_
  refine awl_nil ?_
  change AWp _ _ _ _ _ _
  refine awp_seq ?_
  refine awp_region ?_
  first | refine awl_fieldAddr fi23_0_MeC rfl rfl ?_ | refine awl_fieldAddr_i fi23_0_MeC rfl rfl rfl ?_
  first | refine awl_load_one ti3_MeC rfl rfl rfl rfl ?_ | refine awl_load_ione ti3_MeC rfl rfl rfl ?_
  refine awl_max rfl rfl rfl ?_
  first | refine awl_fieldAddr fi23_0_MeC rfl rfl ?_ | refine awl_fieldAddr_i fi23_0_MeC rfl rfl rfl ?_
  refine x_store ti3_MeC rfl rfl rfl rfl rfl rfl rfl rfl ?_
  refine awl_nil ?_
  change AWp _ _ _ _ _ _
  refine awp_seq ?_
  refine awp_region ?_
  first | refine awl_fieldAddr fi23_0_MeC rfl rfl ?_ | refine awl_fieldAddr_i fi23_0_MeC rfl rfl rfl ?_
  first | refine awl_load_one ti3_MeC rfl rfl rfl rfl ?_ | refine awl_load_ione ti3_MeC rfl rfl rfl ?_
  refine awl_move rfl rfl ?_
  refine awl_max rfl rfl rfl ?_
  first | refine awl_fieldAddr fi23_0_MeC rfl rfl ?_ | refine awl_fieldAddr_i fi23_0_MeC rfl rfl rfl ?_
  first | refine awl_load_one ti3_MeC rfl rfl rfl rfl ?_ | refine awl_load_ione ti3_MeC rfl rfl rfl ?_
  refine awl_min rfl rfl rfl ?_
  first | refine awl_bin rfl rfl rfl rfl (bin_sub_i (by omega)) ?_ | refine awl_bin rfl rfl rfl rfl bin_sub ?_
  first | refine awl_fieldAddr fi23_0_MeC rfl rfl ?_ | refine awl_fieldAddr_i fi23_0_MeC rfl rfl rfl ?_
  refine x_store ti3_MeC rfl rfl rfl rfl rfl rfl rfl rfl ?_
  refine awl_nil ?_
  change AWp _ _ _ _ _ _
  refine awp_seq ?_
  refine awp_region ?_
  first | refine awl_load_row ti23_MeC rfl rfl rfl rfl ?_ | refine x_irow ti23_MeC rfl rfl rfl rfl ?_
  refine x_store ti23_MeC rfl rfl rfl rfl rfl rfl rfl rfl ?_
  refine awl_nil ?_
  change AWp _ _ _ _ _ _
  refine awp_ret ?_
  change Ends _ _ _ _ _ _
  refine ends1 [] rfl (.row ti23_MeC rfl rfl rfl) ?_ rfl
  exact ⟨rfl, rfl⟩

theorem rFits_con (f c : Int) (t : Trm) (hc : c ≤ 9223372036854775807) (ht : szT t ≤ 4611686018427387904) : PCon Try.prog 20 [mv f c, tv t] (.p (I (fitsF c t))) := by
  have hpos := szT_pos t
  refine con_of Try.func20 rfl 19 Try.ntmps20 rfl fun cx hcx => ?_
  refine awp_seq ?_
  refine awp_region ?_
  refine awl_box rfl rfl rfl rfl rfl (by rw [hcx]; rfl) rfl ?_
  refine awl_box rfl rfl rfl rfl rfl (by rw [hcx]; rfl) rfl ?_
  refine awl_assign rfl rfl ?_
  refine awl_nil ?_
  change AWp _ _ _ _ _ _
  refine awp_seq ?_
  refine awp_seq ?_
  refine awp_draw0 hmo_MeC (by kernel_rfl) ?_
  refine awd_q [(3, _)] (.cons rfl (.nil)) rfl rfl rfl ?_
  apply Exists.intro
  refine ⟨fun regs' => ?_, ?_⟩
  · skip
    first | refine awl_load_row ti27_MeC rfl rfl rfl rfl ?_ | refine x_irow ti27_MeC rfl rfl rfl rfl ?_
    exact awl_done rfl
  refine awd_q [(2, _)] (.cons rfl (.nil)) rfl rfl rfl ?_
  apply Exists.intro
  refine ⟨fun regs' => ?_, ?_⟩
  · skip
    first | refine awl_fieldAddr fi23_1_MeC rfl rfl ?_ | refine awl_fieldAddr_i fi23_1_MeC rfl rfl rfl ?_
    exact awl_done rfl
  refine awd_q [(6, _)] (.cons rfl (.nil)) rfl rfl rfl ?_
  apply Exists.intro
  refine ⟨fun regs' => ?_, ?_⟩
  · skip
    first | refine awl_load_one ti3_MeC rfl rfl rfl rfl ?_ | refine awl_load_ione ti3_MeC rfl rfl rfl ?_
    exact awl_done rfl
  refine awd_q [(7, _)] (.cons rfl (.nil)) rfl rfl rfl ?_
  apply Exists.intro
  refine ⟨fun regs' => ?_, ?_⟩
  · skip
    refine awl_max rfl rfl rfl ?_
    exact awl_done rfl
  refine awd_q [(5, _), (8, _)] (.cons rfl (.cons rfl (.nil))) rfl rfl rfl ?_
  apply Exists.intro
  refine ⟨fun regs' => ?_, ?_⟩
  · skip
    refine awl_pcall fb14_MeC rfl (rSize_con t (max c 0) (by omega) (by omega) (.inr ht)) (.cons (by first | exact Sub.refl _ | exact Sub.ts | exact Sub.nil | exact Sub.agc (by repeat (first | exact .nil | refine .cons (by first | exact Sub.refl _ | exact Sub.nil) ?_))) (.cons (by first | exact Sub.refl _ | exact Sub.ts | exact Sub.nil | exact Sub.agc (by repeat (first | exact .nil | refine .cons (by first | exact Sub.refl _ | exact Sub.nil) ?_))) .nil)) rfl ?_
    exact awl_done rfl
  refine awd_q [(2, _)] (.cons rfl (.nil)) rfl rfl rfl ?_
  apply Exists.intro
  refine ⟨fun regs' => ?_, ?_⟩
  · skip
    first | refine awl_fieldAddr fi23_1_MeC rfl rfl ?_ | refine awl_fieldAddr_i fi23_1_MeC rfl rfl rfl ?_
    exact awl_done rfl
  refine awd_q [(10, _)] (.cons rfl (.nil)) rfl rfl rfl ?_
  apply Exists.intro
  refine ⟨fun regs' => ?_, ?_⟩
  · skip
    first | refine awl_load_one ti3_MeC rfl rfl rfl rfl ?_ | refine awl_load_ione ti3_MeC rfl rfl rfl ?_
    exact awl_done rfl
  refine awd_q [(11, _)] (.cons rfl (.nil)) rfl rfl rfl ?_
  apply Exists.intro
  refine ⟨fun regs' => ?_, ?_⟩
  · skip
    refine awl_max rfl rfl rfl ?_
    exact awl_done rfl
  refine awd_q [(9, _), (12, _)] (.cons rfl (.cons rfl (.nil))) rfl rfl rfl ?_
  apply Exists.intro
  refine ⟨fun regs' => ?_, ?_⟩
  · skip
    refine awl_bin rfl rfl rfl rfl bin_gtr ?_
    exact awl_done rfl
  refine awd_q [(13, _)] (.cons rfl (.nil)) rfl rfl rfl ?_
  apply Exists.intro
  refine ⟨fun regs' => ?_, ?_⟩
  · skip
    refine awl_move rfl rfl ?_
    exact awl_done rfl
  first | refine awd_split_p 14 rfl (fun h1 => ?_) (fun h1 => ?_) | refine awd_split 14 rfl (fun h1 => ?_) (fun h1 => ?_)
  · skip
    refine awd_q [(3, _), (14, _)] (.cons rfl (.cons rfl (.nil))) rfl rfl rfl ?_
    apply Exists.intro
    refine ⟨fun regs' => ?_, ?_⟩
    · skip
      refine awl_guard_no rfl (by first | exact h1 | exact decide_eq_true h1 | exact decide_eq_false h1) rfl rfl rfl rfl ?_
      exact awl_done rfl
    refine awd_q [(15, _), (14, _)] (.cons rfl (.cons rfl (.nil))) rfl rfl rfl ?_
    apply Exists.intro
    refine ⟨fun regs' => ?_, ?_⟩
    · skip
      refine awl_guard_no rfl (by first | exact h1 | exact decide_eq_true h1 | exact decide_eq_false h1) rfl rfl rfl rfl ?_
      exact awl_done rfl
    refine awd_q [(16, _), (14, _)] (.cons rfl (.cons rfl (.nil))) rfl rfl rfl ?_
    apply Exists.intro
    refine ⟨fun regs' => ?_, ?_⟩
    · skip
      refine awl_guard_no rfl (by first | exact h1 | exact decide_eq_true h1 | exact decide_eq_false h1) rfl rfl rfl rfl ?_
      exact awl_done rfl
    refine awd_q [(14, _), (17, _)] (.cons rfl (.cons rfl (.nil))) rfl rfl rfl ?_
    apply Exists.intro
    refine ⟨fun regs' => ?_, ?_⟩
    · skip
      refine awl_pick_t (by first | exact h1 | exact decide_eq_true h1 | exact decide_eq_false h1) rfl rfl rfl ?_
      exact awl_done rfl
    refine awd_nil ?_
    change AWp _ _ _ _ _ _
    refine awp_cond_t rfl rfl ?_
    refine awp_seq ?_
    refine awp_region ?_
    refine awl_assign rfl rfl ?_
    refine awl_nil ?_
    change AWp _ _ _ _ _ _
    refine awp_ret ?_
    change Ends _ _ _ _ _ _
    refine ends1 [] rfl (.tmp rfl) ?_ rfl
    refine ⟨I_eq ?_, rfl⟩
    unfold fitsF; rw [if_pos (by omega)]
  · skip
    refine awd_q [(3, _), (14, _)] (.cons rfl (.cons rfl (.nil))) rfl rfl rfl ?_
    apply Exists.intro
    refine ⟨fun regs' => ?_, ?_⟩
    · skip
      refine awl_guard_yes rfl (by first | exact h1 | exact decide_eq_true h1 | exact decide_eq_false h1) rfl rfl ?_
      first | refine awl_load_row ti27_MeC rfl rfl rfl rfl ?_ | refine x_irow ti27_MeC rfl rfl rfl rfl ?_
      exact awl_done rfl
    refine awd_q [(15, _), (14, _)] (.cons rfl (.cons rfl (.nil))) rfl rfl rfl ?_
    apply Exists.intro
    refine ⟨fun regs' => ?_, ?_⟩
    · skip
      refine awl_guard_yes rfl (by first | exact h1 | exact decide_eq_true h1 | exact decide_eq_false h1) rfl rfl ?_
      refine awl_pcall fb47_MeC rfl (rlevels_con t) (.cons (by first | exact Sub.refl _ | exact Sub.ts | exact Sub.nil | exact Sub.agc (by repeat (first | exact .nil | refine .cons (by first | exact Sub.refl _ | exact Sub.nil) ?_))) .nil) rfl ?_
      exact awl_done rfl
    refine awd_q [(16, _), (14, _)] (.cons rfl (.cons rfl (.nil))) rfl rfl rfl ?_
    apply Exists.intro
    refine ⟨fun regs' => ?_, ?_⟩
    · skip
      refine awl_guard_yes rfl (by first | exact h1 | exact decide_eq_true h1 | exact decide_eq_false h1) rfl rfl ?_
      first | refine awl_un rfl rfl rfl un_notd ?_ | refine awl_un rfl rfl rfl un_not ?_
      exact awl_done rfl
    refine awd_q [(14, _), (17, _)] (.cons rfl (.cons rfl (.nil))) rfl rfl rfl ?_
    apply Exists.intro
    refine ⟨fun regs' => ?_, ?_⟩
    · skip
      refine awl_pick_f (by first | exact h1 | exact decide_eq_true h1 | exact decide_eq_false h1) rfl rfl rfl ?_
      exact awl_done rfl
    refine awd_nil ?_
    change AWp _ _ _ _ _ _
    first | refine awp_cond_p rfl (fun h2 => ?_) (fun h2 => ?_) | refine awp_cond rfl (fun h2 => ?_) (fun h2 => ?_)
    · skip
      refine awp_seq ?_
      refine awp_region ?_
      refine awl_assign rfl rfl ?_
      refine awl_nil ?_
      change AWp _ _ _ _ _ _
      refine awp_ret ?_
      change Ends _ _ _ _ _ _
      refine ends1 [] rfl (.tmp rfl) ?_ rfl
      refine ⟨I_eq ?_, rfl⟩
      unfold fitsF; rw [if_neg (by omega), if_neg (by simpa using h2)]
    · skip
      refine awp_skip ?_
      change AWp _ _ _ _ _ _
      refine awp_seq ?_
      refine awp_region ?_
      refine awl_assign rfl rfl ?_
      refine awl_nil ?_
      change AWp _ _ _ _ _ _
      refine awp_ret ?_
      change Ends _ _ _ _ _ _
      refine ends1 [] rfl (.tmp rfl) ?_ rfl
      refine ⟨I_eq ?_, rfl⟩
      unfold fitsF; rw [if_neg (by omega), if_pos (by simpa using h2)]


theorem begun9_con : PCon Try.prog 13 [] (.p (B true)) := by
  have e1 : newF 2 5 = mv 2 5 := rfl
  have e2 : stepF 2 5 = .tp [mv 1 5, .p (I 0)] := by simp [stepF]
  have hn := pNew_con 2 5
  have hs := pStep_con 2 5 (by omega)
  rw [e1] at hn; rw [e2] at hs
  have e3 : fitsF 0 ⟨0, 0, ByteArray.empty, [], []⟩ = 12 := by simp [fitsF, szT, szTs]
  have hf := pFits_con 0 0 ⟨0, 0, ByteArray.empty, [], []⟩ (by omega) (by simp [szT, szTs])
  rw [e3] at hf
  refine con_of Try.func13 rfl 26 Try.ntmps13 rfl fun cx hcx => ?_
  refine awp_seq ?_
  refine awp_region ?_
  refine awl_assign rfl rfl ?_
  refine awl_nil ?_
  change AWp _ _ _ _ _ _
  refine awp_seq ?_
  refine awp_region ?_
  refine awl_pcall fb17_MeC rfl (hn) (.cons (by first | exact Sub.refl _ | exact Sub.ts | exact Sub.nil | exact Sub.agc (by repeat (first | exact .nil | refine .cons (by first | exact Sub.refl _ | exact Sub.nil) ?_))) (.cons (by first | exact Sub.refl _ | exact Sub.ts | exact Sub.nil | exact Sub.agc (by repeat (first | exact .nil | refine .cons (by first | exact Sub.refl _ | exact Sub.nil) ?_))) .nil)) rfl ?_
  refine awl_pcall fb15_MeC rfl (hs) (.cons (by first | exact Sub.refl _ | exact Sub.ts | exact Sub.nil | exact Sub.agc (by repeat (first | exact .nil | refine .cons (by first | exact Sub.refl _ | exact Sub.nil) ?_))) .nil) rfl ?_
  refine awl_move rfl rfl ?_
  refine awl_extract rfl rfl rfl ?_
  refine awl_extract rfl rfl rfl ?_
  refine x_alloc tz23_MeC rfl rfl (by rw [hcx]; rfl) rfl ?_
  refine x_store ti23_MeC rfl rfl rfl rfl rfl rfl rfl rfl ?_
  refine awl_assign rfl rfl ?_
  refine awl_nil ?_
  change AWp _ _ _ _ _ _
  refine awp_seq ?_
  refine awp_region ?_
  refine awl_move rfl rfl ?_
  refine awl_bin rfl rfl rfl rfl bin_eql ?_
  refine awl_move rfl rfl ?_
  refine awl_guard_yes rfl (by first | exact rfl | exact decide_eq_true rfl | exact decide_eq_false rfl) rfl rfl ?_
  first | refine awl_fieldAddr fi23_0_MeC rfl rfl ?_ | refine awl_fieldAddr_i fi23_0_MeC rfl rfl rfl ?_
  refine awl_guard_yes rfl (by first | exact rfl | exact decide_eq_true rfl | exact decide_eq_false rfl) rfl rfl ?_
  first | refine awl_load_one ti3_MeC rfl rfl rfl rfl ?_ | refine awl_load_ione ti3_MeC rfl rfl rfl ?_
  refine awl_guard_yes rfl (by first | exact rfl | exact decide_eq_true rfl | exact decide_eq_false rfl) rfl rfl ?_
  refine awl_bin rfl rfl rfl rfl bin_eql ?_
  refine awl_pick_t (by first | exact rfl | exact decide_eq_true rfl | exact decide_eq_false rfl) rfl rfl rfl ?_
  refine awl_move rfl rfl ?_
  refine awl_guard_yes rfl (by first | exact rfl | exact decide_eq_true rfl | exact decide_eq_false rfl) rfl rfl ?_
  first | refine awl_fieldAddr fi23_1_MeC rfl rfl ?_ | refine awl_fieldAddr_i fi23_1_MeC rfl rfl rfl ?_
  refine awl_guard_yes rfl (by first | exact rfl | exact decide_eq_true rfl | exact decide_eq_false rfl) rfl rfl ?_
  first | refine awl_load_one ti3_MeC rfl rfl rfl rfl ?_ | refine awl_load_ione ti3_MeC rfl rfl rfl ?_
  refine awl_guard_yes rfl (by first | exact rfl | exact decide_eq_true rfl | exact decide_eq_false rfl) rfl rfl ?_
  refine awl_bin rfl rfl rfl rfl bin_eql ?_
  refine awl_pick_t (by first | exact rfl | exact decide_eq_true rfl | exact decide_eq_false rfl) rfl rfl rfl ?_
  refine awl_move rfl rfl ?_
  refine awl_guard_yes rfl (by first | exact rfl | exact decide_eq_true rfl | exact decide_eq_false rfl) rfl rfl ?_
  refine x_build bi23_MeC tz23_MeC rfl rfl rfl ?_
  refine awl_guard_yes rfl (by first | exact rfl | exact decide_eq_true rfl | exact decide_eq_false rfl) rfl rfl ?_
  refine x_build bi27_MeC tz27_MeC rfl rfl rfl ?_
  refine awl_guard_yes rfl (by first | exact rfl | exact decide_eq_true rfl | exact decide_eq_false rfl) rfl rfl ?_
  refine awl_pcall fb19_MeC rfl (hf) (.cons (by first | exact Sub.refl _ | exact Sub.ts | exact Sub.nil | exact Sub.agc (by repeat (first | exact .nil | refine .cons (by first | exact Sub.refl _ | exact Sub.nil) ?_))) (.cons (by first | exact Sub.refl _ | exact Sub.ts | exact Sub.nil | exact Sub.agc (by repeat (first | exact .nil | refine .cons (by first | exact Sub.refl _ | exact Sub.nil) ?_))) .nil)) rfl ?_
  refine awl_guard_yes rfl (by first | exact rfl | exact decide_eq_true rfl | exact decide_eq_false rfl) rfl rfl ?_
  refine awl_bin rfl rfl rfl rfl bin_eql ?_
  refine awl_pick_t (by first | exact rfl | exact decide_eq_true rfl | exact decide_eq_false rfl) rfl rfl rfl ?_
  refine awl_assign rfl rfl ?_
  refine awl_nil ?_
  change AWp _ _ _ _ _ _
  refine awp_ret ?_
  change Ends _ _ _ _ _ _
  refine ends1 [] rfl (.tmp rfl) ?_ rfl
  exact ⟨B_eq (decide_eq_true rfl), rfl⟩

theorem MeterAll_con (fuel cells mf mc steps : Int) (t : Trm) (hmf : mf ≤ 9223372036854775807) (hmc : mc ≤ 9223372036854775807) :
    PCon Try.prog 3 [.p (I fuel), .p (I cells), mv mf mc, tv t, .p (I steps)] (.p (B true)) := by
  refine con_of Try.func3 rfl 65 Try.ntmps3 rfl fun cx hcx => ?_
  refine awp_seq ?_
  refine awp_region ?_
  refine awl_box rfl rfl rfl rfl rfl (by rw [hcx]; rfl) rfl ?_
  refine awl_box rfl rfl rfl rfl rfl (by rw [hcx]; rfl) rfl ?_
  refine awl_assign rfl rfl ?_
  refine awl_nil ?_
  change AWp _ _ _ _ _ _
  refine awp_seq ?_
  refine awp_seq ?_
  refine awp_region ?_
  refine awl_pcall fb13_MeC rfl (begun9_con) .nil rfl ?_
  first | refine awl_un rfl rfl rfl un_notd ?_ | refine awl_un rfl rfl rfl un_not ?_
  refine awl_nil ?_
  change AWp _ _ _ _ _ _
  refine awp_cond_f (by first | exact rfl | exact decide_eq_true rfl | exact decide_eq_false rfl) rfl ?_
  refine awp_skip ?_
  change AWp _ _ _ _ _ _
  refine awp_seq ?_
  refine awp_seq ?_
  refine awp_region ?_
  first | refine awl_load_row ti27_MeC rfl rfl rfl rfl ?_ | refine x_irow ti27_MeC rfl rfl rfl rfl ?_
  refine awl_pcall fb14_MeC rfl (rSize_con t 3000 (by omega) (by omega) (.inl (by omega))) (.cons (by first | exact Sub.refl _ | exact Sub.ts | exact Sub.nil | exact Sub.agc (by repeat (first | exact .nil | refine .cons (by first | exact Sub.refl _ | exact Sub.nil) ?_))) (.cons (by first | exact Sub.refl _ | exact Sub.ts | exact Sub.nil | exact Sub.agc (by repeat (first | exact .nil | refine .cons (by first | exact Sub.refl _ | exact Sub.nil) ?_))) .nil)) rfl ?_
  refine awl_bin rfl rfl rfl rfl bin_gtr ?_
  refine awl_nil ?_
  change AWp _ _ _ _ _ _
  first | refine awp_cond_p rfl (fun h2 => ?_) (fun h2 => ?_) | refine awp_cond rfl (fun h2 => ?_) (fun h2 => ?_)
  · skip
    refine awp_seq ?_
    refine awp_region ?_
    refine awl_assign rfl rfl ?_
    refine awl_nil ?_
    change AWp _ _ _ _ _ _
    refine awp_ret ?_
    change Ends _ _ _ _ _ _
    refine ends1 [] rfl (.tmp rfl) ?_ rfl
    exact ⟨rfl, rfl⟩
  · skip
    have hsz : szT t ≤ 4611686018427387904 := by omega
    refine awp_skip ?_
    change AWp _ _ _ _ _ _
    refine awp_seq ?_
    refine awp_region ?_
    first | refine awl_load_row ti23_MeC rfl rfl rfl rfl ?_ | refine x_irow ti23_MeC rfl rfl rfl rfl ?_
    refine awl_pcall fb15_MeC rfl (pStep_con mf mc hmf) (.cons (by first | exact Sub.refl _ | exact Sub.ts | exact Sub.nil | exact Sub.agc (by repeat (first | exact .nil | refine .cons (by first | exact Sub.refl _ | exact Sub.nil) ?_))) .nil) rfl ?_
    refine awl_move rfl rfl ?_
    refine awl_extract rfl rfl rfl ?_
    refine awl_extract rfl rfl rfl ?_
    refine x_alloc tz23_MeC rfl rfl (by rw [hcx]; rfl) rfl ?_
    refine x_store ti23_MeC rfl rfl rfl rfl rfl rfl rfl rfl ?_
    refine awl_assign rfl rfl ?_
    refine awl_nil ?_
    change AWp _ _ _ _ _ _
    refine awp_seq ?_
    refine awp_region ?_
    first | refine awl_load_row ti23_MeC rfl rfl rfl rfl ?_ | refine x_irow ti23_MeC rfl rfl rfl rfl ?_
    refine awl_pcall fb16_MeC rfl (rStep_con mf mc hmf) (.cons (by first | exact Sub.refl _ | exact Sub.ts | exact Sub.nil | exact Sub.agc (by repeat (first | exact .nil | refine .cons (by first | exact Sub.refl _ | exact Sub.nil) ?_))) .nil) rfl ?_
    refine awl_move rfl rfl ?_
    refine awl_extract rfl rfl rfl ?_
    refine awl_extract rfl rfl rfl ?_
    refine x_alloc tz23_MeC rfl rfl (by rw [hcx]; rfl) rfl ?_
    refine x_store ti23_MeC rfl rfl rfl rfl rfl rfl rfl rfl ?_
    refine awl_assign rfl rfl ?_
    refine awl_nil ?_
    change AWp _ _ _ _ _ _
    refine awp_seq ?_
    refine awp_draw0 hmo_MeC (by kernel_rfl) ?_
    refine awd_q [(0, _)] (.cons rfl (.nil)) rfl rfl rfl ?_
    apply Exists.intro
    refine ⟨fun regs' => ?_, ?_⟩
    · skip
      refine awl_move rfl rfl ?_
      exact awl_done rfl
    refine awd_q [(1, _)] (.cons rfl (.nil)) rfl rfl rfl ?_
    apply Exists.intro
    refine ⟨fun regs' => ?_, ?_⟩
    · skip
      refine awl_move rfl rfl ?_
      exact awl_done rfl
    refine awd_q [(30, _), (31, _)] (.cons rfl (.cons rfl (.nil))) rfl rfl rfl ?_
    apply Exists.intro
    refine ⟨fun regs' => ?_, ?_⟩
    · skip
      refine awl_pcall fb17_MeC rfl (pNew_con fuel cells) (.cons (by first | exact Sub.refl _ | exact Sub.ts | exact Sub.nil | exact Sub.agc (by repeat (first | exact .nil | refine .cons (by first | exact Sub.refl _ | exact Sub.nil) ?_))) (.cons (by first | exact Sub.refl _ | exact Sub.ts | exact Sub.nil | exact Sub.agc (by repeat (first | exact .nil | refine .cons (by first | exact Sub.refl _ | exact Sub.nil) ?_))) .nil)) rfl ?_
      exact awl_done rfl
    refine awd_q [(0, _)] (.cons rfl (.nil)) rfl rfl rfl ?_
    apply Exists.intro
    refine ⟨fun regs' => ?_, ?_⟩
    · skip
      refine awl_move rfl rfl ?_
      exact awl_done rfl
    refine awd_q [(1, _)] (.cons rfl (.nil)) rfl rfl rfl ?_
    apply Exists.intro
    refine ⟨fun regs' => ?_, ?_⟩
    · skip
      refine awl_move rfl rfl ?_
      exact awl_done rfl
    refine awd_q [(33, _), (34, _)] (.cons rfl (.cons rfl (.nil))) rfl rfl rfl ?_
    apply Exists.intro
    refine ⟨fun regs' => ?_, ?_⟩
    · skip
      refine awl_pcall fb18_MeC rfl (rNew_con fuel cells) (.cons (by first | exact Sub.refl _ | exact Sub.ts | exact Sub.nil | exact Sub.agc (by repeat (first | exact .nil | refine .cons (by first | exact Sub.refl _ | exact Sub.nil) ?_))) (.cons (by first | exact Sub.refl _ | exact Sub.ts | exact Sub.nil | exact Sub.agc (by repeat (first | exact .nil | refine .cons (by first | exact Sub.refl _ | exact Sub.nil) ?_))) .nil)) rfl ?_
      exact awl_done rfl
    refine awd_q [(32, _), (35, _)] (.cons rfl (.cons rfl (.nil))) rfl rfl rfl ?_
    apply Exists.intro
    refine ⟨fun regs' => ?_, ?_⟩
    · skip
      refine x_eqs eq23_MeC rfl rfl rfl rfl rfl rfl rfl rfl ?_
      exact awl_done rfl
    refine awd_q [(36, _)] (.cons rfl (.nil)) rfl rfl rfl ?_
    apply Exists.intro
    refine ⟨fun regs' => ?_, ?_⟩
    · skip
      refine awl_move rfl rfl ?_
      exact awl_done rfl
    refine awd_q [(11, _), (37, _)] (.cons rfl (.cons rfl (.nil))) rfl rfl rfl ?_
    apply Exists.intro
    refine ⟨fun regs' => ?_, ?_⟩
    · skip
      refine awl_guard_yes rfl (by first | exact rfl | exact decide_eq_true rfl | exact decide_eq_false rfl) rfl rfl ?_
      first | refine awl_load_row ti23_MeC rfl rfl rfl rfl ?_ | refine x_irow ti23_MeC rfl rfl rfl rfl ?_
      exact awl_done rfl
    refine awd_q [(13, _), (37, _)] (.cons rfl (.cons rfl (.nil))) rfl rfl rfl ?_
    apply Exists.intro
    refine ⟨fun regs' => ?_, ?_⟩
    · skip
      refine awl_guard_yes rfl (by first | exact rfl | exact decide_eq_true rfl | exact decide_eq_false rfl) rfl rfl ?_
      first | refine awl_load_row ti23_MeC rfl rfl rfl rfl ?_ | refine x_irow ti23_MeC rfl rfl rfl rfl ?_
      exact awl_done rfl
    refine awd_q [(38, _), (39, _), (37, _)] (.cons rfl (.cons rfl (.cons rfl (.nil)))) rfl rfl rfl ?_
    apply Exists.intro
    refine ⟨fun regs' => ?_, ?_⟩
    · skip
      refine awl_guard_yes rfl (by first | exact rfl | exact decide_eq_true rfl | exact decide_eq_false rfl) rfl rfl ?_
      refine x_eqs eq23_MeC rfl rfl rfl rfl rfl rfl rfl rfl ?_
      exact awl_done rfl
    refine awd_q [(37, _), (40, _)] (.cons rfl (.cons rfl (.nil))) rfl rfl rfl ?_
    apply Exists.intro
    refine ⟨fun regs' => ?_, ?_⟩
    · skip
      refine awl_pick_t (by first | exact rfl | exact decide_eq_true rfl | exact decide_eq_false rfl) rfl rfl rfl ?_
      exact awl_done rfl
    refine awd_q [(41, _)] (.cons rfl (.nil)) rfl rfl rfl ?_
    apply Exists.intro
    refine ⟨fun regs' => ?_, ?_⟩
    · skip
      refine awl_move rfl rfl ?_
      exact awl_done rfl
    refine awd_q [(12, _), (42, _)] (.cons rfl (.cons rfl (.nil))) rfl rfl rfl ?_
    apply Exists.intro
    refine ⟨fun regs' => ?_, ?_⟩
    · skip
      refine awl_guard_yes rfl (by first | exact rfl | exact decide_eq_true rfl | exact decide_eq_false rfl) rfl rfl ?_
      refine awl_move rfl rfl ?_
      exact awl_done rfl
    refine awd_q [(14, _), (42, _)] (.cons rfl (.cons rfl (.nil))) rfl rfl rfl ?_
    apply Exists.intro
    refine ⟨fun regs' => ?_, ?_⟩
    · skip
      refine awl_guard_yes rfl (by first | exact rfl | exact decide_eq_true rfl | exact decide_eq_false rfl) rfl rfl ?_
      refine awl_move rfl rfl ?_
      exact awl_done rfl
    refine awd_q [(43, _), (44, _), (42, _)] (.cons rfl (.cons rfl (.cons rfl (.nil)))) rfl rfl rfl ?_
    apply Exists.intro
    refine ⟨fun regs' => ?_, ?_⟩
    · skip
      refine awl_guard_yes rfl (by first | exact rfl | exact decide_eq_true rfl | exact decide_eq_false rfl) rfl rfl ?_
      refine awl_bin rfl rfl rfl rfl bin_eql ?_
      exact awl_done rfl
    refine awd_q [(42, _), (45, _)] (.cons rfl (.cons rfl (.nil))) rfl rfl rfl ?_
    apply Exists.intro
    refine ⟨fun regs' => ?_, ?_⟩
    · skip
      refine awl_pick_t (by first | exact rfl | exact decide_eq_true rfl | exact decide_eq_false rfl) rfl rfl rfl ?_
      exact awl_done rfl
    refine awd_q [(46, _)] (.cons rfl (.nil)) rfl rfl rfl ?_
    apply Exists.intro
    refine ⟨fun regs' => ?_, ?_⟩
    · skip
      refine awl_move rfl rfl ?_
      exact awl_done rfl
    refine awd_q [(7, _), (47, _)] (.cons rfl (.cons rfl (.nil))) rfl rfl rfl ?_
    apply Exists.intro
    refine ⟨fun regs' => ?_, ?_⟩
    · skip
      refine awl_guard_yes rfl (by first | exact rfl | exact decide_eq_true rfl | exact decide_eq_false rfl) rfl rfl ?_
      first | refine awl_load_row ti23_MeC rfl rfl rfl rfl ?_ | refine x_irow ti23_MeC rfl rfl rfl rfl ?_
      exact awl_done rfl
    refine awd_q [(8, _), (47, _)] (.cons rfl (.cons rfl (.nil))) rfl rfl rfl ?_
    apply Exists.intro
    refine ⟨fun regs' => ?_, ?_⟩
    · skip
      refine awl_guard_yes rfl (by first | exact rfl | exact decide_eq_true rfl | exact decide_eq_false rfl) rfl rfl ?_
      first | refine awl_load_row ti27_MeC rfl rfl rfl rfl ?_ | refine x_irow ti27_MeC rfl rfl rfl rfl ?_
      exact awl_done rfl
    refine awd_q [(48, _), (49, _), (47, _)] (.cons rfl (.cons rfl (.cons rfl (.nil)))) rfl rfl rfl ?_
    apply Exists.intro
    refine ⟨fun regs' => ?_, ?_⟩
    · skip
      refine awl_guard_yes rfl (by first | exact rfl | exact decide_eq_true rfl | exact decide_eq_false rfl) rfl rfl ?_
      refine awl_pcall fb19_MeC rfl (pFits_con mf mc t hmc hsz) (.cons (by first | exact Sub.refl _ | exact Sub.ts | exact Sub.nil | exact Sub.agc (by repeat (first | exact .nil | refine .cons (by first | exact Sub.refl _ | exact Sub.nil) ?_))) (.cons (by first | exact Sub.refl _ | exact Sub.ts | exact Sub.nil | exact Sub.agc (by repeat (first | exact .nil | refine .cons (by first | exact Sub.refl _ | exact Sub.nil) ?_))) .nil)) rfl ?_
      exact awl_done rfl
    refine awd_q [(7, _), (47, _)] (.cons rfl (.cons rfl (.nil))) rfl rfl rfl ?_
    apply Exists.intro
    refine ⟨fun regs' => ?_, ?_⟩
    · skip
      refine awl_guard_yes rfl (by first | exact rfl | exact decide_eq_true rfl | exact decide_eq_false rfl) rfl rfl ?_
      first | refine awl_load_row ti23_MeC rfl rfl rfl rfl ?_ | refine x_irow ti23_MeC rfl rfl rfl rfl ?_
      exact awl_done rfl
    refine awd_q [(8, _), (47, _)] (.cons rfl (.cons rfl (.nil))) rfl rfl rfl ?_
    apply Exists.intro
    refine ⟨fun regs' => ?_, ?_⟩
    · skip
      refine awl_guard_yes rfl (by first | exact rfl | exact decide_eq_true rfl | exact decide_eq_false rfl) rfl rfl ?_
      first | refine awl_load_row ti27_MeC rfl rfl rfl rfl ?_ | refine x_irow ti27_MeC rfl rfl rfl rfl ?_
      exact awl_done rfl
    refine awd_q [(51, _), (52, _), (47, _)] (.cons rfl (.cons rfl (.cons rfl (.nil)))) rfl rfl rfl ?_
    apply Exists.intro
    refine ⟨fun regs' => ?_, ?_⟩
    · skip
      refine awl_guard_yes rfl (by first | exact rfl | exact decide_eq_true rfl | exact decide_eq_false rfl) rfl rfl ?_
      refine awl_pcall fb20_MeC rfl (rFits_con mf mc t hmc hsz) (.cons (by first | exact Sub.refl _ | exact Sub.ts | exact Sub.nil | exact Sub.agc (by repeat (first | exact .nil | refine .cons (by first | exact Sub.refl _ | exact Sub.nil) ?_))) (.cons (by first | exact Sub.refl _ | exact Sub.ts | exact Sub.nil | exact Sub.agc (by repeat (first | exact .nil | refine .cons (by first | exact Sub.refl _ | exact Sub.nil) ?_))) .nil)) rfl ?_
      exact awl_done rfl
    refine awd_q [(50, _), (53, _), (47, _)] (.cons rfl (.cons rfl (.cons rfl (.nil)))) rfl rfl rfl ?_
    apply Exists.intro
    refine ⟨fun regs' => ?_, ?_⟩
    · skip
      refine awl_guard_yes rfl (by first | exact rfl | exact decide_eq_true rfl | exact decide_eq_false rfl) rfl rfl ?_
      refine awl_bin rfl rfl rfl rfl bin_eql ?_
      exact awl_done rfl
    refine awd_q [(47, _), (54, _)] (.cons rfl (.cons rfl (.nil))) rfl rfl rfl ?_
    apply Exists.intro
    refine ⟨fun regs' => ?_, ?_⟩
    · skip
      refine awl_pick_t (by first | exact rfl | exact decide_eq_true rfl | exact decide_eq_false rfl) rfl rfl rfl ?_
      exact awl_done rfl
    refine awd_q [(55, _)] (.cons rfl (.nil)) rfl rfl rfl ?_
    apply Exists.intro
    refine ⟨fun regs' => ?_, ?_⟩
    · skip
      refine awl_move rfl rfl ?_
      exact awl_done rfl
    refine awd_q [(7, _), (56, _)] (.cons rfl (.cons rfl (.nil))) rfl rfl rfl ?_
    apply Exists.intro
    refine ⟨fun regs' => ?_, ?_⟩
    · skip
      refine awl_guard_yes rfl (by first | exact rfl | exact decide_eq_true rfl | exact decide_eq_false rfl) rfl rfl ?_
      first | refine awl_load_row ti23_MeC rfl rfl rfl rfl ?_ | refine x_irow ti23_MeC rfl rfl rfl rfl ?_
      exact awl_done rfl
    refine awd_q [(4, _), (56, _)] (.cons rfl (.cons rfl (.nil))) rfl rfl rfl ?_
    apply Exists.intro
    refine ⟨fun regs' => ?_, ?_⟩
    · skip
      refine awl_guard_yes rfl (by first | exact rfl | exact decide_eq_true rfl | exact decide_eq_false rfl) rfl rfl ?_
      refine awl_move rfl rfl ?_
      exact awl_done rfl
    refine awd_q [(57, _), (58, _), (56, _)] (.cons rfl (.cons rfl (.cons rfl (.nil)))) rfl rfl rfl ?_
    apply Exists.intro
    refine ⟨fun regs' => ?_, ?_⟩
    · skip
      refine awl_guard_yes rfl (by first | exact rfl | exact decide_eq_true rfl | exact decide_eq_false rfl) rfl rfl ?_
      refine awl_pcall fb21_MeC rfl (pLess_con mf mc steps hmf) (.cons (by first | exact Sub.refl _ | exact Sub.ts | exact Sub.nil | exact Sub.agc (by repeat (first | exact .nil | refine .cons (by first | exact Sub.refl _ | exact Sub.nil) ?_))) (.cons (by first | exact Sub.refl _ | exact Sub.ts | exact Sub.nil | exact Sub.agc (by repeat (first | exact .nil | refine .cons (by first | exact Sub.refl _ | exact Sub.nil) ?_))) .nil)) rfl ?_
      exact awl_done rfl
    refine awd_q [(7, _), (56, _)] (.cons rfl (.cons rfl (.nil))) rfl rfl rfl ?_
    apply Exists.intro
    refine ⟨fun regs' => ?_, ?_⟩
    · skip
      refine awl_guard_yes rfl (by first | exact rfl | exact decide_eq_true rfl | exact decide_eq_false rfl) rfl rfl ?_
      first | refine awl_load_row ti23_MeC rfl rfl rfl rfl ?_ | refine x_irow ti23_MeC rfl rfl rfl rfl ?_
      exact awl_done rfl
    refine awd_q [(4, _), (56, _)] (.cons rfl (.cons rfl (.nil))) rfl rfl rfl ?_
    apply Exists.intro
    refine ⟨fun regs' => ?_, ?_⟩
    · skip
      refine awl_guard_yes rfl (by first | exact rfl | exact decide_eq_true rfl | exact decide_eq_false rfl) rfl rfl ?_
      refine awl_move rfl rfl ?_
      exact awl_done rfl
    refine awd_q [(60, _), (61, _), (56, _)] (.cons rfl (.cons rfl (.cons rfl (.nil)))) rfl rfl rfl ?_
    apply Exists.intro
    refine ⟨fun regs' => ?_, ?_⟩
    · skip
      refine awl_guard_yes rfl (by first | exact rfl | exact decide_eq_true rfl | exact decide_eq_false rfl) rfl rfl ?_
      refine awl_pcall fb22_MeC rfl (rLess_con mf mc steps hmf) (.cons (by first | exact Sub.refl _ | exact Sub.ts | exact Sub.nil | exact Sub.agc (by repeat (first | exact .nil | refine .cons (by first | exact Sub.refl _ | exact Sub.nil) ?_))) (.cons (by first | exact Sub.refl _ | exact Sub.ts | exact Sub.nil | exact Sub.agc (by repeat (first | exact .nil | refine .cons (by first | exact Sub.refl _ | exact Sub.nil) ?_))) .nil)) rfl ?_
      exact awl_done rfl
    refine awd_q [(59, _), (62, _), (56, _)] (.cons rfl (.cons rfl (.cons rfl (.nil)))) rfl rfl rfl ?_
    apply Exists.intro
    refine ⟨fun regs' => ?_, ?_⟩
    · skip
      refine awl_guard_yes rfl (by first | exact rfl | exact decide_eq_true rfl | exact decide_eq_false rfl) rfl rfl ?_
      refine x_eqs eq23_MeC rfl rfl rfl rfl rfl rfl rfl rfl ?_
      exact awl_done rfl
    refine awd_q [(56, _), (63, _)] (.cons rfl (.cons rfl (.nil))) rfl rfl rfl ?_
    apply Exists.intro
    refine ⟨fun regs' => ?_, ?_⟩
    · skip
      refine awl_pick_t (by first | exact rfl | exact decide_eq_true rfl | exact decide_eq_false rfl) rfl rfl rfl ?_
      exact awl_done rfl
    refine awd_q [(64, _)] (.cons rfl (.nil)) rfl rfl rfl ?_
    apply Exists.intro
    refine ⟨fun regs' => ?_, ?_⟩
    · skip
      refine awl_assign rfl rfl ?_
      exact awl_done rfl
    refine awd_nil ?_
    change AWp _ _ _ _ _ _
    refine awp_ret ?_
    change Ends _ _ _ _ _ _
    refine ends1 [] rfl (.tmp rfl) ?_ rfl
    exact ⟨B_eq (decide_eq_true rfl), rfl⟩

theorem MeterRuns_con (f s : Int) (hf : 0 ≤ f ∧ f ≤ 255) (hs : 0 ≤ s ∧ s ≤ 255) :
    PCon Try.prog 4 [.p (U8 f), .p (U8 s)] (.p (B true)) := by
  have e1 : newF f 7 = mv f 7 := by
    have h1 : min (max f 0) 1073741824 = f := by omega
    unfold newF; rw [h1]; rfl
  have hn := pNew_con f 7
  rw [e1] at hn
  refine con_of Try.func4 rfl 59 Try.ntmps4 rfl fun cx hcx => ?_
  refine awp_seq ?_
  refine awp_region ?_
  refine awl_assign rfl rfl ?_
  refine awl_nil ?_
  change AWp _ _ _ _ _ _
  refine awp_seq ?_
  refine awp_seq ?_
  refine awp_region ?_
  refine awl_pcall fb13_MeC rfl (begun9_con) .nil rfl ?_
  first | refine awl_un rfl rfl rfl un_notd ?_ | refine awl_un rfl rfl rfl un_not ?_
  refine awl_nil ?_
  change AWp _ _ _ _ _ _
  refine awp_cond_f (by first | exact rfl | exact decide_eq_true rfl | exact decide_eq_false rfl) rfl ?_
  refine awp_skip ?_
  change AWp _ _ _ _ _ _
  refine awp_seq ?_
  refine awp_region ?_
  refine awl_move rfl rfl ?_
  refine awl_conv rfl rfl rfl (conv_i Try.underlying5 Try.underlying3 (by omega)) ?_
  refine awl_pcall fb17_MeC rfl (hn) (.cons (by first | exact Sub.refl _ | exact Sub.ts | exact Sub.nil | exact Sub.agc (by repeat (first | exact .nil | refine .cons (by first | exact Sub.refl _ | exact Sub.nil) ?_))) (.cons (by first | exact Sub.refl _ | exact Sub.ts | exact Sub.nil | exact Sub.agc (by repeat (first | exact .nil | refine .cons (by first | exact Sub.refl _ | exact Sub.nil) ?_))) .nil)) rfl ?_
  refine x_alloc tz23_MeC rfl rfl (by rw [hcx]; rfl) rfl ?_
  refine x_store ti23_MeC rfl rfl rfl rfl rfl rfl rfl rfl ?_
  refine awl_nil ?_
  change AWp _ _ _ _ _ _
  refine awp_seq ?_
  refine awp_seq ?_
  refine awp_region ?_
  refine awl_assign rfl rfl ?_
  refine awl_nil ?_
  change AWp _ _ _ _ _ _
  refine awp_block ?_
  refine x_loop [(0, _), (1, _), (5, _)] [] (fun x : Nat => [(6, .p (I x))]) (fun x => [(5, .ce 23 [.p (I (max (f - (x : Int)) 0)), .p (I 7)])]) (fun x => (x : Int) ≤ s) (fun x => (s - (x : Int)).toNat) 0 (Le.mk (.cons rfl (by first | exact Sub.refl _ | exact Sub.ts | exact Sub.nil | exact Sub.eq (by simp) | exact Sub.eq (by simp; omega)) (.cons rfl (by first | exact Sub.refl _ | exact Sub.ts | exact Sub.nil | exact Sub.eq (by simp) | exact Sub.eq (by simp; omega)) (.cons rfl (by first | exact Sub.refl _ | exact Sub.ts | exact Sub.nil | exact Sub.eq (by simp) | exact Sub.eq (by simp; omega)) (.cons rfl (by first | exact Sub.refl _ | exact Sub.ts | exact Sub.nil | exact Sub.eq (by simp) | exact Sub.eq (by simp; omega)) (.nil))))) (.cons rfl (by first | rfl | (simp; done) | (simp; done) | (simp; exact hstep) | (simp; omega)) (.nil)) rfl) (by omega) (fun x hx => ?_)
  skip
  dsimp only [List.cons_append, List.nil_append]
  refine awp_seq ?_
  refine awp_seq ?_
  refine awp_region ?_
  refine awl_move rfl rfl ?_
  refine awl_move rfl rfl ?_
  refine awl_conv rfl rfl rfl (conv_i Try.underlying5 Try.underlying3 (by omega)) ?_
  refine awl_bin rfl rfl rfl rfl bin_lss ?_
  refine awl_nil ?_
  change AWp _ _ _ _ _ _
  first | refine awp_cond_p rfl (fun h2 => ?_) (fun h2 => ?_) | refine awp_cond rfl (fun h2 => ?_) (fun h2 => ?_)
  · skip
    have h3a : (!(decide ((if max (f - (x : Int)) 0 ≤ 0 then (11 : Int) else 0) = 0) == decide ((x : Int) < f))) = false := by by_cases hxf : (x : Int) < f <;> simp [hxf] <;> omega
    have hstep : (if max (f - (x : Int)) 0 ≤ 0 then max (f - (x : Int)) 0 else max (f - (x : Int)) 0 - 1) = max (f - ((x : Int) + 1)) 0 := by split <;> omega
    refine awp_skip ?_
    change AWp _ _ _ _ _ _
    refine awp_seq ?_
    refine awp_block ?_
    refine awp_seq ?_
    refine awp_region ?_
    first | refine awl_load_row ti23_MeC rfl rfl rfl rfl ?_ | refine x_irow ti23_MeC rfl rfl rfl rfl ?_
    refine awl_pcall fb15_MeC rfl (pStep_con (max (f - (x : Int)) 0) 7 (by omega)) (.cons (by first | exact Sub.refl _ | exact Sub.ts | exact Sub.nil | exact Sub.agc (by repeat (first | exact .nil | refine .cons (by first | exact Sub.refl _ | exact Sub.nil) ?_))) .nil) rfl ?_
    refine awl_move rfl rfl ?_
    refine awl_extract rfl rfl rfl ?_
    refine awl_extract rfl rfl rfl ?_
    refine x_alloc tz23_MeC rfl rfl (by rw [hcx]; rfl) rfl ?_
    refine x_store ti23_MeC rfl rfl rfl rfl rfl rfl rfl rfl ?_
    refine awl_assign rfl rfl ?_
    refine awl_nil ?_
    change AWp _ _ _ _ _ _
    refine awp_seq ?_
    refine awp_seq ?_
    refine awp_region ?_
    refine awl_move rfl rfl ?_
    refine awl_bin rfl rfl rfl rfl bin_eql ?_
    refine awl_move rfl rfl ?_
    refine awl_move rfl rfl ?_
    refine awl_conv rfl rfl rfl (conv_i Try.underlying5 Try.underlying3 (by omega)) ?_
    refine awl_bin rfl rfl rfl rfl bin_lss ?_
    refine awl_bin rfl rfl rfl rfl (bool_neq Try.underlying4) ?_
    refine awl_move rfl rfl ?_
    refine awl_guard_yes rfl (by first | exact h3a | exact decide_eq_true h3a | exact decide_eq_false h3a) rfl rfl ?_
    refine awl_move rfl rfl ?_
    refine awl_guard_yes rfl (by first | exact h3a | exact decide_eq_true h3a | exact decide_eq_false h3a) rfl rfl ?_
    refine awl_bin rfl rfl rfl rfl bin_neq ?_
    refine awl_guard_yes rfl (by first | exact h3a | exact decide_eq_true h3a | exact decide_eq_false h3a) rfl rfl ?_
    refine awl_move rfl rfl ?_
    first | refine awl_split_p 35 rfl (fun h4 => ?_) (fun h4 => ?_) | refine awl_split 35 rfl (fun h4 => ?_) (fun h4 => ?_)
    · skip
      have hle : max (f - (x : Int)) 0 ≤ 0 := by
        rcases Int.lt_or_le 0 (max (f - (x : Int)) 0) with h | h
        · exact absurd (if_neg (by omega)) h4
        · exact h
      have h5a : ¬ ((if max (f - (x : Int)) 0 ≤ 0 then (11 : Int) else 0) ≠ 11) := by rw [if_pos hle]; simp
      have h6a : ¬ ([(if max (f - (x : Int)) 0 ≤ 0 then max (f - (x : Int)) 0 else max (f - (x : Int)) 0 - 1), (7 : Int)] ≠ [max (f - (x : Int)) 0, 7]) := by rw [if_pos hle]; simp
      refine awl_guard_yes rfl (by first | exact h4 | exact decide_eq_true h4 | exact decide_eq_false h4) rfl rfl ?_
      refine awl_move rfl rfl ?_
      refine awl_guard_yes rfl (by first | exact h4 | exact decide_eq_true h4 | exact decide_eq_false h4) rfl rfl ?_
      refine awl_bin rfl rfl rfl rfl bin_neq ?_
      refine awl_guard_yes rfl (by first | exact h4 | exact decide_eq_true h4 | exact decide_eq_false h4) rfl rfl ?_
      refine awl_move rfl rfl ?_
      refine awl_guard_yes rfl (by first | exact h5a | exact decide_eq_true h5a | exact decide_eq_false h5a) rfl rfl ?_
      first | refine awl_load_row ti23_MeC rfl rfl rfl rfl ?_ | refine x_irow ti23_MeC rfl rfl rfl rfl ?_
      refine awl_guard_yes rfl (by first | exact h5a | exact decide_eq_true h5a | exact decide_eq_false h5a) rfl rfl ?_
      first | refine awl_load_row ti23_MeC rfl rfl rfl rfl ?_ | refine x_irow ti23_MeC rfl rfl rfl rfl ?_
      refine awl_guard_yes rfl (by first | exact h5a | exact decide_eq_true h5a | exact decide_eq_false h5a) rfl rfl ?_
      refine x_nes eq23_MeC rfl rfl rfl rfl rfl rfl rfl rfl ?_
      refine awl_guard_yes rfl (by first | exact h4 | exact decide_eq_true h4 | exact decide_eq_false h4) rfl rfl ?_
      refine awl_pick_f (by first | exact h5a | exact decide_eq_true h5a | exact decide_eq_false h5a) rfl rfl rfl ?_
      refine awl_guard_yes rfl (by first | exact h3a | exact decide_eq_true h3a | exact decide_eq_false h3a) rfl rfl ?_
      refine awl_pick_t (by first | exact h4 | exact decide_eq_true h4 | exact decide_eq_false h4) rfl rfl rfl ?_
      refine awl_pick_f (by first | exact h3a | exact decide_eq_true h3a | exact decide_eq_false h3a) rfl rfl rfl ?_
      refine awl_nil ?_
      change AWp _ _ _ _ _ _
      refine awp_cond_f (by first | exact h6a | exact decide_eq_true h6a | exact decide_eq_false h6a) rfl ?_
      refine awp_skip ?_
      change AWp _ _ _ _ _ _
      refine awp_region ?_
      first | refine awl_load_row ti23_MeC rfl rfl rfl rfl ?_ | refine x_irow ti23_MeC rfl rfl rfl rfl ?_
      refine x_store ti23_MeC rfl rfl rfl rfl rfl rfl rfl rfl ?_
      refine awl_nil ?_
      change AWp _ _ _ _ _ _
      refine awp_region ?_
      refine awl_move rfl rfl ?_
      first | refine awl_bin rfl rfl rfl rfl (bin_add_i (by omega)) ?_ | refine awl_bin rfl rfl rfl rfl bin_add ?_
      refine awl_assign rfl rfl ?_
      refine awl_nil ?_
      change ∃ x', _
      refine ⟨x + 1, (by omega), (by omega), (Le.mk (.cons rfl (by first | exact Sub.refl _ | exact Sub.ts | exact Sub.nil | exact Sub.eq (by simp) | exact Sub.eq (by simp; omega)) (.cons rfl (by first | exact Sub.refl _ | exact Sub.ts | exact Sub.nil | exact Sub.eq (by simp) | exact Sub.eq (by simp; omega)) (.cons rfl (by first | exact Sub.refl _ | exact Sub.ts | exact Sub.nil | exact Sub.eq (by simp) | exact Sub.eq (by simp; omega)) (.cons rfl (by first | exact Sub.refl _ | exact Sub.ts | exact Sub.nil | exact Sub.eq (by simp) | exact Sub.eq (by simp; omega)) (.nil))))) (.cons rfl (by first | rfl | (simp; done) | (simp; done) | (simp; exact hstep) | (simp; omega)) (.nil)) rfl)⟩
    · skip
      refine awl_guard_no rfl (by first | exact h4 | exact decide_eq_true h4 | exact decide_eq_false h4) rfl rfl rfl rfl ?_
      refine awl_guard_no rfl (by first | exact h4 | exact decide_eq_true h4 | exact decide_eq_false h4) rfl rfl rfl rfl ?_
      refine awl_guard_no rfl (by first | exact h4 | exact decide_eq_true h4 | exact decide_eq_false h4) rfl rfl rfl rfl ?_
      refine awl_guard_un rfl rfl rfl rfl rfl ?_
      refine awl_guard_un rfl rfl rfl rfl rfl ?_
      refine awl_guard_un rfl rfl rfl rfl rfl ?_
      refine awl_guard_no rfl (by first | exact h4 | exact decide_eq_true h4 | exact decide_eq_false h4) rfl rfl rfl rfl ?_
      refine awl_guard_yes rfl (by first | exact h3a | exact decide_eq_true h3a | exact decide_eq_false h3a) rfl rfl ?_
      refine awl_pick_f (by first | exact h4 | exact decide_eq_true h4 | exact decide_eq_false h4) rfl rfl rfl ?_
      refine awl_pick_f (by first | exact h3a | exact decide_eq_true h3a | exact decide_eq_false h3a) rfl rfl rfl ?_
      refine awl_nil ?_
      change AWp _ _ _ _ _ _
      refine awp_cond_f rfl rfl ?_
      refine awp_skip ?_
      change AWp _ _ _ _ _ _
      refine awp_region ?_
      first | refine awl_load_row ti23_MeC rfl rfl rfl rfl ?_ | refine x_irow ti23_MeC rfl rfl rfl rfl ?_
      refine x_store ti23_MeC rfl rfl rfl rfl rfl rfl rfl rfl ?_
      refine awl_nil ?_
      change AWp _ _ _ _ _ _
      refine awp_region ?_
      refine awl_move rfl rfl ?_
      first | refine awl_bin rfl rfl rfl rfl (bin_add_i (by omega)) ?_ | refine awl_bin rfl rfl rfl rfl bin_add ?_
      refine awl_assign rfl rfl ?_
      refine awl_nil ?_
      change ∃ x', _
      refine ⟨x + 1, (by omega), (by omega), (Le.mk (.cons rfl (by first | exact Sub.refl _ | exact Sub.ts | exact Sub.nil | exact Sub.eq (by simp) | exact Sub.eq (by simp; omega)) (.cons rfl (by first | exact Sub.refl _ | exact Sub.ts | exact Sub.nil | exact Sub.eq (by simp) | exact Sub.eq (by simp; omega)) (.cons rfl (by first | exact Sub.refl _ | exact Sub.ts | exact Sub.nil | exact Sub.eq (by simp) | exact Sub.eq (by simp; omega)) (.cons rfl (by first | exact Sub.refl _ | exact Sub.ts | exact Sub.nil | exact Sub.eq (by simp) | exact Sub.eq (by simp; omega)) (.nil))))) (.cons rfl (by first | rfl | (simp; done) | (simp; done) | (simp; exact hstep) | (simp; omega)) (.nil)) rfl)⟩
  · skip
    have hxs : (x : Int) = s := by omega
    have h7a : [max (f - (x : Int)) 0, (7 : Int)] = [max f 0 - min (max s 0) (max f 0), 7] := by rw [hxs]; congr 1; omega
    refine awp_exit ?_
    change AWp _ _ _ _ _ _
    refine awp_seq ?_
    refine awp_draw0 hmo_MeC (by kernel_rfl) ?_
    refine awd_q [(5, _)] (.cons rfl (.nil)) rfl rfl rfl ?_
    apply Exists.intro
    refine ⟨fun regs' => ?_, ?_⟩
    · skip
      first | refine awl_load_row ti23_MeC rfl rfl rfl rfl ?_ | refine x_irow ti23_MeC rfl rfl rfl rfl ?_
      exact awl_done rfl
    refine awd_q [(0, _)] (.cons rfl (.nil)) rfl rfl rfl ?_
    apply Exists.intro
    refine ⟨fun regs' => ?_, ?_⟩
    · skip
      refine awl_move rfl rfl ?_
      exact awl_done rfl
    refine awd_q [(47, _)] (.cons rfl (.nil)) rfl rfl rfl ?_
    apply Exists.intro
    refine ⟨fun regs' => ?_, ?_⟩
    · skip
      refine awl_conv rfl rfl rfl (conv_i Try.underlying5 Try.underlying3 (by omega)) ?_
      exact awl_done rfl
    refine awd_q [(48, _)] (.cons rfl (.nil)) rfl rfl rfl ?_
    apply Exists.intro
    refine ⟨fun regs' => ?_, ?_⟩
    · skip
      refine awl_pcall fb17_MeC rfl (hn) (.cons (by first | exact Sub.refl _ | exact Sub.ts | exact Sub.nil | exact Sub.agc (by repeat (first | exact .nil | refine .cons (by first | exact Sub.refl _ | exact Sub.nil) ?_))) (.cons (by first | exact Sub.refl _ | exact Sub.ts | exact Sub.nil | exact Sub.agc (by repeat (first | exact .nil | refine .cons (by first | exact Sub.refl _ | exact Sub.nil) ?_))) .nil)) rfl ?_
      exact awl_done rfl
    refine awd_q [(1, _)] (.cons rfl (.nil)) rfl rfl rfl ?_
    apply Exists.intro
    refine ⟨fun regs' => ?_, ?_⟩
    · skip
      refine awl_move rfl rfl ?_
      exact awl_done rfl
    refine awd_q [(50, _)] (.cons rfl (.nil)) rfl rfl rfl ?_
    apply Exists.intro
    refine ⟨fun regs' => ?_, ?_⟩
    · skip
      refine awl_conv rfl rfl rfl (conv_i Try.underlying5 Try.underlying3 (by omega)) ?_
      exact awl_done rfl
    refine awd_q [(49, _), (51, _)] (.cons rfl (.cons rfl (.nil))) rfl rfl rfl ?_
    apply Exists.intro
    refine ⟨fun regs' => ?_, ?_⟩
    · skip
      refine awl_pcall fb21_MeC rfl (pLess_con f 7 s (by omega)) (.cons (by first | exact Sub.refl _ | exact Sub.ts | exact Sub.nil | exact Sub.agc (by repeat (first | exact .nil | refine .cons (by first | exact Sub.refl _ | exact Sub.nil) ?_))) (.cons (by first | exact Sub.refl _ | exact Sub.ts | exact Sub.nil | exact Sub.agc (by repeat (first | exact .nil | refine .cons (by first | exact Sub.refl _ | exact Sub.nil) ?_))) .nil)) rfl ?_
      exact awl_done rfl
    refine awd_q [(46, _), (52, _)] (.cons rfl (.cons rfl (.nil))) rfl rfl rfl ?_
    apply Exists.intro
    refine ⟨fun regs' => ?_, ?_⟩
    · skip
      refine x_eqs eq23_MeC rfl rfl rfl rfl rfl rfl rfl rfl ?_
      exact awl_done rfl
    refine awd_q [(53, _)] (.cons rfl (.nil)) rfl rfl rfl ?_
    apply Exists.intro
    refine ⟨fun regs' => ?_, ?_⟩
    · skip
      refine awl_move rfl rfl ?_
      exact awl_done rfl
    refine awd_q [(5, _), (54, _)] (.cons rfl (.cons rfl (.nil))) rfl rfl rfl ?_
    apply Exists.intro
    refine ⟨fun regs' => ?_, ?_⟩
    · skip
      refine awl_guard_yes rfl (by first | exact h7a | exact decide_eq_true h7a | exact decide_eq_false h7a) rfl rfl ?_
      first | refine awl_fieldAddr fi23_1_MeC rfl rfl ?_ | refine awl_fieldAddr_i fi23_1_MeC rfl rfl rfl ?_
      exact awl_done rfl
    refine awd_q [(55, _), (54, _)] (.cons rfl (.cons rfl (.nil))) rfl rfl rfl ?_
    apply Exists.intro
    refine ⟨fun regs' => ?_, ?_⟩
    · skip
      refine awl_guard_yes rfl (by first | exact h7a | exact decide_eq_true h7a | exact decide_eq_false h7a) rfl rfl ?_
      first | refine awl_load_one ti3_MeC rfl rfl rfl rfl ?_ | refine awl_load_ione ti3_MeC rfl rfl rfl ?_
      exact awl_done rfl
    refine awd_q [(56, _), (54, _)] (.cons rfl (.cons rfl (.nil))) rfl rfl rfl ?_
    apply Exists.intro
    refine ⟨fun regs' => ?_, ?_⟩
    · skip
      refine awl_guard_yes rfl (by first | exact h7a | exact decide_eq_true h7a | exact decide_eq_false h7a) rfl rfl ?_
      refine awl_bin rfl rfl rfl rfl bin_eql ?_
      exact awl_done rfl
    refine awd_q [(54, _), (57, _)] (.cons rfl (.cons rfl (.nil))) rfl rfl rfl ?_
    apply Exists.intro
    refine ⟨fun regs' => ?_, ?_⟩
    · skip
      refine awl_pick_t (by first | exact h7a | exact decide_eq_true h7a | exact decide_eq_false h7a) rfl rfl rfl ?_
      exact awl_done rfl
    refine awd_q [(58, _)] (.cons rfl (.nil)) rfl rfl rfl ?_
    apply Exists.intro
    refine ⟨fun regs' => ?_, ?_⟩
    · skip
      refine awl_assign rfl rfl ?_
      exact awl_done rfl
    refine awd_nil ?_
    change AWp _ _ _ _ _ _
    refine awp_ret ?_
    change Ends _ _ _ _ _ _
    refine ends1 [] rfl (.tmp rfl) ?_ rfl
    exact ⟨B_eq (decide_eq_true rfl), rfl⟩

end Go.Ab.Ytfgndomaadikoaa
