/- The queue's Drop: heap.Init; Pop of an empty queue, Push to a full one. -/
import Derived.Test.YtnennmlpaijedaaQuK
set_option linter.unusedVariables false
set_option linter.unusedSimpArgs false
namespace Go.Ab.Ytnennmlpaijedaa
open Go Go.RowKit Go.Ab Go.Proofs

theorem mi55_Len_QuL : MI Try.prog 55 "Len" 41 := ⟨fun w b o args => by kernel_rfl⟩
theorem fb41_QuL : FB Try.prog 41 := ⟨_, Try.func41, rfl, by kernel_rfl⟩
theorem fb23_QuL : FB Try.prog 23 := ⟨_, Try.func23, rfl, by kernel_rfl⟩
theorem ti44_QuL : TI Try.prog 44 1 false := ⟨by kernel_rfl, by kernel_rfl⟩
theorem fi51_0_QuL : FI Try.prog 51 0 0 := ⟨_, _, 0, Try.underlying51, rfl, rfl, by kernel_rfl⟩
theorem ti49_QuL : TI Try.prog 49 1 false := ⟨by kernel_rfl, by kernel_rfl⟩
theorem si49_QuL : SI Try.prog 49 57 := ⟨Try.underlying49⟩
theorem fb18_QuL : FB Try.prog 18 := ⟨_, Try.func18, rfl, by kernel_rfl⟩
theorem cc55_QuL : Try.prog.concrete 55 = true := by kernel_rfl
theorem fb20_QuL : FB Try.prog 20 := ⟨_, Try.func20, rfl, by kernel_rfl⟩
theorem tz35_QuL : TZ Try.prog 35 [(.int .i64 0), (.int .i64 0)] := ⟨⟨.agg #[(.int .i64 0), (.int .i64 0)], by kernel_rfl, rfl⟩, by kernel_rfl⟩
theorem bi35_QuL : BI Try.prog 35 [(0, 1), (1, 1)] := BI.mk' Try.underlying35 (by kernel_rfl)
theorem ti35_QuL : TI Try.prog 35 2 true := ⟨by kernel_rfl, by kernel_rfl⟩

def inF : List Ent → Nat → Nat → List Ent
  | l, 0, _ => l
  | l, k + 1, m => inF (dnF l k m) k m

theorem Init_con (ver : Nat) (xs : List Ent) (n : Int) (hlen : xs.length ≤ 1000000) : Con Try.prog 20 [hI'] (qo ver xs n) (fun r o => r = .tp [] ∧ o = qo ver (inF xs (xs.length / 2) xs.length) n) := by
  refine con_of Try.func20 rfl 17 Try.ntmps20 rfl fun cx hcx => ?_
  refine awp_seq ?_
  refine awp_region ?_
  refine awl_move rfl rfl ?_
  refine x_invoke mi55_Len_QuL [1000, 1001] fb41_QuL rfl rfl rfl rfl (Len_con ver xs n) (.cons (by first | exact Sub.refl _ | exact Sub.ts | exact Sub.nil | exact Sub.agc (by repeat (first | exact .nil | refine .cons (by first | exact Sub.refl _ | exact Sub.nil) ?_))) .nil) rfl (fun r o ⟨e1, e2⟩ => ?_)
  subst e1 e2
  refine ⟨by rw [hcx]; rfl, _, rfl, ?_⟩
  refine awl_assign rfl rfl ?_
  refine awl_nil ?_
  change AWp _ _ _ _ _ _
  refine awp_seq ?_
  refine awp_region ?_
  refine awl_move rfl rfl ?_
  refine awl_bin rfl rfl rfl rfl (bin_quo (by omega)) ?_
  first | refine awl_bin rfl rfl rfl rfl (bin_sub_i (by omega)) ?_ | refine awl_bin rfl rfl rfl rfl bin_sub ?_
  refine awl_sub (y := .p (I (((xs.length / 2 : Nat) : Int) - 1))) (Sub.eq (I_eq (by omega))) ?_
  refine awl_assign rfl rfl ?_
  refine awl_nil ?_
  change AWp _ _ _ _ _ _
  refine awp_block ?_
  refine x_loop [(0, _), (2, _)] [] (fun x : List Ent × Nat => [(3, .p (I ((x.2 : Int) - 1)))]) (fun x => [(1000, qh ver n), (1001, qa ver x.1)]) (fun x => x.1.length = xs.length ∧ x.2 ≤ xs.length / 2 ∧ inF x.1 x.2 xs.length = inF xs (xs.length / 2) xs.length) (fun x => x.2) (xs, xs.length / 2) (Le.mk (.cons rfl (by first | exact Sub.refl _ | exact Sub.ts | exact Sub.nil | (refine Sub.eq ?_; first | (simp; done) | (simp; omega))) (.cons rfl (by first | exact Sub.refl _ | exact Sub.ts | exact Sub.nil | (refine Sub.eq ?_; first | (simp; done) | (simp; omega))) (.cons rfl (by first | exact Sub.refl _ | exact Sub.ts | exact Sub.nil | (refine Sub.eq ?_; first | (simp; done) | (simp; omega))) (.nil)))) (.cons rfl (by first | rfl | (simp; done)) (.cons rfl (by first | rfl | (simp; done)) (.nil))) rfl) ⟨rfl, Nat.le_refl _, rfl⟩ (fun x hx => ?_)
  obtain ⟨l, k⟩ := x
  obtain ⟨hll, hk2, hin⟩ := hx
  simp only at hll hk2 hin
  dsimp only [List.cons_append, List.nil_append]
  refine awp_seq ?_
  refine awp_seq ?_
  refine awp_region ?_
  refine awl_move rfl rfl ?_
  refine awl_bin rfl rfl rfl rfl bin_geq ?_
  refine awl_nil ?_
  change AWp _ _ _ _ _ _
  first | refine awp_cond_p rfl (fun hc => ?_) (fun hc => ?_) | refine awp_cond rfl (fun hc => ?_) (fun hc => ?_)
  · skip
    obtain ⟨k, rfl⟩ : ∃ q, k = q + 1 := ⟨k - 1, by omega⟩
    refine awp_skip ?_
    change AWp _ _ _ _ _ _
    refine awp_seq ?_
    refine awp_block ?_
    refine awp_region ?_
    refine awl_move rfl rfl ?_
    refine awl_move rfl rfl ?_
    refine awl_sub (y := .p (I (k : Int))) (Sub.eq (I_eq (by omega))) ?_
    refine awl_move rfl rfl ?_
    refine x_call [1000, 1001] fb23_QuL rfl rfl rfl (down_con ver l n k xs.length (by omega) (by omega) (by omega)) (.cons (by first | exact Sub.refl _ | exact Sub.ts | exact Sub.nil | exact Sub.agc (by repeat (first | exact .nil | refine .cons (by first | exact Sub.refl _ | exact Sub.nil) ?_))) (.cons (by first | exact Sub.refl _ | exact Sub.ts | exact Sub.nil | exact Sub.agc (by repeat (first | exact .nil | refine .cons (by first | exact Sub.refl _ | exact Sub.nil) ?_))) (.cons (by first | exact Sub.refl _ | exact Sub.ts | exact Sub.nil | exact Sub.agc (by repeat (first | exact .nil | refine .cons (by first | exact Sub.refl _ | exact Sub.nil) ?_))) .nil))) rfl (fun r o ⟨⟨b, e1⟩, e2⟩ => ?_)
    subst e1 e2
    refine ⟨by rw [hcx]; rfl, _, rfl, ?_⟩
    refine awl_nil ?_
    change AWp _ _ _ _ _ _
    refine awp_region ?_
    refine awl_move rfl rfl ?_
    first | refine awl_bin rfl rfl rfl rfl (bin_sub_i (by omega)) ?_ | refine awl_bin rfl rfl rfl rfl bin_sub ?_
    refine awl_sub (y := .p (I ((k : Int) - 1))) (Sub.eq (I_eq (by omega))) ?_
    refine awl_assign rfl rfl ?_
    refine awl_nil ?_
    change ∃ x', _
    refine ⟨(dnF l k xs.length, k), ⟨by simp only; rw [dnF_len]; exact hll, by simp only; omega, hin⟩, (by simp only; omega), (Le.mk (.cons rfl (by first | exact Sub.refl _ | exact Sub.ts | exact Sub.nil | (refine Sub.eq ?_; first | (simp; done) | (simp; omega))) (.cons rfl (by first | exact Sub.refl _ | exact Sub.ts | exact Sub.nil | (refine Sub.eq ?_; first | (simp; done) | (simp; omega))) (.cons rfl (by first | exact Sub.refl _ | exact Sub.ts | exact Sub.nil | (refine Sub.eq ?_; first | (simp; done) | (simp; omega))) (.nil)))) (.cons rfl (by first | rfl | (simp; done)) (.cons rfl (by first | rfl | (simp; done)) (.nil))) rfl)⟩
  · skip
    refine awp_exit ?_
    change Ends _ _ _ _ _ _
    refine ends0 [1000, 1001] rfl  ?_ rfl
    obtain rfl : k = 0 := by omega
    exact ⟨rfl, by rw [← hin]; rfl⟩

/-- What Drop leaves. -/
def dropF (r : Int) (xs : List Ent) : List Ent := inF (keepE r xs) ((keepE r xs).length / 2) (keepE r xs).length
theorem inF_len (l : List Ent) (k m : Nat) : (inF l k m).length = l.length := by
  induction k generalizing l with
  | zero => rfl
  | succ k ih => rw [inF, ih, dnF_len]

theorem Drop_con (ver : Nat) (xs : List Ent) (n r : Int) (hlen : xs.length ≤ 1000000) : Con Try.prog 12 [.ptr 1000 0, .fv (.func 13) [.ag [.p (I r)]] []] (qo ver xs n)
    (fun x o => ∃ v, x = .p (I ((xs.length : Int) - (dropF r xs).length)) ∧ o = qo v (dropF r xs) n) := by
  have hl := encE_len xs
  have hkl : (keepE r xs).length ≤ xs.length := List.length_filter_le _ _
  have hdl : (encE (inF (keepE r xs) ((keepE r xs).length / 2) (keepE r xs).length)).length = (dropF r xs).length := encE_len _
  have hdk : (dropF r xs).length = (keepE r xs).length := inF_len _ _ _
  refine con_of Try.func12 rfl 38 Try.ntmps12 rfl fun cx hcx => ?_
  refine awp_seq ?_
  refine awp_region ?_
  refine awl_box rfl rfl rfl rfl rfl (by rw [hcx]; rfl) rfl ?_
  refine awl_assign rfl rfl ?_
  refine awl_nil ?_
  change AWp _ _ _ _ _ _
  refine awp_seq ?_
  refine awp_seq ?_
  refine awp_region ?_
  refine awl_move rfl rfl ?_
  first | refine awl_ptr_nil Try.underlying24 rfl rfl rfl ?_ | refine awl_bin rfl rfl rfl rfl (pointer_eql Try.underlying24) ?_
  refine awl_move rfl rfl ?_
  refine awl_guard_yes rfl (by first | exact rfl | exact decide_eq_true rfl | exact decide_eq_false rfl) rfl rfl ?_
  first | refine awl_load_one ti44_QuL rfl rfl rfl rfl ?_ | refine awl_load_ione ti44_QuL rfl rfl rfl ?_ | refine awl_load_m1 ti44_QuL rfl rfl (by assumption) rfl rfl ?_
  refine awl_guard_yes rfl (by first | exact rfl | exact decide_eq_true rfl | exact decide_eq_false rfl) rfl rfl ?_
  first | refine awl_fv_nil Try.underlying44 rfl rfl rfl ?_ | refine awl_bin rfl rfl rfl rfl (func_nil Try.underlying44) ?_
  refine awl_pick_f (by first | exact rfl | exact decide_eq_true rfl | exact decide_eq_false rfl) rfl rfl rfl ?_
  refine awl_nil ?_
  change AWp _ _ _ _ _ _
  refine awp_cond_f (by first | exact rfl | exact decide_eq_true rfl | exact decide_eq_false rfl) rfl ?_
  refine awp_skip ?_
  change AWp _ _ _ _ _ _
  refine awp_seq ?_
  refine awp_region ?_
  refine awl_move rfl rfl ?_
  refine awl_nilCheck rfl rfl rfl ?_
  first | refine awl_fieldAddr fi51_0_QuL rfl rfl ?_ | refine awl_fieldAddr_i fi51_0_QuL rfl rfl rfl ?_ | refine awl_field_m fi51_0_QuL rfl rfl rfl ?_
  first | refine awl_load_one ti49_QuL rfl rfl rfl rfl ?_ | refine awl_load_ione ti49_QuL rfl rfl rfl ?_ | refine awl_load_m1 ti49_QuL rfl rfl (by assumption) rfl rfl ?_
  first | refine x_len si49_QuL rfl rfl rfl (fun hlen18 => ?_) | refine awl_len_m si49_QuL rfl rfl rfl (fun hlen18 => ?_)
  refine awl_assign rfl rfl ?_
  refine awl_nil ?_
  change AWp _ _ _ _ _ _
  refine awp_seq ?_
  refine awp_region ?_
  refine awl_move rfl rfl ?_
  refine awl_move rfl rfl ?_
  refine awl_nilCheck rfl rfl rfl ?_
  first | refine awl_fieldAddr fi51_0_QuL rfl rfl ?_ | refine awl_fieldAddr_i fi51_0_QuL rfl rfl rfl ?_ | refine awl_field_m fi51_0_QuL rfl rfl rfl ?_
  first | refine awl_load_one ti49_QuL rfl rfl rfl rfl ?_ | refine awl_load_ione ti49_QuL rfl rfl rfl ?_ | refine awl_load_m1 ti49_QuL rfl rfl (by assumption) rfl rfl ?_
  refine awl_mkfun rfl rfl rfl ?_
  refine awl_le (Le.objs (objs' := [(1001, _), (3, _), (1000, _)]) (.cons rfl rfl (.cons rfl rfl (.cons rfl rfl .nil))) rfl) ?_
  refine x_call [1001, 3] fb18_QuL rfl rfl rfl ((Delete_con ver xs r hlen).sw 3000 3) (.cons (by first | exact Sub.refl _ | exact Sub.ts | exact Sub.nil | exact Sub.agc (by repeat (first | exact .nil | refine .cons (by first | exact Sub.refl _ | exact Sub.nil) ?_))) (.cons (by first | exact Sub.refl _ | exact Sub.ts | exact Sub.nil | exact Sub.agc (by repeat (first | exact .nil | refine .cons (by first | exact Sub.refl _ | exact Sub.nil) ?_))) .nil)) rfl (fun y o ⟨_, _, ⟨v, e1, e2⟩, e3, e4⟩ => ?_)
  subst e1 e2 e3 e4
  refine ⟨by rw [hcx]; rfl, _, rfl, ?_⟩
  refine awl_le (Le.objs (objs' := [(1000, _), (1001, qa v (keepE r xs)), (3, _)]) (.cons rfl rfl (.cons rfl rfl (.cons rfl rfl .nil))) rfl) ?_
  refine awl_sub (y := .tm 1001 v) (Sub.eq rfl) ?_
  refine awl_nilCheck rfl rfl rfl ?_
  first | refine awl_fieldAddr fi51_0_QuL rfl rfl ?_ | refine awl_fieldAddr_i fi51_0_QuL rfl rfl rfl ?_ | refine awl_field_m fi51_0_QuL rfl rfl rfl ?_
  first | refine x_store ti49_QuL rfl rfl rfl rfl rfl rfl rfl rfl ?_ | refine awl_store_m ti49_QuL rfl rfl rfl (by first | omega | (simp; omega)) rfl rfl rfl rfl ?_
  refine awl_nil ?_
  change AWp _ _ _ _ _ _
  refine awp_seq ?_
  refine awp_region ?_
  refine awl_move rfl rfl ?_
  refine awl_nilCheck rfl rfl rfl ?_
  first | refine awl_fieldAddr fi51_0_QuL rfl rfl ?_ | refine awl_fieldAddr_i fi51_0_QuL rfl rfl rfl ?_ | refine awl_field_m fi51_0_QuL rfl rfl rfl ?_
  refine awl_mkifc cc55_QuL rfl rfl ?_
  refine x_call [1000, 1001] fb20_QuL rfl rfl rfl (Init_con v (keepE r xs) n (by omega)) (.cons (by first | exact Sub.refl _ | exact Sub.ts | exact Sub.nil | exact Sub.agc (by repeat (first | exact .nil | refine .cons (by first | exact Sub.refl _ | exact Sub.nil) ?_))) .nil) rfl (fun r o ⟨e1, e2⟩ => ?_)
  subst e1 e2
  refine ⟨by rw [hcx]; rfl, _, rfl, ?_⟩
  refine awl_nil ?_
  change AWp _ _ _ _ _ _
  refine awp_seq ?_
  refine awp_region ?_
  refine awl_move rfl rfl ?_
  refine awl_move rfl rfl ?_
  refine awl_nilCheck rfl rfl rfl ?_
  first | refine awl_fieldAddr fi51_0_QuL rfl rfl ?_ | refine awl_fieldAddr_i fi51_0_QuL rfl rfl rfl ?_ | refine awl_field_m fi51_0_QuL rfl rfl rfl ?_
  first | refine awl_load_one ti49_QuL rfl rfl rfl rfl ?_ | refine awl_load_ione ti49_QuL rfl rfl rfl ?_ | refine awl_load_m1 ti49_QuL rfl rfl (by assumption) rfl rfl ?_
  first | refine x_len si49_QuL rfl rfl rfl (fun hlen40 => ?_) | refine awl_len_m si49_QuL rfl rfl rfl (fun hlen40 => ?_)
  first | refine awl_bin rfl rfl rfl rfl (bin_sub_i (by omega)) ?_ | refine awl_bin rfl rfl rfl rfl bin_sub ?_
  refine awl_assign rfl rfl ?_
  refine awl_nil ?_
  change AWp _ _ _ _ _ _
  refine awp_ret ?_
  change Ends _ _ _ _ _ _
  refine ends1 [1000, 1001] rfl (.tmp rfl) ?_ rfl
  exact ⟨v, by rw [hl, hdl], rfl⟩

theorem QPop0_con (ver : Nat) (n : Int) : Con Try.prog 9 [.ptr 1000 0] (qo ver [] n)
    (fun r o => r = .tp [.ag [.p (I 0), .p (I 0)], .p (I 26)] ∧ o = qo ver [] n) := by
  refine con_of Try.func9 rfl 30 Try.ntmps9 rfl fun cx hcx => ?_
  refine awp_seq ?_
  refine awp_region ?_
  refine x_alloc tz35_QuL rfl rfl (by rw [hcx]; rfl) rfl ?_
  refine awl_assign rfl rfl ?_
  refine awl_nil ?_
  change AWp _ _ _ _ _ _
  refine awp_seq ?_
  refine awp_block ?_
  refine awp_seq ?_
  refine awp_region ?_
  refine awl_move rfl rfl ?_
  first | refine awl_ptr_nil Try.underlying24 rfl rfl rfl ?_ | refine awl_bin rfl rfl rfl rfl (pointer_eql Try.underlying24) ?_
  refine awl_assign rfl rfl ?_
  refine awl_nil ?_
  change AWp _ _ _ _ _ _
  refine awp_cond_f (by first | exact rfl | exact decide_eq_true rfl | exact decide_eq_false rfl) rfl ?_
  refine awp_seq ?_
  refine awp_region ?_
  refine awl_move rfl rfl ?_
  refine awl_nilCheck rfl rfl rfl ?_
  first | refine awl_fieldAddr fi51_0_QuL rfl rfl ?_ | refine awl_fieldAddr_i fi51_0_QuL rfl rfl rfl ?_ | refine awl_field_m fi51_0_QuL rfl rfl rfl ?_
  first | refine awl_load_one ti49_QuL rfl rfl rfl rfl ?_ | refine awl_load_ione ti49_QuL rfl rfl rfl ?_ | refine awl_load_m1 ti49_QuL rfl rfl (by assumption) rfl rfl ?_
  first | refine x_len si49_QuL rfl rfl rfl (fun hlen11 => ?_) | refine awl_len_m si49_QuL rfl rfl rfl (fun hlen11 => ?_)
  refine awl_bin rfl rfl rfl rfl bin_eql ?_
  refine awl_assign rfl rfl ?_
  refine awl_nil ?_
  change AWp _ _ _ _ _ _
  refine awp_cond_t (by first | exact rfl | exact decide_eq_true rfl | exact decide_eq_false rfl) rfl ?_
  refine awp_seq ?_
  refine awp_region ?_
  refine x_build bi35_QuL tz35_QuL rfl rfl rfl ?_
  first | refine x_store ti35_QuL rfl rfl rfl rfl rfl rfl rfl rfl ?_ | refine awl_store_m ti35_QuL rfl rfl rfl (by first | omega | (simp; omega)) rfl rfl rfl rfl ?_
  refine awl_assign rfl rfl ?_
  refine awl_nil ?_
  change AWp _ _ _ _ _ _
  refine awp_ret ?_
  change Ends _ _ _ _ _ _
  refine ends2 [1000, 1001] rfl (.row ti35_QuL rfl rfl rfl) (.tmp rfl) ?_ rfl
  exact ⟨rfl, rfl⟩

theorem QPushF_con (ver : Nat) (xs : List Ent) (n : Int) (wt nr : Int) (hlen : 256 ≤ xs.length) : Con Try.prog 8 [.ptr 1000 0, .ag [.p (I wt), .p (I nr)]] (qo ver xs n)
    (fun r o => r = .p (I 24) ∧ o = qo ver xs n) := by
  have hl := encE_len xs
  refine con_of Try.func8 rfl 34 Try.ntmps8 rfl fun cx hcx => ?_
  refine awp_seq ?_
  refine awp_region ?_
  refine awl_box rfl rfl rfl rfl rfl (by rw [hcx]; rfl) rfl ?_
  refine awl_assign rfl rfl ?_
  refine awl_nil ?_
  change AWp _ _ _ _ _ _
  refine awp_seq ?_
  refine awp_block ?_
  refine awp_seq ?_
  refine awp_region ?_
  refine awl_move rfl rfl ?_
  first | refine awl_ptr_nil Try.underlying24 rfl rfl rfl ?_ | refine awl_bin rfl rfl rfl rfl (pointer_eql Try.underlying24) ?_
  refine awl_assign rfl rfl ?_
  refine awl_nil ?_
  change AWp _ _ _ _ _ _
  refine awp_cond_f (by first | exact rfl | exact decide_eq_true rfl | exact decide_eq_false rfl) rfl ?_
  refine awp_seq ?_
  refine awp_region ?_
  refine awl_move rfl rfl ?_
  refine awl_nilCheck rfl rfl rfl ?_
  first | refine awl_fieldAddr fi51_0_QuL rfl rfl ?_ | refine awl_fieldAddr_i fi51_0_QuL rfl rfl rfl ?_ | refine awl_field_m fi51_0_QuL rfl rfl rfl ?_
  first | refine awl_load_one ti49_QuL rfl rfl rfl rfl ?_ | refine awl_load_ione ti49_QuL rfl rfl rfl ?_ | refine awl_load_m1 ti49_QuL rfl rfl (by assumption) rfl rfl ?_
  first | refine x_len si49_QuL rfl rfl rfl (fun hlen11 => ?_) | refine awl_len_m si49_QuL rfl rfl rfl (fun hlen11 => ?_)
  refine awl_bin rfl rfl rfl rfl bin_geq ?_
  refine awl_assign rfl rfl ?_
  refine awl_nil ?_
  change AWp _ _ _ _ _ _
  refine awp_cond_t (by first | exact (by omega : ((encE xs).length : Int) ≥ 256) | exact decide_eq_true (by omega : ((encE xs).length : Int) ≥ 256) | exact decide_eq_false (by omega : ((encE xs).length : Int) ≥ 256)) rfl ?_
  refine awp_seq ?_
  refine awp_region ?_
  refine awl_assign rfl rfl ?_
  refine awl_nil ?_
  change AWp _ _ _ _ _ _
  refine awp_ret ?_
  change Ends _ _ _ _ _ _
  refine ends1 [1000, 1001] rfl (.tmp rfl) ?_ rfl
  exact ⟨rfl, rfl⟩

end Go.Ab.Ytnennmlpaijedaa
