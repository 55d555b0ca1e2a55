/- The queue's heap: Swap, Push, Pop of the pile. -/
import Derived.Test.YtnennmlpaijedaaQuA
set_option linter.unusedVariables false
set_option linter.unusedSimpArgs false
namespace Go.Ab.Ytnennmlpaijedaa
open Go Go.RowKit Go.Ab Go.Proofs

theorem hmo_QuB : Try.prog.follows .mixedOrders = true := by kernel_rfl
theorem ti49_QuB : TI Try.prog 49 1 false := ⟨by kernel_rfl, by kernel_rfl⟩
theorem si49_QuB : SI Try.prog 49 57 := ⟨Try.underlying49⟩
theorem ti57_QuB : TI Try.prog 57 3 true := ⟨by kernel_rfl, by kernel_rfl⟩
theorem cc57_QuB : Try.prog.concrete 57 = true := by kernel_rfl
theorem tz57_QuB : TZ Try.prog 57 [(.int .i64 0), (.int .i64 0), (.int .i64 0)] := ⟨⟨.agg #[(.int .i64 0), (.int .i64 0), (.int .i64 0)], by kernel_rfl, rfl⟩, by kernel_rfl⟩
theorem ei57_QuB : EI Try.prog 57 3 24 := ⟨by kernel_rfl⟩

def swE (l : List Ent) (i k : Nat) : List Ent := (l.set i (l.getD k e0)).set k (l.getD i e0)

theorem Swap_con (ver : Nat) (xs : List Ent) (n : Int) (i k : Nat) (hi : i < xs.length) (hk : k < xs.length) : Con Try.prog 45 [.ptr 1000 0, .p (I i), .p (I k)] (qo ver xs n) (fun r o => r = .tp [] ∧ o = qo ver (swE xs i k) n) := by
  have hl := encE_len xs
  have hri := encE_at hi
  have hrk := encE_at hk
  have hs : ((encE xs).set i (rowE (xs.getD k e0))).set k (rowE (xs.getD i e0)) = encE (swE xs i k) := by rw [encE_set, encE_set]; rfl
  generalize hei : xs.getD i e0 = a at hri hs
  generalize hek : xs.getD k e0 = b at hrk hs
  refine con_of Try.func45 rfl 28 Try.ntmps45 rfl fun cx hcx => ?_
  apply awp_drawS [21, 23] [23] [] ((fun (B : Obs) => oget [([], B), ([21], [(1000, qh ver n), (1001, .mu 57 3 ver ((encE xs).set i (rowE b)))]), ([21, 23], [(1000, qh ver n), (1001, .mu 57 3 ver (((encE xs).set i (rowE b)).set k (rowE a)))])]) _)
  · rfl
  · rfl
  · exact hmo_QuB
  · kernel_rfl
  · rfl
  refine awd_s [[]] [(0, _)] (.cons rfl (.nil)) rfl rfl rfl (by kernel_rfl) ?_
  apply Exists.intro
  refine ⟨(⟨fun regs' => ?_, trivial⟩), ?_, ?_⟩
  · skip
    refine awl_move rfl rfl ?_
    exact awl_doneS rfl rfl
  · kernel_rfl
  refine awd_s [[]] [(6, _)] (.cons rfl (.nil)) rfl rfl rfl (by kernel_rfl) ?_
  apply Exists.intro
  refine ⟨(⟨fun regs' => ?_, trivial⟩), ?_, ?_⟩
  · skip
    refine awl_nilCheck rfl rfl rfl ?_
    exact awl_doneS rfl rfl
  · kernel_rfl
  refine awd_s [[]] [(7, _)] (.cons rfl (.nil)) rfl rfl rfl (by kernel_rfl) ?_
  apply Exists.intro
  refine ⟨(⟨fun regs' => ?_, trivial⟩), ?_, ?_⟩
  · skip
    first | refine awl_load_one ti49_QuB rfl rfl rfl rfl ?_ | refine awl_load_ione ti49_QuB rfl rfl rfl ?_ | refine awl_load_m1 ti49_QuB rfl rfl (by assumption) rfl rfl ?_
    exact awl_doneS rfl rfl
  · kernel_rfl
  refine awd_s [[]] [(1, _)] (.cons rfl (.nil)) rfl rfl rfl (by kernel_rfl) ?_
  apply Exists.intro
  refine ⟨(⟨fun regs' => ?_, trivial⟩), ?_, ?_⟩
  · skip
    refine awl_move rfl rfl ?_
    exact awl_doneS rfl rfl
  · kernel_rfl
  refine awd_s [[]] [(0, _)] (.cons rfl (.nil)) rfl rfl rfl (by kernel_rfl) ?_
  apply Exists.intro
  refine ⟨(⟨fun regs' => ?_, trivial⟩), ?_, ?_⟩
  · skip
    refine awl_move rfl rfl ?_
    exact awl_doneS rfl rfl
  · kernel_rfl
  refine awd_s [[]] [(10, _)] (.cons rfl (.nil)) rfl rfl rfl (by kernel_rfl) ?_
  apply Exists.intro
  refine ⟨(⟨fun regs' => ?_, trivial⟩), ?_, ?_⟩
  · skip
    refine awl_nilCheck rfl rfl rfl ?_
    exact awl_doneS rfl rfl
  · kernel_rfl
  refine awd_s [[]] [(11, _)] (.cons rfl (.nil)) rfl rfl rfl (by kernel_rfl) ?_
  apply Exists.intro
  refine ⟨(⟨fun regs' => ?_, trivial⟩), ?_, ?_⟩
  · skip
    first | refine awl_load_one ti49_QuB rfl rfl rfl rfl ?_ | refine awl_load_ione ti49_QuB rfl rfl rfl ?_ | refine awl_load_m1 ti49_QuB rfl rfl (by assumption) rfl rfl ?_
    exact awl_doneS rfl rfl
  · kernel_rfl
  refine awd_s [[21], []] [(2, _)] (.cons rfl (.nil)) rfl rfl rfl (by kernel_rfl) ?_
  apply Exists.intro
  refine ⟨(⟨fun regs' => ?_,⟨fun regs' => ?_, trivial⟩⟩), ?_, ?_⟩
  · skip
    refine awl_move rfl rfl ?_
    exact awl_doneS rfl rfl
  · skip
    refine awl_move rfl rfl ?_
    exact awl_doneS rfl rfl
  · kernel_rfl
  refine awd_s [[]] [(0, _)] (.cons rfl (.nil)) rfl rfl rfl (by kernel_rfl) ?_
  apply Exists.intro
  refine ⟨(⟨fun regs' => ?_, trivial⟩), ?_, ?_⟩
  · skip
    refine awl_move rfl rfl ?_
    exact awl_doneS rfl rfl
  · kernel_rfl
  refine awd_s [[]] [(14, _)] (.cons rfl (.nil)) rfl rfl rfl (by kernel_rfl) ?_
  apply Exists.intro
  refine ⟨(⟨fun regs' => ?_, trivial⟩), ?_, ?_⟩
  · skip
    refine awl_nilCheck rfl rfl rfl ?_
    exact awl_doneS rfl rfl
  · kernel_rfl
  refine awd_s [[]] [(15, _)] (.cons rfl (.nil)) rfl rfl rfl (by kernel_rfl) ?_
  apply Exists.intro
  refine ⟨(⟨fun regs' => ?_, trivial⟩), ?_, ?_⟩
  · skip
    first | refine awl_load_one ti49_QuB rfl rfl rfl rfl ?_ | refine awl_load_ione ti49_QuB rfl rfl rfl ?_ | refine awl_load_m1 ti49_QuB rfl rfl (by assumption) rfl rfl ?_
    exact awl_doneS rfl rfl
  · kernel_rfl
  refine awd_s [[]] [(2, _)] (.cons rfl (.nil)) rfl rfl rfl (by kernel_rfl) ?_
  apply Exists.intro
  refine ⟨(⟨fun regs' => ?_, trivial⟩), ?_, ?_⟩
  · skip
    refine awl_move rfl rfl ?_
    exact awl_doneS rfl rfl
  · kernel_rfl
  refine awd_s [[]] [(16, _), (17, _)] (.cons rfl (.cons rfl (.nil))) rfl rfl rfl (by kernel_rfl) ?_
  apply Exists.intro
  refine ⟨(⟨fun regs' => ?_, trivial⟩), ?_, ?_⟩
  · skip
    refine awl_index_m si49_QuB ti57_QuB rfl rfl rfl (by omega) (by first | omega | (simp; omega)) rfl ?_
    exact awl_doneS rfl rfl
  · kernel_rfl
  refine awd_s [[]] [(18, _)] (.cons rfl (.nil)) rfl rfl rfl (by kernel_rfl) ?_
  apply Exists.intro
  refine ⟨(⟨fun regs' => ?_, trivial⟩), ?_, ?_⟩
  · skip
    first | refine awl_load_row ti57_QuB rfl rfl rfl rfl ?_ | refine x_irow ti57_QuB rfl rfl rfl rfl ?_ | refine awl_load_m ti57_QuB rfl rfl hrk rfl rfl ?_
    exact awl_doneS rfl rfl
  · kernel_rfl
  refine awd_s [[]] [(0, _)] (.cons rfl (.nil)) rfl rfl rfl (by kernel_rfl) ?_
  apply Exists.intro
  refine ⟨(⟨fun regs' => ?_, trivial⟩), ?_, ?_⟩
  · skip
    refine awl_move rfl rfl ?_
    exact awl_doneS rfl rfl
  · kernel_rfl
  refine awd_s [[]] [(20, _)] (.cons rfl (.nil)) rfl rfl rfl (by kernel_rfl) ?_
  apply Exists.intro
  refine ⟨(⟨fun regs' => ?_, trivial⟩), ?_, ?_⟩
  · skip
    refine awl_nilCheck rfl rfl rfl ?_
    exact awl_doneS rfl rfl
  · kernel_rfl
  refine awd_s [[]] [(21, _)] (.cons rfl (.nil)) rfl rfl rfl (by kernel_rfl) ?_
  apply Exists.intro
  refine ⟨(⟨fun regs' => ?_, trivial⟩), ?_, ?_⟩
  · skip
    first | refine awl_load_one ti49_QuB rfl rfl rfl rfl ?_ | refine awl_load_ione ti49_QuB rfl rfl rfl ?_ | refine awl_load_m1 ti49_QuB rfl rfl (by assumption) rfl rfl ?_
    exact awl_doneS rfl rfl
  · kernel_rfl
  refine awd_s [[]] [(1, _)] (.cons rfl (.nil)) rfl rfl rfl (by kernel_rfl) ?_
  apply Exists.intro
  refine ⟨(⟨fun regs' => ?_, trivial⟩), ?_, ?_⟩
  · skip
    refine awl_move rfl rfl ?_
    exact awl_doneS rfl rfl
  · kernel_rfl
  refine awd_s [[]] [(22, _), (23, _)] (.cons rfl (.cons rfl (.nil))) rfl rfl rfl (by kernel_rfl) ?_
  apply Exists.intro
  refine ⟨(⟨fun regs' => ?_, trivial⟩), ?_, ?_⟩
  · skip
    refine awl_index_m si49_QuB ti57_QuB rfl rfl rfl (by omega) (by first | omega | (simp; omega)) rfl ?_
    exact awl_doneS rfl rfl
  · kernel_rfl
  refine awd_s [[]] [(24, _)] (.cons rfl (.nil)) rfl rfl rfl (by kernel_rfl) ?_
  apply Exists.intro
  refine ⟨(⟨fun regs' => ?_, trivial⟩), ?_, ?_⟩
  · skip
    first | refine awl_load_row ti57_QuB rfl rfl rfl rfl ?_ | refine x_irow ti57_QuB rfl rfl rfl rfl ?_ | refine awl_load_m ti57_QuB rfl rfl hri rfl rfl ?_
    exact awl_doneS rfl rfl
  · kernel_rfl
  refine awd_s [[]] [(8, _), (9, _)] (.cons rfl (.cons rfl (.nil))) rfl rfl rfl (by kernel_rfl) ?_
  apply Exists.intro
  refine ⟨(⟨fun regs' => ?_, trivial⟩), ?_, ?_⟩
  · skip
    refine awl_index_m si49_QuB ti57_QuB rfl rfl rfl (by omega) (by first | omega | (simp; omega)) rfl ?_
    exact awl_doneS rfl rfl
  · kernel_rfl
  refine awd_s [[]] [(26, _), (19, _)] (.cons rfl (.cons rfl (.nil))) rfl rfl rfl (by kernel_rfl) ?_
  refine ⟨.any, ?_⟩
  refine ⟨(⟨fun regs' => ?_, trivial⟩), ?_, ?_⟩
  · skip
    first | refine x_store ti57_QuB rfl rfl rfl rfl rfl rfl rfl rfl ?_ | refine awl_store_m ti57_QuB rfl rfl rfl (by first | omega | (simp; omega)) rfl rfl rfl rfl ?_
    exact awl_doneS rfl rfl
  · kernel_rfl
  refine awd_s [[21]] [(12, _), (13, _)] (.cons rfl (.cons rfl (.nil))) rfl rfl rfl (by kernel_rfl) ?_
  apply Exists.intro
  refine ⟨(⟨fun regs' => ?_, trivial⟩), ?_, ?_⟩
  · skip
    refine awl_index_m si49_QuB ti57_QuB rfl rfl rfl (by omega) (by first | omega | (simp; omega)) rfl ?_
    exact awl_doneS rfl rfl
  · kernel_rfl
  refine awd_e [21] rfl rfl rfl (by kernel_rfl) rfl rfl ?_
  refine ⟨.any, ?_⟩
  refine ⟨?_, ?_, ?_⟩
  · skip
    first | refine x_store ti57_QuB rfl rfl rfl rfl rfl rfl rfl rfl ?_ | refine awl_store_m ti57_QuB rfl rfl rfl (by first | omega | (simp; omega)) rfl rfl rfl rfl ?_
    exact awl_done rfl
  · kernel_rfl
  refine awd_endS ?_
  try dsimp only [putd]
  change Ends _ _ _ _ _ _
  refine ends0 [1000, 1001] rfl  ?_ rfl
  exact ⟨rfl, by rw [hs]; rfl⟩

theorem PilePush_con (ver : Nat) (xs : List Ent) (n : Int) (e : Ent) (hlen : xs.length ≤ 1000000) : Con Try.prog 44 [.ptr 1000 0, .ifc 57 (.ag [.p (I e.w), .p (I e.n), .p (I e.t)])] (qo ver xs n) (fun r o => r = .tp [] ∧ o = qo (ver + 1) (xs ++ [e]) n) := by
  have hl := encE_len xs
  have hs : encE xs ++ [rowE e] = encE (xs ++ [e]) := by rw [← encE_app]; rfl
  refine con_of Try.func44 rfl 20 Try.ntmps44 rfl fun cx hcx => ?_
  refine awp_seq ?_
  refine awp_region ?_
  refine awl_move rfl rfl ?_
  refine awl_assert cc57_QuB rfl rfl ?_
  refine awl_move rfl rfl ?_
  refine awl_extract rfl rfl rfl ?_
  refine awl_extract rfl rfl rfl ?_
  refine x_alloc tz57_QuB rfl rfl (by rw [hcx]; rfl) rfl ?_
  first | refine x_store ti57_QuB rfl rfl rfl rfl rfl rfl rfl rfl ?_ | refine awl_store_m ti57_QuB rfl rfl rfl (by first | omega | (simp; omega)) rfl rfl rfl rfl ?_
  refine awl_assign rfl rfl ?_
  refine awl_nil ?_
  change AWp _ _ _ _ _ _
  refine awp_seq ?_
  refine awp_region ?_
  refine awl_move rfl rfl ?_
  refine awl_nil ?_
  change AWp _ _ _ _ _ _
  refine awp_cond_t (by first | exact rfl | exact decide_eq_true rfl | exact decide_eq_false rfl) rfl ?_
  apply awp_drawS [6, 8] [8] [] ((fun (B : Obs) => oget [([], B), ([6], [(4, .ce 57 [.p (I e.w), .p (I e.n), .p (I e.t)]), (1000, qh ver n), (1001, .mu 57 3 (ver + 1) (encE xs ++ [rowE e]))]), ([6, 8], [(4, .ce 57 [.p (I e.w), .p (I e.n), .p (I e.t)]), (1000, qh (ver + 1) n), (1001, .mu 57 3 (ver + 1) (encE xs ++ [rowE e]))])]) _)
  · rfl
  · rfl
  · exact hmo_QuB
  · kernel_rfl
  · rfl
  refine awd_s [[6], []] [(0, _)] (.cons rfl (.nil)) rfl rfl rfl (by kernel_rfl) ?_
  apply Exists.intro
  refine ⟨(⟨fun regs' => ?_,⟨fun regs' => ?_, trivial⟩⟩), ?_, ?_⟩
  · skip
    refine awl_move rfl rfl ?_
    exact awl_doneS rfl rfl
  · skip
    refine awl_move rfl rfl ?_
    exact awl_doneS rfl rfl
  · kernel_rfl
  refine awd_s [[]] [(0, _)] (.cons rfl (.nil)) rfl rfl rfl (by kernel_rfl) ?_
  apply Exists.intro
  refine ⟨(⟨fun regs' => ?_, trivial⟩), ?_, ?_⟩
  · skip
    refine awl_move rfl rfl ?_
    exact awl_doneS rfl rfl
  · kernel_rfl
  refine awd_s [[]] [(13, _)] (.cons rfl (.nil)) rfl rfl rfl (by kernel_rfl) ?_
  apply Exists.intro
  refine ⟨(⟨fun regs' => ?_, trivial⟩), ?_, ?_⟩
  · skip
    refine awl_nilCheck rfl rfl rfl ?_
    exact awl_doneS rfl rfl
  · kernel_rfl
  refine awd_s [[]] [(14, _)] (.cons rfl (.nil)) rfl rfl rfl (by kernel_rfl) ?_
  apply Exists.intro
  refine ⟨(⟨fun regs' => ?_, trivial⟩), ?_, ?_⟩
  · skip
    first | refine awl_load_one ti49_QuB rfl rfl rfl rfl ?_ | refine awl_load_ione ti49_QuB rfl rfl rfl ?_ | refine awl_load_m1 ti49_QuB rfl rfl (by assumption) rfl rfl ?_
    exact awl_doneS rfl rfl
  · kernel_rfl
  refine awd_s [[]] [(4, _)] (.cons rfl (.nil)) rfl rfl rfl (by kernel_rfl) ?_
  apply Exists.intro
  refine ⟨(⟨fun regs' => ?_, trivial⟩), ?_, ?_⟩
  · skip
    first | refine awl_load_row ti57_QuB rfl rfl rfl rfl ?_ | refine x_irow ti57_QuB rfl rfl rfl rfl ?_ | refine awl_load_m ti57_QuB rfl rfl (by assumption) rfl rfl ?_
    exact awl_doneS rfl rfl
  · kernel_rfl
  refine awd_s [[]] [(16, _)] (.cons rfl (.nil)) rfl rfl rfl (by kernel_rfl) ?_
  apply Exists.intro
  refine ⟨(⟨fun regs' => ?_, trivial⟩), ?_, ?_⟩
  · skip
    refine x_slice si49_QuB ei57_QuB rfl rfl rfl rfl ?_
    exact awl_doneS rfl rfl
  · kernel_rfl
  refine awd_s [[]] [(15, _), (17, _)] (.cons rfl (.cons rfl (.nil))) rfl rfl rfl (by kernel_rfl) ?_
  apply Exists.intro
  refine ⟨(⟨fun regs' => ?_, trivial⟩), ?_, ?_⟩
  · skip
    first | refine x_append si49_QuB ei57_QuB rfl rfl (by first | rfl | simp) rfl rfl rfl (.inl rfl) rfl rfl (by simp; omega) (by simp; omega) ?_ | refine awl_append_nil si49_QuB ei57_QuB rfl rfl (by rw [hcx]; rfl) rfl rfl rfl (.inl rfl) (by simp; omega) (by simp; omega) rfl ?_ | refine awl_append_m si49_QuB ei57_QuB rfl rfl rfl rfl rfl rfl rfl (by simp; omega) (by simp; omega) ?_ | refine awl_append_m2 si49_QuB ei57_QuB rfl rfl rfl rfl rfl rfl rfl (by simp; omega) (by simp; omega) ?_
    exact awl_doneS rfl rfl
  · kernel_rfl
  refine awd_s [[6]] [(12, _)] (.cons rfl (.nil)) rfl rfl rfl (by kernel_rfl) ?_
  apply Exists.intro
  refine ⟨(⟨fun regs' => ?_, trivial⟩), ?_, ?_⟩
  · skip
    refine awl_nilCheck rfl rfl rfl ?_
    exact awl_doneS rfl rfl
  · kernel_rfl
  refine awd_e [6] rfl rfl rfl (by kernel_rfl) rfl rfl ?_
  refine ⟨.any, ?_⟩
  refine ⟨?_, ?_, ?_⟩
  · skip
    first | refine x_store ti49_QuB rfl rfl rfl rfl rfl rfl rfl rfl ?_ | refine awl_store_m ti49_QuB rfl rfl rfl (by first | omega | (simp; omega)) rfl rfl rfl rfl ?_
    exact awl_done rfl
  · kernel_rfl
  refine awd_endS ?_
  try dsimp only [putd]
  change Ends _ _ _ _ _ _
  refine ends0 [1000, 1001] rfl  ?_ rfl
  exact ⟨rfl, by rw [hs]; rfl⟩

theorem PilePop_con (ver : Nat) (xs : List Ent) (n : Int) (hx : 0 < xs.length) : Con Try.prog 43 [.ptr 1000 0] (qo ver xs n) (fun r o => r = .any ∧ o = qo (ver + 1) (xs.take (xs.length - 1)) n) := by
  have hl := encE_len xs
  have hrl : (encE xs)[((((encE xs).length : Nat) : Int) - 1).toNat]? = some (rowE (xs.getD (xs.length - 1) e0)) := by
    have : ((((encE xs).length : Nat) : Int) - 1).toNat = xs.length - 1 := by rw [hl]; omega
    rw [this]; exact encE_at (by omega)
  have hs : (encE xs).take ((((encE xs).length : Nat) : Int) - 1).toNat = encE (xs.take (xs.length - 1)) := by
    have : ((((encE xs).length : Nat) : Int) - 1).toNat = xs.length - 1 := by rw [hl]; omega
    rw [this, encE_take]
  refine con_of Try.func43 rfl 25 Try.ntmps43 rfl fun cx hcx => ?_
  refine awp_seq ?_
  refine awp_region ?_
  refine awl_assign rfl rfl ?_
  refine awl_nil ?_
  change AWp _ _ _ _ _ _
  refine awp_seq ?_
  refine awp_region ?_
  refine awl_move rfl rfl ?_
  refine awl_nilCheck rfl rfl rfl ?_
  first | refine awl_load_one ti49_QuB rfl rfl rfl rfl ?_ | refine awl_load_ione ti49_QuB rfl rfl rfl ?_ | refine awl_load_m1 ti49_QuB rfl rfl (by assumption) rfl rfl ?_
  first | refine x_len si49_QuB rfl rfl rfl (fun hlen5 => ?_) | refine awl_len_m si49_QuB rfl rfl rfl (fun hlen5 => ?_)
  first | refine awl_bin rfl rfl rfl rfl (bin_sub_i (by omega)) ?_ | refine awl_bin rfl rfl rfl rfl bin_sub ?_
  refine awl_assign rfl rfl ?_
  refine awl_nil ?_
  change AWp _ _ _ _ _ _
  refine awp_seq ?_
  refine awp_region ?_
  refine awl_move rfl rfl ?_
  refine awl_nilCheck rfl rfl rfl ?_
  first | refine awl_load_one ti49_QuB rfl rfl rfl rfl ?_ | refine awl_load_ione ti49_QuB rfl rfl rfl ?_ | refine awl_load_m1 ti49_QuB rfl rfl (by assumption) rfl rfl ?_
  refine awl_move rfl rfl ?_
  refine awl_index_m si49_QuB ti57_QuB rfl rfl rfl (by omega) (by first | omega | (simp; omega)) rfl ?_
  first | refine awl_load_row ti57_QuB rfl rfl rfl rfl ?_ | refine x_irow ti57_QuB rfl rfl rfl rfl ?_ | refine awl_load_m ti57_QuB rfl rfl hrl rfl rfl ?_
  refine x_alloc tz57_QuB rfl rfl (by rw [hcx]; rfl) rfl ?_
  first | refine x_store ti57_QuB rfl rfl rfl rfl rfl rfl rfl rfl ?_ | refine awl_store_m ti57_QuB rfl rfl rfl (by first | omega | (simp; omega)) rfl rfl rfl rfl ?_
  refine awl_nil ?_
  change AWp _ _ _ _ _ _
  refine awp_seq ?_
  refine awp_region ?_
  refine awl_move rfl rfl ?_
  refine awl_move rfl rfl ?_
  refine awl_nilCheck rfl rfl rfl ?_
  first | refine awl_load_one ti49_QuB rfl rfl rfl rfl ?_ | refine awl_load_ione ti49_QuB rfl rfl rfl ?_ | refine awl_load_m1 ti49_QuB rfl rfl (by assumption) rfl rfl ?_
  refine awl_move rfl rfl ?_
  refine awl_cut_m si49_QuB ti57_QuB rfl rfl rfl (by omega) (by first | omega | (simp; omega)) rfl rfl ?_
  refine awl_nilCheck rfl rfl rfl ?_
  first | refine x_store ti49_QuB rfl rfl rfl rfl rfl rfl rfl rfl ?_ | refine awl_store_m ti49_QuB rfl rfl rfl (by first | omega | (simp; omega)) rfl rfl rfl rfl ?_
  refine awl_nil ?_
  change AWp _ _ _ _ _ _
  refine awp_seq ?_
  refine awp_region ?_
  first | refine awl_load_row ti57_QuB rfl rfl rfl rfl ?_ | refine x_irow ti57_QuB rfl rfl rfl rfl ?_ | refine awl_load_m ti57_QuB rfl rfl (by assumption) rfl rfl ?_
  refine awl_mkifc cc57_QuB rfl rfl ?_
  refine awl_sub Sub.any ?_
  refine awl_assign rfl rfl ?_
  refine awl_nil ?_
  change AWp _ _ _ _ _ _
  refine awp_ret ?_
  change Ends _ _ _ _ _ _
  refine ends1 [1000, 1001] rfl (.tmp rfl) ?_ rfl
  exact ⟨rfl, by rw [hs]; rfl⟩

end Go.Ab.Ytnennmlpaijedaa
