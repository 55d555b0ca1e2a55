/- The queue's heap: its methods. -/
import Derived.Test.YtnennmlpaijedaaProg
import Derived.Test.YtnennmlpaijedaaAb30
import Derived.Test.YtnennmlpaijedaaAbT
set_option linter.unusedVariables false
set_option linter.unusedSimpArgs false
namespace Go.Ab.Ytnennmlpaijedaa
open Go Go.RowKit Go.Ab Go.Proofs

theorem ti49_QuA : TI Try.prog 49 1 false := ⟨by kernel_rfl, by kernel_rfl⟩
theorem si49_QuA : SI Try.prog 49 57 := ⟨Try.underlying49⟩
theorem hmo_QuA : Try.prog.follows .mixedOrders = true := by kernel_rfl
theorem ti57_QuA : TI Try.prog 57 3 true := ⟨by kernel_rfl, by kernel_rfl⟩
theorem tz57_QuA : TZ Try.prog 57 [(.int .i64 0), (.int .i64 0), (.int .i64 0)] := ⟨⟨.agg #[(.int .i64 0), (.int .i64 0), (.int .i64 0)], by kernel_rfl, rfl⟩, by kernel_rfl⟩
theorem fi57_0_QuA : FI Try.prog 57 0 0 := ⟨_, _, 1, Try.underlying57, rfl, rfl, by kernel_rfl⟩
theorem fi35_0_QuA : FI Try.prog 35 0 0 := ⟨_, _, 0, Try.underlying35, rfl, rfl, by kernel_rfl⟩
theorem ti3_QuA : TI Try.prog 3 1 false := ⟨by kernel_rfl, by kernel_rfl⟩
theorem fi57_1_QuA : FI Try.prog 57 1 2 := ⟨_, _, 0, Try.underlying57, rfl, rfl, by kernel_rfl⟩

/-- What waits, and when it came. -/
structure Ent where
  w : Int
  n : Int
  t : Int
  deriving Inhabited
def rowE (e : Ent) : List PV := [I e.w, I e.n, I e.t]
def encE (l : List Ent) : List (List PV) := l.map rowE
@[simp] theorem encE_len (l : List Ent) : (encE l).length = l.length := by simp [encE]
def e0 : Ent := ⟨0, 0, 0⟩
theorem encE_at {l : List Ent} {i : Nat} (h : i < l.length) : (encE l)[i]? = some (rowE (l.getD i e0)) := by
  simp [encE, List.getElem?_map, List.getElem?_eq_getElem h, List.getD_eq_getElem?_getD]
theorem encE_set (l : List Ent) (i : Nat) (e : Ent) : (encE l).set i (rowE e) = encE (l.set i e) := by simp [encE, List.map_set]
theorem encE_app (l m : List Ent) : encE l ++ encE m = encE (l ++ m) := by simp [encE]
theorem encE_take (l : List Ent) (k : Nat) : (encE l).take k = encE (l.take k) := by simp [encE, List.map_take]
def lessE (a b : Ent) : Bool := decide (a.w < b.w) || (decide (a.w = b.w) && decide (a.t < b.t))

/-- A queue's memory. -/
def qh (ver : Nat) (n : Int) : Ob := .ce 51 [.tm 1001 ver, .p (I n)]
def qa (ver : Nat) (xs : List Ent) : Ob := .mu 57 3 ver (encE xs)
def qo (ver : Nat) (xs : List Ent) (n : Int) : Obs := [(1000, qh ver n), (1001, qa ver xs)]

theorem Len_con (ver : Nat) (xs : List Ent) (n : Int) : Con Try.prog 41 [.ptr 1000 0] (qo ver xs n) (fun r o => r = .p (I xs.length) ∧ o = qo ver xs n) := by
  have hl := encE_len xs
  refine con_of Try.func41 rfl 7 Try.ntmps41 rfl fun cx hcx => ?_
  refine awp_seq ?_
  refine awp_region ?_
  refine awl_assign rfl rfl ?_
  refine awl_nil ?_
  change AWp _ _ _ _ _ _
  refine awp_seq ?_
  refine awp_region ?_
  refine awl_move rfl rfl ?_
  refine awl_nilCheck rfl rfl rfl ?_
  first | refine awl_load_one ti49_QuA rfl rfl rfl rfl ?_ | refine awl_load_ione ti49_QuA rfl rfl rfl ?_ | refine awl_load_m1 ti49_QuA rfl rfl (by assumption) rfl rfl ?_
  first | refine x_len si49_QuA rfl rfl rfl (fun hlen5 => ?_) | refine awl_len_m si49_QuA rfl rfl rfl (fun hlen5 => ?_)
  refine awl_assign rfl rfl ?_
  refine awl_nil ?_
  change AWp _ _ _ _ _ _
  refine awp_ret ?_
  change Ends _ _ _ _ _ _
  refine ends1 [1000, 1001] rfl (.tmp rfl) ?_ rfl
  exact ⟨by rw [hl], rfl⟩

theorem Less_con (ver : Nat) (xs : List Ent) (n : Int) (i k : Nat) (hi : i < xs.length) (hk : k < xs.length) : Con Try.prog 42 [.ptr 1000 0, .p (I i), .p (I k)] (qo ver xs n) (fun r o => r = .p (B (lessE (xs.getD i e0) (xs.getD k e0))) ∧ o = qo ver xs n) := by
  have hl := encE_len xs
  have hri := encE_at hi
  have hrk := encE_at hk
  generalize hei : xs.getD i e0 = a at hri
  generalize hek : xs.getD k e0 = b at hrk
  refine con_of Try.func42 rfl 44 Try.ntmps42 rfl fun cx hcx => ?_
  refine awp_seq ?_
  refine awp_region ?_
  refine awl_assign rfl rfl ?_
  refine awl_nil ?_
  change AWp _ _ _ _ _ _
  refine awp_seq ?_
  apply awp_drawS [12, 13, 14, 15] [15] [(12, 7), (13, 8)] ((fun (B : Obs) => oget [([], B), ([12], (7, .ce 57 [.p (.v (.int .i64 0)), .p (.v (.int .i64 0)), .p (.v (.int .i64 0))]) :: B), ([13], (8, .ce 57 [.p (.v (.int .i64 0)), .p (.v (.int .i64 0)), .p (.v (.int .i64 0))]) :: B), ([12, 13], (8, .ce 57 [.p (.v (.int .i64 0)), .p (.v (.int .i64 0)), .p (.v (.int .i64 0))]) :: (7, .ce 57 [.p (.v (.int .i64 0)), .p (.v (.int .i64 0)), .p (.v (.int .i64 0))]) :: B), ([12, 13, 14], (8, .ce 57 [.p (I 0), .p (I 0), .p (I 0)]) :: (7, .ce 57 [.p (I a.w), .p (I a.n), .p (I a.t)]) :: B), ([12, 13, 14, 15], (8, .ce 57 [.p (I b.w), .p (I b.n), .p (I b.t)]) :: (7, .ce 57 [.p (I a.w), .p (I a.n), .p (I a.t)]) :: B), ([12, 14], B), ([13, 14], B), ([14], B)]) _)
  · rfl
  · rfl
  · exact hmo_QuA
  · kernel_rfl
  · rfl
  refine awd_s [[12, 13], [12], [13], []] [(0, _)] (.cons rfl (.nil)) rfl rfl rfl (by kernel_rfl) ?_
  apply Exists.intro
  refine ⟨(⟨fun regs' => ?_,⟨fun regs' => ?_,⟨fun regs' => ?_,⟨fun regs' => ?_, trivial⟩⟩⟩⟩), ?_, ?_⟩
  · skip
    refine awl_move rfl rfl ?_
    exact awl_doneS rfl rfl
  · skip
    refine awl_move rfl rfl ?_
    exact awl_doneS rfl rfl
  · skip
    refine awl_move rfl rfl ?_
    exact awl_doneS rfl rfl
  · skip
    refine awl_move rfl rfl ?_
    exact awl_doneS rfl rfl
  · kernel_rfl
  refine awd_s [[12, 13], [12], [13], []] [(9, _)] (.cons rfl (.nil)) rfl rfl rfl (by kernel_rfl) ?_
  apply Exists.intro
  refine ⟨(⟨fun regs' => ?_,⟨fun regs' => ?_,⟨fun regs' => ?_,⟨fun regs' => ?_, trivial⟩⟩⟩⟩), ?_, ?_⟩
  · skip
    refine awl_nilCheck rfl rfl rfl ?_
    exact awl_doneS rfl rfl
  · skip
    refine awl_nilCheck rfl rfl rfl ?_
    exact awl_doneS rfl rfl
  · skip
    refine awl_nilCheck rfl rfl rfl ?_
    exact awl_doneS rfl rfl
  · skip
    refine awl_nilCheck rfl rfl rfl ?_
    exact awl_doneS rfl rfl
  · kernel_rfl
  refine awd_s [[12, 13], [12], [13], []] [(10, _)] (.cons rfl (.nil)) rfl rfl rfl (by kernel_rfl) ?_
  apply Exists.intro
  refine ⟨(⟨fun regs' => ?_,⟨fun regs' => ?_,⟨fun regs' => ?_,⟨fun regs' => ?_, trivial⟩⟩⟩⟩), ?_, ?_⟩
  · skip
    first | refine awl_load_one ti49_QuA rfl rfl rfl rfl ?_ | refine awl_load_ione ti49_QuA rfl rfl rfl ?_ | refine awl_load_m1 ti49_QuA rfl rfl (by assumption) rfl rfl ?_
    exact awl_doneS rfl rfl
  · skip
    first | refine awl_load_one ti49_QuA rfl rfl rfl rfl ?_ | refine awl_load_ione ti49_QuA rfl rfl rfl ?_ | refine awl_load_m1 ti49_QuA rfl rfl (by assumption) rfl rfl ?_
    exact awl_doneS rfl rfl
  · skip
    first | refine awl_load_one ti49_QuA rfl rfl rfl rfl ?_ | refine awl_load_ione ti49_QuA rfl rfl rfl ?_ | refine awl_load_m1 ti49_QuA rfl rfl (by assumption) rfl rfl ?_
    exact awl_doneS rfl rfl
  · skip
    first | refine awl_load_one ti49_QuA rfl rfl rfl rfl ?_ | refine awl_load_ione ti49_QuA rfl rfl rfl ?_ | refine awl_load_m1 ti49_QuA rfl rfl (by assumption) rfl rfl ?_
    exact awl_doneS rfl rfl
  · kernel_rfl
  refine awd_s [[12, 13], [12], [13], []] [(1, _)] (.cons rfl (.nil)) rfl rfl rfl (by kernel_rfl) ?_
  apply Exists.intro
  refine ⟨(⟨fun regs' => ?_,⟨fun regs' => ?_,⟨fun regs' => ?_,⟨fun regs' => ?_, trivial⟩⟩⟩⟩), ?_, ?_⟩
  · skip
    refine awl_move rfl rfl ?_
    exact awl_doneS rfl rfl
  · skip
    refine awl_move rfl rfl ?_
    exact awl_doneS rfl rfl
  · skip
    refine awl_move rfl rfl ?_
    exact awl_doneS rfl rfl
  · skip
    refine awl_move rfl rfl ?_
    exact awl_doneS rfl rfl
  · kernel_rfl
  refine awd_s [[12, 13], [12], [13], []] [(11, _), (12, _)] (.cons rfl (.cons rfl (.nil))) rfl rfl rfl (by kernel_rfl) ?_
  apply Exists.intro
  refine ⟨(⟨fun regs' => ?_,⟨fun regs' => ?_,⟨fun regs' => ?_,⟨fun regs' => ?_, trivial⟩⟩⟩⟩), ?_, ?_⟩
  · skip
    refine awl_index_m si49_QuA ti57_QuA rfl rfl rfl (by omega) (by first | omega | (simp; omega)) rfl ?_
    exact awl_doneS rfl rfl
  · skip
    refine awl_index_m si49_QuA ti57_QuA rfl rfl rfl (by omega) (by first | omega | (simp; omega)) rfl ?_
    exact awl_doneS rfl rfl
  · skip
    refine awl_index_m si49_QuA ti57_QuA rfl rfl rfl (by omega) (by first | omega | (simp; omega)) rfl ?_
    exact awl_doneS rfl rfl
  · skip
    refine awl_index_m si49_QuA ti57_QuA rfl rfl rfl (by omega) (by first | omega | (simp; omega)) rfl ?_
    exact awl_doneS rfl rfl
  · kernel_rfl
  refine awd_s [[12, 13], [12], [13], []] [(13, _)] (.cons rfl (.nil)) rfl rfl rfl (by kernel_rfl) ?_
  apply Exists.intro
  refine ⟨(⟨fun regs' => ?_,⟨fun regs' => ?_,⟨fun regs' => ?_,⟨fun regs' => ?_, trivial⟩⟩⟩⟩), ?_, ?_⟩
  · skip
    first | refine awl_load_row ti57_QuA rfl rfl rfl rfl ?_ | refine x_irow ti57_QuA rfl rfl rfl rfl ?_ | refine awl_load_m ti57_QuA rfl rfl hri rfl rfl ?_
    exact awl_doneS rfl rfl
  · skip
    first | refine awl_load_row ti57_QuA rfl rfl rfl rfl ?_ | refine x_irow ti57_QuA rfl rfl rfl rfl ?_ | refine awl_load_m ti57_QuA rfl rfl hri rfl rfl ?_
    exact awl_doneS rfl rfl
  · skip
    first | refine awl_load_row ti57_QuA rfl rfl rfl rfl ?_ | refine x_irow ti57_QuA rfl rfl rfl rfl ?_ | refine awl_load_m ti57_QuA rfl rfl hri rfl rfl ?_
    exact awl_doneS rfl rfl
  · skip
    first | refine awl_load_row ti57_QuA rfl rfl rfl rfl ?_ | refine x_irow ti57_QuA rfl rfl rfl rfl ?_ | refine awl_load_m ti57_QuA rfl rfl hri rfl rfl ?_
    exact awl_doneS rfl rfl
  · kernel_rfl
  refine awd_s [[12, 13, 14], [12, 13], [12, 14], [12], [13, 14], [13], [14], []] [(0, _)] (.cons rfl (.nil)) rfl rfl rfl (by kernel_rfl) ?_
  apply Exists.intro
  refine ⟨(⟨fun regs' => ?_,⟨fun regs' => ?_,⟨fun regs' => ?_,⟨fun regs' => ?_,⟨fun regs' => ?_,⟨fun regs' => ?_,⟨fun regs' => ?_,⟨fun regs' => ?_, trivial⟩⟩⟩⟩⟩⟩⟩⟩), ?_, ?_⟩
  · skip
    refine awl_move rfl rfl ?_
    exact awl_doneS rfl rfl
  · skip
    refine awl_move rfl rfl ?_
    exact awl_doneS rfl rfl
  · skip
    refine awl_move rfl rfl ?_
    exact awl_doneS rfl rfl
  · skip
    refine awl_move rfl rfl ?_
    exact awl_doneS rfl rfl
  · skip
    refine awl_move rfl rfl ?_
    exact awl_doneS rfl rfl
  · skip
    refine awl_move rfl rfl ?_
    exact awl_doneS rfl rfl
  · skip
    refine awl_move rfl rfl ?_
    exact awl_doneS rfl rfl
  · skip
    refine awl_move rfl rfl ?_
    exact awl_doneS rfl rfl
  · kernel_rfl
  refine awd_s [[12, 13, 14], [12, 13], [12, 14], [12], [13, 14], [13], [14], []] [(15, _)] (.cons rfl (.nil)) rfl rfl rfl (by kernel_rfl) ?_
  apply Exists.intro
  refine ⟨(⟨fun regs' => ?_,⟨fun regs' => ?_,⟨fun regs' => ?_,⟨fun regs' => ?_,⟨fun regs' => ?_,⟨fun regs' => ?_,⟨fun regs' => ?_,⟨fun regs' => ?_, trivial⟩⟩⟩⟩⟩⟩⟩⟩), ?_, ?_⟩
  · skip
    refine awl_nilCheck rfl rfl rfl ?_
    exact awl_doneS rfl rfl
  · skip
    refine awl_nilCheck rfl rfl rfl ?_
    exact awl_doneS rfl rfl
  · skip
    refine awl_nilCheck rfl rfl rfl ?_
    exact awl_doneS rfl rfl
  · skip
    refine awl_nilCheck rfl rfl rfl ?_
    exact awl_doneS rfl rfl
  · skip
    refine awl_nilCheck rfl rfl rfl ?_
    exact awl_doneS rfl rfl
  · skip
    refine awl_nilCheck rfl rfl rfl ?_
    exact awl_doneS rfl rfl
  · skip
    refine awl_nilCheck rfl rfl rfl ?_
    exact awl_doneS rfl rfl
  · skip
    refine awl_nilCheck rfl rfl rfl ?_
    exact awl_doneS rfl rfl
  · kernel_rfl
  refine awd_s [[12, 13, 14], [12, 13], [12, 14], [12], [13, 14], [13], [14], []] [(16, _)] (.cons rfl (.nil)) rfl rfl rfl (by kernel_rfl) ?_
  apply Exists.intro
  refine ⟨(⟨fun regs' => ?_,⟨fun regs' => ?_,⟨fun regs' => ?_,⟨fun regs' => ?_,⟨fun regs' => ?_,⟨fun regs' => ?_,⟨fun regs' => ?_,⟨fun regs' => ?_, trivial⟩⟩⟩⟩⟩⟩⟩⟩), ?_, ?_⟩
  · skip
    first | refine awl_load_one ti49_QuA rfl rfl rfl rfl ?_ | refine awl_load_ione ti49_QuA rfl rfl rfl ?_ | refine awl_load_m1 ti49_QuA rfl rfl (by assumption) rfl rfl ?_
    exact awl_doneS rfl rfl
  · skip
    first | refine awl_load_one ti49_QuA rfl rfl rfl rfl ?_ | refine awl_load_ione ti49_QuA rfl rfl rfl ?_ | refine awl_load_m1 ti49_QuA rfl rfl (by assumption) rfl rfl ?_
    exact awl_doneS rfl rfl
  · skip
    first | refine awl_load_one ti49_QuA rfl rfl rfl rfl ?_ | refine awl_load_ione ti49_QuA rfl rfl rfl ?_ | refine awl_load_m1 ti49_QuA rfl rfl (by assumption) rfl rfl ?_
    exact awl_doneS rfl rfl
  · skip
    first | refine awl_load_one ti49_QuA rfl rfl rfl rfl ?_ | refine awl_load_ione ti49_QuA rfl rfl rfl ?_ | refine awl_load_m1 ti49_QuA rfl rfl (by assumption) rfl rfl ?_
    exact awl_doneS rfl rfl
  · skip
    first | refine awl_load_one ti49_QuA rfl rfl rfl rfl ?_ | refine awl_load_ione ti49_QuA rfl rfl rfl ?_ | refine awl_load_m1 ti49_QuA rfl rfl (by assumption) rfl rfl ?_
    exact awl_doneS rfl rfl
  · skip
    first | refine awl_load_one ti49_QuA rfl rfl rfl rfl ?_ | refine awl_load_ione ti49_QuA rfl rfl rfl ?_ | refine awl_load_m1 ti49_QuA rfl rfl (by assumption) rfl rfl ?_
    exact awl_doneS rfl rfl
  · skip
    first | refine awl_load_one ti49_QuA rfl rfl rfl rfl ?_ | refine awl_load_ione ti49_QuA rfl rfl rfl ?_ | refine awl_load_m1 ti49_QuA rfl rfl (by assumption) rfl rfl ?_
    exact awl_doneS rfl rfl
  · skip
    first | refine awl_load_one ti49_QuA rfl rfl rfl rfl ?_ | refine awl_load_ione ti49_QuA rfl rfl rfl ?_ | refine awl_load_m1 ti49_QuA rfl rfl (by assumption) rfl rfl ?_
    exact awl_doneS rfl rfl
  · kernel_rfl
  refine awd_s [[12, 13, 14], [12, 13], [12, 14], [12], [13, 14], [13], [14], []] [(2, _)] (.cons rfl (.nil)) rfl rfl rfl (by kernel_rfl) ?_
  apply Exists.intro
  refine ⟨(⟨fun regs' => ?_,⟨fun regs' => ?_,⟨fun regs' => ?_,⟨fun regs' => ?_,⟨fun regs' => ?_,⟨fun regs' => ?_,⟨fun regs' => ?_,⟨fun regs' => ?_, trivial⟩⟩⟩⟩⟩⟩⟩⟩), ?_, ?_⟩
  · skip
    refine awl_move rfl rfl ?_
    exact awl_doneS rfl rfl
  · skip
    refine awl_move rfl rfl ?_
    exact awl_doneS rfl rfl
  · skip
    refine awl_move rfl rfl ?_
    exact awl_doneS rfl rfl
  · skip
    refine awl_move rfl rfl ?_
    exact awl_doneS rfl rfl
  · skip
    refine awl_move rfl rfl ?_
    exact awl_doneS rfl rfl
  · skip
    refine awl_move rfl rfl ?_
    exact awl_doneS rfl rfl
  · skip
    refine awl_move rfl rfl ?_
    exact awl_doneS rfl rfl
  · skip
    refine awl_move rfl rfl ?_
    exact awl_doneS rfl rfl
  · kernel_rfl
  refine awd_s [[12, 13, 14], [12, 13], [12, 14], [12], [13, 14], [13], [14], []] [(17, _), (18, _)] (.cons rfl (.cons rfl (.nil))) rfl rfl rfl (by kernel_rfl) ?_
  apply Exists.intro
  refine ⟨(⟨fun regs' => ?_,⟨fun regs' => ?_,⟨fun regs' => ?_,⟨fun regs' => ?_,⟨fun regs' => ?_,⟨fun regs' => ?_,⟨fun regs' => ?_,⟨fun regs' => ?_, trivial⟩⟩⟩⟩⟩⟩⟩⟩), ?_, ?_⟩
  · skip
    refine awl_index_m si49_QuA ti57_QuA rfl rfl rfl (by omega) (by first | omega | (simp; omega)) rfl ?_
    exact awl_doneS rfl rfl
  · skip
    refine awl_index_m si49_QuA ti57_QuA rfl rfl rfl (by omega) (by first | omega | (simp; omega)) rfl ?_
    exact awl_doneS rfl rfl
  · skip
    refine awl_index_m si49_QuA ti57_QuA rfl rfl rfl (by omega) (by first | omega | (simp; omega)) rfl ?_
    exact awl_doneS rfl rfl
  · skip
    refine awl_index_m si49_QuA ti57_QuA rfl rfl rfl (by omega) (by first | omega | (simp; omega)) rfl ?_
    exact awl_doneS rfl rfl
  · skip
    refine awl_index_m si49_QuA ti57_QuA rfl rfl rfl (by omega) (by first | omega | (simp; omega)) rfl ?_
    exact awl_doneS rfl rfl
  · skip
    refine awl_index_m si49_QuA ti57_QuA rfl rfl rfl (by omega) (by first | omega | (simp; omega)) rfl ?_
    exact awl_doneS rfl rfl
  · skip
    refine awl_index_m si49_QuA ti57_QuA rfl rfl rfl (by omega) (by first | omega | (simp; omega)) rfl ?_
    exact awl_doneS rfl rfl
  · skip
    refine awl_index_m si49_QuA ti57_QuA rfl rfl rfl (by omega) (by first | omega | (simp; omega)) rfl ?_
    exact awl_doneS rfl rfl
  · kernel_rfl
  refine awd_s [[12, 13, 14], [12, 13], [12, 14], [12], [13, 14], [13], [14], []] [(19, _)] (.cons rfl (.nil)) rfl rfl rfl (by kernel_rfl) ?_
  apply Exists.intro
  refine ⟨(⟨fun regs' => ?_,⟨fun regs' => ?_,⟨fun regs' => ?_,⟨fun regs' => ?_,⟨fun regs' => ?_,⟨fun regs' => ?_,⟨fun regs' => ?_,⟨fun regs' => ?_, trivial⟩⟩⟩⟩⟩⟩⟩⟩), ?_, ?_⟩
  · skip
    first | refine awl_load_row ti57_QuA rfl rfl rfl rfl ?_ | refine x_irow ti57_QuA rfl rfl rfl rfl ?_ | refine awl_load_m ti57_QuA rfl rfl hrk rfl rfl ?_
    exact awl_doneS rfl rfl
  · skip
    first | refine awl_load_row ti57_QuA rfl rfl rfl rfl ?_ | refine x_irow ti57_QuA rfl rfl rfl rfl ?_ | refine awl_load_m ti57_QuA rfl rfl hrk rfl rfl ?_
    exact awl_doneS rfl rfl
  · skip
    first | refine awl_load_row ti57_QuA rfl rfl rfl rfl ?_ | refine x_irow ti57_QuA rfl rfl rfl rfl ?_ | refine awl_load_m ti57_QuA rfl rfl hrk rfl rfl ?_
    exact awl_doneS rfl rfl
  · skip
    first | refine awl_load_row ti57_QuA rfl rfl rfl rfl ?_ | refine x_irow ti57_QuA rfl rfl rfl rfl ?_ | refine awl_load_m ti57_QuA rfl rfl hrk rfl rfl ?_
    exact awl_doneS rfl rfl
  · skip
    first | refine awl_load_row ti57_QuA rfl rfl rfl rfl ?_ | refine x_irow ti57_QuA rfl rfl rfl rfl ?_ | refine awl_load_m ti57_QuA rfl rfl hrk rfl rfl ?_
    exact awl_doneS rfl rfl
  · skip
    first | refine awl_load_row ti57_QuA rfl rfl rfl rfl ?_ | refine x_irow ti57_QuA rfl rfl rfl rfl ?_ | refine awl_load_m ti57_QuA rfl rfl hrk rfl rfl ?_
    exact awl_doneS rfl rfl
  · skip
    first | refine awl_load_row ti57_QuA rfl rfl rfl rfl ?_ | refine x_irow ti57_QuA rfl rfl rfl rfl ?_ | refine awl_load_m ti57_QuA rfl rfl hrk rfl rfl ?_
    exact awl_doneS rfl rfl
  · skip
    first | refine awl_load_row ti57_QuA rfl rfl rfl rfl ?_ | refine x_irow ti57_QuA rfl rfl rfl rfl ?_ | refine awl_load_m ti57_QuA rfl rfl hrk rfl rfl ?_
    exact awl_doneS rfl rfl
  · kernel_rfl
  refine awd_new [[13], []] tz57_QuA rfl rfl (by rw [hcx]; rfl) rfl rfl (by kernel_rfl) rfl (by kernel_rfl) (⟨⟨by repeat (first | exact .nil | refine .cons rfl rfl ?_), rfl⟩,⟨⟨by repeat (first | exact .nil | refine .cons rfl rfl ?_), rfl⟩, trivial⟩⟩) ?_
  refine awd_new [[12], []] tz57_QuA rfl rfl (by rw [hcx]; rfl) rfl rfl (by kernel_rfl) rfl (by kernel_rfl) (⟨⟨by repeat (first | exact .nil | refine .cons rfl rfl ?_), rfl⟩,⟨⟨by repeat (first | exact .nil | refine .cons rfl rfl ?_), rfl⟩, trivial⟩⟩) ?_
  refine awd_s [[12, 13]] [(7, _), (14, _)] (.cons rfl (.cons rfl (.nil))) rfl rfl rfl (by kernel_rfl) ?_
  refine ⟨.any, ?_⟩
  refine ⟨(⟨fun regs' => ?_, trivial⟩), ?_, ?_⟩
  · skip
    first | refine x_store ti57_QuA rfl rfl rfl rfl rfl rfl rfl rfl ?_ | refine awl_store_m ti57_QuA rfl rfl rfl (by first | omega | (simp; omega)) rfl rfl rfl rfl ?_
    exact awl_doneS rfl rfl
  · kernel_rfl
  refine awd_e [12, 13, 14] rfl rfl rfl (by kernel_rfl) rfl rfl ?_
  refine ⟨.any, ?_⟩
  refine ⟨?_, ?_, ?_⟩
  · skip
    first | refine x_store ti57_QuA rfl rfl rfl rfl rfl rfl rfl rfl ?_ | refine awl_store_m ti57_QuA rfl rfl rfl (by first | omega | (simp; omega)) rfl rfl rfl rfl ?_
    exact awl_done rfl
  · kernel_rfl
  refine awd_endS ?_
  try dsimp only [putd]
  change AWp _ _ _ _ _ _
  refine awp_seq ?_
  refine awp_region ?_
  first | refine awl_fieldAddr fi57_0_QuA rfl rfl ?_ | refine awl_fieldAddr_i fi57_0_QuA rfl rfl rfl ?_ | refine awl_field_m fi57_0_QuA rfl rfl rfl ?_
  first | refine awl_fieldAddr fi35_0_QuA rfl rfl ?_ | refine awl_fieldAddr_i fi35_0_QuA rfl rfl rfl ?_ | refine awl_field_m fi35_0_QuA rfl rfl rfl ?_
  first | refine awl_load_one ti3_QuA rfl rfl rfl rfl ?_ | refine awl_load_ione ti3_QuA rfl rfl rfl ?_ | refine awl_load_m1 ti3_QuA rfl rfl (by assumption) rfl rfl ?_
  first | refine awl_fieldAddr fi57_0_QuA rfl rfl ?_ | refine awl_fieldAddr_i fi57_0_QuA rfl rfl rfl ?_ | refine awl_field_m fi57_0_QuA rfl rfl rfl ?_
  first | refine awl_fieldAddr fi35_0_QuA rfl rfl ?_ | refine awl_fieldAddr_i fi35_0_QuA rfl rfl rfl ?_ | refine awl_field_m fi35_0_QuA rfl rfl rfl ?_
  first | refine awl_load_one ti3_QuA rfl rfl rfl rfl ?_ | refine awl_load_ione ti3_QuA rfl rfl rfl ?_ | refine awl_load_m1 ti3_QuA rfl rfl (by assumption) rfl rfl ?_
  refine awl_bin rfl rfl rfl rfl bin_lss ?_
  refine awl_move rfl rfl ?_
  first | refine awl_split_p 28 rfl (fun hw => ?_) (fun hw => ?_) | refine awl_split 28 rfl (fun hw => ?_) (fun hw => ?_)
  · skip
    refine awl_guard_no rfl (by first | exact hw | exact decide_eq_true hw | exact decide_eq_false hw) rfl rfl rfl rfl ?_
    refine awl_guard_no rfl (by first | exact hw | exact decide_eq_true hw | exact decide_eq_false hw) rfl rfl rfl rfl ?_
    refine awl_guard_no rfl (by first | exact hw | exact decide_eq_true hw | exact decide_eq_false hw) rfl rfl rfl rfl ?_
    refine awl_guard_no rfl (by first | exact hw | exact decide_eq_true hw | exact decide_eq_false hw) rfl rfl rfl rfl ?_
    refine awl_guard_no rfl (by first | exact hw | exact decide_eq_true hw | exact decide_eq_false hw) rfl rfl rfl rfl ?_
    refine awl_guard_no rfl (by first | exact hw | exact decide_eq_true hw | exact decide_eq_false hw) rfl rfl rfl rfl ?_
    refine awl_guard_no rfl (by first | exact hw | exact decide_eq_true hw | exact decide_eq_false hw) rfl rfl rfl rfl ?_
    refine awl_guard_no rfl (by first | exact hw | exact decide_eq_true hw | exact decide_eq_false hw) rfl rfl rfl rfl ?_
    refine awl_guard_un rfl rfl rfl rfl rfl ?_
    refine awl_guard_un rfl rfl rfl rfl rfl ?_
    refine awl_guard_un rfl rfl rfl rfl rfl ?_
    refine awl_guard_un rfl rfl rfl rfl rfl ?_
    refine awl_guard_un rfl rfl rfl rfl rfl ?_
    refine awl_guard_no rfl (by first | exact hw | exact decide_eq_true hw | exact decide_eq_false hw) rfl rfl rfl rfl ?_
    refine awl_pick_t (by first | exact hw | exact decide_eq_true hw | exact decide_eq_false hw) rfl rfl rfl ?_
    refine awl_assign rfl rfl ?_
    refine awl_nil ?_
    change AWp _ _ _ _ _ _
    refine awp_ret ?_
    change Ends _ _ _ _ _ _
    refine ends1 [1000, 1001] rfl (.tmp rfl) ?_ rfl
    exact ⟨B_eq (by simp [lessE, *]), rfl⟩
  · skip
    refine awl_guard_yes rfl (by first | exact hw | exact decide_eq_true hw | exact decide_eq_false hw) rfl rfl ?_
    first | refine awl_fieldAddr fi57_0_QuA rfl rfl ?_ | refine awl_fieldAddr_i fi57_0_QuA rfl rfl rfl ?_ | refine awl_field_m fi57_0_QuA rfl rfl rfl ?_
    refine awl_guard_yes rfl (by first | exact hw | exact decide_eq_true hw | exact decide_eq_false hw) rfl rfl ?_
    first | refine awl_fieldAddr fi35_0_QuA rfl rfl ?_ | refine awl_fieldAddr_i fi35_0_QuA rfl rfl rfl ?_ | refine awl_field_m fi35_0_QuA rfl rfl rfl ?_
    refine awl_guard_yes rfl (by first | exact hw | exact decide_eq_true hw | exact decide_eq_false hw) rfl rfl ?_
    first | refine awl_load_one ti3_QuA rfl rfl rfl rfl ?_ | refine awl_load_ione ti3_QuA rfl rfl rfl ?_ | refine awl_load_m1 ti3_QuA rfl rfl (by assumption) rfl rfl ?_
    refine awl_guard_yes rfl (by first | exact hw | exact decide_eq_true hw | exact decide_eq_false hw) rfl rfl ?_
    first | refine awl_fieldAddr fi57_0_QuA rfl rfl ?_ | refine awl_fieldAddr_i fi57_0_QuA rfl rfl rfl ?_ | refine awl_field_m fi57_0_QuA rfl rfl rfl ?_
    refine awl_guard_yes rfl (by first | exact hw | exact decide_eq_true hw | exact decide_eq_false hw) rfl rfl ?_
    first | refine awl_fieldAddr fi35_0_QuA rfl rfl ?_ | refine awl_fieldAddr_i fi35_0_QuA rfl rfl rfl ?_ | refine awl_field_m fi35_0_QuA rfl rfl rfl ?_
    refine awl_guard_yes rfl (by first | exact hw | exact decide_eq_true hw | exact decide_eq_false hw) rfl rfl ?_
    first | refine awl_load_one ti3_QuA rfl rfl rfl rfl ?_ | refine awl_load_ione ti3_QuA rfl rfl rfl ?_ | refine awl_load_m1 ti3_QuA rfl rfl (by assumption) rfl rfl ?_
    refine awl_guard_yes rfl (by first | exact hw | exact decide_eq_true hw | exact decide_eq_false hw) rfl rfl ?_
    refine awl_bin rfl rfl rfl rfl bin_eql ?_
    refine awl_guard_yes rfl (by first | exact hw | exact decide_eq_true hw | exact decide_eq_false hw) rfl rfl ?_
    refine awl_move rfl rfl ?_
    first | refine awl_split_p 36 rfl (fun he => ?_) (fun he => ?_) | refine awl_split 36 rfl (fun he => ?_) (fun he => ?_)
    · skip
      refine awl_guard_yes rfl (by first | exact he | exact decide_eq_true he | exact decide_eq_false he) rfl rfl ?_
      first | refine awl_fieldAddr fi57_1_QuA rfl rfl ?_ | refine awl_fieldAddr_i fi57_1_QuA rfl rfl rfl ?_ | refine awl_field_m fi57_1_QuA rfl rfl rfl ?_
      refine awl_guard_yes rfl (by first | exact he | exact decide_eq_true he | exact decide_eq_false he) rfl rfl ?_
      first | refine awl_load_one ti3_QuA rfl rfl rfl rfl ?_ | refine awl_load_ione ti3_QuA rfl rfl rfl ?_ | refine awl_load_m1 ti3_QuA rfl rfl (by assumption) rfl rfl ?_
      refine awl_guard_yes rfl (by first | exact he | exact decide_eq_true he | exact decide_eq_false he) rfl rfl ?_
      first | refine awl_fieldAddr fi57_1_QuA rfl rfl ?_ | refine awl_fieldAddr_i fi57_1_QuA rfl rfl rfl ?_ | refine awl_field_m fi57_1_QuA rfl rfl rfl ?_
      refine awl_guard_yes rfl (by first | exact he | exact decide_eq_true he | exact decide_eq_false he) rfl rfl ?_
      first | refine awl_load_one ti3_QuA rfl rfl rfl rfl ?_ | refine awl_load_ione ti3_QuA rfl rfl rfl ?_ | refine awl_load_m1 ti3_QuA rfl rfl (by assumption) rfl rfl ?_
      refine awl_guard_yes rfl (by first | exact he | exact decide_eq_true he | exact decide_eq_false he) rfl rfl ?_
      refine awl_bin rfl rfl rfl rfl bin_lss ?_
      refine awl_guard_yes rfl (by first | exact hw | exact decide_eq_true hw | exact decide_eq_false hw) rfl rfl ?_
      refine awl_pick_t (by first | exact he | exact decide_eq_true he | exact decide_eq_false he) rfl rfl rfl ?_
      refine awl_pick_f (by first | exact hw | exact decide_eq_true hw | exact decide_eq_false hw) rfl rfl rfl ?_
      refine awl_assign rfl rfl ?_
      refine awl_nil ?_
      change AWp _ _ _ _ _ _
      refine awp_ret ?_
      change Ends _ _ _ _ _ _
      refine ends1 [1000, 1001] rfl (.tmp rfl) ?_ rfl
      exact ⟨B_eq (by simp [lessE, *]), rfl⟩
    · skip
      refine awl_guard_no rfl (by first | exact he | exact decide_eq_true he | exact decide_eq_false he) rfl rfl rfl rfl ?_
      refine awl_guard_no rfl (by first | exact he | exact decide_eq_true he | exact decide_eq_false he) rfl rfl rfl rfl ?_
      refine awl_guard_no rfl (by first | exact he | exact decide_eq_true he | exact decide_eq_false he) rfl rfl rfl rfl ?_
      refine awl_guard_no rfl (by first | exact he | exact decide_eq_true he | exact decide_eq_false he) rfl rfl rfl rfl ?_
      refine awl_guard_no rfl (by first | exact he | exact decide_eq_true he | exact decide_eq_false he) rfl rfl rfl rfl ?_
      refine awl_guard_yes rfl (by first | exact hw | exact decide_eq_true hw | exact decide_eq_false hw) rfl rfl ?_
      refine awl_pick_f (by first | exact he | exact decide_eq_true he | exact decide_eq_false he) rfl rfl rfl ?_
      refine awl_pick_f (by first | exact hw | exact decide_eq_true hw | exact decide_eq_false hw) rfl rfl rfl ?_
      refine awl_assign rfl rfl ?_
      refine awl_nil ?_
      change AWp _ _ _ _ _ _
      refine awp_ret ?_
      change Ends _ _ _ _ _ _
      refine ends1 [1000, 1001] rfl (.tmp rfl) ?_ rfl
      exact ⟨B_eq (by simp [lessE, *]), rfl⟩

end Go.Ab.Ytnennmlpaijedaa
