/- The queue's Drop: the closure, IndexFunc, DeleteFunc. -/
import Derived.Test.YtnennmlpaijedaaQuF
import Derived.Test.YtnennmlpaijedaaAb33
set_option linter.unusedVariables false
set_option linter.unusedSimpArgs false
namespace Go.Ab.Ytnennmlpaijedaa
open Go Go.RowKit Go.Ab Go.Proofs

theorem fi35_1_QuK : FI Try.prog 35 1 1 := ⟨_, _, 0, Try.underlying35, rfl, rfl, by kernel_rfl⟩
theorem ti3_QuK : TI Try.prog 3 1 false := ⟨by kernel_rfl, by kernel_rfl⟩
theorem fi42_0_QuK : FI Try.prog 42 0 0 := ⟨_, _, 0, Try.underlying42, rfl, rfl, by kernel_rfl⟩
theorem ti44_QuK : TI Try.prog 44 1 false := ⟨by kernel_rfl, by kernel_rfl⟩
theorem fi57_0_QuK : FI Try.prog 57 0 0 := ⟨_, _, 1, Try.underlying57, rfl, rfl, by kernel_rfl⟩
theorem ti35_QuK : TI Try.prog 35 2 true := ⟨by kernel_rfl, by kernel_rfl⟩
theorem fb13_QuK : FB Try.prog 13 := ⟨_, Try.func13, rfl, by kernel_rfl⟩
theorem si49_QuK : SI Try.prog 49 57 := ⟨Try.underlying49⟩
theorem ti57_QuK : TI Try.prog 57 3 true := ⟨by kernel_rfl, by kernel_rfl⟩
theorem fb19_QuK : FB Try.prog 19 := ⟨_, Try.func19, rfl, by kernel_rfl⟩
theorem fb24_QuK : FB Try.prog 24 := ⟨_, Try.func24, rfl, by kernel_rfl⟩
theorem tz57_QuK : TZ Try.prog 57 [(.int .i64 0), (.int .i64 0), (.int .i64 0)] := ⟨⟨.agg #[(.int .i64 0), (.int .i64 0), (.int .i64 0)], by kernel_rfl, rfl⟩, by kernel_rfl⟩

theorem tm4 (n : Int) : -4 < n.tmod 4 ∧ n.tmod 4 < 4 := by
  rcases Int.le_total 0 n with h | h
  · rw [Int.tmod_eq_emod_of_nonneg h]; omega
  · have e : n = -(-n) := by omega
    rw [e, Int.neg_tmod, Int.tmod_eq_emod_of_nonneg (by omega)]; omega
/-- The rest by four. -/
def r4 (n : Int) : Int := (n.tmod 4 + 4) % 4
def isE (r : Int) (e : Ent) : Bool := decide (r4 e.n = r)
def co (r : Int) : Ob := .ce 44 [.fv (.func 13) [.ag [.p (I r)]] []]

theorem is_con (r wt nr : Int) : PCon Try.prog 13 [.ag [.p (I r)], .ag [.p (I wt), .p (I nr)]] (.p (B (decide (r4 nr = r)))) := by
  have ht := tm4 nr
  refine con_of Try.func13 rfl 13 Try.ntmps13 rfl fun cx hcx => ?_
  refine awp_seq ?_
  refine awp_region ?_
  refine awl_box rfl rfl rfl rfl rfl (by rw [hcx]; rfl) rfl ?_
  refine awl_box rfl rfl rfl rfl rfl (by rw [hcx]; rfl) rfl ?_
  refine awl_assign rfl rfl ?_
  refine awl_nil ?_
  change AWp _ _ _ _ _ _
  refine awp_seq ?_
  refine awp_region ?_
  first | refine awl_fieldAddr fi35_1_QuK rfl rfl ?_ | refine awl_fieldAddr_i fi35_1_QuK rfl rfl rfl ?_ | refine awl_field_m fi35_1_QuK rfl rfl rfl ?_
  first | refine awl_load_one ti3_QuK rfl rfl rfl rfl ?_ | refine awl_load_ione ti3_QuK rfl rfl rfl ?_ | refine awl_load_m1 ti3_QuK rfl rfl (by assumption) rfl rfl ?_
  refine awl_bin rfl rfl rfl rfl (bin_remt (by decide)) ?_
  first | refine awl_bin rfl rfl rfl rfl (bin_add_i (by omega)) ?_ | refine awl_bin rfl rfl rfl rfl bin_add ?_
  refine awl_bin rfl rfl rfl rfl (bin_rem (by omega)) ?_
  first | refine awl_fieldAddr fi42_0_QuK rfl rfl ?_ | refine awl_fieldAddr_i fi42_0_QuK rfl rfl rfl ?_ | refine awl_field_m fi42_0_QuK rfl rfl rfl ?_
  first | refine awl_load_one ti3_QuK rfl rfl rfl rfl ?_ | refine awl_load_ione ti3_QuK rfl rfl rfl ?_ | refine awl_load_m1 ti3_QuK rfl rfl (by assumption) rfl rfl ?_
  refine awl_bin rfl rfl rfl rfl bin_eql ?_
  refine awl_assign rfl rfl ?_
  refine awl_nil ?_
  change AWp _ _ _ _ _ _
  refine awp_ret ?_
  change Ends _ _ _ _ _ _
  refine ends1 [] rfl (.tmp rfl) ?_ rfl
  exact ⟨rfl, rfl⟩

theorem Cl_con (r : Int) (e : Ent) : Con Try.prog 19 [.ag [.p (I e.w), .p (I e.n), .p (I e.t)], .ptr 3000 0] [(3000, co r)] (fun x o => x = .p (B (isE r e)) ∧ o = [(3000, co r)]) := by
  refine con_of Try.func19 rfl 8 Try.ntmps19 rfl fun cx hcx => ?_
  refine awp_seq ?_
  refine awp_region ?_
  refine awl_box rfl rfl rfl rfl rfl (by rw [hcx]; rfl) rfl ?_
  refine awl_assign rfl rfl ?_
  refine awl_nil ?_
  change AWp _ _ _ _ _ _
  refine awp_seq ?_
  refine awp_region ?_
  first | refine awl_load_one ti44_QuK rfl rfl rfl rfl ?_ | refine awl_load_ione ti44_QuK rfl rfl rfl ?_ | refine awl_load_m1 ti44_QuK rfl rfl (by assumption) rfl rfl ?_
  first | refine awl_fieldAddr fi57_0_QuK rfl rfl ?_ | refine awl_fieldAddr_i fi57_0_QuK rfl rfl rfl ?_ | refine awl_field_m fi57_0_QuK rfl rfl rfl ?_
  first | refine awl_load_row ti35_QuK rfl rfl rfl rfl ?_ | refine x_irow ti35_QuK rfl rfl rfl rfl ?_ | refine awl_load_m ti35_QuK rfl rfl (by assumption) rfl rfl ?_
  refine x_callfv [] fb13_QuK rfl rfl rfl rfl (is_con r e.w e.n) (.cons (Sub.refl _) (.cons (Sub.refl _) .nil)) rfl (fun x o ⟨e1, e2⟩ => ?_)
  subst e1 e2
  refine ⟨rfl, _, rfl, ?_⟩
  refine awl_assign rfl rfl ?_
  refine awl_nil ?_
  change AWp _ _ _ _ _ _
  refine awp_ret ?_
  change Ends _ _ _ _ _ _
  refine ends1 [3000] rfl (.tmp rfl) ?_ rfl
  exact ⟨rfl, rfl⟩

/-- Where the first one is. -/
def IxR (r : Int) (xs : List Ent) (i : Int) : Prop := (i = -1 ∧ ∀ q, q < xs.length → isE r (xs.getD q e0) = false) ∨ ∃ k : Nat, i = k ∧ k < xs.length ∧ isE r (xs.getD k e0) = true ∧ ∀ q, q < k → isE r (xs.getD q e0) = false

theorem Index_con (ver : Nat) (xs : List Ent) (r : Int) (hlen : xs.length ≤ 1000000) : Con Try.prog 24 [.tm 1001 ver, .fv (.func 19) [] [.ptr 3000 0]] [(1001, qa ver xs), (3000, co r)]
    (fun x o => (∃ i, x = .p (I i) ∧ IxR r xs i) ∧ o = [(1001, qa ver xs), (3000, co r)]) := by
  have hl := encE_len xs
  refine con_of Try.func24 rfl 19 Try.ntmps24 rfl fun cx hcx => ?_
  refine awp_seq ?_
  refine awp_region ?_
  refine awl_assign rfl rfl ?_
  refine awl_nil ?_
  change AWp _ _ _ _ _ _
  refine awp_seq ?_
  refine awp_seq ?_
  refine awp_region ?_
  refine awl_move rfl rfl ?_
  first | refine x_len si49_QuK rfl rfl rfl (fun hlen3 => ?_) | refine awl_len_m si49_QuK rfl rfl rfl (fun hlen3 => ?_)
  refine awl_move rfl rfl ?_
  refine awl_nil ?_
  change AWp _ _ _ _ _ _
  refine awp_block ?_
  refine x_loop [(0, _), (1, _), (7, _)] [(1001, _), (3000, _)] (fun x : Nat => [(8, .p (I x))]) (fun x => []) (fun x => x ≤ xs.length ∧ ∀ q, q < x → isE r (xs.getD q e0) = false) (fun x => xs.length - x) 0 (Le.mk (.cons rfl (by first | exact Sub.refl _ | exact Sub.ts | exact Sub.nil | (refine Sub.eq ?_; first | (simp; done) | (simp; omega))) (.cons rfl (by first | exact Sub.refl _ | exact Sub.ts | exact Sub.nil | (refine Sub.eq ?_; first | (simp; done) | (simp; omega))) (.cons rfl (by first | exact Sub.refl _ | exact Sub.ts | exact Sub.nil | (refine Sub.eq ?_; first | (simp; done) | (simp; omega))) (.cons rfl (by first | exact Sub.refl _ | exact Sub.ts | exact Sub.nil | (refine Sub.eq ?_; first | (simp; done) | (simp; omega))) (.nil))))) (.cons rfl (by first | rfl | (simp; done)) (.cons rfl (by first | rfl | (simp; done)) (.nil))) rfl) ⟨Nat.zero_le _, fun q h => absurd h (Nat.not_lt_zero _)⟩ (fun x hx => ?_)
  obtain ⟨hx1, hx2⟩ := hx
  dsimp only [List.cons_append, List.nil_append]
  refine awp_seq ?_
  refine awp_region ?_
  refine awl_bin rfl rfl rfl rfl bin_lss ?_
  refine awl_nil ?_
  change AWp _ _ _ _ _ _
  refine awp_seq ?_
  first | refine awp_cond_p rfl (fun hc => ?_) (fun hc => ?_) | refine awp_cond rfl (fun hc => ?_) (fun hc => ?_)
  · skip
    have hrow := encE_at (l := xs) (i := x) (by omega)
    refine awp_skip ?_
    change AWp _ _ _ _ _ _
    refine awp_seq ?_
    refine awp_block ?_
    refine awp_seq ?_
    refine awp_region ?_
    refine awl_move rfl rfl ?_
    refine awl_assign rfl rfl ?_
    refine awl_nil ?_
    change AWp _ _ _ _ _ _
    refine awp_seq ?_
    refine awp_region ?_
    refine awl_move rfl rfl ?_
    refine awl_move rfl rfl ?_
    refine awl_move rfl rfl ?_
    refine awl_index_m si49_QuK ti57_QuK rfl rfl rfl (by omega) (by first | omega | (simp; omega)) rfl ?_
    first | refine awl_load_row ti57_QuK rfl rfl rfl rfl ?_ | refine x_irow ti57_QuK rfl rfl rfl rfl ?_ | refine awl_load_m ti57_QuK rfl rfl hrow rfl rfl ?_
    refine x_callfv [3000] fb19_QuK rfl rfl rfl rfl (Cl_con r (xs.getD x e0)) (.cons (Sub.refl _) (.cons (Sub.refl _) .nil)) rfl (fun y o ⟨e1, e2⟩ => ?_)
    subst e1 e2
    refine ⟨by rw [hcx]; rfl, _, rfl, ?_⟩
    refine awl_le (Le.objs (objs' := [(1001, _), (3000, _)]) (.cons rfl rfl (.cons rfl rfl .nil)) rfl) ?_
    refine awl_nil ?_
    change AWp _ _ _ _ _ _
    first | refine awp_cond_p rfl (fun hp => ?_) (fun hp => ?_) | refine awp_cond rfl (fun hp => ?_) (fun hp => ?_)
    · skip
      refine awp_seq ?_
      refine awp_region ?_
      refine awl_move rfl rfl ?_
      refine awl_assign rfl rfl ?_
      refine awl_nil ?_
      change AWp _ _ _ _ _ _
      refine awp_ret ?_
      change Ends _ _ _ _ _ _
      refine ends1 [1001, 3000] rfl (.tmp rfl) ?_ rfl
      exact ⟨⟨_, rfl, .inr ⟨x, rfl, by omega, by simpa [isE] using hp, hx2⟩⟩, rfl⟩
    · skip
      refine awp_skip ?_
      change AWp _ _ _ _ _ _
      refine awp_region ?_
      first | refine awl_bin rfl rfl rfl rfl (bin_add_i (by omega)) ?_ | refine awl_bin rfl rfl rfl rfl bin_add ?_
      refine awl_move rfl rfl ?_
      refine awl_nil ?_
      change ∃ x', _
      refine ⟨(x + 1), ⟨by omega, fun q h => by
    rcases Nat.lt_succ_iff_lt_or_eq.1 h with h | h
    · exact hx2 q h
    · subst h; simpa [isE] using hp⟩, (by omega), (Le.mk (.cons rfl (by first | exact Sub.refl _ | exact Sub.ts | exact Sub.nil | (refine Sub.eq ?_; first | (simp; done) | (simp; omega))) (.cons rfl (by first | exact Sub.refl _ | exact Sub.ts | exact Sub.nil | (refine Sub.eq ?_; first | (simp; done) | (simp; omega))) (.cons rfl (by first | exact Sub.refl _ | exact Sub.ts | exact Sub.nil | (refine Sub.eq ?_; first | (simp; done) | (simp; omega))) (.cons rfl (by first | exact Sub.refl _ | exact Sub.ts | exact Sub.nil | (refine Sub.eq ?_; first | (simp; done) | (simp; omega))) (.nil))))) (.cons rfl (by first | rfl | (simp; done)) (.cons rfl (by first | rfl | (simp; done)) (.nil))) rfl)⟩
  · skip
    refine awp_exit ?_
    change AWp _ _ _ _ _ _
    refine awp_seq ?_
    refine awp_region ?_
    refine awl_assign rfl rfl ?_
    refine awl_nil ?_
    change AWp _ _ _ _ _ _
    refine awp_ret ?_
    change Ends _ _ _ _ _ _
    refine ends1 [1001, 3000] rfl (.tmp rfl) ?_ rfl
    exact ⟨⟨_, rfl, .inl ⟨rfl, fun q h => hx2 q (by omega)⟩⟩, rfl⟩

def keepE (r : Int) (xs : List Ent) : List Ent := xs.filter fun e => !isE r e
theorem take_keep {r : Int} {xs : List Ent} {k : Nat} (hk : k ≤ xs.length) (h : ∀ q, q < k → isE r (xs.getD q e0) = false) : keepE r (xs.take k) = xs.take k := List.filter_eq_self.2 fun e he => by
  obtain ⟨q, hq⟩ := List.getElem?_of_mem he
  have hql : q < k := by have := (List.getElem?_eq_some_iff.1 hq).1; simp at this; omega
  rw [List.getElem?_take_of_lt hql] at hq
  have := h q hql
  rw [List.getD_eq_getElem?_getD, hq] at this
  simpa using this
theorem keep_succ {r : Int} {xs : List Ent} {k : Nat} (hk : k < xs.length) : keepE r (xs.take (k + 1)) = keepE r (xs.take k) ++ if isE r (xs.getD k e0) = true then [] else [xs.getD k e0] := by
  rw [List.take_add_one, keepE, List.filter_append]
  congr 1
  rw [List.getD_eq_getElem?_getD, List.getElem?_eq_getElem hk]
  simp only [Option.toList_some, Option.getD_some]
  cases h : isE r xs[k] <;> simp [h]

structure DlI (r : Int) (xs l : List Ent) (i j : Nat) : Prop where
  h1 : j < i
  h2 : i ≤ xs.length
  h3 : l.length = xs.length
  h4 : l.take j = keepE r (xs.take i)
  h5 : ∀ q, i ≤ q → l.getD q e0 = xs.getD q e0
theorem DlI.keep {r : Int} {xs l : List Ent} {i j : Nat} (h : DlI r xs l i j) (hi : i < xs.length) (hp : isE r (l.getD i e0) = false) : DlI r xs (l.set j (l.getD i e0)) (i + 1) (j + 1) := by
  have e := h.h5 i (Nat.le_refl _)
  have hjl : j < l.length := by have := h.h3; have := h.h1; omega
  refine ⟨by have := h.h1; omega, hi, by simp [h.h3], ?_, fun q hq => ?_⟩
  · rw [keep_succ hi, ← e, hp, ← h.h4]
    simp only [Bool.false_eq_true, if_false]
    rw [List.take_add_one, List.take_set_of_le (Nat.le_refl _), List.getElem?_set_self hjl]
    rfl
  · rw [← h.h5 q (by omega), List.getD_eq_getElem?_getD, List.getElem?_set_ne (by have := h.h1; omega), ← List.getD_eq_getElem?_getD]
theorem DlI.drop {r : Int} {xs l : List Ent} {i j : Nat} (h : DlI r xs l i j) (hi : i < xs.length) (hp : isE r (l.getD i e0) = true) : DlI r xs l (i + 1) j := by
  have e := h.h5 i (Nat.le_refl _)
  refine ⟨by have := h.h1; omega, hi, h.h3, ?_, fun q hq => h.h5 q (by omega)⟩
  rw [keep_succ hi, ← e, hp, ← h.h4]; simp
theorem DlI.start {r : Int} {xs : List Ent} {k : Nat} (hk : k < xs.length) (h1 : isE r (xs.getD k e0) = true) (h2 : ∀ q, q < k → isE r (xs.getD q e0) = false) : DlI r xs xs (k + 1) k :=
  ⟨Nat.lt_succ_self _, hk, rfl, by rw [keep_succ hk, h1, take_keep (by omega) h2]; simp, fun _ _ => rfl⟩

theorem Delete_con (ver : Nat) (xs : List Ent) (r : Int) (hlen : xs.length ≤ 1000000) : Con Try.prog 18 [.tm 1001 ver, .fv (.func 19) [] [.ptr 3000 0]] [(1001, qa ver xs), (3000, co r)]
    (fun x o => ∃ v, x = .tm 1001 v ∧ o = [(1001, qa v (keepE r xs)), (3000, co r)]) := by
  have hl := encE_len xs
  refine con_of Try.func18 rfl 42 Try.ntmps18 rfl fun cx hcx => ?_
  refine awp_seq ?_
  refine awp_region ?_
  refine awl_assign rfl rfl ?_
  refine awl_nil ?_
  change AWp _ _ _ _ _ _
  refine awp_seq ?_
  refine awp_region ?_
  refine awl_move rfl rfl ?_
  refine awl_move rfl rfl ?_
  refine x_call [1001, 3000] fb24_QuK rfl rfl rfl (Index_con ver xs r hlen) (.cons (by first | exact Sub.refl _ | exact Sub.ts | exact Sub.nil | exact Sub.agc (by repeat (first | exact .nil | refine .cons (by first | exact Sub.refl _ | exact Sub.nil) ?_))) (.cons (by first | exact Sub.refl _ | exact Sub.ts | exact Sub.nil | exact Sub.agc (by repeat (first | exact .nil | refine .cons (by first | exact Sub.refl _ | exact Sub.nil) ?_))) .nil)) rfl (fun y o ⟨⟨i0, e1, hix⟩, e2⟩ => ?_)
  subst e1 e2
  refine ⟨by rw [hcx]; rfl, _, rfl, ?_⟩
  refine awl_assign rfl rfl ?_
  refine awl_nil ?_
  change AWp _ _ _ _ _ _
  refine awp_seq ?_
  refine awp_seq ?_
  refine awp_region ?_
  refine awl_move rfl rfl ?_
  refine awl_bin rfl rfl rfl rfl bin_eql ?_
  refine awl_nil ?_
  change AWp _ _ _ _ _ _
  first | refine awp_cond_p rfl (fun hz => ?_) (fun hz => ?_) | refine awp_cond rfl (fun hz => ?_) (fun hz => ?_)
  · skip
    refine awp_seq ?_
    refine awp_region ?_
    refine awl_move rfl rfl ?_
    refine awl_assign rfl rfl ?_
    refine awl_nil ?_
    change AWp _ _ _ _ _ _
    refine awp_ret ?_
    change Ends _ _ _ _ _ _
    refine ends1 [1001, 3000] rfl (.tmp rfl) ?_ rfl
    exact ⟨ver, rfl, by rw [show keepE r xs = xs from by have := take_keep (r := r) (xs := xs) (k := xs.length) (Nat.le_refl _) (by rcases hix with h | ⟨k, hk, _⟩; exact h.2; omega); rwa [List.take_length] at this]; rfl⟩
  · skip
    obtain ⟨j0, rfl, hj0, hj1, hj2⟩ := hix.resolve_left (fun h => hz h.1)
    refine awp_skip ?_
    change AWp _ _ _ _ _ _
    refine awp_seq ?_
    refine awp_seq ?_
    refine awp_region ?_
    refine awl_move rfl rfl ?_
    first | refine awl_bin rfl rfl rfl rfl (bin_add_i (by omega)) ?_ | refine awl_bin rfl rfl rfl rfl bin_add ?_
    refine awl_sub (y := .p (I ((j0 + 1 : Nat) : Int))) (Sub.eq (I_eq (by omega))) ?_
    refine awl_assign rfl rfl ?_
    refine awl_nil ?_
    change AWp _ _ _ _ _ _
    refine awp_block ?_
    refine x_loop [(0, _), (1, _)] [(3000, _)] (fun x : List Ent × Nat × Nat => [(6, .p (I x.2.1)), (5, .p (I x.2.2))]) (fun x => [(1001, qa ver x.1)]) (fun x => DlI r xs x.1 x.2.1 x.2.2) (fun x => xs.length - x.2.1) (xs, j0 + 1, j0) (Le.mk (.cons rfl (by first | exact Sub.refl _ | exact Sub.ts | exact Sub.nil | (refine Sub.eq ?_; first | (simp; done) | (simp; omega))) (.cons rfl (by first | exact Sub.refl _ | exact Sub.ts | exact Sub.nil | (refine Sub.eq ?_; first | (simp; done) | (simp; omega))) (.cons rfl (by first | exact Sub.refl _ | exact Sub.ts | exact Sub.nil | (refine Sub.eq ?_; first | (simp; done) | (simp; omega))) (.cons rfl (by first | exact Sub.refl _ | exact Sub.ts | exact Sub.nil | (refine Sub.eq ?_; first | (simp; done) | (simp; omega))) (.nil))))) (.cons rfl (by first | rfl | (simp; done) | exact congrArg (Ob.mu 57 3 _) (encE_set _ _ _)) (.cons rfl (by first | rfl | (simp; done) | exact congrArg (Ob.mu 57 3 _) (encE_set _ _ _)) (.nil))) rfl) (show DlI r xs xs (j0 + 1) j0 from DlI.start hj0 hj1 hj2) (fun x hx => ?_)
    obtain ⟨l, i, j⟩ := x
    have hI : DlI r xs l i j := hx
    have hi2 := hI.h2
    dsimp only [List.cons_append, List.nil_append]
    refine awp_seq ?_
    refine awp_seq ?_
    refine awp_region ?_
    refine awl_move rfl rfl ?_
    refine awl_move rfl rfl ?_
    first | refine x_len si49_QuK rfl rfl rfl (fun hlen16 => ?_) | refine awl_len_m si49_QuK rfl rfl rfl (fun hlen16 => ?_)
    refine awl_bin rfl rfl rfl rfl bin_lss ?_
    refine awl_nil ?_
    change AWp _ _ _ _ _ _
    first | refine awp_cond_p rfl (fun hc => ?_) (fun hc => ?_) | refine awp_cond rfl (fun hc => ?_) (fun hc => ?_)
    · skip
      have hli := hI.h3
      have hji := hI.h1
      have hel := encE_len l
      have hrow := encE_at (l := l) (i := i) (by omega)
      refine awp_skip ?_
      change AWp _ _ _ _ _ _
      refine awp_seq ?_
      refine awp_block ?_
      refine awp_seq ?_
      refine awp_region ?_
      refine awl_move rfl rfl ?_
      refine awl_move rfl rfl ?_
      refine awl_index_m si49_QuK ti57_QuK rfl rfl rfl (by omega) (by first | omega | (simp; omega)) rfl ?_
      first | refine awl_load_row ti57_QuK rfl rfl rfl rfl ?_ | refine x_irow ti57_QuK rfl rfl rfl rfl ?_ | refine awl_load_m ti57_QuK rfl rfl hrow rfl rfl ?_
      refine x_alloc tz57_QuK rfl rfl (by rw [hcx]; rfl) rfl ?_
      first | refine x_store ti57_QuK rfl rfl rfl rfl rfl rfl rfl rfl ?_ | refine awl_store_m ti57_QuK rfl rfl rfl (by first | omega | (simp; omega)) rfl rfl rfl rfl ?_
      refine awl_nil ?_
      change AWp _ _ _ _ _ _
      refine awp_seq ?_
      refine awp_region ?_
      refine awl_move rfl rfl ?_
      first | refine awl_load_row ti57_QuK rfl rfl rfl rfl ?_ | refine x_irow ti57_QuK rfl rfl rfl rfl ?_ | refine awl_load_m ti57_QuK rfl rfl (by assumption) rfl rfl ?_
      refine x_callfv [3000] fb19_QuK rfl rfl rfl rfl (Cl_con r (l.getD i e0)) (.cons (Sub.refl _) (.cons (Sub.refl _) .nil)) rfl (fun y o ⟨e1, e2⟩ => ?_)
      subst e1 e2
      refine ⟨by rw [hcx]; rfl, _, rfl, ?_⟩
      first | refine awl_un rfl rfl rfl un_notd ?_ | refine awl_un rfl rfl rfl un_not ?_
      refine awl_nil ?_
      change AWp _ _ _ _ _ _
      first | refine awp_cond_p rfl (fun hp => ?_) (fun hp => ?_) | refine awp_cond rfl (fun hp => ?_) (fun hp => ?_)
      · skip
        refine awp_seq ?_
        refine awp_region ?_
        refine awl_move rfl rfl ?_
        refine awl_move rfl rfl ?_
        first | refine awl_load_row ti57_QuK rfl rfl rfl rfl ?_ | refine x_irow ti57_QuK rfl rfl rfl rfl ?_ | refine awl_load_m ti57_QuK rfl rfl (by assumption) rfl rfl ?_
        refine awl_index_m si49_QuK ti57_QuK rfl rfl rfl (by omega) (by first | omega | (simp; omega)) rfl ?_
        first | refine x_store ti57_QuK rfl rfl rfl rfl rfl rfl rfl rfl ?_ | refine awl_store_m ti57_QuK rfl rfl rfl (by first | omega | (simp; omega)) rfl rfl rfl rfl ?_
        refine awl_nil ?_
        change AWp _ _ _ _ _ _
        refine awp_region ?_
        refine awl_move rfl rfl ?_
        first | refine awl_bin rfl rfl rfl rfl (bin_add_i (by omega)) ?_ | refine awl_bin rfl rfl rfl rfl bin_add ?_
        refine awl_assign rfl rfl ?_
        refine awl_nil ?_
        change AWp _ _ _ _ _ _
        refine awp_region ?_
        refine awl_move rfl rfl ?_
        first | refine awl_bin rfl rfl rfl rfl (bin_add_i (by omega)) ?_ | refine awl_bin rfl rfl rfl rfl bin_add ?_
        refine awl_assign rfl rfl ?_
        refine awl_nil ?_
        change ∃ x', _
        refine ⟨(l.set j (l.getD i e0), i + 1, j + 1), (hI.keep (by omega) (by simpa [isE] using hp)), (by simp only; omega), (Le.mk (.cons rfl (by first | exact Sub.refl _ | exact Sub.ts | exact Sub.nil | (refine Sub.eq ?_; first | (simp; done) | (simp; omega))) (.cons rfl (by first | exact Sub.refl _ | exact Sub.ts | exact Sub.nil | (refine Sub.eq ?_; first | (simp; done) | (simp; omega))) (.cons rfl (by first | exact Sub.refl _ | exact Sub.ts | exact Sub.nil | (refine Sub.eq ?_; first | (simp; done) | (simp; omega))) (.cons rfl (by first | exact Sub.refl _ | exact Sub.ts | exact Sub.nil | (refine Sub.eq ?_; first | (simp; done) | (simp; omega))) (.nil))))) (.cons rfl (by first | rfl | (simp; done) | exact congrArg (Ob.mu 57 3 _) (encE_set _ _ _)) (.cons rfl (by first | rfl | (simp; done) | exact congrArg (Ob.mu 57 3 _) (encE_set _ _ _)) (.nil))) rfl)⟩
      · skip
        refine awp_skip ?_
        change AWp _ _ _ _ _ _
        refine awp_region ?_
        refine awl_move rfl rfl ?_
        first | refine awl_bin rfl rfl rfl rfl (bin_add_i (by omega)) ?_ | refine awl_bin rfl rfl rfl rfl bin_add ?_
        refine awl_assign rfl rfl ?_
        refine awl_nil ?_
        change ∃ x', _
        refine ⟨(l, i + 1, j), (hI.drop (by omega) (by simpa [isE] using hp)), (by simp only; omega), (Le.mk (.cons rfl (by first | exact Sub.refl _ | exact Sub.ts | exact Sub.nil | (refine Sub.eq ?_; first | (simp; done) | (simp; omega))) (.cons rfl (by first | exact Sub.refl _ | exact Sub.ts | exact Sub.nil | (refine Sub.eq ?_; first | (simp; done) | (simp; omega))) (.cons rfl (by first | exact Sub.refl _ | exact Sub.ts | exact Sub.nil | (refine Sub.eq ?_; first | (simp; done) | (simp; omega))) (.cons rfl (by first | exact Sub.refl _ | exact Sub.ts | exact Sub.nil | (refine Sub.eq ?_; first | (simp; done) | (simp; omega))) (.nil))))) (.cons rfl (by first | rfl | (simp; done) | exact congrArg (Ob.mu 57 3 _) (encE_set _ _ _)) (.cons rfl (by first | rfl | (simp; done) | exact congrArg (Ob.mu 57 3 _) (encE_set _ _ _)) (.nil))) rfl)⟩
    · skip
      have hli := hI.h3
      have hji := hI.h1
      have hel := encE_len l
      refine awp_exit ?_
      change AWp _ _ _ _ _ _
      refine awp_seq ?_
      refine awp_region ?_
      refine awl_move rfl rfl ?_
      refine awl_move rfl rfl ?_
      refine awl_cleartail si49_QuK ti57_QuK tz57_QuK rfl rfl rfl (by omega) (by first | omega | (simp; omega)) rfl (by decide) rfl rfl ?_
      refine awl_nil ?_
      change AWp _ _ _ _ _ _
      refine awp_seq ?_
      refine awp_region ?_
      refine awl_move rfl rfl ?_
      refine awl_move rfl rfl ?_
      refine awl_cut_m si49_QuK ti57_QuK rfl rfl rfl (by omega) (by first | omega | (simp; omega)) rfl rfl ?_
      refine awl_assign rfl rfl ?_
      refine awl_nil ?_
      change AWp _ _ _ _ _ _
      refine awp_ret ?_
      change Ends _ _ _ _ _ _
      refine ends1 [1001, 3000] rfl (.tmp rfl) ?_ rfl
      refine ⟨ver + 1, rfl, ?_⟩
      have h4 := hI.h4
      rw [List.take_of_length_le (show xs.length ≤ i by omega)] at h4
      have e : (List.take ((j : Int).toNat) (List.take ((j : Int).toNat) (encE l) ++ List.replicate ((encE l).length - ((j : Int).toNat)) [I 0, I 0, I 0])) = encE (keepE r xs) := by
        rw [List.take_left' (by simp; omega), encE_take, Int.toNat_natCast, h4]
      exact congrArg (fun z => [(1001, Ob.mu 57 3 (ver + 1) z), (3000, co r)]) e

end Go.Ab.Ytnennmlpaijedaa
