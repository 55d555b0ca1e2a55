/- The law QueueCopies. -/
import Derived.Test.YtnennmlpaijedaaQuG
import Derived.Test.YtnennmlpaijedaaQuI
set_option linter.unusedVariables false
set_option linter.unusedSimpArgs false
namespace Go.Ab.Ytnennmlpaijedaa
open Go Go.RowKit Go.Ab Go.Proofs

theorem fb6_QuJ : FB Try.prog 6 := ⟨_, Try.func6, rfl, by kernel_rfl⟩
theorem si46_QuJ : SI Try.prog 46 5 := ⟨Try.underlying46⟩
theorem fb7_QuJ : FB Try.prog 7 := ⟨_, Try.func7, rfl, by kernel_rfl⟩
theorem ti5_QuJ : TI Try.prog 5 1 false := ⟨by kernel_rfl, by kernel_rfl⟩
theorem bi35_QuJ : BI Try.prog 35 [(0, 1), (1, 1)] := BI.mk' Try.underlying35 (by kernel_rfl)
theorem tz35_QuJ : TZ Try.prog 35 [(.int .i64 0), (.int .i64 0)] := ⟨⟨.agg #[(.int .i64 0), (.int .i64 0)], by kernel_rfl, rfl⟩, by kernel_rfl⟩
theorem fb8_QuJ : FB Try.prog 8 := ⟨_, Try.func8, rfl, by kernel_rfl⟩
theorem fb14_QuJ : FB Try.prog 14 := ⟨_, Try.func14, rfl, by kernel_rfl⟩
theorem fb15_QuJ : FB Try.prog 15 := ⟨_, Try.func15, rfl, by kernel_rfl⟩
theorem fb9_QuJ : FB Try.prog 9 := ⟨_, Try.func9, rfl, by kernel_rfl⟩
theorem ti35_QuJ : TI Try.prog 35 2 true := ⟨by kernel_rfl, by kernel_rfl⟩
theorem fi35_1_QuJ : FI Try.prog 35 1 1 := ⟨_, _, 0, Try.underlying35, rfl, rfl, by kernel_rfl⟩
theorem ti3_QuJ : TI Try.prog 3 1 false := ⟨by kernel_rfl, by kernel_rfl⟩
theorem eq35_QuJ : EqI Try.prog 35 2 := ⟨⟨_, rfl, Try.underlying35, by kernel_rfl⟩, by kernel_rfl, by kernel_rfl⟩

def eA (p : List Int) (k : Nat) : Ent := ⟨p.getD k 0 % 5, k, (k : Int) + 1⟩
def esA (p : List Int) (m : Nat) : List Ent := (List.range m).map (eA p)
theorem esA_succ (p : List Int) (k : Nat) : esA p (k + 1) = esA p k ++ [eA p k] := by simp [esA, List.range_succ]
theorem esA_mem {p : List Int} {m : Nat} {e : Ent} (h : e ∈ esA p m) : ∃ k, k < m ∧ e = eA p k := by
  obtain ⟨k, hk, rfl⟩ := List.mem_map.1 h
  exact ⟨k, List.mem_range.1 hk, rfl⟩
def isA (e : Ent) : Bool := decide (e.n < 100)
theorem esA_filter {p : List Int} {m : Nat} (hm : m ≤ 60) : (esA p m).filter isA = esA p m := List.filter_eq_self.2 fun e he => by
  obtain ⟨k, hk, rfl⟩ := esA_mem he
  exact decide_eq_true (by show (k : Int) < 100; omega)
def cq (v : Nat) (n : Int) : Ob := .ce 51 [.tm 2001 v, .p (I n)]
theorem getD0_mem' {l : List Ent} (h : 0 < l.length) : l.getD 0 e0 ∈ l := by
  rw [List.getD_eq_getElem?_getD, List.getElem?_eq_getElem h]; exact List.getElem_mem h

/-- Where both stand. -/
structure CoI (m i : Nat) (C M : List Ent) : Prop where
  le : i ≤ m
  len : C.length = m - i
  hpC : HP C C.length
  hpM : HP M M.length
  pm : (M.filter isA).Perm C
  tn : ∀ e ∈ C, e.t = e.n + 1
  ml : M.length ≤ 200
theorem root_mem {l : List Ent} (h : HP l l.length) {e : Ent} (he : e ∈ l) : leE (l.getD 0 e0) e := by
  obtain ⟨q, hq⟩ := List.getElem?_of_mem he
  have hr := root_le h q (List.getElem?_eq_some_iff.1 hq).1
  rwa [show l.getD q e0 = e by rw [List.getD_eq_getElem?_getD, hq]; rfl] at hr
theorem co_ne {C M : List Ent} (pm : (M.filter isA).Perm C) (hc : 0 < C.length) : 0 < M.length := by
  have h1 := pm.length_eq
  have h2 := List.length_filter_le isA M
  omega
theorem co_same {C M : List Ent} (hpC : HP C C.length) (hpM : HP M M.length) (pm : (M.filter isA).Perm C) (tn : ∀ e ∈ C, e.t = e.n + 1) (hc : 0 < C.length) (hy : (M.getD 0 e0).n < 100) : C.getD 0 e0 = M.getD 0 e0 := by
  have hm := co_ne pm hc
  have hyC : M.getD 0 e0 ∈ C := pm.mem_iff.1 (List.mem_filter.2 ⟨getD0_mem' hm, decide_eq_true hy⟩)
  have hxM : C.getD 0 e0 ∈ M := (List.mem_filter.1 (pm.mem_iff.2 (getD0_mem' hc))).1
  have h1 := root_mem hpC hyC
  have h2 := root_mem hpM hxM
  have t1 := tn _ hyC
  have t2 := tn _ (getD0_mem' hc)
  revert h1 h2 t1 t2
  generalize C.getD 0 e0 = x
  generalize M.getD 0 e0 = y
  intro h1 h2 t1 t2
  obtain ⟨xw, xn, xt⟩ := x
  obtain ⟨yw, yn, yt⟩ := y
  simp only [leE] at h1 h2 t1 t2
  have e1 : xw = yw := by omega
  have e2 : xt = yt := by omega
  have e3 : xn = yn := by omega
  rw [e1, e2, e3]
theorem co_skip {C M : List Ent} (hpM : HP M M.length) (pm : (M.filter isA).Perm C) (hm : 0 < M.length) (hy : ¬ (M.getD 0 e0).n < 100) : HP (popF M) (popF M).length ∧ ((popF M).filter isA).Perm C ∧ (popF M).length = M.length - 1 := by
  obtain ⟨p1, p2, p3⟩ := pop_hp hpM hm
  refine ⟨by rw [p2]; exact p1, ?_, p2⟩
  have h := p3.filter isA
  rw [List.filter_append] at h
  have : [M.getD 0 e0].filter isA = [] := by
    rw [List.filter_cons_of_neg (p := isA) (fun h => hy (of_decide_eq_true (p := (M.getD 0 e0).n < 100) h))]; rfl
  rw [this, List.append_nil] at h
  exact h.symm.trans pm
theorem co_step {m i : Nat} {C M : List Ent} (le : i < m) (len : C.length = m - i) (hpC : HP C C.length) (tn : ∀ e ∈ C, e.t = e.n + 1) (hpM : HP M M.length) (pm : (M.filter isA).Perm C) (ml : M.length ≤ 200) (hy : (M.getD 0 e0).n < 100) : CoI m (i + 1) (popF C) (popF M) := by
  have hc : 0 < C.length := by omega
  have hm := co_ne pm hc
  have he := co_same hpC hpM pm tn hc hy
  obtain ⟨p1, p2, p3⟩ := pop_hp hpM hm
  obtain ⟨q1, q2, q3⟩ := pop_hp hpC hc
  refine ⟨by omega, by omega, by rw [q2]; exact q1, by rw [p2]; exact p1, ?_, fun e hx => tn e (q3.mem_iff.2 (List.mem_append_left _ hx)), by omega⟩
  have h := p3.filter isA
  rw [List.filter_append] at h
  have h1 : [M.getD 0 e0].filter isA = [M.getD 0 e0] := by rw [List.filter_cons_of_pos (p := isA) (decide_eq_true hy)]; rfl
  rw [h1] at h
  have h2 := (h.symm.trans pm).trans q3
  rw [he] at h2
  exact (List.perm_append_right_iff _).1 h2

theorem QueueCopies_con (p q : List Int) (hp : okB p) (hq : okB q) : PCon Try.prog 5 [.p (.sl 1 (byts p)), .p (.sl 1 (byts q))] (.p (B true)) := by
  have hpl := byts_len p
  have hql := byts_len q
  refine con_of Try.func5 rfl 104 Try.ntmps5 rfl fun cx hcx => ?_
  refine awp_seq ?_
  refine awp_region ?_
  refine awl_assign rfl rfl ?_
  refine awl_nil ?_
  change AWp _ _ _ _ _ _
  refine awp_seq ?_
  refine awp_seq ?_
  refine awp_region ?_
  refine awl_pcall fb6_QuJ rfl (begun_con) .nil rfl ?_
  first | refine awl_un rfl rfl rfl un_notd ?_ | refine awl_un rfl rfl rfl un_not ?_
  refine awl_nil ?_
  change AWp _ _ _ _ _ _
  refine awp_cond_f (by first | exact rfl | exact decide_eq_true rfl | exact decide_eq_false rfl) rfl ?_
  refine awp_skip ?_
  change AWp _ _ _ _ _ _
  refine awp_seq ?_
  refine awp_seq ?_
  refine awp_region ?_
  refine awl_move rfl rfl ?_
  first | refine x_len si46_QuJ rfl rfl rfl (fun hlen5 => ?_) | refine awl_len_m si46_QuJ rfl rfl rfl (fun hlen5 => ?_)
  refine awl_bin rfl rfl rfl rfl bin_gtr ?_
  refine awl_move rfl rfl ?_
  first | refine awl_split_p 19 rfl (fun hm1 => ?_) (fun hm1 => ?_) | refine awl_split 19 rfl (fun hm1 => ?_) (fun hm1 => ?_)
  · skip
    refine awl_guard_no rfl (by first | exact hm1 | exact decide_eq_true hm1 | exact decide_eq_false hm1) rfl rfl rfl rfl ?_
    refine awl_guard_no rfl (by first | exact hm1 | exact decide_eq_true hm1 | exact decide_eq_false hm1) rfl rfl rfl rfl ?_
    refine awl_guard_no rfl (by first | exact hm1 | exact decide_eq_true hm1 | exact decide_eq_false hm1) rfl rfl rfl rfl ?_
    refine awl_pick_t (by first | exact hm1 | exact decide_eq_true hm1 | exact decide_eq_false hm1) rfl rfl rfl ?_
    refine awl_nil ?_
    change AWp _ _ _ _ _ _
    refine awp_cond_t rfl rfl ?_
    refine awp_seq ?_
    refine awp_region ?_
    refine awl_assign rfl rfl ?_
    refine awl_nil ?_
    change AWp _ _ _ _ _ _
    refine awp_ret ?_
    change Ends _ _ _ _ _ _
    refine ends1 [] rfl (.tmp rfl) ?_ rfl
    first | exact ⟨rfl, rfl⟩ | (have hcl := ci.len; exact ⟨B_eq (decide_eq_true (by omega : (C.length : Int) = 0)), rfl⟩)
  · skip
    refine awl_guard_yes rfl (by first | exact hm1 | exact decide_eq_true hm1 | exact decide_eq_false hm1) rfl rfl ?_
    refine awl_move rfl rfl ?_
    refine awl_guard_yes rfl (by first | exact hm1 | exact decide_eq_true hm1 | exact decide_eq_false hm1) rfl rfl ?_
    first | refine x_len si46_QuJ rfl rfl rfl (fun hlen18 => ?_) | refine awl_len_m si46_QuJ rfl rfl rfl (fun hlen18 => ?_)
    refine awl_guard_yes rfl (by first | exact hm1 | exact decide_eq_true hm1 | exact decide_eq_false hm1) rfl rfl ?_
    refine awl_bin rfl rfl rfl rfl bin_gtr ?_
    refine awl_pick_f (by first | exact hm1 | exact decide_eq_true hm1 | exact decide_eq_false hm1) rfl rfl rfl ?_
    refine awl_nil ?_
    change AWp _ _ _ _ _ _
    first | refine awp_cond_p rfl (fun hm2 => ?_) (fun hm2 => ?_) | refine awp_cond rfl (fun hm2 => ?_) (fun hm2 => ?_)
    · skip
      refine awp_seq ?_
      refine awp_region ?_
      refine awl_assign rfl rfl ?_
      refine awl_nil ?_
      change AWp _ _ _ _ _ _
      refine awp_ret ?_
      change Ends _ _ _ _ _ _
      refine ends1 [] rfl (.tmp rfl) ?_ rfl
      first | exact ⟨rfl, rfl⟩ | (have hcl := ci.len; exact ⟨B_eq (decide_eq_true (by omega : (C.length : Int) = 0)), rfl⟩)
    · skip
      refine awp_skip ?_
      change AWp _ _ _ _ _ _
      refine awp_seq ?_
      refine awp_region ?_
      refine x_call [] fb7_QuJ rfl rfl rfl (New_con.sw 2 1000) .nil rfl (fun r o ⟨_, _, ⟨e1, e2⟩, e3, e4⟩ => ?_)
      subst e1 e2 e3 e4
      refine ⟨by rw [hcx]; rfl, _, rfl, ?_⟩
      refine awl_le (Le.objs (objs' := [(1000, qh 0 0), (1001, qa 0 [])]) (.cons rfl rfl (.cons rfl rfl .nil)) rfl) ?_
      refine awl_sub (y := .ptr 1000 0) (Sub.eq rfl) ?_
      refine awl_assign rfl rfl ?_
      refine awl_nil ?_
      change AWp _ _ _ _ _ _
      refine awp_seq ?_
      refine awp_seq ?_
      refine awp_region ?_
      refine awl_assign rfl rfl ?_
      refine awl_nil ?_
      change AWp _ _ _ _ _ _
      refine awp_block ?_
      refine x_loop [(0, _), (1, _), (5, _)] [] (fun x : Nat × List Ent × Nat => [(6, .p (I x.1))]) (fun x => [(1000, qh x.2.2 x.1), (1001, qa x.2.2 x.2.1)]) (fun x => x.1 ≤ p.length ∧ x.2.1.length = x.1 ∧ HP x.2.1 x.1 ∧ x.2.1.Perm (esA p x.1)) (fun x => p.length - x.1) (0, [], 0) (Le.mk (.cons rfl (by first | exact Sub.refl _ | exact Sub.ts | exact Sub.nil | (refine Sub.eq ?_; first | (simp; done) | (simp; omega))) (.cons rfl (by first | exact Sub.refl _ | exact Sub.ts | exact Sub.nil | (refine Sub.eq ?_; first | (simp; done) | (simp; omega))) (.cons rfl (by first | exact Sub.refl _ | exact Sub.ts | exact Sub.nil | (refine Sub.eq ?_; first | (simp; done) | (simp; omega))) (.cons rfl (by first | exact Sub.refl _ | exact Sub.ts | exact Sub.nil | (refine Sub.eq ?_; first | (simp; done) | (simp; omega))) (.nil))))) (.cons rfl (by first | rfl | (simp; done)) (.cons rfl (by first | rfl | (simp; done)) (.nil))) rfl) ⟨Nat.zero_le _, rfl, fun i h1 h2 => absurd h2 (Nat.not_lt_zero _), List.Perm.refl _⟩ (fun x hx => ?_)
      obtain ⟨i, L, ver⟩ := x
      obtain ⟨hi1, hLn, hHP, hPm⟩ := hx
      simp only at hi1 hLn hHP hPm
      dsimp only [List.cons_append, List.nil_append]
      refine awp_seq ?_
      refine awp_seq ?_
      refine awp_region ?_
      refine awl_move rfl rfl ?_
      refine awl_move rfl rfl ?_
      first | refine x_len si46_QuJ rfl rfl rfl (fun hlen30 => ?_) | refine awl_len_m si46_QuJ rfl rfl rfl (fun hlen30 => ?_)
      refine awl_bin rfl rfl rfl rfl bin_lss ?_
      refine awl_nil ?_
      change AWp _ _ _ _ _ _
      first | refine awp_cond_p rfl (fun hi => ?_) (fun hi => ?_) | refine awp_cond rfl (fun hi => ?_) (fun hi => ?_)
      · skip
        have hrow := byts_at (l := p) (i := i) (by omega)
        have hbi := okB_at hp i
        refine awp_skip ?_
        change AWp _ _ _ _ _ _
        refine awp_seq ?_
        refine awp_block ?_
        refine awp_region ?_
        refine awl_move rfl rfl ?_
        refine awl_move rfl rfl ?_
        refine awl_move rfl rfl ?_
        refine x_index si46_QuJ ti5_QuJ rfl rfl rfl rfl (by omega) (by first | omega | (simp only [List.length_map]; omega) | (simp; omega)) (by assumption) rfl ?_
        first | refine awl_load_one ti5_QuJ rfl rfl rfl rfl ?_ | refine awl_load_ione ti5_QuJ rfl rfl rfl ?_ | refine awl_load_m1 ti5_QuJ rfl rfl (by assumption) rfl rfl ?_
        refine awl_bin rfl rfl rfl rfl (bin_rem_u8 (by omega)) ?_
        refine awl_conv rfl rfl rfl (conv_i Try.underlying5 Try.underlying3 (by omega)) ?_
        refine awl_move rfl rfl ?_
        refine x_build bi35_QuJ tz35_QuJ rfl rfl rfl ?_
        refine x_call [1000, 1001] fb8_QuJ rfl rfl rfl (QPush_con ver L i (p.getD i 0 % 5) i (by omega) (by omega) (by omega)) (.cons (by first | exact Sub.refl _ | exact Sub.ts | exact Sub.nil | exact Sub.agc (by repeat (first | exact .nil | refine .cons (by first | exact Sub.refl _ | exact Sub.nil) ?_))) (.cons (by first | exact Sub.refl _ | exact Sub.ts | exact Sub.nil | exact Sub.agc (by repeat (first | exact .nil | refine .cons (by first | exact Sub.refl _ | exact Sub.nil) ?_))) .nil)) rfl (fun r o ⟨e1, e2⟩ => ?_)
        subst e1 e2
        refine ⟨by rw [hcx]; rfl, _, rfl, ?_⟩
        refine awl_nil ?_
        change AWp _ _ _ _ _ _
        refine awp_region ?_
        refine awl_move rfl rfl ?_
        first | refine awl_bin rfl rfl rfl rfl (bin_add_i (by omega)) ?_ | refine awl_bin rfl rfl rfl rfl bin_add ?_
        refine awl_assign rfl rfl ?_
        refine awl_nil ?_
        change ∃ x', _
        refine ⟨(i + 1, upF (L ++ [eA p i]) L.length, ver + 1), ⟨by simp only; omega, by simp [upF_len, hLn], by have := push_hp (e := eA p i) (hLn ▸ hHP); rw [hLn] at this ⊢; exact this.1, by rw [esA_succ]; exact (push_hp (e := eA p i) (hLn ▸ hHP)).2.trans (hPm.append_right _)⟩, (by simp only; omega), (Le.mk (.cons rfl (by first | exact Sub.refl _ | exact Sub.ts | exact Sub.nil | (refine Sub.eq ?_; first | (simp; done) | (simp; omega))) (.cons rfl (by first | exact Sub.refl _ | exact Sub.ts | exact Sub.nil | (refine Sub.eq ?_; first | (simp; done) | (simp; omega))) (.cons rfl (by first | exact Sub.refl _ | exact Sub.ts | exact Sub.nil | (refine Sub.eq ?_; first | (simp; done) | (simp; omega))) (.cons rfl (by first | exact Sub.refl _ | exact Sub.ts | exact Sub.nil | (refine Sub.eq ?_; first | (simp; done) | (simp; omega))) (.nil))))) (.cons rfl (by first | rfl | (simp; done)) (.cons rfl (by first | rfl | (simp; done)) (.nil))) rfl)⟩
      · skip
        obtain rfl : i = p.length := by omega
        refine awp_exit ?_
        change AWp _ _ _ _ _ _
        refine awp_seq ?_
        refine awp_region ?_
        refine awl_move rfl rfl ?_
        refine x_call [1000, 1001] fb14_QuJ rfl rfl rfl (((Copy_con ver L p.length (by omega)).sw 15 2000).sw 5 2001) (.cons (by first | exact Sub.refl _ | exact Sub.ts | exact Sub.nil | exact Sub.agc (by repeat (first | exact .nil | refine .cons (by first | exact Sub.refl _ | exact Sub.nil) ?_))) .nil) rfl (fun r o ⟨_, _, ⟨_, _, ⟨e1, e2⟩, e3, e4⟩, e5, e6⟩ => ?_)
        subst e1 e2 e3 e4 e5 e6
        refine ⟨by rw [hcx]; rfl, _, rfl, ?_⟩
        refine awl_le (Le.objs (objs' := [(2000, cq 1 p.length), (2001, qa 1 L), (1000, qh ver p.length), (1001, qa ver L)]) (.cons rfl rfl (.cons rfl rfl (.cons rfl rfl (.cons rfl rfl .nil)))) rfl) ?_
        refine awl_sub (y := .ptr 2000 0) (Sub.eq rfl) ?_
        refine awl_assign rfl rfl ?_
        refine awl_nil ?_
        change AWp _ _ _ _ _ _
        refine awp_seq ?_
        refine awp_seq ?_
        refine awp_region ?_
        refine awl_assign rfl rfl ?_
        refine awl_nil ?_
        change AWp _ _ _ _ _ _
        refine awp_block ?_
        refine x_loop [(0, _), (1, _), (5, _), (7, _)] [(2000, _), (2001, _)] (fun x : Nat × List Ent × Nat => [(8, .p (I x.1))]) (fun x => [(1000, qh x.2.2 ((p.length + x.1 : Nat) : Int)), (1001, qa x.2.2 x.2.1)]) (fun x => x.1 ≤ q.length ∧ x.2.1.length = p.length + x.1 ∧ HP x.2.1 x.2.1.length ∧ (x.2.1.filter isA).Perm (esA p p.length)) (fun x => q.length - x.1) (0, L, ver) (Le.mk (.cons rfl (by first | exact Sub.refl _ | exact Sub.ts | exact Sub.nil | (refine Sub.eq ?_; first | (simp; done) | (simp; omega))) (.cons rfl (by first | exact Sub.refl _ | exact Sub.ts | exact Sub.nil | (refine Sub.eq ?_; first | (simp; done) | (simp; omega))) (.cons rfl (by first | exact Sub.refl _ | exact Sub.ts | exact Sub.nil | (refine Sub.eq ?_; first | (simp; done) | (simp; omega))) (.cons rfl (by first | exact Sub.refl _ | exact Sub.ts | exact Sub.nil | (refine Sub.eq ?_; first | (simp; done) | (simp; omega))) (.cons rfl (by first | exact Sub.refl _ | exact Sub.ts | exact Sub.nil | (refine Sub.eq ?_; first | (simp; done) | (simp; omega))) (.nil)))))) (.cons rfl (by first | rfl | (simp; done)) (.cons rfl (by first | rfl | (simp; done)) (.cons rfl (by first | rfl | (simp; done)) (.cons rfl (by first | rfl | (simp; done)) (.nil))))) rfl) ⟨Nat.zero_le _, hLn, hLn ▸ hHP, by have := hPm.filter isA; rw [esA_filter (by omega)] at this; exact this⟩ (fun x hx => ?_)
        obtain ⟨j, M, ver⟩ := x
        obtain ⟨hj1, hMn, hHM, hPM⟩ := hx
        simp only at hj1 hMn hHM hPM
        dsimp only [List.cons_append, List.nil_append]
        refine awp_seq ?_
        refine awp_seq ?_
        refine awp_region ?_
        refine awl_move rfl rfl ?_
        refine awl_move rfl rfl ?_
        first | refine x_len si46_QuJ rfl rfl rfl (fun hlen53 => ?_) | refine awl_len_m si46_QuJ rfl rfl rfl (fun hlen53 => ?_)
        refine awl_bin rfl rfl rfl rfl bin_lss ?_
        refine awl_nil ?_
        change AWp _ _ _ _ _ _
        first | refine awp_cond_p rfl (fun hj => ?_) (fun hj => ?_) | refine awp_cond rfl (fun hj => ?_) (fun hj => ?_)
        · skip
          have hrow := byts_at (l := q) (i := j) (by omega)
          have hbi := okB_at hq j
          refine awp_skip ?_
          change AWp _ _ _ _ _ _
          refine awp_seq ?_
          refine awp_block ?_
          refine awp_region ?_
          refine awl_move rfl rfl ?_
          refine awl_move rfl rfl ?_
          refine awl_move rfl rfl ?_
          refine x_index si46_QuJ ti5_QuJ rfl rfl rfl rfl (by omega) (by first | omega | (simp only [List.length_map]; omega) | (simp; omega)) (by assumption) rfl ?_
          first | refine awl_load_one ti5_QuJ rfl rfl rfl rfl ?_ | refine awl_load_ione ti5_QuJ rfl rfl rfl ?_ | refine awl_load_m1 ti5_QuJ rfl rfl (by assumption) rfl rfl ?_
          refine awl_bin rfl rfl rfl rfl (bin_rem_u8 (by omega)) ?_
          refine awl_conv rfl rfl rfl (conv_i Try.underlying5 Try.underlying3 (by omega)) ?_
          refine awl_move rfl rfl ?_
          first | refine awl_bin rfl rfl rfl rfl (bin_add_i (by omega)) ?_ | refine awl_bin rfl rfl rfl rfl bin_add ?_
          refine awl_sub (y := .p (I ((100 + j : Nat) : Int))) (Sub.eq (I_eq (by omega))) ?_
          refine x_build bi35_QuJ tz35_QuJ rfl rfl rfl ?_
          refine x_call [1000, 1001] fb8_QuJ rfl rfl rfl (QPush_con ver M ((p.length + j : Nat) : Int) (q.getD j 0 % 5) ((100 + j : Nat) : Int) (by omega) (by omega) (by omega)) (.cons (by first | exact Sub.refl _ | exact Sub.ts | exact Sub.nil | exact Sub.agc (by repeat (first | exact .nil | refine .cons (by first | exact Sub.refl _ | exact Sub.nil) ?_))) (.cons (by first | exact Sub.refl _ | exact Sub.ts | exact Sub.nil | exact Sub.agc (by repeat (first | exact .nil | refine .cons (by first | exact Sub.refl _ | exact Sub.nil) ?_))) .nil)) rfl (fun r o ⟨e1, e2⟩ => ?_)
          subst e1 e2
          refine ⟨by rw [hcx]; rfl, _, rfl, ?_⟩
          refine awl_nil ?_
          change AWp _ _ _ _ _ _
          refine awp_region ?_
          refine awl_move rfl rfl ?_
          first | refine awl_bin rfl rfl rfl rfl (bin_add_i (by omega)) ?_ | refine awl_bin rfl rfl rfl rfl bin_add ?_
          refine awl_assign rfl rfl ?_
          refine awl_nil ?_
          change ∃ x', _
          refine ⟨(j + 1, upF (M ++ [⟨q.getD j 0 % 5, ((100 + j : Nat) : Int), ((p.length + j : Nat) : Int) + 1⟩]) M.length, ver + 1), ⟨by simp only; omega, by simp [upF_len, hMn]; omega, by have := push_hp (e := ⟨q.getD j 0 % 5, ((100 + j : Nat) : Int), ((p.length + j : Nat) : Int) + 1⟩) hHM; rw [show (upF (M ++ [⟨q.getD j 0 % 5, ((100 + j : Nat) : Int), ((p.length + j : Nat) : Int) + 1⟩]) M.length).length = M.length + 1 by simp [upF_len]]; exact this.1, by have := ((push_hp (e := ⟨q.getD j 0 % 5, ((100 + j : Nat) : Int), ((p.length + j : Nat) : Int) + 1⟩) hHM).2.filter isA); rw [List.filter_append, List.filter_cons_of_neg (by simp [isA]; omega)] at this; simp only [List.filter_nil, List.append_nil] at this; exact this.trans hPM⟩, (by simp only; omega), (Le.mk (.cons rfl (by first | exact Sub.refl _ | exact Sub.ts | exact Sub.nil | (refine Sub.eq ?_; first | (simp; done) | (simp; omega))) (.cons rfl (by first | exact Sub.refl _ | exact Sub.ts | exact Sub.nil | (refine Sub.eq ?_; first | (simp; done) | (simp; omega))) (.cons rfl (by first | exact Sub.refl _ | exact Sub.ts | exact Sub.nil | (refine Sub.eq ?_; first | (simp; done) | (simp; omega))) (.cons rfl (by first | exact Sub.refl _ | exact Sub.ts | exact Sub.nil | (refine Sub.eq ?_; first | (simp; done) | (simp; omega))) (.cons rfl (by first | exact Sub.refl _ | exact Sub.ts | exact Sub.nil | (refine Sub.eq ?_; first | (simp; done) | (simp; omega))) (.nil)))))) (.cons rfl (by first | rfl | (simp; done)) (.cons rfl (by first | rfl | (simp; done)) (.cons rfl (by first | rfl | (simp; done)) (.cons rfl (by first | rfl | (simp; done)) (.nil))))) rfl)⟩
        · skip
          obtain rfl : j = q.length := by omega
          refine awp_exit ?_
          change AWp _ _ _ _ _ _
          refine awp_seq ?_
          refine awp_seq ?_
          refine awp_region ?_
          refine awl_move rfl rfl ?_
          refine x_call [2000, 2001] fb15_QuJ rfl rfl rfl (((QLen_con 1 L p.length).sw 1000 2000).sw 1001 2001) (.cons (by first | exact Sub.refl _ | exact Sub.ts | exact Sub.nil | exact Sub.agc (by repeat (first | exact .nil | refine .cons (by first | exact Sub.refl _ | exact Sub.nil) ?_))) .nil) rfl (fun r o ⟨_, _, ⟨_, _, ⟨e1, e2⟩, e3, e4⟩, e5, e6⟩ => ?_)
          subst e1 e2 e3 e4 e5 e6
          refine ⟨by rw [hcx]; rfl, _, rfl, ?_⟩
          refine awl_le (Le.objs (objs' := [(2000, cq 1 p.length), (2001, qa 1 L), (1000, _), (1001, _)]) (.cons rfl rfl (.cons rfl rfl (.cons rfl rfl (.cons rfl rfl .nil)))) rfl) ?_
          refine awl_sub (y := .p (I L.length)) (Sub.eq rfl) ?_
          refine awl_move rfl rfl ?_
          first | refine x_len si46_QuJ rfl rfl rfl (fun hlen74 => ?_) | refine awl_len_m si46_QuJ rfl rfl rfl (fun hlen74 => ?_)
          refine awl_bin rfl rfl rfl rfl bin_neq ?_
          refine awl_move rfl rfl ?_
          refine awl_guard_yes rfl (by first | exact (by omega : ¬ (L.length : Int) ≠ ((byts p).length : Int)) | exact decide_eq_true (by omega : ¬ (L.length : Int) ≠ ((byts p).length : Int)) | exact decide_eq_false (by omega : ¬ (L.length : Int) ≠ ((byts p).length : Int))) rfl rfl ?_
          refine awl_move rfl rfl ?_
          refine awl_guard_yes rfl (by first | exact (by omega : ¬ (L.length : Int) ≠ ((byts p).length : Int)) | exact decide_eq_true (by omega : ¬ (L.length : Int) ≠ ((byts p).length : Int)) | exact decide_eq_false (by omega : ¬ (L.length : Int) ≠ ((byts p).length : Int))) rfl rfl ?_
          refine x_call [1000, 1001] fb15_QuJ rfl rfl rfl (QLen_con ver M ((p.length + q.length : Nat) : Int)) (.cons (by first | exact Sub.refl _ | exact Sub.ts | exact Sub.nil | exact Sub.agc (by repeat (first | exact .nil | refine .cons (by first | exact Sub.refl _ | exact Sub.nil) ?_))) .nil) rfl (fun r o ⟨e1, e2⟩ => ?_)
          subst e1 e2
          refine ⟨by rw [hcx]; rfl, _, rfl, ?_⟩
          refine awl_guard_yes rfl (by first | exact (by omega : ¬ (L.length : Int) ≠ ((byts p).length : Int)) | exact decide_eq_true (by omega : ¬ (L.length : Int) ≠ ((byts p).length : Int)) | exact decide_eq_false (by omega : ¬ (L.length : Int) ≠ ((byts p).length : Int))) rfl rfl ?_
          refine awl_move rfl rfl ?_
          refine awl_guard_yes rfl (by first | exact (by omega : ¬ (L.length : Int) ≠ ((byts p).length : Int)) | exact decide_eq_true (by omega : ¬ (L.length : Int) ≠ ((byts p).length : Int)) | exact decide_eq_false (by omega : ¬ (L.length : Int) ≠ ((byts p).length : Int))) rfl rfl ?_
          first | refine x_len si46_QuJ rfl rfl rfl (fun hlen86 => ?_) | refine awl_len_m si46_QuJ rfl rfl rfl (fun hlen86 => ?_)
          refine awl_guard_yes rfl (by first | exact (by omega : ¬ (L.length : Int) ≠ ((byts p).length : Int)) | exact decide_eq_true (by omega : ¬ (L.length : Int) ≠ ((byts p).length : Int)) | exact decide_eq_false (by omega : ¬ (L.length : Int) ≠ ((byts p).length : Int))) rfl rfl ?_
          refine awl_move rfl rfl ?_
          refine awl_guard_yes rfl (by first | exact (by omega : ¬ (L.length : Int) ≠ ((byts p).length : Int)) | exact decide_eq_true (by omega : ¬ (L.length : Int) ≠ ((byts p).length : Int)) | exact decide_eq_false (by omega : ¬ (L.length : Int) ≠ ((byts p).length : Int))) rfl rfl ?_
          first | refine x_len si46_QuJ rfl rfl rfl (fun hlen91 => ?_) | refine awl_len_m si46_QuJ rfl rfl rfl (fun hlen91 => ?_)
          refine awl_guard_yes rfl (by first | exact (by omega : ¬ (L.length : Int) ≠ ((byts p).length : Int)) | exact decide_eq_true (by omega : ¬ (L.length : Int) ≠ ((byts p).length : Int)) | exact decide_eq_false (by omega : ¬ (L.length : Int) ≠ ((byts p).length : Int))) rfl rfl ?_
          first | refine awl_bin rfl rfl rfl rfl (bin_add_i (by omega)) ?_ | refine awl_bin rfl rfl rfl rfl bin_add ?_
          refine awl_guard_yes rfl (by first | exact (by omega : ¬ (L.length : Int) ≠ ((byts p).length : Int)) | exact decide_eq_true (by omega : ¬ (L.length : Int) ≠ ((byts p).length : Int)) | exact decide_eq_false (by omega : ¬ (L.length : Int) ≠ ((byts p).length : Int))) rfl rfl ?_
          refine awl_bin rfl rfl rfl rfl bin_neq ?_
          refine awl_pick_f (by first | exact (by omega : ¬ (L.length : Int) ≠ ((byts p).length : Int)) | exact decide_eq_true (by omega : ¬ (L.length : Int) ≠ ((byts p).length : Int)) | exact decide_eq_false (by omega : ¬ (L.length : Int) ≠ ((byts p).length : Int))) rfl rfl rfl ?_
          refine awl_nil ?_
          change AWp _ _ _ _ _ _
          refine awp_cond_f (by first | exact (by omega : ¬ (M.length : Int) ≠ ((byts p).length : Int) + ((byts q).length : Int)) | exact decide_eq_true (by omega : ¬ (M.length : Int) ≠ ((byts p).length : Int) + ((byts q).length : Int)) | exact decide_eq_false (by omega : ¬ (M.length : Int) ≠ ((byts p).length : Int) + ((byts q).length : Int))) rfl ?_
          refine awp_skip ?_
          change AWp _ _ _ _ _ _
          refine awp_seq ?_
          refine awp_seq ?_
          refine awp_region ?_
          refine awl_assign rfl rfl ?_
          refine awl_nil ?_
          change AWp _ _ _ _ _ _
          refine awp_block ?_
          refine x_loop [(0, _), (5, _), (7, _)] [] (fun x : Nat × List Ent × Nat × List Ent × Nat => [(9, .p (I x.1))]) (fun x => [(2000, cq x.2.2.1 p.length), (2001, qa x.2.2.1 x.2.1), (1000, qh x.2.2.2.2 ((p.length + q.length : Nat) : Int)), (1001, qa x.2.2.2.2 x.2.2.2.1)]) (fun x => CoI p.length x.1 x.2.1 x.2.2.2.1) (fun x => p.length - x.1) (0, L, 1, M, ver) (Le.mk (.cons rfl (by first | exact Sub.refl _ | exact Sub.ts | exact Sub.nil | (refine Sub.eq ?_; first | (simp; done) | (simp; omega))) (.cons rfl (by first | exact Sub.refl _ | exact Sub.ts | exact Sub.nil | (refine Sub.eq ?_; first | (simp; done) | (simp; omega))) (.cons rfl (by first | exact Sub.refl _ | exact Sub.ts | exact Sub.nil | (refine Sub.eq ?_; first | (simp; done) | (simp; omega))) (.cons rfl (by first | exact Sub.refl _ | exact Sub.ts | exact Sub.nil | (refine Sub.eq ?_; first | (simp; done) | (simp; omega))) (.nil))))) (.cons rfl (by first | rfl | (simp; done)) (.cons rfl (by first | rfl | (simp; done)) (.cons rfl (by first | rfl | (simp; done)) (.cons rfl (by first | rfl | (simp; done)) (.nil))))) rfl) ⟨Nat.zero_le _, hLn, hLn ▸ hHP, hHM, hPM.trans hPm.symm, fun e he => by obtain ⟨k, _, rfl⟩ := esA_mem (hPm.mem_iff.1 he); rfl, by simp only; omega⟩ (fun x hx => ?_)
          obtain ⟨i, C, v2, M, ver⟩ := x
          have ci : CoI p.length i C M := hx
          dsimp only [List.cons_append, List.nil_append]
          refine awp_seq ?_
          refine awp_seq ?_
          refine awp_region ?_
          refine awl_move rfl rfl ?_
          refine awl_move rfl rfl ?_
          first | refine x_len si46_QuJ rfl rfl rfl (fun hlen103 => ?_) | refine awl_len_m si46_QuJ rfl rfl rfl (fun hlen103 => ?_)
          refine awl_bin rfl rfl rfl rfl bin_lss ?_
          refine awl_nil ?_
          change AWp _ _ _ _ _ _
          first | refine awp_cond_p rfl (fun hk => ?_) (fun hk => ?_) | refine awp_cond rfl (fun hk => ?_) (fun hk => ?_)
          · skip
            have hcl := ci.len
            refine awp_skip ?_
            change AWp _ _ _ _ _ _
            refine awp_seq ?_
            refine awp_block ?_
            refine awp_seq ?_
            refine awp_region ?_
            refine awl_move rfl rfl ?_
            refine x_call [2000, 2001] fb9_QuJ rfl rfl rfl (((QPop_con v2 C p.length (by omega) (by omega)).sw 1000 2000).sw 1001 2001) (.cons (by first | exact Sub.refl _ | exact Sub.ts | exact Sub.nil | exact Sub.agc (by repeat (first | exact .nil | refine .cons (by first | exact Sub.refl _ | exact Sub.nil) ?_))) .nil) rfl (fun r o ⟨_, _, ⟨_, _, ⟨e1, e2⟩, e3, e4⟩, e5, e6⟩ => ?_)
            subst e1 e2 e3 e4 e5 e6
            refine ⟨by rw [hcx]; rfl, _, rfl, ?_⟩
            refine awl_le (Le.objs (objs' := [(2000, cq (v2 + 1) p.length), (2001, qa (v2 + 1) (popF C)), (1000, _), (1001, _)]) (.cons rfl rfl (.cons rfl rfl (.cons rfl rfl (.cons rfl rfl .nil)))) rfl) ?_
            refine awl_sub (y := .tp [.ag [.p (I (C.getD 0 e0).w), .p (I (C.getD 0 e0).n)], .p (I 0)]) (Sub.eq rfl) ?_
            refine awl_move rfl rfl ?_
            refine awl_extract rfl rfl rfl ?_
            refine awl_extract rfl rfl rfl ?_
            refine x_alloc tz35_QuJ rfl rfl (by rw [hcx]; rfl) rfl ?_
            first | refine x_store ti35_QuJ rfl rfl rfl rfl rfl rfl rfl rfl ?_ | refine awl_store_m ti35_QuJ rfl rfl rfl (by first | omega | (simp; omega)) rfl rfl rfl rfl ?_
            refine awl_assign rfl rfl ?_
            refine awl_nil ?_
            change AWp _ _ _ _ _ _
            refine awp_seq ?_
            refine awp_block ?_
            refine x_loop [(0, _), (5, _), (7, _), (9, _), (10, _), (11, _)] [(10, _), (2000, _), (2001, _)] (fun x : List Ent × Nat => []) (fun x => [(1000, qh x.2 ((p.length + q.length : Nat) : Int)), (1001, qa x.2 x.1)]) (fun x => HP x.1 x.1.length ∧ (x.1.filter isA).Perm C ∧ x.1.length ≤ 200) (fun x => x.1.length) (M, ver) (Le.mk (.cons rfl (by first | exact Sub.refl _ | exact Sub.ts | exact Sub.nil | (refine Sub.eq ?_; first | (simp; done) | (simp; omega))) (.cons rfl (by first | exact Sub.refl _ | exact Sub.ts | exact Sub.nil | (refine Sub.eq ?_; first | (simp; done) | (simp; omega))) (.cons rfl (by first | exact Sub.refl _ | exact Sub.ts | exact Sub.nil | (refine Sub.eq ?_; first | (simp; done) | (simp; omega))) (.cons rfl (by first | exact Sub.refl _ | exact Sub.ts | exact Sub.nil | (refine Sub.eq ?_; first | (simp; done) | (simp; omega))) (.cons rfl (by first | exact Sub.refl _ | exact Sub.ts | exact Sub.nil | (refine Sub.eq ?_; first | (simp; done) | (simp; omega))) (.cons rfl (by first | exact Sub.refl _ | exact Sub.ts | exact Sub.nil | (refine Sub.eq ?_; first | (simp; done) | (simp; omega))) (.nil))))))) (.cons rfl (by first | rfl | (simp; done)) (.cons rfl (by first | rfl | (simp; done)) (.cons rfl (by first | rfl | (simp; done)) (.cons rfl (by first | rfl | (simp; done)) (.cons rfl (by first | rfl | (simp; done)) (.nil)))))) rfl) ⟨ci.hpM, ci.pm, ci.ml⟩ (fun x hx => ?_)
            obtain ⟨M', ver'⟩ := x
            obtain ⟨hpM', pm', ml'⟩ := hx
            simp only at hpM' pm' ml'
            dsimp only [List.cons_append, List.nil_append]
            refine awp_block ?_
            refine awp_seq ?_
            refine awp_region ?_
            refine awl_move rfl rfl ?_
            refine x_call [1000, 1001] fb9_QuJ rfl rfl rfl (QPop_con ver' M' ((p.length + q.length : Nat) : Int) (co_ne pm' (by omega)) (by omega)) (.cons (by first | exact Sub.refl _ | exact Sub.ts | exact Sub.nil | exact Sub.agc (by repeat (first | exact .nil | refine .cons (by first | exact Sub.refl _ | exact Sub.nil) ?_))) .nil) rfl (fun r o ⟨e1, e2⟩ => ?_)
            subst e1 e2
            refine ⟨by rw [hcx]; rfl, _, rfl, ?_⟩
            refine awl_move rfl rfl ?_
            refine awl_extract rfl rfl rfl ?_
            refine awl_extract rfl rfl rfl ?_
            refine x_alloc tz35_QuJ rfl rfl (by rw [hcx]; rfl) rfl ?_
            first | refine x_store ti35_QuJ rfl rfl rfl rfl rfl rfl rfl rfl ?_ | refine awl_store_m ti35_QuJ rfl rfl rfl (by first | omega | (simp; omega)) rfl rfl rfl rfl ?_
            refine awl_assign rfl rfl ?_
            refine awl_nil ?_
            change AWp _ _ _ _ _ _
            refine awp_seq ?_
            refine awp_seq ?_
            refine awp_region ?_
            refine awl_move rfl rfl ?_
            refine awl_bin rfl rfl rfl rfl bin_neq ?_
            refine awl_nil ?_
            change AWp _ _ _ _ _ _
            refine awp_cond_f (by first | exact (fun h => h rfl) | exact decide_eq_true (fun h => h rfl) | exact decide_eq_false (fun h => h rfl)) rfl ?_
            refine awp_skip ?_
            change AWp _ _ _ _ _ _
            refine awp_seq ?_
            refine awp_region ?_
            first | refine awl_fieldAddr fi35_1_QuJ rfl rfl ?_ | refine awl_fieldAddr_i fi35_1_QuJ rfl rfl rfl ?_ | refine awl_field_m fi35_1_QuJ rfl rfl rfl ?_
            first | refine awl_load_one ti3_QuJ rfl rfl rfl rfl ?_ | refine awl_load_ione ti3_QuJ rfl rfl rfl ?_ | refine awl_load_m1 ti3_QuJ rfl rfl (by assumption) rfl rfl ?_
            refine awl_bin rfl rfl rfl rfl bin_lss ?_
            refine awl_nil ?_
            change AWp _ _ _ _ _ _
            first | refine awp_cond_p rfl (fun f2 => ?_) (fun f2 => ?_) | refine awp_cond rfl (fun f2 => ?_) (fun f2 => ?_)
            · skip
              refine awp_seq ?_
              refine awp_seq ?_
              refine awp_region ?_
              first | refine awl_load_row ti35_QuJ rfl rfl rfl rfl ?_ | refine x_irow ti35_QuJ rfl rfl rfl rfl ?_ | refine awl_load_m ti35_QuJ rfl rfl (by assumption) rfl rfl ?_
              first | refine awl_load_row ti35_QuJ rfl rfl rfl rfl ?_ | refine x_irow ti35_QuJ rfl rfl rfl rfl ?_ | refine awl_load_m ti35_QuJ rfl rfl (by assumption) rfl rfl ?_
              refine x_nes eq35_QuJ rfl rfl rfl rfl rfl rfl rfl rfl ?_
              refine awl_nil ?_
              change AWp _ _ _ _ _ _
              refine awp_cond_f (by first | exact (by rw [co_same ci.hpC hpM' pm' ci.tn (by have := ci.len; omega) f2]; simp) | exact decide_eq_true (by rw [co_same ci.hpC hpM' pm' ci.tn (by have := ci.len; omega) f2]; simp) | exact decide_eq_false (by rw [co_same ci.hpC hpM' pm' ci.tn (by have := ci.len; omega) f2]; simp)) rfl ?_
              refine awp_skip ?_
              change AWp _ _ _ _ _ _
              refine awp_exit ?_
              change AWp _ _ _ _ _ _
              refine awp_seq ?_
              refine awp_region ?_
              refine awl_move rfl rfl ?_
              refine awl_bin rfl rfl rfl rfl bin_neq ?_
              refine awl_nil ?_
              change AWp _ _ _ _ _ _
              refine awp_cond_f (by first | exact (fun h => h rfl) | exact decide_eq_true (fun h => h rfl) | exact decide_eq_false (fun h => h rfl)) rfl ?_
              refine awp_skip ?_
              change AWp _ _ _ _ _ _
              refine awp_region ?_
              refine awl_move rfl rfl ?_
              first | refine awl_bin rfl rfl rfl rfl (bin_add_i (by omega)) ?_ | refine awl_bin rfl rfl rfl rfl bin_add ?_
              refine awl_assign rfl rfl ?_
              refine awl_nil ?_
              change ∃ x', _
              refine ⟨(i + 1, popF C, v2 + 1, popF M', ver' + 1), (co_step (by omega) ci.len ci.hpC ci.tn hpM' pm' ml' f2), (by simp only; omega), (Le.mk (.cons rfl (by first | exact Sub.refl _ | exact Sub.ts | exact Sub.nil | (refine Sub.eq ?_; first | (simp; done) | (simp; omega))) (.cons rfl (by first | exact Sub.refl _ | exact Sub.ts | exact Sub.nil | (refine Sub.eq ?_; first | (simp; done) | (simp; omega))) (.cons rfl (by first | exact Sub.refl _ | exact Sub.ts | exact Sub.nil | (refine Sub.eq ?_; first | (simp; done) | (simp; omega))) (.cons rfl (by first | exact Sub.refl _ | exact Sub.ts | exact Sub.nil | (refine Sub.eq ?_; first | (simp; done) | (simp; omega))) (.nil))))) (.cons rfl (by first | rfl | (simp; done)) (.cons rfl (by first | rfl | (simp; done)) (.cons rfl (by first | rfl | (simp; done)) (.cons rfl (by first | rfl | (simp; done)) (.nil))))) rfl)⟩
            · skip
              refine awp_skip ?_
              change ∃ x', _
              refine ⟨(popF M', ver' + 1), (by have := co_skip hpM' pm' (co_ne pm' (by omega)) f2; exact ⟨this.1, this.2.1, by have := this.2.2; simp only; omega⟩), (by have h1 := (co_skip hpM' pm' (co_ne pm' (by omega)) f2).2.2; have h2 := co_ne pm' (by omega : 0 < C.length); simp only; omega), (Le.mk (.cons rfl (by first | exact Sub.refl _ | exact Sub.ts | exact Sub.nil | (refine Sub.eq ?_; first | (simp; done) | (simp; omega))) (.cons rfl (by first | exact Sub.refl _ | exact Sub.ts | exact Sub.nil | (refine Sub.eq ?_; first | (simp; done) | (simp; omega))) (.cons rfl (by first | exact Sub.refl _ | exact Sub.ts | exact Sub.nil | (refine Sub.eq ?_; first | (simp; done) | (simp; omega))) (.cons rfl (by first | exact Sub.refl _ | exact Sub.ts | exact Sub.nil | (refine Sub.eq ?_; first | (simp; done) | (simp; omega))) (.cons rfl (by first | exact Sub.refl _ | exact Sub.ts | exact Sub.nil | (refine Sub.eq ?_; first | (simp; done) | (simp; omega))) (.cons rfl (by first | exact Sub.refl _ | exact Sub.ts | exact Sub.nil | (refine Sub.eq ?_; first | (simp; done) | (simp; omega))) (.nil))))))) (.cons rfl (by first | rfl | (simp; done)) (.cons rfl (by first | rfl | (simp; done)) (.cons rfl (by first | rfl | (simp; done)) (.cons rfl (by first | rfl | (simp; done)) (.cons rfl (by first | rfl | (simp; done)) (.nil)))))) rfl)⟩
          · skip
            refine awp_exit ?_
            change AWp _ _ _ _ _ _
            refine awp_seq ?_
            refine awp_region ?_
            refine awl_move rfl rfl ?_
            refine x_call [2000, 2001] fb15_QuJ rfl rfl rfl (((QLen_con v2 C p.length).sw 1000 2000).sw 1001 2001) (.cons (by first | exact Sub.refl _ | exact Sub.ts | exact Sub.nil | exact Sub.agc (by repeat (first | exact .nil | refine .cons (by first | exact Sub.refl _ | exact Sub.nil) ?_))) .nil) rfl (fun r o ⟨_, _, ⟨_, _, ⟨e1, e2⟩, e3, e4⟩, e5, e6⟩ => ?_)
            subst e1 e2 e3 e4 e5 e6
            refine ⟨by rw [hcx]; rfl, _, rfl, ?_⟩
            refine awl_sub (y := .p (I C.length)) (Sub.eq rfl) ?_
            refine awl_bin rfl rfl rfl rfl bin_eql ?_
            refine awl_assign rfl rfl ?_
            refine awl_nil ?_
            change AWp _ _ _ _ _ _
            refine awp_ret ?_
            change Ends _ _ _ _ _ _
            refine ends1 [] rfl (.tmp rfl) ?_ rfl
            first | exact ⟨rfl, rfl⟩ | (have hcl := ci.len; exact ⟨B_eq (decide_eq_true (by omega : (C.length : Int) = 0)), rfl⟩)

end Go.Ab.Ytnennmlpaijedaa
