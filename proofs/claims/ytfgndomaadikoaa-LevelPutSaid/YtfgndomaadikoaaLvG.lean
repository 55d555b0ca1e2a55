/- Levels: Put, and what makes levels. -/
import Derived.Test.YtfgndomaadikoaaLvF
import Derived.Test.YtfgndomaadikoaaAb20
set_option linter.unusedVariables false
set_option linter.unusedSimpArgs false
namespace Go.Ab.Ytfgndomaadikoaa
open Go Go.RowKit Go.Ab Go.Proofs

theorem tz39_LvG : TZ Try.prog 39 [(.int .i64 0), (.int .i64 0), (.slice none 0 0)] := ⟨⟨.agg #[(.int .i64 0), (.int .i64 0), (.slice none 0 0)], by kernel_rfl, rfl⟩, by kernel_rfl⟩
theorem bi39_LvG : BI Try.prog 39 [(0, 1), (1, 1), (2, 1)] := BI.mk' Try.underlying39 (by kernel_rfl)
theorem ti39_LvG : TI Try.prog 39 3 true := ⟨by kernel_rfl, by kernel_rfl⟩
theorem fi39_0_LvG : FI Try.prog 39 0 0 := ⟨_, _, 0, Try.underlying39, rfl, rfl, by kernel_rfl⟩
theorem ti3_LvG : TI Try.prog 3 1 false := ⟨by kernel_rfl, by kernel_rfl⟩
theorem fi39_1_LvG : FI Try.prog 39 1 1 := ⟨_, _, 0, Try.underlying39, rfl, rfl, by kernel_rfl⟩
theorem si24_LvG : SI Try.prog 24 39 := ⟨Try.underlying24⟩
theorem fb42_LvG : FB Try.prog 42 := ⟨_, Try.func42, rfl, by kernel_rfl⟩
theorem fi39_2_LvG : FI Try.prog 39 2 2 := ⟨_, _, 0, Try.underlying39, rfl, rfl, by kernel_rfl⟩
theorem ti24_LvG : TI Try.prog 24 1 false := ⟨by kernel_rfl, by kernel_rfl⟩
theorem ei39_LvG : EI Try.prog 39 3 40 := ⟨by kernel_rfl⟩
theorem fb59_LvG : FB Try.prog 59 := ⟨_, Try.func59, rfl, by kernel_rfl⟩
theorem hmo_LvG : Try.prog.follows .mixedOrders = true := by kernel_rfl
theorem fb43_LvG : FB Try.prog 43 := ⟨_, Try.func43, rfl, by kernel_rfl⟩

mutual
def putF (by_ : List Lvl) : Lvl → Lvl
  | ⟨k, n, l⟩ => if k = 4 ∧ 0 ≤ n ∧ n < by_.length then by_.getD n.toNat ⟨0, 0, []⟩ else ⟨k, n, putFs by_ l⟩
def putFs (by_ : List Lvl) : List Lvl → List Lvl
  | [] => []
  | a :: r => putF by_ a :: putFs by_ r
end
theorem putF_eq (by_ : List Lvl) (t : Lvl) : putF by_ t = if t.kind = 4 ∧ 0 ≤ t.n ∧ t.n < by_.length then by_.getD t.n.toNat ⟨0, 0, []⟩ else ⟨t.kind, t.n, putFs by_ t.args⟩ := by cases t; rfl
mutual
theorem putF_nil : ∀ t : Lvl, putF [] t = t
  | ⟨k, n, l⟩ => by
    simp only [putF]
    rw [if_neg (by rintro ⟨_, h1, h2⟩; simp at h2; omega), putFs_nil l]
theorem putFs_nil : ∀ l : List Lvl, putFs [] l = l
  | [] => rfl
  | a :: r => by simp only [putFs, putF_nil a, putFs_nil r]
end
theorem len_parts : ∀ l : List Lvl, (l.length : Int) ≤ partsLs l
  | [] => by simp [partsLs]
  | a :: r => by simp only [partsLs, List.length_cons]; have := len_parts r; have := partsL_pos a; omega
theorem parts_mem : ∀ {l : List Lvl} {a : Lvl}, a ∈ l → partsL a ≤ partsLs l
  | b :: r, a, hm => by
    simp only [partsLs]
    have := partsLs_pos r; have := partsL_pos b
    rcases List.mem_cons.1 hm with rfl | hm
    · omega
    · have := parts_mem hm; omega
mutual
/-- Each node has few args. -/
def narL : Lvl → Bool
  | ⟨_, _, l⟩ => decide (l.length ≤ 1000000) && narLs l
def narLs : List Lvl → Bool
  | [] => true
  | a :: r => narL a && narLs r
end
theorem nar_len {t : Lvl} (h : narL t = true) : t.args.length ≤ 1000000 := by
  cases t; simp only [narL, Bool.and_eq_true] at h; exact of_decide_eq_true h.1
theorem narLs_mem : ∀ {l : List Lvl}, narLs l = true → ∀ a ∈ l, narL a = true
  | [], _, a, h => by cases h
  | b :: r, h, a, hm => by
    simp only [narLs, Bool.and_eq_true] at h
    rcases List.mem_cons.1 hm with rfl | hm
    · exact h.1
    · exact narLs_mem h.2 a hm
theorem nar_mem {t a : Lvl} (h : narL t = true) (ha : a ∈ t.args) : narL a = true := by
  cases t; simp only [narL, Bool.and_eq_true] at h; exact narLs_mem h.2 a ha
mutual
theorem nar_parts : ∀ t : Lvl, partsL t ≤ 1000000 → narL t = true
  | ⟨k, n, l⟩, h => by
    simp only [partsL] at h
    have := len_parts l
    simp only [narL, Bool.and_eq_true]
    exact ⟨decide_eq_true (by omega), nars_parts l (by omega)⟩
theorem nars_parts : ∀ l : List Lvl, partsLs l ≤ 1000000 → narLs l = true
  | [], _ => rfl
  | a :: r, h => by
    simp only [partsLs] at h
    have := partsL_pos a; have := partsLs_pos r
    simp only [narLs, nar_parts a (by omega), nars_parts r (by omega), Bool.and_self]
end
theorem row_get {l : List Lvl} {n : Int} (h0 : 0 ≤ n) (h1 : n < l.length) : rowAt (encLs l) n = rowL (l.getD n.toNat ⟨0, 0, []⟩) ∧ l.getD n.toNat ⟨0, 0, []⟩ ∈ l := by
  have h : n.toNat < l.length := by omega
  refine ⟨?_, ?_⟩
  · simp [rowAt, encLs_eq, List.getD_eq_getElem?_getD, h]
  · simp [List.getD_eq_getElem?_getD, h]
theorem encLs_app (xs ys : List Lvl) : encLs xs ++ encLs ys = encLs (xs ++ ys) := by simp [encLs_eq]
theorem encLs_one (a : Lvl) : ([[I a.kind, I a.n, .sl 3 (encLs a.args)]] : List (List PV)) = encLs [a] := by simp [encLs, encL_eq, rowL]

theorem Param_con (n : Int) : PCon Try.prog 48 [.p (I n)] (lv ⟨4, n, []⟩) := by
  refine con_of Try.func48 rfl 5 Try.ntmps48 rfl fun cx hcx => ?_
  refine awp_seq ?_
  refine awp_region ?_
  refine x_alloc tz39_LvG rfl rfl (by rw [hcx]; rfl) rfl ?_
  refine awl_nil ?_
  change AWp _ _ _ _ _ _
  refine awp_seq ?_
  refine awp_region ?_
  refine awl_move rfl rfl ?_
  refine x_build bi39_LvG tz39_LvG rfl rfl rfl ?_
  refine awl_sub (y := lv ⟨4, n, []⟩) (Sub.agc (.cons (Sub.refl _) (.cons (Sub.refl _) (.cons Sub.nil .nil)))) ?_
  refine x_store ti39_LvG rfl rfl rfl rfl rfl rfl rfl rfl ?_
  refine awl_nil ?_
  change AWp _ _ _ _ _ _
  refine awp_ret ?_
  change Ends _ _ _ _ _ _
  refine ends1 [] rfl (.row ti39_LvG rfl rfl rfl) ?_ rfl
  exact ⟨rfl, rfl⟩
theorem Zero_con : PCon Try.prog 49 [] (lv ⟨0, 0, []⟩) := by
  refine con_of Try.func49 rfl 2 Try.ntmps49 rfl fun cx hcx => ?_
  refine awp_seq ?_
  refine awp_region ?_
  refine x_alloc tz39_LvG rfl rfl (by rw [hcx]; rfl) rfl ?_
  refine awl_nil ?_
  change AWp _ _ _ _ _ _
  refine awp_seq ?_
  refine awp_region ?_
  refine x_build bi39_LvG tz39_LvG rfl rfl rfl ?_
  refine awl_sub (y := lv ⟨0, 0, []⟩) (Sub.agc (.cons (Sub.refl _) (.cons (Sub.refl _) (.cons Sub.nil .nil)))) ?_
  refine x_store ti39_LvG rfl rfl rfl rfl rfl rfl rfl rfl ?_
  refine awl_nil ?_
  change AWp _ _ _ _ _ _
  refine awp_ret ?_
  change Ends _ _ _ _ _ _
  refine ends1 [] rfl (.row ti39_LvG rfl rfl rfl) ?_ rfl
  exact ⟨rfl, rfl⟩

theorem Put_gen (by_ : List Lvl) (hby : ∀ b ∈ by_, PCon Try.prog 42 [lv b, .p (.sl 3 [])] (lv b)) (t : Lvl) : narL t = true → PCon Try.prog 42 [lv t, .p (.sl 3 (encLs by_))] (lv (putF by_ t)) := by
  intro hpt
  have ih : ∀ a ∈ t.args, narL a = true → PCon Try.prog 42 [lv a, .p (.sl 3 (encLs by_))] (lv (putF by_ a)) := fun a ha h => Put_gen by_ hby a h
  have hlp := nar_len hpt
  have hlen := encLs_len t.args
  have hput := putF_eq by_ t
  refine con_of Try.func42 rfl 46 Try.ntmps42 rfl fun cx hcx => ?_
  refine awp_seq ?_
  refine awp_region ?_
  refine awl_box rfl rfl rfl rfl rfl (by rw [hcx]; rfl) rfl ?_
  refine x_alloc tz39_LvG rfl rfl (by rw [hcx]; rfl) rfl ?_
  refine awl_nil ?_
  change AWp _ _ _ _ _ _
  refine awp_seq ?_
  refine awp_seq ?_
  refine awp_fml 22 (t.kind = 4 ∧ 0 ≤ t.n ∧ t.n < by_.length) [(0, _), (1, _), (2, _), (4, _)] (.cons rfl (.cons rfl (.cons rfl (.cons rfl (.nil))))) ?_ ?_
  · skip
    refine awp_region ?_
    first | refine awl_fieldAddr fi39_0_LvG rfl rfl ?_ | refine awl_fieldAddr_i fi39_0_LvG rfl rfl rfl ?_
    first | refine awl_load_one ti3_LvG rfl rfl rfl rfl ?_ | refine awl_load_ione ti3_LvG rfl rfl rfl ?_
    refine awl_bin rfl rfl rfl rfl bin_eql ?_
    refine awl_move rfl rfl ?_
    first | refine awl_split_p 11 rfl (fun h1 => ?_) (fun h1 => ?_) | refine awl_split 11 rfl (fun h1 => ?_) (fun h1 => ?_)
    · skip
      refine awl_guard_yes rfl (by first | exact h1 | exact decide_eq_true h1 | exact decide_eq_false h1) rfl rfl ?_
      first | refine awl_fieldAddr fi39_1_LvG rfl rfl ?_ | refine awl_fieldAddr_i fi39_1_LvG rfl rfl rfl ?_
      refine awl_guard_yes rfl (by first | exact h1 | exact decide_eq_true h1 | exact decide_eq_false h1) rfl rfl ?_
      first | refine awl_load_one ti3_LvG rfl rfl rfl rfl ?_ | refine awl_load_ione ti3_LvG rfl rfl rfl ?_
      refine awl_guard_yes rfl (by first | exact h1 | exact decide_eq_true h1 | exact decide_eq_false h1) rfl rfl ?_
      refine awl_bin rfl rfl rfl rfl bin_geq ?_
      refine awl_pick_t (by first | exact h1 | exact decide_eq_true h1 | exact decide_eq_false h1) rfl rfl rfl ?_
      refine awl_move rfl rfl ?_
      first | refine awl_split_p 16 rfl (fun h2 => ?_) (fun h2 => ?_) | refine awl_split 16 rfl (fun h2 => ?_) (fun h2 => ?_)
      · skip
        refine awl_guard_yes rfl (by first | exact h2 | exact decide_eq_true h2 | exact decide_eq_false h2) rfl rfl ?_
        first | refine awl_fieldAddr fi39_1_LvG rfl rfl ?_ | refine awl_fieldAddr_i fi39_1_LvG rfl rfl rfl ?_
        refine awl_guard_yes rfl (by first | exact h2 | exact decide_eq_true h2 | exact decide_eq_false h2) rfl rfl ?_
        first | refine awl_load_one ti3_LvG rfl rfl rfl rfl ?_ | refine awl_load_ione ti3_LvG rfl rfl rfl ?_
        refine awl_guard_yes rfl (by first | exact h2 | exact decide_eq_true h2 | exact decide_eq_false h2) rfl rfl ?_
        refine awl_move rfl rfl ?_
        refine awl_guard_yes rfl (by first | exact h2 | exact decide_eq_true h2 | exact decide_eq_false h2) rfl rfl ?_
        refine x_len si24_LvG rfl rfl rfl (fun hlen25 => ?_)
        refine awl_guard_yes rfl (by first | exact h2 | exact decide_eq_true h2 | exact decide_eq_false h2) rfl rfl ?_
        refine awl_bin rfl rfl rfl rfl bin_lss ?_
        refine awl_pick_t (by first | exact h2 | exact decide_eq_true h2 | exact decide_eq_false h2) rfl rfl rfl ?_
        refine awl_nil ?_
        exact ⟨rfl, _, (by first | (simp; omega) | omega | (simp; done)), Le.mk (.cons rfl (Sub.refl _) (.cons rfl (Sub.refl _) (.cons rfl (Sub.refl _) (.cons rfl (Sub.refl _) (.cons rfl (Sub.refl _) .nil))))) (by repeat (first | exact .nil | refine .cons rfl rfl ?_)) rfl⟩
      · skip
        refine awl_guard_no rfl (by first | exact h2 | exact decide_eq_true h2 | exact decide_eq_false h2) rfl rfl rfl rfl ?_
        refine awl_guard_no rfl (by first | exact h2 | exact decide_eq_true h2 | exact decide_eq_false h2) rfl rfl rfl rfl ?_
        refine awl_guard_no rfl (by first | exact h2 | exact decide_eq_true h2 | exact decide_eq_false h2) rfl rfl rfl rfl ?_
        refine awl_guard_no rfl (by first | exact h2 | exact decide_eq_true h2 | exact decide_eq_false h2) rfl rfl rfl rfl ?_
        refine awl_guard_no rfl (by first | exact h2 | exact decide_eq_true h2 | exact decide_eq_false h2) rfl rfl rfl rfl ?_
        refine awl_pick_f (by first | exact h2 | exact decide_eq_true h2 | exact decide_eq_false h2) rfl rfl rfl ?_
        refine awl_nil ?_
        exact ⟨rfl, _, (by first | (simp; omega) | omega | (simp; done)), Le.mk (.cons rfl (Sub.refl _) (.cons rfl (Sub.refl _) (.cons rfl (Sub.refl _) (.cons rfl (Sub.refl _) (.cons rfl (Sub.refl _) .nil))))) (by repeat (first | exact .nil | refine .cons rfl rfl ?_)) rfl⟩
    · skip
      refine awl_guard_no rfl (by first | exact h1 | exact decide_eq_true h1 | exact decide_eq_false h1) rfl rfl rfl rfl ?_
      refine awl_guard_no rfl (by first | exact h1 | exact decide_eq_true h1 | exact decide_eq_false h1) rfl rfl rfl rfl ?_
      refine awl_guard_no rfl (by first | exact h1 | exact decide_eq_true h1 | exact decide_eq_false h1) rfl rfl rfl rfl ?_
      refine awl_pick_f (by first | exact h1 | exact decide_eq_true h1 | exact decide_eq_false h1) rfl rfl rfl ?_
      refine awl_move rfl rfl ?_
      refine awl_guard_no rfl rfl rfl rfl rfl rfl ?_
      refine awl_guard_no rfl rfl rfl rfl rfl rfl ?_
      refine awl_guard_no rfl rfl rfl rfl rfl rfl ?_
      refine awl_guard_no rfl rfl rfl rfl rfl rfl ?_
      refine awl_guard_no rfl rfl rfl rfl rfl rfl ?_
      refine awl_pick_f rfl rfl rfl rfl ?_
      refine awl_nil ?_
      exact ⟨rfl, _, (by first | (simp; omega) | omega | (simp; done)), Le.mk (.cons rfl (Sub.refl _) (.cons rfl (Sub.refl _) (.cons rfl (Sub.refl _) (.cons rfl (Sub.refl _) (.cons rfl (Sub.refl _) .nil))))) (by repeat (first | exact .nil | refine .cons rfl rfl ?_)) rfl⟩
  change AWp _ _ _ _ _ _
  first | refine awp_cond_p rfl (fun hp => ?_) (fun hp => ?_) | refine awp_cond rfl (fun hp => ?_) (fun hp => ?_)
  · skip
    obtain ⟨hrow, hmem⟩ := row_get hp.2.1 hp.2.2
    generalize hb : by_.getD t.n.toNat ⟨0, 0, []⟩ = b at hrow hmem hput
    refine awp_seq ?_
    refine awp_region ?_
    refine awl_move rfl rfl ?_
    first | refine awl_fieldAddr fi39_1_LvG rfl rfl ?_ | refine awl_fieldAddr_i fi39_1_LvG rfl rfl rfl ?_
    first | refine awl_load_one ti3_LvG rfl rfl rfl rfl ?_ | refine awl_load_ione ti3_LvG rfl rfl rfl ?_
    refine x_index si24_LvG ti39_LvG rfl rfl rfl rfl (by omega) (by first | omega | (simp only [List.length_map]; omega) | (simp; omega)) hrow rfl ?_
    first | refine awl_load_row ti39_LvG rfl rfl rfl rfl ?_ | refine x_irow ti39_LvG rfl rfl rfl rfl ?_
    refine awl_pcall fb42_LvG rfl (hby b hmem) (.cons (by first | exact Sub.refl _ | exact Sub.ts | exact Sub.nil | exact Sub.agc (by repeat (first | exact .nil | refine .cons (by first | exact Sub.refl _ | exact Sub.nil) ?_))) (.cons (by first | exact Sub.refl _ | exact Sub.ts | exact Sub.nil | exact Sub.agc (by repeat (first | exact .nil | refine .cons (by first | exact Sub.refl _ | exact Sub.nil) ?_))) .nil)) rfl ?_
    refine x_store ti39_LvG rfl rfl rfl rfl rfl rfl rfl rfl ?_
    refine awl_nil ?_
    change AWp _ _ _ _ _ _
    refine awp_ret ?_
    change Ends _ _ _ _ _ _
    refine ends1 [] rfl (.row ti39_LvG rfl rfl rfl) ?_ rfl
    rw [hput, if_pos hp]; exact ⟨rfl, rfl⟩
  · skip
    refine awp_skip ?_
    change AWp _ _ _ _ _ _
    refine awp_seq ?_
    refine awp_region ?_
    refine awl_assign rfl rfl ?_
    refine awl_nil ?_
    change AWp _ _ _ _ _ _
    refine awp_seq ?_
    refine awp_seq ?_
    refine awp_region ?_
    first | refine awl_fieldAddr fi39_2_LvG rfl rfl ?_ | refine awl_fieldAddr_i fi39_2_LvG rfl rfl rfl ?_
    first | refine awl_load_one ti24_LvG rfl rfl rfl rfl ?_ | refine awl_load_ione ti24_LvG rfl rfl rfl ?_
    refine x_len si24_LvG rfl rfl rfl (fun hlen58 => ?_)
    refine awl_move rfl rfl ?_
    refine awl_nil ?_
    change AWp _ _ _ _ _ _
    refine awp_block ?_
    refine x_loop [(1, _), (2, _), (4, _), (30, _), (31, _)] [(4, _), (2, _)] (fun x : Nat × List Lvl × List Lvl => [(32, .p (I x.1)), (5, .ts 500 3 (encLs x.2.2))]) (fun x => [(500, .ar 39 3 (encLs x.2.2).length)]) (fun x => t.args.drop x.1 = x.2.1 ∧ x.2.2.length = x.1 ∧ putFs by_ t.args = x.2.2 ++ putFs by_ x.2.1) (fun x => x.2.1.length) (0, t.args, []) (Le.trans (Le.tok 5 500 39 3 rfl rfl (by rw [hcx]; rfl)) (Le.mk (.cons rfl (by first | exact Sub.refl _ | exact Sub.ts | exact Sub.nil | (refine Sub.eq ?_; first | (simp; done) | (simp; omega) | (rw [encLs_app]))) (.cons rfl (by first | exact Sub.refl _ | exact Sub.ts | exact Sub.nil | (refine Sub.eq ?_; first | (simp; done) | (simp; omega) | (rw [encLs_app]))) (.cons rfl (by first | exact Sub.refl _ | exact Sub.ts | exact Sub.nil | (refine Sub.eq ?_; first | (simp; done) | (simp; omega) | (rw [encLs_app]))) (.cons rfl (by first | exact Sub.refl _ | exact Sub.ts | exact Sub.nil | (refine Sub.eq ?_; first | (simp; done) | (simp; omega) | (rw [encLs_app]))) (.cons rfl (by first | exact Sub.refl _ | exact Sub.ts | exact Sub.nil | (refine Sub.eq ?_; first | (simp; done) | (simp; omega) | (rw [encLs_app]))) (.cons rfl (by first | exact Sub.refl _ | exact Sub.ts | exact Sub.nil | (refine Sub.eq ?_; first | (simp; done) | (simp; omega) | (rw [encLs_app]))) (.cons rfl (by first | exact Sub.refl _ | exact Sub.ts | exact Sub.nil | (refine Sub.eq ?_; first | (simp; done) | (simp; omega) | (rw [encLs_app]))) (.nil)))))))) (.cons rfl (by first | rfl | (simp; done) | (rw [← encLs_app]; simp; done)) (.cons rfl (by first | rfl | (simp; done) | (rw [← encLs_app]; simp; done)) (.cons rfl (by first | rfl | (simp; done) | (rw [← encLs_app]; simp; done)) (.nil)))) rfl)) ⟨rfl, rfl, rfl⟩ (fun x hx => ?_)
    obtain ⟨i, r, xs⟩ := x
    obtain ⟨hd, hxl, hsp⟩ := hx
    simp only at hd hxl hsp
    dsimp only [List.cons_append, List.nil_append]
    refine awp_seq ?_
    refine awp_region ?_
    refine awl_bin rfl rfl rfl rfl bin_lss ?_
    refine awl_nil ?_
    change AWp _ _ _ _ _ _
    refine awp_seq ?_
    first | refine awp_cond_p rfl (fun hi => ?_) (fun hi => ?_) | refine awp_cond rfl (fun hi => ?_) (fun hi => ?_)
    · skip
      obtain ⟨a, r', rfl⟩ := drop_ne hd (by simp at hi; omega)
      have hrow := rowL_at hd
      have hdl := drop_lt hd
      refine awp_skip ?_
      change AWp _ _ _ _ _ _
      refine awp_seq ?_
      refine awp_block ?_
      refine awp_seq ?_
      refine awp_region ?_
      refine x_index si24_LvG ti39_LvG rfl rfl rfl rfl (by omega) (by first | omega | (simp only [List.length_map]; omega) | (simp; omega)) hrow rfl ?_
      first | refine awl_load_row ti39_LvG rfl rfl rfl rfl ?_ | refine x_irow ti39_LvG rfl rfl rfl rfl ?_
      refine x_alloc tz39_LvG rfl rfl (by rw [hcx]; rfl) rfl ?_
      refine x_store ti39_LvG rfl rfl rfl rfl rfl rfl rfl rfl ?_
      refine awl_nil ?_
      change AWp _ _ _ _ _ _
      refine awp_region ?_
      refine awl_move rfl rfl ?_
      first | refine awl_load_row ti39_LvG rfl rfl rfl rfl ?_ | refine x_irow ti39_LvG rfl rfl rfl rfl ?_
      refine awl_move rfl rfl ?_
      refine awl_pcall fb42_LvG rfl (ih a (drop_mem hd) (nar_mem hpt (drop_mem hd))) (.cons (by first | exact Sub.refl _ | exact Sub.ts | exact Sub.nil | exact Sub.agc (by repeat (first | exact .nil | refine .cons (by first | exact Sub.refl _ | exact Sub.nil) ?_))) (.cons (by first | exact Sub.refl _ | exact Sub.ts | exact Sub.nil | exact Sub.agc (by repeat (first | exact .nil | refine .cons (by first | exact Sub.refl _ | exact Sub.nil) ?_))) .nil)) rfl ?_
      refine x_slice si24_LvG ei39_LvG rfl rfl rfl rfl ?_
      refine awl_sub (y := .p (.sl 3 (encLs [putF by_ a]))) (Sub.eq (by rw [← encLs_one])) ?_
      first | refine x_append si24_LvG ei39_LvG rfl rfl (by first | rfl | simp) rfl rfl rfl (.inl rfl) rfl rfl (by simp; omega) (by simp; omega) ?_ | refine awl_append_nil si24_LvG ei39_LvG rfl rfl (by rw [hcx]; rfl) rfl rfl rfl (.inl rfl) (by simp; omega) (by simp; omega) rfl ?_
      refine awl_assign rfl rfl ?_
      refine awl_nil ?_
      change AWp _ _ _ _ _ _
      refine awp_region ?_
      first | refine awl_bin rfl rfl rfl rfl (bin_add_i (by omega)) ?_ | refine awl_bin rfl rfl rfl rfl bin_add ?_
      refine awl_move rfl rfl ?_
      refine awl_nil ?_
      change ∃ x', _
      refine ⟨(i + 1, r', xs ++ [putF by_ a]), ⟨drop_next hd, by simp [hxl], by rw [hsp]; simp [putFs]⟩, by simp, (Le.mk (.cons rfl (by first | exact Sub.refl _ | exact Sub.ts | exact Sub.nil | (refine Sub.eq ?_; first | (simp; done) | (simp; omega) | (rw [encLs_app]))) (.cons rfl (by first | exact Sub.refl _ | exact Sub.ts | exact Sub.nil | (refine Sub.eq ?_; first | (simp; done) | (simp; omega) | (rw [encLs_app]))) (.cons rfl (by first | exact Sub.refl _ | exact Sub.ts | exact Sub.nil | (refine Sub.eq ?_; first | (simp; done) | (simp; omega) | (rw [encLs_app]))) (.cons rfl (by first | exact Sub.refl _ | exact Sub.ts | exact Sub.nil | (refine Sub.eq ?_; first | (simp; done) | (simp; omega) | (rw [encLs_app]))) (.cons rfl (by first | exact Sub.refl _ | exact Sub.ts | exact Sub.nil | (refine Sub.eq ?_; first | (simp; done) | (simp; omega) | (rw [encLs_app]))) (.cons rfl (by first | exact Sub.refl _ | exact Sub.ts | exact Sub.nil | (refine Sub.eq ?_; first | (simp; done) | (simp; omega) | (rw [encLs_app]))) (.cons rfl (by first | exact Sub.refl _ | exact Sub.ts | exact Sub.nil | (refine Sub.eq ?_; first | (simp; done) | (simp; omega) | (rw [encLs_app]))) (.nil)))))))) (.cons rfl (by first | rfl | (simp; done) | (rw [← encLs_app]; simp; done)) (.cons rfl (by first | rfl | (simp; done) | (rw [← encLs_app]; simp; done)) (.cons rfl (by first | rfl | (simp; done) | (rw [← encLs_app]; simp; done)) (.nil)))) rfl)⟩
    · skip
      refine awp_exit ?_
      change AWp _ _ _ _ _ _
      refine awp_seq ?_
      refine awp_region ?_
      refine awl_move rfl rfl ?_
      refine awl_sub Sub.ts ?_
      first | refine awl_fieldAddr fi39_2_LvG rfl rfl ?_ | refine awl_fieldAddr_i fi39_2_LvG rfl rfl rfl ?_
      refine x_store ti24_LvG rfl rfl rfl rfl rfl rfl rfl rfl ?_
      refine awl_nil ?_
      change AWp _ _ _ _ _ _
      refine awp_seq ?_
      refine awp_region ?_
      first | refine awl_load_row ti39_LvG rfl rfl rfl rfl ?_ | refine x_irow ti39_LvG rfl rfl rfl rfl ?_
      refine x_store ti39_LvG rfl rfl rfl rfl rfl rfl rfl rfl ?_
      refine awl_nil ?_
      change AWp _ _ _ _ _ _
      refine awp_ret ?_
      change Ends _ _ _ _ _ _
      refine ends1 [] rfl (.row ti39_LvG rfl rfl rfl) ?_ rfl
      rw [hput, if_neg hp]; obtain rfl := drop_end hd (by simp at hi; omega); rw [hsp]; simp only [putFs, List.append_nil]; exact ⟨rfl, rfl⟩
termination_by SizeOf.sizeOf t
decreasing_by exact Lvl.lt ha

theorem PutNil_con (t : Lvl) (h : narL t = true) : PCon Try.prog 42 [lv t, .p (.sl 3 [])] (lv t) := by
  have := Put_gen [] (fun b hb => by cases hb) t h
  rw [putF_nil] at this
  exact this
theorem Put_con (by_ : List Lvl) (hby : ∀ b ∈ by_, narL b = true) (t : Lvl) (h : narL t = true) : PCon Try.prog 42 [lv t, .p (.sl 3 (encLs by_))] (lv (putF by_ t)) :=
  Put_gen by_ (fun b hb => PutNil_con b (hby b hb)) t h

theorem rPut_gen (by_ : List Lvl) (hby : ∀ b ∈ by_, PCon Try.prog 59 [lv b] (lv b)) (t : Lvl) : narL t = true → PCon Try.prog 43 [lv t, .p (.sl 3 (encLs by_))] (lv (putF by_ t)) := by
  intro hpt
  have ih : ∀ a ∈ t.args, narL a = true → PCon Try.prog 43 [lv a, .p (.sl 3 (encLs by_))] (lv (putF by_ a)) := fun a ha h => rPut_gen by_ hby a h
  have hlp := nar_len hpt
  have hlen := encLs_len t.args
  have hput := putF_eq by_ t
  refine con_of Try.func43 rfl 53 Try.ntmps43 rfl fun cx hcx => ?_
  refine awp_seq ?_
  refine awp_region ?_
  refine awl_box rfl rfl rfl rfl rfl (by rw [hcx]; rfl) rfl ?_
  refine x_alloc tz39_LvG rfl rfl (by rw [hcx]; rfl) rfl ?_
  refine awl_nil ?_
  change AWp _ _ _ _ _ _
  refine awp_seq ?_
  refine awp_seq ?_
  refine awp_fml 21 (t.kind = 4 ∧ 0 ≤ t.n ∧ t.n < by_.length) [(0, _), (1, _), (2, _), (4, _)] (.cons rfl (.cons rfl (.cons rfl (.cons rfl (.nil))))) ?_ ?_
  · skip
    refine awp_region ?_
    first | refine awl_fieldAddr fi39_0_LvG rfl rfl ?_ | refine awl_fieldAddr_i fi39_0_LvG rfl rfl rfl ?_
    first | refine awl_load_one ti3_LvG rfl rfl rfl rfl ?_ | refine awl_load_ione ti3_LvG rfl rfl rfl ?_
    refine awl_bin rfl rfl rfl rfl bin_eql ?_
    refine awl_move rfl rfl ?_
    first | refine awl_split_p 10 rfl (fun h1 => ?_) (fun h1 => ?_) | refine awl_split 10 rfl (fun h1 => ?_) (fun h1 => ?_)
    · skip
      refine awl_guard_yes rfl (by first | exact h1 | exact decide_eq_true h1 | exact decide_eq_false h1) rfl rfl ?_
      first | refine awl_fieldAddr fi39_1_LvG rfl rfl ?_ | refine awl_fieldAddr_i fi39_1_LvG rfl rfl rfl ?_
      refine awl_guard_yes rfl (by first | exact h1 | exact decide_eq_true h1 | exact decide_eq_false h1) rfl rfl ?_
      first | refine awl_load_one ti3_LvG rfl rfl rfl rfl ?_ | refine awl_load_ione ti3_LvG rfl rfl rfl ?_
      refine awl_guard_yes rfl (by first | exact h1 | exact decide_eq_true h1 | exact decide_eq_false h1) rfl rfl ?_
      refine awl_bin rfl rfl rfl rfl bin_geq ?_
      refine awl_pick_t (by first | exact h1 | exact decide_eq_true h1 | exact decide_eq_false h1) rfl rfl rfl ?_
      refine awl_move rfl rfl ?_
      first | refine awl_split_p 15 rfl (fun h2 => ?_) (fun h2 => ?_) | refine awl_split 15 rfl (fun h2 => ?_) (fun h2 => ?_)
      · skip
        refine awl_guard_yes rfl (by first | exact h2 | exact decide_eq_true h2 | exact decide_eq_false h2) rfl rfl ?_
        first | refine awl_fieldAddr fi39_1_LvG rfl rfl ?_ | refine awl_fieldAddr_i fi39_1_LvG rfl rfl rfl ?_
        refine awl_guard_yes rfl (by first | exact h2 | exact decide_eq_true h2 | exact decide_eq_false h2) rfl rfl ?_
        first | refine awl_load_one ti3_LvG rfl rfl rfl rfl ?_ | refine awl_load_ione ti3_LvG rfl rfl rfl ?_
        refine awl_guard_yes rfl (by first | exact h2 | exact decide_eq_true h2 | exact decide_eq_false h2) rfl rfl ?_
        refine awl_move rfl rfl ?_
        refine awl_guard_yes rfl (by first | exact h2 | exact decide_eq_true h2 | exact decide_eq_false h2) rfl rfl ?_
        refine x_len si24_LvG rfl rfl rfl (fun hlen25 => ?_)
        refine awl_guard_yes rfl (by first | exact h2 | exact decide_eq_true h2 | exact decide_eq_false h2) rfl rfl ?_
        refine awl_bin rfl rfl rfl rfl bin_lss ?_
        refine awl_pick_t (by first | exact h2 | exact decide_eq_true h2 | exact decide_eq_false h2) rfl rfl rfl ?_
        refine awl_nil ?_
        exact ⟨rfl, _, (by first | (simp; omega) | omega | (simp; done)), Le.mk (.cons rfl (Sub.refl _) (.cons rfl (Sub.refl _) (.cons rfl (Sub.refl _) (.cons rfl (Sub.refl _) (.cons rfl (Sub.refl _) .nil))))) (by repeat (first | exact .nil | refine .cons rfl rfl ?_)) rfl⟩
      · skip
        refine awl_guard_no rfl (by first | exact h2 | exact decide_eq_true h2 | exact decide_eq_false h2) rfl rfl rfl rfl ?_
        refine awl_guard_no rfl (by first | exact h2 | exact decide_eq_true h2 | exact decide_eq_false h2) rfl rfl rfl rfl ?_
        refine awl_guard_no rfl (by first | exact h2 | exact decide_eq_true h2 | exact decide_eq_false h2) rfl rfl rfl rfl ?_
        refine awl_guard_no rfl (by first | exact h2 | exact decide_eq_true h2 | exact decide_eq_false h2) rfl rfl rfl rfl ?_
        refine awl_guard_no rfl (by first | exact h2 | exact decide_eq_true h2 | exact decide_eq_false h2) rfl rfl rfl rfl ?_
        refine awl_pick_f (by first | exact h2 | exact decide_eq_true h2 | exact decide_eq_false h2) rfl rfl rfl ?_
        refine awl_nil ?_
        exact ⟨rfl, _, (by first | (simp; omega) | omega | (simp; done)), Le.mk (.cons rfl (Sub.refl _) (.cons rfl (Sub.refl _) (.cons rfl (Sub.refl _) (.cons rfl (Sub.refl _) (.cons rfl (Sub.refl _) .nil))))) (by repeat (first | exact .nil | refine .cons rfl rfl ?_)) rfl⟩
    · skip
      refine awl_guard_no rfl (by first | exact h1 | exact decide_eq_true h1 | exact decide_eq_false h1) rfl rfl rfl rfl ?_
      refine awl_guard_no rfl (by first | exact h1 | exact decide_eq_true h1 | exact decide_eq_false h1) rfl rfl rfl rfl ?_
      refine awl_guard_no rfl (by first | exact h1 | exact decide_eq_true h1 | exact decide_eq_false h1) rfl rfl rfl rfl ?_
      refine awl_pick_f (by first | exact h1 | exact decide_eq_true h1 | exact decide_eq_false h1) rfl rfl rfl ?_
      refine awl_move rfl rfl ?_
      refine awl_guard_no rfl rfl rfl rfl rfl rfl ?_
      refine awl_guard_no rfl rfl rfl rfl rfl rfl ?_
      refine awl_guard_no rfl rfl rfl rfl rfl rfl ?_
      refine awl_guard_no rfl rfl rfl rfl rfl rfl ?_
      refine awl_guard_no rfl rfl rfl rfl rfl rfl ?_
      refine awl_pick_f rfl rfl rfl rfl ?_
      refine awl_nil ?_
      exact ⟨rfl, _, (by first | (simp; omega) | omega | (simp; done)), Le.mk (.cons rfl (Sub.refl _) (.cons rfl (Sub.refl _) (.cons rfl (Sub.refl _) (.cons rfl (Sub.refl _) (.cons rfl (Sub.refl _) .nil))))) (by repeat (first | exact .nil | refine .cons rfl rfl ?_)) rfl⟩
  change AWp _ _ _ _ _ _
  first | refine awp_cond_p rfl (fun hp => ?_) (fun hp => ?_) | refine awp_cond rfl (fun hp => ?_) (fun hp => ?_)
  · skip
    obtain ⟨hrow, hmem⟩ := row_get hp.2.1 hp.2.2
    generalize hb : by_.getD t.n.toNat ⟨0, 0, []⟩ = b at hrow hmem hput
    refine awp_seq ?_
    refine awp_region ?_
    refine awl_move rfl rfl ?_
    first | refine awl_fieldAddr fi39_1_LvG rfl rfl ?_ | refine awl_fieldAddr_i fi39_1_LvG rfl rfl rfl ?_
    first | refine awl_load_one ti3_LvG rfl rfl rfl rfl ?_ | refine awl_load_ione ti3_LvG rfl rfl rfl ?_
    refine x_index si24_LvG ti39_LvG rfl rfl rfl rfl (by omega) (by first | omega | (simp only [List.length_map]; omega) | (simp; omega)) hrow rfl ?_
    first | refine awl_load_row ti39_LvG rfl rfl rfl rfl ?_ | refine x_irow ti39_LvG rfl rfl rfl rfl ?_
    refine awl_pcall fb59_LvG rfl (hby b hmem) (.cons (by first | exact Sub.refl _ | exact Sub.ts | exact Sub.nil | exact Sub.agc (by repeat (first | exact .nil | refine .cons (by first | exact Sub.refl _ | exact Sub.nil) ?_))) .nil) rfl ?_
    refine x_store ti39_LvG rfl rfl rfl rfl rfl rfl rfl rfl ?_
    refine awl_nil ?_
    change AWp _ _ _ _ _ _
    refine awp_ret ?_
    change Ends _ _ _ _ _ _
    refine ends1 [] rfl (.row ti39_LvG rfl rfl rfl) ?_ rfl
    rw [hput, if_pos hp]; exact ⟨rfl, rfl⟩
  · skip
    refine awp_skip ?_
    change AWp _ _ _ _ _ _
    refine awp_seq ?_
    refine awp_region ?_
    first | refine awl_fieldAddr fi39_0_LvG rfl rfl ?_ | refine awl_fieldAddr_i fi39_0_LvG rfl rfl rfl ?_
    first | refine awl_load_one ti3_LvG rfl rfl rfl rfl ?_ | refine awl_load_ione ti3_LvG rfl rfl rfl ?_
    first | refine awl_fieldAddr fi39_1_LvG rfl rfl ?_ | refine awl_fieldAddr_i fi39_1_LvG rfl rfl rfl ?_
    first | refine awl_load_one ti3_LvG rfl rfl rfl rfl ?_ | refine awl_load_ione ti3_LvG rfl rfl rfl ?_
    refine x_build bi39_LvG tz39_LvG rfl rfl rfl ?_
    refine x_alloc tz39_LvG rfl rfl (by rw [hcx]; rfl) rfl ?_
    refine x_store ti39_LvG rfl rfl rfl rfl rfl rfl rfl rfl ?_
    refine awl_nil ?_
    change AWp _ _ _ _ _ _
    refine awp_seq ?_
    refine awp_seq ?_
    refine awp_region ?_
    refine awl_assign rfl rfl ?_
    refine awl_nil ?_
    change AWp _ _ _ _ _ _
    refine awp_block ?_
    refine x_loop [(1, _), (2, _), (4, _), (5, _)] [(4, _), (2, _)] (fun x : Nat × List Lvl × List Lvl => [(6, .p (I x.1))]) (fun x => [(500, .ar 39 3 (encLs x.2.2).length), (5, .ce 39 [.p (I t.kind), .p (I t.n), .ts 500 3 (encLs x.2.2)])]) (fun x => t.args.drop x.1 = x.2.1 ∧ x.2.2.length = x.1 ∧ putFs by_ t.args = x.2.2 ++ putFs by_ x.2.1) (fun x => x.2.1.length) (0, t.args, []) (Le.trans (Le.tokO (k0 := 5) (j := 2) 500 39 3 rfl rfl rfl rfl rfl (by rw [hcx]; rfl)) (Le.mk (.cons rfl (by first | exact Sub.refl _ | exact Sub.ts | exact Sub.nil | (refine Sub.eq ?_; first | (simp; done) | (simp; omega) | (rw [encLs_app]))) (.cons rfl (by first | exact Sub.refl _ | exact Sub.ts | exact Sub.nil | (refine Sub.eq ?_; first | (simp; done) | (simp; omega) | (rw [encLs_app]))) (.cons rfl (by first | exact Sub.refl _ | exact Sub.ts | exact Sub.nil | (refine Sub.eq ?_; first | (simp; done) | (simp; omega) | (rw [encLs_app]))) (.cons rfl (by first | exact Sub.refl _ | exact Sub.ts | exact Sub.nil | (refine Sub.eq ?_; first | (simp; done) | (simp; omega) | (rw [encLs_app]))) (.cons rfl (by first | exact Sub.refl _ | exact Sub.ts | exact Sub.nil | (refine Sub.eq ?_; first | (simp; done) | (simp; omega) | (rw [encLs_app]))) (.nil)))))) (.cons rfl (by first | rfl | (simp; done) | (rw [← encLs_app]; simp; done) | (rw [encLs_app])) (.cons rfl (by first | rfl | (simp; done) | (rw [← encLs_app]; simp; done) | (rw [encLs_app])) (.cons rfl (by first | rfl | (simp; done) | (rw [← encLs_app]; simp; done) | (rw [encLs_app])) (.cons rfl (by first | rfl | (simp; done) | (rw [← encLs_app]; simp; done) | (rw [encLs_app])) (.nil))))) rfl)) ⟨rfl, rfl, rfl⟩ (fun x hx => ?_)
    obtain ⟨i, r, xs⟩ := x
    obtain ⟨hd, hxl, hsp⟩ := hx
    simp only at hd hxl hsp
    dsimp only [List.cons_append, List.nil_append]
    refine awp_seq ?_
    refine awp_seq ?_
    refine awp_region ?_
    refine awl_move rfl rfl ?_
    first | refine awl_fieldAddr fi39_2_LvG rfl rfl ?_ | refine awl_fieldAddr_i fi39_2_LvG rfl rfl rfl ?_
    first | refine awl_load_one ti24_LvG rfl rfl rfl rfl ?_ | refine awl_load_ione ti24_LvG rfl rfl rfl ?_
    refine x_len si24_LvG rfl rfl rfl (fun hlen65 => ?_)
    refine awl_bin rfl rfl rfl rfl bin_lss ?_
    refine awl_nil ?_
    change AWp _ _ _ _ _ _
    first | refine awp_cond_p rfl (fun hi => ?_) (fun hi => ?_) | refine awp_cond rfl (fun hi => ?_) (fun hi => ?_)
    · skip
      obtain ⟨a, r', rfl⟩ := drop_ne hd (by simp at hi; omega)
      have hrow := rowL_at hd
      have hdl := drop_lt hd
      refine awp_skip ?_
      change AWp _ _ _ _ _ _
      refine awp_seq ?_
      refine awp_block ?_
      apply awp_drawS [10, 12] [10, 12] [] ((fun (B : Obs) => oget [([], B), ([10], _), ([10, 12], _)]) _)
      · rfl
      · rfl
      · exact hmo_LvG
      · kernel_rfl
      · rfl
      refine awd_s [[]] [(5, _)] (.cons rfl (.nil)) rfl rfl rfl (by kernel_rfl) ?_
      apply Exists.intro
      refine ⟨(⟨fun regs' => ?_, trivial⟩), ?_, ?_⟩
      · skip
        first | refine awl_fieldAddr fi39_2_LvG rfl rfl ?_ | refine awl_fieldAddr_i fi39_2_LvG rfl rfl rfl ?_
        exact awl_doneS rfl rfl
      · kernel_rfl
      refine awd_s [[]] [(40, _)] (.cons rfl (.nil)) rfl rfl rfl (by kernel_rfl) ?_
      apply Exists.intro
      refine ⟨(⟨fun regs' => ?_, trivial⟩), ?_, ?_⟩
      · skip
        first | refine awl_load_one ti24_LvG rfl rfl rfl rfl ?_ | refine awl_load_ione ti24_LvG rfl rfl rfl ?_
        exact awl_doneS rfl rfl
      · kernel_rfl
      refine awd_s [[]] [(2, _)] (.cons rfl (.nil)) rfl rfl rfl (by kernel_rfl) ?_
      apply Exists.intro
      refine ⟨(⟨fun regs' => ?_, trivial⟩), ?_, ?_⟩
      · skip
        first | refine awl_fieldAddr fi39_2_LvG rfl rfl ?_ | refine awl_fieldAddr_i fi39_2_LvG rfl rfl rfl ?_
        exact awl_doneS rfl rfl
      · kernel_rfl
      refine awd_s [[]] [(42, _)] (.cons rfl (.nil)) rfl rfl rfl (by kernel_rfl) ?_
      apply Exists.intro
      refine ⟨(⟨fun regs' => ?_, trivial⟩), ?_, ?_⟩
      · skip
        first | refine awl_load_one ti24_LvG rfl rfl rfl rfl ?_ | refine awl_load_ione ti24_LvG rfl rfl rfl ?_
        exact awl_doneS rfl rfl
      · kernel_rfl
      refine awd_s [[]] [(6, _)] (.cons rfl (.nil)) rfl rfl rfl (by kernel_rfl) ?_
      apply Exists.intro
      refine ⟨(⟨fun regs' => ?_, trivial⟩), ?_, ?_⟩
      · skip
        refine awl_move rfl rfl ?_
        exact awl_doneS rfl rfl
      · kernel_rfl
      refine awd_s [[]] [(43, _), (44, _)] (.cons rfl (.cons rfl (.nil))) rfl rfl rfl (by kernel_rfl) ?_
      apply Exists.intro
      refine ⟨(⟨fun regs' => ?_, trivial⟩), ?_, ?_⟩
      · skip
        refine x_index si24_LvG ti39_LvG rfl rfl rfl rfl (by omega) (by first | omega | (simp only [List.length_map]; omega) | (simp; omega)) hrow rfl ?_
        exact awl_doneS rfl rfl
      · kernel_rfl
      refine awd_s [[]] [(45, _)] (.cons rfl (.nil)) rfl rfl rfl (by kernel_rfl) ?_
      apply Exists.intro
      refine ⟨(⟨fun regs' => ?_, trivial⟩), ?_, ?_⟩
      · skip
        first | refine awl_load_row ti39_LvG rfl rfl rfl rfl ?_ | refine x_irow ti39_LvG rfl rfl rfl rfl ?_
        exact awl_doneS rfl rfl
      · kernel_rfl
      refine awd_s [[]] [(1, _)] (.cons rfl (.nil)) rfl rfl rfl (by kernel_rfl) ?_
      apply Exists.intro
      refine ⟨(⟨fun regs' => ?_, trivial⟩), ?_, ?_⟩
      · skip
        refine awl_move rfl rfl ?_
        exact awl_doneS rfl rfl
      · kernel_rfl
      refine awd_s [[]] [(46, _), (47, _)] (.cons rfl (.cons rfl (.nil))) rfl rfl rfl (by kernel_rfl) ?_
      apply Exists.intro
      refine ⟨(⟨fun regs' => ?_, trivial⟩), ?_, ?_⟩
      · skip
        refine awl_pcall fb43_LvG rfl (ih a (drop_mem hd) (nar_mem hpt (drop_mem hd))) (.cons (by first | exact Sub.refl _ | exact Sub.ts | exact Sub.nil | exact Sub.agc (by repeat (first | exact .nil | refine .cons (by first | exact Sub.refl _ | exact Sub.nil) ?_))) (.cons (by first | exact Sub.refl _ | exact Sub.ts | exact Sub.nil | exact Sub.agc (by repeat (first | exact .nil | refine .cons (by first | exact Sub.refl _ | exact Sub.nil) ?_))) .nil)) rfl ?_
        exact awl_doneS rfl rfl
      · kernel_rfl
      refine awd_s [[]] [(48, _)] (.cons rfl (.nil)) rfl rfl rfl (by kernel_rfl) ?_
      apply Exists.intro
      refine ⟨(⟨fun regs' => ?_, trivial⟩), ?_, ?_⟩
      · skip
        refine x_slice si24_LvG ei39_LvG rfl rfl rfl rfl ?_
        refine awl_sub (y := .p (.sl 3 (encLs [putF by_ a]))) (Sub.eq (by rw [← encLs_one])) ?_
        exact awl_doneS rfl rfl
      · kernel_rfl
      refine awd_e [] rfl rfl rfl (by kernel_rfl) rfl rfl ?_
      apply Exists.intro
      refine ⟨?_, ?_, ?_⟩
      · skip
        first | refine x_append si24_LvG ei39_LvG rfl rfl (by first | rfl | simp) rfl rfl rfl (.inl rfl) rfl rfl (by simp; omega) (by simp; omega) ?_ | refine awl_append_nil si24_LvG ei39_LvG rfl rfl (by rw [hcx]; rfl) rfl rfl rfl (.inl rfl) (by simp; omega) (by simp; omega) rfl ?_
        exact awl_done rfl
      · kernel_rfl
      refine awd_s [[10]] [(5, _)] (.cons rfl (.nil)) rfl rfl rfl (by kernel_rfl) ?_
      apply Exists.intro
      refine ⟨(⟨fun regs' => ?_, trivial⟩), ?_, ?_⟩
      · skip
        first | refine awl_fieldAddr fi39_2_LvG rfl rfl ?_ | refine awl_fieldAddr_i fi39_2_LvG rfl rfl rfl ?_
        exact awl_doneS rfl rfl
      · kernel_rfl
      refine awd_e [10] rfl rfl rfl (by kernel_rfl) rfl rfl ?_
      refine ⟨.any, ?_⟩
      refine ⟨?_, ?_, ?_⟩
      · skip
        refine x_store ti24_LvG rfl rfl rfl rfl rfl rfl rfl rfl ?_
        exact awl_done rfl
      · kernel_rfl
      refine awd_endS ?_
      try dsimp only [putd]
      change AWp _ _ _ _ _ _
      refine awp_region ?_
      refine awl_move rfl rfl ?_
      first | refine awl_bin rfl rfl rfl rfl (bin_add_i (by omega)) ?_ | refine awl_bin rfl rfl rfl rfl bin_add ?_
      refine awl_assign rfl rfl ?_
      refine awl_nil ?_
      change ∃ x', _
      refine ⟨(i + 1, r', xs ++ [putF by_ a]), ⟨drop_next hd, by simp [hxl], by rw [hsp]; simp [putFs]⟩, by simp, (Le.mk (.cons rfl (by first | exact Sub.refl _ | exact Sub.ts | exact Sub.nil | (refine Sub.eq ?_; first | (simp; done) | (simp; omega) | (rw [encLs_app]))) (.cons rfl (by first | exact Sub.refl _ | exact Sub.ts | exact Sub.nil | (refine Sub.eq ?_; first | (simp; done) | (simp; omega) | (rw [encLs_app]))) (.cons rfl (by first | exact Sub.refl _ | exact Sub.ts | exact Sub.nil | (refine Sub.eq ?_; first | (simp; done) | (simp; omega) | (rw [encLs_app]))) (.cons rfl (by first | exact Sub.refl _ | exact Sub.ts | exact Sub.nil | (refine Sub.eq ?_; first | (simp; done) | (simp; omega) | (rw [encLs_app]))) (.cons rfl (by first | exact Sub.refl _ | exact Sub.ts | exact Sub.nil | (refine Sub.eq ?_; first | (simp; done) | (simp; omega) | (rw [encLs_app]))) (.nil)))))) (.cons rfl (by first | rfl | (simp; done) | (rw [← encLs_app]; simp; done) | (rw [encLs_app])) (.cons rfl (by first | rfl | (simp; done) | (rw [← encLs_app]; simp; done) | (rw [encLs_app])) (.cons rfl (by first | rfl | (simp; done) | (rw [← encLs_app]; simp; done) | (rw [encLs_app])) (.cons rfl (by first | rfl | (simp; done) | (rw [← encLs_app]; simp; done) | (rw [encLs_app])) (.nil))))) rfl)⟩
    · skip
      refine awp_exit ?_
      change AWp _ _ _ _ _ _
      refine awp_seq ?_
      refine awp_region ?_
      first | refine awl_load_row ti39_LvG rfl rfl rfl rfl ?_ | refine x_irow ti39_LvG rfl rfl rfl rfl ?_
      refine awl_sub (y := lv ⟨t.kind, t.n, xs⟩) (Sub.agc (.cons (Sub.refl _) (.cons (Sub.refl _) (.cons Sub.ts .nil)))) ?_
      refine x_store ti39_LvG rfl rfl rfl rfl rfl rfl rfl rfl ?_
      refine awl_nil ?_
      change AWp _ _ _ _ _ _
      refine awp_ret ?_
      change Ends _ _ _ _ _ _
      refine ends1 [] rfl (.row ti39_LvG rfl rfl rfl) ?_ rfl
      rw [hput, if_neg hp]; obtain rfl := drop_end hd (by simp at hi; omega); rw [hsp]; simp only [putFs, List.append_nil]; exact ⟨rfl, rfl⟩
termination_by SizeOf.sizeOf t
decreasing_by exact Lvl.lt ha

theorem Copy_con (t : Lvl) (h : narL t = true) : PCon Try.prog 59 [lv t] (lv t) := by
  have hp := rPut_gen [] (fun b hb => by cases hb) t h
  rw [putF_nil] at hp
  refine con_of Try.func59 rfl 5 Try.ntmps59 rfl fun cx hcx => ?_
  refine awp_seq ?_
  refine awp_region ?_
  refine awl_box rfl rfl rfl rfl rfl (by rw [hcx]; rfl) rfl ?_
  refine x_alloc tz39_LvG rfl rfl (by rw [hcx]; rfl) rfl ?_
  refine awl_nil ?_
  change AWp _ _ _ _ _ _
  refine awp_seq ?_
  refine awp_region ?_
  first | refine awl_load_row ti39_LvG rfl rfl rfl rfl ?_ | refine x_irow ti39_LvG rfl rfl rfl rfl ?_
  refine awl_pcall fb43_LvG rfl (hp) (.cons (by first | exact Sub.refl _ | exact Sub.ts | exact Sub.nil | exact Sub.agc (by repeat (first | exact .nil | refine .cons (by first | exact Sub.refl _ | exact Sub.nil) ?_))) (.cons (by first | exact Sub.refl _ | exact Sub.ts | exact Sub.nil | exact Sub.agc (by repeat (first | exact .nil | refine .cons (by first | exact Sub.refl _ | exact Sub.nil) ?_))) .nil)) rfl ?_
  refine x_store ti39_LvG rfl rfl rfl rfl rfl rfl rfl rfl ?_
  refine awl_nil ?_
  change AWp _ _ _ _ _ _
  refine awp_ret ?_
  change Ends _ _ _ _ _ _
  refine ends1 [] rfl (.row ti39_LvG rfl rfl rfl) ?_ rfl
  exact ⟨rfl, rfl⟩
theorem rPut_con (by_ : List Lvl) (hby : ∀ b ∈ by_, narL b = true) (t : Lvl) (h : narL t = true) : PCon Try.prog 43 [lv t, .p (.sl 3 (encLs by_))] (lv (putF by_ t)) :=
  rPut_gen by_ (fun b hb => Copy_con b (hby b hb)) t h

theorem Succ_con (t : Lvl) (h : narL t = true) : PCon Try.prog 41 [lv t] (lv ⟨1, 0, [t]⟩) := by
  refine con_of Try.func41 rfl 7 Try.ntmps41 rfl fun cx hcx => ?_
  refine awp_seq ?_
  refine awp_region ?_
  refine awl_box rfl rfl rfl rfl rfl (by rw [hcx]; rfl) rfl ?_
  refine x_alloc tz39_LvG rfl rfl (by rw [hcx]; rfl) rfl ?_
  refine awl_nil ?_
  change AWp _ _ _ _ _ _
  refine awp_seq ?_
  refine awp_region ?_
  first | refine awl_load_row ti39_LvG rfl rfl rfl rfl ?_ | refine x_irow ti39_LvG rfl rfl rfl rfl ?_
  refine awl_pcall fb59_LvG rfl (Copy_con t h) (.cons (by first | exact Sub.refl _ | exact Sub.ts | exact Sub.nil | exact Sub.agc (by repeat (first | exact .nil | refine .cons (by first | exact Sub.refl _ | exact Sub.nil) ?_))) .nil) rfl ?_
  refine x_slice si24_LvG ei39_LvG rfl rfl rfl rfl ?_
  refine awl_sub (y := .p (.sl 3 (encLs [t]))) (Sub.eq (by rw [← encLs_one])) ?_
  refine x_build bi39_LvG tz39_LvG rfl rfl rfl ?_
  refine x_store ti39_LvG rfl rfl rfl rfl rfl rfl rfl rfl ?_
  refine awl_nil ?_
  change AWp _ _ _ _ _ _
  refine awp_ret ?_
  change Ends _ _ _ _ _ _
  refine ends1 [] rfl (.row ti39_LvG rfl rfl rfl) ?_ rfl
  exact ⟨rfl, rfl⟩
theorem encLs_two (a b : Lvl) : ([[I a.kind, I a.n, .sl 3 (encLs a.args)], [I b.kind, I b.n, .sl 3 (encLs b.args)]] : List (List PV)) = encLs [a, b] := by simp [encLs, encL_eq, rowL]
theorem Max_con (a b : Lvl) (ha : narL a = true) (hb : narL b = true) : PCon Try.prog 39 [lv a, lv b] (lv ⟨2, 0, [a, b]⟩) := by
  refine con_of Try.func39 rfl 11 Try.ntmps39 rfl fun cx hcx => ?_
  refine awp_seq ?_
  refine awp_region ?_
  refine awl_box rfl rfl rfl rfl rfl (by rw [hcx]; rfl) rfl ?_
  refine awl_box rfl rfl rfl rfl rfl (by rw [hcx]; rfl) rfl ?_
  refine x_alloc tz39_LvG rfl rfl (by rw [hcx]; rfl) rfl ?_
  refine awl_nil ?_
  change AWp _ _ _ _ _ _
  refine awp_seq ?_
  apply awp_drawS [6] [6] [] ((fun (B : Obs) => oget [([], B), ([6], _)]) _)
  · rfl
  · rfl
  · exact hmo_LvG
  · kernel_rfl
  · rfl
  refine awd_s [[]] [(2, _)] (.cons rfl (.nil)) rfl rfl rfl (by kernel_rfl) ?_
  apply Exists.intro
  refine ⟨(⟨fun regs' => ?_, trivial⟩), ?_, ?_⟩
  · skip
    first | refine awl_load_row ti39_LvG rfl rfl rfl rfl ?_ | refine x_irow ti39_LvG rfl rfl rfl rfl ?_
    exact awl_doneS rfl rfl
  · kernel_rfl
  refine awd_s [[]] [(5, _)] (.cons rfl (.nil)) rfl rfl rfl (by kernel_rfl) ?_
  apply Exists.intro
  refine ⟨(⟨fun regs' => ?_, trivial⟩), ?_, ?_⟩
  · skip
    refine awl_pcall fb59_LvG rfl (Copy_con a ha) (.cons (by first | exact Sub.refl _ | exact Sub.ts | exact Sub.nil | exact Sub.agc (by repeat (first | exact .nil | refine .cons (by first | exact Sub.refl _ | exact Sub.nil) ?_))) .nil) rfl ?_
    exact awl_doneS rfl rfl
  · kernel_rfl
  refine awd_s [[]] [(3, _)] (.cons rfl (.nil)) rfl rfl rfl (by kernel_rfl) ?_
  apply Exists.intro
  refine ⟨(⟨fun regs' => ?_, trivial⟩), ?_, ?_⟩
  · skip
    first | refine awl_load_row ti39_LvG rfl rfl rfl rfl ?_ | refine x_irow ti39_LvG rfl rfl rfl rfl ?_
    exact awl_doneS rfl rfl
  · kernel_rfl
  refine awd_s [[]] [(7, _)] (.cons rfl (.nil)) rfl rfl rfl (by kernel_rfl) ?_
  apply Exists.intro
  refine ⟨(⟨fun regs' => ?_, trivial⟩), ?_, ?_⟩
  · skip
    refine awl_pcall fb59_LvG rfl (Copy_con b hb) (.cons (by first | exact Sub.refl _ | exact Sub.ts | exact Sub.nil | exact Sub.agc (by repeat (first | exact .nil | refine .cons (by first | exact Sub.refl _ | exact Sub.nil) ?_))) .nil) rfl ?_
    exact awl_doneS rfl rfl
  · kernel_rfl
  refine awd_s [[]] [(6, _), (8, _)] (.cons rfl (.cons rfl (.nil))) rfl rfl rfl (by kernel_rfl) ?_
  apply Exists.intro
  refine ⟨(⟨fun regs' => ?_, trivial⟩), ?_, ?_⟩
  · skip
    refine x_slice si24_LvG ei39_LvG rfl rfl rfl rfl ?_
    refine awl_sub (y := .p (.sl 3 (encLs [a, b]))) (Sub.eq (by rw [← encLs_two])) ?_
    exact awl_doneS rfl rfl
  · kernel_rfl
  refine awd_s [[]] [(9, _)] (.cons rfl (.nil)) rfl rfl rfl (by kernel_rfl) ?_
  apply Exists.intro
  refine ⟨(⟨fun regs' => ?_, trivial⟩), ?_, ?_⟩
  · skip
    refine x_build bi39_LvG tz39_LvG rfl rfl rfl ?_
    exact awl_doneS rfl rfl
  · kernel_rfl
  refine awd_e [] rfl rfl rfl (by kernel_rfl) rfl rfl ?_
  refine ⟨.any, ?_⟩
  refine ⟨?_, ?_, ?_⟩
  · skip
    refine x_store ti39_LvG rfl rfl rfl rfl rfl rfl rfl rfl ?_
    exact awl_done rfl
  · kernel_rfl
  refine awd_endS ?_
  try dsimp only [putd]
  change AWp _ _ _ _ _ _
  refine awp_ret ?_
  change Ends _ _ _ _ _ _
  refine ends1 [] rfl (.row ti39_LvG rfl rfl rfl) ?_ rfl
  exact ⟨rfl, rfl⟩
theorem Imax_con (a b : Lvl) (ha : narL a = true) (hb : narL b = true) : PCon Try.prog 40 [lv a, lv b] (lv ⟨3, 0, [a, b]⟩) := by
  refine con_of Try.func40 rfl 11 Try.ntmps40 rfl fun cx hcx => ?_
  refine awp_seq ?_
  refine awp_region ?_
  refine awl_box rfl rfl rfl rfl rfl (by rw [hcx]; rfl) rfl ?_
  refine awl_box rfl rfl rfl rfl rfl (by rw [hcx]; rfl) rfl ?_
  refine x_alloc tz39_LvG rfl rfl (by rw [hcx]; rfl) rfl ?_
  refine awl_nil ?_
  change AWp _ _ _ _ _ _
  refine awp_seq ?_
  apply awp_drawS [6] [6] [] ((fun (B : Obs) => oget [([], B), ([6], _)]) _)
  · rfl
  · rfl
  · exact hmo_LvG
  · kernel_rfl
  · rfl
  refine awd_s [[]] [(2, _)] (.cons rfl (.nil)) rfl rfl rfl (by kernel_rfl) ?_
  apply Exists.intro
  refine ⟨(⟨fun regs' => ?_, trivial⟩), ?_, ?_⟩
  · skip
    first | refine awl_load_row ti39_LvG rfl rfl rfl rfl ?_ | refine x_irow ti39_LvG rfl rfl rfl rfl ?_
    exact awl_doneS rfl rfl
  · kernel_rfl
  refine awd_s [[]] [(5, _)] (.cons rfl (.nil)) rfl rfl rfl (by kernel_rfl) ?_
  apply Exists.intro
  refine ⟨(⟨fun regs' => ?_, trivial⟩), ?_, ?_⟩
  · skip
    refine awl_pcall fb59_LvG rfl (Copy_con a ha) (.cons (by first | exact Sub.refl _ | exact Sub.ts | exact Sub.nil | exact Sub.agc (by repeat (first | exact .nil | refine .cons (by first | exact Sub.refl _ | exact Sub.nil) ?_))) .nil) rfl ?_
    exact awl_doneS rfl rfl
  · kernel_rfl
  refine awd_s [[]] [(3, _)] (.cons rfl (.nil)) rfl rfl rfl (by kernel_rfl) ?_
  apply Exists.intro
  refine ⟨(⟨fun regs' => ?_, trivial⟩), ?_, ?_⟩
  · skip
    first | refine awl_load_row ti39_LvG rfl rfl rfl rfl ?_ | refine x_irow ti39_LvG rfl rfl rfl rfl ?_
    exact awl_doneS rfl rfl
  · kernel_rfl
  refine awd_s [[]] [(7, _)] (.cons rfl (.nil)) rfl rfl rfl (by kernel_rfl) ?_
  apply Exists.intro
  refine ⟨(⟨fun regs' => ?_, trivial⟩), ?_, ?_⟩
  · skip
    refine awl_pcall fb59_LvG rfl (Copy_con b hb) (.cons (by first | exact Sub.refl _ | exact Sub.ts | exact Sub.nil | exact Sub.agc (by repeat (first | exact .nil | refine .cons (by first | exact Sub.refl _ | exact Sub.nil) ?_))) .nil) rfl ?_
    exact awl_doneS rfl rfl
  · kernel_rfl
  refine awd_s [[]] [(6, _), (8, _)] (.cons rfl (.cons rfl (.nil))) rfl rfl rfl (by kernel_rfl) ?_
  apply Exists.intro
  refine ⟨(⟨fun regs' => ?_, trivial⟩), ?_, ?_⟩
  · skip
    refine x_slice si24_LvG ei39_LvG rfl rfl rfl rfl ?_
    refine awl_sub (y := .p (.sl 3 (encLs [a, b]))) (Sub.eq (by rw [← encLs_two])) ?_
    exact awl_doneS rfl rfl
  · kernel_rfl
  refine awd_s [[]] [(9, _)] (.cons rfl (.nil)) rfl rfl rfl (by kernel_rfl) ?_
  apply Exists.intro
  refine ⟨(⟨fun regs' => ?_, trivial⟩), ?_, ?_⟩
  · skip
    refine x_build bi39_LvG tz39_LvG rfl rfl rfl ?_
    exact awl_doneS rfl rfl
  · kernel_rfl
  refine awd_e [] rfl rfl rfl (by kernel_rfl) rfl rfl ?_
  refine ⟨.any, ?_⟩
  refine ⟨?_, ?_, ?_⟩
  · skip
    refine x_store ti39_LvG rfl rfl rfl rfl rfl rfl rfl rfl ?_
    exact awl_done rfl
  · kernel_rfl
  refine awd_endS ?_
  try dsimp only [putd]
  change AWp _ _ _ _ _ _
  refine awp_ret ?_
  change Ends _ _ _ _ _ _
  refine ends1 [] rfl (.row ti39_LvG rfl rfl rfl) ?_ rfl
  exact ⟨rfl, rfl⟩

end Go.Ab.Ytfgndomaadikoaa
