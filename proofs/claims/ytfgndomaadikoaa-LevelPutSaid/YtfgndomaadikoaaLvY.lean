/- What Put makes is new. -/
import Derived.Test.YtfgndomaadikoaaLvV
import Derived.Test.YtfgndomaadikoaaAb24
set_option linter.unusedVariables false
set_option linter.unusedSimpArgs false
namespace Go.Ab.Ytfgndomaadikoaa
open Go Go.RowKit Go.Ab Go.Proofs

theorem tz39_LvY : TZ Try.prog 39 [(.int .i64 0), (.int .i64 0), (.slice none 0 0)] := ⟨⟨.agg #[(.int .i64 0), (.int .i64 0), (.slice none 0 0)], by kernel_rfl, rfl⟩, by kernel_rfl⟩
theorem fi39_0_LvY : FI Try.prog 39 0 0 := ⟨_, _, 0, Try.underlying39, rfl, rfl, by kernel_rfl⟩
theorem ti3_LvY : TI Try.prog 3 1 false := ⟨by kernel_rfl, by kernel_rfl⟩
theorem fi39_1_LvY : FI Try.prog 39 1 1 := ⟨_, _, 0, Try.underlying39, rfl, rfl, by kernel_rfl⟩
theorem si24_LvY : SI Try.prog 24 39 := ⟨Try.underlying24⟩
theorem ti39_LvY : TI Try.prog 39 3 true := ⟨by kernel_rfl, by kernel_rfl⟩
theorem fb42_LvY : FB Try.prog 42 := ⟨_, Try.func42, rfl, by kernel_rfl⟩
theorem fi39_2_LvY : FI Try.prog 39 2 2 := ⟨_, _, 0, Try.underlying39, rfl, rfl, by kernel_rfl⟩
theorem ti24_LvY : TI Try.prog 24 1 false := ⟨by kernel_rfl, by kernel_rfl⟩
theorem ei39_LvY : EI Try.prog 39 3 40 := ⟨by kernel_rfl⟩

mutual
/-- A level whose lists are new. -/
def encFr (lo : Nat) : Lvl → List PV
  | ⟨k, n, l⟩ => [I k, I n, .fs lo 39 (.sl 3 (encFs lo l))]
def encFs (lo : Nat) : List Lvl → List (List PV)
  | [] => []
  | a :: r => encFr lo a :: encFs lo r
end
def rowF (lo : Nat) (a : Lvl) : List PV := [I a.kind, I a.n, .fs lo 39 (.sl 3 (encFs lo a.args))]
theorem encFr_eq (lo : Nat) (a : Lvl) : encFr lo a = rowF lo a := by cases a; rfl
theorem encFs_eq (lo : Nat) : ∀ l : List Lvl, encFs lo l = l.map (rowF lo)
  | [] => rfl
  | a :: r => by simp [encFs, encFr_eq, encFs_eq lo r]
@[simp] theorem encFs_len (lo : Nat) (l : List Lvl) : (encFs lo l).length = l.length := by simp [encFs_eq]
theorem encFs_app (lo : Nat) (xs ys : List Lvl) : encFs lo xs ++ encFs lo ys = encFs lo (xs ++ ys) := by simp [encFs_eq]
theorem encFs_one (lo : Nat) (a : Lvl) : ([[I a.kind, I a.n, .fs lo 39 (.sl 3 (encFs lo a.args))]] : List (List PV)) = encFs lo [a] := by simp [encFs_eq, rowF]
def lvF (lo : Nat) (a : Lvl) : AV := .ag [.p (I a.kind), .p (I a.n), .p (.fs lo 39 (.sl 3 (encFs lo a.args)))]

theorem Rep.sl_map {w : World} {M : Nat → Nat → Prop} {sz : Nat} {xs ys : List (List PV)} {v : Value} (h : Rep w M (.sl sz xs) v) (hl : ys.length = xs.length)
    (hr : ∀ (i : Nat) (x y : List PV), xs[i]? = some x → ys[i]? = some y → y.length = x.length ∧ ∀ (j : Nat) (p q : PV), x[j]? = some p → y[j]? = some q → ∀ u, Rep w M p u → Rep w M q u) : Rep w M (.sl sz ys) v := by
  cases h with
  | nil =>
    obtain rfl : ys = [] := by cases ys with | nil => rfl | cons a r => simp at hl
    exact .nil
  | sl a cap f hcap hmax hrow hcell hM hx =>
    have get : ∀ (i : Nat) (y : List PV), ys[i]? = some y → ∃ x, xs[i]? = some x := fun i y hy => by
      have := (List.getElem?_eq_some_iff.1 hy).1
      exact ⟨_, List.getElem?_eq_getElem (by omega)⟩
    have get2 : ∀ (i j : Nat) (y : List PV) (q : PV), ys[i]? = some y → y[j]? = some q → ∃ x p, xs[i]? = some x ∧ x[j]? = some p ∧ ∀ u, Rep w M p u → Rep w M q u := fun i j y q hy hq => by
      obtain ⟨x, hx⟩ := get i y hy
      obtain ⟨e, k⟩ := hr i x y hx hy
      have := (List.getElem?_eq_some_iff.1 hq).1
      exact ⟨x, _, hx, List.getElem?_eq_getElem (by omega), k j _ q (List.getElem?_eq_getElem (by omega)) hq⟩
    rw [← hl]
    refine .sl a cap f (by omega) hmax (fun i y hy => ?_) (fun i y j q hy hq => ?_) (fun i y j q hy hq => ?_) (fun i y j q hy hq => ?_)
    · obtain ⟨x, hx⟩ := get i y hy
      rw [(hr i x y hx hy).1]; exact hrow i x hx
    · obtain ⟨x, p, h1, h2, _⟩ := get2 i j y q hy hq
      exact hcell i x j p h1 h2
    · obtain ⟨x, p, h1, h2, _⟩ := get2 i j y q hy hq
      exact hM i x j p h1 h2
    · obtain ⟨x, p, h1, h2, h3⟩ := get2 i j y q hy hq
      exact h3 _ (hx i x j p h1 h2)

/-- That they are new may be forgotten. -/
theorem forget (lo : Nat) (w : World) (M : Nat → Nat → Prop) (l : List Lvl) : ∀ v, Rep w M (.sl 3 (encFs lo l)) v → Rep w M (.sl 3 (encLs l)) v := fun v h => by
  refine Rep.sl_map h (by simp) fun i x y hx hy => ?_
  rw [encFs_eq, List.getElem?_map] at hx
  rw [encLs_eq, List.getElem?_map] at hy
  obtain ⟨a, ha, rfl⟩ := Option.map_eq_some_iff.1 hx
  rw [ha] at hy
  simp only [Option.map_some, Option.some.injEq] at hy
  subst hy
  have hm : a ∈ l := List.mem_of_getElem? ha
  refine ⟨rfl, fun j p q hp hq u hu => ?_⟩
  match j with
  | 0 => simp [rowF] at hp; simp [rowL] at hq; subst hp hq; exact hu
  | 1 => simp [rowF] at hp; simp [rowL] at hq; subst hp hq; exact hu
  | 2 =>
    simp [rowF] at hp; simp [rowL] at hq; subst hp hq
    cases hu with
    | fs hu _ => exact forget lo w M a.args u hu
  | j + 3 => simp [rowL] at hq
termination_by SizeOf.sizeOf l
decreasing_by
  have := List.sizeOf_lt_of_mem hm
  have h2 : SizeOf.sizeOf a.args < SizeOf.sizeOf a := by cases a; simp; omega
  omega
theorem Sub.lvF {lo : Nat} {a : Lvl} : Sub (lvF lo a) (lv a) := Sub.agc (.cons (Sub.refl _) (.cons (Sub.refl _) (.cons (fun w M own hw v h => by
  cases h with | p h => cases h with | fs h _ => exact .p (forget lo w M a.args v h)) .nil)))

theorem PutF_gen (lo : Nat) (by_ : List Lvl) (hby : ∀ b ∈ by_, ConG (fun w => lo ≤ w.heap.size) Try.prog 42 [lv b, .p (.sl 3 [])] [] (fun r o => r = lvF lo b ∧ o = [])) (t : Lvl) : narL t = true →
    ConG (fun w => lo ≤ w.heap.size) Try.prog 42 [lv t, .p (.sl 3 (encLs by_))] [] (fun r o => r = lvF lo (putF by_ t) ∧ o = []) := by
  intro hpt
  have ih : ∀ a ∈ t.args, narL a = true → ConG (fun w => lo ≤ w.heap.size) Try.prog 42 [lv a, .p (.sl 3 (encLs by_))] [] (fun r o => r = lvF lo (putF by_ a) ∧ o = []) := fun a ha h => PutF_gen lo by_ hby a h
  have hlp := nar_len hpt
  have hlen := encLs_len t.args
  have hput := putF_eq by_ t
  refine con_ofG Try.func42 rfl 46 Try.ntmps42 rfl fun cx hcx hlo => ?_
  refine awp_seq ?_
  refine awp_region ?_
  refine awl_box rfl rfl rfl rfl rfl (by rw [hcx]; rfl) rfl ?_
  refine x_alloc tz39_LvY rfl rfl (by rw [hcx]; rfl) rfl ?_
  refine awl_nil ?_
  change AWp _ _ _ _ _ _
  refine awp_seq ?_
  refine awp_seq ?_
  refine awp_fml 22 (t.kind = 4 ∧ 0 ≤ t.n ∧ t.n < by_.length) [(0, _), (1, _), (2, _), (4, _)] (.cons rfl (.cons rfl (.cons rfl (.cons rfl (.nil))))) ?_ ?_
  · skip
    refine awp_region ?_
    first | refine awl_fieldAddr fi39_0_LvY rfl rfl ?_ | refine awl_fieldAddr_i fi39_0_LvY rfl rfl rfl ?_
    first | refine awl_load_one ti3_LvY rfl rfl rfl rfl ?_ | refine awl_load_ione ti3_LvY rfl rfl rfl ?_
    refine awl_bin rfl rfl rfl rfl bin_eql ?_
    refine awl_move rfl rfl ?_
    first | refine awl_split_p 11 rfl (fun h1 => ?_) (fun h1 => ?_) | refine awl_split 11 rfl (fun h1 => ?_) (fun h1 => ?_)
    · skip
      refine awl_guard_yes rfl (by first | exact h1 | exact decide_eq_true h1 | exact decide_eq_false h1) rfl rfl ?_
      first | refine awl_fieldAddr fi39_1_LvY rfl rfl ?_ | refine awl_fieldAddr_i fi39_1_LvY rfl rfl rfl ?_
      refine awl_guard_yes rfl (by first | exact h1 | exact decide_eq_true h1 | exact decide_eq_false h1) rfl rfl ?_
      first | refine awl_load_one ti3_LvY rfl rfl rfl rfl ?_ | refine awl_load_ione ti3_LvY rfl rfl rfl ?_
      refine awl_guard_yes rfl (by first | exact h1 | exact decide_eq_true h1 | exact decide_eq_false h1) rfl rfl ?_
      refine awl_bin rfl rfl rfl rfl bin_geq ?_
      refine awl_pick_t (by first | exact h1 | exact decide_eq_true h1 | exact decide_eq_false h1) rfl rfl rfl ?_
      refine awl_move rfl rfl ?_
      first | refine awl_split_p 16 rfl (fun h2 => ?_) (fun h2 => ?_) | refine awl_split 16 rfl (fun h2 => ?_) (fun h2 => ?_)
      · skip
        refine awl_guard_yes rfl (by first | exact h2 | exact decide_eq_true h2 | exact decide_eq_false h2) rfl rfl ?_
        first | refine awl_fieldAddr fi39_1_LvY rfl rfl ?_ | refine awl_fieldAddr_i fi39_1_LvY rfl rfl rfl ?_
        refine awl_guard_yes rfl (by first | exact h2 | exact decide_eq_true h2 | exact decide_eq_false h2) rfl rfl ?_
        first | refine awl_load_one ti3_LvY rfl rfl rfl rfl ?_ | refine awl_load_ione ti3_LvY rfl rfl rfl ?_
        refine awl_guard_yes rfl (by first | exact h2 | exact decide_eq_true h2 | exact decide_eq_false h2) rfl rfl ?_
        refine awl_move rfl rfl ?_
        refine awl_guard_yes rfl (by first | exact h2 | exact decide_eq_true h2 | exact decide_eq_false h2) rfl rfl ?_
        refine x_len si24_LvY rfl rfl rfl (fun hlen25 => ?_)
        refine awl_guard_yes rfl (by first | exact h2 | exact decide_eq_true h2 | exact decide_eq_false h2) rfl rfl ?_
        refine awl_bin rfl rfl rfl rfl bin_lss ?_
        refine awl_pick_t (by first | exact h2 | exact decide_eq_true h2 | exact decide_eq_false h2) rfl rfl rfl ?_
        refine awl_nil ?_
        exact ⟨rfl, _, (by first | (simp; omega) | omega | (simp; done)), Le.mk (.cons rfl (Sub.refl _) (.cons rfl (Sub.refl _) (.cons rfl (Sub.refl _) (.cons rfl (Sub.refl _) (.cons rfl (Sub.refl _) .nil))))) (by repeat (first | exact .nil | refine .cons rfl rfl ?_)) rfl⟩
      · skip
        refine awl_guard_no rfl (by first | exact h2 | exact decide_eq_true h2 | exact decide_eq_false h2) rfl rfl rfl rfl ?_
        refine awl_guard_no rfl (by first | exact h2 | exact decide_eq_true h2 | exact decide_eq_false h2) rfl rfl rfl rfl ?_
        refine awl_guard_no rfl (by first | exact h2 | exact decide_eq_true h2 | exact decide_eq_false h2) rfl rfl rfl rfl ?_
        refine awl_guard_no rfl (by first | exact h2 | exact decide_eq_true h2 | exact decide_eq_false h2) rfl rfl rfl rfl ?_
        refine awl_guard_no rfl (by first | exact h2 | exact decide_eq_true h2 | exact decide_eq_false h2) rfl rfl rfl rfl ?_
        refine awl_pick_f (by first | exact h2 | exact decide_eq_true h2 | exact decide_eq_false h2) rfl rfl rfl ?_
        refine awl_nil ?_
        exact ⟨rfl, _, (by first | (simp; omega) | omega | (simp; done)), Le.mk (.cons rfl (Sub.refl _) (.cons rfl (Sub.refl _) (.cons rfl (Sub.refl _) (.cons rfl (Sub.refl _) (.cons rfl (Sub.refl _) .nil))))) (by repeat (first | exact .nil | refine .cons rfl rfl ?_)) rfl⟩
    · skip
      refine awl_guard_no rfl (by first | exact h1 | exact decide_eq_true h1 | exact decide_eq_false h1) rfl rfl rfl rfl ?_
      refine awl_guard_no rfl (by first | exact h1 | exact decide_eq_true h1 | exact decide_eq_false h1) rfl rfl rfl rfl ?_
      refine awl_guard_no rfl (by first | exact h1 | exact decide_eq_true h1 | exact decide_eq_false h1) rfl rfl rfl rfl ?_
      refine awl_pick_f (by first | exact h1 | exact decide_eq_true h1 | exact decide_eq_false h1) rfl rfl rfl ?_
      refine awl_move rfl rfl ?_
      refine awl_guard_no rfl rfl rfl rfl rfl rfl ?_
      refine awl_guard_no rfl rfl rfl rfl rfl rfl ?_
      refine awl_guard_no rfl rfl rfl rfl rfl rfl ?_
      refine awl_guard_no rfl rfl rfl rfl rfl rfl ?_
      refine awl_guard_no rfl rfl rfl rfl rfl rfl ?_
      refine awl_pick_f rfl rfl rfl rfl ?_
      refine awl_nil ?_
      exact ⟨rfl, _, (by first | (simp; omega) | omega | (simp; done)), Le.mk (.cons rfl (Sub.refl _) (.cons rfl (Sub.refl _) (.cons rfl (Sub.refl _) (.cons rfl (Sub.refl _) (.cons rfl (Sub.refl _) .nil))))) (by repeat (first | exact .nil | refine .cons rfl rfl ?_)) rfl⟩
  change AWp _ _ _ _ _ _
  first | refine awp_cond_p rfl (fun hp => ?_) (fun hp => ?_) | refine awp_cond rfl (fun hp => ?_) (fun hp => ?_)
  · skip
    obtain ⟨hrow, hmem⟩ := row_get hp.2.1 hp.2.2
    generalize hb : by_.getD t.n.toNat ⟨0, 0, []⟩ = b at hrow hmem hput
    refine awp_seq ?_
    refine awp_region ?_
    refine awl_move rfl rfl ?_
    first | refine awl_fieldAddr fi39_1_LvY rfl rfl ?_ | refine awl_fieldAddr_i fi39_1_LvY rfl rfl rfl ?_
    first | refine awl_load_one ti3_LvY rfl rfl rfl rfl ?_ | refine awl_load_ione ti3_LvY rfl rfl rfl ?_
    refine x_index si24_LvY ti39_LvY rfl rfl rfl rfl (by omega) (by first | omega | (simp only [List.length_map]; omega) | (simp; omega)) hrow rfl ?_
    first | refine awl_load_row ti39_LvY rfl rfl rfl rfl ?_ | refine x_irow ti39_LvY rfl rfl rfl rfl ?_
    refine awl_pcallG fb42_LvY rfl ((hby b hmem).weak fun w h => Nat.le_trans hlo h) (.cons (by first | exact Sub.refl _ | exact Sub.ts | exact Sub.nil | exact Sub.agc (by repeat (first | exact .nil | refine .cons (by first | exact Sub.refl _ | exact Sub.nil) ?_))) (.cons (by first | exact Sub.refl _ | exact Sub.ts | exact Sub.nil | exact Sub.agc (by repeat (first | exact .nil | refine .cons (by first | exact Sub.refl _ | exact Sub.nil) ?_))) .nil)) rfl ?_
    refine x_store ti39_LvY rfl rfl rfl rfl rfl rfl rfl rfl ?_
    refine awl_nil ?_
    change AWp _ _ _ _ _ _
    refine awp_ret ?_
    change Ends _ _ _ _ _ _
    refine ends1 [] rfl (.row ti39_LvY rfl rfl rfl) ?_ rfl
    rw [hput, if_pos hp]; exact ⟨rfl, rfl⟩
  · skip
    refine awp_skip ?_
    change AWp _ _ _ _ _ _
    refine awp_seq ?_
    refine awp_region ?_
    refine awl_assign rfl rfl ?_
    refine awl_nil ?_
    change AWp _ _ _ _ _ _
    refine awp_seq ?_
    refine awp_seq ?_
    refine awp_region ?_
    first | refine awl_fieldAddr fi39_2_LvY rfl rfl ?_ | refine awl_fieldAddr_i fi39_2_LvY rfl rfl rfl ?_
    first | refine awl_load_one ti24_LvY rfl rfl rfl rfl ?_ | refine awl_load_ione ti24_LvY rfl rfl rfl ?_
    refine x_len si24_LvY rfl rfl rfl (fun hlen58 => ?_)
    refine awl_move rfl rfl ?_
    refine awl_nil ?_
    change AWp _ _ _ _ _ _
    refine awp_block ?_
    refine x_loop [(1, _), (2, _), (4, _), (30, _), (31, _)] [(4, _), (2, _)] (fun x : Nat × List Lvl × List Lvl => [(32, .p (I x.1)), (5, .ts 500 3 (encFs lo x.2.2))]) (fun x => [(500, .ar 39 3 (encFs lo x.2.2).length)]) (fun x => t.args.drop x.1 = x.2.1 ∧ x.2.2.length = x.1 ∧ putFs by_ t.args = x.2.2 ++ putFs by_ x.2.1) (fun x => x.2.1.length) (0, t.args, []) (Le.trans (Le.tok 5 500 39 3 rfl rfl (by rw [hcx]; rfl)) (Le.mk (.cons rfl (by first | exact Sub.refl _ | exact Sub.ts | exact Sub.nil | (refine Sub.eq ?_; first | (simp; done) | (simp; omega) | (rw [encFs_app]))) (.cons rfl (by first | exact Sub.refl _ | exact Sub.ts | exact Sub.nil | (refine Sub.eq ?_; first | (simp; done) | (simp; omega) | (rw [encFs_app]))) (.cons rfl (by first | exact Sub.refl _ | exact Sub.ts | exact Sub.nil | (refine Sub.eq ?_; first | (simp; done) | (simp; omega) | (rw [encFs_app]))) (.cons rfl (by first | exact Sub.refl _ | exact Sub.ts | exact Sub.nil | (refine Sub.eq ?_; first | (simp; done) | (simp; omega) | (rw [encFs_app]))) (.cons rfl (by first | exact Sub.refl _ | exact Sub.ts | exact Sub.nil | (refine Sub.eq ?_; first | (simp; done) | (simp; omega) | (rw [encFs_app]))) (.cons rfl (by first | exact Sub.refl _ | exact Sub.ts | exact Sub.nil | (refine Sub.eq ?_; first | (simp; done) | (simp; omega) | (rw [encFs_app]))) (.cons rfl (by first | exact Sub.refl _ | exact Sub.ts | exact Sub.nil | (refine Sub.eq ?_; first | (simp; done) | (simp; omega) | (rw [encFs_app]))) (.nil)))))))) (.cons rfl (by first | rfl | (simp; done) | (rw [← encFs_app]; simp; done)) (.cons rfl (by first | rfl | (simp; done) | (rw [← encFs_app]; simp; done)) (.cons rfl (by first | rfl | (simp; done) | (rw [← encFs_app]; simp; done)) (.nil)))) rfl)) ⟨rfl, rfl, rfl⟩ (fun x hx => ?_)
    obtain ⟨i, r, xs⟩ := x
    obtain ⟨hd, hxl, hsp⟩ := hx
    simp only at hd hxl hsp
    dsimp only [List.cons_append, List.nil_append]
    refine awp_seq ?_
    refine awp_region ?_
    refine awl_bin rfl rfl rfl rfl bin_lss ?_
    refine awl_nil ?_
    change AWp _ _ _ _ _ _
    refine awp_seq ?_
    first | refine awp_cond_p rfl (fun hi => ?_) (fun hi => ?_) | refine awp_cond rfl (fun hi => ?_) (fun hi => ?_)
    · skip
      obtain ⟨a, r', rfl⟩ := drop_ne hd (by simp at hi; omega)
      have hrow := rowL_at hd
      have hdl := drop_lt hd
      refine awp_skip ?_
      change AWp _ _ _ _ _ _
      refine awp_seq ?_
      refine awp_block ?_
      refine awp_seq ?_
      refine awp_region ?_
      refine x_index si24_LvY ti39_LvY rfl rfl rfl rfl (by omega) (by first | omega | (simp only [List.length_map]; omega) | (simp; omega)) hrow rfl ?_
      first | refine awl_load_row ti39_LvY rfl rfl rfl rfl ?_ | refine x_irow ti39_LvY rfl rfl rfl rfl ?_
      refine x_alloc tz39_LvY rfl rfl (by rw [hcx]; rfl) rfl ?_
      refine x_store ti39_LvY rfl rfl rfl rfl rfl rfl rfl rfl ?_
      refine awl_nil ?_
      change AWp _ _ _ _ _ _
      refine awp_region ?_
      refine awl_move rfl rfl ?_
      first | refine awl_load_row ti39_LvY rfl rfl rfl rfl ?_ | refine x_irow ti39_LvY rfl rfl rfl rfl ?_
      refine awl_move rfl rfl ?_
      refine awl_pcallG fb42_LvY rfl ((ih a (drop_mem hd) (nar_mem hpt (drop_mem hd))).weak fun w h => Nat.le_trans hlo h) (.cons (by first | exact Sub.refl _ | exact Sub.ts | exact Sub.nil | exact Sub.agc (by repeat (first | exact .nil | refine .cons (by first | exact Sub.refl _ | exact Sub.nil) ?_))) (.cons (by first | exact Sub.refl _ | exact Sub.ts | exact Sub.nil | exact Sub.agc (by repeat (first | exact .nil | refine .cons (by first | exact Sub.refl _ | exact Sub.nil) ?_))) .nil)) rfl ?_
      refine x_slice si24_LvY ei39_LvY rfl rfl rfl rfl ?_
      refine awl_sub (y := .p (.sl 3 (encFs lo [putF by_ a]))) (Sub.eq (by rw [← encFs_one])) ?_
      first | refine x_append si24_LvY ei39_LvY rfl rfl (by first | rfl | simp) rfl rfl rfl (.inl rfl) rfl rfl (by simp; omega) (by simp; omega) ?_ | refine awl_append_nil si24_LvY ei39_LvY rfl rfl (by rw [hcx]; rfl) rfl rfl rfl (.inl rfl) (by simp; omega) (by simp; omega) rfl ?_
      refine awl_assign rfl rfl ?_
      refine awl_nil ?_
      change AWp _ _ _ _ _ _
      refine awp_region ?_
      first | refine awl_bin rfl rfl rfl rfl (bin_add_i (by omega)) ?_ | refine awl_bin rfl rfl rfl rfl bin_add ?_
      refine awl_move rfl rfl ?_
      refine awl_nil ?_
      change ∃ x', _
      refine ⟨(i + 1, r', xs ++ [putF by_ a]), ⟨drop_next hd, by simp [hxl], by rw [hsp]; simp [putFs]⟩, by simp, (Le.mk (.cons rfl (by first | exact Sub.refl _ | exact Sub.ts | exact Sub.nil | (refine Sub.eq ?_; first | (simp; done) | (simp; omega) | (rw [encFs_app]))) (.cons rfl (by first | exact Sub.refl _ | exact Sub.ts | exact Sub.nil | (refine Sub.eq ?_; first | (simp; done) | (simp; omega) | (rw [encFs_app]))) (.cons rfl (by first | exact Sub.refl _ | exact Sub.ts | exact Sub.nil | (refine Sub.eq ?_; first | (simp; done) | (simp; omega) | (rw [encFs_app]))) (.cons rfl (by first | exact Sub.refl _ | exact Sub.ts | exact Sub.nil | (refine Sub.eq ?_; first | (simp; done) | (simp; omega) | (rw [encFs_app]))) (.cons rfl (by first | exact Sub.refl _ | exact Sub.ts | exact Sub.nil | (refine Sub.eq ?_; first | (simp; done) | (simp; omega) | (rw [encFs_app]))) (.cons rfl (by first | exact Sub.refl _ | exact Sub.ts | exact Sub.nil | (refine Sub.eq ?_; first | (simp; done) | (simp; omega) | (rw [encFs_app]))) (.cons rfl (by first | exact Sub.refl _ | exact Sub.ts | exact Sub.nil | (refine Sub.eq ?_; first | (simp; done) | (simp; omega) | (rw [encFs_app]))) (.nil)))))))) (.cons rfl (by first | rfl | (simp; done) | (rw [← encFs_app]; simp; done)) (.cons rfl (by first | rfl | (simp; done) | (rw [← encFs_app]; simp; done)) (.cons rfl (by first | rfl | (simp; done) | (rw [← encFs_app]; simp; done)) (.nil)))) rfl)⟩
    · skip
      refine awp_exit ?_
      change AWp _ _ _ _ _ _
      refine awp_seq ?_
      refine awp_le (Le.fr (t := 5) (k := 500) hcx hlo rfl rfl rfl) ?_
      refine awp_region ?_
      refine awl_move rfl rfl ?_
      first | refine awl_fieldAddr fi39_2_LvY rfl rfl ?_ | refine awl_fieldAddr_i fi39_2_LvY rfl rfl rfl ?_
      refine x_store ti24_LvY rfl rfl rfl rfl rfl rfl rfl rfl ?_
      refine awl_nil ?_
      change AWp _ _ _ _ _ _
      refine awp_seq ?_
      refine awp_region ?_
      first | refine awl_load_row ti39_LvY rfl rfl rfl rfl ?_ | refine x_irow ti39_LvY rfl rfl rfl rfl ?_
      refine x_store ti39_LvY rfl rfl rfl rfl rfl rfl rfl rfl ?_
      refine awl_nil ?_
      change AWp _ _ _ _ _ _
      refine awp_ret ?_
      change Ends _ _ _ _ _ _
      refine ends1 [] rfl (.row ti39_LvY rfl rfl rfl) ?_ rfl
      rw [hput, if_neg hp]; obtain rfl := drop_end hd (by simp at hi; omega); rw [hsp]; simp only [putFs, List.append_nil]; exact ⟨rfl, rfl⟩
termination_by SizeOf.sizeOf t
decreasing_by exact Lvl.lt ha

theorem PutNilF_con (lo : Nat) (t : Lvl) (h : narL t = true) : ConG (fun w => lo ≤ w.heap.size) Try.prog 42 [lv t, .p (.sl 3 [])] [] (fun r o => r = lvF lo t ∧ o = []) := by
  have := PutF_gen lo [] (fun b hb => by cases hb) t h
  rw [putF_nil] at this
  exact this
theorem PutF_con (lo : Nat) (by_ : List Lvl) (hby : ∀ b ∈ by_, narL b = true) (t : Lvl) (h : narL t = true) : ConG (fun w => lo ≤ w.heap.size) Try.prog 42 [lv t, .p (.sl 3 (encLs by_))] [] (fun r o => r = lvF lo (putF by_ t) ∧ o = []) :=
  PutF_gen lo by_ (fun b hb => PutNilF_con lo b (hby b hb)) t h

end Go.Ab.Ytfgndomaadikoaa
