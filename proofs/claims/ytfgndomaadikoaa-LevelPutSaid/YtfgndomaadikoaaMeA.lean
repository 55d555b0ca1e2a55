/- Levels measured: parts and depth; what meter.small and the document's Parts and Deep come to. -/
import Derived.Test.YtfgndomaadikoaaAb15
import Derived.Test.YtfgndomaadikoaaProg
set_option linter.unusedVariables false
set_option linter.unusedSimpArgs false
namespace Go.Ab.Ytfgndomaadikoaa
open Go Go.RowKit Go.Ab Go.Proofs

theorem fi39_2_MeA : FI Try.prog 39 2 2 := ⟨_, _, 0, Try.underlying39, rfl, rfl, by kernel_rfl⟩
theorem ti24_MeA : TI Try.prog 24 1 false := ⟨by kernel_rfl, by kernel_rfl⟩
theorem si24_MeA : SI Try.prog 24 39 := ⟨Try.underlying24⟩
theorem ti39_MeA : TI Try.prog 39 3 true := ⟨by kernel_rfl, by kernel_rfl⟩
theorem fb51_MeA : FB Try.prog 51 := ⟨_, Try.func51, rfl, by kernel_rfl⟩
theorem fb62_MeA : FB Try.prog 62 := ⟨_, Try.func62, rfl, by kernel_rfl⟩
theorem ti3_MeA : TI Try.prog 3 1 false := ⟨by kernel_rfl, by kernel_rfl⟩
theorem tz39_MeA : TZ Try.prog 39 [(.int .i64 0), (.int .i64 0), (.slice none 0 0)] := ⟨⟨.agg #[(.int .i64 0), (.int .i64 0), (.slice none 0 0)], by kernel_rfl, rfl⟩, by kernel_rfl⟩
theorem fb61_MeA : FB Try.prog 61 := ⟨_, Try.func61, rfl, by kernel_rfl⟩

mutual
def partsL : Lvl → Int
  | ⟨_, _, l⟩ => 1 + partsLs l
def partsLs : List Lvl → Int
  | [] => 0
  | a :: r => partsL a + partsLs r
end
mutual
def deepL : Lvl → Int
  | ⟨_, _, l⟩ => 1 + deepLs l
def deepLs : List Lvl → Int
  | [] => 0
  | a :: r => max (deepL a) (deepLs r)
end
theorem partsL_eq (t : Lvl) : partsL t = 1 + partsLs t.args := by cases t; rfl
theorem deepL_eq (t : Lvl) : deepL t = 1 + deepLs t.args := by cases t; rfl
mutual
theorem partsL_pos : ∀ t : Lvl, 1 ≤ partsL t
  | ⟨_, _, l⟩ => by simp only [partsL]; have := partsLs_pos l; omega
theorem partsLs_pos : ∀ l : List Lvl, 0 ≤ partsLs l
  | [] => by simp [partsLs]
  | a :: r => by simp only [partsLs]; have := partsL_pos a; have := partsLs_pos r; omega
end
mutual
theorem deepL_pos : ∀ t : Lvl, 1 ≤ deepL t
  | ⟨_, _, l⟩ => by simp only [deepL]; have := deepLs_pos l; omega
theorem deepLs_pos : ∀ l : List Lvl, 0 ≤ deepLs l
  | [] => by simp [deepLs]
  | a :: r => by simp only [deepLs]; have := deepL_pos a; have := deepLs_pos r; omega
end

theorem Parts_con (t : Lvl) : ∀ (most : Int), 0 ≤ most → most ≤ 4611686018427387904 →
    PCon Try.prog 51 [lv t, .p (I most)] (.p (I (min (partsL t) (most + 1)))) := by
  intro most hm0 hm
  have ih : ∀ a ∈ t.args, ∀ (most : Int), 0 ≤ most → most ≤ 4611686018427387904 → PCon Try.prog 51 [lv a, .p (I most)] (.p (I (min (partsL a) (most + 1)))) :=
    fun a ha most h0 h1 => Parts_con a most h0 h1
  have hpos := partsLs_pos t.args
  have hpe := partsL_eq t
  refine con_of Try.func51 rfl 34 Try.ntmps51 rfl fun cx hcx => ?_
  refine awp_seq ?_
  refine awp_region ?_
  refine awl_box rfl rfl rfl rfl rfl (by rw [hcx]; rfl) rfl ?_
  refine awl_assign rfl rfl ?_
  refine awl_nil ?_
  change AWp _ _ _ _ _ _
  refine awp_seq ?_
  refine awp_region ?_
  refine awl_assign rfl rfl ?_
  refine awl_nil ?_
  change AWp _ _ _ _ _ _
  refine awp_seq ?_
  refine awp_seq ?_
  refine awp_region ?_
  refine awl_assign rfl rfl ?_
  refine awl_nil ?_
  change AWp _ _ _ _ _ _
  refine awp_block ?_
  refine x_loop [(1, _), (2, _)] [(2, _)] (fun x : Nat × List Lvl × Int => [(6, .p (I x.1)), (5, .p (I x.2.2))]) (fun x => []) (fun x => t.args.drop x.1 = x.2.1 ∧ 1 ≤ x.2.2 ∧ x.2.2 ≤ most + 1 ∧ min (partsL t) (most + 1) = min (x.2.2 + partsLs x.2.1) (most + 1)) (fun x => x.2.1.length) (0, t.args, 1) (Le.mk (.cons rfl (by first | exact Sub.refl _ | exact Sub.ts | exact Sub.nil | (refine Sub.eq ?_; first | (simp; done) | (simp; omega))) (.cons rfl (by first | exact Sub.refl _ | exact Sub.ts | exact Sub.nil | (refine Sub.eq ?_; first | (simp; done) | (simp; omega))) (.cons rfl (by first | exact Sub.refl _ | exact Sub.ts | exact Sub.nil | (refine Sub.eq ?_; first | (simp; done) | (simp; omega))) (.cons rfl (by first | exact Sub.refl _ | exact Sub.ts | exact Sub.nil | (refine Sub.eq ?_; first | (simp; done) | (simp; omega))) (.nil))))) (.cons rfl (by first | rfl | (simp; done)) (.nil)) rfl) ⟨rfl, by simp only; omega, by simp only; omega, by simp only; omega⟩ (fun x hx => ?_)
  obtain ⟨i, r, m⟩ := x
  obtain ⟨hd, hm1, hm2, hsp⟩ := hx
  simp only at hd hm1 hm2 hsp
  dsimp only [List.cons_append, List.nil_append]
  refine awp_seq ?_
  refine awp_seq ?_
  refine awp_region ?_
  refine awl_move rfl rfl ?_
  first | refine awl_fieldAddr fi39_2_MeA rfl rfl ?_ | refine awl_fieldAddr_i fi39_2_MeA rfl rfl rfl ?_
  first | refine awl_load_one ti24_MeA rfl rfl rfl rfl ?_ | refine awl_load_ione ti24_MeA rfl rfl rfl ?_
  refine x_len si24_MeA rfl rfl rfl (fun hlen8 => ?_)
  refine awl_bin rfl rfl rfl rfl bin_lss ?_
  refine awl_move rfl rfl ?_
  first | refine awl_split_p 12 rfl (fun h1 => ?_) (fun h1 => ?_) | refine awl_split 12 rfl (fun h1 => ?_) (fun h1 => ?_)
  · skip
    obtain ⟨a, r', rfl⟩ := drop_ne hd (by simp at h1; omega)
    have hrow := rowL_at hd
    have hb := partsL_pos a
    have hp := partsLs_pos r'
    have hps : partsLs (a :: r') = partsL a + partsLs r' := rfl
    refine awl_guard_yes rfl (by first | exact h1 | exact decide_eq_true h1 | exact decide_eq_false h1) rfl rfl ?_
    refine awl_move rfl rfl ?_
    refine awl_guard_yes rfl (by first | exact h1 | exact decide_eq_true h1 | exact decide_eq_false h1) rfl rfl ?_
    refine awl_move rfl rfl ?_
    refine awl_guard_yes rfl (by first | exact h1 | exact decide_eq_true h1 | exact decide_eq_false h1) rfl rfl ?_
    refine awl_bin rfl rfl rfl rfl bin_leq ?_
    refine awl_pick_t (by first | exact h1 | exact decide_eq_true h1 | exact decide_eq_false h1) rfl rfl rfl ?_
    refine awl_nil ?_
    change AWp _ _ _ _ _ _
    first | refine awp_cond_p rfl (fun h2 => ?_) (fun h2 => ?_) | refine awp_cond rfl (fun h2 => ?_) (fun h2 => ?_)
    · skip
      refine awp_skip ?_
      change AWp _ _ _ _ _ _
      refine awp_seq ?_
      refine awp_block ?_
      refine awp_region ?_
      refine awl_move rfl rfl ?_
      first | refine awl_fieldAddr fi39_2_MeA rfl rfl ?_ | refine awl_fieldAddr_i fi39_2_MeA rfl rfl rfl ?_
      first | refine awl_load_one ti24_MeA rfl rfl rfl rfl ?_ | refine awl_load_ione ti24_MeA rfl rfl rfl ?_
      refine awl_move rfl rfl ?_
      refine x_index si24_MeA ti39_MeA rfl rfl rfl rfl (by omega) (by first | omega | (simp only [List.length_map]; omega) | (simp; omega)) hrow rfl ?_
      first | refine awl_load_row ti39_MeA rfl rfl rfl rfl ?_ | refine x_irow ti39_MeA rfl rfl rfl rfl ?_
      refine awl_move rfl rfl ?_
      refine awl_move rfl rfl ?_
      first | refine awl_bin rfl rfl rfl rfl (bin_sub_i (by omega)) ?_ | refine awl_bin rfl rfl rfl rfl bin_sub ?_
      refine awl_pcall fb51_MeA rfl (ih a (drop_mem hd) (most - m) (by omega) (by omega)) (.cons (by first | exact Sub.refl _ | exact Sub.ts | exact Sub.nil | exact Sub.agc (by repeat (first | exact .nil | refine .cons (by first | exact Sub.refl _ | exact Sub.nil) ?_))) (.cons (by first | exact Sub.refl _ | exact Sub.ts | exact Sub.nil | exact Sub.agc (by repeat (first | exact .nil | refine .cons (by first | exact Sub.refl _ | exact Sub.nil) ?_))) .nil)) rfl ?_
      first | refine awl_bin rfl rfl rfl rfl (bin_add_i (by omega)) ?_ | refine awl_bin rfl rfl rfl rfl bin_add ?_
      refine awl_assign rfl rfl ?_
      refine awl_nil ?_
      change AWp _ _ _ _ _ _
      refine awp_region ?_
      refine awl_move rfl rfl ?_
      first | refine awl_bin rfl rfl rfl rfl (bin_add_i (by omega)) ?_ | refine awl_bin rfl rfl rfl rfl bin_add ?_
      refine awl_assign rfl rfl ?_
      refine awl_nil ?_
      change ∃ x', _
      refine ⟨(i + 1, r', m + min (partsL a) (most - m + 1)), ⟨drop_next hd, by simp only; omega, by simp only; omega, by rw [hsp]; simp only [partsLs]; omega⟩, by simp, (Le.mk (.cons rfl (by first | exact Sub.refl _ | exact Sub.ts | exact Sub.nil | (refine Sub.eq ?_; first | (simp; done) | (simp; omega))) (.cons rfl (by first | exact Sub.refl _ | exact Sub.ts | exact Sub.nil | (refine Sub.eq ?_; first | (simp; done) | (simp; omega))) (.cons rfl (by first | exact Sub.refl _ | exact Sub.ts | exact Sub.nil | (refine Sub.eq ?_; first | (simp; done) | (simp; omega))) (.cons rfl (by first | exact Sub.refl _ | exact Sub.ts | exact Sub.nil | (refine Sub.eq ?_; first | (simp; done) | (simp; omega))) (.nil))))) (.cons rfl (by first | rfl | (simp; done)) (.nil)) rfl)⟩
    · skip
      refine awp_exit ?_
      change AWp _ _ _ _ _ _
      refine awp_seq ?_
      refine awp_region ?_
      refine awl_move rfl rfl ?_
      refine awl_move rfl rfl ?_
      first | refine awl_bin rfl rfl rfl rfl (bin_add_i (by omega)) ?_ | refine awl_bin rfl rfl rfl rfl bin_add ?_
      refine awl_min rfl rfl rfl ?_
      refine awl_assign rfl rfl ?_
      refine awl_nil ?_
      change AWp _ _ _ _ _ _
      refine awp_ret ?_
      change Ends _ _ _ _ _ _
      refine ends1 [] rfl (.tmp rfl) ?_ rfl
      refine ⟨I_eq ?_, rfl⟩
      omega
  · skip
    refine awl_guard_no rfl (by first | exact h1 | exact decide_eq_true h1 | exact decide_eq_false h1) rfl rfl rfl rfl ?_
    refine awl_guard_no rfl (by first | exact h1 | exact decide_eq_true h1 | exact decide_eq_false h1) rfl rfl rfl rfl ?_
    refine awl_guard_no rfl (by first | exact h1 | exact decide_eq_true h1 | exact decide_eq_false h1) rfl rfl rfl rfl ?_
    refine awl_pick_f (by first | exact h1 | exact decide_eq_true h1 | exact decide_eq_false h1) rfl rfl rfl ?_
    refine awl_nil ?_
    change AWp _ _ _ _ _ _
    refine awp_cond_f rfl rfl ?_
    refine awp_exit ?_
    change AWp _ _ _ _ _ _
    refine awp_seq ?_
    refine awp_region ?_
    refine awl_move rfl rfl ?_
    refine awl_move rfl rfl ?_
    first | refine awl_bin rfl rfl rfl rfl (bin_add_i (by omega)) ?_ | refine awl_bin rfl rfl rfl rfl bin_add ?_
    refine awl_min rfl rfl rfl ?_
    refine awl_assign rfl rfl ?_
    refine awl_nil ?_
    change AWp _ _ _ _ _ _
    refine awp_ret ?_
    change Ends _ _ _ _ _ _
    refine ends1 [] rfl (.tmp rfl) ?_ rfl
    refine ⟨I_eq ?_, rfl⟩
    obtain rfl := drop_end hd (by simp at h1; omega)
    simp only [partsLs] at hsp; omega
termination_by SizeOf.sizeOf t
decreasing_by exact Lvl.lt ha

theorem Deep_con (t : Lvl) : ∀ (most : Int), 0 ≤ most → most ≤ 4611686018427387904 →
    PCon Try.prog 62 [lv t, .p (I most)] (.p (I (min (deepL t) (most + 1)))) := by
  intro most hm0 hm
  have ih : ∀ a ∈ t.args, ∀ (most : Int), 0 ≤ most → most ≤ 4611686018427387904 → PCon Try.prog 62 [lv a, .p (I most)] (.p (I (min (deepL a) (most + 1)))) :=
    fun a ha most h0 h1 => Deep_con a most h0 h1
  have hpos := deepLs_pos t.args
  have hpe := deepL_eq t
  refine con_of Try.func62 rfl 30 Try.ntmps62 rfl fun cx hcx => ?_
  refine awp_seq ?_
  refine awp_region ?_
  refine awl_box rfl rfl rfl rfl rfl (by rw [hcx]; rfl) rfl ?_
  refine awl_assign rfl rfl ?_
  refine awl_nil ?_
  change AWp _ _ _ _ _ _
  refine awp_seq ?_
  refine awp_seq ?_
  refine awp_region ?_
  refine awl_move rfl rfl ?_
  refine awl_bin rfl rfl rfl rfl bin_leq ?_
  refine awl_nil ?_
  change AWp _ _ _ _ _ _
  first | refine awp_cond_p rfl (fun h1 => ?_) (fun h1 => ?_) | refine awp_cond rfl (fun h1 => ?_) (fun h1 => ?_)
  · skip
    refine awp_seq ?_
    refine awp_region ?_
    refine awl_move rfl rfl ?_
    first | refine awl_bin rfl rfl rfl rfl (bin_add_i (by omega)) ?_ | refine awl_bin rfl rfl rfl rfl bin_add ?_
    refine awl_assign rfl rfl ?_
    refine awl_nil ?_
    change AWp _ _ _ _ _ _
    refine awp_ret ?_
    change Ends _ _ _ _ _ _
    refine ends1 [] rfl (.tmp rfl) ?_ rfl
    refine ⟨I_eq ?_, rfl⟩
    omega
  · skip
    refine awp_skip ?_
    change AWp _ _ _ _ _ _
    refine awp_seq ?_
    refine awp_region ?_
    refine awl_assign rfl rfl ?_
    refine awl_nil ?_
    change AWp _ _ _ _ _ _
    refine awp_seq ?_
    refine awp_seq ?_
    refine awp_region ?_
    refine awl_assign rfl rfl ?_
    refine awl_nil ?_
    change AWp _ _ _ _ _ _
    refine awp_block ?_
    refine x_loop [(1, _), (2, _)] [(2, _)] (fun x : Nat × List Lvl × Int => [(6, .p (I x.1)), (5, .p (I x.2.2))]) (fun x => []) (fun x => t.args.drop x.1 = x.2.1 ∧ 0 ≤ x.2.2 ∧ x.2.2 ≤ most ∧ min (deepL t) (most + 1) = 1 + max x.2.2 (min (deepLs x.2.1) most)) (fun x => x.2.1.length) (0, t.args, 0) (Le.mk (.cons rfl (by first | exact Sub.refl _ | exact Sub.ts | exact Sub.nil | (refine Sub.eq ?_; first | (simp; done) | (simp; omega))) (.cons rfl (by first | exact Sub.refl _ | exact Sub.ts | exact Sub.nil | (refine Sub.eq ?_; first | (simp; done) | (simp; omega))) (.cons rfl (by first | exact Sub.refl _ | exact Sub.ts | exact Sub.nil | (refine Sub.eq ?_; first | (simp; done) | (simp; omega))) (.cons rfl (by first | exact Sub.refl _ | exact Sub.ts | exact Sub.nil | (refine Sub.eq ?_; first | (simp; done) | (simp; omega))) (.nil))))) (.cons rfl (by first | rfl | (simp; done)) (.nil)) rfl) ⟨rfl, by simp only; omega, by simp only; omega, by simp only; omega⟩ (fun x hx => ?_)
    obtain ⟨i, r, m⟩ := x
    obtain ⟨hd, hm1, hm2, hsp⟩ := hx
    simp only at hd hm1 hm2 hsp
    dsimp only [List.cons_append, List.nil_append]
    refine awp_seq ?_
    refine awp_seq ?_
    refine awp_region ?_
    refine awl_move rfl rfl ?_
    first | refine awl_fieldAddr fi39_2_MeA rfl rfl ?_ | refine awl_fieldAddr_i fi39_2_MeA rfl rfl rfl ?_
    first | refine awl_load_one ti24_MeA rfl rfl rfl rfl ?_ | refine awl_load_ione ti24_MeA rfl rfl rfl ?_
    refine x_len si24_MeA rfl rfl rfl (fun hlen14 => ?_)
    refine awl_bin rfl rfl rfl rfl bin_lss ?_
    refine awl_nil ?_
    change AWp _ _ _ _ _ _
    first | refine awp_cond_p rfl (fun h2 => ?_) (fun h2 => ?_) | refine awp_cond rfl (fun h2 => ?_) (fun h2 => ?_)
    · skip
      obtain ⟨a, r', rfl⟩ := drop_ne hd (by simp at h2; omega)
      have hrow := rowL_at hd
      have hb := deepL_pos a
      have hp := deepLs_pos r'
      have hps : deepLs (a :: r') = max (deepL a) (deepLs r') := rfl
      refine awp_skip ?_
      change AWp _ _ _ _ _ _
      refine awp_seq ?_
      refine awp_block ?_
      refine awp_region ?_
      refine awl_move rfl rfl ?_
      first | refine awl_fieldAddr fi39_2_MeA rfl rfl ?_ | refine awl_fieldAddr_i fi39_2_MeA rfl rfl rfl ?_
      first | refine awl_load_one ti24_MeA rfl rfl rfl rfl ?_ | refine awl_load_ione ti24_MeA rfl rfl rfl ?_
      refine awl_move rfl rfl ?_
      refine x_index si24_MeA ti39_MeA rfl rfl rfl rfl (by omega) (by first | omega | (simp only [List.length_map]; omega) | (simp; omega)) hrow rfl ?_
      first | refine awl_load_row ti39_MeA rfl rfl rfl rfl ?_ | refine x_irow ti39_MeA rfl rfl rfl rfl ?_
      refine awl_move rfl rfl ?_
      first | refine awl_bin rfl rfl rfl rfl (bin_sub_i (by omega)) ?_ | refine awl_bin rfl rfl rfl rfl bin_sub ?_
      refine awl_pcall fb62_MeA rfl (ih a (drop_mem hd) (most - 1) (by omega) (by omega)) (.cons (by first | exact Sub.refl _ | exact Sub.ts | exact Sub.nil | exact Sub.agc (by repeat (first | exact .nil | refine .cons (by first | exact Sub.refl _ | exact Sub.nil) ?_))) (.cons (by first | exact Sub.refl _ | exact Sub.ts | exact Sub.nil | exact Sub.agc (by repeat (first | exact .nil | refine .cons (by first | exact Sub.refl _ | exact Sub.nil) ?_))) .nil)) rfl ?_
      refine awl_max rfl rfl rfl ?_
      refine awl_assign rfl rfl ?_
      refine awl_nil ?_
      change AWp _ _ _ _ _ _
      refine awp_region ?_
      refine awl_move rfl rfl ?_
      first | refine awl_bin rfl rfl rfl rfl (bin_add_i (by omega)) ?_ | refine awl_bin rfl rfl rfl rfl bin_add ?_
      refine awl_assign rfl rfl ?_
      refine awl_nil ?_
      change ∃ x', _
      refine ⟨(i + 1, r', max m (min (deepL a) (most - 1 + 1))), ⟨drop_next hd, by simp only; omega, by simp only; omega, by rw [hsp]; simp only [deepLs]; omega⟩, by simp, (Le.mk (.cons rfl (by first | exact Sub.refl _ | exact Sub.ts | exact Sub.nil | (refine Sub.eq ?_; first | (simp; done) | (simp; omega))) (.cons rfl (by first | exact Sub.refl _ | exact Sub.ts | exact Sub.nil | (refine Sub.eq ?_; first | (simp; done) | (simp; omega))) (.cons rfl (by first | exact Sub.refl _ | exact Sub.ts | exact Sub.nil | (refine Sub.eq ?_; first | (simp; done) | (simp; omega))) (.cons rfl (by first | exact Sub.refl _ | exact Sub.ts | exact Sub.nil | (refine Sub.eq ?_; first | (simp; done) | (simp; omega))) (.nil))))) (.cons rfl (by first | rfl | (simp; done)) (.nil)) rfl)⟩
    · skip
      refine awp_exit ?_
      change AWp _ _ _ _ _ _
      refine awp_seq ?_
      refine awp_region ?_
      refine awl_move rfl rfl ?_
      first | refine awl_bin rfl rfl rfl rfl (bin_add_i (by omega)) ?_ | refine awl_bin rfl rfl rfl rfl bin_add ?_
      refine awl_assign rfl rfl ?_
      refine awl_nil ?_
      change AWp _ _ _ _ _ _
      refine awp_ret ?_
      change Ends _ _ _ _ _ _
      refine ends1 [] rfl (.tmp rfl) ?_ rfl
      refine ⟨I_eq ?_, rfl⟩
      obtain rfl := drop_end hd (by simp at h2; omega)
      simp only [deepLs] at hsp; omega
termination_by SizeOf.sizeOf t
decreasing_by exact Lvl.lt ha

mutual
def smallL : Lvl → Int → Int → Bool × Int
  | ⟨_, _, l⟩, d, p => if d > 32 then (false, p + 1) else if p + 1 > 64 then (false, p + 1) else smallLs l (d + 1) (p + 1)
def smallLs : List Lvl → Int → Int → Bool × Int
  | [], d, p => (true, p)
  | a :: r, d, p => if (smallL a d p).1 then smallLs r d (smallL a d p).2 else (false, (smallL a d p).2)
end
theorem smallL_eq (t : Lvl) (d p : Int) : smallL t d p = if d > 32 then (false, p + 1) else if p + 1 > 64 then (false, p + 1) else smallLs t.args (d + 1) (p + 1) := by cases t; rfl
mutual
theorem smallL_spec : ∀ (t : Lvl) (d p : Int), (smallL t d p).1 = decide (p + partsL t ≤ 64 ∧ d - 1 + deepL t ≤ 32) ∧ ((smallL t d p).1 = true → (smallL t d p).2 = p + partsL t)
  | ⟨k, n, l⟩, d, p => by
    simp only [smallL, partsL, deepL]
    have h1 := partsLs_pos l
    have h2 := deepLs_pos l
    by_cases hd : d > 32
    · rw [if_pos hd]; exact ⟨(decide_eq_false (by omega)).symm, by simp⟩
    · rw [if_neg hd]
      by_cases hp : p + 1 > 64
      · rw [if_pos hp]; exact ⟨(decide_eq_false (by omega)).symm, by simp⟩
      · rw [if_neg hp]
        have ⟨h3, h4⟩ := smallLs_spec l (d + 1) (p + 1) (by omega) (by omega)
        refine ⟨?_, fun h => ?_⟩
        · rw [h3]; congr 1; apply propext; constructor <;> (intro h; omega)
        · rw [h4 h]; omega
theorem smallLs_spec : ∀ (l : List Lvl) (d p : Int), d ≤ 33 → p ≤ 64 → (smallLs l d p).1 = decide (p + partsLs l ≤ 64 ∧ d - 1 + deepLs l ≤ 32) ∧ ((smallLs l d p).1 = true → (smallLs l d p).2 = p + partsLs l)
  | [], d, p, hd, hp => by
    simp only [smallLs, partsLs, deepLs]
    exact ⟨(decide_eq_true (by omega)).symm, fun _ => by omega⟩
  | a :: r, d, p, hd, hp => by
    simp only [smallLs, partsLs, deepLs]
    have ⟨h1, h2⟩ := smallL_spec a d p
    have h5 := partsLs_pos r
    have h6 := deepLs_pos r
    by_cases hb : (smallL a d p).1 = true
    · rw [if_pos hb]
      have h7 := h2 hb
      rw [h1] at hb
      have hb' := of_decide_eq_true hb
      have ⟨h3, h4⟩ := smallLs_spec r d (smallL a d p).2 hd (by omega)
      refine ⟨?_, fun h => ?_⟩
      · rw [h3, h7]; congr 1; apply propext; constructor <;> (intro h; omega)
      · rw [h4 h, h7]; omega
    · rw [if_neg hb]
      rw [h1] at hb
      have hb' : ¬ (p + partsL a ≤ 64 ∧ d - 1 + deepL a ≤ 32) := fun h => hb (decide_eq_true h)
      exact ⟨(decide_eq_false (by omega)).symm, by simp⟩
end

theorem small_con (t : Lvl) : ∀ (d p : Int), 0 ≤ d → d ≤ 33 → 0 ≤ p → p ≤ 64 →
    Con Try.prog 61 [lv t, .p (I d), .ptr 1000 0] [(1000, .ce 3 [.p (I p)])] (fun r o => r = .p (B (smallL t d p).1) ∧ o = [(1000, .ce 3 [.p (I (smallL t d p).2)])]) := by
  intro d p hd0 hd1 hp0 hp1
  have ih : ∀ a ∈ t.args, ∀ (d p : Int), 0 ≤ d → d ≤ 33 → 0 ≤ p → p ≤ 64 → Con Try.prog 61 [lv a, .p (I d), .ptr 1000 0] [(1000, .ce 3 [.p (I p)])] (fun r o => r = .p (B (smallL a d p).1) ∧ o = [(1000, .ce 3 [.p (I (smallL a d p).2)])]) :=
    fun a ha d p h0 h1 h2 h3 => small_con a d p h0 h1 h2 h3
  have hsm := smallL_eq t d p
  refine con_of Try.func61 rfl 36 Try.ntmps61 rfl fun cx hcx => ?_
  refine awp_seq ?_
  refine awp_region ?_
  refine awl_box rfl rfl rfl rfl rfl (by rw [hcx]; rfl) rfl ?_
  refine awl_assign rfl rfl ?_
  refine awl_nil ?_
  change AWp _ _ _ _ _ _
  refine awp_seq ?_
  refine awp_seq ?_
  refine awp_region ?_
  refine awl_move rfl rfl ?_
  refine awl_nilCheck rfl rfl rfl ?_
  first | refine awl_load_one ti3_MeA rfl rfl rfl rfl ?_ | refine awl_load_ione ti3_MeA rfl rfl rfl ?_
  first | refine awl_bin rfl rfl rfl rfl (bin_add_i (by omega)) ?_ | refine awl_bin rfl rfl rfl rfl bin_add ?_
  refine awl_nilCheck rfl rfl rfl ?_
  refine x_store ti3_MeA rfl rfl rfl rfl rfl rfl rfl rfl ?_
  refine awl_nil ?_
  change AWp _ _ _ _ _ _
  refine awp_seq ?_
  refine awp_region ?_
  refine awl_move rfl rfl ?_
  refine awl_bin rfl rfl rfl rfl bin_gtr ?_
  refine awl_move rfl rfl ?_
  first | refine awl_split_p 16 rfl (fun h1 => ?_) (fun h1 => ?_) | refine awl_split 16 rfl (fun h1 => ?_) (fun h1 => ?_)
  · skip
    refine awl_guard_no rfl (by first | exact h1 | exact decide_eq_true h1 | exact decide_eq_false h1) rfl rfl rfl rfl ?_
    refine awl_guard_no rfl (by first | exact h1 | exact decide_eq_true h1 | exact decide_eq_false h1) rfl rfl rfl rfl ?_
    refine awl_guard_no rfl (by first | exact h1 | exact decide_eq_true h1 | exact decide_eq_false h1) rfl rfl rfl rfl ?_
    refine awl_guard_no rfl (by first | exact h1 | exact decide_eq_true h1 | exact decide_eq_false h1) rfl rfl rfl rfl ?_
    refine awl_pick_t (by first | exact h1 | exact decide_eq_true h1 | exact decide_eq_false h1) rfl rfl rfl ?_
    refine awl_nil ?_
    change AWp _ _ _ _ _ _
    refine awp_cond_t rfl rfl ?_
    refine awp_seq ?_
    refine awp_region ?_
    refine awl_assign rfl rfl ?_
    refine awl_nil ?_
    change AWp _ _ _ _ _ _
    refine awp_ret ?_
    change Ends _ _ _ _ _ _
    refine ends1 [1000] rfl (.tmp rfl) ?_ rfl
    rw [hsm, if_pos h1]
    exact ⟨rfl, rfl⟩
  · skip
    refine awl_guard_yes rfl (by first | exact h1 | exact decide_eq_true h1 | exact decide_eq_false h1) rfl rfl ?_
    refine awl_move rfl rfl ?_
    refine awl_guard_yes rfl (by first | exact h1 | exact decide_eq_true h1 | exact decide_eq_false h1) rfl rfl ?_
    refine awl_nilCheck rfl rfl rfl ?_
    refine awl_guard_yes rfl (by first | exact h1 | exact decide_eq_true h1 | exact decide_eq_false h1) rfl rfl ?_
    first | refine awl_load_one ti3_MeA rfl rfl rfl rfl ?_ | refine awl_load_ione ti3_MeA rfl rfl rfl ?_
    refine awl_guard_yes rfl (by first | exact h1 | exact decide_eq_true h1 | exact decide_eq_false h1) rfl rfl ?_
    refine awl_bin rfl rfl rfl rfl bin_gtr ?_
    refine awl_pick_f (by first | exact h1 | exact decide_eq_true h1 | exact decide_eq_false h1) rfl rfl rfl ?_
    refine awl_nil ?_
    change AWp _ _ _ _ _ _
    first | refine awp_cond_p rfl (fun h2 => ?_) (fun h2 => ?_) | refine awp_cond rfl (fun h2 => ?_) (fun h2 => ?_)
    · skip
      refine awp_seq ?_
      refine awp_region ?_
      refine awl_assign rfl rfl ?_
      refine awl_nil ?_
      change AWp _ _ _ _ _ _
      refine awp_ret ?_
      change Ends _ _ _ _ _ _
      refine ends1 [1000] rfl (.tmp rfl) ?_ rfl
      rw [hsm, if_neg h1, if_pos h2]
      exact ⟨rfl, rfl⟩
    · skip
      refine awp_skip ?_
      change AWp _ _ _ _ _ _
      refine awp_seq ?_
      refine awp_seq ?_
      refine awp_region ?_
      first | refine awl_fieldAddr fi39_2_MeA rfl rfl ?_ | refine awl_fieldAddr_i fi39_2_MeA rfl rfl rfl ?_
      first | refine awl_load_one ti24_MeA rfl rfl rfl rfl ?_ | refine awl_load_ione ti24_MeA rfl rfl rfl ?_
      refine x_len si24_MeA rfl rfl rfl (fun hlen30 => ?_)
      refine awl_move rfl rfl ?_
      refine awl_nil ?_
      change AWp _ _ _ _ _ _
      refine awp_block ?_
      refine x_loop [(1, _), (2, _), (23, _), (24, _)] [] (fun x : Nat × List Lvl × Int => [(25, .p (I x.1))]) (fun x => [(1000, .ce 3 [.p (I x.2.2)])]) (fun x => t.args.drop x.1 = x.2.1 ∧ 0 ≤ x.2.2 ∧ x.2.2 ≤ 64 ∧ smallL t d p = smallLs x.2.1 (d + 1) x.2.2) (fun x => x.2.1.length) (0, t.args, p + 1) (Le.mk (.cons rfl (by first | exact Sub.refl _ | exact Sub.ts | exact Sub.nil | (refine Sub.eq ?_; first | (simp; done) | (simp; omega))) (.cons rfl (by first | exact Sub.refl _ | exact Sub.ts | exact Sub.nil | (refine Sub.eq ?_; first | (simp; done) | (simp; omega))) (.cons rfl (by first | exact Sub.refl _ | exact Sub.ts | exact Sub.nil | (refine Sub.eq ?_; first | (simp; done) | (simp; omega))) (.cons rfl (by first | exact Sub.refl _ | exact Sub.ts | exact Sub.nil | (refine Sub.eq ?_; first | (simp; done) | (simp; omega))) (.cons rfl (by first | exact Sub.refl _ | exact Sub.ts | exact Sub.nil | (refine Sub.eq ?_; first | (simp; done) | (simp; omega))) (.nil)))))) (.cons rfl (by first | rfl | (simp; done)) (.nil)) rfl) ⟨rfl, by simp only; omega, by simp only; omega, by rw [hsm, if_neg h1, if_neg h2]⟩ (fun x hx => ?_)
      obtain ⟨i, r, m⟩ := x
      obtain ⟨hd, hm0, hm1, hsp⟩ := hx
      simp only at hd hm0 hm1 hsp
      dsimp only [List.cons_append, List.nil_append]
      refine awp_seq ?_
      refine awp_region ?_
      refine awl_bin rfl rfl rfl rfl bin_lss ?_
      refine awl_nil ?_
      change AWp _ _ _ _ _ _
      refine awp_seq ?_
      first | refine awp_cond_p rfl (fun h3 => ?_) (fun h3 => ?_) | refine awp_cond rfl (fun h3 => ?_) (fun h3 => ?_)
      · skip
        obtain ⟨a, r', rfl⟩ := drop_ne hd (by simp at h3; omega)
        have hrow := rowL_at hd
        refine awp_skip ?_
        change AWp _ _ _ _ _ _
        refine awp_seq ?_
        refine awp_block ?_
        refine awp_seq ?_
        refine awp_region ?_
        refine x_index si24_MeA ti39_MeA rfl rfl rfl rfl (by omega) (by first | omega | (simp only [List.length_map]; omega) | (simp; omega)) hrow rfl ?_
        first | refine awl_load_row ti39_MeA rfl rfl rfl rfl ?_ | refine x_irow ti39_MeA rfl rfl rfl rfl ?_
        refine x_alloc tz39_MeA rfl rfl (by rw [hcx]; rfl) rfl ?_
        refine x_store ti39_MeA rfl rfl rfl rfl rfl rfl rfl rfl ?_
        refine awl_nil ?_
        change AWp _ _ _ _ _ _
        refine awp_seq ?_
        refine awp_region ?_
        first | refine awl_load_row ti39_MeA rfl rfl rfl rfl ?_ | refine x_irow ti39_MeA rfl rfl rfl rfl ?_
        refine awl_move rfl rfl ?_
        first | refine awl_bin rfl rfl rfl rfl (bin_add_i (by omega)) ?_ | refine awl_bin rfl rfl rfl rfl bin_add ?_
        refine awl_move rfl rfl ?_
        refine x_call [1000] fb61_MeA rfl rfl rfl (ih a (drop_mem hd) (d + 1) m (by omega) (by omega) hm0 hm1) (.cons (by first | exact Sub.refl _ | exact Sub.ts | exact Sub.nil | exact Sub.agc (by repeat (first | exact .nil | refine .cons (by first | exact Sub.refl _ | exact Sub.nil) ?_))) (.cons (by first | exact Sub.refl _ | exact Sub.ts | exact Sub.nil | exact Sub.agc (by repeat (first | exact .nil | refine .cons (by first | exact Sub.refl _ | exact Sub.nil) ?_))) (.cons (by first | exact Sub.refl _ | exact Sub.ts | exact Sub.nil | exact Sub.agc (by repeat (first | exact .nil | refine .cons (by first | exact Sub.refl _ | exact Sub.nil) ?_))) .nil))) rfl (fun r o ⟨e1, e2⟩ => ?_)
        subst e1 e2
        refine ⟨rfl, _, rfl, ?_⟩
        first | refine awl_un rfl rfl rfl un_notd ?_ | refine awl_un rfl rfl rfl un_not ?_
        refine awl_nil ?_
        change AWp _ _ _ _ _ _
        first | refine awp_cond_p rfl (fun h4 => ?_) (fun h4 => ?_) | refine awp_cond rfl (fun h4 => ?_) (fun h4 => ?_)
        · skip
          refine awp_seq ?_
          refine awp_region ?_
          refine awl_assign rfl rfl ?_
          refine awl_nil ?_
          change AWp _ _ _ _ _ _
          refine awp_ret ?_
          change Ends _ _ _ _ _ _
          refine ends1 [1000] rfl (.tmp rfl) ?_ rfl
          rw [hsp]; simp only [smallLs]
          rw [if_neg (by simpa using h4)]
          exact ⟨rfl, rfl⟩
        · skip
          have h4' : (smallL a (d + 1) m).1 = true := by simpa using h4
          have ⟨hs1, hs2⟩ := smallL_spec a (d + 1) m
          have hs3 := hs2 h4'
          rw [hs1] at h4'
          have hs4 := of_decide_eq_true h4'
          have hs5 := partsL_pos a
          refine awp_skip ?_
          change AWp _ _ _ _ _ _
          refine awp_region ?_
          first | refine awl_bin rfl rfl rfl rfl (bin_add_i (by omega)) ?_ | refine awl_bin rfl rfl rfl rfl bin_add ?_
          refine awl_move rfl rfl ?_
          refine awl_nil ?_
          change ∃ x', _
          refine ⟨(i + 1, r', (smallL a (d + 1) m).2), ⟨drop_next hd, by simp only; omega, by simp only; omega, by rw [hsp]; simp only [smallLs]; rw [if_pos (by simpa using h4)]⟩, by simp, (Le.mk (.cons rfl (by first | exact Sub.refl _ | exact Sub.ts | exact Sub.nil | (refine Sub.eq ?_; first | (simp; done) | (simp; omega))) (.cons rfl (by first | exact Sub.refl _ | exact Sub.ts | exact Sub.nil | (refine Sub.eq ?_; first | (simp; done) | (simp; omega))) (.cons rfl (by first | exact Sub.refl _ | exact Sub.ts | exact Sub.nil | (refine Sub.eq ?_; first | (simp; done) | (simp; omega))) (.cons rfl (by first | exact Sub.refl _ | exact Sub.ts | exact Sub.nil | (refine Sub.eq ?_; first | (simp; done) | (simp; omega))) (.cons rfl (by first | exact Sub.refl _ | exact Sub.ts | exact Sub.nil | (refine Sub.eq ?_; first | (simp; done) | (simp; omega))) (.nil)))))) (.cons rfl (by first | rfl | (simp; done)) (.nil)) rfl)⟩
      · skip
        refine awp_exit ?_
        change AWp _ _ _ _ _ _
        refine awp_seq ?_
        refine awp_region ?_
        refine awl_assign rfl rfl ?_
        refine awl_nil ?_
        change AWp _ _ _ _ _ _
        refine awp_ret ?_
        change Ends _ _ _ _ _ _
        refine ends1 [1000] rfl (.tmp rfl) ?_ rfl
        rw [hsp]
        obtain rfl := drop_end hd (by simp at h3; omega)
        exact ⟨rfl, rfl⟩
termination_by SizeOf.sizeOf t
decreasing_by exact Lvl.lt ha

end Go.Ab.Ytfgndomaadikoaa
