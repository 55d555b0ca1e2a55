/- The law LevelPlaces. -/
import Derived.Test.YtfgndomaadikoaaLvV
import Derived.Test.YtfgndomaadikoaaAb23
set_option linter.unusedVariables false
set_option linter.unusedSimpArgs false
namespace Go.Ab.Ytfgndomaadikoaa
open Go Go.RowKit Go.Ab Go.Proofs

theorem fb23_LvW : FB Try.prog 23 := ⟨_, Try.func23, rfl, by kernel_rfl⟩
theorem si45_LvW : SI Try.prog 45 5 := ⟨Try.underlying45⟩
theorem fb29_LvW : FB Try.prog 29 := ⟨_, Try.func29, rfl, by kernel_rfl⟩
theorem fb30_LvW : FB Try.prog 30 := ⟨_, Try.func30, rfl, by kernel_rfl⟩
theorem tz39_LvW : TZ Try.prog 39 [(.int .i64 0), (.int .i64 0), (.slice none 0 0)] := ⟨⟨.agg #[(.int .i64 0), (.int .i64 0), (.slice none 0 0)], by kernel_rfl, rfl⟩, by kernel_rfl⟩
theorem ti39_LvW : TI Try.prog 39 3 true := ⟨by kernel_rfl, by kernel_rfl⟩
theorem si24_LvW : SI Try.prog 24 39 := ⟨Try.underlying24⟩
theorem ei39_LvW : EI Try.prog 39 3 40 := ⟨by kernel_rfl⟩
theorem fb26_LvW : FB Try.prog 26 := ⟨_, Try.func26, rfl, by kernel_rfl⟩
theorem hmo_LvW : Try.prog.follows .mixedOrders = true := by kernel_rfl
theorem si41_LvW : SI Try.prog 41 3 := ⟨Try.underlying41⟩
theorem ei3_LvW : EI Try.prog 3 1 8 := ⟨by kernel_rfl⟩
theorem ti3_LvW : TI Try.prog 3 1 false := ⟨by kernel_rfl, by kernel_rfl⟩
theorem fb27_LvW : FB Try.prog 27 := ⟨_, Try.func27, rfl, by kernel_rfl⟩
theorem fb31_LvW : FB Try.prog 31 := ⟨_, Try.func31, rfl, by kernel_rfl⟩

/-! The same with 500 for what is great. -/
def isP_h (x : Int) : Prop := x = 0 ∨ x = 1 ∨ x = 500

theorem co_h {q c e : Int} (d : c = 0 ∨ c = 1) (u : q = 0 → c = 1) (v : q ≠ 0 → c = 0) (k : e = c ∨ e = 500 * c) : (q = 0 → 1 ≤ e) ∧ (q ≠ 0 → e = 0) ∧ (0 ≤ e ∧ e ≤ 1099511627776) ∧ isP_h e := by
  refine ⟨fun h => ?_, fun h => ?_, ?_⟩
  · have := u h; omega
  · have := v h; omega
  · unfold isP_h; omega
theorem shr_small_h {p x : Int} (hp : p ≤ 32) (hx : x ≤ 1) : shr p x ≤ 33 := by unfold shr; split <;> omega
theorem shr_big_h {p P : Int} (h : p < P) (hP : 0 ≤ P) : shr p 500 ≤ P + 499 := by unfold shr; split <;> omega
theorem ex_bit_h (q : Int) : ∃ c : Int, (c = 0 ∨ c = 1) ∧ (q = 0 → c = 1) ∧ (q ≠ 0 → c = 0) := by
  by_cases hq : q = 0
  · exact ⟨1, .inr rfl, fun _ => rfl, fun h => absurd hq h⟩
  · exact ⟨0, .inl rfl, fun h => absurd h hq, fun _ => rfl⟩

/-- What is told at each place of the pattern z. -/
def Both_h (f g : Flat) (c0 c1 c2 c3 : Int) : Prop := ∀ e0 e1 e2 e3 : Int, (e0 = c0 ∨ e0 = 500 * c0) → (e1 = c1 ∨ e1 = 500 * c1) → (e2 = c2 ∨ e2 = 500 * c2) → (e3 = c3 ∨ e3 = 500 * c3) →
  valF f e0 e1 e2 e3 ≤ valF g e0 e1 e2 e3 ∧ actF f e0 e1 e2 e3

theorem cmp0_h {f g : Flat} {c0 c1 c2 c3 : Int} (hf : f.ok 32) (hg : g.ok 32) (h : Both_h f g c0 c1 c2 c3) (d0 : c0 = 0 ∨ c0 = 1) (d1 : c1 = 0 ∨ c1 = 1) (d2 : c2 = 0 ∨ c2 = 1) (d3 : c3 = 0 ∨ c3 = 1) : f.p0 ≤ g.p0 := by
  rcases Int.lt_or_le g.p0 f.p0 with hlt | hle
  · exfalso
    obtain ⟨q1, q2⟩ := h (500 * c0) c1 c2 c3 (.inr rfl) (.inl rfl) (.inl rfl) (.inl rfl)
    obtain ⟨b0, b1, b2, b3, b4⟩ := hg
    have hp : f.p0 ≥ 0 := by omega
    have hact : c0 = 1 := by have := q2.1 hp; omega
    have e : 500 * c0 = 500 := by omega
    rw [e] at q1
    have k1 := (val_ge f 500 c1 c2 c3).2.1
    rw [shr_pos hp] at k1
    have k2 : valF g 500 c1 c2 c3 ≤ f.p0 + 499 := val_le (by omega) (shr_big_h hlt hp) (Int.le_trans (shr_small_h b2.2 (by omega)) (by omega)) (Int.le_trans (shr_small_h b3.2 (by omega)) (by omega)) (Int.le_trans (shr_small_h b4.2 (by omega)) (by omega))
    omega
  · exact hle
theorem cmp1_h {f g : Flat} {c0 c1 c2 c3 : Int} (hf : f.ok 32) (hg : g.ok 32) (h : Both_h f g c0 c1 c2 c3) (d0 : c0 = 0 ∨ c0 = 1) (d1 : c1 = 0 ∨ c1 = 1) (d2 : c2 = 0 ∨ c2 = 1) (d3 : c3 = 0 ∨ c3 = 1) : f.p1 ≤ g.p1 := by
  rcases Int.lt_or_le g.p1 f.p1 with hlt | hle
  · exfalso
    obtain ⟨q1, q2⟩ := h c0 (500 * c1) c2 c3 (.inl rfl) (.inr rfl) (.inl rfl) (.inl rfl)
    obtain ⟨b0, b1, b2, b3, b4⟩ := hg
    have hp : f.p1 ≥ 0 := by omega
    have hact : c1 = 1 := by have := q2.2.1 hp; omega
    have e : 500 * c1 = 500 := by omega
    rw [e] at q1
    have k1 := (val_ge f c0 500 c2 c3).2.2.1
    rw [shr_pos hp] at k1
    have k2 : valF g c0 500 c2 c3 ≤ f.p1 + 499 := val_le (by omega) (Int.le_trans (shr_small_h b1.2 (by omega)) (by omega)) (shr_big_h hlt hp) (Int.le_trans (shr_small_h b3.2 (by omega)) (by omega)) (Int.le_trans (shr_small_h b4.2 (by omega)) (by omega))
    omega
  · exact hle
theorem cmp2_h {f g : Flat} {c0 c1 c2 c3 : Int} (hf : f.ok 32) (hg : g.ok 32) (h : Both_h f g c0 c1 c2 c3) (d0 : c0 = 0 ∨ c0 = 1) (d1 : c1 = 0 ∨ c1 = 1) (d2 : c2 = 0 ∨ c2 = 1) (d3 : c3 = 0 ∨ c3 = 1) : f.p2 ≤ g.p2 := by
  rcases Int.lt_or_le g.p2 f.p2 with hlt | hle
  · exfalso
    obtain ⟨q1, q2⟩ := h c0 c1 (500 * c2) c3 (.inl rfl) (.inl rfl) (.inr rfl) (.inl rfl)
    obtain ⟨b0, b1, b2, b3, b4⟩ := hg
    have hp : f.p2 ≥ 0 := by omega
    have hact : c2 = 1 := by have := q2.2.2.1 hp; omega
    have e : 500 * c2 = 500 := by omega
    rw [e] at q1
    have k1 := (val_ge f c0 c1 500 c3).2.2.2.1
    rw [shr_pos hp] at k1
    have k2 : valF g c0 c1 500 c3 ≤ f.p2 + 499 := val_le (by omega) (Int.le_trans (shr_small_h b1.2 (by omega)) (by omega)) (Int.le_trans (shr_small_h b2.2 (by omega)) (by omega)) (shr_big_h hlt hp) (Int.le_trans (shr_small_h b4.2 (by omega)) (by omega))
    omega
  · exact hle
theorem cmp3_h {f g : Flat} {c0 c1 c2 c3 : Int} (hf : f.ok 32) (hg : g.ok 32) (h : Both_h f g c0 c1 c2 c3) (d0 : c0 = 0 ∨ c0 = 1) (d1 : c1 = 0 ∨ c1 = 1) (d2 : c2 = 0 ∨ c2 = 1) (d3 : c3 = 0 ∨ c3 = 1) : f.p3 ≤ g.p3 := by
  rcases Int.lt_or_le g.p3 f.p3 with hlt | hle
  · exfalso
    obtain ⟨q1, q2⟩ := h c0 c1 c2 (500 * c3) (.inl rfl) (.inl rfl) (.inl rfl) (.inr rfl)
    obtain ⟨b0, b1, b2, b3, b4⟩ := hg
    have hp : f.p3 ≥ 0 := by omega
    have hact : c3 = 1 := by have := q2.2.2.2 hp; omega
    have e : 500 * c3 = 500 := by omega
    rw [e] at q1
    have k1 := (val_ge f c0 c1 c2 500).2.2.2.2
    rw [shr_pos hp] at k1
    have k2 : valF g c0 c1 c2 500 ≤ f.p3 + 499 := val_le (by omega) (Int.le_trans (shr_small_h b1.2 (by omega)) (by omega)) (Int.le_trans (shr_small_h b2.2 (by omega)) (by omega)) (Int.le_trans (shr_small_h b3.2 (by omega)) (by omega)) (shr_big_h hlt hp)
    omega
  · exact hle
theorem cmpB_h {f g : Flat} {c0 c1 c2 c3 : Int} (hf : f.ok 32) (hg : g.ok 32) (h : Both_h f g c0 c1 c2 c3) (d0 : c0 = 0 ∨ c0 = 1) (d1 : c1 = 0 ∨ c1 = 1) (d2 : c2 = 0 ∨ c2 = 1) (d3 : c3 = 0 ∨ c3 = 1) : f.b ≤ leastF g := by
  obtain ⟨q1, q2⟩ := h c0 c1 c2 c3 (.inl rfl) (.inl rfl) (.inl rfl) (.inl rfl)
  rw [least_val hg.1.1]
  have k1 := (val_ge f c0 c1 c2 c3).1
  have key : ∀ p c : Int, (c = 0 ∨ c = 1) → shr p c ≤ shr p 1 := fun p c hc => by unfold shr; split <;> omega
  have k2 := val_ge g 1 1 1 1
  have k3 : valF g c0 c1 c2 c3 ≤ valF g 1 1 1 1 :=
    val_le k2.1 (Int.le_trans (key _ _ d0) k2.2.1) (Int.le_trans (key _ _ d1) k2.2.2.1) (Int.le_trans (key _ _ d2) k2.2.2.2.1) (Int.le_trans (key _ _ d3) k2.2.2.2.2)
  omega

theorem leq_complete_h {a b : Lvl} (hwa : wfL a 4 = true) (hwb : wfL b 4 = true) (hda : deepL a ≤ 32) (hdb : deepL b ≤ 32)
    (h : ∀ x0 x1 x2 x3 : Int, isP_h x0 → isP_h x1 → isP_h x2 → isP_h x3 → evalF [x0, x1, x2, x3] a ≤ evalF [x0, x1, x2, x3] b) : leqF a b = true := by
  refine List.all_eq_true.2 fun zn hz => ?_
  generalize (zn : Int) = z
  have hf := Flat.ok_mono (flatF_ok z a) hda
  have hg := Flat.ok_mono (flatF_ok z b) hdb
  obtain ⟨c0, d0, u0, v0⟩ := ex_bit_h (bitF z 0)
  obtain ⟨c1, d1, u1, v1⟩ := ex_bit_h (bitF z 1)
  obtain ⟨c2, d2, u2, v2⟩ := ex_bit_h (bitF z 2)
  obtain ⟨c3, d3, u3, v3⟩ := ex_bit_h (bitF z 3)
  have hB : Both_h (flatF z a) (flatF z b) c0 c1 c2 c3 := fun e0 e1 e2 e3 k0 k1 k2 k3 => by
    obtain ⟨s0, t0, r0, p0⟩ := co_h d0 u0 v0 k0
    obtain ⟨s1, t1, r1, p1⟩ := co_h d1 u1 v1 k1
    obtain ⟨s2, t2, r2, p2⟩ := co_h d2 u2 v2 k2
    obtain ⟨s3, t3, r3, p3⟩ := co_h d3 u3 v3 k3
    have hfit : fitZ z e0 e1 e2 e3 := ⟨s0, s1, s2, s3, t0, t1, t2, t3⟩
    have hin : inX e0 e1 e2 e3 := ⟨r0, r1, r2, r3⟩
    obtain ⟨i1, i2⟩ := flat_eval z e0 e1 e2 e3 hfit hin a hwa
    obtain ⟨j1, j2⟩ := flat_eval z e0 e1 e2 e3 hfit hin b hwb
    have := h e0 e1 e2 e3 p0 p1 p2 p3
    rw [i1, j1] at this
    exact ⟨this, i2⟩
  exact decide_eq_true ⟨cmp0_h hf hg hB d0 d1 d2 d3, cmp1_h hf hg hB d0 d1 d2 d3, cmp2_h hf hg hB d0 d1 d2 d3, cmp3_h hf hg hB d0 d1 d2 d3, cmpB_h hf hg hB d0 d1 d2 d3⟩


theorem pL_wf (l : List Int) (hl : okB l) (v : Int) (hv : 0 ≤ v) : ∀ (f : Nat) (a : Int), wfL (pL l v f a).1 v = true
  | 0, a => by simp [pL, wfL, wfLs, hereL, argsOf]
  | f + 1, a => by
    have h2 := pL_wf l hl v hv f (nxA l a 6)
    have h3 := pL_wf l hl v hv f (pL l v f (nxA l a 6)).2
    rw [pL_eq]
    split
    · simp [wfL, wfLs, hereL, argsOf, h2]
    · split
      · simp [wfL, wfLs, hereL, argsOf, h2, h3]
      · split
        · simp [wfL, wfLs, hereL, argsOf, h2, h3]
        · split
          · rename_i hc
            have hb := okB_at hl (nxA l a 6).toNat
            have h0 : 0 ≤ nxt l (nxA l a 6) v ∧ nxt l (nxA l a 6) v < v := by
              unfold nxt
              split
              · omega
              · exact ⟨Int.emod_nonneg _ (by omega), Int.emod_lt_of_pos _ hc.2⟩
            have hh : hereL 4 (nxt l (nxA l a 6) v) 0 v := ⟨rfl, fun q => by rcases q.2 with q | q <;> omega, fun q => q.1 rfl⟩
            simp [wfL, wfLs, hh]
          · simp [wfL, wfLs, hereL, argsOf]

/-! With three numbers. -/
theorem evK_three (x0 x1 x2 x3 k n : Int) (hn : k = 4 → n < 3) (vs : List Int) : evK [x0, x1, x2, x3] k n vs = evK [x0, x1, x2] k n vs := by
  unfold evK
  split
  · rfl
  · split
    · rfl
    · split
      · rfl
      · split
        · rename_i h4
          have := hn h4
          by_cases h : 0 ≤ n
          · rcases (by omega : n = 0 ∨ n = 1 ∨ n = 2) with rfl | rfl | rfl <;> simp
          · rw [if_neg (by omega), if_neg (by omega)]
        · rfl
mutual
theorem eval_three (x0 x1 x2 x3 : Int) : ∀ t : Lvl, wfL t 3 = true → evalF [x0, x1, x2, x3] t = evalF [x0, x1, x2] t
  | ⟨k, n, l⟩, h => by
    have h1 := wf_here h
    simp only [wfL, Bool.and_eq_true] at h
    simp only [evalF]
    rw [evals_three x0 x1 x2 x3 l h.2, evK_three x0 x1 x2 x3 k n (fun hk => by
      have := h1.2.1
      simp only [hk, true_and, not_or] at this
      omega)]
theorem evals_three (x0 x1 x2 x3 : Int) : ∀ l : List Lvl, wfLs l 3 = true → evalFs [x0, x1, x2, x3] l = evalFs [x0, x1, x2] l
  | [], _ => rfl
  | a :: r, h => by
    simp only [wfLs, Bool.and_eq_true] at h
    simp only [evalFs]; rw [eval_three x0 x1 x2 x3 a h.1, evals_three x0 x1 x2 x3 r h.2]
end

def k5 (q : Int) : Int := if q = 0 then 0 else if q = 1 then 1 else 500
theorem row5 {q : Int} (h : 0 ≤ q) (h3 : q < 3) : rowAt ([[I 0], [I 1], [I 500]] : List (List PV)) q = [I (k5 q)] := by
  rcases (by omega : q = 0 ∨ q = 1 ∨ q = 2) with rfl | rfl | rfl <;> rfl
/-- The place i. -/
def plc (i : Nat) : List Int := [k5 ((i : Int) % 3), k5 ((i : Int) / 3 % 3), k5 ((i : Int) / 9)]
/-- Is a more than b at one of the first i places? -/
def mo (a b : Lvl) (i : Nat) : Bool := (List.range i).any fun j => decide (evalF (plc j) a > evalF (plc j) b)
theorem mo_zero (a b : Lvl) : mo a b 0 = false := rfl
theorem mo_succ (a b : Lvl) (i : Nat) : mo a b (i + 1) = (mo a b i || decide (evalF (plc i) a > evalF (plc i) b)) := by
  unfold mo
  rw [List.range_succ, List.any_append]
  simp
theorem plc_all {x0 x1 x2 : Int} (h0 : isP_h x0) (h1 : isP_h x1) (h2 : isP_h x2) : ∃ i, i < 27 ∧ plc i = [x0, x1, x2] := by
  rcases h0 with rfl | rfl | rfl <;> rcases h1 with rfl | rfl | rfl <;> rcases h2 with rfl | rfl | rfl
  · exact ⟨0, by omega, by decide⟩
  · exact ⟨9, by omega, by decide⟩
  · exact ⟨18, by omega, by decide⟩
  · exact ⟨3, by omega, by decide⟩
  · exact ⟨12, by omega, by decide⟩
  · exact ⟨21, by omega, by decide⟩
  · exact ⟨6, by omega, by decide⟩
  · exact ⟨15, by omega, by decide⟩
  · exact ⟨24, by omega, by decide⟩
  · exact ⟨1, by omega, by decide⟩
  · exact ⟨10, by omega, by decide⟩
  · exact ⟨19, by omega, by decide⟩
  · exact ⟨4, by omega, by decide⟩
  · exact ⟨13, by omega, by decide⟩
  · exact ⟨22, by omega, by decide⟩
  · exact ⟨7, by omega, by decide⟩
  · exact ⟨16, by omega, by decide⟩
  · exact ⟨25, by omega, by decide⟩
  · exact ⟨2, by omega, by decide⟩
  · exact ⟨11, by omega, by decide⟩
  · exact ⟨20, by omega, by decide⟩
  · exact ⟨5, by omega, by decide⟩
  · exact ⟨14, by omega, by decide⟩
  · exact ⟨23, by omega, by decide⟩
  · exact ⟨8, by omega, by decide⟩
  · exact ⟨17, by omega, by decide⟩
  · exact ⟨26, by omega, by decide⟩
theorem places_law {a b : Lvl} (hA : lt4 a) (hB : lt4 b) (wa : wfL a 3 = true) (wb : wfL b 3 = true) : (leqF a b == !mo a b 27) = true := by
  rw [beq_iff_eq]
  refine Bool.eq_iff_iff.2 ⟨fun h => ?_, fun h => ?_⟩
  · simp only [Bool.not_eq_true', mo, List.any_eq_false, decide_eq_true_eq]
    intro i _
    have := leq_sound' (k5 ((i : Int) % 3)) (k5 ((i : Int) / 3 % 3)) (k5 ((i : Int) / 9)) 0 hA.2.2 hB.2.2 h
    rw [eval_three _ _ _ _ a wa, eval_three _ _ _ _ b wb] at this
    unfold plc; omega
  · simp only [Bool.not_eq_true', mo, List.any_eq_false, decide_eq_true_eq, List.mem_range] at h
    refine leq_complete_h hA.2.2 hB.2.2 hA.2.1 hB.2.1 fun x0 x1 x2 x3 p0 p1 p2 p3 => ?_
    obtain ⟨i, hi, e⟩ := plc_all p0 p1 p2
    have := h i hi
    rw [e] at this
    rw [eval_three _ _ _ _ a wa, eval_three _ _ _ _ b wb]; omega

theorem LevelPlaces_con (picks : List Int) (hl : okB picks) (hll : (picks.length : Int) ≤ 9223372036854775807) :
    PCon Try.prog 12 [.p (.sl 1 (byts picks))] (.p (B true)) := by
  have hg := pL_ge picks 3 (picks.length + 1) 0
  have wa := pL_wf picks hl 3 (by omega) (picks.length + 1) 0
  have wb := pL_wf picks hl 3 (by omega) (picks.length + 1) (pL picks 3 (picks.length + 1) 0).2
  refine con_of Try.func12 rfl 62 Try.ntmps12 rfl fun cx hcx => ?_
  refine awp_seq ?_
  refine awp_region ?_
  refine awl_assign rfl rfl ?_
  refine awl_nil ?_
  change AWp _ _ _ _ _ _
  refine awp_seq ?_
  refine awp_seq ?_
  refine awp_region ?_
  refine awl_pcall fb23_LvW rfl (begun4_con) .nil rfl ?_
  first | refine awl_un rfl rfl rfl un_notd ?_ | refine awl_un rfl rfl rfl un_not ?_
  refine awl_nil ?_
  change AWp _ _ _ _ _ _
  refine awp_cond_f (by first | exact rfl | exact decide_eq_true rfl | exact decide_eq_false rfl) rfl ?_
  refine awp_skip ?_
  change AWp _ _ _ _ _ _
  refine awp_seq ?_
  refine awp_seq ?_
  refine awp_region ?_
  refine awl_move rfl rfl ?_
  refine x_len si45_LvW rfl rfl rfl (fun hlen5 => ?_)
  refine awl_bin rfl rfl rfl rfl bin_gtr ?_
  refine awl_nil ?_
  change AWp _ _ _ _ _ _
  first | refine awp_cond_p rfl (fun hm => ?_) (fun hm => ?_) | refine awp_cond rfl (fun hm => ?_) (fun hm => ?_)
  · skip
    refine awp_seq ?_
    refine awp_region ?_
    refine awl_assign rfl rfl ?_
    refine awl_nil ?_
    change AWp _ _ _ _ _ _
    refine awp_ret ?_
    change Ends _ _ _ _ _ _
    refine ends1 [] rfl (.tmp rfl) ?_ rfl
    first | exact ⟨rfl, rfl⟩ | (have h27 : i = 27 := (by omega); subst h27; exact ⟨B_eq (places_law hA hB wa wb), rfl⟩)
  · skip
    refine awp_skip ?_
    change AWp _ _ _ _ _ _
    refine awp_seq ?_
    refine awp_region ?_
    refine awl_move rfl rfl ?_
    refine x_call [] fb29_LvW rfl rfl rfl ((Made_con picks).sw 5 800) (.cons (by first | exact Sub.refl _ | exact Sub.ts | exact Sub.nil | exact Sub.agc (by repeat (first | exact .nil | refine .cons (by first | exact Sub.refl _ | exact Sub.nil) ?_))) .nil) rfl (fun r o ⟨_, _, ⟨e1, e2⟩, e3, e4⟩ => ?_)
    subst e1 e2 e3 e4
    refine ⟨by rw [hcx]; rfl, _, rfl, ?_⟩
    refine awl_assign rfl rfl ?_
    refine awl_nil ?_
    change AWp _ _ _ _ _ _
    refine awp_seq ?_
    refine awp_region ?_
    refine awl_move rfl rfl ?_
    refine x_call [800] fb30_LvW rfl rfl rfl ((Level_con picks hl hll 3 (by omega) (picks.length + 1) 0 (by omega) (by omega) (by omega)).sw 1000 800) (.cons (by first | exact Sub.refl _ | exact Sub.ts | exact Sub.nil | exact Sub.agc (by repeat (first | exact .nil | refine .cons (by first | exact Sub.refl _ | exact Sub.nil) ?_))) (.cons (by first | exact Sub.refl _ | exact Sub.ts | exact Sub.nil | exact Sub.agc (by repeat (first | exact .nil | refine .cons (by first | exact Sub.refl _ | exact Sub.nil) ?_))) .nil)) rfl (fun r o ⟨_, _, ⟨e1, e2⟩, e3, e4⟩ => ?_)
    subst e1 e2 e3 e4
    refine ⟨by rw [hcx]; rfl, _, rfl, ?_⟩
    refine x_alloc tz39_LvW rfl rfl (by rw [hcx]; rfl) rfl ?_
    refine x_store ti39_LvW rfl rfl rfl rfl rfl rfl rfl rfl ?_
    refine awl_nil ?_
    change AWp _ _ _ _ _ _
    refine awp_seq ?_
    refine awp_region ?_
    refine awl_move rfl rfl ?_
    refine x_call [800] fb30_LvW rfl rfl rfl ((Level_con picks hl hll 3 (by omega) (picks.length + 1) (pL picks 3 (picks.length + 1) 0).2 (by omega) (by omega) (by omega)).sw 1000 800) (.cons (by first | exact Sub.refl _ | exact Sub.ts | exact Sub.nil | exact Sub.agc (by repeat (first | exact .nil | refine .cons (by first | exact Sub.refl _ | exact Sub.nil) ?_))) (.cons (by first | exact Sub.refl _ | exact Sub.ts | exact Sub.nil | exact Sub.agc (by repeat (first | exact .nil | refine .cons (by first | exact Sub.refl _ | exact Sub.nil) ?_))) .nil)) rfl (fun r o ⟨_, _, ⟨e1, e2⟩, e3, e4⟩ => ?_)
    subst e1 e2 e3 e4
    refine ⟨by rw [hcx]; rfl, _, rfl, ?_⟩
    refine x_alloc tz39_LvW rfl rfl (by rw [hcx]; rfl) rfl ?_
    refine x_store ti39_LvW rfl rfl rfl rfl rfl rfl rfl rfl ?_
    refine awl_nil ?_
    change AWp _ _ _ _ _ _
    refine awp_seq ?_
    refine awp_seq ?_
    refine awp_region ?_
    first | refine awl_load_row ti39_LvW rfl rfl rfl rfl ?_ | refine x_irow ti39_LvW rfl rfl rfl rfl ?_
    first | refine awl_load_row ti39_LvW rfl rfl rfl rfl ?_ | refine x_irow ti39_LvW rfl rfl rfl rfl ?_
    refine x_slice si24_LvW ei39_LvW rfl rfl rfl rfl ?_
    refine awl_sub (sub_two _ _) ?_
    refine awl_pcall fb26_LvW rfl (Light_con _) (.cons (by first | exact Sub.refl _ | exact Sub.ts | exact Sub.nil | exact Sub.agc (by repeat (first | exact .nil | refine .cons (by first | exact Sub.refl _ | exact Sub.nil) ?_))) .nil) rfl ?_
    first | refine awl_un rfl rfl rfl un_notd ?_ | refine awl_un rfl rfl rfl un_not ?_
    refine awl_nil ?_
    change AWp _ _ _ _ _ _
    first | refine awp_cond_p rfl (fun hg2 => ?_) (fun hg2 => ?_) | refine awp_cond rfl (fun hg2 => ?_) (fun hg2 => ?_)
    · skip
      refine awp_seq ?_
      refine awp_region ?_
      refine awl_assign rfl rfl ?_
      refine awl_nil ?_
      change AWp _ _ _ _ _ _
      refine awp_ret ?_
      change Ends _ _ _ _ _ _
      refine ends1 [] rfl (.tmp rfl) ?_ rfl
      first | exact ⟨rfl, rfl⟩ | (have h27 : i = 27 := (by omega); subst h27; exact ⟨B_eq (places_law hA hB wa wb), rfl⟩)
    · skip
      obtain ⟨hA, hB⟩ := light2 hg2
      refine awp_skip ?_
      change AWp _ _ _ _ _ _
      refine awp_seq ?_
      refine awp_region ?_
      refine awl_assign rfl rfl ?_
      refine awl_nil ?_
      change AWp _ _ _ _ _ _
      refine awp_seq ?_
      refine awp_seq ?_
      refine awp_region ?_
      refine awl_assign rfl rfl ?_
      refine awl_nil ?_
      change AWp _ _ _ _ _ _
      refine awp_block ?_
      refine x_loop [(4, _), (5, _)] [(5, _), (4, _)] (fun x : Nat => [(7, .p (I x)), (6, .p (B (mo (pL picks 3 (picks.length + 1) 0).1 (pL picks 3 (picks.length + 1) (pL picks 3 (picks.length + 1) 0).2).1 x)))]) (fun x => []) (fun x => x ≤ 27) (fun x => 27 - x) 0 (Le.mk (.cons rfl (by first | exact Sub.refl _ | exact Sub.ts | exact Sub.nil | (refine Sub.eq ?_; first | (simp; done) | (simp; omega) | (rw [mo_succ, hq]; simp))) (.cons rfl (by first | exact Sub.refl _ | exact Sub.ts | exact Sub.nil | (refine Sub.eq ?_; first | (simp; done) | (simp; omega) | (rw [mo_succ, hq]; simp))) (.cons rfl (by first | exact Sub.refl _ | exact Sub.ts | exact Sub.nil | (refine Sub.eq ?_; first | (simp; done) | (simp; omega) | (rw [mo_succ, hq]; simp))) (.cons rfl (by first | exact Sub.refl _ | exact Sub.ts | exact Sub.nil | (refine Sub.eq ?_; first | (simp; done) | (simp; omega) | (rw [mo_succ, hq]; simp))) (.nil))))) (.cons rfl (by first | rfl | (simp; done)) (.cons rfl (by first | rfl | (simp; done)) (.nil))) rfl) (by omega) (fun x hx => ?_)
      have hi27 : x ≤ 27 := hx
      obtain ⟨i, hie⟩ : ∃ i, i = x := ⟨x, rfl⟩
      subst hie
      dsimp only [List.cons_append, List.nil_append]
      refine awp_seq ?_
      refine awp_seq ?_
      refine awp_region ?_
      refine awl_move rfl rfl ?_
      refine awl_bin rfl rfl rfl rfl bin_lss ?_
      refine awl_nil ?_
      change AWp _ _ _ _ _ _
      first | refine awp_cond_p rfl (fun hi => ?_) (fun hi => ?_) | refine awp_cond rfl (fun hi => ?_) (fun hi => ?_)
      · skip
        have hr0 := row5 (q := (i : Int) % 3) (by omega) (by omega)
        have hr1 := row5 (q := (i : Int) / 3 % 3) (by omega) (by omega)
        have hr2 := row5 (q := (i : Int) / 9) (by omega) (by omega)
        refine awp_skip ?_
        change AWp _ _ _ _ _ _
        refine awp_seq ?_
        refine awp_block ?_
        refine awp_seq ?_
        refine awp_draw0 hmo_LvW (by kernel_rfl) ?_
        refine awd_q [] (.nil) rfl rfl rfl ?_
        apply Exists.intro
        refine ⟨fun regs' => ?_, ?_⟩
        · skip
          refine x_slice si41_LvW ei3_LvW rfl rfl rfl rfl ?_
          exact awl_done rfl
        refine awd_q [(7, _)] (.cons rfl (.nil)) rfl rfl rfl ?_
        apply Exists.intro
        refine ⟨fun regs' => ?_, ?_⟩
        · skip
          refine awl_move rfl rfl ?_
          exact awl_done rfl
        refine awd_q [(30, _)] (.cons rfl (.nil)) rfl rfl rfl ?_
        apply Exists.intro
        refine ⟨fun regs' => ?_, ?_⟩
        · skip
          refine awl_bin rfl rfl rfl rfl (bin_rem (by omega)) ?_
          exact awl_done rfl
        refine awd_q [(29, _), (31, _)] (.cons rfl (.cons rfl (.nil))) rfl rfl rfl ?_
        apply Exists.intro
        refine ⟨fun regs' => ?_, ?_⟩
        · skip
          refine x_index si41_LvW ti3_LvW rfl rfl rfl rfl (by omega) (by first | omega | (simp only [List.length_map]; omega) | (simp; omega)) (by assumption) rfl ?_
          exact awl_done rfl
        refine awd_q [(32, _)] (.cons rfl (.nil)) rfl rfl rfl ?_
        apply Exists.intro
        refine ⟨fun regs' => ?_, ?_⟩
        · skip
          first | refine awl_load_one ti3_LvW rfl rfl rfl rfl ?_ | refine awl_load_ione ti3_LvW rfl rfl rfl ?_
          exact awl_done rfl
        refine awd_q [] (.nil) rfl rfl rfl ?_
        apply Exists.intro
        refine ⟨fun regs' => ?_, ?_⟩
        · skip
          refine x_slice si41_LvW ei3_LvW rfl rfl rfl rfl ?_
          exact awl_done rfl
        refine awd_q [(7, _)] (.cons rfl (.nil)) rfl rfl rfl ?_
        apply Exists.intro
        refine ⟨fun regs' => ?_, ?_⟩
        · skip
          refine awl_move rfl rfl ?_
          exact awl_done rfl
        refine awd_q [(35, _)] (.cons rfl (.nil)) rfl rfl rfl ?_
        apply Exists.intro
        refine ⟨fun regs' => ?_, ?_⟩
        · skip
          refine awl_bin rfl rfl rfl rfl (bin_quo (by omega)) ?_
          exact awl_done rfl
        refine awd_q [(36, _)] (.cons rfl (.nil)) rfl rfl rfl ?_
        apply Exists.intro
        refine ⟨fun regs' => ?_, ?_⟩
        · skip
          refine awl_bin rfl rfl rfl rfl (bin_rem (by omega)) ?_
          exact awl_done rfl
        refine awd_q [(34, _), (37, _)] (.cons rfl (.cons rfl (.nil))) rfl rfl rfl ?_
        apply Exists.intro
        refine ⟨fun regs' => ?_, ?_⟩
        · skip
          refine x_index si41_LvW ti3_LvW rfl rfl rfl rfl (by omega) (by first | omega | (simp only [List.length_map]; omega) | (simp; omega)) (by assumption) rfl ?_
          exact awl_done rfl
        refine awd_q [(38, _)] (.cons rfl (.nil)) rfl rfl rfl ?_
        apply Exists.intro
        refine ⟨fun regs' => ?_, ?_⟩
        · skip
          first | refine awl_load_one ti3_LvW rfl rfl rfl rfl ?_ | refine awl_load_ione ti3_LvW rfl rfl rfl ?_
          exact awl_done rfl
        refine awd_q [] (.nil) rfl rfl rfl ?_
        apply Exists.intro
        refine ⟨fun regs' => ?_, ?_⟩
        · skip
          refine x_slice si41_LvW ei3_LvW rfl rfl rfl rfl ?_
          exact awl_done rfl
        refine awd_q [(7, _)] (.cons rfl (.nil)) rfl rfl rfl ?_
        apply Exists.intro
        refine ⟨fun regs' => ?_, ?_⟩
        · skip
          refine awl_move rfl rfl ?_
          exact awl_done rfl
        refine awd_q [(41, _)] (.cons rfl (.nil)) rfl rfl rfl ?_
        apply Exists.intro
        refine ⟨fun regs' => ?_, ?_⟩
        · skip
          refine awl_bin rfl rfl rfl rfl (bin_quo (by omega)) ?_
          exact awl_done rfl
        refine awd_q [(40, _), (42, _)] (.cons rfl (.cons rfl (.nil))) rfl rfl rfl ?_
        apply Exists.intro
        refine ⟨fun regs' => ?_, ?_⟩
        · skip
          refine x_index si41_LvW ti3_LvW rfl rfl rfl rfl (by omega) (by first | omega | (simp only [List.length_map]; omega) | (simp; omega)) (by assumption) rfl ?_
          exact awl_done rfl
        refine awd_q [(43, _)] (.cons rfl (.nil)) rfl rfl rfl ?_
        apply Exists.intro
        refine ⟨fun regs' => ?_, ?_⟩
        · skip
          first | refine awl_load_one ti3_LvW rfl rfl rfl rfl ?_ | refine awl_load_ione ti3_LvW rfl rfl rfl ?_
          exact awl_done rfl
        refine awd_q [(33, _), (39, _), (44, _)] (.cons rfl (.cons rfl (.cons rfl (.nil)))) rfl rfl rfl ?_
        apply Exists.intro
        refine ⟨fun regs' => ?_, ?_⟩
        · skip
          refine x_slice si41_LvW ei3_LvW rfl rfl rfl rfl ?_
          refine awl_sub (y := .p (.sl 1 (ints (plc i)))) (Sub.eq rfl) ?_
          exact awl_done rfl
        refine awd_q [(45, _)] (.cons rfl (.nil)) rfl rfl rfl ?_
        apply Exists.intro
        refine ⟨fun regs' => ?_, ?_⟩
        · skip
          refine awl_assign rfl rfl ?_
          exact awl_done rfl
        refine awd_nil ?_
        change AWp _ _ _ _ _ _
        refine awp_draw0 hmo_LvW (by kernel_rfl) ?_
        refine awd_q [(6, _)] (.cons rfl (.nil)) rfl rfl rfl ?_
        apply Exists.intro
        refine ⟨fun regs' => ?_, ?_⟩
        · skip
          refine awl_move rfl rfl ?_
          exact awl_done rfl
        refine awd_q [(46, _)] (.cons rfl (.nil)) rfl rfl rfl ?_
        apply Exists.intro
        refine ⟨fun regs' => ?_, ?_⟩
        · skip
          refine awl_move rfl rfl ?_
          exact awl_done rfl
        first | refine awd_split_p 47 rfl (fun hq => ?_) (fun hq => ?_) | refine awd_split 47 rfl (fun hq => ?_) (fun hq => ?_)
        · skip
          refine awd_q [(4, _), (47, _)] (.cons rfl (.cons rfl (.nil))) rfl rfl rfl ?_
          apply Exists.intro
          refine ⟨fun regs' => ?_, ?_⟩
          · skip
            refine awl_guard_no rfl (by first | exact hq | exact decide_eq_true hq | exact decide_eq_false hq) rfl rfl rfl rfl ?_
            exact awl_done rfl
          refine awd_q [(8, _), (47, _)] (.cons rfl (.cons rfl (.nil))) rfl rfl rfl ?_
          apply Exists.intro
          refine ⟨fun regs' => ?_, ?_⟩
          · skip
            refine awl_guard_no rfl (by first | exact hq | exact decide_eq_true hq | exact decide_eq_false hq) rfl rfl rfl rfl ?_
            exact awl_done rfl
          refine awd_q [(48, _), (49, _), (47, _)] (.cons rfl (.cons rfl (.cons rfl (.nil)))) rfl rfl rfl ?_
          apply Exists.intro
          refine ⟨fun regs' => ?_, ?_⟩
          · skip
            refine awl_guard_no rfl (by first | exact hq | exact decide_eq_true hq | exact decide_eq_false hq) rfl rfl rfl rfl ?_
            exact awl_done rfl
          refine awd_q [(5, _), (47, _)] (.cons rfl (.cons rfl (.nil))) rfl rfl rfl ?_
          apply Exists.intro
          refine ⟨fun regs' => ?_, ?_⟩
          · skip
            refine awl_guard_no rfl (by first | exact hq | exact decide_eq_true hq | exact decide_eq_false hq) rfl rfl rfl rfl ?_
            exact awl_done rfl
          refine awd_q [(8, _), (47, _)] (.cons rfl (.cons rfl (.nil))) rfl rfl rfl ?_
          apply Exists.intro
          refine ⟨fun regs' => ?_, ?_⟩
          · skip
            refine awl_guard_no rfl (by first | exact hq | exact decide_eq_true hq | exact decide_eq_false hq) rfl rfl rfl rfl ?_
            exact awl_done rfl
          refine awd_q [(51, _), (52, _), (47, _)] (.cons rfl (.cons rfl (.cons rfl (.nil)))) rfl rfl rfl ?_
          apply Exists.intro
          refine ⟨fun regs' => ?_, ?_⟩
          · skip
            refine awl_guard_no rfl (by first | exact hq | exact decide_eq_true hq | exact decide_eq_false hq) rfl rfl rfl rfl ?_
            exact awl_done rfl
          refine awd_q [(50, _), (53, _), (47, _)] (.cons rfl (.cons rfl (.cons rfl (.nil)))) rfl rfl rfl ?_
          apply Exists.intro
          refine ⟨fun regs' => ?_, ?_⟩
          · skip
            refine awl_guard_no rfl (by first | exact hq | exact decide_eq_true hq | exact decide_eq_false hq) rfl rfl rfl rfl ?_
            exact awl_done rfl
          refine awd_q [(47, _), (54, _)] (.cons rfl (.cons rfl (.nil))) rfl rfl rfl ?_
          apply Exists.intro
          refine ⟨fun regs' => ?_, ?_⟩
          · skip
            refine awl_pick_t (by first | exact hq | exact decide_eq_true hq | exact decide_eq_false hq) rfl rfl rfl ?_
            exact awl_done rfl
          refine awd_q [(55, _)] (.cons rfl (.nil)) rfl rfl rfl ?_
          apply Exists.intro
          refine ⟨fun regs' => ?_, ?_⟩
          · skip
            refine awl_assign rfl rfl ?_
            exact awl_done rfl
          refine awd_nil ?_
          change AWp _ _ _ _ _ _
          refine awp_region ?_
          refine awl_move rfl rfl ?_
          first | refine awl_bin rfl rfl rfl rfl (bin_add_i (by omega)) ?_ | refine awl_bin rfl rfl rfl rfl bin_add ?_
          refine awl_assign rfl rfl ?_
          refine awl_nil ?_
          change ∃ x', _
          refine ⟨(i + 1), (by omega), (by omega), (Le.mk (.cons rfl (by first | exact Sub.refl _ | exact Sub.ts | exact Sub.nil | (refine Sub.eq ?_; first | (simp; done) | (simp; omega) | (rw [mo_succ, hq]; simp))) (.cons rfl (by first | exact Sub.refl _ | exact Sub.ts | exact Sub.nil | (refine Sub.eq ?_; first | (simp; done) | (simp; omega) | (rw [mo_succ, hq]; simp))) (.cons rfl (by first | exact Sub.refl _ | exact Sub.ts | exact Sub.nil | (refine Sub.eq ?_; first | (simp; done) | (simp; omega) | (rw [mo_succ, hq]; simp))) (.cons rfl (by first | exact Sub.refl _ | exact Sub.ts | exact Sub.nil | (refine Sub.eq ?_; first | (simp; done) | (simp; omega) | (rw [mo_succ, hq]; simp))) (.nil))))) (.cons rfl (by first | rfl | (simp; done)) (.cons rfl (by first | rfl | (simp; done)) (.nil))) rfl)⟩
        · skip
          refine awd_q [(4, _), (47, _)] (.cons rfl (.cons rfl (.nil))) rfl rfl rfl ?_
          apply Exists.intro
          refine ⟨fun regs' => ?_, ?_⟩
          · skip
            refine awl_guard_yes rfl (by first | exact hq | exact decide_eq_true hq | exact decide_eq_false hq) rfl rfl ?_
            first | refine awl_load_row ti39_LvW rfl rfl rfl rfl ?_ | refine x_irow ti39_LvW rfl rfl rfl rfl ?_
            exact awl_done rfl
          refine awd_q [(8, _), (47, _)] (.cons rfl (.cons rfl (.nil))) rfl rfl rfl ?_
          apply Exists.intro
          refine ⟨fun regs' => ?_, ?_⟩
          · skip
            refine awl_guard_yes rfl (by first | exact hq | exact decide_eq_true hq | exact decide_eq_false hq) rfl rfl ?_
            refine awl_move rfl rfl ?_
            exact awl_done rfl
          refine awd_q [(48, _), (49, _), (47, _)] (.cons rfl (.cons rfl (.cons rfl (.nil)))) rfl rfl rfl ?_
          apply Exists.intro
          refine ⟨fun regs' => ?_, ?_⟩
          · skip
            refine awl_guard_yes rfl (by first | exact hq | exact decide_eq_true hq | exact decide_eq_false hq) rfl rfl ?_
            refine awl_pcall fb27_LvW rfl (Eval_con (plc i) 4 _ hA.2.2 (by omega)) (.cons (by first | exact Sub.refl _ | exact Sub.ts | exact Sub.nil | exact Sub.agc (by repeat (first | exact .nil | refine .cons (by first | exact Sub.refl _ | exact Sub.nil) ?_))) (.cons (by first | exact Sub.refl _ | exact Sub.ts | exact Sub.nil | exact Sub.agc (by repeat (first | exact .nil | refine .cons (by first | exact Sub.refl _ | exact Sub.nil) ?_))) .nil)) rfl ?_
            exact awl_done rfl
          refine awd_q [(5, _), (47, _)] (.cons rfl (.cons rfl (.nil))) rfl rfl rfl ?_
          apply Exists.intro
          refine ⟨fun regs' => ?_, ?_⟩
          · skip
            refine awl_guard_yes rfl (by first | exact hq | exact decide_eq_true hq | exact decide_eq_false hq) rfl rfl ?_
            first | refine awl_load_row ti39_LvW rfl rfl rfl rfl ?_ | refine x_irow ti39_LvW rfl rfl rfl rfl ?_
            exact awl_done rfl
          refine awd_q [(8, _), (47, _)] (.cons rfl (.cons rfl (.nil))) rfl rfl rfl ?_
          apply Exists.intro
          refine ⟨fun regs' => ?_, ?_⟩
          · skip
            refine awl_guard_yes rfl (by first | exact hq | exact decide_eq_true hq | exact decide_eq_false hq) rfl rfl ?_
            refine awl_move rfl rfl ?_
            exact awl_done rfl
          refine awd_q [(51, _), (52, _), (47, _)] (.cons rfl (.cons rfl (.cons rfl (.nil)))) rfl rfl rfl ?_
          apply Exists.intro
          refine ⟨fun regs' => ?_, ?_⟩
          · skip
            refine awl_guard_yes rfl (by first | exact hq | exact decide_eq_true hq | exact decide_eq_false hq) rfl rfl ?_
            refine awl_pcall fb27_LvW rfl (Eval_con (plc i) 4 _ hB.2.2 (by omega)) (.cons (by first | exact Sub.refl _ | exact Sub.ts | exact Sub.nil | exact Sub.agc (by repeat (first | exact .nil | refine .cons (by first | exact Sub.refl _ | exact Sub.nil) ?_))) (.cons (by first | exact Sub.refl _ | exact Sub.ts | exact Sub.nil | exact Sub.agc (by repeat (first | exact .nil | refine .cons (by first | exact Sub.refl _ | exact Sub.nil) ?_))) .nil)) rfl ?_
            exact awl_done rfl
          refine awd_q [(50, _), (53, _), (47, _)] (.cons rfl (.cons rfl (.cons rfl (.nil)))) rfl rfl rfl ?_
          apply Exists.intro
          refine ⟨fun regs' => ?_, ?_⟩
          · skip
            refine awl_guard_yes rfl (by first | exact hq | exact decide_eq_true hq | exact decide_eq_false hq) rfl rfl ?_
            refine awl_bin rfl rfl rfl rfl bin_gtr ?_
            exact awl_done rfl
          refine awd_q [(47, _), (54, _)] (.cons rfl (.cons rfl (.nil))) rfl rfl rfl ?_
          apply Exists.intro
          refine ⟨fun regs' => ?_, ?_⟩
          · skip
            refine awl_pick_f (by first | exact hq | exact decide_eq_true hq | exact decide_eq_false hq) rfl rfl rfl ?_
            exact awl_done rfl
          refine awd_q [(55, _)] (.cons rfl (.nil)) rfl rfl rfl ?_
          apply Exists.intro
          refine ⟨fun regs' => ?_, ?_⟩
          · skip
            refine awl_assign rfl rfl ?_
            exact awl_done rfl
          refine awd_nil ?_
          change AWp _ _ _ _ _ _
          refine awp_region ?_
          refine awl_move rfl rfl ?_
          first | refine awl_bin rfl rfl rfl rfl (bin_add_i (by omega)) ?_ | refine awl_bin rfl rfl rfl rfl bin_add ?_
          refine awl_assign rfl rfl ?_
          refine awl_nil ?_
          change ∃ x', _
          refine ⟨(i + 1), (by omega), (by omega), (Le.mk (.cons rfl (by first | exact Sub.refl _ | exact Sub.ts | exact Sub.nil | (refine Sub.eq ?_; first | (simp; done) | (simp; omega) | (rw [mo_succ, hq]; simp))) (.cons rfl (by first | exact Sub.refl _ | exact Sub.ts | exact Sub.nil | (refine Sub.eq ?_; first | (simp; done) | (simp; omega) | (rw [mo_succ, hq]; simp))) (.cons rfl (by first | exact Sub.refl _ | exact Sub.ts | exact Sub.nil | (refine Sub.eq ?_; first | (simp; done) | (simp; omega) | (rw [mo_succ, hq]; simp))) (.cons rfl (by first | exact Sub.refl _ | exact Sub.ts | exact Sub.nil | (refine Sub.eq ?_; first | (simp; done) | (simp; omega) | (rw [mo_succ, hq]; simp))) (.nil))))) (.cons rfl (by first | rfl | (simp; done)) (.cons rfl (by first | rfl | (simp; done)) (.nil))) rfl)⟩
      · skip
        refine awp_exit ?_
        change AWp _ _ _ _ _ _
        refine awp_seq ?_
        refine awp_region ?_
        first | refine awl_load_row ti39_LvW rfl rfl rfl rfl ?_ | refine x_irow ti39_LvW rfl rfl rfl rfl ?_
        first | refine awl_load_row ti39_LvW rfl rfl rfl rfl ?_ | refine x_irow ti39_LvW rfl rfl rfl rfl ?_
        refine awl_pcall fb31_LvW rfl (Leq_con _ _ hA.2.2 hB.2.2 (by omega) (by omega)) (.cons (by first | exact Sub.refl _ | exact Sub.ts | exact Sub.nil | exact Sub.agc (by repeat (first | exact .nil | refine .cons (by first | exact Sub.refl _ | exact Sub.nil) ?_))) (.cons (by first | exact Sub.refl _ | exact Sub.ts | exact Sub.nil | exact Sub.agc (by repeat (first | exact .nil | refine .cons (by first | exact Sub.refl _ | exact Sub.nil) ?_))) .nil)) rfl ?_
        refine awl_move rfl rfl ?_
        first | refine awl_un rfl rfl rfl un_notd ?_ | refine awl_un rfl rfl rfl un_not ?_
        refine awl_bin rfl rfl rfl rfl (bool_eql Try.underlying4) ?_
        refine awl_assign rfl rfl ?_
        refine awl_nil ?_
        change AWp _ _ _ _ _ _
        refine awp_ret ?_
        change Ends _ _ _ _ _ _
        refine ends1 [] rfl (.tmp rfl) ?_ rfl
        first | exact ⟨rfl, rfl⟩ | (have h27 : i = 27 := (by omega); subst h27; exact ⟨B_eq (places_law hA hB wa wb), rfl⟩)

end Go.Ab.Ytfgndomaadikoaa
