/- Levels flattened: by their values at enough places. No program. -/
import Derived.Test.YtfgndomaadikoaaLvM
set_option linter.unusedVariables false
set_option linter.unusedSimpArgs false
namespace Go.Ab.Ytfgndomaadikoaa
open Go Go.RowKit Go.Ab

def isP (x : Int) : Prop := x = 0 ∨ x = 1 ∨ x = 1000

theorem co {q c e : Int} (d : c = 0 ∨ c = 1) (u : q = 0 → c = 1) (v : q ≠ 0 → c = 0) (k : e = c ∨ e = 1000 * c) : (q = 0 → 1 ≤ e) ∧ (q ≠ 0 → e = 0) ∧ (0 ≤ e ∧ e ≤ 1099511627776) ∧ isP e := by
  refine ⟨fun h => ?_, fun h => ?_, ?_⟩
  · have := u h; omega
  · have := v h; omega
  · unfold isP; omega
theorem shr_small {p x : Int} (hp : p ≤ 32) (hx : x ≤ 1) : shr p x ≤ 33 := by unfold shr; split <;> omega
theorem shr_big {p P : Int} (h : p < P) (hP : 0 ≤ P) : shr p 1000 ≤ P + 999 := by unfold shr; split <;> omega
theorem ex_bit (q : Int) : ∃ c : Int, (c = 0 ∨ c = 1) ∧ (q = 0 → c = 1) ∧ (q ≠ 0 → c = 0) := by
  by_cases hq : q = 0
  · exact ⟨1, .inr rfl, fun _ => rfl, fun h => absurd hq h⟩
  · exact ⟨0, .inl rfl, fun h => absurd h hq, fun _ => rfl⟩

/-- What is told at each place of the pattern z. -/
def Both (f g : Flat) (c0 c1 c2 c3 : Int) : Prop := ∀ e0 e1 e2 e3 : Int, (e0 = c0 ∨ e0 = 1000 * c0) → (e1 = c1 ∨ e1 = 1000 * c1) → (e2 = c2 ∨ e2 = 1000 * c2) → (e3 = c3 ∨ e3 = 1000 * c3) →
  valF f e0 e1 e2 e3 ≤ valF g e0 e1 e2 e3 ∧ actF f e0 e1 e2 e3

theorem cmp0 {f g : Flat} {c0 c1 c2 c3 : Int} (hf : f.ok 32) (hg : g.ok 32) (h : Both f g c0 c1 c2 c3) (d0 : c0 = 0 ∨ c0 = 1) (d1 : c1 = 0 ∨ c1 = 1) (d2 : c2 = 0 ∨ c2 = 1) (d3 : c3 = 0 ∨ c3 = 1) : f.p0 ≤ g.p0 := by
  rcases Int.lt_or_le g.p0 f.p0 with hlt | hle
  · exfalso
    obtain ⟨q1, q2⟩ := h (1000 * c0) c1 c2 c3 (.inr rfl) (.inl rfl) (.inl rfl) (.inl rfl)
    obtain ⟨b0, b1, b2, b3, b4⟩ := hg
    have hp : f.p0 ≥ 0 := by omega
    have hact : c0 = 1 := by have := q2.1 hp; omega
    have e : 1000 * c0 = 1000 := by omega
    rw [e] at q1
    have k1 := (val_ge f 1000 c1 c2 c3).2.1
    rw [shr_pos hp] at k1
    have k2 : valF g 1000 c1 c2 c3 ≤ f.p0 + 999 := val_le (by omega) (shr_big hlt hp) (Int.le_trans (shr_small b2.2 (by omega)) (by omega)) (Int.le_trans (shr_small b3.2 (by omega)) (by omega)) (Int.le_trans (shr_small b4.2 (by omega)) (by omega))
    omega
  · exact hle
theorem cmp1 {f g : Flat} {c0 c1 c2 c3 : Int} (hf : f.ok 32) (hg : g.ok 32) (h : Both f g c0 c1 c2 c3) (d0 : c0 = 0 ∨ c0 = 1) (d1 : c1 = 0 ∨ c1 = 1) (d2 : c2 = 0 ∨ c2 = 1) (d3 : c3 = 0 ∨ c3 = 1) : f.p1 ≤ g.p1 := by
  rcases Int.lt_or_le g.p1 f.p1 with hlt | hle
  · exfalso
    obtain ⟨q1, q2⟩ := h c0 (1000 * c1) c2 c3 (.inl rfl) (.inr rfl) (.inl rfl) (.inl rfl)
    obtain ⟨b0, b1, b2, b3, b4⟩ := hg
    have hp : f.p1 ≥ 0 := by omega
    have hact : c1 = 1 := by have := q2.2.1 hp; omega
    have e : 1000 * c1 = 1000 := by omega
    rw [e] at q1
    have k1 := (val_ge f c0 1000 c2 c3).2.2.1
    rw [shr_pos hp] at k1
    have k2 : valF g c0 1000 c2 c3 ≤ f.p1 + 999 := val_le (by omega) (Int.le_trans (shr_small b1.2 (by omega)) (by omega)) (shr_big hlt hp) (Int.le_trans (shr_small b3.2 (by omega)) (by omega)) (Int.le_trans (shr_small b4.2 (by omega)) (by omega))
    omega
  · exact hle
theorem cmp2 {f g : Flat} {c0 c1 c2 c3 : Int} (hf : f.ok 32) (hg : g.ok 32) (h : Both f g c0 c1 c2 c3) (d0 : c0 = 0 ∨ c0 = 1) (d1 : c1 = 0 ∨ c1 = 1) (d2 : c2 = 0 ∨ c2 = 1) (d3 : c3 = 0 ∨ c3 = 1) : f.p2 ≤ g.p2 := by
  rcases Int.lt_or_le g.p2 f.p2 with hlt | hle
  · exfalso
    obtain ⟨q1, q2⟩ := h c0 c1 (1000 * c2) c3 (.inl rfl) (.inl rfl) (.inr rfl) (.inl rfl)
    obtain ⟨b0, b1, b2, b3, b4⟩ := hg
    have hp : f.p2 ≥ 0 := by omega
    have hact : c2 = 1 := by have := q2.2.2.1 hp; omega
    have e : 1000 * c2 = 1000 := by omega
    rw [e] at q1
    have k1 := (val_ge f c0 c1 1000 c3).2.2.2.1
    rw [shr_pos hp] at k1
    have k2 : valF g c0 c1 1000 c3 ≤ f.p2 + 999 := val_le (by omega) (Int.le_trans (shr_small b1.2 (by omega)) (by omega)) (Int.le_trans (shr_small b2.2 (by omega)) (by omega)) (shr_big hlt hp) (Int.le_trans (shr_small b4.2 (by omega)) (by omega))
    omega
  · exact hle
theorem cmp3 {f g : Flat} {c0 c1 c2 c3 : Int} (hf : f.ok 32) (hg : g.ok 32) (h : Both f g c0 c1 c2 c3) (d0 : c0 = 0 ∨ c0 = 1) (d1 : c1 = 0 ∨ c1 = 1) (d2 : c2 = 0 ∨ c2 = 1) (d3 : c3 = 0 ∨ c3 = 1) : f.p3 ≤ g.p3 := by
  rcases Int.lt_or_le g.p3 f.p3 with hlt | hle
  · exfalso
    obtain ⟨q1, q2⟩ := h c0 c1 c2 (1000 * c3) (.inl rfl) (.inl rfl) (.inl rfl) (.inr rfl)
    obtain ⟨b0, b1, b2, b3, b4⟩ := hg
    have hp : f.p3 ≥ 0 := by omega
    have hact : c3 = 1 := by have := q2.2.2.2 hp; omega
    have e : 1000 * c3 = 1000 := by omega
    rw [e] at q1
    have k1 := (val_ge f c0 c1 c2 1000).2.2.2.2
    rw [shr_pos hp] at k1
    have k2 : valF g c0 c1 c2 1000 ≤ f.p3 + 999 := val_le (by omega) (Int.le_trans (shr_small b1.2 (by omega)) (by omega)) (Int.le_trans (shr_small b2.2 (by omega)) (by omega)) (Int.le_trans (shr_small b3.2 (by omega)) (by omega)) (shr_big hlt hp)
    omega
  · exact hle
theorem cmpB {f g : Flat} {c0 c1 c2 c3 : Int} (hf : f.ok 32) (hg : g.ok 32) (h : Both f g c0 c1 c2 c3) (d0 : c0 = 0 ∨ c0 = 1) (d1 : c1 = 0 ∨ c1 = 1) (d2 : c2 = 0 ∨ c2 = 1) (d3 : c3 = 0 ∨ c3 = 1) : f.b ≤ leastF g := by
  obtain ⟨q1, q2⟩ := h c0 c1 c2 c3 (.inl rfl) (.inl rfl) (.inl rfl) (.inl rfl)
  rw [least_val hg.1.1]
  have k1 := (val_ge f c0 c1 c2 c3).1
  have key : ∀ p c : Int, (c = 0 ∨ c = 1) → shr p c ≤ shr p 1 := fun p c hc => by unfold shr; split <;> omega
  have k2 := val_ge g 1 1 1 1
  have k3 : valF g c0 c1 c2 c3 ≤ valF g 1 1 1 1 :=
    val_le k2.1 (Int.le_trans (key _ _ d0) k2.2.1) (Int.le_trans (key _ _ d1) k2.2.2.1) (Int.le_trans (key _ _ d2) k2.2.2.2.1) (Int.le_trans (key _ _ d3) k2.2.2.2.2)
  omega

theorem leq_complete {a b : Lvl} (hwa : wfL a 4 = true) (hwb : wfL b 4 = true) (hda : deepL a ≤ 32) (hdb : deepL b ≤ 32)
    (h : ∀ x0 x1 x2 x3 : Int, isP x0 → isP x1 → isP x2 → isP x3 → evalF [x0, x1, x2, x3] a ≤ evalF [x0, x1, x2, x3] b) : leqF a b = true := by
  refine List.all_eq_true.2 fun zn hz => ?_
  generalize (zn : Int) = z
  have hf := Flat.ok_mono (flatF_ok z a) hda
  have hg := Flat.ok_mono (flatF_ok z b) hdb
  obtain ⟨c0, d0, u0, v0⟩ := ex_bit (bitF z 0)
  obtain ⟨c1, d1, u1, v1⟩ := ex_bit (bitF z 1)
  obtain ⟨c2, d2, u2, v2⟩ := ex_bit (bitF z 2)
  obtain ⟨c3, d3, u3, v3⟩ := ex_bit (bitF z 3)
  have hB : Both (flatF z a) (flatF z b) c0 c1 c2 c3 := fun e0 e1 e2 e3 k0 k1 k2 k3 => by
    obtain ⟨s0, t0, r0, p0⟩ := co d0 u0 v0 k0
    obtain ⟨s1, t1, r1, p1⟩ := co d1 u1 v1 k1
    obtain ⟨s2, t2, r2, p2⟩ := co d2 u2 v2 k2
    obtain ⟨s3, t3, r3, p3⟩ := co d3 u3 v3 k3
    have hfit : fitZ z e0 e1 e2 e3 := ⟨s0, s1, s2, s3, t0, t1, t2, t3⟩
    have hin : inX e0 e1 e2 e3 := ⟨r0, r1, r2, r3⟩
    obtain ⟨i1, i2⟩ := flat_eval z e0 e1 e2 e3 hfit hin a hwa
    obtain ⟨j1, j2⟩ := flat_eval z e0 e1 e2 e3 hfit hin b hwb
    have := h e0 e1 e2 e3 p0 p1 p2 p3
    rw [i1, j1] at this
    exact ⟨this, i2⟩
  exact decide_eq_true ⟨cmp0 hf hg hB d0 d1 d2 d3, cmp1 hf hg hB d0 d1 d2 d3, cmp2 hf hg hB d0 d1 d2 d3, cmp3 hf hg hB d0 d1 d2 d3, cmpB hf hg hB d0 d1 d2 d3⟩

theorem leq_iff {a b : Lvl} (hwa : wfL a 4 = true) (hwb : wfL b 4 = true) (hda : deepL a ≤ 32) (hdb : deepL b ≤ 32) :
    leqF a b = true ↔ ∀ x0 x1 x2 x3 : Int, isP x0 → isP x1 → isP x2 → isP x3 → evalF [x0, x1, x2, x3] a ≤ evalF [x0, x1, x2, x3] b := by
  refine ⟨fun h x0 x1 x2 x3 p0 p1 p2 p3 => leq_sound hwa hwb h ?_, leq_complete hwa hwb hda hdb⟩
  unfold isP at p0 p1 p2 p3
  exact ⟨by omega, by omega, by omega, by omega⟩

/-- What is not 0 where all parameters are 0 is 0 nowhere. -/
theorem never_up (x0 x1 x2 x3 : Int) (hx : inX x0 x1 x2 x3) (t : Lvl) : wfL t 4 = true → evalF [] t > 0 → evalF [x0, x1, x2, x3] t > 0 := by
  intro hw h
  have ih : ∀ a ∈ t.args, evalF [] a > 0 → evalF [x0, x1, x2, x3] a > 0 := fun a ha => never_up x0 x1 x2 x3 hx a (wf_mem hw ha)
  rw [evalF_eq] at h ⊢
  have hb : ∀ a : Lvl, 0 ≤ evalF [x0, x1, x2, x3] a := fun a => (evalF_bd _ a).1
  have hb0 : ∀ a : Lvl, 0 ≤ evalF [] a := fun a => (evalF_bd _ a).1
  by_cases k1 : t.kind = 1
  · obtain ⟨a, ha⟩ := ar1 hw k1
    rw [ha]; simp only [evK, if_pos k1, evalFs, List.getD_cons_zero]
    have := hb a; omega
  · by_cases k2 : t.kind = 2
    · obtain ⟨a, b, ha⟩ := ar2 hw (.inl k2)
      rw [ha] at h ⊢
      simp only [evK, if_neg k1, if_pos k2, evalFs, List.getD_cons_zero, List.getD_cons_succ] at h ⊢
      have i1 := ih a (by simp [ha]); have i2 := ih b (by simp [ha])
      have := hb a; have := hb b
      by_cases q : evalF [] a > 0
      · have := i1 q; omega
      · have := i2 (by omega); omega
    · by_cases k3 : t.kind = 3
      · obtain ⟨a, b, ha⟩ := ar2 hw (.inr k3)
        rw [ha] at h ⊢
        simp only [evK, if_neg k1, if_neg k2, if_pos k3, evalFs, List.getD_cons_zero, List.getD_cons_succ] at h ⊢
        have i2 := ih b (by simp [ha])
        have := hb a; have := hb0 b
        split at h
        · omega
        · have := i2 (by omega)
          rw [if_neg (by omega)]; omega
      · by_cases k4 : t.kind = 4
        · simp only [evK, if_neg k1, if_neg k2, if_neg k3, if_pos k4] at h
          rw [if_neg (by rintro ⟨_, q⟩; simp at q; omega)] at h
          omega
        · simp only [evK, if_neg k1, if_neg k2, if_neg k3, if_neg k4] at h
          omega
termination_by SizeOf.sizeOf t
decreasing_by exact Lvl.lt ha

end Go.Ab.Ytfgndomaadikoaa
