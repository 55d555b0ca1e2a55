/- Levels flattened mean what levels mean. No program. -/
import Derived.Test.YtfgndomaadikoaaLvF
set_option linter.unusedVariables false
set_option linter.unusedSimpArgs false
namespace Go.Ab.Ytfgndomaadikoaa
open Go Go.RowKit Go.Ab

/-- A parameter's share in a value. -/
def shr (p x : Int) : Int := if p ≥ 0 then p + x else 0
def valF (f : Flat) (x0 x1 x2 x3 : Int) : Int := max (max (max (max f.b (shr f.p0 x0)) (shr f.p1 x1)) (shr f.p2 x2)) (shr f.p3 x3)

theorem shr_max {p q x : Int} (hx : 0 ≤ x) : shr (max p q) x = max (shr p x) (shr q x) := by unfold shr; split <;> split <;> split <;> omega
theorem shr_up {p x : Int} : shr (up p) x = if p ≥ 0 then shr p x + 1 else 0 := by
  unfold shr up
  by_cases h : p ≥ 0
  · simp only [if_pos h, if_pos (show p + 1 ≥ 0 by omega)]; omega
  · simp only [if_neg h]
theorem max4 (a b s t : Int) : max (max a b) (max s t) = max (max a s) (max b t) := by omega
theorem val_max {f g : Flat} {x0 x1 x2 x3 : Int} (h0 : 0 ≤ x0) (h1 : 0 ≤ x1) (h2 : 0 ≤ x2) (h3 : 0 ≤ x3) : valF (maxF f g) x0 x1 x2 x3 = max (valF f x0 x1 x2 x3) (valF g x0 x1 x2 x3) := by
  simp only [valF, maxF, shr_max h0, shr_max h1, shr_max h2, shr_max h3]
  rw [max4 f.b g.b (shr f.p0 x0) (shr g.p0 x0), max4 _ _ (shr f.p1 x1) (shr g.p1 x1), max4 _ _ (shr f.p2 x2) (shr g.p2 x2), max4 _ _ (shr f.p3 x3) (shr g.p3 x3)]
theorem shr_step (p x : Int) : shr (up p) x = shr p x + 1 ∨ (shr (up p) x = 0 ∧ shr p x = 0) := by
  rw [shr_up]
  by_cases h : p ≥ 0
  · left; rw [if_pos h]
  · right; rw [if_neg h]; exact ⟨rfl, by unfold shr; rw [if_neg h]⟩
theorem max_step {c s s' : Int} (hc : 0 ≤ c) (h : s' = s + 1 ∨ (s' = 0 ∧ s = 0)) : max (c + 1) s' = max c s + 1 := by omega
theorem val_succ {f : Flat} {x0 x1 x2 x3 : Int} (hb : 0 ≤ f.b) : valF (succF f) x0 x1 x2 x3 = valF f x0 x1 x2 x3 + 1 := by
  simp only [valF, succF]
  rw [max_step hb (shr_step _ _), max_step (by omega) (shr_step _ _), max_step (by omega) (shr_step _ _), max_step (by omega) (shr_step _ _)]
theorem val_ge (f : Flat) (x0 x1 x2 x3 : Int) : f.b ≤ valF f x0 x1 x2 x3 ∧ shr f.p0 x0 ≤ valF f x0 x1 x2 x3 ∧ shr f.p1 x1 ≤ valF f x0 x1 x2 x3 ∧ shr f.p2 x2 ≤ valF f x0 x1 x2 x3 ∧ shr f.p3 x3 ≤ valF f x0 x1 x2 x3 := by
  unfold valF; omega
theorem val_le {f : Flat} {x0 x1 x2 x3 m : Int} (hb : f.b ≤ m) (h0 : shr f.p0 x0 ≤ m) (h1 : shr f.p1 x1 ≤ m) (h2 : shr f.p2 x2 ≤ m) (h3 : shr f.p3 x3 ≤ m) : valF f x0 x1 x2 x3 ≤ m := by
  unfold valF; omega
theorem shr_pos {p x : Int} (h : p ≥ 0) : shr p x = p + x := by unfold shr; rw [if_pos h]
theorem shr_neg {p x : Int} (h : ¬ p ≥ 0) : shr p x = 0 := by unfold shr; rw [if_neg h]
theorem val_zero (x0 x1 x2 x3 : Int) : valF flat0 x0 x1 x2 x3 = 0 := by simp [valF, flat0, shr]

/-- Only what is not 0 stands in it. -/
def actF (f : Flat) (x0 x1 x2 x3 : Int) : Prop := (f.p0 ≥ 0 → 1 ≤ x0) ∧ (f.p1 ≥ 0 → 1 ≤ x1) ∧ (f.p2 ≥ 0 → 1 ≤ x2) ∧ (f.p3 ≥ 0 → 1 ≤ x3)

theorem val_is0 {f : Flat} {m x0 x1 x2 x3 : Int} (hok : f.ok m) (ha : actF f x0 x1 x2 x3) : valF f x0 x1 x2 x3 = 0 ↔ f = flat0 := by
  constructor
  · intro h
    have hg := val_ge f x0 x1 x2 x3
    rw [h] at hg
    obtain ⟨g0, g1, g2, g3, g4⟩ := hg
    obtain ⟨a0, a1, a2, a3⟩ := ha
    have q0 : ¬ f.p0 ≥ 0 := fun hp => by have := a0 hp; rw [shr_pos hp] at g1; omega
    have q1 : ¬ f.p1 ≥ 0 := fun hp => by have := a1 hp; rw [shr_pos hp] at g2; omega
    have q2 : ¬ f.p2 ≥ 0 := fun hp => by have := a2 hp; rw [shr_pos hp] at g3; omega
    have q3 : ¬ f.p3 ≥ 0 := fun hp => by have := a3 hp; rw [shr_pos hp] at g4; omega
    obtain ⟨b, p0, p1, p2, p3⟩ := f
    simp only [Flat.ok] at hok
    simp only at *
    simp only [flat0, Flat.mk.injEq]
    exact ⟨by omega, by omega, by omega, by omega, by omega⟩
  · rintro rfl; exact val_zero ..

/-- The pattern of what is 0. -/
def fitZ (z x0 x1 x2 x3 : Int) : Prop := (bitF z 0 = 0 → 1 ≤ x0) ∧ (bitF z 1 = 0 → 1 ≤ x1) ∧ (bitF z 2 = 0 → 1 ≤ x2) ∧ (bitF z 3 = 0 → 1 ≤ x3) ∧
  (bitF z 0 ≠ 0 → x0 = 0) ∧ (bitF z 1 ≠ 0 → x1 = 0) ∧ (bitF z 2 ≠ 0 → x2 = 0) ∧ (bitF z 3 ≠ 0 → x3 = 0)
def inX (x0 x1 x2 x3 : Int) : Prop := (0 ≤ x0 ∧ x0 ≤ 1099511627776) ∧ (0 ≤ x1 ∧ x1 ≤ 1099511627776) ∧ (0 ≤ x2 ∧ x2 ≤ 1099511627776) ∧ (0 ≤ x3 ∧ x3 ≤ 1099511627776)

theorem flat_eval (z x0 x1 x2 x3 : Int) (hf : fitZ z x0 x1 x2 x3) (hx : inX x0 x1 x2 x3) (t : Lvl) : wfL t 4 = true → evalF [x0, x1, x2, x3] t = valF (flatF z t) x0 x1 x2 x3 ∧ actF (flatF z t) x0 x1 x2 x3 := by
  intro hw
  have ih : ∀ a ∈ t.args, evalF [x0, x1, x2, x3] a = valF (flatF z a) x0 x1 x2 x3 ∧ actF (flatF z a) x0 x1 x2 x3 := fun a ha => flat_eval z x0 x1 x2 x3 hf hx a (wf_mem hw ha)
  have he := evalF_eq [x0, x1, x2, x3] t
  have hfl := flatF_eq z t
  obtain ⟨hx0, hx1, hx2, hx3⟩ := hx
  by_cases k1 : t.kind = 1
  · obtain ⟨a, ha⟩ := ar1 hw k1
    obtain ⟨i1, i2⟩ := ih a (by simp [ha])
    have hok := flatF_ok z a
    rw [he, hfl, ha]
    simp only [evK, flK, if_pos k1, evalFs, flatFs, List.getD_cons_zero]
    rw [i1, val_succ hok.1.1]
    refine ⟨rfl, ?_⟩
    simp only [actF, succF, up] at *
    refine ⟨fun h => ?_, fun h => ?_, fun h => ?_, fun h => ?_⟩ <;> (split at h <;> first | omega | (exfalso; omega))
  · by_cases k2 : t.kind = 2
    · obtain ⟨a, b, ha⟩ := ar2 hw (.inl k2)
      obtain ⟨i1, i2⟩ := ih a (by simp [ha])
      obtain ⟨j1, j2⟩ := ih b (by simp [ha])
      rw [he, hfl, ha]
      simp only [evK, flK, if_neg k1, if_pos k2, evalFs, flatFs, List.getD_cons_zero, List.getD_cons_succ]
      rw [i1, j1, val_max hx0.1 hx1.1 hx2.1 hx3.1]
      refine ⟨rfl, ?_⟩
      simp only [actF, maxF] at *
      omega
    · by_cases k3 : t.kind = 3
      · obtain ⟨a, b, ha⟩ := ar2 hw (.inr k3)
        obtain ⟨i1, i2⟩ := ih a (by simp [ha])
        obtain ⟨j1, j2⟩ := ih b (by simp [ha])
        have hz := val_is0 (flatF_ok z b) j2
        rw [he, hfl, ha]
        simp only [evK, flK, if_neg k1, if_neg k2, if_pos k3, evalFs, flatFs, List.getD_cons_zero, List.getD_cons_succ]
        rw [i1, j1]
        by_cases h0 : flatF z b = flat0
        · rw [if_pos (hz.2 h0), if_pos h0]
          exact ⟨(val_zero ..).symm, by simp [actF, flat0]⟩
        · rw [if_neg (fun h => h0 (hz.1 h)), if_neg h0, val_max hx0.1 hx1.1 hx2.1 hx3.1]
          refine ⟨rfl, ?_⟩
          simp only [actF, maxF] at *
          omega
      · by_cases k4 : t.kind = 4
        · have hn := (wf_here hw).2.1
          have hn' : 0 ≤ t.n ∧ t.n < 4 := by
            by_cases h : t.n < 0 ∨ t.n ≥ 4
            · exact absurd ⟨k4, h⟩ hn
            · omega
          rw [he, hfl]
          simp only [evK, flK, if_neg k1, if_neg k2, if_neg k3, if_pos k4]
          simp only [fitZ] at hf
          rcases (by omega : t.n = 0 ∨ t.n = 1 ∨ t.n = 2 ∨ t.n = 3) with h | h | h | h <;>
            (rw [h]; simp only [List.length_cons, List.length_nil]
             by_cases hb : bitF z t.n = 0
             · rw [h] at hb
               simp only [hb, and_true]
               rw [if_pos (by omega), if_pos (by omega)]
               constructor
               · simp [valF, setF, shr]; omega
               · simp [actF, setF]; omega
             · rw [h] at hb
               rw [if_pos (by omega), if_neg (fun q => hb q.2.2)]
               constructor
               · rw [val_zero]; simp; omega
               · simp [actF, flat0])
        · rw [he, hfl]
          simp only [evK, flK, if_neg k1, if_neg k2, if_neg k3, if_neg k4]
          exact ⟨(val_zero ..).symm, by simp [actF, flat0]⟩
termination_by SizeOf.sizeOf t
decreasing_by exact Lvl.lt ha

/-! Which pattern a place has. -/
def zOf (x0 x1 x2 x3 : Int) : Int := (if x0 = 0 then 1 else 0) + (if x1 = 0 then 2 else 0) + (if x2 = 0 then 4 else 0) + (if x3 = 0 then 8 else 0)
theorem fit_zOf {x0 x1 x2 x3 : Int} (h : inX x0 x1 x2 x3) : fitZ (zOf x0 x1 x2 x3) x0 x1 x2 x3 ∧ 0 ≤ zOf x0 x1 x2 x3 ∧ zOf x0 x1 x2 x3 < 16 := by
  obtain ⟨h0, h1, h2, h3⟩ := h
  unfold zOf fitZ bitF
  by_cases e0 : x0 = 0 <;> by_cases e1 : x1 = 0 <;> by_cases e2 : x2 = 0 <;> by_cases e3 : x3 = 0 <;>
    simp only [e0, e1, e2, e3, if_true, if_false] <;> simp <;> omega

theorem shr_mono {p q x : Int} (h : p ≤ q) (hx : 0 ≤ x) : shr p x ≤ shr q x := by unfold shr; split <;> split <;> omega
theorem lst_shr {c p : Int} (hc : 0 ≤ c) : lst c p = max c (shr p 1) := by unfold lst shr; split <;> omega
theorem least_val {f : Flat} (hb : 0 ≤ f.b) : leastF f = valF f 1 1 1 1 := by
  unfold leastF valF
  have n0 : 0 ≤ lst f.b f.p0 := by rw [lst_shr hb]; omega
  have n1 : 0 ≤ lst (lst f.b f.p0) f.p1 := by rw [lst_shr n0]; omega
  have n2 : 0 ≤ lst (lst (lst f.b f.p0) f.p1) f.p2 := by rw [lst_shr n1]; omega
  rw [lst_shr n2, lst_shr n1, lst_shr n0, lst_shr hb]
theorem least_le {f : Flat} {x0 x1 x2 x3 : Int} (hb : 0 ≤ f.b) (ha : actF f x0 x1 x2 x3) : leastF f ≤ valF f x0 x1 x2 x3 := by
  rw [least_val hb]
  have key : ∀ p x : Int, (p ≥ 0 → 1 ≤ x) → shr p 1 ≤ shr p x := fun p x h => by
    by_cases hp : p ≥ 0
    · rw [shr_pos hp, shr_pos hp]; have := h hp; omega
    · rw [shr_neg hp, shr_neg hp]; omega
  have hg := val_ge f x0 x1 x2 x3
  obtain ⟨a0, a1, a2, a3⟩ := ha
  exact val_le hg.1 (Int.le_trans (key _ _ a0) hg.2.1) (Int.le_trans (key _ _ a1) hg.2.2.1) (Int.le_trans (key _ _ a2) hg.2.2.2.1) (Int.le_trans (key _ _ a3) hg.2.2.2.2)

/-- What is below is so at every such place. -/
theorem below_val {f g : Flat} {x0 x1 x2 x3 : Int} (hx : inX x0 x1 x2 x3) (hb : 0 ≤ g.b) (ha : actF g x0 x1 x2 x3) (h : belowF f g = true) : valF f x0 x1 x2 x3 ≤ valF g x0 x1 x2 x3 := by
  obtain ⟨h0, h1, h2, h3, h4⟩ := of_decide_eq_true h
  have hg := val_ge g x0 x1 x2 x3
  have hl := least_le hb ha
  obtain ⟨y0, y1, y2, y3⟩ := hx
  exact val_le (by omega) (Int.le_trans (shr_mono h0 y0.1) hg.2.1) (Int.le_trans (shr_mono h1 y1.1) hg.2.2.1) (Int.le_trans (shr_mono h2 y2.1) hg.2.2.2.1) (Int.le_trans (shr_mono h3 y3.1) hg.2.2.2.2)

theorem leq_sound {a b : Lvl} (hwa : wfL a 4 = true) (hwb : wfL b 4 = true) (h : leqF a b = true) {x0 x1 x2 x3 : Int} (hx : inX x0 x1 x2 x3) : evalF [x0, x1, x2, x3] a ≤ evalF [x0, x1, x2, x3] b := by
  obtain ⟨hf, z0, z1⟩ := fit_zOf hx
  obtain ⟨i1, i2⟩ := flat_eval _ x0 x1 x2 x3 hf hx a hwa
  obtain ⟨j1, j2⟩ := flat_eval _ x0 x1 x2 x3 hf hx b hwb
  rw [i1, j1]
  have hm := List.all_eq_true.1 h (zOf x0 x1 x2 x3).toNat (by rw [List.mem_range']; exact ⟨(zOf x0 x1 x2 x3).toNat, by omega, by omega⟩)
  rw [show (((zOf x0 x1 x2 x3).toNat : Nat) : Int) = zOf x0 x1 x2 x3 by omega] at hm
  exact below_val hx (flatF_ok _ b).1.1 j2 hm

end Go.Ab.Ytfgndomaadikoaa
