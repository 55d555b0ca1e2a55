/- Texts of our own, laid together. -/
import Derived.Test.YtplnabidakjhiaaGreatM6W1
set_option linter.unusedVariables false
set_option linter.unusedSimpArgs false
namespace Go.Ab.YtplnabidakjhiaaGreat
open Go Go.RowKit Go.Ab Go.Proofs
def lvF (l : List Int) : Nat → Int → Int → Lvl × Int
  | 0, _, a => (zL, a)
  | g + 1, p, a =>
    if nxt l a 6 = 1 then (⟨1, 0, [(lvF l g p (nxA l a 6)).1]⟩, (lvF l g p (nxA l a 6)).2)
    else if nxt l a 6 = 2 then (⟨2, 0, [(lvF l g p (nxA l a 6)).1, (lvF l g p (lvF l g p (nxA l a 6)).2).1]⟩, (lvF l g p (lvF l g p (nxA l a 6)).2).2)
    else if nxt l a 6 = 3 then (⟨3, 0, [(lvF l g p (nxA l a 6)).1, (lvF l g p (lvF l g p (nxA l a 6)).2).1]⟩, (lvF l g p (lvF l g p (nxA l a 6)).2).2)
    else if (nxt l a 6 = 4 ∨ nxt l a 6 = 5) ∧ p > 0 then (⟨4, nxt l (nxA l a 6) p, []⟩, nxA l (nxA l a 6) p)
    else (zL, nxA l a 6)
def spoN (l : List Int) : List ByteArray := [(⟨#[78, 97, 116]⟩ : ByteArray), (⟨#[110, 111, 112, 101]⟩ : ByteArray), (⟨#[69, 113]⟩ : ByteArray), (⟨#[105, 100]⟩ : ByteArray), (⟨#[97, 100, 100]⟩ : ByteArray), (⟨#[70, 97, 108, 115, 101]⟩ : ByteArray)]
def spo0 (l : List Int) (t : Trm) (a : Int) : Trm × Int :=
  if nxt l a 6 = 0 then (cZero, nxA l a 6)
  else if nxt l a 6 = 1 then (mkV (nxt l (nxA l a 6) 3), nxA l (nxA l a 6) 3)
  else if nxt l a 6 = 2 then (⟨1, 0, ⟨#[]⟩, [(lvF l (l.length + 1) 2 (nxA l a 6)).1], []⟩, (lvF l (l.length + 1) 2 (nxA l a 6)).2)
  else if nxt l a 6 = 3 then (⟨2, 0, (spoN l).getD (nxt l (nxA l a 6) 6).toNat ⟨#[]⟩, [], []⟩, nxA l (nxA l a 6) 6)
  else if nxt l a 6 = 4 then (mkA t t, nxA l a 6)
  else (mkB 4 cNat (lftT 1 t 0), nxA l a 6)
def spoF (l : List Int) : Nat → Trm → Int → Trm × Int
  | 0, t, a => (t, a)
  | g + 1, t, a =>
    if t.args.length > 0 then
      if nxt l a 4 > 0 then
        (⟨t.kind, t.n, t.name, t.levels, t.args.set (nxt l (nxA l a 4) t.args.length).toNat (spoF l g (t.args.getD (nxt l (nxA l a 4) t.args.length).toNat zT) (nxA l (nxA l a 4) t.args.length)).1⟩,
          (spoF l g (t.args.getD (nxt l (nxA l a 4) t.args.length).toNat zT) (nxA l (nxA l a 4) t.args.length)).2)
      else spo0 l t (nxA l a 4)
    else spo0 l t a
def anyS : List ByteArray := [(⟨#[42, 48]⟩ : ByteArray), (⟨#[42, 83, 48]⟩ : ByteArray), (⟨#[78, 97, 116, 46, 114, 101, 99, 123, 48, 125]⟩ : ByteArray), (⟨#[92, 42, 112, 48, 46, 32, 92, 35, 48, 46, 32, 35, 48]⟩ : ByteArray), (⟨#[101, 120, 116, 123, 48, 44, 83, 48, 125]⟩ : ByteArray), (⟨#[33, 42, 48, 46, 32, 35, 48]⟩ : ByteArray), (⟨#[76, 105, 115, 116, 46, 114, 101, 99, 123, 48, 44, 83, 48, 125]⟩ : ByteArray), (⟨#[86, 101, 99, 123, 48, 125]⟩ : ByteArray), (⟨#[92, 33, 78, 97, 116, 46, 32, 42, 48, 46, 32, 40, 35, 48, 32, 122, 101, 114, 111, 41]⟩ : ByteArray), (⟨#[40, 40, 40, 86, 101, 99, 46, 114, 101, 99, 123, 48, 44, 83, 48, 125, 32, 78, 97, 116, 41, 32, 92, 78, 97, 116, 46, 32, 92, 40, 40, 86, 101, 99, 123, 48, 125, 32, 78, 97, 116, 41, 32, 35, 48, 41, 46, 32, 78, 97, 116, 41, 32, 122, 101, 114, 111, 41]⟩ : ByteArray)]
def any0 (l : List Int) (a : Int) : Trm × Int :=
  if nxt l a 6 = 0 then pn l 0 (nxA l a 6)
  else if nxt l a 6 = 1 then funF l (2 * l.length + 1) 0 (nxA l a 6)
  else if nxt l a 6 = 2 then pp l 0 (nxA l a 6)
  else if nxt l a 6 = 3 then ((shownF l (l.length + 1) 0 (nxA l a 6)).1, (shownF l (l.length + 1) 0 (nxA l a 6)).2.2)
  else if nxt l a 6 = 4 then (shownF l (l.length + 1) 0 (nxA l a 6)).2
  else (trmOf (anyS.getD (nxt l (nxA l a 6) 10).toNat ⟨#[]⟩), nxA l (nxA l a 6) 10)
def anyF (l : List Int) (a : Int) : Trm × Int :=
  if nxt l (any0 l a).2 5 = 4 then spoF l (l.length + 1) (any0 l a).1 (nxA l (any0 l a).2 5) else ((any0 l a).1, nxA l (any0 l a).2 5)
theorem anyS_ok : (anyS.all fun s => txtOK s && cOK (trmOf s) 10 40) = true := by kernel_rfl
theorem lv_ok (l : List Int) : ∀ (g : Nat) (p a : Int), 0 ≤ a → a ≤ l.length → a ≤ (lvF l g p a).2 ∧ (lvF l g p a).2 ≤ l.length ∧ narL (lvF l g p a).1 = true
  | 0, p, a, h2, h3 => ⟨Int.le_refl _, h3, by simp [lvF, zL, narL, narLs]⟩
  | g + 1, p, a, h2, h3 => by
    have hx := nx_le (l := l) (n := 6) h2 h3
    simp only [lvF]
    generalize nxA l a 6 = b at *
    have h0 : 0 ≤ b := by omega
    have m := lv_ok l g p b h0 hx.2.1
    have m2 := lv_ok l g p _ (by omega) m.2.1
    split
    · exact ⟨by simp only; omega, m.2.1, by simp [narL, narLs, m.2.2]⟩
    · split
      · exact ⟨by simp only; omega, m2.2.1, by simp [narL, narLs, m.2.2, m2.2.2]⟩
      · split
        · exact ⟨by simp only; omega, m2.2.1, by simp [narL, narLs, m.2.2, m2.2.2]⟩
        · split
          · have hy := nx_le (l := l) (a := b) (n := p) h0 hx.2.1
            exact ⟨by simp only; omega, hy.2.1, by simp [narL, narLs]⟩
          · exact ⟨hx.1, hx.2.1, by simp [zL, narL, narLs]⟩
theorem spo0_ok (l : List Int) {c : Int} (hc : 1000000 ≤ c) {t : Trm} {a : Int} (h2 : 0 ≤ a) (h3 : a ≤ l.length) (w : wfT c t = true) : a ≤ (spo0 l t a).2 ∧ (spo0 l t a).2 ≤ l.length ∧ wfT (c + 1) (spo0 l t a).1 = true ∧ dpT (spo0 l t a).1 ≤ dpT t + 1 ∧ sizT (spo0 l t a).1 ≤ 2 * sizT t + 3 := by
  have hx := nx_le (l := l) (n := 6) h2 h3
  have hd := dpT_eq t
  have w1 := wfT_mono (c := c + 1) (by omega) t w
  have hs := sizT_pos t
  simp only [spo0]
  generalize nxA l a 6 = b at *
  have h0 : 0 ≤ b := by omega
  have z1 := cOK_get kZero; have z2 := cOK_get kNat
  split
  · exact ⟨hx.1, hx.2.1, wfT_mono (by omega) _ z1.1, by simp only; omega, by simp only; omega⟩
  · split
    · have hy := nx_le (l := l) (a := b) (n := 3) h0 hx.2.1
      have hv := nx_lt (l := l) (a := b) (n := 3) (by omega)
      exact ⟨by simp only; omega, hy.2.1, by simp [mkV, wfT, shpF, wfTs, argF]; omega, by simp [mkV, dpT, dpTs], by simp [mkV, sizT, sizTs]⟩
    · split
      · have m := lv_ok l (l.length + 1) 2 b h0 hx.2.1
        exact ⟨by simp only; omega, m.2.1, by simp [wfT, shpF, wfTs, argF, m.2.2]; omega, by simp [dpT, dpTs], by simp [sizT, sizTs]⟩
      · split
        · have hy := nx_le (l := l) (a := b) (n := 6) h0 hx.2.1
          exact ⟨by simp only; omega, hy.2.1, by simp [wfT, shpF, wfTs, argF]; omega, by simp [dpT, dpTs], by simp [sizT, sizTs]⟩
        · split
          · exact ⟨hx.1, hx.2.1, mkA_wf (by omega) w1 w1, by simp only [dp_app]; omega, by simp only [sz_app]; omega⟩
          · have hl := lft_dp (by_ := 1) t 0
            have hls := lft_siz 1 t 0
            exact ⟨hx.1, hx.2.1, wfT_mk ⟨by simp [mkB, argF], by simp [mkB], by simp [mkB]; omega, by simp [mkB], by simp [mkB], by simp [mkB], by simp [mkB], by simp [mkB], by simp [mkB], fun x hx => by
              simp only [mkB, List.mem_cons, List.not_mem_nil, or_false] at hx
              rcases hx with rfl | rfl
              · exact wfT_mono (by omega) _ z2.1
              · exact lft_wf (by omega) (by omega) (Int.le_refl _) w⟩, by simp only [dp_B]; omega, by simp only [sz_B]; omega⟩
theorem dpTs_le {M : Nat} : ∀ {l : List Trm}, (∀ a ∈ l, dpT a ≤ M) → dpTs l ≤ M
  | [], _ => by simp [dpTs]
  | a :: r, h => by
    have h1 := h a (by simp)
    have h2 := dpTs_le (l := r) fun b hb => h b (by simp [hb])
    simp only [dpTs]; omega
end Go.Ab.YtplnabidakjhiaaGreat
set_option linter.unusedVariables false
set_option linter.unusedSimpArgs false
namespace Go.Ab.YtplnabidakjhiaaGreat
open Go Go.RowKit Go.Ab Go.Proofs
theorem kB_wfc {c : Int} (hc : 0 ≤ c) {k : Int} (hk : k = 4 ∨ k = 5) {a b : Trm} (ha : wfT c a = true) (hb : wfT c b = true) : wfT c (mkB k a b) = true := by
  refine wfT_mk ⟨by rcases hk with rfl | rfl <;> simp [mkB, argF], by simp [mkB], by simpa [mkB] using hc, by simp [mkB], by simp [mkB], by rcases hk with rfl | rfl <;> simp [mkB], by simp [mkB], by simp [mkB], by simp [mkB], fun x hx => ?_⟩
  simp only [mkB, List.mem_cons, List.not_mem_nil, or_false] at hx
  rcases hx with rfl | rfl <;> assumption
theorem sq_le {a b c : Int} (ha : 0 ≤ a) (hb : 0 ≤ b) (h : 1 + a + b ≤ c) : a * a + b * b + 2 * (a + b) + 1 ≤ c * c := by
  have h1 : (1 + a + b) * (1 + a + b) ≤ c * c := Int.mul_le_mul h h (by omega) (by omega)
  have h2 := Int.mul_nonneg ha hb
  have h3 := Int.mul_comm a b
  simp only [Int.add_mul, Int.mul_add, Int.one_mul, Int.mul_one] at h1
  omega
structure Sh (l : List Int) (g : Nat) (a : Int) (x : Trm × Trm × Int) : Prop where
  a0 : a ≤ x.2.2
  a1 : x.2.2 ≤ l.length
  w : wfT 1000001 x.1 = true
  w2 : wfT 1000001 x.2.1 = true
  d : dpT x.1 ≤ 6 * g + 10
  d2 : dpT x.2.1 ≤ 6 * g + 10
  s : (sizT x.1 : Int) ≤ 14 * ((x.2.2 - a) * (x.2.2 - a)) + 40 * (x.2.2 - a) + 4
  s2 : (sizT x.2.1 : Int) ≤ 28 * (x.2.2 - a) + 4
theorem kWf {t : Trm} {d s : Nat} (h : cOK t d s = true) : wfT 1000001 t = true := wfT_mono (by omega) _ (cOK_get h).1
theorem shown_ok (l : List Int) (hl : l.length ≤ 10000) : ∀ (g : Nat) (v a : Int), 0 ≤ v → v + g ≤ 20000 → 0 ≤ a → a ≤ l.length → Sh l (3 * l.length + 3 + g) a (shownF l g v a)
  | 0, v, a, h0, h1, h2, h3 => ⟨Int.le_refl _, h3, kWf kZero, kWf kZero, by have := (cOK_get kZero).2.1; simp only [shownF]; omega, by have := (cOK_get kZero).2.1; simp only [shownF]; omega, by have := (cOK_get kZero).2.2; simp only [shownF, Int.sub_self]; omega, by have := (cOK_get kZero).2.2; simp only [shownF]; omega⟩
  | g + 1, v, a, h0, h1, h2, h3 => by
    have iS := shown_ok l hl g
    have z1 := cOK_get kEq; have z2 := cOK_get kAnd; have z3 := cOK_get kNat; have z4 := cOK_get kRefl; have z5 := cOK_get kP; have z6 := cOK_get kAndMk; have z7 := cOK_get kId0; have z8 := cOK_get kAll
    have hx := nx_le (l := l) (n := 6) h2 h3
    have up : ∀ {t : Trm}, wfT 1000000 t = true → wfT 1000001 t = true := fun h => wfT_mono (by omega) _ h
    have mpn : ∀ b : Int, 0 ≤ b → b ≤ l.length → Mk l (2 * l.length + 1) 1 b (pn l v b) := fun b hb0 hb1 => pn_ok l hl h0 (by omega) hb0 hb1
    simp only [shownF]
    generalize nxA l a 6 = b at *
    have hb0 : 0 ≤ b := by omega
    split
    · have hb := hx.2.2.1 (by omega)
      have m := mpn b hb0 hx.2.1
      generalize pn l v b = P at *
      have m0 := m.a0; have ms := m.s; have md := m.d; have mw := up m.w
      have hq := sq_le (a := P.2 - b) (b := 0) (c := P.2 - a) (by omega) (by omega) (by omega)
      exact ⟨by simp only; omega, m.a1, mkA_wf (by omega) (mkA_wf (by omega) (up z4.1) (up z3.1)) mw, mkA_wf (by omega) (mkA_wf (by omega) (mkA_wf (by omega) (up z1.1) (up z3.1)) mw) mw, by simp only [appT, dp_app]; omega, by simp only [appT, dp_app]; omega, by have := Int.mul_nonneg (a := P.2 - a) (b := P.2 - a) (by omega) (by omega); simp only [appT, sz_app]; push_cast; omega, by simp only [appT, sz_app]; push_cast; omega⟩
    · split
      · have hb := hx.2.2.1 (by omega)
        have m := iS v b h0 (by omega) hb0 hx.2.1
        generalize shownF l g v b = P at *
        have m0 := m.a0
        have m' := iS v P.2.2 h0 (by omega) (by omega) m.a1
        generalize shownF l g v P.2.2 = Q at *
        have n0 := m'.a0; have ms := m.s; have ms2 := m.s2; have ns := m'.s; have ns2 := m'.s2; have md := m.d; have md2 := m.d2; have nd := m'.d; have nd2 := m'.d2
        have hq := sq_le (a := P.2.2 - b) (b := Q.2.2 - P.2.2) (c := Q.2.2 - a) (by omega) (by omega) (by omega)
        exact ⟨by simp only; omega, m'.a1, mkA_wf (by omega) (mkA_wf (by omega) (mkA_wf (by omega) (mkA_wf (by omega) (up z6.1) m.w2) m'.w2) m.w) m'.w, mkA_wf (by omega) (mkA_wf (by omega) (up z2.1) m.w2) m'.w2, by simp only [appT, dp_app]; omega, by simp only [appT, dp_app]; omega, by simp only [appT, sz_app]; push_cast; omega, by simp only [appT, sz_app]; push_cast; omega⟩
      · split
        · have hb := hx.2.2.1 (by omega)
          have m := iS (v + 1) b (by omega) (by omega) hb0 hx.2.1
          generalize shownF l g (v + 1) b = P at *
          have m0 := m.a0; have ms := m.s; have ms2 := m.s2; have md := m.d; have md2 := m.d2
          have hq := sq_le (a := P.2.2 - b) (b := 0) (c := P.2.2 - a) (by omega) (by omega) (by omega)
          exact ⟨by simp only; omega, m.a1, kB_wfc (by omega) (.inl rfl) (up z3.1) m.w, kB_wfc (by omega) (.inr rfl) (up z3.1) m.w2, by simp only [dp_B]; omega, by simp only [dp_B]; omega, by simp only [sz_B]; push_cast; omega, by simp only [sz_B]; push_cast; omega⟩
        · split
          · have hb := hx.2.2.1 (by omega)
            have m := prop_ok l hl (l.length + 1) v b h0 (by omega) hb0 hx.2.1
            have e : propF l (l.length + 1) v b = pp l v b := rfl
            rw [e] at m
            generalize pp l v b = P at *
            have m0 := m.a0; have ms := m.s; have md := m.d; have mw := up m.w
            have hd := lft_dp (by_ := 1) P.1 0
            have hs := lft_siz 1 P.1 0
            have hq := Int.mul_nonneg (a := P.2 - a) (b := P.2 - a) (by omega) (by omega)
            refine ⟨by simp only; omega, m.a1, kB_wfc (by omega) (.inl rfl) mw (by simp [mkV, wfT, shpF, wfTs, argF]), kB_wfc (by omega) (.inr rfl) mw (lft_wf (by omega) (by omega) (Int.le_refl _) m.w), ?_, by simp only [dp_B]; omega, ?_, by simp only [sz_B]; push_cast; omega⟩
            · have : dpT (mkV 0) = 1 := rfl
              simp only [dp_B]; omega
            · have : sizT (mkV 0) = 1 := rfl
              simp only [sz_B]; push_cast; omega
          · split
            · have hb := hx.2.2.1 (by omega)
              have m := iS v b h0 (by omega) hb0 hx.2.1
              generalize shownF l g v b = P at *
              have m0 := m.a0; have ms := m.s; have ms2 := m.s2; have md := m.d; have md2 := m.d2
              have hq := sq_le (a := P.2.2 - b) (b := 0) (c := P.2.2 - a) (by omega) (by omega) (by omega)
              exact ⟨by simp only; omega, m.a1, mkA_wf (by omega) (mkA_wf (by omega) (up z7.1) m.w2) m.w, m.w2, by simp only [appT, dp_app]; omega, by simp only; omega, by simp only [appT, sz_app]; push_cast; omega, by simp only; omega⟩
            · have m := mpn b hb0 hx.2.1
              generalize pn l v b = P at *
              have m0 := m.a0; have ms := m.s; have md := m.d; have mw := up m.w
              have hq := Int.mul_nonneg (a := P.2 - a) (b := P.2 - a) (by omega) (by omega)
              exact ⟨by simp only; omega, m.a1, mkA_wf (by omega) (up z8.1) mw, mkA_wf (by omega) (up z5.1) mw, by simp only [appT, dp_app]; omega, by simp only [appT, dp_app]; omega, by simp only [appT, sz_app]; push_cast; omega, by simp only [appT, sz_app]; push_cast; omega⟩
end Go.Ab.YtplnabidakjhiaaGreat
set_option linter.unusedVariables false
set_option linter.unusedSimpArgs false
namespace Go.Ab.YtplnabidakjhiaaGreat
open Go Go.RowKit Go.Ab Go.Proofs
theorem sizTs_set : ∀ (l : List Trm) (k : Nat) (x : Trm), k < l.length → sizTs (l.set k x) + sizT (l.getD k zT) = sizTs l + sizT x
  | [], _, _, h => by simp at h
  | a :: r, 0, x, _ => by simp only [List.set_cons_zero, sizTs, List.getD_cons_zero]; omega
  | a :: r, k + 1, x, h => by
    have := sizTs_set r k x (by simpa using h)
    simp only [List.set_cons_succ, sizTs, List.getD_cons_succ]; omega
theorem spo_ok (l : List Int) {c : Int} (hc : 1000000 ≤ c) : ∀ (g : Nat) (t : Trm) (a : Int), 0 ≤ a → a ≤ l.length → wfT c t = true → a ≤ (spoF l g t a).2 ∧ (spoF l g t a).2 ≤ l.length ∧ wfT (c + 1) (spoF l g t a).1 = true ∧ dpT (spoF l g t a).1 ≤ dpT t + 1 ∧ sizT (spoF l g t a).1 ≤ 2 * sizT t + 3
  | 0, t, a, h2, h3, w => ⟨Int.le_refl _, h3, wfT_mono (by omega) t w, by simp only [spoF]; omega, by simp only [spoF]; omega⟩
  | g + 1, t, a, h2, h3, w => by
    have hx := nx_le (l := l) (n := 4) h2 h3
    simp only [spoF]
    by_cases hl : t.args.length > 0
    · rw [if_pos hl]
      by_cases hk : nxt l a 4 > 0
      · rw [if_pos hk]
        generalize nxA l a 4 = b at *
        have hb0 : 0 ≤ b := by omega
        have hy := nx_le (l := l) (a := b) (n := t.args.length) hb0 hx.2.1
        have hv := nx_lt (l := l) (a := b) (n := t.args.length) (by omega)
        generalize nxA l b t.args.length = d at *
        generalize nxt l b t.args.length = i at *
        have hi : i.toNat < t.args.length := by omega
        have hm : t.args.getD i.toNat zT ∈ t.args := by rw [List.getD_eq_getElem?_getD, List.getElem?_eq_getElem hi]; exact List.getElem_mem hi
        have W := wfT_get w
        have ih := spo_ok l hc g (t.args.getD i.toNat zT) d (by omega) hy.2.1 (W.sub _ hm)
        have hs := sizTs_set t.args i.toNat (spoF l g (t.args.getD i.toNat zT) d).1 hi
        have hdm := dpT_mem hm
        generalize spoF l g (t.args.getD i.toNat zT) d = R at *
        refine ⟨by simp only; omega, ih.2.1, wfT_mk ⟨by simp only [List.length_set]; exact W.args, W.n0, by have := W.n1; simp only; omega, W.var, W.name, W.sort, W.lev, W.few, W.nar, fun x hx => ?_⟩, ?_, ?_⟩
        · rcases List.mem_or_eq_of_mem_set hx with h | h
          · exact wfT_mono (by omega) x (W.sub x h)
          · subst h; exact ih.2.2.1
        · rw [dpT_eq]
          have : dpTs (t.args.set i.toNat R.1) ≤ dpT t := dpTs_le fun x hx => by
            rcases List.mem_or_eq_of_mem_set hx with h | h
            · have := dpT_mem h; omega
            · subst h; omega
          simp only; omega
        · rw [sizT_eq, sizT_eq t]
          have hle : sizT (t.args.getD i.toNat zT) ≤ sizTs t.args := sizTs_mem hm
          simp only; omega
      · rw [if_neg hk]
        have := spo0_ok l hc (t := t) (a := nxA l a 4) (by omega) hx.2.1 w
        exact ⟨by omega, this.2⟩
    · rw [if_neg hl]; exact spo0_ok l hc h2 h3 w
theorem any0_ok (l : List Int) (hl : l.length ≤ 150) {a : Int} (h2 : 0 ≤ a) (h3 : a ≤ l.length) : a ≤ (any0 l a).2 ∧ (any0 l a).2 ≤ l.length ∧ wfT 1000001 (any0 l a).1 = true ∧ dpT (any0 l a).1 ≤ 6000 ∧ sizT (any0 l a).1 ≤ 400000 := by
  have hx := nx_le (l := l) (n := 6) h2 h3
  unfold any0
  generalize nxA l a 6 = b at *
  have hb0 : 0 ≤ b := by omega
  have up : ∀ {t : Trm}, wfT 1000000 t = true → wfT 1000001 t = true := fun h => wfT_mono (by omega) _ h
  split
  · have m := pn_ok l (by omega) (Int.le_refl 0) (by omega) hb0 hx.2.1
    have := m.a0; have := m.a1; have := m.d; have := m.s
    exact ⟨by omega, m.a1, up m.w, by omega, by omega⟩
  · split
    · have m := (made_ok l (2 * l.length + 1)).2 0 b (by omega) (by omega) hb0 hx.2.1
      have := m.a0; have := m.a1; have := m.d; have := m.s
      exact ⟨by omega, m.a1, up m.w, by omega, by omega⟩
    · split
      · have m := prop_ok l (by omega) (l.length + 1) 0 b (by omega) (by omega) hb0 hx.2.1
        have := m.a0; have := m.a1; have := m.d; have := m.s
        exact ⟨by simp only [pp]; omega, m.a1, up m.w, by simp only [pp]; omega, by simp only [pp]; omega⟩
      · have m := shown_ok l (by omega) (l.length + 1) 0 b (by omega) (by omega) hb0 hx.2.1
        have g0 := m.a0; have g1 := m.a1; have gd := m.d; have gd2 := m.d2; have gs := m.s; have gs2 := m.s2
        generalize shownF l (l.length + 1) 0 b = P at *
        have hq : (P.2.2 - b) * (P.2.2 - b) ≤ 150 * 150 := Int.mul_le_mul (by omega) (by omega) (by omega) (by omega)
        split
        · exact ⟨by simp only; omega, g1, m.w, by simp only; omega, by simp only; omega⟩
        · split
          · exact ⟨by omega, g1, m.w2, by omega, by omega⟩
          · have hy := nx_le (l := l) (a := b) (n := 10) hb0 hx.2.1
            have hv := nx_lt (l := l) (a := b) (n := 10) (by omega)
            have hi : (nxt l b 10).toNat < anyS.length := by show _ < 10; omega
            have hs := List.all_eq_true.1 anyS_ok _ (List.getElem_mem hi)
            simp only [Bool.and_eq_true] at hs
            obtain ⟨c1, c2, c3⟩ := cOK_get hs.2
            rw [List.getD_eq_getElem?_getD, List.getElem?_eq_getElem hi]
            exact ⟨by simp only; omega, hy.2.1, up c1, by simp only [Option.getD_some]; omega, by simp only [Option.getD_some]; omega⟩
theorem any_ok (l : List Int) (hl : l.length ≤ 150) : wfT 1000002 (anyF l 0).1 = true ∧ dpT (anyF l 0).1 ≤ 6001 ∧ sizT (anyF l 0).1 ≤ 1000000 := by
  have h := any0_ok l hl (a := 0) (Int.le_refl _) (by omega)
  unfold anyF
  have hx := nx_le (l := l) (a := (any0 l 0).2) (n := 5) (by omega) h.2.1
  split
  · have := spo_ok l (c := 1000001) (by omega) (l.length + 1) (any0 l 0).1 (nxA l (any0 l 0).2 5) (by omega) hx.2.1 h.2.2.1
    exact ⟨this.2.2.1, by omega, by omega⟩
  · exact ⟨wfT_mono (by omega) _ h.2.2.1, by simp only; omega, by simp only; omega⟩
end Go.Ab.YtplnabidakjhiaaGreat
set_option linter.unusedVariables false
set_option linter.unusedSimpArgs false
namespace Go.Ab.YtplnabidakjhiaaGreat
open Go Go.RowKit Go.Ab Go.Proofs
theorem ap3_con (s : ByteArray) (h : txtOK s = true) (hc : okT (trmOf s) = true) (x y z : Trm) (hx : Cp x) (hy : Cp y) (hz : Cp z) : PCon Tryz.prog 55 [.p (St s), .p (.sl 5 [rowT x, rowT y, rowT z])] (tv (appT (trmOf s) [x, y, z])) := by
  have := rapply_con s h hc [x, y, z] (fun a ha => by simp at ha; rcases ha with rfl | rfl | rfl <;> assumption) (by simp)
  rw [show encTs [x, y, z] = [rowT x, rowT y, rowT z] by simp [encTs_eq]] at this
  exact this
theorem tEq : txtOK (⟨#[69, 113, 123, 83, 48, 125]⟩ : ByteArray) = true := by kernel_rfl
theorem tAnd : txtOK (⟨#[65, 110, 100]⟩ : ByteArray) = true := by kernel_rfl
theorem tNot : txtOK (⟨#[110, 111, 116]⟩ : ByteArray) = true := by kernel_rfl
theorem tP : txtOK (⟨#[80]⟩ : ByteArray) = true := by kernel_rfl
theorem tS0 : txtOK (⟨#[42, 48]⟩ : ByteArray) = true := by kernel_rfl
theorem tRefl : txtOK (⟨#[69, 113, 46, 114, 101, 102, 108, 123, 83, 48, 125]⟩ : ByteArray) = true := by kernel_rfl
theorem tAndMk : txtOK (⟨#[65, 110, 100, 46, 109, 107]⟩ : ByteArray) = true := by kernel_rfl
theorem tId0 : txtOK (⟨#[105, 100, 123, 48, 125]⟩ : ByteArray) = true := by kernel_rfl
theorem tAll : txtOK (⟨#[112, 46, 97, 108, 108]⟩ : ByteArray) = true := by kernel_rfl
theorem oEq : okT cEq = true := by kernel_rfl
theorem oAnd : okT cAnd = true := by kernel_rfl
theorem oNot : okT cNot = true := by kernel_rfl
theorem oP : okT cP = true := by kernel_rfl
theorem oRefl : okT cRefl = true := by kernel_rfl
theorem oAndMk : okT cAndMk = true := by kernel_rfl
theorem oId0 : okT cId0 = true := by kernel_rfl
theorem oAll : okT cAll = true := by kernel_rfl
theorem pn_con (l : List Int) (hl : okB l) (hlen : l.length ≤ 10000) {v a : Int} (h0 : 0 ≤ v) (h1 : v ≤ 50000) (h2 : 0 ≤ a) (h3 : a ≤ l.length) : NatC l v a (pn l v a) := (nat_con l hl hlen (2 * l.length + 1)).1 v a h0 (by omega) h2 h3 (by omega)
theorem done_con (l : List Int) (a : Int) : Con Tryz.prog 86 [.ptr 1000 0] (pkO l a) (fun r o => r = .p (B (decide (a ≥ l.length))) ∧ o = pkO l a) := by
  have hbl := byts_len l
  refine cv [] [] [1000] Tryz.func86 13 Tryz.ntmps86 rfl rfl fun cx hE => ?_
  exact ⟨by rw [hbl], rfl⟩
def PropC (l : List Int) (v a : Int) (x : Trm × Int) : Prop := Con Tryz.prog 47 [.ptr 1000 0, .p (I v)] (pkO l a) (fun r o => r = tv x.1 ∧ o = pkO l x.2)
set_option maxRecDepth 20000 in
set_option maxHeartbeats 8000000 in
theorem prop_con (l : List Int) (hl : okB l) (hlen : l.length ≤ 10000) : ∀ (g : Nat) (v a : Int), 0 ≤ v → v + g ≤ 40000 → 0 ≤ a → a ≤ l.length → l.length - a + 1 ≤ g → PropC l v a (propF l g v a)
  | 0, v, a, h0, h1, h2, h3, h4 => by omega
  | g + 1, v, a, h0, h1, h2, h3, h4 => by
    have cP' := prop_con l hl hlen g
    have iP := prop_ok l hlen g
    have hx := nx_le (l := l) (n := 6) h2 h3
    have hnx := Next_con l hl (by omega) a 6 h2 (by omega) (by omega)
    unfold PropC
    generalize hX : propF l (g + 1) v a = X
    simp only [propF] at hX
    generalize nxA l a 6 = b at *
    generalize nxt l a 6 = k at *
    have hb0 : 0 ≤ b := by omega
    have kn := pn_con l hl hlen h0 (by omega) hb0 hx.2.1
    have mn := pn_ok l hlen h0 (by omega) hb0 hx.2.1
    refine cv [] [] [1000] Tryz.func47 63 Tryz.ntmps47 rfl rfl fun cx hE => call1 [1000] hnx rfl rfl (subs_refl _) ?_
    refine brS (fun hk => ?_) (fun hk => brS (fun hk2 => ?_) (fun hk2 => brS (fun hk3 => ?_) (fun hk3 => brS (fun hk4 => ?_) (fun hk4 => brS (fun hk5 => ?_) (fun hk5 => ?_)))))
    · have hb := hx.2.2.1 (by omega)
      rw [if_pos hk] at hX; subst hX
      have m0 := mn.a0
      have k2 := pn_con l hl hlen h0 (by omega) (by omega : 0 ≤ (pn l v b).2) mn.a1
      have m2 := pn_ok l hlen h0 (by omega) (by omega : 0 ≤ (pn l v b).2) mn.a1
      exact call1 [1000] kn rfl rfl (subs_refl _) (call0 (rc_con _ tNat) (callW [1000] 1000 (pkB l _) k2 rfl rfl (subs_refl _) rfl rfl (call0 (ap3_con _ tEq oEq cNat _ _ (cp_c kNat (by omega)) (mn.cp (by omega)) (m2.cp (by omega))) ⟨rfl, rfl⟩)))
    · have hb := hx.2.2.1 (by omega)
      rw [if_neg hk, if_pos hk2] at hX; subst hX
      have m := iP v b h0 (by omega) hb0 hx.2.1
      have m0 := m.a0
      have m2 := iP v _ h0 (by omega) (by omega) m.a1
      exact call1 [1000] (cP' v b h0 (by omega) hb0 hx.2.1 (by omega)) rfl rfl (subs_refl _) (callW [1000] 1000 (pkB l _) (cP' v _ h0 (by omega) (by omega) m.a1 (by omega)) rfl rfl (subs_refl _) rfl rfl (call0 (ap2_con _ tAnd oAnd _ _ (m.cp (by omega)) (m2.cp (by omega))) ⟨rfl, rfl⟩))
    · have hb := hx.2.2.1 (by omega)
      rw [if_neg hk, if_neg hk2, if_pos hk3] at hX; subst hX
      exact call0 (rc_con _ tNat) (And.intro (by omega) (call1 [1000] (cP' (v + 1) b (by omega) (by omega) hb0 hx.2.1 (by omega)) rfl rfl (subs_refl _) (call0 (rPi_con cNat _ (cp_c kNat (by omega))) ⟨rfl, rfl⟩)))
    · have hb := hx.2.2.1 (by omega)
      rw [if_neg hk, if_neg hk2, if_neg hk3, if_pos hk4] at hX; subst hX
      have m := iP v b h0 (by omega) hb0 hx.2.1
      exact call1 [1000] (cP' v b h0 (by omega) hb0 hx.2.1 (by omega)) rfl rfl (subs_refl _) (call0 (ap1_con _ tNot oNot _ (m.cp (by omega))) ⟨rfl, rfl⟩)
    · have hb := hx.2.2.1 (by omega)
      rw [if_neg hk, if_neg hk2, if_neg hk3, if_neg hk4] at hX
      refine call1 [1000] (done_con l b) rfl rfl (subs_refl _) (brB (fun hd => ?_) (fun hd => ?_))
      · rw [if_pos ⟨hk5, by simpa using hd⟩] at hX; subst hX
        have m := iP v b h0 (by omega) hb0 hx.2.1
        exact call0 (rc_con _ tS0) (call1 [1000] (cP' v b h0 (by omega) hb0 hx.2.1 (by omega)) rfl rfl (subs_refl _) (call0 (ap2_con _ tId oId cS0 _ (cp_c kS0 (by omega)) (m.cp (by omega))) ⟨rfl, rfl⟩))
      · rw [if_neg (fun h => h.2 (by simpa using hd))] at hX; subst hX
        exact call1 [1000] kn rfl rfl (subs_refl _) (call0 (ap1_con _ tP oP _ (mn.cp (by omega))) ⟨rfl, rfl⟩)
    · rw [if_neg hk, if_neg hk2, if_neg hk3, if_neg hk4, if_neg (fun h => hk5 h.1)] at hX; subst hX
      exact call1 [1000] kn rfl rfl (subs_refl _) (call0 (ap1_con _ tP oP _ (mn.cp (by omega))) ⟨rfl, rfl⟩)
end Go.Ab.YtplnabidakjhiaaGreat
set_option linter.unusedVariables false
set_option linter.unusedSimpArgs false
namespace Go.Ab.YtplnabidakjhiaaGreat
open Go Go.RowKit Go.Ab Go.Proofs
theorem pp_con (l : List Int) (hl : okB l) (hlen : l.length ≤ 10000) {v a : Int} (h0 : 0 ≤ v) (h1 : v ≤ 20000) (h2 : 0 ≤ a) (h3 : a ≤ l.length) : PropC l v a (pp l v a) := prop_con l hl hlen (l.length + 1) v a h0 (by omega) h2 h3 (by omega)
theorem pp_ok (l : List Int) (hlen : l.length ≤ 10000) {v a : Int} (h0 : 0 ≤ v) (h1 : v ≤ 20000) (h2 : 0 ≤ a) (h3 : a ≤ l.length) : Mk l (2 * l.length + 1 + (l.length + 1)) 3 a (pp l v a) := prop_ok l hlen (l.length + 1) v a h0 (by omega) h2 h3
def ShownC (l : List Int) (v a : Int) (x : Trm × Trm × Int) : Prop := Con Tryz.prog 48 [.ptr 1000 0, .p (I v)] (pkO l a) (fun r o => r = .tp [tv x.1, tv x.2.1] ∧ o = pkO l x.2.2)
set_option maxRecDepth 20000 in
set_option maxHeartbeats 8000000 in
theorem shown_con (l : List Int) (hl : okB l) (hlen : l.length ≤ 10000) : ∀ (g : Nat) (v a : Int), 0 ≤ v → v + g ≤ 20000 → 0 ≤ a → a ≤ l.length → l.length - a + 1 ≤ g → ShownC l v a (shownF l g v a)
  | 0, v, a, h0, h1, h2, h3, h4 => by omega
  | g + 1, v, a, h0, h1, h2, h3, h4 => by
    have cS := shown_con l hl hlen g
    have iS := shown_ok l hlen g
    have hx := nx_le (l := l) (n := 6) h2 h3
    have hnx := Next_con l hl (by omega) a 6 h2 (by omega) (by omega)
    unfold ShownC
    generalize hX : shownF l (g + 1) v a = X
    simp only [shownF] at hX
    generalize nxA l a 6 = b at *
    generalize nxt l a 6 = k at *
    have hb0 : 0 ≤ b := by omega
    have kn := pn_con l hl hlen h0 (by omega) hb0 hx.2.1
    have mn := (pn_ok l hlen h0 (by omega) hb0 hx.2.1).cp (by omega)
    have kp := pp_con l hl hlen h0 (by omega) hb0 hx.2.1
    have mp := pp_ok l hlen h0 (by omega) hb0 hx.2.1
    have cp1 : ∀ {a x}, Sh l (3 * l.length + 3 + g) a x → Cp x.1 := fun h => Cp.of h.w (by omega) (by have := h.d; omega)
    have cp2 : ∀ {a x}, Sh l (3 * l.length + 3 + g) a x → Cp x.2.1 := fun h => Cp.of h.w2 (by omega) (by have := h.d2; omega)
    refine cv [] [] [1000] Tryz.func48 109 Tryz.ntmps48 rfl rfl fun cx hE => call1 [1000] hnx rfl rfl (subs_refl _) ?_
    refine brS (fun hk => ?_) (fun hk => brS (fun hk2 => ?_) (fun hk2 => brS (fun hk3 => ?_) (fun hk3 => brS (fun hk4 => ?_) (fun hk4 => brS (fun hk5 => ?_) (fun hk5 => ?_)))))
    · rw [if_pos hk] at hX; subst hX
      exact call1 [1000] kn rfl rfl (subs_refl _) (call0 (rc_con _ tNat) (call0 (ap2_con _ tRefl oRefl cNat _ (cp_c kNat (by omega)) mn) (call0 (rc_con _ tNat) (call0 (ap3_con _ tEq oEq cNat _ _ (cp_c kNat (by omega)) mn mn) ⟨rfl, rfl⟩))))
    · have hb := hx.2.2.1 (by omega)
      rw [if_neg hk, if_pos hk2] at hX; subst hX
      have m := iS v b h0 (by omega) hb0 hx.2.1
      have m0 := m.a0
      have m2 := iS v _ h0 (by omega) (by omega) m.a1
      exact call1 [1000] (cS v b h0 (by omega) hb0 hx.2.1 (by omega)) rfl rfl (subs_refl _) (call1 [1000] (cS v _ h0 (by omega) (by omega) m.a1 (by omega)) rfl rfl (subs_refl _) (call0 (ap4_con _ tAndMk oAndMk _ _ _ _ (cp2 m) (cp2 m2) (cp1 m) (cp1 m2)) (call0 (ap2_con _ tAnd oAnd _ _ (cp2 m) (cp2 m2)) ⟨rfl, rfl⟩)))
    · have hb := hx.2.2.1 (by omega)
      rw [if_neg hk, if_neg hk2, if_pos hk3] at hX; subst hX
      exact And.intro (by omega) (call1 [1000] (cS (v + 1) b (by omega) (by omega) hb0 hx.2.1 (by omega)) rfl rfl (subs_refl _) (call0 (rc_con _ tNat) (call0 (rLam_con cNat _ (cp_c kNat (by omega))) (call0 (rc_con _ tNat) (call0 (rPi_con cNat _ (cp_c kNat (by omega))) ⟨rfl, rfl⟩)))))
    · rw [if_neg hk, if_neg hk2, if_neg hk3, if_pos hk4] at hX; subst hX
      have cx := mp.cp (by omega)
      exact call1 [1000] kp rfl rfl (subs_refl _) (call0 (rVar_con 0) (call0 (rLam_con _ _ cx) (call0 (rLift_con _ cx 1 (by omega) (by omega) 0 (by omega) (by omega) (by have := mp.d; omega)) (call0 (rPi_con _ _ cx) ⟨rfl, rfl⟩))))
    · have hb := hx.2.2.1 (by omega)
      rw [if_neg hk, if_neg hk2, if_neg hk3, if_neg hk4] at hX
      refine call1 [1000] (done_con l b) rfl rfl (subs_refl _) (brB (fun hd => ?_) (fun hd => ?_))
      · rw [if_pos ⟨hk5, by simpa using hd⟩] at hX; subst hX
        have m := iS v b h0 (by omega) hb0 hx.2.1
        exact call1 [1000] (cS v b h0 (by omega) hb0 hx.2.1 (by omega)) rfl rfl (subs_refl _) (call0 (ap2_con _ tId0 oId0 _ _ (cp2 m) (cp1 m)) ⟨rfl, rfl⟩)
      · rw [if_neg (fun h => h.2 (by simpa using hd))] at hX; subst hX
        exact call1 [1000] kn rfl rfl (subs_refl _) (call0 (ap1_con _ tAll oAll _ mn) (call0 (ap1_con _ tP oP _ mn) ⟨rfl, rfl⟩))
    · rw [if_neg hk, if_neg hk2, if_neg hk3, if_neg hk4, if_neg (fun h => hk5 h.1)] at hX; subst hX
      exact call1 [1000] kn rfl rfl (subs_refl _) (call0 (ap1_con _ tAll oAll _ mn) (call0 (ap1_con _ tP oP _ mn) ⟨rfl, rfl⟩))
end Go.Ab.YtplnabidakjhiaaGreat
set_option linter.unusedVariables false
set_option linter.unusedSimpArgs false
namespace Go.Ab.YtplnabidakjhiaaGreat
open Go Go.RowKit Go.Ab Go.Proofs
def LevC (l : List Int) (p a : Int) (x : Lvl × Int) : Prop := Con Tryz.prog 89 [.ptr 1000 0, .p (I p)] (pkO l a) (fun r o => r = lv x.1 ∧ o = pkO l x.2)
set_option maxRecDepth 20000 in
set_option maxHeartbeats 8000000 in
theorem lev_con (l : List Int) (hl : okB l) (hlen : l.length ≤ 10000) {p : Int} (hp : 0 ≤ p ∧ p ≤ 1000) : ∀ (g : Nat) (a : Int), 0 ≤ a → a ≤ l.length → l.length - a + 1 ≤ g → LevC l p a (lvF l g p a)
  | 0, a, h2, h3, h4 => by omega
  | g + 1, a, h2, h3, h4 => by
    have cL := lev_con l hl hlen hp g
    have iL := lv_ok l g p
    have hx := nx_le (l := l) (n := 6) h2 h3
    have hnx := Next_con l hl (by omega) a 6 h2 (by omega) (by omega)
    unfold LevC
    generalize hX : lvF l (g + 1) p a = X
    simp only [lvF] at hX
    generalize nxA l a 6 = b at *
    generalize nxt l a 6 = k at *
    have hb0 : 0 ≤ b := by omega
    have m := iL b hb0 hx.2.1
    have m2 := iL _ (by omega) m.2.1
    refine cv [] [] [1000] Tryz.func89 45 Tryz.ntmps89 rfl rfl fun cx hE => call1 [1000] hnx rfl rfl (subs_refl _) ?_
    refine brS (fun hk => ?_) (fun hk => brS (fun hk2 => ?_) (fun hk2 => brS (fun hk3 => ?_) (fun hk3 => brS (fun hk4 => ?_) (fun hk4 => brS (fun hk5 => ?_) (fun hk5 => ?_)))))
    · have hb := hx.2.2.1 (by omega)
      rw [if_pos hk] at hX; subst hX
      exact call1 [1000] (cL b hb0 hx.2.1 (by omega)) rfl rfl (subs_refl _) (call0 (rSucc_con _ m.2.2) ⟨rfl, rfl⟩)
    · have hb := hx.2.2.1 (by omega)
      rw [if_neg hk, if_pos hk2] at hX; subst hX
      exact call1 [1000] (cL b hb0 hx.2.1 (by omega)) rfl rfl (subs_refl _) (callW [1000] 1000 (pkB l _) (cL _ (by omega) m.2.1 (by omega)) rfl rfl (subs_refl _) rfl rfl (call0 (rMax_con _ _ m.2.2 m2.2.2) ⟨rfl, rfl⟩))
    · have hb := hx.2.2.1 (by omega)
      rw [if_neg hk, if_neg hk2, if_pos hk3] at hX; subst hX
      exact call1 [1000] (cL b hb0 hx.2.1 (by omega)) rfl rfl (subs_refl _) (callW [1000] 1000 (pkB l _) (cL _ (by omega) m.2.1 (by omega)) rfl rfl (subs_refl _) rfl rfl (call0 (rImax_con _ _ m.2.2 m2.2.2) ⟨rfl, rfl⟩))
    · rw [if_neg hk, if_neg hk2, if_neg hk3] at hX
      refine brS (fun h => ?_) (fun h => ?_)
      · rw [if_pos ⟨.inl hk4, h⟩] at hX; subst hX
        exact call1 [1000] (Next_con l hl (by omega) b p hb0 (by omega) (by omega)) rfl rfl (subs_refl _) (call0 (rParam_con _) ⟨rfl, rfl⟩)
      · rw [if_neg (fun hh => h hh.2)] at hX; subst hX
        exact call0 rZero_con ⟨rfl, rfl⟩
    · rw [if_neg hk, if_neg hk2, if_neg hk3] at hX
      refine brS (fun h => ?_) (fun h => ?_)
      · rw [if_pos ⟨.inr hk5, h⟩] at hX; subst hX
        exact call1 [1000] (Next_con l hl (by omega) b p hb0 (by omega) (by omega)) rfl rfl (subs_refl _) (call0 (rParam_con _) ⟨rfl, rfl⟩)
      · rw [if_neg (fun hh => h hh.2)] at hX; subst hX
        exact call0 rZero_con ⟨rfl, rfl⟩
    · rw [if_neg hk, if_neg hk2, if_neg hk3, if_neg (fun hh => hh.1.elim hk4 hk5)] at hX; subst hX
      exact call0 rZero_con ⟨rfl, rfl⟩
end Go.Ab.YtplnabidakjhiaaGreat
set_option linter.unusedVariables false
set_option linter.unusedSimpArgs false
namespace Go.Ab.YtplnabidakjhiaaGreat
open Go Go.RowKit Go.Ab Go.Proofs
def SpoC (l : List Int) (t : Trm) (a : Int) (x : Trm × Int) : Prop := Con Tryz.prog 50 [.ptr 1000 0, tv t] (pkO l a) (fun r o => r = tv x.1 ∧ o = pkO l x.2)
set_option maxRecDepth 20000 in
set_option maxHeartbeats 8000000 in
theorem spo_con (l : List Int) (hl : okB l) (hlen : l.length ≤ 10000) : ∀ (g : Nat) (t : Trm) (a : Int), wfT 1000001 t = true → dpT t ≤ 100000 → 0 ≤ a → a ≤ l.length → l.length - a + 1 ≤ g → SpoC l t a (spoF l g t a)
  | 0, t, a, w, d, h2, h3, h4 => by omega
  | g + 1, t, a, w, d, h2, h3, h4 => by
    have hel := encTs_len t.args
    unfold SpoC
    generalize hX : spoF l (g + 1) t a = X
    simp only [spoF] at hX
    have hx := nx_le (l := l) (n := 4) h2 h3
    have hlen4 : t.args.length ≤ 3 := by
      have := (wfT_get w).args
      unfold argF at this
      split at this
      · omega
      · split at this
        · omega
        · split at this <;> omega
    have ih := spo_con l hl hlen g
    refine cv [] [1000001,1000004] [1000] Tryz.func50 67 Tryz.ntmps50 rfl rfl fun cx hE => ?_
    refine join1 (A := Int) (fun b => []) (fun b => [(1000, pkB l b)]) (fun b => spo0 l t b = X ∧ 0 ≤ b ∧ b ≤ l.length) [] [1000] [1000004] hE rfl rfl rfl ?_ (fun b hb => ?_)
    · refine fun _ => brS (fun hl0 => ?_) (fun hl0 => ?_)
      · refine call1 [1000] (Next_con l hl (by omega) a 4 h2 (by omega) (by omega)) rfl rfl (subs_refl _) (brS (fun hk => ?_) (fun hk => ?_))
        · rw [if_pos (by omega), if_pos hk] at hX
          have hb := hx.2.2.1 (by omega)
          generalize nxA l a 4 = b at *
          have hy := nx_le (l := l) (a := b) (n := t.args.length) (by omega) hx.2.1
          have hv := nx_lt (l := l) (a := b) (n := t.args.length) (by omega)
          have hnb := Next_con l hl (by omega) b t.args.length (by omega) (by omega) (by omega)
          rw [← hel] at hnb hX hv hy
          refine fun _ => call1 [1000] hnb rfl rfl (subs_refl _) ?_
          generalize nxA l b (encTs t.args).length = d at *
          generalize nxt l b (encTs t.args).length = k at *
          refine callX [] (rCopyM_con 1000001 (by omega) t (by omega) w) rfl rfl (subs_refl _) fun r o ⟨e1, e2⟩ => ?_
          subst e1 e2
          have hkl : k.toNat < t.args.length := by omega
          have hg : t.args[k.toNat]? = some (t.args.getD k.toNat zT) := by rw [List.getD_eq_getElem?_getD, List.getElem?_eq_getElem hkl]; rfl
          have hm := List.mem_of_getElem? hg
          have hrow : (encTs t.args)[k.toNat]? = some (rowT (t.args.getD k.toNat zT)) := by rw [encTs_eq, List.getElem?_map, hg]; rfl
          have hkk : k = (k.toNat : Int) := by omega
          have hda := dpT_mem hm
          have hc := ih (t.args.getD k.toNat zT) d ((wfT_get w).sub _ hm) (by omega) (by omega) hy.2.1 (by omega)
          rw [hkk] at hX ⊢
          rw [show ((k.toNat : Int)).toNat = k.toNat by omega] at hX
          generalize spoF l g (t.args.getD k.toNat zT) d = R at *
          have hst : (encTs t.args).set k.toNat (rowT R.1) = encTs (t.args.set k.toNat R.1) := by simp [encTs_eq, List.map_set]
          refine join1 (A := Unit) (fun _ => []) (fun _ => [(6, ceT ⟨t.kind, t.n, t.name, t.levels, t.args.set k.toNat R.1⟩), (1000, pkB l R.2)]) (fun _ => True) [] [6, 500, 1000] [] hE rfl rfl rfl ?_ (fun _ _ => ?_)
          · refine idxN hrow (callW [1000] 1000 (pkB l _) hc rfl rfl (subs_refl _) rfl rfl ?_)
            refine And.intro (by omega) (And.intro (by rw [hel]; omega) (pst1 (i := k.toNat) (by rw [hel]; exact hkl) ?_))
            exact ⟨(), trivial, leX.by (Le.muPC 6 4 500 rfl rfl rfl rfl rfl) (leX.same ⟨by show Ob.ce 32 [.p (I t.kind), .p (I t.n), .p (St t.name), .p (.sl 3 (encLs t.levels)), .p (.sl 5 ((encTs t.args).set k.toNat (rowT R.1)))] = _; rw [hst]; rfl, rfl, rfl, rfl, trivial⟩)⟩
          · subst hX; exact ⟨rfl, rfl⟩
        · rw [if_pos (by omega), if_neg hk] at hX
          exact ⟨nxA l a 4, ⟨hX, by omega, hx.2.1⟩, leX.same ⟨rfl, rfl, rfl, trivial⟩⟩
      · rw [if_neg (by omega)] at hX
        exact ⟨a, ⟨hX, h2, h3⟩, leX.same ⟨rfl, rfl, rfl, trivial⟩⟩
    · obtain ⟨hX2, b0, b1⟩ := hb
      have hz := nx_le (l := l) (a := b) (n := 6) b0 b1
      subst hX2
      refine call1 [1000] (Next_con l hl (by omega) b 6 b0 (by omega) (by omega)) rfl rfl (subs_refl _) ?_
      unfold spo0
      generalize nxA l b 6 = d at *
      generalize nxt l b 6 = k at *
      have d0 : 0 ≤ d := by omega
      have hct : Cp t := Cp.of w (by omega) (by omega)
      refine brS (fun hk => ?_) (fun hk => brS (fun hk2 => ?_) (fun hk2 => brS (fun hk3 => ?_) (fun hk3 => brS (fun hk4 => ?_) (fun hk4 => brS (fun hk5 => ?_) (fun hk5 => ?_)))))
      · rw [if_pos hk]
        exact call0 (rc_con _ tZero) ⟨rfl, rfl⟩
      · rw [if_neg hk, if_pos hk2]
        exact call1 [1000] (Next_con l hl (by omega) d 3 d0 (by omega) (by omega)) rfl rfl (subs_refl _) (call0 (rVar_con _) ⟨rfl, rfl⟩)
      · rw [if_neg hk, if_neg hk2, if_pos hk3]
        exact call1 [1000] (lev_con l hl hlen (by omega) (l.length + 1) d d0 hz.2.1 (by omega)) rfl rfl (subs_refl _) (call0 (rSort_con _ (lv_ok l _ _ d d0 hz.2.1).2.2) ⟨rfl, rfl⟩)
      · rw [if_neg hk, if_neg hk2, if_neg hk3, if_pos hk4]
        have hv := nx_lt (l := l) (a := d) (n := 6) (by omega)
        refine call1 [1000] (Next_con l hl (by omega) d 6 d0 (by omega) (by omega)) rfl rfl (subs_refl _) ?_
        have hi : (nxt l d 6).toNat < (spoN l).length := by show _ < 6; omega
        have hg : (spoN l)[(nxt l d 6).toNat]? = some (spoN l)[(nxt l d 6).toNat] := List.getElem?_eq_getElem hi
        have hr : (rwS (spoN l))[(nxt l d 6).toNat]? = some [St (spoN l)[(nxt l d 6).toNat]] := by simp only [rwS, List.getElem?_map, hg]; rfl
        have hii : nxt l d 6 = ((nxt l d 6).toNat : Int) := by omega
        rw [List.getD_eq_getElem?_getD, hg]
        generalize (spoN l)[(nxt l d 6).toNat] = s at *
        exact idx1 (row := [St s]) hv.1 hv.2 (by show rowAt (rwS (spoN l)) (nxt l d 6) = [St s]; rw [hii]; exact rowAt_nat hr) (callR [] (rConst_con s [] (by simp) (by simp)) rfl rfl (.cons (Sub.refl _) (.cons (Sub.nil (sz := 3)) .nil)) ⟨rfl, rfl⟩)
      · rw [if_neg hk, if_neg hk2, if_neg hk3, if_neg hk4, if_pos hk5]
        exact call0 (rApp_con t t hct) ⟨rfl, rfl⟩
      · rw [if_neg hk, if_neg hk2, if_neg hk3, if_neg hk4, if_neg hk5]
        exact call0 (rc_con _ tNat) (call0 (rLift_con t hct 1 (by omega) (by omega) 0 (by omega) (by omega) (by omega)) (call0 (rLam_con cNat _ (cp_c kNat (by omega))) ⟨rfl, rfl⟩))
theorem any_con (l : List Int) (hl : okB l) (hlen : l.length ≤ 150) : Con Tryz.prog 18 [.ptr 1000 0] (pkO l 0) (fun r o => r = tv (anyF l 0).1 ∧ o = pkO l (anyF l 0).2) := by
  have hx := nx_le (l := l) (a := 0) (n := 6) (by omega) (by omega)
  have h0 := any0_ok l hlen (a := 0) (Int.le_refl _) (by omega)
  refine cv [] [1000002] [1000] Tryz.func18 45 Tryz.ntmps18 rfl rfl fun cx hE => ?_
  refine join1 (A := Trm × Int) (fun x => []) (fun x => [(3, ceT x.1), (1000, pkB l x.2)]) (fun x => x = any0 l 0) [] [3, 1000] [] hE rfl rfl rfl ?_ (fun x hx => ?_)
  · refine call1 [1000] (Next_con l hl (by omega) 0 6 (by omega) (by omega) (by omega)) rfl rfl (subs_refl _) ?_
    unfold any0
    generalize nxA l 0 6 = b at *
    generalize nxt l 0 6 = k at *
    have hb0 : 0 ≤ b := hx.1
    refine brS (fun hk => ?_) (fun hk => brS (fun hk2 => ?_) (fun hk2 => brS (fun hk3 => ?_) (fun hk3 => brS (fun hk4 => ?_) (fun hk4 => brS (fun hk5 => ?_) (fun hk5 => ?_)))))
    · rw [if_pos hk]
      exact call1 [1000] (pn_con l hl (by omega) (by omega) (by omega) hb0 hx.2.1) rfl rfl (subs_refl _) ⟨_, rfl, leX.same ⟨rfl, rfl, rfl, trivial⟩⟩
    · rw [if_neg hk, if_pos hk2]
      exact call1 [1000] ((nat_con l hl (by omega) (2 * l.length + 1)).2 0 b (by omega) (by omega) hb0 hx.2.1 (by have := hx.2.2.1 (by omega); omega)) rfl rfl (subs_refl _) ⟨_, rfl, leX.same ⟨rfl, rfl, rfl, trivial⟩⟩
    · rw [if_neg hk, if_neg hk2, if_pos hk3]
      exact call1 [1000] (pp_con l hl (by omega) (by omega) (by omega) hb0 hx.2.1) rfl rfl (subs_refl _) ⟨_, rfl, leX.same ⟨rfl, rfl, rfl, trivial⟩⟩
    · rw [if_neg hk, if_neg hk2, if_neg hk3, if_pos hk4]
      exact call1 [1000] (shown_con l hl (by omega) (l.length + 1) 0 b (by omega) (by omega) hb0 hx.2.1 (by omega)) rfl rfl (subs_refl _) ⟨_, rfl, leX.same ⟨rfl, rfl, rfl, trivial⟩⟩
    · rw [if_neg hk, if_neg hk2, if_neg hk3, if_neg hk4, if_pos hk5]
      exact call1 [1000] (shown_con l hl (by omega) (l.length + 1) 0 b (by omega) (by omega) hb0 hx.2.1 (by omega)) rfl rfl (subs_refl _) ⟨_, rfl, leX.same ⟨rfl, rfl, rfl, trivial⟩⟩
    · rw [if_neg hk, if_neg hk2, if_neg hk3, if_neg hk4, if_neg hk5]
      have hv := nx_lt (l := l) (a := b) (n := 10) (by omega)
      refine call1 [1000] (Next_con l hl (by omega) b 10 hb0 (by omega) (by omega)) rfl rfl (subs_refl _) ?_
      have hi : (nxt l b 10).toNat < anyS.length := by show _ < 10; omega
      have hs := List.all_eq_true.1 anyS_ok _ (List.getElem_mem hi)
      have hg : anyS[(nxt l b 10).toNat]? = some anyS[(nxt l b 10).toNat] := List.getElem?_eq_getElem hi
      have hr : (rwS anyS)[(nxt l b 10).toNat]? = some [St anyS[(nxt l b 10).toNat]] := by simp only [rwS, List.getElem?_map, hg]; rfl
      have hii : nxt l b 10 = ((nxt l b 10).toNat : Int) := by omega
      rw [List.getD_eq_getElem?_getD, hg]
      generalize anyS[(nxt l b 10).toNat] = s at *
      simp only [Bool.and_eq_true] at hs
      exact idx1 (row := [St s]) hv.1 hv.2 (by show rowAt (rwS anyS) (nxt l b 10) = [St s]; rw [hii]; exact rowAt_nat hr) (call0 (rc_con _ hs.1) ⟨_, rfl, leX.same ⟨rfl, rfl, rfl, trivial⟩⟩)
  · subst hx
    have hy := nx_le (l := l) (a := (any0 l 0).2) (n := 5) (by omega) h0.2.1
    unfold anyF
    generalize any0 l 0 = P at *
    refine call1 [1000] (Next_con l hl (by omega) P.2 5 (by omega) (by omega) (by omega)) rfl rfl (subs_refl _) (brS (fun hk => ?_) (fun hk => ?_))
    · rw [if_pos hk]
      exact call1 [1000] (spo_con l hl (by omega) (l.length + 1) P.1 _ h0.2.2.1 (by omega) (by omega) hy.2.1 (by omega)) rfl rfl (subs_refl _) ⟨rfl, rfl⟩
    · rw [if_neg hk]; exact ⟨rfl, rfl⟩
end Go.Ab.YtplnabidakjhiaaGreat
set_option linter.unusedVariables false
set_option linter.unusedSimpArgs false
namespace Go.Ab
open Go Go.RowKit
theorem mdF_did {c f : Int} {u : Trm} {y : OR} (h : mdF c f u = some y) (he : y.2.2.2 = 0) : (sizT y.1 : Int) ≤ max c 0 ∧ y.2.1 = true := by
  unfold mdF at h
  split at h
  · cases h; simp at he
  · split at h
    · split at h
      · rename_i hf
        cases h
        simp only [fitsT, Bool.and_eq_true, decide_eq_true_eq] at hf
        exact ⟨by simp only; omega, rfl⟩
      · cases h; simp at he
    · cases h
theorem onF_siz {ds : List Dcl} {c : Int} {wh : Trm → Int → Option WR} {t : Trm} {f : Int} {y : OR} (h : onF ds c wh t f = some y) (he : y.2.2.2 = 0) (hd : y.2.1 = true) : (sizT y.1 : Int) ≤ max c 0 := by
  unfold onF at h
  split at h
  · exact (mdF_did h he).1
  · split at h
    · exact (mdF_did h he).1
    · split at h
      · split at h
        · cases h; cases hd
        · split at h
          · exact (mdF_did h he).1
          · split at h
            · cases h; cases hd
            · split at h
              · split at h
                · cases h
                · split at h
                  · cases h; cases hd
                  · split at h
                    · exact (mdF_did h he).1
                    · cases h; cases hd
              · cases h; cases hd
      · cases h; cases hd
theorem whF_one {ds : List Dcl} {c : Int} {g k : Nat} {t : Trm} {f : Int} {x y : WR} (h1 : whF ds c g t f = some x) (h2 : whF ds c k t f = some y) : x = y := by
  have e1 := whF_mono g (max g k) (by omega) t f x h1
  have e2 := whF_mono k (max g k) (by omega) t f y h2
  rw [e1] at e2
  exact Option.some.inj e2
theorem onF_one {ds : List Dcl} {c : Int} {g k : Nat} {t : Trm} {f : Int} {x y : OR} (h1 : onF ds c (whF ds c g) t f = some x) (h2 : onF ds c (whF ds c k) t f = some y) : x = y := by
  have e1 := onF_mono (wh' := whF ds c (max g k)) (fun t f x hx => whF_mono g (max g k) (by omega) t f x hx) h1
  have e2 := onF_mono (wh' := whF ds c (max g k)) (fun t f x hx => whF_mono k (max g k) (by omega) t f x hx) h2
  rw [e1] at e2
  exact Option.some.inj e2
section
variable {T B : Int} {M : Nat} {c : Int} (hT : T ≤ 1099511627776) (hB : 0 ≤ B) (hM : M ≤ 10000000) (h1 : 1 ≤ M) (hc : c ≤ M)
include hT hB hM h1 hc
theorem on_tot2 {ds : List Dcl} (hE : EnvW B ds) {t : Trm} {f : Int} (hb : B ≤ bdV T M f) (hw : Wd (bdV T M f) M t) : ∃ g y, onF ds c (whF ds c g) t f = some y ∧ (y.2.2.2 = 0 → Wd (bdV T M y.2.2.1) M y.1) ∧ y.2.2.1 ≤ f ∧ (y.2.1 = true → y.2.2.2 = 0 ∧ y.2.2.1 < f ∧ 0 ≤ y.2.2.1) := by
  have hg : ∀ l : List Trm, (∀ a ∈ l, a ∈ argsT t) → ∃ g, ∀ a ∈ l, ∃ y, whF ds c g a f = some y ∧ (y.2.2 = 0 → Wd (bdV T M y.2.1) M y.1) ∧ y.2.1 ≤ f := by
    intro l
    induction l with
    | nil => exact fun _ => ⟨0, fun a h => by cases h⟩
    | cons a l ih =>
      intro hl
      obtain ⟨g1, k1⟩ := ih fun b hb => hl b (by simp [hb])
      have ham := hl a (by simp)
      obtain ⟨g2, y, k2, k3⟩ := wh_tot hT hB hM h1 hc hE f.toNat f (Nat.le_refl _) (dpT a) a (Nat.le_refl _) hb (hw.args.1 a ham)
      refine ⟨max g1 g2, fun b hbm => ?_⟩
      rcases List.mem_cons.1 hbm with rfl | hbm
      · exact ⟨y, whF_mono g2 _ (by omega) _ _ _ k2, k3⟩
      · obtain ⟨y', k4, k5⟩ := k1 b hbm
        exact ⟨y', whF_mono g1 _ (by omega) _ _ _ k4, k5⟩
  obtain ⟨g, hg⟩ := hg _ fun _ h => h
  exact ⟨g, on_tot hT hB hM h1 hc hE hb hw hg⟩
end
end Go.Ab
set_option linter.unusedVariables false
set_option linter.unusedSimpArgs false
namespace Go.Ab.YtplnabidakjhiaaGreat
open Go Go.RowKit Go.Ab Go.Proofs
abbrev U16 (n : Int) : PV := .v (.int .u16 n)
theorem LMeter_con (f c : Int) (hf : 0 ≤ f ∧ f ≤ 65535) (hc : 0 ≤ c ∧ c ≤ 65535) : PCon Tryz.prog 19 [.p (U16 f), .p (U16 c)] (mv (f % 400) (c % 1500)) := by
  exact cv [] [] [] Tryz.func19 12 Tryz.ntmps19 rfl rfl fun cx hE => And.intro (by omega) (And.intro (by omega) (And.intro (by omega) (And.intro (by omega) (And.intro (by omega) (And.intro (by omega) ⟨rfl, rfl⟩)))))
structure AnT (t : Trm) : Prop where
  w : wfT 1000002 t = true
  d : dpT t ≤ 6001
  s : sizT t ≤ 1000000
theorem anyF_ok (l : List Int) (hl : l.length ≤ 150) : AnT (anyF l 0).1 := by
  obtain ⟨h1, h2, h3⟩ := any_ok l hl
  exact ⟨h1, h2, h3⟩
theorem AnT.ok {t : Trm} (h : AnT t) : okW t = true := okW_wf (by omega) h.w (by have := h.s; omega)
theorem AnT.gd {t : Trm} (h : AnT t) : Gd t := ⟨wfT_mono (by omega) t h.w, by have := h.d; omega⟩
theorem AnT.wh {t : Trm} (h : AnT t) {f c : Int} (hf : f ≤ 2000) (hc : c ≤ 100000) : ∃ g x, whF preL c g t f = some x := by
  have hb : (1073741824 : Int) ≤ bdV 1099511627776 100000 f := by unfold bdV; omega
  obtain ⟨g, x, h1, _⟩ := wh_tot (T := 1099511627776) (B := 1073741824) (M := 100000) (c := c) (by omega) (by omega) (by omega) (by omega) (by omega) preL_w f.toNat f (Nat.le_refl _) (dpT t) t (Nat.le_refl _) hb ⟨wfT_mono (by omega) t h.w, by have := h.d; omega⟩
  exact ⟨g, x, h1⟩
theorem sub_zT {v : AV} : Subs [v, .ag [.p (I 0), .p (I 0), .p (St ⟨#[]⟩), .p nilS, .p nilS]] [v, tv zT] := .cons (Sub.refl _) (.cons (Sub.agc (.cons (Sub.refl _) (.cons (Sub.refl _) (.cons (Sub.refl _) (.cons (Sub.nil (sz := 3)) (.cons (Sub.nil (sz := 5)) .nil)))))) .nil)
set_option maxRecDepth 20000 in
set_option maxHeartbeats 8000000 in
theorem WhnfMore_con (l : List Int) (f c m : Int) (hl : okB l) (hlen : (l.length : Int) ≤ 9223372036854775807) (hf : 0 ≤ f ∧ f ≤ 65535) (hc : 0 ≤ c ∧ c ≤ 65535) (hm : 0 ≤ m ∧ m ≤ 65535) : PCon Tryz.prog 3 [.p (.sl 1 (byts l)), .p (U16 f), .p (U16 c), .p (U16 m)] (.p (B true)) := by
  have hbl := byts_len l
  refine cv [] [] [] Tryz.func3 115 Tryz.ntmps3 rfl rfl fun cx hE => call0 begun_con (brB (fun h => by cases h) (fun _ => fun _ => brS (fun h40 => ⟨rfl, rfl⟩) (fun h40 => ?_)))
  have hll : l.length ≤ 150 := by omega
  refine callX [] rPre_con rfl rfl .nil fun r o ⟨e1, pv, pl, ov, hE1, e2⟩ => ?_
  subst e1 e2
  have hG := preG hE1
  have hA := anyF_ok l hll
  have hcA := (any_con l hl hll).at1 1000 5 rfl rfl rfl rfl
  obtain ⟨g1, x1, w1⟩ := hA.wh (f := f % 400) (c := c % 1500) (by omega) (by omega)
  obtain ⟨g2, x2, w2⟩ := hA.wh (f := f % 400 + m % 1000) (c := c % 1500 + m) (by omega) (by omega)
  have hk1 := whF_keeps g1 _ _ x1.1 x1.2.1 x1.2.2 hA.gd w1
  have hx1 := xWhnf_con preL pv ov pl hG _ hA.ok hA.gd (f % 400) (c % 1500) ⟨by omega, by omega, by omega, by omega⟩ g1 x1 w1
  have hx2 := xWhnf_con preL pv ov pl hG _ hA.ok hA.gd (f % 400 + m % 1000) (c % 1500 + m) ⟨by omega, by omega, by omega, by omega⟩ g2 x2 w2
  have key : x1.2.2 = 0 → x2 = (x1.1, x1.2.1 + m % 1000, 0) := fun he => by
    have h := w1
    rw [show x1 = (x1.1, x1.2.1, 0) by rw [← he]] at h
    exact whF_one w2 (whF_more (c' := c % 1500 + m) (by omega) (a := m % 1000) (by omega) g1 _ _ _ _ h)
  have err : x1.2.2 ≠ 0 → errE x1.2.2 ∧ x1.1 = zT := fun he => whF_err g1 _ _ x1 w1 he
  generalize (anyF l 0).1 = t at *
  generalize (anyF l 0).2 = a2 at *
  obtain ⟨u1, f1, e1⟩ := x1
  obtain ⟨u2, f2, e2⟩ := x2
  simp only at key err hk1
  refine call1 [] (Made_con l) rfl rfl (subs_refl _) (call1 [5] hcA rfl rfl (subs_refl _) (call0 (LMeter_con f c hf hc) ?_))
  refine callX [1004, 1005, 1006, 1007] hx1 rfl rfl (subs_refl _) fun r o ⟨q1, q2⟩ => ?_
  subst q1 q2
  refine And.intro (by omega) (And.intro (by omega) (And.intro (by omega) (And.intro (by omega) (And.intro (by omega) (And.intro (by omega) ?_)))))
  refine callX [1004, 1005, 1006, 1007] hx2 rfl rfl (subs_refl _) fun r o ⟨q1, q2⟩ => ?_
  subst q1 q2
  have hF := hk1.2
  unfold Fu at hF
  refine brS (fun hh => absurd rfl hh) (fun _ => brS (fun hh => by simp only at hh; omega) (fun _ => brS (fun hh => by simp only at hh; omega) (fun _ => ?_)))
  by_cases he : e1 = 0
  · have hx := key he
    simp only [Prod.mk.injEq] at hx
    obtain ⟨rfl, rfl, rfl⟩ := hx
    subst he
    refine brS (fun _ => brS (fun _ => call0 (rEqT_con _ _) (brB (fun _ => ?_) (fun hh => by rw [eqT_self] at hh; cases hh))) (fun hh => absurd rfl hh)) (fun hh => absurd rfl hh)
    refine And.intro (by simp only; omega) (And.intro (by omega) (And.intro (by omega) (And.intro (by omega) (And.intro (by omega) (And.intro (by simp only; omega) ⟨B_eq (by simp only [decide_eq_true_eq]; omega), rfl⟩)))))
  · obtain ⟨h1, h2⟩ := err he
    refine brS (fun hh => absurd hh he) (fun _ => ?_)
    subst h2
    unfold errE at h1
    rcases h1 with h1 | h1
    · subst h1
      refine brS (fun _ => callR [] (rEqT_con zT zT) rfl rfl sub_zT ?_) (fun hh => absurd rfl hh)
      exact ⟨B_eq (eqT_self zT), rfl⟩
    · subst h1
      refine brS (fun hh => by simp only at hh; omega) (fun _ => brS (fun _ => callR [] (rEqT_con zT zT) rfl rfl sub_zT ?_) (fun hh => absurd rfl hh))
      exact ⟨B_eq (eqT_self zT), rfl⟩
end Go.Ab.YtplnabidakjhiaaGreat
set_option linter.unusedVariables false
set_option linter.unusedSimpArgs false
namespace Go.Ab.YtplnabidakjhiaaGreat
open Go Go.RowKit Go.Ab Go.Proofs
theorem preL_w6 : EnvW 1000000 preL := by
  have h : (preL.all fun d => (wfT 1000000 d.value && Nat.ble (dpT d.value) 100000) && d.ctors.all fun k => wfT 1000000 k.ty && Nat.ble (dpT k.ty) 100000) = true := by kernel_rfl
  simp only [List.all_eq_true, Bool.and_eq_true] at h
  exact ⟨fun d hd => ⟨(h d hd).1.1, Nat.le_of_ble_eq_true (h d hd).1.2⟩, fun d hd k hk => ⟨((h d hd).2 k hk).1, Nat.le_of_ble_eq_true ((h d hd).2 k hk).2⟩⟩
theorem on_step {c f : Int} (hf : 0 ≤ f ∧ f ≤ 2000) (hc : c ≤ 100000) {t : Trm} (hw : Wd (bdV 1073741824 100000 f) 100000 t) {g : Nat} {y : OR} (h : onF preL c (whF preL c g) t f = some y) : (y.2.2.2 = 0 → Wd (bdV 1073741824 100000 y.2.2.1) 100000 y.1) ∧ (y.2.1 = true → y.2.2.2 = 0 ∧ y.2.2.1 < f ∧ 0 ≤ y.2.2.1) := by
  have hb : (1000000 : Int) ≤ bdV 1073741824 100000 f := by unfold bdV; omega
  obtain ⟨g', y', h1, h2, h3, h4⟩ := on_tot2 (T := 1073741824) (B := 1000000) (M := 100000) (c := c) (by omega) (by omega) (by omega) (by omega) (by omega) preL_w6 hb hw
  have := onF_one h h1
  subst this
  exact ⟨h2, h4⟩
theorem AnT.wd {t : Trm} (h : AnT t) {f : Int} (hf : f ≤ 2000) : Wd (bdV 1073741824 100000 f) 100000 t := by
  have hb : (1000002 : Int) ≤ bdV 1073741824 100000 f := by unfold bdV; omega
  exact ⟨wfT_mono hb t h.w, by have := h.d; omega⟩
set_option maxRecDepth 20000 in
set_option maxHeartbeats 8000000 in
theorem WhnfSteps_con (l : List Int) (f c : Int) (hl : okB l) (hlen : (l.length : Int) ≤ 9223372036854775807) (hf : 0 ≤ f ∧ f ≤ 65535) (hc : 0 ≤ c ∧ c ≤ 65535) : PCon Tryz.prog 9 [.p (.sl 1 (byts l)), .p (U16 f), .p (U16 c)] (.p (B true)) := by
  have hbl := byts_len l
  refine cv [] [] [] Tryz.func9 95 Tryz.ntmps9 rfl rfl fun cx hE => call0 begun_con (brB (fun h => by cases h) (fun _ => fun _ => brS (fun h40 => ⟨rfl, rfl⟩) (fun h40 => ?_)))
  have hll : l.length ≤ 150 := by omega
  refine callX [] rPre_con rfl rfl .nil fun r o ⟨e1, pv, pl, ov, hE1, e2⟩ => ?_
  subst e1 e2
  have hG := preG hE1
  have hA := anyF_ok l hll
  have hcA := (any_con l hl hll).at1 1000 5 rfl rfl rfl rfl
  obtain ⟨g1, x1, w1⟩ := hA.wh (f := f % 400) (c := c % 1500) (by omega) (by omega)
  have hx1 := xWhnf_con preL pv ov pl hG _ hA.ok hA.gd (f % 400) (c % 1500) ⟨by omega, by omega, by omega, by omega⟩ g1 x1 w1
  refine call1 [] (Made_con l) rfl rfl (subs_refl _) (call1 [5] hcA rfl rfl (subs_refl _) (call0 (LMeter_con f c hf hc) ?_))
  generalize (anyF l 0).1 = t at *
  generalize (anyF l 0).2 = a2 at *
  refine callX [1004, 1005, 1006, 1007] hx1 rfl rfl (subs_refl _) fun r o ⟨q1, q2⟩ => ?_
  subst q1 q2
  have hC : 0 ≤ c % 1500 ∧ c % 1500 < 1500 := by omega
  have hF : 0 ≤ f % 400 ∧ f % 400 < 400 := by omega
  generalize c % 1500 = C at *
  generalize f % 400 = F at *
  obtain ⟨u1, f1, e1⟩ := x1
  refine loop3 (fun (i : Nat) (t : Trm) (k : Int) => [(14, .p (I i))]) (fun i t k => [(9, ceT t), (10, .ce 37 [.p (I k), .p (I C)])]) (fun i t k => i + k ≤ F ∧ 0 ≤ k ∧ (∃ g, whF preL C g t k = some (u1, f1, e1)) ∧ Wd (bdV 1073741824 100000 k) 100000 t ∧ sizT t ≤ 1000000) (fun i t k => 501 - i) 0 t F [14] [9, 10] hE rfl rfl rfl ⟨Sub.refl _, rfl, rfl, rfl, rfl, rfl, rfl, rfl, rfl, rfl, rfl, rfl, trivial⟩ ⟨by omega, by omega, ⟨g1, w1⟩, hA.wd (by omega), hA.s⟩ fun i t k ⟨i1, i2, ⟨g, hg⟩, i4, i5⟩ => ?_
  refine brS (fun hlt => ?_) (fun hlt => by omega)
  cases g with
  | zero => cases hg
  | succ g =>
    simp only [whF] at hg
    cases ho : onF preL C (whF preL C g) t k with
    | none => rw [ho] at hg; cases hg
    | some y =>
      rw [ho] at hg
      have hst := on_step (by omega) (by omega) i4 ho
      have hb30 := bdV_le 1073741824 100000 k
      have hok : okW t = true := okW_wf hb30 i4.w (by omega)
      have hgd : Gd t := ⟨wfT_mono (by omega) t i4.w, by have := i4.d; omega⟩
      have hx := xOnce_con preL pv ov pl hG t hok hgd k C ⟨by omega, by omega, by omega, by omega⟩ g y ho
      have herr := fun he => onF_err (fun t f y => whF_err g t f y) ho he
      have hsz := onF_siz ho
      obtain ⟨u, did, k', e⟩ := y
      simp only at hg hst herr hsz
      refine callX [1004, 1005, 1006, 1007] hx rfl rfl (subs_refl _) fun r o ⟨q1, q2⟩ => ?_
      subst q1 q2
      refine brS (fun he => ?_) (fun he => ?_)
      · simp only at he
        rw [if_pos he] at hg
        cases hg
        obtain ⟨_, rfl, rfl⟩ := herr he
        refine brS (fun _ => brS (fun _ => callR [] (rEqT_con zT zT) rfl rfl sub_zT (brB (fun _ => ?_) (fun hh => by rw [eqT_self] at hh; cases hh))) (fun hh => absurd rfl hh)) (fun hh => absurd rfl hh)
        exact ⟨rfl, rfl⟩
      · simp only at he
        rw [if_neg he] at hg
        have he0 : e = 0 := Classical.byContradiction fun hn => he hn
        subst he0
        cases did with
        | false =>
          simp only [Bool.false_eq_true, if_false] at hg
          cases hg
          have := onF_stay ho
          subst this
          refine brB (fun _ => ?_) (fun hh => by cases hh)
          refine brS (fun _ => brS (fun _ => call0 (rEqT_con _ _) (brB (fun _ => call0 (rEqT_con _ _) ?_) (fun hh => by rw [eqT_self] at hh; cases hh))) (fun hh => absurd rfl hh)) (fun hh => absurd rfl hh)
          exact ⟨B_eq (eqT_self _), rfl⟩
        | true =>
          simp only [if_true] at hg
          obtain ⟨j1, j2, j3⟩ := hst.2 rfl
          have hs2 := hsz rfl rfl
          refine brB (fun hh => by cases hh) (fun _ => And.intro (by omega) ⟨i + 1, u, k', ⟨by omega, j3, ⟨g, hg⟩, hst.1 rfl, by omega⟩, by omega, Sub.i (by simp), rfl, rfl, rfl, rfl, rfl, rfl, rfl, rfl, rfl, rfl, rfl, trivial⟩)
end Go.Ab.YtplnabidakjhiaaGreat
