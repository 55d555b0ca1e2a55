/- Texts of our own, laid together. -/
import Derived.Test.YtplnabidakjhiaaGreatM5W2
set_option linter.unusedVariables false
set_option linter.unusedSimpArgs false
namespace Go.Ab.YtplnabidakjhiaaGreat
open Go Go.RowKit Go.Ab Go.Proofs
def okD (d : Dcl) : Bool := okT d.type && (okT d.value && (decide (d.ctors.length ≤ 1000) && (d.ctors.all (fun c => okT c.ty && decide (c.name.size ≤ 1000)) && (decide (d.name.size ≤ 1000) && decide (-1000000 ≤ d.params ∧ d.params ≤ 1000000 ∧ -1000000 ≤ d.count ∧ d.count ≤ 1000000)))))
theorem zd2 {d : Dcl} (h : okD d = true) : FamD d ∧ CpD d ∧ d.name.size ≤ 1000 := by
  simp only [okD, Bool.and_eq_true, decide_eq_true_eq, List.all_eq_true] at h
  obtain ⟨h1, h2, h3, h4, h5, h6⟩ := h
  exact ⟨⟨z2j h1, fun c hc => ⟨z2j (h4 c hc).1, by have := (h4 c hc).2; omega⟩, by omega, h3, by omega, by omega, by omega, by omega⟩, ⟨z5k h1, z5k h2, by omega, fun c hc => z5k (h4 c hc).1⟩, h5⟩
def expF (d : Dcl) : List Dcl := if d.kind = 3 then (match zel d with
  | some (x, e) => if e = 0 then x else [d]
  | none => [d]) else [d]
def okFam (d : Dcl) : Bool := okD d && (if d.kind = 3 then (piE d.type).levels.all (fun l => mayLF l 3) && (match zel d with
  | some (x, e) => x.all okD && decide (x.length ≤ 1000)
  | none => false) else true)
theorem zrw (acc : List Dcl) (d : Dcl) (r : List Dcl) : envF acc (d :: r) = envF (rAddF acc (expF d)) r := rfl
theorem zb5 (L l : List Dcl) : rAddF L l = if addF [] L l = 0 then L ++ l else L := by
  unfold rAddF
  rcases Classical.em (∃ d ∈ l, mayF d.name = false) with h | h
  · have e : addF [] L l = 9 := by unfold addF; rw [if_pos h]
    obtain ⟨d, hd, hm⟩ := h
    rw [e, if_neg, if_neg (by decide)]
    rintro ⟨h1, _⟩
    rw [List.all_eq_true] at h1
    rw [h1 d hd] at hm; cases hm
  · have h1 : (l.all fun d => mayF d.name) = true := by
      rw [List.all_eq_true]; intro d hd
      cases hx : mayF d.name with
      | true => rfl
      | false => exact absurd ⟨d, hd, hx⟩ h
    rcases Classical.em (zt (L ++ l)).Nodup with h2 | h2
    · have e : addF [] L l = 0 := by unfold addF; rw [if_neg h, if_neg (by simpa using h2)]
      rw [e, if_pos ⟨h1, h2⟩, if_pos rfl]
    · have e : addF [] L l = 10 := by unfold addF; rw [if_neg h, if_pos (by simpa using h2)]
      rw [e, if_neg (fun x => h2 x.2), if_neg (by decide)]
theorem zkv {L l : List Dcl} (h : (zt L).Nodup) : (zt (rAddF L l)).Nodup := by
  unfold rAddF
  split
  · rename_i hk; exact hk.2
  · exact h
theorem zd3 (L l : List Dcl) : (rAddF L l).length ≤ L.length + l.length := by
  unfold rAddF; split <;> simp
set_option maxHeartbeats 2000000 in
theorem zug (l : List Dcl) (h : (l.all okFam) = true) (hlen : l.length ≤ 1000) : Con Tryz.prog 28 [.p (.sl 16 (encDs l))] [] (fun r o => r = .ptr 1000 0 ∧ o = refE 1000 (envF [] l) 0) := by
  rw [List.all_eq_true] at h
  have hel := z6o l
  refine cv [] [7] [1000,1001] Tryz.func28 41 Tryz.ntmps28 rfl rfl fun cx hE => call1 [] zml rfl rfl (za _) ?_
  refine loop2 (fun (i : Nat) (L : List Dcl) => [(4, .p (I i))]) (fun i L => refE 1000 L 0) (fun i L => i ≤ l.length ∧ envF [] l = envF L (l.drop i) ∧ (zt L).Nodup ∧ L.length ≤ 1000 * i) (fun i L => l.length - i) 0 [] [4] [1000, 1001] hE rfl rfl rfl ⟨Sub.refl _, rfl, rfl, trivial⟩ ⟨by omega, rfl, by simp [zt], by simp⟩ fun i L ⟨g1, g2, g3, g4⟩ => ?_
  refine fun _ => brS (fun hlt' => ?_) (fun hlt' => ?_)
  · have hlt : i < l.length := by omega
    have hi : l[i]? = some (l[i]) := List.getElem?_eq_getElem hlt
    have d1 : l.drop i = l[i] :: l.drop (i + 1) := List.drop_eq_getElem_cons hlt
    have hk := h _ (List.getElem_mem hlt)
    generalize l[i] = a at hi d1 hk
    rw [d1, zrw] at g2
    have r1 : (encDs l)[i]? = some (rowD a) := by simp [encDs, hi]
    have hok : okD a = true := by simp only [okFam, Bool.and_eq_true] at hk; exact hk.1
    obtain ⟨q1, q2, q3⟩ := zd2 hok
    have hx : ∀ d ∈ expF a, okD d = true := by
      intro d hd
      unfold expF at hd
      split at hd
      · rename_i hk3
        simp only [okFam, hk3, if_true, Bool.and_eq_true] at hk
        split at hd
        · rename_i x e hde
          rw [hde] at hk
          split at hd
          · have := hk.2.2; simp only [Bool.and_eq_true, List.all_eq_true] at this; exact this.1 d hd
          · simp at hd; subst hd; exact hok
        · simp at hd; subst hd; exact hok
      · simp at hd; subst hd; exact hok
    have hxl : (expF a).length ≤ 1000 := by
      unfold expF
      split
      · rename_i hk3
        simp only [okFam, hk3, if_true, Bool.and_eq_true] at hk
        split
        · rename_i x e hde
          rw [hde] at hk
          split
          · have := hk.2.2; simp only [Bool.and_eq_true, decide_eq_true_eq] at this; exact this.2
          · simp
        · simp
      · simp
    refine idxN r1 (idxN r1 ?_)
    refine seq0 [(5, .p (.sl 16 (encDs (expF a))))] [] [5] [] [] hE rfl rfl rfl ?_ ?_
    · refine brS (fun h3 => idxN r1 ?_) (fun h3 => ⟨?_, rfl, rfl, trivial⟩)
      · have hk3 : a.kind = 3 := h3
        simp only [okFam, hk3, if_true, Bool.and_eq_true, List.all_eq_true] at hk
        cases hd : zel a with
        | none => rw [hd] at hk; exact absurd hk.2.2 (by simp)
        | some R =>
          refine call0 (zp5 a q1 q2 hk.2.1 R hd) (brS (fun h0 => ⟨Sub.eq ?_, rfl, rfl, trivial⟩) (fun h0 => ⟨Sub.eq ?_, rfl, rfl, trivial⟩))
          · have h0' : R.2 = 0 := h0
            unfold expF; rw [if_pos hk3, hd]; simp only; rw [if_pos h0']; rfl
          · have h0' : ¬ R.2 = 0 := h0
            unfold expF; rw [if_pos hk3, hd]; simp only; rw [if_neg h0']; rfl
      · have hk3 : ¬ a.kind = 3 := h3
        refine Sub.eq ?_
        unfold expF; rw [if_neg hk3]; rfl
    refine call1 [1000, 1001] (zmm L (expF a) 0 (by omega) g3 (fun d hd => ⟨(zd2 (hx d hd)).2.1, by have := (zd2 (hx d hd)).2.2; omega⟩)) rfl rfl (za _) (And.intro (by omega) ?_)
    have hal := zd3 L (expF a)
    rw [zb5] at hal
    refine ⟨i + 1, rAddF L (expF a), ⟨by omega, g2, zkv g3, by rw [zb5]; omega⟩, by omega, Sub.i (by omega), ?_⟩
    rw [zb5]
    exact ⟨rfl, rfl, trivial⟩
  · have : i = l.length := by omega
    subst this
    rw [List.drop_length] at g2
    simp only [envF] at g2
    rw [g2]
    exact ⟨rfl, rfl⟩
theorem zuh (b : Nat) (hb : 1004 ≤ b) : Con Tryz.prog 74 [] [] (fun r o => r = .ptr b 0 ∧ o = envQ b [] [] 0 none 0 none) := by
  have h := New_con.swE b hb
  refine fun w M0 own' vals h3 h4 => (h w M0 own' vals h3 h4).mono ?_
  rintro e w' ⟨r, o, own2, v', e1, ⟨r0, o0, ⟨rfl, rfl⟩, rfl, rfl⟩, g⟩
  refine ⟨_, _, own2, v', e1, ⟨rfl, rfl⟩, ?_⟩
  rw [z9a, show (AV.ptr 1000 0).ren (swE b) = .ptr b 0 by simp only [AV.ren, show swE b 1000 = b from swE_0 b 0 (by decide)]] at g
  exact g
theorem EnP00 : EnP [] [] none := ⟨.inr ⟨rfl, rfl⟩, by simp [zt], by simp, by simp, by simp⟩
def bothF : List Dcl → List Dcl → List Dcl
  | acc, [] => acc
  | acc, d :: r => bothF (rAddF acc [d]) r
def bothO (L : List Dcl) (pv : Nat) (pl : Option (List (ByteArray × Int))) (ov : Nat) : Obs := envQ 1004 [] L pv pl ov (odO ([] ++ L)) ++ refE 1000 L 0
structure BothOK (l : List Dcl) : Prop where
  n : ∀ d ∈ l, narD d = true
  c : ∀ d ∈ l, CpD d
  s : ∀ d ∈ l, d.name.size ≤ 1000000000000
  l : l.length ≤ 1000000
set_option maxHeartbeats 2000000 in
theorem zd4 (l : List Dcl) (h : BothOK l) : Con Tryz.prog 40 [.p (.sl 16 (encDs l))] [] (fun r o => r = .tp [.ptr 1004 0, .ptr 1000 0] ∧ ∃ pv pl ov, EnP [] (bothF [] l) pl ∧ o = bothO (bothF [] l) pv pl ov) := by
  have hel := z6o l
  have hlen := h.l
  refine cv [] [] [1004,1005,1006,1007,1000,1001] Tryz.func40 31 Tryz.ntmps40 rfl rfl fun cx hE => call1 [] (zuh 1004 (by decide)) rfl rfl (za _) (call1 [] zml rfl rfl (za _) ?_)
  refine loop5 (fun (i : Nat) (L : List Dcl) (pv ov : Nat) (pl : Option (List (ByteArray × Int))) => [(6, .p (I i))]) (fun i L pv ov pl => bothO L pv pl ov) (fun i L pv ov pl => i ≤ l.length ∧ bothF [] l = bothF L (l.drop i) ∧ EnP [] L pl ∧ L.length ≤ i) (fun i L pv ov pl => l.length - i) 0 [] 0 0 none [6] [1004, 1005, 1006, 1007, 1000, 1001] hE rfl rfl rfl ⟨Sub.refl _, rfl, rfl, rfl, rfl, rfl, rfl, trivial⟩ ⟨by omega, rfl, EnP00, by simp⟩ fun i L pv ov pl ⟨g1, g2, g3, g4⟩ => ?_
  refine fun _ => brS (fun hlt' => ?_) (fun hlt' => ?_)
  · have hlt : i < l.length := by omega
    have hi : l[i]? = some (l[i]) := List.getElem?_eq_getElem hlt
    have d1 : l.drop i = l[i] :: l.drop (i + 1) := List.drop_eq_getElem_cons hlt
    have hm := List.getElem_mem hlt
    generalize l[i] = a at hi d1 hm
    rw [d1] at g2
    simp only [bothF] at g2
    have r1 : (encDs l)[i]? = some (rowD a) := by simp [encDs, hi]
    have hnr : ∀ d ∈ [a], narD d = true := fun d hd => by rw [List.mem_singleton.1 hd]; exact h.n a hm
    have hs := h.s a hm
    refine idxN r1 (callX [1004, 1005, 1006, 1007] (ztz 1004 (.inr (by decide)) [] L [a] pv ov pl g3 (by simp; omega) hnr (fun d hd => by rw [List.mem_singleton.1 hd]; omega)) rfl rfl (za _) fun r o ⟨e1, L', pv', pl', ov', hE1, e2, e3⟩ => ?_)
    subst e1 e2
    have e4 : L' = rAddF L [a] := by rw [zb5]; exact e3
    have hal := zd3 L [a]
    refine idxN r1 (call1 [1000, 1001] (zmm L [a] 0 (by simp; omega) g3.nd (fun d hd => by rw [List.mem_singleton.1 hd]; exact ⟨h.c a hm, hs⟩)) rfl rfl (za _) (And.intro (by omega) ?_))
    rw [← e3]
    refine ⟨i + 1, L', pv', ov', pl', ⟨by omega, by rw [e4]; exact g2, hE1, by rw [e4]; simp at hal; omega⟩, by omega, Sub.i (by omega), rfl, rfl, rfl, rfl, rfl, rfl, trivial⟩
  · have : i = l.length := by omega
    subst this
    rw [List.drop_length] at g2
    simp only [bothF] at g2
    rw [g2]
    exact ⟨rfl, pv, pl, ov, g3, rfl⟩
theorem zmy {l : List Dcl} (h : (l.all okD) = true) (hl : l.length ≤ 1000000) : BothOK l := by
  rw [List.all_eq_true] at h
  refine ⟨fun d hd => ?_, fun d hd => (zd2 (h d hd)).2.1, fun d hd => by have := (zd2 (h d hd)).2.2; omega, hl⟩
  have := h d hd
  simp only [okD, Bool.and_eq_true, decide_eq_true_eq, List.all_eq_true] at this
  obtain ⟨h1, h2, h3, h4, h5, h6⟩ := this
  unfold narD
  simp only [Bool.and_eq_true, decide_eq_true_eq, List.all_eq_true]
  exact ⟨z5y _ (z2j h1).w, z5y _ (z2j h2).w, by omega, fun c hc => z5y _ (z2j (h4 c hc).1).w⟩
theorem zif (l : List Dcl) (h : (l.all okFam) = true) (hlen : l.length ≤ 1000) : Con Tryz.prog 28 [.p (.sl 16 (encDs l))] [] (fun r o => r = .ptr 2000 0 ∧ o = refE 2000 (envF [] l) 0) :=
  ((zug l h hlen).at1 1000 2000 rfl rfl rfl rfl).at1 1001 2001 rfl rfl rfl rfl
def preL : List Dcl := envF [] prelL
theorem zmz : (prelL.all okFam) = true := by kernel_rfl
theorem zg9 : (preL.all okD) = true := by kernel_rfl
theorem zga : preL.length = 27 := by kernel_rfl
theorem zig : bothF [] preL = preL := by kernel_rfl
theorem zui : Con Tryz.prog 16 [] [] (fun r o => r = .tp [.ptr 1004 0, .ptr 1000 0] ∧ ∃ pv pl ov, EnP [] preL pl ∧ o = bothO preL pv pl ov) := by
  have hb := zd4 preL (zmy zg9 (by rw [zga]; omega))
  rw [zig] at hb
  refine cv [] [] [1004,1005,1006,1007,1000,1001] Tryz.func16 10 Tryz.ntmps16 rfl rfl fun cx hE => call0 zaq (call1 [] (zif prelL zmz (by simp [prelL, famsL, moreL])) rfl rfl (za _) (callX [] hb rfl rfl (.cons Sub.ts .nil) fun r o ⟨e1, pv, pl, ov, hE1, e2⟩ => ?_))
  subst e1 e2
  exact ⟨rfl, pv, pl, ov, hE1, rfl⟩
end Go.Ab.YtplnabidakjhiaaGreat
set_option linter.unusedVariables false
set_option linter.unusedSimpArgs false
namespace Go.Ab
open Go Go.RowKit
def Kv.ren2 (ρ : Nat → Nat) : Kv → Kv
  | .a x => .a (x.ren ρ)
  | .t => .t
  | .f => .f
def renV2 (ρ : Nat → Nat) : VR → VR
  | [] => []
  | (t, x) :: l => (t, x.ren2 ρ) :: renV2 ρ l
theorem zih {ρ : Nat → Nat} : ∀ {r : VR}, toR (renV2 ρ r) = renR ρ (toR r)
  | [] => rfl
  | (t, x) :: l => by
    simp only [renV2, toR, renR, zih (r := l)]
    cases x <;> rfl
def sameR (dk : List Nat) : VR → VR → Prop
  | [], [] => True
  | (t, x) :: l, (t', y) :: l' => t = t' ∧ (mem t dk = true ∨ x = y) ∧ sameR dk l l'
  | _, _ => False
theorem zii {dk : List Nat} : ∀ {r r' : VR}, sameR dk r r' → ∀ q, mem q dk = false → get r' q = get r q
  | [], [], _, q, _ => rfl
  | (t, x) :: l, (t', y) :: l', ⟨h1, h2, h3⟩, q, hq => by
    subst h1
    simp only [get]
    cases hb : Nat.beq t q with
    | true =>
      obtain rfl := Nat.eq_of_beq_eq_true hb
      rcases h2 with h2 | h2
      · rw [h2] at hq; cases hq
      · rw [h2]; rfl
    | false => exact zii h3 q hq
  | [], _ :: _, h, _, _ => h.elim
  | _ :: _, [], h, _, _ => h.elim
theorem zd5 {α : Type} : ∀ {l : List (Nat × α)} {k : Nat}, k ∈ l.map (·.1) → get l k = none → False
  | (t, x) :: l, k, h, hn => by
    simp only [get] at hn
    cases hb : Nat.beq t k with
    | true => rw [hb] at hn; cases hn
    | false =>
      rw [hb] at hn
      rcases List.mem_cons.1 h with h | h
      · simp only at h; subst h; rw [Nat.beq_refl] at hb; cases hb
      · exact zd5 h hn
theorem leX.sw {P : Program} {cx : Cx} {n : Nat} {dk : List Nat} {r : VR} {o orest : Obs} {dyn : Regs} {dobjs : Obs} (a b : Nat) (ha : get cx.objs0 a = none) (hb : get cx.objs0 b = none) (hk : sameR dk r (renV2 (Ab.sw a b) r)) (h : leX P cx n dk (renV2 (Ab.sw a b) r) (renO (Ab.sw a b) o) orest dyn dobjs) : leX P cx n dk r o orest dyn dobjs := by
  have nm : ∀ k, get cx.objs0 k = none → k ∉ cx.objs0.map (·.1) := fun k hk hm => by
    exact zd5 hm hk
  obtain ⟨r2, o2, h1, h2, h3⟩ := h
  refine ⟨r2, o2, Le.trans (Le.swk a b (nm a ha) (nm b hb)) ?_, fun q hq => (h2 q hq).trans (by rw [z1o, z1o, zii hk q hq]), h3⟩
  rw [← zih]
  exact h1
end Go.Ab
namespace Go.Ab.YtplnabidakjhiaaGreat
open Go Go.RowKit Go.Ab Go.Proofs
theorem zuj (n : Int) : PCon Tryz.prog 185 [.p (I n)] (tv (mkV n)) := cv [] [] [] Tryz.func185 5 Tryz.ntmps185 rfl rfl fun cx hE => ⟨rfl, rfl⟩
theorem zkw (k : Int) (a b : Trm) : PCon Tryz.prog 187 [.p (I k), tv a, tv b] (tv (mkB k a b)) := cv [] [] [] Tryz.func187 12 Tryz.ntmps187 rfl rfl fun cx hE => ⟨tv2 _ _ _ [] _ _, rfl⟩
theorem zaf (k i : Int) : PCon Tryz.prog 212 [.p (I k), .p (I i)] (.p (I (bndF k i))) := by
  refine cv [] [] [] Tryz.func212 23 Tryz.ntmps212 rfl rfl fun cx hE => ?_
  repeat' (first | refine brS (fun _ => ?_) (fun _ => ?_) | refine fun _ => ?_)
  all_goals exact ⟨I_eq (by unfold bndF; split <;> omega), rfl⟩
theorem z2u (h : Trm) (l : List Trm) (hl : l.length ≤ 1000000000000) : PCon Tryz.prog 115 [tv h, .p (.sl 5 (encTs l))] (tv (appT h l)) := by
  refine cv [] [] [] Tryz.func115 19 Tryz.ntmps115 rfl rfl fun cx hE => fun _ => ?_
  refine zm9 l () (fun p _ => [(9, .p (I p.length))]) (fun p _ => [(2, ceT (appT h p))]) (fun _ _ => True) [9] [2] hE rfl rfl rfl (leX.same ⟨Sub.refl _, rfl, rfl, trivial⟩) trivial (fun _ _ => brTe ⟨rfl, rfl⟩) (fun p a q _ hq _ => ?_)
  have := zj hq
  refine brT' hq (idxT hq (And.intro (by omega) ⟨(), trivial, leX.by (Le.subC 2 3 rfl rfl (Sub.nil (sz := 3)) rfl rfl) (leX.same ⟨Sub.i (by simp), ?_, rfl, trivial⟩)⟩))
  rw [z9g]
  simp [ceT, mkA, zb, rowT]
  refine ⟨rfl, rfl, ?_, rfl⟩
  simp [z1i]
theorem z7l {u f a : Trm} (hk : u.kind = 3) (ha : u.args = [f, a]) : argsT u = argsT f ++ [a] ∧ headT u = headT f := by
  unfold argsT headT
  rw [zmj hk ha, zfy f [a]]
  exact ⟨rfl, rfl⟩
theorem zd6 {u : Trm} (hk : ¬ u.kind = 3) : argsT u = [] ∧ headT u = u := by
  unfold argsT headT
  rw [zmk hk]
  exact ⟨rfl, rfl⟩
def zRow : List PV := [I 0, I 0, St ⟨#[]⟩, nilS, nilS]
theorem zxb {x : List PV} (m : Nat) (row : List PV) (xs : List (List PV)) : (List.replicate (m + 1) x ++ xs).set m row = List.replicate m x ++ row :: xs := by
  rw [List.replicate_succ', List.append_assoc, List.set_append_right _ _ (by simp)]; simp
set_option maxHeartbeats 2000000 in
theorem z5l (b : Int) (t : Trm) (hw : wfT b t = true) (hd : dpT t ≤ 1000000000) : PCon Tryz.prog 110 [tv t] (.tp [tv (headT t), .p (.sl 5 (encTs (argsT t)))]) := by
  refine cv [] [1000013] [] Tryz.func110 43 Tryz.ntmps110 rfl rfl fun cx hE => ?_
  have hfr : ∀ k, get cx.objs0 k = none := fun k => hE.k0 k rfl
  refine zm9 (argsT t).reverse t (fun p u => [(4, .p (I p.length)), (5, .ptr 905 0)]) (fun p u => [(905, ceT u)]) (fun p u => argsT u ++ p.reverse = argsT t ∧ headT u = headT t ∧ wfT b u = true ∧ p.length + dpT u ≤ dpT t) [4, 5, 7, 11, 16] [5, 905] hE rfl rfl rfl ?_ ⟨by simp, rfl, hw, by simp⟩ (fun u ⟨g1, g2, g3, g4⟩ => ?_) (fun p a q u hq ⟨g1, g2, g3, g4⟩ => ?_)
  · refine leX.sw 5 905 (hfr 5) (hfr 905) ?_ (leX.same ⟨Sub.refl _, Sub.refl _, rfl, rfl, rfl, trivial⟩)
    repeat' (first | exact trivial | refine And.intro rfl (And.intro (Or.inl rfl) ?_) | refine And.intro rfl (And.intro (Or.inr rfl) ?_))
  · have hn : argsT u = [] := by
      have := congrArg List.length g1
      simp at this; exact this
    have hk : ¬ u.kind = 3 := fun hk => by
      obtain ⟨f, a, ha⟩ := z9h g3 (.inl hk)
      rw [(z7l hk ha).1] at hn; simp at hn
    have hN : (argsT t).length ≤ dpT t := by simp at g4; omega
    refine brZ hk (And.intro (by simp; omega) (And.intro (by simp; omega) ?_))
    refine loop2 (fun (m : Nat) (v : Trm) => [(4, .p (I m))]) (fun m v => [(1, ceT v), (24, .mu 32 5 0 (List.replicate m zRow ++ encTs ((argsT t).drop m)))]) (fun m v => m ≤ (argsT t).length ∧ argsT v = (argsT t).take m ∧ headT v = headT t ∧ wfT b v = true) (fun m v => m) (argsT t).length t [4] [1, 24] hE rfl rfl rfl ⟨Sub.i (by simp), rfl, ?_, rfl, rfl, trivial⟩ ⟨Nat.le_refl _, by simp, rfl, hw⟩ fun m v ⟨q1, q2, q3, q4⟩ => ?_
    · have e1 : (((argsT t).reverse.length : Nat) : Int).toNat = (argsT t).length := by simp
      have e2 : encTs ([] : List Trm) = [] := by simp [zb]
      rw [List.drop_length, e2, List.append_nil, ← e1]; rfl
    refine brS (fun hm => ?_) (fun hm => ?_)
    · obtain ⟨j, rfl⟩ : ∃ j, m = j + 1 := ⟨m - 1, by omega⟩
      have hlt : j < (argsT t).length := by omega
      have hk3 : v.kind = 3 := Classical.byContradiction fun hk => by
        have e := (zd6 hk).1
        rw [e] at q2
        have := congrArg List.length q2
        simp at this; omega
      obtain ⟨f, a, ha⟩ := z9h q4 (.inl hk3)
      obtain ⟨s1, s2⟩ := z7l hk3 ha
      have hj : (argsT t)[j]? = some ((argsT t)[j]) := List.getElem?_eq_getElem hlt
      rw [s1, z1q hj] at q2
      obtain ⟨q5, q6⟩ := List.append_inj' q2 rfl
      have q6' : a = (argsT t)[j] := by simpa using q6
      have r0 : (encTs v.args)[0]? = some (rowT f) := by rw [ha]; simp [zb]
      have r1 : (encTs v.args)[1]? = some (rowT a) := by rw [ha]; simp [zb]
      have hi : ((j + 1 : Nat) : Int) - 1 = (j : Nat) := by omega
      have hml : (List.replicate (j + 1) zRow ++ encTs ((argsT t).drop (j + 1))).length = (argsT t).length := by simp; omega
      have hset : (List.replicate (j + 1) zRow ++ encTs ((argsT t).drop (j + 1))).set j (rowT a) = List.replicate j zRow ++ encTs ((argsT t).drop j) := by
        rw [zxb, show (argsT t).drop j = (argsT t)[j] :: (argsT t).drop (j + 1) from List.drop_eq_getElem_cons hlt, q6']; simp only [zb, List.map_cons]
      refine And.intro (by omega) ?_
      rw [hi]
      refine idxN (i := 1) r1 (And.intro (by omega) (And.intro (by rw [hml]; omega) (pst1 (i := j) (by rw [hml]; exact hlt) (idxN (i := 0) r0 (And.intro (by omega) ?_)))))
      refine ⟨j, f, ⟨by omega, q5, by rw [← s2]; exact q3, (zg q4).sub f (by rw [ha]; simp)⟩, by omega, Sub.i (by omega), rfl, ?_, rfl, rfl, trivial⟩
      exact congrArg (Ob.mu 32 5 0) hset
    · obtain rfl : m = 0 := by omega
      have hv : v = headT t := by
        have hk : ¬ v.kind = 3 := fun hk => by
          obtain ⟨f, a, ha⟩ := z9h q4 (.inl hk)
          rw [(z7l hk ha).1] at q2; simp at q2
        rw [← q3]; exact (zd6 hk).2.symm
      subst hv
      refine join1 (A := Unit) (fun _ => [(3, .p (.sl 5 (encTs (argsT t))))]) (fun _ => [(2, ceT (headT t))]) (fun _ => True) [3] [2, 24] [] hE rfl rfl rfl ?_ (fun _ _ => ⟨rfl, rfl⟩)
      exact ⟨(), trivial, leX.put (t := 3) rfl (Le.muP (k := 24) (t := 3) rfl rfl) (leX.same ⟨Sub.refl _, rfl, rfl, rfl, trivial⟩)⟩
  · have hk : u.kind = 3 := Classical.byContradiction fun hk => by
      have e := (zd6 hk).1
      have := congrArg List.length g1
      rw [e] at this
      have h2 := congrArg List.length hq
      simp at this h2; omega
    obtain ⟨f, b', ha⟩ := z9h g3 (.inl hk)
    obtain ⟨s1, s2⟩ := z7l hk ha
    have r0 : (encTs u.args)[0]? = some (rowT f) := by rw [ha]; simp [zb]
    have hel := zd u.args
    have hl2 : u.args.length = 2 := by rw [ha]; rfl
    have hdf := zy (t := u) (a := f) (by rw [ha]; simp)
    refine brY hk (fun _ => brY (by omega) (And.intro (by omega) ?_))
    refine idxN (i := 0) r0 ?_
    refine ⟨f, ?_, ?_⟩
    · have hpr : (p ++ [a]).length = p.length + 1 := by simp
      refine ⟨?_, by rw [← s2]; exact g2, (zg g3).sub f (by rw [ha]; simp), by omega⟩
      have e := g1
      rw [s1] at e
      have hrev := congrArg List.reverse hq
      rw [List.reverse_reverse, ← e] at hrev
      simp only [List.reverse_append, List.reverse_cons, List.append_assoc, List.singleton_append, List.cons_append, List.nil_append] at hrev
      have hlen : (argsT f).length = q.reverse.length := by
        have := congrArg List.length hrev; simp at this; simp; omega
      obtain ⟨h5, h6⟩ := List.append_inj hrev hlen
      have h7 : b' = a := by simpa using h6
      rw [← e, h7]; simp
    · refine leX.sw 5 905 (hfr 5) (hfr 905) ?_ (leX.same ⟨Sub.i (by simp), Sub.refl _, rfl, rfl, rfl, trivial⟩)
      repeat' (first | exact trivial | refine And.intro rfl (And.intro (Or.inl rfl) ?_) | refine And.intro rfl (And.intro (Or.inr rfl) ?_))
end Go.Ab.YtplnabidakjhiaaGreat
namespace Go.Ab.YtplnabidakjhiaaGreat
open Go Go.RowKit Go.Ab Go.Proofs
mutual
theorem z8y : ∀ t : Trm, lvsT [] t = t
  | ⟨k, n, s, ls, l⟩ => by
    rw [zcf, z6m l, z1z]
    rw [show putF [] = id from funext zb3]; simp
theorem z6m : ∀ l : List Trm, lvsTs [] l = l
  | [] => rfl
  | a :: r => by simp only [lvsTs]; rw [z8y a, z6m r]
end
set_option maxHeartbeats 2000000 in
theorem z8c (by_ : List Lvl) (hby : ∀ b ∈ by_, narL b = true) (b : Int) (t : Trm) : wfT b t = true → PCon Tryz.prog 116 [tv t, .p (.sl 3 (encLs by_))] (tv (lvsT by_ t)) := by
  intro hw
  have w := zg hw
  have ih : ∀ a ∈ t.args, PCon Tryz.prog 116 [tv a, .p (.sl 3 (encLs by_))] (tv (lvsT by_ a)) := fun a ha => z8c by_ hby b a (w.sub a ha)
  have hfew := w.few_args
  have hln := w.few
  have hel := zr t.levels
  have het := zd t.args
  have hbl := zr by_
  refine cv [] [1000003,1000011] [] Tryz.func116 64 Tryz.ntmps116 rfl rfl fun cx hE => fun _ => brS (fun h0 => ?_) (fun h0 => ?_)
  · have : by_ = [] := List.eq_nil_of_length_eq_zero (by omega)
    subst this
    exact ⟨by rw [z8y]; rfl, rfl⟩
  rw [zcf, z4o, z1z]
  refine join1 (A := Unit) (fun _ => []) (fun _ => [(2, ceT ⟨t.kind, t.n, t.name, t.levels.map (putF by_), t.args⟩)]) (fun _ => True) [] [2] [] hE rfl rfl rfl ?_ (fun _ _ => ?_)
  · refine fun _ => brS (fun h1 => ?_) (fun h1 => ?_)
    · refine fun _ => And.intro (by first | omega | (dsimp only; omega)) (And.intro (by first | omega | (dsimp only; omega)) ?_)
      refine fun _ => ?_
      refine loopP t.levels (fun p => [(26, .p (I p.length)), (5, .nn 22 3 (encLs (p.map (putF by_))))]) (fun p => [(22, .ar 90 3 (encLs (p.map (putF by_))).length)]) (fun _ => True) [26, 5] [22] hE rfl rfl rfl ⟨Sub.refl _, Sub.refl _, rfl, rfl, rfl, trivial⟩ trivial (fun _ => brLe ⟨(), trivial, leX.by (Le.subC 2 3 rfl rfl Sub.nnp rfl rfl) (leX.same ⟨rfl, rfl, trivial⟩)⟩) (fun p a q hl _ => ?_)
      have := zj hl
      refine brL hl (idxL hl (call0 (zql by_ hby a (w.nar a (zf hl))) (app1 (by simp; omega) (by simp; omega) (And.intro (by omega) ?_))))
      refine ⟨trivial, Sub.i (by simp), Sub.eq ?_, ar_eq (by simp), rfl, rfl, trivial⟩
      simp [z1i, zb, rowL, rowT]; rfl
    · have : t.levels = [] := List.eq_nil_of_length_eq_zero (by omega)
      exact ⟨(), trivial, leX.same ⟨by rw [this]; rfl, rfl, trivial⟩⟩
  · refine join1 (A := Unit) (fun _ => []) (fun _ => [(2, ceT ⟨t.kind, t.n, t.name, t.levels.map (putF by_), t.args.map (lvsT by_)⟩)]) (fun _ => True) [] [2] [] hE rfl rfl rfl ?_ (fun _ _ => ⟨rfl, rfl⟩)
    refine fun _ => brS (fun h1 => ?_) (fun h1 => ?_)
    · refine fun _ => And.intro (by first | omega | (dsimp only; omega)) (And.intro (by first | omega | (dsimp only; omega)) ?_)
      refine fun _ => ?_
      refine loopP t.args (fun p => [(50, .p (I p.length)), (8, .nn 46 5 (encTs (p.map (lvsT by_))))]) (fun p => [(46, .ar 32 5 (encTs (p.map (lvsT by_))).length)]) (fun _ => True) [50, 8] [46] hE rfl rfl rfl ⟨Sub.refl _, Sub.refl _, rfl, rfl, rfl, trivial⟩ trivial (fun _ => brTe ⟨(), trivial, leX.by (Le.subC 2 4 rfl rfl Sub.nnp rfl rfl) (leX.same ⟨rfl, rfl, trivial⟩)⟩) (fun p a q hl _ => ?_)
      have := zj hl
      refine brT' hl (idxT hl (call0 (ih a (zf hl)) (app1 (by simp; omega) (by simp; omega) (And.intro (by omega) ?_))))
      refine ⟨trivial, Sub.i (by simp), Sub.eq ?_, ar_eq (by simp), rfl, rfl, trivial⟩
      simp [z1i, zb, rowL, rowT]; rfl
    · have : t.args = [] := List.eq_nil_of_length_eq_zero (by have h1' : ¬ ((encTs t.args).length : Int) > 0 := h1; omega)
      exact ⟨(), trivial, leX.same ⟨by rw [this]; rfl, rfl, trivial⟩⟩
termination_by SizeOf.sizeOf t
decreasing_by exact Trm.lt ha
end Go.Ab.YtplnabidakjhiaaGreat
namespace Go.Ab
open Go Go.RowKit
mutual
def trnT (u : Int → Trm → Bool) : Trm → Int → Bool
  | ⟨k, n, s, ls, l⟩, d => if k = 0 then u d ⟨k, n, s, ls, l⟩ else trnTs u k l 0 d
def trnTs (u : Int → Trm → Bool) (k : Int) : List Trm → Int → Int → Bool
  | [], _, _ => false
  | a :: r, i, d => trnT u a (d + bndF k i) || trnTs u k r (i + 1) d
end
theorem zrx (u : Int → Trm → Bool) (t : Trm) (d : Int) : trnT u t d = if t.kind = 0 then u d t else trnTs u t.kind t.args 0 d := by cases t; rfl
theorem zij (u : Int → Trm → Bool) (k : Int) : ∀ (l q : List Trm) (i d : Int), trnTs u k (l ++ q) i d = (trnTs u k l i d || trnTs u k q (i + l.length) d)
  | [], q, i, d => by simp [trnTs]
  | a :: r, q, i, d => by
    simp only [List.cons_append, trnTs, zij u k r q (i + 1) d, List.length_cons, Bool.or_assoc]
    rw [show i + 1 + (r.length : Int) = i + (↑(r.length + 1) : Int) by push_cast; omega]
theorem z7m (u : Int → Trm → Bool) (k : Int) (p : List Trm) (a : Trm) (d : Int) : trnTs u k (p ++ [a]) 0 d = (trnTs u k p 0 d || trnT u a (d + bndF k p.length)) := by
  rw [zij]; simp [trnTs]
mutual
theorem zry {u : Int → Trm → Bool} {g : Int → Trm → Trm} (h : ∀ d v, u d v = false → g d v = v) : ∀ (t : Trm) (d : Int), trnT u t d = false → trvT g t d = t
  | ⟨k, n, s, ls, l⟩, d, hf => by
    simp only [trnT] at hf
    simp only [trvT]
    split
    · rename_i hk; rw [if_pos hk] at hf; exact h _ _ hf
    · rename_i hk; rw [if_neg hk] at hf; rw [zgb h k l 0 d hf]
theorem zgb {u : Int → Trm → Bool} {g : Int → Trm → Trm} (h : ∀ d v, u d v = false → g d v = v) (k : Int) : ∀ (l : List Trm) (i d : Int), trnTs u k l i d = false → trvTs g k l i d = l
  | [], _, _, _ => rfl
  | a :: r, i, d, hf => by
    simp only [trnTs, Bool.or_eq_false_iff] at hf
    simp only [trvTs]
    rw [zry h a _ hf.1, zgb h k r _ _ hf.2]
end
mutual
theorem zik (by_ f : Int) : ∀ (t : Trm) (d : Int), trvT (lftV by_ f) t d = trvT (lftV by_ 0) t (d + f)
  | ⟨k, n, s, ls, l⟩, d => by
    simp only [trvT, zep by_ f k l 0 d]
    split
    · simp only [lftV]
      rw [show f + d = 0 + (d + f) by omega]
    · rfl
theorem zep (by_ f : Int) (k : Int) : ∀ (l : List Trm) (i d : Int), trvTs (lftV by_ f) k l i d = trvTs (lftV by_ 0) k l i (d + f)
  | [], _, _ => rfl
  | a :: r, i, d => by
    simp only [trvTs]
    rw [zik by_ f a, zep by_ f k r, show d + bndF k i + f = d + f + bndF k i by omega]
end
def lftU (f : Int) (d : Int) (v : Trm) : Bool := decide (¬ v.n - d < f)
def opnU (d : Int) (v : Trm) : Bool := decide (¬ v.n - d < 0)
theorem zxc (by_ f : Int) (d : Int) (v : Trm) (h : lftU f d v = false) : lftV by_ f d v = v := by
  have h' : v.n - d < f := by simpa [lftU] using h
  unfold lftV; rw [if_neg (by omega)]
theorem zxd (vs : List Trm) (d : Int) (v : Trm) (h : opnU d v = false) : opnV vs d v = v := by
  have h' : v.n < d := by simpa [opnU] using h
  unfold opnV; rw [if_pos (by omega)]
end Go.Ab
namespace Go.Ab.YtplnabidakjhiaaGreat
open Go Go.RowKit Go.Ab Go.Proofs
mutual
theorem zn0 {g : Int → Trm → Trm} (h : ∀ d v, g d v = v) : ∀ (t : Trm) (d : Int), trvT g t d = t
  | ⟨k, n, s, ls, l⟩, d => by
    simp only [trvT, h, zil h k l 0 d]; split <;> rfl
theorem zil {g : Int → Trm → Trm} (h : ∀ d v, g d v = v) (k : Int) : ∀ (l : List Trm) (i d : Int), trvTs g k l i d = l
  | [], _, _ => rfl
  | a :: r, i, d => by simp only [trvTs]; rw [zn0 h a, zil h k r]
end
theorem zuk (t : Trm) (d : Int) : opnT [] t d = t := by
  refine zn0 (fun d v => ?_) t d
  unfold opnV
  split
  · rfl
  · split
    · rename_i h1 h2; simp at h2; omega
    · cases v; simp
def trnV (t : Trm) (b : Bool) : AV := .tp [tv t, .p (B b)]
set_option maxRecDepth 20000 in
set_option maxHeartbeats 4000000 in
theorem zd7 (F : Nat) (hF : F = 213 ∨ F = 182) (T0 T1 : Nat) (p0 p1 : PV) (g : Int → Trm → Trm) (u : Int → Trm → Bool) (hid : ∀ d v, u d v = false → g d v = v) (b D : Int) (hD : D ≤ 1000000000000000)
    (hf : ∀ (v : Trm) (d : Int), wfT b v = true → v.kind = 0 → 0 ≤ d → d ≤ D → Con Tryz.prog F [tv v, .p (I d), .ptr 1000 0, .ptr 1001 0] [(1000, .ce T0 [.p p0]), (1001, .ce T1 [.p p1])] (fun r o => r = trnV (g d v) (u d v) ∧ o = [(1000, .ce T0 [.p p0]), (1001, .ce T1 [.p p1])])) (t : Trm) : ∀ d : Int, 0 ≤ d → d + dpT t ≤ D → wfT b t = true →
    Con Tryz.prog 181 [tv t, .p (I d), .fv (.func F) [] [.ptr 1000 0, .ptr 1001 0]] [(1000, .ce T0 [.p p0]), (1001, .ce T1 [.p p1])] (fun r o => r = trnV (trvT g t d) (trnT u t d) ∧ o = [(1000, .ce T0 [.p p0]), (1001, .ce T1 [.p p1])]) := by
  intro d h0 h1 hw
  have w := zg hw
  have hn0 := w.n0
  have hn1 := w.n1
  have hfew := w.few_args
  have het := zd t.args
  have ih : ∀ a ∈ t.args, ∀ d : Int, 0 ≤ d → d + dpT a ≤ D → Con Tryz.prog 181 [tv a, .p (I d), .fv (.func F) [] [.ptr 1000 0, .ptr 1001 0]] [(1000, .ce T0 [.p p0]), (1001, .ce T1 [.p p1])] (fun r o => r = trnV (trvT g a d) (trnT u a d) ∧ o = [(1000, .ce T0 [.p p0]), (1001, .ce T1 [.p p1])]) := fun a ha d g0 g1 => zd7 F hF T0 T1 p0 p1 g u hid b D hD hf a d g0 g1 (w.sub a ha)
  rcases hF with rfl | rfl
  all_goals
    refine cv [] [1000015] [1000,1001] Tryz.func181 69 Tryz.ntmps181 rfl rfl fun cx hE => brS (fun hk => ?_) (fun hk => ?_)
    · refine call1 [1000, 1001] (hf t d hw hk h0 (by omega)) rfl rfl (za _) ⟨?_, rfl⟩
      rw [z7x, zrx, if_pos hk, if_pos hk]; rfl
    rw [z7x, zrx, if_neg hk, if_neg hk]
    refine fun _ => ?_
    refine zm9 t.args false (fun p w => [(25, .p (I p.length)), (8, cond w (.nn 50 5 (encTs (trvTs g t.kind p 0 d))) (.p nilS))]) (fun p w => cond w [(50, .ar 32 5 (encTs (trvTs g t.kind p 0 d)).length)] []) (fun p w => w = trnTs u t.kind p 0 d) [25, 8] [50] hE rfl rfl rfl (leX.same ⟨Sub.refl _, Sub.refl _, rfl, rfl, rfl, rfl, trivial⟩) rfl (fun w hw => ?_) (fun p a q w hl hw => ?_)
    · cases w with
      | true =>
        refine brTe ?_
        refine join1 (A := Unit) (fun _ => []) (fun _ => [(3, ceT ⟨t.kind, t.n, t.name, t.levels, trvTs g t.kind t.args 0 d⟩)]) (fun _ => True) [] [3, 50] [] hE rfl rfl rfl ?_ (fun _ _ => ⟨by unfold trnV; rw [← hw]; rfl, rfl⟩)
        exact ⟨(), trivial, leX.by (Le.subC 3 4 rfl rfl Sub.nnp rfl rfl) (leX.same ⟨rfl, rfl, rfl, rfl, trivial⟩)⟩
      | false =>
        have e := zgb hid t.kind t.args 0 d hw.symm
        exact brTe ⟨by unfold trnV; rw [← hw, e]; rfl, rfl⟩
    · have := zj hl
      have hbd := z5x t.kind p.length
      have hda := zy (zf hl)
      have hia := ih a (zf hl) (d + bndF t.kind p.length) (by omega) (by omega)
      have hlen := z2d g t.kind p 0 d
      have hsn := z7c g t.kind p a d
      cases w with
      | true =>
        refine brT' hl (idxT hl (call0 (zaf _ _) (And.intro (by omega) (callR [1000, 1001] hia rfl rfl (za _) (brB (fun h2 => ?_) (fun h2 => ?_))))))
        · refine app1 (by first | omega | (simp; done) | (simp; omega) | (simp [hlen]; omega)) (by first | omega | (simp; done) | (simp; omega) | (simp [hlen]; omega)) (And.intro (by omega) ?_)
          refine ⟨true, ?_, leX.same ⟨Sub.i (by simp), ?_, ?_, rfl, rfl, rfl, rfl, trivial⟩⟩
          · rw [z7m, ← hw]; rfl
          · refine Sub.eq (congrArg (AV.nn 50 5) ?_)
            rw [hsn, z1c]
          · exact ar_eq (by simp [z2d])
        · refine app1 (by first | omega | (simp; done) | (simp; omega) | (simp [hlen]; omega)) (by first | omega | (simp; done) | (simp; omega) | (simp [hlen]; omega)) (And.intro (by omega) ?_)
          have e2 := zry hid a _ h2
          refine ⟨true, ?_, leX.same ⟨Sub.i (by simp), ?_, ?_, rfl, rfl, rfl, rfl, trivial⟩⟩
          · rw [z7m, ← hw]; rfl
          · refine Sub.eq (congrArg (AV.nn 50 5) ?_)
            rw [hsn, z1c]
          · exact ar_eq (by simp [z2d])
      | false =>
        have e := zgb hid t.kind p 0 d hw.symm
        refine brT' hl (idxT hl (call0 (zaf _ _) (And.intro (by omega) (callR [1000, 1001] hia rfl rfl (za _) (brB (fun h2 => ?_) (fun h2 => ?_))))))
        · refine And.intro (by omega) (And.intro (by dsimp only; omega) (And.intro (by omega) ?_))
          refine app2 rfl (by simp; omega) (by simp; omega) ?_
          refine app2 (by simp) (by simp; omega) (by simp; omega) (And.intro (by omega) ?_)
          have htk : (↑p.length : Int).toNat = p.length := by omega
          have hpt : (encTs t.args).take p.length = encTs p := by rw [hl]; simp [zb]
          refine ⟨true, ?_, leX.same ⟨Sub.i (by simp), ?_, ?_, rfl, rfl, rfl, rfl, trivial⟩⟩
          · rw [z7m, h2]; simp
          · refine Sub.eq (congrArg (AV.nn 50 5) ?_)
            rw [htk, hpt, hsn, e, List.nil_append, z1c]
          · exact ar_eq (by simp [z2d]; omega)
        · have e2 := zry hid a _ h2
          refine And.intro (by omega) ?_
          refine ⟨false, ?_, leX.same ⟨Sub.i (by simp), Sub.refl _, rfl, rfl, rfl, rfl, trivial⟩⟩
          rw [z7m, ← hw, h2]; rfl
termination_by SizeOf.sizeOf t
decreasing_by exact Trm.lt ha
theorem zp6 (f by_ : Int) (v : Trm) (d : Int) (h0 : -1000000000000000000 ≤ v.n - d) (h1 : v.n - d ≤ 1000000000000000000) (h2 : -1000000000000000000 ≤ v.n + by_) (h3 : v.n + by_ ≤ 1000000000000000000) :
    Con Tryz.prog 213 [tv v, .p (I d), .ptr 1000 0, .ptr 1001 0] [(1000, .ce 3 [.p (I f)]), (1001, .ce 3 [.p (I by_)])] (fun r o => r = trnV (lftV by_ f d v) (lftU f d v) ∧ o = [(1000, .ce 3 [.p (I f)]), (1001, .ce 3 [.p (I by_)])]) := by
  refine cv [] [] [1000,1001] Tryz.func213 21 Tryz.ntmps213 rfl rfl fun cx hE => And.intro (by omega) (brS (fun h => ⟨?_, rfl⟩) (fun h => And.intro (by omega) ⟨?_, rfl⟩))
  · unfold trnV lftV lftU; rw [if_neg (by omega), decide_eq_false (by omega)]; rfl
  · unfold trnV lftV lftU; rw [if_pos (by omega), decide_eq_true (by omega)]; rfl
theorem zd8 (by_ f b : Int) (hf0 : 0 ≤ f) (hf1 : f ≤ 1000000000000) (hb0 : 0 ≤ by_) (hb1 : by_ ≤ 1000000000000000) (hb : b ≤ 1000000000000000) (t : Trm) (hd : dpT t ≤ 1000000000000) (hw : wfT b t = true) :
    PCon Tryz.prog 183 [tv t, .p (I by_), .p (I f)] (tv (lftT by_ t f)) := by
  have hc := zd7 213 (.inl rfl) 3 3 (I f) (I by_) (lftV by_ f) (lftU f) (zxc by_ f) b 1000000000000000 (by omega) (fun v d hv _ h0 h1 => by
    have w := zg hv
    have h2 := w.n0
    have h3 := w.n1
    exact zp6 f by_ v d (by omega) (by omega) (by omega) (by omega)) t 0 (by omega) (by omega) hw
  have hs : trvT (lftV by_ f) t 0 = lftT by_ t f := by rw [zik]; unfold lftT; rw [show (0 : Int) + f = f by omega]
  rw [hs] at hc
  refine cv [] [] [] Tryz.func183 19 Tryz.ntmps183 rfl rfl fun cx hE => brS (fun h => ⟨?_, rfl⟩) (fun h => ?_)
  · subst h; rw [z9b]; rfl
  · refine callX [5, 4] ((hc.sw 1000 5).sw 1001 4) rfl rfl (za _) fun r o ⟨r1, o1, ⟨r2, o2, ⟨e1, e2⟩, e3, e4⟩, e5, e6⟩ => ?_
    subst e1 e2 e3 e4 e5 e6
    exact ⟨rfl, rfl⟩
theorem zp7 (vs : List Trm) (b : Int) (hb : b ≤ 1000000000000000) (hvs : ∀ v ∈ vs, wfT b v = true ∧ dpT v ≤ 1000000000000) (hlen : vs.length ≤ 1000000000000) (v : Trm) (hv : wfT b v = true) (hk : v.kind = 0) (d : Int) (h0 : 0 ≤ d) (h1 : d ≤ 1000000000000000) :
    Con Tryz.prog 182 [tv v, .p (I d), .ptr 1000 0, .ptr 1001 0] [(1000, .ce 3 [.p (I vs.length)]), (1001, .ce 30 [.p (.sl 5 (encTs vs))])] (fun r o => r = trnV (opnV vs d v) (opnU d v) ∧ o = [(1000, .ce 3 [.p (I vs.length)]), (1001, .ce 30 [.p (.sl 5 (encTs vs))])]) := by
  have w := zg hv
  have h2 := w.n0
  have h3 := w.n1
  refine cv [] [] [1000,1001] Tryz.func182 36 Tryz.ntmps182 rfl rfl fun cx hE => And.intro (by omega) (brS (fun h => ⟨?_, rfl⟩) (fun h => brS (fun h4 => ?_) (fun h4 => And.intro (by omega) ⟨?_, rfl⟩)))
  · unfold trnV opnV opnU; rw [if_pos (by omega), decide_eq_false (by omega)]; rfl
  · have hi : vs.length - 1 - (v.n - d).toNat < vs.length := by omega
    have hg : vs[vs.length - 1 - (v.n - d).toNat]? = some (vs[vs.length - 1 - (v.n - d).toNat]) := List.getElem?_eq_getElem hi
    have hm := hvs _ (List.getElem_mem hi)
    have he : ((vs.length : Int) - 1 - (v.n - d)) = ((vs.length - 1 - (v.n - d).toNat : Nat) : Int) := by omega
    refine And.intro (by omega) (And.intro (by omega) ?_)
    rw [he]
    refine idxN (row := rowT (vs[vs.length - 1 - (v.n - d).toNat])) (by rw [zb, List.getElem?_map, hg]; rfl) (call0 (zd8 d 0 b (by omega) (by omega) h0 h1 hb _ hm.2 hm.1) ⟨?_, rfl⟩)
    unfold trnV opnV opnU
    rw [if_neg (by omega), if_pos (by omega), decide_eq_true (by omega), List.getD_eq_getElem?_getD, hg]; rfl
  · unfold trnV opnV opnU; rw [if_neg (by omega), if_neg (by omega), decide_eq_true (by omega)]; rfl
theorem zim (b : Int) (hb : b ≤ 1000000000000000) (vs : List Trm) (hvs : ∀ v ∈ vs, wfT b v = true ∧ dpT v ≤ 1000000000000) (hlen : vs.length ≤ 1000000000000) (t : Trm) (hd : dpT t ≤ 1000000000000) (hw : wfT b t = true) :
    PCon Tryz.prog 130 [tv t, .p (.sl 5 (encTs vs))] (tv (opnT vs t 0)) := by
  have hc := zd7 182 (.inr rfl) 3 30 (I vs.length) (.sl 5 (encTs vs)) (opnV vs) opnU (zxd vs) b 1000000000000000 (by omega) (fun v d hv hk h0 h1 => zp7 vs b hb hvs hlen v hv hk d h0 h1) t 0 (by omega) (by omega) hw
  have hel := zd vs
  refine cv [] [] [] Tryz.func130 20 Tryz.ntmps130 rfl rfl fun cx hE => fun _ => ?_
  rw [hel]
  refine brS (fun h => ⟨?_, rfl⟩) (fun h => ?_)
  · have : vs = [] := List.eq_nil_of_length_eq_zero (by omega)
    subst this
    rw [zuk]; rfl
  · refine callX [5, 3] ((hc.sw 1000 5).sw 1001 3) rfl rfl (za _) fun r o ⟨r1, o1, ⟨r2, o2, ⟨e1, e2⟩, e3, e4⟩, e5, e6⟩ => ?_
    subst e1 e2 e3 e4 e5 e6
    exact ⟨rfl, rfl⟩
theorem zul (b : Int) (hb : b ≤ 1000000000000000) (v : Trm) (hv : wfT b v = true) (hdv : dpT v ≤ 1000000000000) (t : Trm) (hd : dpT t ≤ 1000000000000) (hw : wfT b t = true) :
    PCon Tryz.prog 208 [tv t, tv v] (tv (opnT [v] t 0)) := by
  have hc := zim b hb [v] (fun x hx => by simp at hx; subst hx; exact ⟨hv, hdv⟩) (by simp) t hd hw
  rw [show encTs [v] = [rowT v] by simp [zb]] at hc
  exact cv [] [] [] Tryz.func208 9 Tryz.ntmps208 rfl rfl fun cx hE => call0 hc ⟨rfl, rfl⟩
end Go.Ab.YtplnabidakjhiaaGreat
namespace Go.Ab
open Go Go.RowKit
theorem zd9 {g : Int → Trm → Trm} {k : Int} {x : Trm} : ∀ {l : List Trm} {i d : Int}, x ∈ trvTs g k l i d → ∃ a ∈ l, ∃ j : Int, 0 ≤ j ∧ j ≤ 1 ∧ x = trvT g a (d + j)
  | [], _, _, h => by cases h
  | a :: r, i, d, h => by
    simp only [trvTs, List.mem_cons] at h
    rcases h with rfl | h
    · exact ⟨a, by simp, bndF k i, (z5x k i).1, (z5x k i).2, rfl⟩
    · obtain ⟨b, hb, j, h1, h2, h3⟩ := zd9 h
      exact ⟨b, by simp [hb], j, h1, h2, h3⟩
theorem zrz {g : Int → Trm → Trm} {b c D : Int} (hbc : b ≤ c) (hg : ∀ d v, 0 ≤ d → d ≤ D → v.kind = 0 → wfT b v = true → wfT c (g d v) = true) : ∀ (t : Trm) (d : Int), 0 ≤ d → d + dpT t ≤ D → wfT b t = true → wfT c (trvT g t d) = true
  | t, d, h0, h1, hw => by
    rw [z7x]
    have hpos : 1 ≤ dpT t := by rw [z4v]; omega
    split
    · rename_i hk; exact hg d t h0 (by omega) hk hw
    · rename_i hk
      have w := zg hw
      refine z6d ⟨by simp only [z2d]; exact w.args, w.n0, by have := w.n1; simp only; omega, w.var, w.name, w.sort, w.lev, w.few, w.nar, fun x hx => ?_⟩
      obtain ⟨a, ha, j, g1, g2, rfl⟩ := zd9 hx
      have := zy ha
      exact zrz hbc hg a (d + j) (by omega) (by omega) (w.sub a ha)
termination_by t => SizeOf.sizeOf t
decreasing_by exact Trm.lt ha
theorem zgc {l : List Trm} {m : Nat} (h : ∀ a ∈ l, dpT a ≤ m) : dpTs l ≤ m := by
  induction l with
  | nil => simp [dpTs]
  | cons a r ih =>
    simp only [dpTs]
    have := h a (by simp)
    have := ih fun b hb => h b (by simp [hb])
    omega
theorem zs0 {g : Int → Trm → Trm} {M : Nat} (hg : ∀ d v, v.kind = 0 → dpT (g d v) ≤ dpT v + M) : ∀ (t : Trm) (d : Int), dpT (trvT g t d) ≤ dpT t + M
  | t, d => by
    rw [z7x]
    split
    · rename_i hk; exact hg d t hk
    · rw [z4v, z4v t]
      have : dpTs (trvTs g t.kind t.args 0 d) ≤ dpTs t.args + M := zgc fun x hx => by
        obtain ⟨a, ha, j, _, _, rfl⟩ := zd9 hx
        have := zs0 hg a (d + j)
        have := zfx ha
        omega
      simp only; omega
termination_by t => SizeOf.sizeOf t
decreasing_by exact Trm.lt ha
theorem zin {b c by_ : Int} (h0 : 0 ≤ by_) (hc : b + by_ ≤ c) {t : Trm} {d : Int} (hd : 0 ≤ d) (hw : wfT b t = true) : wfT c (lftT by_ t d) = true := by
  refine zrz (D := d + dpT t) (by omega) (fun d' v _ _ hk hv => ?_) t d hd (Int.le_refl _) hw
  have w := zg hv
  have n0 := w.n0
  have n1 := w.n1
  unfold lftV
  split
  · exact z6d ⟨w.args, by simp only; omega, by simp only; omega, fun h => absurd hk h, w.name, w.sort, w.lev, w.few, w.nar, fun a ha => by have := w.noargs hk; simp only at ha; rw [this] at ha; cases ha⟩
  · exact zu (by omega) v hv
theorem zio {by_ : Int} (t : Trm) (d : Int) : dpT (lftT by_ t d) ≤ dpT t := by
  have := zs0 (g := lftV by_ 0) (M := 0) (fun d v hk => by unfold lftV; split <;> simp [z4v]) t d
  simpa [lftT] using this
theorem zn1 {b c D : Int} {vs : List Trm} {t : Trm} {d : Int} (hd : 0 ≤ d) (hD : d + dpT t ≤ D) (hc : b + D ≤ c) (hvs : ∀ v ∈ vs, wfT b v = true) (hw : wfT b t = true) : wfT c (opnT vs t d) = true := by
  have hpos : 1 ≤ dpT t := by rw [z4v]; omega
  refine zrz (D := D) (by omega) (fun d' v g0 g1 hk hv => ?_) t d hd hD hw
  have w := zg hv
  have n0 := w.n0
  have n1 := w.n1
  unfold opnV
  split
  · exact zu (by omega) v hv
  · split
    · rename_i h1 h2
      have hi : vs.length - 1 - (v.n - d').toNat < vs.length := by omega
      rw [List.getD_eq_getElem?_getD, List.getElem?_eq_getElem hi]
      exact zin g0 (by omega) (by omega) (hvs _ (List.getElem_mem hi))
    · exact z6d ⟨w.args, by simp only; omega, by simp only; omega, fun h => absurd hk h, w.name, w.sort, w.lev, w.few, w.nar, fun a ha => by have := w.noargs hk; simp only at ha; rw [this] at ha; cases ha⟩
theorem ziq {M : Nat} {vs : List Trm} (hvs : ∀ v ∈ vs, dpT v ≤ M) (t : Trm) (d : Int) : dpT (opnT vs t d) ≤ dpT t + M := by
  refine zs0 (fun d v hk => ?_) t d
  have hpos : 1 ≤ dpT v := by rw [z4v]; omega
  unfold opnV
  split
  · omega
  · split
    · rename_i h1 h2
      have hi : vs.length - 1 - (v.n - d).toNat < vs.length := by omega
      rw [List.getD_eq_getElem?_getD, List.getElem?_eq_getElem hi]
      have := zio (by_ := d) (vs[vs.length - 1 - (v.n - d).toNat]) 0
      have := hvs _ (List.getElem_mem hi)
      simp only [Option.getD_some]; omega
    · simp [z4v]
mutual
theorem zeq (by_ : List Lvl) : ∀ t : Trm, dpT (lvsT by_ t) = dpT t
  | ⟨k, n, s, ls, l⟩ => by simp only [lvsT, dpT]; rw [zs1 by_ l]
theorem zs1 (by_ : List Lvl) : ∀ l : List Trm, dpTs (lvsTs by_ l) = dpTs l
  | [] => rfl
  | a :: r => by simp only [lvsTs, dpTs]; rw [zeq by_ a, zs1 by_ r]
end
theorem z1f {b : Int} (hb : 0 ≤ b) {f a : Trm} (hf : wfT b f = true) (ha : wfT b a = true) : wfT b (mkA f a) = true := by
  refine z6d ⟨by simp [mkA, argF], by simp [mkA], by simpa [mkA] using hb, by simp [mkA], by simp [mkA], by simp [mkA], by simp [mkA], by simp [mkA], by simp [mkA], fun x hx => ?_⟩
  simp only [mkA, List.mem_cons, List.not_mem_nil, or_false] at hx
  rcases hx with rfl | rfl
  · exact hf
  · exact ha
theorem zs2 {b : Int} (hb : 0 ≤ b) : ∀ {l : List Trm} {t : Trm}, wfT b t = true → (∀ a ∈ l, wfT b a = true) → wfT b (appT t l) = true
  | [], t, ht, _ => ht
  | a :: r, t, ht, hl => zs2 hb (l := r) (z1f hb ht (hl a (by simp))) fun x hx => hl x (by simp [hx])
theorem zs3 {M : Nat} : ∀ {l : List Trm} {t : Trm}, (∀ a ∈ l, dpT a ≤ M) → dpT (appT t l) ≤ max (dpT t) M + l.length
  | [], t, _ => by simp [appT]; omega
  | a :: r, t, hl => by
    have h1 := zs3 (M := M) (l := r) (t := mkA t a) fun x hx => hl x (by simp [hx])
    have h2 : dpT (mkA t a) ≤ max (dpT t) M + 1 := by
      have := hl a (by simp)
      simp only [mkA, dpT, dpTs]; omega
    simp only [appT, List.length_cons]; omega
mutual
def occT : Trm → Int → Nat
  | ⟨k, n, s, ls, l⟩, i => if k = 0 then (if n = i then 1 else 0) else occTs k l 0 i
def occTs (k : Int) : List Trm → Int → Int → Nat
  | [], _, _ => 0
  | a :: r, j, i => occT a (i + bndF k j) + occTs k r (j + 1) i
end
mutual
theorem zs4 {g : Int → Trm → Trm} (h : ∀ d v, v.kind = 0 → sizT (g d v) = sizT v) : ∀ (t : Trm) (d : Int), sizT (trvT g t d) = sizT t
  | ⟨k, n, s, ls, l⟩, d => by
    simp only [trvT]
    split
    · rename_i hk; exact h d _ hk
    · simp only [sizT]; rw [zn2 h k l 0 d]
theorem zn2 {g : Int → Trm → Trm} (h : ∀ d v, v.kind = 0 → sizT (g d v) = sizT v) (k : Int) : ∀ (l : List Trm) (i d : Int), sizTs (trvTs g k l i d) = sizTs l
  | [], _, _ => rfl
  | a :: r, i, d => by simp only [trvTs, sizTs]; rw [zs4 h a, zn2 h k r]
end
theorem zkx (by_ : Int) (t : Trm) (d : Int) : sizT (lftT by_ t d) = sizT t := zs4 (fun d v hk => by unfold lftV; split <;> simp [z5e]) t d
mutual
theorem zs5 {b : Int} (v : Trm) : ∀ (t : Trm) (d : Int), wfT b t = true → (sizT (opnT [v] t d) : Int) = sizT t + occT t d * ((sizT v : Int) - 1)
  | ⟨k, n, s, ls, l⟩, d, hw => by
    by_cases hk : k = 0
    · have hv := (zg hw).var_args hk
      simp only [Trm.mk.injEq] at hv
      obtain ⟨_, _, hs, hls, hl⟩ := hv
      subst hk hs hls hl
      simp only [opnT, trvT, if_true, opnV, occT]
      by_cases h1 : n < d
      · rw [if_pos h1, if_neg (by omega)]; simp
      · rw [if_neg h1]
        by_cases h2 : n = d
        · rw [if_pos (by simp; omega), if_pos h2, zkx, show (n - d).toNat = 0 by omega]
          simp [sizT, sizTs]; omega
        · rw [if_neg (by simp; omega), if_neg h2]; simp [sizT]
    · have ih := zn3 v k l 0 d (wfTs_iff.2 (zg hw).sub)
      simp only [opnT, trvT, hk, if_false, sizT, occT]
      push_cast
      rw [ih]; omega
theorem zn3 {b : Int} (v : Trm) (k : Int) : ∀ (l : List Trm) (i d : Int), wfTs b l = true → (sizTs (trvTs (opnV [v]) k l i d) : Int) = sizTs l + occTs k l i d * ((sizT v : Int) - 1)
  | [], _, _, _ => by simp [trvTs, sizTs, occTs]
  | a :: r, i, d, hw => by
    simp only [wfTs, Bool.and_eq_true] at hw
    have h1 := zs5 v a (d + bndF k i) hw.1
    have h2 := zn3 v k r (i + 1) d hw.2
    simp only [opnT] at h1
    simp only [trvTs, sizTs, occTs]
    push_cast
    rw [h1, h2, Int.add_mul]; omega
end
mutual
def cntT (m : Int) : Trm → Int → Int → Int → Int × Int
  | ⟨k, n, s, ls, l⟩, i, p, u => if p + 1 > m then (p + 1, u) else cntTs m k l 0 i (p + 1) (if k = 0 ∧ n = i then u + 1 else u)
def cntTs (m k : Int) : List Trm → Int → Int → Int → Int → Int × Int
  | [], _, _, p, u => (p, u)
  | a :: r, j, i, p, u => if (cntT m a (i + bndF k j) p u).1 > m then cntT m a (i + bndF k j) p u else cntTs m k r (j + 1) i (cntT m a (i + bndF k j) p u).1 (cntT m a (i + bndF k j) p u).2
end
theorem zxe (m : Int) (t : Trm) (i p u : Int) : cntT m t i p u = if p + 1 > m then (p + 1, u) else cntTs m t.kind t.args 0 i (p + 1) (if t.kind = 0 ∧ t.n = i then u + 1 else u) := by cases t; rfl
theorem zir (m k : Int) : ∀ (l q : List Trm) (j i p u : Int), (cntTs m k l j i p u).1 ≤ m → cntTs m k (l ++ q) j i p u = cntTs m k q (j + l.length) i (cntTs m k l j i p u).1 (cntTs m k l j i p u).2
  | [], q, j, i, p, u, _ => by simp [cntTs]
  | a :: r, q, j, i, p, u, h => by
    simp only [List.cons_append, cntTs] at h ⊢
    split
    · rename_i hc; rw [if_pos hc] at h; omega
    · rename_i hc
      rw [if_neg hc] at h
      rw [zir m k r q _ _ _ _ h]
      simp only [List.length_cons]
      rw [show j + 1 + (r.length : Int) = j + (↑(r.length + 1) : Int) by push_cast; omega]
mutual
theorem zgd {b : Int} (m : Int) : ∀ (t : Trm) (i p u : Int), wfT b t = true → p ≤ m → (p + sizT t ≤ m → cntT m t i p u = (p + sizT t, u + occT t i)) ∧ (p + sizT t > m → (cntT m t i p u).1 > m)
  | ⟨k, n, s, ls, l⟩, i, p, u, hw, hp => by
    simp only [cntT, sizT]
    by_cases h1 : p + 1 > m
    · rw [if_pos h1]
      exact ⟨fun h => by push_cast at h; omega, fun _ => h1⟩
    · rw [if_neg h1]
      have ih := zis m k l 0 i (p + 1) (if k = 0 ∧ n = i then u + 1 else u) (wfTs_iff.2 (zg hw).sub) (by omega)
      refine ⟨fun h => ?_, fun h => ih.2 (by push_cast at h; omega)⟩
      rw [ih.1 (by push_cast at h; omega)]
      simp only [occT]
      by_cases hk : k = 0
      · have hv := (zg hw).noargs hk
        simp only at hv
        subst hv hk
        by_cases hn : n = i <;> simp [hn, occTs, sizTs]
      · simp [hk]; omega
theorem zis {b : Int} (m k : Int) : ∀ (l : List Trm) (j i p u : Int), wfTs b l = true → p ≤ m → (p + sizTs l ≤ m → cntTs m k l j i p u = (p + sizTs l, u + occTs k l j i)) ∧ (p + sizTs l > m → (cntTs m k l j i p u).1 > m)
  | [], j, i, p, u, _, hp => by simp only [cntTs, sizTs, occTs]; exact ⟨fun _ => by simp, fun h => by simp at h; omega⟩
  | a :: r, j, i, p, u, hw, hp => by
    simp only [wfTs, Bool.and_eq_true] at hw
    have h1 := zgd m a (i + bndF k j) p u hw.1 hp
    simp only [cntTs, sizTs, occTs]
    by_cases hc : p + sizT a ≤ m
    · rw [h1.1 hc, if_neg (by simp only; omega)]
      have h2 := zis m k r (j + 1) i (p + sizT a) (u + occT a (i + bndF k j)) hw.2 hc
      refine ⟨fun h => ?_, fun h => h2.2 (by push_cast at h; omega)⟩
      simp only
      rw [h2.1 (by push_cast at h; omega)]
      push_cast; congr 1 <;> omega
    · have h3 := h1.2 (by omega)
      rw [if_pos h3]
      exact ⟨fun h => by push_cast at h; omega, fun _ => h3⟩
end
structure Gd (t : Trm) : Prop where
  w : wfT 1099511627776 t = true
  d : dpT t ≤ 268435456
def gdT (t : Trm) : Bool := wfT 1099511627776 t && decide (dpT t ≤ 268435456)
theorem gdT_iff {t : Trm} : gdT t = true ↔ Gd t := by
  simp only [gdT, Bool.and_eq_true, decide_eq_true_eq]; exact ⟨fun h => ⟨h.1, h.2⟩, fun h => ⟨h.w, h.d⟩⟩
theorem Gd.sub {t a : Trm} (h : Gd t) (ha : a ∈ t.args) : Gd a := ⟨(zg h.w).sub a ha, by have := zy ha; have := h.d; omega⟩
theorem zT_gd : Gd zT := ⟨rfl, by decide⟩
theorem Gd.spn : ∀ (t : Trm) (acc : List Trm), Gd t → (∀ a ∈ acc, Gd a) → Gd (spnT t acc).1 ∧ (∀ a ∈ (spnT t acc).2, Gd a) ∧ (spnT t acc).2.length + dpT (spnT t acc).1 ≤ acc.length + dpT t
  | ⟨k, n, s, ls, l⟩, acc, h, ha => by
    rw [spnT.eq_def]
    simp only
    split
    · rename_i hk
      match l, h with
      | [f, a], h =>
        have hf : Gd f := h.sub (by simp)
        have := Gd.spn f (a :: acc) hf (fun x hx => by rcases List.mem_cons.1 hx with rfl | hx; exact h.sub (by simp); exact ha x hx)
        refine ⟨this.1, this.2.1, Nat.le_trans this.2.2 ?_⟩
        have := zy (t := ⟨k, n, s, ls, [f, a]⟩) (a := f) (by simp)
        simp; omega
      | [], h => exact ⟨h, ha, by simp⟩
      | [_], h => exact ⟨h, ha, by simp⟩
      | _ :: _ :: _ :: _, h => exact ⟨h, ha, by simp⟩
    · exact ⟨h, ha, by simp⟩
termination_by t => SizeOf.sizeOf t
theorem Gd.head {t : Trm} (h : Gd t) : Gd (headT t) := (Gd.spn t [] h (by simp)).1
theorem Gd.args {t : Trm} (h : Gd t) : (∀ a ∈ argsT t, Gd a) ∧ (argsT t).length ≤ 268435456 := by
  have := Gd.spn t [] h (by simp)
  refine ⟨this.2.1, ?_⟩
  have h2 := this.2.2
  have := h.d
  unfold argsT; simp at h2; omega
theorem Gd.getD {l : List Trm} (h : ∀ a ∈ l, Gd a) (i : Nat) : Gd (l.getD i zT) := by
  rw [List.getD_eq_getElem?_getD]
  cases hl : l[i]? with
  | none => exact zT_gd
  | some x => exact h x (List.mem_of_getElem? hl)
mutual
theorem zs6 : ∀ (t : Trm) (i : Int), occT t i ≤ sizT t
  | ⟨k, n, s, ls, l⟩, i => by
    simp only [occT, sizT]
    have := zs7 k l 0 i
    split
    · split <;> omega
    · omega
theorem zs7 (k : Int) : ∀ (l : List Trm) (j i : Int), occTs k l j i ≤ sizTs l
  | [], _, _ => Nat.le_refl _
  | a :: r, j, i => by simp only [occTs, sizTs]; have := zs6 a (i + bndF k j); have := zs7 k r (j + 1) i; omega
end
theorem zs8 {b : Int} {m : Int} {t : Trm} {i p u : Int} (hw : wfT b t = true) (h0 : 0 ≤ p) (h1 : p ≤ m) (h2 : 0 ≤ u) (h3 : u ≤ p) (hc : (cntT m t i p u).1 ≤ m) : 0 ≤ (cntT m t i p u).1 ∧ 0 ≤ (cntT m t i p u).2 ∧ (cntT m t i p u).2 ≤ (cntT m t i p u).1 := by
  have hs := zgd m t i p u hw h1
  by_cases h : p + sizT t ≤ m
  · have := zs6 t i
    rw [hs.1 h]; simp only; omega
  · have := hs.2 (by omega); omega
theorem zn4 : ∀ (l : List Trm) (t : Trm), sizT t ≤ sizT (appT t l)
  | [], t => Nat.le_refl _
  | a :: r, t => by
    have := zn4 r (mkA t a)
    have h2 : sizT (mkA t a) = sizT t + sizT a + 1 := by simp [mkA, sizT, sizTs]
    simp only [appT]; omega
def mdF (c f : Int) (u : Trm) : Option OR :=
  if f ≤ 0 then some (zT, false, f, 11)
  else if gdT u = true then (if fitsT c u = true then some (u, true, f - 1, 0) else some (zT, false, f - 1, 12))
  else none
def onF (ds : List Dcl) (c : Int) (wh : Trm → Int → Option WR) (t : Trm) (f : Int) : Option OR :=
  if (headT t).kind = 4 ∧ argsT t ≠ [] then mdF c f (appT (opnT [(argsT t).getD 0 zT] ((headT t).args.getD 1 zT) 0) ((argsT t).drop 1))
  else if (headT t).kind = 6 then mdF c f (appT (opnT [(headT t).args.getD 1 zT] ((headT t).args.getD 2 zT) 0) (argsT t))
  else if (headT t).kind = 2 then (match findD ds (headT t).name with
    | none => some (t, false, f, 0)
    | some d => if d.kind = 2 ∧ d.params = (headT t).levels.length then mdF c f (appT (lvsT (headT t).levels d.value) (argsT t))
      else (match z1v ds (headT t) with
        | none => some (t, false, f, 0)
        | some r => if r.major < (argsT t).length then (match wh ((argsT t).getD r.major zT) f with
          | none => none
          | some (m, f', e) => if e ≠ 0 then some (zT, false, f', e) else (match iotaF ds t m with
            | some u => mdF c f' u
            | none => some (t, false, f', 0))) else some (t, false, f, 0)))
  else some (t, false, f, 0)
def whF (ds : List Dcl) (c : Int) : Nat → Trm → Int → Option WR
  | 0, _, _ => none
  | g + 1, t, f => match onF ds c (whF ds c g) t f with
    | none => none
    | some (u, did, f', e) => if e ≠ 0 then some (zT, f', e) else if did = true then whF ds c g u f' else some (u, f', 0)
end Go.Ab
namespace Go.Ab.YtplnabidakjhiaaGreat
open Go Go.RowKit Go.Ab Go.Proofs
theorem zer (t : Trm) (most : Int) (hm : most ≤ 1000000) (b : Int) : ∀ (i p u : Int), 0 ≤ i → i + dpT t ≤ 1000000000000 → 0 ≤ p → p ≤ most → 0 ≤ u → u ≤ p → wfT b t = true →
    Con Tryz.prog 206 [tv t, .p (I i), .ptr 1000 0, .ptr 1001 0, .p (I most)] [(1001, .ce 3 [.p (I u)]), (1000, .ce 3 [.p (I p)])] (fun r o => r = .tp [] ∧ o = [(1001, .ce 3 [.p (I (cntT most t i p u).2)]), (1000, .ce 3 [.p (I (cntT most t i p u).1)])]) := by
  intro i p u hi0 hi1 hp0 hp1 hu0 hu1 hw
  have ih : ∀ a ∈ t.args, ∀ (i p u : Int), 0 ≤ i → i + dpT a ≤ 1000000000000 → 0 ≤ p → p ≤ most → 0 ≤ u → u ≤ p → Con Tryz.prog 206 [tv a, .p (I i), .ptr 1000 0, .ptr 1001 0, .p (I most)] [(1001, .ce 3 [.p (I u)]), (1000, .ce 3 [.p (I p)])] (fun r o => r = .tp [] ∧ o = [(1001, .ce 3 [.p (I (cntT most a i p u).2)]), (1000, .ce 3 [.p (I (cntT most a i p u).1)])]) := fun a ha i p u g0 g1 g2 g3 g4 g5 => zer a most hm b i p u g0 g1 g2 g3 g4 g5 ((zg hw).sub a ha)
  have he := zxe most t i p u
  have hel := zd t.args
  have hfew := (zg hw).few_args
  refine cv [] [1000003] [1000,1001] Tryz.func206 61 Tryz.ntmps206 rfl rfl fun cx hE => And.intro (by omega) (brS (fun h1 => ?_) (fun h1 => ?_))
  · rw [if_pos (by omega)] at he; exact ⟨rfl, by rw [he]⟩
  rw [if_neg (by omega)] at he
  refine join1 (A := Unit) (fun _ => []) (fun _ => [(1001, .ce 3 [.p (I (if t.kind = 0 ∧ t.n = i then u + 1 else u))])]) (fun _ => True) [] [1001] [] hE rfl rfl rfl ?_ (fun _ _ => ?_)
  · refine brS (fun h2 => brS (fun h3 => And.intro (by omega) ?_) (fun h3 => ?_)) (fun h2 => ?_)
    · exact ⟨(), trivial, leX.same ⟨by rw [if_pos ⟨h2, h3⟩], rfl, rfl, trivial⟩⟩
    · exact ⟨(), trivial, leX.same ⟨by rw [if_neg (fun h => h3 h.2)], rfl, rfl, trivial⟩⟩
    · exact ⟨(), trivial, leX.same ⟨by rw [if_neg (fun h => h2 h.1)], rfl, rfl, trivial⟩⟩
  · refine fun _ => ?_
    generalize hu' : (if t.kind = 0 ∧ t.n = i then u + 1 else u) = u' at he
    have hu2 : 0 ≤ u' ∧ u' ≤ p + 1 := by subst hu'; split <;> omega
    refine loopP t.args (fun q => [(39, .p (I q.length))]) (fun q => [(1001, .ce 3 [.p (I (cntTs most t.kind q 0 i (p + 1) u').2)]), (1000, .ce 3 [.p (I (cntTs most t.kind q 0 i (p + 1) u').1)])]) (fun q => (cntTs most t.kind q 0 i (p + 1) u').1 ≤ most ∧ 0 ≤ (cntTs most t.kind q 0 i (p + 1) u').1 ∧ 0 ≤ (cntTs most t.kind q 0 i (p + 1) u').2 ∧ (cntTs most t.kind q 0 i (p + 1) u').2 ≤ (cntTs most t.kind q 0 i (p + 1) u').1) [39] [1000, 1001] hE rfl rfl rfl ⟨Sub.refl _, rfl, rfl, rfl, trivial⟩ ⟨by simp only [cntTs]; omega, by simp only [cntTs]; omega, by simp only [cntTs]; omega, by simp only [cntTs]; omega⟩ (fun hq => brTe ⟨rfl, by rw [he]⟩) (fun q a s hq hinv => ?_)
    obtain ⟨g0, g1, g2, g3⟩ := hinv
    have hlt := zj hq
    have hbd := z5x t.kind q.length
    have hda := zy (zf hq)
    have hap := fun x => zir most t.kind q x 0 i (p + 1) u' g0
    have hb := zs8 (i := i + bndF t.kind q.length) ((zg hw).sub a (zf hq)) g1 g0 g2 g3
    generalize hP : cntTs most t.kind q 0 i (p + 1) u' = P at g0 g1 g2 g3 hap hb
    obtain ⟨P1, P2⟩ := P
    simp only at g0 g1 g2 g3 hap hb
    have hia := ih a (zf hq) (i + bndF t.kind q.length) P1 P2 (by omega) (by omega) g1 g0 g2 g3
    generalize hR : cntT most a (i + bndF t.kind q.length) P1 P2 = R at hia hb
    obtain ⟨R1, R2⟩ := R
    have e0 : cntTs most t.kind t.args 0 i (p + 1) u' = if R1 > most then (R1, R2) else cntTs most t.kind s (q.length + 1) i R1 R2 := by
      rw [hq, hap]; simp only [cntTs, Int.zero_add, hR]
    have e1 : cntTs most t.kind (q ++ [a]) 0 i (p + 1) u' = (R1, R2) := by
      rw [hap]; simp only [cntTs, Int.zero_add, hR]; split <;> rfl
    refine brT' hq (idxT hq (call0 (zaf _ _) (And.intro (by omega) (callM [1001, 1000] hia rfl rfl (za _) rfl (brS (fun h4 => ?_) (fun h4 => And.intro (by omega) ?_))))))
    · rw [e0, if_pos h4] at he
      exact ⟨rfl, by rw [he]⟩
    · refine ⟨?_, Sub.i (by simp), by rw [e1], by rw [e1], rfl, trivial⟩
      rw [e1]; exact ⟨by omega, hb (by simp only; omega)⟩
termination_by SizeOf.sizeOf t
decreasing_by exact Trm.lt ha
abbrev runO (ds : List Dcl) (pv ov : Nat) (pl : Option (List (ByteArray × Int))) (f c : Int) : Obs := (1000, .ce 85 [.ptr 1004 0, .p (I f), .p (I c)]) :: envQ 1004 [] ds pv pl ov (odO ds)
def stE (f : Int) : Int := if f ≤ 0 then 11 else 0
def stM (f : Int) : Int := if f ≤ 0 then f else f - 1
def fitV (c : Int) (t : Trm) : AV := .tp [tv (if fitsT c t = true then t else zT), .p (B (fitsT c t)), .p (I (if fitsT c t = true then 0 else 12))]
structure Mt (f c : Int) : Prop where
  f0 : -1000000000 ≤ f
  f1 : f ≤ 1000000000
  c0 : -1000000 ≤ c
  c1 : c ≤ 1000000
section
variable (ds : List Dcl) (pv ov : Nat) (pl : Option (List (ByteArray × Int))) (f c : Int) (hm : Mt f c)
include hm
theorem zda : Con Tryz.prog 113 [.ptr 1000 0] (runO ds pv ov pl f c) (fun r o => r = .p (I (stE f)) ∧ o = runO ds pv ov pl (stM f) c) := by
  have := hm.f0; have := hm.f1
  exact cv [] [] [1000,1004,1005,1006,1007] Tryz.func113 18 Tryz.ntmps113 rfl rfl fun cx hE => call0 (zr9 f c (by omega) (by omega)) ⟨rfl, rfl⟩
theorem zdb (t : Trm) : Con Tryz.prog 114 [.ptr 1000 0, tv t] (runO ds pv ov pl f c) (fun r o => r = fitV c t ∧ o = runO ds pv ov pl f c) := by
  refine cv [] [] [1000,1004,1005,1006,1007] Tryz.func114 19 Tryz.ntmps114 rfl rfl fun cx hE => call0 (zrb f c t hm.c0 hm.c1) (brS (fun h => ⟨?_, rfl⟩) (fun h => ⟨?_, rfl⟩))
  · have hf : ¬ fitsT c t = true := fun hf => h (by unfold fitsE; rw [if_pos hf])
    unfold fitV fitsE; rw [if_neg hf, if_neg hf, Bool.eq_false_iff.2 hf]; rfl
  · have hf : fitsT c t = true := Classical.byContradiction fun hf => h (by unfold fitsE; rw [if_neg hf]; decide)
    unfold fitV; rw [if_pos hf, if_pos hf, hf]; rfl
set_option maxRecDepth 20000 in
set_option maxHeartbeats 4000000 in
theorem zum (body v : Trm) (hb : Gd body) (hv : Gd v) (args : List Trm) (hal : args.length ≤ 1000000000) : Con Tryz.prog 173 [.ptr 1000 0, tv body, tv v, .p (.sl 5 (encTs args))] (runO ds pv ov pl f c) (fun r o => r = fitV c (appT (opnT [v] body 0) args) ∧ o = runO ds pv ov pl f c) := by
  have c0 := hm.c0; have c1 := hm.c1
  have hd := hb.d
  have hs := zs5 v body 0 hb.w
  have hocc := zs6 body 0
  have hsv := zfw v
  have hcs := zgd (max c 0) body 0 0 0 hb.w (by omega)
  have hcb := zs8 (i := 0) (p := 0) (u := 0) (m := max c 0) hb.w (by omega) (by omega) (by omega) (by omega)
  have hcon := zer body (max c 0) (by omega) 1099511627776 0 0 0 (by omega) (by omega) (by omega) (by omega) (by omega) (by omega) hb.w
  generalize hR : cntT (max c 0) body 0 0 0 = R at hcs hcon hcb
  obtain ⟨R1, R2⟩ := R
  simp only at hcs hcon hcb
  have hsa : (sizT (opnT [v] body 0) : Int) ≤ sizT (appT (opnT [v] body 0) args) := by exact_mod_cast zn4 args (opnT [v] body 0)
  have hbig : ∀ x : Int, x > max c 0 → x ≤ (sizT (opnT [v] body 0) : Int) → fitV c (appT (opnT [v] body 0) args) = .tp [tv zT, .p (B false), .p (I 12)] := fun x h1 h2 => by
    have : ¬ fitsT c (appT (opnT [v] body 0) args) = true := by unfold fitsT; simp; intro h; omega
    unfold fitV; rw [if_neg this, if_neg this, Bool.eq_false_iff.2 this]
  refine cv [] [] [1000,1004,1005,1006,1007] Tryz.func173 49 Tryz.ntmps173 rfl rfl fun cx hE => callX [12, 13] ((hcon.sw 1000 12).sw 1001 13) rfl rfl (za _) fun r o ⟨r1, o1, ⟨r2, o2, ⟨e1, e2⟩, e3, e4⟩, e5, e6⟩ => ?_
  subst e1 e2 e3 e4 e5 e6
  have hocc0 : 0 ≤ (occT body 0 : Int) * ((sizT v : Int) - 1) := Int.mul_nonneg (by omega) (by omega)
  refine brS (fun h => ?_) (fun h => ?_)
  · have h1 : (sizT body : Int) > max c 0 := Classical.byContradiction fun hn => by
      have := hcs.1 (by omega); rw [Prod.mk.injEq] at this; omega
    exact ⟨(hbig _ h1 (by omega)).symm, rfl⟩
  · have h1 : (sizT body : Int) ≤ max c 0 := Classical.byContradiction fun hn => by
      have := hcs.2 (by omega); omega
    have e := hcs.1 (by omega)
    rw [Prod.mk.injEq] at e
    obtain ⟨e1, e2⟩ := e
    have e2' : R2 = occT body 0 := by omega
    have hR2 : 0 ≤ R2 ∧ R2 ≤ 1000000 := by omega
    have hms : 1 ≤ mSz v (max c 0) ∧ mSz v (max c 0) ≤ 1000001 := by unfold mSz; omega
    have hml : 0 ≤ R2 * (mSz v (max c 0) - 1) ∧ R2 * (mSz v (max c 0) - 1) ≤ 1000000 * 1000000 := ⟨Int.mul_nonneg hR2.1 (by omega), Int.mul_le_mul hR2.2 (by omega) (by omega) (by omega)⟩
    refine call0 (zi0 v (max c 0) (by omega) (by omega)) (And.intro (by omega) (And.intro (by omega) (And.intro (by omega) (brS (fun h2 => ?_) (fun h2 => ?_)))))
    · refine ⟨(hbig ((sizT body : Int) + occT body 0 * ((sizT v : Int) - 1)) ?_ (by omega)).symm, rfl⟩
      by_cases hv2 : (sizT v : Int) ≤ max c 0
      · have : mSz v (max c 0) = sizT v := by unfold mSz; omega
        rw [this, e2'] at h2; omega
      · have : mSz v (max c 0) = max c 0 + 1 := by unfold mSz; omega
        rw [this] at h2
        have h3 : 1 ≤ (occT body 0 : Int) := Classical.byContradiction fun hn => by
          have : R2 = 0 := by omega
          rw [this, Int.zero_mul] at h2; omega
        have h4 : (1 : Int) * ((sizT v : Int) - 1) ≤ occT body 0 * ((sizT v : Int) - 1) := Int.mul_le_mul_of_nonneg_right h3 (by omega)
        omega
    · have hdp := ziq (M := 268435456) (vs := [v]) (fun x hx => by simp at hx; subst hx; exact hv.d) body 0
      refine call0 (zul 1099511627776 (by omega) v hv.w (by have := hv.d; omega) body (by omega) hb.w) (call0 (z2u _ args (by omega)) (call1 [1000, 1004, 1005, 1006, 1007] (zdb ds pv ov pl f c hm _) rfl rfl (za _) ⟨rfl, rfl⟩))
def mdV (c f : Int) (u : Trm) : AV := if f ≤ 0 then .tp [tv zT, .p (B false), .p (I 11)] else fitV c u
theorem zs9 (body v : Trm) (hb : Gd body) (hv : Gd v) (args : List Trm) (hal : args.length ≤ 1000000000) : Con Tryz.prog 111 [.ptr 1000 0, tv body, tv v, .p (.sl 5 (encTs args))] (runO ds pv ov pl f c) (fun r o => r = mdV c f (appT (opnT [v] body 0) args) ∧ o = runO ds pv ov pl (stM f) c) := by
  refine cv [] [] [1000,1004,1005,1006,1007] Tryz.func111 26 Tryz.ntmps111 rfl rfl fun cx hE => call1 [1000, 1004, 1005, 1006, 1007] (zda ds pv ov pl f c hm) rfl rfl (za _) (brS (fun h => ⟨?_, rfl⟩) (fun h => ?_))
  · have hf : f ≤ 0 := Classical.byContradiction fun hn => h (by unfold stE; rw [if_neg hn])
    unfold mdV stE; rw [if_pos hf, if_pos hf]; rfl
  · have hf : ¬ f ≤ 0 := fun hn => h (by unfold stE; rw [if_pos hn]; decide)
    have := hm.f1
    have e : stM f = f - 1 := by unfold stM; rw [if_neg hf]
    unfold mdV; rw [if_neg hf]
    refine call1 [1000, 1004, 1005, 1006, 1007] (zum ds pv ov pl (stM f) c ⟨by omega, by omega, hm.c0, hm.c1⟩ body v hb hv args hal) rfl rfl (za _) ⟨rfl, rfl⟩
end
theorem zit (e : EnvV) (h : e.OK) (s : ByteArray) : Con Tryz.prog 112 [.ptr 1000 0, .p (St s)] (envO e) (fun r o => r = pdc (zm5 e.all s) ∧ o = envO e) := by
  have ho := EnvV.get_odd h s
  refine cv [] [] [1000, 1001, 1002, 1003] Tryz.func112 21 Tryz.ntmps112 rfl rfl fun cx hE => call1 [1000, 1001, 1002, 1003] (ztv e h s) rfl rfl (za _) ?_
  unfold zm5
  cases hd : findD e.all s with
  | none => exact ⟨rfl, rfl⟩
  | some d =>
    rw [hd] at ho
    refine And.intro (by omega) (brS (fun h1 => ⟨?_, rfl⟩) (fun h1 => ⟨?_, rfl⟩))
    · have := ho.1 h1 d rfl
      simp [this, pdc]
    · have : ¬ Go.Ab.okD d = true := fun hk => h1 (ho.2 fun d' e' => by cases e'; exact hk)
      simp [this]; rfl
def okE (d : Dcl) : Bool := okT d.type && (okT d.value && (decide (d.ctors.length ≤ 1000) && (d.ctors.all (fun c => okT c.ty && decide (0 ≤ c.name.size)) && (decide (d.name.size ≤ 1000) && decide (-1000000 ≤ d.params ∧ d.params ≤ 1000000 ∧ -1000000 ≤ d.count ∧ d.count ≤ 1000000)))))
theorem zv8 {d : Dcl} (h : Go.Ab.YtplnabidakjhiaaGreat.okD d = true) : okE d = true := by
  simp only [Go.Ab.YtplnabidakjhiaaGreat.okD, Bool.and_eq_true, decide_eq_true_eq, List.all_eq_true] at h
  simp only [okE, Bool.and_eq_true, decide_eq_true_eq, List.all_eq_true]
  exact ⟨h.1, h.2.1, h.2.2.1, fun c hc => ⟨(h.2.2.2.1 c hc).1, Nat.zero_le _⟩, h.2.2.2.2⟩
theorem zv9 {d : Dcl} (h : okE d = true) : CpD d := by
  simp only [okE, Bool.and_eq_true, decide_eq_true_eq, List.all_eq_true] at h
  exact ⟨z5k h.1, z5k h.2.1, by have := h.2.2.1; omega, fun c hc => z5k (h.2.2.2.1 c hc).1⟩
structure EnvG (ds : List Dcl) (pl : Option (List (ByteArray × Int))) : Prop where
  p : EnP [] ds pl
  s : ∀ d ∈ ds, Go.Ab.okD d = true
  g : ∀ d ∈ ds, okE d = true
theorem z3a {l : List Dcl} {s : ByteArray} {d : Dcl} (h : findD l s = some d) : d ∈ l := List.mem_of_find?_eq_some h
theorem zag (ds : List Dcl) (pv ov : Nat) (pl : Option (List (ByteArray × Int))) (h : EnvG ds pl) (s : ByteArray) : Con Tryz.prog 112 [.ptr 1004 0, .p (St s)] (envQ 1004 [] ds pv pl ov (odO ds)) (fun r o => r = pdc (findD ds s) ∧ o = envQ 1004 [] ds pv pl ov (odO ds)) := by
  have hs : zm5 ds s = findD ds s := by
    unfold zm5
    cases hd : findD ds s with
    | none => rfl
    | some d => simp [h.s d (z3a hd)]
  refine Con.atQ 1004 (.inr (by decide)) (fun ρ => by unfold pdc; split <;> rfl) (fun ρ => rfl) ?_
  rcases h.p.pl with hp | ⟨hp, hn⟩
  · have hc := zit ⟨[], ds, true, pv, ov⟩ ⟨h.p.nd, .inl rfl, h.p.nar, h.p.len, h.p.nm⟩ s
    simp only [envO, EnvV.all, EnvV.place, EnvV.odd, List.nil_append, if_true] at hc
    rw [hs] at hc
    subst hp
    exact hc
  · have hc := zit ⟨[], ds, false, pv, ov⟩ ⟨h.p.nd, .inr hn, h.p.nar, h.p.len, h.p.nm⟩ s
    simp only [envO, EnvV.all, EnvV.place, EnvV.odd, List.nil_append] at hc
    rw [hs] at hc
    subst hp
    exact hc
theorem zn5 (t : Trm) (hd : dpT t ≤ 1000000000000) : PCon Tryz.prog 125 [tv t] (.p (I (piL t).length)) := by
  refine cv [] [] [] Tryz.func125 20 Tryz.ntmps125 rfl rfl fun cx hE => ?_
  refine loop2 (fun (n : Nat) (u : Trm) => [(3, .p (I n))]) (fun n u => [(1, ceT u)]) (fun n u => n + (piL u).length = (piL t).length ∧ n + dpT u ≤ dpT t) (fun n u => dpT u) 0 t [3] [1] hE rfl rfl rfl ⟨Sub.refl _, rfl, trivial⟩ ⟨by simp, by simp⟩ fun n u ⟨g1, g2⟩ => ?_
  have hel := zd u.args
  refine brS (fun hk => fun _ => brS (fun hl => ?_) (fun hl => ?_)) (fun hk => ?_)
  · obtain ⟨x, y, ha⟩ := z4p (l := u.args) (by omega)
    have hy := zy (t := u) (a := y) (by rw [ha]; simp)
    have e1 : (encTs u.args)[1]? = some (rowT y) := by rw [ha]; simp [encTs, z3t]
    have hp := (z2b hk ha).1
    rw [hp] at g1
    refine idxN (i := 1) e1 (And.intro (by omega) ⟨n + 1, y, ⟨by simp at g1; omega, by omega⟩, by omega, Sub.i (by simp), rfl, trivial⟩)
  · have hp := (z2s (u := u) (by omega)).1
    rw [hp] at g1
    exact ⟨I_eq (by simp at g1; omega), rfl⟩
  · have hp := (z2s (u := u) (by omega)).1
    rw [hp] at g1
    exact ⟨I_eq (by simp at g1; omega), rfl⟩
theorem zun (t : Trm) : PCon Tryz.prog 129 [tv t] (tv (piE t)) := by
  refine cv [] [] [] Tryz.func129 17 Tryz.ntmps129 rfl rfl fun cx hE => ?_
  refine loop1 (fun (u : Trm) => []) (fun u => [(1, ceT u)]) (fun u => piE u = piE t) (fun u => dpT u) t [] [1] hE rfl rfl rfl ⟨rfl, rfl, trivial⟩ rfl fun u g1 => ?_
  have hel := zd u.args
  refine brS (fun hk => fun _ => brS (fun hl => ?_) (fun hl => ?_)) (fun hk => ?_)
  · obtain ⟨x, y, ha⟩ := z4p (l := u.args) (by omega)
    have hy := zy (t := u) (a := y) (by rw [ha]; simp)
    have e1 : (encTs u.args)[1]? = some (rowT y) := by rw [ha]; simp [encTs, z3t]
    have hp := (z2b hk ha).2.1
    rw [hp] at g1
    refine idxN (i := 1) e1 ⟨y, g1, by omega, rfl, rfl, trivial⟩
  · have hp := (z2s (u := u) (by omega)).2.1
    rw [← g1, hp]
    exact ⟨rfl, rfl⟩
  · have hp := (z2s (u := u) (by omega)).2.1
    rw [← g1, hp]
    exact ⟨rfl, rfl⟩
def useL (h : Trm) (args : List Trm) (f : Dcl) (p m : Int) : List AV := [.p (I h.kind), .p (I h.n), .p (St h.name), .p (.sl 3 (encLs h.levels)), .p (.sl 5 (encTs h.args)), .p (.sl 5 (encTs args)), .p (.ip (rowD f)), .p (I p), .p (I m)]
def useZ : List AV := [.p (I 0), .p (I 0), .p (St ⟨#[]⟩), .p (.sl 3 []), .p (.sl 5 []), .p (.sl 5 []), .p (.v (.pointer none)), .p (I 0), .p (I 0)]
def lookF (ds : List Dcl) (t : Trm) : Option RecI := (z1v ds (headT t)).bind fun r => if r.major < (argsT t).length then some r else none
def useRV (t : Trm) : Option RecI → AV
  | some r => .tp [.ag (useL (headT t) (argsT t) r.fam r.p r.major), .p (B true)]
  | none => .tp [.ag useZ, .p (B false)]
set_option maxRecDepth 20000 in
set_option maxHeartbeats 4000000 in
theorem ziu (ds : List Dcl) (pv ov : Nat) (pl : Option (List (ByteArray × Int))) (h : EnvG ds pl) (t : Trm) (hg : Gd t) : Con Tryz.prog 76 [.ptr 1004 0, tv t] (envQ 1004 [] ds pv pl ov (odO ds)) (fun r o => r = useRV t (lookF ds t) ∧ o = envQ 1004 [] ds pv pl ov (odO ds)) := by
  have hd := hg.d
  have hal := hg.args.2
  have hel := zd (argsT t)
  have hll := zr (headT t).levels
  have hlf := (zg hg.head.w).few
  have hno : z1v ds (headT t) = none → useRV t (lookF ds t) = .tp [.ag useZ, .p (B false)] := fun e => by unfold lookF; rw [e]; rfl
  refine cv [] [] [1004,1005,1006,1007] Tryz.func76 113 Tryz.ntmps76 rfl rfl fun cx hE => call0 (z5l 1099511627776 t hg.w (by omega)) (call1 [1004, 1005, 1006, 1007] (zag ds pv ov pl h (headT t).name) rfl rfl (za _) ?_)
  cases hf : findD ds (headT t).name with
  | none =>
    have e : z1v ds (headT t) = none := by unfold z1v; split <;> simp [hf]
    rw [hno e]
    exact brS (fun hk => ⟨rfl, rfl⟩) (fun hk => ⟨rfl, rfl⟩)
  | some d =>
    have hdm := z3a hf
    have hdo := h.g d hdm
    have hir : z1v ds (headT t) = if (headT t).kind = 2 then (if d.kind = 5 ∧ d.params = (headT t).levels.length then (match findD ds d.family with
      | none => none
      | some f => if f.kind = 3 ∧ 0 ≤ f.count ∧ f.count ≤ (piL f.type).length then some ⟨f, f.count.toNat, f.count.toNat + 1 + f.ctors.length + ((piL f.type).length - f.count.toNat)⟩ else none) else none) else none := by
      unfold z1v; rw [hf]; rfl
    refine brS (fun hk => ⟨by rw [hno (by rw [hir, if_neg hk])]; rfl, rfl⟩) (fun hk => brS (fun hk5 => ⟨by rw [hno (by rw [hir, if_pos (by omega), if_neg (fun hc => hk5 hc.1)])]; rfl, rfl⟩) (fun hk5 => brS (fun hp => ⟨by rw [hno (by rw [hir, if_pos (by omega), if_neg (fun hc => hp (by rw [hll, hc.2]))])]; rfl, rfl⟩) (fun hp => ?_)))
    rw [if_pos (by omega), if_pos ⟨by omega, by omega⟩] at hir
    refine call1 [1004, 1005, 1006, 1007] (zag ds pv ov pl h d.family) rfl rfl (za _) ?_
    cases hff : findD ds d.family with
    | none =>
      rw [hff] at hir
      rw [hno hir]
      exact ⟨rfl, rfl⟩
    | some fd =>
      rw [hff] at hir
      simp only at hir
      have hfm := z3a hff
      have hfo := h.g fd hfm
      simp only [okE, Bool.and_eq_true, decide_eq_true_eq, List.all_eq_true] at hfo
      obtain ⟨ho1, ho2, ho3, ho4, ho5, ho6⟩ := hfo
      have hpl := z3w fd.type
      have hfd := (z2j ho1).d
      have hcl : (encCs fd.ctors).length = fd.ctors.length := by simp [encCs]
      refine brS (fun hk3 => ⟨by rw [hno (by rw [hir, if_neg (fun hc => hk3 hc.1)])]; rfl, rfl⟩) (fun hk3 => ?_)
      refine call0 (zn5 fd.type (by omega)) (And.intro (by omega) (And.intro (by omega) (And.intro (by omega) (And.intro (by omega) (brS (fun hc0 => ⟨by rw [hno (by rw [hir, if_neg (fun hc => by omega)])]; rfl, rfl⟩) (fun hc0 => brS (fun hc1 => ⟨by rw [hno (by rw [hir, if_neg (fun hc => by omega)])]; rfl, rfl⟩) (fun hc1 => fun _ => brS (fun hc2 => ⟨?_, rfl⟩) (fun hc2 => ⟨?_, rfl⟩))))))))
      · have hcc : fd.kind = 3 ∧ 0 ≤ fd.count ∧ fd.count ≤ (piL fd.type).length := ⟨by omega, by omega, by omega⟩
        rw [if_pos hcc] at hir
        unfold lookF; rw [hir]
        simp only [Option.bind_some]
        rw [if_neg (by omega)]; rfl
      · have hcc : fd.kind = 3 ∧ 0 ≤ fd.count ∧ fd.count ≤ (piL fd.type).length := ⟨by omega, by omega, by omega⟩
        rw [if_pos hcc] at hir
        unfold lookF; rw [hir]
        simp only [Option.bind_some]
        rw [if_pos (by omega)]
        unfold useRV
        refine congrArg (fun l => AV.tp [.ag l, .p (B true)]) ?_
        unfold useL
        have e1 : fd.count = (fd.count.toNat : Int) := by omega
        have e2 : fd.count + 1 + ((encCs fd.ctors).length : Int) + (((piL fd.type).length : Int) - fd.count) = ((fd.count.toNat + 1 + fd.ctors.length + ((piL fd.type).length - fd.count.toNat) : Nat) : Int) := by omega
        rw [← e2]
        simp only [← e1]
        rfl
end Go.Ab.YtplnabidakjhiaaGreat
set_option linter.unusedVariables false
set_option linter.unusedSimpArgs false
namespace Go.Ab
open Go Go.RowKit
theorem zsa {w : World} {M : Nat → Nat → Prop} {own : Nat → Value} {hw : Nat → Option Nat} {f : Fn} {K : Nat} {v : Value} (h : RepA w M own hw (.fv f [] [.ptr K 0]) v) : ∃ b, v = .func f #[] #[.pointer (some ⟨b, 0, none⟩)] ∧ own K = .pointer (some ⟨b, 0, none⟩) := by
  cases h with
  | fv vf vc hf hc hxf hxc =>
    obtain rfl : vf = [] := List.eq_nil_of_length_eq_zero hf
    obtain ⟨x, rfl⟩ : ∃ x, vc = [x] := by
      match vc, hc with
      | [x], _ => exact ⟨x, rfl⟩
    obtain ⟨b, h1, h2⟩ := (hxc 0 (.ptr K 0) rfl).ptr_inv
    exact ⟨b, by simp at h2; rw [h2], h1⟩
theorem zva {α : Type} : ∀ {l : List α} {n : Nat}, l.length = n → tk n l = some l
  | [], n, h => by subst h; rfl
  | x :: l, n, h => by subst h; simp only [List.length_cons, tk, zva (l := l) rfl]
theorem zvb {w : World} {M : Nat → Nat → Prop} {own : Nat → Value} {hw : Nat → Option Nat} {f : Fn} {v : Value} (h : RepA w M own hw (.fv f [] []) v) : v = .func f #[] #[] := by
  cases h with
  | fv vf vc hf hc hxf hxc =>
    obtain rfl : vf = [] := List.eq_nil_of_length_eq_zero hf
    obtain rfl : vc = [] := List.eq_nil_of_length_eq_zero hc
    rfl
theorem zxf {a : Act} {n d : Nat} {v : Value} (h : a.tmps.size = n) : (a.put (some d) v).tmps.size = n := by simp [Act.put, h]
theorem zp8 {a : Act} {d : Nat} {v : Value} (h : d < a.tmps.size) : (a.put (some d) v).tmps.getD d undef = v := by simp [Act.put, Array.getD_eq_getD_getElem?, h]
theorem z8d {a : Act} {d t : Nat} {v : Value} (h : t ≠ d) : (a.put (some d) v).tmps.getD t undef = a.tmps.getD t undef := by
  simp only [Act.put, Array.getD_eq_getD_getElem?]
  rw [Array.getElem?_setIfInBounds_ne (Ne.symm h)]
end Go.Ab
namespace Go.Ab.YtplnabidakjhiaaGreat
open Go Go.RowKit Go.Ab Go.Proofs
theorem bwTI : TI Tryz.prog 32 5 true := ⟨by kernel_rfl, by kernel_rfl⟩
theorem bwTS : TI Tryz.prog 30 1 false := ⟨by kernel_rfl, by kernel_rfl⟩
theorem bwSI : SI Tryz.prog 30 32 := ⟨by kernel_rfl⟩
theorem zky {op : BinOp} {x y z : Value} {u v : Operand} {sd : List SD} (h : binS op (.int .i64) x y = some (sd, z)) (hs : sdQ sd) : z.oneCell' = true ∧ ∀ w, (do eqGuard op 3 u v x y; binOp op 3 x y : Sem Value).run Tryz.prog w = .ok z w := by
  obtain ⟨e, he, hk⟩ : ∃ e, get tab 3 = some e ∧ e.k = .int .i64 := ⟨_, rfl, rfl⟩
  exact z9x (zp htab he) (by rw [hk]; exact h) hs
abbrev bwF : Nat := 214
section
variable {cx : Cx} {n : Nat} {s : S} {a : Act} {w : World} {own : Nat → Value}
structure Gh (cx : Cx) (n : Nat) (regs : List (Nat × AV)) (o : Obs) (a : Act) (D : Nat) (rec : LoopState → Option Code → Loop) (W : World) (own : Nat → Value) : Prop where
  r : Rl Tryz.prog cx n ⟨regs, o⟩ a W own
  l : W.heap[D + 1]? = some (.loop (rec .ready none))
  d : W.heap[D]? = some (.deferred (some []))
def zvc (K l : Nat) (i : Int) : List (Nat × AV) := [(3, .p (I i)), (0, .fv (.yield l) [] []), (1, .ptr K 0)]
abbrev zsb : Oper := { dst := some 17, op := .call { callee := .value (.tmp 11), args := #[.tmp 12, .tmp 16], argTypes := #[3, 32] }, type := 4, pos := "iter.go:29", after := #[{ on := 0, ground := Ground.data }, { on := 1, ground := Ground.data }, { on := 5, ground := Ground.data }], guard := none }
set_option maxHeartbeats 4000000 in
theorem zuo {regs sr : List (Nat × AV)} {o o' : Obs} {D g p0 p1 K : Nat} {i : Int} {rec : LoopState → Option Code → Loop} {fn : Nat} {aid bid bl : Nat} {aops bops : Array Oper} {row : List PV} {S1 : S} {aC : Act} {W : World} {ops : Array Oper} {rest : List Oper} {Qc : Exit → Act → World → Prop}
    (r : Rl Tryz.prog cx 19 ⟨regs, o⟩ aC W own)
    (hrec : rec = fun st pe => { state := st, pending := pe, fn, tmps := a.tmps, params := #[p0, p1], assign := .region aid aops false, body := .block bl (.region bid bops false), defers := D })
    (hG : Gh cx n sr o a D rec W own) (hB0 : cx.w0.heap.size ≤ D)
    (h0 : get regs 0 = some (.fv (.yield (D + 1)) [] [])) (h1 : get regs 1 = some (.ptr K 0)) (h3 : get regs 3 = some (.p (I i))) (h11 : get regs 11 = some (.fv (.yield (D + 1)) [] [])) (h12 : get regs 12 = some (.p (I i))) (h16 : get regs 16 = some (.ag (row.map .p)))
    (hp0 : p0 < n) (hp1 : p1 < n) (hne : p0 ≠ p1) (hn0 : get sr p0 = none) (hn1 : get sr p1 = none)
    (hda : ∀ o ∈ aops.toList, ∀ c, o.op ≠ .defer c) (hdb : ∀ o ∈ bops.toList, ∀ c, o.op ≠ .defer c)
    (hA : ∀ cx' : Cx, cx'.objs0 = o → AWl Tryz.prog cx' n aops aops.toList (fun e s' => e = .normal ∧ Le Tryz.prog cx' n s' S1) ⟨(p1, .ag (row.map .p)) :: (p0, .p (I i)) :: sr, o⟩)
    (hB : ∀ cx' : Cx, cx'.objs0 = o → AWl Tryz.prog cx' n bops bops.toList (fun e s' => e = .normal ∧ Le Tryz.prog cx' n s' ⟨[], o'⟩) S1)
    (hkeys : o'.map (·.1) = o.map (·.1)) (hcl : ∀ j T cs, (j, Ob.ce T cs) ∈ o' → ∀ y ∈ cs, zba o' y) (hg : get sr g = some (.fv (.func bwF) [] [.ptr K 0]))
    (k : ∀ aD WD ownD, Gh cx n sr o' a D rec WD ownD → Rl Tryz.prog cx 19 ⟨(17, .p (B true)) :: zvc K (D + 1) i, o'⟩ aD WD ownD → wpListIn Fence.wide 0 Tryz.prog ops Qc rest aD WD) :
    wpListIn Fence.wide 0 Tryz.prog ops Qc (zsb :: rest) aC W := by
  have hy0 := zvb (r.regs 0 _ h0)
  have hy11 := zvb (r.regs 11 _ h11)
  have hy12 := (r.regs 12 _ h12).val
  have hy3 := (r.regs 3 _ h3).val
  have hy16 := r.regs 16 _ h16
  obtain ⟨bK, hoK, hyK⟩ := (r.regs 1 _ h1).ptr_inv
  generalize hv16 : aC.tmps.getD 16 undef = v16 at hy16
  have hrun : (execOp aC.eval zsb).run Tryz.prog W = .ok (.round (D + 1) fn ((a.tmps.setIfInBounds p0 (.int .i64 i)).setIfInBounds p1 v16) (.region aid aops false) (.block bl (.region bid bops false))) W := by
    have hl := hG.l
    have := run_yield (P := Tryz.prog) (args := #[.int .i64 i, v16]) hl (by rw [hrec]; rfl)
    rw [hrec] at this
    have e11 : aC.eval (.tmp 11) = .func (.yield (D + 1)) #[] #[] := hy11
    have e12 : aC.eval (.tmp 12) = .int .i64 i := hy12
    have e16 : aC.eval (.tmp 16) = v16 := hv16
    simp only [execOp, resolve, e11, Sem.run_bind, Sem.run_pure, Result.andThen_ok, List.map_toArray, List.map_cons, List.map_nil, e12, e16]
    simp only [Deferred.ofValue, Sem.run_pure, Result.andThen_ok, invoke]
    simpa [go_sem] using this
  have had : a.defers = [] := hG.r.defs
  have hact : ({ tmps := (a.tmps.setIfInBounds p0 (.int .i64 i)).setIfInBounds p1 v16, defers := [] } : Act) = (a.put (some p0) (.int .i64 i)).put (some p1) v16 := by
    simp only [Act.put, had]
  have hokW : OK Tryz.prog W cx.M0 own o := hG.r.ok
  have rg : Rl Tryz.prog ⟨W, cx.M0, own, o⟩ n ⟨(p1, .ag (row.map .p)) :: (p0, .p (I i)) :: sr, o⟩ ((a.put (some p0) (.int .i64 i)).put (some p1) v16) W own :=
    ((hG.r.fresh).put_same hp0 (x := .p (I i)) (.scal rfl)).put_same hp1 (x := .ag (row.map .p)) hy16
  refine wpListIn_plain rfl fun Kc hKc => ⟨fun _ _ => trivial, ?_⟩
  show Oper.uponIn _ _ _ _ _ Kc Qc ((execOp aC.eval zsb).run Tryz.prog W)
  rw [hrun, Oper.uponIn_round]
  refine ⟨fun h => (by cases h), roundIn_of_wpIn trivial ?_⟩
  rw [hact]
  have hnL : ∀ {Z : S → Prop} {cx' : Cx}, ¬ LetsOut (post Tryz.prog cx' n fun e s => e = .normal ∧ Z s) := fun ⟨_, _, _, _, h, _⟩ => by cases h
  refine wpIn_mono (wpIn_region_list (z5d (D + 1) _ hnL aops.toList _ _ hda (hA ⟨W, cx.M0, own, o⟩ rfl _ _ ⟨own, rg⟩))) ?_
  rintro e a1 w1 ⟨s1, hs1, rfl, hle1⟩
  obtain ⟨own1, r1⟩ := hle1 _ _ hs1
  have hl1 := r1.lies (M0 := cx.M0) hokW hG.l rfl
  refine ⟨_, run_beginRound hl1 (by rw [hrec]), ?_⟩
  have r2 := r1.shift (M0 := cx.M0) hokW hG.l (ob' := .loop { rec .ready none with state := .busy }) rfl rfl
  refine wpIn_block (wpIn_mono (wpIn_region_list (z5d (D + 1) _ hnL bops.toList _ _ hdb (hB ⟨W.putObj (D + 1) (.loop { rec .ready none with state := .busy }), cx.M0, own, o⟩ rfl _ _ ⟨own1, r2⟩))) ?_)
  rintro e a3 w3 ⟨s3, hs3, rfl, hle3⟩
  obtain ⟨own3, r3⟩ := hle3 _ _ hs3
  have hBq : cx.w0.heap.size ≤ D + 1 := by omega
  have q2 : Quiet cx.w0.heap.size W (W.putObj (D + 1) (.loop { rec .ready none with state := .busy })) := Quiet.putObj _ hG.l rfl hBq
  have hokW2 := hokW.quiet q2
  have hltl := (Array.getElem?_eq_some_iff.1 hG.l).1
  have hl3 := r3.lies (M0 := cx.M0) hokW2 (World.putObj_heap_same hltl) rfl
  have hd3 := r3.lies (M0 := cx.M0) hokW2 ((World.putObj_heap_other (by omega)).trans hG.d) rfl
  obtain ⟨own4, r4⟩ := (hG.r.quiet q2).back (own' := own3) hp0 hn0 hkeys r3.ok r3.stp r3.fix hcl r3.fr
  have hend := run_endRound (P := Tryz.prog) none hl3
  refine ⟨_, _, hend, ?_⟩
  refine hKc _ _ (k _ _ own4 ⟨r4.quiet (Quiet.putObj _ hl3 rfl hBq), ?_, ?_⟩ ?_)
  · rw [World.putObj_heap_same (Array.getElem?_eq_some_iff.1 hl3).1]; rw [hrec]; rfl
  · exact (World.putObj_heap_other (by omega)).trans hd3
  · have r5 := r4.quiet (Quiet.putObj (.loop { { rec .ready none with state := .busy } with state := if (none : Option Code).isNone then .ready else .done, pending := none }) hl3 rfl hBq)
    obtain ⟨b', hv', hb'⟩ := zsa (r5.regs g _ hg)
    obtain ⟨b0, hv0, hb0⟩ := zsa (hG.r.regs g _ hg)
    have eb : b' = b0 := by rw [hv0] at hv'; simpa using hv'.symm
    subst eb
    rw [hoK] at hb0
    have eb2 : bK = b' := by simpa using hb0
    subst eb2
    refine r5.frame r.defs (zxf r.size) fun t x hx => ?_
    have hsz : aC.tmps.size = 19 := r.size
    match t, hx with
    | 17, hx =>
      cases hx
      rw [show (17 : Nat) = 17 from rfl, zp8 (by omega)]
      exact .scal rfl
    | 3, hx => cases hx; rw [z8d (by decide), hy3]; exact .scal rfl
    | 0, hx => cases hx; rw [z8d (by decide), hy0]; exact .fv [] [] rfl rfl (fun j x h => by simp at h) (fun j x h => by simp at h)
    | 1, hx => cases hx; rw [z8d (by decide), hyK]; exact .ptr hb'
set_option maxRecDepth 20000 in
set_option maxHeartbeats 4000000 in
theorem zxg (r : Rl Tryz.prog cx n s a w own) (g p0 p1 K T0 : Nat) (rows : List (List PV)) (O : Nat → Obs)
    (hg : get s.regs g = some (.fv (.func bwF) [] [.ptr K 0])) (hO0 : s.objs = O 0) (hlen : rows.length ≤ 1000000000000)
    (hK : ∀ k, k ≤ rows.length → get (O k) K = some (.ce T0 [.p (.sl 5 rows)]))
    (hkeys : ∀ k, k ≤ rows.length → (O k).map (·.1) = (O 0).map (·.1))
    (hcl : ∀ k, k ≤ rows.length → ∀ j T cs, (j, Ob.ce T cs) ∈ O k → ∀ y ∈ cs, zba (O k) y)
    (hrow : ∀ row ∈ rows, row.length = 5) (hp0 : p0 < n) (hp1 : p1 < n) (hne : p0 ≠ p1) (hn0 : get s.regs p0 = none) (hn1 : get s.regs p1 = none)
    (aid bid bl : Nat) (aops bops : Array Oper) (hda : ∀ o ∈ aops.toList, ∀ c, o.op ≠ .defer c) (hdb : ∀ o ∈ bops.toList, ∀ c, o.op ≠ .defer c) (S1 : Nat → S)
    (hA : ∀ k row, k < rows.length → rows[rows.length - 1 - k]? = some row → ∀ cx' : Cx, cx'.objs0 = O k → AWl Tryz.prog cx' n aops aops.toList (fun e s' => e = .normal ∧ Le Tryz.prog cx' n s' (S1 k)) ⟨(p1, .ag (row.map .p)) :: (p0, .p (I ((rows.length : Int) - 1 - k))) :: s.regs, O k⟩)
    (hB : ∀ k, k < rows.length → ∀ cx' : Cx, cx'.objs0 = O k → AWl Tryz.prog cx' n bops bops.toList (fun e s' => e = .normal ∧ Le Tryz.prog cx' n s' ⟨[], O (k + 1)⟩) (S1 k))
    {Q : Exit → Act → World → Prop}
    (hQ : ∀ D w' own', w.heap.size ≤ D → Rl Tryz.prog cx n ⟨s.regs, O rows.length⟩ a w' own' → w'.heap[D]? = some (.deferred (some [])) → Q .normal { a with defers := [{ target := .collected D, args := #[] }] } w') :
    (Code.rangeFunc (.tmp g) #[p0, p1] (.region aid aops false) (.block bl (.region bid bops false))).wp Tryz.prog Q a w := by
  obtain ⟨sr, so⟩ := s
  simp only at hg hO0 hn0 hn1 hA hQ
  subst hO0
  refine (wpIn_wide (n := 0)).1 (wpIn_rangeFunc ?_)
  intro fn hfn
  obtain ⟨rec, hrec⟩ : ∃ rec : LoopState → Option Code → Loop, rec = fun st pe => { state := st, pending := pe, fn, tmps := a.tmps, params := #[p0, p1], assign := .region aid aops false, body := .block bl (.region bid bops false), defers := w.heap.size } := ⟨_, rfl⟩
  obtain ⟨W1, hW1⟩ : ∃ W1, (w.alloc (.deferred (some []))).alloc (.loop (rec .ready none)) = W1 := ⟨_, rfl⟩
  have hB0 : cx.w0.heap.size ≤ w.heap.size := r.stp.size
  have q1 : Quiet cx.w0.heap.size w (w.alloc (.deferred (some []))) := Quiet.alloc hB0 _
  have q2 : Quiet cx.w0.heap.size (w.alloc (.deferred (some []))) W1 := by rw [← hW1]; exact Quiet.alloc (by simp; omega) _
  have hG1 : Gh cx n sr (O 0) a w.heap.size rec W1 own := ⟨(r.quiet q1).quiet q2, by
    rw [← hW1]; have := z4s (w.alloc (.deferred (some []))) (.loop (rec .ready none)); simpa using this, by
    rw [← hW1, z3x _ _ (by simp)]; exact z4s w _⟩
  obtain ⟨b, hv, hb⟩ := zsa (r.regs g _ hg)
  refine ⟨w.heap.size + 1, [{ target := .collected w.heap.size, args := #[] }], W1, { target := .fn (.func bwF) #[.pointer (some ⟨b, 0, none⟩)], args := #[.func (.yield (w.heap.size + 1)) #[] #[]] }, W1, bwF,
    #[.func (.yield (w.heap.size + 1)) #[] #[], .pointer (some ⟨b, 0, none⟩)], W1, ?_, ?_, fun _ _ => trivial, ?_, fun h => (by cases h), ?_⟩
  · rw [← hW1, hrec]; exact run_enterLoop_outer _ _ _ _ _
  · have : a.eval (.tmp g) = .func (.func bwF) #[] #[.pointer (some ⟨b, 0, none⟩)] := hv
    simp only [resolve, this]
    simp [go_sem]
  · have eg := (zqb hfb (f := bwF) rfl).run (P := Tryz.prog)
    simp [invoke, go_sem, eg]
  have hdf : ({ tmps := a.tmps, defers := [{ target := Target.collected w.heap.size, args := #[] }] ++ a.defers } : Act) = { tmps := a.tmps, defers := [{ target := .collected w.heap.size, args := #[] }] } := by rw [r.defs]; rfl
  have hBl : ∀ {W : World} {o : Obs} {own : Nat → Value}, Gh cx n sr o a w.heap.size rec W own → ∀ ob' : Obj, Quiet cx.w0.heap.size W (W.putObj (w.heap.size + 1) ob') := fun h ob' => Quiet.putObj ob' h.l rfl (by omega)
  refine callsIn_of_wp Tryz.func214 rfl trivial ?_
  have hdone : ∀ W own, Gh cx n sr (O rows.length) a w.heap.size rec W own → rangePost Fence.wide 0 Tryz.prog (w.heap.size + 1) Q { tmps := a.tmps, defers := [{ target := Target.collected w.heap.size, args := #[] }] ++ a.defers } (.returned (.tuple #[])) W := fun W own hG => by
    refine ⟨none, _, by have := run_endLoop (P := Tryz.prog) hG.l (by rw [hrec]; simp); rw [hrec] at this; exact this, ?_⟩
    rw [hdf]
    exact hQ _ _ own (Nat.le_refl _) (hG.r.quiet (hBl hG _)) ((World.putObj_heap_other (by omega)).trans hG.d)
  have hF0 : Rl Tryz.prog cx 19 ⟨[(0, .fv (.yield (w.heap.size + 1)) [] []), (1, .ptr K 0)], O 0⟩ { tmps := #[.func (.yield (w.heap.size + 1)) #[] #[], .pointer (some ⟨b, 0, none⟩)] ++ Array.replicate (Tryz.f214.ntmps - 2) undef, defers := [] } W1 own := by
    refine hG1.r.frame rfl rfl fun t x hx => ?_
    match t, hx with
    | 0, hx => cases hx; exact .fv [] [] rfl rfl (fun j x h => by simp at h) (fun j x h => by simp at h)
    | 1, hx => cases hx; exact .ptr hb
    | t + 2, hx => simp [get, Nat.beq] at hx
  refine wpIn_seq (wpIn_region_list ?_)
  refine pin hF0 rfl rfl (by decide) (z8x hF0 bwTS rfl (hK 0 (by omega)) rfl) fun v1 r1 => ?_
  refine pin r1 rfl rfl (by decide) (ztr r1 bwSI rfl rfl) fun v2 r2 => ?_
  have hs := zky (op := .sub) (x := .int .i64 rows.length) (y := .int .i64 1) (u := .tmp 5) (v := .const (.int .i64 1)) (z := .int .i64 ((rows.length : Int) - 1)) rfl ⟨⟨by omega, by omega⟩, trivial⟩
  refine pin r2 rfl rfl (by decide) (zft r2 rfl rfl hs.1 hs.2) fun v3 r3 => ?_
  refine pin r3 rfl rfl (by decide) (zcb r3 rfl) fun v4 r4 => ?_
  refine wpListIn_nil ?_
  refine wpIn_block (wpIn_loop (fun aB W => ∃ k own, k ≤ rows.length ∧ Gh cx n sr (O k) a w.heap.size rec W own ∧ Rl Tryz.prog cx 19 ⟨zvc K (w.heap.size + 1) ((rows.length : Int) - 1 - k), O k⟩ aB W own) (fun aB _ => match aB.tmps.getD 3 undef with | .int _ i => (i + 1).toNat | _ => 0) ?_ ?_)
  · have e0 : (rows.length : Int) - 1 - ((0 : Nat) : Int) = rows.length - 1 := by omega
    refine ⟨0, own, by omega, hG1, r4.frame r4.defs r4.size fun t x hx => r4.regs t x ?_⟩
    rw [e0] at hx
    match t, hx with
    | 0, hx => exact hx
    | 1, hx => exact hx
    | 2, hx => cases hx
    | 3, hx => exact hx
    | t + 4, hx => cases hx
  · rintro aB W ⟨k, own, hk, hG, rB⟩
    have h3 : aB.tmps.getD 3 undef = .int .i64 ((rows.length : Int) - 1 - k) := (rB.regs 3 _ rfl).val
    have hs := zky (op := .geq) (x := .int .i64 ((rows.length : Int) - 1 - k)) (y := .int .i64 0) (u := .tmp 7) (v := .const (.int .i64 0)) (z := .bool (decide ((rows.length : Int) - 1 - k ≥ 0))) rfl trivial
    refine wpIn_seq (wpIn_seq (wpIn_region_list ?_))
    refine pin rB rfl rfl (by decide) (z6l rB rfl) fun v1 r1 => ?_
    refine pin r1 rfl rfl (by decide) (zft r1 rfl rfl hs.1 hs.2) fun v2 r2 => ?_
    refine wpListIn_nil ?_
    have hc : ((aB.put (some 7) v1).put (some 8) v2).eval (.tmp 8) = .bool (decide ((rows.length : Int) - 1 - k ≥ 0)) := (r2.regs 8 _ rfl).val
    refine wpIn_cond hc ?_
    by_cases hlt : k < rows.length
    · rw [decide_eq_true (show (rows.length : Int) - 1 - k ≥ 0 by omega), if_pos rfl]
      refine wpIn_skip ?_
      refine wpIn_seq (wpIn_block (wpIn_seq (wpIn_region_list ?_)))
      obtain ⟨row, hrw⟩ : ∃ row, rows[rows.length - 1 - k]? = some row := ⟨_, List.getElem?_eq_getElem (by omega)⟩
      have hi : (rows.length : Int) - 1 - k = ((rows.length - 1 - k : Nat) : Int) := by omega
      have hrl := hrow row (List.mem_of_getElem? hrw)
      have hra : rowAt rows ((rows.length : Int) - 1 - k) = row := by rw [hi]; exact z4n hrw
      refine pin r2 rfl rfl (by decide) (z6l r2 rfl) fun v11 r11 => ?_
      refine pin r11 rfl rfl (by decide) (z6l r11 rfl) fun v12 r12 => ?_
      refine pin r12 rfl rfl (by decide) (z8x r12 bwTS rfl (hK k (by omega)) rfl) fun v13 r13 => ?_
      refine pin r13 rfl rfl (by decide) (z6l r13 rfl) fun v14 r14 => ?_
      refine pin r14 rfl rfl (by decide) (zoh r14 bwSI bwTI rfl rfl rfl rfl (by omega) (by omega)) fun v15 r15 => ?_
      refine pin r15 rfl rfl (by decide) (zdw r15 bwTI rfl (by rw [hra]; exact zva hrl)) fun v16 r16 => ?_
      refine zuo (r := r16) hrec hG hB0 rfl rfl rfl rfl rfl rfl hp0 hp1 hne hn0 hn1 hda hdb (hA k row hlt hrw) (hB k hlt) (hkeys (k + 1) (by omega) |>.trans (hkeys k (by omega)).symm) (hcl (k + 1) (by omega)) hg ?_
      intro aD WD ownD hGD rD
      have hn := zh1 (P := Tryz.prog) (op := .not) (x := .bool true) (z := .bool false) rfl trivial
      refine pin rD rfl rfl (by decide) (zwn rD rfl hn.1 hn.2) fun v18 r18 => ?_
      refine wpListIn_nil ?_
      have hc2 : (aD.put (some 18) v18).eval (.tmp 18) = .bool false := (r18.regs 18 _ rfl).val
      refine wpIn_cond hc2 ?_
      refine wpIn_skip ?_
      refine wpIn_region_list ?_
      have hs2 := zky (op := .sub) (x := .int .i64 ((rows.length : Int) - 1 - k)) (y := .int .i64 1) (u := .tmp 9) (v := .const (.int .i64 1)) (z := .int .i64 ((rows.length : Int) - 1 - k - 1)) rfl ⟨⟨by omega, by omega⟩, trivial⟩
      refine pin r18 rfl rfl (by decide) (z6l r18 rfl) fun v9 r9 => ?_
      refine pin r9 rfl rfl (by decide) (zft r9 rfl rfl hs2.1 hs2.2) fun v10 r10 => ?_
      refine pin r10 rfl rfl (by decide) (zcb r10 rfl) fun v3 rE => ?_
      refine wpListIn_nil ?_
      have hi1 : (rows.length : Int) - 1 - ((k + 1 : Nat) : Int) = (rows.length : Int) - 1 - k - 1 := by omega
      refine ⟨⟨k + 1, ownD, hlt, hGD, rE.frame rE.defs rE.size fun t x hx => rE.regs t x ?_⟩, ?_⟩
      · rw [hi1] at hx
        match t, hx with
        | 0, hx => exact hx
        | 1, hx => exact hx
        | 2, hx => cases hx
        | 3, hx => exact hx
        | t + 4, hx => cases hx
      · have hf3 := (rE.regs 3 _ rfl).val
        rw [h3, hf3]
        simp only
        omega
    · rw [decide_eq_false (show ¬ (rows.length : Int) - 1 - k ≥ 0 by omega), if_neg (by decide)]
      obtain rfl : k = rows.length := by omega
      exact wpIn_exit ⟨r2.defs, _, by simp [results, Tryz.f214, Sem.run_pure], hdone W own hG⟩
end
end Go.Ab.YtplnabidakjhiaaGreat
set_option linter.unusedVariables false
set_option linter.unusedSimpArgs false
namespace Go.Ab
open Go Go.RowKit
section
variable {P : Program} {cx : Cx} {n : Nat} {E : En}
def Wtc (P : Program) (cx : Cx) (n : Nat) (c : Code) (Q : Exit → Act → World → Prop) (s : S) : Prop := ∀ a w, Rel P cx n s a w → c.wp P Q a w
theorem z4q (hE : EnOK P cx n E) {a b : Code} {Q : Exit → Act → World → Prop} {r : VR} {o : Obs} (h : vcC P cx n E a (fun e r o => e = .normal ∧ Wtc P cx n b Q ⟨toR r, o⟩) r o) : Wtc P cx n (.seq a b) Q ⟨toR r, o⟩ :=
  fun act w hr => wp_seq (wp_mono (z1g hE h act w hr) fun e a' w' ⟨s, hs, r', o', h1, h2, h3, he, hw⟩ => by
    subst he
    exact hw a' w' (Eqv.rel (s := s) (s' := ⟨toR r', o'⟩) ⟨h1, h2⟩ hs))
theorem zup (hE : EnOK P cx n E) {a b c : Code} {Q : Exit → Act → World → Prop} {r : VR} {o : Obs} (h : vcC P cx n E a (fun e r o => e = .normal ∧ Wtc P cx n b (Exit.then (c.wp P Q) Q) ⟨toR r, o⟩) r o) : Wtc P cx n (.seq (.seq a b) c) Q ⟨toR r, o⟩ :=
  fun act w hr => wp_seq (wp_seq (wp_mono (z1g hE h act w hr) fun e a' w' ⟨s, hs, r', o', h1, h2, h3, he, hw⟩ => by
    subst he
    exact hw a' w' (Eqv.rel (s := s) (s' := ⟨toR r', o'⟩) ⟨h1, h2⟩ hs)))
def markQ (P : Program) (cx : Cx) (n : Nat) (fn : Func) (R : AV → Obs → Prop) : Exit → Act → World → Prop
  | .ret, a, w => ∃ D, a.defers = [{ target := .collected D, args := #[] }] ∧ cx.w0.heap.size ≤ D ∧ w.heap[D]? = some (.deferred (some [])) ∧ ∃ s own, Rl P cx n s { a with defers := [] } w own ∧ Ends P cx n fn R s
  | _, _, _ => False
theorem Rl.chain {s s2 : S} {a a2 : Act} {w w2 : World} {own own2 : Nat → Value} {m : Nat} (r : Rl P cx n s a w own) (r3 : Rl P ⟨w, cx.M0, own, s.objs⟩ m s2 a2 w2 own2) (h0 : cx.objs0 = []) : Rl P cx m s2 a2 w2 own2 :=
  ⟨r3.defs, r3.size, r3.ok, r3.regs, r.stp.trans r3.stp, fun k o h => (by rw [h0] at h; cases h), r.fr.trans r3.fr⟩
theorem zsc {f : Nat} {fn : Func} {c : Code} {args : List AV} {objs : Obs} {R : AV → Obs → Prop} (hf : P.funcs[f]? = some fn) (hb : fn.body = some c) (hn : fn.ntmps = n) (hle : Nat.ble args.length n = true)
    (h : ∀ cx : Cx, cx.objs0 = objs → Wtc P cx n c (markQ P cx n fn R) ⟨entry args 0, objs⟩) : Con P f args objs R := by
  intro w M0 own vals hok harg
  have hle' : args.length ≤ n := by simpa using hle
  have hr : Rl P ⟨w, M0, own, objs⟩ n ⟨entry args 0, objs⟩ { tmps := vals.toArray ++ Array.replicate (fn.ntmps - vals.toArray.size) undef, defers := [] } w own := by
    refine { defs := rfl, size := ?_, ok := hok, regs := fun t x hx => ?_, stp := Stp.refl _ _, fix := fun _ _ _ => .same, fr := Fr.refl _ _ _ }
    · have := harg.1
      simp only [Array.size_append, List.size_toArray, Array.size_replicate]; omega
    · have hh := (zbb hx).2
      simp only [Nat.sub_zero] at hh
      have hlt : t < vals.length := by have := (List.getElem?_eq_some_iff.1 hh).1; have := harg.1; omega
      have h1 := harg.2 t x hh
      have e : (vals.toArray ++ Array.replicate (fn.ntmps - vals.toArray.size) undef).getD t undef = vals.getD t undef := by
        rw [Array.getD_eq_getD_getElem?, Array.getElem?_append_left (by simpa using hlt), List.getD_eq_getElem?_getD]
        simp
      show RepA _ _ _ _ _ (Array.getD _ t undef)
      rw [e]; exact h1
  refine callsIn_wide.1 (callsIn_of_wp_marks (n := 0) hf hb trivial (wpIn_wide.2 (wp_mono (h ⟨w, M0, own, objs⟩ rfl _ w ⟨own, hr⟩) ?_)))
  intro e a' w' hq
  cases e with
  | ret =>
    obtain ⟨D, hd, hB, hD, s, own', hs, hE⟩ := hq
    have q := Quiet.putObj (.deferred none) hD rfl hB
    obtain ⟨v, h1, r, objs', own'', h2⟩ := hE _ _ own' (hs.quiet q)
    show LeavesInM _ _ _ _ _ _ a'.defers .returning w'
    rw [hd]
    exact ⟨by simp, .inl ⟨D, _, rfl, run_takeDeferred hD, ⟨v, h1, r, objs', own'', v, rfl, h2⟩⟩⟩
  | _ => exact hq.elim
end
end Go.Ab
namespace Go.Ab.YtplnabidakjhiaaGreat
open Go Go.RowKit Go.Ab Go.Proofs
theorem cvm {f : Nat} {fn : Func} {c : Code} {args : List AV} {objs : Obs} {R : AV → Obs → Prop} (hf : Tryz.prog.funcs[f]? = some fn) (n : Nat) (hn : fn.ntmps = n) (hb : fn.body = some c) (hle : Nat.ble args.length n = true)
    (h : ∀ cx : Cx, cx.objs0 = objs → EnK Tryz.prog cx n tab fbs n (objs.map (·.1)) ccs cls → Wtc Tryz.prog cx n c (markQ Tryz.prog cx n fn R) ⟨toR (ze9 args 0), objs⟩) : Con Tryz.prog f args objs R :=
  zsc hf hb hn hle fun cx hcx => by
    have hK : EnK Tryz.prog cx n tab fbs n (objs.map (·.1)) ccs cls := ⟨rfl, htab, hfb, fun k hk => (by
      rw [hcx]
      refine z6w fun hm => ?_
      rw [mem_iff.2 hm] at hk; cases hk), hmo, hcc, hcl⟩
    have := h cx hcx hK
    rw [zc9] at this
    exact this
theorem zsd (l : List Trm) : Con Tryz.prog 186 [.p (.sl 5 (encTs l))] [] (fun r o => r = .fv (.func bwF) [] [.ptr 1 0] ∧ o = [(1, .ce 30 [.p (.sl 5 (encTs l))])]) :=
  cv [] [] [1] Tryz.func186 4 Tryz.ntmps186 rfl rfl fun cx hE => ⟨rfl, rfl⟩
theorem zdc (h a : Trm) : PCon Tryz.prog 115 [tv h, .p (.sl 5 [rowT a])] (tv (mkA h a)) := by
  have := z2u h [a] (by simp)
  rw [show encTs [a] = [rowT a] by simp [zb]] at this
  exact this
theorem zkz (b : Int) (hb : b ≤ 1000000000000000) (m : Nat) (hm : m ≤ 1000000000000) (l : List Trm) (hl : ∀ a ∈ l, wfT b a = true ∧ dpT a ≤ 1000000000000) (hlen : l.length ≤ 1000000000000) : Con Tryz.prog 184 [.p (.sl 5 (encTs l)), .ptr 1000 0] [(1000, .ce 3 [.p (I m)])] (fun r o => r = .p (.sl 5 (encTs (l.map fun a => lftT m a 0))) ∧ o = [(1000, .ce 3 [.p (I m)])]) := by
  have hel := zd l
  refine cv [] [] [1000] Tryz.func184 21 Tryz.ntmps184 rfl rfl fun cx hE => fun _ => ?_
  refine tokV 4 500 32 5 hE rfl rfl rfl ?_
  refine loopP l (fun p => [(9, .p (I p.length)), (4, .ts 500 5 (encTs (p.map fun a => lftT m a 0)))]) (fun p => [(500, .ar 32 5 (encTs (p.map fun a => lftT m a 0)).length)]) (fun _ => True) [9, 4] [500] hE rfl rfl rfl ⟨Sub.refl _, Sub.refl _, rfl, rfl, trivial⟩ trivial (fun _ => brTe ⟨rfl, rfl⟩) (fun p a q hq _ => ?_)
  have := zj hq
  obtain ⟨h1, h2⟩ := hl a (zf hq)
  refine brT' hq (idxT hq (call0 (zd8 m 0 b (by omega) (by omega) (by omega) (by omega) hb a h2 h1) (app1 (by simp; omega) (by simp; omega) (And.intro (by omega) ?_))))
  exact ⟨trivial, Sub.i (by simp), Sub.eq (congrArg (AV.ts 500 5) (zhj p (fun a => lftT m a 0) a)), ar_eq (by simp), rfl, trivial⟩
theorem zl0 : ∀ (t : Trm) (acc : List Trm), (spnT t acc).2.length + dpT (spnT t acc).1 ≤ acc.length + dpT t
  | ⟨k, n, s, ls, l⟩, acc => by
    rw [spnT.eq_def]
    simp only
    split
    · match l with
      | [f, a] =>
        have := zl0 f (a :: acc)
        refine Nat.le_trans this ?_
        have := zy (t := ⟨k, n, s, ls, [f, a]⟩) (a := f) (by simp)
        simp; omega
      | [] => simp
      | [_] => simp
      | _ :: _ :: _ :: _ => simp
    · simp
termination_by t => SizeOf.sizeOf t
theorem ziv : ∀ n : Nat, (varsT n).length = n
  | 0 => rfl
  | n + 1 => by simp [varsT, ziv n]
theorem ziw : ∀ (n j : Nat), j < n → (varsT n)[j]? = some (mkV ((n : Int) - 1 - j))
  | 0, j, h => by omega
  | n + 1, 0, h => by simp only [varsT, List.getElem?_cons_zero]; congr 2; push_cast; omega
  | n + 1, j + 1, h => by
    simp only [varsT, List.getElem?_cons_succ]
    rw [ziw n j (by omega)]
    congr 2; push_cast; omega
def hypT (h : Trm) (args : List Trm) (p nc : Nat) (typ field : Trm) : Trm :=
  lamsT (piL typ) (mkA (appT (appT h ((args.take (p + 1 + nc)).map fun a => lftT (piL typ).length a 0)) ((argsT (piE typ)).drop p)) (appT (lftT (piL typ).length field 0) (varsT (piL typ).length)))
def zOb : Ob := .ce 32 [.p (I 0), .p (I 0), .p (St ⟨#[]⟩), .p nilS, .p nilS]
def hypO (xs : List Trm) (T : Trm) (k : Nat) : Obs := [(12, ceT (lamsT (xs.drop (xs.length - k)) T)), (6, zOb), (1, .ce 30 [.p (.sl 5 (encTs xs))])]
def hypR : VR := [(87, .a (.fv (.func bwF) [] [.ptr 1 0])), (12, .a (.ptr 12 0)), (6, .a (.ptr 6 0))]
theorem zn6 (cx : Cx) {o : Obs} (h : cx.objs0 = o) (n : Nat) : EnK Tryz.prog cx n tab fbs n (o.map (·.1)) ccs cls :=
  ⟨rfl, htab, hfb, fun k hk => (by
    rw [h]
    refine z6w fun hm => ?_
    rw [mem_iff.2 hm] at hk; cases hk), hmo, hcc, hcl⟩
abbrev ops18 : List Oper := [{ dst := some 16, op := Op.alloc 32, type := 0, pos := "iota.go:114", after := #[], guard := none },
  { dst := none, op := Op.store 32 (Operand.tmp 16) (Operand.tmp 89), type := 0, pos := "iota.go:114", after := #[{ on := 0, ground := Ground.data }, { on := 0, ground := Ground.phase }], guard := none }]
abbrev ops19 : List Oper := [{ dst := some 90, op := Op.load 32 (Operand.tmp 16), type := 32, pos := "iota.go:115", after := #[], guard := none },
  { dst := some 91, op := Op.load 32 (Operand.tmp 12), type := 32, pos := "iota.go:115", after := #[], guard := none },
  { dst := some 92, op := Op.call { callee := Callee.value (Operand.func 187), args := #[Operand.const (Value.int IntKind.i64 4), Operand.tmp 90, Operand.tmp 91], argTypes := #[3, 32, 32] }, type := 32, pos := "iota.go:115", after := #[{ on := 0, ground := Ground.data }, { on := 1, ground := Ground.data }], guard := none },
  { dst := none, op := Op.store 32 (Operand.tmp 12) (Operand.tmp 92), type := 0, pos := "iota.go:115", after := #[{ on := 2, ground := Ground.data }, { on := 2, ground := Ground.chain }, { on := 0, ground := Ground.phase }, { on := 1, ground := Ground.phase }, { on := 2, ground := Ground.phase }], guard := none }]
abbrev ops20 : List Oper := [{ dst := some 93, op := Op.load 32 (Operand.tmp 12), type := 32, pos := "iota.go:117", after := #[], guard := none },
  { dst := none, op := Op.store 32 (Operand.tmp 6) (Operand.tmp 93), type := 0, pos := "iota.go:117", after := #[{ on := 0, ground := Ground.data }, { on := 0, ground := Ground.phase }], guard := none }]
def hypS (xs : List Trm) (T : Trm) (k : Nat) : S := ⟨(16, .ptr 16 0) :: toR hypR, (16, ceT (xs.getD (xs.length - 1 - k) zT)) :: hypO xs T k⟩
theorem zxh {n : Nat} {Z : S → Prop} {cx : Cx} : ¬ LetsOut (post Tryz.prog cx n fun e s => e = .normal ∧ Z s) := fun ⟨_, _, _, _, h, _⟩ => by cases h
theorem hyp_a (xs : List Trm) (T : Trm) (k : Nat) (row : List PV) (hk : k < xs.length) (hr : (encTs xs)[xs.length - 1 - k]? = some row) (i : Int) (cx' : Cx) (hc : cx'.objs0 = hypO xs T k) :
    AWl Tryz.prog cx' 94 ops18.toArray ops18 (fun e s' => e = .normal ∧ Le Tryz.prog cx' 94 s' (hypS xs T k)) ⟨(89, .ag (row.map .p)) :: (88, .p (I i)) :: toR hypR, hypO xs T k⟩ := by
  have hx : xs[xs.length - 1 - k]? = some (xs.getD (xs.length - 1 - k) zT) := by
    rw [List.getD_eq_getElem?_getD, List.getElem?_eq_getElem (by omega)]; rfl
  have e : row = rowT (xs.getD (xs.length - 1 - k) zT) := by
    rw [zb, List.getElem?_map, hx] at hr; simpa using hr.symm
  subst e
  have hE := zn6 cx' hc 94
  refine z4m (E := En0 94 [12, 6, 1] [] [] []) (EnK.ok (E := En0 94 [12, 6, 1] [] [] []) hE) (dr := false) (ops := ops18) (r := (89, .a (.ag ((rowT (xs.getD (xs.length - 1 - k) zT)).map .p))) :: (88, .a (.p (I i))) :: hypR) (tr := []) (k := fun r o _ => Le Tryz.prog cx' 94 ⟨toR r, o⟩ (hypS xs T k)) ?_ (fun r' o' tr' _ h => ⟨rfl, h⟩)
  exact Le.mk (.cons rfl (Sub.refl _) (.cons rfl (Sub.refl _) (.cons rfl (Sub.refl _) (.cons rfl (Sub.refl _) .nil)))) (.cons rfl rfl (.cons rfl rfl (.cons rfl rfl (.cons rfl rfl .nil)))) rfl
theorem hyp_b (xs : List Trm) (T : Trm) (k : Nat) (hk : k < xs.length) (cx' : Cx) (hc : cx'.objs0 = hypO xs T k) :
    AWl Tryz.prog cx' 94 ops19.toArray ops19 (fun e s' => e = .normal ∧ Le Tryz.prog cx' 94 s' ⟨[], hypO xs T (k + 1)⟩) (hypS xs T k) := by
  have hx : xs[xs.length - 1 - k]? = some (xs.getD (xs.length - 1 - k) zT) := by
    rw [List.getD_eq_getElem?_getD, List.getElem?_eq_getElem (by omega)]; rfl
  have hd := zed hx T
  have e1 : xs.length - 1 - k + 1 = xs.length - k := by omega
  have e2 : xs.length - (k + 1) = xs.length - 1 - k := by omega
  have hE := zn6 cx' hc 94
  refine z4m (E := En0 94 [12, 6, 1] [] [] []) (EnK.ok (E := En0 94 [12, 6, 1] [] [] []) hE) (dr := false) (ops := ops19) (r := (16, .a (.ptr 16 0)) :: hypR) (tr := []) (k := fun r o _ => Le Tryz.prog cx' 94 ⟨toR r, o⟩ ⟨[], hypO xs T (k + 1)⟩) ?_ (fun r' o' tr' _ h => ⟨rfl, h⟩)
  refine call0 (zkw 4 (xs.getD (xs.length - 1 - k) zT) (lamsT (xs.drop (xs.length - k)) T)) (Le.mk .nil (.cons rfl ?_ (.cons rfl rfl (.cons rfl rfl .nil))) rfl)
  rw [e2, hd, e1]; rfl
set_option maxRecDepth 20000 in
set_option maxHeartbeats 8000000 in
theorem zxi (cx : Cx) (hcx : cx.objs0 = []) (xs : List Trm) (hl : xs.length ≤ 1000000000000) (T R0 : Trm) (hR : R0 = lamsT xs T) (a : Act) (w : World) (own : Nat → Value) (r : Rl Tryz.prog cx 94 ⟨toR hypR, [(12, ceT T), (6, zOb), (1, .ce 30 [.p (.sl 5 (encTs xs))])]⟩ a w own) :
    (Code.rangeFunc (.tmp 87) #[88, 89] (.region 18 ops18.toArray false) (.block 5 (.region 19 ops19.toArray false))).wp Tryz.prog (Exit.inBlock 4 (Exit.then ((Code.seq (.region 20 ops20.toArray false) .ret).wp Tryz.prog (markQ Tryz.prog cx 94 Tryz.f131 fun x o => x = tv R0 ∧ o = [])) (markQ Tryz.prog cx 94 Tryz.f131 fun x o => x = tv R0 ∧ o = []))) a w := by
  have hel := zd xs
  have h0 : hypO xs T 0 = [(12, ceT T), (6, zOb), (1, .ce 30 [.p (.sl 5 (encTs xs))])] := by simp [hypO, lamsT]
  have hN : hypO xs T (encTs xs).length = [(12, ceT R0), (6, zOb), (1, .ce 30 [.p (.sl 5 (encTs xs))])] := by simp [hypO, hR]
  refine zxg r 87 88 89 1 30 (encTs xs) (hypO xs T) rfl h0.symm (by omega) (fun k _ => rfl) (fun k _ => rfl) ?_ ?_ (by decide) (by decide) (by decide) rfl rfl 18 19 5 ops18.toArray ops19.toArray ?_ ?_ (hypS xs T) (fun k row hk hr cx' hc => ?_) (fun k hk cx' hc => hyp_b xs T k (by omega) cx' hc) ?_
  · intro k _ j T' cs hm y hy
    have key : ∃ x, y = .p x := by
      simp only [hypO, ceT, zOb, List.mem_cons, Prod.mk.injEq, Ob.ce.injEq, List.not_mem_nil, or_false] at hm
      rcases hm with ⟨_, _, rfl⟩ | ⟨_, _, rfl⟩ | ⟨_, _, rfl⟩
      · simp only [List.mem_cons, List.not_mem_nil, or_false] at hy
        rcases hy with rfl | rfl | rfl | rfl | rfl <;> exact ⟨_, rfl⟩
      · simp only [List.mem_cons, List.not_mem_nil, or_false] at hy
        rcases hy with rfl | rfl | rfl | rfl | rfl <;> exact ⟨_, rfl⟩
      · simp only [List.mem_cons, List.not_mem_nil, or_false] at hy
        subst hy; exact ⟨_, rfl⟩
    obtain ⟨x, rfl⟩ := key
    intro q hq
    cases hq
  · intro row hm
    rw [zb] at hm
    obtain ⟨x, _, rfl⟩ := List.mem_map.1 hm
    rfl
  · intro o ho c
    simp at ho
    rcases ho with rfl | rfl <;> simp
  · intro o ho c
    simp at ho
    rcases ho with rfl | rfl | rfl | rfl <;> simp
  · exact hyp_a xs T k row (by omega) (by rw [← hel]; exact hr) _ cx' hc
  · intro D w' own' hle r' hD
    rw [hN] at r'
    show (Code.seq (.region 20 ops20.toArray false) .ret).wp Tryz.prog _ { a with defers := [{ target := .collected D, args := #[] }] } w'
    have hE3 := zn6 ⟨w', cx.M0, own', [(12, ceT R0), (6, zOb), (1, .ce 30 [.p (.sl 5 (encTs xs))])]⟩ rfl 94
    have hL : AWl Tryz.prog ⟨w', cx.M0, own', [(12, ceT R0), (6, zOb), (1, .ce 30 [.p (.sl 5 (encTs xs))])]⟩ 94 ops20.toArray ops20 (fun e s' => e = .normal ∧ Le Tryz.prog ⟨w', cx.M0, own', [(12, ceT R0), (6, zOb), (1, .ce 30 [.p (.sl 5 (encTs xs))])]⟩ 94 s' ⟨[(6, .ptr 6 0)], [(6, ceT R0)]⟩) ⟨toR hypR, [(12, ceT R0), (6, zOb), (1, .ce 30 [.p (.sl 5 (encTs xs))])]⟩ := by
      refine z4m (E := En0 94 [12, 6, 1] [] [] []) (EnK.ok (E := En0 94 [12, 6, 1] [] [] []) hE3) (dr := false) (ops := ops20) (r := hypR) (tr := []) (k := fun r o _ => Le Tryz.prog _ 94 ⟨toR r, o⟩ ⟨[(6, .ptr 6 0)], [(6, ceT R0)]⟩) ?_ (fun r' o' tr' _ h => ⟨rfl, h⟩)
      exact Le.mk (.cons rfl (Sub.refl _) .nil) (.cons rfl rfl .nil) rfl
    have hq := z8v [{ target := .collected D, args := #[] }] zxh ops20 a w' (by
      intro o ho c
      simp at ho
      rcases ho with rfl | rfl <;> simp) (hL a w' ⟨own', r'.fresh⟩)
    rw [r'.defs, List.nil_append] at hq
    refine wp_seq (wp_mono (wp_region_list hq) ?_)
    rintro e a' w'' ⟨a0, ⟨s0, hs0, rfl, hle0⟩, rfl⟩
    obtain ⟨own0, r0⟩ := hle0 _ _ hs0
    have hDk := r0.lies (M0 := cx.M0) r'.ok hD rfl
    have rc := r'.chain r0 hcx
    have hact : ({ ({ a0 with defers := a0.defers ++ [{ target := Target.collected D, args := #[] }] } : Act) with defers := [] } : Act) = a0 := by
      obtain ⟨t0, d0⟩ := a0
      have : d0 = [] := r0.defs
      subst this; rfl
    have hK := zn6 cx hcx 94
    refine wp_ret ⟨D, by rw [r0.defs]; rfl, Nat.le_trans r.stp.size hle, hDk, ⟨[(6, .ptr 6 0)], [(6, ceT R0)]⟩, own0, by rw [hact]; exact rc, ?_⟩
    exact z9z (E := En0 94 [] [] [] []) (EnK.ok (E := En0 94 [] [] [] []) hK) (r := [(6, .a (.ptr 6 0))]) (o := [(6, ceT R0)]) ⟨rfl, rfl⟩
set_option maxRecDepth 20000 in
set_option maxHeartbeats 8000000 in
theorem zuq (b : Int) (hb : b ≤ 100000000000000) (h : Trm) (args : List Trm) (f : Dcl) (p : Nat) (m : Int) (typ field : Trm) (hw : wfT b typ = true) (hd : dpT typ ≤ 1000000000) (hfw : wfT b field = true) (hfd : dpT field ≤ 1000000000)
    (hargs : ∀ a ∈ args, wfT b a = true ∧ dpT a ≤ 1000000000) (hal : args.length ≤ 1000000000) (hfc : f.ctors.length ≤ 1000) (hp : p + 1 + f.ctors.length ≤ args.length) :
    PCon Tryz.prog 131 [.ag (useL h args f p m), tv typ, tv field] (tv (hypT h args p f.ctors.length typ field)) := by
  have hpd := z3w typ
  have hpe := (pi_wf typ hw).2
  have hcl : (encCs f.ctors).length = f.ctors.length := by simp [encCs]
  have hael := zd args
  refine cvm Tryz.func131 94 Tryz.ntmps131 rfl rfl fun cx hcx hE' => ?_
  have hE : EnK Tryz.prog cx 94 tab fbs 94 [] ccs cls := hE'
  have hOK : EnOK Tryz.prog cx 94 (En0 94 [] [] [] []) := EnK.ok (E := En0 94 [] [] [] []) hE
  refine z4q hOK ⟨rfl, ?_⟩
  refine z4q hOK ⟨rfl, ?_⟩
  refine z4q hOK ?_
  refine tokV 7 500 32 5 hE rfl rfl rfl ?_
  refine loop2 (fun (q : List Trm) (u : Trm) => [(7, .ts 500 5 (encTs q))]) (fun q u => [(4, ceT u), (500, .ar 32 5 (encTs q).length)]) (fun q u => piL typ = q ++ piL u ∧ piE u = piE typ ∧ wfT b u = true ∧ q.length + dpT u ≤ dpT typ) (fun q u => dpT u) [] typ [7] [4, 500] hE rfl rfl rfl ⟨Sub.refl _, rfl, rfl, rfl, rfl, rfl, trivial⟩ ⟨rfl, rfl, hw, by simp⟩ fun q u ⟨g1, g2, g3, g4⟩ => ?_
  have hel := zd u.args
  refine brS (fun hk => ?_) (fun hk => ⟨rfl, ?_⟩)
  · obtain ⟨x, y, ha⟩ := z9h g3 (.inr (.inr hk))
    have hy := zy (t := u) (a := y) (by rw [ha]; simp)
    have hp1 := z2b hk ha
    have r0 : (encTs u.args)[0]? = some (rowT x) := by rw [ha]; simp [zb]
    have r1 : (encTs u.args)[1]? = some (rowT y) := by rw [ha]; simp [zb]
    refine idxN (i := 0) r0 (app1 (by simp; omega) (by simp; omega) (idxN (i := 1) r1 ⟨q ++ [x], y, ⟨by rw [g1, hp1.1]; simp, by rw [← g2, hp1.2.1], (zg g3).sub y (by rw [ha]; simp), by simp; omega⟩, by omega, Sub.eq (congrArg (AV.ts 500 5) (z1c q x)), rfl, ar_eq (by simp), rfl, rfl, rfl, trivial⟩))
  · have hpu := z2s (u := u) (fun hc => hk hc.1)
    rw [hpu.1, List.append_nil] at g1
    rw [hpu.2.1] at g2
    subst g1 g2
    have hN := hpd
    refine z4q hOK (fun _ => ⟨rfl, ?_⟩)
    refine z4q hOK ⟨rfl, ?_⟩
    refine z4q hOK (call0 (z5l b (piE typ) hpe (by omega)) ⟨rfl, ?_⟩)
    have hxl := zd (piL typ)
    have hil := zd (argsT (piE typ))
    have hNl : (piL typ).length ≤ 1000000000 := by omega
    have hl8 := (zkz b (by omega) (piL typ).length (by omega) (args.take (p + 1 + f.ctors.length)) (fun a ha => by have := hargs a (List.mem_of_mem_take ha); exact ⟨this.1, by omega⟩) (by simp; omega)).at1 1000 8 rfl rfl rfl rfl
    rw [← hxl] at hl8
    have et : (encTs args).take ((p : Int) + 1 + ((encCs f.ctors).length : Int)).toNat = encTs (args.take (p + 1 + f.ctors.length)) := by
      rw [show ((p : Int) + 1 + ((encCs f.ctors).length : Int)).toNat = p + 1 + f.ctors.length by omega]; simp [zb]
    refine z4q hOK (And.intro (by omega) (And.intro (by omega) (And.intro (by omega) (callR [8] hl8 rfl rfl (.cons (Sub.eq (congrArg (fun x => AV.p (.sl 5 x)) et)) (.cons (Sub.refl _) .nil)) (callR [] (z2u h ((args.take (p + 1 + f.ctors.length)).map fun a => lftT (encTs (piL typ)).length a 0) (by simp; omega)) rfl rfl (za _) ⟨rfl, ?_⟩)))))
    have ed : (encTs (argsT (piE typ))).drop (min (p : Int) ((encTs (argsT (piE typ))).length : Int)).toNat = encTs ((argsT (piE typ)).drop p) := by
      rw [hil, show (min (p : Int) ((argsT (piE typ)).length : Int)).toNat = min p (argsT (piE typ)).length by omega]
      rcases Nat.le_total p (argsT (piE typ)).length with hc | hc
      · rw [Nat.min_eq_left hc]; simp [zb]
      · rw [Nat.min_eq_right hc, List.drop_eq_nil_of_le hc, List.drop_eq_nil_of_le (by omega)]; simp [zb]
    have hfl : (argsT (piE typ)).length ≤ 1000000000 := by
      have := zl0 (piE typ) []
      have h2 : dpT (piE typ) ≤ dpT typ := by omega
      unfold argsT; simp at this; omega
    generalize hT1 : appT h ((args.take (p + 1 + f.ctors.length)).map fun a => lftT (encTs (piL typ)).length a 0) = T1
    refine z4q hOK (And.intro (by omega) (callR [] (z2u T1 ((argsT (piE typ)).drop p) (by simp; omega)) rfl rfl (.cons (Sub.refl _) (.cons (Sub.eq (congrArg (fun x => AV.p (.sl 5 x)) ed)) .nil)) ⟨rfl, ?_⟩))
    generalize hT2 : appT T1 ((argsT (piE typ)).drop p) = T2
    refine z4q hOK (call0 (zd8 (encTs (piL typ)).length 0 b (by omega) (by omega) (by omega) (by omega) (by omega) field (by omega) hfw) ⟨rfl, ?_⟩)
    generalize hT3 : lftT (encTs (piL typ)).length field 0 = T3
    refine z4q hOK ?_
    have hNl2 : (encTs (piL typ)).length ≤ 1000000000 := by omega
    generalize hNN : (encTs (piL typ)).length = N at *
    refine loop1 (fun (j : Nat) => [(70, .p (I j))]) (fun j => [(13, ceT (appT T3 ((varsT N).take j)))]) (fun j => j ≤ N) (fun j => N - j) 0 [70] [13] hE rfl rfl rfl ⟨Sub.refl _, rfl, rfl, rfl, rfl, rfl, rfl, rfl, rfl, rfl, trivial⟩ (by omega) fun j hj => ?_
    refine brS (fun hjn => ?_) (fun hjn => ⟨rfl, ?_⟩)
    · have hv := ziw N j (by omega)
      refine And.intro (by omega) (And.intro (by omega) (call0 (zuj _) (callR [] (z2u (appT T3 ((varsT N).take j)) [mkV ((N : Int) - 1 - j)] (by simp)) rfl rfl (.cons (Sub.refl _) (.cons (Sub.eq (by simp [zb, rowT, mkV, z1i])) .nil)) (And.intro (by omega) ⟨j + 1, by omega, by omega, Sub.i (by simp), ?_, rfl, rfl, rfl, rfl, rfl, rfl, rfl, rfl, trivial⟩))))
      rw [z1q hv, zmc]; rfl
    · obtain rfl : j = N := by omega
      have hvl : (varsT j).take j = varsT j := List.take_of_length_le (by rw [ziv]; omega)
      rw [hvl]
      generalize hT4 : appT T3 (varsT j) = T4
      refine z4q hOK (call0 (zdc T2 T4) ⟨rfl, ?_⟩)
      generalize hT5 : mkA T2 T4 = T5
      refine zup hOK (call1 [] (zsd (piL typ)) rfl rfl (.cons Sub.ts .nil) ⟨rfl, ?_⟩)
      rintro a w ⟨own, r⟩
      refine wp_block ?_
      exact zxi cx hcx (piL typ) (by omega) T5 (hypT h args p f.ctors.length typ field) (by unfold hypT; rw [← hxl, hT1, hT2, hT3, hT4, hT5]) a w own (r.sub (.cons rfl (Sub.refl _) (.cons rfl (Sub.refl _) (.cons rfl (Sub.refl _) .nil))) (.cons rfl rfl (.cons rfl rfl (.cons rfl rfl .nil))) rfl)
end Go.Ab.YtplnabidakjhiaaGreat
namespace Go.Ab
open Go Go.RowKit
def iotR (r : RecI) (h : Trm) (args : List Trm) (major : Trm) : Option Trm :=
  if (headT major).kind = 2 then (match z1t r.fam.ctors (headT major).name with
    | none => none
    | some k => if (argsT major).length = r.p + ((piL (r.fam.ctors.getD k default).ty).length - r.p) then
        some (appT (hypsF r h args ((piL (r.fam.ctors.getD k default).ty).drop r.p) [] ((argsT major).drop r.p)
          (appT (args.getD (r.p + 1 + k) zT) ((argsT major).drop r.p))) (args.drop (r.major + 1)))
      else none) else none
theorem z9l (ds : List Dcl) (t major : Trm) : iotaF ds t major = (z1v ds (headT t)).bind fun r => if r.major < (argsT t).length then iotR r (headT t) (argsT t) major else none := by
  unfold iotaF iotR
  cases z1v ds (headT t) with
  | none => rfl
  | some r =>
    simp only [Option.bind_some]
    by_cases h1 : r.major < (argsT t).length
    · by_cases h2 : (headT major).kind = 2
      · simp only [if_pos (And.intro h1 h2), if_pos h1, if_pos h2]; rfl
      · simp [h1, h2]
    · simp [h1]
theorem zvd (vs : List Trm) : ∀ (t : Trm) (d : Int), (piE t).kind ≠ 0 → (piL (opnT vs t d)).length = (piL t).length
  | ⟨k, n, s, ls, l⟩, d, h => by
    by_cases hk : k = 5 ∧ l.length = 2
    · obtain ⟨hk5, hl⟩ := hk
      obtain ⟨x, y, rfl⟩ := z4p hl
      subst hk5
      have hp := z2b (u := ⟨5, n, s, ls, [x, y]⟩) rfl rfl
      have ho : opnT vs ⟨5, n, s, ls, [x, y]⟩ d = ⟨5, n, s, ls, [opnT vs x (d + bndF 5 0), opnT vs y (d + bndF 5 1)]⟩ := by
        simp [opnT, trvT, trvTs]
      have hp2 := z2b (u := opnT vs ⟨5, n, s, ls, [x, y]⟩ d) (x := opnT vs x (d + bndF 5 0)) (y := opnT vs y (d + bndF 5 1)) (by rw [ho]) (by rw [ho])
      rw [hp2.1, hp.1, List.length_cons, List.length_cons, zvd vs y _ (by rw [← hp.2.1]; exact h)]
    · have hp := z2s (u := ⟨k, n, s, ls, l⟩) hk
      rw [hp.2.1] at h
      have h0 : k ≠ 0 := h
      have ho : opnT vs ⟨k, n, s, ls, l⟩ d = ⟨k, n, s, ls, trvTs (opnV vs) k l 0 d⟩ := by simp [opnT, trvT, h0]
      have hp2 := z2s (u := opnT vs ⟨k, n, s, ls, l⟩ d) (by rw [ho]; simp only [z2d]; exact hk)
      rw [hp2.1, hp.1]
termination_by t => SizeOf.sizeOf t
theorem zn7 (by_ : List Lvl) (t : Trm) : (lvsT by_ t).kind = t.kind ∧ (lvsT by_ t).args = t.args.map (lvsT by_) := by
  rw [zcf]; exact ⟨rfl, by simp [z4o]⟩
theorem zse (by_ : List Lvl) : ∀ t : Trm, (piL (lvsT by_ t)).length = (piL t).length ∧ piE (lvsT by_ t) = lvsT by_ (piE t)
  | t => by
    obtain ⟨e1, e2⟩ := zn7 by_ t
    by_cases hk : t.kind = 5 ∧ t.args.length = 2
    · obtain ⟨x, y, ha⟩ := z4p hk.2
      have hp := z2b hk.1 ha
      have hp2 := z2b (u := lvsT by_ t) (x := lvsT by_ x) (y := lvsT by_ y) (by rw [e1]; exact hk.1) (by rw [e2, ha]; rfl)
      have ih := zse by_ y
      rw [hp2.1, hp.1, hp2.2.1, hp.2.1, List.length_cons, List.length_cons, ih.1, ih.2]
      exact ⟨rfl, rfl⟩
    · have hp := z2s hk
      have hp2 := z2s (u := lvsT by_ t) (by rw [e1, e2, List.length_map]; exact hk)
      rw [hp2.1, hp.1, hp2.2.1, hp.2.1]
      exact ⟨rfl, rfl⟩
termination_by t => SizeOf.sizeOf t
decreasing_by exact Trm.lt (by rw [ha]; simp)
theorem zsf (by_ : List Lvl) (t : Trm) : (lvsT by_ t).kind = t.kind := (zn7 by_ t).1
theorem zsg {t : Trm} (h : (headT t).kind = 2) : t.kind ≠ 0 := by
  intro h0
  obtain ⟨k, n, s, ls, l⟩ := t
  simp only at h0
  subst h0
  unfold headT at h; rw [spnT.eq_def] at h; simp at h
theorem zsh (vs : List Trm) (by_ : List Lvl) (field : Trm) (h : (headT (piE field)).kind = 2) : (piL (opnT vs (lvsT by_ field) 0)).length = (piL field).length := by
  have h1 := zse by_ field
  rw [zvd vs _ 0 (by rw [h1.2, zsf]; exact zsg h), h1.1]
theorem z9m : ∀ {l : List Ctr} {s : ByteArray} {k : Nat}, z1t l s = some k → k < l.length ∧ (l.getD k default).name = s
  | [], s, k, h => by cases h
  | c :: r, s, k, h => by
    simp only [z1t] at h
    split at h
    · cases h; rename_i hn; exact ⟨by simp, by simpa using hn⟩
    · cases hc : z1t r s with
      | none => rw [hc] at h; cases h
      | some j =>
        rw [hc] at h
        simp only [Option.map_some, Option.some.injEq] at h
        subst h
        have := z9m hc
        exact ⟨by simp; omega, by simpa using this.2⟩
theorem z7n {p q : List Ctr} {s : ByteArray} (h : z1t p s = none) : z1t (p ++ q) s = (z1t q s).map (· + p.length) := by
  induction p with
  | nil => cases hc : z1t q s <;> simp [hc]
  | cons c r ih =>
    simp only [z1t] at h
    split at h
    · cases h
    · rename_i hn
      have hr : z1t r s = none := by cases hc : z1t r s with | none => rfl | some j => rw [hc] at h; cases h
      simp only [List.cons_append, z1t, if_neg hn, ih hr, Option.map_map, List.length_cons]
      cases z1t q s <;> simp [Nat.add_assoc]
theorem zsi {b : Int} : ∀ (t : Trm) (i : Nat), wfT b t = true → i < (piL t).length → ∃ x y, (piL t)[i]? = some x ∧ (piD i t).kind = 5 ∧ (piD i t).args = [x, y] ∧ piD (i + 1) t = y ∧ wfT b x = true ∧ dpT x ≤ dpT t
  | t, i, hw, hi => by
    by_cases hk : t.kind = 5 ∧ t.args.length = 2
    · obtain ⟨x, y, ha⟩ := z4p hk.2
      have hp := z2b hk.1 ha
      have hx := zy (t := t) (a := x) (by rw [ha]; simp)
      have hy := zy (t := t) (a := y) (by rw [ha]; simp)
      cases i with
      | zero => exact ⟨x, y, by rw [hp.1]; rfl, hk.1, ha, by rw [hp.2.2]; cases y; rfl, (zg hw).sub x (by rw [ha]; simp), by omega⟩
      | succ i =>
        rw [hp.1, List.length_cons] at hi
        obtain ⟨x', y', g1, g2, g3, g4, g5, g6⟩ := zsi y i ((zg hw).sub y (by rw [ha]; simp)) (by omega)
        exact ⟨x', y', by rw [hp.1]; exact g1, by rw [hp.2.2]; exact g2, by rw [hp.2.2]; exact g3, by rw [hp.2.2]; exact g4, g5, by omega⟩
    · rw [(z2s hk).1] at hi; simp at hi
termination_by t => SizeOf.sizeOf t
decreasing_by exact Trm.lt (by rw [ha]; simp)
def addH (out : Trm) : Option Trm → Trm
  | some x => mkA out x
  | none => out
theorem zah (r : RecI) (h : Trm) (args : List Trm) (f b : Trm) : ∀ (fs q ahead : List Trm) (out : Trm), fs.length = q.length → hypsF r h args (fs ++ [f]) ahead (q ++ [b]) out = addH (hypsF r h args fs ahead q out) (hypF r h args f (ahead ++ q) b)
  | [], [], ahead, out, _ => by
    simp only [List.nil_append, hypsF, List.append_nil]
    cases hypF r h args f ahead b <;> rfl
  | g :: fs, c :: q, ahead, out, hl => by
    simp only [List.cons_append, hypsF]
    rw [zah r h args f b fs q (ahead ++ [c]) _ (by simpa using hl)]
    simp
  | [], _ :: _, _, _, hl => by cases hl
  | _ :: _, [], _, _, hl => by cases hl
end Go.Ab
namespace Go.Ab.YtplnabidakjhiaaGreat
open Go Go.RowKit Go.Ab Go.Proofs
def fvI : AV := .fv (.func 127) [] [.ptr 1000 0]
theorem zp9 (c : Ctr) (h : Trm) : Con Tryz.prog 127 [.ag [.p (St c.name), .p (I c.ty.kind), .p (I c.ty.n), .p (St c.ty.name), .p (.sl 3 (encLs c.ty.levels)), .p (.sl 5 (encTs c.ty.args))], .ptr 1000 0] [(1000, ceT h)] (fun r o => r = .p (B (decide (c.name = h.name))) ∧ o = [(1000, ceT h)]) :=
  cv [] [] [1000] Tryz.func127 9 Tryz.ntmps127 rfl rfl fun cx hE => ⟨rfl, rfl⟩
theorem zpa (l : List Ctr) (h : Trm) (hl : l.length ≤ 1000000000000) : Con Tryz.prog 126 [.p (.sl 6 (encCs l)), fvI] [(1000, ceT h)] (fun r o => r = .p (I (((z1t l h.name).map fun i => (i : Int)).getD (-1))) ∧ o = [(1000, ceT h)]) := by
  refine cv [] [] [1000] Tryz.func126 19 Tryz.ntmps126 rfl rfl fun cx hE => fun hl0 => ?_
  refine loopP l (fun p => [(8, .p (I p.length))]) (fun p => []) (fun p => z1t p h.name = none) [8] [] hE rfl rfl rfl ⟨Sub.refl _, rfl, trivial⟩ rfl (fun hn => brOut (by simp [encCs]) ?_) (fun p a q hq hn => ?_)
  · exact ⟨by rw [hn]; rfl, rfl⟩
  · have := zj hq
    refine brIn (by simp [hq, encCs]) (idxN (z1k (f := rowC) hq) (call1 [1000] (zp9 a h) rfl rfl (za _) (brS (fun h1 => ?_) (fun h1 => And.intro (by omega) ?_))))
    · refine ⟨?_, rfl⟩
      rw [hq, z7n hn]
      simp [z1t, h1]
    · refine ⟨?_, Sub.i (by simp), rfl, trivial⟩
      rw [z7n hn]
      simp [z1t, h1]
theorem zpb (l : List Trm) (hl : l.length ≤ 1000000000) : Con Tryz.prog 128 [.p (.sl 5 (encTs l))] [] (fun r o => r = .ts 5 5 (encTs l) ∧ o = [(5, .ar 32 5 (encTs l).length)]) := by
  have hel := zd l
  have hc : Con Tryz.prog 128 [.p (.sl 5 (encTs l))] [] (fun r o => (r = .ts 5 5 (encTs l) ∧ o = [(5, .ar 32 5 (encTs l).length)]) ∨ (r = .p nilS ∧ l = [] ∧ o = [])) := by
    refine cv [5] [] [5,999999] Tryz.func128 8 Tryz.ntmps128 rfl rfl fun cx hE => ?_
    refine fun b hb => brB (fun h1 => Or.inr ?_) (fun h1 => ?_)
    · have h0 : encTs l = [] := hb h1
      exact ⟨rfl, List.eq_nil_of_length_eq_zero (by rw [← hel, h0]; rfl), rfl⟩
    · refine app2 rfl (by simp; omega) (by simp; omega) (Or.inl ⟨rfl, by simp⟩)
  refine hc.le2 fun r o hr => ?_
  rcases hr with ⟨rfl, rfl⟩ | ⟨rfl, rfl, rfl⟩
  · exact ⟨_, _, fun cx n h => Le.refl, rfl, rfl, rfl⟩
  · refine ⟨.ts 5 5 [], [(5, .ar 32 5 0)], fun cx n h => ?_, rfl, by simp [zb], rfl⟩
    exact Le.trans (Le.tok (P := Tryz.prog) (cx := cx) (n := n) (regs := [(0, .p nilS)]) (objs := []) 0 5 32 5 rfl rfl (by rw [h]; rfl)) (Le.mk (.cons rfl (Sub.refl _) .nil) (.cons rfl rfl .nil) rfl)
def zes : Option Trm → AV
  | some u => .tp [tv u, .p (B true)]
  | none => .tp [tv zT, .p (B false)]
set_option maxRecDepth 20000 in
set_option maxHeartbeats 8000000 in
theorem zix (r : RecI) (h : Trm) (args : List Trm) (hg : Gd h) (ha : ∀ a ∈ args, Gd a) (hal : args.length ≤ 268435456) (hf : okE r.fam = true) (hm : r.major < args.length) (hmj : r.p + 1 + r.fam.ctors.length ≤ r.major)
    (major : Trm) (hj : Gd major) : PCon Tryz.prog 77 [.ag (useL h args r.fam r.p r.major), tv major] (zes (iotR r h args major)) := by
  have hel := zd args
  have hhl := zd (argsT major)
  have hjd := hj.d
  have hja := hj.args
  have hcl : (encCs r.fam.ctors).length = r.fam.ctors.length := by simp [encCs]
  simp only [okE, Bool.and_eq_true, decide_eq_true_eq, List.all_eq_true] at hf
  obtain ⟨ho1, ho2, ho3, ho4, ho5, ho6⟩ := hf
  refine cv [] [1000003] [] Tryz.func77 153 Tryz.ntmps77 rfl rfl fun cx hE => ?_
  refine call0 (z5l 1099511627776 major hj.w (by omega)) ?_
  have hno : ∀ {v : AV}, v = .tp [tv zT, .p (B false)] → iotR r h args major = none → v = zes (iotR r h args major) := fun e1 e2 => by rw [e1, e2]; rfl
  refine join1 (A := Unit) (fun _ => [(8, .p (I (if (headT major).kind = 2 then (((z1t r.fam.ctors (headT major).name).map fun i => (i : Int)).getD (-1)) else -1)))]) (fun _ => []) (fun _ => True) [8] [] [] hE rfl rfl rfl ?_ (fun _ _ => ?_)
  · refine brS (fun hk => ?_) (fun hk => ?_)
    · refine callX [6] ((zpa r.fam.ctors (headT major) (by omega)).sw 1000 6) rfl rfl (za _) fun r0 o0 ⟨r1, o1, ⟨e1, e2⟩, e3, e4⟩ => ?_
      subst e1 e2 e3 e4
      exact ⟨(), trivial, leX.same ⟨Sub.i (by rw [if_pos hk]), rfl, rfl, rfl, rfl, trivial⟩⟩
    · exact ⟨(), trivial, leX.same ⟨Sub.i (by rw [if_neg hk]), rfl, rfl, rfl, rfl, trivial⟩⟩
  generalize hkv : (if (headT major).kind = 2 then (((z1t r.fam.ctors (headT major).name).map fun i => (i : Int)).getD (-1)) else -1) = kv
  by_cases hk : (headT major).kind = 2
  case neg =>
    rw [if_neg hk] at hkv
    exact brY (by omega) ⟨hno rfl (by unfold iotR; rw [if_neg hk]), rfl⟩
  rw [if_pos hk] at hkv
  cases hcx : z1t r.fam.ctors (headT major).name with
  | none =>
    rw [hcx] at hkv
    have hkv' : (-1 : Int) = kv := hkv
    exact brY (by omega) ⟨hno rfl (by unfold iotR; rw [if_pos hk, hcx]), rfl⟩
  | some k =>
    rw [hcx] at hkv
    have hkv' : (k : Int) = kv := hkv
    subst hkv'
    obtain ⟨hkl, hkn⟩ := z9m hcx
    have hct : r.fam.ctors[k]? = some (r.fam.ctors.getD k default) := by rw [List.getD_eq_getElem?_getD, List.getElem?_eq_getElem hkl]; rfl
    have hrow : (encCs r.fam.ctors)[k]? = some (rowC (r.fam.ctors.getD k default)) := by rw [encCs, List.getElem?_map, hct]; rfl
    have hcm := List.mem_of_getElem? hct
    have hir : iotR r h args major = if (argsT major).length = r.p + ((piL (r.fam.ctors.getD k default).ty).length - r.p) then
        some (appT (hypsF r h args ((piL (r.fam.ctors.getD k default).ty).drop r.p) [] ((argsT major).drop r.p)
          (appT (args.getD (r.p + 1 + k) zT) ((argsT major).drop r.p))) (args.drop (r.major + 1))) else none := by
      unfold iotR; rw [if_pos hk, hcx]
    generalize r.fam.ctors.getD k default = ctr at *
    have hty := z2j (ho4 ctr hcm).1
    obtain ⟨cn, ty⟩ := ctr
    simp only at hty hir hkn
    refine brZ (by omega) (idxN (i := k) hrow ?_)
    have htd := hty.d
    have htw := hty.w
    have hpl := z3w ty
    refine call0 (zn5 ty (by omega)) (And.intro (by omega) (And.intro (by omega) (brS (fun hne => ⟨hno rfl (by rw [hir, if_neg (by omega)]), rfl⟩) (fun he => ?_))))
    have hlen : (argsT major).length = r.p + ((piL ty).length - r.p) := by omega
    rw [if_pos hlen] at hir
    rw [hir]
    have hF : (encTs (argsT major)).drop ((r.p : Int)).toNat = encTs ((argsT major).drop r.p) := by rw [show ((r.p : Int)).toNat = r.p by omega]; simp [zb]
    have hT : (encTs args).take ((r.p : Int)).toNat = encTs (args.take r.p) := by rw [show ((r.p : Int)).toNat = r.p by omega]; simp [zb]
    have hFl : ((argsT major).drop r.p).length = (piL ty).length - r.p := by rw [List.length_drop]; omega
    have hFg : ∀ a ∈ (argsT major).drop r.p, Gd a := fun a hm => hja.1 a (List.mem_of_mem_drop hm)
    have hFe := zd ((argsT major).drop r.p)
    refine And.intro (by omega) ?_
    rw [hF]
    generalize (argsT major).drop r.p = F at *
    have hi1 : (r.p : Int) + 1 + (k : Int) = ((r.p + 1 + k : Nat) : Int) := by omega
    have hag : args[r.p + 1 + k]? = some (args.getD (r.p + 1 + k) zT) := by rw [List.getD_eq_getElem?_getD, List.getElem?_eq_getElem (by omega)]; rfl
    have hrow2 : (encTs args)[r.p + 1 + k]? = some (rowT (args.getD (r.p + 1 + k) zT)) := by rw [zb, List.getElem?_map, hag]; rfl
    have hog := ha _ (List.mem_of_getElem? hag)
    refine And.intro (by omega) (And.intro (by omega) ?_)
    rw [hi1]
    refine idxN hrow2 (call0 (z2u (args.getD (r.p + 1 + k) zT) F (by omega)) ?_)
    generalize hU0 : appT (args.getD (r.p + 1 + k) zT) F = U0
    refine And.intro (by omega) (call1 [] (zpb (args.take r.p) (by simp; omega)) rfl rfl (.cons (Sub.eq (congrArg (fun x => AV.p (.sl 5 x)) hT)) .nil) ?_)
    refine loop1 (fun (j : Nat) => [(81, .p (I j))]) (fun j => [(9, ceT (piD (if F.length = 0 then 0 else j) ty))]) (fun j => j ≤ r.p) (fun j => r.p - j) 0 [81] [9] hE rfl rfl rfl ⟨Sub.refl _, ?_, rfl, rfl, rfl, rfl, rfl, rfl, trivial⟩ (by omega) fun j hjp => ?_
    · have : piD (if F.length = 0 then 0 else 0) ty = ty := by
        rw [ite_self]; cases ty; rfl
      rw [this]; rfl
    refine brS (fun hjl => ?_) (fun hjl => ?_)
    · refine fun _ => brS (fun hpos => ?_) (fun hpos => And.intro (by omega) ⟨j + 1, by omega, by omega, Sub.i (by simp), ?_, rfl, rfl, rfl, rfl, rfl, rfl, trivial⟩)
      · have hn0 : ¬ F.length = 0 := by omega
        obtain ⟨x, y, g1, g2, g3, g4, g5, g6⟩ := zsi ty j htw (by omega)
        rw [if_neg hn0]
        have r1 : (encTs (piD j ty).args)[1]? = some (rowT y) := by rw [g3]; simp [zb]
        refine idxN (i := 1) r1 (And.intro (by omega) ⟨j + 1, by omega, by omega, Sub.i (by simp), ?_, rfl, rfl, rfl, rfl, rfl, rfl, trivial⟩)
        rw [if_neg hn0, g4]; rfl
      · have hn0 : F.length = 0 := by omega
        rw [if_pos hn0, if_pos hn0]
    · obtain rfl : j = r.p := by omega
      have hb0 : (if F.length = 0 then 0 else r.p) ≤ r.p := by split <;> omega
      generalize hb0e : (if F.length = 0 then 0 else r.p) = b0 at hb0
      have hfl : ((piL ty).drop r.p).length = F.length := by rw [List.length_drop]; omega
      have hend : appT (hypsF r h args (((piL ty).drop r.p).take F.length) [] F U0) (args.drop (r.major + 1)) = appT (hypsF r h args ((piL ty).drop r.p) [] F U0) (args.drop (r.major + 1)) := by rw [List.take_of_length_le (by omega)]
      have hD : (encTs args).drop ((r.major : Int) + 1).toNat = encTs (args.drop (r.major + 1)) := by rw [show ((r.major : Int) + 1).toNat = r.major + 1 by omega]; simp [zb]
      refine fun _ => ?_
      refine loopP F (fun q => [(93, .p (I q.length)), (12, .ts 5 5 (encTs (args.take r.p ++ q)))]) (fun q => [(9, ceT (piD (b0 + q.length) ty)), (11, ceT (hypsF r h args (((piL ty).drop r.p).take q.length) [] q U0)), (5, .ar 32 5 (encTs (args.take r.p ++ q)).length)]) (fun _ => True) [93, 12] [9, 11, 5] hE rfl rfl rfl ⟨Sub.refl _, Sub.eq (congrArg (AV.ts 5 5) (by simp)), rfl, ?_, ar_eq (by simp), rfl, rfl, rfl, rfl, trivial⟩ trivial (fun _ => brTe ?_) (fun q a s hq _ => ?_)
      · have : hypsF r h args (((piL ty).drop r.p).take 0) [] [] U0 = U0 := by simp [hypsF]
        simp only [List.length_nil]
        rw [this]; rfl
      · refine And.intro (by omega) (And.intro (by omega) (callR [] (z2u (hypsF r h args (((piL ty).drop r.p).take F.length) [] F U0) (args.drop (r.major + 1)) (by simp; omega)) rfl rfl (.cons (Sub.refl _) (.cons (Sub.eq (congrArg (fun x => AV.p (.sl 5 x)) hD)) .nil)) ⟨?_, rfl⟩))
        rw [hend]; rfl
      · have hqlt := zj hq
        have hb1 : b0 = r.p := by rw [← hb0e, if_neg (by omega)]
        rw [hb1]
        clear hb0 hb0e
        obtain ⟨x, y, g1, g2, g3, g4, g5, g6⟩ := zsi ty (r.p + q.length) htw (by omega)
        have r0 : (encTs (piD (r.p + q.length) ty).args)[0]? = some (rowT x) := by rw [g3]; simp [zb]
        have r1 : (encTs (piD (r.p + q.length) ty).args)[1]? = some (rowT y) := by rw [g3]; simp [zb]
        have hfx : ((piL ty).drop r.p)[q.length]? = some x := by rw [List.getElem?_drop]; exact g1
        have hsn : hypsF r h args (((piL ty).drop r.p).take (q ++ [a]).length) [] (q ++ [a]) U0 = addH (hypsF r h args (((piL ty).drop r.p).take q.length) [] q U0) (hypF r h args x q a) := by
          rw [List.length_append, List.length_singleton, z1q hfx, zah r h args x a _ q [] U0 (by rw [List.length_take]; omega), List.nil_append]
        generalize hypsF r h args (((piL ty).drop r.p).take q.length) [] q U0 = U at *
        have hxe := (pi_wf x g5).2
        have hxp := z3w x
        have hga := hFg a (zf hq)
        have hgq : ∀ v ∈ args.take r.p ++ q, wfT 1099511627776 v = true ∧ dpT v ≤ 268435456 := fun v hv => by
          rcases List.mem_append.1 hv with hv | hv
          · have := ha v (List.mem_of_mem_take hv); exact ⟨this.w, this.d⟩
          · have := hFg v (by rw [hq]; simp [hv]); exact ⟨this.w, this.d⟩
        have hlq : (args.take r.p ++ q).length ≤ 1000000000 := by
          have h1 : q.length ≤ F.length := by omega
          have h2 : (args.take r.p).length ≤ args.length := by simp; omega
          rw [List.length_append]; omega
        have hlen5 := zd (args.take r.p ++ q)
        have hnl : ∀ l ∈ h.levels, narL l = true := (zg hg.w).nar
        have hlw := za4 (b := 1099511627776) hnl x g5
        have hld := zeq h.levels x
        have how := zn1 (b := 1099511627776) (c := 1099512627776) (D := 1000000) (d := 0) (vs := args.take r.p ++ q) (by omega) (by rw [hld]; omega) (by omega) (fun v hv => (hgq v hv).1) hlw
        have hod := ziq (M := 268435456) (fun v hv => (hgq v hv).2) (lvsT h.levels x) 0
        have hno2 : ¬ ((headT (piE x)).kind = 2 ∧ (headT (piE x)).name = r.fam.name) → hypF r h args x q a = none := fun hn => by unfold hypF; rw [if_neg hn]
        have hty1 : piD (r.p + (q ++ [a]).length) ty = y := by rw [List.length_append, List.length_singleton]; exact g4
        have hts : encTs (args.take r.p ++ q) ++ [[I a.kind, I a.n, St a.name, .sl 3 (encLs a.levels), .sl 5 (encTs a.args)]] = encTs (args.take r.p ++ (q ++ [a])) := by rw [z1c, List.append_assoc]
        have hta := congrArg List.length hts
        rw [List.length_append] at hta
        refine brT' hq (idxT hq (idxN (i := 0) r0 (call0 (zun x) (call0 (z5l 1099511627776 (piE x) hxe (by omega)) ?_))))
        refine brS (fun h2 => brS (fun h3 => ?_) (fun h3 => ?_)) (fun h2 => ?_)
        · have hhy : hypF r h args x q a = some (hypT h args r.p r.fam.ctors.length (opnT (args.take r.p ++ q) (lvsT h.levels x) 0) a) := by
            unfold hypF hypT
            rw [if_pos ⟨h2, h3⟩, zsh _ _ x h2]
          refine idxN (i := 0) r0 (call0 (z8c h.levels hnl 1099511627776 x g5) (callR [] (zim 1099511627776 (by omega) (args.take r.p ++ q) (fun v hv => ⟨(hgq v hv).1, by have := (hgq v hv).2; omega⟩) (by omega) (lvsT h.levels x) (by rw [hld]; omega) hlw) rfl rfl (.cons (Sub.refl _) (.cons Sub.ts .nil)) ?_))
          refine callR [] (zuq 1099512627776 (by omega) h args r.fam r.p r.major _ a how (by rw [hld] at hod; omega) (zu (by omega) a hga.w) (by have := hga.d; omega) (fun v hv => ⟨zu (by omega) v (ha v hv).w, by have := (ha v hv).d; omega⟩) (by omega) (by omega) (by omega)) rfl rfl (za _) ?_
          refine call0 (zdc U _) ?_
          exact app1 (by simp; omega) (by simp; omega) (idxN (i := 1) r1 (And.intro (by omega) ⟨trivial, Sub.i (by simp), Sub.eq (congrArg (AV.ts 5 5) hts), by rw [hty1]; rfl, by rw [hsn, hhy]; rfl, ar_eq hta, rfl, rfl, rfl, rfl, trivial⟩))
        · exact app1 (by simp; omega) (by simp; omega) (idxN (i := 1) r1 (And.intro (by omega) ⟨trivial, Sub.i (by simp), Sub.eq (congrArg (AV.ts 5 5) hts), by rw [hty1]; rfl, by rw [hsn, hno2 (fun hc => h3 hc.2)]; rfl, ar_eq hta, rfl, rfl, rfl, rfl, trivial⟩))
        · exact app1 (by simp; omega) (by simp; omega) (idxN (i := 1) r1 (And.intro (by omega) ⟨trivial, Sub.i (by simp), Sub.eq (congrArg (AV.ts 5 5) hts), by rw [hty1]; rfl, by rw [hsn, hno2 (fun hc => h2 hc.1)]; rfl, ar_eq hta, rfl, rfl, rfl, rfl, trivial⟩))
end Go.Ab.YtplnabidakjhiaaGreat
namespace Go.Ab
open Go Go.RowKit
def Fu (f f' : Int) : Prop := f' = f ∨ 0 ≤ f' ∧ f' ≤ f
theorem Fu.refl (f : Int) : Fu f f := .inl rfl
theorem Fu.trans {a b c : Int} (h : Fu a b) (k : Fu b c) : Fu a c := by unfold Fu at *; omega
theorem z9n {c f : Int} {u u' : Trm} {did : Bool} {f' e : Int} (h : mdF c f u = some (u', did, f', e)) : Gd u' ∧ Fu f f' := by
  unfold mdF at h
  split at h
  · cases h; exact ⟨zT_gd, .inl rfl⟩
  · rename_i hf
    split at h
    · rename_i hg
      split at h
      · cases h; exact ⟨gdT_iff.1 hg, .inr (by omega)⟩
      · cases h; exact ⟨zT_gd, .inr (by omega)⟩
    · cases h
theorem z9o {ds : List Dcl} {c : Int} {wh : Trm → Int → Option WR} (hw : ∀ t f u f' e, Gd t → wh t f = some (u, f', e) → Gd u ∧ Fu f f') {t : Trm} {f : Int} (hg : Gd t) {u : Trm} {did : Bool} {f' e : Int} (h : onF ds c wh t f = some (u, did, f', e)) : Gd u ∧ Fu f f' := by
  unfold onF at h
  split at h
  · exact z9n h
  · split at h
    · exact z9n h
    · split at h
      · split at h
        · cases h; exact ⟨hg, .inl rfl⟩
        · split at h
          · exact z9n h
          · split at h
            · cases h; exact ⟨hg, .inl rfl⟩
            · rename_i r hr
              split at h
              · split at h
                · cases h
                · rename_i m f1 e1 hm
                  have h1 := hw _ _ _ _ _ (Gd.getD hg.args.1 _) hm
                  split at h
                  · cases h; exact ⟨zT_gd, h1.2⟩
                  · split at h
                    · have h2 := z9n h
                      exact ⟨h2.1, h1.2.trans h2.2⟩
                    · cases h; exact ⟨hg, h1.2⟩
              · cases h; exact ⟨hg, .inl rfl⟩
      · cases h; exact ⟨hg, .inl rfl⟩
theorem z3b {ds : List Dcl} {c : Int} : ∀ (g : Nat) (t : Trm) (f : Int) (u : Trm) (f' e : Int), Gd t → whF ds c g t f = some (u, f', e) → Gd u ∧ Fu f f'
  | 0, _, _, _, _, _, _, h => by cases h
  | g + 1, t, f, u, f', e, hg, h => by
    simp only [whF] at h
    split at h
    · cases h
    · rename_i u1 did f1 e1 ho
      have h1 := z9o (fun t f u f' e => z3b g t f u f' e) hg ho
      split at h
      · cases h; exact ⟨zT_gd, h1.2⟩
      · split at h
        · have h2 := z3b g u1 f1 u f' e h1.1 h
          exact ⟨h2.1, h1.2.trans h2.2⟩
        · cases h; exact h1
theorem zb6 {c f : Int} {u u' : Trm} {f' : Int} (h : mdF c f u = some (u', false, f', 0)) : False := by
  unfold mdF at h
  split at h
  · cases h
  · split at h
    · split at h <;> cases h
    · cases h
theorem zur {ds : List Dcl} {c : Int} {wh : Trm → Int → Option WR} {t : Trm} {f : Int} {u : Trm} {f' : Int} (h : onF ds c wh t f = some (u, false, f', 0)) : u = t := by
  unfold onF at h
  split at h
  · exact (zb6 h).elim
  · split at h
    · exact (zb6 h).elim
    · split at h
      · split at h
        · cases h; rfl
        · split at h
          · exact (zb6 h).elim
          · split at h
            · cases h; rfl
            · split at h
              · split at h
                · cases h
                · split at h
                  · rename_i he
                    simp only [Option.some.injEq, Prod.mk.injEq] at h
                    exact absurd h.2.2.2 he
                  · split at h
                    · exact (zb6 h).elim
                    · cases h; rfl
              · cases h; rfl
      · cases h; rfl
theorem z5m {ds : List Dcl} {h : Trm} {r : RecI} (hr : z1v ds h = some r) : r.fam ∈ ds ∧ r.p + 1 + r.fam.ctors.length ≤ r.major := by
  unfold z1v at hr
  split at hr
  · split at hr
    · cases hr
    · split at hr
      · split at hr
        · cases hr
        · rename_i f hf
          split at hr
          · cases hr; exact ⟨List.mem_of_find?_eq_some hf, by simp only; omega⟩
          · cases hr
      · cases hr
  · cases hr
end Go.Ab
namespace Go.Ab.YtplnabidakjhiaaGreat
open Go Go.RowKit Go.Ab Go.Proofs
section
variable (ds : List Dcl) (pv ov : Nat) (pl : Option (List (ByteArray × Int)))
def WhCon (c : Int) (t : Trm) (f : Int) (x : WR) : Prop := Con Tryz.prog 52 [.ptr 1000 0, tv t] (runO ds pv ov pl f c) (fun r o => r = .tp [tv x.1, .p (I x.2.2)] ∧ o = runO ds pv ov pl x.2.1 c)
def orV (x : OR) : AV := .tp [tv x.1, .p (B x.2.1), .p (I x.2.2.2)]
def OnCon (c : Int) (t : Trm) (f : Int) (x : OR) : Prop := Con Tryz.prog 71 [.ptr 1000 0, tv t] (runO ds pv ov pl f c) (fun r o => r = orV x ∧ o = runO ds pv ov pl x.2.2.1 c)
theorem zsj {c f : Int} {u : Trm} {x : OR} (h : mdF c f u = some x) : mdV c f u = orV x ∧ stM f = x.2.2.1 := by
  unfold mdF at h
  unfold mdV stM orV
  split at h
  · rename_i hf; cases h; rw [if_pos hf, if_pos hf]; exact ⟨rfl, rfl⟩
  · rename_i hf
    rw [if_neg hf, if_neg hf]
    split at h
    · unfold fitV
      split at h
      · rename_i hft; cases h; rw [if_pos hft, if_pos hft, hft]; exact ⟨rfl, rfl⟩
      · rename_i hft; cases h; rw [if_neg hft, if_neg hft, Bool.eq_false_iff.2 hft]; exact ⟨rfl, rfl⟩
    · cases h
theorem Mt.fu {f f' c : Int} (h : Mt f c) (k : Fu f f') : Mt f' c := by
  have := h.f0; have := h.f1
  unfold Fu at k
  exact ⟨by omega, by omega, h.c0, h.c1⟩
def rcF (c : Int) (wh : Trm → Int → Option WR) (t : Trm) (f : Int) : Option OR :=
  match lookF ds t with
  | none => some (t, false, f, 0)
  | some r => match wh ((argsT t).getD r.major zT) f with
    | none => none
    | some (m, f', e) => if e ≠ 0 then some (zT, false, f', e) else (match iotR r (headT t) (argsT t) m with
      | some u => mdF c f' u
      | none => some (t, false, f', 0))
set_option maxRecDepth 20000 in
set_option maxHeartbeats 4000000 in
theorem zus (h : EnvG ds pl) (c : Int) (wh : Trm → Int → Option WR) (hk : ∀ t f u f' e, Gd t → wh t f = some (u, f', e) → Gd u ∧ Fu f f') (t : Trm) (hg : Gd t) (f : Int) (hm : Mt f c) (ih : ∀ t f x, Gd t → Mt f c → wh t f = some x → WhCon ds pv ov pl c t f x) (x : OR) (hx : rcF ds c wh t f = some x) :
    Con Tryz.prog 117 [.ptr 1000 0, tv t] (runO ds pv ov pl f c) (fun r o => r = orV x ∧ o = runO ds pv ov pl x.2.2.1 c) := by
  have hal := hg.args
  have hel := zd (argsT t)
  unfold rcF at hx
  refine cv [] [] [1000,1004,1005,1006,1007] Tryz.func117 62 Tryz.ntmps117 rfl rfl fun cx hE => callR [1004, 1005, 1006, 1007] (ziu ds pv ov pl h t hg) rfl rfl (za _) ?_
  cases hl : lookF ds t with
  | none =>
    rw [hl] at hx; cases hx
    exact brB (fun _ => ⟨rfl, rfl⟩) (fun h => by cases h)
  | some r =>
    rw [hl] at hx
    simp only at hx
    have hr : z1v ds (headT t) = some r ∧ r.major < (argsT t).length := by
      unfold lookF at hl
      cases hi : z1v ds (headT t) with
      | none => rw [hi] at hl; cases hl
      | some r' =>
        rw [hi] at hl
        simp only [Option.bind_some] at hl
        split at hl
        · cases hl; exact ⟨rfl, by assumption⟩
        · cases hl
    obtain ⟨hrf, hrm⟩ := z5m hr.1
    have hag : (argsT t)[r.major]? = some ((argsT t).getD r.major zT) := by rw [List.getD_eq_getElem?_getD, List.getElem?_eq_getElem hr.2]; rfl
    have hrow : (encTs (argsT t))[r.major]? = some (rowT ((argsT t).getD r.major zT)) := by rw [zb, List.getElem?_map, hag]; rfl
    have hgd := Gd.getD hal.1 r.major
    cases hw : wh ((argsT t).getD r.major zT) f with
    | none => rw [hw] at hx; cases hx
    | some y =>
      obtain ⟨m, f1, e⟩ := y
      rw [hw] at hx
      simp only at hx
      have hmk := hk _ _ _ _ _ hgd hw
      refine brB (fun h => by cases h) (fun _ => idxN (i := r.major) hrow (call1 [1000, 1004, 1005, 1006, 1007] (ih _ f _ hgd hm hw) rfl rfl (za _) (brS (fun he => ?_) (fun he => ?_))))
      · rw [if_pos he] at hx; cases hx
        exact ⟨rfl, rfl⟩
      · rw [if_neg he] at hx
        refine call0 (zix r (headT t) (argsT t) hg.head hal.1 hal.2 (h.g _ hrf) hr.2 hrm m hmk.1) ?_
        cases hio : iotR r (headT t) (argsT t) m with
        | none =>
          rw [hio] at hx; cases hx
          exact brB (fun _ => ⟨rfl, rfl⟩) (fun h => by cases h)
        | some u =>
          rw [hio] at hx
          simp only at hx
          obtain ⟨e1, e2⟩ := zsj hx
          rw [← e1, ← e2]
          have hm1 := Mt.fu hm hmk.2
          refine brB (fun h => by cases h) (fun _ => call1 [1000, 1004, 1005, 1006, 1007] (zda ds pv ov pl f1 c hm1) rfl rfl (za _) (brS (fun hs => ⟨?_, rfl⟩) (fun hs => ?_)))
          · have hf : f1 ≤ 0 := Classical.byContradiction fun hn => hs (by unfold stE; rw [if_neg hn])
            unfold mdV stE; rw [if_pos hf, if_pos hf]; rfl
          · have hf : ¬ f1 ≤ 0 := fun hn => hs (by unfold stE; rw [if_pos hn]; decide)
            unfold mdV; rw [if_neg hf]
            have := hm1.f1
            have e3 : stM f1 = f1 - 1 := by unfold stM; rw [if_neg hf]
            exact call1 [1000, 1004, 1005, 1006, 1007] (zdb ds pv ov pl (stM f1) c ⟨by omega, by omega, hm.c0, hm.c1⟩ u) rfl rfl (za _) ⟨rfl, rfl⟩
theorem zsk {c : Int} {wh : Trm → Int → Option WR} {t : Trm} {f : Int} {d : Dcl} (h2 : (headT t).kind = 2) (hd : findD ds (headT t).name = some d) (hk : ¬ (d.kind = 2 ∧ d.params = (headT t).levels.length)) : onF ds c wh t f = rcF ds c wh t f := by
  unfold onF rcF
  rw [if_neg (fun hc => by omega), if_neg (by omega), if_pos h2, hd]
  simp only
  rw [if_neg hk]
  unfold lookF
  cases hi : z1v ds (headT t) with
  | none => rfl
  | some r =>
    simp only [Option.bind_some]
    by_cases hl : r.major < (argsT t).length
    · rw [if_pos hl, if_pos hl]
      simp only
      cases wh ((argsT t).getD r.major zT) f with
      | none => rfl
      | some y =>
        obtain ⟨m, f1, e⟩ := y
        simp only
        by_cases he : e ≠ 0
        · rw [if_pos he, if_pos he]
        · rw [if_neg he, if_neg he, z9l, hi]
          simp only [Option.bind_some, if_pos hl]
          all_goals rfl
    · rw [if_neg hl, if_neg hl]
theorem zn8 {l : List Trm} (h : l.length = 3) : ∃ x y z, l = [x, y, z] := by
  match l, h with
  | [x, y, z], _ => exact ⟨x, y, z, rfl⟩
set_option maxRecDepth 20000 in
set_option maxHeartbeats 8000000 in
theorem ziy (h : EnvG ds pl) (c : Int) (wh : Trm → Int → Option WR) (hk : ∀ t f u f' e, Gd t → wh t f = some (u, f', e) → Gd u ∧ Fu f f') (t : Trm) (hg : Gd t) (f : Int) (hm : Mt f c) (ih : ∀ t f x, Gd t → Mt f c → wh t f = some x → WhCon ds pv ov pl c t f x) (x : OR) (hx : onF ds c wh t f = some x) :
    OnCon ds pv ov pl c t f x := by
  have hal := hg.args
  have hel := zd (argsT t)
  have hhg := hg.head
  have hd := hg.d
  have hll := zr (headT t).levels
  have hlf := (zg hhg.w).few
  unfold OnCon
  have hstay : ∀ {y : OR}, some (t, false, f, (0 : Int)) = some y → y = (t, false, f, 0) := fun e => by cases e; rfl
  refine cv [] [] [1000,1004,1005,1006,1007] Tryz.func71 122 Tryz.ntmps71 rfl rfl fun cx hE => call0 (z5l 1099511627776 t hg.w (by omega)) ?_
  have beta : ∀ (body v : Trm) (l : List Trm), Gd body → Gd v → l.length ≤ 1000000000 → mdF c f (appT (opnT [v] body 0) l) = some x → Con Tryz.prog 111 [.ptr 1000 0, tv body, tv v, .p (.sl 5 (encTs l))] (runO ds pv ov pl f c) (fun r o => r = orV x ∧ o = runO ds pv ov pl x.2.2.1 c) := fun body v l g1 g2 g3 e => by
    have hb := zs9 ds pv ov pl f c hm body v g1 g2 l g3
    obtain ⟨e1, e2⟩ := zsj e
    rw [e1, e2] at hb
    exact hb
  have stuck : ¬ ((headT t).kind = 4 ∧ argsT t ≠ []) → (headT t).kind ≠ 6 → (headT t).kind ≠ 2 → x = (t, false, f, 0) := fun n1 n2 n3 => by
    unfold onF at hx
    rw [if_neg n1, if_neg n2, if_neg n3] at hx
    exact hstay hx
  have letb : (headT t).kind = 6 → ∃ a b d, (headT t).args = [a, b, d] ∧ mdF c f (appT (opnT [b] d 0) (argsT t)) = some x ∧ Gd b ∧ Gd d := fun hk6 => by
    have hn := (zg hhg.w).args
    have h3 : (headT t).args.length = 3 := by rw [hk6] at hn; unfold argF at hn; simp at hn; omega
    obtain ⟨a, b, d, ha⟩ := zn8 h3
    refine ⟨a, b, d, ha, ?_, hhg.sub (by rw [ha]; simp), hhg.sub (by rw [ha]; simp)⟩
    unfold onF at hx
    rw [if_neg (fun hc => by omega), if_pos hk6, ha] at hx
    exact hx
  refine brS (fun h4 => fun _ => brS (fun h5 => ?_) (fun h5 => ?_)) (fun h4 => ?_)
  · have hne : argsT t ≠ [] := fun hn => by
      have : (argsT t).length = 0 := by rw [hn]; rfl
      omega
    obtain ⟨a0, rest, har⟩ := List.exists_cons_of_ne_nil hne
    obtain ⟨ty, body, hba⟩ := z9h hhg.w (.inr (.inl h4))
    have hrl : rest.length ≤ 1000000000 := by have := hal.2; rw [har] at this; simp at this; omega
    unfold onF at hx
    rw [if_pos ⟨h4, hne⟩, har, hba] at hx
    simp only [List.getD_cons_zero, List.getD_cons_succ, List.drop_one, List.tail_cons] at hx
    have hb := beta body a0 rest (hhg.sub (by rw [hba]; simp)) (hal.1 a0 (by rw [har]; simp)) hrl hx
    have r1 : (encTs (headT t).args)[1]? = some (rowT body) := by rw [hba]; simp [zb]
    have r0 : (encTs (argsT t))[0]? = some (rowT a0) := by rw [har]; simp [zb]
    have hD : (encTs (argsT t)).drop (1 : Int).toNat = encTs rest := by rw [har]; simp [zb]
    exact idxN (i := 1) r1 (idxN (i := 0) r0 (And.intro (by omega) (callW [1000, 1004, 1005, 1006, 1007] 1000 (.ce 85 [.ptr 1004 0, .p (I x.2.2.1), .p (I c)]) hb rfl rfl (.cons (Sub.refl _) (.cons (Sub.refl _) (.cons (Sub.refl _) (.cons (Sub.eq (congrArg (fun x => AV.p (.sl 5 x)) hD)) .nil)))) rfl rfl ⟨rfl, rfl⟩)))
  · have hn : argsT t = [] := List.eq_nil_of_length_eq_zero (by omega)
    rw [stuck (fun hc => hc.2 hn) (by omega) (by omega)]
    exact brZ (by omega) (brY (by omega) ⟨rfl, rfl⟩)
  · refine brS (fun h6 => ?_) (fun h6 => ?_)
    · obtain ⟨a, b, d, ha, hmd, g1, g2⟩ := letb h6
      have hb := beta d b (argsT t) g2 g1 (by omega) hmd
      have r2 : (encTs (headT t).args)[2]? = some (rowT d) := by rw [ha]; simp [zb]
      have r1 : (encTs (headT t).args)[1]? = some (rowT b) := by rw [ha]; simp [zb]
      exact idxN (i := 2) r2 (idxN (i := 1) r1 (callW [1000, 1004, 1005, 1006, 1007] 1000 (.ce 85 [.ptr 1004 0, .p (I x.2.2.1), .p (I c)]) hb rfl rfl (za _) rfl rfl ⟨rfl, rfl⟩))
    · refine brS (fun h2 => ?_) (fun h2 => ?_)
      · rw [stuck (fun hc => h4 hc.1) h6 h2]
        exact ⟨rfl, rfl⟩
      · have hk2 : (headT t).kind = 2 := Classical.byContradiction fun hn => h2 hn
        refine callR [1004, 1005, 1006, 1007] (zag ds pv ov pl h (headT t).name) rfl rfl (za _) ?_
        have hon : ∀ y, onF ds c wh t f = some y → x = y := fun y hy => by rw [hx] at hy; cases hy; rfl
        cases hf : findD ds (headT t).name with
        | none =>
          have : x = (t, false, f, 0) := hon _ (by unfold onF; rw [if_neg (fun hc => by omega), if_neg h6, if_pos hk2, hf])
          rw [this]
          exact ⟨rfl, rfl⟩
        | some d =>
          have hdo := h.g d (z3a hf)
          simp only [okE, Bool.and_eq_true, decide_eq_true_eq, List.all_eq_true] at hdo
          obtain ⟨ho1, ho2, ho3, ho4, ho5, ho6⟩ := hdo
          have hvf := z2j ho2
          have hrec : ¬ (d.kind = 2 ∧ d.params = (headT t).levels.length) → rcF ds c wh t f = some x := fun hn => by rw [← zsk ds hk2 hf hn]; exact hx
          have hnoR : ¬ (d.kind = 5 ∧ d.params = (headT t).levels.length) → ¬ (d.kind = 2 ∧ d.params = (headT t).levels.length) → x = (t, false, f, 0) := fun n1 n2 => by
            have h1 := hrec n2
            have h3 : lookF ds t = none := by
              unfold lookF z1v
              rw [if_pos hk2, hf]
              simp only
              rw [if_neg n1]; rfl
            unfold rcF at h1
            rw [h3] at h1
            exact hstay h1
          refine brS (fun hp => ?_) (fun hp => ?_)
          · rw [hnoR (fun hc => hp (by rw [hll, hc.2])) (fun hc => hp (by rw [hll, hc.2]))]
            exact ⟨rfl, rfl⟩
          have hpp : d.params = (headT t).levels.length := by omega
          refine brS (fun hd2 => ?_) (fun hd2 => ?_)
          · have hmd : mdF c f (appT (lvsT (headT t).levels d.value) (argsT t)) = some x := by
              unfold onF at hx
              rw [if_neg (fun hc => by omega), if_neg h6, if_pos hk2, hf] at hx
              simp only at hx
              rw [if_pos ⟨hd2, hpp⟩] at hx
              exact hx
            obtain ⟨e1, e2⟩ := zsj hmd
            rw [← e1, ← e2]
            refine call1 [1000, 1004, 1005, 1006, 1007] (zda ds pv ov pl f c hm) rfl rfl (za _) (brS (fun hs => ⟨?_, rfl⟩) (fun hs => ?_))
            · have hf0 : f ≤ 0 := Classical.byContradiction fun hn => hs (by unfold stE; rw [if_neg hn])
              unfold mdV stE; rw [if_pos hf0, if_pos hf0]; rfl
            · have hf0 : ¬ f ≤ 0 := fun hn => hs (by unfold stE; rw [if_pos hn]; decide)
              unfold mdV; rw [if_neg hf0]
              have := hm.f1
              have e3 : stM f = f - 1 := by unfold stM; rw [if_neg hf0]
              exact call0 (z8c (headT t).levels (zg hhg.w).nar 1099511627776 d.value hvf.w) (call0 (z2u _ (argsT t) (by omega)) (callR [1000, 1004, 1005, 1006, 1007] (zdb ds pv ov pl (stM f) c ⟨by omega, by omega, hm.c0, hm.c1⟩ _) rfl rfl (za _) ⟨rfl, rfl⟩))
          · refine brS (fun hd5 => ?_) (fun hd5 => ?_)
            · exact call1 [1000, 1004, 1005, 1006, 1007] (zus ds pv ov pl h c wh hk t hg f hm ih x (hrec (fun hc => hd2 hc.1))) rfl rfl (za _) ⟨rfl, rfl⟩
            · rw [hnoR (fun hc => hd5 hc.1) (fun hc => hd2 hc.1)]
              exact ⟨rfl, rfl⟩
theorem ziz (h : EnvG ds pl) (c : Int) (g : Nat) : ∀ (t : Trm) (f : Int) (x : WR), Gd t → Mt f c → whF ds c g t f = some x → WhCon ds pv ov pl c t f x := by
  induction g using Nat.strongRecOn with
  | _ G IH =>
    intro t f x hg hm hx
    have key : ∀ (k : Nat), k < G → ∀ (u : Trm) (f' : Int), Gd u → Mt f' c → ∀ y, onF ds c (whF ds c k) u f' = some y → OnCon ds pv ov pl c u f' y := fun k hk u f' g1 m1 y hy => ziy ds pv ov pl h c (whF ds c k) (fun t f u f' e => z3b k t f u f' e) u g1 f' m1 (fun t f x => IH k hk t f x) y hy
    unfold WhCon
    refine cv [] [] [1000,1004,1005,1006,1007] Tryz.func52 26 Tryz.ntmps52 rfl rfl fun cx hE => ?_
    refine loop3 (fun (u : Trm) (f' : Int) (k : Nat) => []) (fun u f' k => [(3, ceT u), (1000, .ce 85 [.ptr 1004 0, .p (I f'), .p (I c)])]) (fun u f' k => Gd u ∧ Mt f' c ∧ k ≤ G ∧ whF ds c k u f' = some x) (fun u f' k => k) t f G [] [3, 1000] hE rfl rfl rfl ⟨rfl, rfl, rfl, rfl, rfl, rfl, rfl, trivial⟩ ⟨hg, hm, Nat.le_refl _, hx⟩ fun u f' k ⟨g1, g2, g3, g4⟩ => ?_
    cases k with
    | zero => cases g4
    | succ k =>
      simp only [whF] at g4
      cases ho : onF ds c (whF ds c k) u f' with
      | none => rw [ho] at g4; cases g4
      | some y =>
        obtain ⟨u1, did, f1, e⟩ := y
        rw [ho] at g4
        simp only at g4
        have hkp := z9o (fun t f u f' e => z3b k t f u f' e) g1 ho
        refine call1 [1000, 1004, 1005, 1006, 1007] (key k (by omega) u f' g1 g2 _ ho) rfl rfl (za _) (brS (fun he => ?_) (fun he => ?_))
        · rw [if_pos he] at g4; cases g4
          exact ⟨rfl, rfl⟩
        · rw [if_neg he] at g4
          refine brB (fun hn => ?_) (fun hn => ?_)
          · have hd : did = false := by simpa using hn
            subst hd
            have he0 : e = 0 := Classical.byContradiction fun hc => he hc
            subst he0
            have hu := zur ho
            subst hu
            cases g4
            exact ⟨rfl, rfl⟩
          · have hd : did = true := by simpa using hn
            subst hd
            exact ⟨u1, f1, k, ⟨hkp.1, Mt.fu g2 hkp.2, by omega, g4⟩, by omega, rfl, rfl, rfl, rfl, rfl, rfl, rfl, trivial⟩
end
theorem zn9 (l : List Trm) (hl : l.length ≤ 1000) : PCon Tryz.prog 51 [.p (.sl 5 (encTs l))] (.p (B (!(l.all okW)))) := by
  refine cv [] [] [] Tryz.func51 25 Tryz.ntmps51 rfl rfl fun cx hE => fun _ => ?_
  refine loopP l (fun p => [(9, .p (I p.length))]) (fun p => []) (fun p => p.all okW = true) [9] [] hE rfl rfl rfl ⟨Sub.refl _, trivial⟩ rfl (fun hp => brTe ⟨B_eq (by rw [hp]; rfl), rfl⟩) (fun p a q hq hp => ?_)
  have := zj hq
  have hno : okW a = false → l.all okW = false := fun h => by rw [hq]; simp [h]
  refine brT' hq (idxT hq (call0 (zhl a 1048576 (by omega) (by omega)) (brB (fun h1 => ?_) (fun h1 => brS (fun h2 => ?_) (fun h2 => And.intro (by omega) ?_)))))
  · have h1' : (thrT 1048576 a 0).1 = false := by simpa using h1
    exact ⟨B_eq (by rw [hno (by unfold okW; rw [h1']; rfl)]; rfl), rfl⟩
  · exact ⟨B_eq (by rw [hno (by unfold okW; simp; intro _; omega)]; rfl), rfl⟩
  · have h1' : (thrT 1048576 a 0).1 = true := by simpa using h1
    refine ⟨?_, Sub.i (by simp), trivial⟩
    rw [List.all_append, hp]
    simp [okW, h1']
    omega
theorem zj0 (t : Trm) (h : okW t = true) : PCon Tryz.prog 51 [.p (.sl 5 [rowT t])] (.p (B false)) := by
  have := zn9 [t] (by simp)
  rw [show encTs [t] = [rowT t] by simp [zb]] at this
  simpa [h] using this
section
variable (ds : List Dcl) (pv ov : Nat) (pl : Option (List (ByteArray × Int)))
def xwV (c : Int) (x : WR) : AV := .tp [tv x.1, mv x.2.1 c, .p (I x.2.2)]
def onV (c : Int) (x : OR) : AV := .tp [tv x.1, .p (B x.2.1), mv x.2.2.1 c, .p (I x.2.2.2)]
theorem zdd (h : EnvG ds pl) (t : Trm) (ht : okW t = true) (hg : Gd t) (f c : Int) (hm : Mt f c) (g : Nat) (x : WR) (hx : whF ds c g t f = some x) :
    Con Tryz.prog 20 [.ptr 1004 0, tv t, mv f c] (envQ 1004 [] ds pv pl ov (odO ds)) (fun r o => r = xwV c x ∧ o = envQ 1004 [] ds pv pl ov (odO ds)) := by
  have hk := z3b g t f x.1 x.2.1 x.2.2 hg hx
  have hc : WhCon ds pv ov pl c t f x := ziz ds pv ov pl h c g t f x hg hm hx
  refine cv [] [] [1004,1005,1006,1007] Tryz.func20 32 Tryz.ntmps20 rfl rfl fun cx hE => call0 (zj0 t ht) ?_
  refine brB (fun h => by cases h) (fun _ => ?_)
  refine callX [18, 1004, 1005, 1006, 1007] (Con.sw hc 1000 18) rfl rfl (za _) fun r o ⟨r0, o0, ⟨e1, e2⟩, e3, e4⟩ => ?_
  subst e1 e2 e3 e4
  exact call0 (z7b x.1 (z5y _ hk.1.w)) ⟨rfl, rfl⟩
theorem zsl (h : EnvG ds pl) (t : Trm) (ht : okW t = true) (hg : Gd t) (f c : Int) (hm : Mt f c) (g : Nat) (x : OR) (hx : onF ds c (whF ds c g) t f = some x) :
    Con Tryz.prog 36 [.ptr 1004 0, tv t, mv f c] (envQ 1004 [] ds pv pl ov (odO ds)) (fun r o => r = onV c x ∧ o = envQ 1004 [] ds pv pl ov (odO ds)) := by
  have hkk := fun t f u f' e => z3b (ds := ds) (c := c) g t f u f' e
  have hk := z9o hkk hg hx
  have hc : OnCon ds pv ov pl c t f x := ziy ds pv ov pl h c (whF ds c g) hkk t hg f hm (fun t f x => ziz ds pv ov pl h c g t f x) x hx
  refine cv [] [] [1004,1005,1006,1007] Tryz.func36 35 Tryz.ntmps36 rfl rfl fun cx hE => call0 (zj0 t ht) ?_
  refine brB (fun h => by cases h) (fun _ => ?_)
  refine callX [19, 1004, 1005, 1006, 1007] (Con.sw hc 1000 19) rfl rfl (za _) fun r o ⟨r0, o0, ⟨e1, e2⟩, e3, e4⟩ => ?_
  subst e1 e2 e3 e4
  exact call0 (z7b x.1 (z5y _ hk.1.w)) ⟨rfl, rfl⟩
end
def byts (l : List Int) : List (List PV) := l.map fun n => [U8 n]
@[simp] theorem zge (l : List Int) : (byts l).length = l.length := by simp [byts]
def okB (l : List Int) : Prop := ∀ n ∈ l, 0 ≤ n ∧ n ≤ 255
theorem zyj {l : List Int} (h : okB l) (m : Nat) : 0 ≤ l.getD m 0 ∧ l.getD m 0 ≤ 255 := by
  rcases Nat.lt_or_ge m l.length with hm | hm
  · have := h _ (List.getElem_mem hm); simp [List.getD_eq_getElem?_getD, hm]; exact this
  · simp [List.getD_eq_getElem?_getD, hm]
def nxt (l : List Int) (a n : Int) : Int := if a ≥ l.length ∨ n < 1 then 0 else l.getD a.toNat 0 % n
def nxA (l : List Int) (a n : Int) : Int := if a ≥ l.length ∨ n < 1 then a else a + 1
abbrev pkO (l : List Int) (a : Int) : Obs := [(1000, .ce 77 [.p (.sl 1 (byts l)), .p (I a)])]
theorem zut (l : List Int) : Con Tryz.prog 17 [.p (.sl 1 (byts l))] [] (fun r o => r = .ptr 5 0 ∧ o = [(5, .ce 77 [.p (.sl 1 (byts l)), .p (I 0)])]) :=
  cv [] [] [5] Tryz.func17 6 Tryz.ntmps17 rfl rfl fun cx hE => ⟨rfl, rfl⟩
theorem z1r (l : List Int) (hl : okB l) (hlen : l.length ≤ 1000000) (a n : Int) (h0 : 0 ≤ a) (h1 : a ≤ 1000000) (hn : n ≤ 1000000) :
    Con Tryz.prog 45 [.ptr 1000 0, .p (I n)] (pkO l a) (fun r o => r = .p (I (nxt l a n)) ∧ o = pkO l (nxA l a n)) := by
  have hbl := zge l
  refine cv [] [] [1000] Tryz.func45 40 Tryz.ntmps45 rfl rfl fun cx hE => brS (fun hp => ?_) (fun hp => brS (fun hq => ?_) (fun hq => ?_))
  · unfold nxt nxA; rw [if_pos (.inl (by omega)), if_pos (.inl (by omega))]; exact ⟨rfl, rfl⟩
  · unfold nxt nxA; rw [if_pos (.inr (by omega)), if_pos (.inr (by omega))]; exact ⟨rfl, rfl⟩
  · have hb := zyj hl a.toNat
    have hg : l[a.toNat]? = some (l.getD a.toNat 0) := by rw [List.getD_eq_getElem?_getD, List.getElem?_eq_getElem (by omega)]; rfl
    have hr : (byts l)[a.toNat]? = some [U8 (l.getD a.toNat 0)] := by simp only [byts, List.getElem?_map, hg]; rfl
    have e : (a + 1 - 1) = (a.toNat : Int) := by omega
    unfold nxt nxA; rw [if_neg (by omega), if_neg (by omega)]
    refine And.intro (by omega) (And.intro (by omega) ?_)
    rw [e]
    refine idxN hr (And.intro (by omega) (And.intro (by omega) (And.intro (by omega) ⟨I_eq ?_, rfl⟩)))
    first | rfl | exact Int.tmod_eq_emod_of_nonneg hb.1
end Go.Ab.YtplnabidakjhiaaGreat
namespace Go.Ab
open Go Go.RowKit
theorem zxj {b : Int} (hb : b ≤ 1073741824) {t : Trm} (h : wfT b t = true) : wholP t = true := by
  have w := zg h
  have h1 := w.args; have h2 := w.n0; have h3 := w.n1; have h4 := w.var; have h5 := w.name; have h6 := w.sort; have h7 := w.lev
  unfold wholP
  simp only [Bool.and_eq_true, decide_eq_true_eq]
  refine ⟨h1, fun _ => ⟨h2, by omega⟩, h4, h5, ?_⟩
  split
  · rename_i hk; simpa using h6 hk
  · rename_i hk
    simp only [decide_eq_true_eq]
    by_cases h2' : t.kind = 2
    · exact .inl h2'
    · exact .inr (h7 hk h2')
mutual
theorem zve {b : Int} (hb : b ≤ 1073741824) (most : Int) : ∀ (t : Trm) (n : Int), wfT b t = true → n + sizT t ≤ most → thrT most t n = (true, n + sizT t)
  | ⟨k, m, s, ls, l⟩, n, h, hs => by
    have hw := zxj hb h
    simp only [sizT] at hs ⊢
    simp only [thrT]
    rw [if_neg (by push_cast at hs; omega), if_pos hw, zsm hb most l (n + 1) (wfTs_iff.2 (zg h).sub) (by push_cast at hs; omega)]
    push_cast; congr 1; omega
theorem zsm {b : Int} (hb : b ≤ 1073741824) (most : Int) : ∀ (l : List Trm) (n : Int), wfTs b l = true → n + sizTs l ≤ most → thrTs most l n = (true, n + sizTs l)
  | [], n, _, _ => by simp [thrTs, sizTs]
  | a :: r, n, h, hs => by
    simp only [wfTs, Bool.and_eq_true] at h
    simp only [sizTs] at hs ⊢
    push_cast at hs
    simp only [thrTs]
    rw [zve hb most a n h.1 (by omega)]
    simp only [if_true]
    rw [if_neg (by omega), zsm hb most r _ h.2 (by omega)]
    push_cast; congr 1; omega
end
theorem zj1 {b : Int} (hb : b ≤ 1073741824) {t : Trm} (h : wfT b t = true) (hs : sizT t ≤ 1048576) : okW t = true := by
  unfold okW
  rw [zve hb 1048576 t 0 h (by omega)]
  simp; omega
structure Wd (b : Int) (m : Nat) (t : Trm) : Prop where
  w : wfT b t = true
  d : dpT t ≤ m
theorem Wd.mono {b c : Int} {m k : Nat} {t : Trm} (h : Wd b m t) (hb : b ≤ c) (hm : m ≤ k) : Wd c k t := ⟨zu hb t h.w, Nat.le_trans h.d hm⟩
theorem Wd.sub {b : Int} {m : Nat} {t a : Trm} (h : Wd b m t) (ha : a ∈ t.args) : Wd b m a := ⟨(zg h.w).sub a ha, by have := zy ha; have := h.d; omega⟩
theorem Wd.spn {b : Int} {m : Nat} : ∀ (t : Trm) (acc : List Trm), Wd b m t → (∀ a ∈ acc, Wd b m a) → Wd b m (spnT t acc).1 ∧ (∀ a ∈ (spnT t acc).2, Wd b m a) ∧ (spnT t acc).2.length + dpT (spnT t acc).1 ≤ acc.length + dpT t
  | ⟨k, n, s, ls, l⟩, acc, h, ha => by
    rw [spnT.eq_def]
    simp only
    split
    · rename_i hk
      match l, h with
      | [f, a], h =>
        have := Wd.spn f (a :: acc) (h.sub (by simp)) (fun x hx => by rcases List.mem_cons.1 hx with rfl | hx; exact h.sub (by simp); exact ha x hx)
        refine ⟨this.1, this.2.1, Nat.le_trans this.2.2 ?_⟩
        have := zy (t := ⟨k, n, s, ls, [f, a]⟩) (a := f) (by simp)
        simp; omega
      | [], h => exact ⟨h, ha, by simp⟩
      | [_], h => exact ⟨h, ha, by simp⟩
      | _ :: _ :: _ :: _, h => exact ⟨h, ha, by simp⟩
    · exact ⟨h, ha, by simp⟩
termination_by t => SizeOf.sizeOf t
theorem Wd.head {b : Int} {m : Nat} {t : Trm} (h : Wd b m t) : Wd b m (headT t) := (Wd.spn t [] h (by simp)).1
theorem Wd.args {b : Int} {m : Nat} {t : Trm} (h : Wd b m t) : (∀ a ∈ argsT t, Wd b m a) ∧ (argsT t).length ≤ m := by
  have := Wd.spn t [] h (by simp)
  refine ⟨this.2.1, ?_⟩
  have h2 := this.2.2
  have := h.d
  unfold argsT; simp at h2; omega
theorem Wd.getD {b : Int} (hb : 0 ≤ b) {m : Nat} (hm : 1 ≤ m) {l : List Trm} (h : ∀ a ∈ l, Wd b m a) (i : Nat) : Wd b m (l.getD i zT) := by
  rw [List.getD_eq_getElem?_getD]
  cases hl : l[i]? with
  | none => exact ⟨by simp [zT, wfT, shpF, wfTs, argF]; omega, by simp [zT, dpT, dpTs]; omega⟩
  | some x => exact h x (List.mem_of_getElem? hl)
theorem Wd.app {b : Int} (hb : 0 ≤ b) {m n : Nat} {t : Trm} {l : List Trm} (h : Wd b m t) (hl : ∀ a ∈ l, Wd b m a) (hn : l.length ≤ n) : Wd b (m + n) (appT t l) :=
  ⟨zs2 hb h.w fun a ha => (hl a ha).w, by
    have := zs3 (M := m) (t := t) fun a ha => (hl a ha).d
    have := h.d
    omega⟩
theorem Wd.mkA {b : Int} (hb : 0 ≤ b) {m : Nat} {f a : Trm} (hf : Wd b m f) (ha : Wd b m a) : Wd b (m + 1) (Ab.mkA f a) :=
  ⟨z1f hb hf.w ha.w, by have := hf.d; have := ha.d; simp only [Ab.mkA, dpT, dpTs]; omega⟩
theorem Wd.lam {b : Int} (hb : 0 ≤ b) {m : Nat} {x t : Trm} (hx : Wd b m x) (ht : Wd b m t) : Wd b (m + 1) (mkB 4 x t) := by
  refine ⟨z6d ⟨by simp [mkB, argF], by simp [mkB], by simpa [mkB] using hb, by simp [mkB], by simp [mkB], by simp [mkB], by simp [mkB], by simp [mkB], by simp [mkB], fun y hy => ?_⟩, by have := hx.d; have := ht.d; simp only [mkB, dpT, dpTs]; omega⟩
  simp only [mkB, List.mem_cons, List.not_mem_nil, or_false] at hy
  rcases hy with rfl | rfl
  · exact hx.w
  · exact ht.w
theorem Wd.lams {b : Int} (hb : 0 ≤ b) {m : Nat} {t : Trm} : ∀ {xs : List Trm}, (∀ x ∈ xs, Wd b m x) → Wd b m t → Wd b (m + xs.length) (lamsT xs t)
  | [], _, ht => ht
  | x :: xs, hx, ht => by
    have ih := Wd.lams hb (xs := xs) (fun y hy => hx y (by simp [hy])) ht
    have := Wd.lam hb ((hx x (by simp)).mono (Int.le_refl _) (Nat.le_add_right m xs.length)) ih
    exact this
theorem Wd.lift {b : Int} {m : Nat} {t : Trm} (h : Wd b m t) (n : Nat) : Wd (b + n) m (lftT n t 0) := ⟨zin (by omega) (Int.le_refl _) (by omega) h.w, by have := zio (by_ := n) t 0; have := h.d; omega⟩
theorem Wd.opn {b : Int} {m k : Nat} {vs : List Trm} {t : Trm} (h : Wd b m t) (hv : ∀ v ∈ vs, Wd b k v) : Wd (b + m) (m + k) (opnT vs t 0) :=
  ⟨zn1 (D := m) (by omega) (by have := h.d; omega) (Int.le_refl _) (fun v hx => (hv v hx).w) h.w, by have := ziq (fun v hx => (hv v hx).d) t 0; have := h.d; omega⟩
theorem zde : ∀ {n : Nat} {v : Trm}, v ∈ varsT n → ∃ i : Nat, i < n ∧ v = mkV i
  | n + 1, v, h => by
    simp only [varsT, List.mem_cons] at h
    rcases h with rfl | h
    · exact ⟨n, by omega, rfl⟩
    · obtain ⟨i, h1, h2⟩ := zde h
      exact ⟨i, by omega, h2⟩
theorem z4x : ∀ n : Nat, (varsT n).length = n
  | 0 => rfl
  | n + 1 => by simp [varsT, z4x n]
theorem zvf {b : Int} {m : Nat} (hm : 1 ≤ m) {i : Nat} (hi : (i : Int) ≤ b) : Wd b m (mkV i) := ⟨by simp [mkV, wfT, shpF, wfTs, argF]; omega, by simp [mkV, dpT, dpTs]; omega⟩
theorem pi_wd {b : Int} {m : Nat} {t : Trm} (h : Wd b m t) : (∀ x ∈ piL t, Wd b m x) ∧ Wd b m (piE t) ∧ (piL t).length ≤ m := by
  have h1 := pi_wf t h.w
  have h2 := z3w t
  have h3 := h.d
  exact ⟨fun x hx => ⟨(h1.1 x hx).1, by have := (h1.1 x hx).2; omega⟩, ⟨h1.2, by omega⟩, by omega⟩
theorem zvg {b : Int} (hb : 0 ≤ b) {m e : Nat} (hm : 1 ≤ m) (he : 1 ≤ e) {r : RecI} {h : Trm} {args ahead : List Trm} {field v x : Trm} (hh : Wd b m h) (ha : ∀ a ∈ args, Wd b m a) (hal : args.length ≤ m) (hd : ∀ a ∈ ahead, Wd b m a) (hf : Wd b e field) (hv : Wd b m v) (hx : hypF r h args field ahead v = some x) : Wd (b + 2 * e + m) (6 * m + 6 * e + 10) x := by
  unfold hypF at hx
  split at hx
  · cases hx
    have hn : ∀ l ∈ h.levels, narL l = true := (zg hh.w).nar
    have hlv : Wd b e (lvsT h.levels field) := ⟨za4 hn field hf.w, by rw [zeq]; exact hf.d⟩
    have ho := hlv.opn (k := m) (vs := args.take r.p ++ ahead) fun y hy => by
      rcases List.mem_append.1 hy with hy | hy
      · exact ha y (List.mem_of_mem_take hy)
      · exact hd y hy
    have hpo := pi_wd ho
    have hpf := (pi_wd hf).2.2
    generalize (piL field).length = n at *
    have up : ∀ {y : Trm} {k : Nat}, Wd b k y → Wd (b + 2 * e + m) k y := fun hy => hy.mono (by omega) (Nat.le_refl _)
    have lf : ∀ {y : Trm} {k : Nat}, Wd b k y → Wd (b + 2 * e + m) k (lftT n y 0) := fun hy => (hy.lift n).mono (by omega) (Nat.le_refl _)
    have hb2 : 0 ≤ b + 2 * e + m := by omega
    have h1 : Wd (b + 2 * e + m) (m + m) (appT h ((args.take (r.p + 1 + r.fam.ctors.length)).map fun a => lftT n a 0)) := Wd.app hb2 (up hh) (fun a hm' => by
      obtain ⟨y, hy, rfl⟩ := List.mem_map.1 hm'
      exact lf (ha y (List.mem_of_mem_take hy))) (by simp; omega)
    have hpa := hpo.2.1.args
    have h2 : Wd (b + 2 * e + m) ((m + m + e) + (e + m)) (appT (appT h ((args.take (r.p + 1 + r.fam.ctors.length)).map fun a => lftT n a 0)) ((argsT (piE (opnT (args.take r.p ++ ahead) (lvsT h.levels field) 0))).drop r.p)) :=
      Wd.app hb2 (h1.mono (Int.le_refl _) (by omega)) (fun a hm' => (hpa.1 a (List.mem_of_mem_drop hm')).mono (by omega) (by omega)) (by rw [List.length_drop]; omega)
    have h3 : Wd (b + 2 * e + m) (m + e) (appT (lftT n v 0) (varsT n)) := Wd.app hb2 (lf hv) (fun a hm' => by
      obtain ⟨i, hi, rfl⟩ := zde hm'
      exact zvf hm (by omega)) (by rw [z4x]; omega)
    have h4 := Wd.mkA hb2 h2 (h3.mono (Int.le_refl _) (by omega))
    have h5 := Wd.lams hb2 (m := m + m + e + (e + m) + 1) (xs := piL (opnT (args.take r.p ++ ahead) (lvsT h.levels field) 0)) (fun y hy => (hpo.1 y hy).mono (by omega) (by omega)) h4
    exact h5.mono (Int.le_refl _) (by have := hpo.2.2; omega)
  · cases hx
structure EnvW (B : Int) (ds : List Dcl) : Prop where
  v : ∀ d ∈ ds, Wd B 100000 d.value
  c : ∀ d ∈ ds, ∀ k ∈ d.ctors, Wd B 100000 k.ty
theorem zl1 {b b' : Int} (hb : 0 ≤ b) {m e K : Nat} (hm : 1 ≤ m) (he : 1 ≤ e) (hb' : b + 2 * e + m ≤ b') (hK : 6 * m + 6 * e + 10 ≤ K) {r : RecI} {h : Trm} {args : List Trm} (hh : Wd b m h) (ha : ∀ a ∈ args, Wd b m a) (hal : args.length ≤ m) : ∀ (fs ahead bs : List Trm) (out : Trm) (j : Nat), (∀ a ∈ fs, Wd b e a) → (∀ a ∈ ahead, Wd b m a) → (∀ a ∈ bs, Wd b m a) → Wd b' (K + j) out → Wd b' (K + j + fs.length) (hypsF r h args fs ahead bs out)
  | [], ahead, bs, out, j, _, _, _, ho => by simpa [hypsF] using ho
  | f :: fs, ahead, [], out, j, _, _, _, ho => by simp only [hypsF]; exact ho.mono (Int.le_refl _) (by omega)
  | f :: fs, ahead, v :: bs, out, j, hf, hd, hv, ho => by
    simp only [hypsF]
    have ih := fun out' (h' : Wd b' (K + (j + 1)) out') => zl1 (r := r) hb hm he hb' hK hh ha hal fs (ahead ++ [v]) bs out' (j + 1) (fun a h => hf a (by simp [h])) (fun a h => by
      rcases List.mem_append.1 h with h | h
      · exact hd a h
      · simp at h; subst h; exact hv a (by simp)) (fun a h => hv a (by simp [h])) h'
    have hlen : K + (j + 1) + fs.length = K + j + (f :: fs).length := by simp; omega
    rw [← hlen]
    cases hx : hypF r h args f ahead v with
    | none => exact ih out (ho.mono (Int.le_refl _) (by omega))
    | some x =>
      have hw := (zvg hb hm he hh ha hal hd (hf f (by simp)) (hv v (by simp)) hx).mono hb' hK
      exact ih (mkA out x) ((Wd.mkA (by omega) ho (hw.mono (Int.le_refl _) (by omega))).mono (Int.le_refl _) (by omega))
theorem zvh {B b : Int} (h0 : 0 ≤ b) (hb : B ≤ b) {m : Nat} (hm : 1 ≤ m) {r : RecI} (hc : ∀ k ∈ r.fam.ctors, Wd B 100000 k.ty) {h : Trm} {args : List Trm} (hh : Wd b m h) (ha : ∀ a ∈ args, Wd b m a) (hal : args.length ≤ m) {major u : Trm} (hj : Wd b m major) (hu : iotR r h args major = some u) : Wd (b + 200000 + m) (8 * m + 800010) u := by
  unfold iotR at hu
  split at hu
  · split at hu
    · cases hu
    · rename_i k hk
      split at hu
      · rename_i hl
        cases hu
        have hkl := z9m hk
        have hct : r.fam.ctors[k]? = some (r.fam.ctors.getD k default) := by rw [List.getD_eq_getElem?_getD, List.getElem?_eq_getElem hkl.1]; rfl
        have hty := (hc _ (List.mem_of_getElem? hct)).mono hb (Nat.le_refl _)
        generalize (r.fam.ctors.getD k default).ty = ty at *
        have hpi := pi_wd hty
        have hja := hj.args
        have hF : ∀ a ∈ (argsT major).drop r.p, Wd b m a := fun a h => hja.1 a (List.mem_of_mem_drop h)
        have hb2 : 0 ≤ b + 200000 + m := by omega
        have h0 : Wd (b + 200000 + m) (m + m) (appT (args.getD (r.p + 1 + k) zT) ((argsT major).drop r.p)) := (Wd.app (by omega) (Wd.getD (by omega) hm ha _) hF (by rw [List.length_drop]; omega)).mono (by omega) (Nat.le_refl _)
        have h1 := zl1 (r := r) (b' := b + 200000 + m) (K := 6 * m + 600010) (by omega) hm (e := 100000) (by omega) (by omega) (by omega) hh ha hal ((piL ty).drop r.p) [] ((argsT major).drop r.p) _ 0 (fun a h => hpi.1 a (List.mem_of_mem_drop h)) (fun a h => by cases h) hF (h0.mono (Int.le_refl _) (by omega))
        have hpl : ((piL ty).drop r.p).length ≤ 100000 := by rw [List.length_drop]; omega
        exact (Wd.app hb2 (l := args.drop (r.major + 1)) (h1.mono (k := 6 * m + 700010) (Int.le_refl _) (by omega)) (fun a h => (ha a (List.mem_of_mem_drop h)).mono (by omega) (by omega)) (n := m) (by rw [List.length_drop]; omega)).mono (Int.le_refl _) (by omega)
      · cases hu
  · cases hu
theorem zna {ds : List Dcl} {c : Int} {wh wh' : Trm → Int → Option WR} (hw : ∀ t f x, wh t f = some x → wh' t f = some x) {t : Trm} {f : Int} {y : OR} (h : onF ds c wh t f = some y) : onF ds c wh' t f = some y := by
  unfold onF at h ⊢
  split at h
  · rename_i h1; rw [if_pos h1]; exact h
  · rename_i h1; rw [if_neg h1]
    split at h
    · rename_i h2; rw [if_pos h2]; exact h
    · rename_i h2; rw [if_neg h2]
      split at h
      · rename_i h3; rw [if_pos h3]
        cases hf : findD ds (headT t).name with
        | none => simp only [hf] at h ⊢; exact h
        | some d =>
          simp only [hf] at h ⊢
          by_cases h4 : d.kind = 2 ∧ d.params = (headT t).levels.length
          · rw [if_pos h4] at h ⊢; exact h
          · rw [if_neg h4] at h ⊢
            cases hi : z1v ds (headT t) with
            | none => simp only [hi] at h ⊢; exact h
            | some r =>
              simp only [hi] at h ⊢
              by_cases h5 : r.major < (argsT t).length
              · rw [if_pos h5] at h ⊢
                cases hm : wh ((argsT t).getD r.major zT) f with
                | none => simp only [hm] at h; cases h
                | some x =>
                  rw [hw _ _ _ hm]
                  simp only [hm] at h
                  exact h
              · rw [if_neg h5] at h ⊢; exact h
      · rename_i h3; rw [if_neg h3]; exact h
theorem z4y {ds : List Dcl} {c : Int} : ∀ (g k : Nat), g ≤ k → ∀ (t : Trm) (f : Int) (x : WR), whF ds c g t f = some x → whF ds c k t f = some x
  | 0, _, _, _, _, _, h => by cases h
  | g + 1, 0, hk, _, _, _, _ => by omega
  | g + 1, k + 1, hk, t, f, x, h => by
    simp only [whF] at h ⊢
    split at h
    · cases h
    · rename_i u did f1 e ho
      rw [zna (fun t f x hx => z4y g k (by omega) t f x hx) ho]
      simp only
      split at h
      · rename_i he; rw [if_pos he]; exact h
      · rename_i he; rw [if_neg he]
        split at h
        · rename_i hd; rw [if_pos hd]; exact z4y g k (by omega) u f1 x h
        · rename_i hd; rw [if_neg hd]; exact h
def bdV (T : Int) (M : Nat) (f : Int) : Int := T - max f 0 * (200000 + M)
theorem zuu {T : Int} {M : Nat} {f : Int} (h : 0 < f) : bdV T M (f - 1) = bdV T M f + 200000 + M := by
  unfold bdV
  rw [show max (f - 1) 0 = f - 1 by omega, show max f 0 = f by omega, Int.sub_mul]
  generalize f * (200000 + (M : Int)) = z
  omega
theorem znb {T : Int} {M : Nat} {f f1 : Int} (h : f1 ≤ f) : bdV T M f ≤ bdV T M f1 := by
  unfold bdV
  have : max f1 0 * (200000 + (M : Int)) ≤ max f 0 * (200000 + (M : Int)) := Int.mul_le_mul_of_nonneg_right (by omega) (by omega)
  omega
theorem zyk (T : Int) (M : Nat) (f : Int) : bdV T M f ≤ T := by
  unfold bdV
  have : 0 ≤ max f 0 * (200000 + (M : Int)) := Int.mul_nonneg (by omega) (by omega)
  omega
theorem zuv : ∀ {t a : Trm}, a ∈ argsT t → dpT a < dpT t := by
  have key : ∀ (t : Trm) (acc : List Trm) (m : Nat), dpT t ≤ m → (∀ a ∈ acc, dpT a < m) → ∀ a ∈ (spnT t acc).2, dpT a < m := by
    intro t
    induction hn : dpT t using Nat.strongRecOn generalizing t with
    | _ k ih =>
      intro acc m hm ha a hmem
      obtain ⟨kd, n, s, ls, l⟩ := t
      rw [spnT.eq_def] at hmem
      simp only at hmem
      split at hmem
      · match l, hn, hmem with
        | [f, x], hn, hmem =>
          have hf := zy (t := ⟨kd, n, s, ls, [f, x]⟩) (a := f) (by simp)
          have hx := zy (t := ⟨kd, n, s, ls, [f, x]⟩) (a := x) (by simp)
          exact ih (dpT f) (by omega) f rfl (x :: acc) m (by omega) (fun b hb => by rcases List.mem_cons.1 hb with rfl | hb; omega; exact ha b hb) a hmem
        | [], hn, hmem => exact ha a hmem
        | [_], hn, hmem => exact ha a hmem
        | _ :: _ :: _ :: _, hn, hmem => exact ha a hmem
      · exact ha a hmem
  intro t a h
  exact key t [] (dpT t) (Nat.le_refl _) (fun _ h => by cases h) a h
section
variable {T : Int} {M : Nat} {c : Int} (hT : T ≤ 1099511627776) (hM : M ≤ 10000000) (h1 : 1 ≤ M) (hc : c ≤ M)
include hT hM h1 hc
theorem znc {f : Int} {u : Trm} (hu : 0 < f → Wd (bdV T M f + 200000 + M) (8 * M + 800010) u) : ∃ y, mdF c f u = some y ∧ (y.2.2.2 = 0 → Wd (bdV T M y.2.2.1) M y.1) ∧ y.2.2.1 ≤ f ∧ (y.2.1 = true → y.2.2.2 = 0 ∧ y.2.2.1 < f ∧ 0 ≤ y.2.2.1) := by
  unfold mdF
  by_cases hf : f ≤ 0
  · rw [if_pos hf]; exact ⟨_, rfl, fun h => by simp at h, Int.le_refl _, fun h => by simp at h⟩
  · rw [if_neg hf]
    have hw := hu (by omega)
    have hb := zuu (T := T) (M := M) (f := f) (by omega)
    have hl := zyk T M (f - 1)
    have hg : gdT u = true := gdT_iff.2 ⟨zu (by omega) u hw.w, by have := hw.d; omega⟩
    rw [if_pos hg]
    by_cases hft : fitsT c u = true
    · rw [if_pos hft]
      refine ⟨_, rfl, fun _ => ?_, by simp only; omega, fun _ => ⟨rfl, by simp only; omega, by simp only; omega⟩⟩
      have hs := z6q u
      simp only [fitsT, Bool.and_eq_true, decide_eq_true_eq] at hft
      exact ⟨by rw [hb]; exact hw.w, by show dpT u ≤ M; omega⟩
    · rw [if_neg hft]; exact ⟨_, rfl, fun h => by simp at h, by simp only; omega, fun h => by simp at h⟩
end
section
variable {T B : Int} {M : Nat} {c : Int} (hT : T ≤ 1099511627776) (hB : 0 ≤ B) (hM : M ≤ 10000000) (h1 : 1 ≤ M) (hc : c ≤ M)
include hT hB hM h1 hc
theorem zvi {ds : List Dcl} (hE : EnvW B ds) {wh : Trm → Int → Option WR} {t : Trm} {f : Int} (hb : B ≤ bdV T M f) (ht : Wd (bdV T M f) M t)
    (hw : ∀ a ∈ argsT t, ∃ y, wh a f = some y ∧ (y.2.2 = 0 → Wd (bdV T M y.2.1) M y.1) ∧ y.2.1 ≤ f) : ∃ y, onF ds c wh t f = some y ∧ (y.2.2.2 = 0 → Wd (bdV T M y.2.2.1) M y.1) ∧ y.2.2.1 ≤ f ∧ (y.2.1 = true → y.2.2.2 = 0 ∧ y.2.2.1 < f ∧ 0 ≤ y.2.2.1) := by
  have hh := ht.head
  have ha := ht.args
  have hstay : ∃ y, some (t, false, f, (0 : Int)) = some y ∧ (y.2.2.2 = 0 → Wd (bdV T M y.2.2.1) M y.1) ∧ y.2.2.1 ≤ f ∧ (y.2.1 = true → y.2.2.2 = 0 ∧ y.2.2.1 < f ∧ 0 ≤ y.2.2.1) := ⟨_, rfl, fun _ => ht, Int.le_refl _, fun h => by simp at h⟩
  have hbeta : ∀ (body v : Trm) (l : List Trm), Wd (bdV T M f) M body → Wd (bdV T M f) M v → (∀ a ∈ l, Wd (bdV T M f) M a) → l.length ≤ M → Wd (bdV T M f + 200000 + M) (8 * M + 800010) (appT (opnT [v] body 0) l) := fun body v l g1 g2 g3 g4 => by
    have h2 := g1.opn (k := M) (vs := [v]) fun x hx => by simp at hx; subst hx; exact g2
    exact (Wd.app (b := bdV T M f + M) (m := M + M) (n := M) (by omega) h2 (fun a h => (g3 a h).mono (by omega) (by omega)) g4).mono (by omega) (by omega)
  have hsub : ∀ i, Wd (bdV T M f) M ((headT t).args.getD i zT) := fun i => Wd.getD (by omega) h1 (fun a h => hh.sub h) i
  unfold onF
  by_cases c1 : (headT t).kind = 4 ∧ argsT t ≠ []
  · rw [if_pos c1]
    exact znc hT hM h1 hc fun _ => hbeta _ _ _ (hsub 1) (Wd.getD (by omega) h1 ha.1 0) (fun a h => ha.1 a (List.mem_of_mem_drop h)) (by rw [List.length_drop]; omega)
  rw [if_neg c1]
  by_cases c2 : (headT t).kind = 6
  · rw [if_pos c2]
    exact znc hT hM h1 hc fun _ => hbeta _ _ _ (hsub 2) (hsub 1) ha.1 ha.2
  rw [if_neg c2]
  by_cases c3 : (headT t).kind = 2
  · rw [if_pos c3]
    cases hf : findD ds (headT t).name with
    | none => exact hstay
    | some d =>
      simp only
      by_cases c4 : d.kind = 2 ∧ d.params = (headT t).levels.length
      · rw [if_pos c4]
        refine znc hT hM h1 hc fun _ => ?_
        have hv := hE.v d (List.mem_of_find?_eq_some hf)
        have hl : Wd (bdV T M f) 100000 (lvsT (headT t).levels d.value) := ⟨zu hb _ (za4 (zg hh.w).nar _ hv.w), by rw [zeq]; exact hv.d⟩
        exact (Wd.app (b := bdV T M f) (m := M + 100000) (n := M) (by omega) (hl.mono (Int.le_refl _) (by omega)) (fun a h => (ha.1 a h).mono (Int.le_refl _) (by omega)) ha.2).mono (by omega) (by omega)
      · rw [if_neg c4]
        cases hi : z1v ds (headT t) with
        | none => exact hstay
        | some r =>
          simp only
          by_cases c5 : r.major < (argsT t).length
          · rw [if_pos c5]
            obtain ⟨⟨m, f1, e⟩, hy, hy1, hy2⟩ := hw ((argsT t).getD r.major zT) (by rw [List.getD_eq_getElem?_getD, List.getElem?_eq_getElem c5]; exact List.getElem_mem c5)
            rw [hy]
            simp only at hy1 hy2 ⊢
            by_cases c6 : e ≠ 0
            · rw [if_pos c6]; exact ⟨_, rfl, fun h => absurd h c6, hy2, fun h => by simp at h⟩
            · rw [if_neg c6]
              have hm := hy1 (Classical.byContradiction fun h => c6 h)
              have hbm := znb (T := T) (M := M) hy2
              cases hio : iotaF ds t m with
              | none => exact ⟨_, rfl, fun _ => ht.mono hbm (Nat.le_refl _), hy2, fun h => by simp at h⟩
              | some u =>
                simp only
                rw [z9l, hi] at hio
                simp only [Option.bind_some, if_pos c5] at hio
                have hrf := (z5m hi).1
                obtain ⟨y, g1, g2, g3, g4⟩ := znc (f := f1) (u := u) hT hM h1 hc fun _ => zvh (b := bdV T M f1) (by omega) (by omega) h1 (hE.c _ hrf) (hh.mono hbm (Nat.le_refl _)) (fun a h => (ha.1 a h).mono hbm (Nat.le_refl _)) ha.2 hm hio
                exact ⟨y, g1, g2, by omega, fun h => by have := g4 h; omega⟩
          · rw [if_neg c5]; exact hstay
  · rw [if_neg c3]; exact hstay
theorem zsn {ds : List Dcl} (hE : EnvW B ds) : ∀ (n : Nat) (f : Int), f.toNat ≤ n → ∀ (d : Nat) (t : Trm), dpT t ≤ d → B ≤ bdV T M f → Wd (bdV T M f) M t → ∃ g x, whF ds c g t f = some x ∧ (x.2.2 = 0 → Wd (bdV T M x.2.1) M x.1) ∧ x.2.1 ≤ f := by
  intro n
  induction n using Nat.strongRecOn with
  | _ n IHn =>
    intro f hf d
    induction d with
    | zero => intro t ht; have := z4v t; omega
    | succ d IHd =>
      intro t ht hb hw
      have hg : ∃ g, ∀ a ∈ argsT t, ∃ y, whF ds c g a f = some y ∧ (y.2.2 = 0 → Wd (bdV T M y.2.1) M y.1) ∧ y.2.1 ≤ f := by
        have : ∀ l : List Trm, (∀ a ∈ l, a ∈ argsT t) → ∃ g, ∀ a ∈ l, ∃ y, whF ds c g a f = some y ∧ (y.2.2 = 0 → Wd (bdV T M y.2.1) M y.1) ∧ y.2.1 ≤ f := by
          intro l
          induction l with
          | nil => exact fun _ => ⟨0, fun a h => by cases h⟩
          | cons a l ih =>
            intro hl
            obtain ⟨g1, k1⟩ := ih fun b hb => hl b (by simp [hb])
            have ham := hl a (by simp)
            have had := zuv ham
            obtain ⟨g2, y, k2, k3⟩ := IHd a (by omega) hb (hw.args.1 a ham)
            refine ⟨max g1 g2, fun b hbm => ?_⟩
            rcases List.mem_cons.1 hbm with rfl | hbm
            · exact ⟨y, z4y g2 _ (by omega) _ _ _ k2, k3⟩
            · obtain ⟨y', k4, k5⟩ := k1 b hbm
              exact ⟨y', z4y g1 _ (by omega) _ _ _ k4, k5⟩
        exact this _ fun _ h => h
      obtain ⟨g, hg⟩ := hg
      obtain ⟨⟨u, did, f1, e⟩, ho, o1, o2, o3⟩ := zvi hT hB hM h1 hc hE hb hw hg
      simp only at o1 o2 o3
      by_cases he : e ≠ 0
      · refine ⟨g + 1, (zT, f1, e), by simp only [whF]; rw [ho]; simp only [if_pos he], fun h => absurd h he, o2⟩
      · have he0 : e = 0 := Classical.byContradiction fun h => he h
        cases did with
        | false => exact ⟨g + 1, (u, f1, 0), by simp only [whF]; rw [ho]; simp only [if_neg he]; rfl, fun _ => o1 he0, o2⟩
        | true =>
          obtain ⟨_, p1, p2⟩ := o3 rfl
          have hbm := znb (T := T) (M := M) (f := f) (f1 := f1) o2
          obtain ⟨g2, x, k1, k2, k3⟩ := IHn f1.toNat (by omega) f1 (Nat.le_refl _) (dpT u) u (Nat.le_refl _) (by omega) (o1 he0)
          refine ⟨max g g2 + 1, x, ?_, k2, by omega⟩
          simp only [whF]
          rw [zna (fun t f x hx => z4y g (max g g2) (by omega) t f x hx) ho]
          simp only [if_neg he]
          exact z4y g2 _ (by omega) _ _ _ k1
end
end Go.Ab
namespace Go.Ab.YtplnabidakjhiaaGreat
open Go Go.Ab Go.RowKit
def wdB (t : Trm) : Bool := wfT 1073741824 t && Nat.ble (dpT t) 100000
def envB (ds : List Dcl) : Bool := ds.all fun d => wdB d.value && d.ctors.all fun k => wdB k.ty
theorem zso {t : Trm} (h : wdB t = true) : Wd 1073741824 100000 t := by
  simp only [wdB, Bool.and_eq_true] at h
  exact ⟨h.1, Nat.le_of_ble_eq_true h.2⟩
theorem zuw {ds : List Dcl} (h : envB ds = true) : EnvW 1073741824 ds := by
  simp only [envB, List.all_eq_true, Bool.and_eq_true] at h
  exact ⟨fun d hd => zso (h d hd).1, fun d hd k hk => zso ((h d hd).2 k hk)⟩
theorem zvj : EnvW 1073741824 preL := zuw (by kernel_rfl)
end Go.Ab.YtplnabidakjhiaaGreat
namespace Go.Ab.YtplnabidakjhiaaGreat
open Go Go.RowKit Go.Ab Go.Proofs
def cZero : Trm := trmOf (⟨#[122, 101, 114, 111]⟩ : ByteArray)
def cSucc : Trm := trmOf (⟨#[115, 117, 99, 99]⟩ : ByteArray)
def cAdd : Trm := trmOf (⟨#[97, 100, 100]⟩ : ByteArray)
def cTwo : Trm := trmOf (⟨#[116, 119, 111]⟩ : ByteArray)
def cNat : Trm := trmOf (⟨#[78, 97, 116]⟩ : ByteArray)
def cId : Trm := trmOf (⟨#[105, 100, 123, 83, 48, 125]⟩ : ByteArray)
def cRec : Trm := trmOf (⟨#[78, 97, 116, 46, 114, 101, 99, 123, 83, 48, 125]⟩ : ByteArray)
def cNN : Trm := trmOf (⟨#[92, 78, 97, 116, 46, 32, 78, 97, 116]⟩ : ByteArray)
def cPi : Trm := trmOf (⟨#[33, 78, 97, 116, 46, 32, 78, 97, 116]⟩ : ByteArray)
mutual
def natF (l : List Int) : Nat → Int → Int → Trm × Int
  | 0, _, a => (cZero, a)
  | g + 1, v, a =>
    if nxt l a 9 = 1 ∨ nxt l a 9 = 2 then (appT cSucc [(natF l g v (nxA l a 9)).1], (natF l g v (nxA l a 9)).2)
    else if nxt l a 9 = 3 then (appT cAdd [(natF l g v (nxA l a 9)).1, (natF l g v (natF l g v (nxA l a 9)).2).1], (natF l g v (natF l g v (nxA l a 9)).2).2)
    else if nxt l a 9 = 4 then (if v > 0 then (mkV (nxt l (nxA l a 9) v), nxA l (nxA l a 9) v) else (cTwo, nxA l a 9))
    else if nxt l a 9 = 5 then (appT cId [cNat, (natF l g v (nxA l a 9)).1], (natF l g v (nxA l a 9)).2)
    else if nxt l a 9 = 6 then (mkA (funF l g v (nxA l a 9)).1 (natF l g v (funF l g v (nxA l a 9)).2).1, (natF l g v (funF l g v (nxA l a 9)).2).2)
    else if nxt l a 9 = 7 then (⟨6, 0, ⟨#[]⟩, [], [cNat, (natF l g v (nxA l a 9)).1, (natF l g (v + 1) (natF l g v (nxA l a 9)).2).1]⟩, (natF l g (v + 1) (natF l g v (nxA l a 9)).2).2)
    else if nxt l a 9 = 8 then (appT cRec [cNN, (natF l g v (nxA l a 9)).1, mkB 4 cNat (mkB 4 cNat (natF l g (v + 2) (natF l g v (nxA l a 9)).2).1), (natF l g v (natF l g (v + 2) (natF l g v (nxA l a 9)).2).2).1], (natF l g v (natF l g (v + 2) (natF l g v (nxA l a 9)).2).2).2)
    else (cZero, nxA l a 9)
def funF (l : List Int) : Nat → Int → Int → Trm × Int
  | 0, _, a => (cZero, a)
  | g + 1, v, a =>
    if nxt l a 4 = 0 then (mkB 4 cNat (natF l g (v + 1) (nxA l a 4)).1, (natF l g (v + 1) (nxA l a 4)).2)
    else if nxt l a 4 = 1 then (cSucc, nxA l a 4)
    else if nxt l a 4 = 2 then (appT cAdd [(natF l g v (nxA l a 4)).1], (natF l g v (nxA l a 4)).2)
    else (appT cId [cPi, mkB 4 cNat (natF l g (v + 1) (nxA l a 4)).1], (natF l g (v + 1) (nxA l a 4)).2)
end
structure Mk (l : List Int) (g : Nat) (k : Int) (a : Int) (x : Trm × Int) : Prop where
  a0 : a ≤ x.2
  a1 : x.2 ≤ l.length
  w : wfT 1000000 x.1 = true
  d : dpT x.1 ≤ 6 * g + 10
  s : (sizT x.1 : Int) ≤ 14 * (x.2 - a) + k
theorem nx_le {l : List Int} {a n : Int} (h0 : 0 ≤ a) (h1 : a ≤ l.length) : a ≤ nxA l a n ∧ nxA l a n ≤ l.length ∧ (nxt l a n ≠ 0 → nxA l a n = a + 1) ∧ (1 ≤ n → a < l.length → nxA l a n = a + 1) := by
  unfold nxA nxt
  by_cases h : a ≥ l.length ∨ n < 1
  · rw [if_pos h, if_pos h]; exact ⟨by omega, by omega, by simp, by omega⟩
  · rw [if_neg h, if_neg h]; exact ⟨by omega, by omega, fun _ => rfl, fun _ _ => rfl⟩
theorem nx_lt {l : List Int} {a n : Int} (hn : 1 ≤ n) : 0 ≤ nxt l a n ∧ nxt l a n < n := by
  unfold nxt
  split
  · omega
  · exact ⟨Int.emod_nonneg _ (by omega), Int.emod_lt_of_pos _ (by omega)⟩
theorem kB_wf {k : Int} (hk : k = 4 ∨ k = 5) {a b : Trm} (ha : wfT 1000000 a = true) (hb : wfT 1000000 b = true) : wfT 1000000 (mkB k a b) = true := by
  refine z6d ⟨by rcases hk with rfl | rfl <;> simp [mkB, argF], by simp [mkB], by simp [mkB], by simp [mkB], by simp [mkB], by rcases hk with rfl | rfl <;> simp [mkB], by simp [mkB], by simp [mkB], by simp [mkB], fun x hx => ?_⟩
  simp only [mkB, List.mem_cons, List.not_mem_nil, or_false] at hx
  rcases hx with rfl | rfl <;> assumption
theorem k6_wf {a b c : Trm} (ha : wfT 1000000 a = true) (hb : wfT 1000000 b = true) (hc : wfT 1000000 c = true) : wfT 1000000 ⟨6, 0, ⟨#[]⟩, [], [a, b, c]⟩ = true := by
  refine z6d ⟨by simp [argF], by simp, by simp, by simp, by simp, by simp, by simp, by simp, by simp, fun x hx => ?_⟩
  simp only [List.mem_cons, List.not_mem_nil, or_false] at hx
  rcases hx with rfl | rfl | rfl <;> assumption
def cOK (t : Trm) (d s : Nat) : Bool := wfT 1000000 t && (decide (dpT t ≤ d) && decide (sizT t ≤ s))
theorem zx {t : Trm} {d s : Nat} (h : cOK t d s = true) : wfT 1000000 t = true ∧ dpT t ≤ d ∧ sizT t ≤ s := by
  simp only [cOK, Bool.and_eq_true, decide_eq_true_eq] at h; exact h
theorem kZero : cOK cZero 1 1 = true := by kernel_rfl
theorem kSucc : cOK cSucc 1 1 = true := by kernel_rfl
theorem kAdd : cOK cAdd 1 1 = true := by kernel_rfl
theorem kTwo : cOK cTwo 1 1 = true := by kernel_rfl
theorem kNat : cOK cNat 1 1 = true := by kernel_rfl
theorem kId : cOK cId 1 1 = true := by kernel_rfl
theorem kRec : cOK cRec 1 1 = true := by kernel_rfl
theorem kNN : cOK cNN 2 3 = true := by kernel_rfl
theorem kPi : cOK cPi 2 3 = true := by kernel_rfl
theorem zai (l : List Int) (g : Nat) {a b : Int} (hab : a ≤ b) (hb : b ≤ l.length) {c : Trm} (h : cOK c 1 1 = true) {k : Int} (hk : 1 ≤ k) : Mk l g k a (c, b) := by
  obtain ⟨h1, h2, h3⟩ := zx h
  exact ⟨hab, hb, h1, by simp only; omega, by simp only; omega⟩
theorem z2v (f a : Trm) : sizT (mkA f a) = sizT f + sizT a + 1 := by simp [mkA, sizT, sizTs]
theorem sz_B (k : Int) (f a : Trm) : sizT (mkB k f a) = sizT f + sizT a + 1 := by simp [mkB, sizT, sizTs]
theorem z2w (f a : Trm) : dpT (mkA f a) = max (dpT f) (dpT a) + 1 := by simp [mkA, dpT, dpTs]
theorem dp_B (k : Int) (f a : Trm) : dpT (mkB k f a) = max (dpT f) (dpT a) + 1 := by simp [mkB, dpT, dpTs]
theorem zgf (l : List Int) : ∀ g : Nat, (∀ v a : Int, 0 ≤ v → v + 2 * g ≤ 100000 → 0 ≤ a → a ≤ l.length → Mk l g 1 a (natF l g v a)) ∧ (∀ v a : Int, 0 ≤ v → v + 2 * g ≤ 100000 → 0 ≤ a → a ≤ l.length → Mk l g 10 a (funF l g v a))
  | 0 => ⟨fun v a h0 h1 h2 h3 => zai l 0 (Int.le_refl _) h3 kZero (by omega), fun v a h0 h1 h2 h3 => zai l 0 (Int.le_refl _) h3 kZero (by omega)⟩
  | g + 1 => by
    obtain ⟨iN, iF⟩ := zgf l g
    have z1 := zx kSucc; have z2 := zx kAdd; have z3 := zx kNat; have z4 := zx kId; have z5 := zx kRec; have z6 := zx kNN; have z7 := zx kPi
    refine ⟨fun v a h0 h1 h2 h3 => ?_, fun v a h0 h1 h2 h3 => ?_⟩
    · have hx := nx_le (l := l) (n := 9) h2 h3
      simp only [natF]
      generalize nxA l a 9 = b at *
      split
      · have hb := hx.2.2.1 (by omega)
        have m := iN v b h0 (by omega) (by omega) hx.2.1
        exact ⟨by have := m.a0; simp only; omega, m.a1, z1f (by omega) z1.1 m.w, by have := m.d; simp only [appT, z2w]; omega, by have := m.s; simp only [appT, z2v]; push_cast; omega⟩
      · split
        · have hb := hx.2.2.1 (by omega)
          have m := iN v b h0 (by omega) (by omega) hx.2.1
          have m2 := iN v _ h0 (by omega) (by have := m.a0; omega) m.a1
          exact ⟨by have := m.a0; have := m2.a0; simp only; omega, m2.a1, z1f (by omega) (z1f (by omega) z2.1 m.w) m2.w, by have := m.d; have := m2.d; simp only [appT, z2w]; omega, by have := m.s; have := m2.s; simp only [appT, z2v]; push_cast; omega⟩
        · split
          · have hb := hx.2.2.1 (by omega)
            split
            · have hy := nx_le (l := l) (a := b) (n := v) (by omega) hx.2.1
              have hv := nx_lt (l := l) (a := b) (n := v) (by omega)
              exact ⟨by simp only; omega, hy.2.1, by simp [mkV, wfT, shpF, wfTs, argF]; omega, by simp [mkV, dpT, dpTs], by simp [mkV, sizT, sizTs]; omega⟩
            · exact zai l _ (by omega) hx.2.1 kTwo (by omega)
          · split
            · have hb := hx.2.2.1 (by omega)
              have m := iN v b h0 (by omega) (by omega) hx.2.1
              exact ⟨by have := m.a0; simp only; omega, m.a1, z1f (by omega) (z1f (by omega) z4.1 z3.1) m.w, by have := m.d; simp only [appT, z2w]; omega, by have := m.s; simp only [appT, z2v]; push_cast; omega⟩
            · split
              · have hb := hx.2.2.1 (by omega)
                have m := iF v b h0 (by omega) (by omega) hx.2.1
                have m2 := iN v _ h0 (by omega) (by have := m.a0; omega) m.a1
                exact ⟨by have := m.a0; have := m2.a0; simp only; omega, m2.a1, z1f (by omega) m.w m2.w, by have := m.d; have := m2.d; simp only [z2w]; omega, by have := m.s; have := m2.s; simp only [z2v]; push_cast; omega⟩
              · split
                · have hb := hx.2.2.1 (by omega)
                  have m := iN v b h0 (by omega) (by omega) hx.2.1
                  have m2 := iN (v + 1) _ (by omega) (by omega) (by have := m.a0; omega) m.a1
                  exact ⟨by have := m.a0; have := m2.a0; simp only; omega, m2.a1, k6_wf z3.1 m.w m2.w, by have := m.d; have := m2.d; simp only [dpT, dpTs]; omega, by have := m.s; have := m2.s; simp only [sizT, sizTs]; push_cast; omega⟩
                · split
                  · have hb := hx.2.2.1 (by omega)
                    have m := iN v b h0 (by omega) (by omega) hx.2.1
                    have m2 := iN (v + 2) _ (by omega) (by omega) (by have := m.a0; omega) m.a1
                    have m3 := iN v _ (by omega) (by omega) (by have := m.a0; have := m2.a0; omega) m2.a1
                    exact ⟨by have := m.a0; have := m2.a0; have := m3.a0; simp only; omega, m3.a1, z1f (by omega) (z1f (by omega) (z1f (by omega) (z1f (by omega) z5.1 z6.1) m.w) (kB_wf (.inl rfl) z3.1 (kB_wf (.inl rfl) z3.1 m2.w))) m3.w, by have := m.d; have := m2.d; have := m3.d; simp only [appT, z2w, dp_B]; omega, by have := m.s; have := m2.s; have := m3.s; simp only [appT, z2v, sz_B]; push_cast; omega⟩
                  · exact zai l _ (by omega) hx.2.1 kZero (by omega)
    · have hx := nx_le (l := l) (n := 4) h2 h3
      simp only [funF]
      generalize nxA l a 4 = b at *
      split
      · have m := iN (v + 1) b (by omega) (by omega) (by omega) hx.2.1
        exact ⟨by have := m.a0; simp only; omega, m.a1, kB_wf (.inl rfl) z3.1 m.w, by have := m.d; simp only [dp_B]; omega, by have := m.s; simp only [sz_B]; push_cast; omega⟩
      · split
        · exact zai l _ (by omega) hx.2.1 kSucc (by omega)
        · split
          · have hb := hx.2.2.1 (by omega)
            have m := iN v b h0 (by omega) (by omega) hx.2.1
            exact ⟨by have := m.a0; simp only; omega, m.a1, z1f (by omega) z2.1 m.w, by have := m.d; simp only [appT, z2w]; omega, by have := m.s; simp only [appT, z2v]; push_cast; omega⟩
          · have m := iN (v + 1) b (by omega) (by omega) (by omega) hx.2.1
            have hb := hx.2.2.1 (by omega)
            exact ⟨by have := m.a0; simp only; omega, m.a1, z1f (by omega) (z1f (by omega) z4.1 z7.1) (kB_wf (.inl rfl) z3.1 m.w), by have := m.d; simp only [appT, z2w, dp_B]; omega, by have := m.s; simp only [appT, z2v, sz_B]; push_cast; omega⟩
theorem Mk.cp {l : List Int} {g : Nat} {k a : Int} {x : Trm × Int} (h : Mk l g k a x) (hg : g ≤ 100000) : Cp x.1 := Cp.of h.w (by omega) (by have := h.d; omega)
theorem cp_c {t : Trm} {d s : Nat} (h : cOK t d s = true) (hd : d ≤ 1000) : Cp t := by obtain ⟨h1, h2, h3⟩ := zx h; exact Cp.of h1 (by omega) (by omega)
theorem z5f (s : ByteArray) (h : txtOK s = true) (hc : okT (trmOf s) = true) (x : Trm) (hx : Cp x) : PCon Tryz.prog 55 [.p (St s), .p (.sl 5 [rowT x])] (tv (appT (trmOf s) [x])) := by
  have := z7k s h hc [x] (fun a ha => by simp at ha; subst ha; exact hx) (by simp)
  rw [show encTs [x] = [rowT x] by simp [zb]] at this
  exact this
theorem z6t (s : ByteArray) (h : txtOK s = true) (hc : okT (trmOf s) = true) (x y : Trm) (hx : Cp x) (hy : Cp y) : PCon Tryz.prog 55 [.p (St s), .p (.sl 5 [rowT x, rowT y])] (tv (appT (trmOf s) [x, y])) := by
  have := z7k s h hc [x, y] (fun a ha => by simp at ha; rcases ha with rfl | rfl <;> assumption) (by simp)
  rw [show encTs [x, y] = [rowT x, rowT y] by simp [zb]] at this
  exact this
theorem zsp (s : ByteArray) (h : txtOK s = true) (hc : okT (trmOf s) = true) (x y z u : Trm) (hx : Cp x) (hy : Cp y) (hz : Cp z) (hu : Cp u) : PCon Tryz.prog 55 [.p (St s), .p (.sl 5 [rowT x, rowT y, rowT z, rowT u])] (tv (appT (trmOf s) [x, y, z, u])) := by
  have := z7k s h hc [x, y, z, u] (fun a ha => by simp at ha; rcases ha with rfl | rfl | rfl | rfl <;> assumption) (by simp)
  rw [show encTs [x, y, z, u] = [rowT x, rowT y, rowT z, rowT u] by simp [zb]] at this
  exact this
def NatC (l : List Int) (v a : Int) (x : Trm × Int) : Prop := Con Tryz.prog 22 [.ptr 1000 0, .p (I v)] (pkO l a) (fun r o => r = tv x.1 ∧ o = pkO l x.2)
def FunC (l : List Int) (v a : Int) (x : Trm × Int) : Prop := Con Tryz.prog 46 [.ptr 1000 0, .p (I v)] (pkO l a) (fun r o => r = tv x.1 ∧ o = pkO l x.2)
abbrev pkB (l : List Int) (a : Int) : Ob := .ce 77 [.p (.sl 1 (byts l)), .p (I a)]
theorem tSucc : txtOK (⟨#[115, 117, 99, 99]⟩ : ByteArray) = true := by kernel_rfl
theorem tAdd : txtOK (⟨#[97, 100, 100]⟩ : ByteArray) = true := by kernel_rfl
theorem tTwo : txtOK (⟨#[116, 119, 111]⟩ : ByteArray) = true := by kernel_rfl
theorem tZero : txtOK (⟨#[122, 101, 114, 111]⟩ : ByteArray) = true := by kernel_rfl
theorem tNat : txtOK (⟨#[78, 97, 116]⟩ : ByteArray) = true := by kernel_rfl
theorem tId : txtOK (⟨#[105, 100, 123, 83, 48, 125]⟩ : ByteArray) = true := by kernel_rfl
theorem tRec : txtOK (⟨#[78, 97, 116, 46, 114, 101, 99, 123, 83, 48, 125]⟩ : ByteArray) = true := by kernel_rfl
theorem tNN : txtOK (⟨#[92, 78, 97, 116, 46, 32, 78, 97, 116]⟩ : ByteArray) = true := by kernel_rfl
theorem tPi : txtOK (⟨#[33, 78, 97, 116, 46, 32, 78, 97, 116]⟩ : ByteArray) = true := by kernel_rfl
theorem oSucc : okT cSucc = true := by kernel_rfl
theorem oAdd : okT cAdd = true := by kernel_rfl
theorem oId : okT cId = true := by kernel_rfl
theorem oRec : okT cRec = true := by kernel_rfl
set_option maxRecDepth 20000 in
set_option maxHeartbeats 8000000 in
theorem zl2 (l : List Int) (hl : okB l) (hlen : l.length ≤ 10000) : ∀ g : Nat, (∀ v a : Int, 0 ≤ v → v + 2 * g ≤ 100000 → 0 ≤ a → a ≤ l.length → 2 * (l.length - a) + 1 ≤ g → NatC l v a (natF l g v a)) ∧ (∀ v a : Int, 0 ≤ v → v + 2 * g ≤ 100000 → 0 ≤ a → a ≤ l.length → 2 * (l.length - a) + 2 ≤ g → FunC l v a (funF l g v a))
  | 0 => ⟨fun v a h0 h1 h2 h3 h4 => by omega, fun v a h0 h1 h2 h3 h4 => by omega⟩
  | g + 1 => by
    obtain ⟨cN, cF⟩ := zl2 l hl hlen g
    obtain ⟨iN, iF⟩ := zgf l g
    refine ⟨fun v a h0 h1 h2 h3 h4 => ?_, fun v a h0 h1 h2 h3 h4 => ?_⟩
    · have hx := nx_le (l := l) (n := 9) h2 h3
      have hnx := z1r l hl (by omega) a 9 h2 (by omega) (by omega)
      unfold NatC
      generalize hX : natF l (g + 1) v a = X
      simp only [natF] at hX
      generalize nxA l a 9 = b at *
      generalize nxt l a 9 = k at *
      have hN : ∀ v' c : Int, 0 ≤ v' → v' + 2 * g ≤ 100000 → a + 1 ≤ c → c ≤ l.length → NatC l v' c (natF l g v' c) := fun v' c g0 g1 g2 g3 => cN v' c g0 g1 (by omega) g3 (by omega)
      refine cv [] [] [1000] Tryz.func22 93 Tryz.ntmps22 rfl rfl fun cx hE => call1 [1000] hnx rfl rfl (za _) ?_
      refine brS (fun hk => ?_) (fun hk => brS (fun hk2 => ?_) (fun hk2 => brS (fun hk3 => ?_) (fun hk3 => brS (fun hk4 => ?_) (fun hk4 => brS (fun hk5 => ?_) (fun hk5 => brS (fun hk6 => ?_) (fun hk6 => brS (fun hk7 => ?_) (fun hk7 => brS (fun hk8 => ?_) (fun hk8 => ?_))))))))
      · have hb := hx.2.2.1 (by omega)
        rw [if_pos (.inl hk)] at hX; subst hX
        have m := iN v b h0 (by omega) (by omega) hx.2.1
        exact call1 [1000] (hN v b h0 (by omega) (by omega) hx.2.1) rfl rfl (za _) (call0 (z5f _ tSucc oSucc _ (m.cp (by omega))) ⟨rfl, rfl⟩)
      · have hb := hx.2.2.1 (by omega)
        rw [if_pos (.inr hk2)] at hX; subst hX
        have m := iN v b h0 (by omega) (by omega) hx.2.1
        exact call1 [1000] (hN v b h0 (by omega) (by omega) hx.2.1) rfl rfl (za _) (call0 (z5f _ tSucc oSucc _ (m.cp (by omega))) ⟨rfl, rfl⟩)
      · have hb := hx.2.2.1 (by omega)
        rw [if_neg (by omega), if_pos hk3] at hX; subst hX
        have m := iN v b h0 (by omega) (by omega) hx.2.1
        have m0 := m.a0
        have m2 := iN v _ h0 (by omega) (by omega) m.a1
        exact call1 [1000] (hN v b h0 (by omega) (by omega) hx.2.1) rfl rfl (za _) (callW [1000] 1000 (pkB l _) (hN v _ h0 (by omega) (by omega) m.a1) rfl rfl (za _) rfl rfl (call0 (z6t _ tAdd oAdd _ _ (m.cp (by omega)) (m2.cp (by omega))) ⟨rfl, rfl⟩))
      · have hb := hx.2.2.1 (by omega)
        rw [if_neg (by omega), if_neg hk3, if_pos hk4] at hX
        refine brS (fun hv => ?_) (fun hv => ?_)
        · rw [if_pos hv] at hX; subst hX
          exact call1 [1000] (z1r l hl (by omega) b v (by omega) (by omega) (by omega)) rfl rfl (za _) (call0 (z5z _) ⟨rfl, rfl⟩)
        · rw [if_neg hv] at hX; subst hX
          exact call0 (z2z _ tTwo) ⟨rfl, rfl⟩
      · have hb := hx.2.2.1 (by omega)
        rw [if_neg (by omega), if_neg hk3, if_neg hk4, if_pos hk5] at hX; subst hX
        have m := iN v b h0 (by omega) (by omega) hx.2.1
        exact call0 (z2z _ tNat) (call1 [1000] (hN v b h0 (by omega) (by omega) hx.2.1) rfl rfl (za _) (call0 (z6t _ tId oId cNat _ (cp_c kNat (by omega)) (m.cp (by omega))) ⟨rfl, rfl⟩))
      · have hb := hx.2.2.1 (by omega)
        rw [if_neg (by omega), if_neg hk3, if_neg hk4, if_neg hk5, if_pos hk6] at hX; subst hX
        have m := iF v b h0 (by omega) (by omega) hx.2.1
        have m0 := m.a0
        have m2 := iN v _ h0 (by omega) (by omega) m.a1
        exact call1 [1000] (cF v b h0 (by omega) (by omega) hx.2.1 (by omega)) rfl rfl (za _) (callW [1000] 1000 (pkB l _) (hN v _ h0 (by omega) (by omega) m.a1) rfl rfl (za _) rfl rfl (call0 (z3l _ _ (m2.cp (by omega))) ⟨rfl, rfl⟩))
      · have hb := hx.2.2.1 (by omega)
        rw [if_neg (by omega), if_neg hk3, if_neg hk4, if_neg hk5, if_neg hk6, if_pos hk7] at hX; subst hX
        have m := iN v b h0 (by omega) (by omega) hx.2.1
        have m0 := m.a0
        exact call1 [1000] (hN v b h0 (by omega) (by omega) hx.2.1) rfl rfl (za _) (call0 (z2z _ tNat) (And.intro (by omega) (callW [1000] 1000 (pkB l _) (hN (v + 1) _ (by omega) (by omega) (by omega) m.a1) rfl rfl (za _) rfl rfl ⟨tv3 _ _ _ [] _ _ _, rfl⟩)))
      · have hb := hx.2.2.1 (by omega)
        rw [if_neg (by omega), if_neg hk3, if_neg hk4, if_neg hk5, if_neg hk6, if_neg hk7, if_pos hk8] at hX; subst hX
        have m := iN v b h0 (by omega) (by omega) hx.2.1
        have m0 := m.a0
        have m2 := iN (v + 2) _ (by omega) (by omega) (by omega) m.a1
        have m20 := m2.a0
        have m3 := iN v _ h0 (by omega) (by omega) m2.a1
        have hlam : Cp (mkB 4 cNat (mkB 4 cNat (natF l g (v + 2) (natF l g v b).2).1)) := by
          have h1 := (zx kNat)
          have h2 := m2.d
          exact Cp.of (kB_wf (.inl rfl) h1.1 (kB_wf (.inl rfl) h1.1 m2.w)) (by omega) (by simp only [dp_B]; omega)
        exact call1 [1000] (hN v b h0 (by omega) (by omega) hx.2.1) rfl rfl (za _) (call0 (z2z _ tNat) (call0 (z2z _ tNat) (And.intro (by omega) (call1 [1000] (hN (v + 2) _ (by omega) (by omega) (by omega) m.a1) rfl rfl (za _) (call0 (z4w cNat _ (cp_c kNat (by omega))) (call0 (z4w cNat _ (cp_c kNat (by omega))) (call0 (z1u _ tNN) (callW [1000] 1000 (pkB l _) (hN v _ h0 (by omega) (by omega) m2.a1) rfl rfl (za _) rfl rfl (call0 (zsp _ tRec oRec cNN _ _ _ (cp_c kNN (by omega)) (m.cp (by omega)) hlam (m3.cp (by omega))) ⟨rfl, rfl⟩)))))))))
      · rw [if_neg (by omega), if_neg hk3, if_neg hk4, if_neg hk5, if_neg hk6, if_neg hk7, if_neg hk8] at hX; subst hX
        exact call0 (z2z _ tZero) ⟨rfl, rfl⟩
    · have hx := nx_le (l := l) (n := 4) h2 h3
      have hnx := z1r l hl (by omega) a 4 h2 (by omega) (by omega)
      have hnl := nx_lt (l := l) (a := a) (n := 4) (by omega)
      unfold FunC
      generalize hX : funF l (g + 1) v a = X
      simp only [funF] at hX
      generalize nxA l a 4 = b at *
      generalize nxt l a 4 = k at *
      have hN : ∀ v' : Int, 0 ≤ v' → v' + 2 * g ≤ 100000 → NatC l v' b (natF l g v' b) := fun v' g0 g1 => cN v' b g0 g1 (by omega) hx.2.1 (by
        by_cases hal : a < l.length
        · have := hx.2.2.2 (by omega) hal; omega
        · omega)
      refine cv [] [] [1000] Tryz.func46 34 Tryz.ntmps46 rfl rfl fun cx hE => call1 [1000] hnx rfl rfl (za _) ?_
      refine brS (fun hk => ?_) (fun hk => brS (fun hk2 => ?_) (fun hk2 => brS (fun hk3 => ?_) (fun hk3 => ?_)))
      · rw [if_pos hk] at hX; subst hX
        exact call0 (z2z _ tNat) (And.intro (by omega) (call1 [1000] (hN (v + 1) (by omega) (by omega)) rfl rfl (za _) (call0 (z4w cNat _ (cp_c kNat (by omega))) ⟨rfl, rfl⟩)))
      · rw [if_neg hk, if_pos hk2] at hX; subst hX
        exact call0 (z2z _ tSucc) ⟨rfl, rfl⟩
      · rw [if_neg hk, if_neg hk2, if_pos hk3] at hX; subst hX
        have m := iN v b h0 (by omega) (by omega) hx.2.1
        exact call1 [1000] (hN v h0 (by omega)) rfl rfl (za _) (call0 (z5f _ tAdd oAdd _ (m.cp (by omega))) ⟨rfl, rfl⟩)
      · rw [if_neg hk, if_neg hk2, if_neg hk3] at hX; subst hX
        have m := iN (v + 1) b (by omega) (by omega) (by omega) hx.2.1
        have hlam : Cp (mkB 4 cNat (natF l g (v + 1) b).1) := by
          have h1 := (zx kNat)
          have h2 := m.d
          exact Cp.of (kB_wf (.inl rfl) h1.1 m.w) (by omega) (by simp only [dp_B]; omega)
        exact call0 (z1u _ tPi) (call0 (z2z _ tNat) (And.intro (by omega) (call1 [1000] (hN (v + 1) (by omega) (by omega)) rfl rfl (za _) (call0 (z4w cNat _ (cp_c kNat (by omega))) (call0 (z6t _ tId oId cPi _ (cp_c kPi (by omega)) hlam) ⟨rfl, rfl⟩)))))
def cEq : Trm := trmOf (⟨#[69, 113, 123, 83, 48, 125]⟩ : ByteArray)
def cAnd : Trm := trmOf (⟨#[65, 110, 100]⟩ : ByteArray)
def cNot : Trm := trmOf (⟨#[110, 111, 116]⟩ : ByteArray)
def cP : Trm := trmOf (⟨#[80]⟩ : ByteArray)
def cS0 : Trm := trmOf (⟨#[42, 48]⟩ : ByteArray)
def cRefl : Trm := trmOf (⟨#[69, 113, 46, 114, 101, 102, 108, 123, 83, 48, 125]⟩ : ByteArray)
def zsq : Trm := trmOf (⟨#[65, 110, 100, 46, 109, 107]⟩ : ByteArray)
def cId0 : Trm := trmOf (⟨#[105, 100, 123, 48, 125]⟩ : ByteArray)
def cAll : Trm := trmOf (⟨#[112, 46, 97, 108, 108]⟩ : ByteArray)
def pn (l : List Int) (v a : Int) : Trm × Int := natF l (2 * l.length + 1) v a
def propF (l : List Int) : Nat → Int → Int → Trm × Int
  | 0, _, a => (cZero, a)
  | g + 1, v, a =>
    if nxt l a 6 = 1 then (appT cEq [cNat, (pn l v (nxA l a 6)).1, (pn l v (pn l v (nxA l a 6)).2).1], (pn l v (pn l v (nxA l a 6)).2).2)
    else if nxt l a 6 = 2 then (appT cAnd [(propF l g v (nxA l a 6)).1, (propF l g v (propF l g v (nxA l a 6)).2).1], (propF l g v (propF l g v (nxA l a 6)).2).2)
    else if nxt l a 6 = 3 then (mkB 5 cNat (propF l g (v + 1) (nxA l a 6)).1, (propF l g (v + 1) (nxA l a 6)).2)
    else if nxt l a 6 = 4 then (appT cNot [(propF l g v (nxA l a 6)).1], (propF l g v (nxA l a 6)).2)
    else if nxt l a 6 = 5 ∧ ¬ nxA l a 6 ≥ l.length then (appT cId [cS0, (propF l g v (nxA l a 6)).1], (propF l g v (nxA l a 6)).2)
    else (appT cP [(pn l v (nxA l a 6)).1], (pn l v (nxA l a 6)).2)
def pp (l : List Int) (v a : Int) : Trm × Int := propF l (l.length + 1) v a
def z1m (l : List Int) : Nat → Int → Int → Trm × Trm × Int
  | 0, _, a => (cZero, cZero, a)
  | g + 1, v, a =>
    if nxt l a 6 = 1 then (appT cRefl [cNat, (pn l v (nxA l a 6)).1], appT cEq [cNat, (pn l v (nxA l a 6)).1, (pn l v (nxA l a 6)).1], (pn l v (nxA l a 6)).2)
    else if nxt l a 6 = 2 then
      (appT zsq [(z1m l g v (nxA l a 6)).2.1, (z1m l g v (z1m l g v (nxA l a 6)).2.2).2.1, (z1m l g v (nxA l a 6)).1, (z1m l g v (z1m l g v (nxA l a 6)).2.2).1],
        appT cAnd [(z1m l g v (nxA l a 6)).2.1, (z1m l g v (z1m l g v (nxA l a 6)).2.2).2.1], (z1m l g v (z1m l g v (nxA l a 6)).2.2).2.2)
    else if nxt l a 6 = 3 then (mkB 4 cNat (z1m l g (v + 1) (nxA l a 6)).1, mkB 5 cNat (z1m l g (v + 1) (nxA l a 6)).2.1, (z1m l g (v + 1) (nxA l a 6)).2.2)
    else if nxt l a 6 = 4 then (mkB 4 (pp l v (nxA l a 6)).1 (mkV 0), mkB 5 (pp l v (nxA l a 6)).1 (lftT 1 (pp l v (nxA l a 6)).1 0), (pp l v (nxA l a 6)).2)
    else if nxt l a 6 = 5 ∧ ¬ nxA l a 6 ≥ l.length then (appT cId0 [(z1m l g v (nxA l a 6)).2.1, (z1m l g v (nxA l a 6)).1], (z1m l g v (nxA l a 6)).2.1, (z1m l g v (nxA l a 6)).2.2)
    else (appT cAll [(pn l v (nxA l a 6)).1], appT cP [(pn l v (nxA l a 6)).1], (pn l v (nxA l a 6)).2)
theorem kEq : cOK cEq 1 1 = true := by kernel_rfl
theorem kAnd : cOK cAnd 1 1 = true := by kernel_rfl
theorem kNot : cOK cNot 1 1 = true := by kernel_rfl
theorem kP : cOK cP 1 1 = true := by kernel_rfl
theorem kS0 : cOK cS0 1 1 = true := by kernel_rfl
theorem kRefl : cOK cRefl 1 1 = true := by kernel_rfl
theorem zyl : cOK zsq 1 1 = true := by kernel_rfl
theorem kId0 : cOK cId0 1 1 = true := by kernel_rfl
theorem kAll : cOK cAll 1 1 = true := by kernel_rfl
theorem pn_ok (l : List Int) (hl : l.length ≤ 10000) {v a : Int} (h0 : 0 ≤ v) (h1 : v ≤ 50000) (h2 : 0 ≤ a) (h3 : a ≤ l.length) : Mk l (2 * l.length + 1) 1 a (pn l v a) := (zgf l _).1 v a h0 (by omega) h2 h3
theorem zdf (l : List Int) (hl : l.length ≤ 10000) : ∀ (g : Nat) (v a : Int), 0 ≤ v → v + g ≤ 50000 → 0 ≤ a → a ≤ l.length → Mk l (2 * l.length + 1 + g) 3 a (propF l g v a)
  | 0, v, a, h0, h1, h2, h3 => zai l _ (Int.le_refl _) h3 kZero (by omega)
  | g + 1, v, a, h0, h1, h2, h3 => by
    have iP := zdf l hl g
    have z1 := zx kEq; have z2 := zx kAnd; have z3 := zx kNat; have z4 := zx kNot; have z5 := zx kP; have z6 := zx kS0; have z7 := zx kId
    have hx := nx_le (l := l) (n := 6) h2 h3
    simp only [propF]
    generalize nxA l a 6 = b at *
    split
    · have hb := hx.2.2.1 (by omega)
      have m := pn_ok l hl h0 (by omega) (by omega : 0 ≤ b) hx.2.1
      have m2 := pn_ok l hl h0 (by omega) (by have := m.a0; omega) m.a1
      exact ⟨by have := m.a0; have := m2.a0; simp only; omega, m2.a1, z1f (by omega) (z1f (by omega) (z1f (by omega) z1.1 z3.1) m.w) m2.w, by have := m.d; have := m2.d; simp only [appT, z2w]; omega, by have := m.s; have := m2.s; simp only [appT, z2v]; push_cast; omega⟩
    · split
      · have hb := hx.2.2.1 (by omega)
        have m := iP v b h0 (by omega) (by omega) hx.2.1
        have m2 := iP v _ h0 (by omega) (by have := m.a0; omega) m.a1
        exact ⟨by have := m.a0; have := m2.a0; simp only; omega, m2.a1, z1f (by omega) (z1f (by omega) z2.1 m.w) m2.w, by have := m.d; have := m2.d; simp only [appT, z2w]; omega, by have := m.s; have := m2.s; simp only [appT, z2v]; push_cast; omega⟩
      · split
        · have hb := hx.2.2.1 (by omega)
          have m := iP (v + 1) b (by omega) (by omega) (by omega) hx.2.1
          exact ⟨by have := m.a0; simp only; omega, m.a1, kB_wf (.inr rfl) z3.1 m.w, by have := m.d; simp only [dp_B]; omega, by have := m.s; simp only [sz_B]; push_cast; omega⟩
        · split
          · have hb := hx.2.2.1 (by omega)
            have m := iP v b h0 (by omega) (by omega) hx.2.1
            exact ⟨by have := m.a0; simp only; omega, m.a1, z1f (by omega) z4.1 m.w, by have := m.d; simp only [appT, z2w]; omega, by have := m.s; simp only [appT, z2v]; push_cast; omega⟩
          · split
            · have hb := hx.2.2.1 (by omega)
              have m := iP v b h0 (by omega) (by omega) hx.2.1
              exact ⟨by have := m.a0; simp only; omega, m.a1, z1f (by omega) (z1f (by omega) z7.1 z6.1) m.w, by have := m.d; simp only [appT, z2w]; omega, by have := m.s; simp only [appT, z2v]; push_cast; omega⟩
            · have m := pn_ok l hl h0 (by omega) (by omega : 0 ≤ b) hx.2.1
              exact ⟨by have := m.a0; simp only; omega, m.a1, z1f (by omega) z5.1 m.w, by have := m.d; simp only [appT, z2w]; omega, by have := m.s; simp only [appT, z2v]; push_cast; omega⟩
end Go.Ab.YtplnabidakjhiaaGreat
