/- Contracts of functions: what a call needs and gives, how one is proved, how one is used. -/
import Derived.Test.YtnennmlpaijedaaAb5
set_option linter.unusedVariables false
set_option linter.unusedSimpArgs false
namespace Go.Ab
open Go Go.RowKit

def mem : Nat → List Nat → Bool
  | _, [] => false
  | k, j :: r => Nat.beq j k || mem k r
theorem mem_iff {k : Nat} : ∀ {l : List Nat}, mem k l = true ↔ k ∈ l
  | [] => by simp [mem]
  | j :: r => by
    simp only [mem, Bool.or_eq_true, List.mem_cons, mem_iff (l := r)]
    constructor
    · rintro (h | h)
      · exact .inl (Nat.eq_of_beq_eq_true h).symm
      · exact .inr h
    · rintro (h | h)
      · exact .inl (by subst h; exact Nat.beq_refl k)
      · exact .inr h

/-- The objects whose keys are named; the others. -/
def sel (ks : List Nat) : Obs → Obs
  | [] => []
  | (k, o) :: r => bif mem k ks then (k, o) :: sel ks r else sel ks r
def oth (ks : List Nat) : Obs → Obs
  | [] => []
  | (k, o) :: r => bif mem k ks then oth ks r else (k, o) :: oth ks r

theorem sel_mem {ks : List Nat} {k : Nat} {o : Ob} : ∀ {l : Obs}, (k, o) ∈ sel ks l ↔ (k, o) ∈ l ∧ k ∈ ks
  | [] => by simp [sel]
  | (j, y) :: r => by
    simp only [sel]
    cases hb : mem j ks with
    | true =>
      have := mem_iff.1 hb
      simp only [cond_true, List.mem_cons, sel_mem (l := r)]
      constructor
      · rintro (h | h)
        · cases h; exact ⟨.inl rfl, this⟩
        · exact ⟨.inr h.1, h.2⟩
      · rintro ⟨h | h, h2⟩
        · exact .inl h
        · exact .inr ⟨h, h2⟩
    | false =>
      simp only [cond_false, List.mem_cons, sel_mem (l := r)]
      constructor
      · rintro h; exact ⟨.inr h.1, h.2⟩
      · rintro ⟨h | h, h2⟩
        · cases h; rw [mem_iff.2 h2] at hb; cases hb
        · exact ⟨h, h2⟩
theorem oth_mem {ks : List Nat} {k : Nat} {o : Ob} : ∀ {l : Obs}, (k, o) ∈ oth ks l ↔ (k, o) ∈ l ∧ k ∉ ks
  | [] => by simp [oth]
  | (j, y) :: r => by
    simp only [oth]
    cases hb : mem j ks with
    | false =>
      have : j ∉ ks := fun h => by rw [mem_iff.2 h] at hb; cases hb
      simp only [cond_false, List.mem_cons, oth_mem (l := r)]
      constructor
      · rintro (h | h)
        · cases h; exact ⟨.inl rfl, this⟩
        · exact ⟨.inr h.1, h.2⟩
      · rintro ⟨h | h, h2⟩
        · exact .inl h
        · exact .inr ⟨h, h2⟩
    | true =>
      simp only [cond_true, List.mem_cons, oth_mem (l := r)]
      constructor
      · rintro h; exact ⟨.inr h.1, h.2⟩
      · rintro ⟨h | h, h2⟩
        · cases h; exact absurd (mem_iff.1 hb) h2
        · exact ⟨h, h2⟩

theorem sel_sub (ks : List Nat) : ∀ l : Obs, (sel ks l).Sublist l
  | [] => .slnil
  | (j, y) :: r => by
    simp only [sel]
    cases mem j ks
    · exact .cons _ (sel_sub ks r)
    · exact .cons_cons _ (sel_sub ks r)
theorem oth_sub (ks : List Nat) : ∀ l : Obs, (oth ks l).Sublist l
  | [] => .slnil
  | (j, y) :: r => by
    simp only [oth]
    cases mem j ks
    · exact .cons_cons _ (oth_sub ks r)
    · exact .cons _ (oth_sub ks r)

def Ob.hwi (o : Ob) (m : Nat) : Prop := (∃ T sz, o = .ar T sz m) ∨ ∃ T sz xs, o = .mu T sz m xs
theorem hwOf_some {objs : Obs} {k m : Nat} (h : hwOf objs k = some m) : ∃ o, (k, o) ∈ objs ∧ o.hwi m := by
  unfold hwOf at h
  split at h
  · rename_i T sz q hq; cases h; exact ⟨_, get_mem hq, .inl ⟨T, sz, rfl⟩⟩
  · rename_i T sz q xs hq; cases h; exact ⟨_, get_mem hq, .inr ⟨T, sz, xs, rfl⟩⟩
  · cases h
theorem hwOf_of {objs : Obs} {k m : Nat} {o : Ob} (hn : (objs.map (·.1)).Nodup) (h : (k, o) ∈ objs) (ho : o.hwi m) : hwOf objs k = some m := by
  rcases ho with ⟨T, sz, rfl⟩ | ⟨T, sz, xs, rfl⟩ <;> (unfold hwOf; rw [get_of_mem hn h])
theorem hwOf_none {objs : Obs} {k : Nat} (h : k ∉ objs.map (·.1)) : hwOf objs k = none := by
  unfold hwOf; rw [get_none h]
theorem hwOf_congr {objs objs' : Obs} {k : Nat} (hn : (objs.map (·.1)).Nodup) (hn' : (objs'.map (·.1)).Nodup) (h : ∀ o, (k, o) ∈ objs ↔ (k, o) ∈ objs') : hwOf objs k = hwOf objs' k := by
  cases h1 : hwOf objs k with
  | some m =>
    obtain ⟨oo, hm, ho⟩ := hwOf_some h1
    exact (hwOf_of hn' ((h _).1 hm) ho).symm
  | none =>
    cases h2 : hwOf objs' k with
    | none => rfl
    | some m =>
      obtain ⟨oo, hm, ho⟩ := hwOf_some h2
      rw [hwOf_of hn ((h _).2 hm) ho] at h1
      cases h1

/-- Objects are let go. -/
theorem OK.part {P : Program} {w : World} {M0 : Nat → Nat → Prop} {own : Nat → Value} {objs objs' : Obs} (h : OK P w M0 own objs) (hs : ∀ x, x ∈ objs' → x ∈ objs) (hn' : (objs'.map (·.1)).Nodup) (M1 : Nat → Nat → Prop)
    (hM : ∀ b i, M1 b i → Mu M0 own objs b i) (hdis : ∀ k o b, (k, o) ∈ objs' → blk (own k) = some b → ∀ i, ¬ M1 b i) : OK P w M1 own objs' ∧ (∀ b i, Mu M1 own objs' b i → Mu M0 own objs b i) := by
  have hmem : ∀ {x}, x ∈ objs' → x ∈ objs := fun hx => hs _ hx
  have hle : ∀ b i, Mu M1 own objs' b i → Mu M0 own objs b i := by
    rintro b i (h1 | ⟨k, o, hk, hm⟩)
    · exact hM b i h1
    · exact .inr ⟨k, o, hmem hk, hm⟩
  have htr : ∀ {x : AV} {v : Value}, RepA w (Mu M0 own objs) own (hwOf objs) x v → RepA w (Mu M1 own objs') own (hwOf objs') x v := fun hr =>
    hr.tr ((Stp.refl w _).less hle) fun k _ => by
      cases h1 : hwOf objs' k with
      | none => exact .inr (.inl ⟨h1, .inl rfl⟩)
      | some m =>
        obtain ⟨oo, hm, ho⟩ := hwOf_some h1
        exact .inl ⟨rfl, by rw [h1, hwOf_of h.keys (hmem hm) ho]⟩
  refine ⟨{ obs := fun k o hk => ?_, keys := hn', inj := fun k o k' o' hk hk' => h.inj k o k' o' (hmem hk) (hmem hk'), m0 := hdis, m0old := fun b i hm => ?_ }, hle⟩
  · have h1 := h.obs k o (hmem hk)
    cases o with
    | ce T cs =>
      obtain ⟨b, vals, e1, e2, e3, e4⟩ := h1
      exact ⟨b, vals, e1, e2, e3, fun j x hj => ⟨(e4 j x hj).1, htr (e4 j x hj).2⟩⟩
    | ar T sz m => exact h1
    | mu T sz ver xs =>
      obtain ⟨cells, e, e2, e3⟩ := h1
      exact ⟨cells, e, e2, fun i row j x hi hj => (e3 i row j x hi hj).stp ((Stp.refl w _).less hle)⟩
  · rcases hM b i hm with h1 | ⟨k, o, hk, hmu⟩
    · exact h.m0old b i h1
    · exact blk_lt h hk (mutOf_blk hmu)

theorem RepA.part {P : Program} {w : World} {M0 M1 : Nat → Nat → Prop} {own : Nat → Value} {objs objs' : Obs} (h : OK P w M0 own objs) (hs : ∀ x, x ∈ objs' → x ∈ objs) (hle : ∀ b i, Mu M1 own objs' b i → Mu M0 own objs b i)
    {x : AV} {v : Value} (hr : RepA w (Mu M0 own objs) own (hwOf objs) x v) : RepA w (Mu M1 own objs') own (hwOf objs') x v :=
  hr.tr ((Stp.refl w _).less hle) fun k _ => by
    cases h1 : hwOf objs' k with
    | none => exact .inr (.inl ⟨h1, .inl rfl⟩)
    | some m =>
      obtain ⟨oo, hm, ho⟩ := hwOf_some h1
      exact .inl ⟨rfl, by rw [h1, hwOf_of h.keys (hs _ hm) ho]⟩

def ArgsOK (w : World) (M : Nat → Nat → Prop) (own : Nat → Value) (hw : Nat → Option Nat) (args : List AV) (vals : List Value) : Prop :=
  vals.length = args.length ∧ ∀ (j : Nat) (x : AV), args[j]? = some x → RepA w M own hw x (vals.getD j undef)

/-- Names only objects of the list. -/
def ClosedA (objs : Obs) (x : AV) : Prop := ∀ k, Has k x → k ∈ objs.map (·.1)
def Closed (objs : Obs) (x : AV) : Prop := ClosedA objs x ∧ ∀ k T cs, (k, Ob.ce T cs) ∈ objs → ∀ y ∈ cs, ClosedA objs y

/-- THE CONTRACT: a call of f with args, over objs, comes back with a result and objects of which R is told. -/
def Con (P : Program) (f : Nat) (args : List AV) (objs : Obs) (R : AV → Obs → Prop) : Prop :=
  ∀ (w : World) (M0 : Nat → Nat → Prop) (own : Nat → Value) (vals : List Value), OK P w M0 own objs → ArgsOK w (Mu M0 own objs) own (hwOf objs) args vals →
    Calls P f vals.toArray w fun e w' => ∃ r objs' own' v, e = .returned v ∧ R r objs' ∧ OK P w' M0 own' objs' ∧ RepA w' (Mu M0 own' objs') own' (hwOf objs') r v ∧
      Stp w (Mu M0 own objs) w' (Mu M0 own' objs') ∧ (∀ k o, (k, o) ∈ objs → Kr own own' (hwOf objs) (hwOf objs') k) ∧ Closed objs' r ∧ Fr w own objs w' own' objs'

/-- The same, in worlds such as C says. -/
def ConG (C : World → Prop) (P : Program) (f : Nat) (args : List AV) (objs : Obs) (R : AV → Obs → Prop) : Prop :=
  ∀ (w : World) (M0 : Nat → Nat → Prop) (own : Nat → Value) (vals : List Value), C w → OK P w M0 own objs → ArgsOK w (Mu M0 own objs) own (hwOf objs) args vals →
    Calls P f vals.toArray w fun e w' => ∃ r objs' own' v, e = .returned v ∧ R r objs' ∧ OK P w' M0 own' objs' ∧ RepA w' (Mu M0 own' objs') own' (hwOf objs') r v ∧
      Stp w (Mu M0 own objs) w' (Mu M0 own' objs') ∧ (∀ k o, (k, o) ∈ objs → Kr own own' (hwOf objs) (hwOf objs') k) ∧ Closed objs' r ∧ Fr w own objs w' own' objs'

theorem ConG.weak {C C' : World → Prop} {P : Program} {f : Nat} {args : List AV} {objs : Obs} {R : AV → Obs → Prop} (h : ConG C P f args objs R) (k : ∀ w, C' w → C w) : ConG C' P f args objs R :=
  fun w M0 own vals hc => h w M0 own vals (k w hc)

/-- A contract of a function that touches no object. -/
def PCon (P : Program) (f : Nat) (args : List AV) (r : AV) : Prop := Con P f args [] (fun x o => x = r ∧ o = [])

theorem Con.mono {P : Program} {f : Nat} {args : List AV} {objs : Obs} {R R' : AV → Obs → Prop} (h : Con P f args objs R) (k : ∀ r o, R r o → R' r o) : Con P f args objs R' :=
  fun w M0 own vals h1 h2 => (h w M0 own vals h1 h2).mono fun e w' ⟨r, o, own', v, e1, e2, e3⟩ => ⟨r, o, own', v, e1, k r o e2, e3⟩

/-- What a function's end must give. -/
def Ends (P : Program) (cx : Cx) (n : Nat) (fn : Func) (R : AV → Obs → Prop) (s : S) : Prop :=
  ∀ a w own, Rl P cx n s a w own → ∃ v, (results fn a.tmps).run P w = .ok v w ∧ ∃ r objs' own', R r objs' ∧ OK P w cx.M0 own' objs' ∧ RepA w (Mu cx.M0 own' objs') own' (hwOf objs') r v ∧
    Stp cx.w0 cx.M w (Mu cx.M0 own' objs') ∧ (∀ k o, (k, o) ∈ cx.objs0 → Kr cx.own0 own' (hwOf cx.objs0) (hwOf objs') k) ∧ Closed objs' r ∧ Fr cx.w0 cx.own0 cx.objs0 w own' objs'

def endQ (P : Program) (cx : Cx) (n : Nat) (fn : Func) (R : AV → Obs → Prop) : Exit → S → Prop
  | .ret, s => Ends P cx n fn R s
  | .normal, s => Ends P cx n fn R s
  | _, _ => False

def entry : List AV → Nat → List (Nat × AV)
  | [], _ => []
  | x :: r, i => (i, x) :: entry r (i + 1)

theorem entry_get : ∀ {l : List AV} {i t : Nat} {x : AV}, get (entry l i) t = some x → i ≤ t ∧ l[t - i]? = some x
  | [], i, t, x, h => by simp [entry, get] at h
  | y :: r, i, t, x, h => by
    simp only [entry, get] at h
    cases hb : Nat.beq i t with
    | true =>
      obtain rfl : i = t := Nat.eq_of_beq_eq_true hb
      rw [hb] at h; simp at h; subst h; simp
    | false =>
      rw [hb] at h
      obtain ⟨h1, h2⟩ := entry_get h
      refine ⟨by omega, ?_⟩
      rw [show t - i = (t - (i + 1)) + 1 by omega]
      simpa using h2

theorem con_ofG {P : Program} {f : Nat} {fn : Func} {c : Code} {args : List AV} {objs : Obs} {R : AV → Obs → Prop} (hf : P.funcs[f]? = some fn) (hb : fn.body = some c) (n : Nat) (hn : fn.ntmps = n) (hle : Nat.ble args.length n = true)
    {C : World → Prop} (h : ∀ cx : Cx, cx.objs0 = objs → C cx.w0 → AWp P cx n c (endQ P cx n fn R) ⟨entry args 0, objs⟩) : ConG C P f args objs R := by
  intro w M0 own vals hcw hok harg
  refine calls_of_wp hf hb ?_
  have hle' : args.length ≤ n := by simpa using hle
  have hr : Rl P ⟨w, M0, own, objs⟩ n ⟨entry args 0, objs⟩ { tmps := vals.toArray ++ Array.replicate (fn.ntmps - vals.toArray.size) undef, defers := [] } w own := by
    refine { defs := rfl, size := ?_, ok := hok, regs := fun t x hx => ?_, stp := Stp.refl _ _, fix := fun _ _ _ => .same, fr := Fr.refl _ _ _ }
    · have := harg.1
      simp only [Array.size_append, List.size_toArray, Array.size_replicate]; omega
    · have hh := (entry_get hx).2
      simp only [Nat.sub_zero] at hh
      have hlt : t < vals.length := by have := (List.getElem?_eq_some_iff.1 hh).1; have := harg.1; omega
      have h1 := harg.2 t x hh
      have e : (vals.toArray ++ Array.replicate (fn.ntmps - vals.toArray.size) undef).getD t undef = vals.getD t undef := by
        rw [Array.getD_eq_getD_getElem?, Array.getElem?_append_left (by simpa using hlt), List.getD_eq_getElem?_getD]
        simp
      show RepA _ _ _ _ _ (Array.getD _ t undef)
      rw [e]; exact h1
  refine wp_mono (h ⟨w, M0, own, objs⟩ rfl hcw _ w ⟨own, hr⟩) ?_
  rintro e a' w' ⟨s', ⟨own', hs'⟩, hq⟩
  cases e with
  | ret =>
    obtain ⟨v, h1, r, objs', own'', h2⟩ := hq a' w' own' hs'
    exact ⟨hs'.defs, v, h1, r, objs', own'', v, rfl, h2⟩
  | normal =>
    obtain ⟨v, h1, r, objs', own'', h2⟩ := hq a' w' own' hs'
    exact ⟨hs'.defs, v, h1, r, objs', own'', v, rfl, h2⟩
  | _ => exact hq.elim

theorem con_of {P : Program} {f : Nat} {fn : Func} {c : Code} {args : List AV} {objs : Obs} {R : AV → Obs → Prop} (hf : P.funcs[f]? = some fn) (hb : fn.body = some c) (n : Nat) (hn : fn.ntmps = n) (hle : Nat.ble args.length n = true)
    (h : ∀ cx : Cx, cx.objs0 = objs → AWp P cx n c (endQ P cx n fn R) ⟨entry args 0, objs⟩) : Con P f args objs R :=
  fun w M0 own vals => con_ofG (C := fun _ => True) hf hb n hn hle (fun cx hcx _ => h cx hcx) w M0 own vals trivial

/-! the end -/
/-- One result: its value in the state. -/
inductive RV (P : Program) (s : S) : ResultVar → AV → Prop
  | tmp {t : Nat} {x : AV} (h : get s.regs t = some x) : RV P s (.tmp t) x
  | row {t T sz k off T0 : Nat} {cs l : List AV} (ti : TI P T sz true) (h : get s.regs t = some (.ptr k off)) (hk : get s.objs k = some (.ce T0 cs)) (hl : rng cs off sz = some l) : RV P s (.cell t T) (.ag l)
  | one {t T sz k off T0 : Nat} {cs : List AV} {y : AV} (ti : TI P T sz false) (h : get s.regs t = some (.ptr k off)) (hk : get s.objs k = some (.ce T0 cs)) (hl : rng cs off 1 = some [y]) : RV P s (.cell t T) y

def rvSem (tmps : Array Value) : ResultVar → Sem Value
  | .tmp t => pure (tmps.getD t undef)
  | .cell a t => do loadVar t (← asAddr (tmps.getD a undef))

theorem RV.run {P : Program} {cx : Cx} {n : Nat} {s : S} {a : Act} {w : World} {own : Nat → Value} (r : Rl P cx n s a w own) {rv : ResultVar} {x : AV} (h : RV P s rv x) :
    ∃ v, (rvSem a.tmps rv).run P w = .ok v w ∧ RepA w (Mu cx.M0 own s.objs) own (hwOf s.objs) x v := by
  cases h with
  | tmp h => exact ⟨_, rfl, r.regs _ _ h⟩
  | row ti h hk hl =>
    rename_i t T sz k off T0 cs l
    obtain ⟨b, hb, hv⟩ := (r.regs _ _ h).ptr_inv
    obtain ⟨b', vals, e1, e2, e3, e4⟩ := ob_cells r hk
    rw [hb] at e1
    injection e1 with e1; injection e1 with e1; injection e1 with e1
    subst e1
    obtain ⟨h1, h2, h3⟩ := rng_spec hl
    have hlen : ((vals.drop off).take sz).length = sz := by simp; omega
    refine ⟨_, ?_, .ag ((vals.drop off).take sz) (by rw [hlen, h1]) ?_ ?_⟩
    · simp only [rvSem, hv, asAddr, Sem.run_bind, Sem.run_pure, Result.andThen_ok]
      rw [run_load_row ti w _ ((vals.drop off).take sz) hlen]
      intro j v hj
      rw [add_at, cell_of_row w b _ _ T0 (0, 0) e2]
      have hjs : j < sz := by have := (List.getElem?_eq_some_iff.1 hj).1; omega
      rw [List.getElem?_take_of_lt hjs, List.getElem?_drop] at hj
      simpa using hj
    · intro v hv
      obtain ⟨j, hj⟩ := List.getElem?_of_mem hv
      have hjs : j < sz := by have := (List.getElem?_eq_some_iff.1 hj).1; omega
      rw [List.getElem?_take_of_lt hjs, List.getElem?_drop] at hj
      have hc : cs[off + j]? = some cs[off + j] := List.getElem?_eq_getElem (by omega)
      have h5 := e4 _ _ hc
      have := h5.2.one h5.1
      rwa [getD_of hj] at this
    · intro j y hy
      have hjs : j < sz := by have := (List.getElem?_eq_some_iff.1 hy).1; omega
      rw [h3 j hjs] at hy
      have h5 := (e4 _ _ hy).2
      have e : ((vals.drop off).take sz).getD j undef = vals.getD (off + j) undef := by
        rw [List.getD_eq_getElem?_getD, List.getD_eq_getElem?_getD, List.getElem?_take_of_lt hjs, List.getElem?_drop]
      rw [e]; exact h5
  | one ti h hk hl =>
    rename_i t T sz k off T0 cs
    obtain ⟨b, hb, hv⟩ := (r.regs _ _ h).ptr_inv
    obtain ⟨b', vals, e1, e2, e3, e4⟩ := ob_cells r hk
    rw [hb] at e1
    injection e1 with e1; injection e1 with e1; injection e1 with e1
    subst e1
    obtain ⟨h1, h2, h3⟩ := rng_spec hl
    have hc : cs[off]? = some x := by have := h3 0 (by omega); simpa using this.symm
    have hlt : off < vals.length := by have := (List.getElem?_eq_some_iff.1 hc).1; omega
    refine ⟨vals.getD off undef, ?_, (e4 _ _ hc).2⟩
    simp only [rvSem, hv, asAddr, Sem.run_bind, Sem.run_pure, Result.andThen_ok]
    rw [run_load_one ti w _ (vals.getD off undef)]
    rw [cell_of_row w b _ _ T0 (0, 0) e2]
    simp [List.getD_eq_getElem?_getD, List.getElem?_eq_getElem hlt]

/-- Keys named by a value: all among ks. -/
def leafIn (ks : List Nat) : AV → Bool
  | .p _ => true
  | .any => true
  | .ptr k _ => mem k ks
  | .ts k _ _ => mem k ks
  | .tm k _ => mem k ks
  | .pe k _ _ => mem k ks
  | .ifc _ (.ptr k _) => mem k ks
  | .ifc _ (.p _) => true
  | _ => false
def leafIn2 (ks : List Nat) : AV → Bool
  | .ag l => l.all (leafIn ks)
  | x => leafIn ks x
def keysIn (ks : List Nat) : AV → Bool
  | .ag cs => cs.all (leafIn ks)
  | .tp cs => cs.all (leafIn2 ks)
  | .fv _ a b => a.all (leafIn2 ks) && b.all (leafIn2 ks)
  | x => leafIn ks x

theorem leafIn_has {ks : List Nat} {x : AV} (h : leafIn ks x = true) {k : Nat} (hk : Has k x) : k ∈ ks := by
  cases hk with
  | ptr off => exact mem_iff.1 h
  | ts sz xs => exact mem_iff.1 h
  | tm ver => exact mem_iff.1 h
  | pe ver off => exact mem_iff.1 h
  | ifc hx =>
    cases hx with
    | ptr off => exact mem_iff.1 h
    | _ => simp [leafIn] at h
  | _ => simp [leafIn] at h
theorem leafIn2_has {ks : List Nat} {x : AV} (h : leafIn2 ks x = true) {k : Nat} (hk : Has k x) : k ∈ ks := by
  cases x with
  | ag l =>
    cases hk with
    | ag hm hx => exact leafIn_has (List.all_eq_true.1 h _ hm) hx
  | _ => exact leafIn_has (by simpa only [leafIn2] using h) hk
theorem keysIn_has {ks : List Nat} {x : AV} (h : keysIn ks x = true) {k : Nat} (hk : Has k x) : k ∈ ks := by
  cases x with
  | ag l =>
    cases hk with
    | ag hm hx => exact leafIn_has (List.all_eq_true.1 h _ hm) hx
  | tp l =>
    cases hk with
    | tp hm hx => exact leafIn2_has (List.all_eq_true.1 h _ hm) hx
  | fv f a b =>
    simp only [keysIn, Bool.and_eq_true] at h
    cases hk with
    | fv1 hm hx => exact leafIn2_has (List.all_eq_true.1 h.1 _ hm) hx
    | fv2 hm hx => exact leafIn2_has (List.all_eq_true.1 h.2 _ hm) hx
  | _ => exact leafIn_has (by simpa only [keysIn] using h) hk

def closedB (objs : Obs) (x : AV) : Bool :=
  keysIn (objs.map (·.1)) x && objs.all fun o => match o.2 with | .ce _ cs => cs.all (keysIn (objs.map (·.1))) | _ => true
theorem closedB_spec {objs : Obs} {x : AV} (h : closedB objs x = true) : Closed objs x := by
  simp only [closedB, Bool.and_eq_true] at h
  refine ⟨fun k hk => keysIn_has h.1 hk, fun k T cs hm y hy q hq => ?_⟩
  have h1 := List.all_eq_true.1 h.2 _ hm
  exact keysIn_has (List.all_eq_true.1 h1 y hy) hq

/-- The end: one result; of the objects those named by ks are handed on. -/
theorem ends_core {P : Program} {cx : Cx} {n : Nat} {fn : Func} {R : AV → Obs → Prop} {s : S} {x : AV} (ks : List Nat)
    (hrun : ∀ a w own, Rl P cx n s a w own → ∃ v, (results fn a.tmps).run P w = .ok v w ∧ RepA w (Mu cx.M0 own s.objs) own (hwOf s.objs) x v)
    (hR : R x (sel ks s.objs)) (hcl : closedB (sel ks s.objs) x = true) : Ends P cx n fn R s := fun a w own r => by
  obtain ⟨v, h1, h2⟩ := hrun a w own r
  obtain ⟨hok, hle⟩ := r.ok.part (fun x h => (sel_sub ks s.objs).subset h) (((sel_sub ks s.objs).map _).nodup r.ok.keys) cx.M0 (fun b i h => .inl h) (fun k o b hk hb => r.ok.m0 k o b ((sel_mem.1 hk).1) hb)
  refine ⟨v, h1, x, sel ks s.objs, own, hR, hok, h2.part r.ok (fun x h => (sel_sub ks s.objs).subset h) hle, r.stp.less hle, fun k o hk => (r.fix k o hk).trans ?_, closedB_spec hcl, ⟨r.fr.keep, fun k o b hk hb => r.fr.loc k o b (sel_mem.1 hk).1 hb, r.fr.size⟩⟩
  cases h3 : hwOf (sel ks s.objs) k with
  | none => exact .inr (.inl ⟨h3, .inl rfl⟩)
  | some m =>
    obtain ⟨oo, hm, hwi⟩ := hwOf_some h3
    exact .inl ⟨rfl, by rw [h3, hwOf_of r.ok.keys (sel_mem.1 hm).1 hwi]⟩

theorem results_eq (fn : Func) (tmps : Array Value) : results fn tmps = (do let vs ← fn.results.mapM (rvSem tmps); pure (if h : vs.size = 1 then vs[0] else .tuple vs)) := by
  unfold results
  congr 2

theorem ends1 {P : Program} {cx : Cx} {n : Nat} {fn : Func} {R : AV → Obs → Prop} {s : S} {rv : ResultVar} {x : AV} (ks : List Nat) (hfn : fn.results = #[rv]) (h : RV P s rv x)
    (hR : R x (sel ks s.objs)) (hcl : closedB (sel ks s.objs) x = true) : Ends P cx n fn R s :=
  ends_core ks (fun a w own r => by
    obtain ⟨v, h1, h2⟩ := h.run r
    exact ⟨v, by simp [results_eq, hfn, h1], h2⟩) hR hcl

theorem ends0 {P : Program} {cx : Cx} {n : Nat} {fn : Func} {R : AV → Obs → Prop} {s : S} (ks : List Nat) (hfn : fn.results = #[])
    (hR : R (.tp []) (sel ks s.objs)) (hcl : closedB (sel ks s.objs) (.tp []) = true) : Ends P cx n fn R s :=
  ends_core ks (fun a w own r => ⟨.tuple #[], by simp [results_eq, hfn], .tp [] rfl (fun j x hj => by simp at hj)⟩) hR hcl

theorem ends2 {P : Program} {cx : Cx} {n : Nat} {fn : Func} {R : AV → Obs → Prop} {s : S} {rv rv2 : ResultVar} {x x2 : AV} (ks : List Nat) (hfn : fn.results = #[rv, rv2]) (h : RV P s rv x) (h2 : RV P s rv2 x2)
    (hR : R (.tp [x, x2]) (sel ks s.objs)) (hcl : closedB (sel ks s.objs) (.tp [x, x2]) = true) : Ends P cx n fn R s :=
  ends_core ks (fun a w own r => by
    obtain ⟨v, h1, g1⟩ := h.run r
    obtain ⟨v2, h2, g2⟩ := h2.run r
    refine ⟨.tuple #[v, v2], by simp [results_eq, hfn, h1, h2], .tp [v, v2] rfl fun j y hj => ?_⟩
    match j, hj with
    | 0, hj => simp at hj; subst hj; exact g1
    | 1, hj => simp at hj; subst hj; exact g2) hR hcl

theorem ends3 {P : Program} {cx : Cx} {n : Nat} {fn : Func} {R : AV → Obs → Prop} {s : S} {rv rv2 rv3 : ResultVar} {x x2 x3 : AV} (ks : List Nat) (hfn : fn.results = #[rv, rv2, rv3]) (h : RV P s rv x) (h2 : RV P s rv2 x2) (h3 : RV P s rv3 x3)
    (hR : R (.tp [x, x2, x3]) (sel ks s.objs)) (hcl : closedB (sel ks s.objs) (.tp [x, x2, x3]) = true) : Ends P cx n fn R s :=
  ends_core ks (fun a w own r => by
    obtain ⟨v, h1, g1⟩ := h.run r
    obtain ⟨v2, h2, g2⟩ := h2.run r
    obtain ⟨v3, h3, g3⟩ := h3.run r
    refine ⟨.tuple #[v, v2, v3], by simp [results_eq, hfn, h1, h2, h3], .tp [v, v2, v3] rfl fun j y hj => ?_⟩
    match j, hj with
    | 0, hj => simp at hj; subst hj; exact g1
    | 1, hj => simp at hj; subst hj; exact g2
    | 2, hj => simp at hj; subst hj; exact g3) hR hcl

theorem ends4 {P : Program} {cx : Cx} {n : Nat} {fn : Func} {R : AV → Obs → Prop} {s : S} {rv rv2 rv3 rv4 : ResultVar} {x x2 x3 x4 : AV} (ks : List Nat) (hfn : fn.results = #[rv, rv2, rv3, rv4]) (h : RV P s rv x) (h2 : RV P s rv2 x2) (h3 : RV P s rv3 x3) (h4 : RV P s rv4 x4)
    (hR : R (.tp [x, x2, x3, x4]) (sel ks s.objs)) (hcl : closedB (sel ks s.objs) (.tp [x, x2, x3, x4]) = true) : Ends P cx n fn R s :=
  ends_core ks (fun a w own r => by
    obtain ⟨v, h1, g1⟩ := h.run r
    obtain ⟨v2, h2, g2⟩ := h2.run r
    obtain ⟨v3, h3, g3⟩ := h3.run r
    obtain ⟨v4, h4, g4⟩ := h4.run r
    refine ⟨.tuple #[v, v2, v3, v4], by simp [results_eq, hfn, h1, h2, h3, h4], .tp [v, v2, v3, v4] rfl fun j y hj => ?_⟩
    match j, hj with
    | 0, hj => simp at hj; subst hj; exact g1
    | 1, hj => simp at hj; subst hj; exact g2
    | 2, hj => simp at hj; subst hj; exact g3
    | 3, hj => simp at hj; subst hj; exact g4) hR hcl

end Go.Ab
