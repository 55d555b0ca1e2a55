/- Places: where it is enough to look; the document's Leq, Same, Never, Equal. -/
import Derived.Test.YtfgndomaadikoaaLvN
import Derived.Test.YtfgndomaadikoaaLvH
import Derived.Test.YtfgndomaadikoaaAb21
set_option linter.unusedVariables false
set_option linter.unusedSimpArgs false
namespace Go.Ab.Ytfgndomaadikoaa
open Go Go.RowKit Go.Ab Go.Proofs

theorem si73_LvP : SI Try.prog 73 41 := ⟨Try.underlying73⟩
theorem ei41_LvP : EI Try.prog 41 1 24 := ⟨by kernel_rfl⟩
theorem hmo_LvP : Try.prog.follows .mixedOrders = true := by kernel_rfl
theorem si41_LvP : SI Try.prog 41 3 := ⟨Try.underlying41⟩
theorem ei3_LvP : EI Try.prog 3 1 8 := ⟨by kernel_rfl⟩
theorem ti41_LvP : TI Try.prog 41 1 false := ⟨by kernel_rfl, by kernel_rfl⟩
theorem ti3_LvP : TI Try.prog 3 1 false := ⟨by kernel_rfl, by kernel_rfl⟩

def pls (L : List (List Int)) : List (List PV) := L.map fun l => [.sl 1 (ints l)]
@[simp] theorem pls_len (L : List (List Int)) : (pls L).length = L.length := by simp [pls]
def kth (k : Nat) : Int := if k = 0 then 0 else if k = 1 then 1 else 1000
def ext (l : List Int) : List (List Int) := [l ++ [0], l ++ [1], l ++ [1000]]
def plN : Nat → List (List Int)
  | 0 => [[]]
  | n + 1 => (plN n).flatMap ext
theorem pls_at {L : List (List Int)} {l : List Int} {r : List (List Int)} {i : Nat} (h : L.drop i = l :: r) : rowAt (pls L) (i : Int) = [.sl 1 (ints l)] := by
  have h1 : L[i]? = some l := by have := congrArg (fun z => z[0]?) h; simpa using this
  simp [rowAt, pls, List.getD_eq_getElem?_getD, h1]
theorem ints_app (a b : List Int) : ints a ++ ints b = ints (a ++ b) := by simp [ints]
theorem pls_app (a b : List (List Int)) : pls a ++ pls b = pls (a ++ b) := by simp [pls]

theorem sub_nil1 : Sub (.p (.sl 1 [[nilS]])) (.p (.sl 1 (pls [[]]))) := fun w M own hw v h => by
  cases h with
  | p h =>
    refine .p ?_
    cases h with
    | sl a cap f hcap hmax hrow hcell hM hx =>
      refine .sl (xs := pls [[]]) a cap f hcap hmax (fun i row hi => ?_) (fun i row j x hi hj => ?_) (fun i row j x hi hj => ?_) (fun i row j x hi hj => ?_)
      · cases i with
        | zero => simp [pls] at hi; subst hi; rfl
        | succ i => simp [pls] at hi
      · cases i with
        | zero =>
          cases j with
          | zero => exact hcell 0 [nilS] 0 nilS rfl rfl
          | succ j => simp [pls] at hi; subst hi; simp at hj
        | succ i => simp [pls] at hi
      · cases i with
        | zero =>
          cases j with
          | zero => exact hM 0 [nilS] 0 nilS rfl rfl
          | succ j => simp [pls] at hi; subst hi; simp at hj
        | succ i => simp [pls] at hi
      · cases i with
        | zero =>
          cases j with
          | zero =>
            simp [pls] at hi; subst hi
            simp at hj; subst hj
            have := hx 0 [nilS] 0 nilS rfl rfl
            generalize f 0 0 = u at this
            cases this
            exact .nil
          | succ j => simp [pls] at hi; subst hi; simp at hj
        | succ i => simp [pls] at hi

theorem plN_len : ∀ n : Nat, (plN n).length = 3 ^ n
  | 0 => rfl
  | n + 1 => by
    have h : ∀ L : List (List Int), (L.flatMap ext).length = 3 * L.length := fun L => by
      induction L with
      | nil => rfl
      | cons l r ih => simp [ext] at ih ⊢; omega
    simp only [plN, h, plN_len n, Nat.pow_succ]; omega
theorem plN_elt : ∀ (n : Nat) (l : List Int), l ∈ plN n → l.length = n ∧ ∀ x ∈ l, isP x
  | 0, l, h => by simp [plN] at h; subst h; simp
  | n + 1, l, h => by
    simp only [plN, List.mem_flatMap] at h
    obtain ⟨m, h1, h2⟩ := h
    obtain ⟨h3, h4⟩ := plN_elt n m h1
    simp only [ext, List.mem_cons, List.not_mem_nil, or_false] at h2
    rcases h2 with rfl | rfl | rfl <;> (refine ⟨by simp [h3], fun x hx => ?_⟩; rcases List.mem_append.1 hx with hx | hx; exact h4 x hx; simp at hx; subst hx; simp [isP])

theorem row3 {k : Nat} (h : k < 3) : rowAt ([[I 0], [I 1], [I 1000]] : List (List PV)) (k : Int) = [I (kth k)] := by
  rcases (by omega : k = 0 ∨ k = 1 ∨ k = 2) with rfl | rfl | rfl <;> rfl
theorem ext_take {k : Nat} (l : List Int) (h : k < 3) : (ext l).take (k + 1) = (ext l).take k ++ [l ++ [kth k]] := by
  rcases (by omega : k = 0 ∨ k = 1 ∨ k = 2) with rfl | rfl | rfl <;> rfl

theorem Places_con : PCon Try.prog 57 [] (.p (.sl 1 (pls (plN 4)))) := by
  refine con_of Try.func57 rfl 38 Try.ntmps57 rfl fun cx hcx => ?_
  refine awp_seq ?_
  refine awp_region ?_
  refine awl_assign rfl rfl ?_
  refine awl_nil ?_
  change AWp _ _ _ _ _ _
  refine awp_seq ?_
  refine awp_region ?_
  refine x_slice si73_LvP ei41_LvP rfl rfl rfl rfl ?_
  refine awl_sub (y := .p (.sl 1 (pls [[]]))) sub_nil1 ?_
  refine awl_assign rfl rfl ?_
  refine awl_nil ?_
  change AWp _ _ _ _ _ _
  refine awp_seq ?_
  refine awp_seq ?_
  refine awp_region ?_
  refine awl_assign rfl rfl ?_
  refine awl_nil ?_
  change AWp _ _ _ _ _ _
  refine awp_block ?_
  refine x_loop [] [] (fun x : Nat × Unit => [(2, .p (I x.1)), (1, .p (.sl 1 (pls (plN x.1))))]) (fun x => []) (fun x => x.1 ≤ 4) (fun x => 4 - x.1) (0, ()) (Le.mk (.cons rfl (by first | exact Sub.refl _ | exact Sub.ts | exact Sub.nil | (refine Sub.eq ?_; first | (simp; done) | (simp; omega) | (rw [hfin]))) (.cons rfl (by first | exact Sub.refl _ | exact Sub.ts | exact Sub.nil | (refine Sub.eq ?_; first | (simp; done) | (simp; omega) | (rw [hfin]))) (.nil))) (.nil) rfl) (by simp) (fun x hx => ?_)
  obtain ⟨n, _⟩ := x
  have hn4 : n ≤ 4 := hx
  dsimp only [List.cons_append, List.nil_append]
  refine awp_seq ?_
  refine awp_seq ?_
  refine awp_region ?_
  refine awl_move rfl rfl ?_
  refine awl_bin rfl rfl rfl rfl bin_lss ?_
  refine awl_nil ?_
  change AWp _ _ _ _ _ _
  first | refine awp_cond_p rfl (fun ho => ?_) (fun ho => ?_) | refine awp_cond rfl (fun ho => ?_) (fun ho => ?_)
  · skip
    have hL3 := plN_len n
    have hL4 : 3 ^ n ≤ 3 ^ 4 := Nat.pow_le_pow_right (by omega) hn4
    refine awp_skip ?_
    change AWp _ _ _ _ _ _
    refine awp_seq ?_
    refine awp_block ?_
    refine awp_seq ?_
    refine awp_region ?_
    refine awl_assign rfl rfl ?_
    refine awl_nil ?_
    change AWp _ _ _ _ _ _
    refine awp_seq ?_
    refine awp_seq ?_
    refine awp_region ?_
    refine awl_assign rfl rfl ?_
    refine awl_nil ?_
    change AWp _ _ _ _ _ _
    refine awp_block ?_
    refine x_loop [(1, _), (2, _)] [] (fun x : Nat × List (List Int) × List (List Int) => [(4, .p (I x.1)), (3, .ts 600 1 (pls x.2.2))]) (fun x => [(600, .ar 41 1 (pls x.2.2).length)]) (fun x => (plN n).drop x.1 = x.2.1 ∧ plN (n + 1) = x.2.2 ++ x.2.1.flatMap ext ∧ x.2.2.length ≤ 3 * x.1) (fun x => x.2.1.length) (0, plN n, []) (Le.trans (Le.tok 3 600 41 1 rfl rfl (by rw [hcx]; rfl)) (Le.mk (.cons rfl (by first | exact Sub.refl _ | exact Sub.ts | exact Sub.nil | (refine Sub.eq ?_; first | (simp; done) | (simp; omega))) (.cons rfl (by first | exact Sub.refl _ | exact Sub.ts | exact Sub.nil | (refine Sub.eq ?_; first | (simp; done) | (simp; omega))) (.cons rfl (by first | exact Sub.refl _ | exact Sub.ts | exact Sub.nil | (refine Sub.eq ?_; first | (simp; done) | (simp; omega))) (.cons rfl (by first | exact Sub.refl _ | exact Sub.ts | exact Sub.nil | (refine Sub.eq ?_; first | (simp; done) | (simp; omega))) (.nil))))) (.cons rfl (by first | rfl | (simp; done)) (.nil)) rfl)) ⟨rfl, rfl, by simp⟩ (fun x hx => ?_)
    obtain ⟨i, r, acc⟩ := x
    obtain ⟨hd, hsp, hal⟩ := hx
    simp only at hd hsp hal
    dsimp only [List.cons_append, List.nil_append]
    refine awp_seq ?_
    refine awp_seq ?_
    refine awp_region ?_
    refine awl_move rfl rfl ?_
    refine awl_move rfl rfl ?_
    refine x_len si73_LvP rfl rfl rfl (fun hlen12 => ?_)
    refine awl_bin rfl rfl rfl rfl bin_lss ?_
    refine awl_nil ?_
    change AWp _ _ _ _ _ _
    first | refine awp_cond_p rfl (fun hi => ?_) (fun hi => ?_) | refine awp_cond rfl (fun hi => ?_) (fun hi => ?_)
    · skip
      obtain ⟨l, r', rfl⟩ := drop_ne hd (by simp at hi; omega)
      have hrow := pls_at hd
      have hll := (plN_elt n l (drop_mem hd)).1
      have hdl := drop_lt hd
      refine awp_skip ?_
      change AWp _ _ _ _ _ _
      refine awp_seq ?_
      refine awp_block ?_
      refine awp_seq ?_
      refine awp_region ?_
      refine awl_assign rfl rfl ?_
      refine awl_nil ?_
      change AWp _ _ _ _ _ _
      refine awp_block ?_
      refine x_loop [(1, _), (2, _), (4, _)] [] (fun x : Nat × List (List Int) => [(5, .p (I x.1)), (3, .ts 600 1 (pls x.2))]) (fun x => [(600, .ar 41 1 (pls x.2).length)]) (fun x => x.1 ≤ 3 ∧ x.2 = acc ++ (ext l).take x.1) (fun x => 3 - x.1) (0, acc) (Le.mk (.cons rfl (by first | exact Sub.refl _ | exact Sub.ts | exact Sub.nil | (refine Sub.eq ?_; first | (simp; done) | (simp; omega) | (rw [pls_app]))) (.cons rfl (by first | exact Sub.refl _ | exact Sub.ts | exact Sub.nil | (refine Sub.eq ?_; first | (simp; done) | (simp; omega) | (rw [pls_app]))) (.cons rfl (by first | exact Sub.refl _ | exact Sub.ts | exact Sub.nil | (refine Sub.eq ?_; first | (simp; done) | (simp; omega) | (rw [pls_app]))) (.cons rfl (by first | exact Sub.refl _ | exact Sub.ts | exact Sub.nil | (refine Sub.eq ?_; first | (simp; done) | (simp; omega) | (rw [pls_app]))) (.cons rfl (by first | exact Sub.refl _ | exact Sub.ts | exact Sub.nil | (refine Sub.eq ?_; first | (simp; done) | (simp; omega) | (rw [pls_app]))) (.nil)))))) (.cons rfl (by first | rfl | (simp; done)) (.nil)) rfl) ⟨by simp, by simp⟩ (fun x hx => ?_)
      obtain ⟨k, acc2⟩ := x
      obtain ⟨hk3, hacc2⟩ := hx
      simp only at hk3 hacc2
      dsimp only [List.cons_append, List.nil_append]
      refine awp_seq ?_
      refine awp_seq ?_
      refine awp_region ?_
      refine awl_move rfl rfl ?_
      refine awl_bin rfl rfl rfl rfl bin_lss ?_
      refine awl_nil ?_
      change AWp _ _ _ _ _ _
      first | refine awp_cond_p rfl (fun hk => ?_) (fun hk => ?_) | refine awp_cond rfl (fun hk => ?_) (fun hk => ?_)
      · skip
        have hrow2 := row3 (k := k) (by omega)
        have hla : acc2.length ≤ acc.length + 3 := by rw [hacc2]; simp [ext]; omega
        refine awp_skip ?_
        change AWp _ _ _ _ _ _
        refine awp_seq ?_
        refine awp_block ?_
        apply awp_drawS [1, 6, 12, 14] [14] [(1, 22)] ((fun (B : Obs) => oget [([], B), ([1], (22, .ar 3 1 0) :: B), ([1, 6], _), ([1, 6, 12], _), ([1, 6, 12, 14], _)]) _)
        · rfl
        · rfl
        · exact hmo_LvP
        · kernel_rfl
        · rfl
        refine awd_s [[1, 6, 12], [1, 6], [1, 12], [1], [6, 12], [6], [12], []] [(3, _)] (.cons rfl (.nil)) rfl rfl rfl (by kernel_rfl) ?_
        apply Exists.intro
        refine ⟨(⟨fun regs' => ?_,⟨fun regs' => ?_,⟨fun regs' => ?_,⟨fun regs' => ?_,⟨fun regs' => ?_,⟨fun regs' => ?_,⟨fun regs' => ?_,⟨fun regs' => ?_, trivial⟩⟩⟩⟩⟩⟩⟩⟩), ?_, ?_⟩
        · skip
          refine awl_move rfl rfl ?_
          exact awl_doneS rfl rfl
        · skip
          refine awl_move rfl rfl ?_
          exact awl_doneS rfl rfl
        · skip
          refine awl_move rfl rfl ?_
          exact awl_doneS rfl rfl
        · skip
          refine awl_move rfl rfl ?_
          exact awl_doneS rfl rfl
        · skip
          refine awl_move rfl rfl ?_
          exact awl_doneS rfl rfl
        · skip
          refine awl_move rfl rfl ?_
          exact awl_doneS rfl rfl
        · skip
          refine awl_move rfl rfl ?_
          exact awl_doneS rfl rfl
        · skip
          refine awl_move rfl rfl ?_
          exact awl_doneS rfl rfl
        · kernel_rfl
        refine awd_newsl [[]] si41_LvP ei3_LvP rfl (by rw [hcx]; rfl) rfl rfl (by kernel_rfl) rfl (by kernel_rfl) (⟨⟨by repeat (first | exact .nil | refine .cons rfl rfl ?_), rfl⟩, trivial⟩) ?_
        refine awd_s [[1], []] [(1, _)] (.cons rfl (.nil)) rfl rfl rfl (by kernel_rfl) ?_
        apply Exists.intro
        refine ⟨(⟨fun regs' => ?_,⟨fun regs' => ?_, trivial⟩⟩), ?_, ?_⟩
        · skip
          refine awl_move rfl rfl ?_
          exact awl_doneS rfl rfl
        · skip
          refine awl_move rfl rfl ?_
          exact awl_doneS rfl rfl
        · kernel_rfl
        refine awd_s [[1], []] [(4, _)] (.cons rfl (.nil)) rfl rfl rfl (by kernel_rfl) ?_
        apply Exists.intro
        refine ⟨(⟨fun regs' => ?_,⟨fun regs' => ?_, trivial⟩⟩), ?_, ?_⟩
        · skip
          refine awl_move rfl rfl ?_
          exact awl_doneS rfl rfl
        · skip
          refine awl_move rfl rfl ?_
          exact awl_doneS rfl rfl
        · kernel_rfl
        refine awd_s [[1], []] [(23, _), (24, _)] (.cons rfl (.cons rfl (.nil))) rfl rfl rfl (by kernel_rfl) ?_
        apply Exists.intro
        refine ⟨(⟨fun regs' => ?_,⟨fun regs' => ?_, trivial⟩⟩), ?_, ?_⟩
        · skip
          refine x_index si73_LvP ti41_LvP rfl rfl rfl rfl (by omega) (by first | omega | (simp only [List.length_map]; omega) | (simp; omega)) (by assumption) rfl ?_
          exact awl_doneS rfl rfl
        · skip
          refine x_index si73_LvP ti41_LvP rfl rfl rfl rfl (by omega) (by first | omega | (simp only [List.length_map]; omega) | (simp; omega)) (by assumption) rfl ?_
          exact awl_doneS rfl rfl
        · kernel_rfl
        refine awd_s [[1], []] [(25, _)] (.cons rfl (.nil)) rfl rfl rfl (by kernel_rfl) ?_
        apply Exists.intro
        refine ⟨(⟨fun regs' => ?_,⟨fun regs' => ?_, trivial⟩⟩), ?_, ?_⟩
        · skip
          first | refine awl_load_one ti41_LvP rfl rfl rfl rfl ?_ | refine awl_load_ione ti41_LvP rfl rfl rfl ?_
          exact awl_doneS rfl rfl
        · skip
          first | refine awl_load_one ti41_LvP rfl rfl rfl rfl ?_ | refine awl_load_ione ti41_LvP rfl rfl rfl ?_
          exact awl_doneS rfl rfl
        · kernel_rfl
        refine awd_s [[1]] [(22, _), (26, _)] (.cons rfl (.cons rfl (.nil))) rfl rfl rfl (by kernel_rfl) ?_
        apply Exists.intro
        refine ⟨(⟨fun regs' => ?_, trivial⟩), ?_, ?_⟩
        · skip
          first | refine x_append si41_LvP ei3_LvP rfl rfl (by first | rfl | simp) rfl rfl rfl (.inl rfl) rfl rfl (by simp; omega) (by simp; omega) ?_ | refine awl_append_nil si41_LvP ei3_LvP rfl rfl (by rw [hcx]; rfl) rfl rfl rfl (.inl rfl) (by simp; omega) (by simp; omega) rfl ?_
          exact awl_doneS rfl rfl
        · kernel_rfl
        refine awd_s [[1, 6], [1], [6], []] [] (.nil) rfl rfl rfl (by kernel_rfl) ?_
        apply Exists.intro
        refine ⟨(⟨fun regs' => ?_,⟨fun regs' => ?_,⟨fun regs' => ?_,⟨fun regs' => ?_, trivial⟩⟩⟩⟩), ?_, ?_⟩
        · skip
          refine x_slice si41_LvP ei3_LvP rfl rfl rfl rfl ?_
          exact awl_doneS rfl rfl
        · skip
          refine x_slice si41_LvP ei3_LvP rfl rfl rfl rfl ?_
          exact awl_doneS rfl rfl
        · skip
          refine x_slice si41_LvP ei3_LvP rfl rfl rfl rfl ?_
          exact awl_doneS rfl rfl
        · skip
          refine x_slice si41_LvP ei3_LvP rfl rfl rfl rfl ?_
          exact awl_doneS rfl rfl
        · kernel_rfl
        refine awd_s [[1, 6], [1], [6], []] [(5, _)] (.cons rfl (.nil)) rfl rfl rfl (by kernel_rfl) ?_
        apply Exists.intro
        refine ⟨(⟨fun regs' => ?_,⟨fun regs' => ?_,⟨fun regs' => ?_,⟨fun regs' => ?_, trivial⟩⟩⟩⟩), ?_, ?_⟩
        · skip
          refine awl_move rfl rfl ?_
          exact awl_doneS rfl rfl
        · skip
          refine awl_move rfl rfl ?_
          exact awl_doneS rfl rfl
        · skip
          refine awl_move rfl rfl ?_
          exact awl_doneS rfl rfl
        · skip
          refine awl_move rfl rfl ?_
          exact awl_doneS rfl rfl
        · kernel_rfl
        refine awd_s [[1, 6], [1], [6], []] [(28, _), (29, _)] (.cons rfl (.cons rfl (.nil))) rfl rfl rfl (by kernel_rfl) ?_
        apply Exists.intro
        refine ⟨(⟨fun regs' => ?_,⟨fun regs' => ?_,⟨fun regs' => ?_,⟨fun regs' => ?_, trivial⟩⟩⟩⟩), ?_, ?_⟩
        · skip
          refine x_index si41_LvP ti3_LvP rfl rfl rfl rfl (by omega) (by first | omega | (simp only [List.length_map]; omega) | (simp; omega)) (by assumption) rfl ?_
          exact awl_doneS rfl rfl
        · skip
          refine x_index si41_LvP ti3_LvP rfl rfl rfl rfl (by omega) (by first | omega | (simp only [List.length_map]; omega) | (simp; omega)) (by assumption) rfl ?_
          exact awl_doneS rfl rfl
        · skip
          refine x_index si41_LvP ti3_LvP rfl rfl rfl rfl (by omega) (by first | omega | (simp only [List.length_map]; omega) | (simp; omega)) (by assumption) rfl ?_
          exact awl_doneS rfl rfl
        · skip
          refine x_index si41_LvP ti3_LvP rfl rfl rfl rfl (by omega) (by first | omega | (simp only [List.length_map]; omega) | (simp; omega)) (by assumption) rfl ?_
          exact awl_doneS rfl rfl
        · kernel_rfl
        refine awd_s [[1, 6], [1], [6], []] [(30, _)] (.cons rfl (.nil)) rfl rfl rfl (by kernel_rfl) ?_
        apply Exists.intro
        refine ⟨(⟨fun regs' => ?_,⟨fun regs' => ?_,⟨fun regs' => ?_,⟨fun regs' => ?_, trivial⟩⟩⟩⟩), ?_, ?_⟩
        · skip
          first | refine awl_load_one ti3_LvP rfl rfl rfl rfl ?_ | refine awl_load_ione ti3_LvP rfl rfl rfl ?_
          exact awl_doneS rfl rfl
        · skip
          first | refine awl_load_one ti3_LvP rfl rfl rfl rfl ?_ | refine awl_load_ione ti3_LvP rfl rfl rfl ?_
          exact awl_doneS rfl rfl
        · skip
          first | refine awl_load_one ti3_LvP rfl rfl rfl rfl ?_ | refine awl_load_ione ti3_LvP rfl rfl rfl ?_
          exact awl_doneS rfl rfl
        · skip
          first | refine awl_load_one ti3_LvP rfl rfl rfl rfl ?_ | refine awl_load_ione ti3_LvP rfl rfl rfl ?_
          exact awl_doneS rfl rfl
        · kernel_rfl
        refine awd_s [[1, 6], [1], [6], []] [(31, _)] (.cons rfl (.nil)) rfl rfl rfl (by kernel_rfl) ?_
        apply Exists.intro
        refine ⟨(⟨fun regs' => ?_,⟨fun regs' => ?_,⟨fun regs' => ?_,⟨fun regs' => ?_, trivial⟩⟩⟩⟩), ?_, ?_⟩
        · skip
          refine x_slice si41_LvP ei3_LvP rfl rfl rfl rfl ?_
          exact awl_doneS rfl rfl
        · skip
          refine x_slice si41_LvP ei3_LvP rfl rfl rfl rfl ?_
          exact awl_doneS rfl rfl
        · skip
          refine x_slice si41_LvP ei3_LvP rfl rfl rfl rfl ?_
          exact awl_doneS rfl rfl
        · skip
          refine x_slice si41_LvP ei3_LvP rfl rfl rfl rfl ?_
          exact awl_doneS rfl rfl
        · kernel_rfl
        refine awd_s [[1, 6]] [(27, _), (32, _)] (.cons rfl (.cons rfl (.nil))) rfl rfl rfl (by kernel_rfl) ?_
        apply Exists.intro
        refine ⟨(⟨fun regs' => ?_, trivial⟩), ?_, ?_⟩
        · skip
          first | refine x_append si41_LvP ei3_LvP rfl rfl (by first | rfl | simp) rfl rfl rfl (.inl rfl) rfl rfl (by simp; omega) (by simp; omega) ?_ | refine awl_append_nil si41_LvP ei3_LvP rfl rfl (by rw [hcx]; rfl) rfl rfl rfl (.inl rfl) (by simp; omega) (by simp; omega) rfl ?_
          exact awl_doneS rfl rfl
        · kernel_rfl
        refine awd_s [[1, 6, 12]] [(33, _)] (.cons rfl (.nil)) rfl rfl rfl (by kernel_rfl) ?_
        apply Exists.intro
        refine ⟨(⟨fun regs' => ?_, trivial⟩), ?_, ?_⟩
        · skip
          refine x_slice si73_LvP ei41_LvP rfl rfl rfl rfl ?_
          refine awl_sub (y := .p (.sl 1 (pls [l ++ [kth k]]))) (Sub.eq (by simp [pls, ints])) ?_
          exact awl_doneS rfl rfl
        · kernel_rfl
        refine awd_e [1, 6, 12] rfl rfl rfl (by kernel_rfl) rfl rfl ?_
        apply Exists.intro
        refine ⟨?_, ?_, ?_⟩
        · skip
          first | refine x_append si73_LvP ei41_LvP rfl rfl (by first | rfl | simp) rfl rfl rfl (.inl rfl) rfl rfl (by simp; omega) (by simp; omega) ?_ | refine awl_append_nil si73_LvP ei41_LvP rfl rfl (by rw [hcx]; rfl) rfl rfl rfl (.inl rfl) (by simp; omega) (by simp; omega) rfl ?_
          exact awl_done rfl
        · kernel_rfl
        refine awd_s [[1, 6, 12, 14]] [(35, _)] (.cons rfl (.nil)) rfl rfl rfl (by kernel_rfl) ?_
        apply Exists.intro
        refine ⟨(⟨fun regs' => ?_, trivial⟩), ?_, ?_⟩
        · skip
          refine awl_assign rfl rfl ?_
          exact awl_doneS rfl rfl
        · kernel_rfl
        refine awd_endS ?_
        try dsimp only [putd]
        change AWp _ _ _ _ _ _
        refine awp_region ?_
        refine awl_move rfl rfl ?_
        first | refine awl_bin rfl rfl rfl rfl (bin_add_i (by omega)) ?_ | refine awl_bin rfl rfl rfl rfl bin_add ?_
        refine awl_assign rfl rfl ?_
        refine awl_nil ?_
        change ∃ x', _
        refine ⟨(k + 1, acc2 ++ [l ++ [kth k]]), ⟨by simp only; omega, by simp only; rw [ext_take l (by omega), hacc2]; simp⟩, (by simp only; omega), (Le.mk (.cons rfl (by first | exact Sub.refl _ | exact Sub.ts | exact Sub.nil | (refine Sub.eq ?_; first | (simp; done) | (simp; omega) | (rw [pls_app]))) (.cons rfl (by first | exact Sub.refl _ | exact Sub.ts | exact Sub.nil | (refine Sub.eq ?_; first | (simp; done) | (simp; omega) | (rw [pls_app]))) (.cons rfl (by first | exact Sub.refl _ | exact Sub.ts | exact Sub.nil | (refine Sub.eq ?_; first | (simp; done) | (simp; omega) | (rw [pls_app]))) (.cons rfl (by first | exact Sub.refl _ | exact Sub.ts | exact Sub.nil | (refine Sub.eq ?_; first | (simp; done) | (simp; omega) | (rw [pls_app]))) (.cons rfl (by first | exact Sub.refl _ | exact Sub.ts | exact Sub.nil | (refine Sub.eq ?_; first | (simp; done) | (simp; omega) | (rw [pls_app]))) (.nil)))))) (.cons rfl (by first | rfl | (simp; done)) (.nil)) rfl)⟩
      · skip
        refine awp_exit ?_
        change AWp _ _ _ _ _ _
        refine awp_region ?_
        refine awl_move rfl rfl ?_
        first | refine awl_bin rfl rfl rfl rfl (bin_add_i (by omega)) ?_ | refine awl_bin rfl rfl rfl rfl bin_add ?_
        refine awl_assign rfl rfl ?_
        refine awl_nil ?_
        change ∃ x', _
        have hacc3 : acc2 = acc ++ ext l := by rw [hacc2, show k = 3 by omega]; rfl
        refine ⟨(i + 1, r', acc2), ⟨drop_next hd, by rw [hsp, hacc3]; simp, by rw [hacc3]; simp [ext]; omega⟩, by simp, (Le.mk (.cons rfl (by first | exact Sub.refl _ | exact Sub.ts | exact Sub.nil | (refine Sub.eq ?_; first | (simp; done) | (simp; omega))) (.cons rfl (by first | exact Sub.refl _ | exact Sub.ts | exact Sub.nil | (refine Sub.eq ?_; first | (simp; done) | (simp; omega))) (.cons rfl (by first | exact Sub.refl _ | exact Sub.ts | exact Sub.nil | (refine Sub.eq ?_; first | (simp; done) | (simp; omega))) (.cons rfl (by first | exact Sub.refl _ | exact Sub.ts | exact Sub.nil | (refine Sub.eq ?_; first | (simp; done) | (simp; omega))) (.nil))))) (.cons rfl (by first | rfl | (simp; done)) (.nil)) rfl)⟩
    · skip
      refine awp_exit ?_
      change AWp _ _ _ _ _ _
      refine awp_region ?_
      refine awl_move rfl rfl ?_
      refine awl_sub Sub.ts ?_
      refine awl_assign rfl rfl ?_
      refine awl_nil ?_
      change AWp _ _ _ _ _ _
      refine awp_region ?_
      refine awl_move rfl rfl ?_
      first | refine awl_bin rfl rfl rfl rfl (bin_add_i (by omega)) ?_ | refine awl_bin rfl rfl rfl rfl bin_add ?_
      refine awl_assign rfl rfl ?_
      refine awl_nil ?_
      change ∃ x', _
      have hfin : acc = plN (n + 1) := by obtain rfl := drop_end hd (by simp at hi; omega); rw [hsp]; simp
      refine ⟨(n + 1, ()), (by simp only; omega), (by simp only; omega), (Le.mk (.cons rfl (by first | exact Sub.refl _ | exact Sub.ts | exact Sub.nil | (refine Sub.eq ?_; first | (simp; done) | (simp; omega) | (rw [hfin]))) (.cons rfl (by first | exact Sub.refl _ | exact Sub.ts | exact Sub.nil | (refine Sub.eq ?_; first | (simp; done) | (simp; omega) | (rw [hfin]))) (.nil))) (.nil) rfl)⟩
  · skip
    refine awp_exit ?_
    change AWp _ _ _ _ _ _
    refine awp_seq ?_
    refine awp_region ?_
    refine awl_move rfl rfl ?_
    refine awl_assign rfl rfl ?_
    refine awl_nil ?_
    change AWp _ _ _ _ _ _
    refine awp_ret ?_
    change Ends _ _ _ _ _ _
    refine ends1 [] rfl (.tmp rfl) ?_ rfl
    have hn : n = 4 := by omega
    subst hn
    exact ⟨rfl, rfl⟩

end Go.Ab.Ytfgndomaadikoaa
