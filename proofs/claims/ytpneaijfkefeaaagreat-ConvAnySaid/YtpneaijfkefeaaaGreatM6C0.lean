/- Texts of our own, laid together. -/
import Derived.Test.YtpneaijfkefeaaaGreatM5C0
set_option maxRecDepth 20000
set_option linter.unusedVariables false
set_option linter.unusedSimpArgs false
namespace Go.Ab
open Go Go.RowKit
theorem zvx {c c':Int} (hc:c<=c') {u:Trm} (h:fitsT c u=true):fitsT c' u=true:=by
 simp only [fitsT,Bool.and_eq_true,decide_eq_true_eq] at h ⊢
 exact ⟨by omega,h.2⟩
theorem zcp {c c':Int} (hc:c<=c') {a:Int} (ha:0<=a) {f:Int} {u u':Trm} {did:Bool} {f':Int} (h:mdF c f u=some (u',did,f',0)):mdF c' (f+a) u=some (u',did,f'+a,0):=by
 unfold mdF at h ⊢
 by_cases hf:f<=0
 ·rw [if_pos hf] at h;simp at h
 ·rw [if_neg hf] at h
  rw [if_neg (by omega)]
  by_cases hg:gdT u=true
  ·rw [if_pos hg] at h ⊢
   by_cases hft:fitsT c u=true
   ·rw [if_pos hft] at h
    rw [if_pos (zvx hc hft)]
    simp only [Option.some.injEq,Prod.mk.injEq] at h ⊢
    exact ⟨h.1,h.2.1,by omega,trivial⟩
   ·rw [if_neg hft] at h;simp at h
  ·rw [if_neg hg] at h;cases h
theorem zz3 {ds : List Dcl} {c c':Int} (hc:c<=c') {a:Int} (ha:0<=a) {wh wh':Trm->Int->Option WR} (hw:∀ t f u f',wh t f=some (u,f',0)->wh' t (f+a)=some (u,f'+a,0)) {t:Trm} {f:Int} {u:Trm} {did:Bool} {f':Int} (h:onF ds c wh t f=some (u,did,f',0)):onF ds c' wh' t (f+a)=some (u,did,f'+a,0):=by
 have stay:some (t,false,f,(0:Int))=some (u,did,f',0)->some (t,false,f+a,(0:Int))=some (u,did,f'+a,0):=fun h=>by
  simp only [Option.some.injEq,Prod.mk.injEq] at h ⊢
  exact ⟨h.1,h.2.1,by omega,trivial⟩
 unfold onF at h ⊢
 by_cases c1:(headT t).kind=4/\argsT t≠[]
 ·rw [if_pos c1] at h ⊢;exact zcp hc ha h
 rw [if_neg c1] at h ⊢
 by_cases c2:(headT t).kind=6
 ·rw [if_pos c2] at h ⊢;exact zcp hc ha h
 rw [if_neg c2] at h ⊢
 by_cases c3:(headT t).kind=2
 ·rw [if_pos c3] at h ⊢
  cases hf:findD ds (headT t).name with
  | none=>simp only [hf] at h ⊢;exact stay h
  | some d =>
    simp only [hf] at h ⊢
    by_cases c4:d.kind=2/\d.params=(headT t).levels.length
    ·rw [if_pos c4] at h ⊢;exact zcp hc ha h
    ·rw [if_neg c4] at h ⊢
     cases hi:z1y ds (headT t) with
     | none=>simp only [hi] at h ⊢;exact stay h
     | some r =>
       simp only [hi] at h ⊢
       by_cases c5:r.major<(argsT t).length
       ·rw [if_pos c5] at h ⊢
        cases hm:wh ((argsT t).getD r.major zT) f with
        | none=>simp only [hm] at h;cases h
        | some y =>
          obtain ⟨m,f1,e⟩:=y
          simp only [hm] at h
          by_cases c6:e≠0
          ·rw [if_pos c6] at h
           simp only [Option.some.injEq,Prod.mk.injEq] at h
           exact absurd h.2.2.2 c6
          ·rw [if_neg c6] at h
           have he:e=0:=Classical.byContradiction fun h=>c6 h
           subst he
           rw [hw _ _ _ _ hm]
           simp only
           rw [if_neg c6]
           cases hio:iotaF ds t m with
           | none =>
             simp only [hio] at h ⊢
             simp only [Option.some.injEq,Prod.mk.injEq] at h ⊢
             exact ⟨h.1,h.2.1,by omega,trivial⟩
           | some w =>
             simp only [hio] at h ⊢
             exact zcp hc ha h
       ·rw [if_neg c5] at h ⊢;exact stay h
 ·rw [if_neg c3] at h ⊢;exact stay h
theorem z8l {ds:List Dcl} {c c':Int} (hc:c<=c') {a:Int} (ha:0<=a):∀ (g:Nat) (t:Trm) (f:Int) (u:Trm) (f':Int),whF ds c g t f=some (u,f',0)->whF ds c' g t (f+a)=some (u,f'+a,0)
 | 0,_,_,_,_,h=>by cases h
 | g + 1,t,f,u,f',h=>by
   simp only [whF] at h ⊢
   cases ho:onF ds c (whF ds c g) t f with
   | none=>simp only [ho] at h;cases h
   | some y =>
     obtain ⟨u1,did,f1,e⟩:=y
     simp only [ho] at h
     by_cases he:e≠0
     ·rw [if_pos he] at h
      simp only [Option.some.injEq,Prod.mk.injEq] at h
      exact absurd h.2.2 he
     ·rw [if_neg he] at h
      have he0:e=0:=Classical.byContradiction fun h=>he h
      subst he0
      rw [zz3 hc ha (fun t f u f' hx=>z8l hc ha g t f u f' hx) ho]
      simp only
      rw [if_neg he]
      by_cases hd:did=true
      ·rw [if_pos hd] at h ⊢;exact z8l hc ha g u1 f1 u f' h
      ·rw [if_neg hd] at h ⊢
       simp only [Option.some.injEq,Prod.mk.injEq] at h ⊢
       exact ⟨h.1,by omega,trivial⟩
def errE (e:Int):Prop:=e=11\/e=12
theorem ziw {c f:Int} {u:Trm} {y:OR} (h:mdF c f u=some y) (he:y.2.2.2≠0):errE y.2.2.2/\y.1=zT/\y.2.1=false:=by
 unfold mdF at h
 split at h
 ·cases h;exact ⟨.inl rfl,rfl,rfl⟩
 ·split at h
  ·split at h
   ·cases h;exact absurd rfl he
   ·cases h;exact ⟨.inr rfl,rfl,rfl⟩
  ·cases h
theorem zz2a {ds:List Dcl} {c:Int} {wh:Trm->Int->Option WR} (hw:∀ t f y,wh t f=some y->y.2.2≠0->errE y.2.2/\y.1=zT) {t:Trm} {f:Int} {y:OR} (h:onF ds c wh t f=some y) (he:y.2.2.2≠0):errE y.2.2.2/\y.1=zT/\y.2.1=false:=by
 unfold onF at h
 split at h
 ·exact ziw h he
 ·split at h
  ·exact ziw h he
  ·split at h
   ·split at h
    ·cases h;exact absurd rfl he
    ·split at h
     ·exact ziw h he
     ·split at h
      ·cases h;exact absurd rfl he
      ·split at h
       ·split at h
        ·cases h
        ·rename_i m f1 e hm
         split at h
         ·rename_i hne
          cases h
          exact ⟨(hw _ _ _ hm hne).1,rfl,rfl⟩
         ·split at h
          ·exact ziw h he
          ·cases h;exact absurd rfl he
       ·cases h;exact absurd rfl he
   ·cases h;exact absurd rfl he
theorem zix {ds:List Dcl} {c:Int}:∀ (g:Nat) (t:Trm) (f:Int) (y:WR),whF ds c g t f=some y->y.2.2≠0->errE y.2.2/\y.1=zT
 | 0,_,_,_,h,_=>by cases h
 | g + 1,t,f,y,h,hne=>by
   simp only [whF] at h
   split at h
   ·cases h
   ·rename_i u did f1 e ho
    split at h
    ·rename_i he
     cases h
     exact ⟨(zz2a (fun t f y=>zix g t f y) ho he).1,rfl⟩
    ·split at h
     ·exact zix g u f1 y h hne
     ·cases h;exact absurd rfl hne
theorem ziy {c f:Int} {u:Trm} {y:OR} (h:mdF c f u=some y) (he:y.2.2.2=0):(sizT y.1:Int)<=max c 0/\y.2.1=true:=by
 unfold mdF at h
 split at h
 ·cases h;simp at he
 ·split at h
  ·split at h
   ·rename_i hf
    cases h
    simp only [fitsT,Bool.and_eq_true,decide_eq_true_eq] at hf
    exact ⟨by simp only;omega,rfl⟩
   ·cases h;simp at he
  ·cases h
theorem zz2b {ds:List Dcl} {c:Int} {wh:Trm->Int->Option WR} {t:Trm} {f:Int} {y:OR} (h:onF ds c wh t f=some y) (he:y.2.2.2=0) (hd:y.2.1=true):(sizT y.1:Int)<=max c 0:=by
 unfold onF at h
 split at h
 ·exact (ziy h he).1
 ·split at h
  ·exact (ziy h he).1
  ·split at h
   ·split at h
    ·cases h;cases hd
    ·split at h
     ·exact (ziy h he).1
     ·split at h
      ·cases h;cases hd
      ·split at h
       ·split at h
        ·cases h
        ·split at h
         ·cases h;cases hd
         ·split at h
          ·exact (ziy h he).1
          ·cases h;cases hd
       ·cases h;cases hd
   ·cases h;cases hd
theorem zvy {ds:List Dcl} {c:Int}:∀ (g:Nat) (t:Trm) (f:Int) (y:WR),whF ds c g t f=some y->y.2.2=0->(sizT y.1:Int)<=max c (sizT t)
 | 0,_,_,_,h,_=>by cases h
 | g + 1,t,f,y,h,he=>by
   simp only [whF] at h
   split at h
   ·cases h
   ·rename_i u did f1 e ho
    split at h
    ·rename_i hne;cases h;exact absurd he hne
    ·rename_i hne
     have he0:e=0:=Classical.byContradiction fun h=>hne h
     split at h
     ·rename_i hd
      have h1:=zz2b ho he0 hd
      have h2:=zvy g u f1 y h he
      simp only at h1;omega
     ·rename_i hd
      cases h
      subst he0
      have hdf:did=false:=by cases did;rfl;exact absurd rfl hd
      subst hdf
      have:=zco ho
      subst this
      simp only;omega
theorem zz2c {ds:List Dcl} {c:Int} {g k:Nat} {t:Trm} {f:Int} {x y:WR} (h1:whF ds c g t f=some x) (h2:whF ds c k t f=some y):x=y:=by
 have e1:=z1z g (max g k) (by omega) t f x h1
 have e2:=z1z k (max g k) (by omega) t f y h2
 rw [e1] at e2
 exact Option.some.inj e2
section
variable {T B : Int} {M : Nat} {c : Int} (hT : T ≤ 1099511627776) (hB : 0 ≤ B) (hM : M ≤ 10000000) (h1 : 1 ≤ M) (hc : c ≤ M)
include hT hB hM h1 hc
theorem zz2d {ds:List Dcl} (hE:EnvW B ds) {t:Trm} {f:Int} (hb:B<=bdV T M f) (hw:Wd (bdV T M f) M t):∃ g y,onF ds c (whF ds c g) t f=some y/\(y.2.2.2=0->Wd (bdV T M y.2.2.1) M y.1)/\y.2.2.1<=f/\(y.2.1=true->y.2.2.2=0/\y.2.2.1<f/\0<=y.2.2.1):=by
 have hg:∀ l:List Trm,(∀ a∈l,a∈argsT t)->∃ g,∀ a∈l,∃ y,whF ds c g a f=some y/\(y.2.2=0->Wd (bdV T M y.2.1) M y.1)/\y.2.1<=f:=by
  intro l
  induction l with
  | nil=>exact fun _=>⟨0,fun a h=>by cases h⟩
  | cons a l ih =>
    intro hl
    obtain ⟨g1,k1⟩:=ih fun b hb=>hl b (by simp [hb])
    have ham:=hl a (by simp)
    obtain ⟨g2,y,k2,k3⟩:=zle hT hB hM h1 hc hE f.toNat f (Nat.le_refl _) (dpT a) a (Nat.le_refl _) hb (hw.args.1 a ham)
    refine ⟨max g1 g2,fun b hbm=>?_⟩
    rcases List.mem_cons.1 hbm with rfl | hbm
    ·exact ⟨y,z1z g2 _ (by omega) _ _ _ k2,k3⟩
    ·obtain ⟨y',k4,k5⟩:=k1 b hbm
     exact ⟨y',z1z g1 _ (by omega) _ _ _ k4,k5⟩
 obtain ⟨g,hg⟩:=hg _ fun _ h=>h
 exact ⟨g,zz07 hT hB hM h1 hc hE hb hw hg⟩
end
mutual
def allN (p:Int->ByteArray->List Lvl->Bool):Trm->Bool
 | ⟨k,_,s,ls,l⟩=>p k s ls&&allNs p l
def allNs (p:Int->ByteArray->List Lvl->Bool):List Trm->Bool
 | []=>true
 | a::r=>allN p a&&allNs p r
end
structure NO (p:Int->ByteArray->List Lvl->Bool):Prop where
 own:∀ k,k≠1->k≠2->p k ⟨#[]⟩ []=true
structure NP (p:Int->ByteArray->List Lvl->Bool):Prop extends NO p where
 put:∀ k s ls k' s' b,p k s ls=true->p k' s' b=true->p k s (putFs b ls)=true
section
variable {p : Int → ByteArray → List Lvl → Bool}
theorem allNs_iff:∀ {l:List Trm},allNs p l=true↔∀ a∈l,allN p a=true
 | []=>by simp [allNs]
 | a::r=>by simp [allNs,allNs_iff (l:=r)]
theorem ziz (t:Trm):allN p t=(p t.kind t.name t.levels&&allNs p t.args):=by cases t;rfl
theorem z2s {t a:Trm} (h:allN p t=true) (ha:a∈t.args):allN p a=true:=by
 rw [ziz,Bool.and_eq_true] at h;exact allNs_iff.1 h.2 a ha
theorem z5l {t:Trm} (h:allN p t=true):p t.kind t.name t.levels=true:=by
 rw [ziz,Bool.and_eq_true] at h;exact h.1
theorem z7p {t:Trm} (h:p t.kind t.name t.levels=true) (hs:∀ a∈t.args,allN p a=true):allN p t=true:=by
 rw [ziz,Bool.and_eq_true];exact ⟨h,allNs_iff.2 hs⟩
theorem zj0:∀ (t:Trm) (acc:List Trm),allN p t=true->(∀ a∈acc,allN p a=true)->allN p (spnT t acc).1=true/\∀ a∈(spnT t acc).2,allN p a=true
 | ⟨k, n,s,ls,l⟩,acc,h,ha=>by
   rw [spnT.eq_def]
   simp only
   split
   ·match l,h with
    | [f,a],h =>
      exact zj0 f (a::acc) (z2s h (by simp)) (fun x hx=>by rcases List.mem_cons.1 hx with rfl | hx;exact z2s h (by simp);exact ha x hx)
    | [],h=>exact ⟨h,ha⟩
    | [_],h=>exact ⟨h,ha⟩
    | _::_::_::_,h=>exact ⟨h,ha⟩
   ·exact ⟨h,ha⟩
termination_by t=>SizeOf.sizeOf t
theorem zes {t:Trm} (h:allN p t=true):allN p (headT t)=true:=(zj0 t [] h (by simp)).1
theorem z7q {t:Trm} (h:allN p t=true):∀ a∈argsT t,allN p a=true:=(zj0 t [] h (by simp)).2
mutual
theorem zj1 {f:Int->Trm->Trm} (hf:∀ d v,allN p v=true->allN p (f d v)=true):∀ (t:Trm) (d:Int),allN p t=true->allN p (trvT f t d)=true
 | ⟨k,n,s,ls,l⟩,d,h=>by
   simp only [trvT]
   split
   ·exact hf d _ h
   ·simp only [allN,Bool.and_eq_true] at h ⊢
    exact ⟨h.1,zlf hf k l 0 d h.2⟩
theorem zlf {f:Int->Trm->Trm} (hf:∀ d v,allN p v=true->allN p (f d v)=true) (k:Int):∀ (l:List Trm) (i d:Int),allNs p l=true->allNs p (trvTs f k l i d)=true
 | [],_,_,_=>rfl
 | a::r,i,d,h=>by
   simp only [allNs,Bool.and_eq_true] at h
   simp only [trvTs,allNs,Bool.and_eq_true]
   exact ⟨zj1 hf a _ h.1,zlf hf k r _ d h.2⟩
end
theorem zlg {v:Trm} {n:Int} (h:allN p v=true):allN p ⟨v.kind,n,v.name,v.levels,v.args⟩=true:=by
 rw [ziz] at h ⊢;exact h
theorem z6v {t:Trm} (h:allN p t=true) (m d:Int):allN p (lftT m t d)=true:=by
 unfold lftT
 refine zj1 (fun d v hv=>?_) t d h
 unfold lftV
 split
 ·exact zlg hv
 ·exact hv
theorem zny:∀ t:Trm,allN p t=true->(∀ x∈piL t,allN p x=true)/\allN p (piE t)=true
 | ⟨k,n,s,ls,l⟩,h=>by
   by_cases hk:k=5/\l.length=2
   ·obtain ⟨x,y,rfl⟩:=z4p hk.2
    have hp':=z2e (u:=⟨k,n,s,ls,[x,y]⟩) hk.1 rfl
    have ih:=zny y (z2s h (by simp))
    rw [hp'.1,hp'.2.1]
    refine ⟨fun z hz=>?_,ih.2⟩
    rcases List.mem_cons.1 hz with rfl | hz
    ·exact z2s h (by simp)
    ·exact ih.1 z hz
   ·have hp':=z2z (u:=⟨k,n,s,ls,l⟩) hk
    rw [hp'.1,hp'.2.1]
    exact ⟨fun x hx=>(by cases hx),h⟩
termination_by t=>SizeOf.sizeOf t
variable (hp : NO p)
include hp
theorem znz:allN p zT=true:=by simp [zT,allN,allNs,hp.own 0]
theorem z6h {l:List Trm} (h:∀ a∈l,allN p a=true) (i:Nat):allN p (l.getD i zT)=true:=by
 rw [List.getD_eq_getElem?_getD]
 cases hl:l[i]? with
 | none=>exact znz hp
 | some x=>exact h x (List.mem_of_getElem? hl)
theorem zqc {vs:List Trm} (hv:∀ v∈vs,allN p v=true) {t:Trm} (h:allN p t=true) (d:Int):allN p (opnT vs t d)=true:=by
 unfold opnT
 refine zj1 (fun d v hv'=>?_) t d h
 unfold opnV
 split
 ·exact hv'
 ·split
  ·exact z6v (z6h hp hv _) _ _
  ·exact zlg hv'
theorem z4v {a b:Trm} (ha:allN p a=true) (hb:allN p b=true):allN p (mkA a b)=true:=by
 simp [mkA,allN,allNs,ha,hb,hp.own 3]
theorem z5u {k:Int} (h1:k≠1) (h2:k≠2) {a b:Trm} (ha:allN p a=true) (hb:allN p b=true):allN p (mkB k a b)=true:=by
 simp [mkB,allN,allNs,ha,hb,hp.own k h1 h2]
theorem z4w:∀ {l:List Trm} {t:Trm},allN p t=true->(∀ a∈l,allN p a=true)->allN p (appT t l)=true
 | [],t,h,_=>h
 | a::r,t,h,hl=>z4w (l:=r) (z4v hp h (hl a (by simp))) fun b hb=>hl b (by simp [hb])
theorem zlh {t:Trm}:∀ {xs:List Trm},(∀ x∈xs,allN p x=true)->allN p t=true->allN p (lamsT xs t)=true
 | [],_,ht=>ht
 | x::xs,hx,ht=>z5u hp (by decide) (by decide) (hx x (by simp)) (zlh (xs:=xs) (fun y hy=>hx y (by simp [hy])) ht)
theorem zvz (n:Nat):∀ v∈varsT n,allN p v=true:=by
 induction n with
 | zero=>intro v h;cases h
 | succ n ih =>
   intro v h
   simp only [varsT,List.mem_cons] at h
   rcases h with rfl | h
   ·simp [mkV,allN,allNs,hp.own 0]
   ·exact ih v h
end
section
variable {p : Int → ByteArray → List Lvl → Bool} (hp : NP p)
include hp
theorem zj2 {k:Int} {s:ByteArray} {b:List Lvl} (hb:p k s b=true):∀ t:Trm,allN p t=true->allN p (lvsT b t)=true
 | ⟨k',n,s',ls,l⟩,h=>by
   have h1:=z5l h
   rw [zb6]
   refine z7p (hp.put _ _ _ _ _ _ h1 hb) fun a ha=>?_
   simp only [z4g] at ha
   obtain ⟨c,hc,rfl⟩:=List.mem_map.1 ha
   exact zj2 hb c (z2s h hc)
termination_by t=>SizeOf.sizeOf t
decreasing_by exact Trm.lt (t:=⟨k',n,s',ls,l⟩) hc
theorem zz2e {r:RecI} {h:Trm} {args ahead:List Trm} {field v x:Trm} (hh:allN p h=true) (ha:∀ a∈args,allN p a=true) (hd:∀ a∈ahead,allN p a=true) (hf:allN p field=true) (hv:allN p v=true) (hx:hypF r h args field ahead v=some x):allN p x=true:=by
 unfold hypF at hx
 split at hx
 ·cases hx
  have ho:=zqc hp.toNO (vs:=args.take r.p++ahead) (fun y hy=>by
   rcases List.mem_append.1 hy with hy | hy
   ·exact ha y (List.mem_of_mem_take hy)
   ·exact hd y hy) (zj2 hp (z5l hh) field hf) 0
  have hpo:=zny _ ho
  refine zlh hp.toNO hpo.1 (z4v hp.toNO (z4w hp.toNO (z4w hp.toNO hh fun a hm=>?_) fun a hm=>z7q hpo.2 a (List.mem_of_mem_drop hm)) (z4w hp.toNO (z6v hv _ _) (zvz hp.toNO _)))
  obtain ⟨y,hy,rfl⟩:=List.mem_map.1 hm
  exact z6v (ha y (List.mem_of_mem_take hy)) _ _
 ·cases hx
theorem zqd {r:RecI} {h:Trm} {args:List Trm} (hh:allN p h=true) (ha:∀ a∈args,allN p a=true):∀ (fs ahead bs:List Trm) (out:Trm),(∀ a∈fs,allN p a=true)->(∀ a∈ahead,allN p a=true)->(∀ a∈bs,allN p a=true)->allN p out=true->allN p (hypsF r h args fs ahead bs out)=true
 | [],ahead,bs,out,_,_,_,ho=>by simpa [hypsF] using ho
 | f::fs,ahead,[],out,_,_,_,ho=>by simpa [hypsF] using ho
 | f :: fs,ahead,v::bs,out,hf,hd,hv,ho=>by
   simp only [hypsF]
   have ih:=fun out' (h':allN p out'=true)=>zqd (r:=r) hh ha fs (ahead++[v]) bs out' (fun a h=>hf a (by simp [h])) (fun a h=>by
    rcases List.mem_append.1 h with h | h
    ·exact hd a h
    ·simp at h;subst h;exact hv a (by simp)) (fun a h=>hv a (by simp [h])) h'
   cases hx:hypF r h args f ahead v with
   | none=>exact ih out ho
   | some x=>exact ih (mkA out x) (z4v hp.toNO ho (zz2e hp hh ha hd (hf f (by simp)) (hv v (by simp)) hx))
theorem zz2f {r:RecI} (hc:∀ k∈r.fam.ctors,allN p k.ty=true) {h:Trm} {args:List Trm} (hh:allN p h=true) (ha:∀ a∈args,allN p a=true) {major u:Trm} (hj:allN p major=true) (hu:iotR r h args major=some u):allN p u=true:=by
 unfold iotR at hu
 split at hu
 ·split at hu
  ·cases hu
  ·rename_i k hk
   split at hu
   ·cases hu
    have hkl:=z7o hk
    have hct:r.fam.ctors[k]?=some (r.fam.ctors.getD k default):=by rw [List.getD_eq_getElem?_getD,List.getElem?_eq_getElem hkl.1];rfl
    have hty:=hc _ (List.mem_of_getElem? hct)
    generalize (r.fam.ctors.getD k default).ty=ty at *
    have hpi:=zny ty hty
    have hF:∀ a∈(argsT major).drop r.p,allN p a=true:=fun a h=>z7q hj a (List.mem_of_mem_drop h)
    exact z4w hp.toNO (zqd hp hh ha _ [] _ _ (fun a h=>hpi.1 a (List.mem_of_mem_drop h)) (fun a h=>by cases h) hF (z4w hp.toNO (z6h hp.toNO ha _) hF)) fun a h=>ha a (List.mem_of_mem_drop h)
   ·cases hu
 ·cases hu
structure EnvA (p:Int->ByteArray->List Lvl->Bool) (ds:List Dcl):Prop where
 v:∀ d∈ds,allN p d.value=true
 c:∀ d∈ds,∀ k∈d.ctors,allN p k.ty=true
omit hp in
theorem zqe {c f:Int} {u:Trm} (hu:allN p u=true) (hz:allN p zT=true) {y:OR} (h:mdF c f u=some y):allN p y.1=true:=by
 unfold mdF at h
 split at h
 ·cases h;exact hz
 ·split at h
  ·split at h
   ·cases h;exact hu
   ·cases h;exact hz
  ·cases h
theorem zz3r {ds:List Dcl} (hE:EnvA p ds) {c:Int} {wh:Trm->Int->Option WR} (hw:∀ t f x,allN p t=true->wh t f=some x->allN p x.1=true) {t:Trm} (ht:allN p t=true) {f:Int} {y:OR} (h:onF ds c wh t f=some y):allN p y.1=true:=by
 have hz:=znz hp.toNO
 have hh:=zes ht
 have ha:=z7q ht
 have hsub:∀ i,allN p ((headT t).args.getD i zT)=true:=fun i=>z6h hp.toNO (fun a h=>z2s hh h) i
 have hb:∀ (body v:Trm),allN p body=true->allN p v=true->allN p (opnT [v] body 0)=true:=fun body v h1 h2=>zqc hp.toNO (fun x hx=>by simp at hx;subst hx;exact h2) h1 0
 unfold onF at h
 split at h
 ·exact zqe (z4w hp.toNO (hb _ _ (hsub 1) (z6h hp.toNO ha 0)) fun a h=>ha a (List.mem_of_mem_drop h)) hz h
 ·split at h
  ·exact zqe (z4w hp.toNO (hb _ _ (hsub 2) (hsub 1)) ha) hz h
  ·split at h
   ·split at h
    ·cases h;exact ht
    ·rename_i d hd
     split at h
     ·exact zqe (z4w hp.toNO (zj2 hp (z5l hh) _ (hE.v d (List.mem_of_find?_eq_some hd))) ha) hz h
     ·split at h
      ·cases h;exact ht
      ·rename_i r hr
       split at h
       ·rename_i hm5
        split at h
        ·cases h
        ·rename_i m f1 e1 hm
         have hmj:=hw _ _ _ (z6h hp.toNO ha _) hm
         split at h
         ·cases h;exact hz
         ·split at h
          ·rename_i u hio
           rw [zag,hr] at hio
           simp only [Option.bind_some,if_pos hm5] at hio
           exact zqe (zz2f hp (hE.c _ (z6g hr).1) hh ha hmj hio) hz h
          ·cases h;exact ht
       ·cases h;exact ht
   ·cases h;exact ht
theorem zw0 {ds:List Dcl} (hE:EnvA p ds) {c:Int}:∀ (g:Nat) (t:Trm) (f:Int) (x:WR),allN p t=true->whF ds c g t f=some x->allN p x.1=true
 | 0,_,_,_,_,h=>by cases h
 | g + 1,t,f,x,ht,h=>by
   simp only [whF] at h
   split at h
   ·cases h
   ·rename_i u did f1 e ho
    have h1:=zz3r hp hE (fun t f x h1 h2=>zw0 hE g t f x h1 h2) ht ho
    split at h
    ·cases h;exact znz hp.toNO
    ·split at h
     ·exact zw0 hE g u f1 x h1 h
     ·cases h;exact h1
end
theorem Wd.bin {b:Int} (hb:0<=b) {m:Nat} {k:Int} (hk:k=4\/k=5) {x t:Trm} (hx:Wd b m x) (ht:Wd b m t):Wd b (m+1) (mkB k x t):=by
 refine ⟨z6e ⟨by rcases hk with rfl | rfl<;>simp [mkB,argF],by simp [mkB],by simpa [mkB] using hb,by simp [mkB],by simp [mkB],by rcases hk with rfl | rfl<;>simp [mkB],by simp [mkB],by simp [mkB],by simp [mkB],fun y hy=>?_⟩,by have:=hx.d;have:=ht.d;simp only [mkB,dpT,dpTs];omega⟩
 simp only [mkB,List.mem_cons,List.not_mem_nil,or_false] at hy
 rcases hy with rfl | rfl
 ·exact hx.w
 ·exact ht.w
section
variable {B : Int} {M : Nat} {c : Int} (hB : 0 ≤ B) (hM : M ≤ 10000000) (h1 : 3 ≤ M) (hc : c ≤ M)
include hB hM h1 hc
end
def rSamF (a b:Lvl):Bool:=rLeqF a b&&rLeqF b a
def samLs:List Lvl->List Lvl->Bool
 | [],[]=>true
 | a::r,b::s=>rSamF a b&&samLs r s
 | [],_::_=>false
 | _::_,[]=>false
mutual
def alkT:Trm->Trm->Bool
 | ⟨k,n,s,ls,l⟩,⟨k',n',s',ls',l'⟩=>decide (k=k')&&(decide (n=n')&&(decide (s=s')&&(samLs ls ls'&&alkTs l l')))
def alkTs:List Trm->List Trm->Bool
 | [],[]=>true
 | a::r,b::s=>alkT a b&&alkTs r s
 | [],_::_=>false
 | _::_,[]=>false
end
theorem zo0 (a b:Trm):alkT a b=(decide (a.kind=b.kind)&&(decide (a.n=b.n)&&(decide (a.name=b.name)&&(samLs a.levels b.levels&&alkTs a.args b.args)))):=by cases a;cases b;rfl
theorem zet:∀ {l m:List Lvl},l.length=m.length->samLs l m=(l.zip m).all fun p=>rSamF p.1 p.2
 | [],[],_=>rfl
 | a::r,b::s,h=>by simp only [samLs,List.zip_cons_cons,List.all_cons];rw [zet (by simpa using h)]
 | [],_::_,h=>by cases h
 | _::_,[],h=>by cases h
theorem zeu:∀ {l m:List Trm},l.length=m.length->alkTs l m=(l.zip m).all fun p=>alkT p.1 p.2
 | [],[],_=>rfl
 | a::r,b::s,h=>by simp only [alkTs,List.zip_cons_cons,List.all_cons];rw [zeu (by simpa using h)]
 | [],_::_,h=>by cases h
 | _::_,[],h=>by cases h
theorem zqf:∀ {l m:List Lvl},samLs l m=true->l.length=m.length
 | [],[],_=>rfl
 | a::r,b::s,h=>by simp only [samLs,Bool.and_eq_true] at h;simp [zqf h.2]
 | [],_::_,h=>by cases h
 | _::_,[],h=>by cases h
theorem zqg:∀ {l m:List Trm},alkTs l m=true->l.length=m.length
 | [],[],_=>rfl
 | a::r,b::s,h=>by simp only [alkTs,Bool.and_eq_true] at h;simp [zqg h.2]
 | [],_::_,h=>by cases h
 | _::_,[],h=>by cases h
theorem zli {l m:List Lvl} (h:l.length≠m.length):samLs l m=false:=by
 cases hb:samLs l m with
 | false=>rfl
 | true=>exact absurd (zqf hb) h
theorem zlj {l m:List Trm} (h:l.length≠m.length):alkTs l m=false:=by
 cases hb:alkTs l m with
 | false=>rfl
 | true=>exact absurd (zqg hb) h
theorem zso (a:Lvl):rLeqF a a=true:=by unfold rLeqF;rw [List.all_eq_true];intro p _;simp
theorem zgw (a:Lvl):rSamF a a=true:=by unfold rSamF;rw [zso];rfl
theorem zgx:∀ l:List Lvl,samLs l l=true
 | []=>rfl
 | a::r=>by simp [samLs,zgw,zgx r]
mutual
theorem z3a:∀ a:Trm,alkT a a=true
 | ⟨k,n,s,ls,l⟩=>by simp [alkT,zgx,zgy l]
theorem zgy:∀ l:List Trm,alkTs l l=true
 | []=>rfl
 | a::r=>by simp [alkTs,z3a a,zgy r]
end
abbrev CR:=Bool×Int×Int
def ovrT (t:Trm):Trm:=mkA (lftT 1 t 0) (mkV 0)
def allF (cf:Trm->Trm->Int->Option CR):List Trm->List Trm->Int->Option CR
 | a::r,b::s,f=>match cf a b f with
   | none=>none
   | some (is,f1,e)=>if e≠0\/is=false then some (false,f1,e) else allF cf r s f1
 | _,_,f=>some (true,f,0)
def offT (x y:Trm):Prop:=argsT x=[]\/(argsT x).length≠(argsT y).length\/((headT x).kind≠0/\(headT x).kind≠2)\/alkT (headT x) (headT y)=false
instance (x y:Trm):Decidable (offT x y):=by unfold offT;infer_instance
def hdF (cf:Trm->Trm->Int->Option CR) (x y:Trm) (f:Int):Option CR :=
 if alkT x y=true then some (true,f,0)
 else if x.kind=y.kind/\(x.kind=4\/x.kind=5) then allF cf x.args y.args f
 else if x.kind=4 then (if gdT (ovrT y)=true then cf (x.args.getD 1 zT) (ovrT y) f else none)
 else if y.kind=4 then (if gdT (ovrT x)=true then cf (ovrT x) (y.args.getD 1 zT) f else none)
 else if offT x y then some (false,f,0) else allF cf (argsT x) (argsT y) f
def cvF (ds:List Dcl) (c:Int):Nat->Trm->Trm->Int->Option CR
 | 0,_,_,_=>none
 | g + 1,a,b,f=>if f<=0 then some (false,f,11) else if alkT a b=true then some (true,f-1,0) else match whF ds c g a (f-1) with
   | none=>none
   | some (x,f1,e)=>if e≠0 then some (false,f1,e) else match whF ds c g b f1 with
     | none=>none
     | some (y,f2,e2)=>if e2≠0 then some (false,f2,e2) else hdF (cvF ds c g) x y f2
theorem zaj {cf cf':Trm->Trm->Int->Option CR} (h:∀ a b f x,cf a b f=some x->cf' a b f=some x):∀ (l m:List Trm) (f:Int) (y:CR),allF cf l m f=some y->allF cf' l m f=some y
 | a :: r,b::s,f,y,hy=>by
   simp only [allF] at hy ⊢
   cases ha:cf a b f with
   | none=>rw [ha] at hy;cases hy
   | some x =>
     rw [ha] at hy
     rw [h _ _ _ _ ha]
     obtain ⟨is,f1,e⟩:=x
     simp only at hy ⊢
     split at hy
     ·rename_i he;rw [if_pos he];exact hy
     ·rename_i he;rw [if_neg he];exact zaj h r s f1 y hy
 | [],[],f,y,hy=>hy
 | [],_::_,f,y,hy=>hy
 | _::_,[],f,y,hy=>hy
theorem zqh {cf cf':Trm->Trm->Int->Option CR} (h:∀ a b f x,cf a b f=some x->cf' a b f=some x) {x y:Trm} {f:Int} {z:CR} (hz:hdF cf x y f=some z):hdF cf' x y f=some z:=by
 unfold hdF at hz ⊢
 repeat' split at hz
 all_goals (first
  | (rename_i h1;rw [if_pos h1];exact hz)
  | skip)
 ·rename_i h1 h2;rw [if_neg h1,if_pos h2];exact zaj h _ _ _ _ hz
 ·rename_i h1 h2 h3 h4;rw [if_neg h1,if_neg h2,if_pos h3,if_pos h4];exact h _ _ _ _ hz
 ·cases hz
 ·rename_i h1 h2 h3 h4 h5;rw [if_neg h1,if_neg h2,if_neg h3,if_pos h4,if_pos h5];exact h _ _ _ _ hz
 ·cases hz
 ·rename_i h1 h2 h3 h4 h5;rw [if_neg h1,if_neg h2,if_neg h3,if_neg h4,if_pos h5];exact hz
 ·rename_i h1 h2 h3 h4 h5;rw [if_neg h1,if_neg h2,if_neg h3,if_neg h4,if_neg h5];exact zaj h _ _ _ _ hz
theorem z8m {ds:List Dcl} {c:Int}:∀ (g k:Nat),g<=k->∀ (a b:Trm) (f:Int) (x:CR),cvF ds c g a b f=some x->cvF ds c k a b f=some x
 | 0,_,_,_,_,_,_,h=>by cases h
 | g+1,0,hk,_,_,_,_,_=>by omega
 | g + 1,k+1,hk,a,b,f,x,h=>by
   simp only [cvF] at h ⊢
   split at h
   ·rename_i hf;rw [if_pos hf];exact h
   rename_i hf
   rw [if_neg hf]
   split at h
   ·rename_i ha;rw [if_pos ha];exact h
   rename_i ha
   rw [if_neg ha]
   cases hw:whF ds c g a (f-1) with
   | none=>rw [hw] at h;cases h
   | some y =>
     rw [hw] at h
     rw [z1z g k (by omega) _ _ _ hw]
     obtain ⟨w,f1,e⟩:=y
     simp only at h ⊢
     split at h
     ·rename_i he;rw [if_pos he];exact h
     rename_i he
     rw [if_neg he]
     cases hv:whF ds c g b f1 with
     | none=>rw [hv] at h;cases h
     | some z =>
       rw [hv] at h
       rw [z1z g k (by omega) _ _ _ hv]
       obtain ⟨v,f2,e2⟩:=z
       simp only at h ⊢
       split at h
       ·rename_i he2;rw [if_pos he2];exact h
       rename_i he2
       rw [if_neg he2]
       exact zqh (fun a b f x hx=>z8m g k (by omega) a b f x hx) h
theorem zw1 {ds:List Dcl} {c:Int} {g k:Nat} {a b:Trm} {f:Int} {x y:CR} (h1:cvF ds c g a b f=some x) (h2:cvF ds c k a b f=some y):x=y:=by
 have e1:=z8m g (max g k) (by omega) a b f x h1
 have e2:=z8m k (max g k) (by omega) a b f y h2
 rw [e1] at e2
 exact Option.some.inj e2
theorem zev {cf cf':Trm->Trm->Int->Option CR} {d:Int} (h:∀ a b f is f',cf a b f=some (is,f',0)->cf' a b (f+d)=some (is,f'+d,0)):∀ (l m:List Trm) (f:Int) (is:Bool) (f':Int),allF cf l m f=some (is,f',0)->allF cf' l m (f+d)=some (is,f'+d,0)
 | a :: r,b::s,f,is,f',hy=>by
   simp only [allF] at hy ⊢
   cases ha:cf a b f with
   | none=>rw [ha] at hy;cases hy
   | some x =>
     rw [ha] at hy
     obtain ⟨i1,f1,e⟩:=x
     simp only at hy
     by_cases he:e=0
     ·subst he
      rw [h _ _ _ _ _ ha]
      simp only
      split at hy
      ·rename_i he;rw [if_pos he];cases hy;rfl
      ·rename_i he;rw [if_neg he];exact zev h r s f1 is f' hy
     ·rw [if_pos (.inl he)] at hy
      simp only [Option.some.injEq,Prod.mk.injEq] at hy
      exact absurd hy.2.2 he
 | [],[],f,is,f',hy=>by simp only [allF,Option.some.injEq,Prod.mk.injEq] at hy ⊢;exact ⟨hy.1,by omega,trivial⟩
 | [],_::_,f,is,f',hy=>by simp only [allF,Option.some.injEq,Prod.mk.injEq] at hy ⊢;exact ⟨hy.1,by omega,trivial⟩
 | _::_,[],f,is,f',hy=>by simp only [allF,Option.some.injEq,Prod.mk.injEq] at hy ⊢;exact ⟨hy.1,by omega,trivial⟩
theorem zz4 {cf cf':Trm->Trm->Int->Option CR} {d:Int} (h:∀ a b f is f',cf a b f=some (is,f',0)->cf' a b (f+d)=some (is,f'+d,0)) {x y:Trm} {f:Int} {is:Bool} {f':Int} (hz:hdF cf x y f=some (is,f',0)):hdF cf' x y (f+d)=some (is,f'+d,0):=by
 unfold hdF at hz ⊢
 repeat' split at hz
 ·rename_i h1;rw [if_pos h1];simp only [Option.some.injEq,Prod.mk.injEq] at hz ⊢;exact ⟨hz.1,by omega,trivial⟩
 ·rename_i h1 h2;rw [if_neg h1,if_pos h2];exact zev h _ _ _ _ _ hz
 ·rename_i h1 h2 h3 h4;rw [if_neg h1,if_neg h2,if_pos h3,if_pos h4];exact h _ _ _ _ _ hz
 ·cases hz
 ·rename_i h1 h2 h3 h4 h5;rw [if_neg h1,if_neg h2,if_neg h3,if_pos h4,if_pos h5];exact h _ _ _ _ _ hz
 ·cases hz
 ·rename_i h1 h2 h3 h4 h5;rw [if_neg h1,if_neg h2,if_neg h3,if_neg h4,if_pos h5];simp only [Option.some.injEq,Prod.mk.injEq] at hz ⊢;exact ⟨hz.1,by omega,trivial⟩
 ·rename_i h1 h2 h3 h4 h5;rw [if_neg h1,if_neg h2,if_neg h3,if_neg h4,if_neg h5];exact zev h _ _ _ _ _ hz
theorem zcq {ds:List Dcl} {c c':Int} (hc:c<=c') {d:Int} (hd:0<=d):∀ (g:Nat) (a b:Trm) (f:Int) (is:Bool) (f':Int),cvF ds c g a b f=some (is,f',0)->cvF ds c' g a b (f+d)=some (is,f'+d,0)
 | 0,_,_,_,_,_,h=>by cases h
 | g + 1,a,b,f,is,f',h=>by
   simp only [cvF] at h ⊢
   split at h
   ·simp at h
   rename_i hf
   rw [if_neg (by omega)]
   split at h
   ·rename_i ha;rw [if_pos ha];simp only [Option.some.injEq,Prod.mk.injEq] at h ⊢;exact ⟨h.1,by omega,trivial⟩
   rename_i ha
   rw [if_neg ha]
   cases hw:whF ds c g a (f-1) with
   | none=>rw [hw] at h;cases h
   | some y =>
     obtain ⟨w,f1,e⟩:=y
     rw [hw] at h
     simp only at h
     split at h
     ·rename_i he;simp only [Option.some.injEq,Prod.mk.injEq] at h;exact absurd h.2.2 he
     rename_i he
     have he0:e=0:=Classical.byContradiction fun h=>he h
     subst he0
     have h1:=z8l hc hd g a (f-1) w f1 hw
     rw [show f+d-1=f-1+d by omega,h1]
     simp only
     rw [if_neg he]
     cases hv:whF ds c g b f1 with
     | none=>rw [hv] at h;cases h
     | some z =>
       obtain ⟨v,f2,e2⟩:=z
       rw [hv] at h
       simp only at h
       split at h
       ·rename_i he2;simp only [Option.some.injEq,Prod.mk.injEq] at h;exact absurd h.2.2 he2
       rename_i he2
       have he20:e2=0:=Classical.byContradiction fun h=>he2 h
       subst he20
       rw [z8l hc hd g b f1 v f2 hv]
       simp only
       rw [if_neg he2]
       exact zz4 (fun a b f is f' hx=>zcq hc hd g a b f is f' hx) h
def CK (f:Int) (x:CR):Prop:=Fu f x.2.1/\(x.2.2=0\/errE x.2.2/\x.1=false)
theorem zbh {cf:Trm->Trm->Int->Option CR} (h:∀ a b f x,Gd a->Gd b->cf a b f=some x->CK f x):∀ (l m:List Trm) (f:Int) (x:CR),(∀ a∈l,Gd a)->(∀ a∈m,Gd a)->allF cf l m f=some x->CK f x
 | a :: r,b::s,f,x,hl,hm,hx=>by
   simp only [allF] at hx
   cases ha:cf a b f with
   | none=>rw [ha] at hx;cases hx
   | some y =>
     have hk:=h a b f y (hl a (by simp)) (hm b (by simp)) ha
     rw [ha] at hx
     obtain ⟨is,f1,e⟩:=y
     simp only at hx
     split at hx
     ·cases hx;exact ⟨hk.1,by rcases hk.2 with h | h;exact .inl h;exact .inr ⟨h.1,rfl⟩⟩
     ·have:=zbh h r s f1 x (fun a h=>hl a (by simp [h])) (fun a h=>hm a (by simp [h])) hx
      exact ⟨hk.1.trans this.1,this.2⟩
 | [],[],f,x,_,_,hx=>by simp only [allF,Option.some.injEq] at hx;subst hx;exact ⟨.inl rfl,.inl rfl⟩
 | [],_::_,f,x,_,_,hx=>by simp only [allF,Option.some.injEq] at hx;subst hx;exact ⟨.inl rfl,.inl rfl⟩
 | _::_,[],f,x,_,_,hx=>by simp only [allF,Option.some.injEq] at hx;subst hx;exact ⟨.inl rfl,.inl rfl⟩
theorem zw2 {cf:Trm->Trm->Int->Option CR} (h:∀ a b f x,Gd a->Gd b->cf a b f=some x->CK f x) {x y:Trm} {f:Int} {z:CR} (hx:Gd x) (hy:Gd y) (hz:hdF cf x y f=some z):CK f z:=by
 unfold hdF at hz
 repeat' split at hz
 ·cases hz;exact ⟨.inl rfl,.inl rfl⟩
 ·exact zbh h _ _ _ _ (fun a h=>hx.sub h) (fun a h=>hy.sub h) hz
 ·rename_i hg;exact h _ _ _ _ (Gd.getD (fun a h=>hx.sub h) 1) (gdT_iff.1 hg) hz
 ·cases hz
 ·rename_i hg;exact h _ _ _ _ (gdT_iff.1 hg) (Gd.getD (fun a h=>hy.sub h) 1) hz
 ·cases hz
 ·cases hz;exact ⟨.inl rfl,.inl rfl⟩
 ·exact zbh h _ _ _ _ hx.args.1 hy.args.1 hz
theorem z6i {ds:List Dcl} {c:Int}:∀ (g:Nat) (a b:Trm) (f:Int) (x:CR),Gd a->Gd b->cvF ds c g a b f=some x->CK f x
 | 0,_,_,_,_,_,_,h=>by cases h
 | g + 1,a,b,f,x,ha,hb,h=>by
   simp only [cvF] at h
   split at h
   ·cases h;exact ⟨.inl rfl,.inr ⟨.inl rfl,rfl⟩⟩
   rename_i hf
   have h1:∀ {x:Int},Fu (f-1) x->Fu f x:=fun hx=>by unfold Fu at *;omega
   split at h
   ·cases h;exact ⟨h1 (.inl rfl),.inl rfl⟩
   cases hw:whF ds c g a (f-1) with
   | none=>rw [hw] at h;cases h
   | some y =>
     obtain ⟨w,f1,e⟩:=y
     have hk:=z1u g a (f-1) w f1 e ha hw
     have he:=zix g a (f-1) _ hw
     rw [hw] at h
     simp only at h he
     split at h
     ·rename_i hne;cases h;exact ⟨h1 hk.2,.inr ⟨(he hne).1,rfl⟩⟩
     cases hv:whF ds c g b f1 with
     | none=>rw [hv] at h;cases h
     | some z =>
       obtain ⟨v,f2,e2⟩:=z
       have hk2:=z1u g b f1 v f2 e2 hb hv
       have he2:=zix g b f1 _ hv
       rw [hv] at h
       simp only at h he2
       split at h
       ·rename_i hne;cases h;exact ⟨h1 (hk.2.trans hk2.2),.inr ⟨(he2 hne).1,rfl⟩⟩
       have:=zw2 (fun a b f x=>z6i g a b f x) hk.1 hk2.1 h
       exact ⟨h1 ((hk.2.trans hk2.2).trans this.1),this.2⟩
theorem zz08 {b:Int} (hb:0<=b) {m:Nat} (hm:1<=m) {t:Trm} (h:Wd b m t):Wd (b+1) (m+1) (ovrT t) :=
 Wd.mkA (by omega) (h.lift 1) ((zvv (b:=b+1) (i:=0) hm (by omega)))
section
variable {B : Int} {c : Int} (hB : 0 ≤ B)
include hB
theorem zw3 {ds:List Dcl} (hE:EnvW B ds):∀ (n:Nat) (f:Int),f.toNat<=n->f<=100000->∀ (T:Int) (m:Nat) (a b:Trm),T<=1099511627776->c<=m->3<=m->m+f.toNat<=10000000->B<=bdV T m f->Wd (bdV T m f) m a->Wd (bdV T m f) m b->∃ g x,cvF ds c g a b f=some x/\x.2.1<=f:=by
 intro n
 induction n with
 | zero=>intro f hf _ T m a b _ _ _ _ _ _ _;exact ⟨1,(false,f,11),by simp only [cvF];rw [if_pos (by omega)],Int.le_refl _⟩
 | succ n IH =>
   intro f hf hF T m a b hT hc h3 hM hb ha hbb
   by_cases hf0:f<=0
   ·exact ⟨1,(false,f,11),by simp only [cvF];rw [if_pos hf0],Int.le_refl _⟩
   by_cases hk:alkT a b=true
   ·exact ⟨1,(true,f-1,0),by simp only [cvF];rw [if_neg hf0,if_pos hk],by simp only;omega⟩
   have hst:=zqa (T:=T) (M:=m) (f:=f) (by omega)
   have hT':∀ x,bdV (T-(200000+m)) m x=bdV T m x-(200000+m):=fun x=>by unfold bdV;omega
   have hbm:∀ {x y:Int},x<=y->bdV (T-(200000+m)) m y<=bdV (T-(200000+m)) m x:=fun h=>ziv h
   have e0:bdV (T-(200000+m)) m (f-1)=bdV T m f:=by rw [hT',hst];omega
   obtain ⟨g1,⟨x,f1,e⟩,k1,k2,k3⟩:=zle (T:=T-(200000+m)) (B:=B) (M:=m) (c:=c) (by omega) hB (by omega) (by omega) hc hE (f-1).toNat (f-1) (Nat.le_refl _) (dpT a) a (Nat.le_refl _) (by rw [e0];exact hb) (by rw [e0];exact ha)
   simp only at k2 k3
   by_cases he:e≠0
   ·exact ⟨g1+1,(false,f1,e),by simp only [cvF];rw [if_neg hf0,if_neg hk,k1];simp only;rw [if_pos he],by simp only;omega⟩
   have hx:=k2 (Classical.byContradiction fun h=>he h)
   have b1:=hbm k3
   rw [e0] at b1
   obtain ⟨g2,⟨y,f2,e2⟩,q1,q2,q3⟩:=zle (T:=T-(200000+m)) (B:=B) (M:=m) (c:=c) (by omega) hB (by omega) (by omega) hc hE f1.toNat f1 (Nat.le_refl _) (dpT b) b (Nat.le_refl _) (by omega) (hbb.mono b1 (Nat.le_refl _))
   simp only at q2 q3
   by_cases he2:e2≠0
   ·refine ⟨max g1 g2+1,(false,f2,e2),?_,by simp only;omega⟩
    simp only [cvF]
    rw [if_neg hf0,if_neg hk,z1z g1 (max g1 g2) (by omega) _ _ _ k1]
    simp only
    rw [if_neg he,z1z g2 (max g1 g2) (by omega) _ _ _ q1]
    simp only
    rw [if_pos he2]
   have hy:=q2 (Classical.byContradiction fun h=>he2 h)
   have b2:=hbm q3
   have hx2:=hx.mono b2 (Nat.le_refl _)
   have hB2:B<=bdV (T-(200000+m)) m f2:=by omega
   have hl2:=zvw (T-(200000+m)) m f2
   have key:∀ (g:Nat) (z:CR),hdF (cvF ds c g) x y f2=some z->z.2.1<=f2->∃ g x,cvF ds c g a b f=some x/\x.2.1<=f:=fun g z hz hz2=>by
    refine ⟨max (max g1 g2) g+1,z,?_,by omega⟩
    simp only [cvF]
    rw [if_neg hf0,if_neg hk,z1z g1 (max (max g1 g2) g) (by omega) _ _ _ k1]
    simp only
    rw [if_neg he,z1z g2 (max (max g1 g2) g) (by omega) _ _ _ q1]
    simp only
    rw [if_neg he2]
    exact zqh (fun a b f x hx=>z8m g (max (max g1 g2) g) (by omega) a b f x hx) hz
   have lst:∀ (l k:List Trm) (z:Int),z<=f2->(∀ a∈l,Wd (bdV (T-(200000+m)) m z) m a)->(∀ a∈k,Wd (bdV (T-(200000+m)) m z) m a)->∃ g y,allF (cvF ds c g) l k z=some y/\y.2.1<=z:=by
    intro l
    induction l with
    | nil=>intro k z hz _ _;cases k<;>exact ⟨0,(true,z,0),rfl,Int.le_refl _⟩
    | cons p r ih =>
      intro k z hz hl hk'
      cases k with
      | nil=>exact ⟨0,(true,z,0),rfl,Int.le_refl _⟩
      | cons q s =>
        have hbz:=hbm hz
        obtain ⟨ga,⟨is,z1,e1⟩,w1,w3⟩:=IH z (by omega) (by omega) (T-(200000+m)) m p q (by omega) hc h3 (by omega) (by omega) (hl p (by simp)) (hk' q (by simp))
        simp only at w3
        by_cases hne:e1≠0\/is=false
        ·exact ⟨ga,(false,z1,e1),by simp only [allF];rw [w1];simp only;rw [if_pos hne],w3⟩
        ·have hm1:=hbm w3
         obtain ⟨gb,v,p1,p3⟩:=ih s z1 (by omega) (fun b hb=>(hl b (by simp [hb])).mono hm1 (Nat.le_refl _)) (fun b hb=>(hk' b (by simp [hb])).mono hm1 (Nat.le_refl _))
         refine ⟨max ga gb,v,?_,by omega⟩
         simp only [allF]
         rw [z8m ga (max ga gb) (by omega) _ _ _ _ w1]
         simp only
         rw [if_neg hne]
         exact zaj (fun a b f x hx=>z8m gb (max ga gb) (by omega) a b f x hx) _ _ _ _ p1
   have ovr:∀ {u v:Trm},Wd (bdV (T-(200000+m)) m f2) m u->Wd (bdV (T-(200000+m)) m f2+1) (m+1) v->(∃ g z,cvF ds c g u v f2=some z/\z.2.1<=f2)/\∃ g z,cvF ds c g v u f2=some z/\z.2.1<=f2:=fun {u v} hu hv=>by
    have hbd:bdV (T-(200000+m)) m f2+1<=bdV T (m+1) f2:=by
     unfold bdV
     have hz:max f2 0 * (200000+((m+1:Nat):Int))=max f2 0 * (200000+(m:Int))+max f2 0:=by
      rw [show (200000+((m+1:Nat):Int))=(200000+(m:Int))+1 by push_cast;omega,Int.mul_add _ (200000+(m:Int)) 1,Int.mul_one]
     rw [hz]
     generalize max f2 0 * (200000+(m:Int))=z
     omega
    have h1:=hu.mono (c:=bdV T (m+1) f2) (k:=m+1) (by omega) (by omega)
    have h2:=hv.mono (c:=bdV T (m+1) f2) (k:=m+1) hbd (Nat.le_refl _)
    exact ⟨IH f2 (by omega) (by omega) T (m+1) u v hT (by omega) (by omega) (by omega) (by omega) h1 h2,IH f2 (by omega) (by omega) T (m+1) v u hT (by omega) (by omega) (by omega) (by omega) h2 h1⟩
   have gd:∀ {v:Trm},Wd (bdV (T-(200000+m)) m f2+1) (m+1) v->gdT v=true:=fun {v} hv=>gdT_iff.2 ⟨zk (by omega) _ hv.w,by have:=hv.d;omega⟩
   have ox:=zz08 (by omega) (by omega) hx2
   have oy:=zz08 (by omega) (by omega) hy
   by_cases c1:alkT x y=true
   ·exact key 0 (true,f2,0) (by unfold hdF;rw [if_pos c1]) (Int.le_refl _)
   by_cases c2:x.kind=y.kind/\(x.kind=4\/x.kind=5)
   ·obtain ⟨g,z,h1,h2⟩:=lst x.args y.args f2 (Int.le_refl _) (fun a h=>hx2.sub h) (fun a h=>hy.sub h)
    exact key g z (by unfold hdF;rw [if_neg c1,if_pos c2];exact h1) h2
   by_cases c3:x.kind=4
   ·obtain ⟨g,z,h1,h2⟩:=(ovr (Wd.getD (by omega) (by omega) (fun a h=>hx2.sub h) 1) oy).1
    exact key g z (by unfold hdF;rw [if_neg c1,if_neg c2,if_pos c3,if_pos (gd oy)];exact h1) h2
   by_cases c4:y.kind=4
   ·obtain ⟨g,z,h1,h2⟩:=(ovr (Wd.getD (by omega) (by omega) (fun a h=>hy.sub h) 1) ox).2
    exact key g z (by unfold hdF;rw [if_neg c1,if_neg c2,if_neg c3,if_pos c4,if_pos (gd ox)];exact h1) h2
   by_cases c5:offT x y
   ·exact key 0 (false,f2,0) (by unfold hdF;rw [if_neg c1,if_neg c2,if_neg c3,if_neg c4,if_pos c5]) (Int.le_refl _)
   obtain ⟨g,z,h1,h2⟩:=lst (argsT x) (argsT y) f2 (Int.le_refl _) hx2.args.1 hy.args.1
   exact key g z (by unfold hdF;rw [if_neg c1,if_neg c2,if_neg c3,if_neg c4,if_neg c5];exact h1) h2
end
end Go.Ab
set_option linter.unusedVariables false
set_option linter.unusedSimpArgs false
namespace Go.Ab
open Go Go.RowKit
def hereL (k n:Int) (len:Nat):Prop:=argL k=len/\¬ (k=4/\(n<0\/n≥4))/\¬ (k≠4/\n≠0)
instance (k n:Int) (len:Nat):Decidable (hereL k n len):=by unfold hereL;infer_instance
mutual
def wfL:Lvl->Bool
 | ⟨k,n,l⟩=>decide (hereL k n l.length)&&wfLs l
def wfLs:List Lvl->Bool
 | []=>true
 | a::r=>wfL a&&wfLs r
end
theorem zw4 (t:Lvl):wfL t=(decide (hereL t.kind t.n t.args.length)&&wfLs t.args):=by cases t;rfl
theorem zbi {t:Lvl} (h:wfL t=true):hereL t.kind t.n t.args.length:=by
 rw [zw4,Bool.and_eq_true] at h;exact of_decide_eq_true h.1
theorem zqi:∀ {l:List Lvl},wfLs l=true->∀ a∈l,wfL a=true
 | [],_,a,h=>by cases h
 | b::r,h,a,hm=>by
   simp only [wfLs,Bool.and_eq_true] at h
   rcases List.mem_cons.1 hm with rfl | hm
   ·exact h.1
   ·exact zqi h.2 a hm
theorem zw5:∀ {l:List Lvl},(∀ a∈l,wfL a=true)->wfLs l=true
 | [],_=>rfl
 | b::r,h=>by simp only [wfLs,Bool.and_eq_true];exact ⟨h b (by simp),zw5 fun a ha=>h a (by simp [ha])⟩
theorem zw6 {t:Lvl} (h:wfL t=true) {a:Lvl} (ha:a∈t.args):wfL a=true:=by
 rw [zw4,Bool.and_eq_true] at h;exact zqi h.2 a ha
theorem ar1 {t:Lvl} (h:wfL t=true) (hk:t.kind=1):∃ a,t.args=[a]:=by
 have h1:=(zbi h).1
 have h2:t.args.length=1:=by rw [hk] at h1;simp [argL] at h1;omega
 match t.args,h2 with
 | [a],_=>exact ⟨a,rfl⟩
theorem ar2 {t:Lvl} (h:wfL t=true) (hk:t.kind=2\/t.kind=3):∃ a b,t.args=[a,b]:=by
 have h1:=(zbi h).1
 have h2:t.args.length=2:=by rcases hk with hk | hk<;>(rw [hk] at h1;simp [argL] at h1;omega)
 match t.args,h2 with
 | [a,b],_=>exact ⟨a,b,rfl⟩
theorem zz09 {by_:List Lvl} (hby:∀ x∈by_,wfL x=true):∀ t:Lvl,wfL t=true->wfL (putF by_ t)=true
 | ⟨k,n,l⟩,h=>by
   rw [zia]
   split
   ·rename_i hp
    exact hby _ (ze7 hp.2.1 hp.2.2).2
   ·rw [zw4,Bool.and_eq_true,decide_eq_true_eq]
    have hh:=zbi h
    refine ⟨by simpa [z1t] using hh,zw5 fun a ha=>?_⟩
    simp only [z1t] at ha
    obtain ⟨c,hc,rfl⟩:=List.mem_map.1 ha
    exact zz09 hby c (zw6 h hc)
termination_by x=>SizeOf.sizeOf x
decreasing_by exact Lvl.lt (t:=⟨k,n,l⟩) hc
theorem zj3:∀ (t:Lvl) (d:Int),wholL 4 t d=true↔wfL t=true/\d-1+depL t<=32
 | ⟨k, n,l⟩,d=>by
   have hs:d<=32->∀ q:List Lvl,(∀ a∈q,a∈l)->(zc4 4 q d=true↔wfLs q=true/\d+depLs q<=32):=by
    intro hd q
    induction q with
    | nil=>intro _;simp [zc4,wfLs,depLs];omega
    | cons a r ih =>
      intro hq
      have hm:=hq a (by simp)
      have h1:=zj3 a (d+1)
      have h2:=ih fun b hb=>hq b (by simp [hb])
      simp only [zc4,wfLs,depLs,Bool.and_eq_true,h1,h2]
      constructor
      ·rintro ⟨⟨a1,a2⟩,a3,a4⟩;exact ⟨⟨a1,a3⟩,by omega⟩
      ·rintro ⟨⟨a1,a3⟩,a4⟩;exact ⟨⟨a1,by omega⟩,a3,by omega⟩
   simp only [wholL,wfL,depL,Bool.and_eq_true,decide_eq_true_eq]
   by_cases hd:d>32
   ·rw [if_pos (.inl hd)]
    exact ⟨fun h=>(by cases h),fun h=>by have:=h.2;omega⟩
   ·have h3:=hs (by omega) l (fun _ h=>h)
    by_cases ha:argL k=l.length
    ·rw [if_neg (by omega)]
     by_cases hc:k=4/\(n<0\/n≥4)\/k≠4/\n≠0
     ·rw [if_pos hc]
      exact ⟨fun h=>(by cases h),fun h=>absurd hc fun hc=>hc.elim h.1.1.2.1 h.1.1.2.2⟩
     ·rw [if_neg hc,h3]
      constructor
      ·rintro ⟨p,q⟩;exact ⟨⟨⟨ha,fun h=>hc (.inl h),fun h=>hc (.inr h)⟩,p⟩,by omega⟩
      ·rintro ⟨⟨_,p⟩,q⟩;exact ⟨p,by omega⟩
    ·rw [if_pos (.inr ha)]
     exact ⟨fun h=>(by cases h),fun h=>absurd h.1.1.1 ha⟩
termination_by t=>SizeOf.sizeOf t
decreasing_by exact Lvl.lt (t:=⟨k,n,l⟩) hm
def evK (at_:List Int) (k n:Int) (vs:List Int):Int :=
 if k=1 then vs.getD 0 0+1 else if k=2 then max (vs.getD 0 0) (vs.getD 1 0) else if k=3 then (if vs.getD 1 0=0 then 0 else max (vs.getD 0 0) (vs.getD 1 0))
 else if k=4 then (if 0<=n/\n<at_.length then min (max (at_.getD n.toNat 0) 0) 1099511627776 else 0) else 0
theorem zz5 (at_:List Int) (t:Lvl):rEvF at_ t=evK at_ t.kind t.n (rEvs at_ t.args):=by cases t;rfl
structure Flat where
 b:Int
 p0:Int
 p1:Int
 p2:Int
 p3:Int
 deriving DecidableEq
def flat0:Flat:=⟨0,-1,-1,-1,-1⟩
def lsU (b k:Int):Int:=if k≥0 then max b (k+1) else b
theorem zj4 {b k:Int} (h:k≥0):max b (k+1)=lsU b k:=by rw [lsU,if_pos h]
theorem zj5 {b k:Int} (h:¬ k≥0):b=lsU b k:=by rw [lsU,if_neg h]
def zgz (f:Flat):Int:=lsU (lsU (lsU (lsU f.b f.p0) f.p1) f.p2) f.p3
def zc5 (f o:Flat):Bool:=decide (f.p0<=o.p0/\f.p1<=o.p1/\f.p2<=o.p2/\f.p3<=o.p3/\f.b<=zgz o)
def up (p:Int):Int:=if p≥0 then p+1 else p
def succF (f:Flat):Flat:=⟨f.b+1,up f.p0,up f.p1,up f.p2,up f.p3⟩
def maxF (f g:Flat):Flat:=⟨max f.b g.b,max f.p0 g.p0,max f.p1 g.p1,max f.p2 g.p2,max f.p3 g.p3⟩
def setF (n:Int):Flat:=⟨0,if n=0 then 0 else -1,if n=1 then 0 else -1,if n=2 then 0 else -1,if n=3 then 0 else -1⟩
def bitF (z n:Int):Int:=z / 2 ^ n.toNat % 2
def flK (z k n:Int) (fs:List Flat):Flat :=
 if k=1 then succF (fs.getD 0 flat0) else if k=2 then maxF (fs.getD 0 flat0) (fs.getD 1 flat0) else if k=3 then (if fs.getD 1 flat0=flat0 then flat0 else maxF (fs.getD 0 flat0) (fs.getD 1 flat0))
 else if k=4 then (if 0<=n/\n<4/\bitF z n=0 then setF n else flat0) else flat0
mutual
def flatF (z:Int):Lvl->Flat
 | ⟨k,n,l⟩=>flK z k n (z6j z l)
def z6j (z:Int):List Lvl->List Flat
 | []=>[]
 | a::r=>flatF z a::z6j z r
end
theorem zqj (z:Int) (t:Lvl):flatF z t=flK z t.kind t.n (z6j z t.args):=by cases t;rfl
def Flat.ok (f:Flat) (m:Int):Prop:=(0<=f.b/\f.b<=m)/\(-1<=f.p0/\f.p0<=m)/\(-1<=f.p1/\f.p1<=m)/\(-1<=f.p2/\f.p2<=m)/\(-1<=f.p3/\f.p3<=m)
theorem zcr {m:Int} (h:0<=m):flat0.ok m:=by simp only [Flat.ok,flat0];omega
theorem zz6 {f:Flat} {m:Int} (h:f.ok m):(succF f).ok (m+1):=by
 simp only [Flat.ok,succF,up] at *
 refine ⟨by omega,?_,?_,?_,?_⟩<;>(split<;>omega)
theorem zw7 {f g:Flat} {m:Int} (h:f.ok m) (k:g.ok m):(maxF f g).ok m:=by simp only [Flat.ok,maxF] at *;omega
theorem zz2g {n m:Int} (h:0<=m):(setF n).ok m:=by
 simp only [Flat.ok,setF]
 refine ⟨by omega,?_,?_,?_,?_⟩<;>(split<;>omega)
theorem Flat.ok_mono {f:Flat} {m m':Int} (h:f.ok m) (hm:m<=m'):f.ok m':=by simp only [Flat.ok] at *;omega
mutual
theorem z5v (z:Int):∀ t:Lvl,(flatF z t).ok (depL t)
 | ⟨k, n,l⟩=>by
   simp only [flatF,depL]
   have h0:=zew z l 0
   have h1:=zew z l 1
   unfold flK
   split
   ·exact Flat.ok_mono (zz6 h0) (by omega)
   ·split
    ·exact Flat.ok_mono (zw7 h0 h1) (by omega)
    ·split
     ·split
      ·exact zcr (by omega)
      ·exact Flat.ok_mono (zw7 h0 h1) (by omega)
     ·split
      ·split
       ·exact zz2g (by omega)
       ·exact zcr (by omega)
      ·exact zcr (by omega)
theorem zew (z:Int):∀ (l:List Lvl) (i:Nat),((z6j z l).getD i flat0).ok (depLs l)
 | [],i=>by simp [z6j,depLs];exact zcr (by omega)
 | a::r,0=>by simp only [z6j,depLs,List.getD_cons_zero];exact Flat.ok_mono (z5v z a) (by omega)
 | a::r,i+1=>by simp only [z6j,depLs,List.getD_cons_succ];exact Flat.ok_mono (zew z r i) (by omega)
end
theorem zz2h {z n:Int} (hz:0<=z/\z<16):0<=z / 2 ^ n.toNat/\z / 2 ^ n.toNat<9223372036854775808:=by
 have hp:(0:Int)<2 ^ n.toNat:=Int.pow_pos (by decide)
 refine ⟨Int.ediv_nonneg hz.1 (by omega),?_⟩
 have:=Int.ediv_le_self (2 ^ n.toNat) hz.1
 omega
theorem zex:∀ {l:List Lvl} {a:Lvl},a∈l->depL a<=depLs l
 | b::r,a,h=>by
   simp only [depLs]
   rcases List.mem_cons.1 h with rfl | h
   ·omega
   ·have:=zex h;omega
def leqF (a b:Lvl):Bool:=(List.range' 0 16).all fun z=>zc5 (flatF z a) (flatF z b)
def shr (p x:Int):Int:=if p≥0 then p+x else 0
def valF (f:Flat) (x0 x1 x2 x3:Int):Int:=max (max (max (max f.b (shr f.p0 x0)) (shr f.p1 x1)) (shr f.p2 x2)) (shr f.p3 x3)
theorem zj6 {p q x:Int} (hx:0<=x):shr (max p q) x=max (shr p x) (shr q x):=by unfold shr;split<;>split<;>split<;>omega
theorem zz3s {p x:Int}:shr (up p) x=if p≥0 then shr p x+1 else 0:=by
 unfold shr up
 by_cases h:p≥0
 ·simp only [if_pos h,if_pos (show p+1≥0 by omega)];omega
 ·simp only [if_neg h]
theorem max4 (a b s t:Int):max (max a b) (max s t)=max (max a s) (max b t):=by omega
theorem zw8 {f g:Flat} {x0 x1 x2 x3:Int} (h0:0<=x0) (h1:0<=x1) (h2:0<=x2) (h3:0<=x3):valF (maxF f g) x0 x1 x2 x3=max (valF f x0 x1 x2 x3) (valF g x0 x1 x2 x3):=by
 simp only [valF,maxF,zj6 h0,zj6 h1,zj6 h2,zj6 h3]
 rw [max4 f.b g.b (shr f.p0 x0) (shr g.p0 x0),max4 _ _ (shr f.p1 x1) (shr g.p1 x1),max4 _ _ (shr f.p2 x2) (shr g.p2 x2),max4 _ _ (shr f.p3 x3) (shr g.p3 x3)]
theorem zcs (p x:Int):shr (up p) x=shr p x+1\/(shr (up p) x=0/\shr p x=0):=by
 rw [zz3s]
 by_cases h:p≥0
 ·left;rw [if_pos h]
 ·right;rw [if_neg h];exact ⟨rfl,by unfold shr;rw [if_neg h]⟩
theorem zct {c s s':Int} (hc:0<=c) (h:s'=s+1\/(s'=0/\s=0)):max (c+1) s'=max c s+1:=by omega
theorem zz7 {f:Flat} {x0 x1 x2 x3:Int} (hb:0<=f.b):valF (succF f) x0 x1 x2 x3=valF f x0 x1 x2 x3+1:=by
 simp only [valF,succF]
 rw [zct hb (zcs _ _),zct (by omega) (zcs _ _),zct (by omega) (zcs _ _),zct (by omega) (zcs _ _)]
theorem zak (f:Flat) (x0 x1 x2 x3:Int):f.b<=valF f x0 x1 x2 x3/\shr f.p0 x0<=valF f x0 x1 x2 x3/\shr f.p1 x1<=valF f x0 x1 x2 x3/\shr f.p2 x2<=valF f x0 x1 x2 x3/\shr f.p3 x3<=valF f x0 x1 x2 x3:=by
 unfold valF;omega
theorem zey {f:Flat} {x0 x1 x2 x3 m:Int} (hb:f.b<=m) (h0:shr f.p0 x0<=m) (h1:shr f.p1 x1<=m) (h2:shr f.p2 x2<=m) (h3:shr f.p3 x3<=m):valF f x0 x1 x2 x3<=m:=by
 unfold valF;omega
theorem z6b {p x:Int} (h:p≥0):shr p x=p+x:=by unfold shr;rw [if_pos h]
theorem zw9 {p x:Int} (h:¬ p≥0):shr p x=0:=by unfold shr;rw [if_neg h]
theorem zcu (x0 x1 x2 x3:Int):valF flat0 x0 x1 x2 x3=0:=by simp [valF,flat0,shr]
def actF (f:Flat) (x0 x1 x2 x3:Int):Prop:=(f.p0≥0->1<=x0)/\(f.p1≥0->1<=x1)/\(f.p2≥0->1<=x2)/\(f.p3≥0->1<=x3)
theorem zz2i {f:Flat} {m x0 x1 x2 x3:Int} (hok:f.ok m) (ha:actF f x0 x1 x2 x3):valF f x0 x1 x2 x3=0↔f=flat0:=by
 constructor
 ·intro h
  have hg:=zak f x0 x1 x2 x3
  rw [h] at hg
  obtain ⟨g0,g1,g2,g3,g4⟩:=hg
  obtain ⟨a0,a1,a2,a3⟩:=ha
  have q0:¬ f.p0≥0:=fun hp=>by have:=a0 hp;rw [z6b hp] at g1;omega
  have q1:¬ f.p1≥0:=fun hp=>by have:=a1 hp;rw [z6b hp] at g2;omega
  have q2:¬ f.p2≥0:=fun hp=>by have:=a2 hp;rw [z6b hp] at g3;omega
  have q3:¬ f.p3≥0:=fun hp=>by have:=a3 hp;rw [z6b hp] at g4;omega
  obtain ⟨b,p0,p1,p2,p3⟩:=f
  simp only [Flat.ok] at hok
  simp only at *
  simp only [flat0,Flat.mk.injEq]
  exact ⟨by omega,by omega,by omega,by omega,by omega⟩
 ·rintro rfl;exact zcu ..
def fitZ (z x0 x1 x2 x3:Int):Prop:=(bitF z 0=0->1<=x0)/\(bitF z 1=0->1<=x1)/\(bitF z 2=0->1<=x2)/\(bitF z 3=0->1<=x3) /\
 (bitF z 0≠0->x0=0)/\(bitF z 1≠0->x1=0)/\(bitF z 2≠0->x2=0)/\(bitF z 3≠0->x3=0)
def inX (x0 x1 x2 x3:Int):Prop:=(0<=x0/\x0<=1099511627776)/\(0<=x1/\x1<=1099511627776)/\(0<=x2/\x2<=1099511627776)/\(0<=x3/\x3<=1099511627776)
theorem z7r (z x0 x1 x2 x3:Int) (hf:fitZ z x0 x1 x2 x3) (hx:inX x0 x1 x2 x3) (t:Lvl):wfL t=true->rEvF [x0,x1,x2,x3] t=valF (flatF z t) x0 x1 x2 x3/\actF (flatF z t) x0 x1 x2 x3:=by
 intro hw
 have ih:∀ a∈t.args,rEvF [x0,x1,x2,x3] a=valF (flatF z a) x0 x1 x2 x3/\actF (flatF z a) x0 x1 x2 x3:=fun a ha=>z7r z x0 x1 x2 x3 hf hx a (zw6 hw ha)
 have he:=zz5 [x0,x1,x2,x3] t
 have hfl:=zqj z t
 obtain ⟨hx0,hx1,hx2,hx3⟩:=hx
 by_cases k1:t.kind=1
 ·obtain ⟨a,ha⟩:=ar1 hw k1
  obtain ⟨i1,i2⟩:=ih a (by simp [ha])
  have hok:=z5v z a
  rw [he,hfl,ha]
  simp only [evK,flK,if_pos k1,rEvs,z6j,List.getD_cons_zero]
  rw [i1,zz7 hok.1.1]
  refine ⟨rfl,?_⟩
  simp only [actF,succF,up] at *
  refine ⟨fun h=>?_,fun h=>?_,fun h=>?_,fun h=>?_⟩<;>(split at h<;>first | omega | (exfalso;omega))
 ·by_cases k2:t.kind=2
  ·obtain ⟨a,b,ha⟩:=ar2 hw (.inl k2)
   obtain ⟨i1,i2⟩:=ih a (by simp [ha])
   obtain ⟨j1,j2⟩:=ih b (by simp [ha])
   rw [he,hfl,ha]
   simp only [evK,flK,if_neg k1,if_pos k2,rEvs,z6j,List.getD_cons_zero,List.getD_cons_succ]
   rw [i1,j1,zw8 hx0.1 hx1.1 hx2.1 hx3.1]
   refine ⟨rfl,?_⟩
   simp only [actF,maxF] at *
   omega
  ·by_cases k3:t.kind=3
   ·obtain ⟨a,b,ha⟩:=ar2 hw (.inr k3)
    obtain ⟨i1,i2⟩:=ih a (by simp [ha])
    obtain ⟨j1,j2⟩:=ih b (by simp [ha])
    have hz:=zz2i (z5v z b) j2
    rw [he,hfl,ha]
    simp only [evK,flK,if_neg k1,if_neg k2,if_pos k3,rEvs,z6j,List.getD_cons_zero,List.getD_cons_succ]
    rw [i1,j1]
    by_cases h0:flatF z b=flat0
    ·rw [if_pos (hz.2 h0),if_pos h0]
     exact ⟨(zcu ..).symm,by simp [actF,flat0]⟩
    ·rw [if_neg (fun h=>h0 (hz.1 h)),if_neg h0,zw8 hx0.1 hx1.1 hx2.1 hx3.1]
     refine ⟨rfl,?_⟩
     simp only [actF,maxF] at *
     omega
   ·by_cases k4:t.kind=4
    ·have hn:=(zbi hw).2.1
     have hn':0<=t.n/\t.n<4:=by
      by_cases h:t.n<0\/t.n≥4
      . exact absurd ⟨k4,h⟩ hn
      . omega
     rw [he,hfl]
     simp only [evK,flK,if_neg k1,if_neg k2,if_neg k3,if_pos k4]
     simp only [fitZ] at hf
     rcases (by omega:t.n=0\/t.n=1\/t.n=2\/t.n=3) with h | h | h | h <;>
      (rw [h];simp only [List.length_cons,List.length_nil]
       by_cases hb:bitF z t.n=0
       . rw [h] at hb
         simp only [hb,and_true]
         rw [if_pos (by omega),if_pos (by omega)]
         constructor
         ·simp [valF,setF,shr];omega
         ·simp [actF,setF];omega
       . rw [h] at hb
         rw [if_pos (by omega),if_neg (fun q=>hb q.2.2)]
         constructor
         ·rw [zcu];simp;omega
         ·simp [actF,flat0])
    ·rw [he,hfl]
     simp only [evK,flK,if_neg k1,if_neg k2,if_neg k3,if_neg k4]
     exact ⟨(zcu ..).symm,by simp [actF,flat0]⟩
termination_by SizeOf.sizeOf t
decreasing_by exact Lvl.lt ha
def zOf (x0 x1 x2 x3:Int):Int:=(if x0=0 then 1 else 0)+(if x1=0 then 2 else 0)+(if x2=0 then 4 else 0)+(if x3=0 then 8 else 0)
theorem zz2j {x0 x1 x2 x3:Int} (h:inX x0 x1 x2 x3):fitZ (zOf x0 x1 x2 x3) x0 x1 x2 x3/\0<=zOf x0 x1 x2 x3/\zOf x0 x1 x2 x3<16:=by
 obtain ⟨h0,h1,h2,h3⟩:=h
 unfold zOf fitZ bitF
 by_cases e0:x0=0<;>by_cases e1:x1=0<;>by_cases e2:x2=0<;>by_cases e3:x3=0 <;>
  simp only [e0,e1,e2,e3,if_true,if_false]<;>simp<;>omega
theorem zcv {p q x:Int} (h:p<=q) (hx:0<=x):shr p x<=shr q x:=by unfold shr;split<;>split<;>omega
theorem z9d {c p:Int} (hc:0<=c):lsU c p=max c (shr p 1):=by unfold lsU shr;split<;>omega
theorem zlk {f:Flat} (hb:0<=f.b):zgz f=valF f 1 1 1 1:=by
 unfold zgz valF
 have n0:0<=lsU f.b f.p0:=by rw [z9d hb];omega
 have n1:0<=lsU (lsU f.b f.p0) f.p1:=by rw [z9d n0];omega
 have n2:0<=lsU (lsU (lsU f.b f.p0) f.p1) f.p2:=by rw [z9d n1];omega
 rw [z9d n2,z9d n1,z9d n0,z9d hb]
theorem zz8 {f:Flat} {x0 x1 x2 x3:Int} (hb:0<=f.b) (ha:actF f x0 x1 x2 x3):zgz f<=valF f x0 x1 x2 x3:=by
 rw [zlk hb]
 have key:∀ p x:Int,(p≥0->1<=x)->shr p 1<=shr p x:=fun p x h=>by
  by_cases hp:p≥0
  ·rw [z6b hp,z6b hp];have:=h hp;omega
  ·rw [zw9 hp,zw9 hp];omega
 have hg:=zak f x0 x1 x2 x3
 obtain ⟨a0,a1,a2,a3⟩:=ha
 exact zey hg.1 (Int.le_trans (key _ _ a0) hg.2.1) (Int.le_trans (key _ _ a1) hg.2.2.1) (Int.le_trans (key _ _ a2) hg.2.2.2.1) (Int.le_trans (key _ _ a3) hg.2.2.2.2)
theorem zwa {f g:Flat} {x0 x1 x2 x3:Int} (hx:inX x0 x1 x2 x3) (hb:0<=g.b) (ha:actF g x0 x1 x2 x3) (h:zc5 f g=true):valF f x0 x1 x2 x3<=valF g x0 x1 x2 x3:=by
 obtain ⟨h0,h1,h2,h3,h4⟩:=of_decide_eq_true h
 have hg:=zak g x0 x1 x2 x3
 have hl:=zz8 hb ha
 obtain ⟨y0,y1,y2,y3⟩:=hx
 exact zey (by omega) (Int.le_trans (zcv h0 y0.1) hg.2.1) (Int.le_trans (zcv h1 y1.1) hg.2.2.1) (Int.le_trans (zcv h2 y2.1) hg.2.2.2.1) (Int.le_trans (zcv h3 y3.1) hg.2.2.2.2)
theorem zwb {a b:Lvl} (hwa:wfL a=true) (hwb:wfL b=true) (h:leqF a b=true) {x0 x1 x2 x3:Int} (hx:inX x0 x1 x2 x3):rEvF [x0,x1,x2,x3] a<=rEvF [x0,x1,x2,x3] b:=by
 obtain ⟨hf,z0,z1⟩:=zz2j hx
 obtain ⟨i1,i2⟩:=z7r _ x0 x1 x2 x3 hf hx a hwa
 obtain ⟨j1,j2⟩:=z7r _ x0 x1 x2 x3 hf hx b hwb
 rw [i1,j1]
 have hm:=List.all_eq_true.1 h (zOf x0 x1 x2 x3).toNat (by rw [List.mem_range'];exact ⟨(zOf x0 x1 x2 x3).toNat,by omega,by omega⟩)
 rw [show (((zOf x0 x1 x2 x3).toNat:Nat):Int)=zOf x0 x1 x2 x3 by omega] at hm
 exact zwa hx (z5v _ b).1.1 j2 hm
def isP (x:Int):Prop:=x=0\/x=1\/x=1000
theorem co {q c e:Int} (d:c=0\/c=1) (u:q=0->c=1) (v:q≠0->c=0) (k:e=c\/e=1000 * c):(q=0->1<=e)/\(q≠0->e=0)/\(0<=e/\e<=1099511627776)/\isP e:=by
 refine ⟨fun h=>?_,fun h=>?_,?_⟩
 ·have:=u h;omega
 ·have:=v h;omega
 ·unfold isP;omega
theorem z2h {p x:Int} (hp:p<=900) (hx:x<=1):shr p x<=901:=by unfold shr;split<;>omega
theorem zj7 {p P:Int} (h:p<P) (hP:0<=P):shr p 1000<=P+999:=by unfold shr;split<;>omega
theorem zqk (q:Int):∃ c:Int,(c=0\/c=1)/\(q=0->c=1)/\(q≠0->c=0):=by
 by_cases hq:q=0
 ·exact ⟨1,.inr rfl,fun _=>rfl,fun h=>absurd hq h⟩
 ·exact ⟨0,.inl rfl,fun h=>absurd h hq,fun _=>rfl⟩
def Both (f g:Flat) (c0 c1 c2 c3:Int):Prop:=∀ e0 e1 e2 e3:Int,(e0=c0\/e0=1000 * c0)->(e1=c1\/e1=1000 * c1)->(e2=c2\/e2=1000 * c2)->(e3=c3\/e3=1000 * c3) ->
 valF f e0 e1 e2 e3<=valF g e0 e1 e2 e3/\actF f e0 e1 e2 e3
theorem cmp0 {f g:Flat} {c0 c1 c2 c3:Int} (hf:f.ok 900) (hg:g.ok 900) (h:Both f g c0 c1 c2 c3) (d0:c0=0\/c0=1) (d1:c1=0\/c1=1) (d2:c2=0\/c2=1) (d3:c3=0\/c3=1):f.p0<=g.p0:=by
 rcases Int.lt_or_le g.p0 f.p0 with hlt | hle
 ·exfalso
  obtain ⟨q1,q2⟩:=h (1000 * c0) c1 c2 c3 (.inr rfl) (.inl rfl) (.inl rfl) (.inl rfl)
  obtain ⟨b0,b1,b2,b3,b4⟩:=hg
  have hp:f.p0≥0:=by omega
  have hact:c0=1:=by have:=q2.1 hp;omega
  have e:1000 * c0=1000:=by omega
  rw [e] at q1
  have k1:=(zak f 1000 c1 c2 c3).2.1
  rw [z6b hp] at k1
  have k2:valF g 1000 c1 c2 c3<=f.p0+999:=zey (by omega) (zj7 hlt hp) (Int.le_trans (z2h b2.2 (by omega)) (by omega)) (Int.le_trans (z2h b3.2 (by omega)) (by omega)) (Int.le_trans (z2h b4.2 (by omega)) (by omega))
  omega
 ·exact hle
theorem cmp1 {f g:Flat} {c0 c1 c2 c3:Int} (hf:f.ok 900) (hg:g.ok 900) (h:Both f g c0 c1 c2 c3) (d0:c0=0\/c0=1) (d1:c1=0\/c1=1) (d2:c2=0\/c2=1) (d3:c3=0\/c3=1):f.p1<=g.p1:=by
 rcases Int.lt_or_le g.p1 f.p1 with hlt | hle
 ·exfalso
  obtain ⟨q1,q2⟩:=h c0 (1000 * c1) c2 c3 (.inl rfl) (.inr rfl) (.inl rfl) (.inl rfl)
  obtain ⟨b0,b1,b2,b3,b4⟩:=hg
  have hp:f.p1≥0:=by omega
  have hact:c1=1:=by have:=q2.2.1 hp;omega
  have e:1000 * c1=1000:=by omega
  rw [e] at q1
  have k1:=(zak f c0 1000 c2 c3).2.2.1
  rw [z6b hp] at k1
  have k2:valF g c0 1000 c2 c3<=f.p1+999:=zey (by omega) (Int.le_trans (z2h b1.2 (by omega)) (by omega)) (zj7 hlt hp) (Int.le_trans (z2h b3.2 (by omega)) (by omega)) (Int.le_trans (z2h b4.2 (by omega)) (by omega))
  omega
 ·exact hle
theorem cmp2 {f g:Flat} {c0 c1 c2 c3:Int} (hf:f.ok 900) (hg:g.ok 900) (h:Both f g c0 c1 c2 c3) (d0:c0=0\/c0=1) (d1:c1=0\/c1=1) (d2:c2=0\/c2=1) (d3:c3=0\/c3=1):f.p2<=g.p2:=by
 rcases Int.lt_or_le g.p2 f.p2 with hlt | hle
 ·exfalso
  obtain ⟨q1,q2⟩:=h c0 c1 (1000 * c2) c3 (.inl rfl) (.inl rfl) (.inr rfl) (.inl rfl)
  obtain ⟨b0,b1,b2,b3,b4⟩:=hg
  have hp:f.p2≥0:=by omega
  have hact:c2=1:=by have:=q2.2.2.1 hp;omega
  have e:1000 * c2=1000:=by omega
  rw [e] at q1
  have k1:=(zak f c0 c1 1000 c3).2.2.2.1
  rw [z6b hp] at k1
  have k2:valF g c0 c1 1000 c3<=f.p2+999:=zey (by omega) (Int.le_trans (z2h b1.2 (by omega)) (by omega)) (Int.le_trans (z2h b2.2 (by omega)) (by omega)) (zj7 hlt hp) (Int.le_trans (z2h b4.2 (by omega)) (by omega))
  omega
 ·exact hle
theorem cmp3 {f g:Flat} {c0 c1 c2 c3:Int} (hf:f.ok 900) (hg:g.ok 900) (h:Both f g c0 c1 c2 c3) (d0:c0=0\/c0=1) (d1:c1=0\/c1=1) (d2:c2=0\/c2=1) (d3:c3=0\/c3=1):f.p3<=g.p3:=by
 rcases Int.lt_or_le g.p3 f.p3 with hlt | hle
 ·exfalso
  obtain ⟨q1,q2⟩:=h c0 c1 c2 (1000 * c3) (.inl rfl) (.inl rfl) (.inl rfl) (.inr rfl)
  obtain ⟨b0,b1,b2,b3,b4⟩:=hg
  have hp:f.p3≥0:=by omega
  have hact:c3=1:=by have:=q2.2.2.2 hp;omega
  have e:1000 * c3=1000:=by omega
  rw [e] at q1
  have k1:=(zak f c0 c1 c2 1000).2.2.2.2
  rw [z6b hp] at k1
  have k2:valF g c0 c1 c2 1000<=f.p3+999:=zey (by omega) (Int.le_trans (z2h b1.2 (by omega)) (by omega)) (Int.le_trans (z2h b2.2 (by omega)) (by omega)) (Int.le_trans (z2h b3.2 (by omega)) (by omega)) (zj7 hlt hp)
  omega
 ·exact hle
theorem cmpB {f g:Flat} {c0 c1 c2 c3:Int} (hf:f.ok 900) (hg:g.ok 900) (h:Both f g c0 c1 c2 c3) (d0:c0=0\/c0=1) (d1:c1=0\/c1=1) (d2:c2=0\/c2=1) (d3:c3=0\/c3=1):f.b<=zgz g:=by
 obtain ⟨q1,q2⟩:=h c0 c1 c2 c3 (.inl rfl) (.inl rfl) (.inl rfl) (.inl rfl)
 rw [zlk hg.1.1]
 have k1:=(zak f c0 c1 c2 c3).1
 have key:∀ p c:Int,(c=0\/c=1)->shr p c<=shr p 1:=fun p c hc=>by unfold shr;split<;>omega
 have k2:=zak g 1 1 1 1
 have k3:valF g c0 c1 c2 c3<=valF g 1 1 1 1 :=
  zey k2.1 (Int.le_trans (key _ _ d0) k2.2.1) (Int.le_trans (key _ _ d1) k2.2.2.1) (Int.le_trans (key _ _ d2) k2.2.2.2.1) (Int.le_trans (key _ _ d3) k2.2.2.2.2)
 omega
theorem zll {a b:Lvl} (hwa:wfL a=true) (hwb:wfL b=true) (hda:depL a<=900) (hdb:depL b<=900)
  (h:∀ x0 x1 x2 x3:Int,isP x0->isP x1->isP x2->isP x3->rEvF [x0,x1,x2,x3] a<=rEvF [x0,x1,x2,x3] b):leqF a b=true:=by
 refine List.all_eq_true.2 fun zn hz=>?_
 generalize (zn:Int)=z
 have hf:=Flat.ok_mono (m':=900) (z5v z a) (by omega)
 have hg:=Flat.ok_mono (m':=900) (z5v z b) (by omega)
 obtain ⟨c0,d0,u0,v0⟩:=zqk (bitF z 0)
 obtain ⟨c1,d1,u1,v1⟩:=zqk (bitF z 1)
 obtain ⟨c2,d2,u2,v2⟩:=zqk (bitF z 2)
 obtain ⟨c3,d3,u3,v3⟩:=zqk (bitF z 3)
 have hB:Both (flatF z a) (flatF z b) c0 c1 c2 c3:=fun e0 e1 e2 e3 k0 k1 k2 k3=>by
  obtain ⟨s0,t0,r0,p0⟩:=co d0 u0 v0 k0
  obtain ⟨s1,t1,r1,p1⟩:=co d1 u1 v1 k1
  obtain ⟨s2,t2,r2,p2⟩:=co d2 u2 v2 k2
  obtain ⟨s3,t3,r3,p3⟩:=co d3 u3 v3 k3
  have hfit:fitZ z e0 e1 e2 e3:=⟨s0,s1,s2,s3,t0,t1,t2,t3⟩
  have hin:inX e0 e1 e2 e3:=⟨r0,r1,r2,r3⟩
  obtain ⟨i1,i2⟩:=z7r z e0 e1 e2 e3 hfit hin a hwa
  obtain ⟨j1,j2⟩:=z7r z e0 e1 e2 e3 hfit hin b hwb
  have:=h e0 e1 e2 e3 p0 p1 p2 p3
  rw [i1,j1] at this
  exact ⟨this,i2⟩
 exact decide_eq_true ⟨cmp0 hf hg hB d0 d1 d2 d3,cmp1 hf hg hB d0 d1 d2 d3,cmp2 hf hg hB d0 d1 d2 d3,cmp3 hf hg hB d0 d1 d2 d3,cmpB hf hg hB d0 d1 d2 d3⟩
theorem zz2k {a b:Lvl} (hwa:wfL a=true) (hwb:wfL b=true) (hda:depL a<=900) (hdb:depL b<=900) :
  leqF a b=true↔∀ x0 x1 x2 x3:Int,isP x0->isP x1->isP x2->isP x3->rEvF [x0,x1,x2,x3] a<=rEvF [x0,x1,x2,x3] b:=by
 refine ⟨fun h x0 x1 x2 x3 p0 p1 p2 p3=>zwb hwa hwb h ?_,zll hwa hwb hda hdb⟩
 unfold isP at p0 p1 p2 p3
 exact ⟨by omega,by omega,by omega,by omega⟩
theorem zj8 {n:Nat} {l:List Int} {x:Int} (h:l∈plcs n) (hx:isP x):l++[x]∈plcs (n+1):=by
 simp only [plcs,List.mem_flatMap]
 refine ⟨l,h,?_⟩
 rcases hx with rfl | rfl | rfl<;>simp
theorem zwc {x0 x1 x2 x3:Int} (h0:isP x0) (h1:isP x1) (h2:isP x2) (h3:isP x3):[x0,x1,x2,x3]∈plcs 4 :=
 zj8 (l:=[x0,x1,x2]) (zj8 (l:=[x0,x1]) (zj8 (l:=[x0]) (zj8 (l:=[]) (by simp [plcs]) h0) h1) h2) h3
theorem zwd:∀ (n:Nat) (l:List Int),l∈plcs n->l.length=n/\∀ x∈l,isP x
 | 0,l,h=>by simp [plcs] at h;subst h;simp
 | n+1,l,h=>by
   simp only [plcs,List.mem_flatMap] at h
   obtain ⟨m,h1,h2⟩:=h
   obtain ⟨h3,h4⟩:=zwd n m h1
   simp only [List.mem_cons,List.not_mem_nil,or_false] at h2
   rcases h2 with rfl | rfl | rfl<;>(refine ⟨by simp [h3],fun x hx=>?_⟩;rcases List.mem_append.1 hx with hx | hx;exact h4 x hx;simp at hx;subst hx;simp [isP])
theorem zz3t {l:List Int} (h:l∈plcs 4):∃ x0 x1 x2 x3,l=[x0,x1,x2,x3]/\isP x0/\isP x1/\isP x2/\isP x3:=by
 obtain ⟨hl,hp⟩:=zwd 4 l h
 match l,hl with
 | [x0,x1,x2,x3],_=>exact ⟨x0,x1,x2,x3,rfl,hp x0 (by simp),hp x1 (by simp),hp x2 (by simp),hp x3 (by simp)⟩
theorem zsp {a b:Lvl} (hwa:wfL a=true) (hwb:wfL b=true) (hda:depL a<=900) (hdb:depL b<=900):leqF a b=rLeqF a b:=by
 have h:=zz2k hwa hwb hda hdb
 cases hb:rLeqF a b with
 | true =>
   unfold rLeqF at hb
   refine h.2 fun x0 x1 x2 x3 p0 p1 p2 p3=>?_
   have:=of_decide_eq_true (List.all_eq_true.1 hb _ (zwc p0 p1 p2 p3))
   omega
 | false =>
   cases hc:leqF a b with
   | false=>rfl
   | true =>
     have h1:=h.1 hc
     have:rLeqF a b=true:=List.all_eq_true.2 fun l hl=>by
      obtain ⟨x0,x1,x2,x3,rfl,p0,p1,p2,p3⟩:=zz3t hl
      have:=h1 x0 x1 x2 x3 p0 p1 p2 p3
      exact decide_eq_true (by omega)
     rw [hb] at this;cases this
end Go.Ab
namespace Go.Ab
open Go Go.RowKit
def medL (l:Lvl):Bool:=decide (prtL l<=100000)&&decide (depL l<=900)
def lG (l:Lvl):Bool:=wfL l&&medL l
structure LG (l:Lvl):Prop where
 w:wfL l=true
 d:depL l<=900
 p:prtL l<=100000
theorem zh0 {l:Lvl} (h:lG l=true):LG l:=by
 simp only [lG,medL,Bool.and_eq_true,decide_eq_true_eq] at h;exact ⟨h.1,h.2.2,h.2.1⟩
theorem LG.whol {l:Lvl} (h:LG l):wholL 4 l (33-depL l)=true:=(zj3 l _).2 ⟨h.w,by omega⟩
def pG (k:Int) (s:ByteArray) (ls:List Lvl):Bool:=ls.all lG
def lvT (t:Trm):Bool:=allN pG t
def pL (k:Int) (s:ByteArray) (ls:List Lvl):Bool:=ls.all wfL
def pS (k:Int) (s:ByteArray) (ls:List Lvl):Bool:=ls.all medL
theorem pL_np:NP pL where
 own k h1 h2:=rfl
 put k s ls k' s' b h hb:=by
  simp only [pL,List.all_eq_true] at h hb ⊢
  intro x hx
  rw [z1t] at hx
  obtain ⟨y,hy,rfl⟩:=List.mem_map.1 hx
  exact zz09 hb y (h y hy)
theorem pS_no:NO pS:=⟨fun k h1 h2=>rfl⟩
theorem zcw {p q r:Int->ByteArray->List Lvl->Bool} (h:∀ k s ls,p k s ls=true->q k s ls=true->r k s ls=true):∀ t:Trm,allN p t=true->allN q t=true->allN r t=true
 | ⟨k,n,s,ls,l⟩,h1,h2=>z7p (h _ _ _ (z5l h1) (z5l h2)) fun a ha=>zcw h a (z2s h1 ha) (z2s h2 ha)
termination_by t=>SizeOf.sizeOf t
decreasing_by exact Trm.lt (t:=⟨k,n,s,ls,l⟩) ha
theorem zwe:∀ t:Trm,smlT t=true->allN pS t=true
 | ⟨k,n,s,ls,l⟩,h=>by
   rw [znq,Bool.and_eq_true,za9,List.all_eq_true,List.all_eq_true] at h
   refine z7p ?_ fun a ha=>zwe a (h.2 a ha)
   simp only [pS,List.all_eq_true]
   intro x hx
   have:=h.1 x hx
   simp only [smlL,Bool.and_eq_true,decide_eq_true_eq] at this
   simp only [medL,Bool.and_eq_true,decide_eq_true_eq]
   omega
termination_by t=>SizeOf.sizeOf t
decreasing_by exact Trm.lt (t:=⟨k,n,s,ls,l⟩) ha
theorem zj9 {t a:Trm} (h:lvT t=true) (ha:a∈t.args):lvT a=true:=z2s h ha
theorem zbj {t:Trm} (h:lvT t=true):∀ l∈t.levels,lG l=true:=List.all_eq_true.1 (z5l h)
theorem zz3u {ds:List Dcl} {c:Int} {wh:Trm->Int->Option WR} {t:Trm} {f:Int} {u:Trm} {f':Int} (h:onF ds c wh t f=some (u,true,f',0)):smlT u=true:=by
 have md:∀ {x f},mdF c f x=some (u,true,f',0)->smlT u=true:=fun {x f} h=>by
  unfold mdF at h
  split at h
  ·cases h
  ·split at h
   ·split at h
    ·rename_i hf;cases h;simp only [fitsT,Bool.and_eq_true] at hf;exact hf.2
    ·cases h
   ·cases h
 unfold onF at h
 split at h
 ·exact md h
 ·split at h
  ·exact md h
  ·split at h
   ·split at h
    ·cases h
    ·split at h
     ·exact md h
     ·split at h
      ·cases h
      ·split at h
       ·split at h
        ·cases h
        ·split at h
         ·cases h
         ·split at h
          ·exact md h
          ·cases h
       ·cases h
   ·cases h
theorem zz0a {ds:List Dcl} {c:Int}:∀ (g:Nat) (t:Trm) (f:Int) (u:Trm) (f':Int),allN pS t=true->whF ds c g t f=some (u,f',0)->allN pS u=true
 | 0,_,_,_,_,_,h=>by cases h
 | g + 1,t,f,u,f',ht,h=>by
   simp only [whF] at h
   split at h
   ·cases h
   ·rename_i u1 did f1 e ho
    split at h
    ·rename_i he;cases h;exact absurd rfl he
    ·rename_i he
     have he0:e=0:=Classical.byContradiction fun hn=>he hn
     subst he0
     split at h
     ·rename_i hd
      exact zz0a g u1 f1 u f' (zwe _ (zz3u (hd▸ho))) h
     ·rename_i hd
      have:did=false:=by cases did;rfl;exact absurd rfl hd
      subst this
      cases h
      rw [zco ho];exact ht
structure LOK (t:Trm):Prop where
 w:allN pL t=true
 s:allN pS t=true
theorem LOK.lv {t:Trm} (h:LOK t):lvT t=true:=zcw (fun k s ls h1 h2=>by
 simp only [pL,pS,pG,List.all_eq_true] at *
 exact fun x hx=>by simp only [lG,Bool.and_eq_true];exact ⟨h1 x hx,h2 x hx⟩) t h.w h.s
theorem LOK.sub {t a:Trm} (h:LOK t) (ha:a∈t.args):LOK a:=⟨z2s h.w ha,z2s h.s ha⟩
theorem LOK.head {t:Trm} (h:LOK t):LOK (headT t):=⟨zes h.w,zes h.s⟩
theorem LOK.args {t:Trm} (h:LOK t):∀ a∈argsT t,LOK a:=fun a ha=>⟨z7q h.w a ha,z7q h.s a ha⟩
theorem LOK.mkA {a b:Trm} (h:LOK a) (k:LOK b):LOK (Ab.mkA a b):=⟨z4v pL_np.toNO h.w k.w,z4v pS_no h.s k.s⟩
theorem LOK.ovr {t:Trm} (h:LOK t):LOK (ovrT t):=LOK.mkA ⟨z6v h.w 1 0,z6v h.s 1 0⟩ ⟨rfl,rfl⟩
theorem LOK.wh {ds:List Dcl} (hE:EnvA pL ds) {c:Int} {g:Nat} {t:Trm} {f:Int} {u:Trm} {f':Int} (h:LOK t) (hw:whF ds c g t f=some (u,f',0)):LOK u :=
 ⟨zw0 pL_np hE g t f _ h.w hw,zz0a g t f u f' h.s hw⟩
def ltB (t:Trm):Bool:=allN pL t&&allN pS t
theorem zbk {t:Trm} (h:ltB t=true):LOK t:=by
 simp only [ltB,Bool.and_eq_true] at h;exact ⟨h.1,h.2⟩
end Go.Ab
namespace Go.Ab.YtpneaijfkefeaaaGreat
open Go Go.RowKit Go.Ab Go.Proofs
def fl (f:Flat):AV:=.ag [.p (I f.b),.p (I f.p0),.p (I f.p1),.p (I f.p2),.p (I f.p3)]
def mix (k:Nat) (a b:List Int):List AV:=(a.take k++b.drop k).map fun z=>.p (I z)
theorem k5 {k:Nat} (h:k<=4):k=0\/k=1\/k=2\/k=3\/k=4:=by omega
theorem zwf (k:Int):PCon Tryz.prog 220 [.p (I k)] (.p (I (argL k))):=by
 refine cv [] [] [] Tryz.func220 12 Tryz.ntmps220 rfl rfl fun cx hE=>?_
 repeat' (first | refine brS (fun _=>?_) (fun _=>?_) | refine fun _=>?_)
 all_goals exact ⟨I_eq (by unfold argL;repeat' (first | omega | split)),rfl⟩
set_option maxHeartbeats 4000000 in
theorem zez:PCon Tryz.prog 219 [] (fl flat0):=by
 refine cv [] [] [] Tryz.func219 12 Tryz.ntmps219 rfl rfl fun cx hE=>?_
 refine loop1 (fun (k:Nat)=>[(4,.p (I k))]) (fun k=>[(1,.ce 213 (.p (I 0)::mix k [-1,-1,-1,-1] [0,0,0,0]))]) (fun k=>k<=4) (fun k=>4-k) 0 [4] [1] hE rfl rfl rfl ⟨Sub.refl _,rfl,rfl,trivial⟩ (by omega) fun k hk=>?_
 rcases k5 hk with rfl | rfl | rfl | rfl | rfl
 ·exact brS (fun _=>And.intro (by omega) (And.intro (by omega) ⟨1,by omega,by omega,Sub.i (by simp),rfl,rfl,trivial⟩)) (fun h=>absurd h (by decide))
 ·exact brS (fun _=>And.intro (by omega) (And.intro (by omega) ⟨2,by omega,by omega,Sub.i (by simp),rfl,rfl,trivial⟩)) (fun h=>absurd h (by decide))
 ·exact brS (fun _=>And.intro (by omega) (And.intro (by omega) ⟨3,by omega,by omega,Sub.i (by simp),rfl,rfl,trivial⟩)) (fun h=>absurd h (by decide))
 ·exact brS (fun _=>And.intro (by omega) (And.intro (by omega) ⟨4,by omega,by omega,Sub.i (by simp),rfl,rfl,trivial⟩)) (fun h=>absurd h (by decide))
 ·exact brS (fun h=>absurd h (by decide)) (fun _=>⟨rfl,rfl⟩)
theorem zz9 (f:Flat):PCon Tryz.prog 221 [fl f] (.p (B (decide (f=flat0)))):=by
 refine cv [] [] [] Tryz.func221 6 Tryz.ntmps221 rfl rfl fun cx hE=>call0 zez ⟨B_eq ?_,rfl⟩
 cases f;simp [flat0]
def lstK (f:Flat) (k:Nat):Int:=([f.p0,f.p1,f.p2,f.p3].take k).foldl lsU f.b
set_option maxHeartbeats 4000000 in
theorem zwg (f:Flat) (hf:f.ok 1000000):PCon Tryz.prog 222 [fl f] (.p (I (zgz f))):=by
 obtain ⟨_,h0,h1,h2,h3⟩:=hf
 refine cv [] [] [] Tryz.func222 21 Tryz.ntmps222 rfl rfl fun cx hE=>?_
 refine loop1 (fun (k:Nat)=>[(10,.p (I k)),(3,.p (I (lstK f k)))]) (fun k=>[]) (fun k=>k<=4) (fun k=>4-k) 0 [10,3] [] hE rfl rfl rfl ⟨Sub.refl _,Sub.refl _,rfl,trivial⟩ (by omega) fun k hk=>?_
 rcases k5 hk with rfl | rfl | rfl | rfl | rfl
 ·exact brS (fun _=>And.intro (by omega) (brS (fun h=>And.intro (by omega) (And.intro (by omega) ⟨1,by omega,by omega,Sub.i (by simp),Sub.i (zj4 h),rfl,trivial⟩)) (fun h=>And.intro (by omega) ⟨1,by omega,by omega,Sub.i (by simp),Sub.i (zj5 h),rfl,trivial⟩))) (fun h=>absurd h (by decide))
 ·exact brS (fun _=>And.intro (by omega) (brS (fun h=>And.intro (by omega) (And.intro (by omega) ⟨2,by omega,by omega,Sub.i (by simp),Sub.i (zj4 h),rfl,trivial⟩)) (fun h=>And.intro (by omega) ⟨2,by omega,by omega,Sub.i (by simp),Sub.i (zj5 h),rfl,trivial⟩))) (fun h=>absurd h (by decide))
 ·exact brS (fun _=>And.intro (by omega) (brS (fun h=>And.intro (by omega) (And.intro (by omega) ⟨3,by omega,by omega,Sub.i (by simp),Sub.i (zj4 h),rfl,trivial⟩)) (fun h=>And.intro (by omega) ⟨3,by omega,by omega,Sub.i (by simp),Sub.i (zj5 h),rfl,trivial⟩))) (fun h=>absurd h (by decide))
 ·exact brS (fun _=>And.intro (by omega) (brS (fun h=>And.intro (by omega) (And.intro (by omega) ⟨4,by omega,by omega,Sub.i (by simp),Sub.i (zj4 h),rfl,trivial⟩)) (fun h=>And.intro (by omega) ⟨4,by omega,by omega,Sub.i (by simp),Sub.i (zj5 h),rfl,trivial⟩))) (fun h=>absurd h (by decide))
 ·exact brS (fun h=>absurd h (by decide)) (fun _=>⟨rfl,rfl⟩)
set_option maxHeartbeats 4000000 in
theorem zwh (f o:Flat) (ho:o.ok 1000000):PCon Tryz.prog 190 [fl f,fl o] (.p (B (zc5 f o))):=by
 refine cv [] [] [] Tryz.func190 25 Tryz.ntmps190 rfl rfl fun cx hE=>?_
 refine loop1 (fun (k:Nat)=>[(9,.p (I k))]) (fun k=>[]) (fun k=>k<=4/\(0<k->f.p0<=o.p0)/\(1<k->f.p1<=o.p1)/\(2<k->f.p2<=o.p2)/\(3<k->f.p3<=o.p3)) (fun k=>4-k) 0 [9] [] hE rfl rfl rfl ⟨Sub.refl _,rfl,rfl,trivial⟩ (by omega) fun k ⟨hk,g0,g1,g2,g3⟩=>?_
 have no:¬ (f.p0<=o.p0/\f.p1<=o.p1/\f.p2<=o.p2/\f.p3<=o.p3)->false=zc5 f o:=fun h=>(decide_eq_false fun hb=>h ⟨hb.1,hb.2.1,hb.2.2.1,hb.2.2.2.1⟩).symm
 rcases k5 hk with rfl | rfl | rfl | rfl | rfl
 ·exact brS (fun _=>And.intro (by omega) (And.intro (by omega) (brS (fun h=>⟨B_eq (no (by omega)),rfl⟩) (fun h=>And.intro (by omega) ⟨1,by omega,by omega,Sub.i (by simp),rfl,rfl,trivial⟩)))) (fun h=>absurd h (by decide))
 ·exact brS (fun _=>And.intro (by omega) (And.intro (by omega) (brS (fun h=>⟨B_eq (no (by omega)),rfl⟩) (fun h=>And.intro (by omega) ⟨2,by omega,by omega,Sub.i (by simp),rfl,rfl,trivial⟩)))) (fun h=>absurd h (by decide))
 ·exact brS (fun _=>And.intro (by omega) (And.intro (by omega) (brS (fun h=>⟨B_eq (no (by omega)),rfl⟩) (fun h=>And.intro (by omega) ⟨3,by omega,by omega,Sub.i (by simp),rfl,rfl,trivial⟩)))) (fun h=>absurd h (by decide))
 ·exact brS (fun _=>And.intro (by omega) (And.intro (by omega) (brS (fun h=>⟨B_eq (no (by omega)),rfl⟩) (fun h=>And.intro (by omega) ⟨4,by omega,by omega,Sub.i (by simp),rfl,rfl,trivial⟩)))) (fun h=>absurd h (by decide))
 ·refine brS (fun h=>absurd h (by decide)) (fun _=>call0 (zwg o ho) ⟨B_eq ?_,rfl⟩)
  unfold zc5;congr 1;apply propext;omega
theorem ce_of {T:Nat} {a b:List AV} (h:a=b):Ob.ce T a=Ob.ce T b:=by rw [h]
theorem zql {p:Int} (h:p≥0):p+1=up p:=by unfold up;rw [if_pos h]
theorem zqm {p:Int} (h:¬ p≥0):p=up p:=by unfold up;rw [if_neg h]
set_option maxHeartbeats 16000000 in
theorem zf0 (z:Int) (hz:0<=z/\z<16) (t:Lvl):wfL t=true->depL t<=1000->PCon Tryz.prog 189 [lv t,.p (I z)] (fl (flatF z t)):=by
 intro hw hdp
 have ih:∀ a∈t.args,PCon Tryz.prog 189 [lv a,.p (I z)] (fl (flatF z a)):=fun a ha=>zf0 z hz a (zw6 hw ha) (by have:=zex ha;have:=zii t;omega)
 have hfo:∀ a∈t.args,(flatF z a).ok 1000:=fun a ha=>Flat.ok_mono (z5v z a) (by have:=zex ha;have:=zii t;omega)
 have he:=zqj z t
 have hh:=(zbi hw).1
 have hnn:=(zbi hw).2.1
 have hlen:=zp t.args
 refine cv [] [] [] Tryz.func189 118 Tryz.ntmps189 rfl rfl fun cx hE=>call0 zez (call0 (zwf t.kind) (brS (fun h=>by omega) (fun _=>brS (fun k1=>?_) (fun k1=>?_))))
 ·obtain ⟨a,ha⟩:=ar1 hw k1
  have r0:(encLs t.args)[0]?=some (rowL a):=by rw [ha];simp [zr]
  have hm:a∈t.args:=by rw [ha];simp
  have hf:=hfo a hm
  have e:flatF z t=succF (flatF z a):=by rw [he,ha];simp [flK,z6j,k1]
  have hc:=ih a hm
  rw [e]
  generalize flatF z a=f at *
  obtain ⟨hb,h0,h1,h2,h3⟩:=hf
  refine idxN (i:=0) r0 (call0 hc (And.intro (by omega) ?_))
  refine loop1 (fun (k:Nat)=>[(33,.p (I k))]) (fun k=>[(5,.ce 213 (.p (I (f.b+1))::mix k [up f.p0,up f.p1,up f.p2,up f.p3] [f.p0,f.p1,f.p2,f.p3]))]) (fun k=>k<=4) (fun k=>4-k) 0 [33] [5] hE rfl rfl rfl ⟨Sub.refl _,rfl,rfl,rfl,trivial⟩ (by omega) fun k hk=>?_
  rcases k5 hk with rfl | rfl | rfl | rfl | rfl
  ·exact brS (fun _=>And.intro (by omega) (brS (fun h=>And.intro (by omega) (And.intro (by omega) (And.intro (by omega) (And.intro (by omega) ⟨1,by omega,by omega,Sub.i (by simp),ce_of (by rw [<- zql h];rfl),rfl,rfl,trivial⟩)))) (fun h=>And.intro (by omega) ⟨1,by omega,by omega,Sub.i (by simp),ce_of (by rw [<- zqm h];rfl),rfl,rfl,trivial⟩))) (fun h=>absurd h (by decide))
  ·exact brS (fun _=>And.intro (by omega) (brS (fun h=>And.intro (by omega) (And.intro (by omega) (And.intro (by omega) (And.intro (by omega) ⟨2,by omega,by omega,Sub.i (by simp),ce_of (by rw [<- zql h];rfl),rfl,rfl,trivial⟩)))) (fun h=>And.intro (by omega) ⟨2,by omega,by omega,Sub.i (by simp),ce_of (by rw [<- zqm h];rfl),rfl,rfl,trivial⟩))) (fun h=>absurd h (by decide))
  ·exact brS (fun _=>And.intro (by omega) (brS (fun h=>And.intro (by omega) (And.intro (by omega) (And.intro (by omega) (And.intro (by omega) ⟨3,by omega,by omega,Sub.i (by simp),ce_of (by rw [<- zql h];rfl),rfl,rfl,trivial⟩)))) (fun h=>And.intro (by omega) ⟨3,by omega,by omega,Sub.i (by simp),ce_of (by rw [<- zqm h];rfl),rfl,rfl,trivial⟩))) (fun h=>absurd h (by decide))
  ·exact brS (fun _=>And.intro (by omega) (brS (fun h=>And.intro (by omega) (And.intro (by omega) (And.intro (by omega) (And.intro (by omega) ⟨4,by omega,by omega,Sub.i (by simp),ce_of (by rw [<- zql h];rfl),rfl,rfl,trivial⟩)))) (fun h=>And.intro (by omega) ⟨4,by omega,by omega,Sub.i (by simp),ce_of (by rw [<- zqm h];rfl),rfl,rfl,trivial⟩))) (fun h=>absurd h (by decide))
  ·exact brS (fun h=>absurd h (by decide)) (fun _=>⟨rfl,rfl⟩)
 have two:∀ k:Int,t.kind=k->(k=2\/k=3)->∃ a b,t.args=[a,b]/\(encLs t.args)[0]?=some (rowL a)/\(encLs t.args)[1]?=some (rowL b)/\a∈t.args/\b∈t.args:=fun k hk h=>by
  obtain ⟨a,b,ha⟩:=ar2 hw (by omega)
  exact ⟨a,b,ha,by rw [ha];simp [zr],by rw [ha];simp [zr],by rw [ha];simp,by rw [ha];simp⟩
 refine brS (fun k2=>?_) (fun k2=>brS (fun k3=>?_) (fun k3=>?_))
 ·obtain ⟨a,b,ha,r0,r1,ma,mb⟩:=two 2 k2 (.inl rfl)
  have e:flatF z t=maxF (flatF z a) (flatF z b):=by rw [he,ha];simp [flK,z6j,k2]
  have ca:=ih a ma;have cb:=ih b mb
  rw [e]
  generalize flatF z a=f at *
  generalize flatF z b=g at *
  refine idxN (i:=0) r0 (call0 ca (idxN (i:=1) r1 (call0 cb (brS (fun h=>absurd h (by omega)) (fun _=>?_)))))
  refine loop1 (fun (k:Nat)=>[(78,.p (I k))]) (fun k=>[(5,.ce 213 (.p (I (max f.b g.b))::mix k [max f.p0 g.p0,max f.p1 g.p1,max f.p2 g.p2,max f.p3 g.p3] [-1,-1,-1,-1]))]) (fun k=>k<=4) (fun k=>4-k) 0 [78] [5] hE rfl rfl rfl ⟨Sub.refl _,rfl,rfl,rfl,rfl,rfl,trivial⟩ (by omega) fun k hk=>?_
  rcases k5 hk with rfl | rfl | rfl | rfl | rfl
  ·exact brS (fun _=>And.intro (by omega) (And.intro (by omega) (And.intro (by omega) (And.intro (by omega) ⟨1,by omega,by omega,Sub.i (by simp),rfl,rfl,rfl,rfl,rfl,trivial⟩)))) (fun h=>absurd h (by decide))
  ·exact brS (fun _=>And.intro (by omega) (And.intro (by omega) (And.intro (by omega) (And.intro (by omega) ⟨2,by omega,by omega,Sub.i (by simp),rfl,rfl,rfl,rfl,rfl,trivial⟩)))) (fun h=>absurd h (by decide))
  ·exact brS (fun _=>And.intro (by omega) (And.intro (by omega) (And.intro (by omega) (And.intro (by omega) ⟨3,by omega,by omega,Sub.i (by simp),rfl,rfl,rfl,rfl,rfl,trivial⟩)))) (fun h=>absurd h (by decide))
  ·exact brS (fun _=>And.intro (by omega) (And.intro (by omega) (And.intro (by omega) (And.intro (by omega) ⟨4,by omega,by omega,Sub.i (by simp),rfl,rfl,rfl,rfl,rfl,trivial⟩)))) (fun h=>absurd h (by decide))
  ·exact brS (fun h=>absurd h (by decide)) (fun _=>⟨rfl,rfl⟩)
 ·obtain ⟨a,b,ha,r0,r1,ma,mb⟩:=two 3 k3 (.inr rfl)
  have e:flatF z t=if flatF z b=flat0 then flat0 else maxF (flatF z a) (flatF z b):=by rw [he,ha];simp [flK,z6j,k3]
  have ca:=ih a ma;have cb:=ih b mb
  rw [e]
  generalize flatF z a=f at *
  generalize flatF z b=g at *
  refine idxN (i:=0) r0 (call0 ca (idxN (i:=1) r1 (call0 cb (brS (fun _=>call0 (zz9 g) (brS (fun h0=>?_) (fun h0=>?_))) (fun h=>absurd k3 h)))))
  ·rw [if_pos h0];exact ⟨rfl,rfl⟩
  rw [if_neg h0]
  refine loop1 (fun (k:Nat)=>[(78,.p (I k))]) (fun k=>[(5,.ce 213 (.p (I (max f.b g.b))::mix k [max f.p0 g.p0,max f.p1 g.p1,max f.p2 g.p2,max f.p3 g.p3] [-1,-1,-1,-1]))]) (fun k=>k<=4) (fun k=>4-k) 0 [78] [5] hE rfl rfl rfl ⟨Sub.refl _,rfl,rfl,rfl,rfl,rfl,trivial⟩ (by omega) fun k hk=>?_
  rcases k5 hk with rfl | rfl | rfl | rfl | rfl
  ·exact brS (fun _=>And.intro (by omega) (And.intro (by omega) (And.intro (by omega) (And.intro (by omega) ⟨1,by omega,by omega,Sub.i (by simp),rfl,rfl,rfl,rfl,rfl,trivial⟩)))) (fun h=>absurd h (by decide))
  ·exact brS (fun _=>And.intro (by omega) (And.intro (by omega) (And.intro (by omega) (And.intro (by omega) ⟨2,by omega,by omega,Sub.i (by simp),rfl,rfl,rfl,rfl,rfl,trivial⟩)))) (fun h=>absurd h (by decide))
  ·exact brS (fun _=>And.intro (by omega) (And.intro (by omega) (And.intro (by omega) (And.intro (by omega) ⟨3,by omega,by omega,Sub.i (by simp),rfl,rfl,rfl,rfl,rfl,trivial⟩)))) (fun h=>absurd h (by decide))
  ·exact brS (fun _=>And.intro (by omega) (And.intro (by omega) (And.intro (by omega) (And.intro (by omega) ⟨4,by omega,by omega,Sub.i (by simp),rfl,rfl,rfl,rfl,rfl,trivial⟩)))) (fun h=>absurd h (by decide))
  ·exact brS (fun h=>absurd h (by decide)) (fun _=>⟨rfl,rfl⟩)
 ·refine brS (fun k4=>?_) (fun k4=>?_)
  ·obtain ⟨kd,n,l⟩:=t
   simp only at k4 he hnn
   subst k4
   have e:flatF z ⟨4,n,l⟩=if bitF z n=0 then setF n else flat0:=by
    rw [he];unfold flK
    rw [if_neg (by omega),if_neg (by omega),if_neg (by omega),if_pos rfl]
    by_cases hb:bitF z n=0
    ·rw [if_pos hb,if_pos ⟨by omega,by omega,hb⟩]
    ·rw [if_neg hb,if_neg (fun h=>hb h.2.2)]
   rw [e]
   have hb:=zz2h (z:=z) (n:=n) hz
   by_cases hb0:bitF z n=0
   ·rw [if_pos hb0]
    rcases (by omega:n=0\/n=1\/n=2\/n=3) with rfl | rfl | rfl | rfl
    all_goals exact brY (by simp) (brY (by simp) (And.intro (by simp) (And.intro (by simp) (And.intro hb (brY hb0 (And.intro (by simp) ⟨rfl,rfl⟩))))))
   ·rw [if_neg hb0]
    exact brY (by simp only;omega) (brY (by simp only;omega) (And.intro (by simp only;omega) (And.intro (by simp only;omega) (And.intro hb (brZ hb0 ⟨rfl,rfl⟩)))))
  ·have e:flatF z t=flat0:=by
    rw [he];unfold flK
    rw [if_neg k1,if_neg k2,if_neg k3,if_neg k4]
   rw [e];exact ⟨rfl,rfl⟩
termination_by SizeOf.sizeOf t
decreasing_by exact Lvl.lt ha
theorem zqn (a b:Lvl) (ha:LG a) (hb:LG b):PCon Tryz.prog 138 [lv a,lv b] (.p (B (rLeqF a b))):=by
 have h1:∀ x,LG x->∀ z:Int,0<=z/\z<16->PCon Tryz.prog 189 [lv x,.p (I z)] (fl (flatF z x)):=fun x hx z hz=>zf0 z hz x hx.w (by have:=hx.d;omega)
 rw [<- zsp ha.w hb.w ha.d hb.d]
 refine cv [] [] [] Tryz.func138 18 Tryz.ntmps138 rfl rfl fun cx hE=>?_
 refine loop1 (fun (k:Nat)=>[(6,.p (I k))]) (fun k=>[]) (fun k=>k<=16/\leqF a b=(List.range' k (16-k)).all fun (z:Nat)=>zc5 (flatF z a) (flatF z b)) (fun k=>16-k) 0 [6] [] hE rfl rfl rfl ⟨Sub.refl _,rfl,rfl,trivial⟩ ⟨by omega,rfl⟩ fun k ⟨hk,hs⟩=>?_
 refine brS (fun h=>?_) (fun h=>?_)
 ·have hfb:=Flat.ok_mono (z5v (k:Int) b) (m':=1000000) (by have:=hb.d;omega)
  have hr:List.range' k (16-k)=k::List.range' (k+1) (16-(k+1)):=by rw [show 16-k=(16-(k+1))+1 by omega,List.range'_succ]
  rw [hr,List.all_cons] at hs
  refine call0 (h1 a ha k (by omega)) (call0 (h1 b hb k (by omega)) (call0 (zwh _ _ hfb) (brB (fun h0=>⟨B_eq ?_,rfl⟩) (fun h0=>And.intro (by omega) ⟨k+1,⟨by omega,?_⟩,by omega,Sub.i (by simp),rfl,rfl,trivial⟩))))
  ·have h0':zc5 (flatF k a) (flatF k b)=false:=by simpa using h0
   rw [hs,h0'];rfl
  ·have h0':zc5 (flatF k a) (flatF k b)=true:=by simpa using h0
   rw [hs,h0'];rfl
 ·have:k=16:=by omega
  subst this
  exact ⟨B_eq (by rw [hs];rfl),rfl⟩
theorem zwi (a b:Lvl) (ha:LG a) (hb:LG b):PCon Tryz.prog 97 [lv a,lv b] (.p (B (rSamF a b))):=by
 refine cv [] [] [] Tryz.func97 13 Tryz.ntmps97 rfl rfl fun cx hE=>call0 (zqn a b ha hb) (brB (fun h=>call0 (zqn b a hb ha) ⟨B_eq ?_,rfl⟩) (fun h=>⟨B_eq ?_,rfl⟩))
 ·unfold rSamF;rw [h];rfl
 ·unfold rSamF
  have h':rLeqF a b=false:=by simpa using h
  rw [h'];rfl
theorem zza (l m:List Lvl) (hl:∀ a∈l,lG a=true) (hm:∀ a∈m,lG a=true):PCon Tryz.prog 96 [.p (.sl 3 (encLs l)),.p (.sl 3 (encLs m)),.p (.fn (.func 97) [] [])] (.p (B (samLs l m))):=by
 have h1:=zp l
 have h2:=zp m
 refine cv [] [] [] Tryz.func96 32 Tryz.ntmps96 rfl rfl fun cx hE=>fun _=>fun _=>brS (fun hn=>⟨B_eq (zli (by omega)).symm,rfl⟩) (fun hn=>fun _=>?_)
 have hz:=zet (l:=l) (m:=m) (by omega)
 refine loopP (l.zip m) (fun p=>[(17,.p (I p.length))]) (fun p=>[]) (fun p=>(p.all fun p=>rSamF p.1 p.2)=true) [17] [] hE rfl rfl rfl ⟨Sub.refl _,trivial⟩ rfl (fun hp=>brOut (by simp;omega) ⟨B_eq ?_,rfl⟩) (fun p x q hq hp=>?_)
 ·rw [hz,hp]
 ·obtain ⟨x,y⟩:=x
  obtain ⟨g1,g2,g3⟩:=zed hq
  refine brIn (by simpa using g3) (idxN (row:=rowL x) (by rw [zr,List.getElem?_map,g1];rfl) (idxN (row:=rowL y) (by rw [zr,List.getElem?_map,g2];rfl) (call0 (zwi x y (zh0 (hl x (List.mem_of_getElem? g1))) (zh0 (hm y (List.mem_of_getElem? g2)))) (brB (fun hb=>⟨B_eq ?_,rfl⟩) (fun hb=>And.intro (by omega) ⟨?_,Sub.i (by simp),trivial⟩)))))
  ·have hb':rSamF x y=false:=by simpa using hb
   rw [hz,hq];simp [hb']
  ·have hb':rSamF x y=true:=by simpa using hb
   simp [hp,hb']
theorem zzb (l m:List Trm) (h:∀ a∈l,∀ b∈m,PCon Tryz.prog 43 [tv a,tv b] (.p (B (alkT a b)))):PCon Tryz.prog 98 [.p (.sl 5 (encTs l)),.p (.sl 5 (encTs m)),.p (.fn (.func 43) [] [])] (.p (B (alkTs l m))):=by
 have h1:=zc l
 have h2:=zc m
 refine cv [] [] [] Tryz.func98 32 Tryz.ntmps98 rfl rfl fun cx hE=>fun _=>fun _=>brS (fun hn=>⟨B_eq (zlj (by omega)).symm,rfl⟩) (fun hn=>fun _=>?_)
 have hz:=zeu (l:=l) (m:=m) (by omega)
 refine loopP (l.zip m) (fun p=>[(17,.p (I p.length))]) (fun p=>[]) (fun p=>(p.all fun p=>alkT p.1 p.2)=true) [17] [] hE rfl rfl rfl ⟨Sub.refl _,trivial⟩ rfl (fun hp=>brOut (by simp;omega) ⟨B_eq ?_,rfl⟩) (fun p x q hq hp=>?_)
 ·rw [hz,hp]
 ·obtain ⟨x,y⟩:=x
  obtain ⟨g1,g2,g3⟩:=zed hq
  refine brIn (by simpa using g3) (idxN (row:=rowT x) (by rw [zb,List.getElem?_map,g1];rfl) (idxN (row:=rowT y) (by rw [zb,List.getElem?_map,g2];rfl) (call0 (h x (List.mem_of_getElem? g1) y (List.mem_of_getElem? g2)) (brB (fun hb=>⟨B_eq ?_,rfl⟩) (fun hb=>And.intro (by omega) ⟨?_,Sub.i (by simp),trivial⟩)))))
  ·have hb':alkT x y=false:=by simpa using hb
   rw [hz,hq];simp [hb']
  ·have hb':alkT x y=true:=by simpa using hb
   simp [hp,hb']
theorem z3m (a:Trm):∀ b:Trm,lvT a=true->lvT b=true->PCon Tryz.prog 43 [tv a,tv b] (.p (B (alkT a b))):=by
 intro b la lb
 have ih:∀ c∈a.args,∀ d∈b.args,PCon Tryz.prog 43 [tv c,tv d] (.p (B (alkT c d))):=fun c hc d hd=>z3m c d (zj9 la hc) (zj9 lb hd)
 have he:=zo0 a b
 refine cv [] [] [] Tryz.func43 38 Tryz.ntmps43 rfl rfl fun cx hE=>brS (fun h1=>brS (fun h2=>brS (fun h3=>call0 (zza a.levels b.levels (zbj la) (zbj lb)) (brB (fun h4=>call0 (zzb a.args b.args ih) ⟨B_eq ?_,rfl⟩) (fun h4=>⟨B_eq ?_,rfl⟩))) (fun h3=>⟨B_eq ?_,rfl⟩)) (fun h2=>⟨B_eq ?_,rfl⟩)) (fun h1=>⟨B_eq ?_,rfl⟩)
 ·rw [he];simp [h1,h2,h3,h4]
 ·rw [he];simp [h4]
 ·rw [he];simp [h3]
 ·rw [he];simp [h2]
 ·rw [he];simp [h1]
termination_by SizeOf.sizeOf a
decreasing_by exact Trm.lt hc
theorem zqo (a b:Lvl) (ha:LG a) (hb:LG b):PCon Tryz.prog 103 [lv a,lv b] (.p (B (rLeqF a b))):=by
 have h4:=zcl 4
 have wa:=ha.whol
 have wb:=hb.whol
 have pa:=ha.p;have pb:=hb.p
 refine cv [] [] [] Tryz.func103 27 Tryz.ntmps103 rfl rfl fun cx hE=>call0 zem ?_
 refine loopP (plcs 4) (fun p=>[(6,.p (I p.length))]) (fun p=>[]) (fun p=>(p.all fun p=>decide (¬ rEvF p a>rEvF p b))=true) [6] [] hE rfl rfl rfl ⟨Sub.refl _,rfl,rfl,trivial⟩ rfl (fun hp=>fun _=>brOut (by simp) ⟨B_eq hp.symm,rfl⟩) (fun p x q hq hp2=>fun _=>brIn (by simp [hq]) ?_)
 have hx:∀ c d,wholL 4 c d=true->prtL c<=100000->PCon Tryz.prog 142 [lv c,.p (.sl 1 (rwI x))] (.p (I (rEvF x c))):=fun c d w h=>zei x (by rw [zcm 4 x (zf hq)];omega) 4 c d w (by omega)
 have hr:=z1m (f:=fun l=>[PV.sl 1 (rwI l)]) hq
 refine idxN hr (call0 (hx a _ wa pa) (idxN hr (call0 (hx b _ wb pb) (brS (fun h=>⟨B_eq ?_,rfl⟩) (fun h=>And.intro (by have:=zh hq;omega) ⟨?_,Sub.i (by simp),rfl,rfl,trivial⟩)))))
 ·have hf:decide (¬ rEvF x a>rEvF x b)=false:=decide_eq_false fun hh=>hh h
  unfold rLeqF;rw [hq,List.all_append,List.all_cons,hf];simp
 ·rw [List.all_append,hp2];simp;omega
theorem zf1 (a b:Lvl) (ha:LG a) (hb:LG b):PCon Tryz.prog 49 [lv a,lv b] (.p (B (rSamF a b))):=by
 refine cv [] [] [] Tryz.func49 13 Tryz.ntmps49 rfl rfl fun cx hE=>call0 (zqo a b ha hb) (brB (fun h=>call0 (zqo b a hb ha) ⟨B_eq ?_,rfl⟩) (fun h=>⟨B_eq ?_,rfl⟩))
 ·unfold rSamF;rw [h];rfl
 ·unfold rSamF
  have h':rLeqF a b=false:=by simpa using h
  rw [h'];rfl
theorem zf2 (l m:List Lvl) (hl:∀ a∈l,lG a=true) (hm:∀ a∈m,lG a=true):PCon Tryz.prog 88 [.p (.sl 3 (encLs l)),.p (.sl 3 (encLs m))] (.p (B (samLs l m))):=by
 have h1:=zp l
 have h2:=zp m
 refine cv [] [] [] Tryz.func88 39 Tryz.ntmps88 rfl rfl fun cx hE=>fun _=>fun _=>brS (fun hn=>⟨B_eq (zli (by omega)).symm,rfl⟩) (fun hn=>?_)
 have hz:=zet (l:=l) (m:=m) (by omega)
 refine loopP (l.zip m) (fun p=>[(5,.p (I p.length))]) (fun p=>[]) (fun p=>(p.all fun p=>rSamF p.1 p.2)=true) [5] [] hE rfl rfl rfl ⟨Sub.refl _,trivial⟩ rfl (fun hp=>fun _=>brOut (by simp;omega) ⟨B_eq ?_,rfl⟩) (fun p x q hq hp=>?_)
 ·rw [hz,hp]
 ·obtain ⟨x,y⟩:=x
  obtain ⟨g1,g2,g3⟩:=zed hq
  have r1:(encLs l)[p.length]?=some (rowL x):=by rw [zr,List.getElem?_map,g1];rfl
  have r2:(encLs m)[p.length]?=some (rowL y):=by rw [zr,List.getElem?_map,g2];rfl
  refine fun _=>brIn (by simpa using g3) (idxN r1 (idxN r2 (call0 (zik x y) (brB (fun he=>idxN r1 (idxN r2 (call0 (zf1 x y (zh0 (hl x (List.mem_of_getElem? g1))) (zh0 (hm y (List.mem_of_getElem? g2)))) (brB (fun hb=>⟨B_eq ?_,rfl⟩) (fun hb=>And.intro (by omega) ⟨?_,Sub.i (by simp),trivial⟩))))) (fun he=>And.intro (by omega) ⟨?_,Sub.i (by simp),trivial⟩)))))
  ·have hb':rSamF x y=false:=by simpa using hb
   rw [hz,hq];simp [hb']
  ·have hb':rSamF x y=true:=by simpa using hb
   simp [hp,hb']
  ·have he':x=y:=(zpn x y).1 (by simpa using he)
   subst he'
   simp [hp,zgw]
theorem z8n (a:Trm):∀ b:Trm,lvT a=true->lvT b=true->PCon Tryz.prog 85 [tv a,tv b] (.p (B (alkT a b))):=by
 intro b la lb
 have ih:∀ c∈a.args,∀ d∈b.args,PCon Tryz.prog 85 [tv c,tv d] (.p (B (alkT c d))):=fun c hc d hd=>z8n c d (zj9 la hc) (zj9 lb hd)
 have he:=zo0 a b
 have e1:=zc a.args
 have e2:=zc b.args
 refine cv [] [] [] Tryz.func85 61 Tryz.ntmps85 rfl rfl fun cx hE=>brS (fun h1=>⟨B_eq ?_,rfl⟩) (fun h1=>brS (fun h2=>⟨B_eq ?_,rfl⟩) (fun h2=>brS (fun h3=>⟨B_eq ?_,rfl⟩) (fun h3=>call0 (zf2 a.levels b.levels (zbj la) (zbj lb)) (brB (fun h4=>⟨B_eq ?_,rfl⟩) (fun h4=>fun _=>fun _=>brS (fun h5=>⟨B_eq ?_,rfl⟩) (fun h5=>?_))))))
 ·rw [he];simp [h1]
 ·rw [he];simp [h2]
 ·rw [he];simp [h3]
 ·have h4':samLs a.levels b.levels=false:=by simpa using h4
  rw [he];simp [h4']
 ·rw [he,zlj (by omega)];simp
 ·have hz:=zeu (l:=a.args) (m:=b.args) (by omega)
  have h4':samLs a.levels b.levels=true:=by simpa using h4
  have he2:alkT a b=alkTs a.args b.args:=by
   rw [he];simp [h4',show a.kind=b.kind from Classical.byContradiction h1,show a.n=b.n from Classical.byContradiction h2,show a.name=b.name from Classical.byContradiction h3]
  refine loopP (a.args.zip b.args) (fun p=>[(5,.p (I p.length))]) (fun p=>[]) (fun p=>(p.all fun p=>alkT p.1 p.2)=true) [5] [] hE rfl rfl rfl ⟨Sub.refl _,rfl,rfl,trivial⟩ rfl (fun hp=>fun _=>brOut (by simp;omega) ⟨B_eq ?_,rfl⟩) (fun p x q hq hp=>?_)
  ·rw [he2,hz,hp]
  ·obtain ⟨x,y⟩:=x
   obtain ⟨g1,g2,g3⟩:=zed hq
   refine fun _=>brIn (by simpa using g3) (idxN (row:=rowT x) (by rw [zb,List.getElem?_map,g1];rfl) (idxN (row:=rowT y) (by rw [zb,List.getElem?_map,g2];rfl) (call0 (ih x (List.mem_of_getElem? g1) y (List.mem_of_getElem? g2)) (brB (fun hb=>⟨B_eq ?_,rfl⟩) (fun hb=>And.intro (by omega) ⟨?_,Sub.i (by simp),rfl,rfl,trivial⟩)))))
   ·have hb':alkT x y=false:=by simpa using hb
    rw [he2,hz,hq];simp [hb']
   ·have hb':alkT x y=true:=by simpa using hb
    simp [hp,hb']
termination_by SizeOf.sizeOf a
decreasing_by exact Trm.lt hc
structure FamD (d:Dcl):Prop where
 t:Fz 100000 d.type
 c:∀ c∈d.ctors,Fz 100000 c.ty/\c.name.size<=1000000
 n:d.name.size<=1000000
 l:d.ctors.length<=1000
 p0:-1000000000000<=d.params
 p1:d.params<=1000000000000
 c0:-1000000000000<=d.count
 c1:d.count<=1000000000000
theorem zsq (n:Nat):parsF (n+1)=parsF n++[⟨4,n,[]⟩]:=by simp [parsF,List.range_succ]
@[simp] theorem zz3v (n:Nat):(parsF n).length=n:=by simp [parsF]
theorem zf3 (n:Nat):∀ l∈parsF n,narL l=true:=by
 intro l hl
 simp only [parsF,List.mem_map] at hl
 obtain ⟨i,_,rfl⟩:=hl
 simp [narL,narLs]
theorem z9e (n:Int) (h0:n<=1000000):PCon Tryz.prog 150 [.p (I n)] (.p (.sl 3 (encLs (parsF n.toNat)))):=by
 refine cv [] [] [] Tryz.func150 16 Tryz.ntmps150 rfl rfl fun cx hE=>?_
 refine tokV 3 500 74 3 hE rfl rfl rfl ?_
 refine loop1 (fun i:Nat=>[(4,.p (I i)),(3,.ts 500 3 (encLs (parsF i)))]) (fun i=>[(500,.ar 74 3 (encLs (parsF i)).length)]) (fun i=>i<=n.toNat) (fun i=>n.toNat-i) 0 [4,3] [500] hE rfl rfl rfl ⟨Sub.refl _,Sub.refl _,rfl,trivial⟩ (by omega) fun i hi=>?_
 refine brS (fun h=>call0 (z8g _) (app1 (by simp;omega) (by simp;omega) (And.intro (by omega) ⟨i+1,by omega,by omega,Sub.i (by omega),Sub.tse ?_,ar_eq (by simp),trivial⟩))) (fun h=>⟨?_,rfl⟩)
 ·rw [zsq,<- z8e]
 ·rw [show n.toNat=i by omega]
theorem zo1 (d:Dcl) (h:FamD d):PCon Tryz.prog 197 [dv d] (.p (.sl 1 (rwS (famN d)))):=by
 have hn:=h.n
 have hl:=h.l
 refine cv [7] [] [] Tryz.func197 30 Tryz.ntmps197 rfl rfl fun cx hE=>?_
 refine loopP d.ctors (fun p=>[(4,.p (I p.length)),(3,.ts 7 1 (rwS (d.name::p.map (·.name))))]) (fun p=>[(7,.ar 9 1 (rwS (d.name::p.map (·.name))).length)]) (fun _=>True) [4,3] [7] hE rfl rfl rfl ⟨Sub.refl _,Sub.refl _,rfl,rfl,trivial⟩ trivial (fun _=>fun _=>brOut (by simp) ?_) (fun p a q hq _=>fun _=>brIn (by simp [hq]) ?_)
 ·have hr:(⟨#[46,114,101,99]⟩:ByteArray).size=4:=rfl
  refine And.intro (by omega) (app1 (by simp;omega) (by simp;omega) ⟨?_,rfl⟩)
  simp [famN,rwS,recS]
 ·have:=zh hq
  refine idxN (z1m (f:=rowC) hq) (app1 (by simp;omega) (by simp;omega) (And.intro (by omega) ⟨trivial,Sub.i (by simp),Sub.tse (by simp [rwS]),ar_eq (by simp),rfl,trivial⟩))
theorem zwj {d:Dcl} (h:FamD d):∀ s∈famN d,s.size<=1000010:=by
 intro s hs
 simp only [famN,List.mem_cons,List.mem_append,List.mem_map,List.not_mem_nil,or_false] at hs
 have hn:=h.n
 rcases hs with rfl | ⟨c,hc,rfl⟩ | rfl
 ·omega
 ·have:=(h.c c hc).2;omega
 ·simp [ByteArray.size_append,recS];have:(⟨#[46,114,101,99]⟩:ByteArray).size=4:=rfl;omega
theorem zzc {d:Dcl} (h:FamD d):(famN d).length<=1002:=by have:=h.l;simp [famN];omega
theorem zf4 {z:List ByteArray}:∀ (p q:List ByteArray),dupN z p=false->dupN z (p++q)=dupN (z++p) q
 | [],q,_=>by simp
 | a :: p,q,h=>by
   simp only [dupN] at h
   split at h
   ·cases h
   ·rename_i h1
    simp only [List.cons_append,dupN]
    rw [if_neg h1,zf4 p q h]
    simp
theorem zh1 (ps:Int):∀ (p q:List Ctr),mayCs ps p=0->mayCs ps (p++q)=mayCs ps q
 | [],q,_=>rfl
 | c :: p,q,h=>by
   simp only [mayCs] at h
   rcases Classical.em (rMayF c.ty 0 ps≠0) with h1 | h1
   ·rw [if_pos h1] at h;exact absurd h h1
   ·rw [if_neg h1] at h
    simp only [List.cons_append,mayCs]
    rw [if_neg h1,zh1 ps p q h]
theorem zsr (d:Dcl) (h:FamD d):PCon Tryz.prog 155 [dv d] (.p (I (famA d))):=by
 have hl:=h.l
 have hnl:=zzc h
 have hn0:=h.p0
 have hn1:=h.p1
 have hf:famA d=if d.kind≠3\/d.family≠⟨#[]⟩\/eqT d.value zT=false\/d.params<0\/d.params>3\/d.count<0\/d.count>20\/d.ctors.length>5 then 1
  else if ((famN d).all mayF)=false then 9 else if dupN [] (famN d)=true then 10
  else if rMayF d.type 0 d.params≠0 then rMayF d.type 0 d.params else mayCs d.params d.ctors:=rfl
 refine cv [] [1] [] Tryz.func155 103 Tryz.ntmps155 rfl rfl fun cx hE=>?_
 refine seq0 [(48,.p (B (decide (d.kind≠3\/d.family≠⟨#[]⟩\/eqT d.value zT=false\/d.params<0\/d.params>3\/d.count<0\/d.count>20\/d.ctors.length>5))))] [] [48] [] [] hE rfl rfl rfl ?_ ?_
 ·refine brS (fun h1=>⟨Sub.bt (.inl h1),rfl,trivial⟩) (fun h1=>brS (fun h2=>⟨Sub.bt (.inr (.inl h2)),rfl,trivial⟩) (fun h2=>call0 (zad d.value zT) (brB (fun h3=>⟨Sub.bt (.inr (.inr (.inl (by simpa using h3)))),rfl,trivial⟩) (fun h3=>brS (fun h4=>⟨Sub.bt (by omega),rfl,trivial⟩) (fun h4=>brS (fun h5=>⟨Sub.bt (by omega),rfl,trivial⟩) (fun h5=>brS (fun h6=>⟨Sub.bt (by omega),rfl,trivial⟩) (fun h6=>brS (fun h7=>⟨Sub.bt (by omega),rfl,trivial⟩) (fun h7=>fun _=>⟨Sub.bd ?_,rfl,trivial⟩))))))))
  have h3':eqT d.value zT=true:=by simpa using h3
  have hce:=z7k d.ctors
  rw [Classical.not_not] at h1 h2
  simp only [h1,h2,h3',ne_eq,not_true,false_or,Bool.true_eq_false]
  omega
 refine brS (fun h1=>⟨I_eq (by rw [hf,if_pos h1]),rfl⟩) (fun h1=>call0 (zo1 d h) ?_)
 rw [if_neg h1] at hf
 refine loopP (famN d) (fun p=>[(4,.p (I p.length))]) (fun p=>[]) (fun p=>(p.all mayF)=true) [4] [] hE rfl rfl rfl ⟨Sub.refl _,rfl,trivial⟩ rfl (fun h2=>fun _=>brOut (by simp) ?_) (fun p a q hq hp=>fun _=>brIn (by simp [hq]) (idxN (z1m (f:=fun s=>[St s]) hq) (call0 (zeg a (by have:=zwj h a (zf hq);omega)) (brB (fun hb=>⟨I_eq ?_,rfl⟩) (fun hb=>And.intro (by have:=zh hq;omega) ⟨?_,Sub.i (by simp),rfl,trivial⟩)))))
 ·rw [if_neg (by rw [h2];simp)] at hf
  refine loopP (famN d) (fun p=>[(5,.p (I p.length))]) (fun p=>[]) (fun p=>dupN [] p=false) [5] [] hE rfl rfl rfl ⟨Sub.refl _,rfl,trivial⟩ rfl (fun h3=>fun _=>brOut (by simp) ?_) (fun p a q hq hp=>fun _=>brIn (by simp [hq]) ?_)
  ·rw [if_neg (by rw [h3];simp)] at hf
   have hps:d.params<=3:=by omega
   refine call0 (zq2 d.type 0 d.params (by omega) (by omega) (by omega) (by omega)) ?_
   have nz:rMayF d.type 0 d.params=0->famA d=mayCs d.params d.ctors:=fun e=>by rw [hf,if_neg (by omega)]
   have ms:=fun p q=>zh1 d.params p q
   have mz:∀ p q,mayCs d.params p≠0->mayCs d.params (p++q)=mayCs d.params p:=fun p=>by
    induction p with
    | nil=>intro q hq;simp [mayCs] at hq
    | cons c p ih =>
      intro q hq
      simp only [List.cons_append,mayCs] at hq ⊢
      rcases Classical.em (rMayF c.ty 0 d.params≠0) with h1 | h1
      ·rw [if_pos h1,if_pos h1]
      ·rw [if_neg h1] at hq ⊢;rw [if_neg h1];exact ih q hq
   refine loopP d.ctors (fun p=>[(7,.p (I p.length)),(6,.p (I (if rMayF d.type 0 d.params≠0 then rMayF d.type 0 d.params else mayCs d.params p)))]) (fun p=>[]) (fun p=>True) [7,6] [] hE rfl rfl rfl ⟨Sub.refl _,Sub.i ?_,rfl,trivial⟩ trivial (fun h4=>fun _=>brOut (by simp) ⟨I_eq ?_,rfl⟩) (fun p a q hq hp=>fun _=>brIn (by simp [hq]) (brS (fun h5=>?_) (fun h5=>⟨I_eq ?_,rfl⟩)))
   ·simp only [mayCs];split<;>omega
   ·rw [hf]
   ·have hlt:=zh hq
    have e0:rMayF d.type 0 d.params=0/\mayCs d.params p=0:=by
     rcases Classical.em (rMayF d.type 0 d.params≠0) with h6 | h6
     ·rw [if_pos h6] at h5;exact absurd h5 h6
     ·rw [if_neg h6] at h5;exact ⟨by omega,h5⟩
    refine idxN (z1m (f:=rowC) hq) (call0 (zq2 a.ty 0 d.params (by omega) (by omega) (by omega) (by omega)) (And.intro (by omega) ⟨trivial,Sub.i (by simp),Sub.i ?_,rfl,trivial⟩))
    rw [if_neg (by omega),ms p [a] e0.2]
    simp only [mayCs];split<;>omega
   ·rw [hf]
    rcases Classical.em (rMayF d.type 0 d.params≠0) with h6 | h6
    ·rw [if_pos h6,if_pos h6]
    ·rw [if_neg h6] at h5;rw [if_neg h6,if_neg h6,hq,mz p _ h5]
  ·have hlt:=zh hq
   have hTake:List.take ((p.length:Nat):Int).toNat (rwS (famN d))=rwS p:=by simp [rwS,hq]
   have hh:PCon Tryz.prog 198 [.p (.sl 1 (List.take ((p.length:Nat):Int).toNat (rwS (famN d)))),.p (St a)] (.p (B (hasN p a))):=by rw [hTake];exact zpv p a
   have hst:=zf4 (z:=[]) p (a::q) hp
   have hs2:=zf4 (z:=[]) p [a] hp
   rw [<- hq] at hst
   simp only [List.nil_append,dupN] at hst hs2
   refine And.intro (by simp;omega) (idxN (z1m (f:=fun s=>[St s]) hq) (call0 hh (brB (fun hb=>⟨I_eq ?_,rfl⟩) (fun hb=>And.intro (by omega) ⟨?_,Sub.i (by simp),rfl,trivial⟩))))
   ·rw [if_pos hb] at hst;rw [hf,if_pos hst]
   ·rw [if_neg (by rw [hb];simp)] at hs2;exact hs2
 ·have hb':mayF a=false:=by simpa using hb
  rw [hf,if_pos]
  rw [hq];simp [hb']
 ·have hb':mayF a=true:=by simpa using hb
  rw [List.all_append,hp];simp [hb']
theorem z9f {t:Trm} {n:Nat} (h:Fz n t) (hn:n<=1000000):PCon Tryz.prog 74 [tv t] (.tp [tv (headT t),.p (.sl 5 (encTs (argsT t)))]) :=
 z3i 1099511627776 (by omega) t h.w (by have:=h.d;omega)
theorem zf5 (d:Dcl) (hd:FamD d) (hps:d.params<=3) (t:Trm) (ht:Fz 100000 t) (below i:Int) (b0:-1000000<=below) (b1:below<=1000000) (i0:-1000000<=i) (i1:i<=1000000) (hc0:-1000000<=d.count) (hc1:d.count<=1000000) :
  PCon Tryz.prog 201 [dv d,tv t,.p (I below),.p (I i)] (.p (B (itsF d t below i))):=by
 have hf:itsF d t below i=if eqT (headT t) (cstT d.name (parsF d.params.toNat))=false\/((argsT t).length:Int)≠d.count+i then false else itsA d below (argsT t) 0:=rfl
 obtain ⟨ha,hal⟩:=ht.args
 have hs:=ht.s
 refine cv [] [2] [] Tryz.func201 73 Tryz.ntmps201 rfl rfl fun cx hE=>call0 (z9f ht (by omega)) ?_
 refine seq0 [(34,.p (B (decide (eqT (headT t) (cstT d.name (parsF d.params.toNat))=false\/((argsT t).length:Int)≠d.count+i))))] [] [34] [] [] hE rfl rfl rfl ?_ ?_
 ·refine call0 (z9e d.params (by omega)) (call0 (z3s d.name _ (by simp;omega) (zf3 _)) (call0 (zad (headT t) _) (brB (fun h1=>⟨Sub.bt (.inl (by simpa [cstT] using h1)),rfl,rfl,rfl,trivial⟩) (fun h1=>And.intro (by omega) ⟨Sub.bd ?_,rfl,rfl,rfl,trivial⟩))))
  have h1':eqT (headT t) (cstT d.name (parsF d.params.toNat))=true:=by simpa [cstT] using h1
  rw [h1'];simp
 refine brS (fun h1=>⟨B_eq (by rw [hf,if_pos h1]),rfl⟩) (fun h1=>?_)
 rw [if_neg h1] at hf
 refine loopP (argsT t) (fun p=>[(11,.p (I p.length))]) (fun p=>[]) (fun p=>∀ q,itsA d below (p++q) 0=itsA d below q p.length) [11] [] hE rfl rfl rfl ⟨Sub.refl _,rfl,rfl,rfl,trivial⟩ (by simp) (fun h2=>fun _=>brTe ⟨B_eq ?_,rfl⟩) (fun p a q hq hp=>fun _=>brT' hq ?_)
 ·have:=h2 [];simp at this;rw [hf,this];rfl
 ·have hlt:=zh hq
  have hst:=hp (a::q)
  rw [<- hq] at hst
  simp only [itsA] at hst
  have hfa:=ha a (zf hq)
  have hfs:=hfa.s
  have bad:((p.length:Int)<d.count/\eqT a (mkV (below-1-p.length))=false)\/((p.length:Int)≥d.count/\nmdT a d.name=true)->AV.p (B false)=.p (B (itsF d t below i)):=fun h=>B_eq (by rw [hf,hst,if_pos h])
  have good:¬ (((p.length:Int)<d.count/\eqT a (mkV (below-1-p.length))=false)\/((p.length:Int)≥d.count/\nmdT a d.name=true))->∀ z,itsA d below ((p++[a])++z) 0=itsA d below z ((p++[a]).length:Nat):=fun h z=>by
   have:=hp (a::z)
   simp only [itsA] at this
   rw [List.append_assoc,List.singleton_append,this,if_neg h];simp
  refine brS (fun h2=>idxT hq (And.intro (by omega) (And.intro (by omega) (call0 (z4a _) (call0 (zad a _) (brB (fun h3=>⟨bad (.inl ⟨h2,by simpa using h3⟩),rfl⟩) (fun h3=>?_))))))) (fun h2=>brS (fun h3=>?_) (fun h3=>absurd h3 (by omega)))
  ·refine brS (fun h4=>absurd h2 (by omega)) (fun h4=>And.intro (by omega) ⟨good ?_,Sub.i (by simp),rfl,rfl,rfl,trivial⟩)
   have h3':eqT a (mkV (below-1-p.length))=true:=by simpa using h3
   rw [h3'];simp;omega
  ·refine idxT hq (call0 (z8i a d.name (by omega)) (brB (fun h4=>⟨bad (.inr ⟨h3,h4⟩),rfl⟩) (fun h4=>And.intro (by omega) ⟨good ?_,Sub.i (by simp),rfl,rfl,rfl,trivial⟩)))
   rw [h4];simp;omega
def rwB (l:List Bool):List (List PV):=l.map fun b=>[B b]
@[simp] theorem zz4k (l:List Bool):(rwB l).length=l.length:=by simp [rwB]
def ctrV (x:List Bool×Int):AV:=.tp [.p (.sl 1 (rwB x.1)),.p (I x.2)]
theorem z9g {t:Trm} {n:Nat} (h:Fz n t) (hn:n<=1000000):PCon Tryz.prog 156 [tv t,.p (I ((piL t).length:Nat))] (.tp [.p (.sl 5 (encTs (piL t))),tv (piE t),.p (B true)]):=by
 have:=zba 1099511627776 (by omega) t h.w (by have:=h.d;omega) (piL t).length (Nat.le_refl _)
 rw [List.take_length,piE_D] at this
 exact this
theorem z1w {α:Type} {l:List α} {k:Nat} {a:α} (h:l[k]?=some a):l.take (k+1)=l.take k++[a]:=by rw [List.take_add_one,h];rfl
set_option maxHeartbeats 4000000 in
theorem zss (d:Dcl) (hd:FamD d) (hps:d.params<=3) (ps:List Trm) (c:Nat) (hc:d.count=c) (hcl:c<=ps.length) (hc9:c<=1000) (t:Trm) (ht:Fz 100000 t) (i:Int) (i0:-1000000<=i) (i1:i<=100000) :
  PCon Tryz.prog 159 [dv d,.p (.sl 5 (encTs ps)),tv t,.p (I i)] (ctrV (ctorF d ps t i)):=by
 have hf:ctorF d ps t i=if ((piL t).length:Int)<d.count then ([],16) else if eqTs ((piL t).take d.count.toNat) (ps.take d.count.toNat)=false then ([],16)
  else if itsF d (piE t) (piL t).length i=false then ([],16) else recL d i ((piL t).drop d.count.toNat) d.count []:=rfl
 have hcn:d.count.toNat=c:=by omega
 rw [hcn] at hf
 have hlen:=znv t
 have hs:=ht.s
 obtain ⟨hpi,hpe⟩:=ht.pi
 refine cv [] [] [] Tryz.func159 114 Tryz.ntmps159 rfl rfl fun cx hE=>call0 (z3t t (by have:=ht.d;omega)) (brS (fun h1=>⟨?_,rfl⟩) (fun h1=>?_))
 ·rw [hf,if_pos h1];rfl
 rw [if_neg h1] at hf
 refine call0 (z9g ht (by omega)) ?_
 refine loop1 (fun k:Nat=>[(14,.p (I k))]) (fun k=>[]) (fun k=>k<=c/\(piL t).take k=ps.take k) (fun k=>c-k) 0 [14] [] hE rfl rfl rfl ⟨Sub.refl _,rfl,rfl,rfl,trivial⟩ ⟨by omega,by simp⟩ fun k ⟨hk,hke⟩=>?_
 refine brS (fun h2=>?_) (fun h2=>?_)
 ·have hk1:k<(piL t).length:=by omega
  have hk2:k<ps.length:=by omega
  have g1:(piL t)[k]?=some ((piL t)[k]):=List.getElem?_eq_getElem hk1
  have g2:ps[k]?=some (ps[k]):=List.getElem?_eq_getElem hk2
  refine idxN (row:=rowT ((piL t)[k])) (by simp [zb,g1]) (idxN (row:=rowT (ps[k])) (by simp [zb,g2]) (call0 (zad _ _) (brB (fun h3=>⟨?_,rfl⟩) (fun h3=>And.intro (by omega) ⟨k+1,⟨by omega,?_⟩,by omega,Sub.i (by omega),rfl,rfl,rfl,trivial⟩))))
  ·have h3':eqT ((piL t)[k]) (ps[k])=false:=by simpa using h3
   rw [hf,if_pos]
   ·rfl
   ·rw [Bool.eq_false_iff,ne_eq,za8]
    intro e
    have:=congrArg (fun z=>z[k]?) e
    simp only [List.getElem?_take] at this
    rw [if_pos (by omega),if_pos (by omega),g1,g2] at this
    rw [Option.some.inj this,zyq] at h3'
    cases h3'
  ·have h3':eqT ((piL t)[k]) (ps[k])=true:=by simpa using h3
   rw [z1w g1,z1w g2,hke,(znp _ _).1 h3']
 have hkc:k=c:=by omega
 subst hkc
 rw [if_neg (by rw [Bool.not_eq_false,za8];exact hke)] at hf
 refine call0 (zf5 d hd hps (piE t) hpe _ i (by omega) (by omega) (by omega) (by omega) (by omega) (by omega)) (brB (fun h3=>⟨?_,rfl⟩) (fun h3=>?_))
 ·rw [hf,if_pos (by simpa using h3)];rfl
 rw [if_neg (by simpa using h3)] at hf
 refine tokV 15 515 4 1 hE rfl rfl rfl ?_
 refine loopP ((piL t).drop k) (fun p=>[(16,.p (I ((k+p.length:Nat)))),(15,.ts 515 1 (rwB (p.map fun x=>nmdT x d.name)))]) (fun p=>[(515,.ar 4 1 (rwB (p.map fun x=>nmdT x d.name)).length)]) (fun p=>∀ q,recL d i (p++q) d.count []=recL d i q (k+p.length:Nat) (p.map fun x=>nmdT x d.name)) [16,15] [515] hE rfl rfl rfl ⟨Sub.i (by simpa using hc),Sub.refl _,rfl,rfl,rfl,rfl,trivial⟩ (by intro q;simp [hc]) (fun h4=>brOut (by simp;omega) ⟨?_,rfl⟩) (fun p a q hq hp=>?_)
 ·have:=h4 []
  simp only [List.append_nil,recL] at this
  rw [hf,this];rfl
 have hlt:k+p.length<(piL t).length:=by have:=zh hq;simp at this;omega
 have hget:(piL t)[k+p.length]?=some a:=by
  have:=List.getElem?_drop (xs:=piL t) (i:=k) (j:=p.length)
  rw [hq] at this;simpa using this.symm
 have ham:a∈piL t:=List.mem_of_getElem? hget
 have hfa:=hpi a ham
 have hfs:=hfa.s
 have hla:=znv a
 obtain ⟨hxi,hxe⟩:=hfa.pi
 have hrow:(encTs (piL t))[k+p.length]?=some (rowT a):=by simp [zb,hget]
 have hpl:p.length<=100000:=by omega
 have hst:=hp (a::q)
 rw [<- hq] at hst
 simp only [recL] at hst
 have next:(nmdT a d.name=false\/(nmdT a d.name=true/\((piL a).any fun x=>nmdT x d.name)=false/\itsF d (piE a) ((k+p.length:Nat)+(piL a).length) i=true))->∀ z,recL d i ((p++[a])++z) d.count []=recL d i z (k+(p++[a]).length:Nat) ((p++[a]).map fun x=>nmdT x d.name):=fun h z=>by
  have:=hp (a::z)
  simp only [recL] at this
  rw [List.append_assoc,List.singleton_append,this]
  rcases h with h | ⟨h,h',h''⟩
  ·rw [if_pos h];simp [h];rfl
  ·rw [if_neg (by rw [h];simp),if_neg (by rw [h'];simp),if_neg (by rw [h''];simp)];simp [h];rfl
 refine brIn hlt (idxN hrow (call0 (z8i a d.name (by omega)) (app1 (by simp;omega) (by simp;omega) (brB (fun h4=>?_) (fun h4=>?_)))))
 ·refine And.intro (by omega) ⟨next (.inl (by simpa using h4)),Sub.i (by simp;omega),Sub.tse (by simp [rwB]),ar_eq (by simp),rfl,rfl,rfl,trivial⟩
 have h4':nmdT a d.name=true:=by simpa using h4
 rw [if_neg (by rw [h4'];simp)] at hst
 refine idxN hrow (call0 (z3t a (by have:=hfa.d;omega)) (idxN hrow (call0 (z9g hfa (by omega)) ?_)))
 refine loopP (piL a) (fun p2=>[(22,.p (I p2.length))]) (fun p2=>[]) (fun p2=>(p2.any fun x=>nmdT x d.name)=false) [22] [] hE rfl rfl rfl ⟨Sub.refl _,rfl,rfl,rfl,rfl,rfl,trivial⟩ rfl (fun h5=>brOut (Nat.le_refl _) ?_) (fun p2 b q2 hq2 hp2=>brIn (by have:=zh hq2;omega) (idxT hq2 (call0 (z8i b d.name (by have:=(hxi b (zf hq2)).s;omega)) (brB (fun h5=>⟨?_,rfl⟩) (fun h5=>And.intro (by have:=zh hq2;omega) ⟨?_,Sub.i (by simp),rfl,rfl,rfl,rfl,rfl,trivial⟩)))))
 ·rw [if_neg (by rw [h5];simp)] at hst
  refine And.intro (by omega) (call0 (zf5 d hd hps (piE a) hxe _ i (by omega) (by omega) (by omega) (by omega) (by omega) (by omega)) (brB (fun h6=>⟨?_,rfl⟩) (fun h6=>And.intro (by omega) ⟨next (.inr ⟨h4',h5,by simpa using h6⟩),Sub.i (by simp;omega),Sub.tse (by simp [rwB]),ar_eq (by simp),rfl,rfl,rfl,trivial⟩)))
  rw [if_pos (by simpa using h6)] at hst
  rw [hf,hst];rfl
 ·rw [if_pos (by rw [hq2];simp [h5])] at hst
  rw [hf,hst];rfl
 ·rw [List.any_append,hp2];simpa using h5
def rwBB (l:List (List Bool)):List (List PV):=l.map fun b=>[.sl 1 (rwB b)]
@[simp] theorem zz4g (l:List (List Bool)):(rwBB l).length=l.length:=by simp [rwBB]
def infV (x:InfV):AV:=.ag [.p (I x.params),.p (I x.idx),.p (I x.level.kind),.p (I x.level.n),.p (.sl 3 (encLs x.level.args)),.p (B x.large),.p (.sl 1 (rwI x.fields)),.p (.sl 1 (rwBB x.recs))]
def lookV (x:InfV×Int):AV:=.tp [infV x.1,.p (I x.2)]
def infC (x:InfV):Obs:=[(9,.ce 151 [.p (I x.params),.p (I x.idx),.p (I x.level.kind),.p (I x.level.n),.p (.sl 3 (encLs x.level.args)),.p (B x.large),.ts 506 1 (rwI x.fields),.ts 507 1 (rwBB x.recs)]),(506,.ar 3 1 (rwI x.fields).length),(507,.ar 193 1 (rwBB x.recs).length)]
def infN (d:Dcl) (ps:List Trm) (x:InfV) (p:List Ctr):InfV:=⟨x.params,x.idx,x.level,x.large,x.fields++p.map (fun c=>((ctorF d ps c.ty x.idx).1.length:Int)),x.recs++p.map (fun c=>(ctorF d ps c.ty x.idx).1)⟩
theorem zst (n:Nat) (l:List Trm):List.take n (encTs l)=encTs (l.take n):=by simp [zb]
set_option maxHeartbeats 4000000 in
theorem zlm (d:Dcl) (hd:FamD d) (hlv:∀ l∈(piE d.type).levels,mayLF l 3=true):PCon Tryz.prog 110 [dv d] (lookV (lookF d)):=by
 have hf:lookF d=if famA d≠0 then (⟨0,0,zL,false,[],[]⟩,famA d)
  else if ((piL d.type).length:Int)<d.count\/(piE d.type).kind≠1\/nmdT d.type d.name=true then (⟨0,0,zL,false,[],[]⟩,16)
  else lookC d ((piL d.type).take d.count.toNat) d.ctors ⟨d.count,(piL d.type).length-d.count,(piE d.type).levels.getD 0 zL,rNevF ((piE d.type).levels.getD 0 zL),[],[]⟩:=rfl
 have hs:=hd.t.s
 have hlen:=znv d.type
 obtain ⟨hpi,hpe⟩:=hd.t.pi
 refine cv [] [6] [] Tryz.func110 105 Tryz.ntmps110 rfl rfl fun cx hE=>call0 (zsr d hd) (brS (fun h1=>⟨by rw [hf,if_pos h1];rfl,rfl⟩) (fun h1=>?_))
 rw [if_neg h1] at hf
 have hA:famA d=if d.kind≠3\/d.family≠⟨#[]⟩\/eqT d.value zT=false\/d.params<0\/d.params>3\/d.count<0\/d.count>20\/d.ctors.length>5 then 1
  else if ((famN d).all mayF)=false then 9 else if dupN [] (famN d)=true then 10
  else if rMayF d.type 0 d.params≠0 then rMayF d.type 0 d.params else mayCs d.params d.ctors:=rfl
 have hb:0<=d.params/\d.params<=3/\0<=d.count/\d.count<=20/\d.ctors.length<=5:=by
  rcases Classical.em (d.kind≠3\/d.family≠⟨#[]⟩\/eqT d.value zT=false\/d.params<0\/d.params>3\/d.count<0\/d.count>20\/d.ctors.length>5) with h | h
  ·rw [if_pos h] at hA;omega
  ·simp only [not_or] at h;omega
 obtain ⟨c,hc⟩:∃ c:Nat,d.count=c:=⟨d.count.toNat,by omega⟩
 refine call0 (z3t d.type (by have:=hd.t.d;omega)) (call0 (z9g hd.t (by omega)) ?_)
 refine seq0 [(45,.p (B (decide (((piL d.type).length:Int)<d.count\/(piE d.type).kind≠1\/nmdT d.type d.name=true))))] [] [45] [] [] hE rfl rfl rfl ?_ ?_
 ·refine brS (fun h2=>⟨Sub.bt (.inl h2),rfl,rfl,rfl,trivial⟩) (fun h2=>brS (fun h3=>⟨Sub.bt (.inr (.inl h3)),rfl,rfl,rfl,trivial⟩) (fun h3=>call0 (z8i d.type d.name (by omega)) ⟨Sub.b ?_,rfl,rfl,rfl,trivial⟩))
  rw [Bool.eq_iff_iff,decide_eq_true_eq]
  exact ⟨fun h=>.inr (.inr h),fun h=>by rcases h with h | h | h;exact absurd h h2;exact absurd h h3;exact h⟩
 refine brS (fun h2=>⟨by rw [hf,if_pos h2];rfl,rfl⟩) (fun h2=>?_)
 rw [if_neg h2] at hf
 have hll:(piE d.type).levels.length=1:=by
  exact (zg hpe.w).sort (by omega)
 obtain ⟨l0,hl0⟩:∃ l0,(piE d.type).levels=[l0]:=by
  match h:(piE d.type).levels,hll with
  | [a],_=>exact ⟨a,rfl⟩
 have hm:=hlv l0 (by rw [hl0];simp)
 simp only [mayLF,Bool.and_eq_true,decide_eq_true_eq] at hm
 rw [hl0,show d.count.toNat=c by omega] at hf
 simp only [List.getD_cons_zero] at hf
 have hrow:(encLs (piE d.type).levels)[0]?=some (rowL l0):=by rw [hl0];simp [zr]
 refine And.intro (by omega) (idxN (i:=0) hrow (idxN (i:=0) hrow (call0 (zsl _ _ l0 hm.2 (by omega)) ?_)))
 refine tokOV 9 6 506 3 1 hE rfl rfl rfl rfl ?_
 refine tokOV 9 7 507 193 1 hE rfl rfl rfl rfl ?_
 have hcl:c<=((piL d.type).take c).length:=by simp;omega
 have hctor:∀ a∈d.ctors,PCon Tryz.prog 159 [dv d,.p (.sl 5 (List.take d.count.toNat (encTs (piL d.type)))),tv a.ty,.p (I ((piL d.type).length-d.count))] (ctrV (ctorF d ((piL d.type).take c) a.ty ((piL d.type).length-d.count))):=fun a ha=>by
  rw [zst,show d.count.toNat=c by omega]
  exact zss d hd hb.2.1 _ c hc hcl (by omega) a.ty (hd.c a ha).1 _ (by omega) (by omega)
 have hst0:∀ p q,lookC d ((piL d.type).take c) (p++q) ⟨d.count,(piL d.type).length-d.count,l0,rNevF l0,[],[]⟩=lookC d ((piL d.type).take c) q (infN d ((piL d.type).take c) ⟨d.count,(piL d.type).length-d.count,l0,rNevF l0,[],[]⟩ p)\/True:=fun _ _=>.inr trivial
 refine loopP d.ctors (fun p=>[(10,.p (I p.length))]) (fun p=>infC (infN d ((piL d.type).take c) ⟨d.count,(piL d.type).length-d.count,l0,rNevF l0,[],[]⟩ p)) (fun p=>∀ q,lookC d ((piL d.type).take c) (p++q) ⟨d.count,(piL d.type).length-d.count,l0,rNevF l0,[],[]⟩=lookC d ((piL d.type).take c) q (infN d ((piL d.type).take c) ⟨d.count,(piL d.type).length-d.count,l0,rNevF l0,[],[]⟩ p)) [10] [9,506,507] hE rfl rfl rfl ⟨Sub.refl _,rfl,rfl,rfl,rfl,rfl,rfl,trivial⟩ (by intro q;simp [infN]) (fun h3=>fun _=>brOut (by simp) ⟨?_,rfl⟩) (fun p a q hq hp=>fun _=>brIn (by simp [hq]) ?_)
 ·have:=h3 []
  simp only [List.append_nil,lookC] at this
  rw [hf,this];rfl
 have hlt:=zh hq
 have hst:=hp (a::q)
 rw [<- hq] at hst
 simp only [lookC,infN] at hst
 refine And.intro (by simp;omega) (idxN (z1m (f:=rowC) hq) (call0 (hctor a (zf hq)) (brS (fun h3=>⟨?_,rfl⟩) (fun h3=>?_))))
 ·have h3':(ctorF d ((piL d.type).take c) a.ty ((piL d.type).length-d.count)).2≠0:=h3
  rw [hf,hst.trans (if_pos h3')];rfl
 ·have h3':¬ (ctorF d ((piL d.type).take c) a.ty ((piL d.type).length-d.count)).2≠0:=h3
  have e:infN d ((piL d.type).take c) ⟨d.count,(piL d.type).length-d.count,l0,rNevF l0,[],[]⟩ (p++[a])=⟨d.count,(piL d.type).length-d.count,l0,rNevF l0,([]++p.map (fun c_1=>((ctorF d ((piL d.type).take c) c_1.ty ((piL d.type).length-d.count)).1.length:Int)))++[((ctorF d ((piL d.type).take c) a.ty ((piL d.type).length-d.count)).1.length:Int)],([]++p.map (fun c_1=>(ctorF d ((piL d.type).take c) c_1.ty ((piL d.type).length-d.count)).1))++[(ctorF d ((piL d.type).take c) a.ty ((piL d.type).length-d.count)).1]⟩:=by simp [infN]
  refine app1 (by simp [infN];omega) (by simp [infN];omega) (app1 (by simp [infN];omega) (by simp [infN];omega) (And.intro (by omega) ⟨?_,Sub.i (by simp),?_,?_,?_,rfl,rfl,rfl,trivial⟩))
  ·intro z
   have:=hp (a::z)
   simp only [lookC,infN] at this
   rw [List.append_assoc,List.singleton_append,this.trans (if_neg h3'),e]
  ·rw [e];simp [infN,rwI,rwBB]
  ·rw [e];simp [infN]
  ·rw [e];simp [infN]
theorem zbl:∀ (g v:Nat) (s:ByteArray),digsF g v=some s->s.size<=g
 | 0,v,s,h=>by cases h
 | g + 1,v,s,h=>by
   simp only [digsF] at h
   split at h
   ·cases h;exact Nat.le_add_left _ _
   ·split at h
    ·cases h
    ·rename_i s' hs
     cases h
     have:=zbl g _ s' hs
     have h1:(digS (v % 10)).size=1:=rfl
     rw [ByteArray.size_append];omega
theorem zz2l (v:Nat) (h:v<10):(⟨#[48,49,50,51,52,53,54,55,56,57]⟩:ByteArray).extract v (v+1)=digS v:=by
 have:v=0\/v=1\/v=2\/v=3\/v=4\/v=5\/v=6\/v=7\/v=8\/v=9:=by omega
 rcases this with rfl | rfl | rfl | rfl | rfl | rfl | rfl | rfl | rfl | rfl<;>rfl
theorem zqp (v:Int) (h0:0<=v) (h:v<10):(⟨#[48,49,50,51,52,53,54,55,56,57]⟩:ByteArray).extract v.toNat (v+1).toNat=digS v.toNat:=by
 rw [show (v+1).toNat=v.toNat+1 by omega];exact zz2l _ (by omega)
theorem zo2:∀ (g v:Nat) (s:ByteArray),digsF g v=some s->v<=1000000/\g<=1000->PCon Tryz.prog 196 [.p (I v)] (.p (St s)):=by
 intro g
 induction g with
 | zero=>intro v s h;cases h
 | succ g ih =>
   intro v s h hv
   simp only [digsF] at h
   have hd:(⟨#[48,49,50,51,52,53,54,55,56,57]⟩:ByteArray).size=10:=rfl
   refine cv [] [] [] Tryz.func196 19 Tryz.ntmps196 rfl rfl fun cx hE=>brS (fun h1=>?_) (fun h1=>?_)
   ·rw [if_pos (by omega)] at h
    cases h
    refine And.intro (by omega) (And.intro (by omega) (And.intro (by omega) ⟨?_,rfl⟩))
    rw [zqp _ (by omega) (by omega)];rfl
   ·rw [if_neg (by omega)] at h
    split at h
    ·cases h
    ·rename_i s' hs
     cases h
     have hsz:=zbl _ _ _ hs
     have hp:=ih (v / 10) s' hs (by omega)
     have e1:Int.tdiv (v:Int) 10=((v / 10:Nat):Int):=rfl
     have e2:Int.tmod (v:Int) 10=((v % 10:Nat):Int):=rfl
     have hp':PCon Tryz.prog 196 [.p (I ((v:Int).tdiv 10))] (.p (St s')):=by rw [e1];exact hp
     refine And.intro (by omega) (And.intro (by omega) (call0 hp' (And.intro (by omega) (And.intro (by omega) (And.intro (by omega) (And.intro (by omega) (And.intro (by omega) ?_)))))))
     refine And.intro (by omega) ?_
     refine And.intro (by omega) ?_
     have hx:=zqp ((v:Int) % 10) (by omega) (by omega)
     have hn:((v:Int) % 10).toNat=v % 10:=by omega
     have h1:(digS (v % 10)).size=1:=rfl
     rw [hn] at hx
     have hz:((⟨#[48,49,50,51,52,53,54,55,56,57]⟩:ByteArray).extract ((v:Int) % 10).toNat (((v:Int) % 10)+1).toNat).size=1:=by rw [hn,hx];rfl
     refine And.intro (by omega) ⟨?_,rfl⟩
     show AV.p (St (s'++ByteArray.extract _ ((v:Int) % 10).toNat (((v:Int) % 10)+1).toNat))=_
     rw [hn,hx]
def mkO (k:Nat):Obs:=[(1000,.ce 182 [.p (I k)])]
theorem zz0b (s:ByteArray):wfT 1099511627776 (cstT s [])=true:=by simp [cstT,wfT,shpF,wfTs,argF]
theorem zln {k:Nat} {v:Trm} (h:nextF k=some v):∃ s,v=cstT (qS++s) []/\digsF 20 (k+1)=some s/\k<=1000:=by
 unfold nextF at h
 split at h
 ·split at h
  ·cases h
  ·rename_i s hs;cases h;exact ⟨s,rfl,hs,‹_›⟩
 ·cases h
theorem zqq {k:Nat} {v:Trm} (h:nextF k=some v):Cp v/\dpT v=1/\wfT 1099511627776 v=true:=by
 obtain ⟨s,rfl,_⟩:=zln h
 exact ⟨Cp.of (zz0b _) (by omega) (by simp [cstT,dpT,dpTs]),by simp [cstT,dpT,dpTs],zz0b _⟩
theorem zf6 (k:Nat) (v:Trm) (h:nextF k=some v):Con Tryz.prog 153 [.ptr 1000 0] (mkO k) (fun r o=>r=tv v/\o=mkO (k+1)):=by
 obtain ⟨s,rfl,hs,hk⟩:=zln h
 have hsz:=zbl _ _ _ hs
 have hq:(⟨#[63,63,63,63,63,63,63,63,63,63,63,63,63,63,63,63,63,63,63,63,63,63,63,63,63]⟩:ByteArray).size=25:=rfl
 exact cv [] [] [1000] Tryz.func153 17 Tryz.ntmps153 rfl rfl fun cx hE=>And.intro (by omega) (call0 (zo2 20 (k+1) s hs (by omega)) (And.intro (by omega) (call0 (z3s (qS++s) [] (by simp) (by simp)) ⟨rfl,rfl⟩)))
theorem zh2 (v:Trm) (b:Int) (hb:b<=1152921504606846976) (t:Trm):∀ at_:Int,0<=at_->at_+dpT t<=1073741824->wfT b t=true->PCon Tryz.prog 195 [tv t,tv v,.p (I at_)] (tv (bndT v.name t at_)):=by
 intro at_ h0 h1 hw
 have w:=zg hw
 have ih:∀ a∈t.args,∀ f:Int,0<=f->f+dpT a<=1073741824->PCon Tryz.prog 195 [tv a,tv v,.p (I f)] (tv (bndT v.name a f)):=fun a ha f g0 g1=>zh2 v b hb a f g0 g1 (w.sub a ha)
 have hfew:=w.few_args
 have he:=zz25 v.name t at_
 refine cv [] [1,1000004] [] Tryz.func195 48 Tryz.ntmps195 rfl rfl fun cx hE=>?_
 refine seq0 [(18,.p (B (decide (t.kind=2/\t.name=v.name))))] [] [18] [] [] hE rfl rfl rfl ?_ ?_
 ·refine brS (fun h=>⟨Sub.bd (by simp [h]),rfl,rfl,rfl,trivial⟩) (fun h=>⟨Sub.bf (by simp [h]),rfl,rfl,rfl,trivial⟩)
 refine brS (fun h=>call0 (z4a _) ⟨by rw [he,if_pos h];rfl,rfl⟩) (fun h=>?_)
 rw [he,if_neg h]
 refine callX [] (zbb b hb t (by omega) hw) rfl rfl (za _) fun r o ⟨e1,e2⟩=>?_
 subst e1 e2
 have hln:=zeo v.name t.kind t.args 0 at_
 refine join1 (A:=Unit) (fun _=>[]) (fun _=>[(7,ceT ⟨t.kind,t.n,t.name,t.levels,bndTs v.name t.kind t.args 0 at_⟩)]) (fun _=>True) [] [7,500] [] hE rfl rfl rfl ?_ (fun _ _=>⟨rfl,rfl⟩)
 refine loopP t.args (fun p=>[(8,.p (I p.length))]) (fun p=>[(500,.mu 35 5 t.args.length (encTs (bndTs v.name t.kind p 0 at_++t.args.drop p.length)))]) (fun _=>True) [8] [500] hE rfl rfl rfl ⟨Sub.refl _,rfl,rfl,rfl,rfl,rfl,trivial⟩ trivial (fun _=>fun _=>brTe ⟨(),trivial,leX.by (Le.muPC 7 4 500 rfl rfl rfl rfl rfl) (leX.same ⟨?_,rfl,rfl,rfl,trivial⟩)⟩) (fun p a q hl _=>?_)
 ·rw [List.drop_length,List.append_nil];rfl
 ·have hlt:=zh hl
  have hbd:=z6u t.kind p.length
  have hda:=z1c (zf hl)
  have hsn:=zsm v.name t.kind p a at_
  have hlen:=zeo v.name t.kind p 0 at_
  have hdr:t.args.drop p.length=a::q:=by rw [hl];simp
  have hdr2:t.args.drop (p++[a]).length=q:=by rw [hl];simp
  have hml:(encTs (bndTs v.name t.kind p 0 at_++t.args.drop p.length)).length=t.args.length:=by rw [zc,List.length_append,hlen,List.length_drop];omega
  refine fun _=>brT' hl (idxT hl (call0 (z4y _ _) (And.intro (by omega) (call0 (ih a (zf hl) (at_+bndF t.kind p.length) (by omega) (by omega)) (And.intro (by omega) (And.intro (by rw [hml];omega) (pst1 (i:=p.length) (by rw [hml];exact hlt) (And.intro (by omega) ?_))))))))
  refine ⟨trivial,Sub.i (by simp),?_,rfl,rfl,rfl,rfl,trivial⟩
  have:(encTs (bndTs v.name t.kind p 0 at_++t.args.drop p.length)).set p.length (rowT (bndT v.name a (at_+bndF t.kind p.length)))=encTs (bndTs v.name t.kind (p++[a]) 0 at_++t.args.drop (p++[a]).length):=by
   rw [hsn,hdr,hdr2]
   simp only [zb,List.map_append,List.map_cons,List.append_assoc]
   rw [List.set_append_right _ _ (by simp [hlen])]
   simp [hlen]
  exact congrArg (Ob.mu 35 5 t.args.length) this
termination_by SizeOf.sizeOf t
decreasing_by exact Trm.lt ha
theorem z6k {t:Trm} (h:okT t=true):Cp t:=Cp.of (z2v h).w (by omega) (by have:=(z2v h).d;omega)
theorem zal (vs ts:List Trm) (t u:Trm) (h:pisF vs ts t=some u) (hl:vs.length<=1000000):PCon Tryz.prog 152 [.p (.sl 5 (encTs vs)),.p (.sl 5 (encTs ts)),tv t] (tv u):=by
 have hlen:=zq3 vs ts u h
 refine cv [] [] [] Tryz.func152 27 Tryz.ntmps152 rfl rfl fun cx hE=>fun _=>And.intro (by simp;omega) ?_
 refine loop2 (fun (k:Nat) (w:Trm)=>[(7,.p (I ((k:Int)-1)))]) (fun k w=>[(5,ceT w)]) (fun k w=>k<=vs.length/\pisF (vs.drop k) (ts.drop k) t=some w) (fun k w=>k) vs.length t [7] [5] hE rfl rfl rfl ⟨Sub.i (by simp),rfl,rfl,trivial⟩ ⟨Nat.le_refl _,by rw [List.drop_length,hlen,List.drop_length];rfl⟩ fun k w ⟨g1,g2⟩=>?_
 refine brS (fun h0=>?_) (fun h0=>?_)
 ·obtain ⟨j,rfl⟩:∃ j,k=j+1:=⟨k-1,by omega⟩
  have hj:vs[j]?=some (vs[j]'(by omega)):=List.getElem?_eq_getElem (by omega)
  have hk:ts[j]?=some (ts[j]'(by omega)):=List.getElem?_eq_getElem (by omega)
  obtain ⟨w',hw'⟩:=zl6 vs ts u h j
  have d1:vs.drop j=vs[j]'(by omega)::vs.drop (j+1):=List.drop_eq_getElem_cons (by omega)
  have d2:ts.drop j=ts[j]'(by omega)::ts.drop (j+1):=List.drop_eq_getElem_cons (by omega)
  have hw2:=hw'
  rw [d1,d2] at hw2
  obtain ⟨o1,o2,rfl⟩:=zvb hw2 g2
  have e1:(encTs vs)[j]?=some (rowT (vs[j]'(by omega))):=by rw [zb,List.getElem?_map,hj];rfl
  have e2:(encTs ts)[j]?=some (rowT (ts[j]'(by omega))):=by rw [zb,List.getElem?_map,hk];rfl
  have hi:((j+1:Nat):Int)-1=(j:Nat):=by omega
  rw [hi]
  have hf:=z2v o1
  refine idxN e2 (idxN e1 (call0 (zh2 _ 1099511627776 (by omega) w 0 (by omega) (by have:=hf.d;omega) hf.w) (call0 (zil _ _ (z6k o2)) (And.intro (by omega) ⟨j,_,⟨by omega,hw'⟩,by omega,Sub.i rfl,rfl,rfl,trivial⟩))))
 ·obtain rfl:k=0:=by omega
  rw [List.drop_zero,List.drop_zero,h] at g2
  cases g2
  exact ⟨rfl,rfl⟩
def partV (R:List Trm×List Trm×Trm×Nat):AV:=.tp [.p (.sl 5 (encTs R.1)),.p (.sl 5 (encTs R.2.1)),tv R.2.2.1]
set_option maxHeartbeats 2000000 in
theorem zbm (k:Nat) (t:Trm) (most:Int) (R:List Trm×List Trm×Trm×Nat) (h:partF k t most=some R):Con Tryz.prog 151 [.ptr 1000 0,tv t,.p (I most)] (mkO k) (fun r o=>r=partV R/\o=mkO R.2.2.2):=by
 refine cv [] [2] [1000] Tryz.func151 47 Tryz.ntmps151 rfl rfl fun cx hE=>?_
 refine seq0 [(9,.ts 509 5 (encTs R.1)),(10,.ts 510 5 (encTs R.2.1))] [(4,ceT R.2.2.1),(1000,.ce 182 [.p (I R.2.2.2)]),(509,.ar 35 5 (encTs R.1).length),(510,.ar 35 5 (encTs R.2.1).length)] [9,10] [4,1000,509,510] [2] hE rfl rfl rfl ?_ ⟨rfl,rfl⟩
 refine tokV 9 509 35 5 hE rfl rfl rfl ?_
 refine tokV 10 510 35 5 hE rfl rfl rfl ?_
 refine loop5 (fun (g k:Nat) (u:Trm) (vs ts:List Trm)=>[(9,.ts 509 5 (encTs vs)),(10,.ts 510 5 (encTs ts))]) (fun g k u vs ts=>[(4,ceT u),(1000,.ce 182 [.p (I k)]),(509,.ar 35 5 (encTs vs).length),(510,.ar 35 5 (encTs ts).length)]) (fun g k u vs ts=>partL most g k u vs ts=some R/\vs.length+g=100/\ts.length=vs.length) (fun g k u vs ts=>g) 100 k t [] [] [9,10] [4,1000,509,510] hE rfl rfl rfl ⟨Sub.refl _,Sub.refl _,rfl,rfl,rfl,rfl,rfl,trivial⟩ ⟨h,by simp,rfl⟩ fun g k u vs ts ⟨g1,g2,g3⟩=>?_
 have hv:=zc vs
 have ht:=zc ts
 refine seq0 [(24,.p (B (decide (u.kind=5/\(most<0\/(vs.length:Int)<most)))))] [] [24] [] [] hE rfl rfl rfl ?_ ?_
 ·refine brS (fun h1=>brS (fun h2=>⟨Sub.bt ⟨h1,.inl h2⟩,rfl,rfl,rfl,rfl,rfl,trivial⟩) (fun h2=>fun _=>⟨Sub.bd (by simp [h1,h2]),rfl,rfl,rfl,rfl,rfl,trivial⟩)) (fun h1=>⟨Sub.bf (by simp [h1]),rfl,rfl,rfl,rfl,rfl,trivial⟩)
 cases g with
 | zero=>simp [partL] at g1
 | succ g =>
   simp only [partL] at g1
   have hok:okT u=true:=by
    cases hx:okT u with
    | true=>rfl
    | false=>rw [if_pos hx] at g1;cases g1
   have hf:=z2v hok
   rw [if_neg (by rw [hok];simp)] at g1
   refine brS (fun h1=>?_) (fun h1=>?_)
   ·rw [if_pos h1] at g1
    obtain ⟨x,y,ha⟩:=z4h hf.w (.inr (.inr h1.1))
    cases hn:nextF k with
    | none=>rw [hn] at g1;cases g1
    | some v =>
      rw [hn,ha] at g1
      obtain ⟨c1,c2,c3⟩:=zqq hn
      have hy:=hf.sub (a:=y) (by rw [ha];simp)
      have r0:(encTs u.args)[0]?=some (rowT x):=by rw [ha];simp [zb]
      have r1:(encTs u.args)[1]?=some (rowT y):=by rw [ha];simp [zb]
      refine call1 [1000] (zf6 k v hn) rfl rfl (za _) (app1 (by simp;omega) (by simp;omega) (idxN (i:=0) r0 (app1 (by simp;omega) (by simp;omega) (idxN (i:=1) r1 (call0 (zck 1099511627776 (by omega) v c1 (by omega) y hy.w (by have:=hy.d;omega)) ?_)))))
      exact ⟨g,k+1,opnT [v] y 0,vs++[v],ts++[x],⟨g1,by simp;omega,by simp;omega⟩,by omega,Sub.tse (z1h _ _),Sub.tse (z1h _ _),rfl,rfl,ar_eq (by simp),ar_eq (by simp),rfl,trivial⟩
   ·rw [if_neg h1] at g1
    cases g1
    exact ⟨Sub.refl _,Sub.refl _,rfl,rfl,rfl,rfl,rfl,trivial⟩
theorem zzd {h r:Trm} {l:List Trm} (e:appO h l=some r):okT h=true/\(∀ a∈l,okT a=true)/\l.length<=1000/\r=appT h l:=by
 unfold appO at e
 split at e
 ·rename_i hk;cases e;exact ⟨hk.1,by simpa using hk.2.1,hk.2.2,rfl⟩
 ·cases e
theorem z2m {h r:Trm} {l:List Trm} (e:appO h l=some r):PCon Tryz.prog 77 [tv h,.p (.sl 5 (encTs l))] (tv r):=by
 obtain ⟨h1,h2,h3,rfl⟩:=zzd e
 exact z3h h (z6k h1) l (fun a ha=>z6k (h2 a ha)) (by omega)
theorem zsu (n:Nat) (l:List Trm):List.drop n (encTs l)=encTs (l.drop n):=by simp [zb]
theorem zf7 {h r:Trm} {l:List Trm} {n:Nat} (e:appO h (l.drop n)=some r):PCon Tryz.prog 77 [tv h,.p (.sl 5 (List.drop n (encTs l)))] (tv r):=by
 rw [zsu];exact z2m e
theorem zja {d:Dcl} {c:Trm} {R:List Trm×List Trm×Nat}:∀ (rs:List Bool) (fs ts:List Trm) (k:Nat) (vs vt:List Trm),minL d c rs fs ts k vs vt=some R->rs.length=fs.length/\ts.length=fs.length
 | [],[],[],k,vs,vt,h=>⟨rfl,rfl⟩
 | r :: rs,f::fs,t::ts,k,vs,vt,h=>by
   unfold minL at h
   split at h
   ·have:=zja rs fs ts k vs vt h;simp;omega
   ·split at h
    ·cases h
    ·split at h
     ·cases h
     ·split at h
      ·split at h
       ·split at h
        ·cases h
        ·have:=zja rs fs ts _ _ _ h;simp;omega
       ·cases h
      ·cases h
 | [],f::fs,ts,k,vs,vt,h=>by simp [minL] at h
 | [],[],t::ts,k,vs,vt,h=>by simp [minL] at h
 | r::rs,[],ts,k,vs,vt,h=>by simp [minL] at h
 | r::rs,f::fs,[],k,vs,vt,h=>by simp [minL] at h
theorem zwk {d:Dcl} {c f t:Trm} {r:Bool} {rs:List Bool} {fs ts vs vt:List Trm} {k:Nat} {R:List Trm×List Trm×Nat} (h:minL d c (r::rs) (f::fs) (t::ts) k vs vt=some R) :
  (r=false/\minL d c rs fs ts k vs vt=some R)\/(r=true/\∃ P v h1 h2 ty,partF k t (-1)=some P/\nextF P.2.2.2=some v/\appO c ((argsT P.2.2.1).drop d.count.toNat)=some h1/\appO f P.1=some h2/\okT h2=true/\okT P.2.2.1=true/\d.count.toNat<=(argsT P.2.2.1).length/\pisF P.1 P.2.1 (mkA h1 h2)=some ty/\minL d c rs fs ts (P.2.2.2+1) (vs++[v]) (vt++[ty])=some R):=by
 unfold minL at h
 split at h
 ·rename_i hr;exact .inl ⟨hr,h⟩
 ·rename_i hr
  refine .inr ⟨by simpa using hr,?_⟩
  split at h
  ·cases h
  ·rename_i xs xt below k1 hp
   split at h
   ·cases h
   ·rename_i v hv
    split at h
    ·rename_i h1 h2 e1 e2
     split at h
     ·rename_i hk
      split at h
      ·cases h
      ·rename_i ty hty
       exact ⟨(xs,xt,below,k1),v,h1,h2,ty,hp,hv,e1,e2,hk.1,hk.2.1,hk.2.2,hty,h⟩
     ·cases h
    ·cases h
theorem zze {d:Dcl} {x:InfV} {n k k2:Nat} {ps:List Trm} {c ty:Trm} (h:minF d x n ps c k=some (ty,k2)) :
  ∃ t0 P vs vt h1 made h2,putsF ps (d.ctors.getD n default).ty=some t0/\partF k t0 (-1)=some P/\okT P.2.2.1=true/\d.count.toNat<=(argsT P.2.2.1).length/\minL d c (x.recs.getD n []) P.1 P.2.1 P.2.2.2 P.1 P.2.1=some (vs,vt,k2) /\
    appO (cstT (d.ctors.getD n default).name (parsF d.params.toNat)) ps=some h1/\appO h1 P.1=some made/\appO c ((argsT P.2.2.1).drop d.count.toNat)=some h2/\okT made=true/\pisF vs vt (mkA h2 made)=some ty:=by
 unfold minF at h
 split at h
 ·cases h
 ·rename_i t0 ht0
  split at h
  ·cases h
  ·rename_i fs ts e k1 hp
   split at h
   ·rename_i hk
    split at h
    ·cases h
    ·rename_i vs vt k2' hm
     split at h
     ·cases h
     ·rename_i h1 e1
      split at h
      ·rename_i made h2 e2 e3
       split at h
       ·rename_i hok
        split at h
        ·cases h
        ·rename_i ty' hty
         cases h
         exact ⟨t0,(fs,ts,e,k1),vs,vt,h1,made,h2,ht0,hp,hk.1,hk.2,hm,e1,e2,e3,hok,hty⟩
       ·cases h
      ·cases h
   ·cases h
theorem zlo {most:Int}:∀ (g k:Nat) (t:Trm) (vs ts:List Trm) (R:List Trm×List Trm×Trm×Nat),partL most g k t vs ts=some R->ts.length=vs.length->R.1.length<=vs.length+g/\R.2.1.length=R.1.length
 | 0,_,_,_,_,_,h,_=>by simp [partL] at h
 | g + 1,k,t,vs,ts,R,h,hl=>by
   unfold partL at h
   split at h
   ·cases h
   ·split at h
    ·split at h
     ·cases h
     ·have:=zlo g _ _ _ _ R h (by simp;omega)
      simp at this;omega
    ·cases h;simp;omega
theorem z7s {k:Nat} {t:Trm} {most:Int} {R:List Trm×List Trm×Trm×Nat} (h:partF k t most=some R):R.1.length<=100/\R.2.1.length=R.1.length:=by
 have:=zlo 100 k t [] [] R h rfl;simpa using this
theorem zsv {p t r:Trm} {ps:List Trm} (h:putsF (p::ps) t=some r):okT t=true/\okT p=true/\t.args.length=2/\putsF ps (opnT [p] (t.args.getD 1 zT) 0)=some r:=by
 unfold putsF at h
 split at h
 ·rename_i hk;exact ⟨hk.1,hk.2.1,hk.2.2,h⟩
 ·cases h
set_option maxHeartbeats 8000000 in
theorem zsw (d:Dcl) (hd:FamD d) (x:InfV) (n:Nat) (hn:n<d.ctors.length) (hx:n<x.recs.length) (hps:d.params<=3) (ps:List Trm) (cn:Nat) (hc:d.count=cn) (hpl:ps.length=cn) (hcn:cn<=1000) (c:Trm) (k k2:Nat) (ty:Trm) (h:minF d x n ps c k=some (ty,k2)) :
  Con Tryz.prog 154 [.ptr 1000 0,dv d,infV x,.p (I n),.p (.sl 5 (encTs ps)),tv c] (mkO k) (fun r o=>r=tv ty/\o=mkO k2):=by
 obtain ⟨t0,P,VS,VT,h1,made,h2,ht0,hp,hok,hal,hm,a1,a2,a3,hmk,hty⟩:=zze h
 have hct:d.ctors[n]?=some (d.ctors[n]):=List.getElem?_eq_getElem hn
 have hgd:d.ctors.getD n default=d.ctors[n]:=by simp [List.getD_eq_getElem?_getD,hct]
 have hxr:x.recs[n]?=some (x.recs[n]):=List.getElem?_eq_getElem hx
 have hgx:x.recs.getD n []=x.recs[n]:=by simp [List.getD_eq_getElem?_getD,hxr]
 rw [hgd] at ht0 a1
 rw [hgx] at hm
 obtain ⟨l1,l2⟩:=z7s hp
 obtain ⟨l3,l4⟩:=zja _ _ _ _ _ _ hm
 have hdc:d.count.toNat=cn:=by omega
 have rC:(encCs d.ctors)[n]?=some (rowC (d.ctors[n])):=by simp [encCs,hct]
 refine cv [63,66] [] [1000] Tryz.func154 149 Tryz.ntmps154 rfl rfl fun cx hE=>idxN rC ?_
 refine loop2 (fun (i:Nat) (u:Trm)=>[(14,.p (I i))]) (fun i u=>[(13,ceT u)]) (fun i u=>i<=cn/\putsF (ps.drop i) u=some t0) (fun i u=>cn-i) 0 (d.ctors[n]).ty [14] [13] hE rfl rfl rfl ⟨Sub.refl _,rfl,rfl,rfl,rfl,rfl,rfl,trivial⟩ ⟨by omega,ht0⟩ fun i u ⟨g1,g2⟩=>?_
 refine brS (fun hi=>?_) (fun hi=>?_)
 ·have hpi:ps[i]?=some (ps[i]'(by omega)):=List.getElem?_eq_getElem (by omega)
  have d1:ps.drop i=ps[i]'(by omega)::ps.drop (i+1):=List.drop_eq_getElem_cons (by omega)
  rw [d1] at g2
  obtain ⟨o1,o2,o3,o4⟩:=zsv g2
  obtain ⟨x',y,ha⟩:=z4p o3
  rw [ha] at o4
  have hf:=z2v o1
  have hy:=hf.sub (a:=y) (by rw [ha];simp)
  have r1:(encTs u.args)[1]?=some (rowT y):=by rw [ha];simp [zb]
  have r2:(encTs ps)[i]?=some (rowT (ps[i]'(by omega))):=by simp [zb,hpi]
  exact idxN (i:=1) r1 (idxN r2 (call0 (zck 1099511627776 (by omega) _ (z6k o2) (by have:=(z2v o2).d;omega) y hy.w (by have:=hy.d;omega)) (And.intro (by omega) ⟨i+1,opnT [ps[i]'(by omega)] y 0,⟨by omega,o4⟩,by omega,Sub.i (by omega),rfl,rfl,rfl,rfl,rfl,rfl,trivial⟩)))
 have hic:i=cn:=by omega
 subst hic
 rw [List.drop_of_length_le (by omega)] at g2
 simp only [putsF,Option.some.injEq] at g2
 subst g2
 have hfe:=z2v hok
 have e1:=zc P.1
 have e2:=zc P.2.1
 refine call1 [1000] (zbm k u (-1) P hp) rfl rfl (za _) (call0 (z9f hfe (by omega)) (app2 (by simp) (by simp;omega) (by simp;omega) (app2 (by simp) (by simp;omega) (by simp;omega) ?_)))
 refine loop4 (fun (i k:Nat) (vs vt:List Trm)=>[(22,.p (I i)),(20,.ts 63 5 (encTs vs)),(21,.ts 66 5 (encTs vt))]) (fun i k vs vt=>[(1000,.ce 182 [.p (I k)]),(63,.ar 35 5 (encTs vs).length),(66,.ar 35 5 (encTs vt).length)]) (fun i k vs vt=>i<=P.1.length/\minL d c ((x.recs[n]).drop i) (P.1.drop i) (P.2.1.drop i) k vs vt=some (VS,VT,k2)/\vs.length<=P.1.length+i/\vt.length<=P.1.length+i) (fun i k vs vt=>P.1.length-i) 0 P.2.2.2 P.1 P.2.1 [22,20,21] [1000,63,66] hE rfl rfl rfl ⟨Sub.refl _,Sub.tse (by simp),Sub.tse (by simp),rfl,ar_eq (by simp),ar_eq (by simp),rfl,rfl,rfl,rfl,rfl,rfl,rfl,trivial⟩ ⟨by omega,hm,by omega,by omega⟩ fun i k vs vt ⟨q1,q2,q3,q4⟩=>?_
 have hvl:=zc vs
 have htl:=zc vt
 refine fun _=>brS (fun hlt'=>?_) (fun hlt'=>?_)
 ·have hlt:i<P.1.length:=by omega
  have f1:P.1[i]?=some (P.1[i]):=List.getElem?_eq_getElem hlt
  have f2:P.2.1[i]?=some (P.2.1[i]'(by omega)):=List.getElem?_eq_getElem (by omega)
  have f3:(x.recs[n])[i]?=some ((x.recs[n])[i]'(by omega)):=List.getElem?_eq_getElem (by omega)
  have d1:P.1.drop i=P.1[i]::P.1.drop (i+1):=List.drop_eq_getElem_cons (by omega)
  have d2:P.2.1.drop i=P.2.1[i]'(by omega)::P.2.1.drop (i+1):=List.drop_eq_getElem_cons (by omega)
  have d3:(x.recs[n]).drop i=(x.recs[n])[i]'(by omega)::(x.recs[n]).drop (i+1):=List.drop_eq_getElem_cons (by omega)
  rw [d1,d2,d3] at q2
  have w1:(rwBB x.recs)[n]?=some [.sl 1 (rwB (x.recs[n]))]:=by simp [rwBB,hxr]
  have w2:(rwB (x.recs[n]))[i]?=some [B ((x.recs[n])[i]'(by omega))]:=by simp [rwB,f3]
  have w3:(encTs P.1)[i]?=some (rowT (P.1[i])):=by simp [zb,f1]
  have w4:(encTs P.2.1)[i]?=some (rowT (P.2.1[i]'(by omega))):=by simp [zb,f2]
  refine idxN w1 (idxN w2 ?_)
  rcases zwk q2 with ⟨hr,hm'⟩ | ⟨hr,Q,v,b1,b2,ty',hQ,hv,hb1,hb2,ok2,okb,hbl,hty',hm'⟩
  ·exact brt (by rw [hr];rfl) (And.intro (by omega) ⟨i+1,k,vs,vt,⟨by omega,hm',by omega,by omega⟩,by omega,Sub.i (by omega),Sub.refl _,Sub.refl _,rfl,rfl,rfl,rfl,rfl,rfl,rfl,rfl,rfl,rfl,trivial⟩)
  ·obtain ⟨z1,z2⟩:=z7s hQ
   refine brf (by rw [hr];rfl) (idxN w4 (call1 [1000] (zbm k _ (-1) Q hQ) rfl rfl (za _) (call0 (z9f (z2v okb) (by omega)) ?_)))
   refine And.intro (by simp;omega) (call0 (zf7 hb1) (idxN w3 (call0 (z2m hb2) (call0 (z1o _ _ (z6k ok2)) ?_))))
   refine callW [1000] 1000 _ (zf6 _ v hv) rfl rfl (za _) rfl rfl (app1 (by simp;omega) (by simp;omega) (call0 (zal _ _ _ _ hty' (by omega)) (app1 (by simp;omega) (by simp;omega) (And.intro (by omega) ?_))))
   exact ⟨i+1,Q.2.2.2+1,vs++[v],vt++[ty'],⟨by omega,hm',by simp;omega,by simp;omega⟩,by omega,Sub.i (by omega),Sub.tse (z1h _ _),Sub.tse (z1h _ _),rfl,ar_eq (by simp),ar_eq (by simp),rfl,rfl,rfl,rfl,rfl,rfl,rfl,trivial⟩
 ·have hie:i=P.1.length:=by omega
  rw [List.drop_of_length_le (by omega),List.drop_of_length_le (by omega),List.drop_of_length_le (by omega)] at q2
  simp only [minL,Option.some.injEq,Prod.mk.injEq] at q2
  obtain ⟨rfl,rfl,rfl⟩:=q2
  have hcs:(d.ctors[n]).name.size<=1000000:=(hd.c _ (List.getElem_mem hn)).2
  refine idxN rC (call0 (z9e d.params (by omega)) (call0 (z3s _ _ (by simp;omega) (zf3 _)) (call0 (z2m a1) (call0 (z2m a2) ?_))))
  refine And.intro (by simp;omega) (call0 (zf7 a3) (call0 (z1o _ _ (z6k hmk)) (call0 (zal _ _ _ _ hty (by omega)) ⟨rfl,rfl⟩)))
end Go.Ab.YtpneaijfkefeaaaGreat
set_option linter.unusedVariables false
set_option linter.unusedSimpArgs false
namespace Go.Ab
open Go Go.RowKit
theorem Con.at1 {P:Program} {f:Nat} {args args':List AV} {objs objs' o1 o2:Obs} {x x':AV} (h:Con P f args objs (fun r o=>r=x/\o=objs')) (a b:Nat) (h1:AV.renL (Ab.sw a b) args=args') (h2:renO (Ab.sw a b) objs=o1) (h3:x.ren (Ab.sw a b)=x') (h4:renO (Ab.sw a b) objs'=o2) :
  Con P f args' o1 (fun r o=>r=x'/\o=o2):=by
 have hh:=h.sw a b
 rw [h1,h2] at hh
 have e:(fun r o=>∃ r0 o0,(r0=x/\o0=objs')/\r=r0.ren (Ab.sw a b)/\o=renO (Ab.sw a b) o0)=(fun (r:AV) (o:Obs)=>r=x'/\o=o2):=by
  funext r o
  apply propext
  constructor
  ·rintro ⟨_,_,⟨rfl,rfl⟩,rfl,rfl⟩;exact ⟨h3,h4⟩
  ·rintro ⟨rfl,rfl⟩;exact ⟨_,_,⟨rfl,rfl⟩,h3.symm,h4.symm⟩
 rw [e] at hh
 exact hh
end Go.Ab
namespace Go.Ab.YtpneaijfkefeaaaGreat
open Go Go.RowKit Go.Ab Go.Proofs
def mkK (b k:Nat):Obs:=[(b,.ce 182 [.p (I k)])]
theorem z8o (k:Nat) (v:Trm) (h:nextF k=some v):Con Tryz.prog 153 [.ptr 35 0] (mkK 35 k) (fun r o=>r=tv v/\o=mkK 35 (k+1)) :=
 (zf6 k v h).at1 1000 35 rfl rfl rfl rfl
theorem zbn (k:Nat) (t:Trm) (most:Int) (R:List Trm×List Trm×Trm×Nat) (h:partF k t most=some R):Con Tryz.prog 151 [.ptr 35 0,tv t,.p (I most)] (mkK 35 k) (fun r o=>r=partV R/\o=mkK 35 R.2.2.2) :=
 (zbm k t most R h).at1 1000 35 rfl rfl rfl rfl
theorem zo3 (d:Dcl) (hd:FamD d) (x:InfV) (n:Nat) (hn:n<d.ctors.length) (hx:n<x.recs.length) (hps:d.params<=3) (ps:List Trm) (cn:Nat) (hc:d.count=cn) (hpl:ps.length=cn) (hcn:cn<=1000) (c:Trm) (k k2:Nat) (ty:Trm) (h:minF d x n ps c k=some (ty,k2)) :
  Con Tryz.prog 154 [.ptr 35 0,dv d,infV x,.p (I n),.p (.sl 5 (encTs ps)),tv c] (mkK 35 k) (fun r o=>r=tv ty/\o=mkK 35 k2) :=
 (zsw d hd x n hn hx hps ps cn hc hpl hcn c k k2 ty h).at1 1000 35 rfl rfl rfl rfl
theorem zlp {d:Dcl} (h:famA d=0):0<=d.params/\d.params<=3/\0<=d.count/\d.count<=20/\d.ctors.length<=5:=by
 have hA:famA d=if d.kind≠3\/d.family≠⟨#[]⟩\/eqT d.value zT=false\/d.params<0\/d.params>3\/d.count<0\/d.count>20\/d.ctors.length>5 then 1
  else if ((famN d).all mayF)=false then 9 else if dupN [] (famN d)=true then 10
  else if rMayF d.type 0 d.params≠0 then rMayF d.type 0 d.params else mayCs d.params d.ctors:=rfl
 rcases Classical.em (d.kind≠3\/d.family≠⟨#[]⟩\/eqT d.value zT=false\/d.params<0\/d.params>3\/d.count<0\/d.count>20\/d.ctors.length>5) with h' | h'
 ·rw [if_pos h'] at hA;omega
 ·simp only [not_or] at h';omega
theorem zh3 {d:Dcl} (h:(lookF d).2=0):famA d=0:=by
 unfold lookF at h
 split at h
 ·exact h
 ·omega
theorem encT1 (a:Trm):encTs [a]=[rowT a]:=by simp [zb]
theorem zh4 (d:Dcl):∀ l:Lvl,(l=zL\/l=⟨4,d.params,[]⟩)->PCon Tryz.prog 42 [lv l] (tv ⟨1,0,⟨#[]⟩,[l],[]⟩):=fun l hl=>z5k l (by rcases hl with rfl | rfl<;>simp [narL,narLs,zL])
set_option maxHeartbeats 8000000 in
theorem zwl (d:Dcl) (hd:FamD d) (hlv:∀ l∈(piE d.type).levels,mayLF l 3=true) (t:Trm) (e:Int) (h:typeF d=some (t,e)):PCon Tryz.prog 109 [dv d] (.tp [tv t,.p (I e)]):=by
 refine cv [84,90] [10] [] Tryz.func109 149 Tryz.ntmps109 rfl rfl fun cx hE=>call0 (zlm d hd hlv) (brS (fun h0=>?_) (fun h0'=>?_))
 ·have h0':(lookF d).2≠0:=h0
  unfold typeF at h
  rw [if_pos h0'] at h
  cases h
  exact ⟨rfl,rfl⟩
 have h0:(lookF d).2=0:=Classical.not_not.1 h0'
 obtain ⟨rfl,P1,whole,P2,v,wi,m0,motive,c,M,P3,major,wj,cj,e1,k1,k2,e2,e3,e4,e5,e6,e7,e8,e9,e10,e11,e12,e13,e14⟩:=zvc h h0
 have hb:=zlp (zh3 h0)
 obtain ⟨cn,hc⟩:∃ cn:Nat,d.count=cn:=⟨d.count.toNat,by omega⟩
 have hpl:P1.1.length=cn:=by omega
 have hn:=hd.n
 obtain ⟨l1,l2⟩:=z7s e1
 obtain ⟨l3,l4⟩:=z7s e3
 obtain ⟨l5,l6⟩:=z7s e10
 refine call0 (z9e d.params (by omega)) (call0 (z3s d.name _ (by simp;omega) (zf3 _)) ?_)
 refine call1 [35] (zbn 0 d.type d.count P1 e1) rfl rfl (za _) (call0 (z2m e2) (call0 zaf (call0 (zh4 d zL (.inl rfl)) ?_)))
 refine seq0 [] [(12,ceT (sortR d))] [] [12] [] hE rfl rfl rfl ?_ ?_
 ·refine brB (fun hl=>call0 (z8g d.params) (call0 (zh4 d _ (.inr rfl)) ⟨?_,rfl,rfl,rfl,rfl,rfl,rfl,rfl,trivial⟩)) (fun hl=>⟨?_,rfl,rfl,rfl,rfl,rfl,rfl,rfl,trivial⟩)
  ·have hl':(lookF d).1.large=true:=hl
   unfold sortR;rw [if_pos hl'];rfl
  ·have hl':¬ (lookF d).1.large=true:=by rw [show (lookF d).1.large=false from hl];simp
   unfold sortR;rw [if_neg hl'];rfl
 have hp1:PCon Tryz.prog 152 [.p (.sl 5 [rowT v]),.p (.sl 5 [rowT wi]),tv (sortR d)] (tv m0):=by
  have:=zal [v] [wi] _ _ e6 (by simp)
  rw [encT1,encT1] at this;exact this
 refine call1 [35] (zbn _ _ (-1) P2 e3) rfl rfl (za _) ?_
 refine callW [35] 35 _ (z8o _ v e4) rfl rfl (za _) rfl rfl (call0 (z2m e5) (call0 hp1 (call0 (zal _ _ _ _ e7 (by omega)) ?_)))
 refine call1 [35] (z8o _ c e8) rfl rfl (za _) ?_
 have q1:=zc P1.1
 have q2:=zc P1.2.1
 refine app2 (by simp) (by simp;omega) (by simp;omega) (app2 (by simp) (by simp;omega) (by simp;omega) (app2 (by simp) (by simp;omega) (by simp;omega) (app2 (by simp) (by simp;omega) (by simp;omega) ?_)))
 refine loop4 (fun (n k:Nat) (vs ts:List Trm)=>[(20,.p (I n)),(18,.ts 84 5 (encTs vs)),(19,.ts 90 5 (encTs ts))]) (fun n k vs ts=>[(35,.ce 182 [.p (I k)]),(84,.ar 35 5 (encTs vs).length),(90,.ar 35 5 (encTs ts).length)]) (fun n k vs ts=>n<=d.ctors.length/\minsF d (lookF d).1 P1.1 c (d.ctors.length-n) n k vs ts=some M/\vs.length<=200+n/\ts.length<=200+n) (fun n k vs ts=>d.ctors.length-n) 0 (P2.2.2.2+2) (P1.1++[c]) (P1.2.1++[motive]) [20,18,19] [35,84,90] hE rfl rfl rfl ⟨Sub.refl _,Sub.tse (by simp [zb,rowT]),Sub.tse (by simp [zb,rowT]),rfl,ar_eq (by simp),ar_eq (by simp),rfl,rfl,rfl,rfl,rfl,rfl,rfl,rfl,rfl,rfl,trivial⟩ ⟨by omega,e9,by simp;omega,by simp;omega⟩ fun n k vs ts ⟨g1,g2,g3,g4⟩=>?_
 have hvl:=zc vs
 have htl:=zc ts
 refine fun _=>brS (fun hlt'=>?_) (fun hlt'=>?_)
 ·have hlt:n<d.ctors.length:=by have:=z7k d.ctors;omega
  rw [show d.ctors.length-n=(d.ctors.length-(n+1))+1 by omega] at g2
  obtain ⟨v',t',k1',b1,b2,b3⟩:=zsn g2
  refine callW [35] 35 _ (z8o _ v' b1) rfl rfl (za _) rfl rfl (app1 (by simp;omega) (by simp;omega) ?_)
  refine callW [35] 35 _ (zo3 d hd (lookF d).1 n hlt (by omega) hb.2.1 P1.1 cn hc hpl (by omega) c _ _ _ b2) rfl rfl (za _) rfl rfl (app1 (by simp;omega) (by simp;omega) (And.intro (by omega) ?_))
  exact ⟨n+1,k1',vs++[v'],ts++[t'],⟨by omega,b3,by simp;omega,by simp;omega⟩,by omega,Sub.i (by omega),Sub.tse (z1h _ _),Sub.tse (z1h _ _),rfl,ar_eq (by simp),ar_eq (by simp),rfl,rfl,rfl,rfl,rfl,rfl,rfl,rfl,rfl,rfl,trivial⟩
 ·have hne:n=d.ctors.length:=by have:=z7k d.ctors;omega
  rw [show d.ctors.length-n=0 by omega] at g2
  simp only [minsF,Option.some.injEq] at g2
  subst g2
  obtain ⟨c1,c2,c3⟩:=zqq e11
  have q3:=zc P3.1
  have q4:=zc P3.2.1
  have hp2:PCon Tryz.prog 152 [.p (.sl 5 (encTs vs++encTs P3.1++[rowT major])),.p (.sl 5 (encTs ts++encTs P3.2.1++[rowT wj])),tv (mkA cj major)] (tv t):=by
   have:=zal _ _ _ _ e14 (by simp;omega)
   simp only [zb,List.map_append,List.map_cons,List.map_nil] at this ⊢;exact this
  refine call1 [35] (zbn _ _ (-1) P3 e10) rfl rfl (za _) ?_
  refine call1 [35] (z8o _ major e11) rfl rfl (za _) ?_
  refine app1 (by simp;omega) (by simp;omega) (app2 (by simp) (by simp;omega) (by simp;omega) (app1 (by simp;omega) (by simp;omega) (call0 (z2m e12) (app2 (by simp) (by simp;omega) (by simp;omega) ?_))))
  refine call0 (z2m e13) (call0 (z1o _ _ c1) (call0 hp2 ⟨rfl,rfl⟩))
end Go.Ab.YtpneaijfkefeaaaGreat
set_option linter.unusedVariables false
set_option linter.unusedSimpArgs false
namespace Go.Ab
open Go Go.RowKit
theorem Con.le2 {P:Program} {f:Nat} {args:List AV} {objs:Obs} {R R':AV->Obs->Prop} (h:Con P f args objs R) (k:∀ r o,R r o->∃ r' o',(∀ cx n,cx.objs0=objs->Le P cx n ⟨[(0,r)],o⟩ ⟨[(0,r')],o'⟩)/\zaw o' r'=true/\R' r' o'):Con P f args objs R':=by
 intro w M0 own vals hok harg
 refine (h w M0 own vals hok harg).mono ?_
 rintro e w' ⟨r,o,own',v,rfl,g1,g2,g3,g4,g5,g6,g7⟩
 obtain ⟨r',o',hle,hc,hr⟩:=k r o g1
 have rl:Rl P ⟨w,M0,own,objs⟩ 1 ⟨[(0,r)],o⟩ { tmps:=#[v],defers:=[] } w' own':=by
  refine { defs:=rfl,size:=rfl,ok:=g2,regs:=fun t x hx=>?_,stp:=g4,fix:=g5,fr:=g7 }
  simp only [get] at hx
  cases hb:Nat.beq 0 t with
  | true =>
    obtain rfl:=Nat.eq_of_beq_eq_true hb
    rw [hb] at hx
    cases hx
    exact g3
  | false=>rw [hb] at hx;cases hx
 obtain ⟨own2,r2⟩:=hle ⟨w,M0,own,objs⟩ 1 rfl _ _ ⟨own',rl⟩
 exact ⟨r',o',own2,v,rfl,hr,r2.ok,r2.regs 0 r' rfl,r2.stp,r2.fix,z7e hc,r2.fr⟩
theorem Sub.tsR {k sz:Nat} {xs ys:List (List PV)} (h:PSR xs ys):Sub (.ts k sz xs) (.ts k sz ys):=fun w M own hw v hv=>by
 cases hv with
 | ts h' ho=>exact .ts (PS.rows h w M v h') (fun n hn=>by rw [<- h.get.1];exact ho n hn)
theorem Sub.tsr' {k sz:Nat} {xs ys:List (List PV)} (h:PSR xs ys):Sub (.ts k sz xs) (.p (.sl sz ys)):=fun w M own hw v hv=>Sub.rows h w M own hw v (Sub.ts w M own hw v hv)
theorem PSL.rfl':∀ l:List PV,PSL l l
 | []=>trivial
 | x::l=>⟨PS.r x,PSL.rfl' l⟩
theorem PSR.snoc {x y:List PV} (h:PSL x y):∀ l:List (List PV),PSR (l++[x]) (l++[y])
 | []=>⟨h,trivial⟩
 | z::l=>⟨PSL.rfl' z,PSR.snoc h l⟩
end Go.Ab
namespace Go.Ab.YtpneaijfkefeaaaGreat
open Go Go.RowKit Go.Ab Go.Proofs
theorem PSL.dz (k p c:Int) (n f:ByteArray) (t:Trm):PSL [I k,I p,I c,St n,St f,I t.kind,I t.n,St t.name,.sl 3 (encLs t.levels),.sl 5 (encTs t.args),I 0,I 0,St ⟨#[]⟩,nilS,nilS,nilS] (rowD ⟨k,p,c,n,f,t,zT,[]⟩) :=
 ⟨PS.r _,PS.r _,PS.r _,PS.r _,PS.r _,PS.r _,PS.r _,PS.r _,PS.r _,PS.r _,PS.r _,PS.r _,PS.r _,PS.n,PS.n,PS.n,trivial⟩
def zz3w (R:List Dcl×Int):AV:=.tp [.p (.sl 16 (encDs R.1)),.p (I R.2)]
theorem zam (d:Dcl):∀ (l:List Ctr) (i:Nat),(ctrDs d l i).length=l.length
 | [],_=>rfl
 | c::r,i=>by simp [ctrDs,zam d r]
theorem zlq (d:Dcl):∀ (l q:List Ctr) (i:Nat),ctrDs d (l++q) i=ctrDs d l i++ctrDs d q (i+l.length)
 | [],q,i=>by simp [ctrDs]
 | c::r,q,i=>by simp only [List.cons_append,ctrDs,zlq d r q (i+1)];congr 3;simp;omega
set_option maxHeartbeats 4000000 in
theorem zsx (d:Dcl) (hd:FamD d) (hcp:CpD d) (hlv:∀ l∈(piE d.type).levels,mayLF l 3=true) (R:List Dcl×Int) (h:zgt d=some R):PCon Tryz.prog 55 [dv d] (zz3w R):=by
 unfold zgt at h
 split at h
 ·cases h
 rename_i t e ht
 refine cv [26] [12,1000013] [] Tryz.func55 73 Tryz.ntmps55 rfl rfl fun cx hE=>call0 (zwl d hd hlv t e ht) (brS (fun h0=>?_) (fun h0'=>?_))
 ·rw [if_pos h0] at h;cases h;exact ⟨rfl,rfl⟩
 have h0:e=0:=Classical.not_not.1 h0'
 rw [if_neg h0'] at h
 cases h
 have hl0:(lookF d).2=0:=by
  unfold typeF at ht
  split at ht
  ·cases ht;exact h0
  ·omega
 have hb:=zlp (zh3 hl0)
 have hn:=hd.n
 refine call0 (zlm d hd hlv) (call0 (zbc d hcp) ?_)
 refine loopP d.ctors (fun p=>[(9,.p (I p.length)),(8,.ts 26 16 (encDs (d::ctrDs d p 0)))]) (fun p=>[(26,.ar 89 16 (encDs (d::ctrDs d p 0)).length)]) (fun _=>True) [9,8] [26] hE rfl rfl rfl ⟨Sub.refl _,Sub.refl _,rfl,rfl,rfl,rfl,trivial⟩ trivial (fun _=>fun _=>brOut (by simp) ?_) (fun p a q hq _=>fun _=>brIn (by simp [hq]) ?_)
 ·refine seq0 [(10,.p (I (d.params+if (lookF d).1.large=true then 1 else 0)))] [] [10] [] [1000013] hE rfl rfl rfl ?_ ?_
  ·refine brB (fun hl=>And.intro (by omega) ⟨Sub.i ?_,rfl,rfl,rfl,rfl,trivial⟩) (fun hl=>⟨Sub.i ?_,rfl,rfl,rfl,rfl,trivial⟩)
   ·have hl':(lookF d).1.large=true:=hl
    rw [if_pos hl']
   ·have hl':¬ (lookF d).1.large=true:=by rw [show (lookF d).1.large=false from hl];simp
    rw [if_neg hl'];simp
  have hr:(⟨#[46,114,101,99]⟩:ByteArray).size=4:=rfl
  have hcl:=zam d d.ctors 0
  have e:encDs (d::(ctrDs d d.ctors 0++[⟨5,d.params+(if (lookF d).1.large=true then 1 else 0),0,d.name++recS,d.name,t,zT,[]⟩]))=encDs (d::ctrDs d d.ctors 0)++[rowD ⟨5,d.params+(if (lookF d).1.large=true then 1 else 0),0,d.name++recS,d.name,t,zT,[]⟩]:=by simp [encDs]
  refine join1 (A:=Unit) (fun _=>[(2,.p (.sl 16 (encDs (d::(ctrDs d d.ctors 0++[⟨5,d.params+(if (lookF d).1.large=true then 1 else 0),0,d.name++recS,d.name,t,zT,[]⟩]))))),(3,.p (I 0))]) (fun _=>[]) (fun _=>True) [2,3] [26] [] hE rfl rfl rfl ?_ (fun _ _=>⟨rfl,rfl⟩)
  refine And.intro (by omega) (app1 (by simp;omega) (by simp;omega) ⟨(),trivial,leX.same ⟨?_,Sub.refl _,rfl,rfl,rfl,trivial⟩⟩)
  rw [e]
  exact Sub.tsr' (PSR.snoc (PSL.dz _ _ _ _ _ _) _)
 ·have hlt:=zh hq
  have hcl:=zam d p 0
  refine idxN (z1m (f:=rowC) hq) (idxN (z1m (f:=rowC) hq) (call0 (z1k a.ty (hcp.c a (zf hq))) (app1 (by simp;omega) (by simp;omega) (And.intro (by omega) ⟨trivial,Sub.i (by simp),?_,ar_eq (by simp [zam]),rfl,rfl,rfl,trivial⟩))))
  have e:encDs (d::ctrDs d (p++[a]) 0)=encDs (d::ctrDs d p 0)++[rowD ⟨4,d.params,p.length,a.name,d.name,a.ty,zT,[]⟩]:=by rw [zlq];simp [ctrDs,encDs]
  rw [e]
  exact Sub.tsR (PSR.snoc (PSL.dz _ _ _ _ _ _) _)
end Go.Ab.YtpneaijfkefeaaaGreat
namespace Go.Ab.YtpneaijfkefeaaaGreat
open Go Go.RowKit Go.Ab Go.Proofs
def txtOK (s:ByteArray):Bool:=decide (s.size<=4000)&&(zgo s).isSome
theorem zz (s:ByteArray) (h:txtOK s=true):PCon Tryz.prog 33 [.p (St s)] (tv (trmOf s)):=by
 simp only [txtOK,Bool.and_eq_true,decide_eq_true_eq] at h
 exact zv1 s h.1 h.2
def flatP (cs:List (ByteArray×ByteArray)):List ByteArray:=cs.flatMap fun x=>[x.1,x.2]
@[simp] theorem zf8 (cs:List (ByteArray×ByteArray)):(flatP cs).length=2 * cs.length:=by
  induction cs with
  | nil=>rfl
  | cons a r ih=>simp [flatP] at ih ⊢;omega
def ctrP (cs:List (ByteArray×ByteArray)):List Ctr:=cs.map fun x=>⟨x.1,trmOf x.2⟩
@[simp] theorem zz4h (cs:List (ByteArray×ByteArray)):(ctrP cs).length=cs.length:=by simp [ctrP]
def famP (name:ByteArray) (p c:Int) (typ:ByteArray) (cs:List (ByteArray×ByteArray)):Dcl:=⟨3,p,c,name,⟨#[]⟩,trmOf typ,zT,ctrP cs⟩
def famOK (typ:ByteArray) (cs:List (ByteArray×ByteArray)):Bool:=txtOK typ&&(decide (cs.length<=1000)&&cs.all fun x=>txtOK x.2)
theorem z2f (name:ByteArray) (p c:Int) (typ:ByteArray) (cs:List (ByteArray×ByteArray)) (h:famOK typ cs=true) :
  PCon Tryz.prog 114 [.p (St name),.p (I p),.p (I c),.p (St typ),.p (.sl 1 (rwS (flatP cs)))] (dv (famP name p c typ cs)):=by
 simp only [famOK,Bool.and_eq_true,decide_eq_true_eq,List.all_eq_true] at h
 obtain ⟨h1,h2,h3⟩:=h
 have hfl:=zf8 cs
 refine cv [] [] [] Tryz.func114 43 Tryz.ntmps114 rfl rfl fun cx hE=>call0 (zz typ h1) ?_
 refine tokOV 11 15 511 156 6 hE rfl rfl rfl rfl ?_
 refine loopP cs (fun q=>[(12,.p (I ((2 * q.length:Nat))))]) (fun q=>[(11,.ce 89 [.p (I 3),.p (I p),.p (I c),.p (St name),.p (St ⟨#[]⟩),.p (I (trmOf typ).kind),.p (I (trmOf typ).n),.p (St (trmOf typ).name),.p (.sl 3 (encLs (trmOf typ).levels)),.p (.sl 5 (encTs (trmOf typ).args)),.p (I 0),.p (I 0),.p (St ⟨#[]⟩),.p nilS,.p nilS,.ts 511 6 (encCs (ctrP q))]),(511,.ar 156 6 (encCs (ctrP q)).length)]) (fun _=>True) [12] [11,511] hE rfl rfl rfl ⟨Sub.refl _,rfl,rfl,rfl,trivial⟩ trivial (fun _=>And.intro (by omega) (fun _=>brZ (by simp;omega) ⟨rfl,rfl⟩)) (fun q a r hq _=>?_)
 have hlt:=zh hq
 have g1:(flatP cs)[2 * q.length]?=some a.1:=by
  rw [hq];simp only [flatP,List.flatMap_append,List.flatMap_cons]
  have:(List.flatMap (fun x=>[x.1,x.2]) q).length=2 * q.length:=zf8 q
  rw [List.getElem?_append_right (by omega),this];simp
 have g2:(flatP cs)[2 * q.length+1]?=some a.2:=by
  rw [hq];simp only [flatP,List.flatMap_append,List.flatMap_cons]
  have:(List.flatMap (fun x=>[x.1,x.2]) q).length=2 * q.length:=zf8 q
  rw [List.getElem?_append_right (by omega),this,show 2 * q.length+1-2 * q.length=1 by omega];simp
 have r1:(rwS (flatP cs))[2 * q.length]?=some [St a.1]:=by simp [rwS,g1]
 have r2:rowAt (rwS (flatP cs)) (((2 * q.length:Nat):Int)+1)=[St a.2]:=by
  rw [show ((2 * q.length:Nat):Int)+1=((2 * q.length+1:Nat):Int) by omega]
  exact z5j (by simp [rwS,g2])
 refine And.intro (by omega) (fun _=>brY (by simp;omega) (idxN r1 (And.intro (by omega) (idx1 (by omega) (by simp;omega) r2 (call0 (zz a.2 (h3 a (zf hq))) (app1 (by simp;omega) (by simp;omega) (And.intro (by omega) ⟨trivial,Sub.i (by simp;omega),?_,ar_eq (by simp),rfl,trivial⟩)))))))
 exact congrArg (fun z=>Ob.ce 89 [.p (I 3),.p (I p),.p (I c),.p (St name),.p (St ⟨#[]⟩),.p (I (trmOf typ).kind),.p (I (trmOf typ).n),.p (St (trmOf typ).name),.p (.sl 3 (encLs (trmOf typ).levels)),.p (.sl 5 (encTs (trmOf typ).args)),.p (I 0),.p (I 0),.p (St ⟨#[]⟩),.p nilS,.p nilS,.ts 511 6 z]) (by simp [encCs,ctrP,rowC])
def defP (name:ByteArray) (p:Int) (typ value:ByteArray):Dcl:=⟨2,p,0,name,⟨#[]⟩,trmOf typ,trmOf value,[]⟩
theorem z6w (name:ByteArray) (p:Int) (typ value:ByteArray) (h1:txtOK typ=true) (h2:txtOK value=true):PCon Tryz.prog 58 [.p (St name),.p (I p),.p (St typ),.p (St value)] (dv (defP name p typ value)) :=
 cv [] [] [] Tryz.func58 16 Tryz.ntmps58 rfl rfl fun cx hE=>call0 (zz typ h1) (call0 (zz value h2) ⟨rfl,rfl⟩)
def axP (name:ByteArray) (p:Int) (typ:ByteArray):Dcl:=⟨1,p,0,name,⟨#[]⟩,trmOf typ,zT,[]⟩
theorem zbo (name:ByteArray) (p:Int) (typ:ByteArray) (h1:txtOK typ=true):PCon Tryz.prog 59 [.p (St name),.p (I p),.p (St typ)] (dv (axP name p typ)) :=
 cv [] [] [] Tryz.func59 12 Tryz.ntmps59 rfl rfl fun cx hE=>call0 (zz typ h1) ⟨rfl,rfl⟩
theorem z3n (s:ByteArray) (h:txtOK s=true):PCon Tryz.prog 64 [.p (St s)] (tv (trmOf s)):=cv [] [] [] Tryz.func64 5 Tryz.ntmps64 rfl rfl fun cx hE=>call0 (zz s h) ⟨rfl,rfl⟩
theorem z8p (s:ByteArray) (h:txtOK s=true) (hc:okT (trmOf s)=true) (l:List Trm) (hl:∀ a∈l,Cp a) (hlen:l.length<=1000):PCon Tryz.prog 73 [.p (St s),.p (.sl 5 (encTs l))] (tv (appT (trmOf s) l)) :=
 cv [] [] [] Tryz.func73 9 Tryz.ntmps73 rfl rfl fun cx hE=>call0 (zz s h) (call0 (z3h _ (z6k hc) l hl (by omega)) ⟨rfl,rfl⟩)
abbrev csNat:List (ByteArray×ByteArray):=[((⟨#[122,101,114,111]⟩:ByteArray),(⟨#[78,97,116]⟩:ByteArray)),((⟨#[115,117,99,99]⟩:ByteArray),(⟨#[33,78,97,116,46,32,78,97,116]⟩:ByteArray))]
abbrev zz3x:Dcl:=famP (⟨#[78,97,116]⟩:ByteArray) 0 0 (⟨#[42,83,48]⟩:ByteArray) csNat
theorem okNat:famOK (⟨#[42,83,48]⟩:ByteArray) csNat=true:=by kernel_rfl
abbrev zo4:List (ByteArray×ByteArray):=[]
abbrev zzf:Dcl:=famP (⟨#[70,97,108,115,101]⟩:ByteArray) 0 0 (⟨#[42,48]⟩:ByteArray) zo4
theorem zz2m:famOK (⟨#[42,48]⟩:ByteArray) zo4=true:=by kernel_rfl
abbrev csAnd:List (ByteArray×ByteArray):=[((⟨#[65,110,100,46,109,107]⟩:ByteArray),(⟨#[33,42,48,46,32,33,42,48,46,32,33,35,49,46,32,33,35,49,46,32,40,40,65,110,100,32,35,51,41,32,35,50,41]⟩:ByteArray))]
abbrev zz3y:Dcl:=famP (⟨#[65,110,100]⟩:ByteArray) 0 2 (⟨#[33,42,48,46,32,33,42,48,46,32,42,48]⟩:ByteArray) csAnd
theorem okAnd:famOK (⟨#[33,42,48,46,32,33,42,48,46,32,42,48]⟩:ByteArray) csAnd=true:=by kernel_rfl
abbrev csEq:List (ByteArray×ByteArray):=[((⟨#[69,113,46,114,101,102,108]⟩:ByteArray),(⟨#[33,42,112,48,46,32,33,35,48,46,32,40,40,40,69,113,123,112,48,125,32,35,49,41,32,35,48,41,32,35,48,41]⟩:ByteArray))]
abbrev famEq:Dcl:=famP (⟨#[69,113]⟩:ByteArray) 1 2 (⟨#[33,42,112,48,46,32,33,35,48,46,32,33,35,49,46,32,42,48]⟩:ByteArray) csEq
theorem okEq:famOK (⟨#[33,42,112,48,46,32,33,35,48,46,32,33,35,49,46,32,42,48]⟩:ByteArray) csEq=true:=by kernel_rfl
abbrev zwm:List (ByteArray×ByteArray):=[((⟨#[110,105,108]⟩:ByteArray),(⟨#[33,42,83,112,48,46,32,40,76,105,115,116,123,112,48,125,32,35,48,41]⟩:ByteArray)),((⟨#[99,111,110,115]⟩:ByteArray),(⟨#[33,42,83,112,48,46,32,33,35,48,46,32,33,40,76,105,115,116,123,112,48,125,32,35,49,41,46,32,40,76,105,115,116,123,112,48,125,32,35,50,41]⟩:ByteArray))]
abbrev zz2n:Dcl:=famP (⟨#[76,105,115,116]⟩:ByteArray) 1 1 (⟨#[33,42,83,112,48,46,32,42,83,112,48]⟩:ByteArray) zwm
theorem zz3z:famOK (⟨#[33,42,83,112,48,46,32,42,83,112,48]⟩:ByteArray) zwm=true:=by kernel_rfl
abbrev csVec:List (ByteArray×ByteArray):=[((⟨#[118,110,105,108]⟩:ByteArray),(⟨#[33,42,83,112,48,46,32,40,40,86,101,99,123,112,48,125,32,35,48,41,32,122,101,114,111,41]⟩:ByteArray)),((⟨#[118,99,111,110,115]⟩:ByteArray),(⟨#[33,42,83,112,48,46,32,33,35,48,46,32,33,78,97,116,46,32,33,40,40,86,101,99,123,112,48,125,32,35,50,41,32,35,48,41,46,32,40,40,86,101,99,123,112,48,125,32,35,51,41,32,40,115,117,99,99,32,35,49,41,41]⟩:ByteArray))]
abbrev zz40:Dcl:=famP (⟨#[86,101,99]⟩:ByteArray) 1 1 (⟨#[33,42,83,112,48,46,32,33,78,97,116,46,32,42,83,112,48]⟩:ByteArray) csVec
theorem okVec:famOK (⟨#[33,42,83,112,48,46,32,33,78,97,116,46,32,42,83,112,48]⟩:ByteArray) csVec=true:=by kernel_rfl
abbrev zwn:List (ByteArray×ByteArray):=[((⟨#[121,101,115]⟩:ByteArray),(⟨#[66,111,111,108]⟩:ByteArray)),((⟨#[110,111]⟩:ByteArray),(⟨#[66,111,111,108]⟩:ByteArray))]
abbrev zz2o:Dcl:=famP (⟨#[66,111,111,108]⟩:ByteArray) 0 0 (⟨#[42,83,48]⟩:ByteArray) zwn
theorem zz41:famOK (⟨#[42,83,48]⟩:ByteArray) zwn=true:=by kernel_rfl
abbrev zwo:List (ByteArray×ByteArray):=[((⟨#[108,101,97,102]⟩:ByteArray),(⟨#[84,114,101,101]⟩:ByteArray)),((⟨#[110,111,100,101]⟩:ByteArray),(⟨#[33,33,78,97,116,46,32,84,114,101,101,46,32,84,114,101,101]⟩:ByteArray))]
abbrev zz2p:Dcl:=famP (⟨#[84,114,101,101]⟩:ByteArray) 0 0 (⟨#[42,83,48]⟩:ByteArray) zwo
theorem zz42:famOK (⟨#[42,83,48]⟩:ByteArray) zwo=true:=by kernel_rfl
abbrev csAcc:List (ByteArray×ByteArray):=[((⟨#[65,99,99,46,105,110]⟩:ByteArray),(⟨#[33,42,112,48,46,32,33,33,35,48,46,32,33,35,49,46,32,42,48,46,32,33,35,49,46,32,33,33,35,50,46,32,33,40,40,35,50,32,35,48,41,32,35,49,41,46,32,40,40,40,65,99,99,123,112,48,125,32,35,52,41,32,35,51,41,32,35,49,41,46,32,40,40,40,65,99,99,123,112,48,125,32,35,51,41,32,35,50,41,32,35,49,41]⟩:ByteArray))]
abbrev zz43:Dcl:=famP (⟨#[65,99,99]⟩:ByteArray) 1 2 (⟨#[33,42,112,48,46,32,33,33,35,48,46,32,33,35,49,46,32,42,48,46,32,33,35,49,46,32,42,48]⟩:ByteArray) csAcc
theorem okAcc:famOK (⟨#[33,42,112,48,46,32,33,33,35,48,46,32,33,35,49,46,32,42,48,46,32,33,35,49,46,32,42,48]⟩:ByteArray) csAcc=true:=by kernel_rfl
def famsL:List Dcl:=[zz3x,zzf,zz3y,famEq,zz2n,zz40,zz2o,zz2p,zz43]
set_option maxHeartbeats 4000000 in
theorem zg5:Con Tryz.prog 57 [] [] (fun r o=>r=.tm 18 0/\o=[(18,.mu 89 16 0 (encDs famsL))]):=by
 refine cv [1000018] [] [18] Tryz.func57 19 Tryz.ntmps57 rfl rfl fun cx hE=>call0 (z2f _ _ _ _ csNat okNat) (call0 (z2f _ _ _ _ zo4 zz2m) (call0 (z2f _ _ _ _ csAnd okAnd) (call0 (z2f _ _ _ _ csEq okEq) (call0 (z2f _ _ _ _ zwm zz3z) (call0 (z2f _ _ _ _ csVec okVec) (call0 (z2f _ _ _ _ zwn zz41) (call0 (z2f _ _ _ _ zwo zz42) (call0 (z2f _ _ _ _ csAcc okAcc) ⟨rfl,rfl⟩))))))))
def moreL:List Dcl:=[defP (⟨#[105,100]⟩:ByteArray) 1 (⟨#[33,42,112,48,46,32,33,35,48,46,32,35,49]⟩:ByteArray) (⟨#[92,42,112,48,46,32,92,35,48,46,32,35,48]⟩:ByteArray),defP (⟨#[97,100,100]⟩:ByteArray) 0 (⟨#[33,78,97,116,46,32,33,78,97,116,46,32,78,97,116]⟩:ByteArray) (⟨#[92,78,97,116,46,32,92,78,97,116,46,32,40,40,40,40,78,97,116,46,114,101,99,123,83,48,125,32,92,78,97,116,46,32,78,97,116,41,32,35,49,41,32,92,78,97,116,46,32,92,78,97,116,46,32,40,115,117,99,99,32,35,48,41,41,32,35,48,41]⟩:ByteArray),defP (⟨#[116,119,111]⟩:ByteArray) 0 (⟨#[78,97,116]⟩:ByteArray) (⟨#[61,78,97,116,58,40,115,117,99,99,32,122,101,114,111,41,46,32,40,115,117,99,99,32,35,48,41]⟩:ByteArray),defP (⟨#[110,111,116]⟩:ByteArray) 0 (⟨#[33,42,48,46,32,42,48]⟩:ByteArray) (⟨#[92,42,48,46,32,33,35,48,46,32,70,97,108,115,101]⟩:ByteArray),axP (⟨#[80]⟩:ByteArray) 0 (⟨#[33,78,97,116,46,32,42,48]⟩:ByteArray),axP (⟨#[112,46,97,108,108]⟩:ByteArray) 0 (⟨#[33,78,97,116,46,32,40,80,32,35,48,41]⟩:ByteArray),axP (⟨#[101,120,116]⟩:ByteArray) 2 (⟨#[33,42,112,48,46,32,33,42,112,49,46,32,42,77,112,48,112,49]⟩:ByteArray)]
def prelL:List Dcl:=famsL.take 6++moreL
set_option maxHeartbeats 4000000 in
theorem z7t:PCon Tryz.prog 20 [] (.p (.sl 16 (encDs prelL))):=by
 have h:Con Tryz.prog 20 [] [] (fun r o=>r=.tm 18 2/\o=[(18,.mu 89 16 2 (encDs prelL))]):=by
  refine cv [] [] [18] Tryz.func20 14 Tryz.ntmps20 rfl rfl fun cx hE=>call1 [] zg5 rfl rfl (za _) (And.intro (by simp [famsL]) ?_)
  refine call0 (z6w _ _ _ _ (by kernel_rfl) (by kernel_rfl)) (call0 (z6w _ _ _ _ (by kernel_rfl) (by kernel_rfl)) (call0 (z6w _ _ _ _ (by kernel_rfl) (by kernel_rfl)) (call0 (z6w _ _ _ _ (by kernel_rfl) (by kernel_rfl)) (call0 (zbo _ _ _ (by kernel_rfl)) (call0 (zbo _ _ _ (by kernel_rfl)) (call0 (zbo _ _ _ (by kernel_rfl)) (?_)))))))
  refine app2 (by simp [famsL]) (by simp [famsL]) (by simp [famsL]) ⟨rfl,?_⟩
  rfl
 refine PCon.mk (h.le2 ?_)
 rintro r o ⟨rfl,rfl⟩
 exact ⟨.p (.sl 16 (encDs prelL)),[],fun cx n h0=>Le.trans (Le.muP (k:=18) (t:=0) rfl rfl) (Le.mk (.cons rfl (Sub.refl _) .nil) .nil rfl),rfl,rfl,rfl⟩
def okD (d:Dcl):Bool:=okT d.type&&(okT d.value&&(decide (d.ctors.length<=1000)&&(d.ctors.all (fun c=>okT c.ty&&decide (c.name.size<=1000))&&(decide (d.name.size<=1000)&&decide (-1000000<=d.params/\d.params<=1000000/\-1000000<=d.count/\d.count<=1000000)))))
theorem zf9 {d:Dcl} (h:okD d=true):FamD d/\CpD d/\d.name.size<=1000:=by
 simp only [okD,Bool.and_eq_true,decide_eq_true_eq,List.all_eq_true] at h
 obtain ⟨h1,h2,h3,h4,h5,h6⟩:=h
 exact ⟨⟨z2v h1,fun c hc=>⟨z2v (h4 c hc).1,by have:=(h4 c hc).2;omega⟩,by omega,h3,by omega,by omega,by omega,by omega⟩,⟨z6k h1,z6k h2,by omega,fun c hc=>z6k (h4 c hc).1⟩,h5⟩
def expF (d:Dcl):List Dcl:=if d.kind=3 then (match zgt d with
 | some (x,e)=>if e=0 then x else [d]
 | none=>[d]) else [d]
def okFam (d:Dcl):Bool:=okD d&&(if d.kind=3 then (piE d.type).levels.all (fun l=>mayLF l 3)&&(match zgt d with
 | some (x,e)=>x.all okD&&decide (x.length<=1000)
 | none=>false) else true)
theorem zwp (acc:List Dcl) (d:Dcl) (r:List Dcl):envF acc (d::r)=envF (rAddF acc (expF d)) r:=rfl
theorem zcx (L l:List Dcl):rAddF L l=if addF [] L l=0 then L++l else L:=by
 unfold rAddF
 rcases Classical.em (∃ d∈l,mayF d.name=false) with h | h
 ·have e:addF [] L l=9:=by unfold addF;rw [if_pos h]
  obtain ⟨d,hd,hm⟩:=h
  rw [e,if_neg,if_neg (by decide)]
  rintro ⟨h1,_⟩
  rw [List.all_eq_true] at h1
  rw [h1 d hd] at hm;cases hm
 ·have h1:(l.all fun d=>mayF d.name)=true:=by
   rw [List.all_eq_true];intro d hd
   cases hx:mayF d.name with
   | true=>rfl
   | false=>exact absurd ⟨d,hd,hx⟩ h
  rcases Classical.em (zy (L++l)).Nodup with h2 | h2
  ·have e:addF [] L l=0:=by unfold addF;rw [if_neg h,if_neg (by simpa using h2)]
   rw [e,if_pos ⟨h1,h2⟩,if_pos rfl]
  ·have e:addF [] L l=10:=by unfold addF;rw [if_neg h,if_pos (by simpa using h2)]
   rw [e,if_neg (fun x=>h2 x.2),if_neg (by decide)]
theorem zo5 {L l:List Dcl} (h:(zy L).Nodup):(zy (rAddF L l)).Nodup:=by
 unfold rAddF
 split
 ·rename_i hk;exact hk.2
 ·exact h
theorem zfa (L l:List Dcl):(rAddF L l).length<=L.length+l.length:=by
 unfold rAddF;split<;>simp
set_option maxHeartbeats 2000000 in
theorem zzg (l:List Dcl) (h:(l.all okFam)=true) (hlen:l.length<=1000):Con Tryz.prog 19 [.p (.sl 16 (encDs l))] [] (fun r o=>r=.ptr 1000 0/\o=refE 1000 (envF [] l) 0):=by
 rw [List.all_eq_true] at h
 have hel:=z7l l
 refine cv [] [7] [1000,1001] Tryz.func19 41 Tryz.ntmps19 rfl rfl fun cx hE=>call1 [] zpt rfl rfl (za _) ?_
 refine loop2 (fun (i:Nat) (L:List Dcl)=>[(4,.p (I i))]) (fun i L=>refE 1000 L 0) (fun i L=>i<=l.length/\envF [] l=envF L (l.drop i)/\(zy L).Nodup/\L.length<=1000 * i) (fun i L=>l.length-i) 0 [] [4] [1000,1001] hE rfl rfl rfl ⟨Sub.refl _,rfl,rfl,trivial⟩ ⟨by omega,rfl,by simp [zy],by simp⟩ fun i L ⟨g1,g2,g3,g4⟩=>?_
 refine fun _=>brS (fun hlt'=>?_) (fun hlt'=>?_)
 ·have hlt:i<l.length:=by omega
  have hi:l[i]?=some (l[i]):=List.getElem?_eq_getElem hlt
  have d1:l.drop i=l[i]::l.drop (i+1):=List.drop_eq_getElem_cons hlt
  have hk:=h _ (List.getElem_mem hlt)
  generalize l[i]=a at hi d1 hk
  rw [d1,zwp] at g2
  have r1:(encDs l)[i]?=some (rowD a):=by simp [encDs,hi]
  have hok:okD a=true:=by simp only [okFam,Bool.and_eq_true] at hk;exact hk.1
  obtain ⟨q1,q2,q3⟩:=zf9 hok
  have hx:∀ d∈expF a,okD d=true:=by
   intro d hd
   unfold expF at hd
   split at hd
   ·rename_i hk3
    simp only [okFam,hk3,if_true,Bool.and_eq_true] at hk
    split at hd
    ·rename_i x e hde
     rw [hde] at hk
     split at hd
     ·have:=hk.2.2;simp only [Bool.and_eq_true,List.all_eq_true] at this;exact this.1 d hd
     ·simp at hd;subst hd;exact hok
    ·simp at hd;subst hd;exact hok
   ·simp at hd;subst hd;exact hok
  have hxl:(expF a).length<=1000:=by
   unfold expF
   split
   ·rename_i hk3
    simp only [okFam,hk3,if_true,Bool.and_eq_true] at hk
    split
    ·rename_i x e hde
     rw [hde] at hk
     split
     ·have:=hk.2.2;simp only [Bool.and_eq_true,decide_eq_true_eq] at this;exact this.2
     ·simp
    ·simp
   ·simp
  refine idxN r1 (idxN r1 ?_)
  refine seq0 [(5,.p (.sl 16 (encDs (expF a))))] [] [5] [] [] hE rfl rfl rfl ?_ ?_
  ·refine brS (fun h3=>idxN r1 ?_) (fun h3=>⟨?_,rfl,rfl,trivial⟩)
   ·have hk3:a.kind=3:=h3
    simp only [okFam,hk3,if_true,Bool.and_eq_true,List.all_eq_true] at hk
    cases hd:zgt a with
    | none=>rw [hd] at hk;exact absurd hk.2.2 (by simp)
    | some R =>
      refine call0 (zsx a q1 q2 hk.2.1 R hd) (brS (fun h0=>⟨Sub.eq ?_,rfl,rfl,trivial⟩) (fun h0=>⟨Sub.eq ?_,rfl,rfl,trivial⟩))
      ·have h0':R.2=0:=h0
       unfold expF;rw [if_pos hk3,hd];simp only;rw [if_pos h0'];rfl
      ·have h0':¬ R.2=0:=h0
       unfold expF;rw [if_pos hk3,hd];simp only;rw [if_neg h0'];rfl
   ·have hk3:¬ a.kind=3:=h3
    refine Sub.eq ?_
    unfold expF;rw [if_neg hk3];rfl
  refine call1 [1000,1001] (zpu L (expF a) 0 (by omega) g3 (fun d hd=>⟨(zf9 (hx d hd)).2.1,by have:=(zf9 (hx d hd)).2.2;omega⟩)) rfl rfl (za _) (And.intro (by omega) ?_)
  have hal:=zfa L (expF a)
  rw [zcx] at hal
  refine ⟨i+1,rAddF L (expF a),⟨by omega,g2,zo5 g3,by rw [zcx];omega⟩,by omega,Sub.i (by omega),?_⟩
  rw [zcx]
  exact ⟨rfl,rfl,trivial⟩
 ·have:i=l.length:=by omega
  subst this
  rw [List.drop_length] at g2
  simp only [envF] at g2
  rw [g2]
  exact ⟨rfl,rfl⟩
theorem zzh (b:Nat) (hb:1004<=b):Con Tryz.prog 104 [] [] (fun r o=>r=.ptr b 0/\o=envQ b [] [] 0 none 0 none):=by
 have h:=New_con.swE b hb
 refine fun w M0 own' vals h3 h4=>(h w M0 own' vals h3 h4).mono ?_
 rintro e w' ⟨r,o,own2,v',e1,⟨r0,o0,⟨rfl,rfl⟩,rfl,rfl⟩,g⟩
 refine ⟨_,_,own2,v',e1,⟨rfl,rfl⟩,?_⟩
 rw [za5,show (AV.ptr 1000 0).ren (swE b)=.ptr b 0 by simp only [AV.ren,show swE b 1000=b from swE_0 b 0 (by decide)]] at g
 exact g
theorem EnP00:EnP [] [] none:=⟨.inr ⟨rfl,rfl⟩,by simp [zy],by simp,by simp,by simp⟩
def bothF:List Dcl->List Dcl->List Dcl
 | acc,[]=>acc
 | acc,d::r=>bothF (rAddF acc [d]) r
def bothO (L:List Dcl) (pv:Nat) (pl:Option (List (ByteArray×Int))) (ov:Nat):Obs:=envQ 1004 [] L pv pl ov (odO ([]++L))++refE 1000 L 0
structure BothOK (l:List Dcl):Prop where
 n:∀ d∈l,narD d=true
 c:∀ d∈l,CpD d
 s:∀ d∈l,d.name.size<=1000000000000
 l:l.length<=1000000
set_option maxHeartbeats 2000000 in
theorem zlr (l:List Dcl) (h:BothOK l):Con Tryz.prog 50 [.p (.sl 16 (encDs l))] [] (fun r o=>r=.tp [.ptr 1004 0,.ptr 1000 0]/\∃ pv pl ov,EnP [] (bothF [] l) pl/\o=bothO (bothF [] l) pv pl ov):=by
 have hel:=z7l l
 have hlen:=h.l
 refine cv [] [] [1004,1005,1006,1007,1000,1001] Tryz.func50 31 Tryz.ntmps50 rfl rfl fun cx hE=>call1 [] (zzh 1004 (by decide)) rfl rfl (za _) (call1 [] zpt rfl rfl (za _) ?_)
 refine loop5 (fun (i:Nat) (L:List Dcl) (pv ov:Nat) (pl:Option (List (ByteArray×Int)))=>[(6,.p (I i))]) (fun i L pv ov pl=>bothO L pv pl ov) (fun i L pv ov pl=>i<=l.length/\bothF [] l=bothF L (l.drop i)/\EnP [] L pl/\L.length<=i) (fun i L pv ov pl=>l.length-i) 0 [] 0 0 none [6] [1004,1005,1006,1007,1000,1001] hE rfl rfl rfl ⟨Sub.refl _,rfl,rfl,rfl,rfl,rfl,rfl,trivial⟩ ⟨by omega,rfl,EnP00,by simp⟩ fun i L pv ov pl ⟨g1,g2,g3,g4⟩=>?_
 refine fun _=>brS (fun hlt'=>?_) (fun hlt'=>?_)
 ·have hlt:i<l.length:=by omega
  have hi:l[i]?=some (l[i]):=List.getElem?_eq_getElem hlt
  have d1:l.drop i=l[i]::l.drop (i+1):=List.drop_eq_getElem_cons hlt
  have hm:=List.getElem_mem hlt
  generalize l[i]=a at hi d1 hm
  rw [d1] at g2
  simp only [bothF] at g2
  have r1:(encDs l)[i]?=some (rowD a):=by simp [encDs,hi]
  have hnr:∀ d∈[a],narD d=true:=fun d hd=>by rw [List.mem_singleton.1 hd];exact h.n a hm
  have hs:=h.s a hm
  refine idxN r1 (callX [1004,1005,1006,1007] (zyp 1004 (.inr (by decide)) [] L [a] pv ov pl g3 (by simp;omega) hnr (fun d hd=>by rw [List.mem_singleton.1 hd];omega)) rfl rfl (za _) fun r o ⟨e1,L',pv',pl',ov',hE1,e2,e3⟩=>?_)
  subst e1 e2
  have e4:L'=rAddF L [a]:=by rw [zcx];exact e3
  have hal:=zfa L [a]
  refine idxN r1 (call1 [1000,1001] (zpu L [a] 0 (by simp;omega) g3.nd (fun d hd=>by rw [List.mem_singleton.1 hd];exact ⟨h.c a hm,hs⟩)) rfl rfl (za _) (And.intro (by omega) ?_))
  rw [<- e3]
  refine ⟨i+1,L',pv',ov',pl',⟨by omega,by rw [e4];exact g2,hE1,by rw [e4];simp at hal;omega⟩,by omega,Sub.i (by omega),rfl,rfl,rfl,rfl,rfl,rfl,trivial⟩
 ·have:i=l.length:=by omega
  subst this
  rw [List.drop_length] at g2
  simp only [bothF] at g2
  rw [g2]
  exact ⟨rfl,pv,pl,ov,g3,rfl⟩
theorem zqr {l:List Dcl} (h:(l.all okD)=true) (hl:l.length<=1000000):BothOK l:=by
 rw [List.all_eq_true] at h
 refine ⟨fun d hd=>?_,fun d hd=>(zf9 (h d hd)).2.1,fun d hd=>by have:=(zf9 (h d hd)).2.2;omega,hl⟩
 have:=h d hd
 simp only [okD,Bool.and_eq_true,decide_eq_true_eq,List.all_eq_true] at this
 obtain ⟨h1,h2,h3,h4,h5,h6⟩:=this
 unfold narD
 simp only [Bool.and_eq_true,decide_eq_true_eq,List.all_eq_true]
 exact ⟨zcj _ (z2v h1).w,zcj _ (z2v h2).w,by omega,fun c hc=>zcj _ (z2v (h4 c hc).1).w⟩
theorem zls (l:List Dcl) (h:(l.all okFam)=true) (hlen:l.length<=1000):Con Tryz.prog 19 [.p (.sl 16 (encDs l))] [] (fun r o=>r=.ptr 2000 0/\o=refE 2000 (envF [] l) 0) :=
 ((zzg l h hlen).at1 1000 2000 rfl rfl rfl rfl).at1 1001 2001 rfl rfl rfl rfl
def preL:List Dcl:=envF [] prelL
theorem zqs:(prelL.all okFam)=true:=by kernel_rfl
theorem zjb:(preL.all okD)=true:=by kernel_rfl
theorem zjc:preL.length=27:=by kernel_rfl
theorem zlt:bothF [] preL=preL:=by kernel_rfl
theorem zan:Con Tryz.prog 27 [] [] (fun r o=>r=.tp [.ptr 1004 0,.ptr 1000 0]/\∃ pv pl ov,EnP [] preL pl/\o=bothO preL pv pl ov):=by
 have hb:=zlr preL (zqr zjb (by rw [zjc];omega))
 rw [zlt] at hb
 refine cv [] [] [1004,1005,1006,1007,1000,1001] Tryz.func27 10 Tryz.ntmps27 rfl rfl fun cx hE=>call0 z7t (call1 [] (zls prelL zqs (by simp [prelL,famsL,moreL])) rfl rfl (za _) (callX [] hb rfl rfl (.cons Sub.ts .nil) fun r o ⟨e1,pv,pl,ov,hE1,e2⟩=>?_))
 subst e1 e2
 exact ⟨rfl,pv,pl,ov,hE1,rfl⟩
end Go.Ab.YtpneaijfkefeaaaGreat
set_option linter.unusedVariables false
set_option linter.unusedSimpArgs false
namespace Go.Ab
open Go Go.RowKit
def Kv.ren2 (ρ:Nat->Nat):Kv->Kv
 | .a x=>.a (x.ren ρ)
 | .t=>.t
 | .f=>.f
def renV2 (ρ:Nat->Nat):VR->VR
 | []=>[]
 | (t,x)::l=>(t,x.ren2 ρ)::renV2 ρ l
theorem zlu {ρ:Nat->Nat}:∀ {r:VR},toR (renV2 ρ r)=renR ρ (toR r)
 | []=>rfl
 | (t,x)::l=>by
   simp only [renV2,toR,renR,zlu (r:=l)]
   cases x<;>rfl
def sameR (dk:List Nat):VR->VR->Prop
 | [],[]=>True
 | (t,x)::l,(t',y)::l'=>t=t'/\(mem t dk=true\/x=y)/\sameR dk l l'
 | _,_=>False
theorem zlv {dk:List Nat}:∀ {r r':VR},sameR dk r r'->∀ q,mem q dk=false->get r' q=get r q
 | [],[],_,q,_=>rfl
 | (t,x)::l,(t',y)::l',⟨h1,h2,h3⟩,q,hq=>by
   subst h1
   simp only [get]
   cases hb:Nat.beq t q with
   | true =>
     obtain rfl:=Nat.eq_of_beq_eq_true hb
     rcases h2 with h2 | h2
     ·rw [h2] at hq;cases hq
     ·rw [h2];rfl
   | false=>exact zlv h3 q hq
 | [],_::_,h,_,_=>h.elim
 | _::_,[],h,_,_=>h.elim
theorem zfb {α:Type}:∀ {l:List (Nat×α)} {k:Nat},k∈l.map (·.1)->get l k=none->False
 | (t,x)::l,k,h,hn=>by
   simp only [get] at hn
   cases hb:Nat.beq t k with
   | true=>rw [hb] at hn;cases hn
   | false =>
     rw [hb] at hn
     rcases List.mem_cons.1 h with h | h
     ·simp only at h;subst h;rw [Nat.beq_refl] at hb;cases hb
     ·exact zfb h hn
theorem leX.sw {P:Program} {cx:Cx} {n:Nat} {dk:List Nat} {r:VR} {o orest:Obs} {dyn:Regs} {dobjs:Obs} (a b:Nat) (ha:get cx.objs0 a=none) (hb:get cx.objs0 b=none) (hk:sameR dk r (renV2 (Ab.sw a b) r)) (h:leX P cx n dk (renV2 (Ab.sw a b) r) (renO (Ab.sw a b) o) orest dyn dobjs):leX P cx n dk r o orest dyn dobjs:=by
 have nm:∀ k,get cx.objs0 k=none->k ∉ cx.objs0.map (·.1):=fun k hk hm=>by
  exact zfb hm hk
 obtain ⟨r2,o2,h1,h2,h3⟩:=h
 refine ⟨r2,o2,Le.trans (Le.swk a b (nm a ha) (nm b hb)) ?_,fun q hq=>(h2 q hq).trans (by rw [z1s,z1s,zlv hk q hq]),h3⟩
 rw [<- zlu]
 exact h1
end Go.Ab
namespace Go.Ab.YtpneaijfkefeaaaGreat
open Go Go.RowKit Go.Ab Go.Proofs
theorem zqt (n:Int):PCon Tryz.prog 188 [.p (I n)] (tv (mkV n)):=cv [] [] [] Tryz.func188 5 Tryz.ntmps188 rfl rfl fun cx hE=>⟨rfl,rfl⟩
theorem zo6 (k:Int) (a b:Trm):PCon Tryz.prog 171 [.p (I k),tv a,tv b] (tv (mkB k a b)):=cv [] [] [] Tryz.func171 12 Tryz.ntmps171 rfl rfl fun cx hE=>⟨tv2 _ _ _ [] _ _,rfl⟩
theorem zbp (k i:Int):PCon Tryz.prog 209 [.p (I k),.p (I i)] (.p (I (bndF k i))):=by
 refine cv [] [] [] Tryz.func209 23 Tryz.ntmps209 rfl rfl fun cx hE=>?_
 repeat' (first | refine brS (fun _=>?_) (fun _=>?_) | refine fun _=>?_)
 all_goals exact ⟨I_eq (by unfold bndF;split<;>omega),rfl⟩
theorem z2t (h:Trm) (l:List Trm) (hl:l.length<=1000000000000):PCon Tryz.prog 168 [tv h,.p (.sl 5 (encTs l))] (tv (appT h l)):=by
 refine cv [] [] [] Tryz.func168 19 Tryz.ntmps168 rfl rfl fun cx hE=>fun _=>?_
 refine zpj l () (fun p _=>[(9,.p (I p.length))]) (fun p _=>[(2,ceT (appT h p))]) (fun _ _=>True) [9] [2] hE rfl rfl rfl (leX.same ⟨Sub.refl _,rfl,rfl,trivial⟩) trivial (fun _ _=>brTe ⟨rfl,rfl⟩) (fun p a q _ hq _=>?_)
 have:=zh hq
 refine brT' hq (idxT hq (And.intro (by omega) ⟨(),trivial,leX.by (Le.subC 2 3 rfl rfl (Sub.nil (sz:=3)) rfl rfl) (leX.same ⟨Sub.i (by simp),?_,rfl,trivial⟩)⟩))
 rw [zac]
 simp [ceT,mkA,zb,rowT]
 refine ⟨rfl,rfl,?_,rfl⟩
 simp [zr]
theorem z8q {u f a:Trm} (hk:u.kind=3) (ha:u.args=[f,a]):argsT u=argsT f++[a]/\headT u=headT f:=by
 unfold argsT headT
 rw [zim hk ha,zif f [a]]
 exact ⟨rfl,rfl⟩
theorem zfc {u:Trm} (hk:¬ u.kind=3):argsT u=[]/\headT u=u:=by
 unfold argsT headT
 rw [zin hk]
 exact ⟨rfl,rfl⟩
def zRow:List PV:=[I 0,I 0,St ⟨#[]⟩,nilS,nilS]
theorem zz2q {x:List PV} (m:Nat) (row:List PV) (xs:List (List PV)):(List.replicate (m+1) x++xs).set m row=List.replicate m x++row::xs:=by
 rw [List.replicate_succ',List.append_assoc,List.set_append_right _ _ (by simp)];simp
set_option maxHeartbeats 2000000 in
theorem z3v (b:Int) (t:Trm) (hw:wfT b t=true) (hd:dpT t<=1000000000):PCon Tryz.prog 137 [tv t] (.tp [tv (headT t),.p (.sl 5 (encTs (argsT t)))]):=by
 refine cv [] [1000013] [] Tryz.func137 43 Tryz.ntmps137 rfl rfl fun cx hE=>?_
 have hfr:∀ k,get cx.objs0 k=none:=fun k=>hE.k0 k rfl
 refine zpj (argsT t).reverse t (fun p u=>[(4,.p (I p.length)),(5,.ptr 905 0)]) (fun p u=>[(905,ceT u)]) (fun p u=>argsT u++p.reverse=argsT t/\headT u=headT t/\wfT b u=true/\p.length+dpT u<=dpT t) [4,5,7,11,16] [5,905] hE rfl rfl rfl ?_ ⟨by simp,rfl,hw,by simp⟩ (fun u ⟨g1,g2,g3,g4⟩=>?_) (fun p a q u hq ⟨g1,g2,g3,g4⟩=>?_)
 ·refine leX.sw 5 905 (hfr 5) (hfr 905) ?_ (leX.same ⟨Sub.refl _,Sub.refl _,rfl,rfl,rfl,trivial⟩)
  repeat' (first | exact trivial | refine And.intro rfl (And.intro (Or.inl rfl) ?_) | refine And.intro rfl (And.intro (Or.inr rfl) ?_))
 ·have hn:argsT u=[]:=by
   have:=congrArg List.length g1
   simp at this;exact this
  have hk:¬ u.kind=3:=fun hk=>by
   obtain ⟨f,a,ha⟩:=z4h g3 (.inl hk)
   rw [(z8q hk ha).1] at hn;simp at hn
  have hN:(argsT t).length<=dpT t:=by simp at g4;omega
  refine brZ hk (And.intro (by simp;omega) (And.intro (by simp;omega) ?_))
  refine loop2 (fun (m:Nat) (v:Trm)=>[(4,.p (I m))]) (fun m v=>[(1,ceT v),(24,.mu 35 5 0 (List.replicate m zRow++encTs ((argsT t).drop m)))]) (fun m v=>m<=(argsT t).length/\argsT v=(argsT t).take m/\headT v=headT t/\wfT b v=true) (fun m v=>m) (argsT t).length t [4] [1,24] hE rfl rfl rfl ⟨Sub.i (by simp),rfl,?_,rfl,rfl,trivial⟩ ⟨Nat.le_refl _,by simp,rfl,hw⟩ fun m v ⟨q1,q2,q3,q4⟩=>?_
  ·have e1:(((argsT t).reverse.length:Nat):Int).toNat=(argsT t).length:=by simp
   have e2:encTs ([]:List Trm)=[]:=by simp [zb]
   rw [List.drop_length,e2,List.append_nil,<- e1];rfl
  refine brS (fun hm=>?_) (fun hm=>?_)
  ·obtain ⟨j,rfl⟩:∃ j,m=j+1:=⟨m-1,by omega⟩
   have hlt:j<(argsT t).length:=by omega
   have hk3:v.kind=3:=Classical.byContradiction fun hk=>by
    have e:=(zfc hk).1
    rw [e] at q2
    have:=congrArg List.length q2
    simp at this;omega
   obtain ⟨f,a,ha⟩:=z4h q4 (.inl hk3)
   obtain ⟨s1,s2⟩:=z8q hk3 ha
   have hj:(argsT t)[j]?=some ((argsT t)[j]):=List.getElem?_eq_getElem hlt
   rw [s1,z1w hj] at q2
   obtain ⟨q5,q6⟩:=List.append_inj' q2 rfl
   have q6':a=(argsT t)[j]:=by simpa using q6
   have r0:(encTs v.args)[0]?=some (rowT f):=by rw [ha];simp [zb]
   have r1:(encTs v.args)[1]?=some (rowT a):=by rw [ha];simp [zb]
   have hi:((j+1:Nat):Int)-1=(j:Nat):=by omega
   have hml:(List.replicate (j+1) zRow++encTs ((argsT t).drop (j+1))).length=(argsT t).length:=by simp;omega
   have hset:(List.replicate (j+1) zRow++encTs ((argsT t).drop (j+1))).set j (rowT a)=List.replicate j zRow++encTs ((argsT t).drop j):=by
    rw [zz2q,show (argsT t).drop j=(argsT t)[j]::(argsT t).drop (j+1) from List.drop_eq_getElem_cons hlt,q6'];simp only [zb,List.map_cons]
   refine And.intro (by omega) ?_
   rw [hi]
   refine idxN (i:=1) r1 (And.intro (by omega) (And.intro (by rw [hml];omega) (pst1 (i:=j) (by rw [hml];exact hlt) (idxN (i:=0) r0 (And.intro (by omega) ?_)))))
   refine ⟨j,f,⟨by omega,q5,by rw [<- s2];exact q3,(zg q4).sub f (by rw [ha];simp)⟩,by omega,Sub.i (by omega),rfl,?_,rfl,rfl,trivial⟩
   exact congrArg (Ob.mu 35 5 0) hset
  ·obtain rfl:m=0:=by omega
   have hv:v=headT t:=by
    have hk:¬ v.kind=3:=fun hk=>by
     obtain ⟨f,a,ha⟩:=z4h q4 (.inl hk)
     rw [(z8q hk ha).1] at q2;simp at q2
    rw [<- q3];exact (zfc hk).2.symm
   subst hv
   refine join1 (A:=Unit) (fun _=>[(3,.p (.sl 5 (encTs (argsT t))))]) (fun _=>[(2,ceT (headT t))]) (fun _=>True) [3] [2,24] [] hE rfl rfl rfl ?_ (fun _ _=>⟨rfl,rfl⟩)
   exact ⟨(),trivial,leX.put (t:=3) rfl (Le.muP (k:=24) (t:=3) rfl rfl) (leX.same ⟨Sub.refl _,rfl,rfl,rfl,trivial⟩)⟩
 ·have hk:u.kind=3:=Classical.byContradiction fun hk=>by
   have e:=(zfc hk).1
   have:=congrArg List.length g1
   rw [e] at this
   have h2:=congrArg List.length hq
   simp at this h2;omega
  obtain ⟨f,b',ha⟩:=z4h g3 (.inl hk)
  obtain ⟨s1,s2⟩:=z8q hk ha
  have r0:(encTs u.args)[0]?=some (rowT f):=by rw [ha];simp [zb]
  have hel:=zc u.args
  have hl2:u.args.length=2:=by rw [ha];rfl
  have hdf:=z1c (t:=u) (a:=f) (by rw [ha];simp)
  refine brY hk (fun _=>brY (by omega) (And.intro (by omega) ?_))
  refine idxN (i:=0) r0 ?_
  refine ⟨f,?_,?_⟩
  ·have hpr:(p++[a]).length=p.length+1:=by simp
   refine ⟨?_,by rw [<- s2];exact g2,(zg g3).sub f (by rw [ha];simp),by omega⟩
   have e:=g1
   rw [s1] at e
   have hrev:=congrArg List.reverse hq
   rw [List.reverse_reverse,<- e] at hrev
   simp only [List.reverse_append,List.reverse_cons,List.append_assoc,List.singleton_append,List.cons_append,List.nil_append] at hrev
   have hlen:(argsT f).length=q.reverse.length:=by
    have:=congrArg List.length hrev;simp at this;simp;omega
   obtain ⟨h5,h6⟩:=List.append_inj hrev hlen
   have h7:b'=a:=by simpa using h6
   rw [<- e,h7];simp
  ·refine leX.sw 5 905 (hfr 5) (hfr 905) ?_ (leX.same ⟨Sub.i (by simp),Sub.refl _,rfl,rfl,rfl,trivial⟩)
   repeat' (first | exact trivial | refine And.intro rfl (And.intro (Or.inl rfl) ?_) | refine And.intro rfl (And.intro (Or.inr rfl) ?_))
end Go.Ab.YtpneaijfkefeaaaGreat
namespace Go.Ab.YtpneaijfkefeaaaGreat
open Go Go.RowKit Go.Ab Go.Proofs
mutual
theorem za3:∀ t:Trm,lvsT [] t=t
 | ⟨k,n,s,ls,l⟩=>by
   rw [zb6,z7j l,z1t]
   rw [show putF []=id from funext zci];simp
theorem z7j:∀ l:List Trm,lvsTs [] l=l
 | []=>rfl
 | a::r=>by simp only [lvsTs];rw [za3 a,z7j r]
end
set_option maxHeartbeats 2000000 in
theorem z9h (by_:List Lvl) (hby:∀ b∈by_,narL b=true) (b:Int) (t:Trm):wfT b t=true->PCon Tryz.prog 207 [tv t,.p (.sl 3 (encLs by_))] (tv (lvsT by_ t)):=by
 intro hw
 have w:=zg hw
 have ih:∀ a∈t.args,PCon Tryz.prog 207 [tv a,.p (.sl 3 (encLs by_))] (tv (lvsT by_ a)):=fun a ha=>z9h by_ hby b a (w.sub a ha)
 have hfew:=w.few_args
 have hln:=w.few
 have hel:=zp t.levels
 have het:=zc t.args
 have hbl:=zp by_
 refine cv [] [1000003,1000011] [] Tryz.func207 64 Tryz.ntmps207 rfl rfl fun cx hE=>fun _=>brS (fun h0=>?_) (fun h0=>?_)
 ·have:by_=[]:=List.eq_nil_of_length_eq_zero (by omega)
  subst this
  exact ⟨by rw [za3];rfl,rfl⟩
 rw [zb6,z4g,z1t]
 refine join1 (A:=Unit) (fun _=>[]) (fun _=>[(2,ceT ⟨t.kind,t.n,t.name,t.levels.map (putF by_),t.args⟩)]) (fun _=>True) [] [2] [] hE rfl rfl rfl ?_ (fun _ _=>?_)
 ·refine fun _=>brS (fun h1=>?_) (fun h1=>?_)
  ·refine fun _=>And.intro (by first | omega | (dsimp only;omega)) (And.intro (by first | omega | (dsimp only;omega)) ?_)
   refine fun _=>?_
   refine loopP t.levels (fun p=>[(26,.p (I p.length)),(5,.nn 22 3 (encLs (p.map (putF by_))))]) (fun p=>[(22,.ar 74 3 (encLs (p.map (putF by_))).length)]) (fun _=>True) [26,5] [22] hE rfl rfl rfl ⟨Sub.refl _,Sub.refl _,rfl,rfl,rfl,trivial⟩ trivial (fun _=>brLe ⟨(),trivial,leX.by (Le.subC 2 3 rfl rfl Sub.nnp rfl rfl) (leX.same ⟨rfl,rfl,trivial⟩)⟩) (fun p a q hl _=>?_)
   have:=zh hl
   refine brL hl (idxL hl (call0 (zuc by_ hby a (w.nar a (zf hl))) (app1 (by simp;omega) (by simp;omega) (And.intro (by omega) ?_))))
   refine ⟨trivial,Sub.i (by simp),Sub.eq ?_,ar_eq (by simp),rfl,rfl,trivial⟩
   simp [zr,zb,rowL,rowT];rfl
  ·have:t.levels=[]:=List.eq_nil_of_length_eq_zero (by omega)
   exact ⟨(),trivial,leX.same ⟨by rw [this];rfl,rfl,trivial⟩⟩
 ·refine join1 (A:=Unit) (fun _=>[]) (fun _=>[(2,ceT ⟨t.kind,t.n,t.name,t.levels.map (putF by_),t.args.map (lvsT by_)⟩)]) (fun _=>True) [] [2] [] hE rfl rfl rfl ?_ (fun _ _=>⟨rfl,rfl⟩)
  refine fun _=>brS (fun h1=>?_) (fun h1=>?_)
  ·refine fun _=>And.intro (by first | omega | (dsimp only;omega)) (And.intro (by first | omega | (dsimp only;omega)) ?_)
   refine fun _=>?_
   refine loopP t.args (fun p=>[(50,.p (I p.length)),(8,.nn 46 5 (encTs (p.map (lvsT by_))))]) (fun p=>[(46,.ar 35 5 (encTs (p.map (lvsT by_))).length)]) (fun _=>True) [50,8] [46] hE rfl rfl rfl ⟨Sub.refl _,Sub.refl _,rfl,rfl,rfl,trivial⟩ trivial (fun _=>brTe ⟨(),trivial,leX.by (Le.subC 2 4 rfl rfl Sub.nnp rfl rfl) (leX.same ⟨rfl,rfl,trivial⟩)⟩) (fun p a q hl _=>?_)
   have:=zh hl
   refine brT' hl (idxT hl (call0 (ih a (zf hl)) (app1 (by simp;omega) (by simp;omega) (And.intro (by omega) ?_))))
   refine ⟨trivial,Sub.i (by simp),Sub.eq ?_,ar_eq (by simp),rfl,rfl,trivial⟩
   simp [zr,zb,rowL,rowT];rfl
  ·have:t.args=[]:=List.eq_nil_of_length_eq_zero (by have h1':¬ ((encTs t.args).length:Int)>0:=h1;omega)
   exact ⟨(),trivial,leX.same ⟨by rw [this];rfl,rfl,trivial⟩⟩
termination_by SizeOf.sizeOf t
decreasing_by exact Trm.lt ha
mutual
theorem zqu {g:Int->Trm->Trm} (h:∀ d v,g d v=v):∀ (t:Trm) (d:Int),trvT g t d=t
 | ⟨k,n,s,ls,l⟩,d=>by
   simp only [trvT,h,zlw h k l 0 d];split<;>rfl
theorem zlw {g:Int->Trm->Trm} (h:∀ d v,g d v=v) (k:Int):∀ (l:List Trm) (i d:Int),trvTs g k l i d=l
 | [],_,_=>rfl
 | a::r,i,d=>by simp only [trvTs];rw [zqu h a,zlw h k r]
end
theorem zzi (t:Trm) (d:Int):opnT [] t d=t:=by
 refine zqu (fun d v=>?_) t d
 unfold opnV
 split
 ·rfl
 ·split
  ·rename_i h1 h2;simp at h2;omega
  ·cases v;simp
def trnV (t:Trm) (b:Bool):AV:=.tp [tv t,.p (B b)]
set_option maxHeartbeats 4000000 in
theorem zfd (F:Nat) (hF:F=218\/F=232) (T0 T1:Nat) (p0 p1:PV) (g:Int->Trm->Trm) (u:Int->Trm->Bool) (hid:∀ d v,u d v=false->g d v=v) (b D:Int) (hD:D<=1000000000000000)
  (hf:∀ (v:Trm) (d:Int),wfT b v=true->v.kind=0->0<=d->d<=D->Con Tryz.prog F [tv v,.p (I d),.ptr 1000 0,.ptr 1001 0] [(1000,.ce T0 [.p p0]),(1001,.ce T1 [.p p1])] (fun r o=>r=trnV (g d v) (u d v)/\o=[(1000,.ce T0 [.p p0]),(1001,.ce T1 [.p p1])])) (t:Trm):∀ d:Int,0<=d->d+dpT t<=D->wfT b t=true ->
  Con Tryz.prog 217 [tv t,.p (I d),.fv (.func F) [] [.ptr 1000 0,.ptr 1001 0]] [(1000,.ce T0 [.p p0]),(1001,.ce T1 [.p p1])] (fun r o=>r=trnV (trvT g t d) (trnT u t d)/\o=[(1000,.ce T0 [.p p0]),(1001,.ce T1 [.p p1])]):=by
 intro d h0 h1 hw
 have w:=zg hw
 have hn0:=w.n0
 have hn1:=w.n1
 have hfew:=w.few_args
 have het:=zc t.args
 have ih:∀ a∈t.args,∀ d:Int,0<=d->d+dpT a<=D->Con Tryz.prog 217 [tv a,.p (I d),.fv (.func F) [] [.ptr 1000 0,.ptr 1001 0]] [(1000,.ce T0 [.p p0]),(1001,.ce T1 [.p p1])] (fun r o=>r=trnV (trvT g a d) (trnT u a d)/\o=[(1000,.ce T0 [.p p0]),(1001,.ce T1 [.p p1])]):=fun a ha d g0 g1=>zfd F hF T0 T1 p0 p1 g u hid b D hD hf a d g0 g1 (w.sub a ha)
 rcases hF with rfl | rfl
 all_goals
  refine cv [] [1000015] [1000,1001] Tryz.func217 69 Tryz.ntmps217 rfl rfl fun cx hE=>brS (fun hk=>?_) (fun hk=>?_)
  ·refine call1 [1000,1001] (hf t d hw hk h0 (by omega)) rfl rfl (za _) ⟨?_,rfl⟩
   rw [z9b,zvd,if_pos hk,if_pos hk];rfl
  rw [z9b,zvd,if_neg hk,if_neg hk]
  refine fun _=>?_
  refine zpj t.args false (fun p w=>[(25,.p (I p.length)),(8,cond w (.nn 50 5 (encTs (trvTs g t.kind p 0 d))) (.p nilS))]) (fun p w=>cond w [(50,.ar 35 5 (encTs (trvTs g t.kind p 0 d)).length)] []) (fun p w=>w=trnTs u t.kind p 0 d) [25,8] [50] hE rfl rfl rfl (leX.same ⟨Sub.refl _,Sub.refl _,rfl,rfl,rfl,rfl,trivial⟩) rfl (fun w hw=>?_) (fun p a q w hl hw=>?_)
  ·cases w with
   | true =>
     refine brTe ?_
     refine join1 (A:=Unit) (fun _=>[]) (fun _=>[(3,ceT ⟨t.kind,t.n,t.name,t.levels,trvTs g t.kind t.args 0 d⟩)]) (fun _=>True) [] [3,50] [] hE rfl rfl rfl ?_ (fun _ _=>⟨by unfold trnV;rw [<- hw];rfl,rfl⟩)
     exact ⟨(),trivial,leX.by (Le.subC 3 4 rfl rfl Sub.nnp rfl rfl) (leX.same ⟨rfl,rfl,rfl,rfl,trivial⟩)⟩
   | false =>
     have e:=zis hid t.kind t.args 0 d hw.symm
     exact brTe ⟨by unfold trnV;rw [<- hw,e];rfl,rfl⟩
  ·have:=zh hl
   have hbd:=z6u t.kind p.length
   have hda:=z1c (zf hl)
   have hia:=ih a (zf hl) (d+bndF t.kind p.length) (by omega) (by omega)
   have hlen:=z2l g t.kind p 0 d
   have hsn:=z8d g t.kind p a d
   cases w with
   | true =>
     refine brT' hl (idxT hl (call0 (zbp _ _) (And.intro (by omega) (callR [1000,1001] hia rfl rfl (za _) (brB (fun h2=>?_) (fun h2=>?_))))))
     ·refine app1 (by first | omega | (simp;done) | (simp;omega) | (simp [hlen];omega)) (by first | omega | (simp;done) | (simp;omega) | (simp [hlen];omega)) (And.intro (by omega) ?_)
      refine ⟨true,?_,leX.same ⟨Sub.i (by simp),?_,?_,rfl,rfl,rfl,rfl,trivial⟩⟩
      ·rw [z8j,<- hw];rfl
      ·refine Sub.eq (congrArg (AV.nn 50 5) ?_)
       rw [hsn,z1h]
      ·exact ar_eq (by simp [z2l])
     ·refine app1 (by first | omega | (simp;done) | (simp;omega) | (simp [hlen];omega)) (by first | omega | (simp;done) | (simp;omega) | (simp [hlen];omega)) (And.intro (by omega) ?_)
      have e2:=zve hid a _ h2
      refine ⟨true,?_,leX.same ⟨Sub.i (by simp),?_,?_,rfl,rfl,rfl,rfl,trivial⟩⟩
      ·rw [z8j,<- hw];rfl
      ·refine Sub.eq (congrArg (AV.nn 50 5) ?_)
       rw [hsn,z1h]
      ·exact ar_eq (by simp [z2l])
   | false =>
     have e:=zis hid t.kind p 0 d hw.symm
     refine brT' hl (idxT hl (call0 (zbp _ _) (And.intro (by omega) (callR [1000,1001] hia rfl rfl (za _) (brB (fun h2=>?_) (fun h2=>?_))))))
     ·refine And.intro (by omega) (And.intro (by dsimp only;omega) (And.intro (by omega) ?_))
      refine app2 rfl (by simp;omega) (by simp;omega) ?_
      refine app2 (by simp) (by simp;omega) (by simp;omega) (And.intro (by omega) ?_)
      have htk:(↑p.length:Int).toNat=p.length:=by omega
      have hpt:(encTs t.args).take p.length=encTs p:=by rw [hl];simp [zb]
      refine ⟨true,?_,leX.same ⟨Sub.i (by simp),?_,?_,rfl,rfl,rfl,rfl,trivial⟩⟩
      ·rw [z8j,h2];simp
      ·refine Sub.eq (congrArg (AV.nn 50 5) ?_)
       rw [htk,hpt,hsn,e,List.nil_append,z1h]
      ·exact ar_eq (by simp [z2l];omega)
     ·have e2:=zve hid a _ h2
      refine And.intro (by omega) ?_
      refine ⟨false,?_,leX.same ⟨Sub.i (by simp),Sub.refl _,rfl,rfl,rfl,rfl,trivial⟩⟩
      rw [z8j,<- hw,h2];rfl
termination_by SizeOf.sizeOf t
decreasing_by exact Trm.lt ha
theorem zsy (f by_:Int) (v:Trm) (d:Int) (h0:-1000000000000000000<=v.n-d) (h1:v.n-d<=1000000000000000000) (h2:-1000000000000000000<=v.n+by_) (h3:v.n+by_<=1000000000000000000) :
  Con Tryz.prog 218 [tv v,.p (I d),.ptr 1000 0,.ptr 1001 0] [(1000,.ce 3 [.p (I f)]),(1001,.ce 3 [.p (I by_)])] (fun r o=>r=trnV (lftV by_ f d v) (lftU f d v)/\o=[(1000,.ce 3 [.p (I f)]),(1001,.ce 3 [.p (I by_)])]):=by
 refine cv [] [] [1000,1001] Tryz.func218 21 Tryz.ntmps218 rfl rfl fun cx hE=>And.intro (by omega) (brS (fun h=>⟨?_,rfl⟩) (fun h=>And.intro (by omega) ⟨?_,rfl⟩))
 ·unfold trnV lftV lftU;rw [if_neg (by omega),decide_eq_false (by omega)];rfl
 ·unfold trnV lftV lftU;rw [if_pos (by omega),decide_eq_true (by omega)];rfl
theorem zao (by_ f b:Int) (hf0:0<=f) (hf1:f<=1000000000000) (hb0:0<=by_) (hb1:by_<=1000000000000000) (hb:b<=1000000000000000) (t:Trm) (hd:dpT t<=1000000000000) (hw:wfT b t=true) :
  PCon Tryz.prog 187 [tv t,.p (I by_),.p (I f)] (tv (lftT by_ t f)):=by
 have hc:=zfd 218 (.inl rfl) 3 3 (I f) (I by_) (lftV by_ f) (lftU f) (zz26 by_ f) b 1000000000000000 (by omega) (fun v d hv _ h0 h1=>by
  have w:=zg hv
  have h2:=w.n0
  have h3:=w.n1
  exact zsy f by_ v d (by omega) (by omega) (by omega) (by omega)) t 0 (by omega) (by omega) hw
 have hs:trvT (lftV by_ f) t 0=lftT by_ t f:=by rw [zl8];unfold lftT;rw [show (0:Int)+f=f by omega]
 rw [hs] at hc
 refine cv [] [] [] Tryz.func187 19 Tryz.ntmps187 rfl rfl fun cx hE=>brS (fun h=>⟨?_,rfl⟩) (fun h=>?_)
 ·subst h;rw [za6];rfl
 ·refine callX [5,4] ((hc.sw 1000 5).sw 1001 4) rfl rfl (za _) fun r o ⟨r1,o1,⟨r2,o2,⟨e1,e2⟩,e3,e4⟩,e5,e6⟩=>?_
  subst e1 e2 e3 e4 e5 e6
  exact ⟨rfl,rfl⟩
theorem zsz (vs:List Trm) (b:Int) (hb:b<=1000000000000000) (hvs:∀ v∈vs,wfT b v=true/\dpT v<=1000000000000) (hlen:vs.length<=1000000000000) (v:Trm) (hv:wfT b v=true) (hk:v.kind=0) (d:Int) (h0:0<=d) (h1:d<=1000000000000000) :
  Con Tryz.prog 232 [tv v,.p (I d),.ptr 1000 0,.ptr 1001 0] [(1000,.ce 3 [.p (I vs.length)]),(1001,.ce 33 [.p (.sl 5 (encTs vs))])] (fun r o=>r=trnV (opnV vs d v) (opnU d v)/\o=[(1000,.ce 3 [.p (I vs.length)]),(1001,.ce 33 [.p (.sl 5 (encTs vs))])]):=by
 have w:=zg hv
 have h2:=w.n0
 have h3:=w.n1
 refine cv [] [] [1000,1001] Tryz.func232 36 Tryz.ntmps232 rfl rfl fun cx hE=>And.intro (by omega) (brS (fun h=>⟨?_,rfl⟩) (fun h=>brS (fun h4=>?_) (fun h4=>And.intro (by omega) ⟨?_,rfl⟩)))
 ·unfold trnV opnV opnU;rw [if_pos (by omega),decide_eq_false (by omega)];rfl
 ·have hi:vs.length-1-(v.n-d).toNat<vs.length:=by omega
  have hg:vs[vs.length-1-(v.n-d).toNat]?=some (vs[vs.length-1-(v.n-d).toNat]):=List.getElem?_eq_getElem hi
  have hm:=hvs _ (List.getElem_mem hi)
  have he:((vs.length:Int)-1-(v.n-d))=((vs.length-1-(v.n-d).toNat:Nat):Int):=by omega
  refine And.intro (by omega) (And.intro (by omega) ?_)
  rw [he]
  refine idxN (row:=rowT (vs[vs.length-1-(v.n-d).toNat])) (by rw [zb,List.getElem?_map,hg];rfl) (call0 (zao d 0 b (by omega) (by omega) h0 h1 hb _ hm.2 hm.1) ⟨?_,rfl⟩)
  unfold trnV opnV opnU
  rw [if_neg (by omega),if_pos (by omega),decide_eq_true (by omega),List.getD_eq_getElem?_getD,hg];rfl
 ·unfold trnV opnV opnU;rw [if_neg (by omega),if_neg (by omega),decide_eq_true (by omega)];rfl
theorem zlx (b:Int) (hb:b<=1000000000000000) (vs:List Trm) (hvs:∀ v∈vs,wfT b v=true/\dpT v<=1000000000000) (hlen:vs.length<=1000000000000) (t:Trm) (hd:dpT t<=1000000000000) (hw:wfT b t=true) :
  PCon Tryz.prog 210 [tv t,.p (.sl 5 (encTs vs))] (tv (opnT vs t 0)):=by
 have hc:=zfd 232 (.inr rfl) 3 33 (I vs.length) (.sl 5 (encTs vs)) (opnV vs) opnU (zz27 vs) b 1000000000000000 (by omega) (fun v d hv hk h0 h1=>zsz vs b hb hvs hlen v hv hk d h0 h1) t 0 (by omega) (by omega) hw
 have hel:=zc vs
 refine cv [] [] [] Tryz.func210 20 Tryz.ntmps210 rfl rfl fun cx hE=>fun _=>?_
 rw [hel]
 refine brS (fun h=>⟨?_,rfl⟩) (fun h=>?_)
 ·have:vs=[]:=List.eq_nil_of_length_eq_zero (by omega)
  subst this
  rw [zzi];rfl
 ·refine callX [5,3] ((hc.sw 1000 5).sw 1001 3) rfl rfl (za _) fun r o ⟨r1,o1,⟨r2,o2,⟨e1,e2⟩,e3,e4⟩,e5,e6⟩=>?_
  subst e1 e2 e3 e4 e5 e6
  exact ⟨rfl,rfl⟩
theorem zzj (b:Int) (hb:b<=1000000000000000) (v:Trm) (hv:wfT b v=true) (hdv:dpT v<=1000000000000) (t:Trm) (hd:dpT t<=1000000000000) (hw:wfT b t=true) :
  PCon Tryz.prog 170 [tv t,tv v] (tv (opnT [v] t 0)):=by
 have hc:=zlx b hb [v] (fun x hx=>by simp at hx;subst hx;exact ⟨hv,hdv⟩) (by simp) t hd hw
 rw [show encTs [v]=[rowT v] by simp [zb]] at hc
 exact cv [] [] [] Tryz.func170 9 Tryz.ntmps170 rfl rfl fun cx hE=>call0 hc ⟨rfl,rfl⟩
end Go.Ab.YtpneaijfkefeaaaGreat
