/- Texts of our own, laid together. -/
import Derived.Test.YtpneaijfkefeaaaGreatM7T1
set_option maxRecDepth 20000
set_option linter.unusedVariables false
set_option linter.unusedSimpArgs false
namespace Go.Ab.YtpneaijfkefeaaaGreat
open Go Go.RowKit Go.Ab Go.Proofs
theorem zki (l:List Int):Con Tryz.prog 21 [.p (.sl 1 (byts l))] [] (fun r o=>r=.ptr 907 0/\o=[(907,.ce 96 [.p (.sl 1 (byts l)),.p (I 0)])]) :=
 (zhj l).at1 5 907 rfl rfl rfl rfl
end Go.Ab.YtpneaijfkefeaaaGreat
namespace Go.Ab
open Go Go.RowKit
mutual
def cloT:Trm->Int->Bool
 | ⟨k,n,_,_,l⟩,d=>if k=0 then decide (n<d) else cloTs k l 0 d
def cloTs (k:Int):List Trm->Int->Int->Bool
 | [],_,_=>true
 | a::r,j,d=>cloT a (d+bndF k j)&&cloTs k r (j+1) d
end
structure EnvN (ds:List Dcl):Prop where
 v:∀ d∈ds,d.kind=2->cloT d.value 0=true
 c:∀ d∈ds,∀ k∈d.ctors,cloT k.ty 0=true
end Go.Ab
namespace Go.Ab.YtpneaijfkefeaaaGreat
open Go Go.RowKit Go.Ab Go.Proofs
theorem zyv {t:Trm} (h:Stk t) (c:Int) (g:Nat) (f:Int):whF preL c (g+1) t f=some (t,f,0):=by simp only [whF];rw [h];simp
mutual
theorem zvn (m:Int):∀ (t:Trm) (d e:Int),cloT t d=true->d<=e->trvT (lftV m 0) t e=t
 | ⟨k,n,s,ls,l⟩,d,e,h,hle=>by
   simp only [cloT] at h
   simp only [trvT]
   split
   ·rename_i hk
    rw [if_pos hk,decide_eq_true_eq] at h
    unfold lftV
    rw [if_neg (by simp only;omega)]
   ·rename_i hk
    rw [if_neg hk] at h
    rw [zp4 m k l 0 d e h hle]
theorem zp4 (m k:Int):∀ (l:List Trm) (j d e:Int),cloTs k l j d=true->d<=e->trvTs (lftV m 0) k l j e=l
 | [],_,_,_,_,_=>rfl
 | a::r,j,d,e,h,hle=>by
   simp only [cloTs,Bool.and_eq_true] at h
   simp only [trvTs]
   rw [zvn m a _ (e+bndF k j) h.1 (by omega),zp4 m k r (j+1) d e h.2 hle]
end
mutual
theorem zp5:∀ (t:Trm) (d e:Int),cloT t d=true->d<=e->cloT t e=true
 | ⟨k,n,s,ls,l⟩,d,e,h,hle=>by
   simp only [cloT] at h ⊢
   split
   ·rename_i hk
    rw [if_pos hk,decide_eq_true_eq] at h
    exact decide_eq_true (by omega)
   ·rename_i hk
    rw [if_neg hk] at h
    exact zkj k l 0 d e h hle
theorem zkj (k:Int):∀ (l:List Trm) (j d e:Int),cloTs k l j d=true->d<=e->cloTs k l j e=true
 | [],_,_,_,_,_=>rfl
 | a::r,j,d,e,h,hle=>by
   simp only [cloTs,Bool.and_eq_true] at h ⊢
   exact ⟨zp5 a _ _ h.1 (by omega),zkj k r _ d e h.2 hle⟩
end
theorem clo_A {f a:Trm} {d:Int} (hf:cloT f d=true) (ha:cloT a d=true):cloT (mkA f a) d=true:=by
 simp [mkA,cloT,cloTs,bndF,hf,ha]
theorem clo_B {f a:Trm} {d:Int} (hf:cloT f d=true) (ha:cloT a (d+1)=true):cloT (mkB 4 f a) d=true:=by
 simp [mkB,cloT,cloTs,bndF,hf,ha]
theorem clo_6 {a b c:Trm} {d:Int} (ha:cloT a d=true) (hb:cloT b d=true) (hc:cloT c (d+1)=true):cloT ⟨6,0,⟨#[]⟩,[],[a,b,c]⟩ d=true:=by
 simp [cloT,cloTs,bndF,ha,hb,hc]
def CvE (a b:Trm) (i:Bool):Prop:=∃ (c:Int) (g:Nat) (f f':Int),cvF preL c g a b f=some (i,f',0)
theorem CvE.one {a b:Trm} {i j:Bool} (h:CvE a b i) (k:CvE a b j):i=j:=by
 obtain ⟨c1,g1,f1,e1,h1⟩:=h
 obtain ⟨c2,g2,f2,e2,h2⟩:=k
 have k1:=zhq (c':=max c1 c2) (by omega) (d:=max f1 f2-f1) (by omega) g1 a b f1 i e1 h1
 have k2:=zhq (c':=max c1 c2) (by omega) (d:=max f1 f2-f2) (by omega) g2 a b f2 j e2 h2
 rw [show f1+(max f1 f2-f1)=max f1 f2 by omega] at k1
 rw [show f2+(max f1 f2-f2)=max f1 f2 by omega] at k2
 exact congrArg Prod.fst (zz1b k1 k2)
theorem CvE.alk {a b:Trm} (h:alkT a b=true):CvE a b true:=⟨0,1,1,0,by simp only [cvF];rw [if_neg (by decide),if_pos h];rfl⟩
theorem CvE.stk {a b:Trm} (ha:Stk a) (hb:Stk b) {i:Bool} (h:CvE a b i):(alkT a b=true/\i=true)\/∃ c g f f',1<=g/\alkT a b=false/\hdF (cvF preL c g) a b f=some (i,f',0):=by
 obtain ⟨c,g,f,f',hx⟩:=h
 cases g with
 | zero=>cases hx
 | succ g =>
   simp only [cvF] at hx
   split at hx
   ·simp at hx
   split at hx
   ·rename_i hk;cases hx;exact .inl ⟨hk,rfl⟩
   rename_i hk
   cases g with
   | zero=>simp [whF] at hx
   | succ g =>
     rw [zyv ha] at hx
     simp only at hx
     rw [if_neg (by decide),zyv hb] at hx
     simp only at hx
     rw [if_neg (by decide)] at hx
     exact .inr ⟨c,g+1,f-1,f',by omega,by simpa using hk,hx⟩
theorem zy2 {h x y:Trm}:alkT (mkA h x) (mkA h y)=alkT x y:=by simp [mkA,alkT,samLs,alkTs,z1v]
theorem zy3 {h x y:Trm}:alkT (mkB 4 h x) (mkB 4 h y)=alkT x y:=by simp [mkB,alkT,samLs,alkTs,z1v]
theorem CvE.app {h:Trm} (hk:¬ h.kind=3) (h02:h.kind=0\/h.kind=2) (hs:∀ z,Stk (mkA h z)) {x y:Trm} {i:Bool} (hc:CvE (mkA h x) (mkA h y) i):CvE x y i:=by
 rcases hc.stk (hs x) (hs y) with ⟨h1,rfl⟩ | ⟨c,g,f,f',hg,h1,h2⟩
 ·rw [zy2] at h1;exact CvE.alk h1
 ·obtain ⟨a1,a2⟩:=z2f hk [x]
  obtain ⟨b1,b2⟩:=z2f hk [y]
  have a1:headT (mkA h x)=h:=a1;have a2:argsT (mkA h x)=[x]:=a2
  have b1:headT (mkA h y)=h:=b1;have b2:argsT (mkA h y)=[y]:=b2
  unfold hdF at h2
  rw [if_neg (by rw [h1];decide),if_neg (fun hc=>by rcases hc.2 with h | h<;>exact absurd h (by show ¬ (3:Int)=_;decide)),if_neg (by show ¬ (3:Int)=4;decide),if_neg (by show ¬ (3:Int)=4;decide)] at h2
  rw [if_neg (fun ho=>by
   unfold offT at ho
   rw [a1,a2,b1,b2,z1v] at ho
   rcases ho with ho | ho | ho | ho
   ·cases ho
   ·exact ho rfl
   ·omega
   ·cases ho),a2,b2] at h2
  simp only [allF] at h2
  split at h2
  ·cases h2
  ·rename_i is f1 e hcf
   split at h2
   ·rename_i he
    simp only [Option.some.injEq,Prod.mk.injEq] at h2
    obtain ⟨rfl,rfl,rfl⟩:=h2
    rcases he with he | he
    ·exact absurd rfl he
    ·subst he;exact ⟨c,g,f,_,hcf⟩
   ·rename_i he
    simp only [Option.some.injEq,Prod.mk.injEq] at h2
    obtain ⟨rfl,rfl,_⟩:=h2
    have e0:e=0:=Classical.byContradiction fun h=>he (.inl h)
    have i0:is=true:=by cases is with | true=>rfl | false=>exact absurd (.inr rfl) he
    subst e0 i0
    exact ⟨c,g,f,_,hcf⟩
theorem zvo (a b:Trm):Stk (mkB 4 a b):=fun c wh f=>rfl
theorem CvE.lam {h:Trm} {x y:Trm} {i:Bool} (hc:CvE (mkB 4 h x) (mkB 4 h y) i):CvE x y i:=by
 rcases hc.stk (zvo h x) (zvo h y) with ⟨h1,rfl⟩ | ⟨c,g,f,f',hg,h1,h2⟩
 ·rw [zy3] at h1;exact CvE.alk h1
 ·unfold hdF at h2
  rw [if_neg (by rw [h1];decide),if_pos ⟨rfl,.inl rfl⟩,show (mkB 4 h x).args=[h,x] from rfl,show (mkB 4 h y).args=[h,y] from rfl] at h2
  obtain ⟨g,rfl⟩:∃ k,g=k+1:=⟨g-1,by omega⟩
  have hh:cvF preL c (g+1) h h f=if f<=0 then some (false,f,11) else some (true,f-1,0):=by
   simp only [cvF];rw [if_pos (z1v h)]
  simp only [allF] at h2
  rw [hh] at h2
  by_cases hf:f<=0
  ·rw [if_pos hf] at h2;simp at h2
  ·rw [if_neg hf] at h2
   simp only at h2
   rw [if_neg (by simp)] at h2
   split at h2
   ·cases h2
   ·rename_i is f1 e hcf
    split at h2
    ·rename_i he
     simp only [Option.some.injEq,Prod.mk.injEq] at h2
     obtain ⟨rfl,rfl,rfl⟩:=h2
     rcases he with he | he
     ·exact absurd rfl he
     ·subst he;exact ⟨c,g+1,f-1,_,hcf⟩
    ·rename_i he
     simp only [Option.some.injEq,Prod.mk.injEq] at h2
     obtain ⟨rfl,rfl,_⟩:=h2
     have e0:e=0:=Classical.byContradiction fun h=>he (.inl h)
     have i0:is=true:=by cases is with | true=>rfl | false=>exact absurd (.inr rfl) he
     subst e0 i0
     exact ⟨c,g+1,f-1,_,hcf⟩
structure InP (x y u v:Trm):Prop where
 au:AnT u
 av:AnT v
 lu:LOK u
 lv:LOK v
 rel:∀ i,CvE u v i->CvE x y i
mutual
def chn:Lvl->Bool
 | ⟨k,n,l⟩=>(decide (k=0/\n=0)&&l.isEmpty) || ((decide (k=4/\0<=n/\n<4)&&l.isEmpty) || (decide (k=1/\n=0/\l.length=1)&&chns l))
def chns:List Lvl->Bool
 | []=>true
 | a::r=>chn a&&chns r
end
def sucL:Nat->Lvl->Lvl
 | 0,b=>b
 | n+1,b=>⟨1,0,[sucL n b]⟩
theorem zyw {l:List Lvl} (h:l.length=1):∃ x,l=[x]:=by
 match l,h with
 | [x],_=>exact ⟨x,rfl⟩
theorem zml:∀ l:Lvl,chn l=true->∃ (a:Nat) (b:Lvl),l=sucL a b/\(b=⟨0,0,[]⟩\/∃ n:Int,(n=0\/n=1\/n=2\/n=3)/\b=⟨4,n,[]⟩)
 | ⟨k,n,l⟩,h=>by
   simp only [chn,Bool.or_eq_true,Bool.and_eq_true,decide_eq_true_eq,List.isEmpty_iff] at h
   rcases h with ⟨⟨rfl,rfl⟩,rfl⟩ | ⟨⟨rfl,h1,h2⟩,rfl⟩ | ⟨⟨hk,hn,h1⟩,h2⟩
   ·exact ⟨0,_,rfl,.inl rfl⟩
   ·exact ⟨0,_,rfl,.inr ⟨n,by omega,rfl⟩⟩
   ·obtain ⟨x,hx⟩:=zyw h1
    have hm:x∈l:=by rw [hx];simp
    have h3:chn x=true:=by rw [hx] at h2;simpa [chns] using h2
    obtain ⟨a,b,h4,h5⟩:=zml x h3
    exact ⟨a+1,b,by rw [hk,hn,hx,h4];rfl,h5⟩
termination_by l=>SizeOf.sizeOf l
decreasing_by exact Lvl.lt (t:=⟨k,n,l⟩) hm
theorem zvp (p:List Int) (b:Lvl):∀ a:Nat,rEvF p (sucL a b)=rEvF p b+a
 | 0=>by simp [sucL]
 | a+1=>by simp only [sucL,ev_suc',zvp p b a];push_cast;omega
where
 ev_suc' {p:List Int} {l:Lvl}:rEvF p ⟨1,0,[l]⟩=rEvF p l+1:=by simp [rEvF,rEvs]
theorem zkk {l m:Lvl} (h:rSamF l m=true) {x0 x1 x2 x3:Int} (h0:isP x0) (h1:isP x1) (h2:isP x2) (h3:isP x3):rEvF [x0,x1,x2,x3] l=rEvF [x0,x1,x2,x3] m:=by
 unfold rSamF rLeqF at h
 simp only [Bool.and_eq_true,List.all_eq_true,decide_eq_true_eq] at h
 have a:=h.1 _ (zmj h0 h1 h2 h3)
 have b:=h.2 _ (zmj h0 h1 h2 h3)
 omega
theorem zz36 {l m:Lvl} (hl:chn l=true) (hm:chn m=true) (h:rSamF l m=true):l=m:=by
 obtain ⟨a,b,rfl,hb⟩:=zml l hl
 obtain ⟨c,d,rfl,hd⟩:=zml m hm
 have z:isP 0:=.inl rfl
 have o:isP 1:=.inr (.inl rfl)
 have e0:=zkk h z z z z
 have e1:=zkk h o z z z
 have e2:=zkk h z o z z
 have e3:=zkk h z z o z
 have e4:=zkk h z z z o
 simp only [zvp] at e0 e1 e2 e3 e4
 have v0:∀ p,rEvF p ⟨0,0,[]⟩=0:=fun p=>by simp [rEvF]
 rcases hb with rfl | ⟨n,hn,rfl⟩
 ·rcases hd with rfl | ⟨m,hm',rfl⟩
  ·simp only [v0] at e0
   rw [show a=c by omega]
  ·exfalso
   rcases hm' with rfl | rfl | rfl | rfl<;>simp [rEvF] at e0 e1 e2 e3 e4<;>omega
 ·rcases hd with rfl | ⟨m,hm',rfl⟩
  ·exfalso
   rcases hn with rfl | rfl | rfl | rfl<;>simp [rEvF] at e0 e1 e2 e3 e4<;>omega
  ·rcases hn with rfl | rfl | rfl | rfl<;>rcases hm' with rfl | rfl | rfl | rfl<;>simp [rEvF] at e0 e1 e2 e3 e4<;>first | (exfalso;omega) | rw [show a=c by omega]
def pC (k:Int) (s:ByteArray) (ls:List Lvl):Bool:=ls.all chn
theorem zvq {b:List Lvl} (hb:∀ x∈b,chn x=true):∀ l:Lvl,chn l=true->chn (putF b l)=true
 | ⟨k, n,l⟩,h=>by
   rw [zd1]
   split
   ·rename_i hp
    exact hb _ (zaf hp.2.1 hp.2.2).2
   ·have h':=h
    simp only [chn,Bool.or_eq_true,Bool.and_eq_true,decide_eq_true_eq,List.isEmpty_iff] at h ⊢
    rcases h with ⟨⟨rfl,rfl⟩,rfl⟩ | ⟨⟨rfl,h1,h2⟩,rfl⟩ | ⟨⟨hk,hn,h1⟩,h2⟩
    ·exact .inl ⟨⟨rfl,rfl⟩,rfl⟩
    ·exact .inr (.inl ⟨⟨rfl,h1,h2⟩,rfl⟩)
    ·obtain ⟨x,hx⟩:=zyw h1
     have hm:x∈l:=by rw [hx];simp
     have h3:chn x=true:=by rw [hx] at h2;simpa [chns] using h2
     have h4:=zvq hb x h3
     refine .inr (.inr ⟨⟨hk,hn,by simpa [z1o] using h1⟩,?_⟩)
     show chns (putFs b l)=true
     rw [hx]
     simp only [putFs,chns,Bool.and_true]
     exact h4
termination_by x=>SizeOf.sizeOf x
decreasing_by exact Lvl.lt (t:=⟨k,n,l⟩) hm
theorem pC_np:NP pC where
 own k h1 h2:=rfl
 put k s ls k' s' b h hb:=by
  simp only [pC,List.all_eq_true] at h hb ⊢
  intro x hx
  rw [z1o] at hx
  obtain ⟨y,hy,rfl⟩:=List.mem_map.1 hx
  exact zvq hb y (h y hy)
theorem pC_nc:NC pC:=⟨pC_np.toNO,by kernel_rfl⟩
theorem zea:EnvA pC preL:=by
 have h:(preL.all fun d=>allN pC d.value&&d.ctors.all fun k=>allN pC k.ty)=true:=by kernel_rfl
 simp only [List.all_eq_true,Bool.and_eq_true] at h
 exact ⟨fun d hd=>(h d hd).1,fun d hd k hk=>(h d hd).2 k hk⟩
theorem zvr:∀ l m:List Lvl,(∀ a∈l,chn a=true)->(∀ a∈m,chn a=true)->samLs l m=true->l=m
 | [],[],_,_,_=>rfl
 | a::r,b::s,h1,h2,h=>by
   simp only [samLs,Bool.and_eq_true] at h
   rw [zz36 (h1 a (by simp)) (h2 b (by simp)) h.1,zvr r s (fun x hx=>h1 x (by simp [hx])) (fun x hx=>h2 x (by simp [hx])) h.2]
 | [],_::_,_,_,h=>by cases h
 | _::_,[],_,_,h=>by cases h
mutual
theorem zeb:∀ a b:Trm,allN pC a=true->allN pC b=true->alkT a b=true->a=b
 | ⟨k,n,s,ls,l⟩,⟨k',n',s',ls',l'⟩,h1,h2,h=>by
   simp only [allN,Bool.and_eq_true,pC,List.all_eq_true] at h1 h2
   simp only [alkT,Bool.and_eq_true,decide_eq_true_eq] at h
   obtain ⟨rfl,rfl,rfl,h3,h4⟩:=h
   rw [zvr ls ls' h1.1 h2.1 h3,zvs l l' h1.2 h2.2 h4]
theorem zvs:∀ l m:List Trm,allNs pC l=true->allNs pC m=true->alkTs l m=true->l=m
 | [],[],_,_,_=>rfl
 | a::r,b::s,h1,h2,h=>by
   simp only [allNs,alkTs,Bool.and_eq_true] at h1 h2 h
   rw [zeb a b h1.1 h2.1 h.1,zvs r s h1.2 h2.2 h.2]
 | [],_::_,_,_,h=>by cases h
 | _::_,[],_,_,h=>by cases h
end
theorem z9u {w:Trm} (hg:Gd w) (h:argsT w=[]):headT w=w:=by
 have W:=zf hg.w
 by_cases h3:w.kind=3
 ·obtain ⟨f,x,hfx⟩:=z4q hg.w (.inl h3)
  obtain ⟨k,n,s,ls,l⟩:=w
  simp only at h3 hfx
  subst h3 hfx
  unfold argsT at h
  rw [spnT.eq_def] at h
  simp only [if_true] at h
  rw [z6y] at h
  simp at h
 ·obtain ⟨k,n,s,ls,l⟩:=w
  simp only at h3
  unfold headT
  rw [spnT.eq_def]
  simp only
  rw [if_neg h3]
theorem zr0 {w:Trm} (hg:Gd w) (hz:allN pZ w=true) (hn:(headT w).name=cZero.name) (h:argsT w=[]):w=cZero:=by
 have h1:=z9u hg h
 have h2:=zvh hg hz hn (.inl rfl)
 rw [<- h1,h2];exact ((zdb _ _).1 zz1i).symm
theorem zr1 {w a:Trm} (hg:Gd w) (hz:allN pZ w=true) (hn:(headT w).name=cSucc.name) (h:argsT w=[a]):w=mkA cSucc a:=by
 have h2:=zvh hg hz hn (.inr rfl)
 by_cases h3:w.kind=3
 ·have W:=zf hg.w
  obtain ⟨f,x,hfx⟩:=z4q hg.w (.inl h3)
  have gf:Gd f:=hg.sub (by rw [hfx];simp)
  have hn0:=W.var (by omega)
  have hs:=W.name (by omega)
  have hls:=W.lev (by omega) (by omega)
  obtain ⟨k,n,s,ls,l⟩:=w
  simp only at h3 hfx hn0 hs hls
  subst h3 hfx hn0 hs
  have hl0:ls=[]:=List.eq_nil_of_length_eq_zero hls
  subst hl0
  have e1:argsT ⟨3,0,⟨#[]⟩,[],[f,x]⟩=argsT f++[x]:=by
   unfold argsT;rw [spnT.eq_def];simp only [if_true];rw [z6y]
  have e2:headT ⟨3,0,⟨#[]⟩,[],[f,x]⟩=headT f:=by
   unfold headT;rw [spnT.eq_def];simp only [if_true];rw [z6y]
  rw [e1] at h
  have hf:argsT f=[]:=by
   cases hq:argsT f with
   | nil=>rfl
   | cons p q=>rw [hq] at h;simp at h
  rw [hf] at h
  simp only [List.nil_append,List.cons.injEq,and_true] at h
  rw [e2,z9u gf hf] at h2
  rw [h,h2]
  unfold mkA
  rw [(zdb _ _).1 zz1j]
 ·exfalso
  obtain ⟨k,n,s,ls,l⟩:=w
  simp only at h3
  unfold argsT at h
  rw [spnT.eq_def] at h
  simp only at h
  rw [if_neg h3] at h
  simp at h
theorem zkl {h x y:Trm} (hk:¬ h.kind=3) (h02:h.kind=0\/h.kind=2) {c:Int} {g:Nat} {f:Int} {i:Bool} {f':Int} (h1:alkT (mkA h x) (mkA h y)=false) (h2:hdF (cvF preL c g) (mkA h x) (mkA h y) f=some (i,f',0)):∃ f0 f1,cvF preL c g x y f0=some (i,f1,0):=by
 obtain ⟨a1,a2⟩:=z2f hk [x]
 obtain ⟨b1,b2⟩:=z2f hk [y]
 have a1:headT (mkA h x)=h:=a1;have a2:argsT (mkA h x)=[x]:=a2
 have b1:headT (mkA h y)=h:=b1;have b2:argsT (mkA h y)=[y]:=b2
 unfold hdF at h2
 rw [if_neg (by rw [h1];decide),if_neg (fun hc=>by rcases hc.2 with h | h<;>exact absurd h (by show ¬ (3:Int)=_;decide)),if_neg (by show ¬ (3:Int)=4;decide),if_neg (by show ¬ (3:Int)=4;decide)] at h2
 rw [if_neg (fun ho=>by
  unfold offT at ho
  rw [a1,a2,b1,b2,z1v] at ho
  rcases ho with ho | ho | ho | ho
  ·cases ho
  ·exact ho rfl
  ·omega
  ·cases ho),a2,b2] at h2
 simp only [allF] at h2
 split at h2
 ·cases h2
 ·rename_i is f1 e hcf
  split at h2
  ·rename_i he
   simp only [Option.some.injEq,Prod.mk.injEq] at h2
   obtain ⟨rfl,rfl,rfl⟩:=h2
   rcases he with he | he
   ·exact absurd rfl he
   ·subst he;exact ⟨_,_,hcf⟩
  ·rename_i he
   simp only [Option.some.injEq,Prod.mk.injEq] at h2
   obtain ⟨rfl,rfl,_⟩:=h2
   have e0:e=0:=Classical.byContradiction fun h=>he (.inl h)
   have i0:is=true:=by cases is with | true=>rfl | false=>exact absurd (.inr rfl) he
   subst e0 i0
   exact ⟨_,_,hcf⟩
theorem zk:¬ cZero.kind=3/\¬ cZero.kind=4:=by decide +kernel
theorem hd_zs {cf:Trm->Trm->Int->Option CR} {b:Trm} {f:Int}:hdF cf cZero (mkA cSucc b) f=some (false,f,0)/\hdF cf (mkA cSucc b) cZero f=some (false,f,0):=by
 have n1:alkT cZero (mkA cSucc b)=false:=by rw [zmi];simp [mkA,zk.1]
 have n2:alkT (mkA cSucc b) cZero=false:=by rw [zmi];simp [mkA,Ne.symm zk.1]
 obtain ⟨a1,a2⟩:=z2f zk.1 []
 have a2:argsT cZero=[]:=a2
 obtain ⟨b1,b2⟩:=z2f (h:=cSucc) (by decide +kernel) [b]
 have b2:argsT (mkA cSucc b)=[b]:=b2
 constructor
 ·unfold hdF
  rw [n1,if_neg (by decide),if_neg (fun hc=>zk.1 hc.1),if_neg zk.2,if_neg (by show ¬ (3:Int)=4;decide),if_pos (.inl a2)]
 ·unfold hdF
  rw [n2,if_neg (by decide),if_neg (fun hc=>zk.1 hc.1.symm),if_neg (by show ¬ (3:Int)=4;decide),if_neg zk.2,if_pos (.inr (.inl (by rw [a2,b2];simp)))]
theorem Ev.all {p:Int->ByteArray->List Lvl->Bool} (hp:NP p) (hE:EnvA p preL) {t u:Trm} (ht:allN p t=true) (h:Ev t u):allN p u=true:=by
 obtain ⟨c,g,f,f',h⟩:=h
 exact zos hp hE g t f _ ht h
theorem zp6 {x y:Trm} (cx:allN pC x=true) (cy:allN pC y=true) {c:Int} {g:Nat} {f:Int} {i:Bool} {f':Int} (hx:cvF preL c g x y f=some (i,f',0)):(x=y/\i=true)\/∃ w v g' f2,Ev x w/\Ev y v/\hdF (cvF preL c g') w v f2=some (i,f',0):=by
 cases g with
 | zero=>cases hx
 | succ g =>
   simp only [cvF] at hx
   split at hx
   ·simp at hx
   split at hx
   ·rename_i hk;cases hx;exact .inl ⟨zeb x y cx cy hk,rfl⟩
   cases hw:whF preL c g x (f-1) with
   | none=>rw [hw] at hx;cases hx
   | some q =>
     obtain ⟨w,f1,e⟩:=q
     rw [hw] at hx
     simp only at hx
     split at hx
     ·rename_i he;simp only [Option.some.injEq,Prod.mk.injEq] at hx;exact absurd hx.2.2 he
     rename_i he
     have he0:e=0:=Classical.byContradiction fun h=>he h
     subst he0
     cases hv:whF preL c g y f1 with
     | none=>rw [hv] at hx;cases hx
     | some z =>
       obtain ⟨v,f2,e2⟩:=z
       rw [hv] at hx
       simp only at hx
       split at hx
       ·rename_i he2;simp only [Option.some.injEq,Prod.mk.injEq] at hx;exact absurd hx.2.2 he2
       rename_i he2
       have he20:e2=0:=Classical.byContradiction fun h=>he2 h
       subst he20
       exact .inr ⟨w,v,g,f2,⟨c,g,f-1,f1,hw⟩,⟨c,g,f1,f2,hv⟩,hx⟩
theorem za2 {n:Nat} {x w:Trm} (hn:Num n x) (h:Ev x w) (gx:Gd x) (zx:allN pZ x=true):(n=0/\w=cZero)\/∃ m a,n=m+1/\w=mkA cSucc a/\Num m a:=by
 have gw:=h.gd gx
 have zw:=Ev.all pZ_np zvg zx h
 cases n with
 | zero =>
   obtain ⟨w0,h1,h2,h3⟩:=hn
   have e:=Ev.one h h1
   subst e
   exact .inl ⟨rfl,zr0 gw zw h2 h3⟩
 | succ n =>
   obtain ⟨w0,a,h1,h2,h3,h4⟩:=hn
   have e:=Ev.one h h1
   subst e
   exact .inr ⟨n,a,rfl,zr1 gw zw h2 h3,h4⟩
theorem zz37:∀ (n:Nat) (x:Trm) (k:Nat) (y:Trm),Num n x->Num k y->Gd x->Gd y->allN pZ x=true->allN pZ y=true->allN pC x=true->allN pC y=true->∀ (c:Int) (g:Nat) (f:Int) (i:Bool) (f':Int),cvF preL c g x y f=some (i,f',0)->i=decide (n=k):=by
 intro n
 induction n with
 | zero =>
   intro x k y nx ny gx gy zx zy cx cy c g f i f' hx
   rcases zp6 cx cy hx with ⟨rfl,rfl⟩ | ⟨w,v,g',f2,h1,h2,h3⟩
   ·rw [Num.one nx ny];simp
   ·rcases za2 nx h1 gx zx with ⟨_,rfl⟩ | ⟨m,a,hm,_⟩
    ·rcases za2 ny h2 gy zy with ⟨rfl,rfl⟩ | ⟨m,b,rfl,rfl,_⟩
     ·unfold hdF at h3;rw [if_pos (z1v _)] at h3;cases h3;simp
     ·rw [hd_zs.1] at h3;cases h3;simp
    ·omega
 | succ n ih =>
   intro x k y nx ny gx gy zx zy cx cy c g f i f' hx
   rcases zp6 cx cy hx with ⟨rfl,rfl⟩ | ⟨w,v,g',f2,h1,h2,h3⟩
   ·rw [Num.one nx ny];simp
   ·have gw:=h1.gd gx;have gv:=h2.gd gy
    have zw:=Ev.all pZ_np zvg zx h1;have zv:=Ev.all pZ_np zvg zy h2
    have cw:=Ev.all pC_np zea cx h1;have cv:=Ev.all pC_np zea cy h2
    rcases za2 nx h1 gx zx with ⟨hm,_⟩ | ⟨m,a,hm,rfl,na⟩
    ·omega
    ·have hmn:m=n:=by omega
     subst hmn
     rcases za2 ny h2 gy zy with ⟨rfl,rfl⟩ | ⟨k,b,rfl,rfl,nb⟩
     ·rw [hd_zs.2] at h3;cases h3;simp
     ·have ha:a∈(mkA cSucc a).args:=by simp [mkA]
      have hb:b∈(mkA cSucc b).args:=by simp [mkA]
      by_cases hk:alkT (mkA cSucc a) (mkA cSucc b)=true
      ·have e:=zeb _ _ cw cv hk
       have e':a=b:=by simpa [mkA] using e
       subst e'
       unfold hdF at h3
       rw [if_pos (z1v _)] at h3
       cases h3
       rw [Num.one na nb];simp
      ·obtain ⟨f0,f1,h4⟩:=zkl (by decide +kernel) (by decide +kernel) (by simpa using hk) h3
       rw [ih a k b na nb (gw.sub ha) (gv.sub hb) (z1q zw ha) (z1q zv hb) (z1q cw ha) (z1q cv hb) c g' f0 i f1 h4]
       simp
set_option maxHeartbeats 16000000 in
theorem zkm (la lb:List Int) (ha:okB la) (hb:okB lb) (hla:(la.length:Int)<=9223372036854775807) (hlb:(lb.length:Int)<=9223372036854775807):PCon Tryz.prog 11 [.p (.sl 1 (byts la)),.p (.sl 1 (byts lb))] (.p (B true)):=by
 have hba:=z7k la
 have hbb:=z7k lb
 refine cv [] [] [] Tryz.func11 78 Tryz.ntmps11 rfl rfl fun cx hE=>call0 zfz (brB (fun h=>by cases h) (fun _=>fun _=>brS (fun h40=>⟨rfl,rfl⟩) (fun h40=>fun _=>brS (fun h41=>⟨rfl,rfl⟩) (fun h41=>?_))))
 refine callX [] zhc rfl rfl .nil fun r o ⟨e1,pv,pl,ov,hE1,e2⟩=>?_
 subst e1 e2
 have hG:=preG hE1
 have px:=zme la (by omega) 0 (by omega) (by omega)
 have py:=zme lb (by omega) 0 (by omega) (by omega)
 have lx:LOK (natP la 0):=zvf la (2 * la.length+1) 0 0
 have ly:LOK (natP lb 0):=zvf lb (2 * lb.length+1) 0 0
 have zx:allN pZ (natP la 0)=true:=(z5a pZ_nc la (2 * la.length+1) 0 0).1
 have zy:allN pZ (natP lb 0)=true:=(z5a pZ_nc lb (2 * lb.length+1) 0 0).1
 have cx:allN pC (natP la 0)=true:=(z5a pC_nc la (2 * la.length+1) 0 0).1
 have cy:allN pC (natP lb 0)=true:=(z5a pC_nc lb (2 * lb.length+1) 0 0).1
 have cA:=(z9v la ha (by omega) 0 (by omega) (by omega)).at1 1000 905 rfl rfl rfl rfl
 have cB:=(z9v lb hb (by omega) 0 (by omega) (by omega)).at1 1000 907 rfl rfl rfl rfl
 generalize (natF la (2 * la.length+1) 0 0).2=a2 at cA
 generalize (natF lb (2 * lb.length+1) 0 0).2=b2 at cB
 generalize natP la 0=x at *
 generalize natP lb 0=y at *
 have dx:=px.d;have dy:=py.d;have sx:=px.s;have sy:=py.s
 have ax:AnT x:=⟨z1b (by omega) _ px.w,by omega,by omega⟩
 have ay:AnT y:=⟨z1b (by omega) _ py.w,by omega,by omega⟩
 obtain ⟨nv,hn1,hn2,cn⟩:=zyo px.w (by omega)
 obtain ⟨kv,hk1,hk2,ck⟩:=zyo py.w (by omega)
 obtain ⟨g1,x1,w1⟩:=ax.cv ay (f:=30000) (c:=60000) (by omega) (by omega)
 have hce:=(ze4 g1 _ _ _ x1 ax.gd ay.gd w1).2
 have p1:=za1 preL pv ov pl hG zhw x y ax.ok ay.ok ax.gd ay.gd lx ly 30000 60000 ⟨by omega,by omega,by omega,by omega⟩ g1 x1 w1
 refine call1 [] (zk7 la) rfl rfl (za _) (call1 [905] cA rfl rfl (za _) (call1 [] (zki lb) rfl rfl (za _) (call1 [907] cB rfl rfl (za _) ?_)))
 refine callR [1000,1001] cn rfl rfl (za _) (callR [1000,1001] ck rfl rfl (za _) ?_)
 refine callX [1004,1005,1006,1007] p1 rfl rfl (za _) fun r o ⟨q1,q2⟩=>?_
 subst q1 q2
 obtain ⟨i,f1,e⟩:=x1
 simp only at hce
 rcases hce with h | ⟨he,hi⟩
 ·subst h
  refine brZ (by simp) (brS (fun h1=>brY rfl ⟨rfl,rfl⟩) (fun h1=>brS (fun h2=>brY rfl ⟨rfl,rfl⟩) (fun h2=>?_)))
  obtain ⟨n,rfl,hn⟩:∃ m:Nat,nv=m/\Num m x:=by
   rcases hn1 with h | h
   ·omega
   ·exact h
  obtain ⟨k,rfl,hk⟩:∃ m:Nat,kv=m/\Num m y:=by
   rcases hk1 with h | h
   ·omega
   ·exact h
  have:=zz37 n x k y hn hk ax.gd ay.gd zx zy cx cy _ _ _ _ _ w1
  subst this
  exact ⟨B_eq (by simp only [beq_iff_eq,decide_eq_decide];omega),rfl⟩
 ·subst hi
  unfold errE at he
  rcases he with rfl | rfl
  ·exact brY (by simp) (brZ (by simp) (brT (brY rfl ⟨rfl,rfl⟩)))
  ·exact brY (by simp) (brZ (by simp) (brT (brZ (by simp) ⟨rfl,rfl⟩)))
def idS:Trm:=⟨1,0,⟨#[]⟩,cId.levels,[]⟩
def idB:Trm:=mkB 4 idS (mkB 4 (mkV 0) (mkV 0))
def k6 (a b:Trm):Trm:=⟨6,0,⟨#[]⟩,[],[cNat,a,b]⟩
inductive GT:Nat->Nat->Trm->Prop where
 | zero {v}:GT 0 v cZero
 | two {v}:GT 0 v cTwo
 | suc {v}:GT 1 v cSucc
 | add {v}:GT 2 v cAdd
 | var {v} (i:Nat):i<v->GT 0 v (mkV i)
 | lam {k v b}:GT k (v+1) b->GT (k+1) v (mkB 4 cNat b)
 | app {k v f a}:GT (k+1) v f->GT 0 v a->GT k v (mkA f a)
 | lt {v a b}:GT 0 v a->GT 0 (v+1) b->GT 0 v (k6 a b)
 | rc {v z s n}:GT 0 v z->GT 2 v s->GT 0 v n->GT 0 v (appT cRec [cNN,z,s,n])
 | idn {v}:GT 1 v (mkA cId cNat)
 | idm {v}:GT 1 v (mkA idB cNat)
 | idf {v F}:GT 1 v F->GT 1 v (mkA (mkA cId cPi) F)
 | idg {v F}:GT 1 v F->GT 1 v (mkA (mkA idB cPi) F)
 | idh {v F}:GT 1 v F->GT 1 v (mkA (mkB 4 cPi (mkV 0)) F)
theorem zz1k:([cZero,cSucc,cAdd,cTwo,cNat,cId,cRec,cNN,cPi,idB,mkB 4 cPi (mkV 0)].all fun t=>cloT t 0)=true:=by kernel_rfl
theorem clo_c {t:Trm} (h:t∈[cZero,cSucc,cAdd,cTwo,cNat,cId,cRec,cNN,cPi,idB,mkB 4 cPi (mkV 0)]) (v:Nat):cloT t v=true :=
 zp5 t 0 v (List.all_eq_true.1 zz1k t h) (by omega)
theorem GT.clo {k v:Nat} {t:Trm} (h:GT k v t):cloT t v=true:=by
 induction h with
 | zero=>exact clo_c (by simp) _
 | two=>exact clo_c (by simp) _
 | suc=>exact clo_c (by simp) _
 | add=>exact clo_c (by simp) _
 | var i hi=>simp [mkV,cloT];omega
 | lam _ ih=>exact clo_B (clo_c (by simp) _) ih
 | app _ _ i1 i2=>exact clo_A i1 i2
 | lt _ _ i1 i2=>exact clo_6 (clo_c (by simp) _) i1 i2
 | rc _ _ _ i1 i2 i3=>exact clo_A (clo_A (clo_A (clo_A (clo_c (by simp) _) (clo_c (by simp) _)) i1) i2) i3
 | idn=>exact clo_A (clo_c (by simp) _) (clo_c (by simp) _)
 | idm=>exact clo_A (clo_c (by simp) _) (clo_c (by simp) _)
 | idf _ i=>exact clo_A (clo_A (clo_c (by simp) _) (clo_c (by simp) _)) i
 | idg _ i=>exact clo_A (clo_A (clo_c (by simp) _) (clo_c (by simp) _)) i
 | idh _ i=>exact clo_A (clo_c (by simp) _) i
theorem GT.mono {k v:Nat} {t:Trm} (h:GT k v t):∀ {w:Nat},v<=w->GT k w t:=by
 induction h with
 | zero=>exact fun _=>.zero
 | two=>exact fun _=>.two
 | suc=>exact fun _=>.suc
 | add=>exact fun _=>.add
 | var i hi=>exact fun h=>.var i (by omega)
 | lam _ ih=>exact fun h=>.lam (ih (by omega))
 | app _ _ i1 i2=>exact fun h=>.app (i1 h) (i2 h)
 | lt _ _ i1 i2=>exact fun h=>.lt (i1 h) (i2 (by omega))
 | rc _ _ _ i1 i2 i3=>exact fun h=>.rc (i1 h) (i2 h) (i3 h)
 | idn=>exact fun _=>.idn
 | idm=>exact fun _=>.idm
 | idf _ i=>exact fun h=>.idf (i h)
 | idg _ i=>exact fun h=>.idg (i h)
 | idh _ i=>exact fun h=>.idh (i h)
mutual
theorem zvt (vs:List Trm):∀ (t:Trm) (d e:Int),cloT t d=true->d<=e->trvT (opnV vs) t e=t
 | ⟨k,n,s,ls,l⟩,d,e,h,hle=>by
   simp only [cloT] at h
   simp only [trvT]
   split
   ·rename_i hk
    rw [if_pos hk,decide_eq_true_eq] at h
    unfold opnV
    rw [if_pos (by simp only;omega)]
   ·rename_i hk
    rw [if_neg hk] at h
    rw [zp7 vs k l 0 d e h hle]
theorem zp7 (vs:List Trm) (k:Int):∀ (l:List Trm) (j d e:Int),cloTs k l j d=true->d<=e->trvTs (opnV vs) k l j e=l
 | [],_,_,_,_,_=>rfl
 | a::r,j,d,e,h,hle=>by
   simp only [cloTs,Bool.and_eq_true] at h
   simp only [trvTs]
   rw [zvt vs a _ (e+bndF k j) h.1 (by omega),zp7 vs k r (j+1) d e h.2 hle]
end
theorem opn_A (vs:List Trm) (f a:Trm) (d:Int):opnT vs (mkA f a) d=mkA (opnT vs f d) (opnT vs a d):=by simp [opnT,mkA,trvT,trvTs,bndF]
theorem opn_B (vs:List Trm) (f a:Trm) (d:Int):opnT vs (mkB 4 f a) d=mkB 4 (opnT vs f d) (opnT vs a (d+1)):=by simp [opnT,mkB,trvT,trvTs,bndF]
theorem opn_6 (vs:List Trm) (a b:Trm) (d:Int):opnT vs (k6 a b) d=⟨6,0,⟨#[]⟩,[],[opnT vs cNat d,opnT vs a d,opnT vs b (d+1)]⟩:=by simp [opnT,k6,trvT,trvTs,bndF]
theorem opn_c {t:Trm} (h:t∈[cZero,cSucc,cAdd,cTwo,cNat,cId,cRec,cNN,cPi,idB,mkB 4 cPi (mkV 0)]) (vs:List Trm) (d:Nat):opnT vs t d=t:=zvt vs t 0 d (clo_c h 0) (by omega)
theorem GT.opn {x:Trm} (hx:GT 0 0 x) {k w:Nat} {t:Trm} (h:GT k w t):∀ {d:Nat},w=d+1->GT k d (opnT [x] t d):=by
 have hl:∀ d:Nat,lftT d x 0=x:=fun d=>zvn d x 0 0 hx.clo (by omega)
 induction h with
 | zero=>intro d hd;rw [opn_c (by simp)];exact .zero
 | two=>intro d hd;rw [opn_c (by simp)];exact .two
 | suc=>intro d hd;rw [opn_c (by simp)];exact .suc
 | add=>intro d hd;rw [opn_c (by simp)];exact .add
 | var i hi =>
   intro d hd
   have e:opnT [x] (mkV i) d=if (i:Int)<d then mkV i else x:=by
    unfold opnT mkV
    simp only [trvT,if_true,opnV]
    by_cases h:(i:Int)<d
    ·rw [if_pos h,if_pos h]
    ·rw [if_neg h,if_neg h,if_pos (by simp;omega)]
     have:(([x]:List Trm).length-1-((i:Int)-d).toNat)=0:=by simp
     rw [this]
     exact hl d
   rw [e]
   split
   ·exact .var i (by omega)
   ·exact hx.mono (by omega)
 | lam _ ih =>
   intro d hd;subst hd
   rw [opn_B,opn_c (by simp)]
   exact .lam (ih (d:=d+1) rfl)
 | app _ _ i1 i2=>intro d hd;rw [opn_A];exact .app (i1 hd) (i2 hd)
 | lt _ _ i1 i2 =>
   intro d hd;subst hd
   rw [opn_6,opn_c (by simp)]
   exact .lt (i1 rfl) (i2 (d:=d+1) rfl)
 | rc _ _ _ i1 i2 i3 =>
   intro d hd
   simp only [appT,opn_A]
   rw [opn_c (by simp),opn_c (by simp)]
   exact .rc (i1 hd) (i2 hd) (i3 hd)
 | idn=>intro d hd;rw [opn_A,opn_c (by simp),opn_c (by simp)];exact .idn
 | idm=>intro d hd;rw [opn_A,opn_c (by simp),opn_c (by simp)];exact .idm
 | idf _ i=>intro d hd;rw [opn_A,opn_A,opn_c (by simp),opn_c (by simp)];exact .idf (i hd)
 | idg _ i=>intro d hd;rw [opn_A,opn_A,opn_c (by simp),opn_c (by simp)];exact .idg (i hd)
 | idh _ i=>intro d hd;rw [opn_A,opn_c (by simp)];exact .idh (i hd)
theorem GT.apps:∀ {l:List Trm} {t:Trm},GT l.length 0 t->(∀ a∈l,GT 0 0 a)->GT 0 0 (appT t l)
 | [],t,h,_=>h
 | a::r,t,h,hl=>GT.apps (l:=r) (.app h (hl a (by simp))) fun b hb=>hl b (by simp [hb])
theorem zec {h:Trm} (l:List Trm) (h2:h.kind=2) {d:Dcl} (hd:findD preL h.name=some d) (hk:d.kind=2/\d.params=(h.levels.length:Int)):Det (appT h l) (appT (lvsT h.levels d.value) l):=fun c wh f z ho he=>by
 obtain ⟨e1,e2⟩:=z2f (h:=h) (by omega) l
 unfold onF at ho
 rw [e1,e2,if_neg (fun hc=>by omega),if_neg (by omega),if_pos h2,hd] at ho
 simp only at ho
 rw [if_pos hk] at ho
 exact zfv ho he
theorem zz1l (a b:Trm) (l:List Trm):Det (appT (k6 a b) l) (appT (opnT [a] b 0) l):=fun c wh f y ho he=>by
 obtain ⟨e1,e2⟩:=z2f (h:=k6 a b) (by simp [k6]) l
 unfold onF at ho
 rw [e1,e2,if_neg (fun hc=>absurd hc.1 (by show ¬ (6:Int)=4;decide)),if_pos (show (k6 a b).kind=6 from rfl)] at ho
 exact zfv ho he
def idD:Dcl:=(findD preL cId.name).getD default
theorem zyx:findD preL cId.name=some idD:=z5m (by kernel_rfl)
theorem idD_k:(decide (idD.kind=2)&&decide (idD.params=(cId.levels.length:Int)))=true:=by kernel_rfl
theorem idD_v:lvsT cId.levels idD.value=idB:=by kernel_rfl
def twoD:Dcl:=(findD preL cTwo.name).getD default
theorem zz1m:findD preL cTwo.name=some twoD:=z5m (by kernel_rfl)
theorem zz38:(decide (twoD.kind=2)&&decide (twoD.params=(cTwo.levels.length:Int)))=true:=by kernel_rfl
theorem zz39:lvsT cTwo.levels twoD.value=k6 (mkA cSucc cZero) (mkA cSucc (mkV 0)):=by kernel_rfl
theorem zvu {x s y m:Trm} (h2:(headT m).kind=2) (hn:(headT m).name=cZero.name) (ha:argsT m=[]):iotR recN cRec [cNN,x,s,y] m=some x:=by
 unfold iotR
 rw [if_pos h2,hn,zz2s]
 simp only
 rw [ha,zuw,zz14,zk6]
 rfl
theorem zvv {x s y m a:Trm} (h2:(headT m).kind=2) (hn:(headT m).name=cSucc.name) (ha:argsT m=[a]):iotR recN cRec [cNN,x,s,y] m=some (appT s [a,appT cRec [cNN,x,s,a]]):=by
 have hh:hypF recN cRec [cNN,x,s,y] cNat [] a=some (appT cRec [cNN,x,s,a]):=by
  have h1:(headT (piE cNat)).kind=2/\(headT (piE cNat)).name=recN.fam.name:=⟨by kernel_rfl,by kernel_rfl⟩
  unfold hypF
  rw [if_pos h1,zuw,zz2r]
  have e1:opnT (List.take 0 [cNN,x,s,y]++[]) (lvsT cRec.levels cNat) 0=cNat:=by kernel_rfl
  rw [e1]
  have e2:piL cNat=[]:=by kernel_rfl
  have e3:argsT (piE cNat)=[]:=by kernel_rfl
  rw [e2,e3]
  simp only [List.length_nil,Nat.zero_add,List.take_succ_cons,List.take_zero,List.map_cons,List.map_nil,List.drop_nil,varsT,lamsT,List.foldr_nil,appT,Int.ofNat_zero,Int.natCast_zero,z5h]
  skip
 unfold iotR
 rw [if_pos h2,hn,zz2t]
 simp only
 rw [ha,zuw,zz15,zk6]
 simp only [List.length_cons,List.length_nil,List.drop_zero,if_pos,hypsF,hh]
 rfl
def Val (u:Trm):Prop:=u=cZero\/∃ a,u=mkA cSucc a/\GT 0 0 a
def Stp0 (t:Trm) (y:OR):Prop:=y.2.2.2=0->(y.2.1=true/\GT 0 0 y.1)\/(y.2.1=false/\y.1=t/\Val t)
theorem z5y {t v:Trm} (hd:Det t v) (hv:GT 0 0 v) {c:Int} {g:Nat} {f:Int} {y:OR} (h:onF preL c (whF preL c g) t f=some y):Stp0 t y:=fun he=>by
 obtain ⟨h1,h2⟩:=hd c g f y h he
 exact .inl ⟨h1,by rw [h2];exact hv⟩
theorem zvw {t:Trm} (hs:Stk t) (hv:Val t) {c:Int} {g:Nat} {f:Int} {y:OR} (h:onF preL c (whF preL c g) t f=some y):Stp0 t y:=fun he=>by
 rw [hs] at h;cases h
 exact .inr ⟨rfl,rfl,hv⟩
theorem zy4:Stk cZero:=fun c wh f=>by
 obtain ⟨e1,e2⟩:=z2f (h:=cZero) zk.1 []
 have hs:(findD preL cZero.name).isSome=true:=by kernel_rfl
 have hk:(!decide (((findD preL cZero.name).getD default).kind=2))=true:=by kernel_rfl
 have hr:z1u preL cZero=none:=by kernel_rfl
 simp only [Bool.not_eq_true',decide_eq_false_iff_not] at hk
 show onF preL c wh (appT cZero []) f=some (appT cZero [],false,f,0)
 unfold onF
 rw [e1,e2,if_neg (fun hc=>absurd hc.1 zk.2),if_neg (by decide +kernel),if_pos (by decide +kernel),z5m hs]
 simp only
 rw [if_neg (fun hc=>hk hc.1),hr]
theorem zz3a {m:Trm} (h:Val m):(headT m).kind=2/\(((headT m).name=cZero.name/\argsT m=[])\/∃ a,(headT m).name=cSucc.name/\argsT m=[a]/\GT 0 0 a):=by
 rcases h with rfl | ⟨a,rfl,ha⟩
 ·obtain ⟨e1,e2⟩:=z2f (h:=cZero) zk.1 []
  have e1:headT cZero=cZero:=e1
  have e2:argsT cZero=[]:=e2
  rw [e1]
  exact ⟨by decide +kernel,.inl ⟨rfl,e2⟩⟩
 ·obtain ⟨e1,e2⟩:=z2f (h:=cSucc) (by decide +kernel) [a]
  have e1:headT (mkA cSucc a)=cSucc:=e1
  have e2:argsT (mkA cSucc a)=[a]:=e2
  rw [e1]
  exact ⟨by decide +kernel,.inr ⟨a,rfl,e2,ha⟩⟩
theorem zz3b {z s n:Trm} (hz:GT 0 0 z) (hs:GT 2 0 s) (hn:GT 0 0 n) {c:Int} {g:Nat} (ih:∀ t f u f',GT 0 0 t->whF preL c g t f=some (u,f',0)->Val u) {f:Int} {y:OR} (h:onF preL c (whF preL c g) (appT cRec [cNN,z,s,n]) f=some y):Stp0 (appT cRec [cNN,z,s,n]) y:=fun he=>by
 obtain ⟨e1,e2⟩:=z2f (h:=cRec) (by decide +kernel) [cNN,z,s,n]
 have hk:=zz2q
 simp only [Bool.not_eq_true',decide_eq_false_iff_not] at hk
 unfold onF at h
 rw [e1,e2,if_neg (fun hc=>absurd hc.1 (by decide +kernel)),if_neg (by decide +kernel),if_pos (by decide +kernel),z5m zut] at h
 simp only at h
 rw [if_neg (fun hc=>hk hc.1),zuv] at h
 simp only at h
 rw [if_pos (by rw [zk6];simp),zk6] at h
 simp only [List.getD_cons_succ,List.getD_cons_zero] at h
 cases hw:whF preL c g n f with
 | none=>rw [hw] at h;cases h
 | some q =>
   obtain ⟨m,f1,e⟩:=q
   rw [hw] at h
   simp only at h
   by_cases hne:e≠0
   ·rw [if_pos hne] at h;cases h;exact absurd he hne
   ·have he0:e=0:=Classical.byContradiction fun hn=>hne hn
    subst he0
    rw [if_neg hne] at h
    have key:∀ v,iotR recN cRec [cNN,z,s,n] m=some v->iotaF preL (appT cRec [cNN,z,s,n]) m=some v:=fun v hi=>by
     rw [z7h,e1,e2,zuv]
     simp only [Option.bind_some]
     rw [if_pos (by rw [zk6];simp)]
     exact hi
    obtain ⟨k2,hv⟩:=zz3a (ih n f m f1 hn hw)
    rcases hv with ⟨h1,h2⟩ | ⟨a,h1,h2,ha⟩
    ·rw [key z (zvu k2 h1 h2)] at h
     obtain ⟨p1,p2⟩:=zfv h he
     exact .inl ⟨p1,by rw [p2];exact hz⟩
    ·rw [key _ (zvv k2 h1 h2)] at h
     obtain ⟨p1,p2⟩:=zfv h he
     exact .inl ⟨p1,by rw [p2];exact .app (.app hs ha) (.rc hz hs ha)⟩
theorem gt_on {c:Int} {g:Nat} (ih:∀ t f u f',GT 0 0 t->whF preL c g t f=some (u,f',0)->Val u):∀ (k v:Nat) (t:Trm),GT k v t->v=0->∀ (l:List Trm),l.length=k->(∀ a∈l,GT 0 0 a)->∀ {f:Int} {y:OR},onF preL c (whF preL c g) (appT t l) f=some y->Stp0 (appT t l) y:=by
 intro k v t h
 induction h with
 | zero=>intro _ l hl _ f y h;obtain rfl:=List.eq_nil_of_length_eq_zero hl;exact zvw zy4 (.inl rfl) h
 | two =>
   intro _ l hl _ f y h;obtain rfl:=List.eq_nil_of_length_eq_zero hl
   have hk:=zz38
   simp only [Bool.and_eq_true,decide_eq_true_eq] at hk
   have hd:=zec (h:=cTwo) [] (by decide +kernel) zz1m hk
   rw [zz39] at hd
   exact z5y hd (.lt (.app .suc .zero) (.app .suc (.var 0 (by omega)))) h
 | suc =>
   intro _ l hl ha f y h
   obtain ⟨a,rfl⟩:=ex_one hl
   exact zvw (zxt a) (.inr ⟨a,rfl,ha a (by simp)⟩) h
 | add =>
   intro _ l hl ha f y h
   obtain ⟨a,b,rfl⟩:=z3d hl
   exact z5y (zz13 a b) (.app (.app (.lam (.lam (.rc (z:=mkV 1) (n:=mkV 0) (.var 1 (by omega)) (.lam (.lam (.app .suc (.var 0 (by omega))))) (.var 0 (by omega))))) (ha a (by simp))) (ha b (by simp))) h
 | var i hi=>intro hv;omega
 | @lam kk vv bb hb _ =>
   intro hv l hl ha f y h;subst hv
   match l,hl with
   | a::r,hl =>
     have hr:r.length=kk:=by simpa using hl
     refine z5y (zbp cNat _ a r) (GT.apps (by rw [hr];exact (ha a (by simp)).opn hb (d:=0) rfl) fun b hb=>ha b (by simp [hb])) h
 | app hf ha' i1 _ =>
   intro hv l hl ha f y h;subst hv
   exact i1 rfl (_::l) (by simp [hl]) (fun b hb=>by rcases List.mem_cons.1 hb with rfl | hb;exact ha';exact ha b hb) h
 | lt ha hb _ _ =>
   intro hv l hl _ f y h;subst hv
   obtain rfl:=List.eq_nil_of_length_eq_zero hl
   exact z5y (zz1l _ _ []) (ha.opn hb (d:=0) rfl) h
 | rc hz hs hn _ _ _ =>
   intro hv l hl _ f y h;subst hv
   obtain rfl:=List.eq_nil_of_length_eq_zero hl
   exact zz3b hz hs hn ih h
 | idn =>
   intro _ l hl ha f y h
   obtain ⟨a,rfl⟩:=ex_one hl
   have hk:=idD_k
   simp only [Bool.and_eq_true,decide_eq_true_eq] at hk
   have hd:=zec (h:=cId) [cNat,a] (by decide +kernel) zyx hk
   rw [idD_v] at hd
   exact z5y hd (.app .idm (ha a (by simp))) h
 | idm =>
   intro _ l hl ha f y h
   obtain ⟨a,rfl⟩:=ex_one hl
   have hd:=zbp idS (mkB 4 (mkV 0) (mkV 0)) cNat [a]
   have e:opnT [cNat] (mkB 4 (mkV 0) (mkV 0)) 0=mkB 4 cNat (mkV 0):=by kernel_rfl
   rw [e] at hd
   exact z5y hd (.app (.lam (.var 0 (by omega))) (ha a (by simp))) h
 | @idf vv F hF _ =>
   intro hv l hl ha f y h;subst hv
   obtain ⟨a,rfl⟩:=ex_one hl
   have hk:=idD_k
   simp only [Bool.and_eq_true,decide_eq_true_eq] at hk
   have hd:=zec (h:=cId) [cPi,F,a] (by decide +kernel) zyx hk
   rw [idD_v] at hd
   exact z5y hd (.app (.idg hF) (ha a (by simp))) h
 | @idg vv F hF _ =>
   intro hv l hl ha f y h;subst hv
   obtain ⟨a,rfl⟩:=ex_one hl
   have hd:=zbp idS (mkB 4 (mkV 0) (mkV 0)) cPi [F,a]
   have e:opnT [cPi] (mkB 4 (mkV 0) (mkV 0)) 0=mkB 4 cPi (mkV 0):=by kernel_rfl
   rw [e] at hd
   exact z5y hd (.app (.idh hF) (ha a (by simp))) h
 | @idh vv F hF _ =>
   intro hv l hl ha f y h;subst hv
   obtain ⟨a,rfl⟩:=ex_one hl
   have hd:=zbp cPi (mkV 0) F [a]
   have e:opnT [F] (mkV 0) 0=lftT 0 F 0:=by
    unfold opnT mkV
    simp only [trvT,if_true,opnV]
    rfl
   rw [e,z5h] at hd
   exact z5y hd (.app hF (ha a (by simp))) h
where
 ex_one {l:List Trm} (h:l.length=1):∃ a,l=[a]:=by
  match l,h with
  | [a],_=>exact ⟨a,rfl⟩
theorem gt_ev:∀ (g:Nat) (c:Int) (t:Trm) (f:Int) (u:Trm) (f':Int),GT 0 0 t->whF preL c g t f=some (u,f',0)->Val u:=by
 intro g
 induction g with
 | zero=>intro c t f u f' _ h;cases h
 | succ g ih =>
   intro c t f u f' ht h
   simp only [whF] at h
   split at h
   ·cases h
   ·rename_i u1 did f1 e ho
    have hs:=gt_on (fun t f u f'=>ih c t f u f') 0 0 t ht rfl [] rfl (fun a ha=>by cases ha) ho
    split at h
    ·rename_i he;cases h;exact absurd rfl he
    ·rename_i he
     have he0:e=0:=Classical.byContradiction fun hn=>he hn
     subst he0
     rcases hs rfl with ⟨h1,h2⟩ | ⟨h1,h2,h3⟩
     ·simp only at h1 h2
      rw [if_pos h1] at h
      exact ih c u1 f1 u f' h2 h
     ·simp only at h1 h2
      rw [if_neg (by rw [h1];decide)] at h
      cases h
      rw [h2];exact h3
theorem zvx (l:List Int):∀ g:Nat,(∀ (v:Nat) (a:Int),v+2 * g<=100000->0<=a->a<=l.length->2 * (l.length-a)+1<=g->GT 0 v (natF l g v a).1)/\(∀ (v:Nat) (a:Int),v+2 * g<=100000->0<=a->a<=l.length->2 * (l.length-a)+2<=g->GT 1 v (funF l g v a).1)
 | 0=>⟨fun v a _ h0 h1 h2=>by omega,fun v a _ h0 h1 h2=>by omega⟩
 | g + 1 => by
   obtain ⟨iN,iF⟩:=zvx l g
   have mk:=zhl l g
   have n1:∀ (v:Nat) (a:Int),v+1+2 * g<=100000->0<=a->a<=l.length->2 * (l.length-a)+1<=g->GT 0 (v+1) (natF l g ((v:Int)+1) a).1:=fun v a h h0 h1 h2=>iN (v+1) a (by omega) h0 h1 h2
   have n2:∀ (v:Nat) (a:Int),v+2+2 * g<=100000->0<=a->a<=l.length->2 * (l.length-a)+1<=g->GT 0 (v+2) (natF l g ((v:Int)+2) a).1:=fun v a h h0 h1 h2=>iN (v+2) a (by omega) h0 h1 h2
   refine ⟨fun v a hv h0 h1 h2=>?_,fun v a hv h0 h1 h2=>?_⟩
   ·have hx:=nx_le (l:=l) (n:=9) h0 h1
    have hlt:nxt l a 9≠0->a<l.length:=fun h=>by
     unfold nxt at h
     split at h
     ·exact absurd rfl h
     ·omega
    simp only [natF]
    generalize nxA l a 9=b at *
    split
    ·have hb:=hx.2.2.1 (by omega);have:=hlt (by omega)
     exact .app .suc (iN v b (by omega) (by omega) hx.2.1 (by omega))
    split
    ·have hb:=hx.2.2.1 (by omega);have:=hlt (by omega)
     have m:=mk.1 v b (by omega) (by omega) (by omega) hx.2.1
     have m0:=m.a0
     exact .app (.app .add (iN v b (by omega) (by omega) hx.2.1 (by omega))) (iN v _ (by omega) (by omega) m.a1 (by omega))
    split
    ·have hb:=hx.2.2.1 (by omega);have:=hlt (by omega)
     split
     ·have hn:=nx_lt (l:=l) (a:=b) (n:=v) (by omega)
      have e:mkV (nxt l b v)=mkV ((nxt l b v).toNat:Nat):=by rw [Int.toNat_of_nonneg hn.1]
      simp only
      rw [e]
      exact .var _ (by omega)
     ·exact .two
    split
    ·have hb:=hx.2.2.1 (by omega);have:=hlt (by omega)
     exact .app .idn (iN v b (by omega) (by omega) hx.2.1 (by omega))
    split
    ·have hb:=hx.2.2.1 (by omega);have:=hlt (by omega)
     have m:=mk.2 v b (by omega) (by omega) (by omega) hx.2.1
     have m0:=m.a0
     exact .app (iF v b (by omega) (by omega) hx.2.1 (by omega)) (iN v _ (by omega) (by omega) m.a1 (by omega))
    split
    ·have hb:=hx.2.2.1 (by omega);have:=hlt (by omega)
     have m:=mk.1 v b (by omega) (by omega) (by omega) hx.2.1
     have m0:=m.a0
     exact .lt (iN v b (by omega) (by omega) hx.2.1 (by omega)) (n1 v _ (by omega) (by omega) m.a1 (by omega))
    split
    ·have hb:=hx.2.2.1 (by omega);have:=hlt (by omega)
     have m:=mk.1 v b (by omega) (by omega) (by omega) hx.2.1
     have m0:=m.a0
     have m2:=mk.1 (v+2) _ (by omega) (by omega) (by omega) m.a1
     have m20:=m2.a0
     exact .rc (iN v b (by omega) (by omega) hx.2.1 (by omega)) (.lam (.lam (n2 v _ (by omega) (by omega) m.a1 (by omega)))) (iN v _ (by omega) (by omega) m2.a1 (by omega))
    ·exact .zero
   ·have hx:=nx_le (l:=l) (n:=4) h0 h1
    have hlt:nxt l a 4≠0->a<l.length:=fun h=>by
     unfold nxt at h
     split at h
     ·exact absurd rfl h
     ·omega
    simp only [funF]
    generalize nxA l a 4=b at *
    split
    ·exact .lam (n1 v b (by omega) (by omega) hx.2.1 (by omega))
    split
    ·exact .suc
    split
    ·have hb:=hx.2.2.1 (by omega);have:=hlt (by omega)
     exact .app .add (iN v b (by omega) (by omega) hx.2.1 (by omega))
    ·have hb:=hx.2.2.1 (by omega);have:=hlt (by omega)
     exact .idf (.lam (n1 v b (by omega) (by omega) hx.2.1 (by omega)))
theorem zz1n (l:List Int) (hl:l.length<=1000):GT 0 0 (natP l 0):=(zvx l (2 * l.length+1)).1 0 0 (by omega) (by omega) (by omega) (by omega)
theorem Ev.val {t u:Trm} (ht:GT 0 0 t) (h:Ev t u):Val u:=by
 obtain ⟨c,g,f,f',h⟩:=h
 exact gt_ev g c t f u f' ht h
def RelV (w v:Trm):Prop:=(w=cZero/\v=cZero)\/∃ a b,w=mkA cSucc a/\v=mkA cSucc b/\GT 0 0 a/\GT 0 0 b/\allN pC a=true/\allN pC b=true/\CvE a b true
theorem zvy {w:Trm} (h:Val w) (hc:allN pC w=true):RelV w w:=by
 rcases h with rfl | ⟨a,rfl,ha⟩
 ·exact .inl ⟨rfl,rfl⟩
 ·have:=z1q hc (a:=a) (by simp [mkA])
  exact .inr ⟨a,a,rfl,rfl,ha,ha,this,this,CvE.alk (z1v a)⟩
theorem zz3c {w v:Trm} (hw:Val w) (hv:Val v) (cw:allN pC w=true) (cv:allN pC v=true) {c:Int} {g:Nat} {f f':Int} (h:hdF (cvF preL c g) w v f=some (true,f',0)):RelV w v:=by
 rcases hw with rfl | ⟨a,rfl,ha⟩
 ·rcases hv with rfl | ⟨b,rfl,hb⟩
  ·exact .inl ⟨rfl,rfl⟩
  ·rw [hd_zs.1] at h;cases h
 ·rcases hv with rfl | ⟨b,rfl,hb⟩
  ·rw [hd_zs.2] at h;cases h
  ·by_cases hk:alkT (mkA cSucc a) (mkA cSucc b)=true
   ·have e:=zeb _ _ cw cv hk
    rw [<- e]
    exact zvy (.inr ⟨a,rfl,ha⟩) cw
   ·obtain ⟨f0,f1,h4⟩:=zkl (by decide +kernel) (by decide +kernel) (by simpa using hk) h
    exact .inr ⟨a,b,rfl,rfl,ha,hb,z1q cw (by simp [mkA]),z1q cv (by simp [mkA]),c,g,f0,f1,h4⟩
theorem zyy {x y w:Trm} (gx:GT 0 0 x) (gy:GT 0 0 y) (cx:allN pC x=true) (cy:allN pC y=true) (h:CvE x y true) (hw:Ev x w):∃ v,Ev y v/\RelV w v:=by
 obtain ⟨c,g,f,f',hx⟩:=h
 rcases zp6 cx cy hx with ⟨rfl,_⟩ | ⟨w',v,g',f2,h1,h2,h3⟩
 ·exact ⟨w,hw,zvy (hw.val gx) (Ev.all pC_np zea cx hw)⟩
 ·have e:=hw.one h1
  subst e
  exact ⟨v,h2,zz3c (h1.val gx) (h2.val gy) (Ev.all pC_np zea cx h1) (Ev.all pC_np zea cy h2) h3⟩
theorem zy5 {a b:Trm} (ca:allN pC a=true) (cb:allN pC b=true) (h:alkT a b=true):alkT b a=true:=by rw [zeb a b ca cb h];exact z1v b
theorem zvz {x y:Trm} (cx:allN pC x=true) (cy:allN pC y=true) {c:Int} {g:Nat} {f:Int} {i:Bool} {f':Int} (hx:cvF preL c (g+1) x y f=some (i,f',0)):(x=y/\i=true)\/∃ w v f2,Ev x w/\Ev y v/\hdF (cvF preL c g) w v f2=some (i,f',0):=by
 simp only [cvF] at hx
 split at hx
 ·simp at hx
 split at hx
 ·rename_i hk;cases hx;exact .inl ⟨zeb x y cx cy hk,rfl⟩
 cases hw:whF preL c g x (f-1) with
 | none=>rw [hw] at hx;cases hx
 | some q =>
   obtain ⟨w,f1,e⟩:=q
   rw [hw] at hx
   simp only at hx
   split at hx
   ·rename_i he;simp only [Option.some.injEq,Prod.mk.injEq] at hx;exact absurd hx.2.2 he
   rename_i he
   have he0:e=0:=Classical.byContradiction fun h=>he h
   subst he0
   cases hv:whF preL c g y f1 with
   | none=>rw [hv] at hx;cases hx
   | some z =>
     obtain ⟨v,f2,e2⟩:=z
     rw [hv] at hx
     simp only at hx
     split at hx
     ·rename_i he2;simp only [Option.some.injEq,Prod.mk.injEq] at hx;exact absurd hx.2.2 he2
     rename_i he2
     have he20:e2=0:=Classical.byContradiction fun h=>he2 h
     subst he20
     exact .inr ⟨w,v,f2,⟨c,g,f-1,f1,hw⟩,⟨c,g,f1,f2,hv⟩,hx⟩
theorem zw0 {a b:Trm} (h:mkA cSucc a=mkA cSucc b):a=b:=by simpa [mkA] using h
theorem zs_mk {a:Trm}:¬ cZero=mkA cSucc a:=fun h=>zk.1 (by rw [h];rfl)
theorem zy6 : ∀ (g:Nat) (x y z:Trm),GT 0 0 x->GT 0 0 y->GT 0 0 z->allN pC x=true->allN pC y=true->allN pC z=true->CvE x y true->CvE y z true->∀ (c:Int) (f:Int) (i:Bool) (f':Int),cvF preL c g x z f=some (i,f',0)->i=true:=by
 intro g
 induction g with
 | zero=>intro x y z _ _ _ _ _ _ _ _ c f i f' h;cases h
 | succ g ih =>
   intro x y z gx gy gz cx cy cz h1 h2 c f i f' h
   rcases zvz cx cz h with ⟨_,hi⟩ | ⟨w,u,f2,hw,hu,h3⟩
   ·exact hi
   ·obtain ⟨v,hv,r1⟩:=zyy gx gy cx cy h1 hw
    obtain ⟨u',hu',r2⟩:=zyy gy gz cy cz h2 hv
    have e:=hu.one hu'
    subst e
    rcases r1 with ⟨rfl,rfl⟩ | ⟨a,b,rfl,rfl,ga,gb,ca,cb,k1⟩
    ·rcases r2 with ⟨_,rfl⟩ | ⟨a,b,h5,_⟩
     ·unfold hdF at h3;rw [if_pos (z1v _)] at h3;cases h3;rfl
     ·exact absurd h5 zs_mk
    ·rcases r2 with ⟨h5,_⟩ | ⟨b',d,h5,rfl,gb',gd,cb',cd,k2⟩
     ·exact absurd h5.symm zs_mk
     ·have e:=zw0 h5
      subst e
      by_cases hk:alkT (mkA cSucc a) (mkA cSucc d)=true
      ·unfold hdF at h3;rw [if_pos hk] at h3;cases h3;rfl
      ·obtain ⟨f0,f1,h4⟩:=zkl (by decide +kernel) (by decide +kernel) (by simpa using hk) h3
       exact ih a b d ga gb gd ca cb cd k1 k2 c f0 i f1 h4
theorem zz3d:∀ (g:Nat) (x y:Trm),GT 0 0 x->GT 0 0 y->allN pC x=true->allN pC y=true->∀ (c:Int) (f:Int) (i:Bool) (f':Int),cvF preL c g x y f=some (i,f',0)->∀ j,CvE y x j->i=j:=by
 intro g
 induction g with
 | zero=>intro x y _ _ _ _ c f i f' h;cases h
 | succ g ih =>
   intro x y gx gy cx cy c f i f' h j hj
   rcases zvz cx cy h with ⟨rfl,rfl⟩ | ⟨w,v,f2,hw,hv,h3⟩
   ·exact (CvE.alk (z1v x)).one hj
   ·obtain ⟨c',g',e,e',hy⟩:=hj
    rcases zp6 cy cx hy with ⟨rfl,rfl⟩ | ⟨v',w',g2,f3,h4,h5,h6⟩
    ·have:=hw.one hv
     subst this
     unfold hdF at h3;rw [if_pos (z1v _)] at h3;cases h3;rfl
    ·have e1 := hv.one h4
     have e2:=hw.one h5
     subst e1 e2
     have cw:=Ev.all pC_np zea cx hw
     have cv:=Ev.all pC_np zea cy hv
     rcases hw.val gx with rfl | ⟨a,rfl,ga⟩
     ·rcases hv.val gy with rfl | ⟨b,rfl,gb⟩
      ·unfold hdF at h3 h6
       rw [if_pos (z1v _)] at h3 h6
       cases h3;cases h6;rfl
      ·rw [hd_zs.1] at h3;rw [hd_zs.2] at h6
       cases h3;cases h6;rfl
     ·rcases hv.val gy with rfl | ⟨b,rfl,gb⟩
      ·rw [hd_zs.2] at h3;rw [hd_zs.1] at h6
       cases h3;cases h6;rfl
      ·by_cases hk:alkT (mkA cSucc a) (mkA cSucc b)=true
       ·have e:=zw0 (zeb _ _ cw cv hk)
        subst e
        unfold hdF at h3 h6
        rw [if_pos (z1v _)] at h3 h6
        cases h3;cases h6;rfl
       ·have hk2:alkT (mkA cSucc b) (mkA cSucc a)=false:=by
         cases hq:alkT (mkA cSucc b) (mkA cSucc a) with
         | false=>rfl
         | true=>exact absurd (zy5 cv cw hq) hk
        obtain ⟨f0,f1,k1⟩:=zkl (by decide +kernel) (by decide +kernel) (by simpa using hk) h3
        obtain ⟨f4,f5,k2⟩:=zkl (by decide +kernel) (by decide +kernel) hk2 h6
        exact ih a b ga gb (z1q cw (by simp [mkA])) (z1q cv (by simp [mkA])) c f0 i f1 k1 j ⟨_,_,_,_,k2⟩
theorem zw1 (l:List Int):Con Tryz.prog 21 [.p (.sl 1 (byts l))] [] (fun r o=>r=.ptr 909 0/\o=[(909,.ce 96 [.p (.sl 1 (byts l)),.p (I 0)])]) :=
 (zhj l).at1 5 909 rfl rfl rfl rfl
structure NatQ (l:List Int) (t:Trm):Prop where
 an:AnT t
 lk:LOK t
 gt:GT 0 0 t
 pc:allN pC t=true
theorem natQ (l:List Int) (hl:l.length<=100):NatQ l (natP l 0):=by
 have p:=zme l (by omega) 0 (by omega) (by omega)
 have:=p.d;have:=p.s
 exact ⟨⟨z1b (by omega) _ p.w,by omega,by omega⟩,zvf l (2 * l.length+1) 0 0,zz1n l (by omega),(z5a pC_nc l (2 * l.length+1) 0 0).1⟩
set_option maxHeartbeats 16000000 in
theorem zer (la lb lc:List Int) (ha:okB la) (hb:okB lb) (hc:okB lc) (hla:(la.length:Int)<=9223372036854775807) (hlb:(lb.length:Int)<=9223372036854775807) (hlc:(lc.length:Int)<=9223372036854775807):PCon Tryz.prog 13 [.p (.sl 1 (byts la)),.p (.sl 1 (byts lb)),.p (.sl 1 (byts lc))] (.p (B true)):=by
 have hba:=z7k la
 have hbb:=z7k lb
 have hbc:=z7k lc
 refine cv [] [] [] Tryz.func13 118 Tryz.ntmps13 rfl rfl fun cx hE=>call0 zfz (brB (fun h=>by cases h) (fun _=>fun _=>brS (fun h40=>⟨rfl,rfl⟩) (fun h40=>fun _=>brS (fun h41=>⟨rfl,rfl⟩) (fun h41=>fun _=>brS (fun h42=>⟨rfl,rfl⟩) (fun h42=>?_)))))
 refine callX [] zhc rfl rfl .nil fun r o ⟨e1,pv,pl,ov,hE1,e2⟩=>?_
 subst e1 e2
 have hG:=preG hE1
 have qx:=natQ la (by omega)
 have qy:=natQ lb (by omega)
 have qz:=natQ lc (by omega)
 have cA:=(z9v la ha (by omega) 0 (by omega) (by omega)).at1 1000 905 rfl rfl rfl rfl
 have cB:=(z9v lb hb (by omega) 0 (by omega) (by omega)).at1 1000 907 rfl rfl rfl rfl
 have cC:=(z9v lc hc (by omega) 0 (by omega) (by omega)).at1 1000 909 rfl rfl rfl rfl
 generalize (natF la (2 * la.length+1) 0 0).2=a2 at cA
 generalize (natF lb (2 * lb.length+1) 0 0).2=b2 at cB
 generalize (natF lc (2 * lc.length+1) 0 0).2=c2 at cC
 generalize natP la 0=x at *
 generalize natP lb 0=y at *
 generalize natP lc 0=z at *
 have cv:∀ {l m:List Int} {t u:Trm},NatQ l t->NatQ m u->∃ g w,cvF preL 40000 g t u 20000=some w/\Con Tryz.prog 39 [.ptr 1004 0,tv t,tv u,mv 20000 40000] (envQ 1004 [] preL pv pl ov (odO preL)) (fun r o=>r=xcV 40000 w/\o=envQ 1004 [] preL pv pl ov (odO preL)):=fun {l m t u} h k=>by
  obtain ⟨g,w,hw⟩:=h.an.cv k.an (f:=20000) (c:=40000) (by omega) (by omega)
  exact ⟨g,w,hw,za1 preL pv ov pl hG zhw t u h.an.ok k.an.ok h.an.gd k.an.gd h.lk k.lk 20000 40000 ⟨by omega,by omega,by omega,by omega⟩ g w hw⟩
 obtain ⟨g1,⟨p,f1,e1⟩,w1,k1⟩:=cv qx qy
 obtain ⟨g2,⟨q,f2,e2⟩,w2,k2⟩:=cv qy qx
 obtain ⟨g3,⟨r,f3,e3⟩,w3,k3⟩:=cv qy qz
 obtain ⟨g4,⟨s,f4,e4⟩,w4,k4⟩:=cv qx qz
 refine call1 [] (zk7 la) rfl rfl (za _) (call1 [905] cA rfl rfl (za _) (call1 [] (zki lb) rfl rfl (za _) (call1 [907] cB rfl rfl (za _) (call1 [] (zw1 lc) rfl rfl (za _) (call1 [909] cC rfl rfl (za _) ?_)))))
 refine callX [1004,1005,1006,1007] k1 rfl rfl (za _) fun _ _ ⟨q1,q2⟩=>?_
 subst q1 q2
 refine callX [1004,1005,1006,1007] k2 rfl rfl (za _) fun _ _ ⟨q1,q2⟩=>?_
 subst q1 q2
 refine callX [1004,1005,1006,1007] k3 rfl rfl (za _) fun _ _ ⟨q1,q2⟩=>?_
 subst q1 q2
 refine callX [1004,1005,1006,1007] k4 rfl rfl (za _) fun _ _ ⟨q1,q2⟩=>?_
 subst q1 q2
 refine brS (fun _=>⟨rfl,rfl⟩) (fun z1=>brS (fun _=>⟨rfl,rfl⟩) (fun z2=>brS (fun _=>⟨rfl,rfl⟩) (fun z3=>brS (fun _=>⟨rfl,rfl⟩) (fun z4=>?_))))
 have z1:e1=0:=Classical.byContradiction fun h=>z1 h
 have z2:e2=0:=Classical.byContradiction fun h=>z2 h
 have z3:e3=0:=Classical.byContradiction fun h=>z3 h
 have z4:e4=0:=Classical.byContradiction fun h=>z4 h
 subst z1 z2 z3 z4
 have hpq:p=q:=zz3d g1 x y qx.gt qy.gt qx.pc qy.pc _ _ _ _ w1 q ⟨_,_,_,_,w2⟩
 subst hpq
 refine brt (by simp) ?_
 cases hp:p with
 | false=>exact brt rfl ⟨rfl,rfl⟩
 | true =>
   subst hp
   refine brf rfl ?_
   cases hr:r with
   | false=>exact brt rfl ⟨rfl,rfl⟩
   | true =>
     subst hr
     have hs:=zy6 g4 x y z qx.gt qy.gt qz.gt qx.pc qy.pc qz.pc ⟨_,_,_,_,w1⟩ ⟨_,_,_,_,w3⟩ _ _ _ _ w4
     subst hs
     exact brf rfl ⟨rfl,rfl⟩
end Go.Ab.YtpneaijfkefeaaaGreat
