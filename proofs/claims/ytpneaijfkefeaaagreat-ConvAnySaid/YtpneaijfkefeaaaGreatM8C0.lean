/- Texts of our own, laid together. -/
import Derived.WalkKit
import Derived.ProofKit
import Derived.OpenShut
import Derived.ShutString
import Derived.ChangeOld
import Derived.Below
import Derived.SizedLaws
import Derived.Test.YtpneaijfkefeaaaGreatM7C0
set_option maxRecDepth 20000
set_option linter.unusedVariables false
set_option linter.unusedSimpArgs false
namespace Go.Ab.YtpneaijfkefeaaaGreat
open Go Go.RowKit Go.Ab Go.Proofs
def SpoC (l:List Int) (t:Trm) (a:Int) (x:Trm×Int):Prop:=Con Tryz.prog 65 [.ptr 1000 0,tv t] (pkO l a) (fun r o=>r=tv x.1/\o=pkO l x.2)
set_option maxHeartbeats 8000000 in
theorem zxa (l:List Int) (hl:okB l) (hlen:l.length<=10000):∀ (g:Nat) (t:Trm) (a:Int),wfT 1000001 t=true->dpT t<=100000->0<=a->a<=l.length->l.length-a+1<=g->SpoC l t a (spoF l g t a)
 | 0,t,a,w,d,h2,h3,h4=>by omega
 | g + 1,t,a,w,d,h2,h3,h4=>by
   have hel:=zc t.args
   unfold SpoC
   generalize hX:spoF l (g+1) t a=X
   simp only [spoF] at hX
   have hx:=nx_le (l:=l) (n:=4) h2 h3
   have hlen4:t.args.length<=3:=by
    have:=(zg w).args
    unfold argF at this
    split at this
    ·omega
    ·split at this
     ·omega
     ·split at this<;>omega
   have ih:=zxa l hl hlen g
   refine cv [] [1000001,1000004] [1000] Tryz.func65 67 Tryz.ntmps65 rfl rfl fun cx hE=>?_
   refine join1 (A:=Int) (fun b=>[]) (fun b=>[(1000,pkB l b)]) (fun b=>spo0 l t b=X/\0<=b/\b<=l.length) [] [1000] [1000004] hE rfl rfl rfl ?_ (fun b hb=>?_)
   ·refine fun _=>brS (fun hl0=>?_) (fun hl0=>?_)
    ·refine call1 [1000] (z2a l hl (by omega) a 4 h2 (by omega) (by omega)) rfl rfl (za _) (brS (fun hk=>?_) (fun hk=>?_))
     ·rw [if_pos (by omega),if_pos hk] at hX
      have hb:=hx.2.2.1 (by omega)
      generalize nxA l a 4=b at *
      have hy:=nx_le (l:=l) (a:=b) (n:=t.args.length) (by omega) hx.2.1
      have hv:=nx_lt (l:=l) (a:=b) (n:=t.args.length) (by omega)
      have hnb:=z2a l hl (by omega) b t.args.length (by omega) (by omega) (by omega)
      rw [<- hel] at hnb hX hv hy
      refine fun _=>call1 [1000] hnb rfl rfl (za _) ?_
      generalize nxA l b (encTs t.args).length=d at *
      generalize nxt l b (encTs t.args).length=k at *
      refine callX [] (zbb 1000001 (by omega) t (by omega) w) rfl rfl (za _) fun r o ⟨e1,e2⟩=>?_
      subst e1 e2
      have hkl:k.toNat<t.args.length:=by omega
      have hg:t.args[k.toNat]?=some (t.args.getD k.toNat zT):=by rw [List.getD_eq_getElem?_getD,List.getElem?_eq_getElem hkl];rfl
      have hm:=List.mem_of_getElem? hg
      have hrow:(encTs t.args)[k.toNat]?=some (rowT (t.args.getD k.toNat zT)):=by rw [zb,List.getElem?_map,hg];rfl
      have hkk:k=(k.toNat:Int):=by omega
      have hda:=z1c hm
      have hc:=ih (t.args.getD k.toNat zT) d ((zg w).sub _ hm) (by omega) (by omega) hy.2.1 (by omega)
      rw [hkk] at hX ⊢
      rw [show ((k.toNat:Int)).toNat=k.toNat by omega] at hX
      generalize spoF l g (t.args.getD k.toNat zT) d=R at *
      have hst:(encTs t.args).set k.toNat (rowT R.1)=encTs (t.args.set k.toNat R.1):=by simp [zb,List.map_set]
      refine join1 (A:=Unit) (fun _=>[]) (fun _=>[(6,ceT ⟨t.kind,t.n,t.name,t.levels,t.args.set k.toNat R.1⟩),(1000,pkB l R.2)]) (fun _=>True) [] [6,500,1000] [] hE rfl rfl rfl ?_ (fun _ _=>?_)
      ·refine idxN hrow (callW [1000] 1000 (pkB l _) hc rfl rfl (za _) rfl rfl ?_)
       refine And.intro (by omega) (And.intro (by rw [hel];omega) (pst1 (i:=k.toNat) (by rw [hel];exact hkl) ?_))
       exact ⟨(),trivial,leX.by (Le.muPC 6 4 500 rfl rfl rfl rfl rfl) (leX.same ⟨by show Ob.ce 35 [.p (I t.kind),.p (I t.n),.p (St t.name),.p (.sl 3 (encLs t.levels)),.p (.sl 5 ((encTs t.args).set k.toNat (rowT R.1)))]=_;rw [hst];rfl,rfl,rfl,rfl,trivial⟩)⟩
      ·subst hX;exact ⟨rfl,rfl⟩
     ·rw [if_pos (by omega),if_neg hk] at hX
      exact ⟨nxA l a 4,⟨hX,by omega,hx.2.1⟩,leX.same ⟨rfl,rfl,rfl,trivial⟩⟩
    ·rw [if_neg (by omega)] at hX
     exact ⟨a,⟨hX,h2,h3⟩,leX.same ⟨rfl,rfl,rfl,trivial⟩⟩
   ·obtain ⟨hX2,b0,b1⟩:=hb
    have hz:=nx_le (l:=l) (a:=b) (n:=6) b0 b1
    subst hX2
    refine call1 [1000] (z2a l hl (by omega) b 6 b0 (by omega) (by omega)) rfl rfl (za _) ?_
    unfold spo0
    generalize nxA l b 6=d at *
    generalize nxt l b 6=k at *
    have d0:0<=d:=by omega
    have hct:Cp t:=Cp.of w (by omega) (by omega)
    refine brS (fun hk=>?_) (fun hk=>brS (fun hk2=>?_) (fun hk2=>brS (fun hk3=>?_) (fun hk3=>brS (fun hk4=>?_) (fun hk4=>brS (fun hk5=>?_) (fun hk5=>?_)))))
    ·rw [if_pos hk]
     exact call0 (z3n _ tZero) ⟨rfl,rfl⟩
    ·rw [if_neg hk,if_pos hk2]
     exact call1 [1000] (z2a l hl (by omega) d 3 d0 (by omega) (by omega)) rfl rfl (za _) (call0 (z4a _) ⟨rfl,rfl⟩)
    ·rw [if_neg hk,if_neg hk2,if_pos hk3]
     exact call1 [1000] (zfj l hl hlen (by omega) (l.length+1) d d0 hz.2.1 (by omega)) rfl rfl (za _) (call0 (z5k _ (lv_ok l _ _ d d0 hz.2.1).2.2) ⟨rfl,rfl⟩)
    ·rw [if_neg hk,if_neg hk2,if_neg hk3,if_pos hk4]
     have hv:=nx_lt (l:=l) (a:=d) (n:=6) (by omega)
     refine call1 [1000] (z2a l hl (by omega) d 6 d0 (by omega) (by omega)) rfl rfl (za _) ?_
     have hi:(nxt l d 6).toNat<(spoN l).length:=by show _<6;omega
     have hg:(spoN l)[(nxt l d 6).toNat]?=some (spoN l)[(nxt l d 6).toNat]:=List.getElem?_eq_getElem hi
     have hr:(rwS (spoN l))[(nxt l d 6).toNat]?=some [St (spoN l)[(nxt l d 6).toNat]]:=by simp only [rwS,List.getElem?_map,hg];rfl
     have hii:nxt l d 6=((nxt l d 6).toNat:Int):=by omega
     rw [List.getD_eq_getElem?_getD,hg]
     generalize (spoN l)[(nxt l d 6).toNat]=s at *
     exact idx1 (row:=[St s]) hv.1 hv.2 (by show rowAt (rwS (spoN l)) (nxt l d 6)=[St s];rw [hii];exact z5j hr) (callR [] (z3s s [] (by simp) (by simp)) rfl rfl (.cons (Sub.refl _) (.cons (Sub.nil (sz:=3)) .nil)) ⟨rfl,rfl⟩)
    ·rw [if_neg hk,if_neg hk2,if_neg hk3,if_neg hk4,if_pos hk5]
     exact call0 (z1o t t hct) ⟨rfl,rfl⟩
    ·rw [if_neg hk,if_neg hk2,if_neg hk3,if_neg hk4,if_neg hk5]
     exact call0 (z3n _ tNat) (call0 (z3l t hct 1 (by omega) (by omega) 0 (by omega) (by omega) (by omega)) (call0 (z4b cNat _ (cp_c kNat (by omega))) ⟨rfl,rfl⟩))
theorem zfk (l:List Int) (hl:okB l) (hlen:l.length<=150):Con Tryz.prog 22 [.ptr 1000 0] (pkO l 0) (fun r o=>r=tv (anyF l 0).1/\o=pkO l (anyF l 0).2):=by
 have hx:=nx_le (l:=l) (a:=0) (n:=6) (by omega) (by omega)
 have h0:=zje l hlen (a:=0) (Int.le_refl _) (by omega)
 refine cv [] [1000002] [1000] Tryz.func22 45 Tryz.ntmps22 rfl rfl fun cx hE=>?_
 refine join1 (A:=Trm×Int) (fun x=>[]) (fun x=>[(3,ceT x.1),(1000,pkB l x.2)]) (fun x=>x=any0 l 0) [] [3,1000] [] hE rfl rfl rfl ?_ (fun x hx=>?_)
 ·refine call1 [1000] (z2a l hl (by omega) 0 6 (by omega) (by omega) (by omega)) rfl rfl (za _) ?_
  unfold any0
  generalize nxA l 0 6=b at *
  generalize nxt l 0 6=k at *
  have hb0:0<=b:=hx.1
  refine brS (fun hk=>?_) (fun hk=>brS (fun hk2=>?_) (fun hk2=>brS (fun hk3=>?_) (fun hk3=>brS (fun hk4=>?_) (fun hk4=>brS (fun hk5=>?_) (fun hk5=>?_)))))
  ·rw [if_pos hk]
   exact call1 [1000] (zr1 l hl (by omega) (by omega) (by omega) hb0 hx.2.1) rfl rfl (za _) ⟨_,rfl,leX.same ⟨rfl,rfl,rfl,trivial⟩⟩
  ·rw [if_neg hk,if_pos hk2]
   exact call1 [1000] ((zbu l hl (by omega) (2 * l.length+1)).2 0 b (by omega) (by omega) hb0 hx.2.1 (by have:=hx.2.2.1 (by omega);omega)) rfl rfl (za _) ⟨_,rfl,leX.same ⟨rfl,rfl,rfl,trivial⟩⟩
  ·rw [if_neg hk,if_neg hk2,if_pos hk3]
   exact call1 [1000] (zz0i l hl (by omega) (by omega) (by omega) hb0 hx.2.1) rfl rfl (za _) ⟨_,rfl,leX.same ⟨rfl,rfl,rfl,trivial⟩⟩
  ·rw [if_neg hk,if_neg hk2,if_neg hk3,if_pos hk4]
   exact call1 [1000] (zfi l hl (by omega) (l.length+1) 0 b (by omega) (by omega) hb0 hx.2.1 (by omega)) rfl rfl (za _) ⟨_,rfl,leX.same ⟨rfl,rfl,rfl,trivial⟩⟩
  ·rw [if_neg hk,if_neg hk2,if_neg hk3,if_neg hk4,if_pos hk5]
   exact call1 [1000] (zfi l hl (by omega) (l.length+1) 0 b (by omega) (by omega) hb0 hx.2.1 (by omega)) rfl rfl (za _) ⟨_,rfl,leX.same ⟨rfl,rfl,rfl,trivial⟩⟩
  ·rw [if_neg hk,if_neg hk2,if_neg hk3,if_neg hk4,if_neg hk5]
   have hv:=nx_lt (l:=l) (a:=b) (n:=10) (by omega)
   refine call1 [1000] (z2a l hl (by omega) b 10 hb0 (by omega) (by omega)) rfl rfl (za _) ?_
   have hi:(nxt l b 10).toNat<anyS.length:=by show _<10;omega
   have hs:=List.all_eq_true.1 zx6 _ (List.getElem_mem hi)
   have hg:anyS[(nxt l b 10).toNat]?=some anyS[(nxt l b 10).toNat]:=List.getElem?_eq_getElem hi
   have hr:(rwS anyS)[(nxt l b 10).toNat]?=some [St anyS[(nxt l b 10).toNat]]:=by simp only [rwS,List.getElem?_map,hg];rfl
   have hii:nxt l b 10=((nxt l b 10).toNat:Int):=by omega
   rw [List.getD_eq_getElem?_getD,hg]
   generalize anyS[(nxt l b 10).toNat]=s at *
   simp only [Bool.and_eq_true] at hs
   exact idx1 (row:=[St s]) hv.1 hv.2 (by show rowAt (rwS anyS) (nxt l b 10)=[St s];rw [hii];exact z5j hr) (call0 (z3n _ hs.1) ⟨_,rfl,leX.same ⟨rfl,rfl,rfl,trivial⟩⟩)
 ·subst hx
  have hy:=nx_le (l:=l) (a:=(any0 l 0).2) (n:=5) (by omega) h0.2.1
  unfold anyF
  generalize any0 l 0=P at *
  refine call1 [1000] (z2a l hl (by omega) P.2 5 (by omega) (by omega) (by omega)) rfl rfl (za _) (brS (fun hk=>?_) (fun hk=>?_))
  ·rw [if_pos hk]
   exact call1 [1000] (zxa l hl (by omega) (l.length+1) P.1 _ h0.2.2.1 (by omega) (by omega) hy.2.1 (by omega)) rfl rfl (za _) ⟨rfl,rfl⟩
  ·rw [if_neg hk];exact ⟨rfl,rfl⟩
theorem preS:(preL.all Go.Ab.okD)=true:=by kernel_rfl
theorem preG {pl:Option (List (ByteArray×Int))} (h:EnP [] preL pl):EnvG preL pl:=⟨h,fun d hd=>List.all_eq_true.1 preS d hd,fun d hd=>zz0c (List.all_eq_true.1 zjb d hd)⟩
abbrev U16 (n:Int):PV:=.v (.int .u16 n)
theorem zbv (f c:Int) (hf:0<=f/\f<=65535) (hc:0<=c/\c<=65535):PCon Tryz.prog 23 [.p (U16 f),.p (U16 c)] (mv (f % 400) (c % 1500)):=by
 exact cv [] [] [] Tryz.func23 12 Tryz.ntmps23 rfl rfl fun cx hE=>And.intro (by omega) (And.intro (by omega) (And.intro (by omega) (And.intro (by omega) (And.intro (by omega) (And.intro (by omega) ⟨rfl,rfl⟩)))))
structure AnT (t:Trm):Prop where
 w:wfT 1000002 t=true
 d:dpT t<=6001
 s:sizT t<=1000000
theorem zfl (l:List Int) (hl:l.length<=150):AnT (anyF l 0).1:=by
 obtain ⟨h1,h2,h3⟩:=zz46 l hl
 exact ⟨h1,h2,h3⟩
theorem AnT.ok {t:Trm} (h:AnT t):okW t=true:=zeq (by omega) h.w (by have:=h.s;omega)
theorem AnT.gd {t:Trm} (h:AnT t):Gd t:=⟨zk (by omega) t h.w,by have:=h.d;omega⟩
theorem AnT.wh {t:Trm} (h:AnT t) {f c:Int} (hf:f<=2000) (hc:c<=100000):∃ g x,whF preL c g t f=some x:=by
 have hb:(1073741824:Int)<=bdV 1099511627776 100000 f:=by unfold bdV;omega
 obtain ⟨g,x,h1,_⟩:=zle (T:=1099511627776) (B:=1073741824) (M:=100000) (c:=c) (by omega) (by omega) (by omega) (by omega) (by omega) zqz f.toNat f (Nat.le_refl _) (dpT t) t (Nat.le_refl _) hb ⟨zk (by omega) t h.w,by have:=h.d;omega⟩
 exact ⟨g,x,h1⟩
theorem zm9 (t:Trm) (hg:Gd t):PCon Tryz.prog 87 [tv t] (tv (ovrT t)):=by
 have hd:=hg.d
 exact cv [] [] [] Tryz.func87 7 Tryz.ntmps87 rfl rfl fun cx hE=>call0 (z3l t (Cp.of hg.w (by omega) (by omega)) 1 (by omega) (by omega) 0 (by omega) (by omega) (by omega)) (call0 (z4a 0) (call0 (z1o _ _ (Cp.of (b:=0) rfl (by omega) (by decide))) ⟨rfl,rfl⟩))
def RCvC (ds:List Dcl) (b c:Int) (t u:Trm) (f:Int) (x:CR):Prop:=Con Tryz.prog 36 [.ptr 1000 0,tv t,tv u,mv f c] (refE 1000 ds b) (fun r o=>r=xcV c x/\o=refE 1000 ds b)
set_option maxHeartbeats 8000000 in
theorem zr4 (ds:List Dcl) (b c:Int) (cf:Trm->Trm->Int->Option CR) (hk:∀ a b f x,Gd a->Gd b->cf a b f=some x->CK f x) (ih:∀ t u f x,Gd t->Gd u->LOK t->LOK u->Mt f c->cf t u f=some x->RCvC ds b c t u f x) (l m:List Trm) (hl:∀ a∈l,Gd a/\LOK a) (hm:∀ a∈m,Gd a/\LOK a) (hlen:l.length=m.length) (h28:l.length<=268435456) (f:Int) (hf:Mt f c) (y:CR) (hy:allF cf l m f=some y) :
  Con Tryz.prog 86 [.ptr 1000 0,.p (.sl 5 (encTs l)),.p (.sl 5 (encTs m)),mv f c] (refE 1000 ds b) (fun r o=>r=xcV c y/\o=refE 1000 ds b):=by
 have hel:=zc l
 have hem:=zc m
 refine cv [] [] [1000,1001] Tryz.func86 46 Tryz.ntmps86 rfl rfl fun cx hE=>?_
 refine loop2 (fun (i:Nat) (k:Int)=>[(11,.p (I i))]) (fun i k=>[(7,.ce 40 [.p (I k),.p (I c)])]) (fun i k=>allF cf (l.drop i) (m.drop i) k=some y/\Mt k c/\i<=l.length) (fun i k=>l.length-i) 0 f [11] [7] hE rfl rfl rfl ⟨Sub.refl _,rfl,rfl,rfl,rfl,trivial⟩ ⟨hy,hf,by omega⟩ fun i k ⟨i1,i2,i3⟩=>?_
 refine fun _=>brS (fun hlt=>?_) (fun hlt=>?_)
 ·have hil:i<l.length:=by omega
  have him:i<m.length:=by omega
  have hgl:l[i]?=some (l[i]):=List.getElem?_eq_getElem hil
  have hgm:m[i]?=some (m[i]):=List.getElem?_eq_getElem him
  have ha:=hl _ (List.getElem_mem hil)
  have hb:=hm _ (List.getElem_mem him)
  rw [List.drop_eq_getElem_cons hil,List.drop_eq_getElem_cons him] at i1
  generalize l[i]=a at hgl ha i1
  generalize m[i]=b' at hgm hb i1
  have r1:(encTs l)[i]?=some (rowT a):=by rw [zb,List.getElem?_map,hgl];rfl
  have r2:(encTs m)[i]?=some (rowT b'):=by rw [zb,List.getElem?_map,hgm];rfl
  simp only [allF] at i1
  cases hc:cf a b' k with
  | none=>rw [hc] at i1;cases i1
  | some q =>
    have hcc:RCvC ds b c a b' k q:=ih a b' k q ha.1 hb.1 ha.2 hb.2 i2 hc
    have hkk:=hk a b' k q ha.1 hb.1 hc
    rw [hc] at i1
    obtain ⟨is,k1,e⟩:=q
    simp only at i1 hkk
    refine idxN r1 (idxN r2 (callR [1000,1001] hcc rfl rfl (za _) ?_))
    refine brS (fun he=>?_) (fun he=>brB (fun hi=>?_) (fun hi=>?_))
    ·rw [if_pos (.inl he)] at i1;cases i1;exact ⟨rfl,rfl⟩
    ·have hi':is=false:=by simpa using hi
     rw [if_pos (.inr hi')] at i1;cases i1;exact ⟨rfl,rfl⟩
    ·have hi':is=true:=by simpa using hi
     rw [if_neg (fun h=>h.elim he (fun h=>by rw [hi'] at h;cases h))] at i1
     exact And.intro (by omega) ⟨i+1,k1,⟨i1,i2.fu hkk.1,by omega⟩,by omega,Sub.i (by simp),rfl,rfl,rfl,rfl,trivial⟩
 ·rw [List.drop_eq_nil_of_le (by omega),List.drop_eq_nil_of_le (by omega)] at i1
  simp only [allF,Option.some.injEq] at i1
  subst i1
  exact ⟨rfl,rfl⟩
set_option maxHeartbeats 16000000 in
theorem zma (ds:List Dcl) (b:Int) (hER:EnvR ds) (hl:EnvA pL ds) (c:Int):∀ (g:Nat) (t u:Trm) (f:Int) (x:CR),Gd t->Gd u->LOK t->LOK u->Mt f c->cvF ds c g t u f=some x->RCvC ds b c t u f x
 | 0,_,_,_,_,_,_,_,_,_,h=>by cases h
 | g + 1, t, u,f,x,gt,gu,lt,lu,hm,hx=>by
   have h0:=hm.f0;have h1:=hm.f1;have h2:=hm.c0;have h3:=hm.c1
   have hs:=zkw f c (by omega) (by omega)
   unfold stepF at hs
   simp only [cvF] at hx
   unfold RCvC
   by_cases hf0:f<=0
   ·rw [if_pos hf0] at hx;cases hx
    rw [if_pos hf0,if_pos hf0] at hs
    exact cv [] [] [1000,1001] Tryz.func36 182 Tryz.ntmps36 rfl rfl fun cx hE=>call0 hs (brS (fun _=>⟨rfl,rfl⟩) (fun hh=>absurd (by decide) hh))
   rw [if_neg hf0] at hx
   rw [if_neg hf0,if_neg hf0] at hs
   have hm1:Mt (f-1) c:=⟨by omega,by omega,h2,h3⟩
   refine cv [] [14] [1000,1001] Tryz.func36 182 Tryz.ntmps36 rfl rfl fun cx hE=>call0 hs (brS (fun hh=>absurd rfl hh) (fun _=>call0 (z8n t u lt.lv lu.lv) (brB (fun hk=>?_) (fun hk=>?_))))
   ·rw [if_pos hk] at hx;cases hx;exact ⟨rfl,rfl⟩
   rw [if_neg (by rw [hk];decide)] at hx
   cases hw:whF ds c g t (f-1) with
   | none=>rw [hw] at hx;cases hx
   | some y =>
     have hwc:RWhC ds b c t (f-1) y:=zfg ds b hER c g t (f-1) y gt hm1 hw
     have hkw:=z1u g t (f-1) y.1 y.2.1 y.2.2 gt hw
     have hlw:=fun (e0:y.2.2=0)=>lt.wh hl (show whF ds c g t (f-1)=some (y.1,y.2.1,0) by rw [hw,<- e0])
     rw [hw] at hx
     obtain ⟨w,f1,e⟩:=y
     simp only at hx hkw hlw
     refine callX [1000,1001] hwc rfl rfl (za _) fun r o ⟨q1,q2⟩=>?_
     subst q1 q2
     refine brS (fun he=>?_) (fun he=>?_)
     ·simp only at he
      rw [if_pos he] at hx;cases hx;exact ⟨rfl,rfl⟩
     simp only at he
     rw [if_neg he] at hx
     have lw:=hlw (Classical.byContradiction fun h=>he h)
     have hm2:=hm1.fu hkw.2
     cases hv:whF ds c g u f1 with
     | none=>rw [hv] at hx;cases hx
     | some z =>
       have hvc:RWhC ds b c u f1 z:=zfg ds b hER c g u f1 z gu hm2 hv
       have hkv:=z1u g u f1 z.1 z.2.1 z.2.2 gu hv
       have hlv:=fun (e0:z.2.2=0)=>lu.wh hl (show whF ds c g u f1=some (z.1,z.2.1,0) by rw [hv,<- e0])
       rw [hv] at hx
       obtain ⟨v,f2,e2⟩:=z
       simp only at hx hkv hlv
       refine callX [1000,1001] hvc rfl rfl (za _) fun r o ⟨q1,q2⟩=>?_
       subst q1 q2
       refine brS (fun he2=>?_) (fun he2=>?_)
       ·simp only at he2
        rw [if_pos he2] at hx;cases hx;exact ⟨rfl,rfl⟩
       simp only at he2
       rw [if_neg he2] at hx
       have lv':=hlv (Classical.byContradiction fun h=>he2 h)
       have hm3:=hm2.fu hkv.2
       have gw:=hkw.1
       have gv:=hkv.1
       have hkn:∀ a b f x,Gd a->Gd b->cvF ds c g a b f=some x->CK f x:=fun a b f x=>z6i g a b f x
       have ih:∀ t u f x,Gd t->Gd u->LOK t->LOK u->Mt f c->cvF ds c g t u f=some x->RCvC ds b c t u f x:=fun a b' f x=>zma ds b hER hl c g a b' f x
       generalize hcf:cvF ds c g=cf at *
       clear hw hv hwc hvc hlw hlv hkw hkv
       unfold hdF at hx
       refine call0 (z8n w v lw.lv lv'.lv) (brB (fun hk2=>?_) (fun hk2=>?_))
       ·rw [if_pos hk2] at hx;cases hx;exact ⟨rfl,rfl⟩
       rw [if_neg (by rw [hk2];decide)] at hx
       refine seq0 [(73,.p (B (decide (w.kind=v.kind/\(w.kind=4\/w.kind=5)))))] [] [73] [] [] hE rfl rfl rfl ?_ ?_
       ·refine brS (fun (hkk:w.kind=v.kind)=>brS (fun (x5:w.kind=5)=>⟨Sub.bt (by omega),rfl,rfl,rfl,rfl,rfl,rfl,rfl,rfl,trivial⟩) (fun (x5:¬ w.kind=5)=>⟨Sub.bd (by show w.kind=4↔_;omega),rfl,rfl,rfl,rfl,rfl,rfl,rfl,rfl,trivial⟩)) (fun (hkk:¬ w.kind=v.kind)=>⟨Sub.bf (by omega),rfl,rfl,rfl,rfl,rfl,rfl,rfl,rfl,trivial⟩)
       refine brS (fun hP=>?_) (fun hP=>brS (fun x4=>?_) (fun x4=>brS (fun y4=>?_) (fun y4=>?_)))
       ·rw [if_pos hP] at hx
        have hlen:w.args.length=2/\v.args.length=2:=by
         obtain ⟨p,q,h1⟩:=z4h gw.w (.inr hP.2)
         obtain ⟨p',q',h2⟩:=z4h gv.w (.inr (by omega))
         rw [h1,h2];exact ⟨rfl,rfl⟩
        refine callX [1000,1001] (zr4 ds b c cf hkn ih w.args v.args (fun a h=>⟨gw.sub h,lw.sub h⟩) (fun a h=>⟨gv.sub h,lv'.sub h⟩) (by omega) (by omega) f2 hm3 x hx) rfl rfl (za _) fun r o ⟨q1,q2⟩=>?_
        subst q1 q2
        exact ⟨rfl,rfl⟩
       ·rw [if_neg hP,if_pos x4] at hx
        split at hx
        ·rename_i hg
         obtain ⟨p,q,hpq⟩:=z4h gw.w (.inr (.inl x4))
         have r1:(encTs w.args)[1]?=some (rowT q):=by rw [hpq];simp [zb]
         have hm':q∈w.args:=by rw [hpq];simp
         rw [show w.args.getD 1 zT=q by rw [hpq];rfl] at hx
         have hc:RCvC ds b c q (ovrT v) f2 x:=ih q (ovrT v) f2 x (gw.sub hm') (gdT_iff.1 hg) (lw.sub hm') lv'.ovr hm3 hx
         exact idxN (i:=1) r1 (call0 (zm9 v gv) (callR [1000,1001] hc rfl rfl (za _) ⟨rfl,rfl⟩))
        ·cases hx
       ·rw [if_neg hP,if_neg x4,if_pos y4] at hx
        split at hx
        ·rename_i hg
         obtain ⟨p,q,hpq⟩:=z4h gv.w (.inr (.inl y4))
         have r1:(encTs v.args)[1]?=some (rowT q):=by rw [hpq];simp [zb]
         have hm':q∈v.args:=by rw [hpq];simp
         rw [show v.args.getD 1 zT=q by rw [hpq];rfl] at hx
         have hc:RCvC ds b c (ovrT w) q f2 x:=ih (ovrT w) q f2 x (gdT_iff.1 hg) (gv.sub hm') lw.ovr (lv'.sub hm') hm3 hx
         exact call0 (zm9 w gw) (idxN (i:=1) r1 (callR [1000,1001] hc rfl rfl (za _) ⟨rfl,rfl⟩))
        ·cases hx
       ·rw [if_neg hP,if_neg x4,if_neg y4] at hx
        have no:offT w v->x=(false,f2,0):=fun ho=>by rw [if_pos ho] at hx;cases hx;rfl
        have aw:=gw.args;have av:=gv.args
        have e1:=zc (argsT w);have e2:=zc (argsT v)
        have dw:=gw.d;have dv:=gv.d
        have he:alkT (headT w) (headT v)=true↔(headT w).kind=(headT v).kind/\(headT w).n=(headT v).n/\(headT w).name=(headT v).name/\samLs (headT w).levels (headT v).levels=true/\alkTs (headT w).args (headT v).args=true:=by
         rw [zo0];simp only [Bool.and_eq_true,decide_eq_true_eq]
        have na:∀ {p:Prop},(alkT (headT w) (headT v)=true->p)->¬ p->offT w v:=fun h hp=>.inr (.inr (.inr (by
         cases ha:alkT (headT w) (headT v) with
         | false=>rfl
         | true=>exact absurd (h ha) hp)))
        refine call0 (z3i 1099511627776 (by omega) w gw.w (by omega)) (call0 (z3i 1099511627776 (by omega) v gv.w (by omega)) (fun _=>brS (fun h0=>?_) (fun h0=>fun _=>fun _=>brS (fun hl=>?_) (fun hl=>brS (fun hkd=>?_) (fun hkd=>?_)))))
        ·obtain rfl:=no (.inl (List.eq_nil_of_length_eq_zero (by omega)));exact ⟨rfl,rfl⟩
        ·obtain rfl:=no (.inr (.inl (by omega)));exact ⟨rfl,rfl⟩
        ·obtain rfl:=no (na (fun h=>(he.1 h).1) hkd);exact ⟨rfl,rfl⟩
        have hSL:=zf2 (headT w).levels (headT v).levels (zbj lw.head.lv) (zbj lv'.head.lv)
        by_cases hk02:(headT w).kind≠0/\(headT w).kind≠2
        ·obtain rfl:=no (.inr (.inr (.inl hk02)))
         exact brY hk02.1 (brY hk02.2 ⟨rfl,rfl⟩)
        have hargs:(headT w).args=[]/\(headT v).args=[]:=by
         have q1:=(zg gw.head.w).args
         have q2:=(zg gv.head.w).args
         have:argF (headT w).kind=0/\argF (headT v).kind=0:=by
          have:(headT w).kind=0\/(headT w).kind=2:=by omega
          rw [<- Classical.byContradiction hkd]
          rcases this with h | h<;>simp [h,argF]
         exact ⟨List.eq_nil_of_length_eq_zero (by omega),List.eq_nil_of_length_eq_zero (by omega)⟩
        have rest:(headT w).n=(headT v).n->(headT w).name=(headT v).name->samLs (headT w).levels (headT v).levels=true->_:=fun h1 h2 h3=>zr4 ds b c cf hkn ih (argsT w) (argsT v) (fun a h=>⟨aw.1 a h,lw.args a h⟩) (fun a h=>⟨av.1 a h,lv'.args a h⟩) (by omega) aw.2 f2 hm3 x (by
         rw [if_neg (fun ho=>by
          rcases ho with ho | ho | ho | ho
          ·rw [ho] at h0;simp [zb] at h0
          ·omega
          ·exact hk02 ho
          ·rw [he.2 ⟨Classical.byContradiction hkd,h1,h2,h3,by rw [hargs.1,hargs.2];rfl⟩] at ho;cases ho)] at hx
         exact hx)
        rcases (by omega:(headT w).kind=0\/(headT w).kind=2) with k0 | k2
        all_goals
         first | (refine brZ ?_ ?_;(show ¬ ¬ (headT w).kind=0;omega)) | (refine brY ?_ (brZ ?_ ?_);(show ¬ (headT w).kind=0;omega);(show ¬ ¬ (headT w).kind=2;omega))
         refine brS (fun hn=>?_) (fun hn=>brS (fun hs=>?_) (fun hs=>call0 hSL (brB (fun ha=>?_) (fun ha=>?_))))
         ·obtain rfl:=no (na (fun h=>(he.1 h).2.1) hn);exact ⟨rfl,rfl⟩
         ·obtain rfl:=no (na (fun h=>(he.1 h).2.2.1) hs);exact ⟨rfl,rfl⟩
         ·obtain rfl:=no (na (fun h=>(he.1 h).2.2.2.1) (by simpa using ha));exact ⟨rfl,rfl⟩
         ·refine callX [1000,1001] (rest (Classical.byContradiction hn) (Classical.byContradiction hs) (by simpa using ha)) rfl rfl (za _) fun r o ⟨q1,q2⟩=>?_
          subst q1 q2
          exact ⟨rfl,rfl⟩
structure NB (p:Int->ByteArray->List Lvl->Bool):Prop where
 np:NO p
 cs:([cZero,cSucc,cAdd,cTwo,cNat,cId,cRec,cNN,cPi,cEq,cAnd,cNot,cP,cS0,cRefl,zm7,cId0,cAll].all fun t=>allN p t)=true
 ss:(anyS.all fun s=>allN p (trmOf s))=true
 sp:((spoN []).all fun s=>p 2 s [])=true
 lv:∀ (l:List Int) (a:Int),0<=a->l.length<=800->p 1 ⟨#[]⟩ [(lvF l (l.length+1) 2 a).1]=true
theorem zh9 {l:List Int} {a n:Int} (h0:0<=a):0<=nxA l a n:=by unfold nxA;split<;>omega
section
variable {p : Int → ByteArray → List Lvl → Bool} (h : NB p)
include h
theorem zz49 {a b c:Trm} (ha:allN p a=true) (hb:allN p b=true) (hc:allN p c=true):allN p ⟨6,0,⟨#[]⟩,[],[a,b,c]⟩=true:=by
 simp [allN,allNs,ha,hb,hc,h.np.own 6]
theorem zxb (n:Int):allN p (mkV n)=true:=by simp [mkV,allN,allNs,h.np.own 0]
set_option maxHeartbeats 8000000 in
theorem zar (l:List Int):∀ (g:Nat) (v a:Int),allN p (natF l g v a).1=true/\allN p (funF l g v a).1=true
 | 0,v,a=>by
   have hc:=h.cs
   simp only [List.all_cons,Bool.and_eq_true] at hc
   exact ⟨hc.1,hc.1⟩
 | g+1,v,a=>by
   have ih:=zar l g
   have hc:=h.cs
   simp only [List.all_cons,List.all_nil,Bool.and_eq_true] at hc
   obtain ⟨z1,z2,z3,z4,z5,z6,z7,z8,z9,_⟩:=hc
   have n4:(4:Int)≠1/\(4:Int)≠2:=by decide
   simp only [natF,funF]
   generalize cZero=c1 at *;generalize cSucc=c2 at *;generalize cAdd=c3 at *;generalize cTwo=c4 at *;generalize cNat=c5 at *;generalize cId=c6 at *;generalize cRec=c7 at *;generalize cNN=c8 at *;generalize cPi=c9 at *
   refine ⟨?_,?_⟩
   all_goals repeat' split
   all_goals simp only [appT]
   all_goals repeat' (first | refine z4v h.np ?_ ?_ | refine z5u h.np n4.1 n4.2 ?_ ?_ | refine zz49 h ?_ ?_ ?_ | exact (ih _ _).1 | exact (ih _ _).2 | exact zxb h _ | assumption)
theorem zxc (l:List Int) (v a:Int):allN p (pn l v a).1=true:=(zar h l _ v a).1
set_option maxHeartbeats 8000000 in
theorem zjf (l:List Int):∀ (g:Nat) (v a:Int),allN p (propF l g v a).1=true
 | 0,v,a=>by
   have hc:=h.cs
   simp only [List.all_cons,Bool.and_eq_true] at hc
   exact hc.1
 | g+1,v,a=>by
   have ih:=zjf l g
   have hc:=h.cs
   simp only [List.all_cons,List.all_nil,Bool.and_eq_true] at hc
   obtain ⟨z1,z2,z3,z4,z5,z6,z7,z8,z9,z10,z11,z12,z13,z14,_⟩:=hc
   have n5:(5:Int)≠1/\(5:Int)≠2:=by decide
   simp only [propF]
   generalize cZero=c1 at *;generalize cSucc=c2 at *;generalize cAdd=c3 at *;generalize cTwo=c4 at *;generalize cNat=c5 at *;generalize cId=c6 at *;generalize cRec=c7 at *;generalize cNN=c8 at *;generalize cPi=c9 at *;generalize cEq=c10 at *;generalize cAnd=c11 at *;generalize cNot=c12 at *;generalize cP=c13 at *;generalize cS0=c14 at *
   repeat' split
   all_goals simp only [appT]
   all_goals repeat' (first | refine z4v h.np ?_ ?_ | refine z5u h.np n5.1 n5.2 ?_ ?_ | exact zxc h l _ _ | exact ih _ _ | assumption)
set_option maxHeartbeats 8000000 in
theorem zfm (l:List Int):∀ (g:Nat) (v a:Int),allN p (z1n l g v a).1=true/\allN p (z1n l g v a).2.1=true
 | 0,v,a=>by
   have hc:=h.cs
   simp only [List.all_cons,Bool.and_eq_true] at hc
   exact ⟨hc.1,hc.1⟩
 | g+1,v,a=>by
   have ih:=zfm l g
   have hc:=h.cs
   simp only [List.all_cons,List.all_nil,Bool.and_eq_true] at hc
   obtain ⟨z1,z2,z3,z4,z5,z6,z7,z8,z9,z10,z11,z12,z13,z14,z15,z16,z17,z18,_⟩:=hc
   have n5:(5:Int)≠1/\(5:Int)≠2:=by decide
   have n4:(4:Int)≠1/\(4:Int)≠2:=by decide
   have pr:∀ v a,allN p (pp l v a).1=true:=fun v a=>zjf h l _ v a
   simp only [z1n]
   generalize cZero=c1 at *;generalize cSucc=c2 at *;generalize cAdd=c3 at *;generalize cTwo=c4 at *;generalize cNat=c5 at *;generalize cId=c6 at *;generalize cRec=c7 at *;generalize cNN=c8 at *;generalize cPi=c9 at *;generalize cEq=c10 at *;generalize cAnd=c11 at *;generalize cNot=c12 at *;generalize cP=c13 at *;generalize cS0=c14 at *;generalize cRefl=c15 at *;generalize zm7=c16 at *;generalize cId0=c17 at *;generalize cAll=c18 at *
   refine ⟨?_,?_⟩
   all_goals repeat' split
   all_goals simp only [appT]
   all_goals repeat' (first | refine z4v h.np ?_ ?_ | refine z5u h.np n4.1 n4.2 ?_ ?_ | refine z5u h.np n5.1 n5.2 ?_ ?_ | exact zxc h l _ _ | exact pr _ _ | exact z6v (pr _ _) _ _ | exact zxb h _ | exact (ih _ _).1 | exact (ih _ _).2 | assumption)
theorem zr5 (l:List Int) (hl:l.length<=800) {t:Trm} (ht:allN p t=true) {a:Int} (ha0:0<=a):allN p (spo0 l t a).1=true:=by
 have hc:=h.cs
 simp only [List.all_cons,List.all_nil,Bool.and_eq_true] at hc
 obtain ⟨z1,z2,z3,z4,z5,_⟩:=hc
 have n4:(4:Int)≠1/\(4:Int)≠2:=by decide
 have hv:=nx_lt (l:=l) (a:=nxA l a 6) (n:=6) (by omega)
 simp only [spo0]
 repeat' split
 ·exact z1
 ·exact zxb h _
 ·exact z7p (h.lv l _ (zh9 ha0) hl) fun a ha=>by cases ha
 ·have hi:(nxt l (nxA l a 6) 6).toNat<(spoN l).length:=by show _<6;omega
  refine z7p ?_ fun a ha=>by cases ha
  have hs:=List.all_eq_true.1 h.sp _ (List.getElem_mem hi)
  simp only [List.getD_eq_getElem?_getD,List.getElem?_eq_getElem hi,Option.getD_some]
  exact hs
 ·exact z4v h.np ht ht
 ·exact z5u h.np n4.1 n4.2 z5 (z6v ht _ _)
theorem zxd (l:List Int) (hl:l.length<=800):∀ (g:Nat) (t:Trm) (a:Int),0<=a->allN p t=true->allN p (spoF l g t a).1=true
 | 0,t,a,_,ht=>ht
 | g + 1,t,a,ha0,ht=>by
   simp only [spoF]
   split
   ·split
    ·refine z7p (show p t.kind t.name t.levels=true from z5l ht) fun x hx=>?_
     rcases List.mem_or_eq_of_mem_set hx with hx | hx
     ·exact z2s ht hx
     ·subst hx
      exact zxd l hl g _ _ (zh9 (zh9 ha0)) (z6h h.np (fun a ha=>z2s ht ha) _)
    ·exact zr5 h l hl ht (zh9 ha0)
   ·exact zr5 h l hl ht ha0
theorem zxe (l:List Int) (hl:l.length<=150):allN p (anyF l 0).1=true:=by
 have h0:∀ a,allN p (any0 l a).1=true:=fun a=>by
  unfold any0
  repeat' split
  ·exact zxc h l _ _
  ·exact (zar h l _ _ _).2
  ·exact zjf h l _ _ _
  ·exact (zfm h l _ _ _).1
  ·exact (zfm h l _ _ _).2
  ·have hv:=nx_lt (l:=l) (a:=nxA l a 6) (n:=10) (by omega)
   have hi:(nxt l (nxA l a 6) 10).toNat<anyS.length:=by show _<10;omega
   have hs:=List.all_eq_true.1 h.ss _ (List.getElem_mem hi)
   rw [List.getD_eq_getElem?_getD,List.getElem?_eq_getElem hi]
   exact hs
 unfold anyF
 split
 ·exact zxd h l (by omega) _ _ _ (zh9 (zje l hl (Int.le_refl 0) (by omega)).1) (h0 0)
 ·exact h0 0
end
theorem zxf (l:List Int):∀ (g:Nat) (q a:Int),q<=4->wfL (lvF l g q a).1=true
 | 0,q,a,_=>rfl
 | g + 1,q,a,hq=>by
   have ih:=fun a=>zxf l g q a hq
   simp only [lvF]
   repeat' split
   ·simp [wfL,wfLs,hereL,argL,ih]
   ·simp [wfL,wfLs,hereL,argL,ih]
   ·simp [wfL,wfLs,hereL,argL,ih]
   ·rename_i hp
    have hv:=nx_lt (l:=l) (a:=nxA l a 6) (n:=q) (by omega)
    simp [wfL,wfLs,hereL,argL];omega
   ·rfl
theorem zxg (l:List Int):∀ (g:Nat) (q a:Int),depL (lvF l g q a).1<=g+1
 | 0,q,a=>by simp [lvF,zL,depL,depLs]
 | g+1,q,a=>by
   have ih:=zxg l g q
   simp only [lvF]
   repeat' split
   all_goals simp only [depL,depLs,zL]
   ·have:=ih (nxA l a 6);omega
   ·have:=ih (nxA l a 6);have:=ih (lvF l g q (nxA l a 6)).2;omega
   ·have:=ih (nxA l a 6);have:=ih (lvF l g q (nxA l a 6)).2;omega
   ·omega
   ·omega
theorem zob (l:List Int):∀ (g:Nat) (q a:Int),0<=a->a<=(lvF l g q a).2/\(prtL (lvF l g q a).1:Int)+2 * max (l.length-(lvF l g q a).2) 0<=2 * max (l.length-a) 0+1
 | 0,q,a,h0=>by simp [lvF,zL,prtL,prtLs];omega
 | g + 1,q,a,h0=>by
   have ih:=zob l g q
   have hn:0<=nxA l a 6:=zh9 h0
   have hs:a<=nxA l a 6/\(nxt l a 6≠0->nxA l a 6=a+1/\a<l.length):=by
    unfold nxA nxt
    by_cases h:a≥l.length\/(6:Int)<1
    ·rw [if_pos h,if_pos h];exact ⟨Int.le_refl _,fun h=>absurd rfl h⟩
    ·rw [if_neg h,if_neg h];exact ⟨by omega,fun _=>⟨rfl,by omega⟩⟩
   have i1:=ih (nxA l a 6) hn
   have i2:=ih (lvF l g q (nxA l a 6)).2 (by omega)
   simp only [lvF]
   repeat' split
   all_goals simp only [prtL,prtLs,zL]
   ·have:=hs.2 (by omega);omega
   ·have:=hs.2 (by omega);omega
   ·have:=hs.2 (by omega);omega
   ·have:=hs.2 (by omega)
    have:nxA l a 6<=nxA l (nxA l a 6) q:=by
     generalize nxA l a 6=b
     unfold nxA;split<;>omega
    omega
   ·omega
theorem pL_nb:NB pL:=⟨pL_np.toNO,by kernel_rfl,by kernel_rfl,by kernel_rfl,fun l a _ _=>by simp [pL,zxf l _ 2 a (by omega)]⟩
theorem pS_nb:NB pS:=⟨pS_no,by kernel_rfl,by kernel_rfl,by kernel_rfl,fun l a h0 hl=>by
 have h1:=zxg l (l.length+1) 2 a
 have h2:=(zob l (l.length+1) 2 a h0).2
 have h3:depL (lvF l (l.length+1) 2 a).1<=900:=by omega
 simp [pS,medL];omega⟩
theorem zmb (l:List Int) (hl:l.length<=150):LOK (anyF l 0).1:=⟨zxe pL_nb l hl,zxe pS_nb l hl⟩
theorem zmc (l:List Int) (g:Nat) (v a:Int):LOK (natF l g v a).1:=⟨(zar pL_nb l g v a).1,(zar pS_nb l g v a).1⟩
theorem z4l:EnvA pL preL:=by
 have h:(preL.all fun d=>allN pL d.value&&d.ctors.all fun k=>allN pL k.ty)=true:=by kernel_rfl
 simp only [List.all_eq_true,Bool.and_eq_true] at h
 exact ⟨fun d hd=>(h d hd).1,fun d hd k hk=>(h d hd).2 k hk⟩
theorem preR:EnvR preL:=by
 have h:(preL.all fun d=>decide (d.kind=3->0<=d.count))=true:=by kernel_rfl
 rw [List.all_eq_true] at h
 exact ⟨fun d hd=>zz0c (List.all_eq_true.1 zjb d hd),fun d hd=>of_decide_eq_true (h d hd),by rw [zjc];omega⟩
theorem zxh (l:List Dcl) (h:(l.all okFam)=true) (hlen:l.length<=1000):Con Tryz.prog 19 [.p (.sl 16 (encDs l))] [] (fun r o=>r=.ptr 2000 0/\o=[(2000,.ce 28 [.p (.sl 16 (encDs (envF [] l))),.p (I 0)])]) :=
 (zls l h hlen).le fun r o ⟨e1,e2⟩=>by
  subst e1 e2
  exact ⟨[(2000,.ce 28 [.p (.sl 16 (encDs (envF [] l))),.p (I 0)])],fun cx n h0=>(Le.subC 2000 0 rfl rfl Sub.ts rfl rfl).trans (Le.objsN (by simp [refE,setO]) (by simp)),rfl,rfl,rfl⟩
theorem AnT.on {t:Trm} (h:AnT t) {f c:Int} (hf:f<=2000) (hc:c<=100000):∃ g y,onF preL c (whF preL c g) t f=some y:=by
 have hb:(1073741824:Int)<=bdV 1099511627776 100000 f:=by unfold bdV;omega
 obtain ⟨g,y,h1,_⟩:=zz2d (T:=1099511627776) (B:=1073741824) (M:=100000) (c:=c) (by omega) (by omega) (by omega) (by omega) (by omega) zqz hb ⟨zk (by omega) t h.w,by have:=h.d;omega⟩
 exact ⟨g,y,h1⟩
end Go.Ab.YtpneaijfkefeaaaGreat
set_option linter.unusedSectionVars false
namespace Go.Ab
open Go Go.RowKit
def noM (_ _:Nat):Prop:=False
section
variable {H : Type} {enc : TypeId × Value → H} {P : Program} {w : World} {base : Nat} {spare : Nat → Bool} {held : Bool} {fuel T : Nat} {v : Value} {cs : List Value} {x : DataW H × List MemPlace}
theorem z1x {k:IntKind} (hu:P.underlying T=some (.int k)) (h:DataW.trod enc P w base spare held fuel T cs=some x):∃ n,cs=[.int k n]/\(Lit.int k n).wf=true:=by
 cases fuel with
 | zero=>simp [DataW.trod] at h
 | succ f =>
   unfold DataW.trod at h
   rw [hu] at h
   split at h<;>simp_all
   all_goals (obtain ⟨⟨h1,h2⟩,_⟩:=h;subst h1;exact ⟨_,rfl,h2⟩)
theorem z6x (hu:P.underlying T=some .string) (h:DataW.trod enc P w base spare held fuel T cs=some x):∃ s,cs=[.string s]/\s.size<=maxLen:=by
 cases fuel with
 | zero=>simp [DataW.trod] at h
 | succ f =>
   unfold DataW.trod at h
   rw [hu] at h
   split at h<;>simp_all
theorem zjg {α β:Type} {f:α->Option β}:∀ {l:List α} {r:List β},l.mapM f=some r->r.length=l.length/\∀ (i:Nat) (x:α),l[i]?=some x->∃ y,r[i]?=some y/\f x=some y
 | [],r,h=>by simp at h;subst h;simp
 | a::l,r,h=>by
   simp only [List.mapM_cons,Option.pure_def,Option.bind_eq_bind,Option.bind_eq_some_iff,Option.some.injEq] at h
   obtain ⟨y,h1,q,h2,rfl⟩:=h
   obtain ⟨h3,h4⟩:=zjg h2
   refine ⟨by simp [h3],fun i x hi=>?_⟩
   cases i with
   | zero=>simp at hi;subst hi;exact ⟨y,rfl,h1⟩
   | succ i=>simpa using h4 i x (by simpa using hi)
theorem z2j {α:Type} {e sz:Nat} {R:α->Prop} {row:α->List PV} (hu:P.underlying T=some (.slice e)) (hsz:P.cellsOf e=sz) (h:DataW.trod enc P w base spare held (fuel+1) T cs=some x)
  (el:∀ cs y,DataW.trod enc P w base spare held fuel e cs=some y->∃ a,R a/\(row a).length=sz/\∀ (j:Nat) (z:PV),(row a)[j]?=some z->Rep w noM z (cs.getD j undef)) :
  ∃ (v:Value) (xs:List α),cs=[v]/\(∀ a∈xs,R a)/\xs.length<=maxLen/\Rep w noM (.sl sz (xs.map row)) v:=by
 subst hsz
 unfold DataW.trod at h
 rw [hu] at h
 split at h<;>try (simp_all;done)
 ·exact ⟨_,[],rfl,by simp,by simp,.nil⟩
 ·rename_i e' a len cap he
  cases he
  split at h
  ·rename_i hc
   obtain ⟨hb,hlc,hcm⟩:=hc
   simp only [Option.bind_eq_some_iff] at h
   obtain ⟨elems,h1,_⟩:=h
   obtain ⟨hl,hel⟩:=zjg h1
   have hget:∀ i,i<len->∃ cs y,w.cells? base (a.add (i * P.cellsOf e)) (P.cellsOf e)=some cs/\DataW.trod enc P w base spare held fuel e cs=some y:=fun i hi=>by
    obtain ⟨y,_,hy⟩:=hel i i (by simp [hi])
    obtain ⟨cs,h2,h3⟩:=Option.bind_eq_some_iff.1 hy
    exact ⟨cs,y,h2,h3⟩
   have hel2:∀ i,i<len->∃ cs a',w.cells? base (a.add (i * P.cellsOf e)) (P.cellsOf e)=some cs/\R a'/\(row a').length=P.cellsOf e/\∀ (j:Nat) (z:PV),(row a')[j]?=some z->Rep w noM z (cs.getD j undef):=fun i hi=>by
    obtain ⟨cs,y,h2,h3⟩:=hget i hi
    obtain ⟨a',h4,h5,h6⟩:=el cs y h3
    exact ⟨cs,a',h2,h4,h5,h6⟩
   have hmany:∀ m,m<=len->∃ xs:List α,xs.length=m/\(∀ a∈xs,R a)/\∀ (i:Nat) (a':α),xs[i]?=some a'->(row a').length=P.cellsOf e/\∃ cs,w.cells? base (a.add (i * P.cellsOf e)) (P.cellsOf e)=some cs/\∀ (j:Nat) (z:PV),(row a')[j]?=some z->Rep w noM z (cs.getD j undef):=by
    intro m
    induction m with
    | zero=>intro _;exact ⟨[],rfl,by simp,by simp⟩
    | succ m ih =>
      intro hm
      obtain ⟨xs,e1,e2,e3⟩:=ih (by omega)
      obtain ⟨cs,a',h2,h4,h5,h6⟩:=hel2 m (by omega)
      refine ⟨xs++[a'],by simp [e1],fun q hq=>?_,fun i q hq=>?_⟩
      ·rcases List.mem_append.1 hq with hq | hq
       ·exact e2 q hq
       ·simp at hq;subst hq;exact h4
      ·rcases Nat.lt_trichotomy i m with hi | hi | hi
       ·rw [List.getElem?_append_left (by omega)] at hq;exact e3 i q hq
       ·subst hi
        rw [List.getElem?_append_right (by omega)] at hq
        simp [e1] at hq;subst hq
        exact ⟨h5,cs,h2,h6⟩
       ·rw [List.getElem?_eq_none (by simp [e1];omega)] at hq;cases hq
   obtain ⟨xs,e1,e2,e3⟩:=hmany len (Nat.le_refl _)
   refine ⟨_,xs,rfl,e2,by omega,?_⟩
   have hcell:∀ (i:Nat) (rw':List PV) (j:Nat) (z:PV),(xs.map row)[i]?=some rw'->rw'[j]?=some z->∃ u,w.cell? (a.add (i * P.cellsOf e+j))=some u/\Rep w noM z u:=by
    intro i rw' j z hi hj
    simp only [List.getElem?_map,Option.map_eq_some_iff] at hi
    obtain ⟨a',ha,rfl⟩:=hi
    obtain ⟨g1,cs,g2,g3⟩:=e3 i a' ha
    have hjl:j<P.cellsOf e:=by have:=(List.getElem?_eq_some_iff.1 hj).1;omega
    obtain ⟨k1,k2,k3⟩:=World.cells?_some g2
    refine ⟨cs.getD j undef,?_,g3 j z hj⟩
    have:=k3 j hjl
    rw [Addr.add_add] at this
    rw [this]
    have hlt:j<cs.length:=by omega
    simp [List.getD_eq_getElem?_getD,hlt]
   have hlen:(xs.map row).length=len:=by simp [e1]
   have:=Rep.sl (w:=w) (M:=noM) (sz:=P.cellsOf e) (xs:=xs.map row) a cap (fun i j=>(w.cell? (a.add (i * P.cellsOf e+j))).getD undef) (by omega) (by simp only [maxLen] at hcm;omega)
    (fun i r hi=>by
     simp only [List.getElem?_map,Option.map_eq_some_iff] at hi
     obtain ⟨a',ha,rfl⟩:=hi
     exact (e3 i a' ha).1)
    (fun i r j z hi hj=>by obtain ⟨u,g1,_⟩:=hcell i r j z hi hj;rw [g1];rfl)
    (fun _ _ _ _ _ _ h=>h)
    (fun i r j z hi hj=>by obtain ⟨u,g1,g2⟩:=hcell i r j z hi hj;rw [g1];exact g2)
   rwa [hlen] at this
  ·cases h
end
structure LT (P:Program) (TL TLs:Nat) (TI:Nat):Prop where
 ti:P.underlying TI=some (.int .i64)
 ls:P.underlying TLs=some (.slice TL)
 sz:P.cellsOf TL=3
 szI:P.cellsOf TI=1
 szS:P.cellsOf TLs=1
 fs:∃ f0 f1 f2:Field,P.underlying TL=some (.struct #[f0,f1,f2])/\f0.type=TI/\f0.offset=0/\f1.type=TI/\f1.offset=1/\f2.type=TLs/\f2.offset=2
section
variable {H : Type} {enc : TypeId × Value → H} {P : Program} {w : World} {base : Nat} {spare : Nat → Bool} {held : Bool} {TL TLs TI : Nat}
theorem take1 {cs:List Value} {i:Nat} {v:Value} (h:(cs.drop i).take 1=[v]):cs.getD i undef=v:=by
 have:=congrArg (·[0]?) h
 simp at this
 simp [List.getD_eq_getElem?_getD,this]
structure TT (P:Program) (TR TTs TL TLs TI TS:Nat):Prop where
 l:LT P TL TLs TI
 st:P.underlying TS=some .string
 ls:P.underlying TTs=some (.slice TR)
 sz:P.cellsOf TR=5
 szT:P.cellsOf TTs=1
 szS:P.cellsOf TS=1
 fs:∃ f0 f1 f2 f3 f4:Field,P.underlying TR=some (.struct #[f0,f1,f2,f3,f4])/\f0.type=TI/\f0.offset=0/\f1.type=TI/\f1.offset=1/\f2.type=TS/\f2.offset=2/\f3.type=TLs/\f3.offset=3/\f4.type=TTs/\f4.offset=4
end
structure MT (P:Program) (TM TI:Nat):Prop where
 ti:P.underlying TI=some (.int .i64)
 sz:P.cellsOf TM=2
 szI:P.cellsOf TI=1
 fs:∃ f0 f1:Field,P.underlying TM=some (.struct #[f0,f1])/\f0.type=TI/\f0.offset=0/\f1.type=TI/\f1.offset=1
structure MT3 (P:Program) (TM TI:Nat):Prop where
 ti:P.underlying TI=some (.int .i64)
 sz:P.cellsOf TM=3
 szI:P.cellsOf TI=1
 fs:∃ f0 f1 f2:Field,P.underlying TM=some (.struct #[f0,f1,f2])/\f0.type=TI/\f0.offset=0/\f1.type=TI/\f1.offset=1/\f2.type=TI/\f2.offset=2
structure AT (P:Program) (TA TI n:Nat):Prop where
 ti:P.underlying TI=some (.int .i64)
 szI:P.cellsOf TI=1
 sz:P.cellsOf TA=n
 ar:P.underlying TA=some (.array n TI)
theorem AT.open {P:Program} {TA TI n:Nat} (lt:AT P TA TI n) {w:World} {r:Reach} {base:Nat} {v:Value} (h:Value.okWide P w r base TA v):∃ cs,v=.agg cs/\cs.size=P.cellsOf TA:=by
 simp only [Value.okWide,lt.ar] at h
 obtain ⟨cs,h1,h2,_⟩:=h
 exact ⟨cs,h1,h2⟩
theorem zxi {w:World} {own:Nat->Value} {cs:Array Value} {row:List PV} (hl:cs.size=row.length) (h:∀ (j:Nat) (z:PV),row[j]?=some z->Rep w noM z (cs.toList.getD j undef)) :
  RepA w (Mu noM own []) own (hwOf []) (.ag (row.map .p)) (.agg cs):=by
 have hm:Stp w noM w (Mu noM own []):=⟨rfl,rfl,rfl,Nat.le_refl _,fun _ _ _ _ h=>h,fun b i h=>(by rcases h with h | ⟨k,o,h,_⟩;exact .inl h;cases h),fun _ cs _ h=>⟨cs,h⟩⟩
 have:RepA w (Mu noM own []) own (hwOf []) (.ag (row.map .p)) (.agg cs.toList.toArray):=by
  refine .ag cs.toList (by simp [hl]) (fun v hv=>?_) fun j x hj=>?_
  ·obtain ⟨j,hj⟩:=List.getElem?_of_mem hv
   have hlt:j<row.length:=by have:=(List.getElem?_eq_some_iff.1 hj).1;simp at this;omega
   have:=(h j _ (List.getElem?_eq_getElem hlt)).one
   rwa [List.getD_eq_getElem?_getD,hj] at this
  ·simp only [List.getElem?_map,Option.map_eq_some_iff] at hj
   obtain ⟨z,hz,rfl⟩:=hj
   exact .p ((h j z hz).stp hm)
 simpa using this
theorem arg_v {w:World} {own:Nat->Value} {v:Value} (h:v.oneCell'=true):RepA w (Mu noM own []) own (hwOf []) (.p (.v v)) v:=.p (.v h)
theorem z7v {w:World} {own:Nat->Value} {x:PV} {v:Value} (h:Rep w noM x v):RepA w (Mu noM own []) own (hwOf []) (.p x) v :=
 .p (h.stp ⟨rfl,rfl,rfl,Nat.le_refl _,fun _ _ _ _ h=>h,fun b i h=>(by rcases h with h | ⟨k,o,h,_⟩;exact .inl h;cases h),fun _ cs _ h=>⟨cs,h⟩⟩)
theorem z9j {P:Program} {f:Nat} {args:List AV} {b:Bool} (c:PCon P f args (.p (B b))) (w:World) (vals:List Value) (h:z7d w (Mu noM (fun _=>undef) []) (fun _=>undef) (hwOf []) args vals) :
  Calls P f vals.toArray w fun e w'=>e=.returned (.bool b)/\Below w.heap.size w w':=by
 refine (c w noM (fun _=>undef) vals ⟨fun _ _ h=>(by cases h),(by simp),fun _ _ _ _ h=>(by cases h),fun _ _ _ h=>(by cases h),fun _ _ h=>h.elim⟩ h).mono ?_
 rintro e w' ⟨r,o,own',v,rfl,⟨rfl,rfl⟩,h2,h3,h4,h5,h6,h7⟩
 have hv:v=.bool b:=by cases h3 with | p h=>cases h;rfl
 subst hv
 exact ⟨rfl,h4.os,h4.tape,h4.output,h4.size,fun k hk=>h7.keep k hk (fun _ _ h=>by cases h)⟩
theorem z6y {w:World} {M:Nat->Nat->Prop} {own:Nat->Value} {hw:Nat->Option Nat}:z7d w M own hw [] []:=⟨rfl,fun j x h=>by simp at h⟩
theorem z1b {w:World} {M:Nat->Nat->Prop} {own:Nat->Value} {hw:Nat->Option Nat} {x:AV} {v:Value} {xs:List AV} {vs:List Value} (h:RepA w M own hw x v) (r:z7d w M own hw xs vs):z7d w M own hw (x::xs) (v::vs) :=
 ⟨by simp [r.1],fun j y hj=>by
  cases j with
  | zero=>simp at hj;subst hj;exact h
  | succ j=>simpa using r.2 j y (by simpa using hj)⟩
section
variable {H : Type} {enc : TypeId × Value → H} {P : Program} {w : World} {base : Nat} {spare : Nat → Bool} {held : Bool} {fuel T : Nat} {v : Value} {cs : List Value} {x : DataW H × List MemPlace}
def Wb {H:Type} (P:Program) (T:Nat) (d:DataW H):Prop:=∀ n∈d.weights P T,n<=reachBytes
theorem z5w {fs:Array Field} (hu:P.underlying T=some (.struct fs)) (h:DataW.trod enc P w base spare held (fuel+1) T cs=some x) (hw:Wb P T x.1) :
  cs.length=P.cellsOf T/\∀ f∈fs.toList,∃ y,DataW.trod enc P w base spare held fuel f.type ((cs.drop f.offset).take (P.cellsOf f.type))=some y/\Wb P f.type y.1:=by
 unfold DataW.trod at h
 rw [hu] at h
 have h':(if cs.length=P.cellsOf T then (fs.toList.mapM fun f=>DataW.trod enc P w base spare held fuel f.type ((cs.drop f.offset).take (P.cellsOf f.type))).map fun xs=>((.agg (xs.map (·.1)):DataW H),xs.flatMap (·.2)) else none)=some x:=by
  split at h<;>simp_all
 split at h'
 ·rename_i hc
  refine ⟨hc,fun f hf=>?_⟩
  obtain ⟨q,h1,h2⟩:=Option.map_eq_some_iff.1 h'
  obtain ⟨i,hi⟩:=List.getElem?_of_mem hf
  obtain ⟨y,hy1,hy2⟩:=(zjg h1).2 i f hi
  refine ⟨y,hy2,fun n hn=>?_⟩
  subst h2
  refine hw n ?_
  simp only [DataW.weights,hu]
  exact DataW.weights_mem_each (ts:=fs.toList.map (·.type)) (ds:=q.map (·.1)) (j:=i) (t:=f.type) (d:=y.1) (by rw [List.getElem?_map,hi];rfl) (by rw [List.getElem?_map,hy1];rfl) n hn
 ·cases h'
theorem z8s {e:Nat} {d:DataW H}:∀ {l:List (DataW H)},d∈l->∀ n∈d.weights P e,n∈DataW.weightsAll P e l
 | [],h,_,_=>by cases h
 | a::l,h,n,hn=>by
   simp only [DataW.weightsAll,List.mem_append]
   rcases List.mem_cons.1 h with rfl | h
   ·exact .inl hn
   ·exact .inr (z8s h n hn)
theorem z5n {α:Type} {e sz:Nat} {R:α->Prop} {row:α->List PV} (hu:P.underlying T=some (.slice e)) (hsz:P.cellsOf e=sz) (h:DataW.trod enc P w base spare held (fuel+1) T cs=some x) (hw:Wb P T x.1)
  (el:∀ cs y,DataW.trod enc P w base spare held fuel e cs=some y->Wb P e y.1->∃ a,R a/\(row a).length=sz/\∀ (j:Nat) (z:PV),(row a)[j]?=some z->Rep w noM z (cs.getD j undef)) :
  ∃ (v:Value) (xs:List α),cs=[v]/\(∀ a∈xs,R a)/\xs.length<=maxLen/\Rep w noM (.sl sz (xs.map row)) v/\xs.length * P.bytesOf e<=reachBytes:=by
 subst hsz
 unfold DataW.trod at h
 rw [hu] at h
 split at h<;>try (simp_all;done)
 ·exact ⟨_,[],rfl,by simp,by simp,.nil,by simp⟩
 ·rename_i e' a len cap he
  cases he
  split at h
  ·rename_i hc
   obtain ⟨hb,hlc,hcm⟩:=hc
   simp only [Option.bind_eq_some_iff] at h
   obtain ⟨elems,h1,h2⟩:=h
   obtain ⟨rest,_,h3⟩:=Option.map_eq_some_iff.1 h2
   subst h3
   simp only [Wb,DataW.weights,hu] at hw
   have hwl:=hw _ (List.mem_cons_self ..)
   obtain ⟨hl,hel⟩:=zjg h1
   simp only [List.length_range] at hl
   have hget:∀ i,i<len->∃ cs y,w.cells? base (a.add (i * P.cellsOf e)) (P.cellsOf e)=some cs/\DataW.trod enc P w base spare held fuel e cs=some y/\Wb P e y.1:=fun i hi=>by
    obtain ⟨y,hy1,hy⟩:=hel i i (by simp [hi])
    obtain ⟨cs,h2,h3⟩:=Option.bind_eq_some_iff.1 hy
    refine ⟨cs,y,h2,h3,fun n hn=>hw n (List.mem_cons_of_mem _ (List.mem_append_left _ (z8s (d:=y.1) (List.mem_map.2 ⟨y,List.mem_of_getElem? hy1,rfl⟩) n hn)))⟩
   have hel2:∀ i,i<len->∃ cs a',w.cells? base (a.add (i * P.cellsOf e)) (P.cellsOf e)=some cs/\R a'/\(row a').length=P.cellsOf e/\∀ (j:Nat) (z:PV),(row a')[j]?=some z->Rep w noM z (cs.getD j undef):=fun i hi=>by
    obtain ⟨cs,y,h2,h3,h3w⟩:=hget i hi
    obtain ⟨a',h4,h5,h6⟩:=el cs y h3 h3w
    exact ⟨cs,a',h2,h4,h5,h6⟩
   have hmany:∀ m,m<=len->∃ xs:List α,xs.length=m/\(∀ a∈xs,R a)/\∀ (i:Nat) (a':α),xs[i]?=some a'->(row a').length=P.cellsOf e/\∃ cs,w.cells? base (a.add (i * P.cellsOf e)) (P.cellsOf e)=some cs/\∀ (j:Nat) (z:PV),(row a')[j]?=some z->Rep w noM z (cs.getD j undef):=by
    intro m
    induction m with
    | zero=>intro _;exact ⟨[],rfl,by simp,by simp⟩
    | succ m ih =>
      intro hm
      obtain ⟨xs,e1,e2,e3⟩:=ih (by omega)
      obtain ⟨cs,a',h2,h4,h5,h6⟩:=hel2 m (by omega)
      refine ⟨xs++[a'],by simp [e1],fun q hq=>?_,fun i q hq=>?_⟩
      ·rcases List.mem_append.1 hq with hq | hq
       ·exact e2 q hq
       ·simp at hq;subst hq;exact h4
      ·rcases Nat.lt_trichotomy i m with hi | hi | hi
       ·rw [List.getElem?_append_left (by omega)] at hq;exact e3 i q hq
       ·subst hi
        rw [List.getElem?_append_right (by omega)] at hq
        simp [e1] at hq;subst hq
        exact ⟨h5,cs,h2,h6⟩
       ·rw [List.getElem?_eq_none (by simp [e1];omega)] at hq;cases hq
   obtain ⟨xs,e1,e2,e3⟩:=hmany len (Nat.le_refl _)
   have hwl2:xs.length * P.bytesOf e<=reachBytes:=by
    refine Nat.le_trans (Nat.mul_le_mul_right _ ?_) hwl
    simp only [List.length_map,hl,e1]
    omega
   refine ⟨_,xs,rfl,e2,by omega,?_,hwl2⟩
   have hcell:∀ (i:Nat) (rw':List PV) (j:Nat) (z:PV),(xs.map row)[i]?=some rw'->rw'[j]?=some z->∃ u,w.cell? (a.add (i * P.cellsOf e+j))=some u/\Rep w noM z u:=by
    intro i rw' j z hi hj
    simp only [List.getElem?_map,Option.map_eq_some_iff] at hi
    obtain ⟨a',ha,rfl⟩:=hi
    obtain ⟨g1,cs,g2,g3⟩:=e3 i a' ha
    have hjl:j<P.cellsOf e:=by have:=(List.getElem?_eq_some_iff.1 hj).1;omega
    obtain ⟨k1,k2,k3⟩:=World.cells?_some g2
    refine ⟨cs.getD j undef,?_,g3 j z hj⟩
    have:=k3 j hjl
    rw [Addr.add_add] at this
    rw [this]
    have hlt:j<cs.length:=by omega
    simp [List.getD_eq_getElem?_getD,hlt]
   have hlen:(xs.map row).length=len:=by simp [e1]
   have:=Rep.sl (w:=w) (M:=noM) (sz:=P.cellsOf e) (xs:=xs.map row) a cap (fun i j=>(w.cell? (a.add (i * P.cellsOf e+j))).getD undef) (by omega) (by simp only [maxLen] at hcm;omega)
    (fun i r hi=>by
     simp only [List.getElem?_map,Option.map_eq_some_iff] at hi
     obtain ⟨a',ha,rfl⟩:=hi
     exact (e3 i a' ha).1)
    (fun i r j z hi hj=>by obtain ⟨u,g1,_⟩:=hcell i r j z hi hj;rw [g1];rfl)
    (fun _ _ _ _ _ _ h=>h)
    (fun i r j z hi hj=>by obtain ⟨u,g1,g2⟩:=hcell i r j z hi hj;rw [g1];exact g2)
   rwa [hlen] at this
  ·cases h
end
theorem zjh:∀ {l:List Lvl},(∀ a∈l,narL a=true)->narLs l=true
 | [],_=>rfl
 | a::r,h=>by simp only [narLs,h a (List.mem_cons_self ..),zjh fun b hb=>h b (List.mem_cons_of_mem _ hb),Bool.and_self]
theorem zr6:∀ {l:List Trm},(∀ a∈l,narT a=true)->narTs l=true
 | [],_=>rfl
 | a::r,h=>by simp only [narTs,h a (List.mem_cons_self ..),zr6 fun b hb=>h b (List.mem_cons_of_mem _ hb),Bool.and_self]
theorem zji:reachBytes=140737488351232:=by decide
section
variable {H : Type} {enc : TypeId × Value → H} {P : Program} {w : World} {base : Nat} {spare : Nat → Bool} {held : Bool} {TL TLs TI TR TTs TS : Nat}
theorem zxj (lt:LT P TL TLs TI) (hb:P.bytesOf TL=40):∀ (fuel:Nat) (cs:List Value) (x:DataW H×List MemPlace),DataW.trod enc P w base spare held fuel TL cs=some x->Wb P TL x.1 ->
  ∃ l:Lvl,narL l=true/\cs.length=3/\∀ (j:Nat) (z:PV),(rowL l)[j]?=some z->Rep w noM z (cs.getD j undef):=by
 intro fuel
 induction fuel using Nat.strongRecOn with
 | _ fuel ih =>
   intro cs x h hw
   obtain ⟨f0,f1,f2,hu,t0,o0,t1,o1,t2,o2⟩:=lt.fs
   cases fuel with
   | zero=>simp [DataW.trod] at h
   | succ g =>
     obtain ⟨hl,hf⟩:=z5w hu h hw
     rw [lt.sz] at hl
     obtain ⟨y0,h0,w0⟩:=hf f0 (by simp)
     obtain ⟨y1,h1,w1⟩:=hf f1 (by simp)
     obtain ⟨y2,h2,w2⟩:=hf f2 (by simp)
     rw [t0,o0,lt.szI] at h0
     rw [t1,o1,lt.szI] at h1
     rw [t2,o2,lt.szS] at h2
     rw [t2] at w2
     obtain ⟨k,e0,_⟩:=z1x lt.ti h0
     obtain ⟨n,e1,_⟩:=z1x lt.ti h1
     cases g with
     | zero=>simp [DataW.trod] at h2
     | succ g' =>
       obtain ⟨v,xs,e2,g1,g2,g3,g4⟩:=z5n (R:=fun l=>narL l=true) (row:=rowL) lt.ls lt.sz h2 w2 (fun cs y hy hwy=>by
        obtain ⟨l,k1,k2,k3⟩:=ih g' (by omega) cs y hy hwy
        exact ⟨l,k1,rfl,k3⟩)
       rw [hb,zji] at g4
       refine ⟨⟨k,n,xs⟩,?_,hl,fun j z hj=>?_⟩
       ·simp only [narL,zjh g1,Bool.and_true]
        exact decide_eq_true (by omega)
       have e0':=take1 e0
       have e1':=take1 e1
       have e2':=take1 e2
       match j with
       | 0=>simp [rowL] at hj;subst hj;rw [e0'];exact .v rfl
       | 1=>simp [rowL] at hj;subst hj;rw [e1'];exact .v rfl
       | 2=>simp [rowL] at hj;subst hj;rw [e2',zr];exact g3
       | j+3=>simp [rowL] at hj
theorem z7w (lt:TT P TR TTs TL TLs TI TS) (hb:P.bytesOf TL=40) (hb2:P.bytesOf TR=80):∀ (fuel:Nat) (cs:List Value) (x:DataW H×List MemPlace),DataW.trod enc P w base spare held fuel TR cs=some x->Wb P TR x.1 ->
  ∃ l:Trm,narT l=true/\cs.length=5/\∀ (j:Nat) (z:PV),(rowT l)[j]?=some z->Rep w noM z (cs.getD j undef):=by
 intro fuel
 induction fuel using Nat.strongRecOn with
 | _ fuel ih =>
   intro cs x h hw
   obtain ⟨f0,f1,f2,f3,f4,hu,t0,o0,t1,o1,t2,o2,t3,o3,t4,o4⟩:=lt.fs
   cases fuel with
   | zero=>simp [DataW.trod] at h
   | succ g =>
     obtain ⟨hl,hf⟩:=z5w hu h hw
     rw [lt.sz] at hl
     obtain ⟨y0,h0,_⟩:=hf f0 (by simp)
     obtain ⟨y1,h1,_⟩:=hf f1 (by simp)
     obtain ⟨y2,h2,_⟩:=hf f2 (by simp)
     obtain ⟨y3,h3,w3⟩:=hf f3 (by simp)
     obtain ⟨y4,h4,w4⟩:=hf f4 (by simp)
     rw [t0,o0,lt.l.szI] at h0
     rw [t1,o1,lt.l.szI] at h1
     rw [t2,o2,lt.szS] at h2
     rw [t3,o3,lt.l.szS] at h3
     rw [t4,o4,lt.szT] at h4
     rw [t3] at w3
     rw [t4] at w4
     obtain ⟨k,e0,_⟩:=z1x lt.l.ti h0
     obtain ⟨n,e1,_⟩:=z1x lt.l.ti h1
     obtain ⟨s,e2,_⟩:=z6x lt.st h2
     cases g with
     | zero=>simp [DataW.trod] at h4
     | succ g' =>
       obtain ⟨v3,xs,e3,g1,g2,g3,g3w⟩:=z5n (R:=fun l=>narL l=true) (row:=rowL) lt.l.ls lt.l.sz h3 w3 (fun cs y hy hwy=>by
        obtain ⟨l,k1,k2,k3⟩:=zxj lt.l hb g' cs y hy hwy
        exact ⟨l,k1,rfl,k3⟩)
       obtain ⟨v4,ys,e4,g4,g5,g6,g6w⟩:=z5n (R:=fun t=>narT t=true) (row:=rowT) lt.ls lt.sz h4 w4 (fun cs y hy hwy=>by
        obtain ⟨l,k1,k2,k3⟩:=ih g' (by omega) cs y hy hwy
        exact ⟨l,k1,rfl,k3⟩)
       rw [hb,zji] at g3w
       rw [hb2,zji] at g6w
       refine ⟨⟨k,n,s,xs,ys⟩,?_,hl,fun j z hj=>?_⟩
       ·simp only [narT,zjh g1,zr6 g4,Bool.and_true,Bool.and_eq_true]
        exact ⟨decide_eq_true (by omega),decide_eq_true (by omega)⟩
       have e0':=take1 e0
       have e1':=take1 e1
       have e2':=take1 e2
       have e3':=take1 e3
       have e4':=take1 e4
       match j with
       | 0=>simp [rowT] at hj;subst hj;rw [e0'];exact .v rfl
       | 1=>simp [rowT] at hj;subst hj;rw [e1'];exact .v rfl
       | 2=>simp [rowT] at hj;subst hj;rw [e2'];exact .v rfl
       | 3=>simp [rowT] at hj;subst hj;rw [e3',zr];exact g3
       | 4=>simp [rowT] at hj;subst hj;rw [e4',zb];exact g6
       | j+5=>simp [rowT] at hj
end
def narD0 (d:Dcl):Bool:=narT d.type&&(narT d.value&&d.ctors.all fun c=>narT c.ty)
theorem zz2w {d:Dcl} (h:narD0 d=true) (hl:d.ctors.length<=1000000000000):narD d=true:=by
 unfold narD0 at h
 unfold narD
 simp only [Bool.and_eq_true,decide_eq_true_eq] at h ⊢
 exact ⟨h.1,h.2.1,hl,h.2.2⟩
theorem zr7 {cs:List Value} {o n j:Nat} (hj:j<n):((cs.drop o).take n).getD j undef=cs.getD (o+j) undef:=by
 simp only [List.getD_eq_getElem?_getD,List.getElem?_take,if_pos hj,List.getElem?_drop]
structure CT (P:Program) (TC TCs TR TTs TL TLs TI TS:Nat):Prop where
 t:TT P TR TTs TL TLs TI TS
 ls:P.underlying TCs=some (.slice TC)
 sz:P.cellsOf TC=6
 szC:P.cellsOf TCs=1
 b1:P.bytesOf TL=40
 b2:P.bytesOf TR=80
 fs:∃ f0 f1:Field,P.underlying TC=some (.struct #[f0,f1])/\f0.type=TS/\f0.offset=0/\f1.type=TR/\f1.offset=1
structure DT (P:Program) (TD TDs TC TCs TR TTs TL TLs TI TS:Nat):Prop where
 c:CT P TC TCs TR TTs TL TLs TI TS
 ls:P.underlying TDs=some (.slice TD)
 sz:P.cellsOf TD=16
 fs:∃ f0 f1 f2 f3 f4 f5 f6 f7:Field,P.underlying TD=some (.struct #[f0,f1,f2,f3,f4,f5,f6,f7])/\(f0.type=TI/\f0.offset=0)/\(f1.type=TI/\f1.offset=1)/\(f2.type=TI/\f2.offset=2)/\(f3.type=TS/\f3.offset=3)/\(f4.type=TS/\f4.offset=4)/\(f5.type=TR/\f5.offset=5)/\(f6.type=TR/\f6.offset=10)/\(f7.type=TCs/\f7.offset=15)
section
variable {H : Type} {enc : TypeId × Value → H} {P : Program} {w : World} {base : Nat} {spare : Nat → Bool} {held : Bool} {TL TLs TI TR TTs TS TC TCs TD TDs : Nat}
theorem zxk (lt:CT P TC TCs TR TTs TL TLs TI TS) (fuel:Nat) (cs:List Value) (x:DataW H×List MemPlace) (h:DataW.trod enc P w base spare held fuel TC cs=some x) (hw:Wb P TC x.1) :
  ∃ c:Ctr,narT c.ty=true/\cs.length=6/\∀ (j:Nat) (z:PV),(rowC c)[j]?=some z->Rep w noM z (cs.getD j undef):=by
 obtain ⟨f0,f1,hu,t0,o0,t1,o1⟩:=lt.fs
 cases fuel with
 | zero=>simp [DataW.trod] at h
 | succ g =>
   obtain ⟨hl,hf⟩:=z5w hu h hw
   rw [lt.sz] at hl
   obtain ⟨y0,h0,_⟩:=hf f0 (by simp)
   obtain ⟨y1,h1,w1⟩:=hf f1 (by simp)
   rw [t0,o0,lt.t.szS] at h0
   rw [t1,o1,lt.t.sz] at h1
   rw [t1] at w1
   obtain ⟨s,e0,_⟩:=z6x lt.t.st h0
   obtain ⟨t,g1,g2,g3⟩:=z7w lt.t lt.b1 lt.b2 g _ y1 h1 w1
   refine ⟨⟨s,t⟩,g1,hl,fun j z hj=>?_⟩
   have e0':=take1 e0
   cases j with
   | zero=>simp [rowC] at hj;subst hj;rw [e0'];exact .v rfl
   | succ j =>
     have hj':(rowT t)[j]?=some z:=by simpa [rowC,rowT] using hj
     have hlt:j<5:=by have:=(List.getElem?_eq_some_iff.1 hj').1;simpa [rowT] using this
     have:=g3 j z hj'
     rw [zr7 hlt,Nat.add_comm] at this
     exact this
theorem zxl (lt:DT P TD TDs TC TCs TR TTs TL TLs TI TS) (fuel:Nat) (cs:List Value) (x:DataW H×List MemPlace) (h:DataW.trod enc P w base spare held fuel TD cs=some x) (hw:Wb P TD x.1) :
  ∃ d:Dcl,narD0 d=true/\cs.length=16/\∀ (j:Nat) (z:PV),(rowD d)[j]?=some z->Rep w noM z (cs.getD j undef):=by
 obtain ⟨f0,f1,f2,f3,f4,f5,f6,f7,hu,⟨t0,o0⟩,⟨t1,o1⟩,⟨t2,o2⟩,⟨t3,o3⟩,⟨t4,o4⟩,⟨t5,o5⟩,⟨t6,o6⟩,⟨t7,o7⟩⟩:=lt.fs
 cases fuel with
 | zero=>simp [DataW.trod] at h
 | succ g =>
   obtain ⟨hl,hf⟩:=z5w hu h hw
   rw [lt.sz] at hl
   obtain ⟨y0,h0,_⟩:=hf f0 (by simp)
   obtain ⟨y1,h1,_⟩:=hf f1 (by simp)
   obtain ⟨y2,h2,_⟩:=hf f2 (by simp)
   obtain ⟨y3,h3,_⟩:=hf f3 (by simp)
   obtain ⟨y4,h4,_⟩:=hf f4 (by simp)
   obtain ⟨y5,h5,w5⟩:=hf f5 (by simp)
   obtain ⟨y6,h6,w6⟩:=hf f6 (by simp)
   obtain ⟨y7,h7,w7⟩:=hf f7 (by simp)
   rw [t0,o0,lt.c.t.l.szI] at h0
   rw [t1,o1,lt.c.t.l.szI] at h1
   rw [t2,o2,lt.c.t.l.szI] at h2
   rw [t3,o3,lt.c.t.szS] at h3
   rw [t4,o4,lt.c.t.szS] at h4
   rw [t5,o5,lt.c.t.sz] at h5
   rw [t6,o6,lt.c.t.sz] at h6
   rw [t7,o7,lt.c.szC] at h7
   rw [t5] at w5
   rw [t6] at w6
   rw [t7] at w7
   obtain ⟨k0,e0,_⟩:=z1x lt.c.t.l.ti h0
   obtain ⟨k1,e1,_⟩:=z1x lt.c.t.l.ti h1
   obtain ⟨k2,e2,_⟩:=z1x lt.c.t.l.ti h2
   obtain ⟨s3,e3,_⟩:=z6x lt.c.t.st h3
   obtain ⟨s4,e4,_⟩:=z6x lt.c.t.st h4
   obtain ⟨t5',g51,g52,g53⟩:=z7w lt.c.t lt.c.b1 lt.c.b2 g _ y5 h5 w5
   obtain ⟨t6',g61,g62,g63⟩:=z7w lt.c.t lt.c.b1 lt.c.b2 g _ y6 h6 w6
   cases g with
   | zero=>simp [DataW.trod] at h7
   | succ g' =>
     obtain ⟨v7,xs,e7,q1,q2,q3,q4⟩:=z5n (R:=fun c:Ctr=>narT c.ty=true) (row:=rowC) lt.c.ls lt.c.sz h7 w7 (fun cs y hy hwy=>by
      obtain ⟨l,m1,m2,m3⟩:=zxk lt.c g' cs y hy hwy
      exact ⟨l,m1,rfl,m3⟩)
     refine ⟨⟨k0,k1,k2,s3,s4,t5',t6',xs⟩,?_,hl,fun j z hj=>?_⟩
     ·simp only [narD0,g51,g61,Bool.true_and]
      exact List.all_eq_true.2 q1
     have e0':=take1 e0
     have e1':=take1 e1
     have e2':=take1 e2
     have e3':=take1 e3
     have e4':=take1 e4
     have e7':=take1 e7
     have tm:∀ (t:Trm) (o j:Nat) (z:PV),(rowT t)[j]?=some z->(∀ (j:Nat) (z:PV),(rowT t)[j]?=some z->Rep w noM z (((cs.drop o).take 5).getD j undef))->Rep w noM z (cs.getD (o+j) undef):=fun t o j z hz hh=>by
      have hlt:j<5:=by have:=(List.getElem?_eq_some_iff.1 hz).1;simpa [rowT] using this
      have:=hh j z hz
      rwa [zr7 hlt] at this
     match j with
     | 0=>simp [rowD] at hj;subst hj;rw [e0'];exact .v rfl
     | 1=>simp [rowD] at hj;subst hj;rw [e1'];exact .v rfl
     | 2=>simp [rowD] at hj;subst hj;rw [e2'];exact .v rfl
     | 3=>simp [rowD] at hj;subst hj;rw [e3'];exact .v rfl
     | 4=>simp [rowD] at hj;subst hj;rw [e4'];exact .v rfl
     | 5=>exact tm t5' 5 0 z (by simpa [rowD,rowT] using hj) g53
     | 6=>exact tm t5' 5 1 z (by simpa [rowD,rowT] using hj) g53
     | 7=>exact tm t5' 5 2 z (by simpa [rowD,rowT] using hj) g53
     | 8=>exact tm t5' 5 3 z (by simpa [rowD,rowT] using hj) g53
     | 9=>exact tm t5' 5 4 z (by simpa [rowD,rowT] using hj) g53
     | 10=>exact tm t6' 10 0 z (by simpa [rowD,rowT] using hj) g63
     | 11=>exact tm t6' 10 1 z (by simpa [rowD,rowT] using hj) g63
     | 12=>exact tm t6' 10 2 z (by simpa [rowD,rowT] using hj) g63
     | 13=>exact tm t6' 10 3 z (by simpa [rowD,rowT] using hj) g63
     | 14=>exact tm t6' 10 4 z (by simpa [rowD,rowT] using hj) g63
     | 15=>simp [rowD] at hj;subst hj;rw [e7'];exact q3
     | j+16=>simp [rowD] at hj
end
mutual
def z5o:Trm->Bool
 | ⟨_,_,_,ls,l⟩=>decide (ls.length<=4)&&(ls.all (fun x=>mayLF x 4)&&z6z l)
def z6z:List Trm->Bool
 | []=>true
 | a::r=>z5o a&&z6z r
end
theorem mayLvTs_iff:∀ {l:List Trm},z6z l=true↔∀ a∈l,z5o a=true
 | []=>by simp [z6z]
 | a::r=>by simp [z6z,mayLvTs_iff (l:=r)]
theorem zfn (t:Trm):z5o t=(decide (t.levels.length<=4)&&(t.levels.all (fun x=>mayLF x 4)&&z6z t.args)):=by cases t;rfl
mutual
def nms24:Trm->Bool
 | ⟨_,_,s,_,l⟩=>decide (s.size<=24)&&zfo l
def zfo:List Trm->Bool
 | []=>true
 | a::r=>nms24 a&&zfo r
end
theorem nms24s_iff:∀ {l:List Trm},zfo l=true↔∀ a∈l,nms24 a=true
 | []=>by simp [zfo]
 | a::r=>by simp [zfo,nms24s_iff (l:=r)]
theorem zzt (t:Trm):nms24 t=(decide (t.name.size<=24)&&zfo t.args):=by cases t;rfl
mutual
theorem zr8:∀ (t:Trm) (left n:Int),rWhT t left=some n->0<=n/\n<left
 | ⟨k,m,s,ls,l⟩,left,n,h=>by
   simp only [rWhT] at h
   split at h
   ·cases h
   ·have:=zmd l (left-1) n (by omega) h;omega
theorem zmd:∀ (l:List Trm) (left n:Int),0<=left->rWhTs l left=some n->0<=n/\n<=left
 | [],left,n,h0,h=>by simp only [rWhTs] at h;cases h;omega
 | a :: r,left,n,h0,h=>by
   simp only [rWhTs] at h
   split at h
   ·cases h
   ·rename_i m hm
    have h1:=zr8 a left m hm
    have h2:=zmd r m n (by omega) h
    omega
end
mutual
theorem wh_wf:∀ (t:Trm) (left n:Int),narT t=true->z5o t=true->rWhT t left=some n->wfT 1073741824 t=true/\(sizT t:Int)=left-n
 | ⟨k, m,s,ls,l⟩,left,n,h1,h2,h3=>by
   simp only [rWhT] at h3
   rw [zfn] at h2
   simp only [Bool.and_eq_true,decide_eq_true_eq] at h2
   have hn:=zpb h1
   split at h3
   ·cases h3
   ·rename_i hc
    have hc':=not_or.1 hc
    have hw:wholP ⟨k,m,s,ls,l⟩=true:=by simpa using hc'.2
    unfold wholP at hw
    simp only [Bool.and_eq_true,decide_eq_true_eq] at hw
    obtain ⟨w1,w2,w3,w4,w5⟩:=hw
    have ih:=zz0k l (left-1) n (fun a ha=>hn.2.2.2 a ha) (mayLvTs_iff.1 h2.2.2) h3
    refine ⟨z6e ⟨w1,?_,?_,w3,w4,?_,?_,by have:=h2.1;simp only;omega,hn.2.1,ih.1⟩,by simp only [sizT];have:=ih.2;omega⟩
    ·simp only
     by_cases hk:k=0
     ·exact (w2 hk).1
     ·have:=w3 hk;omega
    ·simp only
     by_cases hk:k=0
     ·exact (w2 hk).2
     ·have:=w3 hk;omega
    ·intro hk
     simp only at hk w5
     rw [if_pos hk] at w5
     simpa using w5
    ·intro hk hk2
     simp only at hk hk2 w5
     rw [if_neg hk] at w5
     rcases of_decide_eq_true w5 with h | h
     ·exact absurd h hk2
     ·exact h
theorem zz0k:∀ (l:List Trm) (left n:Int),(∀ a∈l,narT a=true)->(∀ a∈l,z5o a=true)->rWhTs l left=some n->(∀ a∈l,wfT 1073741824 a=true)/\(sizTs l:Int)=left-n
 | [],left,n,_,_,h=>by simp only [rWhTs] at h;cases h;exact ⟨fun _ h=>(by cases h),by simp [sizTs]⟩
 | a :: r,left,n,h1,h2,h3=>by
   simp only [rWhTs] at h3
   split at h3
   ·cases h3
   ·rename_i m hm
    have e1:=wh_wf a left m (h1 a (by simp)) (h2 a (by simp)) hm
    have e2:=zz0k r m n (fun b hb=>h1 b (by simp [hb])) (fun b hb=>h2 b (by simp [hb])) h3
    refine ⟨fun b hb=>?_,by simp only [sizTs];have:=e1.2;have:=e2.2;omega⟩
    rcases List.mem_cons.1 hb with rfl | hb
    ·exact e1.1
    ·exact e2.1 b hb
end
def mayTm (t:Trm):Bool:=(rWhT t 2000).isSome&&(decide (dpT t<=100)&&(z5o t&&nms24 t))
def z4m (d:Dcl):Bool:=decide (0<=d.params/\d.params<=4)&&(decide (0<=d.count/\d.count<=100)&&(mayTm d.type&&(mayTm d.value&&(decide (d.ctors.length<=20)&&d.ctors.all fun c=>mayTm c.ty))))
def zbw (l:List Dcl):Bool:=zc3 l 12&&l.all z4m
theorem zoc {t:Trm} {m:Int} (hn:narT t=true) (hm:z5o t=true) (h:(rWhT t m).isSome=true):wfT 1073741824 t=true/\(sizT t:Int)<=m:=by
 obtain ⟨n,hn2⟩:=Option.isSome_iff_exists.1 h
 have h1:=wh_wf t m n hn hm hn2
 have h2:=zr8 t m n hn2
 exact ⟨h1.1,by omega⟩
theorem zjj {t:Trm} (hn:narT t=true) (h:mayTm t=true):wfT 1073741824 t=true/\sizT t<=2000:=by
 simp only [mayTm,Bool.and_eq_true] at h
 have:=zoc hn h.2.2.1 h.1
 exact ⟨this.1,by omega⟩
theorem zxm {L l:List Dcl} {d:Dcl} (h:d∈rAddF L l):d∈L\/d∈l:=by
 unfold rAddF at h
 split at h
 ·exact List.mem_append.1 h
 ·exact .inl h
end Go.Ab
namespace Go.Ab.YtpneaijfkefeaaaGreat
open Go Go.RowKit Go.Ab Go.Proofs
theorem zha (t:Trm) (m:Int) (h0:0<=m) (h1:m<=1048576):PCon Tryz.prog 25 [tv t,.p (I m)] (.p (B (rWhT t m).isSome)):=by
 have hw:=z8h t m h0 h1
 cases hr:rWhT t m with
 | none=>rw [hr] at hw;exact cv [] [] [] Tryz.func25 14 Tryz.ntmps25 rfl rfl fun cx hE=>call0 hw ⟨rfl,rfl⟩
 | some n=>rw [hr] at hw;exact cv [] [] [] Tryz.func25 14 Tryz.ntmps25 rfl rfl fun cx hE=>call0 hw ⟨rfl,rfl⟩
theorem z4z (t:Trm):PCon Tryz.prog 26 [tv t] (.p (B (z5o t))):=by
 have ih:∀ a∈t.args,PCon Tryz.prog 26 [tv a] (.p (B (z5o a))):=fun a ha=>z4z a
 have hel:=zp t.levels
 have het:=zc t.args
 have he:=zfn t
 refine cv [] [] [] Tryz.func26 37 Tryz.ntmps26 rfl rfl fun cx hE=>fun _=>brS (fun h4=>⟨B_eq (by rw [he,decide_eq_false (by omega)];rfl),rfl⟩) (fun h4=>?_)
 have h4':decide (t.levels.length<=4)=true:=by simp;omega
 rw [h4',Bool.true_and] at he
 refine loopP t.levels (fun p=>[(3,.p (I p.length))]) (fun p=>[]) (fun p=>p.all (fun x=>mayLF x 4)=true) [3] [] hE rfl rfl rfl ⟨Sub.refl _,rfl,trivial⟩ rfl (fun hp=>fun _=>brOut (by simp) ?_) (fun p a q hq hp=>fun _=>brIn (by simp [hq]) (idxL hq (call0 (zae a 4 (by omega) (by omega)) (brB (fun hb=>⟨B_eq ?_,rfl⟩) (fun hb=>And.intro (by have:=zh hq;omega) ⟨?_,Sub.i (by simp),rfl,trivial⟩)))))
 ·rw [hp,Bool.true_and] at he
  refine loopP t.args (fun p=>[(4,.p (I p.length))]) (fun p=>[]) (fun p=>∀ x∈p,z5o x=true) [4] [] hE rfl rfl rfl ⟨Sub.refl _,rfl,trivial⟩ (by simp) (fun hp=>fun _=>brOut (by simp) ⟨B_eq (by rw [he,mayLvTs_iff.2 hp]),rfl⟩) (fun p a q hq hp=>fun _=>brIn (by simp [hq]) (idxT hq (call0 (ih a (zf hq)) (brB (fun hb=>⟨B_eq ?_,rfl⟩) (fun hb=>And.intro (by have:=zh hq;omega) ⟨?_,Sub.i (by simp),rfl,trivial⟩)))))
  ·rw [he]
   have hf:z5o a=false:=by simpa using hb
   cases hx:z6z t.args with
   | false=>rfl
   | true=>rw [mayLvTs_iff.1 hx a (zf hq)] at hf;cases hf
  ·intro x hx
   rcases List.mem_append.1 hx with hx | hx
   ·exact hp x hx
   ·simp at hx;subst hx;simpa using hb
 ·rw [he]
  have hf:mayLF a 4=false:=by simpa using hb
  have:(t.levels.all fun x=>mayLF x 4)=false:=by rw [hq];simp [hf]
  rw [this];rfl
 ·rw [List.all_append,hp];simpa using hb
termination_by SizeOf.sizeOf t
decreasing_by exact Trm.lt ha
theorem zr9 (t:Trm):PCon Tryz.prog 162 [tv t] (.p (B (nms24 t))):=by
 have ih:∀ a∈t.args,PCon Tryz.prog 162 [tv a] (.p (B (nms24 a))):=fun a ha=>zr9 a
 have het:=zc t.args
 have he:=zzt t
 refine cv [] [] [] Tryz.func162 22 Tryz.ntmps162 rfl rfl fun cx hE=>brS (fun h4=>⟨B_eq (by rw [he,decide_eq_false (by omega)];rfl),rfl⟩) (fun h4=>?_)
 have h4':decide (t.name.size<=24)=true:=by simp;omega
 rw [h4',Bool.true_and] at he
 refine loopP t.args (fun p=>[(3,.p (I p.length))]) (fun p=>[]) (fun p=>∀ x∈p,nms24 x=true) [3] [] hE rfl rfl rfl ⟨Sub.refl _,rfl,trivial⟩ (by simp) (fun hp=>fun _=>brOut (by simp) ⟨B_eq (by rw [he,nms24s_iff.2 hp]),rfl⟩) (fun p a q hq hp=>fun _=>brIn (by simp [hq]) (idxT hq (call0 (ih a (zf hq)) (brB (fun hb=>⟨B_eq ?_,rfl⟩) (fun hb=>And.intro (by have:=zh hq;omega) ⟨?_,Sub.i (by simp),rfl,trivial⟩)))))
 ·rw [he]
  have hf:nms24 a=false:=by simpa using hb
  cases hx:zfo t.args with
  | false=>rfl
  | true=>rw [nms24s_iff.1 hx a (zf hq)] at hf;cases hf
 ·intro x hx
  rcases List.mem_append.1 hx with hx | hx
  ·exact hp x hx
  ·simp at hx;subst hx;simpa using hb
termination_by SizeOf.sizeOf t
decreasing_by exact Trm.lt ha
theorem z7x (t:Trm):PCon Tryz.prog 117 [tv t] (.p (B (mayTm t))):=by
 have hw:=z8h t 2000 (by omega) (by omega)
 unfold mayTm
 cases hr:rWhT t 2000 with
 | none=>rw [hr] at hw;exact cv [] [] [] Tryz.func117 24 Tryz.ntmps117 rfl rfl fun cx hE=>call0 hw (brB (fun hh=>by cases hh) (fun _=>⟨rfl,rfl⟩))
 | some n =>
   rw [hr] at hw
   refine cv [] [] [] Tryz.func117 24 Tryz.ntmps117 rfl rfl fun cx hE=>call0 hw (brB (fun _=>call0 (zbf t 100 (by omega) (by omega)) (brS (fun hd=>?_) (fun hd=>?_))) (fun hh=>by cases hh))
   ·have hd':decide (dpT t<=100)=true:=by simp;omega
    refine call0 (z4z t) (brB (fun hm=>call0 (zr9 t) ⟨B_eq (by simp [hd',hm]),rfl⟩) (fun hm=>⟨B_eq (by simp [hd',hm]),rfl⟩))
   ·have hd':decide (dpT t<=100)=false:=by simp;omega
    exact ⟨B_eq (by simp [hd']),rfl⟩
set_option maxHeartbeats 4000000 in
theorem zod (l:List Dcl):PCon Tryz.prog 67 [.p (.sl 16 (encDs l))] (.p (B (l.all z4m))):=by
 have hel:=z7l l
 refine cv [] [5] [] Tryz.func67 67 Tryz.ntmps67 rfl rfl fun cx hE=>?_
 have bad:∀ {p q:List Dcl} {a:Dcl},l=p++a::q->z4m a=false->l.all z4m=false:=fun h ha=>by rw [h];simp [ha]
 refine loopP l (fun p=>[(3,.p (I p.length))]) (fun p=>[]) (fun p=>p.all z4m=true) [3] [] hE rfl rfl rfl ⟨Sub.refl _,trivial⟩ rfl (fun hp=>fun _=>brOut (by simp) ⟨B_eq hp.symm,rfl⟩) (fun p a q hq hp=>fun _=>brIn (by simp [hq]) (idxN (z1m (f:=rowD) hq) ?_))
 have hlt:=zh hq
 have hcl:=z7k a.ctors
 have c1:∀ {b:Bool},b=false->(!b)=true:=fun h=>by rw [h];rfl
 refine seq0 [(51,.p (B (!(decide (0<=a.params/\a.params<=4)&&(decide (0<=a.count/\a.count<=100)&&(mayTm a.type&&(mayTm a.value&&decide (a.ctors.length<=20))))))))] [] [51] [] [5] hE rfl rfl rfl ?_ ?_
 ·refine brS (fun h1=>⟨Sub.b (c1 (by rw [decide_eq_false (by omega)];rfl)).symm,rfl,trivial⟩) (fun h1=>brS (fun h2=>⟨Sub.b (c1 (by rw [decide_eq_false (by omega)];rfl)).symm,rfl,trivial⟩) (fun h2=>?_))
  have p1:decide (0<=a.params/\a.params<=4)=true:=decide_eq_true (by omega)
  rw [p1,Bool.true_and]
  refine brS (fun h1=>⟨Sub.b (c1 (by rw [decide_eq_false (by omega)];rfl)).symm,rfl,trivial⟩) (fun h1=>brS (fun h2=>⟨Sub.b (c1 (by rw [decide_eq_false (by omega)];rfl)).symm,rfl,trivial⟩) (fun h2=>?_))
  have p2:decide (0<=a.count/\a.count<=100)=true:=decide_eq_true (by omega)
  rw [p2,Bool.true_and]
  refine call0 (z7x a.type) (brB (fun h=>⟨Sub.b (c1 (by rw [show mayTm a.type=false by simpa using h];rfl)).symm,rfl,trivial⟩) (fun h=>?_))
  have p3:mayTm a.type=true:=by simpa using h
  rw [p3,Bool.true_and]
  refine call0 (z7x a.value) (brB (fun h=>⟨Sub.b (c1 (by rw [show mayTm a.value=false by simpa using h];rfl)).symm,rfl,trivial⟩) (fun h=>fun _=>?_))
  have p4:mayTm a.value=true:=by simpa using h
  rw [p4,Bool.true_and]
  exact ⟨Sub.b (by rw [Bool.eq_iff_iff];simp;omega),rfl,trivial⟩
 ·refine brB (fun h=>⟨B_eq ?_,rfl⟩) (fun h=>?_)
  ·refine (bad hq ?_).symm
   have h':(decide (0<=a.params/\a.params<=4)&&(decide (0<=a.count/\a.count<=100)&&(mayTm a.type&&(mayTm a.value&&decide (a.ctors.length<=20)))))=false:=by simpa only [Bool.not_eq_true'] using h
   cases hx:z4m a with
   | false=>rfl
   | true =>
     unfold z4m at hx
     simp only [Bool.and_eq_true] at hx
     obtain ⟨x1,x2,x3,x4,x5,x6⟩:=hx
     rw [x1,x2,x3,x4,x5] at h';cases h'
  ·have h':(decide (0<=a.params/\a.params<=4)&&(decide (0<=a.count/\a.count<=100)&&(mayTm a.type&&(mayTm a.value&&decide (a.ctors.length<=20)))))=true:=by simpa only [Bool.not_eq_false'] using h
   simp only [Bool.and_eq_true] at h'
   obtain ⟨x1,x2,x3,x4,x5⟩:=h'
   have hcc:z4m a=a.ctors.all fun c=>mayTm c.ty:=by unfold z4m;rw [x1,x2,x3,x4,x5];rfl
   refine loopP a.ctors (fun p=>[(5,.p (I p.length))]) (fun p=>[]) (fun p=>(p.all fun c=>mayTm c.ty)=true) [5] [] hE rfl rfl rfl ⟨Sub.refl _,rfl,trivial⟩ rfl (fun hcs=>fun _=>brOut (by simp) (And.intro (by omega) ⟨by rw [List.all_append,hp];simp [hcc,hcs],Sub.i (by simp),trivial⟩)) (fun p' c' q' hq' hcs=>fun _=>brIn (by simp [hq']) (idxN (z1m (f:=rowC) hq') (call0 (z7x c'.ty) (brB (fun h2=>⟨B_eq (bad hq (by rw [hcc,hq'];simp [show mayTm c'.ty=false by simpa using h2])).symm,rfl⟩) (fun h2=>And.intro (by have:=zh hq';omega) ⟨?_,Sub.i (by simp),rfl,trivial⟩)))))
   rw [List.all_append,hcs];simpa using h2
theorem zoe (l:List Dcl):PCon Tryz.prog 24 [.p (.sl 16 (encDs l))] (.p (B (zbw l))):=by
 unfold zbw
 refine cv [] [] [] Tryz.func24 9 Tryz.ntmps24 rfl rfl fun cx hE=>call0 (zui l 12) (brB (fun h=>call0 (zod l) ⟨B_eq (by rw [h];rfl),rfl⟩) (fun h=>⟨B_eq (by rw [h];rfl),rfl⟩))
theorem zxn {t:Trm} (h:wfT 1073741824 t=true) (hs:sizT t<=2000):okT t=true:=by
 simp only [okT,Bool.and_eq_true,decide_eq_true_eq];exact ⟨zk (by omega) t h,by omega⟩
structure AskD (d:Dcl):Prop where
 e:okE d=true
 s:Go.Ab.okD d=true
 n:narD d=true
 nm:d.name.size<=60
 k:0<=d.count
 v:Wd 1073741824 100000 d.value
 c:∀ k∈d.ctors,Wd 1073741824 100000 k.ty
theorem askD {d:Dcl} (hn:narD0 d=true) (hl:za4 d=true) (he:z4m d=true):AskD d:=by
 have hn2:=hn
 simp only [narD0,Bool.and_eq_true,List.all_eq_true] at hn
 simp only [z4m,Bool.and_eq_true,decide_eq_true_eq,List.all_eq_true] at he
 simp only [za4,Bool.and_eq_true,decide_eq_true_eq] at hl
 obtain ⟨e1,e2,e3,e4,e5,e6⟩:=he
 have a1:=zjj hn.1 e3
 have a2:=zjj hn.2.1 e4
 have a3:∀ c∈d.ctors,wfT 1073741824 c.ty=true/\sizT c.ty<=2000:=fun c hc=>zjj (hn.2.2 c hc) (e6 c hc)
 have okw:∀ {t:Trm},wfT 1073741824 t=true/\sizT t<=2000->okW t=true:=fun h=>zeq (by omega) h.1 (by have:=h.2;omega)
 have wd:∀ {t:Trm},wfT 1073741824 t=true/\sizT t<=2000->Wd 1073741824 100000 t:=fun {t} h=>⟨h.1,by have:=z9a t;have:=h.2;omega⟩
 refine ⟨?_,?_,zz2w hn2 (by omega),by omega,e2.1,wd a2,fun k hk=>wd (a3 k hk)⟩
 ·simp only [okE,Bool.and_eq_true,decide_eq_true_eq,List.all_eq_true]
  exact ⟨zxn a1.1 a1.2,zxn a2.1 a2.2,by omega,fun c hc=>⟨zxn (a3 c hc).1 (a3 c hc).2,Nat.zero_le _⟩,by omega,by omega,by omega,by omega,by omega⟩
 ·unfold Go.Ab.okD trmsD
  simp only [List.all_cons,Bool.and_eq_true,List.all_eq_true]
  refine ⟨okw a1,okw a2,fun t ht=>?_⟩
  obtain ⟨c,hc,rfl⟩:=List.mem_map.1 ht
  exact okw (a3 c hc)
theorem zfp:∀ {l acc:List Dcl} {d:Dcl},d∈bothF acc l->d∈acc\/d∈l
 | [],acc,d,h=>.inl h
 | a :: r,acc,d,h=>by
   simp only [bothF] at h
   rcases zfp h with h | h
   ·rcases zxm h with h | h
    ·exact .inl h
    ·simp at h;subst h;exact .inr (by simp)
   ·exact .inr (by simp [h])
theorem zme:∀ (l acc:List Dcl),(bothF acc l).length<=acc.length+l.length
 | [],acc=>by simp [bothF]
 | a::r,acc=>by
   simp only [bothF]
   have h1:=zme r (rAddF acc [a])
   have h2:=zfa acc [a]
   simp at h2 ⊢;omega
structure Ask (l:List Dcl):Prop where
 b:BothOK l
 g:∀ pl,EnP [] (bothF [] l) pl->EnvG (bothF [] l) pl
 r:EnvR (bothF [] l)
 w:EnvW 1073741824 (bothF [] l)
theorem zz4a {l:List Dcl} (hn:∀ d∈l,narD0 d=true) (h:zbw l=true):Ask l:=by
 simp only [zbw,zc3,Bool.and_eq_true,decide_eq_true_eq,List.all_eq_true] at h
 have ha:∀ d∈l,AskD d:=fun d hd=>askD (hn d hd) (h.1.2 d hd) (h.2 d hd)
 have hb:∀ d∈bothF [] l,AskD d:=fun d hd=>by
  rcases zfp hd with h | h
  ·cases h
  ·exact ha d h
 have hlen:=zme l []
 simp at hlen
 have hl:=h.1.1
 exact ⟨⟨fun d hd=>(ha d hd).n,fun d hd=>zz0d (ha d hd).e,fun d hd=>by have:=(ha d hd).nm;omega,by omega⟩,fun pl hp=>⟨hp,fun d hd=>(hb d hd).s,fun d hd=>(hb d hd).e⟩,⟨fun d hd=>(hb d hd).e,fun d hd _=>(hb d hd).k,by omega⟩,⟨fun d hd=>(hb d hd).v,fun d hd=>(hb d hd).c⟩⟩
def cgE:Trm:=trmOf (⟨#[92,78,97,116,46,32,40,115,117,99,99,32,35,48,41]⟩:ByteArray)
theorem cg_tx:(txtOK (⟨#[92,78,97,116,46,32,40,115,117,99,99,32,35,48,41]⟩:ByteArray)&&(txtOK (⟨#[115,117,99,99]⟩:ByteArray)&&txtOK (⟨#[122,101,114,111]⟩:ByteArray)))=true:=by kernel_rfl
def tmB (t:Trm):Bool:=gdT t&&(okW t&&ltB t)
structure TmB (t:Trm):Prop where
 g:Gd t
 o:okW t=true
 l:LOK t
theorem zof {t:Trm} (h:tmB t=true):TmB t:=by
 simp only [tmB,Bool.and_eq_true] at h;exact ⟨gdT_iff.1 h.1,h.2.1,zbk h.2.2⟩
theorem cg_gd:(tmB cgE&&(tmB cSucc&&tmB cZero))=true:=by kernel_rfl
theorem zra {o:Option CR} (h:o.isSome=true):o=some (o.getD (false,0,99)):=by cases o;cases h;rfl
def cgX:CR:=(cvF preL 100 60 cgE cSucc 20).getD (false,0,99)
def cgY:CR:=(cvF preL 100 60 cZero cSucc 20).getD (false,0,99)
theorem zz4b:cvF preL 100 60 cgE cSucc 20=some cgX:=zra (by kernel_rfl)
theorem zz4c:cvF preL 100 60 cZero cSucc 20=some cgY:=zra (by kernel_rfl)
theorem cg_ok:(cgX.1&&(decide (cgX.2.2=0)&&(!cgY.1&&decide (cgY.2.2=0))))=true:=by kernel_rfl
set_option maxHeartbeats 4000000 in
theorem z3w:PCon Tryz.prog 37 [] (.p (B true)):=by
 have h1:=cg_tx;have h2:=cg_gd;have h3:=cg_ok
 simp only [Bool.and_eq_true,decide_eq_true_eq,Bool.not_eq_true'] at h1 h2 h3
 obtain ⟨k1,k2,k3,k4⟩:=h3
 have hx:=zz4b
 have hy:=zz4c
 have t1:=zof h2.1;have t2:=zof h2.2.1;have t3:=zof h2.2.2
 generalize cgX=X at *
 generalize cgY=Y at *
 obtain ⟨i1,f1,e1⟩:=X
 obtain ⟨i2,f2,e2⟩:=Y
 simp only at k1 k2 k3 k4
 subst k1 k2 k3 k4
 refine cv [] [] [] Tryz.func37 44 Tryz.ntmps37 rfl rfl fun cx hE=>callX [] zan rfl rfl .nil fun r o ⟨e1,pv,pl,ov,hE1,e2⟩=>?_
 subst e1 e2
 have hG:=preG hE1
 refine call0 (zz _ h1.1) (call0 (zz _ h1.2.1) (callX [1004,1005,1006,1007] (z2n preL pv ov pl hG z4l cgE cSucc t1.o t2.o t1.g t2.g t1.l t2.l 20 100 ⟨by omega,by omega,by omega,by omega⟩ 60 _ hx) rfl rfl (za _) fun r o ⟨e1,e2⟩=>?_))
 subst e1 e2
 refine call0 (zz _ h1.2.2) (call0 (zz _ h1.2.1) (callX [1004,1005,1006,1007] (z2n preL pv ov pl hG z4l cZero cSucc t3.o t2.o t3.g t2.g t3.l t2.l 20 100 ⟨by omega,by omega,by omega,by omega⟩ 60 _ hy) rfl rfl (za _) fun r o ⟨e1,e2⟩=>?_))
 subst e1 e2
 exact brY rfl (brY rfl (brT ⟨rfl,rfl⟩))
set_option maxHeartbeats 8000000 in
theorem zmf (l:List Dcl) (hB:BothOK l) (hG:∀ pl,EnP [] (bothF [] l) pl->EnvG (bothF [] l) pl) (hR:EnvR (bothF [] l)) (hL:EnvA pL (bothF [] l)) (t u:Trm) (ot:okW t=true) (ou:okW u=true) (gt:Gd t) (gu:Gd u) (lt:LOK t) (lu:LOK u) (f c:Int) (hm:Mt f c) (g:Nat) (x:CR) (hx:cvF (bothF [] l) c g t u f=some x) :
  PCon Tryz.prog 38 [.p (.sl 16 (encDs l)),tv t,tv u,mv f c] (.p (B true)):=by
 have hb:=zlr l hB
 have rh:RCvC (bothF [] l) 0 c t u f x:=zma (bothF [] l) 0 hR hL c g t u f x gt gu lt lu hm hx
 refine cv [] [] [] Tryz.func38 62 Tryz.ntmps38 rfl rfl fun cx hE=>?_
 refine callX [] hb rfl rfl (za _) fun r o ⟨e1,pv,pl,ov,hE1,e2⟩=>?_
 subst e1 e2
 have hG1:=hG pl hE1
 have px:=z2n (bothF [] l) pv ov pl hG1 hL t u ot ou gt gu lt lu f c hm g x hx
 generalize bothF [] l=L at *
 obtain ⟨i,f2,e2⟩:=x
 refine callX [1004,1005,1006,1007] px rfl rfl (za _) fun r o ⟨q1,q2⟩=>?_
 subst q1 q2
 refine callX [1000,1001] rh rfl rfl (za _) fun r o ⟨q1,q2⟩=>?_
 subst q1 q2
 exact brt (by simp) (brY rfl (brY rfl (call0 (z3m t u lt.lv lu.lv) (call0 (z8n t u lt.lv lu.lv) ⟨B_eq (by simp),rfl⟩))))
theorem AnT.cv {t u:Trm} (h:AnT t) (k:AnT u) {f c:Int} (hf:f<=60000) (hc:c<=100000):∃ g x,cvF preL c g t u f=some x:=by
 have hb:(1073741824:Int)<=bdV 1099511627776 100000 f:=by unfold bdV;omega
 obtain ⟨g,x,h1,_⟩:=zw3 (B:=1073741824) (c:=c) (by omega) zqz f.toNat f (Nat.le_refl _) (by omega) 1099511627776 100000 t u (by omega) (by omega) (by omega) (by omega) hb ⟨zk (by omega) t h.w,by have:=h.d;omega⟩ ⟨zk (by omega) u k.w,by have:=k.d;omega⟩
 exact ⟨g,x,h1⟩
theorem zhb {t u:Trm} (h:AnT t) (k:AnT u) (lt:LOK t) (lu:LOK u) (f c:Int) (hf:0<=f/\f<=2000) (hc:0<=c/\c<=100000):PCon Tryz.prog 38 [.p (.sl 16 (encDs preL)),tv t,tv u,mv f c] (.p (B true)):=by
 obtain ⟨g,x,h1⟩:=h.cv k (f:=f) (c:=c) (by omega) (by omega)
 have e:=zlt
 exact zmf preL (zqr zjb (by rw [zjc];omega)) (by rw [e];exact fun pl hp=>preG hp) (by rw [e];exact preR) (by rw [e];exact z4l) t u h.ok k.ok h.gd k.gd lt lu f c ⟨by omega,by omega,by omega,by omega⟩ g x (by rw [e];exact h1)
theorem zxo:∀ (q:List Trm) (h:Trm) (acc:List Trm),spnT (appT h q) acc=spnT h (q++acc)
 | [],h,acc=>rfl
 | a::r,h,acc=>by
   simp only [appT]
   rw [zxo r (mkA h a) acc,zim (u:=mkA h a) rfl rfl];rfl
theorem zas {h:Trm} (hk:¬ h.kind=3) (q:List Trm):headT (appT h q)=h/\argsT (appT h q)=q:=by
 unfold headT argsT
 rw [zxo,zin hk]
 exact ⟨rfl,List.append_nil q⟩
theorem z6l (l:List Int):Con Tryz.prog 21 [.p (.sl 1 (byts l))] [] (fun r o=>r=.ptr 905 0/\o=[(905,.ce 96 [.p (.sl 1 (byts l)),.p (I 0)])]) :=
 (zcy l).at1 5 905 rfl rfl rfl rfl
def natP (l:List Int) (v:Int):Trm:=(natF l (2 * l.length+1) v 0).1
structure NatP (l:List Int) (t:Trm):Prop where
 w:wfT 1000000 t=true
 d:dpT t<=12 * l.length+20
 s:sizT t<=25 * l.length+1
theorem zxp (l:List Int) (hl:l.length<=1000) (v:Int) (h0:0<=v) (h1:v<=1000):NatP l (natP l v):=by
 have m:=(zbt l (2 * l.length+1)).1 v 0 h0 (by omega) (by omega) (by omega)
 exact ⟨m.w,by have:=m.d;unfold natP;omega,by have:=m.s;have:=m.a1;unfold natP;omega⟩
theorem zjk (l:List Int) (hb:okB l) (hl:l.length<=1000) (v:Int) (h0:0<=v) (h1:v<=1000):Con Tryz.prog 31 [.ptr 1000 0,.p (I v)] (pkO l 0) (fun r o=>r=tv (natP l v)/\o=pkO l (natF l (2 * l.length+1) v 0).2) :=
 (zbu l hb (by omega) (2 * l.length+1)).1 v 0 h0 (by omega) (by omega) (by omega) (by omega)
theorem zfq (l:List Int):Con Tryz.prog 21 [.p (.sl 1 (byts l))] [] (fun r o=>r=.ptr 907 0/\o=[(907,.ce 96 [.p (.sl 1 (byts l)),.p (I 0)])]) :=
 (zcy l).at1 5 907 rfl rfl rfl rfl
theorem natA (l:List Int) (hl:l.length<=150) {a:Int} (h0:0<=a) (h1:a<=l.length):AnT (natF l (2 * l.length+1) 0 a).1/\a<=(natF l (2 * l.length+1) 0 a).2/\(natF l (2 * l.length+1) 0 a).2<=l.length:=by
 have m:=(zbt l (2 * l.length+1)).1 0 a (by omega) (by omega) h0 h1
 have:=m.a0;have:=m.a1;have:=m.d;have:=m.s
 exact ⟨⟨zk (by omega) _ m.w,by omega,by omega⟩,m.a0,m.a1⟩
set_option maxHeartbeats 16000000 in
theorem zmg (la lb:List Int) (al:Bool) (f c:Int) (ha:okB la) (hb:okB lb) (hla:(la.length:Int)<=9223372036854775807) (hlb:(lb.length:Int)<=9223372036854775807) (hf:0<=f/\f<=65535) (hc:0<=c/\c<=65535):PCon Tryz.prog 8 [.p (.sl 1 (byts la)),.p (.sl 1 (byts lb)),.p (B al),.p (U16 f),.p (U16 c)] (.p (B true)):=by
 have hba:=z3c la
 have hbb:=z3c lb
 refine cv [] [] [] Tryz.func8 48 Tryz.ntmps8 rfl rfl fun cx hE=>call0 z3w (brB (fun h=>by cases h) (fun _=>fun _=>brS (fun h40=>⟨rfl,rfl⟩) (fun h40=>fun _=>brS (fun h41=>⟨rfl,rfl⟩) (fun h41=>?_))))
 have h1:la.length<=150:=by omega
 have h2:lb.length<=150:=by omega
 have hA:=zfl la h1
 have hB:=zfl lb h2
 have lA:=zmb la h1
 have lB:=zmb lb h2
 have cA:=(zfk la ha h1).at1 1000 5 rfl rfl rfl rfl
 have cB:=(zfk lb hb h2).at1 1000 905 rfl rfl rfl rfl
 obtain ⟨n1,p1,p2⟩:=natA la h1 (a:=0) (by omega) (by omega)
 have lN1:=zmc la (2 * la.length+1) 0 0
 have c1:NatC la 0 0 _:=(zbu la ha (by omega) (2 * la.length+1)).1 0 0 (by omega) (by omega) (by omega) (by omega) (by omega)
 generalize hn1:natF la (2 * la.length+1) 0 0=N1 at *
 obtain ⟨n2,_⟩:=natA la h1 (a:=N1.2) p1 p2
 have lN2:=zmc la (2 * la.length+1) 0 N1.2
 have c2:NatC la 0 N1.2 _:=(zbu la ha (by omega) (2 * la.length+1)).1 0 N1.2 (by omega) (by omega) p1 p2 (by omega)
 generalize natF la (2 * la.length+1) 0 N1.2=N2 at *
 have d1:=Con.at1 c1 1000 907 rfl rfl rfl rfl
 have d2:=Con.at1 c2 1000 907 rfl rfl rfl rfl
 generalize (anyF la 0).1=x at *
 generalize (anyF la 0).2=x2 at *
 generalize (anyF lb 0).1=y at *
 generalize (anyF lb 0).2=y2 at *
 refine call1 [] (zcy la) rfl rfl (za _) (call1 [5] cA rfl rfl (za _) (call1 [] (z6l lb) rfl rfl (za _) (call1 [905] cB rfl rfl (za _) ?_)))
 have hE:=zxh prelL zqs (by simp [prelL,famsL,moreL])
 refine brB (fun _=>?_) (fun _=>?_)
 ·refine call1 [] (zfq la) rfl rfl (za _) (call1 [907] d1 rfl rfl (za _) (call1 [907] d2 rfl rfl (za _) ?_))
  exact call0 z7t (callN 2000 _ hE (za _) rfl (call0 (zbv f c hf hc) (call0 (zhb n1 n2 lN1 lN2 (f % 400) (c % 1500) (by omega) (by omega)) ⟨rfl,rfl⟩)))
 ·exact call0 z7t (callN 2000 _ hE (za _) rfl (call0 (zbv f c hf hc) (call0 (zhb hA hB lA lB (f % 400) (c % 1500) (by omega) (by omega)) ⟨rfl,rfl⟩)))
mutual
theorem zz0l:∀ t:Trm,z5o t=true->allN pG t=true
 | ⟨k,n,s,ls,l⟩,h=>by
   rw [zfn] at h
   simp only [Bool.and_eq_true,List.all_eq_true] at h
   simp only [allN,Bool.and_eq_true,pG,List.all_eq_true]
   refine ⟨fun x hx=>?_,zxq l h.2.2⟩
   have:=h.2.1 x hx
   unfold mayLF at this
   simp only [Bool.and_eq_true,decide_eq_true_eq] at this
   have w:=(zj3 x 1).1 this.2
   simp only [lG,medL,Bool.and_eq_true,decide_eq_true_eq]
   exact ⟨w.1,by omega,by omega⟩
theorem zxq:∀ l:List Trm,z6z l=true->allNs pG l=true
 | [],_=>rfl
 | a::r,h=>by
   simp only [z6z,allNs,Bool.and_eq_true] at h ⊢
   exact ⟨zz0l a h.1,zxq r h.2⟩
end
theorem zbx {t:Trm} (h:z5o t=true):LOK t:=by
 have h1:=zz0l t h
 exact ⟨zcw (q:=pG) (fun k s ls h _=>by
  simp only [pL,pG,List.all_eq_true] at *
  exact fun x hx=>(zh0 (h x hx)).w) t h1 h1,zcw (q:=pG) (fun k s ls h _=>by
  simp only [pS,pG,List.all_eq_true] at *
  exact fun x hx=>by have:=zh0 (h x hx);simp only [medL,Bool.and_eq_true,decide_eq_true_eq];exact ⟨this.p,this.d⟩) t h1 h1⟩
theorem zz2x {l:List Dcl} (h:zbw l=true):EnvA pL (bothF [] l):=by
 simp only [zbw,zc3,Bool.and_eq_true,decide_eq_true_eq,List.all_eq_true] at h
 have ha:∀ d∈l,allN pL d.value=true/\∀ k∈d.ctors,allN pL k.ty=true:=fun d hd=>by
  have he:=h.2 d hd
  simp only [z4m,mayTm,Bool.and_eq_true,List.all_eq_true] at he
  exact ⟨(zbx he.2.2.2.1.2.2.1).w,fun k hk=>(zbx (he.2.2.2.2.2 k hk).2.2.1).w⟩
 have hm:∀ d∈bothF [] l,d∈l:=fun d hd=>by
  rcases zfp hd with h | h
  ·cases h
  ·exact h
 exact ⟨fun d hd=>(ha d (hm d hd)).1,fun d hd=>(ha d (hm d hd)).2⟩
set_option maxHeartbeats 8000000 in
theorem zog (l:List Dcl) (t u:Trm) (f:Int) (hn:∀ d∈l,narD0 d=true) (ht:narT t=true) (hu:narT u=true) (hf:0<=f/\f<=65535):PCon Tryz.prog 9 [.p (.sl 16 (encDs l)),tv t,tv u,.p (U16 f)] (.p (B true)):=by
 refine cv [] [] [] Tryz.func9 42 Tryz.ntmps9 rfl rfl fun cx hE=>call0 z3w (brB (fun h=>by cases h) (fun _=>?_))
 refine call0 (zoe l) (brB (fun _=>⟨rfl,rfl⟩) (fun h1=>call0 (zha t 200 (by omega) (by omega)) (brB (fun _=>⟨rfl,rfl⟩) (fun h2=>call0 (zha u 200 (by omega) (by omega)) (brB (fun _=>⟨rfl,rfl⟩) (fun h3=>call0 (z4z t) (brB (fun _=>⟨rfl,rfl⟩) (fun h4=>call0 (z4z u) (brB (fun _=>⟨rfl,rfl⟩) (fun h5=>?_))))))))))
 have h4':z5o t=true:=by simpa using h4
 have h5':z5o u=true:=by simpa using h5
 have ha:=zz4a hn (by simpa using h1)
 have hw:=zoc ht h4' (by simpa using h2)
 have hv:=zoc hu h5' (by simpa using h3)
 have hs:sizT t<=300:=by omega
 have hs2:sizT u<=300:=by omega
 have hd:=z9a t
 have hd2:=z9a u
 have ot:okW t=true:=zeq (by omega) hw.1 (by omega)
 have ou:okW u=true:=zeq (by omega) hv.1 (by omega)
 have gt:Gd t:=⟨zk (by omega) t hw.1,by omega⟩
 have gu:Gd u:=⟨zk (by omega) u hv.1,by omega⟩
 refine And.intro (by omega) (And.intro (by omega) (And.intro (by omega) ?_))
 have hF1:0<=f % 60/\f % 60<60:=by omega
 have hb:(1073741824:Int)<=bdV 1099511627776 100000 (f % 60):=by unfold bdV;omega
 obtain ⟨g,x,w1,_⟩:=zw3 (B:=1073741824) (c:=500) (by omega) ha.w (f % 60).toNat (f % 60) (Nat.le_refl _) (by omega) 1099511627776 100000 t u (by omega) (by omega) (by omega) (by omega) hb ⟨zk hb t hw.1,by omega⟩ ⟨zk hb u hv.1,by omega⟩
 exact call0 (zmf l ha.b ha.g ha.r (zz2x (by simpa using h1)) t u ot ou gt gu (zbx h4') (zbx h5') (f % 60) 500 ⟨by omega,by omega,by omega,by omega⟩ g x w1) ⟨rfl,rfl⟩
def Ev (t u:Trm):Prop:=∃ (c:Int) (g:Nat) (f f':Int),whF preL c g t f=some (u,f',0)
theorem Ev.one {t u v:Trm} (h:Ev t u) (k:Ev t v):u=v:=by
 obtain ⟨c1,g1,f1,e1,h1⟩:=h
 obtain ⟨c2,g2,f2,e2,h2⟩:=k
 have k1:=z8l (c':=max c1 c2) (by omega) (a:=max f1 f2-f1) (by omega) g1 t f1 u e1 h1
 have k2:=z8l (c':=max c1 c2) (by omega) (a:=max f1 f2-f2) (by omega) g2 t f2 v e2 h2
 rw [show f1+(max f1 f2-f1)=max f1 f2 by omega] at k1
 rw [show f2+(max f1 f2-f2)=max f1 f2 by omega] at k2
 exact congrArg Prod.fst (zz2c k1 k2)
def Stk (t:Trm):Prop:=∀ c wh f,onF preL c wh t f=some (t,false,f,0)
theorem Ev.stk {t u:Trm} (hs:Stk t) (h:Ev t u):u=t:=by
 obtain ⟨c,g,f,f',h⟩:=h
 cases g with
 | zero=>cases h
 | succ g =>
   simp only [whF] at h
   rw [hs c (whF preL c g) f] at h
   simp at h
   exact h.1.symm
theorem zfr {o:Option Dcl} (h:o.isSome=true):o=some (o.getD default):=by cases o;cases h;rfl
end Go.Ab.YtpneaijfkefeaaaGreat
namespace Go.Ab
open Go Go.RowKit
mutual
def cloT:Trm->Int->Bool
 | ⟨k,n,_,_,l⟩,d=>if k=0 then decide (n<d) else cloTs k l 0 d
def cloTs (k:Int):List Trm->Int->Int->Bool
 | [],_,_=>true
 | a::r,j,d=>cloT a (d+bndF k j)&&cloTs k r (j+1) d
end
structure EnvN (ds:List Dcl):Prop where
 v:∀ d∈ds,d.kind=2->cloT d.value 0=true
 c:∀ d∈ds,∀ k∈d.ctors,cloT k.ty 0=true
theorem zz0m {ds:List Dcl} {c:Int}:∀ (g:Nat) (t:Trm) (f:Int) (u:Trm) (f':Int),Gd t->whF ds c g t f=some (u,f',0)->∃ k f0,f0<=max f 0/\onF ds c (whF ds c k) u f0=some (u,false,f',0)
 | 0,_,_,_,_,_,h=>by cases h
 | g + 1,t,f,u,f',hg,h=>by
   simp only [whF] at h
   split at h
   ·cases h
   ·rename_i u1 did f1 e ho
    have hk:=zai (fun t f u f' e=>z1u g t f u f' e) hg ho
    split at h
    ·rename_i hne;cases h;exact absurd rfl hne
    ·rename_i hne
     have he0:e=0:=Classical.byContradiction fun hn=>hne hn
     subst he0
     split at h
     ·obtain ⟨k,f0,h1,h2⟩:=zz0m g u1 f1 u f' hk.1 h
      have:=hk.2
      unfold Fu at this
      exact ⟨k,f0,by omega,h2⟩
     ·rename_i hd
      cases h
      have hdf:did=false:=by cases did;rfl;exact absurd rfl hd
      subst hdf
      have:=zco ho
      subst this
      exact ⟨g,f,by omega,ho⟩
end Go.Ab
namespace Go.Ab.YtpneaijfkefeaaaGreat
open Go Go.RowKit Go.Ab Go.Proofs
set_option maxHeartbeats 16000000 in
theorem zmh (la lb:List Int) (f c m:Int) (ha:okB la) (hb:okB lb) (hla:(la.length:Int)<=9223372036854775807) (hlb:(lb.length:Int)<=9223372036854775807) (hf:0<=f/\f<=65535) (hc:0<=c/\c<=65535) (hm:0<=m/\m<=65535):PCon Tryz.prog 12 [.p (.sl 1 (byts la)),.p (.sl 1 (byts lb)),.p (U16 f),.p (U16 c),.p (U16 m)] (.p (B true)):=by
 have hba:=z3c la
 have hbb:=z3c lb
 refine cv [] [] [] Tryz.func12 121 Tryz.ntmps12 rfl rfl fun cx hE=>call0 z3w (brB (fun h=>by cases h) (fun _=>fun _=>brS (fun h40=>⟨rfl,rfl⟩) (fun h40=>fun _=>brS (fun h41=>⟨rfl,rfl⟩) (fun h41=>?_))))
 have h1:la.length<=150:=by omega
 have h2:lb.length<=150:=by omega
 have hA:=zfl la h1
 have hB:=zfl lb h2
 have lA:=zmb la h1
 have lB:=zmb lb h2
 have cA:=(zfk la ha h1).at1 1000 5 rfl rfl rfl rfl
 have cB:=(zfk lb hb h2).at1 1000 905 rfl rfl rfl rfl
 refine callX [] zan rfl rfl .nil fun r o ⟨e1,pv,pl,ov,hE1,e2⟩=>?_
 subst e1 e2
 have hG:=preG hE1
 obtain ⟨g1,x1,w1⟩:=hA.cv hB (f:=f % 400) (c:=c % 1500) (by omega) (by omega)
 obtain ⟨g2,x2,w2⟩:=hA.cv hB (f:=f % 400+m % 1000) (c:=c % 1500+m) (by omega) (by omega)
 have hk1:=z6i g1 _ _ _ x1 hA.gd hB.gd w1
 have hx1:=z2n preL pv ov pl hG z4l _ _ hA.ok hB.ok hA.gd hB.gd lA lB (f % 400) (c % 1500) ⟨by omega,by omega,by omega,by omega⟩ g1 x1 w1
 have hx2:=z2n preL pv ov pl hG z4l _ _ hA.ok hB.ok hA.gd hB.gd lA lB (f % 400+m % 1000) (c % 1500+m) ⟨by omega,by omega,by omega,by omega⟩ g2 x2 w2
 have key:x1.2.2=0->x2=(x1.1,x1.2.1+m % 1000,0):=fun he=>by
  have h:=w1
  rw [show x1=(x1.1,x1.2.1,0) by rw [<- he]] at h
  exact zw1 w2 (zcq (c':=c % 1500+m) (by omega) (d:=m % 1000) (by omega) g1 _ _ _ _ _ h)
 generalize (anyF la 0).1=x at *
 generalize (anyF la 0).2=xa at *
 generalize (anyF lb 0).1=y at *
 generalize (anyF lb 0).2=ya at *
 obtain ⟨i1,f1,e1⟩:=x1
 obtain ⟨i2,f2,e2⟩:=x2
 obtain ⟨hF,hce⟩:=hk1
 simp only at key hF hce
 unfold Fu at hF
 refine call1 [] (zcy la) rfl rfl (za _) (call1 [5] cA rfl rfl (za _) (call1 [] (z6l lb) rfl rfl (za _) (call1 [905] cB rfl rfl (za _) ?_)))
 refine call0 (zbv f c hf hc) (And.intro (by omega) (And.intro (by omega) (And.intro (by omega) ?_)))
 refine callX [1004,1005,1006,1007] hx1 rfl rfl (za _) fun r o ⟨q1,q2⟩=>?_
 subst q1 q2
 refine And.intro (by omega) (And.intro (by omega) (And.intro (by omega) ?_))
 refine callX [1004,1005,1006,1007] hx2 rfl rfl (za _) fun r o ⟨q1,q2⟩=>?_
 subst q1 q2
 refine brZ (by simp only;omega) (brZ (by simp only;omega) (brZ (by simp) ?_))
 by_cases he:e1=0
 ·have hx:=key he
  simp only [Prod.mk.injEq] at hx
  obtain ⟨rfl,rfl,rfl⟩:=hx
  subst he
  refine brZ (by simp) (brY rfl (brY rfl (brt (by simp) (And.intro (by simp only;omega) ⟨B_eq ?_,rfl⟩))))
  simp
 ·rcases hce with h | ⟨_,h⟩
  ·exact absurd h he
  ·subst h
   exact brY he (brT ⟨rfl,rfl⟩)
theorem zz2y:EnvW 1000000 preL:=by
 have h:(preL.all fun d=>(wfT 1000000 d.value&&Nat.ble (dpT d.value) 100000)&&d.ctors.all fun k=>wfT 1000000 k.ty&&Nat.ble (dpT k.ty) 100000)=true:=by kernel_rfl
 simp only [List.all_eq_true,Bool.and_eq_true] at h
 exact ⟨fun d hd=>⟨(h d hd).1.1,Nat.le_of_ble_eq_true (h d hd).1.2⟩,fun d hd k hk=>⟨((h d hd).2 k hk).1,Nat.le_of_ble_eq_true ((h d hd).2 k hk).2⟩⟩
theorem zz2z {t u:Trm} (ht:Gd t) (h:Ev t u) {c:Int} {g:Nat} {f:Int} {is:Bool} {f':Int} (hx:cvF preL c g t u f=some (is,f',0)):is=true:=by
 have huu:Ev u u:=by
  obtain ⟨c1,g1,f1,f1',h1⟩:=h
  obtain ⟨k,f0,_,h2⟩:=zz0m g1 t f1 u f1' ht h1
  exact ⟨c1,k+1,f0,f1',by simp only [whF];rw [h2];simp⟩
 cases g with
 | zero=>cases hx
 | succ g =>
   simp only [cvF] at hx
   split at hx
   ·simp at hx
   split at hx
   ·cases hx;rfl
   cases hw:whF preL c g t (f-1) with
   | none=>rw [hw] at hx;cases hx
   | some y =>
     obtain ⟨w,f1,e⟩:=y
     rw [hw] at hx
     simp only at hx
     split at hx
     ·rename_i he;simp only [Option.some.injEq,Prod.mk.injEq] at hx;exact absurd hx.2.2 he
     rename_i he
     have he0:e=0:=Classical.byContradiction fun h=>he h
     subst he0
     cases hv:whF preL c g u f1 with
     | none=>rw [hv] at hx;cases hx
     | some z =>
       obtain ⟨v,f2,e2⟩:=z
       rw [hv] at hx
       simp only at hx
       split at hx
       ·rename_i he2;simp only [Option.some.injEq,Prod.mk.injEq] at hx;exact absurd hx.2.2 he2
       rename_i he2
       have he20:e2=0:=Classical.byContradiction fun h=>he2 h
       subst he20
       have e1:w=u:=Ev.one ⟨c,g,f-1,f1,hw⟩ h
       have e2:v=u:=Ev.one ⟨c,g,f1,f2,hv⟩ huu
       subst e1 e2
       unfold hdF at hx
       rw [if_pos (z3a _)] at hx
       cases hx;rfl
set_option maxHeartbeats 16000000 in
theorem zmi (l:List Int) (hl:okB l) (hlen:(l.length:Int)<=9223372036854775807):PCon Tryz.prog 10 [.p (.sl 1 (byts l))] (.p (B true)):=by
 have hbl:=z3c l
 refine cv [] [] [] Tryz.func10 74 Tryz.ntmps10 rfl rfl fun cx hE=>call0 z3w (brB (fun h=>by cases h) (fun _=>fun _=>brS (fun h40=>⟨rfl,rfl⟩) (fun h40=>?_)))
 have h1:l.length<=150:=by omega
 refine callX [] zan rfl rfl .nil fun r o ⟨e1,pv,pl,ov,hE1,e2⟩=>?_
 subst e1 e2
 have hG:=preG hE1
 have hA:AnT (natP l 0):=(natA l h1 (a:=0) (by omega) (by omega)).1
 have lA:LOK (natP l 0):=zmc l (2 * l.length+1) 0 0
 have ct:=(zjk l hl (by omega) 0 (by omega) (by omega)).at1 1000 905 rfl rfl rfl rfl
 generalize (natF l (2 * l.length+1) 0 0).2=a2 at ct
 generalize natP l 0=t at *
 have hself:cvF preL 1 1 t t 1=some (true,0,0):=by simp only [cvF];rw [if_neg (by decide),if_pos (z3a t)];rfl
 have px:=z2n preL pv ov pl hG z4l t t hA.ok hA.ok hA.gd hA.gd lA lA 1 1 ⟨by omega,by omega,by omega,by omega⟩ 1 _ hself
 refine call1 [] (z6l l) rfl rfl (za _) (call1 [905] ct rfl rfl (za _) ?_)
 refine callX [1004,1005,1006,1007] px rfl rfl (za _) fun r o ⟨q1,q2⟩=>?_
 subst q1 q2
 refine brF (brZ (by simp) (brZ (by simp) ?_))
 have hbb:(1000002:Int)<=bdV 1073741824 100000 2000:=by unfold bdV;omega
 obtain ⟨g,⟨u,f',e⟩,hw,hwd,_⟩:=zle (T:=1073741824) (B:=1000000) (M:=100000) (c:=20000) (by omega) (by omega) (by omega) (by omega) (by omega) zz2y 2000 2000 (by omega) (dpT t) t (Nat.le_refl _) (by omega) ⟨zk hbb _ hA.w,by have:=hA.d;omega⟩
 simp only at hwd
 have rw':RWhC preL 0 20000 t 2000 _:=zfg preL 0 preR 20000 g t 2000 _ hA.gd ⟨by omega,by omega,by omega,by omega⟩ hw
 refine callX [1000,1001] rw' rfl rfl (za _) fun r o ⟨q1,q2⟩=>?_
 subst q1 q2
 refine brS (fun he=>⟨rfl,rfl⟩) (fun he=>?_)
 have he0:e=0:=Classical.byContradiction fun h=>he h
 subst he0
 have hu:=hwd rfl
 have gu:Gd u:=(z1u g t 2000 u f' 0 hA.gd hw).1
 have lu:LOK u:=lA.wh z4l hw
 have hsz:=zvy g t 2000 _ hw rfl
 simp only at hsz
 have hub:=zvw 1073741824 100000 f'
 have ou:okW u=true:=zeq hub hu.w (by have:=hA.s;omega)
 have hb2:(1073741824:Int)<=bdV 1099511627776 100000 20000:=by unfold bdV;omega
 obtain ⟨g2,⟨is,f2,e2⟩,hx,_⟩:=zw3 (B:=1073741824) (c:=40000) (by omega) zqz 20000 20000 (by omega) (by omega) 1099511627776 100000 t u (by omega) (by omega) (by omega) (by omega) hb2 ⟨zk (by omega) _ hA.w,by have:=hA.d;omega⟩ (hu.mono (by omega) (Nat.le_refl _))
 have hk:=(z6i g2 t u 20000 _ hA.gd gu hx).2
 have py:=z2n preL pv ov pl hG z4l t u hA.ok ou hA.gd gu lA lu 20000 40000 ⟨by omega,by omega,by omega,by omega⟩ g2 _ hx
 have key:e2=0->is=true:=fun h0=>by subst h0;exact zz2z hA.gd ⟨_,g,2000,f',hw⟩ hx
 simp only at hk
 refine callX [1004,1005,1006,1007] py rfl rfl (za _) fun r o ⟨q1,q2⟩=>?_
 subst q1 q2
 rcases hk with h | ⟨h,hi⟩
 ·have hi:=key h
  subst h hi
  exact brT ⟨rfl,rfl⟩
 ·subst hi
  unfold errE at h
  rcases h with h | h
  ·subst h
   exact brF (brY rfl ⟨rfl,rfl⟩)
  ·subst h
   exact brF (brZ (by simp) ⟨rfl,rfl⟩)
def srT (l:Lvl):Trm:=⟨1,0,⟨#[]⟩,[l],[]⟩
def eqC (l:Lvl):Trm:=⟨2,0,(⟨#[69,113]⟩:ByteArray),[l],[]⟩
theorem zz0n (l k:Lvl):alkT (srT l) (srT k)=rSamF l k:=by simp [srT,alkT,samLs,alkTs]
theorem eq_alk (l k:Lvl):alkT (mkA (eqC l) cNat) (mkA (eqC k) cNat)=rSamF l k:=by simp [eqC,mkA,alkT,samLs,alkTs,z3a]
theorem zz30 (l k:Lvl):alkT (eqC l) (eqC k)=rSamF l k:=by simp [eqC,alkT,samLs,alkTs]
theorem zhc {t:Trm} (h:Stk t) (c:Int) (g:Nat) (f:Int):whF preL c (g+1) t f=some (t,f,0):=by simp only [whF];rw [h];simp
theorem zz0o (l:Lvl):Stk (srT l):=fun c wh f=>rfl
theorem eq_stk (l:Lvl):Stk (mkA (eqC l) cNat):=fun c wh f=>by
 obtain ⟨e1,e2⟩:=zas (h:=eqC l) (by show ¬ (2:Int)=3;decide) [cNat]
 have hs:(findD preL (⟨#[69,113]⟩:ByteArray)).isSome=true:=by kernel_rfl
 have hk:(!decide (((findD preL (⟨#[69,113]⟩:ByteArray)).getD default).kind=2))=true:=by kernel_rfl
 have hr:z1y preL (eqC l)=none:=by kernel_rfl
 simp only [Bool.not_eq_true',decide_eq_false_iff_not] at hk
 show onF preL c wh (appT (eqC l) [cNat]) f=some (appT (eqC l) [cNat],false,f,0)
 unfold onF
 rw [e1,e2,if_neg (fun hc=>absurd hc.1 (by show ¬ (2:Int)=4;decide)),if_neg (by show ¬ (2:Int)=6;decide),if_pos (show (eqC l).kind=2 from rfl)]
 rw [show (eqC l).name=(⟨#[69,113]⟩:ByteArray) from rfl,zfr hs]
 simp only
 rw [if_neg (fun hc=>hk hc.1),hr]
theorem sr_cv (l k:Lvl):cvF preL 100 2 (srT l) (srT k) 100=some (rSamF l k,99,0):=by
 simp only [cvF]
 rw [if_neg (by decide),zz0n]
 cases h:rSamF l k with
 | true=>rfl
 | false =>
   rw [if_neg (by decide),zhc (zz0o l)]
   simp only
   rw [if_neg (by decide),zhc (zz0o k)]
   simp only
   rw [if_neg (by decide)]
   unfold hdF
   rw [zz0n,h,if_neg (by decide),if_neg (fun hc=>by rcases hc.2 with h | h<;>exact absurd h (by show ¬ (1:Int)=_;decide)),if_neg (by show ¬ (1:Int)=4;decide),if_neg (by show ¬ (1:Int)=4;decide),if_pos (.inl rfl)]
   rfl
theorem eq_cv (l k:Lvl):cvF preL 100 2 (mkA (eqC l) cNat) (mkA (eqC k) cNat) 100=some (rSamF l k,99,0):=by
 simp only [cvF]
 rw [if_neg (by decide),eq_alk]
 cases h:rSamF l k with
 | true=>rfl
 | false =>
   rw [if_neg (by decide),zhc (eq_stk l)]
   simp only
   rw [if_neg (by decide),zhc (eq_stk k)]
   simp only
   rw [if_neg (by decide)]
   unfold hdF
   rw [eq_alk,h,if_neg (by decide),if_neg (fun hc=>by rcases hc.2 with h | h<;>exact absurd h (by show ¬ (3:Int)=_;decide)),if_neg (by show ¬ (3:Int)=4;decide),if_neg (by show ¬ (3:Int)=4;decide)]
   rw [if_pos (.inr (.inr (.inr (by
    rw [show headT (mkA (eqC l) cNat)=eqC l from rfl,show headT (mkA (eqC k) cNat)=eqC k from rfl,zz30,h]))))]
   rfl
theorem zxr (t:Trm) (hs:∀ a∈t.args,LOK a) (hl:∀ l∈t.levels,LG l):LOK t:=by
 refine ⟨z7p ?_ fun a ha=>(hs a ha).w,z7p ?_ fun a ha=>(hs a ha).s⟩
 ·simp only [pL,List.all_eq_true];exact fun l h=>(hl l h).w
 ·simp only [pS,List.all_eq_true];exact fun l h=>by have:=hl l h;simp only [medL,Bool.and_eq_true,decide_eq_true_eq];exact ⟨this.p,this.d⟩
theorem zxs (l:List Int) (hl:l.length<=800) {a:Int} (h0:0<=a):LG (lvF l (l.length+1) 2 a).1:=by
 have h1:=zxg l (l.length+1) 2 a
 have h2:=(zob l (l.length+1) 2 a h0).2
 exact ⟨zxf l _ 2 a (by omega),by omega,by omega⟩
theorem sr_wf {l:Lvl} (h:narL l=true):wfT 1000 (srT l)=true:=by simp [srT,wfT,shpF,wfTs,argF,h]
theorem zz4d {l:Lvl} (h:narL l=true):wfT 1000 (eqC l)=true:=by simp [eqC,wfT,shpF,wfTs,argF,h]
set_option maxHeartbeats 16000000 in
theorem zjl (la lb:List Int) (cs:Bool) (ha:okB la) (hb:okB lb) (hla:(la.length:Int)<=9223372036854775807) (hlb:(lb.length:Int)<=9223372036854775807):PCon Tryz.prog 16 [.p (.sl 1 (byts la)),.p (.sl 1 (byts lb)),.p (B cs)] (.p (B true)):=by
 have hba:=z3c la
 have hbb:=z3c lb
 refine cv [] [] [] Tryz.func16 79 Tryz.ntmps16 rfl rfl fun cx hE=>call0 z3w (brB (fun h=>by cases h) (fun _=>fun _=>brS (fun h40=>⟨rfl,rfl⟩) (fun h40=>fun _=>brS (fun h41=>⟨rfl,rfl⟩) (fun h41=>?_))))
 refine callX [] zan rfl rfl .nil fun r o ⟨e1,pv,pl,ov,hE1,e2⟩=>?_
 subst e1 e2
 have hG:=preG hE1
 have nA:=(lv_ok la (la.length+1) 2 0 (by omega) (by omega)).2.2
 have nB:=(lv_ok lb (lb.length+1) 2 0 (by omega) (by omega)).2.2
 have gA:=zxs la (by omega) (a:=0) (by omega)
 have gB:=zxs lb (by omega) (a:=0) (by omega)
 have dA:LevC la 2 0 _:=zfj la ha (by omega) (p:=2) (by omega) (la.length+1) 0 (by omega) (by omega) (by omega)
 have dB:LevC lb 2 0 _:=zfj lb hb (by omega) (p:=2) (by omega) (lb.length+1) 0 (by omega) (by omega) (by omega)
 have cA:=Con.at1 dA 1000 905 rfl rfl rfl rfl
 have cB:=Con.at1 dB 1000 907 rfl rfl rfl rfl
 generalize (lvF la (la.length+1) 2 0).1=l at *
 generalize (lvF la (la.length+1) 2 0).2=a2 at *
 generalize (lvF lb (lb.length+1) 2 0).1=k at *
 generalize (lvF lb (lb.length+1) 2 0).2=b2 at *
 clear dA dB
 have kN:=zx kNat
 have lN:LOK cNat:=zbk (by kernel_rfl)
 have sl:∀ x:Lvl,LG x->LOK (srT x):=fun x h=>zxr _ (fun a h=>by cases h) (fun y hy=>by simp [srT] at hy;subst hy;exact h)
 have el:∀ x:Lvl,LG x->LOK (mkA (eqC x) cNat):=fun x h=>LOK.mkA (zxr _ (fun a h=>by cases h) (fun y hy=>by simp [eqC] at hy;subst hy;exact h)) lN
 have sw:∀ x:Lvl,narL x=true->okW (srT x)=true/\Gd (srT x):=fun x h=>⟨zeq (by omega) (sr_wf h) (by simp [srT,sizT,sizTs]),⟨zk (by omega) _ (sr_wf h),by simp [srT,dpT,dpTs]⟩⟩
 have ew:∀ x:Lvl,narL x=true->okW (mkA (eqC x) cNat)=true/\Gd (mkA (eqC x) cNat):=fun x h=>by
  have w:wfT 1000000 (mkA (eqC x) cNat)=true:=z1f (by omega) (zk (by omega) _ (zz4d h)) kN.1
  exact ⟨zeq (by omega) w (by rw [z2o];simp [eqC,sizT,sizTs];omega),zk (by omega) _ w,by rw [z2w];simp [eqC,dpT,dpTs];omega⟩
 have ps:=z2n preL pv ov pl hG z4l (srT l) (srT k) (sw l nA).1 (sw k nB).1 (sw l nA).2 (sw k nB).2 (sl l gA) (sl k gB) 100 100 ⟨by omega,by omega,by omega,by omega⟩ 2 _ (sr_cv l k)
 have pe:=z2n preL pv ov pl hG z4l _ _ (ew l nA).1 (ew k nB).1 (ew l nA).2 (ew k nB).2 (el l gA) (el k gB) 100 100 ⟨by omega,by omega,by omega,by omega⟩ 2 _ (eq_cv l k)
 have c1:=z3s (⟨#[69,113]⟩:ByteArray) [l] (by simp) (by simp [nA])
 have c2:=z3s (⟨#[69,113]⟩:ByteArray) [k] (by simp) (by simp [nB])
 rw [show encLs [l]=[rowL l] by simp [zr]] at c1
 rw [show encLs [k]=[rowL k] by simp [zr]] at c2
 have cpN:Cp cNat:=cp_c kNat (by omega)
 refine call1 [] (z6l la) rfl rfl (za _) (call1 [905] cA rfl rfl (za _) (call1 [] (zfq lb) rfl rfl (za _) (call1 [907] cB rfl rfl (za _) ?_)))
 refine call0 (zae l 2 (by omega) (by omega)) (brB (fun _=>⟨rfl,rfl⟩) (fun _=>call0 (zae k 2 (by omega) (by omega)) (brB (fun _=>⟨rfl,rfl⟩) (fun _=>call0 (z5k l nA) (call0 (z5k k nB) (brB (fun _=>?_) (fun _=>?_)))))))
 ·refine call0 c1 (call0 c2 (call0 (zz _ tNat) (call0 (z1o (eqC l) cNat cpN) (call0 (zz _ tNat) (call0 (z1o (eqC k) cNat cpN) ?_)))))
  refine callX [1004,1005,1006,1007] pe rfl rfl (za _) fun r o ⟨q1,q2⟩=>?_
  subst q1 q2
  exact brY rfl (call0 (zf1 l k gA gB) ⟨B_eq (by simp),rfl⟩)
 ·refine callX [1004,1005,1006,1007] ps rfl rfl (za _) fun r o ⟨q1,q2⟩=>?_
  subst q1 q2
  exact brY rfl (call0 (zf1 l k gA gB) ⟨B_eq (by simp),rfl⟩)
theorem zz4e (p:List Int) (l:Lvl):rEvF p ⟨2,0,[l,l]⟩=rEvF p l:=by simp [rEvF,rEvs]
theorem zz4f (p:List Int) (l:Lvl):rEvF p ⟨1,0,[l]⟩=rEvF p l+1:=by simp [rEvF,rEvs]
theorem zz31 (l:Lvl):rSamF l ⟨2,0,[l,l]⟩=true:=by
 unfold rSamF rLeqF
 simp only [zz4e,Bool.and_self,List.all_eq_true]
 intro x _;simp
theorem zz32 (l:Lvl):rSamF l ⟨1,0,[l]⟩=false:=by
 have:rLeqF ⟨1,0,[l]⟩ l=false:=by
  cases h:rLeqF ⟨1,0,[l]⟩ l with
  | false=>rfl
  | true =>
    have:=of_decide_eq_true (List.all_eq_true.1 h [0,0,0,0] (zwc (.inl rfl) (.inl rfl) (.inl rfl) (.inl rfl)))
    rw [zz4f] at this;omega
 unfold rSamF;rw [this];simp
mutual
theorem zxt:∀ a b:Trm,alkT a b=true->sizT a=sizT b
 | ⟨k,n,s,ls,l⟩,⟨k',n',s',ls',l'⟩,h=>by
   simp only [alkT,Bool.and_eq_true] at h
   simp only [sizT,zrb l l' h.2.2.2.2]
theorem zrb:∀ l m:List Trm,alkTs l m=true->sizTs l=sizTs m
 | [],[],_=>rfl
 | a::r,b::s,h=>by
   simp only [alkTs,Bool.and_eq_true] at h
   simp only [sizTs,zxt a b h.1,zrb r s h.2]
 | [],_::_,h=>by cases h
 | _::_,[],h=>by cases h
end
theorem zxu (t:Trm) (l k:Lvl):alkT (mkA t (srT l)) (mkA t (srT k))=rSamF l k:=by simp [srT,mkA,alkT,samLs,alkTs,z3a]
theorem zz33 (l:List Int) (hl:l.length<=150):0<=(anyF l 0).2/\(anyF l 0).2<=l.length:=by
 have h:=zje l hl (a:=0) (Int.le_refl _) (by omega)
 unfold anyF
 have hx:=nx_le (l:=l) (a:=(any0 l 0).2) (n:=5) (by omega) h.2.1
 split
 ·have:=zx8 l (c:=1000001) (by omega) (l.length+1) (any0 l 0).1 (nxA l (any0 l 0).2 5) (by omega) hx.2.1 h.2.2.1
  exact ⟨by omega,this.2.1⟩
 ·exact ⟨by simp only;omega,hx.2.1⟩
set_option maxHeartbeats 16000000 in
theorem zjm (l:List Int) (hl:okB l) (hlen:(l.length:Int)<=9223372036854775807):PCon Tryz.prog 14 [.p (.sl 1 (byts l))] (.p (B true)):=by
 have hbl:=z3c l
 refine cv [] [] [] Tryz.func14 67 Tryz.ntmps14 rfl rfl fun cx hE=>call0 z3w (brB (fun h=>by cases h) (fun _=>fun _=>brS (fun h40=>⟨rfl,rfl⟩) (fun h40=>?_)))
 have h1:l.length<=150:=by omega
 have hA:=zfl l h1
 have lA:=zmb l h1
 have ct:=(zfk l hl h1).at1 1000 905 rfl rfl rfl rfl
 obtain ⟨p0,p1⟩:=zz33 l h1
 generalize (anyF l 0).1=t at *
 generalize (anyF l 0).2=a2 at *
 have nV:=(lv_ok l (l.length+1) 2 a2 p0 p1).2.2
 have gV:=zxs l (by omega) p0
 have d2:LevC l 2 a2 _:=zfj l hl (by omega) (p:=2) (by omega) (l.length+1) a2 p0 p1 (by omega)
 have c2:=Con.at1 d2 1000 905 rfl rfl rfl rfl
 generalize (lvF l (l.length+1) 2 a2).1=v at *
 generalize (lvF l (l.length+1) 2 a2).2=b2 at *
 clear d2
 have nU:narL ⟨2,0,[v,v]⟩=true:=by simp [narL,narLs,nV]
 have nC:narL ⟨1,0,[v]⟩=true:=by simp [narL,narLs,nV]
 have s1:PCon Tryz.prog 42 [.ag [.p (I 2),.p (I 0),.p (.sl 3 [rowL v,rowL v])]] (tv (srT ⟨2,0,[v,v]⟩)):=by
  have h:=z5k ⟨2,0,[v,v]⟩ nU
  unfold lv at h
  rw [show encLs [v,v]=[rowL v,rowL v] by simp [zr]] at h
  exact h
 have s2:PCon Tryz.prog 42 [.ag [.p (I 1),.p (I 0),.p (.sl 3 [rowL v])]] (tv (srT ⟨1,0,[v]⟩)):=by
  have h:=z5k ⟨1,0,[v]⟩ nC
  unfold lv at h
  rw [show encLs [v]=[rowL v] by simp [zr]] at h
  exact h
 have cp:∀ x:Lvl,narL x=true->Cp (srT x):=fun x h=>Cp.of (sr_wf h) (by omega) (by simp [srT,dpT,dpTs])
 have la0:LOK (mkA t (srT v)):=LOK.mkA lA (zxr _ (fun a h=>by cases h) (fun y hy=>by simp [srT] at hy;subst hy;exact gV))
 have e1:alkT (mkA t (srT v)) (mkA t (srT ⟨2,0,[v,v]⟩))=true:=by rw [zxu,zz31]
 have e2:alkT (mkA t (srT v)) (mkA t (srT ⟨1,0,[v]⟩))=false:=by rw [zxu,zz32]
 have e3:alkT (mkA t (srT v)) t=false:=by
  cases h:alkT (mkA t (srT v)) t with
  | false=>rfl
  | true=>have:=zxt _ _ h;rw [z2o] at this;omega
 refine call1 [] (z6l l) rfl rfl (za _) (call1 [905] ct rfl rfl (za _) (call1 [905] c2 rfl rfl (za _) ?_))
 refine call0 (z5k v nV) (call0 (z1o t (srT v) (cp v nV)) ?_)
 refine call0 s1 (call0 (z1o t (srT ⟨2,0,[v,v]⟩) (cp _ nU)) (call0 s2 (call0 (z1o t (srT ⟨1,0,[v]⟩) (cp _ nC)) ?_)))
 refine call0 (z4z (mkA t (srT ⟨2,0,[v,v]⟩))) (brB (fun _=>⟨rfl,rfl⟩) (fun m1=>call0 (z4z (mkA t (srT ⟨1,0,[v]⟩))) (brB (fun _=>⟨rfl,rfl⟩) (fun m2=>?_))))
 have lb:=zbx (t:=mkA t (srT ⟨2,0,[v,v]⟩)) (by simpa using m1)
 have lc:=zbx (t:=mkA t (srT ⟨1,0,[v]⟩)) (by simpa using m2)
 refine call0 (z3m _ _ la0.lv la0.lv) (brt (z3a _) (call0 (z3m _ _ la0.lv lb.lv) (brt e1 (call0 (z3m _ _ la0.lv lc.lv) (brt (by rw [e2];rfl) (call0 (z3m _ _ la0.lv lA.lv) ⟨B_eq (by rw [e3];rfl),rfl⟩))))))
def Num:Nat->Trm->Prop
 | 0,t=>∃ u,Ev t u/\(headT u).name=cZero.name/\argsT u=[]
 | n+1,t=>∃ u a,Ev t u/\(headT u).name=cSucc.name/\argsT u=[a]/\Num n a
theorem zs_ne:¬ cZero.name=cSucc.name:=by decide +kernel
theorem Num.one:∀ {n m:Nat} {t:Trm},Num n t->Num m t->n=m
 | 0,0,_,_,_=>rfl
 | 0,m+1,t,⟨u,h1,h2,h3⟩,⟨v,a,k1,k2,k3,k4⟩=>by rw [h1.one k1,k2] at h2;exact absurd h2.symm zs_ne
 | n+1,0,t,⟨v,a,k1,k2,k3,k4⟩,⟨u,h1,h2,h3⟩=>by rw [h1.one k1,k2] at h2;exact absurd h2.symm zs_ne
 | n+1,m+1,t,⟨u,a,h1,h2,h3,h4⟩,⟨v,b,k1,k2,k3,k4⟩=>by
   rw [h1.one k1,k3] at h3
   simp only [List.cons.injEq,and_true] at h3
   subst h3
   rw [Num.one h4 k4]
theorem Num.ev {s t:Trm} (h:∀ u,Ev s u->Ev t u):∀ {n:Nat},Num n s->Num n t
 | 0,⟨u,h1,h2⟩=>⟨u,h u h1,h2⟩
 | n+1,⟨u,a,h1,h2⟩=>⟨u,a,h u h1,h2⟩
theorem Ev.gd {t u:Trm} (ht:Gd t) (h:Ev t u):Gd u:=by
 obtain ⟨c,g,f,f',h⟩:=h
 exact (z1u g t f u f' 0 ht h).1
theorem zzu (r:Trm):Stk (mkA cSucc r):=fun c wh f=>by
 obtain ⟨e1,e2⟩:=zas (h:=cSucc) (by decide +kernel) [r]
 have hs:(findD preL cSucc.name).isSome=true:=by kernel_rfl
 have hk:(!decide (((findD preL cSucc.name).getD default).kind=2))=true:=by kernel_rfl
 have hr:z1y preL cSucc=none:=by kernel_rfl
 simp only [Bool.not_eq_true',decide_eq_false_iff_not] at hk
 show onF preL c wh (appT cSucc [r]) f=some (appT cSucc [r],false,f,0)
 unfold onF
 rw [e1,e2,if_neg (fun hc=>absurd hc.1 (by decide +kernel)),if_neg (by decide +kernel),if_pos (by decide +kernel),zfr hs]
 simp only
 rw [if_neg (fun hc=>hk hc.1),hr]
def CntK (v:Int):Nat->Trm->Int->Int->Prop
 | 0,_,_,_=>False
 | k+1,t,f,n=>∃ g u f' e,whF preL 20000 g t f=some (u,f',e)/\((e≠0/\v=-1)\/(e=0/\(headT u).name=cZero.name/\argsT u=[]/\v=n) \/
   (e=0/\¬ ((headT u).name=cZero.name/\argsT u=[])/\((headT u).name≠cSucc.name\/(argsT u).length≠1)/\v=-1) \/
   (e=0/\(headT u).name=cSucc.name/\∃ a,argsT u=[a]/\CntK v k a f' (n+1)))
theorem CntK.le {v:Int}:∀ {k:Nat} {t:Trm} {f n:Int},CntK v k t f n->v<=n+k\/v=-1
 | k + 1,t,f,n,⟨g,u,f',e,hw,h⟩=>by
   rcases h with h | h | h | h
   ·exact .inr h.2
   ·exact .inl (by omega)
   ·exact .inr h.2.2.2
   ·obtain ⟨_,_,a,_,h3⟩:=h
    rcases CntK.le h3 with h4 | h4
    ·exact .inl (by omega)
    ·exact .inr h4
mutual
theorem zoh (m:Int):∀ (t:Trm) (d e:Int),cloT t d=true->d<=e->trvT (lftV m 0) t e=t
 | ⟨k,n,s,ls,l⟩,d,e,h,hle=>by
   simp only [cloT] at h
   simp only [trvT]
   split
   ·rename_i hk
    rw [if_pos hk,decide_eq_true_eq] at h
    unfold lftV
    rw [if_neg (by simp only;omega)]
   ·rename_i hk
    rw [if_neg hk] at h
    rw [zrc m k l 0 d e h hle]
theorem zrc (m k:Int):∀ (l:List Trm) (j d e:Int),cloTs k l j d=true->d<=e->trvTs (lftV m 0) k l j e=l
 | [],_,_,_,_,_=>rfl
 | a::r,j,d,e,h,hle=>by
   simp only [cloTs,Bool.and_eq_true] at h
   simp only [trvTs]
   rw [zoh m a _ (e+bndF k j) h.1 (by omega),zrc m k r (j+1) d e h.2 hle]
end
mutual
theorem zat:∀ (t:Trm) (d e:Int),cloT t d=true->d<=e->cloT t e=true
 | ⟨k,n,s,ls,l⟩,d,e,h,hle=>by
   simp only [cloT] at h ⊢
   split
   ·rename_i hk
    rw [if_pos hk,decide_eq_true_eq] at h
    exact decide_eq_true (by omega)
   ·rename_i hk
    rw [if_neg hk] at h
    exact zmj k l 0 d e h hle
theorem zmj (k:Int):∀ (l:List Trm) (j d e:Int),cloTs k l j d=true->d<=e->cloTs k l j e=true
 | [],_,_,_,_,_=>rfl
 | a::r,j,d,e,h,hle=>by
   simp only [cloTs,Bool.and_eq_true] at h ⊢
   exact ⟨zat a _ _ h.1 (by omega),zmj k r _ d e h.2 hle⟩
end
theorem clo_A {f a:Trm} {d:Int} (hf:cloT f d=true) (ha:cloT a d=true):cloT (mkA f a) d=true:=by
 simp [mkA,cloT,cloTs,bndF,hf,ha]
theorem clo_B {f a:Trm} {d:Int} (hf:cloT f d=true) (ha:cloT a (d+1)=true):cloT (mkB 4 f a) d=true:=by
 simp [mkB,cloT,cloTs,bndF,hf,ha]
theorem clo_6 {a b c:Trm} {d:Int} (ha:cloT a d=true) (hb:cloT b d=true) (hc:cloT c (d+1)=true):cloT ⟨6,0,⟨#[]⟩,[],[a,b,c]⟩ d=true:=by
 simp [cloT,cloTs,bndF,ha,hb,hc]
theorem zz0p:([cZero,cSucc,cAdd,cTwo,cNat,cId,cRec,cNN,cPi].all fun t=>cloT t 0)=true:=by kernel_rfl
set_option maxHeartbeats 8000000 in
theorem zjn (l:List Int):∀ (g:Nat) (v a:Int),0<=v->cloT (natF l g v a).1 v=true/\cloT (funF l g v a).1 v=true
 | 0,v,a,hv=>by
   have hc:=zz0p
   simp only [List.all_cons,Bool.and_eq_true] at hc
   exact ⟨zat _ _ _ hc.1 hv,zat _ _ _ hc.1 hv⟩
 | g + 1,v,a,hv=>by
   have ih:=fun v a hv=>zjn l g v a hv
   have hc:=zz0p
   simp only [List.all_cons,List.all_nil,Bool.and_eq_true] at hc
   obtain ⟨z1,z2,z3,z4,z5,z6,z7,z8,z9,_⟩:=hc
   have up:∀ t,cloT t 0=true->cloT t v=true:=fun t h=>zat t 0 v h hv
   have z5':cloT cNat (v+1)=true:=zat _ 0 _ z5 (by omega)
   have z1:=up _ z1;have z2:=up _ z2;have z3:=up _ z3;have z4:=up _ z4;have z5:=up _ z5;have z6:=up _ z6;have z7:=up _ z7;have z8:=up _ z8;have z9:=up _ z9
   clear up
   simp only [natF,funF]
   generalize cZero=c1 at *;generalize cSucc=c2 at *;generalize cAdd=c3 at *;generalize cTwo=c4 at *;generalize cNat=c5 at *;generalize cId=c6 at *;generalize cRec=c7 at *;generalize cNN=c8 at *;generalize cPi=c9 at *
   have i0:=fun a=>ih v a hv
   have i1:=fun a=>ih (v+1) a (by omega)
   have i2:=fun a=>ih (v+2) a (by omega)
   rw [show v+2=v+1+1 by omega] at i2
   refine ⟨?_,?_⟩
   all_goals repeat' split
   all_goals simp only [appT]
   all_goals try rw [show v+2=v+1+1 by omega]
   all_goals repeat' (first | refine clo_A ?_ ?_ | refine clo_B ?_ ?_ | refine clo_6 ?_ ?_ ?_ | exact (i0 _).1 | exact (i0 _).2 | exact (i1 _).1 | exact (i2 _).1 | assumption)
   ·have hn:=nx_lt (l:=l) (a:=nxA l a 9) (n:=v) (by omega)
    simp [mkV,cloT];omega
def CvE (a b:Trm) (i:Bool):Prop:=∃ (c:Int) (g:Nat) (f f':Int),cvF preL c g a b f=some (i,f',0)
theorem CvE.one {a b:Trm} {i j:Bool} (h:CvE a b i) (k:CvE a b j):i=j:=by
 obtain ⟨c1,g1,f1,e1,h1⟩:=h
 obtain ⟨c2,g2,f2,e2,h2⟩:=k
 have k1:=zcq (c':=max c1 c2) (by omega) (d:=max f1 f2-f1) (by omega) g1 a b f1 i e1 h1
 have k2:=zcq (c':=max c1 c2) (by omega) (d:=max f1 f2-f2) (by omega) g2 a b f2 j e2 h2
 rw [show f1+(max f1 f2-f1)=max f1 f2 by omega] at k1
 rw [show f2+(max f1 f2-f2)=max f1 f2 by omega] at k2
 exact congrArg Prod.fst (zw1 k1 k2)
theorem CvE.alk {a b:Trm} (h:alkT a b=true):CvE a b true:=⟨0,1,1,0,by simp only [cvF];rw [if_neg (by decide),if_pos h];rfl⟩
theorem CvE.stk {a b:Trm} (ha:Stk a) (hb:Stk b) {i:Bool} (h:CvE a b i):(alkT a b=true/\i=true)\/∃ c g f f',1<=g/\alkT a b=false/\hdF (cvF preL c g) a b f=some (i,f',0):=by
 obtain ⟨c,g,f,f',hx⟩:=h
 cases g with
 | zero=>cases hx
 | succ g =>
   simp only [cvF] at hx
   split at hx
   ·simp at hx
   split at hx
   ·rename_i hk;cases hx;exact .inl ⟨hk,rfl⟩
   rename_i hk
   cases g with
   | zero=>simp [whF] at hx
   | succ g =>
     rw [zhc ha] at hx
     simp only at hx
     rw [if_neg (by decide),zhc hb] at hx
     simp only at hx
     rw [if_neg (by decide)] at hx
     exact .inr ⟨c,g+1,f-1,f',by omega,by simpa using hk,hx⟩
theorem zzv {h x y:Trm}:alkT (mkA h x) (mkA h y)=alkT x y:=by simp [mkA,alkT,samLs,alkTs,z3a]
theorem zzw {h x y:Trm}:alkT (mkB 4 h x) (mkB 4 h y)=alkT x y:=by simp [mkB,alkT,samLs,alkTs,z3a]
theorem CvE.app {h:Trm} (hk:¬ h.kind=3) (h02:h.kind=0\/h.kind=2) (hs:∀ z,Stk (mkA h z)) {x y:Trm} {i:Bool} (hc:CvE (mkA h x) (mkA h y) i):CvE x y i:=by
 rcases hc.stk (hs x) (hs y) with ⟨h1,rfl⟩ | ⟨c,g,f,f',hg,h1,h2⟩
 ·rw [zzv] at h1;exact CvE.alk h1
 ·obtain ⟨a1,a2⟩:=zas hk [x]
  obtain ⟨b1,b2⟩:=zas hk [y]
  have a1:headT (mkA h x)=h:=a1;have a2:argsT (mkA h x)=[x]:=a2
  have b1:headT (mkA h y)=h:=b1;have b2:argsT (mkA h y)=[y]:=b2
  unfold hdF at h2
  rw [if_neg (by rw [h1];decide),if_neg (fun hc=>by rcases hc.2 with h | h<;>exact absurd h (by show ¬ (3:Int)=_;decide)),if_neg (by show ¬ (3:Int)=4;decide),if_neg (by show ¬ (3:Int)=4;decide)] at h2
  rw [if_neg (fun ho=>by
   unfold offT at ho
   rw [a1,a2,b1,b2,z3a] at ho
   rcases ho with ho | ho | ho | ho
   ·cases ho
   ·exact ho rfl
   ·omega
   ·cases ho),a2,b2] at h2
  simp only [allF] at h2
  split at h2
  ·cases h2
  ·rename_i is f1 e hcf
   split at h2
   ·rename_i he
    simp only [Option.some.injEq,Prod.mk.injEq] at h2
    obtain ⟨rfl,rfl,rfl⟩:=h2
    rcases he with he | he
    ·exact absurd rfl he
    ·subst he;exact ⟨c,g,f,_,hcf⟩
   ·rename_i he
    simp only [Option.some.injEq,Prod.mk.injEq] at h2
    obtain ⟨rfl,rfl,_⟩:=h2
    have e0:e=0:=Classical.byContradiction fun h=>he (.inl h)
    have i0:is=true:=by cases is with | true=>rfl | false=>exact absurd (.inr rfl) he
    subst e0 i0
    exact ⟨c,g,f,_,hcf⟩
theorem zxv (a b:Trm):Stk (mkB 4 a b):=fun c wh f=>rfl
theorem CvE.lam {h:Trm} {x y:Trm} {i:Bool} (hc:CvE (mkB 4 h x) (mkB 4 h y) i):CvE x y i:=by
 rcases hc.stk (zxv h x) (zxv h y) with ⟨h1,rfl⟩ | ⟨c,g,f,f',hg,h1,h2⟩
 ·rw [zzw] at h1;exact CvE.alk h1
 ·unfold hdF at h2
  rw [if_neg (by rw [h1];decide),if_pos ⟨rfl,.inl rfl⟩,show (mkB 4 h x).args=[h,x] from rfl,show (mkB 4 h y).args=[h,y] from rfl] at h2
  obtain ⟨g,rfl⟩:∃ k,g=k+1:=⟨g-1,by omega⟩
  have hh:cvF preL c (g+1) h h f=if f<=0 then some (false,f,11) else some (true,f-1,0):=by
   simp only [cvF];rw [if_pos (z3a h)]
  simp only [allF] at h2
  rw [hh] at h2
  by_cases hf:f<=0
  ·rw [if_pos hf] at h2;simp at h2
  ·rw [if_neg hf] at h2
   simp only at h2
   rw [if_neg (by simp)] at h2
   split at h2
   ·cases h2
   ·rename_i is f1 e hcf
    split at h2
    ·rename_i he
     simp only [Option.some.injEq,Prod.mk.injEq] at h2
     obtain ⟨rfl,rfl,rfl⟩:=h2
     rcases he with he | he
     ·exact absurd rfl he
     ·subst he;exact ⟨c,g+1,f-1,_,hcf⟩
    ·rename_i he
     simp only [Option.some.injEq,Prod.mk.injEq] at h2
     obtain ⟨rfl,rfl,_⟩:=h2
     have e0:e=0:=Classical.byContradiction fun h=>he (.inl h)
     have i0:is=true:=by cases is with | true=>rfl | false=>exact absurd (.inr rfl) he
     subst e0 i0
     exact ⟨c,g+1,f-1,_,hcf⟩
structure InP (x y u v:Trm):Prop where
 au:AnT u
 av:AnT v
 lu:LOK u
 lv:LOK v
 rel:∀ i,CvE u v i->CvE x y i
theorem p_stk (z:Trm):Stk (mkA cP z):=fun c wh f=>by
 obtain ⟨e1,e2⟩:=zas (h:=cP) (by decide +kernel) [z]
 have hs:(findD preL cP.name).isSome=true:=by kernel_rfl
 have hk:(!decide (((findD preL cP.name).getD default).kind=2))=true:=by kernel_rfl
 have hr:z1y preL cP=none:=by kernel_rfl
 simp only [Bool.not_eq_true',decide_eq_false_iff_not] at hk
 show onF preL c wh (appT cP [z]) f=some (appT cP [z],false,f,0)
 unfold onF
 rw [e1,e2,if_neg (fun hc=>absurd hc.1 (by decide +kernel)),if_neg (by decide +kernel),if_pos (by decide +kernel),zfr hs]
 simp only
 rw [if_neg (fun hc=>hk hc.1),hr]
theorem v_stk (z:Trm):Stk (mkA (mkV 0) z):=fun c wh f=>rfl
theorem tP':txtOK (⟨#[80]⟩:ByteArray)=true:=by kernel_rfl
set_option maxHeartbeats 16000000 in
theorem zg6 (la lb:List Int) (w:Int) (ha:okB la) (hb:okB lb) (hla:(la.length:Int)<=9223372036854775807) (hlb:(lb.length:Int)<=9223372036854775807) (hw:0<=w/\w<=255):PCon Tryz.prog 15 [.p (.sl 1 (byts la)),.p (.sl 1 (byts lb)),.p (U8 w)] (.p (B true)):=by
 have hba:=z3c la
 have hbb:=z3c lb
 refine cv [] [1000011] [] Tryz.func15 104 Tryz.ntmps15 rfl rfl fun cx hE=>call0 z3w (brB (fun h=>by cases h) (fun _=>fun _=>brS (fun h40=>⟨rfl,rfl⟩) (fun h40=>fun _=>brS (fun h41=>⟨rfl,rfl⟩) (fun h41=>?_))))
 refine callX [] zan rfl rfl .nil fun r o ⟨e1,pv,pl,ov,hE1,e2⟩=>?_
 subst e1 e2
 have hG:=preG hE1
 have h1:la.length<=40:=by omega
 have h2:lb.length<=40:=by omega
 have px:=zxp la (by omega) 0 (by omega) (by omega)
 have py:=zxp lb (by omega) 0 (by omega) (by omega)
 have lx:LOK (natP la 0):=zmc la (2 * la.length+1) 0 0
 have ly:LOK (natP lb 0):=zmc lb (2 * lb.length+1) 0 0
 have kx:cloT (natP la 0) 0=true:=(zjn la (2 * la.length+1) 0 0 (by omega)).1
 have ky:cloT (natP lb 0) 0=true:=(zjn lb (2 * lb.length+1) 0 0 (by omega)).1
 have cA:=(zjk la ha (by omega) 0 (by omega) (by omega)).at1 1000 905 rfl rfl rfl rfl
 have cB:=(zjk lb hb (by omega) 0 (by omega) (by omega)).at1 1000 907 rfl rfl rfl rfl
 generalize (natF la (2 * la.length+1) 0 0).2=a2 at cA
 generalize (natF lb (2 * lb.length+1) 0 0).2=b2 at cB
 generalize natP la 0=x at *
 generalize natP lb 0=y at *
 have dx:=px.d;have dy:=py.d;have sx:=px.s;have sy:=py.s
 have ax:AnT x:=⟨zk (by omega) _ px.w,by omega,by omega⟩
 have ay:AnT y:=⟨zk (by omega) _ py.w,by omega,by omega⟩
 have cpx:Cp x:=Cp.of px.w (by omega) (by omega)
 have cpy:Cp y:=Cp.of py.w (by omega) (by omega)
 have hlx:=z3l x cpx 1 (by omega) (by omega) 0 (by omega) (by omega) (by omega)
 have hly:=z3l y cpy 1 (by omega) (by omega) 0 (by omega) (by omega) (by omega)
 rw [show lftT 1 x 0=x from zoh 1 x 0 0 kx (by omega)] at hlx
 rw [show lftT 1 y 0=y from zoh 1 y 0 0 ky (by omega)] at hly
 have kN:=zx kNat
 have lN:LOK cNat:=zbk (by kernel_rfl)
 have cpN:Cp cNat:=cp_c kNat (by omega)
 obtain ⟨g1,x1,w1⟩:=ax.cv ay (f:=20000) (c:=20000) (by omega) (by omega)
 have hk1:=(z6i g1 _ _ _ x1 ax.gd ay.gd w1).2
 have p1:=z2n preL pv ov pl hG z4l x y ax.ok ay.ok ax.gd ay.gd lx ly 20000 20000 ⟨by omega,by omega,by omega,by omega⟩ g1 x1 w1
 refine call1 [] (z6l la) rfl rfl (za _) (call1 [905] cA rfl rfl (za _) (call1 [] (zfq lb) rfl rfl (za _) (call1 [907] cB rfl rfl (za _) ?_)))
 refine callX [1004,1005,1006,1007] p1 rfl rfl (za _) fun r o ⟨q1,q2⟩=>?_
 subst q1 q2
 have an2:∀ {t:Trm},wfT 1000000 t=true->dpT t<=6000->sizT t<=1000000->AnT t:=fun h1 h2 h3=>⟨zk (by omega) _ h1,by omega,h3⟩
 have anA:∀ h:Trm,cOK h 2 3=true->∀ z,NatP la z\/NatP lb z->AnT (mkA h z):=fun h hh z hz=>by
  obtain ⟨z1,z2,z3⟩:=zx hh
  have:wfT 1000000 z=true/\dpT z<=600/\sizT z<=2000:=by
   rcases hz with hz | hz
   ·exact ⟨hz.w,by have:=hz.d;omega,by have:=hz.s;omega⟩
   ·exact ⟨hz.w,by have:=hz.d;omega,by have:=hz.s;omega⟩
  exact an2 (z1f (by omega) z1 this.1) (by rw [z2w];omega) (by rw [z2o];omega)
 have anB:∀ z,NatP la z\/NatP lb z->AnT (mkB 4 cNat z):=fun z hz=>by
  have:wfT 1000000 z=true/\dpT z<=600/\sizT z<=2000:=by
   rcases hz with hz | hz
   ·exact ⟨hz.w,by have:=hz.d;omega,by have:=hz.s;omega⟩
   ·exact ⟨hz.w,by have:=hz.d;omega,by have:=hz.s;omega⟩
  exact an2 (kB_wf (.inl rfl) kN.1 this.1) (by rw [dp_B];omega) (by rw [sz_B];omega)
 have lB:∀ z,LOK z->LOK (mkB 4 cNat z):=fun z hz=>⟨z5u pL_np.toNO (by decide) (by decide) lN.w hz.w,z5u pS_no (by decide) (by decide) lN.s hz.s⟩
 have mk:∀ h:Trm,cOK h 2 3=true->LOK h->¬ h.kind=3->(h.kind=0\/h.kind=2)->(∀ z,Stk (mkA h z))->InP x y (mkA h x) (mkA h y):=fun h h1 h2 h3 h4 h5=>⟨anA h h1 x (.inl px),anA h h1 y (.inr py),LOK.mkA h2 lx,LOK.mkA h2 ly,fun i hi=>hi.app h3 h4 h5⟩
 refine call0 (zz _ tNat) (call0 hlx (call0 (z4b cNat x cpN) (call0 hly (call0 (z4b cNat y cpN) ?_))))
 refine join1 (A:=Trm×Trm) (fun _=>[]) (fun p=>[(17,ceT p.2),(16,ceT p.1)]) (fun p=>InP x y p.1 p.2) [] [16,17] [] hE rfl rfl rfl ?_ (fun p hp=>?_)
 ·refine And.intro (by omega) (And.intro (by omega) (brS (fun _=>?_) (fun _=>brS (fun _=>?_) (fun _=>brS (fun _=>?_) (fun _=>?_)))))
  ·exact call0 (zz _ tSucc) (call0 (z1o cSucc x cpx) (call0 (zz _ tSucc) (call0 (z1o cSucc y cpy) ⟨(mkA cSucc x,mkA cSucc y),mk cSucc (by kernel_rfl) (zbk (by kernel_rfl)) (by decide +kernel) (by decide +kernel) zzu,leX.same (by repeat' (first | exact trivial | refine And.intro rfl ?_))⟩)))
  ·exact call0 (zz _ tP') (call0 (z1o cP x cpx) (call0 (zz _ tP') (call0 (z1o cP y cpy) ⟨(mkA cP x,mkA cP y),mk cP (by kernel_rfl) (zbk (by kernel_rfl)) (by decide +kernel) (by decide +kernel) p_stk,leX.same (by repeat' (first | exact trivial | refine And.intro rfl ?_))⟩)))
  ·exact call0 (z4a 0) (call0 (z1o (mkV 0) x cpx) (call0 (z4a 0) (call0 (z1o (mkV 0) y cpy) ⟨(mkA (mkV 0) x,mkA (mkV 0) y),mk (mkV 0) (by kernel_rfl) (zbk (by kernel_rfl)) (by decide) (by decide) v_stk,leX.same (by repeat' (first | exact trivial | refine And.intro rfl ?_))⟩)))
  ·exact ⟨(mkB 4 cNat x,mkB 4 cNat y),⟨anB x (.inl px),anB y (.inr py),lB x lx,lB y ly,fun i hi=>hi.lam⟩,leX.same (by repeat' (first | exact trivial | refine And.intro rfl ?_))⟩
 obtain ⟨u,v⟩:=p
 obtain ⟨g2,x2,w2⟩:=hp.au.cv hp.av (f:=60000) (c:=40000) (by omega) (by omega)
 have p2:=z2n preL pv ov pl hG z4l u v hp.au.ok hp.av.ok hp.au.gd hp.av.gd hp.lu hp.lv 60000 40000 ⟨by omega,by omega,by omega,by omega⟩ g2 x2 w2
 refine callX [1004,1005,1006,1007] p2 rfl rfl (za _) fun r o ⟨q1,q2⟩=>?_
 subst q1 q2
 obtain ⟨i1,f1,e1⟩:=x1
 obtain ⟨i2,f2,e2⟩:=x2
 refine brS (fun he=>⟨rfl,rfl⟩) (fun he=>brS (fun he2=>⟨rfl,rfl⟩) (fun he2=>?_))
 have z1:e1=0:=Classical.byContradiction fun h=>he h
 have z2:e2=0:=Classical.byContradiction fun h=>he2 h
 subst z1 z2
 have hi:i1=i2:=CvE.one ⟨_,g1,_,f1,w1⟩ (hp.rel i2 ⟨_,g2,_,f2,w2⟩)
 subst hi
 exact ⟨B_eq (by simp),rfl⟩
end Go.Ab.YtpneaijfkefeaaaGreat
