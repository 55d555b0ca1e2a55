/- Texts of our own, laid together. -/
import Derived.Test.YtpneaijfkefeaaaGreatM6C0
set_option maxRecDepth 20000
set_option linter.unusedVariables false
set_option linter.unusedSimpArgs false
namespace Go.Ab.YtpneaijfkefeaaaGreat
open Go Go.RowKit Go.Ab Go.Proofs
theorem zh5 (t:Trm) (most:Int) (hm:most<=1000000) (b:Int):∀ (i p u:Int),0<=i->i+dpT t<=1000000000000->0<=p->p<=most->0<=u->u<=p->wfT b t=true ->
  Con Tryz.prog 235 [tv t,.p (I i),.ptr 1000 0,.ptr 1001 0,.p (I most)] [(1001,.ce 3 [.p (I u)]),(1000,.ce 3 [.p (I p)])] (fun r o=>r=.tp []/\o=[(1001,.ce 3 [.p (I (cntT most t i p u).2)]),(1000,.ce 3 [.p (I (cntT most t i p u).1)])]):=by
 intro i p u hi0 hi1 hp0 hp1 hu0 hu1 hw
 have ih:∀ a∈t.args,∀ (i p u:Int),0<=i->i+dpT a<=1000000000000->0<=p->p<=most->0<=u->u<=p->Con Tryz.prog 235 [tv a,.p (I i),.ptr 1000 0,.ptr 1001 0,.p (I most)] [(1001,.ce 3 [.p (I u)]),(1000,.ce 3 [.p (I p)])] (fun r o=>r=.tp []/\o=[(1001,.ce 3 [.p (I (cntT most a i p u).2)]),(1000,.ce 3 [.p (I (cntT most a i p u).1)])]):=fun a ha i p u g0 g1 g2 g3 g4 g5=>zh5 a most hm b i p u g0 g1 g2 g3 g4 g5 ((zg hw).sub a ha)
 have he:=zz28 most t i p u
 have hel:=zc t.args
 have hfew:=(zg hw).few_args
 refine cv [] [1000003] [1000,1001] Tryz.func235 61 Tryz.ntmps235 rfl rfl fun cx hE=>And.intro (by omega) (brS (fun h1=>?_) (fun h1=>?_))
 ·rw [if_pos (by omega)] at he;exact ⟨rfl,by rw [he]⟩
 rw [if_neg (by omega)] at he
 refine join1 (A:=Unit) (fun _=>[]) (fun _=>[(1001,.ce 3 [.p (I (if t.kind=0/\t.n=i then u+1 else u))])]) (fun _=>True) [] [1001] [] hE rfl rfl rfl ?_ (fun _ _=>?_)
 ·refine brS (fun h2=>brS (fun h3=>And.intro (by omega) ?_) (fun h3=>?_)) (fun h2=>?_)
  ·exact ⟨(),trivial,leX.same ⟨by rw [if_pos ⟨h2,h3⟩],rfl,rfl,trivial⟩⟩
  ·exact ⟨(),trivial,leX.same ⟨by rw [if_neg (fun h=>h3 h.2)],rfl,rfl,trivial⟩⟩
  ·exact ⟨(),trivial,leX.same ⟨by rw [if_neg (fun h=>h2 h.1)],rfl,rfl,trivial⟩⟩
 ·refine fun _=>?_
  generalize hu':(if t.kind=0/\t.n=i then u+1 else u)=u' at he
  have hu2:0<=u'/\u'<=p+1:=by subst hu';split<;>omega
  refine loopP t.args (fun q=>[(39,.p (I q.length))]) (fun q=>[(1001,.ce 3 [.p (I (cntTs most t.kind q 0 i (p+1) u').2)]),(1000,.ce 3 [.p (I (cntTs most t.kind q 0 i (p+1) u').1)])]) (fun q=>(cntTs most t.kind q 0 i (p+1) u').1<=most/\0<=(cntTs most t.kind q 0 i (p+1) u').1/\0<=(cntTs most t.kind q 0 i (p+1) u').2/\(cntTs most t.kind q 0 i (p+1) u').2<=(cntTs most t.kind q 0 i (p+1) u').1) [39] [1000,1001] hE rfl rfl rfl ⟨Sub.refl _,rfl,rfl,rfl,trivial⟩ ⟨by simp only [cntTs];omega,by simp only [cntTs];omega,by simp only [cntTs];omega,by simp only [cntTs];omega⟩ (fun hq=>brTe ⟨rfl,by rw [he]⟩) (fun q a s hq hinv=>?_)
  obtain ⟨g0,g1,g2,g3⟩:=hinv
  have hlt:=zh hq
  have hbd:=z6u t.kind q.length
  have hda:=z1c (zf hq)
  have hap:=fun x=>zlc most t.kind q x 0 i (p+1) u' g0
  have hb:=zvo (i:=i+bndF t.kind q.length) ((zg hw).sub a (zf hq)) g1 g0 g2 g3
  generalize hP:cntTs most t.kind q 0 i (p+1) u'=P at g0 g1 g2 g3 hap hb
  obtain ⟨P1,P2⟩:=P
  simp only at g0 g1 g2 g3 hap hb
  have hia:=ih a (zf hq) (i+bndF t.kind q.length) P1 P2 (by omega) (by omega) g1 g0 g2 g3
  generalize hR:cntT most a (i+bndF t.kind q.length) P1 P2=R at hia hb
  obtain ⟨R1,R2⟩:=R
  have e0:cntTs most t.kind t.args 0 i (p+1) u'=if R1>most then (R1,R2) else cntTs most t.kind s (q.length+1) i R1 R2:=by
   rw [hq,hap];simp only [cntTs,Int.zero_add,hR]
  have e1:cntTs most t.kind (q++[a]) 0 i (p+1) u'=(R1,R2):=by
   rw [hap];simp only [cntTs,Int.zero_add,hR];split<;>rfl
  refine brT' hq (idxT hq (call0 (zbp _ _) (And.intro (by omega) (callM [1001,1000] hia rfl rfl (za _) rfl (brS (fun h4=>?_) (fun h4=>And.intro (by omega) ?_))))))
  ·rw [e0,if_pos h4] at he
   exact ⟨rfl,by rw [he]⟩
  ·refine ⟨?_,Sub.i (by simp),by rw [e1],by rw [e1],rfl,trivial⟩
   rw [e1];exact ⟨by omega,hb (by simp only;omega)⟩
termination_by SizeOf.sizeOf t
decreasing_by exact Trm.lt ha
abbrev runO (ds:List Dcl) (pv ov:Nat) (pl:Option (List (ByteArray×Int))) (f c:Int):Obs:=(1000,.ce 107 [.ptr 1004 0,.p (I f),.p (I c)])::envQ 1004 [] ds pv pl ov (odO ds)
def stE (f:Int):Int:=if f<=0 then 11 else 0
def stM (f:Int):Int:=if f<=0 then f else f-1
def fitV (c:Int) (t:Trm):AV:=.tp [tv (if fitsT c t=true then t else zT),.p (B (fitsT c t)),.p (I (if fitsT c t=true then 0 else 12))]
structure Mt (f c:Int):Prop where
 f0:-1000000000<=f
 f1:f<=1000000000
 c0:-1000000<=c
 c1:c<=1000000
section
variable (ds : List Dcl) (pv ov : Nat) (pl : Option (List (ByteArray × Int))) (f c : Int) (hm : Mt f c)
include hm
theorem zap:Con Tryz.prog 120 [.ptr 1000 0] (runO ds pv ov pl f c) (fun r o=>r=.p (I (stE f))/\o=runO ds pv ov pl (stM f) c):=by
 have:=hm.f0;have:=hm.f1
 exact cv [] [] [1000,1004,1005,1006,1007] Tryz.func120 18 Tryz.ntmps120 rfl rfl fun cx hE=>call0 (zuw f c (by omega) (by omega)) ⟨rfl,rfl⟩
theorem zfe (t:Trm):Con Tryz.prog 206 [.ptr 1000 0,tv t] (runO ds pv ov pl f c) (fun r o=>r=fitV c t/\o=runO ds pv ov pl f c):=by
 refine cv [] [] [1000,1004,1005,1006,1007] Tryz.func206 19 Tryz.ntmps206 rfl rfl fun cx hE=>call0 (zuy f c t hm.c0 hm.c1) (brS (fun h=>⟨?_,rfl⟩) (fun h=>⟨?_,rfl⟩))
 ·have hf:¬ fitsT c t=true:=fun hf=>h (by unfold fitsE;rw [if_pos hf])
  unfold fitV fitsE;rw [if_neg hf,if_neg hf,Bool.eq_false_iff.2 hf];rfl
 ·have hf:fitsT c t=true:=Classical.byContradiction fun hf=>h (by unfold fitsE;rw [if_neg hf];decide)
  unfold fitV;rw [if_pos hf,if_pos hf,hf];rfl
set_option maxHeartbeats 4000000 in
theorem zzk (body v:Trm) (hb:Gd body) (hv:Gd v) (args:List Trm) (hal:args.length<=1000000000):Con Tryz.prog 228 [.ptr 1000 0,tv body,tv v,.p (.sl 5 (encTs args))] (runO ds pv ov pl f c) (fun r o=>r=fitV c (appT (opnT [v] body 0) args)/\o=runO ds pv ov pl f c):=by
 have c0:=hm.c0;have c1:=hm.c1
 have hd:=hb.d
 have hs:=zvl v body 0 hb.w
 have hocc:=zvm body 0
 have hsv:=zid v
 have hcs:=ziu (max c 0) body 0 0 0 hb.w (by omega)
 have hcb:=zvo (i:=0) (p:=0) (u:=0) (m:=max c 0) hb.w (by omega) (by omega) (by omega) (by omega)
 have hcon:=zh5 body (max c 0) (by omega) 1099511627776 0 0 0 (by omega) (by omega) (by omega) (by omega) (by omega) (by omega) hb.w
 generalize hR:cntT (max c 0) body 0 0 0=R at hcs hcon hcb
 obtain ⟨R1,R2⟩:=R
 simp only at hcs hcon hcb
 have hsa:(sizT (opnT [v] body 0):Int)<=sizT (appT (opnT [v] body 0) args):=by exact_mod_cast zq7 args (opnT [v] body 0)
 have hbig:∀ x:Int,x>max c 0->x<=(sizT (opnT [v] body 0):Int)->fitV c (appT (opnT [v] body 0) args)=.tp [tv zT,.p (B false),.p (I 12)]:=fun x h1 h2=>by
  have:¬ fitsT c (appT (opnT [v] body 0) args)=true:=by unfold fitsT;simp;intro h;omega
  unfold fitV;rw [if_neg this,if_neg this,Bool.eq_false_iff.2 this]
 refine cv [] [] [1000,1004,1005,1006,1007] Tryz.func228 49 Tryz.ntmps228 rfl rfl fun cx hE=>callX [12,13] ((hcon.sw 1000 12).sw 1001 13) rfl rfl (za _) fun r o ⟨r1,o1,⟨r2,o2,⟨e1,e2⟩,e3,e4⟩,e5,e6⟩=>?_
 subst e1 e2 e3 e4 e5 e6
 have hocc0:0<=(occT body 0:Int) * ((sizT v:Int)-1):=Int.mul_nonneg (by omega) (by omega)
 refine brS (fun h=>?_) (fun h=>?_)
 ·have h1:(sizT body:Int)>max c 0:=Classical.byContradiction fun hn=>by
   have:=hcs.1 (by omega);rw [Prod.mk.injEq] at this;omega
  exact ⟨(hbig _ h1 (by omega)).symm,rfl⟩
 ·have h1:(sizT body:Int)<=max c 0:=Classical.byContradiction fun hn=>by
   have:=hcs.2 (by omega);omega
  have e:=hcs.1 (by omega)
  rw [Prod.mk.injEq] at e
  obtain ⟨e1,e2⟩:=e
  have e2':R2=occT body 0:=by omega
  have hR2:0<=R2/\R2<=1000000:=by omega
  have hms:1<=mSz v (max c 0)/\mSz v (max c 0)<=1000001:=by unfold mSz;omega
  have hml:0<=R2 * (mSz v (max c 0)-1)/\R2 * (mSz v (max c 0)-1)<=1000000 * 1000000:=⟨Int.mul_nonneg hR2.1 (by omega),Int.mul_le_mul hR2.2 (by omega) (by omega) (by omega)⟩
  refine call0 (zkz v (max c 0) (by omega) (by omega)) (And.intro (by omega) (And.intro (by omega) (And.intro (by omega) (brS (fun h2=>?_) (fun h2=>?_)))))
  ·refine ⟨(hbig ((sizT body:Int)+occT body 0 * ((sizT v:Int)-1)) ?_ (by omega)).symm,rfl⟩
   by_cases hv2:(sizT v:Int)<=max c 0
   ·have:mSz v (max c 0)=sizT v:=by unfold mSz;omega
    rw [this,e2'] at h2;omega
   ·have:mSz v (max c 0)=max c 0+1:=by unfold mSz;omega
    rw [this] at h2
    have h3:1<=(occT body 0:Int):=Classical.byContradiction fun hn=>by
     have:R2=0:=by omega
     rw [this,Int.zero_mul] at h2;omega
    have h4:(1:Int) * ((sizT v:Int)-1)<=occT body 0 * ((sizT v:Int)-1):=Int.mul_le_mul_of_nonneg_right h3 (by omega)
    omega
  ·have hdp:=zlb (M:=268435456) (vs:=[v]) (fun x hx=>by simp at hx;subst hx;exact hv.d) body 0
   refine call0 (zzj 1099511627776 (by omega) v hv.w (by have:=hv.d;omega) body (by omega) hb.w) (call0 (z2t _ args (by omega)) (call1 [1000,1004,1005,1006,1007] (zfe ds pv ov pl f c hm _) rfl rfl (za _) ⟨rfl,rfl⟩))
def mdV (c f:Int) (u:Trm):AV:=if f<=0 then .tp [tv zT,.p (B false),.p (I 11)] else fitV c u
theorem zwq (body v:Trm) (hb:Gd body) (hv:Gd v) (args:List Trm) (hal:args.length<=1000000000):Con Tryz.prog 204 [.ptr 1000 0,tv body,tv v,.p (.sl 5 (encTs args))] (runO ds pv ov pl f c) (fun r o=>r=mdV c f (appT (opnT [v] body 0) args)/\o=runO ds pv ov pl (stM f) c):=by
 refine cv [] [] [1000,1004,1005,1006,1007] Tryz.func204 26 Tryz.ntmps204 rfl rfl fun cx hE=>call1 [1000,1004,1005,1006,1007] (zap ds pv ov pl f c hm) rfl rfl (za _) (brS (fun h=>⟨?_,rfl⟩) (fun h=>?_))
 ·have hf:f<=0:=Classical.byContradiction fun hn=>h (by unfold stE;rw [if_neg hn])
  unfold mdV stE;rw [if_pos hf,if_pos hf];rfl
 ·have hf:¬ f<=0:=fun hn=>h (by unfold stE;rw [if_pos hn];decide)
  have:=hm.f1
  have e:stM f=f-1:=by unfold stM;rw [if_neg hf]
  unfold mdV;rw [if_neg hf]
  refine call1 [1000,1004,1005,1006,1007] (zzk ds pv ov pl (stM f) c ⟨by omega,by omega,hm.c0,hm.c1⟩ body v hb hv args hal) rfl rfl (za _) ⟨rfl,rfl⟩
end
theorem zly (e:EnvV) (h:e.OK) (s:ByteArray):Con Tryz.prog 205 [.ptr 1000 0,.p (St s)] (envO e) (fun r o=>r=pdc (zpf e.all s)/\o=envO e):=by
 have ho:=EnvV.get_odd h s
 refine cv [] [] [1000,1001,1002,1003] Tryz.func205 21 Tryz.ntmps205 rfl rfl fun cx hE=>call1 [1000,1001,1002,1003] (zyl e h s) rfl rfl (za _) ?_
 unfold zpf
 cases hd:findD e.all s with
 | none=>exact ⟨rfl,rfl⟩
 | some d =>
   rw [hd] at ho
   refine And.intro (by omega) (brS (fun h1=>⟨?_,rfl⟩) (fun h1=>⟨?_,rfl⟩))
   ·have:=ho.1 h1 d rfl
    simp [this,pdc]
   ·have:¬ Go.Ab.okD d=true:=fun hk=>h1 (ho.2 fun d' e'=>by cases e';exact hk)
    simp [this];rfl
def okE (d:Dcl):Bool:=okT d.type&&(okT d.value&&(decide (d.ctors.length<=1000)&&(d.ctors.all (fun c=>okT c.ty&&decide (0<=c.name.size))&&(decide (d.name.size<=1000)&&decide (-1000000<=d.params/\d.params<=1000000/\-1000000<=d.count/\d.count<=1000000)))))
theorem zz0c {d:Dcl} (h:Go.Ab.YtpneaijfkefeaaaGreat.okD d=true):okE d=true:=by
 simp only [Go.Ab.YtpneaijfkefeaaaGreat.okD,Bool.and_eq_true,decide_eq_true_eq,List.all_eq_true] at h
 simp only [okE,Bool.and_eq_true,decide_eq_true_eq,List.all_eq_true]
 exact ⟨h.1,h.2.1,h.2.2.1,fun c hc=>⟨(h.2.2.2.1 c hc).1,Nat.zero_le _⟩,h.2.2.2.2⟩
theorem zz0d {d:Dcl} (h:okE d=true):CpD d:=by
 simp only [okE,Bool.and_eq_true,decide_eq_true_eq,List.all_eq_true] at h
 exact ⟨z6k h.1,z6k h.2.1,by have:=h.2.2.1;omega,fun c hc=>z6k (h.2.2.2.1 c hc).1⟩
structure EnvG (ds:List Dcl) (pl:Option (List (ByteArray×Int))):Prop where
 p:EnP [] ds pl
 s:∀ d∈ds,Go.Ab.okD d=true
 g:∀ d∈ds,okE d=true
theorem z3o {l:List Dcl} {s:ByteArray} {d:Dcl} (h:findD l s=some d):d∈l:=List.mem_of_find?_eq_some h
theorem zbq (ds:List Dcl) (pv ov:Nat) (pl:Option (List (ByteArray×Int))) (h:EnvG ds pl) (s:ByteArray):Con Tryz.prog 205 [.ptr 1004 0,.p (St s)] (envQ 1004 [] ds pv pl ov (odO ds)) (fun r o=>r=pdc (findD ds s)/\o=envQ 1004 [] ds pv pl ov (odO ds)):=by
 have hs:zpf ds s=findD ds s:=by
  unfold zpf
  cases hd:findD ds s with
  | none=>rfl
  | some d=>simp [h.s d (z3o hd)]
 refine Con.atQ 1004 (.inr (by decide)) (fun ρ=>by unfold pdc;split<;>rfl) (fun ρ=>rfl) ?_
 rcases h.p.pl with hp | ⟨hp,hn⟩
 ·have hc:=zly ⟨[],ds,true,pv,ov⟩ ⟨h.p.nd,.inl rfl,h.p.nar,h.p.len,h.p.nm⟩ s
  simp only [envO,EnvV.all,EnvV.place,EnvV.odd,List.nil_append,if_true] at hc
  rw [hs] at hc
  subst hp
  exact hc
 ·have hc:=zly ⟨[],ds,false,pv,ov⟩ ⟨h.p.nd,.inr hn,h.p.nar,h.p.len,h.p.nm⟩ s
  simp only [envO,EnvV.all,EnvV.place,EnvV.odd,List.nil_append] at hc
  rw [hs] at hc
  subst hp
  exact hc
theorem zqv (t:Trm) (hd:dpT t<=1000000000000):PCon Tryz.prog 236 [tv t] (.p (I (piL t).length)):=by
 refine cv [] [] [] Tryz.func236 20 Tryz.ntmps236 rfl rfl fun cx hE=>?_
 refine loop2 (fun (n:Nat) (u:Trm)=>[(3,.p (I n))]) (fun n u=>[(1,ceT u)]) (fun n u=>n+(piL u).length=(piL t).length/\n+dpT u<=dpT t) (fun n u=>dpT u) 0 t [3] [1] hE rfl rfl rfl ⟨Sub.refl _,rfl,trivial⟩ ⟨by simp,by simp⟩ fun n u ⟨g1,g2⟩=>?_
 have hel:=zc u.args
 refine brS (fun hk=>fun _=>brS (fun hl=>?_) (fun hl=>?_)) (fun hk=>?_)
 ·obtain ⟨x,y,ha⟩:=z4p (l:=u.args) (by omega)
  have hy:=z1c (t:=u) (a:=y) (by rw [ha];simp)
  have e1:(encTs u.args)[1]?=some (rowT y):=by rw [ha];simp [encTs,z4k]
  have hp:=(z2e hk ha).1
  rw [hp] at g1
  refine idxN (i:=1) e1 (And.intro (by omega) ⟨n+1,y,⟨by simp at g1;omega,by omega⟩,by omega,Sub.i (by simp),rfl,trivial⟩)
 ·have hp:=(z2z (u:=u) (by omega)).1
  rw [hp] at g1
  exact ⟨I_eq (by simp at g1;omega),rfl⟩
 ·have hp:=(z2z (u:=u) (by omega)).1
  rw [hp] at g1
  exact ⟨I_eq (by simp at g1;omega),rfl⟩
theorem zzl (t:Trm):PCon Tryz.prog 240 [tv t] (tv (piE t)):=by
 refine cv [] [] [] Tryz.func240 17 Tryz.ntmps240 rfl rfl fun cx hE=>?_
 refine loop1 (fun (u:Trm)=>[]) (fun u=>[(1,ceT u)]) (fun u=>piE u=piE t) (fun u=>dpT u) t [] [1] hE rfl rfl rfl ⟨rfl,rfl,trivial⟩ rfl fun u g1=>?_
 have hel:=zc u.args
 refine brS (fun hk=>fun _=>brS (fun hl=>?_) (fun hl=>?_)) (fun hk=>?_)
 ·obtain ⟨x,y,ha⟩:=z4p (l:=u.args) (by omega)
  have hy:=z1c (t:=u) (a:=y) (by rw [ha];simp)
  have e1:(encTs u.args)[1]?=some (rowT y):=by rw [ha];simp [encTs,z4k]
  have hp:=(z2e hk ha).2.1
  rw [hp] at g1
  refine idxN (i:=1) e1 ⟨y,g1,by omega,rfl,rfl,trivial⟩
 ·have hp:=(z2z (u:=u) (by omega)).2.1
  rw [<- g1,hp]
  exact ⟨rfl,rfl⟩
 ·have hp:=(z2z (u:=u) (by omega)).2.1
  rw [<- g1,hp]
  exact ⟨rfl,rfl⟩
def useL (h:Trm) (args:List Trm) (f:Dcl) (p m:Int):List AV:=[.p (I h.kind),.p (I h.n),.p (St h.name),.p (.sl 3 (encLs h.levels)),.p (.sl 5 (encTs h.args)),.p (.sl 5 (encTs args)),.p (.ip (rowD f)),.p (I p),.p (I m)]
def useZ:List AV:=[.p (I 0),.p (I 0),.p (St ⟨#[]⟩),.p (.sl 3 []),.p (.sl 5 []),.p (.sl 5 []),.p (.v (.pointer none)),.p (I 0),.p (I 0)]
def lookF (ds:List Dcl) (t:Trm):Option RecI:=(z1y ds (headT t)).bind fun r=>if r.major<(argsT t).length then some r else none
def useRV (t:Trm):Option RecI->AV
 | some r=>.tp [.ag (useL (headT t) (argsT t) r.fam r.p r.major),.p (B true)]
 | none=>.tp [.ag useZ,.p (B false)]
set_option maxHeartbeats 4000000 in
theorem zwr (ds:List Dcl) (pv ov:Nat) (pl:Option (List (ByteArray×Int))) (h:EnvG ds pl) (t:Trm) (hg:Gd t):Con Tryz.prog 230 [.ptr 1004 0,tv t] (envQ 1004 [] ds pv pl ov (odO ds)) (fun r o=>r=useRV t (lookF ds t)/\o=envQ 1004 [] ds pv pl ov (odO ds)):=by
 have hd:=hg.d
 have hal:=hg.args.2
 have hel:=zc (argsT t)
 have hll:=zp (headT t).levels
 have hlf:=(zg hg.head.w).few
 have hno:z1y ds (headT t)=none->useRV t (lookF ds t)=.tp [.ag useZ,.p (B false)]:=fun e=>by unfold lookF;rw [e];rfl
 refine cv [] [] [1004,1005,1006,1007] Tryz.func230 113 Tryz.ntmps230 rfl rfl fun cx hE=>call0 (z3v 1099511627776 t hg.w (by omega)) (call1 [1004,1005,1006,1007] (zbq ds pv ov pl h (headT t).name) rfl rfl (za _) ?_)
 cases hf:findD ds (headT t).name with
 | none =>
   have e:z1y ds (headT t)=none:=by unfold z1y;split<;>simp [hf]
   rw [hno e]
   exact brS (fun hk=>⟨rfl,rfl⟩) (fun hk=>⟨rfl,rfl⟩)
 | some d =>
   have hdm:=z3o hf
   have hdo:=h.g d hdm
   have hir:z1y ds (headT t)=if (headT t).kind=2 then (if d.kind=5/\d.params=(headT t).levels.length then (match findD ds d.family with
    | none=>none
    | some f=>if f.kind=3/\0<=f.count/\f.count<=(piL f.type).length then some ⟨f,f.count.toNat,f.count.toNat+1+f.ctors.length+((piL f.type).length-f.count.toNat)⟩ else none) else none) else none:=by
    unfold z1y;rw [hf];rfl
   refine brS (fun hk=>⟨by rw [hno (by rw [hir,if_neg hk])];rfl,rfl⟩) (fun hk=>brS (fun hk5=>⟨by rw [hno (by rw [hir,if_pos (by omega),if_neg (fun hc=>hk5 hc.1)])];rfl,rfl⟩) (fun hk5=>brS (fun hp=>⟨by rw [hno (by rw [hir,if_pos (by omega),if_neg (fun hc=>hp (by rw [hll,hc.2]))])];rfl,rfl⟩) (fun hp=>?_)))
   rw [if_pos (by omega),if_pos ⟨by omega,by omega⟩] at hir
   refine call1 [1004,1005,1006,1007] (zbq ds pv ov pl h d.family) rfl rfl (za _) ?_
   cases hff:findD ds d.family with
   | none =>
     rw [hff] at hir
     rw [hno hir]
     exact ⟨rfl,rfl⟩
   | some fd =>
     rw [hff] at hir
     simp only at hir
     have hfm:=z3o hff
     have hfo:=h.g fd hfm
     simp only [okE,Bool.and_eq_true,decide_eq_true_eq,List.all_eq_true] at hfo
     obtain ⟨ho1,ho2,ho3,ho4,ho5,ho6⟩:=hfo
     have hpl:=z4q fd.type
     have hfd:=(z2v ho1).d
     have hcl:(encCs fd.ctors).length=fd.ctors.length:=by simp [encCs]
     refine brS (fun hk3=>⟨by rw [hno (by rw [hir,if_neg (fun hc=>hk3 hc.1)])];rfl,rfl⟩) (fun hk3=>?_)
     refine call0 (zqv fd.type (by omega)) (And.intro (by omega) (And.intro (by omega) (And.intro (by omega) (And.intro (by omega) (brS (fun hc0=>⟨by rw [hno (by rw [hir,if_neg (fun hc=>by omega)])];rfl,rfl⟩) (fun hc0=>brS (fun hc1=>⟨by rw [hno (by rw [hir,if_neg (fun hc=>by omega)])];rfl,rfl⟩) (fun hc1=>fun _=>brS (fun hc2=>⟨?_,rfl⟩) (fun hc2=>⟨?_,rfl⟩))))))))
     ·have hcc:fd.kind=3/\0<=fd.count/\fd.count<=(piL fd.type).length:=⟨by omega,by omega,by omega⟩
      rw [if_pos hcc] at hir
      unfold lookF;rw [hir]
      simp only [Option.bind_some]
      rw [if_neg (by omega)];rfl
     ·have hcc:fd.kind=3/\0<=fd.count/\fd.count<=(piL fd.type).length:=⟨by omega,by omega,by omega⟩
      rw [if_pos hcc] at hir
      unfold lookF;rw [hir]
      simp only [Option.bind_some]
      rw [if_pos (by omega)]
      unfold useRV
      refine congrArg (fun l=>AV.tp [.ag l,.p (B true)]) ?_
      unfold useL
      have e1:fd.count=(fd.count.toNat:Int):=by omega
      have e2:fd.count+1+((encCs fd.ctors).length:Int)+(((piL fd.type).length:Int)-fd.count)=((fd.count.toNat+1+fd.ctors.length+((piL fd.type).length-fd.count.toNat):Nat):Int):=by omega
      rw [<- e2]
      simp only [<- e1]
      rfl
end Go.Ab.YtpneaijfkefeaaaGreat
set_option linter.unusedVariables false
set_option linter.unusedSimpArgs false
namespace Go.Ab
open Go Go.RowKit
theorem zws {w:World} {M:Nat->Nat->Prop} {own:Nat->Value} {hw:Nat->Option Nat} {f:Fn} {K:Nat} {v:Value} (h:RepA w M own hw (.fv f [] [.ptr K 0]) v):∃ b,v=.func f #[] #[.pointer (some ⟨b,0,none⟩)]/\own K=.pointer (some ⟨b,0,none⟩):=by
 cases h with
 | fv vf vc hf hc hxf hxc =>
   obtain rfl:vf=[]:=List.eq_nil_of_length_eq_zero hf
   obtain ⟨x,rfl⟩:∃ x,vc=[x]:=by
    match vc,hc with
    | [x],_=>exact ⟨x,rfl⟩
   obtain ⟨b,h1,h2⟩:=(hxc 0 (.ptr K 0) rfl).ptr_inv
   exact ⟨b,by simp at h2;rw [h2],h1⟩
theorem zz0e {α:Type}:∀ {l:List α} {n:Nat},l.length=n->tk n l=some l
 | [],n,h=>by subst h;rfl
 | x::l,n,h=>by subst h;simp only [List.length_cons,tk,zz0e (l:=l) rfl]
theorem zz0f {w:World} {M:Nat->Nat->Prop} {own:Nat->Value} {hw:Nat->Option Nat} {f:Fn} {v:Value} (h:RepA w M own hw (.fv f [] []) v):v=.func f #[] #[]:=by
 cases h with
 | fv vf vc hf hc hxf hxc =>
   obtain rfl:vf=[]:=List.eq_nil_of_length_eq_zero hf
   obtain rfl:vc=[]:=List.eq_nil_of_length_eq_zero hc
   rfl
theorem zz2r {a:Act} {n d:Nat} {v:Value} (h:a.tmps.size=n):(a.put (some d) v).tmps.size=n:=by simp [Act.put,h]
theorem zt0 {a:Act} {d:Nat} {v:Value} (h:d<a.tmps.size):(a.put (some d) v).tmps.getD d undef=v:=by simp [Act.put,Array.getD_eq_getD_getElem?,h]
theorem z9i {a:Act} {d t:Nat} {v:Value} (h:t≠d):(a.put (some d) v).tmps.getD t undef=a.tmps.getD t undef:=by
 simp only [Act.put,Array.getD_eq_getD_getElem?]
 rw [Array.getElem?_setIfInBounds_ne (Ne.symm h)]
end Go.Ab
namespace Go.Ab.YtpneaijfkefeaaaGreat
open Go Go.RowKit Go.Ab Go.Proofs
theorem bwTI:TI Tryz.prog 35 5 true:=⟨by kernel_rfl,by kernel_rfl⟩
theorem bwTS:TI Tryz.prog 33 1 false:=⟨by kernel_rfl,by kernel_rfl⟩
theorem bwSI:SI Tryz.prog 33 35:=⟨by kernel_rfl⟩
theorem zo7 {op:BinOp} {x y z:Value} {u v:Operand} {sd:List SD} (h:binS op (.int .i64) x y=some (sd,z)) (hs:sdQ sd):z.oneCell'=true/\∀ w,(do eqGuard op 3 u v x y;binOp op 3 x y:Sem Value).run Tryz.prog w=.ok z w:=by
 obtain ⟨e,he,hk⟩:∃ e,get tab 3=some e/\e.k=.int .i64:=⟨_,rfl,rfl⟩
 exact zb1 (zu htab he) (by rw [hk];exact h) hs
abbrev bwF:Nat:=244
section
variable {cx : Cx} {n : Nat} {s : S} {a : Act} {w : World} {own : Nat → Value}
structure Gh (cx:Cx) (n:Nat) (regs:List (Nat×AV)) (o:Obs) (a:Act) (D:Nat) (rec:LoopState->Option Code->Loop) (W:World) (own:Nat->Value):Prop where
 r:Rl Tryz.prog cx n ⟨regs,o⟩ a W own
 l:W.heap[D+1]?=some (.loop (rec .ready none))
 d:W.heap[D]?=some (.deferred (some []))
def zz0g (K l:Nat) (i:Int):List (Nat×AV):=[(3,.p (I i)),(0,.fv (.yield l) [] []),(1,.ptr K 0)]
abbrev zwt:Oper:={ dst:=some 17,op:=.call { callee:=.value (.tmp 11),args:=#[.tmp 12,.tmp 16],argTypes:=#[3,35] },type:=4,pos:="iter.go:29",after:=#[{ on:=0,ground:=Ground.data },{ on:=1,ground:=Ground.data },{ on:=5,ground:=Ground.data }],guard:=none }
set_option maxHeartbeats 4000000 in
theorem zzm {regs sr:List (Nat×AV)} {o o':Obs} {D g p0 p1 K:Nat} {i:Int} {rec:LoopState->Option Code->Loop} {fn:Nat} {aid bid bl:Nat} {aops bops:Array Oper} {row:List PV} {S1:S} {aC:Act} {W:World} {ops:Array Oper} {rest:List Oper} {Qc:Exit->Act->World->Prop}
  (r:Rl Tryz.prog cx 19 ⟨regs,o⟩ aC W own)
  (hrec:rec=fun st pe=>{ state:=st,pending:=pe,fn,tmps:=a.tmps,params:=#[p0,p1],assign:=.region aid aops false,body:=.block bl (.region bid bops false),defers:=D })
  (hG:Gh cx n sr o a D rec W own) (hB0:cx.w0.heap.size<=D)
  (h0:get regs 0=some (.fv (.yield (D+1)) [] [])) (h1:get regs 1=some (.ptr K 0)) (h3:get regs 3=some (.p (I i))) (h11:get regs 11=some (.fv (.yield (D+1)) [] [])) (h12:get regs 12=some (.p (I i))) (h16:get regs 16=some (.ag (row.map .p)))
  (hp0:p0<n) (hp1:p1<n) (hne:p0≠p1) (hn0:get sr p0=none) (hn1:get sr p1=none)
  (hda:∀ o∈aops.toList,∀ c,o.op≠.defer c) (hdb:∀ o∈bops.toList,∀ c,o.op≠.defer c)
  (hA:∀ cx':Cx,cx'.objs0=o->AWl Tryz.prog cx' n aops aops.toList (fun e s'=>e=.normal/\Le Tryz.prog cx' n s' S1) ⟨(p1,.ag (row.map .p))::(p0,.p (I i))::sr,o⟩)
  (hB:∀ cx':Cx,cx'.objs0=o->AWl Tryz.prog cx' n bops bops.toList (fun e s'=>e=.normal/\Le Tryz.prog cx' n s' ⟨[],o'⟩) S1)
  (hkeys:o'.map (·.1)=o.map (·.1)) (hcl:∀ j T cs,(j,Ob.ce T cs)∈o'->∀ y∈cs,zd2 o' y) (hg:get sr g=some (.fv (.func bwF) [] [.ptr K 0]))
  (k:∀ aD WD ownD,Gh cx n sr o' a D rec WD ownD->Rl Tryz.prog cx 19 ⟨(17,.p (B true))::zz0g K (D+1) i,o'⟩ aD WD ownD->wpListIn Fence.wide 0 Tryz.prog ops Qc rest aD WD) :
  wpListIn Fence.wide 0 Tryz.prog ops Qc (zwt::rest) aC W:=by
 have hy0:=zz0f (r.regs 0 _ h0)
 have hy11:=zz0f (r.regs 11 _ h11)
 have hy12:=(r.regs 12 _ h12).val
 have hy3:=(r.regs 3 _ h3).val
 have hy16:=r.regs 16 _ h16
 obtain ⟨bK,hoK,hyK⟩:=(r.regs 1 _ h1).ptr_inv
 generalize hv16:aC.tmps.getD 16 undef=v16 at hy16
 have hrun:(execOp aC.eval zwt).run Tryz.prog W=.ok (.round (D+1) fn ((a.tmps.setIfInBounds p0 (.int .i64 i)).setIfInBounds p1 v16) (.region aid aops false) (.block bl (.region bid bops false))) W:=by
  have hl:=hG.l
  have:=run_yield (P:=Tryz.prog) (args:=#[.int .i64 i,v16]) hl (by rw [hrec];rfl)
  rw [hrec] at this
  have e11:aC.eval (.tmp 11)=.func (.yield (D+1)) #[] #[]:=hy11
  have e12:aC.eval (.tmp 12)=.int .i64 i:=hy12
  have e16:aC.eval (.tmp 16)=v16:=hv16
  simp only [execOp,resolve,e11,Sem.run_bind,Sem.run_pure,Result.andThen_ok,List.map_toArray,List.map_cons,List.map_nil,e12,e16]
  simp only [Deferred.ofValue,Sem.run_pure,Result.andThen_ok,invoke]
  simpa [go_sem] using this
 have had:a.defers=[]:=hG.r.defs
 have hact:({ tmps:=(a.tmps.setIfInBounds p0 (.int .i64 i)).setIfInBounds p1 v16,defers:=[] }:Act)=(a.put (some p0) (.int .i64 i)).put (some p1) v16:=by
  simp only [Act.put,had]
 have hokW:OK Tryz.prog W cx.M0 own o:=hG.r.ok
 have rg:Rl Tryz.prog ⟨W,cx.M0,own,o⟩ n ⟨(p1,.ag (row.map .p))::(p0,.p (I i))::sr,o⟩ ((a.put (some p0) (.int .i64 i)).put (some p1) v16) W own :=
  ((hG.r.fresh).put_same hp0 (x:=.p (I i)) (.scal rfl)).put_same hp1 (x:=.ag (row.map .p)) hy16
 refine wpListIn_plain rfl fun Kc hKc=>⟨fun _ _=>trivial,?_⟩
 show Oper.uponIn _ _ _ _ _ Kc Qc ((execOp aC.eval zwt).run Tryz.prog W)
 rw [hrun,Oper.uponIn_round]
 refine ⟨fun h=>(by cases h),roundIn_of_wpIn trivial ?_⟩
 rw [hact]
 have hnL:∀ {Z:S->Prop} {cx':Cx},¬ LetsOut (post Tryz.prog cx' n fun e s=>e=.normal/\Z s):=fun ⟨_,_,_,_,h,_⟩=>by cases h
 refine wpIn_mono (wpIn_region_list (z5z (D+1) _ hnL aops.toList _ _ hda (hA ⟨W,cx.M0,own,o⟩ rfl _ _ ⟨own,rg⟩))) ?_
 rintro e a1 w1 ⟨s1,hs1,rfl,hle1⟩
 obtain ⟨own1,r1⟩:=hle1 _ _ hs1
 have hl1:=r1.lies (M0:=cx.M0) hokW hG.l rfl
 refine ⟨_,run_beginRound hl1 (by rw [hrec]),?_⟩
 have r2:=r1.shift (M0:=cx.M0) hokW hG.l (ob':=.loop { rec .ready none with state:=.busy }) rfl rfl
 refine wpIn_block (wpIn_mono (wpIn_region_list (z5z (D+1) _ hnL bops.toList _ _ hdb (hB ⟨W.putObj (D+1) (.loop { rec .ready none with state:=.busy }),cx.M0,own,o⟩ rfl _ _ ⟨own1,r2⟩))) ?_)
 rintro e a3 w3 ⟨s3,hs3,rfl,hle3⟩
 obtain ⟨own3,r3⟩:=hle3 _ _ hs3
 have hBq:cx.w0.heap.size<=D+1:=by omega
 have q2:Quiet cx.w0.heap.size W (W.putObj (D+1) (.loop { rec .ready none with state:=.busy })):=Quiet.putObj _ hG.l rfl hBq
 have hokW2:=hokW.quiet q2
 have hltl:=(Array.getElem?_eq_some_iff.1 hG.l).1
 have hl3:=r3.lies (M0:=cx.M0) hokW2 (World.putObj_heap_same hltl) rfl
 have hd3:=r3.lies (M0:=cx.M0) hokW2 ((World.putObj_heap_other (by omega)).trans hG.d) rfl
 obtain ⟨own4,r4⟩:=(hG.r.quiet q2).back (own':=own3) hp0 hn0 hkeys r3.ok r3.stp r3.fix hcl r3.fr
 have hend:=run_endRound (P:=Tryz.prog) none hl3
 refine ⟨_,_,hend,?_⟩
 refine hKc _ _ (k _ _ own4 ⟨r4.quiet (Quiet.putObj _ hl3 rfl hBq),?_,?_⟩ ?_)
 ·rw [World.putObj_heap_same (Array.getElem?_eq_some_iff.1 hl3).1];rw [hrec];rfl
 ·exact (World.putObj_heap_other (by omega)).trans hd3
 ·have r5:=r4.quiet (Quiet.putObj (.loop { { rec .ready none with state:=.busy } with state:=if (none:Option Code).isNone then .ready else .done,pending:=none }) hl3 rfl hBq)
  obtain ⟨b',hv',hb'⟩:=zws (r5.regs g _ hg)
  obtain ⟨b0,hv0,hb0⟩:=zws (hG.r.regs g _ hg)
  have eb:b'=b0:=by rw [hv0] at hv';simpa using hv'.symm
  subst eb
  rw [hoK] at hb0
  have eb2:bK=b':=by simpa using hb0
  subst eb2
  refine r5.frame r.defs (zz2r r.size) fun t x hx=>?_
  have hsz:aC.tmps.size=19:=r.size
  match t,hx with
  | 17,hx =>
    cases hx
    rw [show (17:Nat)=17 from rfl,zt0 (by omega)]
    exact .scal rfl
  | 3,hx=>cases hx;rw [z9i (by decide),hy3];exact .scal rfl
  | 0,hx=>cases hx;rw [z9i (by decide),hy0];exact .fv [] [] rfl rfl (fun j x h=>by simp at h) (fun j x h=>by simp at h)
  | 1,hx=>cases hx;rw [z9i (by decide),hyK];exact .ptr hb'
set_option maxHeartbeats 4000000 in
theorem zz2s (r:Rl Tryz.prog cx n s a w own) (g p0 p1 K T0:Nat) (rows:List (List PV)) (O:Nat->Obs)
  (hg:get s.regs g=some (.fv (.func bwF) [] [.ptr K 0])) (hO0:s.objs=O 0) (hlen:rows.length<=1000000000000)
  (hK:∀ k,k<=rows.length->get (O k) K=some (.ce T0 [.p (.sl 5 rows)]))
  (hkeys:∀ k,k<=rows.length->(O k).map (·.1)=(O 0).map (·.1))
  (hcl:∀ k,k<=rows.length->∀ j T cs,(j,Ob.ce T cs)∈O k->∀ y∈cs,zd2 (O k) y)
  (hrow:∀ row∈rows,row.length=5) (hp0:p0<n) (hp1:p1<n) (hne:p0≠p1) (hn0:get s.regs p0=none) (hn1:get s.regs p1=none)
  (aid bid bl:Nat) (aops bops:Array Oper) (hda:∀ o∈aops.toList,∀ c,o.op≠.defer c) (hdb:∀ o∈bops.toList,∀ c,o.op≠.defer c) (S1:Nat->S)
  (hA:∀ k row,k<rows.length->rows[rows.length-1-k]?=some row->∀ cx':Cx,cx'.objs0=O k->AWl Tryz.prog cx' n aops aops.toList (fun e s'=>e=.normal/\Le Tryz.prog cx' n s' (S1 k)) ⟨(p1,.ag (row.map .p))::(p0,.p (I ((rows.length:Int)-1-k)))::s.regs,O k⟩)
  (hB:∀ k,k<rows.length->∀ cx':Cx,cx'.objs0=O k->AWl Tryz.prog cx' n bops bops.toList (fun e s'=>e=.normal/\Le Tryz.prog cx' n s' ⟨[],O (k+1)⟩) (S1 k))
  {Q:Exit->Act->World->Prop}
  (hQ:∀ D w' own',w.heap.size<=D->Rl Tryz.prog cx n ⟨s.regs,O rows.length⟩ a w' own'->w'.heap[D]?=some (.deferred (some []))->Q .normal { a with defers:=[{ target:=.collected D,args:=#[] }] } w') :
  (Code.rangeFunc (.tmp g) #[p0,p1] (.region aid aops false) (.block bl (.region bid bops false))).wp Tryz.prog Q a w:=by
 obtain ⟨sr,so⟩:=s
 simp only at hg hO0 hn0 hn1 hA hQ
 subst hO0
 refine (wpIn_wide (n:=0)).1 (wpIn_rangeFunc ?_)
 intro fn hfn
 obtain ⟨rec,hrec⟩:∃ rec:LoopState->Option Code->Loop,rec=fun st pe=>{ state:=st,pending:=pe,fn,tmps:=a.tmps,params:=#[p0,p1],assign:=.region aid aops false,body:=.block bl (.region bid bops false),defers:=w.heap.size }:=⟨_,rfl⟩
 obtain ⟨W1,hW1⟩:∃ W1,(w.alloc (.deferred (some []))).alloc (.loop (rec .ready none))=W1:=⟨_,rfl⟩
 have hB0:cx.w0.heap.size<=w.heap.size:=r.stp.size
 have q1:Quiet cx.w0.heap.size w (w.alloc (.deferred (some []))):=Quiet.alloc hB0 _
 have q2:Quiet cx.w0.heap.size (w.alloc (.deferred (some []))) W1:=by rw [<- hW1];exact Quiet.alloc (by simp;omega) _
 have hG1:Gh cx n sr (O 0) a w.heap.size rec W1 own:=⟨(r.quiet q1).quiet q2,by
  rw [<- hW1];have:=z5p (w.alloc (.deferred (some []))) (.loop (rec .ready none));simpa using this,by
  rw [<- hW1,z4r _ _ (by simp)];exact z5p w _⟩
 obtain ⟨b,hv,hb⟩:=zws (r.regs g _ hg)
 refine ⟨w.heap.size+1,[{ target:=.collected w.heap.size,args:=#[] }],W1,{ target:=.fn (.func bwF) #[.pointer (some ⟨b,0,none⟩)],args:=#[.func (.yield (w.heap.size+1)) #[] #[]] },W1,bwF,
  #[.func (.yield (w.heap.size+1)) #[] #[],.pointer (some ⟨b,0,none⟩)],W1,?_,?_,fun _ _=>trivial,?_,fun h=>(by cases h),?_⟩
 ·rw [<- hW1,hrec];exact run_enterLoop_outer _ _ _ _ _
 ·have:a.eval (.tmp g)=.func (.func bwF) #[] #[.pointer (some ⟨b,0,none⟩)]:=hv
  simp only [resolve,this]
  simp [go_sem]
 ·have eg:=(zu2 hfb (f:=bwF) rfl).run (P:=Tryz.prog)
  simp [invoke,go_sem,eg]
 have hdf:({ tmps:=a.tmps,defers:=[{ target:=Target.collected w.heap.size,args:=#[] }]++a.defers }:Act)={ tmps:=a.tmps,defers:=[{ target:=.collected w.heap.size,args:=#[] }] }:=by rw [r.defs];rfl
 have hBl:∀ {W:World} {o:Obs} {own:Nat->Value},Gh cx n sr o a w.heap.size rec W own->∀ ob':Obj,Quiet cx.w0.heap.size W (W.putObj (w.heap.size+1) ob'):=fun h ob'=>Quiet.putObj ob' h.l rfl (by omega)
 refine callsIn_of_wp Tryz.func244 rfl trivial ?_
 have hdone:∀ W own,Gh cx n sr (O rows.length) a w.heap.size rec W own->rangePost Fence.wide 0 Tryz.prog (w.heap.size+1) Q { tmps:=a.tmps,defers:=[{ target:=Target.collected w.heap.size,args:=#[] }]++a.defers } (.returned (.tuple #[])) W:=fun W own hG=>by
  refine ⟨none,_,by have:=run_endLoop (P:=Tryz.prog) hG.l (by rw [hrec];simp);rw [hrec] at this;exact this,?_⟩
  rw [hdf]
  exact hQ _ _ own (Nat.le_refl _) (hG.r.quiet (hBl hG _)) ((World.putObj_heap_other (by omega)).trans hG.d)
 have hF0:Rl Tryz.prog cx 19 ⟨[(0,.fv (.yield (w.heap.size+1)) [] []),(1,.ptr K 0)],O 0⟩ { tmps:=#[.func (.yield (w.heap.size+1)) #[] #[],.pointer (some ⟨b,0,none⟩)]++Array.replicate (Tryz.f244.ntmps-2) undef,defers:=[] } W1 own:=by
  refine hG1.r.frame rfl rfl fun t x hx=>?_
  match t,hx with
  | 0,hx=>cases hx;exact .fv [] [] rfl rfl (fun j x h=>by simp at h) (fun j x h=>by simp at h)
  | 1,hx=>cases hx;exact .ptr hb
  | t+2,hx=>simp [get,Nat.beq] at hx
 refine wpIn_seq (wpIn_region_list ?_)
 refine pin hF0 rfl rfl (by decide) (za2 hF0 bwTS rfl (hK 0 (by omega)) rfl) fun v1 r1=>?_
 refine pin r1 rfl rfl (by decide) (zyh r1 bwSI rfl rfl) fun v2 r2=>?_
 have hs:=zo7 (op:=.sub) (x:=.int .i64 rows.length) (y:=.int .i64 1) (u:=.tmp 5) (v:=.const (.int .i64 1)) (z:=.int .i64 ((rows.length:Int)-1)) rfl ⟨⟨by omega,by omega⟩,trivial⟩
 refine pin r2 rfl rfl (by decide) (zi9 r2 rfl rfl hs.1 hs.2) fun v3 r3=>?_
 refine pin r3 rfl rfl (by decide) (ze3 r3 rfl) fun v4 r4=>?_
 refine wpListIn_nil ?_
 refine wpIn_block (wpIn_loop (fun aB W=>∃ k own,k<=rows.length/\Gh cx n sr (O k) a w.heap.size rec W own/\Rl Tryz.prog cx 19 ⟨zz0g K (w.heap.size+1) ((rows.length:Int)-1-k),O k⟩ aB W own) (fun aB _=>match aB.tmps.getD 3 undef with | .int _ i=>(i+1).toNat | _=>0) ?_ ?_)
 ·have e0:(rows.length:Int)-1-((0:Nat):Int)=rows.length-1:=by omega
  refine ⟨0,own,by omega,hG1,r4.frame r4.defs r4.size fun t x hx=>r4.regs t x ?_⟩
  rw [e0] at hx
  match t,hx with
  | 0,hx=>exact hx
  | 1,hx=>exact hx
  | 2,hx=>cases hx
  | 3,hx=>exact hx
  | t+4,hx=>cases hx
 ·rintro aB W ⟨k,own,hk,hG,rB⟩
  have h3:aB.tmps.getD 3 undef=.int .i64 ((rows.length:Int)-1-k):=(rB.regs 3 _ rfl).val
  have hs:=zo7 (op:=.geq) (x:=.int .i64 ((rows.length:Int)-1-k)) (y:=.int .i64 0) (u:=.tmp 7) (v:=.const (.int .i64 0)) (z:=.bool (decide ((rows.length:Int)-1-k≥0))) rfl trivial
  refine wpIn_seq (wpIn_seq (wpIn_region_list ?_))
  refine pin rB rfl rfl (by decide) (z7i rB rfl) fun v1 r1=>?_
  refine pin r1 rfl rfl (by decide) (zi9 r1 rfl rfl hs.1 hs.2) fun v2 r2=>?_
  refine wpListIn_nil ?_
  have hc:((aB.put (some 7) v1).put (some 8) v2).eval (.tmp 8)=.bool (decide ((rows.length:Int)-1-k≥0)):=(r2.regs 8 _ rfl).val
  refine wpIn_cond hc ?_
  by_cases hlt:k<rows.length
  ·rw [decide_eq_true (show (rows.length:Int)-1-k≥0 by omega),if_pos rfl]
   refine wpIn_skip ?_
   refine wpIn_seq (wpIn_block (wpIn_seq (wpIn_region_list ?_)))
   obtain ⟨row,hrw⟩:∃ row,rows[rows.length-1-k]?=some row:=⟨_,List.getElem?_eq_getElem (by omega)⟩
   have hi:(rows.length:Int)-1-k=((rows.length-1-k:Nat):Int):=by omega
   have hrl:=hrow row (List.mem_of_getElem? hrw)
   have hra:rowAt rows ((rows.length:Int)-1-k)=row:=by rw [hi];exact z5j hrw
   refine pin r2 rfl rfl (by decide) (z7i r2 rfl) fun v11 r11=>?_
   refine pin r11 rfl rfl (by decide) (z7i r11 rfl) fun v12 r12=>?_
   refine pin r12 rfl rfl (by decide) (za2 r12 bwTS rfl (hK k (by omega)) rfl) fun v13 r13=>?_
   refine pin r13 rfl rfl (by decide) (z7i r13 rfl) fun v14 r14=>?_
   refine pin r14 rfl rfl (by decide) (zs7 r14 bwSI bwTI rfl rfl rfl rfl (by omega) (by omega)) fun v15 r15=>?_
   refine pin r15 rfl rfl (by decide) (zg4 r15 bwTI rfl (by rw [hra];exact zz0e hrl)) fun v16 r16=>?_
   refine zzm (r:=r16) hrec hG hB0 rfl rfl rfl rfl rfl rfl hp0 hp1 hne hn0 hn1 hda hdb (hA k row hlt hrw) (hB k hlt) (hkeys (k+1) (by omega) |>.trans (hkeys k (by omega)).symm) (hcl (k+1) (by omega)) hg ?_
   intro aD WD ownD hGD rD
   have hn:=zk1 (P:=Tryz.prog) (op:=.not) (x:=.bool true) (z:=.bool false) rfl trivial
   refine pin rD rfl rfl (by decide) (zz1n rD rfl hn.1 hn.2) fun v18 r18=>?_
   refine wpListIn_nil ?_
   have hc2:(aD.put (some 18) v18).eval (.tmp 18)=.bool false:=(r18.regs 18 _ rfl).val
   refine wpIn_cond hc2 ?_
   refine wpIn_skip ?_
   refine wpIn_region_list ?_
   have hs2:=zo7 (op:=.sub) (x:=.int .i64 ((rows.length:Int)-1-k)) (y:=.int .i64 1) (u:=.tmp 9) (v:=.const (.int .i64 1)) (z:=.int .i64 ((rows.length:Int)-1-k-1)) rfl ⟨⟨by omega,by omega⟩,trivial⟩
   refine pin r18 rfl rfl (by decide) (z7i r18 rfl) fun v9 r9=>?_
   refine pin r9 rfl rfl (by decide) (zi9 r9 rfl rfl hs2.1 hs2.2) fun v10 r10=>?_
   refine pin r10 rfl rfl (by decide) (ze3 r10 rfl) fun v3 rE=>?_
   refine wpListIn_nil ?_
   have hi1:(rows.length:Int)-1-((k+1:Nat):Int)=(rows.length:Int)-1-k-1:=by omega
   refine ⟨⟨k+1,ownD,hlt,hGD,rE.frame rE.defs rE.size fun t x hx=>rE.regs t x ?_⟩,?_⟩
   ·rw [hi1] at hx
    match t,hx with
    | 0,hx=>exact hx
    | 1,hx=>exact hx
    | 2,hx=>cases hx
    | 3,hx=>exact hx
    | t+4,hx=>cases hx
   ·have hf3:=(rE.regs 3 _ rfl).val
    rw [h3,hf3]
    simp only
    omega
  ·rw [decide_eq_false (show ¬ (rows.length:Int)-1-k≥0 by omega),if_neg (by decide)]
   obtain rfl:k=rows.length:=by omega
   exact wpIn_exit ⟨r2.defs,_,by simp [results,Tryz.f244,Sem.run_pure],hdone W own hG⟩
end
end Go.Ab.YtpneaijfkefeaaaGreat
set_option linter.unusedVariables false
set_option linter.unusedSimpArgs false
namespace Go.Ab
open Go Go.RowKit
section
variable {P : Program} {cx : Cx} {n : Nat} {E : En}
def Wtc (P:Program) (cx:Cx) (n:Nat) (c:Code) (Q:Exit->Act->World->Prop) (s:S):Prop:=∀ a w,Rel P cx n s a w->c.wp P Q a w
theorem z5m (hE:EnOK P cx n E) {a b:Code} {Q:Exit->Act->World->Prop} {r:VR} {o:Obs} (h:vcC P cx n E a (fun e r o=>e=.normal/\Wtc P cx n b Q ⟨toR r,o⟩) r o):Wtc P cx n (.seq a b) Q ⟨toR r,o⟩ :=
 fun act w hr=>wp_seq (wp_mono (z1j hE h act w hr) fun e a' w' ⟨s,hs,r',o',h1,h2,h3,he,hw⟩=>by
  subst he
  exact hw a' w' (Eqv.rel (s:=s) (s':=⟨toR r',o'⟩) ⟨h1,h2⟩ hs))
theorem zzn (hE:EnOK P cx n E) {a b c:Code} {Q:Exit->Act->World->Prop} {r:VR} {o:Obs} (h:vcC P cx n E a (fun e r o=>e=.normal/\Wtc P cx n b (Exit.then (c.wp P Q) Q) ⟨toR r,o⟩) r o):Wtc P cx n (.seq (.seq a b) c) Q ⟨toR r,o⟩ :=
 fun act w hr=>wp_seq (wp_seq (wp_mono (z1j hE h act w hr) fun e a' w' ⟨s,hs,r',o',h1,h2,h3,he,hw⟩=>by
  subst he
  exact hw a' w' (Eqv.rel (s:=s) (s':=⟨toR r',o'⟩) ⟨h1,h2⟩ hs)))
def markQ (P:Program) (cx:Cx) (n:Nat) (fn:Func) (R:AV->Obs->Prop):Exit->Act->World->Prop
 | .ret,a,w=>∃ D,a.defers=[{ target:=.collected D,args:=#[] }]/\cx.w0.heap.size<=D/\w.heap[D]?=some (.deferred (some []))/\∃ s own,Rl P cx n s { a with defers:=[] } w own/\Ends P cx n fn R s
 | _,_,_=>False
theorem Rl.chain {s s2:S} {a a2:Act} {w w2:World} {own own2:Nat->Value} {m:Nat} (r:Rl P cx n s a w own) (r3:Rl P ⟨w,cx.M0,own,s.objs⟩ m s2 a2 w2 own2) (h0:cx.objs0=[]):Rl P cx m s2 a2 w2 own2 :=
 ⟨r3.defs,r3.size,r3.ok,r3.regs,r.stp.trans r3.stp,fun k o h=>(by rw [h0] at h;cases h),r.fr.trans r3.fr⟩
theorem zwu {f:Nat} {fn:Func} {c:Code} {args:List AV} {objs:Obs} {R:AV->Obs->Prop} (hf:P.funcs[f]?=some fn) (hb:fn.body=some c) (hn:fn.ntmps=n) (hle:Nat.ble args.length n=true)
  (h:∀ cx:Cx,cx.objs0=objs->Wtc P cx n c (markQ P cx n fn R) ⟨entry args 0,objs⟩):Con P f args objs R:=by
 intro w M0 own vals hok harg
 have hle':args.length<=n:=by simpa using hle
 have hr:Rl P ⟨w,M0,own,objs⟩ n ⟨entry args 0,objs⟩ { tmps:=vals.toArray++Array.replicate (fn.ntmps-vals.toArray.size) undef,defers:=[] } w own:=by
  refine { defs:=rfl,size:=?_,ok:=hok,regs:=fun t x hx=>?_,stp:=Stp.refl _ _,fix:=fun _ _ _=>.same,fr:=Fr.refl _ _ _ }
  ·have:=harg.1
   simp only [Array.size_append,List.size_toArray,Array.size_replicate];omega
  ·have hh:=(zd3 hx).2
   simp only [Nat.sub_zero] at hh
   have hlt:t<vals.length:=by have:=(List.getElem?_eq_some_iff.1 hh).1;have:=harg.1;omega
   have h1:=harg.2 t x hh
   have e:(vals.toArray++Array.replicate (fn.ntmps-vals.toArray.size) undef).getD t undef=vals.getD t undef:=by
    rw [Array.getD_eq_getD_getElem?,Array.getElem?_append_left (by simpa using hlt),List.getD_eq_getElem?_getD]
    simp
   show RepA _ _ _ _ _ (Array.getD _ t undef)
   rw [e];exact h1
 refine callsIn_wide.1 (callsIn_of_wp_marks (n:=0) hf hb trivial (wpIn_wide.2 (wp_mono (h ⟨w,M0,own,objs⟩ rfl _ w ⟨own,hr⟩) ?_)))
 intro e a' w' hq
 cases e with
 | ret =>
   obtain ⟨D,hd,hB,hD,s,own',hs,hE⟩:=hq
   have q:=Quiet.putObj (.deferred none) hD rfl hB
   obtain ⟨v,h1,r,objs',own'',h2⟩:=hE _ _ own' (hs.quiet q)
   show LeavesInM _ _ _ _ _ _ a'.defers .returning w'
   rw [hd]
   exact ⟨by simp,.inl ⟨D,_,rfl,run_takeDeferred hD,⟨v,h1,r,objs',own'',v,rfl,h2⟩⟩⟩
 | _=>exact hq.elim
end
end Go.Ab
namespace Go.Ab.YtpneaijfkefeaaaGreat
open Go Go.RowKit Go.Ab Go.Proofs
theorem cvm {f:Nat} {fn:Func} {c:Code} {args:List AV} {objs:Obs} {R:AV->Obs->Prop} (hf:Tryz.prog.funcs[f]?=some fn) (n:Nat) (hn:fn.ntmps=n) (hb:fn.body=some c) (hle:Nat.ble args.length n=true)
  (h:∀ cx:Cx,cx.objs0=objs->EnK Tryz.prog cx n tab fbs n (objs.map (·.1)) ccs cls->Wtc Tryz.prog cx n c (markQ Tryz.prog cx n fn R) ⟨toR (zgi args 0),objs⟩):Con Tryz.prog f args objs R :=
 zwu hf hb hn hle fun cx hcx=>by
  have hK:EnK Tryz.prog cx n tab fbs n (objs.map (·.1)) ccs cls:=⟨rfl,htab,hfb,fun k hk=>(by
   rw [hcx]
   refine z7y fun hm=>?_
   rw [mem_iff.2 hm] at hk;cases hk),hmo,hcc,hcl⟩
  have:=h cx hcx hK
  rw [ze1] at this
  exact this
theorem zwv (l:List Trm):Con Tryz.prog 243 [.p (.sl 5 (encTs l))] [] (fun r o=>r=.fv (.func bwF) [] [.ptr 1 0]/\o=[(1,.ce 33 [.p (.sl 5 (encTs l))])]) :=
 cv [] [] [1] Tryz.func243 4 Tryz.ntmps243 rfl rfl fun cx hE=>⟨rfl,rfl⟩
theorem zff (h a:Trm):PCon Tryz.prog 168 [tv h,.p (.sl 5 [rowT a])] (tv (mkA h a)):=by
 have:=z2t h [a] (by simp)
 rw [show encTs [a]=[rowT a] by simp [zb]] at this
 exact this
theorem zo8 (b:Int) (hb:b<=1000000000000000) (m:Nat) (hm:m<=1000000000000) (l:List Trm) (hl:∀ a∈l,wfT b a=true/\dpT a<=1000000000000) (hlen:l.length<=1000000000000):Con Tryz.prog 242 [.p (.sl 5 (encTs l)),.ptr 1000 0] [(1000,.ce 3 [.p (I m)])] (fun r o=>r=.p (.sl 5 (encTs (l.map fun a=>lftT m a 0)))/\o=[(1000,.ce 3 [.p (I m)])]):=by
 have hel:=zc l
 refine cv [] [] [1000] Tryz.func242 21 Tryz.ntmps242 rfl rfl fun cx hE=>fun _=>?_
 refine tokV 4 500 35 5 hE rfl rfl rfl ?_
 refine loopP l (fun p=>[(9,.p (I p.length)),(4,.ts 500 5 (encTs (p.map fun a=>lftT m a 0)))]) (fun p=>[(500,.ar 35 5 (encTs (p.map fun a=>lftT m a 0)).length)]) (fun _=>True) [9,4] [500] hE rfl rfl rfl ⟨Sub.refl _,Sub.refl _,rfl,rfl,trivial⟩ trivial (fun _=>brTe ⟨rfl,rfl⟩) (fun p a q hq _=>?_)
 have:=zh hq
 obtain ⟨h1,h2⟩:=hl a (zf hq)
 refine brT' hq (idxT hq (call0 (zao m 0 b (by omega) (by omega) (by omega) (by omega) hb a h2 h1) (app1 (by simp;omega) (by simp;omega) (And.intro (by omega) ?_))))
 exact ⟨trivial,Sub.i (by simp),Sub.eq (congrArg (AV.ts 500 5) (zkj p (fun a=>lftT m a 0) a)),ar_eq (by simp),rfl,trivial⟩
theorem zo9:∀ (t:Trm) (acc:List Trm),(spnT t acc).2.length+dpT (spnT t acc).1<=acc.length+dpT t
 | ⟨k, n,s,ls,l⟩,acc=>by
   rw [spnT.eq_def]
   simp only
   split
   ·match l with
    | [f,a] =>
      have:=zo9 f (a::acc)
      refine Nat.le_trans this ?_
      have:=z1c (t:=⟨k,n,s,ls,[f,a]⟩) (a:=f) (by simp)
      simp;omega
    | []=>simp
    | [_]=>simp
    | _::_::_::_=>simp
   ·simp
termination_by t=>SizeOf.sizeOf t
theorem zlz:∀ n:Nat,(varsT n).length=n
 | 0=>rfl
 | n+1=>by simp [varsT,zlz n]
theorem zm0:∀ (n j:Nat),j<n->(varsT n)[j]?=some (mkV ((n:Int)-1-j))
 | 0,j,h=>by omega
 | n+1,0,h=>by simp only [varsT,List.getElem?_cons_zero];congr 2;push_cast;omega
 | n+1,j+1,h=>by
   simp only [varsT,List.getElem?_cons_succ]
   rw [zm0 n j (by omega)]
   congr 2;push_cast;omega
def hypT (h:Trm) (args:List Trm) (p nc:Nat) (typ field:Trm):Trm :=
 lamsT (piL typ) (mkA (appT (appT h ((args.take (p+1+nc)).map fun a=>lftT (piL typ).length a 0)) ((argsT (piE typ)).drop p)) (appT (lftT (piL typ).length field 0) (varsT (piL typ).length)))
def zOb:Ob:=.ce 35 [.p (I 0),.p (I 0),.p (St ⟨#[]⟩),.p nilS,.p nilS]
def hypO (xs:List Trm) (T:Trm) (k:Nat):Obs:=[(12,ceT (lamsT (xs.drop (xs.length-k)) T)),(6,zOb),(1,.ce 33 [.p (.sl 5 (encTs xs))])]
def hypR:VR:=[(87,.a (.fv (.func bwF) [] [.ptr 1 0])),(12,.a (.ptr 12 0)),(6,.a (.ptr 6 0))]
theorem zqw (cx:Cx) {o:Obs} (h:cx.objs0=o) (n:Nat):EnK Tryz.prog cx n tab fbs n (o.map (·.1)) ccs cls :=
 ⟨rfl,htab,hfb,fun k hk=>(by
  rw [h]
  refine z7y fun hm=>?_
  rw [mem_iff.2 hm] at hk;cases hk),hmo,hcc,hcl⟩
abbrev ops18:List Oper:=[{ dst:=some 16,op:=Op.alloc 35,type:=0,pos:="iota.go:114",after:=#[],guard:=none },
 {dst:=none,op:=Op.store 35 (Operand.tmp 16) (Operand.tmp 89),type:=0,pos:="iota.go:114",after:=#[{ on:=0,ground:=Ground.data },{ on:=0,ground:=Ground.phase }],guard:=none }]
abbrev ops19:List Oper:=[{ dst:=some 90,op:=Op.load 35 (Operand.tmp 16),type:=35,pos:="iota.go:115",after:=#[],guard:=none },
 {dst:=some 91,op:=Op.load 35 (Operand.tmp 12),type:=35,pos:="iota.go:115",after:=#[],guard:=none },
 {dst:=some 92,op:=Op.call { callee:=Callee.value (Operand.func 171),args:=#[Operand.const (Value.int IntKind.i64 4),Operand.tmp 90,Operand.tmp 91],argTypes:=#[3,35,35] },type:=35,pos:="iota.go:115",after:=#[{ on:=0,ground:=Ground.data },{ on:=1,ground:=Ground.data }],guard:=none },
 {dst:=none,op:=Op.store 35 (Operand.tmp 12) (Operand.tmp 92),type:=0,pos:="iota.go:115",after:=#[{ on:=2,ground:=Ground.data },{ on:=2,ground:=Ground.chain },{ on:=0,ground:=Ground.phase },{ on:=1,ground:=Ground.phase },{ on:=2,ground:=Ground.phase }],guard:=none }]
abbrev ops20:List Oper:=[{ dst:=some 93,op:=Op.load 35 (Operand.tmp 12),type:=35,pos:="iota.go:117",after:=#[],guard:=none },
 {dst:=none,op:=Op.store 35 (Operand.tmp 6) (Operand.tmp 93),type:=0,pos:="iota.go:117",after:=#[{ on:=0,ground:=Ground.data },{ on:=0,ground:=Ground.phase }],guard:=none }]
def hypS (xs:List Trm) (T:Trm) (k:Nat):S:=⟨(16,.ptr 16 0)::toR hypR,(16,ceT (xs.getD (xs.length-1-k) zT))::hypO xs T k⟩
theorem zz2t {n:Nat} {Z:S->Prop} {cx:Cx}:¬ LetsOut (post Tryz.prog cx n fun e s=>e=.normal/\Z s):=fun ⟨_,_,_,_,h,_⟩=>by cases h
theorem hyp_a (xs:List Trm) (T:Trm) (k:Nat) (row:List PV) (hk:k<xs.length) (hr:(encTs xs)[xs.length-1-k]?=some row) (i:Int) (cx':Cx) (hc:cx'.objs0=hypO xs T k) :
  AWl Tryz.prog cx' 94 ops18.toArray ops18 (fun e s'=>e=.normal/\Le Tryz.prog cx' 94 s' (hypS xs T k)) ⟨(89,.ag (row.map .p))::(88,.p (I i))::toR hypR,hypO xs T k⟩:=by
 have hx:xs[xs.length-1-k]?=some (xs.getD (xs.length-1-k) zT):=by
  rw [List.getD_eq_getElem?_getD,List.getElem?_eq_getElem (by omega)];rfl
 have e:row=rowT (xs.getD (xs.length-1-k) zT):=by
  rw [zb,List.getElem?_map,hx] at hr;simpa using hr.symm
 subst e
 have hE:=zqw cx' hc 94
 refine z5i (E:=En0 94 [12,6,1] [] [] []) (EnK.ok (E:=En0 94 [12,6,1] [] [] []) hE) (dr:=false) (ops:=ops18) (r:=(89,.a (.ag ((rowT (xs.getD (xs.length-1-k) zT)).map .p)))::(88,.a (.p (I i)))::hypR) (tr:=[]) (k:=fun r o _=>Le Tryz.prog cx' 94 ⟨toR r,o⟩ (hypS xs T k)) ?_ (fun r' o' tr' _ h=>⟨rfl,h⟩)
 exact Le.mk (.cons rfl (Sub.refl _) (.cons rfl (Sub.refl _) (.cons rfl (Sub.refl _) (.cons rfl (Sub.refl _) .nil)))) (.cons rfl rfl (.cons rfl rfl (.cons rfl rfl (.cons rfl rfl .nil)))) rfl
theorem hyp_b (xs:List Trm) (T:Trm) (k:Nat) (hk:k<xs.length) (cx':Cx) (hc:cx'.objs0=hypO xs T k) :
  AWl Tryz.prog cx' 94 ops19.toArray ops19 (fun e s'=>e=.normal/\Le Tryz.prog cx' 94 s' ⟨[],hypO xs T (k+1)⟩) (hypS xs T k):=by
 have hx:xs[xs.length-1-k]?=some (xs.getD (xs.length-1-k) zT):=by
  rw [List.getD_eq_getElem?_getD,List.getElem?_eq_getElem (by omega)];rfl
 have hd:=zgm hx T
 have e1:xs.length-1-k+1=xs.length-k:=by omega
 have e2:xs.length-(k+1)=xs.length-1-k:=by omega
 have hE:=zqw cx' hc 94
 refine z5i (E:=En0 94 [12,6,1] [] [] []) (EnK.ok (E:=En0 94 [12,6,1] [] [] []) hE) (dr:=false) (ops:=ops19) (r:=(16,.a (.ptr 16 0))::hypR) (tr:=[]) (k:=fun r o _=>Le Tryz.prog cx' 94 ⟨toR r,o⟩ ⟨[],hypO xs T (k+1)⟩) ?_ (fun r' o' tr' _ h=>⟨rfl,h⟩)
 refine call0 (zo6 4 (xs.getD (xs.length-1-k) zT) (lamsT (xs.drop (xs.length-k)) T)) (Le.mk .nil (.cons rfl ?_ (.cons rfl rfl (.cons rfl rfl .nil))) rfl)
 rw [e2,hd,e1];rfl
set_option maxHeartbeats 8000000 in
theorem zz2u (cx:Cx) (hcx:cx.objs0=[]) (xs:List Trm) (hl:xs.length<=1000000000000) (T R0:Trm) (hR:R0=lamsT xs T) (a:Act) (w:World) (own:Nat->Value) (r:Rl Tryz.prog cx 94 ⟨toR hypR,[(12,ceT T),(6,zOb),(1,.ce 33 [.p (.sl 5 (encTs xs))])]⟩ a w own) :
  (Code.rangeFunc (.tmp 87) #[88,89] (.region 18 ops18.toArray false) (.block 5 (.region 19 ops19.toArray false))).wp Tryz.prog (Exit.inBlock 4 (Exit.then ((Code.seq (.region 20 ops20.toArray false) .ret).wp Tryz.prog (markQ Tryz.prog cx 94 Tryz.f241 fun x o=>x=tv R0/\o=[])) (markQ Tryz.prog cx 94 Tryz.f241 fun x o=>x=tv R0/\o=[]))) a w:=by
 have hel:=zc xs
 have h0:hypO xs T 0=[(12,ceT T),(6,zOb),(1,.ce 33 [.p (.sl 5 (encTs xs))])]:=by simp [hypO,lamsT]
 have hN:hypO xs T (encTs xs).length=[(12,ceT R0),(6,zOb),(1,.ce 33 [.p (.sl 5 (encTs xs))])]:=by simp [hypO,hR]
 refine zz2s r 87 88 89 1 33 (encTs xs) (hypO xs T) rfl h0.symm (by omega) (fun k _=>rfl) (fun k _=>rfl) ?_ ?_ (by decide) (by decide) (by decide) rfl rfl 18 19 5 ops18.toArray ops19.toArray ?_ ?_ (hypS xs T) (fun k row hk hr cx' hc=>?_) (fun k hk cx' hc=>hyp_b xs T k (by omega) cx' hc) ?_
 ·intro k _ j T' cs hm y hy
  have key:∃ x,y=.p x:=by
   simp only [hypO,ceT,zOb,List.mem_cons,Prod.mk.injEq,Ob.ce.injEq,List.not_mem_nil,or_false] at hm
   rcases hm with ⟨_,_,rfl⟩ | ⟨_,_,rfl⟩ | ⟨_,_,rfl⟩
   ·simp only [List.mem_cons,List.not_mem_nil,or_false] at hy
    rcases hy with rfl | rfl | rfl | rfl | rfl<;>exact ⟨_,rfl⟩
   ·simp only [List.mem_cons,List.not_mem_nil,or_false] at hy
    rcases hy with rfl | rfl | rfl | rfl | rfl<;>exact ⟨_,rfl⟩
   ·simp only [List.mem_cons,List.not_mem_nil,or_false] at hy
    subst hy;exact ⟨_,rfl⟩
  obtain ⟨x,rfl⟩:=key
  intro q hq
  cases hq
 ·intro row hm
  rw [zb] at hm
  obtain ⟨x,_,rfl⟩:=List.mem_map.1 hm
  rfl
 ·intro o ho c
  simp at ho
  rcases ho with rfl | rfl<;>simp
 ·intro o ho c
  simp at ho
  rcases ho with rfl | rfl | rfl | rfl<;>simp
 ·exact hyp_a xs T k row (by omega) (by rw [<- hel];exact hr) _ cx' hc
 ·intro D w' own' hle r' hD
  rw [hN] at r'
  show (Code.seq (.region 20 ops20.toArray false) .ret).wp Tryz.prog _ { a with defers:=[{ target:=.collected D,args:=#[] }] } w'
  have hE3:=zqw ⟨w',cx.M0,own',[(12,ceT R0),(6,zOb),(1,.ce 33 [.p (.sl 5 (encTs xs))])]⟩ rfl 94
  have hL:AWl Tryz.prog ⟨w',cx.M0,own',[(12,ceT R0),(6,zOb),(1,.ce 33 [.p (.sl 5 (encTs xs))])]⟩ 94 ops20.toArray ops20 (fun e s'=>e=.normal/\Le Tryz.prog ⟨w',cx.M0,own',[(12,ceT R0),(6,zOb),(1,.ce 33 [.p (.sl 5 (encTs xs))])]⟩ 94 s' ⟨[(6,.ptr 6 0)],[(6,ceT R0)]⟩) ⟨toR hypR,[(12,ceT R0),(6,zOb),(1,.ce 33 [.p (.sl 5 (encTs xs))])]⟩:=by
   refine z5i (E:=En0 94 [12,6,1] [] [] []) (EnK.ok (E:=En0 94 [12,6,1] [] [] []) hE3) (dr:=false) (ops:=ops20) (r:=hypR) (tr:=[]) (k:=fun r o _=>Le Tryz.prog _ 94 ⟨toR r,o⟩ ⟨[(6,.ptr 6 0)],[(6,ceT R0)]⟩) ?_ (fun r' o' tr' _ h=>⟨rfl,h⟩)
   exact Le.mk (.cons rfl (Sub.refl _) .nil) (.cons rfl rfl .nil) rfl
  have hq:=za0 [{ target:=.collected D,args:=#[] }] zz2t ops20 a w' (by
   intro o ho c
   simp at ho
   rcases ho with rfl | rfl<;>simp) (hL a w' ⟨own',r'.fresh⟩)
  rw [r'.defs,List.nil_append] at hq
  refine wp_seq (wp_mono (wp_region_list hq) ?_)
  rintro e a' w'' ⟨a0,⟨s0,hs0,rfl,hle0⟩,rfl⟩
  obtain ⟨own0,r0⟩:=hle0 _ _ hs0
  have hDk:=r0.lies (M0:=cx.M0) r'.ok hD rfl
  have rc:=r'.chain r0 hcx
  have hact:({ ({ a0 with defers:=a0.defers++[{ target:=Target.collected D,args:=#[] }] }:Act) with defers:=[] }:Act)=a0:=by
   obtain ⟨t0,d0⟩:=a0
   have:d0=[]:=r0.defs
   subst this;rfl
  have hK:=zqw cx hcx 94
  refine wp_ret ⟨D,by rw [r0.defs];rfl,Nat.le_trans r.stp.size hle,hDk,⟨[(6,.ptr 6 0)],[(6,ceT R0)]⟩,own0,by rw [hact];exact rc,?_⟩
  exact zb3 (E:=En0 94 [] [] [] []) (EnK.ok (E:=En0 94 [] [] [] []) hK) (r:=[(6,.a (.ptr 6 0))]) (o:=[(6,ceT R0)]) ⟨rfl,rfl⟩
set_option maxHeartbeats 8000000 in
theorem zzo (b:Int) (hb:b<=100000000000000) (h:Trm) (args:List Trm) (f:Dcl) (p:Nat) (m:Int) (typ field:Trm) (hw:wfT b typ=true) (hd:dpT typ<=1000000000) (hfw:wfT b field=true) (hfd:dpT field<=1000000000)
  (hargs:∀ a∈args,wfT b a=true/\dpT a<=1000000000) (hal:args.length<=1000000000) (hfc:f.ctors.length<=1000) (hp:p+1+f.ctors.length<=args.length) :
  PCon Tryz.prog 241 [.ag (useL h args f p m),tv typ,tv field] (tv (hypT h args p f.ctors.length typ field)):=by
 have hpd:=z4q typ
 have hpe:=(pi_wf typ hw).2
 have hcl:(encCs f.ctors).length=f.ctors.length:=by simp [encCs]
 have hael:=zc args
 refine cvm Tryz.func241 94 Tryz.ntmps241 rfl rfl fun cx hcx hE'=>?_
 have hE:EnK Tryz.prog cx 94 tab fbs 94 [] ccs cls:=hE'
 have hOK:EnOK Tryz.prog cx 94 (En0 94 [] [] [] []):=EnK.ok (E:=En0 94 [] [] [] []) hE
 refine z5m hOK ⟨rfl,?_⟩
 refine z5m hOK ⟨rfl,?_⟩
 refine z5m hOK ?_
 refine tokV 7 500 35 5 hE rfl rfl rfl ?_
 refine loop2 (fun (q:List Trm) (u:Trm)=>[(7,.ts 500 5 (encTs q))]) (fun q u=>[(4,ceT u),(500,.ar 35 5 (encTs q).length)]) (fun q u=>piL typ=q++piL u/\piE u=piE typ/\wfT b u=true/\q.length+dpT u<=dpT typ) (fun q u=>dpT u) [] typ [7] [4,500] hE rfl rfl rfl ⟨Sub.refl _,rfl,rfl,rfl,rfl,rfl,trivial⟩ ⟨rfl,rfl,hw,by simp⟩ fun q u ⟨g1,g2,g3,g4⟩=>?_
 have hel:=zc u.args
 refine brS (fun hk=>?_) (fun hk=>⟨rfl,?_⟩)
 ·obtain ⟨x,y,ha⟩:=z4h g3 (.inr (.inr hk))
  have hy:=z1c (t:=u) (a:=y) (by rw [ha];simp)
  have hp1:=z2e hk ha
  have r0:(encTs u.args)[0]?=some (rowT x):=by rw [ha];simp [zb]
  have r1:(encTs u.args)[1]?=some (rowT y):=by rw [ha];simp [zb]
  refine idxN (i:=0) r0 (app1 (by simp;omega) (by simp;omega) (idxN (i:=1) r1 ⟨q++[x],y,⟨by rw [g1,hp1.1];simp,by rw [<- g2,hp1.2.1],(zg g3).sub y (by rw [ha];simp),by simp;omega⟩,by omega,Sub.eq (congrArg (AV.ts 500 5) (z1h q x)),rfl,ar_eq (by simp),rfl,rfl,rfl,trivial⟩))
 ·have hpu:=z2z (u:=u) (fun hc=>hk hc.1)
  rw [hpu.1,List.append_nil] at g1
  rw [hpu.2.1] at g2
  subst g1 g2
  have hN:=hpd
  refine z5m hOK (fun _=>⟨rfl,?_⟩)
  refine z5m hOK ⟨rfl,?_⟩
  refine z5m hOK (call0 (z3v b (piE typ) hpe (by omega)) ⟨rfl,?_⟩)
  have hxl:=zc (piL typ)
  have hil:=zc (argsT (piE typ))
  have hNl:(piL typ).length<=1000000000:=by omega
  have hl8:=(zo8 b (by omega) (piL typ).length (by omega) (args.take (p+1+f.ctors.length)) (fun a ha=>by have:=hargs a (List.mem_of_mem_take ha);exact ⟨this.1,by omega⟩) (by simp;omega)).at1 1000 8 rfl rfl rfl rfl
  rw [<- hxl] at hl8
  have et:(encTs args).take ((p:Int)+1+((encCs f.ctors).length:Int)).toNat=encTs (args.take (p+1+f.ctors.length)):=by
   rw [show ((p:Int)+1+((encCs f.ctors).length:Int)).toNat=p+1+f.ctors.length by omega];simp [zb]
  refine z5m hOK (And.intro (by omega) (And.intro (by omega) (And.intro (by omega) (callR [8] hl8 rfl rfl (.cons (Sub.eq (congrArg (fun x=>AV.p (.sl 5 x)) et)) (.cons (Sub.refl _) .nil)) (callR [] (z2t h ((args.take (p+1+f.ctors.length)).map fun a=>lftT (encTs (piL typ)).length a 0) (by simp;omega)) rfl rfl (za _) ⟨rfl,?_⟩)))))
  have ed:(encTs (argsT (piE typ))).drop (min (p:Int) ((encTs (argsT (piE typ))).length:Int)).toNat=encTs ((argsT (piE typ)).drop p):=by
   rw [hil,show (min (p:Int) ((argsT (piE typ)).length:Int)).toNat=min p (argsT (piE typ)).length by omega]
   rcases Nat.le_total p (argsT (piE typ)).length with hc | hc
   ·rw [Nat.min_eq_left hc];simp [zb]
   ·rw [Nat.min_eq_right hc,List.drop_eq_nil_of_le hc,List.drop_eq_nil_of_le (by omega)];simp [zb]
  have hfl:(argsT (piE typ)).length<=1000000000:=by
   have:=zo9 (piE typ) []
   have h2:dpT (piE typ)<=dpT typ:=by omega
   unfold argsT;simp at this;omega
  generalize hT1:appT h ((args.take (p+1+f.ctors.length)).map fun a=>lftT (encTs (piL typ)).length a 0)=T1
  refine z5m hOK (And.intro (by omega) (callR [] (z2t T1 ((argsT (piE typ)).drop p) (by simp;omega)) rfl rfl (.cons (Sub.refl _) (.cons (Sub.eq (congrArg (fun x=>AV.p (.sl 5 x)) ed)) .nil)) ⟨rfl,?_⟩))
  generalize hT2:appT T1 ((argsT (piE typ)).drop p)=T2
  refine z5m hOK (call0 (zao (encTs (piL typ)).length 0 b (by omega) (by omega) (by omega) (by omega) (by omega) field (by omega) hfw) ⟨rfl,?_⟩)
  generalize hT3:lftT (encTs (piL typ)).length field 0=T3
  refine z5m hOK ?_
  have hNl2:(encTs (piL typ)).length<=1000000000:=by omega
  generalize hNN:(encTs (piL typ)).length=N at *
  refine loop1 (fun (j:Nat)=>[(70,.p (I j))]) (fun j=>[(13,ceT (appT T3 ((varsT N).take j)))]) (fun j=>j<=N) (fun j=>N-j) 0 [70] [13] hE rfl rfl rfl ⟨Sub.refl _,rfl,rfl,rfl,rfl,rfl,rfl,rfl,rfl,rfl,trivial⟩ (by omega) fun j hj=>?_
  refine brS (fun hjn=>?_) (fun hjn=>⟨rfl,?_⟩)
  ·have hv:=zm0 N j (by omega)
   refine And.intro (by omega) (And.intro (by omega) (call0 (zqt _) (callR [] (z2t (appT T3 ((varsT N).take j)) [mkV ((N:Int)-1-j)] (by simp)) rfl rfl (.cons (Sub.refl _) (.cons (Sub.eq (by simp [zb,rowT,mkV,zr])) .nil)) (And.intro (by omega) ⟨j+1,by omega,by omega,Sub.i (by simp),?_,rfl,rfl,rfl,rfl,rfl,rfl,rfl,rfl,trivial⟩))))
   rw [z1w hv,zpm];rfl
  ·obtain rfl:j=N:=by omega
   have hvl:(varsT j).take j=varsT j:=List.take_of_length_le (by rw [zlz];omega)
   rw [hvl]
   generalize hT4:appT T3 (varsT j)=T4
   refine z5m hOK (call0 (zff T2 T4) ⟨rfl,?_⟩)
   generalize hT5:mkA T2 T4=T5
   refine zzn hOK (call1 [] (zwv (piL typ)) rfl rfl (.cons Sub.ts .nil) ⟨rfl,?_⟩)
   rintro a w ⟨own,r⟩
   refine wp_block ?_
   exact zz2u cx hcx (piL typ) (by omega) T5 (hypT h args p f.ctors.length typ field) (by unfold hypT;rw [<- hxl,hT1,hT2,hT3,hT4,hT5]) a w own (r.sub (.cons rfl (Sub.refl _) (.cons rfl (Sub.refl _) (.cons rfl (Sub.refl _) .nil))) (.cons rfl rfl (.cons rfl rfl (.cons rfl rfl .nil))) rfl)
end Go.Ab.YtpneaijfkefeaaaGreat
namespace Go.Ab.YtpneaijfkefeaaaGreat
open Go Go.RowKit Go.Ab Go.Proofs
def fvI:AV:=.fv (.func 238) [] [.ptr 1000 0]
theorem zt1 (c:Ctr) (h:Trm):Con Tryz.prog 238 [.ag [.p (St c.name),.p (I c.ty.kind),.p (I c.ty.n),.p (St c.ty.name),.p (.sl 3 (encLs c.ty.levels)),.p (.sl 5 (encTs c.ty.args))],.ptr 1000 0] [(1000,ceT h)] (fun r o=>r=.p (B (decide (c.name=h.name)))/\o=[(1000,ceT h)]) :=
 cv [] [] [1000] Tryz.func238 9 Tryz.ntmps238 rfl rfl fun cx hE=>⟨rfl,rfl⟩
theorem zt2 (l:List Ctr) (h:Trm) (hl:l.length<=1000000000000):Con Tryz.prog 237 [.p (.sl 6 (encCs l)),fvI] [(1000,ceT h)] (fun r o=>r=.p (I (((z2c l h.name).map fun i=>(i:Int)).getD (-1)))/\o=[(1000,ceT h)]):=by
 refine cv [] [] [1000] Tryz.func237 19 Tryz.ntmps237 rfl rfl fun cx hE=>fun hl0=>?_
 refine loopP l (fun p=>[(8,.p (I p.length))]) (fun p=>[]) (fun p=>z2c p h.name=none) [8] [] hE rfl rfl rfl ⟨Sub.refl _,rfl,trivial⟩ rfl (fun hn=>brOut (by simp [encCs]) ?_) (fun p a q hq hn=>?_)
 ·exact ⟨by rw [hn];rfl,rfl⟩
 ·have:=zh hq
  refine brIn (by simp [hq,encCs]) (idxN (z1m (f:=rowC) hq) (call1 [1000] (zt1 a h) rfl rfl (za _) (brS (fun h1=>?_) (fun h1=>And.intro (by omega) ?_))))
  ·refine ⟨?_,rfl⟩
   rw [hq,z8k hn]
   simp [z2c,h1]
  ·refine ⟨?_,Sub.i (by simp),rfl,trivial⟩
   rw [z8k hn]
   simp [z2c,h1]
theorem zt3 (l:List Trm) (hl:l.length<=1000000000):Con Tryz.prog 239 [.p (.sl 5 (encTs l))] [] (fun r o=>r=.ts 5 5 (encTs l)/\o=[(5,.ar 35 5 (encTs l).length)]):=by
 have hel:=zc l
 have hc:Con Tryz.prog 239 [.p (.sl 5 (encTs l))] [] (fun r o=>(r=.ts 5 5 (encTs l)/\o=[(5,.ar 35 5 (encTs l).length)])\/(r=.p nilS/\l=[]/\o=[])):=by
  refine cv [5] [] [5,999999] Tryz.func239 8 Tryz.ntmps239 rfl rfl fun cx hE=>?_
  refine fun b hb=>brB (fun h1=>Or.inr ?_) (fun h1=>?_)
  ·have h0:encTs l=[]:=hb h1
   exact ⟨rfl,List.eq_nil_of_length_eq_zero (by rw [<- hel,h0];rfl),rfl⟩
  ·refine app2 rfl (by simp;omega) (by simp;omega) (Or.inl ⟨rfl,by simp⟩)
 refine hc.le2 fun r o hr=>?_
 rcases hr with ⟨rfl,rfl⟩ | ⟨rfl,rfl,rfl⟩
 ·exact ⟨_,_,fun cx n h=>Le.refl,rfl,rfl,rfl⟩
 ·refine ⟨.ts 5 5 [],[(5,.ar 35 5 0)],fun cx n h=>?_,rfl,by simp [zb],rfl⟩
  exact Le.trans (Le.tok (P:=Tryz.prog) (cx:=cx) (n:=n) (regs:=[(0,.p nilS)]) (objs:=[]) 0 5 35 5 rfl rfl (by rw [h];rfl)) (Le.mk (.cons rfl (Sub.refl _) .nil) (.cons rfl rfl .nil) rfl)
def zm1:Option Trm->AV
 | some u=>.tp [tv u,.p (B true)]
 | none=>.tp [tv zT,.p (B false)]
set_option maxHeartbeats 8000000 in
theorem zww (r:RecI) (h:Trm) (args:List Trm) (hg:Gd h) (ha:∀ a∈args,Gd a) (hal:args.length<=268435456) (hf:okE r.fam=true) (hm:r.major<args.length) (hmj:r.p+1+r.fam.ctors.length<=r.major)
  (major:Trm) (hj:Gd major):PCon Tryz.prog 231 [.ag (useL h args r.fam r.p r.major),tv major] (zm1 (iotR r h args major)):=by
 have hel:=zc args
 have hhl:=zc (argsT major)
 have hjd:=hj.d
 have hja:=hj.args
 have hcl:(encCs r.fam.ctors).length=r.fam.ctors.length:=by simp [encCs]
 simp only [okE,Bool.and_eq_true,decide_eq_true_eq,List.all_eq_true] at hf
 obtain ⟨ho1,ho2,ho3,ho4,ho5,ho6⟩:=hf
 refine cv [] [1000003] [] Tryz.func231 153 Tryz.ntmps231 rfl rfl fun cx hE=>?_
 refine call0 (z3v 1099511627776 major hj.w (by omega)) ?_
 have hno:∀ {v:AV},v=.tp [tv zT,.p (B false)]->iotR r h args major=none->v=zm1 (iotR r h args major):=fun e1 e2=>by rw [e1,e2];rfl
 refine join1 (A:=Unit) (fun _=>[(8,.p (I (if (headT major).kind=2 then (((z2c r.fam.ctors (headT major).name).map fun i=>(i:Int)).getD (-1)) else -1)))]) (fun _=>[]) (fun _=>True) [8] [] [] hE rfl rfl rfl ?_ (fun _ _=>?_)
 ·refine brS (fun hk=>?_) (fun hk=>?_)
  ·refine callX [6] ((zt2 r.fam.ctors (headT major) (by omega)).sw 1000 6) rfl rfl (za _) fun r0 o0 ⟨r1,o1,⟨e1,e2⟩,e3,e4⟩=>?_
   subst e1 e2 e3 e4
   exact ⟨(),trivial,leX.same ⟨Sub.i (by rw [if_pos hk]),rfl,rfl,rfl,rfl,trivial⟩⟩
  ·exact ⟨(),trivial,leX.same ⟨Sub.i (by rw [if_neg hk]),rfl,rfl,rfl,rfl,trivial⟩⟩
 generalize hkv:(if (headT major).kind=2 then (((z2c r.fam.ctors (headT major).name).map fun i=>(i:Int)).getD (-1)) else -1)=kv
 by_cases hk:(headT major).kind=2
 case neg =>
  rw [if_neg hk] at hkv
  exact brY (by omega) ⟨hno rfl (by unfold iotR;rw [if_neg hk]),rfl⟩
 rw [if_pos hk] at hkv
 cases hcx:z2c r.fam.ctors (headT major).name with
 | none =>
   rw [hcx] at hkv
   have hkv':(-1:Int)=kv:=hkv
   exact brY (by omega) ⟨hno rfl (by unfold iotR;rw [if_pos hk,hcx]),rfl⟩
 | some k =>
   rw [hcx] at hkv
   have hkv':(k:Int)=kv:=hkv
   subst hkv'
   obtain ⟨hkl,hkn⟩:=z7o hcx
   have hct:r.fam.ctors[k]?=some (r.fam.ctors.getD k default):=by rw [List.getD_eq_getElem?_getD,List.getElem?_eq_getElem hkl];rfl
   have hrow:(encCs r.fam.ctors)[k]?=some (rowC (r.fam.ctors.getD k default)):=by rw [encCs,List.getElem?_map,hct];rfl
   have hcm:=List.mem_of_getElem? hct
   have hir:iotR r h args major=if (argsT major).length=r.p+((piL (r.fam.ctors.getD k default).ty).length-r.p) then
     some (appT (hypsF r h args ((piL (r.fam.ctors.getD k default).ty).drop r.p) [] ((argsT major).drop r.p)
      (appT (args.getD (r.p+1+k) zT) ((argsT major).drop r.p))) (args.drop (r.major+1))) else none:=by
    unfold iotR;rw [if_pos hk,hcx]
   generalize r.fam.ctors.getD k default=ctr at *
   have hty:=z2v (ho4 ctr hcm).1
   obtain ⟨cn,ty⟩:=ctr
   simp only at hty hir hkn
   refine brZ (by omega) (idxN (i:=k) hrow ?_)
   have htd:=hty.d
   have htw:=hty.w
   have hpl:=z4q ty
   refine call0 (zqv ty (by omega)) (And.intro (by omega) (And.intro (by omega) (brS (fun hne=>⟨hno rfl (by rw [hir,if_neg (by omega)]),rfl⟩) (fun he=>?_))))
   have hlen:(argsT major).length=r.p+((piL ty).length-r.p):=by omega
   rw [if_pos hlen] at hir
   rw [hir]
   have hF:(encTs (argsT major)).drop ((r.p:Int)).toNat=encTs ((argsT major).drop r.p):=by rw [show ((r.p:Int)).toNat=r.p by omega];simp [zb]
   have hT:(encTs args).take ((r.p:Int)).toNat=encTs (args.take r.p):=by rw [show ((r.p:Int)).toNat=r.p by omega];simp [zb]
   have hFl:((argsT major).drop r.p).length=(piL ty).length-r.p:=by rw [List.length_drop];omega
   have hFg:∀ a∈(argsT major).drop r.p,Gd a:=fun a hm=>hja.1 a (List.mem_of_mem_drop hm)
   have hFe:=zc ((argsT major).drop r.p)
   refine And.intro (by omega) ?_
   rw [hF]
   generalize (argsT major).drop r.p=F at *
   have hi1:(r.p:Int)+1+(k:Int)=((r.p+1+k:Nat):Int):=by omega
   have hag:args[r.p+1+k]?=some (args.getD (r.p+1+k) zT):=by rw [List.getD_eq_getElem?_getD,List.getElem?_eq_getElem (by omega)];rfl
   have hrow2:(encTs args)[r.p+1+k]?=some (rowT (args.getD (r.p+1+k) zT)):=by rw [zb,List.getElem?_map,hag];rfl
   have hog:=ha _ (List.mem_of_getElem? hag)
   refine And.intro (by omega) (And.intro (by omega) ?_)
   rw [hi1]
   refine idxN hrow2 (call0 (z2t (args.getD (r.p+1+k) zT) F (by omega)) ?_)
   generalize hU0:appT (args.getD (r.p+1+k) zT) F=U0
   refine And.intro (by omega) (call1 [] (zt3 (args.take r.p) (by simp;omega)) rfl rfl (.cons (Sub.eq (congrArg (fun x=>AV.p (.sl 5 x)) hT)) .nil) ?_)
   refine loop1 (fun (j:Nat)=>[(81,.p (I j))]) (fun j=>[(9,ceT (piD (if F.length=0 then 0 else j) ty))]) (fun j=>j<=r.p) (fun j=>r.p-j) 0 [81] [9] hE rfl rfl rfl ⟨Sub.refl _,?_,rfl,rfl,rfl,rfl,rfl,rfl,trivial⟩ (by omega) fun j hjp=>?_
   ·have:piD (if F.length=0 then 0 else 0) ty=ty:=by
     rw [ite_self];cases ty;rfl
    rw [this];rfl
   refine brS (fun hjl=>?_) (fun hjl=>?_)
   ·refine fun _=>brS (fun hpos=>?_) (fun hpos=>And.intro (by omega) ⟨j+1,by omega,by omega,Sub.i (by simp),?_,rfl,rfl,rfl,rfl,rfl,rfl,trivial⟩)
    ·have hn0:¬ F.length=0:=by omega
     obtain ⟨x,y,g1,g2,g3,g4,g5,g6⟩:=zvt ty j htw (by omega)
     rw [if_neg hn0]
     have r1:(encTs (piD j ty).args)[1]?=some (rowT y):=by rw [g3];simp [zb]
     refine idxN (i:=1) r1 (And.intro (by omega) ⟨j+1,by omega,by omega,Sub.i (by simp),?_,rfl,rfl,rfl,rfl,rfl,rfl,trivial⟩)
     rw [if_neg hn0,g4];rfl
    ·have hn0:F.length=0:=by omega
     rw [if_pos hn0,if_pos hn0]
   ·obtain rfl:j=r.p:=by omega
    have hb0:(if F.length=0 then 0 else r.p)<=r.p:=by split<;>omega
    generalize hb0e:(if F.length=0 then 0 else r.p)=b0 at hb0
    have hfl:((piL ty).drop r.p).length=F.length:=by rw [List.length_drop];omega
    have hend:appT (hypsF r h args (((piL ty).drop r.p).take F.length) [] F U0) (args.drop (r.major+1))=appT (hypsF r h args ((piL ty).drop r.p) [] F U0) (args.drop (r.major+1)):=by rw [List.take_of_length_le (by omega)]
    have hD:(encTs args).drop ((r.major:Int)+1).toNat=encTs (args.drop (r.major+1)):=by rw [show ((r.major:Int)+1).toNat=r.major+1 by omega];simp [zb]
    refine fun _=>?_
    refine loopP F (fun q=>[(93,.p (I q.length)),(12,.ts 5 5 (encTs (args.take r.p++q)))]) (fun q=>[(9,ceT (piD (b0+q.length) ty)),(11,ceT (hypsF r h args (((piL ty).drop r.p).take q.length) [] q U0)),(5,.ar 35 5 (encTs (args.take r.p++q)).length)]) (fun _=>True) [93,12] [9,11,5] hE rfl rfl rfl ⟨Sub.refl _,Sub.eq (congrArg (AV.ts 5 5) (by simp)),rfl,?_,ar_eq (by simp),rfl,rfl,rfl,rfl,trivial⟩ trivial (fun _=>brTe ?_) (fun q a s hq _=>?_)
    ·have:hypsF r h args (((piL ty).drop r.p).take 0) [] [] U0=U0:=by simp [hypsF]
     simp only [List.length_nil]
     rw [this];rfl
    ·refine And.intro (by omega) (And.intro (by omega) (callR [] (z2t (hypsF r h args (((piL ty).drop r.p).take F.length) [] F U0) (args.drop (r.major+1)) (by simp;omega)) rfl rfl (.cons (Sub.refl _) (.cons (Sub.eq (congrArg (fun x=>AV.p (.sl 5 x)) hD)) .nil)) ⟨?_,rfl⟩))
     rw [hend];rfl
    ·have hqlt:=zh hq
     have hb1:b0=r.p:=by rw [<- hb0e,if_neg (by omega)]
     rw [hb1]
     clear hb0 hb0e
     obtain ⟨x,y,g1,g2,g3,g4,g5,g6⟩:=zvt ty (r.p+q.length) htw (by omega)
     have r0:(encTs (piD (r.p+q.length) ty).args)[0]?=some (rowT x):=by rw [g3];simp [zb]
     have r1:(encTs (piD (r.p+q.length) ty).args)[1]?=some (rowT y):=by rw [g3];simp [zb]
     have hfx:((piL ty).drop r.p)[q.length]?=some x:=by rw [List.getElem?_drop];exact g1
     have hsn:hypsF r h args (((piL ty).drop r.p).take (q++[a]).length) [] (q++[a]) U0=addH (hypsF r h args (((piL ty).drop r.p).take q.length) [] q U0) (hypF r h args x q a):=by
      rw [List.length_append,List.length_singleton,z1w hfx,zbg r h args x a _ q [] U0 (by rw [List.length_take];omega),List.nil_append]
     generalize hypsF r h args (((piL ty).drop r.p).take q.length) [] q U0=U at *
     have hxe:=(pi_wf x g5).2
     have hxp:=z4q x
     have hga:=hFg a (zf hq)
     have hgq:∀ v∈args.take r.p++q,wfT 1099511627776 v=true/\dpT v<=268435456:=fun v hv=>by
      rcases List.mem_append.1 hv with hv | hv
      ·have:=ha v (List.mem_of_mem_take hv);exact ⟨this.w,this.d⟩
      ·have:=hFg v (by rw [hq];simp [hv]);exact ⟨this.w,this.d⟩
     have hlq:(args.take r.p++q).length<=1000000000:=by
      have h1:q.length<=F.length:=by omega
      have h2:(args.take r.p).length<=args.length:=by simp;omega
      rw [List.length_append];omega
     have hlen5:=zc (args.take r.p++q)
     have hnl:∀ l∈h.levels,narL l=true:=(zg hg.w).nar
     have hlw:=zb9 (b:=1099511627776) hnl x g5
     have hld:=zgv h.levels x
     have how:=zq4 (b:=1099511627776) (c:=1099512627776) (D:=1000000) (d:=0) (vs:=args.take r.p++q) (by omega) (by rw [hld];omega) (by omega) (fun v hv=>(hgq v hv).1) hlw
     have hod:=zlb (M:=268435456) (fun v hv=>(hgq v hv).2) (lvsT h.levels x) 0
     have hno2:¬ ((headT (piE x)).kind=2/\(headT (piE x)).name=r.fam.name)->hypF r h args x q a=none:=fun hn=>by unfold hypF;rw [if_neg hn]
     have hty1:piD (r.p+(q++[a]).length) ty=y:=by rw [List.length_append,List.length_singleton];exact g4
     have hts:encTs (args.take r.p++q)++[[I a.kind,I a.n,St a.name,.sl 3 (encLs a.levels),.sl 5 (encTs a.args)]]=encTs (args.take r.p++(q++[a])):=by rw [z1h,List.append_assoc]
     have hta:=congrArg List.length hts
     rw [List.length_append] at hta
     refine brT' hq (idxT hq (idxN (i:=0) r0 (call0 (zzl x) (call0 (z3v 1099511627776 (piE x) hxe (by omega)) ?_))))
     refine brS (fun h2=>brS (fun h3=>?_) (fun h3=>?_)) (fun h2=>?_)
     ·have hhy:hypF r h args x q a=some (hypT h args r.p r.fam.ctors.length (opnT (args.take r.p++q) (lvsT h.levels x) 0) a):=by
       unfold hypF hypT
       rw [if_pos ⟨h2,h3⟩,zvs _ _ x h2]
      refine idxN (i:=0) r0 (call0 (z9h h.levels hnl 1099511627776 x g5) (callR [] (zlx 1099511627776 (by omega) (args.take r.p++q) (fun v hv=>⟨(hgq v hv).1,by have:=(hgq v hv).2;omega⟩) (by omega) (lvsT h.levels x) (by rw [hld];omega) hlw) rfl rfl (.cons (Sub.refl _) (.cons Sub.ts .nil)) ?_))
      refine callR [] (zzo 1099512627776 (by omega) h args r.fam r.p r.major _ a how (by rw [hld] at hod;omega) (zk (by omega) a hga.w) (by have:=hga.d;omega) (fun v hv=>⟨zk (by omega) v (ha v hv).w,by have:=(ha v hv).d;omega⟩) (by omega) (by omega) (by omega)) rfl rfl (za _) ?_
      refine call0 (zff U _) ?_
      exact app1 (by simp;omega) (by simp;omega) (idxN (i:=1) r1 (And.intro (by omega) ⟨trivial,Sub.i (by simp),Sub.eq (congrArg (AV.ts 5 5) hts),by rw [hty1];rfl,by rw [hsn,hhy];rfl,ar_eq hta,rfl,rfl,rfl,rfl,trivial⟩))
     ·exact app1 (by simp;omega) (by simp;omega) (idxN (i:=1) r1 (And.intro (by omega) ⟨trivial,Sub.i (by simp),Sub.eq (congrArg (AV.ts 5 5) hts),by rw [hty1];rfl,by rw [hsn,hno2 (fun hc=>h3 hc.2)];rfl,ar_eq hta,rfl,rfl,rfl,rfl,trivial⟩))
     ·exact app1 (by simp;omega) (by simp;omega) (idxN (i:=1) r1 (And.intro (by omega) ⟨trivial,Sub.i (by simp),Sub.eq (congrArg (AV.ts 5 5) hts),by rw [hty1];rfl,by rw [hsn,hno2 (fun hc=>h2 hc.1)];rfl,ar_eq hta,rfl,rfl,rfl,rfl,trivial⟩))
section
variable (ds : List Dcl) (pv ov : Nat) (pl : Option (List (ByteArray × Int)))
def WhCon (c:Int) (t:Trm) (f:Int) (x:WR):Prop:=Con Tryz.prog 121 [.ptr 1000 0,tv t] (runO ds pv ov pl f c) (fun r o=>r=.tp [tv x.1,.p (I x.2.2)]/\o=runO ds pv ov pl x.2.1 c)
def orV (x:OR):AV:=.tp [tv x.1,.p (B x.2.1),.p (I x.2.2.2)]
def OnCon (c:Int) (t:Trm) (f:Int) (x:OR):Prop:=Con Tryz.prog 166 [.ptr 1000 0,tv t] (runO ds pv ov pl f c) (fun r o=>r=orV x/\o=runO ds pv ov pl x.2.2.1 c)
theorem zwx {c f:Int} {u:Trm} {x:OR} (h:mdF c f u=some x):mdV c f u=orV x/\stM f=x.2.2.1:=by
 unfold mdF at h
 unfold mdV stM orV
 split at h
 ·rename_i hf;cases h;rw [if_pos hf,if_pos hf];exact ⟨rfl,rfl⟩
 ·rename_i hf
  rw [if_neg hf,if_neg hf]
  split at h
  ·unfold fitV
   split at h
   ·rename_i hft;cases h;rw [if_pos hft,if_pos hft,hft];exact ⟨rfl,rfl⟩
   ·rename_i hft;cases h;rw [if_neg hft,if_neg hft,Bool.eq_false_iff.2 hft];exact ⟨rfl,rfl⟩
  ·cases h
theorem Mt.fu {f f' c:Int} (h:Mt f c) (k:Fu f f'):Mt f' c:=by
 have:=h.f0;have:=h.f1
 unfold Fu at k
 exact ⟨by omega,by omega,h.c0,h.c1⟩
def rcF (c:Int) (wh:Trm->Int->Option WR) (t:Trm) (f:Int):Option OR :=
 match lookF ds t with
 | none=>some (t,false,f,0)
 | some r=>match wh ((argsT t).getD r.major zT) f with
   | none=>none
   | some (m,f',e)=>if e≠0 then some (zT,false,f',e) else (match iotR r (headT t) (argsT t) m with
     | some u=>mdF c f' u
     | none=>some (t,false,f',0))
set_option maxHeartbeats 4000000 in
theorem zzp (h:EnvG ds pl) (c:Int) (wh:Trm->Int->Option WR) (hk:∀ t f u f' e,Gd t->wh t f=some (u,f',e)->Gd u/\Fu f f') (t:Trm) (hg:Gd t) (f:Int) (hm:Mt f c) (ih:∀ t f x,Gd t->Mt f c->wh t f=some x->WhCon ds pv ov pl c t f x) (x:OR) (hx:rcF ds c wh t f=some x) :
  Con Tryz.prog 208 [.ptr 1000 0,tv t] (runO ds pv ov pl f c) (fun r o=>r=orV x/\o=runO ds pv ov pl x.2.2.1 c):=by
 have hal:=hg.args
 have hel:=zc (argsT t)
 unfold rcF at hx
 refine cv [] [] [1000,1004,1005,1006,1007] Tryz.func208 62 Tryz.ntmps208 rfl rfl fun cx hE=>callR [1004,1005,1006,1007] (zwr ds pv ov pl h t hg) rfl rfl (za _) ?_
 cases hl:lookF ds t with
 | none =>
   rw [hl] at hx;cases hx
   exact brB (fun _=>⟨rfl,rfl⟩) (fun h=>by cases h)
 | some r =>
   rw [hl] at hx
   simp only at hx
   have hr:z1y ds (headT t)=some r/\r.major<(argsT t).length:=by
    unfold lookF at hl
    cases hi:z1y ds (headT t) with
    | none=>rw [hi] at hl;cases hl
    | some r' =>
      rw [hi] at hl
      simp only [Option.bind_some] at hl
      split at hl
      ·cases hl;exact ⟨rfl,by assumption⟩
      ·cases hl
   obtain ⟨hrf,hrm⟩:=z6g hr.1
   have hag:(argsT t)[r.major]?=some ((argsT t).getD r.major zT):=by rw [List.getD_eq_getElem?_getD,List.getElem?_eq_getElem hr.2];rfl
   have hrow:(encTs (argsT t))[r.major]?=some (rowT ((argsT t).getD r.major zT)):=by rw [zb,List.getElem?_map,hag];rfl
   have hgd:=Gd.getD hal.1 r.major
   cases hw:wh ((argsT t).getD r.major zT) f with
   | none=>rw [hw] at hx;cases hx
   | some y =>
     obtain ⟨m,f1,e⟩:=y
     rw [hw] at hx
     simp only at hx
     have hmk:=hk _ _ _ _ _ hgd hw
     refine brB (fun h=>by cases h) (fun _=>idxN (i:=r.major) hrow (call1 [1000,1004,1005,1006,1007] (ih _ f _ hgd hm hw) rfl rfl (za _) (brS (fun he=>?_) (fun he=>?_))))
     ·rw [if_pos he] at hx;cases hx
      exact ⟨rfl,rfl⟩
     ·rw [if_neg he] at hx
      refine call0 (zww r (headT t) (argsT t) hg.head hal.1 hal.2 (h.g _ hrf) hr.2 hrm m hmk.1) ?_
      cases hio:iotR r (headT t) (argsT t) m with
      | none =>
        rw [hio] at hx;cases hx
        exact brB (fun _=>⟨rfl,rfl⟩) (fun h=>by cases h)
      | some u =>
        rw [hio] at hx
        simp only at hx
        obtain ⟨e1,e2⟩:=zwx hx
        rw [<- e1,<- e2]
        have hm1:=Mt.fu hm hmk.2
        refine brB (fun h=>by cases h) (fun _=>call1 [1000,1004,1005,1006,1007] (zap ds pv ov pl f1 c hm1) rfl rfl (za _) (brS (fun hs=>⟨?_,rfl⟩) (fun hs=>?_)))
        ·have hf:f1<=0:=Classical.byContradiction fun hn=>hs (by unfold stE;rw [if_neg hn])
         unfold mdV stE;rw [if_pos hf,if_pos hf];rfl
        ·have hf:¬ f1<=0:=fun hn=>hs (by unfold stE;rw [if_pos hn];decide)
         unfold mdV;rw [if_neg hf]
         have:=hm1.f1
         have e3:stM f1=f1-1:=by unfold stM;rw [if_neg hf]
         exact call1 [1000,1004,1005,1006,1007] (zfe ds pv ov pl (stM f1) c ⟨by omega,by omega,hm.c0,hm.c1⟩ u) rfl rfl (za _) ⟨rfl,rfl⟩
theorem zwy {c:Int} {wh:Trm->Int->Option WR} {t:Trm} {f:Int} {d:Dcl} (h2:(headT t).kind=2) (hd:findD ds (headT t).name=some d) (hk:¬ (d.kind=2/\d.params=(headT t).levels.length)):onF ds c wh t f=rcF ds c wh t f:=by
 unfold onF rcF
 rw [if_neg (fun hc=>by omega),if_neg (by omega),if_pos h2,hd]
 simp only
 rw [if_neg hk]
 unfold lookF
 cases hi:z1y ds (headT t) with
 | none=>rfl
 | some r =>
   simp only [Option.bind_some]
   by_cases hl:r.major<(argsT t).length
   ·rw [if_pos hl,if_pos hl]
    simp only
    cases wh ((argsT t).getD r.major zT) f with
    | none=>rfl
    | some y =>
      obtain ⟨m,f1,e⟩:=y
      simp only
      by_cases he:e≠0
      ·rw [if_pos he,if_pos he]
      ·rw [if_neg he,if_neg he,zag,hi]
       simp only [Option.bind_some,if_pos hl]
       all_goals rfl
   ·rw [if_neg hl,if_neg hl]
theorem zqx {l:List Trm} (h:l.length=3):∃ x y z,l=[x,y,z]:=by
 match l,h with
 | [x,y,z],_=>exact ⟨x,y,z,rfl⟩
set_option maxHeartbeats 8000000 in
theorem zwz (h:EnvG ds pl) (c:Int) (wh:Trm->Int->Option WR) (hk:∀ t f u f' e,Gd t->wh t f=some (u,f',e)->Gd u/\Fu f f') (t:Trm) (hg:Gd t) (f:Int) (hm:Mt f c) (ih:∀ t f x,Gd t->Mt f c->wh t f=some x->WhCon ds pv ov pl c t f x) (x:OR) (hx:onF ds c wh t f=some x) :
  OnCon ds pv ov pl c t f x:=by
 have hal:=hg.args
 have hel:=zc (argsT t)
 have hhg:=hg.head
 have hd:=hg.d
 have hll:=zp (headT t).levels
 have hlf:=(zg hhg.w).few
 unfold OnCon
 have hstay:∀ {y:OR},some (t,false,f,(0:Int))=some y->y=(t,false,f,0):=fun e=>by cases e;rfl
 refine cv [] [] [1000,1004,1005,1006,1007] Tryz.func166 122 Tryz.ntmps166 rfl rfl fun cx hE=>call0 (z3v 1099511627776 t hg.w (by omega)) ?_
 have beta:∀ (body v:Trm) (l:List Trm),Gd body->Gd v->l.length<=1000000000->mdF c f (appT (opnT [v] body 0) l)=some x->Con Tryz.prog 204 [.ptr 1000 0,tv body,tv v,.p (.sl 5 (encTs l))] (runO ds pv ov pl f c) (fun r o=>r=orV x/\o=runO ds pv ov pl x.2.2.1 c):=fun body v l g1 g2 g3 e=>by
  have hb:=zwq ds pv ov pl f c hm body v g1 g2 l g3
  obtain ⟨e1,e2⟩:=zwx e
  rw [e1,e2] at hb
  exact hb
 have stuck:¬ ((headT t).kind=4/\argsT t≠[])->(headT t).kind≠6->(headT t).kind≠2->x=(t,false,f,0):=fun n1 n2 n3=>by
  unfold onF at hx
  rw [if_neg n1,if_neg n2,if_neg n3] at hx
  exact hstay hx
 have letb:(headT t).kind=6->∃ a b d,(headT t).args=[a,b,d]/\mdF c f (appT (opnT [b] d 0) (argsT t))=some x/\Gd b/\Gd d:=fun hk6=>by
  have hn:=(zg hhg.w).args
  have h3:(headT t).args.length=3:=by rw [hk6] at hn;unfold argF at hn;simp at hn;omega
  obtain ⟨a,b,d,ha⟩:=zqx h3
  refine ⟨a,b,d,ha,?_,hhg.sub (by rw [ha];simp),hhg.sub (by rw [ha];simp)⟩
  unfold onF at hx
  rw [if_neg (fun hc=>by omega),if_pos hk6,ha] at hx
  exact hx
 refine brS (fun h4=>fun _=>brS (fun h5=>?_) (fun h5=>?_)) (fun h4=>?_)
 ·have hne:argsT t≠[]:=fun hn=>by
   have:(argsT t).length=0:=by rw [hn];rfl
   omega
  obtain ⟨a0,rest,har⟩:=List.exists_cons_of_ne_nil hne
  obtain ⟨ty,body,hba⟩:=z4h hhg.w (.inr (.inl h4))
  have hrl:rest.length<=1000000000:=by have:=hal.2;rw [har] at this;simp at this;omega
  unfold onF at hx
  rw [if_pos ⟨h4,hne⟩,har,hba] at hx
  simp only [List.getD_cons_zero,List.getD_cons_succ,List.drop_one,List.tail_cons] at hx
  have hb:=beta body a0 rest (hhg.sub (by rw [hba];simp)) (hal.1 a0 (by rw [har];simp)) hrl hx
  have r1:(encTs (headT t).args)[1]?=some (rowT body):=by rw [hba];simp [zb]
  have r0:(encTs (argsT t))[0]?=some (rowT a0):=by rw [har];simp [zb]
  have hD:(encTs (argsT t)).drop (1:Int).toNat=encTs rest:=by rw [har];simp [zb]
  exact idxN (i:=1) r1 (idxN (i:=0) r0 (And.intro (by omega) (callW [1000,1004,1005,1006,1007] 1000 (.ce 107 [.ptr 1004 0,.p (I x.2.2.1),.p (I c)]) hb rfl rfl (.cons (Sub.refl _) (.cons (Sub.refl _) (.cons (Sub.refl _) (.cons (Sub.eq (congrArg (fun x=>AV.p (.sl 5 x)) hD)) .nil)))) rfl rfl ⟨rfl,rfl⟩)))
 ·have hn:argsT t=[]:=List.eq_nil_of_length_eq_zero (by omega)
  rw [stuck (fun hc=>hc.2 hn) (by omega) (by omega)]
  exact brZ (by omega) (brY (by omega) ⟨rfl,rfl⟩)
 ·refine brS (fun h6=>?_) (fun h6=>?_)
  ·obtain ⟨a,b,d,ha,hmd,g1,g2⟩:=letb h6
   have hb:=beta d b (argsT t) g2 g1 (by omega) hmd
   have r2:(encTs (headT t).args)[2]?=some (rowT d):=by rw [ha];simp [zb]
   have r1:(encTs (headT t).args)[1]?=some (rowT b):=by rw [ha];simp [zb]
   exact idxN (i:=2) r2 (idxN (i:=1) r1 (callW [1000,1004,1005,1006,1007] 1000 (.ce 107 [.ptr 1004 0,.p (I x.2.2.1),.p (I c)]) hb rfl rfl (za _) rfl rfl ⟨rfl,rfl⟩))
  ·refine brS (fun h2=>?_) (fun h2=>?_)
   ·rw [stuck (fun hc=>h4 hc.1) h6 h2]
    exact ⟨rfl,rfl⟩
   ·have hk2:(headT t).kind=2:=Classical.byContradiction fun hn=>h2 hn
    refine callR [1004,1005,1006,1007] (zbq ds pv ov pl h (headT t).name) rfl rfl (za _) ?_
    have hon:∀ y,onF ds c wh t f=some y->x=y:=fun y hy=>by rw [hx] at hy;cases hy;rfl
    cases hf:findD ds (headT t).name with
    | none =>
      have:x=(t,false,f,0):=hon _ (by unfold onF;rw [if_neg (fun hc=>by omega),if_neg h6,if_pos hk2,hf])
      rw [this]
      exact ⟨rfl,rfl⟩
    | some d =>
      have hdo:=h.g d (z3o hf)
      simp only [okE,Bool.and_eq_true,decide_eq_true_eq,List.all_eq_true] at hdo
      obtain ⟨ho1,ho2,ho3,ho4,ho5,ho6⟩:=hdo
      have hvf:=z2v ho2
      have hrec:¬ (d.kind=2/\d.params=(headT t).levels.length)->rcF ds c wh t f=some x:=fun hn=>by rw [<- zwy ds hk2 hf hn];exact hx
      have hnoR:¬ (d.kind=5/\d.params=(headT t).levels.length)->¬ (d.kind=2/\d.params=(headT t).levels.length)->x=(t,false,f,0):=fun n1 n2=>by
       have h1:=hrec n2
       have h3:lookF ds t=none:=by
        unfold lookF z1y
        rw [if_pos hk2,hf]
        simp only
        rw [if_neg n1];rfl
       unfold rcF at h1
       rw [h3] at h1
       exact hstay h1
      refine brS (fun hp=>?_) (fun hp=>?_)
      ·rw [hnoR (fun hc=>hp (by rw [hll,hc.2])) (fun hc=>hp (by rw [hll,hc.2]))]
       exact ⟨rfl,rfl⟩
      have hpp:d.params=(headT t).levels.length:=by omega
      refine brS (fun hd2=>?_) (fun hd2=>?_)
      ·have hmd:mdF c f (appT (lvsT (headT t).levels d.value) (argsT t))=some x:=by
        unfold onF at hx
        rw [if_neg (fun hc=>by omega),if_neg h6,if_pos hk2,hf] at hx
        simp only at hx
        rw [if_pos ⟨hd2,hpp⟩] at hx
        exact hx
       obtain ⟨e1,e2⟩:=zwx hmd
       rw [<- e1,<- e2]
       refine call1 [1000,1004,1005,1006,1007] (zap ds pv ov pl f c hm) rfl rfl (za _) (brS (fun hs=>⟨?_,rfl⟩) (fun hs=>?_))
       ·have hf0:f<=0:=Classical.byContradiction fun hn=>hs (by unfold stE;rw [if_neg hn])
        unfold mdV stE;rw [if_pos hf0,if_pos hf0];rfl
       ·have hf0:¬ f<=0:=fun hn=>hs (by unfold stE;rw [if_pos hn];decide)
        unfold mdV;rw [if_neg hf0]
        have:=hm.f1
        have e3:stM f=f-1:=by unfold stM;rw [if_neg hf0]
        exact call0 (z9h (headT t).levels (zg hhg.w).nar 1099511627776 d.value hvf.w) (call0 (z2t _ (argsT t) (by omega)) (callR [1000,1004,1005,1006,1007] (zfe ds pv ov pl (stM f) c ⟨by omega,by omega,hm.c0,hm.c1⟩ _) rfl rfl (za _) ⟨rfl,rfl⟩))
      ·refine brS (fun hd5=>?_) (fun hd5=>?_)
       ·exact call1 [1000,1004,1005,1006,1007] (zzp ds pv ov pl h c wh hk t hg f hm ih x (hrec (fun hc=>hd2 hc.1))) rfl rfl (za _) ⟨rfl,rfl⟩
       ·rw [hnoR (fun hc=>hd5 hc.1) (fun hc=>hd2 hc.1)]
        exact ⟨rfl,rfl⟩
theorem zm2 (h:EnvG ds pl) (c:Int) (g:Nat):∀ (t:Trm) (f:Int) (x:WR),Gd t->Mt f c->whF ds c g t f=some x->WhCon ds pv ov pl c t f x:=by
 induction g using Nat.strongRecOn with
 | _ G IH =>
   intro t f x hg hm hx
   have key:∀ (k:Nat),k<G->∀ (u:Trm) (f':Int),Gd u->Mt f' c->∀ y,onF ds c (whF ds c k) u f'=some y->OnCon ds pv ov pl c u f' y:=fun k hk u f' g1 m1 y hy=>zwz ds pv ov pl h c (whF ds c k) (fun t f u f' e=>z1u k t f u f' e) u g1 f' m1 (fun t f x=>IH k hk t f x) y hy
   unfold WhCon
   refine cv [] [] [1000,1004,1005,1006,1007] Tryz.func121 26 Tryz.ntmps121 rfl rfl fun cx hE=>?_
   refine loop3 (fun (u:Trm) (f':Int) (k:Nat)=>[]) (fun u f' k=>[(3,ceT u),(1000,.ce 107 [.ptr 1004 0,.p (I f'),.p (I c)])]) (fun u f' k=>Gd u/\Mt f' c/\k<=G/\whF ds c k u f'=some x) (fun u f' k=>k) t f G [] [3,1000] hE rfl rfl rfl ⟨rfl,rfl,rfl,rfl,rfl,rfl,rfl,trivial⟩ ⟨hg,hm,Nat.le_refl _,hx⟩ fun u f' k ⟨g1,g2,g3,g4⟩=>?_
   cases k with
   | zero=>cases g4
   | succ k =>
     simp only [whF] at g4
     cases ho:onF ds c (whF ds c k) u f' with
     | none=>rw [ho] at g4;cases g4
     | some y =>
       obtain ⟨u1,did,f1,e⟩:=y
       rw [ho] at g4
       simp only at g4
       have hkp:=zai (fun t f u f' e=>z1u k t f u f' e) g1 ho
       refine call1 [1000,1004,1005,1006,1007] (key k (by omega) u f' g1 g2 _ ho) rfl rfl (za _) (brS (fun he=>?_) (fun he=>?_))
       ·rw [if_pos he] at g4;cases g4
        exact ⟨rfl,rfl⟩
       ·rw [if_neg he] at g4
        refine brB (fun hn=>?_) (fun hn=>?_)
        ·have hd:did=false:=by simpa using hn
         subst hd
         have he0:e=0:=Classical.byContradiction fun hc=>he hc
         subst he0
         have hu:=zco ho
         subst hu
         cases g4
         exact ⟨rfl,rfl⟩
        ·have hd:did=true:=by simpa using hn
         subst hd
         exact ⟨u1,f1,k,⟨hkp.1,Mt.fu g2 hkp.2,by omega,g4⟩,by omega,rfl,rfl,rfl,rfl,rfl,rfl,rfl,trivial⟩
end
theorem zzq (l:List Trm) (hl:l.length<=1000):PCon Tryz.prog 69 [.p (.sl 5 (encTs l))] (.p (B (!(l.all okW)))):=by
 refine cv [] [] [] Tryz.func69 25 Tryz.ntmps69 rfl rfl fun cx hE=>fun _=>?_
 refine loopP l (fun p=>[(9,.p (I p.length))]) (fun p=>[]) (fun p=>p.all okW=true) [9] [] hE rfl rfl rfl ⟨Sub.refl _,trivial⟩ rfl (fun hp=>brTe ⟨B_eq (by rw [hp];rfl),rfl⟩) (fun p a q hq hp=>?_)
 have:=zh hq
 have hno:okW a=false->l.all okW=false:=fun h=>by rw [hq];simp [h]
 refine brT' hq (idxT hq (call0 (zkl a 1048576 (by omega) (by omega)) (brB (fun h1=>?_) (fun h1=>brS (fun h2=>?_) (fun h2=>And.intro (by omega) ?_)))))
 ·have h1':(thrT 1048576 a 0).1=false:=by simpa using h1
  exact ⟨B_eq (by rw [hno (by unfold okW;rw [h1'];rfl)];rfl),rfl⟩
 ·exact ⟨B_eq (by rw [hno (by unfold okW;simp;intro _;omega)];rfl),rfl⟩
 ·have h1':(thrT 1048576 a 0).1=true:=by simpa using h1
  refine ⟨?_,Sub.i (by simp),trivial⟩
  rw [List.all_append,hp]
  simp [okW,h1']
  omega
section
variable (ds : List Dcl) (pv ov : Nat) (pl : Option (List (ByteArray × Int)))
def xwV (c:Int) (x:WR):AV:=.tp [tv x.1,mv x.2.1 c,.p (I x.2.2)]
def onV (c:Int) (x:OR):AV:=.tp [tv x.1,.p (B x.2.1),mv x.2.2.1 c,.p (I x.2.2.2)]
end
theorem zm3 (t:Trm) (hg:Gd t):PCon Tryz.prog 136 [tv t] (tv (ovrT t)):=by
 have hA:=z2t (lftT 1 t 0) [mkV 0] (by simp)
 rw [show encTs [mkV 0]=[rowT (mkV 0)] by simp [zb]] at hA
 have hd:=hg.d
 exact cv [] [] [] Tryz.func136 8 Tryz.ntmps136 rfl rfl fun cx hE=>call0 (zao 1 0 1099511627776 (by omega) (by omega) (by omega) (by omega) (by omega) t (by omega) hg.w) (call0 (zqt 0) (call0 hA ⟨rfl,rfl⟩))
def crV (x:CR):AV:=.tp [.p (B x.1),.p (I x.2.2)]
section
variable (ds : List Dcl) (pv ov : Nat) (pl : Option (List (ByteArray × Int)))
def MnC (c:Int) (a b:Trm) (f:Int) (x:CR):Prop:=Con Tryz.prog 89 [.ptr 1000 0,tv a,tv b] (runO ds pv ov pl f c) (fun r o=>r=crV x/\o=runO ds pv ov pl x.2.1 c)
set_option maxHeartbeats 8000000 in
theorem zm4 (c:Int) (cf:Trm->Trm->Int->Option CR) (hk:∀ a b f x,Gd a->Gd b->cf a b f=some x->CK f x) (ih:∀ a b f x,Gd a->Gd b->LOK a->LOK b->Mt f c->cf a b f=some x->MnC ds pv ov pl c a b f x) (l m:List Trm) (hl:∀ a∈l,Gd a/\LOK a) (hm:∀ a∈m,Gd a/\LOK a) (hlen:l.length=m.length) (h28:l.length<=268435456) (f:Int) (hf:Mt f c) (y:CR) (hy:allF cf l m f=some y) :
  Con Tryz.prog 135 [.ptr 1000 0,.p (.sl 5 (encTs l)),.p (.sl 5 (encTs m))] (runO ds pv ov pl f c) (fun r o=>r=crV y/\o=runO ds pv ov pl y.2.1 c):=by
 have hel:=zc l
 have hem:=zc m
 refine cv [] [] [1000,1004,1005,1006,1007] Tryz.func135 37 Tryz.ntmps135 rfl rfl fun cx hE=>fun _=>?_
 refine loop2 (fun (i:Nat) (k:Int)=>[(13,.p (I i))]) (fun i k=>[(1000,.ce 107 [.ptr 1004 0,.p (I k),.p (I c)])]) (fun i k=>allF cf (l.drop i) (m.drop i) k=some y/\Mt k c/\i<=l.length) (fun i k=>l.length-i) 0 f [13] [1000] hE rfl rfl rfl ⟨Sub.refl _,rfl,rfl,rfl,rfl,rfl,trivial⟩ ⟨hy,hf,by omega⟩ fun i k ⟨i1,i2,i3⟩=>?_
 refine brS (fun hlt=>?_) (fun hlt=>?_)
 ·have hil:i<l.length:=by omega
  have him:i<m.length:=by omega
  have hgl:l[i]?=some (l[i]):=List.getElem?_eq_getElem hil
  have hgm:m[i]?=some (m[i]):=List.getElem?_eq_getElem him
  have ha:=hl _ (List.getElem_mem hil)
  have hb:=hm _ (List.getElem_mem him)
  rw [List.drop_eq_getElem_cons hil,List.drop_eq_getElem_cons him] at i1
  generalize l[i]=a at hgl ha i1
  generalize m[i]=b at hgm hb i1
  have r1:(encTs l)[i]?=some (rowT a):=by rw [zb,List.getElem?_map,hgl];rfl
  have r2:(encTs m)[i]?=some (rowT b):=by rw [zb,List.getElem?_map,hgm];rfl
  simp only [allF] at i1
  cases hc:cf a b k with
  | none=>rw [hc] at i1;cases i1
  | some q =>
    have hcc:=ih a b k q ha.1 hb.1 ha.2 hb.2 i2 hc
    have hkk:=hk a b k q ha.1 hb.1 hc
    rw [hc] at i1
    obtain ⟨is,k1,e⟩:=q
    simp only at i1 hkk
    refine idxN r1 (idxN r2 (callW [1000,1004,1005,1006,1007] 1000 (.ce 107 [.ptr 1004 0,.p (I k1),.p (I c)]) hcc rfl rfl (za _) rfl rfl ?_))
    refine brB (fun hi=>?_) (fun hi=>brS (fun he=>?_) (fun he=>?_))
    ·have hi':is=false:=by simpa using hi
     rw [if_pos (.inr hi')] at i1;cases i1;exact ⟨rfl,rfl⟩
    ·rw [if_pos (.inl he)] at i1;cases i1;exact ⟨rfl,rfl⟩
    ·have hi':is=true:=by simpa using hi
     rw [if_neg (fun h=>h.elim he (fun h=>by rw [hi'] at h;cases h))] at i1
     exact And.intro (by omega) ⟨i+1,k1,⟨i1,i2.fu hkk.1,by omega⟩,by omega,Sub.i (by simp),rfl,rfl,rfl,rfl,rfl,trivial⟩
 ·rw [List.drop_eq_nil_of_le (by omega),List.drop_eq_nil_of_le (by omega)] at i1
  simp only [allF,Option.some.injEq] at i1
  subst i1
  exact ⟨rfl,rfl⟩
set_option maxHeartbeats 16000000 in
theorem zm5 (h:EnvG ds pl) (hl:EnvA pL ds) (c:Int):∀ (g:Nat) (a b:Trm) (f:Int) (x:CR),Gd a->Gd b->LOK a->LOK b->Mt f c->cvF ds c g a b f=some x->MnC ds pv ov pl c a b f x
 | 0,_,_,_,_,_,_,_,_,_,hx=>by cases hx
 | g + 1, a, b,f,x,ga,gb,la,lb,hm,hx=>by
   simp only [cvF] at hx
   unfold MnC
   refine cv [] [1000015] [1000,1004,1005,1006,1007] Tryz.func89 141 Tryz.ntmps89 rfl rfl fun cx hE=>callX [1000,1004,1005,1006,1007] (zap ds pv ov pl f c hm) rfl rfl (za _) fun r o ⟨q1,q2⟩=>?_
   subst q1 q2
   refine brS (fun hs=>?_) (fun hs=>?_)
   ·have hf0:f<=0:=Classical.byContradiction fun hn=>hs (by unfold stE;rw [if_neg hn])
    rw [if_pos hf0] at hx;cases hx
    unfold stE stM;rw [if_pos hf0,if_pos hf0]
    exact ⟨rfl,rfl⟩
   have hf0:¬ f<=0:=fun hn=>hs (by unfold stE;rw [if_pos hn];decide)
   rw [if_neg hf0] at hx
   have e3:stM f=f-1:=by unfold stM;rw [if_neg hf0]
   have hm1:Mt (f-1) c:=⟨by omega,by have:=hm.f1;omega,hm.c0,hm.c1⟩
   rw [e3]
   refine call0 (z3m a b la.lv lb.lv) (brB (fun hk=>?_) (fun hk=>?_))
   ·rw [if_pos hk] at hx;cases hx;exact ⟨rfl,rfl⟩
   rw [if_neg (by rw [hk];decide)] at hx
   cases hw:whF ds c g a (f-1) with
   | none=>rw [hw] at hx;cases hx
   | some y =>
     have hwc:=zm2 ds pv ov pl h c g a (f-1) y ga hm1 hw
     have hkw:=z1u g a (f-1) y.1 y.2.1 y.2.2 ga hw
     have hlw:=fun (e0:y.2.2=0)=>la.wh hl (show whF ds c g a (f-1)=some (y.1,y.2.1,0) by rw [hw,<- e0])
     rw [hw] at hx
     refine callX [1000,1004,1005,1006,1007] hwc rfl rfl (za _) fun r o ⟨q1,q2⟩=>?_
     subst q1 q2
     obtain ⟨w,f1,e⟩:=y
     simp only at hx hkw hlw
     refine brS (fun he=>?_) (fun he=>?_)
     ·simp only at he
      rw [if_pos he] at hx;cases hx;exact ⟨rfl,rfl⟩
     simp only at he
     rw [if_neg he] at hx
     have lw:=hlw (Classical.byContradiction fun h=>he h)
     have hm2:=hm1.fu hkw.2
     cases hv:whF ds c g b f1 with
     | none=>rw [hv] at hx;cases hx
     | some z =>
       have hvc:=zm2 ds pv ov pl h c g b f1 z gb hm2 hv
       have hkv:=z1u g b f1 z.1 z.2.1 z.2.2 gb hv
       have hlv:=fun (e0:z.2.2=0)=>lb.wh hl (show whF ds c g b f1=some (z.1,z.2.1,0) by rw [hv,<- e0])
       rw [hv] at hx
       refine callX [1000,1004,1005,1006,1007] hvc rfl rfl (za _) fun r o ⟨q1,q2⟩=>?_
       subst q1 q2
       obtain ⟨v,f2,e2⟩:=z
       simp only at hx hkv hlv
       refine brS (fun he2=>?_) (fun he2=>?_)
       ·simp only at he2
        rw [if_pos he2] at hx;cases hx;exact ⟨rfl,rfl⟩
       simp only at he2
       rw [if_neg he2] at hx
       have lv':=hlv (Classical.byContradiction fun h=>he2 h)
       have hm3:=hm2.fu hkv.2
       have gw:=hkw.1
       have gv:=hkv.1
       have hkn:∀ a b f x,Gd a->Gd b->cvF ds c g a b f=some x->CK f x:=fun a b f x=>z6i g a b f x
       have ih:∀ a b f x,Gd a->Gd b->LOK a->LOK b->Mt f c->cvF ds c g a b f=some x->MnC ds pv ov pl c a b f x:=fun a b f x=>zm5 h hl c g a b f x
       generalize hcf:cvF ds c g=cf at *
       clear hw hv hwc hvc hlw hlv hkw hkv
       unfold hdF at hx
       refine call0 (z3m w v lw.lv lv'.lv) (brB (fun hk2=>?_) (fun hk2=>?_))
       ·rw [if_pos hk2] at hx;cases hx;exact ⟨rfl,rfl⟩
       rw [if_neg (by rw [hk2];decide)] at hx
       refine join0 [(54,.p (B (decide (w.kind=v.kind/\(w.kind=4\/w.kind=5)))))] [] [54] [] [] hE rfl rfl rfl ?_ ?_
       ·refine brS (fun (x4:w.kind=4)=>brS (fun (y4:v.kind=4)=>⟨Sub.bt (by omega),rfl,rfl,rfl,rfl,rfl,rfl,rfl,rfl,rfl,trivial⟩) (fun (y4:¬ v.kind=4)=>brS (fun (x5:w.kind=5)=>absurd x5 (by omega)) (fun _=>⟨Sub.bf (by omega),rfl,rfl,rfl,rfl,rfl,rfl,rfl,rfl,rfl,trivial⟩))) (fun (x4:¬ w.kind=4)=>brS (fun (x5:w.kind=5)=>⟨Sub.bd (by show v.kind=5↔_;omega),rfl,rfl,rfl,rfl,rfl,rfl,rfl,rfl,rfl,trivial⟩) (fun (x5:¬ w.kind=5)=>⟨Sub.bf (by omega),rfl,rfl,rfl,rfl,rfl,rfl,rfl,rfl,rfl,trivial⟩))
       refine brS (fun hP=>?_) (fun hP=>brS (fun x4=>?_) (fun x4=>brS (fun y4=>?_) (fun y4=>?_)))
       ·rw [if_pos hP] at hx
        have hlen:w.args.length=2/\v.args.length=2:=by
         obtain ⟨p,q,h1⟩:=z4h gw.w (.inr hP.2)
         obtain ⟨p',q',h2⟩:=z4h gv.w (.inr (by omega))
         rw [h1,h2];exact ⟨rfl,rfl⟩
        refine callX [1000,1004,1005,1006,1007] (zm4 ds pv ov pl c cf hkn ih w.args v.args (fun a h=>⟨gw.sub h,lw.sub h⟩) (fun a h=>⟨gv.sub h,lv'.sub h⟩) (by omega) (by omega) f2 hm3 x hx) rfl rfl (za _) fun r o ⟨q1,q2⟩=>?_
        subst q1 q2
        exact ⟨rfl,rfl⟩
       ·rw [if_neg hP,if_pos x4] at hx
        split at hx
        ·rename_i hg
         obtain ⟨p,q,hpq⟩:=z4h gw.w (.inr (.inl x4))
         have r1:(encTs w.args)[1]?=some (rowT q):=by rw [hpq];simp [zb]
         have hm':q∈w.args:=by rw [hpq];simp
         rw [show w.args.getD 1 zT=q by rw [hpq];rfl] at hx
         have hc:=ih q (ovrT v) f2 x (gw.sub hm') (gdT_iff.1 hg) (lw.sub hm') lv'.ovr hm3 hx
         exact idxN (i:=1) r1 (call0 (zm3 v gv) (callW [1000,1004,1005,1006,1007] 1000 (.ce 107 [.ptr 1004 0,.p (I x.2.1),.p (I c)]) hc rfl rfl (za _) rfl rfl ⟨rfl,rfl⟩))
        ·cases hx
       ·rw [if_neg hP,if_neg x4,if_pos y4] at hx
        split at hx
        ·rename_i hg
         obtain ⟨p,q,hpq⟩:=z4h gv.w (.inr (.inl y4))
         have r1:(encTs v.args)[1]?=some (rowT q):=by rw [hpq];simp [zb]
         have hm':q∈v.args:=by rw [hpq];simp
         rw [show v.args.getD 1 zT=q by rw [hpq];rfl] at hx
         have hc:=ih (ovrT w) q f2 x (gdT_iff.1 hg) (gv.sub hm') lw.ovr (lv'.sub hm') hm3 hx
         exact call0 (zm3 w gw) (idxN (i:=1) r1 (callW [1000,1004,1005,1006,1007] 1000 (.ce 107 [.ptr 1004 0,.p (I x.2.1),.p (I c)]) hc rfl rfl (za _) rfl rfl ⟨rfl,rfl⟩))
        ·cases hx
       ·rw [if_neg hP,if_neg x4,if_neg y4] at hx
        have no:offT w v->x=(false,f2,0):=fun ho=>by rw [if_pos ho] at hx;cases hx;rfl
        have aw:=gw.args;have av:=gv.args
        have e1:=zc (argsT w);have e2:=zc (argsT v)
        have dw:=gw.d;have dv:=gv.d
        refine call0 (z3v 1099511627776 w gw.w (by omega)) (call0 (z3v 1099511627776 v gv.w (by omega)) (fun _=>brS (fun h0=>?_) (fun h0=>fun _=>fun _=>brS (fun hl=>?_) (fun hl=>?_))))
        ·obtain rfl:=no (.inl (List.eq_nil_of_length_eq_zero (by omega)));exact ⟨rfl,rfl⟩
        ·obtain rfl:=no (.inr (.inl (by omega)));exact ⟨rfl,rfl⟩
        have fin:alkT (headT w) (headT v)=true->((headT w).kind=0\/(headT w).kind=2)->_:=fun ha hk=>zm4 ds pv ov pl c cf hkn ih (argsT w) (argsT v) (fun a h=>⟨aw.1 a h,lw.args a h⟩) (fun a h=>⟨av.1 a h,lv'.args a h⟩) (by omega) aw.2 f2 hm3 x (by
         rw [if_neg (fun ho=>by
          rcases ho with ho | ho | ho | ho
          ·rw [ho] at h0;simp [zb] at h0
          ·omega
          ·omega
          ·rw [ha] at ho;cases ho)] at hx
         exact hx)
        have hA:=z3m (headT w) (headT v) lw.head.lv lv'.head.lv
        refine brS (fun k0=>brS (fun k2=>?_) (fun k2=>call0 hA (brB (fun ha=>?_) (fun ha=>?_)))) (fun k0=>call0 hA (brB (fun ha=>?_) (fun ha=>?_)))
        ·obtain rfl:=no (.inr (.inr (.inl ⟨k0,k2⟩)));exact ⟨rfl,rfl⟩
        ·obtain rfl:=no (.inr (.inr (.inr (by simpa using ha))));exact ⟨rfl,rfl⟩
        ·refine callX [1000,1004,1005,1006,1007] (fin (by simpa using ha) (by omega)) rfl rfl (za _) fun r o ⟨q1,q2⟩=>?_
         subst q1 q2
         exact ⟨rfl,rfl⟩
        ·obtain rfl:=no (.inr (.inr (.inr (by simpa using ha))));exact ⟨rfl,rfl⟩
        ·refine callX [1000,1004,1005,1006,1007] (fin (by simpa using ha) (by omega)) rfl rfl (za _) fun r o ⟨q1,q2⟩=>?_
         subst q1 q2
         exact ⟨rfl,rfl⟩
theorem zx0 (a b:Trm) (ha:okW a=true) (hb:okW b=true):PCon Tryz.prog 69 [.p (.sl 5 [rowT a,rowT b])] (.p (B false)):=by
 have:=zzq [a,b] (by simp)
 rw [show encTs [a,b]=[rowT a,rowT b] by simp [zb]] at this
 simpa [ha,hb] using this
def xcV (c:Int) (x:CR):AV:=.tp [.p (B x.1),mv x.2.1 c,.p (I x.2.2)]
theorem z2n (h:EnvG ds pl) (hl:EnvA pL ds) (a b:Trm) (oa:okW a=true) (ob:okW b=true) (ga:Gd a) (gb:Gd b) (la:LOK a) (lb:LOK b) (f c:Int) (hm:Mt f c) (g:Nat) (x:CR) (hx:cvF ds c g a b f=some x) :
  Con Tryz.prog 39 [.ptr 1004 0,tv a,tv b,mv f c] (envQ 1004 [] ds pv pl ov (odO ds)) (fun r o=>r=xcV c x/\o=envQ 1004 [] ds pv pl ov (odO ds)):=by
 have hc:MnC ds pv ov pl c a b f x:=zm5 ds pv ov pl h hl c g a b f x ga gb la lb hm hx
 refine cv [] [] [1004,1005,1006,1007] Tryz.func39 34 Tryz.ntmps39 rfl rfl fun cx hE=>call0 (zx0 a b oa ob) ?_
 refine brB (fun h=>by cases h) (fun _=>?_)
 refine callX [20,1004,1005,1006,1007] (Con.sw hc 1000 20) rfl rfl (za _) fun r o ⟨r0,o0,⟨e1,e2⟩,e3,e4⟩=>?_
 subst e1 e2 e3 e4
 exact ⟨rfl,rfl⟩
end
structure EnvR (ds:List Dcl):Prop where
 g:∀ d∈ds,okE d=true
 k:∀ d∈ds,d.kind=3->0<=d.count
 l:ds.length<=1000000
theorem EnvR.c {ds:List Dcl} (h:EnvR ds):∀ d∈ds,CpD d:=fun d hd=>zz0d (h.g d hd)
theorem zbr (L:List Dcl) (b:Int) (s:ByteArray) (hl:L.length<=1000000000000) (hc:∀ d∈L,CpD d):Con Tryz.prog 79 [.ptr 1000 0,.p (St s)] (refE 1000 L b) (fun r o=>r=fndD (findD L s)/\o=refE 1000 L b):=by
 have hf:=zpe L s
 refine cv [] [] [1000,1001] Tryz.func79 21 Tryz.ntmps79 rfl rfl fun cx hE=>callR [1000,1001] (zuz L b s hl) rfl rfl (za _) (brS (fun h=>?_) (fun h=>?_))
 ·have hx:ixD L s=none:=by
   cases hx:ixD L s with
   | none=>rfl
   | some i=>unfold atF at h;rw [hx] at h;simp at h;omega
  rw [hx] at hf
  rw [hf];exact ⟨rfl,rfl⟩
 ·cases hx:ixD L s with
  | none=>unfold atF at h;rw [hx] at h;simp at h
  | some i =>
    have hlt:=zuf hx
    rw [hx] at hf
    have hi:atF L s=(i:Nat):=by unfold atF;rw [hx];rfl
    have hd:L[i]?=some (L[i]'hlt):=List.getElem?_eq_getElem hlt
    rw [hi,hf]
    refine idxN (row:=rowD (L[i]'hlt)) (by simp [encDs,hd]) (call0 (zbc _ (hc _ (List.getElem_mem hlt))) ?_)
    simp only [Option.bind_some,hd,fndD]
    exact ⟨rfl,rfl⟩
def recL (d:Dcl) (p i:Int):List AV:=[.p (I d.kind),.p (I d.params),.p (I d.count),.p (St d.name),.p (St d.family),.p (I d.type.kind),.p (I d.type.n),.p (St d.type.name),.p (.sl 3 (encLs d.type.levels)),.p (.sl 5 (encTs d.type.args)),
 .p (I d.value.kind),.p (I d.value.n),.p (St d.value.name),.p (.sl 3 (encLs d.value.levels)),.p (.sl 5 (encTs d.value.args)),.p (.sl 6 (encCs d.ctors)),.p (I p),.p (I i)]
theorem zh6 (d:Dcl) (p i:Int) (hc:d.ctors.length<=1000) (p0:0<=p) (p1:p<=1000000000) (i0:0<=i) (i1:i<=1000000000):PCon Tryz.prog 82 [.ag (recL d p i)] (.p (I (p+1+d.ctors.length+i))):=by
 have hcl:(encCs d.ctors).length=d.ctors.length:=by simp [encCs]
 refine cv [] [] [] Tryz.func82 14 Tryz.ntmps82 rfl rfl fun cx hE=>And.intro (by omega) (fun _=>And.intro (by omega) (And.intro (by omega) ⟨?_,rfl⟩))
 rw [hcl]
def ctI:Option Nat->Int
 | some k=>k
 | none=>-1
theorem zx1 (d:Dcl) (p i:Int) (s:ByteArray) (hc:d.ctors.length<=1000):PCon Tryz.prog 132 [.ag (recL d p i),.p (St s)] (.p (I (ctI (z2c d.ctors s)))):=by
 refine cv [] [] [] Tryz.func132 24 Tryz.ntmps132 rfl rfl fun cx hE=>?_
 refine loopP d.ctors (fun q=>[(5,.p (I q.length))]) (fun q=>[]) (fun q=>z2c q s=none) [5] [] hE rfl rfl rfl ⟨Sub.refl _,rfl,trivial⟩ rfl (fun hp=>fun _=>brOut (by simp) ⟨I_eq (by rw [hp];rfl),rfl⟩) (fun q a t hq hp=>fun _=>brIn (by simp [hq]) (idxN (z1m (f:=rowC) hq) (brS (fun he=>⟨I_eq ?_,rfl⟩) (fun he=>And.intro (by have:=zh hq;omega) ⟨?_,Sub.i (by simp),rfl,trivial⟩))))
 ·rw [hq,z8k hp];simp only [z2c,if_pos he];simp [ctI]
 ·rw [z8k hp];simp only [z2c,if_neg he];simp
theorem zoa (d:Dcl) (hg:okE d=true) (p:Nat) (i:Int) (k:Nat) (c:Ctr) (hk:d.ctors[k]?=some c) (hp:p<=1000000000):PCon Tryz.prog 133 [.ag (recL d p i),.p (I k)] (.p (.sl 5 (encTs ((piL c.ty).drop p)))):=by
 simp only [okE,Bool.and_eq_true,decide_eq_true_eq,List.all_eq_true] at hg
 obtain ⟨ho1,ho2,ho3,ho4,ho5,ho6⟩:=hg
 have hty:=z2v (ho4 c (List.mem_of_getElem? hk)).1
 have hrow:(encCs d.ctors)[k]?=some (rowC c):=by rw [encCs,List.getElem?_map,hk];rfl
 obtain ⟨cn,ty⟩:=c
 simp only at hty
 have hd:=hty.d
 have hpl:=z4q ty
 have hel:=zc (piL ty)
 refine cv [] [] [] Tryz.func133 37 Tryz.ntmps133 rfl rfl fun cx hE=>idxN (i:=k) hrow (call0 (z3t ty (by omega)) (call0 (zba 1099511627776 (by omega) ty hty.w (by omega) (piL ty).length (Nat.le_refl _)) ?_))
 rw [List.take_length]
 refine brB (fun hh=>by cases hh) (fun _=>fun _=>brS (fun hlt=>?_) (fun hlt=>?_))
 ·rw [List.drop_eq_nil_of_le (by show (piL ty).length<=p;omega)];exact ⟨rfl,rfl⟩
 ·refine And.intro (by omega) ⟨?_,rfl⟩
  rw [show ((p:Int)).toNat=p by omega];simp [zb]
def recV (ds:List Dcl) (h:Trm):AV :=
 if h.kind=2 then (match findD ds h.name with
  | none=>.tp [.ag (recL zD 0 0),.p (B false)]
  | some d=>if d.kind=5/\d.params=h.levels.length then (match findD ds d.family with
    | none=>.tp [.ag (recL zD 0 0),.p (B false)]
    | some f=>if f.kind=3 then .tp [.ag (recL f f.count ((piL f.type).length-f.count)),.p (B (decide (((piL f.type).length:Int)-f.count≥0)))] else .tp [.ag (recL zD 0 0),.p (B false)]) else .tp [.ag (recL zD 0 0),.p (B false)])
 else .tp [.ag (recL zD 0 0),.p (B false)]
theorem zh7 {ds:List Dcl} (hE:EnvR ds) (h:Trm):(∃ r,z1y ds h=some r/\recV ds h=.tp [.ag (recL r.fam r.p ((r.major:Int)-r.p-1-r.fam.ctors.length)),.p (B true)])\/(z1y ds h=none/\∃ f p i,recV ds h=.tp [.ag (recL f p i),.p (B false)]):=by
 unfold z1y recV
 by_cases hk:h.kind=2
 ·rw [if_pos hk,if_pos hk]
  cases hf:findD ds h.name with
  | none=>exact .inr ⟨rfl,_,_,_,rfl⟩
  | some d =>
    simp only
    by_cases h5:d.kind=5/\d.params=h.levels.length
    ·rw [if_pos h5,if_pos h5]
     cases hg:findD ds d.family with
     | none=>exact .inr ⟨rfl,_,_,_,rfl⟩
     | some f =>
       simp only
       by_cases h3:f.kind=3
       ·rw [if_pos h3]
        have hc0:=hE.k f (z3o hg) h3
        by_cases hc:f.count<=(piL f.type).length
        ·rw [if_pos ⟨h3,hc0,hc⟩]
         refine .inl ⟨_,rfl,?_⟩
         have e1:((f.count.toNat:Nat):Int)=f.count:=by omega
         have e2:(((f.count.toNat+1+f.ctors.length+((piL f.type).length-f.count.toNat):Nat):Int)-f.count-1-f.ctors.length)=(piL f.type).length-f.count:=by omega
         simp only [e1,e2]
         rw [show decide (((piL f.type).length:Int)-f.count≥0)=true by simp;omega]
        ·rw [if_neg (fun hh=>hc hh.2.2)]
         refine .inr ⟨rfl,f,f.count,(piL f.type).length-f.count,?_⟩
         rw [show decide (((piL f.type).length:Int)-f.count≥0)=false by simp;omega]
       ·rw [if_neg h3,if_neg (fun hh=>h3 hh.1)]
        exact .inr ⟨rfl,_,_,_,rfl⟩
    ·rw [if_neg h5,if_neg h5]
     exact .inr ⟨rfl,_,_,_,rfl⟩
 ·rw [if_neg hk,if_neg hk]
  exact .inr ⟨rfl,_,_,_,rfl⟩
set_option maxHeartbeats 8000000 in
theorem zh8 (ds:List Dcl) (b:Int) (hE:EnvR ds) (h:Trm) (hl:h.levels.length<=1000000000000):Con Tryz.prog 81 [.ptr 1000 0,tv h] (refE 1000 ds b) (fun r o=>r=recV ds h/\o=refE 1000 ds b):=by
 have hER:=hE
 have hll:=zp h.levels
 have hld:=hE.l
 unfold recV
 refine cv [] [] [1000,1001] Tryz.func81 66 Tryz.ntmps81 rfl rfl fun cx hE=>brS (fun hk=>?_) (fun hk=>?_)
 ·rw [if_neg hk];exact ⟨rfl,rfl⟩
 have hk2:h.kind=2:=Classical.byContradiction fun hn=>hk hn
 rw [if_pos hk2]
 refine callR [1000,1001] (zbr ds b h.name (by omega) hER.c) rfl rfl (za _) ?_
 cases hf:findD ds h.name with
 | none=>exact brB (fun _=>⟨rfl,rfl⟩) (fun hh=>by cases hh)
 | some d =>
   have hdo:=hER.g d (z3o hf)
   simp only
   refine brB (fun hh=>by cases hh) (fun _=>brS (fun h5=>?_) (fun h5=>fun _=>brS (fun hp=>?_) (fun hp=>?_)))
   ·rw [if_neg (fun hc=>h5 hc.1)];exact ⟨rfl,rfl⟩
   ·rw [if_neg (fun hc=>hp (by omega))];exact ⟨rfl,rfl⟩
   ·have hd5:d.kind=5/\d.params=h.levels.length:=⟨by omega,by omega⟩
    rw [if_pos hd5]
    refine callR [1000,1001] (zbr ds b d.family (by omega) hER.c) rfl rfl (za _) ?_
    cases hg:findD ds d.family with
    | none=>exact brB (fun _=>⟨rfl,rfl⟩) (fun hh=>by cases hh)
    | some f =>
      have hfo:=hER.g f (z3o hg)
      have hfk:=hER.k f (z3o hg)
      simp only [okE,Bool.and_eq_true,decide_eq_true_eq,List.all_eq_true] at hfo
      obtain ⟨ho1,ho2,ho3,ho4,ho5,ho6⟩:=hfo
      have htd:=(z2v ho1).d
      have hpl:=z4q f.type
      simp only
      refine brB (fun hh=>by cases hh) (fun _=>brS (fun h3=>?_) (fun h3=>?_))
      ·rw [if_neg h3];exact ⟨rfl,rfl⟩
      have h33:f.kind=3:=by omega
      rw [if_pos h33]
      exact call0 (z3t f.type (by omega)) (And.intro (by omega) ⟨rfl,rfl⟩)
theorem zm6 (vs:List Trm):∀ (t:Trm) (d:Int),(piL t).length<=(piL (opnT vs t d)).length
 | ⟨k, n,s,ls,l⟩,d=>by
   by_cases hk:k=5/\l.length=2
   ·obtain ⟨hk5,hl⟩:=hk
    obtain ⟨x,y,rfl⟩:=z4p hl
    subst hk5
    have hp:=z2e (u:=⟨5,n,s,ls,[x,y]⟩) rfl rfl
    have ho:opnT vs ⟨5,n,s,ls,[x,y]⟩ d=⟨5,n,s,ls,[opnT vs x (d+bndF 5 0),opnT vs y (d+bndF 5 1)]⟩:=by
     simp [opnT,trvT,trvTs]
    have hp2:=z2e (u:=opnT vs ⟨5,n,s,ls,[x,y]⟩ d) (x:=opnT vs x (d+bndF 5 0)) (y:=opnT vs y (d+bndF 5 1)) (by rw [ho]) (by rw [ho])
    rw [hp2.1,hp.1,List.length_cons,List.length_cons]
    exact Nat.succ_le_succ (zm6 vs y _)
   ·rw [(z2z (u:=⟨k,n,s,ls,l⟩) hk).1];exact Nat.zero_le _
termination_by t=>SizeOf.sizeOf t
theorem zz0h {b:Int}:∀ (n:Nat) (t:Trm),wfT b t=true->wfT b (piD n t)=true/\dpT (piD n t)<=dpT t
 | 0,t,h=>by cases t;exact ⟨h,Nat.le_refl _⟩
 | n + 1,t,h=>by
   by_cases hk:t.kind=5/\t.args.length=2
   ·obtain ⟨x,y,ha⟩:=z4p hk.2
    have hy:=z1c (t:=t) (a:=y) (by rw [ha];simp)
    rw [(z2e hk.1 ha).2.2]
    have:=zz0h n y ((zg h).sub y (by rw [ha];simp))
    exact ⟨this.1,by omega⟩
   ·rw [(z2z hk).2.2];exact ⟨h,Nat.le_refl _⟩
set_option maxHeartbeats 8000000 in
theorem zzr (r:RecI) (i:Int) (h:Trm) (args:List Trm) (field:Trm) (ahead:List Trm) (bb:Trm) (hh:Gd h) (ha:∀ a∈args,Gd a) (hal:args.length<=268435456) (hc:r.fam.ctors.length<=1000) (hp:r.p+1+r.fam.ctors.length<=args.length)
  (hf:Fz 100000 field) (had:∀ a∈ahead,Gd a) (hadl:ahead.length<=268435456) (hb:Gd bb) :
  PCon Tryz.prog 134 [.ag (recL r.fam r.p i),tv h,.p (.sl 5 (encTs args)),tv field,.p (.sl 5 (encTs ahead)),tv bb] (zm1 (hypF r h args field ahead bb)):=by
 have hfd:=hf.d
 have hpl:=z4q field
 have hael:=zc args
 have hahl:=zc ahead
 have hcl:(encCs r.fam.ctors).length=r.fam.ctors.length:=by simp [encCs]
 have hnar:=(zg hh.w).nar
 have w1:=zb9 hnar field hf.w
 have d1:dpT (lvsT h.levels field)<=100000:=by rw [zgv];omega
 have hvs:∀ v∈args.take r.p++ahead,Gd v:=fun v hv=>by
  rcases List.mem_append.1 hv with hv | hv
  ·exact ha v (List.mem_of_mem_take hv)
  ·exact had v hv
 have hvl:(args.take r.p++ahead).length<=1000000000:=by rw [List.length_append,List.length_take];omega
 have wO:=zq4 (b:=1099511627776) (c:=2199023255552) (D:=100000) (d:=0) (vs:=args.take r.p++ahead) (t:=lvsT h.levels field) (by omega) (by omega) (by omega) (fun v hv=>(hvs v hv).w) w1
 have dO:=zlb (M:=268435456) (vs:=args.take r.p++ahead) (fun v hv=>(hvs v hv).d) (lvsT h.levels field) 0
 have pO:=zm6 (args.take r.p++ahead) (lvsT h.levels field) 0
 have pL:=(zvp h.levels field).1
 have hT:(encTs args).take ((r.p:Int)).toNat=encTs (args.take r.p):=by rw [show ((r.p:Int)).toNat=r.p by omega];simp [zb]
 have hvv:[]++encTs (args.take r.p)++encTs ahead=encTs (args.take r.p++ahead):=by simp [zb]
 have hoc:=zuv (args.take r.p++ahead) (by omega) (fun v hv=>⟨Cp.of (hvs v hv).w (by omega) (by have:=(hvs v hv).d;omega),by have:=(hvs v hv).d;omega⟩) 1099511627776 (by omega) (lvsT h.levels field) (by omega) w1
 have hlen2:(headT (piE field)).kind=2->(piL (opnT (args.take r.p++ahead) (lvsT h.levels field) 0)).length=(piL field).length:=zvs (args.take r.p++ahead) h.levels field
 have hyd:hypF r h args field ahead bb=if (headT (piE field)).kind=2/\(headT (piE field)).name=r.fam.name then
  some (lamsT (piL (opnT (args.take r.p++ahead) (lvsT h.levels field) 0))
   (mkA (appT (appT h ((args.take (r.p+1+r.fam.ctors.length)).map fun a=>lftT (piL field).length a 0)) ((argsT (piE (opnT (args.take r.p++ahead) (lvsT h.levels field) 0))).drop r.p))
    (appT (lftT (piL field).length bb 0) (varsT (piL field).length))))
  else none:=rfl
 rw [hyd]
 generalize opnT (args.take r.p++ahead) (lvsT h.levels field) 0=O at *
 generalize hn:(piL field).length=n at *
 have hpe:=(pi_wf field hf.w).2
 have hbel:piD n field=piE field:=by rw [<- hn];exact piE_D field
 have hwD:=zz0h n O wO
 have hnl:n<=100000:=by omega
 have hhc:Cp h:=Cp.of hh.w (by omega) (by have:=hh.d;omega)
 refine cv [31] [] [] Tryz.func134 123 Tryz.ntmps134 rfl rfl fun cx hE=>call0 (z9c h.levels hnar 1099511627776 field hf.w) ?_
 refine And.intro (by omega) ?_
 rw [hT]
 rw [<- hvv] at hoc
 refine app2 (by simp) (by simp;omega) (by simp;omega) (app2 (by simp) (by simp;omega) (by simp;omega) (callR [] hoc rfl rfl (.cons (Sub.refl _) (.cons Sub.ts .nil)) ?_))
 have hct:=z3t field (by omega)
 rw [hn] at hct
 refine call0 hct (call0 (zba 2199023255552 (by omega) O wO (by omega) n (by omega)) (call0 (zse field n (by omega) (by omega)) ?_))
 rw [hbel]
 refine call0 (z3i 1099511627776 (by omega) (piE field) hpe (by omega)) ?_
 have hno:¬ ((headT (piE field)).kind=2/\(headT (piE field)).name=r.fam.name)->∀ x,zm1 (if (headT (piE field)).kind=2/\(headT (piE field)).name=r.fam.name then x else none)=.tp [tv zT,.p (B false)]:=fun hn x=>by rw [if_neg hn];rfl
 refine brS (fun h2=>⟨by rw [hno (fun hc=>h2 hc.1)];rfl,rfl⟩) (fun h2=>brS (fun h3=>⟨by rw [hno (fun hc=>h3 hc.2)];rfl,rfl⟩) (fun h3=>?_))
 have h22:(headT (piE field)).kind=2:=by omega
 have h33:(headT (piE field)).name=r.fam.name:=Classical.byContradiction fun hh=>h3 hh
 rw [if_pos ⟨h22,h33⟩]
 have hln:=hlen2 h22
 have hOE:piD n O=piE O:=by rw [<- hln];exact piE_D O
 rw [hOE]
 have wE:=(pi_wf O wO).2
 have hplO:=z4q O
 have hsl:=zo9 (piE O) []
 refine call0 (z3i 2199023255552 (by omega) (piE O) wE (by omega)) (call0 (z1k h hhc) ?_)
 generalize hJ:argsT (piE O)=J at *
 have hJl:J.length<=1000000000:=by rw [<- hJ];unfold argsT;simp at hsl;omega
 have hJe:=zc J
 refine loop1 (fun (j:Nat)=>[(24,.p (I j))]) (fun j=>[(23,ceT (appT h ((args.take j).map fun a=>lftT n a 0)))]) (fun j=>j<=r.p+1+r.fam.ctors.length) (fun j=>r.p+1+r.fam.ctors.length-j) 0 [24] [23] hE rfl rfl rfl ⟨Sub.refl _,rfl,rfl,rfl,rfl,rfl,rfl,rfl,rfl,rfl,rfl,rfl,trivial⟩ (by omega) fun j hj=>?_
 refine And.intro (by omega) (fun _=>And.intro (by omega) (brS (fun hlt=>?_) (fun hlt=>?_)))
 ·have hjl:j<args.length:=by omega
  have hg:args[j]?=some (args.getD j zT):=by rw [List.getD_eq_getElem?_getD,List.getElem?_eq_getElem hjl];rfl
  have hrow:(encTs args)[j]?=some (rowT (args.getD j zT)):=by rw [zb,List.getElem?_map,hg];rfl
  have hga:=ha _ (List.mem_of_getElem? hg)
  have hgd:=hga.d
  have hld:=zla (by_:=n) (args.getD j zT) 0
  have hlw:=zl9 (b:=1099511627776) (c:=2199023255552) (by_:=n) (by omega) (by omega) (Int.le_refl 0) hga.w
  refine idxN hrow (call0 (z3l _ (Cp.of hga.w (by omega) (by omega)) n (by omega) (by omega) 0 (by omega) (by omega) (by omega)) (call0 (z1o _ _ (Cp.of hlw (by omega) (by omega))) (And.intro (by omega) ⟨j+1,by omega,by omega,Sub.i (by simp),?_,rfl,rfl,rfl,rfl,rfl,rfl,rfl,rfl,rfl,rfl,trivial⟩)))
  rw [z1w hg,List.map_append,List.map_cons,List.map_nil,zac];rfl
 obtain rfl:j=r.p+1+r.fam.ctors.length:=by omega
 generalize hT1:appT h ((args.take (r.p+1+r.fam.ctors.length)).map fun a=>lftT n a 0)=T1
 refine fun _=>?_
 have hJw:∀ a∈J,Wd 2199023255552 1000000000 a:=by
  rw [<- hJ];exact (Wd.args (b:=2199023255552) (m:=1000000000) ⟨wE,by omega⟩).1
 have hDl:(J.drop r.p).length+min r.p J.length=J.length:=by rw [List.length_drop];omega
 have hDg:∀ j,j<(J.drop r.p).length->(J.drop r.p)[j]?=some ((J.drop r.p).getD j zT)/\J[min r.p J.length+j]?=some ((J.drop r.p).getD j zT):=fun j hj=>by
  have h1:(J.drop r.p)[j]?=some ((J.drop r.p).getD j zT):=by rw [List.getD_eq_getElem?_getD,List.getElem?_eq_getElem hj];rfl
  refine ⟨h1,?_⟩
  rw [List.length_drop] at hj
  rw [<- h1,List.getElem?_drop,show min r.p J.length=r.p by omega]
 refine loop1 (fun (j:Nat)=>[(25,.p (I ((min r.p J.length+j:Nat))))]) (fun j=>[(23,ceT (appT T1 ((J.drop r.p).take j)))]) (fun j=>j<=(J.drop r.p).length) (fun j=>(J.drop r.p).length-j) 0 [25] [23] hE rfl rfl rfl ⟨Sub.i (by omega),rfl,rfl,rfl,rfl,rfl,rfl,rfl,rfl,rfl,rfl,rfl,trivial⟩ (by omega) fun j hj=>?_
 refine fun _=>brS (fun hlt=>?_) (fun hlt=>?_)
 ·have hjl:j<(J.drop r.p).length:=by omega
  obtain ⟨g1,g2⟩:=hDg j hjl
  have hrow:(encTs J)[min r.p J.length+j]?=some (rowT ((J.drop r.p).getD j zT)):=by rw [zb,List.getElem?_map,g2];rfl
  have hw:=hJw _ (List.mem_of_getElem? g2)
  have hwd:=hw.d
  refine idxN hrow (call0 (z1o _ _ (Cp.of hw.w (by omega) (by omega))) (And.intro (by omega) ⟨j+1,by omega,by omega,Sub.i (by omega),?_,rfl,rfl,rfl,rfl,rfl,rfl,rfl,rfl,rfl,rfl,trivial⟩))
  rw [z1w g1,zac];rfl
 obtain rfl:j=(J.drop r.p).length:=by omega
 rw [List.take_length]
 generalize hT2:appT T1 (J.drop r.p)=T2
 have hbd:=hb.d
 have wb:Wd 2199023255552 268435456 (lftT n bb 0):=(Wd.lift (b:=1099511627776) ⟨hb.w,hb.d⟩ n).mono (by omega) (Nat.le_refl _)
 have wv:∀ v∈varsT n,Wd 2199023255552 268435456 v:=fun v hv=>by
  obtain ⟨k,hk,rfl⟩:=zer hv
  exact zvv (by omega) (by omega)
 have wa:=Wd.app (b:=2199023255552) (by omega) wb wv (n:=100000) (by rw [z5t];omega)
 have wT1:Wd 2199023255552 (268435456+268435456) T1:=by
  rw [<- hT1]
  refine Wd.app (by omega) ⟨zk (by omega) h hh.w,hh.d⟩ (fun a h=>?_) (by simp;omega)
  obtain ⟨x,hx,rfl⟩:=List.mem_map.1 h
  have hg:=ha x (List.mem_of_mem_take hx)
  exact (Wd.lift (b:=1099511627776) ⟨hg.w,hg.d⟩ n).mono (by omega) (Nat.le_refl _)
 have wT2:Wd 2199023255552 (1000000000+1000000000) T2:=by
  rw [<- hT2]
  exact Wd.app (by omega) (wT1.mono (Int.le_refl _) (by omega)) (fun a h=>hJw a (List.mem_of_mem_drop h)) (by omega)
 have wM:=Wd.mkA (by omega) (wT2.mono (k:=2000000000) (Int.le_refl _) (by omega)) (wa.mono (k:=2000000000) (Int.le_refl _) (by omega))
 have hWd:=wM.d
 have hWa:=wa.d
 have hWb:=wb.d
 have cpv:∀ v∈varsT n,Cp v:=fun v hv=>Cp.of (wv v hv).w (by omega) (by have:=(wv v hv).d;omega)
 have hxs:∀ x∈piL O,Cp x:=fun x hx=>by
  have:=(pi_wf O wO).1 x hx
  exact Cp.of this.1 (by omega) (by omega)
 rw [<- hln,List.take_length,hln]
 refine call0 (z3l bb (Cp.of hb.w (by omega) (by omega)) n (by omega) (by omega) 0 (by omega) (by omega) (by omega)) (call0 (zuu n (by omega)) (call0 (z3h _ (Cp.of wb.w (by omega) (by omega)) (varsT n) cpv (by rw [z5t];omega)) (call0 (z1o T2 _ (Cp.of wa.w (by omega) (by omega))) (call0 (zut (piL O) _ (Cp.of wM.w (by omega) (by omega)) hxs (by omega)) ⟨rfl,rfl⟩))))
theorem zqy {ds:List Dcl} {h:Trm} {r:RecI} (hr:z1y ds h=some r):(r.major:Int)=r.p+1+r.fam.ctors.length+((piL r.fam.type).length-r.p)/\r.p<=(piL r.fam.type).length:=by
 unfold z1y at hr
 split at hr
 ·split at hr
  ·cases hr
  ·split at hr
   ·split at hr
    ·cases hr
    ·split at hr
     ·cases hr;exact ⟨by simp only;omega,by simp only;omega⟩
     ·cases hr
   ·cases hr
 ·cases hr
set_option maxHeartbeats 8000000 in
theorem zx2 (ds:List Dcl) (b:Int) (hER:EnvR ds) (t major:Trm) (ht:Gd t) (hj:Gd major):Con Tryz.prog 83 [.ptr 1000 0,tv t,tv major] (refE 1000 ds b) (fun r o=>r=zm1 (iotaF ds t major)/\o=refE 1000 ds b):=by
 have hal:=ht.args
 have hel:=zc (argsT t)
 have hhg:=ht.head
 have hd:=ht.d
 have hjd:=hj.d
 have hja:=hj.args
 have hhl:=zc (argsT major)
 have hlf:=(zg hhg.w).few
 rw [zag]
 refine cv [] [] [1000,1001] Tryz.func83 128 Tryz.ntmps83 rfl rfl fun cx hE=>call0 (z3i 1099511627776 (by omega) t ht.w (by omega)) ?_
 have hrc:=zh8 ds b hER (headT t) (by omega)
 rcases zh7 hER (headT t) with ⟨r,hi,hv⟩ | ⟨hi,f0,p0,i0,hv⟩
 case inr =>
  rw [hv] at hrc
  rw [hi]
  exact callR [1000,1001] hrc rfl rfl (za _) (brB (fun _=>⟨rfl,rfl⟩) (fun hh=>by cases hh))
 case inl =>
  rw [hv] at hrc
  rw [hi]
  refine callR [1000,1001] hrc rfl rfl (za _) ?_
  have hri:=zqy hi
  have hrm:=(z6g hi).1
  have hfo:=hER.g _ hrm
  have hfo2:=hfo
  simp only [okE,Bool.and_eq_true,decide_eq_true_eq,List.all_eq_true] at hfo
  obtain ⟨ho1,ho2,ho3,ho4,ho5,ho6⟩:=hfo
  have htd:=(z2v ho1).d
  have hpl:=z4q r.fam.type
  simp only [Option.bind_some]
  have hmaj:=zh6 r.fam r.p ((r.major:Int)-r.p-1-r.fam.ctors.length) ho3 (by omega) (by omega) (by omega) (by omega)
  rw [show (r.p:Int)+1+r.fam.ctors.length+((r.major:Int)-r.p-1-r.fam.ctors.length)=r.major by omega] at hmaj
  generalize hI:(r.major:Int)-r.p-1-r.fam.ctors.length=ii at *
  refine brB (fun hh=>by cases hh) (fun _=>fun _=>call0 hmaj (brS (fun hle=>?_) (fun hle=>?_)))
  ·rw [if_neg (by omega)];exact ⟨rfl,rfl⟩
  have hlt:r.major<(argsT t).length:=by omega
  rw [if_pos hlt]
  refine call0 (z3i 1099511627776 (by omega) major hj.w (by omega)) (brS (fun hk=>?_) (fun hk=>?_))
  ·have:iotR r (headT t) (argsT t) major=none:=by unfold iotR;rw [if_neg hk]
   rw [this];exact ⟨rfl,rfl⟩
  have hk2:(headT major).kind=2:=Classical.byContradiction fun hn=>hk hn
  refine call0 (zx1 r.fam r.p ii (headT major).name ho3) ?_
  cases hcx:z2c r.fam.ctors (headT major).name with
  | none =>
    have:iotR r (headT t) (argsT t) major=none:=by unfold iotR;rw [if_pos hk2,hcx]
    rw [this]
    exact brS (fun _=>⟨rfl,rfl⟩) (fun hn=>absurd (by decide) hn)
  | some k =>
    obtain ⟨hkl,hkn⟩:=z7o hcx
    have hct:r.fam.ctors[k]?=some (r.fam.ctors.getD k default):=by rw [List.getD_eq_getElem?_getD,List.getElem?_eq_getElem hkl];rfl
    have hcm:=List.mem_of_getElem? hct
    have hir:iotR r (headT t) (argsT t) major=if (argsT major).length=r.p+((piL (r.fam.ctors.getD k default).ty).length-r.p) then
      some (appT (hypsF r (headT t) (argsT t) ((piL (r.fam.ctors.getD k default).ty).drop r.p) [] ((argsT major).drop r.p)
       (appT ((argsT t).getD (r.p+1+k) zT) ((argsT major).drop r.p))) ((argsT t).drop (r.major+1))) else none:=by
     unfold iotR;rw [if_pos hk2,hcx]
    have hfc:=zoa r.fam hfo2 r.p ii k _ hct (by omega)
    generalize r.fam.ctors.getD k default=ctr at *
    have hty:=z2v (ho4 ctr hcm).1
    have htyd:=hty.d
    have htyl:=z4q ctr.ty
    have hfl:((piL ctr.ty).drop r.p).length=(piL ctr.ty).length-r.p:=by rw [List.length_drop]
    have hfe:=zc ((piL ctr.ty).drop r.p)
    rw [hir]
    simp only [ctI]
    have hF:(encTs (argsT major)).drop ((r.p:Int)).toNat=encTs ((argsT major).drop r.p):=by rw [show ((r.p:Int)).toNat=r.p by omega];simp [zb]
    have hFg:∀ a∈(argsT major).drop r.p,Gd a:=fun a hm=>hja.1 a (List.mem_of_mem_drop hm)
    have hFe:=zc ((argsT major).drop r.p)
    refine brZ (by omega) (call0 hfc (And.intro (by omega) (brS (fun hne=>?_) (fun heq=>?_))))
    ·rw [if_neg (by omega)];exact ⟨rfl,rfl⟩
    have hlen:(argsT major).length=r.p+((piL ctr.ty).length-r.p):=by omega
    have hFl:((argsT major).drop r.p).length=(piL ctr.ty).length-r.p:=by rw [List.length_drop];omega
    rw [if_pos hlen]
    have hi1:(r.p:Int)+1+(k:Int)=((r.p+1+k:Nat):Int):=by omega
    have hag:(argsT t)[r.p+1+k]?=some ((argsT t).getD (r.p+1+k) zT):=by rw [List.getD_eq_getElem?_getD,List.getElem?_eq_getElem (by omega)];rfl
    have hrow2:(encTs (argsT t))[r.p+1+k]?=some (rowT ((argsT t).getD (r.p+1+k) zT)):=by rw [zb,List.getElem?_map,hag];rfl
    have hog:=hal.1 _ (List.mem_of_getElem? hag)
    have hogd:=hog.d
    have cpG:∀ {x:Trm},Gd x->Cp x:=fun h=>Cp.of h.w (by omega) (by have:=h.d;omega)
    refine And.intro (by omega) (And.intro (by omega) ?_)
    rw [hi1]
    refine idxN hrow2 (And.intro (by omega) ?_)
    rw [hF]
    refine call0 (z3h _ (cpG hog) ((argsT major).drop r.p) (fun a h=>cpG (hFg a h)) (by omega)) (call0 hfc ?_)
    have wU0:Wd 2199023255552 (268435456+268435456) (appT ((argsT t).getD (r.p+1+k) zT) ((argsT major).drop r.p)):=Wd.app (by omega) ⟨zk (by omega) _ hog.w,hog.d⟩ (fun a h=>⟨zk (by omega) a (hFg a h).w,(hFg a h).d⟩) (by omega)
    generalize appT ((argsT t).getD (r.p+1+k) zT) ((argsT major).drop r.p)=U0 at *
    generalize hfs:(piL ctr.ty).drop r.p=fs at *
    refine loop1 (fun (j:Nat)=>[(17,.p (I j))]) (fun j=>[(15,ceT (hypsF r (headT t) (argsT t) (fs.take j) [] (((argsT major).drop r.p).take j) U0))]) (fun j=>j<=fs.length) (fun j=>fs.length-j) 0 [17] [15] hE rfl rfl rfl ⟨Sub.refl _,rfl,rfl,rfl,rfl,rfl,rfl,rfl,rfl,rfl,trivial⟩ (by omega) fun j hj=>?_
    have hUw:∀ i,i<=fs.length->Wd 2199023255552 4000000000 (hypsF r (headT t) (argsT t) (fs.take i) [] (((argsT major).drop r.p).take i) U0):=fun i hi=>by
     have:=znx (r:=r) (b:=1099511627776) (b':=2199023255552) (by omega) (m:=268435456) (e:=100000) (K:=1700000000) (by omega) (by omega) (by omega) (by omega) (h:=headT t) (args:=argsT t) ⟨hhg.w,hhg.d⟩ (fun a h=>⟨(hal.1 a h).w,(hal.1 a h).d⟩) hal.2 (fs.take i) [] (((argsT major).drop r.p).take i) U0 0 (fun a h=>?_) (fun a h=>by cases h) (fun a h=>?_) (wU0.mono (Int.le_refl _) (by omega))
     ·exact this.mono (Int.le_refl _) (by rw [List.length_take];omega)
     ·have hm:=List.mem_of_mem_take h
      rw [<- hfs] at hm
      have:=(pi_wd (b:=1099511627776) (m:=100000) ⟨hty.w,htyd⟩).1 a (List.mem_of_mem_drop hm)
      exact this
     ·have:=hFg a (List.mem_of_mem_take h)
      exact ⟨this.w,this.d⟩
    refine fun _=>brS (fun hlt2=>?_) (fun hlt2=>?_)
    ·have hjl:j<fs.length:=by omega
     have hgf:fs[j]?=some (fs.getD j zT):=by rw [List.getD_eq_getElem?_getD,List.getElem?_eq_getElem hjl];rfl
     have hgb:((argsT major).drop r.p)[j]?=some (((argsT major).drop r.p).getD j zT):=by rw [List.getD_eq_getElem?_getD,List.getElem?_eq_getElem (by omega)];rfl
     have hgb2:(argsT major)[r.p+j]?=some (((argsT major).drop r.p).getD j zT):=by rw [<- hgb,List.getElem?_drop]
     have hrf:(encTs fs)[j]?=some (rowT (fs.getD j zT)):=by rw [zb,List.getElem?_map,hgf];rfl
     have hrb:(encTs (argsT major))[r.p+j]?=some (rowT (((argsT major).drop r.p).getD j zT)):=by rw [zb,List.getElem?_map,hgb2];rfl
     have hfm:Fz 100000 (fs.getD j zT):=by
      have hm:fs.getD j zT∈(piL ctr.ty).drop r.p:=by rw [hfs];exact List.mem_of_getElem? hgf
      exact (Fz.pi _ hty).1 _ (List.mem_of_mem_drop hm)
     have hbm:=hFg _ (List.mem_of_getElem? hgb)
     have hsn:hypsF r (headT t) (argsT t) (fs.take (j+1)) [] (((argsT major).drop r.p).take (j+1)) U0=addH (hypsF r (headT t) (argsT t) (fs.take j) [] (((argsT major).drop r.p).take j) U0) (hypF r (headT t) (argsT t) (fs.getD j zT) (((argsT major).drop r.p).take j) (((argsT major).drop r.p).getD j zT)):=by
      rw [z1w hgf,z1w hgb,zbg _ _ _ _ _ _ _ _ _ (by rw [List.length_take,List.length_take];omega),List.nil_append]
     have hUj:=hUw j (by omega)
     have hS:((encTs (argsT major)).take (((r.p:Int)+j)).toNat).drop ((r.p:Int)).toNat=encTs (((argsT major).drop r.p).take j):=by
      rw [show ((r.p:Int)).toNat=r.p by omega,show (((r.p:Int)+j)).toNat=r.p+j by omega]
      simp [zb,List.drop_take]
     have hyc:=zzr r ii (headT t) (argsT t) (fs.getD j zT) (((argsT major).drop r.p).take j) (((argsT major).drop r.p).getD j zT) hhg hal.1 hal.2 ho3 (by omega) hfm (fun a h=>hFg a (List.mem_of_mem_take h)) (by simp;omega) hbm
     generalize hypsF r (headT t) (argsT t) (fs.take j) [] (((argsT major).drop r.p).take j) U0=U at *
     refine idxN hrf (And.intro (by omega) (And.intro (by omega) (And.intro (by omega) ?_)))
     rw [hS,show (r.p:Int)+(j:Int)=((r.p+j:Nat):Int) by omega]
     refine And.intro (by omega) (idxN hrb (call0 hyc ?_))
     cases hyx:hypF r (headT t) (argsT t) (fs.getD j zT) (((argsT major).drop r.p).take j) (((argsT major).drop r.p).getD j zT) with
     | none =>
       rw [hyx] at hsn
       exact brB (fun hh=>by cases hh) (fun _=>And.intro (by omega) ⟨j+1,by omega,by omega,Sub.i (by simp),by rw [hsn];rfl,rfl,rfl,rfl,rfl,rfl,rfl,rfl,rfl,trivial⟩)
     | some x =>
       rw [hyx] at hsn
       have hxw:=zz06 (b:=1099511627776) (by omega) (m:=268435456) (e:=100000) (by omega) (by omega) (h:=headT t) (args:=argsT t) ⟨hhg.w,hhg.d⟩ (fun a h=>⟨(hal.1 a h).w,(hal.1 a h).d⟩) hal.2 (fun a h=>⟨(hFg a (List.mem_of_mem_take h)).w,(hFg a (List.mem_of_mem_take h)).d⟩) ⟨hfm.w,hfm.d⟩ ⟨hbm.w,hbm.d⟩ hyx
       have hxd:=hxw.d
       exact brB (fun _=>call0 (z1o U x (Cp.of hxw.w (by omega) (by omega))) (And.intro (by omega) ⟨j+1,by omega,by omega,Sub.i (by simp),by rw [hsn];rfl,rfl,rfl,rfl,rfl,rfl,rfl,rfl,rfl,trivial⟩)) (fun hh=>by cases hh)
    ·obtain rfl:j=fs.length:=by omega
     have hUe:=hUw fs.length (Nat.le_refl _)
     rw [List.take_length,List.take_of_length_le (by omega)] at hUe
     rw [List.take_length,List.take_of_length_le (by omega)]
     have hUd:=hUe.d
     have hD:(encTs (argsT t)).drop ((r.major:Int)+1).toNat=encTs ((argsT t).drop (r.major+1)):=by rw [show ((r.major:Int)+1).toNat=r.major+1 by omega];simp [zb]
     refine call0 hmaj (And.intro (by omega) (And.intro (by omega) ?_))
     rw [hD]
     exact call0 (z3h _ (Cp.of hUe.w (by omega) (by omega)) ((argsT t).drop (r.major+1)) (fun a h=>cpG (hal.1 a (List.mem_of_mem_drop h))) (by simp;omega)) ⟨rfl,rfl⟩
theorem zaq (f c:Int) (hm:Mt f c) (u:Trm) (x:OR) (hx:mdF c f u=some x):PCon Tryz.prog 76 [mv f c,tv u] (onV c x):=by
 have h0:=hm.f0;have h1:=hm.f1;have h2:=hm.c0;have h3:=hm.c1
 have hs:=zkw f c (by omega) (by omega)
 have hf:=zux (f-1) c u h2 h3
 unfold mdF at hx
 unfold stepF at hs
 unfold fitsE at hf
 by_cases hf0:f<=0
 ·rw [if_pos hf0] at hx;cases hx
  rw [if_pos hf0,if_pos hf0] at hs
  exact cv [] [] [] Tryz.func76 29 Tryz.ntmps76 rfl rfl fun cx hE=>call0 hs (brS (fun _=>⟨rfl,rfl⟩) (fun hh=>absurd (by decide) hh))
 ·rw [if_neg hf0] at hx
  rw [if_neg hf0,if_neg hf0] at hs
  split at hx
  ·split at hx
   ·rename_i hft
    cases hx
    rw [if_pos hft] at hf
    exact cv [] [] [] Tryz.func76 29 Tryz.ntmps76 rfl rfl fun cx hE=>call0 hs (brS (fun hh=>absurd rfl hh) (fun _=>call0 hf (brS (fun hh=>absurd rfl hh) (fun _=>⟨rfl,rfl⟩))))
   ·rename_i hft
    cases hx
    rw [if_neg hft] at hf
    exact cv [] [] [] Tryz.func76 29 Tryz.ntmps76 rfl rfl fun cx hE=>call0 hs (brS (fun hh=>absurd rfl hh) (fun _=>call0 hf (brS (fun _=>⟨rfl,rfl⟩) (fun hh=>absurd (by decide) hh))))
  ·cases hx
theorem zz2v (o:Option Dcl):fndD o=.tp [dv (o.getD zD),.p (B o.isSome)]:=by cases o<;>rfl
def RWhC (ds:List Dcl) (b c:Int) (t:Trm) (f:Int) (x:WR):Prop:=Con Tryz.prog 40 [.ptr 1000 0,tv t,mv f c] (refE 1000 ds b) (fun r o=>r=xwV c x/\o=refE 1000 ds b)
def ROnC (ds:List Dcl) (b c:Int) (t:Trm) (f:Int) (x:OR):Prop:=Con Tryz.prog 35 [.ptr 1000 0,tv t,mv f c] (refE 1000 ds b) (fun r o=>r=onV c x/\o=refE 1000 ds b)
set_option maxHeartbeats 8000000 in
theorem zx3 (ds : List Dcl) (b:Int) (hER:EnvR ds) (c:Int) (wh:Trm->Int->Option WR) (hk:∀ t f u f' e,Gd t->wh t f=some (u,f',e)->Gd u/\Fu f f') (t:Trm) (hg:Gd t) (f:Int) (hm:Mt f c) (ih:∀ t f x,Gd t->Mt f c->wh t f=some x->RWhC ds b c t f x) (x:OR) (hx:onF ds c wh t f=some x):ROnC ds b c t f x:=by
 have hal:=hg.args
 have hel:=zc (argsT t)
 have hhg:=hg.head
 have hd:=hg.d
 have hll:=zp (headT t).levels
 have hlf:=(zg hhg.w).few
 have hld:=hER.l
 have cpG:∀ {x:Trm},Gd x->Cp x:=fun h=>Cp.of h.w (by omega) (by have:=h.d;omega)
 have cpt:=cpG hg
 have cpO:∀ {body v:Trm},Gd body->Gd v->Cp (opnT [v] body 0):=fun {body v} g1 g2=>by
  have e1:=zq4 (b:=1099511627776) (c:=2199023255552) (D:=268435456) (d:=0) (vs:=[v]) (t:=body) (by omega) (by have:=g1.d;omega) (by omega) (fun x hx=>by simp at hx;subst hx;exact g2.w) g1.w
  have e2:=zlb (M:=268435456) (vs:=[v]) (fun x hx=>by simp at hx;subst hx;exact g2.d) body 0
  have:=g1.d
  exact Cp.of e1 (by omega) (by omega)
 unfold ROnC
 have stay:∀ {y:OR},some (t,false,f,(0:Int))=some y->y=(t,false,f,0):=fun e=>by cases e;rfl
 have hon:∀ y,onF ds c wh t f=some y->x=y:=fun y hy=>by rw [hx] at hy;cases hy;rfl
 have stuck:¬ ((headT t).kind=4/\argsT t≠[])->(headT t).kind≠6->(headT t).kind≠2->x=(t,false,f,0):=fun n1 n2 n3=>hon _ (by unfold onF;rw [if_neg n1,if_neg n2,if_neg n3])
 refine cv [] [1000010] [1000,1001] Tryz.func35 154 Tryz.ntmps35 rfl rfl fun cx hE=>call0 (z3i 1099511627776 (by omega) t hg.w (by omega)) ?_
 refine brS (fun h4=>fun _=>brS (fun h5=>?_) (fun h5=>?_)) (fun h4=>brS (fun h6=>?_) (fun h6=>brS (fun h2=>?_) (fun h2=>?_)))
 ·have hne:argsT t≠[]:=fun hn=>by
   have:(argsT t).length=0:=by rw [hn];rfl
   omega
  obtain ⟨a0,rest,har⟩:=List.exists_cons_of_ne_nil hne
  obtain ⟨ty,body,hba⟩:=z4h hhg.w (.inr (.inl h4))
  unfold onF at hx
  rw [if_pos ⟨h4,hne⟩,har,hba] at hx
  simp only [List.getD_cons_zero,List.getD_cons_succ,List.drop_one,List.tail_cons] at hx
  have gb:=hhg.sub (a:=body) (by rw [hba];simp)
  have ga:=hal.1 a0 (by rw [har];simp)
  have gr:∀ a∈rest,Cp a:=fun a h=>cpG (hal.1 a (by rw [har];simp [h]))
  have hrl:rest.length<=1000000000:=by have:=hal.2;rw [har] at this;simp at this;omega
  have r1:(encTs (headT t).args)[1]?=some (rowT body):=by rw [hba];simp [zb]
  have r0:(encTs (argsT t))[0]?=some (rowT a0):=by rw [har];simp [zb]
  have hD:(encTs (argsT t)).drop (1:Int).toNat=encTs rest:=by rw [har];simp [zb]
  refine idxN (i:=1) r1 (idxN (i:=0) r0 (call0 (zck 1099511627776 (by omega) a0 (cpG ga) (by have:=ga.d;omega) body gb.w (by have:=gb.d;omega)) (And.intro (by omega) ?_)))
  rw [hD]
  exact call0 (z3h _ (cpO gb ga) rest gr (by omega)) (call0 (zaq f c hm _ x hx) ⟨rfl,rfl⟩)
 ·have hn:argsT t=[]:=List.eq_nil_of_length_eq_zero (by omega)
  rw [stuck (fun hc=>hc.2 hn) (by omega) (by omega)]
  exact call0 (z1k t cpt) ⟨rfl,rfl⟩
 ·have hn:=(zg hhg.w).args
  have h3:(headT t).args.length=3:=by rw [h6] at hn;unfold argF at hn;simp at hn;omega
  obtain ⟨a,v,d,ha⟩:=zqx h3
  unfold onF at hx
  rw [if_neg (fun hc=>by omega),if_pos h6,ha] at hx
  have gd:=hhg.sub (a:=d) (by rw [ha];simp)
  have gv:=hhg.sub (a:=v) (by rw [ha];simp)
  have r2:(encTs (headT t).args)[2]?=some (rowT d):=by rw [ha];simp [zb]
  have r1:(encTs (headT t).args)[1]?=some (rowT v):=by rw [ha];simp [zb]
  exact idxN (i:=2) r2 (idxN (i:=1) r1 (call0 (zck 1099511627776 (by omega) v (cpG gv) (by have:=gv.d;omega) d gd.w (by have:=gd.d;omega)) (call0 (z3h _ (cpO gd gv) (argsT t) (fun a h=>cpG (hal.1 a h)) (by omega)) (call0 (zaq f c hm _ x hx) ⟨rfl,rfl⟩))))
 ·have hfd := zbr ds b (headT t).name (by omega) hER.c
  rw [zz2v] at hfd
  refine callR [1000,1001] hfd rfl rfl (za _) ?_
  have hrc:=zh8 ds b hER (headT t) (by omega)
  refine join1 (A:=Unit) (fun _=>[]) (fun _=>[]) (fun _=>rcF ds c wh t f=some x) [] [] [] hE rfl rfl rfl ?_ (fun _ hrec=>?_)
  ·cases hf:findD ds (headT t).name with
   | none =>
     have hi:lookF ds t=none:=by unfold lookF z1y;rw [if_pos h2,hf];rfl
     have:x=(t,false,f,0):=hon _ (by unfold onF;rw [if_neg (fun hc=>by omega),if_neg h6,if_pos h2,hf])
     refine brB (fun hh=>by cases hh) (fun _=>⟨(),by unfold rcF;rw [hi,this],leX.same ⟨rfl,rfl,rfl,rfl,rfl,rfl,rfl,rfl,trivial⟩⟩)
   | some d =>
     have hdo:=hER.g d (z3o hf)
     simp only [okE,Bool.and_eq_true,decide_eq_true_eq,List.all_eq_true] at hdo
     obtain ⟨ho1,ho2,ho3,ho4,ho5,ho6⟩:=hdo
     have hvf:=z2v ho2
     have hlw:=zb9 (zg hhg.w).nar d.value hvf.w
     have hvd:=hvf.d
     have hrec:¬ (d.kind=2/\d.params=(headT t).levels.length)->rcF ds c wh t f=some x:=fun hn=>by rw [<- zwy ds h2 hf hn];exact hx
     refine brB (fun _=>brS (fun hd2=>fun _=>brS (fun hpp=>?_) (fun hpp=>⟨(),hrec (fun hc=>hpp (by simp only [Option.getD_some];omega)),leX.same ⟨rfl,rfl,rfl,rfl,rfl,rfl,rfl,rfl,trivial⟩⟩)) (fun hd2=>⟨(),hrec (fun hc=>hd2 hc.1),leX.same ⟨rfl,rfl,rfl,rfl,rfl,rfl,rfl,rfl,trivial⟩⟩)) (fun hh=>by cases hh)
     have hmd:mdF c f (appT (lvsT (headT t).levels d.value) (argsT t))=some x:=by
      unfold onF at hx
      rw [if_neg (fun hc=>by omega),if_neg h6,if_pos h2,hf] at hx
      simp only at hx
      rw [if_pos ⟨hd2,by simp only [Option.getD_some] at hpp;omega⟩] at hx
      exact hx
     exact call0 (z9c (headT t).levels (zg hhg.w).nar 1099511627776 d.value hvf.w) (call0 (z3h _ (Cp.of hlw (by omega) (by rw [zgv];omega)) (argsT t) (fun a h=>cpG (hal.1 a h)) (by omega)) (call0 (zaq f c hm _ x hmd) ⟨rfl,rfl⟩))
  ·unfold rcF lookF at hrec
   rcases zh7 hER (headT t) with ⟨r,hi,hv⟩ | ⟨hi,f0,p0,i0,hv⟩
   case inr =>
    rw [hi] at hrec
    rw [stay hrec]
    rw [hv] at hrc
    exact callR [1000,1001] hrc rfl rfl (za _) (brB (fun hh=>by cases hh) (fun _=>call0 (z1k t cpt) ⟨rfl,rfl⟩))
   case inl =>
    rw [hv] at hrc
    refine callR [1000,1001] hrc rfl rfl (za _) ?_
    rw [hi] at hrec
    have hri:=zqy hi
    have hrm:=(z6g hi).1
    have hfo:=hER.g _ hrm
    simp only [okE,Bool.and_eq_true,decide_eq_true_eq,List.all_eq_true] at hfo
    obtain ⟨ho1,ho2,ho3,ho4,ho5,ho6⟩:=hfo
    have htd:=(z2v ho1).d
    have hpl:=z4q r.fam.type
    have hmaj:=zh6 r.fam r.p ((r.major:Int)-r.p-1-r.fam.ctors.length) ho3 (by omega) (by omega) (by omega) (by omega)
    rw [show (r.p:Int)+1+r.fam.ctors.length+((r.major:Int)-r.p-1-r.fam.ctors.length)=r.major by omega] at hmaj
    simp only [Option.bind_some] at hrec
    refine brB (fun _=>fun _=>call0 hmaj (brS (fun hgt=>?_) (fun hgt=>?_))) (fun hh=>by cases hh)
    ·have hlt:r.major<(argsT t).length:=by omega
     rw [if_pos hlt] at hrec
     simp only at hrec
     have hag:(argsT t)[r.major]?=some ((argsT t).getD r.major zT):=by rw [List.getD_eq_getElem?_getD,List.getElem?_eq_getElem hlt];rfl
     have hrow:(encTs (argsT t))[r.major]?=some (rowT ((argsT t).getD r.major zT)):=by rw [zb,List.getElem?_map,hag];rfl
     have hga:=hal.1 _ (List.mem_of_getElem? hag)
     refine call0 hmaj (idxN hrow ?_)
     cases hw:wh ((argsT t).getD r.major zT) f with
     | none=>rw [hw] at hrec;cases hrec
     | some y =>
       have hkk:=hk _ _ y.1 y.2.1 y.2.2 hga hw
       have hc:=ih _ f y hga hm hw
       rw [hw] at hrec
       obtain ⟨m,f1,e⟩:=y
       simp only at hrec hkk
       have hm1:=hm.fu hkk.2
       refine callR [1000,1001] hc rfl rfl (za _) ?_
       refine brS (fun he=>?_) (fun he=>?_)
       ·rw [if_pos he] at hrec;cases hrec;exact ⟨rfl,rfl⟩
       ·rw [if_neg he] at hrec
        have hio:=zx2 ds b hER t m hg hkk.1
        rw [zag,hi] at hio
        simp only [Option.bind_some,if_pos hlt] at hio
        refine callR [1000,1001] hio rfl rfl (za _) ?_
        cases hiu:iotR r (headT t) (argsT t) m with
        | none =>
          rw [hiu] at hrec
          simp only [Option.some.injEq] at hrec
          subst hrec
          exact brB (fun hh=>by cases hh) (fun _=>call0 (z1k t cpt) ⟨rfl,rfl⟩)
        | some u =>
          rw [hiu] at hrec
          exact brB (fun _=>call0 (zaq f1 c hm1 u x hrec) ⟨rfl,rfl⟩) (fun hh=>by cases hh)
    ·rw [if_neg (by omega)] at hrec
     rw [stay hrec]
     exact call0 (z1k t cpt) ⟨rfl,rfl⟩
 ·rw [stuck (fun hc=>h4 hc.1) h6 h2]
  exact call0 (z1k t cpt) ⟨rfl,rfl⟩
set_option maxHeartbeats 8000000 in
theorem zfg (ds:List Dcl) (b:Int) (hER:EnvR ds) (c:Int) (g:Nat):∀ (t:Trm) (f:Int) (x:WR),Gd t->Mt f c->whF ds c g t f=some x->RWhC ds b c t f x:=by
 induction g using Nat.strongRecOn with
 | _ g IH =>
   intro t f x hg hm hx
   unfold RWhC
   refine cv [] [] [1000,1001] Tryz.func40 33 Tryz.ntmps40 rfl rfl fun cx hE=>?_
   refine loop3 (fun (k:Nat) (u:Trm) (e:Int)=>[]) (fun k u e=>[(4,ceT u),(5,.ce 40 [.p (I e),.p (I c)])]) (fun k u e=>k<=g/\whF ds c k u e=some x/\Gd u/\Mt e c) (fun k u e=>k) g t f [] [4,5] hE rfl rfl rfl ⟨rfl,rfl,rfl,rfl,rfl,rfl,trivial⟩ ⟨Nat.le_refl _,hx,hg,hm⟩ fun k u e ⟨i1,i2,i3,i4⟩=>?_
   cases k with
   | zero=>cases i2
   | succ k =>
     simp only [whF] at i2
     cases ho:onF ds c (whF ds c k) u e with
     | none=>rw [ho] at i2;cases i2
     | some y =>
       rw [ho] at i2
       have hkk:=zai (fun t f u f' e=>z1u k t f u f' e) (u:=y.1) (did:=y.2.1) (f':=y.2.2.1) (e:=y.2.2.2) i3 ho
       have hc:=zx3 ds b hER c (whF ds c k) (fun t f u f' e=>z1u k t f u f' e) u i3 e i4 (IH k (by omega)) y ho
       obtain ⟨v,did,e1,er⟩:=y
       simp only at i2 hkk
       refine callR [1000,1001] hc rfl rfl (za _) (brS (fun he=>?_) (fun he=>?_))
       ·rw [if_pos he] at i2;cases i2;exact ⟨rfl,rfl⟩
       ·rw [if_neg he] at i2
        cases did with
        | false =>
          simp only [Bool.false_eq_true,if_false] at i2
          cases i2
          exact brB (fun _=>⟨rfl,rfl⟩) (fun hh=>by cases hh)
        | true =>
          simp only [if_true] at i2
          exact brB (fun hh=>by cases hh) (fun _=>⟨k,v,e1,⟨by omega,i2,hkk.1,i4.fu hkk.2⟩,by omega,rfl,rfl,rfl,rfl,rfl,rfl,trivial⟩)
def byts (l:List Int):List (List PV):=l.map fun n=>[U8 n]
@[simp] theorem z3c (l:List Int):(byts l).length=l.length:=by simp [byts]
def okB (l:List Int):Prop:=∀ n∈l,0<=n/\n<=255
theorem zz44 {l:List Int} (h:okB l) (m:Nat):0<=l.getD m 0/\l.getD m 0<=255:=by
 rcases Nat.lt_or_ge m l.length with hm | hm
 ·have:=h _ (List.getElem_mem hm);simp [List.getD_eq_getElem?_getD,hm];exact this
 ·simp [List.getD_eq_getElem?_getD,hm]
def nxt (l:List Int) (a n:Int):Int:=if a≥l.length\/n<1 then 0 else l.getD a.toNat 0 % n
def nxA (l:List Int) (a n:Int):Int:=if a≥l.length\/n<1 then a else a+1
abbrev pkO (l:List Int) (a:Int):Obs:=[(1000,.ce 96 [.p (.sl 1 (byts l)),.p (I a)])]
theorem zcy (l:List Int):Con Tryz.prog 21 [.p (.sl 1 (byts l))] [] (fun r o=>r=.ptr 5 0/\o=[(5,.ce 96 [.p (.sl 1 (byts l)),.p (I 0)])]) :=
 cv [] [] [5] Tryz.func21 6 Tryz.ntmps21 rfl rfl fun cx hE=>⟨rfl,rfl⟩
theorem z2a (l:List Int) (hl:okB l) (hlen:l.length<=1000000) (a n:Int) (h0:0<=a) (h1:a<=1000000) (hn:n<=1000000) :
  Con Tryz.prog 60 [.ptr 1000 0,.p (I n)] (pkO l a) (fun r o=>r=.p (I (nxt l a n))/\o=pkO l (nxA l a n)):=by
 have hbl:=z3c l
 refine cv [] [] [1000] Tryz.func60 40 Tryz.ntmps60 rfl rfl fun cx hE=>brS (fun hp=>?_) (fun hp=>brS (fun hq=>?_) (fun hq=>?_))
 ·unfold nxt nxA;rw [if_pos (.inl (by omega)),if_pos (.inl (by omega))];exact ⟨rfl,rfl⟩
 ·unfold nxt nxA;rw [if_pos (.inr (by omega)),if_pos (.inr (by omega))];exact ⟨rfl,rfl⟩
 ·have hb:=zz44 hl a.toNat
  have hg:l[a.toNat]?=some (l.getD a.toNat 0):=by rw [List.getD_eq_getElem?_getD,List.getElem?_eq_getElem (by omega)];rfl
  have hr:(byts l)[a.toNat]?=some [U8 (l.getD a.toNat 0)]:=by simp only [byts,List.getElem?_map,hg];rfl
  have e:(a+1-1)=(a.toNat:Int):=by omega
  unfold nxt nxA;rw [if_neg (by omega),if_neg (by omega)]
  refine And.intro (by omega) (And.intro (by omega) ?_)
  rw [e]
  refine idxN hr (And.intro (by omega) (And.intro (by omega) (And.intro (by omega) ⟨I_eq ?_,rfl⟩)))
  first | rfl | exact Int.tmod_eq_emod_of_nonneg hb.1
end Go.Ab.YtpneaijfkefeaaaGreat
namespace Go.Ab.YtpneaijfkefeaaaGreat
open Go Go.Ab Go.RowKit
def wdB (t:Trm):Bool:=wfT 1073741824 t&&Nat.ble (dpT t) 100000
def envB (ds:List Dcl):Bool:=ds.all fun d=>wdB d.value&&d.ctors.all fun k=>wdB k.ty
theorem zx4 {t:Trm} (h:wdB t=true):Wd 1073741824 100000 t:=by
 simp only [wdB,Bool.and_eq_true] at h
 exact ⟨h.1,Nat.le_of_ble_eq_true h.2⟩
theorem zzs {ds:List Dcl} (h:envB ds=true):EnvW 1073741824 ds:=by
 simp only [envB,List.all_eq_true,Bool.and_eq_true] at h
 exact ⟨fun d hd=>zx4 (h d hd).1,fun d hd k hk=>zx4 ((h d hd).2 k hk)⟩
theorem zqz:EnvW 1073741824 preL:=zzs (by kernel_rfl)
end Go.Ab.YtpneaijfkefeaaaGreat
namespace Go.Ab.YtpneaijfkefeaaaGreat
open Go Go.RowKit Go.Ab Go.Proofs
def cZero:Trm:=trmOf (⟨#[122,101,114,111]⟩:ByteArray)
def cSucc:Trm:=trmOf (⟨#[115,117,99,99]⟩:ByteArray)
def cAdd:Trm:=trmOf (⟨#[97,100,100]⟩:ByteArray)
def cTwo:Trm:=trmOf (⟨#[116,119,111]⟩:ByteArray)
def cNat:Trm:=trmOf (⟨#[78,97,116]⟩:ByteArray)
def cId:Trm:=trmOf (⟨#[105,100,123,83,48,125]⟩:ByteArray)
def cRec:Trm:=trmOf (⟨#[78,97,116,46,114,101,99,123,83,48,125]⟩:ByteArray)
def cNN:Trm:=trmOf (⟨#[92,78,97,116,46,32,78,97,116]⟩:ByteArray)
def cPi:Trm:=trmOf (⟨#[33,78,97,116,46,32,78,97,116]⟩:ByteArray)
mutual
def natF (l:List Int):Nat->Int->Int->Trm×Int
 | 0,_,a=>(cZero,a)
 | g+1,v,a =>
   if nxt l a 9=1\/nxt l a 9=2 then (appT cSucc [(natF l g v (nxA l a 9)).1],(natF l g v (nxA l a 9)).2)
   else if nxt l a 9=3 then (appT cAdd [(natF l g v (nxA l a 9)).1,(natF l g v (natF l g v (nxA l a 9)).2).1],(natF l g v (natF l g v (nxA l a 9)).2).2)
   else if nxt l a 9=4 then (if v>0 then (mkV (nxt l (nxA l a 9) v),nxA l (nxA l a 9) v) else (cTwo,nxA l a 9))
   else if nxt l a 9=5 then (appT cId [cNat,(natF l g v (nxA l a 9)).1],(natF l g v (nxA l a 9)).2)
   else if nxt l a 9=6 then (mkA (funF l g v (nxA l a 9)).1 (natF l g v (funF l g v (nxA l a 9)).2).1,(natF l g v (funF l g v (nxA l a 9)).2).2)
   else if nxt l a 9=7 then (⟨6,0,⟨#[]⟩,[],[cNat,(natF l g v (nxA l a 9)).1,(natF l g (v+1) (natF l g v (nxA l a 9)).2).1]⟩,(natF l g (v+1) (natF l g v (nxA l a 9)).2).2)
   else if nxt l a 9=8 then (appT cRec [cNN,(natF l g v (nxA l a 9)).1,mkB 4 cNat (mkB 4 cNat (natF l g (v+2) (natF l g v (nxA l a 9)).2).1),(natF l g v (natF l g (v+2) (natF l g v (nxA l a 9)).2).2).1],(natF l g v (natF l g (v+2) (natF l g v (nxA l a 9)).2).2).2)
   else (cZero,nxA l a 9)
def funF (l:List Int):Nat->Int->Int->Trm×Int
 | 0,_,a=>(cZero,a)
 | g+1,v,a =>
   if nxt l a 4=0 then (mkB 4 cNat (natF l g (v+1) (nxA l a 4)).1,(natF l g (v+1) (nxA l a 4)).2)
   else if nxt l a 4=1 then (cSucc,nxA l a 4)
   else if nxt l a 4=2 then (appT cAdd [(natF l g v (nxA l a 4)).1],(natF l g v (nxA l a 4)).2)
   else (appT cId [cPi,mkB 4 cNat (natF l g (v+1) (nxA l a 4)).1],(natF l g (v+1) (nxA l a 4)).2)
end
structure Mk (l:List Int) (g:Nat) (k:Int) (a:Int) (x:Trm×Int):Prop where
 a0:a<=x.2
 a1:x.2<=l.length
 w:wfT 1000000 x.1=true
 d:dpT x.1<=6 * g+10
 s:(sizT x.1:Int)<=14 * (x.2-a)+k
theorem nx_le {l:List Int} {a n:Int} (h0:0<=a) (h1:a<=l.length):a<=nxA l a n/\nxA l a n<=l.length/\(nxt l a n≠0->nxA l a n=a+1)/\(1<=n->a<l.length->nxA l a n=a+1):=by
 unfold nxA nxt
 by_cases h:a≥l.length\/n<1
 ·rw [if_pos h,if_pos h];exact ⟨by omega,by omega,by simp,by omega⟩
 ·rw [if_neg h,if_neg h];exact ⟨by omega,by omega,fun _=>rfl,fun _ _=>rfl⟩
theorem nx_lt {l:List Int} {a n:Int} (hn:1<=n):0<=nxt l a n/\nxt l a n<n:=by
 unfold nxt
 split
 ·omega
 ·exact ⟨Int.emod_nonneg _ (by omega),Int.emod_lt_of_pos _ (by omega)⟩
theorem kB_wf {k:Int} (hk:k=4\/k=5) {a b:Trm} (ha:wfT 1000000 a=true) (hb:wfT 1000000 b=true):wfT 1000000 (mkB k a b)=true:=by
 refine z6e ⟨by rcases hk with rfl | rfl<;>simp [mkB,argF],by simp [mkB],by simp [mkB],by simp [mkB],by simp [mkB],by rcases hk with rfl | rfl<;>simp [mkB],by simp [mkB],by simp [mkB],by simp [mkB],fun x hx=>?_⟩
 simp only [mkB,List.mem_cons,List.not_mem_nil,or_false] at hx
 rcases hx with rfl | rfl<;>assumption
theorem k6_wf {a b c:Trm} (ha:wfT 1000000 a=true) (hb:wfT 1000000 b=true) (hc:wfT 1000000 c=true):wfT 1000000 ⟨6,0,⟨#[]⟩,[],[a,b,c]⟩=true:=by
 refine z6e ⟨by simp [argF],by simp,by simp,by simp,by simp,by simp,by simp,by simp,by simp,fun x hx=>?_⟩
 simp only [List.mem_cons,List.not_mem_nil,or_false] at hx
 rcases hx with rfl | rfl | rfl<;>assumption
def cOK (t:Trm) (d s:Nat):Bool:=wfT 1000000 t&&(decide (dpT t<=d)&&decide (sizT t<=s))
theorem zx {t:Trm} {d s:Nat} (h:cOK t d s=true):wfT 1000000 t=true/\dpT t<=d/\sizT t<=s:=by
 simp only [cOK,Bool.and_eq_true,decide_eq_true_eq] at h;exact h
theorem kZero:cOK cZero 1 1=true:=by kernel_rfl
theorem kSucc:cOK cSucc 1 1=true:=by kernel_rfl
theorem kAdd:cOK cAdd 1 1=true:=by kernel_rfl
theorem kTwo:cOK cTwo 1 1=true:=by kernel_rfl
theorem kNat:cOK cNat 1 1=true:=by kernel_rfl
theorem kId:cOK cId 1 1=true:=by kernel_rfl
theorem kRec:cOK cRec 1 1=true:=by kernel_rfl
theorem kNN:cOK cNN 2 3=true:=by kernel_rfl
theorem kPi:cOK cPi 2 3=true:=by kernel_rfl
theorem zbs (l:List Int) (g:Nat) {a b:Int} (hab:a<=b) (hb:b<=l.length) {c:Trm} (h:cOK c 1 1=true) {k:Int} (hk:1<=k):Mk l g k a (c,b):=by
 obtain ⟨h1,h2,h3⟩:=zx h
 exact ⟨hab,hb,h1,by simp only;omega,by simp only;omega⟩
theorem z2o (f a:Trm):sizT (mkA f a)=sizT f+sizT a+1:=by simp [mkA,sizT,sizTs]
theorem sz_B (k:Int) (f a:Trm):sizT (mkB k f a)=sizT f+sizT a+1:=by simp [mkB,sizT,sizTs]
theorem z2w (f a:Trm):dpT (mkA f a)=max (dpT f) (dpT a)+1:=by simp [mkA,dpT,dpTs]
theorem dp_B (k:Int) (f a:Trm):dpT (mkB k f a)=max (dpT f) (dpT a)+1:=by simp [mkB,dpT,dpTs]
theorem zbt (l:List Int):∀ g:Nat,(∀ v a:Int,0<=v->v+2 * g<=100000->0<=a->a<=l.length->Mk l g 1 a (natF l g v a))/\(∀ v a:Int,0<=v->v+2 * g<=100000->0<=a->a<=l.length->Mk l g 10 a (funF l g v a))
 | 0=>⟨fun v a h0 h1 h2 h3=>zbs l 0 (Int.le_refl _) h3 kZero (by omega),fun v a h0 h1 h2 h3=>zbs l 0 (Int.le_refl _) h3 kZero (by omega)⟩
 | g + 1 => by
   obtain ⟨iN,iF⟩:=zbt l g
   have z1:=zx kSucc;have z2:=zx kAdd;have z3:=zx kNat;have z4:=zx kId;have z5:=zx kRec;have z6:=zx kNN;have z7:=zx kPi
   refine ⟨fun v a h0 h1 h2 h3=>?_,fun v a h0 h1 h2 h3=>?_⟩
   ·have hx := nx_le (l:=l) (n:=9) h2 h3
    simp only [natF]
    generalize nxA l a 9=b at *
    split
    ·have hb:=hx.2.2.1 (by omega)
     have m:=iN v b h0 (by omega) (by omega) hx.2.1
     exact ⟨by have:=m.a0;simp only;omega,m.a1,z1f (by omega) z1.1 m.w,by have:=m.d;simp only [appT,z2w];omega,by have:=m.s;simp only [appT,z2o];push_cast;omega⟩
    ·split
     ·have hb:=hx.2.2.1 (by omega)
      have m:=iN v b h0 (by omega) (by omega) hx.2.1
      have m2:=iN v _ h0 (by omega) (by have:=m.a0;omega) m.a1
      exact ⟨by have:=m.a0;have:=m2.a0;simp only;omega,m2.a1,z1f (by omega) (z1f (by omega) z2.1 m.w) m2.w,by have:=m.d;have:=m2.d;simp only [appT,z2w];omega,by have:=m.s;have:=m2.s;simp only [appT,z2o];push_cast;omega⟩
     ·split
      ·have hb:=hx.2.2.1 (by omega)
       split
       ·have hy:=nx_le (l:=l) (a:=b) (n:=v) (by omega) hx.2.1
        have hv:=nx_lt (l:=l) (a:=b) (n:=v) (by omega)
        exact ⟨by simp only;omega,hy.2.1,by simp [mkV,wfT,shpF,wfTs,argF];omega,by simp [mkV,dpT,dpTs],by simp [mkV,sizT,sizTs];omega⟩
       ·exact zbs l _ (by omega) hx.2.1 kTwo (by omega)
      ·split
       ·have hb:=hx.2.2.1 (by omega)
        have m:=iN v b h0 (by omega) (by omega) hx.2.1
        exact ⟨by have:=m.a0;simp only;omega,m.a1,z1f (by omega) (z1f (by omega) z4.1 z3.1) m.w,by have:=m.d;simp only [appT,z2w];omega,by have:=m.s;simp only [appT,z2o];push_cast;omega⟩
       ·split
        ·have hb:=hx.2.2.1 (by omega)
         have m:=iF v b h0 (by omega) (by omega) hx.2.1
         have m2:=iN v _ h0 (by omega) (by have:=m.a0;omega) m.a1
         exact ⟨by have:=m.a0;have:=m2.a0;simp only;omega,m2.a1,z1f (by omega) m.w m2.w,by have:=m.d;have:=m2.d;simp only [z2w];omega,by have:=m.s;have:=m2.s;simp only [z2o];push_cast;omega⟩
        ·split
         ·have hb:=hx.2.2.1 (by omega)
          have m:=iN v b h0 (by omega) (by omega) hx.2.1
          have m2:=iN (v+1) _ (by omega) (by omega) (by have:=m.a0;omega) m.a1
          exact ⟨by have:=m.a0;have:=m2.a0;simp only;omega,m2.a1,k6_wf z3.1 m.w m2.w,by have:=m.d;have:=m2.d;simp only [dpT,dpTs];omega,by have:=m.s;have:=m2.s;simp only [sizT,sizTs];push_cast;omega⟩
         ·split
          ·have hb:=hx.2.2.1 (by omega)
           have m:=iN v b h0 (by omega) (by omega) hx.2.1
           have m2:=iN (v+2) _ (by omega) (by omega) (by have:=m.a0;omega) m.a1
           have m3:=iN v _ (by omega) (by omega) (by have:=m.a0;have:=m2.a0;omega) m2.a1
           exact ⟨by have:=m.a0;have:=m2.a0;have:=m3.a0;simp only;omega,m3.a1,z1f (by omega) (z1f (by omega) (z1f (by omega) (z1f (by omega) z5.1 z6.1) m.w) (kB_wf (.inl rfl) z3.1 (kB_wf (.inl rfl) z3.1 m2.w))) m3.w,by have:=m.d;have:=m2.d;have:=m3.d;simp only [appT,z2w,dp_B];omega,by have:=m.s;have:=m2.s;have:=m3.s;simp only [appT,z2o,sz_B];push_cast;omega⟩
          ·exact zbs l _ (by omega) hx.2.1 kZero (by omega)
   ·have hx:=nx_le (l:=l) (n:=4) h2 h3
    simp only [funF]
    generalize nxA l a 4=b at *
    split
    ·have m:=iN (v+1) b (by omega) (by omega) (by omega) hx.2.1
     exact ⟨by have:=m.a0;simp only;omega,m.a1,kB_wf (.inl rfl) z3.1 m.w,by have:=m.d;simp only [dp_B];omega,by have:=m.s;simp only [sz_B];push_cast;omega⟩
    ·split
     ·exact zbs l _ (by omega) hx.2.1 kSucc (by omega)
     ·split
      ·have hb:=hx.2.2.1 (by omega)
       have m:=iN v b h0 (by omega) (by omega) hx.2.1
       exact ⟨by have:=m.a0;simp only;omega,m.a1,z1f (by omega) z2.1 m.w,by have:=m.d;simp only [appT,z2w];omega,by have:=m.s;simp only [appT,z2o];push_cast;omega⟩
      ·have m:=iN (v+1) b (by omega) (by omega) (by omega) hx.2.1
       have hb:=hx.2.2.1 (by omega)
       exact ⟨by have:=m.a0;simp only;omega,m.a1,z1f (by omega) (z1f (by omega) z4.1 z7.1) (kB_wf (.inl rfl) z3.1 m.w),by have:=m.d;simp only [appT,z2w,dp_B];omega,by have:=m.s;simp only [appT,z2o,sz_B];push_cast;omega⟩
theorem Mk.cp {l:List Int} {g:Nat} {k a:Int} {x:Trm×Int} (h:Mk l g k a x) (hg:g<=100000):Cp x.1:=Cp.of h.w (by omega) (by have:=h.d;omega)
theorem cp_c {t:Trm} {d s:Nat} (h:cOK t d s=true) (hd:d<=1000):Cp t:=by obtain ⟨h1,h2,h3⟩:=zx h;exact Cp.of h1 (by omega) (by omega)
theorem z6c (s:ByteArray) (h:txtOK s=true) (hc:okT (trmOf s)=true) (x:Trm) (hx:Cp x):PCon Tryz.prog 73 [.p (St s),.p (.sl 5 [rowT x])] (tv (appT (trmOf s) [x])):=by
 have:=z8p s h hc [x] (fun a ha=>by simp at ha;subst ha;exact hx) (by simp)
 rw [show encTs [x]=[rowT x] by simp [zb]] at this
 exact this
theorem z7u (s:ByteArray) (h:txtOK s=true) (hc:okT (trmOf s)=true) (x y:Trm) (hx:Cp x) (hy:Cp y):PCon Tryz.prog 73 [.p (St s),.p (.sl 5 [rowT x,rowT y])] (tv (appT (trmOf s) [x,y])):=by
 have:=z8p s h hc [x,y] (fun a ha=>by simp at ha;rcases ha with rfl | rfl<;>assumption) (by simp)
 rw [show encTs [x,y]=[rowT x,rowT y] by simp [zb]] at this
 exact this
theorem zx5 (s:ByteArray) (h:txtOK s=true) (hc:okT (trmOf s)=true) (x y z u:Trm) (hx:Cp x) (hy:Cp y) (hz:Cp z) (hu:Cp u):PCon Tryz.prog 73 [.p (St s),.p (.sl 5 [rowT x,rowT y,rowT z,rowT u])] (tv (appT (trmOf s) [x,y,z,u])):=by
 have:=z8p s h hc [x,y,z,u] (fun a ha=>by simp at ha;rcases ha with rfl | rfl | rfl | rfl<;>assumption) (by simp)
 rw [show encTs [x,y,z,u]=[rowT x,rowT y,rowT z,rowT u] by simp [zb]] at this
 exact this
def NatC (l:List Int) (v a:Int) (x:Trm×Int):Prop:=Con Tryz.prog 31 [.ptr 1000 0,.p (I v)] (pkO l a) (fun r o=>r=tv x.1/\o=pkO l x.2)
def FunC (l:List Int) (v a:Int) (x:Trm×Int):Prop:=Con Tryz.prog 61 [.ptr 1000 0,.p (I v)] (pkO l a) (fun r o=>r=tv x.1/\o=pkO l x.2)
abbrev pkB (l:List Int) (a:Int):Ob:=.ce 96 [.p (.sl 1 (byts l)),.p (I a)]
theorem tSucc:txtOK (⟨#[115,117,99,99]⟩:ByteArray)=true:=by kernel_rfl
theorem tAdd:txtOK (⟨#[97,100,100]⟩:ByteArray)=true:=by kernel_rfl
theorem tTwo:txtOK (⟨#[116,119,111]⟩:ByteArray)=true:=by kernel_rfl
theorem tZero:txtOK (⟨#[122,101,114,111]⟩:ByteArray)=true:=by kernel_rfl
theorem tNat:txtOK (⟨#[78,97,116]⟩:ByteArray)=true:=by kernel_rfl
theorem tId:txtOK (⟨#[105,100,123,83,48,125]⟩:ByteArray)=true:=by kernel_rfl
theorem tRec:txtOK (⟨#[78,97,116,46,114,101,99,123,83,48,125]⟩:ByteArray)=true:=by kernel_rfl
theorem tNN:txtOK (⟨#[92,78,97,116,46,32,78,97,116]⟩:ByteArray)=true:=by kernel_rfl
theorem tPi:txtOK (⟨#[33,78,97,116,46,32,78,97,116]⟩:ByteArray)=true:=by kernel_rfl
theorem oSucc:okT cSucc=true:=by kernel_rfl
theorem oAdd:okT cAdd=true:=by kernel_rfl
theorem oId:okT cId=true:=by kernel_rfl
theorem oRec:okT cRec=true:=by kernel_rfl
set_option maxHeartbeats 8000000 in
theorem zbu (l:List Int) (hl:okB l) (hlen:l.length<=10000):∀ g:Nat,(∀ v a:Int,0<=v->v+2 * g<=100000->0<=a->a<=l.length->2 * (l.length-a)+1<=g->NatC l v a (natF l g v a))/\(∀ v a:Int,0<=v->v+2 * g<=100000->0<=a->a<=l.length->2 * (l.length-a)+2<=g->FunC l v a (funF l g v a))
 | 0=>⟨fun v a h0 h1 h2 h3 h4=>by omega,fun v a h0 h1 h2 h3 h4=>by omega⟩
 | g + 1 => by
   obtain ⟨cN,cF⟩:=zbu l hl hlen g
   obtain ⟨iN,iF⟩:=zbt l g
   refine ⟨fun v a h0 h1 h2 h3 h4=>?_,fun v a h0 h1 h2 h3 h4=>?_⟩
   ·have hx:=nx_le (l:=l) (n:=9) h2 h3
    have hnx:=z2a l hl (by omega) a 9 h2 (by omega) (by omega)
    unfold NatC
    generalize hX:natF l (g+1) v a=X
    simp only [natF] at hX
    generalize nxA l a 9=b at *
    generalize nxt l a 9=k at *
    have hN:∀ v' c:Int,0<=v'->v'+2 * g<=100000->a+1<=c->c<=l.length->NatC l v' c (natF l g v' c):=fun v' c g0 g1 g2 g3=>cN v' c g0 g1 (by omega) g3 (by omega)
    refine cv [] [] [1000] Tryz.func31 93 Tryz.ntmps31 rfl rfl fun cx hE=>call1 [1000] hnx rfl rfl (za _) ?_
    refine brS (fun hk=>?_) (fun hk=>brS (fun hk2=>?_) (fun hk2=>brS (fun hk3=>?_) (fun hk3=>brS (fun hk4=>?_) (fun hk4=>brS (fun hk5=>?_) (fun hk5=>brS (fun hk6=>?_) (fun hk6=>brS (fun hk7=>?_) (fun hk7=>brS (fun hk8=>?_) (fun hk8=>?_))))))))
    ·have hb:=hx.2.2.1 (by omega)
     rw [if_pos (.inl hk)] at hX;subst hX
     have m:=iN v b h0 (by omega) (by omega) hx.2.1
     exact call1 [1000] (hN v b h0 (by omega) (by omega) hx.2.1) rfl rfl (za _) (call0 (z6c _ tSucc oSucc _ (m.cp (by omega))) ⟨rfl,rfl⟩)
    ·have hb:=hx.2.2.1 (by omega)
     rw [if_pos (.inr hk2)] at hX;subst hX
     have m:=iN v b h0 (by omega) (by omega) hx.2.1
     exact call1 [1000] (hN v b h0 (by omega) (by omega) hx.2.1) rfl rfl (za _) (call0 (z6c _ tSucc oSucc _ (m.cp (by omega))) ⟨rfl,rfl⟩)
    ·have hb:=hx.2.2.1 (by omega)
     rw [if_neg (by omega),if_pos hk3] at hX;subst hX
     have m:=iN v b h0 (by omega) (by omega) hx.2.1
     have m0:=m.a0
     have m2:=iN v _ h0 (by omega) (by omega) m.a1
     exact call1 [1000] (hN v b h0 (by omega) (by omega) hx.2.1) rfl rfl (za _) (callW [1000] 1000 (pkB l _) (hN v _ h0 (by omega) (by omega) m.a1) rfl rfl (za _) rfl rfl (call0 (z7u _ tAdd oAdd _ _ (m.cp (by omega)) (m2.cp (by omega))) ⟨rfl,rfl⟩))
    ·have hb:=hx.2.2.1 (by omega)
     rw [if_neg (by omega),if_neg hk3,if_pos hk4] at hX
     refine brS (fun hv=>?_) (fun hv=>?_)
     ·rw [if_pos hv] at hX;subst hX
      exact call1 [1000] (z2a l hl (by omega) b v (by omega) (by omega) (by omega)) rfl rfl (za _) (call0 (z4a _) ⟨rfl,rfl⟩)
     ·rw [if_neg hv] at hX;subst hX
      exact call0 (z3n _ tTwo) ⟨rfl,rfl⟩
    ·have hb:=hx.2.2.1 (by omega)
     rw [if_neg (by omega),if_neg hk3,if_neg hk4,if_pos hk5] at hX;subst hX
     have m:=iN v b h0 (by omega) (by omega) hx.2.1
     exact call0 (z3n _ tNat) (call1 [1000] (hN v b h0 (by omega) (by omega) hx.2.1) rfl rfl (za _) (call0 (z7u _ tId oId cNat _ (cp_c kNat (by omega)) (m.cp (by omega))) ⟨rfl,rfl⟩))
    ·have hb:=hx.2.2.1 (by omega)
     rw [if_neg (by omega),if_neg hk3,if_neg hk4,if_neg hk5,if_pos hk6] at hX;subst hX
     have m:=iF v b h0 (by omega) (by omega) hx.2.1
     have m0:=m.a0
     have m2:=iN v _ h0 (by omega) (by omega) m.a1
     exact call1 [1000] (cF v b h0 (by omega) (by omega) hx.2.1 (by omega)) rfl rfl (za _) (callW [1000] 1000 (pkB l _) (hN v _ h0 (by omega) (by omega) m.a1) rfl rfl (za _) rfl rfl (call0 (z1o _ _ (m2.cp (by omega))) ⟨rfl,rfl⟩))
    ·have hb:=hx.2.2.1 (by omega)
     rw [if_neg (by omega),if_neg hk3,if_neg hk4,if_neg hk5,if_neg hk6,if_pos hk7] at hX;subst hX
     have m:=iN v b h0 (by omega) (by omega) hx.2.1
     have m0:=m.a0
     exact call1 [1000] (hN v b h0 (by omega) (by omega) hx.2.1) rfl rfl (za _) (call0 (z3n _ tNat) (And.intro (by omega) (callW [1000] 1000 (pkB l _) (hN (v+1) _ (by omega) (by omega) (by omega) m.a1) rfl rfl (za _) rfl rfl ⟨tv3 _ _ _ [] _ _ _,rfl⟩)))
    ·have hb:=hx.2.2.1 (by omega)
     rw [if_neg (by omega),if_neg hk3,if_neg hk4,if_neg hk5,if_neg hk6,if_neg hk7,if_pos hk8] at hX;subst hX
     have m:=iN v b h0 (by omega) (by omega) hx.2.1
     have m0:=m.a0
     have m2:=iN (v+2) _ (by omega) (by omega) (by omega) m.a1
     have m20:=m2.a0
     have m3:=iN v _ h0 (by omega) (by omega) m2.a1
     have hlam:Cp (mkB 4 cNat (mkB 4 cNat (natF l g (v+2) (natF l g v b).2).1)):=by
      have h1:=(zx kNat)
      have h2:=m2.d
      exact Cp.of (kB_wf (.inl rfl) h1.1 (kB_wf (.inl rfl) h1.1 m2.w)) (by omega) (by simp only [dp_B];omega)
     exact call1 [1000] (hN v b h0 (by omega) (by omega) hx.2.1) rfl rfl (za _) (call0 (z3n _ tNat) (call0 (z3n _ tNat) (And.intro (by omega) (call1 [1000] (hN (v+2) _ (by omega) (by omega) (by omega) m.a1) rfl rfl (za _) (call0 (z4b cNat _ (cp_c kNat (by omega))) (call0 (z4b cNat _ (cp_c kNat (by omega))) (call0 (zz _ tNN) (callW [1000] 1000 (pkB l _) (hN v _ h0 (by omega) (by omega) m2.a1) rfl rfl (za _) rfl rfl (call0 (zx5 _ tRec oRec cNN _ _ _ (cp_c kNN (by omega)) (m.cp (by omega)) hlam (m3.cp (by omega))) ⟨rfl,rfl⟩)))))))))
    ·rw [if_neg (by omega),if_neg hk3,if_neg hk4,if_neg hk5,if_neg hk6,if_neg hk7,if_neg hk8] at hX;subst hX
     exact call0 (z3n _ tZero) ⟨rfl,rfl⟩
   ·have hx:=nx_le (l:=l) (n:=4) h2 h3
    have hnx:=z2a l hl (by omega) a 4 h2 (by omega) (by omega)
    have hnl:=nx_lt (l:=l) (a:=a) (n:=4) (by omega)
    unfold FunC
    generalize hX:funF l (g+1) v a=X
    simp only [funF] at hX
    generalize nxA l a 4=b at *
    generalize nxt l a 4=k at *
    have hN:∀ v':Int,0<=v'->v'+2 * g<=100000->NatC l v' b (natF l g v' b):=fun v' g0 g1=>cN v' b g0 g1 (by omega) hx.2.1 (by
     by_cases hal:a<l.length
     ·have:=hx.2.2.2 (by omega) hal;omega
     ·omega)
    refine cv [] [] [1000] Tryz.func61 34 Tryz.ntmps61 rfl rfl fun cx hE=>call1 [1000] hnx rfl rfl (za _) ?_
    refine brS (fun hk=>?_) (fun hk=>brS (fun hk2=>?_) (fun hk2=>brS (fun hk3=>?_) (fun hk3=>?_)))
    ·rw [if_pos hk] at hX;subst hX
     exact call0 (z3n _ tNat) (And.intro (by omega) (call1 [1000] (hN (v+1) (by omega) (by omega)) rfl rfl (za _) (call0 (z4b cNat _ (cp_c kNat (by omega))) ⟨rfl,rfl⟩)))
    ·rw [if_neg hk,if_pos hk2] at hX;subst hX
     exact call0 (z3n _ tSucc) ⟨rfl,rfl⟩
    ·rw [if_neg hk,if_neg hk2,if_pos hk3] at hX;subst hX
     have m:=iN v b h0 (by omega) (by omega) hx.2.1
     exact call1 [1000] (hN v h0 (by omega)) rfl rfl (za _) (call0 (z6c _ tAdd oAdd _ (m.cp (by omega))) ⟨rfl,rfl⟩)
    ·rw [if_neg hk,if_neg hk2,if_neg hk3] at hX;subst hX
     have m:=iN (v+1) b (by omega) (by omega) (by omega) hx.2.1
     have hlam:Cp (mkB 4 cNat (natF l g (v+1) b).1):=by
      have h1:=(zx kNat)
      have h2:=m.d
      exact Cp.of (kB_wf (.inl rfl) h1.1 m.w) (by omega) (by simp only [dp_B];omega)
     exact call0 (zz _ tPi) (call0 (z3n _ tNat) (And.intro (by omega) (call1 [1000] (hN (v+1) (by omega) (by omega)) rfl rfl (za _) (call0 (z4b cNat _ (cp_c kNat (by omega))) (call0 (z7u _ tId oId cPi _ (cp_c kPi (by omega)) hlam) ⟨rfl,rfl⟩)))))
def cEq:Trm:=trmOf (⟨#[69,113,123,83,48,125]⟩:ByteArray)
def cAnd:Trm:=trmOf (⟨#[65,110,100]⟩:ByteArray)
def cNot:Trm:=trmOf (⟨#[110,111,116]⟩:ByteArray)
def cP:Trm:=trmOf (⟨#[80]⟩:ByteArray)
def cS0:Trm:=trmOf (⟨#[42,48]⟩:ByteArray)
def cRefl:Trm:=trmOf (⟨#[69,113,46,114,101,102,108,123,83,48,125]⟩:ByteArray)
def zm7:Trm:=trmOf (⟨#[65,110,100,46,109,107]⟩:ByteArray)
def cId0:Trm:=trmOf (⟨#[105,100,123,48,125]⟩:ByteArray)
def cAll:Trm:=trmOf (⟨#[112,46,97,108,108]⟩:ByteArray)
def pn (l:List Int) (v a:Int):Trm×Int:=natF l (2 * l.length+1) v a
def propF (l:List Int):Nat->Int->Int->Trm×Int
 | 0,_,a=>(cZero,a)
 | g+1,v,a =>
   if nxt l a 6=1 then (appT cEq [cNat,(pn l v (nxA l a 6)).1,(pn l v (pn l v (nxA l a 6)).2).1],(pn l v (pn l v (nxA l a 6)).2).2)
   else if nxt l a 6=2 then (appT cAnd [(propF l g v (nxA l a 6)).1,(propF l g v (propF l g v (nxA l a 6)).2).1],(propF l g v (propF l g v (nxA l a 6)).2).2)
   else if nxt l a 6=3 then (mkB 5 cNat (propF l g (v+1) (nxA l a 6)).1,(propF l g (v+1) (nxA l a 6)).2)
   else if nxt l a 6=4 then (appT cNot [(propF l g v (nxA l a 6)).1],(propF l g v (nxA l a 6)).2)
   else if nxt l a 6=5/\¬ nxA l a 6≥l.length then (appT cId [cS0,(propF l g v (nxA l a 6)).1],(propF l g v (nxA l a 6)).2)
   else (appT cP [(pn l v (nxA l a 6)).1],(pn l v (nxA l a 6)).2)
def pp (l:List Int) (v a:Int):Trm×Int:=propF l (l.length+1) v a
def z1n (l:List Int):Nat->Int->Int->Trm×Trm×Int
 | 0,_,a=>(cZero,cZero,a)
 | g + 1,v,a =>
   if nxt l a 6=1 then (appT cRefl [cNat,(pn l v (nxA l a 6)).1],appT cEq [cNat,(pn l v (nxA l a 6)).1,(pn l v (nxA l a 6)).1],(pn l v (nxA l a 6)).2)
   else if nxt l a 6=2 then
    (appT zm7 [(z1n l g v (nxA l a 6)).2.1,(z1n l g v (z1n l g v (nxA l a 6)).2.2).2.1,(z1n l g v (nxA l a 6)).1,(z1n l g v (z1n l g v (nxA l a 6)).2.2).1],
     appT cAnd [(z1n l g v (nxA l a 6)).2.1,(z1n l g v (z1n l g v (nxA l a 6)).2.2).2.1],(z1n l g v (z1n l g v (nxA l a 6)).2.2).2.2)
   else if nxt l a 6=3 then (mkB 4 cNat (z1n l g (v+1) (nxA l a 6)).1,mkB 5 cNat (z1n l g (v+1) (nxA l a 6)).2.1,(z1n l g (v+1) (nxA l a 6)).2.2)
   else if nxt l a 6=4 then (mkB 4 (pp l v (nxA l a 6)).1 (mkV 0),mkB 5 (pp l v (nxA l a 6)).1 (lftT 1 (pp l v (nxA l a 6)).1 0),(pp l v (nxA l a 6)).2)
   else if nxt l a 6=5/\¬ nxA l a 6≥l.length then (appT cId0 [(z1n l g v (nxA l a 6)).2.1,(z1n l g v (nxA l a 6)).1],(z1n l g v (nxA l a 6)).2.1,(z1n l g v (nxA l a 6)).2.2)
   else (appT cAll [(pn l v (nxA l a 6)).1],appT cP [(pn l v (nxA l a 6)).1],(pn l v (nxA l a 6)).2)
theorem kEq:cOK cEq 1 1=true:=by kernel_rfl
theorem kAnd:cOK cAnd 1 1=true:=by kernel_rfl
theorem kNot:cOK cNot 1 1=true:=by kernel_rfl
theorem kP:cOK cP 1 1=true:=by kernel_rfl
theorem kS0:cOK cS0 1 1=true:=by kernel_rfl
theorem kRefl:cOK cRefl 1 1=true:=by kernel_rfl
theorem zz45:cOK zm7 1 1=true:=by kernel_rfl
theorem kId0:cOK cId0 1 1=true:=by kernel_rfl
theorem kAll:cOK cAll 1 1=true:=by kernel_rfl
theorem pn_ok (l:List Int) (hl:l.length<=10000) {v a:Int} (h0:0<=v) (h1:v<=50000) (h2:0<=a) (h3:a<=l.length):Mk l (2 * l.length+1) 1 a (pn l v a):=(zbt l _).1 v a h0 (by omega) h2 h3
theorem zfh (l:List Int) (hl:l.length<=10000):∀ (g:Nat) (v a:Int),0<=v->v+g<=50000->0<=a->a<=l.length->Mk l (2 * l.length+1+g) 3 a (propF l g v a)
 | 0,v,a,h0,h1,h2,h3=>zbs l _ (Int.le_refl _) h3 kZero (by omega)
 | g + 1, v, a,h0,h1,h2,h3=>by
   have iP:=zfh l hl g
   have z1:=zx kEq;have z2:=zx kAnd;have z3:=zx kNat;have z4:=zx kNot;have z5:=zx kP;have z6:=zx kS0;have z7:=zx kId
   have hx:=nx_le (l:=l) (n:=6) h2 h3
   simp only [propF]
   generalize nxA l a 6=b at *
   split
   ·have hb:=hx.2.2.1 (by omega)
    have m:=pn_ok l hl h0 (by omega) (by omega:0<=b) hx.2.1
    have m2:=pn_ok l hl h0 (by omega) (by have:=m.a0;omega) m.a1
    exact ⟨by have:=m.a0;have:=m2.a0;simp only;omega,m2.a1,z1f (by omega) (z1f (by omega) (z1f (by omega) z1.1 z3.1) m.w) m2.w,by have:=m.d;have:=m2.d;simp only [appT,z2w];omega,by have:=m.s;have:=m2.s;simp only [appT,z2o];push_cast;omega⟩
   ·split
    ·have hb:=hx.2.2.1 (by omega)
     have m:=iP v b h0 (by omega) (by omega) hx.2.1
     have m2:=iP v _ h0 (by omega) (by have:=m.a0;omega) m.a1
     exact ⟨by have:=m.a0;have:=m2.a0;simp only;omega,m2.a1,z1f (by omega) (z1f (by omega) z2.1 m.w) m2.w,by have:=m.d;have:=m2.d;simp only [appT,z2w];omega,by have:=m.s;have:=m2.s;simp only [appT,z2o];push_cast;omega⟩
    ·split
     ·have hb:=hx.2.2.1 (by omega)
      have m:=iP (v+1) b (by omega) (by omega) (by omega) hx.2.1
      exact ⟨by have:=m.a0;simp only;omega,m.a1,kB_wf (.inr rfl) z3.1 m.w,by have:=m.d;simp only [dp_B];omega,by have:=m.s;simp only [sz_B];push_cast;omega⟩
     ·split
      ·have hb:=hx.2.2.1 (by omega)
       have m:=iP v b h0 (by omega) (by omega) hx.2.1
       exact ⟨by have:=m.a0;simp only;omega,m.a1,z1f (by omega) z4.1 m.w,by have:=m.d;simp only [appT,z2w];omega,by have:=m.s;simp only [appT,z2o];push_cast;omega⟩
      ·split
       ·have hb:=hx.2.2.1 (by omega)
        have m:=iP v b h0 (by omega) (by omega) hx.2.1
        exact ⟨by have:=m.a0;simp only;omega,m.a1,z1f (by omega) (z1f (by omega) z7.1 z6.1) m.w,by have:=m.d;simp only [appT,z2w];omega,by have:=m.s;simp only [appT,z2o];push_cast;omega⟩
       ·have m:=pn_ok l hl h0 (by omega) (by omega:0<=b) hx.2.1
        exact ⟨by have:=m.a0;simp only;omega,m.a1,z1f (by omega) z5.1 m.w,by have:=m.d;simp only [appT,z2w];omega,by have:=m.s;simp only [appT,z2o];push_cast;omega⟩
def lvF (l:List Int):Nat->Int->Int->Lvl×Int
 | 0,_,a=>(zL,a)
 | g+1,p,a =>
   if nxt l a 6=1 then (⟨1,0,[(lvF l g p (nxA l a 6)).1]⟩,(lvF l g p (nxA l a 6)).2)
   else if nxt l a 6=2 then (⟨2,0,[(lvF l g p (nxA l a 6)).1,(lvF l g p (lvF l g p (nxA l a 6)).2).1]⟩,(lvF l g p (lvF l g p (nxA l a 6)).2).2)
   else if nxt l a 6=3 then (⟨3,0,[(lvF l g p (nxA l a 6)).1,(lvF l g p (lvF l g p (nxA l a 6)).2).1]⟩,(lvF l g p (lvF l g p (nxA l a 6)).2).2)
   else if (nxt l a 6=4\/nxt l a 6=5)/\p>0 then (⟨4,nxt l (nxA l a 6) p,[]⟩,nxA l (nxA l a 6) p)
   else (zL,nxA l a 6)
def spoN (l:List Int):List ByteArray:=[(⟨#[78,97,116]⟩:ByteArray),(⟨#[110,111,112,101]⟩:ByteArray),(⟨#[69,113]⟩:ByteArray),(⟨#[105,100]⟩:ByteArray),(⟨#[97,100,100]⟩:ByteArray),(⟨#[70,97,108,115,101]⟩:ByteArray)]
def spo0 (l:List Int) (t:Trm) (a:Int):Trm×Int :=
 if nxt l a 6=0 then (cZero,nxA l a 6)
 else if nxt l a 6=1 then (mkV (nxt l (nxA l a 6) 3),nxA l (nxA l a 6) 3)
 else if nxt l a 6=2 then (⟨1,0,⟨#[]⟩,[(lvF l (l.length+1) 2 (nxA l a 6)).1],[]⟩,(lvF l (l.length+1) 2 (nxA l a 6)).2)
 else if nxt l a 6=3 then (⟨2,0,(spoN l).getD (nxt l (nxA l a 6) 6).toNat ⟨#[]⟩,[],[]⟩,nxA l (nxA l a 6) 6)
 else if nxt l a 6=4 then (mkA t t,nxA l a 6)
 else (mkB 4 cNat (lftT 1 t 0),nxA l a 6)
def spoF (l:List Int):Nat->Trm->Int->Trm×Int
 | 0,t,a=>(t,a)
 | g + 1,t,a =>
   if t.args.length>0 then
    if nxt l a 4>0 then
     (⟨t.kind,t.n,t.name,t.levels,t.args.set (nxt l (nxA l a 4) t.args.length).toNat (spoF l g (t.args.getD (nxt l (nxA l a 4) t.args.length).toNat zT) (nxA l (nxA l a 4) t.args.length)).1⟩,
       (spoF l g (t.args.getD (nxt l (nxA l a 4) t.args.length).toNat zT) (nxA l (nxA l a 4) t.args.length)).2)
    else spo0 l t (nxA l a 4)
   else spo0 l t a
def anyS:List ByteArray:=[(⟨#[42,48]⟩:ByteArray),(⟨#[42,83,48]⟩:ByteArray),(⟨#[78,97,116,46,114,101,99,123,48,125]⟩:ByteArray),(⟨#[92,42,112,48,46,32,92,35,48,46,32,35,48]⟩:ByteArray),(⟨#[101,120,116,123,48,44,83,48,125]⟩:ByteArray),(⟨#[33,42,48,46,32,35,48]⟩:ByteArray),(⟨#[76,105,115,116,46,114,101,99,123,48,44,83,48,125]⟩:ByteArray),(⟨#[86,101,99,123,48,125]⟩:ByteArray),(⟨#[92,33,78,97,116,46,32,42,48,46,32,40,35,48,32,122,101,114,111,41]⟩:ByteArray),(⟨#[40,40,40,86,101,99,46,114,101,99,123,48,44,83,48,125,32,78,97,116,41,32,92,78,97,116,46,32,92,40,40,86,101,99,123,48,125,32,78,97,116,41,32,35,48,41,46,32,78,97,116,41,32,122,101,114,111,41]⟩:ByteArray)]
def any0 (l:List Int) (a:Int):Trm×Int :=
 if nxt l a 6=0 then pn l 0 (nxA l a 6)
 else if nxt l a 6=1 then funF l (2 * l.length+1) 0 (nxA l a 6)
 else if nxt l a 6=2 then pp l 0 (nxA l a 6)
 else if nxt l a 6=3 then ((z1n l (l.length+1) 0 (nxA l a 6)).1,(z1n l (l.length+1) 0 (nxA l a 6)).2.2)
 else if nxt l a 6=4 then (z1n l (l.length+1) 0 (nxA l a 6)).2
 else (trmOf (anyS.getD (nxt l (nxA l a 6) 10).toNat ⟨#[]⟩),nxA l (nxA l a 6) 10)
def anyF (l:List Int) (a:Int):Trm×Int :=
 if nxt l (any0 l a).2 5=4 then spoF l (l.length+1) (any0 l a).1 (nxA l (any0 l a).2 5) else ((any0 l a).1,nxA l (any0 l a).2 5)
theorem zx6:(anyS.all fun s=>txtOK s&&cOK (trmOf s) 10 40)=true:=by kernel_rfl
theorem lv_ok (l:List Int):∀ (g:Nat) (p a:Int),0<=a->a<=l.length->a<=(lvF l g p a).2/\(lvF l g p a).2<=l.length/\narL (lvF l g p a).1=true
 | 0,p,a,h2,h3=>⟨Int.le_refl _,h3,by simp [lvF,zL,narL,narLs]⟩
 | g + 1,p,a,h2,h3=>by
   have hx:=nx_le (l:=l) (n:=6) h2 h3
   simp only [lvF]
   generalize nxA l a 6=b at *
   have h0:0<=b:=by omega
   have m:=lv_ok l g p b h0 hx.2.1
   have m2:=lv_ok l g p _ (by omega) m.2.1
   split
   ·exact ⟨by simp only;omega,m.2.1,by simp [narL,narLs,m.2.2]⟩
   ·split
    ·exact ⟨by simp only;omega,m2.2.1,by simp [narL,narLs,m.2.2,m2.2.2]⟩
    ·split
     ·exact ⟨by simp only;omega,m2.2.1,by simp [narL,narLs,m.2.2,m2.2.2]⟩
     ·split
      ·have hy:=nx_le (l:=l) (a:=b) (n:=p) h0 hx.2.1
       exact ⟨by simp only;omega,hy.2.1,by simp [narL,narLs]⟩
      ·exact ⟨hx.1,hx.2.1,by simp [zL,narL,narLs]⟩
theorem zx7 (l:List Int) {c:Int} (hc:1000000<=c) {t:Trm} {a:Int} (h2:0<=a) (h3:a<=l.length) (w:wfT c t=true):a<=(spo0 l t a).2/\(spo0 l t a).2<=l.length/\wfT (c+1) (spo0 l t a).1=true/\dpT (spo0 l t a).1<=dpT t+1/\sizT (spo0 l t a).1<=2 * sizT t+3:=by
 have hx:=nx_le (l:=l) (n:=6) h2 h3
 have hd:=z5s t
 have w1:=zk (c:=c+1) (by omega) t w
 have hs:=zid t
 simp only [spo0]
 generalize nxA l a 6=b at *
 have h0:0<=b:=by omega
 have z1:=zx kZero;have z2:=zx kNat
 split
 ·exact ⟨hx.1,hx.2.1,zk (by omega) _ z1.1,by simp only;omega,by simp only;omega⟩
 ·split
  ·have hy:=nx_le (l:=l) (a:=b) (n:=3) h0 hx.2.1
   have hv:=nx_lt (l:=l) (a:=b) (n:=3) (by omega)
   exact ⟨by simp only;omega,hy.2.1,by simp [mkV,wfT,shpF,wfTs,argF];omega,by simp [mkV,dpT,dpTs],by simp [mkV,sizT,sizTs]⟩
  ·split
   ·have m:=lv_ok l (l.length+1) 2 b h0 hx.2.1
    exact ⟨by simp only;omega,m.2.1,by simp [wfT,shpF,wfTs,argF,m.2.2];omega,by simp [dpT,dpTs],by simp [sizT,sizTs]⟩
   ·split
    ·have hy:=nx_le (l:=l) (a:=b) (n:=6) h0 hx.2.1
     exact ⟨by simp only;omega,hy.2.1,by simp [wfT,shpF,wfTs,argF];omega,by simp [dpT,dpTs],by simp [sizT,sizTs]⟩
    ·split
     ·exact ⟨hx.1,hx.2.1,z1f (by omega) w1 w1,by simp only [z2w];omega,by simp only [z2o];omega⟩
     ·have hl:=zla (by_:=1) t 0
      have hls:=znw 1 t 0
      exact ⟨hx.1,hx.2.1,z6e ⟨by simp [mkB,argF],by simp [mkB],by simp [mkB];omega,by simp [mkB],by simp [mkB],by simp [mkB],by simp [mkB],by simp [mkB],by simp [mkB],fun x hx=>by
       simp only [mkB,List.mem_cons,List.not_mem_nil,or_false] at hx
       rcases hx with rfl | rfl
       ·exact zk (by omega) _ z2.1
       ·exact zl9 (by omega) (by omega) (Int.le_refl _) w⟩,by simp only [dp_B];omega,by simp only [sz_B];omega⟩
theorem zit {M:Nat}:∀ {l:List Trm},(∀ a∈l,dpT a<=M)->dpTs l<=M
 | [],_=>by simp [dpTs]
 | a::r,h=>by
   have h1:=h a (by simp)
   have h2:=zit (l:=r) fun b hb=>h b (by simp [hb])
   simp only [dpTs];omega
theorem zr0 {c:Int} (hc:0<=c) {k:Int} (hk:k=4\/k=5) {a b:Trm} (ha:wfT c a=true) (hb:wfT c b=true):wfT c (mkB k a b)=true:=by
 refine z6e ⟨by rcases hk with rfl | rfl<;>simp [mkB,argF],by simp [mkB],by simpa [mkB] using hc,by simp [mkB],by simp [mkB],by rcases hk with rfl | rfl<;>simp [mkB],by simp [mkB],by simp [mkB],by simp [mkB],fun x hx=>?_⟩
 simp only [mkB,List.mem_cons,List.not_mem_nil,or_false] at hx
 rcases hx with rfl | rfl<;>assumption
theorem sq_le {a b c:Int} (ha:0<=a) (hb:0<=b) (h:1+a+b<=c):a * a+b * b+2 * (a+b)+1<=c * c:=by
 have h1:(1+a+b) * (1+a+b)<=c * c:=Int.mul_le_mul h h (by omega) (by omega)
 have h2:=Int.mul_nonneg ha hb
 have h3:=Int.mul_comm a b
 simp only [Int.add_mul,Int.mul_add,Int.one_mul,Int.mul_one] at h1
 omega
structure Sh (l:List Int) (g:Nat) (a:Int) (x:Trm×Trm×Int):Prop where
 a0:a<=x.2.2
 a1:x.2.2<=l.length
 w:wfT 1000001 x.1=true
 w2:wfT 1000001 x.2.1=true
 d:dpT x.1<=6 * g+10
 d2:dpT x.2.1<=6 * g+10
 s:(sizT x.1:Int)<=14 * ((x.2.2-a) * (x.2.2-a))+40 * (x.2.2-a)+4
 s2:(sizT x.2.1:Int)<=28 * (x.2.2-a)+4
theorem kWf {t:Trm} {d s:Nat} (h:cOK t d s=true):wfT 1000001 t=true:=zk (by omega) _ (zx h).1
theorem zjd (l:List Int) (hl:l.length<=10000):∀ (g:Nat) (v a:Int),0<=v->v+g<=20000->0<=a->a<=l.length->Sh l (3 * l.length+3+g) a (z1n l g v a)
 | 0,v,a,h0,h1,h2,h3=>⟨Int.le_refl _,h3,kWf kZero,kWf kZero,by have:=(zx kZero).2.1;simp only [z1n];omega,by have:=(zx kZero).2.1;simp only [z1n];omega,by have:=(zx kZero).2.2;simp only [z1n,Int.sub_self];omega,by have:=(zx kZero).2.2;simp only [z1n];omega⟩
 | g + 1, v, a,h0,h1,h2,h3=>by
   have iS:=zjd l hl g
   have z1:=zx kEq;have z2:=zx kAnd;have z3:=zx kNat;have z4:=zx kRefl;have z5:=zx kP;have z6:=zx zz45;have z7:=zx kId0;have z8:=zx kAll
   have hx:=nx_le (l:=l) (n:=6) h2 h3
   have up:∀ {t:Trm},wfT 1000000 t=true->wfT 1000001 t=true:=fun h=>zk (by omega) _ h
   have mpn:∀ b:Int,0<=b->b<=l.length->Mk l (2 * l.length+1) 1 b (pn l v b):=fun b hb0 hb1=>pn_ok l hl h0 (by omega) hb0 hb1
   simp only [z1n]
   generalize nxA l a 6=b at *
   have hb0:0<=b:=by omega
   split
   ·have hb:=hx.2.2.1 (by omega)
    have m:=mpn b hb0 hx.2.1
    generalize pn l v b=P at *
    have m0:=m.a0;have ms:=m.s;have md:=m.d;have mw:=up m.w
    have hq:=sq_le (a:=P.2-b) (b:=0) (c:=P.2-a) (by omega) (by omega) (by omega)
    exact ⟨by simp only;omega,m.a1,z1f (by omega) (z1f (by omega) (up z4.1) (up z3.1)) mw,z1f (by omega) (z1f (by omega) (z1f (by omega) (up z1.1) (up z3.1)) mw) mw,by simp only [appT,z2w];omega,by simp only [appT,z2w];omega,by have:=Int.mul_nonneg (a:=P.2-a) (b:=P.2-a) (by omega) (by omega);simp only [appT,z2o];push_cast;omega,by simp only [appT,z2o];push_cast;omega⟩
   ·split
    ·have hb:=hx.2.2.1 (by omega)
     have m:=iS v b h0 (by omega) hb0 hx.2.1
     generalize z1n l g v b=P at *
     have m0:=m.a0
     have m':=iS v P.2.2 h0 (by omega) (by omega) m.a1
     generalize z1n l g v P.2.2=Q at *
     have n0:=m'.a0;have ms:=m.s;have ms2:=m.s2;have ns:=m'.s;have ns2:=m'.s2;have md:=m.d;have md2:=m.d2;have nd:=m'.d;have nd2:=m'.d2
     have hq:=sq_le (a:=P.2.2-b) (b:=Q.2.2-P.2.2) (c:=Q.2.2-a) (by omega) (by omega) (by omega)
     exact ⟨by simp only;omega,m'.a1,z1f (by omega) (z1f (by omega) (z1f (by omega) (z1f (by omega) (up z6.1) m.w2) m'.w2) m.w) m'.w,z1f (by omega) (z1f (by omega) (up z2.1) m.w2) m'.w2,by simp only [appT,z2w];omega,by simp only [appT,z2w];omega,by simp only [appT,z2o];push_cast;omega,by simp only [appT,z2o];push_cast;omega⟩
    ·split
     ·have hb:=hx.2.2.1 (by omega)
      have m:=iS (v+1) b (by omega) (by omega) hb0 hx.2.1
      generalize z1n l g (v+1) b=P at *
      have m0:=m.a0;have ms:=m.s;have ms2:=m.s2;have md:=m.d;have md2:=m.d2
      have hq:=sq_le (a:=P.2.2-b) (b:=0) (c:=P.2.2-a) (by omega) (by omega) (by omega)
      exact ⟨by simp only;omega,m.a1,zr0 (by omega) (.inl rfl) (up z3.1) m.w,zr0 (by omega) (.inr rfl) (up z3.1) m.w2,by simp only [dp_B];omega,by simp only [dp_B];omega,by simp only [sz_B];push_cast;omega,by simp only [sz_B];push_cast;omega⟩
     ·split
      ·have hb:=hx.2.2.1 (by omega)
       have m:=zfh l hl (l.length+1) v b h0 (by omega) hb0 hx.2.1
       have e:propF l (l.length+1) v b=pp l v b:=rfl
       rw [e] at m
       generalize pp l v b=P at *
       have m0:=m.a0;have ms:=m.s;have md:=m.d;have mw:=up m.w
       have hd:=zla (by_:=1) P.1 0
       have hs:=znw 1 P.1 0
       have hq:=Int.mul_nonneg (a:=P.2-a) (b:=P.2-a) (by omega) (by omega)
       refine ⟨by simp only;omega,m.a1,zr0 (by omega) (.inl rfl) mw (by simp [mkV,wfT,shpF,wfTs,argF]),zr0 (by omega) (.inr rfl) mw (zl9 (by omega) (by omega) (Int.le_refl _) m.w),?_,by simp only [dp_B];omega,?_,by simp only [sz_B];push_cast;omega⟩
       ·have:dpT (mkV 0)=1:=rfl
        simp only [dp_B];omega
       ·have:sizT (mkV 0)=1:=rfl
        simp only [sz_B];push_cast;omega
      ·split
       ·have hb:=hx.2.2.1 (by omega)
        have m:=iS v b h0 (by omega) hb0 hx.2.1
        generalize z1n l g v b=P at *
        have m0:=m.a0;have ms:=m.s;have ms2:=m.s2;have md:=m.d;have md2:=m.d2
        have hq:=sq_le (a:=P.2.2-b) (b:=0) (c:=P.2.2-a) (by omega) (by omega) (by omega)
        exact ⟨by simp only;omega,m.a1,z1f (by omega) (z1f (by omega) (up z7.1) m.w2) m.w,m.w2,by simp only [appT,z2w];omega,by simp only;omega,by simp only [appT,z2o];push_cast;omega,by simp only;omega⟩
       ·have m:=mpn b hb0 hx.2.1
        generalize pn l v b=P at *
        have m0:=m.a0;have ms:=m.s;have md:=m.d;have mw:=up m.w
        have hq:=Int.mul_nonneg (a:=P.2-a) (b:=P.2-a) (by omega) (by omega)
        exact ⟨by simp only;omega,m.a1,z1f (by omega) (up z8.1) mw,z1f (by omega) (up z5.1) mw,by simp only [appT,z2w];omega,by simp only [appT,z2w];omega,by simp only [appT,z2o];push_cast;omega,by simp only [appT,z2o];push_cast;omega⟩
theorem zm8:∀ (l:List Trm) (k:Nat) (x:Trm),k<l.length->sizTs (l.set k x)+sizT (l.getD k zT)=sizTs l+sizT x
 | [],_,_,h=>by simp at h
 | a::r,0,x,_=>by simp only [List.set_cons_zero,sizTs,List.getD_cons_zero];omega
 | a::r,k+1,x,h=>by
   have:=zm8 r k x (by simpa using h)
   simp only [List.set_cons_succ,sizTs,List.getD_cons_succ];omega
theorem zx8 (l:List Int) {c:Int} (hc:1000000<=c):∀ (g:Nat) (t:Trm) (a:Int),0<=a->a<=l.length->wfT c t=true->a<=(spoF l g t a).2/\(spoF l g t a).2<=l.length/\wfT (c+1) (spoF l g t a).1=true/\dpT (spoF l g t a).1<=dpT t+1/\sizT (spoF l g t a).1<=2 * sizT t+3
 | 0,t,a,h2,h3,w=>⟨Int.le_refl _,h3,zk (by omega) t w,by simp only [spoF];omega,by simp only [spoF];omega⟩
 | g + 1,t,a,h2,h3,w=>by
   have hx:=nx_le (l:=l) (n:=4) h2 h3
   simp only [spoF]
   by_cases hl:t.args.length>0
   ·rw [if_pos hl]
    by_cases hk:nxt l a 4>0
    ·rw [if_pos hk]
     generalize nxA l a 4=b at *
     have hb0:0<=b:=by omega
     have hy:=nx_le (l:=l) (a:=b) (n:=t.args.length) hb0 hx.2.1
     have hv:=nx_lt (l:=l) (a:=b) (n:=t.args.length) (by omega)
     generalize nxA l b t.args.length=d at *
     generalize nxt l b t.args.length=i at *
     have hi:i.toNat<t.args.length:=by omega
     have hm:t.args.getD i.toNat zT∈t.args:=by rw [List.getD_eq_getElem?_getD,List.getElem?_eq_getElem hi];exact List.getElem_mem hi
     have W:=zg w
     have ih:=zx8 l hc g (t.args.getD i.toNat zT) d (by omega) hy.2.1 (W.sub _ hm)
     have hs:=zm8 t.args i.toNat (spoF l g (t.args.getD i.toNat zT) d).1 hi
     have hdm:=z1c hm
     generalize spoF l g (t.args.getD i.toNat zT) d=R at *
     refine ⟨by simp only;omega,ih.2.1,z6e ⟨by simp only [List.length_set];exact W.args,W.n0,by have:=W.n1;simp only;omega,W.var,W.name,W.sort,W.lev,W.few,W.nar,fun x hx=>?_⟩,?_,?_⟩
     ·rcases List.mem_or_eq_of_mem_set hx with h | h
      ·exact zk (by omega) x (W.sub x h)
      ·subst h;exact ih.2.2.1
     ·rw [z5s]
      have:dpTs (t.args.set i.toNat R.1)<=dpT t:=zit fun x hx=>by
       rcases List.mem_or_eq_of_mem_set hx with h | h
       ·have:=z1c h;omega
       ·subst h;omega
      simp only;omega
     ·rw [z6a,z6a t]
      have hle:sizT (t.args.getD i.toNat zT)<=sizTs t.args:=zen hm
      simp only;omega
    ·rw [if_neg hk]
     have:=zx7 l hc (t:=t) (a:=nxA l a 4) (by omega) hx.2.1 w
     exact ⟨by omega,this.2⟩
   ·rw [if_neg hl];exact zx7 l hc h2 h3 w
theorem zje (l:List Int) (hl:l.length<=150) {a:Int} (h2:0<=a) (h3:a<=l.length):a<=(any0 l a).2/\(any0 l a).2<=l.length/\wfT 1000001 (any0 l a).1=true/\dpT (any0 l a).1<=6000/\sizT (any0 l a).1<=400000:=by
 have hx:=nx_le (l:=l) (n:=6) h2 h3
 unfold any0
 generalize nxA l a 6=b at *
 have hb0:0<=b:=by omega
 have up:∀ {t:Trm},wfT 1000000 t=true->wfT 1000001 t=true:=fun h=>zk (by omega) _ h
 split
 ·have m:=pn_ok l (by omega) (Int.le_refl 0) (by omega) hb0 hx.2.1
  have:=m.a0;have:=m.a1;have:=m.d;have:=m.s
  exact ⟨by omega,m.a1,up m.w,by omega,by omega⟩
 ·split
  ·have m:=(zbt l (2 * l.length+1)).2 0 b (by omega) (by omega) hb0 hx.2.1
   have:=m.a0;have:=m.a1;have:=m.d;have:=m.s
   exact ⟨by omega,m.a1,up m.w,by omega,by omega⟩
  ·split
   ·have m:=zfh l (by omega) (l.length+1) 0 b (by omega) (by omega) hb0 hx.2.1
    have:=m.a0;have:=m.a1;have:=m.d;have:=m.s
    exact ⟨by simp only [pp];omega,m.a1,up m.w,by simp only [pp];omega,by simp only [pp];omega⟩
   ·have m:=zjd l (by omega) (l.length+1) 0 b (by omega) (by omega) hb0 hx.2.1
    have g0:=m.a0;have g1:=m.a1;have gd:=m.d;have gd2:=m.d2;have gs:=m.s;have gs2:=m.s2
    generalize z1n l (l.length+1) 0 b=P at *
    have hq:(P.2.2-b) * (P.2.2-b)<=150 * 150:=Int.mul_le_mul (by omega) (by omega) (by omega) (by omega)
    split
    ·exact ⟨by simp only;omega,g1,m.w,by simp only;omega,by simp only;omega⟩
    ·split
     ·exact ⟨by omega,g1,m.w2,by omega,by omega⟩
     ·have hy:=nx_le (l:=l) (a:=b) (n:=10) hb0 hx.2.1
      have hv:=nx_lt (l:=l) (a:=b) (n:=10) (by omega)
      have hi:(nxt l b 10).toNat<anyS.length:=by show _<10;omega
      have hs:=List.all_eq_true.1 zx6 _ (List.getElem_mem hi)
      simp only [Bool.and_eq_true] at hs
      obtain ⟨c1,c2,c3⟩:=zx hs.2
      rw [List.getD_eq_getElem?_getD,List.getElem?_eq_getElem hi]
      exact ⟨by simp only;omega,hy.2.1,up c1,by simp only [Option.getD_some];omega,by simp only [Option.getD_some];omega⟩
theorem zz46 (l:List Int) (hl:l.length<=150):wfT 1000002 (anyF l 0).1=true/\dpT (anyF l 0).1<=6001/\sizT (anyF l 0).1<=1000000:=by
 have h:=zje l hl (a:=0) (Int.le_refl _) (by omega)
 unfold anyF
 have hx:=nx_le (l:=l) (a:=(any0 l 0).2) (n:=5) (by omega) h.2.1
 split
 ·have:=zx8 l (c:=1000001) (by omega) (l.length+1) (any0 l 0).1 (nxA l (any0 l 0).2 5) (by omega) hx.2.1 h.2.2.1
  exact ⟨this.2.2.1,by omega,by omega⟩
 ·exact ⟨zk (by omega) _ h.2.2.1,by simp only;omega,by simp only;omega⟩
theorem zx9 (s:ByteArray) (h:txtOK s=true) (hc:okT (trmOf s)=true) (x y z:Trm) (hx:Cp x) (hy:Cp y) (hz:Cp z):PCon Tryz.prog 73 [.p (St s),.p (.sl 5 [rowT x,rowT y,rowT z])] (tv (appT (trmOf s) [x,y,z])):=by
 have:=z8p s h hc [x,y,z] (fun a ha=>by simp at ha;rcases ha with rfl | rfl | rfl<;>assumption) (by simp)
 rw [show encTs [x,y,z]=[rowT x,rowT y,rowT z] by simp [zb]] at this
 exact this
theorem tEq:txtOK (⟨#[69,113,123,83,48,125]⟩:ByteArray)=true:=by kernel_rfl
theorem tAnd:txtOK (⟨#[65,110,100]⟩:ByteArray)=true:=by kernel_rfl
theorem tNot:txtOK (⟨#[110,111,116]⟩:ByteArray)=true:=by kernel_rfl
theorem tP:txtOK (⟨#[80]⟩:ByteArray)=true:=by kernel_rfl
theorem tS0:txtOK (⟨#[42,48]⟩:ByteArray)=true:=by kernel_rfl
theorem tRefl:txtOK (⟨#[69,113,46,114,101,102,108,123,83,48,125]⟩:ByteArray)=true:=by kernel_rfl
theorem zz47:txtOK (⟨#[65,110,100,46,109,107]⟩:ByteArray)=true:=by kernel_rfl
theorem tId0:txtOK (⟨#[105,100,123,48,125]⟩:ByteArray)=true:=by kernel_rfl
theorem tAll:txtOK (⟨#[112,46,97,108,108]⟩:ByteArray)=true:=by kernel_rfl
theorem oEq:okT cEq=true:=by kernel_rfl
theorem oAnd:okT cAnd=true:=by kernel_rfl
theorem oNot:okT cNot=true:=by kernel_rfl
theorem oP:okT cP=true:=by kernel_rfl
theorem oRefl:okT cRefl=true:=by kernel_rfl
theorem zz48:okT zm7=true:=by kernel_rfl
theorem oId0:okT cId0=true:=by kernel_rfl
theorem oAll:okT cAll=true:=by kernel_rfl
theorem zr1 (l:List Int) (hl:okB l) (hlen:l.length<=10000) {v a:Int} (h0:0<=v) (h1:v<=50000) (h2:0<=a) (h3:a<=l.length):NatC l v a (pn l v a):=(zbu l hl hlen (2 * l.length+1)).1 v a h0 (by omega) h2 h3 (by omega)
theorem zr2 (l:List Int) (a:Int):Con Tryz.prog 116 [.ptr 1000 0] (pkO l a) (fun r o=>r=.p (B (decide (a≥l.length)))/\o=pkO l a):=by
 have hbl:=z3c l
 refine cv [] [] [1000] Tryz.func116 13 Tryz.ntmps116 rfl rfl fun cx hE=>?_
 exact ⟨by rw [hbl],rfl⟩
def PropC (l:List Int) (v a:Int) (x:Trm×Int):Prop:=Con Tryz.prog 62 [.ptr 1000 0,.p (I v)] (pkO l a) (fun r o=>r=tv x.1/\o=pkO l x.2)
set_option maxHeartbeats 8000000 in
theorem zr3 (l:List Int) (hl:okB l) (hlen:l.length<=10000):∀ (g:Nat) (v a:Int),0<=v->v+g<=40000->0<=a->a<=l.length->l.length-a+1<=g->PropC l v a (propF l g v a)
 | 0,v,a,h0,h1,h2,h3,h4=>by omega
 | g + 1,v,a,h0,h1,h2,h3,h4=>by
   have cP':=zr3 l hl hlen g
   have iP:=zfh l hlen g
   have hx:=nx_le (l:=l) (n:=6) h2 h3
   have hnx:=z2a l hl (by omega) a 6 h2 (by omega) (by omega)
   unfold PropC
   generalize hX:propF l (g+1) v a=X
   simp only [propF] at hX
   generalize nxA l a 6=b at *
   generalize nxt l a 6=k at *
   have hb0:0<=b:=by omega
   have kn:=zr1 l hl hlen h0 (by omega) hb0 hx.2.1
   have mn:=pn_ok l hlen h0 (by omega) hb0 hx.2.1
   refine cv [] [] [1000] Tryz.func62 63 Tryz.ntmps62 rfl rfl fun cx hE=>call1 [1000] hnx rfl rfl (za _) ?_
   refine brS (fun hk=>?_) (fun hk=>brS (fun hk2=>?_) (fun hk2=>brS (fun hk3=>?_) (fun hk3=>brS (fun hk4=>?_) (fun hk4=>brS (fun hk5=>?_) (fun hk5=>?_)))))
   ·have hb:=hx.2.2.1 (by omega)
    rw [if_pos hk] at hX;subst hX
    have m0:=mn.a0
    have k2:=zr1 l hl hlen h0 (by omega) (by omega:0<=(pn l v b).2) mn.a1
    have m2:=pn_ok l hlen h0 (by omega) (by omega:0<=(pn l v b).2) mn.a1
    exact call1 [1000] kn rfl rfl (za _) (call0 (z3n _ tNat) (callW [1000] 1000 (pkB l _) k2 rfl rfl (za _) rfl rfl (call0 (zx9 _ tEq oEq cNat _ _ (cp_c kNat (by omega)) (mn.cp (by omega)) (m2.cp (by omega))) ⟨rfl,rfl⟩)))
   ·have hb:=hx.2.2.1 (by omega)
    rw [if_neg hk,if_pos hk2] at hX;subst hX
    have m:=iP v b h0 (by omega) hb0 hx.2.1
    have m0:=m.a0
    have m2:=iP v _ h0 (by omega) (by omega) m.a1
    exact call1 [1000] (cP' v b h0 (by omega) hb0 hx.2.1 (by omega)) rfl rfl (za _) (callW [1000] 1000 (pkB l _) (cP' v _ h0 (by omega) (by omega) m.a1 (by omega)) rfl rfl (za _) rfl rfl (call0 (z7u _ tAnd oAnd _ _ (m.cp (by omega)) (m2.cp (by omega))) ⟨rfl,rfl⟩))
   ·have hb:=hx.2.2.1 (by omega)
    rw [if_neg hk,if_neg hk2,if_pos hk3] at hX;subst hX
    exact call0 (z3n _ tNat) (And.intro (by omega) (call1 [1000] (cP' (v+1) b (by omega) (by omega) hb0 hx.2.1 (by omega)) rfl rfl (za _) (call0 (zil cNat _ (cp_c kNat (by omega))) ⟨rfl,rfl⟩)))
   ·have hb:=hx.2.2.1 (by omega)
    rw [if_neg hk,if_neg hk2,if_neg hk3,if_pos hk4] at hX;subst hX
    have m:=iP v b h0 (by omega) hb0 hx.2.1
    exact call1 [1000] (cP' v b h0 (by omega) hb0 hx.2.1 (by omega)) rfl rfl (za _) (call0 (z6c _ tNot oNot _ (m.cp (by omega))) ⟨rfl,rfl⟩)
   ·have hb:=hx.2.2.1 (by omega)
    rw [if_neg hk,if_neg hk2,if_neg hk3,if_neg hk4] at hX
    refine call1 [1000] (zr2 l b) rfl rfl (za _) (brB (fun hd=>?_) (fun hd=>?_))
    ·rw [if_pos ⟨hk5,by simpa using hd⟩] at hX;subst hX
     have m:=iP v b h0 (by omega) hb0 hx.2.1
     exact call0 (z3n _ tS0) (call1 [1000] (cP' v b h0 (by omega) hb0 hx.2.1 (by omega)) rfl rfl (za _) (call0 (z7u _ tId oId cS0 _ (cp_c kS0 (by omega)) (m.cp (by omega))) ⟨rfl,rfl⟩))
    ·rw [if_neg (fun h=>h.2 (by simpa using hd))] at hX;subst hX
     exact call1 [1000] kn rfl rfl (za _) (call0 (z6c _ tP oP _ (mn.cp (by omega))) ⟨rfl,rfl⟩)
   ·rw [if_neg hk,if_neg hk2,if_neg hk3,if_neg hk4,if_neg (fun h=>hk5 h.1)] at hX;subst hX
    exact call1 [1000] kn rfl rfl (za _) (call0 (z6c _ tP oP _ (mn.cp (by omega))) ⟨rfl,rfl⟩)
theorem zz0i (l:List Int) (hl:okB l) (hlen:l.length<=10000) {v a:Int} (h0:0<=v) (h1:v<=20000) (h2:0<=a) (h3:a<=l.length):PropC l v a (pp l v a):=zr3 l hl hlen (l.length+1) v a h0 (by omega) h2 h3 (by omega)
theorem pp_ok (l:List Int) (hlen:l.length<=10000) {v a:Int} (h0:0<=v) (h1:v<=20000) (h2:0<=a) (h3:a<=l.length):Mk l (2 * l.length+1+(l.length+1)) 3 a (pp l v a):=zfh l hlen (l.length+1) v a h0 (by omega) h2 h3
def zz0j (l:List Int) (v a:Int) (x:Trm×Trm×Int):Prop:=Con Tryz.prog 63 [.ptr 1000 0,.p (I v)] (pkO l a) (fun r o=>r=.tp [tv x.1,tv x.2.1]/\o=pkO l x.2.2)
set_option maxHeartbeats 8000000 in
theorem zfi (l:List Int) (hl:okB l) (hlen:l.length<=10000):∀ (g:Nat) (v a:Int),0<=v->v+g<=20000->0<=a->a<=l.length->l.length-a+1<=g->zz0j l v a (z1n l g v a)
 | 0,v,a,h0,h1,h2,h3,h4=>by omega
 | g + 1,v,a,h0,h1,h2,h3,h4=>by
   have cS:=zfi l hl hlen g
   have iS:=zjd l hlen g
   have hx:=nx_le (l:=l) (n:=6) h2 h3
   have hnx:=z2a l hl (by omega) a 6 h2 (by omega) (by omega)
   unfold zz0j
   generalize hX:z1n l (g+1) v a=X
   simp only [z1n] at hX
   generalize nxA l a 6=b at *
   generalize nxt l a 6=k at *
   have hb0:0<=b:=by omega
   have kn:=zr1 l hl hlen h0 (by omega) hb0 hx.2.1
   have mn:=(pn_ok l hlen h0 (by omega) hb0 hx.2.1).cp (by omega)
   have kp:=zz0i l hl hlen h0 (by omega) hb0 hx.2.1
   have mp:=pp_ok l hlen h0 (by omega) hb0 hx.2.1
   have cp1:∀ {a x},Sh l (3 * l.length+3+g) a x->Cp x.1:=fun h=>Cp.of h.w (by omega) (by have:=h.d;omega)
   have cp2:∀ {a x},Sh l (3 * l.length+3+g) a x->Cp x.2.1:=fun h=>Cp.of h.w2 (by omega) (by have:=h.d2;omega)
   refine cv [] [] [1000] Tryz.func63 109 Tryz.ntmps63 rfl rfl fun cx hE=>call1 [1000] hnx rfl rfl (za _) ?_
   refine brS (fun hk=>?_) (fun hk=>brS (fun hk2=>?_) (fun hk2=>brS (fun hk3=>?_) (fun hk3=>brS (fun hk4=>?_) (fun hk4=>brS (fun hk5=>?_) (fun hk5=>?_)))))
   ·rw [if_pos hk] at hX;subst hX
    exact call1 [1000] kn rfl rfl (za _) (call0 (z3n _ tNat) (call0 (z7u _ tRefl oRefl cNat _ (cp_c kNat (by omega)) mn) (call0 (z3n _ tNat) (call0 (zx9 _ tEq oEq cNat _ _ (cp_c kNat (by omega)) mn mn) ⟨rfl,rfl⟩))))
   ·have hb:=hx.2.2.1 (by omega)
    rw [if_neg hk,if_pos hk2] at hX;subst hX
    have m:=iS v b h0 (by omega) hb0 hx.2.1
    have m0:=m.a0
    have m2:=iS v _ h0 (by omega) (by omega) m.a1
    exact call1 [1000] (cS v b h0 (by omega) hb0 hx.2.1 (by omega)) rfl rfl (za _) (call1 [1000] (cS v _ h0 (by omega) (by omega) m.a1 (by omega)) rfl rfl (za _) (call0 (zx5 _ zz47 zz48 _ _ _ _ (cp2 m) (cp2 m2) (cp1 m) (cp1 m2)) (call0 (z7u _ tAnd oAnd _ _ (cp2 m) (cp2 m2)) ⟨rfl,rfl⟩)))
   ·have hb:=hx.2.2.1 (by omega)
    rw [if_neg hk,if_neg hk2,if_pos hk3] at hX;subst hX
    exact And.intro (by omega) (call1 [1000] (cS (v+1) b (by omega) (by omega) hb0 hx.2.1 (by omega)) rfl rfl (za _) (call0 (z3n _ tNat) (call0 (z4b cNat _ (cp_c kNat (by omega))) (call0 (z3n _ tNat) (call0 (zil cNat _ (cp_c kNat (by omega))) ⟨rfl,rfl⟩)))))
   ·rw [if_neg hk,if_neg hk2,if_neg hk3,if_pos hk4] at hX;subst hX
    have cx:=mp.cp (by omega)
    exact call1 [1000] kp rfl rfl (za _) (call0 (z4a 0) (call0 (z4b _ _ cx) (call0 (z3l _ cx 1 (by omega) (by omega) 0 (by omega) (by omega) (by have:=mp.d;omega)) (call0 (zil _ _ cx) ⟨rfl,rfl⟩))))
   ·have hb:=hx.2.2.1 (by omega)
    rw [if_neg hk,if_neg hk2,if_neg hk3,if_neg hk4] at hX
    refine call1 [1000] (zr2 l b) rfl rfl (za _) (brB (fun hd=>?_) (fun hd=>?_))
    ·rw [if_pos ⟨hk5,by simpa using hd⟩] at hX;subst hX
     have m:=iS v b h0 (by omega) hb0 hx.2.1
     exact call1 [1000] (cS v b h0 (by omega) hb0 hx.2.1 (by omega)) rfl rfl (za _) (call0 (z7u _ tId0 oId0 _ _ (cp2 m) (cp1 m)) ⟨rfl,rfl⟩)
    ·rw [if_neg (fun h=>h.2 (by simpa using hd))] at hX;subst hX
     exact call1 [1000] kn rfl rfl (za _) (call0 (z6c _ tAll oAll _ mn) (call0 (z6c _ tP oP _ mn) ⟨rfl,rfl⟩))
   ·rw [if_neg hk,if_neg hk2,if_neg hk3,if_neg hk4,if_neg (fun h=>hk5 h.1)] at hX;subst hX
    exact call1 [1000] kn rfl rfl (za _) (call0 (z6c _ tAll oAll _ mn) (call0 (z6c _ tP oP _ mn) ⟨rfl,rfl⟩))
def LevC (l:List Int) (p a:Int) (x:Lvl×Int):Prop:=Con Tryz.prog 41 [.ptr 1000 0,.p (I p)] (pkO l a) (fun r o=>r=lv x.1/\o=pkO l x.2)
set_option maxHeartbeats 8000000 in
theorem zfj (l:List Int) (hl:okB l) (hlen:l.length<=10000) {p:Int} (hp:0<=p/\p<=1000):∀ (g:Nat) (a:Int),0<=a->a<=l.length->l.length-a+1<=g->LevC l p a (lvF l g p a)
 | 0,a,h2,h3,h4=>by omega
 | g + 1,a,h2,h3,h4=>by
   have cL:=zfj l hl hlen hp g
   have iL:=lv_ok l g p
   have hx:=nx_le (l:=l) (n:=6) h2 h3
   have hnx:=z2a l hl (by omega) a 6 h2 (by omega) (by omega)
   unfold LevC
   generalize hX:lvF l (g+1) p a=X
   simp only [lvF] at hX
   generalize nxA l a 6=b at *
   generalize nxt l a 6=k at *
   have hb0:0<=b:=by omega
   have m:=iL b hb0 hx.2.1
   have m2:=iL _ (by omega) m.2.1
   refine cv [] [] [1000] Tryz.func41 45 Tryz.ntmps41 rfl rfl fun cx hE=>call1 [1000] hnx rfl rfl (za _) ?_
   refine brS (fun hk=>?_) (fun hk=>brS (fun hk2=>?_) (fun hk2=>brS (fun hk3=>?_) (fun hk3=>brS (fun hk4=>?_) (fun hk4=>brS (fun hk5=>?_) (fun hk5=>?_)))))
   ·have hb:=hx.2.2.1 (by omega)
    rw [if_pos hk] at hX;subst hX
    exact call1 [1000] (cL b hb0 hx.2.1 (by omega)) rfl rfl (za _) (call0 (zv4 _ m.2.2) ⟨rfl,rfl⟩)
   ·have hb:=hx.2.2.1 (by omega)
    rw [if_neg hk,if_pos hk2] at hX;subst hX
    exact call1 [1000] (cL b hb0 hx.2.1 (by omega)) rfl rfl (za _) (callW [1000] 1000 (pkB l _) (cL _ (by omega) m.2.1 (by omega)) rfl rfl (za _) rfl rfl (call0 (zyw _ _ m.2.2 m2.2.2) ⟨rfl,rfl⟩))
   ·have hb:=hx.2.2.1 (by omega)
    rw [if_neg hk,if_neg hk2,if_pos hk3] at hX;subst hX
    exact call1 [1000] (cL b hb0 hx.2.1 (by omega)) rfl rfl (za _) (callW [1000] 1000 (pkB l _) (cL _ (by omega) m.2.1 (by omega)) rfl rfl (za _) rfl rfl (call0 (zv5 _ _ m.2.2 m2.2.2) ⟨rfl,rfl⟩))
   ·rw [if_neg hk,if_neg hk2,if_neg hk3] at hX
    refine brS (fun h=>?_) (fun h=>?_)
    ·rw [if_pos ⟨.inl hk4,h⟩] at hX;subst hX
     exact call1 [1000] (z2a l hl (by omega) b p hb0 (by omega) (by omega)) rfl rfl (za _) (call0 (z8g _) ⟨rfl,rfl⟩)
    ·rw [if_neg (fun hh=>h hh.2)] at hX;subst hX
     exact call0 zaf ⟨rfl,rfl⟩
   ·rw [if_neg hk,if_neg hk2,if_neg hk3] at hX
    refine brS (fun h=>?_) (fun h=>?_)
    ·rw [if_pos ⟨.inr hk5,h⟩] at hX;subst hX
     exact call1 [1000] (z2a l hl (by omega) b p hb0 (by omega) (by omega)) rfl rfl (za _) (call0 (z8g _) ⟨rfl,rfl⟩)
    ·rw [if_neg (fun hh=>h hh.2)] at hX;subst hX
     exact call0 zaf ⟨rfl,rfl⟩
   ·rw [if_neg hk,if_neg hk2,if_neg hk3,if_neg (fun hh=>hh.1.elim hk4 hk5)] at hX;subst hX
    exact call0 zaf ⟨rfl,rfl⟩
end Go.Ab.YtpneaijfkefeaaaGreat
