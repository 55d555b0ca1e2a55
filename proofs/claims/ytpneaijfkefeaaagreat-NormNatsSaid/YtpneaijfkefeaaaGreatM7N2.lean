/- Texts of our own, laid together. -/
import Derived.WalkKit
import Derived.ProofKit
import Derived.OpenShut
import Derived.ShutString
import Derived.ChangeOld
import Derived.Below
import Derived.SizedLaws
import Derived.Test.YtpneaijfkefeaaaGreatM6N2
set_option maxRecDepth 20000
set_option linter.unusedVariables false
set_option linter.unusedSimpArgs false
namespace Go.Ab.YtpneaijfkefeaaaGreat
open Go Go.RowKit Go.Ab Go.Proofs
structure EnvR (ds:List Dcl):Prop where
 g:∀ d∈ds,okE d=true
 k:∀ d∈ds,d.kind=3->0<=d.count
 l:ds.length<=1000000
theorem EnvR.c {ds:List Dcl} (h:EnvR ds):∀ d∈ds,CpD d:=fun d hd=>zyt (h.g d hd)
theorem za8 (L:List Dcl) (b:Int) (s:ByteArray) (hl:L.length<=1000000000000) (hc:∀ d∈L,CpD d):Con Tryz.prog 79 [.ptr 1000 0,.p (St s)] (refE 1000 L b) (fun r o=>r=fndD (findD L s)/\o=refE 1000 L b):=by
 have hf:=zle L s
 refine cv [] [] [1000,1001] Tryz.func79 21 Tryz.ntmps79 rfl rfl fun cx hE=>callR [1000,1001] (zqt L b s hl) rfl rfl (zb _) (brS (fun h=>?_) (fun h=>?_))
 ·have hx:ixD L s=none:=by
   cases hx:ixD L s with
   | none=>rfl
   | some i=>unfold atF at h;rw [hx] at h;simp at h;omega
  rw [hx] at hf
  rw [hf];exact ⟨rfl,rfl⟩
 ·cases hx:ixD L s with
  | none=>unfold atF at h;rw [hx] at h;simp at h
  | some i =>
    have hlt:=zq7 hx
    rw [hx] at hf
    have hi:atF L s=(i:Nat):=by unfold atF;rw [hx];rfl
    have hd:L[i]?=some (L[i]'hlt):=List.getElem?_eq_getElem hlt
    rw [hi,hf]
    refine idxN (row:=rowD (L[i]'hlt)) (by simp [encDs,hd]) (call0 (z9y _ (hc _ (List.getElem_mem hlt))) ?_)
    simp only [Option.bind_some,hd,fndD]
    exact ⟨rfl,rfl⟩
def recL (d:Dcl) (p i:Int):List AV:=[.p (I d.kind),.p (I d.params),.p (I d.count),.p (St d.name),.p (St d.family),.p (I d.type.kind),.p (I d.type.n),.p (St d.type.name),.p (.sl 3 (encLs d.type.levels)),.p (.sl 5 (encTs d.type.args)),
 .p (I d.value.kind),.p (I d.value.n),.p (St d.value.name),.p (.sl 3 (encLs d.value.levels)),.p (.sl 5 (encTs d.value.args)),.p (.sl 6 (encCs d.ctors)),.p (I p),.p (I i)]
theorem zel (d:Dcl) (p i:Int) (hc:d.ctors.length<=1000) (p0:0<=p) (p1:p<=1000000000) (i0:0<=i) (i1:i<=1000000000):PCon Tryz.prog 82 [.ag (recL d p i)] (.p (I (p+1+d.ctors.length+i))):=by
 have hcl:(encCs d.ctors).length=d.ctors.length:=by simp [encCs]
 refine cv [] [] [] Tryz.func82 14 Tryz.ntmps82 rfl rfl fun cx hE=>And.intro (by omega) (fun _=>And.intro (by omega) (And.intro (by omega) ⟨?_,rfl⟩))
 rw [hcl]
def ctI:Option Nat->Int
 | some k=>k
 | none=>-1
theorem zsf (d:Dcl) (p i:Int) (s:ByteArray) (hc:d.ctors.length<=1000):PCon Tryz.prog 132 [.ag (recL d p i),.p (St s)] (.p (I (ctI (z1u d.ctors s)))):=by
 refine cv [] [] [] Tryz.func132 24 Tryz.ntmps132 rfl rfl fun cx hE=>?_
 refine loopP d.ctors (fun q=>[(5,.p (I q.length))]) (fun q=>[]) (fun q=>z1u q s=none) [5] [] hE rfl rfl rfl ⟨Sub.refl _,rfl,trivial⟩ rfl (fun hp=>fun _=>brOut (by simp) ⟨I_eq (by rw [hp];rfl),rfl⟩) (fun q a t hq hp=>fun _=>brIn (by simp [hq]) (idxN (z1q (f:=rowC) hq) (brS (fun he=>⟨I_eq ?_,rfl⟩) (fun he=>And.intro (by have:=zk hq;omega) ⟨?_,Sub.i (by simp),rfl,trivial⟩))))
 ·rw [hq,z6v hp];simp only [z1u,if_pos he];simp [ctI]
 ·rw [z6v hp];simp only [z1u,if_neg he];simp
theorem zkb (d:Dcl) (hg:okE d=true) (p:Nat) (i:Int) (k:Nat) (c:Ctr) (hk:d.ctors[k]?=some c) (hp:p<=1000000000):PCon Tryz.prog 133 [.ag (recL d p i),.p (I k)] (.p (.sl 5 (encTs ((piL c.ty).drop p)))):=by
 simp only [okE,Bool.and_eq_true,decide_eq_true_eq,List.all_eq_true] at hg
 obtain ⟨ho1,ho2,ho3,ho4,ho5,ho6⟩:=hg
 have hty:=z2k (ho4 c (List.mem_of_getElem? hk)).1
 have hrow:(encCs d.ctors)[k]?=some (rowC c):=by rw [encCs,List.getElem?_map,hk];rfl
 obtain ⟨cn,ty⟩:=c
 simp only at hty
 have hd:=hty.d
 have hpl:=z3v ty
 have hel:=ze (piL ty)
 refine cv [] [] [] Tryz.func133 37 Tryz.ntmps133 rfl rfl fun cx hE=>idxN (i:=k) hrow (call0 (z3c ty (by omega)) (call0 (z9x 1099511627776 (by omega) ty hty.w (by omega) (piL ty).length (Nat.le_refl _)) ?_))
 rw [List.take_length]
 refine brB (fun hh=>by cases hh) (fun _=>fun _=>brS (fun hlt=>?_) (fun hlt=>?_))
 ·rw [List.drop_eq_nil_of_le (by show (piL ty).length<=p;omega)];exact ⟨rfl,rfl⟩
 ·refine And.intro (by omega) ⟨?_,rfl⟩
  rw [show ((p:Int)).toNat=p by omega];simp [zc]
def recV (ds:List Dcl) (h:Trm):AV :=
 if h.kind=2 then (match findD ds h.name with
  | none=>.tp [.ag (recL zD 0 0),.p (B false)]
  | some d=>if d.kind=5/\d.params=h.levels.length then (match findD ds d.family with
    | none=>.tp [.ag (recL zD 0 0),.p (B false)]
    | some f=>if f.kind=3 then .tp [.ag (recL f f.count ((piL f.type).length-f.count)),.p (B (decide (((piL f.type).length:Int)-f.count≥0)))] else .tp [.ag (recL zD 0 0),.p (B false)]) else .tp [.ag (recL zD 0 0),.p (B false)])
 else .tp [.ag (recL zD 0 0),.p (B false)]
theorem zem {ds:List Dcl} (hE:EnvR ds) (h:Trm):(∃ r,z1z ds h=some r/\recV ds h=.tp [.ag (recL r.fam r.p ((r.major:Int)-r.p-1-r.fam.ctors.length)),.p (B true)])\/(z1z ds h=none/\∃ f p i,recV ds h=.tp [.ag (recL f p i),.p (B false)]):=by
 unfold z1z recV
 by_cases hk:h.kind=2
 ·rw [if_pos hk,if_pos hk]
  cases hf:findD ds h.name with
  | none=>exact .inr ⟨rfl,_,_,_,rfl⟩
  | some d =>
    simp only
    by_cases h5:d.kind=5/\d.params=h.levels.length
    ·rw [if_pos h5,if_pos h5]
     cases hg:findD ds d.family with
     | none=>exact .inr ⟨rfl,_,_,_,rfl⟩
     | some f =>
       simp only
       by_cases h3:f.kind=3
       ·rw [if_pos h3]
        have hc0:=hE.k f (z2x hg) h3
        by_cases hc:f.count<=(piL f.type).length
        ·rw [if_pos ⟨h3,hc0,hc⟩]
         refine .inl ⟨_,rfl,?_⟩
         have e1:((f.count.toNat:Nat):Int)=f.count:=by omega
         have e2:(((f.count.toNat+1+f.ctors.length+((piL f.type).length-f.count.toNat):Nat):Int)-f.count-1-f.ctors.length)=(piL f.type).length-f.count:=by omega
         simp only [e1,e2]
         rw [show decide (((piL f.type).length:Int)-f.count≥0)=true by simp;omega]
        ·rw [if_neg (fun hh=>hc hh.2.2)]
         refine .inr ⟨rfl,f,f.count,(piL f.type).length-f.count,?_⟩
         rw [show decide (((piL f.type).length:Int)-f.count≥0)=false by simp;omega]
       ·rw [if_neg h3,if_neg (fun hh=>h3 hh.1)]
        exact .inr ⟨rfl,_,_,_,rfl⟩
    ·rw [if_neg h5,if_neg h5]
     exact .inr ⟨rfl,_,_,_,rfl⟩
 ·rw [if_neg hk,if_neg hk]
  exact .inr ⟨rfl,_,_,_,rfl⟩
set_option maxHeartbeats 8000000 in
theorem zen (ds:List Dcl) (b:Int) (hE:EnvR ds) (h:Trm) (hl:h.levels.length<=1000000000000):Con Tryz.prog 81 [.ptr 1000 0,tv h] (refE 1000 ds b) (fun r o=>r=recV ds h/\o=refE 1000 ds b):=by
 have hER:=hE
 have hll:=zt h.levels
 have hld:=hE.l
 unfold recV
 refine cv [] [] [1000,1001] Tryz.func81 66 Tryz.ntmps81 rfl rfl fun cx hE=>brS (fun hk=>?_) (fun hk=>?_)
 ·rw [if_neg hk];exact ⟨rfl,rfl⟩
 have hk2:h.kind=2:=Classical.byContradiction fun hn=>hk hn
 rw [if_pos hk2]
 refine callR [1000,1001] (za8 ds b h.name (by omega) hER.c) rfl rfl (zb _) ?_
 cases hf:findD ds h.name with
 | none=>exact brB (fun _=>⟨rfl,rfl⟩) (fun hh=>by cases hh)
 | some d =>
   have hdo:=hER.g d (z2x hf)
   simp only
   refine brB (fun hh=>by cases hh) (fun _=>brS (fun h5=>?_) (fun h5=>fun _=>brS (fun hp=>?_) (fun hp=>?_)))
   ·rw [if_neg (fun hc=>h5 hc.1)];exact ⟨rfl,rfl⟩
   ·rw [if_neg (fun hc=>hp (by omega))];exact ⟨rfl,rfl⟩
   ·have hd5:d.kind=5/\d.params=h.levels.length:=⟨by omega,by omega⟩
    rw [if_pos hd5]
    refine callR [1000,1001] (za8 ds b d.family (by omega) hER.c) rfl rfl (zb _) ?_
    cases hg:findD ds d.family with
    | none=>exact brB (fun _=>⟨rfl,rfl⟩) (fun hh=>by cases hh)
    | some f =>
      have hfo:=hER.g f (z2x hg)
      have hfk:=hER.k f (z2x hg)
      simp only [okE,Bool.and_eq_true,decide_eq_true_eq,List.all_eq_true] at hfo
      obtain ⟨ho1,ho2,ho3,ho4,ho5,ho6⟩:=hfo
      have htd:=(z2k ho1).d
      have hpl:=z3v f.type
      simp only
      refine brB (fun hh=>by cases hh) (fun _=>brS (fun h3=>?_) (fun h3=>?_))
      ·rw [if_neg h3];exact ⟨rfl,rfl⟩
      have h33:f.kind=3:=by omega
      rw [if_pos h33]
      exact call0 (z3c f.type (by omega)) (And.intro (by omega) ⟨rfl,rfl⟩)
theorem zie (vs:List Trm):∀ (t:Trm) (d:Int),(piL t).length<=(piL (opnT vs t d)).length
 | ⟨k, n,s,ls,l⟩,d=>by
   by_cases hk:k=5/\l.length=2
   ·obtain ⟨hk5,hl⟩:=hk
    obtain ⟨x,y,rfl⟩:=z2w hl
    subst hk5
    have hp:=z1w (u:=⟨5,n,s,ls,[x,y]⟩) rfl rfl
    have ho:opnT vs ⟨5,n,s,ls,[x,y]⟩ d=⟨5,n,s,ls,[opnT vs x (d+bndF 5 0),opnT vs y (d+bndF 5 1)]⟩:=by
     simp [opnT,trvT,trvTs]
    have hp2:=z1w (u:=opnT vs ⟨5,n,s,ls,[x,y]⟩ d) (x:=opnT vs x (d+bndF 5 0)) (y:=opnT vs y (d+bndF 5 1)) (by rw [ho]) (by rw [ho])
    rw [hp2.1,hp.1,List.length_cons,List.length_cons]
    exact Nat.succ_le_succ (zie vs y _)
   ·rw [(z2n (u:=⟨k,n,s,ls,l⟩) hk).1];exact Nat.zero_le _
termination_by t=>SizeOf.sizeOf t
theorem zvc {b:Int}:∀ (n:Nat) (t:Trm),wfT b t=true->wfT b (piD n t)=true/\dpT (piD n t)<=dpT t
 | 0,t,h=>by cases t;exact ⟨h,Nat.le_refl _⟩
 | n + 1,t,h=>by
   by_cases hk:t.kind=5/\t.args.length=2
   ·obtain ⟨x,y,ha⟩:=z2w hk.2
    have hy:=z1c (t:=t) (a:=y) (by rw [ha];simp)
    rw [(z1w hk.1 ha).2.2]
    have:=zvc n y ((zh h).sub y (by rw [ha];simp))
    exact ⟨this.1,by omega⟩
   ·rw [(z2n hk).2.2];exact ⟨h,Nat.le_refl _⟩
set_option maxHeartbeats 8000000 in
theorem zuk (r:RecI) (i:Int) (h:Trm) (args:List Trm) (field:Trm) (ahead:List Trm) (bb:Trm) (hh:Gd h) (ha:∀ a∈args,Gd a) (hal:args.length<=268435456) (hc:r.fam.ctors.length<=1000) (hp:r.p+1+r.fam.ctors.length<=args.length)
  (hf:Fz 100000 field) (had:∀ a∈ahead,Gd a) (hadl:ahead.length<=268435456) (hb:Gd bb) :
  PCon Tryz.prog 134 [.ag (recL r.fam r.p i),tv h,.p (.sl 5 (encTs args)),tv field,.p (.sl 5 (encTs ahead)),tv bb] (zid (hypF r h args field ahead bb)):=by
 have hfd:=hf.d
 have hpl:=z3v field
 have hael:=ze args
 have hahl:=ze ahead
 have hcl:(encCs r.fam.ctors).length=r.fam.ctors.length:=by simp [encCs]
 have hnar:=(zh hh.w).nar
 have w1:=z9w hnar field hf.w
 have d1:dpT (lvsT h.levels field)<=100000:=by rw [zej];omega
 have hvs:∀ v∈args.take r.p++ahead,Gd v:=fun v hv=>by
  rcases List.mem_append.1 hv with hv | hv
  ·exact ha v (List.mem_of_mem_take hv)
  ·exact had v hv
 have hvl:(args.take r.p++ahead).length<=1000000000:=by rw [List.length_append,List.length_take];omega
 have wO:=zme (b:=1099511627776) (c:=2199023255552) (D:=100000) (d:=0) (vs:=args.take r.p++ahead) (t:=lvsT h.levels field) (by omega) (by omega) (by omega) (fun v hv=>(hvs v hv).w) w1
 have dO:=zi7 (M:=268435456) (vs:=args.take r.p++ahead) (fun v hv=>(hvs v hv).d) (lvsT h.levels field) 0
 have pO:=zie (args.take r.p++ahead) (lvsT h.levels field) 0
 have pL:=(zs1 h.levels field).1
 have hT:(encTs args).take ((r.p:Int)).toNat=encTs (args.take r.p):=by rw [show ((r.p:Int)).toNat=r.p by omega];simp [zc]
 have hvv:[]++encTs (args.take r.p)++encTs ahead=encTs (args.take r.p++ahead):=by simp [zc]
 have hoc:=zqp (args.take r.p++ahead) (by omega) (fun v hv=>⟨Cp.of (hvs v hv).w (by omega) (by have:=(hvs v hv).d;omega),by have:=(hvs v hv).d;omega⟩) 1099511627776 (by omega) (lvsT h.levels field) (by omega) w1
 have hlen2:(headT (piE field)).kind=2->(piL (opnT (args.take r.p++ahead) (lvsT h.levels field) 0)).length=(piL field).length:=zs4 (args.take r.p++ahead) h.levels field
 have hyd:hypF r h args field ahead bb=if (headT (piE field)).kind=2/\(headT (piE field)).name=r.fam.name then
  some (lamsT (piL (opnT (args.take r.p++ahead) (lvsT h.levels field) 0))
   (mkA (appT (appT h ((args.take (r.p+1+r.fam.ctors.length)).map fun a=>lftT (piL field).length a 0)) ((argsT (piE (opnT (args.take r.p++ahead) (lvsT h.levels field) 0))).drop r.p))
    (appT (lftT (piL field).length bb 0) (varsT (piL field).length))))
  else none:=rfl
 rw [hyd]
 generalize opnT (args.take r.p++ahead) (lvsT h.levels field) 0=O at *
 generalize hn:(piL field).length=n at *
 have hpe:=(pi_wf field hf.w).2
 have hbel:piD n field=piE field:=by rw [<- hn];exact piE_D field
 have hwD:=zvc n O wO
 have hnl:n<=100000:=by omega
 have hhc:Cp h:=Cp.of hh.w (by omega) (by have:=hh.d;omega)
 refine cv [31] [] [] Tryz.func134 123 Tryz.ntmps134 rfl rfl fun cx hE=>call0 (z7h h.levels hnar 1099511627776 field hf.w) ?_
 refine And.intro (by omega) ?_
 rw [hT]
 rw [<- hvv] at hoc
 refine app2 (by simp) (by simp;omega) (by simp;omega) (app2 (by simp) (by simp;omega) (by simp;omega) (callR [] hoc rfl rfl (.cons (Sub.refl _) (.cons Sub.ts .nil)) ?_))
 have hct:=z3c field (by omega)
 rw [hn] at hct
 refine call0 hct (call0 (z9x 2199023255552 (by omega) O wO (by omega) n (by omega)) (call0 (zo3 field n (by omega) (by omega)) ?_))
 rw [hbel]
 refine call0 (z3b 1099511627776 (by omega) (piE field) hpe (by omega)) ?_
 have hno:¬ ((headT (piE field)).kind=2/\(headT (piE field)).name=r.fam.name)->∀ x,zid (if (headT (piE field)).kind=2/\(headT (piE field)).name=r.fam.name then x else none)=.tp [tv zT,.p (B false)]:=fun hn x=>by rw [if_neg hn];rfl
 refine brS (fun h2=>⟨by rw [hno (fun hc=>h2 hc.1)];rfl,rfl⟩) (fun h2=>brS (fun h3=>⟨by rw [hno (fun hc=>h3 hc.2)];rfl,rfl⟩) (fun h3=>?_))
 have h22:(headT (piE field)).kind=2:=by omega
 have h33:(headT (piE field)).name=r.fam.name:=Classical.byContradiction fun hh=>h3 hh
 rw [if_pos ⟨h22,h33⟩]
 have hln:=hlen2 h22
 have hOE:piD n O=piE O:=by rw [<- hln];exact piE_D O
 rw [hOE]
 have wE:=(pi_wf O wO).2
 have hplO:=z3v O
 have hsl:=zk8 (piE O) []
 refine call0 (z3b 2199023255552 (by omega) (piE O) wE (by omega)) (call0 (z1g h hhc) ?_)
 generalize hJ:argsT (piE O)=J at *
 have hJl:J.length<=1000000000:=by rw [<- hJ];unfold argsT;simp at hsl;omega
 have hJe:=ze J
 refine loop1 (fun (j:Nat)=>[(24,.p (I j))]) (fun j=>[(23,ceT (appT h ((args.take j).map fun a=>lftT n a 0)))]) (fun j=>j<=r.p+1+r.fam.ctors.length) (fun j=>r.p+1+r.fam.ctors.length-j) 0 [24] [23] hE rfl rfl rfl ⟨Sub.refl _,rfl,rfl,rfl,rfl,rfl,rfl,rfl,rfl,rfl,rfl,rfl,trivial⟩ (by omega) fun j hj=>?_
 refine And.intro (by omega) (fun _=>And.intro (by omega) (brS (fun hlt=>?_) (fun hlt=>?_)))
 ·have hjl:j<args.length:=by omega
  have hg:args[j]?=some (args.getD j zT):=by rw [List.getD_eq_getElem?_getD,List.getElem?_eq_getElem hjl];rfl
  have hrow:(encTs args)[j]?=some (rowT (args.getD j zT)):=by rw [zc,List.getElem?_map,hg];rfl
  have hga:=ha _ (List.mem_of_getElem? hg)
  have hgd:=hga.d
  have hld:=zrm (by_:=n) (args.getD j zT) 0
  have hlw:=zrl (b:=1099511627776) (c:=2199023255552) (by_:=n) (by omega) (by omega) (Int.le_refl 0) hga.w
  refine idxN hrow (call0 (z8r _ (Cp.of hga.w (by omega) (by omega)) n (by omega) (by omega) 0 (by omega) (by omega) (by omega)) (call0 (z3j _ _ (Cp.of hlw (by omega) (by omega))) (And.intro (by omega) ⟨j+1,by omega,by omega,Sub.i (by simp),?_,rfl,rfl,rfl,rfl,rfl,rfl,rfl,rfl,rfl,rfl,trivial⟩)))
  rw [z1s hg,List.map_append,List.map_cons,List.map_nil,z8u];rfl
 obtain rfl:j=r.p+1+r.fam.ctors.length:=by omega
 generalize hT1:appT h ((args.take (r.p+1+r.fam.ctors.length)).map fun a=>lftT n a 0)=T1
 refine fun _=>?_
 have hJw:∀ a∈J,Wd 2199023255552 1000000000 a:=by
  rw [<- hJ];exact (Wd.args (b:=2199023255552) (m:=1000000000) ⟨wE,by omega⟩).1
 have hDl:(J.drop r.p).length+min r.p J.length=J.length:=by rw [List.length_drop];omega
 have hDg:∀ j,j<(J.drop r.p).length->(J.drop r.p)[j]?=some ((J.drop r.p).getD j zT)/\J[min r.p J.length+j]?=some ((J.drop r.p).getD j zT):=fun j hj=>by
  have h1:(J.drop r.p)[j]?=some ((J.drop r.p).getD j zT):=by rw [List.getD_eq_getElem?_getD,List.getElem?_eq_getElem hj];rfl
  refine ⟨h1,?_⟩
  rw [List.length_drop] at hj
  rw [<- h1,List.getElem?_drop,show min r.p J.length=r.p by omega]
 refine loop1 (fun (j:Nat)=>[(25,.p (I ((min r.p J.length+j:Nat))))]) (fun j=>[(23,ceT (appT T1 ((J.drop r.p).take j)))]) (fun j=>j<=(J.drop r.p).length) (fun j=>(J.drop r.p).length-j) 0 [25] [23] hE rfl rfl rfl ⟨Sub.i (by omega),rfl,rfl,rfl,rfl,rfl,rfl,rfl,rfl,rfl,rfl,rfl,trivial⟩ (by omega) fun j hj=>?_
 refine fun _=>brS (fun hlt=>?_) (fun hlt=>?_)
 ·have hjl:j<(J.drop r.p).length:=by omega
  obtain ⟨g1,g2⟩:=hDg j hjl
  have hrow:(encTs J)[min r.p J.length+j]?=some (rowT ((J.drop r.p).getD j zT)):=by rw [zc,List.getElem?_map,g2];rfl
  have hw:=hJw _ (List.mem_of_getElem? g2)
  have hwd:=hw.d
  refine idxN hrow (call0 (z3j _ _ (Cp.of hw.w (by omega) (by omega))) (And.intro (by omega) ⟨j+1,by omega,by omega,Sub.i (by omega),?_,rfl,rfl,rfl,rfl,rfl,rfl,rfl,rfl,rfl,rfl,trivial⟩))
  rw [z1s g1,z8u];rfl
 obtain rfl:j=(J.drop r.p).length:=by omega
 rw [List.take_length]
 generalize hT2:appT T1 (J.drop r.p)=T2
 have hbd:=hb.d
 have wb:Wd 2199023255552 268435456 (lftT n bb 0):=(Wd.lift (b:=1099511627776) ⟨hb.w,hb.d⟩ n).mono (by omega) (Nat.le_refl _)
 have wv:∀ v∈varsT n,Wd 2199023255552 268435456 v:=fun v hv=>by
  obtain ⟨k,hk,rfl⟩:=zd5 hv
  exact zv9 (by omega) (by omega)
 have wa:=Wd.app (b:=2199023255552) (by omega) wb wv (n:=100000) (by rw [z4u];omega)
 have wT1:Wd 2199023255552 (268435456+268435456) T1:=by
  rw [<- hT1]
  refine Wd.app (by omega) ⟨z1i (by omega) h hh.w,hh.d⟩ (fun a h=>?_) (by simp;omega)
  obtain ⟨x,hx,rfl⟩:=List.mem_map.1 h
  have hg:=ha x (List.mem_of_mem_take hx)
  exact (Wd.lift (b:=1099511627776) ⟨hg.w,hg.d⟩ n).mono (by omega) (Nat.le_refl _)
 have wT2:Wd 2199023255552 (1000000000+1000000000) T2:=by
  rw [<- hT2]
  exact Wd.app (by omega) (wT1.mono (Int.le_refl _) (by omega)) (fun a h=>hJw a (List.mem_of_mem_drop h)) (by omega)
 have wM:=Wd.mkA (by omega) (wT2.mono (k:=2000000000) (Int.le_refl _) (by omega)) (wa.mono (k:=2000000000) (Int.le_refl _) (by omega))
 have hWd:=wM.d
 have hWa:=wa.d
 have hWb:=wb.d
 have cpv:∀ v∈varsT n,Cp v:=fun v hv=>Cp.of (wv v hv).w (by omega) (by have:=(wv v hv).d;omega)
 have hxs:∀ x∈piL O,Cp x:=fun x hx=>by
  have:=(pi_wf O wO).1 x hx
  exact Cp.of this.1 (by omega) (by omega)
 rw [<- hln,List.take_length,hln]
 refine call0 (z8r bb (Cp.of hb.w (by omega) (by omega)) n (by omega) (by omega) 0 (by omega) (by omega) (by omega)) (call0 (zqo n (by omega)) (call0 (z2t _ (Cp.of wb.w (by omega) (by omega)) (varsT n) cpv (by rw [z4u];omega)) (call0 (z3j T2 _ (Cp.of wa.w (by omega) (by omega))) (call0 (zqn (piL O) _ (Cp.of wM.w (by omega) (by omega)) hxs (by omega)) ⟨rfl,rfl⟩))))
theorem zmq {ds:List Dcl} {h:Trm} {r:RecI} (hr:z1z ds h=some r):(r.major:Int)=r.p+1+r.fam.ctors.length+((piL r.fam.type).length-r.p)/\r.p<=(piL r.fam.type).length:=by
 unfold z1z at hr
 split at hr
 ·split at hr
  ·cases hr
  ·split at hr
   ·split at hr
    ·cases hr
    ·split at hr
     ·cases hr;exact ⟨by simp only;omega,by simp only;omega⟩
     ·cases hr
   ·cases hr
 ·cases hr
set_option maxHeartbeats 8000000 in
theorem zsg (ds:List Dcl) (b:Int) (hER:EnvR ds) (t major:Trm) (ht:Gd t) (hj:Gd major):Con Tryz.prog 83 [.ptr 1000 0,tv t,tv major] (refE 1000 ds b) (fun r o=>r=zid (iotaF ds t major)/\o=refE 1000 ds b):=by
 have hal:=ht.args
 have hel:=ze (argsT t)
 have hhg:=ht.head
 have hd:=ht.d
 have hjd:=hj.d
 have hja:=hj.args
 have hhl:=ze (argsT major)
 have hlf:=(zh hhg.w).few
 rw [z9a]
 refine cv [] [] [1000,1001] Tryz.func83 128 Tryz.ntmps83 rfl rfl fun cx hE=>call0 (z3b 1099511627776 (by omega) t ht.w (by omega)) ?_
 have hrc:=zen ds b hER (headT t) (by omega)
 rcases zem hER (headT t) with ⟨r,hi,hv⟩ | ⟨hi,f0,p0,i0,hv⟩
 case inr =>
  rw [hv] at hrc
  rw [hi]
  exact callR [1000,1001] hrc rfl rfl (zb _) (brB (fun _=>⟨rfl,rfl⟩) (fun hh=>by cases hh))
 case inl =>
  rw [hv] at hrc
  rw [hi]
  refine callR [1000,1001] hrc rfl rfl (zb _) ?_
  have hri:=zmq hi
  have hrm:=(z5c hi).1
  have hfo:=hER.g _ hrm
  have hfo2:=hfo
  simp only [okE,Bool.and_eq_true,decide_eq_true_eq,List.all_eq_true] at hfo
  obtain ⟨ho1,ho2,ho3,ho4,ho5,ho6⟩:=hfo
  have htd:=(z2k ho1).d
  have hpl:=z3v r.fam.type
  simp only [Option.bind_some]
  have hmaj:=zel r.fam r.p ((r.major:Int)-r.p-1-r.fam.ctors.length) ho3 (by omega) (by omega) (by omega) (by omega)
  rw [show (r.p:Int)+1+r.fam.ctors.length+((r.major:Int)-r.p-1-r.fam.ctors.length)=r.major by omega] at hmaj
  generalize hI:(r.major:Int)-r.p-1-r.fam.ctors.length=ii at *
  refine brB (fun hh=>by cases hh) (fun _=>fun _=>call0 hmaj (brS (fun hle=>?_) (fun hle=>?_)))
  ·rw [if_neg (by omega)];exact ⟨rfl,rfl⟩
  have hlt:r.major<(argsT t).length:=by omega
  rw [if_pos hlt]
  refine call0 (z3b 1099511627776 (by omega) major hj.w (by omega)) (brS (fun hk=>?_) (fun hk=>?_))
  ·have:iotR r (headT t) (argsT t) major=none:=by unfold iotR;rw [if_neg hk]
   rw [this];exact ⟨rfl,rfl⟩
  have hk2:(headT major).kind=2:=Classical.byContradiction fun hn=>hk hn
  refine call0 (zsf r.fam r.p ii (headT major).name ho3) ?_
  cases hcx:z1u r.fam.ctors (headT major).name with
  | none =>
    have:iotR r (headT t) (argsT t) major=none:=by unfold iotR;rw [if_pos hk2,hcx]
    rw [this]
    exact brS (fun _=>⟨rfl,rfl⟩) (fun hn=>absurd (by decide) hn)
  | some k =>
    obtain ⟨hkl,hkn⟩:=z6e hcx
    have hct:r.fam.ctors[k]?=some (r.fam.ctors.getD k default):=by rw [List.getD_eq_getElem?_getD,List.getElem?_eq_getElem hkl];rfl
    have hcm:=List.mem_of_getElem? hct
    have hir:iotR r (headT t) (argsT t) major=if (argsT major).length=r.p+((piL (r.fam.ctors.getD k default).ty).length-r.p) then
      some (appT (hypsF r (headT t) (argsT t) ((piL (r.fam.ctors.getD k default).ty).drop r.p) [] ((argsT major).drop r.p)
       (appT ((argsT t).getD (r.p+1+k) zT) ((argsT major).drop r.p))) ((argsT t).drop (r.major+1))) else none:=by
     unfold iotR;rw [if_pos hk2,hcx]
    have hfc:=zkb r.fam hfo2 r.p ii k _ hct (by omega)
    generalize r.fam.ctors.getD k default=ctr at *
    have hty:=z2k (ho4 ctr hcm).1
    have htyd:=hty.d
    have htyl:=z3v ctr.ty
    have hfl:((piL ctr.ty).drop r.p).length=(piL ctr.ty).length-r.p:=by rw [List.length_drop]
    have hfe:=ze ((piL ctr.ty).drop r.p)
    rw [hir]
    simp only [ctI]
    have hF:(encTs (argsT major)).drop ((r.p:Int)).toNat=encTs ((argsT major).drop r.p):=by rw [show ((r.p:Int)).toNat=r.p by omega];simp [zc]
    have hFg:∀ a∈(argsT major).drop r.p,Gd a:=fun a hm=>hja.1 a (List.mem_of_mem_drop hm)
    have hFe:=ze ((argsT major).drop r.p)
    refine brZ (by omega) (call0 hfc (And.intro (by omega) (brS (fun hne=>?_) (fun heq=>?_))))
    ·rw [if_neg (by omega)];exact ⟨rfl,rfl⟩
    have hlen:(argsT major).length=r.p+((piL ctr.ty).length-r.p):=by omega
    have hFl:((argsT major).drop r.p).length=(piL ctr.ty).length-r.p:=by rw [List.length_drop];omega
    rw [if_pos hlen]
    have hi1:(r.p:Int)+1+(k:Int)=((r.p+1+k:Nat):Int):=by omega
    have hag:(argsT t)[r.p+1+k]?=some ((argsT t).getD (r.p+1+k) zT):=by rw [List.getD_eq_getElem?_getD,List.getElem?_eq_getElem (by omega)];rfl
    have hrow2:(encTs (argsT t))[r.p+1+k]?=some (rowT ((argsT t).getD (r.p+1+k) zT)):=by rw [zc,List.getElem?_map,hag];rfl
    have hog:=hal.1 _ (List.mem_of_getElem? hag)
    have hogd:=hog.d
    have cpG:∀ {x:Trm},Gd x->Cp x:=fun h=>Cp.of h.w (by omega) (by have:=h.d;omega)
    refine And.intro (by omega) (And.intro (by omega) ?_)
    rw [hi1]
    refine idxN hrow2 (And.intro (by omega) ?_)
    rw [hF]
    refine call0 (z2t _ (cpG hog) ((argsT major).drop r.p) (fun a h=>cpG (hFg a h)) (by omega)) (call0 hfc ?_)
    have wU0:Wd 2199023255552 (268435456+268435456) (appT ((argsT t).getD (r.p+1+k) zT) ((argsT major).drop r.p)):=Wd.app (by omega) ⟨z1i (by omega) _ hog.w,hog.d⟩ (fun a h=>⟨z1i (by omega) a (hFg a h).w,(hFg a h).d⟩) (by omega)
    generalize appT ((argsT t).getD (r.p+1+k) zT) ((argsT major).drop r.p)=U0 at *
    generalize hfs:(piL ctr.ty).drop r.p=fs at *
    refine loop1 (fun (j:Nat)=>[(17,.p (I j))]) (fun j=>[(15,ceT (hypsF r (headT t) (argsT t) (fs.take j) [] (((argsT major).drop r.p).take j) U0))]) (fun j=>j<=fs.length) (fun j=>fs.length-j) 0 [17] [15] hE rfl rfl rfl ⟨Sub.refl _,rfl,rfl,rfl,rfl,rfl,rfl,rfl,rfl,rfl,trivial⟩ (by omega) fun j hj=>?_
    have hUw:∀ i,i<=fs.length->Wd 2199023255552 4000000000 (hypsF r (headT t) (argsT t) (fs.take i) [] (((argsT major).drop r.p).take i) U0):=fun i hi=>by
     have:=zk9 (r:=r) (b:=1099511627776) (b':=2199023255552) (by omega) (m:=268435456) (e:=100000) (K:=1700000000) (by omega) (by omega) (by omega) (by omega) (h:=headT t) (args:=argsT t) ⟨hhg.w,hhg.d⟩ (fun a h=>⟨(hal.1 a h).w,(hal.1 a h).d⟩) hal.2 (fs.take i) [] (((argsT major).drop r.p).take i) U0 0 (fun a h=>?_) (fun a h=>by cases h) (fun a h=>?_) (wU0.mono (Int.le_refl _) (by omega))
     ·exact this.mono (Int.le_refl _) (by rw [List.length_take];omega)
     ·have hm:=List.mem_of_mem_take h
      rw [<- hfs] at hm
      have:=(pi_wd (b:=1099511627776) (m:=100000) ⟨hty.w,htyd⟩).1 a (List.mem_of_mem_drop hm)
      exact this
     ·have:=hFg a (List.mem_of_mem_take h)
      exact ⟨this.w,this.d⟩
    refine fun _=>brS (fun hlt2=>?_) (fun hlt2=>?_)
    ·have hjl:j<fs.length:=by omega
     have hgf:fs[j]?=some (fs.getD j zT):=by rw [List.getD_eq_getElem?_getD,List.getElem?_eq_getElem hjl];rfl
     have hgb:((argsT major).drop r.p)[j]?=some (((argsT major).drop r.p).getD j zT):=by rw [List.getD_eq_getElem?_getD,List.getElem?_eq_getElem (by omega)];rfl
     have hgb2:(argsT major)[r.p+j]?=some (((argsT major).drop r.p).getD j zT):=by rw [<- hgb,List.getElem?_drop]
     have hrf:(encTs fs)[j]?=some (rowT (fs.getD j zT)):=by rw [zc,List.getElem?_map,hgf];rfl
     have hrb:(encTs (argsT major))[r.p+j]?=some (rowT (((argsT major).drop r.p).getD j zT)):=by rw [zc,List.getElem?_map,hgb2];rfl
     have hfm:Fz 100000 (fs.getD j zT):=by
      have hm:fs.getD j zT∈(piL ctr.ty).drop r.p:=by rw [hfs];exact List.mem_of_getElem? hgf
      exact (Fz.pi _ hty).1 _ (List.mem_of_mem_drop hm)
     have hbm:=hFg _ (List.mem_of_getElem? hgb)
     have hsn:hypsF r (headT t) (argsT t) (fs.take (j+1)) [] (((argsT major).drop r.p).take (j+1)) U0=addH (hypsF r (headT t) (argsT t) (fs.take j) [] (((argsT major).drop r.p).take j) U0) (hypF r (headT t) (argsT t) (fs.getD j zT) (((argsT major).drop r.p).take j) (((argsT major).drop r.p).getD j zT)):=by
      rw [z1s hgf,z1s hgb,za7 _ _ _ _ _ _ _ _ _ (by rw [List.length_take,List.length_take];omega),List.nil_append]
     have hUj:=hUw j (by omega)
     have hS:((encTs (argsT major)).take (((r.p:Int)+j)).toNat).drop ((r.p:Int)).toNat=encTs (((argsT major).drop r.p).take j):=by
      rw [show ((r.p:Int)).toNat=r.p by omega,show (((r.p:Int)+j)).toNat=r.p+j by omega]
      simp [zc,List.drop_take]
     have hyc:=zuk r ii (headT t) (argsT t) (fs.getD j zT) (((argsT major).drop r.p).take j) (((argsT major).drop r.p).getD j zT) hhg hal.1 hal.2 ho3 (by omega) hfm (fun a h=>hFg a (List.mem_of_mem_take h)) (by simp;omega) hbm
     generalize hypsF r (headT t) (argsT t) (fs.take j) [] (((argsT major).drop r.p).take j) U0=U at *
     refine idxN hrf (And.intro (by omega) (And.intro (by omega) (And.intro (by omega) ?_)))
     rw [hS,show (r.p:Int)+(j:Int)=((r.p+j:Nat):Int) by omega]
     refine And.intro (by omega) (idxN hrb (call0 hyc ?_))
     cases hyx:hypF r (headT t) (argsT t) (fs.getD j zT) (((argsT major).drop r.p).take j) (((argsT major).drop r.p).getD j zT) with
     | none =>
       rw [hyx] at hsn
       exact brB (fun hh=>by cases hh) (fun _=>And.intro (by omega) ⟨j+1,by omega,by omega,Sub.i (by simp),by rw [hsn];rfl,rfl,rfl,rfl,rfl,rfl,rfl,rfl,rfl,trivial⟩)
     | some x =>
       rw [hyx] at hsn
       have hxw:=zva (b:=1099511627776) (by omega) (m:=268435456) (e:=100000) (by omega) (by omega) (h:=headT t) (args:=argsT t) ⟨hhg.w,hhg.d⟩ (fun a h=>⟨(hal.1 a h).w,(hal.1 a h).d⟩) hal.2 (fun a h=>⟨(hFg a (List.mem_of_mem_take h)).w,(hFg a (List.mem_of_mem_take h)).d⟩) ⟨hfm.w,hfm.d⟩ ⟨hbm.w,hbm.d⟩ hyx
       have hxd:=hxw.d
       exact brB (fun _=>call0 (z3j U x (Cp.of hxw.w (by omega) (by omega))) (And.intro (by omega) ⟨j+1,by omega,by omega,Sub.i (by simp),by rw [hsn];rfl,rfl,rfl,rfl,rfl,rfl,rfl,rfl,rfl,trivial⟩)) (fun hh=>by cases hh)
    ·obtain rfl:j=fs.length:=by omega
     have hUe:=hUw fs.length (Nat.le_refl _)
     rw [List.take_length,List.take_of_length_le (by omega)] at hUe
     rw [List.take_length,List.take_of_length_le (by omega)]
     have hUd:=hUe.d
     have hD:(encTs (argsT t)).drop ((r.major:Int)+1).toNat=encTs ((argsT t).drop (r.major+1)):=by rw [show ((r.major:Int)+1).toNat=r.major+1 by omega];simp [zc]
     refine call0 hmaj (And.intro (by omega) (And.intro (by omega) ?_))
     rw [hD]
     exact call0 (z2t _ (Cp.of hUe.w (by omega) (by omega)) ((argsT t).drop (r.major+1)) (fun a h=>cpG (hal.1 a (List.mem_of_mem_drop h))) (by simp;omega)) ⟨rfl,rfl⟩
theorem z9d (f c:Int) (hm:Mt f c) (u:Trm) (x:OR) (hx:mdF c f u=some x):PCon Tryz.prog 76 [mv f c,tv u] (onV c x):=by
 have h0:=hm.f0;have h1:=hm.f1;have h2:=hm.c0;have h3:=hm.c1
 have hs:=zqq f c (by omega) (by omega)
 have hf:=zqs (f-1) c u h2 h3
 unfold mdF at hx
 unfold stepF at hs
 unfold fitsE at hf
 by_cases hf0:f<=0
 ·rw [if_pos hf0] at hx;cases hx
  rw [if_pos hf0,if_pos hf0] at hs
  exact cv [] [] [] Tryz.func76 29 Tryz.ntmps76 rfl rfl fun cx hE=>call0 hs (brS (fun _=>⟨rfl,rfl⟩) (fun hh=>absurd (by decide) hh))
 ·rw [if_neg hf0] at hx
  rw [if_neg hf0,if_neg hf0] at hs
  split at hx
  ·split at hx
   ·rename_i hft
    cases hx
    rw [if_pos hft] at hf
    exact cv [] [] [] Tryz.func76 29 Tryz.ntmps76 rfl rfl fun cx hE=>call0 hs (brS (fun hh=>absurd rfl hh) (fun _=>call0 hf (brS (fun hh=>absurd rfl hh) (fun _=>⟨rfl,rfl⟩))))
   ·rename_i hft
    cases hx
    rw [if_neg hft] at hf
    exact cv [] [] [] Tryz.func76 29 Tryz.ntmps76 rfl rfl fun cx hE=>call0 hs (brS (fun hh=>absurd rfl hh) (fun _=>call0 hf (brS (fun _=>⟨rfl,rfl⟩) (fun hh=>absurd (by decide) hh))))
  ·cases hx
theorem zxg (o:Option Dcl):fndD o=.tp [dv (o.getD zD),.p (B o.isSome)]:=by cases o<;>rfl
def RWhC (ds:List Dcl) (b c:Int) (t:Trm) (f:Int) (x:WR):Prop:=Con Tryz.prog 40 [.ptr 1000 0,tv t,mv f c] (refE 1000 ds b) (fun r o=>r=xwV c x/\o=refE 1000 ds b)
def ROnC (ds:List Dcl) (b c:Int) (t:Trm) (f:Int) (x:OR):Prop:=Con Tryz.prog 35 [.ptr 1000 0,tv t,mv f c] (refE 1000 ds b) (fun r o=>r=onV c x/\o=refE 1000 ds b)
set_option maxHeartbeats 8000000 in
theorem zsh (ds : List Dcl) (b:Int) (hER:EnvR ds) (c:Int) (wh:Trm->Int->Option WR) (hk:∀ t f u f' e,Gd t->wh t f=some (u,f',e)->Gd u/\Fu f f') (t:Trm) (hg:Gd t) (f:Int) (hm:Mt f c) (ih:∀ t f x,Gd t->Mt f c->wh t f=some x->RWhC ds b c t f x) (x:OR) (hx:onF ds c wh t f=some x):ROnC ds b c t f x:=by
 have hal:=hg.args
 have hel:=ze (argsT t)
 have hhg:=hg.head
 have hd:=hg.d
 have hll:=zt (headT t).levels
 have hlf:=(zh hhg.w).few
 have hld:=hER.l
 have cpG:∀ {x:Trm},Gd x->Cp x:=fun h=>Cp.of h.w (by omega) (by have:=h.d;omega)
 have cpt:=cpG hg
 have cpO:∀ {body v:Trm},Gd body->Gd v->Cp (opnT [v] body 0):=fun {body v} g1 g2=>by
  have e1:=zme (b:=1099511627776) (c:=2199023255552) (D:=268435456) (d:=0) (vs:=[v]) (t:=body) (by omega) (by have:=g1.d;omega) (by omega) (fun x hx=>by simp at hx;subst hx;exact g2.w) g1.w
  have e2:=zi7 (M:=268435456) (vs:=[v]) (fun x hx=>by simp at hx;subst hx;exact g2.d) body 0
  have:=g1.d
  exact Cp.of e1 (by omega) (by omega)
 unfold ROnC
 have stay:∀ {y:OR},some (t,false,f,(0:Int))=some y->y=(t,false,f,0):=fun e=>by cases e;rfl
 have hon:∀ y,onF ds c wh t f=some y->x=y:=fun y hy=>by rw [hx] at hy;cases hy;rfl
 have stuck:¬ ((headT t).kind=4/\argsT t≠[])->(headT t).kind≠6->(headT t).kind≠2->x=(t,false,f,0):=fun n1 n2 n3=>hon _ (by unfold onF;rw [if_neg n1,if_neg n2,if_neg n3])
 refine cv [] [1000010] [1000,1001] Tryz.func35 154 Tryz.ntmps35 rfl rfl fun cx hE=>call0 (z3b 1099511627776 (by omega) t hg.w (by omega)) ?_
 refine brS (fun h4=>fun _=>brS (fun h5=>?_) (fun h5=>?_)) (fun h4=>brS (fun h6=>?_) (fun h6=>brS (fun h2=>?_) (fun h2=>?_)))
 ·have hne:argsT t≠[]:=fun hn=>by
   have:(argsT t).length=0:=by rw [hn];rfl
   omega
  obtain ⟨a0,rest,har⟩:=List.exists_cons_of_ne_nil hne
  obtain ⟨ty,body,hba⟩:=z5q hhg.w (.inr (.inl h4))
  unfold onF at hx
  rw [if_pos ⟨h4,hne⟩,har,hba] at hx
  simp only [List.getD_cons_zero,List.getD_cons_succ,List.drop_one,List.tail_cons] at hx
  have gb:=hhg.sub (a:=body) (by rw [hba];simp)
  have ga:=hal.1 a0 (by rw [har];simp)
  have gr:∀ a∈rest,Cp a:=fun a h=>cpG (hal.1 a (by rw [har];simp [h]))
  have hrl:rest.length<=1000000000:=by have:=hal.2;rw [har] at this;simp at this;omega
  have r1:(encTs (headT t).args)[1]?=some (rowT body):=by rw [hba];simp [zc]
  have r0:(encTs (argsT t))[0]?=some (rowT a0):=by rw [har];simp [zc]
  have hD:(encTs (argsT t)).drop (1:Int).toNat=encTs rest:=by rw [har];simp [zc]
  refine idxN (i:=1) r1 (idxN (i:=0) r0 (call0 (zau 1099511627776 (by omega) a0 (cpG ga) (by have:=ga.d;omega) body gb.w (by have:=gb.d;omega)) (And.intro (by omega) ?_)))
  rw [hD]
  exact call0 (z2t _ (cpO gb ga) rest gr (by omega)) (call0 (z9d f c hm _ x hx) ⟨rfl,rfl⟩)
 ·have hn:argsT t=[]:=List.eq_nil_of_length_eq_zero (by omega)
  rw [stuck (fun hc=>hc.2 hn) (by omega) (by omega)]
  exact call0 (z1g t cpt) ⟨rfl,rfl⟩
 ·have hn:=(zh hhg.w).args
  have h3:(headT t).args.length=3:=by rw [h6] at hn;unfold argF at hn;simp at hn;omega
  obtain ⟨a,v,d,ha⟩:=zml h3
  unfold onF at hx
  rw [if_neg (fun hc=>by omega),if_pos h6,ha] at hx
  have gd:=hhg.sub (a:=d) (by rw [ha];simp)
  have gv:=hhg.sub (a:=v) (by rw [ha];simp)
  have r2:(encTs (headT t).args)[2]?=some (rowT d):=by rw [ha];simp [zc]
  have r1:(encTs (headT t).args)[1]?=some (rowT v):=by rw [ha];simp [zc]
  exact idxN (i:=2) r2 (idxN (i:=1) r1 (call0 (zau 1099511627776 (by omega) v (cpG gv) (by have:=gv.d;omega) d gd.w (by have:=gd.d;omega)) (call0 (z2t _ (cpO gd gv) (argsT t) (fun a h=>cpG (hal.1 a h)) (by omega)) (call0 (z9d f c hm _ x hx) ⟨rfl,rfl⟩))))
 ·have hfd := za8 ds b (headT t).name (by omega) hER.c
  rw [zxg] at hfd
  refine callR [1000,1001] hfd rfl rfl (zb _) ?_
  have hrc:=zen ds b hER (headT t) (by omega)
  refine join1 (A:=Unit) (fun _=>[]) (fun _=>[]) (fun _=>rcF ds c wh t f=some x) [] [] [] hE rfl rfl rfl ?_ (fun _ hrec=>?_)
  ·cases hf:findD ds (headT t).name with
   | none =>
     have hi:lookF ds t=none:=by unfold lookF z1z;rw [if_pos h2,hf];rfl
     have:x=(t,false,f,0):=hon _ (by unfold onF;rw [if_neg (fun hc=>by omega),if_neg h6,if_pos h2,hf])
     refine brB (fun hh=>by cases hh) (fun _=>⟨(),by unfold rcF;rw [hi,this],leX.same ⟨rfl,rfl,rfl,rfl,rfl,rfl,rfl,rfl,trivial⟩⟩)
   | some d =>
     have hdo:=hER.g d (z2x hf)
     simp only [okE,Bool.and_eq_true,decide_eq_true_eq,List.all_eq_true] at hdo
     obtain ⟨ho1,ho2,ho3,ho4,ho5,ho6⟩:=hdo
     have hvf:=z2k ho2
     have hlw:=z9w (zh hhg.w).nar d.value hvf.w
     have hvd:=hvf.d
     have hrec:¬ (d.kind=2/\d.params=(headT t).levels.length)->rcF ds c wh t f=some x:=fun hn=>by rw [<- zs8 ds h2 hf hn];exact hx
     refine brB (fun _=>brS (fun hd2=>fun _=>brS (fun hpp=>?_) (fun hpp=>⟨(),hrec (fun hc=>hpp (by simp only [Option.getD_some];omega)),leX.same ⟨rfl,rfl,rfl,rfl,rfl,rfl,rfl,rfl,trivial⟩⟩)) (fun hd2=>⟨(),hrec (fun hc=>hd2 hc.1),leX.same ⟨rfl,rfl,rfl,rfl,rfl,rfl,rfl,rfl,trivial⟩⟩)) (fun hh=>by cases hh)
     have hmd:mdF c f (appT (lvsT (headT t).levels d.value) (argsT t))=some x:=by
      unfold onF at hx
      rw [if_neg (fun hc=>by omega),if_neg h6,if_pos h2,hf] at hx
      simp only at hx
      rw [if_pos ⟨hd2,by simp only [Option.getD_some] at hpp;omega⟩] at hx
      exact hx
     exact call0 (z7h (headT t).levels (zh hhg.w).nar 1099511627776 d.value hvf.w) (call0 (z2t _ (Cp.of hlw (by omega) (by rw [zej];omega)) (argsT t) (fun a h=>cpG (hal.1 a h)) (by omega)) (call0 (z9d f c hm _ x hmd) ⟨rfl,rfl⟩))
  ·unfold rcF lookF at hrec
   rcases zem hER (headT t) with ⟨r,hi,hv⟩ | ⟨hi,f0,p0,i0,hv⟩
   case inr =>
    rw [hi] at hrec
    rw [stay hrec]
    rw [hv] at hrc
    exact callR [1000,1001] hrc rfl rfl (zb _) (brB (fun hh=>by cases hh) (fun _=>call0 (z1g t cpt) ⟨rfl,rfl⟩))
   case inl =>
    rw [hv] at hrc
    refine callR [1000,1001] hrc rfl rfl (zb _) ?_
    rw [hi] at hrec
    have hri:=zmq hi
    have hrm:=(z5c hi).1
    have hfo:=hER.g _ hrm
    simp only [okE,Bool.and_eq_true,decide_eq_true_eq,List.all_eq_true] at hfo
    obtain ⟨ho1,ho2,ho3,ho4,ho5,ho6⟩:=hfo
    have htd:=(z2k ho1).d
    have hpl:=z3v r.fam.type
    have hmaj:=zel r.fam r.p ((r.major:Int)-r.p-1-r.fam.ctors.length) ho3 (by omega) (by omega) (by omega) (by omega)
    rw [show (r.p:Int)+1+r.fam.ctors.length+((r.major:Int)-r.p-1-r.fam.ctors.length)=r.major by omega] at hmaj
    simp only [Option.bind_some] at hrec
    refine brB (fun _=>fun _=>call0 hmaj (brS (fun hgt=>?_) (fun hgt=>?_))) (fun hh=>by cases hh)
    ·have hlt:r.major<(argsT t).length:=by omega
     rw [if_pos hlt] at hrec
     simp only at hrec
     have hag:(argsT t)[r.major]?=some ((argsT t).getD r.major zT):=by rw [List.getD_eq_getElem?_getD,List.getElem?_eq_getElem hlt];rfl
     have hrow:(encTs (argsT t))[r.major]?=some (rowT ((argsT t).getD r.major zT)):=by rw [zc,List.getElem?_map,hag];rfl
     have hga:=hal.1 _ (List.mem_of_getElem? hag)
     refine call0 hmaj (idxN hrow ?_)
     cases hw:wh ((argsT t).getD r.major zT) f with
     | none=>rw [hw] at hrec;cases hrec
     | some y =>
       have hkk:=hk _ _ y.1 y.2.1 y.2.2 hga hw
       have hc:=ih _ f y hga hm hw
       rw [hw] at hrec
       obtain ⟨m,f1,e⟩:=y
       simp only at hrec hkk
       have hm1:=hm.fu hkk.2
       refine callR [1000,1001] hc rfl rfl (zb _) ?_
       refine brS (fun he=>?_) (fun he=>?_)
       ·rw [if_pos he] at hrec;cases hrec;exact ⟨rfl,rfl⟩
       ·rw [if_neg he] at hrec
        have hio:=zsg ds b hER t m hg hkk.1
        rw [z9a,hi] at hio
        simp only [Option.bind_some,if_pos hlt] at hio
        refine callR [1000,1001] hio rfl rfl (zb _) ?_
        cases hiu:iotR r (headT t) (argsT t) m with
        | none =>
          rw [hiu] at hrec
          simp only [Option.some.injEq] at hrec
          subst hrec
          exact brB (fun hh=>by cases hh) (fun _=>call0 (z1g t cpt) ⟨rfl,rfl⟩)
        | some u =>
          rw [hiu] at hrec
          exact brB (fun _=>call0 (z9d f1 c hm1 u x hrec) ⟨rfl,rfl⟩) (fun hh=>by cases hh)
    ·rw [if_neg (by omega)] at hrec
     rw [stay hrec]
     exact call0 (z1g t cpt) ⟨rfl,rfl⟩
 ·rw [stuck (fun hc=>h4 hc.1) h6 h2]
  exact call0 (z1g t cpt) ⟨rfl,rfl⟩
set_option maxHeartbeats 8000000 in
theorem zsi (ds:List Dcl) (b:Int) (hER:EnvR ds) (c:Int) (g:Nat):∀ (t:Trm) (f:Int) (x:WR),Gd t->Mt f c->whF ds c g t f=some x->RWhC ds b c t f x:=by
 induction g using Nat.strongRecOn with
 | _ g IH =>
   intro t f x hg hm hx
   unfold RWhC
   refine cv [] [] [1000,1001] Tryz.func40 33 Tryz.ntmps40 rfl rfl fun cx hE=>?_
   refine loop3 (fun (k:Nat) (u:Trm) (e:Int)=>[]) (fun k u e=>[(4,ceT u),(5,.ce 40 [.p (I e),.p (I c)])]) (fun k u e=>k<=g/\whF ds c k u e=some x/\Gd u/\Mt e c) (fun k u e=>k) g t f [] [4,5] hE rfl rfl rfl ⟨rfl,rfl,rfl,rfl,rfl,rfl,trivial⟩ ⟨Nat.le_refl _,hx,hg,hm⟩ fun k u e ⟨i1,i2,i3,i4⟩=>?_
   cases k with
   | zero=>cases i2
   | succ k =>
     simp only [whF] at i2
     cases ho:onF ds c (whF ds c k) u e with
     | none=>rw [ho] at i2;cases i2
     | some y =>
       rw [ho] at i2
       have hkk:=z9c (fun t f u f' e=>z2a k t f u f' e) (u:=y.1) (did:=y.2.1) (f':=y.2.2.1) (e:=y.2.2.2) i3 ho
       have hc:=zsh ds b hER c (whF ds c k) (fun t f u f' e=>z2a k t f u f' e) u i3 e i4 (IH k (by omega)) y ho
       obtain ⟨v,did,e1,er⟩:=y
       simp only at i2 hkk
       refine callR [1000,1001] hc rfl rfl (zb _) (brS (fun he=>?_) (fun he=>?_))
       ·rw [if_pos he] at i2;cases i2;exact ⟨rfl,rfl⟩
       ·rw [if_neg he] at i2
        cases did with
        | false =>
          simp only [Bool.false_eq_true,if_false] at i2
          cases i2
          exact brB (fun _=>⟨rfl,rfl⟩) (fun hh=>by cases hh)
        | true =>
          simp only [if_true] at i2
          exact brB (fun hh=>by cases hh) (fun _=>⟨k,v,e1,⟨by omega,i2,hkk.1,i4.fu hkk.2⟩,by omega,rfl,rfl,rfl,rfl,rfl,rfl,trivial⟩)
def byts (l:List Int):List (List PV):=l.map fun n=>[U8 n]
@[simp] theorem zmr (l:List Int):(byts l).length=l.length:=by simp [byts]
def okB (l:List Int):Prop:=∀ n∈l,0<=n/\n<=255
theorem zyv {l:List Int} (h:okB l) (m:Nat):0<=l.getD m 0/\l.getD m 0<=255:=by
 rcases Nat.lt_or_ge m l.length with hm | hm
 ·have:=h _ (List.getElem_mem hm);simp [List.getD_eq_getElem?_getD,hm];exact this
 ·simp [List.getD_eq_getElem?_getD,hm]
def nxt (l:List Int) (a n:Int):Int:=if a≥l.length\/n<1 then 0 else l.getD a.toNat 0 % n
def nxA (l:List Int) (a n:Int):Int:=if a≥l.length\/n<1 then a else a+1
abbrev pkO (l:List Int) (a:Int):Obs:=[(1000,.ce 96 [.p (.sl 1 (byts l)),.p (I a)])]
theorem zul (l:List Int):Con Tryz.prog 21 [.p (.sl 1 (byts l))] [] (fun r o=>r=.ptr 5 0/\o=[(5,.ce 96 [.p (.sl 1 (byts l)),.p (I 0)])]) :=
 cv [] [] [5] Tryz.func21 6 Tryz.ntmps21 rfl rfl fun cx hE=>⟨rfl,rfl⟩
theorem zg4 (l:List Int) (hl:okB l) (hlen:l.length<=1000000) (a n:Int) (h0:0<=a) (h1:a<=1000000) (hn:n<=1000000) :
  Con Tryz.prog 60 [.ptr 1000 0,.p (I n)] (pkO l a) (fun r o=>r=.p (I (nxt l a n))/\o=pkO l (nxA l a n)):=by
 have hbl:=zmr l
 refine cv [] [] [1000] Tryz.func60 40 Tryz.ntmps60 rfl rfl fun cx hE=>brS (fun hp=>?_) (fun hp=>brS (fun hq=>?_) (fun hq=>?_))
 ·unfold nxt nxA;rw [if_pos (.inl (by omega)),if_pos (.inl (by omega))];exact ⟨rfl,rfl⟩
 ·unfold nxt nxA;rw [if_pos (.inr (by omega)),if_pos (.inr (by omega))];exact ⟨rfl,rfl⟩
 ·have hb:=zyv hl a.toNat
  have hg:l[a.toNat]?=some (l.getD a.toNat 0):=by rw [List.getD_eq_getElem?_getD,List.getElem?_eq_getElem (by omega)];rfl
  have hr:(byts l)[a.toNat]?=some [U8 (l.getD a.toNat 0)]:=by simp only [byts,List.getElem?_map,hg];rfl
  have e:(a+1-1)=(a.toNat:Int):=by omega
  unfold nxt nxA;rw [if_neg (by omega),if_neg (by omega)]
  refine And.intro (by omega) (And.intro (by omega) ?_)
  rw [e]
  refine idxN hr (And.intro (by omega) (And.intro (by omega) (And.intro (by omega) ⟨I_eq ?_,rfl⟩)))
  first | rfl | exact Int.tmod_eq_emod_of_nonneg hb.1
end Go.Ab.YtpneaijfkefeaaaGreat
namespace Go.Ab.YtpneaijfkefeaaaGreat
open Go Go.Ab Go.RowKit
def wdB (t:Trm):Bool:=wfT 1073741824 t&&Nat.ble (dpT t) 100000
def envB (ds:List Dcl):Bool:=ds.all fun d=>wdB d.value&&d.ctors.all fun k=>wdB k.ty
theorem zsj {t:Trm} (h:wdB t=true):Wd 1073741824 100000 t:=by
 simp only [wdB,Bool.and_eq_true] at h
 exact ⟨h.1,Nat.le_of_ble_eq_true h.2⟩
theorem zum {ds:List Dcl} (h:envB ds=true):EnvW 1073741824 ds:=by
 simp only [envB,List.all_eq_true,Bool.and_eq_true] at h
 exact ⟨fun d hd=>zsj (h d hd).1,fun d hd k hk=>zsj ((h d hd).2 k hk)⟩
theorem zeo:EnvW 1073741824 preL:=zum (by kernel_rfl)
end Go.Ab.YtpneaijfkefeaaaGreat
namespace Go.Ab.YtpneaijfkefeaaaGreat
open Go Go.RowKit Go.Ab Go.Proofs
def cZero:Trm:=trmOf (⟨#[122,101,114,111]⟩:ByteArray)
def cSucc:Trm:=trmOf (⟨#[115,117,99,99]⟩:ByteArray)
def cAdd:Trm:=trmOf (⟨#[97,100,100]⟩:ByteArray)
def cTwo:Trm:=trmOf (⟨#[116,119,111]⟩:ByteArray)
def cNat:Trm:=trmOf (⟨#[78,97,116]⟩:ByteArray)
def cId:Trm:=trmOf (⟨#[105,100,123,83,48,125]⟩:ByteArray)
def cRec:Trm:=trmOf (⟨#[78,97,116,46,114,101,99,123,83,48,125]⟩:ByteArray)
def cNN:Trm:=trmOf (⟨#[92,78,97,116,46,32,78,97,116]⟩:ByteArray)
def cPi:Trm:=trmOf (⟨#[33,78,97,116,46,32,78,97,116]⟩:ByteArray)
mutual
def natF (l:List Int):Nat->Int->Int->Trm×Int
 | 0,_,a=>(cZero,a)
 | g+1,v,a =>
   if nxt l a 9=1\/nxt l a 9=2 then (appT cSucc [(natF l g v (nxA l a 9)).1],(natF l g v (nxA l a 9)).2)
   else if nxt l a 9=3 then (appT cAdd [(natF l g v (nxA l a 9)).1,(natF l g v (natF l g v (nxA l a 9)).2).1],(natF l g v (natF l g v (nxA l a 9)).2).2)
   else if nxt l a 9=4 then (if v>0 then (mkV (nxt l (nxA l a 9) v),nxA l (nxA l a 9) v) else (cTwo,nxA l a 9))
   else if nxt l a 9=5 then (appT cId [cNat,(natF l g v (nxA l a 9)).1],(natF l g v (nxA l a 9)).2)
   else if nxt l a 9=6 then (mkA (funF l g v (nxA l a 9)).1 (natF l g v (funF l g v (nxA l a 9)).2).1,(natF l g v (funF l g v (nxA l a 9)).2).2)
   else if nxt l a 9=7 then (⟨6,0,⟨#[]⟩,[],[cNat,(natF l g v (nxA l a 9)).1,(natF l g (v+1) (natF l g v (nxA l a 9)).2).1]⟩,(natF l g (v+1) (natF l g v (nxA l a 9)).2).2)
   else if nxt l a 9=8 then (appT cRec [cNN,(natF l g v (nxA l a 9)).1,mkB 4 cNat (mkB 4 cNat (natF l g (v+2) (natF l g v (nxA l a 9)).2).1),(natF l g v (natF l g (v+2) (natF l g v (nxA l a 9)).2).2).1],(natF l g v (natF l g (v+2) (natF l g v (nxA l a 9)).2).2).2)
   else (cZero,nxA l a 9)
def funF (l:List Int):Nat->Int->Int->Trm×Int
 | 0,_,a=>(cZero,a)
 | g+1,v,a =>
   if nxt l a 4=0 then (mkB 4 cNat (natF l g (v+1) (nxA l a 4)).1,(natF l g (v+1) (nxA l a 4)).2)
   else if nxt l a 4=1 then (cSucc,nxA l a 4)
   else if nxt l a 4=2 then (appT cAdd [(natF l g v (nxA l a 4)).1],(natF l g v (nxA l a 4)).2)
   else (appT cId [cPi,mkB 4 cNat (natF l g (v+1) (nxA l a 4)).1],(natF l g (v+1) (nxA l a 4)).2)
end
structure Mk (l:List Int) (g:Nat) (k:Int) (a:Int) (x:Trm×Int):Prop where
 a0:a<=x.2
 a1:x.2<=l.length
 w:wfT 1000000 x.1=true
 d:dpT x.1<=6 * g+10
 s:(sizT x.1:Int)<=14 * (x.2-a)+k
theorem nx_le {l:List Int} {a n:Int} (h0:0<=a) (h1:a<=l.length):a<=nxA l a n/\nxA l a n<=l.length/\(nxt l a n≠0->nxA l a n=a+1)/\(1<=n->a<l.length->nxA l a n=a+1):=by
 unfold nxA nxt
 by_cases h:a≥l.length\/n<1
 ·rw [if_pos h,if_pos h];exact ⟨by omega,by omega,by simp,by omega⟩
 ·rw [if_neg h,if_neg h];exact ⟨by omega,by omega,fun _=>rfl,fun _ _=>rfl⟩
theorem nx_lt {l:List Int} {a n:Int} (hn:1<=n):0<=nxt l a n/\nxt l a n<n:=by
 unfold nxt
 split
 ·omega
 ·exact ⟨Int.emod_nonneg _ (by omega),Int.emod_lt_of_pos _ (by omega)⟩
theorem kB_wf {k:Int} (hk:k=4\/k=5) {a b:Trm} (ha:wfT 1000000 a=true) (hb:wfT 1000000 b=true):wfT 1000000 (mkB k a b)=true:=by
 refine z8j ⟨by rcases hk with rfl | rfl<;>simp [mkB,argF],by simp [mkB],by simp [mkB],by simp [mkB],by simp [mkB],by rcases hk with rfl | rfl<;>simp [mkB],by simp [mkB],by simp [mkB],by simp [mkB],fun x hx=>?_⟩
 simp only [mkB,List.mem_cons,List.not_mem_nil,or_false] at hx
 rcases hx with rfl | rfl<;>assumption
theorem k6_wf {a b c:Trm} (ha:wfT 1000000 a=true) (hb:wfT 1000000 b=true) (hc:wfT 1000000 c=true):wfT 1000000 ⟨6,0,⟨#[]⟩,[],[a,b,c]⟩=true:=by
 refine z8j ⟨by simp [argF],by simp,by simp,by simp,by simp,by simp,by simp,by simp,by simp,fun x hx=>?_⟩
 simp only [List.mem_cons,List.not_mem_nil,or_false] at hx
 rcases hx with rfl | rfl | rfl<;>assumption
def cOK (t:Trm) (d s:Nat):Bool:=wfT 1000000 t&&(decide (dpT t<=d)&&decide (sizT t<=s))
theorem z3f {t:Trm} {d s:Nat} (h:cOK t d s=true):wfT 1000000 t=true/\dpT t<=d/\sizT t<=s:=by
 simp only [cOK,Bool.and_eq_true,decide_eq_true_eq] at h;exact h
theorem kZero:cOK cZero 1 1=true:=by kernel_rfl
theorem kSucc:cOK cSucc 1 1=true:=by kernel_rfl
theorem kAdd:cOK cAdd 1 1=true:=by kernel_rfl
theorem kTwo:cOK cTwo 1 1=true:=by kernel_rfl
theorem kNat:cOK cNat 1 1=true:=by kernel_rfl
theorem kId:cOK cId 1 1=true:=by kernel_rfl
theorem kRec:cOK cRec 1 1=true:=by kernel_rfl
theorem kNN:cOK cNN 2 3=true:=by kernel_rfl
theorem kPi:cOK cPi 2 3=true:=by kernel_rfl
theorem zd6 (l:List Int) (g:Nat) {a b:Int} (hab:a<=b) (hb:b<=l.length) {c:Trm} (h:cOK c 1 1=true) {k:Int} (hk:1<=k):Mk l g k a (c,b):=by
 obtain ⟨h1,h2,h3⟩:=z3f h
 exact ⟨hab,hb,h1,by simp only;omega,by simp only;omega⟩
theorem zae (f a:Trm):sizT (mkA f a)=sizT f+sizT a+1:=by simp [mkA,sizT,sizTs]
theorem sz_B (k:Int) (f a:Trm):sizT (mkB k f a)=sizT f+sizT a+1:=by simp [mkB,sizT,sizTs]
theorem zaf (f a:Trm):dpT (mkA f a)=max (dpT f) (dpT a)+1:=by simp [mkA,dpT,dpTs]
theorem dp_B (k:Int) (f a:Trm):dpT (mkB k f a)=max (dpT f) (dpT a)+1:=by simp [mkB,dpT,dpTs]
theorem zkc (l:List Int):∀ g:Nat,(∀ v a:Int,0<=v->v+2 * g<=100000->0<=a->a<=l.length->Mk l g 1 a (natF l g v a))/\(∀ v a:Int,0<=v->v+2 * g<=100000->0<=a->a<=l.length->Mk l g 10 a (funF l g v a))
 | 0=>⟨fun v a h0 h1 h2 h3=>zd6 l 0 (Int.le_refl _) h3 kZero (by omega),fun v a h0 h1 h2 h3=>zd6 l 0 (Int.le_refl _) h3 kZero (by omega)⟩
 | g + 1 => by
   obtain ⟨iN,iF⟩:=zkc l g
   have z1:=z3f kSucc;have z2:=z3f kAdd;have z3:=z3f kNat;have z4:=z3f kId;have z5:=z3f kRec;have z6:=z3f kNN;have z7:=z3f kPi
   refine ⟨fun v a h0 h1 h2 h3=>?_,fun v a h0 h1 h2 h3=>?_⟩
   ·have hx := nx_le (l:=l) (n:=9) h2 h3
    simp only [natF]
    generalize nxA l a 9=b at *
    split
    ·have hb:=hx.2.2.1 (by omega)
     have m:=iN v b h0 (by omega) (by omega) hx.2.1
     exact ⟨by have:=m.a0;simp only;omega,m.a1,z3w (by omega) z1.1 m.w,by have:=m.d;simp only [appT,zaf];omega,by have:=m.s;simp only [appT,zae];push_cast;omega⟩
    ·split
     ·have hb:=hx.2.2.1 (by omega)
      have m:=iN v b h0 (by omega) (by omega) hx.2.1
      have m2:=iN v _ h0 (by omega) (by have:=m.a0;omega) m.a1
      exact ⟨by have:=m.a0;have:=m2.a0;simp only;omega,m2.a1,z3w (by omega) (z3w (by omega) z2.1 m.w) m2.w,by have:=m.d;have:=m2.d;simp only [appT,zaf];omega,by have:=m.s;have:=m2.s;simp only [appT,zae];push_cast;omega⟩
     ·split
      ·have hb:=hx.2.2.1 (by omega)
       split
       ·have hy:=nx_le (l:=l) (a:=b) (n:=v) (by omega) hx.2.1
        have hv:=nx_lt (l:=l) (a:=b) (n:=v) (by omega)
        exact ⟨by simp only;omega,hy.2.1,by simp [mkV,wfT,shpF,wfTs,argF];omega,by simp [mkV,dpT,dpTs],by simp [mkV,sizT,sizTs];omega⟩
       ·exact zd6 l _ (by omega) hx.2.1 kTwo (by omega)
      ·split
       ·have hb:=hx.2.2.1 (by omega)
        have m:=iN v b h0 (by omega) (by omega) hx.2.1
        exact ⟨by have:=m.a0;simp only;omega,m.a1,z3w (by omega) (z3w (by omega) z4.1 z3.1) m.w,by have:=m.d;simp only [appT,zaf];omega,by have:=m.s;simp only [appT,zae];push_cast;omega⟩
       ·split
        ·have hb:=hx.2.2.1 (by omega)
         have m:=iF v b h0 (by omega) (by omega) hx.2.1
         have m2:=iN v _ h0 (by omega) (by have:=m.a0;omega) m.a1
         exact ⟨by have:=m.a0;have:=m2.a0;simp only;omega,m2.a1,z3w (by omega) m.w m2.w,by have:=m.d;have:=m2.d;simp only [zaf];omega,by have:=m.s;have:=m2.s;simp only [zae];push_cast;omega⟩
        ·split
         ·have hb:=hx.2.2.1 (by omega)
          have m:=iN v b h0 (by omega) (by omega) hx.2.1
          have m2:=iN (v+1) _ (by omega) (by omega) (by have:=m.a0;omega) m.a1
          exact ⟨by have:=m.a0;have:=m2.a0;simp only;omega,m2.a1,k6_wf z3.1 m.w m2.w,by have:=m.d;have:=m2.d;simp only [dpT,dpTs];omega,by have:=m.s;have:=m2.s;simp only [sizT,sizTs];push_cast;omega⟩
         ·split
          ·have hb:=hx.2.2.1 (by omega)
           have m:=iN v b h0 (by omega) (by omega) hx.2.1
           have m2:=iN (v+2) _ (by omega) (by omega) (by have:=m.a0;omega) m.a1
           have m3:=iN v _ (by omega) (by omega) (by have:=m.a0;have:=m2.a0;omega) m2.a1
           exact ⟨by have:=m.a0;have:=m2.a0;have:=m3.a0;simp only;omega,m3.a1,z3w (by omega) (z3w (by omega) (z3w (by omega) (z3w (by omega) z5.1 z6.1) m.w) (kB_wf (.inl rfl) z3.1 (kB_wf (.inl rfl) z3.1 m2.w))) m3.w,by have:=m.d;have:=m2.d;have:=m3.d;simp only [appT,zaf,dp_B];omega,by have:=m.s;have:=m2.s;have:=m3.s;simp only [appT,zae,sz_B];push_cast;omega⟩
          ·exact zd6 l _ (by omega) hx.2.1 kZero (by omega)
   ·have hx:=nx_le (l:=l) (n:=4) h2 h3
    simp only [funF]
    generalize nxA l a 4=b at *
    split
    ·have m:=iN (v+1) b (by omega) (by omega) (by omega) hx.2.1
     exact ⟨by have:=m.a0;simp only;omega,m.a1,kB_wf (.inl rfl) z3.1 m.w,by have:=m.d;simp only [dp_B];omega,by have:=m.s;simp only [sz_B];push_cast;omega⟩
    ·split
     ·exact zd6 l _ (by omega) hx.2.1 kSucc (by omega)
     ·split
      ·have hb:=hx.2.2.1 (by omega)
       have m:=iN v b h0 (by omega) (by omega) hx.2.1
       exact ⟨by have:=m.a0;simp only;omega,m.a1,z3w (by omega) z2.1 m.w,by have:=m.d;simp only [appT,zaf];omega,by have:=m.s;simp only [appT,zae];push_cast;omega⟩
      ·have m:=iN (v+1) b (by omega) (by omega) (by omega) hx.2.1
       have hb:=hx.2.2.1 (by omega)
       exact ⟨by have:=m.a0;simp only;omega,m.a1,z3w (by omega) (z3w (by omega) z4.1 z7.1) (kB_wf (.inl rfl) z3.1 m.w),by have:=m.d;simp only [appT,zaf,dp_B];omega,by have:=m.s;simp only [appT,zae,sz_B];push_cast;omega⟩
theorem Mk.cp {l:List Int} {g:Nat} {k a:Int} {x:Trm×Int} (h:Mk l g k a x) (hg:g<=100000):Cp x.1:=Cp.of h.w (by omega) (by have:=h.d;omega)
theorem cp_c {t:Trm} {d s:Nat} (h:cOK t d s=true) (hd:d<=1000):Cp t:=by obtain ⟨h1,h2,h3⟩:=z3f h;exact Cp.of h1 (by omega) (by omega)
theorem zkd (s:ByteArray) (h:txtOK s=true) (hc:okT (trmOf s)=true) (x:Trm) (hx:Cp x):PCon Tryz.prog 73 [.p (St s),.p (.sl 5 [rowT x])] (tv (appT (trmOf s) [x])):=by
 have:=za5 s h hc [x] (fun a ha=>by simp at ha;subst ha;exact hx) (by simp)
 rw [show encTs [x]=[rowT x] by simp [zc]] at this
 exact this
theorem zke (s:ByteArray) (h:txtOK s=true) (hc:okT (trmOf s)=true) (x y:Trm) (hx:Cp x) (hy:Cp y):PCon Tryz.prog 73 [.p (St s),.p (.sl 5 [rowT x,rowT y])] (tv (appT (trmOf s) [x,y])):=by
 have:=za5 s h hc [x,y] (fun a ha=>by simp at ha;rcases ha with rfl | rfl<;>assumption) (by simp)
 rw [show encTs [x,y]=[rowT x,rowT y] by simp [zc]] at this
 exact this
theorem zxh (s:ByteArray) (h:txtOK s=true) (hc:okT (trmOf s)=true) (x y z u:Trm) (hx:Cp x) (hy:Cp y) (hz:Cp z) (hu:Cp u):PCon Tryz.prog 73 [.p (St s),.p (.sl 5 [rowT x,rowT y,rowT z,rowT u])] (tv (appT (trmOf s) [x,y,z,u])):=by
 have:=za5 s h hc [x,y,z,u] (fun a ha=>by simp at ha;rcases ha with rfl | rfl | rfl | rfl<;>assumption) (by simp)
 rw [show encTs [x,y,z,u]=[rowT x,rowT y,rowT z,rowT u] by simp [zc]] at this
 exact this
def NatC (l:List Int) (v a:Int) (x:Trm×Int):Prop:=Con Tryz.prog 31 [.ptr 1000 0,.p (I v)] (pkO l a) (fun r o=>r=tv x.1/\o=pkO l x.2)
def FunC (l:List Int) (v a:Int) (x:Trm×Int):Prop:=Con Tryz.prog 61 [.ptr 1000 0,.p (I v)] (pkO l a) (fun r o=>r=tv x.1/\o=pkO l x.2)
abbrev pkB (l:List Int) (a:Int):Ob:=.ce 96 [.p (.sl 1 (byts l)),.p (I a)]
theorem tSucc:txtOK (⟨#[115,117,99,99]⟩:ByteArray)=true:=by kernel_rfl
theorem tAdd:txtOK (⟨#[97,100,100]⟩:ByteArray)=true:=by kernel_rfl
theorem tTwo:txtOK (⟨#[116,119,111]⟩:ByteArray)=true:=by kernel_rfl
theorem tZero:txtOK (⟨#[122,101,114,111]⟩:ByteArray)=true:=by kernel_rfl
theorem tNat:txtOK (⟨#[78,97,116]⟩:ByteArray)=true:=by kernel_rfl
theorem tId:txtOK (⟨#[105,100,123,83,48,125]⟩:ByteArray)=true:=by kernel_rfl
theorem tRec:txtOK (⟨#[78,97,116,46,114,101,99,123,83,48,125]⟩:ByteArray)=true:=by kernel_rfl
theorem tNN:txtOK (⟨#[92,78,97,116,46,32,78,97,116]⟩:ByteArray)=true:=by kernel_rfl
theorem tPi:txtOK (⟨#[33,78,97,116,46,32,78,97,116]⟩:ByteArray)=true:=by kernel_rfl
theorem oSucc:okT cSucc=true:=by kernel_rfl
theorem oAdd:okT cAdd=true:=by kernel_rfl
theorem oId:okT cId=true:=by kernel_rfl
theorem oRec:okT cRec=true:=by kernel_rfl
set_option maxHeartbeats 8000000 in
theorem zsk (l:List Int) (hl:okB l) (hlen:l.length<=10000):∀ g:Nat,(∀ v a:Int,0<=v->v+2 * g<=100000->0<=a->a<=l.length->2 * (l.length-a)+1<=g->NatC l v a (natF l g v a))/\(∀ v a:Int,0<=v->v+2 * g<=100000->0<=a->a<=l.length->2 * (l.length-a)+2<=g->FunC l v a (funF l g v a))
 | 0=>⟨fun v a h0 h1 h2 h3 h4=>by omega,fun v a h0 h1 h2 h3 h4=>by omega⟩
 | g + 1 => by
   obtain ⟨cN,cF⟩:=zsk l hl hlen g
   obtain ⟨iN,iF⟩:=zkc l g
   refine ⟨fun v a h0 h1 h2 h3 h4=>?_,fun v a h0 h1 h2 h3 h4=>?_⟩
   ·have hx:=nx_le (l:=l) (n:=9) h2 h3
    have hnx:=zg4 l hl (by omega) a 9 h2 (by omega) (by omega)
    unfold NatC
    generalize hX:natF l (g+1) v a=X
    simp only [natF] at hX
    generalize nxA l a 9=b at *
    generalize nxt l a 9=k at *
    have hN:∀ v' c:Int,0<=v'->v'+2 * g<=100000->a+1<=c->c<=l.length->NatC l v' c (natF l g v' c):=fun v' c g0 g1 g2 g3=>cN v' c g0 g1 (by omega) g3 (by omega)
    refine cv [] [] [1000] Tryz.func31 93 Tryz.ntmps31 rfl rfl fun cx hE=>call1 [1000] hnx rfl rfl (zb _) ?_
    refine brS (fun hk=>?_) (fun hk=>brS (fun hk2=>?_) (fun hk2=>brS (fun hk3=>?_) (fun hk3=>brS (fun hk4=>?_) (fun hk4=>brS (fun hk5=>?_) (fun hk5=>brS (fun hk6=>?_) (fun hk6=>brS (fun hk7=>?_) (fun hk7=>brS (fun hk8=>?_) (fun hk8=>?_))))))))
    ·have hb:=hx.2.2.1 (by omega)
     rw [if_pos (.inl hk)] at hX;subst hX
     have m:=iN v b h0 (by omega) (by omega) hx.2.1
     exact call1 [1000] (hN v b h0 (by omega) (by omega) hx.2.1) rfl rfl (zb _) (call0 (zkd _ tSucc oSucc _ (m.cp (by omega))) ⟨rfl,rfl⟩)
    ·have hb:=hx.2.2.1 (by omega)
     rw [if_pos (.inr hk2)] at hX;subst hX
     have m:=iN v b h0 (by omega) (by omega) hx.2.1
     exact call1 [1000] (hN v b h0 (by omega) (by omega) hx.2.1) rfl rfl (zb _) (call0 (zkd _ tSucc oSucc _ (m.cp (by omega))) ⟨rfl,rfl⟩)
    ·have hb:=hx.2.2.1 (by omega)
     rw [if_neg (by omega),if_pos hk3] at hX;subst hX
     have m:=iN v b h0 (by omega) (by omega) hx.2.1
     have m0:=m.a0
     have m2:=iN v _ h0 (by omega) (by omega) m.a1
     exact call1 [1000] (hN v b h0 (by omega) (by omega) hx.2.1) rfl rfl (zb _) (callW [1000] 1000 (pkB l _) (hN v _ h0 (by omega) (by omega) m.a1) rfl rfl (zb _) rfl rfl (call0 (zke _ tAdd oAdd _ _ (m.cp (by omega)) (m2.cp (by omega))) ⟨rfl,rfl⟩))
    ·have hb:=hx.2.2.1 (by omega)
     rw [if_neg (by omega),if_neg hk3,if_pos hk4] at hX
     refine brS (fun hv=>?_) (fun hv=>?_)
     ·rw [if_pos hv] at hX;subst hX
      exact call1 [1000] (zg4 l hl (by omega) b v (by omega) (by omega) (by omega)) rfl rfl (zb _) (call0 (z8s _) ⟨rfl,rfl⟩)
     ·rw [if_neg hv] at hX;subst hX
      exact call0 (z8y _ tTwo) ⟨rfl,rfl⟩
    ·have hb:=hx.2.2.1 (by omega)
     rw [if_neg (by omega),if_neg hk3,if_neg hk4,if_pos hk5] at hX;subst hX
     have m:=iN v b h0 (by omega) (by omega) hx.2.1
     exact call0 (z8y _ tNat) (call1 [1000] (hN v b h0 (by omega) (by omega) hx.2.1) rfl rfl (zb _) (call0 (zke _ tId oId cNat _ (cp_c kNat (by omega)) (m.cp (by omega))) ⟨rfl,rfl⟩))
    ·have hb:=hx.2.2.1 (by omega)
     rw [if_neg (by omega),if_neg hk3,if_neg hk4,if_neg hk5,if_pos hk6] at hX;subst hX
     have m:=iF v b h0 (by omega) (by omega) hx.2.1
     have m0:=m.a0
     have m2:=iN v _ h0 (by omega) (by omega) m.a1
     exact call1 [1000] (cF v b h0 (by omega) (by omega) hx.2.1 (by omega)) rfl rfl (zb _) (callW [1000] 1000 (pkB l _) (hN v _ h0 (by omega) (by omega) m.a1) rfl rfl (zb _) rfl rfl (call0 (z3j _ _ (m2.cp (by omega))) ⟨rfl,rfl⟩))
    ·have hb:=hx.2.2.1 (by omega)
     rw [if_neg (by omega),if_neg hk3,if_neg hk4,if_neg hk5,if_neg hk6,if_pos hk7] at hX;subst hX
     have m:=iN v b h0 (by omega) (by omega) hx.2.1
     have m0:=m.a0
     exact call1 [1000] (hN v b h0 (by omega) (by omega) hx.2.1) rfl rfl (zb _) (call0 (z8y _ tNat) (And.intro (by omega) (callW [1000] 1000 (pkB l _) (hN (v+1) _ (by omega) (by omega) (by omega) m.a1) rfl rfl (zb _) rfl rfl ⟨tv3 _ _ _ [] _ _ _,rfl⟩)))
    ·have hb:=hx.2.2.1 (by omega)
     rw [if_neg (by omega),if_neg hk3,if_neg hk4,if_neg hk5,if_neg hk6,if_neg hk7,if_pos hk8] at hX;subst hX
     have m:=iN v b h0 (by omega) (by omega) hx.2.1
     have m0:=m.a0
     have m2:=iN (v+2) _ (by omega) (by omega) (by omega) m.a1
     have m20:=m2.a0
     have m3:=iN v _ h0 (by omega) (by omega) m2.a1
     have hlam:Cp (mkB 4 cNat (mkB 4 cNat (natF l g (v+2) (natF l g v b).2).1)):=by
      have h1:=(z3f kNat)
      have h2:=m2.d
      exact Cp.of (kB_wf (.inl rfl) h1.1 (kB_wf (.inl rfl) h1.1 m2.w)) (by omega) (by simp only [dp_B];omega)
     exact call1 [1000] (hN v b h0 (by omega) (by omega) hx.2.1) rfl rfl (zb _) (call0 (z8y _ tNat) (call0 (z8y _ tNat) (And.intro (by omega) (call1 [1000] (hN (v+2) _ (by omega) (by omega) (by omega) m.a1) rfl rfl (zb _) (call0 (z8t cNat _ (cp_c kNat (by omega))) (call0 (z8t cNat _ (cp_c kNat (by omega))) (call0 (z1l _ tNN) (callW [1000] 1000 (pkB l _) (hN v _ h0 (by omega) (by omega) m2.a1) rfl rfl (zb _) rfl rfl (call0 (zxh _ tRec oRec cNN _ _ _ (cp_c kNN (by omega)) (m.cp (by omega)) hlam (m3.cp (by omega))) ⟨rfl,rfl⟩)))))))))
    ·rw [if_neg (by omega),if_neg hk3,if_neg hk4,if_neg hk5,if_neg hk6,if_neg hk7,if_neg hk8] at hX;subst hX
     exact call0 (z8y _ tZero) ⟨rfl,rfl⟩
   ·have hx:=nx_le (l:=l) (n:=4) h2 h3
    have hnx:=zg4 l hl (by omega) a 4 h2 (by omega) (by omega)
    have hnl:=nx_lt (l:=l) (a:=a) (n:=4) (by omega)
    unfold FunC
    generalize hX:funF l (g+1) v a=X
    simp only [funF] at hX
    generalize nxA l a 4=b at *
    generalize nxt l a 4=k at *
    have hN:∀ v':Int,0<=v'->v'+2 * g<=100000->NatC l v' b (natF l g v' b):=fun v' g0 g1=>cN v' b g0 g1 (by omega) hx.2.1 (by
     by_cases hal:a<l.length
     ·have:=hx.2.2.2 (by omega) hal;omega
     ·omega)
    refine cv [] [] [1000] Tryz.func61 34 Tryz.ntmps61 rfl rfl fun cx hE=>call1 [1000] hnx rfl rfl (zb _) ?_
    refine brS (fun hk=>?_) (fun hk=>brS (fun hk2=>?_) (fun hk2=>brS (fun hk3=>?_) (fun hk3=>?_)))
    ·rw [if_pos hk] at hX;subst hX
     exact call0 (z8y _ tNat) (And.intro (by omega) (call1 [1000] (hN (v+1) (by omega) (by omega)) rfl rfl (zb _) (call0 (z8t cNat _ (cp_c kNat (by omega))) ⟨rfl,rfl⟩)))
    ·rw [if_neg hk,if_pos hk2] at hX;subst hX
     exact call0 (z8y _ tSucc) ⟨rfl,rfl⟩
    ·rw [if_neg hk,if_neg hk2,if_pos hk3] at hX;subst hX
     have m:=iN v b h0 (by omega) (by omega) hx.2.1
     exact call1 [1000] (hN v h0 (by omega)) rfl rfl (zb _) (call0 (zkd _ tAdd oAdd _ (m.cp (by omega))) ⟨rfl,rfl⟩)
    ·rw [if_neg hk,if_neg hk2,if_neg hk3] at hX;subst hX
     have m:=iN (v+1) b (by omega) (by omega) (by omega) hx.2.1
     have hlam:Cp (mkB 4 cNat (natF l g (v+1) b).1):=by
      have h1:=(z3f kNat)
      have h2:=m.d
      exact Cp.of (kB_wf (.inl rfl) h1.1 m.w) (by omega) (by simp only [dp_B];omega)
     exact call0 (z1l _ tPi) (call0 (z8y _ tNat) (And.intro (by omega) (call1 [1000] (hN (v+1) (by omega) (by omega)) rfl rfl (zb _) (call0 (z8t cNat _ (cp_c kNat (by omega))) (call0 (zke _ tId oId cPi _ (cp_c kPi (by omega)) hlam) ⟨rfl,rfl⟩)))))
def cEq:Trm:=trmOf (⟨#[69,113,123,83,48,125]⟩:ByteArray)
def cAnd:Trm:=trmOf (⟨#[65,110,100]⟩:ByteArray)
def cNot:Trm:=trmOf (⟨#[110,111,116]⟩:ByteArray)
def cP:Trm:=trmOf (⟨#[80]⟩:ByteArray)
def cS0:Trm:=trmOf (⟨#[42,48]⟩:ByteArray)
def cRefl:Trm:=trmOf (⟨#[69,113,46,114,101,102,108,123,83,48,125]⟩:ByteArray)
def zyw:Trm:=trmOf (⟨#[65,110,100,46,109,107]⟩:ByteArray)
def cId0:Trm:=trmOf (⟨#[105,100,123,48,125]⟩:ByteArray)
def cAll:Trm:=trmOf (⟨#[112,46,97,108,108]⟩:ByteArray)
def lvF (l:List Int):Nat->Int->Int->Lvl×Int
 | 0,_,a=>(zL,a)
 | g+1,p,a =>
   if nxt l a 6=1 then (⟨1,0,[(lvF l g p (nxA l a 6)).1]⟩,(lvF l g p (nxA l a 6)).2)
   else if nxt l a 6=2 then (⟨2,0,[(lvF l g p (nxA l a 6)).1,(lvF l g p (lvF l g p (nxA l a 6)).2).1]⟩,(lvF l g p (lvF l g p (nxA l a 6)).2).2)
   else if nxt l a 6=3 then (⟨3,0,[(lvF l g p (nxA l a 6)).1,(lvF l g p (lvF l g p (nxA l a 6)).2).1]⟩,(lvF l g p (lvF l g p (nxA l a 6)).2).2)
   else if (nxt l a 6=4\/nxt l a 6=5)/\p>0 then (⟨4,nxt l (nxA l a 6) p,[]⟩,nxA l (nxA l a 6) p)
   else (zL,nxA l a 6)
def spoN (l:List Int):List ByteArray:=[(⟨#[78,97,116]⟩:ByteArray),(⟨#[110,111,112,101]⟩:ByteArray),(⟨#[69,113]⟩:ByteArray),(⟨#[105,100]⟩:ByteArray),(⟨#[97,100,100]⟩:ByteArray),(⟨#[70,97,108,115,101]⟩:ByteArray)]
def anyS:List ByteArray:=[(⟨#[42,48]⟩:ByteArray),(⟨#[42,83,48]⟩:ByteArray),(⟨#[78,97,116,46,114,101,99,123,48,125]⟩:ByteArray),(⟨#[92,42,112,48,46,32,92,35,48,46,32,35,48]⟩:ByteArray),(⟨#[101,120,116,123,48,44,83,48,125]⟩:ByteArray),(⟨#[33,42,48,46,32,35,48]⟩:ByteArray),(⟨#[76,105,115,116,46,114,101,99,123,48,44,83,48,125]⟩:ByteArray),(⟨#[86,101,99,123,48,125]⟩:ByteArray),(⟨#[92,33,78,97,116,46,32,42,48,46,32,40,35,48,32,122,101,114,111,41]⟩:ByteArray),(⟨#[40,40,40,86,101,99,46,114,101,99,123,48,44,83,48,125,32,78,97,116,41,32,92,78,97,116,46,32,92,40,40,86,101,99,123,48,125,32,78,97,116,41,32,35,48,41,46,32,78,97,116,41,32,122,101,114,111,41]⟩:ByteArray)]
theorem zk5 {M:Nat}:∀ {l:List Trm},(∀ a∈l,dpT a<=M)->dpTs l<=M
 | [],_=>by simp [dpTs]
 | a::r,h=>by
   have h1:=h a (by simp)
   have h2:=zk5 (l:=r) fun b hb=>h b (by simp [hb])
   simp only [dpTs];omega
structure Sh (l:List Int) (g:Nat) (a:Int) (x:Trm×Trm×Int):Prop where
 a0:a<=x.2.2
 a1:x.2.2<=l.length
 w:wfT 1000001 x.1=true
 w2:wfT 1000001 x.2.1=true
 d:dpT x.1<=6 * g+10
 d2:dpT x.2.1<=6 * g+10
 s:(sizT x.1:Int)<=14 * ((x.2.2-a) * (x.2.2-a))+40 * (x.2.2-a)+4
 s2:(sizT x.2.1:Int)<=28 * (x.2.2-a)+4
theorem preS:(preL.all Go.Ab.okD)=true:=by kernel_rfl
theorem preG {pl:Option (List (ByteArray×Int))} (h:EnP [] preL pl):EnvG preL pl:=⟨h,fun d hd=>List.all_eq_true.1 preS d hd,fun d hd=>zv2 (List.all_eq_true.1 zk4 d hd)⟩
end Go.Ab.YtpneaijfkefeaaaGreat
namespace Go.Ab
open Go Go.RowKit
theorem zxi {ds:List Dcl} {c:Int} {g k:Nat} {t:Trm} {f:Int} {x y:WR} (h1:whF ds c g t f=some x) (h2:whF ds c k t f=some y):x=y:=by
 have e1:=z2c g (max g k) (by omega) t f x h1
 have e2:=z2c k (max g k) (by omega) t f y h2
 rw [e1] at e2
 exact Option.some.inj e2
theorem zxj {ds:List Dcl} {c:Int} {g k:Nat} {t:Trm} {f:Int} {x y:OR} (h1:onF ds c (whF ds c g) t f=some x) (h2:onF ds c (whF ds c k) t f=some y):x=y:=by
 have e1:=zax (wh':=whF ds c (max g k)) (fun t f x hx=>z2c g (max g k) (by omega) t f x hx) h1
 have e2:=zax (wh':=whF ds c (max g k)) (fun t f x hx=>z2c k (max g k) (by omega) t f x hx) h2
 rw [e1] at e2
 exact Option.some.inj e2
section
variable {T B : Int} {M : Nat} {c : Int} (hT : T ≤ 1099511627776) (hB : 0 ≤ B) (hM : M ≤ 10000000) (h1 : 1 ≤ M) (hc : c ≤ M)
include hT hB hM h1 hc
theorem zsl {ds:List Dcl} (hE:EnvW B ds) {t:Trm} {f:Int} (hb:B<=bdV T M f) (hw:Wd (bdV T M f) M t):∃ g y,onF ds c (whF ds c g) t f=some y/\(y.2.2.2=0->Wd (bdV T M y.2.2.1) M y.1)/\y.2.2.1<=f/\(y.2.1=true->y.2.2.2=0/\y.2.2.1<f/\0<=y.2.2.1):=by
 have hg:∀ l:List Trm,(∀ a∈l,a∈argsT t)->∃ g,∀ a∈l,∃ y,whF ds c g a f=some y/\(y.2.2=0->Wd (bdV T M y.2.1) M y.1)/\y.2.1<=f:=by
  intro l
  induction l with
  | nil=>exact fun _=>⟨0,fun a h=>by cases h⟩
  | cons a l ih =>
    intro hl
    obtain ⟨g1,k1⟩:=ih fun b hb=>hl b (by simp [hb])
    have ham:=hl a (by simp)
    obtain ⟨g2,y,k2,k3⟩:=zmp hT hB hM h1 hc hE f.toNat f (Nat.le_refl _) (dpT a) a (Nat.le_refl _) hb (hw.args.1 a ham)
    refine ⟨max g1 g2,fun b hbm=>?_⟩
    rcases List.mem_cons.1 hbm with rfl | hbm
    ·exact ⟨y,z2c g2 _ (by omega) _ _ _ k2,k3⟩
    ·obtain ⟨y',k4,k5⟩:=k1 b hbm
     exact ⟨y',z2c g1 _ (by omega) _ _ _ k4,k5⟩
 obtain ⟨g,hg⟩:=hg _ fun _ h=>h
 exact ⟨g,zvb hT hB hM h1 hc hE hb hw hg⟩
end
end Go.Ab
namespace Go.Ab.YtpneaijfkefeaaaGreat
open Go Go.RowKit Go.Ab Go.Proofs
structure AnT (t:Trm):Prop where
 w:wfT 1000002 t=true
 d:dpT t<=6001
 s:sizT t<=1000000
theorem AnT.ok {t:Trm} (h:AnT t):okW t=true:=zv8 (by omega) h.w (by have:=h.s;omega)
theorem AnT.gd {t:Trm} (h:AnT t):Gd t:=⟨z1i (by omega) t h.w,by have:=h.d;omega⟩
theorem AnT.wh {t:Trm} (h:AnT t) {f c:Int} (hf:f<=2000) (hc:c<=100000):∃ g x,whF preL c g t f=some x:=by
 have hb:(1073741824:Int)<=bdV 1099511627776 100000 f:=by unfold bdV;omega
 obtain ⟨g,x,h1,_⟩:=zmp (T:=1099511627776) (B:=1073741824) (M:=100000) (c:=c) (by omega) (by omega) (by omega) (by omega) (by omega) zeo f.toNat f (Nat.le_refl _) (dpT t) t (Nat.le_refl _) hb ⟨z1i (by omega) t h.w,by have:=h.d;omega⟩
 exact ⟨g,x,h1⟩
end Go.Ab.YtpneaijfkefeaaaGreat
namespace Go.Ab
open Go Go.RowKit
def nmsF (nm:Trm->Int->Option WR):List Trm->List Trm->Int->Option (List Trm×Int×Int)
 | [],acc,f=>some (acc,f,0)
 | a::r,acc,f=>match nm a f with
   | none=>none
   | some (u,f1,e)=>if e≠0 then some ([],f1,e) else nmsF nm r (acc++[u]) f1
def outL (k:Int) (l:List Trm):Trm :=
 if k=4/\(l.getD 1 zT).kind=3/\((l.getD 1 zT).args.getD 1 zT).kind=0/\((l.getD 1 zT).args.getD 1 zT).n=0/\usT ((l.getD 1 zT).args.getD 0 zT) 0=false
 then opnT [zT] ((l.getD 1 zT).args.getD 0 zT) 0 else mkB k (l.getD 0 zT) (l.getD 1 zT)
def outN (w:Trm) (l:List Trm):Trm:=if w.kind=4\/w.kind=5 then outL w.kind l else appT (headT w) l
def prtN (w:Trm):List Trm:=if w.kind=4\/w.kind=5 then w.args else argsT w
def finN (c f:Int) (u:Trm):Option WR:=if gdT u=true then (if fitsT c u=true then some (u,f,0) else some (zT,f,12)) else none
def normF (ds:List Dcl) (c:Int):Nat->Trm->Int->Option WR
 | 0,_,_=>none
 | g + 1,t,f=>if f<=0 then some (zT,f,11) else match whF ds c g t (f-1) with
   | none=>none
   | some (w,f1,e)=>if e≠0 then some (zT,f1,e) else match nmsF (normF ds c g) (prtN w) [] f1 with
     | none=>none
     | some (l,f2,e2)=>if e2≠0 then some (zT,f2,e2) else finN c f2 (outN w l)
theorem z9e {nm nm':Trm->Int->Option WR} (h:∀ t f x,nm t f=some x->nm' t f=some x):∀ (l acc:List Trm) (f:Int) (y:List Trm×Int×Int),nmsF nm l acc f=some y->nmsF nm' l acc f=some y
 | [],acc,f,y,hy=>hy
 | a :: r,acc,f,y,hy=>by
   simp only [nmsF] at hy ⊢
   cases ha:nm a f with
   | none=>rw [ha] at hy;cases hy
   | some x =>
     rw [ha] at hy
     rw [h _ _ _ ha]
     obtain ⟨u,f1,e⟩:=x
     simp only at hy ⊢
     split at hy
     ·rename_i he;rw [if_pos he];exact hy
     ·rename_i he;rw [if_neg he];exact z9e h r _ f1 y hy
theorem z6w {ds:List Dcl} {c:Int}:∀ (g k:Nat),g<=k->∀ (t:Trm) (f:Int) (x:WR),normF ds c g t f=some x->normF ds c k t f=some x
 | 0,_,_,_,_,_,h=>by cases h
 | g+1,0,hk,_,_,_,_=>by omega
 | g + 1,k+1,hk,t,f,x,h=>by
   simp only [normF] at h ⊢
   split at h
   ·rename_i hf;rw [if_pos hf];exact h
   ·rename_i hf
    rw [if_neg hf]
    cases hw:whF ds c g t (f-1) with
    | none=>rw [hw] at h;cases h
    | some y =>
      rw [hw] at h
      rw [z2c g k (by omega) _ _ _ hw]
      obtain ⟨w,f1,e⟩:=y
      simp only at h ⊢
      split at h
      ·rename_i he;rw [if_pos he];exact h
      ·rename_i he
       rw [if_neg he]
       cases hn:nmsF (normF ds c g) (prtN w) [] f1 with
       | none=>rw [hn] at h;cases h
       | some z =>
         rw [hn] at h
         rw [z9e (fun t f x hx=>z6w g k (by omega) t f x hx) _ _ _ _ hn]
         exact h
theorem zor {c f:Int} {u:Trm} {y:WR} (h:finN c f u=some y):Gd y.1/\y.2.1=f:=by
 unfold finN at h
 split at h
 ·rename_i hg
  split at h
  ·cases h;exact ⟨gdT_iff.1 hg,rfl⟩
  ·cases h;exact ⟨zT_gd,rfl⟩
 ·cases h
theorem z4f {nm:Trm->Int->Option WR} (h:∀ t f u f' e,Gd t->nm t f=some (u,f',e)->Gd u/\Fu f f'):∀ (l acc:List Trm) (f:Int) (y:List Trm) (f' e:Int),(∀ a∈l,Gd a)->(∀ a∈acc,Gd a)->nmsF nm l acc f=some (y,f',e)->(∀ a∈y,Gd a)/\Fu f f'/\(e=0->y.length=acc.length+l.length)
 | [],acc,f,y,f',e,hl,ha,hy=>by simp only [nmsF,Option.some.injEq,Prod.mk.injEq] at hy;obtain ⟨rfl,rfl,rfl⟩:=hy;exact ⟨ha,.inl rfl,fun _=>rfl⟩
 | x :: r,acc,f,y,f',e,hl,ha,hy=>by
   simp only [nmsF] at hy
   cases hx:nm x f with
   | none=>rw [hx] at hy;cases hy
   | some q =>
     obtain ⟨u,f1,e1⟩:=q
     rw [hx] at hy
     have hk:=h x f u f1 e1 (hl x (by simp)) hx
     simp only at hy
     split at hy
     ·rename_i he
      simp only [Option.some.injEq,Prod.mk.injEq] at hy
      obtain ⟨rfl,rfl,rfl⟩:=hy
      exact ⟨(fun a h=>by cases h),hk.2,fun h=>absurd h he⟩
     ·have:=z4f h r (acc++[u]) f1 y f' e (fun a h=>hl a (by simp [h])) (fun a hm=>by
       rcases List.mem_append.1 hm with hm | hm
       ·exact ha a hm
       ·simp at hm;subst hm;exact hk.1) hy
      exact ⟨this.1,hk.2.trans this.2.1,fun he=>by rw [this.2.2 he];simp;omega⟩
theorem zsm {w:Trm} (h:Gd w):∀ a∈prtN w,Gd a:=fun a ha=>by
 unfold prtN at ha
 split at ha
 ·exact h.sub ha
 ·exact h.args.1 a ha
theorem z7n {ds:List Dcl} {c:Int}:∀ (g:Nat) (t:Trm) (f:Int) (u:Trm) (f' e:Int),Gd t->normF ds c g t f=some (u,f',e)->Gd u/\Fu f f'
 | 0,_,_,_,_,_,_,h=>by cases h
 | g + 1, t, f,u,f',e,hg,h=>by
   simp only [normF] at h
   split at h
   ·cases h;exact ⟨zT_gd,.inl rfl⟩
   ·rename_i hf
    have h1:∀ {x:Int},Fu (f-1) x->Fu f x:=fun hx=>by unfold Fu at *;omega
    cases hw:whF ds c g t (f-1) with
    | none=>rw [hw] at h;cases h
    | some y =>
      obtain ⟨w,f1,e1⟩:=y
      rw [hw] at h
      have hk:=z2a g t (f-1) w f1 e1 hg hw
      simp only at h
      split at h
      ·cases h;exact ⟨zT_gd,h1 hk.2⟩
      ·cases hn:nmsF (normF ds c g) (prtN w) [] f1 with
       | none=>rw [hn] at h;cases h
       | some z =>
         obtain ⟨l,f2,e2⟩:=z
         rw [hn] at h
         have hk2:=z4f (fun t f u f' e=>z7n g t f u f' e) _ _ _ _ _ _ (zsm hk.1) (fun a h=>by cases h) hn
         have h2:=h1 (hk.2.trans hk2.2.1)
         simp only at h
         split at h
         ·cases h;exact ⟨zT_gd,h2⟩
         ·have:=zor h
          simp only at this
          rw [this.2];exact ⟨this.1,h2⟩
theorem zms {nm:Trm->Int->Option WR} (h:∀ t f y,nm t f=some y->y.2.2≠0->errE y.2.2):∀ (l acc:List Trm) (f:Int) (y:List Trm×Int×Int),nmsF nm l acc f=some y->y.2.2≠0->errE y.2.2
 | [],acc,f,y,hy,hne=>by simp only [nmsF,Option.some.injEq] at hy;subst hy;exact absurd rfl hne
 | x :: r,acc,f,y,hy,hne=>by
   simp only [nmsF] at hy
   cases hx:nm x f with
   | none=>rw [hx] at hy;cases hy
   | some q =>
     rw [hx] at hy
     have hq:=h x f q hx
     obtain ⟨u,f1,e⟩:=q
     simp only at hy hq
     split at hy
     ·rename_i he;cases hy;exact hq he
     ·exact zms h r _ f1 y hy hne
theorem zif {ds : List Dcl} {c:Int}:∀ (g:Nat) (t:Trm) (f:Int) (y:WR),normF ds c g t f=some y->y.2.2≠0->errE y.2.2/\y.1=zT
 | 0,_,_,_,h,_=>by cases h
 | g + 1, t, f,y,h,hne=>by
   simp only [normF] at h
   split at h
   ·cases h;exact ⟨.inl rfl,rfl⟩
   ·cases hw:whF ds c g t (f-1) with
    | none=>rw [hw] at h;cases h
    | some x =>
      have hx:=zka g t (f-1) x hw
      rw [hw] at h
      obtain ⟨w,f1,e1⟩:=x
      simp only at h hx
      split at h
      ·rename_i he;cases h;exact ⟨(hx he).1,rfl⟩
      ·cases hn:nmsF (normF ds c g) (prtN w) [] f1 with
       | none=>rw [hn] at h;cases h
       | some z =>
         have hz:=zms (fun t f y hy hne=>(zif g t f y hy hne).1) _ _ _ z hn
         obtain ⟨l,f2,e2⟩:=z
         rw [hn] at h
         simp only at h hz
         split at h
         ·rename_i he;cases h;exact ⟨hz he,rfl⟩
         ·unfold finN at h
          split at h
          ·split at h
           ·cases h;exact absurd rfl hne
           ·cases h;exact ⟨.inr rfl,rfl⟩
          ·cases h
end Go.Ab
namespace Go.Ab.YtpneaijfkefeaaaGreat
open Go Go.RowKit Go.Ab Go.Proofs
section
variable (ds : List Dcl) (pv ov : Nat) (pl : Option (List (ByteArray × Int)))
def NmC (c:Int) (t:Trm) (f:Int) (x:WR):Prop:=Con Tryz.prog 70 [.ag [.ptr 1000 0],tv t] (runO ds pv ov pl f c) (fun r o=>r=.tp [tv x.1,.p (I x.2.2)]/\o=runO ds pv ov pl x.2.1 c)
def eaV (y:List Trm×Int×Int):AV:=.tp [.p (.sl 5 (encTs y.1)),.p (I y.2.2)]
set_option maxHeartbeats 8000000 in
theorem zd7 (c:Int) (nm:Trm->Int->Option WR) (hk:∀ t f u f' e,Gd t->nm t f=some (u,f',e)->Gd u/\Fu f f') (ih:∀ t f x,Gd t->Mt f c->nm t f=some x->NmC ds pv ov pl c t f x) (l:List Trm) (hl:∀ a∈l,Gd a) (hlen:l.length<=268435456) (f:Int) (hm:Mt f c) (y:List Trm×Int×Int) (hy:nmsF nm l [] f=some y) :
  Con Tryz.prog 167 [.ag [.ptr 1000 0],.p (.sl 5 (encTs l))] (runO ds pv ov pl f c) (fun r o=>r=eaV y/\o=runO ds pv ov pl y.2.1 c):=by
 have hel:=ze l
 refine cv [] [] [1000,1004,1005,1006,1007] Tryz.func167 32 Tryz.ntmps167 rfl rfl fun cx hE=>fun _=>?_
 refine tokV 6 500 35 5 hE rfl rfl rfl ?_
 refine loop3 (fun (i:Nat) (acc:List Trm) (k:Int)=>[(13,.p (I i)),(6,.ts 500 5 (encTs acc))]) (fun i acc k=>[(1000,.ce 107 [.ptr 1004 0,.p (I k),.p (I c)]),(500,.ar 35 5 (encTs acc).length)]) (fun i acc k=>nmsF nm (l.drop i) acc k=some y/\acc.length=i/\Mt k c/\i<=l.length) (fun i acc k=>l.length-i) 0 [] f [13,6] [1000,500] hE rfl rfl rfl ⟨Sub.refl _,Sub.refl _,rfl,rfl,rfl,rfl,rfl,rfl,rfl,trivial⟩ ⟨hy,rfl,hm,by omega⟩ fun i acc k ⟨i1,i2,i3,i4⟩=>?_
 have hae:=ze acc
 refine brS (fun hlt=>?_) (fun hlt=>?_)
 ·have hil:i<l.length:=by omega
  have hg:l[i]?=some (l[i]):=List.getElem?_eq_getElem hil
  have hd:l.drop i=l[i]::l.drop (i+1):=List.drop_eq_getElem_cons hil
  have hm2:=hl _ (List.getElem_mem hil)
  generalize l[i]=a at hg hd hm2
  have hrow:(encTs l)[i]?=some (rowT a):=by rw [zc,List.getElem?_map,hg];rfl
  rw [hd] at i1
  simp only [nmsF] at i1
  cases ha:nm a k with
  | none=>rw [ha] at i1;cases i1
  | some q =>
    have hc:=ih a k q hm2 i3 ha
    have hkk:=hk a k q.1 q.2.1 q.2.2 hm2 ha
    rw [ha] at i1
    obtain ⟨u,k1,e⟩:=q
    simp only at i1 hkk
    refine idxN hrow (callX [1000,1004,1005,1006,1007] hc rfl rfl (zb _) fun r o ⟨q1,q2⟩=>?_)
    subst q1 q2
    refine brS (fun he=>?_) (fun he=>?_)
    ·simp only at he
     rw [if_pos he] at i1;cases i1;exact ⟨rfl,rfl⟩
    ·simp only at he
     rw [if_neg he] at i1
     have hm3:=i3.fu hkk.2
     exact app1 (by simp;omega) (by simp;omega) (And.intro (by omega) ⟨i+1,acc++[u],k1,⟨i1,by simp [i2],hm3,by omega⟩,by omega,Sub.i (by simp),Sub.tse (z1a _ _),rfl,ar_eq (by simp),rfl,rfl,rfl,rfl,rfl,trivial⟩)
 ·have hd:l.drop i=[]:=List.drop_eq_nil_of_le (by omega)
  rw [hd] at i1
  simp only [nmsF,Option.some.injEq] at i1
  subst i1
  exact ⟨rfl,rfl⟩
end
theorem z2w {l:List Trm} (h:l.length=2):∃ x y,l=[x,y]:=by
 match l,h with
 | [x,y],_=>exact ⟨x,y,rfl⟩
def eN (w:Trm) (y:List Trm×Int×Int):WR:=if y.2.2≠0 then (zT,y.2.1,y.2.2) else (outN w y.1,y.2.1,0)
section
variable (ds : List Dcl) (pv ov : Nat) (pl : Option (List (ByteArray × Int)))
def enR (x:WR):AV:=.tp [tv x.1,.p (I x.2.2)]
set_option maxHeartbeats 8000000 in
theorem zxk (c:Int) (nm:Trm->Int->Option WR) (hk:∀ t f u f' e,Gd t->nm t f=some (u,f',e)->Gd u/\Fu f f') (ih:∀ t f x,Gd t->Mt f c->nm t f=some x->NmC ds pv ov pl c t f x) (w:Trm) (hw:Gd w) (h5:w.kind=5) (f:Int) (hm:Mt f c) (y:List Trm×Int×Int) (hy:nmsF nm (prtN w) [] f=some y) :
  Con Tryz.prog 124 [.ag [.ptr 1000 0],tv w] (runO ds pv ov pl f c) (fun r o=>r=enR (eN w y)/\o=runO ds pv ov pl y.2.1 c):=by
 have hp:prtN w=w.args:=by unfold prtN;rw [if_pos (.inr h5)]
 rw [hp] at hy
 obtain ⟨a,b,hab⟩:=z5q hw.w (.inr (.inr h5))
 have hke:=z4f hk w.args [] f y.1 y.2.1 y.2.2 (fun a h=>hw.sub h) (fun a h=>by cases h) hy
 refine cv [] [] [1000,1004,1005,1006,1007] Tryz.func124 26 Tryz.ntmps124 rfl rfl fun cx hE=>callX [1000,1004,1005,1006,1007] (zd7 ds pv ov pl c nm hk ih w.args (fun a h=>hw.sub h) (by rw [hab];simp) f hm y hy) rfl rfl (zb _) fun r o ⟨q1,q2⟩=>?_
 subst q1 q2
 refine brS (fun he=>?_) (fun he=>?_)
 ·unfold eN;rw [if_pos he];exact ⟨rfl,rfl⟩
 ·have hl:y.1.length=2:=by rw [hke.2.2 (Classical.byContradiction fun h=>he h),hab];rfl
  obtain ⟨u,v,huv⟩:=z2w hl
  have r0:(encTs y.1)[0]?=some (rowT u):=by rw [huv];simp [zc]
  have r1:(encTs y.1)[1]?=some (rowT v):=by rw [huv];simp [zc]
  have ho:outN w y.1=mkB 5 u v:=by unfold outN;rw [if_pos (.inr h5)];unfold outL;rw [if_neg (fun h=>by omega),h5,huv];rfl
  unfold eN;rw [if_neg he,ho]
  exact idxN (i:=0) r0 (idxN (i:=1) r1 (call0 (z3e 5 u v) ⟨rfl,rfl⟩))
set_option maxHeartbeats 8000000 in
theorem zos (c:Int) (nm:Trm->Int->Option WR) (hk:∀ t f u f' e,Gd t->nm t f=some (u,f',e)->Gd u/\Fu f f') (ih:∀ t f x,Gd t->Mt f c->nm t f=some x->NmC ds pv ov pl c t f x) (w:Trm) (hw:Gd w) (h4:w.kind≠4) (h5:w.kind≠5) (f:Int) (hm:Mt f c) (y:List Trm×Int×Int) (hy:nmsF nm (prtN w) [] f=some y) :
  Con Tryz.prog 122 [.ag [.ptr 1000 0],tv w] (runO ds pv ov pl f c) (fun r o=>r=enR (eN w y)/\o=runO ds pv ov pl y.2.1 c):=by
 have hp:prtN w=argsT w:=by unfold prtN;rw [if_neg (fun h=>by omega)]
 rw [hp] at hy
 have hal:=hw.args
 have hd:=hw.d
 have hke:=z4f hk (argsT w) [] f y.1 y.2.1 y.2.2 hal.1 (fun a h=>by cases h) hy
 refine cv [] [] [1000,1004,1005,1006,1007] Tryz.func122 28 Tryz.ntmps122 rfl rfl fun cx hE=>call0 (z4e 1099511627776 w hw.w (by omega)) (callX [1000,1004,1005,1006,1007] (zd7 ds pv ov pl c nm hk ih (argsT w) hal.1 (by omega) f hm y hy) rfl rfl (zb _) fun r o ⟨q1,q2⟩=>?_)
 subst q1 q2
 refine brS (fun he=>?_) (fun he=>?_)
 ·unfold eN;rw [if_pos he];exact ⟨rfl,rfl⟩
 ·have hl:y.1.length=(argsT w).length:=by rw [hke.2.2 (Classical.byContradiction fun h=>he h)];simp
  have ho:outN w y.1=appT (headT w) y.1:=by unfold outN;rw [if_neg (fun h=>by omega)]
  unfold eN;rw [if_neg he,ho]
  exact call0 (z2i _ y.1 (by omega)) ⟨rfl,rfl⟩
set_option maxHeartbeats 8000000 in
theorem zun (c:Int) (nm:Trm->Int->Option WR) (hk:∀ t f u f' e,Gd t->nm t f=some (u,f',e)->Gd u/\Fu f f') (ih:∀ t f x,Gd t->Mt f c->nm t f=some x->NmC ds pv ov pl c t f x) (w:Trm) (hw:Gd w) (h4:w.kind=4) (f:Int) (hm:Mt f c) (y:List Trm×Int×Int) (hy:nmsF nm (prtN w) [] f=some y) :
  Con Tryz.prog 123 [.ag [.ptr 1000 0],tv w] (runO ds pv ov pl f c) (fun r o=>r=enR (eN w y)/\o=runO ds pv ov pl y.2.1 c):=by
 have hp:prtN w=w.args:=by unfold prtN;rw [if_pos (.inl h4)]
 rw [hp] at hy
 obtain ⟨a,b,hab⟩:=z5q hw.w (.inr (.inl h4))
 have hke:=z4f hk w.args [] f y.1 y.2.1 y.2.2 (fun a h=>hw.sub h) (fun a h=>by cases h) hy
 refine cv [] [] [1000,1004,1005,1006,1007] Tryz.func123 63 Tryz.ntmps123 rfl rfl fun cx hE=>callX [1000,1004,1005,1006,1007] (zd7 ds pv ov pl c nm hk ih w.args (fun a h=>hw.sub h) (by rw [hab];simp) f hm y hy) rfl rfl (zb _) fun r o ⟨q1,q2⟩=>?_
 subst q1 q2
 refine brS (fun he=>?_) (fun he=>?_)
 ·unfold eN;rw [if_pos he];exact ⟨rfl,rfl⟩
 ·have hl : y.1.length=2:=by rw [hke.2.2 (Classical.byContradiction fun h=>he h),hab];rfl
  obtain ⟨u,v,huv⟩:=z2w hl
  have r0:(encTs y.1)[0]?=some (rowT u):=by rw [huv];simp [zc]
  have r1:(encTs y.1)[1]?=some (rowT v):=by rw [huv];simp [zc]
  have hv:Gd v:=hke.1 v (by rw [huv];simp)
  have hvd:=hv.d
  have hO:outN w y.1=outL 4 [u,v]:=by unfold outN;rw [if_pos (.inl h4),h4,huv]
  have no:¬ (v.kind=3/\(v.args.getD 1 zT).kind=0/\(v.args.getD 1 zT).n=0/\usT (v.args.getD 0 zT) 0=false)->outN w y.1=mkB 4 u v:=fun hn=>by
   rw [hO];unfold outL
   rw [if_neg (fun h=>hn h.2)];rfl
  unfold eN;rw [if_neg he]
  refine idxN (i:=1) r1 (brS (fun h3=>?_) (fun h3=>?_))
  ·obtain ⟨p,q,hpq⟩:=z5q hv.w (.inl h3)
   have s0:(encTs v.args)[0]?=some (rowT p):=by rw [hpq];simp [zc]
   have s1:(encTs v.args)[1]?=some (rowT q):=by rw [hpq];simp [zc]
   have hpg:Gd p:=hv.sub (by rw [hpq];simp)
   have hpd:=hpg.d
   refine idxN (i:=1) s1 (brS (fun h0=>idxN (i:=1) s1 (brS (fun hn=>?_) (fun hn=>?_))) (fun h0=>?_))
   ·refine idxN (i:=0) s0 (call0 (zi2 p 0 (by omega) (by omega)) (brB (fun hu=>?_) (fun hu=>?_)))
    ·have ho:outN w y.1=opnT [zT] p 0:=by
      rw [hO];unfold outL
      rw [if_pos ⟨rfl,h3,by simpa [hpq] using h0,by simpa [hpq] using hn,by simpa [hpq] using hu⟩]
      simp only [List.getD_cons_zero,List.getD_cons_succ,hpq]
     rw [ho]
     exact idxN (i:=0) s0 (call0 (zmd 1099511627776 (by omega) zT zT_gd.w (by decide) p (by omega) hpg.w) ⟨rfl,rfl⟩)
    ·have hu':usT p 0=true:=by simpa using hu
     rw [no (fun h=>by have h3:=h.2.2.2;simp [hpq,hu'] at h3)]
     exact idxN (i:=0) r0 (idxN (i:=1) r1 (call0 (z3e 4 u v) ⟨rfl,rfl⟩))
   ·rw [no (fun h=>hn (by simpa [hpq] using h.2.2.1))]
    exact idxN (i:=0) r0 (idxN (i:=1) r1 (call0 (z3e 4 u v) ⟨rfl,rfl⟩))
   ·rw [no (fun h=>h0 (by simpa [hpq] using h.2.1))]
    exact idxN (i:=0) r0 (idxN (i:=1) r1 (call0 (z3e 4 u v) ⟨rfl,rfl⟩))
  ·rw [no (fun h=>h3 h.1)]
   exact idxN (i:=0) r0 (idxN (i:=1) r1 (call0 (z3e 4 u v) ⟨rfl,rfl⟩))
end
section
variable (ds : List Dcl) (pv ov : Nat) (pl : Option (List (ByteArray × Int)))
set_option maxHeartbeats 8000000 in
theorem zig (h:EnvG ds pl) (c:Int):∀ (g:Nat) (t:Trm) (f:Int) (x:WR),Gd t->Mt f c->normF ds c g t f=some x->NmC ds pv ov pl c t f x
 | 0,_,_,_,_,_,hx=>by cases hx
 | g + 1, t, f,x,hg,hm,hx=>by
   simp only [normF] at hx
   unfold NmC
   refine cv [] [] [1000,1004,1005,1006,1007] Tryz.func70 63 Tryz.ntmps70 rfl rfl fun cx hE=>callX [1000,1004,1005,1006,1007] (z8z ds pv ov pl f c hm) rfl rfl (zb _) fun r o ⟨q1,q2⟩=>?_
   subst q1 q2
   refine brS (fun hs=>?_) (fun hs=>?_)
   ·have hf0:f<=0:=Classical.byContradiction fun hn=>hs (by unfold stE;rw [if_neg hn])
    rw [if_pos hf0] at hx;cases hx
    unfold stE stM;rw [if_pos hf0,if_pos hf0]
    exact ⟨rfl,rfl⟩
   have hf0:¬ f<=0:=fun hn=>hs (by unfold stE;rw [if_pos hn];decide)
   rw [if_neg hf0] at hx
   have e3:stM f=f-1:=by unfold stM;rw [if_neg hf0]
   have hm1:Mt (f-1) c:=⟨by omega,by have:=hm.f1;omega,hm.c0,hm.c1⟩
   rw [e3]
   cases hw:whF ds c g t (f-1) with
   | none=>rw [hw] at hx;cases hx
   | some y =>
     have hwc:=zsa ds pv ov pl h c g t (f-1) y hg hm1 hw
     have hkw:=z2a g t (f-1) y.1 y.2.1 y.2.2 hg hw
     rw [hw] at hx
     refine callX [1000,1004,1005,1006,1007] hwc rfl rfl (zb _) fun r o ⟨q1,q2⟩=>?_
     subst q1 q2
     obtain ⟨w,f1,e⟩:=y
     simp only at hx hkw
     refine brS (fun he=>?_) (fun he=>?_)
     ·simp only at he
      rw [if_pos he] at hx;cases hx;exact ⟨rfl,rfl⟩
     simp only at he
     rw [if_neg he] at hx
     have hm2:=hm1.fu hkw.2
     cases hn:nmsF (normF ds c g) (prtN w) [] f1 with
     | none=>rw [hn] at hx;cases hx
     | some z =>
       rw [hn] at hx
       have hkn:∀ t f u f' e,Gd t->normF ds c g t f=some (u,f',e)->Gd u/\Fu f f':=fun t f u f' e=>z7n g t f u f' e
       have ih:∀ t f x,Gd t->Mt f c->normF ds c g t f=some x->NmC ds pv ov pl c t f x:=fun t f x=>zig h c g t f x
       have hkz:=z4f hkn (prtN w) [] f1 z.1 z.2.1 z.2.2 (zsm hkw.1) (fun a h=>by cases h) hn
       have hm3:=hm2.fu hkz.2.1
       simp only at hx
       have hE1:w.kind=4->_:=fun h4=>zun ds pv ov pl c (normF ds c g) hkn ih w hkw.1 h4 f1 hm2 z hn
       have hE2:w.kind=5->_:=fun h5=>zxk ds pv ov pl c (normF ds c g) hkn ih w hkw.1 h5 f1 hm2 z hn
       have hE3:w.kind≠4->w.kind≠5->_:=fun h4 h5=>zos ds pv ov pl c (normF ds c g) hkn ih w hkw.1 h4 h5 f1 hm2 z hn
       refine brS (fun h4=>?_) (fun h4=>brS (fun h5=>?_) (fun h5=>?_))
       ·have hEE:=hE1 h4
        refine callX [1000,1004,1005,1006,1007] hEE rfl rfl (zb _) fun r o ⟨q1,q2⟩=>?_
        subst q1 q2
        by_cases hz:z.2.2≠0
        ·rw [if_pos hz] at hx;cases hx
         unfold eN;rw [if_pos hz]
         exact brS (fun _=>⟨rfl,rfl⟩) (fun h=>absurd hz h)
        ·rw [if_neg hz] at hx
         unfold eN;rw [if_neg hz]
         refine brS (fun h=>absurd rfl h) (fun _=>call0 (z8v z.2.1 c (outN w z.1) hm3.c0 hm3.c1) ?_)
         unfold finN at hx
         split at hx
         ·split at hx
          ·rename_i hft;cases hx
           exact brS (fun h=>absurd (by unfold fitsE;rw [if_pos hft]) h) (fun _=>⟨rfl,rfl⟩)
          ·rename_i hft;cases hx
           exact brS (fun _=>⟨by unfold fitsE;rw [if_neg hft];rfl,rfl⟩) (fun h=>absurd (by unfold fitsE;rw [if_neg hft];decide) h)
         ·cases hx
       ·have hEE:=hE2 h5
        refine callX [1000,1004,1005,1006,1007] hEE rfl rfl (zb _) fun r o ⟨q1,q2⟩=>?_
        subst q1 q2
        by_cases hz:z.2.2≠0
        ·rw [if_pos hz] at hx;cases hx
         unfold eN;rw [if_pos hz]
         exact brS (fun _=>⟨rfl,rfl⟩) (fun h=>absurd hz h)
        ·rw [if_neg hz] at hx
         unfold eN;rw [if_neg hz]
         refine brS (fun h=>absurd rfl h) (fun _=>call0 (z8v z.2.1 c (outN w z.1) hm3.c0 hm3.c1) ?_)
         unfold finN at hx
         split at hx
         ·split at hx
          ·rename_i hft;cases hx
           exact brS (fun h=>absurd (by unfold fitsE;rw [if_pos hft]) h) (fun _=>⟨rfl,rfl⟩)
          ·rename_i hft;cases hx
           exact brS (fun _=>⟨by unfold fitsE;rw [if_neg hft];rfl,rfl⟩) (fun h=>absurd (by unfold fitsE;rw [if_neg hft];decide) h)
         ·cases hx
       ·have hEE:=hE3 h4 h5
        refine callX [1000,1004,1005,1006,1007] hEE rfl rfl (zb _) fun r o ⟨q1,q2⟩=>?_
        subst q1 q2
        by_cases hz:z.2.2≠0
        ·rw [if_pos hz] at hx;cases hx
         unfold eN;rw [if_pos hz]
         exact brS (fun _=>⟨rfl,rfl⟩) (fun h=>absurd hz h)
        ·rw [if_neg hz] at hx
         unfold eN;rw [if_neg hz]
         refine brS (fun h=>absurd rfl h) (fun _=>call0 (z8v z.2.1 c (outN w z.1) hm3.c0 hm3.c1) ?_)
         unfold finN at hx
         split at hx
         ·split at hx
          ·rename_i hft;cases hx
           exact brS (fun h=>absurd (by unfold fitsE;rw [if_pos hft]) h) (fun _=>⟨rfl,rfl⟩)
          ·rename_i hft;cases hx
           exact brS (fun _=>⟨by unfold fitsE;rw [if_neg hft];rfl,rfl⟩) (fun h=>absurd (by unfold fitsE;rw [if_neg hft];decide) h)
         ·cases hx
end
section
variable (ds : List Dcl) (pv ov : Nat) (pl : Option (List (ByteArray × Int)))
set_option maxHeartbeats 8000000 in
theorem zd8 (h:EnvG ds pl) (t:Trm) (ht:okW t=true) (hg:Gd t) (f c:Int) (hm:Mt f c) (g:Nat) (x:WR) (hx:normF ds c g t f=some x) :
  Con Tryz.prog 28 [.ptr 1004 0,tv t,mv f c] (envQ 1004 [] ds pv pl ov (odO ds)) (fun r o=>r=xwV c x/\o=envQ 1004 [] ds pv pl ov (odO ds)):=by
 have hk:=z7n g t f x.1 x.2.1 x.2.2 hg hx
 have hc:NmC ds pv ov pl c t f x:=zig ds pv ov pl h c g t f x hg hm hx
 refine cv [] [] [1004,1005,1006,1007] Tryz.func28 34 Tryz.ntmps28 rfl rfl fun cx hE=>call0 (zsb t ht) ?_
 refine brB (fun h=>by cases h) (fun _=>?_)
 refine callX [18,1004,1005,1006,1007] (Con.sw hc 1000 18) rfl rfl (zb _) fun r o ⟨r0,o0,⟨e1,e2⟩,e3,e4⟩=>?_
 subst e1 e2 e3 e4
 exact call0 (zat x.1 (z8k _ hk.1.w)) ⟨rfl,rfl⟩
end
theorem preR:EnvR preL:=by
 have h:(preL.all fun d=>decide (d.kind=3->0<=d.count))=true:=by kernel_rfl
 rw [List.all_eq_true] at h
 exact ⟨fun d hd=>zv2 (List.all_eq_true.1 zk4 d hd),fun d hd=>of_decide_eq_true (h d hd),by rw [zma];omega⟩
theorem AnT.on {t:Trm} (h:AnT t) {f c:Int} (hf:f<=2000) (hc:c<=100000):∃ g y,onF preL c (whF preL c g) t f=some y:=by
 have hb:(1073741824:Int)<=bdV 1099511627776 100000 f:=by unfold bdV;omega
 obtain ⟨g,y,h1,_⟩:=zsl (T:=1099511627776) (B:=1073741824) (M:=100000) (c:=c) (by omega) (by omega) (by omega) (by omega) (by omega) zeo hb ⟨z1i (by omega) t h.w,by have:=h.d;omega⟩
 exact ⟨g,y,h1⟩
end Go.Ab.YtpneaijfkefeaaaGreat
set_option linter.unusedSectionVars false
namespace Go.Ab
open Go Go.RowKit
def noM (_ _:Nat):Prop:=False
section
variable {H : Type} {enc : TypeId × Value → H} {P : Program} {w : World} {base : Nat} {spare : Nat → Bool} {held : Bool} {fuel T : Nat} {v : Value} {cs : List Value} {x : DataW H × List MemPlace}
theorem zuo {k:IntKind} (hu:P.underlying T=some (.int k)) (h:DataW.trod enc P w base spare held fuel T cs=some x):∃ n,cs=[.int k n]/\(Lit.int k n).wf=true:=by
 cases fuel with
 | zero=>simp [DataW.trod] at h
 | succ f =>
   unfold DataW.trod at h
   rw [hu] at h
   split at h<;>simp_all
   all_goals (obtain ⟨⟨h1,h2⟩,_⟩:=h;subst h1;exact ⟨_,rfl,h2⟩)
theorem zsn {α β:Type} {f:α->Option β}:∀ {l:List α} {r:List β},l.mapM f=some r->r.length=l.length/\∀ (i:Nat) (x:α),l[i]?=some x->∃ y,r[i]?=some y/\f x=some y
 | [],r,h=>by simp at h;subst h;simp
 | a::l,r,h=>by
   simp only [List.mapM_cons,Option.pure_def,Option.bind_eq_bind,Option.bind_eq_some_iff,Option.some.injEq] at h
   obtain ⟨y,h1,q,h2,rfl⟩:=h
   obtain ⟨h3,h4⟩:=zsn h2
   refine ⟨by simp [h3],fun i x hi=>?_⟩
   cases i with
   | zero=>simp at hi;subst hi;exact ⟨y,rfl,h1⟩
   | succ i=>simpa using h4 i x (by simpa using hi)
theorem zot {α:Type} {e sz:Nat} {R:α->Prop} {row:α->List PV} (hu:P.underlying T=some (.slice e)) (hsz:P.cellsOf e=sz) (h:DataW.trod enc P w base spare held (fuel+1) T cs=some x)
  (el:∀ cs y,DataW.trod enc P w base spare held fuel e cs=some y->∃ a,R a/\(row a).length=sz/\∀ (j:Nat) (z:PV),(row a)[j]?=some z->Rep w noM z (cs.getD j undef)) :
  ∃ (v:Value) (xs:List α),cs=[v]/\(∀ a∈xs,R a)/\xs.length<=maxLen/\Rep w noM (.sl sz (xs.map row)) v:=by
 subst hsz
 unfold DataW.trod at h
 rw [hu] at h
 split at h<;>try (simp_all;done)
 ·exact ⟨_,[],rfl,by simp,by simp,.nil⟩
 ·rename_i e' a len cap he
  cases he
  split at h
  ·rename_i hc
   obtain ⟨hb,hlc,hcm⟩:=hc
   simp only [Option.bind_eq_some_iff] at h
   obtain ⟨elems,h1,_⟩:=h
   obtain ⟨hl,hel⟩:=zsn h1
   have hget:∀ i,i<len->∃ cs y,w.cells? base (a.add (i * P.cellsOf e)) (P.cellsOf e)=some cs/\DataW.trod enc P w base spare held fuel e cs=some y:=fun i hi=>by
    obtain ⟨y,_,hy⟩:=hel i i (by simp [hi])
    obtain ⟨cs,h2,h3⟩:=Option.bind_eq_some_iff.1 hy
    exact ⟨cs,y,h2,h3⟩
   have hel2:∀ i,i<len->∃ cs a',w.cells? base (a.add (i * P.cellsOf e)) (P.cellsOf e)=some cs/\R a'/\(row a').length=P.cellsOf e/\∀ (j:Nat) (z:PV),(row a')[j]?=some z->Rep w noM z (cs.getD j undef):=fun i hi=>by
    obtain ⟨cs,y,h2,h3⟩:=hget i hi
    obtain ⟨a',h4,h5,h6⟩:=el cs y h3
    exact ⟨cs,a',h2,h4,h5,h6⟩
   have hmany:∀ m,m<=len->∃ xs:List α,xs.length=m/\(∀ a∈xs,R a)/\∀ (i:Nat) (a':α),xs[i]?=some a'->(row a').length=P.cellsOf e/\∃ cs,w.cells? base (a.add (i * P.cellsOf e)) (P.cellsOf e)=some cs/\∀ (j:Nat) (z:PV),(row a')[j]?=some z->Rep w noM z (cs.getD j undef):=by
    intro m
    induction m with
    | zero=>intro _;exact ⟨[],rfl,by simp,by simp⟩
    | succ m ih =>
      intro hm
      obtain ⟨xs,e1,e2,e3⟩:=ih (by omega)
      obtain ⟨cs,a',h2,h4,h5,h6⟩:=hel2 m (by omega)
      refine ⟨xs++[a'],by simp [e1],fun q hq=>?_,fun i q hq=>?_⟩
      ·rcases List.mem_append.1 hq with hq | hq
       ·exact e2 q hq
       ·simp at hq;subst hq;exact h4
      ·rcases Nat.lt_trichotomy i m with hi | hi | hi
       ·rw [List.getElem?_append_left (by omega)] at hq;exact e3 i q hq
       ·subst hi
        rw [List.getElem?_append_right (by omega)] at hq
        simp [e1] at hq;subst hq
        exact ⟨h5,cs,h2,h6⟩
       ·rw [List.getElem?_eq_none (by simp [e1];omega)] at hq;cases hq
   obtain ⟨xs,e1,e2,e3⟩:=hmany len (Nat.le_refl _)
   refine ⟨_,xs,rfl,e2,by omega,?_⟩
   have hcell:∀ (i:Nat) (rw':List PV) (j:Nat) (z:PV),(xs.map row)[i]?=some rw'->rw'[j]?=some z->∃ u,w.cell? (a.add (i * P.cellsOf e+j))=some u/\Rep w noM z u:=by
    intro i rw' j z hi hj
    simp only [List.getElem?_map,Option.map_eq_some_iff] at hi
    obtain ⟨a',ha,rfl⟩:=hi
    obtain ⟨g1,cs,g2,g3⟩:=e3 i a' ha
    have hjl:j<P.cellsOf e:=by have:=(List.getElem?_eq_some_iff.1 hj).1;omega
    obtain ⟨k1,k2,k3⟩:=World.cells?_some g2
    refine ⟨cs.getD j undef,?_,g3 j z hj⟩
    have:=k3 j hjl
    rw [Addr.add_add] at this
    rw [this]
    have hlt:j<cs.length:=by omega
    simp [List.getD_eq_getElem?_getD,hlt]
   have hlen:(xs.map row).length=len:=by simp [e1]
   have:=Rep.sl (w:=w) (M:=noM) (sz:=P.cellsOf e) (xs:=xs.map row) a cap (fun i j=>(w.cell? (a.add (i * P.cellsOf e+j))).getD undef) (by omega) (by simp only [maxLen] at hcm;omega)
    (fun i r hi=>by
     simp only [List.getElem?_map,Option.map_eq_some_iff] at hi
     obtain ⟨a',ha,rfl⟩:=hi
     exact (e3 i a' ha).1)
    (fun i r j z hi hj=>by obtain ⟨u,g1,_⟩:=hcell i r j z hi hj;rw [g1];rfl)
    (fun _ _ _ _ _ _ h=>h)
    (fun i r j z hi hj=>by obtain ⟨u,g1,g2⟩:=hcell i r j z hi hj;rw [g1];exact g2)
   rwa [hlen] at this
  ·cases h
end
structure LT (P:Program) (TL TLs:Nat) (TI:Nat):Prop where
 ti:P.underlying TI=some (.int .i64)
 ls:P.underlying TLs=some (.slice TL)
 sz:P.cellsOf TL=3
 szI:P.cellsOf TI=1
 szS:P.cellsOf TLs=1
 fs:∃ f0 f1 f2:Field,P.underlying TL=some (.struct #[f0,f1,f2])/\f0.type=TI/\f0.offset=0/\f1.type=TI/\f1.offset=1/\f2.type=TLs/\f2.offset=2
section
variable {H : Type} {enc : TypeId × Value → H} {P : Program} {w : World} {base : Nat} {spare : Nat → Bool} {held : Bool} {TL TLs TI : Nat}
structure TT (P:Program) (TR TTs TL TLs TI TS:Nat):Prop where
 l:LT P TL TLs TI
 st:P.underlying TS=some .string
 ls:P.underlying TTs=some (.slice TR)
 sz:P.cellsOf TR=5
 szT:P.cellsOf TTs=1
 szS:P.cellsOf TS=1
 fs:∃ f0 f1 f2 f3 f4:Field,P.underlying TR=some (.struct #[f0,f1,f2,f3,f4])/\f0.type=TI/\f0.offset=0/\f1.type=TI/\f1.offset=1/\f2.type=TS/\f2.offset=2/\f3.type=TLs/\f3.offset=3/\f4.type=TTs/\f4.offset=4
end
structure MT (P:Program) (TM TI:Nat):Prop where
 ti:P.underlying TI=some (.int .i64)
 sz:P.cellsOf TM=2
 szI:P.cellsOf TI=1
 fs:∃ f0 f1:Field,P.underlying TM=some (.struct #[f0,f1])/\f0.type=TI/\f0.offset=0/\f1.type=TI/\f1.offset=1
structure MT3 (P:Program) (TM TI:Nat):Prop where
 ti:P.underlying TI=some (.int .i64)
 sz:P.cellsOf TM=3
 szI:P.cellsOf TI=1
 fs:∃ f0 f1 f2:Field,P.underlying TM=some (.struct #[f0,f1,f2])/\f0.type=TI/\f0.offset=0/\f1.type=TI/\f1.offset=1/\f2.type=TI/\f2.offset=2
structure AT (P:Program) (TA TI n:Nat):Prop where
 ti:P.underlying TI=some (.int .i64)
 szI:P.cellsOf TI=1
 sz:P.cellsOf TA=n
 ar:P.underlying TA=some (.array n TI)
theorem AT.open {P:Program} {TA TI n:Nat} (lt:AT P TA TI n) {w:World} {r:Reach} {base:Nat} {v:Value} (h:Value.okWide P w r base TA v):∃ cs,v=.agg cs/\cs.size=P.cellsOf TA:=by
 simp only [Value.okWide,lt.ar] at h
 obtain ⟨cs,h1,h2,_⟩:=h
 exact ⟨cs,h1,h2⟩
theorem zyx {w:World} {own:Nat->Value} {x:PV} {v:Value} (h:Rep w noM x v):RepA w (Mu noM own []) own (hwOf []) (.p x) v :=
 .p (h.stp ⟨rfl,rfl,rfl,Nat.le_refl _,fun _ _ _ _ h=>h,fun b i h=>(by rcases h with h | ⟨k,o,h,_⟩;exact .inl h;cases h),fun _ cs _ h=>⟨cs,h⟩⟩)
theorem zxl {P:Program} {f:Nat} {args:List AV} {b:Bool} (c:PCon P f args (.p (B b))) (w:World) (vals:List Value) (h:z5t w (Mu noM (fun _=>undef) []) (fun _=>undef) (hwOf []) args vals) :
  Calls P f vals.toArray w fun e w'=>e=.returned (.bool b)/\Below w.heap.size w w':=by
 refine (c w noM (fun _=>undef) vals ⟨fun _ _ h=>(by cases h),(by simp),fun _ _ _ _ h=>(by cases h),fun _ _ _ h=>(by cases h),fun _ _ h=>h.elim⟩ h).mono ?_
 rintro e w' ⟨r,o,own',v,rfl,⟨rfl,rfl⟩,h2,h3,h4,h5,h6,h7⟩
 have hv:v=.bool b:=by cases h3 with | p h=>cases h;rfl
 subst hv
 exact ⟨rfl,h4.os,h4.tape,h4.output,h4.size,fun k hk=>h7.keep k hk (fun _ _ h=>by cases h)⟩
theorem zup {w:World} {M:Nat->Nat->Prop} {own:Nat->Value} {hw:Nat->Option Nat}:z5t w M own hw [] []:=⟨rfl,fun j x h=>by simp at h⟩
theorem zso {w:World} {M:Nat->Nat->Prop} {own:Nat->Value} {hw:Nat->Option Nat} {x:AV} {v:Value} {xs:List AV} {vs:List Value} (h:RepA w M own hw x v) (r:z5t w M own hw xs vs):z5t w M own hw (x::xs) (v::vs) :=
 ⟨by simp [r.1],fun j y hj=>by
  cases j with
  | zero=>simp at hj;subst hj;exact h
  | succ j=>simpa using r.2 j y (by simpa using hj)⟩
section
variable {H : Type} {enc : TypeId × Value → H} {P : Program} {w : World} {base : Nat} {spare : Nat → Bool} {held : Bool} {fuel T : Nat} {v : Value} {cs : List Value} {x : DataW H × List MemPlace}
end
section
variable {H : Type} {enc : TypeId × Value → H} {P : Program} {w : World} {base : Nat} {spare : Nat → Bool} {held : Bool} {TL TLs TI TR TTs TS : Nat}
end
structure CT (P:Program) (TC TCs TR TTs TL TLs TI TS:Nat):Prop where
 t:TT P TR TTs TL TLs TI TS
 ls:P.underlying TCs=some (.slice TC)
 sz:P.cellsOf TC=6
 szC:P.cellsOf TCs=1
 b1:P.bytesOf TL=40
 b2:P.bytesOf TR=80
 fs:∃ f0 f1:Field,P.underlying TC=some (.struct #[f0,f1])/\f0.type=TS/\f0.offset=0/\f1.type=TR/\f1.offset=1
structure DT (P:Program) (TD TDs TC TCs TR TTs TL TLs TI TS:Nat):Prop where
 c:CT P TC TCs TR TTs TL TLs TI TS
 ls:P.underlying TDs=some (.slice TD)
 sz:P.cellsOf TD=16
 fs:∃ f0 f1 f2 f3 f4 f5 f6 f7:Field,P.underlying TD=some (.struct #[f0,f1,f2,f3,f4,f5,f6,f7])/\(f0.type=TI/\f0.offset=0)/\(f1.type=TI/\f1.offset=1)/\(f2.type=TI/\f2.offset=2)/\(f3.type=TS/\f3.offset=3)/\(f4.type=TS/\f4.offset=4)/\(f5.type=TR/\f5.offset=5)/\(f6.type=TR/\f6.offset=10)/\(f7.type=TCs/\f7.offset=15)
section
variable {H : Type} {enc : TypeId × Value → H} {P : Program} {w : World} {base : Nat} {spare : Nat → Bool} {held : Bool} {TL TLs TI TR TTs TS TC TCs TD TDs : Nat}
end
end Go.Ab
namespace Go.Ab.YtpneaijfkefeaaaGreat
open Go Go.RowKit Go.Ab Go.Proofs
structure AskD (d:Dcl):Prop where
 e:okE d=true
 s:Go.Ab.okD d=true
 n:narD d=true
 nm:d.name.size<=60
 k:0<=d.count
 v:Wd 1073741824 100000 d.value
 c:∀ k∈d.ctors,Wd 1073741824 100000 k.ty
structure Ask (l:List Dcl):Prop where
 b:BothOK l
 g:∀ pl,EnP [] (bothF [] l) pl->EnvG (bothF [] l) pl
 r:EnvR (bothF [] l)
 w:EnvW 1073741824 (bothF [] l)
end Go.Ab.YtpneaijfkefeaaaGreat
namespace Go.Ab
open Go Go.RowKit
theorem Wd.bin {b:Int} (hb:0<=b) {m:Nat} {k:Int} (hk:k=4\/k=5) {x t:Trm} (hx:Wd b m x) (ht:Wd b m t):Wd b (m+1) (mkB k x t):=by
 refine ⟨z8j ⟨by rcases hk with rfl | rfl<;>simp [mkB,argF],by simp [mkB],by simpa [mkB] using hb,by simp [mkB],by simp [mkB],by rcases hk with rfl | rfl<;>simp [mkB],by simp [mkB],by simp [mkB],by simp [mkB],fun y hy=>?_⟩,by have:=hx.d;have:=ht.d;simp only [mkB,dpT,dpTs];omega⟩
 simp only [mkB,List.mem_cons,List.not_mem_nil,or_false] at hy
 rcases hy with rfl | rfl
 ·exact hx.w
 ·exact ht.w
theorem zT_wd {b:Int} (hb:0<=b):Wd b 1 zT:=⟨by simp [zT,wfT,shpF,wfTs,argF];omega,by simp [zT,dpT,dpTs]⟩
theorem zxm {b:Int} (hb:0<=b) {m:Nat} (hm:1<=m) {w:Trm} (hw:Wd b m w) {l:List Trm} (hl:∀ a∈l,Wd b m a) (hlen:l.length<=m):Wd (b+m) (m+m+1) (outN w l):=by
 unfold outN
 split
 ·rename_i hk
  unfold outL
  have h0:=Wd.getD hb hm hl 0
  have h1:=Wd.getD hb hm hl 1
  split
  ·have h2:=Wd.getD hb hm (fun a h=>h1.sub h) 0
   exact (h2.opn (k:=1) (vs:=[zT]) fun v hv=>by simp at hv;subst hv;exact zT_wd hb).mono (Int.le_refl _) (by omega)
  ·exact (Wd.bin hb hk h0 h1).mono (by omega) (by omega)
 ·exact (Wd.app hb hw.head hl hlen).mono (by omega) (by omega)
theorem zxn {b:Int} {m:Nat} (hm:3<=m) {w:Trm} (hw:Wd b m w):(∀ a∈prtN w,Wd b m a)/\(prtN w).length<=m:=by
 unfold prtN
 split
 ·rename_i hk
  have ha:=(zh hw.w).args
  refine ⟨fun a h=>hw.sub h,?_⟩
  unfold argF at ha
  rcases hk with hk | hk<;>simp [hk] at ha<;>omega
 ·exact hw.args
section
variable {B : Int} {M : Nat} {c : Int} (hB : 0 ≤ B) (hM : M ≤ 10000000) (h1 : 3 ≤ M) (hc : c ≤ M)
include hB hM h1 hc
theorem zmt {ds:List Dcl} (hE:EnvW B ds):∀ (n:Nat) (f:Int),f.toNat<=n->∀ (T:Int) (t:Trm),T<=1099511627776->B<=bdV T M f->Wd (bdV T M f) M t->∃ g x,normF ds c g t f=some x/\(x.2.2=0->Wd (bdV T M x.2.1) M x.1)/\x.2.1<=f:=by
 intro n
 induction n with
 | zero =>
   intro f hf T t _ _ _
   exact ⟨1,(zT,f,11),by simp only [normF];rw [if_pos (by omega)],fun h=>by simp at h,Int.le_refl _⟩
 | succ n IH =>
   intro f hf T t hT hb hw
   by_cases hf0:f<=0
   ·exact ⟨1,(zT,f,11),by simp only [normF];rw [if_pos hf0],fun h=>by simp at h,Int.le_refl _⟩
   have hst:=zmm (T:=T) (M:=M) (f:=f) (by omega)
   have hT':∀ x,bdV (T-(200000+M)) M x=bdV T M x-(200000+M):=fun x=>by unfold bdV;omega
   obtain ⟨g1,⟨w,f1,e⟩,k1,k2,k3⟩:=zmp (T:=T-(200000+M)) (B:=B) (M:=M) (c:=c) (by omega) hB hM (by omega) hc hE (f-1).toNat (f-1) (Nat.le_refl _) (dpT t) t (Nat.le_refl _) (by rw [hT'];omega) (by rw [hT',hst];exact hw.mono (by omega) (Nat.le_refl _))
   simp only at k2 k3
   by_cases he:e≠0
   ·exact ⟨g1+1,(zT,f1,e),by simp only [normF];rw [if_neg hf0,k1];simp only;rw [if_pos he],fun h=>absurd h he,by simp only;omega⟩
   have he0:e=0:=Classical.byContradiction fun h=>he h
   have hww:=k2 he0
   have hbm:∀ {x y:Int},x<=y->bdV (T-(200000+M)) M y<=bdV (T-(200000+M)) M x:=fun h=>zg2 h
   have hb1:B<=bdV (T-(200000+M)) M f1:=by
    have:=hbm k3
    rw [hT' (f-1)] at this;omega
   have lst:∀ (l acc:List Trm) (x:Int),x<=f1->(∀ a∈l,Wd (bdV (T-(200000+M)) M x) M a)->(∀ a∈acc,Wd (bdV (T-(200000+M)) M x) M a)->∃ g y,nmsF (normF ds c g) l acc x=some y/\(y.2.2=0->(∀ a∈y.1,Wd (bdV (T-(200000+M)) M y.2.1) M a)/\y.1.length=acc.length+l.length)/\y.2.1<=x:=by
    intro l
    induction l with
    | nil=>intro acc x hx _ ha;exact ⟨0,(acc,x,0),rfl,fun _=>⟨ha,rfl⟩,Int.le_refl _⟩
    | cons a r ih =>
      intro acc x hx hl ha
      have hbx:=hbm hx
      obtain ⟨ga,⟨u,x1,e1⟩,q1,q2,q3⟩:=IH x (by omega) (T-(200000+M)) a (by omega) (by omega) (hl a (by simp))
      simp only at q2 q3
      by_cases hne:e1≠0
      ·exact ⟨ga,([],x1,e1),by simp only [nmsF];rw [q1];simp only;rw [if_pos hne],fun h=>absurd h hne,q3⟩
      ·have h0:e1=0:=Classical.byContradiction fun h=>hne h
       have hm1:=hbm q3
       obtain ⟨gb,y,p1,p2,p3⟩:=ih (acc++[u]) x1 (by omega) (fun b hb=>(hl b (by simp [hb])).mono hm1 (Nat.le_refl _)) (fun b hb=>by
        rcases List.mem_append.1 hb with hb | hb
        ·exact (ha b hb).mono hm1 (Nat.le_refl _)
        ·simp at hb;subst hb;exact q2 h0)
       refine ⟨max ga gb,y,?_,fun h=>⟨(p2 h).1,by rw [(p2 h).2];simp;omega⟩,by omega⟩
       simp only [nmsF]
       rw [z6w ga (max ga gb) (by omega) _ _ _ q1]
       simp only
       rw [if_neg hne]
       exact z9e (fun t f x hx=>z6w gb (max ga gb) (by omega) t f x hx) _ _ _ _ p1
   have hpr:=zxn h1 hww
   obtain ⟨g2,⟨l,f2,e2⟩,p1,p2,p3⟩:=lst (prtN w) [] f1 (Int.le_refl _) hpr.1 (fun a h=>by cases h)
   simp only at p2 p3
   have step:∀ z,(if e2≠0 then some (zT,f2,e2) else finN c f2 (outN w l))=some z->normF ds c (max g1 g2+1) t f=some z:=fun z hz=>by
    simp only [normF]
    rw [if_neg hf0,z2c g1 (max g1 g2) (by omega) _ _ _ k1]
    simp only
    rw [if_neg he,z9e (fun t f x hx=>z6w g2 (max g1 g2) (by omega) t f x hx) _ _ _ _ p1]
    exact hz
   by_cases hne:e2≠0
   ·exact ⟨_,(zT,f2,e2),step _ (by rw [if_pos hne]),fun h=>absurd h hne,by simp only;omega⟩
   have h0:e2=0:=Classical.byContradiction fun h=>hne h
   obtain ⟨p4,p5⟩:=p2 h0
   have hb2:=hbm p3
   have hlen:l.length<=M:=by rw [p5];simpa using hpr.2
   have hbw:=hbm (Int.le_trans p3 (Int.le_refl f1))
   have ho:=zxm (b:=bdV (T-(200000+M)) M f2) (by omega) (by omega) (hww.mono hb2 (Nat.le_refl _)) p4 hlen
   have hl2:=zsd (T-(200000+M)) M f2
   have hgd:gdT (outN w l)=true:=gdT_iff.2 ⟨z1i (by omega) _ ho.w,by have:=ho.d;omega⟩
   by_cases hft:fitsT c (outN w l)=true
   ·refine ⟨_,(outN w l,f2,0),step _ (by rw [if_neg hne];unfold finN;rw [if_pos hgd,if_pos hft]),fun _=>⟨z1i ?_ _ ho.w,?_⟩,by simp only;omega⟩
    ·rw [hT'];simp only;omega
    ·have hs:=zcf (outN w l)
     simp only [fitsT,Bool.and_eq_true,decide_eq_true_eq] at hft
     simp only;omega
   ·exact ⟨_,(zT,f2,12),step _ (by rw [if_neg hne];unfold finN;rw [if_pos hgd,if_neg hft]),fun h=>by simp at h,by simp only;omega⟩
end
end Go.Ab
namespace Go.Ab.YtpneaijfkefeaaaGreat
open Go Go.RowKit Go.Ab Go.Proofs
def ngT:Trm:=trmOf (⟨#[40,40,97,100,100,32,40,115,117,99,99,32,122,101,114,111,41,41,32,40,115,117,99,99,32,122,101,114,111,41,41]⟩:ByteArray)
def ngE:Trm:=trmOf (⟨#[92,78,97,116,46,32,40,115,117,99,99,32,35,48,41]⟩:ByteArray)
def ngR:Trm:=trmOf (⟨#[40,115,117,99,99,32,40,115,117,99,99,32,122,101,114,111,41,41]⟩:ByteArray)
theorem ng_tx:(txtOK (⟨#[40,40,97,100,100,32,40,115,117,99,99,32,122,101,114,111,41,41,32,40,115,117,99,99,32,122,101,114,111,41,41]⟩:ByteArray)&&(txtOK (⟨#[92,78,97,116,46,32,40,115,117,99,99,32,35,48,41]⟩:ByteArray)&&txtOK (⟨#[40,115,117,99,99,32,40,115,117,99,99,32,122,101,114,111,41,41]⟩:ByteArray)))=true:=by kernel_rfl
theorem ng_gd:((gdT ngT&&okW ngT)&&(gdT ngE&&okW ngE))=true:=by kernel_rfl
def ngX:WR:=(normF preL 100 60 ngT 60).getD (zT,0,99)
def ngY:WR:=(normF preL 100 60 ngE 60).getD (zT,0,99)
theorem zuq:(normF preL 100 60 ngT 60).isSome=true:=by kernel_rfl
theorem zur:(normF preL 100 60 ngE 60).isSome=true:=by kernel_rfl
theorem zyy:normF preL 100 60 ngT 60=some ngX:=by
 have h:=zuq
 unfold ngX
 cases hw:normF preL 100 60 ngT 60 with
 | none=>rw [hw] at h;cases h
 | some x=>rfl
theorem zyz:normF preL 100 60 ngE 60=some ngY:=by
 have h:=zur
 unfold ngY
 cases hw:normF preL 100 60 ngE 60 with
 | none=>rw [hw] at h;cases h
 | some x=>rfl
theorem ng_ok:(decide (ngX.2.2=0)&&(decide (ngY.2.2=0)&&(eqT ngX.1 ngR&&decide (ngY.1.name=(⟨#[115,117,99,99]⟩:ByteArray)))))=true:=by kernel_rfl
set_option maxHeartbeats 4000000 in
theorem zou:PCon Tryz.prog 17 [] (.p (B true)):=by
 have h1:=ng_tx;have h2:=ng_gd;have h3:=ng_ok
 simp only [Bool.and_eq_true,decide_eq_true_eq] at h1 h2 h3
 obtain ⟨k1,k2,k3,k4⟩:=h3
 have hx:=zyy
 have hy:=zyz
 generalize ngX=X at *
 generalize ngY=Y at *
 obtain ⟨u,f1,e1⟩:=X
 obtain ⟨v,f2,e2⟩:=Y
 simp only at k1 k2 k3 k4
 subst k1 k2
 refine cv [] [] [] Tryz.func17 45 Tryz.ntmps17 rfl rfl fun cx hE=>callX [] zmb rfl rfl .nil fun r o ⟨e1,pv,pl,ov,hE1,e2⟩=>?_
 subst e1 e2
 have hG:=preG hE1
 refine call0 (z1l _ h1.1) (callX [1004,1005,1006,1007] (zd8 preL pv ov pl hG ngT h2.1.2 (gdT_iff.1 h2.1.1) 60 100 ⟨by omega,by omega,by omega,by omega⟩ 60 _ hx) rfl rfl (zb _) fun r o ⟨e1,e2⟩=>?_)
 subst e1 e2
 refine call0 (z1l _ h1.2.1) (callX [1004,1005,1006,1007] (zd8 preL pv ov pl hG ngE h2.2.2 (gdT_iff.1 h2.2.1) 60 100 ⟨by omega,by omega,by omega,by omega⟩ 60 _ hy) rfl rfl (zb _) fun r o ⟨e1,e2⟩=>?_)
 subst e1 e2
 refine brY rfl (brY rfl (call0 (z1l _ h1.2.2) (call0 (z5n u ngR) (brB (fun hq=>?_) (fun hq=>?_)))))
 ·exact ⟨B_eq (by rw [k4];rfl),rfl⟩
 ·rw [k3] at hq;cases hq
theorem AnT.nm {t:Trm} (h:AnT t) {f c:Int} (hf:f<=2000) (hc:c<=100000):∃ g x,normF preL c g t f=some x:=by
 have hb:(1073741824:Int)<=bdV 1099511627776 100000 f:=by unfold bdV;omega
 obtain ⟨g,x,h1,_⟩:=zmt (B:=1073741824) (M:=100000) (c:=c) (by omega) (by omega) (by omega) (by omega) zeo f.toNat f (Nat.le_refl _) 1099511627776 t (by omega) hb ⟨z1i (by omega) t h.w,by have:=h.d;omega⟩
 exact ⟨g,x,h1⟩
theorem zsp {c f:Int} {u v:Trm} {f':Int} (h:finN c f u=some (v,f',0)):fitsT c v=true:=by
 unfold finN at h
 split at h
 ·split at h
  ·rename_i hf;cases h;exact hf
  ·cases h
 ·cases h
theorem zov {ds:List Dcl} {c:Int} {g:Nat} {t:Trm} {f:Int} {u:Trm} {f':Int} (h:normF ds c g t f=some (u,f',0)):fitsT c u=true:=by
 cases g with
 | zero=>cases h
 | succ g =>
   simp only [normF] at h
   split at h
   ·cases h
   ·split at h
    ·cases h
    ·split at h
     ·rename_i he;cases h;exact absurd rfl he
     ·split at h
      ·cases h
      ·split at h
       ·rename_i he;cases h;exact absurd rfl he
       ·exact zsp h
def Ev (t u:Trm):Prop:=∃ (c:Int) (g:Nat) (f f':Int),whF preL c g t f=some (u,f',0)
theorem Ev.one {t u v:Trm} (h:Ev t u) (k:Ev t v):u=v:=by
 obtain ⟨c1,g1,f1,e1,h1⟩:=h
 obtain ⟨c2,g2,f2,e2,h2⟩:=k
 have k1:=zaz (c':=max c1 c2) (by omega) (a:=max f1 f2-f1) (by omega) g1 t f1 u e1 h1
 have k2:=zaz (c':=max c1 c2) (by omega) (a:=max f1 f2-f2) (by omega) g2 t f2 v e2 h2
 rw [show f1+(max f1 f2-f1)=max f1 f2 by omega] at k1
 rw [show f2+(max f1 f2-f2)=max f1 f2 by omega] at k2
 exact congrArg Prod.fst (zxi k1 k2)
def Det (t v:Trm):Prop:=∀ (c:Int) (g:Nat) (f:Int) (y:OR),onF preL c (whF preL c g) t f=some y->y.2.2.2=0->y.2.1=true/\y.1=v
theorem Ev.step {t u v:Trm} (hd:Det t v) (h:Ev t u):Ev v u:=by
 obtain ⟨c,g,f,f',h⟩:=h
 cases g with
 | zero=>cases h
 | succ g =>
   simp only [whF] at h
   split at h
   ·cases h
   ·rename_i u1 did f1 e ho
    have:=hd _ _ _ _ ho
    split at h
    ·rename_i he;cases h;exact absurd rfl he
    ·rename_i he
     have he0:e=0:=Classical.byContradiction fun hn=>he hn
     obtain ⟨d1,d2⟩:=this he0
     simp only at d1 d2
     subst d1 d2
     exact ⟨c,g,f1,f',by simpa using h⟩
def Num:Nat->Trm->Prop
 | 0,t=>∃ u,Ev t u/\(headT u).name=cZero.name/\argsT u=[]
 | n+1,t=>∃ u a,Ev t u/\(headT u).name=cSucc.name/\argsT u=[a]/\Num n a
theorem zs_ne:¬ cZero.name=cSucc.name:=by decide +kernel
theorem Num.one:∀ {n m:Nat} {t:Trm},Num n t->Num m t->n=m
 | 0,0,_,_,_=>rfl
 | 0,m+1,t,⟨u,h1,h2,h3⟩,⟨v,a,k1,k2,k3,k4⟩=>by rw [h1.one k1,k2] at h2;exact absurd h2.symm zs_ne
 | n+1,0,t,⟨v,a,k1,k2,k3,k4⟩,⟨u,h1,h2,h3⟩=>by rw [h1.one k1,k2] at h2;exact absurd h2.symm zs_ne
 | n+1,m+1,t,⟨u,a,h1,h2,h3,h4⟩,⟨v,b,k1,k2,k3,k4⟩=>by
   rw [h1.one k1,k3] at h3
   simp only [List.cons.injEq,and_true] at h3
   subst h3
   rw [Num.one h4 k4]
theorem Num.ev {s t:Trm} (h:∀ u,Ev s u->Ev t u):∀ {n:Nat},Num n s->Num n t
 | 0,⟨u,h1,h2⟩=>⟨u,h u h1,h2⟩
 | n+1,⟨u,a,h1,h2⟩=>⟨u,a,h u h1,h2⟩
theorem Ev.gd {t u:Trm} (ht:Gd t) (h:Ev t u):Gd u:=by
 obtain ⟨c,g,f,f',h⟩:=h
 exact (z2a g t f u f' 0 ht h).1
theorem zxo {m:Trm} (h:Gd m) {s:ByteArray} (hn:(headT m).name=s) (hs:¬ s=⟨#[]⟩):(headT m).kind=2:=Classical.byContradiction fun hk=>hs (by rw [<- hn];exact (zh h.head.w).name hk)
def CntK (v:Int):Nat->Trm->Int->Int->Prop
 | 0,_,_,_=>False
 | k+1,t,f,n=>∃ g u f' e,whF preL 20000 g t f=some (u,f',e)/\((e≠0/\v=-1)\/(e=0/\(headT u).name=cZero.name/\argsT u=[]/\v=n) \/
   (e=0/\¬ ((headT u).name=cZero.name/\argsT u=[])/\((headT u).name≠cSucc.name\/(argsT u).length≠1)/\v=-1) \/
   (e=0/\(headT u).name=cSucc.name/\∃ a,argsT u=[a]/\CntK v k a f' (n+1)))
theorem CntK.num {v:Int}:∀ {k:Nat} {t:Trm} {f n:Int},CntK v k t f n->v=-1\/∃ m:Nat,v=n+m/\Num m t
 | k + 1,t,f,n,⟨g,u,f',e,hw,h⟩=>by
   rcases h with h | h | h | h
   ·exact .inl h.2
   ·obtain ⟨rfl,h1,h2,h3⟩:=h
    exact .inr ⟨0,by omega,u,⟨_,g,f,f',hw⟩,h1,h2⟩
   ·exact .inl h.2.2.2
   ·obtain ⟨rfl,h1,a,h2,h3⟩:=h
    rcases CntK.num h3 with h4 | ⟨m,h4,h5⟩
    ·exact .inl h4
    ·exact .inr ⟨m+1,by omega,u,a,⟨_,g,f,f',hw⟩,h1,h2,h5⟩
theorem CntK.le {v:Int}:∀ {k:Nat} {t:Trm} {f n:Int},CntK v k t f n->v<=n+k\/v=-1
 | k + 1,t,f,n,⟨g,u,f',e,hw,h⟩=>by
   rcases h with h | h | h | h
   ·exact .inr h.2
   ·exact .inl (by omega)
   ·exact .inr h.2.2.2
   ·obtain ⟨_,_,a,_,h3⟩:=h
    rcases CntK.le h3 with h4 | h4
    ·exact .inl (by omega)
    ·exact .inr h4
theorem zsq (l:List Int):Con Tryz.prog 21 [.p (.sl 1 (byts l))] [] (fun r o=>r=.ptr 905 0/\o=[(905,.ce 96 [.p (.sl 1 (byts l)),.p (I 0)])]) :=
 (zul l).at1 5 905 rfl rfl rfl rfl
def natP (l:List Int) (v:Int):Trm:=(natF l (2 * l.length+1) v 0).1
structure NatP (l:List Int) (t:Trm):Prop where
 w:wfT 1000000 t=true
 d:dpT t<=12 * l.length+20
 s:sizT t<=25 * l.length+1
theorem zxp (l:List Int) (hl:l.length<=1000) (v:Int) (h0:0<=v) (h1:v<=1000):NatP l (natP l v):=by
 have m:=(zkc l (2 * l.length+1)).1 v 0 h0 (by omega) (by omega) (by omega)
 exact ⟨m.w,by have:=m.d;unfold natP;omega,by have:=m.s;have:=m.a1;unfold natP;omega⟩
theorem zus (l:List Int) (hb:okB l) (hl:l.length<=1000) (v:Int) (h0:0<=v) (h1:v<=1000):Con Tryz.prog 31 [.ptr 1000 0,.p (I v)] (pkO l 0) (fun r o=>r=tv (natP l v)/\o=pkO l (natF l (2 * l.length+1) v 0).2) :=
 (zsk l hb (by omega) (2 * l.length+1)).1 v 0 h0 (by omega) (by omega) (by omega) (by omega)
theorem zz0 {t:Trm} {f:Int} (hb:1073741824<=bdV 1099511627776 100000 f) (ht:Wd (bdV 1099511627776 100000 f) 100000 t) {g:Nat} {u:Trm} {f':Int} (h:whF preL 20000 g t f=some (u,f',0)):u=t\/(0<=f'/\f'<f):=by
 cases g with
 | zero=>cases h
 | succ g =>
   have hl:=zsd 1099511627776 100000 f
   have hg:Gd t:=⟨z1i hl t ht.w,by have:=ht.d;omega⟩
   obtain ⟨g',y,h1,h2,h3,h4⟩:=zsl (T:=1099511627776) (B:=1073741824) (M:=100000) (c:=20000) (by omega) (by omega) (by omega) (by omega) (by omega) zeo hb ht
   simp only [whF] at h
   split at h
   ·cases h
   ·rename_i u1 did f1 e ho
    have hy:=zxj ho h1
    subst hy
    have hk:=z9c (fun t f u f' e=>z2a g t f u f' e) hg ho
    simp only at h4
    split at h
    ·rename_i he;cases h;exact absurd rfl he
    ·rename_i he
     have he0:e=0:=Classical.byContradiction fun hn=>he hn
     subst he0
     split at h
     ·rename_i hd
      obtain ⟨_,k1,k2⟩:=h4 hd
      have:=(z2a g u1 f1 u f' 0 hk.1 h).2
      unfold Fu at this
      exact .inr (by omega)
     ·rename_i hd
      cases h
      have hdf:did=false:=by cases did;rfl;exact absurd rfl hd
      subst hdf
      exact .inl (zg1 ho)
theorem zz1 (K:Nat) (hK:100001<=K) (N:Nat):∀ (t:Trm) (f n:Int),f.toNat * K+dpT t<=N->f<=4000->Wd (bdV 1099511627776 100000 f) 100000 t->∃ k v,k<=N+1/\CntK v k t f n:=by
 induction N with
 | zero=>intro t f n h _ _;have:=z4t t;omega
 | succ N ih =>
   intro t f n h hf hw
   have hb:(1073741824:Int)<=bdV 1099511627776 100000 f:=by unfold bdV;omega
   obtain ⟨g,⟨u,f',e⟩,h1,h2,h3⟩:=zmp (T:=1099511627776) (B:=1073741824) (M:=100000) (c:=20000) (by omega) (by omega) (by omega) (by omega) (by omega) zeo f.toNat f (Nat.le_refl _) (dpT t) t (Nat.le_refl _) hb hw
   simp only at h2 h3
   by_cases he:e≠0
   ·exact ⟨1,-1,by omega,g,u,f',e,h1,.inl ⟨he,rfl⟩⟩
   ·have he0:e=0:=Classical.byContradiction fun hn=>he hn
    subst he0
    by_cases hz:(headT u).name=cZero.name/\argsT u=[]
    ·exact ⟨1,n,by omega,g,u,f',0,h1,.inr (.inl ⟨rfl,hz.1,hz.2,rfl⟩)⟩
    ·by_cases hs:(headT u).name≠cSucc.name\/(argsT u).length≠1
     ·exact ⟨1,-1,by omega,g,u,f',0,h1,.inr (.inr (.inl ⟨rfl,hz,hs,rfl⟩))⟩
     ·have hn:(headT u).name=cSucc.name:=Classical.byContradiction fun hn=>hs (.inl hn)
      have hl:(argsT u).length=1:=Classical.byContradiction fun hn=>hs (.inr hn)
      obtain ⟨a,ha⟩:∃ a,argsT u=[a]:=by
       match argsT u,hl with
       | [a],_=>exact ⟨a,rfl⟩
      have hwu:=h2 rfl
      have ham:a∈argsT u:=by rw [ha];simp
      have had:=zmn ham
      have hud:=hwu.d
      have hm:f'.toNat * K+dpT a<=N:=by
       rcases zz0 hb hw h1 with hd | hd
       ·subst hd
        have hx:=Nat.mul_le_mul_right K (show f'.toNat<=f.toNat by omega)
        generalize f'.toNat * K=A at *
        generalize f.toNat * K=B at *
        omega
       ·have hx:=Nat.mul_le_mul_right K (show f'.toNat+1<=f.toNat by omega)
        rw [Nat.add_mul,Nat.one_mul] at hx
        generalize f'.toNat * K=A at *
        generalize f.toNat * K=B at *
        omega
      obtain ⟨k,v,g1,g2⟩:=ih a f' (n+1) hm (by omega) (hwu.args.1 a ham)
      exact ⟨k+1,v,by omega,g,u,f',0,h1,.inr (.inr (.inr ⟨rfl,hn,a,ha,g2⟩))⟩
theorem zxq:cZero.name=(⟨#[122,101,114,111]⟩:ByteArray):=by kernel_rfl
theorem zxr:cSucc.name=(⟨#[115,117,99,99]⟩:ByteArray):=by kernel_rfl
set_option maxHeartbeats 8000000 in
theorem zsr (v:Int) (k:Nat) (hk:k<=1000000000) (t:Trm) (hg:Gd t) (hc:CntK v k t 4000 0):Con Tryz.prog 32 [.ptr 1000 0,tv t] (refE 1000 preL 0) (fun r o=>r=.p (I v)/\o=refE 1000 preL 0):=by
 refine cv [] [1000008] [1000,1001] Tryz.func32 51 Tryz.ntmps32 rfl rfl fun cx hE=>?_
 refine loop4 (fun (k:Nat) (u:Trm) (f n:Int)=>[(5,.p (I n))]) (fun k u f n=>[(3,ceT u),(6,.ce 40 [.p (I f),.p (I 20000)])]) (fun k u f n=>CntK v k u f n/\Gd u/\Mt f 20000/\0<=n/\n+k<=1000000000) (fun k u f n=>k) k t 4000 0 [5] [3,6] hE rfl rfl rfl ⟨Sub.refl _,rfl,rfl,rfl,rfl,trivial⟩ ⟨hc,hg,⟨by omega,by omega,by omega,by omega⟩,by omega,by omega⟩ fun k u f n ⟨i1,i2,i3,i4,i5⟩=>?_
 cases k with
 | zero=>exact i1.elim
 | succ k =>
   obtain ⟨g,w,f',e,hw,h⟩:=i1
   have hkk:=z2a g u f w f' e i2 hw
   refine callX [1000,1001] (zsi preL 0 preR 20000 g u f _ i2 i3 hw) rfl rfl (zb _) fun r o ⟨q1,q2⟩=>?_
   subst q1 q2
   have hwd:=hkk.1.d
   have hal:=ze (argsT w)
   refine brS (fun he=>?_) (fun he=>?_)
   ·simp only at he
    have:v=-1:=by
     rcases h with h | h | h | h
     ·exact h.2
     ·exact absurd h.1 he
     ·exact absurd h.1 he
     ·exact absurd h.1 he
    subst this
    exact ⟨rfl,rfl⟩
   ·simp only at he
    refine call0 (z3b 1099511627776 (by omega) w hkk.1.w (by omega)) ?_
    have hodd:¬ ((headT w).name=cZero.name/\argsT w=[])->((headT w).name≠cSucc.name\/(argsT w).length≠1->v=-1):=fun hz hs=>by
     rcases h with h | h | h | h
     ·exact absurd h.1 he
     ·exact absurd ⟨h.2.1,h.2.2.1⟩ hz
     ·exact h.2.2.2
     ·obtain ⟨_,h1,a,h2,_⟩:=h
      rcases hs with hs | hs
      ·exact absurd h1 hs
      ·rw [h2] at hs;exact absurd rfl hs
    have hzero:(headT w).name=cZero.name->argsT w=[]->v=n:=fun h1 h2=>by
     rcases h with h | h | h | h
     ·exact absurd h.1 he
     ·exact h.2.2.2
     ·exact absurd ⟨h1,h2⟩ h.2.1
     ·rw [h.2.1] at h1;exact absurd h1.symm zs_ne
    have hnext:(headT w).name=cSucc.name->(argsT w).length=1->∃ a,argsT w=[a]/\CntK v k a f' (n+1):=fun h1 h2=>by
     rcases h with h | h | h | h
     ·exact absurd h.1 he
     ·rw [h.2.1] at h1;exact absurd h1 zs_ne
     ·rcases h.2.2.1 with hs | hs
      ·exact absurd h1 hs
      ·exact absurd h2 hs
     ·exact h.2.2
    rw [zxq] at hzero hodd
    rw [zxr] at hodd hnext
    refine join1 (A:=Unit) (fun _=>[]) (fun _=>[]) (fun _=>¬ ((headT w).name=(⟨#[122,101,114,111]⟩:ByteArray)/\argsT w=[])) [] [] [] hE rfl rfl rfl ?_ (fun _ hz=>?_)
    ·refine brS (fun hz=>fun _=>brS (fun hl=>?_) (fun hl=>⟨(),fun hc=>hl (by rw [hal,hc.2];rfl),leX.same ⟨rfl,rfl,rfl,rfl,rfl,rfl,rfl,trivial⟩⟩)) (fun hz=>⟨(),fun hc=>hz hc.1,leX.same ⟨rfl,rfl,rfl,rfl,rfl,rfl,rfl,trivial⟩⟩)
     have hnil:argsT w=[]:=List.eq_nil_of_length_eq_zero (by omega)
     rw [hzero hz hnil];exact ⟨rfl,rfl⟩
    ·refine brS (fun hs=>?_) (fun hs=>fun _=>brS (fun hl=>?_) (fun hl=>?_))
     ·rw [hodd hz (.inl hs)];exact ⟨rfl,rfl⟩
     ·rw [hodd hz (.inr (fun hc=>hl (by rw [hal,hc];rfl)))];exact ⟨rfl,rfl⟩
     ·obtain ⟨a,ha,hc⟩:=hnext (Classical.byContradiction fun hn=>hs hn) (by omega)
      have r0:(encTs (argsT w))[0]?=some (rowT a):=by rw [ha];simp [zc]
      have ga:=hkk.1.args.1 a (by rw [ha];simp)
      exact And.intro (by omega) (idxN (i:=0) r0 ⟨k,a,f',n+1,⟨hc,ga,i3.fu hkk.2,by omega,by omega⟩,by omega,Sub.refl _,rfl,rfl,rfl,rfl,trivial⟩)
theorem zz2 {t:Trm} (w:wfT 1000000 t=true) (d:dpT t<=10000):∃ v:Int,(v=-1\/∃ m:Nat,v=m/\Num m t)/\v<=1000000000/\Con Tryz.prog 32 [.ptr 1000 0,tv t] (refE 1000 preL 0) (fun r o=>r=.p (I v)/\o=refE 1000 preL 0):=by
 have hw:Wd (bdV 1099511627776 100000 4000) 100000 t:=⟨z1i (by unfold bdV;omega) t w,by omega⟩
 obtain ⟨k,v,h1,h2⟩:=zz1 100001 (Nat.le_refl _) 500000000 t 4000 0 (by show 4000 * 100001+dpT t<=_;omega) (by omega) hw
 have hb:=CntK.le h2
 refine ⟨v,?_,by omega,zsr v k (by omega) t ⟨z1i (by omega) t w,by omega⟩ h2⟩
 rcases CntK.num h2 with h | ⟨m,h3,h4⟩
 ·exact .inl h
 ·exact .inr ⟨m,by omega,h4⟩
end Go.Ab.YtpneaijfkefeaaaGreat
namespace Go.Ab
open Go Go.RowKit
mutual
def allN (p:Int->ByteArray->List Lvl->Bool):Trm->Bool
 | ⟨k,_,s,ls,l⟩=>p k s ls&&allNs p l
def allNs (p:Int->ByteArray->List Lvl->Bool):List Trm->Bool
 | []=>true
 | a::r=>allN p a&&allNs p r
end
structure NO (p:Int->ByteArray->List Lvl->Bool):Prop where
 own:∀ k,k≠1->k≠2->p k ⟨#[]⟩ []=true
structure NP (p:Int->ByteArray->List Lvl->Bool):Prop extends NO p where
 put:∀ k s ls k' s' b,p k s ls=true->p k' s' b=true->p k s (putFs b ls)=true
section
variable {p : Int → ByteArray → List Lvl → Bool}
theorem allNs_iff:∀ {l:List Trm},allNs p l=true↔∀ a∈l,allN p a=true
 | []=>by simp [allNs]
 | a::r=>by simp [allNs,allNs_iff (l:=r)]
theorem zg5 (t:Trm):allN p t=(p t.kind t.name t.levels&&allNs p t.args):=by cases t;rfl
theorem z3k {t a:Trm} (h:allN p t=true) (ha:a∈t.args):allN p a=true:=by
 rw [zg5,Bool.and_eq_true] at h;exact allNs_iff.1 h.2 a ha
theorem z5d {t:Trm} (h:allN p t=true):p t.kind t.name t.levels=true:=by
 rw [zg5,Bool.and_eq_true] at h;exact h.1
theorem zkf {t:Trm} (h:p t.kind t.name t.levels=true) (hs:∀ a∈t.args,allN p a=true):allN p t=true:=by
 rw [zg5,Bool.and_eq_true];exact ⟨h,allNs_iff.2 hs⟩
theorem zg6:∀ (t:Trm) (acc:List Trm),allN p t=true->(∀ a∈acc,allN p a=true)->allN p (spnT t acc).1=true/\∀ a∈(spnT t acc).2,allN p a=true
 | ⟨k, n,s,ls,l⟩,acc,h,ha=>by
   rw [spnT.eq_def]
   simp only
   split
   ·match l,h with
    | [f,a],h =>
      exact zg6 f (a::acc) (z3k h (by simp)) (fun x hx=>by rcases List.mem_cons.1 hx with rfl | hx;exact z3k h (by simp);exact ha x hx)
    | [],h=>exact ⟨h,ha⟩
    | [_],h=>exact ⟨h,ha⟩
    | _::_::_::_,h=>exact ⟨h,ha⟩
   ·exact ⟨h,ha⟩
termination_by t=>SizeOf.sizeOf t
theorem z9f {t:Trm} (h:allN p t=true):allN p (headT t)=true:=(zg6 t [] h (by simp)).1
theorem z5e {t:Trm} (h:allN p t=true):∀ a∈argsT t,allN p a=true:=(zg6 t [] h (by simp)).2
mutual
theorem zg7 {f:Int->Trm->Trm} (hf:∀ d v,allN p v=true->allN p (f d v)=true):∀ (t:Trm) (d:Int),allN p t=true->allN p (trvT f t d)=true
 | ⟨k,n,s,ls,l⟩,d,h=>by
   simp only [trvT]
   split
   ·exact hf d _ h
   ·simp only [allN,Bool.and_eq_true] at h ⊢
    exact ⟨h.1,zih hf k l 0 d h.2⟩
theorem zih {f:Int->Trm->Trm} (hf:∀ d v,allN p v=true->allN p (f d v)=true) (k:Int):∀ (l:List Trm) (i d:Int),allNs p l=true->allNs p (trvTs f k l i d)=true
 | [],_,_,_=>rfl
 | a::r,i,d,h=>by
   simp only [allNs,Bool.and_eq_true] at h
   simp only [trvTs,allNs,Bool.and_eq_true]
   exact ⟨zg7 hf a _ h.1,zih hf k r _ d h.2⟩
end
theorem zii {v:Trm} {n:Int} (h:allN p v=true):allN p ⟨v.kind,n,v.name,v.levels,v.args⟩=true:=by
 rw [zg5] at h ⊢;exact h
theorem z9g {t:Trm} (h:allN p t=true) (m d:Int):allN p (lftT m t d)=true:=by
 unfold lftT
 refine zg7 (fun d v hv=>?_) t d h
 unfold lftV
 split
 ·exact zii hv
 ·exact hv
theorem zkg:∀ t:Trm,allN p t=true->(∀ x∈piL t,allN p x=true)/\allN p (piE t)=true
 | ⟨k,n,s,ls,l⟩,h=>by
   by_cases hk:k=5/\l.length=2
   ·obtain ⟨x,y,rfl⟩:=z2w hk.2
    have hp':=z1w (u:=⟨k,n,s,ls,[x,y]⟩) hk.1 rfl
    have ih:=zkg y (z3k h (by simp))
    rw [hp'.1,hp'.2.1]
    refine ⟨fun z hz=>?_,ih.2⟩
    rcases List.mem_cons.1 hz with rfl | hz
    ·exact z3k h (by simp)
    ·exact ih.1 z hz
   ·have hp':=z2n (u:=⟨k,n,s,ls,l⟩) hk
    rw [hp'.1,hp'.2.1]
    exact ⟨fun x hx=>(by cases hx),h⟩
termination_by t=>SizeOf.sizeOf t
variable (hp : NO p)
include hp
theorem zkh:allN p zT=true:=by simp [zT,allN,allNs,hp.own 0]
theorem z6f {l:List Trm} (h:∀ a∈l,allN p a=true) (i:Nat):allN p (l.getD i zT)=true:=by
 rw [List.getD_eq_getElem?_getD]
 cases hl:l[i]? with
 | none=>exact zkh hp
 | some x=>exact h x (List.mem_of_getElem? hl)
theorem zmu {vs:List Trm} (hv:∀ v∈vs,allN p v=true) {t:Trm} (h:allN p t=true) (d:Int):allN p (opnT vs t d)=true:=by
 unfold opnT
 refine zg7 (fun d v hv'=>?_) t d h
 unfold opnV
 split
 ·exact hv'
 ·split
  ·exact z9g (z6f hp hv _) _ _
  ·exact zii hv'
theorem z6x {a b:Trm} (ha:allN p a=true) (hb:allN p b=true):allN p (mkA a b)=true:=by
 simp [mkA,allN,allNs,ha,hb,hp.own 3]
theorem zmv {k:Int} (h1:k≠1) (h2:k≠2) {a b:Trm} (ha:allN p a=true) (hb:allN p b=true):allN p (mkB k a b)=true:=by
 simp [mkB,allN,allNs,ha,hb,hp.own k h1 h2]
theorem z4b:∀ {l:List Trm} {t:Trm},allN p t=true->(∀ a∈l,allN p a=true)->allN p (appT t l)=true
 | [],t,h,_=>h
 | a::r,t,h,hl=>z4b (l:=r) (z6x hp h (hl a (by simp))) fun b hb=>hl b (by simp [hb])
theorem zij {t:Trm}:∀ {xs:List Trm},(∀ x∈xs,allN p x=true)->allN p t=true->allN p (lamsT xs t)=true
 | [],_,ht=>ht
 | x::xs,hx,ht=>zmv hp (by decide) (by decide) (hx x (by simp)) (zij (xs:=xs) (fun y hy=>hx y (by simp [hy])) ht)
theorem zss (n:Nat):∀ v∈varsT n,allN p v=true:=by
 induction n with
 | zero=>intro v h;cases h
 | succ n ih =>
   intro v h
   simp only [varsT,List.mem_cons] at h
   rcases h with rfl | h
   ·simp [mkV,allN,allNs,hp.own 0]
   ·exact ih v h
end
section
variable {p : Int → ByteArray → List Lvl → Bool} (hp : NP p)
include hp
theorem zg8 {k:Int} {s:ByteArray} {b:List Lvl} (hb:p k s b=true):∀ t:Trm,allN p t=true->allN p (lvsT b t)=true
 | ⟨k',n,s',ls,l⟩,h=>by
   have h1:=z5d h
   rw [z9t]
   refine zkf (hp.put _ _ _ _ _ _ h1 hb) fun a ha=>?_
   simp only [z3p] at ha
   obtain ⟨c,hc,rfl⟩:=List.mem_map.1 ha
   exact zg8 hb c (z3k h hc)
termination_by t=>SizeOf.sizeOf t
decreasing_by exact Trm.lt (t:=⟨k',n,s',ls,l⟩) hc
theorem zxs {r:RecI} {h:Trm} {args ahead:List Trm} {field v x:Trm} (hh:allN p h=true) (ha:∀ a∈args,allN p a=true) (hd:∀ a∈ahead,allN p a=true) (hf:allN p field=true) (hv:allN p v=true) (hx:hypF r h args field ahead v=some x):allN p x=true:=by
 unfold hypF at hx
 split at hx
 ·cases hx
  have ho:=zmu hp.toNO (vs:=args.take r.p++ahead) (fun y hy=>by
   rcases List.mem_append.1 hy with hy | hy
   ·exact ha y (List.mem_of_mem_take hy)
   ·exact hd y hy) (zg8 hp (z5d hh) field hf) 0
  have hpo:=zkg _ ho
  refine zij hp.toNO hpo.1 (z6x hp.toNO (z4b hp.toNO (z4b hp.toNO hh fun a hm=>?_) fun a hm=>z5e hpo.2 a (List.mem_of_mem_drop hm)) (z4b hp.toNO (z9g hv _ _) (zss hp.toNO _)))
  obtain ⟨y,hy,rfl⟩:=List.mem_map.1 hm
  exact z9g (ha y (List.mem_of_mem_take hy)) _ _
 ·cases hx
theorem zmw {r:RecI} {h:Trm} {args:List Trm} (hh:allN p h=true) (ha:∀ a∈args,allN p a=true):∀ (fs ahead bs:List Trm) (out:Trm),(∀ a∈fs,allN p a=true)->(∀ a∈ahead,allN p a=true)->(∀ a∈bs,allN p a=true)->allN p out=true->allN p (hypsF r h args fs ahead bs out)=true
 | [],ahead,bs,out,_,_,_,ho=>by simpa [hypsF] using ho
 | f::fs,ahead,[],out,_,_,_,ho=>by simpa [hypsF] using ho
 | f :: fs,ahead,v::bs,out,hf,hd,hv,ho=>by
   simp only [hypsF]
   have ih:=fun out' (h':allN p out'=true)=>zmw (r:=r) hh ha fs (ahead++[v]) bs out' (fun a h=>hf a (by simp [h])) (fun a h=>by
    rcases List.mem_append.1 h with h | h
    ·exact hd a h
    ·simp at h;subst h;exact hv a (by simp)) (fun a h=>hv a (by simp [h])) h'
   cases hx:hypF r h args f ahead v with
   | none=>exact ih out ho
   | some x=>exact ih (mkA out x) (z6x hp.toNO ho (zxs hp hh ha hd (hf f (by simp)) (hv v (by simp)) hx))
theorem zxt {r:RecI} (hc:∀ k∈r.fam.ctors,allN p k.ty=true) {h:Trm} {args:List Trm} (hh:allN p h=true) (ha:∀ a∈args,allN p a=true) {major u:Trm} (hj:allN p major=true) (hu:iotR r h args major=some u):allN p u=true:=by
 unfold iotR at hu
 split at hu
 ·split at hu
  ·cases hu
  ·rename_i k hk
   split at hu
   ·cases hu
    have hkl:=z6e hk
    have hct:r.fam.ctors[k]?=some (r.fam.ctors.getD k default):=by rw [List.getD_eq_getElem?_getD,List.getElem?_eq_getElem hkl.1];rfl
    have hty:=hc _ (List.mem_of_getElem? hct)
    generalize (r.fam.ctors.getD k default).ty=ty at *
    have hpi:=zkg ty hty
    have hF:∀ a∈(argsT major).drop r.p,allN p a=true:=fun a h=>z5e hj a (List.mem_of_mem_drop h)
    exact z4b hp.toNO (zmw hp hh ha _ [] _ _ (fun a h=>hpi.1 a (List.mem_of_mem_drop h)) (fun a h=>by cases h) hF (z4b hp.toNO (z6f hp.toNO ha _) hF)) fun a h=>ha a (List.mem_of_mem_drop h)
   ·cases hu
 ·cases hu
structure EnvA (p:Int->ByteArray->List Lvl->Bool) (ds:List Dcl):Prop where
 v:∀ d∈ds,allN p d.value=true
 c:∀ d∈ds,∀ k∈d.ctors,allN p k.ty=true
omit hp in
theorem zmx {c f:Int} {u:Trm} (hu:allN p u=true) (hz:allN p zT=true) {y:OR} (h:mdF c f u=some y):allN p y.1=true:=by
 unfold mdF at h
 split at h
 ·cases h;exact hz
 ·split at h
  ·split at h
   ·cases h;exact hu
   ·cases h;exact hz
  ·cases h
theorem zz3 {ds : List Dcl} (hE:EnvA p ds) {c:Int} {wh:Trm->Int->Option WR} (hw:∀ t f x,allN p t=true->wh t f=some x->allN p x.1=true) {t:Trm} (ht:allN p t=true) {f:Int} {y:OR} (h:onF ds c wh t f=some y):allN p y.1=true:=by
 have hz:=zkh hp.toNO
 have hh:=z9f ht
 have ha:=z5e ht
 have hsub:∀ i,allN p ((headT t).args.getD i zT)=true:=fun i=>z6f hp.toNO (fun a h=>z3k hh h) i
 have hb:∀ (body v:Trm),allN p body=true->allN p v=true->allN p (opnT [v] body 0)=true:=fun body v h1 h2=>zmu hp.toNO (fun x hx=>by simp at hx;subst hx;exact h2) h1 0
 unfold onF at h
 split at h
 ·exact zmx (z4b hp.toNO (hb _ _ (hsub 1) (z6f hp.toNO ha 0)) fun a h=>ha a (List.mem_of_mem_drop h)) hz h
 ·split at h
  ·exact zmx (z4b hp.toNO (hb _ _ (hsub 2) (hsub 1)) ha) hz h
  ·split at h
   ·split at h
    ·cases h;exact ht
    ·rename_i d hd
     split at h
     ·exact zmx (z4b hp.toNO (zg8 hp (z5d hh) _ (hE.v d (List.mem_of_find?_eq_some hd))) ha) hz h
     ·split at h
      ·cases h;exact ht
      ·rename_i r hr
       split at h
       ·rename_i hm5
        split at h
        ·cases h
        ·rename_i m f1 e1 hm
         have hmj:=hw _ _ _ (z6f hp.toNO ha _) hm
         split at h
         ·cases h;exact hz
         ·split at h
          ·rename_i u hio
           rw [z9a,hr] at hio
           simp only [Option.bind_some,if_pos hm5] at hio
           exact zmx (zxt hp (hE.c _ (z5c hr).1) hh ha hmj hio) hz h
          ·cases h;exact ht
       ·cases h;exact ht
   ·cases h;exact ht
theorem zik {ds:List Dcl} (hE:EnvA p ds) {c:Int}:∀ (g:Nat) (t:Trm) (f:Int) (x:WR),allN p t=true->whF ds c g t f=some x->allN p x.1=true
 | 0,_,_,_,_,h=>by cases h
 | g + 1,t,f,x,ht,h=>by
   simp only [whF] at h
   split at h
   ·cases h
   ·rename_i u did f1 e ho
    have h1:=zz3 hp hE (fun t f x h1 h2=>zik hE g t f x h1 h2) ht ho
    split at h
    ·cases h;exact zkh hp.toNO
    ·split at h
     ·exact zik hE g u f1 x h1 h
     ·cases h;exact h1
end
def rSamF (a b:Lvl):Bool:=rLeqF a b&&rLeqF b a
def samLs:List Lvl->List Lvl->Bool
 | [],[]=>true
 | a::r,b::s=>rSamF a b&&samLs r s
 | [],_::_=>false
 | _::_,[]=>false
mutual
def alkT:Trm->Trm->Bool
 | ⟨k,n,s,ls,l⟩,⟨k',n',s',ls',l'⟩=>decide (k=k')&&(decide (n=n')&&(decide (s=s')&&(samLs ls ls'&&alkTs l l')))
def alkTs:List Trm->List Trm->Bool
 | [],[]=>true
 | a::r,b::s=>alkT a b&&alkTs r s
 | [],_::_=>false
 | _::_,[]=>false
end
def ovrT (t:Trm):Trm:=mkA (lftT 1 t 0) (mkV 0)
def offT (x y:Trm):Prop:=argsT x=[]\/(argsT x).length≠(argsT y).length\/((headT x).kind≠0/\(headT x).kind≠2)\/alkT (headT x) (headT y)=false
instance (x y:Trm):Decidable (offT x y):=by unfold offT;infer_instance
section
variable {B : Int} {c : Int} (hB : 0 ≤ B)
include hB
end
end Go.Ab
set_option linter.unusedVariables false
set_option linter.unusedSimpArgs false
namespace Go.Ab
open Go Go.RowKit
def hereL (k n:Int) (len:Nat):Prop:=argL k=len/\¬ (k=4/\(n<0\/n≥4))/\¬ (k≠4/\n≠0)
instance (k n:Int) (len:Nat):Decidable (hereL k n len):=by unfold hereL;infer_instance
mutual
def wfL:Lvl->Bool
 | ⟨k,n,l⟩=>decide (hereL k n l.length)&&wfLs l
def wfLs:List Lvl->Bool
 | []=>true
 | a::r=>wfL a&&wfLs r
end
theorem zst (t:Lvl):wfL t=(decide (hereL t.kind t.n t.args.length)&&wfLs t.args):=by cases t;rfl
theorem zxu {t:Lvl} (h:wfL t=true):hereL t.kind t.n t.args.length:=by
 rw [zst,Bool.and_eq_true] at h;exact of_decide_eq_true h.1
theorem zmy:∀ {l:List Lvl},wfLs l=true->∀ a∈l,wfL a=true
 | [],_,a,h=>by cases h
 | b::r,h,a,hm=>by
   simp only [wfLs,Bool.and_eq_true] at h
   rcases List.mem_cons.1 hm with rfl | hm
   ·exact h.1
   ·exact zmy h.2 a hm
theorem zsu:∀ {l:List Lvl},(∀ a∈l,wfL a=true)->wfLs l=true
 | [],_=>rfl
 | b::r,h=>by simp only [wfLs,Bool.and_eq_true];exact ⟨h b (by simp),zsu fun a ha=>h a (by simp [ha])⟩
theorem zz4 {t:Lvl} (h:wfL t=true) {a:Lvl} (ha:a∈t.args):wfL a=true:=by
 rw [zst,Bool.and_eq_true] at h;exact zmy h.2 a ha
theorem zvd {by_:List Lvl} (hby:∀ x∈by_,wfL x=true):∀ t:Lvl,wfL t=true->wfL (putF by_ t)=true
 | ⟨k,n,l⟩,h=>by
   rw [zfm]
   split
   ·rename_i hp
    exact hby _ (zc8 hp.2.1 hp.2.2).2
   ·rw [zst,Bool.and_eq_true,decide_eq_true_eq]
    have hh:=zxu h
    refine ⟨by simpa [z1o] using hh,zsu fun a ha=>?_⟩
    simp only [z1o] at ha
    obtain ⟨c,hc,rfl⟩:=List.mem_map.1 ha
    exact zvd hby c (zz4 h hc)
termination_by x=>SizeOf.sizeOf x
decreasing_by exact Lvl.lt (t:=⟨k,n,l⟩) hc
structure Flat where
 b:Int
 p0:Int
 p1:Int
 p2:Int
 p3:Int
 deriving DecidableEq
def up (p:Int):Int:=if p≥0 then p+1 else p
def Flat.ok (f:Flat) (m:Int):Prop:=(0<=f.b/\f.b<=m)/\(-1<=f.p0/\f.p0<=m)/\(-1<=f.p1/\f.p1<=m)/\(-1<=f.p2/\f.p2<=m)/\(-1<=f.p3/\f.p3<=m)
def shr (p x:Int):Int:=if p≥0 then p+x else 0
end Go.Ab
namespace Go.Ab
open Go Go.RowKit
def medL (l:Lvl):Bool:=decide (prtL l<=100000)&&decide (depL l<=900)
def lG (l:Lvl):Bool:=wfL l&&medL l
structure LG (l:Lvl):Prop where
 w:wfL l=true
 d:depL l<=900
 p:prtL l<=100000
def pG (k:Int) (s:ByteArray) (ls:List Lvl):Bool:=ls.all lG
def lvT (t:Trm):Bool:=allN pG t
def pL (k:Int) (s:ByteArray) (ls:List Lvl):Bool:=ls.all wfL
def pS (k:Int) (s:ByteArray) (ls:List Lvl):Bool:=ls.all medL
theorem pL_np:NP pL where
 own k h1 h2:=rfl
 put k s ls k' s' b h hb:=by
  simp only [pL,List.all_eq_true] at h hb ⊢
  intro x hx
  rw [z1o] at hx
  obtain ⟨y,hy,rfl⟩:=List.mem_map.1 hx
  exact zvd hb y (h y hy)
theorem pS_no:NO pS:=⟨fun k h1 h2=>rfl⟩
theorem zmz {p q r:Int->ByteArray->List Lvl->Bool} (h:∀ k s ls,p k s ls=true->q k s ls=true->r k s ls=true):∀ t:Trm,allN p t=true->allN q t=true->allN r t=true
 | ⟨k,n,s,ls,l⟩,h1,h2=>zkf (h _ _ _ (z5d h1) (z5d h2)) fun a ha=>zmz h a (z3k h1 ha) (z3k h2 ha)
termination_by t=>SizeOf.sizeOf t
decreasing_by exact Trm.lt (t:=⟨k,n,s,ls,l⟩) ha
theorem zsv:∀ t:Trm,smlT t=true->allN pS t=true
 | ⟨k,n,s,ls,l⟩,h=>by
   rw [zjs,Bool.and_eq_true,z8o,List.all_eq_true,List.all_eq_true] at h
   refine zkf ?_ fun a ha=>zsv a (h.2 a ha)
   simp only [pS,List.all_eq_true]
   intro x hx
   have:=h.1 x hx
   simp only [smlL,Bool.and_eq_true,decide_eq_true_eq] at this
   simp only [medL,Bool.and_eq_true,decide_eq_true_eq]
   omega
termination_by t=>SizeOf.sizeOf t
decreasing_by exact Trm.lt (t:=⟨k,n,s,ls,l⟩) ha
theorem zz5 {ds : List Dcl} {c:Int} {wh:Trm->Int->Option WR} {t:Trm} {f:Int} {u:Trm} {f':Int} (h:onF ds c wh t f=some (u,true,f',0)):smlT u=true:=by
 have md:∀ {x f},mdF c f x=some (u,true,f',0)->smlT u=true:=fun {x f} h=>by
  unfold mdF at h
  split at h
  ·cases h
  ·split at h
   ·split at h
    ·rename_i hf;cases h;simp only [fitsT,Bool.and_eq_true] at hf;exact hf.2
    ·cases h
   ·cases h
 unfold onF at h
 split at h
 ·exact md h
 ·split at h
  ·exact md h
  ·split at h
   ·split at h
    ·cases h
    ·split at h
     ·exact md h
     ·split at h
      ·cases h
      ·split at h
       ·split at h
        ·cases h
        ·split at h
         ·cases h
         ·split at h
          ·exact md h
          ·cases h
       ·cases h
   ·cases h
theorem zve {ds:List Dcl} {c:Int}:∀ (g:Nat) (t:Trm) (f:Int) (u:Trm) (f':Int),allN pS t=true->whF ds c g t f=some (u,f',0)->allN pS u=true
 | 0,_,_,_,_,_,h=>by cases h
 | g + 1,t,f,u,f',ht,h=>by
   simp only [whF] at h
   split at h
   ·cases h
   ·rename_i u1 did f1 e ho
    split at h
    ·rename_i he;cases h;exact absurd rfl he
    ·rename_i he
     have he0:e=0:=Classical.byContradiction fun hn=>he hn
     subst he0
     split at h
     ·rename_i hd
      exact zve g u1 f1 u f' (zsv _ (zz5 (hd▸ho))) h
     ·rename_i hd
      have:did=false:=by cases did;rfl;exact absurd rfl hd
      subst this
      cases h
      rw [zg1 ho];exact ht
structure LOK (t:Trm):Prop where
 w:allN pL t=true
 s:allN pS t=true
theorem LOK.lv {t:Trm} (h:LOK t):lvT t=true:=zmz (fun k s ls h1 h2=>by
 simp only [pL,pS,pG,List.all_eq_true] at *
 exact fun x hx=>by simp only [lG,Bool.and_eq_true];exact ⟨h1 x hx,h2 x hx⟩) t h.w h.s
theorem LOK.sub {t a:Trm} (h:LOK t) (ha:a∈t.args):LOK a:=⟨z3k h.w ha,z3k h.s ha⟩
theorem LOK.head {t:Trm} (h:LOK t):LOK (headT t):=⟨z9f h.w,z9f h.s⟩
theorem LOK.args {t:Trm} (h:LOK t):∀ a∈argsT t,LOK a:=fun a ha=>⟨z5e h.w a ha,z5e h.s a ha⟩
theorem LOK.mkA {a b:Trm} (h:LOK a) (k:LOK b):LOK (Ab.mkA a b):=⟨z6x pL_np.toNO h.w k.w,z6x pS_no h.s k.s⟩
theorem LOK.ovr {t:Trm} (h:LOK t):LOK (ovrT t):=LOK.mkA ⟨z9g h.w 1 0,z9g h.s 1 0⟩ ⟨rfl,rfl⟩
theorem LOK.wh {ds:List Dcl} (hE:EnvA pL ds) {c:Int} {g:Nat} {t:Trm} {f:Int} {u:Trm} {f':Int} (h:LOK t) (hw:whF ds c g t f=some (u,f',0)):LOK u :=
 ⟨zik pL_np hE g t f _ h.w hw,zve g t f u f' h.s hw⟩
end Go.Ab
namespace Go.Ab.YtpneaijfkefeaaaGreat
open Go Go.RowKit Go.Ab Go.Proofs
structure NC (p:Int->ByteArray->List Lvl->Bool):Prop where
 np:NO p
 cs:([cZero,cSucc,cAdd,cTwo,cNat,cId,cRec,cNN,cPi,cEq,cAnd,cNot,cP,cS0,cRefl,zyw,cId0,cAll].all fun t=>allN p t)=true
structure NB (p:Int->ByteArray->List Lvl->Bool):Prop extends NC p where
 ss:(anyS.all fun s=>allN p (trmOf s))=true
 sp:((spoN []).all fun s=>p 2 s [])=true
 lv:∀ (l:List Int) (a:Int),0<=a->l.length<=800->p 1 ⟨#[]⟩ [(lvF l (l.length+1) 2 a).1]=true
section
variable {p : Int → ByteArray → List Lvl → Bool} (h : NC p)
include h
theorem zz6 {a b c:Trm} (ha:allN p a=true) (hb:allN p b=true) (hc:allN p c=true):allN p ⟨6,0,⟨#[]⟩,[],[a,b,c]⟩=true:=by
 simp [allN,allNs,ha,hb,hc,h.np.own 6]
theorem zz7 (n:Int):allN p (mkV n)=true:=by simp [mkV,allN,allNs,h.np.own 0]
set_option maxHeartbeats 8000000 in
theorem zn0 (l:List Int):∀ (g:Nat) (v a:Int),allN p (natF l g v a).1=true/\allN p (funF l g v a).1=true
 | 0,v,a=>by
   have hc:=h.cs
   simp only [List.all_cons,Bool.and_eq_true] at hc
   exact ⟨hc.1,hc.1⟩
 | g+1,v,a=>by
   have ih:=zn0 l g
   have hc:=h.cs
   simp only [List.all_cons,List.all_nil,Bool.and_eq_true] at hc
   obtain ⟨z1,z2,z3,z4,z5,z6,z7,z8,z9,_⟩:=hc
   have n4:(4:Int)≠1/\(4:Int)≠2:=by decide
   simp only [natF,funF]
   generalize cZero=c1 at *;generalize cSucc=c2 at *;generalize cAdd=c3 at *;generalize cTwo=c4 at *;generalize cNat=c5 at *;generalize cId=c6 at *;generalize cRec=c7 at *;generalize cNN=c8 at *;generalize cPi=c9 at *
   refine ⟨?_,?_⟩
   all_goals repeat' split
   all_goals simp only [appT]
   all_goals repeat' (first | refine z6x h.np ?_ ?_ | refine zmv h.np n4.1 n4.2 ?_ ?_ | refine zz6 h ?_ ?_ ?_ | exact (ih _ _).1 | exact (ih _ _).2 | exact zz7 h _ | assumption)
end
section
variable {p : Int → ByteArray → List Lvl → Bool} (h : NB p)
include h
end
def pZ (k:Int) (s:ByteArray) (ls:List Lvl):Bool:=!(decide (s=cZero.name) || decide (s=cSucc.name)) || ls.isEmpty
theorem pZ_np:NP pZ where
 own k h1 h2:=by simp [pZ]
 put k s ls k' s' b h hb:=by
  cases ls with
  | nil=>simp [pZ,putFs]
  | cons a r=>simp only [pZ,List.isEmpty_cons,Bool.or_false] at h;simp only [pZ,h,Bool.true_or]
theorem pZ_nc:NC pZ:=⟨pZ_np.toNO,by kernel_rfl⟩
theorem zvf:EnvA pZ preL:=by
 have h:(preL.all fun d=>allN pZ d.value&&d.ctors.all fun k=>allN pZ k.ty)=true:=by kernel_rfl
 simp only [List.all_eq_true,Bool.and_eq_true] at h
 exact ⟨fun d hd=>(h d hd).1,fun d hd k hk=>(h d hd).2 k hk⟩
def sucN:Nat->Trm
 | 0=>cZero
 | n+1=>mkA cSucc (sucN n)
theorem zn1:∀ n,sizT (sucN n)=2 * n+1
 | 0=>by kernel_rfl
 | n+1=>by
   have h:sizT cSucc=1:=by kernel_rfl
   simp only [sucN,zae,zn1 n,h];omega
theorem zki:∀ n,wfT 1000000 (sucN n)=true/\dpT (sucN n)<=n+1
 | 0=>by have:=z3f kZero;exact ⟨this.1,by simp only [sucN];omega⟩
 | n+1=>by
   have h:=zki n
   have k:=z3f kSucc
   exact ⟨z3w (by omega) k.1 h.1,by simp only [sucN,zaf];omega⟩
theorem zxv:eqT cZero ⟨2,0,cZero.name,[],[]⟩=true:=by kernel_rfl
theorem zxw:eqT cSucc ⟨2,0,cSucc.name,[],[]⟩=true:=by kernel_rfl
theorem zsw {w:Trm} (hg:Gd w) (hz:allN pZ w=true) {s:ByteArray} (hn:(headT w).name=s) (hs:s=cZero.name\/s=cSucc.name):headT w=⟨2,0,s,[],[]⟩:=by
 have hk:(headT w).kind=2:=zxo hg hn (by rcases hs with h | h<;>subst h<;>decide +kernel)
 have W:=zh hg.head.w
 have h0:=z5d (z9f hz)
 have h1:=W.args
 have h2:=W.var (by omega)
 generalize headT w=t at *
 obtain ⟨k,n,s',ls,l⟩:=t
 simp only at hk hn h0 h1 h2
 subst hk hn h2
 have hl:l=[]:=List.eq_nil_of_length_eq_zero (by simp [argF] at h1;omega)
 have hls:ls=[]:=by
  unfold pZ at h0
  rcases hs with h | h
  ·rw [h] at h0;simpa using h0
  ·rw [h] at h0;simpa using h0
 subst hl hls
 rfl
theorem zvg {w:Trm} (hk:(headT w).kind=2):prtN w=argsT w:=by
 unfold prtN
 rw [if_neg]
 intro h
 have:headT w=w:=by
  obtain ⟨k,n,s,ls,l⟩:=w
  simp only at h
  unfold headT
  rw [spnT.eq_def]
  simp only
  rw [if_neg (by omega)]
 rw [this] at hk;omega
theorem zvh {w:Trm} (hk:(headT w).kind=2) (l:List Trm):outN w l=appT (headT w) l:=by
 unfold outN
 rw [if_neg]
 intro h
 have:headT w=w:=by
  obtain ⟨k,n,s,ls,l⟩:=w
  simp only at h
  unfold headT
  rw [spnT.eq_def]
  simp only
  rw [if_neg (by omega)]
 rw [this] at hk;omega
theorem zvi {c f:Int} {u v:Trm} {f':Int} (h:finN c f u=some (v,f',0)):v=u:=by
 unfold finN at h
 split at h
 ·split at h
  ·cases h;rfl
  ·cases h
 ·cases h
theorem zut : ∀ (n:Nat) (t:Trm),Num n t->Gd t->allN pZ t=true->∀ (c:Int) (g:Nat) (f:Int) (u:Trm) (f':Int),normF preL c g t f=some (u,f',0)->u=sucN n:=by
 intro n
 induction n with
 | zero =>
   intro t ⟨w0,h1,h2,h3⟩ hg hz c g f u f' hx
   cases g with
   | zero=>cases hx
   | succ g =>
     simp only [normF] at hx
     split at hx
     ·cases hx
     cases hw:whF preL c g t (f-1) with
     | none=>rw [hw] at hx;cases hx
     | some y =>
       obtain ⟨w,f1,e⟩:=y
       rw [hw] at hx
       simp only at hx
       split at hx
       ·rename_i he;cases hx;exact absurd rfl he
       rename_i he
       have he0:e=0:=Classical.byContradiction fun h=>he h
       subst he0
       have e1:w=w0:=Ev.one ⟨c,g,f-1,f1,hw⟩ h1
       subst e1
       have gw:=h1.gd hg
       have zw:=zik pZ_np zvf g t (f-1) _ hz hw
       have hh:=zsw gw zw h2 (.inl rfl)
       have hk:(headT w).kind=2:=by rw [hh]
       rw [zvg hk,h3] at hx
       simp only [nmsF] at hx
       rw [if_neg (by simp)] at hx
       rw [zvi hx,zvh hk]
       show headT w=cZero
       rw [hh];exact ((zcg _ _).1 zxv).symm
 | succ n ih =>
   intro t ⟨w0,a,h1,h2,h3,h4⟩ hg hz c g f u f' hx
   cases g with
   | zero=>cases hx
   | succ g =>
     simp only [normF] at hx
     split at hx
     ·cases hx
     cases hw:whF preL c g t (f-1) with
     | none=>rw [hw] at hx;cases hx
     | some y =>
       obtain ⟨w,f1,e⟩:=y
       rw [hw] at hx
       simp only at hx
       split at hx
       ·rename_i he;cases hx;exact absurd rfl he
       rename_i he
       have he0:e=0:=Classical.byContradiction fun h=>he h
       subst he0
       have e1:w=w0:=Ev.one ⟨c,g,f-1,f1,hw⟩ h1
       subst e1
       have gw:=h1.gd hg
       have zw:=zik pZ_np zvf g t (f-1) _ hz hw
       have hh:=zsw gw zw h2 (.inr rfl)
       have hk:(headT w).kind=2:=by rw [hh]
       rw [zvg hk,h3] at hx
       simp only [nmsF] at hx
       cases ha:normF preL c g a f1 with
       | none=>rw [ha] at hx;cases hx
       | some q =>
         obtain ⟨u1,f2,e2⟩:=q
         rw [ha] at hx
         simp only [List.nil_append] at hx
         by_cases h0:e2=0
         ·subst h0
          have ga:=gw.args.1 a (by rw [h3];simp)
          have za:=z5e zw a (by rw [h3];simp)
          have:=ih a h4 ga za c g f1 u1 f2 ha
          subst this
          rw [if_neg (by simp)] at hx
          simp only at hx
          rw [if_neg (by simp)] at hx
          rw [zvi hx,zvh hk]
          show mkA (headT w) (sucN n)=mkA cSucc (sucN n)
          rw [hh,(zcg _ _).1 zxw]
         ·rw [if_pos h0] at hx
          simp only at hx
          rw [if_pos h0] at hx
          cases hx;exact absurd rfl h0
set_option maxHeartbeats 16000000 in
theorem zil (l:List Int) (hl:okB l) (hlen:(l.length:Int)<=9223372036854775807):PCon Tryz.prog 6 [.p (.sl 1 (byts l))] (.p (B true)):=by
 have hbl:=zmr l
 refine cv [] [] [] Tryz.func6 63 Tryz.ntmps6 rfl rfl fun cx hE=>call0 zou (brB (fun h=>by cases h) (fun _=>fun _=>brS (fun h40=>⟨rfl,rfl⟩) (fun h40=>?_)))
 have hll:l.length<=100:=by omega
 refine callX [] zmb rfl rfl .nil fun r o ⟨e1,pv,pl,ov,hE1,e2⟩=>?_
 subst e1 e2
 have hG:=preG hE1
 have px:=zxp l (by omega) 0 (by omega) (by omega)
 have zx:allN pZ (natP l 0)=true:=(zn0 pZ_nc l (2 * l.length+1) 0 0).1
 have cx1:=(zus l hl (by omega) 0 (by omega) (by omega)).at1 1000 905 rfl rfl rfl rfl
 generalize (natF l (2 * l.length+1) 0 0).2=a2 at cx1
 generalize natP l 0=x at *
 have dx:=px.d;have sx:=px.s
 have gx:Gd x:=⟨z1i (by omega) x px.w,by omega⟩
 have ox:okW x=true:=zv8 (by omega) px.w (by omega)
 obtain ⟨nv,hn1,hn2,cn⟩:=zz2 px.w (by omega)
 have hb:(1073741824:Int)<=bdV 1099511627776 100000 20000:=by unfold bdV;omega
 obtain ⟨g,⟨u,f',e⟩,hw,_⟩:=zmt (B:=1073741824) (M:=100000) (c:=40000) (by omega) (by omega) (by omega) (by omega) zeo 20000 20000 (by omega) 1099511627776 x (by omega) hb ⟨z1i (by omega) _ px.w,by omega⟩
 have herr:e≠0->errE e:=fun h=>(zif g _ _ _ hw h).1
 have hx:=zd8 preL pv ov pl hG x ox gx 20000 40000 ⟨by omega,by omega,by omega,by omega⟩ g _ hw
 refine call1 [] (zsq l) rfl rfl (zb _) (call1 [905] cx1 rfl rfl (zb _) ?_)
 refine callX [1000,1001] cn rfl rfl (zb _) fun r o ⟨q1,q2⟩=>?_
 subst q1 q2
 refine callX [1004,1005,1006,1007] hx rfl rfl (zb _) fun r o ⟨q1,q2⟩=>?_
 subst q1 q2
 have he:e=0\/e=11\/e=12:=by
  by_cases h:e=0
  ·exact .inl h
  ·exact .inr (herr h)
 have cpz:∀ i:Nat,i<=100000->Cp (sucN i):=fun i hi=>Cp.of (zki i).1 (by omega) (by have:=(zki i).2;omega)
 refine brS (fun hneg=>?_) (fun hpos=>brS (fun hne=>?_) (fun hne=>?_))
 ·rcases he with rfl | rfl | rfl
  ·exact brY rfl ⟨rfl,rfl⟩
  ·exact brZ (by simp) (brY rfl ⟨rfl,rfl⟩)
  ·exact brZ (by simp) (brZ (by simp) ⟨rfl,rfl⟩)
 ·rcases he with rfl | rfl | rfl
  ·exact absurd rfl hne
  ·exact brZ (by simp) (brY rfl ⟨rfl,rfl⟩)
  ·exact brZ (by simp) (brZ (by simp) ⟨rfl,rfl⟩)
 ·have he0:e=0:=Classical.byContradiction fun h=>hne h
  subst he0
  obtain ⟨n,rfl,hn⟩:∃ m:Nat,nv=m/\Num m x:=by
   rcases hn1 with h | h
   ·omega
   ·exact h
  have hu:=zut n x hn gx zx _ _ _ _ _ hw
  have hft:=zov hw
  subst hu
  have hsz:n<=20000:=by
   simp only [fitsT,Bool.and_eq_true,decide_eq_true_eq] at hft
   have:=zn1 n
   omega
  refine call0 (z1l _ tZero) ?_
  refine loop1 (fun (i:Nat)=>[(11,.p (I i))]) (fun i=>[(10,ceT (sucN i))]) (fun i=>i<=n) (fun i=>n-i) 0 [11] [10] hE rfl rfl rfl ⟨Sub.refl _,by repeat' (first | exact trivial | refine And.intro rfl ?_)⟩ (by omega) fun i hi=>?_
  refine brS (fun hlt=>?_) (fun hge=>?_)
  ·exact call0 (z1l _ tSucc) (call0 (z3j cSucc (sucN i) (cpz i (by omega))) (And.intro (by omega) ⟨i+1,by omega,by omega,Sub.i (by simp),by repeat' (first | exact trivial | refine And.intro rfl ?_)⟩))
  ·have hin:i=n:=by omega
   subst hin
   exact call0 (z5n _ _) ⟨B_eq (zln _),rfl⟩
end Go.Ab.YtpneaijfkefeaaaGreat
