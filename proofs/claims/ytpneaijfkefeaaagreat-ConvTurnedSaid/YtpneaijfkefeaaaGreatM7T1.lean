/- Texts of our own, laid together. -/
import Derived.WalkKit
import Derived.ProofKit
import Derived.OpenShut
import Derived.ShutString
import Derived.ChangeOld
import Derived.Below
import Derived.SizedLaws
import Derived.Test.YtpneaijfkefeaaaGreatM6T1
set_option maxRecDepth 20000
set_option linter.unusedVariables false
set_option linter.unusedSimpArgs false
namespace Go.Ab.YtpneaijfkefeaaaGreat
open Go Go.RowKit Go.Ab Go.Proofs
theorem zk4 (vs:List Trm):∀ (t:Trm) (d:Int),(piL t).length<=(piL (opnT vs t d)).length
 | ⟨k, n,s,ls,l⟩,d=>by
   by_cases hk:k=5/\l.length=2
   ·obtain ⟨hk5,hl⟩:=hk
    obtain ⟨x,y,rfl⟩:=z3d hl
    subst hk5
    have hp:=z2d (u:=⟨5,n,s,ls,[x,y]⟩) rfl rfl
    have ho:opnT vs ⟨5,n,s,ls,[x,y]⟩ d=⟨5,n,s,ls,[opnT vs x (d+bndF 5 0),opnT vs y (d+bndF 5 1)]⟩:=by
     simp [opnT,trvT,trvTs]
    have hp2:=z2d (u:=opnT vs ⟨5,n,s,ls,[x,y]⟩ d) (x:=opnT vs x (d+bndF 5 0)) (y:=opnT vs y (d+bndF 5 1)) (by rw [ho]) (by rw [ho])
    rw [hp2.1,hp.1,List.length_cons,List.length_cons]
    exact Nat.succ_le_succ (zk4 vs y _)
   ·rw [(z2t (u:=⟨k,n,s,ls,l⟩) hk).1];exact Nat.zero_le _
termination_by t=>SizeOf.sizeOf t
theorem zyn {b:Int}:∀ (n:Nat) (t:Trm),wfT b t=true->wfT b (piD n t)=true/\dpT (piD n t)<=dpT t
 | 0,t,h=>by cases t;exact ⟨h,Nat.le_refl _⟩
 | n + 1,t,h=>by
   by_cases hk:t.kind=5/\t.args.length=2
   ·obtain ⟨x,y,ha⟩:=z3d hk.2
    have hy:=z1h (t:=t) (a:=y) (by rw [ha];simp)
    rw [(z2d hk.1 ha).2.2]
    have:=zyn n y ((zf h).sub y (by rw [ha];simp))
    exact ⟨this.1,by omega⟩
   ·rw [(z2t hk).2.2];exact ⟨h,Nat.le_refl _⟩
set_option maxHeartbeats 8000000 in
theorem zxq (r:RecI) (i:Int) (h:Trm) (args:List Trm) (field:Trm) (ahead:List Trm) (bb:Trm) (hh:Gd h) (ha:∀ a∈args,Gd a) (hal:args.length<=268435456) (hc:r.fam.ctors.length<=1000) (hp:r.p+1+r.fam.ctors.length<=args.length)
  (hf:Fz 100000 field) (had:∀ a∈ahead,Gd a) (hadl:ahead.length<=268435456) (hb:Gd bb) :
  PCon Tryz.prog 134 [.ag (recL r.fam r.p i),tv h,.p (.sl 5 (encTs args)),tv field,.p (.sl 5 (encTs ahead)),tv bb] (zk2 (hypF r h args field ahead bb)):=by
 have hfd:=hf.d
 have hpl:=z3y field
 have hael:=zc args
 have hahl:=zc ahead
 have hcl:(encCs r.fam.ctors).length=r.fam.ctors.length:=by simp [encCs]
 have hnar:=(zf hh.w).nar
 have w1:=zaj hnar field hf.w
 have d1:dpT (lvsT h.levels field)<=100000:=by rw [zfo];omega
 have hvs:∀ v∈args.take r.p++ahead,Gd v:=fun v hv=>by
  rcases List.mem_append.1 hv with hv | hv
  ·exact ha v (List.mem_of_mem_take hv)
  ·exact had v hv
 have hvl:(args.take r.p++ahead).length<=1000000000:=by rw [List.length_append,List.length_take];omega
 have wO:=zoc (b:=1099511627776) (c:=2199023255552) (D:=100000) (d:=0) (vs:=args.take r.p++ahead) (t:=lvsT h.levels field) (by omega) (by omega) (by omega) (fun v hv=>(hvs v hv).w) w1
 have dO:=zjw (M:=268435456) (vs:=args.take r.p++ahead) (fun v hv=>(hvs v hv).d) (lvsT h.levels field) 0
 have pO:=zk4 (args.take r.p++ahead) (lvsT h.levels field) 0
 have pL:=(zu6 h.levels field).1
 have hT:(encTs args).take ((r.p:Int)).toNat=encTs (args.take r.p):=by rw [show ((r.p:Int)).toNat=r.p by omega];simp [zb]
 have hvv:[]++encTs (args.take r.p)++encTs ahead=encTs (args.take r.p++ahead):=by simp [zb]
 have hoc:=zst (args.take r.p++ahead) (by omega) (fun v hv=>⟨Cp.of (hvs v hv).w (by omega) (by have:=(hvs v hv).d;omega),by have:=(hvs v hv).d;omega⟩) 1099511627776 (by omega) (lvsT h.levels field) (by omega) w1
 have hlen2:(headT (piE field)).kind=2->(piL (opnT (args.take r.p++ahead) (lvsT h.levels field) 0)).length=(piL field).length:=zu9 (args.take r.p++ahead) h.levels field
 have hyd:hypF r h args field ahead bb=if (headT (piE field)).kind=2/\(headT (piE field)).name=r.fam.name then
  some (lamsT (piL (opnT (args.take r.p++ahead) (lvsT h.levels field) 0))
   (mkA (appT (appT h ((args.take (r.p+1+r.fam.ctors.length)).map fun a=>lftT (piL field).length a 0)) ((argsT (piE (opnT (args.take r.p++ahead) (lvsT h.levels field) 0))).drop r.p))
    (appT (lftT (piL field).length bb 0) (varsT (piL field).length))))
  else none:=rfl
 rw [hyd]
 generalize opnT (args.take r.p++ahead) (lvsT h.levels field) 0=O at *
 generalize hn:(piL field).length=n at *
 have hpe:=(pi_wf field hf.w).2
 have hbel:piD n field=piE field:=by rw [<- hn];exact piE_D field
 have hwD:=zyn n O wO
 have hnl:n<=100000:=by omega
 have hhc:Cp h:=Cp.of hh.w (by omega) (by have:=hh.d;omega)
 refine cv [31] [] [] Tryz.func134 123 Tryz.ntmps134 rfl rfl fun cx hE=>call0 (z7x h.levels hnar 1099511627776 field hf.w) ?_
 refine And.intro (by omega) ?_
 rw [hT]
 rw [<- hvv] at hoc
 refine app2 (by simp) (by simp;omega) (by simp;omega) (app2 (by simp) (by simp;omega) (by simp;omega) (callR [] hoc rfl rfl (.cons (Sub.refl _) (.cons Sub.ts .nil)) ?_))
 have hct:=z3i field (by omega)
 rw [hn] at hct
 refine call0 hct (call0 (zak 2199023255552 (by omega) O wO (by omega) n (by omega)) (call0 (zq9 field n (by omega) (by omega)) ?_))
 rw [hbel]
 refine call0 (z3h 1099511627776 (by omega) (piE field) hpe (by omega)) ?_
 have hno:¬ ((headT (piE field)).kind=2/\(headT (piE field)).name=r.fam.name)->∀ x,zk2 (if (headT (piE field)).kind=2/\(headT (piE field)).name=r.fam.name then x else none)=.tp [tv zT,.p (B false)]:=fun hn x=>by rw [if_neg hn];rfl
 refine brS (fun h2=>⟨by rw [hno (fun hc=>h2 hc.1)];rfl,rfl⟩) (fun h2=>brS (fun h3=>⟨by rw [hno (fun hc=>h3 hc.2)];rfl,rfl⟩) (fun h3=>?_))
 have h22:(headT (piE field)).kind=2:=by omega
 have h33:(headT (piE field)).name=r.fam.name:=Classical.byContradiction fun hh=>h3 hh
 rw [if_pos ⟨h22,h33⟩]
 have hln:=hlen2 h22
 have hOE:piD n O=piE O:=by rw [<- hln];exact piE_D O
 rw [hOE]
 have wE:=(pi_wf O wO).2
 have hplO:=z3y O
 have hsl:=zm9 (piE O) []
 refine call0 (z3h 2199023255552 (by omega) (piE O) wE (by omega)) (call0 (z1k h hhc) ?_)
 generalize hJ:argsT (piE O)=J at *
 have hJl:J.length<=1000000000:=by rw [<- hJ];unfold argsT;simp at hsl;omega
 have hJe:=zc J
 refine loop1 (fun (j:Nat)=>[(24,.p (I j))]) (fun j=>[(23,ceT (appT h ((args.take j).map fun a=>lftT n a 0)))]) (fun j=>j<=r.p+1+r.fam.ctors.length) (fun j=>r.p+1+r.fam.ctors.length-j) 0 [24] [23] hE rfl rfl rfl ⟨Sub.refl _,rfl,rfl,rfl,rfl,rfl,rfl,rfl,rfl,rfl,rfl,rfl,trivial⟩ (by omega) fun j hj=>?_
 refine And.intro (by omega) (fun _=>And.intro (by omega) (brS (fun hlt=>?_) (fun hlt=>?_)))
 ·have hjl:j<args.length:=by omega
  have hg:args[j]?=some (args.getD j zT):=by rw [List.getD_eq_getElem?_getD,List.getElem?_eq_getElem hjl];rfl
  have hrow:(encTs args)[j]?=some (rowT (args.getD j zT)):=by rw [zb,List.getElem?_map,hg];rfl
  have hga:=ha _ (List.mem_of_getElem? hg)
  have hgd:=hga.d
  have hld:=ztr (by_:=n) (args.getD j zT) 0
  have hlw:=ztq (b:=1099511627776) (c:=2199023255552) (by_:=n) (by omega) (by omega) (Int.le_refl 0) hga.w
  refine idxN hrow (call0 (z9f _ (Cp.of hga.w (by omega) (by omega)) n (by omega) (by omega) 0 (by omega) (by omega) (by omega)) (call0 (z4d _ _ (Cp.of hlw (by omega) (by omega))) (And.intro (by omega) ⟨j+1,by omega,by omega,Sub.i (by simp),?_,rfl,rfl,rfl,rfl,rfl,rfl,rfl,rfl,rfl,rfl,trivial⟩)))
  rw [z1z hg,List.map_append,List.map_cons,List.map_nil,z9i];rfl
 obtain rfl:j=r.p+1+r.fam.ctors.length:=by omega
 generalize hT1:appT h ((args.take (r.p+1+r.fam.ctors.length)).map fun a=>lftT n a 0)=T1
 refine fun _=>?_
 have hJw:∀ a∈J,Wd 2199023255552 1000000000 a:=by
  rw [<- hJ];exact (Wd.args (b:=2199023255552) (m:=1000000000) ⟨wE,by omega⟩).1
 have hDl:(J.drop r.p).length+min r.p J.length=J.length:=by rw [List.length_drop];omega
 have hDg:∀ j,j<(J.drop r.p).length->(J.drop r.p)[j]?=some ((J.drop r.p).getD j zT)/\J[min r.p J.length+j]?=some ((J.drop r.p).getD j zT):=fun j hj=>by
  have h1:(J.drop r.p)[j]?=some ((J.drop r.p).getD j zT):=by rw [List.getD_eq_getElem?_getD,List.getElem?_eq_getElem hj];rfl
  refine ⟨h1,?_⟩
  rw [List.length_drop] at hj
  rw [<- h1,List.getElem?_drop,show min r.p J.length=r.p by omega]
 refine loop1 (fun (j:Nat)=>[(25,.p (I ((min r.p J.length+j:Nat))))]) (fun j=>[(23,ceT (appT T1 ((J.drop r.p).take j)))]) (fun j=>j<=(J.drop r.p).length) (fun j=>(J.drop r.p).length-j) 0 [25] [23] hE rfl rfl rfl ⟨Sub.i (by omega),rfl,rfl,rfl,rfl,rfl,rfl,rfl,rfl,rfl,rfl,rfl,trivial⟩ (by omega) fun j hj=>?_
 refine fun _=>brS (fun hlt=>?_) (fun hlt=>?_)
 ·have hjl:j<(J.drop r.p).length:=by omega
  obtain ⟨g1,g2⟩:=hDg j hjl
  have hrow:(encTs J)[min r.p J.length+j]?=some (rowT ((J.drop r.p).getD j zT)):=by rw [zb,List.getElem?_map,g2];rfl
  have hw:=hJw _ (List.mem_of_getElem? g2)
  have hwd:=hw.d
  refine idxN hrow (call0 (z4d _ _ (Cp.of hw.w (by omega) (by omega))) (And.intro (by omega) ⟨j+1,by omega,by omega,Sub.i (by omega),?_,rfl,rfl,rfl,rfl,rfl,rfl,rfl,rfl,rfl,rfl,trivial⟩))
  rw [z1z g1,z9i];rfl
 obtain rfl:j=(J.drop r.p).length:=by omega
 rw [List.take_length]
 generalize hT2:appT T1 (J.drop r.p)=T2
 have hbd:=hb.d
 have wb:Wd 2199023255552 268435456 (lftT n bb 0):=(Wd.lift (b:=1099511627776) ⟨hb.w,hb.d⟩ n).mono (by omega) (Nat.le_refl _)
 have wv:∀ v∈varsT n,Wd 2199023255552 268435456 v:=fun v hv=>by
  obtain ⟨k,hk,rfl⟩:=zdz hv
  exact zug (by omega) (by omega)
 have wa:=Wd.app (b:=2199023255552) (by omega) wb wv (n:=100000) (by rw [z4y];omega)
 have wT1:Wd 2199023255552 (268435456+268435456) T1:=by
  rw [<- hT1]
  refine Wd.app (by omega) ⟨z1b (by omega) h hh.w,hh.d⟩ (fun a h=>?_) (by simp;omega)
  obtain ⟨x,hx,rfl⟩:=List.mem_map.1 h
  have hg:=ha x (List.mem_of_mem_take hx)
  exact (Wd.lift (b:=1099511627776) ⟨hg.w,hg.d⟩ n).mono (by omega) (Nat.le_refl _)
 have wT2:Wd 2199023255552 (1000000000+1000000000) T2:=by
  rw [<- hT2]
  exact Wd.app (by omega) (wT1.mono (Int.le_refl _) (by omega)) (fun a h=>hJw a (List.mem_of_mem_drop h)) (by omega)
 have wM:=Wd.mkA (by omega) (wT2.mono (k:=2000000000) (Int.le_refl _) (by omega)) (wa.mono (k:=2000000000) (Int.le_refl _) (by omega))
 have hWd:=wM.d
 have hWa:=wa.d
 have hWb:=wb.d
 have cpv:∀ v∈varsT n,Cp v:=fun v hv=>Cp.of (wv v hv).w (by omega) (by have:=(wv v hv).d;omega)
 have hxs:∀ x∈piL O,Cp x:=fun x hx=>by
  have:=(pi_wf O wO).1 x hx
  exact Cp.of this.1 (by omega) (by omega)
 rw [<- hln,List.take_length,hln]
 refine call0 (z9f bb (Cp.of hb.w (by omega) (by omega)) n (by omega) (by omega) 0 (by omega) (by omega) (by omega)) (call0 (zss n (by omega)) (call0 (z2z _ (Cp.of wb.w (by omega) (by omega)) (varsT n) cpv (by rw [z4y];omega)) (call0 (z4d T2 _ (Cp.of wa.w (by omega) (by omega))) (call0 (zsr (piL O) _ (Cp.of wM.w (by omega) (by omega)) hxs (by omega)) ⟨rfl,rfl⟩))))
theorem zon {ds:List Dcl} {h:Trm} {r:RecI} (hr:z1u ds h=some r):(r.major:Int)=r.p+1+r.fam.ctors.length+((piL r.fam.type).length-r.p)/\r.p<=(piL r.fam.type).length:=by
 unfold z1u at hr
 split at hr
 ·split at hr
  ·cases hr
  ·split at hr
   ·split at hr
    ·cases hr
    ·split at hr
     ·cases hr;exact ⟨by simp only;omega,by simp only;omega⟩
     ·cases hr
   ·cases hr
 ·cases hr
set_option maxHeartbeats 8000000 in
theorem zuj (ds:List Dcl) (b:Int) (hER:EnvR ds) (t major:Trm) (ht:Gd t) (hj:Gd major):Con Tryz.prog 83 [.ptr 1000 0,tv t,tv major] (refE 1000 ds b) (fun r o=>r=zk2 (iotaF ds t major)/\o=refE 1000 ds b):=by
 have hal:=ht.args
 have hel:=zc (argsT t)
 have hhg:=ht.head
 have hd:=ht.d
 have hjd:=hj.d
 have hja:=hj.args
 have hhl:=zc (argsT major)
 have hlf:=(zf hhg.w).few
 rw [z7h]
 refine cv [] [] [1000,1001] Tryz.func83 128 Tryz.ntmps83 rfl rfl fun cx hE=>call0 (z3h 1099511627776 (by omega) t ht.w (by omega)) ?_
 have hrc:=zft ds b hER (headT t) (by omega)
 rcases zfs hER (headT t) with ⟨r,hi,hv⟩ | ⟨hi,f0,p0,i0,hv⟩
 case inr =>
  rw [hv] at hrc
  rw [hi]
  exact callR [1000,1001] hrc rfl rfl (za _) (brB (fun _=>⟨rfl,rfl⟩) (fun hh=>by cases hh))
 case inl =>
  rw [hv] at hrc
  rw [hi]
  refine callR [1000,1001] hrc rfl rfl (za _) ?_
  have hri:=zon hi
  have hrm:=(z5k hi).1
  have hfo:=hER.g _ hrm
  have hfo2:=hfo
  simp only [okE,Bool.and_eq_true,decide_eq_true_eq,List.all_eq_true] at hfo
  obtain ⟨ho1,ho2,ho3,ho4,ho5,ho6⟩:=hfo
  have htd:=(z2q ho1).d
  have hpl:=z3y r.fam.type
  simp only [Option.bind_some]
  have hmaj:=zfr r.fam r.p ((r.major:Int)-r.p-1-r.fam.ctors.length) ho3 (by omega) (by omega) (by omega) (by omega)
  rw [show (r.p:Int)+1+r.fam.ctors.length+((r.major:Int)-r.p-1-r.fam.ctors.length)=r.major by omega] at hmaj
  generalize hI:(r.major:Int)-r.p-1-r.fam.ctors.length=ii at *
  refine brB (fun hh=>by cases hh) (fun _=>fun _=>call0 hmaj (brS (fun hle=>?_) (fun hle=>?_)))
  ·rw [if_neg (by omega)];exact ⟨rfl,rfl⟩
  have hlt:r.major<(argsT t).length:=by omega
  rw [if_pos hlt]
  refine call0 (z3h 1099511627776 (by omega) major hj.w (by omega)) (brS (fun hk=>?_) (fun hk=>?_))
  ·have:iotR r (headT t) (argsT t) major=none:=by unfold iotR;rw [if_neg hk]
   rw [this];exact ⟨rfl,rfl⟩
  have hk2:(headT major).kind=2:=Classical.byContradiction fun hn=>hk hn
  refine call0 (zui r.fam r.p ii (headT major).name ho3) ?_
  cases hcx:z1y r.fam.ctors (headT major).name with
  | none =>
    have:iotR r (headT t) (argsT t) major=none:=by unfold iotR;rw [if_pos hk2,hcx]
    rw [this]
    exact brS (fun _=>⟨rfl,rfl⟩) (fun hn=>absurd (by decide) hn)
  | some k =>
    obtain ⟨hkl,hkn⟩:=z6n hcx
    have hct:r.fam.ctors[k]?=some (r.fam.ctors.getD k default):=by rw [List.getD_eq_getElem?_getD,List.getElem?_eq_getElem hkl];rfl
    have hcm:=List.mem_of_getElem? hct
    have hir:iotR r (headT t) (argsT t) major=if (argsT major).length=r.p+((piL (r.fam.ctors.getD k default).ty).length-r.p) then
      some (appT (hypsF r (headT t) (argsT t) ((piL (r.fam.ctors.getD k default).ty).drop r.p) [] ((argsT major).drop r.p)
       (appT ((argsT t).getD (r.p+1+k) zT) ((argsT major).drop r.p))) ((argsT t).drop (r.major+1))) else none:=by
     unfold iotR;rw [if_pos hk2,hcx]
    have hfc:=zmb r.fam hfo2 r.p ii k _ hct (by omega)
    generalize r.fam.ctors.getD k default=ctr at *
    have hty:=z2q (ho4 ctr hcm).1
    have htyd:=hty.d
    have htyl:=z3y ctr.ty
    have hfl:((piL ctr.ty).drop r.p).length=(piL ctr.ty).length-r.p:=by rw [List.length_drop]
    have hfe:=zc ((piL ctr.ty).drop r.p)
    rw [hir]
    simp only [ctI]
    have hF:(encTs (argsT major)).drop ((r.p:Int)).toNat=encTs ((argsT major).drop r.p):=by rw [show ((r.p:Int)).toNat=r.p by omega];simp [zb]
    have hFg:∀ a∈(argsT major).drop r.p,Gd a:=fun a hm=>hja.1 a (List.mem_of_mem_drop hm)
    have hFe:=zc ((argsT major).drop r.p)
    refine brZ (by omega) (call0 hfc (And.intro (by omega) (brS (fun hne=>?_) (fun heq=>?_))))
    ·rw [if_neg (by omega)];exact ⟨rfl,rfl⟩
    have hlen:(argsT major).length=r.p+((piL ctr.ty).length-r.p):=by omega
    have hFl:((argsT major).drop r.p).length=(piL ctr.ty).length-r.p:=by rw [List.length_drop];omega
    rw [if_pos hlen]
    have hi1:(r.p:Int)+1+(k:Int)=((r.p+1+k:Nat):Int):=by omega
    have hag:(argsT t)[r.p+1+k]?=some ((argsT t).getD (r.p+1+k) zT):=by rw [List.getD_eq_getElem?_getD,List.getElem?_eq_getElem (by omega)];rfl
    have hrow2:(encTs (argsT t))[r.p+1+k]?=some (rowT ((argsT t).getD (r.p+1+k) zT)):=by rw [zb,List.getElem?_map,hag];rfl
    have hog:=hal.1 _ (List.mem_of_getElem? hag)
    have hogd:=hog.d
    have cpG:∀ {x:Trm},Gd x->Cp x:=fun h=>Cp.of h.w (by omega) (by have:=h.d;omega)
    refine And.intro (by omega) (And.intro (by omega) ?_)
    rw [hi1]
    refine idxN hrow2 (And.intro (by omega) ?_)
    rw [hF]
    refine call0 (z2z _ (cpG hog) ((argsT major).drop r.p) (fun a h=>cpG (hFg a h)) (by omega)) (call0 hfc ?_)
    have wU0:Wd 2199023255552 (268435456+268435456) (appT ((argsT t).getD (r.p+1+k) zT) ((argsT major).drop r.p)):=Wd.app (by omega) ⟨z1b (by omega) _ hog.w,hog.d⟩ (fun a h=>⟨z1b (by omega) a (hFg a h).w,(hFg a h).d⟩) (by omega)
    generalize appT ((argsT t).getD (r.p+1+k) zT) ((argsT major).drop r.p)=U0 at *
    generalize hfs:(piL ctr.ty).drop r.p=fs at *
    refine loop1 (fun (j:Nat)=>[(17,.p (I j))]) (fun j=>[(15,ceT (hypsF r (headT t) (argsT t) (fs.take j) [] (((argsT major).drop r.p).take j) U0))]) (fun j=>j<=fs.length) (fun j=>fs.length-j) 0 [17] [15] hE rfl rfl rfl ⟨Sub.refl _,rfl,rfl,rfl,rfl,rfl,rfl,rfl,rfl,rfl,trivial⟩ (by omega) fun j hj=>?_
    have hUw:∀ i,i<=fs.length->Wd 2199023255552 4000000000 (hypsF r (headT t) (argsT t) (fs.take i) [] (((argsT major).drop r.p).take i) U0):=fun i hi=>by
     have:=zma (r:=r) (b:=1099511627776) (b':=2199023255552) (by omega) (m:=268435456) (e:=100000) (K:=1700000000) (by omega) (by omega) (by omega) (by omega) (h:=headT t) (args:=argsT t) ⟨hhg.w,hhg.d⟩ (fun a h=>⟨(hal.1 a h).w,(hal.1 a h).d⟩) hal.2 (fs.take i) [] (((argsT major).drop r.p).take i) U0 0 (fun a h=>?_) (fun a h=>by cases h) (fun a h=>?_) (wU0.mono (Int.le_refl _) (by omega))
     ·exact this.mono (Int.le_refl _) (by rw [List.length_take];omega)
     ·have hm:=List.mem_of_mem_take h
      rw [<- hfs] at hm
      have:=(pi_wd (b:=1099511627776) (m:=100000) ⟨hty.w,htyd⟩).1 a (List.mem_of_mem_drop hm)
      exact this
     ·have:=hFg a (List.mem_of_mem_take h)
      exact ⟨this.w,this.d⟩
    refine fun _=>brS (fun hlt2=>?_) (fun hlt2=>?_)
    ·have hjl:j<fs.length:=by omega
     have hgf:fs[j]?=some (fs.getD j zT):=by rw [List.getD_eq_getElem?_getD,List.getElem?_eq_getElem hjl];rfl
     have hgb:((argsT major).drop r.p)[j]?=some (((argsT major).drop r.p).getD j zT):=by rw [List.getD_eq_getElem?_getD,List.getElem?_eq_getElem (by omega)];rfl
     have hgb2:(argsT major)[r.p+j]?=some (((argsT major).drop r.p).getD j zT):=by rw [<- hgb,List.getElem?_drop]
     have hrf:(encTs fs)[j]?=some (rowT (fs.getD j zT)):=by rw [zb,List.getElem?_map,hgf];rfl
     have hrb:(encTs (argsT major))[r.p+j]?=some (rowT (((argsT major).drop r.p).getD j zT)):=by rw [zb,List.getElem?_map,hgb2];rfl
     have hfm:Fz 100000 (fs.getD j zT):=by
      have hm:fs.getD j zT∈(piL ctr.ty).drop r.p:=by rw [hfs];exact List.mem_of_getElem? hgf
      exact (Fz.pi _ hty).1 _ (List.mem_of_mem_drop hm)
     have hbm:=hFg _ (List.mem_of_getElem? hgb)
     have hsn:hypsF r (headT t) (argsT t) (fs.take (j+1)) [] (((argsT major).drop r.p).take (j+1)) U0=addH (hypsF r (headT t) (argsT t) (fs.take j) [] (((argsT major).drop r.p).take j) U0) (hypF r (headT t) (argsT t) (fs.getD j zT) (((argsT major).drop r.p).take j) (((argsT major).drop r.p).getD j zT)):=by
      rw [z1z hgf,z1z hgb,zav _ _ _ _ _ _ _ _ _ (by rw [List.length_take,List.length_take];omega),List.nil_append]
     have hUj:=hUw j (by omega)
     have hS:((encTs (argsT major)).take (((r.p:Int)+j)).toNat).drop ((r.p:Int)).toNat=encTs (((argsT major).drop r.p).take j):=by
      rw [show ((r.p:Int)).toNat=r.p by omega,show (((r.p:Int)+j)).toNat=r.p+j by omega]
      simp [zb,List.drop_take]
     have hyc:=zxq r ii (headT t) (argsT t) (fs.getD j zT) (((argsT major).drop r.p).take j) (((argsT major).drop r.p).getD j zT) hhg hal.1 hal.2 ho3 (by omega) hfm (fun a h=>hFg a (List.mem_of_mem_take h)) (by simp;omega) hbm
     generalize hypsF r (headT t) (argsT t) (fs.take j) [] (((argsT major).drop r.p).take j) U0=U at *
     refine idxN hrf (And.intro (by omega) (And.intro (by omega) (And.intro (by omega) ?_)))
     rw [hS,show (r.p:Int)+(j:Int)=((r.p+j:Nat):Int) by omega]
     refine And.intro (by omega) (idxN hrb (call0 hyc ?_))
     cases hyx:hypF r (headT t) (argsT t) (fs.getD j zT) (((argsT major).drop r.p).take j) (((argsT major).drop r.p).getD j zT) with
     | none =>
       rw [hyx] at hsn
       exact brB (fun hh=>by cases hh) (fun _=>And.intro (by omega) ⟨j+1,by omega,by omega,Sub.i (by simp),by rw [hsn];rfl,rfl,rfl,rfl,rfl,rfl,rfl,rfl,rfl,trivial⟩)
     | some x =>
       rw [hyx] at hsn
       have hxw:=zyl (b:=1099511627776) (by omega) (m:=268435456) (e:=100000) (by omega) (by omega) (h:=headT t) (args:=argsT t) ⟨hhg.w,hhg.d⟩ (fun a h=>⟨(hal.1 a h).w,(hal.1 a h).d⟩) hal.2 (fun a h=>⟨(hFg a (List.mem_of_mem_take h)).w,(hFg a (List.mem_of_mem_take h)).d⟩) ⟨hfm.w,hfm.d⟩ ⟨hbm.w,hbm.d⟩ hyx
       have hxd:=hxw.d
       exact brB (fun _=>call0 (z4d U x (Cp.of hxw.w (by omega) (by omega))) (And.intro (by omega) ⟨j+1,by omega,by omega,Sub.i (by simp),by rw [hsn];rfl,rfl,rfl,rfl,rfl,rfl,rfl,rfl,rfl,trivial⟩)) (fun hh=>by cases hh)
    ·obtain rfl:j=fs.length:=by omega
     have hUe:=hUw fs.length (Nat.le_refl _)
     rw [List.take_length,List.take_of_length_le (by omega)] at hUe
     rw [List.take_length,List.take_of_length_le (by omega)]
     have hUd:=hUe.d
     have hD:(encTs (argsT t)).drop ((r.major:Int)+1).toNat=encTs ((argsT t).drop (r.major+1)):=by rw [show ((r.major:Int)+1).toNat=r.major+1 by omega];simp [zb]
     refine call0 hmaj (And.intro (by omega) (And.intro (by omega) ?_))
     rw [hD]
     exact call0 (z2z _ (Cp.of hUe.w (by omega) (by omega)) ((argsT t).drop (r.major+1)) (fun a h=>cpG (hal.1 a (List.mem_of_mem_drop h))) (by simp;omega)) ⟨rfl,rfl⟩
theorem z9r (f c:Int) (hm:Mt f c) (u:Trm) (x:OR) (hx:mdF c f u=some x):PCon Tryz.prog 76 [mv f c,tv u] (onV c x):=by
 have h0:=hm.f0;have h1:=hm.f1;have h2:=hm.c0;have h3:=hm.c1
 have hs:=zsu f c (by omega) (by omega)
 have hf:=zsw (f-1) c u h2 h3
 unfold mdF at hx
 unfold stepF at hs
 unfold fitsE at hf
 by_cases hf0:f<=0
 ·rw [if_pos hf0] at hx;cases hx
  rw [if_pos hf0,if_pos hf0] at hs
  exact cv [] [] [] Tryz.func76 29 Tryz.ntmps76 rfl rfl fun cx hE=>call0 hs (brS (fun _=>⟨rfl,rfl⟩) (fun hh=>absurd (by decide) hh))
 ·rw [if_neg hf0] at hx
  rw [if_neg hf0,if_neg hf0] at hs
  split at hx
  ·split at hx
   ·rename_i hft
    cases hx
    rw [if_pos hft] at hf
    exact cv [] [] [] Tryz.func76 29 Tryz.ntmps76 rfl rfl fun cx hE=>call0 hs (brS (fun hh=>absurd rfl hh) (fun _=>call0 hf (brS (fun hh=>absurd rfl hh) (fun _=>⟨rfl,rfl⟩))))
   ·rename_i hft
    cases hx
    rw [if_neg hft] at hf
    exact cv [] [] [] Tryz.func76 29 Tryz.ntmps76 rfl rfl fun cx hE=>call0 hs (brS (fun hh=>absurd rfl hh) (fun _=>call0 hf (brS (fun _=>⟨rfl,rfl⟩) (fun hh=>absurd (by decide) hh))))
  ·cases hx
theorem zz0w (o:Option Dcl):fndD o=.tp [dv (o.getD zD),.p (B o.isSome)]:=by cases o<;>rfl
def RWhC (ds:List Dcl) (b c:Int) (t:Trm) (f:Int) (x:WR):Prop:=Con Tryz.prog 40 [.ptr 1000 0,tv t,mv f c] (refE 1000 ds b) (fun r o=>r=xwV c x/\o=refE 1000 ds b)
def ROnC (ds:List Dcl) (b c:Int) (t:Trm) (f:Int) (x:OR):Prop:=Con Tryz.prog 35 [.ptr 1000 0,tv t,mv f c] (refE 1000 ds b) (fun r o=>r=onV c x/\o=refE 1000 ds b)
set_option maxHeartbeats 8000000 in
theorem zuk (ds : List Dcl) (b:Int) (hER:EnvR ds) (c:Int) (wh:Trm->Int->Option WR) (hk:∀ t f u f' e,Gd t->wh t f=some (u,f',e)->Gd u/\Fu f f') (t:Trm) (hg:Gd t) (f:Int) (hm:Mt f c) (ih:∀ t f x,Gd t->Mt f c->wh t f=some x->RWhC ds b c t f x) (x:OR) (hx:onF ds c wh t f=some x):ROnC ds b c t f x:=by
 have hal:=hg.args
 have hel:=zc (argsT t)
 have hhg:=hg.head
 have hd:=hg.d
 have hll:=zq (headT t).levels
 have hlf:=(zf hhg.w).few
 have hld:=hER.l
 have cpG:∀ {x:Trm},Gd x->Cp x:=fun h=>Cp.of h.w (by omega) (by have:=h.d;omega)
 have cpt:=cpG hg
 have cpO:∀ {body v:Trm},Gd body->Gd v->Cp (opnT [v] body 0):=fun {body v} g1 g2=>by
  have e1:=zoc (b:=1099511627776) (c:=2199023255552) (D:=268435456) (d:=0) (vs:=[v]) (t:=body) (by omega) (by have:=g1.d;omega) (by omega) (fun x hx=>by simp at hx;subst hx;exact g2.w) g1.w
  have e2:=zjw (M:=268435456) (vs:=[v]) (fun x hx=>by simp at hx;subst hx;exact g2.d) body 0
  have:=g1.d
  exact Cp.of e1 (by omega) (by omega)
 unfold ROnC
 have stay:∀ {y:OR},some (t,false,f,(0:Int))=some y->y=(t,false,f,0):=fun e=>by cases e;rfl
 have hon:∀ y,onF ds c wh t f=some y->x=y:=fun y hy=>by rw [hx] at hy;cases hy;rfl
 have stuck:¬ ((headT t).kind=4/\argsT t≠[])->(headT t).kind≠6->(headT t).kind≠2->x=(t,false,f,0):=fun n1 n2 n3=>hon _ (by unfold onF;rw [if_neg n1,if_neg n2,if_neg n3])
 refine cv [] [1000010] [1000,1001] Tryz.func35 154 Tryz.ntmps35 rfl rfl fun cx hE=>call0 (z3h 1099511627776 (by omega) t hg.w (by omega)) ?_
 refine brS (fun h4=>fun _=>brS (fun h5=>?_) (fun h5=>?_)) (fun h4=>brS (fun h6=>?_) (fun h6=>brS (fun h2=>?_) (fun h2=>?_)))
 ·have hne:argsT t≠[]:=fun hn=>by
   have:(argsT t).length=0:=by rw [hn];rfl
   omega
  obtain ⟨a0,rest,har⟩:=List.exists_cons_of_ne_nil hne
  obtain ⟨ty,body,hba⟩:=z4q hhg.w (.inr (.inl h4))
  unfold onF at hx
  rw [if_pos ⟨h4,hne⟩,har,hba] at hx
  simp only [List.getD_cons_zero,List.getD_cons_succ,List.drop_one,List.tail_cons] at hx
  have gb:=hhg.sub (a:=body) (by rw [hba];simp)
  have ga:=hal.1 a0 (by rw [har];simp)
  have gr:∀ a∈rest,Cp a:=fun a h=>cpG (hal.1 a (by rw [har];simp [h]))
  have hrl:rest.length<=1000000000:=by have:=hal.2;rw [har] at this;simp at this;omega
  have r1:(encTs (headT t).args)[1]?=some (rowT body):=by rw [hba];simp [zb]
  have r0:(encTs (argsT t))[0]?=some (rowT a0):=by rw [har];simp [zb]
  have hD:(encTs (argsT t)).drop (1:Int).toNat=encTs rest:=by rw [har];simp [zb]
  refine idxN (i:=1) r1 (idxN (i:=0) r0 (call0 (zbj 1099511627776 (by omega) a0 (cpG ga) (by have:=ga.d;omega) body gb.w (by have:=gb.d;omega)) (And.intro (by omega) ?_)))
  rw [hD]
  exact call0 (z2z _ (cpO gb ga) rest gr (by omega)) (call0 (z9r f c hm _ x hx) ⟨rfl,rfl⟩)
 ·have hn:argsT t=[]:=List.eq_nil_of_length_eq_zero (by omega)
  rw [stuck (fun hc=>hc.2 hn) (by omega) (by omega)]
  exact call0 (z1k t cpt) ⟨rfl,rfl⟩
 ·have hn:=(zf hhg.w).args
  have h3:(headT t).args.length=3:=by rw [h6] at hn;unfold argF at hn;simp at hn;omega
  obtain ⟨a,v,d,ha⟩:=zoj h3
  unfold onF at hx
  rw [if_neg (fun hc=>by omega),if_pos h6,ha] at hx
  have gd:=hhg.sub (a:=d) (by rw [ha];simp)
  have gv:=hhg.sub (a:=v) (by rw [ha];simp)
  have r2:(encTs (headT t).args)[2]?=some (rowT d):=by rw [ha];simp [zb]
  have r1:(encTs (headT t).args)[1]?=some (rowT v):=by rw [ha];simp [zb]
  exact idxN (i:=2) r2 (idxN (i:=1) r1 (call0 (zbj 1099511627776 (by omega) v (cpG gv) (by have:=gv.d;omega) d gd.w (by have:=gd.d;omega)) (call0 (z2z _ (cpO gd gv) (argsT t) (fun a h=>cpG (hal.1 a h)) (by omega)) (call0 (z9r f c hm _ x hx) ⟨rfl,rfl⟩))))
 ·have hfd := zaw ds b (headT t).name (by omega) hER.c
  rw [zz0w] at hfd
  refine callR [1000,1001] hfd rfl rfl (za _) ?_
  have hrc:=zft ds b hER (headT t) (by omega)
  refine join1 (A:=Unit) (fun _=>[]) (fun _=>[]) (fun _=>rcF ds c wh t f=some x) [] [] [] hE rfl rfl rfl ?_ (fun _ hrec=>?_)
  ·cases hf:findD ds (headT t).name with
   | none =>
     have hi:lookF ds t=none:=by unfold lookF z1u;rw [if_pos h2,hf];rfl
     have:x=(t,false,f,0):=hon _ (by unfold onF;rw [if_neg (fun hc=>by omega),if_neg h6,if_pos h2,hf])
     refine brB (fun hh=>by cases hh) (fun _=>⟨(),by unfold rcF;rw [hi,this],leX.same ⟨rfl,rfl,rfl,rfl,rfl,rfl,rfl,rfl,trivial⟩⟩)
   | some d =>
     have hdo:=hER.g d (z3c hf)
     simp only [okE,Bool.and_eq_true,decide_eq_true_eq,List.all_eq_true] at hdo
     obtain ⟨ho1,ho2,ho3,ho4,ho5,ho6⟩:=hdo
     have hvf:=z2q ho2
     have hlw:=zaj (zf hhg.w).nar d.value hvf.w
     have hvd:=hvf.d
     have hrec:¬ (d.kind=2/\d.params=(headT t).levels.length)->rcF ds c wh t f=some x:=fun hn=>by rw [<- zud ds h2 hf hn];exact hx
     refine brB (fun _=>brS (fun hd2=>fun _=>brS (fun hpp=>?_) (fun hpp=>⟨(),hrec (fun hc=>hpp (by simp only [Option.getD_some];omega)),leX.same ⟨rfl,rfl,rfl,rfl,rfl,rfl,rfl,rfl,trivial⟩⟩)) (fun hd2=>⟨(),hrec (fun hc=>hd2 hc.1),leX.same ⟨rfl,rfl,rfl,rfl,rfl,rfl,rfl,rfl,trivial⟩⟩)) (fun hh=>by cases hh)
     have hmd:mdF c f (appT (lvsT (headT t).levels d.value) (argsT t))=some x:=by
      unfold onF at hx
      rw [if_neg (fun hc=>by omega),if_neg h6,if_pos h2,hf] at hx
      simp only at hx
      rw [if_pos ⟨hd2,by simp only [Option.getD_some] at hpp;omega⟩] at hx
      exact hx
     exact call0 (z7x (headT t).levels (zf hhg.w).nar 1099511627776 d.value hvf.w) (call0 (z2z _ (Cp.of hlw (by omega) (by rw [zfo];omega)) (argsT t) (fun a h=>cpG (hal.1 a h)) (by omega)) (call0 (z9r f c hm _ x hmd) ⟨rfl,rfl⟩))
  ·unfold rcF lookF at hrec
   rcases zfs hER (headT t) with ⟨r,hi,hv⟩ | ⟨hi,f0,p0,i0,hv⟩
   case inr =>
    rw [hi] at hrec
    rw [stay hrec]
    rw [hv] at hrc
    exact callR [1000,1001] hrc rfl rfl (za _) (brB (fun hh=>by cases hh) (fun _=>call0 (z1k t cpt) ⟨rfl,rfl⟩))
   case inl =>
    rw [hv] at hrc
    refine callR [1000,1001] hrc rfl rfl (za _) ?_
    rw [hi] at hrec
    have hri:=zon hi
    have hrm:=(z5k hi).1
    have hfo:=hER.g _ hrm
    simp only [okE,Bool.and_eq_true,decide_eq_true_eq,List.all_eq_true] at hfo
    obtain ⟨ho1,ho2,ho3,ho4,ho5,ho6⟩:=hfo
    have htd:=(z2q ho1).d
    have hpl:=z3y r.fam.type
    have hmaj:=zfr r.fam r.p ((r.major:Int)-r.p-1-r.fam.ctors.length) ho3 (by omega) (by omega) (by omega) (by omega)
    rw [show (r.p:Int)+1+r.fam.ctors.length+((r.major:Int)-r.p-1-r.fam.ctors.length)=r.major by omega] at hmaj
    simp only [Option.bind_some] at hrec
    refine brB (fun _=>fun _=>call0 hmaj (brS (fun hgt=>?_) (fun hgt=>?_))) (fun hh=>by cases hh)
    ·have hlt:r.major<(argsT t).length:=by omega
     rw [if_pos hlt] at hrec
     simp only at hrec
     have hag:(argsT t)[r.major]?=some ((argsT t).getD r.major zT):=by rw [List.getD_eq_getElem?_getD,List.getElem?_eq_getElem hlt];rfl
     have hrow:(encTs (argsT t))[r.major]?=some (rowT ((argsT t).getD r.major zT)):=by rw [zb,List.getElem?_map,hag];rfl
     have hga:=hal.1 _ (List.mem_of_getElem? hag)
     refine call0 hmaj (idxN hrow ?_)
     cases hw:wh ((argsT t).getD r.major zT) f with
     | none=>rw [hw] at hrec;cases hrec
     | some y =>
       have hkk:=hk _ _ y.1 y.2.1 y.2.2 hga hw
       have hc:=ih _ f y hga hm hw
       rw [hw] at hrec
       obtain ⟨m,f1,e⟩:=y
       simp only at hrec hkk
       have hm1:=hm.fu hkk.2
       refine callR [1000,1001] hc rfl rfl (za _) ?_
       refine brS (fun he=>?_) (fun he=>?_)
       ·rw [if_pos he] at hrec;cases hrec;exact ⟨rfl,rfl⟩
       ·rw [if_neg he] at hrec
        have hio:=zuj ds b hER t m hg hkk.1
        rw [z7h,hi] at hio
        simp only [Option.bind_some,if_pos hlt] at hio
        refine callR [1000,1001] hio rfl rfl (za _) ?_
        cases hiu:iotR r (headT t) (argsT t) m with
        | none =>
          rw [hiu] at hrec
          simp only [Option.some.injEq] at hrec
          subst hrec
          exact brB (fun hh=>by cases hh) (fun _=>call0 (z1k t cpt) ⟨rfl,rfl⟩)
        | some u =>
          rw [hiu] at hrec
          exact brB (fun _=>call0 (z9r f1 c hm1 u x hrec) ⟨rfl,rfl⟩) (fun hh=>by cases hh)
    ·rw [if_neg (by omega)] at hrec
     rw [stay hrec]
     exact call0 (z1k t cpt) ⟨rfl,rfl⟩
 ·rw [stuck (fun hc=>h4 hc.1) h6 h2]
  exact call0 (z1k t cpt) ⟨rfl,rfl⟩
set_option maxHeartbeats 8000000 in
theorem zul (ds:List Dcl) (b:Int) (hER:EnvR ds) (c:Int) (g:Nat):∀ (t:Trm) (f:Int) (x:WR),Gd t->Mt f c->whF ds c g t f=some x->RWhC ds b c t f x:=by
 induction g using Nat.strongRecOn with
 | _ g IH =>
   intro t f x hg hm hx
   unfold RWhC
   refine cv [] [] [1000,1001] Tryz.func40 33 Tryz.ntmps40 rfl rfl fun cx hE=>?_
   refine loop3 (fun (k:Nat) (u:Trm) (e:Int)=>[]) (fun k u e=>[(4,ceT u),(5,.ce 40 [.p (I e),.p (I c)])]) (fun k u e=>k<=g/\whF ds c k u e=some x/\Gd u/\Mt e c) (fun k u e=>k) g t f [] [4,5] hE rfl rfl rfl ⟨rfl,rfl,rfl,rfl,rfl,rfl,trivial⟩ ⟨Nat.le_refl _,hx,hg,hm⟩ fun k u e ⟨i1,i2,i3,i4⟩=>?_
   cases k with
   | zero=>cases i2
   | succ k =>
     simp only [whF] at i2
     cases ho:onF ds c (whF ds c k) u e with
     | none=>rw [ho] at i2;cases i2
     | some y =>
       rw [ho] at i2
       have hkk:=z9q (fun t f u f' e=>z2a k t f u f' e) (u:=y.1) (did:=y.2.1) (f':=y.2.2.1) (e:=y.2.2.2) i3 ho
       have hc:=zuk ds b hER c (whF ds c k) (fun t f u f' e=>z2a k t f u f' e) u i3 e i4 (IH k (by omega)) y ho
       obtain ⟨v,did,e1,er⟩:=y
       simp only at i2 hkk
       refine callR [1000,1001] hc rfl rfl (za _) (brS (fun he=>?_) (fun he=>?_))
       ·rw [if_pos he] at i2;cases i2;exact ⟨rfl,rfl⟩
       ·rw [if_neg he] at i2
        cases did with
        | false =>
          simp only [Bool.false_eq_true,if_false] at i2
          cases i2
          exact brB (fun _=>⟨rfl,rfl⟩) (fun hh=>by cases hh)
        | true =>
          simp only [if_true] at i2
          exact brB (fun hh=>by cases hh) (fun _=>⟨k,v,e1,⟨by omega,i2,hkk.1,i4.fu hkk.2⟩,by omega,rfl,rfl,rfl,rfl,rfl,rfl,trivial⟩)
def byts (l:List Int):List (List PV):=l.map fun n=>[U8 n]
@[simp] theorem z7k (l:List Int):(byts l).length=l.length:=by simp [byts]
def okB (l:List Int):Prop:=∀ n∈l,0<=n/\n<=255
theorem zz2m {l:List Int} (h:okB l) (m:Nat):0<=l.getD m 0/\l.getD m 0<=255:=by
 rcases Nat.lt_or_ge m l.length with hm | hm
 ·have:=h _ (List.getElem_mem hm);simp [List.getD_eq_getElem?_getD,hm];exact this
 ·simp [List.getD_eq_getElem?_getD,hm]
def nxt (l:List Int) (a n:Int):Int:=if a≥l.length\/n<1 then 0 else l.getD a.toNat 0 % n
def nxA (l:List Int) (a n:Int):Int:=if a≥l.length\/n<1 then a else a+1
abbrev pkO (l:List Int) (a:Int):Obs:=[(1000,.ce 96 [.p (.sl 1 (byts l)),.p (I a)])]
theorem zhj (l:List Int):Con Tryz.prog 21 [.p (.sl 1 (byts l))] [] (fun r o=>r=.ptr 5 0/\o=[(5,.ce 96 [.p (.sl 1 (byts l)),.p (I 0)])]) :=
 cv [] [] [5] Tryz.func21 6 Tryz.ntmps21 rfl rfl fun cx hE=>⟨rfl,rfl⟩
theorem zhk (l:List Int) (hl:okB l) (hlen:l.length<=1000000) (a n:Int) (h0:0<=a) (h1:a<=1000000) (hn:n<=1000000) :
  Con Tryz.prog 60 [.ptr 1000 0,.p (I n)] (pkO l a) (fun r o=>r=.p (I (nxt l a n))/\o=pkO l (nxA l a n)):=by
 have hbl:=z7k l
 refine cv [] [] [1000] Tryz.func60 40 Tryz.ntmps60 rfl rfl fun cx hE=>brS (fun hp=>?_) (fun hp=>brS (fun hq=>?_) (fun hq=>?_))
 ·unfold nxt nxA;rw [if_pos (.inl (by omega)),if_pos (.inl (by omega))];exact ⟨rfl,rfl⟩
 ·unfold nxt nxA;rw [if_pos (.inr (by omega)),if_pos (.inr (by omega))];exact ⟨rfl,rfl⟩
 ·have hb:=zz2m hl a.toNat
  have hg:l[a.toNat]?=some (l.getD a.toNat 0):=by rw [List.getD_eq_getElem?_getD,List.getElem?_eq_getElem (by omega)];rfl
  have hr:(byts l)[a.toNat]?=some [U8 (l.getD a.toNat 0)]:=by simp only [byts,List.getElem?_map,hg];rfl
  have e:(a+1-1)=(a.toNat:Int):=by omega
  unfold nxt nxA;rw [if_neg (by omega),if_neg (by omega)]
  refine And.intro (by omega) (And.intro (by omega) ?_)
  rw [e]
  refine idxN hr (And.intro (by omega) (And.intro (by omega) (And.intro (by omega) ⟨I_eq ?_,rfl⟩)))
  first | rfl | exact Int.tmod_eq_emod_of_nonneg hb.1
end Go.Ab.YtpneaijfkefeaaaGreat
namespace Go.Ab.YtpneaijfkefeaaaGreat
open Go Go.Ab Go.RowKit
def wdB (t:Trm):Bool:=wfT 1073741824 t&&Nat.ble (dpT t) 100000
def envB (ds:List Dcl):Bool:=ds.all fun d=>wdB d.value&&d.ctors.all fun k=>wdB k.ty
theorem zum {t:Trm} (h:wdB t=true):Wd 1073741824 100000 t:=by
 simp only [wdB,Bool.and_eq_true] at h
 exact ⟨h.1,Nat.le_of_ble_eq_true h.2⟩
theorem zxr {ds:List Dcl} (h:envB ds=true):EnvW 1073741824 ds:=by
 simp only [envB,List.all_eq_true,Bool.and_eq_true] at h
 exact ⟨fun d hd=>zum (h d hd).1,fun d hd k hk=>zum ((h d hd).2 k hk)⟩
theorem zfu:EnvW 1073741824 preL:=zxr (by kernel_rfl)
end Go.Ab.YtpneaijfkefeaaaGreat
namespace Go.Ab.YtpneaijfkefeaaaGreat
open Go Go.RowKit Go.Ab Go.Proofs
def cZero:Trm:=trmOf (⟨#[122,101,114,111]⟩:ByteArray)
def cSucc:Trm:=trmOf (⟨#[115,117,99,99]⟩:ByteArray)
def cAdd:Trm:=trmOf (⟨#[97,100,100]⟩:ByteArray)
def cTwo:Trm:=trmOf (⟨#[116,119,111]⟩:ByteArray)
def cNat:Trm:=trmOf (⟨#[78,97,116]⟩:ByteArray)
def cId:Trm:=trmOf (⟨#[105,100,123,83,48,125]⟩:ByteArray)
def cRec:Trm:=trmOf (⟨#[78,97,116,46,114,101,99,123,83,48,125]⟩:ByteArray)
def cNN:Trm:=trmOf (⟨#[92,78,97,116,46,32,78,97,116]⟩:ByteArray)
def cPi:Trm:=trmOf (⟨#[33,78,97,116,46,32,78,97,116]⟩:ByteArray)
mutual
def natF (l:List Int):Nat->Int->Int->Trm×Int
 | 0,_,a=>(cZero,a)
 | g+1,v,a =>
   if nxt l a 9=1\/nxt l a 9=2 then (appT cSucc [(natF l g v (nxA l a 9)).1],(natF l g v (nxA l a 9)).2)
   else if nxt l a 9=3 then (appT cAdd [(natF l g v (nxA l a 9)).1,(natF l g v (natF l g v (nxA l a 9)).2).1],(natF l g v (natF l g v (nxA l a 9)).2).2)
   else if nxt l a 9=4 then (if v>0 then (mkV (nxt l (nxA l a 9) v),nxA l (nxA l a 9) v) else (cTwo,nxA l a 9))
   else if nxt l a 9=5 then (appT cId [cNat,(natF l g v (nxA l a 9)).1],(natF l g v (nxA l a 9)).2)
   else if nxt l a 9=6 then (mkA (funF l g v (nxA l a 9)).1 (natF l g v (funF l g v (nxA l a 9)).2).1,(natF l g v (funF l g v (nxA l a 9)).2).2)
   else if nxt l a 9=7 then (⟨6,0,⟨#[]⟩,[],[cNat,(natF l g v (nxA l a 9)).1,(natF l g (v+1) (natF l g v (nxA l a 9)).2).1]⟩,(natF l g (v+1) (natF l g v (nxA l a 9)).2).2)
   else if nxt l a 9=8 then (appT cRec [cNN,(natF l g v (nxA l a 9)).1,mkB 4 cNat (mkB 4 cNat (natF l g (v+2) (natF l g v (nxA l a 9)).2).1),(natF l g v (natF l g (v+2) (natF l g v (nxA l a 9)).2).2).1],(natF l g v (natF l g (v+2) (natF l g v (nxA l a 9)).2).2).2)
   else (cZero,nxA l a 9)
def funF (l:List Int):Nat->Int->Int->Trm×Int
 | 0,_,a=>(cZero,a)
 | g+1,v,a =>
   if nxt l a 4=0 then (mkB 4 cNat (natF l g (v+1) (nxA l a 4)).1,(natF l g (v+1) (nxA l a 4)).2)
   else if nxt l a 4=1 then (cSucc,nxA l a 4)
   else if nxt l a 4=2 then (appT cAdd [(natF l g v (nxA l a 4)).1],(natF l g v (nxA l a 4)).2)
   else (appT cId [cPi,mkB 4 cNat (natF l g (v+1) (nxA l a 4)).1],(natF l g (v+1) (nxA l a 4)).2)
end
structure Mk (l:List Int) (g:Nat) (k:Int) (a:Int) (x:Trm×Int):Prop where
 a0:a<=x.2
 a1:x.2<=l.length
 w:wfT 1000000 x.1=true
 d:dpT x.1<=6 * g+10
 s:(sizT x.1:Int)<=14 * (x.2-a)+k
theorem nx_le {l:List Int} {a n:Int} (h0:0<=a) (h1:a<=l.length):a<=nxA l a n/\nxA l a n<=l.length/\(nxt l a n≠0->nxA l a n=a+1)/\(1<=n->a<l.length->nxA l a n=a+1):=by
 unfold nxA nxt
 by_cases h:a≥l.length\/n<1
 ·rw [if_pos h,if_pos h];exact ⟨by omega,by omega,by simp,by omega⟩
 ·rw [if_neg h,if_neg h];exact ⟨by omega,by omega,fun _=>rfl,fun _ _=>rfl⟩
theorem nx_lt {l:List Int} {a n:Int} (hn:1<=n):0<=nxt l a n/\nxt l a n<n:=by
 unfold nxt
 split
 ·omega
 ·exact ⟨Int.emod_nonneg _ (by omega),Int.emod_lt_of_pos _ (by omega)⟩
theorem kB_wf {k:Int} (hk:k=4\/k=5) {a b:Trm} (ha:wfT 1000000 a=true) (hb:wfT 1000000 b=true):wfT 1000000 (mkB k a b)=true:=by
 refine z8z ⟨by rcases hk with rfl | rfl<;>simp [mkB,argF],by simp [mkB],by simp [mkB],by simp [mkB],by simp [mkB],by rcases hk with rfl | rfl<;>simp [mkB],by simp [mkB],by simp [mkB],by simp [mkB],fun x hx=>?_⟩
 simp only [mkB,List.mem_cons,List.not_mem_nil,or_false] at hx
 rcases hx with rfl | rfl<;>assumption
theorem k6_wf {a b c:Trm} (ha:wfT 1000000 a=true) (hb:wfT 1000000 b=true) (hc:wfT 1000000 c=true):wfT 1000000 ⟨6,0,⟨#[]⟩,[],[a,b,c]⟩=true:=by
 refine z8z ⟨by simp [argF],by simp,by simp,by simp,by simp,by simp,by simp,by simp,by simp,fun x hx=>?_⟩
 simp only [List.mem_cons,List.not_mem_nil,or_false] at hx
 rcases hx with rfl | rfl | rfl<;>assumption
def cOK (t:Trm) (d s:Nat):Bool:=wfT 1000000 t&&(decide (dpT t<=d)&&decide (sizT t<=s))
theorem z4t {t:Trm} {d s:Nat} (h:cOK t d s=true):wfT 1000000 t=true/\dpT t<=d/\sizT t<=s:=by
 simp only [cOK,Bool.and_eq_true,decide_eq_true_eq] at h;exact h
theorem kZero:cOK cZero 1 1=true:=by kernel_rfl
theorem kSucc:cOK cSucc 1 1=true:=by kernel_rfl
theorem kAdd:cOK cAdd 1 1=true:=by kernel_rfl
theorem kTwo:cOK cTwo 1 1=true:=by kernel_rfl
theorem kNat:cOK cNat 1 1=true:=by kernel_rfl
theorem kId:cOK cId 1 1=true:=by kernel_rfl
theorem kRec:cOK cRec 1 1=true:=by kernel_rfl
theorem kNN:cOK cNN 2 3=true:=by kernel_rfl
theorem kPi:cOK cPi 2 3=true:=by kernel_rfl
theorem ze0 (l:List Int) (g:Nat) {a b:Int} (hab:a<=b) (hb:b<=l.length) {c:Trm} (h:cOK c 1 1=true) {k:Int} (hk:1<=k):Mk l g k a (c,b):=by
 obtain ⟨h1,h2,h3⟩:=z4t h
 exact ⟨hab,hb,h1,by simp only;omega,by simp only;omega⟩
theorem ze1 (f a:Trm):sizT (mkA f a)=sizT f+sizT a+1:=by simp [mkA,sizT,sizTs]
theorem sz_B (k:Int) (f a:Trm):sizT (mkB k f a)=sizT f+sizT a+1:=by simp [mkB,sizT,sizTs]
theorem ze2 (f a:Trm):dpT (mkA f a)=max (dpT f) (dpT a)+1:=by simp [mkA,dpT,dpTs]
theorem dp_B (k:Int) (f a:Trm):dpT (mkB k f a)=max (dpT f) (dpT a)+1:=by simp [mkB,dpT,dpTs]
theorem zhl (l:List Int):∀ g:Nat,(∀ v a:Int,0<=v->v+2 * g<=100000->0<=a->a<=l.length->Mk l g 1 a (natF l g v a))/\(∀ v a:Int,0<=v->v+2 * g<=100000->0<=a->a<=l.length->Mk l g 10 a (funF l g v a))
 | 0=>⟨fun v a h0 h1 h2 h3=>ze0 l 0 (Int.le_refl _) h3 kZero (by omega),fun v a h0 h1 h2 h3=>ze0 l 0 (Int.le_refl _) h3 kZero (by omega)⟩
 | g + 1 => by
   obtain ⟨iN,iF⟩:=zhl l g
   have z1:=z4t kSucc;have z2:=z4t kAdd;have z3:=z4t kNat;have z4:=z4t kId;have z5:=z4t kRec;have z6:=z4t kNN;have z7:=z4t kPi
   refine ⟨fun v a h0 h1 h2 h3=>?_,fun v a h0 h1 h2 h3=>?_⟩
   ·have hx := nx_le (l:=l) (n:=9) h2 h3
    simp only [natF]
    generalize nxA l a 9=b at *
    split
    ·have hb:=hx.2.2.1 (by omega)
     have m:=iN v b h0 (by omega) (by omega) hx.2.1
     exact ⟨by have:=m.a0;simp only;omega,m.a1,z4r (by omega) z1.1 m.w,by have:=m.d;simp only [appT,ze2];omega,by have:=m.s;simp only [appT,ze1];push_cast;omega⟩
    ·split
     ·have hb:=hx.2.2.1 (by omega)
      have m:=iN v b h0 (by omega) (by omega) hx.2.1
      have m2:=iN v _ h0 (by omega) (by have:=m.a0;omega) m.a1
      exact ⟨by have:=m.a0;have:=m2.a0;simp only;omega,m2.a1,z4r (by omega) (z4r (by omega) z2.1 m.w) m2.w,by have:=m.d;have:=m2.d;simp only [appT,ze2];omega,by have:=m.s;have:=m2.s;simp only [appT,ze1];push_cast;omega⟩
     ·split
      ·have hb:=hx.2.2.1 (by omega)
       split
       ·have hy:=nx_le (l:=l) (a:=b) (n:=v) (by omega) hx.2.1
        have hv:=nx_lt (l:=l) (a:=b) (n:=v) (by omega)
        exact ⟨by simp only;omega,hy.2.1,by simp [mkV,wfT,shpF,wfTs,argF];omega,by simp [mkV,dpT,dpTs],by simp [mkV,sizT,sizTs];omega⟩
       ·exact ze0 l _ (by omega) hx.2.1 kTwo (by omega)
      ·split
       ·have hb:=hx.2.2.1 (by omega)
        have m:=iN v b h0 (by omega) (by omega) hx.2.1
        exact ⟨by have:=m.a0;simp only;omega,m.a1,z4r (by omega) (z4r (by omega) z4.1 z3.1) m.w,by have:=m.d;simp only [appT,ze2];omega,by have:=m.s;simp only [appT,ze1];push_cast;omega⟩
       ·split
        ·have hb:=hx.2.2.1 (by omega)
         have m:=iF v b h0 (by omega) (by omega) hx.2.1
         have m2:=iN v _ h0 (by omega) (by have:=m.a0;omega) m.a1
         exact ⟨by have:=m.a0;have:=m2.a0;simp only;omega,m2.a1,z4r (by omega) m.w m2.w,by have:=m.d;have:=m2.d;simp only [ze2];omega,by have:=m.s;have:=m2.s;simp only [ze1];push_cast;omega⟩
        ·split
         ·have hb:=hx.2.2.1 (by omega)
          have m:=iN v b h0 (by omega) (by omega) hx.2.1
          have m2:=iN (v+1) _ (by omega) (by omega) (by have:=m.a0;omega) m.a1
          exact ⟨by have:=m.a0;have:=m2.a0;simp only;omega,m2.a1,k6_wf z3.1 m.w m2.w,by have:=m.d;have:=m2.d;simp only [dpT,dpTs];omega,by have:=m.s;have:=m2.s;simp only [sizT,sizTs];push_cast;omega⟩
         ·split
          ·have hb:=hx.2.2.1 (by omega)
           have m:=iN v b h0 (by omega) (by omega) hx.2.1
           have m2:=iN (v+2) _ (by omega) (by omega) (by have:=m.a0;omega) m.a1
           have m3:=iN v _ (by omega) (by omega) (by have:=m.a0;have:=m2.a0;omega) m2.a1
           exact ⟨by have:=m.a0;have:=m2.a0;have:=m3.a0;simp only;omega,m3.a1,z4r (by omega) (z4r (by omega) (z4r (by omega) (z4r (by omega) z5.1 z6.1) m.w) (kB_wf (.inl rfl) z3.1 (kB_wf (.inl rfl) z3.1 m2.w))) m3.w,by have:=m.d;have:=m2.d;have:=m3.d;simp only [appT,ze2,dp_B];omega,by have:=m.s;have:=m2.s;have:=m3.s;simp only [appT,ze1,sz_B];push_cast;omega⟩
          ·exact ze0 l _ (by omega) hx.2.1 kZero (by omega)
   ·have hx:=nx_le (l:=l) (n:=4) h2 h3
    simp only [funF]
    generalize nxA l a 4=b at *
    split
    ·have m:=iN (v+1) b (by omega) (by omega) (by omega) hx.2.1
     exact ⟨by have:=m.a0;simp only;omega,m.a1,kB_wf (.inl rfl) z3.1 m.w,by have:=m.d;simp only [dp_B];omega,by have:=m.s;simp only [sz_B];push_cast;omega⟩
    ·split
     ·exact ze0 l _ (by omega) hx.2.1 kSucc (by omega)
     ·split
      ·have hb:=hx.2.2.1 (by omega)
       have m:=iN v b h0 (by omega) (by omega) hx.2.1
       exact ⟨by have:=m.a0;simp only;omega,m.a1,z4r (by omega) z2.1 m.w,by have:=m.d;simp only [appT,ze2];omega,by have:=m.s;simp only [appT,ze1];push_cast;omega⟩
      ·have m:=iN (v+1) b (by omega) (by omega) (by omega) hx.2.1
       have hb:=hx.2.2.1 (by omega)
       exact ⟨by have:=m.a0;simp only;omega,m.a1,z4r (by omega) (z4r (by omega) z4.1 z7.1) (kB_wf (.inl rfl) z3.1 m.w),by have:=m.d;simp only [appT,ze2,dp_B];omega,by have:=m.s;simp only [appT,ze1,sz_B];push_cast;omega⟩
theorem Mk.cp {l:List Int} {g:Nat} {k a:Int} {x:Trm×Int} (h:Mk l g k a x) (hg:g<=100000):Cp x.1:=Cp.of h.w (by omega) (by have:=h.d;omega)
theorem cp_c {t:Trm} {d s:Nat} (h:cOK t d s=true) (hd:d<=1000):Cp t:=by obtain ⟨h1,h2,h3⟩:=z4t h;exact Cp.of h1 (by omega) (by omega)
theorem zmc (s:ByteArray) (h:txtOK s=true) (hc:okT (trmOf s)=true) (x:Trm) (hx:Cp x):PCon Tryz.prog 73 [.p (St s),.p (.sl 5 [rowT x])] (tv (appT (trmOf s) [x])):=by
 have:=zas s h hc [x] (fun a ha=>by simp at ha;subst ha;exact hx) (by simp)
 rw [show encTs [x]=[rowT x] by simp [zb]] at this
 exact this
theorem zmd (s:ByteArray) (h:txtOK s=true) (hc:okT (trmOf s)=true) (x y:Trm) (hx:Cp x) (hy:Cp y):PCon Tryz.prog 73 [.p (St s),.p (.sl 5 [rowT x,rowT y])] (tv (appT (trmOf s) [x,y])):=by
 have:=zas s h hc [x,y] (fun a ha=>by simp at ha;rcases ha with rfl | rfl<;>assumption) (by simp)
 rw [show encTs [x,y]=[rowT x,rowT y] by simp [zb]] at this
 exact this
theorem zz0x (s:ByteArray) (h:txtOK s=true) (hc:okT (trmOf s)=true) (x y z u:Trm) (hx:Cp x) (hy:Cp y) (hz:Cp z) (hu:Cp u):PCon Tryz.prog 73 [.p (St s),.p (.sl 5 [rowT x,rowT y,rowT z,rowT u])] (tv (appT (trmOf s) [x,y,z,u])):=by
 have:=zas s h hc [x,y,z,u] (fun a ha=>by simp at ha;rcases ha with rfl | rfl | rfl | rfl<;>assumption) (by simp)
 rw [show encTs [x,y,z,u]=[rowT x,rowT y,rowT z,rowT u] by simp [zb]] at this
 exact this
def NatC (l:List Int) (v a:Int) (x:Trm×Int):Prop:=Con Tryz.prog 31 [.ptr 1000 0,.p (I v)] (pkO l a) (fun r o=>r=tv x.1/\o=pkO l x.2)
def FunC (l:List Int) (v a:Int) (x:Trm×Int):Prop:=Con Tryz.prog 61 [.ptr 1000 0,.p (I v)] (pkO l a) (fun r o=>r=tv x.1/\o=pkO l x.2)
abbrev pkB (l:List Int) (a:Int):Ob:=.ce 96 [.p (.sl 1 (byts l)),.p (I a)]
theorem tSucc:txtOK (⟨#[115,117,99,99]⟩:ByteArray)=true:=by kernel_rfl
theorem tAdd:txtOK (⟨#[97,100,100]⟩:ByteArray)=true:=by kernel_rfl
theorem tTwo:txtOK (⟨#[116,119,111]⟩:ByteArray)=true:=by kernel_rfl
theorem tZero:txtOK (⟨#[122,101,114,111]⟩:ByteArray)=true:=by kernel_rfl
theorem tNat:txtOK (⟨#[78,97,116]⟩:ByteArray)=true:=by kernel_rfl
theorem tId:txtOK (⟨#[105,100,123,83,48,125]⟩:ByteArray)=true:=by kernel_rfl
theorem tRec:txtOK (⟨#[78,97,116,46,114,101,99,123,83,48,125]⟩:ByteArray)=true:=by kernel_rfl
theorem tNN:txtOK (⟨#[92,78,97,116,46,32,78,97,116]⟩:ByteArray)=true:=by kernel_rfl
theorem tPi:txtOK (⟨#[33,78,97,116,46,32,78,97,116]⟩:ByteArray)=true:=by kernel_rfl
theorem oSucc:okT cSucc=true:=by kernel_rfl
theorem oAdd:okT cAdd=true:=by kernel_rfl
theorem oId:okT cId=true:=by kernel_rfl
theorem oRec:okT cRec=true:=by kernel_rfl
set_option maxHeartbeats 8000000 in
theorem zun (l:List Int) (hl:okB l) (hlen:l.length<=10000):∀ g:Nat,(∀ v a:Int,0<=v->v+2 * g<=100000->0<=a->a<=l.length->2 * (l.length-a)+1<=g->NatC l v a (natF l g v a))/\(∀ v a:Int,0<=v->v+2 * g<=100000->0<=a->a<=l.length->2 * (l.length-a)+2<=g->FunC l v a (funF l g v a))
 | 0=>⟨fun v a h0 h1 h2 h3 h4=>by omega,fun v a h0 h1 h2 h3 h4=>by omega⟩
 | g + 1 => by
   obtain ⟨cN,cF⟩:=zun l hl hlen g
   obtain ⟨iN,iF⟩:=zhl l g
   refine ⟨fun v a h0 h1 h2 h3 h4=>?_,fun v a h0 h1 h2 h3 h4=>?_⟩
   ·have hx:=nx_le (l:=l) (n:=9) h2 h3
    have hnx:=zhk l hl (by omega) a 9 h2 (by omega) (by omega)
    unfold NatC
    generalize hX:natF l (g+1) v a=X
    simp only [natF] at hX
    generalize nxA l a 9=b at *
    generalize nxt l a 9=k at *
    have hN:∀ v' c:Int,0<=v'->v'+2 * g<=100000->a+1<=c->c<=l.length->NatC l v' c (natF l g v' c):=fun v' c g0 g1 g2 g3=>cN v' c g0 g1 (by omega) g3 (by omega)
    refine cv [] [] [1000] Tryz.func31 93 Tryz.ntmps31 rfl rfl fun cx hE=>call1 [1000] hnx rfl rfl (za _) ?_
    refine brS (fun hk=>?_) (fun hk=>brS (fun hk2=>?_) (fun hk2=>brS (fun hk3=>?_) (fun hk3=>brS (fun hk4=>?_) (fun hk4=>brS (fun hk5=>?_) (fun hk5=>brS (fun hk6=>?_) (fun hk6=>brS (fun hk7=>?_) (fun hk7=>brS (fun hk8=>?_) (fun hk8=>?_))))))))
    ·have hb:=hx.2.2.1 (by omega)
     rw [if_pos (.inl hk)] at hX;subst hX
     have m:=iN v b h0 (by omega) (by omega) hx.2.1
     exact call1 [1000] (hN v b h0 (by omega) (by omega) hx.2.1) rfl rfl (za _) (call0 (zmc _ tSucc oSucc _ (m.cp (by omega))) ⟨rfl,rfl⟩)
    ·have hb:=hx.2.2.1 (by omega)
     rw [if_pos (.inr hk2)] at hX;subst hX
     have m:=iN v b h0 (by omega) (by omega) hx.2.1
     exact call1 [1000] (hN v b h0 (by omega) (by omega) hx.2.1) rfl rfl (za _) (call0 (zmc _ tSucc oSucc _ (m.cp (by omega))) ⟨rfl,rfl⟩)
    ·have hb:=hx.2.2.1 (by omega)
     rw [if_neg (by omega),if_pos hk3] at hX;subst hX
     have m:=iN v b h0 (by omega) (by omega) hx.2.1
     have m0:=m.a0
     have m2:=iN v _ h0 (by omega) (by omega) m.a1
     exact call1 [1000] (hN v b h0 (by omega) (by omega) hx.2.1) rfl rfl (za _) (callW [1000] 1000 (pkB l _) (hN v _ h0 (by omega) (by omega) m.a1) rfl rfl (za _) rfl rfl (call0 (zmd _ tAdd oAdd _ _ (m.cp (by omega)) (m2.cp (by omega))) ⟨rfl,rfl⟩))
    ·have hb:=hx.2.2.1 (by omega)
     rw [if_neg (by omega),if_neg hk3,if_pos hk4] at hX
     refine brS (fun hv=>?_) (fun hv=>?_)
     ·rw [if_pos hv] at hX;subst hX
      exact call1 [1000] (zhk l hl (by omega) b v (by omega) (by omega) (by omega)) rfl rfl (za _) (call0 (z9g _) ⟨rfl,rfl⟩)
     ·rw [if_neg hv] at hX;subst hX
      exact call0 (z9m _ tTwo) ⟨rfl,rfl⟩
    ·have hb:=hx.2.2.1 (by omega)
     rw [if_neg (by omega),if_neg hk3,if_neg hk4,if_pos hk5] at hX;subst hX
     have m:=iN v b h0 (by omega) (by omega) hx.2.1
     exact call0 (z9m _ tNat) (call1 [1000] (hN v b h0 (by omega) (by omega) hx.2.1) rfl rfl (za _) (call0 (zmd _ tId oId cNat _ (cp_c kNat (by omega)) (m.cp (by omega))) ⟨rfl,rfl⟩))
    ·have hb:=hx.2.2.1 (by omega)
     rw [if_neg (by omega),if_neg hk3,if_neg hk4,if_neg hk5,if_pos hk6] at hX;subst hX
     have m:=iF v b h0 (by omega) (by omega) hx.2.1
     have m0:=m.a0
     have m2:=iN v _ h0 (by omega) (by omega) m.a1
     exact call1 [1000] (cF v b h0 (by omega) (by omega) hx.2.1 (by omega)) rfl rfl (za _) (callW [1000] 1000 (pkB l _) (hN v _ h0 (by omega) (by omega) m.a1) rfl rfl (za _) rfl rfl (call0 (z4d _ _ (m2.cp (by omega))) ⟨rfl,rfl⟩))
    ·have hb:=hx.2.2.1 (by omega)
     rw [if_neg (by omega),if_neg hk3,if_neg hk4,if_neg hk5,if_neg hk6,if_pos hk7] at hX;subst hX
     have m:=iN v b h0 (by omega) (by omega) hx.2.1
     have m0:=m.a0
     exact call1 [1000] (hN v b h0 (by omega) (by omega) hx.2.1) rfl rfl (za _) (call0 (z9m _ tNat) (And.intro (by omega) (callW [1000] 1000 (pkB l _) (hN (v+1) _ (by omega) (by omega) (by omega) m.a1) rfl rfl (za _) rfl rfl ⟨tv3 _ _ _ [] _ _ _,rfl⟩)))
    ·have hb:=hx.2.2.1 (by omega)
     rw [if_neg (by omega),if_neg hk3,if_neg hk4,if_neg hk5,if_neg hk6,if_neg hk7,if_pos hk8] at hX;subst hX
     have m:=iN v b h0 (by omega) (by omega) hx.2.1
     have m0:=m.a0
     have m2:=iN (v+2) _ (by omega) (by omega) (by omega) m.a1
     have m20:=m2.a0
     have m3:=iN v _ h0 (by omega) (by omega) m2.a1
     have hlam:Cp (mkB 4 cNat (mkB 4 cNat (natF l g (v+2) (natF l g v b).2).1)):=by
      have h1:=(z4t kNat)
      have h2:=m2.d
      exact Cp.of (kB_wf (.inl rfl) h1.1 (kB_wf (.inl rfl) h1.1 m2.w)) (by omega) (by simp only [dp_B];omega)
     exact call1 [1000] (hN v b h0 (by omega) (by omega) hx.2.1) rfl rfl (za _) (call0 (z9m _ tNat) (call0 (z9m _ tNat) (And.intro (by omega) (call1 [1000] (hN (v+2) _ (by omega) (by omega) (by omega) m.a1) rfl rfl (za _) (call0 (z9h cNat _ (cp_c kNat (by omega))) (call0 (z9h cNat _ (cp_c kNat (by omega))) (call0 (z1t _ tNN) (callW [1000] 1000 (pkB l _) (hN v _ h0 (by omega) (by omega) m2.a1) rfl rfl (za _) rfl rfl (call0 (zz0x _ tRec oRec cNN _ _ _ (cp_c kNN (by omega)) (m.cp (by omega)) hlam (m3.cp (by omega))) ⟨rfl,rfl⟩)))))))))
    ·rw [if_neg (by omega),if_neg hk3,if_neg hk4,if_neg hk5,if_neg hk6,if_neg hk7,if_neg hk8] at hX;subst hX
     exact call0 (z9m _ tZero) ⟨rfl,rfl⟩
   ·have hx:=nx_le (l:=l) (n:=4) h2 h3
    have hnx:=zhk l hl (by omega) a 4 h2 (by omega) (by omega)
    have hnl:=nx_lt (l:=l) (a:=a) (n:=4) (by omega)
    unfold FunC
    generalize hX:funF l (g+1) v a=X
    simp only [funF] at hX
    generalize nxA l a 4=b at *
    generalize nxt l a 4=k at *
    have hN:∀ v':Int,0<=v'->v'+2 * g<=100000->NatC l v' b (natF l g v' b):=fun v' g0 g1=>cN v' b g0 g1 (by omega) hx.2.1 (by
     by_cases hal:a<l.length
     ·have:=hx.2.2.2 (by omega) hal;omega
     ·omega)
    refine cv [] [] [1000] Tryz.func61 34 Tryz.ntmps61 rfl rfl fun cx hE=>call1 [1000] hnx rfl rfl (za _) ?_
    refine brS (fun hk=>?_) (fun hk=>brS (fun hk2=>?_) (fun hk2=>brS (fun hk3=>?_) (fun hk3=>?_)))
    ·rw [if_pos hk] at hX;subst hX
     exact call0 (z9m _ tNat) (And.intro (by omega) (call1 [1000] (hN (v+1) (by omega) (by omega)) rfl rfl (za _) (call0 (z9h cNat _ (cp_c kNat (by omega))) ⟨rfl,rfl⟩)))
    ·rw [if_neg hk,if_pos hk2] at hX;subst hX
     exact call0 (z9m _ tSucc) ⟨rfl,rfl⟩
    ·rw [if_neg hk,if_neg hk2,if_pos hk3] at hX;subst hX
     have m:=iN v b h0 (by omega) (by omega) hx.2.1
     exact call1 [1000] (hN v h0 (by omega)) rfl rfl (za _) (call0 (zmc _ tAdd oAdd _ (m.cp (by omega))) ⟨rfl,rfl⟩)
    ·rw [if_neg hk,if_neg hk2,if_neg hk3] at hX;subst hX
     have m:=iN (v+1) b (by omega) (by omega) (by omega) hx.2.1
     have hlam:Cp (mkB 4 cNat (natF l g (v+1) b).1):=by
      have h1:=(z4t kNat)
      have h2:=m.d
      exact Cp.of (kB_wf (.inl rfl) h1.1 m.w) (by omega) (by simp only [dp_B];omega)
     exact call0 (z1t _ tPi) (call0 (z9m _ tNat) (And.intro (by omega) (call1 [1000] (hN (v+1) (by omega) (by omega)) rfl rfl (za _) (call0 (z9h cNat _ (cp_c kNat (by omega))) (call0 (zmd _ tId oId cPi _ (cp_c kPi (by omega)) hlam) ⟨rfl,rfl⟩)))))
def cEq:Trm:=trmOf (⟨#[69,113,123,83,48,125]⟩:ByteArray)
def cAnd:Trm:=trmOf (⟨#[65,110,100]⟩:ByteArray)
def cNot:Trm:=trmOf (⟨#[110,111,116]⟩:ByteArray)
def cP:Trm:=trmOf (⟨#[80]⟩:ByteArray)
def cS0:Trm:=trmOf (⟨#[42,48]⟩:ByteArray)
def cRefl:Trm:=trmOf (⟨#[69,113,46,114,101,102,108,123,83,48,125]⟩:ByteArray)
def zz2n:Trm:=trmOf (⟨#[65,110,100,46,109,107]⟩:ByteArray)
def cId0:Trm:=trmOf (⟨#[105,100,123,48,125]⟩:ByteArray)
def cAll:Trm:=trmOf (⟨#[112,46,97,108,108]⟩:ByteArray)
def lvF (l:List Int):Nat->Int->Int->Lvl×Int
 | 0,_,a=>(zL,a)
 | g+1,p,a =>
   if nxt l a 6=1 then (⟨1,0,[(lvF l g p (nxA l a 6)).1]⟩,(lvF l g p (nxA l a 6)).2)
   else if nxt l a 6=2 then (⟨2,0,[(lvF l g p (nxA l a 6)).1,(lvF l g p (lvF l g p (nxA l a 6)).2).1]⟩,(lvF l g p (lvF l g p (nxA l a 6)).2).2)
   else if nxt l a 6=3 then (⟨3,0,[(lvF l g p (nxA l a 6)).1,(lvF l g p (lvF l g p (nxA l a 6)).2).1]⟩,(lvF l g p (lvF l g p (nxA l a 6)).2).2)
   else if (nxt l a 6=4\/nxt l a 6=5)/\p>0 then (⟨4,nxt l (nxA l a 6) p,[]⟩,nxA l (nxA l a 6) p)
   else (zL,nxA l a 6)
def spoN (l:List Int):List ByteArray:=[(⟨#[78,97,116]⟩:ByteArray),(⟨#[110,111,112,101]⟩:ByteArray),(⟨#[69,113]⟩:ByteArray),(⟨#[105,100]⟩:ByteArray),(⟨#[97,100,100]⟩:ByteArray),(⟨#[70,97,108,115,101]⟩:ByteArray)]
def anyS:List ByteArray:=[(⟨#[42,48]⟩:ByteArray),(⟨#[42,83,48]⟩:ByteArray),(⟨#[78,97,116,46,114,101,99,123,48,125]⟩:ByteArray),(⟨#[92,42,112,48,46,32,92,35,48,46,32,35,48]⟩:ByteArray),(⟨#[101,120,116,123,48,44,83,48,125]⟩:ByteArray),(⟨#[33,42,48,46,32,35,48]⟩:ByteArray),(⟨#[76,105,115,116,46,114,101,99,123,48,44,83,48,125]⟩:ByteArray),(⟨#[86,101,99,123,48,125]⟩:ByteArray),(⟨#[92,33,78,97,116,46,32,42,48,46,32,40,35,48,32,122,101,114,111,41]⟩:ByteArray),(⟨#[40,40,40,86,101,99,46,114,101,99,123,48,44,83,48,125,32,78,97,116,41,32,92,78,97,116,46,32,92,40,40,86,101,99,123,48,125,32,78,97,116,41,32,35,48,41,46,32,78,97,116,41,32,122,101,114,111,41]⟩:ByteArray)]
theorem zm6 {M:Nat}:∀ {l:List Trm},(∀ a∈l,dpT a<=M)->dpTs l<=M
 | [],_=>by simp [dpTs]
 | a::r,h=>by
   have h1:=h a (by simp)
   have h2:=zm6 (l:=r) fun b hb=>h b (by simp [hb])
   simp only [dpTs];omega
structure Sh (l:List Int) (g:Nat) (a:Int) (x:Trm×Trm×Int):Prop where
 a0:a<=x.2.2
 a1:x.2.2<=l.length
 w:wfT 1000001 x.1=true
 w2:wfT 1000001 x.2.1=true
 d:dpT x.1<=6 * g+10
 d2:dpT x.2.1<=6 * g+10
 s:(sizT x.1:Int)<=14 * ((x.2.2-a) * (x.2.2-a))+40 * (x.2.2-a)+4
 s2:(sizT x.2.1:Int)<=28 * (x.2.2-a)+4
theorem preS:(preL.all Go.Ab.okD)=true:=by kernel_rfl
theorem preG {pl:Option (List (ByteArray×Int))} (h:EnP [] preL pl):EnvG preL pl:=⟨h,fun d hd=>List.all_eq_true.1 preS d hd,fun d hd=>zyf (List.all_eq_true.1 zm4 d hd)⟩
end Go.Ab.YtpneaijfkefeaaaGreat
namespace Go.Ab
open Go Go.RowKit
theorem zz0y {ds:List Dcl} {c:Int} {g k:Nat} {t:Trm} {f:Int} {x y:WR} (h1:whF ds c g t f=some x) (h2:whF ds c k t f=some y):x=y:=by
 have e1:=z1p g (max g k) (by omega) t f x h1
 have e2:=z1p k (max g k) (by omega) t f y h2
 rw [e1] at e2
 exact Option.some.inj e2
theorem zz0z {ds:List Dcl} {c:Int} {g k:Nat} {t:Trm} {f:Int} {x y:OR} (h1:onF ds c (whF ds c g) t f=some x) (h2:onF ds c (whF ds c k) t f=some y):x=y:=by
 have e1:=zbm (wh':=whF ds c (max g k)) (fun t f x hx=>z1p g (max g k) (by omega) t f x hx) h1
 have e2:=zbm (wh':=whF ds c (max g k)) (fun t f x hx=>z1p k (max g k) (by omega) t f x hx) h2
 rw [e1] at e2
 exact Option.some.inj e2
section
variable {T B : Int} {M : Nat} {c : Int} (hT : T ≤ 1099511627776) (hB : 0 ≤ B) (hM : M ≤ 10000000) (h1 : 1 ≤ M) (hc : c ≤ M)
include hT hB hM h1 hc
theorem zuo {ds:List Dcl} (hE:EnvW B ds) {t:Trm} {f:Int} (hb:B<=bdV T M f) (hw:Wd (bdV T M f) M t):∃ g y,onF ds c (whF ds c g) t f=some y/\(y.2.2.2=0->Wd (bdV T M y.2.2.1) M y.1)/\y.2.2.1<=f/\(y.2.1=true->y.2.2.2=0/\y.2.2.1<f/\0<=y.2.2.1):=by
 have hg:∀ l:List Trm,(∀ a∈l,a∈argsT t)->∃ g,∀ a∈l,∃ y,whF ds c g a f=some y/\(y.2.2=0->Wd (bdV T M y.2.1) M y.1)/\y.2.1<=f:=by
  intro l
  induction l with
  | nil=>exact fun _=>⟨0,fun a h=>by cases h⟩
  | cons a l ih =>
    intro hl
    obtain ⟨g1,k1⟩:=ih fun b hb=>hl b (by simp [hb])
    have ham:=hl a (by simp)
    obtain ⟨g2,y,k2,k3⟩:=zfq hT hB hM h1 hc hE f.toNat f (Nat.le_refl _) (dpT a) a (Nat.le_refl _) hb (hw.args.1 a ham)
    refine ⟨max g1 g2,fun b hbm=>?_⟩
    rcases List.mem_cons.1 hbm with rfl | hbm
    ·exact ⟨y,z1p g2 _ (by omega) _ _ _ k2,k3⟩
    ·obtain ⟨y',k4,k5⟩:=k1 b hbm
     exact ⟨y',z1p g1 _ (by omega) _ _ _ k4,k5⟩
 obtain ⟨g,hg⟩:=hg _ fun _ h=>h
 exact ⟨g,zym hT hB hM h1 hc hE hb hw hg⟩
end
end Go.Ab
namespace Go.Ab.YtpneaijfkefeaaaGreat
open Go Go.RowKit Go.Ab Go.Proofs
structure AnT (t:Trm):Prop where
 w:wfT 1000002 t=true
 d:dpT t<=6001
 s:sizT t<=1000000
theorem AnT.ok {t:Trm} (h:AnT t):okW t=true:=zz2k (by omega) h.w (by have:=h.s;omega)
theorem AnT.gd {t:Trm} (h:AnT t):Gd t:=⟨z1b (by omega) t h.w,by have:=h.d;omega⟩
theorem AnT.wh {t:Trm} (h:AnT t) {f c:Int} (hf:f<=2000) (hc:c<=100000):∃ g x,whF preL c g t f=some x:=by
 have hb:(1073741824:Int)<=bdV 1099511627776 100000 f:=by unfold bdV;omega
 obtain ⟨g,x,h1,_⟩:=zfq (T:=1099511627776) (B:=1073741824) (M:=100000) (c:=c) (by omega) (by omega) (by omega) (by omega) (by omega) zfu f.toNat f (Nat.le_refl _) (dpT t) t (Nat.le_refl _) hb ⟨z1b (by omega) t h.w,by have:=h.d;omega⟩
 exact ⟨g,x,h1⟩
end Go.Ab.YtpneaijfkefeaaaGreat
namespace Go.Ab
open Go Go.RowKit
def nmsF (nm:Trm->Int->Option WR):List Trm->List Trm->Int->Option (List Trm×Int×Int)
 | [],acc,f=>some (acc,f,0)
 | a::r,acc,f=>match nm a f with
   | none=>none
   | some (u,f1,e)=>if e≠0 then some ([],f1,e) else nmsF nm r (acc++[u]) f1
def outL (k:Int) (l:List Trm):Trm :=
 if k=4/\(l.getD 1 zT).kind=3/\((l.getD 1 zT).args.getD 1 zT).kind=0/\((l.getD 1 zT).args.getD 1 zT).n=0/\usT ((l.getD 1 zT).args.getD 0 zT) 0=false
 then opnT [zT] ((l.getD 1 zT).args.getD 0 zT) 0 else mkB k (l.getD 0 zT) (l.getD 1 zT)
def outN (w:Trm) (l:List Trm):Trm:=if w.kind=4\/w.kind=5 then outL w.kind l else appT (headT w) l
def prtN (w:Trm):List Trm:=if w.kind=4\/w.kind=5 then w.args else argsT w
def finN (c f:Int) (u:Trm):Option WR:=if gdT u=true then (if fitsT c u=true then some (u,f,0) else some (zT,f,12)) else none
def normF (ds:List Dcl) (c:Int):Nat->Trm->Int->Option WR
 | 0,_,_=>none
 | g + 1,t,f=>if f<=0 then some (zT,f,11) else match whF ds c g t (f-1) with
   | none=>none
   | some (w,f1,e)=>if e≠0 then some (zT,f1,e) else match nmsF (normF ds c g) (prtN w) [] f1 with
     | none=>none
     | some (l,f2,e2)=>if e2≠0 then some (zT,f2,e2) else finN c f2 (outN w l)
theorem z9s {nm nm':Trm->Int->Option WR} (h:∀ t f x,nm t f=some x->nm' t f=some x):∀ (l acc:List Trm) (f:Int) (y:List Trm×Int×Int),nmsF nm l acc f=some y->nmsF nm' l acc f=some y
 | [],acc,f,y,hy=>hy
 | a :: r,acc,f,y,hy=>by
   simp only [nmsF] at hy ⊢
   cases ha:nm a f with
   | none=>rw [ha] at hy;cases hy
   | some x =>
     rw [ha] at hy
     rw [h _ _ _ ha]
     obtain ⟨u,f1,e⟩:=x
     simp only at hy ⊢
     split at hy
     ·rename_i he;rw [if_pos he];exact hy
     ·rename_i he;rw [if_neg he];exact z9s h r _ f1 y hy
theorem z7l {ds:List Dcl} {c:Int}:∀ (g k:Nat),g<=k->∀ (t:Trm) (f:Int) (x:WR),normF ds c g t f=some x->normF ds c k t f=some x
 | 0,_,_,_,_,_,h=>by cases h
 | g+1,0,hk,_,_,_,_=>by omega
 | g + 1,k+1,hk,t,f,x,h=>by
   simp only [normF] at h ⊢
   split at h
   ·rename_i hf;rw [if_pos hf];exact h
   ·rename_i hf
    rw [if_neg hf]
    cases hw:whF ds c g t (f-1) with
    | none=>rw [hw] at h;cases h
    | some y =>
      rw [hw] at h
      rw [z1p g k (by omega) _ _ _ hw]
      obtain ⟨w,f1,e⟩:=y
      simp only at h ⊢
      split at h
      ·rename_i he;rw [if_pos he];exact h
      ·rename_i he
       rw [if_neg he]
       cases hn:nmsF (normF ds c g) (prtN w) [] f1 with
       | none=>rw [hn] at h;cases h
       | some z =>
         rw [hn] at h
         rw [z9s (fun t f x hx=>z7l g k (by omega) t f x hx) _ _ _ _ hn]
         exact h
end Go.Ab
namespace Go.Ab.YtpneaijfkefeaaaGreat
open Go Go.RowKit Go.Ab Go.Proofs
section
variable (ds : List Dcl) (pv ov : Nat) (pl : Option (List (ByteArray × Int)))
end
theorem z3d {l:List Trm} (h:l.length=2):∃ x y,l=[x,y]:=by
 match l,h with
 | [x,y],_=>exact ⟨x,y,rfl⟩
section
variable (ds : List Dcl) (pv ov : Nat) (pl : Option (List (ByteArray × Int)))
end
section
variable (ds : List Dcl) (pv ov : Nat) (pl : Option (List (ByteArray × Int)))
end
section
variable (ds : List Dcl) (pv ov : Nat) (pl : Option (List (ByteArray × Int)))
end
theorem preR:EnvR preL:=by
 have h:(preL.all fun d=>decide (d.kind=3->0<=d.count))=true:=by kernel_rfl
 rw [List.all_eq_true] at h
 exact ⟨fun d hd=>zyf (List.all_eq_true.1 zm4 d hd),fun d hd=>of_decide_eq_true (h d hd),by rw [zo9];omega⟩
theorem AnT.on {t:Trm} (h:AnT t) {f c:Int} (hf:f<=2000) (hc:c<=100000):∃ g y,onF preL c (whF preL c g) t f=some y:=by
 have hb:(1073741824:Int)<=bdV 1099511627776 100000 f:=by unfold bdV;omega
 obtain ⟨g,y,h1,_⟩:=zuo (T:=1099511627776) (B:=1073741824) (M:=100000) (c:=c) (by omega) (by omega) (by omega) (by omega) (by omega) zfu hb ⟨z1b (by omega) t h.w,by have:=h.d;omega⟩
 exact ⟨g,y,h1⟩
end Go.Ab.YtpneaijfkefeaaaGreat
set_option linter.unusedSectionVars false
namespace Go.Ab
open Go Go.RowKit
def noM (_ _:Nat):Prop:=False
section
variable {H : Type} {enc : TypeId × Value → H} {P : Program} {w : World} {base : Nat} {spare : Nat → Bool} {held : Bool} {fuel T : Nat} {v : Value} {cs : List Value} {x : DataW H × List MemPlace}
theorem z9t {k:IntKind} (hu:P.underlying T=some (.int k)) (h:DataW.trod enc P w base spare held fuel T cs=some x):∃ n,cs=[.int k n]/\(Lit.int k n).wf=true:=by
 cases fuel with
 | zero=>simp [DataW.trod] at h
 | succ f =>
   unfold DataW.trod at h
   rw [hu] at h
   split at h<;>simp_all
   all_goals (obtain ⟨⟨h1,h2⟩,_⟩:=h;subst h1;exact ⟨_,rfl,h2⟩)
theorem zup {α β:Type} {f:α->Option β}:∀ {l:List α} {r:List β},l.mapM f=some r->r.length=l.length/\∀ (i:Nat) (x:α),l[i]?=some x->∃ y,r[i]?=some y/\f x=some y
 | [],r,h=>by simp at h;subst h;simp
 | a::l,r,h=>by
   simp only [List.mapM_cons,Option.pure_def,Option.bind_eq_bind,Option.bind_eq_some_iff,Option.some.injEq] at h
   obtain ⟨y,h1,q,h2,rfl⟩:=h
   obtain ⟨h3,h4⟩:=zup h2
   refine ⟨by simp [h3],fun i x hi=>?_⟩
   cases i with
   | zero=>simp at hi;subst hi;exact ⟨y,rfl,h1⟩
   | succ i=>simpa using h4 i x (by simpa using hi)
theorem z5l {α:Type} {e sz:Nat} {R:α->Prop} {row:α->List PV} (hu:P.underlying T=some (.slice e)) (hsz:P.cellsOf e=sz) (h:DataW.trod enc P w base spare held (fuel+1) T cs=some x)
  (el:∀ cs y,DataW.trod enc P w base spare held fuel e cs=some y->∃ a,R a/\(row a).length=sz/\∀ (j:Nat) (z:PV),(row a)[j]?=some z->Rep w noM z (cs.getD j undef)) :
  ∃ (v:Value) (xs:List α),cs=[v]/\(∀ a∈xs,R a)/\xs.length<=maxLen/\Rep w noM (.sl sz (xs.map row)) v:=by
 subst hsz
 unfold DataW.trod at h
 rw [hu] at h
 split at h<;>try (simp_all;done)
 ·exact ⟨_,[],rfl,by simp,by simp,.nil⟩
 ·rename_i e' a len cap he
  cases he
  split at h
  ·rename_i hc
   obtain ⟨hb,hlc,hcm⟩:=hc
   simp only [Option.bind_eq_some_iff] at h
   obtain ⟨elems,h1,_⟩:=h
   obtain ⟨hl,hel⟩:=zup h1
   have hget:∀ i,i<len->∃ cs y,w.cells? base (a.add (i * P.cellsOf e)) (P.cellsOf e)=some cs/\DataW.trod enc P w base spare held fuel e cs=some y:=fun i hi=>by
    obtain ⟨y,_,hy⟩:=hel i i (by simp [hi])
    obtain ⟨cs,h2,h3⟩:=Option.bind_eq_some_iff.1 hy
    exact ⟨cs,y,h2,h3⟩
   have hel2:∀ i,i<len->∃ cs a',w.cells? base (a.add (i * P.cellsOf e)) (P.cellsOf e)=some cs/\R a'/\(row a').length=P.cellsOf e/\∀ (j:Nat) (z:PV),(row a')[j]?=some z->Rep w noM z (cs.getD j undef):=fun i hi=>by
    obtain ⟨cs,y,h2,h3⟩:=hget i hi
    obtain ⟨a',h4,h5,h6⟩:=el cs y h3
    exact ⟨cs,a',h2,h4,h5,h6⟩
   have hmany:∀ m,m<=len->∃ xs:List α,xs.length=m/\(∀ a∈xs,R a)/\∀ (i:Nat) (a':α),xs[i]?=some a'->(row a').length=P.cellsOf e/\∃ cs,w.cells? base (a.add (i * P.cellsOf e)) (P.cellsOf e)=some cs/\∀ (j:Nat) (z:PV),(row a')[j]?=some z->Rep w noM z (cs.getD j undef):=by
    intro m
    induction m with
    | zero=>intro _;exact ⟨[],rfl,by simp,by simp⟩
    | succ m ih =>
      intro hm
      obtain ⟨xs,e1,e2,e3⟩:=ih (by omega)
      obtain ⟨cs,a',h2,h4,h5,h6⟩:=hel2 m (by omega)
      refine ⟨xs++[a'],by simp [e1],fun q hq=>?_,fun i q hq=>?_⟩
      ·rcases List.mem_append.1 hq with hq | hq
       ·exact e2 q hq
       ·simp at hq;subst hq;exact h4
      ·rcases Nat.lt_trichotomy i m with hi | hi | hi
       ·rw [List.getElem?_append_left (by omega)] at hq;exact e3 i q hq
       ·subst hi
        rw [List.getElem?_append_right (by omega)] at hq
        simp [e1] at hq;subst hq
        exact ⟨h5,cs,h2,h6⟩
       ·rw [List.getElem?_eq_none (by simp [e1];omega)] at hq;cases hq
   obtain ⟨xs,e1,e2,e3⟩:=hmany len (Nat.le_refl _)
   refine ⟨_,xs,rfl,e2,by omega,?_⟩
   have hcell:∀ (i:Nat) (rw':List PV) (j:Nat) (z:PV),(xs.map row)[i]?=some rw'->rw'[j]?=some z->∃ u,w.cell? (a.add (i * P.cellsOf e+j))=some u/\Rep w noM z u:=by
    intro i rw' j z hi hj
    simp only [List.getElem?_map,Option.map_eq_some_iff] at hi
    obtain ⟨a',ha,rfl⟩:=hi
    obtain ⟨g1,cs,g2,g3⟩:=e3 i a' ha
    have hjl:j<P.cellsOf e:=by have:=(List.getElem?_eq_some_iff.1 hj).1;omega
    obtain ⟨k1,k2,k3⟩:=World.cells?_some g2
    refine ⟨cs.getD j undef,?_,g3 j z hj⟩
    have:=k3 j hjl
    rw [Addr.add_add] at this
    rw [this]
    have hlt:j<cs.length:=by omega
    simp [List.getD_eq_getElem?_getD,hlt]
   have hlen:(xs.map row).length=len:=by simp [e1]
   have:=Rep.sl (w:=w) (M:=noM) (sz:=P.cellsOf e) (xs:=xs.map row) a cap (fun i j=>(w.cell? (a.add (i * P.cellsOf e+j))).getD undef) (by omega) (by simp only [maxLen] at hcm;omega)
    (fun i r hi=>by
     simp only [List.getElem?_map,Option.map_eq_some_iff] at hi
     obtain ⟨a',ha,rfl⟩:=hi
     exact (e3 i a' ha).1)
    (fun i r j z hi hj=>by obtain ⟨u,g1,_⟩:=hcell i r j z hi hj;rw [g1];rfl)
    (fun _ _ _ _ _ _ h=>h)
    (fun i r j z hi hj=>by obtain ⟨u,g1,g2⟩:=hcell i r j z hi hj;rw [g1];exact g2)
   rwa [hlen] at this
  ·cases h
end
structure LT (P:Program) (TL TLs:Nat) (TI:Nat):Prop where
 ti:P.underlying TI=some (.int .i64)
 ls:P.underlying TLs=some (.slice TL)
 sz:P.cellsOf TL=3
 szI:P.cellsOf TI=1
 szS:P.cellsOf TLs=1
 fs:∃ f0 f1 f2:Field,P.underlying TL=some (.struct #[f0,f1,f2])/\f0.type=TI/\f0.offset=0/\f1.type=TI/\f1.offset=1/\f2.type=TLs/\f2.offset=2
section
variable {H : Type} {enc : TypeId × Value → H} {P : Program} {w : World} {base : Nat} {spare : Nat → Bool} {held : Bool} {TL TLs TI : Nat}
structure TT (P:Program) (TR TTs TL TLs TI TS:Nat):Prop where
 l:LT P TL TLs TI
 st:P.underlying TS=some .string
 ls:P.underlying TTs=some (.slice TR)
 sz:P.cellsOf TR=5
 szT:P.cellsOf TTs=1
 szS:P.cellsOf TS=1
 fs:∃ f0 f1 f2 f3 f4:Field,P.underlying TR=some (.struct #[f0,f1,f2,f3,f4])/\f0.type=TI/\f0.offset=0/\f1.type=TI/\f1.offset=1/\f2.type=TS/\f2.offset=2/\f3.type=TLs/\f3.offset=3/\f4.type=TTs/\f4.offset=4
end
structure MT (P:Program) (TM TI:Nat):Prop where
 ti:P.underlying TI=some (.int .i64)
 sz:P.cellsOf TM=2
 szI:P.cellsOf TI=1
 fs:∃ f0 f1:Field,P.underlying TM=some (.struct #[f0,f1])/\f0.type=TI/\f0.offset=0/\f1.type=TI/\f1.offset=1
structure MT3 (P:Program) (TM TI:Nat):Prop where
 ti:P.underlying TI=some (.int .i64)
 sz:P.cellsOf TM=3
 szI:P.cellsOf TI=1
 fs:∃ f0 f1 f2:Field,P.underlying TM=some (.struct #[f0,f1,f2])/\f0.type=TI/\f0.offset=0/\f1.type=TI/\f1.offset=1/\f2.type=TI/\f2.offset=2
structure AT (P:Program) (TA TI n:Nat):Prop where
 ti:P.underlying TI=some (.int .i64)
 szI:P.cellsOf TI=1
 sz:P.cellsOf TA=n
 ar:P.underlying TA=some (.array n TI)
theorem AT.open {P:Program} {TA TI n:Nat} (lt:AT P TA TI n) {w:World} {r:Reach} {base:Nat} {v:Value} (h:Value.okWide P w r base TA v):∃ cs,v=.agg cs/\cs.size=P.cellsOf TA:=by
 simp only [Value.okWide,lt.ar] at h
 obtain ⟨cs,h1,h2,_⟩:=h
 exact ⟨cs,h1,h2⟩
theorem zk5 {w:World} {own:Nat->Value} {x:PV} {v:Value} (h:Rep w noM x v):RepA w (Mu noM own []) own (hwOf []) (.p x) v :=
 .p (h.stp ⟨rfl,rfl,rfl,Nat.le_refl _,fun _ _ _ _ h=>h,fun b i h=>(by rcases h with h | ⟨k,o,h,_⟩;exact .inl h;cases h),fun _ cs _ h=>⟨cs,h⟩⟩)
theorem zuq {P:Program} {f:Nat} {args:List AV} {b:Bool} (c:PCon P f args (.p (B b))) (w:World) (vals:List Value) (h:z6c w (Mu noM (fun _=>undef) []) (fun _=>undef) (hwOf []) args vals) :
  Calls P f vals.toArray w fun e w'=>e=.returned (.bool b)/\Below w.heap.size w w':=by
 refine (c w noM (fun _=>undef) vals ⟨fun _ _ h=>(by cases h),(by simp),fun _ _ _ _ h=>(by cases h),fun _ _ _ h=>(by cases h),fun _ _ h=>h.elim⟩ h).mono ?_
 rintro e w' ⟨r,o,own',v,rfl,⟨rfl,rfl⟩,h2,h3,h4,h5,h6,h7⟩
 have hv:v=.bool b:=by cases h3 with | p h=>cases h;rfl
 subst hv
 exact ⟨rfl,h4.os,h4.tape,h4.output,h4.size,fun k hk=>h7.keep k hk (fun _ _ h=>by cases h)⟩
theorem z9u {w:World} {M:Nat->Nat->Prop} {own:Nat->Value} {hw:Nat->Option Nat}:z6c w M own hw [] []:=⟨rfl,fun j x h=>by simp at h⟩
theorem z6o {w:World} {M:Nat->Nat->Prop} {own:Nat->Value} {hw:Nat->Option Nat} {x:AV} {v:Value} {xs:List AV} {vs:List Value} (h:RepA w M own hw x v) (r:z6c w M own hw xs vs):z6c w M own hw (x::xs) (v::vs) :=
 ⟨by simp [r.1],fun j y hj=>by
  cases j with
  | zero=>simp at hj;subst hj;exact h
  | succ j=>simpa using r.2 j y (by simpa using hj)⟩
section
variable {H : Type} {enc : TypeId × Value → H} {P : Program} {w : World} {base : Nat} {spare : Nat → Bool} {held : Bool} {fuel T : Nat} {v : Value} {cs : List Value} {x : DataW H × List MemPlace}
end
section
variable {H : Type} {enc : TypeId × Value → H} {P : Program} {w : World} {base : Nat} {spare : Nat → Bool} {held : Bool} {TL TLs TI TR TTs TS : Nat}
end
structure CT (P:Program) (TC TCs TR TTs TL TLs TI TS:Nat):Prop where
 t:TT P TR TTs TL TLs TI TS
 ls:P.underlying TCs=some (.slice TC)
 sz:P.cellsOf TC=6
 szC:P.cellsOf TCs=1
 b1:P.bytesOf TL=40
 b2:P.bytesOf TR=80
 fs:∃ f0 f1:Field,P.underlying TC=some (.struct #[f0,f1])/\f0.type=TS/\f0.offset=0/\f1.type=TR/\f1.offset=1
structure DT (P:Program) (TD TDs TC TCs TR TTs TL TLs TI TS:Nat):Prop where
 c:CT P TC TCs TR TTs TL TLs TI TS
 ls:P.underlying TDs=some (.slice TD)
 sz:P.cellsOf TD=16
 fs:∃ f0 f1 f2 f3 f4 f5 f6 f7:Field,P.underlying TD=some (.struct #[f0,f1,f2,f3,f4,f5,f6,f7])/\(f0.type=TI/\f0.offset=0)/\(f1.type=TI/\f1.offset=1)/\(f2.type=TI/\f2.offset=2)/\(f3.type=TS/\f3.offset=3)/\(f4.type=TS/\f4.offset=4)/\(f5.type=TR/\f5.offset=5)/\(f6.type=TR/\f6.offset=10)/\(f7.type=TCs/\f7.offset=15)
section
variable {H : Type} {enc : TypeId × Value → H} {P : Program} {w : World} {base : Nat} {spare : Nat → Bool} {held : Bool} {TL TLs TI TR TTs TS TC TCs TD TDs : Nat}
end
end Go.Ab
namespace Go.Ab.YtpneaijfkefeaaaGreat
open Go Go.RowKit Go.Ab Go.Proofs
structure AskD (d:Dcl):Prop where
 e:okE d=true
 s:Go.Ab.okD d=true
 n:narD d=true
 nm:d.name.size<=60
 k:0<=d.count
 v:Wd 1073741824 100000 d.value
 c:∀ k∈d.ctors,Wd 1073741824 100000 k.ty
structure Ask (l:List Dcl):Prop where
 b:BothOK l
 g:∀ pl,EnP [] (bothF [] l) pl->EnvG (bothF [] l) pl
 r:EnvR (bothF [] l)
 w:EnvW 1073741824 (bothF [] l)
end Go.Ab.YtpneaijfkefeaaaGreat
namespace Go.Ab
open Go Go.RowKit
theorem Wd.bin {b:Int} (hb:0<=b) {m:Nat} {k:Int} (hk:k=4\/k=5) {x t:Trm} (hx:Wd b m x) (ht:Wd b m t):Wd b (m+1) (mkB k x t):=by
 refine ⟨z8z ⟨by rcases hk with rfl | rfl<;>simp [mkB,argF],by simp [mkB],by simpa [mkB] using hb,by simp [mkB],by simp [mkB],by rcases hk with rfl | rfl<;>simp [mkB],by simp [mkB],by simp [mkB],by simp [mkB],fun y hy=>?_⟩,by have:=hx.d;have:=ht.d;simp only [mkB,dpT,dpTs];omega⟩
 simp only [mkB,List.mem_cons,List.not_mem_nil,or_false] at hy
 rcases hy with rfl | rfl
 ·exact hx.w
 ·exact ht.w
theorem zT_wd {b:Int} (hb:0<=b):Wd b 1 zT:=⟨by simp [zT,wfT,shpF,wfTs,argF];omega,by simp [zT,dpT,dpTs]⟩
theorem zz10 {b:Int} (hb:0<=b) {m:Nat} (hm:1<=m) {w:Trm} (hw:Wd b m w) {l:List Trm} (hl:∀ a∈l,Wd b m a) (hlen:l.length<=m):Wd (b+m) (m+m+1) (outN w l):=by
 unfold outN
 split
 ·rename_i hk
  unfold outL
  have h0:=Wd.getD hb hm hl 0
  have h1:=Wd.getD hb hm hl 1
  split
  ·have h2:=Wd.getD hb hm (fun a h=>h1.sub h) 0
   exact (h2.opn (k:=1) (vs:=[zT]) fun v hv=>by simp at hv;subst hv;exact zT_wd hb).mono (Int.le_refl _) (by omega)
  ·exact (Wd.bin hb hk h0 h1).mono (by omega) (by omega)
 ·exact (Wd.app hb hw.head hl hlen).mono (by omega) (by omega)
theorem zz11 {b:Int} {m:Nat} (hm:3<=m) {w:Trm} (hw:Wd b m w):(∀ a∈prtN w,Wd b m a)/\(prtN w).length<=m:=by
 unfold prtN
 split
 ·rename_i hk
  have ha:=(zf hw.w).args
  refine ⟨fun a h=>hw.sub h,?_⟩
  unfold argF at ha
  rcases hk with hk | hk<;>simp [hk] at ha<;>omega
 ·exact hw.args
section
variable {B : Int} {M : Nat} {c : Int} (hB : 0 ≤ B) (hM : M ≤ 10000000) (h1 : 3 ≤ M) (hc : c ≤ M)
include hB hM h1 hc
theorem zxs {ds:List Dcl} (hE:EnvW B ds):∀ (n:Nat) (f:Int),f.toNat<=n->∀ (T:Int) (t:Trm),T<=1099511627776->B<=bdV T M f->Wd (bdV T M f) M t->∃ g x,normF ds c g t f=some x/\(x.2.2=0->Wd (bdV T M x.2.1) M x.1)/\x.2.1<=f:=by
 intro n
 induction n with
 | zero =>
   intro f hf T t _ _ _
   exact ⟨1,(zT,f,11),by simp only [normF];rw [if_pos (by omega)],fun h=>by simp at h,Int.le_refl _⟩
 | succ n IH =>
   intro f hf T t hT hb hw
   by_cases hf0:f<=0
   ·exact ⟨1,(zT,f,11),by simp only [normF];rw [if_pos hf0],fun h=>by simp at h,Int.le_refl _⟩
   have hst:=zhg (T:=T) (M:=M) (f:=f) (by omega)
   have hT':∀ x,bdV (T-(200000+M)) M x=bdV T M x-(200000+M):=fun x=>by unfold bdV;omega
   obtain ⟨g1,⟨w,f1,e⟩,k1,k2,k3⟩:=zfq (T:=T-(200000+M)) (B:=B) (M:=M) (c:=c) (by omega) hB hM (by omega) hc hE (f-1).toNat (f-1) (Nat.le_refl _) (dpT t) t (Nat.le_refl _) (by rw [hT'];omega) (by rw [hT',hst];exact hw.mono (by omega) (Nat.le_refl _))
   simp only at k2 k3
   by_cases he:e≠0
   ·exact ⟨g1+1,(zT,f1,e),by simp only [normF];rw [if_neg hf0,k1];simp only;rw [if_pos he],fun h=>absurd h he,by simp only;omega⟩
   have he0:e=0:=Classical.byContradiction fun h=>he h
   have hww:=k2 he0
   have hbm:∀ {x y:Int},x<=y->bdV (T-(200000+M)) M y<=bdV (T-(200000+M)) M x:=fun h=>zbn h
   have hb1:B<=bdV (T-(200000+M)) M f1:=by
    have:=hbm k3
    rw [hT' (f-1)] at this;omega
   have lst:∀ (l acc:List Trm) (x:Int),x<=f1->(∀ a∈l,Wd (bdV (T-(200000+M)) M x) M a)->(∀ a∈acc,Wd (bdV (T-(200000+M)) M x) M a)->∃ g y,nmsF (normF ds c g) l acc x=some y/\(y.2.2=0->(∀ a∈y.1,Wd (bdV (T-(200000+M)) M y.2.1) M a)/\y.1.length=acc.length+l.length)/\y.2.1<=x:=by
    intro l
    induction l with
    | nil=>intro acc x hx _ ha;exact ⟨0,(acc,x,0),rfl,fun _=>⟨ha,rfl⟩,Int.le_refl _⟩
    | cons a r ih =>
      intro acc x hx hl ha
      have hbx:=hbm hx
      obtain ⟨ga,⟨u,x1,e1⟩,q1,q2,q3⟩:=IH x (by omega) (T-(200000+M)) a (by omega) (by omega) (hl a (by simp))
      simp only at q2 q3
      by_cases hne:e1≠0
      ·exact ⟨ga,([],x1,e1),by simp only [nmsF];rw [q1];simp only;rw [if_pos hne],fun h=>absurd h hne,q3⟩
      ·have h0:e1=0:=Classical.byContradiction fun h=>hne h
       have hm1:=hbm q3
       obtain ⟨gb,y,p1,p2,p3⟩:=ih (acc++[u]) x1 (by omega) (fun b hb=>(hl b (by simp [hb])).mono hm1 (Nat.le_refl _)) (fun b hb=>by
        rcases List.mem_append.1 hb with hb | hb
        ·exact (ha b hb).mono hm1 (Nat.le_refl _)
        ·simp at hb;subst hb;exact q2 h0)
       refine ⟨max ga gb,y,?_,fun h=>⟨(p2 h).1,by rw [(p2 h).2];simp;omega⟩,by omega⟩
       simp only [nmsF]
       rw [z7l ga (max ga gb) (by omega) _ _ _ q1]
       simp only
       rw [if_neg hne]
       exact z9s (fun t f x hx=>z7l gb (max ga gb) (by omega) t f x hx) _ _ _ _ p1
   have hpr:=zz11 h1 hww
   obtain ⟨g2,⟨l,f2,e2⟩,p1,p2,p3⟩:=lst (prtN w) [] f1 (Int.le_refl _) hpr.1 (fun a h=>by cases h)
   simp only at p2 p3
   have step:∀ z,(if e2≠0 then some (zT,f2,e2) else finN c f2 (outN w l))=some z->normF ds c (max g1 g2+1) t f=some z:=fun z hz=>by
    simp only [normF]
    rw [if_neg hf0,z1p g1 (max g1 g2) (by omega) _ _ _ k1]
    simp only
    rw [if_neg he,z9s (fun t f x hx=>z7l g2 (max g1 g2) (by omega) t f x hx) _ _ _ _ p1]
    exact hz
   by_cases hne:e2≠0
   ·exact ⟨_,(zT,f2,e2),step _ (by rw [if_pos hne]),fun h=>absurd h hne,by simp only;omega⟩
   have h0:e2=0:=Classical.byContradiction fun h=>hne h
   obtain ⟨p4,p5⟩:=p2 h0
   have hb2:=hbm p3
   have hlen:l.length<=M:=by rw [p5];simpa using hpr.2
   have hbw:=hbm (Int.le_trans p3 (Int.le_refl f1))
   have ho:=zz10 (b:=bdV (T-(200000+M)) M f2) (by omega) (by omega) (hww.mono hb2 (Nat.le_refl _)) p4 hlen
   have hl2:=zok (T-(200000+M)) M f2
   have hgd:gdT (outN w l)=true:=gdT_iff.2 ⟨z1b (by omega) _ ho.w,by have:=ho.d;omega⟩
   by_cases hft:fitsT c (outN w l)=true
   ·refine ⟨_,(outN w l,f2,0),step _ (by rw [if_neg hne];unfold finN;rw [if_pos hgd,if_pos hft]),fun _=>⟨z1b ?_ _ ho.w,?_⟩,by simp only;omega⟩
    ·rw [hT'];simp only;omega
    ·have hs:=zda (outN w l)
     simp only [fitsT,Bool.and_eq_true,decide_eq_true_eq] at hft
     simp only;omega
   ·exact ⟨_,(zT,f2,12),step _ (by rw [if_neg hne];unfold finN;rw [if_pos hgd,if_neg hft]),fun h=>by simp at h,by simp only;omega⟩
end
end Go.Ab
namespace Go.Ab.YtpneaijfkefeaaaGreat
open Go Go.RowKit Go.Ab Go.Proofs
theorem AnT.nm {t:Trm} (h:AnT t) {f c:Int} (hf:f<=2000) (hc:c<=100000):∃ g x,normF preL c g t f=some x:=by
 have hb:(1073741824:Int)<=bdV 1099511627776 100000 f:=by unfold bdV;omega
 obtain ⟨g,x,h1,_⟩:=zxs (B:=1073741824) (M:=100000) (c:=c) (by omega) (by omega) (by omega) (by omega) zfu f.toNat f (Nat.le_refl _) 1099511627776 t (by omega) hb ⟨z1b (by omega) t h.w,by have:=h.d;omega⟩
 exact ⟨g,x,h1⟩
theorem zur:∀ (q:List Trm) (h:Trm) (acc:List Trm),spnT (appT h q) acc=spnT h (q++acc)
 | [],h,acc=>rfl
 | a::r,h,acc=>by
   simp only [appT]
   rw [zur r (mkA h a) acc,zh4 (u:=mkA h a) rfl rfl];rfl
theorem z2f {h:Trm} (hk:¬ h.kind=3) (q:List Trm):headT (appT h q)=h/\argsT (appT h q)=q:=by
 unfold headT argsT
 rw [zur,zh5 hk]
 exact ⟨rfl,List.append_nil q⟩
def Ev (t u:Trm):Prop:=∃ (c:Int) (g:Nat) (f f':Int),whF preL c g t f=some (u,f',0)
theorem Ev.one {t u v:Trm} (h:Ev t u) (k:Ev t v):u=v:=by
 obtain ⟨c1,g1,f1,e1,h1⟩:=h
 obtain ⟨c2,g2,f2,e2,h2⟩:=k
 have k1:=z7j (c':=max c1 c2) (by omega) (a:=max f1 f2-f1) (by omega) g1 t f1 u e1 h1
 have k2:=z7j (c':=max c1 c2) (by omega) (a:=max f1 f2-f2) (by omega) g2 t f2 v e2 h2
 rw [show f1+(max f1 f2-f1)=max f1 f2 by omega] at k1
 rw [show f2+(max f1 f2-f2)=max f1 f2 by omega] at k2
 exact congrArg Prod.fst (zz0y k1 k2)
def Det (t v:Trm):Prop:=∀ (c:Int) (g:Nat) (f:Int) (y:OR),onF preL c (whF preL c g) t f=some y->y.2.2.2=0->y.2.1=true/\y.1=v
def Stk (t:Trm):Prop:=∀ c wh f,onF preL c wh t f=some (t,false,f,0)
theorem Ev.step {t u v:Trm} (hd:Det t v) (h:Ev t u):Ev v u:=by
 obtain ⟨c,g,f,f',h⟩:=h
 cases g with
 | zero=>cases h
 | succ g =>
   simp only [whF] at h
   split at h
   ·cases h
   ·rename_i u1 did f1 e ho
    have:=hd _ _ _ _ ho
    split at h
    ·rename_i he;cases h;exact absurd rfl he
    ·rename_i he
     have he0:e=0:=Classical.byContradiction fun hn=>he hn
     obtain ⟨d1,d2⟩:=this he0
     simp only at d1 d2
     subst d1 d2
     exact ⟨c,g,f1,f',by simpa using h⟩
theorem Ev.stk {t u:Trm} (hs:Stk t) (h:Ev t u):u=t:=by
 obtain ⟨c,g,f,f',h⟩:=h
 cases g with
 | zero=>cases h
 | succ g =>
   simp only [whF] at h
   rw [hs c (whF preL c g) f] at h
   simp at h
   exact h.1.symm
theorem zfv {c f:Int} {u:Trm} {y:OR} (h:mdF c f u=some y) (he:y.2.2.2=0):y.2.1=true/\y.1=u:=by
 unfold mdF at h
 split at h
 ·cases h;simp at he
 ·split at h
  ·split at h
   ·cases h;exact ⟨rfl,rfl⟩
   ·cases h;simp at he
  ·cases h
theorem zbp (a b v:Trm) (l:List Trm):Det (appT (mkB 4 a b) (v::l)) (appT (opnT [v] b 0) l):=fun c wh f y ho he=>by
 obtain ⟨e1,e2⟩:=z2f (h:=mkB 4 a b) (by simp [mkB]) (v::l)
 unfold onF at ho
 rw [e1,e2,if_pos ⟨rfl,by simp⟩] at ho
 exact zfv ho he
def cLL:Trm:=mkB 4 cNat (mkB 4 cNat (mkA cSucc (mkV 0)))
def addD:Dcl:=(findD preL cAdd.name).getD default
theorem zus:(findD preL cAdd.name).isSome=true:=by kernel_rfl
theorem z5m {o:Option Dcl} (h:o.isSome=true):o=some (o.getD default):=by cases o;cases h;rfl
theorem zz12:findD preL cAdd.name=some addD:=z5m zus
theorem zz2o:(decide (addD.kind=2)&&decide (addD.params=(cAdd.levels.length:Int)))=true:=by kernel_rfl
theorem zz2p:lvsT cAdd.levels addD.value=mkB 4 cNat (mkB 4 cNat (appT cRec [cNN,mkV 1,cLL,mkV 0])):=by kernel_rfl
theorem zz13 (x y:Trm):Det (appT cAdd [x,y]) (appT (mkB 4 cNat (mkB 4 cNat (appT cRec [cNN,mkV 1,cLL,mkV 0]))) [x,y]):=fun c wh f z ho he=>by
 obtain ⟨e1,e2⟩:=z2f (h:=cAdd) (by decide +kernel) [x,y]
 have hk:=zz2o
 simp only [Bool.and_eq_true,decide_eq_true_eq] at hk
 unfold onF at ho
 rw [e1,e2,if_neg (fun hc=>absurd hc.1 (by decide +kernel)),if_neg (by decide +kernel),if_pos (by decide +kernel),zz12] at ho
 simp only at ho
 rw [if_pos hk,zz2p] at ho
 exact zfv ho he
def recD:Dcl:=(findD preL cRec.name).getD default
theorem zut:(findD preL cRec.name).isSome=true:=by kernel_rfl
theorem zz2q:(!decide (recD.kind=2))=true:=by kernel_rfl
def recN:RecI:=(z1u preL cRec).getD ⟨default,0,0⟩
theorem zuu:(z1u preL cRec).isSome=true:=by kernel_rfl
theorem zuv:z1u preL cRec=some recN:=by
 have h:=zuu
 unfold recN
 cases hx:z1u preL cRec with
 | none=>rw [hx] at h;cases h
 | some r=>rfl
theorem zuw:recN.p=0:=by kernel_rfl
theorem zk6:recN.major=3:=by kernel_rfl
theorem zz2r:recN.fam.ctors.length=2:=by kernel_rfl
theorem zz2s:z1y recN.fam.ctors cZero.name=some 0:=by kernel_rfl
theorem zz2t:z1y recN.fam.ctors cSucc.name=some 1:=by kernel_rfl
theorem zz14:piL (recN.fam.ctors.getD 0 default).ty=[]:=by kernel_rfl
theorem zz15:piL (recN.fam.ctors.getD 1 default).ty=[cNat]:=by kernel_rfl
def Num:Nat->Trm->Prop
 | 0,t=>∃ u,Ev t u/\(headT u).name=cZero.name/\argsT u=[]
 | n+1,t=>∃ u a,Ev t u/\(headT u).name=cSucc.name/\argsT u=[a]/\Num n a
theorem zs_ne:¬ cZero.name=cSucc.name:=by decide +kernel
theorem Num.one:∀ {n m:Nat} {t:Trm},Num n t->Num m t->n=m
 | 0,0,_,_,_=>rfl
 | 0,m+1,t,⟨u,h1,h2,h3⟩,⟨v,a,k1,k2,k3,k4⟩=>by rw [h1.one k1,k2] at h2;exact absurd h2.symm zs_ne
 | n+1,0,t,⟨v,a,k1,k2,k3,k4⟩,⟨u,h1,h2,h3⟩=>by rw [h1.one k1,k2] at h2;exact absurd h2.symm zs_ne
 | n+1,m+1,t,⟨u,a,h1,h2,h3,h4⟩,⟨v,b,k1,k2,k3,k4⟩=>by
   rw [h1.one k1,k3] at h3
   simp only [List.cons.injEq,and_true] at h3
   subst h3
   rw [Num.one h4 k4]
theorem Num.ev {s t:Trm} (h:∀ u,Ev s u->Ev t u):∀ {n:Nat},Num n s->Num n t
 | 0,⟨u,h1,h2⟩=>⟨u,h u h1,h2⟩
 | n+1,⟨u,a,h1,h2⟩=>⟨u,a,h u h1,h2⟩
theorem Ev.gd {t u:Trm} (ht:Gd t) (h:Ev t u):Gd u:=by
 obtain ⟨c,g,f,f',h⟩:=h
 exact (z2a g t f u f' 0 ht h).1
theorem zz16 {m:Trm} (h:Gd m) {s:ByteArray} (hn:(headT m).name=s) (hs:¬ s=⟨#[]⟩):(headT m).kind=2:=Classical.byContradiction fun hk=>hs (by rw [<- hn];exact (zf h.head.w).name hk)
theorem zxt (r:Trm):Stk (mkA cSucc r):=fun c wh f=>by
 obtain ⟨e1,e2⟩:=z2f (h:=cSucc) (by decide +kernel) [r]
 have hs:(findD preL cSucc.name).isSome=true:=by kernel_rfl
 have hk:(!decide (((findD preL cSucc.name).getD default).kind=2))=true:=by kernel_rfl
 have hr:z1u preL cSucc=none:=by kernel_rfl
 simp only [Bool.not_eq_true',decide_eq_false_iff_not] at hk
 show onF preL c wh (appT cSucc [r]) f=some (appT cSucc [r],false,f,0)
 unfold onF
 rw [e1,e2,if_neg (fun hc=>absurd hc.1 (by decide +kernel)),if_neg (by decide +kernel),if_pos (by decide +kernel),z5m hs]
 simp only
 rw [if_neg (fun hc=>hk hc.1),hr]
def CntK (v:Int):Nat->Trm->Int->Int->Prop
 | 0,_,_,_=>False
 | k+1,t,f,n=>∃ g u f' e,whF preL 20000 g t f=some (u,f',e)/\((e≠0/\v=-1)\/(e=0/\(headT u).name=cZero.name/\argsT u=[]/\v=n) \/
   (e=0/\¬ ((headT u).name=cZero.name/\argsT u=[])/\((headT u).name≠cSucc.name\/(argsT u).length≠1)/\v=-1) \/
   (e=0/\(headT u).name=cSucc.name/\∃ a,argsT u=[a]/\CntK v k a f' (n+1)))
theorem CntK.num {v:Int}:∀ {k:Nat} {t:Trm} {f n:Int},CntK v k t f n->v=-1\/∃ m:Nat,v=n+m/\Num m t
 | k + 1,t,f,n,⟨g,u,f',e,hw,h⟩=>by
   rcases h with h | h | h | h
   ·exact .inl h.2
   ·obtain ⟨rfl,h1,h2,h3⟩:=h
    exact .inr ⟨0,by omega,u,⟨_,g,f,f',hw⟩,h1,h2⟩
   ·exact .inl h.2.2.2
   ·obtain ⟨rfl,h1,a,h2,h3⟩:=h
    rcases CntK.num h3 with h4 | ⟨m,h4,h5⟩
    ·exact .inl h4
    ·exact .inr ⟨m+1,by omega,u,a,⟨_,g,f,f',hw⟩,h1,h2,h5⟩
theorem CntK.le {v:Int}:∀ {k:Nat} {t:Trm} {f n:Int},CntK v k t f n->v<=n+k\/v=-1
 | k + 1,t,f,n,⟨g,u,f',e,hw,h⟩=>by
   rcases h with h | h | h | h
   ·exact .inr h.2
   ·exact .inl (by omega)
   ·exact .inr h.2.2.2
   ·obtain ⟨_,_,a,_,h3⟩:=h
    rcases CntK.le h3 with h4 | h4
    ·exact .inl (by omega)
    ·exact .inr h4
theorem zk7 (l:List Int):Con Tryz.prog 21 [.p (.sl 1 (byts l))] [] (fun r o=>r=.ptr 905 0/\o=[(905,.ce 96 [.p (.sl 1 (byts l)),.p (I 0)])]) :=
 (zhj l).at1 5 905 rfl rfl rfl rfl
def natP (l:List Int) (v:Int):Trm:=(natF l (2 * l.length+1) v 0).1
structure NatP (l:List Int) (t:Trm):Prop where
 w:wfT 1000000 t=true
 d:dpT t<=12 * l.length+20
 s:sizT t<=25 * l.length+1
theorem zme (l:List Int) (hl:l.length<=1000) (v:Int) (h0:0<=v) (h1:v<=1000):NatP l (natP l v):=by
 have m:=(zhl l (2 * l.length+1)).1 v 0 h0 (by omega) (by omega) (by omega)
 exact ⟨m.w,by have:=m.d;unfold natP;omega,by have:=m.s;have:=m.a1;unfold natP;omega⟩
theorem z9v (l:List Int) (hb:okB l) (hl:l.length<=1000) (v:Int) (h0:0<=v) (h1:v<=1000):Con Tryz.prog 31 [.ptr 1000 0,.p (I v)] (pkO l 0) (fun r o=>r=tv (natP l v)/\o=pkO l (natF l (2 * l.length+1) v 0).2) :=
 (zun l hb (by omega) (2 * l.length+1)).1 v 0 h0 (by omega) (by omega) (by omega) (by omega)
theorem zz2u {t:Trm} {f:Int} (hb:1073741824<=bdV 1099511627776 100000 f) (ht:Wd (bdV 1099511627776 100000 f) 100000 t) {g:Nat} {u:Trm} {f':Int} (h:whF preL 20000 g t f=some (u,f',0)):u=t\/(0<=f'/\f'<f):=by
 cases g with
 | zero=>cases h
 | succ g =>
   have hl:=zok 1099511627776 100000 f
   have hg:Gd t:=⟨z1b hl t ht.w,by have:=ht.d;omega⟩
   obtain ⟨g',y,h1,h2,h3,h4⟩:=zuo (T:=1099511627776) (B:=1073741824) (M:=100000) (c:=20000) (by omega) (by omega) (by omega) (by omega) (by omega) zfu hb ht
   simp only [whF] at h
   split at h
   ·cases h
   ·rename_i u1 did f1 e ho
    have hy:=zz0z ho h1
    subst hy
    have hk:=z9q (fun t f u f' e=>z2a g t f u f' e) hg ho
    simp only at h4
    split at h
    ·rename_i he;cases h;exact absurd rfl he
    ·rename_i he
     have he0:e=0:=Classical.byContradiction fun hn=>he hn
     subst he0
     split at h
     ·rename_i hd
      obtain ⟨_,k1,k2⟩:=h4 hd
      have:=(z2a g u1 f1 u f' 0 hk.1 h).2
      unfold Fu at this
      exact .inr (by omega)
     ·rename_i hd
      cases h
      have hdf:did=false:=by cases did;rfl;exact absurd rfl hd
      subst hdf
      exact .inl (zhf ho)
theorem zz2v (K:Nat) (hK:100001<=K) (N:Nat):∀ (t:Trm) (f n:Int),f.toNat * K+dpT t<=N->f<=4000->Wd (bdV 1099511627776 100000 f) 100000 t->∃ k v,k<=N+1/\CntK v k t f n:=by
 induction N with
 | zero=>intro t f n h _ _;have:=z5g t;omega
 | succ N ih =>
   intro t f n h hf hw
   have hb:(1073741824:Int)<=bdV 1099511627776 100000 f:=by unfold bdV;omega
   obtain ⟨g,⟨u,f',e⟩,h1,h2,h3⟩:=zfq (T:=1099511627776) (B:=1073741824) (M:=100000) (c:=20000) (by omega) (by omega) (by omega) (by omega) (by omega) zfu f.toNat f (Nat.le_refl _) (dpT t) t (Nat.le_refl _) hb hw
   simp only at h2 h3
   by_cases he:e≠0
   ·exact ⟨1,-1,by omega,g,u,f',e,h1,.inl ⟨he,rfl⟩⟩
   ·have he0:e=0:=Classical.byContradiction fun hn=>he hn
    subst he0
    by_cases hz:(headT u).name=cZero.name/\argsT u=[]
    ·exact ⟨1,n,by omega,g,u,f',0,h1,.inr (.inl ⟨rfl,hz.1,hz.2,rfl⟩)⟩
    ·by_cases hs:(headT u).name≠cSucc.name\/(argsT u).length≠1
     ·exact ⟨1,-1,by omega,g,u,f',0,h1,.inr (.inr (.inl ⟨rfl,hz,hs,rfl⟩))⟩
     ·have hn:(headT u).name=cSucc.name:=Classical.byContradiction fun hn=>hs (.inl hn)
      have hl:(argsT u).length=1:=Classical.byContradiction fun hn=>hs (.inr hn)
      obtain ⟨a,ha⟩:∃ a,argsT u=[a]:=by
       match argsT u,hl with
       | [a],_=>exact ⟨a,rfl⟩
      have hwu:=h2 rfl
      have ham:a∈argsT u:=by rw [ha];simp
      have had:=zol ham
      have hud:=hwu.d
      have hm:f'.toNat * K+dpT a<=N:=by
       rcases zz2u hb hw h1 with hd | hd
       ·subst hd
        have hx:=Nat.mul_le_mul_right K (show f'.toNat<=f.toNat by omega)
        generalize f'.toNat * K=A at *
        generalize f.toNat * K=B at *
        omega
       ·have hx:=Nat.mul_le_mul_right K (show f'.toNat+1<=f.toNat by omega)
        rw [Nat.add_mul,Nat.one_mul] at hx
        generalize f'.toNat * K=A at *
        generalize f.toNat * K=B at *
        omega
      obtain ⟨k,v,g1,g2⟩:=ih a f' (n+1) hm (by omega) (hwu.args.1 a ham)
      exact ⟨k+1,v,by omega,g,u,f',0,h1,.inr (.inr (.inr ⟨rfl,hn,a,ha,g2⟩))⟩
theorem zz17:cZero.name=(⟨#[122,101,114,111]⟩:ByteArray):=by kernel_rfl
theorem zz18:cSucc.name=(⟨#[115,117,99,99]⟩:ByteArray):=by kernel_rfl
set_option maxHeartbeats 8000000 in
theorem zux (v:Int) (k:Nat) (hk:k<=1000000000) (t:Trm) (hg:Gd t) (hc:CntK v k t 4000 0):Con Tryz.prog 32 [.ptr 1000 0,tv t] (refE 1000 preL 0) (fun r o=>r=.p (I v)/\o=refE 1000 preL 0):=by
 refine cv [] [1000008] [1000,1001] Tryz.func32 51 Tryz.ntmps32 rfl rfl fun cx hE=>?_
 refine loop4 (fun (k:Nat) (u:Trm) (f n:Int)=>[(5,.p (I n))]) (fun k u f n=>[(3,ceT u),(6,.ce 40 [.p (I f),.p (I 20000)])]) (fun k u f n=>CntK v k u f n/\Gd u/\Mt f 20000/\0<=n/\n+k<=1000000000) (fun k u f n=>k) k t 4000 0 [5] [3,6] hE rfl rfl rfl ⟨Sub.refl _,rfl,rfl,rfl,rfl,trivial⟩ ⟨hc,hg,⟨by omega,by omega,by omega,by omega⟩,by omega,by omega⟩ fun k u f n ⟨i1,i2,i3,i4,i5⟩=>?_
 cases k with
 | zero=>exact i1.elim
 | succ k =>
   obtain ⟨g,w,f',e,hw,h⟩:=i1
   have hkk:=z2a g u f w f' e i2 hw
   refine callX [1000,1001] (zul preL 0 preR 20000 g u f _ i2 i3 hw) rfl rfl (za _) fun r o ⟨q1,q2⟩=>?_
   subst q1 q2
   have hwd:=hkk.1.d
   have hal:=zc (argsT w)
   refine brS (fun he=>?_) (fun he=>?_)
   ·simp only at he
    have:v=-1:=by
     rcases h with h | h | h | h
     ·exact h.2
     ·exact absurd h.1 he
     ·exact absurd h.1 he
     ·exact absurd h.1 he
    subst this
    exact ⟨rfl,rfl⟩
   ·simp only at he
    refine call0 (z3h 1099511627776 (by omega) w hkk.1.w (by omega)) ?_
    have hodd:¬ ((headT w).name=cZero.name/\argsT w=[])->((headT w).name≠cSucc.name\/(argsT w).length≠1->v=-1):=fun hz hs=>by
     rcases h with h | h | h | h
     ·exact absurd h.1 he
     ·exact absurd ⟨h.2.1,h.2.2.1⟩ hz
     ·exact h.2.2.2
     ·obtain ⟨_,h1,a,h2,_⟩:=h
      rcases hs with hs | hs
      ·exact absurd h1 hs
      ·rw [h2] at hs;exact absurd rfl hs
    have hzero:(headT w).name=cZero.name->argsT w=[]->v=n:=fun h1 h2=>by
     rcases h with h | h | h | h
     ·exact absurd h.1 he
     ·exact h.2.2.2
     ·exact absurd ⟨h1,h2⟩ h.2.1
     ·rw [h.2.1] at h1;exact absurd h1.symm zs_ne
    have hnext:(headT w).name=cSucc.name->(argsT w).length=1->∃ a,argsT w=[a]/\CntK v k a f' (n+1):=fun h1 h2=>by
     rcases h with h | h | h | h
     ·exact absurd h.1 he
     ·rw [h.2.1] at h1;exact absurd h1 zs_ne
     ·rcases h.2.2.1 with hs | hs
      ·exact absurd h1 hs
      ·exact absurd h2 hs
     ·exact h.2.2
    rw [zz17] at hzero hodd
    rw [zz18] at hodd hnext
    refine join1 (A:=Unit) (fun _=>[]) (fun _=>[]) (fun _=>¬ ((headT w).name=(⟨#[122,101,114,111]⟩:ByteArray)/\argsT w=[])) [] [] [] hE rfl rfl rfl ?_ (fun _ hz=>?_)
    ·refine brS (fun hz=>fun _=>brS (fun hl=>?_) (fun hl=>⟨(),fun hc=>hl (by rw [hal,hc.2];rfl),leX.same ⟨rfl,rfl,rfl,rfl,rfl,rfl,rfl,trivial⟩⟩)) (fun hz=>⟨(),fun hc=>hz hc.1,leX.same ⟨rfl,rfl,rfl,rfl,rfl,rfl,rfl,trivial⟩⟩)
     have hnil:argsT w=[]:=List.eq_nil_of_length_eq_zero (by omega)
     rw [hzero hz hnil];exact ⟨rfl,rfl⟩
    ·refine brS (fun hs=>?_) (fun hs=>fun _=>brS (fun hl=>?_) (fun hl=>?_))
     ·rw [hodd hz (.inl hs)];exact ⟨rfl,rfl⟩
     ·rw [hodd hz (.inr (fun hc=>hl (by rw [hal,hc];rfl)))];exact ⟨rfl,rfl⟩
     ·obtain ⟨a,ha,hc⟩:=hnext (Classical.byContradiction fun hn=>hs hn) (by omega)
      have r0:(encTs (argsT w))[0]?=some (rowT a):=by rw [ha];simp [zb]
      have ga:=hkk.1.args.1 a (by rw [ha];simp)
      exact And.intro (by omega) (idxN (i:=0) r0 ⟨k,a,f',n+1,⟨hc,ga,i3.fu hkk.2,by omega,by omega⟩,by omega,Sub.refl _,rfl,rfl,rfl,rfl,trivial⟩)
theorem zyo {t:Trm} (w:wfT 1000000 t=true) (d:dpT t<=10000):∃ v:Int,(v=-1\/∃ m:Nat,v=m/\Num m t)/\v<=1000000000/\Con Tryz.prog 32 [.ptr 1000 0,tv t] (refE 1000 preL 0) (fun r o=>r=.p (I v)/\o=refE 1000 preL 0):=by
 have hw:Wd (bdV 1099511627776 100000 4000) 100000 t:=⟨z1b (by unfold bdV;omega) t w,by omega⟩
 obtain ⟨k,v,h1,h2⟩:=zz2v 100001 (Nat.le_refl _) 500000000 t 4000 0 (by show 4000 * 100001+dpT t<=_;omega) (by omega) hw
 have hb:=CntK.le h2
 refine ⟨v,?_,by omega,zux v k (by omega) t ⟨z1b (by omega) t w,by omega⟩ h2⟩
 rcases CntK.num h2 with h | ⟨m,h3,h4⟩
 ·exact .inl h
 ·exact .inr ⟨m,by omega,h4⟩
end Go.Ab.YtpneaijfkefeaaaGreat
namespace Go.Ab
open Go Go.RowKit
mutual
def allN (p:Int->ByteArray->List Lvl->Bool):Trm->Bool
 | ⟨k,_,s,ls,l⟩=>p k s ls&&allNs p l
def allNs (p:Int->ByteArray->List Lvl->Bool):List Trm->Bool
 | []=>true
 | a::r=>allN p a&&allNs p r
end
structure NO (p:Int->ByteArray->List Lvl->Bool):Prop where
 own:∀ k,k≠1->k≠2->p k ⟨#[]⟩ []=true
structure NP (p:Int->ByteArray->List Lvl->Bool):Prop extends NO p where
 put:∀ k s ls k' s' b,p k s ls=true->p k' s' b=true->p k s (putFs b ls)=true
section
variable {p : Int → ByteArray → List Lvl → Bool}
theorem allNs_iff:∀ {l:List Trm},allNs p l=true↔∀ a∈l,allN p a=true
 | []=>by simp [allNs]
 | a::r=>by simp [allNs,allNs_iff (l:=r)]
theorem zhm (t:Trm):allN p t=(p t.kind t.name t.levels&&allNs p t.args):=by cases t;rfl
theorem z1q {t a:Trm} (h:allN p t=true) (ha:a∈t.args):allN p a=true:=by
 rw [zhm,Bool.and_eq_true] at h;exact allNs_iff.1 h.2 a ha
theorem z4u {t:Trm} (h:allN p t=true):p t.kind t.name t.levels=true:=by
 rw [zhm,Bool.and_eq_true] at h;exact h.1
theorem zmf {t:Trm} (h:p t.kind t.name t.levels=true) (hs:∀ a∈t.args,allN p a=true):allN p t=true:=by
 rw [zhm,Bool.and_eq_true];exact ⟨h,allNs_iff.2 hs⟩
theorem zhn:∀ (t:Trm) (acc:List Trm),allN p t=true->(∀ a∈acc,allN p a=true)->allN p (spnT t acc).1=true/\∀ a∈(spnT t acc).2,allN p a=true
 | ⟨k, n,s,ls,l⟩,acc,h,ha=>by
   rw [spnT.eq_def]
   simp only
   split
   ·match l,h with
    | [f,a],h =>
      exact zhn f (a::acc) (z1q h (by simp)) (fun x hx=>by rcases List.mem_cons.1 hx with rfl | hx;exact z1q h (by simp);exact ha x hx)
    | [],h=>exact ⟨h,ha⟩
    | [_],h=>exact ⟨h,ha⟩
    | _::_::_::_,h=>exact ⟨h,ha⟩
   ·exact ⟨h,ha⟩
termination_by t=>SizeOf.sizeOf t
theorem z9w {t:Trm} (h:allN p t=true):allN p (headT t)=true:=(zhn t [] h (by simp)).1
theorem z6p {t:Trm} (h:allN p t=true):∀ a∈argsT t,allN p a=true:=(zhn t [] h (by simp)).2
mutual
theorem zho {f:Int->Trm->Trm} (hf:∀ d v,allN p v=true->allN p (f d v)=true):∀ (t:Trm) (d:Int),allN p t=true->allN p (trvT f t d)=true
 | ⟨k,n,s,ls,l⟩,d,h=>by
   simp only [trvT]
   split
   ·exact hf d _ h
   ·simp only [allN,Bool.and_eq_true] at h ⊢
    exact ⟨h.1,zk8 hf k l 0 d h.2⟩
theorem zk8 {f:Int->Trm->Trm} (hf:∀ d v,allN p v=true->allN p (f d v)=true) (k:Int):∀ (l:List Trm) (i d:Int),allNs p l=true->allNs p (trvTs f k l i d)=true
 | [],_,_,_=>rfl
 | a::r,i,d,h=>by
   simp only [allNs,Bool.and_eq_true] at h
   simp only [trvTs,allNs,Bool.and_eq_true]
   exact ⟨zho hf a _ h.1,zk8 hf k r _ d h.2⟩
end
theorem zk9 {v:Trm} {n:Int} (h:allN p v=true):allN p ⟨v.kind,n,v.name,v.levels,v.args⟩=true:=by
 rw [zhm] at h ⊢;exact h
theorem z9x {t:Trm} (h:allN p t=true) (m d:Int):allN p (lftT m t d)=true:=by
 unfold lftT
 refine zho (fun d v hv=>?_) t d h
 unfold lftV
 split
 ·exact zk9 hv
 ·exact hv
theorem zmg:∀ t:Trm,allN p t=true->(∀ x∈piL t,allN p x=true)/\allN p (piE t)=true
 | ⟨k,n,s,ls,l⟩,h=>by
   by_cases hk:k=5/\l.length=2
   ·obtain ⟨x,y,rfl⟩:=z3d hk.2
    have hp':=z2d (u:=⟨k,n,s,ls,[x,y]⟩) hk.1 rfl
    have ih:=zmg y (z1q h (by simp))
    rw [hp'.1,hp'.2.1]
    refine ⟨fun z hz=>?_,ih.2⟩
    rcases List.mem_cons.1 hz with rfl | hz
    ·exact z1q h (by simp)
    ·exact ih.1 z hz
   ·have hp':=z2t (u:=⟨k,n,s,ls,l⟩) hk
    rw [hp'.1,hp'.2.1]
    exact ⟨fun x hx=>(by cases hx),h⟩
termination_by t=>SizeOf.sizeOf t
variable (hp : NO p)
include hp
theorem zmh:allN p zT=true:=by simp [zT,allN,allNs,hp.own 0]
theorem z6q {l:List Trm} (h:∀ a∈l,allN p a=true) (i:Nat):allN p (l.getD i zT)=true:=by
 rw [List.getD_eq_getElem?_getD]
 cases hl:l[i]? with
 | none=>exact zmh hp
 | some x=>exact h x (List.mem_of_getElem? hl)
theorem zoo {vs:List Trm} (hv:∀ v∈vs,allN p v=true) {t:Trm} (h:allN p t=true) (d:Int):allN p (opnT vs t d)=true:=by
 unfold opnT
 refine zho (fun d v hv'=>?_) t d h
 unfold opnV
 split
 ·exact hv'
 ·split
  ·exact z9x (z6q hp hv _) _ _
  ·exact zk9 hv'
theorem z7m {a b:Trm} (ha:allN p a=true) (hb:allN p b=true):allN p (mkA a b)=true:=by
 simp [mkA,allN,allNs,ha,hb,hp.own 3]
theorem zop {k:Int} (h1:k≠1) (h2:k≠2) {a b:Trm} (ha:allN p a=true) (hb:allN p b=true):allN p (mkB k a b)=true:=by
 simp [mkB,allN,allNs,ha,hb,hp.own k h1 h2]
theorem z4e:∀ {l:List Trm} {t:Trm},allN p t=true->(∀ a∈l,allN p a=true)->allN p (appT t l)=true
 | [],t,h,_=>h
 | a::r,t,h,hl=>z4e (l:=r) (z7m hp h (hl a (by simp))) fun b hb=>hl b (by simp [hb])
theorem zka {t:Trm}:∀ {xs:List Trm},(∀ x∈xs,allN p x=true)->allN p t=true->allN p (lamsT xs t)=true
 | [],_,ht=>ht
 | x::xs,hx,ht=>zop hp (by decide) (by decide) (hx x (by simp)) (zka (xs:=xs) (fun y hy=>hx y (by simp [hy])) ht)
theorem zuy (n:Nat):∀ v∈varsT n,allN p v=true:=by
 induction n with
 | zero=>intro v h;cases h
 | succ n ih =>
   intro v h
   simp only [varsT,List.mem_cons] at h
   rcases h with rfl | h
   ·simp [mkV,allN,allNs,hp.own 0]
   ·exact ih v h
end
section
variable {p : Int → ByteArray → List Lvl → Bool} (hp : NP p)
include hp
theorem zhp {k:Int} {s:ByteArray} {b:List Lvl} (hb:p k s b=true):∀ t:Trm,allN p t=true->allN p (lvsT b t)=true
 | ⟨k',n,s',ls,l⟩,h=>by
   have h1:=z4u h
   rw [zag]
   refine zmf (hp.put _ _ _ _ _ _ h1 hb) fun a ha=>?_
   simp only [z3s] at ha
   obtain ⟨c,hc,rfl⟩:=List.mem_map.1 ha
   exact zhp hb c (z1q h hc)
termination_by t=>SizeOf.sizeOf t
decreasing_by exact Trm.lt (t:=⟨k',n,s',ls,l⟩) hc
theorem zz19 {r:RecI} {h:Trm} {args ahead:List Trm} {field v x:Trm} (hh:allN p h=true) (ha:∀ a∈args,allN p a=true) (hd:∀ a∈ahead,allN p a=true) (hf:allN p field=true) (hv:allN p v=true) (hx:hypF r h args field ahead v=some x):allN p x=true:=by
 unfold hypF at hx
 split at hx
 ·cases hx
  have ho:=zoo hp.toNO (vs:=args.take r.p++ahead) (fun y hy=>by
   rcases List.mem_append.1 hy with hy | hy
   ·exact ha y (List.mem_of_mem_take hy)
   ·exact hd y hy) (zhp hp (z4u hh) field hf) 0
  have hpo:=zmg _ ho
  refine zka hp.toNO hpo.1 (z7m hp.toNO (z4e hp.toNO (z4e hp.toNO hh fun a hm=>?_) fun a hm=>z6p hpo.2 a (List.mem_of_mem_drop hm)) (z4e hp.toNO (z9x hv _ _) (zuy hp.toNO _)))
  obtain ⟨y,hy,rfl⟩:=List.mem_map.1 hm
  exact z9x (ha y (List.mem_of_mem_take hy)) _ _
 ·cases hx
theorem zoq {r:RecI} {h:Trm} {args:List Trm} (hh:allN p h=true) (ha:∀ a∈args,allN p a=true):∀ (fs ahead bs:List Trm) (out:Trm),(∀ a∈fs,allN p a=true)->(∀ a∈ahead,allN p a=true)->(∀ a∈bs,allN p a=true)->allN p out=true->allN p (hypsF r h args fs ahead bs out)=true
 | [],ahead,bs,out,_,_,_,ho=>by simpa [hypsF] using ho
 | f::fs,ahead,[],out,_,_,_,ho=>by simpa [hypsF] using ho
 | f :: fs,ahead,v::bs,out,hf,hd,hv,ho=>by
   simp only [hypsF]
   have ih:=fun out' (h':allN p out'=true)=>zoq (r:=r) hh ha fs (ahead++[v]) bs out' (fun a h=>hf a (by simp [h])) (fun a h=>by
    rcases List.mem_append.1 h with h | h
    ·exact hd a h
    ·simp at h;subst h;exact hv a (by simp)) (fun a h=>hv a (by simp [h])) h'
   cases hx:hypF r h args f ahead v with
   | none=>exact ih out ho
   | some x=>exact ih (mkA out x) (z7m hp.toNO ho (zz19 hp hh ha hd (hf f (by simp)) (hv v (by simp)) hx))
theorem zz1a {r:RecI} (hc:∀ k∈r.fam.ctors,allN p k.ty=true) {h:Trm} {args:List Trm} (hh:allN p h=true) (ha:∀ a∈args,allN p a=true) {major u:Trm} (hj:allN p major=true) (hu:iotR r h args major=some u):allN p u=true:=by
 unfold iotR at hu
 split at hu
 ·split at hu
  ·cases hu
  ·rename_i k hk
   split at hu
   ·cases hu
    have hkl:=z6n hk
    have hct:r.fam.ctors[k]?=some (r.fam.ctors.getD k default):=by rw [List.getD_eq_getElem?_getD,List.getElem?_eq_getElem hkl.1];rfl
    have hty:=hc _ (List.mem_of_getElem? hct)
    generalize (r.fam.ctors.getD k default).ty=ty at *
    have hpi:=zmg ty hty
    have hF:∀ a∈(argsT major).drop r.p,allN p a=true:=fun a h=>z6p hj a (List.mem_of_mem_drop h)
    exact z4e hp.toNO (zoq hp hh ha _ [] _ _ (fun a h=>hpi.1 a (List.mem_of_mem_drop h)) (fun a h=>by cases h) hF (z4e hp.toNO (z6q hp.toNO ha _) hF)) fun a h=>ha a (List.mem_of_mem_drop h)
   ·cases hu
 ·cases hu
structure EnvA (p:Int->ByteArray->List Lvl->Bool) (ds:List Dcl):Prop where
 v:∀ d∈ds,allN p d.value=true
 c:∀ d∈ds,∀ k∈d.ctors,allN p k.ty=true
omit hp in
theorem zor {c f:Int} {u:Trm} (hu:allN p u=true) (hz:allN p zT=true) {y:OR} (h:mdF c f u=some y):allN p y.1=true:=by
 unfold mdF at h
 split at h
 ·cases h;exact hz
 ·split at h
  ·split at h
   ·cases h;exact hu
   ·cases h;exact hz
  ·cases h
theorem zz2w {ds:List Dcl} (hE:EnvA p ds) {c:Int} {wh:Trm->Int->Option WR} (hw:∀ t f x,allN p t=true->wh t f=some x->allN p x.1=true) {t:Trm} (ht:allN p t=true) {f:Int} {y:OR} (h:onF ds c wh t f=some y):allN p y.1=true:=by
 have hz:=zmh hp.toNO
 have hh:=z9w ht
 have ha:=z6p ht
 have hsub:∀ i,allN p ((headT t).args.getD i zT)=true:=fun i=>z6q hp.toNO (fun a h=>z1q hh h) i
 have hb:∀ (body v:Trm),allN p body=true->allN p v=true->allN p (opnT [v] body 0)=true:=fun body v h1 h2=>zoo hp.toNO (fun x hx=>by simp at hx;subst hx;exact h2) h1 0
 unfold onF at h
 split at h
 ·exact zor (z4e hp.toNO (hb _ _ (hsub 1) (z6q hp.toNO ha 0)) fun a h=>ha a (List.mem_of_mem_drop h)) hz h
 ·split at h
  ·exact zor (z4e hp.toNO (hb _ _ (hsub 2) (hsub 1)) ha) hz h
  ·split at h
   ·split at h
    ·cases h;exact ht
    ·rename_i d hd
     split at h
     ·exact zor (z4e hp.toNO (zhp hp (z4u hh) _ (hE.v d (List.mem_of_find?_eq_some hd))) ha) hz h
     ·split at h
      ·cases h;exact ht
      ·rename_i r hr
       split at h
       ·rename_i hm5
        split at h
        ·cases h
        ·rename_i m f1 e1 hm
         have hmj:=hw _ _ _ (z6q hp.toNO ha _) hm
         split at h
         ·cases h;exact hz
         ·split at h
          ·rename_i u hio
           rw [z7h,hr] at hio
           simp only [Option.bind_some,if_pos hm5] at hio
           exact zor (zz1a hp (hE.c _ (z5k hr).1) hh ha hmj hio) hz h
          ·cases h;exact ht
       ·cases h;exact ht
   ·cases h;exact ht
theorem zos {ds:List Dcl} (hE:EnvA p ds) {c:Int}:∀ (g:Nat) (t:Trm) (f:Int) (x:WR),allN p t=true->whF ds c g t f=some x->allN p x.1=true
 | 0,_,_,_,_,h=>by cases h
 | g + 1,t,f,x,ht,h=>by
   simp only [whF] at h
   split at h
   ·cases h
   ·rename_i u did f1 e ho
    have h1:=zz2w hp hE (fun t f x h1 h2=>zos hE g t f x h1 h2) ht ho
    split at h
    ·cases h;exact zmh hp.toNO
    ·split at h
     ·exact zos hE g u f1 x h1 h
     ·cases h;exact h1
end
def rSamF (a b:Lvl):Bool:=rLeqF a b&&rLeqF b a
def samLs:List Lvl->List Lvl->Bool
 | [],[]=>true
 | a::r,b::s=>rSamF a b&&samLs r s
 | [],_::_=>false
 | _::_,[]=>false
mutual
def alkT:Trm->Trm->Bool
 | ⟨k,n,s,ls,l⟩,⟨k',n',s',ls',l'⟩=>decide (k=k')&&(decide (n=n')&&(decide (s=s')&&(samLs ls ls'&&alkTs l l')))
def alkTs:List Trm->List Trm->Bool
 | [],[]=>true
 | a::r,b::s=>alkT a b&&alkTs r s
 | [],_::_=>false
 | _::_,[]=>false
end
theorem zmi (a b:Trm):alkT a b=(decide (a.kind=b.kind)&&(decide (a.n=b.n)&&(decide (a.name=b.name)&&(samLs a.levels b.levels&&alkTs a.args b.args)))):=by cases a;cases b;rfl
theorem zkb:∀ {l m:List Lvl},l.length=m.length->samLs l m=(l.zip m).all fun p=>rSamF p.1 p.2
 | [],[],_=>rfl
 | a::r,b::s,h=>by simp only [samLs,List.zip_cons_cons,List.all_cons];rw [zkb (by simpa using h)]
 | [],_::_,h=>by cases h
 | _::_,[],h=>by cases h
theorem zkc:∀ {l m:List Trm},l.length=m.length->alkTs l m=(l.zip m).all fun p=>alkT p.1 p.2
 | [],[],_=>rfl
 | a::r,b::s,h=>by simp only [alkTs,List.zip_cons_cons,List.all_cons];rw [zkc (by simpa using h)]
 | [],_::_,h=>by cases h
 | _::_,[],h=>by cases h
theorem zot:∀ {l m:List Lvl},samLs l m=true->l.length=m.length
 | [],[],_=>rfl
 | a::r,b::s,h=>by simp only [samLs,Bool.and_eq_true] at h;simp [zot h.2]
 | [],_::_,h=>by cases h
 | _::_,[],h=>by cases h
theorem zou:∀ {l m:List Trm},alkTs l m=true->l.length=m.length
 | [],[],_=>rfl
 | a::r,b::s,h=>by simp only [alkTs,Bool.and_eq_true] at h;simp [zou h.2]
 | [],_::_,h=>by cases h
 | _::_,[],h=>by cases h
theorem zuz {l m:List Lvl} (h:l.length≠m.length):samLs l m=false:=by
 cases hb:samLs l m with
 | false=>rfl
 | true=>exact absurd (zot hb) h
theorem zv0 {l m:List Trm} (h:l.length≠m.length):alkTs l m=false:=by
 cases hb:alkTs l m with
 | false=>rfl
 | true=>exact absurd (zou hb) h
theorem zqx (a:Lvl):rLeqF a a=true:=by unfold rLeqF;rw [List.all_eq_true];intro p _;simp
theorem zqy (a:Lvl):rSamF a a=true:=by unfold rSamF;rw [zqx];rfl
theorem zfw:∀ l:List Lvl,samLs l l=true
 | []=>rfl
 | a::r=>by simp [samLs,zqy,zfw r]
mutual
theorem z1v:∀ a:Trm,alkT a a=true
 | ⟨k,n,s,ls,l⟩=>by simp [alkT,zfw,zfx l]
theorem zfx:∀ l:List Trm,alkTs l l=true
 | []=>rfl
 | a::r=>by simp [alkTs,z1v a,zfx r]
end
abbrev CR:=Bool×Int×Int
def ovrT (t:Trm):Trm:=mkA (lftT 1 t 0) (mkV 0)
def allF (cf:Trm->Trm->Int->Option CR):List Trm->List Trm->Int->Option CR
 | a::r,b::s,f=>match cf a b f with
   | none=>none
   | some (is,f1,e)=>if e≠0\/is=false then some (false,f1,e) else allF cf r s f1
 | _,_,f=>some (true,f,0)
def offT (x y:Trm):Prop:=argsT x=[]\/(argsT x).length≠(argsT y).length\/((headT x).kind≠0/\(headT x).kind≠2)\/alkT (headT x) (headT y)=false
instance (x y:Trm):Decidable (offT x y):=by unfold offT;infer_instance
def hdF (cf:Trm->Trm->Int->Option CR) (x y:Trm) (f:Int):Option CR :=
 if alkT x y=true then some (true,f,0)
 else if x.kind=y.kind/\(x.kind=4\/x.kind=5) then allF cf x.args y.args f
 else if x.kind=4 then (if gdT (ovrT y)=true then cf (x.args.getD 1 zT) (ovrT y) f else none)
 else if y.kind=4 then (if gdT (ovrT x)=true then cf (ovrT x) (y.args.getD 1 zT) f else none)
 else if offT x y then some (false,f,0) else allF cf (argsT x) (argsT y) f
def cvF (ds:List Dcl) (c:Int):Nat->Trm->Trm->Int->Option CR
 | 0,_,_,_=>none
 | g + 1,a,b,f=>if f<=0 then some (false,f,11) else if alkT a b=true then some (true,f-1,0) else match whF ds c g a (f-1) with
   | none=>none
   | some (x,f1,e)=>if e≠0 then some (false,f1,e) else match whF ds c g b f1 with
     | none=>none
     | some (y,f2,e2)=>if e2≠0 then some (false,f2,e2) else hdF (cvF ds c g) x y f2
theorem z9y {cf cf':Trm->Trm->Int->Option CR} (h:∀ a b f x,cf a b f=some x->cf' a b f=some x):∀ (l m:List Trm) (f:Int) (y:CR),allF cf l m f=some y->allF cf' l m f=some y
 | a :: r,b::s,f,y,hy=>by
   simp only [allF] at hy ⊢
   cases ha:cf a b f with
   | none=>rw [ha] at hy;cases hy
   | some x =>
     rw [ha] at hy
     rw [h _ _ _ _ ha]
     obtain ⟨is,f1,e⟩:=x
     simp only at hy ⊢
     split at hy
     ·rename_i he;rw [if_pos he];exact hy
     ·rename_i he;rw [if_neg he];exact z9y h r s f1 y hy
 | [],[],f,y,hy=>hy
 | [],_::_,f,y,hy=>hy
 | _::_,[],f,y,hy=>hy
theorem zov {cf cf':Trm->Trm->Int->Option CR} (h:∀ a b f x,cf a b f=some x->cf' a b f=some x) {x y:Trm} {f:Int} {z:CR} (hz:hdF cf x y f=some z):hdF cf' x y f=some z:=by
 unfold hdF at hz ⊢
 repeat' split at hz
 all_goals (first
  | (rename_i h1;rw [if_pos h1];exact hz)
  | skip)
 ·rename_i h1 h2;rw [if_neg h1,if_pos h2];exact z9y h _ _ _ _ hz
 ·rename_i h1 h2 h3 h4;rw [if_neg h1,if_neg h2,if_pos h3,if_pos h4];exact h _ _ _ _ hz
 ·cases hz
 ·rename_i h1 h2 h3 h4 h5;rw [if_neg h1,if_neg h2,if_neg h3,if_pos h4,if_pos h5];exact h _ _ _ _ hz
 ·cases hz
 ·rename_i h1 h2 h3 h4 h5;rw [if_neg h1,if_neg h2,if_neg h3,if_neg h4,if_pos h5];exact hz
 ·rename_i h1 h2 h3 h4 h5;rw [if_neg h1,if_neg h2,if_neg h3,if_neg h4,if_neg h5];exact z9y h _ _ _ _ hz
theorem z7n {ds:List Dcl} {c:Int}:∀ (g k:Nat),g<=k->∀ (a b:Trm) (f:Int) (x:CR),cvF ds c g a b f=some x->cvF ds c k a b f=some x
 | 0,_,_,_,_,_,_,h=>by cases h
 | g+1,0,hk,_,_,_,_,_=>by omega
 | g + 1,k+1,hk,a,b,f,x,h=>by
   simp only [cvF] at h ⊢
   split at h
   ·rename_i hf;rw [if_pos hf];exact h
   rename_i hf
   rw [if_neg hf]
   split at h
   ·rename_i ha;rw [if_pos ha];exact h
   rename_i ha
   rw [if_neg ha]
   cases hw:whF ds c g a (f-1) with
   | none=>rw [hw] at h;cases h
   | some y =>
     rw [hw] at h
     rw [z1p g k (by omega) _ _ _ hw]
     obtain ⟨w,f1,e⟩:=y
     simp only at h ⊢
     split at h
     ·rename_i he;rw [if_pos he];exact h
     rename_i he
     rw [if_neg he]
     cases hv:whF ds c g b f1 with
     | none=>rw [hv] at h;cases h
     | some z =>
       rw [hv] at h
       rw [z1p g k (by omega) _ _ _ hv]
       obtain ⟨v,f2,e2⟩:=z
       simp only at h ⊢
       split at h
       ·rename_i he2;rw [if_pos he2];exact h
       rename_i he2
       rw [if_neg he2]
       exact zov (fun a b f x hx=>z7n g k (by omega) a b f x hx) h
theorem zz1b {ds:List Dcl} {c:Int} {g k:Nat} {a b:Trm} {f:Int} {x y:CR} (h1:cvF ds c g a b f=some x) (h2:cvF ds c k a b f=some y):x=y:=by
 have e1:=z7n g (max g k) (by omega) a b f x h1
 have e2:=z7n k (max g k) (by omega) a b f y h2
 rw [e1] at e2
 exact Option.some.inj e2
theorem ze3 {cf cf':Trm->Trm->Int->Option CR} {d:Int} (h:∀ a b f is f',cf a b f=some (is,f',0)->cf' a b (f+d)=some (is,f'+d,0)):∀ (l m:List Trm) (f:Int) (is:Bool) (f':Int),allF cf l m f=some (is,f',0)->allF cf' l m (f+d)=some (is,f'+d,0)
 | a :: r,b::s,f,is,f',hy=>by
   simp only [allF] at hy ⊢
   cases ha:cf a b f with
   | none=>rw [ha] at hy;cases hy
   | some x =>
     rw [ha] at hy
     obtain ⟨i1,f1,e⟩:=x
     simp only at hy
     by_cases he:e=0
     ·subst he
      rw [h _ _ _ _ _ ha]
      simp only
      split at hy
      ·rename_i he;rw [if_pos he];cases hy;rfl
      ·rename_i he;rw [if_neg he];exact ze3 h r s f1 is f' hy
     ·rw [if_pos (.inl he)] at hy
      simp only [Option.some.injEq,Prod.mk.injEq] at hy
      exact absurd hy.2.2 he
 | [],[],f,is,f',hy=>by simp only [allF,Option.some.injEq,Prod.mk.injEq] at hy ⊢;exact ⟨hy.1,by omega,trivial⟩
 | [],_::_,f,is,f',hy=>by simp only [allF,Option.some.injEq,Prod.mk.injEq] at hy ⊢;exact ⟨hy.1,by omega,trivial⟩
 | _::_,[],f,is,f',hy=>by simp only [allF,Option.some.injEq,Prod.mk.injEq] at hy ⊢;exact ⟨hy.1,by omega,trivial⟩
theorem zxu {cf cf':Trm->Trm->Int->Option CR} {d:Int} (h:∀ a b f is f',cf a b f=some (is,f',0)->cf' a b (f+d)=some (is,f'+d,0)) {x y:Trm} {f:Int} {is:Bool} {f':Int} (hz:hdF cf x y f=some (is,f',0)):hdF cf' x y (f+d)=some (is,f'+d,0):=by
 unfold hdF at hz ⊢
 repeat' split at hz
 ·rename_i h1;rw [if_pos h1];simp only [Option.some.injEq,Prod.mk.injEq] at hz ⊢;exact ⟨hz.1,by omega,trivial⟩
 ·rename_i h1 h2;rw [if_neg h1,if_pos h2];exact ze3 h _ _ _ _ _ hz
 ·rename_i h1 h2 h3 h4;rw [if_neg h1,if_neg h2,if_pos h3,if_pos h4];exact h _ _ _ _ _ hz
 ·cases hz
 ·rename_i h1 h2 h3 h4 h5;rw [if_neg h1,if_neg h2,if_neg h3,if_pos h4,if_pos h5];exact h _ _ _ _ _ hz
 ·cases hz
 ·rename_i h1 h2 h3 h4 h5;rw [if_neg h1,if_neg h2,if_neg h3,if_neg h4,if_pos h5];simp only [Option.some.injEq,Prod.mk.injEq] at hz ⊢;exact ⟨hz.1,by omega,trivial⟩
 ·rename_i h1 h2 h3 h4 h5;rw [if_neg h1,if_neg h2,if_neg h3,if_neg h4,if_neg h5];exact ze3 h _ _ _ _ _ hz
theorem zhq {ds:List Dcl} {c c':Int} (hc:c<=c') {d:Int} (hd:0<=d):∀ (g:Nat) (a b:Trm) (f:Int) (is:Bool) (f':Int),cvF ds c g a b f=some (is,f',0)->cvF ds c' g a b (f+d)=some (is,f'+d,0)
 | 0,_,_,_,_,_,h=>by cases h
 | g + 1,a,b,f,is,f',h=>by
   simp only [cvF] at h ⊢
   split at h
   ·simp at h
   rename_i hf
   rw [if_neg (by omega)]
   split at h
   ·rename_i ha;rw [if_pos ha];simp only [Option.some.injEq,Prod.mk.injEq] at h ⊢;exact ⟨h.1,by omega,trivial⟩
   rename_i ha
   rw [if_neg ha]
   cases hw:whF ds c g a (f-1) with
   | none=>rw [hw] at h;cases h
   | some y =>
     obtain ⟨w,f1,e⟩:=y
     rw [hw] at h
     simp only at h
     split at h
     ·rename_i he;simp only [Option.some.injEq,Prod.mk.injEq] at h;exact absurd h.2.2 he
     rename_i he
     have he0:e=0:=Classical.byContradiction fun h=>he h
     subst he0
     have h1:=z7j hc hd g a (f-1) w f1 hw
     rw [show f+d-1=f-1+d by omega,h1]
     simp only
     rw [if_neg he]
     cases hv:whF ds c g b f1 with
     | none=>rw [hv] at h;cases h
     | some z =>
       obtain ⟨v,f2,e2⟩:=z
       rw [hv] at h
       simp only at h
       split at h
       ·rename_i he2;simp only [Option.some.injEq,Prod.mk.injEq] at h;exact absurd h.2.2 he2
       rename_i he2
       have he20:e2=0:=Classical.byContradiction fun h=>he2 h
       subst he20
       rw [z7j hc hd g b f1 v f2 hv]
       simp only
       rw [if_neg he2]
       exact zxu (fun a b f is f' hx=>zhq hc hd g a b f is f' hx) h
def CK (f:Int) (x:CR):Prop:=Fu f x.2.1/\(x.2.2=0\/errE x.2.2/\x.1=false)
theorem zax {cf:Trm->Trm->Int->Option CR} (h:∀ a b f x,Gd a->Gd b->cf a b f=some x->CK f x):∀ (l m:List Trm) (f:Int) (x:CR),(∀ a∈l,Gd a)->(∀ a∈m,Gd a)->allF cf l m f=some x->CK f x
 | a :: r,b::s,f,x,hl,hm,hx=>by
   simp only [allF] at hx
   cases ha:cf a b f with
   | none=>rw [ha] at hx;cases hx
   | some y =>
     have hk:=h a b f y (hl a (by simp)) (hm b (by simp)) ha
     rw [ha] at hx
     obtain ⟨is,f1,e⟩:=y
     simp only at hx
     split at hx
     ·cases hx;exact ⟨hk.1,by rcases hk.2 with h | h;exact .inl h;exact .inr ⟨h.1,rfl⟩⟩
     ·have:=zax h r s f1 x (fun a h=>hl a (by simp [h])) (fun a h=>hm a (by simp [h])) hx
      exact ⟨hk.1.trans this.1,this.2⟩
 | [],[],f,x,_,_,hx=>by simp only [allF,Option.some.injEq] at hx;subst hx;exact ⟨.inl rfl,.inl rfl⟩
 | [],_::_,f,x,_,_,hx=>by simp only [allF,Option.some.injEq] at hx;subst hx;exact ⟨.inl rfl,.inl rfl⟩
 | _::_,[],f,x,_,_,hx=>by simp only [allF,Option.some.injEq] at hx;subst hx;exact ⟨.inl rfl,.inl rfl⟩
theorem zv1 {cf:Trm->Trm->Int->Option CR} (h:∀ a b f x,Gd a->Gd b->cf a b f=some x->CK f x) {x y:Trm} {f:Int} {z:CR} (hx:Gd x) (hy:Gd y) (hz:hdF cf x y f=some z):CK f z:=by
 unfold hdF at hz
 repeat' split at hz
 ·cases hz;exact ⟨.inl rfl,.inl rfl⟩
 ·exact zax h _ _ _ _ (fun a h=>hx.sub h) (fun a h=>hy.sub h) hz
 ·rename_i hg;exact h _ _ _ _ (Gd.getD (fun a h=>hx.sub h) 1) (gdT_iff.1 hg) hz
 ·cases hz
 ·rename_i hg;exact h _ _ _ _ (gdT_iff.1 hg) (Gd.getD (fun a h=>hy.sub h) 1) hz
 ·cases hz
 ·cases hz;exact ⟨.inl rfl,.inl rfl⟩
 ·exact zax h _ _ _ _ hx.args.1 hy.args.1 hz
theorem ze4 {ds:List Dcl} {c:Int}:∀ (g:Nat) (a b:Trm) (f:Int) (x:CR),Gd a->Gd b->cvF ds c g a b f=some x->CK f x
 | 0,_,_,_,_,_,_,h=>by cases h
 | g + 1,a,b,f,x,ha,hb,h=>by
   simp only [cvF] at h
   split at h
   ·cases h;exact ⟨.inl rfl,.inr ⟨.inl rfl,rfl⟩⟩
   rename_i hf
   have h1:∀ {x:Int},Fu (f-1) x->Fu f x:=fun hx=>by unfold Fu at *;omega
   split at h
   ·cases h;exact ⟨h1 (.inl rfl),.inl rfl⟩
   cases hw:whF ds c g a (f-1) with
   | none=>rw [hw] at h;cases h
   | some y =>
     obtain ⟨w,f1,e⟩:=y
     have hk:=z2a g a (f-1) w f1 e ha hw
     have he:=zhi g a (f-1) _ hw
     rw [hw] at h
     simp only at h he
     split at h
     ·rename_i hne;cases h;exact ⟨h1 hk.2,.inr ⟨(he hne).1,rfl⟩⟩
     cases hv:whF ds c g b f1 with
     | none=>rw [hv] at h;cases h
     | some z =>
       obtain ⟨v,f2,e2⟩:=z
       have hk2:=z2a g b f1 v f2 e2 hb hv
       have he2:=zhi g b f1 _ hv
       rw [hv] at h
       simp only at h he2
       split at h
       ·rename_i hne;cases h;exact ⟨h1 (hk.2.trans hk2.2),.inr ⟨(he2 hne).1,rfl⟩⟩
       have:=zv1 (fun a b f x=>ze4 g a b f x) hk.1 hk2.1 h
       exact ⟨h1 ((hk.2.trans hk2.2).trans this.1),this.2⟩
theorem zyp {b:Int} (hb:0<=b) {m:Nat} (hm:1<=m) {t:Trm} (h:Wd b m t):Wd (b+1) (m+1) (ovrT t) :=
 Wd.mkA (by omega) (h.lift 1) ((zug (b:=b+1) (i:=0) hm (by omega)))
section
variable {B : Int} {c : Int} (hB : 0 ≤ B)
include hB
theorem zz2x {ds:List Dcl} (hE:EnvW B ds):∀ (n:Nat) (f:Int),f.toNat<=n->f<=100000->∀ (T:Int) (m:Nat) (a b:Trm),T<=1099511627776->c<=m->3<=m->m+f.toNat<=10000000->B<=bdV T m f->Wd (bdV T m f) m a->Wd (bdV T m f) m b->∃ g x,cvF ds c g a b f=some x/\x.2.1<=f:=by
 intro n
 induction n with
 | zero=>intro f hf _ T m a b _ _ _ _ _ _ _;exact ⟨1,(false,f,11),by simp only [cvF];rw [if_pos (by omega)],Int.le_refl _⟩
 | succ n IH =>
   intro f hf hF T m a b hT hc h3 hM hb ha hbb
   by_cases hf0:f<=0
   ·exact ⟨1,(false,f,11),by simp only [cvF];rw [if_pos hf0],Int.le_refl _⟩
   by_cases hk:alkT a b=true
   ·exact ⟨1,(true,f-1,0),by simp only [cvF];rw [if_neg hf0,if_pos hk],by simp only;omega⟩
   have hst:=zhg (T:=T) (M:=m) (f:=f) (by omega)
   have hT':∀ x,bdV (T-(200000+m)) m x=bdV T m x-(200000+m):=fun x=>by unfold bdV;omega
   have hbm:∀ {x y:Int},x<=y->bdV (T-(200000+m)) m y<=bdV (T-(200000+m)) m x:=fun h=>zbn h
   have e0:bdV (T-(200000+m)) m (f-1)=bdV T m f:=by rw [hT',hst];omega
   obtain ⟨g1,⟨x,f1,e⟩,k1,k2,k3⟩:=zfq (T:=T-(200000+m)) (B:=B) (M:=m) (c:=c) (by omega) hB (by omega) (by omega) hc hE (f-1).toNat (f-1) (Nat.le_refl _) (dpT a) a (Nat.le_refl _) (by rw [e0];exact hb) (by rw [e0];exact ha)
   simp only at k2 k3
   by_cases he:e≠0
   ·exact ⟨g1+1,(false,f1,e),by simp only [cvF];rw [if_neg hf0,if_neg hk,k1];simp only;rw [if_pos he],by simp only;omega⟩
   have hx:=k2 (Classical.byContradiction fun h=>he h)
   have b1:=hbm k3
   rw [e0] at b1
   obtain ⟨g2,⟨y,f2,e2⟩,q1,q2,q3⟩:=zfq (T:=T-(200000+m)) (B:=B) (M:=m) (c:=c) (by omega) hB (by omega) (by omega) hc hE f1.toNat f1 (Nat.le_refl _) (dpT b) b (Nat.le_refl _) (by omega) (hbb.mono b1 (Nat.le_refl _))
   simp only at q2 q3
   by_cases he2:e2≠0
   ·refine ⟨max g1 g2+1,(false,f2,e2),?_,by simp only;omega⟩
    simp only [cvF]
    rw [if_neg hf0,if_neg hk,z1p g1 (max g1 g2) (by omega) _ _ _ k1]
    simp only
    rw [if_neg he,z1p g2 (max g1 g2) (by omega) _ _ _ q1]
    simp only
    rw [if_pos he2]
   have hy:=q2 (Classical.byContradiction fun h=>he2 h)
   have b2:=hbm q3
   have hx2:=hx.mono b2 (Nat.le_refl _)
   have hB2:B<=bdV (T-(200000+m)) m f2:=by omega
   have hl2:=zok (T-(200000+m)) m f2
   have key:∀ (g:Nat) (z:CR),hdF (cvF ds c g) x y f2=some z->z.2.1<=f2->∃ g x,cvF ds c g a b f=some x/\x.2.1<=f:=fun g z hz hz2=>by
    refine ⟨max (max g1 g2) g+1,z,?_,by omega⟩
    simp only [cvF]
    rw [if_neg hf0,if_neg hk,z1p g1 (max (max g1 g2) g) (by omega) _ _ _ k1]
    simp only
    rw [if_neg he,z1p g2 (max (max g1 g2) g) (by omega) _ _ _ q1]
    simp only
    rw [if_neg he2]
    exact zov (fun a b f x hx=>z7n g (max (max g1 g2) g) (by omega) a b f x hx) hz
   have lst:∀ (l k:List Trm) (z:Int),z<=f2->(∀ a∈l,Wd (bdV (T-(200000+m)) m z) m a)->(∀ a∈k,Wd (bdV (T-(200000+m)) m z) m a)->∃ g y,allF (cvF ds c g) l k z=some y/\y.2.1<=z:=by
    intro l
    induction l with
    | nil=>intro k z hz _ _;cases k<;>exact ⟨0,(true,z,0),rfl,Int.le_refl _⟩
    | cons p r ih =>
      intro k z hz hl hk'
      cases k with
      | nil=>exact ⟨0,(true,z,0),rfl,Int.le_refl _⟩
      | cons q s =>
        have hbz:=hbm hz
        obtain ⟨ga,⟨is,z1,e1⟩,w1,w3⟩:=IH z (by omega) (by omega) (T-(200000+m)) m p q (by omega) hc h3 (by omega) (by omega) (hl p (by simp)) (hk' q (by simp))
        simp only at w3
        by_cases hne:e1≠0\/is=false
        ·exact ⟨ga,(false,z1,e1),by simp only [allF];rw [w1];simp only;rw [if_pos hne],w3⟩
        ·have hm1:=hbm w3
         obtain ⟨gb,v,p1,p3⟩:=ih s z1 (by omega) (fun b hb=>(hl b (by simp [hb])).mono hm1 (Nat.le_refl _)) (fun b hb=>(hk' b (by simp [hb])).mono hm1 (Nat.le_refl _))
         refine ⟨max ga gb,v,?_,by omega⟩
         simp only [allF]
         rw [z7n ga (max ga gb) (by omega) _ _ _ _ w1]
         simp only
         rw [if_neg hne]
         exact z9y (fun a b f x hx=>z7n gb (max ga gb) (by omega) a b f x hx) _ _ _ _ p1
   have ovr:∀ {u v:Trm},Wd (bdV (T-(200000+m)) m f2) m u->Wd (bdV (T-(200000+m)) m f2+1) (m+1) v->(∃ g z,cvF ds c g u v f2=some z/\z.2.1<=f2)/\∃ g z,cvF ds c g v u f2=some z/\z.2.1<=f2:=fun {u v} hu hv=>by
    have hbd:bdV (T-(200000+m)) m f2+1<=bdV T (m+1) f2:=by
     unfold bdV
     have hz:max f2 0 * (200000+((m+1:Nat):Int))=max f2 0 * (200000+(m:Int))+max f2 0:=by
      rw [show (200000+((m+1:Nat):Int))=(200000+(m:Int))+1 by push_cast;omega,Int.mul_add _ (200000+(m:Int)) 1,Int.mul_one]
     rw [hz]
     generalize max f2 0 * (200000+(m:Int))=z
     omega
    have h1:=hu.mono (c:=bdV T (m+1) f2) (k:=m+1) (by omega) (by omega)
    have h2:=hv.mono (c:=bdV T (m+1) f2) (k:=m+1) hbd (Nat.le_refl _)
    exact ⟨IH f2 (by omega) (by omega) T (m+1) u v hT (by omega) (by omega) (by omega) (by omega) h1 h2,IH f2 (by omega) (by omega) T (m+1) v u hT (by omega) (by omega) (by omega) (by omega) h2 h1⟩
   have gd:∀ {v:Trm},Wd (bdV (T-(200000+m)) m f2+1) (m+1) v->gdT v=true:=fun {v} hv=>gdT_iff.2 ⟨z1b (by omega) _ hv.w,by have:=hv.d;omega⟩
   have ox:=zyp (by omega) (by omega) hx2
   have oy:=zyp (by omega) (by omega) hy
   by_cases c1:alkT x y=true
   ·exact key 0 (true,f2,0) (by unfold hdF;rw [if_pos c1]) (Int.le_refl _)
   by_cases c2:x.kind=y.kind/\(x.kind=4\/x.kind=5)
   ·obtain ⟨g,z,h1,h2⟩:=lst x.args y.args f2 (Int.le_refl _) (fun a h=>hx2.sub h) (fun a h=>hy.sub h)
    exact key g z (by unfold hdF;rw [if_neg c1,if_pos c2];exact h1) h2
   by_cases c3:x.kind=4
   ·obtain ⟨g,z,h1,h2⟩:=(ovr (Wd.getD (by omega) (by omega) (fun a h=>hx2.sub h) 1) oy).1
    exact key g z (by unfold hdF;rw [if_neg c1,if_neg c2,if_pos c3,if_pos (gd oy)];exact h1) h2
   by_cases c4:y.kind=4
   ·obtain ⟨g,z,h1,h2⟩:=(ovr (Wd.getD (by omega) (by omega) (fun a h=>hy.sub h) 1) ox).2
    exact key g z (by unfold hdF;rw [if_neg c1,if_neg c2,if_neg c3,if_pos c4,if_pos (gd ox)];exact h1) h2
   by_cases c5:offT x y
   ·exact key 0 (false,f2,0) (by unfold hdF;rw [if_neg c1,if_neg c2,if_neg c3,if_neg c4,if_pos c5]) (Int.le_refl _)
   obtain ⟨g,z,h1,h2⟩:=lst (argsT x) (argsT y) f2 (Int.le_refl _) hx2.args.1 hy.args.1
   exact key g z (by unfold hdF;rw [if_neg c1,if_neg c2,if_neg c3,if_neg c4,if_neg c5];exact h1) h2
end
end Go.Ab
set_option linter.unusedVariables false
set_option linter.unusedSimpArgs false
namespace Go.Ab
open Go Go.RowKit
def hereL (k n:Int) (len:Nat):Prop:=argL k=len/\¬ (k=4/\(n<0\/n≥4))/\¬ (k≠4/\n≠0)
instance (k n:Int) (len:Nat):Decidable (hereL k n len):=by unfold hereL;infer_instance
mutual
def wfL:Lvl->Bool
 | ⟨k,n,l⟩=>decide (hereL k n l.length)&&wfLs l
def wfLs:List Lvl->Bool
 | []=>true
 | a::r=>wfL a&&wfLs r
end
theorem zv2 (t:Lvl):wfL t=(decide (hereL t.kind t.n t.args.length)&&wfLs t.args):=by cases t;rfl
theorem zay {t:Lvl} (h:wfL t=true):hereL t.kind t.n t.args.length:=by
 rw [zv2,Bool.and_eq_true] at h;exact of_decide_eq_true h.1
theorem zow:∀ {l:List Lvl},wfLs l=true->∀ a∈l,wfL a=true
 | [],_,a,h=>by cases h
 | b::r,h,a,hm=>by
   simp only [wfLs,Bool.and_eq_true] at h
   rcases List.mem_cons.1 hm with rfl | hm
   ·exact h.1
   ·exact zow h.2 a hm
theorem zv3:∀ {l:List Lvl},(∀ a∈l,wfL a=true)->wfLs l=true
 | [],_=>rfl
 | b::r,h=>by simp only [wfLs,Bool.and_eq_true];exact ⟨h b (by simp),zv3 fun a ha=>h a (by simp [ha])⟩
theorem zv4 {t:Lvl} (h:wfL t=true) {a:Lvl} (ha:a∈t.args):wfL a=true:=by
 rw [zv2,Bool.and_eq_true] at h;exact zow h.2 a ha
theorem ar1 {t:Lvl} (h:wfL t=true) (hk:t.kind=1):∃ a,t.args=[a]:=by
 have h1:=(zay h).1
 have h2:t.args.length=1:=by rw [hk] at h1;simp [argL] at h1;omega
 match t.args,h2 with
 | [a],_=>exact ⟨a,rfl⟩
theorem ar2 {t:Lvl} (h:wfL t=true) (hk:t.kind=2\/t.kind=3):∃ a b,t.args=[a,b]:=by
 have h1:=(zay h).1
 have h2:t.args.length=2:=by rcases hk with hk | hk<;>(rw [hk] at h1;simp [argL] at h1;omega)
 match t.args,h2 with
 | [a,b],_=>exact ⟨a,b,rfl⟩
theorem zyq {by_:List Lvl} (hby:∀ x∈by_,wfL x=true):∀ t:Lvl,wfL t=true->wfL (putF by_ t)=true
 | ⟨k,n,l⟩,h=>by
   rw [zd1]
   split
   ·rename_i hp
    exact hby _ (zaf hp.2.1 hp.2.2).2
   ·rw [zv2,Bool.and_eq_true,decide_eq_true_eq]
    have hh:=zay h
    refine ⟨by simpa [z1o] using hh,zv3 fun a ha=>?_⟩
    simp only [z1o] at ha
    obtain ⟨c,hc,rfl⟩:=List.mem_map.1 ha
    exact zyq hby c (zv4 h hc)
termination_by x=>SizeOf.sizeOf x
decreasing_by exact Lvl.lt (t:=⟨k,n,l⟩) hc
def evK (at_:List Int) (k n:Int) (vs:List Int):Int :=
 if k=1 then vs.getD 0 0+1 else if k=2 then max (vs.getD 0 0) (vs.getD 1 0) else if k=3 then (if vs.getD 1 0=0 then 0 else max (vs.getD 0 0) (vs.getD 1 0))
 else if k=4 then (if 0<=n/\n<at_.length then min (max (at_.getD n.toNat 0) 0) 1099511627776 else 0) else 0
theorem zxv (at_:List Int) (t:Lvl):rEvF at_ t=evK at_ t.kind t.n (rEvs at_ t.args):=by cases t;rfl
structure Flat where
 b:Int
 p0:Int
 p1:Int
 p2:Int
 p3:Int
 deriving DecidableEq
def flat0:Flat:=⟨0,-1,-1,-1,-1⟩
def lsU (b k:Int):Int:=if k≥0 then max b (k+1) else b
theorem zhr {b k:Int} (h:k≥0):max b (k+1)=lsU b k:=by rw [lsU,if_pos h]
theorem zhs {b k:Int} (h:¬ k≥0):b=lsU b k:=by rw [lsU,if_neg h]
def zfy (f:Flat):Int:=lsU (lsU (lsU (lsU f.b f.p0) f.p1) f.p2) f.p3
def zb4 (f o:Flat):Bool:=decide (f.p0<=o.p0/\f.p1<=o.p1/\f.p2<=o.p2/\f.p3<=o.p3/\f.b<=zfy o)
def up (p:Int):Int:=if p≥0 then p+1 else p
def succF (f:Flat):Flat:=⟨f.b+1,up f.p0,up f.p1,up f.p2,up f.p3⟩
def maxF (f g:Flat):Flat:=⟨max f.b g.b,max f.p0 g.p0,max f.p1 g.p1,max f.p2 g.p2,max f.p3 g.p3⟩
def setF (n:Int):Flat:=⟨0,if n=0 then 0 else -1,if n=1 then 0 else -1,if n=2 then 0 else -1,if n=3 then 0 else -1⟩
def bitF (z n:Int):Int:=z / 2 ^ n.toNat % 2
def flK (z k n:Int) (fs:List Flat):Flat :=
 if k=1 then succF (fs.getD 0 flat0) else if k=2 then maxF (fs.getD 0 flat0) (fs.getD 1 flat0) else if k=3 then (if fs.getD 1 flat0=flat0 then flat0 else maxF (fs.getD 0 flat0) (fs.getD 1 flat0))
 else if k=4 then (if 0<=n/\n<4/\bitF z n=0 then setF n else flat0) else flat0
mutual
def flatF (z:Int):Lvl->Flat
 | ⟨k,n,l⟩=>flK z k n (z5n z l)
def z5n (z:Int):List Lvl->List Flat
 | []=>[]
 | a::r=>flatF z a::z5n z r
end
theorem zox (z:Int) (t:Lvl):flatF z t=flK z t.kind t.n (z5n z t.args):=by cases t;rfl
def Flat.ok (f:Flat) (m:Int):Prop:=(0<=f.b/\f.b<=m)/\(-1<=f.p0/\f.p0<=m)/\(-1<=f.p1/\f.p1<=m)/\(-1<=f.p2/\f.p2<=m)/\(-1<=f.p3/\f.p3<=m)
theorem zbq {m:Int} (h:0<=m):flat0.ok m:=by simp only [Flat.ok,flat0];omega
theorem zxw {f:Flat} {m:Int} (h:f.ok m):(succF f).ok (m+1):=by
 simp only [Flat.ok,succF,up] at *
 refine ⟨by omega,?_,?_,?_,?_⟩<;>(split<;>omega)
theorem zv5 {f g:Flat} {m:Int} (h:f.ok m) (k:g.ok m):(maxF f g).ok m:=by simp only [Flat.ok,maxF] at *;omega
theorem zz1c {n m:Int} (h:0<=m):(setF n).ok m:=by
 simp only [Flat.ok,setF]
 refine ⟨by omega,?_,?_,?_,?_⟩<;>(split<;>omega)
theorem Flat.ok_mono {f:Flat} {m m':Int} (h:f.ok m) (hm:m<=m'):f.ok m':=by simp only [Flat.ok] at *;omega
mutual
theorem z4z (z:Int):∀ t:Lvl,(flatF z t).ok (depL t)
 | ⟨k, n,l⟩=>by
   simp only [flatF,depL]
   have h0:=ze5 z l 0
   have h1:=ze5 z l 1
   unfold flK
   split
   ·exact Flat.ok_mono (zxw h0) (by omega)
   ·split
    ·exact Flat.ok_mono (zv5 h0 h1) (by omega)
    ·split
     ·split
      ·exact zbq (by omega)
      ·exact Flat.ok_mono (zv5 h0 h1) (by omega)
     ·split
      ·split
       ·exact zz1c (by omega)
       ·exact zbq (by omega)
      ·exact zbq (by omega)
theorem ze5 (z:Int):∀ (l:List Lvl) (i:Nat),((z5n z l).getD i flat0).ok (depLs l)
 | [],i=>by simp [z5n,depLs];exact zbq (by omega)
 | a::r,0=>by simp only [z5n,depLs,List.getD_cons_zero];exact Flat.ok_mono (z4z z a) (by omega)
 | a::r,i+1=>by simp only [z5n,depLs,List.getD_cons_succ];exact Flat.ok_mono (ze5 z r i) (by omega)
end
theorem zz1d {z n:Int} (hz:0<=z/\z<16):0<=z / 2 ^ n.toNat/\z / 2 ^ n.toNat<9223372036854775808:=by
 have hp:(0:Int)<2 ^ n.toNat:=Int.pow_pos (by decide)
 refine ⟨Int.ediv_nonneg hz.1 (by omega),?_⟩
 have:=Int.ediv_le_self (2 ^ n.toNat) hz.1
 omega
theorem ze6:∀ {l:List Lvl} {a:Lvl},a∈l->depL a<=depLs l
 | b::r,a,h=>by
   simp only [depLs]
   rcases List.mem_cons.1 h with rfl | h
   ·omega
   ·have:=ze6 h;omega
def leqF (a b:Lvl):Bool:=(List.range' 0 16).all fun z=>zb4 (flatF z a) (flatF z b)
def shr (p x:Int):Int:=if p≥0 then p+x else 0
def valF (f:Flat) (x0 x1 x2 x3:Int):Int:=max (max (max (max f.b (shr f.p0 x0)) (shr f.p1 x1)) (shr f.p2 x2)) (shr f.p3 x3)
theorem zht {p q x:Int} (hx:0<=x):shr (max p q) x=max (shr p x) (shr q x):=by unfold shr;split<;>split<;>split<;>omega
theorem zz2y {p x:Int}:shr (up p) x=if p≥0 then shr p x+1 else 0:=by
 unfold shr up
 by_cases h:p≥0
 ·simp only [if_pos h,if_pos (show p+1≥0 by omega)];omega
 ·simp only [if_neg h]
theorem max4 (a b s t:Int):max (max a b) (max s t)=max (max a s) (max b t):=by omega
theorem zv6 {f g:Flat} {x0 x1 x2 x3:Int} (h0:0<=x0) (h1:0<=x1) (h2:0<=x2) (h3:0<=x3):valF (maxF f g) x0 x1 x2 x3=max (valF f x0 x1 x2 x3) (valF g x0 x1 x2 x3):=by
 simp only [valF,maxF,zht h0,zht h1,zht h2,zht h3]
 rw [max4 f.b g.b (shr f.p0 x0) (shr g.p0 x0),max4 _ _ (shr f.p1 x1) (shr g.p1 x1),max4 _ _ (shr f.p2 x2) (shr g.p2 x2),max4 _ _ (shr f.p3 x3) (shr g.p3 x3)]
theorem zbr (p x:Int):shr (up p) x=shr p x+1\/(shr (up p) x=0/\shr p x=0):=by
 rw [zz2y]
 by_cases h:p≥0
 ·left;rw [if_pos h]
 ·right;rw [if_neg h];exact ⟨rfl,by unfold shr;rw [if_neg h]⟩
theorem zbs {c s s':Int} (hc:0<=c) (h:s'=s+1\/(s'=0/\s=0)):max (c+1) s'=max c s+1:=by omega
theorem zxx {f:Flat} {x0 x1 x2 x3:Int} (hb:0<=f.b):valF (succF f) x0 x1 x2 x3=valF f x0 x1 x2 x3+1:=by
 simp only [valF,succF]
 rw [zbs hb (zbr _ _),zbs (by omega) (zbr _ _),zbs (by omega) (zbr _ _),zbs (by omega) (zbr _ _)]
theorem z9z (f:Flat) (x0 x1 x2 x3:Int):f.b<=valF f x0 x1 x2 x3/\shr f.p0 x0<=valF f x0 x1 x2 x3/\shr f.p1 x1<=valF f x0 x1 x2 x3/\shr f.p2 x2<=valF f x0 x1 x2 x3/\shr f.p3 x3<=valF f x0 x1 x2 x3:=by
 unfold valF;omega
theorem ze7 {f:Flat} {x0 x1 x2 x3 m:Int} (hb:f.b<=m) (h0:shr f.p0 x0<=m) (h1:shr f.p1 x1<=m) (h2:shr f.p2 x2<=m) (h3:shr f.p3 x3<=m):valF f x0 x1 x2 x3<=m:=by
 unfold valF;omega
theorem z5e {p x:Int} (h:p≥0):shr p x=p+x:=by unfold shr;rw [if_pos h]
theorem zv7 {p x:Int} (h:¬ p≥0):shr p x=0:=by unfold shr;rw [if_neg h]
theorem zbt (x0 x1 x2 x3:Int):valF flat0 x0 x1 x2 x3=0:=by simp [valF,flat0,shr]
def actF (f:Flat) (x0 x1 x2 x3:Int):Prop:=(f.p0≥0->1<=x0)/\(f.p1≥0->1<=x1)/\(f.p2≥0->1<=x2)/\(f.p3≥0->1<=x3)
theorem zz1e {f:Flat} {m x0 x1 x2 x3:Int} (hok:f.ok m) (ha:actF f x0 x1 x2 x3):valF f x0 x1 x2 x3=0↔f=flat0:=by
 constructor
 ·intro h
  have hg:=z9z f x0 x1 x2 x3
  rw [h] at hg
  obtain ⟨g0,g1,g2,g3,g4⟩:=hg
  obtain ⟨a0,a1,a2,a3⟩:=ha
  have q0:¬ f.p0≥0:=fun hp=>by have:=a0 hp;rw [z5e hp] at g1;omega
  have q1:¬ f.p1≥0:=fun hp=>by have:=a1 hp;rw [z5e hp] at g2;omega
  have q2:¬ f.p2≥0:=fun hp=>by have:=a2 hp;rw [z5e hp] at g3;omega
  have q3:¬ f.p3≥0:=fun hp=>by have:=a3 hp;rw [z5e hp] at g4;omega
  obtain ⟨b,p0,p1,p2,p3⟩:=f
  simp only [Flat.ok] at hok
  simp only at *
  simp only [flat0,Flat.mk.injEq]
  exact ⟨by omega,by omega,by omega,by omega,by omega⟩
 ·rintro rfl;exact zbt ..
def fitZ (z x0 x1 x2 x3:Int):Prop:=(bitF z 0=0->1<=x0)/\(bitF z 1=0->1<=x1)/\(bitF z 2=0->1<=x2)/\(bitF z 3=0->1<=x3) /\
 (bitF z 0≠0->x0=0)/\(bitF z 1≠0->x1=0)/\(bitF z 2≠0->x2=0)/\(bitF z 3≠0->x3=0)
def inX (x0 x1 x2 x3:Int):Prop:=(0<=x0/\x0<=1099511627776)/\(0<=x1/\x1<=1099511627776)/\(0<=x2/\x2<=1099511627776)/\(0<=x3/\x3<=1099511627776)
theorem z6r (z x0 x1 x2 x3:Int) (hf:fitZ z x0 x1 x2 x3) (hx:inX x0 x1 x2 x3) (t:Lvl):wfL t=true->rEvF [x0,x1,x2,x3] t=valF (flatF z t) x0 x1 x2 x3/\actF (flatF z t) x0 x1 x2 x3:=by
 intro hw
 have ih:∀ a∈t.args,rEvF [x0,x1,x2,x3] a=valF (flatF z a) x0 x1 x2 x3/\actF (flatF z a) x0 x1 x2 x3:=fun a ha=>z6r z x0 x1 x2 x3 hf hx a (zv4 hw ha)
 have he:=zxv [x0,x1,x2,x3] t
 have hfl:=zox z t
 obtain ⟨hx0,hx1,hx2,hx3⟩:=hx
 by_cases k1:t.kind=1
 ·obtain ⟨a,ha⟩:=ar1 hw k1
  obtain ⟨i1,i2⟩:=ih a (by simp [ha])
  have hok:=z4z z a
  rw [he,hfl,ha]
  simp only [evK,flK,if_pos k1,rEvs,z5n,List.getD_cons_zero]
  rw [i1,zxx hok.1.1]
  refine ⟨rfl,?_⟩
  simp only [actF,succF,up] at *
  refine ⟨fun h=>?_,fun h=>?_,fun h=>?_,fun h=>?_⟩<;>(split at h<;>first | omega | (exfalso;omega))
 ·by_cases k2:t.kind=2
  ·obtain ⟨a,b,ha⟩:=ar2 hw (.inl k2)
   obtain ⟨i1,i2⟩:=ih a (by simp [ha])
   obtain ⟨j1,j2⟩:=ih b (by simp [ha])
   rw [he,hfl,ha]
   simp only [evK,flK,if_neg k1,if_pos k2,rEvs,z5n,List.getD_cons_zero,List.getD_cons_succ]
   rw [i1,j1,zv6 hx0.1 hx1.1 hx2.1 hx3.1]
   refine ⟨rfl,?_⟩
   simp only [actF,maxF] at *
   omega
  ·by_cases k3:t.kind=3
   ·obtain ⟨a,b,ha⟩:=ar2 hw (.inr k3)
    obtain ⟨i1,i2⟩:=ih a (by simp [ha])
    obtain ⟨j1,j2⟩:=ih b (by simp [ha])
    have hz:=zz1e (z4z z b) j2
    rw [he,hfl,ha]
    simp only [evK,flK,if_neg k1,if_neg k2,if_pos k3,rEvs,z5n,List.getD_cons_zero,List.getD_cons_succ]
    rw [i1,j1]
    by_cases h0:flatF z b=flat0
    ·rw [if_pos (hz.2 h0),if_pos h0]
     exact ⟨(zbt ..).symm,by simp [actF,flat0]⟩
    ·rw [if_neg (fun h=>h0 (hz.1 h)),if_neg h0,zv6 hx0.1 hx1.1 hx2.1 hx3.1]
     refine ⟨rfl,?_⟩
     simp only [actF,maxF] at *
     omega
   ·by_cases k4:t.kind=4
    ·have hn:=(zay hw).2.1
     have hn':0<=t.n/\t.n<4:=by
      by_cases h:t.n<0\/t.n≥4
      . exact absurd ⟨k4,h⟩ hn
      . omega
     rw [he,hfl]
     simp only [evK,flK,if_neg k1,if_neg k2,if_neg k3,if_pos k4]
     simp only [fitZ] at hf
     rcases (by omega:t.n=0\/t.n=1\/t.n=2\/t.n=3) with h | h | h | h <;>
      (rw [h];simp only [List.length_cons,List.length_nil]
       by_cases hb:bitF z t.n=0
       . rw [h] at hb
         simp only [hb,and_true]
         rw [if_pos (by omega),if_pos (by omega)]
         constructor
         ·simp [valF,setF,shr];omega
         ·simp [actF,setF];omega
       . rw [h] at hb
         rw [if_pos (by omega),if_neg (fun q=>hb q.2.2)]
         constructor
         ·rw [zbt];simp;omega
         ·simp [actF,flat0])
    ·rw [he,hfl]
     simp only [evK,flK,if_neg k1,if_neg k2,if_neg k3,if_neg k4]
     exact ⟨(zbt ..).symm,by simp [actF,flat0]⟩
termination_by SizeOf.sizeOf t
decreasing_by exact Lvl.lt ha
def zOf (x0 x1 x2 x3:Int):Int:=(if x0=0 then 1 else 0)+(if x1=0 then 2 else 0)+(if x2=0 then 4 else 0)+(if x3=0 then 8 else 0)
theorem zz1f {x0 x1 x2 x3:Int} (h:inX x0 x1 x2 x3):fitZ (zOf x0 x1 x2 x3) x0 x1 x2 x3/\0<=zOf x0 x1 x2 x3/\zOf x0 x1 x2 x3<16:=by
 obtain ⟨h0,h1,h2,h3⟩:=h
 unfold zOf fitZ bitF
 by_cases e0:x0=0<;>by_cases e1:x1=0<;>by_cases e2:x2=0<;>by_cases e3:x3=0 <;>
  simp only [e0,e1,e2,e3,if_true,if_false]<;>simp<;>omega
theorem zbu {p q x:Int} (h:p<=q) (hx:0<=x):shr p x<=shr q x:=by unfold shr;split<;>split<;>omega
theorem z8d {c p:Int} (hc:0<=c):lsU c p=max c (shr p 1):=by unfold lsU shr;split<;>omega
theorem zkd {f:Flat} (hb:0<=f.b):zfy f=valF f 1 1 1 1:=by
 unfold zfy valF
 have n0:0<=lsU f.b f.p0:=by rw [z8d hb];omega
 have n1:0<=lsU (lsU f.b f.p0) f.p1:=by rw [z8d n0];omega
 have n2:0<=lsU (lsU (lsU f.b f.p0) f.p1) f.p2:=by rw [z8d n1];omega
 rw [z8d n2,z8d n1,z8d n0,z8d hb]
theorem zxy {f:Flat} {x0 x1 x2 x3:Int} (hb:0<=f.b) (ha:actF f x0 x1 x2 x3):zfy f<=valF f x0 x1 x2 x3:=by
 rw [zkd hb]
 have key:∀ p x:Int,(p≥0->1<=x)->shr p 1<=shr p x:=fun p x h=>by
  by_cases hp:p≥0
  ·rw [z5e hp,z5e hp];have:=h hp;omega
  ·rw [zv7 hp,zv7 hp];omega
 have hg:=z9z f x0 x1 x2 x3
 obtain ⟨a0,a1,a2,a3⟩:=ha
 exact ze7 hg.1 (Int.le_trans (key _ _ a0) hg.2.1) (Int.le_trans (key _ _ a1) hg.2.2.1) (Int.le_trans (key _ _ a2) hg.2.2.2.1) (Int.le_trans (key _ _ a3) hg.2.2.2.2)
theorem zv8 {f g:Flat} {x0 x1 x2 x3:Int} (hx:inX x0 x1 x2 x3) (hb:0<=g.b) (ha:actF g x0 x1 x2 x3) (h:zb4 f g=true):valF f x0 x1 x2 x3<=valF g x0 x1 x2 x3:=by
 obtain ⟨h0,h1,h2,h3,h4⟩:=of_decide_eq_true h
 have hg:=z9z g x0 x1 x2 x3
 have hl:=zxy hb ha
 obtain ⟨y0,y1,y2,y3⟩:=hx
 exact ze7 (by omega) (Int.le_trans (zbu h0 y0.1) hg.2.1) (Int.le_trans (zbu h1 y1.1) hg.2.2.1) (Int.le_trans (zbu h2 y2.1) hg.2.2.2.1) (Int.le_trans (zbu h3 y3.1) hg.2.2.2.2)
theorem zv9 {a b:Lvl} (hwa:wfL a=true) (hwb:wfL b=true) (h:leqF a b=true) {x0 x1 x2 x3:Int} (hx:inX x0 x1 x2 x3):rEvF [x0,x1,x2,x3] a<=rEvF [x0,x1,x2,x3] b:=by
 obtain ⟨hf,z0,z1⟩:=zz1f hx
 obtain ⟨i1,i2⟩:=z6r _ x0 x1 x2 x3 hf hx a hwa
 obtain ⟨j1,j2⟩:=z6r _ x0 x1 x2 x3 hf hx b hwb
 rw [i1,j1]
 have hm:=List.all_eq_true.1 h (zOf x0 x1 x2 x3).toNat (by rw [List.mem_range'];exact ⟨(zOf x0 x1 x2 x3).toNat,by omega,by omega⟩)
 rw [show (((zOf x0 x1 x2 x3).toNat:Nat):Int)=zOf x0 x1 x2 x3 by omega] at hm
 exact zv8 hx (z4z _ b).1.1 j2 hm
def isP (x:Int):Prop:=x=0\/x=1\/x=1000
theorem co {q c e:Int} (d:c=0\/c=1) (u:q=0->c=1) (v:q≠0->c=0) (k:e=c\/e=1000 * c):(q=0->1<=e)/\(q≠0->e=0)/\(0<=e/\e<=1099511627776)/\isP e:=by
 refine ⟨fun h=>?_,fun h=>?_,?_⟩
 ·have:=u h;omega
 ·have:=v h;omega
 ·unfold isP;omega
theorem z2h {p x:Int} (hp:p<=900) (hx:x<=1):shr p x<=901:=by unfold shr;split<;>omega
theorem zhu {p P:Int} (h:p<P) (hP:0<=P):shr p 1000<=P+999:=by unfold shr;split<;>omega
theorem zoy (q:Int):∃ c:Int,(c=0\/c=1)/\(q=0->c=1)/\(q≠0->c=0):=by
 by_cases hq:q=0
 ·exact ⟨1,.inr rfl,fun _=>rfl,fun h=>absurd hq h⟩
 ·exact ⟨0,.inl rfl,fun h=>absurd h hq,fun _=>rfl⟩
def Both (f g:Flat) (c0 c1 c2 c3:Int):Prop:=∀ e0 e1 e2 e3:Int,(e0=c0\/e0=1000 * c0)->(e1=c1\/e1=1000 * c1)->(e2=c2\/e2=1000 * c2)->(e3=c3\/e3=1000 * c3) ->
 valF f e0 e1 e2 e3<=valF g e0 e1 e2 e3/\actF f e0 e1 e2 e3
theorem cmp0 {f g:Flat} {c0 c1 c2 c3:Int} (hf:f.ok 900) (hg:g.ok 900) (h:Both f g c0 c1 c2 c3) (d0:c0=0\/c0=1) (d1:c1=0\/c1=1) (d2:c2=0\/c2=1) (d3:c3=0\/c3=1):f.p0<=g.p0:=by
 rcases Int.lt_or_le g.p0 f.p0 with hlt | hle
 ·exfalso
  obtain ⟨q1,q2⟩:=h (1000 * c0) c1 c2 c3 (.inr rfl) (.inl rfl) (.inl rfl) (.inl rfl)
  obtain ⟨b0,b1,b2,b3,b4⟩:=hg
  have hp:f.p0≥0:=by omega
  have hact:c0=1:=by have:=q2.1 hp;omega
  have e:1000 * c0=1000:=by omega
  rw [e] at q1
  have k1:=(z9z f 1000 c1 c2 c3).2.1
  rw [z5e hp] at k1
  have k2:valF g 1000 c1 c2 c3<=f.p0+999:=ze7 (by omega) (zhu hlt hp) (Int.le_trans (z2h b2.2 (by omega)) (by omega)) (Int.le_trans (z2h b3.2 (by omega)) (by omega)) (Int.le_trans (z2h b4.2 (by omega)) (by omega))
  omega
 ·exact hle
theorem cmp1 {f g:Flat} {c0 c1 c2 c3:Int} (hf:f.ok 900) (hg:g.ok 900) (h:Both f g c0 c1 c2 c3) (d0:c0=0\/c0=1) (d1:c1=0\/c1=1) (d2:c2=0\/c2=1) (d3:c3=0\/c3=1):f.p1<=g.p1:=by
 rcases Int.lt_or_le g.p1 f.p1 with hlt | hle
 ·exfalso
  obtain ⟨q1,q2⟩:=h c0 (1000 * c1) c2 c3 (.inl rfl) (.inr rfl) (.inl rfl) (.inl rfl)
  obtain ⟨b0,b1,b2,b3,b4⟩:=hg
  have hp:f.p1≥0:=by omega
  have hact:c1=1:=by have:=q2.2.1 hp;omega
  have e:1000 * c1=1000:=by omega
  rw [e] at q1
  have k1:=(z9z f c0 1000 c2 c3).2.2.1
  rw [z5e hp] at k1
  have k2:valF g c0 1000 c2 c3<=f.p1+999:=ze7 (by omega) (Int.le_trans (z2h b1.2 (by omega)) (by omega)) (zhu hlt hp) (Int.le_trans (z2h b3.2 (by omega)) (by omega)) (Int.le_trans (z2h b4.2 (by omega)) (by omega))
  omega
 ·exact hle
theorem cmp2 {f g:Flat} {c0 c1 c2 c3:Int} (hf:f.ok 900) (hg:g.ok 900) (h:Both f g c0 c1 c2 c3) (d0:c0=0\/c0=1) (d1:c1=0\/c1=1) (d2:c2=0\/c2=1) (d3:c3=0\/c3=1):f.p2<=g.p2:=by
 rcases Int.lt_or_le g.p2 f.p2 with hlt | hle
 ·exfalso
  obtain ⟨q1,q2⟩:=h c0 c1 (1000 * c2) c3 (.inl rfl) (.inl rfl) (.inr rfl) (.inl rfl)
  obtain ⟨b0,b1,b2,b3,b4⟩:=hg
  have hp:f.p2≥0:=by omega
  have hact:c2=1:=by have:=q2.2.2.1 hp;omega
  have e:1000 * c2=1000:=by omega
  rw [e] at q1
  have k1:=(z9z f c0 c1 1000 c3).2.2.2.1
  rw [z5e hp] at k1
  have k2:valF g c0 c1 1000 c3<=f.p2+999:=ze7 (by omega) (Int.le_trans (z2h b1.2 (by omega)) (by omega)) (Int.le_trans (z2h b2.2 (by omega)) (by omega)) (zhu hlt hp) (Int.le_trans (z2h b4.2 (by omega)) (by omega))
  omega
 ·exact hle
theorem cmp3 {f g:Flat} {c0 c1 c2 c3:Int} (hf:f.ok 900) (hg:g.ok 900) (h:Both f g c0 c1 c2 c3) (d0:c0=0\/c0=1) (d1:c1=0\/c1=1) (d2:c2=0\/c2=1) (d3:c3=0\/c3=1):f.p3<=g.p3:=by
 rcases Int.lt_or_le g.p3 f.p3 with hlt | hle
 ·exfalso
  obtain ⟨q1,q2⟩:=h c0 c1 c2 (1000 * c3) (.inl rfl) (.inl rfl) (.inl rfl) (.inr rfl)
  obtain ⟨b0,b1,b2,b3,b4⟩:=hg
  have hp:f.p3≥0:=by omega
  have hact:c3=1:=by have:=q2.2.2.2 hp;omega
  have e:1000 * c3=1000:=by omega
  rw [e] at q1
  have k1:=(z9z f c0 c1 c2 1000).2.2.2.2
  rw [z5e hp] at k1
  have k2:valF g c0 c1 c2 1000<=f.p3+999:=ze7 (by omega) (Int.le_trans (z2h b1.2 (by omega)) (by omega)) (Int.le_trans (z2h b2.2 (by omega)) (by omega)) (Int.le_trans (z2h b3.2 (by omega)) (by omega)) (zhu hlt hp)
  omega
 ·exact hle
theorem cmpB {f g:Flat} {c0 c1 c2 c3:Int} (hf:f.ok 900) (hg:g.ok 900) (h:Both f g c0 c1 c2 c3) (d0:c0=0\/c0=1) (d1:c1=0\/c1=1) (d2:c2=0\/c2=1) (d3:c3=0\/c3=1):f.b<=zfy g:=by
 obtain ⟨q1,q2⟩:=h c0 c1 c2 c3 (.inl rfl) (.inl rfl) (.inl rfl) (.inl rfl)
 rw [zkd hg.1.1]
 have k1:=(z9z f c0 c1 c2 c3).1
 have key:∀ p c:Int,(c=0\/c=1)->shr p c<=shr p 1:=fun p c hc=>by unfold shr;split<;>omega
 have k2:=z9z g 1 1 1 1
 have k3:valF g c0 c1 c2 c3<=valF g 1 1 1 1 :=
  ze7 k2.1 (Int.le_trans (key _ _ d0) k2.2.1) (Int.le_trans (key _ _ d1) k2.2.2.1) (Int.le_trans (key _ _ d2) k2.2.2.2.1) (Int.le_trans (key _ _ d3) k2.2.2.2.2)
 omega
theorem zke {a b:Lvl} (hwa:wfL a=true) (hwb:wfL b=true) (hda:depL a<=900) (hdb:depL b<=900)
  (h:∀ x0 x1 x2 x3:Int,isP x0->isP x1->isP x2->isP x3->rEvF [x0,x1,x2,x3] a<=rEvF [x0,x1,x2,x3] b):leqF a b=true:=by
 refine List.all_eq_true.2 fun zn hz=>?_
 generalize (zn:Int)=z
 have hf:=Flat.ok_mono (m':=900) (z4z z a) (by omega)
 have hg:=Flat.ok_mono (m':=900) (z4z z b) (by omega)
 obtain ⟨c0,d0,u0,v0⟩:=zoy (bitF z 0)
 obtain ⟨c1,d1,u1,v1⟩:=zoy (bitF z 1)
 obtain ⟨c2,d2,u2,v2⟩:=zoy (bitF z 2)
 obtain ⟨c3,d3,u3,v3⟩:=zoy (bitF z 3)
 have hB:Both (flatF z a) (flatF z b) c0 c1 c2 c3:=fun e0 e1 e2 e3 k0 k1 k2 k3=>by
  obtain ⟨s0,t0,r0,p0⟩:=co d0 u0 v0 k0
  obtain ⟨s1,t1,r1,p1⟩:=co d1 u1 v1 k1
  obtain ⟨s2,t2,r2,p2⟩:=co d2 u2 v2 k2
  obtain ⟨s3,t3,r3,p3⟩:=co d3 u3 v3 k3
  have hfit:fitZ z e0 e1 e2 e3:=⟨s0,s1,s2,s3,t0,t1,t2,t3⟩
  have hin:inX e0 e1 e2 e3:=⟨r0,r1,r2,r3⟩
  obtain ⟨i1,i2⟩:=z6r z e0 e1 e2 e3 hfit hin a hwa
  obtain ⟨j1,j2⟩:=z6r z e0 e1 e2 e3 hfit hin b hwb
  have:=h e0 e1 e2 e3 p0 p1 p2 p3
  rw [i1,j1] at this
  exact ⟨this,i2⟩
 exact decide_eq_true ⟨cmp0 hf hg hB d0 d1 d2 d3,cmp1 hf hg hB d0 d1 d2 d3,cmp2 hf hg hB d0 d1 d2 d3,cmp3 hf hg hB d0 d1 d2 d3,cmpB hf hg hB d0 d1 d2 d3⟩
theorem zz1g {a b:Lvl} (hwa:wfL a=true) (hwb:wfL b=true) (hda:depL a<=900) (hdb:depL b<=900) :
  leqF a b=true↔∀ x0 x1 x2 x3:Int,isP x0->isP x1->isP x2->isP x3->rEvF [x0,x1,x2,x3] a<=rEvF [x0,x1,x2,x3] b:=by
 refine ⟨fun h x0 x1 x2 x3 p0 p1 p2 p3=>zv9 hwa hwb h ?_,zke hwa hwb hda hdb⟩
 unfold isP at p0 p1 p2 p3
 exact ⟨by omega,by omega,by omega,by omega⟩
theorem zhv {n:Nat} {l:List Int} {x:Int} (h:l∈plcs n) (hx:isP x):l++[x]∈plcs (n+1):=by
 simp only [plcs,List.mem_flatMap]
 refine ⟨l,h,?_⟩
 rcases hx with rfl | rfl | rfl<;>simp
theorem zmj {x0 x1 x2 x3:Int} (h0:isP x0) (h1:isP x1) (h2:isP x2) (h3:isP x3):[x0,x1,x2,x3]∈plcs 4 :=
 zhv (l:=[x0,x1,x2]) (zhv (l:=[x0,x1]) (zhv (l:=[x0]) (zhv (l:=[]) (by simp [plcs]) h0) h1) h2) h3
theorem zva:∀ (n:Nat) (l:List Int),l∈plcs n->l.length=n/\∀ x∈l,isP x
 | 0,l,h=>by simp [plcs] at h;subst h;simp
 | n+1,l,h=>by
   simp only [plcs,List.mem_flatMap] at h
   obtain ⟨m,h1,h2⟩:=h
   obtain ⟨h3,h4⟩:=zva n m h1
   simp only [List.mem_cons,List.not_mem_nil,or_false] at h2
   rcases h2 with rfl | rfl | rfl<;>(refine ⟨by simp [h3],fun x hx=>?_⟩;rcases List.mem_append.1 hx with hx | hx;exact h4 x hx;simp at hx;subst hx;simp [isP])
theorem zz2z {l:List Int} (h:l∈plcs 4):∃ x0 x1 x2 x3,l=[x0,x1,x2,x3]/\isP x0/\isP x1/\isP x2/\isP x3:=by
 obtain ⟨hl,hp⟩:=zva 4 l h
 match l,hl with
 | [x0,x1,x2,x3],_=>exact ⟨x0,x1,x2,x3,rfl,hp x0 (by simp),hp x1 (by simp),hp x2 (by simp),hp x3 (by simp)⟩
theorem zqz {a b:Lvl} (hwa:wfL a=true) (hwb:wfL b=true) (hda:depL a<=900) (hdb:depL b<=900):leqF a b=rLeqF a b:=by
 have h:=zz1g hwa hwb hda hdb
 cases hb:rLeqF a b with
 | true =>
   unfold rLeqF at hb
   refine h.2 fun x0 x1 x2 x3 p0 p1 p2 p3=>?_
   have:=of_decide_eq_true (List.all_eq_true.1 hb _ (zmj p0 p1 p2 p3))
   omega
 | false =>
   cases hc:leqF a b with
   | false=>rfl
   | true =>
     have h1:=h.1 hc
     have:rLeqF a b=true:=List.all_eq_true.2 fun l hl=>by
      obtain ⟨x0,x1,x2,x3,rfl,p0,p1,p2,p3⟩:=zz2z hl
      have:=h1 x0 x1 x2 x3 p0 p1 p2 p3
      exact decide_eq_true (by omega)
     rw [hb] at this;cases this
end Go.Ab
namespace Go.Ab
open Go Go.RowKit
def medL (l:Lvl):Bool:=decide (prtL l<=100000)&&decide (depL l<=900)
def lG (l:Lvl):Bool:=wfL l&&medL l
structure LG (l:Lvl):Prop where
 w:wfL l=true
 d:depL l<=900
 p:prtL l<=100000
theorem zyr {l:Lvl} (h:lG l=true):LG l:=by
 simp only [lG,medL,Bool.and_eq_true,decide_eq_true_eq] at h;exact ⟨h.1,h.2.2,h.2.1⟩
def pG (k:Int) (s:ByteArray) (ls:List Lvl):Bool:=ls.all lG
def lvT (t:Trm):Bool:=allN pG t
def pL (k:Int) (s:ByteArray) (ls:List Lvl):Bool:=ls.all wfL
def pS (k:Int) (s:ByteArray) (ls:List Lvl):Bool:=ls.all medL
theorem pL_np:NP pL where
 own k h1 h2:=rfl
 put k s ls k' s' b h hb:=by
  simp only [pL,List.all_eq_true] at h hb ⊢
  intro x hx
  rw [z1o] at hx
  obtain ⟨y,hy,rfl⟩:=List.mem_map.1 hx
  exact zyq hb y (h y hy)
theorem pS_no:NO pS:=⟨fun k h1 h2=>rfl⟩
theorem zoz {p q r:Int->ByteArray->List Lvl->Bool} (h:∀ k s ls,p k s ls=true->q k s ls=true->r k s ls=true):∀ t:Trm,allN p t=true->allN q t=true->allN r t=true
 | ⟨k,n,s,ls,l⟩,h1,h2=>zmf (h _ _ _ (z4u h1) (z4u h2)) fun a ha=>zoz h a (z1q h1 ha) (z1q h2 ha)
termination_by t=>SizeOf.sizeOf t
decreasing_by exact Trm.lt (t:=⟨k,n,s,ls,l⟩) ha
theorem zvb:∀ t:Trm,smlT t=true->allN pS t=true
 | ⟨k,n,s,ls,l⟩,h=>by
   rw [zls,Bool.and_eq_true,z9c,List.all_eq_true,List.all_eq_true] at h
   refine zmf ?_ fun a ha=>zvb a (h.2 a ha)
   simp only [pS,List.all_eq_true]
   intro x hx
   have:=h.1 x hx
   simp only [smlL,Bool.and_eq_true,decide_eq_true_eq] at this
   simp only [medL,Bool.and_eq_true,decide_eq_true_eq]
   omega
termination_by t=>SizeOf.sizeOf t
decreasing_by exact Trm.lt (t:=⟨k,n,s,ls,l⟩) ha
theorem zvc {t a:Trm} (h:lvT t=true) (ha:a∈t.args):lvT a=true:=z1q h ha
theorem zvd {t:Trm} (h:lvT t=true):∀ l∈t.levels,lG l=true:=List.all_eq_true.1 (z4u h)
theorem zz30 {ds:List Dcl} {c:Int} {wh:Trm->Int->Option WR} {t:Trm} {f:Int} {u:Trm} {f':Int} (h:onF ds c wh t f=some (u,true,f',0)):smlT u=true:=by
 have md:∀ {x f},mdF c f x=some (u,true,f',0)->smlT u=true:=fun {x f} h=>by
  unfold mdF at h
  split at h
  ·cases h
  ·split at h
   ·split at h
    ·rename_i hf;cases h;simp only [fitsT,Bool.and_eq_true] at hf;exact hf.2
    ·cases h
   ·cases h
 unfold onF at h
 split at h
 ·exact md h
 ·split at h
  ·exact md h
  ·split at h
   ·split at h
    ·cases h
    ·split at h
     ·exact md h
     ·split at h
      ·cases h
      ·split at h
       ·split at h
        ·cases h
        ·split at h
         ·cases h
         ·split at h
          ·exact md h
          ·cases h
       ·cases h
   ·cases h
theorem zys {ds:List Dcl} {c:Int}:∀ (g:Nat) (t:Trm) (f:Int) (u:Trm) (f':Int),allN pS t=true->whF ds c g t f=some (u,f',0)->allN pS u=true
 | 0,_,_,_,_,_,h=>by cases h
 | g + 1,t,f,u,f',ht,h=>by
   simp only [whF] at h
   split at h
   ·cases h
   ·rename_i u1 did f1 e ho
    split at h
    ·rename_i he;cases h;exact absurd rfl he
    ·rename_i he
     have he0:e=0:=Classical.byContradiction fun hn=>he hn
     subst he0
     split at h
     ·rename_i hd
      exact zys g u1 f1 u f' (zvb _ (zz30 (hd▸ho))) h
     ·rename_i hd
      have:did=false:=by cases did;rfl;exact absurd rfl hd
      subst this
      cases h
      rw [zhf ho];exact ht
structure LOK (t:Trm):Prop where
 w:allN pL t=true
 s:allN pS t=true
theorem LOK.lv {t:Trm} (h:LOK t):lvT t=true:=zoz (fun k s ls h1 h2=>by
 simp only [pL,pS,pG,List.all_eq_true] at *
 exact fun x hx=>by simp only [lG,Bool.and_eq_true];exact ⟨h1 x hx,h2 x hx⟩) t h.w h.s
theorem LOK.sub {t a:Trm} (h:LOK t) (ha:a∈t.args):LOK a:=⟨z1q h.w ha,z1q h.s ha⟩
theorem LOK.head {t:Trm} (h:LOK t):LOK (headT t):=⟨z9w h.w,z9w h.s⟩
theorem LOK.args {t:Trm} (h:LOK t):∀ a∈argsT t,LOK a:=fun a ha=>⟨z6p h.w a ha,z6p h.s a ha⟩
theorem LOK.mkA {a b:Trm} (h:LOK a) (k:LOK b):LOK (Ab.mkA a b):=⟨z7m pL_np.toNO h.w k.w,z7m pS_no h.s k.s⟩
theorem LOK.ovr {t:Trm} (h:LOK t):LOK (ovrT t):=LOK.mkA ⟨z9x h.w 1 0,z9x h.s 1 0⟩ ⟨rfl,rfl⟩
theorem LOK.wh {ds:List Dcl} (hE:EnvA pL ds) {c:Int} {g:Nat} {t:Trm} {f:Int} {u:Trm} {f':Int} (h:LOK t) (hw:whF ds c g t f=some (u,f',0)):LOK u :=
 ⟨zos pL_np hE g t f _ h.w hw,zys g t f u f' h.s hw⟩
def ltB (t:Trm):Bool:=allN pL t&&allN pS t
theorem zz1h {t:Trm} (h:ltB t=true):LOK t:=by
 simp only [ltB,Bool.and_eq_true] at h;exact ⟨h.1,h.2⟩
end Go.Ab
namespace Go.Ab.YtpneaijfkefeaaaGreat
open Go Go.RowKit Go.Ab Go.Proofs
structure NC (p:Int->ByteArray->List Lvl->Bool):Prop where
 np:NO p
 cs:([cZero,cSucc,cAdd,cTwo,cNat,cId,cRec,cNN,cPi,cEq,cAnd,cNot,cP,cS0,cRefl,zz2n,cId0,cAll].all fun t=>allN p t)=true
structure NB (p:Int->ByteArray->List Lvl->Bool):Prop extends NC p where
 ss:(anyS.all fun s=>allN p (trmOf s))=true
 sp:((spoN []).all fun s=>p 2 s [])=true
 lv:∀ (l:List Int) (a:Int),0<=a->l.length<=800->p 1 ⟨#[]⟩ [(lvF l (l.length+1) 2 a).1]=true
theorem zz31 {l:List Int} {a n:Int} (h0:0<=a):0<=nxA l a n:=by unfold nxA;split<;>omega
section
variable {p : Int → ByteArray → List Lvl → Bool} (h : NC p)
include h
theorem zz32 {a b c:Trm} (ha:allN p a=true) (hb:allN p b=true) (hc:allN p c=true):allN p ⟨6,0,⟨#[]⟩,[],[a,b,c]⟩=true:=by
 simp [allN,allNs,ha,hb,hc,h.np.own 6]
theorem zz33 (n:Int):allN p (mkV n)=true:=by simp [mkV,allN,allNs,h.np.own 0]
set_option maxHeartbeats 8000000 in
theorem z5a (l:List Int):∀ (g:Nat) (v a:Int),allN p (natF l g v a).1=true/\allN p (funF l g v a).1=true
 | 0,v,a=>by
   have hc:=h.cs
   simp only [List.all_cons,Bool.and_eq_true] at hc
   exact ⟨hc.1,hc.1⟩
 | g+1,v,a=>by
   have ih:=z5a l g
   have hc:=h.cs
   simp only [List.all_cons,List.all_nil,Bool.and_eq_true] at hc
   obtain ⟨z1,z2,z3,z4,z5,z6,z7,z8,z9,_⟩:=hc
   have n4:(4:Int)≠1/\(4:Int)≠2:=by decide
   simp only [natF,funF]
   generalize cZero=c1 at *;generalize cSucc=c2 at *;generalize cAdd=c3 at *;generalize cTwo=c4 at *;generalize cNat=c5 at *;generalize cId=c6 at *;generalize cRec=c7 at *;generalize cNN=c8 at *;generalize cPi=c9 at *
   refine ⟨?_,?_⟩
   all_goals repeat' split
   all_goals simp only [appT]
   all_goals repeat' (first | refine z7m h.np ?_ ?_ | refine zop h.np n4.1 n4.2 ?_ ?_ | refine zz32 h ?_ ?_ ?_ | exact (ih _ _).1 | exact (ih _ _).2 | exact zz33 h _ | assumption)
end
section
variable {p : Int → ByteArray → List Lvl → Bool} (h : NB p)
include h
end
theorem zyt (l:List Int):∀ (g:Nat) (q a:Int),q<=4->wfL (lvF l g q a).1=true
 | 0,q,a,_=>rfl
 | g + 1,q,a,hq=>by
   have ih:=fun a=>zyt l g q a hq
   simp only [lvF]
   repeat' split
   ·simp [wfL,wfLs,hereL,argL,ih]
   ·simp [wfL,wfLs,hereL,argL,ih]
   ·simp [wfL,wfLs,hereL,argL,ih]
   ·rename_i hp
    have hv:=nx_lt (l:=l) (a:=nxA l a 6) (n:=q) (by omega)
    simp [wfL,wfLs,hereL,argL];omega
   ·rfl
theorem zyu (l:List Int):∀ (g:Nat) (q a:Int),depL (lvF l g q a).1<=g+1
 | 0,q,a=>by simp [lvF,zL,depL,depLs]
 | g+1,q,a=>by
   have ih:=zyu l g q
   simp only [lvF]
   repeat' split
   all_goals simp only [depL,depLs,zL]
   ·have:=ih (nxA l a 6);omega
   ·have:=ih (nxA l a 6);have:=ih (lvF l g q (nxA l a 6)).2;omega
   ·have:=ih (nxA l a 6);have:=ih (lvF l g q (nxA l a 6)).2;omega
   ·omega
   ·omega
theorem zve (l:List Int):∀ (g:Nat) (q a:Int),0<=a->a<=(lvF l g q a).2/\(prtL (lvF l g q a).1:Int)+2 * max (l.length-(lvF l g q a).2) 0<=2 * max (l.length-a) 0+1
 | 0,q,a,h0=>by simp [lvF,zL,prtL,prtLs];omega
 | g + 1,q,a,h0=>by
   have ih:=zve l g q
   have hn:0<=nxA l a 6:=zz31 h0
   have hs:a<=nxA l a 6/\(nxt l a 6≠0->nxA l a 6=a+1/\a<l.length):=by
    unfold nxA nxt
    by_cases h:a≥l.length\/(6:Int)<1
    ·rw [if_pos h,if_pos h];exact ⟨Int.le_refl _,fun h=>absurd rfl h⟩
    ·rw [if_neg h,if_neg h];exact ⟨by omega,fun _=>⟨rfl,by omega⟩⟩
   have i1:=ih (nxA l a 6) hn
   have i2:=ih (lvF l g q (nxA l a 6)).2 (by omega)
   simp only [lvF]
   repeat' split
   all_goals simp only [prtL,prtLs,zL]
   ·have:=hs.2 (by omega);omega
   ·have:=hs.2 (by omega);omega
   ·have:=hs.2 (by omega);omega
   ·have:=hs.2 (by omega)
    have:nxA l a 6<=nxA l (nxA l a 6) q:=by
     generalize nxA l a 6=b
     unfold nxA;split<;>omega
    omega
   ·omega
theorem pL_nb:NB pL:=⟨⟨pL_np.toNO,by kernel_rfl⟩,by kernel_rfl,by kernel_rfl,fun l a _ _=>by simp [pL,zyt l _ 2 a (by omega)]⟩
theorem pS_nb:NB pS:=⟨⟨pS_no,by kernel_rfl⟩,by kernel_rfl,by kernel_rfl,fun l a h0 hl=>by
 have h1:=zyu l (l.length+1) 2 a
 have h2:=(zve l (l.length+1) 2 a h0).2
 have h3:depL (lvF l (l.length+1) 2 a).1<=900:=by omega
 simp [pS,medL];omega⟩
theorem zvf (l:List Int) (g:Nat) (v a:Int):LOK (natF l g v a).1:=⟨(z5a pL_nb.toNC l g v a).1,(z5a pS_nb.toNC l g v a).1⟩
theorem zhw:EnvA pL preL:=by
 have h:(preL.all fun d=>allN pL d.value&&d.ctors.all fun k=>allN pL k.ty)=true:=by kernel_rfl
 simp only [List.all_eq_true,Bool.and_eq_true] at h
 exact ⟨fun d hd=>(h d hd).1,fun d hd k hk=>(h d hd).2 k hk⟩
def pZ (k:Int) (s:ByteArray) (ls:List Lvl):Bool:=!(decide (s=cZero.name) || decide (s=cSucc.name)) || ls.isEmpty
theorem pZ_np:NP pZ where
 own k h1 h2:=by simp [pZ]
 put k s ls k' s' b h hb:=by
  cases ls with
  | nil=>simp [pZ,putFs]
  | cons a r=>simp only [pZ,List.isEmpty_cons,Bool.or_false] at h;simp only [pZ,h,Bool.true_or]
theorem pZ_nc:NC pZ:=⟨pZ_np.toNO,by kernel_rfl⟩
theorem zvg:EnvA pZ preL:=by
 have h:(preL.all fun d=>allN pZ d.value&&d.ctors.all fun k=>allN pZ k.ty)=true:=by kernel_rfl
 simp only [List.all_eq_true,Bool.and_eq_true] at h
 exact ⟨fun d hd=>(h d hd).1,fun d hd k hk=>(h d hd).2 k hk⟩
theorem zz1i:eqT cZero ⟨2,0,cZero.name,[],[]⟩=true:=by kernel_rfl
theorem zz1j:eqT cSucc ⟨2,0,cSucc.name,[],[]⟩=true:=by kernel_rfl
theorem zvh {w:Trm} (hg:Gd w) (hz:allN pZ w=true) {s:ByteArray} (hn:(headT w).name=s) (hs:s=cZero.name\/s=cSucc.name):headT w=⟨2,0,s,[],[]⟩:=by
 have hk:(headT w).kind=2:=zz16 hg hn (by rcases hs with h | h<;>subst h<;>decide +kernel)
 have W:=zf hg.head.w
 have h0:=z4u (z9w hz)
 have h1:=W.args
 have h2:=W.var (by omega)
 generalize headT w=t at *
 obtain ⟨k,n,s',ls,l⟩:=t
 simp only at hk hn h0 h1 h2
 subst hk hn h2
 have hl:l=[]:=List.eq_nil_of_length_eq_zero (by simp [argF] at h1;omega)
 have hls:ls=[]:=by
  unfold pZ at h0
  rcases hs with h | h
  ·rw [h] at h0;simpa using h0
  ·rw [h] at h0;simpa using h0
 subst hl hls
 rfl
def fl (f:Flat):AV:=.ag [.p (I f.b),.p (I f.p0),.p (I f.p1),.p (I f.p2),.p (I f.p3)]
def mix (k:Nat) (a b:List Int):List AV:=(a.take k++b.drop k).map fun z=>.p (I z)
theorem k5 {k:Nat} (h:k<=4):k=0\/k=1\/k=2\/k=3\/k=4:=by omega
theorem zvi (k:Int):PCon Tryz.prog 220 [.p (I k)] (.p (I (argL k))):=by
 refine cv [] [] [] Tryz.func220 12 Tryz.ntmps220 rfl rfl fun cx hE=>?_
 repeat' (first | refine brS (fun _=>?_) (fun _=>?_) | refine fun _=>?_)
 all_goals exact ⟨I_eq (by unfold argL;repeat' (first | omega | split)),rfl⟩
set_option maxHeartbeats 4000000 in
theorem ze8:PCon Tryz.prog 219 [] (fl flat0):=by
 refine cv [] [] [] Tryz.func219 12 Tryz.ntmps219 rfl rfl fun cx hE=>?_
 refine loop1 (fun (k:Nat)=>[(4,.p (I k))]) (fun k=>[(1,.ce 213 (.p (I 0)::mix k [-1,-1,-1,-1] [0,0,0,0]))]) (fun k=>k<=4) (fun k=>4-k) 0 [4] [1] hE rfl rfl rfl ⟨Sub.refl _,rfl,rfl,trivial⟩ (by omega) fun k hk=>?_
 rcases k5 hk with rfl | rfl | rfl | rfl | rfl
 ·exact brS (fun _=>And.intro (by omega) (And.intro (by omega) ⟨1,by omega,by omega,Sub.i (by simp),rfl,rfl,trivial⟩)) (fun h=>absurd h (by decide))
 ·exact brS (fun _=>And.intro (by omega) (And.intro (by omega) ⟨2,by omega,by omega,Sub.i (by simp),rfl,rfl,trivial⟩)) (fun h=>absurd h (by decide))
 ·exact brS (fun _=>And.intro (by omega) (And.intro (by omega) ⟨3,by omega,by omega,Sub.i (by simp),rfl,rfl,trivial⟩)) (fun h=>absurd h (by decide))
 ·exact brS (fun _=>And.intro (by omega) (And.intro (by omega) ⟨4,by omega,by omega,Sub.i (by simp),rfl,rfl,trivial⟩)) (fun h=>absurd h (by decide))
 ·exact brS (fun h=>absurd h (by decide)) (fun _=>⟨rfl,rfl⟩)
theorem zxz (f:Flat):PCon Tryz.prog 221 [fl f] (.p (B (decide (f=flat0)))):=by
 refine cv [] [] [] Tryz.func221 6 Tryz.ntmps221 rfl rfl fun cx hE=>call0 ze8 ⟨B_eq ?_,rfl⟩
 cases f;simp [flat0]
def lstK (f:Flat) (k:Nat):Int:=([f.p0,f.p1,f.p2,f.p3].take k).foldl lsU f.b
set_option maxHeartbeats 4000000 in
theorem zvj (f:Flat) (hf:f.ok 1000000):PCon Tryz.prog 222 [fl f] (.p (I (zfy f))):=by
 obtain ⟨_,h0,h1,h2,h3⟩:=hf
 refine cv [] [] [] Tryz.func222 21 Tryz.ntmps222 rfl rfl fun cx hE=>?_
 refine loop1 (fun (k:Nat)=>[(10,.p (I k)),(3,.p (I (lstK f k)))]) (fun k=>[]) (fun k=>k<=4) (fun k=>4-k) 0 [10,3] [] hE rfl rfl rfl ⟨Sub.refl _,Sub.refl _,rfl,trivial⟩ (by omega) fun k hk=>?_
 rcases k5 hk with rfl | rfl | rfl | rfl | rfl
 ·exact brS (fun _=>And.intro (by omega) (brS (fun h=>And.intro (by omega) (And.intro (by omega) ⟨1,by omega,by omega,Sub.i (by simp),Sub.i (zhr h),rfl,trivial⟩)) (fun h=>And.intro (by omega) ⟨1,by omega,by omega,Sub.i (by simp),Sub.i (zhs h),rfl,trivial⟩))) (fun h=>absurd h (by decide))
 ·exact brS (fun _=>And.intro (by omega) (brS (fun h=>And.intro (by omega) (And.intro (by omega) ⟨2,by omega,by omega,Sub.i (by simp),Sub.i (zhr h),rfl,trivial⟩)) (fun h=>And.intro (by omega) ⟨2,by omega,by omega,Sub.i (by simp),Sub.i (zhs h),rfl,trivial⟩))) (fun h=>absurd h (by decide))
 ·exact brS (fun _=>And.intro (by omega) (brS (fun h=>And.intro (by omega) (And.intro (by omega) ⟨3,by omega,by omega,Sub.i (by simp),Sub.i (zhr h),rfl,trivial⟩)) (fun h=>And.intro (by omega) ⟨3,by omega,by omega,Sub.i (by simp),Sub.i (zhs h),rfl,trivial⟩))) (fun h=>absurd h (by decide))
 ·exact brS (fun _=>And.intro (by omega) (brS (fun h=>And.intro (by omega) (And.intro (by omega) ⟨4,by omega,by omega,Sub.i (by simp),Sub.i (zhr h),rfl,trivial⟩)) (fun h=>And.intro (by omega) ⟨4,by omega,by omega,Sub.i (by simp),Sub.i (zhs h),rfl,trivial⟩))) (fun h=>absurd h (by decide))
 ·exact brS (fun h=>absurd h (by decide)) (fun _=>⟨rfl,rfl⟩)
set_option maxHeartbeats 4000000 in
theorem zvk (f o:Flat) (ho:o.ok 1000000):PCon Tryz.prog 190 [fl f,fl o] (.p (B (zb4 f o))):=by
 refine cv [] [] [] Tryz.func190 25 Tryz.ntmps190 rfl rfl fun cx hE=>?_
 refine loop1 (fun (k:Nat)=>[(9,.p (I k))]) (fun k=>[]) (fun k=>k<=4/\(0<k->f.p0<=o.p0)/\(1<k->f.p1<=o.p1)/\(2<k->f.p2<=o.p2)/\(3<k->f.p3<=o.p3)) (fun k=>4-k) 0 [9] [] hE rfl rfl rfl ⟨Sub.refl _,rfl,rfl,trivial⟩ (by omega) fun k ⟨hk,g0,g1,g2,g3⟩=>?_
 have no:¬ (f.p0<=o.p0/\f.p1<=o.p1/\f.p2<=o.p2/\f.p3<=o.p3)->false=zb4 f o:=fun h=>(decide_eq_false fun hb=>h ⟨hb.1,hb.2.1,hb.2.2.1,hb.2.2.2.1⟩).symm
 rcases k5 hk with rfl | rfl | rfl | rfl | rfl
 ·exact brS (fun _=>And.intro (by omega) (And.intro (by omega) (brS (fun h=>⟨B_eq (no (by omega)),rfl⟩) (fun h=>And.intro (by omega) ⟨1,by omega,by omega,Sub.i (by simp),rfl,rfl,trivial⟩)))) (fun h=>absurd h (by decide))
 ·exact brS (fun _=>And.intro (by omega) (And.intro (by omega) (brS (fun h=>⟨B_eq (no (by omega)),rfl⟩) (fun h=>And.intro (by omega) ⟨2,by omega,by omega,Sub.i (by simp),rfl,rfl,trivial⟩)))) (fun h=>absurd h (by decide))
 ·exact brS (fun _=>And.intro (by omega) (And.intro (by omega) (brS (fun h=>⟨B_eq (no (by omega)),rfl⟩) (fun h=>And.intro (by omega) ⟨3,by omega,by omega,Sub.i (by simp),rfl,rfl,trivial⟩)))) (fun h=>absurd h (by decide))
 ·exact brS (fun _=>And.intro (by omega) (And.intro (by omega) (brS (fun h=>⟨B_eq (no (by omega)),rfl⟩) (fun h=>And.intro (by omega) ⟨4,by omega,by omega,Sub.i (by simp),rfl,rfl,trivial⟩)))) (fun h=>absurd h (by decide))
 ·refine brS (fun h=>absurd h (by decide)) (fun _=>call0 (zvj o ho) ⟨B_eq ?_,rfl⟩)
  unfold zb4;congr 1;apply propext;omega
theorem ce_of {T:Nat} {a b:List AV} (h:a=b):Ob.ce T a=Ob.ce T b:=by rw [h]
theorem zp0 {p:Int} (h:p≥0):p+1=up p:=by unfold up;rw [if_pos h]
theorem zp1 {p:Int} (h:¬ p≥0):p=up p:=by unfold up;rw [if_neg h]
set_option maxHeartbeats 16000000 in
theorem ze9 (z:Int) (hz:0<=z/\z<16) (t:Lvl):wfL t=true->depL t<=1000->PCon Tryz.prog 189 [lv t,.p (I z)] (fl (flatF z t)):=by
 intro hw hdp
 have ih:∀ a∈t.args,PCon Tryz.prog 189 [lv a,.p (I z)] (fl (flatF z a)):=fun a ha=>ze9 z hz a (zv4 hw ha) (by have:=ze6 ha;have:=zh2 t;omega)
 have hfo:∀ a∈t.args,(flatF z a).ok 1000:=fun a ha=>Flat.ok_mono (z4z z a) (by have:=ze6 ha;have:=zh2 t;omega)
 have he:=zox z t
 have hh:=(zay hw).1
 have hnn:=(zay hw).2.1
 have hlen:=zq t.args
 refine cv [] [] [] Tryz.func189 118 Tryz.ntmps189 rfl rfl fun cx hE=>call0 ze8 (call0 (zvi t.kind) (brS (fun h=>by omega) (fun _=>brS (fun k1=>?_) (fun k1=>?_))))
 ·obtain ⟨a,ha⟩:=ar1 hw k1
  have r0:(encLs t.args)[0]?=some (rowL a):=by rw [ha];simp [z1i]
  have hm:a∈t.args:=by rw [ha];simp
  have hf:=hfo a hm
  have e:flatF z t=succF (flatF z a):=by rw [he,ha];simp [flK,z5n,k1]
  have hc:=ih a hm
  rw [e]
  generalize flatF z a=f at *
  obtain ⟨hb,h0,h1,h2,h3⟩:=hf
  refine idxN (i:=0) r0 (call0 hc (And.intro (by omega) ?_))
  refine loop1 (fun (k:Nat)=>[(33,.p (I k))]) (fun k=>[(5,.ce 213 (.p (I (f.b+1))::mix k [up f.p0,up f.p1,up f.p2,up f.p3] [f.p0,f.p1,f.p2,f.p3]))]) (fun k=>k<=4) (fun k=>4-k) 0 [33] [5] hE rfl rfl rfl ⟨Sub.refl _,rfl,rfl,rfl,trivial⟩ (by omega) fun k hk=>?_
  rcases k5 hk with rfl | rfl | rfl | rfl | rfl
  ·exact brS (fun _=>And.intro (by omega) (brS (fun h=>And.intro (by omega) (And.intro (by omega) (And.intro (by omega) (And.intro (by omega) ⟨1,by omega,by omega,Sub.i (by simp),ce_of (by rw [<- zp0 h];rfl),rfl,rfl,trivial⟩)))) (fun h=>And.intro (by omega) ⟨1,by omega,by omega,Sub.i (by simp),ce_of (by rw [<- zp1 h];rfl),rfl,rfl,trivial⟩))) (fun h=>absurd h (by decide))
  ·exact brS (fun _=>And.intro (by omega) (brS (fun h=>And.intro (by omega) (And.intro (by omega) (And.intro (by omega) (And.intro (by omega) ⟨2,by omega,by omega,Sub.i (by simp),ce_of (by rw [<- zp0 h];rfl),rfl,rfl,trivial⟩)))) (fun h=>And.intro (by omega) ⟨2,by omega,by omega,Sub.i (by simp),ce_of (by rw [<- zp1 h];rfl),rfl,rfl,trivial⟩))) (fun h=>absurd h (by decide))
  ·exact brS (fun _=>And.intro (by omega) (brS (fun h=>And.intro (by omega) (And.intro (by omega) (And.intro (by omega) (And.intro (by omega) ⟨3,by omega,by omega,Sub.i (by simp),ce_of (by rw [<- zp0 h];rfl),rfl,rfl,trivial⟩)))) (fun h=>And.intro (by omega) ⟨3,by omega,by omega,Sub.i (by simp),ce_of (by rw [<- zp1 h];rfl),rfl,rfl,trivial⟩))) (fun h=>absurd h (by decide))
  ·exact brS (fun _=>And.intro (by omega) (brS (fun h=>And.intro (by omega) (And.intro (by omega) (And.intro (by omega) (And.intro (by omega) ⟨4,by omega,by omega,Sub.i (by simp),ce_of (by rw [<- zp0 h];rfl),rfl,rfl,trivial⟩)))) (fun h=>And.intro (by omega) ⟨4,by omega,by omega,Sub.i (by simp),ce_of (by rw [<- zp1 h];rfl),rfl,rfl,trivial⟩))) (fun h=>absurd h (by decide))
  ·exact brS (fun h=>absurd h (by decide)) (fun _=>⟨rfl,rfl⟩)
 have two:∀ k:Int,t.kind=k->(k=2\/k=3)->∃ a b,t.args=[a,b]/\(encLs t.args)[0]?=some (rowL a)/\(encLs t.args)[1]?=some (rowL b)/\a∈t.args/\b∈t.args:=fun k hk h=>by
  obtain ⟨a,b,ha⟩:=ar2 hw (by omega)
  exact ⟨a,b,ha,by rw [ha];simp [z1i],by rw [ha];simp [z1i],by rw [ha];simp,by rw [ha];simp⟩
 refine brS (fun k2=>?_) (fun k2=>brS (fun k3=>?_) (fun k3=>?_))
 ·obtain ⟨a,b,ha,r0,r1,ma,mb⟩:=two 2 k2 (.inl rfl)
  have e:flatF z t=maxF (flatF z a) (flatF z b):=by rw [he,ha];simp [flK,z5n,k2]
  have ca:=ih a ma;have cb:=ih b mb
  rw [e]
  generalize flatF z a=f at *
  generalize flatF z b=g at *
  refine idxN (i:=0) r0 (call0 ca (idxN (i:=1) r1 (call0 cb (brS (fun h=>absurd h (by omega)) (fun _=>?_)))))
  refine loop1 (fun (k:Nat)=>[(78,.p (I k))]) (fun k=>[(5,.ce 213 (.p (I (max f.b g.b))::mix k [max f.p0 g.p0,max f.p1 g.p1,max f.p2 g.p2,max f.p3 g.p3] [-1,-1,-1,-1]))]) (fun k=>k<=4) (fun k=>4-k) 0 [78] [5] hE rfl rfl rfl ⟨Sub.refl _,rfl,rfl,rfl,rfl,rfl,trivial⟩ (by omega) fun k hk=>?_
  rcases k5 hk with rfl | rfl | rfl | rfl | rfl
  ·exact brS (fun _=>And.intro (by omega) (And.intro (by omega) (And.intro (by omega) (And.intro (by omega) ⟨1,by omega,by omega,Sub.i (by simp),rfl,rfl,rfl,rfl,rfl,trivial⟩)))) (fun h=>absurd h (by decide))
  ·exact brS (fun _=>And.intro (by omega) (And.intro (by omega) (And.intro (by omega) (And.intro (by omega) ⟨2,by omega,by omega,Sub.i (by simp),rfl,rfl,rfl,rfl,rfl,trivial⟩)))) (fun h=>absurd h (by decide))
  ·exact brS (fun _=>And.intro (by omega) (And.intro (by omega) (And.intro (by omega) (And.intro (by omega) ⟨3,by omega,by omega,Sub.i (by simp),rfl,rfl,rfl,rfl,rfl,trivial⟩)))) (fun h=>absurd h (by decide))
  ·exact brS (fun _=>And.intro (by omega) (And.intro (by omega) (And.intro (by omega) (And.intro (by omega) ⟨4,by omega,by omega,Sub.i (by simp),rfl,rfl,rfl,rfl,rfl,trivial⟩)))) (fun h=>absurd h (by decide))
  ·exact brS (fun h=>absurd h (by decide)) (fun _=>⟨rfl,rfl⟩)
 ·obtain ⟨a,b,ha,r0,r1,ma,mb⟩:=two 3 k3 (.inr rfl)
  have e:flatF z t=if flatF z b=flat0 then flat0 else maxF (flatF z a) (flatF z b):=by rw [he,ha];simp [flK,z5n,k3]
  have ca:=ih a ma;have cb:=ih b mb
  rw [e]
  generalize flatF z a=f at *
  generalize flatF z b=g at *
  refine idxN (i:=0) r0 (call0 ca (idxN (i:=1) r1 (call0 cb (brS (fun _=>call0 (zxz g) (brS (fun h0=>?_) (fun h0=>?_))) (fun h=>absurd k3 h)))))
  ·rw [if_pos h0];exact ⟨rfl,rfl⟩
  rw [if_neg h0]
  refine loop1 (fun (k:Nat)=>[(78,.p (I k))]) (fun k=>[(5,.ce 213 (.p (I (max f.b g.b))::mix k [max f.p0 g.p0,max f.p1 g.p1,max f.p2 g.p2,max f.p3 g.p3] [-1,-1,-1,-1]))]) (fun k=>k<=4) (fun k=>4-k) 0 [78] [5] hE rfl rfl rfl ⟨Sub.refl _,rfl,rfl,rfl,rfl,rfl,trivial⟩ (by omega) fun k hk=>?_
  rcases k5 hk with rfl | rfl | rfl | rfl | rfl
  ·exact brS (fun _=>And.intro (by omega) (And.intro (by omega) (And.intro (by omega) (And.intro (by omega) ⟨1,by omega,by omega,Sub.i (by simp),rfl,rfl,rfl,rfl,rfl,trivial⟩)))) (fun h=>absurd h (by decide))
  ·exact brS (fun _=>And.intro (by omega) (And.intro (by omega) (And.intro (by omega) (And.intro (by omega) ⟨2,by omega,by omega,Sub.i (by simp),rfl,rfl,rfl,rfl,rfl,trivial⟩)))) (fun h=>absurd h (by decide))
  ·exact brS (fun _=>And.intro (by omega) (And.intro (by omega) (And.intro (by omega) (And.intro (by omega) ⟨3,by omega,by omega,Sub.i (by simp),rfl,rfl,rfl,rfl,rfl,trivial⟩)))) (fun h=>absurd h (by decide))
  ·exact brS (fun _=>And.intro (by omega) (And.intro (by omega) (And.intro (by omega) (And.intro (by omega) ⟨4,by omega,by omega,Sub.i (by simp),rfl,rfl,rfl,rfl,rfl,trivial⟩)))) (fun h=>absurd h (by decide))
  ·exact brS (fun h=>absurd h (by decide)) (fun _=>⟨rfl,rfl⟩)
 ·refine brS (fun k4=>?_) (fun k4=>?_)
  ·obtain ⟨kd,n,l⟩:=t
   simp only at k4 he hnn
   subst k4
   have e:flatF z ⟨4,n,l⟩=if bitF z n=0 then setF n else flat0:=by
    rw [he];unfold flK
    rw [if_neg (by omega),if_neg (by omega),if_neg (by omega),if_pos rfl]
    by_cases hb:bitF z n=0
    ·rw [if_pos hb,if_pos ⟨by omega,by omega,hb⟩]
    ·rw [if_neg hb,if_neg (fun h=>hb h.2.2)]
   rw [e]
   have hb:=zz1d (z:=z) (n:=n) hz
   by_cases hb0:bitF z n=0
   ·rw [if_pos hb0]
    rcases (by omega:n=0\/n=1\/n=2\/n=3) with rfl | rfl | rfl | rfl
    all_goals exact brY (by simp) (brY (by simp) (And.intro (by simp) (And.intro (by simp) (And.intro hb (brY hb0 (And.intro (by simp) ⟨rfl,rfl⟩))))))
   ·rw [if_neg hb0]
    exact brY (by simp only;omega) (brY (by simp only;omega) (And.intro (by simp only;omega) (And.intro (by simp only;omega) (And.intro hb (brZ hb0 ⟨rfl,rfl⟩)))))
  ·have e:flatF z t=flat0:=by
    rw [he];unfold flK
    rw [if_neg k1,if_neg k2,if_neg k3,if_neg k4]
   rw [e];exact ⟨rfl,rfl⟩
termination_by SizeOf.sizeOf t
decreasing_by exact Lvl.lt ha
theorem zp2 (a b:Lvl) (ha:LG a) (hb:LG b):PCon Tryz.prog 138 [lv a,lv b] (.p (B (rLeqF a b))):=by
 have h1:∀ x,LG x->∀ z:Int,0<=z/\z<16->PCon Tryz.prog 189 [lv x,.p (I z)] (fl (flatF z x)):=fun x hx z hz=>ze9 z hz x hx.w (by have:=hx.d;omega)
 rw [<- zqz ha.w hb.w ha.d hb.d]
 refine cv [] [] [] Tryz.func138 18 Tryz.ntmps138 rfl rfl fun cx hE=>?_
 refine loop1 (fun (k:Nat)=>[(6,.p (I k))]) (fun k=>[]) (fun k=>k<=16/\leqF a b=(List.range' k (16-k)).all fun (z:Nat)=>zb4 (flatF z a) (flatF z b)) (fun k=>16-k) 0 [6] [] hE rfl rfl rfl ⟨Sub.refl _,rfl,rfl,trivial⟩ ⟨by omega,rfl⟩ fun k ⟨hk,hs⟩=>?_
 refine brS (fun h=>?_) (fun h=>?_)
 ·have hfb:=Flat.ok_mono (z4z (k:Int) b) (m':=1000000) (by have:=hb.d;omega)
  have hr:List.range' k (16-k)=k::List.range' (k+1) (16-(k+1)):=by rw [show 16-k=(16-(k+1))+1 by omega,List.range'_succ]
  rw [hr,List.all_cons] at hs
  refine call0 (h1 a ha k (by omega)) (call0 (h1 b hb k (by omega)) (call0 (zvk _ _ hfb) (brB (fun h0=>⟨B_eq ?_,rfl⟩) (fun h0=>And.intro (by omega) ⟨k+1,⟨by omega,?_⟩,by omega,Sub.i (by simp),rfl,rfl,trivial⟩))))
  ·have h0':zb4 (flatF k a) (flatF k b)=false:=by simpa using h0
   rw [hs,h0'];rfl
  ·have h0':zb4 (flatF k a) (flatF k b)=true:=by simpa using h0
   rw [hs,h0'];rfl
 ·have:k=16:=by omega
  subst this
  exact ⟨B_eq (by rw [hs];rfl),rfl⟩
theorem zvl (a b:Lvl) (ha:LG a) (hb:LG b):PCon Tryz.prog 97 [lv a,lv b] (.p (B (rSamF a b))):=by
 refine cv [] [] [] Tryz.func97 13 Tryz.ntmps97 rfl rfl fun cx hE=>call0 (zp2 a b ha hb) (brB (fun h=>call0 (zp2 b a hb ha) ⟨B_eq ?_,rfl⟩) (fun h=>⟨B_eq ?_,rfl⟩))
 ·unfold rSamF;rw [h];rfl
 ·unfold rSamF
  have h':rLeqF a b=false:=by simpa using h
  rw [h'];rfl
theorem zy0 (l m:List Lvl) (hl:∀ a∈l,lG a=true) (hm:∀ a∈m,lG a=true):PCon Tryz.prog 96 [.p (.sl 3 (encLs l)),.p (.sl 3 (encLs m)),.p (.fn (.func 97) [] [])] (.p (B (samLs l m))):=by
 have h1:=zq l
 have h2:=zq m
 refine cv [] [] [] Tryz.func96 32 Tryz.ntmps96 rfl rfl fun cx hE=>fun _=>fun _=>brS (fun hn=>⟨B_eq (zuz (by omega)).symm,rfl⟩) (fun hn=>fun _=>?_)
 have hz:=zkb (l:=l) (m:=m) (by omega)
 refine loopP (l.zip m) (fun p=>[(17,.p (I p.length))]) (fun p=>[]) (fun p=>(p.all fun p=>rSamF p.1 p.2)=true) [17] [] hE rfl rfl rfl ⟨Sub.refl _,trivial⟩ rfl (fun hp=>brOut (by simp;omega) ⟨B_eq ?_,rfl⟩) (fun p x q hq hp=>?_)
 ·rw [hz,hp]
 ·obtain ⟨x,y⟩:=x
  obtain ⟨g1,g2,g3⟩:=zj5 hq
  refine brIn (by simpa using g3) (idxN (row:=rowL x) (by rw [z1i,List.getElem?_map,g1];rfl) (idxN (row:=rowL y) (by rw [z1i,List.getElem?_map,g2];rfl) (call0 (zvl x y (zyr (hl x (List.mem_of_getElem? g1))) (zyr (hm y (List.mem_of_getElem? g2)))) (brB (fun hb=>⟨B_eq ?_,rfl⟩) (fun hb=>And.intro (by omega) ⟨?_,Sub.i (by simp),trivial⟩)))))
  ·have hb':rSamF x y=false:=by simpa using hb
   rw [hz,hq];simp [hb']
  ·have hb':rSamF x y=true:=by simpa using hb
   simp [hp,hb']
theorem zy1 (l m:List Trm) (h:∀ a∈l,∀ b∈m,PCon Tryz.prog 43 [tv a,tv b] (.p (B (alkT a b)))):PCon Tryz.prog 98 [.p (.sl 5 (encTs l)),.p (.sl 5 (encTs m)),.p (.fn (.func 43) [] [])] (.p (B (alkTs l m))):=by
 have h1:=zc l
 have h2:=zc m
 refine cv [] [] [] Tryz.func98 32 Tryz.ntmps98 rfl rfl fun cx hE=>fun _=>fun _=>brS (fun hn=>⟨B_eq (zv0 (by omega)).symm,rfl⟩) (fun hn=>fun _=>?_)
 have hz:=zkc (l:=l) (m:=m) (by omega)
 refine loopP (l.zip m) (fun p=>[(17,.p (I p.length))]) (fun p=>[]) (fun p=>(p.all fun p=>alkT p.1 p.2)=true) [17] [] hE rfl rfl rfl ⟨Sub.refl _,trivial⟩ rfl (fun hp=>brOut (by simp;omega) ⟨B_eq ?_,rfl⟩) (fun p x q hq hp=>?_)
 ·rw [hz,hp]
 ·obtain ⟨x,y⟩:=x
  obtain ⟨g1,g2,g3⟩:=zj5 hq
  refine brIn (by simpa using g3) (idxN (row:=rowT x) (by rw [zb,List.getElem?_map,g1];rfl) (idxN (row:=rowT y) (by rw [zb,List.getElem?_map,g2];rfl) (call0 (h x (List.mem_of_getElem? g1) y (List.mem_of_getElem? g2)) (brB (fun hb=>⟨B_eq ?_,rfl⟩) (fun hb=>And.intro (by omega) ⟨?_,Sub.i (by simp),trivial⟩)))))
  ·have hb':alkT x y=false:=by simpa using hb
   rw [hz,hq];simp [hb']
  ·have hb':alkT x y=true:=by simpa using hb
   simp [hp,hb']
theorem za0 (a:Trm):∀ b:Trm,lvT a=true->lvT b=true->PCon Tryz.prog 43 [tv a,tv b] (.p (B (alkT a b))):=by
 intro b la lb
 have ih:∀ c∈a.args,∀ d∈b.args,PCon Tryz.prog 43 [tv c,tv d] (.p (B (alkT c d))):=fun c hc d hd=>za0 c d (zvc la hc) (zvc lb hd)
 have he:=zmi a b
 refine cv [] [] [] Tryz.func43 38 Tryz.ntmps43 rfl rfl fun cx hE=>brS (fun h1=>brS (fun h2=>brS (fun h3=>call0 (zy0 a.levels b.levels (zvd la) (zvd lb)) (brB (fun h4=>call0 (zy1 a.args b.args ih) ⟨B_eq ?_,rfl⟩) (fun h4=>⟨B_eq ?_,rfl⟩))) (fun h3=>⟨B_eq ?_,rfl⟩)) (fun h2=>⟨B_eq ?_,rfl⟩)) (fun h1=>⟨B_eq ?_,rfl⟩)
 ·rw [he];simp [h1,h2,h3,h4]
 ·rw [he];simp [h4]
 ·rw [he];simp [h3]
 ·rw [he];simp [h2]
 ·rw [he];simp [h1]
termination_by SizeOf.sizeOf a
decreasing_by exact Trm.lt hc
theorem zkf (t:Trm) (hg:Gd t):PCon Tryz.prog 136 [tv t] (tv (ovrT t)):=by
 have hA:=z2o (lftT 1 t 0) [mkV 0] (by simp)
 rw [show encTs [mkV 0]=[rowT (mkV 0)] by simp [zb]] at hA
 have hd:=hg.d
 exact cv [] [] [] Tryz.func136 8 Tryz.ntmps136 rfl rfl fun cx hE=>call0 (z9n 1 0 1099511627776 (by omega) (by omega) (by omega) (by omega) (by omega) t (by omega) hg.w) (call0 (zoa 0) (call0 hA ⟨rfl,rfl⟩))
def crV (x:CR):AV:=.tp [.p (B x.1),.p (I x.2.2)]
section
variable (ds : List Dcl) (pv ov : Nat) (pl : Option (List (ByteArray × Int)))
def MnC (c:Int) (a b:Trm) (f:Int) (x:CR):Prop:=Con Tryz.prog 89 [.ptr 1000 0,tv a,tv b] (runO ds pv ov pl f c) (fun r o=>r=crV x/\o=runO ds pv ov pl x.2.1 c)
set_option maxHeartbeats 8000000 in
theorem zkg (c:Int) (cf:Trm->Trm->Int->Option CR) (hk:∀ a b f x,Gd a->Gd b->cf a b f=some x->CK f x) (ih:∀ a b f x,Gd a->Gd b->LOK a->LOK b->Mt f c->cf a b f=some x->MnC ds pv ov pl c a b f x) (l m:List Trm) (hl:∀ a∈l,Gd a/\LOK a) (hm:∀ a∈m,Gd a/\LOK a) (hlen:l.length=m.length) (h28:l.length<=268435456) (f:Int) (hf:Mt f c) (y:CR) (hy:allF cf l m f=some y) :
  Con Tryz.prog 135 [.ptr 1000 0,.p (.sl 5 (encTs l)),.p (.sl 5 (encTs m))] (runO ds pv ov pl f c) (fun r o=>r=crV y/\o=runO ds pv ov pl y.2.1 c):=by
 have hel:=zc l
 have hem:=zc m
 refine cv [] [] [1000,1004,1005,1006,1007] Tryz.func135 37 Tryz.ntmps135 rfl rfl fun cx hE=>fun _=>?_
 refine loop2 (fun (i:Nat) (k:Int)=>[(13,.p (I i))]) (fun i k=>[(1000,.ce 107 [.ptr 1004 0,.p (I k),.p (I c)])]) (fun i k=>allF cf (l.drop i) (m.drop i) k=some y/\Mt k c/\i<=l.length) (fun i k=>l.length-i) 0 f [13] [1000] hE rfl rfl rfl ⟨Sub.refl _,rfl,rfl,rfl,rfl,rfl,trivial⟩ ⟨hy,hf,by omega⟩ fun i k ⟨i1,i2,i3⟩=>?_
 refine brS (fun hlt=>?_) (fun hlt=>?_)
 ·have hil:i<l.length:=by omega
  have him:i<m.length:=by omega
  have hgl:l[i]?=some (l[i]):=List.getElem?_eq_getElem hil
  have hgm:m[i]?=some (m[i]):=List.getElem?_eq_getElem him
  have ha:=hl _ (List.getElem_mem hil)
  have hb:=hm _ (List.getElem_mem him)
  rw [List.drop_eq_getElem_cons hil,List.drop_eq_getElem_cons him] at i1
  generalize l[i]=a at hgl ha i1
  generalize m[i]=b at hgm hb i1
  have r1:(encTs l)[i]?=some (rowT a):=by rw [zb,List.getElem?_map,hgl];rfl
  have r2:(encTs m)[i]?=some (rowT b):=by rw [zb,List.getElem?_map,hgm];rfl
  simp only [allF] at i1
  cases hc:cf a b k with
  | none=>rw [hc] at i1;cases i1
  | some q =>
    have hcc:=ih a b k q ha.1 hb.1 ha.2 hb.2 i2 hc
    have hkk:=hk a b k q ha.1 hb.1 hc
    rw [hc] at i1
    obtain ⟨is,k1,e⟩:=q
    simp only at i1 hkk
    refine idxN r1 (idxN r2 (callW [1000,1004,1005,1006,1007] 1000 (.ce 107 [.ptr 1004 0,.p (I k1),.p (I c)]) hcc rfl rfl (za _) rfl rfl ?_))
    refine brB (fun hi=>?_) (fun hi=>brS (fun he=>?_) (fun he=>?_))
    ·have hi':is=false:=by simpa using hi
     rw [if_pos (.inr hi')] at i1;cases i1;exact ⟨rfl,rfl⟩
    ·rw [if_pos (.inl he)] at i1;cases i1;exact ⟨rfl,rfl⟩
    ·have hi':is=true:=by simpa using hi
     rw [if_neg (fun h=>h.elim he (fun h=>by rw [hi'] at h;cases h))] at i1
     exact And.intro (by omega) ⟨i+1,k1,⟨i1,i2.fu hkk.1,by omega⟩,by omega,Sub.i (by simp),rfl,rfl,rfl,rfl,rfl,trivial⟩
 ·rw [List.drop_eq_nil_of_le (by omega),List.drop_eq_nil_of_le (by omega)] at i1
  simp only [allF,Option.some.injEq] at i1
  subst i1
  exact ⟨rfl,rfl⟩
set_option maxHeartbeats 16000000 in
theorem zkh (h:EnvG ds pl) (hl:EnvA pL ds) (c:Int):∀ (g:Nat) (a b:Trm) (f:Int) (x:CR),Gd a->Gd b->LOK a->LOK b->Mt f c->cvF ds c g a b f=some x->MnC ds pv ov pl c a b f x
 | 0,_,_,_,_,_,_,_,_,_,hx=>by cases hx
 | g + 1, a, b,f,x,ga,gb,la,lb,hm,hx=>by
   simp only [cvF] at hx
   unfold MnC
   refine cv [] [1000015] [1000,1004,1005,1006,1007] Tryz.func89 141 Tryz.ntmps89 rfl rfl fun cx hE=>callX [1000,1004,1005,1006,1007] (z9o ds pv ov pl f c hm) rfl rfl (za _) fun r o ⟨q1,q2⟩=>?_
   subst q1 q2
   refine brS (fun hs=>?_) (fun hs=>?_)
   ·have hf0:f<=0:=Classical.byContradiction fun hn=>hs (by unfold stE;rw [if_neg hn])
    rw [if_pos hf0] at hx;cases hx
    unfold stE stM;rw [if_pos hf0,if_pos hf0]
    exact ⟨rfl,rfl⟩
   have hf0:¬ f<=0:=fun hn=>hs (by unfold stE;rw [if_pos hn];decide)
   rw [if_neg hf0] at hx
   have e3:stM f=f-1:=by unfold stM;rw [if_neg hf0]
   have hm1:Mt (f-1) c:=⟨by omega,by have:=hm.f1;omega,hm.c0,hm.c1⟩
   rw [e3]
   refine call0 (za0 a b la.lv lb.lv) (brB (fun hk=>?_) (fun hk=>?_))
   ·rw [if_pos hk] at hx;cases hx;exact ⟨rfl,rfl⟩
   rw [if_neg (by rw [hk];decide)] at hx
   cases hw:whF ds c g a (f-1) with
   | none=>rw [hw] at hx;cases hx
   | some y =>
     have hwc:=zk3 ds pv ov pl h c g a (f-1) y ga hm1 hw
     have hkw:=z2a g a (f-1) y.1 y.2.1 y.2.2 ga hw
     have hlw:=fun (e0:y.2.2=0)=>la.wh hl (show whF ds c g a (f-1)=some (y.1,y.2.1,0) by rw [hw,<- e0])
     rw [hw] at hx
     refine callX [1000,1004,1005,1006,1007] hwc rfl rfl (za _) fun r o ⟨q1,q2⟩=>?_
     subst q1 q2
     obtain ⟨w,f1,e⟩:=y
     simp only at hx hkw hlw
     refine brS (fun he=>?_) (fun he=>?_)
     ·simp only at he
      rw [if_pos he] at hx;cases hx;exact ⟨rfl,rfl⟩
     simp only at he
     rw [if_neg he] at hx
     have lw:=hlw (Classical.byContradiction fun h=>he h)
     have hm2:=hm1.fu hkw.2
     cases hv:whF ds c g b f1 with
     | none=>rw [hv] at hx;cases hx
     | some z =>
       have hvc:=zk3 ds pv ov pl h c g b f1 z gb hm2 hv
       have hkv:=z2a g b f1 z.1 z.2.1 z.2.2 gb hv
       have hlv:=fun (e0:z.2.2=0)=>lb.wh hl (show whF ds c g b f1=some (z.1,z.2.1,0) by rw [hv,<- e0])
       rw [hv] at hx
       refine callX [1000,1004,1005,1006,1007] hvc rfl rfl (za _) fun r o ⟨q1,q2⟩=>?_
       subst q1 q2
       obtain ⟨v,f2,e2⟩:=z
       simp only at hx hkv hlv
       refine brS (fun he2=>?_) (fun he2=>?_)
       ·simp only at he2
        rw [if_pos he2] at hx;cases hx;exact ⟨rfl,rfl⟩
       simp only at he2
       rw [if_neg he2] at hx
       have lv':=hlv (Classical.byContradiction fun h=>he2 h)
       have hm3:=hm2.fu hkv.2
       have gw:=hkw.1
       have gv:=hkv.1
       have hkn:∀ a b f x,Gd a->Gd b->cvF ds c g a b f=some x->CK f x:=fun a b f x=>ze4 g a b f x
       have ih:∀ a b f x,Gd a->Gd b->LOK a->LOK b->Mt f c->cvF ds c g a b f=some x->MnC ds pv ov pl c a b f x:=fun a b f x=>zkh h hl c g a b f x
       generalize hcf:cvF ds c g=cf at *
       clear hw hv hwc hvc hlw hlv hkw hkv
       unfold hdF at hx
       refine call0 (za0 w v lw.lv lv'.lv) (brB (fun hk2=>?_) (fun hk2=>?_))
       ·rw [if_pos hk2] at hx;cases hx;exact ⟨rfl,rfl⟩
       rw [if_neg (by rw [hk2];decide)] at hx
       refine join0 [(54,.p (B (decide (w.kind=v.kind/\(w.kind=4\/w.kind=5)))))] [] [54] [] [] hE rfl rfl rfl ?_ ?_
       ·refine brS (fun (x4:w.kind=4)=>brS (fun (y4:v.kind=4)=>⟨Sub.bt (by omega),rfl,rfl,rfl,rfl,rfl,rfl,rfl,rfl,rfl,trivial⟩) (fun (y4:¬ v.kind=4)=>brS (fun (x5:w.kind=5)=>absurd x5 (by omega)) (fun _=>⟨Sub.bf (by omega),rfl,rfl,rfl,rfl,rfl,rfl,rfl,rfl,rfl,trivial⟩))) (fun (x4:¬ w.kind=4)=>brS (fun (x5:w.kind=5)=>⟨Sub.bd (by show v.kind=5↔_;omega),rfl,rfl,rfl,rfl,rfl,rfl,rfl,rfl,rfl,trivial⟩) (fun (x5:¬ w.kind=5)=>⟨Sub.bf (by omega),rfl,rfl,rfl,rfl,rfl,rfl,rfl,rfl,rfl,trivial⟩))
       refine brS (fun hP=>?_) (fun hP=>brS (fun x4=>?_) (fun x4=>brS (fun y4=>?_) (fun y4=>?_)))
       ·rw [if_pos hP] at hx
        have hlen:w.args.length=2/\v.args.length=2:=by
         obtain ⟨p,q,h1⟩:=z4q gw.w (.inr hP.2)
         obtain ⟨p',q',h2⟩:=z4q gv.w (.inr (by omega))
         rw [h1,h2];exact ⟨rfl,rfl⟩
        refine callX [1000,1004,1005,1006,1007] (zkg ds pv ov pl c cf hkn ih w.args v.args (fun a h=>⟨gw.sub h,lw.sub h⟩) (fun a h=>⟨gv.sub h,lv'.sub h⟩) (by omega) (by omega) f2 hm3 x hx) rfl rfl (za _) fun r o ⟨q1,q2⟩=>?_
        subst q1 q2
        exact ⟨rfl,rfl⟩
       ·rw [if_neg hP,if_pos x4] at hx
        split at hx
        ·rename_i hg
         obtain ⟨p,q,hpq⟩:=z4q gw.w (.inr (.inl x4))
         have r1:(encTs w.args)[1]?=some (rowT q):=by rw [hpq];simp [zb]
         have hm':q∈w.args:=by rw [hpq];simp
         rw [show w.args.getD 1 zT=q by rw [hpq];rfl] at hx
         have hc:=ih q (ovrT v) f2 x (gw.sub hm') (gdT_iff.1 hg) (lw.sub hm') lv'.ovr hm3 hx
         exact idxN (i:=1) r1 (call0 (zkf v gv) (callW [1000,1004,1005,1006,1007] 1000 (.ce 107 [.ptr 1004 0,.p (I x.2.1),.p (I c)]) hc rfl rfl (za _) rfl rfl ⟨rfl,rfl⟩))
        ·cases hx
       ·rw [if_neg hP,if_neg x4,if_pos y4] at hx
        split at hx
        ·rename_i hg
         obtain ⟨p,q,hpq⟩:=z4q gv.w (.inr (.inl y4))
         have r1:(encTs v.args)[1]?=some (rowT q):=by rw [hpq];simp [zb]
         have hm':q∈v.args:=by rw [hpq];simp
         rw [show v.args.getD 1 zT=q by rw [hpq];rfl] at hx
         have hc:=ih (ovrT w) q f2 x (gdT_iff.1 hg) (gv.sub hm') lw.ovr (lv'.sub hm') hm3 hx
         exact call0 (zkf w gw) (idxN (i:=1) r1 (callW [1000,1004,1005,1006,1007] 1000 (.ce 107 [.ptr 1004 0,.p (I x.2.1),.p (I c)]) hc rfl rfl (za _) rfl rfl ⟨rfl,rfl⟩))
        ·cases hx
       ·rw [if_neg hP,if_neg x4,if_neg y4] at hx
        have no:offT w v->x=(false,f2,0):=fun ho=>by rw [if_pos ho] at hx;cases hx;rfl
        have aw:=gw.args;have av:=gv.args
        have e1:=zc (argsT w);have e2:=zc (argsT v)
        have dw:=gw.d;have dv:=gv.d
        refine call0 (z3k 1099511627776 w gw.w (by omega)) (call0 (z3k 1099511627776 v gv.w (by omega)) (fun _=>brS (fun h0=>?_) (fun h0=>fun _=>fun _=>brS (fun hl=>?_) (fun hl=>?_))))
        ·obtain rfl:=no (.inl (List.eq_nil_of_length_eq_zero (by omega)));exact ⟨rfl,rfl⟩
        ·obtain rfl:=no (.inr (.inl (by omega)));exact ⟨rfl,rfl⟩
        have fin:alkT (headT w) (headT v)=true->((headT w).kind=0\/(headT w).kind=2)->_:=fun ha hk=>zkg ds pv ov pl c cf hkn ih (argsT w) (argsT v) (fun a h=>⟨aw.1 a h,lw.args a h⟩) (fun a h=>⟨av.1 a h,lv'.args a h⟩) (by omega) aw.2 f2 hm3 x (by
         rw [if_neg (fun ho=>by
          rcases ho with ho | ho | ho | ho
          ·rw [ho] at h0;simp [zb] at h0
          ·omega
          ·omega
          ·rw [ha] at ho;cases ho)] at hx
         exact hx)
        have hA:=za0 (headT w) (headT v) lw.head.lv lv'.head.lv
        refine brS (fun k0=>brS (fun k2=>?_) (fun k2=>call0 hA (brB (fun ha=>?_) (fun ha=>?_)))) (fun k0=>call0 hA (brB (fun ha=>?_) (fun ha=>?_)))
        ·obtain rfl:=no (.inr (.inr (.inl ⟨k0,k2⟩)));exact ⟨rfl,rfl⟩
        ·obtain rfl:=no (.inr (.inr (.inr (by simpa using ha))));exact ⟨rfl,rfl⟩
        ·refine callX [1000,1004,1005,1006,1007] (fin (by simpa using ha) (by omega)) rfl rfl (za _) fun r o ⟨q1,q2⟩=>?_
         subst q1 q2
         exact ⟨rfl,rfl⟩
        ·obtain rfl:=no (.inr (.inr (.inr (by simpa using ha))));exact ⟨rfl,rfl⟩
        ·refine callX [1000,1004,1005,1006,1007] (fin (by simpa using ha) (by omega)) rfl rfl (za _) fun r o ⟨q1,q2⟩=>?_
         subst q1 q2
         exact ⟨rfl,rfl⟩
theorem zvm (a b:Trm) (ha:okW a=true) (hb:okW b=true):PCon Tryz.prog 69 [.p (.sl 5 [rowT a,rowT b])] (.p (B false)):=by
 have:=zxo [a,b] (by simp)
 rw [show encTs [a,b]=[rowT a,rowT b] by simp [zb]] at this
 simpa [ha,hb] using this
def xcV (c:Int) (x:CR):AV:=.tp [.p (B x.1),mv x.2.1 c,.p (I x.2.2)]
theorem za1 (h:EnvG ds pl) (hl:EnvA pL ds) (a b:Trm) (oa:okW a=true) (ob:okW b=true) (ga:Gd a) (gb:Gd b) (la:LOK a) (lb:LOK b) (f c:Int) (hm:Mt f c) (g:Nat) (x:CR) (hx:cvF ds c g a b f=some x) :
  Con Tryz.prog 39 [.ptr 1004 0,tv a,tv b,mv f c] (envQ 1004 [] ds pv pl ov (odO ds)) (fun r o=>r=xcV c x/\o=envQ 1004 [] ds pv pl ov (odO ds)):=by
 have hc:MnC ds pv ov pl c a b f x:=zkh ds pv ov pl h hl c g a b f x ga gb la lb hm hx
 refine cv [] [] [1004,1005,1006,1007] Tryz.func39 34 Tryz.ntmps39 rfl rfl fun cx hE=>call0 (zvm a b oa ob) ?_
 refine brB (fun h=>by cases h) (fun _=>?_)
 refine callX [20,1004,1005,1006,1007] (Con.sw hc 1000 20) rfl rfl (za _) fun r o ⟨r0,o0,⟨e1,e2⟩,e3,e4⟩=>?_
 subst e1 e2 e3 e4
 exact ⟨rfl,rfl⟩
end
def cgE:Trm:=trmOf (⟨#[92,78,97,116,46,32,40,115,117,99,99,32,35,48,41]⟩:ByteArray)
theorem cg_tx:(txtOK (⟨#[92,78,97,116,46,32,40,115,117,99,99,32,35,48,41]⟩:ByteArray)&&(txtOK (⟨#[115,117,99,99]⟩:ByteArray)&&txtOK (⟨#[122,101,114,111]⟩:ByteArray)))=true:=by kernel_rfl
def tmB (t:Trm):Bool:=gdT t&&(okW t&&ltB t)
structure TmB (t:Trm):Prop where
 g:Gd t
 o:okW t=true
 l:LOK t
theorem zmk {t:Trm} (h:tmB t=true):TmB t:=by
 simp only [tmB,Bool.and_eq_true] at h;exact ⟨gdT_iff.1 h.1,h.2.1,zz1h h.2.2⟩
theorem cg_gd:(tmB cgE&&(tmB cSucc&&tmB cZero))=true:=by kernel_rfl
theorem zp3 {o:Option CR} (h:o.isSome=true):o=some (o.getD (false,0,99)):=by cases o;cases h;rfl
def cgX:CR:=(cvF preL 100 60 cgE cSucc 20).getD (false,0,99)
def cgY:CR:=(cvF preL 100 60 cZero cSucc 20).getD (false,0,99)
theorem zz34:cvF preL 100 60 cgE cSucc 20=some cgX:=zp3 (by kernel_rfl)
theorem zz35:cvF preL 100 60 cZero cSucc 20=some cgY:=zp3 (by kernel_rfl)
theorem cg_ok:(cgX.1&&(decide (cgX.2.2=0)&&(!cgY.1&&decide (cgY.2.2=0))))=true:=by kernel_rfl
set_option maxHeartbeats 4000000 in
theorem zfz:PCon Tryz.prog 37 [] (.p (B true)):=by
 have h1:=cg_tx;have h2:=cg_gd;have h3:=cg_ok
 simp only [Bool.and_eq_true,decide_eq_true_eq,Bool.not_eq_true'] at h1 h2 h3
 obtain ⟨k1,k2,k3,k4⟩:=h3
 have hx:=zz34
 have hy:=zz35
 have t1:=zmk h2.1;have t2:=zmk h2.2.1;have t3:=zmk h2.2.2
 generalize cgX=X at *
 generalize cgY=Y at *
 obtain ⟨i1,f1,e1⟩:=X
 obtain ⟨i2,f2,e2⟩:=Y
 simp only at k1 k2 k3 k4
 subst k1 k2 k3 k4
 refine cv [] [] [] Tryz.func37 44 Tryz.ntmps37 rfl rfl fun cx hE=>callX [] zhc rfl rfl .nil fun r o ⟨e1,pv,pl,ov,hE1,e2⟩=>?_
 subst e1 e2
 have hG:=preG hE1
 refine call0 (z1t _ h1.1) (call0 (z1t _ h1.2.1) (callX [1004,1005,1006,1007] (za1 preL pv ov pl hG zhw cgE cSucc t1.o t2.o t1.g t2.g t1.l t2.l 20 100 ⟨by omega,by omega,by omega,by omega⟩ 60 _ hx) rfl rfl (za _) fun r o ⟨e1,e2⟩=>?_))
 subst e1 e2
 refine call0 (z1t _ h1.2.2) (call0 (z1t _ h1.2.1) (callX [1004,1005,1006,1007] (za1 preL pv ov pl hG zhw cZero cSucc t3.o t2.o t3.g t2.g t3.l t2.l 20 100 ⟨by omega,by omega,by omega,by omega⟩ 60 _ hy) rfl rfl (za _) fun r o ⟨e1,e2⟩=>?_))
 subst e1 e2
 exact brY rfl (brY rfl (brT ⟨rfl,rfl⟩))
theorem AnT.cv {t u:Trm} (h:AnT t) (k:AnT u) {f c:Int} (hf:f<=60000) (hc:c<=100000):∃ g x,cvF preL c g t u f=some x:=by
 have hb:(1073741824:Int)<=bdV 1099511627776 100000 f:=by unfold bdV;omega
 obtain ⟨g,x,h1,_⟩:=zz2x (B:=1073741824) (c:=c) (by omega) zfu f.toNat f (Nat.le_refl _) (by omega) 1099511627776 100000 t u (by omega) (by omega) (by omega) (by omega) hb ⟨z1b (by omega) t h.w,by have:=h.d;omega⟩ ⟨z1b (by omega) u k.w,by have:=k.d;omega⟩
 exact ⟨g,x,h1⟩
end Go.Ab.YtpneaijfkefeaaaGreat
