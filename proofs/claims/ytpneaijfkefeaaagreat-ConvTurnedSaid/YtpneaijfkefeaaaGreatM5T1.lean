/- Texts of our own, laid together. -/
import Derived.Test.YtpneaijfkefeaaaGreatM4T1
set_option maxRecDepth 20000
set_option linter.unusedVariables false
set_option linter.unusedSimpArgs false
namespace Go.Ab
open Go Go.RowKit
mutual
def rEvF (at_:List Int):Lvl->Int
 | ⟨k,n,l⟩=>if k=1 then (rEvs at_ l).getD 0 0+1 else if k=2 then max ((rEvs at_ l).getD 0 0) ((rEvs at_ l).getD 1 0)
   else if k=3 then (if (rEvs at_ l).getD 1 0=0 then 0 else max ((rEvs at_ l).getD 0 0) ((rEvs at_ l).getD 1 0))
   else if k=4 then (if 0<=n/\n<at_.length then min (max (at_.getD n.toNat 0) 0) 1099511627776 else 0) else 0
def rEvs (at_:List Int):List Lvl->List Int
 | []=>[]
 | a::r=>rEvF at_ a::rEvs at_ r
end
def plcs:Nat->List (List Int)
 | 0=>[[]]
 | n+1=>(plcs n).flatMap fun p=>[p++[0],p++[1],p++[1000]]
def rNevF (l:Lvl):Bool:=(plcs 4).all fun p=>decide (¬ rEvF p l=0)
def rLeqF (a b:Lvl):Bool:=(plcs 4).all fun p=>decide (¬ rEvF p a>rEvF p b)
def parsF (n:Nat):List Lvl:=(List.range n).map fun (i:Nat)=>(⟨4,(i:Int),[]⟩:Lvl)
def argL (k:Int):Int:=if k=0\/k=4 then 0 else if k=1 then 1 else if k=2\/k=3 then 2 else -1
mutual
def wholL (ps:Int):Lvl->Int->Bool
 | ⟨k,n,l⟩,deep=>if deep>32\/argL k≠l.length then false else if k=4/\(n<0\/n≥ps)\/k≠4/\n≠0 then false else zj4 ps l deep
def zj4 (ps:Int):List Lvl->Int->Bool
 | [],_=>true
 | a::r,deep=>wholL ps a (deep+1)&&zj4 ps r deep
end
def mayLF (l:Lvl) (ps:Int):Bool:=decide (prtL l<=64)&&wholL (min (max ps 0) 4) l 1
mutual
def rWhT:Trm->Int->Option Int
 | ⟨k,n,s,ls,l⟩,left=>if left-1<0\/wholP ⟨k,n,s,ls,l⟩=false then none else rWhTs l (left-1)
def rWhTs:List Trm->Int->Option Int
 | [],left=>some left
 | a::r,left=>match rWhT a left with
   | none=>none
   | some n=>rWhTs r n
end
mutual
def rMay_ (ps:Int):Trm->Int->Int
 | ⟨k,n,s,ls,l⟩,b=>if k=0/\n≥b then 8 else if ls.length>4 then 7 else if (ls.all fun x=>mayLF x ps)=false then 7
   else if k=2/\(s=⟨#[]⟩\/s.size>24) then 9 else rMays ps k l 0 b
def rMays (ps k:Int):List Trm->Int->Int->Int
 | [],_,_=>0
 | a::r,i,b=>if rMay_ ps a (if b<=1073741824 then b+bndF k i else b)≠0 then rMay_ ps a (if b<=1073741824 then b+bndF k i else b) else rMays ps k r (i+1) b
end
def rMayF (t:Trm) (b ps:Int):Int:=if rWhT t 1048576=none then 5 else if sizT t>2000 then 3 else if dpT t>100 then 6 else rMay_ ps t (max b 0)
def insN:List ByteArray->ByteArray->List ByteArray
 | [],s=>[s]
 | x::r,s=>if Op.bytesLess x.toList s.toList=true then x::insN r s else if x=s then x::r else s::x::r
mutual
def nmsT:Trm->List ByteArray->List ByteArray
 | ⟨k,n,s,ls,l⟩,acc=>nmsTs l (if k=2 then insN acc s else acc)
def nmsTs:List Trm->List ByteArray->List ByteArray
 | [],acc=>acc
 | a::r,acc=>nmsTs r (nmsT a acc)
end
def hasN (l:List ByteArray) (s:ByteArray):Bool:=l.any fun x=>decide (x=s)
def nmdT (t:Trm) (s:ByteArray):Bool:=hasN (nmsT t []) s
def cstT (s:ByteArray) (ls:List Lvl):Trm:=⟨2,0,s,ls,[]⟩
def itsA (d:Dcl) (below:Int):List Trm->Int->Bool
 | [],_=>true
 | a::r,k=>if k<d.count/\eqT a (mkV (below-1-k))=false\/k≥d.count/\nmdT a d.name=true then false else itsA d below r (k+1)
def itsF (d:Dcl) (t:Trm) (below i:Int):Bool :=
 if eqT (headT t) (cstT d.name (parsF d.params.toNat))=false\/((argsT t).length:Int)≠d.count+i then false else itsA d below (argsT t) 0
def recS:ByteArray:=⟨#[46,114,101,99]⟩
def famN (d:Dcl):List ByteArray:=d.name::(d.ctors.map (·.name)++[d.name++recS])
def dupN:List ByteArray->List ByteArray->Bool
 | _,[]=>false
 | p,s::r=>if hasN p s=true then true else dupN (p++[s]) r
def mayCs (ps:Int):List Ctr->Int
 | []=>0
 | c::r=>if rMayF c.ty 0 ps≠0 then rMayF c.ty 0 ps else mayCs ps r
def famA (d:Dcl):Int :=
 if d.kind≠3\/d.family≠⟨#[]⟩\/eqT d.value zT=false\/d.params<0\/d.params>3\/d.count<0\/d.count>20\/d.ctors.length>5 then 1
 else if ((famN d).all mayF)=false then 9 else if dupN [] (famN d)=true then 10
 else if rMayF d.type 0 d.params≠0 then rMayF d.type 0 d.params else mayCs d.params d.ctors
structure InfV where
 params:Int
 idx:Int
 level:Lvl
 large:Bool
 fields:List Int
 recs:List (List Bool)
def recL (d:Dcl) (i:Int):List Trm->Int->List Bool->List Bool×Int
 | [],_,acc=>(acc,0)
 | t::r,k,acc=>if nmdT t d.name=false then recL d i r (k+1) (acc++[false])
   else if ((piL t).any fun x=>nmdT x d.name)=true then ([],17)
   else if itsF d (piE t) (k+(piL t).length) i=false then ([],17) else recL d i r (k+1) (acc++[true])
def ctorF (d:Dcl) (params:List Trm) (t:Trm) (i:Int):List Bool×Int :=
 if ((piL t).length:Int)<d.count then ([],16) else if eqTs ((piL t).take d.count.toNat) (params.take d.count.toNat)=false then ([],16)
 else if itsF d (piE t) (piL t).length i=false then ([],16) else recL d i ((piL t).drop d.count.toNat) d.count []
def lookC (d:Dcl) (params:List Trm):List Ctr->InfV->InfV×Int
 | [],x=>(x,0)
 | c::r,x=>if (ctorF d params c.ty x.idx).2≠0 then (⟨0,0,zL,false,[],[]⟩,(ctorF d params c.ty x.idx).2)
   else lookC d params r ⟨x.params,x.idx,x.level,x.large,x.fields++[((ctorF d params c.ty x.idx).1.length:Int)],x.recs++[(ctorF d params c.ty x.idx).1]⟩
def lookF (d:Dcl):InfV×Int :=
 if famA d≠0 then (⟨0,0,zL,false,[],[]⟩,famA d)
 else if ((piL d.type).length:Int)<d.count\/(piE d.type).kind≠1\/nmdT d.type d.name=true then (⟨0,0,zL,false,[],[]⟩,16)
 else lookC d ((piL d.type).take d.count.toNat) d.ctors ⟨d.count,(piL d.type).length-d.count,(piE d.type).levels.getD 0 zL,rNevF ((piE d.type).levels.getD 0 zL),[],[]⟩
def trmOf (s:ByteArray):Trm:=match zf9 s with
 | some (t,_,_)=>t
 | none=>zT
def rAddF (ds l:List Dcl):List Dcl:=if (l.all fun d=>mayF d.name)=true/\(zz (ds++l)).Nodup then ds++l else ds
end Go.Ab
set_option linter.unusedVariables false
set_option linter.unusedSectionVars false
set_option linter.unusedSimpArgs false
namespace Go.Ab
open Go Go.RowKit
section
variable {P : Program} {cx : Cx} {n : Nat} {E : En}
theorem znt {c:Code} {Q:Exit->VR->Obs->Prop} {r:VR} {o o1:Obs} (h1:Le P cx n ⟨toR r,o⟩ ⟨toR r,o1⟩) (h:LoopV P cx n E c Q r o1):LoopV P cx n E c Q r o:=⟨zmm h1 h.h⟩
theorem tokOV (k0 j k el sz:Nat) {T:Nat} {cs:List AV} {c:Code} {Q:Exit->VR->Obs->Prop} {r:VR} {o o1:Obs} (hE:EnK P cx n E.tab E.fb E.n E.k0 E.cc E.cl) (hk:get o k0=some (.ce T cs)) (hj:cs[j]?=some (.p nilS)) (ho:setq o k0 (.ce T (cs.set j (.ts k sz [])))=some o1)
  (hf:(z1e k (toR r)&&zr k o&&!mem k E.k0)=true) (h:LoopV P cx n E c Q r ((k,.ar el sz 0)::o1)):LoopV P cx n E c Q r o:=by
 obtain ⟨h1,h2⟩:=z2m hE.ok hf
 rw [z3b] at ho
 cases ho
 exact znt (Le.tokO k el sz hk hj rfl rfl h1 h2) h
theorem tokOM (k0 j k el sz:Nat) {T:Nat} {cs:List AV} {c:Code} {Q:Exit->VR->Obs->Prop} {r:VR} {o o1:Obs} (hE:EnK P cx n E.tab E.fb E.n E.k0 E.cc E.cl) (hk:get o k0=some (.ce T cs)) (hj:cs[j]?=some (.p nilS)) (ho:setq o k0 (.ce T (cs.set j (.tm k 0)))=some o1)
  (hne:Nat.beq k k0=false) (hf:(z1e k (toR r)&&zr k o&&!mem k E.k0)=true) (h:LoopV P cx n E c Q r ((k,.mu el sz 0 [])::o1)):LoopV P cx n E c Q r o:=by
 obtain ⟨h1,h2⟩:=z2m hE.ok hf
 rw [z3b] at ho
 cases ho
 have hjl:j<cs.length:=(List.getElem?_eq_some_iff.1 hj).1
 refine znt (Le.tokO k el sz hk hj rfl rfl h1 h2) ?_
 refine znt (o1:=(k,.mu el sz 0 [])::setO o k0 (.ce T (cs.set j (.ts k sz [])))) (Le.arMu (T:=el) (sz:=sz) (k:=k) (by simp only [get,Nat.beq_refl,cond_true]) (by simp only [setq,Nat.beq_refl];rfl)) ?_
 refine znt (Le.subC k0 j (x:=.ts k sz []) (y:=.tm k 0) (T:=T) (cs:=cs.set j (.ts k sz [])) ?_ ?_ Sub.tstm rfl rfl) ?_
 ·simp only [get,hne,cond_false];exact z5q hk
 ·simp [hjl]
 ·have e:setO ((k,Ob.mu el sz 0 [])::setO o k0 (.ce T (cs.set j (.ts k sz [])))) k0 (.ce T ((cs.set j (.ts k sz [])).set j (.tm k 0)))=(k,.mu el sz 0 [])::setO o k0 (.ce T (cs.set j (.tm k 0))):=by
   simp only [setO,hne,cond_false,List.set_set]
   congr 1
   have:∀ (o:Obs) (x y:Ob),setO (setO o k0 x) k0 y=setO o k0 y:=by
    intro o x y
    induction o with
    | nil=>rfl
    | cons p o ih =>
      obtain ⟨q,z⟩:=p
      simp only [setO]
      cases hb:Nat.beq q k0 with
      | true=>simp only [cond_true,setO,hb]
      | false=>simp only [cond_false,setO,hb,ih]
   exact this _ _ _
  rw [e];exact h
end
end Go.Ab
namespace Go.Ab
open Go Go.RowKit
theorem zz27 {T k sz:Nat} {a b:AV} {xs ys:List (List PV)} (h:xs=ys):Ob.ce T [a,b,.ts k sz xs]=Ob.ce T [a,b,.ts k sz ys]:=by rw [h]
theorem zso {T k sz:Nat} {a b c d:AV} {xs ys:List (List PV)} (h:xs=ys):Ob.ce T [a,b,c,d,.ts k sz xs]=Ob.ce T [a,b,c,d,.ts k sz ys]:=by rw [h]
theorem zz28 {T k sz:Nat} {a b c d:AV} {xs ys:List (List PV)} (h:xs=ys):Ob.ce T [a,b,c,.ts k sz xs,d]=Ob.ce T [a,b,c,.ts k sz ys,d]:=by rw [h]
theorem z1f (p:List Trm) (a:Trm):encTs p++[[I a.kind,I a.n,St a.name,.sl 3 (encLs a.levels),.sl 5 (encTs a.args)]]=encTs (p++[a]):=by simp [zb,rowT]
theorem z6z (p:List Lvl) (a:Lvl):encLs p++[[I a.kind,I a.n,.sl 3 (encLs a.args)]]=encLs (p++[a]):=by simp [z1i,rowL]
theorem zj5 {α β:Type} {l:List α} {m:List β} {p q:List (α×β)} {x:α} {y:β} (h:l.zip m=p++(x,y)::q):l[p.length]?=some x/\m[p.length]?=some y/\p.length<l.length:=by
 have h1:(l.zip m)[p.length]?=some (x,y):=by rw [h];simp
 rw [List.getElem?_zip_eq_some] at h1
 exact ⟨h1.1,h1.2,(List.getElem?_eq_some_iff.1 h1.1).1⟩
end Go.Ab
namespace Go.Ab.YtpneaijfkefeaaaGreat
open Go Go.RowKit Go.Ab Go.Proofs
theorem zh3 (by_:List Lvl) (hby:∀ b∈by_,PCon Tryz.prog 95 [lv b] (lv b)) (t:Lvl):narL t=true->PCon Tryz.prog 130 [lv t,.p (.sl 3 (encLs by_))] (lv (putF by_ t)):=by
 intro hpt
 have ih:∀ a∈t.args,narL a=true->PCon Tryz.prog 130 [lv a,.p (.sl 3 (encLs by_))] (lv (putF by_ a)):=fun a ha h=>zh3 by_ hby a h
 have hlp:=zlo hpt
 have hput:=zd1 by_ t
 have rest:∀ (hn:¬ (t.kind=4/\0<=t.n/\t.n<by_.length)),putF by_ t=⟨t.kind,t.n,t.args.map (putF by_)⟩:=fun hn=>by rw [hput,if_neg hn,z1o]
 refine cv [] [1] [] Tryz.func130 53 Tryz.ntmps130 rfl rfl fun cx hE=>?_
 refine seq0 [(21,.p (B (decide (t.kind=4/\0<=t.n/\t.n<by_.length))))] [] [21] [] [] hE rfl rfl rfl ?_ ?_
 ·repeat' (first | refine brS (fun _=>?_) (fun _=>?_) | refine fun _=>?_)
  all_goals have:=zq by_
  all_goals first | exact ⟨Sub.bf (by omega),rfl,rfl,trivial⟩ | exact ⟨Sub.bd (by omega),rfl,rfl,trivial⟩
 ·refine brS (fun hp=>?_) (fun hp=>?_)
  ·obtain ⟨hrow,hmem⟩:=zaf hp.2.1 hp.2.2
   refine idx1 hp.2.1 (by simp;omega) hrow ?_
   refine call0 (hby _ hmem) ?_
   exact ⟨by rw [hput,if_pos hp];rfl,rfl⟩
  ·refine tokOV 5 2 500 74 3 hE rfl rfl rfl rfl ?_
   refine loopP t.args (fun p=>[(6,.p (I p.length))]) (fun p=>[(5,.ce 74 [.p (I t.kind),.p (I t.n),.ts 500 3 (encLs (p.map (putF by_)))]),(500,.ar 74 3 (encLs (p.map (putF by_))).length)]) (fun _=>True) [6] [5,500] hE rfl rfl rfl ⟨Sub.refl _,rfl,rfl,rfl,rfl,trivial⟩ trivial (fun _=>?_) (fun p a q hl _=>?_)
   ·refine fun _=>brLe ?_
    exact ⟨by rw [rest hp];rfl,rfl⟩
   ·have:=zj hl
    refine fun _=>brL hl (idxL hl (call0 (ih a (zg hl) (zlp hpt (zg hl))) (app1 (by simp;omega) (by simp;omega) (And.intro (by omega) ?_))))
    exact ⟨trivial,Sub.i (by simp),zz27 (zcy t.args p _ a),ar_eq (by simp),rfl,rfl,trivial⟩
termination_by SizeOf.sizeOf t
decreasing_by exact Lvl.lt ha
theorem z7a (t:Lvl) (h:narL t=true):PCon Tryz.prog 95 [lv t] (lv t):=by
 have hp:=zh3 [] (fun b hb=>by cases hb) t h
 rw [zbh] at hp
 exact cv [] [] [] Tryz.func95 5 Tryz.ntmps95 rfl rfl fun cx hE=>call0 hp ⟨rfl,rfl⟩
theorem zsp (by_:List Lvl) (hby:∀ b∈by_,narL b=true) (t:Lvl) (h:narL t=true):PCon Tryz.prog 130 [lv t,.p (.sl 3 (encLs by_))] (lv (putF by_ t)) :=
 zh3 by_ (fun b hb=>z7a b (hby b hb)) t h
theorem znu (a:Lvl):∀ b,PCon Tryz.prog 72 [lv a,lv b] (.p (B (eqL' a b))):=by
 intro b
 have ih:∀ c∈a.args,∀ b,PCon Tryz.prog 72 [lv c,lv b] (.p (B (eqL' c b))):=fun c hc b=>znu c b
 have he:=zz06 a b
 have h1:=zq a.args
 have h2:=zq b.args
 refine cv [] [1] [] Tryz.func72 46 Tryz.ntmps72 rfl rfl fun cx hE=>?_
 refine seq0 [(26,.p (B (decide (¬ (a.kind=b.kind/\a.n=b.n/\a.args.length=b.args.length)))))] [] [26] [] [] hE rfl rfl rfl ?_ ?_
 ·repeat' (first | refine brN (fun _=>?_) (fun _=>?_) | refine brS (fun _=>?_) (fun _=>?_) | refine fun _=>?_)
  all_goals first | exact ⟨Sub.bd (by omega),rfl,rfl,trivial⟩ | exact ⟨Sub.bt (by omega),rfl,rfl,trivial⟩ | exact ⟨Sub.bf (by omega),rfl,rfl,trivial⟩
 ·refine brS (fun hn=>⟨B_eq ?_,rfl⟩) (fun hn=>?_)
  ·rw [he];symm;simp only [Bool.and_eq_false_iff,decide_eq_false_iff_not]
   rcases Classical.em (a.args.length=b.args.length) with h | h
   ·omega
   ·exact .inr (.inr (zj2 h))
  ·rw [Classical.not_not] at hn
   have hz:=zdc hn.2.2
   refine loopP (a.args.zip b.args) (fun p=>[(5,.p (I p.length))]) (fun p=>[]) (fun p=>(p.all fun p=>eqL' p.1 p.2)=true) [5] [] hE rfl rfl rfl ⟨Sub.refl _,rfl,rfl,trivial⟩ rfl (fun hp=>fun _=>brOut (by simp;omega) ⟨B_eq ?_,rfl⟩) (fun p x q hl hp=>?_)
   ·rw [he,hz,hp];simp [hn.1,hn.2.1]
   ·obtain ⟨x,y⟩:=x
    obtain ⟨g1,g2,g3⟩:=zj5 hl
    refine fun _=>brIn (by simpa using g3) (idxN (row:=rowL x) (by rw [z1i,List.getElem?_map,g1];rfl) (idxN (row:=rowL y) (by rw [z1i,List.getElem?_map,g2];rfl) (call0 (ih x (List.mem_of_getElem? g1) y) (brB (fun hb=>⟨B_eq ?_,rfl⟩) (fun hb=>And.intro (by omega) ⟨?_,Sub.i (by simp),rfl,rfl,trivial⟩)))))
    ·have hb':eqL' x y=false:=by simpa using hb
     rw [he,hz,hl];simp [hb']
    ·have hb':eqL' x y=true:=by simpa using hb
     simp [hp,hb']
termination_by SizeOf.sizeOf a
decreasing_by exact Lvl.lt hc
theorem z4g (k i:Int):PCon Tryz.prog 139 [.p (I k),.p (I i)] (.p (I (bndF k i))):=by
 refine cv [] [] [] Tryz.func139 23 Tryz.ntmps139 rfl rfl fun cx hE=>?_
 repeat' refine brS (fun _=>?_) (fun _=>?_)
 all_goals exact ⟨I_eq (by unfold bndF;split<;>omega),rfl⟩
def lfv (t:Trm):AV:=.ag [.p (I t.kind),.p (I t.n),.p (St t.name),.p (.sl 3 (encLs t.levels)),.p nilS]
theorem z9d (t:Trm) (h1:t.levels.length<=1000000000000) (h2:∀ l∈t.levels,narL l=true):PCon Tryz.prog 102 [tv t] (lfv t):=by
 refine cv [] [] [999999] Tryz.func102 31 Tryz.ntmps102 rfl rfl fun cx hE=>?_
 refine tokOV 3 3 500 74 3 hE rfl rfl rfl rfl ?_
 refine loopP t.levels (fun p=>[(4,.p (I p.length))]) (fun p=>[(3,.ce 35 [.p (I t.kind),.p (I t.n),.p (St t.name),.ts 500 3 (encLs p),.p nilS]),(500,.ar 74 3 (encLs p).length)]) (fun _=>True) [4] [3,500] hE rfl rfl rfl ⟨Sub.refl _,rfl,rfl,rfl,rfl,trivial⟩ trivial (fun _=>fun _=>brLe ⟨rfl,rfl⟩) (fun p a q hl _=>?_)
 have:=zj hl
 refine fun _=>brL hl (idxL hl (call0 (z7a a (h2 a (zg hl))) (app1 (by simp;omega) (by simp;omega) (And.intro (by omega) ?_))))
 exact ⟨trivial,Sub.i (by simp),zz28 (by simp [z1i,rowL]),ar_eq (by simp),rfl,rfl,trivial⟩
theorem z9e (by_ b:Int) (h0:0<=by_) (h1:by_<=1152921504606846976) (hb:b<=1152921504606846976) (t:Trm):∀ from_:Int,0<=from_->from_+dpT t<=1152921504606846976->wfT b t=true->PCon Tryz.prog 99 [tv t,.p (I by_),.p (I from_)] (tv (lftT by_ t from_)):=by
 intro from_ hf0 hf1 hw
 have w:=zf hw
 have ih:∀ a∈t.args,∀ f:Int,0<=f->f+dpT a<=1152921504606846976->PCon Tryz.prog 99 [tv a,.p (I by_),.p (I f)] (tv (lftT by_ a f)):=fun a ha f g0 g1=>z9e by_ b h0 h1 hb a f g0 g1 (w.sub a ha)
 have hfew:=w.few_args
 have hn1:=w.n1
 have hn0:=w.n0
 rw [zz07 hw]
 refine cv [] [1000002] [] Tryz.func99 51 Tryz.ntmps99 rfl rfl fun cx hE=>call0 (z9d t w.few w.nar) ?_
 refine join0 [] [(7,.ce 35 [.p (I t.kind),.p (I (if t.kind=0/\from_<=t.n then t.n+by_ else t.n)),.p (St t.name),.p (.sl 3 (encLs t.levels)),.p nilS])] [] [7] [] hE rfl rfl rfl ?_ ?_
 ·refine brS (fun h1=>brS (fun h2=>And.intro (by omega) ?_) (fun h2=>?_)) (fun h1=>?_)
  ·rw [if_pos ⟨h1,h2⟩];exact ⟨rfl,rfl,rfl,trivial⟩
  ·rw [if_neg (fun h=>h2 h.2)];exact ⟨rfl,rfl,rfl,trivial⟩
  ·rw [if_neg (fun h=>h1 h.1)];exact ⟨rfl,rfl,rfl,trivial⟩
 ·refine tokOV 7 4 500 35 5 hE rfl rfl rfl rfl ?_
  refine loopP t.args (fun p=>[(8,.p (I p.length))]) (fun p=>[(7,.ce 35 [.p (I t.kind),.p (I (if t.kind=0/\from_<=t.n then t.n+by_ else t.n)),.p (St t.name),.p (.sl 3 (encLs t.levels)),.ts 500 5 (encTs (trvTs (lftV by_ 0) t.kind p 0 from_))]),(500,.ar 35 5 (encTs (trvTs (lftV by_ 0) t.kind p 0 from_)).length)]) (fun _=>True) [8] [7,500] hE rfl rfl rfl ⟨Sub.refl _,rfl,rfl,rfl,rfl,trivial⟩ trivial (fun _=>fun _=>brTe ⟨rfl,rfl⟩) (fun p a q hl _=>?_)
  have:=zj hl
  have hbd:=z5w t.kind p.length
  have hda:=z1h (zg hl)
  have hsn:=z6x (lftV by_ 0) t.kind p a from_
  have hlen:=z2k (lftV by_ 0) t.kind p 0 from_
  refine fun _=>brT' hl (idxT hl (call0 (z4g _ _) (And.intro (by omega) (call0 (ih a (zg hl) (from_+bndF t.kind p.length) (by omega) (by omega)) (app1 (by simp [hlen];omega) (by simp [hlen];omega) (And.intro (by omega) ?_))))))
  exact ⟨trivial,Sub.i (by simp),zso (by rw [hsn];exact z1f _ _),ar_eq (by rw [hsn];simp),rfl,rfl,trivial⟩
termination_by SizeOf.sizeOf t
decreasing_by exact Trm.lt ha
structure Cp (t:Trm):Prop where
 w:∃ b:Int,b<=1152921504606846976/\wfT b t=true
 d:dpT t<=1152921504606846976
theorem Cp.of {b:Int} {t:Trm} (h:wfT b t=true) (hb:b<=1152921504606846976) (hd:dpT t<=1152921504606846976):Cp t:=⟨⟨b,hb,h⟩,hd⟩
theorem z1k (t:Trm) (h:Cp t):PCon Tryz.prog 51 [tv t] (tv t):=by
 obtain ⟨⟨b,hb,hw⟩,hd⟩:=h
 have hp:=z9e 0 b (by omega) (by omega) hb t 0 (by omega) (by omega) hw
 rw [z5h] at hp
 exact cv [] [] [] Tryz.func51 5 Tryz.ntmps51 rfl rfl fun cx hE=>call0 hp ⟨rfl,rfl⟩
theorem z9f (t:Trm) (h:Cp t) (by_:Int) (h0:0<=by_) (h1:by_<=1073741824) (from_:Int) (f0:0<=from_) (f1:from_<=1073741824) (hd:dpT t<=1000000000000000000):PCon Tryz.prog 45 [tv t,.p (I by_),.p (I from_)] (tv (lftT by_ t from_)):=by
 obtain ⟨⟨b,hb,hw⟩,_⟩:=h
 have hp:PCon Tryz.prog 99 [tv t,.p (I (min (max by_ 0) 1073741824)),.p (I (min (max from_ 0) 1073741824))] (tv (lftT by_ t from_)):=by
  rw [show min (max by_ 0) 1073741824=by_ by omega,show min (max from_ 0) 1073741824=from_ by omega]
  exact z9e by_ b h0 (by omega) hb t from_ f0 (by omega) hw
 exact cv [] [] [] Tryz.func45 15 Tryz.ntmps45 rfl rfl fun cx hE=>call0 hp ⟨rfl,rfl⟩
theorem znv (b bv:Int) (hb:b<=1152921504606846976) (v:Trm) (hv:Cp v) (hdv:dpT v<=1000000000000000000) (t:Trm):∀ at_:Int,0<=at_->at_+dpT t<=1073741824->wfT b t=true->PCon Tryz.prog 129 [tv t,tv v,.p (I at_)] (tv (opnT [v] t at_)):=by
 intro at_ h0 h1 hw
 have w:=zf hw
 have ih:∀ a∈t.args,∀ f:Int,0<=f->f+dpT a<=1073741824->PCon Tryz.prog 129 [tv a,tv v,.p (I f)] (tv (opnT [v] a f)):=fun a ha f g0 g1=>znv b bv hb v hv hdv a f g0 g1 (w.sub a ha)
 have hfew:=w.few_args
 have hn1:=w.n1
 have hn0:=w.n0
 have hpos:1<=dpT t:=by rw [z5g];omega
 refine cv [] [1000001] [] Tryz.func129 57 Tryz.ntmps129 rfl rfl fun cx hE=>?_
 refine join1 (A:=Unit) (fun _=>[]) (fun _=>[]) (fun _=>¬ (t.kind=0/\at_<=t.n)) [] [] [] hE rfl rfl rfl ?_ (fun _ hn=>?_)
 ·refine brS (fun hk=>brS (fun he=>?_) (fun he=>brS (fun hg=>And.intro (by omega) ?_) (fun hg=>?_))) (fun hk=>?_)
  ·refine call0 (z9f v hv at_ h0 (by omega) 0 (by omega) (by omega) hdv) ⟨?_,rfl⟩
   rw [zh0 hw at_ hk (by omega),if_pos (by simp;omega),show (t.n-at_).toNat=0 by omega]
   rfl
  ·refine ⟨?_,rfl⟩
   rw [zh0 hw at_ hk (by omega),if_neg (by simp;omega)]
   rfl
  ·exact ⟨(),by omega,leX.same ⟨rfl,rfl,rfl,trivial⟩⟩
  ·exact ⟨(),by omega,leX.same ⟨rfl,rfl,rfl,trivial⟩⟩
 ·rw [zsg hw at_ hn]
  refine call0 (z9d t w.few w.nar) ?_
  refine tokOV 7 4 500 35 5 hE rfl rfl rfl rfl ?_
  refine loopP t.args (fun p=>[(8,.p (I p.length))]) (fun p=>[(7,.ce 35 [.p (I t.kind),.p (I t.n),.p (St t.name),.p (.sl 3 (encLs t.levels)),.ts 500 5 (encTs (trvTs (opnV [v]) t.kind p 0 at_))]),(500,.ar 35 5 (encTs (trvTs (opnV [v]) t.kind p 0 at_)).length)]) (fun _=>True) [8] [7,500] hE rfl rfl rfl ⟨Sub.refl _,rfl,rfl,rfl,rfl,rfl,trivial⟩ trivial (fun _=>fun _=>brTe ⟨rfl,rfl⟩) (fun p a q hl _=>?_)
  have:=zj hl
  have hbd:=z5w t.kind p.length
  have hda:=z1h (zg hl)
  have hsn:=z6x (opnV [v]) t.kind p a at_
  have hlen:=z2k (opnV [v]) t.kind p 0 at_
  refine fun _=>brT' hl (idxT hl (call0 (z4g _ _) (And.intro (by omega) (call0 (ih a (zg hl) (at_+bndF t.kind p.length) (by omega) (by omega)) (app1 (by simp [hlen];omega) (by simp [hlen];omega) (And.intro (by omega) ?_))))))
  exact ⟨trivial,Sub.i (by simp),zso (by rw [hsn];exact z1f _ _),ar_eq (by rw [hsn];simp),rfl,rfl,rfl,trivial⟩
termination_by SizeOf.sizeOf t
decreasing_by exact Trm.lt ha
theorem zbj (b:Int) (hb:b<=1152921504606846976) (v:Trm) (hv:Cp v) (hdv:dpT v<=1000000000000000000) (t:Trm) (hw:wfT b t=true) (hd:dpT t<=1073741824):PCon Tryz.prog 78 [tv t,tv v] (tv (opnT [v] t 0)) :=
 cv [] [] [] Tryz.func78 8 Tryz.ntmps78 rfl rfl fun cx hE=>call0 (znv b 0 hb v hv hdv t 0 (by omega) (by omega) hw) ⟨rfl,rfl⟩
theorem tv2 (k n:Int) (s:ByteArray) (ls:List Lvl) (f a:Trm):AV.ag [.p (I k),.p (I n),.p (St s),.p (.sl 3 (encLs ls)),.p (.sl 5 [rowT f,rowT a])]=tv ⟨k,n,s,ls,[f,a]⟩:=by simp [tv,encTs,z3v]
theorem tv3 (k n:Int) (s:ByteArray) (ls:List Lvl) (f a c:Trm):AV.ag [.p (I k),.p (I n),.p (St s),.p (.sl 3 (encLs ls)),.p (.sl 5 [rowT f,rowT a,rowT c])]=tv ⟨k,n,s,ls,[f,a,c]⟩:=by simp [tv,encTs,z3v]
theorem tv1l (k n:Int) (s:ByteArray) (l:Lvl) (q:List Trm):AV.ag [.p (I k),.p (I n),.p (St s),.p (.sl 3 [rowL l]),.p (.sl 5 (encTs q))]=tv ⟨k,n,s,[l],q⟩:=by simp [tv,encLs,zg6]
theorem z9g (n:Int):PCon Tryz.prog 46 [.p (I n)] (tv (mkV n)):=cv [] [] [] Tryz.func46 5 Tryz.ntmps46 rfl rfl fun cx hE=>⟨rfl,rfl⟩
theorem zsq (l:Lvl) (h:narL l=true):PCon Tryz.prog 42 [lv l] (tv ⟨1,0,⟨#[]⟩,[l],[]⟩):=cv [] [] [] Tryz.func42 7 Tryz.ntmps42 rfl rfl fun cx hE=>call0 (z7a l h) ⟨tv1l _ _ _ _ [],rfl⟩
theorem z7b (s:ByteArray) (ls:List Lvl) (h1:ls.length<=1000000000000) (h2:∀ l∈ls,narL l=true):PCon Tryz.prog 48 [.p (St s),.p (.sl 3 (encLs ls))] (tv (⟨2,0,s,ls,[]⟩)) :=
 cv [] [] [] Tryz.func48 9 Tryz.ntmps48 rfl rfl fun cx hE=>call0 (z9d ⟨2,0,s,ls,[]⟩ h1 h2) ⟨rfl,rfl⟩
theorem z4d (f a:Trm) (h:Cp a):PCon Tryz.prog 34 [tv f,tv a] (tv (mkA f a)):=cv [] [] [] Tryz.func34 10 Tryz.ntmps34 rfl rfl fun cx hE=>call0 (z1k a h) ⟨tv2 _ _ _ [] _ _,rfl⟩
theorem z9h (a b:Trm) (h:Cp a):PCon Tryz.prog 44 [tv a,tv b] (tv (mkB 4 a b)):=cv [] [] [] Tryz.func44 10 Tryz.ntmps44 rfl rfl fun cx hE=>call0 (z1k a h) ⟨tv2 _ _ _ [] _ _,rfl⟩
theorem zz0a (a b:Trm) (h:Cp a):PCon Tryz.prog 115 [tv a,tv b] (tv (mkB 5 a b)):=cv [] [] [] Tryz.func115 10 Tryz.ntmps115 rfl rfl fun cx hE=>call0 (z1k a h) ⟨tv2 _ _ _ [] _ _,rfl⟩
theorem z9i (t:Trm) (p:List Trm) (a:Trm):appT t (p++[a])=mkA (appT t p) a:=by rw [znp];rfl
def ceT (t:Trm):Ob:=.ce 35 [.p (I t.kind),.p (I t.n),.p (St t.name),.p (.sl 3 (encLs t.levels)),.p (.sl 5 (encTs t.args))]
theorem z2z (h:Trm) (hh:Cp h) (l:List Trm) (hl:∀ a∈l,Cp a) (hlen:l.length<=1000000000000):PCon Tryz.prog 77 [tv h,.p (.sl 5 (encTs l))] (tv (appT h l)):=by
 refine cv [] [] [] Tryz.func77 22 Tryz.ntmps77 rfl rfl fun cx hE=>call0 (z1k h hh) ?_
 refine loopP l (fun p=>[(6,.p (I p.length))]) (fun p=>[(5,ceT (appT h p))]) (fun _=>True) [6] [5] hE rfl rfl rfl ⟨Sub.refl _,rfl,rfl,rfl,trivial⟩ trivial (fun _=>fun _=>brTe ⟨rfl,rfl⟩) (fun p a q hl' _=>?_)
 have:=zj hl'
 refine fun _=>brT' hl' (idxT hl' (call0 (z4d (appT h p) a (hl a (zg hl'))) (And.intro (by omega) ⟨trivial,Sub.i (by simp),by rw [z9i];rfl,rfl,rfl,trivial⟩)))
theorem z9j (a:Trm):∀ b,PCon Tryz.prog 29 [tv a,tv b] (.p (B (eqT a b))):=by
 intro b
 have ih:∀ c∈a.args,∀ b,PCon Tryz.prog 29 [tv c,tv b] (.p (B (eqT c b))):=fun c hc b=>z9j c b
 have he:=zz25 a b
 have h1:=zc a.args
 have h2:=zc b.args
 have h3:=zq a.levels
 have h4:=zq b.levels
 refine cv [] [1000001] [] Tryz.func29 82 Tryz.ntmps29 rfl rfl fun cx hE=>?_
 refine join1 (A:=Unit) (fun _=>[]) (fun _=>[]) (fun _=>a.kind=b.kind/\a.n=b.n/\a.name=b.name/\a.levels.length=b.levels.length/\a.args.length=b.args.length) [] [] [] hE rfl rfl rfl ?_ (fun _ hn=>?_)
 ·have hl:a.levels.length≠b.levels.length->eqT a b=false:=fun h=>by rw [he,zj2 h];simp
  have ha:a.args.length≠b.args.length->eqT a b=false:=fun h=>by rw [he,zwy h];simp
  repeat' (first | refine brN (fun _=>?_) (fun _=>?_) | refine brS (fun _=>?_) (fun _=>?_) | refine fun _=>?_)
  all_goals first
  | (refine ⟨B_eq ?_,rfl⟩;first | (rw [he];simp [*];done) | (symm;apply hl;omega) | (symm;apply ha;omega))
  | (refine ⟨(),?_,leX.same ⟨rfl,rfl,trivial⟩⟩;simp_all;done)
  | (refine ⟨(),?_,leX.same ⟨rfl,rfl,trivial⟩⟩;simp_all;omega)
 obtain ⟨n1,n2,n3,n4,n5⟩:=hn
 have hz:=zdc n4
 have hy:=znq n5
 refine loopP (a.levels.zip b.levels) (fun p=>[(5,.p (I p.length))]) (fun p=>[]) (fun p=>(p.all fun p=>eqL' p.1 p.2)=true) [5] [] hE rfl rfl rfl ⟨Sub.refl _,rfl,rfl,trivial⟩ rfl (fun hp=>fun _=>brOut (by simp;omega) ?_) (fun p x q hl hp=>?_)
 ·refine loopP (a.args.zip b.args) (fun p=>[(6,.p (I p.length))]) (fun p=>[]) (fun p=>(p.all fun p=>eqT p.1 p.2)=true) [6] [] hE rfl rfl rfl ⟨Sub.refl _,rfl,rfl,trivial⟩ rfl (fun hq=>fun _=>brOut (by simp;omega) ⟨B_eq ?_,rfl⟩) (fun p x q hl hq=>?_)
  ·rw [he,hz,hy,hp,hq];simp [n1,n2,n3]
  ·obtain ⟨x,y⟩:=x
   obtain ⟨g1,g2,g3⟩:=zj5 hl
   refine fun _=>brIn (by simpa using g3) (idxN (row:=rowT x) (by rw [zb,List.getElem?_map,g1];rfl) (idxN (row:=rowT y) (by rw [zb,List.getElem?_map,g2];rfl) (call0 (ih x (List.mem_of_getElem? g1) y) (brB (fun hb=>⟨B_eq ?_,rfl⟩) (fun hb=>And.intro (by omega) ⟨?_,Sub.i (by simp),rfl,rfl,trivial⟩)))))
   ·have hb':eqT x y=false:=by simpa using hb
    rw [he,hy,hl];simp [hb']
   ·have hb':eqT x y=true:=by simpa using hb
    simp [hq,hb']
 ·obtain ⟨x,y⟩:=x
  obtain ⟨g1,g2,g3⟩:=zj5 hl
  refine fun _=>brIn (by simpa using g3) (idxN (row:=rowL x) (by rw [z1i,List.getElem?_map,g1];rfl) (idxN (row:=rowL y) (by rw [z1i,List.getElem?_map,g2];rfl) (call0 (znu x y) (brB (fun hb=>⟨B_eq ?_,rfl⟩) (fun hb=>And.intro (by omega) ⟨?_,Sub.i (by simp),rfl,rfl,trivial⟩)))))
  ·have hb':eqL' x y=false:=by simpa using hb
   rw [he,hz,hl];simp [hb']
  ·have hb':eqL' x y=true:=by simpa using hb
   simp [hp,hb']
termination_by SizeOf.sizeOf a
decreasing_by exact Trm.lt hc
theorem zh4 {u:Trm} {acc:List Trm} {f a:Trm} (hk:u.kind=3) (ha:u.args=[f,a]):spnT u acc=spnT f (a::acc):=by
 obtain ⟨k,n,s,ls,l⟩:=u
 simp only at hk ha
 subst hk ha
 rw [spnT.eq_def];simp
theorem zh5 {u:Trm} {acc:List Trm} (hk:¬ u.kind=3):spnT u acc=(u,acc):=by
 obtain ⟨k,n,s,ls,l⟩:=u
 simp only at hk
 rw [spnT.eq_def];simp [hk]
theorem z4q {b:Int} {t:Trm} (h:wfT b t=true) (hk:t.kind=3\/t.kind=4\/t.kind=5):∃ x y,t.args=[x,y]:=by
 have:=(zf h).args
 have h2:t.args.length=2:=by unfold argF at this;rw [if_neg (by omega),if_pos hk] at this;omega
 match t.args,h2 with
 | [x,y],_=>exact ⟨x,y,rfl⟩
theorem z3h (b:Int) (hb:b<=1152921504606846976) (t:Trm) (hw:wfT b t=true) (hd:dpT t<=1000000000000):PCon Tryz.prog 74 [tv t] (.tp [tv (headT t),.p (.sl 5 (encTs (argsT t)))]):=by
 refine cv [13] [] [] Tryz.func74 23 Tryz.ntmps74 rfl rfl fun cx hE=>?_
 refine loop2 (fun (u:Trm) (l:List Trm)=>[(4,.p (.sl 5 (encTs l)))]) (fun u l=>[(1,ceT u)]) (fun u l=>wfT b u=true/\l.length+dpT u<=dpT t/\spnT u l=spnT t []) (fun u l=>dpT u) t [] [4] [1] hE rfl rfl rfl ⟨Sub.nil (sz:=5),rfl,rfl,trivial⟩ ⟨hw,by simp,rfl⟩ fun u l ⟨g1,g2,g3⟩=>?_
 refine brS (fun hk=>?_) (fun hk=>?_)
 ·obtain ⟨x,y,ha⟩:=z4q g1 (.inl hk)
  have w:=zf g1
  have hx:=z1h (t:=u) (a:=x) (by rw [ha];simp)
  have hy:=z1h (t:=u) (a:=y) (by rw [ha];simp)
  have e1:(encTs u.args)[1]?=some (rowT y):=by rw [ha];simp [encTs,z3v]
  have e0:(encTs u.args)[0]?=some (rowT x):=by rw [ha];simp [encTs,z3v]
  refine idxN (i:=1) e1 (call0 (z1k y (.of (w.sub y (by rw [ha];simp)) hb (by omega))) (app2 rfl (by simp;omega) (by simp;omega) (idxN (i:=0) e0 ?_)))
  refine ⟨x,y::l,⟨w.sub x (by rw [ha];simp),by simp;omega,by rw [<- g3,zh4 hk ha]⟩,by omega,Sub.tsp ?_,rfl,rfl,trivial⟩
  simp [encTs,z3v,rowT]
 ·rw [zh5 hk] at g3
  refine call0 (z1k u (.of g1 hb (by omega))) ⟨?_,rfl⟩
  unfold headT argsT
  rw [<- g3];rfl
def lfm (t:Trm) (k v:Nat):AV:=.ag [.p (I t.kind),.p (I t.n),.p (St t.name),.tm k v,.p nilS]
theorem zq8 (t:Trm) (h1:t.levels.length<=1000000000000) (h2:∀ l∈t.levels,narL l=true):Con Tryz.prog 102 [tv t] [] (fun r o=>r=lfm t 500 t.levels.length/\o=[(500,.mu 74 3 t.levels.length (encLs t.levels))]):=by
 refine cv [] [] [500,999999] Tryz.func102 31 Tryz.ntmps102 rfl rfl fun cx hE=>?_
 refine tokOM 3 3 500 74 3 hE rfl rfl rfl rfl rfl ?_
 refine loopP t.levels (fun p=>[(4,.p (I p.length))]) (fun p=>[(3,.ce 35 [.p (I t.kind),.p (I t.n),.p (St t.name),.tm 500 p.length,.p nilS]),(500,.mu 74 3 p.length (encLs p))]) (fun _=>True) [4] [3,500] hE rfl rfl rfl ⟨Sub.refl _,rfl,rfl,rfl,rfl,trivial⟩ trivial (fun _=>fun _=>brLe ⟨rfl,rfl⟩) (fun p a q hl _=>?_)
 have:=zj hl
 have e:Ob.mu 74 3 (p.length+1) (encLs p++[[I a.kind,I a.n,.sl 3 (encLs a.args)]])=.mu 74 3 (p++[a]).length (encLs (p++[a])):=by rw [z6z];simp
 refine fun _=>brL hl (idxL hl (call0 (z7a a (h2 a (zg hl))) (app2 (by simp) (by simp;omega) (by simp;omega) (And.intro (by omega) ?_))))
 exact ⟨trivial,Sub.i (by simp),by simp,e,rfl,rfl,trivial⟩
theorem z7x (by_:List Lvl) (hby:∀ b∈by_,narL b=true) (b:Int) (t:Trm):wfT b t=true->PCon Tryz.prog 80 [tv t,.p (.sl 3 (encLs by_))] (tv (lvsT by_ t)):=by
 intro hw
 have w:=zf hw
 have ih:∀ a∈t.args,PCon Tryz.prog 80 [tv a,.p (.sl 3 (encLs by_))] (tv (lvsT by_ a)):=fun a ha=>z7x by_ hby b a (w.sub a ha)
 have hfew:=w.few_args
 have hln:=w.few
 rw [zag,z3s,z1o]
 refine cv [] [1000006] [] Tryz.func80 48 Tryz.ntmps80 rfl rfl fun cx hE=>?_
 refine callX [] (zq8 t w.few w.nar) rfl rfl (za _) fun r o ⟨e1,e2⟩=>?_
 subst e1 e2
 refine loop2 (fun (p q:List Lvl)=>[(6,.p (I p.length))]) (fun p q=>[(500,.mu 74 3 t.levels.length (encLs (p.map (putF by_)++q)))]) (fun p q=>t.levels=p++q) (fun p q=>q.length) [] t.levels [6] [500] hE rfl rfl rfl ⟨Sub.refl _,rfl,rfl,rfl,rfl,trivial⟩ rfl fun p q hpq=>?_
 have hlen:(encLs (p.map (putF by_)++q)).length=t.levels.length:=by rw [hpq];simp
 cases q with
 | nil =>
   refine len1 (fun _=>brOut (by rw [hlen,hpq];simp) ?_)
   simp only [List.append_nil] at hpq ⊢
   subst hpq
   refine join1 (A:=Unit) (fun _=>[]) (fun _=>[(5,ceT ⟨t.kind,t.n,t.name,t.levels.map (putF by_),t.args.map (lvsT by_)⟩)]) (fun _=>True) [] [5,500] [] hE rfl rfl rfl ?_ (fun _ _=>⟨rfl,rfl⟩)
   refine tokOV 5 4 501 35 5 hE rfl rfl rfl rfl ?_
   refine loopP t.args (fun p=>[(7,.p (I p.length))]) (fun p=>[(5,.ce 35 [.p (I t.kind),.p (I t.n),.p (St t.name),.tm 500 t.levels.length,.ts 501 5 (encTs (p.map (lvsT by_)))]),(501,.ar 35 5 (encTs (p.map (lvsT by_))).length)]) (fun _=>True) [7] [5,501] hE rfl rfl rfl ⟨Sub.refl _,rfl,rfl,rfl,rfl,rfl,trivial⟩ trivial (fun _=>fun _=>brTe ⟨(),trivial,leX.by (Le.muPC 5 3 500 rfl rfl rfl rfl rfl) (leX.by (Le.subC 5 4 rfl rfl Sub.ts rfl rfl) (leX.same ⟨rfl,rfl,rfl,trivial⟩))⟩) (fun p a q hl _=>?_)
   have:=zj hl
   refine fun _=>brT' hl (idxT hl (call0 (ih a (zg hl)) (app1 (by simp;omega) (by simp;omega) (And.intro (by omega) ?_))))
   exact ⟨trivial,Sub.i (by simp),zso (by rw [List.map_append];exact z1f _ _),ar_eq (by simp),rfl,rfl,rfl,trivial⟩
 | cons a q =>
   have hlt:p.length<t.levels.length:=by rw [hpq];simp
   have hrow:(encLs (p.map (putF by_)++a::q))[p.length]?=some (rowL a):=by simp [z1i]
   refine len1 (fun _=>brIn (by rw [hlen];exact hlt) (And.intro (by omega) (And.intro (by rw [hlen];omega) (pld1 (i:=p.length) hrow (call0 (zsp by_ hby a (w.nar a (by rw [hpq];simp))) (And.intro (by omega) (And.intro (by rw [hlen];omega) (pst1 (i:=p.length) (by rw [hlen];exact hlt) ?_))))))))
   refine And.intro (by omega) ⟨p++[a],q,by rw [hpq];simp,by simp,Sub.i (by simp),?_,rfl,rfl,rfl,trivial⟩
   have:(encLs (p.map (putF by_)++a::q)).set p.length (rowL (putF by_ a))=encLs ((p++[a]).map (putF by_)++q):=by simp [z1i]
   exact congrArg (Ob.mu 74 3 t.levels.length) this
termination_by SizeOf.sizeOf t
decreasing_by exact Trm.lt ha
theorem z3i (t:Trm) (hd:dpT t<=1000000000000):PCon Tryz.prog 131 [tv t] (.p (I (piL t).length)):=by
 refine cv [] [] [] Tryz.func131 20 Tryz.ntmps131 rfl rfl fun cx hE=>?_
 refine loop2 (fun (n:Nat) (u:Trm)=>[(3,.p (I n))]) (fun n u=>[(1,ceT u)]) (fun n u=>n+(piL u).length=(piL t).length/\n+dpT u<=dpT t) (fun n u=>dpT u) 0 t [3] [1] hE rfl rfl rfl ⟨Sub.refl _,rfl,trivial⟩ ⟨by simp,by simp⟩ fun n u ⟨g1,g2⟩=>?_
 have hel:=zc u.args
 refine brS (fun hk=>fun _=>brS (fun hl=>?_) (fun hl=>?_)) (fun hk=>?_)
 ·obtain ⟨x,y,ha⟩:=z3d (l:=u.args) (by omega)
  have hy:=z1h (t:=u) (a:=y) (by rw [ha];simp)
  have e1:(encTs u.args)[1]?=some (rowT y):=by rw [ha];simp [encTs,z3v]
  have hp:=(z2d hk ha).1
  rw [hp] at g1
  refine And.intro (by omega) (idxN (i:=1) e1 ⟨n+1,y,⟨by simp at g1;omega,by omega⟩,by omega,Sub.i (by simp),rfl,trivial⟩)
 ·have hp:=(z2t (u:=u) (by omega)).1
  rw [hp] at g1
  exact ⟨I_eq (by simp at g1;omega),rfl⟩
 ·have hp:=(z2t (u:=u) (by omega)).1
  rw [hp] at g1
  exact ⟨I_eq (by simp at g1;omega),rfl⟩
theorem zak (b:Int) (hb:b<=1152921504606846976) (t:Trm) (hw:wfT b t=true) (hd:dpT t<=1000000000000) (n:Nat) (hn:n<=(piL t).length):PCon Tryz.prog 156 [tv t,.p (I n)] (.tp [.p (.sl 5 (encTs ((piL t).take n))),tv (piD n t),.p (B true)]):=by
 have hpd:=z3y t
 refine cv [] [] [] Tryz.func156 38 Tryz.ntmps156 rfl rfl fun cx hE=>brZ (by omega) (call0 (z3i t hd) (brZ (by omega) ?_))
 refine tokV 7 500 35 5 hE rfl rfl rfl ?_
 refine loop2 (fun (p:List Trm) (u:Trm)=>[(8,.p (I p.length)),(7,.ts 500 5 (encTs p))]) (fun p u=>[(2,ceT u),(500,.ar 35 5 (encTs p).length)]) (fun p u=>piL t=p++piL u/\p.length<=n/\piD (n-p.length) u=piD n t/\wfT b u=true/\dpT u<=dpT t) (fun p u=>dpT u) [] t [8,7] [2,500] hE rfl rfl rfl ⟨Sub.refl _,Sub.refl _,rfl,rfl,rfl,trivial⟩ ⟨rfl,by simp,rfl,hw,Nat.le_refl _⟩ fun p u ⟨g1,g2,g3,g4,g5⟩=>?_
 refine brS (fun hlt=>?_) (fun hlt=>?_)
 ·have hne:(piL u).length≠0:=by rw [g1,List.length_append] at hn;omega
  have hk:u.kind=5/\u.args.length=2:=Classical.not_not.1 fun h=>hne (by rw [(z2t h).1];rfl)
  obtain ⟨x,y,ha⟩:=z3d hk.2
  have hx:=z1h (t:=u) (a:=x) (by rw [ha];simp)
  have hy:=z1h (t:=u) (a:=y) (by rw [ha];simp)
  have e1:(encTs u.args)[1]?=some (rowT y):=by rw [ha];simp [encTs,z3v]
  have e0:(encTs u.args)[0]?=some (rowT x):=by rw [ha];simp [encTs,z3v]
  have hp:=z2d hk.1 ha
  have w:=zf g4
  have hpl:(piL t).length=p.length+(piL u).length:=by rw [g1];simp
  refine idxN (i:=0) e0 (call0 (z1k x (.of (w.sub x (by rw [ha];simp)) hb (by omega))) (app1 (by simp;omega) (by simp;omega) (idxN (i:=1) e1 (And.intro (by omega) ?_))))
  refine ⟨p++[x],y,⟨by rw [g1,hp.1];simp,by simp;omega,?_,w.sub y (by rw [ha];simp),by omega⟩,by omega,Sub.i (by simp),Sub.tse (z1f _ _),rfl,ar_eq (by simp),rfl,trivial⟩
  rw [<- g3,show n-p.length=(n-(p++[x]).length)+1 by simp;omega,hp.2.2]
 ·have hpn:p.length=n:=by omega
  rw [hpn,Nat.sub_self] at g3
  have g3':u=piD n t:=g3
  refine call0 (z1k u (.of g4 hb (by omega))) ⟨?_,rfl⟩
  rw [g1,<- hpn,List.take_left,hpn,<- g3'];rfl
theorem zq9 (t:Trm) (n:Nat) (hn:n<=(piL t).length) (hd:dpT t<=1000000000000):PCon Tryz.prog 184 [tv t,.p (I n)] (tv (piD n t)):=by
 have hpd:=z3y t
 refine cv [] [] [] Tryz.func184 16 Tryz.ntmps184 rfl rfl fun cx hE=>?_
 refine loop2 (fun (i:Nat) (u:Trm)=>[(5,.p (I i))]) (fun i u=>[(2,ceT u)]) (fun i u=>i<=n/\n<=i+(piL u).length/\piD (n-i) u=piD n t) (fun i u=>n-i) 0 t [5] [2] hE rfl rfl rfl ⟨Sub.refl _,rfl,rfl,trivial⟩ ⟨by omega,by omega,rfl⟩ fun i u ⟨g1,g2,g3⟩=>?_
 refine brS (fun hlt=>?_) (fun hlt=>?_)
 ·have hk:u.kind=5/\u.args.length=2:=Classical.not_not.1 fun h=>by rw [(z2t h).1] at g2;simp at g2;omega
  obtain ⟨x,y,ha⟩:=z3d hk.2
  have e1:(encTs u.args)[1]?=some (rowT y):=by rw [ha];simp [encTs,z3v]
  have hp:=z2d hk.1 ha
  rw [hp.1] at g2
  refine idxN (i:=1) e1 (And.intro (by omega) ⟨i+1,y,⟨by omega,by simp at g2;omega,?_⟩,by omega,Sub.i (by simp),rfl,rfl,trivial⟩)
  rw [<- g3,show n-i=(n-(i+1))+1 by omega,hp.2.2]
 ·rw [show n-i=0 by omega] at g3
  exact ⟨by rw [<- g3];rfl,rfl⟩
theorem zsr (xs:List Trm) (t:Trm) (ht:Cp t) (hx:∀ x∈xs,Cp x) (hl:xs.length<=1000000000000):PCon Tryz.prog 186 [.p (.sl 5 (encTs xs)),tv t] (tv (lamsT xs t)):=by
 refine cv [] [] [] Tryz.func186 23 Tryz.ntmps186 rfl rfl fun cx hE=>call0 (z1k t ht) (fun _=>And.intro (by omega) ?_)
 refine loop1 (fun (k:Nat)=>[(6,.p (I ((k:Int)-1)))]) (fun k=>[(5,ceT (lamsT (xs.drop k) t))]) (fun k=>k<=xs.length) (fun k=>k) xs.length [6] [5] hE rfl rfl rfl ⟨Sub.i (by simp),by rw [List.drop_length];rfl,rfl,rfl,trivial⟩ (Nat.le_refl _) fun k hk=>?_
 refine brS (fun h0=>?_) (fun h0=>?_)
 ·obtain ⟨j,rfl⟩:∃ j,k=j+1:=⟨k-1,by omega⟩
  have hj:xs[j]?=some (xs[j]'(by omega)):=List.getElem?_eq_getElem (by omega)
  have e:(encTs xs)[j]?=some (rowT (xs[j]'(by omega))):=by rw [zb,List.getElem?_map,hj];rfl
  have hi:((j+1:Nat):Int)-1=(j:Nat):=by omega
  have hld:=zf7 hj t
  rw [hi]
  refine idxN e (call0 (z9h _ _ (hx _ (List.getElem_mem _))) (And.intro (by omega) ⟨j,by omega,by omega,Sub.i rfl,?_,rfl,rfl,trivial⟩))
  rw [hld];rfl
 ·obtain rfl:k=0:=by omega
  exact ⟨rfl,rfl⟩
theorem zss (n:Nat) (hn:n<=1000000000000):PCon Tryz.prog 185 [.p (I n),.p (I 0)] (.p (.sl 5 (encTs (varsT n)))):=by
 refine cv [] [] [] Tryz.func185 23 Tryz.ntmps185 rfl rfl fun cx hE=>And.intro (by omega) ?_
 refine tokV 5 500 35 5 hE rfl rfl rfl ?_
 refine loop2 (fun (k:Nat) (p:List Trm)=>[(6,.p (I ((k:Int)-1))),(5,.ts 500 5 (encTs p))]) (fun k p=>[(500,.ar 35 5 (encTs p).length)]) (fun k p=>k<=n/\p.length+k=n/\p++varsT k=varsT n) (fun k p=>k) n [] [6,5] [500] hE rfl rfl rfl ⟨Sub.i (by omega),Sub.refl _,rfl,trivial⟩ ⟨Nat.le_refl _,by simp,rfl⟩ fun k p ⟨g1,g2,g3⟩=>?_
 refine brS (fun h0=>?_) (fun h0=>?_)
 ·obtain ⟨j,rfl⟩:∃ j,k=j+1:=⟨k-1,by omega⟩
  have hi:max 0 0+(((j+1:Nat):Int)-1)=(j:Nat):=by omega
  refine And.intro (by omega) (call0 (z9g _) (app1 (by simp;omega) (by simp;omega) (And.intro (by omega) ?_)))
  rw [hi]
  refine ⟨j,p++[mkV j],⟨by omega,by simp;omega,by rw [<- g3];simp [varsT]⟩,by omega,Sub.i (by omega),Sub.tse (z1f p (mkV j)),ar_eq (by simp),trivial⟩
 ·obtain rfl:k=0:=by omega
  exact ⟨by rw [<- g3];simp [varsT],rfl⟩
def cpM (t:Trm):AV:=.ag [.p (I t.kind),.p (I t.n),.p (St t.name),.p (.sl 3 (encLs t.levels)),.tm 500 t.args.length]
theorem zqa (b:Int) (hb:b<=1152921504606846976) (t:Trm) (hd:dpT t<=1152921504606846975) (hw:wfT b t=true):Con Tryz.prog 99 [tv t,.p (I 0),.p (I 0)] [] (fun r o=>r=cpM t/\o=[(500,.mu 35 5 t.args.length (encTs t.args))]):=by
 have w:=zf hw
 have hfew:=w.few_args
 have hn1:=w.n1
 have hn0:=w.n0
 refine cv [] [1000002] [500] Tryz.func99 51 Tryz.ntmps99 rfl rfl fun cx hE=>call0 (z9d t w.few w.nar) ?_
 refine join0 [] [(7,.ce 35 [.p (I t.kind),.p (I t.n),.p (St t.name),.p (.sl 3 (encLs t.levels)),.p nilS])] [] [7] [] hE rfl rfl rfl ?_ ?_
 ·refine brS (fun h1=>brS (fun h2=>And.intro (by omega) ?_) (fun h2=>?_)) (fun h1=>?_)
  ·exact ⟨by rw [Int.add_zero],rfl,rfl,trivial⟩
  ·exact ⟨rfl,rfl,rfl,trivial⟩
  ·exact ⟨rfl,rfl,rfl,trivial⟩
 ·refine tokOM 7 4 500 35 5 hE rfl rfl rfl rfl rfl ?_
  refine loopP t.args (fun p=>[(8,.p (I p.length))]) (fun p=>[(7,.ce 35 [.p (I t.kind),.p (I t.n),.p (St t.name),.p (.sl 3 (encLs t.levels)),.tm 500 p.length]),(500,.mu 35 5 p.length (encTs p))]) (fun _=>True) [8] [7,500] hE rfl rfl rfl ⟨Sub.refl _,rfl,rfl,rfl,rfl,trivial⟩ trivial (fun _=>fun _=>brTe ⟨rfl,rfl⟩) (fun p a q hl _=>?_)
  have:=zj hl
  have hbd:=z5w t.kind p.length
  have hda:=z1h (zg hl)
  have hp:=z9e 0 b (by omega) (by omega) hb a (0+bndF t.kind p.length) (by omega) (by omega) (w.sub a (zg hl))
  rw [z5h] at hp
  have e:Ob.mu 35 5 (p.length+1) (encTs p++[[I a.kind,I a.n,St a.name,.sl 3 (encLs a.levels),.sl 5 (encTs a.args)]])=.mu 35 5 (p++[a]).length (encTs (p++[a])):=by rw [z1f];simp
  refine fun _=>brT' hl (idxT hl (call0 (z4g _ _) (And.intro (by omega) (call0 hp (app2 (by simp) (by simp;omega) (by simp;omega) (And.intro (by omega) ?_))))))
  exact ⟨trivial,Sub.i (by simp),by simp,e,rfl,rfl,trivial⟩
theorem zfa (b:Int) (hb:b<=1152921504606846976) (t:Trm) (hd:dpT t<=1152921504606846975) (hw:wfT b t=true):Con Tryz.prog 51 [tv t] [] (fun r o=>r=cpM t/\o=[(500,.mu 35 5 t.args.length (encTs t.args))]) :=
 cv [] [] [500] Tryz.func51 5 Tryz.ntmps51 rfl rfl fun cx hE=>callX [] (zqa b hb t hd hw) rfl rfl (za _) fun r o ⟨e1,e2⟩=>by subst e1 e2;exact ⟨rfl,rfl⟩
theorem zj6 (vs:List Trm) (hvl:vs.length<=1000000000000) (hv:∀ v∈vs,Cp v/\dpT v<=1000000000000000000) (b:Int) (hb:b<=1152921504606846976) (t:Trm):∀ at_:Int,0<=at_->at_+dpT t<=1073741824->wfT b t=true->PCon Tryz.prog 216 [tv t,.p (.sl 5 (encTs vs)),.p (I at_)] (tv (opnT vs t at_)):=by
 intro at_ h0 h1 hw
 have w:=zf hw
 have ih:∀ a∈t.args,∀ f:Int,0<=f->f+dpT a<=1073741824->PCon Tryz.prog 216 [tv a,.p (.sl 5 (encTs vs)),.p (I f)] (tv (opnT vs a f)):=fun a ha f g0 g1=>zj6 vs hvl hv b hb a f g0 g1 (w.sub a ha)
 have hfew:=w.few_args
 have hn1:=w.n1
 have hn0:=w.n0
 have hpos:1<=dpT t:=by rw [z5g];omega
 have hvn:=zc vs
 refine cv [] [1000001,1000007] [] Tryz.func216 70 Tryz.ntmps216 rfl rfl fun cx hE=>?_
 refine join1 (A:=Unit) (fun _=>[]) (fun _=>[]) (fun _=>¬ (t.kind=0/\at_<=t.n)) [] [] [] hE rfl rfl rfl ?_ (fun _ hn=>?_)
 ·refine brS (fun hk=>brS (fun he=>And.intro (by omega) (fun _=>brS (fun hg=>?_) (fun hg=>fun _=>And.intro (by omega) (call0 (z9g _) ⟨?_,rfl⟩)))) (fun he=>⟨(),by omega,leX.same ⟨rfl,rfl,trivial⟩⟩)) (fun hk=>⟨(),by omega,leX.same ⟨rfl,rfl,trivial⟩⟩)
  ·have hi:(vs.length:Int)-1-(t.n-at_)=((vs.length-1-(t.n-at_).toNat:Nat):Int):=by omega
   have hlt:vs.length-1-(t.n-at_).toNat<vs.length:=by omega
   have hgt:vs[vs.length-1-(t.n-at_).toNat]?=some (vs.getD (vs.length-1-(t.n-at_).toNat) ⟨0,0,⟨#[]⟩,[],[]⟩):=by simp [List.getD_eq_getElem?_getD,hlt]
   have hm:=List.mem_of_getElem? hgt
   refine fun _=>And.intro (by omega) (And.intro (by omega) ?_)
   rw [hvn,hi]
   refine idxN (row:=rowT (vs.getD (vs.length-1-(t.n-at_).toNat) ⟨0,0,⟨#[]⟩,[],[]⟩)) (by rw [zb,List.getElem?_map,hgt];rfl) (call0 (z9f _ (hv _ hm).1 at_ h0 (by omega) 0 (by omega) (by omega) (hv _ hm).2) ⟨?_,rfl⟩)
   rw [zh0 hw at_ hk (by omega),if_pos (by omega)];rfl
  ·rw [zh0 hw at_ hk (by omega),if_neg (by omega),hvn];rfl
 ·rw [zsg hw at_ hn]
  refine callX [] (zfa b hb t (by omega) hw) rfl rfl (za _) fun r o ⟨e1,e2⟩=>?_
  subst e1 e2
  have hln:=z2k (opnV vs) t.kind t.args 0 at_
  refine join1 (A:=Unit) (fun _=>[]) (fun _=>[(8,ceT ⟨t.kind,t.n,t.name,t.levels,trvTs (opnV vs) t.kind t.args 0 at_⟩)]) (fun _=>True) [] [8,500] [] hE rfl rfl rfl ?_ (fun _ _=>⟨rfl,rfl⟩)
  refine loopP t.args (fun p=>[(9,.p (I p.length))]) (fun p=>[(500,.mu 35 5 t.args.length (encTs (trvTs (opnV vs) t.kind p 0 at_++t.args.drop p.length)))]) (fun _=>True) [9] [500] hE rfl rfl rfl ⟨Sub.refl _,rfl,rfl,rfl,rfl,trivial⟩ trivial (fun _=>fun _=>brTe ⟨(),trivial,leX.by (Le.muPC 8 4 500 rfl rfl rfl rfl rfl) (leX.same ⟨?_,rfl,rfl,trivial⟩)⟩) (fun p a q hl _=>?_)
  ·rw [List.drop_length,List.append_nil];rfl
  ·have hlt:=zj hl
   have hbd:=z5w t.kind p.length
   have hda:=z1h (zg hl)
   have hsn:=z6x (opnV vs) t.kind p a at_
   have hlen:=z2k (opnV vs) t.kind p 0 at_
   have hdr:t.args.drop p.length=a::q:=by rw [hl];simp
   have hdr2:t.args.drop (p++[a]).length=q:=by rw [hl];simp
   have hml:(encTs (trvTs (opnV vs) t.kind p 0 at_++t.args.drop p.length)).length=t.args.length:=by rw [zc,List.length_append,hlen,List.length_drop];omega
   refine fun _=>brT' hl (idxT hl (call0 (z4g _ _) (And.intro (by omega) (call0 (ih a (zg hl) (at_+bndF t.kind p.length) (by omega) (by omega)) (And.intro (by omega) (And.intro (by rw [hml];omega) (pst1 (i:=p.length) (by rw [hml];exact hlt) (And.intro (by omega) ?_))))))))
   refine ⟨trivial,Sub.i (by simp),?_,rfl,rfl,rfl,trivial⟩
   have:(encTs (trvTs (opnV vs) t.kind p 0 at_++t.args.drop p.length)).set p.length (rowT (opnT vs a (at_+bndF t.kind p.length)))=encTs (trvTs (opnV vs) t.kind (p++[a]) 0 at_++t.args.drop (p++[a]).length):=by
    rw [hsn,hdr,hdr2]
    simp only [zb,List.map_append,List.map_cons,List.append_assoc]
    rw [List.set_append_right _ _ (by simp [hlen])]
    simp [hlen,opnT]
   exact congrArg (Ob.mu 35 5 t.args.length) this
termination_by SizeOf.sizeOf t
decreasing_by exact Trm.lt ha
theorem zst (vs:List Trm) (hvl:vs.length<=1000000000000) (hv:∀ v∈vs,Cp v/\dpT v<=1000000000000000000) (b:Int) (hb:b<=1152921504606846976) (t:Trm) (hd:dpT t<=1073741824) (hw:wfT b t=true):PCon Tryz.prog 183 [tv t,.p (.sl 5 (encTs vs))] (tv (opnT vs t 0)) :=
 cv [] [] [] Tryz.func183 8 Tryz.ntmps183 rfl rfl fun cx hE=>call0 (zj6 vs hvl hv b hb t 0 (by omega) (by omega) hw) ⟨rfl,rfl⟩
structure CpD (d:Dcl):Prop where
 t:Cp d.type
 v:Cp d.value
 n:d.ctors.length<=1000000000000
 c:∀ c∈d.ctors,Cp c.ty
theorem zal (d:Dcl) (h:CpD d):PCon Tryz.prog 111 [dv d] (dv d):=by
 refine cv [] [] [] Tryz.func111 40 Tryz.ntmps111 rfl rfl fun cx hE=>call0 (z1k d.type h.t) (call0 (z1k d.value h.v) ?_)
 have hn:=h.n
 refine tokV 3 500 156 6 hE rfl rfl rfl ?_
 refine loopP d.ctors (fun p=>[(4,.p (I p.length)),(3,.ts 500 6 (encCs p))]) (fun p=>[(500,.ar 156 6 (encCs p).length)]) (fun _=>True) [4,3] [500] hE rfl rfl rfl ⟨Sub.refl _,Sub.refl _,rfl,rfl,rfl,trivial⟩ trivial (fun _=>fun _=>brOut (by simp) ⟨rfl,rfl⟩) (fun p a q hl _=>?_)
 have:=zj hl
 refine fun _=>brIn (by simp [hl]) (idxN (z1w (f:=rowC) hl) (idxN (z1w (f:=rowC) hl) (call0 (z1k a.ty (h.c a (zg hl))) (app1 (by simp;omega) (by simp;omega) (And.intro (by omega) ?_)))))
 exact ⟨trivial,Sub.i (by simp),Sub.tse (by simp [encCs,rowC]),ar_eq (by simp),rfl,rfl,trivial⟩
def mv (f c:Int):AV:=.ag [.p (I f),.p (I c)]
def stepF (f c:Int):AV:=.tp [mv (if f<=0 then f else f-1) c,.p (I (if f<=0 then 11 else 0))]
theorem zsu (f c:Int) (h0:-1000000000000<=f) (h1:f<=1000000000000):PCon Tryz.prog 84 [mv f c] (stepF f c):=by
 refine cv [] [] [] Tryz.func84 13 Tryz.ntmps84 rfl rfl fun cx hE=>brS (fun h=>⟨?_,rfl⟩) (fun h=>And.intro (by omega) ⟨?_,rfl⟩)
 ·unfold stepF;rw [if_pos h,if_pos h];rfl
 ·unfold stepF;rw [if_neg h,if_neg h];rfl
theorem zsv (f c:Int) (h0:-1000000000000<=f) (h1:f<=1000000000000):PCon Tryz.prog 165 [mv f c] (stepF f c):=by
 refine cv [] [] [] Tryz.func165 13 Tryz.ntmps165 rfl rfl fun cx hE=>brS (fun h=>⟨?_,rfl⟩) (fun h=>And.intro (by omega) ⟨?_,rfl⟩)
 ·unfold stepF;rw [if_pos h,if_pos h];rfl
 ·unfold stepF;rw [if_neg h,if_neg h];rfl
theorem zam (l:Lvl):∀ most:Int,0<=most->most<=1000000->PCon Tryz.prog 100 [lv l,.p (I most)] (.p (I (min (prtL l:Int) (most+1)))):=by
 intro most h0 h1
 have ih:∀ a∈l.args,∀ m:Int,0<=m->m<=1000000->PCon Tryz.prog 100 [lv a,.p (I m)] (.p (I (min (prtL a:Int) (m+1)))):=fun a ha m h0 h1=>zam a m h0 h1
 have he:=zh1 l
 refine cv [] [] [] Tryz.func100 34 Tryz.ntmps100 rfl rfl fun cx hE=>?_
 refine loopP l.args (fun p=>[(6,.p (I p.length)),(5,.p (I (min ((prtLs p:Int)+1) (most+1))))]) (fun p=>[]) (fun _=>True) [6,5] [] hE rfl rfl rfl ⟨Sub.refl _,Sub.i (by simp [prtLs];omega),rfl,trivial⟩ trivial (fun _=>fun _=>brLe (And.intro (by omega) ⟨I_eq (by omega),rfl⟩)) (fun p a q hq _=>fun _=>brL hq (brS (fun hc=>?_) (fun hc=>And.intro (by omega) ⟨I_eq ?_,rfl⟩)))
 ·have:=zj hq
  have hel:=zq l.args
  have hpos:=zwz a
  refine idxL hq (And.intro (by omega) (call0 (ih a (zg hq) _ (by omega) (by omega)) (And.intro (by omega) (And.intro (by omega) ⟨trivial,Sub.i (by simp),Sub.i (by rw [zsi];omega),rfl,trivial⟩))))
 ·have:=zsk hq
  omega
termination_by SizeOf.sizeOf l
decreasing_by exact Lvl.lt ha
theorem zj7 (l:Lvl):∀ most:Int,0<=most->most<=1000000->PCon Tryz.prog 194 [lv l,.p (I most)] (.p (I (min (depL l:Int) (most+1)))):=by
 intro most h0 h1
 have ih:∀ a∈l.args,∀ m:Int,0<=m->m<=1000000->PCon Tryz.prog 194 [lv a,.p (I m)] (.p (I (min (depL a:Int) (m+1)))):=fun a ha m h0 h1=>zj7 a m h0 h1
 have he:=zh2 l
 have hp:=zx0 l
 refine cv [] [] [] Tryz.func194 30 Tryz.ntmps194 rfl rfl fun cx hE=>brS (fun hz=>And.intro (by omega) ⟨I_eq (by omega),rfl⟩) (fun hz=>?_)
 refine loopP l.args (fun p=>[(6,.p (I p.length)),(5,.p (I (min (depLs p:Int) most)))]) (fun p=>[]) (fun _=>True) [6,5] [] hE rfl rfl rfl ⟨Sub.refl _,Sub.i (by simp [depLs];omega),rfl,trivial⟩ trivial (fun _=>fun _=>brLe (And.intro (by omega) ⟨I_eq (by omega),rfl⟩)) (fun p a q hq _=>fun _=>brL hq (idxL hq (And.intro (by omega) (call0 (ih a (zg hq) _ (by omega) (by omega)) (And.intro ?_ ⟨trivial,Sub.i (by simp),Sub.i (by rw [zsj];omega),rfl,trivial⟩)))))
 have:=zj hq
 have hel:=zq l.args
 omega
termination_by SizeOf.sizeOf l
decreasing_by exact Lvl.lt ha
theorem zde (t:Trm):PCon Tryz.prog 149 [tv t] (.p (B (smlT t))):=by
 have ih:∀ a∈t.args,PCon Tryz.prog 149 [tv a] (.p (B (smlT a))):=fun a ha=>zde a
 have he:=zls t
 rw [z9c] at he
 have hel:=zq t.levels
 have het:=zc t.args
 refine cv [] [] [] Tryz.func149 42 Tryz.ntmps149 rfl rfl fun cx hE=>?_
 refine loopP t.levels (fun p=>[(3,.p (I p.length))]) (fun p=>[]) (fun p=>p.all smlL=true) [3] [] hE rfl rfl rfl ⟨Sub.refl _,rfl,trivial⟩ rfl (fun hp=>fun _=>brLe ?_) (fun p a q hq hp=>fun _=>brL hq (idxL hq (call0 (zam a 64 (by omega) (by omega)) (brS (fun h1=>⟨B_eq ?_,rfl⟩) (fun h1=>idxL hq (call0 (zj7 a 32 (by omega) (by omega)) (brS (fun h2=>⟨B_eq ?_,rfl⟩) (fun h2=>And.intro (by have:=zj hq;omega) ⟨?_,Sub.i (by simp),rfl,trivial⟩))))))))
 ·refine loopP t.args (fun p=>[(4,.p (I p.length))]) (fun p=>[]) (fun p=>p.all smlT=true) [4] [] hE rfl rfl rfl ⟨Sub.refl _,rfl,trivial⟩ rfl (fun hq=>fun _=>brTe ⟨B_eq (by rw [he,hp,hq];rfl),rfl⟩) (fun p a q hl hq=>fun _=>brT' hl (idxT hl (call0 (ih a (zg hl)) (brB (fun hb=>⟨B_eq ?_,rfl⟩) (fun hb=>And.intro (by have:=zj hl;omega) ⟨?_,Sub.i (by simp),rfl,trivial⟩)))))
  ·have hb':smlT a=false:=by simpa using hb
   rw [he,hl];simp [hb']
  ·have hb':smlT a=true:=by simpa using hb
   rw [List.all_append,hq];simp [hb']
 ·have:smlL a=false:=by unfold smlL;simp;omega
  rw [he,hq];simp [this]
 ·have:smlL a=false:=by unfold smlL;simp;omega
  rw [he,hq];simp [this]
 ·have:smlL a=true:=by unfold smlL;simp;omega
  rw [List.all_append,hp];simp [this]
termination_by SizeOf.sizeOf t
decreasing_by exact Trm.lt ha
def fitsE (c:Int) (t:Trm):Int:=if fitsT c t=true then 0 else 12
theorem zsw (f c:Int) (t:Trm) (h0:-1000000<=c) (h1:c<=1000000):PCon Tryz.prog 108 [mv f c,tv t] (.p (I (fitsE c t))):=by
 refine cv [] [] [] Tryz.func108 19 Tryz.ntmps108 rfl rfl fun cx hE=>call0 (zd9 t (max c 0) (by omega) (by omega)) (brS (fun h=>⟨I_eq ?_,rfl⟩) (fun h=>call0 (zde t) (brB (fun hb=>⟨I_eq ?_,rfl⟩) (fun hb=>⟨I_eq ?_,rfl⟩))))
 ·unfold fitsE fitsT;unfold mSz at h;rw [if_neg (by simp;omega)]
 ·have hb':smlT t=false:=by simpa using hb
  unfold fitsE fitsT;rw [hb'];simp
 ·have hb':smlT t=true:=by simpa using hb
  unfold fitsE fitsT;unfold mSz at h;rw [hb',if_pos (by simp;omega)]
theorem zfb (l:Lvl):∀ d p:Int,0<=d->d<=1000->0<=p->p<=64->Con Tryz.prog 212 [lv l,.p (I d),.ptr 1000 0] [(1000,.ce 3 [.p (I p)])] (fun r o=>r=.p (B (smlC l d p).1)/\o=[(1000,.ce 3 [.p (I (smlC l d p).2)])]):=by
 intro d p hd0 hd1 hp0 hp1
 have ih:∀ a∈l.args,∀ d p:Int,0<=d->d<=1000->0<=p->p<=64->Con Tryz.prog 212 [lv a,.p (I d),.ptr 1000 0] [(1000,.ce 3 [.p (I p)])] (fun r o=>r=.p (B (smlC a d p).1)/\o=[(1000,.ce 3 [.p (I (smlC a d p).2)])]):=fun a ha d p g0 g1 g2 g3=>zfb a d p g0 g1 g2 g3
 have he:=zsh l d p
 have hel:=zq l.args
 refine cv [] [] [1000] Tryz.func212 36 Tryz.ntmps212 rfl rfl fun cx hE=>And.intro (by omega) (brS (fun h1=>?_) (fun h1=>brS (fun h2=>?_) (fun h2=>fun hl=>?_)))
 ·rw [if_pos (.inl h1)] at he;exact ⟨by rw [he],by rw [he]⟩
 ·rw [if_pos (.inr h2)] at he;exact ⟨by rw [he],by rw [he]⟩
 rw [if_neg (by omega)] at he
 refine loopP l.args (fun q=>[(25,.p (I q.length))]) (fun q=>[(1000,.ce 3 [.p (I (smlCs q (d+1) (p+1)).2)])]) (fun q=>(smlCs q (d+1) (p+1)).1=true/\0<=(smlCs q (d+1) (p+1)).2/\(smlCs q (d+1) (p+1)).2<=64) [25] [1000] hE rfl rfl rfl ⟨Sub.refl _,rfl,rfl,trivial⟩ ⟨rfl,by simp only [smlCs];omega,by simp only [smlCs];omega⟩ (fun hq=>brLe ⟨by rw [he,hq.1],by rw [he]⟩) (fun q a s hq hinv=>?_)
 obtain ⟨g1,g2,g3⟩:=hinv
 have hap:=fun x=>zj3 q x (d+1) (p+1) g1
 have hle:=zz08 a (d+1) (smlCs q (d+1) (p+1)).2 g2 g3
 have hlt:=zj hq
 refine brL hq (idxL hq (And.intro (by omega) (call1 [1000] (ih a (zg hq) (d+1) _ (by omega) (by omega) g2 g3) rfl rfl (za _) (brB (fun hb=>?_) (fun hb=>And.intro (by omega) ?_)))))
 ·have hb':(smlC a (d+1) (smlCs q (d+1) (p+1)).2).1=false:=by simpa using hb
  have e:smlCs (q++a::s) (d+1) (p+1)=(false,(smlC a (d+1) (smlCs q (d+1) (p+1)).2).2):=by rw [hap];simp only [smlCs,hb'];rfl
  rw [he,hq,e]
  exact ⟨rfl,rfl⟩
 ·have hb':(smlC a (d+1) (smlCs q (d+1) (p+1)).2).1=true:=by simpa using hb
  have hn:smlCs (q++[a]) (d+1) (p+1)=(true,(smlC a (d+1) (smlCs q (d+1) (p+1)).2).2):=by rw [hap];simp only [smlCs,hb',if_true]
  rw [hn]
  exact ⟨⟨rfl,hle.1,hle.2 hb'⟩,Sub.i (by simp),rfl,rfl,trivial⟩
termination_by SizeOf.sizeOf l
decreasing_by exact Lvl.lt ha
theorem zdf (t:Trm):PCon Tryz.prog 173 [tv t] (.p (B (smlT t))):=by
 have ih:∀ a∈t.args,PCon Tryz.prog 173 [tv a] (.p (B (smlT a))):=fun a ha=>zdf a
 have he:=zls t
 rw [z9c] at he
 have hel:=zq t.levels
 have het:=zc t.args
 refine cv [] [] [] Tryz.func173 30 Tryz.ntmps173 rfl rfl fun cx hE=>fun _=>?_
 refine loopP t.levels (fun p=>[(11,.p (I p.length))]) (fun p=>[]) (fun p=>p.all smlL=true) [11] [] hE rfl rfl rfl ⟨Sub.refl _,rfl,trivial⟩ rfl (fun hp=>brLe (fun _=>?_)) (fun p a q hq hp=>brL hq (idxL hq (callX [5] ((zfb a 1 0 (by omega) (by omega) (by omega) (by omega)).sw 1000 5) rfl rfl (za _) fun r o ⟨_,_,⟨e1,e2⟩,e3,e4⟩=>?_)))
 ·refine loopP t.args (fun p=>[(22,.p (I p.length))]) (fun p=>[]) (fun p=>p.all smlT=true) [22] [] hE rfl rfl rfl ⟨Sub.refl _,rfl,trivial⟩ rfl (fun hq=>brTe ⟨B_eq (by rw [he,hp,hq];rfl),rfl⟩) (fun p a q hl hq=>brT' hl (idxT hl (call0 (ih a (zg hl)) (brB (fun hb=>⟨B_eq ?_,rfl⟩) (fun hb=>And.intro (by have:=zj hl;omega) ⟨?_,Sub.i (by simp),rfl,trivial⟩)))))
  ·have hb':smlT a=false:=by simpa using hb
   rw [he,hl];simp [hb']
  ·have hb':smlT a=true:=by simpa using hb
   rw [List.all_append,hq];simp [hb']
 ·subst e1 e2 e3 e4
  refine brB (fun hb=>⟨B_eq ?_,rfl⟩) (fun hb=>And.intro (by have:=zj hq;omega) ⟨?_,Sub.i (by simp),rfl,trivial⟩)
  ·have hb':smlL a=false:=by rw [<- zns];simpa using hb
   rw [he,hq];simp [hb']
  ·have hb':smlL a=true:=by rw [<- zns];simpa using hb
   rw [List.all_append,hp];simp [hb']
termination_by SizeOf.sizeOf t
decreasing_by exact Trm.lt ha
theorem zj8 (t:Trm):∀ (n most:Int),0<=n->n<=most->most<=1000000->Con Tryz.prog 211 [tv t,.ptr 1000 0,.p (I most)] [(1000,.ce 3 [.p (I n)])] (fun r o=>r=.tp []/\o=[(1000,.ce 3 [.p (I (min (n+sizT t) (most+1)))])]):=by
 intro n most h0 h1 h2
 have ih:∀ a∈t.args,∀ (n:Int),0<=n->n<=most->Con Tryz.prog 211 [tv a,.ptr 1000 0,.p (I most)] [(1000,.ce 3 [.p (I n)])] (fun r o=>r=.tp []/\o=[(1000,.ce 3 [.p (I (min (n+sizT a) (most+1)))])]):=fun a ha n g0 g1=>zj8 a n most g0 g1 h2
 have he:=z6k t
 have hel:=zc t.args
 refine cv [] [] [1000] Tryz.func211 35 Tryz.ntmps211 rfl rfl fun cx hE=>And.intro (by omega) (brS (fun h3=>⟨rfl,O_eq (by omega)⟩) (fun h3=>fun _=>?_))
 refine loopP t.args (fun q=>[(21,.p (I q.length))]) (fun q=>[(1000,.ce 3 [.p (I (n+1+sizTs q))])]) (fun q=>n+1+sizTs q<=most) [21] [1000] hE rfl rfl rfl ⟨Sub.refl _,by simp [sizTs],rfl,trivial⟩ (by simp [sizTs];omega) (fun hq=>brTe ⟨rfl,O_eq (by omega)⟩) (fun q a s hq hinv=>?_)
 have hlt:=zj hq
 have hm:=zd8 hq
 have hap:=ziz q a
 refine brT' hq (idxT hq (call1 [1000] (ih a (zg hq) _ (by omega) hinv) rfl rfl (za _) (brS (fun hb=>⟨rfl,O_eq (by omega)⟩) (fun hb=>And.intro (by omega) ⟨by rw [hap];omega,Sub.i (by simp),?_,rfl,trivial⟩))))
 rw [hap];congr 4;omega
termination_by SizeOf.sizeOf t
decreasing_by exact Trm.lt ha
theorem zj9 (t:Trm) (most:Int) (h0:-1000000<=most) (h1:most<=1000000):PCon Tryz.prog 172 [tv t,.p (I most)] (.p (I (mSz t most))):=by
 refine cv [] [] [] Tryz.func172 11 Tryz.ntmps172 rfl rfl fun cx hE=>callX [5] ((zj8 t 0 (max most 0) (by omega) (by omega) (by omega)).sw 1000 5) rfl rfl (za _) fun r o ⟨_,_,⟨e1,e2⟩,e3,e4⟩=>?_
 subst e1 e2 e3 e4
 exact ⟨I_eq (by unfold mSz;omega),rfl⟩
theorem zsx (f c:Int) (t:Trm) (h0:-1000000<=c) (h1:c<=1000000):PCon Tryz.prog 125 [mv f c,tv t] (.p (I (fitsE c t))):=by
 refine cv [] [] [] Tryz.func125 19 Tryz.ntmps125 rfl rfl fun cx hE=>call0 (zj9 t (max c 0) (by omega) (by omega)) (brS (fun h=>⟨I_eq ?_,rfl⟩) (fun h=>call0 (zdf t) (brB (fun hb=>⟨I_eq ?_,rfl⟩) (fun hb=>⟨I_eq ?_,rfl⟩))))
 ·unfold fitsE fitsT;unfold mSz at h;rw [if_neg (by simp;omega)]
 ·have hb':smlT t=false:=by simpa using hb
  unfold fitsE fitsT;rw [hb'];simp
 ·have hb':smlT t=true:=by simpa using hb
  unfold fitsE fitsT;unfold mSz at h;rw [hb',if_pos (by simp;omega)]
theorem z3j (c:Int):PCon Tryz.prog 176 [.p (U8 c)] (.p (B (letF c))):=by
 refine cv [] [] [] Tryz.func176 17 Tryz.ntmps176 rfl rfl fun cx hE=>?_
 repeat' refine brS (fun _=>?_) (fun _=>?_)
 all_goals exact ⟨B_eq (by unfold letF;rw [Bool.eq_iff_iff];simp;omega),rfl⟩
theorem z7c (c:Int):PCon Tryz.prog 202 [.p (U8 c)] (.p (B (digF c))):=by
 refine cv [] [] [] Tryz.func202 9 Tryz.ntmps202 rfl rfl fun cx hE=>?_
 repeat' refine brS (fun _=>?_) (fun _=>?_)
 all_goals exact ⟨B_eq (by unfold digF;rw [Bool.eq_iff_iff];simp;omega),rfl⟩
theorem zja (s:ByteArray) (hs:s.size<=1000000000000):PCon Tryz.prog 160 [.p (St s)] (.p (I (nmF s))):=by
 refine cv [] [] [] Tryz.func160 59 Tryz.ntmps160 rfl rfl fun cx hE=>brS (fun hz=>?_) (fun hz=>And.intro (by omega) (call0 (z3j _) (brB (fun hl=>?_) (fun hl=>?_))))
 ·exact ⟨I_eq (by unfold nmF;rw [if_neg (by omega)];rfl),rfl⟩
 ·have hl':letF (bat s 0)=false:=by simpa using hl
  exact ⟨I_eq (by unfold nmF;rw [if_neg (by simp [hl'])];rfl),rfl⟩
 have hl':letF (bat s 0)=true:=by simpa using hl
 have hr:nmF s=nmL s s.size 1:=by unfold nmF;rw [if_pos ⟨by omega,hl'⟩]
 refine loop2 (fun (n g:Nat)=>[(3,.p (I n))]) (fun _ _=>[]) (fun n g=>n<=s.size/\s.size<=n+g/\nmL s g n=nmF s) (fun n g=>g) 1 s.size [3] [] hE rfl rfl rfl ⟨Sub.refl _,trivial⟩ ⟨by omega,by omega,hr.symm⟩ fun n g ⟨h1,h2,h3⟩=>?_
 have hb:(n:Int).toNat=n:=by omega
 have hb1:((n:Int)+1).toNat=n+1:=by omega
 refine brS (fun hlt=>?_) (fun hlt=>?_)
 ·obtain ⟨g,rfl⟩:∃ g',g=g'+1:=⟨g-1,by omega⟩
  simp only [nmL] at h3
  rw [if_pos (by omega)] at h3
  have next:nmL s g (n+1)=nmF s->(n+1<=s.size/\s.size<=n+1+g/\nmL s g (n+1)=nmF s):=fun h=>⟨by omega,by omega,h⟩
  refine And.intro (by omega) (call0 (z3j _) ?_)
  rw [hb]
  refine brB (fun e1=>?_) (fun e1=>?_)
  ·rw [if_pos (by simp [e1])] at h3;exact And.intro (by omega) ⟨n+1,g,next h3,by omega,Sub.i (by omega),trivial⟩
  refine And.intro (by omega) (call0 (z7c _) ?_)
  rw [hb]
  refine brB (fun e2=>?_) (fun e2=>?_)
  ·rw [if_pos (by simp [e2])] at h3;exact And.intro (by omega) ⟨n+1,g,next h3,by omega,Sub.i (by omega),trivial⟩
  refine And.intro (by omega) ?_
  rw [hb]
  refine brS (fun e3=>?_) (fun e3=>?_)
  ·rw [if_pos (by simp [e3])] at h3;exact And.intro (by omega) ⟨n+1,g,next h3,by omega,Sub.i (by omega),trivial⟩
  rw [if_neg (by simp [e1,e2,e3])] at h3
  refine And.intro (by omega) ?_
  rw [hb]
  refine brS (fun e4=>?_) (fun e4=>?_)
  ·refine And.intro (by omega) (brS (fun e5=>?_) (fun e5=>?_))
   ·refine And.intro (by omega) (And.intro (by omega) (call0 (z3j _) ?_))
    rw [hb1]
    refine brB (fun e6=>?_) (fun e6=>?_)
    ·rw [if_pos ⟨e4,by omega,e6⟩] at h3;exact And.intro (by omega) ⟨n+1,g,next h3,by omega,Sub.i (by omega),trivial⟩
    ·rw [if_neg (by simp [e6])] at h3;exact ⟨I_eq (by rw [<- h3]),rfl⟩
   ·rw [if_neg (by omega)] at h3;exact ⟨I_eq (by rw [<- h3]),rfl⟩
  ·rw [if_neg (by simp [e4])] at h3;exact ⟨I_eq (by rw [<- h3]),rfl⟩
 ·have:nmL s g n=n:=by
   cases g with
   | zero=>rfl
   | succ g=>simp only [nmL];rw [if_neg (by omega)]
  exact ⟨I_eq (by rw [<- h3,this]),rfl⟩
theorem zdg (s:ByteArray) (hs:s.size<=1000000000000):PCon Tryz.prog 112 [.p (St s)] (.p (B (mayF s))):=by
 rw [zz09]
 refine cv [] [] [] Tryz.func112 18 Tryz.ntmps112 rfl rfl fun cx hE=>brS (fun h1=>brS (fun h2=>call0 (zja s hs) ⟨B_eq (by rw [Bool.eq_iff_iff];simp;omega),rfl⟩) (fun h2=>⟨B_eq (by rw [Bool.eq_iff_iff];simp;omega),rfl⟩)) (fun h1=>⟨B_eq (by rw [Bool.eq_iff_iff];simp;omega),rfl⟩)
def refE (k:Nat) (L:List Dcl) (b:Int):Obs:=[(k,.ce 28 [.ts (k+1) 16 (encDs L),.p (I b)]),(k+1,.ar 89 16 (encDs L).length)]
theorem zlt {z:List Dcl} {s:ByteArray}:∀ {p q:List Dcl},ixD p s=none->ixD (p++q) s=(ixD q s).map (·+p.length)
 | [],q,_=>by cases h:ixD q s<;>simp [h]
 | d :: p,q,h=>by
   simp only [ixD] at h
   split at h
   ·cases h
   ·rename_i hne
    have hp:ixD p s=none:=by cases hx:ixD p s with
     | none=>rfl
     | some i=>rw [hx] at h;cases h
    simp only [List.cons_append,ixD,if_neg hne,zlt (z:=z) hp]
    cases ixD q s with
    | none=>rfl
    | some i=>simp;omega
def atF (L:List Dcl) (s:ByteArray):Int:=((ixD L s).map fun i=>(i:Int)).getD (-1)
theorem zz0b {L p q:List Dcl} {a:Dcl} {s:ByteArray} (h:L=p++a::q) (hp:ixD p s=none) (ha:a.name=s):atF L s=p.length:=by
 unfold atF;rw [h,zlt (z:=[]) hp];simp [ixD,ha]
theorem zx1 {p:List Dcl} {a:Dcl} {s:ByteArray} (hp:ixD p s=none) (ha:¬ a.name=s):ixD (p++[a]) s=none:=by
 rw [zlt (z:=[]) hp];simp [ixD,ha]
theorem zsy (L:List Dcl) (b:Int) (s:ByteArray) (hl:L.length<=1000000000000):Con Tryz.prog 113 [.ptr 1000 0,.p (St s)] (refE 1000 L b) (fun r o=>r=.p (I (atF L s))/\o=refE 1000 L b):=by
 refine cv [] [] [1000,1001] Tryz.func113 26 Tryz.ntmps113 rfl rfl fun cx hE=>?_
 refine loopP L (fun p=>[(5,.p (I p.length))]) (fun p=>[]) (fun p=>ixD p s=none) [5] [] hE rfl rfl rfl ⟨Sub.refl _,rfl,rfl,trivial⟩ rfl (fun hp=>fun _=>brOut (by simp) ⟨I_eq (by unfold atF;rw [hp];rfl),rfl⟩) (fun p a q hq hp=>fun _=>brIn (by simp [hq]) (idxN (z1w (f:=rowD) hq) (brS (fun he=>⟨I_eq (by rw [zz0b hq hp he]),rfl⟩) (fun he=>And.intro (by have:=zj hq;omega) ⟨zx1 hp he,Sub.i (by simp),rfl,rfl,trivial⟩))))
theorem znw:Con Tryz.prog 54 [] [] (fun r o=>r=.ptr 1000 0/\o=refE 1000 [] 0):=by
 have h:Con Tryz.prog 54 [] [] (fun r o=>r=.ptr 2 0/\o=[(2,.ce 28 [.p nilS,.p (I 0)])]):=cv [] [] [2] Tryz.func54 3 Tryz.ntmps54 rfl rfl fun cx hE=>⟨rfl,rfl⟩
 refine (h.sw 2 1000).le ?_
 rintro r o ⟨_,_,⟨rfl,rfl⟩,rfl,rfl⟩
 refine ⟨refE 1000 [] 0,fun cx n h0=>?_,rfl,rfl,rfl⟩
 exact Le.trans (Le.tokO 1001 89 16 (k0:=1000) (j:=0) rfl rfl rfl rfl rfl (by rw [h0];rfl)) (Le.objs (.cons rfl rfl (.cons rfl rfl .nil)) rfl)
theorem atF_none {L:List Dcl} {s:ByteArray}:atF L s≥0↔s∈zz L:=by
 unfold atF
 cases hx:ixD L s with
 | none=>exact ⟨fun h=>absurd h (by decide),fun h=>absurd h (ixD_none.1 hx)⟩
 | some i =>
   show ((i:Int)≥0)↔_
   refine ⟨fun _=>Classical.not_not.1 fun h=>?_,fun _=>by omega⟩
   rw [ixD_none.2 h] at hx;cases hx
theorem znx (L l:List Dcl) (b:Int) (hlen:L.length+l.length<=1000000000) (hnd:(zz L).Nodup) (hc:∀ d∈l,CpD d/\d.name.size<=1000000000000):Con Tryz.prog 56 [.ptr 1000 0,.p (.sl 16 (encDs l))] (refE 1000 L b) (fun r o=>r=.p (I (addF [] L l))/\o=refE 1000 (if addF [] L l=0 then L++l else L) b):=by
 have e9:(∃ d∈l,mayF d.name=false)->addF [] L l=9:=fun h=>by unfold addF;rw [if_pos h]
 have e10:(∀ d∈l,mayF d.name=true)->¬ (zz (L++l)).Nodup->addF [] L l=10:=fun h1 h=>by
  unfold addF;rw [if_neg (fun ⟨d,hd,hm⟩=>by rw [h1 d hd] at hm;cases hm),if_pos (by simpa using h)]
 have e0:(∀ d∈l,mayF d.name=true)->(zz (L++l)).Nodup->addF [] L l=0:=fun h1 h=>by
  unfold addF;rw [if_neg (fun ⟨d,hd,hm⟩=>by rw [h1 d hd] at hm;cases hm),if_neg (by simpa using h)]
 have hel:=zd5 l
 refine cv [] [] [1000,1001] Tryz.func56 72 Tryz.ntmps56 rfl rfl fun cx hE=>?_
 refine loopP l (fun p=>[(5,.p (I p.length))]) (fun p=>[]) (fun p=>∀ d∈p,mayF d.name=true) [5] [] hE rfl rfl rfl ⟨Sub.refl _,rfl,rfl,trivial⟩ (by simp) (fun h1=>fun _=>brOut (by simp) ?_) (fun p a q hq h=>fun _=>brIn (by simp [hq]) (idxN (z1w (f:=rowD) hq) (call0 (zdg a.name (hc a (zg hq)).2) (brB (fun hm=>?_) (fun hm=>And.intro (by have:=zj hq;omega) ⟨fun d hd=>?_,Sub.i (by simp),rfl,rfl,trivial⟩)))))
 ·refine loopP l (fun p=>[(6,.p (I p.length))]) (fun p=>[]) (fun p=>(zz (L++p)).Nodup) [6] [] hE rfl rfl rfl ⟨Sub.refl _,rfl,rfl,trivial⟩ (by simpa using hnd) (fun h2=>fun _=>brOut (by simp) ?_) (fun p a q hq h=>fun _=>brIn (by simp [hq]) (idxN (z1w (f:=rowD) hq) (call1 [1000,1001] (zsy L b a.name (by omega)) rfl rfl (za _) (brS (fun hm=>?_) (fun hm=>?_)))))
  ·refine loopP l (fun p=>[(8,.p (I p.length))]) (fun p=>refE 1000 (L++p) b) (fun _=>True) [8] [1000,1001] hE rfl rfl rfl ⟨Sub.refl _,by simp [refE],by simp,trivial⟩ trivial (fun _=>fun _=>brOut (by simp) ⟨by rw [e0 h1 h2],by rw [e0 h1 h2,if_pos rfl];rfl⟩) (fun p a q hq _=>?_)
   have hlt:=zj hq
   refine fun _=>brIn (by simp [hq]) (idxN (z1w (f:=rowD) hq) (call0 (zal a (hc a (zg hq)).1) (app1 (by simp;omega) (by simp;omega) (And.intro (by omega) ⟨trivial,Sub.i (by simp),?_,ar_eq (by simp;omega),trivial⟩))))
   exact congrArg (fun z=>Ob.ce 28 [.ts 1001 16 z,.p (I b)]) (by simp [encDs,rowD])
  ·have hd:¬ (zz (L++l)).Nodup:=by rw [hq];exact dupA (z:=L) (p:=p) rfl (atF_none.1 hm)
   exact ⟨by rw [e10 h1 hd],by rw [e10 h1 hd];rfl⟩
  ·refine loopP p (fun z=>[(7,.p (I z.length))]) (fun _=>[]) (fun z=>a.name ∉ zz z) [7] [] hE rfl rfl rfl ⟨Sub.refl _,rfl,rfl,trivial⟩ (by simp [zz]) (fun hz=>brOut (Nat.le_refl _) (And.intro (by have:=zj hq;omega) ⟨?_,Sub.i (by simp),rfl,rfl,trivial⟩)) (fun z c y hz hn=>brIn (zj hz) ?_)
   ·exact okC h (fun hm2=>hm (atF_none.2 hm2)) hz
   ·have hzl:l=z++c::(y++a::q):=by rw [hq,hz];simp
    refine idxN (z1w (f:=rowD) hzl) (idxN (z1w (f:=rowD) hq) (brS (fun he=>?_) (fun he=>And.intro (by have:=zj hzl;omega) ⟨?_,Sub.i (by simp),rfl,rfl,trivial⟩)))
    ·have hd:¬ (zz (L++l)).Nodup:=dupB hq (by rw [hz];simp [zz,he])
     exact ⟨by rw [e10 h1 hd],by rw [e10 h1 hd];rfl⟩
    ·simp only [zz,List.map_append,List.map_cons,List.map_nil,List.mem_append,List.mem_singleton,not_or] at hn ⊢
     exact ⟨hn,fun e=>he e.symm⟩
 ·have hx:∃ d∈l,mayF d.name=false:=⟨a,zg hq,by simpa using hm⟩
  exact ⟨by rw [e9 hx],by rw [e9 hx];rfl⟩
 ·rcases List.mem_append.1 hd with h1 | h1
  ·exact h d h1
  ·rw [List.mem_singleton.1 h1];simpa using hm
theorem zny (l:List ByteArray) (s:ByteArray):PCon Tryz.prog 198 [.p (.sl 1 (l.map fun s=>[St s])),.p (St s)] (.p (B (hasN l s))):=by
 have hl:(l.map fun s=>[St s]).length=l.length:=by simp
 refine cv [] [] [] Tryz.func198 18 Tryz.ntmps198 rfl rfl fun cx hE=>?_
 refine loopP l (fun p=>[(5,.p (I p.length))]) (fun _=>[]) (fun p=>hasN p s=false) [5] [] hE rfl rfl rfl ⟨Sub.refl _,trivial⟩ rfl (fun hp=>fun _=>brOut (by simp) ⟨B_eq hp.symm,rfl⟩) (fun p a q hq hp=>fun _=>brIn (by simp [hq]) (idxN (z1w (f:=fun s=>[St s]) hq) (brS (fun he=>⟨B_eq ?_,rfl⟩) (fun he=>And.intro (by have:=zj hq;omega) ⟨?_,Sub.i (by simp),trivial⟩))))
 ·rw [hq];simp [hasN,he]
 ·unfold hasN at hp ⊢;rw [List.any_append,hp];simp [he]
abbrev rdO (k:Nat) (s:ByteArray) (r:Rd):Obs:=[(k,.ce 163 [.p (St s),.p (I r.pos),.p (I r.err),.p (I r.place),.p (I r.terms),.p (I r.left)])]
theorem z1l (s:ByteArray) (r:Rd) (e p:Int):Con Tryz.prog 177 [.ptr 1000 0,.p (I e),.p (I p)] (rdO 1000 s r) (fun x o=>x=.tp []/\o=rdO 1000 s (r.fail e p)):=by
 refine cv [] [] [1000] Tryz.func177 19 Tryz.ntmps177 rfl rfl fun cx hE=>brS (fun h=>⟨rfl,?_⟩) (fun h=>⟨rfl,?_⟩)
 ·unfold Rd.fail;rw [if_pos h]
 ·unfold Rd.fail;rw [if_neg h]
theorem zz0c {s:ByteArray} {g i:Nat} (h:¬ (i<s.size/\(bat s i=32\/bat s i=10))):blkL s g i=i:=by
 cases g with
 | zero=>rfl
 | succ g=>simp only [blkL];rw [if_neg h]
theorem zdh (s:ByteArray) (hs:s.size<=100000) (r:Rd):Con Tryz.prog 182 [.ptr 1000 0] (rdO 1000 s r) (fun x o=>x=.tp []/\o=rdO 1000 s (r.bl s)):=by
 refine cv [] [] [1000] Tryz.func182 43 Tryz.ntmps182 rfl rfl fun cx hE=>?_
 refine loop2 (fun (i g:Nat)=>[]) (fun i g=>rdO 1000 s (r.at i)) (fun i g=>s.size<=i+g/\blkL s g i=blkL s s.size r.pos) (fun i g=>g) r.pos s.size [] [1000] hE rfl rfl rfl ⟨rfl,trivial⟩ ⟨by omega,rfl⟩ fun i g ⟨h1,h2⟩=>?_
 have hb:(i:Int).toNat=i:=by omega
 have fin:¬ (i<s.size/\(bat s i=32\/bat s i=10))->rdO 1000 s (r.at i)=rdO 1000 s (r.bl s):=fun h=>by
  rw [zz0c h] at h2;unfold Rd.bl;rw [<- h2]
 have go:(hc:i<s.size/\(bat s i=32\/bat s i=10))->∃ g',g=g'+1/\blkL s g' (i+1)=blkL s s.size r.pos:=fun hc=>by
  cases g with
  | zero=>omega
  | succ g=>simp only [blkL] at h2;rw [if_pos hc] at h2;exact ⟨g,rfl,h2⟩
 refine brS (fun h3=>And.intro (by exact ⟨by show (0:Int)<=(i:Int);omega,by show (i:Int)<_;exact h3⟩) ?_) (fun h3=>⟨rfl,fin fun h=>h3 (by show (i:Int)<_;omega)⟩)
 have h3':i<s.size:=by have:(i:Int)<s.size:=h3;omega
 show BrV (decide (bat s (i:Int).toNat=32)) _ _
 rw [hb]
 refine brS (fun h4=>?_) (fun h4=>And.intro (by exact ⟨by show (0:Int)<=(i:Int);omega,by show (i:Int)<_;exact h3⟩) ?_)
 ·obtain ⟨g',rfl,hg⟩:=go ⟨h3',.inl h4⟩
  exact And.intro (by show _<=(i:Int)+1/\(i:Int)+1<_;omega) ⟨i+1,g',⟨by omega,hg⟩,by omega,rfl,trivial⟩
 ·show BrV (decide (bat s (i:Int).toNat=10)) _ _
  rw [hb]
  refine brS (fun h5=>?_) (fun h5=>⟨rfl,fin (by omega)⟩)
  obtain ⟨g',rfl,hg⟩:=go ⟨h3',.inr h5⟩
  exact And.intro (by show _<=(i:Int)+1/\(i:Int)+1<_;omega) ⟨i+1,g',⟨by omega,hg⟩,by omega,rfl,trivial⟩
theorem z5i (s:ByteArray) (hs:s.size<=100000) (r:Rd):Con Tryz.prog 175 [.ptr 1000 0] (rdO 1000 s r) (fun x o=>x=.p (U8 (r.pk s))/\o=rdO 1000 s (r.bl s)):=by
 have he:(r.bl s).err=r.err:=rfl
 refine cv [] [] [1000] Tryz.func175 31 Tryz.ntmps175 rfl rfl fun cx hE=>call1 [1000] (zdh s hs r) rfl rfl (za _) ?_
 refine brS (fun h=>⟨?_,rfl⟩) (fun h=>brS (fun h2=>⟨?_,rfl⟩) (fun h2=>And.intro ?_ ⟨?_,rfl⟩))
 ·unfold Rd.pk;rw [if_neg (fun h'=>h h'.1)]
 ·unfold Rd.pk;rw [if_neg (fun h'=>by omega)]
 ·omega
 ·have h2':(r.bl s).pos<s.size:=by omega
  have h':r.err=0:=by rw [he] at h;simpa using h
  unfold Rd.pk;rw [if_pos ⟨h',h2'⟩];rfl
theorem z6l (s:ByteArray) (hs:s.size<=100000) (r:Rd) (c:Int):Con Tryz.prog 181 [.ptr 1000 0,.p (U8 c)] (rdO 1000 s r) (fun x o=>x=.tp []/\o=rdO 1000 s (r.must s c)):=by
 have bad:¬ (r.pk s=c/\(r.bl s).pos<s.size)->r.must s c=(r.bl s).fail 5 (min ((r.bl s).pos:Int) (s.size:Int)):=fun h=>by
  unfold Rd.must;rw [if_neg h];congr 1;omega
 refine cv [] [] [1000] Tryz.func181 39 Tryz.ntmps181 rfl rfl fun cx hE=>callW [1000] 1000 _ (z5i s hs r) rfl rfl (za _) rfl rfl ?_
 refine brS (fun h=>?_) (fun h=>brS (fun h2=>?_) (fun h2=>?_))
 ·refine callW [1000] 1000 _ (z1l s (r.bl s) 5 (min ((r.bl s).pos:Int) (s.size:Int))) rfl rfl (za _) rfl rfl ⟨rfl,?_⟩
  rw [bad (fun h'=>h h'.1)]
 ·refine callW [1000] 1000 _ (z1l s (r.bl s) 5 (min ((r.bl s).pos:Int) (s.size:Int))) rfl rfl (za _) rfl rfl ⟨rfl,?_⟩
  rw [bad (fun h'=>by omega)]
 ·refine And.intro (by omega) ⟨rfl,?_⟩
  have h':r.pk s=c:=by simpa using h
  unfold Rd.must;rw [if_pos ⟨h',by omega⟩];rfl
theorem zx2 (s:ByteArray) (hs:s.size<=100000) (r:Rd):Con Tryz.prog 128 [.ptr 1000 0] (rdO 1000 s r) (fun x o=>x=.tp []/\o=rdO 1000 s (r.fin s)):=by
 refine cv [] [] [1000] Tryz.func128 20 Tryz.ntmps128 rfl rfl fun cx hE=>call1 [1000] (zdh s hs r) rfl rfl (za _) (brS (fun h=>?_) (fun h=>⟨rfl,?_⟩))
 ·refine call1 [1000] (z1l s (r.bl s) 5 _) rfl rfl (za _) ⟨rfl,?_⟩
  unfold Rd.fin;rw [if_pos (by omega)]
 ·unfold Rd.fin;rw [if_neg (by omega)]
theorem zqb (s:ByteArray) (hs:s.size<=100000) (r:Rd):Con Tryz.prog 214 [.ptr 1000 0] (rdO 1000 s r) (fun x o=>x=.tp []/\o=rdO 1000 s (aprF s r)):=by
 have hb:(r.pos:Int).toNat=r.pos:=by omega
 refine cv [] [] [1000] Tryz.func214 42 Tryz.ntmps214 rfl rfl fun cx hE=>brS (fun h=>And.intro (by omega) (call0 (z3j _) ?_)) (fun h=>⟨rfl,by unfold aprF;rw [if_neg (fun h'=>h (by omega))]⟩)
 rw [hb]
 refine brB (fun h2=>?_) (fun h2=>And.intro (by omega) (call0 (z7c _) ?_))
 ·refine call1 [1000] (z1l s r 5 _) rfl rfl (za _) ⟨rfl,?_⟩
  unfold aprF;rw [if_pos ⟨by omega,by simp [h2]⟩]
 ·rw [hb]
  refine brB (fun h3=>?_) (fun h3=>⟨rfl,?_⟩)
  ·refine call1 [1000] (z1l s r 5 _) rfl rfl (za _) ⟨rfl,?_⟩
   unfold aprF;rw [if_pos ⟨by omega,by simp [h3]⟩]
  ·unfold aprF;rw [if_neg (fun h'=>by simp [h2,h3] at h')]
theorem zqc (s:ByteArray) (hs:s.size<=100000) (r:Rd):Con Tryz.prog 233 [.ptr 1000 0] (rdO 1000 s r) (fun x o=>x=lv (parF s r).1/\o=rdO 1000 s (parF s r).2):=by
 have hb:(r.pos:Int).toNat=r.pos:=by omega
 have bad:¬ (r.pos<s.size/\digF (bat s r.pos)=true)->parF s r=(zL,r.fail 5 r.pos):=fun h=>by unfold parF;rw [if_neg h]
 refine cv [] [] [1000] Tryz.func233 62 Tryz.ntmps233 rfl rfl fun cx hE=>brS (fun h=>?_) (fun h=>And.intro (by omega) (call0 (z7c _) ?_))
 ·refine call1 [1000] (z1l s r 5 _) rfl rfl (za _) ?_
  rw [bad (by omega)];exact ⟨rfl,rfl⟩
 rw [hb]
 refine brB (fun h2=>?_) (fun h2=>?_)
 ·have h2':digF (bat s r.pos)=false:=by simpa using h2
  refine call1 [1000] (z1l s r 5 _) rfl rfl (za _) ?_
  rw [bad (by simp [h2'])];exact ⟨rfl,rfl⟩
 have h2':digF (bat s r.pos)=true:=by simpa using h2
 have hd:48<=bat s r.pos/\bat s r.pos<=57:=by unfold digF at h2';simp at h2';exact h2'
 have hp:parF s r=(⟨4,bat s r.pos-48,[]⟩,(if bat s r.pos-48≥4 then r.fail 7 r.pos else r).at (r.pos+1)):=by unfold parF;rw [if_pos ⟨by omega,h2'⟩]
 have hw:IntKind.u8.wrap (bat s r.pos-48)=bat s r.pos-48:=by rw [IntKind.wrap_u8];omega
 rw [hp]
 refine And.intro (by omega) (And.intro (by rw [hb,hw];omega) (brS (fun h3=>?_) (fun h3=>And.intro (by omega) ?_)))
 ·rw [hb,hw] at h3
  refine call1 [1000] (z1l s r 7 _) rfl rfl (za _) (And.intro ?_ ?_)
  ·have:(r.fail 7 r.pos).pos=r.pos:=by unfold Rd.fail;split<;>rfl
   rw [this];omega
  ·have:(r.fail 7 r.pos).pos=r.pos:=by unfold Rd.fail;split<;>rfl
   rw [if_pos h3,this]
   exact ⟨by rw [hb,hw];rfl,rfl⟩
 ·rw [hb,hw] at h3
  rw [if_neg h3];exact ⟨by rw [hb,hw];rfl,rfl⟩
theorem znz {e p:Int} (b:Rd) (he:e≠0):(b.fail e p).err≠0:=by
 unfold Rd.fail;split
 ·exact he
 ·assumption
set_option maxHeartbeats 4000000 in
theorem zfc (s:ByteArray) (hs:s.size<=100000):∀ (g:Nat) (deep:Int) (r:Rd) (l:Lvl) (r':Rd),lvlF s g deep r=some (l,r')->0<=deep->deep<=1000 ->
  Con Tryz.prog 215 [.ptr 1000 0,.p (I deep)] (rdO 1000 s r) (fun x o=>x=lv l/\o=rdO 1000 s r')
 | 0,_,_,_,_,h,_,_=>by cases h
 | g + 1,deep,r,l,r',h,hd0,hd1=>by
   have ih:=zfc s hs g
   simp only [lvlF] at h
   refine cv [] [1000002,1000005,1000007] [1000] Tryz.func215 120 Tryz.ntmps215 rfl rfl fun cx hE=>call1 [1000] (z5i s hs r) rfl rfl (za _) ?_
   refine join1 (A:=Unit) (fun _=>[]) (fun _=>[]) (fun _=>(r.bl s).pos<s.size/\lvcF (r.pk s)) [] [] [] hE rfl rfl rfl ?_ (fun _ hc=>?_)
   ·have bad:¬ ((r.bl s).pos<s.size/\lvcF (r.pk s))->Con Tryz.prog 177 [.ptr 1000 0,.p (I 5),.p (I ((r.bl s).pos:Int))] (rdO 1000 s (r.bl s)) (fun x o=>x=.tp []/\o=rdO 1000 s r')/\zL=l:=fun hn=>by
     rw [if_pos hn] at h
     cases h
     exact ⟨z1l s (r.bl s) 5 _,rfl⟩
    have ok:(r.bl s).pos<s.size->lvcF (r.pk s)->(r.bl s).pos<s.size/\lvcF (r.pk s):=fun a b=>⟨a,b⟩
    unfold lvcF at bad ok ⊢
    refine brS (fun h0=>?_) (fun h0=>?_)
    ·obtain ⟨hf,rfl⟩:=bad (by omega)
     exact call1 [1000] hf rfl rfl (za _) ⟨rfl,rfl⟩
    refine brS (fun h1=>?_) (fun h1=>⟨(),ok (by omega) (by omega),leX.same ⟨rfl,rfl,trivial⟩⟩)
    refine brS (fun h2=>?_) (fun h2=>⟨(),ok (by omega) (by omega),leX.same ⟨rfl,rfl,trivial⟩⟩)
    refine brS (fun h3=>?_) (fun h3=>⟨(),ok (by omega) (by omega),leX.same ⟨rfl,rfl,trivial⟩⟩)
    refine brS (fun h4=>?_) (fun h4=>⟨(),ok (by omega) (by omega),leX.same ⟨rfl,rfl,trivial⟩⟩)
    refine brS (fun h5=>?_) (fun h5=>⟨(),ok (by omega) (by omega),leX.same ⟨rfl,rfl,trivial⟩⟩)
    obtain ⟨hf,rfl⟩:=bad (by omega)
    exact call1 [1000] hf rfl rfl (za _) ⟨rfl,rfl⟩
   rw [if_neg (fun hn=>hn hc)] at h
   generalize hR:r.bl s=R at h hc ⊢
   have hl:R.left=r.left:=by rw [<- hR];rfl
   have gpos:∀ (b:Rd) (e p:Int),(b.fail e p).pos=b.pos:=fun b e p=>by unfold Rd.fail;split<;>rfl
   have gleft:∀ (b:Rd) (e p:Int),(b.fail e p).left=b.left:=fun b e p=>by unfold Rd.fail;split<;>rfl
   have g1:(if R.left=0 then R.fail 3 R.pos else R).pos=R.pos:=by split<;>simp [gpos]
   have g2:(gateL deep R).pos=R.pos:=by unfold gateL;split<;>simp [gpos,g1]
   have g3 : (gateL deep R).left = R.left := by unfold gateL;repeat' split
                                                all_goals simp [gleft]
   refine join0 [] (rdO 1000 s (if R.left=0 then R.fail 3 R.pos else R)) [] [1000] [] hE rfl rfl rfl ?_ ?_
   ·refine brS (fun h1=>?_) (fun h1=>?_)
    ·rw [if_pos h1];exact call1 [1000] (z1l s R 3 _) rfl rfl (za _) ⟨rfl,rfl,trivial⟩
    ·rw [if_neg h1];exact ⟨rfl,rfl,trivial⟩
   refine join0 [] (rdO 1000 s (gateL deep R)) [] [1000] [] hE rfl rfl rfl ?_ ?_
   ·unfold gateL
    refine brS (fun h1=>?_) (fun h1=>?_)
    ·rw [if_pos h1]
     have hf:Con Tryz.prog 177 [.ptr 1000 0,.p (I 6),.p (I ((if R.left=0 then R.fail 3 R.pos else R).pos:Int))] (rdO 1000 s (if R.left=0 then R.fail 3 R.pos else R)) (fun x o=>x=.tp []/\o=rdO 1000 s ((if R.left=0 then R.fail 3 R.pos else R).fail 6 R.pos)):=by rw [g1];exact z1l s _ 6 (R.pos:Int)
     refine call1 [1000] hf rfl rfl (za _) ⟨rfl,rfl,trivial⟩
    ·rw [if_neg h1];exact ⟨rfl,rfl,trivial⟩
   refine brS (fun h1=>?_) (fun h1=>?_)
   ·rw [if_pos h1] at h;cases h;exact ⟨rfl,rfl⟩
   rw [if_neg h1] at h
   split at h
   ·cases h
   rename_i hb
   have hdeep:deep<=32:=by
    refine Classical.byContradiction fun hn=>h1 ?_
    unfold gateL;rw [if_pos (by omega)]
    exact znz _ (by decide)
   refine And.intro (by omega) (And.intro (by omega) ?_)
   have hlev:rdO 1000 s (gateL deep R).lev=[(1000,.ce 163 [.p (St s),.p (I (((gateL deep R).pos:Int)+1)),.p (I (gateL deep R).err),.p (I (gateL deep R).place),.p (I (gateL deep R).terms),.p (I ((gateL deep R).left-1))])]:=rfl
   refine brS (fun h2=>?_) (fun h2=>?_)
   ·rw [if_pos h2] at h;cases h;exact ⟨rfl,rfl⟩
   rw [if_neg h2] at h
   refine brS (fun h3=>?_) (fun h3=>?_)
   ·rw [if_pos h3] at h
    split at h
    ·cases h
    ·rename_i a r1 ha
     cases h
     refine And.intro (by omega) (call1 [1000] (ih (deep+1) _ a r' ha (by omega) (by omega)) rfl rfl (za _) ⟨?_,rfl⟩)
     simp [lv,encLs,zg6,rowL,Z.val]
   rw [if_neg h3] at h
   refine brS (fun h4=>?_) (fun h4=>?_)
   ·rw [if_pos h4] at h
    have e:=Option.some.inj h
    rw [show l=(parF s (gateL deep R).lev).1 by rw [e],show r'=(parF s (gateL deep R).lev).2 by rw [e]]
    exact call1 [1000] (zqc s hs (gateL deep R).lev) rfl rfl (za _) ⟨rfl,rfl⟩
   rw [if_neg h4] at h
   split at h
   ·cases h
   ·rename_i a r1 ha
    split at h
    ·cases h
    ·rename_i b r2 hb2
     cases h
     refine brS (fun h5=>?_) (fun h5=>?_)
     all_goals
      refine And.intro (by omega) (call1 [1000] (ih (deep+1) _ a r1 ha (by omega) (by omega)) rfl rfl (za _) (And.intro (by omega) (call1 [1000] (ih (deep+1) _ b r' hb2 (by omega) (by omega)) rfl rfl (za _) ⟨?_,rfl⟩)))
      simp [lv,encLs,zg6,rowL,Z.val,h5]
theorem zo0 (s:ByteArray) (hs:s.size<=100000) (r:Rd) (l:Lvl) (r':Rd) (h:oneF s r=some (l,r')):Con Tryz.prog 180 [.ptr 1000 0] (rdO 1000 s r) (fun x o=>x=lv l/\o=rdO 1000 s r') :=
 cv [] [] [1000] Tryz.func180 8 Tryz.ntmps180 rfl rfl fun cx hE=>call1 [1000] (zfc s hs 40 1 ⟨r.pos,r.err,r.place,r.terms,64⟩ l r' h (by omega) (by omega)) rfl rfl (za _) ⟨rfl,rfl⟩
set_option maxHeartbeats 4000000 in
theorem zlu (s:ByteArray) (hs:s.size<=100000) (r:Rd) (hp:r.pos<=s.size) (v:Int) (r':Rd) (h:numF s r=some (v,r')):Con Tryz.prog 179 [.ptr 1000 0] (rdO 1000 s r) (fun x o=>x=.p (I v)/\o=rdO 1000 s r'):=by
 obtain ⟨b,r1,hN⟩:∃ b r1,numL s r.pos 10 r=some (b,r1):=by
  unfold numF at h
  cases hx:numL s r.pos 10 r with
  | none=>rw [hx] at h;cases h
  | some p=>exact ⟨p.1,p.2,rfl⟩
 unfold numF at h
 rw [hN] at h
 refine cv [] [1000002] [1000] Tryz.func179 106 Tryz.ntmps179 rfl rfl fun cx hE=>?_
 refine join1 (A:=Unit) (fun _=>[]) (fun _=>rdO 1000 s r1) (fun _=>b=false) [] [1000] [] hE rfl rfl rfl ?_ (fun _ hbf=>?_)
 ·refine loop2 (fun (q:Rd) (g:Nat)=>[]) (fun q g=>rdO 1000 s q) (fun q g=>numL s r.pos g q=some (b,r1)) (fun q g=>g) r 10 [] [1000] hE rfl rfl rfl ⟨rfl,trivial⟩ hN fun q g hq=>?_
  cases g with
  | zero=>cases hq
  | succ g =>
    simp only [numL] at hq
    have hb:(q.pos:Int).toNat=q.pos:=by omega
    have hb2:(r.pos:Int).toNat=r.pos:=by omega
    have stop:∀ x y,some (x,y)=some (b,r1)->b=x/\r1=y:=fun x y e=>by cases e;exact ⟨rfl,rfl⟩
    have bad:∀ y,b=true->r1=y->v=0/\r'=y:=fun y e1 e2=>by subst e1 e2;simp only at h;cases h;exact ⟨rfl,rfl⟩
    refine brS (fun c1=>And.intro (by omega) (call0 (z7c _) ?_)) (fun c1=>?_)
    ·rw [hb]
     refine brB (fun c2=>?_) (fun c2=>?_)
     ·rw [if_pos ⟨by omega,c2⟩] at hq
      refine And.intro (by omega) (brS (fun c3=>?_) (fun c3=>?_))
      ·rw [if_pos (by omega)] at hq
       obtain ⟨e1,e2⟩:=stop _ _ hq
       obtain ⟨rfl,rfl⟩:=bad _ e1 e2
       exact call1 [1000] (z1l s q 3 _) rfl rfl (za _) ⟨rfl,rfl⟩
      ·rw [if_neg (by omega)] at hq
       have next:¬ (q.pos=r.pos+1/\bat s r.pos=48)->numL s r.pos g (q.at (q.pos+1))=some (b,r1):=fun hn=>by rw [if_neg hn] at hq;exact hq
       refine And.intro (by omega) (brS (fun c4=>And.intro (by omega) ?_) (fun c4=>And.intro (by omega) ⟨q.at (q.pos+1),g,next (by omega),by omega,rfl,trivial⟩))
       rw [hb2]
       refine brS (fun c5=>?_) (fun c5=>And.intro (by omega) ⟨q.at (q.pos+1),g,next (by omega),by omega,rfl,trivial⟩)
       rw [if_pos ⟨by omega,c5⟩] at hq
       obtain ⟨e1,e2⟩:=stop _ _ hq
       obtain ⟨rfl,rfl⟩:=bad _ e1 e2
       exact call1 [1000] (z1l s q 5 _) rfl rfl (za _) ⟨rfl,rfl⟩
     ·rw [if_neg (by simp [c2])] at hq
      obtain ⟨e1,e2⟩:=stop _ _ hq
      exact ⟨(),e1,leX.same ⟨by rw [e2],trivial⟩⟩
    ·rw [if_neg (by omega)] at hq
     obtain ⟨e1,e2⟩:=stop _ _ hq
     exact ⟨(),e1,leX.same ⟨by rw [e2],trivial⟩⟩
 ·subst hbf
  simp only at h
  refine brS (fun c1=>?_) (fun c1=>?_)
  ·rw [if_pos (by omega)] at h
   cases h
   exact call1 [1000] (z1l s r1 5 _) rfl rfl (za _) ⟨rfl,rfl⟩
  rw [if_neg (by omega)] at h
  split at h
  ·cases h
  rename_i V hV
  cases h
  refine loop3 (fun (i:Nat) (x:Int) (g:Nat)=>[(5,.p (I i)),(4,.p (I x))]) (fun _ _ _=>[]) (fun i x g=>valL s r1.pos g i x=some v) (fun i x g=>g) r.pos 0 10 [5,4] [] hE rfl rfl rfl ⟨Sub.refl _,Sub.refl _,rfl,trivial⟩ hV fun i x g hi=>?_
  cases g with
  | zero=>cases hi
  | succ g =>
    simp only [valL] at hi
    have hb:(i:Int).toNat=i:=by omega
    refine brS (fun c2=>?_) (fun c2=>?_)
    ·rw [if_pos (by omega)] at hi
     split at hi
     ·rename_i hc
      have hr:=zrr s i
      have hw:IntKind.u8.wrap (bat s i-48)=bat s i-48:=by rw [IntKind.wrap_u8];omega
      refine And.intro (by omega) (And.intro (by omega) (And.intro (by rw [hb,hw];omega) (And.intro (by rw [hb,hw];omega) (And.intro (by omega) ?_))))
      exact ⟨i+1,x * 10+(bat s i-48),g,hi,by omega,Sub.i (by omega),Sub.i (by rw [hb,hw]),rfl,trivial⟩
     ·cases hi
    ·rw [if_neg (by omega)] at hi
     cases hi
     exact call1 [1000] (zqb s hs r1) rfl rfl (za _) ⟨rfl,rfl⟩
set_option maxHeartbeats 4000000 in
theorem zsz (s:ByteArray) (hs:s.size<=100000) (r:Rd) (hp:r.pos<=s.size) (t:Trm) (r':Rd) (h:nameF s r=some (t,r')):Con Tryz.prog 178 [.ptr 1000 0] (rdO 1000 s r) (fun x o=>x=tv t/\o=rdO 1000 s r'):=by
 have hpt:(r.pos:Int).toNat=r.pos:=by omega
 have hns:nmF (s.extract r.pos s.size)<=s.size-r.pos:=by
  have:=zz26 (s.extract r.pos s.size)
  have h2:(s.extract r.pos s.size).size<=s.size-r.pos:=by simp [ByteArray.size_extract]
  omega
 have hsz:(s.extract r.pos s.size).size<=1000000000000:=by simp [ByteArray.size_extract];omega
 unfold nameF at h
 refine cv [] [1000010] [1000] Tryz.func178 131 Tryz.ntmps178 rfl rfl fun cx hE=>And.intro (by omega) ?_
 have hnm:=zja (s.extract r.pos s.size) hsz
 rw [<- hpt] at hnm
 refine call0 hnm ?_
 rw [hpt]
 generalize hn:nmF (s.extract r.pos s.size)=n at h hns ⊢
 refine brS (fun c1=>?_) (fun c1=>?_)
 ·rw [if_pos (by omega)] at h
  cases h
  exact call1 [1000] (z1l s r 3 _) rfl rfl (za _) ⟨rfl,rfl⟩
 rw [if_neg (by omega)] at h
 have hfr:∀ (b:Rd) (e p:Int),(b.fail e p).pos=b.pos:=fun b e p=>by unfold Rd.fail;split<;>rfl
 repeat refine And.intro (by omega) ?_
 have hx2:((r.pos:Int)+(n:Int)).toNat=r.pos+n:=by omega
 have hat:rdO 1000 s (r.at (r.pos+n))=[(1000,.ce 163 [.p (St s),.p (I ((r.pos:Int)+(n:Int))),.p (I r.err),.p (I r.place),.p (I r.terms),.p (I r.left)])]:=by simp [rdO,Rd.at]
 have hpk:=z5i s hs (r.at (r.pos+n))
 rw [hat] at hpk
 refine call1 [1000] hpk rfl rfl (za _) ?_
 generalize hR:r.at (r.pos+n)=R at h hpk ⊢
 refine brS (fun c2=>?_) (fun c2=>?_)
 ·rw [if_neg c2] at h
  cases h
  exact ⟨by rw [hpt,hx2];rfl,rfl⟩
 have c2':R.pk s=123:=by simpa using c2
 rw [if_pos c2'] at h
 have hbp:(R.bl s).pos<s.size:=by
  refine Classical.byContradiction fun hn=>?_
  unfold Rd.pk at c2'
  rw [if_neg (fun h'=>hn h'.2)] at c2'
  cases c2'
 refine And.intro (by omega) ?_
 have hnm2:St (s.extract (r.pos:Int).toNat ((r.pos:Int)+(n:Int)).toNat)=St (s.extract r.pos (r.pos+n)):=by rw [hpt,hx2]
 generalize hnam:s.extract (r.pos:Int).toNat ((r.pos:Int)+(n:Int)).toNat=nam
 have hnam':s.extract r.pos (r.pos+n)=nam:=by rw [<- hnam,hpt,hx2]
 rw [hnam'] at h
 have hst:rdO 1000 s ((R.bl s).at ((R.bl s).pos+1))=[(1000,.ce 163 [.p (St s),.p (I (((R.bl s).pos:Int)+1)),.p (I (R.bl s).err),.p (I (R.bl s).place),.p (I (R.bl s).terms),.p (I (R.bl s).left)])]:=rfl
 obtain ⟨b,ls,r1,hL⟩:∃ b ls r1,lvsL s 10 [] ((R.bl s).at ((R.bl s).pos+1))=some (b,ls,r1):=by
  cases hx:lvsL s 10 [] ((R.bl s).at ((R.bl s).pos+1)) with
  | none=>rw [hx] at h;cases h
  | some p=>exact ⟨p.1,p.2.1,p.2.2,rfl⟩
 rw [hL] at h
 refine join1 (A:=Unit) (fun _=>[]) (fun _=>(4,.ce 35 [.p (I 2),.p (I 0),.p (St nam),.ts 500 3 (encLs ls),.p nilS])::(500,.ar 74 3 (encLs ls).length)::rdO 1000 s r1) (fun _=>b=false) [] [4,500,1000] [1000010] hE rfl rfl rfl ?_ (fun _ hbf=>?_)
 rotate_left
 ·subst hbf
  simp only at h
  cases h
  exact call1 [1000] (z6l s hs r1 125) rfl rfl (za _) ⟨rfl,rfl⟩
 refine tokOV 4 3 500 74 3 hE rfl rfl rfl rfl ?_
 refine loop3 (fun (p:List Lvl) (q:Rd) (g:Nat)=>[]) (fun p q g=>(4,.ce 35 [.p (I 2),.p (I 0),.p (St nam),.ts 500 3 (encLs p),.p nilS])::(500,.ar 74 3 (encLs p).length)::rdO 1000 s q) (fun p q g=>p.length+g<=10/\lvsL s g p q=some (b,ls,r1)) (fun p q g=>g) [] ((R.bl s).at ((R.bl s).pos+1)) 10 [] [4,500,1000] hE rfl rfl rfl ⟨rfl,rfl,rfl,rfl,trivial⟩ ⟨by simp,hL⟩ fun p q g ⟨hpl,hq⟩=>?_
 cases g with
 | zero=>cases hq
 | succ g =>
   have hel:=zq p
   simp only [lvsL] at hq
   refine join0 [] (rdO 1000 s (lv4F s p q)) [] [1000] [] hE rfl rfl rfl ?_ ?_
   ·refine fun _=>brS (fun d1=>?_) (fun d1=>?_)
    ·have e4:lv4F s p q=if (q.bl s).pos<s.size/\lvcF (q.pk s) then (q.bl s).fail 7 (q.bl s).pos else q.bl s:=by unfold lv4F;rw [if_pos (by omega)]
     rw [e4]
     have hyes:(q.bl s).pos<s.size/\lvcF (q.pk s)->Con Tryz.prog 177 [.ptr 1000 0,.p (I 7),.p (I ((q.bl s).pos:Int))] (rdO 1000 s (q.bl s)) (fun x o=>x=.tp []/\o=rdO 1000 s (if (q.bl s).pos<s.size/\lvcF (q.pk s) then (q.bl s).fail 7 (q.bl s).pos else q.bl s)):=fun hy=>by rw [if_pos hy];exact z1l s (q.bl s) 7 _
     refine call1 [1000] (z5i s hs q) rfl rfl (za _) ?_
     refine brS (fun h0=>?_) (fun h0=>by rw [if_neg (fun hn=>h0 (by omega))];exact ⟨rfl,rfl,rfl,rfl,trivial⟩)
     have hh:(q.bl s).pos<s.size:=by omega
     refine brS (fun k1=>call1 [1000] (hyes ⟨hh,by unfold lvcF;omega⟩) rfl rfl (za _) ⟨rfl,rfl,rfl,rfl,trivial⟩) (fun k1=>?_)
     refine brS (fun k2=>call1 [1000] (hyes ⟨hh,by unfold lvcF;omega⟩) rfl rfl (za _) ⟨rfl,rfl,rfl,rfl,trivial⟩) (fun k2=>?_)
     refine brS (fun k3=>call1 [1000] (hyes ⟨hh,by unfold lvcF;omega⟩) rfl rfl (za _) ⟨rfl,rfl,rfl,rfl,trivial⟩) (fun k3=>?_)
     refine brS (fun k4=>call1 [1000] (hyes ⟨hh,by unfold lvcF;omega⟩) rfl rfl (za _) ⟨rfl,rfl,rfl,rfl,trivial⟩) (fun k4=>?_)
     refine brS (fun k5=>call1 [1000] (hyes ⟨hh,by unfold lvcF;omega⟩) rfl rfl (za _) ⟨rfl,rfl,rfl,rfl,trivial⟩) (fun k5=>?_)
     rw [if_neg (fun hn=>by have:=hn.2;unfold lvcF at this;omega)]
     exact ⟨rfl,rfl,rfl,rfl,trivial⟩
    ·have e4:lv4F s p q=q:=by unfold lv4F;rw [if_neg (by omega)]
     rw [e4]
     exact ⟨rfl,rfl,rfl,rfl,trivial⟩
   ·generalize lv4F s p q=Q at hq ⊢
    split at hq
    ·cases hq
    rename_i l r2 ho
    refine call1 [1000] (zo0 s hs Q l r2 ho) rfl rfl (za _) (brS (fun d1=>?_) (fun d1=>?_))
    ·rw [if_pos d1] at hq
     cases hq
     simp only at h
     cases h
     exact ⟨rfl,rfl⟩
    rw [if_neg d1] at hq
    refine app1 (by simp;omega) (by simp;omega) (call1 [1000] (z5i s hs r2) rfl rfl (za _) (brS (fun d2=>?_) (fun d2=>?_)))
    ·rw [if_neg d2] at hq
     cases hq
     refine ⟨(),rfl,leX.same ⟨?_,?_,rfl,rfl,trivial⟩⟩
     ·exact congrArg (fun z=>Ob.ce 35 [.p (I 2),.p (I 0),.p (St nam),.ts 500 3 z,.p nilS]) (z6z p l)
     ·exact ar_eq (by simp)
    ·have d2':r2.pk s=44:=by simpa using d2
     rw [if_pos d2'] at hq
     have hbp2:(r2.bl s).pos<s.size:=by
      refine Classical.byContradiction fun hn=>?_
      unfold Rd.pk at d2'
      rw [if_neg (fun h'=>hn h'.2)] at d2'
      cases d2'
     refine And.intro (by omega) ⟨p++[l],(r2.bl s).at ((r2.bl s).pos+1),g,⟨by simp;omega,hq⟩,by omega,?_,?_,rfl,rfl,trivial⟩
     ·exact congrArg (fun z=>Ob.ce 35 [.p (I 2),.p (I 0),.p (St nam),.ts 500 3 z,.p nilS]) (z6z p l)
     ·exact ar_eq (by simp)
theorem zo1 (b:Rd) (e p:Int):(b.fail e p).pos=b.pos:=by unfold Rd.fail;split<;>rfl
theorem zqd (b:Rd) (e p:Int):(b.fail e p).terms=b.terms:=by unfold Rd.fail;split<;>rfl
set_option maxHeartbeats 8000000 in
theorem zjb (s : ByteArray) (hs : s.size ≤ 100000) : ∀ (g:Nat) (deep:Int) (r:Rd) (t:Trm) (r':Rd),trmF s g deep r=some (t,r')->0<=deep->deep<=1000 ->
  Con Tryz.prog 127 [.ptr 1000 0,.p (I deep)] (rdO 1000 s r) (fun x o=>x=tv t/\o=rdO 1000 s r')
 | 0,_,_,_,_,h,_,_=>by cases h
 | g + 1,deep,r,t,r',h,hd0,hd1=>by
   have ih:=zjb s hs g
   simp only [trmF] at h
   refine cv [] [1000002,1000005,1000007] [1000] Tryz.func127 170 Tryz.ntmps127 rfl rfl fun cx hE=>call1 [1000] (z5i s hs r) rfl rfl (za _) ?_
   refine join1 (A:=Unit) (fun _=>[]) (fun _=>[]) (fun _=>(r.bl s).pos<s.size/\tmcF (r.pk s)) [] [] [] hE rfl rfl rfl ?_ (fun _ hc=>?_)
   ·have bad:¬ ((r.bl s).pos<s.size/\tmcF (r.pk s))->Con Tryz.prog 177 [.ptr 1000 0,.p (I 5),.p (I ((r.bl s).pos:Int))] (rdO 1000 s (r.bl s)) (fun x o=>x=.tp []/\o=rdO 1000 s r')/\zT=t:=fun hn=>by
     rw [if_pos hn] at h
     cases h
     exact ⟨z1l s (r.bl s) 5 _,rfl⟩
    refine brS (fun h0=>?_) (fun h0=>?_)
    ·obtain ⟨hf,rfl⟩:=bad (by omega)
     exact call1 [1000] hf rfl rfl (za _) ⟨rfl,rfl⟩
    have ok:tmcF (r.pk s)->(r.bl s).pos<s.size/\tmcF (r.pk s):=fun b=>⟨by omega,b⟩
    refine brS (fun h1=>?_) (fun h1=>⟨(),ok (by unfold tmcF;omega),leX.same ⟨rfl,rfl,trivial⟩⟩)
    refine brS (fun h2=>?_) (fun h2=>⟨(),ok (by unfold tmcF;omega),leX.same ⟨rfl,rfl,trivial⟩⟩)
    refine brS (fun h3=>?_) (fun h3=>⟨(),ok (by unfold tmcF;omega),leX.same ⟨rfl,rfl,trivial⟩⟩)
    refine brS (fun h4=>?_) (fun h4=>⟨(),ok (by unfold tmcF;omega),leX.same ⟨rfl,rfl,trivial⟩⟩)
    refine brS (fun h5=>?_) (fun h5=>⟨(),ok (by unfold tmcF;omega),leX.same ⟨rfl,rfl,trivial⟩⟩)
    refine brS (fun h6=>?_) (fun h6=>⟨(),ok (by unfold tmcF;omega),leX.same ⟨rfl,rfl,trivial⟩⟩)
    have okl:letF (r.pk s)=true->tmcF (r.pk s):=fun hl=>by unfold tmcF;exact .inr (.inr (.inr (.inr (.inr (.inr hl)))))
    refine call0 (z3j _) (brB (fun h7=>?_) (fun h7=>⟨(),ok (okl (by simpa using h7)),leX.same ⟨rfl,rfl,trivial⟩⟩))
    have h7':letF (r.pk s)=false:=by simpa using h7
    obtain ⟨hf,rfl⟩:=bad (fun hn=>by have:=hn.2;unfold tmcF at this;rw [h7'] at this;simp only [Bool.false_eq_true,or_false] at this;omega)
    exact call1 [1000] hf rfl rfl (za _) ⟨rfl,rfl⟩
   rw [if_neg (fun hn=>hn hc)] at h
   generalize hR:r.bl s=R at h hc ⊢
   have hl:R.terms=r.terms:=by rw [<- hR];rfl
   have g1:(if R.terms=0 then R.fail 3 R.pos else R).pos=R.pos:=by split<;>simp [zo1]
   have g2:(gateT deep R).pos=R.pos:=by unfold gateT;split<;>simp [zo1,g1]
   have g3 : (gateT deep R).terms = R.terms := by unfold gateT;repeat' split
                                                  all_goals simp [zqd]
   refine join0 [] (rdO 1000 s (if R.terms=0 then R.fail 3 R.pos else R)) [] [1000] [] hE rfl rfl rfl ?_ ?_
   ·refine brS (fun h1=>?_) (fun h1=>?_)
    ·rw [if_pos h1];exact call1 [1000] (z1l s R 3 _) rfl rfl (za _) ⟨rfl,rfl,trivial⟩
    ·rw [if_neg h1];exact ⟨rfl,rfl,trivial⟩
   refine join0 [] (rdO 1000 s (gateT deep R)) [] [1000] [] hE rfl rfl rfl ?_ ?_
   ·unfold gateT
    refine brS (fun h1=>?_) (fun h1=>?_)
    ·rw [if_pos h1]
     have hf:Con Tryz.prog 177 [.ptr 1000 0,.p (I 6),.p (I ((if R.terms=0 then R.fail 3 R.pos else R).pos:Int))] (rdO 1000 s (if R.terms=0 then R.fail 3 R.pos else R)) (fun x o=>x=.tp []/\o=rdO 1000 s ((if R.terms=0 then R.fail 3 R.pos else R).fail 6 R.pos)):=by rw [g1];exact z1l s _ 6 (R.pos:Int)
     refine call1 [1000] hf rfl rfl (za _) ⟨rfl,rfl,trivial⟩
    ·rw [if_neg h1];exact ⟨rfl,rfl,trivial⟩
   refine brS (fun h1=>?_) (fun h1=>?_)
   ·rw [if_pos h1] at h;cases h;exact ⟨rfl,rfl⟩
   rw [if_neg h1] at h
   split at h
   ·cases h
   rename_i hb
   have hdeep:deep<=100:=by
    refine Classical.byContradiction fun hn=>h1 ?_
    unfold gateT;rw [if_pos (by omega)]
    exact znz _ (by decide)
   refine And.intro (by omega) (call0 (z3j _) (brB (fun h2=>?_) (fun h2=>?_)))
   ·rw [if_pos h2] at h
    exact call1 [1000] (zsz s hs (gateT deep R).ter (by show (gateT deep R).pos<=_;omega) t r' h) rfl rfl (za _) ⟨rfl,rfl⟩
   rw [if_neg (by rw [h2];simp)] at h
   rw [<- g2] at h
   generalize hG:gateT deep R=G at *
   have hnext:rdO 1000 s (G.ter.at (G.pos+1))=[(1000,.ce 163 [.p (St s),.p (I ((G.pos:Int)+1)),.p (I G.err),.p (I G.place),.p (I (G.terms-1)),.p (I G.left)])]:=rfl
   have hpn:(G.ter.at (G.pos+1)).pos<=s.size:=by show G.pos+1<=_;omega
   refine And.intro (by omega) (brS (fun h3=>?_) (fun h3=>?_))
   ·rw [if_pos h3] at h
    split at h
    ·cases h
    rename_i n r1 hn
    cases h
    exact call1 [1000] (zlu s hs (G.ter.at (G.pos+1)) hpn n r' hn) rfl rfl (za _) ⟨rfl,rfl⟩
   rw [if_neg h3] at h
   refine brS (fun h4=>?_) (fun h4=>?_)
   ·rw [if_pos h4] at h
    split at h
    ·cases h
    rename_i l r1 hn
    cases h
    exact call1 [1000] (zo0 s hs (G.ter.at (G.pos+1)) l r' hn) rfl rfl (za _) ⟨tv1l _ _ _ _ [],rfl⟩
   rw [if_neg h4] at h
   split at h
   ·cases h
   rename_i a r1 ha
   have ihA:=ih (deep+1) _ a r1 ha (by omega) (by omega)
   refine brS (fun h5=>?_) (fun h5=>?_)
   ·rw [if_pos h5] at h
    split at h
    ·cases h
    rename_i b r2 hb2
    cases h
    exact And.intro (by omega) (call1 [1000] ihA rfl rfl (za _) (And.intro (by omega) (call1 [1000] (ih (deep+1) r1 b r2 hb2 (by omega) (by omega)) rfl rfl (za _) (call1 [1000] (z6l s hs r2 41) rfl rfl (za _) ⟨tv2 _ _ _ [] _ _,rfl⟩))))
   rw [if_neg h5] at h
   refine brS (fun h6=>?_) (fun h6=>?_)
   ·rw [if_pos h6] at h
    split at h
    ·cases h
    rename_i b r2 hb2
    split at h
    ·cases h
    rename_i c r3 hb3
    cases h
    exact And.intro (by omega) (call1 [1000] ihA rfl rfl (za _) (call1 [1000] (z6l s hs r1 58) rfl rfl (za _) (And.intro (by omega) (call1 [1000] (ih (deep+1) _ b r2 hb2 (by omega) (by omega)) rfl rfl (za _) (call1 [1000] (z6l s hs r2 46) rfl rfl (za _) (And.intro (by omega) (callW [1000] 1000 _ (ih (deep+1) _ c r' hb3 (by omega) (by omega)) rfl rfl (za _) rfl rfl ⟨tv3 _ _ _ [] _ _ _,rfl⟩)))))))
   rw [if_neg h6] at h
   split at h
   ·cases h
   rename_i b r2 hb2
   cases h
   refine And.intro (by omega) (call1 [1000] ihA rfl rfl (za _) (call1 [1000] (z6l s hs r1 46) rfl rfl (za _) (And.intro (by omega) (callW [1000] 1000 _ (ih (deep+1) _ b r' hb2 (by omega) (by omega)) rfl rfl (za _) rfl rfl (brS (fun h7=>?_) (fun h7=>?_))))))
   ·rw [if_pos h7];exact ⟨tv2 _ _ _ [] _ _,rfl⟩
   ·rw [if_neg h7];exact ⟨tv2 _ _ _ [] _ _,rfl⟩
theorem zqe (s:ByteArray) (hs:s.size<=4000) (t:Trm) (p e:Int) (h:zf9 s=some (t,p,e)):PCon Tryz.prog 75 [.p (St s)] (.tp [tv t,.p (I p),.p (I e)]):=by
 unfold zf9 at h
 split at h
 ·cases h
 rename_i t0 r ht
 refine cv [] [] [] Tryz.func75 33 Tryz.ntmps75 rfl rfl fun cx hE=>brZ (by omega) (callX [13] ((zjb s (by omega) 110 1 ⟨0,0,0,2000,0⟩ t0 r ht (by omega) (by omega)).sw 1000 13) rfl rfl (za _) fun x o ⟨_,_,⟨e1,e2⟩,e3,e4⟩=>?_)
 subst e1 e2 e3 e4
 refine callX [13] ((zx2 s (by omega) r).sw 1000 13) rfl rfl (za _) fun x o ⟨_,_,⟨e1,e2⟩,e3,e4⟩=>?_
 subst e1 e2 e3 e4
 refine brS (fun h1=>?_) (fun h1=>?_)
 ·rw [if_pos h1] at h;cases h;exact ⟨rfl,rfl⟩
 ·rw [if_neg h1] at h;cases h;exact ⟨rfl,rfl⟩
theorem zt0 (s:ByteArray) (hs:s.size<=4000) (h:(zf9 s).isSome=true):PCon Tryz.prog 33 [.p (St s)] (tv (trmOf s)):=by
 cases hx:zf9 s with
 | none=>rw [hx] at h;cases h
 | some q =>
   obtain ⟨t,p,e⟩:=q
   have ht:trmOf s=t:=by unfold trmOf;rw [hx]
   rw [ht]
   exact cv [] [] [] Tryz.func33 13 Tryz.ntmps33 rfl rfl fun cx hE=>call0 (zqe s hs t p e hx) ⟨rfl,rfl⟩
def rwI (l:List Int):List (List PV):=l.map fun n=>[I n]
@[simp] theorem zz3g (l:List Int):(rwI l).length=l.length:=by simp [rwI]
theorem zz29 {l:List Int} {n:Int} (h0:0<=n) (h1:n<l.length):rowAt (rwI l) n=[I (l.getD n.toNat 0)]:=by
 have h:n.toNat<l.length:=by omega
 simp [rowAt,rwI,List.getD_eq_getElem?_getD,h]
theorem zo2 (ps:Int) (t:Lvl) (d:Int):wholL ps t d=if d>32\/argL t.kind≠t.args.length then false else if t.kind=4/\(t.n<0\/t.n≥ps)\/t.kind≠4/\t.n≠0 then false else zj4 ps t.args d:=by cases t;rfl
theorem zan (ps:Int) (d:Int):∀ l:List Lvl,zj4 ps l d=l.all fun a=>wholL ps a (d+1)
 | []=>rfl
 | a::r=>by simp [zj4,zan ps d r]
theorem zo3 {ps:Int} {t:Lvl} {d:Int} (h:wholL ps t d=true):argL t.kind=t.args.length/\∀ a∈t.args,wholL ps a (d+1)=true:=by
 rw [zo2] at h
 split at h
 ·cases h
 ·split at h
  ·cases h
  ·rename_i h1 h2
   rw [zan,List.all_eq_true] at h
   exact ⟨by omega,h⟩
theorem zt1 (at_:List Int) (t:Lvl):rEvF at_ t=if t.kind=1 then (rEvs at_ t.args).getD 0 0+1 else if t.kind=2 then max ((rEvs at_ t.args).getD 0 0) ((rEvs at_ t.args).getD 1 0)
 else if t.kind=3 then (if (rEvs at_ t.args).getD 1 0=0 then 0 else max ((rEvs at_ t.args).getD 0 0) ((rEvs at_ t.args).getD 1 0))
 else if t.kind=4 then (if 0<=t.n/\t.n<at_.length then min (max (at_.getD t.n.toNat 0) 0) 1099511627776 else 0) else 0:=by cases t;rfl
theorem zjc (at_:List Int):∀ (l:List Lvl) (i:Nat),i<l.length->(rEvs at_ l).getD i 0=rEvF at_ (l.getD i ⟨0,0,[]⟩)
 | [],i,h=>by simp at h
 | a::r,0,h=>by simp [rEvs]
 | a::r,i+1,h=>by
   have:=zjc at_ r i (by simpa using h)
   simpa [rEvs] using this
theorem zjd:∀ {l:List Lvl} {a:Lvl},a∈l->prtL a<=prtLs l
 | b::r,a,h=>by
   simp only [prtLs]
   rcases List.mem_cons.1 h with rfl | h
   ·omega
   ·have:=zjd h;omega
mutual
theorem zz0d (at_:List Int):∀ t:Lvl,0<=rEvF at_ t/\rEvF at_ t<=1099511627776+(prtL t:Int)
 | ⟨k,n,l⟩=>by
   have h:=zlv at_ l
   have h0:=h 0
   have h1:=h 1
   rw [zt1]
   simp only [prtL]
   repeat' split
   all_goals omega
theorem zlv (at_:List Int):∀ (l:List Lvl) (i:Nat),0<=(rEvs at_ l).getD i 0/\(rEvs at_ l).getD i 0<=1099511627776+(prtLs l:Int)
 | [],i=>by simp [rEvs,prtLs]
 | a::r,0=>by
   have:=zz0d at_ a
   simp only [rEvs,prtLs,List.getD_cons_zero]
   omega
 | a::r,i+1=>by
   have:=zlv at_ r i
   simp only [rEvs,prtLs,List.getD_cons_succ]
   omega
end
theorem zt2 (k:Int):PCon Tryz.prog 140 [.p (I k)] (.p (I (argL k))):=by
 refine cv [] [] [] Tryz.func140 12 Tryz.ntmps140 rfl rfl fun cx hE=>?_
 repeat' (first | refine brS (fun _=>?_) (fun _=>?_) | refine fun _=>?_)
 all_goals exact ⟨I_eq (by unfold argL;repeat' (first | omega | split)),rfl⟩
theorem zfd (ps:Int) (l:Lvl):∀ d:Int,0<=d->d<=1000->PCon Tryz.prog 101 [lv l,.p (I ps),.p (I d)] (.p (B (wholL ps l d))):=by
 intro d h0 h1
 have ih:∀ a∈l.args,∀ d:Int,0<=d->d<=1000->PCon Tryz.prog 101 [lv a,.p (I ps),.p (I d)] (.p (B (wholL ps a d))):=fun a ha d h0 h1=>zfd ps a d h0 h1
 have he:=zo2 ps l d
 rw [zan] at he
 have hel:=zq l.args
 refine cv [] [1,3] [] Tryz.func101 60 Tryz.ntmps101 rfl rfl fun cx hE=>?_
 refine seq0 [(18,.p (B (decide (d>32\/argL l.kind≠l.args.length))))] [] [18] [] [] hE rfl rfl rfl ?_ ?_
 ·refine brS (fun h2=>?_) (fun h2=>?_)
  ·exact ⟨Sub.bt (by omega),rfl,trivial⟩
  ·refine call0 (zt2 _) ?_
   exact ⟨Sub.b (by rw [Bool.eq_iff_iff];simp;omega),rfl,trivial⟩
 refine brS (fun h2=>⟨B_eq (by rw [he,if_pos h2]),rfl⟩) (fun h2=>?_)
 refine seq0 [(42,.p (B (decide (l.kind=4/\(l.n<0\/l.n≥ps)\/l.kind≠4/\l.n≠0))))] [] [42] [] [] hE rfl rfl rfl ?_ ?_
 ·repeat' (first | refine brS (fun _=>?_) (fun _=>?_) | refine brN (fun _=>?_) (fun _=>?_) | refine fun _=>?_)
  all_goals first | exact ⟨Sub.bd (by omega),rfl,trivial⟩ | exact ⟨Sub.bt (by omega),rfl,trivial⟩ | exact ⟨Sub.bf (by omega),rfl,trivial⟩ | exact ⟨Sub.b (by rw [Bool.eq_iff_iff];simp;omega),rfl,trivial⟩
 refine brS (fun h3=>⟨B_eq (by rw [he,if_neg h2,if_pos h3]),rfl⟩) (fun h3=>?_)
 rw [if_neg h2,if_neg h3] at he
 refine loopP l.args (fun p=>[(7,.p (I p.length))]) (fun p=>[]) (fun p=>(p.all fun a=>wholL ps a (d+1))=true) [7] [] hE rfl rfl rfl ⟨Sub.refl _,rfl,trivial⟩ rfl (fun hp=>fun _=>brLe ⟨B_eq (by rw [he,hp]),rfl⟩) (fun p a q hq hp=>fun _=>brL hq (idxL hq (And.intro (by omega) (call0 (ih a (zg hq) (d+1) (by omega) (by omega)) (brB (fun hb=>⟨B_eq ?_,rfl⟩) (fun hb=>And.intro (by have:=zj hq;omega) ⟨?_,Sub.i (by simp),rfl,trivial⟩))))))
 ·have hb':wholL ps a (d+1)=false:=by simpa using hb
  rw [he,hq];simp [hb']
 ·have hb':wholL ps a (d+1)=true:=by simpa using hb
  rw [List.all_append,hp];simp [hb']
termination_by SizeOf.sizeOf l
decreasing_by exact Lvl.lt ha
theorem zt3 (l:Lvl) (n:Int) (hn:-1000000000000<=n) (hn1:n<=1000000000000):PCon Tryz.prog 47 [lv l,.p (I n)] (.p (B (mayLF l n))):=by
 refine cv [] [] [] Tryz.func47 15 Tryz.ntmps47 rfl rfl fun cx hE=>call0 (zam l 64 (by omega) (by omega)) (brS (fun h=>call0 (zfd _ l 1 (by omega) (by omega)) ⟨B_eq ?_,rfl⟩) (fun h=>⟨B_eq ?_,rfl⟩))
 ·unfold mayLF;rw [decide_eq_true (by omega)];rfl
 ·unfold mayLF;rw [decide_eq_false (by omega)];rfl
theorem zje (at_:List Int) (hat:at_.length<=1000) (ps:Int) (l:Lvl):∀ d:Int,wholL ps l d=true->prtL l<=1000000->PCon Tryz.prog 142 [lv l,.p (.sl 1 (rwI at_))] (.p (I (rEvF at_ l))):=by
 intro d hw hp
 have ih:∀ a∈l.args,PCon Tryz.prog 142 [lv a,.p (.sl 1 (rwI at_))] (.p (I (rEvF at_ a))):=fun a ha=>zje at_ hat ps a (d+1) ((zo3 hw).2 a ha) (by have:=zjd ha;have:=zh1 l;omega)
 have he:=zt1 at_ l
 have hb:=zlv at_ l.args
 have hpl:=zh1 l
 have hn:=(zo3 hw).1
 have hel:=zq l.args
 have get:∀ i:Nat,i<l.args.length->rowAt (encLs l.args) (i:Int)=rowL (l.args.getD i ⟨0,0,[]⟩)/\l.args.getD i ⟨0,0,[]⟩∈l.args:=fun i hi=>by
  have:=zaf (l:=l.args) (n:=(i:Int)) (by omega) (by omega)
  simpa using this
 have ev:∀ i:Nat,i<l.args.length->PCon Tryz.prog 142 [lv (l.args.getD i ⟨0,0,[]⟩),.p (.sl 1 (rwI at_))] (.p (I ((rEvs at_ l.args).getD i 0))):=fun i hi=>by rw [zjc at_ _ i hi];exact ih _ (get i hi).2
 refine cv [] [] [] Tryz.func142 69 Tryz.ntmps142 rfl rfl fun cx hE=>brS (fun h1=>?_) (fun h1=>brS (fun h2=>?_) (fun h2=>brS (fun h3=>?_) (fun h3=>brS (fun h4=>brS (fun h5=>fun _=>brS (fun h6=>?_) (fun h6=>⟨I_eq ?_,rfl⟩)) (fun h5=>⟨I_eq ?_,rfl⟩)) (fun h4=>⟨I_eq ?_,rfl⟩))))
 ·have hl:l.args.length=1:=by rw [h1] at hn;simp [argL] at hn;omega
  refine idx1 (by omega) (by omega) (get 0 (by omega)).1 (call0 (ev 0 (by omega)) (And.intro (by have:=hb 0;omega) ⟨I_eq ?_,rfl⟩))
  rw [he,if_pos h1]
 ·have hl:l.args.length=2:=by rw [h2] at hn;simp [argL] at hn;omega
  refine idx1 (by omega) (by omega) (get 0 (by omega)).1 (call0 (ev 0 (by omega)) (idx1 (by omega) (by omega) (get 1 (by omega)).1 (call0 (ev 1 (by omega)) ⟨I_eq ?_,rfl⟩)))
  rw [he,if_neg h1,if_pos h2]
 ·have hl:l.args.length=2:=by rw [h3] at hn;simp [argL] at hn;omega
  refine idx1 (by omega) (by omega) (get 1 (by omega)).1 (call0 (ev 1 (by omega)) (brS (fun h4=>⟨I_eq ?_,rfl⟩) (fun h4=>idx1 (by omega) (by omega) (get 0 (by omega)).1 (call0 (ev 0 (by omega)) ⟨I_eq ?_,rfl⟩))))
  ·rw [he,if_neg h1,if_neg h2,if_pos h3,if_pos h4]
  ·rw [he,if_neg h1,if_neg h2,if_pos h3,if_neg h4]
 ·have h6':l.n<at_.length:=by simpa using h6
  refine idx1 (by omega) (by simpa using h6') (zz29 (by omega) h6') ⟨I_eq ?_,rfl⟩
  rw [he,if_neg h1,if_neg h2,if_neg h3,if_pos h4,if_pos ⟨by omega,h6'⟩]
 ·have h6':¬ l.n<at_.length:=by simpa using h6
  rw [he,if_neg h1,if_neg h2,if_neg h3,if_pos h4,if_neg (by omega)]
 ·rw [he,if_neg h1,if_neg h2,if_neg h3,if_pos h4,if_neg (by omega)]
 ·rw [he,if_neg h1,if_neg h2,if_neg h3,if_neg h4]
termination_by SizeOf.sizeOf l
decreasing_by exact Lvl.lt ha
theorem zfe (n:Int):PCon Tryz.prog 93 [.p (I n)] (lv ⟨4,n,[]⟩):=cv [] [] [] Tryz.func93 5 Tryz.ntmps93 rfl rfl fun cx hE=>⟨rfl,rfl⟩
theorem zt4:PCon Tryz.prog 94 [] (lv zL):=cv [] [] [] Tryz.func94 2 Tryz.ntmps94 rfl rfl fun cx hE=>⟨rfl,rfl⟩
theorem zt5 (k:Int):PCon Tryz.prog 163 [.p (I k)] (.p (I (argF k))):=by
 refine cv [] [] [] Tryz.func163 14 Tryz.ntmps163 rfl rfl fun cx hE=>?_
 repeat' (first | refine brS (fun _=>?_) (fun _=>?_) | refine fun _=>?_)
 all_goals exact ⟨I_eq (by unfold argF;repeat' (first | omega | split)),rfl⟩
def wholA (t:Trm):Prop:=argF t.kind≠t.args.length\/(t.kind≠0/\t.n≠0)\/t.n<0\/t.n>1073741824\/(t.kind≠2/\t.name≠⟨#[]⟩)
instance (t:Trm):Decidable (wholA t):=by unfold wholA;infer_instance
theorem zx3 {t:Trm} (h:¬ wholA t):wholP t=decide (t.kind=2\/(t.kind=1/\t.levels.length=1)\/(t.kind≠1/\t.levels.length=0)):=by
 simp only [wholA,not_or,Classical.not_not,not_and] at h
 obtain ⟨h1,h2,h3,h4,h5⟩:=h
 rw [Bool.eq_iff_iff]
 simp only [wholP,Bool.and_eq_true,decide_eq_true_eq]
 constructor
 ·rintro ⟨_,_,_,_,h⟩
  split at h
  ·have:=of_decide_eq_true h;omega
  ·have:=of_decide_eq_true h;omega
 ·intro h
  refine ⟨by omega,by omega,fun hk=>h2 hk,fun hk=>h5 hk,?_⟩
  split
  ·exact decide_eq_true (by omega)
  ·exact decide_eq_true (by omega)
theorem zx4 {t:Trm} (h:wholA t):wholP t=false:=by
 rw [Bool.eq_false_iff]
 intro hw
 simp only [wholP,Bool.and_eq_true,decide_eq_true_eq] at hw
 obtain ⟨h1,h2,h3,h4,_⟩:=hw
 rcases h with h | h | h | h | h
 ·omega
 ·exact h.2 (h3 h.1)
 ·rcases Classical.em (t.kind=0) with hk | hk
  ·have:=h2 hk;omega
  ·have:=h3 hk;omega
 ·rcases Classical.em (t.kind=0) with hk | hk
  ·have:=h2 hk;omega
  ·have:=h3 hk;omega
 ·exact h.2 (h4 h.1)
set_option maxHeartbeats 4000000 in
theorem zt6 (t:Trm):PCon Tryz.prog 118 [tv t] (.p (B (wholP t))):=by
 have hel:=zq t.levels
 have het:=zc t.args
 refine cv [] [1] [] Tryz.func118 65 Tryz.ntmps118 rfl rfl fun cx hE=>?_
 refine seq0 [(39,.p (B (decide (wholA t))))] [] [39] [] [] hE rfl rfl rfl ?_ ?_
 ·have R:wholA t->Sub (.p (B true)) (.p (B (decide (wholA t)))):=fun h=>Sub.bt h
  have nm:¬ (argF t.kind≠t.args.length\/(t.kind≠0/\t.n≠0)\/t.n<0\/t.n>1073741824)->t.kind≠2->decide (t.name≠⟨#[]⟩)=decide (wholA t):=fun h1 h2=>by
   rcases Classical.em (t.name=⟨#[]⟩) with e | e
   ·rw [decide_eq_false (show ¬ wholA t by simp only [wholA,e,ne_eq,not_true,and_false,or_false];simpa using h1),decide_eq_false (by simpa using e)]
   ·rw [decide_eq_true (show wholA t from .inr (.inr (.inr (.inr ⟨h2,e⟩)))),decide_eq_true e]
  refine call0 (zt5 _) ?_
  refine brS (fun h1=>?_) (fun h1=>brS (fun h2=>brS (fun h3=>?_) (fun h3=>?_)) (fun h2=>?_))
  ·exact ⟨R (.inl (by omega)),rfl,trivial⟩
  ·exact ⟨R (.inr (.inl ⟨h2,h3⟩)),rfl,trivial⟩
  ·refine brS (fun h4=>⟨R (.inr (.inr (.inl h4))),rfl,trivial⟩) (fun h4=>brS (fun h5=>⟨R (.inr (.inr (.inr (.inl h5)))),rfl,trivial⟩) (fun h5=>brS (fun h6=>⟨Sub.b (nm (by omega) h6),rfl,trivial⟩) (fun h6=>⟨Sub.bf (by unfold wholA;omega),rfl,trivial⟩)))
  ·refine brS (fun h4=>⟨R (.inr (.inr (.inl h4))),rfl,trivial⟩) (fun h4=>brS (fun h5=>⟨R (.inr (.inr (.inr (.inl h5)))),rfl,trivial⟩) (fun h5=>brS (fun h6=>⟨Sub.b (nm (by omega) h6),rfl,trivial⟩) (fun h6=>⟨Sub.bf (by unfold wholA;omega),rfl,trivial⟩)))
 refine brS (fun h=>⟨B_eq (zx4 h).symm,rfl⟩) (fun h=>?_)
 rw [zx3 h]
 have e:=fun (b:Bool) (hb:b=true↔(t.kind=2\/(t.kind=1/\t.levels.length=1)\/(t.kind≠1/\t.levels.length=0)))=>B_eq (show b=decide (t.kind=2\/(t.kind=1/\t.levels.length=1)\/(t.kind≠1/\t.levels.length=0)) by rw [Bool.eq_iff_iff,hb];simp)
 refine brS (fun h1=>⟨e _ ⟨fun _=>.inl h1,fun _=>rfl⟩,rfl⟩) (fun h1=>brS (fun h2=>fun _=>brS (fun h3=>⟨e _ ⟨fun _=>.inr (.inl ⟨h2,by omega⟩),fun _=>rfl⟩,rfl⟩) (fun h3=>brS (fun h4=>?_) (fun h4=>⟨e _ (by simp;omega),rfl⟩))) (fun h2=>brS (fun h4=>fun _=>⟨e _ (by simp only [decide_eq_true_eq];omega),rfl⟩) (fun h4=>?_)))
 ·omega
 ·omega
theorem zt7 (t:Trm) (left:Int):rWhT t left=if left-1<0\/wholP t=false then none else rWhTs t.args (left-1):=by cases t;rfl
mutual
theorem zz0e:∀ (t:Trm) (left n:Int),rWhT t left=some n->0<=n/\n<left
 | ⟨k,m,s,ls,l⟩,left,n,h=>by
   rw [zt7] at h
   split at h
   ·cases h
   ·have:=zh6 l (left-1) n (by omega) h;omega
theorem zh6:∀ (l:List Trm) (left n:Int),0<=left->rWhTs l left=some n->0<=n/\n<=left
 | [],left,n,h0,h=>by simp only [rWhTs] at h;cases h;omega
 | a :: r,left,n,h0,h=>by
   simp only [rWhTs] at h
   split at h
   ·cases h
   ·rename_i m hm
    have h1:=zz0e a left m hm
    have h2:=zh6 r m n (by omega) h
    omega
end
theorem zdi:∀ (p q:List Trm) (left:Int),rWhTs (p++q) left=(rWhTs p left).bind (rWhTs q)
 | [],q,left=>rfl
 | a::p,q,left=>by
   simp only [List.cons_append,rWhTs]
   cases rWhT a left with
   | none=>rfl
   | some n=>exact zdi p q n
def whV (o:Option Int):AV:=match o with
 | none=>.tp [.p (I (-1)),.p (B false)]
 | some n=>.tp [.p (I n),.p (B true)]
theorem zff (t:Trm):∀ left:Int,0<=left->left<=1048576->PCon Tryz.prog 68 [tv t,.p (I left)] (whV (rWhT t left)):=by
 intro left h0 h1
 have ih:∀ a∈t.args,∀ left:Int,0<=left->left<=1048576->PCon Tryz.prog 68 [tv a,.p (I left)] (whV (rWhT a left)):=fun a ha left h0 h1=>zff a left h0 h1
 have he:=zt7 t left
 have het:=zc t.args
 refine cv [] [2] [] Tryz.func68 39 Tryz.ntmps68 rfl rfl fun cx hE=>And.intro (by omega) ?_
 refine seq0 [(17,.p (B (decide (left-1<0\/wholP t=false))))] [] [17] [] [] hE rfl rfl rfl ?_ ?_
 ·refine brS (fun h=>⟨Sub.bt (.inl h),rfl,trivial⟩) (fun h=>call0 (zt6 t) ⟨Sub.b ?_,rfl,trivial⟩)
  rw [Bool.eq_iff_iff];simp;omega
 refine brS (fun h=>⟨by rw [he,if_pos h];rfl,rfl⟩) (fun h=>?_)
 rw [if_neg h] at he
 have ev:∀ p a q,t.args=p++a::q->rWhTs p (left-1)=some ((rWhTs p (left-1)).getD 0)->rWhTs t.args (left-1)=(rWhT a ((rWhTs p (left-1)).getD 0)).bind (rWhTs q)/\rWhTs (p++[a]) (left-1)=rWhT a ((rWhTs p (left-1)).getD 0):=fun p a q hq hp=>by
  refine ⟨?_,?_⟩
  ·rw [hq,zdi,hp];simp only [Option.getD_some,Option.bind_some,rWhTs];cases rWhT a ((rWhTs p (left-1)).getD 0)<;>rfl
  ·rw [zdi,hp];simp only [Option.getD_some,Option.bind_some,rWhTs];cases rWhT a ((rWhTs p (left-1)).getD 0)<;>rfl
 refine loopP t.args (fun p=>[(6,.p (I p.length)),(1,.p (I ((rWhTs p (left-1)).getD 0)))]) (fun p=>[]) (fun p=>rWhTs p (left-1)=some ((rWhTs p (left-1)).getD 0)) [6,1] [] hE rfl rfl rfl ⟨Sub.refl _,Sub.refl _,rfl,trivial⟩ rfl (fun hp=>fun _=>brTe ⟨by rw [he,hp];rfl,rfl⟩) (fun p a q hq hp=>?_)
 have hle:=zh6 p (left-1) _ (by omega) hp
 have hlt:=zj hq
 obtain ⟨e1,e2⟩:=ev p a q hq hp
 refine fun _=>brT' hq (idxT hq (call0 (ih a (zg hq) _ (by omega) (by omega)) ?_))
 cases hx:rWhT a ((rWhTs p (left-1)).getD 0) with
 | none =>
   rw [hx] at e1
   exact brT ⟨by rw [he,e1];rfl,rfl⟩
 | some n =>
   rw [hx] at e2
   exact brF (And.intro (by omega) ⟨by rw [e2];rfl,Sub.i (by simp),by rw [e2];exact Sub.refl _,rfl,trivial⟩)
termination_by SizeOf.sizeOf t
decreasing_by exact Trm.lt ha
theorem zfg (t:Trm):∀ most:Int,-1000000<=most->most<=1000000->PCon Tryz.prog 161 [tv t,.p (I most)] (.p (I (min (dpT t:Int) (max most 0+1)))):=by
 intro most h0 h1
 have ih:∀ a∈t.args,∀ m:Int,-1000000<=m->m<=1000000->PCon Tryz.prog 161 [tv a,.p (I m)] (.p (I (min (dpT a:Int) (max m 0+1)))):=fun a ha m h0 h1=>zfg a m h0 h1
 have he:=z5g t
 have app:∀ (p:List Trm) (a:Trm),dpTs (p++[a])=max (dpTs p) (dpT a):=fun p a=>by
  induction p with
  | nil=>simp [dpTs]
  | cons b r ihp=>simp only [List.cons_append,dpTs,ihp];omega
 refine cv [] [] [] Tryz.func161 30 Tryz.ntmps161 rfl rfl fun cx hE=>brS (fun hz=>⟨I_eq (by omega),rfl⟩) (fun hz=>?_)
 refine loopP t.args (fun p=>[(6,.p (I p.length)),(5,.p (I (min (dpTs p:Int) (max most 0))))]) (fun p=>[]) (fun _=>True) [6,5] [] hE rfl rfl rfl ⟨Sub.refl _,Sub.i (by simp [dpTs];omega),rfl,trivial⟩ trivial (fun _=>fun _=>brTe (And.intro (by omega) ⟨I_eq (by omega),rfl⟩)) (fun p a q hq _=>fun _=>brT' hq (idxT hq (And.intro (by omega) (call0 (ih a (zg hq) _ (by omega) (by omega)) (And.intro ?_ ⟨trivial,Sub.i (by simp),Sub.i (by rw [app];omega),rfl,trivial⟩)))))
 have:=zj hq
 have hel:=zc t.args
 omega
termination_by SizeOf.sizeOf t
decreasing_by exact Trm.lt ha
theorem zx5 (ps:Int) (t:Trm) (b:Int):rMay_ ps t b=if t.kind=0/\t.n≥b then 8 else if t.levels.length>4 then 7 else if (t.levels.all fun x=>mayLF x ps)=false then 7
 else if t.kind=2/\(t.name=⟨#[]⟩\/t.name.size>24) then 9 else rMays ps t.kind t.args 0 b:=by cases t;rfl
theorem zdj (ps k:Int):∀ (p q:List Trm) (i b:Int),rMays ps k p i b=0->rMays ps k (p++q) i b=rMays ps k q (i+p.length) b
 | [],q,i,b,_=>by simp
 | a :: p,q,i,b,h=>by
   simp only [rMays] at h
   rcases Classical.em (rMay_ ps a (if b<=1073741824 then b+bndF k i else b)≠0) with h1 | h1
   ·rw [if_pos h1] at h;exact absurd h h1
   ·rw [if_neg h1] at h
    simp only [List.cons_append,rMays]
    rw [if_neg h1,zdj ps k p q (i+1) b h]
    congr 1
    simp;omega
theorem zo4 (ps:Int) (hp0:-1000000000000<=ps) (hp1:ps<=1000000000000) (t:Trm):∀ b:Int,0<=b->b<=1073741825->PCon Tryz.prog 225 [tv t,.p (I b),.p (I ps)] (.p (I (rMay_ ps t b))):=by
 intro b h0 h1
 have ih:∀ a∈t.args,∀ b:Int,0<=b->b<=1073741825->PCon Tryz.prog 225 [tv a,.p (I b),.p (I ps)] (.p (I (rMay_ ps a b))):=fun a ha b h0 h1=>zo4 ps hp0 hp1 a b h0 h1
 have he:=zx5 ps t b
 have hel:=zq t.levels
 have het:=zc t.args
 refine cv [] [1,10,17] [] Tryz.func225 80 Tryz.ntmps225 rfl rfl fun cx hE=>?_
 refine seq0 [(19,.p (B (decide (t.kind=0/\t.n≥b))))] [] [19] [] [] hE rfl rfl rfl ?_ ?_
 ·refine brS (fun h=>⟨Sub.bd (by omega),rfl,trivial⟩) (fun h=>⟨Sub.bf (by omega),rfl,trivial⟩)
 refine brS (fun h2=>⟨I_eq (by rw [he,if_pos h2]),rfl⟩) (fun h2=>?_)
 rw [if_neg h2] at he
 refine fun _=>brS (fun h3=>⟨I_eq (by rw [he,if_pos (by omega)]),rfl⟩) (fun h3=>?_)
 rw [if_neg (by omega)] at he
 refine loopP t.levels (fun p=>[(7,.p (I p.length))]) (fun p=>[]) (fun p=>(p.all fun x=>mayLF x ps)=true) [7] [] hE rfl rfl rfl ⟨Sub.refl _,rfl,trivial⟩ rfl (fun h4=>fun _=>brLe ?_) (fun p a q hq hp=>fun _=>brL hq (idxL hq (call0 (zt3 a ps hp0 hp1) (brB (fun hb=>⟨I_eq ?_,rfl⟩) (fun hb=>And.intro (by have:=zj hq;omega) ⟨?_,Sub.i (by simp),rfl,trivial⟩)))))
 ·rw [if_neg (by rw [h4];simp)] at he
  refine seq0 [(52,.p (B (decide (t.kind=2/\(t.name=⟨#[]⟩\/t.name.size>24)))))] [] [52] [] [] hE rfl rfl rfl ?_ ?_
  ·refine brS (fun h5=>brS (fun h6=>⟨Sub.bt ⟨h5,.inl h6⟩,rfl,trivial⟩) (fun h6=>⟨Sub.b ?_,rfl,trivial⟩)) (fun h5=>⟨Sub.bf (by simp [h5]),rfl,trivial⟩)
   rw [Bool.eq_iff_iff];simp [h5,h6];omega
  refine brS (fun h5=>⟨I_eq (by rw [he,if_pos h5]),rfl⟩) (fun h5=>?_)
  rw [if_neg h5] at he
  refine loopP t.args (fun p=>[(8,.p (I p.length))]) (fun p=>[]) (fun p=>rMays ps t.kind p 0 b=0) [8] [] hE rfl rfl rfl ⟨Sub.refl _,rfl,trivial⟩ rfl (fun h6=>fun _=>brTe ⟨I_eq (by rw [he,h6]),rfl⟩) (fun p a q hq hp=>fun _=>brT' hq ?_)
  have hlt:=zj hq
  have ebr:=zdj ps t.kind p (a::q) 0 b hp
  have enx:=zdj ps t.kind p [a] 0 b hp
  rw [<- hq] at ebr
  simp only [rMays,Int.zero_add] at ebr enx
  have hbb:0<=bndF t.kind p.length/\bndF t.kind p.length<=1:=by unfold bndF;split<;>omega
  refine seq0 [(9,.p (I (if b<=1073741824 then b+bndF t.kind p.length else b)))] [] [9] [] [] hE rfl rfl rfl ?_ ?_
  ·refine brS (fun h6=>call0 (z4g _ _) (And.intro (by omega) ⟨Sub.i (by rw [if_pos h6]),rfl,trivial⟩)) (fun h6=>⟨Sub.i (by rw [if_neg h6]),rfl,trivial⟩)
  refine idxT hq (call0 (ih a (zg hq) _ (by split<;>omega) (by split<;>omega)) (brS (fun h7=>⟨I_eq ?_,rfl⟩) (fun h7=>And.intro (by omega) ⟨?_,Sub.i (by simp),rfl,trivial⟩)))
  ·rw [he,ebr,if_pos h7]
  ·rw [enx,if_neg h7]
 ·have hb':mayLF a ps=false:=by simpa using hb
  rw [he,if_pos]
  rw [hq];simp [hb']
 ·have hb':mayLF a ps=true:=by simpa using hb
  rw [List.all_append,hp];simp [hb']
termination_by SizeOf.sizeOf t
decreasing_by exact Trm.lt ha
theorem zo5 (t:Trm) (b ps:Int) (hb0:-1000000000000<=b) (hb1:b<=1000000) (hp0:-1000000000000<=ps) (hp1:ps<=1000000000000):PCon Tryz.prog 199 [tv t,.p (I b),.p (I ps)] (.p (I (rMayF t b ps))):=by
 have he:rMayF t b ps=if rWhT t 1048576=none then 5 else if sizT t>2000 then 3 else if dpT t>100 then 6 else rMay_ ps t (max b 0):=rfl
 refine cv [] [] [] Tryz.func199 27 Tryz.ntmps199 rfl rfl fun cx hE=>call0 (zff t 1048576 (by omega) (by omega)) ?_
 cases hx:rWhT t 1048576 with
 | none=>exact brT ⟨I_eq (by rw [he,if_pos hx]),rfl⟩
 | some n =>
   rw [if_neg (by rw [hx];simp)] at he
   refine brF (call0 (zd9 t 2000 (by omega) (by omega)) (brS (fun h=>⟨I_eq ?_,rfl⟩) (fun h=>call0 (zfg t 100 (by omega) (by omega)) (brS (fun h2=>⟨I_eq ?_,rfl⟩) (fun h2=>call0 (zo4 ps hp0 hp1 t _ (by omega) (by omega)) ⟨I_eq ?_,rfl⟩)))))
   ·unfold mSz at h;rw [he,if_pos (by omega)]
   ·unfold mSz at h;rw [he,if_neg (by omega),if_pos (by omega)]
   ·unfold mSz at h;rw [he,if_neg (by omega),if_neg (by omega)]
def rwS (l:List ByteArray):List (List PV):=l.map fun s=>[St s]
@[simp] theorem zz3h (l:List ByteArray):(rwS l).length=l.length:=by simp [rwS]
theorem zh7:∀ (l:List ByteArray) (s:ByteArray),(insN l s).length<=l.length+1
 | [],s=>by simp [insN]
 | x::r,s=>by
   simp only [insN]
   have:=zh7 r s
   repeat' split
   all_goals (simp;try omega)
theorem zh8:∀ (p q:List ByteArray) (s:ByteArray),(∀ x∈p,Op.bytesLess x.toList s.toList=true)->insN (p++q) s=p++insN q s
 | [],q,s,_=>rfl
 | a::p,q,s,h=>by
   simp only [List.cons_append,insN]
   rw [if_pos (h a (by simp)),zh8 p q s (fun x hx=>h x (by simp [hx]))]
theorem zt8 (l:List ByteArray) (s:ByteArray) (hl:l.length<=1000000000):PCon Tryz.prog 234 [.p (.sl 1 (rwS l)),.p (St s)] (.p (.sl 1 (rwS (insN l s)))):=by
 refine cv [33] [] [] Tryz.func234 45 Tryz.ntmps234 rfl rfl fun cx hE=>?_
 have fin:∀ p q,l=p++q->(∀ x∈p,Op.bytesLess x.toList s.toList=true)->(∀ a r,q=a::r->Op.bytesLess a.toList s.toList=false/\¬ a=s)->insN l s=p++s::q:=fun p q h1 h2 h3=>by
  rw [h1,zh8 p q s h2]
  cases q with
  | nil=>rfl
  | cons a r=>simp only [insN];rw [if_neg (by rw [(h3 a r rfl).1];simp),if_neg (h3 a r rfl).2]
 refine loopP l (fun p=>[(5,.p (I p.length))]) (fun p=>[]) (fun p=>∀ x∈p,Op.bytesLess x.toList s.toList=true) [5] [] hE rfl rfl rfl ⟨Sub.refl _,trivial⟩ (by simp) (fun hp=>fun _=>brOut (by simp) ?_) (fun p a q hq hp=>fun _=>brIn (by simp [hq]) (idxN (z1w (f:=fun s=>[St s]) hq) ?_))
 ·refine fun _=>brOut (by simp) ?_
  refine And.intro (by simp<;>omega) (app2 (by simp) (by simp<;>omega) (by simp<;>omega) (app2 (by simp) (by simp<;>omega) (by simp<;>omega) ?_))
  refine And.intro (by simp<;>omega) (app2 (by simp) (by simp<;>omega) (by simp<;>omega) ⟨?_,rfl⟩)
  rw [fin l [] (by simp) hp (by simp)]
  simp [rwS]
  rw [List.take_of_length_le (by simp),List.drop_of_length_le (by simp)]
 ·refine brB (fun h1=>?_) (fun h1=>?_)
  ·refine And.intro (by have:=zj hq;omega) ⟨?_,Sub.i (by simp),trivial⟩
   intro x hx
   rcases List.mem_append.1 hx with h | h
   ·exact hp x h
   ·rw [List.mem_singleton.1 h];exact h1
  ·refine fun _=>brIn (by simp [hq]) (idxN (z1w (f:=fun s=>[St s]) hq) (brS (fun h2=>⟨?_,rfl⟩) (fun h2=>?_)))
   ·rw [hq,zh8 p _ s hp];simp only [insN];rw [if_neg (by rw [h1];simp),if_pos h2]
   ·have hlt:=zj hq
    refine And.intro (by simp<;>omega) (app2 (by simp) (by simp<;>omega) (by simp<;>omega) (app2 (by simp) (by simp<;>omega) (by simp<;>omega) ?_))
    refine And.intro (by simp<;>omega) (app2 (by simp) (by simp<;>omega) (by simp<;>omega) ⟨?_,rfl⟩)
    rw [fin p (a::q) hq hp (by simp [h1,h2])]
    simp [rwS,hq]
theorem zt9 (t:Trm) (acc:List ByteArray):nmsT t acc=nmsTs t.args (if t.kind=2 then insN acc t.name else acc):=by cases t;rfl
mutual
theorem zx6:∀ (t:Trm) (acc:List ByteArray),(nmsT t acc).length<=acc.length+sizT t
 | ⟨k,n,s,ls,l⟩,acc=>by
   rw [zt9]
   simp only [sizT]
   have:=zdk l (if k=2 then insN acc s else acc)
   have h2:(if k=2 then insN acc s else acc).length<=acc.length+1:=by
    split
    ·exact zh7 _ _
    ·omega
   omega
theorem zdk:∀ (l:List Trm) (acc:List ByteArray),(nmsTs l acc).length<=acc.length+sizTs l
 | [],acc=>by simp [nmsTs]
 | a::r,acc=>by
   simp only [nmsTs,sizTs]
   have:=zx6 a acc
   have:=zdk r (nmsT a acc)
   omega
end
theorem zjf:∀ (p q:List Trm) (acc:List ByteArray),nmsTs (p++q) acc=nmsTs q (nmsTs p acc)
 | [],q,acc=>rfl
 | a::p,q,acc=>by simp only [List.cons_append,nmsTs];exact zjf p q _
theorem zfh (t:Trm):∀ acc:List ByteArray,acc.length+sizT t<=1000000000->PCon Tryz.prog 226 [tv t,.p (.sl 1 (rwS acc))] (.p (.sl 1 (rwS (nmsT t acc)))):=by
 intro acc hl
 have ih:∀ a∈t.args,∀ acc:List ByteArray,acc.length+sizT a<=1000000000->PCon Tryz.prog 226 [tv a,.p (.sl 1 (rwS acc))] (.p (.sl 1 (rwS (nmsT a acc)))):=fun a ha acc h=>zfh a acc h
 have he:=zt9 t acc
 have hs:=z6k t
 have het:=zc t.args
 refine cv [] [2] [] Tryz.func226 28 Tryz.ntmps226 rfl rfl fun cx hE=>?_
 refine seq0 [(1,.p (.sl 1 (rwS (if t.kind=2 then insN acc t.name else acc))))] [] [1] [] [] hE rfl rfl rfl ?_ ?_
 ·refine brS (fun h=>call0 (zt8 acc t.name (by omega)) ⟨Sub.eq (by rw [if_pos h];rfl),rfl,trivial⟩) (fun h=>⟨Sub.eq (by rw [if_neg h];rfl),rfl,trivial⟩)
 have h2:(if t.kind=2 then insN acc t.name else acc).length<=acc.length+1:=by
  split
  ·exact zh7 _ _
  ·omega
 refine loopP t.args (fun p=>[(5,.p (I p.length)),(1,.p (.sl 1 (rwS (nmsTs p (if t.kind=2 then insN acc t.name else acc)))))]) (fun p=>[]) (fun _=>True) [5,1] [] hE rfl rfl rfl ⟨Sub.refl _,Sub.refl _,rfl,trivial⟩ trivial (fun _=>fun _=>brTe ⟨by rw [he],rfl⟩) (fun p a q hq _=>?_)
 have hlt:=zj hq
 have h3:=zdk p (if t.kind=2 then insN acc t.name else acc)
 have h4:=zd8 hq
 refine fun _=>brT' hq (idxT hq (call0 (ih a (zg hq) _ (by omega)) (And.intro (by omega) ⟨trivial,Sub.i (by simp),Sub.eq ?_,rfl,trivial⟩)))
 rw [zjf];rfl
termination_by SizeOf.sizeOf t
decreasing_by exact Trm.lt ha
theorem zqf (t:Trm) (h:sizT t<=1000000):PCon Tryz.prog 200 [tv t] (.p (.sl 1 (rwS (nmsT t [])))):=by
 refine cv [] [] [] Tryz.func200 5 Tryz.ntmps200 rfl rfl fun cx hE=>call0 (zfh t [] (by simp;omega)) ⟨rfl,rfl⟩
theorem z7d (t:Trm) (s:ByteArray) (h:sizT t<=1000000):PCon Tryz.prog 157 [tv t,.p (St s)] (.p (B (nmdT t s))):=by
 refine cv [] [] [] Tryz.func157 9 Tryz.ntmps157 rfl rfl fun cx hE=>call0 (zqf t h) (call0 (zny _ s) ⟨rfl,rfl⟩)
def rwP (L:List (List Int)):List (List PV):=L.map fun l=>[.sl 1 (rwI l)]
@[simp] theorem zlw (L:List (List Int)):(rwP L).length=L.length:=by simp [rwP]
def kthI (k:Nat):Int:=if k=0 then 0 else if k=1 then 1 else 1000
def extI (l:List Int):List (List Int):=[l++[0],l++[1],l++[1000]]
theorem PS.nil1:PS nilS (.sl 1 (rwI [])):=PS.n
theorem zh9:∀ n:Nat,(plcs n).length=3 ^ n
 | 0=>rfl
 | n + 1=>by
   have h:∀ L:List (List Int),(L.flatMap fun p=>[p++[0],p++[1],p++[1000]]).length=3 * L.length:=fun L=>by
    induction L with
    | nil=>rfl
    | cons l r ih=>simp at ih ⊢;omega
   simp only [plcs,h,zh9 n,Nat.pow_succ];omega
theorem zha:∀ (n:Nat) (l:List Int),l∈plcs n->l.length=n
 | 0,l,h=>by simp [plcs] at h;subst h;rfl
 | n+1,l,h=>by
   simp only [plcs,List.mem_flatMap] at h
   obtain ⟨m,h1,h2⟩:=h
   have h3:=zha n m h1
   simp only [List.mem_cons,List.not_mem_nil,or_false] at h2
   rcases h2 with rfl | rfl | rfl<;>simp [h3]
theorem zlx : PCon Tryz.prog 141 [] (.p (.sl 1 (rwP (plcs 4)))):=by
 refine cv [22] [] [] Tryz.func141 38 Tryz.ntmps141 rfl rfl fun cx hE=>?_
 refine loop1 (fun n:Nat=>[(2,.p (I n)),(1,.p (.sl 1 (rwP (plcs n))))]) (fun _=>[]) (fun n=>n<=4) (fun n=>4-n) 0 [2,1] [] hE rfl rfl rfl ⟨Sub.refl _,?_,trivial⟩ (by omega) fun n hn=>?_
 ·exact Sub.rows ⟨⟨PS.nil1,trivial⟩,trivial⟩
 refine brS (fun h1=>?_) (fun h1=>⟨?_,rfl⟩)
 ·refine tokV 3 503 148 1 hE rfl rfl rfl ?_
  have hlen:=zh9 n
  have hpow:3 ^ n<=27:=by
   have:n=0\/n=1\/n=2\/n=3:=by omega
   rcases this with rfl | rfl | rfl | rfl<;>decide
  refine loopP (plcs n) (fun p=>[(4,.p (I p.length)),(3,.ts 503 1 (rwP (p.flatMap extI)))]) (fun p=>[(503,.ar 148 1 (rwP (p.flatMap extI)).length)]) (fun p=>(p.flatMap extI).length=3 * p.length) [4,3] [503] hE rfl rfl rfl ⟨Sub.refl _,Sub.refl _,rfl,trivial⟩ rfl (fun _=>fun _=>brOut (by simp) ?_) (fun p a q hq hp=>fun _=>brIn (by simp [hq]) ?_)
  ·refine And.intro (by omega) ⟨n+1,by omega,by omega,Sub.i (by omega),Sub.tsp rfl,trivial⟩
  ·have hlt:=zj hq
   refine loop1 (fun j:Nat=>[(5,.p (I j)),(3,.ts 503 1 (rwP (p.flatMap extI++(extI a).take j)))]) (fun j=>[(503,.ar 148 1 (rwP (p.flatMap extI++(extI a).take j)).length)]) (fun j=>j<=3) (fun j=>3-j) 0 [5,3] [503] hE rfl rfl rfl ⟨Sub.refl _,Sub.tse (by simp),?_⟩ (by omega) fun j hj=>?_
   ·exact ⟨congrArg (fun z=>Ob.ar 148 1 (rwP z).length) (by simp),trivial⟩
   ·refine brS (fun h2=>?_) (fun h2=>?_)
    ·have hk:([[I 0],[I 1],[I 1000]]:List (List PV))[j]?=some [I (kthI j)]:=by
      have:j=0\/j=1\/j=2:=by omega
      rcases this with rfl | rfl | rfl<;>rfl
     have hal:=zha n a (zg hq)
     have hext:(extI a).length=3:=rfl
     refine idxN (z1w (f:=fun l=>[.sl 1 (rwI l)]) hq) (app2 (by simp) (by simp<;>omega) (by simp<;>omega) ?_)
     refine idxN hk (app2 (by simp) (by simp<;>omega) (by simp<;>omega) ?_)
     refine app1 ?_ ?_ (And.intro (by omega) ⟨j+1,by omega,by omega,Sub.i (by omega),Sub.tse ?_,?_⟩)
     ·simp only [zlw,List.length_append,hp,List.length_take,hext,List.length_cons,List.length_nil];omega
     ·simp only [zlw,List.length_append,hp,List.length_take,hext,List.length_cons,List.length_nil];omega
     ·have e:(extI a).take (j+1)=(extI a).take j++[a++[kthI j]]:=by
       have:j=0\/j=1\/j=2:=by omega
       rcases this with rfl | rfl | rfl<;>rfl
      rw [e];simp [rwP,rwI]
     ·refine ⟨?_,trivial⟩
      refine ar_eq ?_
      simp only [zlw,List.length_append,hp,List.length_take,hext,List.length_cons,List.length_nil];omega
    ·have hj3:j=3:=by omega
     subst hj3
     have e:(p.flatMap extI++(extI a).take 3)=(p++[a]).flatMap extI:=by simp [extI]
     refine And.intro (by omega) ⟨?_,Sub.i (by simp),Sub.tse (by rw [e]),?_⟩
     ·simp only [List.flatMap_append,List.length_append,hp];simp [extI];omega
     ·exact ⟨congrArg (fun z=>Ob.ar 148 1 (rwP z).length) e,trivial⟩
 ·have:n=4:=by omega
  subst this
  rfl
theorem zqg (ps d:Int) (l:Lvl) (hw:wholL ps l d=true) (hp:prtL l<=1000000):PCon Tryz.prog 158 [lv l] (.p (B (rNevF l))):=by
 have h4:=zh9 4
 refine cv [] [] [] Tryz.func158 19 Tryz.ntmps158 rfl rfl fun cx hE=>call0 zlx ?_
 refine loopP (plcs 4) (fun p=>[(4,.p (I p.length))]) (fun p=>[]) (fun p=>(p.all fun p=>decide (¬ rEvF p l=0))=true) [4] [] hE rfl rfl rfl ⟨Sub.refl _,rfl,trivial⟩ rfl (fun hp=>fun _=>brOut (by simp) ⟨B_eq hp.symm,rfl⟩) (fun p a q hq hp2=>fun _=>brIn (by simp [hq]) (idxN (z1w (f:=fun l=>[.sl 1 (rwI l)]) hq) (call0 (zje a (by rw [zha 4 a (zg hq)];omega) ps l d hw hp) (brS (fun h=>⟨B_eq ?_,rfl⟩) (fun h=>And.intro (by have:=zj hq;omega) ⟨?_,Sub.i (by simp),rfl,trivial⟩)))))
 ·unfold rNevF;rw [hq];simp [h]
 ·rw [List.all_append,hp2];simp [h]
end Go.Ab.YtpneaijfkefeaaaGreat
namespace Go.Ab
open Go Go.RowKit
theorem zjg:∀ {l:List Trm} {a:Trm},a∈l->sizT a<=sizTs l
 | b::r,a,h=>by
   simp only [sizTs]
   rcases List.mem_cons.1 h with rfl | h
   ·omega
   ·have:=zjg h;omega
theorem zx7 {t a:Trm} (h:a∈t.args):sizT a+1<=sizT t:=by rw [z6k t];have:=zjg h;omega
structure Fz (n:Nat) (t:Trm):Prop where
 w:wfT 1099511627776 t=true
 s:sizT t<=n
theorem Fz.sub {n:Nat} {t a:Trm} (h:Fz n t) (ha:a∈t.args):Fz n a:=⟨(zf h.w).sub a ha,by have:=zx7 ha;have:=h.s;omega⟩
theorem Fz.d {n:Nat} {t:Trm} (h:Fz n t):dpT t<=n:=Nat.le_trans (zda t) h.s
def okT (t:Trm):Bool:=wfT 1099511627776 t&&decide (sizT t<=100000)
theorem z2q {t:Trm} (h:okT t=true):Fz 100000 t:=by
 simp only [okT,Bool.and_eq_true,decide_eq_true_eq] at h;exact ⟨h.1,h.2⟩
theorem Fz.pi {n:Nat}:∀ t:Trm,Fz n t->(∀ x∈piL t,Fz n x)/\Fz n (piE t)
 | t,h=>by
   rcases Classical.em (t.kind=5/\t.args.length=2) with hk | hk
   ·obtain ⟨x,y,ha⟩:=z3d hk.2
    obtain ⟨e1,e2,_⟩:=z2d hk.1 ha
    have hx:=h.sub (a:=x) (by rw [ha];simp)
    have hy:=h.sub (a:=y) (by rw [ha];simp)
    obtain ⟨h1,h2⟩:=Fz.pi y hy
    rw [e1,e2]
    refine ⟨fun z hz=>?_,h2⟩
    rcases List.mem_cons.1 hz with rfl | hz
    ·exact hx
    ·exact h1 z hz
   ·obtain ⟨e1,e2,_⟩:=z2t hk
    rw [e1,e2];exact ⟨by simp,h⟩
termination_by t=>SizeOf.sizeOf t
decreasing_by exact Trm.lt (by rw [ha];simp)
theorem zly (t:Trm):(piL t).length<=sizT t:=by have:=z3y t;have:=zda t;omega
theorem Fz.spn {n:Nat}:∀ (t:Trm) (acc:List Trm),Fz n t->(∀ a∈acc,Fz n a)->Fz n (spnT t acc).1/\(∀ a∈(spnT t acc).2,Fz n a)/\(spnT t acc).2.length<=acc.length+sizT t
 | ⟨k, m,s,ls,l⟩,acc,h,hacc=>by
   unfold spnT
   split
   ·split
    ·rename_i f a
     have hf:=h.sub (a:=f) (by simp)
     have ha:=h.sub (a:=a) (by simp)
     obtain ⟨h1,h2,h3⟩:=Fz.spn f (a::acc) hf (fun z hz=>by
      rcases List.mem_cons.1 hz with rfl | hz
      ·exact ha
      ·exact hacc z hz)
     refine ⟨h1,h2,?_⟩
     simp only [List.length_cons,sizT,sizTs] at h3 ⊢
     omega
    ·exact ⟨h,hacc,by simp⟩
   ·exact ⟨h,hacc,by simp⟩
theorem Fz.head {n:Nat} {t:Trm} (h:Fz n t):Fz n (headT t):=(Fz.spn t [] h (by simp)).1
theorem Fz.args {n:Nat} {t:Trm} (h:Fz n t):(∀ a∈argsT t,Fz n a)/\(argsT t).length<=sizT t:=by
 have:=Fz.spn t [] h (by simp)
 exact ⟨this.2.1,by simpa [argsT] using this.2.2⟩
end Go.Ab
namespace Go.Ab.YtpneaijfkefeaaaGreat
open Go Go.RowKit Go.Ab Go.Proofs
structure FamD (d:Dcl):Prop where
 t:Fz 100000 d.type
 c:∀ c∈d.ctors,Fz 100000 c.ty/\c.name.size<=1000000
 n:d.name.size<=1000000
 l:d.ctors.length<=1000
 p0:-1000000000000<=d.params
 p1:d.params<=1000000000000
 c0:-1000000000000<=d.count
 c1:d.count<=1000000000000
theorem zqh (n:Nat):parsF (n+1)=parsF n++[⟨4,n,[]⟩]:=by simp [parsF,List.range_succ]
@[simp] theorem zz2a (n:Nat):(parsF n).length=n:=by simp [parsF]
theorem zdl (n:Nat):∀ l∈parsF n,narL l=true:=by
 intro l hl
 simp only [parsF,List.mem_map] at hl
 obtain ⟨i,_,rfl⟩:=hl
 simp [narL,narLs]
theorem z7y (n:Int) (h0:n<=1000000):PCon Tryz.prog 150 [.p (I n)] (.p (.sl 3 (encLs (parsF n.toNat)))):=by
 refine cv [] [] [] Tryz.func150 16 Tryz.ntmps150 rfl rfl fun cx hE=>?_
 refine tokV 3 500 74 3 hE rfl rfl rfl ?_
 refine loop1 (fun i:Nat=>[(4,.p (I i)),(3,.ts 500 3 (encLs (parsF i)))]) (fun i=>[(500,.ar 74 3 (encLs (parsF i)).length)]) (fun i=>i<=n.toNat) (fun i=>n.toNat-i) 0 [4,3] [500] hE rfl rfl rfl ⟨Sub.refl _,Sub.refl _,rfl,trivial⟩ (by omega) fun i hi=>?_
 refine brS (fun h=>call0 (zfe _) (app1 (by simp;omega) (by simp;omega) (And.intro (by omega) ⟨i+1,by omega,by omega,Sub.i (by omega),Sub.tse ?_,ar_eq (by simp),trivial⟩))) (fun h=>⟨?_,rfl⟩)
 ·rw [zqh,<- z6z]
 ·rw [show n.toNat=i by omega]
theorem zlz (d:Dcl) (h:FamD d):PCon Tryz.prog 197 [dv d] (.p (.sl 1 (rwS (famN d)))):=by
 have hn:=h.n
 have hl:=h.l
 refine cv [7] [] [] Tryz.func197 30 Tryz.ntmps197 rfl rfl fun cx hE=>?_
 refine loopP d.ctors (fun p=>[(4,.p (I p.length)),(3,.ts 7 1 (rwS (d.name::p.map (·.name))))]) (fun p=>[(7,.ar 9 1 (rwS (d.name::p.map (·.name))).length)]) (fun _=>True) [4,3] [7] hE rfl rfl rfl ⟨Sub.refl _,Sub.refl _,rfl,rfl,trivial⟩ trivial (fun _=>fun _=>brOut (by simp) ?_) (fun p a q hq _=>fun _=>brIn (by simp [hq]) ?_)
 ·have hr:(⟨#[46,114,101,99]⟩:ByteArray).size=4:=rfl
  refine And.intro (by omega) (app1 (by simp;omega) (by simp;omega) ⟨?_,rfl⟩)
  simp [famN,rwS,recS]
 ·have:=zj hq
  refine idxN (z1w (f:=rowC) hq) (app1 (by simp;omega) (by simp;omega) (And.intro (by omega) ⟨trivial,Sub.i (by simp),Sub.tse (by simp [rwS]),ar_eq (by simp),rfl,trivial⟩))
theorem zta {d:Dcl} (h:FamD d):∀ s∈famN d,s.size<=1000010:=by
 intro s hs
 simp only [famN,List.mem_cons,List.mem_append,List.mem_map,List.not_mem_nil,or_false] at hs
 have hn:=h.n
 rcases hs with rfl | ⟨c,hc,rfl⟩ | rfl
 ·omega
 ·have:=(h.c c hc).2;omega
 ·simp [ByteArray.size_append,recS];have:(⟨#[46,114,101,99]⟩:ByteArray).size=4:=rfl;omega
theorem zx8 {d:Dcl} (h:FamD d):(famN d).length<=1002:=by have:=h.l;simp [famN];omega
theorem zdm {z:List ByteArray}:∀ (p q:List ByteArray),dupN z p=false->dupN z (p++q)=dupN (z++p) q
 | [],q,_=>by simp
 | a :: p,q,h=>by
   simp only [dupN] at h
   split at h
   ·cases h
   ·rename_i h1
    simp only [List.cons_append,dupN]
    rw [if_neg h1,zdm p q h]
    simp
theorem zfi (ps:Int):∀ (p q:List Ctr),mayCs ps p=0->mayCs ps (p++q)=mayCs ps q
 | [],q,_=>rfl
 | c :: p,q,h=>by
   simp only [mayCs] at h
   rcases Classical.em (rMayF c.ty 0 ps≠0) with h1 | h1
   ·rw [if_pos h1] at h;exact absurd h h1
   ·rw [if_neg h1] at h
    simp only [List.cons_append,mayCs]
    rw [if_neg h1,zfi ps p q h]
theorem zqi (d:Dcl) (h:FamD d):PCon Tryz.prog 155 [dv d] (.p (I (famA d))):=by
 have hl:=h.l
 have hnl:=zx8 h
 have hn0:=h.p0
 have hn1:=h.p1
 have hf:famA d=if d.kind≠3\/d.family≠⟨#[]⟩\/eqT d.value zT=false\/d.params<0\/d.params>3\/d.count<0\/d.count>20\/d.ctors.length>5 then 1
  else if ((famN d).all mayF)=false then 9 else if dupN [] (famN d)=true then 10
  else if rMayF d.type 0 d.params≠0 then rMayF d.type 0 d.params else mayCs d.params d.ctors:=rfl
 refine cv [] [1] [] Tryz.func155 103 Tryz.ntmps155 rfl rfl fun cx hE=>?_
 refine seq0 [(48,.p (B (decide (d.kind≠3\/d.family≠⟨#[]⟩\/eqT d.value zT=false\/d.params<0\/d.params>3\/d.count<0\/d.count>20\/d.ctors.length>5))))] [] [48] [] [] hE rfl rfl rfl ?_ ?_
 ·refine brS (fun h1=>⟨Sub.bt (.inl h1),rfl,trivial⟩) (fun h1=>brS (fun h2=>⟨Sub.bt (.inr (.inl h2)),rfl,trivial⟩) (fun h2=>call0 (z9j d.value zT) (brB (fun h3=>⟨Sub.bt (.inr (.inr (.inl (by simpa using h3)))),rfl,trivial⟩) (fun h3=>brS (fun h4=>⟨Sub.bt (by omega),rfl,trivial⟩) (fun h4=>brS (fun h5=>⟨Sub.bt (by omega),rfl,trivial⟩) (fun h5=>brS (fun h6=>⟨Sub.bt (by omega),rfl,trivial⟩) (fun h6=>brS (fun h7=>⟨Sub.bt (by omega),rfl,trivial⟩) (fun h7=>fun _=>⟨Sub.bd ?_,rfl,trivial⟩))))))))
  have h3':eqT d.value zT=true:=by simpa using h3
  have hce:=zd4 d.ctors
  rw [Classical.not_not] at h1 h2
  simp only [h1,h2,h3',ne_eq,not_true,false_or,Bool.true_eq_false]
  omega
 refine brS (fun h1=>⟨I_eq (by rw [hf,if_pos h1]),rfl⟩) (fun h1=>call0 (zlz d h) ?_)
 rw [if_neg h1] at hf
 refine loopP (famN d) (fun p=>[(4,.p (I p.length))]) (fun p=>[]) (fun p=>(p.all mayF)=true) [4] [] hE rfl rfl rfl ⟨Sub.refl _,rfl,trivial⟩ rfl (fun h2=>fun _=>brOut (by simp) ?_) (fun p a q hq hp=>fun _=>brIn (by simp [hq]) (idxN (z1w (f:=fun s=>[St s]) hq) (call0 (zdg a (by have:=zta h a (zg hq);omega)) (brB (fun hb=>⟨I_eq ?_,rfl⟩) (fun hb=>And.intro (by have:=zj hq;omega) ⟨?_,Sub.i (by simp),rfl,trivial⟩)))))
 ·rw [if_neg (by rw [h2];simp)] at hf
  refine loopP (famN d) (fun p=>[(5,.p (I p.length))]) (fun p=>[]) (fun p=>dupN [] p=false) [5] [] hE rfl rfl rfl ⟨Sub.refl _,rfl,trivial⟩ rfl (fun h3=>fun _=>brOut (by simp) ?_) (fun p a q hq hp=>fun _=>brIn (by simp [hq]) ?_)
  ·rw [if_neg (by rw [h3];simp)] at hf
   have hps:d.params<=3:=by omega
   refine call0 (zo5 d.type 0 d.params (by omega) (by omega) (by omega) (by omega)) ?_
   have nz:rMayF d.type 0 d.params=0->famA d=mayCs d.params d.ctors:=fun e=>by rw [hf,if_neg (by omega)]
   have ms:=fun p q=>zfi d.params p q
   have mz:∀ p q,mayCs d.params p≠0->mayCs d.params (p++q)=mayCs d.params p:=fun p=>by
    induction p with
    | nil=>intro q hq;simp [mayCs] at hq
    | cons c p ih =>
      intro q hq
      simp only [List.cons_append,mayCs] at hq ⊢
      rcases Classical.em (rMayF c.ty 0 d.params≠0) with h1 | h1
      ·rw [if_pos h1,if_pos h1]
      ·rw [if_neg h1] at hq ⊢;rw [if_neg h1];exact ih q hq
   refine loopP d.ctors (fun p=>[(7,.p (I p.length)),(6,.p (I (if rMayF d.type 0 d.params≠0 then rMayF d.type 0 d.params else mayCs d.params p)))]) (fun p=>[]) (fun p=>True) [7,6] [] hE rfl rfl rfl ⟨Sub.refl _,Sub.i ?_,rfl,trivial⟩ trivial (fun h4=>fun _=>brOut (by simp) ⟨I_eq ?_,rfl⟩) (fun p a q hq hp=>fun _=>brIn (by simp [hq]) (brS (fun h5=>?_) (fun h5=>⟨I_eq ?_,rfl⟩)))
   ·simp only [mayCs];split<;>omega
   ·rw [hf]
   ·have hlt:=zj hq
    have e0:rMayF d.type 0 d.params=0/\mayCs d.params p=0:=by
     rcases Classical.em (rMayF d.type 0 d.params≠0) with h6 | h6
     ·rw [if_pos h6] at h5;exact absurd h5 h6
     ·rw [if_neg h6] at h5;exact ⟨by omega,h5⟩
    refine idxN (z1w (f:=rowC) hq) (call0 (zo5 a.ty 0 d.params (by omega) (by omega) (by omega) (by omega)) (And.intro (by omega) ⟨trivial,Sub.i (by simp),Sub.i ?_,rfl,trivial⟩))
    rw [if_neg (by omega),ms p [a] e0.2]
    simp only [mayCs];split<;>omega
   ·rw [hf]
    rcases Classical.em (rMayF d.type 0 d.params≠0) with h6 | h6
    ·rw [if_pos h6,if_pos h6]
    ·rw [if_neg h6] at h5;rw [if_neg h6,if_neg h6,hq,mz p _ h5]
  ·have hlt:=zj hq
   have hTake:List.take ((p.length:Nat):Int).toNat (rwS (famN d))=rwS p:=by simp [rwS,hq]
   have hh:PCon Tryz.prog 198 [.p (.sl 1 (List.take ((p.length:Nat):Int).toNat (rwS (famN d)))),.p (St a)] (.p (B (hasN p a))):=by rw [hTake];exact zny p a
   have hst:=zdm (z:=[]) p (a::q) hp
   have hs2:=zdm (z:=[]) p [a] hp
   rw [<- hq] at hst
   simp only [List.nil_append,dupN] at hst hs2
   refine And.intro (by simp;omega) (idxN (z1w (f:=fun s=>[St s]) hq) (call0 hh (brB (fun hb=>⟨I_eq ?_,rfl⟩) (fun hb=>And.intro (by omega) ⟨?_,Sub.i (by simp),rfl,trivial⟩))))
   ·rw [if_pos hb] at hst;rw [hf,if_pos hst]
   ·rw [if_neg (by rw [hb];simp)] at hs2;exact hs2
 ·have hb':mayF a=false:=by simpa using hb
  rw [hf,if_pos]
  rw [hq];simp [hb']
 ·have hb':mayF a=true:=by simpa using hb
  rw [List.all_append,hp];simp [hb']
theorem z7z {t:Trm} {n:Nat} (h:Fz n t) (hn:n<=1000000):PCon Tryz.prog 74 [tv t] (.tp [tv (headT t),.p (.sl 5 (encTs (argsT t)))]) :=
 z3h 1099511627776 (by omega) t h.w (by have:=h.d;omega)
theorem zdn (d:Dcl) (hd:FamD d) (hps:d.params<=3) (t:Trm) (ht:Fz 100000 t) (below i:Int) (b0:-1000000<=below) (b1:below<=1000000) (i0:-1000000<=i) (i1:i<=1000000) (hc0:-1000000<=d.count) (hc1:d.count<=1000000) :
  PCon Tryz.prog 201 [dv d,tv t,.p (I below),.p (I i)] (.p (B (itsF d t below i))):=by
 have hf:itsF d t below i=if eqT (headT t) (cstT d.name (parsF d.params.toNat))=false\/((argsT t).length:Int)≠d.count+i then false else itsA d below (argsT t) 0:=rfl
 obtain ⟨ha,hal⟩:=ht.args
 have hs:=ht.s
 refine cv [] [2] [] Tryz.func201 73 Tryz.ntmps201 rfl rfl fun cx hE=>call0 (z7z ht (by omega)) ?_
 refine seq0 [(34,.p (B (decide (eqT (headT t) (cstT d.name (parsF d.params.toNat))=false\/((argsT t).length:Int)≠d.count+i))))] [] [34] [] [] hE rfl rfl rfl ?_ ?_
 ·refine call0 (z7y d.params (by omega)) (call0 (z7b d.name _ (by simp;omega) (zdl _)) (call0 (z9j (headT t) _) (brB (fun h1=>⟨Sub.bt (.inl (by simpa [cstT] using h1)),rfl,rfl,rfl,trivial⟩) (fun h1=>And.intro (by omega) ⟨Sub.bd ?_,rfl,rfl,rfl,trivial⟩))))
  have h1':eqT (headT t) (cstT d.name (parsF d.params.toNat))=true:=by simpa [cstT] using h1
  rw [h1'];simp
 refine brS (fun h1=>⟨B_eq (by rw [hf,if_pos h1]),rfl⟩) (fun h1=>?_)
 rw [if_neg h1] at hf
 refine loopP (argsT t) (fun p=>[(11,.p (I p.length))]) (fun p=>[]) (fun p=>∀ q,itsA d below (p++q) 0=itsA d below q p.length) [11] [] hE rfl rfl rfl ⟨Sub.refl _,rfl,rfl,rfl,trivial⟩ (by simp) (fun h2=>fun _=>brTe ⟨B_eq ?_,rfl⟩) (fun p a q hq hp=>fun _=>brT' hq ?_)
 ·have:=h2 [];simp at this;rw [hf,this];rfl
 ·have hlt:=zj hq
  have hst:=hp (a::q)
  rw [<- hq] at hst
  simp only [itsA] at hst
  have hfa:=ha a (zg hq)
  have hfs:=hfa.s
  have bad:((p.length:Int)<d.count/\eqT a (mkV (below-1-p.length))=false)\/((p.length:Int)≥d.count/\nmdT a d.name=true)->AV.p (B false)=.p (B (itsF d t below i)):=fun h=>B_eq (by rw [hf,hst,if_pos h])
  have good:¬ (((p.length:Int)<d.count/\eqT a (mkV (below-1-p.length))=false)\/((p.length:Int)≥d.count/\nmdT a d.name=true))->∀ z,itsA d below ((p++[a])++z) 0=itsA d below z ((p++[a]).length:Nat):=fun h z=>by
   have:=hp (a::z)
   simp only [itsA] at this
   rw [List.append_assoc,List.singleton_append,this,if_neg h];simp
  refine brS (fun h2=>idxT hq (And.intro (by omega) (And.intro (by omega) (call0 (z9g _) (call0 (z9j a _) (brB (fun h3=>⟨bad (.inl ⟨h2,by simpa using h3⟩),rfl⟩) (fun h3=>?_))))))) (fun h2=>brS (fun h3=>?_) (fun h3=>absurd h3 (by omega)))
  ·refine brS (fun h4=>absurd h2 (by omega)) (fun h4=>And.intro (by omega) ⟨good ?_,Sub.i (by simp),rfl,rfl,rfl,trivial⟩)
   have h3':eqT a (mkV (below-1-p.length))=true:=by simpa using h3
   rw [h3'];simp;omega
  ·refine idxT hq (call0 (z7d a d.name (by omega)) (brB (fun h4=>⟨bad (.inr ⟨h3,h4⟩),rfl⟩) (fun h4=>And.intro (by omega) ⟨good ?_,Sub.i (by simp),rfl,rfl,rfl,trivial⟩)))
   rw [h4];simp;omega
def rwB (l:List Bool):List (List PV):=l.map fun b=>[B b]
@[simp] theorem zz3i (l:List Bool):(rwB l).length=l.length:=by simp [rwB]
def ctrV (x:List Bool×Int):AV:=.tp [.p (.sl 1 (rwB x.1)),.p (I x.2)]
theorem z8a {t:Trm} {n:Nat} (h:Fz n t) (hn:n<=1000000):PCon Tryz.prog 156 [tv t,.p (I ((piL t).length:Nat))] (.tp [.p (.sl 5 (encTs (piL t))),tv (piE t),.p (B true)]):=by
 have:=zak 1099511627776 (by omega) t h.w (by have:=h.d;omega) (piL t).length (Nat.le_refl _)
 rw [List.take_length,piE_D] at this
 exact this
theorem z1z {α:Type} {l:List α} {k:Nat} {a:α} (h:l[k]?=some a):l.take (k+1)=l.take k++[a]:=by rw [List.take_add_one,h];rfl
set_option maxHeartbeats 4000000 in
theorem zqj (d:Dcl) (hd:FamD d) (hps:d.params<=3) (ps:List Trm) (c:Nat) (hc:d.count=c) (hcl:c<=ps.length) (hc9:c<=1000) (t:Trm) (ht:Fz 100000 t) (i:Int) (i0:-1000000<=i) (i1:i<=100000) :
  PCon Tryz.prog 159 [dv d,.p (.sl 5 (encTs ps)),tv t,.p (I i)] (ctrV (ctorF d ps t i)):=by
 have hf:ctorF d ps t i=if ((piL t).length:Int)<d.count then ([],16) else if eqTs ((piL t).take d.count.toNat) (ps.take d.count.toNat)=false then ([],16)
  else if itsF d (piE t) (piL t).length i=false then ([],16) else recL d i ((piL t).drop d.count.toNat) d.count []:=rfl
 have hcn:d.count.toNat=c:=by omega
 rw [hcn] at hf
 have hlen:=zly t
 have hs:=ht.s
 obtain ⟨hpi,hpe⟩:=ht.pi
 refine cv [] [] [] Tryz.func159 114 Tryz.ntmps159 rfl rfl fun cx hE=>call0 (z3i t (by have:=ht.d;omega)) (brS (fun h1=>⟨?_,rfl⟩) (fun h1=>?_))
 ·rw [hf,if_pos h1];rfl
 rw [if_neg h1] at hf
 refine call0 (z8a ht (by omega)) ?_
 refine loop1 (fun k:Nat=>[(14,.p (I k))]) (fun k=>[]) (fun k=>k<=c/\(piL t).take k=ps.take k) (fun k=>c-k) 0 [14] [] hE rfl rfl rfl ⟨Sub.refl _,rfl,rfl,rfl,trivial⟩ ⟨by omega,by simp⟩ fun k ⟨hk,hke⟩=>?_
 refine brS (fun h2=>?_) (fun h2=>?_)
 ·have hk1:k<(piL t).length:=by omega
  have hk2:k<ps.length:=by omega
  have g1:(piL t)[k]?=some ((piL t)[k]):=List.getElem?_eq_getElem hk1
  have g2:ps[k]?=some (ps[k]):=List.getElem?_eq_getElem hk2
  refine idxN (row:=rowT ((piL t)[k])) (by simp [zb,g1]) (idxN (row:=rowT (ps[k])) (by simp [zb,g2]) (call0 (z9j _ _) (brB (fun h3=>⟨?_,rfl⟩) (fun h3=>And.intro (by omega) ⟨k+1,⟨by omega,?_⟩,by omega,Sub.i (by omega),rfl,rfl,rfl,trivial⟩))))
  ·have h3':eqT ((piL t)[k]) (ps[k])=false:=by simpa using h3
   rw [hf,if_pos]
   ·rfl
   ·rw [Bool.eq_false_iff,ne_eq,z9b]
    intro e
    have:=congrArg (fun z=>z[k]?) e
    simp only [List.getElem?_take] at this
    rw [if_pos (by omega),if_pos (by omega),g1,g2] at this
    rw [Option.some.inj this,zwx] at h3'
    cases h3'
  ·have h3':eqT ((piL t)[k]) (ps[k])=true:=by simpa using h3
   rw [z1z g1,z1z g2,hke,(zdb _ _).1 h3']
 have hkc:k=c:=by omega
 subst hkc
 rw [if_neg (by rw [Bool.not_eq_false,z9b];exact hke)] at hf
 refine call0 (zdn d hd hps (piE t) hpe _ i (by omega) (by omega) (by omega) (by omega) (by omega) (by omega)) (brB (fun h3=>⟨?_,rfl⟩) (fun h3=>?_))
 ·rw [hf,if_pos (by simpa using h3)];rfl
 rw [if_neg (by simpa using h3)] at hf
 refine tokV 15 515 4 1 hE rfl rfl rfl ?_
 refine loopP ((piL t).drop k) (fun p=>[(16,.p (I ((k+p.length:Nat)))),(15,.ts 515 1 (rwB (p.map fun x=>nmdT x d.name)))]) (fun p=>[(515,.ar 4 1 (rwB (p.map fun x=>nmdT x d.name)).length)]) (fun p=>∀ q,recL d i (p++q) d.count []=recL d i q (k+p.length:Nat) (p.map fun x=>nmdT x d.name)) [16,15] [515] hE rfl rfl rfl ⟨Sub.i (by simpa using hc),Sub.refl _,rfl,rfl,rfl,rfl,trivial⟩ (by intro q;simp [hc]) (fun h4=>brOut (by simp;omega) ⟨?_,rfl⟩) (fun p a q hq hp=>?_)
 ·have:=h4 []
  simp only [List.append_nil,recL] at this
  rw [hf,this];rfl
 have hlt:k+p.length<(piL t).length:=by have:=zj hq;simp at this;omega
 have hget:(piL t)[k+p.length]?=some a:=by
  have:=List.getElem?_drop (xs:=piL t) (i:=k) (j:=p.length)
  rw [hq] at this;simpa using this.symm
 have ham:a∈piL t:=List.mem_of_getElem? hget
 have hfa:=hpi a ham
 have hfs:=hfa.s
 have hla:=zly a
 obtain ⟨hxi,hxe⟩:=hfa.pi
 have hrow:(encTs (piL t))[k+p.length]?=some (rowT a):=by simp [zb,hget]
 have hpl:p.length<=100000:=by omega
 have hst:=hp (a::q)
 rw [<- hq] at hst
 simp only [recL] at hst
 have next:(nmdT a d.name=false\/(nmdT a d.name=true/\((piL a).any fun x=>nmdT x d.name)=false/\itsF d (piE a) ((k+p.length:Nat)+(piL a).length) i=true))->∀ z,recL d i ((p++[a])++z) d.count []=recL d i z (k+(p++[a]).length:Nat) ((p++[a]).map fun x=>nmdT x d.name):=fun h z=>by
  have:=hp (a::z)
  simp only [recL] at this
  rw [List.append_assoc,List.singleton_append,this]
  rcases h with h | ⟨h,h',h''⟩
  ·rw [if_pos h];simp [h];rfl
  ·rw [if_neg (by rw [h];simp),if_neg (by rw [h'];simp),if_neg (by rw [h''];simp)];simp [h];rfl
 refine brIn hlt (idxN hrow (call0 (z7d a d.name (by omega)) (app1 (by simp;omega) (by simp;omega) (brB (fun h4=>?_) (fun h4=>?_)))))
 ·refine And.intro (by omega) ⟨next (.inl (by simpa using h4)),Sub.i (by simp;omega),Sub.tse (by simp [rwB]),ar_eq (by simp),rfl,rfl,rfl,trivial⟩
 have h4':nmdT a d.name=true:=by simpa using h4
 rw [if_neg (by rw [h4'];simp)] at hst
 refine idxN hrow (call0 (z3i a (by have:=hfa.d;omega)) (idxN hrow (call0 (z8a hfa (by omega)) ?_)))
 refine loopP (piL a) (fun p2=>[(22,.p (I p2.length))]) (fun p2=>[]) (fun p2=>(p2.any fun x=>nmdT x d.name)=false) [22] [] hE rfl rfl rfl ⟨Sub.refl _,rfl,rfl,rfl,rfl,rfl,trivial⟩ rfl (fun h5=>brOut (Nat.le_refl _) ?_) (fun p2 b q2 hq2 hp2=>brIn (by have:=zj hq2;omega) (idxT hq2 (call0 (z7d b d.name (by have:=(hxi b (zg hq2)).s;omega)) (brB (fun h5=>⟨?_,rfl⟩) (fun h5=>And.intro (by have:=zj hq2;omega) ⟨?_,Sub.i (by simp),rfl,rfl,rfl,rfl,rfl,trivial⟩)))))
 ·rw [if_neg (by rw [h5];simp)] at hst
  refine And.intro (by omega) (call0 (zdn d hd hps (piE a) hxe _ i (by omega) (by omega) (by omega) (by omega) (by omega) (by omega)) (brB (fun h6=>⟨?_,rfl⟩) (fun h6=>And.intro (by omega) ⟨next (.inr ⟨h4',h5,by simpa using h6⟩),Sub.i (by simp;omega),Sub.tse (by simp [rwB]),ar_eq (by simp),rfl,rfl,rfl,trivial⟩)))
  rw [if_pos (by simpa using h6)] at hst
  rw [hf,hst];rfl
 ·rw [if_pos (by rw [hq2];simp [h5])] at hst
  rw [hf,hst];rfl
 ·rw [List.any_append,hp2];simpa using h5
def rwBB (l:List (List Bool)):List (List PV):=l.map fun b=>[.sl 1 (rwB b)]
@[simp] theorem zz3e (l:List (List Bool)):(rwBB l).length=l.length:=by simp [rwBB]
def infV (x:InfV):AV:=.ag [.p (I x.params),.p (I x.idx),.p (I x.level.kind),.p (I x.level.n),.p (.sl 3 (encLs x.level.args)),.p (B x.large),.p (.sl 1 (rwI x.fields)),.p (.sl 1 (rwBB x.recs))]
def lookV (x:InfV×Int):AV:=.tp [infV x.1,.p (I x.2)]
def infC (x:InfV):Obs:=[(9,.ce 151 [.p (I x.params),.p (I x.idx),.p (I x.level.kind),.p (I x.level.n),.p (.sl 3 (encLs x.level.args)),.p (B x.large),.ts 506 1 (rwI x.fields),.ts 507 1 (rwBB x.recs)]),(506,.ar 3 1 (rwI x.fields).length),(507,.ar 193 1 (rwBB x.recs).length)]
def infN (d:Dcl) (ps:List Trm) (x:InfV) (p:List Ctr):InfV:=⟨x.params,x.idx,x.level,x.large,x.fields++p.map (fun c=>((ctorF d ps c.ty x.idx).1.length:Int)),x.recs++p.map (fun c=>(ctorF d ps c.ty x.idx).1)⟩
theorem zqk (n:Nat) (l:List Trm):List.take n (encTs l)=encTs (l.take n):=by simp [zb]
set_option maxHeartbeats 4000000 in
theorem zjh (d:Dcl) (hd:FamD d) (hlv:∀ l∈(piE d.type).levels,mayLF l 3=true):PCon Tryz.prog 110 [dv d] (lookV (lookF d)):=by
 have hf:lookF d=if famA d≠0 then (⟨0,0,zL,false,[],[]⟩,famA d)
  else if ((piL d.type).length:Int)<d.count\/(piE d.type).kind≠1\/nmdT d.type d.name=true then (⟨0,0,zL,false,[],[]⟩,16)
  else lookC d ((piL d.type).take d.count.toNat) d.ctors ⟨d.count,(piL d.type).length-d.count,(piE d.type).levels.getD 0 zL,rNevF ((piE d.type).levels.getD 0 zL),[],[]⟩:=rfl
 have hs:=hd.t.s
 have hlen:=zly d.type
 obtain ⟨hpi,hpe⟩:=hd.t.pi
 refine cv [] [6] [] Tryz.func110 105 Tryz.ntmps110 rfl rfl fun cx hE=>call0 (zqi d hd) (brS (fun h1=>⟨by rw [hf,if_pos h1];rfl,rfl⟩) (fun h1=>?_))
 rw [if_neg h1] at hf
 have hA:famA d=if d.kind≠3\/d.family≠⟨#[]⟩\/eqT d.value zT=false\/d.params<0\/d.params>3\/d.count<0\/d.count>20\/d.ctors.length>5 then 1
  else if ((famN d).all mayF)=false then 9 else if dupN [] (famN d)=true then 10
  else if rMayF d.type 0 d.params≠0 then rMayF d.type 0 d.params else mayCs d.params d.ctors:=rfl
 have hb:0<=d.params/\d.params<=3/\0<=d.count/\d.count<=20/\d.ctors.length<=5:=by
  rcases Classical.em (d.kind≠3\/d.family≠⟨#[]⟩\/eqT d.value zT=false\/d.params<0\/d.params>3\/d.count<0\/d.count>20\/d.ctors.length>5) with h | h
  ·rw [if_pos h] at hA;omega
  ·simp only [not_or] at h;omega
 obtain ⟨c,hc⟩:∃ c:Nat,d.count=c:=⟨d.count.toNat,by omega⟩
 refine call0 (z3i d.type (by have:=hd.t.d;omega)) (call0 (z8a hd.t (by omega)) ?_)
 refine seq0 [(45,.p (B (decide (((piL d.type).length:Int)<d.count\/(piE d.type).kind≠1\/nmdT d.type d.name=true))))] [] [45] [] [] hE rfl rfl rfl ?_ ?_
 ·refine brS (fun h2=>⟨Sub.bt (.inl h2),rfl,rfl,rfl,trivial⟩) (fun h2=>brS (fun h3=>⟨Sub.bt (.inr (.inl h3)),rfl,rfl,rfl,trivial⟩) (fun h3=>call0 (z7d d.type d.name (by omega)) ⟨Sub.b ?_,rfl,rfl,rfl,trivial⟩))
  rw [Bool.eq_iff_iff,decide_eq_true_eq]
  exact ⟨fun h=>.inr (.inr h),fun h=>by rcases h with h | h | h;exact absurd h h2;exact absurd h h3;exact h⟩
 refine brS (fun h2=>⟨by rw [hf,if_pos h2];rfl,rfl⟩) (fun h2=>?_)
 rw [if_neg h2] at hf
 have hll:(piE d.type).levels.length=1:=by
  exact (zf hpe.w).sort (by omega)
 obtain ⟨l0,hl0⟩:∃ l0,(piE d.type).levels=[l0]:=by
  match h:(piE d.type).levels,hll with
  | [a],_=>exact ⟨a,rfl⟩
 have hm:=hlv l0 (by rw [hl0];simp)
 simp only [mayLF,Bool.and_eq_true,decide_eq_true_eq] at hm
 rw [hl0,show d.count.toNat=c by omega] at hf
 simp only [List.getD_cons_zero] at hf
 have hrow:(encLs (piE d.type).levels)[0]?=some (rowL l0):=by rw [hl0];simp [z1i]
 refine And.intro (by omega) (idxN (i:=0) hrow (idxN (i:=0) hrow (call0 (zqg _ _ l0 hm.2 (by omega)) ?_)))
 refine tokOV 9 6 506 3 1 hE rfl rfl rfl rfl ?_
 refine tokOV 9 7 507 193 1 hE rfl rfl rfl rfl ?_
 have hcl:c<=((piL d.type).take c).length:=by simp;omega
 have hctor:∀ a∈d.ctors,PCon Tryz.prog 159 [dv d,.p (.sl 5 (List.take d.count.toNat (encTs (piL d.type)))),tv a.ty,.p (I ((piL d.type).length-d.count))] (ctrV (ctorF d ((piL d.type).take c) a.ty ((piL d.type).length-d.count))):=fun a ha=>by
  rw [zqk,show d.count.toNat=c by omega]
  exact zqj d hd hb.2.1 _ c hc hcl (by omega) a.ty (hd.c a ha).1 _ (by omega) (by omega)
 have hst0:∀ p q,lookC d ((piL d.type).take c) (p++q) ⟨d.count,(piL d.type).length-d.count,l0,rNevF l0,[],[]⟩=lookC d ((piL d.type).take c) q (infN d ((piL d.type).take c) ⟨d.count,(piL d.type).length-d.count,l0,rNevF l0,[],[]⟩ p)\/True:=fun _ _=>.inr trivial
 refine loopP d.ctors (fun p=>[(10,.p (I p.length))]) (fun p=>infC (infN d ((piL d.type).take c) ⟨d.count,(piL d.type).length-d.count,l0,rNevF l0,[],[]⟩ p)) (fun p=>∀ q,lookC d ((piL d.type).take c) (p++q) ⟨d.count,(piL d.type).length-d.count,l0,rNevF l0,[],[]⟩=lookC d ((piL d.type).take c) q (infN d ((piL d.type).take c) ⟨d.count,(piL d.type).length-d.count,l0,rNevF l0,[],[]⟩ p)) [10] [9,506,507] hE rfl rfl rfl ⟨Sub.refl _,rfl,rfl,rfl,rfl,rfl,rfl,trivial⟩ (by intro q;simp [infN]) (fun h3=>fun _=>brOut (by simp) ⟨?_,rfl⟩) (fun p a q hq hp=>fun _=>brIn (by simp [hq]) ?_)
 ·have:=h3 []
  simp only [List.append_nil,lookC] at this
  rw [hf,this];rfl
 have hlt:=zj hq
 have hst:=hp (a::q)
 rw [<- hq] at hst
 simp only [lookC,infN] at hst
 refine And.intro (by simp;omega) (idxN (z1w (f:=rowC) hq) (call0 (hctor a (zg hq)) (brS (fun h3=>⟨?_,rfl⟩) (fun h3=>?_))))
 ·have h3':(ctorF d ((piL d.type).take c) a.ty ((piL d.type).length-d.count)).2≠0:=h3
  rw [hf,hst.trans (if_pos h3')];rfl
 ·have h3':¬ (ctorF d ((piL d.type).take c) a.ty ((piL d.type).length-d.count)).2≠0:=h3
  have e:infN d ((piL d.type).take c) ⟨d.count,(piL d.type).length-d.count,l0,rNevF l0,[],[]⟩ (p++[a])=⟨d.count,(piL d.type).length-d.count,l0,rNevF l0,([]++p.map (fun c_1=>((ctorF d ((piL d.type).take c) c_1.ty ((piL d.type).length-d.count)).1.length:Int)))++[((ctorF d ((piL d.type).take c) a.ty ((piL d.type).length-d.count)).1.length:Int)],([]++p.map (fun c_1=>(ctorF d ((piL d.type).take c) c_1.ty ((piL d.type).length-d.count)).1))++[(ctorF d ((piL d.type).take c) a.ty ((piL d.type).length-d.count)).1]⟩:=by simp [infN]
  refine app1 (by simp [infN];omega) (by simp [infN];omega) (app1 (by simp [infN];omega) (by simp [infN];omega) (And.intro (by omega) ⟨?_,Sub.i (by simp),?_,?_,?_,rfl,rfl,rfl,trivial⟩))
  ·intro z
   have:=hp (a::z)
   simp only [lookC,infN] at this
   rw [List.append_assoc,List.singleton_append,this.trans (if_neg h3'),e]
  ·rw [e];simp [infN,rwI,rwBB]
  ·rw [e];simp [infN]
  ·rw [e];simp [infN]
end Go.Ab.YtpneaijfkefeaaaGreat
namespace Go.Ab
open Go Go.RowKit
def digS (v:Nat):ByteArray:=⟨#[UInt8.ofNat (48+v)]⟩
def digsF:Nat->Nat->Option ByteArray
 | 0,_=>none
 | g+1,v=>if v<10 then some (digS v) else (match digsF g (v / 10) with
   | none=>none
   | some s=>some (s++digS (v % 10)))
def qS:ByteArray:=⟨#[63,63,63,63,63,63,63,63,63,63,63,63,63,63,63,63,63,63,63,63,63,63,63,63,63]⟩
def nextF (k:Nat):Option Trm:=if k<=1000 then (match digsF 20 (k+1) with
 | none=>none
 | some s=>some (cstT (qS++s) [])) else none
def partL (most:Int):Nat->Nat->Trm->List Trm->List Trm->Option (List Trm×List Trm×Trm×Nat)
 | 0,_,_,_,_=>none
 | g + 1,k,t,vs,ts=>if okT t=false then none else if t.kind=5/\(most<0\/(vs.length:Int)<most) then (match nextF k with
     | none=>none
     | some v=>partL most g (k+1) (opnT [v] (t.args.getD 1 zT) 0) (vs++[v]) (ts++[t.args.getD 0 zT]))
   else some (vs,ts,t,k)
def partF (k:Nat) (t:Trm) (most:Int):Option (List Trm×List Trm×Trm×Nat):=partL most 100 k t [] []
mutual
def bndT (s:ByteArray):Trm->Int->Trm
 | ⟨k,n,s',ls,l⟩,d=>if k=2/\s'=s then mkV d else ⟨k,n,s',ls,bndTs s k l 0 d⟩
def bndTs (s:ByteArray) (k:Int):List Trm->Int->Int->List Trm
 | [],_,_=>[]
 | a::r,i,d=>bndT s a (d+bndF k i)::bndTs s k r (i+1) d
end
def pisF:List Trm->List Trm->Trm->Option Trm
 | v::vs,a::as0,t=>(match pisF vs as0 t with
   | none=>none
   | some u=>if okT u=true/\okT a=true then some (mkB 5 a (bndT v.name u 0)) else none)
 | [],[],t=>some t
 | _,_,_=>none
def putsF:List Trm->Trm->Option Trm
 | [],t=>some t
 | p::ps,t=>if okT t=true/\okT p=true/\t.args.length=2 then putsF ps (opnT [p] (t.args.getD 1 zT) 0) else none
def appO (h:Trm) (l:List Trm):Option Trm:=if okT h=true/\(l.all okT)=true/\l.length<=1000 then some (appT h l) else none
def minL (d:Dcl) (c:Trm):List Bool->List Trm->List Trm->Nat->List Trm->List Trm->Option (List Trm×List Trm×Nat)
 | r :: rs,f::fs,t::ts,k,vs,vt=>if r=false then minL d c rs fs ts k vs vt else (match partF k t (-1) with
   | none=>none
   | some (xs,xt,below,k1)=>match nextF k1 with
     | none=>none
     | some v=>match appO c ((argsT below).drop d.count.toNat),appO f xs with
       | some h1,some h2=>if okT h2=true/\okT below=true/\d.count.toNat<=(argsT below).length then (match pisF xs xt (mkA h1 h2) with
         | none=>none
         | some ty=>minL d c rs fs ts (k1+1) (vs++[v]) (vt++[ty])) else none
       | _,_=>none)
 | [],[],[],k,vs,vt=>some (vs,vt,k)
 | _,_,_,_,_,_=>none
def minF (d : Dcl) (x:InfV) (n:Nat) (ps:List Trm) (c:Trm) (k:Nat):Option (Trm×Nat) :=
 match putsF ps (d.ctors.getD n default).ty with
 | none=>none
 | some t0 => match partF k t0 (-1) with
   | none=>none
   | some (fs,ts,e,k1)=>if okT e=true/\d.count.toNat<=(argsT e).length then (match minL d c (x.recs.getD n []) fs ts k1 fs ts with
     | none=>none
     | some (vs,vt,k2)=>match appO (cstT (d.ctors.getD n default).name (parsF d.params.toNat)) ps with
       | none=>none
       | some h1=>match appO h1 fs,appO c ((argsT e).drop d.count.toNat) with
         | some made,some h2=>if okT made=true then (match pisF vs vt (mkA h2 made) with
           | none=>none
           | some ty=>some (ty,k2)) else none
         | _,_=>none) else none
def minsF (d:Dcl) (x:InfV) (ps:List Trm) (c:Trm):Nat->Nat->Nat->List Trm->List Trm->Option (List Trm×List Trm×Nat)
 | 0,_,k,vs,ts=>some (vs,ts,k)
 | m+1,n,k,vs,ts=>(nextF k).bind fun v=>(minF d x n ps c (k+1)).bind fun r=>minsF d x ps c m (n+1) r.2 (vs++[v]) (ts++[r.1])
def sortR (d:Dcl):Trm:=⟨1,0,⟨#[]⟩,[if (lookF d).1.large=true then ⟨4,d.params,[]⟩ else zL],[]⟩
def typeF (d:Dcl):Option (Trm×Int) :=
 if (lookF d).2≠0 then some (zT,(lookF d).2) else
 (partF 0 d.type d.count).bind fun P1=>if P1.1.length=d.count.toNat/\(lookF d).1.recs.length=d.ctors.length then
  (appO (cstT d.name (parsF d.params.toNat)) P1.1).bind fun whole=>(partF P1.2.2.2 P1.2.2.1 (-1)).bind fun P2=>(nextF P2.2.2.2).bind fun v=>(appO whole P2.1).bind fun wi =>
  (pisF [v] [wi] (sortR d)).bind fun m0=>(pisF P2.1 P2.2.1 m0).bind fun motive=>(nextF (P2.2.2.2+1)).bind fun c =>
  (minsF d (lookF d).1 P1.1 c d.ctors.length 0 (P2.2.2.2+2) (P1.1++[c]) (P1.2.1++[motive])).bind fun M=>(partF M.2.2 P1.2.2.1 (-1)).bind fun P3=>(nextF P3.2.2.2).bind fun major =>
  (appO whole P3.1).bind fun wj=>(appO c P3.1).bind fun cj=>(pisF (M.1++P3.1++[major]) (M.2.1++P3.2.1++[wj]) (mkA cj major)).bind fun r=>some (r,0) else none
def ctrDs (d:Dcl):List Ctr->Nat->List Dcl
 | [],_=>[]
 | c::r,i=>⟨4,d.params,i,c.name,d.name,c.ty,zT,[]⟩::ctrDs d r (i+1)
def zfj (d:Dcl):Option (List Dcl×Int) :=
 match typeF d with
 | none=>none
 | some (t,e)=>if e≠0 then some ([],e) else
   some (d::(ctrDs d d.ctors 0++[⟨5,d.params+(if (lookF d).1.large=true then 1 else 0),0,d.name++recS,d.name,t,zT,[]⟩]),0)
def envF:List Dcl->List Dcl->List Dcl
 | acc,[]=>acc
 | acc,d::r=>envF (rAddF acc (if d.kind=3 then (match zfj d with
   | some (x,e)=>if e=0 then x else [d]
   | none=>[d]) else [d])) r
theorem zz0f (s:ByteArray) (t:Trm) (d:Int):bndT s t d=if t.kind=2/\t.name=s then mkV d else ⟨t.kind,t.n,t.name,t.levels,bndTs s t.kind t.args 0 d⟩:=by cases t;rfl
theorem zdo (s:ByteArray) (k:Int):∀ (l:List Trm) (i d:Int),(bndTs s k l i d).length=l.length
 | [],_,_=>rfl
 | a::r,i,d=>by simp [bndTs,zdo s k r]
theorem zji (s:ByteArray) (k:Int):∀ (l q:List Trm) (i d:Int),bndTs s k (l++q) i d=bndTs s k l i d++bndTs s k q (i+l.length) d
 | [],q,i,d=>by simp [bndTs]
 | a::r,q,i,d=>by
   simp only [List.cons_append,bndTs,zji s k r q (i+1) d]
   congr 3
   simp;omega
theorem zql (s:ByteArray) (k:Int) (p:List Trm) (a:Trm) (d:Int):bndTs s k (p++[a]) 0 d=bndTs s k p 0 d++[bndT s a (d+bndF k p.length)]:=by
 rw [zji];simp [bndTs]
theorem zo6 {t:Trm}:∀ (vs as0:List Trm) (u:Trm),pisF vs as0 t=some u->vs.length=as0.length
 | [],[],_,_=>rfl
 | v::vs,a::as0,u,h=>by
   simp only [pisF] at h
   split at h
   ·cases h
   ·rename_i w hw;simp [zo6 vs as0 w hw]
 | [],a::as0,u,h=>by simp [pisF] at h
 | v::vs,[],u,h=>by simp [pisF] at h
theorem zjj {t:Trm}:∀ (vs as0:List Trm) (u:Trm),pisF vs as0 t=some u->∀ j,∃ w,pisF (vs.drop j) (as0.drop j) t=some w
 | vs,as0,u,h,0=>⟨u,h⟩
 | [],[],u,h,j+1=>⟨t,rfl⟩
 | v::vs,a::as0,u,h,j+1=>by
   simp only [pisF] at h
   split at h
   ·cases h
   ·rename_i w hw;exact zjj vs as0 w hw j
 | [],a::as0,u,h,j+1=>by simp [pisF] at h
 | v::vs,[],u,h,j+1=>by simp [pisF] at h
theorem ztb {v a t u w:Trm} {vs as0:List Trm} (h:pisF (v::vs) (a::as0) t=some u) (hw:pisF vs as0 t=some w):okT w=true/\okT a=true/\u=mkB 5 a (bndT v.name w 0):=by
 simp only [pisF,hw] at h
 split at h
 ·rename_i hk;cases h;exact ⟨hk.1,hk.2,rfl⟩
 ·cases h
theorem z2r {α β:Type} {o:Option α} {f:α->Option β} {r:β} (h:o.bind f=some r):∃ x,o=some x/\f x=some r:=by
 cases o with
 | none=>cases h
 | some x=>exact ⟨x,rfl,h⟩
theorem ztc {d:Dcl} {t:Trm} {e:Int} (h:typeF d=some (t,e)) (h0:(lookF d).2=0):e=0/\∃ P1 whole P2 v wi m0 motive c M P3 major wj cj,
  partF 0 d.type d.count=some P1/\P1.1.length=d.count.toNat/\(lookF d).1.recs.length=d.ctors.length/\appO (cstT d.name (parsF d.params.toNat)) P1.1=some whole/\partF P1.2.2.2 P1.2.2.1 (-1)=some P2/\nextF P2.2.2.2=some v/\appO whole P2.1=some wi /\
  pisF [v] [wi] (sortR d)=some m0/\pisF P2.1 P2.2.1 m0=some motive/\nextF (P2.2.2.2+1)=some c/\minsF d (lookF d).1 P1.1 c d.ctors.length 0 (P2.2.2.2+2) (P1.1++[c]) (P1.2.1++[motive])=some M /\
  partF M.2.2 P1.2.2.1 (-1)=some P3/\nextF P3.2.2.2=some major/\appO whole P3.1=some wj/\appO c P3.1=some cj/\pisF (M.1++P3.1++[major]) (M.2.1++P3.2.1++[wj]) (mkA cj major)=some t:=by
 unfold typeF at h
 rw [if_neg (by omega)] at h
 obtain ⟨P1,e1,h⟩:=z2r h
 split at h
 ·rename_i hk
  obtain ⟨whole,e2,h⟩:=z2r h
  obtain ⟨P2,e3,h⟩:=z2r h
  obtain ⟨v,e4,h⟩:=z2r h
  obtain ⟨wi,e5,h⟩:=z2r h
  obtain ⟨m0,e6,h⟩:=z2r h
  obtain ⟨motive,e7,h⟩:=z2r h
  obtain ⟨c,e8,h⟩:=z2r h
  obtain ⟨M,e9,h⟩:=z2r h
  obtain ⟨P3,e10,h⟩:=z2r h
  obtain ⟨major,e11,h⟩:=z2r h
  obtain ⟨wj,e12,h⟩:=z2r h
  obtain ⟨cj,e13,h⟩:=z2r h
  obtain ⟨r,e14,h⟩:=z2r h
  cases h
  exact ⟨rfl,P1,whole,P2,v,wi,m0,motive,c,M,P3,major,wj,cj,e1,hk.1,hk.2,e2,e3,e4,e5,e6,e7,e8,e9,e10,e11,e12,e13,e14⟩
 ·cases h
theorem zqm {d:Dcl} {x:InfV} {ps vs ts:List Trm} {c:Trm} {m n k:Nat} {M:List Trm×List Trm×Nat} (h:minsF d x ps c (m+1) n k vs ts=some M):∃ v t k1,nextF k=some v/\minF d x n ps c (k+1)=some (t,k1)/\minsF d x ps c m (n+1) k1 (vs++[v]) (ts++[t])=some M:=by
 unfold minsF at h
 obtain ⟨v,e1,h⟩:=z2r h
 obtain ⟨r,e2,h⟩:=z2r h
 exact ⟨v,r.1,r.2,e1,e2,h⟩
end Go.Ab
namespace Go.Ab.YtpneaijfkefeaaaGreat
open Go Go.RowKit Go.Ab Go.Proofs
theorem zao:∀ (g v:Nat) (s:ByteArray),digsF g v=some s->s.size<=g
 | 0,v,s,h=>by cases h
 | g + 1,v,s,h=>by
   simp only [digsF] at h
   split at h
   ·cases h;exact Nat.le_add_left _ _
   ·split at h
    ·cases h
    ·rename_i s' hs
     cases h
     have:=zao g _ s' hs
     have h1:(digS (v % 10)).size=1:=rfl
     rw [ByteArray.size_append];omega
theorem zz0g (v:Nat) (h:v<10):(⟨#[48,49,50,51,52,53,54,55,56,57]⟩:ByteArray).extract v (v+1)=digS v:=by
 have:v=0\/v=1\/v=2\/v=3\/v=4\/v=5\/v=6\/v=7\/v=8\/v=9:=by omega
 rcases this with rfl | rfl | rfl | rfl | rfl | rfl | rfl | rfl | rfl | rfl<;>rfl
theorem zo7 (v:Int) (h0:0<=v) (h:v<10):(⟨#[48,49,50,51,52,53,54,55,56,57]⟩:ByteArray).extract v.toNat (v+1).toNat=digS v.toNat:=by
 rw [show (v+1).toNat=v.toNat+1 by omega];exact zz0g _ (by omega)
theorem zm0:∀ (g v:Nat) (s:ByteArray),digsF g v=some s->v<=1000000/\g<=1000->PCon Tryz.prog 196 [.p (I v)] (.p (St s)):=by
 intro g
 induction g with
 | zero=>intro v s h;cases h
 | succ g ih =>
   intro v s h hv
   simp only [digsF] at h
   have hd:(⟨#[48,49,50,51,52,53,54,55,56,57]⟩:ByteArray).size=10:=rfl
   refine cv [] [] [] Tryz.func196 19 Tryz.ntmps196 rfl rfl fun cx hE=>brS (fun h1=>?_) (fun h1=>?_)
   ·rw [if_pos (by omega)] at h
    cases h
    refine And.intro (by omega) (And.intro (by omega) (And.intro (by omega) ⟨?_,rfl⟩))
    rw [zo7 _ (by omega) (by omega)];rfl
   ·rw [if_neg (by omega)] at h
    split at h
    ·cases h
    ·rename_i s' hs
     cases h
     have hsz:=zao _ _ _ hs
     have hp:=ih (v / 10) s' hs (by omega)
     have e1:Int.tdiv (v:Int) 10=((v / 10:Nat):Int):=rfl
     have e2:Int.tmod (v:Int) 10=((v % 10:Nat):Int):=rfl
     have hp':PCon Tryz.prog 196 [.p (I ((v:Int).tdiv 10))] (.p (St s')):=by rw [e1];exact hp
     refine And.intro (by omega) (And.intro (by omega) (call0 hp' (And.intro (by omega) (And.intro (by omega) (And.intro (by omega) (And.intro (by omega) (And.intro (by omega) ?_)))))))
     refine And.intro (by omega) ?_
     refine And.intro (by omega) ?_
     have hx:=zo7 ((v:Int) % 10) (by omega) (by omega)
     have hn:((v:Int) % 10).toNat=v % 10:=by omega
     have h1:(digS (v % 10)).size=1:=rfl
     rw [hn] at hx
     have hz:((⟨#[48,49,50,51,52,53,54,55,56,57]⟩:ByteArray).extract ((v:Int) % 10).toNat (((v:Int) % 10)+1).toNat).size=1:=by rw [hn,hx];rfl
     refine And.intro (by omega) ⟨?_,rfl⟩
     show AV.p (St (s'++ByteArray.extract _ ((v:Int) % 10).toNat (((v:Int) % 10)+1).toNat))=_
     rw [hn,hx]
def mkO (k:Nat):Obs:=[(1000,.ce 182 [.p (I k)])]
theorem zye (s:ByteArray):wfT 1099511627776 (cstT s [])=true:=by simp [cstT,wfT,shpF,wfTs,argF]
theorem zjk {k:Nat} {v:Trm} (h:nextF k=some v):∃ s,v=cstT (qS++s) []/\digsF 20 (k+1)=some s/\k<=1000:=by
 unfold nextF at h
 split at h
 ·split at h
  ·cases h
  ·rename_i s hs;cases h;exact ⟨s,rfl,hs,‹_›⟩
 ·cases h
theorem zo8 {k:Nat} {v:Trm} (h:nextF k=some v):Cp v/\dpT v=1/\wfT 1099511627776 v=true:=by
 obtain ⟨s,rfl,_⟩:=zjk h
 exact ⟨Cp.of (zye _) (by omega) (by simp [cstT,dpT,dpTs]),by simp [cstT,dpT,dpTs],zye _⟩
theorem zdp (k:Nat) (v:Trm) (h:nextF k=some v):Con Tryz.prog 153 [.ptr 1000 0] (mkO k) (fun r o=>r=tv v/\o=mkO (k+1)):=by
 obtain ⟨s,rfl,hs,hk⟩:=zjk h
 have hsz:=zao _ _ _ hs
 have hq:(⟨#[63,63,63,63,63,63,63,63,63,63,63,63,63,63,63,63,63,63,63,63,63,63,63,63,63]⟩:ByteArray).size=25:=rfl
 exact cv [] [] [1000] Tryz.func153 17 Tryz.ntmps153 rfl rfl fun cx hE=>And.intro (by omega) (call0 (zm0 20 (k+1) s hs (by omega)) (And.intro (by omega) (call0 (z7b (qS++s) [] (by simp) (by simp)) ⟨rfl,rfl⟩)))
theorem zfk (v:Trm) (b:Int) (hb:b<=1152921504606846976) (t:Trm):∀ at_:Int,0<=at_->at_+dpT t<=1073741824->wfT b t=true->PCon Tryz.prog 195 [tv t,tv v,.p (I at_)] (tv (bndT v.name t at_)):=by
 intro at_ h0 h1 hw
 have w:=zf hw
 have ih:∀ a∈t.args,∀ f:Int,0<=f->f+dpT a<=1073741824->PCon Tryz.prog 195 [tv a,tv v,.p (I f)] (tv (bndT v.name a f)):=fun a ha f g0 g1=>zfk v b hb a f g0 g1 (w.sub a ha)
 have hfew:=w.few_args
 have he:=zz0f v.name t at_
 refine cv [] [1,1000004] [] Tryz.func195 48 Tryz.ntmps195 rfl rfl fun cx hE=>?_
 refine seq0 [(18,.p (B (decide (t.kind=2/\t.name=v.name))))] [] [18] [] [] hE rfl rfl rfl ?_ ?_
 ·refine brS (fun h=>⟨Sub.bd (by simp [h]),rfl,rfl,rfl,trivial⟩) (fun h=>⟨Sub.bf (by simp [h]),rfl,rfl,rfl,trivial⟩)
 refine brS (fun h=>call0 (z9g _) ⟨by rw [he,if_pos h];rfl,rfl⟩) (fun h=>?_)
 rw [he,if_neg h]
 refine callX [] (zfa b hb t (by omega) hw) rfl rfl (za _) fun r o ⟨e1,e2⟩=>?_
 subst e1 e2
 have hln:=zdo v.name t.kind t.args 0 at_
 refine join1 (A:=Unit) (fun _=>[]) (fun _=>[(7,ceT ⟨t.kind,t.n,t.name,t.levels,bndTs v.name t.kind t.args 0 at_⟩)]) (fun _=>True) [] [7,500] [] hE rfl rfl rfl ?_ (fun _ _=>⟨rfl,rfl⟩)
 refine loopP t.args (fun p=>[(8,.p (I p.length))]) (fun p=>[(500,.mu 35 5 t.args.length (encTs (bndTs v.name t.kind p 0 at_++t.args.drop p.length)))]) (fun _=>True) [8] [500] hE rfl rfl rfl ⟨Sub.refl _,rfl,rfl,rfl,rfl,rfl,trivial⟩ trivial (fun _=>fun _=>brTe ⟨(),trivial,leX.by (Le.muPC 7 4 500 rfl rfl rfl rfl rfl) (leX.same ⟨?_,rfl,rfl,rfl,trivial⟩)⟩) (fun p a q hl _=>?_)
 ·rw [List.drop_length,List.append_nil];rfl
 ·have hlt:=zj hl
  have hbd:=z5w t.kind p.length
  have hda:=z1h (zg hl)
  have hsn:=zql v.name t.kind p a at_
  have hlen:=zdo v.name t.kind p 0 at_
  have hdr:t.args.drop p.length=a::q:=by rw [hl];simp
  have hdr2:t.args.drop (p++[a]).length=q:=by rw [hl];simp
  have hml:(encTs (bndTs v.name t.kind p 0 at_++t.args.drop p.length)).length=t.args.length:=by rw [zc,List.length_append,hlen,List.length_drop];omega
  refine fun _=>brT' hl (idxT hl (call0 (z4g _ _) (And.intro (by omega) (call0 (ih a (zg hl) (at_+bndF t.kind p.length) (by omega) (by omega)) (And.intro (by omega) (And.intro (by rw [hml];omega) (pst1 (i:=p.length) (by rw [hml];exact hlt) (And.intro (by omega) ?_))))))))
  refine ⟨trivial,Sub.i (by simp),?_,rfl,rfl,rfl,rfl,trivial⟩
  have:(encTs (bndTs v.name t.kind p 0 at_++t.args.drop p.length)).set p.length (rowT (bndT v.name a (at_+bndF t.kind p.length)))=encTs (bndTs v.name t.kind (p++[a]) 0 at_++t.args.drop (p++[a]).length):=by
   rw [hsn,hdr,hdr2]
   simp only [zb,List.map_append,List.map_cons,List.append_assoc]
   rw [List.set_append_right _ _ (by simp [hlen])]
   simp [hlen]
  exact congrArg (Ob.mu 35 5 t.args.length) this
termination_by SizeOf.sizeOf t
decreasing_by exact Trm.lt ha
theorem z5j {t:Trm} (h:okT t=true):Cp t:=Cp.of (z2q h).w (by omega) (by have:=(z2q h).d;omega)
theorem z9k (vs ts:List Trm) (t u:Trm) (h:pisF vs ts t=some u) (hl:vs.length<=1000000):PCon Tryz.prog 152 [.p (.sl 5 (encTs vs)),.p (.sl 5 (encTs ts)),tv t] (tv u):=by
 have hlen:=zo6 vs ts u h
 refine cv [] [] [] Tryz.func152 27 Tryz.ntmps152 rfl rfl fun cx hE=>fun _=>And.intro (by simp;omega) ?_
 refine loop2 (fun (k:Nat) (w:Trm)=>[(7,.p (I ((k:Int)-1)))]) (fun k w=>[(5,ceT w)]) (fun k w=>k<=vs.length/\pisF (vs.drop k) (ts.drop k) t=some w) (fun k w=>k) vs.length t [7] [5] hE rfl rfl rfl ⟨Sub.i (by simp),rfl,rfl,trivial⟩ ⟨Nat.le_refl _,by rw [List.drop_length,hlen,List.drop_length];rfl⟩ fun k w ⟨g1,g2⟩=>?_
 refine brS (fun h0=>?_) (fun h0=>?_)
 ·obtain ⟨j,rfl⟩:∃ j,k=j+1:=⟨k-1,by omega⟩
  have hj:vs[j]?=some (vs[j]'(by omega)):=List.getElem?_eq_getElem (by omega)
  have hk:ts[j]?=some (ts[j]'(by omega)):=List.getElem?_eq_getElem (by omega)
  obtain ⟨w',hw'⟩:=zjj vs ts u h j
  have d1:vs.drop j=vs[j]'(by omega)::vs.drop (j+1):=List.drop_eq_getElem_cons (by omega)
  have d2:ts.drop j=ts[j]'(by omega)::ts.drop (j+1):=List.drop_eq_getElem_cons (by omega)
  have hw2:=hw'
  rw [d1,d2] at hw2
  obtain ⟨o1,o2,rfl⟩:=ztb hw2 g2
  have e1:(encTs vs)[j]?=some (rowT (vs[j]'(by omega))):=by rw [zb,List.getElem?_map,hj];rfl
  have e2:(encTs ts)[j]?=some (rowT (ts[j]'(by omega))):=by rw [zb,List.getElem?_map,hk];rfl
  have hi:((j+1:Nat):Int)-1=(j:Nat):=by omega
  rw [hi]
  have hf:=z2q o1
  refine idxN e2 (idxN e1 (call0 (zfk _ 1099511627776 (by omega) w 0 (by omega) (by have:=hf.d;omega) hf.w) (call0 (zz0a _ _ (z5j o2)) (And.intro (by omega) ⟨j,_,⟨by omega,hw'⟩,by omega,Sub.i rfl,rfl,rfl,trivial⟩))))
 ·obtain rfl:k=0:=by omega
  rw [List.drop_zero,List.drop_zero,h] at g2
  cases g2
  exact ⟨rfl,rfl⟩
def partV (R:List Trm×List Trm×Trm×Nat):AV:=.tp [.p (.sl 5 (encTs R.1)),.p (.sl 5 (encTs R.2.1)),tv R.2.2.1]
set_option maxHeartbeats 2000000 in
theorem zap (k:Nat) (t:Trm) (most:Int) (R:List Trm×List Trm×Trm×Nat) (h:partF k t most=some R):Con Tryz.prog 151 [.ptr 1000 0,tv t,.p (I most)] (mkO k) (fun r o=>r=partV R/\o=mkO R.2.2.2):=by
 refine cv [] [2] [1000] Tryz.func151 47 Tryz.ntmps151 rfl rfl fun cx hE=>?_
 refine seq0 [(9,.ts 509 5 (encTs R.1)),(10,.ts 510 5 (encTs R.2.1))] [(4,ceT R.2.2.1),(1000,.ce 182 [.p (I R.2.2.2)]),(509,.ar 35 5 (encTs R.1).length),(510,.ar 35 5 (encTs R.2.1).length)] [9,10] [4,1000,509,510] [2] hE rfl rfl rfl ?_ ⟨rfl,rfl⟩
 refine tokV 9 509 35 5 hE rfl rfl rfl ?_
 refine tokV 10 510 35 5 hE rfl rfl rfl ?_
 refine loop5 (fun (g k:Nat) (u:Trm) (vs ts:List Trm)=>[(9,.ts 509 5 (encTs vs)),(10,.ts 510 5 (encTs ts))]) (fun g k u vs ts=>[(4,ceT u),(1000,.ce 182 [.p (I k)]),(509,.ar 35 5 (encTs vs).length),(510,.ar 35 5 (encTs ts).length)]) (fun g k u vs ts=>partL most g k u vs ts=some R/\vs.length+g=100/\ts.length=vs.length) (fun g k u vs ts=>g) 100 k t [] [] [9,10] [4,1000,509,510] hE rfl rfl rfl ⟨Sub.refl _,Sub.refl _,rfl,rfl,rfl,rfl,rfl,trivial⟩ ⟨h,by simp,rfl⟩ fun g k u vs ts ⟨g1,g2,g3⟩=>?_
 have hv:=zc vs
 have ht:=zc ts
 refine seq0 [(24,.p (B (decide (u.kind=5/\(most<0\/(vs.length:Int)<most)))))] [] [24] [] [] hE rfl rfl rfl ?_ ?_
 ·refine brS (fun h1=>brS (fun h2=>⟨Sub.bt ⟨h1,.inl h2⟩,rfl,rfl,rfl,rfl,rfl,trivial⟩) (fun h2=>fun _=>⟨Sub.bd (by simp [h1,h2]),rfl,rfl,rfl,rfl,rfl,trivial⟩)) (fun h1=>⟨Sub.bf (by simp [h1]),rfl,rfl,rfl,rfl,rfl,trivial⟩)
 cases g with
 | zero=>simp [partL] at g1
 | succ g =>
   simp only [partL] at g1
   have hok:okT u=true:=by
    cases hx:okT u with
    | true=>rfl
    | false=>rw [if_pos hx] at g1;cases g1
   have hf:=z2q hok
   rw [if_neg (by rw [hok];simp)] at g1
   refine brS (fun h1=>?_) (fun h1=>?_)
   ·rw [if_pos h1] at g1
    obtain ⟨x,y,ha⟩:=z4q hf.w (.inr (.inr h1.1))
    cases hn:nextF k with
    | none=>rw [hn] at g1;cases g1
    | some v =>
      rw [hn,ha] at g1
      obtain ⟨c1,c2,c3⟩:=zo8 hn
      have hy:=hf.sub (a:=y) (by rw [ha];simp)
      have r0:(encTs u.args)[0]?=some (rowT x):=by rw [ha];simp [zb]
      have r1:(encTs u.args)[1]?=some (rowT y):=by rw [ha];simp [zb]
      refine call1 [1000] (zdp k v hn) rfl rfl (za _) (app1 (by simp;omega) (by simp;omega) (idxN (i:=0) r0 (app1 (by simp;omega) (by simp;omega) (idxN (i:=1) r1 (call0 (zbj 1099511627776 (by omega) v c1 (by omega) y hy.w (by have:=hy.d;omega)) ?_)))))
      exact ⟨g,k+1,opnT [v] y 0,vs++[v],ts++[x],⟨g1,by simp;omega,by simp;omega⟩,by omega,Sub.tse (z1f _ _),Sub.tse (z1f _ _),rfl,rfl,ar_eq (by simp),ar_eq (by simp),rfl,trivial⟩
   ·rw [if_neg h1] at g1
    cases g1
    exact ⟨Sub.refl _,Sub.refl _,rfl,rfl,rfl,rfl,rfl,trivial⟩
theorem zx9 {h r:Trm} {l:List Trm} (e:appO h l=some r):okT h=true/\(∀ a∈l,okT a=true)/\l.length<=1000/\r=appT h l:=by
 unfold appO at e
 split at e
 ·rename_i hk;cases e;exact ⟨hk.1,by simpa using hk.2.1,hk.2.2,rfl⟩
 ·cases e
theorem z2l {h r:Trm} {l:List Trm} (e:appO h l=some r):PCon Tryz.prog 77 [tv h,.p (.sl 5 (encTs l))] (tv r):=by
 obtain ⟨h1,h2,h3,rfl⟩:=zx9 e
 exact z2z h (z5j h1) l (fun a ha=>z5j (h2 a ha)) (by omega)
theorem zqn (n:Nat) (l:List Trm):List.drop n (encTs l)=encTs (l.drop n):=by simp [zb]
theorem zdq {h r:Trm} {l:List Trm} {n:Nat} (e:appO h (l.drop n)=some r):PCon Tryz.prog 77 [tv h,.p (.sl 5 (List.drop n (encTs l)))] (tv r):=by
 rw [zqn];exact z2l e
theorem zhb {d:Dcl} {c:Trm} {R:List Trm×List Trm×Nat}:∀ (rs:List Bool) (fs ts:List Trm) (k:Nat) (vs vt:List Trm),minL d c rs fs ts k vs vt=some R->rs.length=fs.length/\ts.length=fs.length
 | [],[],[],k,vs,vt,h=>⟨rfl,rfl⟩
 | r :: rs,f::fs,t::ts,k,vs,vt,h=>by
   unfold minL at h
   split at h
   ·have:=zhb rs fs ts k vs vt h;simp;omega
   ·split at h
    ·cases h
    ·split at h
     ·cases h
     ·split at h
      ·split at h
       ·split at h
        ·cases h
        ·have:=zhb rs fs ts _ _ _ h;simp;omega
       ·cases h
      ·cases h
 | [],f::fs,ts,k,vs,vt,h=>by simp [minL] at h
 | [],[],t::ts,k,vs,vt,h=>by simp [minL] at h
 | r::rs,[],ts,k,vs,vt,h=>by simp [minL] at h
 | r::rs,f::fs,[],k,vs,vt,h=>by simp [minL] at h
theorem ztd {d:Dcl} {c f t:Trm} {r:Bool} {rs:List Bool} {fs ts vs vt:List Trm} {k:Nat} {R:List Trm×List Trm×Nat} (h:minL d c (r::rs) (f::fs) (t::ts) k vs vt=some R) :
  (r=false/\minL d c rs fs ts k vs vt=some R)\/(r=true/\∃ P v h1 h2 ty,partF k t (-1)=some P/\nextF P.2.2.2=some v/\appO c ((argsT P.2.2.1).drop d.count.toNat)=some h1/\appO f P.1=some h2/\okT h2=true/\okT P.2.2.1=true/\d.count.toNat<=(argsT P.2.2.1).length/\pisF P.1 P.2.1 (mkA h1 h2)=some ty/\minL d c rs fs ts (P.2.2.2+1) (vs++[v]) (vt++[ty])=some R):=by
 unfold minL at h
 split at h
 ·rename_i hr;exact .inl ⟨hr,h⟩
 ·rename_i hr
  refine .inr ⟨by simpa using hr,?_⟩
  split at h
  ·cases h
  ·rename_i xs xt below k1 hp
   split at h
   ·cases h
   ·rename_i v hv
    split at h
    ·rename_i h1 h2 e1 e2
     split at h
     ·rename_i hk
      split at h
      ·cases h
      ·rename_i ty hty
       exact ⟨(xs,xt,below,k1),v,h1,h2,ty,hp,hv,e1,e2,hk.1,hk.2.1,hk.2.2,hty,h⟩
     ·cases h
    ·cases h
theorem zxa {d:Dcl} {x:InfV} {n k k2:Nat} {ps:List Trm} {c ty:Trm} (h:minF d x n ps c k=some (ty,k2)) :
  ∃ t0 P vs vt h1 made h2,putsF ps (d.ctors.getD n default).ty=some t0/\partF k t0 (-1)=some P/\okT P.2.2.1=true/\d.count.toNat<=(argsT P.2.2.1).length/\minL d c (x.recs.getD n []) P.1 P.2.1 P.2.2.2 P.1 P.2.1=some (vs,vt,k2) /\
    appO (cstT (d.ctors.getD n default).name (parsF d.params.toNat)) ps=some h1/\appO h1 P.1=some made/\appO c ((argsT P.2.2.1).drop d.count.toNat)=some h2/\okT made=true/\pisF vs vt (mkA h2 made)=some ty:=by
 unfold minF at h
 split at h
 ·cases h
 ·rename_i t0 ht0
  split at h
  ·cases h
  ·rename_i fs ts e k1 hp
   split at h
   ·rename_i hk
    split at h
    ·cases h
    ·rename_i vs vt k2' hm
     split at h
     ·cases h
     ·rename_i h1 e1
      split at h
      ·rename_i made h2 e2 e3
       split at h
       ·rename_i hok
        split at h
        ·cases h
        ·rename_i ty' hty
         cases h
         exact ⟨t0,(fs,ts,e,k1),vs,vt,h1,made,h2,ht0,hp,hk.1,hk.2,hm,e1,e2,e3,hok,hty⟩
       ·cases h
      ·cases h
   ·cases h
theorem zjl {most:Int}:∀ (g k:Nat) (t:Trm) (vs ts:List Trm) (R:List Trm×List Trm×Trm×Nat),partL most g k t vs ts=some R->ts.length=vs.length->R.1.length<=vs.length+g/\R.2.1.length=R.1.length
 | 0,_,_,_,_,_,h,_=>by simp [partL] at h
 | g + 1,k,t,vs,ts,R,h,hl=>by
   unfold partL at h
   split at h
   ·cases h
   ·split at h
    ·split at h
     ·cases h
     ·have:=zjl g _ _ _ _ R h (by simp;omega)
      simp at this;omega
    ·cases h;simp;omega
theorem z6m {k:Nat} {t:Trm} {most:Int} {R:List Trm×List Trm×Trm×Nat} (h:partF k t most=some R):R.1.length<=100/\R.2.1.length=R.1.length:=by
 have:=zjl 100 k t [] [] R h rfl;simpa using this
theorem zqo {p t r:Trm} {ps:List Trm} (h:putsF (p::ps) t=some r):okT t=true/\okT p=true/\t.args.length=2/\putsF ps (opnT [p] (t.args.getD 1 zT) 0)=some r:=by
 unfold putsF at h
 split at h
 ·rename_i hk;exact ⟨hk.1,hk.2.1,hk.2.2,h⟩
 ·cases h
set_option maxHeartbeats 8000000 in
theorem zqp (d:Dcl) (hd:FamD d) (x:InfV) (n:Nat) (hn:n<d.ctors.length) (hx:n<x.recs.length) (hps:d.params<=3) (ps:List Trm) (cn:Nat) (hc:d.count=cn) (hpl:ps.length=cn) (hcn:cn<=1000) (c:Trm) (k k2:Nat) (ty:Trm) (h:minF d x n ps c k=some (ty,k2)) :
  Con Tryz.prog 154 [.ptr 1000 0,dv d,infV x,.p (I n),.p (.sl 5 (encTs ps)),tv c] (mkO k) (fun r o=>r=tv ty/\o=mkO k2):=by
 obtain ⟨t0,P,VS,VT,h1,made,h2,ht0,hp,hok,hal,hm,a1,a2,a3,hmk,hty⟩:=zxa h
 have hct:d.ctors[n]?=some (d.ctors[n]):=List.getElem?_eq_getElem hn
 have hgd:d.ctors.getD n default=d.ctors[n]:=by simp [List.getD_eq_getElem?_getD,hct]
 have hxr:x.recs[n]?=some (x.recs[n]):=List.getElem?_eq_getElem hx
 have hgx:x.recs.getD n []=x.recs[n]:=by simp [List.getD_eq_getElem?_getD,hxr]
 rw [hgd] at ht0 a1
 rw [hgx] at hm
 obtain ⟨l1,l2⟩:=z6m hp
 obtain ⟨l3,l4⟩:=zhb _ _ _ _ _ _ hm
 have hdc:d.count.toNat=cn:=by omega
 have rC:(encCs d.ctors)[n]?=some (rowC (d.ctors[n])):=by simp [encCs,hct]
 refine cv [63,66] [] [1000] Tryz.func154 149 Tryz.ntmps154 rfl rfl fun cx hE=>idxN rC ?_
 refine loop2 (fun (i:Nat) (u:Trm)=>[(14,.p (I i))]) (fun i u=>[(13,ceT u)]) (fun i u=>i<=cn/\putsF (ps.drop i) u=some t0) (fun i u=>cn-i) 0 (d.ctors[n]).ty [14] [13] hE rfl rfl rfl ⟨Sub.refl _,rfl,rfl,rfl,rfl,rfl,rfl,trivial⟩ ⟨by omega,ht0⟩ fun i u ⟨g1,g2⟩=>?_
 refine brS (fun hi=>?_) (fun hi=>?_)
 ·have hpi:ps[i]?=some (ps[i]'(by omega)):=List.getElem?_eq_getElem (by omega)
  have d1:ps.drop i=ps[i]'(by omega)::ps.drop (i+1):=List.drop_eq_getElem_cons (by omega)
  rw [d1] at g2
  obtain ⟨o1,o2,o3,o4⟩:=zqo g2
  obtain ⟨x',y,ha⟩:=z3d o3
  rw [ha] at o4
  have hf:=z2q o1
  have hy:=hf.sub (a:=y) (by rw [ha];simp)
  have r1:(encTs u.args)[1]?=some (rowT y):=by rw [ha];simp [zb]
  have r2:(encTs ps)[i]?=some (rowT (ps[i]'(by omega))):=by simp [zb,hpi]
  exact idxN (i:=1) r1 (idxN r2 (call0 (zbj 1099511627776 (by omega) _ (z5j o2) (by have:=(z2q o2).d;omega) y hy.w (by have:=hy.d;omega)) (And.intro (by omega) ⟨i+1,opnT [ps[i]'(by omega)] y 0,⟨by omega,o4⟩,by omega,Sub.i (by omega),rfl,rfl,rfl,rfl,rfl,rfl,trivial⟩)))
 have hic:i=cn:=by omega
 subst hic
 rw [List.drop_of_length_le (by omega)] at g2
 simp only [putsF,Option.some.injEq] at g2
 subst g2
 have hfe:=z2q hok
 have e1:=zc P.1
 have e2:=zc P.2.1
 refine call1 [1000] (zap k u (-1) P hp) rfl rfl (za _) (call0 (z7z hfe (by omega)) (app2 (by simp) (by simp;omega) (by simp;omega) (app2 (by simp) (by simp;omega) (by simp;omega) ?_)))
 refine loop4 (fun (i k:Nat) (vs vt:List Trm)=>[(22,.p (I i)),(20,.ts 63 5 (encTs vs)),(21,.ts 66 5 (encTs vt))]) (fun i k vs vt=>[(1000,.ce 182 [.p (I k)]),(63,.ar 35 5 (encTs vs).length),(66,.ar 35 5 (encTs vt).length)]) (fun i k vs vt=>i<=P.1.length/\minL d c ((x.recs[n]).drop i) (P.1.drop i) (P.2.1.drop i) k vs vt=some (VS,VT,k2)/\vs.length<=P.1.length+i/\vt.length<=P.1.length+i) (fun i k vs vt=>P.1.length-i) 0 P.2.2.2 P.1 P.2.1 [22,20,21] [1000,63,66] hE rfl rfl rfl ⟨Sub.refl _,Sub.tse (by simp),Sub.tse (by simp),rfl,ar_eq (by simp),ar_eq (by simp),rfl,rfl,rfl,rfl,rfl,rfl,rfl,trivial⟩ ⟨by omega,hm,by omega,by omega⟩ fun i k vs vt ⟨q1,q2,q3,q4⟩=>?_
 have hvl:=zc vs
 have htl:=zc vt
 refine fun _=>brS (fun hlt'=>?_) (fun hlt'=>?_)
 ·have hlt:i<P.1.length:=by omega
  have f1:P.1[i]?=some (P.1[i]):=List.getElem?_eq_getElem hlt
  have f2:P.2.1[i]?=some (P.2.1[i]'(by omega)):=List.getElem?_eq_getElem (by omega)
  have f3:(x.recs[n])[i]?=some ((x.recs[n])[i]'(by omega)):=List.getElem?_eq_getElem (by omega)
  have d1:P.1.drop i=P.1[i]::P.1.drop (i+1):=List.drop_eq_getElem_cons (by omega)
  have d2:P.2.1.drop i=P.2.1[i]'(by omega)::P.2.1.drop (i+1):=List.drop_eq_getElem_cons (by omega)
  have d3:(x.recs[n]).drop i=(x.recs[n])[i]'(by omega)::(x.recs[n]).drop (i+1):=List.drop_eq_getElem_cons (by omega)
  rw [d1,d2,d3] at q2
  have w1:(rwBB x.recs)[n]?=some [.sl 1 (rwB (x.recs[n]))]:=by simp [rwBB,hxr]
  have w2:(rwB (x.recs[n]))[i]?=some [B ((x.recs[n])[i]'(by omega))]:=by simp [rwB,f3]
  have w3:(encTs P.1)[i]?=some (rowT (P.1[i])):=by simp [zb,f1]
  have w4:(encTs P.2.1)[i]?=some (rowT (P.2.1[i]'(by omega))):=by simp [zb,f2]
  refine idxN w1 (idxN w2 ?_)
  rcases ztd q2 with ⟨hr,hm'⟩ | ⟨hr,Q,v,b1,b2,ty',hQ,hv,hb1,hb2,ok2,okb,hbl,hty',hm'⟩
  ·exact brt (by rw [hr];rfl) (And.intro (by omega) ⟨i+1,k,vs,vt,⟨by omega,hm',by omega,by omega⟩,by omega,Sub.i (by omega),Sub.refl _,Sub.refl _,rfl,rfl,rfl,rfl,rfl,rfl,rfl,rfl,rfl,rfl,trivial⟩)
  ·obtain ⟨z1,z2⟩:=z6m hQ
   refine brf (by rw [hr];rfl) (idxN w4 (call1 [1000] (zap k _ (-1) Q hQ) rfl rfl (za _) (call0 (z7z (z2q okb) (by omega)) ?_)))
   refine And.intro (by simp;omega) (call0 (zdq hb1) (idxN w3 (call0 (z2l hb2) (call0 (z4d _ _ (z5j ok2)) ?_))))
   refine callW [1000] 1000 _ (zdp _ v hv) rfl rfl (za _) rfl rfl (app1 (by simp;omega) (by simp;omega) (call0 (z9k _ _ _ _ hty' (by omega)) (app1 (by simp;omega) (by simp;omega) (And.intro (by omega) ?_))))
   exact ⟨i+1,Q.2.2.2+1,vs++[v],vt++[ty'],⟨by omega,hm',by simp;omega,by simp;omega⟩,by omega,Sub.i (by omega),Sub.tse (z1f _ _),Sub.tse (z1f _ _),rfl,ar_eq (by simp),ar_eq (by simp),rfl,rfl,rfl,rfl,rfl,rfl,rfl,trivial⟩
 ·have hie:i=P.1.length:=by omega
  rw [List.drop_of_length_le (by omega),List.drop_of_length_le (by omega),List.drop_of_length_le (by omega)] at q2
  simp only [minL,Option.some.injEq,Prod.mk.injEq] at q2
  obtain ⟨rfl,rfl,rfl⟩:=q2
  have hcs:(d.ctors[n]).name.size<=1000000:=(hd.c _ (List.getElem_mem hn)).2
  refine idxN rC (call0 (z7y d.params (by omega)) (call0 (z7b _ _ (by simp;omega) (zdl _)) (call0 (z2l a1) (call0 (z2l a2) ?_))))
  refine And.intro (by simp;omega) (call0 (zdq a3) (call0 (z4d _ _ (z5j hmk)) (call0 (z9k _ _ _ _ hty (by omega)) ⟨rfl,rfl⟩)))
end Go.Ab.YtpneaijfkefeaaaGreat
set_option linter.unusedVariables false
set_option linter.unusedSimpArgs false
namespace Go.Ab
open Go Go.RowKit
theorem Con.at1 {P:Program} {f:Nat} {args args':List AV} {objs objs' o1 o2:Obs} {x x':AV} (h:Con P f args objs (fun r o=>r=x/\o=objs')) (a b:Nat) (h1:AV.renL (Ab.sw a b) args=args') (h2:renO (Ab.sw a b) objs=o1) (h3:x.ren (Ab.sw a b)=x') (h4:renO (Ab.sw a b) objs'=o2) :
  Con P f args' o1 (fun r o=>r=x'/\o=o2):=by
 have hh:=h.sw a b
 rw [h1,h2] at hh
 have e:(fun r o=>∃ r0 o0,(r0=x/\o0=objs')/\r=r0.ren (Ab.sw a b)/\o=renO (Ab.sw a b) o0)=(fun (r:AV) (o:Obs)=>r=x'/\o=o2):=by
  funext r o
  apply propext
  constructor
  ·rintro ⟨_,_,⟨rfl,rfl⟩,rfl,rfl⟩;exact ⟨h3,h4⟩
  ·rintro ⟨rfl,rfl⟩;exact ⟨_,_,⟨rfl,rfl⟩,h3.symm,h4.symm⟩
 rw [e] at hh
 exact hh
end Go.Ab
namespace Go.Ab.YtpneaijfkefeaaaGreat
open Go Go.RowKit Go.Ab Go.Proofs
def mkK (b k:Nat):Obs:=[(b,.ce 182 [.p (I k)])]
theorem z7e (k:Nat) (v:Trm) (h:nextF k=some v):Con Tryz.prog 153 [.ptr 35 0] (mkK 35 k) (fun r o=>r=tv v/\o=mkK 35 (k+1)) :=
 (zdp k v h).at1 1000 35 rfl rfl rfl rfl
theorem zaq (k:Nat) (t:Trm) (most:Int) (R:List Trm×List Trm×Trm×Nat) (h:partF k t most=some R):Con Tryz.prog 151 [.ptr 35 0,tv t,.p (I most)] (mkK 35 k) (fun r o=>r=partV R/\o=mkK 35 R.2.2.2) :=
 (zap k t most R h).at1 1000 35 rfl rfl rfl rfl
theorem zm1 (d:Dcl) (hd:FamD d) (x:InfV) (n:Nat) (hn:n<d.ctors.length) (hx:n<x.recs.length) (hps:d.params<=3) (ps:List Trm) (cn:Nat) (hc:d.count=cn) (hpl:ps.length=cn) (hcn:cn<=1000) (c:Trm) (k k2:Nat) (ty:Trm) (h:minF d x n ps c k=some (ty,k2)) :
  Con Tryz.prog 154 [.ptr 35 0,dv d,infV x,.p (I n),.p (.sl 5 (encTs ps)),tv c] (mkK 35 k) (fun r o=>r=tv ty/\o=mkK 35 k2) :=
 (zqp d hd x n hn hx hps ps cn hc hpl hcn c k k2 ty h).at1 1000 35 rfl rfl rfl rfl
theorem zjm {d:Dcl} (h:famA d=0):0<=d.params/\d.params<=3/\0<=d.count/\d.count<=20/\d.ctors.length<=5:=by
 have hA:famA d=if d.kind≠3\/d.family≠⟨#[]⟩\/eqT d.value zT=false\/d.params<0\/d.params>3\/d.count<0\/d.count>20\/d.ctors.length>5 then 1
  else if ((famN d).all mayF)=false then 9 else if dupN [] (famN d)=true then 10
  else if rMayF d.type 0 d.params≠0 then rMayF d.type 0 d.params else mayCs d.params d.ctors:=rfl
 rcases Classical.em (d.kind≠3\/d.family≠⟨#[]⟩\/eqT d.value zT=false\/d.params<0\/d.params>3\/d.count<0\/d.count>20\/d.ctors.length>5) with h' | h'
 ·rw [if_pos h'] at hA;omega
 ·simp only [not_or] at h';omega
theorem zfl {d:Dcl} (h:(lookF d).2=0):famA d=0:=by
 unfold lookF at h
 split at h
 ·exact h
 ·omega
theorem encT1 (a:Trm):encTs [a]=[rowT a]:=by simp [zb]
theorem zfm (d:Dcl):∀ l:Lvl,(l=zL\/l=⟨4,d.params,[]⟩)->PCon Tryz.prog 42 [lv l] (tv ⟨1,0,⟨#[]⟩,[l],[]⟩):=fun l hl=>zsq l (by rcases hl with rfl | rfl<;>simp [narL,narLs,zL])
set_option maxHeartbeats 8000000 in
theorem zte (d:Dcl) (hd:FamD d) (hlv:∀ l∈(piE d.type).levels,mayLF l 3=true) (t:Trm) (e:Int) (h:typeF d=some (t,e)):PCon Tryz.prog 109 [dv d] (.tp [tv t,.p (I e)]):=by
 refine cv [84,90] [10] [] Tryz.func109 149 Tryz.ntmps109 rfl rfl fun cx hE=>call0 (zjh d hd hlv) (brS (fun h0=>?_) (fun h0'=>?_))
 ·have h0':(lookF d).2≠0:=h0
  unfold typeF at h
  rw [if_pos h0'] at h
  cases h
  exact ⟨rfl,rfl⟩
 have h0:(lookF d).2=0:=Classical.not_not.1 h0'
 obtain ⟨rfl,P1,whole,P2,v,wi,m0,motive,c,M,P3,major,wj,cj,e1,k1,k2,e2,e3,e4,e5,e6,e7,e8,e9,e10,e11,e12,e13,e14⟩:=ztc h h0
 have hb:=zjm (zfl h0)
 obtain ⟨cn,hc⟩:∃ cn:Nat,d.count=cn:=⟨d.count.toNat,by omega⟩
 have hpl:P1.1.length=cn:=by omega
 have hn:=hd.n
 obtain ⟨l1,l2⟩:=z6m e1
 obtain ⟨l3,l4⟩:=z6m e3
 obtain ⟨l5,l6⟩:=z6m e10
 refine call0 (z7y d.params (by omega)) (call0 (z7b d.name _ (by simp;omega) (zdl _)) ?_)
 refine call1 [35] (zaq 0 d.type d.count P1 e1) rfl rfl (za _) (call0 (z2l e2) (call0 zt4 (call0 (zfm d zL (.inl rfl)) ?_)))
 refine seq0 [] [(12,ceT (sortR d))] [] [12] [] hE rfl rfl rfl ?_ ?_
 ·refine brB (fun hl=>call0 (zfe d.params) (call0 (zfm d _ (.inr rfl)) ⟨?_,rfl,rfl,rfl,rfl,rfl,rfl,rfl,trivial⟩)) (fun hl=>⟨?_,rfl,rfl,rfl,rfl,rfl,rfl,rfl,trivial⟩)
  ·have hl':(lookF d).1.large=true:=hl
   unfold sortR;rw [if_pos hl'];rfl
  ·have hl':¬ (lookF d).1.large=true:=by rw [show (lookF d).1.large=false from hl];simp
   unfold sortR;rw [if_neg hl'];rfl
 have hp1:PCon Tryz.prog 152 [.p (.sl 5 [rowT v]),.p (.sl 5 [rowT wi]),tv (sortR d)] (tv m0):=by
  have:=z9k [v] [wi] _ _ e6 (by simp)
  rw [encT1,encT1] at this;exact this
 refine call1 [35] (zaq _ _ (-1) P2 e3) rfl rfl (za _) ?_
 refine callW [35] 35 _ (z7e _ v e4) rfl rfl (za _) rfl rfl (call0 (z2l e5) (call0 hp1 (call0 (z9k _ _ _ _ e7 (by omega)) ?_)))
 refine call1 [35] (z7e _ c e8) rfl rfl (za _) ?_
 have q1:=zc P1.1
 have q2:=zc P1.2.1
 refine app2 (by simp) (by simp;omega) (by simp;omega) (app2 (by simp) (by simp;omega) (by simp;omega) (app2 (by simp) (by simp;omega) (by simp;omega) (app2 (by simp) (by simp;omega) (by simp;omega) ?_)))
 refine loop4 (fun (n k:Nat) (vs ts:List Trm)=>[(20,.p (I n)),(18,.ts 84 5 (encTs vs)),(19,.ts 90 5 (encTs ts))]) (fun n k vs ts=>[(35,.ce 182 [.p (I k)]),(84,.ar 35 5 (encTs vs).length),(90,.ar 35 5 (encTs ts).length)]) (fun n k vs ts=>n<=d.ctors.length/\minsF d (lookF d).1 P1.1 c (d.ctors.length-n) n k vs ts=some M/\vs.length<=200+n/\ts.length<=200+n) (fun n k vs ts=>d.ctors.length-n) 0 (P2.2.2.2+2) (P1.1++[c]) (P1.2.1++[motive]) [20,18,19] [35,84,90] hE rfl rfl rfl ⟨Sub.refl _,Sub.tse (by simp [zb,rowT]),Sub.tse (by simp [zb,rowT]),rfl,ar_eq (by simp),ar_eq (by simp),rfl,rfl,rfl,rfl,rfl,rfl,rfl,rfl,rfl,rfl,trivial⟩ ⟨by omega,e9,by simp;omega,by simp;omega⟩ fun n k vs ts ⟨g1,g2,g3,g4⟩=>?_
 have hvl:=zc vs
 have htl:=zc ts
 refine fun _=>brS (fun hlt'=>?_) (fun hlt'=>?_)
 ·have hlt:n<d.ctors.length:=by have:=zd4 d.ctors;omega
  rw [show d.ctors.length-n=(d.ctors.length-(n+1))+1 by omega] at g2
  obtain ⟨v',t',k1',b1,b2,b3⟩:=zqm g2
  refine callW [35] 35 _ (z7e _ v' b1) rfl rfl (za _) rfl rfl (app1 (by simp;omega) (by simp;omega) ?_)
  refine callW [35] 35 _ (zm1 d hd (lookF d).1 n hlt (by omega) hb.2.1 P1.1 cn hc hpl (by omega) c _ _ _ b2) rfl rfl (za _) rfl rfl (app1 (by simp;omega) (by simp;omega) (And.intro (by omega) ?_))
  exact ⟨n+1,k1',vs++[v'],ts++[t'],⟨by omega,b3,by simp;omega,by simp;omega⟩,by omega,Sub.i (by omega),Sub.tse (z1f _ _),Sub.tse (z1f _ _),rfl,ar_eq (by simp),ar_eq (by simp),rfl,rfl,rfl,rfl,rfl,rfl,rfl,rfl,rfl,rfl,trivial⟩
 ·have hne:n=d.ctors.length:=by have:=zd4 d.ctors;omega
  rw [show d.ctors.length-n=0 by omega] at g2
  simp only [minsF,Option.some.injEq] at g2
  subst g2
  obtain ⟨c1,c2,c3⟩:=zo8 e11
  have q3:=zc P3.1
  have q4:=zc P3.2.1
  have hp2:PCon Tryz.prog 152 [.p (.sl 5 (encTs vs++encTs P3.1++[rowT major])),.p (.sl 5 (encTs ts++encTs P3.2.1++[rowT wj])),tv (mkA cj major)] (tv t):=by
   have:=z9k _ _ _ _ e14 (by simp;omega)
   simp only [zb,List.map_append,List.map_cons,List.map_nil] at this ⊢;exact this
  refine call1 [35] (zaq _ _ (-1) P3 e10) rfl rfl (za _) ?_
  refine call1 [35] (z7e _ major e11) rfl rfl (za _) ?_
  refine app1 (by simp;omega) (by simp;omega) (app2 (by simp) (by simp;omega) (by simp;omega) (app1 (by simp;omega) (by simp;omega) (call0 (z2l e12) (app2 (by simp) (by simp;omega) (by simp;omega) ?_))))
  refine call0 (z2l e13) (call0 (z4d _ _ c1) (call0 hp2 ⟨rfl,rfl⟩))
end Go.Ab.YtpneaijfkefeaaaGreat
