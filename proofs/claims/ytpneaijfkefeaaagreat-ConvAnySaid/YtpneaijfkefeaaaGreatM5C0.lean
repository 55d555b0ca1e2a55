/- Texts of our own, laid together. -/
import Derived.Test.YtpneaijfkefeaaaGreatM4C0
set_option maxRecDepth 20000
set_option linter.unusedVariables false
set_option linter.unusedSimpArgs false
namespace Go.Ab
open Go Go.RowKit
structure Rd where
 pos:Nat
 err:Int
 place:Int
 terms:Int
 left:Int
def Rd.fail (r:Rd) (e p:Int):Rd:=if r.err=0 then ⟨r.pos,e,p,r.terms,r.left⟩ else r
def Rd.at (r:Rd) (i:Nat):Rd:=⟨i,r.err,r.place,r.terms,r.left⟩
def blkL (s:ByteArray):Nat->Nat->Nat
 | 0,i=>i
 | g+1,i=>if i<s.size/\(bat s i=32\/bat s i=10) then blkL s g (i+1) else i
def Rd.bl (s:ByteArray) (r:Rd):Rd:=r.at (blkL s s.size r.pos)
def Rd.pk (s:ByteArray) (r:Rd):Int:=if r.err=0/\(r.bl s).pos<s.size then bat s (r.bl s).pos else 0
def Rd.must (s:ByteArray) (c:Int) (r:Rd):Rd :=
 if r.pk s=c/\(r.bl s).pos<s.size then (r.bl s).at ((r.bl s).pos+1) else (r.bl s).fail 5 (min (r.bl s).pos s.size:Nat)
def zL:Lvl:=⟨0,0,[]⟩
def parF (s:ByteArray) (r:Rd):Lvl×Rd :=
 if r.pos<s.size/\digF (bat s r.pos)=true then (⟨4,bat s r.pos-48,[]⟩,(if bat s r.pos-48≥4 then r.fail 7 r.pos else r).at (r.pos+1)) else (zL,r.fail 5 r.pos)
def lvcF (c:Int):Prop:=c=48\/c=83\/c=77\/c=73\/c=112
instance (c:Int):Decidable (lvcF c):=by unfold lvcF;exact inferInstance
def gateL (deep:Int) (r:Rd):Rd:=if deep>32 then (if r.left=0 then r.fail 3 r.pos else r).fail 6 r.pos else (if r.left=0 then r.fail 3 r.pos else r)
def Rd.lev (r:Rd):Rd:=⟨r.pos+1,r.err,r.place,r.terms,r.left-1⟩
def lvlF (s:ByteArray):Nat->Int->Rd->Option (Lvl×Rd)
 | 0,_,_=>none
 | g + 1,deep,r=>if ¬ ((r.bl s).pos<s.size/\lvcF (r.pk s)) then some (zL,(r.bl s).fail 5 (r.bl s).pos)
   else if (gateL deep (r.bl s)).err≠0 then some (zL,gateL deep (r.bl s))
   else if r.left<0\/r.left>1000 then none
   else if r.pk s=48 then some (zL,(gateL deep (r.bl s)).lev)
   else if r.pk s=83 then (match lvlF s g (deep+1) (gateL deep (r.bl s)).lev with
    | none=>none
    | some (a,r1)=>some (⟨1,0,[a]⟩,r1))
   else if r.pk s=112 then some (parF s (gateL deep (r.bl s)).lev)
   else match lvlF s g (deep+1) (gateL deep (r.bl s)).lev with
    | none=>none
    | some (a,r1)=>(match lvlF s g (deep+1) r1 with
      | none=>none
      | some (b,r2)=>some (⟨if r.pk s=73 then 3 else 2,0,[a,b]⟩,r2))
def oneF (s:ByteArray) (r:Rd):Option (Lvl×Rd):=lvlF s 40 1 ⟨r.pos,r.err,r.place,r.terms,64⟩
def numL (s:ByteArray) (from_:Nat):Nat->Rd->Option (Bool×Rd)
 | 0,_=>none
 | g + 1,r=>if r.pos<s.size/\digF (bat s r.pos)=true then (if r.pos=from_+7 then some (true,r.fail 3 from_)
     else if r.pos=from_+1/\bat s from_=48 then some (true,r.fail 5 r.pos)
     else numL s from_ g (r.at (r.pos+1)))
   else some (false,r)
def valL (s:ByteArray) (to:Nat):Nat->Nat->Int->Option Int
 | 0,_,_=>none
 | g+1,i,v=>if i<to then (if 0<=v/\v<=100000000/\48<=bat s i/\i<s.size then valL s to g (i+1) (v * 10+(bat s i-48)) else none) else some v
def aprF (s:ByteArray) (r:Rd):Rd:=if r.pos<s.size/\(letF (bat s r.pos) || digF (bat s r.pos))=true then r.fail 5 r.pos else r
def numF (s:ByteArray) (r:Rd):Option (Int×Rd) :=
 match numL s r.pos 10 r with
 | none=>none
 | some (true,r1)=>some (0,r1)
 | some (false,r1)=>if r1.pos=r.pos then some (0,r1.fail 5 r1.pos) else (match valL s r1.pos 10 r.pos 0 with
   | none=>none
   | some v=>some (v,aprF s r1))
def nmL (s:ByteArray):Nat->Nat->Nat
 | 0,n=>n
 | g + 1,n=>if n<s.size then (if (letF (bat s n) || (digF (bat s n) || decide (bat s n=95)))=true then nmL s g (n+1)
     else if bat s n=46/\n+1<s.size/\letF (bat s (n+1))=true then nmL s g (n+1) else n) else n
def nmF (s:ByteArray):Nat:=if 0<s.size/\letF (bat s 0)=true then nmL s s.size 1 else 0
def lv4F (s:ByteArray) (ls:List Lvl) (r:Rd):Rd:=if ls.length=4 then (if (r.bl s).pos<s.size/\lvcF (r.pk s) then (r.bl s).fail 7 (r.bl s).pos else r.bl s) else r
def lvsL (s:ByteArray):Nat->List Lvl->Rd->Option (Bool×List Lvl×Rd)
 | 0,_,_=>none
 | g + 1,ls,r=>match oneF s (lv4F s ls r) with
   | none=>none
   | some (l,r1)=>if r1.err≠0 then some (true,ls,r1)
     else if r1.pk s=44 then lvsL s g (ls++[l]) ((r1.bl s).at ((r1.bl s).pos+1)) else some (false,ls++[l],r1.bl s)
def nameF (s:ByteArray) (r:Rd):Option (Trm×Rd) :=
 if nmF (s.extract r.pos s.size)>24 then some (⟨0,0,⟨#[]⟩,[],[]⟩,r.fail 3 r.pos)
 else if (r.at (r.pos+nmF (s.extract r.pos s.size))).pk s=123 then
  (match lvsL s 10 [] (((r.at (r.pos+nmF (s.extract r.pos s.size))).bl s).at (((r.at (r.pos+nmF (s.extract r.pos s.size))).bl s).pos+1)) with
  | none=>none
  | some (true,ls,r1)=>some (⟨2,0,s.extract r.pos (r.pos+nmF (s.extract r.pos s.size)),ls,[]⟩,r1)
  | some (false,ls,r1)=>some (⟨2,0,s.extract r.pos (r.pos+nmF (s.extract r.pos s.size)),ls,[]⟩,r1.must s 125))
 else some (⟨2,0,s.extract r.pos (r.pos+nmF (s.extract r.pos s.size)),[],[]⟩,(r.at (r.pos+nmF (s.extract r.pos s.size))).bl s)
def tmcF (c:Int):Prop:=c=35\/c=42\/c=40\/c=92\/c=33\/c=61\/letF c=true
instance (c:Int):Decidable (tmcF c):=by unfold tmcF;exact inferInstance
def gateT (deep:Int) (r:Rd):Rd:=if deep>100 then (if r.terms=0 then r.fail 3 r.pos else r).fail 6 r.pos else (if r.terms=0 then r.fail 3 r.pos else r)
def Rd.ter (r:Rd):Rd:=⟨r.pos,r.err,r.place,r.terms-1,r.left⟩
def trmF (s : ByteArray):Nat->Int->Rd->Option (Trm×Rd)
 | 0,_,_=>none
 | g + 1,deep,r=>if ¬ ((r.bl s).pos<s.size/\tmcF (r.pk s)) then some (zT,(r.bl s).fail 5 (r.bl s).pos)
   else if (gateT deep (r.bl s)).err≠0 then some (zT,gateT deep (r.bl s))
   else if r.terms<0\/r.terms>100000 then none
   else if letF (r.pk s)=true then nameF s (gateT deep (r.bl s)).ter
   else if r.pk s=35 then (match numF s ((gateT deep (r.bl s)).ter.at ((r.bl s).pos+1)) with
    | none=>none
    | some (n,r1)=>some (mkV n,r1))
   else if r.pk s=42 then (match oneF s ((gateT deep (r.bl s)).ter.at ((r.bl s).pos+1)) with
    | none=>none
    | some (l,r1)=>some (⟨1,0,⟨#[]⟩,[l],[]⟩,r1))
   else match trmF s g (deep+1) ((gateT deep (r.bl s)).ter.at ((r.bl s).pos+1)) with
    | none=>none
    | some (a,r1)=>if r.pk s=40 then (match trmF s g (deep+1) r1 with
       | none=>none
       | some (b,r2)=>some (mkA a b,r2.must s 41))
      else if r.pk s=61 then (match trmF s g (deep+1) (r1.must s 58) with
       | none=>none
       | some (b,r2)=>(match trmF s g (deep+1) (r2.must s 46) with
         | none=>none
         | some (c,r3)=>some (⟨6,0,⟨#[]⟩,[],[a,b,c]⟩,r3)))
      else (match trmF s g (deep+1) (r1.must s 46) with
       | none=>none
       | some (b,r2)=>some (mkB (if r.pk s=33 then 5 else 4) a b,r2))
def Rd.fin (s:ByteArray) (r:Rd):Rd:=if (r.bl s).pos<s.size then (r.bl s).fail 5 (r.bl s).pos else r.bl s
def zgo (s:ByteArray):Option (Trm×Int×Int) :=
 match trmF s 110 1 ⟨0,0,0,2000,0⟩ with
 | none=>none
 | some (t,r)=>if (r.fin s).err≠0 then some (zT,(r.fin s).place,(r.fin s).err) else some (t,0,0)
theorem zuo (s:ByteArray):∀ g n,n<=s.size->nmL s g n<=s.size
 | 0,n,h=>h
 | g + 1,n,h=>by
   simp only [nmL]
   split
   ·split
    ·exact zuo s g (n+1) (by omega)
    ·split
     ·exact zuo s g (n+1) (by omega)
     ·exact h
   ·exact h
theorem zz3m (s:ByteArray):nmF s<=s.size:=by
 unfold nmF
 split
 ·exact zuo s _ _ (by omega)
 ·omega
end Go.Ab
namespace Go.Ab
open Go Go.RowKit
theorem zup (s:ByteArray) (hs:s.size<=24):∀ g n,s.size<=n+g->nmL s g n=runL s n
 | 0,n,h=>by rw [zb7,if_neg (by omega)];rfl
 | g + 1,n,h=>by
   have ih:=zup s hs g (n+1) (by omega)
   simp only [nmL]
   rw [zb7]
   by_cases h1:n<s.size
   ·rw [if_pos h1]
    have hg:goF s n=((letF (bat s n) || (digF (bat s n) || decide (bat s n=95))) || dotF s n):=by unfold goF;cases letF (bat s n)<;>cases digF (bat s n)<;>simp
    by_cases h2:(letF (bat s n) || (digF (bat s n) || decide (bat s n=95)))=true
    ·rw [if_pos h2,if_pos ⟨h1,by omega,by rw [hg,h2];rfl⟩];exact ih
    ·rw [if_neg h2]
     rw [Bool.not_eq_true] at h2
     by_cases h3:dotF s n=true
     ·have h4:=h3
      simp only [dotF,Bool.and_eq_true,decide_eq_true_eq] at h4
      rw [if_pos h4,if_pos ⟨h1,by omega,by rw [hg,h3];simp⟩];exact ih
     ·have h4:=h3
      simp only [dotF,Bool.and_eq_true,decide_eq_true_eq] at h4
      rw [Bool.not_eq_true] at h3
      rw [if_neg h4,if_neg (by rintro ⟨_,_,h⟩;rw [hg,h2,h3] at h;cases h)]
   ·rw [if_neg h1,if_neg (by omega)]
theorem zuq (s:ByteArray) (hs:s.size<=24):nmF s=runF s:=by
 unfold nmF runF
 split
 ·exact zup s hs _ _ (by omega)
 ·rfl
theorem zz20 (s:ByteArray):mayF s=decide (0<s.size/\s.size<=24/\nmF s=s.size):=by
 unfold mayF
 congr 1
 apply propext
 constructor
 ·rintro ⟨h1,h2,h3⟩
  exact ⟨by omega,by omega,by rw [zuq s (by omega)];exact h2⟩
 ·rintro ⟨h1,h2,h3⟩
  rw [zuq s h2] at h3
  exact ⟨by omega,h3,by omega⟩
end Go.Ab
set_option linter.unusedVariables false
set_option linter.unusedSimpArgs false
namespace Go.Ab
open Go Go.RowKit
mutual
def rEvF (at_:List Int):Lvl->Int
 | ⟨k,n,l⟩=>if k=1 then (rEvs at_ l).getD 0 0+1 else if k=2 then max ((rEvs at_ l).getD 0 0) ((rEvs at_ l).getD 1 0)
   else if k=3 then (if (rEvs at_ l).getD 1 0=0 then 0 else max ((rEvs at_ l).getD 0 0) ((rEvs at_ l).getD 1 0))
   else if k=4 then (if 0<=n/\n<at_.length then min (max (at_.getD n.toNat 0) 0) 1099511627776 else 0) else 0
def rEvs (at_:List Int):List Lvl->List Int
 | []=>[]
 | a::r=>rEvF at_ a::rEvs at_ r
end
def plcs:Nat->List (List Int)
 | 0=>[[]]
 | n+1=>(plcs n).flatMap fun p=>[p++[0],p++[1],p++[1000]]
def rNevF (l:Lvl):Bool:=(plcs 4).all fun p=>decide (¬ rEvF p l=0)
def rLeqF (a b:Lvl):Bool:=(plcs 4).all fun p=>decide (¬ rEvF p a>rEvF p b)
def parsF (n:Nat):List Lvl:=(List.range n).map fun (i:Nat)=>(⟨4,(i:Int),[]⟩:Lvl)
def argL (k:Int):Int:=if k=0\/k=4 then 0 else if k=1 then 1 else if k=2\/k=3 then 2 else -1
mutual
def wholL (ps:Int):Lvl->Int->Bool
 | ⟨k,n,l⟩,deep=>if deep>32\/argL k≠l.length then false else if k=4/\(n<0\/n≥ps)\/k≠4/\n≠0 then false else zc4 ps l deep
def zc4 (ps:Int):List Lvl->Int->Bool
 | [],_=>true
 | a::r,deep=>wholL ps a (deep+1)&&zc4 ps r deep
end
def mayLF (l:Lvl) (ps:Int):Bool:=decide (prtL l<=64)&&wholL (min (max ps 0) 4) l 1
mutual
def rWhT:Trm->Int->Option Int
 | ⟨k,n,s,ls,l⟩,left=>if left-1<0\/wholP ⟨k,n,s,ls,l⟩=false then none else rWhTs l (left-1)
def rWhTs:List Trm->Int->Option Int
 | [],left=>some left
 | a::r,left=>match rWhT a left with
   | none=>none
   | some n=>rWhTs r n
end
mutual
def rMay_ (ps:Int):Trm->Int->Int
 | ⟨k,n,s,ls,l⟩,b=>if k=0/\n≥b then 8 else if ls.length>4 then 7 else if (ls.all fun x=>mayLF x ps)=false then 7
   else if k=2/\(s=⟨#[]⟩\/s.size>24) then 9 else rMays ps k l 0 b
def rMays (ps k:Int):List Trm->Int->Int->Int
 | [],_,_=>0
 | a::r,i,b=>if rMay_ ps a (if b<=1073741824 then b+bndF k i else b)≠0 then rMay_ ps a (if b<=1073741824 then b+bndF k i else b) else rMays ps k r (i+1) b
end
def rMayF (t:Trm) (b ps:Int):Int:=if rWhT t 1048576=none then 5 else if sizT t>2000 then 3 else if dpT t>100 then 6 else rMay_ ps t (max b 0)
def insN:List ByteArray->ByteArray->List ByteArray
 | [],s=>[s]
 | x::r,s=>if Op.bytesLess x.toList s.toList=true then x::insN r s else if x=s then x::r else s::x::r
mutual
def nmsT:Trm->List ByteArray->List ByteArray
 | ⟨k,n,s,ls,l⟩,acc=>nmsTs l (if k=2 then insN acc s else acc)
def nmsTs:List Trm->List ByteArray->List ByteArray
 | [],acc=>acc
 | a::r,acc=>nmsTs r (nmsT a acc)
end
def hasN (l:List ByteArray) (s:ByteArray):Bool:=l.any fun x=>decide (x=s)
def nmdT (t:Trm) (s:ByteArray):Bool:=hasN (nmsT t []) s
def cstT (s:ByteArray) (ls:List Lvl):Trm:=⟨2,0,s,ls,[]⟩
def itsA (d:Dcl) (below:Int):List Trm->Int->Bool
 | [],_=>true
 | a::r,k=>if k<d.count/\eqT a (mkV (below-1-k))=false\/k≥d.count/\nmdT a d.name=true then false else itsA d below r (k+1)
def itsF (d:Dcl) (t:Trm) (below i:Int):Bool :=
 if eqT (headT t) (cstT d.name (parsF d.params.toNat))=false\/((argsT t).length:Int)≠d.count+i then false else itsA d below (argsT t) 0
def recS:ByteArray:=⟨#[46,114,101,99]⟩
def famN (d:Dcl):List ByteArray:=d.name::(d.ctors.map (·.name)++[d.name++recS])
def dupN:List ByteArray->List ByteArray->Bool
 | _,[]=>false
 | p,s::r=>if hasN p s=true then true else dupN (p++[s]) r
def mayCs (ps:Int):List Ctr->Int
 | []=>0
 | c::r=>if rMayF c.ty 0 ps≠0 then rMayF c.ty 0 ps else mayCs ps r
def famA (d:Dcl):Int :=
 if d.kind≠3\/d.family≠⟨#[]⟩\/eqT d.value zT=false\/d.params<0\/d.params>3\/d.count<0\/d.count>20\/d.ctors.length>5 then 1
 else if ((famN d).all mayF)=false then 9 else if dupN [] (famN d)=true then 10
 else if rMayF d.type 0 d.params≠0 then rMayF d.type 0 d.params else mayCs d.params d.ctors
structure InfV where
 params:Int
 idx:Int
 level:Lvl
 large:Bool
 fields:List Int
 recs:List (List Bool)
def recL (d:Dcl) (i:Int):List Trm->Int->List Bool->List Bool×Int
 | [],_,acc=>(acc,0)
 | t::r,k,acc=>if nmdT t d.name=false then recL d i r (k+1) (acc++[false])
   else if ((piL t).any fun x=>nmdT x d.name)=true then ([],17)
   else if itsF d (piE t) (k+(piL t).length) i=false then ([],17) else recL d i r (k+1) (acc++[true])
def ctorF (d:Dcl) (params:List Trm) (t:Trm) (i:Int):List Bool×Int :=
 if ((piL t).length:Int)<d.count then ([],16) else if eqTs ((piL t).take d.count.toNat) (params.take d.count.toNat)=false then ([],16)
 else if itsF d (piE t) (piL t).length i=false then ([],16) else recL d i ((piL t).drop d.count.toNat) d.count []
def lookC (d:Dcl) (params:List Trm):List Ctr->InfV->InfV×Int
 | [],x=>(x,0)
 | c::r,x=>if (ctorF d params c.ty x.idx).2≠0 then (⟨0,0,zL,false,[],[]⟩,(ctorF d params c.ty x.idx).2)
   else lookC d params r ⟨x.params,x.idx,x.level,x.large,x.fields++[((ctorF d params c.ty x.idx).1.length:Int)],x.recs++[(ctorF d params c.ty x.idx).1]⟩
def lookF (d:Dcl):InfV×Int :=
 if famA d≠0 then (⟨0,0,zL,false,[],[]⟩,famA d)
 else if ((piL d.type).length:Int)<d.count\/(piE d.type).kind≠1\/nmdT d.type d.name=true then (⟨0,0,zL,false,[],[]⟩,16)
 else lookC d ((piL d.type).take d.count.toNat) d.ctors ⟨d.count,(piL d.type).length-d.count,(piE d.type).levels.getD 0 zL,rNevF ((piE d.type).levels.getD 0 zL),[],[]⟩
def trmOf (s:ByteArray):Trm:=match zgo s with
 | some (t,_,_)=>t
 | none=>zT
def rAddF (ds l:List Dcl):List Dcl:=if (l.all fun d=>mayF d.name)=true/\(zy (ds++l)).Nodup then ds++l else ds
end Go.Ab
set_option linter.unusedVariables false
set_option linter.unusedSectionVars false
set_option linter.unusedSimpArgs false
namespace Go.Ab
open Go Go.RowKit
section
variable {P : Program} {cx : Cx} {n : Nat} {E : En}
theorem zpr {c:Code} {Q:Exit->VR->Obs->Prop} {r:VR} {o o1:Obs} (h1:Le P cx n ⟨toR r,o⟩ ⟨toR r,o1⟩) (h:LoopV P cx n E c Q r o1):LoopV P cx n E c Q r o:=⟨zoi h1 h.h⟩
theorem tokOV (k0 j k el sz:Nat) {T:Nat} {cs:List AV} {c:Code} {Q:Exit->VR->Obs->Prop} {r:VR} {o o1:Obs} (hE:EnK P cx n E.tab E.fb E.n E.k0 E.cc E.cl) (hk:get o k0=some (.ce T cs)) (hj:cs[j]?=some (.p nilS)) (ho:setq o k0 (.ce T (cs.set j (.ts k sz [])))=some o1)
  (hf:(z1g k (toR r)&&zt k o&&!mem k E.k0)=true) (h:LoopV P cx n E c Q r ((k,.ar el sz 0)::o1)):LoopV P cx n E c Q r o:=by
 obtain ⟨h1,h2⟩:=z2p hE.ok hf
 rw [z3k] at ho
 cases ho
 exact zpr (Le.tokO k el sz hk hj rfl rfl h1 h2) h
theorem tokOM (k0 j k el sz:Nat) {T:Nat} {cs:List AV} {c:Code} {Q:Exit->VR->Obs->Prop} {r:VR} {o o1:Obs} (hE:EnK P cx n E.tab E.fb E.n E.k0 E.cc E.cl) (hk:get o k0=some (.ce T cs)) (hj:cs[j]?=some (.p nilS)) (ho:setq o k0 (.ce T (cs.set j (.tm k 0)))=some o1)
  (hne:Nat.beq k k0=false) (hf:(z1g k (toR r)&&zt k o&&!mem k E.k0)=true) (h:LoopV P cx n E c Q r ((k,.mu el sz 0 [])::o1)):LoopV P cx n E c Q r o:=by
 obtain ⟨h1,h2⟩:=z2p hE.ok hf
 rw [z3k] at ho
 cases ho
 have hjl:j<cs.length:=(List.getElem?_eq_some_iff.1 hj).1
 refine zpr (Le.tokO k el sz hk hj rfl rfl h1 h2) ?_
 refine zpr (o1:=(k,.mu el sz 0 [])::setO o k0 (.ce T (cs.set j (.ts k sz [])))) (Le.arMu (T:=el) (sz:=sz) (k:=k) (by simp only [get,Nat.beq_refl,cond_true]) (by simp only [setq,Nat.beq_refl];rfl)) ?_
 refine zpr (Le.subC k0 j (x:=.ts k sz []) (y:=.tm k 0) (T:=T) (cs:=cs.set j (.ts k sz [])) ?_ ?_ Sub.tstm rfl rfl) ?_
 ·simp only [get,hne,cond_false];exact z6o hk
 ·simp [hjl]
 ·have e:setO ((k,Ob.mu el sz 0 [])::setO o k0 (.ce T (cs.set j (.ts k sz [])))) k0 (.ce T ((cs.set j (.ts k sz [])).set j (.tm k 0)))=(k,.mu el sz 0 [])::setO o k0 (.ce T (cs.set j (.tm k 0))):=by
   simp only [setO,hne,cond_false,List.set_set]
   congr 1
   have:∀ (o:Obs) (x y:Ob),setO (setO o k0 x) k0 y=setO o k0 y:=by
    intro o x y
    induction o with
    | nil=>rfl
    | cons p o ih =>
      obtain ⟨q,z⟩:=p
      simp only [setO]
      cases hb:Nat.beq q k0 with
      | true=>simp only [cond_true,setO,hb]
      | false=>simp only [cond_false,setO,hb,ih]
   exact this _ _ _
  rw [e];exact h
end
end Go.Ab
namespace Go.Ab
open Go Go.RowKit
theorem zz3n {T k sz:Nat} {a b:AV} {xs ys:List (List PV)} (h:xs=ys):Ob.ce T [a,b,.ts k sz xs]=Ob.ce T [a,b,.ts k sz ys]:=by rw [h]
theorem zur {T k sz:Nat} {a b c d:AV} {xs ys:List (List PV)} (h:xs=ys):Ob.ce T [a,b,c,d,.ts k sz xs]=Ob.ce T [a,b,c,d,.ts k sz ys]:=by rw [h]
theorem zz3o {T k sz:Nat} {a b c d:AV} {xs ys:List (List PV)} (h:xs=ys):Ob.ce T [a,b,c,.ts k sz xs,d]=Ob.ce T [a,b,c,.ts k sz ys,d]:=by rw [h]
theorem z1h (p:List Trm) (a:Trm):encTs p++[[I a.kind,I a.n,St a.name,.sl 3 (encLs a.levels),.sl 5 (encTs a.args)]]=encTs (p++[a]):=by simp [zb,rowT]
theorem z8e (p:List Lvl) (a:Lvl):encLs p++[[I a.kind,I a.n,.sl 3 (encLs a.args)]]=encLs (p++[a]):=by simp [zr,rowL]
theorem zed {α β:Type} {l:List α} {m:List β} {p q:List (α×β)} {x:α} {y:β} (h:l.zip m=p++(x,y)::q):l[p.length]?=some x/\m[p.length]?=some y/\p.length<l.length:=by
 have h1:(l.zip m)[p.length]?=some (x,y):=by rw [h];simp
 rw [List.getElem?_zip_eq_some] at h1
 exact ⟨h1.1,h1.2,(List.getElem?_eq_some_iff.1 h1.1).1⟩
end Go.Ab
namespace Go.Ab.YtpneaijfkefeaaaGreat
open Go Go.RowKit Go.Ab Go.Proofs
theorem zij (by_:List Lvl) (hby:∀ b∈by_,PCon Tryz.prog 95 [lv b] (lv b)) (t:Lvl):narL t=true->PCon Tryz.prog 130 [lv t,.p (.sl 3 (encLs by_))] (lv (putF by_ t)):=by
 intro hpt
 have ih:∀ a∈t.args,narL a=true->PCon Tryz.prog 130 [lv a,.p (.sl 3 (encLs by_))] (lv (putF by_ a)):=fun a ha h=>zij by_ hby a h
 have hlp:=znl hpt
 have hput:=zia by_ t
 have rest:∀ (hn:¬ (t.kind=4/\0<=t.n/\t.n<by_.length)),putF by_ t=⟨t.kind,t.n,t.args.map (putF by_)⟩:=fun hn=>by rw [hput,if_neg hn,z1t]
 refine cv [] [1] [] Tryz.func130 53 Tryz.ntmps130 rfl rfl fun cx hE=>?_
 refine seq0 [(21,.p (B (decide (t.kind=4/\0<=t.n/\t.n<by_.length))))] [] [21] [] [] hE rfl rfl rfl ?_ ?_
 ·repeat' (first | refine brS (fun _=>?_) (fun _=>?_) | refine fun _=>?_)
  all_goals have:=zp by_
  all_goals first | exact ⟨Sub.bf (by omega),rfl,rfl,trivial⟩ | exact ⟨Sub.bd (by omega),rfl,rfl,trivial⟩
 ·refine brS (fun hp=>?_) (fun hp=>?_)
  ·obtain ⟨hrow,hmem⟩:=ze7 hp.2.1 hp.2.2
   refine idx1 hp.2.1 (by simp;omega) hrow ?_
   refine call0 (hby _ hmem) ?_
   exact ⟨by rw [hput,if_pos hp];rfl,rfl⟩
  ·refine tokOV 5 2 500 74 3 hE rfl rfl rfl rfl ?_
   refine loopP t.args (fun p=>[(6,.p (I p.length))]) (fun p=>[(5,.ce 74 [.p (I t.kind),.p (I t.n),.ts 500 3 (encLs (p.map (putF by_)))]),(500,.ar 74 3 (encLs (p.map (putF by_))).length)]) (fun _=>True) [6] [5,500] hE rfl rfl rfl ⟨Sub.refl _,rfl,rfl,rfl,rfl,trivial⟩ trivial (fun _=>?_) (fun p a q hl _=>?_)
   ·refine fun _=>brLe ?_
    exact ⟨by rw [rest hp];rfl,rfl⟩
   ·have:=zh hl
    refine fun _=>brL hl (idxL hl (call0 (ih a (zf hl) (znm hpt (zf hl))) (app1 (by simp;omega) (by simp;omega) (And.intro (by omega) ?_))))
    exact ⟨trivial,Sub.i (by simp),zz3n (ze2 t.args p _ a),ar_eq (by simp),rfl,rfl,trivial⟩
termination_by SizeOf.sizeOf t
decreasing_by exact Lvl.lt ha
theorem z2r (t:Lvl) (h:narL t=true):PCon Tryz.prog 95 [lv t] (lv t):=by
 have hp:=zij [] (fun b hb=>by cases hb) t h
 rw [zci] at hp
 exact cv [] [] [] Tryz.func95 5 Tryz.ntmps95 rfl rfl fun cx hE=>call0 hp ⟨rfl,rfl⟩
theorem zus (by_:List Lvl) (hby:∀ b∈by_,narL b=true) (t:Lvl) (h:narL t=true):PCon Tryz.prog 130 [lv t,.p (.sl 3 (encLs by_))] (lv (putF by_ t)) :=
 zij by_ (fun b hb=>z2r b (hby b hb)) t h
theorem zik (a:Lvl):∀ b,PCon Tryz.prog 72 [lv a,lv b] (.p (B (eqL' a b))):=by
 intro b
 have ih:∀ c∈a.args,∀ b,PCon Tryz.prog 72 [lv c,lv b] (.p (B (eqL' c b))):=fun c hc b=>zik c b
 have he:=zz1x a b
 have h1:=zp a.args
 have h2:=zp b.args
 refine cv [] [1] [] Tryz.func72 46 Tryz.ntmps72 rfl rfl fun cx hE=>?_
 refine seq0 [(26,.p (B (decide (¬ (a.kind=b.kind/\a.n=b.n/\a.args.length=b.args.length)))))] [] [26] [] [] hE rfl rfl rfl ?_ ?_
 ·repeat' (first | refine brN (fun _=>?_) (fun _=>?_) | refine brS (fun _=>?_) (fun _=>?_) | refine fun _=>?_)
  all_goals first | exact ⟨Sub.bd (by omega),rfl,rfl,trivial⟩ | exact ⟨Sub.bt (by omega),rfl,rfl,trivial⟩ | exact ⟨Sub.bf (by omega),rfl,rfl,trivial⟩
 ·refine brS (fun hn=>⟨B_eq ?_,rfl⟩) (fun hn=>?_)
  ·rw [he];symm;simp only [Bool.and_eq_false_iff,decide_eq_false_iff_not]
   rcases Classical.em (a.args.length=b.args.length) with h | h
   ·omega
   ·exact .inr (.inr (zkt h))
  ·rw [Classical.not_not] at hn
   have hz:=zeb hn.2.2
   refine loopP (a.args.zip b.args) (fun p=>[(5,.p (I p.length))]) (fun p=>[]) (fun p=>(p.all fun p=>eqL' p.1 p.2)=true) [5] [] hE rfl rfl rfl ⟨Sub.refl _,rfl,rfl,trivial⟩ rfl (fun hp=>fun _=>brOut (by simp;omega) ⟨B_eq ?_,rfl⟩) (fun p x q hl hp=>?_)
   ·rw [he,hz,hp];simp [hn.1,hn.2.1]
   ·obtain ⟨x,y⟩:=x
    obtain ⟨g1,g2,g3⟩:=zed hl
    refine fun _=>brIn (by simpa using g3) (idxN (row:=rowL x) (by rw [zr,List.getElem?_map,g1];rfl) (idxN (row:=rowL y) (by rw [zr,List.getElem?_map,g2];rfl) (call0 (ih x (List.mem_of_getElem? g1) y) (brB (fun hb=>⟨B_eq ?_,rfl⟩) (fun hb=>And.intro (by omega) ⟨?_,Sub.i (by simp),rfl,rfl,trivial⟩)))))
    ·have hb':eqL' x y=false:=by simpa using hb
     rw [he,hz,hl];simp [hb']
    ·have hb':eqL' x y=true:=by simpa using hb
     simp [hp,hb']
termination_by SizeOf.sizeOf a
decreasing_by exact Lvl.lt hc
theorem z4y (k i:Int):PCon Tryz.prog 139 [.p (I k),.p (I i)] (.p (I (bndF k i))):=by
 refine cv [] [] [] Tryz.func139 23 Tryz.ntmps139 rfl rfl fun cx hE=>?_
 repeat' refine brS (fun _=>?_) (fun _=>?_)
 all_goals exact ⟨I_eq (by unfold bndF;split<;>omega),rfl⟩
def lfv (t:Trm):AV:=.ag [.p (I t.kind),.p (I t.n),.p (St t.name),.p (.sl 3 (encLs t.levels)),.p nilS]
theorem zaa (t:Trm) (h1:t.levels.length<=1000000000000) (h2:∀ l∈t.levels,narL l=true):PCon Tryz.prog 102 [tv t] (lfv t):=by
 refine cv [] [] [999999] Tryz.func102 31 Tryz.ntmps102 rfl rfl fun cx hE=>?_
 refine tokOV 3 3 500 74 3 hE rfl rfl rfl rfl ?_
 refine loopP t.levels (fun p=>[(4,.p (I p.length))]) (fun p=>[(3,.ce 35 [.p (I t.kind),.p (I t.n),.p (St t.name),.ts 500 3 (encLs p),.p nilS]),(500,.ar 74 3 (encLs p).length)]) (fun _=>True) [4] [3,500] hE rfl rfl rfl ⟨Sub.refl _,rfl,rfl,rfl,rfl,trivial⟩ trivial (fun _=>fun _=>brLe ⟨rfl,rfl⟩) (fun p a q hl _=>?_)
 have:=zh hl
 refine fun _=>brL hl (idxL hl (call0 (z2r a (h2 a (zf hl))) (app1 (by simp;omega) (by simp;omega) (And.intro (by omega) ?_))))
 exact ⟨trivial,Sub.i (by simp),zz3o (by simp [zr,rowL]),ar_eq (by simp),rfl,rfl,trivial⟩
theorem zab (by_ b:Int) (h0:0<=by_) (h1:by_<=1152921504606846976) (hb:b<=1152921504606846976) (t:Trm):∀ from_:Int,0<=from_->from_+dpT t<=1152921504606846976->wfT b t=true->PCon Tryz.prog 99 [tv t,.p (I by_),.p (I from_)] (tv (lftT by_ t from_)):=by
 intro from_ hf0 hf1 hw
 have w:=zg hw
 have ih:∀ a∈t.args,∀ f:Int,0<=f->f+dpT a<=1152921504606846976->PCon Tryz.prog 99 [tv a,.p (I by_),.p (I f)] (tv (lftT by_ a f)):=fun a ha f g0 g1=>zab by_ b h0 h1 hb a f g0 g1 (w.sub a ha)
 have hfew:=w.few_args
 have hn1:=w.n1
 have hn0:=w.n0
 rw [zz1y hw]
 refine cv [] [1000002] [] Tryz.func99 51 Tryz.ntmps99 rfl rfl fun cx hE=>call0 (zaa t w.few w.nar) ?_
 refine join0 [] [(7,.ce 35 [.p (I t.kind),.p (I (if t.kind=0/\from_<=t.n then t.n+by_ else t.n)),.p (St t.name),.p (.sl 3 (encLs t.levels)),.p nilS])] [] [7] [] hE rfl rfl rfl ?_ ?_
 ·refine brS (fun h1=>brS (fun h2=>And.intro (by omega) ?_) (fun h2=>?_)) (fun h1=>?_)
  ·rw [if_pos ⟨h1,h2⟩];exact ⟨rfl,rfl,rfl,trivial⟩
  ·rw [if_neg (fun h=>h2 h.2)];exact ⟨rfl,rfl,rfl,trivial⟩
  ·rw [if_neg (fun h=>h1 h.1)];exact ⟨rfl,rfl,rfl,trivial⟩
 ·refine tokOV 7 4 500 35 5 hE rfl rfl rfl rfl ?_
  refine loopP t.args (fun p=>[(8,.p (I p.length))]) (fun p=>[(7,.ce 35 [.p (I t.kind),.p (I (if t.kind=0/\from_<=t.n then t.n+by_ else t.n)),.p (St t.name),.p (.sl 3 (encLs t.levels)),.ts 500 5 (encTs (trvTs (lftV by_ 0) t.kind p 0 from_))]),(500,.ar 35 5 (encTs (trvTs (lftV by_ 0) t.kind p 0 from_)).length)]) (fun _=>True) [8] [7,500] hE rfl rfl rfl ⟨Sub.refl _,rfl,rfl,rfl,rfl,trivial⟩ trivial (fun _=>fun _=>brTe ⟨rfl,rfl⟩) (fun p a q hl _=>?_)
  have:=zh hl
  have hbd:=z6u t.kind p.length
  have hda:=z1c (zf hl)
  have hsn:=z8d (lftV by_ 0) t.kind p a from_
  have hlen:=z2l (lftV by_ 0) t.kind p 0 from_
  refine fun _=>brT' hl (idxT hl (call0 (z4y _ _) (And.intro (by omega) (call0 (ih a (zf hl) (from_+bndF t.kind p.length) (by omega) (by omega)) (app1 (by simp [hlen];omega) (by simp [hlen];omega) (And.intro (by omega) ?_))))))
  exact ⟨trivial,Sub.i (by simp),zur (by rw [hsn];exact z1h _ _),ar_eq (by rw [hsn];simp),rfl,rfl,trivial⟩
termination_by SizeOf.sizeOf t
decreasing_by exact Trm.lt ha
structure Cp (t:Trm):Prop where
 w:∃ b:Int,b<=1152921504606846976/\wfT b t=true
 d:dpT t<=1152921504606846976
theorem Cp.of {b:Int} {t:Trm} (h:wfT b t=true) (hb:b<=1152921504606846976) (hd:dpT t<=1152921504606846976):Cp t:=⟨⟨b,hb,h⟩,hd⟩
theorem z1k (t:Trm) (h:Cp t):PCon Tryz.prog 51 [tv t] (tv t):=by
 obtain ⟨⟨b,hb,hw⟩,hd⟩:=h
 have hp:=zab 0 b (by omega) (by omega) hb t 0 (by omega) (by omega) hw
 rw [za6] at hp
 exact cv [] [] [] Tryz.func51 5 Tryz.ntmps51 rfl rfl fun cx hE=>call0 hp ⟨rfl,rfl⟩
theorem z3l (t:Trm) (h:Cp t) (by_:Int) (h0:0<=by_) (h1:by_<=1073741824) (from_:Int) (f0:0<=from_) (f1:from_<=1073741824) (hd:dpT t<=1000000000000000000):PCon Tryz.prog 45 [tv t,.p (I by_),.p (I from_)] (tv (lftT by_ t from_)):=by
 obtain ⟨⟨b,hb,hw⟩,_⟩:=h
 have hp:PCon Tryz.prog 99 [tv t,.p (I (min (max by_ 0) 1073741824)),.p (I (min (max from_ 0) 1073741824))] (tv (lftT by_ t from_)):=by
  rw [show min (max by_ 0) 1073741824=by_ by omega,show min (max from_ 0) 1073741824=from_ by omega]
  exact zab by_ b h0 (by omega) hb t from_ f0 (by omega) hw
 exact cv [] [] [] Tryz.func45 15 Tryz.ntmps45 rfl rfl fun cx hE=>call0 hp ⟨rfl,rfl⟩
theorem zps (b bv:Int) (hb:b<=1152921504606846976) (v:Trm) (hv:Cp v) (hdv:dpT v<=1000000000000000000) (t:Trm):∀ at_:Int,0<=at_->at_+dpT t<=1073741824->wfT b t=true->PCon Tryz.prog 129 [tv t,tv v,.p (I at_)] (tv (opnT [v] t at_)):=by
 intro at_ h0 h1 hw
 have w:=zg hw
 have ih:∀ a∈t.args,∀ f:Int,0<=f->f+dpT a<=1073741824->PCon Tryz.prog 129 [tv a,tv v,.p (I f)] (tv (opnT [v] a f)):=fun a ha f g0 g1=>zps b bv hb v hv hdv a f g0 g1 (w.sub a ha)
 have hfew:=w.few_args
 have hn1:=w.n1
 have hn0:=w.n0
 have hpos:1<=dpT t:=by rw [z5s];omega
 refine cv [] [1000001] [] Tryz.func129 57 Tryz.ntmps129 rfl rfl fun cx hE=>?_
 refine join1 (A:=Unit) (fun _=>[]) (fun _=>[]) (fun _=>¬ (t.kind=0/\at_<=t.n)) [] [] [] hE rfl rfl rfl ?_ (fun _ hn=>?_)
 ·refine brS (fun hk=>brS (fun he=>?_) (fun he=>brS (fun hg=>And.intro (by omega) ?_) (fun hg=>?_))) (fun hk=>?_)
  ·refine call0 (z3l v hv at_ h0 (by omega) 0 (by omega) (by omega) hdv) ⟨?_,rfl⟩
   rw [zig hw at_ hk (by omega),if_pos (by simp;omega),show (t.n-at_).toNat=0 by omega]
   rfl
  ·refine ⟨?_,rfl⟩
   rw [zig hw at_ hk (by omega),if_neg (by simp;omega)]
   rfl
  ·exact ⟨(),by omega,leX.same ⟨rfl,rfl,rfl,trivial⟩⟩
  ·exact ⟨(),by omega,leX.same ⟨rfl,rfl,rfl,trivial⟩⟩
 ·rw [zuj hw at_ hn]
  refine call0 (zaa t w.few w.nar) ?_
  refine tokOV 7 4 500 35 5 hE rfl rfl rfl rfl ?_
  refine loopP t.args (fun p=>[(8,.p (I p.length))]) (fun p=>[(7,.ce 35 [.p (I t.kind),.p (I t.n),.p (St t.name),.p (.sl 3 (encLs t.levels)),.ts 500 5 (encTs (trvTs (opnV [v]) t.kind p 0 at_))]),(500,.ar 35 5 (encTs (trvTs (opnV [v]) t.kind p 0 at_)).length)]) (fun _=>True) [8] [7,500] hE rfl rfl rfl ⟨Sub.refl _,rfl,rfl,rfl,rfl,rfl,trivial⟩ trivial (fun _=>fun _=>brTe ⟨rfl,rfl⟩) (fun p a q hl _=>?_)
  have:=zh hl
  have hbd:=z6u t.kind p.length
  have hda:=z1c (zf hl)
  have hsn:=z8d (opnV [v]) t.kind p a at_
  have hlen:=z2l (opnV [v]) t.kind p 0 at_
  refine fun _=>brT' hl (idxT hl (call0 (z4y _ _) (And.intro (by omega) (call0 (ih a (zf hl) (at_+bndF t.kind p.length) (by omega) (by omega)) (app1 (by simp [hlen];omega) (by simp [hlen];omega) (And.intro (by omega) ?_))))))
  exact ⟨trivial,Sub.i (by simp),zur (by rw [hsn];exact z1h _ _),ar_eq (by rw [hsn];simp),rfl,rfl,rfl,trivial⟩
termination_by SizeOf.sizeOf t
decreasing_by exact Trm.lt ha
theorem zck (b:Int) (hb:b<=1152921504606846976) (v:Trm) (hv:Cp v) (hdv:dpT v<=1000000000000000000) (t:Trm) (hw:wfT b t=true) (hd:dpT t<=1073741824):PCon Tryz.prog 78 [tv t,tv v] (tv (opnT [v] t 0)) :=
 cv [] [] [] Tryz.func78 8 Tryz.ntmps78 rfl rfl fun cx hE=>call0 (zps b 0 hb v hv hdv t 0 (by omega) (by omega) hw) ⟨rfl,rfl⟩
theorem tv2 (k n:Int) (s:ByteArray) (ls:List Lvl) (f a:Trm):AV.ag [.p (I k),.p (I n),.p (St s),.p (.sl 3 (encLs ls)),.p (.sl 5 [rowT f,rowT a])]=tv ⟨k,n,s,ls,[f,a]⟩:=by simp [tv,encTs,z4k]
theorem tv3 (k n:Int) (s:ByteArray) (ls:List Lvl) (f a c:Trm):AV.ag [.p (I k),.p (I n),.p (St s),.p (.sl 3 (encLs ls)),.p (.sl 5 [rowT f,rowT a,rowT c])]=tv ⟨k,n,s,ls,[f,a,c]⟩:=by simp [tv,encTs,z4k]
theorem tv1l (k n:Int) (s:ByteArray) (l:Lvl) (q:List Trm):AV.ag [.p (I k),.p (I n),.p (St s),.p (.sl 3 [rowL l]),.p (.sl 5 (encTs q))]=tv ⟨k,n,s,[l],q⟩:=by simp [tv,encLs,zhj]
theorem z4a (n:Int):PCon Tryz.prog 46 [.p (I n)] (tv (mkV n)):=cv [] [] [] Tryz.func46 5 Tryz.ntmps46 rfl rfl fun cx hE=>⟨rfl,rfl⟩
theorem z5k (l:Lvl) (h:narL l=true):PCon Tryz.prog 42 [lv l] (tv ⟨1,0,⟨#[]⟩,[l],[]⟩):=cv [] [] [] Tryz.func42 7 Tryz.ntmps42 rfl rfl fun cx hE=>call0 (z2r l h) ⟨tv1l _ _ _ _ [],rfl⟩
theorem z3s (s:ByteArray) (ls:List Lvl) (h1:ls.length<=1000000000000) (h2:∀ l∈ls,narL l=true):PCon Tryz.prog 48 [.p (St s),.p (.sl 3 (encLs ls))] (tv (⟨2,0,s,ls,[]⟩)) :=
 cv [] [] [] Tryz.func48 9 Tryz.ntmps48 rfl rfl fun cx hE=>call0 (zaa ⟨2,0,s,ls,[]⟩ h1 h2) ⟨rfl,rfl⟩
theorem z1o (f a:Trm) (h:Cp a):PCon Tryz.prog 34 [tv f,tv a] (tv (mkA f a)):=cv [] [] [] Tryz.func34 10 Tryz.ntmps34 rfl rfl fun cx hE=>call0 (z1k a h) ⟨tv2 _ _ _ [] _ _,rfl⟩
theorem z4b (a b:Trm) (h:Cp a):PCon Tryz.prog 44 [tv a,tv b] (tv (mkB 4 a b)):=cv [] [] [] Tryz.func44 10 Tryz.ntmps44 rfl rfl fun cx hE=>call0 (z1k a h) ⟨tv2 _ _ _ [] _ _,rfl⟩
theorem zil (a b:Trm) (h:Cp a):PCon Tryz.prog 115 [tv a,tv b] (tv (mkB 5 a b)):=cv [] [] [] Tryz.func115 10 Tryz.ntmps115 rfl rfl fun cx hE=>call0 (z1k a h) ⟨tv2 _ _ _ [] _ _,rfl⟩
theorem zac (t:Trm) (p:List Trm) (a:Trm):appT t (p++[a])=mkA (appT t p) a:=by rw [zpm];rfl
def ceT (t:Trm):Ob:=.ce 35 [.p (I t.kind),.p (I t.n),.p (St t.name),.p (.sl 3 (encLs t.levels)),.p (.sl 5 (encTs t.args))]
theorem z3h (h:Trm) (hh:Cp h) (l:List Trm) (hl:∀ a∈l,Cp a) (hlen:l.length<=1000000000000):PCon Tryz.prog 77 [tv h,.p (.sl 5 (encTs l))] (tv (appT h l)):=by
 refine cv [] [] [] Tryz.func77 22 Tryz.ntmps77 rfl rfl fun cx hE=>call0 (z1k h hh) ?_
 refine loopP l (fun p=>[(6,.p (I p.length))]) (fun p=>[(5,ceT (appT h p))]) (fun _=>True) [6] [5] hE rfl rfl rfl ⟨Sub.refl _,rfl,rfl,rfl,trivial⟩ trivial (fun _=>fun _=>brTe ⟨rfl,rfl⟩) (fun p a q hl' _=>?_)
 have:=zh hl'
 refine fun _=>brT' hl' (idxT hl' (call0 (z1o (appT h p) a (hl a (zf hl'))) (And.intro (by omega) ⟨trivial,Sub.i (by simp),by rw [zac];rfl,rfl,rfl,trivial⟩)))
theorem zad (a:Trm):∀ b,PCon Tryz.prog 29 [tv a,tv b] (.p (B (eqT a b))):=by
 intro b
 have ih:∀ c∈a.args,∀ b,PCon Tryz.prog 29 [tv c,tv b] (.p (B (eqT c b))):=fun c hc b=>zad c b
 have he:=zz3l a b
 have h1:=zc a.args
 have h2:=zc b.args
 have h3:=zp a.levels
 have h4:=zp b.levels
 refine cv [] [1000001] [] Tryz.func29 82 Tryz.ntmps29 rfl rfl fun cx hE=>?_
 refine join1 (A:=Unit) (fun _=>[]) (fun _=>[]) (fun _=>a.kind=b.kind/\a.n=b.n/\a.name=b.name/\a.levels.length=b.levels.length/\a.args.length=b.args.length) [] [] [] hE rfl rfl rfl ?_ (fun _ hn=>?_)
 ·have hl:a.levels.length≠b.levels.length->eqT a b=false:=fun h=>by rw [he,zkt h];simp
  have ha:a.args.length≠b.args.length->eqT a b=false:=fun h=>by rw [he,zyr h];simp
  repeat' (first | refine brN (fun _=>?_) (fun _=>?_) | refine brS (fun _=>?_) (fun _=>?_) | refine fun _=>?_)
  all_goals first
  | (refine ⟨B_eq ?_,rfl⟩;first | (rw [he];simp [*];done) | (symm;apply hl;omega) | (symm;apply ha;omega))
  | (refine ⟨(),?_,leX.same ⟨rfl,rfl,trivial⟩⟩;simp_all;done)
  | (refine ⟨(),?_,leX.same ⟨rfl,rfl,trivial⟩⟩;simp_all;omega)
 obtain ⟨n1,n2,n3,n4,n5⟩:=hn
 have hz:=zeb n4
 have hy:=zpo n5
 refine loopP (a.levels.zip b.levels) (fun p=>[(5,.p (I p.length))]) (fun p=>[]) (fun p=>(p.all fun p=>eqL' p.1 p.2)=true) [5] [] hE rfl rfl rfl ⟨Sub.refl _,rfl,rfl,trivial⟩ rfl (fun hp=>fun _=>brOut (by simp;omega) ?_) (fun p x q hl hp=>?_)
 ·refine loopP (a.args.zip b.args) (fun p=>[(6,.p (I p.length))]) (fun p=>[]) (fun p=>(p.all fun p=>eqT p.1 p.2)=true) [6] [] hE rfl rfl rfl ⟨Sub.refl _,rfl,rfl,trivial⟩ rfl (fun hq=>fun _=>brOut (by simp;omega) ⟨B_eq ?_,rfl⟩) (fun p x q hl hq=>?_)
  ·rw [he,hz,hy,hp,hq];simp [n1,n2,n3]
  ·obtain ⟨x,y⟩:=x
   obtain ⟨g1,g2,g3⟩:=zed hl
   refine fun _=>brIn (by simpa using g3) (idxN (row:=rowT x) (by rw [zb,List.getElem?_map,g1];rfl) (idxN (row:=rowT y) (by rw [zb,List.getElem?_map,g2];rfl) (call0 (ih x (List.mem_of_getElem? g1) y) (brB (fun hb=>⟨B_eq ?_,rfl⟩) (fun hb=>And.intro (by omega) ⟨?_,Sub.i (by simp),rfl,rfl,trivial⟩)))))
   ·have hb':eqT x y=false:=by simpa using hb
    rw [he,hy,hl];simp [hb']
   ·have hb':eqT x y=true:=by simpa using hb
    simp [hq,hb']
 ·obtain ⟨x,y⟩:=x
  obtain ⟨g1,g2,g3⟩:=zed hl
  refine fun _=>brIn (by simpa using g3) (idxN (row:=rowL x) (by rw [zr,List.getElem?_map,g1];rfl) (idxN (row:=rowL y) (by rw [zr,List.getElem?_map,g2];rfl) (call0 (zik x y) (brB (fun hb=>⟨B_eq ?_,rfl⟩) (fun hb=>And.intro (by omega) ⟨?_,Sub.i (by simp),rfl,rfl,trivial⟩)))))
  ·have hb':eqL' x y=false:=by simpa using hb
   rw [he,hz,hl];simp [hb']
  ·have hb':eqL' x y=true:=by simpa using hb
   simp [hp,hb']
termination_by SizeOf.sizeOf a
decreasing_by exact Trm.lt hc
theorem zim {u:Trm} {acc:List Trm} {f a:Trm} (hk:u.kind=3) (ha:u.args=[f,a]):spnT u acc=spnT f (a::acc):=by
 obtain ⟨k,n,s,ls,l⟩:=u
 simp only at hk ha
 subst hk ha
 rw [spnT.eq_def];simp
theorem zin {u:Trm} {acc:List Trm} (hk:¬ u.kind=3):spnT u acc=(u,acc):=by
 obtain ⟨k,n,s,ls,l⟩:=u
 simp only at hk
 rw [spnT.eq_def];simp [hk]
theorem z4h {b:Int} {t:Trm} (h:wfT b t=true) (hk:t.kind=3\/t.kind=4\/t.kind=5):∃ x y,t.args=[x,y]:=by
 have:=(zg h).args
 have h2:t.args.length=2:=by unfold argF at this;rw [if_neg (by omega),if_pos hk] at this;omega
 match t.args,h2 with
 | [x,y],_=>exact ⟨x,y,rfl⟩
theorem z3i (b:Int) (hb:b<=1152921504606846976) (t:Trm) (hw:wfT b t=true) (hd:dpT t<=1000000000000):PCon Tryz.prog 74 [tv t] (.tp [tv (headT t),.p (.sl 5 (encTs (argsT t)))]):=by
 refine cv [13] [] [] Tryz.func74 23 Tryz.ntmps74 rfl rfl fun cx hE=>?_
 refine loop2 (fun (u:Trm) (l:List Trm)=>[(4,.p (.sl 5 (encTs l)))]) (fun u l=>[(1,ceT u)]) (fun u l=>wfT b u=true/\l.length+dpT u<=dpT t/\spnT u l=spnT t []) (fun u l=>dpT u) t [] [4] [1] hE rfl rfl rfl ⟨Sub.nil (sz:=5),rfl,rfl,trivial⟩ ⟨hw,by simp,rfl⟩ fun u l ⟨g1,g2,g3⟩=>?_
 refine brS (fun hk=>?_) (fun hk=>?_)
 ·obtain ⟨x,y,ha⟩:=z4h g1 (.inl hk)
  have w:=zg g1
  have hx:=z1c (t:=u) (a:=x) (by rw [ha];simp)
  have hy:=z1c (t:=u) (a:=y) (by rw [ha];simp)
  have e1:(encTs u.args)[1]?=some (rowT y):=by rw [ha];simp [encTs,z4k]
  have e0:(encTs u.args)[0]?=some (rowT x):=by rw [ha];simp [encTs,z4k]
  refine idxN (i:=1) e1 (call0 (z1k y (.of (w.sub y (by rw [ha];simp)) hb (by omega))) (app2 rfl (by simp;omega) (by simp;omega) (idxN (i:=0) e0 ?_)))
  refine ⟨x,y::l,⟨w.sub x (by rw [ha];simp),by simp;omega,by rw [<- g3,zim hk ha]⟩,by omega,Sub.tsp ?_,rfl,rfl,trivial⟩
  simp [encTs,z4k,rowT]
 ·rw [zin hk] at g3
  refine call0 (z1k u (.of g1 hb (by omega))) ⟨?_,rfl⟩
  unfold headT argsT
  rw [<- g3];rfl
def lfm (t:Trm) (k v:Nat):AV:=.ag [.p (I t.kind),.p (I t.n),.p (St t.name),.tm k v,.p nilS]
theorem zsd (t:Trm) (h1:t.levels.length<=1000000000000) (h2:∀ l∈t.levels,narL l=true):Con Tryz.prog 102 [tv t] [] (fun r o=>r=lfm t 500 t.levels.length/\o=[(500,.mu 74 3 t.levels.length (encLs t.levels))]):=by
 refine cv [] [] [500,999999] Tryz.func102 31 Tryz.ntmps102 rfl rfl fun cx hE=>?_
 refine tokOM 3 3 500 74 3 hE rfl rfl rfl rfl rfl ?_
 refine loopP t.levels (fun p=>[(4,.p (I p.length))]) (fun p=>[(3,.ce 35 [.p (I t.kind),.p (I t.n),.p (St t.name),.tm 500 p.length,.p nilS]),(500,.mu 74 3 p.length (encLs p))]) (fun _=>True) [4] [3,500] hE rfl rfl rfl ⟨Sub.refl _,rfl,rfl,rfl,rfl,trivial⟩ trivial (fun _=>fun _=>brLe ⟨rfl,rfl⟩) (fun p a q hl _=>?_)
 have:=zh hl
 have e:Ob.mu 74 3 (p.length+1) (encLs p++[[I a.kind,I a.n,.sl 3 (encLs a.args)]])=.mu 74 3 (p++[a]).length (encLs (p++[a])):=by rw [z8e];simp
 refine fun _=>brL hl (idxL hl (call0 (z2r a (h2 a (zf hl))) (app2 (by simp) (by simp;omega) (by simp;omega) (And.intro (by omega) ?_))))
 exact ⟨trivial,Sub.i (by simp),by simp,e,rfl,rfl,trivial⟩
theorem z9c (by_:List Lvl) (hby:∀ b∈by_,narL b=true) (b:Int) (t:Trm):wfT b t=true->PCon Tryz.prog 80 [tv t,.p (.sl 3 (encLs by_))] (tv (lvsT by_ t)):=by
 intro hw
 have w:=zg hw
 have ih:∀ a∈t.args,PCon Tryz.prog 80 [tv a,.p (.sl 3 (encLs by_))] (tv (lvsT by_ a)):=fun a ha=>z9c by_ hby b a (w.sub a ha)
 have hfew:=w.few_args
 have hln:=w.few
 rw [zb6,z4g,z1t]
 refine cv [] [1000006] [] Tryz.func80 48 Tryz.ntmps80 rfl rfl fun cx hE=>?_
 refine callX [] (zsd t w.few w.nar) rfl rfl (za _) fun r o ⟨e1,e2⟩=>?_
 subst e1 e2
 refine loop2 (fun (p q:List Lvl)=>[(6,.p (I p.length))]) (fun p q=>[(500,.mu 74 3 t.levels.length (encLs (p.map (putF by_)++q)))]) (fun p q=>t.levels=p++q) (fun p q=>q.length) [] t.levels [6] [500] hE rfl rfl rfl ⟨Sub.refl _,rfl,rfl,rfl,rfl,trivial⟩ rfl fun p q hpq=>?_
 have hlen:(encLs (p.map (putF by_)++q)).length=t.levels.length:=by rw [hpq];simp
 cases q with
 | nil =>
   refine len1 (fun _=>brOut (by rw [hlen,hpq];simp) ?_)
   simp only [List.append_nil] at hpq ⊢
   subst hpq
   refine join1 (A:=Unit) (fun _=>[]) (fun _=>[(5,ceT ⟨t.kind,t.n,t.name,t.levels.map (putF by_),t.args.map (lvsT by_)⟩)]) (fun _=>True) [] [5,500] [] hE rfl rfl rfl ?_ (fun _ _=>⟨rfl,rfl⟩)
   refine tokOV 5 4 501 35 5 hE rfl rfl rfl rfl ?_
   refine loopP t.args (fun p=>[(7,.p (I p.length))]) (fun p=>[(5,.ce 35 [.p (I t.kind),.p (I t.n),.p (St t.name),.tm 500 t.levels.length,.ts 501 5 (encTs (p.map (lvsT by_)))]),(501,.ar 35 5 (encTs (p.map (lvsT by_))).length)]) (fun _=>True) [7] [5,501] hE rfl rfl rfl ⟨Sub.refl _,rfl,rfl,rfl,rfl,rfl,trivial⟩ trivial (fun _=>fun _=>brTe ⟨(),trivial,leX.by (Le.muPC 5 3 500 rfl rfl rfl rfl rfl) (leX.by (Le.subC 5 4 rfl rfl Sub.ts rfl rfl) (leX.same ⟨rfl,rfl,rfl,trivial⟩))⟩) (fun p a q hl _=>?_)
   have:=zh hl
   refine fun _=>brT' hl (idxT hl (call0 (ih a (zf hl)) (app1 (by simp;omega) (by simp;omega) (And.intro (by omega) ?_))))
   exact ⟨trivial,Sub.i (by simp),zur (by rw [List.map_append];exact z1h _ _),ar_eq (by simp),rfl,rfl,rfl,trivial⟩
 | cons a q =>
   have hlt:p.length<t.levels.length:=by rw [hpq];simp
   have hrow:(encLs (p.map (putF by_)++a::q))[p.length]?=some (rowL a):=by simp [zr]
   refine len1 (fun _=>brIn (by rw [hlen];exact hlt) (And.intro (by omega) (And.intro (by rw [hlen];omega) (pld1 (i:=p.length) hrow (call0 (zus by_ hby a (w.nar a (by rw [hpq];simp))) (And.intro (by omega) (And.intro (by rw [hlen];omega) (pst1 (i:=p.length) (by rw [hlen];exact hlt) ?_))))))))
   refine And.intro (by omega) ⟨p++[a],q,by rw [hpq];simp,by simp,Sub.i (by simp),?_,rfl,rfl,rfl,trivial⟩
   have:(encLs (p.map (putF by_)++a::q)).set p.length (rowL (putF by_ a))=encLs ((p++[a]).map (putF by_)++q):=by simp [zr]
   exact congrArg (Ob.mu 74 3 t.levels.length) this
termination_by SizeOf.sizeOf t
decreasing_by exact Trm.lt ha
theorem z3t (t:Trm) (hd:dpT t<=1000000000000):PCon Tryz.prog 131 [tv t] (.p (I (piL t).length)):=by
 refine cv [] [] [] Tryz.func131 20 Tryz.ntmps131 rfl rfl fun cx hE=>?_
 refine loop2 (fun (n:Nat) (u:Trm)=>[(3,.p (I n))]) (fun n u=>[(1,ceT u)]) (fun n u=>n+(piL u).length=(piL t).length/\n+dpT u<=dpT t) (fun n u=>dpT u) 0 t [3] [1] hE rfl rfl rfl ⟨Sub.refl _,rfl,trivial⟩ ⟨by simp,by simp⟩ fun n u ⟨g1,g2⟩=>?_
 have hel:=zc u.args
 refine brS (fun hk=>fun _=>brS (fun hl=>?_) (fun hl=>?_)) (fun hk=>?_)
 ·obtain ⟨x,y,ha⟩:=z4p (l:=u.args) (by omega)
  have hy:=z1c (t:=u) (a:=y) (by rw [ha];simp)
  have e1:(encTs u.args)[1]?=some (rowT y):=by rw [ha];simp [encTs,z4k]
  have hp:=(z2e hk ha).1
  rw [hp] at g1
  refine And.intro (by omega) (idxN (i:=1) e1 ⟨n+1,y,⟨by simp at g1;omega,by omega⟩,by omega,Sub.i (by simp),rfl,trivial⟩)
 ·have hp:=(z2z (u:=u) (by omega)).1
  rw [hp] at g1
  exact ⟨I_eq (by simp at g1;omega),rfl⟩
 ·have hp:=(z2z (u:=u) (by omega)).1
  rw [hp] at g1
  exact ⟨I_eq (by simp at g1;omega),rfl⟩
theorem zba (b:Int) (hb:b<=1152921504606846976) (t:Trm) (hw:wfT b t=true) (hd:dpT t<=1000000000000) (n:Nat) (hn:n<=(piL t).length):PCon Tryz.prog 156 [tv t,.p (I n)] (.tp [.p (.sl 5 (encTs ((piL t).take n))),tv (piD n t),.p (B true)]):=by
 have hpd:=z4q t
 refine cv [] [] [] Tryz.func156 38 Tryz.ntmps156 rfl rfl fun cx hE=>brZ (by omega) (call0 (z3t t hd) (brZ (by omega) ?_))
 refine tokV 7 500 35 5 hE rfl rfl rfl ?_
 refine loop2 (fun (p:List Trm) (u:Trm)=>[(8,.p (I p.length)),(7,.ts 500 5 (encTs p))]) (fun p u=>[(2,ceT u),(500,.ar 35 5 (encTs p).length)]) (fun p u=>piL t=p++piL u/\p.length<=n/\piD (n-p.length) u=piD n t/\wfT b u=true/\dpT u<=dpT t) (fun p u=>dpT u) [] t [8,7] [2,500] hE rfl rfl rfl ⟨Sub.refl _,Sub.refl _,rfl,rfl,rfl,trivial⟩ ⟨rfl,by simp,rfl,hw,Nat.le_refl _⟩ fun p u ⟨g1,g2,g3,g4,g5⟩=>?_
 refine brS (fun hlt=>?_) (fun hlt=>?_)
 ·have hne:(piL u).length≠0:=by rw [g1,List.length_append] at hn;omega
  have hk:u.kind=5/\u.args.length=2:=Classical.not_not.1 fun h=>hne (by rw [(z2z h).1];rfl)
  obtain ⟨x,y,ha⟩:=z4p hk.2
  have hx:=z1c (t:=u) (a:=x) (by rw [ha];simp)
  have hy:=z1c (t:=u) (a:=y) (by rw [ha];simp)
  have e1:(encTs u.args)[1]?=some (rowT y):=by rw [ha];simp [encTs,z4k]
  have e0:(encTs u.args)[0]?=some (rowT x):=by rw [ha];simp [encTs,z4k]
  have hp:=z2e hk.1 ha
  have w:=zg g4
  have hpl:(piL t).length=p.length+(piL u).length:=by rw [g1];simp
  refine idxN (i:=0) e0 (call0 (z1k x (.of (w.sub x (by rw [ha];simp)) hb (by omega))) (app1 (by simp;omega) (by simp;omega) (idxN (i:=1) e1 (And.intro (by omega) ?_))))
  refine ⟨p++[x],y,⟨by rw [g1,hp.1];simp,by simp;omega,?_,w.sub y (by rw [ha];simp),by omega⟩,by omega,Sub.i (by simp),Sub.tse (z1h _ _),rfl,ar_eq (by simp),rfl,trivial⟩
  rw [<- g3,show n-p.length=(n-(p++[x]).length)+1 by simp;omega,hp.2.2]
 ·have hpn:p.length=n:=by omega
  rw [hpn,Nat.sub_self] at g3
  have g3':u=piD n t:=g3
  refine call0 (z1k u (.of g4 hb (by omega))) ⟨?_,rfl⟩
  rw [g1,<- hpn,List.take_left,hpn,<- g3'];rfl
theorem zse (t:Trm) (n:Nat) (hn:n<=(piL t).length) (hd:dpT t<=1000000000000):PCon Tryz.prog 184 [tv t,.p (I n)] (tv (piD n t)):=by
 have hpd:=z4q t
 refine cv [] [] [] Tryz.func184 16 Tryz.ntmps184 rfl rfl fun cx hE=>?_
 refine loop2 (fun (i:Nat) (u:Trm)=>[(5,.p (I i))]) (fun i u=>[(2,ceT u)]) (fun i u=>i<=n/\n<=i+(piL u).length/\piD (n-i) u=piD n t) (fun i u=>n-i) 0 t [5] [2] hE rfl rfl rfl ⟨Sub.refl _,rfl,rfl,trivial⟩ ⟨by omega,by omega,rfl⟩ fun i u ⟨g1,g2,g3⟩=>?_
 refine brS (fun hlt=>?_) (fun hlt=>?_)
 ·have hk:u.kind=5/\u.args.length=2:=Classical.not_not.1 fun h=>by rw [(z2z h).1] at g2;simp at g2;omega
  obtain ⟨x,y,ha⟩:=z4p hk.2
  have e1:(encTs u.args)[1]?=some (rowT y):=by rw [ha];simp [encTs,z4k]
  have hp:=z2e hk.1 ha
  rw [hp.1] at g2
  refine idxN (i:=1) e1 (And.intro (by omega) ⟨i+1,y,⟨by omega,by simp at g2;omega,?_⟩,by omega,Sub.i (by simp),rfl,rfl,trivial⟩)
  rw [<- g3,show n-i=(n-(i+1))+1 by omega,hp.2.2]
 ·rw [show n-i=0 by omega] at g3
  exact ⟨by rw [<- g3];rfl,rfl⟩
theorem zut (xs:List Trm) (t:Trm) (ht:Cp t) (hx:∀ x∈xs,Cp x) (hl:xs.length<=1000000000000):PCon Tryz.prog 186 [.p (.sl 5 (encTs xs)),tv t] (tv (lamsT xs t)):=by
 refine cv [] [] [] Tryz.func186 23 Tryz.ntmps186 rfl rfl fun cx hE=>call0 (z1k t ht) (fun _=>And.intro (by omega) ?_)
 refine loop1 (fun (k:Nat)=>[(6,.p (I ((k:Int)-1)))]) (fun k=>[(5,ceT (lamsT (xs.drop k) t))]) (fun k=>k<=xs.length) (fun k=>k) xs.length [6] [5] hE rfl rfl rfl ⟨Sub.i (by simp),by rw [List.drop_length];rfl,rfl,rfl,trivial⟩ (Nat.le_refl _) fun k hk=>?_
 refine brS (fun h0=>?_) (fun h0=>?_)
 ·obtain ⟨j,rfl⟩:∃ j,k=j+1:=⟨k-1,by omega⟩
  have hj:xs[j]?=some (xs[j]'(by omega)):=List.getElem?_eq_getElem (by omega)
  have e:(encTs xs)[j]?=some (rowT (xs[j]'(by omega))):=by rw [zb,List.getElem?_map,hj];rfl
  have hi:((j+1:Nat):Int)-1=(j:Nat):=by omega
  have hld:=zgm hj t
  rw [hi]
  refine idxN e (call0 (z4b _ _ (hx _ (List.getElem_mem _))) (And.intro (by omega) ⟨j,by omega,by omega,Sub.i rfl,?_,rfl,rfl,trivial⟩))
  rw [hld];rfl
 ·obtain rfl:k=0:=by omega
  exact ⟨rfl,rfl⟩
theorem zuu (n:Nat) (hn:n<=1000000000000):PCon Tryz.prog 185 [.p (I n),.p (I 0)] (.p (.sl 5 (encTs (varsT n)))):=by
 refine cv [] [] [] Tryz.func185 23 Tryz.ntmps185 rfl rfl fun cx hE=>And.intro (by omega) ?_
 refine tokV 5 500 35 5 hE rfl rfl rfl ?_
 refine loop2 (fun (k:Nat) (p:List Trm)=>[(6,.p (I ((k:Int)-1))),(5,.ts 500 5 (encTs p))]) (fun k p=>[(500,.ar 35 5 (encTs p).length)]) (fun k p=>k<=n/\p.length+k=n/\p++varsT k=varsT n) (fun k p=>k) n [] [6,5] [500] hE rfl rfl rfl ⟨Sub.i (by omega),Sub.refl _,rfl,trivial⟩ ⟨Nat.le_refl _,by simp,rfl⟩ fun k p ⟨g1,g2,g3⟩=>?_
 refine brS (fun h0=>?_) (fun h0=>?_)
 ·obtain ⟨j,rfl⟩:∃ j,k=j+1:=⟨k-1,by omega⟩
  have hi:max 0 0+(((j+1:Nat):Int)-1)=(j:Nat):=by omega
  refine And.intro (by omega) (call0 (z4a _) (app1 (by simp;omega) (by simp;omega) (And.intro (by omega) ?_)))
  rw [hi]
  refine ⟨j,p++[mkV j],⟨by omega,by simp;omega,by rw [<- g3];simp [varsT]⟩,by omega,Sub.i (by omega),Sub.tse (z1h p (mkV j)),ar_eq (by simp),trivial⟩
 ·obtain rfl:k=0:=by omega
  exact ⟨by rw [<- g3];simp [varsT],rfl⟩
def cpM (t:Trm):AV:=.ag [.p (I t.kind),.p (I t.n),.p (St t.name),.p (.sl 3 (encLs t.levels)),.tm 500 t.args.length]
theorem zsf (b:Int) (hb:b<=1152921504606846976) (t:Trm) (hd:dpT t<=1152921504606846975) (hw:wfT b t=true):Con Tryz.prog 99 [tv t,.p (I 0),.p (I 0)] [] (fun r o=>r=cpM t/\o=[(500,.mu 35 5 t.args.length (encTs t.args))]):=by
 have w:=zg hw
 have hfew:=w.few_args
 have hn1:=w.n1
 have hn0:=w.n0
 refine cv [] [1000002] [500] Tryz.func99 51 Tryz.ntmps99 rfl rfl fun cx hE=>call0 (zaa t w.few w.nar) ?_
 refine join0 [] [(7,.ce 35 [.p (I t.kind),.p (I t.n),.p (St t.name),.p (.sl 3 (encLs t.levels)),.p nilS])] [] [7] [] hE rfl rfl rfl ?_ ?_
 ·refine brS (fun h1=>brS (fun h2=>And.intro (by omega) ?_) (fun h2=>?_)) (fun h1=>?_)
  ·exact ⟨by rw [Int.add_zero],rfl,rfl,trivial⟩
  ·exact ⟨rfl,rfl,rfl,trivial⟩
  ·exact ⟨rfl,rfl,rfl,trivial⟩
 ·refine tokOM 7 4 500 35 5 hE rfl rfl rfl rfl rfl ?_
  refine loopP t.args (fun p=>[(8,.p (I p.length))]) (fun p=>[(7,.ce 35 [.p (I t.kind),.p (I t.n),.p (St t.name),.p (.sl 3 (encLs t.levels)),.tm 500 p.length]),(500,.mu 35 5 p.length (encTs p))]) (fun _=>True) [8] [7,500] hE rfl rfl rfl ⟨Sub.refl _,rfl,rfl,rfl,rfl,trivial⟩ trivial (fun _=>fun _=>brTe ⟨rfl,rfl⟩) (fun p a q hl _=>?_)
  have:=zh hl
  have hbd:=z6u t.kind p.length
  have hda:=z1c (zf hl)
  have hp:=zab 0 b (by omega) (by omega) hb a (0+bndF t.kind p.length) (by omega) (by omega) (w.sub a (zf hl))
  rw [za6] at hp
  have e:Ob.mu 35 5 (p.length+1) (encTs p++[[I a.kind,I a.n,St a.name,.sl 3 (encLs a.levels),.sl 5 (encTs a.args)]])=.mu 35 5 (p++[a]).length (encTs (p++[a])):=by rw [z1h];simp
  refine fun _=>brT' hl (idxT hl (call0 (z4y _ _) (And.intro (by omega) (call0 hp (app2 (by simp) (by simp;omega) (by simp;omega) (And.intro (by omega) ?_))))))
  exact ⟨trivial,Sub.i (by simp),by simp,e,rfl,rfl,trivial⟩
theorem zbb (b:Int) (hb:b<=1152921504606846976) (t:Trm) (hd:dpT t<=1152921504606846975) (hw:wfT b t=true):Con Tryz.prog 51 [tv t] [] (fun r o=>r=cpM t/\o=[(500,.mu 35 5 t.args.length (encTs t.args))]) :=
 cv [] [] [500] Tryz.func51 5 Tryz.ntmps51 rfl rfl fun cx hE=>callX [] (zsf b hb t hd hw) rfl rfl (za _) fun r o ⟨e1,e2⟩=>by subst e1 e2;exact ⟨rfl,rfl⟩
theorem zkv (vs:List Trm) (hvl:vs.length<=1000000000000) (hv:∀ v∈vs,Cp v/\dpT v<=1000000000000000000) (b:Int) (hb:b<=1152921504606846976) (t:Trm):∀ at_:Int,0<=at_->at_+dpT t<=1073741824->wfT b t=true->PCon Tryz.prog 216 [tv t,.p (.sl 5 (encTs vs)),.p (I at_)] (tv (opnT vs t at_)):=by
 intro at_ h0 h1 hw
 have w:=zg hw
 have ih:∀ a∈t.args,∀ f:Int,0<=f->f+dpT a<=1073741824->PCon Tryz.prog 216 [tv a,.p (.sl 5 (encTs vs)),.p (I f)] (tv (opnT vs a f)):=fun a ha f g0 g1=>zkv vs hvl hv b hb a f g0 g1 (w.sub a ha)
 have hfew:=w.few_args
 have hn1:=w.n1
 have hn0:=w.n0
 have hpos:1<=dpT t:=by rw [z5s];omega
 have hvn:=zc vs
 refine cv [] [1000001,1000007] [] Tryz.func216 70 Tryz.ntmps216 rfl rfl fun cx hE=>?_
 refine join1 (A:=Unit) (fun _=>[]) (fun _=>[]) (fun _=>¬ (t.kind=0/\at_<=t.n)) [] [] [] hE rfl rfl rfl ?_ (fun _ hn=>?_)
 ·refine brS (fun hk=>brS (fun he=>And.intro (by omega) (fun _=>brS (fun hg=>?_) (fun hg=>fun _=>And.intro (by omega) (call0 (z4a _) ⟨?_,rfl⟩)))) (fun he=>⟨(),by omega,leX.same ⟨rfl,rfl,trivial⟩⟩)) (fun hk=>⟨(),by omega,leX.same ⟨rfl,rfl,trivial⟩⟩)
  ·have hi:(vs.length:Int)-1-(t.n-at_)=((vs.length-1-(t.n-at_).toNat:Nat):Int):=by omega
   have hlt:vs.length-1-(t.n-at_).toNat<vs.length:=by omega
   have hgt:vs[vs.length-1-(t.n-at_).toNat]?=some (vs.getD (vs.length-1-(t.n-at_).toNat) ⟨0,0,⟨#[]⟩,[],[]⟩):=by simp [List.getD_eq_getElem?_getD,hlt]
   have hm:=List.mem_of_getElem? hgt
   refine fun _=>And.intro (by omega) (And.intro (by omega) ?_)
   rw [hvn,hi]
   refine idxN (row:=rowT (vs.getD (vs.length-1-(t.n-at_).toNat) ⟨0,0,⟨#[]⟩,[],[]⟩)) (by rw [zb,List.getElem?_map,hgt];rfl) (call0 (z3l _ (hv _ hm).1 at_ h0 (by omega) 0 (by omega) (by omega) (hv _ hm).2) ⟨?_,rfl⟩)
   rw [zig hw at_ hk (by omega),if_pos (by omega)];rfl
  ·rw [zig hw at_ hk (by omega),if_neg (by omega),hvn];rfl
 ·rw [zuj hw at_ hn]
  refine callX [] (zbb b hb t (by omega) hw) rfl rfl (za _) fun r o ⟨e1,e2⟩=>?_
  subst e1 e2
  have hln:=z2l (opnV vs) t.kind t.args 0 at_
  refine join1 (A:=Unit) (fun _=>[]) (fun _=>[(8,ceT ⟨t.kind,t.n,t.name,t.levels,trvTs (opnV vs) t.kind t.args 0 at_⟩)]) (fun _=>True) [] [8,500] [] hE rfl rfl rfl ?_ (fun _ _=>⟨rfl,rfl⟩)
  refine loopP t.args (fun p=>[(9,.p (I p.length))]) (fun p=>[(500,.mu 35 5 t.args.length (encTs (trvTs (opnV vs) t.kind p 0 at_++t.args.drop p.length)))]) (fun _=>True) [9] [500] hE rfl rfl rfl ⟨Sub.refl _,rfl,rfl,rfl,rfl,trivial⟩ trivial (fun _=>fun _=>brTe ⟨(),trivial,leX.by (Le.muPC 8 4 500 rfl rfl rfl rfl rfl) (leX.same ⟨?_,rfl,rfl,trivial⟩)⟩) (fun p a q hl _=>?_)
  ·rw [List.drop_length,List.append_nil];rfl
  ·have hlt:=zh hl
   have hbd:=z6u t.kind p.length
   have hda:=z1c (zf hl)
   have hsn:=z8d (opnV vs) t.kind p a at_
   have hlen:=z2l (opnV vs) t.kind p 0 at_
   have hdr:t.args.drop p.length=a::q:=by rw [hl];simp
   have hdr2:t.args.drop (p++[a]).length=q:=by rw [hl];simp
   have hml:(encTs (trvTs (opnV vs) t.kind p 0 at_++t.args.drop p.length)).length=t.args.length:=by rw [zc,List.length_append,hlen,List.length_drop];omega
   refine fun _=>brT' hl (idxT hl (call0 (z4y _ _) (And.intro (by omega) (call0 (ih a (zf hl) (at_+bndF t.kind p.length) (by omega) (by omega)) (And.intro (by omega) (And.intro (by rw [hml];omega) (pst1 (i:=p.length) (by rw [hml];exact hlt) (And.intro (by omega) ?_))))))))
   refine ⟨trivial,Sub.i (by simp),?_,rfl,rfl,rfl,trivial⟩
   have:(encTs (trvTs (opnV vs) t.kind p 0 at_++t.args.drop p.length)).set p.length (rowT (opnT vs a (at_+bndF t.kind p.length)))=encTs (trvTs (opnV vs) t.kind (p++[a]) 0 at_++t.args.drop (p++[a]).length):=by
    rw [hsn,hdr,hdr2]
    simp only [zb,List.map_append,List.map_cons,List.append_assoc]
    rw [List.set_append_right _ _ (by simp [hlen])]
    simp [hlen,opnT]
   exact congrArg (Ob.mu 35 5 t.args.length) this
termination_by SizeOf.sizeOf t
decreasing_by exact Trm.lt ha
theorem zuv (vs:List Trm) (hvl:vs.length<=1000000000000) (hv:∀ v∈vs,Cp v/\dpT v<=1000000000000000000) (b:Int) (hb:b<=1152921504606846976) (t:Trm) (hd:dpT t<=1073741824) (hw:wfT b t=true):PCon Tryz.prog 183 [tv t,.p (.sl 5 (encTs vs))] (tv (opnT vs t 0)) :=
 cv [] [] [] Tryz.func183 8 Tryz.ntmps183 rfl rfl fun cx hE=>call0 (zkv vs hvl hv b hb t 0 (by omega) (by omega) hw) ⟨rfl,rfl⟩
structure CpD (d:Dcl):Prop where
 t:Cp d.type
 v:Cp d.value
 n:d.ctors.length<=1000000000000
 c:∀ c∈d.ctors,Cp c.ty
theorem zbc (d:Dcl) (h:CpD d):PCon Tryz.prog 111 [dv d] (dv d):=by
 refine cv [] [] [] Tryz.func111 40 Tryz.ntmps111 rfl rfl fun cx hE=>call0 (z1k d.type h.t) (call0 (z1k d.value h.v) ?_)
 have hn:=h.n
 refine tokV 3 500 156 6 hE rfl rfl rfl ?_
 refine loopP d.ctors (fun p=>[(4,.p (I p.length)),(3,.ts 500 6 (encCs p))]) (fun p=>[(500,.ar 156 6 (encCs p).length)]) (fun _=>True) [4,3] [500] hE rfl rfl rfl ⟨Sub.refl _,Sub.refl _,rfl,rfl,rfl,trivial⟩ trivial (fun _=>fun _=>brOut (by simp) ⟨rfl,rfl⟩) (fun p a q hl _=>?_)
 have:=zh hl
 refine fun _=>brIn (by simp [hl]) (idxN (z1m (f:=rowC) hl) (idxN (z1m (f:=rowC) hl) (call0 (z1k a.ty (h.c a (zf hl))) (app1 (by simp;omega) (by simp;omega) (And.intro (by omega) ?_)))))
 exact ⟨trivial,Sub.i (by simp),Sub.tse (by simp [encCs,rowC]),ar_eq (by simp),rfl,rfl,trivial⟩
def mv (f c:Int):AV:=.ag [.p (I f),.p (I c)]
def stepF (f c:Int):AV:=.tp [mv (if f<=0 then f else f-1) c,.p (I (if f<=0 then 11 else 0))]
theorem zkw (f c:Int) (h0:-1000000000000<=f) (h1:f<=1000000000000):PCon Tryz.prog 84 [mv f c] (stepF f c):=by
 refine cv [] [] [] Tryz.func84 13 Tryz.ntmps84 rfl rfl fun cx hE=>brS (fun h=>⟨?_,rfl⟩) (fun h=>And.intro (by omega) ⟨?_,rfl⟩)
 ·unfold stepF;rw [if_pos h,if_pos h];rfl
 ·unfold stepF;rw [if_neg h,if_neg h];rfl
theorem zuw (f c:Int) (h0:-1000000000000<=f) (h1:f<=1000000000000):PCon Tryz.prog 165 [mv f c] (stepF f c):=by
 refine cv [] [] [] Tryz.func165 13 Tryz.ntmps165 rfl rfl fun cx hE=>brS (fun h=>⟨?_,rfl⟩) (fun h=>And.intro (by omega) ⟨?_,rfl⟩)
 ·unfold stepF;rw [if_pos h,if_pos h];rfl
 ·unfold stepF;rw [if_neg h,if_neg h];rfl
theorem zbd (l:Lvl):∀ most:Int,0<=most->most<=1000000->PCon Tryz.prog 100 [lv l,.p (I most)] (.p (I (min (prtL l:Int) (most+1)))):=by
 intro most h0 h1
 have ih:∀ a∈l.args,∀ m:Int,0<=m->m<=1000000->PCon Tryz.prog 100 [lv a,.p (I m)] (.p (I (min (prtL a:Int) (m+1)))):=fun a ha m h0 h1=>zbd a m h0 h1
 have he:=zih l
 refine cv [] [] [] Tryz.func100 34 Tryz.ntmps100 rfl rfl fun cx hE=>?_
 refine loopP l.args (fun p=>[(6,.p (I p.length)),(5,.p (I (min ((prtLs p:Int)+1) (most+1))))]) (fun p=>[]) (fun _=>True) [6,5] [] hE rfl rfl rfl ⟨Sub.refl _,Sub.i (by simp [prtLs];omega),rfl,trivial⟩ trivial (fun _=>fun _=>brLe (And.intro (by omega) ⟨I_eq (by omega),rfl⟩)) (fun p a q hq _=>fun _=>brL hq (brS (fun hc=>?_) (fun hc=>And.intro (by omega) ⟨I_eq ?_,rfl⟩)))
 ·have:=zh hq
  have hel:=zp l.args
  have hpos:=zys a
  refine idxL hq (And.intro (by omega) (call0 (ih a (zf hq) _ (by omega) (by omega)) (And.intro (by omega) (And.intro (by omega) ⟨trivial,Sub.i (by simp),Sub.i (by rw [zul];omega),rfl,trivial⟩))))
 ·have:=zun hq
  omega
termination_by SizeOf.sizeOf l
decreasing_by exact Lvl.lt ha
theorem zkx (l:Lvl):∀ most:Int,0<=most->most<=1000000->PCon Tryz.prog 194 [lv l,.p (I most)] (.p (I (min (depL l:Int) (most+1)))):=by
 intro most h0 h1
 have ih:∀ a∈l.args,∀ m:Int,0<=m->m<=1000000->PCon Tryz.prog 194 [lv a,.p (I m)] (.p (I (min (depL a:Int) (m+1)))):=fun a ha m h0 h1=>zkx a m h0 h1
 have he:=zii l
 have hp:=zyt l
 refine cv [] [] [] Tryz.func194 30 Tryz.ntmps194 rfl rfl fun cx hE=>brS (fun hz=>And.intro (by omega) ⟨I_eq (by omega),rfl⟩) (fun hz=>?_)
 refine loopP l.args (fun p=>[(6,.p (I p.length)),(5,.p (I (min (depLs p:Int) most)))]) (fun p=>[]) (fun _=>True) [6,5] [] hE rfl rfl rfl ⟨Sub.refl _,Sub.i (by simp [depLs];omega),rfl,trivial⟩ trivial (fun _=>fun _=>brLe (And.intro (by omega) ⟨I_eq (by omega),rfl⟩)) (fun p a q hq _=>fun _=>brL hq (idxL hq (And.intro (by omega) (call0 (ih a (zf hq) _ (by omega) (by omega)) (And.intro ?_ ⟨trivial,Sub.i (by simp),Sub.i (by rw [zum];omega),rfl,trivial⟩)))))
 have:=zh hq
 have hel:=zp l.args
 omega
termination_by SizeOf.sizeOf l
decreasing_by exact Lvl.lt ha
theorem zee (t:Trm):PCon Tryz.prog 149 [tv t] (.p (B (smlT t))):=by
 have ih:∀ a∈t.args,PCon Tryz.prog 149 [tv a] (.p (B (smlT a))):=fun a ha=>zee a
 have he:=znq t
 rw [za9] at he
 have hel:=zp t.levels
 have het:=zc t.args
 refine cv [] [] [] Tryz.func149 42 Tryz.ntmps149 rfl rfl fun cx hE=>?_
 refine loopP t.levels (fun p=>[(3,.p (I p.length))]) (fun p=>[]) (fun p=>p.all smlL=true) [3] [] hE rfl rfl rfl ⟨Sub.refl _,rfl,trivial⟩ rfl (fun hp=>fun _=>brLe ?_) (fun p a q hq hp=>fun _=>brL hq (idxL hq (call0 (zbd a 64 (by omega) (by omega)) (brS (fun h1=>⟨B_eq ?_,rfl⟩) (fun h1=>idxL hq (call0 (zkx a 32 (by omega) (by omega)) (brS (fun h2=>⟨B_eq ?_,rfl⟩) (fun h2=>And.intro (by have:=zh hq;omega) ⟨?_,Sub.i (by simp),rfl,trivial⟩))))))))
 ·refine loopP t.args (fun p=>[(4,.p (I p.length))]) (fun p=>[]) (fun p=>p.all smlT=true) [4] [] hE rfl rfl rfl ⟨Sub.refl _,rfl,trivial⟩ rfl (fun hq=>fun _=>brTe ⟨B_eq (by rw [he,hp,hq];rfl),rfl⟩) (fun p a q hl hq=>fun _=>brT' hl (idxT hl (call0 (ih a (zf hl)) (brB (fun hb=>⟨B_eq ?_,rfl⟩) (fun hb=>And.intro (by have:=zh hl;omega) ⟨?_,Sub.i (by simp),rfl,trivial⟩)))))
  ·have hb':smlT a=false:=by simpa using hb
   rw [he,hl];simp [hb']
  ·have hb':smlT a=true:=by simpa using hb
   rw [List.all_append,hq];simp [hb']
 ·have:smlL a=false:=by unfold smlL;simp;omega
  rw [he,hq];simp [this]
 ·have:smlL a=false:=by unfold smlL;simp;omega
  rw [he,hq];simp [this]
 ·have:smlL a=true:=by unfold smlL;simp;omega
  rw [List.all_append,hp];simp [this]
termination_by SizeOf.sizeOf t
decreasing_by exact Trm.lt ha
def fitsE (c:Int) (t:Trm):Int:=if fitsT c t=true then 0 else 12
theorem zux (f c:Int) (t:Trm) (h0:-1000000<=c) (h1:c<=1000000):PCon Tryz.prog 108 [mv f c,tv t] (.p (I (fitsE c t))):=by
 refine cv [] [] [] Tryz.func108 19 Tryz.ntmps108 rfl rfl fun cx hE=>call0 (z7m t (max c 0) (by omega) (by omega)) (brS (fun h=>⟨I_eq ?_,rfl⟩) (fun h=>call0 (zee t) (brB (fun hb=>⟨I_eq ?_,rfl⟩) (fun hb=>⟨I_eq ?_,rfl⟩))))
 ·unfold fitsE fitsT;unfold mSz at h;rw [if_neg (by simp;omega)]
 ·have hb':smlT t=false:=by simpa using hb
  unfold fitsE fitsT;rw [hb'];simp
 ·have hb':smlT t=true:=by simpa using hb
  unfold fitsE fitsT;unfold mSz at h;rw [hb',if_pos (by simp;omega)]
theorem zgp (l:Lvl):∀ d p:Int,0<=d->d<=1000->0<=p->p<=64->Con Tryz.prog 212 [lv l,.p (I d),.ptr 1000 0] [(1000,.ce 3 [.p (I p)])] (fun r o=>r=.p (B (smlC l d p).1)/\o=[(1000,.ce 3 [.p (I (smlC l d p).2)])]):=by
 intro d p hd0 hd1 hp0 hp1
 have ih:∀ a∈l.args,∀ d p:Int,0<=d->d<=1000->0<=p->p<=64->Con Tryz.prog 212 [lv a,.p (I d),.ptr 1000 0] [(1000,.ce 3 [.p (I p)])] (fun r o=>r=.p (B (smlC a d p).1)/\o=[(1000,.ce 3 [.p (I (smlC a d p).2)])]):=fun a ha d p g0 g1 g2 g3=>zgp a d p g0 g1 g2 g3
 have he:=zuk l d p
 have hel:=zp l.args
 refine cv [] [] [1000] Tryz.func212 36 Tryz.ntmps212 rfl rfl fun cx hE=>And.intro (by omega) (brS (fun h1=>?_) (fun h1=>brS (fun h2=>?_) (fun h2=>fun hl=>?_)))
 ·rw [if_pos (.inl h1)] at he;exact ⟨by rw [he],by rw [he]⟩
 ·rw [if_pos (.inr h2)] at he;exact ⟨by rw [he],by rw [he]⟩
 rw [if_neg (by omega)] at he
 refine loopP l.args (fun q=>[(25,.p (I q.length))]) (fun q=>[(1000,.ce 3 [.p (I (smlCs q (d+1) (p+1)).2)])]) (fun q=>(smlCs q (d+1) (p+1)).1=true/\0<=(smlCs q (d+1) (p+1)).2/\(smlCs q (d+1) (p+1)).2<=64) [25] [1000] hE rfl rfl rfl ⟨Sub.refl _,rfl,rfl,trivial⟩ ⟨rfl,by simp only [smlCs];omega,by simp only [smlCs];omega⟩ (fun hq=>brLe ⟨by rw [he,hq.1],by rw [he]⟩) (fun q a s hq hinv=>?_)
 obtain ⟨g1,g2,g3⟩:=hinv
 have hap:=fun x=>zku q x (d+1) (p+1) g1
 have hle:=zz1z a (d+1) (smlCs q (d+1) (p+1)).2 g2 g3
 have hlt:=zh hq
 refine brL hq (idxL hq (And.intro (by omega) (call1 [1000] (ih a (zf hq) (d+1) _ (by omega) (by omega) g2 g3) rfl rfl (za _) (brB (fun hb=>?_) (fun hb=>And.intro (by omega) ?_)))))
 ·have hb':(smlC a (d+1) (smlCs q (d+1) (p+1)).2).1=false:=by simpa using hb
  have e:smlCs (q++a::s) (d+1) (p+1)=(false,(smlC a (d+1) (smlCs q (d+1) (p+1)).2).2):=by rw [hap];simp only [smlCs,hb'];rfl
  rw [he,hq,e]
  exact ⟨rfl,rfl⟩
 ·have hb':(smlC a (d+1) (smlCs q (d+1) (p+1)).2).1=true:=by simpa using hb
  have hn:smlCs (q++[a]) (d+1) (p+1)=(true,(smlC a (d+1) (smlCs q (d+1) (p+1)).2).2):=by rw [hap];simp only [smlCs,hb',if_true]
  rw [hn]
  exact ⟨⟨rfl,hle.1,hle.2 hb'⟩,Sub.i (by simp),rfl,rfl,trivial⟩
termination_by SizeOf.sizeOf l
decreasing_by exact Lvl.lt ha
theorem zef (t:Trm):PCon Tryz.prog 173 [tv t] (.p (B (smlT t))):=by
 have ih:∀ a∈t.args,PCon Tryz.prog 173 [tv a] (.p (B (smlT a))):=fun a ha=>zef a
 have he:=znq t
 rw [za9] at he
 have hel:=zp t.levels
 have het:=zc t.args
 refine cv [] [] [] Tryz.func173 30 Tryz.ntmps173 rfl rfl fun cx hE=>fun _=>?_
 refine loopP t.levels (fun p=>[(11,.p (I p.length))]) (fun p=>[]) (fun p=>p.all smlL=true) [11] [] hE rfl rfl rfl ⟨Sub.refl _,rfl,trivial⟩ rfl (fun hp=>brLe (fun _=>?_)) (fun p a q hq hp=>brL hq (idxL hq (callX [5] ((zgp a 1 0 (by omega) (by omega) (by omega) (by omega)).sw 1000 5) rfl rfl (za _) fun r o ⟨_,_,⟨e1,e2⟩,e3,e4⟩=>?_)))
 ·refine loopP t.args (fun p=>[(22,.p (I p.length))]) (fun p=>[]) (fun p=>p.all smlT=true) [22] [] hE rfl rfl rfl ⟨Sub.refl _,rfl,trivial⟩ rfl (fun hq=>brTe ⟨B_eq (by rw [he,hp,hq];rfl),rfl⟩) (fun p a q hl hq=>brT' hl (idxT hl (call0 (ih a (zf hl)) (brB (fun hb=>⟨B_eq ?_,rfl⟩) (fun hb=>And.intro (by have:=zh hl;omega) ⟨?_,Sub.i (by simp),rfl,trivial⟩)))))
  ·have hb':smlT a=false:=by simpa using hb
   rw [he,hl];simp [hb']
  ·have hb':smlT a=true:=by simpa using hb
   rw [List.all_append,hq];simp [hb']
 ·subst e1 e2 e3 e4
  refine brB (fun hb=>⟨B_eq ?_,rfl⟩) (fun hb=>And.intro (by have:=zh hq;omega) ⟨?_,Sub.i (by simp),rfl,trivial⟩)
  ·have hb':smlL a=false:=by rw [<- zpq];simpa using hb
   rw [he,hq];simp [hb']
  ·have hb':smlL a=true:=by rw [<- zpq];simpa using hb
   rw [List.all_append,hp];simp [hb']
termination_by SizeOf.sizeOf t
decreasing_by exact Trm.lt ha
theorem zky (t:Trm):∀ (n most:Int),0<=n->n<=most->most<=1000000->Con Tryz.prog 211 [tv t,.ptr 1000 0,.p (I most)] [(1000,.ce 3 [.p (I n)])] (fun r o=>r=.tp []/\o=[(1000,.ce 3 [.p (I (min (n+sizT t) (most+1)))])]):=by
 intro n most h0 h1 h2
 have ih:∀ a∈t.args,∀ (n:Int),0<=n->n<=most->Con Tryz.prog 211 [tv a,.ptr 1000 0,.p (I most)] [(1000,.ce 3 [.p (I n)])] (fun r o=>r=.tp []/\o=[(1000,.ce 3 [.p (I (min (n+sizT a) (most+1)))])]):=fun a ha n g0 g1=>zky a n most g0 g1 h2
 have he:=z6a t
 have hel:=zc t.args
 refine cv [] [] [1000] Tryz.func211 35 Tryz.ntmps211 rfl rfl fun cx hE=>And.intro (by omega) (brS (fun h3=>⟨rfl,O_eq (by omega)⟩) (fun h3=>fun _=>?_))
 refine loopP t.args (fun q=>[(21,.p (I q.length))]) (fun q=>[(1000,.ce 3 [.p (I (n+1+sizTs q))])]) (fun q=>n+1+sizTs q<=most) [21] [1000] hE rfl rfl rfl ⟨Sub.refl _,by simp [sizTs],rfl,trivial⟩ (by simp [sizTs];omega) (fun hq=>brTe ⟨rfl,O_eq (by omega)⟩) (fun q a s hq hinv=>?_)
 have hlt:=zh hq
 have hm:=zea hq
 have hap:=zkp q a
 refine brT' hq (idxT hq (call1 [1000] (ih a (zf hq) _ (by omega) hinv) rfl rfl (za _) (brS (fun hb=>⟨rfl,O_eq (by omega)⟩) (fun hb=>And.intro (by omega) ⟨by rw [hap];omega,Sub.i (by simp),?_,rfl,trivial⟩))))
 rw [hap];congr 4;omega
termination_by SizeOf.sizeOf t
decreasing_by exact Trm.lt ha
theorem zkz (t:Trm) (most:Int) (h0:-1000000<=most) (h1:most<=1000000):PCon Tryz.prog 172 [tv t,.p (I most)] (.p (I (mSz t most))):=by
 refine cv [] [] [] Tryz.func172 11 Tryz.ntmps172 rfl rfl fun cx hE=>callX [5] ((zky t 0 (max most 0) (by omega) (by omega) (by omega)).sw 1000 5) rfl rfl (za _) fun r o ⟨_,_,⟨e1,e2⟩,e3,e4⟩=>?_
 subst e1 e2 e3 e4
 exact ⟨I_eq (by unfold mSz;omega),rfl⟩
theorem zuy (f c:Int) (t:Trm) (h0:-1000000<=c) (h1:c<=1000000):PCon Tryz.prog 125 [mv f c,tv t] (.p (I (fitsE c t))):=by
 refine cv [] [] [] Tryz.func125 19 Tryz.ntmps125 rfl rfl fun cx hE=>call0 (zkz t (max c 0) (by omega) (by omega)) (brS (fun h=>⟨I_eq ?_,rfl⟩) (fun h=>call0 (zef t) (brB (fun hb=>⟨I_eq ?_,rfl⟩) (fun hb=>⟨I_eq ?_,rfl⟩))))
 ·unfold fitsE fitsT;unfold mSz at h;rw [if_neg (by simp;omega)]
 ·have hb':smlT t=false:=by simpa using hb
  unfold fitsE fitsT;rw [hb'];simp
 ·have hb':smlT t=true:=by simpa using hb
  unfold fitsE fitsT;unfold mSz at h;rw [hb',if_pos (by simp;omega)]
theorem z3u (c:Int):PCon Tryz.prog 176 [.p (U8 c)] (.p (B (letF c))):=by
 refine cv [] [] [] Tryz.func176 17 Tryz.ntmps176 rfl rfl fun cx hE=>?_
 repeat' refine brS (fun _=>?_) (fun _=>?_)
 all_goals exact ⟨B_eq (by unfold letF;rw [Bool.eq_iff_iff];simp;omega),rfl⟩
theorem z8f (c:Int):PCon Tryz.prog 202 [.p (U8 c)] (.p (B (digF c))):=by
 refine cv [] [] [] Tryz.func202 9 Tryz.ntmps202 rfl rfl fun cx hE=>?_
 repeat' refine brS (fun _=>?_) (fun _=>?_)
 all_goals exact ⟨B_eq (by unfold digF;rw [Bool.eq_iff_iff];simp;omega),rfl⟩
theorem zl0 (s:ByteArray) (hs:s.size<=1000000000000):PCon Tryz.prog 160 [.p (St s)] (.p (I (nmF s))):=by
 refine cv [] [] [] Tryz.func160 59 Tryz.ntmps160 rfl rfl fun cx hE=>brS (fun hz=>?_) (fun hz=>And.intro (by omega) (call0 (z3u _) (brB (fun hl=>?_) (fun hl=>?_))))
 ·exact ⟨I_eq (by unfold nmF;rw [if_neg (by omega)];rfl),rfl⟩
 ·have hl':letF (bat s 0)=false:=by simpa using hl
  exact ⟨I_eq (by unfold nmF;rw [if_neg (by simp [hl'])];rfl),rfl⟩
 have hl':letF (bat s 0)=true:=by simpa using hl
 have hr:nmF s=nmL s s.size 1:=by unfold nmF;rw [if_pos ⟨by omega,hl'⟩]
 refine loop2 (fun (n g:Nat)=>[(3,.p (I n))]) (fun _ _=>[]) (fun n g=>n<=s.size/\s.size<=n+g/\nmL s g n=nmF s) (fun n g=>g) 1 s.size [3] [] hE rfl rfl rfl ⟨Sub.refl _,trivial⟩ ⟨by omega,by omega,hr.symm⟩ fun n g ⟨h1,h2,h3⟩=>?_
 have hb:(n:Int).toNat=n:=by omega
 have hb1:((n:Int)+1).toNat=n+1:=by omega
 refine brS (fun hlt=>?_) (fun hlt=>?_)
 ·obtain ⟨g,rfl⟩:∃ g',g=g'+1:=⟨g-1,by omega⟩
  simp only [nmL] at h3
  rw [if_pos (by omega)] at h3
  have next:nmL s g (n+1)=nmF s->(n+1<=s.size/\s.size<=n+1+g/\nmL s g (n+1)=nmF s):=fun h=>⟨by omega,by omega,h⟩
  refine And.intro (by omega) (call0 (z3u _) ?_)
  rw [hb]
  refine brB (fun e1=>?_) (fun e1=>?_)
  ·rw [if_pos (by simp [e1])] at h3;exact And.intro (by omega) ⟨n+1,g,next h3,by omega,Sub.i (by omega),trivial⟩
  refine And.intro (by omega) (call0 (z8f _) ?_)
  rw [hb]
  refine brB (fun e2=>?_) (fun e2=>?_)
  ·rw [if_pos (by simp [e2])] at h3;exact And.intro (by omega) ⟨n+1,g,next h3,by omega,Sub.i (by omega),trivial⟩
  refine And.intro (by omega) ?_
  rw [hb]
  refine brS (fun e3=>?_) (fun e3=>?_)
  ·rw [if_pos (by simp [e3])] at h3;exact And.intro (by omega) ⟨n+1,g,next h3,by omega,Sub.i (by omega),trivial⟩
  rw [if_neg (by simp [e1,e2,e3])] at h3
  refine And.intro (by omega) ?_
  rw [hb]
  refine brS (fun e4=>?_) (fun e4=>?_)
  ·refine And.intro (by omega) (brS (fun e5=>?_) (fun e5=>?_))
   ·refine And.intro (by omega) (And.intro (by omega) (call0 (z3u _) ?_))
    rw [hb1]
    refine brB (fun e6=>?_) (fun e6=>?_)
    ·rw [if_pos ⟨e4,by omega,e6⟩] at h3;exact And.intro (by omega) ⟨n+1,g,next h3,by omega,Sub.i (by omega),trivial⟩
    ·rw [if_neg (by simp [e6])] at h3;exact ⟨I_eq (by rw [<- h3]),rfl⟩
   ·rw [if_neg (by omega)] at h3;exact ⟨I_eq (by rw [<- h3]),rfl⟩
  ·rw [if_neg (by simp [e4])] at h3;exact ⟨I_eq (by rw [<- h3]),rfl⟩
 ·have:nmL s g n=n:=by
   cases g with
   | zero=>rfl
   | succ g=>simp only [nmL];rw [if_neg (by omega)]
  exact ⟨I_eq (by rw [<- h3,this]),rfl⟩
theorem zeg (s:ByteArray) (hs:s.size<=1000000000000):PCon Tryz.prog 112 [.p (St s)] (.p (B (mayF s))):=by
 rw [zz20]
 refine cv [] [] [] Tryz.func112 18 Tryz.ntmps112 rfl rfl fun cx hE=>brS (fun h1=>brS (fun h2=>call0 (zl0 s hs) ⟨B_eq (by rw [Bool.eq_iff_iff];simp;omega),rfl⟩) (fun h2=>⟨B_eq (by rw [Bool.eq_iff_iff];simp;omega),rfl⟩)) (fun h1=>⟨B_eq (by rw [Bool.eq_iff_iff];simp;omega),rfl⟩)
def refE (k:Nat) (L:List Dcl) (b:Int):Obs:=[(k,.ce 28 [.ts (k+1) 16 (encDs L),.p (I b)]),(k+1,.ar 89 16 (encDs L).length)]
theorem znr {z:List Dcl} {s:ByteArray}:∀ {p q:List Dcl},ixD p s=none->ixD (p++q) s=(ixD q s).map (·+p.length)
 | [],q,_=>by cases h:ixD q s<;>simp [h]
 | d :: p,q,h=>by
   simp only [ixD] at h
   split at h
   ·cases h
   ·rename_i hne
    have hp:ixD p s=none:=by cases hx:ixD p s with
     | none=>rfl
     | some i=>rw [hx] at h;cases h
    simp only [List.cons_append,ixD,if_neg hne,znr (z:=z) hp]
    cases ixD q s with
    | none=>rfl
    | some i=>simp;omega
def atF (L:List Dcl) (s:ByteArray):Int:=((ixD L s).map fun i=>(i:Int)).getD (-1)
theorem zz21 {L p q:List Dcl} {a:Dcl} {s:ByteArray} (h:L=p++a::q) (hp:ixD p s=none) (ha:a.name=s):atF L s=p.length:=by
 unfold atF;rw [h,znr (z:=[]) hp];simp [ixD,ha]
theorem zyu {p:List Dcl} {a:Dcl} {s:ByteArray} (hp:ixD p s=none) (ha:¬ a.name=s):ixD (p++[a]) s=none:=by
 rw [znr (z:=[]) hp];simp [ixD,ha]
theorem zuz (L:List Dcl) (b:Int) (s:ByteArray) (hl:L.length<=1000000000000):Con Tryz.prog 113 [.ptr 1000 0,.p (St s)] (refE 1000 L b) (fun r o=>r=.p (I (atF L s))/\o=refE 1000 L b):=by
 refine cv [] [] [1000,1001] Tryz.func113 26 Tryz.ntmps113 rfl rfl fun cx hE=>?_
 refine loopP L (fun p=>[(5,.p (I p.length))]) (fun p=>[]) (fun p=>ixD p s=none) [5] [] hE rfl rfl rfl ⟨Sub.refl _,rfl,rfl,trivial⟩ rfl (fun hp=>fun _=>brOut (by simp) ⟨I_eq (by unfold atF;rw [hp];rfl),rfl⟩) (fun p a q hq hp=>fun _=>brIn (by simp [hq]) (idxN (z1m (f:=rowD) hq) (brS (fun he=>⟨I_eq (by rw [zz21 hq hp he]),rfl⟩) (fun he=>And.intro (by have:=zh hq;omega) ⟨zyu hp he,Sub.i (by simp),rfl,rfl,trivial⟩))))
theorem zpt:Con Tryz.prog 54 [] [] (fun r o=>r=.ptr 1000 0/\o=refE 1000 [] 0):=by
 have h:Con Tryz.prog 54 [] [] (fun r o=>r=.ptr 2 0/\o=[(2,.ce 28 [.p nilS,.p (I 0)])]):=cv [] [] [2] Tryz.func54 3 Tryz.ntmps54 rfl rfl fun cx hE=>⟨rfl,rfl⟩
 refine (h.sw 2 1000).le ?_
 rintro r o ⟨_,_,⟨rfl,rfl⟩,rfl,rfl⟩
 refine ⟨refE 1000 [] 0,fun cx n h0=>?_,rfl,rfl,rfl⟩
 exact Le.trans (Le.tokO 1001 89 16 (k0:=1000) (j:=0) rfl rfl rfl rfl rfl (by rw [h0];rfl)) (Le.objs (.cons rfl rfl (.cons rfl rfl .nil)) rfl)
theorem atF_none {L:List Dcl} {s:ByteArray}:atF L s≥0↔s∈zy L:=by
 unfold atF
 cases hx:ixD L s with
 | none=>exact ⟨fun h=>absurd h (by decide),fun h=>absurd h (ixD_none.1 hx)⟩
 | some i =>
   show ((i:Int)≥0)↔_
   refine ⟨fun _=>Classical.not_not.1 fun h=>?_,fun _=>by omega⟩
   rw [ixD_none.2 h] at hx;cases hx
theorem zpu (L l:List Dcl) (b:Int) (hlen:L.length+l.length<=1000000000) (hnd:(zy L).Nodup) (hc:∀ d∈l,CpD d/\d.name.size<=1000000000000):Con Tryz.prog 56 [.ptr 1000 0,.p (.sl 16 (encDs l))] (refE 1000 L b) (fun r o=>r=.p (I (addF [] L l))/\o=refE 1000 (if addF [] L l=0 then L++l else L) b):=by
 have e9:(∃ d∈l,mayF d.name=false)->addF [] L l=9:=fun h=>by unfold addF;rw [if_pos h]
 have e10:(∀ d∈l,mayF d.name=true)->¬ (zy (L++l)).Nodup->addF [] L l=10:=fun h1 h=>by
  unfold addF;rw [if_neg (fun ⟨d,hd,hm⟩=>by rw [h1 d hd] at hm;cases hm),if_pos (by simpa using h)]
 have e0:(∀ d∈l,mayF d.name=true)->(zy (L++l)).Nodup->addF [] L l=0:=fun h1 h=>by
  unfold addF;rw [if_neg (fun ⟨d,hd,hm⟩=>by rw [h1 d hd] at hm;cases hm),if_neg (by simpa using h)]
 have hel:=z7l l
 refine cv [] [] [1000,1001] Tryz.func56 72 Tryz.ntmps56 rfl rfl fun cx hE=>?_
 refine loopP l (fun p=>[(5,.p (I p.length))]) (fun p=>[]) (fun p=>∀ d∈p,mayF d.name=true) [5] [] hE rfl rfl rfl ⟨Sub.refl _,rfl,rfl,trivial⟩ (by simp) (fun h1=>fun _=>brOut (by simp) ?_) (fun p a q hq h=>fun _=>brIn (by simp [hq]) (idxN (z1m (f:=rowD) hq) (call0 (zeg a.name (hc a (zf hq)).2) (brB (fun hm=>?_) (fun hm=>And.intro (by have:=zh hq;omega) ⟨fun d hd=>?_,Sub.i (by simp),rfl,rfl,trivial⟩)))))
 ·refine loopP l (fun p=>[(6,.p (I p.length))]) (fun p=>[]) (fun p=>(zy (L++p)).Nodup) [6] [] hE rfl rfl rfl ⟨Sub.refl _,rfl,rfl,trivial⟩ (by simpa using hnd) (fun h2=>fun _=>brOut (by simp) ?_) (fun p a q hq h=>fun _=>brIn (by simp [hq]) (idxN (z1m (f:=rowD) hq) (call1 [1000,1001] (zuz L b a.name (by omega)) rfl rfl (za _) (brS (fun hm=>?_) (fun hm=>?_)))))
  ·refine loopP l (fun p=>[(8,.p (I p.length))]) (fun p=>refE 1000 (L++p) b) (fun _=>True) [8] [1000,1001] hE rfl rfl rfl ⟨Sub.refl _,by simp [refE],by simp,trivial⟩ trivial (fun _=>fun _=>brOut (by simp) ⟨by rw [e0 h1 h2],by rw [e0 h1 h2,if_pos rfl];rfl⟩) (fun p a q hq _=>?_)
   have hlt:=zh hq
   refine fun _=>brIn (by simp [hq]) (idxN (z1m (f:=rowD) hq) (call0 (zbc a (hc a (zf hq)).1) (app1 (by simp;omega) (by simp;omega) (And.intro (by omega) ⟨trivial,Sub.i (by simp),?_,ar_eq (by simp;omega),trivial⟩))))
   exact congrArg (fun z=>Ob.ce 28 [.ts 1001 16 z,.p (I b)]) (by simp [encDs,rowD])
  ·have hd:¬ (zy (L++l)).Nodup:=by rw [hq];exact dupA (z:=L) (p:=p) rfl (atF_none.1 hm)
   exact ⟨by rw [e10 h1 hd],by rw [e10 h1 hd];rfl⟩
  ·refine loopP p (fun z=>[(7,.p (I z.length))]) (fun _=>[]) (fun z=>a.name ∉ zy z) [7] [] hE rfl rfl rfl ⟨Sub.refl _,rfl,rfl,trivial⟩ (by simp [zy]) (fun hz=>brOut (Nat.le_refl _) (And.intro (by have:=zh hq;omega) ⟨?_,Sub.i (by simp),rfl,rfl,trivial⟩)) (fun z c y hz hn=>brIn (zh hz) ?_)
   ·exact okC h (fun hm2=>hm (atF_none.2 hm2)) hz
   ·have hzl:l=z++c::(y++a::q):=by rw [hq,hz];simp
    refine idxN (z1m (f:=rowD) hzl) (idxN (z1m (f:=rowD) hq) (brS (fun he=>?_) (fun he=>And.intro (by have:=zh hzl;omega) ⟨?_,Sub.i (by simp),rfl,rfl,trivial⟩)))
    ·have hd:¬ (zy (L++l)).Nodup:=dupB hq (by rw [hz];simp [zy,he])
     exact ⟨by rw [e10 h1 hd],by rw [e10 h1 hd];rfl⟩
    ·simp only [zy,List.map_append,List.map_cons,List.map_nil,List.mem_append,List.mem_singleton,not_or] at hn ⊢
     exact ⟨hn,fun e=>he e.symm⟩
 ·have hx:∃ d∈l,mayF d.name=false:=⟨a,zf hq,by simpa using hm⟩
  exact ⟨by rw [e9 hx],by rw [e9 hx];rfl⟩
 ·rcases List.mem_append.1 hd with h1 | h1
  ·exact h d h1
  ·rw [List.mem_singleton.1 h1];simpa using hm
theorem zpv (l:List ByteArray) (s:ByteArray):PCon Tryz.prog 198 [.p (.sl 1 (l.map fun s=>[St s])),.p (St s)] (.p (B (hasN l s))):=by
 have hl:(l.map fun s=>[St s]).length=l.length:=by simp
 refine cv [] [] [] Tryz.func198 18 Tryz.ntmps198 rfl rfl fun cx hE=>?_
 refine loopP l (fun p=>[(5,.p (I p.length))]) (fun _=>[]) (fun p=>hasN p s=false) [5] [] hE rfl rfl rfl ⟨Sub.refl _,trivial⟩ rfl (fun hp=>fun _=>brOut (by simp) ⟨B_eq hp.symm,rfl⟩) (fun p a q hq hp=>fun _=>brIn (by simp [hq]) (idxN (z1m (f:=fun s=>[St s]) hq) (brS (fun he=>⟨B_eq ?_,rfl⟩) (fun he=>And.intro (by have:=zh hq;omega) ⟨?_,Sub.i (by simp),trivial⟩))))
 ·rw [hq];simp [hasN,he]
 ·unfold hasN at hp ⊢;rw [List.any_append,hp];simp [he]
abbrev rdO (k:Nat) (s:ByteArray) (r:Rd):Obs:=[(k,.ce 163 [.p (St s),.p (I r.pos),.p (I r.err),.p (I r.place),.p (I r.terms),.p (I r.left)])]
theorem z1l (s:ByteArray) (r:Rd) (e p:Int):Con Tryz.prog 177 [.ptr 1000 0,.p (I e),.p (I p)] (rdO 1000 s r) (fun x o=>x=.tp []/\o=rdO 1000 s (r.fail e p)):=by
 refine cv [] [] [1000] Tryz.func177 19 Tryz.ntmps177 rfl rfl fun cx hE=>brS (fun h=>⟨rfl,?_⟩) (fun h=>⟨rfl,?_⟩)
 ·unfold Rd.fail;rw [if_pos h]
 ·unfold Rd.fail;rw [if_neg h]
theorem zz22 {s:ByteArray} {g i:Nat} (h:¬ (i<s.size/\(bat s i=32\/bat s i=10))):blkL s g i=i:=by
 cases g with
 | zero=>rfl
 | succ g=>simp only [blkL];rw [if_neg h]
theorem zeh (s:ByteArray) (hs:s.size<=100000) (r:Rd):Con Tryz.prog 182 [.ptr 1000 0] (rdO 1000 s r) (fun x o=>x=.tp []/\o=rdO 1000 s (r.bl s)):=by
 refine cv [] [] [1000] Tryz.func182 43 Tryz.ntmps182 rfl rfl fun cx hE=>?_
 refine loop2 (fun (i g:Nat)=>[]) (fun i g=>rdO 1000 s (r.at i)) (fun i g=>s.size<=i+g/\blkL s g i=blkL s s.size r.pos) (fun i g=>g) r.pos s.size [] [1000] hE rfl rfl rfl ⟨rfl,trivial⟩ ⟨by omega,rfl⟩ fun i g ⟨h1,h2⟩=>?_
 have hb:(i:Int).toNat=i:=by omega
 have fin:¬ (i<s.size/\(bat s i=32\/bat s i=10))->rdO 1000 s (r.at i)=rdO 1000 s (r.bl s):=fun h=>by
  rw [zz22 h] at h2;unfold Rd.bl;rw [<- h2]
 have go:(hc:i<s.size/\(bat s i=32\/bat s i=10))->∃ g',g=g'+1/\blkL s g' (i+1)=blkL s s.size r.pos:=fun hc=>by
  cases g with
  | zero=>omega
  | succ g=>simp only [blkL] at h2;rw [if_pos hc] at h2;exact ⟨g,rfl,h2⟩
 refine brS (fun h3=>And.intro (by exact ⟨by show (0:Int)<=(i:Int);omega,by show (i:Int)<_;exact h3⟩) ?_) (fun h3=>⟨rfl,fin fun h=>h3 (by show (i:Int)<_;omega)⟩)
 have h3':i<s.size:=by have:(i:Int)<s.size:=h3;omega
 show BrV (decide (bat s (i:Int).toNat=32)) _ _
 rw [hb]
 refine brS (fun h4=>?_) (fun h4=>And.intro (by exact ⟨by show (0:Int)<=(i:Int);omega,by show (i:Int)<_;exact h3⟩) ?_)
 ·obtain ⟨g',rfl,hg⟩:=go ⟨h3',.inl h4⟩
  exact And.intro (by show _<=(i:Int)+1/\(i:Int)+1<_;omega) ⟨i+1,g',⟨by omega,hg⟩,by omega,rfl,trivial⟩
 ·show BrV (decide (bat s (i:Int).toNat=10)) _ _
  rw [hb]
  refine brS (fun h5=>?_) (fun h5=>⟨rfl,fin (by omega)⟩)
  obtain ⟨g',rfl,hg⟩:=go ⟨h3',.inr h5⟩
  exact And.intro (by show _<=(i:Int)+1/\(i:Int)+1<_;omega) ⟨i+1,g',⟨by omega,hg⟩,by omega,rfl,trivial⟩
theorem z6f (s:ByteArray) (hs:s.size<=100000) (r:Rd):Con Tryz.prog 175 [.ptr 1000 0] (rdO 1000 s r) (fun x o=>x=.p (U8 (r.pk s))/\o=rdO 1000 s (r.bl s)):=by
 have he:(r.bl s).err=r.err:=rfl
 refine cv [] [] [1000] Tryz.func175 31 Tryz.ntmps175 rfl rfl fun cx hE=>call1 [1000] (zeh s hs r) rfl rfl (za _) ?_
 refine brS (fun h=>⟨?_,rfl⟩) (fun h=>brS (fun h2=>⟨?_,rfl⟩) (fun h2=>And.intro ?_ ⟨?_,rfl⟩))
 ·unfold Rd.pk;rw [if_neg (fun h'=>h h'.1)]
 ·unfold Rd.pk;rw [if_neg (fun h'=>by omega)]
 ·omega
 ·have h2':(r.bl s).pos<s.size:=by omega
  have h':r.err=0:=by rw [he] at h;simpa using h
  unfold Rd.pk;rw [if_pos ⟨h',h2'⟩];rfl
theorem z7n (s:ByteArray) (hs:s.size<=100000) (r:Rd) (c:Int):Con Tryz.prog 181 [.ptr 1000 0,.p (U8 c)] (rdO 1000 s r) (fun x o=>x=.tp []/\o=rdO 1000 s (r.must s c)):=by
 have bad:¬ (r.pk s=c/\(r.bl s).pos<s.size)->r.must s c=(r.bl s).fail 5 (min ((r.bl s).pos:Int) (s.size:Int)):=fun h=>by
  unfold Rd.must;rw [if_neg h];congr 1;omega
 refine cv [] [] [1000] Tryz.func181 39 Tryz.ntmps181 rfl rfl fun cx hE=>callW [1000] 1000 _ (z6f s hs r) rfl rfl (za _) rfl rfl ?_
 refine brS (fun h=>?_) (fun h=>brS (fun h2=>?_) (fun h2=>?_))
 ·refine callW [1000] 1000 _ (z1l s (r.bl s) 5 (min ((r.bl s).pos:Int) (s.size:Int))) rfl rfl (za _) rfl rfl ⟨rfl,?_⟩
  rw [bad (fun h'=>h h'.1)]
 ·refine callW [1000] 1000 _ (z1l s (r.bl s) 5 (min ((r.bl s).pos:Int) (s.size:Int))) rfl rfl (za _) rfl rfl ⟨rfl,?_⟩
  rw [bad (fun h'=>by omega)]
 ·refine And.intro (by omega) ⟨rfl,?_⟩
  have h':r.pk s=c:=by simpa using h
  unfold Rd.must;rw [if_pos ⟨h',by omega⟩];rfl
theorem zyv (s:ByteArray) (hs:s.size<=100000) (r:Rd):Con Tryz.prog 128 [.ptr 1000 0] (rdO 1000 s r) (fun x o=>x=.tp []/\o=rdO 1000 s (r.fin s)):=by
 refine cv [] [] [1000] Tryz.func128 20 Tryz.ntmps128 rfl rfl fun cx hE=>call1 [1000] (zeh s hs r) rfl rfl (za _) (brS (fun h=>?_) (fun h=>⟨rfl,?_⟩))
 ·refine call1 [1000] (z1l s (r.bl s) 5 _) rfl rfl (za _) ⟨rfl,?_⟩
  unfold Rd.fin;rw [if_pos (by omega)]
 ·unfold Rd.fin;rw [if_neg (by omega)]
theorem zsg (s:ByteArray) (hs:s.size<=100000) (r:Rd):Con Tryz.prog 214 [.ptr 1000 0] (rdO 1000 s r) (fun x o=>x=.tp []/\o=rdO 1000 s (aprF s r)):=by
 have hb:(r.pos:Int).toNat=r.pos:=by omega
 refine cv [] [] [1000] Tryz.func214 42 Tryz.ntmps214 rfl rfl fun cx hE=>brS (fun h=>And.intro (by omega) (call0 (z3u _) ?_)) (fun h=>⟨rfl,by unfold aprF;rw [if_neg (fun h'=>h (by omega))]⟩)
 rw [hb]
 refine brB (fun h2=>?_) (fun h2=>And.intro (by omega) (call0 (z8f _) ?_))
 ·refine call1 [1000] (z1l s r 5 _) rfl rfl (za _) ⟨rfl,?_⟩
  unfold aprF;rw [if_pos ⟨by omega,by simp [h2]⟩]
 ·rw [hb]
  refine brB (fun h3=>?_) (fun h3=>⟨rfl,?_⟩)
  ·refine call1 [1000] (z1l s r 5 _) rfl rfl (za _) ⟨rfl,?_⟩
   unfold aprF;rw [if_pos ⟨by omega,by simp [h3]⟩]
  ·unfold aprF;rw [if_neg (fun h'=>by simp [h2,h3] at h')]
theorem zsh (s:ByteArray) (hs:s.size<=100000) (r:Rd):Con Tryz.prog 233 [.ptr 1000 0] (rdO 1000 s r) (fun x o=>x=lv (parF s r).1/\o=rdO 1000 s (parF s r).2):=by
 have hb:(r.pos:Int).toNat=r.pos:=by omega
 have bad:¬ (r.pos<s.size/\digF (bat s r.pos)=true)->parF s r=(zL,r.fail 5 r.pos):=fun h=>by unfold parF;rw [if_neg h]
 refine cv [] [] [1000] Tryz.func233 62 Tryz.ntmps233 rfl rfl fun cx hE=>brS (fun h=>?_) (fun h=>And.intro (by omega) (call0 (z8f _) ?_))
 ·refine call1 [1000] (z1l s r 5 _) rfl rfl (za _) ?_
  rw [bad (by omega)];exact ⟨rfl,rfl⟩
 rw [hb]
 refine brB (fun h2=>?_) (fun h2=>?_)
 ·have h2':digF (bat s r.pos)=false:=by simpa using h2
  refine call1 [1000] (z1l s r 5 _) rfl rfl (za _) ?_
  rw [bad (by simp [h2'])];exact ⟨rfl,rfl⟩
 have h2':digF (bat s r.pos)=true:=by simpa using h2
 have hd:48<=bat s r.pos/\bat s r.pos<=57:=by unfold digF at h2';simp at h2';exact h2'
 have hp:parF s r=(⟨4,bat s r.pos-48,[]⟩,(if bat s r.pos-48≥4 then r.fail 7 r.pos else r).at (r.pos+1)):=by unfold parF;rw [if_pos ⟨by omega,h2'⟩]
 have hw:IntKind.u8.wrap (bat s r.pos-48)=bat s r.pos-48:=by rw [IntKind.wrap_u8];omega
 rw [hp]
 refine And.intro (by omega) (And.intro (by rw [hb,hw];omega) (brS (fun h3=>?_) (fun h3=>And.intro (by omega) ?_)))
 ·rw [hb,hw] at h3
  refine call1 [1000] (z1l s r 7 _) rfl rfl (za _) (And.intro ?_ ?_)
  ·have:(r.fail 7 r.pos).pos=r.pos:=by unfold Rd.fail;split<;>rfl
   rw [this];omega
  ·have:(r.fail 7 r.pos).pos=r.pos:=by unfold Rd.fail;split<;>rfl
   rw [if_pos h3,this]
   exact ⟨by rw [hb,hw];rfl,rfl⟩
 ·rw [hb,hw] at h3
  rw [if_neg h3];exact ⟨by rw [hb,hw];rfl,rfl⟩
theorem zpw {e p:Int} (b:Rd) (he:e≠0):(b.fail e p).err≠0:=by
 unfold Rd.fail;split
 ·exact he
 ·assumption
set_option maxHeartbeats 4000000 in
theorem zgq (s:ByteArray) (hs:s.size<=100000):∀ (g:Nat) (deep:Int) (r:Rd) (l:Lvl) (r':Rd),lvlF s g deep r=some (l,r')->0<=deep->deep<=1000 ->
  Con Tryz.prog 215 [.ptr 1000 0,.p (I deep)] (rdO 1000 s r) (fun x o=>x=lv l/\o=rdO 1000 s r')
 | 0,_,_,_,_,h,_,_=>by cases h
 | g + 1,deep,r,l,r',h,hd0,hd1=>by
   have ih:=zgq s hs g
   simp only [lvlF] at h
   refine cv [] [1000002,1000005,1000007] [1000] Tryz.func215 120 Tryz.ntmps215 rfl rfl fun cx hE=>call1 [1000] (z6f s hs r) rfl rfl (za _) ?_
   refine join1 (A:=Unit) (fun _=>[]) (fun _=>[]) (fun _=>(r.bl s).pos<s.size/\lvcF (r.pk s)) [] [] [] hE rfl rfl rfl ?_ (fun _ hc=>?_)
   ·have bad:¬ ((r.bl s).pos<s.size/\lvcF (r.pk s))->Con Tryz.prog 177 [.ptr 1000 0,.p (I 5),.p (I ((r.bl s).pos:Int))] (rdO 1000 s (r.bl s)) (fun x o=>x=.tp []/\o=rdO 1000 s r')/\zL=l:=fun hn=>by
     rw [if_pos hn] at h
     cases h
     exact ⟨z1l s (r.bl s) 5 _,rfl⟩
    have ok:(r.bl s).pos<s.size->lvcF (r.pk s)->(r.bl s).pos<s.size/\lvcF (r.pk s):=fun a b=>⟨a,b⟩
    unfold lvcF at bad ok ⊢
    refine brS (fun h0=>?_) (fun h0=>?_)
    ·obtain ⟨hf,rfl⟩:=bad (by omega)
     exact call1 [1000] hf rfl rfl (za _) ⟨rfl,rfl⟩
    refine brS (fun h1=>?_) (fun h1=>⟨(),ok (by omega) (by omega),leX.same ⟨rfl,rfl,trivial⟩⟩)
    refine brS (fun h2=>?_) (fun h2=>⟨(),ok (by omega) (by omega),leX.same ⟨rfl,rfl,trivial⟩⟩)
    refine brS (fun h3=>?_) (fun h3=>⟨(),ok (by omega) (by omega),leX.same ⟨rfl,rfl,trivial⟩⟩)
    refine brS (fun h4=>?_) (fun h4=>⟨(),ok (by omega) (by omega),leX.same ⟨rfl,rfl,trivial⟩⟩)
    refine brS (fun h5=>?_) (fun h5=>⟨(),ok (by omega) (by omega),leX.same ⟨rfl,rfl,trivial⟩⟩)
    obtain ⟨hf,rfl⟩:=bad (by omega)
    exact call1 [1000] hf rfl rfl (za _) ⟨rfl,rfl⟩
   rw [if_neg (fun hn=>hn hc)] at h
   generalize hR:r.bl s=R at h hc ⊢
   have hl:R.left=r.left:=by rw [<- hR];rfl
   have gpos:∀ (b:Rd) (e p:Int),(b.fail e p).pos=b.pos:=fun b e p=>by unfold Rd.fail;split<;>rfl
   have gleft:∀ (b:Rd) (e p:Int),(b.fail e p).left=b.left:=fun b e p=>by unfold Rd.fail;split<;>rfl
   have g1:(if R.left=0 then R.fail 3 R.pos else R).pos=R.pos:=by split<;>simp [gpos]
   have g2:(gateL deep R).pos=R.pos:=by unfold gateL;split<;>simp [gpos,g1]
   have g3 : (gateL deep R).left = R.left := by unfold gateL;repeat' split
                                                all_goals simp [gleft]
   refine join0 [] (rdO 1000 s (if R.left=0 then R.fail 3 R.pos else R)) [] [1000] [] hE rfl rfl rfl ?_ ?_
   ·refine brS (fun h1=>?_) (fun h1=>?_)
    ·rw [if_pos h1];exact call1 [1000] (z1l s R 3 _) rfl rfl (za _) ⟨rfl,rfl,trivial⟩
    ·rw [if_neg h1];exact ⟨rfl,rfl,trivial⟩
   refine join0 [] (rdO 1000 s (gateL deep R)) [] [1000] [] hE rfl rfl rfl ?_ ?_
   ·unfold gateL
    refine brS (fun h1=>?_) (fun h1=>?_)
    ·rw [if_pos h1]
     have hf:Con Tryz.prog 177 [.ptr 1000 0,.p (I 6),.p (I ((if R.left=0 then R.fail 3 R.pos else R).pos:Int))] (rdO 1000 s (if R.left=0 then R.fail 3 R.pos else R)) (fun x o=>x=.tp []/\o=rdO 1000 s ((if R.left=0 then R.fail 3 R.pos else R).fail 6 R.pos)):=by rw [g1];exact z1l s _ 6 (R.pos:Int)
     refine call1 [1000] hf rfl rfl (za _) ⟨rfl,rfl,trivial⟩
    ·rw [if_neg h1];exact ⟨rfl,rfl,trivial⟩
   refine brS (fun h1=>?_) (fun h1=>?_)
   ·rw [if_pos h1] at h;cases h;exact ⟨rfl,rfl⟩
   rw [if_neg h1] at h
   split at h
   ·cases h
   rename_i hb
   have hdeep:deep<=32:=by
    refine Classical.byContradiction fun hn=>h1 ?_
    unfold gateL;rw [if_pos (by omega)]
    exact zpw _ (by decide)
   refine And.intro (by omega) (And.intro (by omega) ?_)
   have hlev:rdO 1000 s (gateL deep R).lev=[(1000,.ce 163 [.p (St s),.p (I (((gateL deep R).pos:Int)+1)),.p (I (gateL deep R).err),.p (I (gateL deep R).place),.p (I (gateL deep R).terms),.p (I ((gateL deep R).left-1))])]:=rfl
   refine brS (fun h2=>?_) (fun h2=>?_)
   ·rw [if_pos h2] at h;cases h;exact ⟨rfl,rfl⟩
   rw [if_neg h2] at h
   refine brS (fun h3=>?_) (fun h3=>?_)
   ·rw [if_pos h3] at h
    split at h
    ·cases h
    ·rename_i a r1 ha
     cases h
     refine And.intro (by omega) (call1 [1000] (ih (deep+1) _ a r' ha (by omega) (by omega)) rfl rfl (za _) ⟨?_,rfl⟩)
     simp [lv,encLs,zhj,rowL,Z.val]
   rw [if_neg h3] at h
   refine brS (fun h4=>?_) (fun h4=>?_)
   ·rw [if_pos h4] at h
    have e:=Option.some.inj h
    rw [show l=(parF s (gateL deep R).lev).1 by rw [e],show r'=(parF s (gateL deep R).lev).2 by rw [e]]
    exact call1 [1000] (zsh s hs (gateL deep R).lev) rfl rfl (za _) ⟨rfl,rfl⟩
   rw [if_neg h4] at h
   split at h
   ·cases h
   ·rename_i a r1 ha
    split at h
    ·cases h
    ·rename_i b r2 hb2
     cases h
     refine brS (fun h5=>?_) (fun h5=>?_)
     all_goals
      refine And.intro (by omega) (call1 [1000] (ih (deep+1) _ a r1 ha (by omega) (by omega)) rfl rfl (za _) (And.intro (by omega) (call1 [1000] (ih (deep+1) _ b r' hb2 (by omega) (by omega)) rfl rfl (za _) ⟨?_,rfl⟩)))
      simp [lv,encLs,zhj,rowL,Z.val,h5]
theorem zpx (s:ByteArray) (hs:s.size<=100000) (r:Rd) (l:Lvl) (r':Rd) (h:oneF s r=some (l,r')):Con Tryz.prog 180 [.ptr 1000 0] (rdO 1000 s r) (fun x o=>x=lv l/\o=rdO 1000 s r') :=
 cv [] [] [1000] Tryz.func180 8 Tryz.ntmps180 rfl rfl fun cx hE=>call1 [1000] (zgq s hs 40 1 ⟨r.pos,r.err,r.place,r.terms,64⟩ l r' h (by omega) (by omega)) rfl rfl (za _) ⟨rfl,rfl⟩
set_option maxHeartbeats 4000000 in
theorem zns (s:ByteArray) (hs:s.size<=100000) (r:Rd) (hp:r.pos<=s.size) (v:Int) (r':Rd) (h:numF s r=some (v,r')):Con Tryz.prog 179 [.ptr 1000 0] (rdO 1000 s r) (fun x o=>x=.p (I v)/\o=rdO 1000 s r'):=by
 obtain ⟨b,r1,hN⟩:∃ b r1,numL s r.pos 10 r=some (b,r1):=by
  unfold numF at h
  cases hx:numL s r.pos 10 r with
  | none=>rw [hx] at h;cases h
  | some p=>exact ⟨p.1,p.2,rfl⟩
 unfold numF at h
 rw [hN] at h
 refine cv [] [1000002] [1000] Tryz.func179 106 Tryz.ntmps179 rfl rfl fun cx hE=>?_
 refine join1 (A:=Unit) (fun _=>[]) (fun _=>rdO 1000 s r1) (fun _=>b=false) [] [1000] [] hE rfl rfl rfl ?_ (fun _ hbf=>?_)
 ·refine loop2 (fun (q:Rd) (g:Nat)=>[]) (fun q g=>rdO 1000 s q) (fun q g=>numL s r.pos g q=some (b,r1)) (fun q g=>g) r 10 [] [1000] hE rfl rfl rfl ⟨rfl,trivial⟩ hN fun q g hq=>?_
  cases g with
  | zero=>cases hq
  | succ g =>
    simp only [numL] at hq
    have hb:(q.pos:Int).toNat=q.pos:=by omega
    have hb2:(r.pos:Int).toNat=r.pos:=by omega
    have stop:∀ x y,some (x,y)=some (b,r1)->b=x/\r1=y:=fun x y e=>by cases e;exact ⟨rfl,rfl⟩
    have bad:∀ y,b=true->r1=y->v=0/\r'=y:=fun y e1 e2=>by subst e1 e2;simp only at h;cases h;exact ⟨rfl,rfl⟩
    refine brS (fun c1=>And.intro (by omega) (call0 (z8f _) ?_)) (fun c1=>?_)
    ·rw [hb]
     refine brB (fun c2=>?_) (fun c2=>?_)
     ·rw [if_pos ⟨by omega,c2⟩] at hq
      refine And.intro (by omega) (brS (fun c3=>?_) (fun c3=>?_))
      ·rw [if_pos (by omega)] at hq
       obtain ⟨e1,e2⟩:=stop _ _ hq
       obtain ⟨rfl,rfl⟩:=bad _ e1 e2
       exact call1 [1000] (z1l s q 3 _) rfl rfl (za _) ⟨rfl,rfl⟩
      ·rw [if_neg (by omega)] at hq
       have next:¬ (q.pos=r.pos+1/\bat s r.pos=48)->numL s r.pos g (q.at (q.pos+1))=some (b,r1):=fun hn=>by rw [if_neg hn] at hq;exact hq
       refine And.intro (by omega) (brS (fun c4=>And.intro (by omega) ?_) (fun c4=>And.intro (by omega) ⟨q.at (q.pos+1),g,next (by omega),by omega,rfl,trivial⟩))
       rw [hb2]
       refine brS (fun c5=>?_) (fun c5=>And.intro (by omega) ⟨q.at (q.pos+1),g,next (by omega),by omega,rfl,trivial⟩)
       rw [if_pos ⟨by omega,c5⟩] at hq
       obtain ⟨e1,e2⟩:=stop _ _ hq
       obtain ⟨rfl,rfl⟩:=bad _ e1 e2
       exact call1 [1000] (z1l s q 5 _) rfl rfl (za _) ⟨rfl,rfl⟩
     ·rw [if_neg (by simp [c2])] at hq
      obtain ⟨e1,e2⟩:=stop _ _ hq
      exact ⟨(),e1,leX.same ⟨by rw [e2],trivial⟩⟩
    ·rw [if_neg (by omega)] at hq
     obtain ⟨e1,e2⟩:=stop _ _ hq
     exact ⟨(),e1,leX.same ⟨by rw [e2],trivial⟩⟩
 ·subst hbf
  simp only at h
  refine brS (fun c1=>?_) (fun c1=>?_)
  ·rw [if_pos (by omega)] at h
   cases h
   exact call1 [1000] (z1l s r1 5 _) rfl rfl (za _) ⟨rfl,rfl⟩
  rw [if_neg (by omega)] at h
  split at h
  ·cases h
  rename_i V hV
  cases h
  refine loop3 (fun (i:Nat) (x:Int) (g:Nat)=>[(5,.p (I i)),(4,.p (I x))]) (fun _ _ _=>[]) (fun i x g=>valL s r1.pos g i x=some v) (fun i x g=>g) r.pos 0 10 [5,4] [] hE rfl rfl rfl ⟨Sub.refl _,Sub.refl _,rfl,trivial⟩ hV fun i x g hi=>?_
  cases g with
  | zero=>cases hi
  | succ g =>
    simp only [valL] at hi
    have hb:(i:Int).toNat=i:=by omega
    refine brS (fun c2=>?_) (fun c2=>?_)
    ·rw [if_pos (by omega)] at hi
     split at hi
     ·rename_i hc
      have hr:=ztt s i
      have hw:IntKind.u8.wrap (bat s i-48)=bat s i-48:=by rw [IntKind.wrap_u8];omega
      refine And.intro (by omega) (And.intro (by omega) (And.intro (by rw [hb,hw];omega) (And.intro (by rw [hb,hw];omega) (And.intro (by omega) ?_))))
      exact ⟨i+1,x * 10+(bat s i-48),g,hi,by omega,Sub.i (by omega),Sub.i (by rw [hb,hw]),rfl,trivial⟩
     ·cases hi
    ·rw [if_neg (by omega)] at hi
     cases hi
     exact call1 [1000] (zsg s hs r1) rfl rfl (za _) ⟨rfl,rfl⟩
set_option maxHeartbeats 4000000 in
theorem zv0 (s:ByteArray) (hs:s.size<=100000) (r:Rd) (hp:r.pos<=s.size) (t:Trm) (r':Rd) (h:nameF s r=some (t,r')):Con Tryz.prog 178 [.ptr 1000 0] (rdO 1000 s r) (fun x o=>x=tv t/\o=rdO 1000 s r'):=by
 have hpt:(r.pos:Int).toNat=r.pos:=by omega
 have hns:nmF (s.extract r.pos s.size)<=s.size-r.pos:=by
  have:=zz3m (s.extract r.pos s.size)
  have h2:(s.extract r.pos s.size).size<=s.size-r.pos:=by simp [ByteArray.size_extract]
  omega
 have hsz:(s.extract r.pos s.size).size<=1000000000000:=by simp [ByteArray.size_extract];omega
 unfold nameF at h
 refine cv [] [1000010] [1000] Tryz.func178 131 Tryz.ntmps178 rfl rfl fun cx hE=>And.intro (by omega) ?_
 have hnm:=zl0 (s.extract r.pos s.size) hsz
 rw [<- hpt] at hnm
 refine call0 hnm ?_
 rw [hpt]
 generalize hn:nmF (s.extract r.pos s.size)=n at h hns ⊢
 refine brS (fun c1=>?_) (fun c1=>?_)
 ·rw [if_pos (by omega)] at h
  cases h
  exact call1 [1000] (z1l s r 3 _) rfl rfl (za _) ⟨rfl,rfl⟩
 rw [if_neg (by omega)] at h
 have hfr:∀ (b:Rd) (e p:Int),(b.fail e p).pos=b.pos:=fun b e p=>by unfold Rd.fail;split<;>rfl
 repeat refine And.intro (by omega) ?_
 have hx2:((r.pos:Int)+(n:Int)).toNat=r.pos+n:=by omega
 have hat:rdO 1000 s (r.at (r.pos+n))=[(1000,.ce 163 [.p (St s),.p (I ((r.pos:Int)+(n:Int))),.p (I r.err),.p (I r.place),.p (I r.terms),.p (I r.left)])]:=by simp [rdO,Rd.at]
 have hpk:=z6f s hs (r.at (r.pos+n))
 rw [hat] at hpk
 refine call1 [1000] hpk rfl rfl (za _) ?_
 generalize hR:r.at (r.pos+n)=R at h hpk ⊢
 refine brS (fun c2=>?_) (fun c2=>?_)
 ·rw [if_neg c2] at h
  cases h
  exact ⟨by rw [hpt,hx2];rfl,rfl⟩
 have c2':R.pk s=123:=by simpa using c2
 rw [if_pos c2'] at h
 have hbp:(R.bl s).pos<s.size:=by
  refine Classical.byContradiction fun hn=>?_
  unfold Rd.pk at c2'
  rw [if_neg (fun h'=>hn h'.2)] at c2'
  cases c2'
 refine And.intro (by omega) ?_
 have hnm2:St (s.extract (r.pos:Int).toNat ((r.pos:Int)+(n:Int)).toNat)=St (s.extract r.pos (r.pos+n)):=by rw [hpt,hx2]
 generalize hnam:s.extract (r.pos:Int).toNat ((r.pos:Int)+(n:Int)).toNat=nam
 have hnam':s.extract r.pos (r.pos+n)=nam:=by rw [<- hnam,hpt,hx2]
 rw [hnam'] at h
 have hst:rdO 1000 s ((R.bl s).at ((R.bl s).pos+1))=[(1000,.ce 163 [.p (St s),.p (I (((R.bl s).pos:Int)+1)),.p (I (R.bl s).err),.p (I (R.bl s).place),.p (I (R.bl s).terms),.p (I (R.bl s).left)])]:=rfl
 obtain ⟨b,ls,r1,hL⟩:∃ b ls r1,lvsL s 10 [] ((R.bl s).at ((R.bl s).pos+1))=some (b,ls,r1):=by
  cases hx:lvsL s 10 [] ((R.bl s).at ((R.bl s).pos+1)) with
  | none=>rw [hx] at h;cases h
  | some p=>exact ⟨p.1,p.2.1,p.2.2,rfl⟩
 rw [hL] at h
 refine join1 (A:=Unit) (fun _=>[]) (fun _=>(4,.ce 35 [.p (I 2),.p (I 0),.p (St nam),.ts 500 3 (encLs ls),.p nilS])::(500,.ar 74 3 (encLs ls).length)::rdO 1000 s r1) (fun _=>b=false) [] [4,500,1000] [1000010] hE rfl rfl rfl ?_ (fun _ hbf=>?_)
 rotate_left
 ·subst hbf
  simp only at h
  cases h
  exact call1 [1000] (z7n s hs r1 125) rfl rfl (za _) ⟨rfl,rfl⟩
 refine tokOV 4 3 500 74 3 hE rfl rfl rfl rfl ?_
 refine loop3 (fun (p:List Lvl) (q:Rd) (g:Nat)=>[]) (fun p q g=>(4,.ce 35 [.p (I 2),.p (I 0),.p (St nam),.ts 500 3 (encLs p),.p nilS])::(500,.ar 74 3 (encLs p).length)::rdO 1000 s q) (fun p q g=>p.length+g<=10/\lvsL s g p q=some (b,ls,r1)) (fun p q g=>g) [] ((R.bl s).at ((R.bl s).pos+1)) 10 [] [4,500,1000] hE rfl rfl rfl ⟨rfl,rfl,rfl,rfl,trivial⟩ ⟨by simp,hL⟩ fun p q g ⟨hpl,hq⟩=>?_
 cases g with
 | zero=>cases hq
 | succ g =>
   have hel:=zp p
   simp only [lvsL] at hq
   refine join0 [] (rdO 1000 s (lv4F s p q)) [] [1000] [] hE rfl rfl rfl ?_ ?_
   ·refine fun _=>brS (fun d1=>?_) (fun d1=>?_)
    ·have e4:lv4F s p q=if (q.bl s).pos<s.size/\lvcF (q.pk s) then (q.bl s).fail 7 (q.bl s).pos else q.bl s:=by unfold lv4F;rw [if_pos (by omega)]
     rw [e4]
     have hyes:(q.bl s).pos<s.size/\lvcF (q.pk s)->Con Tryz.prog 177 [.ptr 1000 0,.p (I 7),.p (I ((q.bl s).pos:Int))] (rdO 1000 s (q.bl s)) (fun x o=>x=.tp []/\o=rdO 1000 s (if (q.bl s).pos<s.size/\lvcF (q.pk s) then (q.bl s).fail 7 (q.bl s).pos else q.bl s)):=fun hy=>by rw [if_pos hy];exact z1l s (q.bl s) 7 _
     refine call1 [1000] (z6f s hs q) rfl rfl (za _) ?_
     refine brS (fun h0=>?_) (fun h0=>by rw [if_neg (fun hn=>h0 (by omega))];exact ⟨rfl,rfl,rfl,rfl,trivial⟩)
     have hh:(q.bl s).pos<s.size:=by omega
     refine brS (fun k1=>call1 [1000] (hyes ⟨hh,by unfold lvcF;omega⟩) rfl rfl (za _) ⟨rfl,rfl,rfl,rfl,trivial⟩) (fun k1=>?_)
     refine brS (fun k2=>call1 [1000] (hyes ⟨hh,by unfold lvcF;omega⟩) rfl rfl (za _) ⟨rfl,rfl,rfl,rfl,trivial⟩) (fun k2=>?_)
     refine brS (fun k3=>call1 [1000] (hyes ⟨hh,by unfold lvcF;omega⟩) rfl rfl (za _) ⟨rfl,rfl,rfl,rfl,trivial⟩) (fun k3=>?_)
     refine brS (fun k4=>call1 [1000] (hyes ⟨hh,by unfold lvcF;omega⟩) rfl rfl (za _) ⟨rfl,rfl,rfl,rfl,trivial⟩) (fun k4=>?_)
     refine brS (fun k5=>call1 [1000] (hyes ⟨hh,by unfold lvcF;omega⟩) rfl rfl (za _) ⟨rfl,rfl,rfl,rfl,trivial⟩) (fun k5=>?_)
     rw [if_neg (fun hn=>by have:=hn.2;unfold lvcF at this;omega)]
     exact ⟨rfl,rfl,rfl,rfl,trivial⟩
    ·have e4:lv4F s p q=q:=by unfold lv4F;rw [if_neg (by omega)]
     rw [e4]
     exact ⟨rfl,rfl,rfl,rfl,trivial⟩
   ·generalize lv4F s p q=Q at hq ⊢
    split at hq
    ·cases hq
    rename_i l r2 ho
    refine call1 [1000] (zpx s hs Q l r2 ho) rfl rfl (za _) (brS (fun d1=>?_) (fun d1=>?_))
    ·rw [if_pos d1] at hq
     cases hq
     simp only at h
     cases h
     exact ⟨rfl,rfl⟩
    rw [if_neg d1] at hq
    refine app1 (by simp;omega) (by simp;omega) (call1 [1000] (z6f s hs r2) rfl rfl (za _) (brS (fun d2=>?_) (fun d2=>?_)))
    ·rw [if_neg d2] at hq
     cases hq
     refine ⟨(),rfl,leX.same ⟨?_,?_,rfl,rfl,trivial⟩⟩
     ·exact congrArg (fun z=>Ob.ce 35 [.p (I 2),.p (I 0),.p (St nam),.ts 500 3 z,.p nilS]) (z8e p l)
     ·exact ar_eq (by simp)
    ·have d2':r2.pk s=44:=by simpa using d2
     rw [if_pos d2'] at hq
     have hbp2:(r2.bl s).pos<s.size:=by
      refine Classical.byContradiction fun hn=>?_
      unfold Rd.pk at d2'
      rw [if_neg (fun h'=>hn h'.2)] at d2'
      cases d2'
     refine And.intro (by omega) ⟨p++[l],(r2.bl s).at ((r2.bl s).pos+1),g,⟨by simp;omega,hq⟩,by omega,?_,?_,rfl,rfl,trivial⟩
     ·exact congrArg (fun z=>Ob.ce 35 [.p (I 2),.p (I 0),.p (St nam),.ts 500 3 z,.p nilS]) (z8e p l)
     ·exact ar_eq (by simp)
theorem zpy (b:Rd) (e p:Int):(b.fail e p).pos=b.pos:=by unfold Rd.fail;split<;>rfl
theorem zsi (b:Rd) (e p:Int):(b.fail e p).terms=b.terms:=by unfold Rd.fail;split<;>rfl
set_option maxHeartbeats 8000000 in
theorem zl1 (s : ByteArray) (hs : s.size ≤ 100000) : ∀ (g:Nat) (deep:Int) (r:Rd) (t:Trm) (r':Rd),trmF s g deep r=some (t,r')->0<=deep->deep<=1000 ->
  Con Tryz.prog 127 [.ptr 1000 0,.p (I deep)] (rdO 1000 s r) (fun x o=>x=tv t/\o=rdO 1000 s r')
 | 0,_,_,_,_,h,_,_=>by cases h
 | g + 1,deep,r,t,r',h,hd0,hd1=>by
   have ih:=zl1 s hs g
   simp only [trmF] at h
   refine cv [] [1000002,1000005,1000007] [1000] Tryz.func127 170 Tryz.ntmps127 rfl rfl fun cx hE=>call1 [1000] (z6f s hs r) rfl rfl (za _) ?_
   refine join1 (A:=Unit) (fun _=>[]) (fun _=>[]) (fun _=>(r.bl s).pos<s.size/\tmcF (r.pk s)) [] [] [] hE rfl rfl rfl ?_ (fun _ hc=>?_)
   ·have bad:¬ ((r.bl s).pos<s.size/\tmcF (r.pk s))->Con Tryz.prog 177 [.ptr 1000 0,.p (I 5),.p (I ((r.bl s).pos:Int))] (rdO 1000 s (r.bl s)) (fun x o=>x=.tp []/\o=rdO 1000 s r')/\zT=t:=fun hn=>by
     rw [if_pos hn] at h
     cases h
     exact ⟨z1l s (r.bl s) 5 _,rfl⟩
    refine brS (fun h0=>?_) (fun h0=>?_)
    ·obtain ⟨hf,rfl⟩:=bad (by omega)
     exact call1 [1000] hf rfl rfl (za _) ⟨rfl,rfl⟩
    have ok:tmcF (r.pk s)->(r.bl s).pos<s.size/\tmcF (r.pk s):=fun b=>⟨by omega,b⟩
    refine brS (fun h1=>?_) (fun h1=>⟨(),ok (by unfold tmcF;omega),leX.same ⟨rfl,rfl,trivial⟩⟩)
    refine brS (fun h2=>?_) (fun h2=>⟨(),ok (by unfold tmcF;omega),leX.same ⟨rfl,rfl,trivial⟩⟩)
    refine brS (fun h3=>?_) (fun h3=>⟨(),ok (by unfold tmcF;omega),leX.same ⟨rfl,rfl,trivial⟩⟩)
    refine brS (fun h4=>?_) (fun h4=>⟨(),ok (by unfold tmcF;omega),leX.same ⟨rfl,rfl,trivial⟩⟩)
    refine brS (fun h5=>?_) (fun h5=>⟨(),ok (by unfold tmcF;omega),leX.same ⟨rfl,rfl,trivial⟩⟩)
    refine brS (fun h6=>?_) (fun h6=>⟨(),ok (by unfold tmcF;omega),leX.same ⟨rfl,rfl,trivial⟩⟩)
    have okl:letF (r.pk s)=true->tmcF (r.pk s):=fun hl=>by unfold tmcF;exact .inr (.inr (.inr (.inr (.inr (.inr hl)))))
    refine call0 (z3u _) (brB (fun h7=>?_) (fun h7=>⟨(),ok (okl (by simpa using h7)),leX.same ⟨rfl,rfl,trivial⟩⟩))
    have h7':letF (r.pk s)=false:=by simpa using h7
    obtain ⟨hf,rfl⟩:=bad (fun hn=>by have:=hn.2;unfold tmcF at this;rw [h7'] at this;simp only [Bool.false_eq_true,or_false] at this;omega)
    exact call1 [1000] hf rfl rfl (za _) ⟨rfl,rfl⟩
   rw [if_neg (fun hn=>hn hc)] at h
   generalize hR:r.bl s=R at h hc ⊢
   have hl:R.terms=r.terms:=by rw [<- hR];rfl
   have g1:(if R.terms=0 then R.fail 3 R.pos else R).pos=R.pos:=by split<;>simp [zpy]
   have g2:(gateT deep R).pos=R.pos:=by unfold gateT;split<;>simp [zpy,g1]
   have g3 : (gateT deep R).terms = R.terms := by unfold gateT;repeat' split
                                                  all_goals simp [zsi]
   refine join0 [] (rdO 1000 s (if R.terms=0 then R.fail 3 R.pos else R)) [] [1000] [] hE rfl rfl rfl ?_ ?_
   ·refine brS (fun h1=>?_) (fun h1=>?_)
    ·rw [if_pos h1];exact call1 [1000] (z1l s R 3 _) rfl rfl (za _) ⟨rfl,rfl,trivial⟩
    ·rw [if_neg h1];exact ⟨rfl,rfl,trivial⟩
   refine join0 [] (rdO 1000 s (gateT deep R)) [] [1000] [] hE rfl rfl rfl ?_ ?_
   ·unfold gateT
    refine brS (fun h1=>?_) (fun h1=>?_)
    ·rw [if_pos h1]
     have hf:Con Tryz.prog 177 [.ptr 1000 0,.p (I 6),.p (I ((if R.terms=0 then R.fail 3 R.pos else R).pos:Int))] (rdO 1000 s (if R.terms=0 then R.fail 3 R.pos else R)) (fun x o=>x=.tp []/\o=rdO 1000 s ((if R.terms=0 then R.fail 3 R.pos else R).fail 6 R.pos)):=by rw [g1];exact z1l s _ 6 (R.pos:Int)
     refine call1 [1000] hf rfl rfl (za _) ⟨rfl,rfl,trivial⟩
    ·rw [if_neg h1];exact ⟨rfl,rfl,trivial⟩
   refine brS (fun h1=>?_) (fun h1=>?_)
   ·rw [if_pos h1] at h;cases h;exact ⟨rfl,rfl⟩
   rw [if_neg h1] at h
   split at h
   ·cases h
   rename_i hb
   have hdeep:deep<=100:=by
    refine Classical.byContradiction fun hn=>h1 ?_
    unfold gateT;rw [if_pos (by omega)]
    exact zpw _ (by decide)
   refine And.intro (by omega) (call0 (z3u _) (brB (fun h2=>?_) (fun h2=>?_)))
   ·rw [if_pos h2] at h
    exact call1 [1000] (zv0 s hs (gateT deep R).ter (by show (gateT deep R).pos<=_;omega) t r' h) rfl rfl (za _) ⟨rfl,rfl⟩
   rw [if_neg (by rw [h2];simp)] at h
   rw [<- g2] at h
   generalize hG:gateT deep R=G at *
   have hnext:rdO 1000 s (G.ter.at (G.pos+1))=[(1000,.ce 163 [.p (St s),.p (I ((G.pos:Int)+1)),.p (I G.err),.p (I G.place),.p (I (G.terms-1)),.p (I G.left)])]:=rfl
   have hpn:(G.ter.at (G.pos+1)).pos<=s.size:=by show G.pos+1<=_;omega
   refine And.intro (by omega) (brS (fun h3=>?_) (fun h3=>?_))
   ·rw [if_pos h3] at h
    split at h
    ·cases h
    rename_i n r1 hn
    cases h
    exact call1 [1000] (zns s hs (G.ter.at (G.pos+1)) hpn n r' hn) rfl rfl (za _) ⟨rfl,rfl⟩
   rw [if_neg h3] at h
   refine brS (fun h4=>?_) (fun h4=>?_)
   ·rw [if_pos h4] at h
    split at h
    ·cases h
    rename_i l r1 hn
    cases h
    exact call1 [1000] (zpx s hs (G.ter.at (G.pos+1)) l r' hn) rfl rfl (za _) ⟨tv1l _ _ _ _ [],rfl⟩
   rw [if_neg h4] at h
   split at h
   ·cases h
   rename_i a r1 ha
   have ihA:=ih (deep+1) _ a r1 ha (by omega) (by omega)
   refine brS (fun h5=>?_) (fun h5=>?_)
   ·rw [if_pos h5] at h
    split at h
    ·cases h
    rename_i b r2 hb2
    cases h
    exact And.intro (by omega) (call1 [1000] ihA rfl rfl (za _) (And.intro (by omega) (call1 [1000] (ih (deep+1) r1 b r2 hb2 (by omega) (by omega)) rfl rfl (za _) (call1 [1000] (z7n s hs r2 41) rfl rfl (za _) ⟨tv2 _ _ _ [] _ _,rfl⟩))))
   rw [if_neg h5] at h
   refine brS (fun h6=>?_) (fun h6=>?_)
   ·rw [if_pos h6] at h
    split at h
    ·cases h
    rename_i b r2 hb2
    split at h
    ·cases h
    rename_i c r3 hb3
    cases h
    exact And.intro (by omega) (call1 [1000] ihA rfl rfl (za _) (call1 [1000] (z7n s hs r1 58) rfl rfl (za _) (And.intro (by omega) (call1 [1000] (ih (deep+1) _ b r2 hb2 (by omega) (by omega)) rfl rfl (za _) (call1 [1000] (z7n s hs r2 46) rfl rfl (za _) (And.intro (by omega) (callW [1000] 1000 _ (ih (deep+1) _ c r' hb3 (by omega) (by omega)) rfl rfl (za _) rfl rfl ⟨tv3 _ _ _ [] _ _ _,rfl⟩)))))))
   rw [if_neg h6] at h
   split at h
   ·cases h
   rename_i b r2 hb2
   cases h
   refine And.intro (by omega) (call1 [1000] ihA rfl rfl (za _) (call1 [1000] (z7n s hs r1 46) rfl rfl (za _) (And.intro (by omega) (callW [1000] 1000 _ (ih (deep+1) _ b r' hb2 (by omega) (by omega)) rfl rfl (za _) rfl rfl (brS (fun h7=>?_) (fun h7=>?_))))))
   ·rw [if_pos h7];exact ⟨tv2 _ _ _ [] _ _,rfl⟩
   ·rw [if_neg h7];exact ⟨tv2 _ _ _ [] _ _,rfl⟩
theorem zsj (s:ByteArray) (hs:s.size<=4000) (t:Trm) (p e:Int) (h:zgo s=some (t,p,e)):PCon Tryz.prog 75 [.p (St s)] (.tp [tv t,.p (I p),.p (I e)]):=by
 unfold zgo at h
 split at h
 ·cases h
 rename_i t0 r ht
 refine cv [] [] [] Tryz.func75 33 Tryz.ntmps75 rfl rfl fun cx hE=>brZ (by omega) (callX [13] ((zl1 s (by omega) 110 1 ⟨0,0,0,2000,0⟩ t0 r ht (by omega) (by omega)).sw 1000 13) rfl rfl (za _) fun x o ⟨_,_,⟨e1,e2⟩,e3,e4⟩=>?_)
 subst e1 e2 e3 e4
 refine callX [13] ((zyv s (by omega) r).sw 1000 13) rfl rfl (za _) fun x o ⟨_,_,⟨e1,e2⟩,e3,e4⟩=>?_
 subst e1 e2 e3 e4
 refine brS (fun h1=>?_) (fun h1=>?_)
 ·rw [if_pos h1] at h;cases h;exact ⟨rfl,rfl⟩
 ·rw [if_neg h1] at h;cases h;exact ⟨rfl,rfl⟩
theorem zv1 (s:ByteArray) (hs:s.size<=4000) (h:(zgo s).isSome=true):PCon Tryz.prog 33 [.p (St s)] (tv (trmOf s)):=by
 cases hx:zgo s with
 | none=>rw [hx] at h;cases h
 | some q =>
   obtain ⟨t,p,e⟩:=q
   have ht:trmOf s=t:=by unfold trmOf;rw [hx]
   rw [ht]
   exact cv [] [] [] Tryz.func33 13 Tryz.ntmps33 rfl rfl fun cx hE=>call0 (zsj s hs t p e hx) ⟨rfl,rfl⟩
def rwI (l:List Int):List (List PV):=l.map fun n=>[I n]
@[simp] theorem zz4i (l:List Int):(rwI l).length=l.length:=by simp [rwI]
theorem zz3p {l:List Int} {n:Int} (h0:0<=n) (h1:n<l.length):rowAt (rwI l) n=[I (l.getD n.toNat 0)]:=by
 have h:n.toNat<l.length:=by omega
 simp [rowAt,rwI,List.getD_eq_getElem?_getD,h]
theorem zpz (ps:Int) (t:Lvl) (d:Int):wholL ps t d=if d>32\/argL t.kind≠t.args.length then false else if t.kind=4/\(t.n<0\/t.n≥ps)\/t.kind≠4/\t.n≠0 then false else zc4 ps t.args d:=by cases t;rfl
theorem zbe (ps:Int) (d:Int):∀ l:List Lvl,zc4 ps l d=l.all fun a=>wholL ps a (d+1)
 | []=>rfl
 | a::r=>by simp [zc4,zbe ps d r]
theorem zq0 {ps:Int} {t:Lvl} {d:Int} (h:wholL ps t d=true):argL t.kind=t.args.length/\∀ a∈t.args,wholL ps a (d+1)=true:=by
 rw [zpz] at h
 split at h
 ·cases h
 ·split at h
  ·cases h
  ·rename_i h1 h2
   rw [zbe,List.all_eq_true] at h
   exact ⟨by omega,h⟩
theorem zv2 (at_:List Int) (t:Lvl):rEvF at_ t=if t.kind=1 then (rEvs at_ t.args).getD 0 0+1 else if t.kind=2 then max ((rEvs at_ t.args).getD 0 0) ((rEvs at_ t.args).getD 1 0)
 else if t.kind=3 then (if (rEvs at_ t.args).getD 1 0=0 then 0 else max ((rEvs at_ t.args).getD 0 0) ((rEvs at_ t.args).getD 1 0))
 else if t.kind=4 then (if 0<=t.n/\t.n<at_.length then min (max (at_.getD t.n.toNat 0) 0) 1099511627776 else 0) else 0:=by cases t;rfl
theorem zl2 (at_:List Int):∀ (l:List Lvl) (i:Nat),i<l.length->(rEvs at_ l).getD i 0=rEvF at_ (l.getD i ⟨0,0,[]⟩)
 | [],i,h=>by simp at h
 | a::r,0,h=>by simp [rEvs]
 | a::r,i+1,h=>by
   have:=zl2 at_ r i (by simpa using h)
   simpa [rEvs] using this
theorem zl3:∀ {l:List Lvl} {a:Lvl},a∈l->prtL a<=prtLs l
 | b::r,a,h=>by
   simp only [prtLs]
   rcases List.mem_cons.1 h with rfl | h
   ·omega
   ·have:=zl3 h;omega
mutual
theorem zz23 (at_:List Int):∀ t:Lvl,0<=rEvF at_ t/\rEvF at_ t<=1099511627776+(prtL t:Int)
 | ⟨k,n,l⟩=>by
   have h:=znt at_ l
   have h0:=h 0
   have h1:=h 1
   rw [zv2]
   simp only [prtL]
   repeat' split
   all_goals omega
theorem znt (at_:List Int):∀ (l:List Lvl) (i:Nat),0<=(rEvs at_ l).getD i 0/\(rEvs at_ l).getD i 0<=1099511627776+(prtLs l:Int)
 | [],i=>by simp [rEvs,prtLs]
 | a::r,0=>by
   have:=zz23 at_ a
   simp only [rEvs,prtLs,List.getD_cons_zero]
   omega
 | a::r,i+1=>by
   have:=znt at_ r i
   simp only [rEvs,prtLs,List.getD_cons_succ]
   omega
end
theorem zv3 (k:Int):PCon Tryz.prog 140 [.p (I k)] (.p (I (argL k))):=by
 refine cv [] [] [] Tryz.func140 12 Tryz.ntmps140 rfl rfl fun cx hE=>?_
 repeat' (first | refine brS (fun _=>?_) (fun _=>?_) | refine fun _=>?_)
 all_goals exact ⟨I_eq (by unfold argL;repeat' (first | omega | split)),rfl⟩
theorem zgr (ps:Int) (l:Lvl):∀ d:Int,0<=d->d<=1000->PCon Tryz.prog 101 [lv l,.p (I ps),.p (I d)] (.p (B (wholL ps l d))):=by
 intro d h0 h1
 have ih:∀ a∈l.args,∀ d:Int,0<=d->d<=1000->PCon Tryz.prog 101 [lv a,.p (I ps),.p (I d)] (.p (B (wholL ps a d))):=fun a ha d h0 h1=>zgr ps a d h0 h1
 have he:=zpz ps l d
 rw [zbe] at he
 have hel:=zp l.args
 refine cv [] [1,3] [] Tryz.func101 60 Tryz.ntmps101 rfl rfl fun cx hE=>?_
 refine seq0 [(18,.p (B (decide (d>32\/argL l.kind≠l.args.length))))] [] [18] [] [] hE rfl rfl rfl ?_ ?_
 ·refine brS (fun h2=>?_) (fun h2=>?_)
  ·exact ⟨Sub.bt (by omega),rfl,trivial⟩
  ·refine call0 (zv3 _) ?_
   exact ⟨Sub.b (by rw [Bool.eq_iff_iff];simp;omega),rfl,trivial⟩
 refine brS (fun h2=>⟨B_eq (by rw [he,if_pos h2]),rfl⟩) (fun h2=>?_)
 refine seq0 [(42,.p (B (decide (l.kind=4/\(l.n<0\/l.n≥ps)\/l.kind≠4/\l.n≠0))))] [] [42] [] [] hE rfl rfl rfl ?_ ?_
 ·repeat' (first | refine brS (fun _=>?_) (fun _=>?_) | refine brN (fun _=>?_) (fun _=>?_) | refine fun _=>?_)
  all_goals first | exact ⟨Sub.bd (by omega),rfl,trivial⟩ | exact ⟨Sub.bt (by omega),rfl,trivial⟩ | exact ⟨Sub.bf (by omega),rfl,trivial⟩ | exact ⟨Sub.b (by rw [Bool.eq_iff_iff];simp;omega),rfl,trivial⟩
 refine brS (fun h3=>⟨B_eq (by rw [he,if_neg h2,if_pos h3]),rfl⟩) (fun h3=>?_)
 rw [if_neg h2,if_neg h3] at he
 refine loopP l.args (fun p=>[(7,.p (I p.length))]) (fun p=>[]) (fun p=>(p.all fun a=>wholL ps a (d+1))=true) [7] [] hE rfl rfl rfl ⟨Sub.refl _,rfl,trivial⟩ rfl (fun hp=>fun _=>brLe ⟨B_eq (by rw [he,hp]),rfl⟩) (fun p a q hq hp=>fun _=>brL hq (idxL hq (And.intro (by omega) (call0 (ih a (zf hq) (d+1) (by omega) (by omega)) (brB (fun hb=>⟨B_eq ?_,rfl⟩) (fun hb=>And.intro (by have:=zh hq;omega) ⟨?_,Sub.i (by simp),rfl,trivial⟩))))))
 ·have hb':wholL ps a (d+1)=false:=by simpa using hb
  rw [he,hq];simp [hb']
 ·have hb':wholL ps a (d+1)=true:=by simpa using hb
  rw [List.all_append,hp];simp [hb']
termination_by SizeOf.sizeOf l
decreasing_by exact Lvl.lt ha
theorem zae (l:Lvl) (n:Int) (hn:-1000000000000<=n) (hn1:n<=1000000000000):PCon Tryz.prog 47 [lv l,.p (I n)] (.p (B (mayLF l n))):=by
 refine cv [] [] [] Tryz.func47 15 Tryz.ntmps47 rfl rfl fun cx hE=>call0 (zbd l 64 (by omega) (by omega)) (brS (fun h=>call0 (zgr _ l 1 (by omega) (by omega)) ⟨B_eq ?_,rfl⟩) (fun h=>⟨B_eq ?_,rfl⟩))
 ·unfold mayLF;rw [decide_eq_true (by omega)];rfl
 ·unfold mayLF;rw [decide_eq_false (by omega)];rfl
theorem zei (at_:List Int) (hat:at_.length<=1000) (ps:Int) (l:Lvl):∀ d:Int,wholL ps l d=true->prtL l<=1000000->PCon Tryz.prog 142 [lv l,.p (.sl 1 (rwI at_))] (.p (I (rEvF at_ l))):=by
 intro d hw hp
 have ih:∀ a∈l.args,PCon Tryz.prog 142 [lv a,.p (.sl 1 (rwI at_))] (.p (I (rEvF at_ a))):=fun a ha=>zei at_ hat ps a (d+1) ((zq0 hw).2 a ha) (by have:=zl3 ha;have:=zih l;omega)
 have he:=zv2 at_ l
 have hb:=znt at_ l.args
 have hpl:=zih l
 have hn:=(zq0 hw).1
 have hel:=zp l.args
 have get:∀ i:Nat,i<l.args.length->rowAt (encLs l.args) (i:Int)=rowL (l.args.getD i ⟨0,0,[]⟩)/\l.args.getD i ⟨0,0,[]⟩∈l.args:=fun i hi=>by
  have:=ze7 (l:=l.args) (n:=(i:Int)) (by omega) (by omega)
  simpa using this
 have ev:∀ i:Nat,i<l.args.length->PCon Tryz.prog 142 [lv (l.args.getD i ⟨0,0,[]⟩),.p (.sl 1 (rwI at_))] (.p (I ((rEvs at_ l.args).getD i 0))):=fun i hi=>by rw [zl2 at_ _ i hi];exact ih _ (get i hi).2
 refine cv [] [] [] Tryz.func142 69 Tryz.ntmps142 rfl rfl fun cx hE=>brS (fun h1=>?_) (fun h1=>brS (fun h2=>?_) (fun h2=>brS (fun h3=>?_) (fun h3=>brS (fun h4=>brS (fun h5=>fun _=>brS (fun h6=>?_) (fun h6=>⟨I_eq ?_,rfl⟩)) (fun h5=>⟨I_eq ?_,rfl⟩)) (fun h4=>⟨I_eq ?_,rfl⟩))))
 ·have hl:l.args.length=1:=by rw [h1] at hn;simp [argL] at hn;omega
  refine idx1 (by omega) (by omega) (get 0 (by omega)).1 (call0 (ev 0 (by omega)) (And.intro (by have:=hb 0;omega) ⟨I_eq ?_,rfl⟩))
  rw [he,if_pos h1]
 ·have hl:l.args.length=2:=by rw [h2] at hn;simp [argL] at hn;omega
  refine idx1 (by omega) (by omega) (get 0 (by omega)).1 (call0 (ev 0 (by omega)) (idx1 (by omega) (by omega) (get 1 (by omega)).1 (call0 (ev 1 (by omega)) ⟨I_eq ?_,rfl⟩)))
  rw [he,if_neg h1,if_pos h2]
 ·have hl:l.args.length=2:=by rw [h3] at hn;simp [argL] at hn;omega
  refine idx1 (by omega) (by omega) (get 1 (by omega)).1 (call0 (ev 1 (by omega)) (brS (fun h4=>⟨I_eq ?_,rfl⟩) (fun h4=>idx1 (by omega) (by omega) (get 0 (by omega)).1 (call0 (ev 0 (by omega)) ⟨I_eq ?_,rfl⟩))))
  ·rw [he,if_neg h1,if_neg h2,if_pos h3,if_pos h4]
  ·rw [he,if_neg h1,if_neg h2,if_pos h3,if_neg h4]
 ·have h6':l.n<at_.length:=by simpa using h6
  refine idx1 (by omega) (by simpa using h6') (zz3p (by omega) h6') ⟨I_eq ?_,rfl⟩
  rw [he,if_neg h1,if_neg h2,if_neg h3,if_pos h4,if_pos ⟨by omega,h6'⟩]
 ·have h6':¬ l.n<at_.length:=by simpa using h6
  rw [he,if_neg h1,if_neg h2,if_neg h3,if_pos h4,if_neg (by omega)]
 ·rw [he,if_neg h1,if_neg h2,if_neg h3,if_pos h4,if_neg (by omega)]
 ·rw [he,if_neg h1,if_neg h2,if_neg h3,if_neg h4]
termination_by SizeOf.sizeOf l
decreasing_by exact Lvl.lt ha
theorem lv1 (k n:Int) (a:Lvl):lv ⟨k,n,[a]⟩=.ag [.p (I k),.p (I n),.p (.sl 3 [[I a.kind,I a.n,.sl 3 (encLs a.args)]])]:=by simp [lv,zr,rowL]
theorem lv2 (k n:Int) (a b:Lvl):lv ⟨k,n,[a,b]⟩=.ag [.p (I k),.p (I n),.p (.sl 3 [[I a.kind,I a.n,.sl 3 (encLs a.args)],[I b.kind,I b.n,.sl 3 (encLs b.args)]])]:=by simp [lv,zr,rowL]
theorem zv4 (a:Lvl) (h:narL a=true):PCon Tryz.prog 90 [lv a] (lv ⟨1,0,[a]⟩):=cv [] [] [] Tryz.func90 7 Tryz.ntmps90 rfl rfl fun cx hE=>call0 (z2r a h) ⟨by rw [lv1];rfl,rfl⟩
theorem zyw (a b:Lvl) (h:narL a=true) (h2:narL b=true):PCon Tryz.prog 91 [lv a,lv b] (lv ⟨2,0,[a,b]⟩):=cv [] [] [] Tryz.func91 11 Tryz.ntmps91 rfl rfl fun cx hE=>call0 (z2r a h) (call0 (z2r b h2) ⟨by rw [lv2];rfl,rfl⟩)
theorem zv5 (a b:Lvl) (h:narL a=true) (h2:narL b=true):PCon Tryz.prog 92 [lv a,lv b] (lv ⟨3,0,[a,b]⟩):=cv [] [] [] Tryz.func92 11 Tryz.ntmps92 rfl rfl fun cx hE=>call0 (z2r a h) (call0 (z2r b h2) ⟨by rw [lv2];rfl,rfl⟩)
theorem z8g (n:Int):PCon Tryz.prog 93 [.p (I n)] (lv ⟨4,n,[]⟩):=cv [] [] [] Tryz.func93 5 Tryz.ntmps93 rfl rfl fun cx hE=>⟨rfl,rfl⟩
theorem zaf:PCon Tryz.prog 94 [] (lv zL):=cv [] [] [] Tryz.func94 2 Tryz.ntmps94 rfl rfl fun cx hE=>⟨rfl,rfl⟩
theorem zv6 (k:Int):PCon Tryz.prog 163 [.p (I k)] (.p (I (argF k))):=by
 refine cv [] [] [] Tryz.func163 14 Tryz.ntmps163 rfl rfl fun cx hE=>?_
 repeat' (first | refine brS (fun _=>?_) (fun _=>?_) | refine fun _=>?_)
 all_goals exact ⟨I_eq (by unfold argF;repeat' (first | omega | split)),rfl⟩
def wholA (t:Trm):Prop:=argF t.kind≠t.args.length\/(t.kind≠0/\t.n≠0)\/t.n<0\/t.n>1073741824\/(t.kind≠2/\t.name≠⟨#[]⟩)
instance (t:Trm):Decidable (wholA t):=by unfold wholA;infer_instance
theorem zyx {t:Trm} (h:¬ wholA t):wholP t=decide (t.kind=2\/(t.kind=1/\t.levels.length=1)\/(t.kind≠1/\t.levels.length=0)):=by
 simp only [wholA,not_or,Classical.not_not,not_and] at h
 obtain ⟨h1,h2,h3,h4,h5⟩:=h
 rw [Bool.eq_iff_iff]
 simp only [wholP,Bool.and_eq_true,decide_eq_true_eq]
 constructor
 ·rintro ⟨_,_,_,_,h⟩
  split at h
  ·have:=of_decide_eq_true h;omega
  ·have:=of_decide_eq_true h;omega
 ·intro h
  refine ⟨by omega,by omega,fun hk=>h2 hk,fun hk=>h5 hk,?_⟩
  split
  ·exact decide_eq_true (by omega)
  ·exact decide_eq_true (by omega)
theorem zyy {t:Trm} (h:wholA t):wholP t=false:=by
 rw [Bool.eq_false_iff]
 intro hw
 simp only [wholP,Bool.and_eq_true,decide_eq_true_eq] at hw
 obtain ⟨h1,h2,h3,h4,_⟩:=hw
 rcases h with h | h | h | h | h
 ·omega
 ·exact h.2 (h3 h.1)
 ·rcases Classical.em (t.kind=0) with hk | hk
  ·have:=h2 hk;omega
  ·have:=h3 hk;omega
 ·rcases Classical.em (t.kind=0) with hk | hk
  ·have:=h2 hk;omega
  ·have:=h3 hk;omega
 ·exact h.2 (h4 h.1)
set_option maxHeartbeats 4000000 in
theorem zv7 (t:Trm):PCon Tryz.prog 118 [tv t] (.p (B (wholP t))):=by
 have hel:=zp t.levels
 have het:=zc t.args
 refine cv [] [1] [] Tryz.func118 65 Tryz.ntmps118 rfl rfl fun cx hE=>?_
 refine seq0 [(39,.p (B (decide (wholA t))))] [] [39] [] [] hE rfl rfl rfl ?_ ?_
 ·have R:wholA t->Sub (.p (B true)) (.p (B (decide (wholA t)))):=fun h=>Sub.bt h
  have nm:¬ (argF t.kind≠t.args.length\/(t.kind≠0/\t.n≠0)\/t.n<0\/t.n>1073741824)->t.kind≠2->decide (t.name≠⟨#[]⟩)=decide (wholA t):=fun h1 h2=>by
   rcases Classical.em (t.name=⟨#[]⟩) with e | e
   ·rw [decide_eq_false (show ¬ wholA t by simp only [wholA,e,ne_eq,not_true,and_false,or_false];simpa using h1),decide_eq_false (by simpa using e)]
   ·rw [decide_eq_true (show wholA t from .inr (.inr (.inr (.inr ⟨h2,e⟩)))),decide_eq_true e]
  refine call0 (zv6 _) ?_
  refine brS (fun h1=>?_) (fun h1=>brS (fun h2=>brS (fun h3=>?_) (fun h3=>?_)) (fun h2=>?_))
  ·exact ⟨R (.inl (by omega)),rfl,trivial⟩
  ·exact ⟨R (.inr (.inl ⟨h2,h3⟩)),rfl,trivial⟩
  ·refine brS (fun h4=>⟨R (.inr (.inr (.inl h4))),rfl,trivial⟩) (fun h4=>brS (fun h5=>⟨R (.inr (.inr (.inr (.inl h5)))),rfl,trivial⟩) (fun h5=>brS (fun h6=>⟨Sub.b (nm (by omega) h6),rfl,trivial⟩) (fun h6=>⟨Sub.bf (by unfold wholA;omega),rfl,trivial⟩)))
  ·refine brS (fun h4=>⟨R (.inr (.inr (.inl h4))),rfl,trivial⟩) (fun h4=>brS (fun h5=>⟨R (.inr (.inr (.inr (.inl h5)))),rfl,trivial⟩) (fun h5=>brS (fun h6=>⟨Sub.b (nm (by omega) h6),rfl,trivial⟩) (fun h6=>⟨Sub.bf (by unfold wholA;omega),rfl,trivial⟩)))
 refine brS (fun h=>⟨B_eq (zyy h).symm,rfl⟩) (fun h=>?_)
 rw [zyx h]
 have e:=fun (b:Bool) (hb:b=true↔(t.kind=2\/(t.kind=1/\t.levels.length=1)\/(t.kind≠1/\t.levels.length=0)))=>B_eq (show b=decide (t.kind=2\/(t.kind=1/\t.levels.length=1)\/(t.kind≠1/\t.levels.length=0)) by rw [Bool.eq_iff_iff,hb];simp)
 refine brS (fun h1=>⟨e _ ⟨fun _=>.inl h1,fun _=>rfl⟩,rfl⟩) (fun h1=>brS (fun h2=>fun _=>brS (fun h3=>⟨e _ ⟨fun _=>.inr (.inl ⟨h2,by omega⟩),fun _=>rfl⟩,rfl⟩) (fun h3=>brS (fun h4=>?_) (fun h4=>⟨e _ (by simp;omega),rfl⟩))) (fun h2=>brS (fun h4=>fun _=>⟨e _ (by simp only [decide_eq_true_eq];omega),rfl⟩) (fun h4=>?_)))
 ·omega
 ·omega
theorem zv8 (t:Trm) (left:Int):rWhT t left=if left-1<0\/wholP t=false then none else rWhTs t.args (left-1):=by cases t;rfl
mutual
theorem zz24:∀ (t:Trm) (left n:Int),rWhT t left=some n->0<=n/\n<left
 | ⟨k,m,s,ls,l⟩,left,n,h=>by
   rw [zv8] at h
   split at h
   ·cases h
   ·have:=zio l (left-1) n (by omega) h;omega
theorem zio:∀ (l:List Trm) (left n:Int),0<=left->rWhTs l left=some n->0<=n/\n<=left
 | [],left,n,h0,h=>by simp only [rWhTs] at h;cases h;omega
 | a :: r,left,n,h0,h=>by
   simp only [rWhTs] at h
   split at h
   ·cases h
   ·rename_i m hm
    have h1:=zz24 a left m hm
    have h2:=zio r m n (by omega) h
    omega
end
theorem zej:∀ (p q:List Trm) (left:Int),rWhTs (p++q) left=(rWhTs p left).bind (rWhTs q)
 | [],q,left=>rfl
 | a::p,q,left=>by
   simp only [List.cons_append,rWhTs]
   cases rWhT a left with
   | none=>rfl
   | some n=>exact zej p q n
def whV (o:Option Int):AV:=match o with
 | none=>.tp [.p (I (-1)),.p (B false)]
 | some n=>.tp [.p (I n),.p (B true)]
theorem z8h (t:Trm):∀ left:Int,0<=left->left<=1048576->PCon Tryz.prog 68 [tv t,.p (I left)] (whV (rWhT t left)):=by
 intro left h0 h1
 have ih:∀ a∈t.args,∀ left:Int,0<=left->left<=1048576->PCon Tryz.prog 68 [tv a,.p (I left)] (whV (rWhT a left)):=fun a ha left h0 h1=>z8h a left h0 h1
 have he:=zv8 t left
 have het:=zc t.args
 refine cv [] [2] [] Tryz.func68 39 Tryz.ntmps68 rfl rfl fun cx hE=>And.intro (by omega) ?_
 refine seq0 [(17,.p (B (decide (left-1<0\/wholP t=false))))] [] [17] [] [] hE rfl rfl rfl ?_ ?_
 ·refine brS (fun h=>⟨Sub.bt (.inl h),rfl,trivial⟩) (fun h=>call0 (zv7 t) ⟨Sub.b ?_,rfl,trivial⟩)
  rw [Bool.eq_iff_iff];simp;omega
 refine brS (fun h=>⟨by rw [he,if_pos h];rfl,rfl⟩) (fun h=>?_)
 rw [if_neg h] at he
 have ev:∀ p a q,t.args=p++a::q->rWhTs p (left-1)=some ((rWhTs p (left-1)).getD 0)->rWhTs t.args (left-1)=(rWhT a ((rWhTs p (left-1)).getD 0)).bind (rWhTs q)/\rWhTs (p++[a]) (left-1)=rWhT a ((rWhTs p (left-1)).getD 0):=fun p a q hq hp=>by
  refine ⟨?_,?_⟩
  ·rw [hq,zej,hp];simp only [Option.getD_some,Option.bind_some,rWhTs];cases rWhT a ((rWhTs p (left-1)).getD 0)<;>rfl
  ·rw [zej,hp];simp only [Option.getD_some,Option.bind_some,rWhTs];cases rWhT a ((rWhTs p (left-1)).getD 0)<;>rfl
 refine loopP t.args (fun p=>[(6,.p (I p.length)),(1,.p (I ((rWhTs p (left-1)).getD 0)))]) (fun p=>[]) (fun p=>rWhTs p (left-1)=some ((rWhTs p (left-1)).getD 0)) [6,1] [] hE rfl rfl rfl ⟨Sub.refl _,Sub.refl _,rfl,trivial⟩ rfl (fun hp=>fun _=>brTe ⟨by rw [he,hp];rfl,rfl⟩) (fun p a q hq hp=>?_)
 have hle:=zio p (left-1) _ (by omega) hp
 have hlt:=zh hq
 obtain ⟨e1,e2⟩:=ev p a q hq hp
 refine fun _=>brT' hq (idxT hq (call0 (ih a (zf hq) _ (by omega) (by omega)) ?_))
 cases hx:rWhT a ((rWhTs p (left-1)).getD 0) with
 | none =>
   rw [hx] at e1
   exact brT ⟨by rw [he,e1];rfl,rfl⟩
 | some n =>
   rw [hx] at e2
   exact brF (And.intro (by omega) ⟨by rw [e2];rfl,Sub.i (by simp),by rw [e2];exact Sub.refl _,rfl,trivial⟩)
termination_by SizeOf.sizeOf t
decreasing_by exact Trm.lt ha
theorem zbf (t:Trm):∀ most:Int,-1000000<=most->most<=1000000->PCon Tryz.prog 161 [tv t,.p (I most)] (.p (I (min (dpT t:Int) (max most 0+1)))):=by
 intro most h0 h1
 have ih:∀ a∈t.args,∀ m:Int,-1000000<=m->m<=1000000->PCon Tryz.prog 161 [tv a,.p (I m)] (.p (I (min (dpT a:Int) (max m 0+1)))):=fun a ha m h0 h1=>zbf a m h0 h1
 have he:=z5s t
 have app:∀ (p:List Trm) (a:Trm),dpTs (p++[a])=max (dpTs p) (dpT a):=fun p a=>by
  induction p with
  | nil=>simp [dpTs]
  | cons b r ihp=>simp only [List.cons_append,dpTs,ihp];omega
 refine cv [] [] [] Tryz.func161 30 Tryz.ntmps161 rfl rfl fun cx hE=>brS (fun hz=>⟨I_eq (by omega),rfl⟩) (fun hz=>?_)
 refine loopP t.args (fun p=>[(6,.p (I p.length)),(5,.p (I (min (dpTs p:Int) (max most 0))))]) (fun p=>[]) (fun _=>True) [6,5] [] hE rfl rfl rfl ⟨Sub.refl _,Sub.i (by simp [dpTs];omega),rfl,trivial⟩ trivial (fun _=>fun _=>brTe (And.intro (by omega) ⟨I_eq (by omega),rfl⟩)) (fun p a q hq _=>fun _=>brT' hq (idxT hq (And.intro (by omega) (call0 (ih a (zf hq) _ (by omega) (by omega)) (And.intro ?_ ⟨trivial,Sub.i (by simp),Sub.i (by rw [app];omega),rfl,trivial⟩)))))
 have:=zh hq
 have hel:=zc t.args
 omega
termination_by SizeOf.sizeOf t
decreasing_by exact Trm.lt ha
theorem zyz (ps:Int) (t:Trm) (b:Int):rMay_ ps t b=if t.kind=0/\t.n≥b then 8 else if t.levels.length>4 then 7 else if (t.levels.all fun x=>mayLF x ps)=false then 7
 else if t.kind=2/\(t.name=⟨#[]⟩\/t.name.size>24) then 9 else rMays ps t.kind t.args 0 b:=by cases t;rfl
theorem zek (ps k:Int):∀ (p q:List Trm) (i b:Int),rMays ps k p i b=0->rMays ps k (p++q) i b=rMays ps k q (i+p.length) b
 | [],q,i,b,_=>by simp
 | a :: p,q,i,b,h=>by
   simp only [rMays] at h
   rcases Classical.em (rMay_ ps a (if b<=1073741824 then b+bndF k i else b)≠0) with h1 | h1
   ·rw [if_pos h1] at h;exact absurd h h1
   ·rw [if_neg h1] at h
    simp only [List.cons_append,rMays]
    rw [if_neg h1,zek ps k p q (i+1) b h]
    congr 1
    simp;omega
theorem zq1 (ps:Int) (hp0:-1000000000000<=ps) (hp1:ps<=1000000000000) (t:Trm):∀ b:Int,0<=b->b<=1073741825->PCon Tryz.prog 225 [tv t,.p (I b),.p (I ps)] (.p (I (rMay_ ps t b))):=by
 intro b h0 h1
 have ih:∀ a∈t.args,∀ b:Int,0<=b->b<=1073741825->PCon Tryz.prog 225 [tv a,.p (I b),.p (I ps)] (.p (I (rMay_ ps a b))):=fun a ha b h0 h1=>zq1 ps hp0 hp1 a b h0 h1
 have he:=zyz ps t b
 have hel:=zp t.levels
 have het:=zc t.args
 refine cv [] [1,10,17] [] Tryz.func225 80 Tryz.ntmps225 rfl rfl fun cx hE=>?_
 refine seq0 [(19,.p (B (decide (t.kind=0/\t.n≥b))))] [] [19] [] [] hE rfl rfl rfl ?_ ?_
 ·refine brS (fun h=>⟨Sub.bd (by omega),rfl,trivial⟩) (fun h=>⟨Sub.bf (by omega),rfl,trivial⟩)
 refine brS (fun h2=>⟨I_eq (by rw [he,if_pos h2]),rfl⟩) (fun h2=>?_)
 rw [if_neg h2] at he
 refine fun _=>brS (fun h3=>⟨I_eq (by rw [he,if_pos (by omega)]),rfl⟩) (fun h3=>?_)
 rw [if_neg (by omega)] at he
 refine loopP t.levels (fun p=>[(7,.p (I p.length))]) (fun p=>[]) (fun p=>(p.all fun x=>mayLF x ps)=true) [7] [] hE rfl rfl rfl ⟨Sub.refl _,rfl,trivial⟩ rfl (fun h4=>fun _=>brLe ?_) (fun p a q hq hp=>fun _=>brL hq (idxL hq (call0 (zae a ps hp0 hp1) (brB (fun hb=>⟨I_eq ?_,rfl⟩) (fun hb=>And.intro (by have:=zh hq;omega) ⟨?_,Sub.i (by simp),rfl,trivial⟩)))))
 ·rw [if_neg (by rw [h4];simp)] at he
  refine seq0 [(52,.p (B (decide (t.kind=2/\(t.name=⟨#[]⟩\/t.name.size>24)))))] [] [52] [] [] hE rfl rfl rfl ?_ ?_
  ·refine brS (fun h5=>brS (fun h6=>⟨Sub.bt ⟨h5,.inl h6⟩,rfl,trivial⟩) (fun h6=>⟨Sub.b ?_,rfl,trivial⟩)) (fun h5=>⟨Sub.bf (by simp [h5]),rfl,trivial⟩)
   rw [Bool.eq_iff_iff];simp [h5,h6];omega
  refine brS (fun h5=>⟨I_eq (by rw [he,if_pos h5]),rfl⟩) (fun h5=>?_)
  rw [if_neg h5] at he
  refine loopP t.args (fun p=>[(8,.p (I p.length))]) (fun p=>[]) (fun p=>rMays ps t.kind p 0 b=0) [8] [] hE rfl rfl rfl ⟨Sub.refl _,rfl,trivial⟩ rfl (fun h6=>fun _=>brTe ⟨I_eq (by rw [he,h6]),rfl⟩) (fun p a q hq hp=>fun _=>brT' hq ?_)
  have hlt:=zh hq
  have ebr:=zek ps t.kind p (a::q) 0 b hp
  have enx:=zek ps t.kind p [a] 0 b hp
  rw [<- hq] at ebr
  simp only [rMays,Int.zero_add] at ebr enx
  have hbb:0<=bndF t.kind p.length/\bndF t.kind p.length<=1:=by unfold bndF;split<;>omega
  refine seq0 [(9,.p (I (if b<=1073741824 then b+bndF t.kind p.length else b)))] [] [9] [] [] hE rfl rfl rfl ?_ ?_
  ·refine brS (fun h6=>call0 (z4y _ _) (And.intro (by omega) ⟨Sub.i (by rw [if_pos h6]),rfl,trivial⟩)) (fun h6=>⟨Sub.i (by rw [if_neg h6]),rfl,trivial⟩)
  refine idxT hq (call0 (ih a (zf hq) _ (by split<;>omega) (by split<;>omega)) (brS (fun h7=>⟨I_eq ?_,rfl⟩) (fun h7=>And.intro (by omega) ⟨?_,Sub.i (by simp),rfl,trivial⟩)))
  ·rw [he,ebr,if_pos h7]
  ·rw [enx,if_neg h7]
 ·have hb':mayLF a ps=false:=by simpa using hb
  rw [he,if_pos]
  rw [hq];simp [hb']
 ·have hb':mayLF a ps=true:=by simpa using hb
  rw [List.all_append,hp];simp [hb']
termination_by SizeOf.sizeOf t
decreasing_by exact Trm.lt ha
theorem zq2 (t:Trm) (b ps:Int) (hb0:-1000000000000<=b) (hb1:b<=1000000) (hp0:-1000000000000<=ps) (hp1:ps<=1000000000000):PCon Tryz.prog 199 [tv t,.p (I b),.p (I ps)] (.p (I (rMayF t b ps))):=by
 have he:rMayF t b ps=if rWhT t 1048576=none then 5 else if sizT t>2000 then 3 else if dpT t>100 then 6 else rMay_ ps t (max b 0):=rfl
 refine cv [] [] [] Tryz.func199 27 Tryz.ntmps199 rfl rfl fun cx hE=>call0 (z8h t 1048576 (by omega) (by omega)) ?_
 cases hx:rWhT t 1048576 with
 | none=>exact brT ⟨I_eq (by rw [he,if_pos hx]),rfl⟩
 | some n =>
   rw [if_neg (by rw [hx];simp)] at he
   refine brF (call0 (z7m t 2000 (by omega) (by omega)) (brS (fun h=>⟨I_eq ?_,rfl⟩) (fun h=>call0 (zbf t 100 (by omega) (by omega)) (brS (fun h2=>⟨I_eq ?_,rfl⟩) (fun h2=>call0 (zq1 ps hp0 hp1 t _ (by omega) (by omega)) ⟨I_eq ?_,rfl⟩)))))
   ·unfold mSz at h;rw [he,if_pos (by omega)]
   ·unfold mSz at h;rw [he,if_neg (by omega),if_pos (by omega)]
   ·unfold mSz at h;rw [he,if_neg (by omega),if_neg (by omega)]
def rwS (l:List ByteArray):List (List PV):=l.map fun s=>[St s]
@[simp] theorem zz4j (l:List ByteArray):(rwS l).length=l.length:=by simp [rwS]
theorem ziq:∀ (l:List ByteArray) (s:ByteArray),(insN l s).length<=l.length+1
 | [],s=>by simp [insN]
 | x::r,s=>by
   simp only [insN]
   have:=ziq r s
   repeat' split
   all_goals (simp;try omega)
theorem zir:∀ (p q:List ByteArray) (s:ByteArray),(∀ x∈p,Op.bytesLess x.toList s.toList=true)->insN (p++q) s=p++insN q s
 | [],q,s,_=>rfl
 | a::p,q,s,h=>by
   simp only [List.cons_append,insN]
   rw [if_pos (h a (by simp)),zir p q s (fun x hx=>h x (by simp [hx]))]
theorem zv9 (l:List ByteArray) (s:ByteArray) (hl:l.length<=1000000000):PCon Tryz.prog 234 [.p (.sl 1 (rwS l)),.p (St s)] (.p (.sl 1 (rwS (insN l s)))):=by
 refine cv [33] [] [] Tryz.func234 45 Tryz.ntmps234 rfl rfl fun cx hE=>?_
 have fin:∀ p q,l=p++q->(∀ x∈p,Op.bytesLess x.toList s.toList=true)->(∀ a r,q=a::r->Op.bytesLess a.toList s.toList=false/\¬ a=s)->insN l s=p++s::q:=fun p q h1 h2 h3=>by
  rw [h1,zir p q s h2]
  cases q with
  | nil=>rfl
  | cons a r=>simp only [insN];rw [if_neg (by rw [(h3 a r rfl).1];simp),if_neg (h3 a r rfl).2]
 refine loopP l (fun p=>[(5,.p (I p.length))]) (fun p=>[]) (fun p=>∀ x∈p,Op.bytesLess x.toList s.toList=true) [5] [] hE rfl rfl rfl ⟨Sub.refl _,trivial⟩ (by simp) (fun hp=>fun _=>brOut (by simp) ?_) (fun p a q hq hp=>fun _=>brIn (by simp [hq]) (idxN (z1m (f:=fun s=>[St s]) hq) ?_))
 ·refine fun _=>brOut (by simp) ?_
  refine And.intro (by simp<;>omega) (app2 (by simp) (by simp<;>omega) (by simp<;>omega) (app2 (by simp) (by simp<;>omega) (by simp<;>omega) ?_))
  refine And.intro (by simp<;>omega) (app2 (by simp) (by simp<;>omega) (by simp<;>omega) ⟨?_,rfl⟩)
  rw [fin l [] (by simp) hp (by simp)]
  simp [rwS]
  rw [List.take_of_length_le (by simp),List.drop_of_length_le (by simp)]
 ·refine brB (fun h1=>?_) (fun h1=>?_)
  ·refine And.intro (by have:=zh hq;omega) ⟨?_,Sub.i (by simp),trivial⟩
   intro x hx
   rcases List.mem_append.1 hx with h | h
   ·exact hp x h
   ·rw [List.mem_singleton.1 h];exact h1
  ·refine fun _=>brIn (by simp [hq]) (idxN (z1m (f:=fun s=>[St s]) hq) (brS (fun h2=>⟨?_,rfl⟩) (fun h2=>?_)))
   ·rw [hq,zir p _ s hp];simp only [insN];rw [if_neg (by rw [h1];simp),if_pos h2]
   ·have hlt:=zh hq
    refine And.intro (by simp<;>omega) (app2 (by simp) (by simp<;>omega) (by simp<;>omega) (app2 (by simp) (by simp<;>omega) (by simp<;>omega) ?_))
    refine And.intro (by simp<;>omega) (app2 (by simp) (by simp<;>omega) (by simp<;>omega) ⟨?_,rfl⟩)
    rw [fin p (a::q) hq hp (by simp [h1,h2])]
    simp [rwS,hq]
theorem zva (t:Trm) (acc:List ByteArray):nmsT t acc=nmsTs t.args (if t.kind=2 then insN acc t.name else acc):=by cases t;rfl
mutual
theorem zz0:∀ (t:Trm) (acc:List ByteArray),(nmsT t acc).length<=acc.length+sizT t
 | ⟨k,n,s,ls,l⟩,acc=>by
   rw [zva]
   simp only [sizT]
   have:=zel l (if k=2 then insN acc s else acc)
   have h2:(if k=2 then insN acc s else acc).length<=acc.length+1:=by
    split
    ·exact ziq _ _
    ·omega
   omega
theorem zel:∀ (l:List Trm) (acc:List ByteArray),(nmsTs l acc).length<=acc.length+sizTs l
 | [],acc=>by simp [nmsTs]
 | a::r,acc=>by
   simp only [nmsTs,sizTs]
   have:=zz0 a acc
   have:=zel r (nmsT a acc)
   omega
end
theorem zl4:∀ (p q:List Trm) (acc:List ByteArray),nmsTs (p++q) acc=nmsTs q (nmsTs p acc)
 | [],q,acc=>rfl
 | a::p,q,acc=>by simp only [List.cons_append,nmsTs];exact zl4 p q _
theorem zgs (t:Trm):∀ acc:List ByteArray,acc.length+sizT t<=1000000000->PCon Tryz.prog 226 [tv t,.p (.sl 1 (rwS acc))] (.p (.sl 1 (rwS (nmsT t acc)))):=by
 intro acc hl
 have ih:∀ a∈t.args,∀ acc:List ByteArray,acc.length+sizT a<=1000000000->PCon Tryz.prog 226 [tv a,.p (.sl 1 (rwS acc))] (.p (.sl 1 (rwS (nmsT a acc)))):=fun a ha acc h=>zgs a acc h
 have he:=zva t acc
 have hs:=z6a t
 have het:=zc t.args
 refine cv [] [2] [] Tryz.func226 28 Tryz.ntmps226 rfl rfl fun cx hE=>?_
 refine seq0 [(1,.p (.sl 1 (rwS (if t.kind=2 then insN acc t.name else acc))))] [] [1] [] [] hE rfl rfl rfl ?_ ?_
 ·refine brS (fun h=>call0 (zv9 acc t.name (by omega)) ⟨Sub.eq (by rw [if_pos h];rfl),rfl,trivial⟩) (fun h=>⟨Sub.eq (by rw [if_neg h];rfl),rfl,trivial⟩)
 have h2:(if t.kind=2 then insN acc t.name else acc).length<=acc.length+1:=by
  split
  ·exact ziq _ _
  ·omega
 refine loopP t.args (fun p=>[(5,.p (I p.length)),(1,.p (.sl 1 (rwS (nmsTs p (if t.kind=2 then insN acc t.name else acc)))))]) (fun p=>[]) (fun _=>True) [5,1] [] hE rfl rfl rfl ⟨Sub.refl _,Sub.refl _,rfl,trivial⟩ trivial (fun _=>fun _=>brTe ⟨by rw [he],rfl⟩) (fun p a q hq _=>?_)
 have hlt:=zh hq
 have h3:=zel p (if t.kind=2 then insN acc t.name else acc)
 have h4:=zea hq
 refine fun _=>brT' hq (idxT hq (call0 (ih a (zf hq) _ (by omega)) (And.intro (by omega) ⟨trivial,Sub.i (by simp),Sub.eq ?_,rfl,trivial⟩)))
 rw [zl4];rfl
termination_by SizeOf.sizeOf t
decreasing_by exact Trm.lt ha
theorem zsk (t:Trm) (h:sizT t<=1000000):PCon Tryz.prog 200 [tv t] (.p (.sl 1 (rwS (nmsT t [])))):=by
 refine cv [] [] [] Tryz.func200 5 Tryz.ntmps200 rfl rfl fun cx hE=>call0 (zgs t [] (by simp;omega)) ⟨rfl,rfl⟩
theorem z8i (t:Trm) (s:ByteArray) (h:sizT t<=1000000):PCon Tryz.prog 157 [tv t,.p (St s)] (.p (B (nmdT t s))):=by
 refine cv [] [] [] Tryz.func157 9 Tryz.ntmps157 rfl rfl fun cx hE=>call0 (zsk t h) (call0 (zpv _ s) ⟨rfl,rfl⟩)
def rwP (L:List (List Int)):List (List PV):=L.map fun l=>[.sl 1 (rwI l)]
@[simp] theorem znu (L:List (List Int)):(rwP L).length=L.length:=by simp [rwP]
def kthI (k:Nat):Int:=if k=0 then 0 else if k=1 then 1 else 1000
def extI (l:List Int):List (List Int):=[l++[0],l++[1],l++[1000]]
theorem PS.nil1:PS nilS (.sl 1 (rwI [])):=PS.n
theorem zcl:∀ n:Nat,(plcs n).length=3 ^ n
 | 0=>rfl
 | n + 1=>by
   have h:∀ L:List (List Int),(L.flatMap fun p=>[p++[0],p++[1],p++[1000]]).length=3 * L.length:=fun L=>by
    induction L with
    | nil=>rfl
    | cons l r ih=>simp at ih ⊢;omega
   simp only [plcs,h,zcl n,Nat.pow_succ];omega
theorem zcm:∀ (n:Nat) (l:List Int),l∈plcs n->l.length=n
 | 0,l,h=>by simp [plcs] at h;subst h;rfl
 | n+1,l,h=>by
   simp only [plcs,List.mem_flatMap] at h
   obtain ⟨m,h1,h2⟩:=h
   have h3:=zcm n m h1
   simp only [List.mem_cons,List.not_mem_nil,or_false] at h2
   rcases h2 with rfl | rfl | rfl<;>simp [h3]
theorem zem : PCon Tryz.prog 141 [] (.p (.sl 1 (rwP (plcs 4)))):=by
 refine cv [22] [] [] Tryz.func141 38 Tryz.ntmps141 rfl rfl fun cx hE=>?_
 refine loop1 (fun n:Nat=>[(2,.p (I n)),(1,.p (.sl 1 (rwP (plcs n))))]) (fun _=>[]) (fun n=>n<=4) (fun n=>4-n) 0 [2,1] [] hE rfl rfl rfl ⟨Sub.refl _,?_,trivial⟩ (by omega) fun n hn=>?_
 ·exact Sub.rows ⟨⟨PS.nil1,trivial⟩,trivial⟩
 refine brS (fun h1=>?_) (fun h1=>⟨?_,rfl⟩)
 ·refine tokV 3 503 148 1 hE rfl rfl rfl ?_
  have hlen:=zcl n
  have hpow:3 ^ n<=27:=by
   have:n=0\/n=1\/n=2\/n=3:=by omega
   rcases this with rfl | rfl | rfl | rfl<;>decide
  refine loopP (plcs n) (fun p=>[(4,.p (I p.length)),(3,.ts 503 1 (rwP (p.flatMap extI)))]) (fun p=>[(503,.ar 148 1 (rwP (p.flatMap extI)).length)]) (fun p=>(p.flatMap extI).length=3 * p.length) [4,3] [503] hE rfl rfl rfl ⟨Sub.refl _,Sub.refl _,rfl,trivial⟩ rfl (fun _=>fun _=>brOut (by simp) ?_) (fun p a q hq hp=>fun _=>brIn (by simp [hq]) ?_)
  ·refine And.intro (by omega) ⟨n+1,by omega,by omega,Sub.i (by omega),Sub.tsp rfl,trivial⟩
  ·have hlt:=zh hq
   refine loop1 (fun j:Nat=>[(5,.p (I j)),(3,.ts 503 1 (rwP (p.flatMap extI++(extI a).take j)))]) (fun j=>[(503,.ar 148 1 (rwP (p.flatMap extI++(extI a).take j)).length)]) (fun j=>j<=3) (fun j=>3-j) 0 [5,3] [503] hE rfl rfl rfl ⟨Sub.refl _,Sub.tse (by simp),?_⟩ (by omega) fun j hj=>?_
   ·exact ⟨congrArg (fun z=>Ob.ar 148 1 (rwP z).length) (by simp),trivial⟩
   ·refine brS (fun h2=>?_) (fun h2=>?_)
    ·have hk:([[I 0],[I 1],[I 1000]]:List (List PV))[j]?=some [I (kthI j)]:=by
      have:j=0\/j=1\/j=2:=by omega
      rcases this with rfl | rfl | rfl<;>rfl
     have hal:=zcm n a (zf hq)
     have hext:(extI a).length=3:=rfl
     refine idxN (z1m (f:=fun l=>[.sl 1 (rwI l)]) hq) (app2 (by simp) (by simp<;>omega) (by simp<;>omega) ?_)
     refine idxN hk (app2 (by simp) (by simp<;>omega) (by simp<;>omega) ?_)
     refine app1 ?_ ?_ (And.intro (by omega) ⟨j+1,by omega,by omega,Sub.i (by omega),Sub.tse ?_,?_⟩)
     ·simp only [znu,List.length_append,hp,List.length_take,hext,List.length_cons,List.length_nil];omega
     ·simp only [znu,List.length_append,hp,List.length_take,hext,List.length_cons,List.length_nil];omega
     ·have e:(extI a).take (j+1)=(extI a).take j++[a++[kthI j]]:=by
       have:j=0\/j=1\/j=2:=by omega
       rcases this with rfl | rfl | rfl<;>rfl
      rw [e];simp [rwP,rwI]
     ·refine ⟨?_,trivial⟩
      refine ar_eq ?_
      simp only [znu,List.length_append,hp,List.length_take,hext,List.length_cons,List.length_nil];omega
    ·have hj3:j=3:=by omega
     subst hj3
     have e:(p.flatMap extI++(extI a).take 3)=(p++[a]).flatMap extI:=by simp [extI]
     refine And.intro (by omega) ⟨?_,Sub.i (by simp),Sub.tse (by rw [e]),?_⟩
     ·simp only [List.flatMap_append,List.length_append,hp];simp [extI];omega
     ·exact ⟨congrArg (fun z=>Ob.ar 148 1 (rwP z).length) e,trivial⟩
 ·have:n=4:=by omega
  subst this
  rfl
theorem zsl (ps d:Int) (l:Lvl) (hw:wholL ps l d=true) (hp:prtL l<=1000000):PCon Tryz.prog 158 [lv l] (.p (B (rNevF l))):=by
 have h4:=zcl 4
 refine cv [] [] [] Tryz.func158 19 Tryz.ntmps158 rfl rfl fun cx hE=>call0 zem ?_
 refine loopP (plcs 4) (fun p=>[(4,.p (I p.length))]) (fun p=>[]) (fun p=>(p.all fun p=>decide (¬ rEvF p l=0))=true) [4] [] hE rfl rfl rfl ⟨Sub.refl _,rfl,trivial⟩ rfl (fun hp=>fun _=>brOut (by simp) ⟨B_eq hp.symm,rfl⟩) (fun p a q hq hp2=>fun _=>brIn (by simp [hq]) (idxN (z1m (f:=fun l=>[.sl 1 (rwI l)]) hq) (call0 (zei a (by rw [zcm 4 a (zf hq)];omega) ps l d hw hp) (brS (fun h=>⟨B_eq ?_,rfl⟩) (fun h=>And.intro (by have:=zh hq;omega) ⟨?_,Sub.i (by simp),rfl,trivial⟩)))))
 ·unfold rNevF;rw [hq];simp [h]
 ·rw [List.all_append,hp2];simp [h]
end Go.Ab.YtpneaijfkefeaaaGreat
namespace Go.Ab
open Go Go.RowKit
theorem zen:∀ {l:List Trm} {a:Trm},a∈l->sizT a<=sizTs l
 | b::r,a,h=>by
   simp only [sizTs]
   rcases List.mem_cons.1 h with rfl | h
   ·omega
   ·have:=zen h;omega
theorem zz1 {t a:Trm} (h:a∈t.args):sizT a+1<=sizT t:=by rw [z6a t];have:=zen h;omega
structure Fz (n:Nat) (t:Trm):Prop where
 w:wfT 1099511627776 t=true
 s:sizT t<=n
theorem Fz.sub {n:Nat} {t a:Trm} (h:Fz n t) (ha:a∈t.args):Fz n a:=⟨(zg h.w).sub a ha,by have:=zz1 ha;have:=h.s;omega⟩
theorem Fz.d {n:Nat} {t:Trm} (h:Fz n t):dpT t<=n:=Nat.le_trans (z9a t) h.s
def okT (t:Trm):Bool:=wfT 1099511627776 t&&decide (sizT t<=100000)
theorem z2v {t:Trm} (h:okT t=true):Fz 100000 t:=by
 simp only [okT,Bool.and_eq_true,decide_eq_true_eq] at h;exact ⟨h.1,h.2⟩
theorem Fz.pi {n:Nat}:∀ t:Trm,Fz n t->(∀ x∈piL t,Fz n x)/\Fz n (piE t)
 | t,h=>by
   rcases Classical.em (t.kind=5/\t.args.length=2) with hk | hk
   ·obtain ⟨x,y,ha⟩:=z4p hk.2
    obtain ⟨e1,e2,_⟩:=z2e hk.1 ha
    have hx:=h.sub (a:=x) (by rw [ha];simp)
    have hy:=h.sub (a:=y) (by rw [ha];simp)
    obtain ⟨h1,h2⟩:=Fz.pi y hy
    rw [e1,e2]
    refine ⟨fun z hz=>?_,h2⟩
    rcases List.mem_cons.1 hz with rfl | hz
    ·exact hx
    ·exact h1 z hz
   ·obtain ⟨e1,e2,_⟩:=z2z hk
    rw [e1,e2];exact ⟨by simp,h⟩
termination_by t=>SizeOf.sizeOf t
decreasing_by exact Trm.lt (by rw [ha];simp)
theorem znv (t:Trm):(piL t).length<=sizT t:=by have:=z4q t;have:=z9a t;omega
theorem Fz.spn {n:Nat}:∀ (t:Trm) (acc:List Trm),Fz n t->(∀ a∈acc,Fz n a)->Fz n (spnT t acc).1/\(∀ a∈(spnT t acc).2,Fz n a)/\(spnT t acc).2.length<=acc.length+sizT t
 | ⟨k, m,s,ls,l⟩,acc,h,hacc=>by
   unfold spnT
   split
   ·split
    ·rename_i f a
     have hf:=h.sub (a:=f) (by simp)
     have ha:=h.sub (a:=a) (by simp)
     obtain ⟨h1,h2,h3⟩:=Fz.spn f (a::acc) hf (fun z hz=>by
      rcases List.mem_cons.1 hz with rfl | hz
      ·exact ha
      ·exact hacc z hz)
     refine ⟨h1,h2,?_⟩
     simp only [List.length_cons,sizT,sizTs] at h3 ⊢
     omega
    ·exact ⟨h,hacc,by simp⟩
   ·exact ⟨h,hacc,by simp⟩
theorem Fz.head {n:Nat} {t:Trm} (h:Fz n t):Fz n (headT t):=(Fz.spn t [] h (by simp)).1
theorem Fz.args {n:Nat} {t:Trm} (h:Fz n t):(∀ a∈argsT t,Fz n a)/\(argsT t).length<=sizT t:=by
 have:=Fz.spn t [] h (by simp)
 exact ⟨this.2.1,by simpa [argsT] using this.2.2⟩
def digS (v:Nat):ByteArray:=⟨#[UInt8.ofNat (48+v)]⟩
def digsF:Nat->Nat->Option ByteArray
 | 0,_=>none
 | g+1,v=>if v<10 then some (digS v) else (match digsF g (v / 10) with
   | none=>none
   | some s=>some (s++digS (v % 10)))
def qS:ByteArray:=⟨#[63,63,63,63,63,63,63,63,63,63,63,63,63,63,63,63,63,63,63,63,63,63,63,63,63]⟩
def nextF (k:Nat):Option Trm:=if k<=1000 then (match digsF 20 (k+1) with
 | none=>none
 | some s=>some (cstT (qS++s) [])) else none
def partL (most:Int):Nat->Nat->Trm->List Trm->List Trm->Option (List Trm×List Trm×Trm×Nat)
 | 0,_,_,_,_=>none
 | g + 1,k,t,vs,ts=>if okT t=false then none else if t.kind=5/\(most<0\/(vs.length:Int)<most) then (match nextF k with
     | none=>none
     | some v=>partL most g (k+1) (opnT [v] (t.args.getD 1 zT) 0) (vs++[v]) (ts++[t.args.getD 0 zT]))
   else some (vs,ts,t,k)
def partF (k:Nat) (t:Trm) (most:Int):Option (List Trm×List Trm×Trm×Nat):=partL most 100 k t [] []
mutual
def bndT (s:ByteArray):Trm->Int->Trm
 | ⟨k,n,s',ls,l⟩,d=>if k=2/\s'=s then mkV d else ⟨k,n,s',ls,bndTs s k l 0 d⟩
def bndTs (s:ByteArray) (k:Int):List Trm->Int->Int->List Trm
 | [],_,_=>[]
 | a::r,i,d=>bndT s a (d+bndF k i)::bndTs s k r (i+1) d
end
def pisF:List Trm->List Trm->Trm->Option Trm
 | v::vs,a::as0,t=>(match pisF vs as0 t with
   | none=>none
   | some u=>if okT u=true/\okT a=true then some (mkB 5 a (bndT v.name u 0)) else none)
 | [],[],t=>some t
 | _,_,_=>none
def putsF:List Trm->Trm->Option Trm
 | [],t=>some t
 | p::ps,t=>if okT t=true/\okT p=true/\t.args.length=2 then putsF ps (opnT [p] (t.args.getD 1 zT) 0) else none
def appO (h:Trm) (l:List Trm):Option Trm:=if okT h=true/\(l.all okT)=true/\l.length<=1000 then some (appT h l) else none
def minL (d:Dcl) (c:Trm):List Bool->List Trm->List Trm->Nat->List Trm->List Trm->Option (List Trm×List Trm×Nat)
 | r :: rs,f::fs,t::ts,k,vs,vt=>if r=false then minL d c rs fs ts k vs vt else (match partF k t (-1) with
   | none=>none
   | some (xs,xt,below,k1)=>match nextF k1 with
     | none=>none
     | some v=>match appO c ((argsT below).drop d.count.toNat),appO f xs with
       | some h1,some h2=>if okT h2=true/\okT below=true/\d.count.toNat<=(argsT below).length then (match pisF xs xt (mkA h1 h2) with
         | none=>none
         | some ty=>minL d c rs fs ts (k1+1) (vs++[v]) (vt++[ty])) else none
       | _,_=>none)
 | [],[],[],k,vs,vt=>some (vs,vt,k)
 | _,_,_,_,_,_=>none
def minF (d : Dcl) (x:InfV) (n:Nat) (ps:List Trm) (c:Trm) (k:Nat):Option (Trm×Nat) :=
 match putsF ps (d.ctors.getD n default).ty with
 | none=>none
 | some t0 => match partF k t0 (-1) with
   | none=>none
   | some (fs,ts,e,k1)=>if okT e=true/\d.count.toNat<=(argsT e).length then (match minL d c (x.recs.getD n []) fs ts k1 fs ts with
     | none=>none
     | some (vs,vt,k2)=>match appO (cstT (d.ctors.getD n default).name (parsF d.params.toNat)) ps with
       | none=>none
       | some h1=>match appO h1 fs,appO c ((argsT e).drop d.count.toNat) with
         | some made,some h2=>if okT made=true then (match pisF vs vt (mkA h2 made) with
           | none=>none
           | some ty=>some (ty,k2)) else none
         | _,_=>none) else none
def minsF (d:Dcl) (x:InfV) (ps:List Trm) (c:Trm):Nat->Nat->Nat->List Trm->List Trm->Option (List Trm×List Trm×Nat)
 | 0,_,k,vs,ts=>some (vs,ts,k)
 | m+1,n,k,vs,ts=>(nextF k).bind fun v=>(minF d x n ps c (k+1)).bind fun r=>minsF d x ps c m (n+1) r.2 (vs++[v]) (ts++[r.1])
def sortR (d:Dcl):Trm:=⟨1,0,⟨#[]⟩,[if (lookF d).1.large=true then ⟨4,d.params,[]⟩ else zL],[]⟩
def typeF (d:Dcl):Option (Trm×Int) :=
 if (lookF d).2≠0 then some (zT,(lookF d).2) else
 (partF 0 d.type d.count).bind fun P1=>if P1.1.length=d.count.toNat/\(lookF d).1.recs.length=d.ctors.length then
  (appO (cstT d.name (parsF d.params.toNat)) P1.1).bind fun whole=>(partF P1.2.2.2 P1.2.2.1 (-1)).bind fun P2=>(nextF P2.2.2.2).bind fun v=>(appO whole P2.1).bind fun wi =>
  (pisF [v] [wi] (sortR d)).bind fun m0=>(pisF P2.1 P2.2.1 m0).bind fun motive=>(nextF (P2.2.2.2+1)).bind fun c =>
  (minsF d (lookF d).1 P1.1 c d.ctors.length 0 (P2.2.2.2+2) (P1.1++[c]) (P1.2.1++[motive])).bind fun M=>(partF M.2.2 P1.2.2.1 (-1)).bind fun P3=>(nextF P3.2.2.2).bind fun major =>
  (appO whole P3.1).bind fun wj=>(appO c P3.1).bind fun cj=>(pisF (M.1++P3.1++[major]) (M.2.1++P3.2.1++[wj]) (mkA cj major)).bind fun r=>some (r,0) else none
def ctrDs (d:Dcl):List Ctr->Nat->List Dcl
 | [],_=>[]
 | c::r,i=>⟨4,d.params,i,c.name,d.name,c.ty,zT,[]⟩::ctrDs d r (i+1)
def zgt (d:Dcl):Option (List Dcl×Int) :=
 match typeF d with
 | none=>none
 | some (t,e)=>if e≠0 then some ([],e) else
   some (d::(ctrDs d d.ctors 0++[⟨5,d.params+(if (lookF d).1.large=true then 1 else 0),0,d.name++recS,d.name,t,zT,[]⟩]),0)
def envF:List Dcl->List Dcl->List Dcl
 | acc,[]=>acc
 | acc,d::r=>envF (rAddF acc (if d.kind=3 then (match zgt d with
   | some (x,e)=>if e=0 then x else [d]
   | none=>[d]) else [d])) r
theorem zz25 (s:ByteArray) (t:Trm) (d:Int):bndT s t d=if t.kind=2/\t.name=s then mkV d else ⟨t.kind,t.n,t.name,t.levels,bndTs s t.kind t.args 0 d⟩:=by cases t;rfl
theorem zeo (s:ByteArray) (k:Int):∀ (l:List Trm) (i d:Int),(bndTs s k l i d).length=l.length
 | [],_,_=>rfl
 | a::r,i,d=>by simp [bndTs,zeo s k r]
theorem zl5 (s:ByteArray) (k:Int):∀ (l q:List Trm) (i d:Int),bndTs s k (l++q) i d=bndTs s k l i d++bndTs s k q (i+l.length) d
 | [],q,i,d=>by simp [bndTs]
 | a::r,q,i,d=>by
   simp only [List.cons_append,bndTs,zl5 s k r q (i+1) d]
   congr 3
   simp;omega
theorem zsm (s:ByteArray) (k:Int) (p:List Trm) (a:Trm) (d:Int):bndTs s k (p++[a]) 0 d=bndTs s k p 0 d++[bndT s a (d+bndF k p.length)]:=by
 rw [zl5];simp [bndTs]
theorem zq3 {t:Trm}:∀ (vs as0:List Trm) (u:Trm),pisF vs as0 t=some u->vs.length=as0.length
 | [],[],_,_=>rfl
 | v::vs,a::as0,u,h=>by
   simp only [pisF] at h
   split at h
   ·cases h
   ·rename_i w hw;simp [zq3 vs as0 w hw]
 | [],a::as0,u,h=>by simp [pisF] at h
 | v::vs,[],u,h=>by simp [pisF] at h
theorem zl6 {t:Trm}:∀ (vs as0:List Trm) (u:Trm),pisF vs as0 t=some u->∀ j,∃ w,pisF (vs.drop j) (as0.drop j) t=some w
 | vs,as0,u,h,0=>⟨u,h⟩
 | [],[],u,h,j+1=>⟨t,rfl⟩
 | v::vs,a::as0,u,h,j+1=>by
   simp only [pisF] at h
   split at h
   ·cases h
   ·rename_i w hw;exact zl6 vs as0 w hw j
 | [],a::as0,u,h,j+1=>by simp [pisF] at h
 | v::vs,[],u,h,j+1=>by simp [pisF] at h
theorem zvb {v a t u w:Trm} {vs as0:List Trm} (h:pisF (v::vs) (a::as0) t=some u) (hw:pisF vs as0 t=some w):okT w=true/\okT a=true/\u=mkB 5 a (bndT v.name w 0):=by
 simp only [pisF,hw] at h
 split at h
 ·rename_i hk;cases h;exact ⟨hk.1,hk.2,rfl⟩
 ·cases h
theorem z2x {α β:Type} {o:Option α} {f:α->Option β} {r:β} (h:o.bind f=some r):∃ x,o=some x/\f x=some r:=by
 cases o with
 | none=>cases h
 | some x=>exact ⟨x,rfl,h⟩
theorem zvc {d:Dcl} {t:Trm} {e:Int} (h:typeF d=some (t,e)) (h0:(lookF d).2=0):e=0/\∃ P1 whole P2 v wi m0 motive c M P3 major wj cj,
  partF 0 d.type d.count=some P1/\P1.1.length=d.count.toNat/\(lookF d).1.recs.length=d.ctors.length/\appO (cstT d.name (parsF d.params.toNat)) P1.1=some whole/\partF P1.2.2.2 P1.2.2.1 (-1)=some P2/\nextF P2.2.2.2=some v/\appO whole P2.1=some wi /\
  pisF [v] [wi] (sortR d)=some m0/\pisF P2.1 P2.2.1 m0=some motive/\nextF (P2.2.2.2+1)=some c/\minsF d (lookF d).1 P1.1 c d.ctors.length 0 (P2.2.2.2+2) (P1.1++[c]) (P1.2.1++[motive])=some M /\
  partF M.2.2 P1.2.2.1 (-1)=some P3/\nextF P3.2.2.2=some major/\appO whole P3.1=some wj/\appO c P3.1=some cj/\pisF (M.1++P3.1++[major]) (M.2.1++P3.2.1++[wj]) (mkA cj major)=some t:=by
 unfold typeF at h
 rw [if_neg (by omega)] at h
 obtain ⟨P1,e1,h⟩:=z2x h
 split at h
 ·rename_i hk
  obtain ⟨whole,e2,h⟩:=z2x h
  obtain ⟨P2,e3,h⟩:=z2x h
  obtain ⟨v,e4,h⟩:=z2x h
  obtain ⟨wi,e5,h⟩:=z2x h
  obtain ⟨m0,e6,h⟩:=z2x h
  obtain ⟨motive,e7,h⟩:=z2x h
  obtain ⟨c,e8,h⟩:=z2x h
  obtain ⟨M,e9,h⟩:=z2x h
  obtain ⟨P3,e10,h⟩:=z2x h
  obtain ⟨major,e11,h⟩:=z2x h
  obtain ⟨wj,e12,h⟩:=z2x h
  obtain ⟨cj,e13,h⟩:=z2x h
  obtain ⟨r,e14,h⟩:=z2x h
  cases h
  exact ⟨rfl,P1,whole,P2,v,wi,m0,motive,c,M,P3,major,wj,cj,e1,hk.1,hk.2,e2,e3,e4,e5,e6,e7,e8,e9,e10,e11,e12,e13,e14⟩
 ·cases h
theorem zsn {d:Dcl} {x:InfV} {ps vs ts:List Trm} {c:Trm} {m n k:Nat} {M:List Trm×List Trm×Nat} (h:minsF d x ps c (m+1) n k vs ts=some M):∃ v t k1,nextF k=some v/\minF d x n ps c (k+1)=some (t,k1)/\minsF d x ps c m (n+1) k1 (vs++[v]) (ts++[t])=some M:=by
 unfold minsF at h
 obtain ⟨v,e1,h⟩:=z2x h
 obtain ⟨r,e2,h⟩:=z2x h
 exact ⟨v,r.1,r.2,e1,e2,h⟩
mutual
def trnT (u:Int->Trm->Bool):Trm->Int->Bool
 | ⟨k,n,s,ls,l⟩,d=>if k=0 then u d ⟨k,n,s,ls,l⟩ else trnTs u k l 0 d
def trnTs (u:Int->Trm->Bool) (k:Int):List Trm->Int->Int->Bool
 | [],_,_=>false
 | a::r,i,d=>trnT u a (d+bndF k i) || trnTs u k r (i+1) d
end
theorem zvd (u:Int->Trm->Bool) (t:Trm) (d:Int):trnT u t d=if t.kind=0 then u d t else trnTs u t.kind t.args 0 d:=by cases t;rfl
theorem zl7 (u:Int->Trm->Bool) (k:Int):∀ (l q:List Trm) (i d:Int),trnTs u k (l++q) i d=(trnTs u k l i d || trnTs u k q (i+l.length) d)
 | [],q,i,d=>by simp [trnTs]
 | a::r,q,i,d=>by
   simp only [List.cons_append,trnTs,zl7 u k r q (i+1) d,List.length_cons,Bool.or_assoc]
   rw [show i+1+(r.length:Int)=i+(↑(r.length+1):Int) by push_cast;omega]
theorem z8j (u:Int->Trm->Bool) (k:Int) (p:List Trm) (a:Trm) (d:Int):trnTs u k (p++[a]) 0 d=(trnTs u k p 0 d || trnT u a (d+bndF k p.length)):=by
 rw [zl7];simp [trnTs]
mutual
theorem zve {u:Int->Trm->Bool} {g:Int->Trm->Trm} (h:∀ d v,u d v=false->g d v=v):∀ (t:Trm) (d:Int),trnT u t d=false->trvT g t d=t
 | ⟨k,n,s,ls,l⟩,d,hf=>by
   simp only [trnT] at hf
   simp only [trvT]
   split
   ·rename_i hk;rw [if_pos hk] at hf;exact h _ _ hf
   ·rename_i hk;rw [if_neg hk] at hf;rw [zis h k l 0 d hf]
theorem zis {u:Int->Trm->Bool} {g:Int->Trm->Trm} (h:∀ d v,u d v=false->g d v=v) (k:Int):∀ (l:List Trm) (i d:Int),trnTs u k l i d=false->trvTs g k l i d=l
 | [],_,_,_=>rfl
 | a::r,i,d,hf=>by
   simp only [trnTs,Bool.or_eq_false_iff] at hf
   simp only [trvTs]
   rw [zve h a _ hf.1,zis h k r _ _ hf.2]
end
mutual
theorem zl8 (by_ f:Int):∀ (t:Trm) (d:Int),trvT (lftV by_ f) t d=trvT (lftV by_ 0) t (d+f)
 | ⟨k,n,s,ls,l⟩,d=>by
   simp only [trvT,zgu by_ f k l 0 d]
   split
   ·simp only [lftV]
    rw [show f+d=0+(d+f) by omega]
   ·rfl
theorem zgu (by_ f:Int) (k:Int):∀ (l:List Trm) (i d:Int),trvTs (lftV by_ f) k l i d=trvTs (lftV by_ 0) k l i (d+f)
 | [],_,_=>rfl
 | a::r,i,d=>by
   simp only [trvTs]
   rw [zl8 by_ f a,zgu by_ f k r,show d+bndF k i+f=d+f+bndF k i by omega]
end
def lftU (f:Int) (d:Int) (v:Trm):Bool:=decide (¬ v.n-d<f)
def opnU (d:Int) (v:Trm):Bool:=decide (¬ v.n-d<0)
theorem zz26 (by_ f:Int) (d:Int) (v:Trm) (h:lftU f d v=false):lftV by_ f d v=v:=by
 have h':v.n-d<f:=by simpa [lftU] using h
 unfold lftV;rw [if_neg (by omega)]
theorem zz27 (vs:List Trm) (d:Int) (v:Trm) (h:opnU d v=false):opnV vs d v=v:=by
 have h':v.n<d:=by simpa [opnU] using h
 unfold opnV;rw [if_pos (by omega)]
theorem zep {g:Int->Trm->Trm} {k:Int} {x:Trm}:∀ {l:List Trm} {i d:Int},x∈trvTs g k l i d->∃ a∈l,∃ j:Int,0<=j/\j<=1/\x=trvT g a (d+j)
 | [],_,_,h=>by cases h
 | a :: r,i,d,h=>by
   simp only [trvTs,List.mem_cons] at h
   rcases h with rfl | h
   ·exact ⟨a,by simp,bndF k i,(z6u k i).1,(z6u k i).2,rfl⟩
   ·obtain ⟨b,hb,j,h1,h2,h3⟩:=zep h
    exact ⟨b,by simp [hb],j,h1,h2,h3⟩
theorem zvf {g:Int->Trm->Trm} {b c D:Int} (hbc:b<=c) (hg:∀ d v,0<=d->d<=D->v.kind=0->wfT b v=true->wfT c (g d v)=true):∀ (t:Trm) (d:Int),0<=d->d+dpT t<=D->wfT b t=true->wfT c (trvT g t d)=true
 | t,d,h0,h1,hw=>by
   rw [z9b]
   have hpos:1<=dpT t:=by rw [z5s];omega
   split
   ·rename_i hk;exact hg d t h0 (by omega) hk hw
   ·rename_i hk
    have w:=zg hw
    refine z6e ⟨by simp only [z2l];exact w.args,w.n0,by have:=w.n1;simp only;omega,w.var,w.name,w.sort,w.lev,w.few,w.nar,fun x hx=>?_⟩
    obtain ⟨a,ha,j,g1,g2,rfl⟩:=zep hx
    have:=z1c ha
    exact zvf hbc hg a (d+j) (by omega) (by omega) (w.sub a ha)
termination_by t=>SizeOf.sizeOf t
decreasing_by exact Trm.lt ha
theorem zit {l:List Trm} {m:Nat} (h:∀ a∈l,dpT a<=m):dpTs l<=m:=by
 induction l with
 | nil=>simp [dpTs]
 | cons a r ih =>
   simp only [dpTs]
   have:=h a (by simp)
   have:=ih fun b hb=>h b (by simp [hb])
   omega
theorem zvg {g:Int->Trm->Trm} {M:Nat} (hg:∀ d v,v.kind=0->dpT (g d v)<=dpT v+M):∀ (t:Trm) (d:Int),dpT (trvT g t d)<=dpT t+M
 | t,d=>by
   rw [z9b]
   split
   ·rename_i hk;exact hg d t hk
   ·rw [z5s,z5s t]
    have:dpTs (trvTs g t.kind t.args 0 d)<=dpTs t.args+M:=zit fun x hx=>by
     obtain ⟨a,ha,j,_,_,rfl⟩:=zep hx
     have:=zvg hg a (d+j)
     have:=zie ha
     omega
    simp only;omega
termination_by t=>SizeOf.sizeOf t
decreasing_by exact Trm.lt ha
theorem zl9 {b c by_:Int} (h0:0<=by_) (hc:b+by_<=c) {t:Trm} {d:Int} (hd:0<=d) (hw:wfT b t=true):wfT c (lftT by_ t d)=true:=by
 refine zvf (D:=d+dpT t) (by omega) (fun d' v _ _ hk hv=>?_) t d hd (Int.le_refl _) hw
 have w:=zg hv
 have n0:=w.n0
 have n1:=w.n1
 unfold lftV
 split
 ·exact z6e ⟨w.args,by simp only;omega,by simp only;omega,fun h=>absurd hk h,w.name,w.sort,w.lev,w.few,w.nar,fun a ha=>by have:=w.noargs hk;simp only at ha;rw [this] at ha;cases ha⟩
 ·exact zk (by omega) v hv
theorem zla {by_:Int} (t:Trm) (d:Int):dpT (lftT by_ t d)<=dpT t:=by
 have:=zvg (g:=lftV by_ 0) (M:=0) (fun d v hk=>by unfold lftV;split<;>simp [z5s]) t d
 simpa [lftT] using this
theorem zq4 {b c D:Int} {vs:List Trm} {t:Trm} {d:Int} (hd:0<=d) (hD:d+dpT t<=D) (hc:b+D<=c) (hvs:∀ v∈vs,wfT b v=true) (hw:wfT b t=true):wfT c (opnT vs t d)=true:=by
 have hpos:1<=dpT t:=by rw [z5s];omega
 refine zvf (D:=D) (by omega) (fun d' v g0 g1 hk hv=>?_) t d hd hD hw
 have w:=zg hv
 have n0:=w.n0
 have n1:=w.n1
 unfold opnV
 split
 ·exact zk (by omega) v hv
 ·split
  ·rename_i h1 h2
   have hi:vs.length-1-(v.n-d').toNat<vs.length:=by omega
   rw [List.getD_eq_getElem?_getD,List.getElem?_eq_getElem hi]
   exact zl9 g0 (by omega) (by omega) (hvs _ (List.getElem_mem hi))
  ·exact z6e ⟨w.args,by simp only;omega,by simp only;omega,fun h=>absurd hk h,w.name,w.sort,w.lev,w.few,w.nar,fun a ha=>by have:=w.noargs hk;simp only at ha;rw [this] at ha;cases ha⟩
theorem zlb {M:Nat} {vs:List Trm} (hvs:∀ v∈vs,dpT v<=M) (t:Trm) (d:Int):dpT (opnT vs t d)<=dpT t+M:=by
 refine zvg (fun d v hk=>?_) t d
 have hpos:1<=dpT v:=by rw [z5s];omega
 unfold opnV
 split
 ·omega
 ·split
  ·rename_i h1 h2
   have hi:vs.length-1-(v.n-d).toNat<vs.length:=by omega
   rw [List.getD_eq_getElem?_getD,List.getElem?_eq_getElem hi]
   have:=zla (by_:=d) (vs[vs.length-1-(v.n-d).toNat]) 0
   have:=hvs _ (List.getElem_mem hi)
   simp only [Option.getD_some];omega
  ·simp [z5s]
mutual
theorem zgv (by_:List Lvl):∀ t:Trm,dpT (lvsT by_ t)=dpT t
 | ⟨k,n,s,ls,l⟩=>by simp only [lvsT,dpT];rw [zvh by_ l]
theorem zvh (by_:List Lvl):∀ l:List Trm,dpTs (lvsTs by_ l)=dpTs l
 | []=>rfl
 | a::r=>by simp only [lvsTs,dpTs];rw [zgv by_ a,zvh by_ r]
end
theorem z1f {b:Int} (hb:0<=b) {f a:Trm} (hf:wfT b f=true) (ha:wfT b a=true):wfT b (mkA f a)=true:=by
 refine z6e ⟨by simp [mkA,argF],by simp [mkA],by simpa [mkA] using hb,by simp [mkA],by simp [mkA],by simp [mkA],by simp [mkA],by simp [mkA],by simp [mkA],fun x hx=>?_⟩
 simp only [mkA,List.mem_cons,List.not_mem_nil,or_false] at hx
 rcases hx with rfl | rfl
 ·exact hf
 ·exact ha
theorem zvi {b:Int} (hb:0<=b):∀ {l:List Trm} {t:Trm},wfT b t=true->(∀ a∈l,wfT b a=true)->wfT b (appT t l)=true
 | [],t,ht,_=>ht
 | a::r,t,ht,hl=>zvi hb (l:=r) (z1f hb ht (hl a (by simp))) fun x hx=>hl x (by simp [hx])
theorem zvj {M:Nat}:∀ {l:List Trm} {t:Trm},(∀ a∈l,dpT a<=M)->dpT (appT t l)<=max (dpT t) M+l.length
 | [],t,_=>by simp [appT];omega
 | a :: r,t,hl=>by
   have h1:=zvj (M:=M) (l:=r) (t:=mkA t a) fun x hx=>hl x (by simp [hx])
   have h2:dpT (mkA t a)<=max (dpT t) M+1:=by
    have:=hl a (by simp)
    simp only [mkA,dpT,dpTs];omega
   simp only [appT,List.length_cons];omega
mutual
def occT:Trm->Int->Nat
 | ⟨k,n,s,ls,l⟩,i=>if k=0 then (if n=i then 1 else 0) else occTs k l 0 i
def occTs (k:Int):List Trm->Int->Int->Nat
 | [],_,_=>0
 | a::r,j,i=>occT a (i+bndF k j)+occTs k r (j+1) i
end
mutual
theorem zvk {g:Int->Trm->Trm} (h:∀ d v,v.kind=0->sizT (g d v)=sizT v):∀ (t:Trm) (d:Int),sizT (trvT g t d)=sizT t
 | ⟨k,n,s,ls,l⟩,d=>by
   simp only [trvT]
   split
   ·rename_i hk;exact h d _ hk
   ·simp only [sizT];rw [zq5 h k l 0 d]
theorem zq5 {g:Int->Trm->Trm} (h:∀ d v,v.kind=0->sizT (g d v)=sizT v) (k:Int):∀ (l:List Trm) (i d:Int),sizTs (trvTs g k l i d)=sizTs l
 | [],_,_=>rfl
 | a::r,i,d=>by simp only [trvTs,sizTs];rw [zvk h a,zq5 h k r]
end
theorem znw (by_:Int) (t:Trm) (d:Int):sizT (lftT by_ t d)=sizT t:=zvk (fun d v hk=>by unfold lftV;split<;>simp [z6a]) t d
mutual
theorem zvl {b:Int} (v:Trm):∀ (t:Trm) (d:Int),wfT b t=true->(sizT (opnT [v] t d):Int)=sizT t+occT t d * ((sizT v:Int)-1)
 | ⟨k, n,s,ls,l⟩,d,hw=>by
   by_cases hk:k=0
   ·have hv:=(zg hw).var_args hk
    simp only [Trm.mk.injEq] at hv
    obtain ⟨_,_,hs,hls,hl⟩:=hv
    subst hk hs hls hl
    simp only [opnT,trvT,if_true,opnV,occT]
    by_cases h1:n<d
    ·rw [if_pos h1,if_neg (by omega)];simp
    ·rw [if_neg h1]
     by_cases h2:n=d
     ·rw [if_pos (by simp;omega),if_pos h2,znw,show (n-d).toNat=0 by omega]
      simp [sizT,sizTs];omega
     ·rw [if_neg (by simp;omega),if_neg h2];simp [sizT]
   ·have ih:=zq6 v k l 0 d (wfTs_iff.2 (zg hw).sub)
    simp only [opnT,trvT,hk,if_false,sizT,occT]
    push_cast
    rw [ih];omega
theorem zq6 {b:Int} (v:Trm) (k:Int):∀ (l:List Trm) (i d:Int),wfTs b l=true->(sizTs (trvTs (opnV [v]) k l i d):Int)=sizTs l+occTs k l i d * ((sizT v:Int)-1)
 | [],_,_,_=>by simp [trvTs,sizTs,occTs]
 | a::r,i,d,hw=>by
   simp only [wfTs,Bool.and_eq_true] at hw
   have h1:=zvl v a (d+bndF k i) hw.1
   have h2:=zq6 v k r (i+1) d hw.2
   simp only [opnT] at h1
   simp only [trvTs,sizTs,occTs]
   push_cast
   rw [h1,h2,Int.add_mul];omega
end
mutual
def cntT (m:Int):Trm->Int->Int->Int->Int×Int
 | ⟨k,n,s,ls,l⟩,i,p,u=>if p+1>m then (p+1,u) else cntTs m k l 0 i (p+1) (if k=0/\n=i then u+1 else u)
def cntTs (m k:Int):List Trm->Int->Int->Int->Int->Int×Int
 | [],_,_,p,u=>(p,u)
 | a::r,j,i,p,u=>if (cntT m a (i+bndF k j) p u).1>m then cntT m a (i+bndF k j) p u else cntTs m k r (j+1) i (cntT m a (i+bndF k j) p u).1 (cntT m a (i+bndF k j) p u).2
end
theorem zz28 (m:Int) (t:Trm) (i p u:Int):cntT m t i p u=if p+1>m then (p+1,u) else cntTs m t.kind t.args 0 i (p+1) (if t.kind=0/\t.n=i then u+1 else u):=by cases t;rfl
theorem zlc (m k:Int):∀ (l q:List Trm) (j i p u:Int),(cntTs m k l j i p u).1<=m->cntTs m k (l++q) j i p u=cntTs m k q (j+l.length) i (cntTs m k l j i p u).1 (cntTs m k l j i p u).2
 | [],q,j,i,p,u,_=>by simp [cntTs]
 | a :: r,q,j,i,p,u,h=>by
   simp only [List.cons_append,cntTs] at h ⊢
   split
   ·rename_i hc;rw [if_pos hc] at h;omega
   ·rename_i hc
    rw [if_neg hc] at h
    rw [zlc m k r q _ _ _ _ h]
    simp only [List.length_cons]
    rw [show j+1+(r.length:Int)=j+(↑(r.length+1):Int) by push_cast;omega]
mutual
theorem ziu {b:Int} (m:Int):∀ (t:Trm) (i p u:Int),wfT b t=true->p<=m->(p+sizT t<=m->cntT m t i p u=(p+sizT t,u+occT t i))/\(p+sizT t>m->(cntT m t i p u).1>m)
 | ⟨k, n,s,ls,l⟩,i,p,u,hw,hp=>by
   simp only [cntT,sizT]
   by_cases h1:p+1>m
   ·rw [if_pos h1]
    exact ⟨fun h=>by push_cast at h;omega,fun _=>h1⟩
   ·rw [if_neg h1]
    have ih:=zld m k l 0 i (p+1) (if k=0/\n=i then u+1 else u) (wfTs_iff.2 (zg hw).sub) (by omega)
    refine ⟨fun h=>?_,fun h=>ih.2 (by push_cast at h;omega)⟩
    rw [ih.1 (by push_cast at h;omega)]
    simp only [occT]
    by_cases hk:k=0
    ·have hv:=(zg hw).noargs hk
     simp only at hv
     subst hv hk
     by_cases hn:n=i<;>simp [hn,occTs,sizTs]
    ·simp [hk];omega
theorem zld {b:Int} (m k:Int):∀ (l:List Trm) (j i p u:Int),wfTs b l=true->p<=m->(p+sizTs l<=m->cntTs m k l j i p u=(p+sizTs l,u+occTs k l j i))/\(p+sizTs l>m->(cntTs m k l j i p u).1>m)
 | [],j,i,p,u,_,hp=>by simp only [cntTs,sizTs,occTs];exact ⟨fun _=>by simp,fun h=>by simp at h;omega⟩
 | a :: r,j,i,p,u,hw,hp=>by
   simp only [wfTs,Bool.and_eq_true] at hw
   have h1:=ziu m a (i+bndF k j) p u hw.1 hp
   simp only [cntTs,sizTs,occTs]
   by_cases hc:p+sizT a<=m
   ·rw [h1.1 hc,if_neg (by simp only;omega)]
    have h2:=zld m k r (j+1) i (p+sizT a) (u+occT a (i+bndF k j)) hw.2 hc
    refine ⟨fun h=>?_,fun h=>h2.2 (by push_cast at h;omega)⟩
    simp only
    rw [h2.1 (by push_cast at h;omega)]
    push_cast;congr 1<;>omega
   ·have h3:=h1.2 (by omega)
    rw [if_pos h3]
    exact ⟨fun h=>by push_cast at h;omega,fun _=>h3⟩
end
structure Gd (t:Trm):Prop where
 w:wfT 1099511627776 t=true
 d:dpT t<=268435456
def gdT (t:Trm):Bool:=wfT 1099511627776 t&&decide (dpT t<=268435456)
theorem gdT_iff {t:Trm}:gdT t=true↔Gd t:=by
 simp only [gdT,Bool.and_eq_true,decide_eq_true_eq];exact ⟨fun h=>⟨h.1,h.2⟩,fun h=>⟨h.w,h.d⟩⟩
theorem Gd.sub {t a:Trm} (h:Gd t) (ha:a∈t.args):Gd a:=⟨(zg h.w).sub a ha,by have:=z1c ha;have:=h.d;omega⟩
theorem zT_gd:Gd zT:=⟨rfl,by decide⟩
theorem Gd.spn:∀ (t:Trm) (acc:List Trm),Gd t->(∀ a∈acc,Gd a)->Gd (spnT t acc).1/\(∀ a∈(spnT t acc).2,Gd a)/\(spnT t acc).2.length+dpT (spnT t acc).1<=acc.length+dpT t
 | ⟨k, n,s,ls,l⟩,acc,h,ha=>by
   rw [spnT.eq_def]
   simp only
   split
   ·rename_i hk
    match l,h with
    | [f,a],h =>
      have hf:Gd f:=h.sub (by simp)
      have:=Gd.spn f (a::acc) hf (fun x hx=>by rcases List.mem_cons.1 hx with rfl | hx;exact h.sub (by simp);exact ha x hx)
      refine ⟨this.1,this.2.1,Nat.le_trans this.2.2 ?_⟩
      have:=z1c (t:=⟨k,n,s,ls,[f,a]⟩) (a:=f) (by simp)
      simp;omega
    | [],h=>exact ⟨h,ha,by simp⟩
    | [_],h=>exact ⟨h,ha,by simp⟩
    | _::_::_::_,h=>exact ⟨h,ha,by simp⟩
   ·exact ⟨h,ha,by simp⟩
termination_by t=>SizeOf.sizeOf t
theorem Gd.head {t:Trm} (h:Gd t):Gd (headT t):=(Gd.spn t [] h (by simp)).1
theorem Gd.args {t:Trm} (h:Gd t):(∀ a∈argsT t,Gd a)/\(argsT t).length<=268435456:=by
 have:=Gd.spn t [] h (by simp)
 refine ⟨this.2.1,?_⟩
 have h2:=this.2.2
 have:=h.d
 unfold argsT;simp at h2;omega
theorem Gd.getD {l:List Trm} (h:∀ a∈l,Gd a) (i:Nat):Gd (l.getD i zT):=by
 rw [List.getD_eq_getElem?_getD]
 cases hl:l[i]? with
 | none=>exact zT_gd
 | some x=>exact h x (List.mem_of_getElem? hl)
mutual
theorem zvm:∀ (t:Trm) (i:Int),occT t i<=sizT t
 | ⟨k,n,s,ls,l⟩,i=>by
   simp only [occT,sizT]
   have:=zvn k l 0 i
   split
   ·split<;>omega
   ·omega
theorem zvn (k:Int):∀ (l:List Trm) (j i:Int),occTs k l j i<=sizTs l
 | [],_,_=>Nat.le_refl _
 | a::r,j,i=>by simp only [occTs,sizTs];have:=zvm a (i+bndF k j);have:=zvn k r (j+1) i;omega
end
theorem zvo {b:Int} {m:Int} {t:Trm} {i p u:Int} (hw:wfT b t=true) (h0:0<=p) (h1:p<=m) (h2:0<=u) (h3:u<=p) (hc:(cntT m t i p u).1<=m):0<=(cntT m t i p u).1/\0<=(cntT m t i p u).2/\(cntT m t i p u).2<=(cntT m t i p u).1:=by
 have hs:=ziu m t i p u hw h1
 by_cases h:p+sizT t<=m
 ·have:=zvm t i
  rw [hs.1 h];simp only;omega
 ·have:=hs.2 (by omega);omega
theorem zq7:∀ (l:List Trm) (t:Trm),sizT t<=sizT (appT t l)
 | [],t=>Nat.le_refl _
 | a::r,t=>by
   have:=zq7 r (mkA t a)
   have h2:sizT (mkA t a)=sizT t+sizT a+1:=by simp [mkA,sizT,sizTs]
   simp only [appT];omega
def mdF (c f:Int) (u:Trm):Option OR :=
 if f<=0 then some (zT,false,f,11)
 else if gdT u=true then (if fitsT c u=true then some (u,true,f-1,0) else some (zT,false,f-1,12))
 else none
def onF (ds : List Dcl) (c:Int) (wh:Trm->Int->Option WR) (t:Trm) (f:Int):Option OR :=
 if (headT t).kind=4/\argsT t≠[] then mdF c f (appT (opnT [(argsT t).getD 0 zT] ((headT t).args.getD 1 zT) 0) ((argsT t).drop 1))
 else if (headT t).kind=6 then mdF c f (appT (opnT [(headT t).args.getD 1 zT] ((headT t).args.getD 2 zT) 0) (argsT t))
 else if (headT t).kind=2 then (match findD ds (headT t).name with
  | none=>some (t,false,f,0)
  | some d=>if d.kind=2/\d.params=(headT t).levels.length then mdF c f (appT (lvsT (headT t).levels d.value) (argsT t))
    else (match z1y ds (headT t) with
     | none=>some (t,false,f,0)
     | some r=>if r.major<(argsT t).length then (match wh ((argsT t).getD r.major zT) f with
       | none=>none
       | some (m,f',e)=>if e≠0 then some (zT,false,f',e) else (match iotaF ds t m with
         | some u=>mdF c f' u
         | none=>some (t,false,f',0))) else some (t,false,f,0)))
 else some (t,false,f,0)
def whF (ds:List Dcl) (c:Int):Nat->Trm->Int->Option WR
 | 0,_,_=>none
 | g+1,t,f=>match onF ds c (whF ds c g) t f with
   | none=>none
   | some (u,did,f',e)=>if e≠0 then some (zT,f',e) else if did=true then whF ds c g u f' else some (u,f',0)
def iotR (r:RecI) (h:Trm) (args:List Trm) (major:Trm):Option Trm :=
 if (headT major).kind=2 then (match z2c r.fam.ctors (headT major).name with
  | none=>none
  | some k=>if (argsT major).length=r.p+((piL (r.fam.ctors.getD k default).ty).length-r.p) then
     some (appT (hypsF r h args ((piL (r.fam.ctors.getD k default).ty).drop r.p) [] ((argsT major).drop r.p)
      (appT (args.getD (r.p+1+k) zT) ((argsT major).drop r.p))) (args.drop (r.major+1)))
    else none) else none
theorem zag (ds:List Dcl) (t major:Trm):iotaF ds t major=(z1y ds (headT t)).bind fun r=>if r.major<(argsT t).length then iotR r (headT t) (argsT t) major else none:=by
 unfold iotaF iotR
 cases z1y ds (headT t) with
 | none=>rfl
 | some r =>
   simp only [Option.bind_some]
   by_cases h1:r.major<(argsT t).length
   ·by_cases h2:(headT major).kind=2
    ·simp only [if_pos (And.intro h1 h2),if_pos h1,if_pos h2];rfl
    ·simp [h1,h2]
   ·simp [h1]
theorem zz04 (vs:List Trm):∀ (t:Trm) (d:Int),(piE t).kind≠0->(piL (opnT vs t d)).length=(piL t).length
 | ⟨k, n,s,ls,l⟩,d,h=>by
   by_cases hk:k=5/\l.length=2
   ·obtain ⟨hk5,hl⟩:=hk
    obtain ⟨x,y,rfl⟩:=z4p hl
    subst hk5
    have hp:=z2e (u:=⟨5,n,s,ls,[x,y]⟩) rfl rfl
    have ho:opnT vs ⟨5,n,s,ls,[x,y]⟩ d=⟨5,n,s,ls,[opnT vs x (d+bndF 5 0),opnT vs y (d+bndF 5 1)]⟩:=by
     simp [opnT,trvT,trvTs]
    have hp2:=z2e (u:=opnT vs ⟨5,n,s,ls,[x,y]⟩ d) (x:=opnT vs x (d+bndF 5 0)) (y:=opnT vs y (d+bndF 5 1)) (by rw [ho]) (by rw [ho])
    rw [hp2.1,hp.1,List.length_cons,List.length_cons,zz04 vs y _ (by rw [<- hp.2.1];exact h)]
   ·have hp:=z2z (u:=⟨k,n,s,ls,l⟩) hk
    rw [hp.2.1] at h
    have h0:k≠0:=h
    have ho:opnT vs ⟨k,n,s,ls,l⟩ d=⟨k,n,s,ls,trvTs (opnV vs) k l 0 d⟩:=by simp [opnT,trvT,h0]
    have hp2:=z2z (u:=opnT vs ⟨k,n,s,ls,l⟩ d) (by rw [ho];simp only [z2l];exact hk)
    rw [hp2.1,hp.1]
termination_by t=>SizeOf.sizeOf t
theorem zq8 (by_:List Lvl) (t:Trm):(lvsT by_ t).kind=t.kind/\(lvsT by_ t).args=t.args.map (lvsT by_):=by
 rw [zb6];exact ⟨rfl,by simp [z4g]⟩
theorem zvp (by_:List Lvl):∀ t:Trm,(piL (lvsT by_ t)).length=(piL t).length/\piE (lvsT by_ t)=lvsT by_ (piE t)
 | t => by
   obtain ⟨e1,e2⟩:=zq8 by_ t
   by_cases hk:t.kind=5/\t.args.length=2
   ·obtain ⟨x,y,ha⟩:=z4p hk.2
    have hp:=z2e hk.1 ha
    have hp2:=z2e (u:=lvsT by_ t) (x:=lvsT by_ x) (y:=lvsT by_ y) (by rw [e1];exact hk.1) (by rw [e2,ha];rfl)
    have ih:=zvp by_ y
    rw [hp2.1,hp.1,hp2.2.1,hp.2.1,List.length_cons,List.length_cons,ih.1,ih.2]
    exact ⟨rfl,rfl⟩
   ·have hp:=z2z hk
    have hp2:=z2z (u:=lvsT by_ t) (by rw [e1,e2,List.length_map];exact hk)
    rw [hp2.1,hp.1,hp2.2.1,hp.2.1]
    exact ⟨rfl,rfl⟩
termination_by t=>SizeOf.sizeOf t
decreasing_by exact Trm.lt (by rw [ha];simp)
theorem zvq (by_:List Lvl) (t:Trm):(lvsT by_ t).kind=t.kind:=(zq8 by_ t).1
theorem zvr {t:Trm} (h:(headT t).kind=2):t.kind≠0:=by
 intro h0
 obtain ⟨k,n,s,ls,l⟩:=t
 simp only at h0
 subst h0
 unfold headT at h;rw [spnT.eq_def] at h;simp at h
theorem zvs (vs:List Trm) (by_:List Lvl) (field:Trm) (h:(headT (piE field)).kind=2):(piL (opnT vs (lvsT by_ field) 0)).length=(piL field).length:=by
 have h1:=zvp by_ field
 rw [zz04 vs _ 0 (by rw [h1.2,zvq];exact zvr h),h1.1]
theorem z7o:∀ {l:List Ctr} {s:ByteArray} {k:Nat},z2c l s=some k->k<l.length/\(l.getD k default).name=s
 | [],s,k,h=>by cases h
 | c :: r,s,k,h=>by
   simp only [z2c] at h
   split at h
   ·cases h;rename_i hn;exact ⟨by simp,by simpa using hn⟩
   ·cases hc:z2c r s with
    | none=>rw [hc] at h;cases h
    | some j =>
      rw [hc] at h
      simp only [Option.map_some,Option.some.injEq] at h
      subst h
      have:=z7o hc
      exact ⟨by simp;omega,by simpa using this.2⟩
theorem z8k {p q:List Ctr} {s:ByteArray} (h:z2c p s=none):z2c (p++q) s=(z2c q s).map (·+p.length):=by
 induction p with
 | nil=>cases hc:z2c q s<;>simp [hc]
 | cons c r ih =>
   simp only [z2c] at h
   split at h
   ·cases h
   ·rename_i hn
    have hr:z2c r s=none:=by cases hc:z2c r s with | none=>rfl | some j=>rw [hc] at h;cases h
    simp only [List.cons_append,z2c,if_neg hn,ih hr,Option.map_map,List.length_cons]
    cases z2c q s<;>simp [Nat.add_assoc]
theorem zvt {b:Int}:∀ (t:Trm) (i:Nat),wfT b t=true->i<(piL t).length->∃ x y,(piL t)[i]?=some x/\(piD i t).kind=5/\(piD i t).args=[x,y]/\piD (i+1) t=y/\wfT b x=true/\dpT x<=dpT t
 | t,i,hw,hi=>by
   by_cases hk:t.kind=5/\t.args.length=2
   ·obtain ⟨x,y,ha⟩:=z4p hk.2
    have hp:=z2e hk.1 ha
    have hx:=z1c (t:=t) (a:=x) (by rw [ha];simp)
    have hy:=z1c (t:=t) (a:=y) (by rw [ha];simp)
    cases i with
    | zero=>exact ⟨x,y,by rw [hp.1];rfl,hk.1,ha,by rw [hp.2.2];cases y;rfl,(zg hw).sub x (by rw [ha];simp),by omega⟩
    | succ i =>
      rw [hp.1,List.length_cons] at hi
      obtain ⟨x',y',g1,g2,g3,g4,g5,g6⟩:=zvt y i ((zg hw).sub y (by rw [ha];simp)) (by omega)
      exact ⟨x',y',by rw [hp.1];exact g1,by rw [hp.2.2];exact g2,by rw [hp.2.2];exact g3,by rw [hp.2.2];exact g4,g5,by omega⟩
   ·rw [(z2z hk).1] at hi;simp at hi
termination_by t=>SizeOf.sizeOf t
decreasing_by exact Trm.lt (by rw [ha];simp)
def addH (out:Trm):Option Trm->Trm
 | some x=>mkA out x
 | none=>out
theorem zbg (r:RecI) (h:Trm) (args:List Trm) (f b:Trm):∀ (fs q ahead:List Trm) (out:Trm),fs.length=q.length->hypsF r h args (fs++[f]) ahead (q++[b]) out=addH (hypsF r h args fs ahead q out) (hypF r h args f (ahead++q) b)
 | [],[],ahead,out,_=>by
   simp only [List.nil_append,hypsF,List.append_nil]
   cases hypF r h args f ahead b<;>rfl
 | g::fs,c::q,ahead,out,hl=>by
   simp only [List.cons_append,hypsF]
   rw [zbg r h args f b fs q (ahead++[c]) _ (by simpa using hl)]
   simp
 | [],_::_,_,_,hl=>by cases hl
 | _::_,[],_,_,hl=>by cases hl
def Fu (f f':Int):Prop:=f'=f\/0<=f'/\f'<=f
theorem Fu.refl (f:Int):Fu f f:=.inl rfl
theorem Fu.trans {a b c:Int} (h:Fu a b) (k:Fu b c):Fu a c:=by unfold Fu at *;omega
theorem zah {c f:Int} {u u':Trm} {did:Bool} {f' e:Int} (h:mdF c f u=some (u',did,f',e)):Gd u'/\Fu f f':=by
 unfold mdF at h
 split at h
 ·cases h;exact ⟨zT_gd,.inl rfl⟩
 ·rename_i hf
  split at h
  ·rename_i hg
   split at h
   ·cases h;exact ⟨gdT_iff.1 hg,.inr (by omega)⟩
   ·cases h;exact ⟨zT_gd,.inr (by omega)⟩
  ·cases h
theorem zai {ds : List Dcl} {c:Int} {wh:Trm->Int->Option WR} (hw:∀ t f u f' e,Gd t->wh t f=some (u,f',e)->Gd u/\Fu f f') {t:Trm} {f:Int} (hg:Gd t) {u:Trm} {did:Bool} {f' e:Int} (h:onF ds c wh t f=some (u,did,f',e)):Gd u/\Fu f f':=by
 unfold onF at h
 split at h
 ·exact zah h
 ·split at h
  ·exact zah h
  ·split at h
   ·split at h
    ·cases h;exact ⟨hg,.inl rfl⟩
    ·split at h
     ·exact zah h
     ·split at h
      ·cases h;exact ⟨hg,.inl rfl⟩
      ·rename_i r hr
       split at h
       ·split at h
        ·cases h
        ·rename_i m f1 e1 hm
         have h1:=hw _ _ _ _ _ (Gd.getD hg.args.1 _) hm
         split at h
         ·cases h;exact ⟨zT_gd,h1.2⟩
         ·split at h
          ·have h2:=zah h
           exact ⟨h2.1,h1.2.trans h2.2⟩
          ·cases h;exact ⟨hg,h1.2⟩
       ·cases h;exact ⟨hg,.inl rfl⟩
   ·cases h;exact ⟨hg,.inl rfl⟩
theorem z1u {ds:List Dcl} {c:Int}:∀ (g:Nat) (t:Trm) (f:Int) (u:Trm) (f' e:Int),Gd t->whF ds c g t f=some (u,f',e)->Gd u/\Fu f f'
 | 0,_,_,_,_,_,_,h=>by cases h
 | g + 1,t,f,u,f',e,hg,h=>by
   simp only [whF] at h
   split at h
   ·cases h
   ·rename_i u1 did f1 e1 ho
    have h1:=zai (fun t f u f' e=>z1u g t f u f' e) hg ho
    split at h
    ·cases h;exact ⟨zT_gd,h1.2⟩
    ·split at h
     ·have h2:=z1u g u1 f1 u f' e h1.1 h
      exact ⟨h2.1,h1.2.trans h2.2⟩
     ·cases h;exact h1
theorem zcn {c f:Int} {u u':Trm} {f':Int} (h:mdF c f u=some (u',false,f',0)):False:=by
 unfold mdF at h
 split at h
 ·cases h
 ·split at h
  ·split at h<;>cases h
  ·cases h
theorem zco {ds : List Dcl} {c:Int} {wh:Trm->Int->Option WR} {t:Trm} {f:Int} {u:Trm} {f':Int} (h:onF ds c wh t f=some (u,false,f',0)):u=t:=by
 unfold onF at h
 split at h
 ·exact (zcn h).elim
 ·split at h
  ·exact (zcn h).elim
  ·split at h
   ·split at h
    ·cases h;rfl
    ·split at h
     ·exact (zcn h).elim
     ·split at h
      ·cases h;rfl
      ·split at h
       ·split at h
        ·cases h
        ·split at h
         ·rename_i he
          simp only [Option.some.injEq,Prod.mk.injEq] at h
          exact absurd h.2.2.2 he
         ·split at h
          ·exact (zcn h).elim
          ·cases h;rfl
       ·cases h;rfl
   ·cases h;rfl
theorem z6g {ds:List Dcl} {h:Trm} {r:RecI} (hr:z1y ds h=some r):r.fam∈ds/\r.p+1+r.fam.ctors.length<=r.major:=by
 unfold z1y at hr
 split at hr
 ·split at hr
  ·cases hr
  ·split at hr
   ·split at hr
    ·cases hr
    ·rename_i f hf
     split at hr
     ·cases hr;exact ⟨List.mem_of_find?_eq_some hf,by simp only;omega⟩
     ·cases hr
   ·cases hr
 ·cases hr
theorem zz29 {b:Int} (hb:b<=1073741824) {t:Trm} (h:wfT b t=true):wholP t=true:=by
 have w:=zg h
 have h1:=w.args;have h2:=w.n0;have h3:=w.n1;have h4:=w.var;have h5:=w.name;have h6:=w.sort;have h7:=w.lev
 unfold wholP
 simp only [Bool.and_eq_true,decide_eq_true_eq]
 refine ⟨h1,fun _=>⟨h2,by omega⟩,h4,h5,?_⟩
 split
 ·rename_i hk;simpa using h6 hk
 ·rename_i hk
  simp only [decide_eq_true_eq]
  by_cases h2':t.kind=2
  ·exact .inl h2'
  ·exact .inr (h7 hk h2')
mutual
theorem zz05 {b:Int} (hb:b<=1073741824) (most:Int):∀ (t:Trm) (n:Int),wfT b t=true->n+sizT t<=most->thrT most t n=(true,n+sizT t)
 | ⟨k,m,s,ls,l⟩,n,h,hs=>by
   have hw:=zz29 hb h
   simp only [sizT] at hs ⊢
   simp only [thrT]
   rw [if_neg (by push_cast at hs;omega),if_pos hw,zvu hb most l (n+1) (wfTs_iff.2 (zg h).sub) (by push_cast at hs;omega)]
   push_cast;congr 1;omega
theorem zvu {b:Int} (hb:b<=1073741824) (most:Int):∀ (l:List Trm) (n:Int),wfTs b l=true->n+sizTs l<=most->thrTs most l n=(true,n+sizTs l)
 | [],n,_,_=>by simp [thrTs,sizTs]
 | a::r,n,h,hs=>by
   simp only [wfTs,Bool.and_eq_true] at h
   simp only [sizTs] at hs ⊢
   push_cast at hs
   simp only [thrTs]
   rw [zz05 hb most a n h.1 (by omega)]
   simp only [if_true]
   rw [if_neg (by omega),zvu hb most r _ h.2 (by omega)]
   push_cast;congr 1;omega
end
theorem zeq {b:Int} (hb:b<=1073741824) {t:Trm} (h:wfT b t=true) (hs:sizT t<=1048576):okW t=true:=by
 unfold okW
 rw [zz05 hb 1048576 t 0 h (by omega)]
 simp;omega
structure Wd (b:Int) (m:Nat) (t:Trm):Prop where
 w:wfT b t=true
 d:dpT t<=m
theorem Wd.mono {b c:Int} {m k:Nat} {t:Trm} (h:Wd b m t) (hb:b<=c) (hm:m<=k):Wd c k t:=⟨zk hb t h.w,Nat.le_trans h.d hm⟩
theorem Wd.sub {b:Int} {m:Nat} {t a:Trm} (h:Wd b m t) (ha:a∈t.args):Wd b m a:=⟨(zg h.w).sub a ha,by have:=z1c ha;have:=h.d;omega⟩
theorem Wd.spn {b:Int} {m:Nat}:∀ (t:Trm) (acc:List Trm),Wd b m t->(∀ a∈acc,Wd b m a)->Wd b m (spnT t acc).1/\(∀ a∈(spnT t acc).2,Wd b m a)/\(spnT t acc).2.length+dpT (spnT t acc).1<=acc.length+dpT t
 | ⟨k, n,s,ls,l⟩,acc,h,ha=>by
   rw [spnT.eq_def]
   simp only
   split
   ·rename_i hk
    match l,h with
    | [f,a],h =>
      have:=Wd.spn f (a::acc) (h.sub (by simp)) (fun x hx=>by rcases List.mem_cons.1 hx with rfl | hx;exact h.sub (by simp);exact ha x hx)
      refine ⟨this.1,this.2.1,Nat.le_trans this.2.2 ?_⟩
      have:=z1c (t:=⟨k,n,s,ls,[f,a]⟩) (a:=f) (by simp)
      simp;omega
    | [],h=>exact ⟨h,ha,by simp⟩
    | [_],h=>exact ⟨h,ha,by simp⟩
    | _::_::_::_,h=>exact ⟨h,ha,by simp⟩
   ·exact ⟨h,ha,by simp⟩
termination_by t=>SizeOf.sizeOf t
theorem Wd.head {b:Int} {m:Nat} {t:Trm} (h:Wd b m t):Wd b m (headT t):=(Wd.spn t [] h (by simp)).1
theorem Wd.args {b:Int} {m:Nat} {t:Trm} (h:Wd b m t):(∀ a∈argsT t,Wd b m a)/\(argsT t).length<=m:=by
 have:=Wd.spn t [] h (by simp)
 refine ⟨this.2.1,?_⟩
 have h2:=this.2.2
 have:=h.d
 unfold argsT;simp at h2;omega
theorem Wd.getD {b:Int} (hb:0<=b) {m:Nat} (hm:1<=m) {l:List Trm} (h:∀ a∈l,Wd b m a) (i:Nat):Wd b m (l.getD i zT):=by
 rw [List.getD_eq_getElem?_getD]
 cases hl:l[i]? with
 | none=>exact ⟨by simp [zT,wfT,shpF,wfTs,argF];omega,by simp [zT,dpT,dpTs];omega⟩
 | some x=>exact h x (List.mem_of_getElem? hl)
theorem Wd.app {b:Int} (hb:0<=b) {m n:Nat} {t:Trm} {l:List Trm} (h:Wd b m t) (hl:∀ a∈l,Wd b m a) (hn:l.length<=n):Wd b (m+n) (appT t l) :=
 ⟨zvi hb h.w fun a ha=>(hl a ha).w,by
  have:=zvj (M:=m) (t:=t) fun a ha=>(hl a ha).d
  have:=h.d
  omega⟩
theorem Wd.mkA {b:Int} (hb:0<=b) {m:Nat} {f a:Trm} (hf:Wd b m f) (ha:Wd b m a):Wd b (m+1) (Ab.mkA f a) :=
 ⟨z1f hb hf.w ha.w,by have:=hf.d;have:=ha.d;simp only [Ab.mkA,dpT,dpTs];omega⟩
theorem Wd.lam {b:Int} (hb:0<=b) {m:Nat} {x t:Trm} (hx:Wd b m x) (ht:Wd b m t):Wd b (m+1) (mkB 4 x t):=by
 refine ⟨z6e ⟨by simp [mkB,argF],by simp [mkB],by simpa [mkB] using hb,by simp [mkB],by simp [mkB],by simp [mkB],by simp [mkB],by simp [mkB],by simp [mkB],fun y hy=>?_⟩,by have:=hx.d;have:=ht.d;simp only [mkB,dpT,dpTs];omega⟩
 simp only [mkB,List.mem_cons,List.not_mem_nil,or_false] at hy
 rcases hy with rfl | rfl
 ·exact hx.w
 ·exact ht.w
theorem Wd.lams {b:Int} (hb:0<=b) {m:Nat} {t:Trm}:∀ {xs:List Trm},(∀ x∈xs,Wd b m x)->Wd b m t->Wd b (m+xs.length) (lamsT xs t)
 | [],_,ht=>ht
 | x::xs,hx,ht=>by
   have ih:=Wd.lams hb (xs:=xs) (fun y hy=>hx y (by simp [hy])) ht
   have:=Wd.lam hb ((hx x (by simp)).mono (Int.le_refl _) (Nat.le_add_right m xs.length)) ih
   exact this
theorem Wd.lift {b:Int} {m:Nat} {t:Trm} (h:Wd b m t) (n:Nat):Wd (b+n) m (lftT n t 0):=⟨zl9 (by omega) (Int.le_refl _) (by omega) h.w,by have:=zla (by_:=n) t 0;have:=h.d;omega⟩
theorem Wd.opn {b:Int} {m k:Nat} {vs:List Trm} {t:Trm} (h:Wd b m t) (hv:∀ v∈vs,Wd b k v):Wd (b+m) (m+k) (opnT vs t 0) :=
 ⟨zq4 (D:=m) (by omega) (by have:=h.d;omega) (Int.le_refl _) (fun v hx=>(hv v hx).w) h.w,by have:=zlb (fun v hx=>(hv v hx).d) t 0;have:=h.d;omega⟩
theorem zer:∀ {n:Nat} {v:Trm},v∈varsT n->∃ i:Nat,i<n/\v=mkV i
 | n + 1,v,h=>by
   simp only [varsT,List.mem_cons] at h
   rcases h with rfl | h
   ·exact ⟨n,by omega,rfl⟩
   ·obtain ⟨i,h1,h2⟩:=zer h
    exact ⟨i,by omega,h2⟩
theorem z5t:∀ n:Nat,(varsT n).length=n
 | 0=>rfl
 | n+1=>by simp [varsT,z5t n]
theorem zvv {b:Int} {m:Nat} (hm:1<=m) {i:Nat} (hi:(i:Int)<=b):Wd b m (mkV i):=⟨by simp [mkV,wfT,shpF,wfTs,argF];omega,by simp [mkV,dpT,dpTs];omega⟩
theorem pi_wd {b:Int} {m:Nat} {t:Trm} (h:Wd b m t):(∀ x∈piL t,Wd b m x)/\Wd b m (piE t)/\(piL t).length<=m:=by
 have h1:=pi_wf t h.w
 have h2:=z4q t
 have h3:=h.d
 exact ⟨fun x hx=>⟨(h1.1 x hx).1,by have:=(h1.1 x hx).2;omega⟩,⟨h1.2,by omega⟩,by omega⟩
theorem zz06 {b:Int} (hb:0<=b) {m e:Nat} (hm:1<=m) (he:1<=e) {r:RecI} {h:Trm} {args ahead:List Trm} {field v x:Trm} (hh:Wd b m h) (ha:∀ a∈args,Wd b m a) (hal:args.length<=m) (hd:∀ a∈ahead,Wd b m a) (hf:Wd b e field) (hv:Wd b m v) (hx:hypF r h args field ahead v=some x):Wd (b+2 * e+m) (6 * m+6 * e+10) x:=by
 unfold hypF at hx
 split at hx
 ·cases hx
  have hn:∀ l∈h.levels,narL l=true:=(zg hh.w).nar
  have hlv:Wd b e (lvsT h.levels field):=⟨zb9 hn field hf.w,by rw [zgv];exact hf.d⟩
  have ho:=hlv.opn (k:=m) (vs:=args.take r.p++ahead) fun y hy=>by
   rcases List.mem_append.1 hy with hy | hy
   ·exact ha y (List.mem_of_mem_take hy)
   ·exact hd y hy
  have hpo:=pi_wd ho
  have hpf:=(pi_wd hf).2.2
  generalize (piL field).length=n at *
  have up:∀ {y:Trm} {k:Nat},Wd b k y->Wd (b+2 * e+m) k y:=fun hy=>hy.mono (by omega) (Nat.le_refl _)
  have lf:∀ {y:Trm} {k:Nat},Wd b k y->Wd (b+2 * e+m) k (lftT n y 0):=fun hy=>(hy.lift n).mono (by omega) (Nat.le_refl _)
  have hb2:0<=b+2 * e+m:=by omega
  have h1:Wd (b+2 * e+m) (m+m) (appT h ((args.take (r.p+1+r.fam.ctors.length)).map fun a=>lftT n a 0)):=Wd.app hb2 (up hh) (fun a hm'=>by
   obtain ⟨y,hy,rfl⟩:=List.mem_map.1 hm'
   exact lf (ha y (List.mem_of_mem_take hy))) (by simp;omega)
  have hpa:=hpo.2.1.args
  have h2:Wd (b+2 * e+m) ((m+m+e)+(e+m)) (appT (appT h ((args.take (r.p+1+r.fam.ctors.length)).map fun a=>lftT n a 0)) ((argsT (piE (opnT (args.take r.p++ahead) (lvsT h.levels field) 0))).drop r.p)) :=
   Wd.app hb2 (h1.mono (Int.le_refl _) (by omega)) (fun a hm'=>(hpa.1 a (List.mem_of_mem_drop hm')).mono (by omega) (by omega)) (by rw [List.length_drop];omega)
  have h3:Wd (b+2 * e+m) (m+e) (appT (lftT n v 0) (varsT n)):=Wd.app hb2 (lf hv) (fun a hm'=>by
   obtain ⟨i,hi,rfl⟩:=zer hm'
   exact zvv hm (by omega)) (by rw [z5t];omega)
  have h4:=Wd.mkA hb2 h2 (h3.mono (Int.le_refl _) (by omega))
  have h5:=Wd.lams hb2 (m:=m+m+e+(e+m)+1) (xs:=piL (opnT (args.take r.p++ahead) (lvsT h.levels field) 0)) (fun y hy=>(hpo.1 y hy).mono (by omega) (by omega)) h4
  exact h5.mono (Int.le_refl _) (by have:=hpo.2.2;omega)
 ·cases hx
structure EnvW (B:Int) (ds:List Dcl):Prop where
 v:∀ d∈ds,Wd B 100000 d.value
 c:∀ d∈ds,∀ k∈d.ctors,Wd B 100000 k.ty
theorem znx {b b':Int} (hb:0<=b) {m e K:Nat} (hm:1<=m) (he:1<=e) (hb':b+2 * e+m<=b') (hK:6 * m+6 * e+10<=K) {r:RecI} {h:Trm} {args:List Trm} (hh:Wd b m h) (ha:∀ a∈args,Wd b m a) (hal:args.length<=m):∀ (fs ahead bs:List Trm) (out:Trm) (j:Nat),(∀ a∈fs,Wd b e a)->(∀ a∈ahead,Wd b m a)->(∀ a∈bs,Wd b m a)->Wd b' (K+j) out->Wd b' (K+j+fs.length) (hypsF r h args fs ahead bs out)
 | [],ahead,bs,out,j,_,_,_,ho=>by simpa [hypsF] using ho
 | f::fs,ahead,[],out,j,_,_,_,ho=>by simp only [hypsF];exact ho.mono (Int.le_refl _) (by omega)
 | f :: fs,ahead,v::bs,out,j,hf,hd,hv,ho=>by
   simp only [hypsF]
   have ih:=fun out' (h':Wd b' (K+(j+1)) out')=>znx (r:=r) hb hm he hb' hK hh ha hal fs (ahead++[v]) bs out' (j+1) (fun a h=>hf a (by simp [h])) (fun a h=>by
    rcases List.mem_append.1 h with h | h
    ·exact hd a h
    ·simp at h;subst h;exact hv a (by simp)) (fun a h=>hv a (by simp [h])) h'
   have hlen:K+(j+1)+fs.length=K+j+(f::fs).length:=by simp;omega
   rw [<- hlen]
   cases hx:hypF r h args f ahead v with
   | none=>exact ih out (ho.mono (Int.le_refl _) (by omega))
   | some x =>
     have hw:=(zz06 hb hm he hh ha hal hd (hf f (by simp)) (hv v (by simp)) hx).mono hb' hK
     exact ih (mkA out x) ((Wd.mkA (by omega) ho (hw.mono (Int.le_refl _) (by omega))).mono (Int.le_refl _) (by omega))
theorem zz3q {B b:Int} (h0:0<=b) (hb:B<=b) {m:Nat} (hm:1<=m) {r:RecI} (hc:∀ k∈r.fam.ctors,Wd B 100000 k.ty) {h:Trm} {args:List Trm} (hh:Wd b m h) (ha:∀ a∈args,Wd b m a) (hal:args.length<=m) {major u:Trm} (hj:Wd b m major) (hu:iotR r h args major=some u):Wd (b+200000+m) (8 * m+800010) u:=by
 unfold iotR at hu
 split at hu
 ·split at hu
  ·cases hu
  ·rename_i k hk
   split at hu
   ·rename_i hl
    cases hu
    have hkl:=z7o hk
    have hct:r.fam.ctors[k]?=some (r.fam.ctors.getD k default):=by rw [List.getD_eq_getElem?_getD,List.getElem?_eq_getElem hkl.1];rfl
    have hty:=(hc _ (List.mem_of_getElem? hct)).mono hb (Nat.le_refl _)
    generalize (r.fam.ctors.getD k default).ty=ty at *
    have hpi:=pi_wd hty
    have hja:=hj.args
    have hF:∀ a∈(argsT major).drop r.p,Wd b m a:=fun a h=>hja.1 a (List.mem_of_mem_drop h)
    have hb2:0<=b+200000+m:=by omega
    have h0:Wd (b+200000+m) (m+m) (appT (args.getD (r.p+1+k) zT) ((argsT major).drop r.p)):=(Wd.app (by omega) (Wd.getD (by omega) hm ha _) hF (by rw [List.length_drop];omega)).mono (by omega) (Nat.le_refl _)
    have h1:=znx (r:=r) (b':=b+200000+m) (K:=6 * m+600010) (by omega) hm (e:=100000) (by omega) (by omega) (by omega) hh ha hal ((piL ty).drop r.p) [] ((argsT major).drop r.p) _ 0 (fun a h=>hpi.1 a (List.mem_of_mem_drop h)) (fun a h=>by cases h) hF (h0.mono (Int.le_refl _) (by omega))
    have hpl:((piL ty).drop r.p).length<=100000:=by rw [List.length_drop];omega
    exact (Wd.app hb2 (l:=args.drop (r.major+1)) (h1.mono (k:=6 * m+700010) (Int.le_refl _) (by omega)) (fun a h=>(ha a (List.mem_of_mem_drop h)).mono (by omega) (by omega)) (n:=m) (by rw [List.length_drop];omega)).mono (Int.le_refl _) (by omega)
   ·cases hu
 ·cases hu
theorem zq9 {ds : List Dcl} {c:Int} {wh wh':Trm->Int->Option WR} (hw:∀ t f x,wh t f=some x->wh' t f=some x) {t:Trm} {f:Int} {y:OR} (h:onF ds c wh t f=some y):onF ds c wh' t f=some y:=by
 unfold onF at h ⊢
 split at h
 ·rename_i h1;rw [if_pos h1];exact h
 ·rename_i h1;rw [if_neg h1]
  split at h
  ·rename_i h2;rw [if_pos h2];exact h
  ·rename_i h2;rw [if_neg h2]
   split at h
   ·rename_i h3;rw [if_pos h3]
    cases hf:findD ds (headT t).name with
    | none=>simp only [hf] at h ⊢;exact h
    | some d =>
      simp only [hf] at h ⊢
      by_cases h4:d.kind=2/\d.params=(headT t).levels.length
      ·rw [if_pos h4] at h ⊢;exact h
      ·rw [if_neg h4] at h ⊢
       cases hi:z1y ds (headT t) with
       | none=>simp only [hi] at h ⊢;exact h
       | some r =>
         simp only [hi] at h ⊢
         by_cases h5:r.major<(argsT t).length
         ·rw [if_pos h5] at h ⊢
          cases hm:wh ((argsT t).getD r.major zT) f with
          | none=>simp only [hm] at h;cases h
          | some x =>
            rw [hw _ _ _ hm]
            simp only [hm] at h
            exact h
         ·rw [if_neg h5] at h ⊢;exact h
   ·rename_i h3;rw [if_neg h3];exact h
theorem z1z {ds:List Dcl} {c:Int}:∀ (g k:Nat),g<=k->∀ (t:Trm) (f:Int) (x:WR),whF ds c g t f=some x->whF ds c k t f=some x
 | 0,_,_,_,_,_,h=>by cases h
 | g+1,0,hk,_,_,_,_=>by omega
 | g + 1,k+1,hk,t,f,x,h=>by
   simp only [whF] at h ⊢
   split at h
   ·cases h
   ·rename_i u did f1 e ho
    rw [zq9 (fun t f x hx=>z1z g k (by omega) t f x hx) ho]
    simp only
    split at h
    ·rename_i he;rw [if_pos he];exact h
    ·rename_i he;rw [if_neg he]
     split at h
     ·rename_i hd;rw [if_pos hd];exact z1z g k (by omega) u f1 x h
     ·rename_i hd;rw [if_neg hd];exact h
def bdV (T:Int) (M:Nat) (f:Int):Int:=T-max f 0 * (200000+M)
theorem zqa {T:Int} {M:Nat} {f:Int} (h:0<f):bdV T M (f-1)=bdV T M f+200000+M:=by
 unfold bdV
 rw [show max (f-1) 0=f-1 by omega,show max f 0=f by omega,Int.sub_mul]
 generalize f * (200000+(M:Int))=z
 omega
theorem ziv {T:Int} {M:Nat} {f f1:Int} (h:f1<=f):bdV T M f<=bdV T M f1:=by
 unfold bdV
 have:max f1 0 * (200000+(M:Int))<=max f 0 * (200000+(M:Int)):=Int.mul_le_mul_of_nonneg_right (by omega) (by omega)
 omega
theorem zvw (T:Int) (M:Nat) (f:Int):bdV T M f<=T:=by
 unfold bdV
 have:0<=max f 0 * (200000+(M:Int)):=Int.mul_nonneg (by omega) (by omega)
 omega
theorem zz2:∀ {t a:Trm},a∈argsT t->dpT a<dpT t:=by
 have key:∀ (t:Trm) (acc:List Trm) (m:Nat),dpT t<=m->(∀ a∈acc,dpT a<m)->∀ a∈(spnT t acc).2,dpT a<m:=by
  intro t
  induction hn:dpT t using Nat.strongRecOn generalizing t with
  | _ k ih =>
    intro acc m hm ha a hmem
    obtain ⟨kd,n,s,ls,l⟩:=t
    rw [spnT.eq_def] at hmem
    simp only at hmem
    split at hmem
    ·match l,hn,hmem with
     | [f,x],hn,hmem =>
       have hf:=z1c (t:=⟨kd,n,s,ls,[f,x]⟩) (a:=f) (by simp)
       have hx:=z1c (t:=⟨kd,n,s,ls,[f,x]⟩) (a:=x) (by simp)
       exact ih (dpT f) (by omega) f rfl (x::acc) m (by omega) (fun b hb=>by rcases List.mem_cons.1 hb with rfl | hb;omega;exact ha b hb) a hmem
     | [],hn,hmem=>exact ha a hmem
     | [_],hn,hmem=>exact ha a hmem
     | _::_::_::_,hn,hmem=>exact ha a hmem
    ·exact ha a hmem
 intro t a h
 exact key t [] (dpT t) (Nat.le_refl _) (fun _ h=>by cases h) a h
section
variable {T : Int} {M : Nat} {c : Int} (hT : T ≤ 1099511627776) (hM : M ≤ 10000000) (h1 : 1 ≤ M) (hc : c ≤ M)
include hT hM h1 hc
theorem zqb {f:Int} {u:Trm} (hu:0<f->Wd (bdV T M f+200000+M) (8 * M+800010) u):∃ y,mdF c f u=some y/\(y.2.2.2=0->Wd (bdV T M y.2.2.1) M y.1)/\y.2.2.1<=f/\(y.2.1=true->y.2.2.2=0/\y.2.2.1<f/\0<=y.2.2.1):=by
 unfold mdF
 by_cases hf:f<=0
 ·rw [if_pos hf];exact ⟨_,rfl,fun h=>by simp at h,Int.le_refl _,fun h=>by simp at h⟩
 ·rw [if_neg hf]
  have hw:=hu (by omega)
  have hb:=zqa (T:=T) (M:=M) (f:=f) (by omega)
  have hl:=zvw T M (f-1)
  have hg:gdT u=true:=gdT_iff.2 ⟨zk (by omega) u hw.w,by have:=hw.d;omega⟩
  rw [if_pos hg]
  by_cases hft:fitsT c u=true
  ·rw [if_pos hft]
   refine ⟨_,rfl,fun _=>?_,by simp only;omega,fun _=>⟨rfl,by simp only;omega,by simp only;omega⟩⟩
   have hs:=z9a u
   simp only [fitsT,Bool.and_eq_true,decide_eq_true_eq] at hft
   exact ⟨by rw [hb];exact hw.w,by show dpT u<=M;omega⟩
  ·rw [if_neg hft];exact ⟨_,rfl,fun h=>by simp at h,by simp only;omega,fun h=>by simp at h⟩
end
section
variable {T B : Int} {M : Nat} {c : Int} (hT : T ≤ 1099511627776) (hB : 0 ≤ B) (hM : M ≤ 10000000) (h1 : 1 ≤ M) (hc : c ≤ M)
include hT hB hM h1 hc
theorem zz07 {ds:List Dcl} (hE:EnvW B ds) {wh:Trm->Int->Option WR} {t:Trm} {f:Int} (hb:B<=bdV T M f) (ht:Wd (bdV T M f) M t)
  (hw:∀ a∈argsT t,∃ y,wh a f=some y/\(y.2.2=0->Wd (bdV T M y.2.1) M y.1)/\y.2.1<=f):∃ y,onF ds c wh t f=some y/\(y.2.2.2=0->Wd (bdV T M y.2.2.1) M y.1)/\y.2.2.1<=f/\(y.2.1=true->y.2.2.2=0/\y.2.2.1<f/\0<=y.2.2.1):=by
 have hh:=ht.head
 have ha:=ht.args
 have hstay:∃ y,some (t,false,f,(0:Int))=some y/\(y.2.2.2=0->Wd (bdV T M y.2.2.1) M y.1)/\y.2.2.1<=f/\(y.2.1=true->y.2.2.2=0/\y.2.2.1<f/\0<=y.2.2.1):=⟨_,rfl,fun _=>ht,Int.le_refl _,fun h=>by simp at h⟩
 have hbeta:∀ (body v:Trm) (l:List Trm),Wd (bdV T M f) M body->Wd (bdV T M f) M v->(∀ a∈l,Wd (bdV T M f) M a)->l.length<=M->Wd (bdV T M f+200000+M) (8 * M+800010) (appT (opnT [v] body 0) l):=fun body v l g1 g2 g3 g4=>by
  have h2:=g1.opn (k:=M) (vs:=[v]) fun x hx=>by simp at hx;subst hx;exact g2
  exact (Wd.app (b:=bdV T M f+M) (m:=M+M) (n:=M) (by omega) h2 (fun a h=>(g3 a h).mono (by omega) (by omega)) g4).mono (by omega) (by omega)
 have hsub:∀ i,Wd (bdV T M f) M ((headT t).args.getD i zT):=fun i=>Wd.getD (by omega) h1 (fun a h=>hh.sub h) i
 unfold onF
 by_cases c1:(headT t).kind=4/\argsT t≠[]
 ·rw [if_pos c1]
  exact zqb hT hM h1 hc fun _=>hbeta _ _ _ (hsub 1) (Wd.getD (by omega) h1 ha.1 0) (fun a h=>ha.1 a (List.mem_of_mem_drop h)) (by rw [List.length_drop];omega)
 rw [if_neg c1]
 by_cases c2:(headT t).kind=6
 ·rw [if_pos c2]
  exact zqb hT hM h1 hc fun _=>hbeta _ _ _ (hsub 2) (hsub 1) ha.1 ha.2
 rw [if_neg c2]
 by_cases c3:(headT t).kind=2
 ·rw [if_pos c3]
  cases hf:findD ds (headT t).name with
  | none=>exact hstay
  | some d =>
    simp only
    by_cases c4:d.kind=2/\d.params=(headT t).levels.length
    ·rw [if_pos c4]
     refine zqb hT hM h1 hc fun _=>?_
     have hv:=hE.v d (List.mem_of_find?_eq_some hf)
     have hl:Wd (bdV T M f) 100000 (lvsT (headT t).levels d.value):=⟨zk hb _ (zb9 (zg hh.w).nar _ hv.w),by rw [zgv];exact hv.d⟩
     exact (Wd.app (b:=bdV T M f) (m:=M+100000) (n:=M) (by omega) (hl.mono (Int.le_refl _) (by omega)) (fun a h=>(ha.1 a h).mono (Int.le_refl _) (by omega)) ha.2).mono (by omega) (by omega)
    ·rw [if_neg c4]
     cases hi:z1y ds (headT t) with
     | none=>exact hstay
     | some r =>
       simp only
       by_cases c5:r.major<(argsT t).length
       ·rw [if_pos c5]
        obtain ⟨⟨m,f1,e⟩,hy,hy1,hy2⟩:=hw ((argsT t).getD r.major zT) (by rw [List.getD_eq_getElem?_getD,List.getElem?_eq_getElem c5];exact List.getElem_mem c5)
        rw [hy]
        simp only at hy1 hy2 ⊢
        by_cases c6:e≠0
        ·rw [if_pos c6];exact ⟨_,rfl,fun h=>absurd h c6,hy2,fun h=>by simp at h⟩
        ·rw [if_neg c6]
         have hm:=hy1 (Classical.byContradiction fun h=>c6 h)
         have hbm:=ziv (T:=T) (M:=M) hy2
         cases hio:iotaF ds t m with
         | none=>exact ⟨_,rfl,fun _=>ht.mono hbm (Nat.le_refl _),hy2,fun h=>by simp at h⟩
         | some u =>
           simp only
           rw [zag,hi] at hio
           simp only [Option.bind_some,if_pos c5] at hio
           have hrf:=(z6g hi).1
           obtain ⟨y,g1,g2,g3,g4⟩:=zqb (f:=f1) (u:=u) hT hM h1 hc fun _=>zz3q (b:=bdV T M f1) (by omega) (by omega) h1 (hE.c _ hrf) (hh.mono hbm (Nat.le_refl _)) (fun a h=>(ha.1 a h).mono hbm (Nat.le_refl _)) ha.2 hm hio
           exact ⟨y,g1,g2,by omega,fun h=>by have:=g4 h;omega⟩
       ·rw [if_neg c5];exact hstay
 ·rw [if_neg c3];exact hstay
theorem zle {ds:List Dcl} (hE:EnvW B ds):∀ (n:Nat) (f:Int),f.toNat<=n->∀ (d:Nat) (t:Trm),dpT t<=d->B<=bdV T M f->Wd (bdV T M f) M t->∃ g x,whF ds c g t f=some x/\(x.2.2=0->Wd (bdV T M x.2.1) M x.1)/\x.2.1<=f:=by
 intro n
 induction n using Nat.strongRecOn with
 | _ n IHn =>
   intro f hf d
   induction d with
   | zero=>intro t ht;have:=z5s t;omega
   | succ d IHd =>
     intro t ht hb hw
     have hg : ∃ g,∀ a∈argsT t,∃ y,whF ds c g a f=some y/\(y.2.2=0->Wd (bdV T M y.2.1) M y.1)/\y.2.1<=f:=by
      have:∀ l:List Trm,(∀ a∈l,a∈argsT t)->∃ g,∀ a∈l,∃ y,whF ds c g a f=some y/\(y.2.2=0->Wd (bdV T M y.2.1) M y.1)/\y.2.1<=f:=by
       intro l
       induction l with
       | nil=>exact fun _=>⟨0,fun a h=>by cases h⟩
       | cons a l ih =>
         intro hl
         obtain ⟨g1,k1⟩:=ih fun b hb=>hl b (by simp [hb])
         have ham:=hl a (by simp)
         have had:=zz2 ham
         obtain ⟨g2,y,k2,k3⟩:=IHd a (by omega) hb (hw.args.1 a ham)
         refine ⟨max g1 g2,fun b hbm=>?_⟩
         rcases List.mem_cons.1 hbm with rfl | hbm
         ·exact ⟨y,z1z g2 _ (by omega) _ _ _ k2,k3⟩
         ·obtain ⟨y',k4,k5⟩:=k1 b hbm
          exact ⟨y',z1z g1 _ (by omega) _ _ _ k4,k5⟩
      exact this _ fun _ h=>h
     obtain ⟨g,hg⟩:=hg
     obtain ⟨⟨u,did,f1,e⟩,ho,o1,o2,o3⟩:=zz07 hT hB hM h1 hc hE hb hw hg
     simp only at o1 o2 o3
     by_cases he:e≠0
     ·refine ⟨g+1,(zT,f1,e),by simp only [whF];rw [ho];simp only [if_pos he],fun h=>absurd h he,o2⟩
     ·have he0:e=0:=Classical.byContradiction fun h=>he h
      cases did with
      | false=>exact ⟨g+1,(u,f1,0),by simp only [whF];rw [ho];simp only [if_neg he];rfl,fun _=>o1 he0,o2⟩
      | true =>
        obtain ⟨_,p1,p2⟩:=o3 rfl
        have hbm:=ziv (T:=T) (M:=M) (f:=f) (f1:=f1) o2
        obtain ⟨g2,x,k1,k2,k3⟩:=IHn f1.toNat (by omega) f1 (Nat.le_refl _) (dpT u) u (Nat.le_refl _) (by omega) (o1 he0)
        refine ⟨max g g2+1,x,?_,k2,by omega⟩
        simp only [whF]
        rw [zq9 (fun t f x hx=>z1z g (max g g2) (by omega) t f x hx) ho]
        simp only [if_neg he]
        exact z1z g2 _ (by omega) _ _ _ k1
end
end Go.Ab
