/- Texts of our own, laid together. -/
import Derived.Test.YtpneaijfkefeaaaGreatM5T1
set_option maxRecDepth 20000
set_option linter.unusedVariables false
set_option linter.unusedSimpArgs false
namespace Go.Ab
open Go Go.RowKit
theorem Con.le2 {P:Program} {f:Nat} {args:List AV} {objs:Obs} {R R':AV->Obs->Prop} (h:Con P f args objs R) (k:∀ r o,R r o->∃ r' o',(∀ cx n,cx.objs0=objs->Le P cx n ⟨[(0,r)],o⟩ ⟨[(0,r')],o'⟩)/\za5 o' r'=true/\R' r' o'):Con P f args objs R':=by
 intro w M0 own vals hok harg
 refine (h w M0 own vals hok harg).mono ?_
 rintro e w' ⟨r,o,own',v,rfl,g1,g2,g3,g4,g5,g6,g7⟩
 obtain ⟨r',o',hle,hc,hr⟩:=k r o g1
 have rl:Rl P ⟨w,M0,own,objs⟩ 1 ⟨[(0,r)],o⟩ { tmps:=#[v],defers:=[] } w' own':=by
  refine { defs:=rfl,size:=rfl,ok:=g2,regs:=fun t x hx=>?_,stp:=g4,fix:=g5,fr:=g7 }
  simp only [get] at hx
  cases hb:Nat.beq 0 t with
  | true =>
    obtain rfl:=Nat.eq_of_beq_eq_true hb
    rw [hb] at hx
    cases hx
    exact g3
  | false=>rw [hb] at hx;cases hx
 obtain ⟨own2,r2⟩:=hle ⟨w,M0,own,objs⟩ 1 rfl _ _ ⟨own',rl⟩
 exact ⟨r',o',own2,v,rfl,hr,r2.ok,r2.regs 0 r' rfl,r2.stp,r2.fix,z6d hc,r2.fr⟩
theorem Sub.tsR {k sz:Nat} {xs ys:List (List PV)} (h:PSR xs ys):Sub (.ts k sz xs) (.ts k sz ys):=fun w M own hw v hv=>by
 cases hv with
 | ts h' ho=>exact .ts (PS.rows h w M v h') (fun n hn=>by rw [<- h.get.1];exact ho n hn)
theorem Sub.tsr' {k sz:Nat} {xs ys:List (List PV)} (h:PSR xs ys):Sub (.ts k sz xs) (.p (.sl sz ys)):=fun w M own hw v hv=>Sub.rows h w M own hw v (Sub.ts w M own hw v hv)
theorem PSL.rfl':∀ l:List PV,PSL l l
 | []=>trivial
 | x::l=>⟨PS.r x,PSL.rfl' l⟩
theorem PSR.snoc {x y:List PV} (h:PSL x y):∀ l:List (List PV),PSR (l++[x]) (l++[y])
 | []=>⟨h,trivial⟩
 | z::l=>⟨PSL.rfl' z,PSR.snoc h l⟩
end Go.Ab
namespace Go.Ab.YtpneaijfkefeaaaGreat
open Go Go.RowKit Go.Ab Go.Proofs
theorem PSL.dz (k p c:Int) (n f:ByteArray) (t:Trm):PSL [I k,I p,I c,St n,St f,I t.kind,I t.n,St t.name,.sl 3 (encLs t.levels),.sl 5 (encTs t.args),I 0,I 0,St ⟨#[]⟩,nilS,nilS,nilS] (rowD ⟨k,p,c,n,f,t,zT,[]⟩) :=
 ⟨PS.r _,PS.r _,PS.r _,PS.r _,PS.r _,PS.r _,PS.r _,PS.r _,PS.r _,PS.r _,PS.r _,PS.r _,PS.r _,PS.n,PS.n,PS.n,trivial⟩
def zz2b (R:List Dcl×Int):AV:=.tp [.p (.sl 16 (encDs R.1)),.p (I R.2)]
theorem z9l (d:Dcl):∀ (l:List Ctr) (i:Nat),(ctrDs d l i).length=l.length
 | [],_=>rfl
 | c::r,i=>by simp [ctrDs,z9l d r]
theorem zjn (d:Dcl):∀ (l q:List Ctr) (i:Nat),ctrDs d (l++q) i=ctrDs d l i++ctrDs d q (i+l.length)
 | [],q,i=>by simp [ctrDs]
 | c::r,q,i=>by simp only [List.cons_append,ctrDs,zjn d r q (i+1)];congr 3;simp;omega
set_option maxHeartbeats 4000000 in
theorem zqq (d:Dcl) (hd:FamD d) (hcp:CpD d) (hlv:∀ l∈(piE d.type).levels,mayLF l 3=true) (R:List Dcl×Int) (h:zfj d=some R):PCon Tryz.prog 55 [dv d] (zz2b R):=by
 unfold zfj at h
 split at h
 ·cases h
 rename_i t e ht
 refine cv [26] [12,1000013] [] Tryz.func55 73 Tryz.ntmps55 rfl rfl fun cx hE=>call0 (zte d hd hlv t e ht) (brS (fun h0=>?_) (fun h0'=>?_))
 ·rw [if_pos h0] at h;cases h;exact ⟨rfl,rfl⟩
 have h0:e=0:=Classical.not_not.1 h0'
 rw [if_neg h0'] at h
 cases h
 have hl0:(lookF d).2=0:=by
  unfold typeF at ht
  split at ht
  ·cases ht;exact h0
  ·omega
 have hb:=zjm (zfl hl0)
 have hn:=hd.n
 refine call0 (zjh d hd hlv) (call0 (zal d hcp) ?_)
 refine loopP d.ctors (fun p=>[(9,.p (I p.length)),(8,.ts 26 16 (encDs (d::ctrDs d p 0)))]) (fun p=>[(26,.ar 89 16 (encDs (d::ctrDs d p 0)).length)]) (fun _=>True) [9,8] [26] hE rfl rfl rfl ⟨Sub.refl _,Sub.refl _,rfl,rfl,rfl,rfl,trivial⟩ trivial (fun _=>fun _=>brOut (by simp) ?_) (fun p a q hq _=>fun _=>brIn (by simp [hq]) ?_)
 ·refine seq0 [(10,.p (I (d.params+if (lookF d).1.large=true then 1 else 0)))] [] [10] [] [1000013] hE rfl rfl rfl ?_ ?_
  ·refine brB (fun hl=>And.intro (by omega) ⟨Sub.i ?_,rfl,rfl,rfl,rfl,trivial⟩) (fun hl=>⟨Sub.i ?_,rfl,rfl,rfl,rfl,trivial⟩)
   ·have hl':(lookF d).1.large=true:=hl
    rw [if_pos hl']
   ·have hl':¬ (lookF d).1.large=true:=by rw [show (lookF d).1.large=false from hl];simp
    rw [if_neg hl'];simp
  have hr:(⟨#[46,114,101,99]⟩:ByteArray).size=4:=rfl
  have hcl:=z9l d d.ctors 0
  have e:encDs (d::(ctrDs d d.ctors 0++[⟨5,d.params+(if (lookF d).1.large=true then 1 else 0),0,d.name++recS,d.name,t,zT,[]⟩]))=encDs (d::ctrDs d d.ctors 0)++[rowD ⟨5,d.params+(if (lookF d).1.large=true then 1 else 0),0,d.name++recS,d.name,t,zT,[]⟩]:=by simp [encDs]
  refine join1 (A:=Unit) (fun _=>[(2,.p (.sl 16 (encDs (d::(ctrDs d d.ctors 0++[⟨5,d.params+(if (lookF d).1.large=true then 1 else 0),0,d.name++recS,d.name,t,zT,[]⟩]))))),(3,.p (I 0))]) (fun _=>[]) (fun _=>True) [2,3] [26] [] hE rfl rfl rfl ?_ (fun _ _=>⟨rfl,rfl⟩)
  refine And.intro (by omega) (app1 (by simp;omega) (by simp;omega) ⟨(),trivial,leX.same ⟨?_,Sub.refl _,rfl,rfl,rfl,trivial⟩⟩)
  rw [e]
  exact Sub.tsr' (PSR.snoc (PSL.dz _ _ _ _ _ _) _)
 ·have hlt:=zj hq
  have hcl:=z9l d p 0
  refine idxN (z1w (f:=rowC) hq) (idxN (z1w (f:=rowC) hq) (call0 (z1k a.ty (hcp.c a (zg hq))) (app1 (by simp;omega) (by simp;omega) (And.intro (by omega) ⟨trivial,Sub.i (by simp),?_,ar_eq (by simp [z9l]),rfl,rfl,rfl,trivial⟩))))
  have e:encDs (d::ctrDs d (p++[a]) 0)=encDs (d::ctrDs d p 0)++[rowD ⟨4,d.params,p.length,a.name,d.name,a.ty,zT,[]⟩]:=by rw [zjn];simp [ctrDs,encDs]
  rw [e]
  exact Sub.tsR (PSR.snoc (PSL.dz _ _ _ _ _ _) _)
end Go.Ab.YtpneaijfkefeaaaGreat
set_option linter.unusedVariables false
set_option linter.unusedSimpArgs false
namespace Go.Ab.YtpneaijfkefeaaaGreat
open Go Go.RowKit Go.Ab Go.Proofs
def txtOK (s:ByteArray):Bool:=decide (s.size<=4000)&&(zf9 s).isSome
theorem z1t (s:ByteArray) (h:txtOK s=true):PCon Tryz.prog 33 [.p (St s)] (tv (trmOf s)):=by
 simp only [txtOK,Bool.and_eq_true,decide_eq_true_eq] at h
 exact zt0 s h.1 h.2
def flatP (cs:List (ByteArray×ByteArray)):List ByteArray:=cs.flatMap fun x=>[x.1,x.2]
@[simp] theorem zdr (cs:List (ByteArray×ByteArray)):(flatP cs).length=2 * cs.length:=by
  induction cs with
  | nil=>rfl
  | cons a r ih=>simp [flatP] at ih ⊢;omega
def ctrP (cs:List (ByteArray×ByteArray)):List Ctr:=cs.map fun x=>⟨x.1,trmOf x.2⟩
@[simp] theorem zz3f (cs:List (ByteArray×ByteArray)):(ctrP cs).length=cs.length:=by simp [ctrP]
def famP (name:ByteArray) (p c:Int) (typ:ByteArray) (cs:List (ByteArray×ByteArray)):Dcl:=⟨3,p,c,name,⟨#[]⟩,trmOf typ,zT,ctrP cs⟩
def famOK (typ:ByteArray) (cs:List (ByteArray×ByteArray)):Bool:=txtOK typ&&(decide (cs.length<=1000)&&cs.all fun x=>txtOK x.2)
theorem z2e (name:ByteArray) (p c:Int) (typ:ByteArray) (cs:List (ByteArray×ByteArray)) (h:famOK typ cs=true) :
  PCon Tryz.prog 114 [.p (St name),.p (I p),.p (I c),.p (St typ),.p (.sl 1 (rwS (flatP cs)))] (dv (famP name p c typ cs)):=by
 simp only [famOK,Bool.and_eq_true,decide_eq_true_eq,List.all_eq_true] at h
 obtain ⟨h1,h2,h3⟩:=h
 have hfl:=zdr cs
 refine cv [] [] [] Tryz.func114 43 Tryz.ntmps114 rfl rfl fun cx hE=>call0 (z1t typ h1) ?_
 refine tokOV 11 15 511 156 6 hE rfl rfl rfl rfl ?_
 refine loopP cs (fun q=>[(12,.p (I ((2 * q.length:Nat))))]) (fun q=>[(11,.ce 89 [.p (I 3),.p (I p),.p (I c),.p (St name),.p (St ⟨#[]⟩),.p (I (trmOf typ).kind),.p (I (trmOf typ).n),.p (St (trmOf typ).name),.p (.sl 3 (encLs (trmOf typ).levels)),.p (.sl 5 (encTs (trmOf typ).args)),.p (I 0),.p (I 0),.p (St ⟨#[]⟩),.p nilS,.p nilS,.ts 511 6 (encCs (ctrP q))]),(511,.ar 156 6 (encCs (ctrP q)).length)]) (fun _=>True) [12] [11,511] hE rfl rfl rfl ⟨Sub.refl _,rfl,rfl,rfl,trivial⟩ trivial (fun _=>And.intro (by omega) (fun _=>brZ (by simp;omega) ⟨rfl,rfl⟩)) (fun q a r hq _=>?_)
 have hlt:=zj hq
 have g1:(flatP cs)[2 * q.length]?=some a.1:=by
  rw [hq];simp only [flatP,List.flatMap_append,List.flatMap_cons]
  have:(List.flatMap (fun x=>[x.1,x.2]) q).length=2 * q.length:=zdr q
  rw [List.getElem?_append_right (by omega),this];simp
 have g2:(flatP cs)[2 * q.length+1]?=some a.2:=by
  rw [hq];simp only [flatP,List.flatMap_append,List.flatMap_cons]
  have:(List.flatMap (fun x=>[x.1,x.2]) q).length=2 * q.length:=zdr q
  rw [List.getElem?_append_right (by omega),this,show 2 * q.length+1-2 * q.length=1 by omega];simp
 have r1:(rwS (flatP cs))[2 * q.length]?=some [St a.1]:=by simp [rwS,g1]
 have r2:rowAt (rwS (flatP cs)) (((2 * q.length:Nat):Int)+1)=[St a.2]:=by
  rw [show ((2 * q.length:Nat):Int)+1=((2 * q.length+1:Nat):Int) by omega]
  exact z6h (by simp [rwS,g2])
 refine And.intro (by omega) (fun _=>brY (by simp;omega) (idxN r1 (And.intro (by omega) (idx1 (by omega) (by simp;omega) r2 (call0 (z1t a.2 (h3 a (zg hq))) (app1 (by simp;omega) (by simp;omega) (And.intro (by omega) ⟨trivial,Sub.i (by simp;omega),?_,ar_eq (by simp),rfl,trivial⟩)))))))
 exact congrArg (fun z=>Ob.ce 89 [.p (I 3),.p (I p),.p (I c),.p (St name),.p (St ⟨#[]⟩),.p (I (trmOf typ).kind),.p (I (trmOf typ).n),.p (St (trmOf typ).name),.p (.sl 3 (encLs (trmOf typ).levels)),.p (.sl 5 (encTs (trmOf typ).args)),.p (I 0),.p (I 0),.p (St ⟨#[]⟩),.p nilS,.p nilS,.ts 511 6 z]) (by simp [encCs,ctrP,rowC])
def defP (name:ByteArray) (p:Int) (typ value:ByteArray):Dcl:=⟨2,p,0,name,⟨#[]⟩,trmOf typ,trmOf value,[]⟩
theorem z5x (name:ByteArray) (p:Int) (typ value:ByteArray) (h1:txtOK typ=true) (h2:txtOK value=true):PCon Tryz.prog 58 [.p (St name),.p (I p),.p (St typ),.p (St value)] (dv (defP name p typ value)) :=
 cv [] [] [] Tryz.func58 16 Tryz.ntmps58 rfl rfl fun cx hE=>call0 (z1t typ h1) (call0 (z1t value h2) ⟨rfl,rfl⟩)
def axP (name:ByteArray) (p:Int) (typ:ByteArray):Dcl:=⟨1,p,0,name,⟨#[]⟩,trmOf typ,zT,[]⟩
theorem zar (name:ByteArray) (p:Int) (typ:ByteArray) (h1:txtOK typ=true):PCon Tryz.prog 59 [.p (St name),.p (I p),.p (St typ)] (dv (axP name p typ)) :=
 cv [] [] [] Tryz.func59 12 Tryz.ntmps59 rfl rfl fun cx hE=>call0 (z1t typ h1) ⟨rfl,rfl⟩
theorem z9m (s:ByteArray) (h:txtOK s=true):PCon Tryz.prog 64 [.p (St s)] (tv (trmOf s)):=cv [] [] [] Tryz.func64 5 Tryz.ntmps64 rfl rfl fun cx hE=>call0 (z1t s h) ⟨rfl,rfl⟩
theorem zas (s:ByteArray) (h:txtOK s=true) (hc:okT (trmOf s)=true) (l:List Trm) (hl:∀ a∈l,Cp a) (hlen:l.length<=1000):PCon Tryz.prog 73 [.p (St s),.p (.sl 5 (encTs l))] (tv (appT (trmOf s) l)) :=
 cv [] [] [] Tryz.func73 9 Tryz.ntmps73 rfl rfl fun cx hE=>call0 (z1t s h) (call0 (z2z _ (z5j hc) l hl (by omega)) ⟨rfl,rfl⟩)
abbrev csNat:List (ByteArray×ByteArray):=[((⟨#[122,101,114,111]⟩:ByteArray),(⟨#[78,97,116]⟩:ByteArray)),((⟨#[115,117,99,99]⟩:ByteArray),(⟨#[33,78,97,116,46,32,78,97,116]⟩:ByteArray))]
abbrev zz2c:Dcl:=famP (⟨#[78,97,116]⟩:ByteArray) 0 0 (⟨#[42,83,48]⟩:ByteArray) csNat
theorem okNat:famOK (⟨#[42,83,48]⟩:ByteArray) csNat=true:=by kernel_rfl
abbrev zm2:List (ByteArray×ByteArray):=[]
abbrev zxb:Dcl:=famP (⟨#[70,97,108,115,101]⟩:ByteArray) 0 0 (⟨#[42,48]⟩:ByteArray) zm2
theorem zz0h:famOK (⟨#[42,48]⟩:ByteArray) zm2=true:=by kernel_rfl
abbrev csAnd:List (ByteArray×ByteArray):=[((⟨#[65,110,100,46,109,107]⟩:ByteArray),(⟨#[33,42,48,46,32,33,42,48,46,32,33,35,49,46,32,33,35,49,46,32,40,40,65,110,100,32,35,51,41,32,35,50,41]⟩:ByteArray))]
abbrev zz2d:Dcl:=famP (⟨#[65,110,100]⟩:ByteArray) 0 2 (⟨#[33,42,48,46,32,33,42,48,46,32,42,48]⟩:ByteArray) csAnd
theorem okAnd:famOK (⟨#[33,42,48,46,32,33,42,48,46,32,42,48]⟩:ByteArray) csAnd=true:=by kernel_rfl
abbrev csEq:List (ByteArray×ByteArray):=[((⟨#[69,113,46,114,101,102,108]⟩:ByteArray),(⟨#[33,42,112,48,46,32,33,35,48,46,32,40,40,40,69,113,123,112,48,125,32,35,49,41,32,35,48,41,32,35,48,41]⟩:ByteArray))]
abbrev famEq:Dcl:=famP (⟨#[69,113]⟩:ByteArray) 1 2 (⟨#[33,42,112,48,46,32,33,35,48,46,32,33,35,49,46,32,42,48]⟩:ByteArray) csEq
theorem okEq:famOK (⟨#[33,42,112,48,46,32,33,35,48,46,32,33,35,49,46,32,42,48]⟩:ByteArray) csEq=true:=by kernel_rfl
abbrev ztf:List (ByteArray×ByteArray):=[((⟨#[110,105,108]⟩:ByteArray),(⟨#[33,42,83,112,48,46,32,40,76,105,115,116,123,112,48,125,32,35,48,41]⟩:ByteArray)),((⟨#[99,111,110,115]⟩:ByteArray),(⟨#[33,42,83,112,48,46,32,33,35,48,46,32,33,40,76,105,115,116,123,112,48,125,32,35,49,41,46,32,40,76,105,115,116,123,112,48,125,32,35,50,41]⟩:ByteArray))]
abbrev zz0i:Dcl:=famP (⟨#[76,105,115,116]⟩:ByteArray) 1 1 (⟨#[33,42,83,112,48,46,32,42,83,112,48]⟩:ByteArray) ztf
theorem zz2e:famOK (⟨#[33,42,83,112,48,46,32,42,83,112,48]⟩:ByteArray) ztf=true:=by kernel_rfl
abbrev csVec:List (ByteArray×ByteArray):=[((⟨#[118,110,105,108]⟩:ByteArray),(⟨#[33,42,83,112,48,46,32,40,40,86,101,99,123,112,48,125,32,35,48,41,32,122,101,114,111,41]⟩:ByteArray)),((⟨#[118,99,111,110,115]⟩:ByteArray),(⟨#[33,42,83,112,48,46,32,33,35,48,46,32,33,78,97,116,46,32,33,40,40,86,101,99,123,112,48,125,32,35,50,41,32,35,48,41,46,32,40,40,86,101,99,123,112,48,125,32,35,51,41,32,40,115,117,99,99,32,35,49,41,41]⟩:ByteArray))]
abbrev zz2f:Dcl:=famP (⟨#[86,101,99]⟩:ByteArray) 1 1 (⟨#[33,42,83,112,48,46,32,33,78,97,116,46,32,42,83,112,48]⟩:ByteArray) csVec
theorem okVec:famOK (⟨#[33,42,83,112,48,46,32,33,78,97,116,46,32,42,83,112,48]⟩:ByteArray) csVec=true:=by kernel_rfl
abbrev ztg:List (ByteArray×ByteArray):=[((⟨#[121,101,115]⟩:ByteArray),(⟨#[66,111,111,108]⟩:ByteArray)),((⟨#[110,111]⟩:ByteArray),(⟨#[66,111,111,108]⟩:ByteArray))]
abbrev zz0j:Dcl:=famP (⟨#[66,111,111,108]⟩:ByteArray) 0 0 (⟨#[42,83,48]⟩:ByteArray) ztg
theorem zz2g:famOK (⟨#[42,83,48]⟩:ByteArray) ztg=true:=by kernel_rfl
abbrev zth:List (ByteArray×ByteArray):=[((⟨#[108,101,97,102]⟩:ByteArray),(⟨#[84,114,101,101]⟩:ByteArray)),((⟨#[110,111,100,101]⟩:ByteArray),(⟨#[33,33,78,97,116,46,32,84,114,101,101,46,32,84,114,101,101]⟩:ByteArray))]
abbrev zz0k:Dcl:=famP (⟨#[84,114,101,101]⟩:ByteArray) 0 0 (⟨#[42,83,48]⟩:ByteArray) zth
theorem zz2h:famOK (⟨#[42,83,48]⟩:ByteArray) zth=true:=by kernel_rfl
abbrev csAcc:List (ByteArray×ByteArray):=[((⟨#[65,99,99,46,105,110]⟩:ByteArray),(⟨#[33,42,112,48,46,32,33,33,35,48,46,32,33,35,49,46,32,42,48,46,32,33,35,49,46,32,33,33,35,50,46,32,33,40,40,35,50,32,35,48,41,32,35,49,41,46,32,40,40,40,65,99,99,123,112,48,125,32,35,52,41,32,35,51,41,32,35,49,41,46,32,40,40,40,65,99,99,123,112,48,125,32,35,51,41,32,35,50,41,32,35,49,41]⟩:ByteArray))]
abbrev zz2i:Dcl:=famP (⟨#[65,99,99]⟩:ByteArray) 1 2 (⟨#[33,42,112,48,46,32,33,33,35,48,46,32,33,35,49,46,32,42,48,46,32,33,35,49,46,32,42,48]⟩:ByteArray) csAcc
theorem okAcc:famOK (⟨#[33,42,112,48,46,32,33,33,35,48,46,32,33,35,49,46,32,42,48,46,32,33,35,49,46,32,42,48]⟩:ByteArray) csAcc=true:=by kernel_rfl
def famsL:List Dcl:=[zz2c,zxb,zz2d,famEq,zz0i,zz2f,zz0j,zz0k,zz2i]
set_option maxHeartbeats 4000000 in
theorem zeq:Con Tryz.prog 57 [] [] (fun r o=>r=.tm 18 0/\o=[(18,.mu 89 16 0 (encDs famsL))]):=by
 refine cv [1000018] [] [18] Tryz.func57 19 Tryz.ntmps57 rfl rfl fun cx hE=>call0 (z2e _ _ _ _ csNat okNat) (call0 (z2e _ _ _ _ zm2 zz0h) (call0 (z2e _ _ _ _ csAnd okAnd) (call0 (z2e _ _ _ _ csEq okEq) (call0 (z2e _ _ _ _ ztf zz2e) (call0 (z2e _ _ _ _ csVec okVec) (call0 (z2e _ _ _ _ ztg zz2g) (call0 (z2e _ _ _ _ zth zz2h) (call0 (z2e _ _ _ _ csAcc okAcc) ⟨rfl,rfl⟩))))))))
def moreL:List Dcl:=[defP (⟨#[105,100]⟩:ByteArray) 1 (⟨#[33,42,112,48,46,32,33,35,48,46,32,35,49]⟩:ByteArray) (⟨#[92,42,112,48,46,32,92,35,48,46,32,35,48]⟩:ByteArray),defP (⟨#[97,100,100]⟩:ByteArray) 0 (⟨#[33,78,97,116,46,32,33,78,97,116,46,32,78,97,116]⟩:ByteArray) (⟨#[92,78,97,116,46,32,92,78,97,116,46,32,40,40,40,40,78,97,116,46,114,101,99,123,83,48,125,32,92,78,97,116,46,32,78,97,116,41,32,35,49,41,32,92,78,97,116,46,32,92,78,97,116,46,32,40,115,117,99,99,32,35,48,41,41,32,35,48,41]⟩:ByteArray),defP (⟨#[116,119,111]⟩:ByteArray) 0 (⟨#[78,97,116]⟩:ByteArray) (⟨#[61,78,97,116,58,40,115,117,99,99,32,122,101,114,111,41,46,32,40,115,117,99,99,32,35,48,41]⟩:ByteArray),defP (⟨#[110,111,116]⟩:ByteArray) 0 (⟨#[33,42,48,46,32,42,48]⟩:ByteArray) (⟨#[92,42,48,46,32,33,35,48,46,32,70,97,108,115,101]⟩:ByteArray),axP (⟨#[80]⟩:ByteArray) 0 (⟨#[33,78,97,116,46,32,42,48]⟩:ByteArray),axP (⟨#[112,46,97,108,108]⟩:ByteArray) 0 (⟨#[33,78,97,116,46,32,40,80,32,35,48,41]⟩:ByteArray),axP (⟨#[101,120,116]⟩:ByteArray) 2 (⟨#[33,42,112,48,46,32,33,42,112,49,46,32,42,77,112,48,112,49]⟩:ByteArray)]
def prelL:List Dcl:=famsL.take 6++moreL
set_option maxHeartbeats 4000000 in
theorem zjo:PCon Tryz.prog 20 [] (.p (.sl 16 (encDs prelL))):=by
 have h:Con Tryz.prog 20 [] [] (fun r o=>r=.tm 18 2/\o=[(18,.mu 89 16 2 (encDs prelL))]):=by
  refine cv [] [] [18] Tryz.func20 14 Tryz.ntmps20 rfl rfl fun cx hE=>call1 [] zeq rfl rfl (za _) (And.intro (by simp [famsL]) ?_)
  refine call0 (z5x _ _ _ _ (by kernel_rfl) (by kernel_rfl)) (call0 (z5x _ _ _ _ (by kernel_rfl) (by kernel_rfl)) (call0 (z5x _ _ _ _ (by kernel_rfl) (by kernel_rfl)) (call0 (z5x _ _ _ _ (by kernel_rfl) (by kernel_rfl)) (call0 (zar _ _ _ (by kernel_rfl)) (call0 (zar _ _ _ (by kernel_rfl)) (call0 (zar _ _ _ (by kernel_rfl)) (?_)))))))
  refine app2 (by simp [famsL]) (by simp [famsL]) (by simp [famsL]) ⟨rfl,?_⟩
  rfl
 refine PCon.mk (h.le2 ?_)
 rintro r o ⟨rfl,rfl⟩
 exact ⟨.p (.sl 16 (encDs prelL)),[],fun cx n h0=>Le.trans (Le.muP (k:=18) (t:=0) rfl rfl) (Le.mk (.cons rfl (Sub.refl _) .nil) .nil rfl),rfl,rfl,rfl⟩
def okD (d:Dcl):Bool:=okT d.type&&(okT d.value&&(decide (d.ctors.length<=1000)&&(d.ctors.all (fun c=>okT c.ty&&decide (c.name.size<=1000))&&(decide (d.name.size<=1000)&&decide (-1000000<=d.params/\d.params<=1000000/\-1000000<=d.count/\d.count<=1000000)))))
theorem zds {d:Dcl} (h:okD d=true):FamD d/\CpD d/\d.name.size<=1000:=by
 simp only [okD,Bool.and_eq_true,decide_eq_true_eq,List.all_eq_true] at h
 obtain ⟨h1,h2,h3,h4,h5,h6⟩:=h
 exact ⟨⟨z2q h1,fun c hc=>⟨z2q (h4 c hc).1,by have:=(h4 c hc).2;omega⟩,by omega,h3,by omega,by omega,by omega,by omega⟩,⟨z5j h1,z5j h2,by omega,fun c hc=>z5j (h4 c hc).1⟩,h5⟩
def expF (d:Dcl):List Dcl:=if d.kind=3 then (match zfj d with
 | some (x,e)=>if e=0 then x else [d]
 | none=>[d]) else [d]
def okFam (d:Dcl):Bool:=okD d&&(if d.kind=3 then (piE d.type).levels.all (fun l=>mayLF l 3)&&(match zfj d with
 | some (x,e)=>x.all okD&&decide (x.length<=1000)
 | none=>false) else true)
theorem zti (acc:List Dcl) (d:Dcl) (r:List Dcl):envF acc (d::r)=envF (rAddF acc (expF d)) r:=rfl
theorem zbk (L l:List Dcl):rAddF L l=if addF [] L l=0 then L++l else L:=by
 unfold rAddF
 rcases Classical.em (∃ d∈l,mayF d.name=false) with h | h
 ·have e:addF [] L l=9:=by unfold addF;rw [if_pos h]
  obtain ⟨d,hd,hm⟩:=h
  rw [e,if_neg,if_neg (by decide)]
  rintro ⟨h1,_⟩
  rw [List.all_eq_true] at h1
  rw [h1 d hd] at hm;cases hm
 ·have h1:(l.all fun d=>mayF d.name)=true:=by
   rw [List.all_eq_true];intro d hd
   cases hx:mayF d.name with
   | true=>rfl
   | false=>exact absurd ⟨d,hd,hx⟩ h
  rcases Classical.em (zz (L++l)).Nodup with h2 | h2
  ·have e:addF [] L l=0:=by unfold addF;rw [if_neg h,if_neg (by simpa using h2)]
   rw [e,if_pos ⟨h1,h2⟩,if_pos rfl]
  ·have e:addF [] L l=10:=by unfold addF;rw [if_neg h,if_pos (by simpa using h2)]
   rw [e,if_neg (fun x=>h2 x.2),if_neg (by decide)]
theorem zm3 {L l:List Dcl} (h:(zz L).Nodup):(zz (rAddF L l)).Nodup:=by
 unfold rAddF
 split
 ·rename_i hk;exact hk.2
 ·exact h
theorem zjp (L l:List Dcl):(rAddF L l).length<=L.length+l.length:=by
 unfold rAddF;split<;>simp
set_option maxHeartbeats 2000000 in
theorem zxc (l:List Dcl) (h:(l.all okFam)=true) (hlen:l.length<=1000):Con Tryz.prog 19 [.p (.sl 16 (encDs l))] [] (fun r o=>r=.ptr 1000 0/\o=refE 1000 (envF [] l) 0):=by
 rw [List.all_eq_true] at h
 have hel:=zd5 l
 refine cv [] [7] [1000,1001] Tryz.func19 41 Tryz.ntmps19 rfl rfl fun cx hE=>call1 [] znw rfl rfl (za _) ?_
 refine loop2 (fun (i:Nat) (L:List Dcl)=>[(4,.p (I i))]) (fun i L=>refE 1000 L 0) (fun i L=>i<=l.length/\envF [] l=envF L (l.drop i)/\(zz L).Nodup/\L.length<=1000 * i) (fun i L=>l.length-i) 0 [] [4] [1000,1001] hE rfl rfl rfl ⟨Sub.refl _,rfl,rfl,trivial⟩ ⟨by omega,rfl,by simp [zz],by simp⟩ fun i L ⟨g1,g2,g3,g4⟩=>?_
 refine fun _=>brS (fun hlt'=>?_) (fun hlt'=>?_)
 ·have hlt:i<l.length:=by omega
  have hi:l[i]?=some (l[i]):=List.getElem?_eq_getElem hlt
  have d1:l.drop i=l[i]::l.drop (i+1):=List.drop_eq_getElem_cons hlt
  have hk:=h _ (List.getElem_mem hlt)
  generalize l[i]=a at hi d1 hk
  rw [d1,zti] at g2
  have r1:(encDs l)[i]?=some (rowD a):=by simp [encDs,hi]
  have hok:okD a=true:=by simp only [okFam,Bool.and_eq_true] at hk;exact hk.1
  obtain ⟨q1,q2,q3⟩:=zds hok
  have hx:∀ d∈expF a,okD d=true:=by
   intro d hd
   unfold expF at hd
   split at hd
   ·rename_i hk3
    simp only [okFam,hk3,if_true,Bool.and_eq_true] at hk
    split at hd
    ·rename_i x e hde
     rw [hde] at hk
     split at hd
     ·have:=hk.2.2;simp only [Bool.and_eq_true,List.all_eq_true] at this;exact this.1 d hd
     ·simp at hd;subst hd;exact hok
    ·simp at hd;subst hd;exact hok
   ·simp at hd;subst hd;exact hok
  have hxl:(expF a).length<=1000:=by
   unfold expF
   split
   ·rename_i hk3
    simp only [okFam,hk3,if_true,Bool.and_eq_true] at hk
    split
    ·rename_i x e hde
     rw [hde] at hk
     split
     ·have:=hk.2.2;simp only [Bool.and_eq_true,decide_eq_true_eq] at this;exact this.2
     ·simp
    ·simp
   ·simp
  refine idxN r1 (idxN r1 ?_)
  refine seq0 [(5,.p (.sl 16 (encDs (expF a))))] [] [5] [] [] hE rfl rfl rfl ?_ ?_
  ·refine brS (fun h3=>idxN r1 ?_) (fun h3=>⟨?_,rfl,rfl,trivial⟩)
   ·have hk3:a.kind=3:=h3
    simp only [okFam,hk3,if_true,Bool.and_eq_true,List.all_eq_true] at hk
    cases hd:zfj a with
    | none=>rw [hd] at hk;exact absurd hk.2.2 (by simp)
    | some R =>
      refine call0 (zqq a q1 q2 hk.2.1 R hd) (brS (fun h0=>⟨Sub.eq ?_,rfl,rfl,trivial⟩) (fun h0=>⟨Sub.eq ?_,rfl,rfl,trivial⟩))
      ·have h0':R.2=0:=h0
       unfold expF;rw [if_pos hk3,hd];simp only;rw [if_pos h0'];rfl
      ·have h0':¬ R.2=0:=h0
       unfold expF;rw [if_pos hk3,hd];simp only;rw [if_neg h0'];rfl
   ·have hk3:¬ a.kind=3:=h3
    refine Sub.eq ?_
    unfold expF;rw [if_neg hk3];rfl
  refine call1 [1000,1001] (znx L (expF a) 0 (by omega) g3 (fun d hd=>⟨(zds (hx d hd)).2.1,by have:=(zds (hx d hd)).2.2;omega⟩)) rfl rfl (za _) (And.intro (by omega) ?_)
  have hal:=zjp L (expF a)
  rw [zbk] at hal
  refine ⟨i+1,rAddF L (expF a),⟨by omega,g2,zm3 g3,by rw [zbk];omega⟩,by omega,Sub.i (by omega),?_⟩
  rw [zbk]
  exact ⟨rfl,rfl,trivial⟩
 ·have:i=l.length:=by omega
  subst this
  rw [List.drop_length] at g2
  simp only [envF] at g2
  rw [g2]
  exact ⟨rfl,rfl⟩
theorem zxd (b:Nat) (hb:1004<=b):Con Tryz.prog 104 [] [] (fun r o=>r=.ptr b 0/\o=envQ b [] [] 0 none 0 none):=by
 have h:=New_con.swE b hb
 refine fun w M0 own' vals h3 h4=>(h w M0 own' vals h3 h4).mono ?_
 rintro e w' ⟨r,o,own2,v',e1,⟨r0,o0,⟨rfl,rfl⟩,rfl,rfl⟩,g⟩
 refine ⟨_,_,own2,v',e1,⟨rfl,rfl⟩,?_⟩
 rw [z8y,show (AV.ptr 1000 0).ren (swE b)=.ptr b 0 by simp only [AV.ren,show swE b 1000=b from swE_0 b 0 (by decide)]] at g
 exact g
theorem EnP00:EnP [] [] none:=⟨.inr ⟨rfl,rfl⟩,by simp [zz],by simp,by simp,by simp⟩
def bothF:List Dcl->List Dcl->List Dcl
 | acc,[]=>acc
 | acc,d::r=>bothF (rAddF acc [d]) r
def bothO (L:List Dcl) (pv:Nat) (pl:Option (List (ByteArray×Int))) (ov:Nat):Obs:=envQ 1004 [] L pv pl ov (odO ([]++L))++refE 1000 L 0
structure BothOK (l:List Dcl):Prop where
 n:∀ d∈l,narD d=true
 c:∀ d∈l,CpD d
 s:∀ d∈l,d.name.size<=1000000000000
 l:l.length<=1000000
set_option maxHeartbeats 2000000 in
theorem ztj (l:List Dcl) (h:BothOK l):Con Tryz.prog 50 [.p (.sl 16 (encDs l))] [] (fun r o=>r=.tp [.ptr 1004 0,.ptr 1000 0]/\∃ pv pl ov,EnP [] (bothF [] l) pl/\o=bothO (bothF [] l) pv pl ov):=by
 have hel:=zd5 l
 have hlen:=h.l
 refine cv [] [] [1004,1005,1006,1007,1000,1001] Tryz.func50 31 Tryz.ntmps50 rfl rfl fun cx hE=>call1 [] (zxd 1004 (by decide)) rfl rfl (za _) (call1 [] znw rfl rfl (za _) ?_)
 refine loop5 (fun (i:Nat) (L:List Dcl) (pv ov:Nat) (pl:Option (List (ByteArray×Int)))=>[(6,.p (I i))]) (fun i L pv ov pl=>bothO L pv pl ov) (fun i L pv ov pl=>i<=l.length/\bothF [] l=bothF L (l.drop i)/\EnP [] L pl/\L.length<=i) (fun i L pv ov pl=>l.length-i) 0 [] 0 0 none [6] [1004,1005,1006,1007,1000,1001] hE rfl rfl rfl ⟨Sub.refl _,rfl,rfl,rfl,rfl,rfl,rfl,trivial⟩ ⟨by omega,rfl,EnP00,by simp⟩ fun i L pv ov pl ⟨g1,g2,g3,g4⟩=>?_
 refine fun _=>brS (fun hlt'=>?_) (fun hlt'=>?_)
 ·have hlt:i<l.length:=by omega
  have hi:l[i]?=some (l[i]):=List.getElem?_eq_getElem hlt
  have d1:l.drop i=l[i]::l.drop (i+1):=List.drop_eq_getElem_cons hlt
  have hm:=List.getElem_mem hlt
  generalize l[i]=a at hi d1 hm
  rw [d1] at g2
  simp only [bothF] at g2
  have r1:(encDs l)[i]?=some (rowD a):=by simp [encDs,hi]
  have hnr:∀ d∈[a],narD d=true:=fun d hd=>by rw [List.mem_singleton.1 hd];exact h.n a hm
  have hs:=h.s a hm
  refine idxN r1 (callX [1004,1005,1006,1007] (zwv 1004 (.inr (by decide)) [] L [a] pv ov pl g3 (by simp;omega) hnr (fun d hd=>by rw [List.mem_singleton.1 hd];omega)) rfl rfl (za _) fun r o ⟨e1,L',pv',pl',ov',hE1,e2,e3⟩=>?_)
  subst e1 e2
  have e4:L'=rAddF L [a]:=by rw [zbk];exact e3
  have hal:=zjp L [a]
  refine idxN r1 (call1 [1000,1001] (znx L [a] 0 (by simp;omega) g3.nd (fun d hd=>by rw [List.mem_singleton.1 hd];exact ⟨h.c a hm,hs⟩)) rfl rfl (za _) (And.intro (by omega) ?_))
  rw [<- e3]
  refine ⟨i+1,L',pv',ov',pl',⟨by omega,by rw [e4];exact g2,hE1,by rw [e4];simp at hal;omega⟩,by omega,Sub.i (by omega),rfl,rfl,rfl,rfl,rfl,rfl,trivial⟩
 ·have:i=l.length:=by omega
  subst this
  rw [List.drop_length] at g2
  simp only [bothF] at g2
  rw [g2]
  exact ⟨rfl,pv,pl,ov,g3,rfl⟩
theorem zxe {l:List Dcl} (h:(l.all okD)=true) (hl:l.length<=1000000):BothOK l:=by
 rw [List.all_eq_true] at h
 refine ⟨fun d hd=>?_,fun d hd=>(zds (h d hd)).2.1,fun d hd=>by have:=(zds (h d hd)).2.2;omega,hl⟩
 have:=h d hd
 simp only [okD,Bool.and_eq_true,decide_eq_true_eq,List.all_eq_true] at this
 obtain ⟨h1,h2,h3,h4,h5,h6⟩:=this
 unfold narD
 simp only [Bool.and_eq_true,decide_eq_true_eq,List.all_eq_true]
 exact ⟨zbi _ (z2q h1).w,zbi _ (z2q h2).w,by omega,fun c hc=>zbi _ (z2q (h4 c hc).1).w⟩
theorem ztk (l:List Dcl) (h:(l.all okFam)=true) (hlen:l.length<=1000):Con Tryz.prog 19 [.p (.sl 16 (encDs l))] [] (fun r o=>r=.ptr 2000 0/\o=refE 2000 (envF [] l) 0) :=
 ((zxc l h hlen).at1 1000 2000 rfl rfl rfl rfl).at1 1001 2001 rfl rfl rfl rfl
def preL:List Dcl:=envF [] prelL
theorem zxf:(prelL.all okFam)=true:=by kernel_rfl
theorem zm4:(preL.all okD)=true:=by kernel_rfl
theorem zo9:preL.length=27:=by kernel_rfl
theorem ztl:bothF [] preL=preL:=by kernel_rfl
theorem zhc:Con Tryz.prog 27 [] [] (fun r o=>r=.tp [.ptr 1004 0,.ptr 1000 0]/\∃ pv pl ov,EnP [] preL pl/\o=bothO preL pv pl ov):=by
 have hb:=ztj preL (zxe zm4 (by rw [zo9];omega))
 rw [ztl] at hb
 refine cv [] [] [1004,1005,1006,1007,1000,1001] Tryz.func27 10 Tryz.ntmps27 rfl rfl fun cx hE=>call0 zjo (call1 [] (ztk prelL zxf (by simp [prelL,famsL,moreL])) rfl rfl (za _) (callX [] hb rfl rfl (.cons Sub.ts .nil) fun r o ⟨e1,pv,pl,ov,hE1,e2⟩=>?_))
 subst e1 e2
 exact ⟨rfl,pv,pl,ov,hE1,rfl⟩
end Go.Ab.YtpneaijfkefeaaaGreat
set_option linter.unusedVariables false
set_option linter.unusedSimpArgs false
namespace Go.Ab
open Go Go.RowKit
def Kv.ren2 (ρ:Nat->Nat):Kv->Kv
 | .a x=>.a (x.ren ρ)
 | .t=>.t
 | .f=>.f
def renV2 (ρ:Nat->Nat):VR->VR
 | []=>[]
 | (t,x)::l=>(t,x.ren2 ρ)::renV2 ρ l
theorem zjq {ρ:Nat->Nat}:∀ {r:VR},toR (renV2 ρ r)=renR ρ (toR r)
 | []=>rfl
 | (t,x)::l=>by
   simp only [renV2,toR,renR,zjq (r:=l)]
   cases x<;>rfl
def sameR (dk:List Nat):VR->VR->Prop
 | [],[]=>True
 | (t,x)::l,(t',y)::l'=>t=t'/\(mem t dk=true\/x=y)/\sameR dk l l'
 | _,_=>False
theorem zjr {dk:List Nat}:∀ {r r':VR},sameR dk r r'->∀ q,mem q dk=false->get r' q=get r q
 | [],[],_,q,_=>rfl
 | (t,x)::l,(t',y)::l',⟨h1,h2,h3⟩,q,hq=>by
   subst h1
   simp only [get]
   cases hb:Nat.beq t q with
   | true =>
     obtain rfl:=Nat.eq_of_beq_eq_true hb
     rcases h2 with h2 | h2
     ·rw [h2] at hq;cases hq
     ·rw [h2];rfl
   | false=>exact zjr h3 q hq
 | [],_::_,h,_,_=>h.elim
 | _::_,[],h,_,_=>h.elim
theorem zdt {α:Type}:∀ {l:List (Nat×α)} {k:Nat},k∈l.map (·.1)->get l k=none->False
 | (t,x)::l,k,h,hn=>by
   simp only [get] at hn
   cases hb:Nat.beq t k with
   | true=>rw [hb] at hn;cases hn
   | false =>
     rw [hb] at hn
     rcases List.mem_cons.1 h with h | h
     ·simp only at h;subst h;rw [Nat.beq_refl] at hb;cases hb
     ·exact zdt h hn
theorem leX.sw {P:Program} {cx:Cx} {n:Nat} {dk:List Nat} {r:VR} {o orest:Obs} {dyn:Regs} {dobjs:Obs} (a b:Nat) (ha:get cx.objs0 a=none) (hb:get cx.objs0 b=none) (hk:sameR dk r (renV2 (Ab.sw a b) r)) (h:leX P cx n dk (renV2 (Ab.sw a b) r) (renO (Ab.sw a b) o) orest dyn dobjs):leX P cx n dk r o orest dyn dobjs:=by
 have nm:∀ k,get cx.objs0 k=none->k ∉ cx.objs0.map (·.1):=fun k hk hm=>by
  exact zdt hm hk
 obtain ⟨r2,o2,h1,h2,h3⟩:=h
 refine ⟨r2,o2,Le.trans (Le.swk a b (nm a ha) (nm b hb)) ?_,fun q hq=>(h2 q hq).trans (by rw [z1s,z1s,zjr hk q hq]),h3⟩
 rw [<- zjq]
 exact h1
end Go.Ab
namespace Go.Ab.YtpneaijfkefeaaaGreat
open Go Go.RowKit Go.Ab Go.Proofs
theorem zoa (n:Int):PCon Tryz.prog 188 [.p (I n)] (tv (mkV n)):=cv [] [] [] Tryz.func188 5 Tryz.ntmps188 rfl rfl fun cx hE=>⟨rfl,rfl⟩
theorem zm5 (k:Int) (a b:Trm):PCon Tryz.prog 171 [.p (I k),tv a,tv b] (tv (mkB k a b)):=cv [] [] [] Tryz.func171 12 Tryz.ntmps171 rfl rfl fun cx hE=>⟨tv2 _ _ _ [] _ _,rfl⟩
theorem zat (k i:Int):PCon Tryz.prog 209 [.p (I k),.p (I i)] (.p (I (bndF k i))):=by
 refine cv [] [] [] Tryz.func209 23 Tryz.ntmps209 rfl rfl fun cx hE=>?_
 repeat' (first | refine brS (fun _=>?_) (fun _=>?_) | refine fun _=>?_)
 all_goals exact ⟨I_eq (by unfold bndF;split<;>omega),rfl⟩
theorem z2o (h:Trm) (l:List Trm) (hl:l.length<=1000000000000):PCon Tryz.prog 168 [tv h,.p (.sl 5 (encTs l))] (tv (appT h l)):=by
 refine cv [] [] [] Tryz.func168 19 Tryz.ntmps168 rfl rfl fun cx hE=>fun _=>?_
 refine znm l () (fun p _=>[(9,.p (I p.length))]) (fun p _=>[(2,ceT (appT h p))]) (fun _ _=>True) [9] [2] hE rfl rfl rfl (leX.same ⟨Sub.refl _,rfl,rfl,trivial⟩) trivial (fun _ _=>brTe ⟨rfl,rfl⟩) (fun p a q _ hq _=>?_)
 have:=zj hq
 refine brT' hq (idxT hq (And.intro (by omega) ⟨(),trivial,leX.by (Le.subC 2 3 rfl rfl (Sub.nil (sz:=3)) rfl rfl) (leX.same ⟨Sub.i (by simp),?_,rfl,trivial⟩)⟩))
 rw [z9i]
 simp [ceT,mkA,zb,rowT]
 refine ⟨rfl,rfl,?_,rfl⟩
 simp [z1i]
theorem z7f {u f a:Trm} (hk:u.kind=3) (ha:u.args=[f,a]):argsT u=argsT f++[a]/\headT u=headT f:=by
 unfold argsT headT
 rw [zh4 hk ha,z6y f [a]]
 exact ⟨rfl,rfl⟩
theorem zdu {u:Trm} (hk:¬ u.kind=3):argsT u=[]/\headT u=u:=by
 unfold argsT headT
 rw [zh5 hk]
 exact ⟨rfl,rfl⟩
def zRow:List PV:=[I 0,I 0,St ⟨#[]⟩,nilS,nilS]
theorem zz0l {x:List PV} (m:Nat) (row:List PV) (xs:List (List PV)):(List.replicate (m+1) x++xs).set m row=List.replicate m x++row::xs:=by
 rw [List.replicate_succ',List.append_assoc,List.set_append_right _ _ (by simp)];simp
set_option maxHeartbeats 2000000 in
theorem z3k (b:Int) (t:Trm) (hw:wfT b t=true) (hd:dpT t<=1000000000):PCon Tryz.prog 137 [tv t] (.tp [tv (headT t),.p (.sl 5 (encTs (argsT t)))]):=by
 refine cv [] [1000013] [] Tryz.func137 43 Tryz.ntmps137 rfl rfl fun cx hE=>?_
 have hfr:∀ k,get cx.objs0 k=none:=fun k=>hE.k0 k rfl
 refine znm (argsT t).reverse t (fun p u=>[(4,.p (I p.length)),(5,.ptr 905 0)]) (fun p u=>[(905,ceT u)]) (fun p u=>argsT u++p.reverse=argsT t/\headT u=headT t/\wfT b u=true/\p.length+dpT u<=dpT t) [4,5,7,11,16] [5,905] hE rfl rfl rfl ?_ ⟨by simp,rfl,hw,by simp⟩ (fun u ⟨g1,g2,g3,g4⟩=>?_) (fun p a q u hq ⟨g1,g2,g3,g4⟩=>?_)
 ·refine leX.sw 5 905 (hfr 5) (hfr 905) ?_ (leX.same ⟨Sub.refl _,Sub.refl _,rfl,rfl,rfl,trivial⟩)
  repeat' (first | exact trivial | refine And.intro rfl (And.intro (Or.inl rfl) ?_) | refine And.intro rfl (And.intro (Or.inr rfl) ?_))
 ·have hn:argsT u=[]:=by
   have:=congrArg List.length g1
   simp at this;exact this
  have hk:¬ u.kind=3:=fun hk=>by
   obtain ⟨f,a,ha⟩:=z4q g3 (.inl hk)
   rw [(z7f hk ha).1] at hn;simp at hn
  have hN:(argsT t).length<=dpT t:=by simp at g4;omega
  refine brZ hk (And.intro (by simp;omega) (And.intro (by simp;omega) ?_))
  refine loop2 (fun (m:Nat) (v:Trm)=>[(4,.p (I m))]) (fun m v=>[(1,ceT v),(24,.mu 35 5 0 (List.replicate m zRow++encTs ((argsT t).drop m)))]) (fun m v=>m<=(argsT t).length/\argsT v=(argsT t).take m/\headT v=headT t/\wfT b v=true) (fun m v=>m) (argsT t).length t [4] [1,24] hE rfl rfl rfl ⟨Sub.i (by simp),rfl,?_,rfl,rfl,trivial⟩ ⟨Nat.le_refl _,by simp,rfl,hw⟩ fun m v ⟨q1,q2,q3,q4⟩=>?_
  ·have e1:(((argsT t).reverse.length:Nat):Int).toNat=(argsT t).length:=by simp
   have e2:encTs ([]:List Trm)=[]:=by simp [zb]
   rw [List.drop_length,e2,List.append_nil,<- e1];rfl
  refine brS (fun hm=>?_) (fun hm=>?_)
  ·obtain ⟨j,rfl⟩:∃ j,m=j+1:=⟨m-1,by omega⟩
   have hlt:j<(argsT t).length:=by omega
   have hk3:v.kind=3:=Classical.byContradiction fun hk=>by
    have e:=(zdu hk).1
    rw [e] at q2
    have:=congrArg List.length q2
    simp at this;omega
   obtain ⟨f,a,ha⟩:=z4q q4 (.inl hk3)
   obtain ⟨s1,s2⟩:=z7f hk3 ha
   have hj:(argsT t)[j]?=some ((argsT t)[j]):=List.getElem?_eq_getElem hlt
   rw [s1,z1z hj] at q2
   obtain ⟨q5,q6⟩:=List.append_inj' q2 rfl
   have q6':a=(argsT t)[j]:=by simpa using q6
   have r0:(encTs v.args)[0]?=some (rowT f):=by rw [ha];simp [zb]
   have r1:(encTs v.args)[1]?=some (rowT a):=by rw [ha];simp [zb]
   have hi:((j+1:Nat):Int)-1=(j:Nat):=by omega
   have hml:(List.replicate (j+1) zRow++encTs ((argsT t).drop (j+1))).length=(argsT t).length:=by simp;omega
   have hset:(List.replicate (j+1) zRow++encTs ((argsT t).drop (j+1))).set j (rowT a)=List.replicate j zRow++encTs ((argsT t).drop j):=by
    rw [zz0l,show (argsT t).drop j=(argsT t)[j]::(argsT t).drop (j+1) from List.drop_eq_getElem_cons hlt,q6'];simp only [zb,List.map_cons]
   refine And.intro (by omega) ?_
   rw [hi]
   refine idxN (i:=1) r1 (And.intro (by omega) (And.intro (by rw [hml];omega) (pst1 (i:=j) (by rw [hml];exact hlt) (idxN (i:=0) r0 (And.intro (by omega) ?_)))))
   refine ⟨j,f,⟨by omega,q5,by rw [<- s2];exact q3,(zf q4).sub f (by rw [ha];simp)⟩,by omega,Sub.i (by omega),rfl,?_,rfl,rfl,trivial⟩
   exact congrArg (Ob.mu 35 5 0) hset
  ·obtain rfl:m=0:=by omega
   have hv:v=headT t:=by
    have hk:¬ v.kind=3:=fun hk=>by
     obtain ⟨f,a,ha⟩:=z4q q4 (.inl hk)
     rw [(z7f hk ha).1] at q2;simp at q2
    rw [<- q3];exact (zdu hk).2.symm
   subst hv
   refine join1 (A:=Unit) (fun _=>[(3,.p (.sl 5 (encTs (argsT t))))]) (fun _=>[(2,ceT (headT t))]) (fun _=>True) [3] [2,24] [] hE rfl rfl rfl ?_ (fun _ _=>⟨rfl,rfl⟩)
   exact ⟨(),trivial,leX.put (t:=3) rfl (Le.muP (k:=24) (t:=3) rfl rfl) (leX.same ⟨Sub.refl _,rfl,rfl,rfl,trivial⟩)⟩
 ·have hk:u.kind=3:=Classical.byContradiction fun hk=>by
   have e:=(zdu hk).1
   have:=congrArg List.length g1
   rw [e] at this
   have h2:=congrArg List.length hq
   simp at this h2;omega
  obtain ⟨f,b',ha⟩:=z4q g3 (.inl hk)
  obtain ⟨s1,s2⟩:=z7f hk ha
  have r0:(encTs u.args)[0]?=some (rowT f):=by rw [ha];simp [zb]
  have hel:=zc u.args
  have hl2:u.args.length=2:=by rw [ha];rfl
  have hdf:=z1h (t:=u) (a:=f) (by rw [ha];simp)
  refine brY hk (fun _=>brY (by omega) (And.intro (by omega) ?_))
  refine idxN (i:=0) r0 ?_
  refine ⟨f,?_,?_⟩
  ·have hpr:(p++[a]).length=p.length+1:=by simp
   refine ⟨?_,by rw [<- s2];exact g2,(zf g3).sub f (by rw [ha];simp),by omega⟩
   have e:=g1
   rw [s1] at e
   have hrev:=congrArg List.reverse hq
   rw [List.reverse_reverse,<- e] at hrev
   simp only [List.reverse_append,List.reverse_cons,List.append_assoc,List.singleton_append,List.cons_append,List.nil_append] at hrev
   have hlen:(argsT f).length=q.reverse.length:=by
    have:=congrArg List.length hrev;simp at this;simp;omega
   obtain ⟨h5,h6⟩:=List.append_inj hrev hlen
   have h7:b'=a:=by simpa using h6
   rw [<- e,h7];simp
  ·refine leX.sw 5 905 (hfr 5) (hfr 905) ?_ (leX.same ⟨Sub.i (by simp),Sub.refl _,rfl,rfl,rfl,trivial⟩)
   repeat' (first | exact trivial | refine And.intro rfl (And.intro (Or.inl rfl) ?_) | refine And.intro rfl (And.intro (Or.inr rfl) ?_))
end Go.Ab.YtpneaijfkefeaaaGreat
namespace Go.Ab.YtpneaijfkefeaaaGreat
open Go Go.RowKit Go.Ab Go.Proofs
mutual
theorem z8x:∀ t:Trm,lvsT [] t=t
 | ⟨k,n,s,ls,l⟩=>by
   rw [zag,z6j l,z1o]
   rw [show putF []=id from funext zbh];simp
theorem z6j:∀ l:List Trm,lvsTs [] l=l
 | []=>rfl
 | a::r=>by simp only [lvsTs];rw [z8x a,z6j r]
end
set_option maxHeartbeats 2000000 in
theorem z8b (by_:List Lvl) (hby:∀ b∈by_,narL b=true) (b:Int) (t:Trm):wfT b t=true->PCon Tryz.prog 207 [tv t,.p (.sl 3 (encLs by_))] (tv (lvsT by_ t)):=by
 intro hw
 have w:=zf hw
 have ih:∀ a∈t.args,PCon Tryz.prog 207 [tv a,.p (.sl 3 (encLs by_))] (tv (lvsT by_ a)):=fun a ha=>z8b by_ hby b a (w.sub a ha)
 have hfew:=w.few_args
 have hln:=w.few
 have hel:=zq t.levels
 have het:=zc t.args
 have hbl:=zq by_
 refine cv [] [1000003,1000011] [] Tryz.func207 64 Tryz.ntmps207 rfl rfl fun cx hE=>fun _=>brS (fun h0=>?_) (fun h0=>?_)
 ·have:by_=[]:=List.eq_nil_of_length_eq_zero (by omega)
  subst this
  exact ⟨by rw [z8x];rfl,rfl⟩
 rw [zag,z3s,z1o]
 refine join1 (A:=Unit) (fun _=>[]) (fun _=>[(2,ceT ⟨t.kind,t.n,t.name,t.levels.map (putF by_),t.args⟩)]) (fun _=>True) [] [2] [] hE rfl rfl rfl ?_ (fun _ _=>?_)
 ·refine fun _=>brS (fun h1=>?_) (fun h1=>?_)
  ·refine fun _=>And.intro (by first | omega | (dsimp only;omega)) (And.intro (by first | omega | (dsimp only;omega)) ?_)
   refine fun _=>?_
   refine loopP t.levels (fun p=>[(26,.p (I p.length)),(5,.nn 22 3 (encLs (p.map (putF by_))))]) (fun p=>[(22,.ar 74 3 (encLs (p.map (putF by_))).length)]) (fun _=>True) [26,5] [22] hE rfl rfl rfl ⟨Sub.refl _,Sub.refl _,rfl,rfl,rfl,trivial⟩ trivial (fun _=>brLe ⟨(),trivial,leX.by (Le.subC 2 3 rfl rfl Sub.nnp rfl rfl) (leX.same ⟨rfl,rfl,trivial⟩)⟩) (fun p a q hl _=>?_)
   have:=zj hl
   refine brL hl (idxL hl (call0 (zsa by_ hby a (w.nar a (zg hl))) (app1 (by simp;omega) (by simp;omega) (And.intro (by omega) ?_))))
   refine ⟨trivial,Sub.i (by simp),Sub.eq ?_,ar_eq (by simp),rfl,rfl,trivial⟩
   simp [z1i,zb,rowL,rowT];rfl
  ·have:t.levels=[]:=List.eq_nil_of_length_eq_zero (by omega)
   exact ⟨(),trivial,leX.same ⟨by rw [this];rfl,rfl,trivial⟩⟩
 ·refine join1 (A:=Unit) (fun _=>[]) (fun _=>[(2,ceT ⟨t.kind,t.n,t.name,t.levels.map (putF by_),t.args.map (lvsT by_)⟩)]) (fun _=>True) [] [2] [] hE rfl rfl rfl ?_ (fun _ _=>⟨rfl,rfl⟩)
  refine fun _=>brS (fun h1=>?_) (fun h1=>?_)
  ·refine fun _=>And.intro (by first | omega | (dsimp only;omega)) (And.intro (by first | omega | (dsimp only;omega)) ?_)
   refine fun _=>?_
   refine loopP t.args (fun p=>[(50,.p (I p.length)),(8,.nn 46 5 (encTs (p.map (lvsT by_))))]) (fun p=>[(46,.ar 35 5 (encTs (p.map (lvsT by_))).length)]) (fun _=>True) [50,8] [46] hE rfl rfl rfl ⟨Sub.refl _,Sub.refl _,rfl,rfl,rfl,trivial⟩ trivial (fun _=>brTe ⟨(),trivial,leX.by (Le.subC 2 4 rfl rfl Sub.nnp rfl rfl) (leX.same ⟨rfl,rfl,trivial⟩)⟩) (fun p a q hl _=>?_)
   have:=zj hl
   refine brT' hl (idxT hl (call0 (ih a (zg hl)) (app1 (by simp;omega) (by simp;omega) (And.intro (by omega) ?_))))
   refine ⟨trivial,Sub.i (by simp),Sub.eq ?_,ar_eq (by simp),rfl,rfl,trivial⟩
   simp [z1i,zb,rowL,rowT];rfl
  ·have:t.args=[]:=List.eq_nil_of_length_eq_zero (by have h1':¬ ((encTs t.args).length:Int)>0:=h1;omega)
   exact ⟨(),trivial,leX.same ⟨by rw [this];rfl,rfl,trivial⟩⟩
termination_by SizeOf.sizeOf t
decreasing_by exact Trm.lt ha
end Go.Ab.YtpneaijfkefeaaaGreat
namespace Go.Ab
open Go Go.RowKit
mutual
def trnT (u:Int->Trm->Bool):Trm->Int->Bool
 | ⟨k,n,s,ls,l⟩,d=>if k=0 then u d ⟨k,n,s,ls,l⟩ else trnTs u k l 0 d
def trnTs (u:Int->Trm->Bool) (k:Int):List Trm->Int->Int->Bool
 | [],_,_=>false
 | a::r,i,d=>trnT u a (d+bndF k i) || trnTs u k r (i+1) d
end
theorem ztm (u:Int->Trm->Bool) (t:Trm) (d:Int):trnT u t d=if t.kind=0 then u d t else trnTs u t.kind t.args 0 d:=by cases t;rfl
theorem zjs (u:Int->Trm->Bool) (k:Int):∀ (l q:List Trm) (i d:Int),trnTs u k (l++q) i d=(trnTs u k l i d || trnTs u k q (i+l.length) d)
 | [],q,i,d=>by simp [trnTs]
 | a::r,q,i,d=>by
   simp only [List.cons_append,trnTs,zjs u k r q (i+1) d,List.length_cons,Bool.or_assoc]
   rw [show i+1+(r.length:Int)=i+(↑(r.length+1):Int) by push_cast;omega]
theorem z7g (u:Int->Trm->Bool) (k:Int) (p:List Trm) (a:Trm) (d:Int):trnTs u k (p++[a]) 0 d=(trnTs u k p 0 d || trnT u a (d+bndF k p.length)):=by
 rw [zjs];simp [trnTs]
mutual
theorem ztn {u:Int->Trm->Bool} {g:Int->Trm->Trm} (h:∀ d v,u d v=false->g d v=v):∀ (t:Trm) (d:Int),trnT u t d=false->trvT g t d=t
 | ⟨k,n,s,ls,l⟩,d,hf=>by
   simp only [trnT] at hf
   simp only [trvT]
   split
   ·rename_i hk;rw [if_pos hk] at hf;exact h _ _ hf
   ·rename_i hk;rw [if_neg hk] at hf;rw [zhd h k l 0 d hf]
theorem zhd {u:Int->Trm->Bool} {g:Int->Trm->Trm} (h:∀ d v,u d v=false->g d v=v) (k:Int):∀ (l:List Trm) (i d:Int),trnTs u k l i d=false->trvTs g k l i d=l
 | [],_,_,_=>rfl
 | a::r,i,d,hf=>by
   simp only [trnTs,Bool.or_eq_false_iff] at hf
   simp only [trvTs]
   rw [ztn h a _ hf.1,zhd h k r _ _ hf.2]
end
mutual
theorem zjt (by_ f:Int):∀ (t:Trm) (d:Int),trvT (lftV by_ f) t d=trvT (lftV by_ 0) t (d+f)
 | ⟨k,n,s,ls,l⟩,d=>by
   simp only [trvT,zfn by_ f k l 0 d]
   split
   ·simp only [lftV]
    rw [show f+d=0+(d+f) by omega]
   ·rfl
theorem zfn (by_ f:Int) (k:Int):∀ (l:List Trm) (i d:Int),trvTs (lftV by_ f) k l i d=trvTs (lftV by_ 0) k l i (d+f)
 | [],_,_=>rfl
 | a::r,i,d=>by
   simp only [trvTs]
   rw [zjt by_ f a,zfn by_ f k r,show d+bndF k i+f=d+f+bndF k i by omega]
end
def lftU (f:Int) (d:Int) (v:Trm):Bool:=decide (¬ v.n-d<f)
def opnU (d:Int) (v:Trm):Bool:=decide (¬ v.n-d<0)
theorem zz0m (by_ f:Int) (d:Int) (v:Trm) (h:lftU f d v=false):lftV by_ f d v=v:=by
 have h':v.n-d<f:=by simpa [lftU] using h
 unfold lftV;rw [if_neg (by omega)]
theorem zz0n (vs:List Trm) (d:Int) (v:Trm) (h:opnU d v=false):opnV vs d v=v:=by
 have h':v.n<d:=by simpa [opnU] using h
 unfold opnV;rw [if_pos (by omega)]
end Go.Ab
namespace Go.Ab.YtpneaijfkefeaaaGreat
open Go Go.RowKit Go.Ab Go.Proofs
mutual
theorem zob {g:Int->Trm->Trm} (h:∀ d v,g d v=v):∀ (t:Trm) (d:Int),trvT g t d=t
 | ⟨k,n,s,ls,l⟩,d=>by
   simp only [trvT,h,zju h k l 0 d];split<;>rfl
theorem zju {g:Int->Trm->Trm} (h:∀ d v,g d v=v) (k:Int):∀ (l:List Trm) (i d:Int),trvTs g k l i d=l
 | [],_,_=>rfl
 | a::r,i,d=>by simp only [trvTs];rw [zob h a,zju h k r]
end
theorem zxg (t:Trm) (d:Int):opnT [] t d=t:=by
 refine zob (fun d v=>?_) t d
 unfold opnV
 split
 ·rfl
 ·split
  ·rename_i h1 h2;simp at h2;omega
  ·cases v;simp
def trnV (t:Trm) (b:Bool):AV:=.tp [tv t,.p (B b)]
set_option maxHeartbeats 4000000 in
theorem zdv (F:Nat) (hF:F=218\/F=232) (T0 T1:Nat) (p0 p1:PV) (g:Int->Trm->Trm) (u:Int->Trm->Bool) (hid:∀ d v,u d v=false->g d v=v) (b D:Int) (hD:D<=1000000000000000)
  (hf:∀ (v:Trm) (d:Int),wfT b v=true->v.kind=0->0<=d->d<=D->Con Tryz.prog F [tv v,.p (I d),.ptr 1000 0,.ptr 1001 0] [(1000,.ce T0 [.p p0]),(1001,.ce T1 [.p p1])] (fun r o=>r=trnV (g d v) (u d v)/\o=[(1000,.ce T0 [.p p0]),(1001,.ce T1 [.p p1])])) (t:Trm):∀ d:Int,0<=d->d+dpT t<=D->wfT b t=true ->
  Con Tryz.prog 217 [tv t,.p (I d),.fv (.func F) [] [.ptr 1000 0,.ptr 1001 0]] [(1000,.ce T0 [.p p0]),(1001,.ce T1 [.p p1])] (fun r o=>r=trnV (trvT g t d) (trnT u t d)/\o=[(1000,.ce T0 [.p p0]),(1001,.ce T1 [.p p1])]):=by
 intro d h0 h1 hw
 have w:=zf hw
 have hn0:=w.n0
 have hn1:=w.n1
 have hfew:=w.few_args
 have het:=zc t.args
 have ih:∀ a∈t.args,∀ d:Int,0<=d->d+dpT a<=D->Con Tryz.prog 217 [tv a,.p (I d),.fv (.func F) [] [.ptr 1000 0,.ptr 1001 0]] [(1000,.ce T0 [.p p0]),(1001,.ce T1 [.p p1])] (fun r o=>r=trnV (trvT g a d) (trnT u a d)/\o=[(1000,.ce T0 [.p p0]),(1001,.ce T1 [.p p1])]):=fun a ha d g0 g1=>zdv F hF T0 T1 p0 p1 g u hid b D hD hf a d g0 g1 (w.sub a ha)
 rcases hF with rfl | rfl
 all_goals
  refine cv [] [1000015] [1000,1001] Tryz.func217 69 Tryz.ntmps217 rfl rfl fun cx hE=>brS (fun hk=>?_) (fun hk=>?_)
  ·refine call1 [1000,1001] (hf t d hw hk h0 (by omega)) rfl rfl (za _) ⟨?_,rfl⟩
   rw [z7w,ztm,if_pos hk,if_pos hk];rfl
  rw [z7w,ztm,if_neg hk,if_neg hk]
  refine fun _=>?_
  refine znm t.args false (fun p w=>[(25,.p (I p.length)),(8,cond w (.nn 50 5 (encTs (trvTs g t.kind p 0 d))) (.p nilS))]) (fun p w=>cond w [(50,.ar 35 5 (encTs (trvTs g t.kind p 0 d)).length)] []) (fun p w=>w=trnTs u t.kind p 0 d) [25,8] [50] hE rfl rfl rfl (leX.same ⟨Sub.refl _,Sub.refl _,rfl,rfl,rfl,rfl,trivial⟩) rfl (fun w hw=>?_) (fun p a q w hl hw=>?_)
  ·cases w with
   | true =>
     refine brTe ?_
     refine join1 (A:=Unit) (fun _=>[]) (fun _=>[(3,ceT ⟨t.kind,t.n,t.name,t.levels,trvTs g t.kind t.args 0 d⟩)]) (fun _=>True) [] [3,50] [] hE rfl rfl rfl ?_ (fun _ _=>⟨by unfold trnV;rw [<- hw];rfl,rfl⟩)
     exact ⟨(),trivial,leX.by (Le.subC 3 4 rfl rfl Sub.nnp rfl rfl) (leX.same ⟨rfl,rfl,rfl,rfl,trivial⟩)⟩
   | false =>
     have e:=zhd hid t.kind t.args 0 d hw.symm
     exact brTe ⟨by unfold trnV;rw [<- hw,e];rfl,rfl⟩
  ·have:=zj hl
   have hbd:=z5w t.kind p.length
   have hda:=z1h (zg hl)
   have hia:=ih a (zg hl) (d+bndF t.kind p.length) (by omega) (by omega)
   have hlen:=z2k g t.kind p 0 d
   have hsn:=z6x g t.kind p a d
   cases w with
   | true =>
     refine brT' hl (idxT hl (call0 (zat _ _) (And.intro (by omega) (callR [1000,1001] hia rfl rfl (za _) (brB (fun h2=>?_) (fun h2=>?_))))))
     ·refine app1 (by first | omega | (simp;done) | (simp;omega) | (simp [hlen];omega)) (by first | omega | (simp;done) | (simp;omega) | (simp [hlen];omega)) (And.intro (by omega) ?_)
      refine ⟨true,?_,leX.same ⟨Sub.i (by simp),?_,?_,rfl,rfl,rfl,rfl,trivial⟩⟩
      ·rw [z7g,<- hw];rfl
      ·refine Sub.eq (congrArg (AV.nn 50 5) ?_)
       rw [hsn,z1f]
      ·exact ar_eq (by simp [z2k])
     ·refine app1 (by first | omega | (simp;done) | (simp;omega) | (simp [hlen];omega)) (by first | omega | (simp;done) | (simp;omega) | (simp [hlen];omega)) (And.intro (by omega) ?_)
      have e2:=ztn hid a _ h2
      refine ⟨true,?_,leX.same ⟨Sub.i (by simp),?_,?_,rfl,rfl,rfl,rfl,trivial⟩⟩
      ·rw [z7g,<- hw];rfl
      ·refine Sub.eq (congrArg (AV.nn 50 5) ?_)
       rw [hsn,z1f]
      ·exact ar_eq (by simp [z2k])
   | false =>
     have e:=zhd hid t.kind p 0 d hw.symm
     refine brT' hl (idxT hl (call0 (zat _ _) (And.intro (by omega) (callR [1000,1001] hia rfl rfl (za _) (brB (fun h2=>?_) (fun h2=>?_))))))
     ·refine And.intro (by omega) (And.intro (by dsimp only;omega) (And.intro (by omega) ?_))
      refine app2 rfl (by simp;omega) (by simp;omega) ?_
      refine app2 (by simp) (by simp;omega) (by simp;omega) (And.intro (by omega) ?_)
      have htk:(↑p.length:Int).toNat=p.length:=by omega
      have hpt:(encTs t.args).take p.length=encTs p:=by rw [hl];simp [zb]
      refine ⟨true,?_,leX.same ⟨Sub.i (by simp),?_,?_,rfl,rfl,rfl,rfl,trivial⟩⟩
      ·rw [z7g,h2];simp
      ·refine Sub.eq (congrArg (AV.nn 50 5) ?_)
       rw [htk,hpt,hsn,e,List.nil_append,z1f]
      ·exact ar_eq (by simp [z2k];omega)
     ·have e2:=ztn hid a _ h2
      refine And.intro (by omega) ?_
      refine ⟨false,?_,leX.same ⟨Sub.i (by simp),Sub.refl _,rfl,rfl,rfl,rfl,trivial⟩⟩
      rw [z7g,<- hw,h2];rfl
termination_by SizeOf.sizeOf t
decreasing_by exact Trm.lt ha
theorem zqr (f by_:Int) (v:Trm) (d:Int) (h0:-1000000000000000000<=v.n-d) (h1:v.n-d<=1000000000000000000) (h2:-1000000000000000000<=v.n+by_) (h3:v.n+by_<=1000000000000000000) :
  Con Tryz.prog 218 [tv v,.p (I d),.ptr 1000 0,.ptr 1001 0] [(1000,.ce 3 [.p (I f)]),(1001,.ce 3 [.p (I by_)])] (fun r o=>r=trnV (lftV by_ f d v) (lftU f d v)/\o=[(1000,.ce 3 [.p (I f)]),(1001,.ce 3 [.p (I by_)])]):=by
 refine cv [] [] [1000,1001] Tryz.func218 21 Tryz.ntmps218 rfl rfl fun cx hE=>And.intro (by omega) (brS (fun h=>⟨?_,rfl⟩) (fun h=>And.intro (by omega) ⟨?_,rfl⟩))
 ·unfold trnV lftV lftU;rw [if_neg (by omega),decide_eq_false (by omega)];rfl
 ·unfold trnV lftV lftU;rw [if_pos (by omega),decide_eq_true (by omega)];rfl
theorem z9n (by_ f b:Int) (hf0:0<=f) (hf1:f<=1000000000000) (hb0:0<=by_) (hb1:by_<=1000000000000000) (hb:b<=1000000000000000) (t:Trm) (hd:dpT t<=1000000000000) (hw:wfT b t=true) :
  PCon Tryz.prog 187 [tv t,.p (I by_),.p (I f)] (tv (lftT by_ t f)):=by
 have hc:=zdv 218 (.inl rfl) 3 3 (I f) (I by_) (lftV by_ f) (lftU f) (zz0m by_ f) b 1000000000000000 (by omega) (fun v d hv _ h0 h1=>by
  have w:=zf hv
  have h2:=w.n0
  have h3:=w.n1
  exact zqr f by_ v d (by omega) (by omega) (by omega) (by omega)) t 0 (by omega) (by omega) hw
 have hs:trvT (lftV by_ f) t 0=lftT by_ t f:=by rw [zjt];unfold lftT;rw [show (0:Int)+f=f by omega]
 rw [hs] at hc
 refine cv [] [] [] Tryz.func187 19 Tryz.ntmps187 rfl rfl fun cx hE=>brS (fun h=>⟨?_,rfl⟩) (fun h=>?_)
 ·subst h;rw [z5h];rfl
 ·refine callX [5,4] ((hc.sw 1000 5).sw 1001 4) rfl rfl (za _) fun r o ⟨r1,o1,⟨r2,o2,⟨e1,e2⟩,e3,e4⟩,e5,e6⟩=>?_
  subst e1 e2 e3 e4 e5 e6
  exact ⟨rfl,rfl⟩
theorem zqs (vs:List Trm) (b:Int) (hb:b<=1000000000000000) (hvs:∀ v∈vs,wfT b v=true/\dpT v<=1000000000000) (hlen:vs.length<=1000000000000) (v:Trm) (hv:wfT b v=true) (hk:v.kind=0) (d:Int) (h0:0<=d) (h1:d<=1000000000000000) :
  Con Tryz.prog 232 [tv v,.p (I d),.ptr 1000 0,.ptr 1001 0] [(1000,.ce 3 [.p (I vs.length)]),(1001,.ce 33 [.p (.sl 5 (encTs vs))])] (fun r o=>r=trnV (opnV vs d v) (opnU d v)/\o=[(1000,.ce 3 [.p (I vs.length)]),(1001,.ce 33 [.p (.sl 5 (encTs vs))])]):=by
 have w:=zf hv
 have h2:=w.n0
 have h3:=w.n1
 refine cv [] [] [1000,1001] Tryz.func232 36 Tryz.ntmps232 rfl rfl fun cx hE=>And.intro (by omega) (brS (fun h=>⟨?_,rfl⟩) (fun h=>brS (fun h4=>?_) (fun h4=>And.intro (by omega) ⟨?_,rfl⟩)))
 ·unfold trnV opnV opnU;rw [if_pos (by omega),decide_eq_false (by omega)];rfl
 ·have hi:vs.length-1-(v.n-d).toNat<vs.length:=by omega
  have hg:vs[vs.length-1-(v.n-d).toNat]?=some (vs[vs.length-1-(v.n-d).toNat]):=List.getElem?_eq_getElem hi
  have hm:=hvs _ (List.getElem_mem hi)
  have he:((vs.length:Int)-1-(v.n-d))=((vs.length-1-(v.n-d).toNat:Nat):Int):=by omega
  refine And.intro (by omega) (And.intro (by omega) ?_)
  rw [he]
  refine idxN (row:=rowT (vs[vs.length-1-(v.n-d).toNat])) (by rw [zb,List.getElem?_map,hg];rfl) (call0 (z9n d 0 b (by omega) (by omega) h0 h1 hb _ hm.2 hm.1) ⟨?_,rfl⟩)
  unfold trnV opnV opnU
  rw [if_neg (by omega),if_pos (by omega),decide_eq_true (by omega),List.getD_eq_getElem?_getD,hg];rfl
 ·unfold trnV opnV opnU;rw [if_neg (by omega),if_neg (by omega),decide_eq_true (by omega)];rfl
theorem zjv (b:Int) (hb:b<=1000000000000000) (vs:List Trm) (hvs:∀ v∈vs,wfT b v=true/\dpT v<=1000000000000) (hlen:vs.length<=1000000000000) (t:Trm) (hd:dpT t<=1000000000000) (hw:wfT b t=true) :
  PCon Tryz.prog 210 [tv t,.p (.sl 5 (encTs vs))] (tv (opnT vs t 0)):=by
 have hc:=zdv 232 (.inr rfl) 3 33 (I vs.length) (.sl 5 (encTs vs)) (opnV vs) opnU (zz0n vs) b 1000000000000000 (by omega) (fun v d hv hk h0 h1=>zqs vs b hb hvs hlen v hv hk d h0 h1) t 0 (by omega) (by omega) hw
 have hel:=zc vs
 refine cv [] [] [] Tryz.func210 20 Tryz.ntmps210 rfl rfl fun cx hE=>fun _=>?_
 rw [hel]
 refine brS (fun h=>⟨?_,rfl⟩) (fun h=>?_)
 ·have:vs=[]:=List.eq_nil_of_length_eq_zero (by omega)
  subst this
  rw [zxg];rfl
 ·refine callX [5,3] ((hc.sw 1000 5).sw 1001 3) rfl rfl (za _) fun r o ⟨r1,o1,⟨r2,o2,⟨e1,e2⟩,e3,e4⟩,e5,e6⟩=>?_
  subst e1 e2 e3 e4 e5 e6
  exact ⟨rfl,rfl⟩
theorem zxh (b:Int) (hb:b<=1000000000000000) (v:Trm) (hv:wfT b v=true) (hdv:dpT v<=1000000000000) (t:Trm) (hd:dpT t<=1000000000000) (hw:wfT b t=true) :
  PCon Tryz.prog 170 [tv t,tv v] (tv (opnT [v] t 0)):=by
 have hc:=zjv b hb [v] (fun x hx=>by simp at hx;subst hx;exact ⟨hv,hdv⟩) (by simp) t hd hw
 rw [show encTs [v]=[rowT v] by simp [zb]] at hc
 exact cv [] [] [] Tryz.func170 9 Tryz.ntmps170 rfl rfl fun cx hE=>call0 hc ⟨rfl,rfl⟩
end Go.Ab.YtpneaijfkefeaaaGreat
namespace Go.Ab
open Go Go.RowKit
theorem zdw {g:Int->Trm->Trm} {k:Int} {x:Trm}:∀ {l:List Trm} {i d:Int},x∈trvTs g k l i d->∃ a∈l,∃ j:Int,0<=j/\j<=1/\x=trvT g a (d+j)
 | [],_,_,h=>by cases h
 | a :: r,i,d,h=>by
   simp only [trvTs,List.mem_cons] at h
   rcases h with rfl | h
   ·exact ⟨a,by simp,bndF k i,(z5w k i).1,(z5w k i).2,rfl⟩
   ·obtain ⟨b,hb,j,h1,h2,h3⟩:=zdw h
    exact ⟨b,by simp [hb],j,h1,h2,h3⟩
theorem zto {g:Int->Trm->Trm} {b c D:Int} (hbc:b<=c) (hg:∀ d v,0<=d->d<=D->v.kind=0->wfT b v=true->wfT c (g d v)=true):∀ (t:Trm) (d:Int),0<=d->d+dpT t<=D->wfT b t=true->wfT c (trvT g t d)=true
 | t,d,h0,h1,hw=>by
   rw [z7w]
   have hpos:1<=dpT t:=by rw [z5g];omega
   split
   ·rename_i hk;exact hg d t h0 (by omega) hk hw
   ·rename_i hk
    have w:=zf hw
    refine z8z ⟨by simp only [z2k];exact w.args,w.n0,by have:=w.n1;simp only;omega,w.var,w.name,w.sort,w.lev,w.few,w.nar,fun x hx=>?_⟩
    obtain ⟨a,ha,j,g1,g2,rfl⟩:=zdw hx
    have:=z1h ha
    exact zto hbc hg a (d+j) (by omega) (by omega) (w.sub a ha)
termination_by t=>SizeOf.sizeOf t
decreasing_by exact Trm.lt ha
theorem zm6 {l:List Trm} {m:Nat} (h:∀ a∈l,dpT a<=m):dpTs l<=m:=by
 induction l with
 | nil=>simp [dpTs]
 | cons a r ih =>
   simp only [dpTs]
   have:=h a (by simp)
   have:=ih fun b hb=>h b (by simp [hb])
   omega
theorem ztp {g:Int->Trm->Trm} {M:Nat} (hg:∀ d v,v.kind=0->dpT (g d v)<=dpT v+M):∀ (t:Trm) (d:Int),dpT (trvT g t d)<=dpT t+M
 | t,d=>by
   rw [z7w]
   split
   ·rename_i hk;exact hg d t hk
   ·rw [z5g,z5g t]
    have:dpTs (trvTs g t.kind t.args 0 d)<=dpTs t.args+M:=zm6 fun x hx=>by
     obtain ⟨a,ha,j,_,_,rfl⟩:=zdw hx
     have:=ztp hg a (d+j)
     have:=zgz ha
     omega
    simp only;omega
termination_by t=>SizeOf.sizeOf t
decreasing_by exact Trm.lt ha
theorem ztq {b c by_:Int} (h0:0<=by_) (hc:b+by_<=c) {t:Trm} {d:Int} (hd:0<=d) (hw:wfT b t=true):wfT c (lftT by_ t d)=true:=by
 refine zto (D:=d+dpT t) (by omega) (fun d' v _ _ hk hv=>?_) t d hd (Int.le_refl _) hw
 have w:=zf hv
 have n0:=w.n0
 have n1:=w.n1
 unfold lftV
 split
 ·exact z8z ⟨w.args,by simp only;omega,by simp only;omega,fun h=>absurd hk h,w.name,w.sort,w.lev,w.few,w.nar,fun a ha=>by have:=w.noargs hk;simp only at ha;rw [this] at ha;cases ha⟩
 ·exact z1b (by omega) v hv
theorem ztr {by_:Int} (t:Trm) (d:Int):dpT (lftT by_ t d)<=dpT t:=by
 have:=ztp (g:=lftV by_ 0) (M:=0) (fun d v hk=>by unfold lftV;split<;>simp [z5g]) t d
 simpa [lftT] using this
theorem zoc {b c D:Int} {vs:List Trm} {t:Trm} {d:Int} (hd:0<=d) (hD:d+dpT t<=D) (hc:b+D<=c) (hvs:∀ v∈vs,wfT b v=true) (hw:wfT b t=true):wfT c (opnT vs t d)=true:=by
 have hpos:1<=dpT t:=by rw [z5g];omega
 refine zto (D:=D) (by omega) (fun d' v g0 g1 hk hv=>?_) t d hd hD hw
 have w:=zf hv
 have n0:=w.n0
 have n1:=w.n1
 unfold opnV
 split
 ·exact z1b (by omega) v hv
 ·split
  ·rename_i h1 h2
   have hi:vs.length-1-(v.n-d').toNat<vs.length:=by omega
   rw [List.getD_eq_getElem?_getD,List.getElem?_eq_getElem hi]
   exact ztq g0 (by omega) (by omega) (hvs _ (List.getElem_mem hi))
  ·exact z8z ⟨w.args,by simp only;omega,by simp only;omega,fun h=>absurd hk h,w.name,w.sort,w.lev,w.few,w.nar,fun a ha=>by have:=w.noargs hk;simp only at ha;rw [this] at ha;cases ha⟩
theorem zjw {M:Nat} {vs:List Trm} (hvs:∀ v∈vs,dpT v<=M) (t:Trm) (d:Int):dpT (opnT vs t d)<=dpT t+M:=by
 refine ztp (fun d v hk=>?_) t d
 have hpos:1<=dpT v:=by rw [z5g];omega
 unfold opnV
 split
 ·omega
 ·split
  ·rename_i h1 h2
   have hi:vs.length-1-(v.n-d).toNat<vs.length:=by omega
   rw [List.getD_eq_getElem?_getD,List.getElem?_eq_getElem hi]
   have:=ztr (by_:=d) (vs[vs.length-1-(v.n-d).toNat]) 0
   have:=hvs _ (List.getElem_mem hi)
   simp only [Option.getD_some];omega
  ·simp [z5g]
mutual
theorem zfo (by_:List Lvl):∀ t:Trm,dpT (lvsT by_ t)=dpT t
 | ⟨k,n,s,ls,l⟩=>by simp only [lvsT,dpT];rw [zts by_ l]
theorem zts (by_:List Lvl):∀ l:List Trm,dpTs (lvsTs by_ l)=dpTs l
 | []=>rfl
 | a::r=>by simp only [lvsTs,dpTs];rw [zfo by_ a,zts by_ r]
end
theorem z4r {b:Int} (hb:0<=b) {f a:Trm} (hf:wfT b f=true) (ha:wfT b a=true):wfT b (mkA f a)=true:=by
 refine z8z ⟨by simp [mkA,argF],by simp [mkA],by simpa [mkA] using hb,by simp [mkA],by simp [mkA],by simp [mkA],by simp [mkA],by simp [mkA],by simp [mkA],fun x hx=>?_⟩
 simp only [mkA,List.mem_cons,List.not_mem_nil,or_false] at hx
 rcases hx with rfl | rfl
 ·exact hf
 ·exact ha
theorem ztt {b:Int} (hb:0<=b):∀ {l:List Trm} {t:Trm},wfT b t=true->(∀ a∈l,wfT b a=true)->wfT b (appT t l)=true
 | [],t,ht,_=>ht
 | a::r,t,ht,hl=>ztt hb (l:=r) (z4r hb ht (hl a (by simp))) fun x hx=>hl x (by simp [hx])
theorem ztu {M:Nat}:∀ {l:List Trm} {t:Trm},(∀ a∈l,dpT a<=M)->dpT (appT t l)<=max (dpT t) M+l.length
 | [],t,_=>by simp [appT];omega
 | a :: r,t,hl=>by
   have h1:=ztu (M:=M) (l:=r) (t:=mkA t a) fun x hx=>hl x (by simp [hx])
   have h2:dpT (mkA t a)<=max (dpT t) M+1:=by
    have:=hl a (by simp)
    simp only [mkA,dpT,dpTs];omega
   simp only [appT,List.length_cons];omega
mutual
def occT:Trm->Int->Nat
 | ⟨k,n,s,ls,l⟩,i=>if k=0 then (if n=i then 1 else 0) else occTs k l 0 i
def occTs (k:Int):List Trm->Int->Int->Nat
 | [],_,_=>0
 | a::r,j,i=>occT a (i+bndF k j)+occTs k r (j+1) i
end
mutual
theorem ztv {g:Int->Trm->Trm} (h:∀ d v,v.kind=0->sizT (g d v)=sizT v):∀ (t:Trm) (d:Int),sizT (trvT g t d)=sizT t
 | ⟨k,n,s,ls,l⟩,d=>by
   simp only [trvT]
   split
   ·rename_i hk;exact h d _ hk
   ·simp only [sizT];rw [zod h k l 0 d]
theorem zod {g:Int->Trm->Trm} (h:∀ d v,v.kind=0->sizT (g d v)=sizT v) (k:Int):∀ (l:List Trm) (i d:Int),sizTs (trvTs g k l i d)=sizTs l
 | [],_,_=>rfl
 | a::r,i,d=>by simp only [trvTs,sizTs];rw [ztv h a,zod h k r]
end
theorem zz0o (by_:Int) (t:Trm) (d:Int):sizT (lftT by_ t d)=sizT t:=ztv (fun d v hk=>by unfold lftV;split<;>simp [z6k]) t d
mutual
theorem ztw {b:Int} (v:Trm):∀ (t:Trm) (d:Int),wfT b t=true->(sizT (opnT [v] t d):Int)=sizT t+occT t d * ((sizT v:Int)-1)
 | ⟨k, n,s,ls,l⟩,d,hw=>by
   by_cases hk:k=0
   ·have hv:=(zf hw).var_args hk
    simp only [Trm.mk.injEq] at hv
    obtain ⟨_,_,hs,hls,hl⟩:=hv
    subst hk hs hls hl
    simp only [opnT,trvT,if_true,opnV,occT]
    by_cases h1:n<d
    ·rw [if_pos h1,if_neg (by omega)];simp
    ·rw [if_neg h1]
     by_cases h2:n=d
     ·rw [if_pos (by simp;omega),if_pos h2,zz0o,show (n-d).toNat=0 by omega]
      simp [sizT,sizTs];omega
     ·rw [if_neg (by simp;omega),if_neg h2];simp [sizT]
   ·have ih:=zoe v k l 0 d (wfTs_iff.2 (zf hw).sub)
    simp only [opnT,trvT,hk,if_false,sizT,occT]
    push_cast
    rw [ih];omega
theorem zoe {b:Int} (v:Trm) (k:Int):∀ (l:List Trm) (i d:Int),wfTs b l=true->(sizTs (trvTs (opnV [v]) k l i d):Int)=sizTs l+occTs k l i d * ((sizT v:Int)-1)
 | [],_,_,_=>by simp [trvTs,sizTs,occTs]
 | a::r,i,d,hw=>by
   simp only [wfTs,Bool.and_eq_true] at hw
   have h1:=ztw v a (d+bndF k i) hw.1
   have h2:=zoe v k r (i+1) d hw.2
   simp only [opnT] at h1
   simp only [trvTs,sizTs,occTs]
   push_cast
   rw [h1,h2,Int.add_mul];omega
end
mutual
def cntT (m:Int):Trm->Int->Int->Int->Int×Int
 | ⟨k,n,s,ls,l⟩,i,p,u=>if p+1>m then (p+1,u) else cntTs m k l 0 i (p+1) (if k=0/\n=i then u+1 else u)
def cntTs (m k:Int):List Trm->Int->Int->Int->Int->Int×Int
 | [],_,_,p,u=>(p,u)
 | a::r,j,i,p,u=>if (cntT m a (i+bndF k j) p u).1>m then cntT m a (i+bndF k j) p u else cntTs m k r (j+1) i (cntT m a (i+bndF k j) p u).1 (cntT m a (i+bndF k j) p u).2
end
theorem zz0p (m:Int) (t:Trm) (i p u:Int):cntT m t i p u=if p+1>m then (p+1,u) else cntTs m t.kind t.args 0 i (p+1) (if t.kind=0/\t.n=i then u+1 else u):=by cases t;rfl
theorem zjx (m k:Int):∀ (l q:List Trm) (j i p u:Int),(cntTs m k l j i p u).1<=m->cntTs m k (l++q) j i p u=cntTs m k q (j+l.length) i (cntTs m k l j i p u).1 (cntTs m k l j i p u).2
 | [],q,j,i,p,u,_=>by simp [cntTs]
 | a :: r,q,j,i,p,u,h=>by
   simp only [List.cons_append,cntTs] at h ⊢
   split
   ·rename_i hc;rw [if_pos hc] at h;omega
   ·rename_i hc
    rw [if_neg hc] at h
    rw [zjx m k r q _ _ _ _ h]
    simp only [List.length_cons]
    rw [show j+1+(r.length:Int)=j+(↑(r.length+1):Int) by push_cast;omega]
mutual
theorem zhe {b:Int} (m:Int):∀ (t:Trm) (i p u:Int),wfT b t=true->p<=m->(p+sizT t<=m->cntT m t i p u=(p+sizT t,u+occT t i))/\(p+sizT t>m->(cntT m t i p u).1>m)
 | ⟨k, n,s,ls,l⟩,i,p,u,hw,hp=>by
   simp only [cntT,sizT]
   by_cases h1:p+1>m
   ·rw [if_pos h1]
    exact ⟨fun h=>by push_cast at h;omega,fun _=>h1⟩
   ·rw [if_neg h1]
    have ih:=zjy m k l 0 i (p+1) (if k=0/\n=i then u+1 else u) (wfTs_iff.2 (zf hw).sub) (by omega)
    refine ⟨fun h=>?_,fun h=>ih.2 (by push_cast at h;omega)⟩
    rw [ih.1 (by push_cast at h;omega)]
    simp only [occT]
    by_cases hk:k=0
    ·have hv:=(zf hw).noargs hk
     simp only at hv
     subst hv hk
     by_cases hn:n=i<;>simp [hn,occTs,sizTs]
    ·simp [hk];omega
theorem zjy {b:Int} (m k:Int):∀ (l:List Trm) (j i p u:Int),wfTs b l=true->p<=m->(p+sizTs l<=m->cntTs m k l j i p u=(p+sizTs l,u+occTs k l j i))/\(p+sizTs l>m->(cntTs m k l j i p u).1>m)
 | [],j,i,p,u,_,hp=>by simp only [cntTs,sizTs,occTs];exact ⟨fun _=>by simp,fun h=>by simp at h;omega⟩
 | a :: r,j,i,p,u,hw,hp=>by
   simp only [wfTs,Bool.and_eq_true] at hw
   have h1:=zhe m a (i+bndF k j) p u hw.1 hp
   simp only [cntTs,sizTs,occTs]
   by_cases hc:p+sizT a<=m
   ·rw [h1.1 hc,if_neg (by simp only;omega)]
    have h2:=zjy m k r (j+1) i (p+sizT a) (u+occT a (i+bndF k j)) hw.2 hc
    refine ⟨fun h=>?_,fun h=>h2.2 (by push_cast at h;omega)⟩
    simp only
    rw [h2.1 (by push_cast at h;omega)]
    push_cast;congr 1<;>omega
   ·have h3:=h1.2 (by omega)
    rw [if_pos h3]
    exact ⟨fun h=>by push_cast at h;omega,fun _=>h3⟩
end
structure Gd (t:Trm):Prop where
 w:wfT 1099511627776 t=true
 d:dpT t<=268435456
def gdT (t:Trm):Bool:=wfT 1099511627776 t&&decide (dpT t<=268435456)
theorem gdT_iff {t:Trm}:gdT t=true↔Gd t:=by
 simp only [gdT,Bool.and_eq_true,decide_eq_true_eq];exact ⟨fun h=>⟨h.1,h.2⟩,fun h=>⟨h.w,h.d⟩⟩
theorem Gd.sub {t a:Trm} (h:Gd t) (ha:a∈t.args):Gd a:=⟨(zf h.w).sub a ha,by have:=z1h ha;have:=h.d;omega⟩
theorem zT_gd:Gd zT:=⟨rfl,by decide⟩
theorem Gd.spn:∀ (t:Trm) (acc:List Trm),Gd t->(∀ a∈acc,Gd a)->Gd (spnT t acc).1/\(∀ a∈(spnT t acc).2,Gd a)/\(spnT t acc).2.length+dpT (spnT t acc).1<=acc.length+dpT t
 | ⟨k, n,s,ls,l⟩,acc,h,ha=>by
   rw [spnT.eq_def]
   simp only
   split
   ·rename_i hk
    match l,h with
    | [f,a],h =>
      have hf:Gd f:=h.sub (by simp)
      have:=Gd.spn f (a::acc) hf (fun x hx=>by rcases List.mem_cons.1 hx with rfl | hx;exact h.sub (by simp);exact ha x hx)
      refine ⟨this.1,this.2.1,Nat.le_trans this.2.2 ?_⟩
      have:=z1h (t:=⟨k,n,s,ls,[f,a]⟩) (a:=f) (by simp)
      simp;omega
    | [],h=>exact ⟨h,ha,by simp⟩
    | [_],h=>exact ⟨h,ha,by simp⟩
    | _::_::_::_,h=>exact ⟨h,ha,by simp⟩
   ·exact ⟨h,ha,by simp⟩
termination_by t=>SizeOf.sizeOf t
theorem Gd.head {t:Trm} (h:Gd t):Gd (headT t):=(Gd.spn t [] h (by simp)).1
theorem Gd.args {t:Trm} (h:Gd t):(∀ a∈argsT t,Gd a)/\(argsT t).length<=268435456:=by
 have:=Gd.spn t [] h (by simp)
 refine ⟨this.2.1,?_⟩
 have h2:=this.2.2
 have:=h.d
 unfold argsT;simp at h2;omega
theorem Gd.getD {l:List Trm} (h:∀ a∈l,Gd a) (i:Nat):Gd (l.getD i zT):=by
 rw [List.getD_eq_getElem?_getD]
 cases hl:l[i]? with
 | none=>exact zT_gd
 | some x=>exact h x (List.mem_of_getElem? hl)
mutual
theorem ztx:∀ (t:Trm) (i:Int),occT t i<=sizT t
 | ⟨k,n,s,ls,l⟩,i=>by
   simp only [occT,sizT]
   have:=zty k l 0 i
   split
   ·split<;>omega
   ·omega
theorem zty (k:Int):∀ (l:List Trm) (j i:Int),occTs k l j i<=sizTs l
 | [],_,_=>Nat.le_refl _
 | a::r,j,i=>by simp only [occTs,sizTs];have:=ztx a (i+bndF k j);have:=zty k r (j+1) i;omega
end
theorem ztz {b:Int} {m:Int} {t:Trm} {i p u:Int} (hw:wfT b t=true) (h0:0<=p) (h1:p<=m) (h2:0<=u) (h3:u<=p) (hc:(cntT m t i p u).1<=m):0<=(cntT m t i p u).1/\0<=(cntT m t i p u).2/\(cntT m t i p u).2<=(cntT m t i p u).1:=by
 have hs:=zhe m t i p u hw h1
 by_cases h:p+sizT t<=m
 ·have:=ztx t i
  rw [hs.1 h];simp only;omega
 ·have:=hs.2 (by omega);omega
theorem zof:∀ (l:List Trm) (t:Trm),sizT t<=sizT (appT t l)
 | [],t=>Nat.le_refl _
 | a::r,t=>by
   have:=zof r (mkA t a)
   have h2:sizT (mkA t a)=sizT t+sizT a+1:=by simp [mkA,sizT,sizTs]
   simp only [appT];omega
def mdF (c f:Int) (u:Trm):Option OR :=
 if f<=0 then some (zT,false,f,11)
 else if gdT u=true then (if fitsT c u=true then some (u,true,f-1,0) else some (zT,false,f-1,12))
 else none
def onF (ds : List Dcl) (c:Int) (wh:Trm->Int->Option WR) (t:Trm) (f:Int):Option OR :=
 if (headT t).kind=4/\argsT t≠[] then mdF c f (appT (opnT [(argsT t).getD 0 zT] ((headT t).args.getD 1 zT) 0) ((argsT t).drop 1))
 else if (headT t).kind=6 then mdF c f (appT (opnT [(headT t).args.getD 1 zT] ((headT t).args.getD 2 zT) 0) (argsT t))
 else if (headT t).kind=2 then (match findD ds (headT t).name with
  | none=>some (t,false,f,0)
  | some d=>if d.kind=2/\d.params=(headT t).levels.length then mdF c f (appT (lvsT (headT t).levels d.value) (argsT t))
    else (match z1u ds (headT t) with
     | none=>some (t,false,f,0)
     | some r=>if r.major<(argsT t).length then (match wh ((argsT t).getD r.major zT) f with
       | none=>none
       | some (m,f',e)=>if e≠0 then some (zT,false,f',e) else (match iotaF ds t m with
         | some u=>mdF c f' u
         | none=>some (t,false,f',0))) else some (t,false,f,0)))
 else some (t,false,f,0)
def whF (ds:List Dcl) (c:Int):Nat->Trm->Int->Option WR
 | 0,_,_=>none
 | g+1,t,f=>match onF ds c (whF ds c g) t f with
   | none=>none
   | some (u,did,f',e)=>if e≠0 then some (zT,f',e) else if did=true then whF ds c g u f' else some (u,f',0)
end Go.Ab
namespace Go.Ab.YtpneaijfkefeaaaGreat
open Go Go.RowKit Go.Ab Go.Proofs
theorem zfp (t:Trm) (most:Int) (hm:most<=1000000) (b:Int):∀ (i p u:Int),0<=i->i+dpT t<=1000000000000->0<=p->p<=most->0<=u->u<=p->wfT b t=true ->
  Con Tryz.prog 235 [tv t,.p (I i),.ptr 1000 0,.ptr 1001 0,.p (I most)] [(1001,.ce 3 [.p (I u)]),(1000,.ce 3 [.p (I p)])] (fun r o=>r=.tp []/\o=[(1001,.ce 3 [.p (I (cntT most t i p u).2)]),(1000,.ce 3 [.p (I (cntT most t i p u).1)])]):=by
 intro i p u hi0 hi1 hp0 hp1 hu0 hu1 hw
 have ih:∀ a∈t.args,∀ (i p u:Int),0<=i->i+dpT a<=1000000000000->0<=p->p<=most->0<=u->u<=p->Con Tryz.prog 235 [tv a,.p (I i),.ptr 1000 0,.ptr 1001 0,.p (I most)] [(1001,.ce 3 [.p (I u)]),(1000,.ce 3 [.p (I p)])] (fun r o=>r=.tp []/\o=[(1001,.ce 3 [.p (I (cntT most a i p u).2)]),(1000,.ce 3 [.p (I (cntT most a i p u).1)])]):=fun a ha i p u g0 g1 g2 g3 g4 g5=>zfp a most hm b i p u g0 g1 g2 g3 g4 g5 ((zf hw).sub a ha)
 have he:=zz0p most t i p u
 have hel:=zc t.args
 have hfew:=(zf hw).few_args
 refine cv [] [1000003] [1000,1001] Tryz.func235 61 Tryz.ntmps235 rfl rfl fun cx hE=>And.intro (by omega) (brS (fun h1=>?_) (fun h1=>?_))
 ·rw [if_pos (by omega)] at he;exact ⟨rfl,by rw [he]⟩
 rw [if_neg (by omega)] at he
 refine join1 (A:=Unit) (fun _=>[]) (fun _=>[(1001,.ce 3 [.p (I (if t.kind=0/\t.n=i then u+1 else u))])]) (fun _=>True) [] [1001] [] hE rfl rfl rfl ?_ (fun _ _=>?_)
 ·refine brS (fun h2=>brS (fun h3=>And.intro (by omega) ?_) (fun h3=>?_)) (fun h2=>?_)
  ·exact ⟨(),trivial,leX.same ⟨by rw [if_pos ⟨h2,h3⟩],rfl,rfl,trivial⟩⟩
  ·exact ⟨(),trivial,leX.same ⟨by rw [if_neg (fun h=>h3 h.2)],rfl,rfl,trivial⟩⟩
  ·exact ⟨(),trivial,leX.same ⟨by rw [if_neg (fun h=>h2 h.1)],rfl,rfl,trivial⟩⟩
 ·refine fun _=>?_
  generalize hu':(if t.kind=0/\t.n=i then u+1 else u)=u' at he
  have hu2:0<=u'/\u'<=p+1:=by subst hu';split<;>omega
  refine loopP t.args (fun q=>[(39,.p (I q.length))]) (fun q=>[(1001,.ce 3 [.p (I (cntTs most t.kind q 0 i (p+1) u').2)]),(1000,.ce 3 [.p (I (cntTs most t.kind q 0 i (p+1) u').1)])]) (fun q=>(cntTs most t.kind q 0 i (p+1) u').1<=most/\0<=(cntTs most t.kind q 0 i (p+1) u').1/\0<=(cntTs most t.kind q 0 i (p+1) u').2/\(cntTs most t.kind q 0 i (p+1) u').2<=(cntTs most t.kind q 0 i (p+1) u').1) [39] [1000,1001] hE rfl rfl rfl ⟨Sub.refl _,rfl,rfl,rfl,trivial⟩ ⟨by simp only [cntTs];omega,by simp only [cntTs];omega,by simp only [cntTs];omega,by simp only [cntTs];omega⟩ (fun hq=>brTe ⟨rfl,by rw [he]⟩) (fun q a s hq hinv=>?_)
  obtain ⟨g0,g1,g2,g3⟩:=hinv
  have hlt:=zj hq
  have hbd:=z5w t.kind q.length
  have hda:=z1h (zg hq)
  have hap:=fun x=>zjx most t.kind q x 0 i (p+1) u' g0
  have hb:=ztz (i:=i+bndF t.kind q.length) ((zf hw).sub a (zg hq)) g1 g0 g2 g3
  generalize hP:cntTs most t.kind q 0 i (p+1) u'=P at g0 g1 g2 g3 hap hb
  obtain ⟨P1,P2⟩:=P
  simp only at g0 g1 g2 g3 hap hb
  have hia:=ih a (zg hq) (i+bndF t.kind q.length) P1 P2 (by omega) (by omega) g1 g0 g2 g3
  generalize hR:cntT most a (i+bndF t.kind q.length) P1 P2=R at hia hb
  obtain ⟨R1,R2⟩:=R
  have e0:cntTs most t.kind t.args 0 i (p+1) u'=if R1>most then (R1,R2) else cntTs most t.kind s (q.length+1) i R1 R2:=by
   rw [hq,hap];simp only [cntTs,Int.zero_add,hR]
  have e1:cntTs most t.kind (q++[a]) 0 i (p+1) u'=(R1,R2):=by
   rw [hap];simp only [cntTs,Int.zero_add,hR];split<;>rfl
  refine brT' hq (idxT hq (call0 (zat _ _) (And.intro (by omega) (callM [1001,1000] hia rfl rfl (za _) rfl (brS (fun h4=>?_) (fun h4=>And.intro (by omega) ?_))))))
  ·rw [e0,if_pos h4] at he
   exact ⟨rfl,by rw [he]⟩
  ·refine ⟨?_,Sub.i (by simp),by rw [e1],by rw [e1],rfl,trivial⟩
   rw [e1];exact ⟨by omega,hb (by simp only;omega)⟩
termination_by SizeOf.sizeOf t
decreasing_by exact Trm.lt ha
abbrev runO (ds:List Dcl) (pv ov:Nat) (pl:Option (List (ByteArray×Int))) (f c:Int):Obs:=(1000,.ce 107 [.ptr 1004 0,.p (I f),.p (I c)])::envQ 1004 [] ds pv pl ov (odO ds)
def stE (f:Int):Int:=if f<=0 then 11 else 0
def stM (f:Int):Int:=if f<=0 then f else f-1
def fitV (c:Int) (t:Trm):AV:=.tp [tv (if fitsT c t=true then t else zT),.p (B (fitsT c t)),.p (I (if fitsT c t=true then 0 else 12))]
structure Mt (f c:Int):Prop where
 f0:-1000000000<=f
 f1:f<=1000000000
 c0:-1000000<=c
 c1:c<=1000000
section
variable (ds : List Dcl) (pv ov : Nat) (pl : Option (List (ByteArray × Int))) (f c : Int) (hm : Mt f c)
include hm
theorem z9o:Con Tryz.prog 120 [.ptr 1000 0] (runO ds pv ov pl f c) (fun r o=>r=.p (I (stE f))/\o=runO ds pv ov pl (stM f) c):=by
 have:=hm.f0;have:=hm.f1
 exact cv [] [] [1000,1004,1005,1006,1007] Tryz.func120 18 Tryz.ntmps120 rfl rfl fun cx hE=>call0 (zsv f c (by omega) (by omega)) ⟨rfl,rfl⟩
theorem zdx (t:Trm):Con Tryz.prog 206 [.ptr 1000 0,tv t] (runO ds pv ov pl f c) (fun r o=>r=fitV c t/\o=runO ds pv ov pl f c):=by
 refine cv [] [] [1000,1004,1005,1006,1007] Tryz.func206 19 Tryz.ntmps206 rfl rfl fun cx hE=>call0 (zsx f c t hm.c0 hm.c1) (brS (fun h=>⟨?_,rfl⟩) (fun h=>⟨?_,rfl⟩))
 ·have hf:¬ fitsT c t=true:=fun hf=>h (by unfold fitsE;rw [if_pos hf])
  unfold fitV fitsE;rw [if_neg hf,if_neg hf,Bool.eq_false_iff.2 hf];rfl
 ·have hf:fitsT c t=true:=Classical.byContradiction fun hf=>h (by unfold fitsE;rw [if_neg hf];decide)
  unfold fitV;rw [if_pos hf,if_pos hf,hf];rfl
set_option maxHeartbeats 4000000 in
theorem zxi (body v:Trm) (hb:Gd body) (hv:Gd v) (args:List Trm) (hal:args.length<=1000000000):Con Tryz.prog 228 [.ptr 1000 0,tv body,tv v,.p (.sl 5 (encTs args))] (runO ds pv ov pl f c) (fun r o=>r=fitV c (appT (opnT [v] body 0) args)/\o=runO ds pv ov pl f c):=by
 have c0:=hm.c0;have c1:=hm.c1
 have hd:=hb.d
 have hs:=ztw v body 0 hb.w
 have hocc:=ztx body 0
 have hsv:=znn v
 have hcs:=zhe (max c 0) body 0 0 0 hb.w (by omega)
 have hcb:=ztz (i:=0) (p:=0) (u:=0) (m:=max c 0) hb.w (by omega) (by omega) (by omega) (by omega)
 have hcon:=zfp body (max c 0) (by omega) 1099511627776 0 0 0 (by omega) (by omega) (by omega) (by omega) (by omega) (by omega) hb.w
 generalize hR:cntT (max c 0) body 0 0 0=R at hcs hcon hcb
 obtain ⟨R1,R2⟩:=R
 simp only at hcs hcon hcb
 have hsa:(sizT (opnT [v] body 0):Int)<=sizT (appT (opnT [v] body 0) args):=by exact_mod_cast zof args (opnT [v] body 0)
 have hbig:∀ x:Int,x>max c 0->x<=(sizT (opnT [v] body 0):Int)->fitV c (appT (opnT [v] body 0) args)=.tp [tv zT,.p (B false),.p (I 12)]:=fun x h1 h2=>by
  have:¬ fitsT c (appT (opnT [v] body 0) args)=true:=by unfold fitsT;simp;intro h;omega
  unfold fitV;rw [if_neg this,if_neg this,Bool.eq_false_iff.2 this]
 refine cv [] [] [1000,1004,1005,1006,1007] Tryz.func228 49 Tryz.ntmps228 rfl rfl fun cx hE=>callX [12,13] ((hcon.sw 1000 12).sw 1001 13) rfl rfl (za _) fun r o ⟨r1,o1,⟨r2,o2,⟨e1,e2⟩,e3,e4⟩,e5,e6⟩=>?_
 subst e1 e2 e3 e4 e5 e6
 have hocc0:0<=(occT body 0:Int) * ((sizT v:Int)-1):=Int.mul_nonneg (by omega) (by omega)
 refine brS (fun h=>?_) (fun h=>?_)
 ·have h1:(sizT body:Int)>max c 0:=Classical.byContradiction fun hn=>by
   have:=hcs.1 (by omega);rw [Prod.mk.injEq] at this;omega
  exact ⟨(hbig _ h1 (by omega)).symm,rfl⟩
 ·have h1:(sizT body:Int)<=max c 0:=Classical.byContradiction fun hn=>by
   have:=hcs.2 (by omega);omega
  have e:=hcs.1 (by omega)
  rw [Prod.mk.injEq] at e
  obtain ⟨e1,e2⟩:=e
  have e2':R2=occT body 0:=by omega
  have hR2:0<=R2/\R2<=1000000:=by omega
  have hms:1<=mSz v (max c 0)/\mSz v (max c 0)<=1000001:=by unfold mSz;omega
  have hml:0<=R2 * (mSz v (max c 0)-1)/\R2 * (mSz v (max c 0)-1)<=1000000 * 1000000:=⟨Int.mul_nonneg hR2.1 (by omega),Int.mul_le_mul hR2.2 (by omega) (by omega) (by omega)⟩
  refine call0 (zj9 v (max c 0) (by omega) (by omega)) (And.intro (by omega) (And.intro (by omega) (And.intro (by omega) (brS (fun h2=>?_) (fun h2=>?_)))))
  ·refine ⟨(hbig ((sizT body:Int)+occT body 0 * ((sizT v:Int)-1)) ?_ (by omega)).symm,rfl⟩
   by_cases hv2:(sizT v:Int)<=max c 0
   ·have:mSz v (max c 0)=sizT v:=by unfold mSz;omega
    rw [this,e2'] at h2;omega
   ·have:mSz v (max c 0)=max c 0+1:=by unfold mSz;omega
    rw [this] at h2
    have h3:1<=(occT body 0:Int):=Classical.byContradiction fun hn=>by
     have:R2=0:=by omega
     rw [this,Int.zero_mul] at h2;omega
    have h4:(1:Int) * ((sizT v:Int)-1)<=occT body 0 * ((sizT v:Int)-1):=Int.mul_le_mul_of_nonneg_right h3 (by omega)
    omega
  ·have hdp:=zjw (M:=268435456) (vs:=[v]) (fun x hx=>by simp at hx;subst hx;exact hv.d) body 0
   refine call0 (zxh 1099511627776 (by omega) v hv.w (by have:=hv.d;omega) body (by omega) hb.w) (call0 (z2o _ args (by omega)) (call1 [1000,1004,1005,1006,1007] (zdx ds pv ov pl f c hm _) rfl rfl (za _) ⟨rfl,rfl⟩))
def mdV (c f:Int) (u:Trm):AV:=if f<=0 then .tp [tv zT,.p (B false),.p (I 11)] else fitV c u
theorem zu0 (body v:Trm) (hb:Gd body) (hv:Gd v) (args:List Trm) (hal:args.length<=1000000000):Con Tryz.prog 204 [.ptr 1000 0,tv body,tv v,.p (.sl 5 (encTs args))] (runO ds pv ov pl f c) (fun r o=>r=mdV c f (appT (opnT [v] body 0) args)/\o=runO ds pv ov pl (stM f) c):=by
 refine cv [] [] [1000,1004,1005,1006,1007] Tryz.func204 26 Tryz.ntmps204 rfl rfl fun cx hE=>call1 [1000,1004,1005,1006,1007] (z9o ds pv ov pl f c hm) rfl rfl (za _) (brS (fun h=>⟨?_,rfl⟩) (fun h=>?_))
 ·have hf:f<=0:=Classical.byContradiction fun hn=>h (by unfold stE;rw [if_neg hn])
  unfold mdV stE;rw [if_pos hf,if_pos hf];rfl
 ·have hf:¬ f<=0:=fun hn=>h (by unfold stE;rw [if_pos hn];decide)
  have:=hm.f1
  have e:stM f=f-1:=by unfold stM;rw [if_neg hf]
  unfold mdV;rw [if_neg hf]
  refine call1 [1000,1004,1005,1006,1007] (zxi ds pv ov pl (stM f) c ⟨by omega,by omega,hm.c0,hm.c1⟩ body v hb hv args hal) rfl rfl (za _) ⟨rfl,rfl⟩
end
theorem zjz (e:EnvV) (h:e.OK) (s:ByteArray):Con Tryz.prog 205 [.ptr 1000 0,.p (St s)] (envO e) (fun r o=>r=pdc (zni e.all s)/\o=envO e):=by
 have ho:=EnvV.get_odd h s
 refine cv [] [] [1000,1001,1002,1003] Tryz.func205 21 Tryz.ntmps205 rfl rfl fun cx hE=>call1 [1000,1001,1002,1003] (zws e h s) rfl rfl (za _) ?_
 unfold zni
 cases hd:findD e.all s with
 | none=>exact ⟨rfl,rfl⟩
 | some d =>
   rw [hd] at ho
   refine And.intro (by omega) (brS (fun h1=>⟨?_,rfl⟩) (fun h1=>⟨?_,rfl⟩))
   ·have:=ho.1 h1 d rfl
    simp [this,pdc]
   ·have:¬ Go.Ab.okD d=true:=fun hk=>h1 (ho.2 fun d' e'=>by cases e';exact hk)
    simp [this];rfl
def okE (d:Dcl):Bool:=okT d.type&&(okT d.value&&(decide (d.ctors.length<=1000)&&(d.ctors.all (fun c=>okT c.ty&&decide (0<=c.name.size))&&(decide (d.name.size<=1000)&&decide (-1000000<=d.params/\d.params<=1000000/\-1000000<=d.count/\d.count<=1000000)))))
theorem zyf {d:Dcl} (h:Go.Ab.YtpneaijfkefeaaaGreat.okD d=true):okE d=true:=by
 simp only [Go.Ab.YtpneaijfkefeaaaGreat.okD,Bool.and_eq_true,decide_eq_true_eq,List.all_eq_true] at h
 simp only [okE,Bool.and_eq_true,decide_eq_true_eq,List.all_eq_true]
 exact ⟨h.1,h.2.1,h.2.2.1,fun c hc=>⟨(h.2.2.2.1 c hc).1,Nat.zero_le _⟩,h.2.2.2.2⟩
theorem zz2j {d:Dcl} (h:okE d=true):CpD d:=by
 simp only [okE,Bool.and_eq_true,decide_eq_true_eq,List.all_eq_true] at h
 exact ⟨z5j h.1,z5j h.2.1,by have:=h.2.2.1;omega,fun c hc=>z5j (h.2.2.2.1 c hc).1⟩
structure EnvG (ds:List Dcl) (pl:Option (List (ByteArray×Int))):Prop where
 p:EnP [] ds pl
 s:∀ d∈ds,Go.Ab.okD d=true
 g:∀ d∈ds,okE d=true
theorem z3c {l:List Dcl} {s:ByteArray} {d:Dcl} (h:findD l s=some d):d∈l:=List.mem_of_find?_eq_some h
theorem zau (ds:List Dcl) (pv ov:Nat) (pl:Option (List (ByteArray×Int))) (h:EnvG ds pl) (s:ByteArray):Con Tryz.prog 205 [.ptr 1004 0,.p (St s)] (envQ 1004 [] ds pv pl ov (odO ds)) (fun r o=>r=pdc (findD ds s)/\o=envQ 1004 [] ds pv pl ov (odO ds)):=by
 have hs:zni ds s=findD ds s:=by
  unfold zni
  cases hd:findD ds s with
  | none=>rfl
  | some d=>simp [h.s d (z3c hd)]
 refine Con.atQ 1004 (.inr (by decide)) (fun ρ=>by unfold pdc;split<;>rfl) (fun ρ=>rfl) ?_
 rcases h.p.pl with hp | ⟨hp,hn⟩
 ·have hc:=zjz ⟨[],ds,true,pv,ov⟩ ⟨h.p.nd,.inl rfl,h.p.nar,h.p.len,h.p.nm⟩ s
  simp only [envO,EnvV.all,EnvV.place,EnvV.odd,List.nil_append,if_true] at hc
  rw [hs] at hc
  subst hp
  exact hc
 ·have hc:=zjz ⟨[],ds,false,pv,ov⟩ ⟨h.p.nd,.inr hn,h.p.nar,h.p.len,h.p.nm⟩ s
  simp only [envO,EnvV.all,EnvV.place,EnvV.odd,List.nil_append] at hc
  rw [hs] at hc
  subst hp
  exact hc
theorem zog (t:Trm) (hd:dpT t<=1000000000000):PCon Tryz.prog 236 [tv t] (.p (I (piL t).length)):=by
 refine cv [] [] [] Tryz.func236 20 Tryz.ntmps236 rfl rfl fun cx hE=>?_
 refine loop2 (fun (n:Nat) (u:Trm)=>[(3,.p (I n))]) (fun n u=>[(1,ceT u)]) (fun n u=>n+(piL u).length=(piL t).length/\n+dpT u<=dpT t) (fun n u=>dpT u) 0 t [3] [1] hE rfl rfl rfl ⟨Sub.refl _,rfl,trivial⟩ ⟨by simp,by simp⟩ fun n u ⟨g1,g2⟩=>?_
 have hel:=zc u.args
 refine brS (fun hk=>fun _=>brS (fun hl=>?_) (fun hl=>?_)) (fun hk=>?_)
 ·obtain ⟨x,y,ha⟩:=z3d (l:=u.args) (by omega)
  have hy:=z1h (t:=u) (a:=y) (by rw [ha];simp)
  have e1:(encTs u.args)[1]?=some (rowT y):=by rw [ha];simp [encTs,z3v]
  have hp:=(z2d hk ha).1
  rw [hp] at g1
  refine idxN (i:=1) e1 (And.intro (by omega) ⟨n+1,y,⟨by simp at g1;omega,by omega⟩,by omega,Sub.i (by simp),rfl,trivial⟩)
 ·have hp:=(z2t (u:=u) (by omega)).1
  rw [hp] at g1
  exact ⟨I_eq (by simp at g1;omega),rfl⟩
 ·have hp:=(z2t (u:=u) (by omega)).1
  rw [hp] at g1
  exact ⟨I_eq (by simp at g1;omega),rfl⟩
theorem zxj (t:Trm):PCon Tryz.prog 240 [tv t] (tv (piE t)):=by
 refine cv [] [] [] Tryz.func240 17 Tryz.ntmps240 rfl rfl fun cx hE=>?_
 refine loop1 (fun (u:Trm)=>[]) (fun u=>[(1,ceT u)]) (fun u=>piE u=piE t) (fun u=>dpT u) t [] [1] hE rfl rfl rfl ⟨rfl,rfl,trivial⟩ rfl fun u g1=>?_
 have hel:=zc u.args
 refine brS (fun hk=>fun _=>brS (fun hl=>?_) (fun hl=>?_)) (fun hk=>?_)
 ·obtain ⟨x,y,ha⟩:=z3d (l:=u.args) (by omega)
  have hy:=z1h (t:=u) (a:=y) (by rw [ha];simp)
  have e1:(encTs u.args)[1]?=some (rowT y):=by rw [ha];simp [encTs,z3v]
  have hp:=(z2d hk ha).2.1
  rw [hp] at g1
  refine idxN (i:=1) e1 ⟨y,g1,by omega,rfl,rfl,trivial⟩
 ·have hp:=(z2t (u:=u) (by omega)).2.1
  rw [<- g1,hp]
  exact ⟨rfl,rfl⟩
 ·have hp:=(z2t (u:=u) (by omega)).2.1
  rw [<- g1,hp]
  exact ⟨rfl,rfl⟩
def useL (h:Trm) (args:List Trm) (f:Dcl) (p m:Int):List AV:=[.p (I h.kind),.p (I h.n),.p (St h.name),.p (.sl 3 (encLs h.levels)),.p (.sl 5 (encTs h.args)),.p (.sl 5 (encTs args)),.p (.ip (rowD f)),.p (I p),.p (I m)]
def useZ:List AV:=[.p (I 0),.p (I 0),.p (St ⟨#[]⟩),.p (.sl 3 []),.p (.sl 5 []),.p (.sl 5 []),.p (.v (.pointer none)),.p (I 0),.p (I 0)]
def lookF (ds:List Dcl) (t:Trm):Option RecI:=(z1u ds (headT t)).bind fun r=>if r.major<(argsT t).length then some r else none
def useRV (t:Trm):Option RecI->AV
 | some r=>.tp [.ag (useL (headT t) (argsT t) r.fam r.p r.major),.p (B true)]
 | none=>.tp [.ag useZ,.p (B false)]
set_option maxHeartbeats 4000000 in
theorem zu1 (ds:List Dcl) (pv ov:Nat) (pl:Option (List (ByteArray×Int))) (h:EnvG ds pl) (t:Trm) (hg:Gd t):Con Tryz.prog 230 [.ptr 1004 0,tv t] (envQ 1004 [] ds pv pl ov (odO ds)) (fun r o=>r=useRV t (lookF ds t)/\o=envQ 1004 [] ds pv pl ov (odO ds)):=by
 have hd:=hg.d
 have hal:=hg.args.2
 have hel:=zc (argsT t)
 have hll:=zq (headT t).levels
 have hlf:=(zf hg.head.w).few
 have hno:z1u ds (headT t)=none->useRV t (lookF ds t)=.tp [.ag useZ,.p (B false)]:=fun e=>by unfold lookF;rw [e];rfl
 refine cv [] [] [1004,1005,1006,1007] Tryz.func230 113 Tryz.ntmps230 rfl rfl fun cx hE=>call0 (z3k 1099511627776 t hg.w (by omega)) (call1 [1004,1005,1006,1007] (zau ds pv ov pl h (headT t).name) rfl rfl (za _) ?_)
 cases hf:findD ds (headT t).name with
 | none =>
   have e:z1u ds (headT t)=none:=by unfold z1u;split<;>simp [hf]
   rw [hno e]
   exact brS (fun hk=>⟨rfl,rfl⟩) (fun hk=>⟨rfl,rfl⟩)
 | some d =>
   have hdm:=z3c hf
   have hdo:=h.g d hdm
   have hir:z1u ds (headT t)=if (headT t).kind=2 then (if d.kind=5/\d.params=(headT t).levels.length then (match findD ds d.family with
    | none=>none
    | some f=>if f.kind=3/\0<=f.count/\f.count<=(piL f.type).length then some ⟨f,f.count.toNat,f.count.toNat+1+f.ctors.length+((piL f.type).length-f.count.toNat)⟩ else none) else none) else none:=by
    unfold z1u;rw [hf];rfl
   refine brS (fun hk=>⟨by rw [hno (by rw [hir,if_neg hk])];rfl,rfl⟩) (fun hk=>brS (fun hk5=>⟨by rw [hno (by rw [hir,if_pos (by omega),if_neg (fun hc=>hk5 hc.1)])];rfl,rfl⟩) (fun hk5=>brS (fun hp=>⟨by rw [hno (by rw [hir,if_pos (by omega),if_neg (fun hc=>hp (by rw [hll,hc.2]))])];rfl,rfl⟩) (fun hp=>?_)))
   rw [if_pos (by omega),if_pos ⟨by omega,by omega⟩] at hir
   refine call1 [1004,1005,1006,1007] (zau ds pv ov pl h d.family) rfl rfl (za _) ?_
   cases hff:findD ds d.family with
   | none =>
     rw [hff] at hir
     rw [hno hir]
     exact ⟨rfl,rfl⟩
   | some fd =>
     rw [hff] at hir
     simp only at hir
     have hfm:=z3c hff
     have hfo:=h.g fd hfm
     simp only [okE,Bool.and_eq_true,decide_eq_true_eq,List.all_eq_true] at hfo
     obtain ⟨ho1,ho2,ho3,ho4,ho5,ho6⟩:=hfo
     have hpl:=z3y fd.type
     have hfd:=(z2q ho1).d
     have hcl:(encCs fd.ctors).length=fd.ctors.length:=by simp [encCs]
     refine brS (fun hk3=>⟨by rw [hno (by rw [hir,if_neg (fun hc=>hk3 hc.1)])];rfl,rfl⟩) (fun hk3=>?_)
     refine call0 (zog fd.type (by omega)) (And.intro (by omega) (And.intro (by omega) (And.intro (by omega) (And.intro (by omega) (brS (fun hc0=>⟨by rw [hno (by rw [hir,if_neg (fun hc=>by omega)])];rfl,rfl⟩) (fun hc0=>brS (fun hc1=>⟨by rw [hno (by rw [hir,if_neg (fun hc=>by omega)])];rfl,rfl⟩) (fun hc1=>fun _=>brS (fun hc2=>⟨?_,rfl⟩) (fun hc2=>⟨?_,rfl⟩))))))))
     ·have hcc:fd.kind=3/\0<=fd.count/\fd.count<=(piL fd.type).length:=⟨by omega,by omega,by omega⟩
      rw [if_pos hcc] at hir
      unfold lookF;rw [hir]
      simp only [Option.bind_some]
      rw [if_neg (by omega)];rfl
     ·have hcc:fd.kind=3/\0<=fd.count/\fd.count<=(piL fd.type).length:=⟨by omega,by omega,by omega⟩
      rw [if_pos hcc] at hir
      unfold lookF;rw [hir]
      simp only [Option.bind_some]
      rw [if_pos (by omega)]
      unfold useRV
      refine congrArg (fun l=>AV.tp [.ag l,.p (B true)]) ?_
      unfold useL
      have e1:fd.count=(fd.count.toNat:Int):=by omega
      have e2:fd.count+1+((encCs fd.ctors).length:Int)+(((piL fd.type).length:Int)-fd.count)=((fd.count.toNat+1+fd.ctors.length+((piL fd.type).length-fd.count.toNat):Nat):Int):=by omega
      rw [<- e2]
      simp only [<- e1]
      rfl
end Go.Ab.YtpneaijfkefeaaaGreat
set_option linter.unusedVariables false
set_option linter.unusedSimpArgs false
namespace Go.Ab
open Go Go.RowKit
theorem zu2 {w:World} {M:Nat->Nat->Prop} {own:Nat->Value} {hw:Nat->Option Nat} {f:Fn} {K:Nat} {v:Value} (h:RepA w M own hw (.fv f [] [.ptr K 0]) v):∃ b,v=.func f #[] #[.pointer (some ⟨b,0,none⟩)]/\own K=.pointer (some ⟨b,0,none⟩):=by
 cases h with
 | fv vf vc hf hc hxf hxc =>
   obtain rfl:vf=[]:=List.eq_nil_of_length_eq_zero hf
   obtain ⟨x,rfl⟩:∃ x,vc=[x]:=by
    match vc,hc with
    | [x],_=>exact ⟨x,rfl⟩
   obtain ⟨b,h1,h2⟩:=(hxc 0 (.ptr K 0) rfl).ptr_inv
   exact ⟨b,by simp at h2;rw [h2],h1⟩
theorem zyg {α:Type}:∀ {l:List α} {n:Nat},l.length=n->tk n l=some l
 | [],n,h=>by subst h;rfl
 | x::l,n,h=>by subst h;simp only [List.length_cons,tk,zyg (l:=l) rfl]
theorem zyh {w:World} {M:Nat->Nat->Prop} {own:Nat->Value} {hw:Nat->Option Nat} {f:Fn} {v:Value} (h:RepA w M own hw (.fv f [] []) v):v=.func f #[] #[]:=by
 cases h with
 | fv vf vc hf hc hxf hxc =>
   obtain rfl:vf=[]:=List.eq_nil_of_length_eq_zero hf
   obtain rfl:vc=[]:=List.eq_nil_of_length_eq_zero hc
   rfl
theorem zz0q {a:Act} {n d:Nat} {v:Value} (h:a.tmps.size=n):(a.put (some d) v).tmps.size=n:=by simp [Act.put,h]
theorem zqt {a:Act} {d:Nat} {v:Value} (h:d<a.tmps.size):(a.put (some d) v).tmps.getD d undef=v:=by simp [Act.put,Array.getD_eq_getD_getElem?,h]
theorem z8c {a:Act} {d t:Nat} {v:Value} (h:t≠d):(a.put (some d) v).tmps.getD t undef=a.tmps.getD t undef:=by
 simp only [Act.put,Array.getD_eq_getD_getElem?]
 rw [Array.getElem?_setIfInBounds_ne (Ne.symm h)]
end Go.Ab
namespace Go.Ab.YtpneaijfkefeaaaGreat
open Go Go.RowKit Go.Ab Go.Proofs
theorem bwTI:TI Tryz.prog 35 5 true:=⟨by kernel_rfl,by kernel_rfl⟩
theorem bwTS:TI Tryz.prog 33 1 false:=⟨by kernel_rfl,by kernel_rfl⟩
theorem bwSI:SI Tryz.prog 33 35:=⟨by kernel_rfl⟩
theorem zm7 {op:BinOp} {x y z:Value} {u v:Operand} {sd:List SD} (h:binS op (.int .i64) x y=some (sd,z)) (hs:sdQ sd):z.oneCell'=true/\∀ w,(do eqGuard op 3 u v x y;binOp op 3 x y:Sem Value).run Tryz.prog w=.ok z w:=by
 obtain ⟨e,he,hk⟩:∃ e,get tab 3=some e/\e.k=.int .i64:=⟨_,rfl,rfl⟩
 exact zaa (zt htab he) (by rw [hk];exact h) hs
abbrev bwF:Nat:=244
section
variable {cx : Cx} {n : Nat} {s : S} {a : Act} {w : World} {own : Nat → Value}
structure Gh (cx:Cx) (n:Nat) (regs:List (Nat×AV)) (o:Obs) (a:Act) (D:Nat) (rec:LoopState->Option Code->Loop) (W:World) (own:Nat->Value):Prop where
 r:Rl Tryz.prog cx n ⟨regs,o⟩ a W own
 l:W.heap[D+1]?=some (.loop (rec .ready none))
 d:W.heap[D]?=some (.deferred (some []))
def zyi (K l:Nat) (i:Int):List (Nat×AV):=[(3,.p (I i)),(0,.fv (.yield l) [] []),(1,.ptr K 0)]
abbrev zu3:Oper:={ dst:=some 17,op:=.call { callee:=.value (.tmp 11),args:=#[.tmp 12,.tmp 16],argTypes:=#[3,35] },type:=4,pos:="iter.go:29",after:=#[{ on:=0,ground:=Ground.data },{ on:=1,ground:=Ground.data },{ on:=5,ground:=Ground.data }],guard:=none }
set_option maxHeartbeats 4000000 in
theorem zxk {regs sr:List (Nat×AV)} {o o':Obs} {D g p0 p1 K:Nat} {i:Int} {rec:LoopState->Option Code->Loop} {fn:Nat} {aid bid bl:Nat} {aops bops:Array Oper} {row:List PV} {S1:S} {aC:Act} {W:World} {ops:Array Oper} {rest:List Oper} {Qc:Exit->Act->World->Prop}
  (r:Rl Tryz.prog cx 19 ⟨regs,o⟩ aC W own)
  (hrec:rec=fun st pe=>{ state:=st,pending:=pe,fn,tmps:=a.tmps,params:=#[p0,p1],assign:=.region aid aops false,body:=.block bl (.region bid bops false),defers:=D })
  (hG:Gh cx n sr o a D rec W own) (hB0:cx.w0.heap.size<=D)
  (h0:get regs 0=some (.fv (.yield (D+1)) [] [])) (h1:get regs 1=some (.ptr K 0)) (h3:get regs 3=some (.p (I i))) (h11:get regs 11=some (.fv (.yield (D+1)) [] [])) (h12:get regs 12=some (.p (I i))) (h16:get regs 16=some (.ag (row.map .p)))
  (hp0:p0<n) (hp1:p1<n) (hne:p0≠p1) (hn0:get sr p0=none) (hn1:get sr p1=none)
  (hda:∀ o∈aops.toList,∀ c,o.op≠.defer c) (hdb:∀ o∈bops.toList,∀ c,o.op≠.defer c)
  (hA:∀ cx':Cx,cx'.objs0=o->AWl Tryz.prog cx' n aops aops.toList (fun e s'=>e=.normal/\Le Tryz.prog cx' n s' S1) ⟨(p1,.ag (row.map .p))::(p0,.p (I i))::sr,o⟩)
  (hB:∀ cx':Cx,cx'.objs0=o->AWl Tryz.prog cx' n bops bops.toList (fun e s'=>e=.normal/\Le Tryz.prog cx' n s' ⟨[],o'⟩) S1)
  (hkeys:o'.map (·.1)=o.map (·.1)) (hcl:∀ j T cs,(j,Ob.ce T cs)∈o'->∀ y∈cs,zby o' y) (hg:get sr g=some (.fv (.func bwF) [] [.ptr K 0]))
  (k:∀ aD WD ownD,Gh cx n sr o' a D rec WD ownD->Rl Tryz.prog cx 19 ⟨(17,.p (B true))::zyi K (D+1) i,o'⟩ aD WD ownD->wpListIn Fence.wide 0 Tryz.prog ops Qc rest aD WD) :
  wpListIn Fence.wide 0 Tryz.prog ops Qc (zu3::rest) aC W:=by
 have hy0:=zyh (r.regs 0 _ h0)
 have hy11:=zyh (r.regs 11 _ h11)
 have hy12:=(r.regs 12 _ h12).val
 have hy3:=(r.regs 3 _ h3).val
 have hy16:=r.regs 16 _ h16
 obtain ⟨bK,hoK,hyK⟩:=(r.regs 1 _ h1).ptr_inv
 generalize hv16:aC.tmps.getD 16 undef=v16 at hy16
 have hrun:(execOp aC.eval zu3).run Tryz.prog W=.ok (.round (D+1) fn ((a.tmps.setIfInBounds p0 (.int .i64 i)).setIfInBounds p1 v16) (.region aid aops false) (.block bl (.region bid bops false))) W:=by
  have hl:=hG.l
  have:=run_yield (P:=Tryz.prog) (args:=#[.int .i64 i,v16]) hl (by rw [hrec];rfl)
  rw [hrec] at this
  have e11:aC.eval (.tmp 11)=.func (.yield (D+1)) #[] #[]:=hy11
  have e12:aC.eval (.tmp 12)=.int .i64 i:=hy12
  have e16:aC.eval (.tmp 16)=v16:=hv16
  simp only [execOp,resolve,e11,Sem.run_bind,Sem.run_pure,Result.andThen_ok,List.map_toArray,List.map_cons,List.map_nil,e12,e16]
  simp only [Deferred.ofValue,Sem.run_pure,Result.andThen_ok,invoke]
  simpa [go_sem] using this
 have had:a.defers=[]:=hG.r.defs
 have hact:({ tmps:=(a.tmps.setIfInBounds p0 (.int .i64 i)).setIfInBounds p1 v16,defers:=[] }:Act)=(a.put (some p0) (.int .i64 i)).put (some p1) v16:=by
  simp only [Act.put,had]
 have hokW:OK Tryz.prog W cx.M0 own o:=hG.r.ok
 have rg:Rl Tryz.prog ⟨W,cx.M0,own,o⟩ n ⟨(p1,.ag (row.map .p))::(p0,.p (I i))::sr,o⟩ ((a.put (some p0) (.int .i64 i)).put (some p1) v16) W own :=
  ((hG.r.fresh).put_same hp0 (x:=.p (I i)) (.scal rfl)).put_same hp1 (x:=.ag (row.map .p)) hy16
 refine wpListIn_plain rfl fun Kc hKc=>⟨fun _ _=>trivial,?_⟩
 show Oper.uponIn _ _ _ _ _ Kc Qc ((execOp aC.eval zu3).run Tryz.prog W)
 rw [hrun,Oper.uponIn_round]
 refine ⟨fun h=>(by cases h),roundIn_of_wpIn trivial ?_⟩
 rw [hact]
 have hnL:∀ {Z:S->Prop} {cx':Cx},¬ LetsOut (post Tryz.prog cx' n fun e s=>e=.normal/\Z s):=fun ⟨_,_,_,_,h,_⟩=>by cases h
 refine wpIn_mono (wpIn_region_list (z5d (D+1) _ hnL aops.toList _ _ hda (hA ⟨W,cx.M0,own,o⟩ rfl _ _ ⟨own,rg⟩))) ?_
 rintro e a1 w1 ⟨s1,hs1,rfl,hle1⟩
 obtain ⟨own1,r1⟩:=hle1 _ _ hs1
 have hl1:=r1.lies (M0:=cx.M0) hokW hG.l rfl
 refine ⟨_,run_beginRound hl1 (by rw [hrec]),?_⟩
 have r2:=r1.shift (M0:=cx.M0) hokW hG.l (ob':=.loop { rec .ready none with state:=.busy }) rfl rfl
 refine wpIn_block (wpIn_mono (wpIn_region_list (z5d (D+1) _ hnL bops.toList _ _ hdb (hB ⟨W.putObj (D+1) (.loop { rec .ready none with state:=.busy }),cx.M0,own,o⟩ rfl _ _ ⟨own1,r2⟩))) ?_)
 rintro e a3 w3 ⟨s3,hs3,rfl,hle3⟩
 obtain ⟨own3,r3⟩:=hle3 _ _ hs3
 have hBq:cx.w0.heap.size<=D+1:=by omega
 have q2:Quiet cx.w0.heap.size W (W.putObj (D+1) (.loop { rec .ready none with state:=.busy })):=Quiet.putObj _ hG.l rfl hBq
 have hokW2:=hokW.quiet q2
 have hltl:=(Array.getElem?_eq_some_iff.1 hG.l).1
 have hl3:=r3.lies (M0:=cx.M0) hokW2 (World.putObj_heap_same hltl) rfl
 have hd3:=r3.lies (M0:=cx.M0) hokW2 ((World.putObj_heap_other (by omega)).trans hG.d) rfl
 obtain ⟨own4,r4⟩:=(hG.r.quiet q2).back (own':=own3) hp0 hn0 hkeys r3.ok r3.stp r3.fix hcl r3.fr
 have hend:=run_endRound (P:=Tryz.prog) none hl3
 refine ⟨_,_,hend,?_⟩
 refine hKc _ _ (k _ _ own4 ⟨r4.quiet (Quiet.putObj _ hl3 rfl hBq),?_,?_⟩ ?_)
 ·rw [World.putObj_heap_same (Array.getElem?_eq_some_iff.1 hl3).1];rw [hrec];rfl
 ·exact (World.putObj_heap_other (by omega)).trans hd3
 ·have r5:=r4.quiet (Quiet.putObj (.loop { { rec .ready none with state:=.busy } with state:=if (none:Option Code).isNone then .ready else .done,pending:=none }) hl3 rfl hBq)
  obtain ⟨b',hv',hb'⟩:=zu2 (r5.regs g _ hg)
  obtain ⟨b0,hv0,hb0⟩:=zu2 (hG.r.regs g _ hg)
  have eb:b'=b0:=by rw [hv0] at hv';simpa using hv'.symm
  subst eb
  rw [hoK] at hb0
  have eb2:bK=b':=by simpa using hb0
  subst eb2
  refine r5.frame r.defs (zz0q r.size) fun t x hx=>?_
  have hsz:aC.tmps.size=19:=r.size
  match t,hx with
  | 17,hx =>
    cases hx
    rw [show (17:Nat)=17 from rfl,zqt (by omega)]
    exact .scal rfl
  | 3,hx=>cases hx;rw [z8c (by decide),hy3];exact .scal rfl
  | 0,hx=>cases hx;rw [z8c (by decide),hy0];exact .fv [] [] rfl rfl (fun j x h=>by simp at h) (fun j x h=>by simp at h)
  | 1,hx=>cases hx;rw [z8c (by decide),hyK];exact .ptr hb'
set_option maxHeartbeats 4000000 in
theorem zz0r (r:Rl Tryz.prog cx n s a w own) (g p0 p1 K T0:Nat) (rows:List (List PV)) (O:Nat->Obs)
  (hg:get s.regs g=some (.fv (.func bwF) [] [.ptr K 0])) (hO0:s.objs=O 0) (hlen:rows.length<=1000000000000)
  (hK:∀ k,k<=rows.length->get (O k) K=some (.ce T0 [.p (.sl 5 rows)]))
  (hkeys:∀ k,k<=rows.length->(O k).map (·.1)=(O 0).map (·.1))
  (hcl:∀ k,k<=rows.length->∀ j T cs,(j,Ob.ce T cs)∈O k->∀ y∈cs,zby (O k) y)
  (hrow:∀ row∈rows,row.length=5) (hp0:p0<n) (hp1:p1<n) (hne:p0≠p1) (hn0:get s.regs p0=none) (hn1:get s.regs p1=none)
  (aid bid bl:Nat) (aops bops:Array Oper) (hda:∀ o∈aops.toList,∀ c,o.op≠.defer c) (hdb:∀ o∈bops.toList,∀ c,o.op≠.defer c) (S1:Nat->S)
  (hA:∀ k row,k<rows.length->rows[rows.length-1-k]?=some row->∀ cx':Cx,cx'.objs0=O k->AWl Tryz.prog cx' n aops aops.toList (fun e s'=>e=.normal/\Le Tryz.prog cx' n s' (S1 k)) ⟨(p1,.ag (row.map .p))::(p0,.p (I ((rows.length:Int)-1-k)))::s.regs,O k⟩)
  (hB:∀ k,k<rows.length->∀ cx':Cx,cx'.objs0=O k->AWl Tryz.prog cx' n bops bops.toList (fun e s'=>e=.normal/\Le Tryz.prog cx' n s' ⟨[],O (k+1)⟩) (S1 k))
  {Q:Exit->Act->World->Prop}
  (hQ:∀ D w' own',w.heap.size<=D->Rl Tryz.prog cx n ⟨s.regs,O rows.length⟩ a w' own'->w'.heap[D]?=some (.deferred (some []))->Q .normal { a with defers:=[{ target:=.collected D,args:=#[] }] } w') :
  (Code.rangeFunc (.tmp g) #[p0,p1] (.region aid aops false) (.block bl (.region bid bops false))).wp Tryz.prog Q a w:=by
 obtain ⟨sr,so⟩:=s
 simp only at hg hO0 hn0 hn1 hA hQ
 subst hO0
 refine (wpIn_wide (n:=0)).1 (wpIn_rangeFunc ?_)
 intro fn hfn
 obtain ⟨rec,hrec⟩:∃ rec:LoopState->Option Code->Loop,rec=fun st pe=>{ state:=st,pending:=pe,fn,tmps:=a.tmps,params:=#[p0,p1],assign:=.region aid aops false,body:=.block bl (.region bid bops false),defers:=w.heap.size }:=⟨_,rfl⟩
 obtain ⟨W1,hW1⟩:∃ W1,(w.alloc (.deferred (some []))).alloc (.loop (rec .ready none))=W1:=⟨_,rfl⟩
 have hB0:cx.w0.heap.size<=w.heap.size:=r.stp.size
 have q1:Quiet cx.w0.heap.size w (w.alloc (.deferred (some []))):=Quiet.alloc hB0 _
 have q2:Quiet cx.w0.heap.size (w.alloc (.deferred (some []))) W1:=by rw [<- hW1];exact Quiet.alloc (by simp;omega) _
 have hG1:Gh cx n sr (O 0) a w.heap.size rec W1 own:=⟨(r.quiet q1).quiet q2,by
  rw [<- hW1];have:=z4v (w.alloc (.deferred (some []))) (.loop (rec .ready none));simpa using this,by
  rw [<- hW1,z3z _ _ (by simp)];exact z4v w _⟩
 obtain ⟨b,hv,hb⟩:=zu2 (r.regs g _ hg)
 refine ⟨w.heap.size+1,[{ target:=.collected w.heap.size,args:=#[] }],W1,{ target:=.fn (.func bwF) #[.pointer (some ⟨b,0,none⟩)],args:=#[.func (.yield (w.heap.size+1)) #[] #[]] },W1,bwF,
  #[.func (.yield (w.heap.size+1)) #[] #[],.pointer (some ⟨b,0,none⟩)],W1,?_,?_,fun _ _=>trivial,?_,fun h=>(by cases h),?_⟩
 ·rw [<- hW1,hrec];exact run_enterLoop_outer _ _ _ _ _
 ·have:a.eval (.tmp g)=.func (.func bwF) #[] #[.pointer (some ⟨b,0,none⟩)]:=hv
  simp only [resolve,this]
  simp [go_sem]
 ·have eg:=(zs0 hfb (f:=bwF) rfl).run (P:=Tryz.prog)
  simp [invoke,go_sem,eg]
 have hdf:({ tmps:=a.tmps,defers:=[{ target:=Target.collected w.heap.size,args:=#[] }]++a.defers }:Act)={ tmps:=a.tmps,defers:=[{ target:=.collected w.heap.size,args:=#[] }] }:=by rw [r.defs];rfl
 have hBl:∀ {W:World} {o:Obs} {own:Nat->Value},Gh cx n sr o a w.heap.size rec W own->∀ ob':Obj,Quiet cx.w0.heap.size W (W.putObj (w.heap.size+1) ob'):=fun h ob'=>Quiet.putObj ob' h.l rfl (by omega)
 refine callsIn_of_wp Tryz.func244 rfl trivial ?_
 have hdone:∀ W own,Gh cx n sr (O rows.length) a w.heap.size rec W own->rangePost Fence.wide 0 Tryz.prog (w.heap.size+1) Q { tmps:=a.tmps,defers:=[{ target:=Target.collected w.heap.size,args:=#[] }]++a.defers } (.returned (.tuple #[])) W:=fun W own hG=>by
  refine ⟨none,_,by have:=run_endLoop (P:=Tryz.prog) hG.l (by rw [hrec];simp);rw [hrec] at this;exact this,?_⟩
  rw [hdf]
  exact hQ _ _ own (Nat.le_refl _) (hG.r.quiet (hBl hG _)) ((World.putObj_heap_other (by omega)).trans hG.d)
 have hF0:Rl Tryz.prog cx 19 ⟨[(0,.fv (.yield (w.heap.size+1)) [] []),(1,.ptr K 0)],O 0⟩ { tmps:=#[.func (.yield (w.heap.size+1)) #[] #[],.pointer (some ⟨b,0,none⟩)]++Array.replicate (Tryz.f244.ntmps-2) undef,defers:=[] } W1 own:=by
  refine hG1.r.frame rfl rfl fun t x hx=>?_
  match t,hx with
  | 0,hx=>cases hx;exact .fv [] [] rfl rfl (fun j x h=>by simp at h) (fun j x h=>by simp at h)
  | 1,hx=>cases hx;exact .ptr hb
  | t+2,hx=>simp [get,Nat.beq] at hx
 refine wpIn_seq (wpIn_region_list ?_)
 refine pin hF0 rfl rfl (by decide) (z8w hF0 bwTS rfl (hK 0 (by omega)) rfl) fun v1 r1=>?_
 refine pin r1 rfl rfl (by decide) (zwn r1 bwSI rfl rfl) fun v2 r2=>?_
 have hs:=zm7 (op:=.sub) (x:=.int .i64 rows.length) (y:=.int .i64 1) (u:=.tmp 5) (v:=.const (.int .i64 1)) (z:=.int .i64 ((rows.length:Int)-1)) rfl ⟨⟨by omega,by omega⟩,trivial⟩
 refine pin r2 rfl rfl (by decide) (zgw r2 rfl rfl hs.1 hs.2) fun v3 r3=>?_
 refine pin r3 rfl rfl (by decide) (zcz r3 rfl) fun v4 r4=>?_
 refine wpListIn_nil ?_
 refine wpIn_block (wpIn_loop (fun aB W=>∃ k own,k<=rows.length/\Gh cx n sr (O k) a w.heap.size rec W own/\Rl Tryz.prog cx 19 ⟨zyi K (w.heap.size+1) ((rows.length:Int)-1-k),O k⟩ aB W own) (fun aB _=>match aB.tmps.getD 3 undef with | .int _ i=>(i+1).toNat | _=>0) ?_ ?_)
 ·have e0:(rows.length:Int)-1-((0:Nat):Int)=rows.length-1:=by omega
  refine ⟨0,own,by omega,hG1,r4.frame r4.defs r4.size fun t x hx=>r4.regs t x ?_⟩
  rw [e0] at hx
  match t,hx with
  | 0,hx=>exact hx
  | 1,hx=>exact hx
  | 2,hx=>cases hx
  | 3,hx=>exact hx
  | t+4,hx=>cases hx
 ·rintro aB W ⟨k,own,hk,hG,rB⟩
  have h3:aB.tmps.getD 3 undef=.int .i64 ((rows.length:Int)-1-k):=(rB.regs 3 _ rfl).val
  have hs:=zm7 (op:=.geq) (x:=.int .i64 ((rows.length:Int)-1-k)) (y:=.int .i64 0) (u:=.tmp 7) (v:=.const (.int .i64 0)) (z:=.bool (decide ((rows.length:Int)-1-k≥0))) rfl trivial
  refine wpIn_seq (wpIn_seq (wpIn_region_list ?_))
  refine pin rB rfl rfl (by decide) (z6i rB rfl) fun v1 r1=>?_
  refine pin r1 rfl rfl (by decide) (zgw r1 rfl rfl hs.1 hs.2) fun v2 r2=>?_
  refine wpListIn_nil ?_
  have hc:((aB.put (some 7) v1).put (some 8) v2).eval (.tmp 8)=.bool (decide ((rows.length:Int)-1-k≥0)):=(r2.regs 8 _ rfl).val
  refine wpIn_cond hc ?_
  by_cases hlt:k<rows.length
  ·rw [decide_eq_true (show (rows.length:Int)-1-k≥0 by omega),if_pos rfl]
   refine wpIn_skip ?_
   refine wpIn_seq (wpIn_block (wpIn_seq (wpIn_region_list ?_)))
   obtain ⟨row,hrw⟩:∃ row,rows[rows.length-1-k]?=some row:=⟨_,List.getElem?_eq_getElem (by omega)⟩
   have hi:(rows.length:Int)-1-k=((rows.length-1-k:Nat):Int):=by omega
   have hrl:=hrow row (List.mem_of_getElem? hrw)
   have hra:rowAt rows ((rows.length:Int)-1-k)=row:=by rw [hi];exact z6h hrw
   refine pin r2 rfl rfl (by decide) (z6i r2 rfl) fun v11 r11=>?_
   refine pin r11 rfl rfl (by decide) (z6i r11 rfl) fun v12 r12=>?_
   refine pin r12 rfl rfl (by decide) (z8w r12 bwTS rfl (hK k (by omega)) rfl) fun v13 r13=>?_
   refine pin r13 rfl rfl (by decide) (z6i r13 rfl) fun v14 r14=>?_
   refine pin r14 rfl rfl (by decide) (zq2 r14 bwSI bwTI rfl rfl rfl rfl (by omega) (by omega)) fun v15 r15=>?_
   refine pin r15 rfl rfl (by decide) (zep r15 bwTI rfl (by rw [hra];exact zyg hrl)) fun v16 r16=>?_
   refine zxk (r:=r16) hrec hG hB0 rfl rfl rfl rfl rfl rfl hp0 hp1 hne hn0 hn1 hda hdb (hA k row hlt hrw) (hB k hlt) (hkeys (k+1) (by omega) |>.trans (hkeys k (by omega)).symm) (hcl (k+1) (by omega)) hg ?_
   intro aD WD ownD hGD rD
   have hn:=zia (P:=Tryz.prog) (op:=.not) (x:=.bool true) (z:=.bool false) rfl trivial
   refine pin rD rfl rfl (by decide) (zzw rD rfl hn.1 hn.2) fun v18 r18=>?_
   refine wpListIn_nil ?_
   have hc2:(aD.put (some 18) v18).eval (.tmp 18)=.bool false:=(r18.regs 18 _ rfl).val
   refine wpIn_cond hc2 ?_
   refine wpIn_skip ?_
   refine wpIn_region_list ?_
   have hs2:=zm7 (op:=.sub) (x:=.int .i64 ((rows.length:Int)-1-k)) (y:=.int .i64 1) (u:=.tmp 9) (v:=.const (.int .i64 1)) (z:=.int .i64 ((rows.length:Int)-1-k-1)) rfl ⟨⟨by omega,by omega⟩,trivial⟩
   refine pin r18 rfl rfl (by decide) (z6i r18 rfl) fun v9 r9=>?_
   refine pin r9 rfl rfl (by decide) (zgw r9 rfl rfl hs2.1 hs2.2) fun v10 r10=>?_
   refine pin r10 rfl rfl (by decide) (zcz r10 rfl) fun v3 rE=>?_
   refine wpListIn_nil ?_
   have hi1:(rows.length:Int)-1-((k+1:Nat):Int)=(rows.length:Int)-1-k-1:=by omega
   refine ⟨⟨k+1,ownD,hlt,hGD,rE.frame rE.defs rE.size fun t x hx=>rE.regs t x ?_⟩,?_⟩
   ·rw [hi1] at hx
    match t,hx with
    | 0,hx=>exact hx
    | 1,hx=>exact hx
    | 2,hx=>cases hx
    | 3,hx=>exact hx
    | t+4,hx=>cases hx
   ·have hf3:=(rE.regs 3 _ rfl).val
    rw [h3,hf3]
    simp only
    omega
  ·rw [decide_eq_false (show ¬ (rows.length:Int)-1-k≥0 by omega),if_neg (by decide)]
   obtain rfl:k=rows.length:=by omega
   exact wpIn_exit ⟨r2.defs,_,by simp [results,Tryz.f244,Sem.run_pure],hdone W own hG⟩
end
end Go.Ab.YtpneaijfkefeaaaGreat
set_option linter.unusedVariables false
set_option linter.unusedSimpArgs false
namespace Go.Ab
open Go Go.RowKit
section
variable {P : Program} {cx : Cx} {n : Nat} {E : En}
def Wtc (P:Program) (cx:Cx) (n:Nat) (c:Code) (Q:Exit->Act->World->Prop) (s:S):Prop:=∀ a w,Rel P cx n s a w->c.wp P Q a w
theorem z4s (hE:EnOK P cx n E) {a b:Code} {Q:Exit->Act->World->Prop} {r:VR} {o:Obs} (h:vcC P cx n E a (fun e r o=>e=.normal/\Wtc P cx n b Q ⟨toR r,o⟩) r o):Wtc P cx n (.seq a b) Q ⟨toR r,o⟩ :=
 fun act w hr=>wp_seq (wp_mono (z1j hE h act w hr) fun e a' w' ⟨s,hs,r',o',h1,h2,h3,he,hw⟩=>by
  subst he
  exact hw a' w' (Eqv.rel (s:=s) (s':=⟨toR r',o'⟩) ⟨h1,h2⟩ hs))
theorem zxl (hE:EnOK P cx n E) {a b c:Code} {Q:Exit->Act->World->Prop} {r:VR} {o:Obs} (h:vcC P cx n E a (fun e r o=>e=.normal/\Wtc P cx n b (Exit.then (c.wp P Q) Q) ⟨toR r,o⟩) r o):Wtc P cx n (.seq (.seq a b) c) Q ⟨toR r,o⟩ :=
 fun act w hr=>wp_seq (wp_seq (wp_mono (z1j hE h act w hr) fun e a' w' ⟨s,hs,r',o',h1,h2,h3,he,hw⟩=>by
  subst he
  exact hw a' w' (Eqv.rel (s:=s) (s':=⟨toR r',o'⟩) ⟨h1,h2⟩ hs)))
def markQ (P:Program) (cx:Cx) (n:Nat) (fn:Func) (R:AV->Obs->Prop):Exit->Act->World->Prop
 | .ret,a,w=>∃ D,a.defers=[{ target:=.collected D,args:=#[] }]/\cx.w0.heap.size<=D/\w.heap[D]?=some (.deferred (some []))/\∃ s own,Rl P cx n s { a with defers:=[] } w own/\Ends P cx n fn R s
 | _,_,_=>False
theorem Rl.chain {s s2:S} {a a2:Act} {w w2:World} {own own2:Nat->Value} {m:Nat} (r:Rl P cx n s a w own) (r3:Rl P ⟨w,cx.M0,own,s.objs⟩ m s2 a2 w2 own2) (h0:cx.objs0=[]):Rl P cx m s2 a2 w2 own2 :=
 ⟨r3.defs,r3.size,r3.ok,r3.regs,r.stp.trans r3.stp,fun k o h=>(by rw [h0] at h;cases h),r.fr.trans r3.fr⟩
theorem zu4 {f:Nat} {fn:Func} {c:Code} {args:List AV} {objs:Obs} {R:AV->Obs->Prop} (hf:P.funcs[f]?=some fn) (hb:fn.body=some c) (hn:fn.ntmps=n) (hle:Nat.ble args.length n=true)
  (h:∀ cx:Cx,cx.objs0=objs->Wtc P cx n c (markQ P cx n fn R) ⟨entry args 0,objs⟩):Con P f args objs R:=by
 intro w M0 own vals hok harg
 have hle':args.length<=n:=by simpa using hle
 have hr:Rl P ⟨w,M0,own,objs⟩ n ⟨entry args 0,objs⟩ { tmps:=vals.toArray++Array.replicate (fn.ntmps-vals.toArray.size) undef,defers:=[] } w own:=by
  refine { defs:=rfl,size:=?_,ok:=hok,regs:=fun t x hx=>?_,stp:=Stp.refl _ _,fix:=fun _ _ _=>.same,fr:=Fr.refl _ _ _ }
  ·have:=harg.1
   simp only [Array.size_append,List.size_toArray,Array.size_replicate];omega
  ·have hh:=(zbz hx).2
   simp only [Nat.sub_zero] at hh
   have hlt:t<vals.length:=by have:=(List.getElem?_eq_some_iff.1 hh).1;have:=harg.1;omega
   have h1:=harg.2 t x hh
   have e:(vals.toArray++Array.replicate (fn.ntmps-vals.toArray.size) undef).getD t undef=vals.getD t undef:=by
    rw [Array.getD_eq_getD_getElem?,Array.getElem?_append_left (by simpa using hlt),List.getD_eq_getElem?_getD]
    simp
   show RepA _ _ _ _ _ (Array.getD _ t undef)
   rw [e];exact h1
 refine callsIn_wide.1 (callsIn_of_wp_marks (n:=0) hf hb trivial (wpIn_wide.2 (wp_mono (h ⟨w,M0,own,objs⟩ rfl _ w ⟨own,hr⟩) ?_)))
 intro e a' w' hq
 cases e with
 | ret =>
   obtain ⟨D,hd,hB,hD,s,own',hs,hE⟩:=hq
   have q:=Quiet.putObj (.deferred none) hD rfl hB
   obtain ⟨v,h1,r,objs',own'',h2⟩:=hE _ _ own' (hs.quiet q)
   show LeavesInM _ _ _ _ _ _ a'.defers .returning w'
   rw [hd]
   exact ⟨by simp,.inl ⟨D,_,rfl,run_takeDeferred hD,⟨v,h1,r,objs',own'',v,rfl,h2⟩⟩⟩
 | _=>exact hq.elim
end
end Go.Ab
namespace Go.Ab.YtpneaijfkefeaaaGreat
open Go Go.RowKit Go.Ab Go.Proofs
theorem cvm {f:Nat} {fn:Func} {c:Code} {args:List AV} {objs:Obs} {R:AV->Obs->Prop} (hf:Tryz.prog.funcs[f]?=some fn) (n:Nat) (hn:fn.ntmps=n) (hb:fn.body=some c) (hle:Nat.ble args.length n=true)
  (h:∀ cx:Cx,cx.objs0=objs->EnK Tryz.prog cx n tab fbs n (objs.map (·.1)) ccs cls->Wtc Tryz.prog cx n c (markQ Tryz.prog cx n fn R) ⟨toR (zf3 args 0),objs⟩):Con Tryz.prog f args objs R :=
 zu4 hf hb hn hle fun cx hcx=>by
  have hK:EnK Tryz.prog cx n tab fbs n (objs.map (·.1)) ccs cls:=⟨rfl,htab,hfb,fun k hk=>(by
   rw [hcx]
   refine z6s fun hm=>?_
   rw [mem_iff.2 hm] at hk;cases hk),hmo,hcc,hcl⟩
  have:=h cx hcx hK
  rw [zcx] at this
  exact this
theorem zu5 (l:List Trm):Con Tryz.prog 243 [.p (.sl 5 (encTs l))] [] (fun r o=>r=.fv (.func bwF) [] [.ptr 1 0]/\o=[(1,.ce 33 [.p (.sl 5 (encTs l))])]) :=
 cv [] [] [1] Tryz.func243 4 Tryz.ntmps243 rfl rfl fun cx hE=>⟨rfl,rfl⟩
theorem zdy (h a:Trm):PCon Tryz.prog 168 [tv h,.p (.sl 5 [rowT a])] (tv (mkA h a)):=by
 have:=z2o h [a] (by simp)
 rw [show encTs [a]=[rowT a] by simp [zb]] at this
 exact this
theorem zm8 (b:Int) (hb:b<=1000000000000000) (m:Nat) (hm:m<=1000000000000) (l:List Trm) (hl:∀ a∈l,wfT b a=true/\dpT a<=1000000000000) (hlen:l.length<=1000000000000):Con Tryz.prog 242 [.p (.sl 5 (encTs l)),.ptr 1000 0] [(1000,.ce 3 [.p (I m)])] (fun r o=>r=.p (.sl 5 (encTs (l.map fun a=>lftT m a 0)))/\o=[(1000,.ce 3 [.p (I m)])]):=by
 have hel:=zc l
 refine cv [] [] [1000] Tryz.func242 21 Tryz.ntmps242 rfl rfl fun cx hE=>fun _=>?_
 refine tokV 4 500 35 5 hE rfl rfl rfl ?_
 refine loopP l (fun p=>[(9,.p (I p.length)),(4,.ts 500 5 (encTs (p.map fun a=>lftT m a 0)))]) (fun p=>[(500,.ar 35 5 (encTs (p.map fun a=>lftT m a 0)).length)]) (fun _=>True) [9,4] [500] hE rfl rfl rfl ⟨Sub.refl _,Sub.refl _,rfl,rfl,trivial⟩ trivial (fun _=>brTe ⟨rfl,rfl⟩) (fun p a q hq _=>?_)
 have:=zj hq
 obtain ⟨h1,h2⟩:=hl a (zg hq)
 refine brT' hq (idxT hq (call0 (z9n m 0 b (by omega) (by omega) (by omega) (by omega) hb a h2 h1) (app1 (by simp;omega) (by simp;omega) (And.intro (by omega) ?_))))
 exact ⟨trivial,Sub.i (by simp),Sub.eq (congrArg (AV.ts 500 5) (zit p (fun a=>lftT m a 0) a)),ar_eq (by simp),rfl,trivial⟩
theorem zm9:∀ (t:Trm) (acc:List Trm),(spnT t acc).2.length+dpT (spnT t acc).1<=acc.length+dpT t
 | ⟨k, n,s,ls,l⟩,acc=>by
   rw [spnT.eq_def]
   simp only
   split
   ·match l with
    | [f,a] =>
      have:=zm9 f (a::acc)
      refine Nat.le_trans this ?_
      have:=z1h (t:=⟨k,n,s,ls,[f,a]⟩) (a:=f) (by simp)
      simp;omega
    | []=>simp
    | [_]=>simp
    | _::_::_::_=>simp
   ·simp
termination_by t=>SizeOf.sizeOf t
theorem zk0:∀ n:Nat,(varsT n).length=n
 | 0=>rfl
 | n+1=>by simp [varsT,zk0 n]
theorem zk1:∀ (n j:Nat),j<n->(varsT n)[j]?=some (mkV ((n:Int)-1-j))
 | 0,j,h=>by omega
 | n+1,0,h=>by simp only [varsT,List.getElem?_cons_zero];congr 2;push_cast;omega
 | n+1,j+1,h=>by
   simp only [varsT,List.getElem?_cons_succ]
   rw [zk1 n j (by omega)]
   congr 2;push_cast;omega
def hypT (h:Trm) (args:List Trm) (p nc:Nat) (typ field:Trm):Trm :=
 lamsT (piL typ) (mkA (appT (appT h ((args.take (p+1+nc)).map fun a=>lftT (piL typ).length a 0)) ((argsT (piE typ)).drop p)) (appT (lftT (piL typ).length field 0) (varsT (piL typ).length)))
def zOb:Ob:=.ce 35 [.p (I 0),.p (I 0),.p (St ⟨#[]⟩),.p nilS,.p nilS]
def hypO (xs:List Trm) (T:Trm) (k:Nat):Obs:=[(12,ceT (lamsT (xs.drop (xs.length-k)) T)),(6,zOb),(1,.ce 33 [.p (.sl 5 (encTs xs))])]
def hypR:VR:=[(87,.a (.fv (.func bwF) [] [.ptr 1 0])),(12,.a (.ptr 12 0)),(6,.a (.ptr 6 0))]
theorem zoh (cx:Cx) {o:Obs} (h:cx.objs0=o) (n:Nat):EnK Tryz.prog cx n tab fbs n (o.map (·.1)) ccs cls :=
 ⟨rfl,htab,hfb,fun k hk=>(by
  rw [h]
  refine z6s fun hm=>?_
  rw [mem_iff.2 hm] at hk;cases hk),hmo,hcc,hcl⟩
abbrev ops18:List Oper:=[{ dst:=some 16,op:=Op.alloc 35,type:=0,pos:="iota.go:114",after:=#[],guard:=none },
 {dst:=none,op:=Op.store 35 (Operand.tmp 16) (Operand.tmp 89),type:=0,pos:="iota.go:114",after:=#[{ on:=0,ground:=Ground.data },{ on:=0,ground:=Ground.phase }],guard:=none }]
abbrev ops19:List Oper:=[{ dst:=some 90,op:=Op.load 35 (Operand.tmp 16),type:=35,pos:="iota.go:115",after:=#[],guard:=none },
 {dst:=some 91,op:=Op.load 35 (Operand.tmp 12),type:=35,pos:="iota.go:115",after:=#[],guard:=none },
 {dst:=some 92,op:=Op.call { callee:=Callee.value (Operand.func 171),args:=#[Operand.const (Value.int IntKind.i64 4),Operand.tmp 90,Operand.tmp 91],argTypes:=#[3,35,35] },type:=35,pos:="iota.go:115",after:=#[{ on:=0,ground:=Ground.data },{ on:=1,ground:=Ground.data }],guard:=none },
 {dst:=none,op:=Op.store 35 (Operand.tmp 12) (Operand.tmp 92),type:=0,pos:="iota.go:115",after:=#[{ on:=2,ground:=Ground.data },{ on:=2,ground:=Ground.chain },{ on:=0,ground:=Ground.phase },{ on:=1,ground:=Ground.phase },{ on:=2,ground:=Ground.phase }],guard:=none }]
abbrev ops20:List Oper:=[{ dst:=some 93,op:=Op.load 35 (Operand.tmp 12),type:=35,pos:="iota.go:117",after:=#[],guard:=none },
 {dst:=none,op:=Op.store 35 (Operand.tmp 6) (Operand.tmp 93),type:=0,pos:="iota.go:117",after:=#[{ on:=0,ground:=Ground.data },{ on:=0,ground:=Ground.phase }],guard:=none }]
def hypS (xs:List Trm) (T:Trm) (k:Nat):S:=⟨(16,.ptr 16 0)::toR hypR,(16,ceT (xs.getD (xs.length-1-k) zT))::hypO xs T k⟩
theorem zz0s {n:Nat} {Z:S->Prop} {cx:Cx}:¬ LetsOut (post Tryz.prog cx n fun e s=>e=.normal/\Z s):=fun ⟨_,_,_,_,h,_⟩=>by cases h
theorem hyp_a (xs:List Trm) (T:Trm) (k:Nat) (row:List PV) (hk:k<xs.length) (hr:(encTs xs)[xs.length-1-k]?=some row) (i:Int) (cx':Cx) (hc:cx'.objs0=hypO xs T k) :
  AWl Tryz.prog cx' 94 ops18.toArray ops18 (fun e s'=>e=.normal/\Le Tryz.prog cx' 94 s' (hypS xs T k)) ⟨(89,.ag (row.map .p))::(88,.p (I i))::toR hypR,hypO xs T k⟩:=by
 have hx:xs[xs.length-1-k]?=some (xs.getD (xs.length-1-k) zT):=by
  rw [List.getD_eq_getElem?_getD,List.getElem?_eq_getElem (by omega)];rfl
 have e:row=rowT (xs.getD (xs.length-1-k) zT):=by
  rw [zb,List.getElem?_map,hx] at hr;simpa using hr.symm
 subst e
 have hE:=zoh cx' hc 94
 refine z4p (E:=En0 94 [12,6,1] [] [] []) (EnK.ok (E:=En0 94 [12,6,1] [] [] []) hE) (dr:=false) (ops:=ops18) (r:=(89,.a (.ag ((rowT (xs.getD (xs.length-1-k) zT)).map .p)))::(88,.a (.p (I i)))::hypR) (tr:=[]) (k:=fun r o _=>Le Tryz.prog cx' 94 ⟨toR r,o⟩ (hypS xs T k)) ?_ (fun r' o' tr' _ h=>⟨rfl,h⟩)
 exact Le.mk (.cons rfl (Sub.refl _) (.cons rfl (Sub.refl _) (.cons rfl (Sub.refl _) (.cons rfl (Sub.refl _) .nil)))) (.cons rfl rfl (.cons rfl rfl (.cons rfl rfl (.cons rfl rfl .nil)))) rfl
theorem hyp_b (xs:List Trm) (T:Trm) (k:Nat) (hk:k<xs.length) (cx':Cx) (hc:cx'.objs0=hypO xs T k) :
  AWl Tryz.prog cx' 94 ops19.toArray ops19 (fun e s'=>e=.normal/\Le Tryz.prog cx' 94 s' ⟨[],hypO xs T (k+1)⟩) (hypS xs T k):=by
 have hx:xs[xs.length-1-k]?=some (xs.getD (xs.length-1-k) zT):=by
  rw [List.getD_eq_getElem?_getD,List.getElem?_eq_getElem (by omega)];rfl
 have hd:=zf7 hx T
 have e1:xs.length-1-k+1=xs.length-k:=by omega
 have e2:xs.length-(k+1)=xs.length-1-k:=by omega
 have hE:=zoh cx' hc 94
 refine z4p (E:=En0 94 [12,6,1] [] [] []) (EnK.ok (E:=En0 94 [12,6,1] [] [] []) hE) (dr:=false) (ops:=ops19) (r:=(16,.a (.ptr 16 0))::hypR) (tr:=[]) (k:=fun r o _=>Le Tryz.prog cx' 94 ⟨toR r,o⟩ ⟨[],hypO xs T (k+1)⟩) ?_ (fun r' o' tr' _ h=>⟨rfl,h⟩)
 refine call0 (zm5 4 (xs.getD (xs.length-1-k) zT) (lamsT (xs.drop (xs.length-k)) T)) (Le.mk .nil (.cons rfl ?_ (.cons rfl rfl (.cons rfl rfl .nil))) rfl)
 rw [e2,hd,e1];rfl
set_option maxHeartbeats 8000000 in
theorem zz0t (cx:Cx) (hcx:cx.objs0=[]) (xs:List Trm) (hl:xs.length<=1000000000000) (T R0:Trm) (hR:R0=lamsT xs T) (a:Act) (w:World) (own:Nat->Value) (r:Rl Tryz.prog cx 94 ⟨toR hypR,[(12,ceT T),(6,zOb),(1,.ce 33 [.p (.sl 5 (encTs xs))])]⟩ a w own) :
  (Code.rangeFunc (.tmp 87) #[88,89] (.region 18 ops18.toArray false) (.block 5 (.region 19 ops19.toArray false))).wp Tryz.prog (Exit.inBlock 4 (Exit.then ((Code.seq (.region 20 ops20.toArray false) .ret).wp Tryz.prog (markQ Tryz.prog cx 94 Tryz.f241 fun x o=>x=tv R0/\o=[])) (markQ Tryz.prog cx 94 Tryz.f241 fun x o=>x=tv R0/\o=[]))) a w:=by
 have hel:=zc xs
 have h0:hypO xs T 0=[(12,ceT T),(6,zOb),(1,.ce 33 [.p (.sl 5 (encTs xs))])]:=by simp [hypO,lamsT]
 have hN:hypO xs T (encTs xs).length=[(12,ceT R0),(6,zOb),(1,.ce 33 [.p (.sl 5 (encTs xs))])]:=by simp [hypO,hR]
 refine zz0r r 87 88 89 1 33 (encTs xs) (hypO xs T) rfl h0.symm (by omega) (fun k _=>rfl) (fun k _=>rfl) ?_ ?_ (by decide) (by decide) (by decide) rfl rfl 18 19 5 ops18.toArray ops19.toArray ?_ ?_ (hypS xs T) (fun k row hk hr cx' hc=>?_) (fun k hk cx' hc=>hyp_b xs T k (by omega) cx' hc) ?_
 ·intro k _ j T' cs hm y hy
  have key:∃ x,y=.p x:=by
   simp only [hypO,ceT,zOb,List.mem_cons,Prod.mk.injEq,Ob.ce.injEq,List.not_mem_nil,or_false] at hm
   rcases hm with ⟨_,_,rfl⟩ | ⟨_,_,rfl⟩ | ⟨_,_,rfl⟩
   ·simp only [List.mem_cons,List.not_mem_nil,or_false] at hy
    rcases hy with rfl | rfl | rfl | rfl | rfl<;>exact ⟨_,rfl⟩
   ·simp only [List.mem_cons,List.not_mem_nil,or_false] at hy
    rcases hy with rfl | rfl | rfl | rfl | rfl<;>exact ⟨_,rfl⟩
   ·simp only [List.mem_cons,List.not_mem_nil,or_false] at hy
    subst hy;exact ⟨_,rfl⟩
  obtain ⟨x,rfl⟩:=key
  intro q hq
  cases hq
 ·intro row hm
  rw [zb] at hm
  obtain ⟨x,_,rfl⟩:=List.mem_map.1 hm
  rfl
 ·intro o ho c
  simp at ho
  rcases ho with rfl | rfl<;>simp
 ·intro o ho c
  simp at ho
  rcases ho with rfl | rfl | rfl | rfl<;>simp
 ·exact hyp_a xs T k row (by omega) (by rw [<- hel];exact hr) _ cx' hc
 ·intro D w' own' hle r' hD
  rw [hN] at r'
  show (Code.seq (.region 20 ops20.toArray false) .ret).wp Tryz.prog _ { a with defers:=[{ target:=.collected D,args:=#[] }] } w'
  have hE3:=zoh ⟨w',cx.M0,own',[(12,ceT R0),(6,zOb),(1,.ce 33 [.p (.sl 5 (encTs xs))])]⟩ rfl 94
  have hL:AWl Tryz.prog ⟨w',cx.M0,own',[(12,ceT R0),(6,zOb),(1,.ce 33 [.p (.sl 5 (encTs xs))])]⟩ 94 ops20.toArray ops20 (fun e s'=>e=.normal/\Le Tryz.prog ⟨w',cx.M0,own',[(12,ceT R0),(6,zOb),(1,.ce 33 [.p (.sl 5 (encTs xs))])]⟩ 94 s' ⟨[(6,.ptr 6 0)],[(6,ceT R0)]⟩) ⟨toR hypR,[(12,ceT R0),(6,zOb),(1,.ce 33 [.p (.sl 5 (encTs xs))])]⟩:=by
   refine z4p (E:=En0 94 [12,6,1] [] [] []) (EnK.ok (E:=En0 94 [12,6,1] [] [] []) hE3) (dr:=false) (ops:=ops20) (r:=hypR) (tr:=[]) (k:=fun r o _=>Le Tryz.prog _ 94 ⟨toR r,o⟩ ⟨[(6,.ptr 6 0)],[(6,ceT R0)]⟩) ?_ (fun r' o' tr' _ h=>⟨rfl,h⟩)
   exact Le.mk (.cons rfl (Sub.refl _) .nil) (.cons rfl rfl .nil) rfl
  have hq:=z8u [{ target:=.collected D,args:=#[] }] zz0s ops20 a w' (by
   intro o ho c
   simp at ho
   rcases ho with rfl | rfl<;>simp) (hL a w' ⟨own',r'.fresh⟩)
  rw [r'.defs,List.nil_append] at hq
  refine wp_seq (wp_mono (wp_region_list hq) ?_)
  rintro e a' w'' ⟨a0,⟨s0,hs0,rfl,hle0⟩,rfl⟩
  obtain ⟨own0,r0⟩:=hle0 _ _ hs0
  have hDk:=r0.lies (M0:=cx.M0) r'.ok hD rfl
  have rc:=r'.chain r0 hcx
  have hact:({ ({ a0 with defers:=a0.defers++[{ target:=Target.collected D,args:=#[] }] }:Act) with defers:=[] }:Act)=a0:=by
   obtain ⟨t0,d0⟩:=a0
   have:d0=[]:=r0.defs
   subst this;rfl
  have hK:=zoh cx hcx 94
  refine wp_ret ⟨D,by rw [r0.defs];rfl,Nat.le_trans r.stp.size hle,hDk,⟨[(6,.ptr 6 0)],[(6,ceT R0)]⟩,own0,by rw [hact];exact rc,?_⟩
  exact zac (E:=En0 94 [] [] [] []) (EnK.ok (E:=En0 94 [] [] [] []) hK) (r:=[(6,.a (.ptr 6 0))]) (o:=[(6,ceT R0)]) ⟨rfl,rfl⟩
set_option maxHeartbeats 8000000 in
theorem zxm (b:Int) (hb:b<=100000000000000) (h:Trm) (args:List Trm) (f:Dcl) (p:Nat) (m:Int) (typ field:Trm) (hw:wfT b typ=true) (hd:dpT typ<=1000000000) (hfw:wfT b field=true) (hfd:dpT field<=1000000000)
  (hargs:∀ a∈args,wfT b a=true/\dpT a<=1000000000) (hal:args.length<=1000000000) (hfc:f.ctors.length<=1000) (hp:p+1+f.ctors.length<=args.length) :
  PCon Tryz.prog 241 [.ag (useL h args f p m),tv typ,tv field] (tv (hypT h args p f.ctors.length typ field)):=by
 have hpd:=z3y typ
 have hpe:=(pi_wf typ hw).2
 have hcl:(encCs f.ctors).length=f.ctors.length:=by simp [encCs]
 have hael:=zc args
 refine cvm Tryz.func241 94 Tryz.ntmps241 rfl rfl fun cx hcx hE'=>?_
 have hE:EnK Tryz.prog cx 94 tab fbs 94 [] ccs cls:=hE'
 have hOK:EnOK Tryz.prog cx 94 (En0 94 [] [] [] []):=EnK.ok (E:=En0 94 [] [] [] []) hE
 refine z4s hOK ⟨rfl,?_⟩
 refine z4s hOK ⟨rfl,?_⟩
 refine z4s hOK ?_
 refine tokV 7 500 35 5 hE rfl rfl rfl ?_
 refine loop2 (fun (q:List Trm) (u:Trm)=>[(7,.ts 500 5 (encTs q))]) (fun q u=>[(4,ceT u),(500,.ar 35 5 (encTs q).length)]) (fun q u=>piL typ=q++piL u/\piE u=piE typ/\wfT b u=true/\q.length+dpT u<=dpT typ) (fun q u=>dpT u) [] typ [7] [4,500] hE rfl rfl rfl ⟨Sub.refl _,rfl,rfl,rfl,rfl,rfl,trivial⟩ ⟨rfl,rfl,hw,by simp⟩ fun q u ⟨g1,g2,g3,g4⟩=>?_
 have hel:=zc u.args
 refine brS (fun hk=>?_) (fun hk=>⟨rfl,?_⟩)
 ·obtain ⟨x,y,ha⟩:=z4q g3 (.inr (.inr hk))
  have hy:=z1h (t:=u) (a:=y) (by rw [ha];simp)
  have hp1:=z2d hk ha
  have r0:(encTs u.args)[0]?=some (rowT x):=by rw [ha];simp [zb]
  have r1:(encTs u.args)[1]?=some (rowT y):=by rw [ha];simp [zb]
  refine idxN (i:=0) r0 (app1 (by simp;omega) (by simp;omega) (idxN (i:=1) r1 ⟨q++[x],y,⟨by rw [g1,hp1.1];simp,by rw [<- g2,hp1.2.1],(zf g3).sub y (by rw [ha];simp),by simp;omega⟩,by omega,Sub.eq (congrArg (AV.ts 500 5) (z1f q x)),rfl,ar_eq (by simp),rfl,rfl,rfl,trivial⟩))
 ·have hpu:=z2t (u:=u) (fun hc=>hk hc.1)
  rw [hpu.1,List.append_nil] at g1
  rw [hpu.2.1] at g2
  subst g1 g2
  have hN:=hpd
  refine z4s hOK (fun _=>⟨rfl,?_⟩)
  refine z4s hOK ⟨rfl,?_⟩
  refine z4s hOK (call0 (z3k b (piE typ) hpe (by omega)) ⟨rfl,?_⟩)
  have hxl:=zc (piL typ)
  have hil:=zc (argsT (piE typ))
  have hNl:(piL typ).length<=1000000000:=by omega
  have hl8:=(zm8 b (by omega) (piL typ).length (by omega) (args.take (p+1+f.ctors.length)) (fun a ha=>by have:=hargs a (List.mem_of_mem_take ha);exact ⟨this.1,by omega⟩) (by simp;omega)).at1 1000 8 rfl rfl rfl rfl
  rw [<- hxl] at hl8
  have et:(encTs args).take ((p:Int)+1+((encCs f.ctors).length:Int)).toNat=encTs (args.take (p+1+f.ctors.length)):=by
   rw [show ((p:Int)+1+((encCs f.ctors).length:Int)).toNat=p+1+f.ctors.length by omega];simp [zb]
  refine z4s hOK (And.intro (by omega) (And.intro (by omega) (And.intro (by omega) (callR [8] hl8 rfl rfl (.cons (Sub.eq (congrArg (fun x=>AV.p (.sl 5 x)) et)) (.cons (Sub.refl _) .nil)) (callR [] (z2o h ((args.take (p+1+f.ctors.length)).map fun a=>lftT (encTs (piL typ)).length a 0) (by simp;omega)) rfl rfl (za _) ⟨rfl,?_⟩)))))
  have ed:(encTs (argsT (piE typ))).drop (min (p:Int) ((encTs (argsT (piE typ))).length:Int)).toNat=encTs ((argsT (piE typ)).drop p):=by
   rw [hil,show (min (p:Int) ((argsT (piE typ)).length:Int)).toNat=min p (argsT (piE typ)).length by omega]
   rcases Nat.le_total p (argsT (piE typ)).length with hc | hc
   ·rw [Nat.min_eq_left hc];simp [zb]
   ·rw [Nat.min_eq_right hc,List.drop_eq_nil_of_le hc,List.drop_eq_nil_of_le (by omega)];simp [zb]
  have hfl:(argsT (piE typ)).length<=1000000000:=by
   have:=zm9 (piE typ) []
   have h2:dpT (piE typ)<=dpT typ:=by omega
   unfold argsT;simp at this;omega
  generalize hT1:appT h ((args.take (p+1+f.ctors.length)).map fun a=>lftT (encTs (piL typ)).length a 0)=T1
  refine z4s hOK (And.intro (by omega) (callR [] (z2o T1 ((argsT (piE typ)).drop p) (by simp;omega)) rfl rfl (.cons (Sub.refl _) (.cons (Sub.eq (congrArg (fun x=>AV.p (.sl 5 x)) ed)) .nil)) ⟨rfl,?_⟩))
  generalize hT2:appT T1 ((argsT (piE typ)).drop p)=T2
  refine z4s hOK (call0 (z9n (encTs (piL typ)).length 0 b (by omega) (by omega) (by omega) (by omega) (by omega) field (by omega) hfw) ⟨rfl,?_⟩)
  generalize hT3:lftT (encTs (piL typ)).length field 0=T3
  refine z4s hOK ?_
  have hNl2:(encTs (piL typ)).length<=1000000000:=by omega
  generalize hNN:(encTs (piL typ)).length=N at *
  refine loop1 (fun (j:Nat)=>[(70,.p (I j))]) (fun j=>[(13,ceT (appT T3 ((varsT N).take j)))]) (fun j=>j<=N) (fun j=>N-j) 0 [70] [13] hE rfl rfl rfl ⟨Sub.refl _,rfl,rfl,rfl,rfl,rfl,rfl,rfl,rfl,rfl,trivial⟩ (by omega) fun j hj=>?_
  refine brS (fun hjn=>?_) (fun hjn=>⟨rfl,?_⟩)
  ·have hv:=zk1 N j (by omega)
   refine And.intro (by omega) (And.intro (by omega) (call0 (zoa _) (callR [] (z2o (appT T3 ((varsT N).take j)) [mkV ((N:Int)-1-j)] (by simp)) rfl rfl (.cons (Sub.refl _) (.cons (Sub.eq (by simp [zb,rowT,mkV,z1i])) .nil)) (And.intro (by omega) ⟨j+1,by omega,by omega,Sub.i (by simp),?_,rfl,rfl,rfl,rfl,rfl,rfl,rfl,rfl,trivial⟩))))
   rw [z1z hv,znp];rfl
  ·obtain rfl:j=N:=by omega
   have hvl:(varsT j).take j=varsT j:=List.take_of_length_le (by rw [zk0];omega)
   rw [hvl]
   generalize hT4:appT T3 (varsT j)=T4
   refine z4s hOK (call0 (zdy T2 T4) ⟨rfl,?_⟩)
   generalize hT5:mkA T2 T4=T5
   refine zxl hOK (call1 [] (zu5 (piL typ)) rfl rfl (.cons Sub.ts .nil) ⟨rfl,?_⟩)
   rintro a w ⟨own,r⟩
   refine wp_block ?_
   exact zz0t cx hcx (piL typ) (by omega) T5 (hypT h args p f.ctors.length typ field) (by unfold hypT;rw [<- hxl,hT1,hT2,hT3,hT4,hT5]) a w own (r.sub (.cons rfl (Sub.refl _) (.cons rfl (Sub.refl _) (.cons rfl (Sub.refl _) .nil))) (.cons rfl rfl (.cons rfl rfl (.cons rfl rfl .nil))) rfl)
end Go.Ab.YtpneaijfkefeaaaGreat
namespace Go.Ab
open Go Go.RowKit
def iotR (r:RecI) (h:Trm) (args:List Trm) (major:Trm):Option Trm :=
 if (headT major).kind=2 then (match z1y r.fam.ctors (headT major).name with
  | none=>none
  | some k=>if (argsT major).length=r.p+((piL (r.fam.ctors.getD k default).ty).length-r.p) then
     some (appT (hypsF r h args ((piL (r.fam.ctors.getD k default).ty).drop r.p) [] ((argsT major).drop r.p)
      (appT (args.getD (r.p+1+k) zT) ((argsT major).drop r.p))) (args.drop (r.major+1)))
    else none) else none
theorem z7h (ds:List Dcl) (t major:Trm):iotaF ds t major=(z1u ds (headT t)).bind fun r=>if r.major<(argsT t).length then iotR r (headT t) (argsT t) major else none:=by
 unfold iotaF iotR
 cases z1u ds (headT t) with
 | none=>rfl
 | some r =>
   simp only [Option.bind_some]
   by_cases h1:r.major<(argsT t).length
   ·by_cases h2:(headT major).kind=2
    ·simp only [if_pos (And.intro h1 h2),if_pos h1,if_pos h2];rfl
    ·simp [h1,h2]
   ·simp [h1]
theorem zyj (vs:List Trm):∀ (t:Trm) (d:Int),(piE t).kind≠0->(piL (opnT vs t d)).length=(piL t).length
 | ⟨k, n,s,ls,l⟩,d,h=>by
   by_cases hk:k=5/\l.length=2
   ·obtain ⟨hk5,hl⟩:=hk
    obtain ⟨x,y,rfl⟩:=z3d hl
    subst hk5
    have hp:=z2d (u:=⟨5,n,s,ls,[x,y]⟩) rfl rfl
    have ho:opnT vs ⟨5,n,s,ls,[x,y]⟩ d=⟨5,n,s,ls,[opnT vs x (d+bndF 5 0),opnT vs y (d+bndF 5 1)]⟩:=by
     simp [opnT,trvT,trvTs]
    have hp2:=z2d (u:=opnT vs ⟨5,n,s,ls,[x,y]⟩ d) (x:=opnT vs x (d+bndF 5 0)) (y:=opnT vs y (d+bndF 5 1)) (by rw [ho]) (by rw [ho])
    rw [hp2.1,hp.1,List.length_cons,List.length_cons,zyj vs y _ (by rw [<- hp.2.1];exact h)]
   ·have hp:=z2t (u:=⟨k,n,s,ls,l⟩) hk
    rw [hp.2.1] at h
    have h0:k≠0:=h
    have ho:opnT vs ⟨k,n,s,ls,l⟩ d=⟨k,n,s,ls,trvTs (opnV vs) k l 0 d⟩:=by simp [opnT,trvT,h0]
    have hp2:=z2t (u:=opnT vs ⟨k,n,s,ls,l⟩ d) (by rw [ho];simp only [z2k];exact hk)
    rw [hp2.1,hp.1]
termination_by t=>SizeOf.sizeOf t
theorem zoi (by_:List Lvl) (t:Trm):(lvsT by_ t).kind=t.kind/\(lvsT by_ t).args=t.args.map (lvsT by_):=by
 rw [zag];exact ⟨rfl,by simp [z3s]⟩
theorem zu6 (by_:List Lvl):∀ t:Trm,(piL (lvsT by_ t)).length=(piL t).length/\piE (lvsT by_ t)=lvsT by_ (piE t)
 | t => by
   obtain ⟨e1,e2⟩:=zoi by_ t
   by_cases hk:t.kind=5/\t.args.length=2
   ·obtain ⟨x,y,ha⟩:=z3d hk.2
    have hp:=z2d hk.1 ha
    have hp2:=z2d (u:=lvsT by_ t) (x:=lvsT by_ x) (y:=lvsT by_ y) (by rw [e1];exact hk.1) (by rw [e2,ha];rfl)
    have ih:=zu6 by_ y
    rw [hp2.1,hp.1,hp2.2.1,hp.2.1,List.length_cons,List.length_cons,ih.1,ih.2]
    exact ⟨rfl,rfl⟩
   ·have hp:=z2t hk
    have hp2:=z2t (u:=lvsT by_ t) (by rw [e1,e2,List.length_map];exact hk)
    rw [hp2.1,hp.1,hp2.2.1,hp.2.1]
    exact ⟨rfl,rfl⟩
termination_by t=>SizeOf.sizeOf t
decreasing_by exact Trm.lt (by rw [ha];simp)
theorem zu7 (by_:List Lvl) (t:Trm):(lvsT by_ t).kind=t.kind:=(zoi by_ t).1
theorem zu8 {t:Trm} (h:(headT t).kind=2):t.kind≠0:=by
 intro h0
 obtain ⟨k,n,s,ls,l⟩:=t
 simp only at h0
 subst h0
 unfold headT at h;rw [spnT.eq_def] at h;simp at h
theorem zu9 (vs:List Trm) (by_:List Lvl) (field:Trm) (h:(headT (piE field)).kind=2):(piL (opnT vs (lvsT by_ field) 0)).length=(piL field).length:=by
 have h1:=zu6 by_ field
 rw [zyj vs _ 0 (by rw [h1.2,zu7];exact zu8 h),h1.1]
theorem z6n:∀ {l:List Ctr} {s:ByteArray} {k:Nat},z1y l s=some k->k<l.length/\(l.getD k default).name=s
 | [],s,k,h=>by cases h
 | c :: r,s,k,h=>by
   simp only [z1y] at h
   split at h
   ·cases h;rename_i hn;exact ⟨by simp,by simpa using hn⟩
   ·cases hc:z1y r s with
    | none=>rw [hc] at h;cases h
    | some j =>
      rw [hc] at h
      simp only [Option.map_some,Option.some.injEq] at h
      subst h
      have:=z6n hc
      exact ⟨by simp;omega,by simpa using this.2⟩
theorem z7i {p q:List Ctr} {s:ByteArray} (h:z1y p s=none):z1y (p++q) s=(z1y q s).map (·+p.length):=by
 induction p with
 | nil=>cases hc:z1y q s<;>simp [hc]
 | cons c r ih =>
   simp only [z1y] at h
   split at h
   ·cases h
   ·rename_i hn
    have hr:z1y r s=none:=by cases hc:z1y r s with | none=>rfl | some j=>rw [hc] at h;cases h
    simp only [List.cons_append,z1y,if_neg hn,ih hr,Option.map_map,List.length_cons]
    cases z1y q s<;>simp [Nat.add_assoc]
theorem zua {b:Int}:∀ (t:Trm) (i:Nat),wfT b t=true->i<(piL t).length->∃ x y,(piL t)[i]?=some x/\(piD i t).kind=5/\(piD i t).args=[x,y]/\piD (i+1) t=y/\wfT b x=true/\dpT x<=dpT t
 | t,i,hw,hi=>by
   by_cases hk:t.kind=5/\t.args.length=2
   ·obtain ⟨x,y,ha⟩:=z3d hk.2
    have hp:=z2d hk.1 ha
    have hx:=z1h (t:=t) (a:=x) (by rw [ha];simp)
    have hy:=z1h (t:=t) (a:=y) (by rw [ha];simp)
    cases i with
    | zero=>exact ⟨x,y,by rw [hp.1];rfl,hk.1,ha,by rw [hp.2.2];cases y;rfl,(zf hw).sub x (by rw [ha];simp),by omega⟩
    | succ i =>
      rw [hp.1,List.length_cons] at hi
      obtain ⟨x',y',g1,g2,g3,g4,g5,g6⟩:=zua y i ((zf hw).sub y (by rw [ha];simp)) (by omega)
      exact ⟨x',y',by rw [hp.1];exact g1,by rw [hp.2.2];exact g2,by rw [hp.2.2];exact g3,by rw [hp.2.2];exact g4,g5,by omega⟩
   ·rw [(z2t hk).1] at hi;simp at hi
termination_by t=>SizeOf.sizeOf t
decreasing_by exact Trm.lt (by rw [ha];simp)
def addH (out:Trm):Option Trm->Trm
 | some x=>mkA out x
 | none=>out
theorem zav (r:RecI) (h:Trm) (args:List Trm) (f b:Trm):∀ (fs q ahead:List Trm) (out:Trm),fs.length=q.length->hypsF r h args (fs++[f]) ahead (q++[b]) out=addH (hypsF r h args fs ahead q out) (hypF r h args f (ahead++q) b)
 | [],[],ahead,out,_=>by
   simp only [List.nil_append,hypsF,List.append_nil]
   cases hypF r h args f ahead b<;>rfl
 | g::fs,c::q,ahead,out,hl=>by
   simp only [List.cons_append,hypsF]
   rw [zav r h args f b fs q (ahead++[c]) _ (by simpa using hl)]
   simp
 | [],_::_,_,_,hl=>by cases hl
 | _::_,[],_,_,hl=>by cases hl
end Go.Ab
namespace Go.Ab.YtpneaijfkefeaaaGreat
open Go Go.RowKit Go.Ab Go.Proofs
def fvI:AV:=.fv (.func 238) [] [.ptr 1000 0]
theorem zqu (c:Ctr) (h:Trm):Con Tryz.prog 238 [.ag [.p (St c.name),.p (I c.ty.kind),.p (I c.ty.n),.p (St c.ty.name),.p (.sl 3 (encLs c.ty.levels)),.p (.sl 5 (encTs c.ty.args))],.ptr 1000 0] [(1000,ceT h)] (fun r o=>r=.p (B (decide (c.name=h.name)))/\o=[(1000,ceT h)]) :=
 cv [] [] [1000] Tryz.func238 9 Tryz.ntmps238 rfl rfl fun cx hE=>⟨rfl,rfl⟩
theorem zqv (l:List Ctr) (h:Trm) (hl:l.length<=1000000000000):Con Tryz.prog 237 [.p (.sl 6 (encCs l)),fvI] [(1000,ceT h)] (fun r o=>r=.p (I (((z1y l h.name).map fun i=>(i:Int)).getD (-1)))/\o=[(1000,ceT h)]):=by
 refine cv [] [] [1000] Tryz.func237 19 Tryz.ntmps237 rfl rfl fun cx hE=>fun hl0=>?_
 refine loopP l (fun p=>[(8,.p (I p.length))]) (fun p=>[]) (fun p=>z1y p h.name=none) [8] [] hE rfl rfl rfl ⟨Sub.refl _,rfl,trivial⟩ rfl (fun hn=>brOut (by simp [encCs]) ?_) (fun p a q hq hn=>?_)
 ·exact ⟨by rw [hn];rfl,rfl⟩
 ·have:=zj hq
  refine brIn (by simp [hq,encCs]) (idxN (z1w (f:=rowC) hq) (call1 [1000] (zqu a h) rfl rfl (za _) (brS (fun h1=>?_) (fun h1=>And.intro (by omega) ?_))))
  ·refine ⟨?_,rfl⟩
   rw [hq,z7i hn]
   simp [z1y,h1]
  ·refine ⟨?_,Sub.i (by simp),rfl,trivial⟩
   rw [z7i hn]
   simp [z1y,h1]
theorem zqw (l:List Trm) (hl:l.length<=1000000000):Con Tryz.prog 239 [.p (.sl 5 (encTs l))] [] (fun r o=>r=.ts 5 5 (encTs l)/\o=[(5,.ar 35 5 (encTs l).length)]):=by
 have hel:=zc l
 have hc:Con Tryz.prog 239 [.p (.sl 5 (encTs l))] [] (fun r o=>(r=.ts 5 5 (encTs l)/\o=[(5,.ar 35 5 (encTs l).length)])\/(r=.p nilS/\l=[]/\o=[])):=by
  refine cv [5] [] [5,999999] Tryz.func239 8 Tryz.ntmps239 rfl rfl fun cx hE=>?_
  refine fun b hb=>brB (fun h1=>Or.inr ?_) (fun h1=>?_)
  ·have h0:encTs l=[]:=hb h1
   exact ⟨rfl,List.eq_nil_of_length_eq_zero (by rw [<- hel,h0];rfl),rfl⟩
  ·refine app2 rfl (by simp;omega) (by simp;omega) (Or.inl ⟨rfl,by simp⟩)
 refine hc.le2 fun r o hr=>?_
 rcases hr with ⟨rfl,rfl⟩ | ⟨rfl,rfl,rfl⟩
 ·exact ⟨_,_,fun cx n h=>Le.refl,rfl,rfl,rfl⟩
 ·refine ⟨.ts 5 5 [],[(5,.ar 35 5 0)],fun cx n h=>?_,rfl,by simp [zb],rfl⟩
  exact Le.trans (Le.tok (P:=Tryz.prog) (cx:=cx) (n:=n) (regs:=[(0,.p nilS)]) (objs:=[]) 0 5 35 5 rfl rfl (by rw [h];rfl)) (Le.mk (.cons rfl (Sub.refl _) .nil) (.cons rfl rfl .nil) rfl)
def zk2:Option Trm->AV
 | some u=>.tp [tv u,.p (B true)]
 | none=>.tp [tv zT,.p (B false)]
set_option maxHeartbeats 8000000 in
theorem zub (r:RecI) (h:Trm) (args:List Trm) (hg:Gd h) (ha:∀ a∈args,Gd a) (hal:args.length<=268435456) (hf:okE r.fam=true) (hm:r.major<args.length) (hmj:r.p+1+r.fam.ctors.length<=r.major)
  (major:Trm) (hj:Gd major):PCon Tryz.prog 231 [.ag (useL h args r.fam r.p r.major),tv major] (zk2 (iotR r h args major)):=by
 have hel:=zc args
 have hhl:=zc (argsT major)
 have hjd:=hj.d
 have hja:=hj.args
 have hcl:(encCs r.fam.ctors).length=r.fam.ctors.length:=by simp [encCs]
 simp only [okE,Bool.and_eq_true,decide_eq_true_eq,List.all_eq_true] at hf
 obtain ⟨ho1,ho2,ho3,ho4,ho5,ho6⟩:=hf
 refine cv [] [1000003] [] Tryz.func231 153 Tryz.ntmps231 rfl rfl fun cx hE=>?_
 refine call0 (z3k 1099511627776 major hj.w (by omega)) ?_
 have hno:∀ {v:AV},v=.tp [tv zT,.p (B false)]->iotR r h args major=none->v=zk2 (iotR r h args major):=fun e1 e2=>by rw [e1,e2];rfl
 refine join1 (A:=Unit) (fun _=>[(8,.p (I (if (headT major).kind=2 then (((z1y r.fam.ctors (headT major).name).map fun i=>(i:Int)).getD (-1)) else -1)))]) (fun _=>[]) (fun _=>True) [8] [] [] hE rfl rfl rfl ?_ (fun _ _=>?_)
 ·refine brS (fun hk=>?_) (fun hk=>?_)
  ·refine callX [6] ((zqv r.fam.ctors (headT major) (by omega)).sw 1000 6) rfl rfl (za _) fun r0 o0 ⟨r1,o1,⟨e1,e2⟩,e3,e4⟩=>?_
   subst e1 e2 e3 e4
   exact ⟨(),trivial,leX.same ⟨Sub.i (by rw [if_pos hk]),rfl,rfl,rfl,rfl,trivial⟩⟩
  ·exact ⟨(),trivial,leX.same ⟨Sub.i (by rw [if_neg hk]),rfl,rfl,rfl,rfl,trivial⟩⟩
 generalize hkv:(if (headT major).kind=2 then (((z1y r.fam.ctors (headT major).name).map fun i=>(i:Int)).getD (-1)) else -1)=kv
 by_cases hk:(headT major).kind=2
 case neg =>
  rw [if_neg hk] at hkv
  exact brY (by omega) ⟨hno rfl (by unfold iotR;rw [if_neg hk]),rfl⟩
 rw [if_pos hk] at hkv
 cases hcx:z1y r.fam.ctors (headT major).name with
 | none =>
   rw [hcx] at hkv
   have hkv':(-1:Int)=kv:=hkv
   exact brY (by omega) ⟨hno rfl (by unfold iotR;rw [if_pos hk,hcx]),rfl⟩
 | some k =>
   rw [hcx] at hkv
   have hkv':(k:Int)=kv:=hkv
   subst hkv'
   obtain ⟨hkl,hkn⟩:=z6n hcx
   have hct:r.fam.ctors[k]?=some (r.fam.ctors.getD k default):=by rw [List.getD_eq_getElem?_getD,List.getElem?_eq_getElem hkl];rfl
   have hrow:(encCs r.fam.ctors)[k]?=some (rowC (r.fam.ctors.getD k default)):=by rw [encCs,List.getElem?_map,hct];rfl
   have hcm:=List.mem_of_getElem? hct
   have hir:iotR r h args major=if (argsT major).length=r.p+((piL (r.fam.ctors.getD k default).ty).length-r.p) then
     some (appT (hypsF r h args ((piL (r.fam.ctors.getD k default).ty).drop r.p) [] ((argsT major).drop r.p)
      (appT (args.getD (r.p+1+k) zT) ((argsT major).drop r.p))) (args.drop (r.major+1))) else none:=by
    unfold iotR;rw [if_pos hk,hcx]
   generalize r.fam.ctors.getD k default=ctr at *
   have hty:=z2q (ho4 ctr hcm).1
   obtain ⟨cn,ty⟩:=ctr
   simp only at hty hir hkn
   refine brZ (by omega) (idxN (i:=k) hrow ?_)
   have htd:=hty.d
   have htw:=hty.w
   have hpl:=z3y ty
   refine call0 (zog ty (by omega)) (And.intro (by omega) (And.intro (by omega) (brS (fun hne=>⟨hno rfl (by rw [hir,if_neg (by omega)]),rfl⟩) (fun he=>?_))))
   have hlen:(argsT major).length=r.p+((piL ty).length-r.p):=by omega
   rw [if_pos hlen] at hir
   rw [hir]
   have hF:(encTs (argsT major)).drop ((r.p:Int)).toNat=encTs ((argsT major).drop r.p):=by rw [show ((r.p:Int)).toNat=r.p by omega];simp [zb]
   have hT:(encTs args).take ((r.p:Int)).toNat=encTs (args.take r.p):=by rw [show ((r.p:Int)).toNat=r.p by omega];simp [zb]
   have hFl:((argsT major).drop r.p).length=(piL ty).length-r.p:=by rw [List.length_drop];omega
   have hFg:∀ a∈(argsT major).drop r.p,Gd a:=fun a hm=>hja.1 a (List.mem_of_mem_drop hm)
   have hFe:=zc ((argsT major).drop r.p)
   refine And.intro (by omega) ?_
   rw [hF]
   generalize (argsT major).drop r.p=F at *
   have hi1:(r.p:Int)+1+(k:Int)=((r.p+1+k:Nat):Int):=by omega
   have hag:args[r.p+1+k]?=some (args.getD (r.p+1+k) zT):=by rw [List.getD_eq_getElem?_getD,List.getElem?_eq_getElem (by omega)];rfl
   have hrow2:(encTs args)[r.p+1+k]?=some (rowT (args.getD (r.p+1+k) zT)):=by rw [zb,List.getElem?_map,hag];rfl
   have hog:=ha _ (List.mem_of_getElem? hag)
   refine And.intro (by omega) (And.intro (by omega) ?_)
   rw [hi1]
   refine idxN hrow2 (call0 (z2o (args.getD (r.p+1+k) zT) F (by omega)) ?_)
   generalize hU0:appT (args.getD (r.p+1+k) zT) F=U0
   refine And.intro (by omega) (call1 [] (zqw (args.take r.p) (by simp;omega)) rfl rfl (.cons (Sub.eq (congrArg (fun x=>AV.p (.sl 5 x)) hT)) .nil) ?_)
   refine loop1 (fun (j:Nat)=>[(81,.p (I j))]) (fun j=>[(9,ceT (piD (if F.length=0 then 0 else j) ty))]) (fun j=>j<=r.p) (fun j=>r.p-j) 0 [81] [9] hE rfl rfl rfl ⟨Sub.refl _,?_,rfl,rfl,rfl,rfl,rfl,rfl,trivial⟩ (by omega) fun j hjp=>?_
   ·have:piD (if F.length=0 then 0 else 0) ty=ty:=by
     rw [ite_self];cases ty;rfl
    rw [this];rfl
   refine brS (fun hjl=>?_) (fun hjl=>?_)
   ·refine fun _=>brS (fun hpos=>?_) (fun hpos=>And.intro (by omega) ⟨j+1,by omega,by omega,Sub.i (by simp),?_,rfl,rfl,rfl,rfl,rfl,rfl,trivial⟩)
    ·have hn0:¬ F.length=0:=by omega
     obtain ⟨x,y,g1,g2,g3,g4,g5,g6⟩:=zua ty j htw (by omega)
     rw [if_neg hn0]
     have r1:(encTs (piD j ty).args)[1]?=some (rowT y):=by rw [g3];simp [zb]
     refine idxN (i:=1) r1 (And.intro (by omega) ⟨j+1,by omega,by omega,Sub.i (by simp),?_,rfl,rfl,rfl,rfl,rfl,rfl,trivial⟩)
     rw [if_neg hn0,g4];rfl
    ·have hn0:F.length=0:=by omega
     rw [if_pos hn0,if_pos hn0]
   ·obtain rfl:j=r.p:=by omega
    have hb0:(if F.length=0 then 0 else r.p)<=r.p:=by split<;>omega
    generalize hb0e:(if F.length=0 then 0 else r.p)=b0 at hb0
    have hfl:((piL ty).drop r.p).length=F.length:=by rw [List.length_drop];omega
    have hend:appT (hypsF r h args (((piL ty).drop r.p).take F.length) [] F U0) (args.drop (r.major+1))=appT (hypsF r h args ((piL ty).drop r.p) [] F U0) (args.drop (r.major+1)):=by rw [List.take_of_length_le (by omega)]
    have hD:(encTs args).drop ((r.major:Int)+1).toNat=encTs (args.drop (r.major+1)):=by rw [show ((r.major:Int)+1).toNat=r.major+1 by omega];simp [zb]
    refine fun _=>?_
    refine loopP F (fun q=>[(93,.p (I q.length)),(12,.ts 5 5 (encTs (args.take r.p++q)))]) (fun q=>[(9,ceT (piD (b0+q.length) ty)),(11,ceT (hypsF r h args (((piL ty).drop r.p).take q.length) [] q U0)),(5,.ar 35 5 (encTs (args.take r.p++q)).length)]) (fun _=>True) [93,12] [9,11,5] hE rfl rfl rfl ⟨Sub.refl _,Sub.eq (congrArg (AV.ts 5 5) (by simp)),rfl,?_,ar_eq (by simp),rfl,rfl,rfl,rfl,trivial⟩ trivial (fun _=>brTe ?_) (fun q a s hq _=>?_)
    ·have:hypsF r h args (((piL ty).drop r.p).take 0) [] [] U0=U0:=by simp [hypsF]
     simp only [List.length_nil]
     rw [this];rfl
    ·refine And.intro (by omega) (And.intro (by omega) (callR [] (z2o (hypsF r h args (((piL ty).drop r.p).take F.length) [] F U0) (args.drop (r.major+1)) (by simp;omega)) rfl rfl (.cons (Sub.refl _) (.cons (Sub.eq (congrArg (fun x=>AV.p (.sl 5 x)) hD)) .nil)) ⟨?_,rfl⟩))
     rw [hend];rfl
    ·have hqlt:=zj hq
     have hb1:b0=r.p:=by rw [<- hb0e,if_neg (by omega)]
     rw [hb1]
     clear hb0 hb0e
     obtain ⟨x,y,g1,g2,g3,g4,g5,g6⟩:=zua ty (r.p+q.length) htw (by omega)
     have r0:(encTs (piD (r.p+q.length) ty).args)[0]?=some (rowT x):=by rw [g3];simp [zb]
     have r1:(encTs (piD (r.p+q.length) ty).args)[1]?=some (rowT y):=by rw [g3];simp [zb]
     have hfx:((piL ty).drop r.p)[q.length]?=some x:=by rw [List.getElem?_drop];exact g1
     have hsn:hypsF r h args (((piL ty).drop r.p).take (q++[a]).length) [] (q++[a]) U0=addH (hypsF r h args (((piL ty).drop r.p).take q.length) [] q U0) (hypF r h args x q a):=by
      rw [List.length_append,List.length_singleton,z1z hfx,zav r h args x a _ q [] U0 (by rw [List.length_take];omega),List.nil_append]
     generalize hypsF r h args (((piL ty).drop r.p).take q.length) [] q U0=U at *
     have hxe:=(pi_wf x g5).2
     have hxp:=z3y x
     have hga:=hFg a (zg hq)
     have hgq:∀ v∈args.take r.p++q,wfT 1099511627776 v=true/\dpT v<=268435456:=fun v hv=>by
      rcases List.mem_append.1 hv with hv | hv
      ·have:=ha v (List.mem_of_mem_take hv);exact ⟨this.w,this.d⟩
      ·have:=hFg v (by rw [hq];simp [hv]);exact ⟨this.w,this.d⟩
     have hlq:(args.take r.p++q).length<=1000000000:=by
      have h1:q.length<=F.length:=by omega
      have h2:(args.take r.p).length<=args.length:=by simp;omega
      rw [List.length_append];omega
     have hlen5:=zc (args.take r.p++q)
     have hnl:∀ l∈h.levels,narL l=true:=(zf hg.w).nar
     have hlw:=zaj (b:=1099511627776) hnl x g5
     have hld:=zfo h.levels x
     have how:=zoc (b:=1099511627776) (c:=1099512627776) (D:=1000000) (d:=0) (vs:=args.take r.p++q) (by omega) (by rw [hld];omega) (by omega) (fun v hv=>(hgq v hv).1) hlw
     have hod:=zjw (M:=268435456) (fun v hv=>(hgq v hv).2) (lvsT h.levels x) 0
     have hno2:¬ ((headT (piE x)).kind=2/\(headT (piE x)).name=r.fam.name)->hypF r h args x q a=none:=fun hn=>by unfold hypF;rw [if_neg hn]
     have hty1:piD (r.p+(q++[a]).length) ty=y:=by rw [List.length_append,List.length_singleton];exact g4
     have hts:encTs (args.take r.p++q)++[[I a.kind,I a.n,St a.name,.sl 3 (encLs a.levels),.sl 5 (encTs a.args)]]=encTs (args.take r.p++(q++[a])):=by rw [z1f,List.append_assoc]
     have hta:=congrArg List.length hts
     rw [List.length_append] at hta
     refine brT' hq (idxT hq (idxN (i:=0) r0 (call0 (zxj x) (call0 (z3k 1099511627776 (piE x) hxe (by omega)) ?_))))
     refine brS (fun h2=>brS (fun h3=>?_) (fun h3=>?_)) (fun h2=>?_)
     ·have hhy:hypF r h args x q a=some (hypT h args r.p r.fam.ctors.length (opnT (args.take r.p++q) (lvsT h.levels x) 0) a):=by
       unfold hypF hypT
       rw [if_pos ⟨h2,h3⟩,zu9 _ _ x h2]
      refine idxN (i:=0) r0 (call0 (z8b h.levels hnl 1099511627776 x g5) (callR [] (zjv 1099511627776 (by omega) (args.take r.p++q) (fun v hv=>⟨(hgq v hv).1,by have:=(hgq v hv).2;omega⟩) (by omega) (lvsT h.levels x) (by rw [hld];omega) hlw) rfl rfl (.cons (Sub.refl _) (.cons Sub.ts .nil)) ?_))
      refine callR [] (zxm 1099512627776 (by omega) h args r.fam r.p r.major _ a how (by rw [hld] at hod;omega) (z1b (by omega) a hga.w) (by have:=hga.d;omega) (fun v hv=>⟨z1b (by omega) v (ha v hv).w,by have:=(ha v hv).d;omega⟩) (by omega) (by omega) (by omega)) rfl rfl (za _) ?_
      refine call0 (zdy U _) ?_
      exact app1 (by simp;omega) (by simp;omega) (idxN (i:=1) r1 (And.intro (by omega) ⟨trivial,Sub.i (by simp),Sub.eq (congrArg (AV.ts 5 5) hts),by rw [hty1];rfl,by rw [hsn,hhy];rfl,ar_eq hta,rfl,rfl,rfl,rfl,trivial⟩))
     ·exact app1 (by simp;omega) (by simp;omega) (idxN (i:=1) r1 (And.intro (by omega) ⟨trivial,Sub.i (by simp),Sub.eq (congrArg (AV.ts 5 5) hts),by rw [hty1];rfl,by rw [hsn,hno2 (fun hc=>h3 hc.2)];rfl,ar_eq hta,rfl,rfl,rfl,rfl,trivial⟩))
     ·exact app1 (by simp;omega) (by simp;omega) (idxN (i:=1) r1 (And.intro (by omega) ⟨trivial,Sub.i (by simp),Sub.eq (congrArg (AV.ts 5 5) hts),by rw [hty1];rfl,by rw [hsn,hno2 (fun hc=>h2 hc.1)];rfl,ar_eq hta,rfl,rfl,rfl,rfl,trivial⟩))
end Go.Ab.YtpneaijfkefeaaaGreat
namespace Go.Ab
open Go Go.RowKit
def Fu (f f':Int):Prop:=f'=f\/0<=f'/\f'<=f
theorem Fu.refl (f:Int):Fu f f:=.inl rfl
theorem Fu.trans {a b c:Int} (h:Fu a b) (k:Fu b c):Fu a c:=by unfold Fu at *;omega
theorem z9p {c f:Int} {u u':Trm} {did:Bool} {f' e:Int} (h:mdF c f u=some (u',did,f',e)):Gd u'/\Fu f f':=by
 unfold mdF at h
 split at h
 ·cases h;exact ⟨zT_gd,.inl rfl⟩
 ·rename_i hf
  split at h
  ·rename_i hg
   split at h
   ·cases h;exact ⟨gdT_iff.1 hg,.inr (by omega)⟩
   ·cases h;exact ⟨zT_gd,.inr (by omega)⟩
  ·cases h
theorem z9q {ds : List Dcl} {c:Int} {wh:Trm->Int->Option WR} (hw:∀ t f u f' e,Gd t->wh t f=some (u,f',e)->Gd u/\Fu f f') {t:Trm} {f:Int} (hg:Gd t) {u:Trm} {did:Bool} {f' e:Int} (h:onF ds c wh t f=some (u,did,f',e)):Gd u/\Fu f f':=by
 unfold onF at h
 split at h
 ·exact z9p h
 ·split at h
  ·exact z9p h
  ·split at h
   ·split at h
    ·cases h;exact ⟨hg,.inl rfl⟩
    ·split at h
     ·exact z9p h
     ·split at h
      ·cases h;exact ⟨hg,.inl rfl⟩
      ·rename_i r hr
       split at h
       ·split at h
        ·cases h
        ·rename_i m f1 e1 hm
         have h1:=hw _ _ _ _ _ (Gd.getD hg.args.1 _) hm
         split at h
         ·cases h;exact ⟨zT_gd,h1.2⟩
         ·split at h
          ·have h2:=z9p h
           exact ⟨h2.1,h1.2.trans h2.2⟩
          ·cases h;exact ⟨hg,h1.2⟩
       ·cases h;exact ⟨hg,.inl rfl⟩
   ·cases h;exact ⟨hg,.inl rfl⟩
theorem z2a {ds:List Dcl} {c:Int}:∀ (g:Nat) (t:Trm) (f:Int) (u:Trm) (f' e:Int),Gd t->whF ds c g t f=some (u,f',e)->Gd u/\Fu f f'
 | 0,_,_,_,_,_,_,h=>by cases h
 | g + 1,t,f,u,f',e,hg,h=>by
   simp only [whF] at h
   split at h
   ·cases h
   ·rename_i u1 did f1 e1 ho
    have h1:=z9q (fun t f u f' e=>z2a g t f u f' e) hg ho
    split at h
    ·cases h;exact ⟨zT_gd,h1.2⟩
    ·split at h
     ·have h2:=z2a g u1 f1 u f' e h1.1 h
      exact ⟨h2.1,h1.2.trans h2.2⟩
     ·cases h;exact h1
theorem zbl {c f:Int} {u u':Trm} {f':Int} (h:mdF c f u=some (u',false,f',0)):False:=by
 unfold mdF at h
 split at h
 ·cases h
 ·split at h
  ·split at h<;>cases h
  ·cases h
theorem zhf {ds : List Dcl} {c:Int} {wh:Trm->Int->Option WR} {t:Trm} {f:Int} {u:Trm} {f':Int} (h:onF ds c wh t f=some (u,false,f',0)):u=t:=by
 unfold onF at h
 split at h
 ·exact (zbl h).elim
 ·split at h
  ·exact (zbl h).elim
  ·split at h
   ·split at h
    ·cases h;rfl
    ·split at h
     ·exact (zbl h).elim
     ·split at h
      ·cases h;rfl
      ·split at h
       ·split at h
        ·cases h
        ·split at h
         ·rename_i he
          simp only [Option.some.injEq,Prod.mk.injEq] at h
          exact absurd h.2.2.2 he
         ·split at h
          ·exact (zbl h).elim
          ·cases h;rfl
       ·cases h;rfl
   ·cases h;rfl
theorem z5k {ds:List Dcl} {h:Trm} {r:RecI} (hr:z1u ds h=some r):r.fam∈ds/\r.p+1+r.fam.ctors.length<=r.major:=by
 unfold z1u at hr
 split at hr
 ·split at hr
  ·cases hr
  ·split at hr
   ·split at hr
    ·cases hr
    ·rename_i f hf
     split at hr
     ·cases hr;exact ⟨List.mem_of_find?_eq_some hf,by simp only;omega⟩
     ·cases hr
   ·cases hr
 ·cases hr
end Go.Ab
namespace Go.Ab.YtpneaijfkefeaaaGreat
open Go Go.RowKit Go.Ab Go.Proofs
section
variable (ds : List Dcl) (pv ov : Nat) (pl : Option (List (ByteArray × Int)))
def WhCon (c:Int) (t:Trm) (f:Int) (x:WR):Prop:=Con Tryz.prog 121 [.ptr 1000 0,tv t] (runO ds pv ov pl f c) (fun r o=>r=.tp [tv x.1,.p (I x.2.2)]/\o=runO ds pv ov pl x.2.1 c)
def orV (x:OR):AV:=.tp [tv x.1,.p (B x.2.1),.p (I x.2.2.2)]
def OnCon (c:Int) (t:Trm) (f:Int) (x:OR):Prop:=Con Tryz.prog 166 [.ptr 1000 0,tv t] (runO ds pv ov pl f c) (fun r o=>r=orV x/\o=runO ds pv ov pl x.2.2.1 c)
theorem zuc {c f:Int} {u:Trm} {x:OR} (h:mdF c f u=some x):mdV c f u=orV x/\stM f=x.2.2.1:=by
 unfold mdF at h
 unfold mdV stM orV
 split at h
 ·rename_i hf;cases h;rw [if_pos hf,if_pos hf];exact ⟨rfl,rfl⟩
 ·rename_i hf
  rw [if_neg hf,if_neg hf]
  split at h
  ·unfold fitV
   split at h
   ·rename_i hft;cases h;rw [if_pos hft,if_pos hft,hft];exact ⟨rfl,rfl⟩
   ·rename_i hft;cases h;rw [if_neg hft,if_neg hft,Bool.eq_false_iff.2 hft];exact ⟨rfl,rfl⟩
  ·cases h
theorem Mt.fu {f f' c:Int} (h:Mt f c) (k:Fu f f'):Mt f' c:=by
 have:=h.f0;have:=h.f1
 unfold Fu at k
 exact ⟨by omega,by omega,h.c0,h.c1⟩
def rcF (c:Int) (wh:Trm->Int->Option WR) (t:Trm) (f:Int):Option OR :=
 match lookF ds t with
 | none=>some (t,false,f,0)
 | some r=>match wh ((argsT t).getD r.major zT) f with
   | none=>none
   | some (m,f',e)=>if e≠0 then some (zT,false,f',e) else (match iotR r (headT t) (argsT t) m with
     | some u=>mdF c f' u
     | none=>some (t,false,f',0))
set_option maxHeartbeats 4000000 in
theorem zxn (h:EnvG ds pl) (c:Int) (wh:Trm->Int->Option WR) (hk:∀ t f u f' e,Gd t->wh t f=some (u,f',e)->Gd u/\Fu f f') (t:Trm) (hg:Gd t) (f:Int) (hm:Mt f c) (ih:∀ t f x,Gd t->Mt f c->wh t f=some x->WhCon ds pv ov pl c t f x) (x:OR) (hx:rcF ds c wh t f=some x) :
  Con Tryz.prog 208 [.ptr 1000 0,tv t] (runO ds pv ov pl f c) (fun r o=>r=orV x/\o=runO ds pv ov pl x.2.2.1 c):=by
 have hal:=hg.args
 have hel:=zc (argsT t)
 unfold rcF at hx
 refine cv [] [] [1000,1004,1005,1006,1007] Tryz.func208 62 Tryz.ntmps208 rfl rfl fun cx hE=>callR [1004,1005,1006,1007] (zu1 ds pv ov pl h t hg) rfl rfl (za _) ?_
 cases hl:lookF ds t with
 | none =>
   rw [hl] at hx;cases hx
   exact brB (fun _=>⟨rfl,rfl⟩) (fun h=>by cases h)
 | some r =>
   rw [hl] at hx
   simp only at hx
   have hr:z1u ds (headT t)=some r/\r.major<(argsT t).length:=by
    unfold lookF at hl
    cases hi:z1u ds (headT t) with
    | none=>rw [hi] at hl;cases hl
    | some r' =>
      rw [hi] at hl
      simp only [Option.bind_some] at hl
      split at hl
      ·cases hl;exact ⟨rfl,by assumption⟩
      ·cases hl
   obtain ⟨hrf,hrm⟩:=z5k hr.1
   have hag:(argsT t)[r.major]?=some ((argsT t).getD r.major zT):=by rw [List.getD_eq_getElem?_getD,List.getElem?_eq_getElem hr.2];rfl
   have hrow:(encTs (argsT t))[r.major]?=some (rowT ((argsT t).getD r.major zT)):=by rw [zb,List.getElem?_map,hag];rfl
   have hgd:=Gd.getD hal.1 r.major
   cases hw:wh ((argsT t).getD r.major zT) f with
   | none=>rw [hw] at hx;cases hx
   | some y =>
     obtain ⟨m,f1,e⟩:=y
     rw [hw] at hx
     simp only at hx
     have hmk:=hk _ _ _ _ _ hgd hw
     refine brB (fun h=>by cases h) (fun _=>idxN (i:=r.major) hrow (call1 [1000,1004,1005,1006,1007] (ih _ f _ hgd hm hw) rfl rfl (za _) (brS (fun he=>?_) (fun he=>?_))))
     ·rw [if_pos he] at hx;cases hx
      exact ⟨rfl,rfl⟩
     ·rw [if_neg he] at hx
      refine call0 (zub r (headT t) (argsT t) hg.head hal.1 hal.2 (h.g _ hrf) hr.2 hrm m hmk.1) ?_
      cases hio:iotR r (headT t) (argsT t) m with
      | none =>
        rw [hio] at hx;cases hx
        exact brB (fun _=>⟨rfl,rfl⟩) (fun h=>by cases h)
      | some u =>
        rw [hio] at hx
        simp only at hx
        obtain ⟨e1,e2⟩:=zuc hx
        rw [<- e1,<- e2]
        have hm1:=Mt.fu hm hmk.2
        refine brB (fun h=>by cases h) (fun _=>call1 [1000,1004,1005,1006,1007] (z9o ds pv ov pl f1 c hm1) rfl rfl (za _) (brS (fun hs=>⟨?_,rfl⟩) (fun hs=>?_)))
        ·have hf:f1<=0:=Classical.byContradiction fun hn=>hs (by unfold stE;rw [if_neg hn])
         unfold mdV stE;rw [if_pos hf,if_pos hf];rfl
        ·have hf:¬ f1<=0:=fun hn=>hs (by unfold stE;rw [if_pos hn];decide)
         unfold mdV;rw [if_neg hf]
         have:=hm1.f1
         have e3:stM f1=f1-1:=by unfold stM;rw [if_neg hf]
         exact call1 [1000,1004,1005,1006,1007] (zdx ds pv ov pl (stM f1) c ⟨by omega,by omega,hm.c0,hm.c1⟩ u) rfl rfl (za _) ⟨rfl,rfl⟩
theorem zud {c:Int} {wh:Trm->Int->Option WR} {t:Trm} {f:Int} {d:Dcl} (h2:(headT t).kind=2) (hd:findD ds (headT t).name=some d) (hk:¬ (d.kind=2/\d.params=(headT t).levels.length)):onF ds c wh t f=rcF ds c wh t f:=by
 unfold onF rcF
 rw [if_neg (fun hc=>by omega),if_neg (by omega),if_pos h2,hd]
 simp only
 rw [if_neg hk]
 unfold lookF
 cases hi:z1u ds (headT t) with
 | none=>rfl
 | some r =>
   simp only [Option.bind_some]
   by_cases hl:r.major<(argsT t).length
   ·rw [if_pos hl,if_pos hl]
    simp only
    cases wh ((argsT t).getD r.major zT) f with
    | none=>rfl
    | some y =>
      obtain ⟨m,f1,e⟩:=y
      simp only
      by_cases he:e≠0
      ·rw [if_pos he,if_pos he]
      ·rw [if_neg he,if_neg he,z7h,hi]
       simp only [Option.bind_some,if_pos hl]
       all_goals rfl
   ·rw [if_neg hl,if_neg hl]
theorem zoj {l:List Trm} (h:l.length=3):∃ x y z,l=[x,y,z]:=by
 match l,h with
 | [x,y,z],_=>exact ⟨x,y,z,rfl⟩
set_option maxHeartbeats 8000000 in
theorem zue (h:EnvG ds pl) (c:Int) (wh:Trm->Int->Option WR) (hk:∀ t f u f' e,Gd t->wh t f=some (u,f',e)->Gd u/\Fu f f') (t:Trm) (hg:Gd t) (f:Int) (hm:Mt f c) (ih:∀ t f x,Gd t->Mt f c->wh t f=some x->WhCon ds pv ov pl c t f x) (x:OR) (hx:onF ds c wh t f=some x) :
  OnCon ds pv ov pl c t f x:=by
 have hal:=hg.args
 have hel:=zc (argsT t)
 have hhg:=hg.head
 have hd:=hg.d
 have hll:=zq (headT t).levels
 have hlf:=(zf hhg.w).few
 unfold OnCon
 have hstay:∀ {y:OR},some (t,false,f,(0:Int))=some y->y=(t,false,f,0):=fun e=>by cases e;rfl
 refine cv [] [] [1000,1004,1005,1006,1007] Tryz.func166 122 Tryz.ntmps166 rfl rfl fun cx hE=>call0 (z3k 1099511627776 t hg.w (by omega)) ?_
 have beta:∀ (body v:Trm) (l:List Trm),Gd body->Gd v->l.length<=1000000000->mdF c f (appT (opnT [v] body 0) l)=some x->Con Tryz.prog 204 [.ptr 1000 0,tv body,tv v,.p (.sl 5 (encTs l))] (runO ds pv ov pl f c) (fun r o=>r=orV x/\o=runO ds pv ov pl x.2.2.1 c):=fun body v l g1 g2 g3 e=>by
  have hb:=zu0 ds pv ov pl f c hm body v g1 g2 l g3
  obtain ⟨e1,e2⟩:=zuc e
  rw [e1,e2] at hb
  exact hb
 have stuck:¬ ((headT t).kind=4/\argsT t≠[])->(headT t).kind≠6->(headT t).kind≠2->x=(t,false,f,0):=fun n1 n2 n3=>by
  unfold onF at hx
  rw [if_neg n1,if_neg n2,if_neg n3] at hx
  exact hstay hx
 have letb:(headT t).kind=6->∃ a b d,(headT t).args=[a,b,d]/\mdF c f (appT (opnT [b] d 0) (argsT t))=some x/\Gd b/\Gd d:=fun hk6=>by
  have hn:=(zf hhg.w).args
  have h3:(headT t).args.length=3:=by rw [hk6] at hn;unfold argF at hn;simp at hn;omega
  obtain ⟨a,b,d,ha⟩:=zoj h3
  refine ⟨a,b,d,ha,?_,hhg.sub (by rw [ha];simp),hhg.sub (by rw [ha];simp)⟩
  unfold onF at hx
  rw [if_neg (fun hc=>by omega),if_pos hk6,ha] at hx
  exact hx
 refine brS (fun h4=>fun _=>brS (fun h5=>?_) (fun h5=>?_)) (fun h4=>?_)
 ·have hne:argsT t≠[]:=fun hn=>by
   have:(argsT t).length=0:=by rw [hn];rfl
   omega
  obtain ⟨a0,rest,har⟩:=List.exists_cons_of_ne_nil hne
  obtain ⟨ty,body,hba⟩:=z4q hhg.w (.inr (.inl h4))
  have hrl:rest.length<=1000000000:=by have:=hal.2;rw [har] at this;simp at this;omega
  unfold onF at hx
  rw [if_pos ⟨h4,hne⟩,har,hba] at hx
  simp only [List.getD_cons_zero,List.getD_cons_succ,List.drop_one,List.tail_cons] at hx
  have hb:=beta body a0 rest (hhg.sub (by rw [hba];simp)) (hal.1 a0 (by rw [har];simp)) hrl hx
  have r1:(encTs (headT t).args)[1]?=some (rowT body):=by rw [hba];simp [zb]
  have r0:(encTs (argsT t))[0]?=some (rowT a0):=by rw [har];simp [zb]
  have hD:(encTs (argsT t)).drop (1:Int).toNat=encTs rest:=by rw [har];simp [zb]
  exact idxN (i:=1) r1 (idxN (i:=0) r0 (And.intro (by omega) (callW [1000,1004,1005,1006,1007] 1000 (.ce 107 [.ptr 1004 0,.p (I x.2.2.1),.p (I c)]) hb rfl rfl (.cons (Sub.refl _) (.cons (Sub.refl _) (.cons (Sub.refl _) (.cons (Sub.eq (congrArg (fun x=>AV.p (.sl 5 x)) hD)) .nil)))) rfl rfl ⟨rfl,rfl⟩)))
 ·have hn:argsT t=[]:=List.eq_nil_of_length_eq_zero (by omega)
  rw [stuck (fun hc=>hc.2 hn) (by omega) (by omega)]
  exact brZ (by omega) (brY (by omega) ⟨rfl,rfl⟩)
 ·refine brS (fun h6=>?_) (fun h6=>?_)
  ·obtain ⟨a,b,d,ha,hmd,g1,g2⟩:=letb h6
   have hb:=beta d b (argsT t) g2 g1 (by omega) hmd
   have r2:(encTs (headT t).args)[2]?=some (rowT d):=by rw [ha];simp [zb]
   have r1:(encTs (headT t).args)[1]?=some (rowT b):=by rw [ha];simp [zb]
   exact idxN (i:=2) r2 (idxN (i:=1) r1 (callW [1000,1004,1005,1006,1007] 1000 (.ce 107 [.ptr 1004 0,.p (I x.2.2.1),.p (I c)]) hb rfl rfl (za _) rfl rfl ⟨rfl,rfl⟩))
  ·refine brS (fun h2=>?_) (fun h2=>?_)
   ·rw [stuck (fun hc=>h4 hc.1) h6 h2]
    exact ⟨rfl,rfl⟩
   ·have hk2:(headT t).kind=2:=Classical.byContradiction fun hn=>h2 hn
    refine callR [1004,1005,1006,1007] (zau ds pv ov pl h (headT t).name) rfl rfl (za _) ?_
    have hon:∀ y,onF ds c wh t f=some y->x=y:=fun y hy=>by rw [hx] at hy;cases hy;rfl
    cases hf:findD ds (headT t).name with
    | none =>
      have:x=(t,false,f,0):=hon _ (by unfold onF;rw [if_neg (fun hc=>by omega),if_neg h6,if_pos hk2,hf])
      rw [this]
      exact ⟨rfl,rfl⟩
    | some d =>
      have hdo:=h.g d (z3c hf)
      simp only [okE,Bool.and_eq_true,decide_eq_true_eq,List.all_eq_true] at hdo
      obtain ⟨ho1,ho2,ho3,ho4,ho5,ho6⟩:=hdo
      have hvf:=z2q ho2
      have hrec:¬ (d.kind=2/\d.params=(headT t).levels.length)->rcF ds c wh t f=some x:=fun hn=>by rw [<- zud ds hk2 hf hn];exact hx
      have hnoR:¬ (d.kind=5/\d.params=(headT t).levels.length)->¬ (d.kind=2/\d.params=(headT t).levels.length)->x=(t,false,f,0):=fun n1 n2=>by
       have h1:=hrec n2
       have h3:lookF ds t=none:=by
        unfold lookF z1u
        rw [if_pos hk2,hf]
        simp only
        rw [if_neg n1];rfl
       unfold rcF at h1
       rw [h3] at h1
       exact hstay h1
      refine brS (fun hp=>?_) (fun hp=>?_)
      ·rw [hnoR (fun hc=>hp (by rw [hll,hc.2])) (fun hc=>hp (by rw [hll,hc.2]))]
       exact ⟨rfl,rfl⟩
      have hpp:d.params=(headT t).levels.length:=by omega
      refine brS (fun hd2=>?_) (fun hd2=>?_)
      ·have hmd:mdF c f (appT (lvsT (headT t).levels d.value) (argsT t))=some x:=by
        unfold onF at hx
        rw [if_neg (fun hc=>by omega),if_neg h6,if_pos hk2,hf] at hx
        simp only at hx
        rw [if_pos ⟨hd2,hpp⟩] at hx
        exact hx
       obtain ⟨e1,e2⟩:=zuc hmd
       rw [<- e1,<- e2]
       refine call1 [1000,1004,1005,1006,1007] (z9o ds pv ov pl f c hm) rfl rfl (za _) (brS (fun hs=>⟨?_,rfl⟩) (fun hs=>?_))
       ·have hf0:f<=0:=Classical.byContradiction fun hn=>hs (by unfold stE;rw [if_neg hn])
        unfold mdV stE;rw [if_pos hf0,if_pos hf0];rfl
       ·have hf0:¬ f<=0:=fun hn=>hs (by unfold stE;rw [if_pos hn];decide)
        unfold mdV;rw [if_neg hf0]
        have:=hm.f1
        have e3:stM f=f-1:=by unfold stM;rw [if_neg hf0]
        exact call0 (z8b (headT t).levels (zf hhg.w).nar 1099511627776 d.value hvf.w) (call0 (z2o _ (argsT t) (by omega)) (callR [1000,1004,1005,1006,1007] (zdx ds pv ov pl (stM f) c ⟨by omega,by omega,hm.c0,hm.c1⟩ _) rfl rfl (za _) ⟨rfl,rfl⟩))
      ·refine brS (fun hd5=>?_) (fun hd5=>?_)
       ·exact call1 [1000,1004,1005,1006,1007] (zxn ds pv ov pl h c wh hk t hg f hm ih x (hrec (fun hc=>hd2 hc.1))) rfl rfl (za _) ⟨rfl,rfl⟩
       ·rw [hnoR (fun hc=>hd5 hc.1) (fun hc=>hd2 hc.1)]
        exact ⟨rfl,rfl⟩
theorem zk3 (h:EnvG ds pl) (c:Int) (g:Nat):∀ (t:Trm) (f:Int) (x:WR),Gd t->Mt f c->whF ds c g t f=some x->WhCon ds pv ov pl c t f x:=by
 induction g using Nat.strongRecOn with
 | _ G IH =>
   intro t f x hg hm hx
   have key:∀ (k:Nat),k<G->∀ (u:Trm) (f':Int),Gd u->Mt f' c->∀ y,onF ds c (whF ds c k) u f'=some y->OnCon ds pv ov pl c u f' y:=fun k hk u f' g1 m1 y hy=>zue ds pv ov pl h c (whF ds c k) (fun t f u f' e=>z2a k t f u f' e) u g1 f' m1 (fun t f x=>IH k hk t f x) y hy
   unfold WhCon
   refine cv [] [] [1000,1004,1005,1006,1007] Tryz.func121 26 Tryz.ntmps121 rfl rfl fun cx hE=>?_
   refine loop3 (fun (u:Trm) (f':Int) (k:Nat)=>[]) (fun u f' k=>[(3,ceT u),(1000,.ce 107 [.ptr 1004 0,.p (I f'),.p (I c)])]) (fun u f' k=>Gd u/\Mt f' c/\k<=G/\whF ds c k u f'=some x) (fun u f' k=>k) t f G [] [3,1000] hE rfl rfl rfl ⟨rfl,rfl,rfl,rfl,rfl,rfl,rfl,trivial⟩ ⟨hg,hm,Nat.le_refl _,hx⟩ fun u f' k ⟨g1,g2,g3,g4⟩=>?_
   cases k with
   | zero=>cases g4
   | succ k =>
     simp only [whF] at g4
     cases ho:onF ds c (whF ds c k) u f' with
     | none=>rw [ho] at g4;cases g4
     | some y =>
       obtain ⟨u1,did,f1,e⟩:=y
       rw [ho] at g4
       simp only at g4
       have hkp:=z9q (fun t f u f' e=>z2a k t f u f' e) g1 ho
       refine call1 [1000,1004,1005,1006,1007] (key k (by omega) u f' g1 g2 _ ho) rfl rfl (za _) (brS (fun he=>?_) (fun he=>?_))
       ·rw [if_pos he] at g4;cases g4
        exact ⟨rfl,rfl⟩
       ·rw [if_neg he] at g4
        refine brB (fun hn=>?_) (fun hn=>?_)
        ·have hd:did=false:=by simpa using hn
         subst hd
         have he0:e=0:=Classical.byContradiction fun hc=>he hc
         subst he0
         have hu:=zhf ho
         subst hu
         cases g4
         exact ⟨rfl,rfl⟩
        ·have hd:did=true:=by simpa using hn
         subst hd
         exact ⟨u1,f1,k,⟨hkp.1,Mt.fu g2 hkp.2,by omega,g4⟩,by omega,rfl,rfl,rfl,rfl,rfl,rfl,rfl,trivial⟩
end
theorem zxo (l:List Trm) (hl:l.length<=1000):PCon Tryz.prog 69 [.p (.sl 5 (encTs l))] (.p (B (!(l.all okW)))):=by
 refine cv [] [] [] Tryz.func69 25 Tryz.ntmps69 rfl rfl fun cx hE=>fun _=>?_
 refine loopP l (fun p=>[(9,.p (I p.length))]) (fun p=>[]) (fun p=>p.all okW=true) [9] [] hE rfl rfl rfl ⟨Sub.refl _,trivial⟩ rfl (fun hp=>brTe ⟨B_eq (by rw [hp];rfl),rfl⟩) (fun p a q hq hp=>?_)
 have:=zj hq
 have hno:okW a=false->l.all okW=false:=fun h=>by rw [hq];simp [h]
 refine brT' hq (idxT hq (call0 (ziv a 1048576 (by omega) (by omega)) (brB (fun h1=>?_) (fun h1=>brS (fun h2=>?_) (fun h2=>And.intro (by omega) ?_)))))
 ·have h1':(thrT 1048576 a 0).1=false:=by simpa using h1
  exact ⟨B_eq (by rw [hno (by unfold okW;rw [h1'];rfl)];rfl),rfl⟩
 ·exact ⟨B_eq (by rw [hno (by unfold okW;simp;intro _;omega)];rfl),rfl⟩
 ·have h1':(thrT 1048576 a 0).1=true:=by simpa using h1
  refine ⟨?_,Sub.i (by simp),trivial⟩
  rw [List.all_append,hp]
  simp [okW,h1']
  omega
section
variable (ds : List Dcl) (pv ov : Nat) (pl : Option (List (ByteArray × Int)))
def xwV (c:Int) (x:WR):AV:=.tp [tv x.1,mv x.2.1 c,.p (I x.2.2)]
def onV (c:Int) (x:OR):AV:=.tp [tv x.1,.p (B x.2.1),mv x.2.2.1 c,.p (I x.2.2.2)]
end
end Go.Ab.YtpneaijfkefeaaaGreat
namespace Go.Ab
open Go Go.RowKit
theorem zz0u {b:Int} (hb:b<=1073741824) {t:Trm} (h:wfT b t=true):wholP t=true:=by
 have w:=zf h
 have h1:=w.args;have h2:=w.n0;have h3:=w.n1;have h4:=w.var;have h5:=w.name;have h6:=w.sort;have h7:=w.lev
 unfold wholP
 simp only [Bool.and_eq_true,decide_eq_true_eq]
 refine ⟨h1,fun _=>⟨h2,by omega⟩,h4,h5,?_⟩
 split
 ·rename_i hk;simpa using h6 hk
 ·rename_i hk
  simp only [decide_eq_true_eq]
  by_cases h2':t.kind=2
  ·exact .inl h2'
  ·exact .inr (h7 hk h2')
mutual
theorem zyk {b:Int} (hb:b<=1073741824) (most:Int):∀ (t:Trm) (n:Int),wfT b t=true->n+sizT t<=most->thrT most t n=(true,n+sizT t)
 | ⟨k,m,s,ls,l⟩,n,h,hs=>by
   have hw:=zz0u hb h
   simp only [sizT] at hs ⊢
   simp only [thrT]
   rw [if_neg (by push_cast at hs;omega),if_pos hw,zuf hb most l (n+1) (wfTs_iff.2 (zf h).sub) (by push_cast at hs;omega)]
   push_cast;congr 1;omega
theorem zuf {b:Int} (hb:b<=1073741824) (most:Int):∀ (l:List Trm) (n:Int),wfTs b l=true->n+sizTs l<=most->thrTs most l n=(true,n+sizTs l)
 | [],n,_,_=>by simp [thrTs,sizTs]
 | a::r,n,h,hs=>by
   simp only [wfTs,Bool.and_eq_true] at h
   simp only [sizTs] at hs ⊢
   push_cast at hs
   simp only [thrTs]
   rw [zyk hb most a n h.1 (by omega)]
   simp only [if_true]
   rw [if_neg (by omega),zuf hb most r _ h.2 (by omega)]
   push_cast;congr 1;omega
end
theorem zz2k {b:Int} (hb:b<=1073741824) {t:Trm} (h:wfT b t=true) (hs:sizT t<=1048576):okW t=true:=by
 unfold okW
 rw [zyk hb 1048576 t 0 h (by omega)]
 simp;omega
structure Wd (b:Int) (m:Nat) (t:Trm):Prop where
 w:wfT b t=true
 d:dpT t<=m
theorem Wd.mono {b c:Int} {m k:Nat} {t:Trm} (h:Wd b m t) (hb:b<=c) (hm:m<=k):Wd c k t:=⟨z1b hb t h.w,Nat.le_trans h.d hm⟩
theorem Wd.sub {b:Int} {m:Nat} {t a:Trm} (h:Wd b m t) (ha:a∈t.args):Wd b m a:=⟨(zf h.w).sub a ha,by have:=z1h ha;have:=h.d;omega⟩
theorem Wd.spn {b:Int} {m:Nat}:∀ (t:Trm) (acc:List Trm),Wd b m t->(∀ a∈acc,Wd b m a)->Wd b m (spnT t acc).1/\(∀ a∈(spnT t acc).2,Wd b m a)/\(spnT t acc).2.length+dpT (spnT t acc).1<=acc.length+dpT t
 | ⟨k, n,s,ls,l⟩,acc,h,ha=>by
   rw [spnT.eq_def]
   simp only
   split
   ·rename_i hk
    match l,h with
    | [f,a],h =>
      have:=Wd.spn f (a::acc) (h.sub (by simp)) (fun x hx=>by rcases List.mem_cons.1 hx with rfl | hx;exact h.sub (by simp);exact ha x hx)
      refine ⟨this.1,this.2.1,Nat.le_trans this.2.2 ?_⟩
      have:=z1h (t:=⟨k,n,s,ls,[f,a]⟩) (a:=f) (by simp)
      simp;omega
    | [],h=>exact ⟨h,ha,by simp⟩
    | [_],h=>exact ⟨h,ha,by simp⟩
    | _::_::_::_,h=>exact ⟨h,ha,by simp⟩
   ·exact ⟨h,ha,by simp⟩
termination_by t=>SizeOf.sizeOf t
theorem Wd.head {b:Int} {m:Nat} {t:Trm} (h:Wd b m t):Wd b m (headT t):=(Wd.spn t [] h (by simp)).1
theorem Wd.args {b:Int} {m:Nat} {t:Trm} (h:Wd b m t):(∀ a∈argsT t,Wd b m a)/\(argsT t).length<=m:=by
 have:=Wd.spn t [] h (by simp)
 refine ⟨this.2.1,?_⟩
 have h2:=this.2.2
 have:=h.d
 unfold argsT;simp at h2;omega
theorem Wd.getD {b:Int} (hb:0<=b) {m:Nat} (hm:1<=m) {l:List Trm} (h:∀ a∈l,Wd b m a) (i:Nat):Wd b m (l.getD i zT):=by
 rw [List.getD_eq_getElem?_getD]
 cases hl:l[i]? with
 | none=>exact ⟨by simp [zT,wfT,shpF,wfTs,argF];omega,by simp [zT,dpT,dpTs];omega⟩
 | some x=>exact h x (List.mem_of_getElem? hl)
theorem Wd.app {b:Int} (hb:0<=b) {m n:Nat} {t:Trm} {l:List Trm} (h:Wd b m t) (hl:∀ a∈l,Wd b m a) (hn:l.length<=n):Wd b (m+n) (appT t l) :=
 ⟨ztt hb h.w fun a ha=>(hl a ha).w,by
  have:=ztu (M:=m) (t:=t) fun a ha=>(hl a ha).d
  have:=h.d
  omega⟩
theorem Wd.mkA {b:Int} (hb:0<=b) {m:Nat} {f a:Trm} (hf:Wd b m f) (ha:Wd b m a):Wd b (m+1) (Ab.mkA f a) :=
 ⟨z4r hb hf.w ha.w,by have:=hf.d;have:=ha.d;simp only [Ab.mkA,dpT,dpTs];omega⟩
theorem Wd.lam {b:Int} (hb:0<=b) {m:Nat} {x t:Trm} (hx:Wd b m x) (ht:Wd b m t):Wd b (m+1) (mkB 4 x t):=by
 refine ⟨z8z ⟨by simp [mkB,argF],by simp [mkB],by simpa [mkB] using hb,by simp [mkB],by simp [mkB],by simp [mkB],by simp [mkB],by simp [mkB],by simp [mkB],fun y hy=>?_⟩,by have:=hx.d;have:=ht.d;simp only [mkB,dpT,dpTs];omega⟩
 simp only [mkB,List.mem_cons,List.not_mem_nil,or_false] at hy
 rcases hy with rfl | rfl
 ·exact hx.w
 ·exact ht.w
theorem Wd.lams {b:Int} (hb:0<=b) {m:Nat} {t:Trm}:∀ {xs:List Trm},(∀ x∈xs,Wd b m x)->Wd b m t->Wd b (m+xs.length) (lamsT xs t)
 | [],_,ht=>ht
 | x::xs,hx,ht=>by
   have ih:=Wd.lams hb (xs:=xs) (fun y hy=>hx y (by simp [hy])) ht
   have:=Wd.lam hb ((hx x (by simp)).mono (Int.le_refl _) (Nat.le_add_right m xs.length)) ih
   exact this
theorem Wd.lift {b:Int} {m:Nat} {t:Trm} (h:Wd b m t) (n:Nat):Wd (b+n) m (lftT n t 0):=⟨ztq (by omega) (Int.le_refl _) (by omega) h.w,by have:=ztr (by_:=n) t 0;have:=h.d;omega⟩
theorem Wd.opn {b:Int} {m k:Nat} {vs:List Trm} {t:Trm} (h:Wd b m t) (hv:∀ v∈vs,Wd b k v):Wd (b+m) (m+k) (opnT vs t 0) :=
 ⟨zoc (D:=m) (by omega) (by have:=h.d;omega) (Int.le_refl _) (fun v hx=>(hv v hx).w) h.w,by have:=zjw (fun v hx=>(hv v hx).d) t 0;have:=h.d;omega⟩
theorem zdz:∀ {n:Nat} {v:Trm},v∈varsT n->∃ i:Nat,i<n/\v=mkV i
 | n + 1,v,h=>by
   simp only [varsT,List.mem_cons] at h
   rcases h with rfl | h
   ·exact ⟨n,by omega,rfl⟩
   ·obtain ⟨i,h1,h2⟩:=zdz h
    exact ⟨i,by omega,h2⟩
theorem z4y:∀ n:Nat,(varsT n).length=n
 | 0=>rfl
 | n+1=>by simp [varsT,z4y n]
theorem zug {b:Int} {m:Nat} (hm:1<=m) {i:Nat} (hi:(i:Int)<=b):Wd b m (mkV i):=⟨by simp [mkV,wfT,shpF,wfTs,argF];omega,by simp [mkV,dpT,dpTs];omega⟩
theorem pi_wd {b:Int} {m:Nat} {t:Trm} (h:Wd b m t):(∀ x∈piL t,Wd b m x)/\Wd b m (piE t)/\(piL t).length<=m:=by
 have h1:=pi_wf t h.w
 have h2:=z3y t
 have h3:=h.d
 exact ⟨fun x hx=>⟨(h1.1 x hx).1,by have:=(h1.1 x hx).2;omega⟩,⟨h1.2,by omega⟩,by omega⟩
theorem zyl {b:Int} (hb:0<=b) {m e:Nat} (hm:1<=m) (he:1<=e) {r:RecI} {h:Trm} {args ahead:List Trm} {field v x:Trm} (hh:Wd b m h) (ha:∀ a∈args,Wd b m a) (hal:args.length<=m) (hd:∀ a∈ahead,Wd b m a) (hf:Wd b e field) (hv:Wd b m v) (hx:hypF r h args field ahead v=some x):Wd (b+2 * e+m) (6 * m+6 * e+10) x:=by
 unfold hypF at hx
 split at hx
 ·cases hx
  have hn:∀ l∈h.levels,narL l=true:=(zf hh.w).nar
  have hlv:Wd b e (lvsT h.levels field):=⟨zaj hn field hf.w,by rw [zfo];exact hf.d⟩
  have ho:=hlv.opn (k:=m) (vs:=args.take r.p++ahead) fun y hy=>by
   rcases List.mem_append.1 hy with hy | hy
   ·exact ha y (List.mem_of_mem_take hy)
   ·exact hd y hy
  have hpo:=pi_wd ho
  have hpf:=(pi_wd hf).2.2
  generalize (piL field).length=n at *
  have up:∀ {y:Trm} {k:Nat},Wd b k y->Wd (b+2 * e+m) k y:=fun hy=>hy.mono (by omega) (Nat.le_refl _)
  have lf:∀ {y:Trm} {k:Nat},Wd b k y->Wd (b+2 * e+m) k (lftT n y 0):=fun hy=>(hy.lift n).mono (by omega) (Nat.le_refl _)
  have hb2:0<=b+2 * e+m:=by omega
  have h1:Wd (b+2 * e+m) (m+m) (appT h ((args.take (r.p+1+r.fam.ctors.length)).map fun a=>lftT n a 0)):=Wd.app hb2 (up hh) (fun a hm'=>by
   obtain ⟨y,hy,rfl⟩:=List.mem_map.1 hm'
   exact lf (ha y (List.mem_of_mem_take hy))) (by simp;omega)
  have hpa:=hpo.2.1.args
  have h2:Wd (b+2 * e+m) ((m+m+e)+(e+m)) (appT (appT h ((args.take (r.p+1+r.fam.ctors.length)).map fun a=>lftT n a 0)) ((argsT (piE (opnT (args.take r.p++ahead) (lvsT h.levels field) 0))).drop r.p)) :=
   Wd.app hb2 (h1.mono (Int.le_refl _) (by omega)) (fun a hm'=>(hpa.1 a (List.mem_of_mem_drop hm')).mono (by omega) (by omega)) (by rw [List.length_drop];omega)
  have h3:Wd (b+2 * e+m) (m+e) (appT (lftT n v 0) (varsT n)):=Wd.app hb2 (lf hv) (fun a hm'=>by
   obtain ⟨i,hi,rfl⟩:=zdz hm'
   exact zug hm (by omega)) (by rw [z4y];omega)
  have h4:=Wd.mkA hb2 h2 (h3.mono (Int.le_refl _) (by omega))
  have h5:=Wd.lams hb2 (m:=m+m+e+(e+m)+1) (xs:=piL (opnT (args.take r.p++ahead) (lvsT h.levels field) 0)) (fun y hy=>(hpo.1 y hy).mono (by omega) (by omega)) h4
  exact h5.mono (Int.le_refl _) (by have:=hpo.2.2;omega)
 ·cases hx
structure EnvW (B:Int) (ds:List Dcl):Prop where
 v:∀ d∈ds,Wd B 100000 d.value
 c:∀ d∈ds,∀ k∈d.ctors,Wd B 100000 k.ty
theorem zma {b b':Int} (hb:0<=b) {m e K:Nat} (hm:1<=m) (he:1<=e) (hb':b+2 * e+m<=b') (hK:6 * m+6 * e+10<=K) {r:RecI} {h:Trm} {args:List Trm} (hh:Wd b m h) (ha:∀ a∈args,Wd b m a) (hal:args.length<=m):∀ (fs ahead bs:List Trm) (out:Trm) (j:Nat),(∀ a∈fs,Wd b e a)->(∀ a∈ahead,Wd b m a)->(∀ a∈bs,Wd b m a)->Wd b' (K+j) out->Wd b' (K+j+fs.length) (hypsF r h args fs ahead bs out)
 | [],ahead,bs,out,j,_,_,_,ho=>by simpa [hypsF] using ho
 | f::fs,ahead,[],out,j,_,_,_,ho=>by simp only [hypsF];exact ho.mono (Int.le_refl _) (by omega)
 | f :: fs,ahead,v::bs,out,j,hf,hd,hv,ho=>by
   simp only [hypsF]
   have ih:=fun out' (h':Wd b' (K+(j+1)) out')=>zma (r:=r) hb hm he hb' hK hh ha hal fs (ahead++[v]) bs out' (j+1) (fun a h=>hf a (by simp [h])) (fun a h=>by
    rcases List.mem_append.1 h with h | h
    ·exact hd a h
    ·simp at h;subst h;exact hv a (by simp)) (fun a h=>hv a (by simp [h])) h'
   have hlen:K+(j+1)+fs.length=K+j+(f::fs).length:=by simp;omega
   rw [<- hlen]
   cases hx:hypF r h args f ahead v with
   | none=>exact ih out (ho.mono (Int.le_refl _) (by omega))
   | some x =>
     have hw:=(zyl hb hm he hh ha hal hd (hf f (by simp)) (hv v (by simp)) hx).mono hb' hK
     exact ih (mkA out x) ((Wd.mkA (by omega) ho (hw.mono (Int.le_refl _) (by omega))).mono (Int.le_refl _) (by omega))
theorem zz2l {B b:Int} (h0:0<=b) (hb:B<=b) {m:Nat} (hm:1<=m) {r:RecI} (hc:∀ k∈r.fam.ctors,Wd B 100000 k.ty) {h:Trm} {args:List Trm} (hh:Wd b m h) (ha:∀ a∈args,Wd b m a) (hal:args.length<=m) {major u:Trm} (hj:Wd b m major) (hu:iotR r h args major=some u):Wd (b+200000+m) (8 * m+800010) u:=by
 unfold iotR at hu
 split at hu
 ·split at hu
  ·cases hu
  ·rename_i k hk
   split at hu
   ·rename_i hl
    cases hu
    have hkl:=z6n hk
    have hct:r.fam.ctors[k]?=some (r.fam.ctors.getD k default):=by rw [List.getD_eq_getElem?_getD,List.getElem?_eq_getElem hkl.1];rfl
    have hty:=(hc _ (List.mem_of_getElem? hct)).mono hb (Nat.le_refl _)
    generalize (r.fam.ctors.getD k default).ty=ty at *
    have hpi:=pi_wd hty
    have hja:=hj.args
    have hF:∀ a∈(argsT major).drop r.p,Wd b m a:=fun a h=>hja.1 a (List.mem_of_mem_drop h)
    have hb2:0<=b+200000+m:=by omega
    have h0:Wd (b+200000+m) (m+m) (appT (args.getD (r.p+1+k) zT) ((argsT major).drop r.p)):=(Wd.app (by omega) (Wd.getD (by omega) hm ha _) hF (by rw [List.length_drop];omega)).mono (by omega) (Nat.le_refl _)
    have h1:=zma (r:=r) (b':=b+200000+m) (K:=6 * m+600010) (by omega) hm (e:=100000) (by omega) (by omega) (by omega) hh ha hal ((piL ty).drop r.p) [] ((argsT major).drop r.p) _ 0 (fun a h=>hpi.1 a (List.mem_of_mem_drop h)) (fun a h=>by cases h) hF (h0.mono (Int.le_refl _) (by omega))
    have hpl:((piL ty).drop r.p).length<=100000:=by rw [List.length_drop];omega
    exact (Wd.app hb2 (l:=args.drop (r.major+1)) (h1.mono (k:=6 * m+700010) (Int.le_refl _) (by omega)) (fun a h=>(ha a (List.mem_of_mem_drop h)).mono (by omega) (by omega)) (n:=m) (by rw [List.length_drop];omega)).mono (Int.le_refl _) (by omega)
   ·cases hu
 ·cases hu
theorem zbm {ds : List Dcl} {c:Int} {wh wh':Trm->Int->Option WR} (hw:∀ t f x,wh t f=some x->wh' t f=some x) {t:Trm} {f:Int} {y:OR} (h:onF ds c wh t f=some y):onF ds c wh' t f=some y:=by
 unfold onF at h ⊢
 split at h
 ·rename_i h1;rw [if_pos h1];exact h
 ·rename_i h1;rw [if_neg h1]
  split at h
  ·rename_i h2;rw [if_pos h2];exact h
  ·rename_i h2;rw [if_neg h2]
   split at h
   ·rename_i h3;rw [if_pos h3]
    cases hf:findD ds (headT t).name with
    | none=>simp only [hf] at h ⊢;exact h
    | some d =>
      simp only [hf] at h ⊢
      by_cases h4:d.kind=2/\d.params=(headT t).levels.length
      ·rw [if_pos h4] at h ⊢;exact h
      ·rw [if_neg h4] at h ⊢
       cases hi:z1u ds (headT t) with
       | none=>simp only [hi] at h ⊢;exact h
       | some r =>
         simp only [hi] at h ⊢
         by_cases h5:r.major<(argsT t).length
         ·rw [if_pos h5] at h ⊢
          cases hm:wh ((argsT t).getD r.major zT) f with
          | none=>simp only [hm] at h;cases h
          | some x =>
            rw [hw _ _ _ hm]
            simp only [hm] at h
            exact h
         ·rw [if_neg h5] at h ⊢;exact h
   ·rename_i h3;rw [if_neg h3];exact h
theorem z1p {ds:List Dcl} {c:Int}:∀ (g k:Nat),g<=k->∀ (t:Trm) (f:Int) (x:WR),whF ds c g t f=some x->whF ds c k t f=some x
 | 0,_,_,_,_,_,h=>by cases h
 | g+1,0,hk,_,_,_,_=>by omega
 | g + 1,k+1,hk,t,f,x,h=>by
   simp only [whF] at h ⊢
   split at h
   ·cases h
   ·rename_i u did f1 e ho
    rw [zbm (fun t f x hx=>z1p g k (by omega) t f x hx) ho]
    simp only
    split at h
    ·rename_i he;rw [if_pos he];exact h
    ·rename_i he;rw [if_neg he]
     split at h
     ·rename_i hd;rw [if_pos hd];exact z1p g k (by omega) u f1 x h
     ·rename_i hd;rw [if_neg hd];exact h
def bdV (T:Int) (M:Nat) (f:Int):Int:=T-max f 0 * (200000+M)
theorem zhg {T:Int} {M:Nat} {f:Int} (h:0<f):bdV T M (f-1)=bdV T M f+200000+M:=by
 unfold bdV
 rw [show max (f-1) 0=f-1 by omega,show max f 0=f by omega,Int.sub_mul]
 generalize f * (200000+(M:Int))=z
 omega
theorem zbn {T:Int} {M:Nat} {f f1:Int} (h:f1<=f):bdV T M f<=bdV T M f1:=by
 unfold bdV
 have:max f1 0 * (200000+(M:Int))<=max f 0 * (200000+(M:Int)):=Int.mul_le_mul_of_nonneg_right (by omega) (by omega)
 omega
theorem zok (T:Int) (M:Nat) (f:Int):bdV T M f<=T:=by
 unfold bdV
 have:0<=max f 0 * (200000+(M:Int)):=Int.mul_nonneg (by omega) (by omega)
 omega
theorem zol:∀ {t a:Trm},a∈argsT t->dpT a<dpT t:=by
 have key:∀ (t:Trm) (acc:List Trm) (m:Nat),dpT t<=m->(∀ a∈acc,dpT a<m)->∀ a∈(spnT t acc).2,dpT a<m:=by
  intro t
  induction hn:dpT t using Nat.strongRecOn generalizing t with
  | _ k ih =>
    intro acc m hm ha a hmem
    obtain ⟨kd,n,s,ls,l⟩:=t
    rw [spnT.eq_def] at hmem
    simp only at hmem
    split at hmem
    ·match l,hn,hmem with
     | [f,x],hn,hmem =>
       have hf:=z1h (t:=⟨kd,n,s,ls,[f,x]⟩) (a:=f) (by simp)
       have hx:=z1h (t:=⟨kd,n,s,ls,[f,x]⟩) (a:=x) (by simp)
       exact ih (dpT f) (by omega) f rfl (x::acc) m (by omega) (fun b hb=>by rcases List.mem_cons.1 hb with rfl | hb;omega;exact ha b hb) a hmem
     | [],hn,hmem=>exact ha a hmem
     | [_],hn,hmem=>exact ha a hmem
     | _::_::_::_,hn,hmem=>exact ha a hmem
    ·exact ha a hmem
 intro t a h
 exact key t [] (dpT t) (Nat.le_refl _) (fun _ h=>by cases h) a h
section
variable {T : Int} {M : Nat} {c : Int} (hT : T ≤ 1099511627776) (hM : M ≤ 10000000) (h1 : 1 ≤ M) (hc : c ≤ M)
include hT hM h1 hc
theorem zom {f:Int} {u:Trm} (hu:0<f->Wd (bdV T M f+200000+M) (8 * M+800010) u):∃ y,mdF c f u=some y/\(y.2.2.2=0->Wd (bdV T M y.2.2.1) M y.1)/\y.2.2.1<=f/\(y.2.1=true->y.2.2.2=0/\y.2.2.1<f/\0<=y.2.2.1):=by
 unfold mdF
 by_cases hf:f<=0
 ·rw [if_pos hf];exact ⟨_,rfl,fun h=>by simp at h,Int.le_refl _,fun h=>by simp at h⟩
 ·rw [if_neg hf]
  have hw:=hu (by omega)
  have hb:=zhg (T:=T) (M:=M) (f:=f) (by omega)
  have hl:=zok T M (f-1)
  have hg:gdT u=true:=gdT_iff.2 ⟨z1b (by omega) u hw.w,by have:=hw.d;omega⟩
  rw [if_pos hg]
  by_cases hft:fitsT c u=true
  ·rw [if_pos hft]
   refine ⟨_,rfl,fun _=>?_,by simp only;omega,fun _=>⟨rfl,by simp only;omega,by simp only;omega⟩⟩
   have hs:=zda u
   simp only [fitsT,Bool.and_eq_true,decide_eq_true_eq] at hft
   exact ⟨by rw [hb];exact hw.w,by show dpT u<=M;omega⟩
  ·rw [if_neg hft];exact ⟨_,rfl,fun h=>by simp at h,by simp only;omega,fun h=>by simp at h⟩
end
section
variable {T B : Int} {M : Nat} {c : Int} (hT : T ≤ 1099511627776) (hB : 0 ≤ B) (hM : M ≤ 10000000) (h1 : 1 ≤ M) (hc : c ≤ M)
include hT hB hM h1 hc
theorem zym {ds : List Dcl} (hE:EnvW B ds) {wh:Trm->Int->Option WR} {t:Trm} {f:Int} (hb:B<=bdV T M f) (ht:Wd (bdV T M f) M t)
  (hw:∀ a∈argsT t,∃ y,wh a f=some y/\(y.2.2=0->Wd (bdV T M y.2.1) M y.1)/\y.2.1<=f):∃ y,onF ds c wh t f=some y/\(y.2.2.2=0->Wd (bdV T M y.2.2.1) M y.1)/\y.2.2.1<=f/\(y.2.1=true->y.2.2.2=0/\y.2.2.1<f/\0<=y.2.2.1):=by
 have hh:=ht.head
 have ha:=ht.args
 have hstay:∃ y,some (t,false,f,(0:Int))=some y/\(y.2.2.2=0->Wd (bdV T M y.2.2.1) M y.1)/\y.2.2.1<=f/\(y.2.1=true->y.2.2.2=0/\y.2.2.1<f/\0<=y.2.2.1):=⟨_,rfl,fun _=>ht,Int.le_refl _,fun h=>by simp at h⟩
 have hbeta:∀ (body v:Trm) (l:List Trm),Wd (bdV T M f) M body->Wd (bdV T M f) M v->(∀ a∈l,Wd (bdV T M f) M a)->l.length<=M->Wd (bdV T M f+200000+M) (8 * M+800010) (appT (opnT [v] body 0) l):=fun body v l g1 g2 g3 g4=>by
  have h2:=g1.opn (k:=M) (vs:=[v]) fun x hx=>by simp at hx;subst hx;exact g2
  exact (Wd.app (b:=bdV T M f+M) (m:=M+M) (n:=M) (by omega) h2 (fun a h=>(g3 a h).mono (by omega) (by omega)) g4).mono (by omega) (by omega)
 have hsub:∀ i,Wd (bdV T M f) M ((headT t).args.getD i zT):=fun i=>Wd.getD (by omega) h1 (fun a h=>hh.sub h) i
 unfold onF
 by_cases c1:(headT t).kind=4/\argsT t≠[]
 ·rw [if_pos c1]
  exact zom hT hM h1 hc fun _=>hbeta _ _ _ (hsub 1) (Wd.getD (by omega) h1 ha.1 0) (fun a h=>ha.1 a (List.mem_of_mem_drop h)) (by rw [List.length_drop];omega)
 rw [if_neg c1]
 by_cases c2:(headT t).kind=6
 ·rw [if_pos c2]
  exact zom hT hM h1 hc fun _=>hbeta _ _ _ (hsub 2) (hsub 1) ha.1 ha.2
 rw [if_neg c2]
 by_cases c3:(headT t).kind=2
 ·rw [if_pos c3]
  cases hf:findD ds (headT t).name with
  | none=>exact hstay
  | some d =>
    simp only
    by_cases c4:d.kind=2/\d.params=(headT t).levels.length
    ·rw [if_pos c4]
     refine zom hT hM h1 hc fun _=>?_
     have hv:=hE.v d (List.mem_of_find?_eq_some hf)
     have hl:Wd (bdV T M f) 100000 (lvsT (headT t).levels d.value):=⟨z1b hb _ (zaj (zf hh.w).nar _ hv.w),by rw [zfo];exact hv.d⟩
     exact (Wd.app (b:=bdV T M f) (m:=M+100000) (n:=M) (by omega) (hl.mono (Int.le_refl _) (by omega)) (fun a h=>(ha.1 a h).mono (Int.le_refl _) (by omega)) ha.2).mono (by omega) (by omega)
    ·rw [if_neg c4]
     cases hi:z1u ds (headT t) with
     | none=>exact hstay
     | some r =>
       simp only
       by_cases c5:r.major<(argsT t).length
       ·rw [if_pos c5]
        obtain ⟨⟨m,f1,e⟩,hy,hy1,hy2⟩:=hw ((argsT t).getD r.major zT) (by rw [List.getD_eq_getElem?_getD,List.getElem?_eq_getElem c5];exact List.getElem_mem c5)
        rw [hy]
        simp only at hy1 hy2 ⊢
        by_cases c6:e≠0
        ·rw [if_pos c6];exact ⟨_,rfl,fun h=>absurd h c6,hy2,fun h=>by simp at h⟩
        ·rw [if_neg c6]
         have hm:=hy1 (Classical.byContradiction fun h=>c6 h)
         have hbm:=zbn (T:=T) (M:=M) hy2
         cases hio:iotaF ds t m with
         | none=>exact ⟨_,rfl,fun _=>ht.mono hbm (Nat.le_refl _),hy2,fun h=>by simp at h⟩
         | some u =>
           simp only
           rw [z7h,hi] at hio
           simp only [Option.bind_some,if_pos c5] at hio
           have hrf:=(z5k hi).1
           obtain ⟨y,g1,g2,g3,g4⟩:=zom (f:=f1) (u:=u) hT hM h1 hc fun _=>zz2l (b:=bdV T M f1) (by omega) (by omega) h1 (hE.c _ hrf) (hh.mono hbm (Nat.le_refl _)) (fun a h=>(ha.1 a h).mono hbm (Nat.le_refl _)) ha.2 hm hio
           exact ⟨y,g1,g2,by omega,fun h=>by have:=g4 h;omega⟩
       ·rw [if_neg c5];exact hstay
 ·rw [if_neg c3];exact hstay
theorem zfq {ds:List Dcl} (hE:EnvW B ds):∀ (n:Nat) (f:Int),f.toNat<=n->∀ (d:Nat) (t:Trm),dpT t<=d->B<=bdV T M f->Wd (bdV T M f) M t->∃ g x,whF ds c g t f=some x/\(x.2.2=0->Wd (bdV T M x.2.1) M x.1)/\x.2.1<=f:=by
 intro n
 induction n using Nat.strongRecOn with
 | _ n IHn =>
   intro f hf d
   induction d with
   | zero=>intro t ht;have:=z5g t;omega
   | succ d IHd =>
     intro t ht hb hw
     have hg : ∃ g,∀ a∈argsT t,∃ y,whF ds c g a f=some y/\(y.2.2=0->Wd (bdV T M y.2.1) M y.1)/\y.2.1<=f:=by
      have:∀ l:List Trm,(∀ a∈l,a∈argsT t)->∃ g,∀ a∈l,∃ y,whF ds c g a f=some y/\(y.2.2=0->Wd (bdV T M y.2.1) M y.1)/\y.2.1<=f:=by
       intro l
       induction l with
       | nil=>exact fun _=>⟨0,fun a h=>by cases h⟩
       | cons a l ih =>
         intro hl
         obtain ⟨g1,k1⟩:=ih fun b hb=>hl b (by simp [hb])
         have ham:=hl a (by simp)
         have had:=zol ham
         obtain ⟨g2,y,k2,k3⟩:=IHd a (by omega) hb (hw.args.1 a ham)
         refine ⟨max g1 g2,fun b hbm=>?_⟩
         rcases List.mem_cons.1 hbm with rfl | hbm
         ·exact ⟨y,z1p g2 _ (by omega) _ _ _ k2,k3⟩
         ·obtain ⟨y',k4,k5⟩:=k1 b hbm
          exact ⟨y',z1p g1 _ (by omega) _ _ _ k4,k5⟩
      exact this _ fun _ h=>h
     obtain ⟨g,hg⟩:=hg
     obtain ⟨⟨u,did,f1,e⟩,ho,o1,o2,o3⟩:=zym hT hB hM h1 hc hE hb hw hg
     simp only at o1 o2 o3
     by_cases he:e≠0
     ·refine ⟨g+1,(zT,f1,e),by simp only [whF];rw [ho];simp only [if_pos he],fun h=>absurd h he,o2⟩
     ·have he0:e=0:=Classical.byContradiction fun h=>he h
      cases did with
      | false=>exact ⟨g+1,(u,f1,0),by simp only [whF];rw [ho];simp only [if_neg he];rfl,fun _=>o1 he0,o2⟩
      | true =>
        obtain ⟨_,p1,p2⟩:=o3 rfl
        have hbm:=zbn (T:=T) (M:=M) (f:=f) (f1:=f1) o2
        obtain ⟨g2,x,k1,k2,k3⟩:=IHn f1.toNat (by omega) f1 (Nat.le_refl _) (dpT u) u (Nat.le_refl _) (by omega) (o1 he0)
        refine ⟨max g g2+1,x,?_,k2,by omega⟩
        simp only [whF]
        rw [zbm (fun t f x hx=>z1p g (max g g2) (by omega) t f x hx) ho]
        simp only [if_neg he]
        exact z1p g2 _ (by omega) _ _ _ k1
end
theorem zuh {c c':Int} (hc:c<=c') {u:Trm} (h:fitsT c u=true):fitsT c' u=true:=by
 simp only [fitsT,Bool.and_eq_true,decide_eq_true_eq] at h ⊢
 exact ⟨by omega,h.2⟩
theorem zbo {c c':Int} (hc:c<=c') {a:Int} (ha:0<=a) {f:Int} {u u':Trm} {did:Bool} {f':Int} (h:mdF c f u=some (u',did,f',0)):mdF c' (f+a) u=some (u',did,f'+a,0):=by
 unfold mdF at h ⊢
 by_cases hf:f<=0
 ·rw [if_pos hf] at h;simp at h
 ·rw [if_neg hf] at h
  rw [if_neg (by omega)]
  by_cases hg:gdT u=true
  ·rw [if_pos hg] at h ⊢
   by_cases hft:fitsT c u=true
   ·rw [if_pos hft] at h
    rw [if_pos (zuh hc hft)]
    simp only [Option.some.injEq,Prod.mk.injEq] at h ⊢
    exact ⟨h.1,h.2.1,by omega,trivial⟩
   ·rw [if_neg hft] at h;simp at h
  ·rw [if_neg hg] at h;cases h
theorem zxp {ds : List Dcl} {c c':Int} (hc:c<=c') {a:Int} (ha:0<=a) {wh wh':Trm->Int->Option WR} (hw:∀ t f u f',wh t f=some (u,f',0)->wh' t (f+a)=some (u,f'+a,0)) {t:Trm} {f:Int} {u:Trm} {did:Bool} {f':Int} (h:onF ds c wh t f=some (u,did,f',0)):onF ds c' wh' t (f+a)=some (u,did,f'+a,0):=by
 have stay:some (t,false,f,(0:Int))=some (u,did,f',0)->some (t,false,f+a,(0:Int))=some (u,did,f'+a,0):=fun h=>by
  simp only [Option.some.injEq,Prod.mk.injEq] at h ⊢
  exact ⟨h.1,h.2.1,by omega,trivial⟩
 unfold onF at h ⊢
 by_cases c1:(headT t).kind=4/\argsT t≠[]
 ·rw [if_pos c1] at h ⊢;exact zbo hc ha h
 rw [if_neg c1] at h ⊢
 by_cases c2:(headT t).kind=6
 ·rw [if_pos c2] at h ⊢;exact zbo hc ha h
 rw [if_neg c2] at h ⊢
 by_cases c3:(headT t).kind=2
 ·rw [if_pos c3] at h ⊢
  cases hf:findD ds (headT t).name with
  | none=>simp only [hf] at h ⊢;exact stay h
  | some d =>
    simp only [hf] at h ⊢
    by_cases c4:d.kind=2/\d.params=(headT t).levels.length
    ·rw [if_pos c4] at h ⊢;exact zbo hc ha h
    ·rw [if_neg c4] at h ⊢
     cases hi:z1u ds (headT t) with
     | none=>simp only [hi] at h ⊢;exact stay h
     | some r =>
       simp only [hi] at h ⊢
       by_cases c5:r.major<(argsT t).length
       ·rw [if_pos c5] at h ⊢
        cases hm:wh ((argsT t).getD r.major zT) f with
        | none=>simp only [hm] at h;cases h
        | some y =>
          obtain ⟨m,f1,e⟩:=y
          simp only [hm] at h
          by_cases c6:e≠0
          ·rw [if_pos c6] at h
           simp only [Option.some.injEq,Prod.mk.injEq] at h
           exact absurd h.2.2.2 c6
          ·rw [if_neg c6] at h
           have he:e=0:=Classical.byContradiction fun h=>c6 h
           subst he
           rw [hw _ _ _ _ hm]
           simp only
           rw [if_neg c6]
           cases hio:iotaF ds t m with
           | none =>
             simp only [hio] at h ⊢
             simp only [Option.some.injEq,Prod.mk.injEq] at h ⊢
             exact ⟨h.1,h.2.1,by omega,trivial⟩
           | some w =>
             simp only [hio] at h ⊢
             exact zbo hc ha h
       ·rw [if_neg c5] at h ⊢;exact stay h
 ·rw [if_neg c3] at h ⊢;exact stay h
theorem z7j {ds:List Dcl} {c c':Int} (hc:c<=c') {a:Int} (ha:0<=a):∀ (g:Nat) (t:Trm) (f:Int) (u:Trm) (f':Int),whF ds c g t f=some (u,f',0)->whF ds c' g t (f+a)=some (u,f'+a,0)
 | 0,_,_,_,_,h=>by cases h
 | g + 1,t,f,u,f',h=>by
   simp only [whF] at h ⊢
   cases ho:onF ds c (whF ds c g) t f with
   | none=>simp only [ho] at h;cases h
   | some y =>
     obtain ⟨u1,did,f1,e⟩:=y
     simp only [ho] at h
     by_cases he:e≠0
     ·rw [if_pos he] at h
      simp only [Option.some.injEq,Prod.mk.injEq] at h
      exact absurd h.2.2 he
     ·rw [if_neg he] at h
      have he0:e=0:=Classical.byContradiction fun h=>he h
      subst he0
      rw [zxp hc ha (fun t f u f' hx=>z7j hc ha g t f u f' hx) ho]
      simp only
      rw [if_neg he]
      by_cases hd:did=true
      ·rw [if_pos hd] at h ⊢;exact z7j hc ha g u1 f1 u f' h
      ·rw [if_neg hd] at h ⊢
       simp only [Option.some.injEq,Prod.mk.injEq] at h ⊢
       exact ⟨h.1,by omega,trivial⟩
def errE (e:Int):Prop:=e=11\/e=12
theorem zhh {c f:Int} {u:Trm} {y:OR} (h:mdF c f u=some y) (he:y.2.2.2≠0):errE y.2.2.2/\y.1=zT/\y.2.1=false:=by
 unfold mdF at h
 split at h
 ·cases h;exact ⟨.inl rfl,rfl,rfl⟩
 ·split at h
  ·split at h
   ·cases h;exact absurd rfl he
   ·cases h;exact ⟨.inr rfl,rfl,rfl⟩
  ·cases h
theorem zz0v {ds:List Dcl} {c:Int} {wh:Trm->Int->Option WR} (hw:∀ t f y,wh t f=some y->y.2.2≠0->errE y.2.2/\y.1=zT) {t:Trm} {f:Int} {y:OR} (h:onF ds c wh t f=some y) (he:y.2.2.2≠0):errE y.2.2.2/\y.1=zT/\y.2.1=false:=by
 unfold onF at h
 split at h
 ·exact zhh h he
 ·split at h
  ·exact zhh h he
  ·split at h
   ·split at h
    ·cases h;exact absurd rfl he
    ·split at h
     ·exact zhh h he
     ·split at h
      ·cases h;exact absurd rfl he
      ·split at h
       ·split at h
        ·cases h
        ·rename_i m f1 e hm
         split at h
         ·rename_i hne
          cases h
          exact ⟨(hw _ _ _ hm hne).1,rfl,rfl⟩
         ·split at h
          ·exact zhh h he
          ·cases h;exact absurd rfl he
       ·cases h;exact absurd rfl he
   ·cases h;exact absurd rfl he
theorem zhi {ds:List Dcl} {c:Int}:∀ (g:Nat) (t:Trm) (f:Int) (y:WR),whF ds c g t f=some y->y.2.2≠0->errE y.2.2/\y.1=zT
 | 0,_,_,_,h,_=>by cases h
 | g + 1,t,f,y,h,hne=>by
   simp only [whF] at h
   split at h
   ·cases h
   ·rename_i u did f1 e ho
    split at h
    ·rename_i he
     cases h
     exact ⟨(zz0v (fun t f y=>zhi g t f y) ho he).1,rfl⟩
    ·split at h
     ·exact zhi g u f1 y h hne
     ·cases h;exact absurd rfl hne
end Go.Ab
namespace Go.Ab.YtpneaijfkefeaaaGreat
open Go Go.RowKit Go.Ab Go.Proofs
structure EnvR (ds:List Dcl):Prop where
 g:∀ d∈ds,okE d=true
 k:∀ d∈ds,d.kind=3->0<=d.count
 l:ds.length<=1000000
theorem EnvR.c {ds:List Dcl} (h:EnvR ds):∀ d∈ds,CpD d:=fun d hd=>zz2j (h.g d hd)
theorem zaw (L:List Dcl) (b:Int) (s:ByteArray) (hl:L.length<=1000000000000) (hc:∀ d∈L,CpD d):Con Tryz.prog 79 [.ptr 1000 0,.p (St s)] (refE 1000 L b) (fun r o=>r=fndD (findD L s)/\o=refE 1000 L b):=by
 have hf:=znh L s
 refine cv [] [] [1000,1001] Tryz.func79 21 Tryz.ntmps79 rfl rfl fun cx hE=>callR [1000,1001] (zsy L b s hl) rfl rfl (za _) (brS (fun h=>?_) (fun h=>?_))
 ·have hx:ixD L s=none:=by
   cases hx:ixD L s with
   | none=>rfl
   | some i=>unfold atF at h;rw [hx] at h;simp at h;omega
  rw [hx] at hf
  rw [hf];exact ⟨rfl,rfl⟩
 ·cases hx:ixD L s with
  | none=>unfold atF at h;rw [hx] at h;simp at h
  | some i =>
    have hlt:=zsd hx
    rw [hx] at hf
    have hi:atF L s=(i:Nat):=by unfold atF;rw [hx];rfl
    have hd:L[i]?=some (L[i]'hlt):=List.getElem?_eq_getElem hlt
    rw [hi,hf]
    refine idxN (row:=rowD (L[i]'hlt)) (by simp [encDs,hd]) (call0 (zal _ (hc _ (List.getElem_mem hlt))) ?_)
    simp only [Option.bind_some,hd,fndD]
    exact ⟨rfl,rfl⟩
def recL (d:Dcl) (p i:Int):List AV:=[.p (I d.kind),.p (I d.params),.p (I d.count),.p (St d.name),.p (St d.family),.p (I d.type.kind),.p (I d.type.n),.p (St d.type.name),.p (.sl 3 (encLs d.type.levels)),.p (.sl 5 (encTs d.type.args)),
 .p (I d.value.kind),.p (I d.value.n),.p (St d.value.name),.p (.sl 3 (encLs d.value.levels)),.p (.sl 5 (encTs d.value.args)),.p (.sl 6 (encCs d.ctors)),.p (I p),.p (I i)]
theorem zfr (d:Dcl) (p i:Int) (hc:d.ctors.length<=1000) (p0:0<=p) (p1:p<=1000000000) (i0:0<=i) (i1:i<=1000000000):PCon Tryz.prog 82 [.ag (recL d p i)] (.p (I (p+1+d.ctors.length+i))):=by
 have hcl:(encCs d.ctors).length=d.ctors.length:=by simp [encCs]
 refine cv [] [] [] Tryz.func82 14 Tryz.ntmps82 rfl rfl fun cx hE=>And.intro (by omega) (fun _=>And.intro (by omega) (And.intro (by omega) ⟨?_,rfl⟩))
 rw [hcl]
def ctI:Option Nat->Int
 | some k=>k
 | none=>-1
theorem zui (d:Dcl) (p i:Int) (s:ByteArray) (hc:d.ctors.length<=1000):PCon Tryz.prog 132 [.ag (recL d p i),.p (St s)] (.p (I (ctI (z1y d.ctors s)))):=by
 refine cv [] [] [] Tryz.func132 24 Tryz.ntmps132 rfl rfl fun cx hE=>?_
 refine loopP d.ctors (fun q=>[(5,.p (I q.length))]) (fun q=>[]) (fun q=>z1y q s=none) [5] [] hE rfl rfl rfl ⟨Sub.refl _,rfl,trivial⟩ rfl (fun hp=>fun _=>brOut (by simp) ⟨I_eq (by rw [hp];rfl),rfl⟩) (fun q a t hq hp=>fun _=>brIn (by simp [hq]) (idxN (z1w (f:=rowC) hq) (brS (fun he=>⟨I_eq ?_,rfl⟩) (fun he=>And.intro (by have:=zj hq;omega) ⟨?_,Sub.i (by simp),rfl,trivial⟩))))
 ·rw [hq,z7i hp];simp only [z1y,if_pos he];simp [ctI]
 ·rw [z7i hp];simp only [z1y,if_neg he];simp
theorem zmb (d:Dcl) (hg:okE d=true) (p:Nat) (i:Int) (k:Nat) (c:Ctr) (hk:d.ctors[k]?=some c) (hp:p<=1000000000):PCon Tryz.prog 133 [.ag (recL d p i),.p (I k)] (.p (.sl 5 (encTs ((piL c.ty).drop p)))):=by
 simp only [okE,Bool.and_eq_true,decide_eq_true_eq,List.all_eq_true] at hg
 obtain ⟨ho1,ho2,ho3,ho4,ho5,ho6⟩:=hg
 have hty:=z2q (ho4 c (List.mem_of_getElem? hk)).1
 have hrow:(encCs d.ctors)[k]?=some (rowC c):=by rw [encCs,List.getElem?_map,hk];rfl
 obtain ⟨cn,ty⟩:=c
 simp only at hty
 have hd:=hty.d
 have hpl:=z3y ty
 have hel:=zc (piL ty)
 refine cv [] [] [] Tryz.func133 37 Tryz.ntmps133 rfl rfl fun cx hE=>idxN (i:=k) hrow (call0 (z3i ty (by omega)) (call0 (zak 1099511627776 (by omega) ty hty.w (by omega) (piL ty).length (Nat.le_refl _)) ?_))
 rw [List.take_length]
 refine brB (fun hh=>by cases hh) (fun _=>fun _=>brS (fun hlt=>?_) (fun hlt=>?_))
 ·rw [List.drop_eq_nil_of_le (by show (piL ty).length<=p;omega)];exact ⟨rfl,rfl⟩
 ·refine And.intro (by omega) ⟨?_,rfl⟩
  rw [show ((p:Int)).toNat=p by omega];simp [zb]
def recV (ds:List Dcl) (h:Trm):AV :=
 if h.kind=2 then (match findD ds h.name with
  | none=>.tp [.ag (recL zD 0 0),.p (B false)]
  | some d=>if d.kind=5/\d.params=h.levels.length then (match findD ds d.family with
    | none=>.tp [.ag (recL zD 0 0),.p (B false)]
    | some f=>if f.kind=3 then .tp [.ag (recL f f.count ((piL f.type).length-f.count)),.p (B (decide (((piL f.type).length:Int)-f.count≥0)))] else .tp [.ag (recL zD 0 0),.p (B false)]) else .tp [.ag (recL zD 0 0),.p (B false)])
 else .tp [.ag (recL zD 0 0),.p (B false)]
theorem zfs {ds:List Dcl} (hE:EnvR ds) (h:Trm):(∃ r,z1u ds h=some r/\recV ds h=.tp [.ag (recL r.fam r.p ((r.major:Int)-r.p-1-r.fam.ctors.length)),.p (B true)])\/(z1u ds h=none/\∃ f p i,recV ds h=.tp [.ag (recL f p i),.p (B false)]):=by
 unfold z1u recV
 by_cases hk:h.kind=2
 ·rw [if_pos hk,if_pos hk]
  cases hf:findD ds h.name with
  | none=>exact .inr ⟨rfl,_,_,_,rfl⟩
  | some d =>
    simp only
    by_cases h5:d.kind=5/\d.params=h.levels.length
    ·rw [if_pos h5,if_pos h5]
     cases hg:findD ds d.family with
     | none=>exact .inr ⟨rfl,_,_,_,rfl⟩
     | some f =>
       simp only
       by_cases h3:f.kind=3
       ·rw [if_pos h3]
        have hc0:=hE.k f (z3c hg) h3
        by_cases hc:f.count<=(piL f.type).length
        ·rw [if_pos ⟨h3,hc0,hc⟩]
         refine .inl ⟨_,rfl,?_⟩
         have e1:((f.count.toNat:Nat):Int)=f.count:=by omega
         have e2:(((f.count.toNat+1+f.ctors.length+((piL f.type).length-f.count.toNat):Nat):Int)-f.count-1-f.ctors.length)=(piL f.type).length-f.count:=by omega
         simp only [e1,e2]
         rw [show decide (((piL f.type).length:Int)-f.count≥0)=true by simp;omega]
        ·rw [if_neg (fun hh=>hc hh.2.2)]
         refine .inr ⟨rfl,f,f.count,(piL f.type).length-f.count,?_⟩
         rw [show decide (((piL f.type).length:Int)-f.count≥0)=false by simp;omega]
       ·rw [if_neg h3,if_neg (fun hh=>h3 hh.1)]
        exact .inr ⟨rfl,_,_,_,rfl⟩
    ·rw [if_neg h5,if_neg h5]
     exact .inr ⟨rfl,_,_,_,rfl⟩
 ·rw [if_neg hk,if_neg hk]
  exact .inr ⟨rfl,_,_,_,rfl⟩
set_option maxHeartbeats 8000000 in
theorem zft (ds:List Dcl) (b:Int) (hE:EnvR ds) (h:Trm) (hl:h.levels.length<=1000000000000):Con Tryz.prog 81 [.ptr 1000 0,tv h] (refE 1000 ds b) (fun r o=>r=recV ds h/\o=refE 1000 ds b):=by
 have hER:=hE
 have hll:=zq h.levels
 have hld:=hE.l
 unfold recV
 refine cv [] [] [1000,1001] Tryz.func81 66 Tryz.ntmps81 rfl rfl fun cx hE=>brS (fun hk=>?_) (fun hk=>?_)
 ·rw [if_neg hk];exact ⟨rfl,rfl⟩
 have hk2:h.kind=2:=Classical.byContradiction fun hn=>hk hn
 rw [if_pos hk2]
 refine callR [1000,1001] (zaw ds b h.name (by omega) hER.c) rfl rfl (za _) ?_
 cases hf:findD ds h.name with
 | none=>exact brB (fun _=>⟨rfl,rfl⟩) (fun hh=>by cases hh)
 | some d =>
   have hdo:=hER.g d (z3c hf)
   simp only
   refine brB (fun hh=>by cases hh) (fun _=>brS (fun h5=>?_) (fun h5=>fun _=>brS (fun hp=>?_) (fun hp=>?_)))
   ·rw [if_neg (fun hc=>h5 hc.1)];exact ⟨rfl,rfl⟩
   ·rw [if_neg (fun hc=>hp (by omega))];exact ⟨rfl,rfl⟩
   ·have hd5:d.kind=5/\d.params=h.levels.length:=⟨by omega,by omega⟩
    rw [if_pos hd5]
    refine callR [1000,1001] (zaw ds b d.family (by omega) hER.c) rfl rfl (za _) ?_
    cases hg:findD ds d.family with
    | none=>exact brB (fun _=>⟨rfl,rfl⟩) (fun hh=>by cases hh)
    | some f =>
      have hfo:=hER.g f (z3c hg)
      have hfk:=hER.k f (z3c hg)
      simp only [okE,Bool.and_eq_true,decide_eq_true_eq,List.all_eq_true] at hfo
      obtain ⟨ho1,ho2,ho3,ho4,ho5,ho6⟩:=hfo
      have htd:=(z2q ho1).d
      have hpl:=z3y f.type
      simp only
      refine brB (fun hh=>by cases hh) (fun _=>brS (fun h3=>?_) (fun h3=>?_))
      ·rw [if_neg h3];exact ⟨rfl,rfl⟩
      have h33:f.kind=3:=by omega
      rw [if_pos h33]
      exact call0 (z3i f.type (by omega)) (And.intro (by omega) ⟨rfl,rfl⟩)
end Go.Ab.YtpneaijfkefeaaaGreat
