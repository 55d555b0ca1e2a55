/- Texts of our own, laid together. -/
import Derived.Laws.Small
import Derived.Laws.Pointers
import Derived.Laws.Cover3
import Derived.MapKept
import Derived.Laws.Externs
import Derived.Lib.AppendZerosOnto
import Derived.Laws.Strings2
import Derived.Laws.Concat
import Derived.Test.YtpneaijfkefeaaaGreatM1T1
set_option maxRecDepth 20000
set_option linter.unusedVariables false
set_option linter.unusedSectionVars false
set_option linter.unusedSimpArgs false
namespace Go.Ab
open Go Go.RowKit
section
variable {P : Program} {cx : Cx} {n : Nat} {ops : Array Oper} {gens exs : List Nat} {ch : Nat → Obs} {E : Regs → Prop} {o : Oper} {rest : List Oper} {regs : Regs} {x : AV} {k : Nat} {objs objs' : Obs}
mutual
def AV.mx:AV->Nat
 | .p _=>0
 | .any=>0
 | .ptr k _=>k+1
 | .ts k _ _=>k+1
 | .ag cs=>AV.mxL cs
 | .tp cs=>AV.mxL cs
 | .fv _ a b=>AV.mxL a+AV.mxL b
 | .tm k _=>k+1
 | .pe k _ _=>k+1
 | .ifc _ x=>x.mx
 | .nn k _ _=>k+1
def AV.mxL:List AV->Nat
 | []=>0
 | x::r=>x.mx+AV.mxL r
end
mutual
theorem AV.mx_no:∀ (x:AV) (k:Nat),x.mx<=k->x.no k=true
 | .p _,k,h=>rfl
 | .any,k,h=>rfl
 | .ptr j _,k,h=>by
   simp only [AV.mx] at h;simp only [AV.no,Bool.not_eq_true']
   cases hb:Nat.beq j k with
   | false=>rfl
   | true=>have:=Nat.eq_of_beq_eq_true hb;omega
 | .ts j _ _,k,h=>by
   simp only [AV.mx] at h;simp only [AV.no,Bool.not_eq_true']
   cases hb:Nat.beq j k with
   | false=>rfl
   | true=>have:=Nat.eq_of_beq_eq_true hb;omega
 | .ag cs,k,h=>AV.mxL_no cs k h
 | .tp cs,k,h=>AV.mxL_no cs k h
 | .fv _ a b,k,h=>by
   simp only [AV.mx] at h
   simp only [AV.no,AV.mxL_no a k (by omega),AV.mxL_no b k (by omega),Bool.and_self]
 | .tm j _,k,h=>by
   simp only [AV.mx] at h;simp only [AV.no,Bool.not_eq_true']
   cases hb:Nat.beq j k with
   | false=>rfl
   | true=>have:=Nat.eq_of_beq_eq_true hb;omega
 | .pe j _ _,k,h=>by
   simp only [AV.mx] at h;simp only [AV.no,Bool.not_eq_true']
   cases hb:Nat.beq j k with
   | false=>rfl
   | true=>have:=Nat.eq_of_beq_eq_true hb;omega
 | .ifc _ x,k,h=>AV.mx_no x k h
 | .nn j _ _,k,h=>by
   simp only [AV.mx] at h;simp only [AV.no,Bool.not_eq_true']
   cases hb:Nat.beq j k with
   | false=>rfl
   | true=>have:=Nat.eq_of_beq_eq_true hb;omega
theorem AV.mxL_no:∀ (l:List AV) (k:Nat),AV.mxL l<=k->AV.noL k l=true
 | [],k,h=>rfl
 | x::r,k,h=>by
   simp only [AV.mxL] at h
   simp only [AV.noL,AV.mx_no x k (by omega),AV.mxL_no r k (by omega),Bool.and_self]
end
def mxR:Regs->Nat
 | []=>0
 | (_,x)::r=>x.mx+mxR r
def Ob.mx:Ob->Nat
 | .ce _ cs=>AV.mxL cs
 | .ar _ _ _=>0
 | .mu _ _ _ _=>0
 | .mp _ _=>0
def mxO:Obs->Nat
 | []=>0
 | (k,o)::r=>(k+1)+o.mx+mxO r
theorem zy7:∀ (l:Regs) (k:Nat),mxR l<=k->z1e k l=true
 | [],k,h=>rfl
 | (t,x)::r,k,h=>by
   simp only [mxR] at h
   simp only [z1e,AV.mx_no x k (by omega),zy7 r k (by omega),Bool.and_self]
theorem zy8:∀ (l:Obs) (k:Nat),mxO l<=k->zr k l=true
 | [],k,h=>rfl
 | (j,o)::r,k,h=>by
   simp only [mxO] at h
   have h1:Nat.beq j k=false:=by
    cases hb:Nat.beq j k with
    | false=>rfl
    | true=>have:=Nat.eq_of_beq_eq_true hb;omega
   have h2:o.no k=true:=by
    cases o with
    | ar=>rfl
    | mu=>rfl
    | mp=>rfl
    | ce T cs=>simp only [Ob.mx] at h;exact AV.mxL_no cs k (by omega)
   simp only [zr,h1,h2,zy8 r k (by omega),Bool.and_self,Bool.not_false]
theorem zrh:∀ (l:Obs) (k:Nat),mxO l<=k->get l k=none
 | [],k,h=>rfl
 | (j,o)::r,k,h=>by
   simp only [mxO] at h
   have h1:Nat.beq j k=false:=by
    cases hb:Nat.beq j k with
    | false=>rfl
    | true=>have:=Nat.eq_of_beq_eq_true hb;omega
   simp only [get,h1,cond_false]
   exact zrh r k (by omega)
theorem zw8 (s:S) (o0:Obs):∃ k,fresh k s=true/\get o0 k=none :=
 ⟨mxR s.regs+mxO s.objs+mxO o0,by
  have h1:=zy7 s.regs (mxR s.regs+mxO s.objs+mxO o0) (by omega)
  have h2:=zy8 s.objs (mxR s.regs+mxO s.objs+mxO o0) (by omega)
  simp only [fresh,h1,h2,Bool.and_self],zrh o0 _ (by omega)⟩
section
variable {P : Program} {cx : Cx} {n : Nat} {Q : Exit → S → Prop} {regs : List (Nat × AV)} {objs : Obs} {ops : Array Oper} {rest : List Oper} {d : Nat} {pos : String} {aft : Array Edge} {ty : Nat}
theorem zzj {T E sz bytes len:Nat} {parts:List (Nat×Operand)} {rows:List (List PV)} (si:SI P T E) (ei:EI P E sz bytes) (hr:z3x ⟨regs,objs⟩ sz 0 parts=some rows) (hl:Nat.beq parts.length len=true) (hs:(Nat.ble (len * sz) 16777216&&Nat.ble len 16777216)=true)
  (hd:Nat.blt d n=true) (kk:AWl P cx n ops rest Q ⟨(d,.p (.sl sz rows))::regs,objs⟩) :
  AWl P cx n ops (⟨some d,.buildSlice T len parts.toArray,ty,pos,aft,none⟩::rest) Q ⟨regs,objs⟩:=by
 obtain ⟨k,hf,h0⟩:=zw8 ⟨regs,objs⟩ cx.objs0
 refine z2w rfl (s':=⟨(d,.p (.sl sz rows))::regs,objs⟩) (fun a w own r=>?_) kk
 obtain ⟨v,w',e1,e2,e3⟩:=r.build si ei hr (Nat.eq_of_beq_eq_true hl) (by simp at hs;exact hs.1) (by simp at hs;exact hs.2) hf h0
 refine ⟨v,w',.inl (za8 e1),upd own k v,?_⟩
 have r2:=e2.put_same (by simpa using hd:d<n) e3
 have hn:=r2.ok.keys
 simp only [S.put,List.map_cons,List.nodup_cons] at hn
 obtain ⟨hok,hle⟩:=r2.ok.part (objs':=objs) (fun x h=>List.mem_cons_of_mem _ h) hn.2 cx.M0 (fun b i h=>.inl h) (fun j o b hk hb=>r2.ok.m0 j o b (List.mem_cons_of_mem _ hk) hb)
 refine { defs:=r2.defs,size:=r2.size,ok:=hok,regs:=fun t y hy=>?_,stp:=r2.stp.less hle,fix:=fun j o hj=>(r2.fix j o hj).trans ?_,fr:=⟨r2.fr.keep,fun j o b hk hb=>r2.fr.loc j o b (List.mem_cons_of_mem _ hk) hb,r2.fr.size⟩ }
 ·simp only [get] at hy
  cases hb:Nat.beq d t with
  | true =>
    obtain rfl:d=t:=Nat.eq_of_beq_eq_true hb
    rw [hb] at hy;simp at hy;subst hy
    exact Sub.ts _ _ _ _ _ ((r2.regs d (.ts k sz rows) (by simp [S.put,get,Nat.beq_refl])).part r2.ok (fun x h=>List.mem_cons_of_mem _ h) hle)
  | false =>
    rw [hb] at hy
    exact (r2.regs t y (by simp only [S.put,get,hb];exact hy)).part r2.ok (fun x h=>List.mem_cons_of_mem _ h) hle
 ·cases h3:hwOf objs j with
  | none=>exact .inr (.inl ⟨h3,.inl rfl⟩)
  | some m =>
    obtain ⟨oo,hm,hwi⟩:=z2g h3
    exact .inl ⟨rfl,by rw [h3];exact (z3a r2.ok.keys (List.mem_cons_of_mem _ hm) hwi).symm⟩
theorem Sub.agc {l l':List AV} (h:Subs l l'):Sub (.ag l) (.ag l'):=by
 obtain ⟨h1,h2⟩:=h.get
 refine Sub.ag h1 fun j x y hx hy=>?_
 obtain ⟨x',h3,h4⟩:=h2 j y hy
 rw [hx] at h3;cases h3;exact h4
end
end
section
variable {P : Program} {T src dst : Nat} {x y : Operand} {a b n : Int} {k k' : IntKind} {p q : Bool}
theorem zri {d:TypeDesc} (hs:P.underlying src=some d) (hd:P.underlying dst=some (.int k)):∀ w,(convert src dst (.int k' n)).run P w=.ok (.int k (k.wrap n)) w:=fun w=>by
 simp only [convert,Sem.run_bind,run_underlying hs w,run_underlying hd w,Result.andThen_ok]
 cases d<;>rfl
theorem zz1r {d:TypeDesc} (hs:P.underlying src=some d) (hd:P.underlying dst=some (.int .i64)) (h:-9223372036854775808<=n/\n<=9223372036854775807):∀ w,(convert src dst (.int k' n)).run P w=.ok (.int .i64 n) w:=fun w=>by
 rw [zri hs hd w,z8l h]
theorem zw9 (hu:P.underlying T=some .bool):∀ w,(do eqGuard .eql T x y (.bool p) (.bool q);binOp .eql T (.bool p) (.bool q):Sem Value).run P w=.ok (.bool (p==q)) w:=fun w=>by
 have h1:(eqGuard .eql T x y (.bool p) (.bool q)).run P w=.ok () w:=by simp [eqGuard]
 have h2:binOp .eql T (.bool p) (.bool q)=(do pure (.bool (<- Op.equal T (.bool p) (.bool q)))):=rfl
 simp only [Sem.run_bind,h1,h2,Result.andThen_ok,run_equal_bool w T p q hu,Sem.run_pure]
theorem zwa (hu:P.underlying T=some .bool):∀ w,(do eqGuard .neq T x y (.bool p) (.bool q);binOp .neq T (.bool p) (.bool q):Sem Value).run P w=.ok (.bool (!(p==q))) w:=fun w=>by
 have h1:(eqGuard .neq T x y (.bool p) (.bool q)).run P w=.ok () w:=by simp [eqGuard]
 have h2:binOp .neq T (.bool p) (.bool q)=(do pure (.bool (!(<- Op.equal T (.bool p) (.bool q))))):=rfl
 simp only [Sem.run_bind,h1,h2,Result.andThen_ok,run_equal_bool w T p q hu,Sem.run_pure]
end
section
variable {P : Program} {cx : Cx} {n : Nat} {Q : Exit → S → Prop} {regs : Regs} {objs : Obs}
end
structure AI (P:Program) (T m E:Nat):Prop where
 h:P.underlying T=some (.array m E)
section
variable {P : Program} {cx : Cx} {n : Nat} {Q : Exit → S → Prop} {regs : List (Nat × AV)} {objs : Obs} {ops : Array Oper} {rest : List Oper} {d : Nat} {pos : String} {aft : Array Edge} {ty : Nat}
theorem x_arr {T m E esz k off o2:Nat} {ag:Bool} {x y:Operand} {kd:IntKind} {i:Int} (ai:AI P T m E) (ti:TI P E esz ag) (hx:S.ev ⟨regs,objs⟩ x=some (.ptr k off)) (hy:S.ev ⟨regs,objs⟩ y=some (.p (.v (.int kd i)))) (h0:0<=i) (h1:i<(m:Int))
  (ho:off+i.toNat * esz=o2) (hd:Nat.blt d n=true) (kk:AWl P cx n ops rest Q ⟨(d,.ptr k o2)::regs,objs⟩) :
  AWl P cx n ops (⟨some d,.indexAddr T x y,ty,pos,aft,none⟩::rest) Q ⟨regs,objs⟩ :=
 zm (.ptr k o2) rfl rfl (by simpa using hd) (fun a w own r=>by
  obtain ⟨b,hb,hv⟩:=(r.ev hx).ptr_inv
  have hvy:=(r.ev hy).val
  refine ⟨.pointer (some ⟨b,o2,none⟩),?_,.ptr hb⟩
  have e1:P.arrayLen T=m:=by simp [Program.arrayLen,ai.h]
  have e2:P.elem T=E:=by simp [Program.elem,ai.h]
  have hu:P.underlying T=some (.array (P.arrayLen T) (P.elem T)):=by rw [e1,e2];exact ai.h
  simp only [execOp,hv,hvy,Sem.run_bind]
  rw [run_indexAt_array w T _ kd i hu,e1,e2,if_pos ⟨h0,h1⟩,ti.run_size w]
  simp only [Result.andThen_ok,Sem.run_pure,z8i,ho]) kk
theorem x_idx {T m E:Nat} {x y:Operand} {cs:List AV} {z:AV} {kd:IntKind} {i:Int} (ai:AI P T m E) (ti:TI P E 1 false) (hx:S.ev ⟨regs,objs⟩ x=some (.ag cs)) (hy:S.ev ⟨regs,objs⟩ y=some (.p (.v (.int kd i)))) (h0:0<=i) (h1:i<(m:Int))
  (hz:nthq cs i.toNat=some z) (hd:Nat.blt d n=true) (kk:AWl P cx n ops rest Q ⟨(d,z)::regs,objs⟩) :
  AWl P cx n ops (⟨some d,.index T x y,ty,pos,aft,none⟩::rest) Q ⟨regs,objs⟩ :=
 zm z rfl rfl (by simpa using hd) (fun a w own r=>by
  have hvy:=(r.ev hy).val
  have hvx:=r.ev hx
  generalize hv:a.eval x=v at hvx
  cases hvx with
  | ag vs hl h1' h =>
    rw [z5c] at hz
    have hlt:i.toNat<vs.length:=by rw [hl];exact (List.getElem?_eq_some_iff.1 hz).1
    refine ⟨vs.getD i.toNat undef,?_,h _ _ hz⟩
    simp only [execOp,hv,hvy,Sem.run_bind,Instr.index,asIntOf,run_underlying ai.h w,Sem.run_pure,Result.andThen_ok,if_pos (show 0<=i/\i<(m:Int) from ⟨h0,h1⟩),ti.run_size w,Nat.mul_one,part,ti.run_agg w]
    simp [List.getD_eq_getElem?_getD,hlt]) kk
end
theorem zrj {P:Program} {T E d m:Nat} (hu:P.underlying T=some (.array m E)) (he:P.underlying E=some (.int .i64)) (hs:TI P E 1 false) (w:World) (as0 bs:List Int) (h1:as0.length=m) (h2:bs.length=m) :
  (Op.equalIn (d+2) T (.agg (as0.map (Value.int .i64)).toArray) (.agg (bs.map (Value.int .i64)).toArray)).run P w=.ok (decide (as0=bs)) w:=by
 have hp:∀ (l:List Int) (i:Nat),i<l.length->(part E (l.map (Value.int .i64)).toArray i).run P w=.ok (.int .i64 (l.getD i 0)) w:=fun l i hi=>by
  simp [part,Sem.run_bind,hs.run_agg w,List.getD_eq_getElem?_getD,hi]
 rw [show d+2=(d+1)+1 from rfl,Op.equalIn]
 simp only [Sem.run_bind,run_underlying hu w,Result.andThen_ok,hs.run_size w,Nat.mul_one]
 rw [Std.Legacy.Range.forIn_eq_forIn_range']
 simp only [Std.Legacy.Range.size,Nat.sub_zero,Nat.add_sub_cancel,Nat.div_one]
 have key:∀ (c i:Nat),i+c=m->(forIn (List.range' i c) ((none,PUnit.unit):Option Bool×PUnit) (fun j r=>do
    let a <- part E (as0.map (Value.int .i64)).toArray j
    let b <- part E (bs.map (Value.int .i64)).toArray j
    let q <- Op.equalIn (d+1) E a b
    if (!q)=true then pure (ForInStep.done (some false,PUnit.unit)) else pure (ForInStep.yield (none,PUnit.unit))):Sem (Option Bool×PUnit)).run P w
   = .ok (if as0.drop i=bs.drop i then (none,PUnit.unit) else (some false,PUnit.unit)) w:=by
  intro c
  induction c with
  | zero =>
    intro i hi
    have ea:as0.drop i=[]:=List.drop_eq_nil_of_le (by omega)
    have eb:bs.drop i=[]:=List.drop_eq_nil_of_le (by omega)
    simp [ea,eb]
  | succ c ih =>
    intro i hi
    have la:i<as0.length:=by omega
    have lb:i<bs.length:=by omega
    rw [List.range'_succ,List.forIn_cons]
    simp only [Sem.run_bind,hp as0 i la,hp bs i lb,Result.andThen_ok,run_equalIn_int w d E .i64 .i64 _ _ he]
    have ea:as0.drop i=as0.getD i 0::as0.drop (i+1):=by rw [List.drop_eq_getElem_cons la];simp [List.getD_eq_getElem?_getD,la]
    have eb:bs.drop i=bs.getD i 0::bs.drop (i+1):=by rw [List.drop_eq_getElem_cons lb];simp [List.getD_eq_getElem?_getD,lb]
    by_cases hq:as0.getD i 0=bs.getD i 0
    ·have hq':(as0.getD i 0==bs.getD i 0)=true:=by simpa using hq
     simp only [hq',Bool.not_true,Bool.false_eq_true,if_false,Sem.run_bind,Sem.run_pure,Result.andThen_ok]
     rw [ih (i+1) (by omega),ea,eb]
     simp only [List.cons.injEq,hq,true_and]
    ·have hq':(as0.getD i 0==bs.getD i 0)=false:=by simpa using hq
     simp only [hq',Bool.not_false,if_true,Sem.run_pure,Result.andThen_ok]
     rw [ea,eb]
     simp only [List.cons.injEq,hq,false_and,if_false]
 have h:=key m 0 (by omega)
 simp only [List.drop_zero] at h
 erw [h]
 by_cases hab:as0=bs<;>simp [hab]
structure EqV (P:Program) (T n:Nat):Prop where
 run:∀ (w:World) (as0 bs:List Int),as0.length=n->bs.length=n->(Op.equalIn 10000 T (.agg (as0.map (Value.int .i64)).toArray) (.agg (bs.map (Value.int .i64)).toArray)).run P w=.ok (decide (as0=bs)) w
 g:P.eqGuardType P.depth T=false
theorem EqV.flat {P:Program} {T m A E I0:Nat} {f0 f1:Field} (hu:P.underlying T=some (.struct #[f0,f1])) (t0:f0.type=I0) (hi:P.underlying I0=some (.int .i64)) (o0:f0.offset=0) (t1:f1.type=A) (o1:f1.offset=1) (n0:(f0.name != "_")=true) (n1:(f1.name != "_")=true)
  (ha:P.underlying A=some (.array m E)) (he:P.underlying E=some (.int .i64)) (hs:TI P E 1 false) (hA:TI P A m true) (hp:P.stoodInHeld T=false) (hg:P.eqGuardType P.depth T=false):EqV P T (m+1):=by
 refine ⟨fun w as0 bs h1 h2=>?_,hg⟩
 have hf:P.fieldsOf T=#[f0,f1]:=by simp [Program.fieldsOf,hu]
 rw [run_equalIn_struct w 9999 T _ _ (by rw [hf];exact hu) hp,hf]
 obtain ⟨a,as',rfl⟩:∃ a r,as0=a::r:=by cases as0 with | nil=>simp at h1 | cons a r=>exact ⟨a,r,rfl⟩
 obtain ⟨b,bs',rfl⟩:∃ a r,bs=a::r:=by cases bs with | nil=>simp at h2 | cons a r=>exact ⟨a,r,rfl⟩
 simp only [List.length_cons] at h1 h2
 have q0:f0.name ≠ "_":=by simpa using n0
 have q1:f1.name ≠ "_":=by simpa using n1
 have p0:∀ (x:Int) (l:List Int),(part f0.type ((x::l).map (Value.int .i64)).toArray f0.offset).run P w=.ok (.int .i64 x) w:=fun x l=>by
  simp [part,isAgg,Sem.run_bind,t0,o0,run_underlying hi w]
 have p1:∀ (x:Int) (l:List Int),l.length=m->(part f1.type ((x::l).map (Value.int .i64)).toArray f1.offset).run P w=.ok (.agg (l.map (Value.int .i64)).toArray) w:=fun x l hl=>by
  have:(((x::l).map (Value.int .i64)).toArray.extract 1 (1+m))=(l.map (Value.int .i64)).toArray:=by
   simp only [List.map_cons,List.extract_toArray]
   congr 1
   rw [show (1+m)=m+1 by omega]
   simp only [List.extract_eq_take_drop,List.drop_succ_cons,List.drop_zero,Nat.add_sub_cancel]
   exact List.take_of_length_le (by simp [hl])
  rw [t1,o1]
  simp only [part,Sem.run_bind,hA.run_agg w,Result.andThen_ok,if_true,hA.run_size w,Sem.run_pure,this]
 simp only [Op.eqFields,if_pos q0,if_pos q1,Sem.run_bind,p0,p1 a as' (by omega),p1 b bs' (by omega),Result.andThen_ok]
 have hq:(Op.equalIn 9999 A (.agg (as'.map (Value.int .i64)).toArray) (.agg (bs'.map (Value.int .i64)).toArray)).run P w=.ok (decide (as'=bs')) w:=zrj (d:=9997) ha he hs w as' bs' (by omega) (by omega)
 have p1':=p1
 rw [t1] at p1'
 rw [t0,t1,run_equalIn_int w 9998 I0 .i64 .i64 a b hi]
 simp only [Result.andThen_ok]
 by_cases hab:a=b
 ·subst hab
  simp only [beq_self_eq_true,Bool.not_true,Bool.false_eq_true,if_false,Sem.run_bind,p1' a as' (by omega),p1' a bs' (by omega),Result.andThen_ok,hq,Result.andThen_ok]
  by_cases hr:as'=bs'<;>simp [hr]
 ·have:(a==b)=false:=by simpa using hab
  simp [this,hab]
section
variable {P : Program} {cx : Cx} {n : Nat} {Q : Exit → S → Prop} {regs : List (Nat × AV)} {objs : Obs} {ops : Array Oper} {rest : List Oper} {d : Nat} {pos : String} {aft : Array Edge} {ty : Nat}
theorem x_eqv {op:BinOp} {T yT m:Nat} {x y:Operand} {cs ds:List AV} {as0 bs:List Int} (e:EqV P T m) (hop:op=.eql) (hx:S.ev ⟨regs,objs⟩ x=some (.ag cs)) (hy:S.ev ⟨regs,objs⟩ y=some (.ag ds)) (hi:intq cs=some as0) (hj:intq ds=some bs)
  (h1:Nat.beq as0.length m=true) (h2:Nat.beq bs.length m=true) (hd:Nat.blt d n=true) (kk:AWl P cx n ops rest Q ⟨(d,.p (B (decide (as0=bs))))::regs,objs⟩) :
  AWl P cx n ops (⟨some d,.binOp op T x y yT,ty,pos,aft,none⟩::rest) Q ⟨regs,objs⟩:=by
 subst hop
 refine zm (.p (B (decide (as0=bs)))) rfl rfl (by simpa using hd) (fun a w own r=>?_) kk
 have hx':=r.ev hx;have hy':=r.ev hy
 rw [zc8 hi] at hx';rw [zc8 hj] at hy'
 refine ⟨.bool (decide (as0=bs)),?_,.scal rfl⟩
 simp only [execOp,hx'.ints,hy'.ints,Sem.run_bind,run_eqGuard_agg w .eql T _ _ _ _ e.g,run_eql_struct,Result.andThen_ok,e.run w as0 bs (Nat.eq_of_beq_eq_true h1) (Nat.eq_of_beq_eq_true h2),Sem.run_pure]
end
section
variable {P : Program} {T src dst : Nat} {x y : Operand} {a b n : Int} {k k' : IntKind}
theorem zzk (h0:0<=b/\b<=64):∀ w,(do eqGuard .shr T x y (.int .i64 a) (.int k' b);binOp .shr T (.int .i64 a) (.int k' b):Sem Value).run P w=.ok (.int .i64 (a / 2 ^ b.toNat)) w:=fun w=>by
 have h1:(eqGuard .shr T x y (.int .i64 a) (.int k' b)).run P w=.ok () w:=rfl
 have h2:binOp .shr T (.int .i64 a) (.int k' b)=Op.shift .shr .i64 a k' b:=rfl
 simp only [Sem.run_bind,h1,h2,Result.andThen_ok]
 rw [shift_shr .i64 k' a b h0.1 (by simp [IntKind.bits];omega)]
 rfl
theorem zrk (n:Int) (h₀:0<=n) (h₁:n<2 ^ 63):IntKind.i64.wrap n=n:=by rw [IntKind.wrap_i64];omega
theorem zwb (h0:0<=a/\a<9223372036854775808):∀ w,(do eqGuard .and T x y (.int .i64 a) (.int .i64 1);binOp .and T (.int .i64 a) (.int .i64 1):Sem Value).run P w=.ok (.int .i64 (a % 2)) w:=fun w=>by
 have h1:(eqGuard .and T x y (.int .i64 a) (.int .i64 1)).run P w=.ok () w:=rfl
 have h2:binOp .and T (.int .i64 a) (.int .i64 1)=Op.intBits .and .i64 a 1:=rfl
 simp only [Sem.run_bind,h1,h2,Result.andThen_ok]
 have h3:=bits_mask .i64 63 (by decide) zrk 1 (by decide) a h0.1 (by omega)
 simp only [Op.intBits]
 have h4:bits .and .i64 a 1=a % 2:=by simpa using h3
 unfold bits at h4
 simp only at h4
 rw [h4];rfl
theorem zz1s {d:TypeDesc} (hs:P.underlying src=some d) (hd:P.underlying dst=some (.int .u64)) (h:0<=n/\n<=9223372036854775807):∀ w,(convert src dst (.int k' n)).run P w=.ok (.int .u64 n) w:=fun w=>by
 rw [zri hs hd w]
 have:IntKind.u64.wrap n=n:=by simp [IntKind.wrap,IntKind.bits,IntKind.signed];omega
 rw [this]
end
section
variable {P : Program} {cx : Cx} {n : Nat} {ops : Array Oper} {md : Region.Mode}
end
theorem Le.objs {P:Program} {cx:Cx} {n:Nat} {regs:Regs} {objs objs':Obs} (ho:LeO objs objs') (hn:z4j (objs'.map (·.1))=true):Le P cx n ⟨regs,objs⟩ ⟨regs,objs'⟩:=fun a w ⟨own,r⟩=>by
 obtain ⟨hok,hle⟩:=r.ok.part ho.mem (z1r hn) cx.M0 (fun b i h=>.inl h) (fun k o b hk hb=>r.ok.m0 k o b (ho.mem _ hk) hb)
 refine ⟨own,{ defs:=r.defs,size:=r.size,ok:=hok,regs:=fun t y hy=>(r.regs t y hy).part r.ok ho.mem hle,stp:=r.stp.less hle,fix:=fun k o hk=>(r.fix k o hk).trans ?_,fr:=⟨r.fr.keep,fun k o b hk hb=>r.fr.loc k o b (ho.mem _ hk) hb,r.fr.size⟩ }⟩
 cases h3:hwOf objs' k with
 | none=>exact .inr (.inl ⟨h3,.inl rfl⟩)
 | some m =>
   obtain ⟨oo,hm,hwi⟩:=z2g h3
   exact .inl ⟨rfl,by rw [h3,z3a r.ok.keys (ho.mem _ hm) hwi]⟩
section
variable {P : Program} {cx : Cx} {n : Nat} {ops : Array Oper} {gens exs : List Nat} {keys : List (Nat × Nat)} {och : List Nat → Obs} {E : Regs → Prop} {o : Oper} {rest : List Oper} {regs : Regs} {k : Nat}
end
section
variable {P : Program} {cx : Cx} {n : Nat} {Q : Exit → S → Prop} {regs : List (Nat × AV)} {objs : Obs} {ops : Array Oper} {rest : List Oper} {d : Nat} {pos : String} {aft : Array Edge} {ty : Nat}
theorem zkt {t f:Nat} {l:Array Operand} {ts:Array Nat} (ht:get regs t=some (.p (.fn (.func f) [] [])))
  (h:AWl P cx n ops (⟨some d,.call ⟨.value (.func f),l,ts⟩,ty,pos,aft,none⟩::rest) Q ⟨regs,objs⟩) :
  AWl P cx n ops (⟨some d,.call ⟨.value (.tmp t),l,ts⟩,ty,pos,aft,none⟩::rest) Q ⟨regs,objs⟩:=fun a w ⟨own,r⟩=>by
 have hv:a.tmps.getD t undef=.func (.func f) #[] #[]:=by
  have h1:=r.regs t _ ht
  generalize a.tmps.getD t undef=u at h1
  cases h1 with
  | p h1 =>
    cases h1 with
    | fn vf vc hf hc _ _ =>
      obtain rfl:=List.eq_nil_of_length_eq_zero hf
      obtain rfl:=List.eq_nil_of_length_eq_zero hc
      rfl
 have he:execOp a.eval ⟨some d,.call ⟨.value (.tmp t),l,ts⟩,ty,pos,aft,none⟩=execOp a.eval ⟨some d,.call ⟨.value (.func f),l,ts⟩,ty,pos,aft,none⟩:=by
  simp only [execOp,resolve,Act.eval,hv]
 have h':=h a w ⟨own,r⟩
 unfold wpList at h' ⊢
 rw [if_pos (by simp [Region.wanted])] at h' ⊢
 rcases h' with h' | ⟨h1,h2⟩
 ·left
  unfold Oper.wp at h' ⊢
  rw [he];exact h'
 ·right
  refine ⟨?_,h2⟩
  unfold Oper.asks at h1 ⊢
  rw [he];exact h1
theorem Le.tokO {k0 T j:Nat} {cs cs':List AV} {regs:List (Nat×AV)} {objs objs':Obs} (k E sz:Nat) (hk:get objs k0=some (.ce T cs)) (hj:cs[j]?=some (.p nilS)) (hc:cs'=cs.set j (.ts k sz [])) (ho:objs'=setO objs k0 (.ce T cs')) (hf:fresh k ⟨regs,objs⟩=true) (h0:get cx.objs0 k=none) :
  Le P cx n ⟨regs,objs⟩ ⟨regs,(k,.ar E sz 0)::objs'⟩:=fun a w ⟨own,r⟩=>by
 obtain ⟨r',hM,hkr⟩:=r.newTok k E sz hf h0
 have hmem:=zu hk
 subst ho hc
 simp only [fresh,Bool.and_eq_true] at hf
 have hne:k0≠k:=(zl hf.2 _ _ hmem).1
 have hn:=r.ok.keys
 have hmem2:(k0,Ob.ce T (cs.set j (.ts k sz [])))∈setO objs k0 (.ce T (cs.set j (.ts k sz []))):=z2c hk
 have hMu:∀ ow,Mu cx.M0 ow ((k,.ar E sz 0)::setO objs k0 (.ce T (cs.set j (.ts k sz []))))=Mu cx.M0 ow ((k,.ar E sz 0)::objs):=fun ow=>by
  funext b i
  apply propext
  constructor
  ·rintro (h | ⟨q,o,hq,hm⟩)
   ·exact .inl h
   ·rcases List.mem_cons.1 hq with e | e
    ·exact .inr ⟨q,o,by rw [e];exact List.mem_cons_self ..,hm⟩
    ·rcases zp hn e with ⟨rfl,rfl⟩ | ⟨_,h2⟩
     ·exact .inr ⟨q,_,List.mem_cons_of_mem _ hmem,hm⟩
     ·exact .inr ⟨q,o,List.mem_cons_of_mem _ h2,hm⟩
  ·rintro (h | ⟨q,o,hq,hm⟩)
   ·exact .inl h
   ·rcases List.mem_cons.1 hq with e | e
    ·exact .inr ⟨q,o,by rw [e];exact List.mem_cons_self ..,hm⟩
    ·by_cases hqk:q=k0
     ·subst hqk
      obtain rfl:o=.ce T cs:=by have:=z1c hn e;rw [hk] at this;exact (Option.some.inj this).symm
      exact .inr ⟨q,_,List.mem_cons_of_mem _ hmem2,hm⟩
     ·exact .inr ⟨q,o,List.mem_cons_of_mem _ (z2v hqk e),hm⟩
 have hhw:hwOf ((k,Ob.ar E sz 0)::setO objs k0 (.ce T (cs.set j (.ts k sz []))))=hwOf ((k,.ar E sz 0)::objs):=by
  funext q
  have h1:=z3p (T':=T) (cs':=cs.set j (.ts k sz [])) hk q
  unfold hwOf at h1 ⊢
  simp only [get]
  cases Nat.beq k q with
  | true=>rfl
  | false=>exact h1
 have hk1:(k,Ob.ar E sz 0)∈(k,Ob.ar E sz 0)::objs:=List.mem_cons_self ..
 refine ⟨_,{ defs:=r'.defs,size:=r'.size,ok:=?_,regs:=fun q y hq=>by rw [hMu,hhw];exact r'.regs q y hq,stp:=by rw [hMu];exact r'.stp,fix:=fun q o hq=>by rw [hhw];exact r'.fix q o hq,fr:=⟨r'.fr.keep,fun q o b hq hb=>?_,r'.fr.size⟩ }⟩
 ·refine { obs:=fun q o hq=>?_,keys:=?_,inj:=fun q o q' o' hq hq' hqq b hb hb'=>?_,m0:=fun q o b hq hb=>?_,m0old:=r'.ok.m0old }
  ·rw [hMu,hhw]
   rcases List.mem_cons.1 hq with e | e
   ·cases e;exact r'.ok.obs k _ (List.mem_cons_self ..)
   ·rcases zp hn e with ⟨rfl,rfl⟩ | ⟨_,h2⟩
    ·obtain ⟨b,vals,e1,e2,e3,e4⟩:=r'.ok.obs q _ (List.mem_cons_of_mem _ hmem)
     refine ⟨b,vals,e1,e2,by simpa using e3,fun i x hi=>?_⟩
     by_cases hij:j=i
     ·subst hij
      have hjl:j<cs.length:=(List.getElem?_eq_some_iff.1 hj).1
      rw [List.getElem?_set_self hjl] at hi
      cases hi
      have hv:=(e4 j _ hj).2.val
      rw [hv]
      refine ⟨rfl,.ts .nil fun m hm=>?_⟩
      have:hwOf ((k,Ob.ar E sz 0)::objs) k=some 0:=by simp [hwOf,get,Nat.beq_refl]
      rw [this] at hm;cases hm
      exact ⟨Nat.le_refl _,fun _=>by rw [zh]⟩
     ·rw [List.getElem?_set_ne hij] at hi
      exact e4 i x hi
    ·exact r'.ok.obs q o (List.mem_cons_of_mem _ h2)
  ·have:=r'.ok.keys
   simpa [z1m] using this
  ·have key:∀ q o,(q,o)∈(k,Ob.ar E sz 0)::setO objs k0 (.ce T (cs.set j (.ts k sz [])))->∃ o',(q,o')∈(k,Ob.ar E sz 0)::objs:=fun q o hq=>by
    rcases List.mem_cons.1 hq with e | e
    ·exact ⟨o,by rw [e];exact List.mem_cons_self ..⟩
    ·rcases zp hn e with ⟨rfl,rfl⟩ | ⟨_,h2⟩
     ·exact ⟨_,List.mem_cons_of_mem _ hmem⟩
     ·exact ⟨o,List.mem_cons_of_mem _ h2⟩
   obtain ⟨o1,h1⟩:=key q o hq
   obtain ⟨o2,h2⟩:=key q' o' hq'
   exact r'.ok.inj q o1 q' o2 h1 h2 hqq b hb hb'
  ·rcases List.mem_cons.1 hq with e | e
   ·exact r'.ok.m0 q o b (by rw [e];exact List.mem_cons_self ..) hb
   ·rcases zp hn e with ⟨rfl,rfl⟩ | ⟨_,h2⟩
    ·exact r'.ok.m0 q _ b (List.mem_cons_of_mem _ hmem) hb
    ·exact r'.ok.m0 q o b (List.mem_cons_of_mem _ h2) hb
 ·rcases List.mem_cons.1 hq with e | e
  ·exact r'.fr.loc q o b (by rw [e];exact List.mem_cons_self ..) hb
  ·rcases zp hn e with ⟨rfl,rfl⟩ | ⟨_,h2⟩
   ·exact r'.fr.loc q _ b (List.mem_cons_of_mem _ hmem) hb
   ·exact r'.fr.loc q o b (List.mem_cons_of_mem _ h2) hb
end
section
variable {P : Program} {cx : Cx} {n : Nat} {ops : Array Oper} {gens exs : List Nat} {keys : List (Nat × Nat)} {och : List Nat → Obs} {E : Regs → Prop} {rest : List Oper} {regs : Regs} {k : Nat}
end
section
variable {P : Program} {T : Nat} {x y : Operand} {a b : Int}
theorem zzl (h:0<=a/\a<=9223372036854775807/\0<b/\b<=9223372036854775807):∀ w,(do eqGuard .rem T x y (.int .i64 a) (.int .i64 b);binOp .rem T (.int .i64 a) (.int .i64 b):Sem Value).run P w=.ok (.int .i64 (a % b)) w:=fun w=>by
 have h1:(eqGuard .rem T x y (.int .i64 a) (.int .i64 b)).run P w=.ok () w:=rfl
 have h2:binOp .rem T (.int .i64 a) (.int .i64 b)=Op.intDiv .rem .i64 a b:=rfl
 have hb:¬ b=0:=by omega
 simp only [Sem.run_bind,h1,h2,Result.andThen_ok,Op.intDiv]
 have e1:a.tmod b=a % b:=Int.tmod_eq_emod_of_nonneg h.1
 rw [if_neg hb,e1];rfl
end
section
variable {P : Program} {cx : Cx} {n : Nat} {Q : Exit → S → Prop} {regs : List (Nat × AV)} {objs : Obs} {ops : Array Oper} {rest : List Oper} {d : Nat} {pos : String} {aft : Array Edge} {ty : Nat}
end
section
variable {P : Program} {T : Nat} {x y : Operand} {a b : Int}
theorem zzm (h:0<=a/\a<=9223372036854775807/\0<b/\b<=9223372036854775807):∀ w,(do eqGuard .quo T x y (.int .i64 a) (.int .i64 b);binOp .quo T (.int .i64 a) (.int .i64 b):Sem Value).run P w=.ok (.int .i64 (a / b)) w:=fun w=>by
 have h1:(eqGuard .quo T x y (.int .i64 a) (.int .i64 b)).run P w=.ok () w:=rfl
 have h2:binOp .quo T (.int .i64 a) (.int .i64 b)=Op.intDiv .quo .i64 a b:=rfl
 have hb:¬ b=0:=by omega
 have e1:a.tdiv b=a / b:=Int.tdiv_eq_ediv_of_nonneg h.1
 have h3:0<=a / b:=Int.ediv_nonneg h.1 (by omega)
 have h4:a / b<=a:=Int.ediv_le_self b h.1
 simp only [Sem.run_bind,h1,h2,Result.andThen_ok,Op.intDiv]
 rw [if_neg hb,e1]
 have:IntKind.i64.wrap (a / b)=a / b:=z8l ⟨by omega,by omega⟩
 simp [this]
end
section
variable {P : Program} {cx : Cx} {n : Nat} {Q : Exit → S → Prop} {regs : List (Nat × AV)} {objs : Obs} {ops : Array Oper} {rest : List Oper} {d : Nat} {pos : String} {aft : Array Edge} {ty : Nat}
end
theorem Sub.fs {lo T:Nat} {x:PV}:Sub (.p (.fs lo T x)) (.p x):=fun _ _ _ _ _ h=>by
 cases h with | p h=>cases h with | fs h _=>exact .p h
theorem Le.fr {P:Program} {cx:Cx} {n:Nat} {regs:List (Nat×AV)} {objs:Obs} {t k T sz m lo:Nat} {xs:List (List PV)} (hcx:cx.objs0=[]) (hlo:lo<=cx.w0.heap.size) (ht:get regs t=some (.ts k sz xs)) (hk:get objs k=some (.ar T sz m)) (hm:m=xs.length) :
  Le P cx n ⟨regs,objs⟩ ⟨(t,.p (.fs lo T (.sl sz xs)))::regs,objs⟩:=fun a w ⟨own,r⟩=>by
 refine ⟨own,{ defs:=r.defs,size:=r.size,ok:=r.ok,regs:=fun u x hx=>?_,stp:=r.stp,fix:=r.fix,fr:=r.fr }⟩
 simp only [get] at hx
 cases hb:Nat.beq t u with
 | false=>rw [hb] at hx;exact r.regs u x hx
 | true =>
   obtain rfl:t=u:=Nat.eq_of_beq_eq_true hb
   rw [hb] at hx
   simp at hx
   subst hx
   have h:=r.regs t _ ht
   have hmem:=zu hk
   have hw:hwOf objs k=some m:=by simp [hwOf,hk]
   obtain ⟨cells,hc⟩:=r.ok.obs k _ hmem
   generalize a.tmps.getD t undef=v at h
   cases h with
   | ts h ho =>
     have hv:=(ho m hw).2 hm.symm
     refine .p (.fs h ?_)
     rcases hc.2 with ⟨h1,_⟩ | ⟨g,cap,cur,h1,_,h2,_⟩
     ·exact .inl (by rw [hv,h1])
     ·refine .inr ⟨g,m,cap,cur,by rw [hv,h1],?_,h2⟩
      rcases r.fr.loc k _ g hmem (by rw [h1];rfl) with ⟨_,_,hq,_⟩ | hq
      ·rw [hcx] at hq;cases hq
      ·omega
abbrev MPost:=Exit->Act->World->Prop
section
variable {P : Program} {cx : Cx} {n : Nat} {K : MPost} {s : S}
end
structure LkOK (cx0 cx1:Cx):Prop where
 stp:Stp cx0.w0 cx0.M cx1.w0 cx1.M
 fr:Fr cx0.w0 cx0.own0 cx0.objs0 cx1.w0 cx1.own0 cx1.objs0
 m0:∀ b i,cx0.M0 b i->cx1.M0 b i
 o0:cx0.objs0=[]
theorem LkOK.rl {P:Program} {cx0 cx1:Cx} {n:Nat} {s:S} {a:Act} {w:World} {own:Nat->Value} (lk:LkOK cx0 cx1) (r:Rl P cx1 n s a w own):Rl P cx0 n s a w own:=by
 have hp:=r.ok.part (fun x h=>h) r.ok.keys cx0.M0 (fun b i h=>.inl (lk.m0 b i h)) (fun k o b hk hb i h=>r.ok.m0 k o b hk hb i (lk.m0 b i h))
 exact { defs:=r.defs,size:=r.size,ok:=hp.1,regs:=fun t x hx=>(r.regs t x hx).tr_same ((Stp.refl w _).less hp.2),
         stp:=(lk.stp.trans r.stp).less hp.2,fix:=fun k o h=>(by rw [lk.o0] at h;cases h),fr:=lk.fr.trans r.fr }
theorem LkOK.rel {P:Program} {cx0 cx1:Cx} {n:Nat} {s:S} {a:Act} {w:World} (lk:LkOK cx0 cx1) (r:Rel P cx1 n s a w):Rel P cx0 n s a w:=by
 obtain ⟨own,r⟩:=r;exact ⟨own,lk.rl r⟩
structure JF (cx0 cx1:Cx) (lo:Nat):Prop where
 lk:LkOK cx0 cx1
 m:∀ b i,cx1.M0 b i↔cx0.M0 b i\/(lo<=b/\b<cx1.w0.heap.size)
 low:cx0.w0.heap.size<=lo
 obs:∀ k o b,(k,o)∈cx1.objs0->blk (cx1.own0 k)=some b->b<lo
section
variable {P : Program} {cx : Cx} {n : Nat} {K : MPost} {regs : List (Nat × AV)} {objs : Obs} {ops : Array Oper} {rest : List Oper} {d : Nat} {pos : String} {aft : Array Edge} {ty f : Nat} {l : List Operand} {ts : Array Nat}
structure WS (lo hi:Nat) (I:World->Prop) (w w':World):Prop where
 os:w'.os=w.os
 tape:w'.tape=w.tape
 output:w'.output=w.output
 size:w.heap.size<=w'.heap.size
 keep:∀ b,b<w.heap.size->b<lo\/hi<=b->w'.heap[b]?=w.heap[b]?
 shape:∀ (b:Nat) (cs:Array Value) (T:Nat),w.heap[b]?=some (Obj.cells cs T (0,0))->∃ cs':Array Value,w'.heap[b]?=some (Obj.cells cs' T (0,0))
 inv:I w'
end
structure Wr (lo hi:Nat) (w:World) (own:Nat->Value) (objs:Obs) (w':World) (own':Nat->Value) (objs':Obs):Prop where
 os:w'.os=w.os
 tape:w'.tape=w.tape
 output:w'.output=w.output
 size:w.heap.size<=w'.heap.size
 keep:∀ b,b<w.heap.size->b<lo\/hi<=b->(∀ k o,(k,o)∈objs->blk (own k)≠some b)->w'.heap[b]?=w.heap[b]?
 loc:∀ k o b,(k,o)∈objs'->blk (own' k)=some b->(∃ k' o',(k',o')∈objs/\blk (own k')=some b)\/w.heap.size<=b
 shape:∀ (b:Nat) (cs:Array Value) (T:Nat),w.heap[b]?=some (Obj.cells cs T (0,0))->∃ cs':Array Value,w'.heap[b]?=some (Obj.cells cs' T (0,0))
theorem Wr.trans {lo hi:Nat} {w w1 w2:World} {own own1 own2:Nat->Value} {objs objs1 objs2:Obs} (h:Wr lo hi w own objs w1 own1 objs1) (k:Wr lo hi w1 own1 objs1 w2 own2 objs2):Wr lo hi w own objs w2 own2 objs2 where
 os:=k.os.trans h.os
 tape:=k.tape.trans h.tape
 output:=k.output.trans h.output
 size:=Nat.le_trans h.size k.size
 keep b hb hj hn:=by
  rw [k.keep b (Nat.lt_of_lt_of_le hb h.size) hj (fun j o hj' he=>?_),h.keep b hb hj hn]
  rcases h.loc j o b hj' he with ⟨j',o',h1,h2⟩ | h1
  ·exact hn j' o' h1 h2
  ·omega
 loc j o b hj he:=by
  rcases k.loc j o b hj he with ⟨j',o',h1,h2⟩ | h1
  ·exact h.loc j' o' b h1 h2
  ·exact .inr (Nat.le_trans h.size h1)
 shape b cs T hb:=by
  obtain ⟨cs',h'⟩:=h.shape b cs T hb
  exact k.shape b cs' T h'
section
variable {P : Program} {cx : Cx} {n : Nat} {K : MPost} {regs : List (Nat × AV)} {objs : Obs} {ops : Array Oper} {rest : List Oper} {d : Nat} {pos : String} {aft : Array Edge} {ty f : Nat} {l : List Operand} {ts : Array Nat} {lo hi : Nat}
end
section
variable {P : Program} {cx : Cx} {n : Nat} {Q : Exit → S → Prop} {regs : List (Nat × AV)} {objs : Obs} {ops : Array Oper} {rest : List Oper} {d : Nat} {pos : String} {aft : Array Edge} {ty : Nat}
end
section
variable {P : Program} {cx : Cx} {n : Nat} {K : MPost} {s : S}
end
theorem Rl.remu {P:Program} {cx:Cx} {n:Nat} {s:S} {a:Act} {w w':World} {own:Nat->Value} (r:Rl P cx n s a w own) {k T sz ver ver':Nat} {xs xs':List (List PV)} {v':Value} {cells':List Value}
  (hk:get s.objs k=some (.mu T sz ver xs)) (hver:ver<=ver') (hsame:ver'=ver->v'=own k) (hown:w'.ownsRow 0 T sz v' xs'.length cells') (hrow:∀ row∈xs',row.length=sz)
  (hos:w'.os=w.os) (htp:w'.tape=w.tape) (hou:w'.output=w.output) (hsize:w.heap.size<=w'.heap.size) (hkeep:∀ b,b<w.heap.size->blk (own k)≠some b->w'.heap[b]?=w.heap[b]?)
  (hblk:∀ b,blk v'=some b->blk (own k)=some b\/w.heap.size<=b) (hshape:∀ b cs,blk (own k)=some b->w.heap[b]?=some (Obj.cells cs T (0,0))->∃ cs':Array Value,w'.heap[b]?=some (Obj.cells cs' T (0,0)))
  (hcells:Stp w (Mu cx.M0 own s.objs) w' (Mu cx.M0 (upd own k v') (setO s.objs k (.mu T sz ver' xs')))->∀ (i:Nat) (row:List PV) (j:Nat) (x:PV),xs'[i]?=some row->row[j]?=some x->Rep w' (Mu cx.M0 (upd own k v') (setO s.objs k (.mu T sz ver' xs'))) x (cells'.getD (i * sz+j) undef)) :
  Rl P cx n ⟨s.regs,setO s.objs k (.mu T sz ver' xs')⟩ a w' (upd own k v')/\Stp w (Mu cx.M0 own s.objs) w' (Mu cx.M0 (upd own k v') (setO s.objs k (.mu T sz ver' xs'))):=by
 have hmem:=zu hk
 obtain ⟨cells,hc,_,_⟩:=r.ok.obs k _ hmem
 have hM:∀ b i,Mu cx.M0 (upd own k v') (setO s.objs k (.mu T sz ver' xs')) b i->Mu cx.M0 own s.objs b i\/w.heap.size<=b:=by
  rintro b i (h | ⟨j,o,hj,hmu⟩)
  ·exact .inl (.inl h)
  ·rcases zp r.ok.keys hj with ⟨rfl,rfl⟩ | ⟨hne,h⟩
   ·rw [zh] at hmu
    rcases hblk b hmu with h3 | h3
    ·exact .inl (.inr ⟨j,_,hmem,h3⟩)
    ·exact .inr h3
   ·rw [ze _ _ hne] at hmu
    exact .inl (.inr ⟨j,o,h,hmu⟩)
 have hs : Stp w (Mu cx.M0 own s.objs) w' (Mu cx.M0 (upd own k v') (setO s.objs k (.mu T sz ver' xs'))) :=
  {os := hos,tape:=htp,output:=hou,size:=hsize
   cell:=fun b i u hmu hu=>by
    by_cases hb:blk (own k)=some b
    ·exact absurd (Or.inr ⟨k,_,hmem,hb⟩) hmu
    ·rw [World.cell?_of_block (w:=w) (hkeep b (World.block_lt_of_cell? w _ hu) hb)];exact hu
   mu:=hM
   shape := fun b cs T' hb=>by
    by_cases hbk:blk (own k)=some b
    ·rcases hc.2 with ⟨h5,_⟩ | ⟨g',cap',cur',h5,_,h6,_⟩
     ·rw [h5] at hbk;simp [blk] at hbk
     ·rw [h5] at hbk
      simp only [blk,Option.some.injEq] at hbk
      subst hbk
      rw [hb] at h6
      injection h6 with h6
      injection h6 with _ h7 _
      subst h7
      exact hshape g' cs (by rw [h5];rfl) hb
    ·exact ⟨cs,by rw [hkeep b (Array.getElem?_eq_some_iff.1 hb).1 hbk];exact hb⟩ }
 have hw1:hwOf s.objs k=some ver:=by unfold hwOf;rw [hk]
 have hw2:hwOf (setO s.objs k (.mu T sz ver' xs')) k=some ver':=by unfold hwOf;rw [z1d,hk];simp
 have hkr:∀ j,Kr own (upd own k v') (hwOf s.objs) (hwOf (setO s.objs k (.mu T sz ver' xs'))) j:=fun j=>by
  by_cases e:j=k
  ·subst e
   by_cases e:ver'=ver
   ·exact .inl ⟨by rw [zh];exact hsame e,by rw [hw1,hw2,e]⟩
   ·refine .inr (.inr ⟨ver,ver',hw1,hw2,by omega,fun q hq=>?_⟩)
    rcases hc.2 with ⟨h3,_⟩ | ⟨_,_,_,h3,_⟩<;>rw [hq] at h3<;>cases h3
  ·refine .inl ⟨ze _ _ e,?_⟩
   unfold hwOf
   rw [z1d]
   have:Nat.beq k j=false:=by
    cases h:Nat.beq k j with
    | false=>rfl
    | true=>exact absurd (Nat.eq_of_beq_eq_true h).symm e
   rw [this];rfl
 refine ⟨{ defs:=r.defs,size:=r.size,ok:=?_,regs:=fun t x hx=>(r.regs t x hx).tr hs fun j _=>hkr j,stp:=r.stp.trans hs,fix:=fun j o hm=>(r.fix j o hm).trans (hkr j),fr:=r.fr.trans ⟨fun b hb hn=>hkeep b hb (hn k _ hmem),fun j o b hj hb=>?_,hsize⟩ },hs⟩
 ·refine { obs:=fun j o hj=>?_,keys:=by rw [z1m];exact r.ok.keys,inj:=?_,m0:=?_,m0old:=fun b i h=>Nat.lt_of_lt_of_le (r.ok.m0old b i h) hsize }
  ·rcases zp r.ok.keys hj with ⟨rfl,rfl⟩ | ⟨hne,h⟩
   ·exact ⟨cells',by rw [zh];exact hown,hrow,hcells hs⟩
   ·have hfar:∀ b,blk (own j)=some b->w'.heap[b]?=w.heap[b]?:=fun b hb =>
     hkeep b (z2p r.ok h hb) fun e=>r.ok.inj k _ j o hmem h (Ne.symm hne) b e hb
    have h1:=r.ok.obs j o h
    cases o with
    | ce T' cs =>
      obtain ⟨b,vals,e1,e2,e3,e4⟩:=h1
      exact ⟨b,vals,by rw [ze _ _ hne];exact e1,by rw [hfar b (by rw [e1];rfl)];exact e2,e3,fun i x hi=>⟨(e4 i x hi).1,(e4 i x hi).2.tr hs fun q _=>hkr q⟩⟩
    | ar T' sz' q =>
      obtain ⟨cs,e⟩:=h1
      exact ⟨cs,by rw [ze _ _ hne];exact zo e hfar⟩
    | mu T' sz' q ys =>
      obtain ⟨cs,e,e2,e3⟩:=h1
      exact ⟨cs,by rw [ze _ _ hne];exact zo e hfar,e2,fun i row j x hi hj=>(e3 i row j x hi hj).stp hs⟩
    | mp ver l =>
      show MpOK _ _ _
      rw [ze _ _ hne];exact MpOK.keep h1 hfar
  ·intro j o j' o' hj hj' hne b hb hb'
   have g:∀ {j o},(j,o)∈setO s.objs k (.mu T sz ver' xs')->j≠k->(j,o)∈s.objs:=fun {j o} hj hne=>by
    rcases zp r.ok.keys hj with ⟨rfl,_⟩ | ⟨_,h⟩
    ·exact absurd rfl hne
    ·exact h
   by_cases e:j=k
   ·subst e
    have h':=g hj' (Ne.symm hne)
    rw [zh] at hb
    rw [ze _ _ (Ne.symm hne)] at hb'
    rcases hblk b hb with h3 | h3
    ·exact r.ok.inj j _ j' o' hmem h' hne b h3 hb'
    ·have:=z2p r.ok h' hb';omega
   ·have h1:=g hj e
    rw [ze _ _ e] at hb
    by_cases e':j'=k
    ·subst e'
     rw [zh] at hb'
     rcases hblk b hb' with h3 | h3
     ·exact r.ok.inj j' _ j o hmem h1 (Ne.symm hne) b h3 hb
     ·have:=z2p r.ok h1 hb;omega
    ·rw [ze _ _ e'] at hb'
     exact r.ok.inj j o j' o' h1 (g hj' e') hne b hb hb'
  ·intro j o b hj hb i hm0
   rcases zp r.ok.keys hj with ⟨rfl,rfl⟩ | ⟨hne,h⟩
   ·rw [zh] at hb
    rcases hblk b hb with h3 | h3
    ·exact r.ok.m0 j _ b hmem h3 i hm0
    ·have:=r.ok.m0old b i hm0;omega
   ·rw [ze _ _ hne] at hb
    exact r.ok.m0 j o b h hb i hm0
 ·rcases zp r.ok.keys hj with ⟨rfl,rfl⟩ | ⟨hne,h⟩
  ·rw [zh] at hb
   rcases hblk b hb with h3 | h3
   ·exact .inl ⟨j,_,hmem,h3⟩
   ·exact .inr h3
  ·rw [ze _ _ hne] at hb
   exact .inl ⟨j,o,h,hb⟩
theorem Rl.tm_val {P:Program} {cx:Cx} {n:Nat} {s:S} {a:Act} {w:World} {own:Nat->Value} (r:Rl P cx n s a w own) {k T sz ver:Nat} {xs:List (List PV)} {v:Value} (hk:get s.objs k=some (.mu T sz ver xs)) (h:RepA w (Mu cx.M0 own s.objs) own (hwOf s.objs) (.tm k ver) v):v=own k:=by
 cases h with
 | tm h1 ho=>exact (ho ver (by unfold hwOf;rw [hk])).2 rfl
theorem Rl.mu_own {P:Program} {cx:Cx} {n:Nat} {s:S} {a:Act} {w:World} {own:Nat->Value} (r:Rl P cx n s a w own) {k T sz ver:Nat} {xs:List (List PV)} (hk:get s.objs k=some (.mu T sz ver xs)) :
 ∃ cells,w.ownsRow 0 T sz (own k) xs.length cells/\(∀ row∈xs,row.length=sz)/\∀ (i:Nat) (row:List PV) (j:Nat) (x:PV),xs[i]?=some row->row[j]?=some x->Rep w (Mu cx.M0 own s.objs) x (cells.getD (i * sz+j) undef):=r.ok.obs k _ (zu hk)
theorem z7r {w:World} {T sz m:Nat} {v:Value} {cells:List Value} (h:w.ownsRow 0 T sz v m cells):∃ ad cap,v=.slice ad m cap/\m<=cap/\cap<=9223372036854775807:=by
 rcases h.2 with ⟨rfl,rfl⟩ | ⟨g,cap,cur,rfl,_,_,h1,h2,_⟩
 ·exact ⟨none,0,rfl,Nat.le_refl _,by omega⟩
 ·exact ⟨_,cap,rfl,h1,by simp only [maxLen] at h2;omega⟩
section
variable {P : Program} {cx : Cx} {n : Nat} {Q : Exit → S → Prop} {regs : List (Nat × AV)} {objs : Obs} {ops : Array Oper} {rest : List Oper} {d : Nat} {pos : String} {aft : Array Edge} {ty : Nat}
theorem zrl {T E rty k T' sz ver:Nat} {x:Operand} {xs:List (List PV)} (si:SI P T E) (hx:S.ev ⟨regs,objs⟩ x=some (.tm k ver)) (hk:get objs k=some (.mu T' sz ver xs)) (hd:Nat.blt d n=true)
  (kk:xs.length<=9223372036854775807->AWl P cx n ops rest Q ⟨(d,.p (I xs.length))::regs,objs⟩) :
  AWl P cx n ops (⟨some d,.call ⟨.builtin .len,#[x],#[T]⟩,rty,pos,aft,none⟩::rest) Q ⟨regs,objs⟩:=fun a0 w0 ⟨own0,r0⟩=>by
 obtain ⟨cells0,hc0,_⟩:=r0.mu_own hk
 obtain ⟨_,_,_,hle,hmax⟩:=z7r hc0
 refine zm (.p (I xs.length)) rfl rfl (by simpa using hd) (fun a w own r=>?_) (kk (Nat.le_trans hle hmax)) a0 w0 ⟨own0,r0⟩
 have hv:=r.tm_val hk (r.ev hx)
 obtain ⟨cells,hc,_⟩:=r.mu_own hk
 obtain ⟨ad,cap,e,_,_⟩:=z7r hc
 have hel:P.underlying T=some (.slice (P.elem T)):=by simp [Program.elem,si.h]
 refine ⟨.int .i64 xs.length,?_,.scal rfl⟩
 simp only [execOp,resolve,invoke,builtin,Sem.run_bind,Sem.run_pure,Result.andThen_ok,List.map_toArray,List.map_cons,List.map_nil,hv,e]
 rw [run_len_slice w T rty ad xs.length cap hel]
 rfl
theorem zku {T E sz k ver:Nat} {ag:Bool} {x y:Operand} {xs:List (List PV)} {kd:IntKind} {i:Int} (si:SI P T E) (ti:TI P E sz ag) (hx:S.ev ⟨regs,objs⟩ x=some (.tm k ver)) (hk:get objs k=some (.mu E sz ver xs))
  (hy:S.ev ⟨regs,objs⟩ y=some (.p (.v (.int kd i)))) (h0:0<=i) (h1:i<(xs.length:Int)) (hd:Nat.blt d n=true)
  (kk:AWl P cx n ops rest Q ⟨(d,.pe k ver (i.toNat * sz+0))::regs,objs⟩):AWl P cx n ops (⟨some d,.indexAddr T x y,ty,pos,aft,none⟩::rest) Q ⟨regs,objs⟩ :=
 zm (.pe k ver (i.toNat * sz+0)) rfl rfl (by simpa using hd) (fun a w own r=>by
  have hv:=r.tm_val hk (r.ev hx)
  have hvy:=(r.ev hy).val
  obtain ⟨cells,hc,_⟩:=r.mu_own hk
  have hel:P.underlying T=some (.slice (P.elem T)):=by simp [Program.elem,si.h]
  have hel':P.elem T=E:=by simp [Program.elem,si.h]
  rcases hc.2 with ⟨_,h⟩ | ⟨g,cap,cur,h,_⟩
  ·omega
  ·refine ⟨.pointer (some ⟨g,i.toNat * sz+0,none⟩),?_,.pe rfl fun q hq=>?_⟩
   ·simp only [execOp,hv,hvy,h,Sem.run_bind]
    rw [run_indexAt_slice w T ⟨g,0,none⟩ xs.length cap kd i hel,if_pos ⟨h0,h1⟩,hel',ti.run_size w]
    simp only [Result.andThen_ok,z8i,Nat.zero_add,Sem.run_pure,Nat.add_zero]
   ·have:hwOf objs k=some ver:=by unfold hwOf;rw [hk]
    rw [this] at hq;cases hq
    exact ⟨Nat.le_refl _,fun _=>⟨g,_,cap,h,rfl⟩⟩) kk
theorem Rl.pe_cells {s:S} {a:Act} {w:World} {own:Nat->Value} (r:Rl P cx n s a w own) {k T sz ver i off sz':Nat} {xs:List (List PV)} {row:List PV} {l:List PV} {v:Value} (hk:get s.objs k=some (.mu T sz ver xs)) (hi:xs[i]?=some row) (hl:rng row off sz'=some l)
  (h:RepA w (Mu cx.M0 own s.objs) own (hwOf s.objs) (.pe k ver (i * sz+off)) v) :
  ∃ (b:Nat) (vals:List Value),v=.pointer (some ⟨b,i * sz+off,none⟩)/\vals.length=sz'/\(∀ j u,vals[j]?=some u->w.cell? ⟨b,i * sz+off+j,none⟩=some u)/\l.length=sz'/\∀ j y,l[j]?=some y->Rep w (Mu cx.M0 own s.objs) y (vals.getD j undef):=by
 have hw:hwOf s.objs k=some ver:=by unfold hwOf;rw [hk]
 obtain ⟨cells,hc,hrow,hx⟩:=r.mu_own hk
 cases h with
 | pe h1 ho =>
   obtain ⟨b,len,cap,e,rfl⟩:=(ho ver hw).2 rfl
   obtain ⟨q1,q2,q3⟩:=z3l hl
   have hlen:=hrow row (List.mem_of_getElem? hi)
   have hil:i<xs.length:=(List.getElem?_eq_some_iff.1 hi).1
   have hfit:i * sz+sz<=cells.length:=by
    rw [hc.1]
    have:(i+1) * sz<=xs.length * sz:=Nat.mul_le_mul_right _ hil
    rw [Nat.add_mul] at this;omega
   refine ⟨b,(cells.drop (i * sz+off)).take sz',rfl,by simp;omega,fun j u hj=>?_,q1,fun j y hy=>?_⟩
   ·have hjs:j<sz':=by have:=(List.getElem?_eq_some_iff.1 hj).1;simp at this;omega
    rw [List.getElem?_take_of_lt hjs,List.getElem?_drop] at hj
    have hown:=hc.cells (g:=b) (by rw [e];rfl) _ _ hj
    rw [z8i,Nat.zero_add] at hown
    exact hown
   ·have hjs:j<sz':=by have:=(List.getElem?_eq_some_iff.1 hy).1;omega
    rw [q3 j hjs] at hy
    have:=hx i row (off+j) y hi hy
    have e:((cells.drop (i * sz+off)).take sz').getD j undef=cells.getD (i * sz+(off+j)) undef:=by
     rw [List.getD_eq_getElem?_getD,List.getElem?_take_of_lt hjs,List.getElem?_drop,<- List.getD_eq_getElem?_getD,Nat.add_assoc]
    rw [e];exact this
theorem zpe {T T' sz sz' k ver i off:Nat} {x:Operand} {xs:List (List PV)} {row l:List PV} (ti:TI P T' sz' true) (hx:S.ev ⟨regs,objs⟩ x=some (.pe k ver (i * sz+off))) (hk:get objs k=some (.mu T sz ver xs)) (hi:xs[i]?=some row) (hl:rng row off sz'=some l) (hd:Nat.blt d n=true)
  (kk:AWl P cx n ops rest Q ⟨(d,.ag (l.map .p))::regs,objs⟩):AWl P cx n ops (⟨some d,.load T' x,ty,pos,aft,none⟩::rest) Q ⟨regs,objs⟩ :=
 zm (.ag (l.map .p)) rfl rfl (by simpa using hd) (fun a w own r=>by
  obtain ⟨b,vals,hv,hl1,hc,hl2,hr⟩:=r.pe_cells hk hi hl (r.ev hx)
  refine ⟨.agg vals.toArray,?_,.ag vals (by rw [hl1,List.length_map,hl2]) (fun v hv=>?_) fun j y hj=>?_⟩
  ·simp only [execOp,hv,Instr.loadAt,Instr.sureAddr,Sem.run_bind,Sem.run_pure,Result.andThen_ok]
   rw [z3q ti w _ vals hl1 (fun j v hj=>by rw [z8i];exact hc j v hj)]
   rfl
  ·obtain ⟨j,hj⟩:=List.getElem?_of_mem hv
   have hlt:j<l.length:=by have:=(List.getElem?_eq_some_iff.1 hj).1;omega
   have:=(hr j _ (List.getElem?_eq_getElem hlt)).one
   rwa [List.getD_eq_getElem?_getD,hj] at this
  ·rw [List.getElem?_map] at hj
   obtain ⟨z,hz,rfl⟩:=Option.map_eq_some_iff.1 hj
   exact .p (hr j z hz)) kk
theorem zkv {T T' sz k ver i off:Nat} {x:Operand} {xs:List (List PV)} {row:List PV} {y:PV} (ti:TI P T' 1 false) (hx:S.ev ⟨regs,objs⟩ x=some (.pe k ver (i * sz+off))) (hk:get objs k=some (.mu T sz ver xs)) (hi:xs[i]?=some row) (hl:rng row off 1=some [y]) (hd:Nat.blt d n=true)
  (kk:AWl P cx n ops rest Q ⟨(d,.p y)::regs,objs⟩):AWl P cx n ops (⟨some d,.load T' x,ty,pos,aft,none⟩::rest) Q ⟨regs,objs⟩ :=
 zm (.p y) rfl rfl (by simpa using hd) (fun a w own r=>by
  obtain ⟨b,vals,hv,hl1,hc,hl2,hr⟩:=r.pe_cells hk hi hl (r.ev hx)
  obtain ⟨u,rfl⟩:∃ u,vals=[u]:=by match vals,hl1 with | [u],_=>exact ⟨u,rfl⟩
  refine ⟨u,?_,.p (hr 0 y rfl)⟩
  simp only [execOp,hv,Instr.loadAt,Instr.sureAddr,Sem.run_bind,Sem.run_pure,Result.andThen_ok]
  have:=hc 0 u rfl
  rw [Nat.add_zero] at this
  rw [z3r ti w _ u this]
  rfl) kk
end
theorem zwc {L us:List Value} {o q:Nat} (h:o+us.length<=L.length):(L.take o++us++L.drop (o+us.length)).getD q undef=if q<o then L.getD q undef else if q<o+us.length then us.getD (q-o) undef else L.getD q undef:=by
 have hl:(L.take o).length=o:=by simp;omega
 simp only [List.getD_eq_getElem?_getD]
 split
 ·rename_i hq
  rw [List.append_assoc,List.getElem?_append_left (by omega),List.getElem?_take_of_lt hq]
 ·split
  ·rw [List.append_assoc,List.getElem?_append_right (by omega),hl,List.getElem?_append_left (by omega)]
  ·rw [List.getElem?_append_right (by simp;omega),List.getElem?_drop]
   congr 2
   simp;omega
theorem Rl.setMu {P:Program} {cx:Cx} {n:Nat} {s:S} {a:Act} {w:World} {own:Nat->Value} (r:Rl P cx n s a w own) {k T sz ver i:Nat} {xs:List (List PV)} {ps:List PV} {us:List Value} {b:Nat}
  (hk:get s.objs k=some (.mu T sz ver xs)) (hb:blk (own k)=some b) (hi:i<xs.length) (hp:ps.length=sz) (hu:us.length=sz) (hus:∀ (j:Nat) (x:PV),ps[j]?=some x->Rep w (Mu cx.M0 own s.objs) x (us.getD j undef)) :
  ∃ cur,w.heap[b]?=some (Obj.cells cur T (0,0))/\i * sz+us.length<=cur.size/\Rl P cx n ⟨s.regs,setO s.objs k (.mu T sz ver (xs.set i ps))⟩ a (w.setRow b (cur.toList.take (i * sz)++us++cur.toList.drop (i * sz+us.length)).toArray) own:=by
 obtain ⟨cells,hc,hrow,hx⟩:=r.mu_own hk
 rcases hc.2 with ⟨h5,_⟩ | ⟨g,cap,cur,h5,h50,hg,hnc,hcm,hcs,htake⟩
 ·rw [h5] at hb;simp [blk] at hb
 ·rw [h5] at hb
  simp only [blk,Option.some.injEq] at hb
  subst hb
  have hm:(i+1) * sz<=xs.length * sz:=Nat.mul_le_mul_right _ hi
  rw [Nat.add_mul,Nat.one_mul] at hm
  have hm2:xs.length * sz<=cap * sz:=Nat.mul_le_mul_right _ hnc
  have hfit:i * sz+us.length<=cur.toList.length:=by simp;omega
  refine ⟨cur,hg,by simpa using hfit,?_⟩
  have hov:=fun q=>zwc (L:=cur.toList) (us:=us) (o:=i * sz) (q:=q) hfit
  have hupd:upd own k (own k)=own:=by
   funext j
   by_cases e:j=k
   ·subst e;rw [zh]
   ·rw [ze _ _ e]
  have key:=r.remu (v':=own k) (ver':=ver) (xs':=xs.set i ps) (w':=w.setRow g (cur.toList.take (i * sz)++us++cur.toList.drop (i * sz+us.length)).toArray)
   (cells':=((cur.toList.take (i * sz)++us++cur.toList.drop (i * sz+us.length)).take (xs.length * sz))) hk (Nat.le_refl _) (fun _=>rfl)
   (by
    rw [List.length_set]
    refine ⟨by simp;omega,.inr ⟨g,cap,_,h5,h50,setRow_heap w g _ _ T (0,0) hg,hnc,hcm,by simp;omega,by simp⟩⟩)
   (fun row hr=>by
    rcases List.mem_or_eq_of_mem_set hr with h | h
    ·exact hrow row h
    ·rw [h];exact hp)
   rfl rfl rfl (by rw [z7p];exact Nat.le_refl _) (fun c _ hne=>z2x w g _ fun e=>hne (by rw [h5,e];rfl)) (fun c hc'=>.inl hc') (fun c cs hc' h=>by
    rw [h5] at hc';simp only [blk,Option.some.injEq] at hc';subst hc';exact ⟨_,setRow_heap w g _ _ T (0,0) h⟩)
   (fun hst q row j x hq hj=>by
    have hql:q<xs.length:=by have:=(List.getElem?_eq_some_iff.1 hq).1;simpa using this
    have hjs:j<sz:=by
     have:row.length=sz:=by
      rcases List.mem_or_eq_of_mem_set (List.mem_of_getElem? hq) with h | h
      ·exact hrow row h
      ·rw [h];exact hp
     have:=(List.getElem?_eq_some_iff.1 hj).1;omega
    have hqm:(q+1) * sz<=xs.length * sz:=Nat.mul_le_mul_right _ hql
    rw [Nat.add_mul,Nat.one_mul] at hqm
    have e1:((cur.toList.take (i * sz)++us++cur.toList.drop (i * sz+us.length)).take (xs.length * sz)).getD (q * sz+j) undef=(cur.toList.take (i * sz)++us++cur.toList.drop (i * sz+us.length)).getD (q * sz+j) undef:=by
     rw [List.getD_eq_getElem?_getD,List.getElem?_take_of_lt (by omega),<- List.getD_eq_getElem?_getD]
    rw [e1,hov]
    by_cases hqi:q=i
    ·subst hqi
     rw [List.getElem?_set_self hql] at hq
     cases hq
     rw [if_neg (by omega),if_pos (by omega),Nat.add_sub_cancel_left]
     exact (hus j x hj).stp hst
    ·rw [List.getElem?_set_ne (Ne.symm hqi)] at hq
     have hcell:cells.getD (q * sz+j) undef=cur.toList.getD (q * sz+j) undef:=by
      rw [<- htake,List.getD_eq_getElem?_getD,List.getElem?_take_of_lt (by omega),<- List.getD_eq_getElem?_getD]
     have h9:=(hx q row j x hq hj).stp hst
     rw [hcell] at h9
     rcases Nat.lt_or_gt_of_ne hqi with hlt | hlt
     ·have:(q+1) * sz<=i * sz:=Nat.mul_le_mul_right _ hlt
      rw [Nat.add_mul,Nat.one_mul] at this
      rw [if_pos (by omega)];exact h9
     ·have:(i+1) * sz<=q * sz:=Nat.mul_le_mul_right _ hlt
      rw [Nat.add_mul,Nat.one_mul] at this
      rw [if_neg (by omega),if_neg (by omega)];exact h9)
  rw [hupd] at key
  exact key.1
theorem Rl.newMu {P:Program} {vr:Nat} {cx:Cx} {n:Nat} {s:S} {a:Act} {w w':World} {own:Nat->Value} (r:Rl P cx n s a w own) (d T sz:Nat) (xs:List (List PV)) (v:Value) (cells:List Value) (hf:fresh d s=true) (h0:get cx.objs0 d=none)
  (hown:w'.ownsRow 0 T sz v xs.length cells) (hg:w.grownBy w' none) (hb:∀ b,blk v=some b->w.heap.size<=b) (hrow:∀ row∈xs,row.length=sz)
  (hcells:Stp w (Mu cx.M0 own s.objs) w' (Mu cx.M0 (upd own d v) ((d,.mu T sz vr xs)::s.objs))->∀ (i:Nat) (row:List PV) (j:Nat) (x:PV),xs[i]?=some row->row[j]?=some x->Rep w' (Mu cx.M0 (upd own d v) ((d,.mu T sz vr xs)::s.objs)) x (cells.getD (i * sz+j) undef)) :
  Rl P cx n ⟨s.regs,(d,.mu T sz vr xs)::s.objs⟩ a w' (upd own d v)/\Stp w (Mu cx.M0 own s.objs) w' (Mu cx.M0 (upd own d v) ((d,.mu T sz vr xs)::s.objs)):=by
 simp only [fresh,Bool.and_eq_true] at hf
 have hM:∀ b i,Mu cx.M0 (upd own d v) ((d,.mu T sz vr xs)::s.objs) b i->Mu cx.M0 own s.objs b i\/w.heap.size<=b:=by
  rintro b i (h | ⟨k,o,hk,hm⟩)
  ·exact .inl (.inl h)
  ·rcases List.mem_cons.1 hk with e | e
   ·cases e;rw [zh] at hm;exact .inr (hb b hm)
   ·rw [ze _ _ (zl hf.2 k o e).1] at hm;exact .inl (.inr ⟨k,o,e,hm⟩)
 have hs:Stp w (Mu cx.M0 own s.objs) w' (Mu cx.M0 (upd own d v) ((d,.mu T sz vr xs)::s.objs)) :=
  {os:=hg.os,tape:=hg.tape,output:=hg.output,size:=hg.size,
   cell:=fun b i u _ hu=>by rw [World.cell?_of_block (w:=w) (hg.block b (World.block_lt_of_cell? w _ hu) (by simp))];exact hu
   mu:=hM
   shape:=fun b cs T h=>⟨cs,by rw [hg.block b (Array.getElem?_eq_some_iff.1 h).1 (by simp)];exact h⟩ }
 have hkr:∀ k,k≠d->Kr own (upd own d v) (hwOf s.objs) (hwOf ((d,.mu T sz vr xs)::s.objs)) k:=fun k hk=>.inl ⟨ze _ _ hk,z3o hk⟩
 have hne:∀ {k o},(k,o)∈s.objs->k≠d:=fun h=>(zl hf.2 _ _ h).1
 refine ⟨{ defs:=r.defs,size:=r.size,ok:=?_,regs:=fun t x hx=>(r.regs t x hx).tr hs fun k hk=>hkr k (z3e hf.1 t x hx k hk),stp:=r.stp.trans hs,fix:=fun k o hm=>(r.fix k o hm).trans (hkr k ?_),fr:=r.fr.trans ⟨fun b hb _=>hg.block b hb (by simp),fun k o b hk hb'=>?_,hg.size⟩ },hs⟩
 ·refine { obs:=fun k o hk=>?_,keys:=?_,inj:=fun k o k' o' hk hk' hne' b hb1 hb2=>?_,m0:=fun k o b hk hb1 i hm=>?_,m0old:=fun b i h=>Nat.lt_of_lt_of_le (r.ok.m0old b i h) hg.size }
  ·rcases List.mem_cons.1 hk with e | e
   ·cases e;exact ⟨cells,by rw [zh];exact hown,hrow,hcells hs⟩
   ·have h1:=r.ok.obs k o e
    have hfar:∀ b,blk (own k)=some b->w'.heap[b]?=w.heap[b]?:=fun b hb=>hg.block b (z2p r.ok e hb) (by simp)
    cases o with
    | ce T' cs =>
      obtain ⟨b,vals,e1,e2,e3,e4⟩:=h1
      exact ⟨b,vals,by rw [ze _ _ (hne e)];exact e1,by rw [hfar b (by rw [e1];rfl)];exact e2,e3,fun i x hi=>⟨(e4 i x hi).1,(e4 i x hi).2.tr hs fun q hq=>hkr q (z4f hf.2 e hi hq)⟩⟩
    | ar T' sz' q =>
      obtain ⟨cs,h2⟩:=h1
      exact ⟨cs,by rw [ze _ _ (hne e)];exact zo h2 hfar⟩
    | mu T' sz' ver ys =>
      obtain ⟨cs,h2,h3,h4⟩:=h1
      exact ⟨cs,by rw [ze _ _ (hne e)];exact zo h2 hfar,h3,fun i row j x hi hj=>(h4 i row j x hi hj).stp hs⟩
    | mp ver l =>
      show MpOK _ _ _
      rw [ze _ _ (hne e)];exact MpOK.keep h1 hfar
  ·simp only [List.map_cons,List.nodup_cons]
   refine ⟨fun h=>?_,r.ok.keys⟩
   obtain ⟨⟨k,o⟩,hk,e⟩:=List.mem_map.1 h
   exact hne hk e
  ·rcases List.mem_cons.1 hk with e | e<;>rcases List.mem_cons.1 hk' with e' | e'
   ·cases e;cases e';exact hne' rfl
   ·cases e;rw [zh] at hb1;rw [ze _ _ (hne e')] at hb2
    have:=hb b hb1;have:=z2p r.ok e' hb2;omega
   ·cases e';rw [zh] at hb2;rw [ze _ _ (hne e)] at hb1
    have:=hb b hb2;have:=z2p r.ok e hb1;omega
   ·rw [ze _ _ (hne e)] at hb1;rw [ze _ _ (hne e')] at hb2
    exact r.ok.inj k o k' o' e e' hne' b hb1 hb2
  ·rcases List.mem_cons.1 hk with e | e
   ·cases e;rw [zh] at hb1
    have:=hb b hb1;have:=r.ok.m0old b i hm;omega
   ·rw [ze _ _ (hne e)] at hb1;exact r.ok.m0 k o b e hb1 i hm
 ·intro e;subst e;exact z1a (List.mem_map_of_mem (f:=(·.1)) hm) h0
 ·rcases List.mem_cons.1 hk with e | e
  ·cases e;rw [zh] at hb';exact .inr (hb b hb')
  ·rw [ze _ _ (hne e)] at hb';exact .inl ⟨k,o,e,hb'⟩
def Src (w:World) (M:Nat->Nat->Prop) (sz:Nat) (ys:List (List PV)) (y:Value):Prop :=
 ∃ news:List Value,((y=.slice none 0 0/\ys.length=0/\news=[])\/∃ a c,y=.slice (some a) ys.length c/\news.length=ys.length * sz/\∀ j u,news[j]?=some u->w.cell? (a.add j)=some u) /\
  (∀ u∈news,u.oneCell'=true)/\news.length=ys.length * sz/\(∀ row∈ys,row.length=sz) /\
  ∀ (i:Nat) (row:List PV) (j:Nat) (x:PV),ys[i]?=some row->row[j]?=some x->Rep w M x (news.getD (i * sz+j) undef)
theorem Src.of_rep {w:World} {M:Nat->Nat->Prop} {sz:Nat} {ys:List (List PV)} {y:Value} (h:Rep w M (.sl sz ys) y):Src w M sz ys y:=by
 obtain ⟨news,h1,h2,h3,h4,h5⟩:=h.sl_cells
 refine ⟨news,h1,h2,h3,fun row hr=>?_,h5⟩
 obtain ⟨i,hi⟩:=List.getElem?_of_mem hr
 exact h4 i row hi
theorem Rl.appMu {P:Program} {cx:Cx} {n:Nat} {s:S} {a:Act} {w:World} {own:Nat->Value} (r:Rl P cx n s a w own) {T E sz bytes ty k ver:Nat} (si:SI P T E) (ei:EI P E sz bytes) (hsz:0<sz) {xs ys:List (List PV)}
  (hk:get s.objs k=some (.mu E sz ver xs)) {y:Value} (hy:Src w (Mu cx.M0 own s.objs) sz ys y) (hb:(xs.length+ys.length) * bytes<=140737488355328) (h63:xs.length+ys.length<=140737488355328) :
  ∃ v' w',(Builtin.append_ #[T,T] ty #[own k,y]).run P w=.ok v' w'/\Rl P cx n ⟨s.regs,setO s.objs k (.mu E sz (ver+1) (xs++ys))⟩ a w' (upd own k v')/\v'.oneCell'=true:=by
 obtain ⟨cells,hc,hrow,hx⟩:=r.mu_own hk
 obtain ⟨news,hn1,hn2,hn3,hn4,hn5⟩:=hy
 obtain ⟨v',w',hr,g1,g2,g3⟩:=zkr (ty:=ty) si ei hsz hc hn1 hn2 hb h63
 have hsize:w.heap.size<=w'.heap.size:=by rcases g3 with ⟨h,_⟩ | ⟨h,_⟩<;>exact h.size
 have key:=r.remu (v':=v') (ver':=ver+1) (xs':=xs++ys) (w':=w') (cells':=cells++news) hk (Nat.le_succ _) (fun h=>by omega) (by rw [List.length_append];exact g1)
  (fun row h=>by
   rcases List.mem_append.1 h with h | h
   ·exact hrow row h
   ·exact hn4 row h)
  (by rcases g3 with ⟨h,_⟩ | ⟨h,_⟩<;>exact h.os) (by rcases g3 with ⟨h,_⟩ | ⟨h,_⟩<;>exact h.tape) (by rcases g3 with ⟨h,_⟩ | ⟨h,_⟩<;>exact h.output) hsize
  (fun b hb hne=>by
   rcases g3 with ⟨h,h2⟩ | ⟨h,_⟩
   ·exact h.block b hb (fun e=>hne (h2▸e.symm))
   ·exact h.block b hb (by simp))
  (fun b hb=>by
   rcases g3 with ⟨_,h2⟩ | ⟨_,h2⟩
   ·exact .inl (h2▸hb)
   ·exact .inr (h2 b hb))
  (fun b cs hb hcs=>by
   rcases g3 with ⟨h,h2⟩ | ⟨h,_⟩
   ·rcases g1.2 with ⟨h3,_⟩ | ⟨g,cap,cur,h3,_,h4,_⟩
    ·rw [<- h2,h3] at hb;simp [blk] at hb
    ·rw [<- h2,h3] at hb
     simp only [blk,Option.some.injEq] at hb
     subst hb
     exact ⟨_,h4⟩
   ·exact ⟨cs,by rw [h.block b (Array.getElem?_eq_some_iff.1 hcs).1 (by simp)];exact hcs⟩)
  (fun hst i row j x hi hj=>by
   rcases Nat.lt_or_ge i xs.length with h | h
   ·rw [List.getElem?_append_left h] at hi
    have hjs:j<sz:=by have:=hrow _ (List.mem_of_getElem? hi);have:=(List.getElem?_eq_some_iff.1 hj).1;omega
    have hlt:i * sz+j<xs.length * sz:=by
     have:(i+1) * sz<=xs.length * sz:=Nat.mul_le_mul_right _ h
     rw [Nat.add_mul] at this;omega
    rw [List.getD_eq_getElem?_getD,List.getElem?_append_left (by rw [hc.1];exact hlt),<- List.getD_eq_getElem?_getD]
    exact (hx i row j x hi hj).stp hst
   ·rw [List.getElem?_append_right h] at hi
    have hge:xs.length * sz<=i * sz:=Nat.mul_le_mul_right _ h
    have e:(cells++news).getD (i * sz+j) undef=news.getD ((i-xs.length) * sz+j) undef:=by
     rw [List.getD_eq_getElem?_getD,List.getElem?_append_right (by rw [hc.1];omega),<- List.getD_eq_getElem?_getD,hc.1]
     congr 1
     rw [Nat.sub_mul];omega
    rw [e]
    exact (hn5 _ row j x hi hj).stp hst)
 refine ⟨v',w',hr,key.1,?_⟩
 rcases g1.2 with ⟨h3,_⟩ | ⟨g,cap,cur,h3,_⟩<;>rw [h3]<;>rfl
theorem Rl.put_tm {P:Program} {cx:Cx} {n:Nat} {s:S} {a:Act} {w:World} {own:Nat->Value} (r:Rl P cx n s a w own) {d k T sz ver:Nat} {xs:List (List PV)} {v:Value} (hd:d<n) (hk:get s.objs k=some (.mu T sz ver xs)) (hv:v=own k) (h1:v.oneCell'=true) :
  Rl P cx n (s.put d (.tm k ver)) (a.put (some d) v) w own:=r.put_same hd (.tm h1 fun q hq=>by
 have:hwOf s.objs k=some ver:=by unfold hwOf;rw [hk]
 rw [this] at hq;cases hq
 exact ⟨Nat.le_refl _,fun _=>hv⟩)
theorem z2y {P:Program} {T E sz:Nat} {ag:Bool} (h:P.elem T=E) (ti:TI P E sz ag) (w:World):(sizeOf (P.elem T)).run P w=.ok sz w:=by rw [h];exact ti.run_size w
section
variable {P : Program} {cx : Cx} {n : Nat} {Q : Exit → S → Prop} {regs : List (Nat × AV)} {objs : Obs} {ops : Array Oper} {rest : List Oper} {d : Nat} {pos : String} {aft : Array Edge} {ty : Nat}
theorem z5q {l:Obs} {k:Nat} {o o':Ob} (h:get l k=some o):get (setO l k o') k=some o':=by rw [z1d,Nat.beq_refl,cond_true,h];rfl
theorem zc9 {T sz k ver i:Nat} {ag:Bool} {p x:Operand} {av:AV} {l:List AV} {ps:List PV} {xs:List (List PV)} {objs':Obs} (ti:TI P T sz ag) (hp:S.ev ⟨regs,objs⟩ p=some (.pe k ver (i * sz+0))) (hx:S.ev ⟨regs,objs⟩ x=some av) (hk:get objs k=some (.mu T sz ver xs))
  (hi:i<xs.length) (hl:av.ce=some l) (hps:pus l=some ps) (hsz:Nat.beq ps.length sz=true) (hq:setq objs k (.mu T sz ver (xs.set i ps))=some objs')
  (kk:AWl P cx n ops rest Q ⟨regs,objs'⟩):AWl P cx n ops (⟨none,.store T p x,ty,pos,aft,none⟩::rest) Q ⟨regs,objs⟩ :=
 z2w rfl (fun a w own r=>by
  have hw:hwOf objs k=some ver:=by unfold hwOf;rw [hk]
  have h:=r.ev hp
  obtain ⟨us,hu1,hu2,hu3,hu4⟩:=(r.ev hx).ce hl
  obtain ⟨g1,g2⟩:=zks hps
  have hs:ps.length=sz:=Nat.eq_of_beq_eq_true hsz
  generalize hv:a.eval p=v at h
  cases h with
  | pe h1 ho =>
    obtain ⟨b,len,cap,e,rfl⟩:=(ho ver hw).2 rfl
    obtain ⟨cur,hg,hfit,r'⟩:=r.setMu (us:=us) hk (b:=b) (by rw [e];rfl) hi hs (by omega) (fun j y hj=>by
     obtain ⟨z,hz,hzp⟩:=g2 j y hj
     exact (hu4 j z hz).pu hzp)
    have hst:=run_storeCells_at P b (i * sz) T us 0 cur w hg (by simpa using hfit) hu3
    simp only [Nat.add_zero] at hst
    have hrun:(execOp a.eval ⟨none,.store T p x,ty,pos,aft,none⟩).run P w=.ok .skip (w.setRow b (cur.toList.take (i * sz)++us++cur.toList.drop (i * sz+us.length)).toArray):=by
     simp only [execOp,hv,Instr.storeAt,Instr.sureAddr,storeVar,Sem.run_bind,Sem.run_pure,Result.andThen_ok,ti.run_size w,Nat.add_zero]
     rw [hu1]
     have:¬ us.toArray.size≠sz:=by simp;omega
     rw [if_neg this]
     simp only [List.toList_toArray]
     rw [hst]
     rfl
    exact ⟨undef,_,.inr ⟨hrun,rfl⟩,own,by rw [z2s hq];exact r'⟩) kk
theorem zi3 {T E sz bytes k ver:Nat} {s x:Operand} {xs ys:List (List PV)} {av:AV} {objs':Obs} (si:SI P T E) (ei:EI P E sz bytes) (hs:S.ev ⟨regs,objs⟩ s=some (.tm k ver)) (hk:get objs k=some (.mu E sz ver xs))
  (hx:S.ev ⟨regs,objs⟩ x=some av) (hr:av.rows=some (sz,ys)) (hsz:Nat.blt 0 sz=true) (hq:setq objs k (.mu E sz (ver+1) (xs++ys))=some objs') (hd:Nat.blt d n=true) (hb:(xs.length+ys.length) * bytes<=140737488355328) (h63:xs.length+ys.length<=140737488355328)
  (kk:AWl P cx n ops rest Q ⟨(d,.tm k (ver+1))::regs,objs'⟩) :
  AWl P cx n ops (⟨some d,.call ⟨.builtin .append,#[s,x],#[T,T]⟩,ty,pos,aft,none⟩::rest) Q ⟨regs,objs⟩ :=
 z2w rfl (fun a w own r=>by
  have hv:=r.tm_val hk (r.ev hs)
  obtain ⟨v',w',e1,e2,e3⟩:=r.appMu (ty:=ty) si ei (by simpa using hsz) hk (Src.of_rep ((r.ev hx).rows hr)) hb h63
  refine ⟨v',w',.inl (z5p (by rw [hv];exact e1)),upd own k v',?_⟩
  have:=e2.put_tm (d:=d) (v:=v') (by simpa using hd) (z5q hk) (by rw [zh]) e3
  rw [<- z2s hq] at this
  exact this) kk
theorem zrm {T E sz k ver:Nat} {ag:Bool} {x y:Operand} {xs:List (List PV)} {kd:IntKind} {h:Int} {objs':Obs} (si:SI P T E) (ti:TI P E sz ag) (hx:S.ev ⟨regs,objs⟩ x=some (.tm k ver)) (hk:get objs k=some (.mu E sz ver xs))
  (hy:S.ev ⟨regs,objs⟩ y=some (.p (.v (.int kd h)))) (h0:0<=h) (h1:h<=(xs.length:Int)) (hq:setq objs k (.mu E sz (ver+1) (xs.take h.toNat))=some objs') (hd:Nat.blt d n=true)
  (kk:AWl P cx n ops rest Q ⟨(d,.tm k (ver+1))::regs,objs'⟩) :
  AWl P cx n ops (⟨some d,.slice T x none (some y) none,ty,pos,aft,none⟩::rest) Q ⟨regs,objs⟩ :=
 z2w rfl (fun a w own r=>by
  have hv:=r.tm_val hk (r.ev hx)
  have hvy:=(r.ev hy).val
  obtain ⟨cells,hc,hrow,hxx⟩:=r.mu_own hk
  have hel:P.underlying T=some (.slice (P.elem T)):=by simp [Program.elem,si.h]
  have hel':P.elem T=E:=by simp [Program.elem,si.h]
  have hlen:(xs.take h.toNat).length=h.toNat:=by simp;omega
  have hm:h.toNat * sz<=xs.length * sz:=Nat.mul_le_mul_right _ (by omega)
  obtain ⟨v',hrun,hown,hbk⟩:∃ v',(execOp a.eval ⟨some d,.slice T x none (some y) none,ty,pos,aft,none⟩).run P w=.ok (.value v') w/\w.ownsRow 0 E sz v' (xs.take h.toNat).length (cells.take (h.toNat * sz))/\blk v'=blk (own k):=by
   rw [hlen]
   rcases hc.2 with ⟨e1,e2⟩ | ⟨g,cap,cur,e1,e2,e3,e4,e5,e6,e7⟩
   ·refine ⟨.slice none 0 0,?_,⟨by have:=hc.1;simp;omega,.inl ⟨rfl,by omega⟩⟩,by rw [e1]⟩
    simp only [execOp,hv,hvy,e1,Option.map_some,Option.map_none,Sem.run_bind]
    rw [run_sliceAt_slice w T _ _ _ _ hel,run_slice_h w T none 0 0 hel kd h h0 (by omega),z2y hel' ti w]
    have:h.toNat=0:=by omega
    simp [Result.andThen_ok,sliced,this]
   ·refine ⟨.slice (some ⟨g,0,none⟩) h.toNat cap,?_,⟨by have:=hc.1;simp;omega,.inr ⟨g,cap,cur,rfl,e2,e3,by omega,e5,e6,?_⟩⟩,by rw [e1];rfl⟩
    ·simp only [execOp,hv,hvy,e1,Option.map_some,Option.map_none,Sem.run_bind]
     rw [run_sliceAt_slice w T _ _ _ _ hel,run_slice_h w T (some ⟨g,0,none⟩) xs.length cap hel kd h h0 (by omega),z2y hel' ti w]
     have:(⟨g,0,none⟩:Addr).add 0=⟨g,0,none⟩:=by simp [Addr.add]
     simp [Result.andThen_ok,sliced,this]
    ·rw [<- e7,List.take_take,Nat.min_eq_left hm]
  have key:=r.remu (v':=v') (ver':=ver+1) (xs':=xs.take h.toNat) (w':=w) (cells':=cells.take (h.toNat * sz)) hk (Nat.le_succ _) (fun h=>by omega) hown (fun row hr=>hrow row (List.mem_of_mem_take hr)) rfl rfl rfl (Nat.le_refl _) (fun _ _ _=>rfl)
   (fun b hb=>.inl (by rw [<- hbk];exact hb)) (fun b cs _ hcs=>⟨cs,hcs⟩)
   (fun hst i row j x hi hj=>by
    have hil:i<h.toNat:=by have:=(List.getElem?_eq_some_iff.1 hi).1;omega
    rw [List.getElem?_take_of_lt hil] at hi
    have hjs:j<sz:=by have:=hrow _ (List.mem_of_getElem? hi);have:=(List.getElem?_eq_some_iff.1 hj).1;omega
    have hlt:i * sz+j<h.toNat * sz:=by
     have:(i+1) * sz<=h.toNat * sz:=Nat.mul_le_mul_right _ hil
     rw [Nat.add_mul] at this;omega
    rw [List.getD_eq_getElem?_getD,List.getElem?_take_of_lt hlt,<- List.getD_eq_getElem?_getD]
    exact (hxx i row j x hi hj).stp hst)
  have hone:v'.oneCell'=true:=by rcases hown.2 with ⟨h3,_⟩ | ⟨g,cap,cur,h3,_⟩<;>rw [h3]<;>rfl
  refine ⟨v',w,.inl hrun,upd own k v',?_⟩
  have:=key.1.put_tm (d:=d) (v:=v') (by simpa using hd) (z5q hk) (by rw [zh]) hone
  rw [<- z2s hq] at this
  exact this) kk
end
theorem Sub.tstm {k sz:Nat}:Sub (.ts k sz []) (.tm k 0):=fun w M own hw v h=>by
 cases h with
 | ts h ho=>exact .tm h.one fun n hn=>⟨Nat.zero_le _,fun e=>(ho n hn).2 (by simpa using e)⟩
theorem Le.arMu {P:Program} {cx:Cx} {n:Nat} {regs:List (Nat×AV)} {objs objs':Obs} {k T sz:Nat} (hk:get objs k=some (.ar T sz 0)) (hq:setq objs k (.mu T sz 0 [])=some objs') :
  Le P cx n ⟨regs,objs⟩ ⟨regs,objs'⟩:=fun a w ⟨own,r⟩=>by
 have hmem:=zu hk
 rw [z2s hq]
 have hMu:Mu cx.M0 own (setO objs k (.mu T sz 0 []))=Mu cx.M0 own objs:=by
  funext b i
  apply propext
  constructor
  ·rintro (h | ⟨j,o,hj,hm⟩)
   ·exact .inl h
   ·rcases zp r.ok.keys hj with ⟨rfl,rfl⟩ | ⟨_,h⟩
    ·exact .inr ⟨j,_,hmem,hm,by simp⟩
    ·exact .inr ⟨j,o,h,hm⟩
  ·rintro (h | ⟨j,o,hj,hm⟩)
   ·exact .inl h
   ·by_cases e:j=k
    ·subst e
     have:=z1c r.ok.keys hj
     rw [hk] at this
     cases this
     exact .inr ⟨j,_,z2c hk,hm.1⟩
    ·exact .inr ⟨j,o,z2v e hj,hm⟩
 have hhw:hwOf (setO objs k (.mu T sz 0 []))=hwOf objs:=by
  funext j
  unfold hwOf
  rw [z1d]
  cases hb:Nat.beq k j with
  | true=>obtain rfl:k=j:=Nat.eq_of_beq_eq_true hb;simp [hk]
  | false=>simp
 have hget:∀ {j o},(j,o)∈setO objs k (.mu T sz 0 [])->∃ o',(j,o')∈objs:=fun {j o} hj=>by
  rcases zp r.ok.keys hj with ⟨rfl,_⟩ | ⟨_,h⟩
  ·exact ⟨_,hmem⟩
  ·exact ⟨_,h⟩
 refine ⟨own,{ defs:=r.defs,size:=r.size,ok:=?_,regs:=fun t x hx=>by rw [hMu,hhw];exact r.regs t x hx,stp:=by rw [hMu];exact r.stp,fix:=fun j o hj=>by rw [hhw];exact r.fix j o hj,fr:=r.fr.trans ⟨fun _ _ _=>rfl,fun j o b hj hb=>?_,Nat.le_refl _⟩ }⟩
 ·refine { obs:=fun j o hj=>?_,keys:=by rw [z1m];exact r.ok.keys,inj:=fun j o j' o' hj hj'=>?_,m0:=fun j o b hj=>?_,m0old:=r.ok.m0old }
  ·rw [hMu,hhw]
   rcases zp r.ok.keys hj with ⟨rfl,rfl⟩ | ⟨_,h⟩
   ·obtain ⟨cells,hc⟩:=r.ok.obs j _ hmem
    exact ⟨cells,hc,by simp,by simp⟩
   ·exact r.ok.obs j o h
  ·obtain ⟨q,hq⟩:=hget hj
   obtain ⟨q',hq'⟩:=hget hj'
   exact r.ok.inj j q j' q' hq hq'
  ·obtain ⟨q,hq⟩:=hget hj
   exact r.ok.m0 j q b hq
 ·obtain ⟨q,hq⟩:=hget hj
  exact .inl ⟨j,q,hq,hb⟩
theorem Le.cell {P:Program} {cx:Cx} {n:Nat} {regs:List (Nat×AV)} {objs objs':Obs} {q T:Nat} {cs cs':List AV} (hk:get objs q=some (.ce T cs)) (hs:Subs cs cs') (hc:z3t cs'=true) (hq:setq objs q (.ce T cs')=some objs') :
  Le P cx n ⟨regs,objs⟩ ⟨regs,objs'⟩:=fun a w ⟨own,r⟩=>by
 have hmem:=zu hk
 rw [z2s hq]
 have hlen:cs'.length=cs.length:=by
  clear hk hc hq hmem
  induction hs with
  | nil=>rfl
  | cons _ _ ih=>simp [ih]
 have hsub:∀ (j:Nat) (y:AV),cs'[j]?=some y->∃ x,cs[j]?=some x/\Sub x y:=by
  clear hk hc hq hmem hlen
  induction hs with
  | nil=>intro j y h;simp at h
  | cons h1 _ ih =>
    intro j y hj
    cases j with
    | zero=>simp at hj;subst hj;exact ⟨_,rfl,h1⟩
    | succ j=>simpa using ih j y (by simpa using hj)
 have hMu:Mu cx.M0 own (setO objs q (.ce T cs'))=Mu cx.M0 own objs:=by
  funext b i
  apply propext
  constructor
  ·rintro (h | ⟨j,o,hj,hm⟩)
   ·exact .inl h
   ·rcases zp r.ok.keys hj with ⟨rfl,rfl⟩ | ⟨_,h⟩
    ·exact .inr ⟨j,_,hmem,hm⟩
    ·exact .inr ⟨j,o,h,hm⟩
  ·rintro (h | ⟨j,o,hj,hm⟩)
   ·exact .inl h
   ·by_cases e:j=q
    ·subst e
     have:=z1c r.ok.keys hj
     rw [hk] at this
     cases this
     exact .inr ⟨j,_,z2c hk,hm⟩
    ·exact .inr ⟨j,o,z2v e hj,hm⟩
 have hhw:hwOf (setO objs q (.ce T cs'))=hwOf objs:=by funext j;exact z3p hk j
 have hget:∀ {j o},(j,o)∈setO objs q (.ce T cs')->∃ o',(j,o')∈objs:=fun {j o} hj=>by
  rcases zp r.ok.keys hj with ⟨rfl,_⟩ | ⟨_,h⟩
  ·exact ⟨_,hmem⟩
  ·exact ⟨_,h⟩
 refine ⟨own,{ defs:=r.defs,size:=r.size,ok:=?_,regs:=fun t x hx=>by rw [hMu,hhw];exact r.regs t x hx,stp:=by rw [hMu];exact r.stp,fix:=fun j o hj=>by rw [hhw];exact r.fix j o hj,fr:=r.fr.trans ⟨fun _ _ _=>rfl,fun j o b hj hb=>?_,Nat.le_refl _⟩ }⟩
 ·refine { obs:=fun j o hj=>?_,keys:=by rw [z1m];exact r.ok.keys,inj:=fun j o j' o' hj hj'=>?_,m0:=fun j o b hj=>?_,m0old:=r.ok.m0old }
  ·rw [hMu,hhw]
   rcases zp r.ok.keys hj with ⟨rfl,rfl⟩ | ⟨_,h⟩
   ·obtain ⟨b,vals,e1,e2,e3,e4⟩:=r.ok.obs j _ hmem
    refine ⟨b,vals,e1,e2,by rw [e3,hlen],fun i y hi=>⟨z4i hc i y hi,?_⟩⟩
    obtain ⟨x,hx,hxy⟩:=hsub i y hi
    exact hxy _ _ _ _ _ (e4 i x hx).2
   ·exact r.ok.obs j o h
  ·obtain ⟨p,hp⟩:=hget hj
   obtain ⟨p',hp'⟩:=hget hj'
   exact r.ok.inj j p j' p' hp hp'
  ·obtain ⟨p,hp⟩:=hget hj
   exact r.ok.m0 j p b hp
 ·obtain ⟨p,hp⟩:=hget hj
  exact .inl ⟨j,p,hp,hb⟩
structure MI (P:Program) (T:Nat) (name:String) (f:Nat):Prop where
 h:∀ (w:World) (b o:Nat) (args:Array Value),(callMethod (.iface T (.pointer (some ⟨b,o,none⟩))) name args).run P w=.ok (.enter f (#[.pointer (some ⟨b,o,none⟩)]++args)) w
section
variable {P : Program} {cx : Cx} {n : Nat} {Q : Exit → S → Prop} {regs : List (Nat × AV)} {objs : Obs} {ops : Array Oper} {rest : List Oper} {d : Nat} {pos : String} {aft : Array Edge} {ty : Nat}
theorem zrn {T:Nat} {x:Operand} {av:AV} (hT:P.concrete T=true) (hx:S.ev ⟨regs,objs⟩ x=some av) (hd:Nat.blt d n=true) (kk:AWl P cx n ops rest Q ⟨(d,.ifc T av)::regs,objs⟩) :
  AWl P cx n ops (⟨some d,.makeInterface T x,ty,pos,aft,none⟩::rest) Q ⟨regs,objs⟩ :=
 zm (.ifc T av) rfl rfl (by simpa using hd) (fun a w own r=>by
  refine ⟨.iface T (a.eval x),?_,.ifc (r.ev hx)⟩
  simp only [execOp,Sem.run_bind,run_makeInterface w T _ hT,Result.andThen_ok,Sem.run_pure]) kk
theorem zpf {T X:Nat} {x:Operand} {av:AV} (hT:P.concrete T=true) (hx:S.ev ⟨regs,objs⟩ x=some (.ifc T av)) (hd:Nat.blt d n=true) (kk:AWl P cx n ops rest Q ⟨(d,.tp [av,.p (B true)])::regs,objs⟩) :
  AWl P cx n ops (⟨some d,.typeAssert x X T true,ty,pos,aft,none⟩::rest) Q ⟨regs,objs⟩ :=
 zm (.tp [av,.p (B true)]) rfl rfl (by simpa using hd) (fun a w own r=>by
  have h:=r.ev hx
  generalize hv:a.eval x=v at h
  cases h with
  | ifc h =>
    rename_i u
    refine ⟨.tuple [u,.bool true].toArray,?_,.tp [u,.bool true] rfl fun j y hj=>?_⟩
    ·have hc:(Instr.typeAssert (.iface T u) X T true).run P w=.ok (.tuple #[u,.bool true]) w:=by
      unfold Program.concrete at hT
      cases hq:P.underlying T with
      | none=>simp [hq] at hT
      | some dd=>cases dd<;>first | (simp [hq] at hT;done) | simp [Instr.typeAssert,run_underlying hq]
     simp only [execOp,hv,Sem.run_bind,hc,Result.andThen_ok,Sem.run_pure]
    ·match j with
     | 0=>simp at hj;subst hj;exact h
     | 1=>simp at hj;subst hj;exact .scal rfl
     | j+2=>simp at hj) kk
end
section
variable {P : Program} {T : Nat} {x y : Operand}
theorem zg7 {p:Option Addr} {e:Nat} (h:P.underlying T=some (.pointer e)):∀ w,(do eqGuard .eql T x y (.pointer p) (.pointer none);binOp .eql T (.pointer p) (.pointer none):Sem Value).run P w=.ok (.bool p.isNone) w:=fun w=>by
 have h1:(eqGuard .eql T x y (.pointer p) (.pointer none)).run P w=.ok () w:=by simp [eqGuard]
 have h2:binOp .eql T (.pointer p) (.pointer none)=(do pure (.bool (<- Op.equal T (.pointer p) (.pointer none)))):=rfl
 have h3:(Op.equal T (.pointer p) (.pointer none)).run P w=.ok p.isNone w:=by
  show (Op.equalIn (9999+1) T (.pointer p) (.pointer none)).run P w=_
  generalize 9999=dd
  cases p<;>simp [Op.equalIn,run_underlying h]
 simp only [Sem.run_bind,h1,h2,h3,Result.andThen_ok,Sem.run_pure]
theorem zca {e:Nat} (h:P.underlying T=some (.pointer e)):∀ w,(do eqGuard .eql T x y (.pointer none) (.pointer none);binOp .eql T (.pointer none) (.pointer none):Sem Value).run P w=.ok (.bool true) w:=zg7 h
theorem zwd {ps rs:Array TypeId} {vd:Bool} (h:P.underlying T=some (.func ps rs vd)):∀ w,(do eqGuard .eql T x y .nilFunc .nilFunc;binOp .eql T .nilFunc .nilFunc:Sem Value).run P w=.ok (.bool true) w:=fun w=>by
 have h1:(eqGuard .eql T x y .nilFunc .nilFunc).run P w=.ok () w:=by simp [eqGuard]
 have h2:binOp .eql T .nilFunc .nilFunc=(do pure (.bool (<- Op.equal T .nilFunc .nilFunc))):=rfl
 have h3:(Op.equal T .nilFunc .nilFunc).run P w=.ok true w:=by
  show (Op.equalIn (9999+1) T .nilFunc .nilFunc).run P w=_
  generalize 9999=dd
  simp [Op.equalIn,run_underlying h]
 simp only [Sem.run_bind,h1,h2,h3,Result.andThen_ok,Sem.run_pure]
theorem z8m {a:Option Addr} {l c e:Nat} (h:P.underlying T=some (.slice e)):∀ w,(do eqGuard .eql T x y (.slice a l c) (.slice none 0 0);binOp .eql T (.slice a l c) (.slice none 0 0):Sem Value).run P w=.ok (.bool a.isNone) w:=fun w=>by
 have h1:(eqGuard .eql T x y (.slice a l c) (.slice none 0 0)).run P w=.ok () w:=by simp [eqGuard]
 have h2:binOp .eql T (.slice a l c) (.slice none 0 0)=(do pure (.bool (<- Op.equal T (.slice a l c) (.slice none 0 0)))):=rfl
 simp only [Sem.run_bind,h1,h2,run_equal_slice_nil w T e a l c h,Result.andThen_ok,Sem.run_pure]
theorem zpg {a b:Int} (h:0<=a/\a<=255/\0<b/\b<=255):∀ w,(do eqGuard .rem T x y (.int .u8 a) (.int .u8 b);binOp .rem T (.int .u8 a) (.int .u8 b):Sem Value).run P w=.ok (.int .u8 (a % b)) w:=fun w=>by
 have h1:(eqGuard .rem T x y (.int .u8 a) (.int .u8 b)).run P w=.ok () w:=rfl
 have h2:binOp .rem T (.int .u8 a) (.int .u8 b)=Op.intDiv .rem .u8 a b:=rfl
 have hb:¬ b=0:=by omega
 simp only [Sem.run_bind,h1,h2,Result.andThen_ok,Op.intDiv]
 have e1:a.tmod b=a % b:=Int.tmod_eq_emod_of_nonneg h.1
 rw [if_neg hb,e1];rfl
theorem zkw {a b:Int} (h:0<=a/\a<=65535/\0<b/\b<=65535):∀ w,(do eqGuard .rem T x y (.int .u16 a) (.int .u16 b);binOp .rem T (.int .u16 a) (.int .u16 b):Sem Value).run P w=.ok (.int .u16 (a % b)) w:=fun w=>by
 have h1:(eqGuard .rem T x y (.int .u16 a) (.int .u16 b)).run P w=.ok () w:=rfl
 have h2:binOp .rem T (.int .u16 a) (.int .u16 b)=Op.intDiv .rem .u16 a b:=rfl
 have hb:¬ b=0:=by omega
 simp only [Sem.run_bind,h1,h2,Result.andThen_ok,Op.intDiv]
 have e1:a.tmod b=a % b:=Int.tmod_eq_emod_of_nonneg h.1
 rw [if_neg hb,e1];rfl
end
section
variable {P : Program} {cx : Cx} {n : Nat} {Q : Exit → S → Prop} {regs : List (Nat × AV)} {objs : Obs} {ops : Array Oper} {rest : List Oper} {d : Nat} {pos : String} {aft : Array Edge} {ty : Nat}
theorem zkx {xT yT e k off:Nat} {x y:Operand} (hT:P.underlying xT=some (.pointer e)) (hx:S.ev ⟨regs,objs⟩ x=some (.ptr k off)) (hy:S.ev ⟨regs,objs⟩ y=some (.p (.v (.pointer none)))) (hd:Nat.blt d n=true) (kk:AWl P cx n ops rest Q ⟨(d,.p (B false))::regs,objs⟩) :
  AWl P cx n ops (⟨some d,.binOp .eql xT x y yT,ty,pos,aft,none⟩::rest) Q ⟨regs,objs⟩ :=
 zm (.p (B false)) rfl rfl (by simpa using hd) (fun a w own r=>by
  obtain ⟨b,_,h1⟩:=(r.ev hx).ptr_inv
  have h2:=(r.ev hy).val
  have h3:=zg7 (x:=x) (y:=y) (p:=some ⟨b,off,none⟩) hT w
  refine ⟨.bool false,?_,.scal rfl⟩
  simp only [execOp,h1,h2,Sem.run_bind] at h3 ⊢
  rw [h3];simp) kk
theorem zph {xT yT e k T sz ver:Nat} {x y:Operand} {xs:List (List PV)} (hT:P.underlying xT=some (.slice e)) (hx:S.ev ⟨regs,objs⟩ x=some (.tm k ver)) (hk:get objs k=some (.mu T sz ver xs)) (hy:S.ev ⟨regs,objs⟩ y=some (.p nilS)) (hd:Nat.blt d n=true)
  (kk:∀ b:Bool,(b=true->xs=[])->AWl P cx n ops rest Q ⟨(d,.p (B b))::regs,objs⟩) :
  AWl P cx n ops (⟨some d,.binOp .eql xT x y yT,ty,pos,aft,none⟩::rest) Q ⟨regs,objs⟩:=fun a w ⟨own,r⟩=>by
 have hv:=r.tm_val hk (r.ev hx)
 have h2:=(r.ev hy).val
 obtain ⟨cells,hc,_⟩:=r.mu_own hk
 obtain ⟨ad,cap,e1,_,_⟩:=z7r hc
 have h3:=z8m (x:=x) (y:=y) (a:=ad) (l:=xs.length) (c:=cap) hT w
 refine wpList_plain rfl fun K hK=>?_
 unfold Oper.wp
 have hrun:(execOp a.eval ⟨some d,.binOp .eql xT x y yT,ty,pos,aft,none⟩).run P w=.ok (.value (.bool ad.isNone)) w:=by
  simp only [execOp,hv,e1,h2,Sem.run_bind] at h3 ⊢
  rw [h3];simp
 rw [hrun]
 refine hK _ _ (kk ad.isNone (fun hb=>?_) _ _ ⟨own,r.put_same (by simpa using hd) (.scal rfl)⟩)
 rcases hc.2 with ⟨_,h5⟩ | ⟨g,cap',cur,h5,_⟩
 ·exact List.eq_nil_of_length_eq_zero h5
 ·rw [e1] at h5;cases h5;simp at hb
end
theorem zzn {P:Program} {cx:Cx} {n:Nat} {fn:Func} {R:AV->Obs->Prop} {s s':S} (h:Le P cx n s s') (k:Ends P cx n fn R s'):Ends P cx n fn R s:=fun a w own r=>by
 obtain ⟨own',r'⟩:=h a w ⟨own,r⟩
 exact k a w own' r'
section
variable {P : Program} {cx : Cx} {n : Nat} {ops : Array Oper} {gens exs : List Nat} {keys : List (Nat × Nat)} {och : List Nat → Obs} {E : Regs → Prop} {o : Oper} {rest : List Oper} {regs : Regs} {k : Nat}
end
def renR (ρ:Nat->Nat):List (Nat×AV)->List (Nat×AV)
 | []=>[]
 | (t,x)::r=>(t,x.ren ρ)::renR ρ r
theorem zg8 {ρ:Nat->Nat}:∀ {l:List (Nat×AV)} {t:Nat} {y:AV},get (renR ρ l) t=some y->∃ x,get l t=some x/\y=x.ren ρ
 | [],t,y,h=>by simp [renR,get] at h
 | (q,x)::r,t,y,h=>by
   simp only [renR,get] at h ⊢
   cases hb:Nat.beq q t with
   | true=>rw [hb] at h;simp only [cond_true,Option.some.injEq] at h;exact ⟨x,rfl,h.symm⟩
   | false=>rw [hb] at h;exact zg8 h
theorem Le.sw {P:Program} {cx:Cx} {n:Nat} {regs:List (Nat×AV)} {objs:Obs} (a b:Nat) (h0:cx.objs0=[]) :
  Le P cx n ⟨regs,objs⟩ ⟨renR (Ab.sw a b) regs,renO (Ab.sw a b) objs⟩:=fun a' w ⟨own,r⟩=>by
 have hs:=sw_sw a b
 have hcomp:(own ∘ Ab.sw a b) ∘ Ab.sw a b=own:=by funext k;simp [hs]
 have hok:OK P w cx.M0 (own ∘ Ab.sw a b) (renO (Ab.sw a b) objs):=(OK.ren hs hs).2 (by rw [hcomp];exact r.ok)
 have hMe:Mu cx.M0 (own ∘ Ab.sw a b) (renO (Ab.sw a b) objs)=Mu cx.M0 own objs:=by rw [zc7 hs hs,hcomp]
 refine ⟨own ∘ Ab.sw a b,{ defs:=r.defs,size:=r.size,ok:=hok,regs:=fun t y hy=>?_,stp:=by rw [hMe];exact r.stp,fix:=fun k o hk=>by rw [h0] at hk;simp at hk,fr:=⟨fun c hc hn=>r.fr.keep c hc hn,fun k o c hk hc=>?_,r.fr.size⟩ }⟩
 ·obtain ⟨x,hx,rfl⟩:=zg8 hy
  rw [hMe]
  refine RepA.ren_of ?_
  rw [hcomp,z4a hs hs objs r.ok.keys]
  exact r.regs t x hx
 ·obtain ⟨k',o',e1,rfl,rfl⟩:=renO_mem.1 hk
  simp only [Function.comp,hs] at hc
  exact r.fr.loc k' o' c e1 hc
section
variable {P : Program} {cx : Cx} {n : Nat} {Q : Exit → S → Prop} {regs : List (Nat × AV)} {objs : Obs} {ops : Array Oper} {rest : List Oper} {d : Nat} {pos : String} {aft : Array Edge} {ty : Nat}
theorem za:∀ l:List AV,Subs l l
 | []=>.nil
 | _::l=>.cons (Sub.refl _) (za l)
theorem zro {f:Fn} {l m:List Operand} {first caps:List AV} (hl:evs ⟨regs,objs⟩ l=some first) (hm:evs ⟨regs,objs⟩ m=some caps) (hd:Nat.blt d n=true) (kk:AWl P cx n ops rest Q ⟨(d,.fv f first caps)::regs,objs⟩) :
  AWl P cx n ops (⟨some d,.makeFunc f l.toArray m.toArray,ty,pos,aft,none⟩::rest) Q ⟨regs,objs⟩ :=
 zm (.fv f first caps) rfl rfl (by simpa using hd) (fun a w own r=>by
  have h1:=zmp r hl (za _)
  have h2:=zmp r hm (za _)
  refine ⟨.func f (l.map a.eval).toArray (m.map a.eval).toArray,?_,.fv _ _ h1.1 h2.1 h1.2 h2.2⟩
  simp [execOp,Instr.makeFunc]) kk
theorem zew {f t:Nat} {l:List Operand} {ts:Array Nat} {first caps avs args:List AV} {sub:Obs} {R:AV->Obs->Prop} (ks:List Nat) (hf:FB P f) (ht:get regs t=some (.fv (.func f) first caps)) (hx:evs ⟨regs,objs⟩ l=some avs) (hs:Subs (first++(avs++caps)) args) (con:Con P f args sub R) (hsub:sel ks objs=sub) (hd:Nat.blt d n=true)
  (kk:∀ r objs',R r objs'->newOK ks ⟨regs,objs⟩ cx.objs0 objs'=true/\AWl P cx n ops rest Q ⟨(d,r)::regs,objs'++oth ks objs⟩) :
  AWl P cx n ops (⟨some d,.call ⟨.value (.tmp t),l.toArray,ts⟩,ty,pos,aft,none⟩::rest) Q ⟨regs,objs⟩:=fun a w ⟨own,r⟩=>by
 refine wpList_plain rfl fun K hK=>?_
 unfold Oper.wp
 have hfv:=r.regs t _ ht
 obtain ⟨vf,vc,hv,hfl,hcl,hxf,hxc⟩:∃ vf vc:List Value,a.tmps.getD t undef=.func (.func f) vf.toArray vc.toArray/\vf.length=first.length/\vc.length=caps.length /\
   (∀ (j:Nat) (x:AV),first[j]?=some x->RepA w (Mu cx.M0 own objs) own (hwOf objs) x (vf.getD j undef))/\(∀ (j:Nat) (x:AV),caps[j]?=some x->RepA w (Mu cx.M0 own objs) own (hwOf objs) x (vc.getD j undef)):=by
  generalize a.tmps.getD t undef=u at hfv
  cases hfv with
  | fv vf vc h1 h2 h3 h4=>exact ⟨vf,vc,rfl,h1,h2,h3,h4⟩
 have hrun:(execOp a.eval ⟨some d,.call ⟨.value (.tmp t),l.toArray,ts⟩,ty,pos,aft,none⟩).run P w=.ok (.enter f (vf++(l.map a.eval++vc)).toArray) w:=by
  simp only [execOp,resolve,Act.eval,hv,Deferred.ofValue,Sem.run_bind,Sem.run_pure,Result.andThen_ok,invoke]
  rw [hf.run]
  simp
 rw [hrun,Oper.upon_enter]
 subst hsub
 have hMe:Mu (fun b i=>cx.M0 b i\/∃ k o,(k,o)∈oth ks objs/\mutOf o (own k) b i) own (sel ks objs)=Mu cx.M0 own objs:=by
  funext b i
  apply propext
  constructor
  ·rintro ((h | ⟨k,o,hk,hm⟩) | ⟨k,o,hk,hm⟩)
   ·exact .inl h
   ·exact .inr ⟨k,o,(oth_mem.1 hk).1,hm⟩
   ·exact .inr ⟨k,o,(sel_mem.1 hk).1,hm⟩
  ·rintro (h | ⟨k,o,hk,hm⟩)
   ·exact .inl (.inl h)
   ·by_cases h:k∈ks
    ·exact .inr ⟨k,o,sel_mem.2 ⟨hk,h⟩,hm⟩
    ·exact .inl (.inr ⟨k,o,oth_mem.2 ⟨hk,h⟩,hm⟩)
 have hok:=r.ok.part (fun x h=>(z3u ks objs).subset h) (((z3u ks objs).map _).nodup r.ok.keys) (fun b i=>cx.M0 b i\/∃ k o,(k,o)∈oth ks objs/\mutOf o (own k) b i)
  (fun b i h=>by
   rcases h with h | ⟨k,o,hk,hm⟩
   ·exact .inl h
   ·exact .inr ⟨k,o,(oth_mem.1 hk).1,hm⟩)
  (fun k o b hk hb i h=>by
   rcases h with h | ⟨k',o',hk',hm⟩
   ·exact r.ok.m0 k o b (sel_mem.1 hk).1 hb i h
   ·have h1:=sel_mem.1 hk
    have h2:=oth_mem.1 hk'
    exact r.ok.inj k o k' o' h1.1 h2.1 (fun e=>h2.2 (e▸h1.2)) b hb (z4h hm))
 have hmid:=zmp r hx (za _)
 have hall:∀ (j:Nat) (x:AV),(first++(avs++caps))[j]?=some x->RepA w (Mu cx.M0 own objs) own (hwOf objs) x ((vf++(l.map a.eval++vc)).getD j undef):=fun j x hj=>by
  have hml:(l.map a.eval).length=avs.length:=hmid.1
  rw [List.getD_eq_getElem?_getD]
  rcases Nat.lt_or_ge j first.length with h | h
  ·rw [List.getElem?_append_left h] at hj
   rw [List.getElem?_append_left (by omega),<- List.getD_eq_getElem?_getD];exact hxf j x hj
  ·rw [List.getElem?_append_right h] at hj
   rw [List.getElem?_append_right (by omega),hfl]
   rcases Nat.lt_or_ge (j-first.length) avs.length with h2 | h2
   ·rw [List.getElem?_append_left h2] at hj
    rw [List.getElem?_append_left (by omega),<- List.getD_eq_getElem?_getD];exact hmid.2 _ x hj
   ·rw [List.getElem?_append_right h2] at hj
    rw [List.getElem?_append_right (by omega),hml,<- List.getD_eq_getElem?_getD];exact hxc _ x hj
 have hargs:z6c w (Mu cx.M0 own objs) own (hwOf objs) args (vf++(l.map a.eval++vc)):=by
  have hml:(l.map a.eval).length=avs.length:=hmid.1
  obtain ⟨h3,h4⟩:=hs.get
  refine ⟨by simp only [List.length_append] at h3 ⊢;omega,fun j y hj=>?_⟩
  obtain ⟨x,hx,hsub⟩:=h4 j y hj
  exact hsub _ _ _ _ _ (hall j x hx)
 have harg':z6c w (Mu (fun b i=>cx.M0 b i\/∃ k o,(k,o)∈oth ks objs/\mutOf o (own k) b i) own (sel ks objs)) own (hwOf (sel ks objs)) args (vf++(l.map a.eval++vc)) :=
  ⟨hargs.1,fun j x hj=>(hargs.2 j x hj).part r.ok (fun x h=>(z3u ks objs).subset h) hok.2⟩
 refine (con w _ own _ hok.1 harg').mono ?_
 rintro e w' ⟨x,objs',own',v,rfl,hR,h1,h2,h3,h4,h5,h6⟩
 obtain ⟨hnew,k2⟩:=kk x objs' hR
 rw [hMe] at h3
 obtain ⟨own'',r''⟩:=r.called ks (by simpa using hd) hnew h1 h2 h3 h4 h5 h6
 exact hK _ _ (k2 _ _ ⟨own'',r''⟩)
theorem zmr {f t:Nat} {l:List Operand} {ts:Array Nat} {first caps avs args:List AV} {sub o2:Obs} {R:AV->Obs->Prop} (ks:List Nat) (hf:FB P f) (ht:get regs t=some (.fv (.func f) first caps)) (hx:evs ⟨regs,objs⟩ l=some avs) (hsub:selq ks objs=some sub) (ho:othq ks objs=some o2) (con:Con P f args sub R) (hs:Subs (first++(avs++caps)) args) (hd:Nat.blt d n=true)
  (kk:∀ r objs',R r objs'->newOK ks ⟨regs,objs⟩ cx.objs0 objs'=true/\∃ o3,appq objs' o2=some o3/\AWl P cx n ops rest Q ⟨(d,r)::regs,o3⟩) :
  AWl P cx n ops (⟨some d,.call ⟨.value (.tmp t),l.toArray,ts⟩,ty,pos,aft,none⟩::rest) Q ⟨regs,objs⟩ :=
 zew ks hf ht hx hs con (z6f hsub).symm hd fun r objs' hR=>by
  obtain ⟨h1,o3,h2,h3⟩:=kk r objs' hR
  refine ⟨h1,?_⟩
  rw [<- z8k ho,<- zc3 h2];exact h3
end
theorem Rep.cut {w:World} {M:Nat->Nat->Prop} {sz:Nat} {xs:List (List PV)} {v:Value} (h:Rep w M (.sl sz xs) v) :
  ∃ ad cap,v=.slice ad xs.length cap/\xs.length<=cap/\∀ l m,l<=m->m<=xs.length->Rep w M (.sl sz ((xs.take m).drop l)) (sliced ad l m cap sz):=by
 cases h with
 | nil=>exact ⟨none,0,rfl,Nat.le_refl _,fun l m h1 h2=>by
    simp at h2;subst h2
    obtain rfl:l=0:=by omega
    simp only [List.take_nil,List.drop_nil,sliced]
    exact .nil⟩
 | sl a cap f hcap hmax hrow hcell hM hx =>
   refine ⟨some a,cap,rfl,hcap,fun l m h1 h2=>?_⟩
   have hlen:((xs.take m).drop l).length=m-l:=by simp;omega
   have hat:∀ {i row},((xs.take m).drop l)[i]?=some row->xs[l+i]?=some row/\l+i<m:=fun {i row} hi=>by
    have hil:=(List.getElem?_eq_some_iff.1 hi).1
    rw [hlen] at hil
    rw [List.getElem?_drop,List.getElem?_take_of_lt (by omega)] at hi
    exact ⟨hi,by omega⟩
   have e:sliced (some a) l m cap sz=.slice (some (if cap=l then a else a.add (l * sz))) ((xs.take m).drop l).length (cap-l):=by
    rw [hlen]
    unfold sliced
    split<;>rfl
   rw [e]
   have hne:∀ {i row},((xs.take m).drop l)[i]?=some row->(if cap=l then a else a.add (l * sz))=a.add (l * sz):=fun {i row} hi=>by
    have:=(hat hi).2
    rw [if_neg (by omega)]
   have had:∀ {i row} (j:Nat),((xs.take m).drop l)[i]?=some row->(if cap=l then a else a.add (l * sz)).add (i * sz+j)=a.add ((l+i) * sz+j):=fun {i row} j hi=>by
    rw [hne hi,zba,Nat.add_mul,Nat.add_assoc]
   refine .sl _ _ (fun i j=>f (l+i) j) (by rw [hlen];omega) (by omega) (fun i row hi=>hrow _ row (hat hi).1) (fun i row j x hi hj=>?_) (fun i row j x hi hj=>?_) (fun i row j x hi hj=>hx _ row j x (hat hi).1 hj)
   ·rw [had j hi];exact hcell _ row j x (hat hi).1 hj
   ·rw [hne hi,(z3w _ _).1,(z3w _ _).2]
    have:=hM _ row j x (hat hi).1 hj
    rw [Nat.add_mul] at this
    rwa [Nat.add_assoc,<- Nat.add_assoc (l * sz)]
section
variable {P : Program} {cx : Cx} {n : Nat} {Q : Exit → S → Prop} {regs : List (Nat × AV)} {objs : Obs} {ops : Array Oper} {rest : List Oper} {d : Nat} {pos : String} {aft : Array Edge} {ty : Nat}
theorem zpi {T E sz sz':Nat} {ag:Bool} {x y:Operand} {av:AV} {xs:List (List PV)} {kd:IntKind} {h:Int} (si:SI P T E) (ti:TI P E sz ag) (hx:S.ev ⟨regs,objs⟩ x=some av) (hr:av.rows=some (sz',xs)) (hz:Nat.beq sz' sz=true)
  (hy:S.ev ⟨regs,objs⟩ y=some (.p (.v (.int kd h)))) (h0:0<=h) (h1:h<=(xs.length:Int)) (hd:Nat.blt d n=true)
  (kk:AWl P cx n ops rest Q ⟨(d,.p (.sl sz (xs.take h.toNat)))::regs,objs⟩) :
  AWl P cx n ops (⟨some d,.slice T x none (some y) none,ty,pos,aft,none⟩::rest) Q ⟨regs,objs⟩ :=
 zm (.p (.sl sz (xs.take h.toNat))) rfl rfl (by simpa using hd) (fun a w own r=>by
  obtain rfl:sz'=sz:=Nat.eq_of_beq_eq_true hz
  obtain ⟨ad,cap,e1,e2,e3⟩:=((r.ev hx).rows hr).cut
  have hvy:=(r.ev hy).val
  have hel:P.underlying T=some (.slice (P.elem T)):=by simp [Program.elem,si.h]
  have hel':P.elem T=E:=by simp [Program.elem,si.h]
  refine ⟨sliced ad 0 h.toNat cap sz',?_,.p (e3 0 h.toNat (Nat.zero_le _) (by omega))⟩
  simp only [execOp,e1,hvy,Option.map_some,Option.map_none,Sem.run_bind]
  rw [run_sliceAt_slice w T _ _ _ _ hel,run_slice_h w T ad xs.length cap hel kd h h0 (by omega),z2y hel' ti w]
  rfl) kk
theorem zpj {T E sz sz':Nat} {ag:Bool} {x y:Operand} {av:AV} {xs:List (List PV)} {kd:IntKind} {h:Int} (si:SI P T E) (ti:TI P E sz ag) (hx:S.ev ⟨regs,objs⟩ x=some av) (hr:av.rows=some (sz',xs)) (hz:Nat.beq sz' sz=true)
  (hy:S.ev ⟨regs,objs⟩ y=some (.p (.v (.int kd h)))) (h0:0<=h) (h1:h<=(xs.length:Int)) (hd:Nat.blt d n=true)
  (kk:AWl P cx n ops rest Q ⟨(d,.p (.sl sz (xs.drop h.toNat)))::regs,objs⟩) :
  AWl P cx n ops (⟨some d,.slice T x (some y) none none,ty,pos,aft,none⟩::rest) Q ⟨regs,objs⟩ :=
 zm (.p (.sl sz (xs.drop h.toNat))) rfl rfl (by simpa using hd) (fun a w own r=>by
  obtain rfl:sz'=sz:=Nat.eq_of_beq_eq_true hz
  obtain ⟨ad,cap,e1,e2,e3⟩:=((r.ev hx).rows hr).cut
  have hvy:=(r.ev hy).val
  have hel:P.underlying T=some (.slice (P.elem T)):=by simp [Program.elem,si.h]
  have hel':P.elem T=E:=by simp [Program.elem,si.h]
  have h3:=e3 h.toNat xs.length (by omega) (Nat.le_refl _)
  rw [List.take_length] at h3
  refine ⟨sliced ad h.toNat xs.length cap sz',?_,.p h3⟩
  simp only [execOp,e1,hvy,Option.map_some,Option.map_none,Sem.run_bind]
  rw [run_sliceAt_slice w T _ _ _ _ hel,run_slice_l w T ad xs.length cap hel kd h h0 (by omega),z2y hel' ti w]
  rfl) kk
theorem zpk {T E sz sz':Nat} {ag:Bool} {x y z:Operand} {av:AV} {xs:List (List PV)} {kd ke:IntKind} {l h:Int} (si:SI P T E) (ti:TI P E sz ag) (hx:S.ev ⟨regs,objs⟩ x=some av) (hr:av.rows=some (sz',xs)) (hz:Nat.beq sz' sz=true)
  (hy:S.ev ⟨regs,objs⟩ y=some (.p (.v (.int kd l)))) (hy2:S.ev ⟨regs,objs⟩ z=some (.p (.v (.int ke h)))) (h0:0<=l) (h1:l<=h) (h2:h<=(xs.length:Int)) (hd:Nat.blt d n=true)
  (kk:AWl P cx n ops rest Q ⟨(d,.p (.sl sz ((xs.take h.toNat).drop l.toNat)))::regs,objs⟩) :
  AWl P cx n ops (⟨some d,.slice T x (some y) (some z) none,ty,pos,aft,none⟩::rest) Q ⟨regs,objs⟩ :=
 zm (.p (.sl sz ((xs.take h.toNat).drop l.toNat))) rfl rfl (by simpa using hd) (fun a w own r=>by
  obtain rfl:sz'=sz:=Nat.eq_of_beq_eq_true hz
  obtain ⟨ad,cap,e1,e2,e3⟩:=((r.ev hx).rows hr).cut
  have hvy:=(r.ev hy).val
  have hvz:=(r.ev hy2).val
  have hel:P.underlying T=some (.slice (P.elem T)):=by simp [Program.elem,si.h]
  have hel':P.elem T=E:=by simp [Program.elem,si.h]
  refine ⟨sliced ad l.toNat h.toNat cap sz',?_,.p (e3 l.toNat h.toNat (by omega) (by omega))⟩
  simp only [execOp,e1,hvy,hvz,Option.map_some,Option.map_none,Sem.run_bind]
  rw [run_sliceAt_slice w T _ _ _ _ hel,run_slice_lh w T ad xs.length cap hel kd ke l h h0 h1 (by omega),z2y hel' ti w]
  rfl) kk
end
theorem z7o {z:Array Value} {n sz:Nat} (hz:z.size=sz) (hs:0<sz):(Builtin.zeroCells z n).toList.length=n * sz/\(∀ (i j:Nat),i<n->j<sz->(Builtin.zeroCells z n).toList.getD (i * sz+j) undef=z.getD j undef)/\∀ v∈(Builtin.zeroCells z n).toList,v∈z.toList:=by
 subst hz
 refine ⟨by simp [Builtin.zeroCells],fun i j hi hj=>?_,fun v hv=>?_⟩
 ·have hlt:i * z.size+j<n * z.size:=by
   have:(i+1) * z.size<=n * z.size:=Nat.mul_le_mul_right _ hi
   rw [Nat.add_mul,Nat.one_mul] at this;omega
  have hm:(i * z.size+j) % z.size=j:=by rw [Nat.mul_comm,Nat.mul_add_mod];exact Nat.mod_eq_of_lt hj
  simp [Builtin.zeroCells,List.getD_eq_getElem?_getD,hlt,hm,Array.getD_eq_getD_getElem?,hj]
 ·simp only [Builtin.zeroCells,Array.toList_map,List.mem_map] at hv
  obtain ⟨q,_,rfl⟩:=hv
  have:q % z.size<z.size:=Nat.mod_lt _ hs
  simp [this]
section
variable {P : Program} {cx : Cx} {n : Nat} {Q : Exit → S → Prop} {regs : List (Nat × AV)} {objs : Obs} {ops : Array Oper} {rest : List Oper} {d : Nat} {pos pos' : String} {aft aft' : Array Edge} {ty ty' : Nat}
end
section
variable {P : Program} {T : Nat} {x y : Operand} {a b : Int}
end
section
variable {P : Program} {cx : Cx} {n : Nat} {Q : Exit → S → Prop} {regs : List (Nat × AV)} {objs : Obs} {ops : Array Oper} {rest : List Oper} {d : Nat} {pos : String} {aft : Array Edge} {ty : Nat}
theorem zpl {xT yT f:Nat} {x y:Operand} {first caps:List AV} {ps rs:Array TypeId} {vd:Bool} (hT:P.underlying xT=some (.func ps rs vd)) (hx:S.ev ⟨regs,objs⟩ x=some (.fv (.func f) first caps)) (hy:S.ev ⟨regs,objs⟩ y=some (.p (.v .nilFunc))) (hd:Nat.blt d n=true) (kk:AWl P cx n ops rest Q ⟨(d,.p (B false))::regs,objs⟩) :
  AWl P cx n ops (⟨some d,.binOp .eql xT x y yT,ty,pos,aft,none⟩::rest) Q ⟨regs,objs⟩ :=
 zm (.p (B false)) rfl rfl (by simpa using hd) (fun a w own r=>by
  have h:=r.ev hx
  have h2:=(r.ev hy).val
  generalize hv:a.eval x=v at h
  cases h with
  | fv vf vc g1 g2 g3 g4 =>
    have q1:(eqGuard .eql xT x y (.func (.func f) vf.toArray vc.toArray) .nilFunc).run P w=.ok () w:=by simp [eqGuard]
    have q2:binOp .eql xT (.func (.func f) vf.toArray vc.toArray) .nilFunc=(do pure (.bool (<- Op.equal xT (.func (.func f) vf.toArray vc.toArray) .nilFunc))):=rfl
    have q3:(Op.equal xT (.func (.func f) vf.toArray vc.toArray) .nilFunc).run P w=.ok false w:=by
     show (Op.equalIn (9999+1) xT (.func (.func f) vf.toArray vc.toArray) .nilFunc).run P w=_
     generalize 9999=dd
     simp [Op.equalIn,run_underlying hT]
    refine ⟨.bool false,?_,.scal rfl⟩
    simp only [execOp,hv,h2,Sem.run_bind,q1,q2,q3,Result.andThen_ok,Sem.run_pure]) kk
end
theorem Le.objsN {P:Program} {cx:Cx} {n:Nat} {regs:List (Nat×AV)} {objs objs':Obs} (hm:∀ x,x∈objs'->x∈objs) (hn:(objs'.map (·.1)).Nodup):Le P cx n ⟨regs,objs⟩ ⟨regs,objs'⟩:=fun a w ⟨own,r⟩=>by
 obtain ⟨hok,hle⟩:=r.ok.part hm hn cx.M0 (fun b i h=>.inl h) (fun k o b hk hb=>r.ok.m0 k o b (hm _ hk) hb)
 refine ⟨own,{ defs:=r.defs,size:=r.size,ok:=hok,regs:=fun t y hy=>(r.regs t y hy).part r.ok hm hle,stp:=r.stp.less hle,fix:=fun k o hk=>(r.fix k o hk).trans ?_,fr:=⟨r.fr.keep,fun k o b hk hb=>r.fr.loc k o b (hm _ hk) hb,r.fr.size⟩ }⟩
 cases h3:hwOf objs' k with
 | none=>exact .inr (.inl ⟨h3,.inl rfl⟩)
 | some m =>
   obtain ⟨oo,hmm,hwi⟩:=z2g h3
   exact .inl ⟨rfl,by rw [h3,z3a r.ok.keys (hm _ hmm) hwi]⟩
section
variable {P : Program} {cx : Cx} {n : Nat} {Q : Exit → S → Prop} {regs : List (Nat × AV)} {objs : Obs} {ops : Array Oper} {rest : List Oper} {d : Nat} {pos : String} {aft : Array Edge} {ty : Nat}
end
def mpGet:List (ByteArray×Int)->ByteArray->Option Int
 | [],_=>none
 | (s,v)::r,k=>if k=s then some v else mpGet r k
def mpPut:List (ByteArray×Int)->ByteArray->Int->List (ByteArray×Int)
 | [],k,v=>[(k,v)]
 | (s,x)::r,k,v=>if k=s then (k,v)::r else (s,x)::mpPut r k v
def mpIx:List (ByteArray×Int)->ByteArray->Nat->Option (Nat×Int)
 | [],_,_=>none
 | (s,v)::r,k,i=>if k=s then some (i,v) else mpIx r k (i+1)
theorem zms (k:ByteArray):∀ (l:List (ByteArray×Int)) (i:Nat),(mpIx l k i).map (·.2)=mpGet l k
 | [],_=>rfl
 | (s,v)::r,i=>by
   simp only [mpIx,mpGet]
   split
   ·rfl
   ·exact zms k r (i+1)
abbrev mpV (p:ByteArray×Int):Value×Value:=(Value.string p.1,Value.int .i64 p.2)
theorem za9 (k:ByteArray):∀ (es:List MapEntry) (l:List (ByteArray×Int)) (i:Nat),(es.map fun e=>(e.key,e.val))=l.map mpV ->
  Instr.findNow .string (.string k) es i=some ((mpIx l k i).map fun p=>(p.1,Value.int .i64 p.2))
 | [],[],i,_=>rfl
 | [],_::_,_,h=>by simp at h
 | _::_,[],_,h=>by simp at h
 | e :: es,(s,v)::l,i,h=>by
   simp only [List.map_cons,List.cons.injEq,Prod.mk.injEq] at h
   obtain ⟨⟨h1,h2⟩,h3⟩:=h
   simp only [Instr.findNow,h1,Instr.sameNow,mpIx]
   by_cases hk:k=s
   ·subst hk
    rw [(MapKept.bytes_beq k k).2 rfl,if_pos rfl];simp [h2]
   ·have:(k==s)=false:=by
     cases hb:k==s with
     | false=>rfl
     | true=>exact absurd ((MapKept.bytes_beq k s).1 hb) hk
    rw [this,if_neg hk]
    exact za9 k es l (i+1) h3
theorem zmt (k:ByteArray) (v:Int):∀ (l:List (ByteArray×Int)) (i:Nat),mpIx l k i=none->mpPut l k v=l++[(k,v)]
 | [],_,_=>rfl
 | (s,x)::r,i,h=>by
   simp only [mpIx] at h
   split at h
   ·cases h
   ·rename_i hk
    simp only [mpPut,if_neg hk,zmt k v r (i+1) h,List.cons_append]
theorem zmu (k:ByteArray) (v:Int):∀ (l:List (ByteArray×Int)) (i j:Nat) (x:Int),mpIx l k i=some (j,x)->i<=j/\j-i<l.length/\(l[j-i]?).map (·.1)=some k/\mpPut l k v=l.set (j-i) (k,v)
 | [],_,_,_,h=>by simp [mpIx] at h
 | (s,y)::r,i,j,x,h=>by
   simp only [mpIx] at h
   split at h
   ·rename_i hk
    cases h
    subst hk
    simp [mpPut]
   ·rename_i hk
    obtain ⟨h1,h2,h3,h4⟩:=zmu k v r (i+1) j x h
    have e:j-i=(j-(i+1))+1:=by omega
    refine ⟨by omega,by simp;omega,?_,?_⟩
    ·rw [e];simpa using h3
    ·rw [e];simp only [mpPut,if_neg hk,h4,List.set_cons_succ]
theorem zg9 {P:Program} {w:World} {T kt et:Nat} (hT:P.underlying T=some (.map kt et)) (hk:P.underlying kt=some .string) (hz:(zeroValue et).run P w=.ok (.int .i64 0) w) {v:Value} {l:Option (List (ByteArray×Int))} (h:MpOK w v l) (k:ByteArray) :
  (Instr.lookup T v (.string k) false).run P w=.ok (.int .i64 ((l.bind fun l=>mpGet l k).getD 0)) w:=by
 cases l with
 | none =>
   have e:v=.map none:=h
   subst e
   have hf:(Instr.findKey kt (.string k) []).run P w=.ok none w:=MapKept.run_findKey hk rfl
   have hc:(Instr.checkKey true 10000 kt (.string k)).run P w=.ok () w:=MapKept.run_checkKey (n:=9999) hk (show MapKept.IsKey .string (.string k) from trivial) true
   simp [Instr.lookup,run_underlying hT,hc,hf,hz,Result.andThen,go_sem]
 | some l =>
   obtain ⟨b,es,clock,rfl,h2,h3⟩:=h
   have hf:=MapKept.run_findKey (P:=P) (w:=w) hk (za9 k es.toList l 0 h3)
   have hc:∀ e,(Instr.checkKey e 10000 kt (.string k)).run P w=.ok () w:=fun e=>MapKept.run_checkKey (n:=9999) hk (show MapKept.IsKey .string (.string k) from trivial) e
   have hg:=zms k l 0
   cases hi:mpIx l k 0 with
   | none =>
     rw [hi] at hf hg
     simp only [Option.map_none] at hf hg
     simp [Instr.lookup,run_underlying hT,MapKept.run_getObj_map h2,hc,hf,hz,<- hg,Result.andThen,go_sem]
   | some p =>
     rw [hi] at hf hg
     simp only [Option.map_some] at hf hg
     simp [Instr.lookup,run_underlying hT,MapKept.run_getObj_map h2,hc,hf,<- hg,Result.andThen,go_sem]
theorem zga {P:Program} {w:World} {T kt et b clock:Nat} {es:Array MapEntry} (hT:P.underlying T=some (.map kt et)) (hk:P.underlying kt=some .string) (hb:w.heap[b]?=some (.map es clock)) {l:List (ByteArray×Int)}
  (h:(es.toList.map fun e=>(e.key,e.val))=l.map mpV) (k:ByteArray) (x:Int) :
  ∃ es' clock',(Instr.mapUpdate T (.map (some b)) (.string k) (.int .i64 x)).run P w=.ok () { w with heap:=w.heap.setIfInBounds b (.map es' clock') }/\(es'.toList.map fun e=>(e.key,e.val))=(mpPut l k x).map mpV:=by
 have hf:=MapKept.run_findKey (P:=P) (w:=w) hk (za9 k es.toList l 0 h)
 have hc:∀ e,(Instr.checkKey e 10000 kt (.string k)).run P w=.ok () w:=fun e=>MapKept.run_checkKey (n:=9999) hk (show MapKept.IsKey .string (.string k) from trivial) e
 cases hi:mpIx l k 0 with
 | none =>
   rw [hi] at hf
   simp only [Option.map_none] at hf
   refine ⟨es.push { key:=.string k,val:=.int .i64 x,born:=clock },clock+1,?_,?_⟩
   ·simp [Instr.mapUpdate,run_underlying hT,MapKept.run_getObj_map hb,hc,hf,MapKept.run_setObj_map _ hb,Result.andThen,go_sem]
   ·rw [zmt k x l 0 hi]
    simp [h]
 | some p =>
   obtain ⟨j,y⟩:=p
   rw [hi] at hf
   simp only [Option.map_some] at hf
   obtain ⟨h1,h2,h3,h4⟩:=zmu k x l 0 j y hi
   simp only [Nat.sub_zero] at h2 h3 h4
   have hlen:es.toList.length=l.length:=by have:=congrArg List.length h;simpa using this
   have hjl:j<es.size:=by simpa using (by omega:j<es.toList.length)
   have hkey:((es[j]?).map (·.key)).getD (.string k)=.string k:=by
    have e1:(es.toList.map fun e=>(e.key,e.val))[j]?=(l.map mpV)[j]?:=by rw [h]
    simp only [List.getElem?_map,Array.getElem?_toList] at e1
    rw [Array.getElem?_eq_getElem hjl] at e1 ⊢
    rw [List.getElem?_eq_getElem h2] at e1 h3
    simp only [Option.map_some,Option.some.injEq] at e1 h3
    simp only [Option.map_some,Option.getD_some]
    have:=congrArg Prod.fst e1
    simp only at this
    rw [this,<- h3]
   refine ⟨es.modify j fun e=>{ e with key:=.string k,val:=.int .i64 x },clock,?_,?_⟩
   ·have hst:(Instr.keyThatStays (.string k) (.string k)).run P w=.ok (.string k) w:=MapKept.run_keyThatStays (d:=.string) (show MapKept.IsKey .string (.string k) from trivial)
    simp [Instr.mapUpdate,run_underlying hT,MapKept.run_getObj_map hb,hc,hf,hkey,hst,MapKept.run_setObj_map _ hb,Result.andThen,go_sem]
   ·rw [h4]
    apply List.ext_getElem?
    intro q
    simp only [List.getElem?_map,Array.getElem?_toList,Array.getElem?_modify,List.getElem?_set]
    have e1:(es.toList.map fun e=>(e.key,e.val))[q]?=(l.map mpV)[q]?:=by rw [h]
    simp only [List.getElem?_map,Array.getElem?_toList] at e1
    by_cases hq:j=q
    ·subst hq
     rw [if_pos rfl,if_pos rfl,if_pos h2,Array.getElem?_eq_getElem hjl]
     rfl
    ·rw [if_neg hq,if_neg hq]
     exact e1
theorem Rl.newMp {P:Program} {vr:Nat} {cx:Cx} {n:Nat} {s:S} {a:Act} {w w':World} {own:Nat->Value} (r:Rl P cx n s a w own) (d:Nat) (xs:Option (List (ByteArray×Int))) (v:Value) (hf:fresh d s=true) (h0:get cx.objs0 d=none)
  (hown:MpOK w' v xs) (hg:w.grownBy w' none) (hb:∀ b,blk v=some b->w.heap.size<=b) :
  Rl P cx n ⟨s.regs,(d,.mp vr xs)::s.objs⟩ a w' (upd own d v)/\Stp w (Mu cx.M0 own s.objs) w' (Mu cx.M0 (upd own d v) ((d,.mp vr xs)::s.objs)):=by
 simp only [fresh,Bool.and_eq_true] at hf
 have hM:∀ b i,Mu cx.M0 (upd own d v) ((d,.mp vr xs)::s.objs) b i->Mu cx.M0 own s.objs b i\/w.heap.size<=b:=by
  rintro b i (h | ⟨k,o,hk,hm⟩)
  ·exact .inl (.inl h)
  ·rcases List.mem_cons.1 hk with e | e
   ·cases e;rw [zh] at hm;exact .inr (hb b hm)
   ·rw [ze _ _ (zl hf.2 k o e).1] at hm;exact .inl (.inr ⟨k,o,e,hm⟩)
 have hs:Stp w (Mu cx.M0 own s.objs) w' (Mu cx.M0 (upd own d v) ((d,.mp vr xs)::s.objs)) :=
  {os:=hg.os,tape:=hg.tape,output:=hg.output,size:=hg.size,
   cell:=fun b i u _ hu=>by rw [World.cell?_of_block (w:=w) (hg.block b (World.block_lt_of_cell? w _ hu) (by simp))];exact hu
   mu:=hM
   shape:=fun b cs T h=>⟨cs,by rw [hg.block b (Array.getElem?_eq_some_iff.1 h).1 (by simp)];exact h⟩ }
 have hkr:∀ k,k≠d->Kr own (upd own d v) (hwOf s.objs) (hwOf ((d,.mp vr xs)::s.objs)) k:=fun k hk=>.inl ⟨ze _ _ hk,z3o hk⟩
 have hne:∀ {k o},(k,o)∈s.objs->k≠d:=fun h=>(zl hf.2 _ _ h).1
 refine ⟨{ defs:=r.defs,size:=r.size,ok:=?_,regs:=fun t x hx=>(r.regs t x hx).tr hs fun k hk=>hkr k (z3e hf.1 t x hx k hk),stp:=r.stp.trans hs,fix:=fun k o hm=>(r.fix k o hm).trans (hkr k ?_),fr:=r.fr.trans ⟨fun b hb _=>hg.block b hb (by simp),fun k o b hk hb'=>?_,hg.size⟩ },hs⟩
 ·refine { obs:=fun k o hk=>?_,keys:=?_,inj:=fun k o k' o' hk hk' hne' b hb1 hb2=>?_,m0:=fun k o b hk hb1 i hm=>?_,m0old:=fun b i h=>Nat.lt_of_lt_of_le (r.ok.m0old b i h) hg.size }
  ·rcases List.mem_cons.1 hk with e | e
   ·cases e;show MpOK _ _ _;rw [zh];exact hown
   ·have h1:=r.ok.obs k o e
    have hfar:∀ b,blk (own k)=some b->w'.heap[b]?=w.heap[b]?:=fun b hb=>hg.block b (z2p r.ok e hb) (by simp)
    cases o with
    | ce T' cs =>
      obtain ⟨b,vals,e1,e2,e3,e4⟩:=h1
      exact ⟨b,vals,by rw [ze _ _ (hne e)];exact e1,by rw [hfar b (by rw [e1];rfl)];exact e2,e3,fun i x hi=>⟨(e4 i x hi).1,(e4 i x hi).2.tr hs fun q hq=>hkr q (z4f hf.2 e hi hq)⟩⟩
    | ar T' sz' q =>
      obtain ⟨cs,h2⟩:=h1
      exact ⟨cs,by rw [ze _ _ (hne e)];exact zo h2 hfar⟩
    | mu T' sz' ver ys =>
      obtain ⟨cs,h2,h3,h4⟩:=h1
      exact ⟨cs,by rw [ze _ _ (hne e)];exact zo h2 hfar,h3,fun i row j x hi hj=>(h4 i row j x hi hj).stp hs⟩
    | mp ver l =>
      show MpOK _ _ _
      rw [ze _ _ (hne e)];exact MpOK.keep h1 hfar
  ·simp only [List.map_cons,List.nodup_cons]
   refine ⟨fun h=>?_,r.ok.keys⟩
   obtain ⟨⟨k,o⟩,hk,e⟩:=List.mem_map.1 h
   exact hne hk e
  ·rcases List.mem_cons.1 hk with e | e<;>rcases List.mem_cons.1 hk' with e' | e'
   ·cases e;cases e';exact hne' rfl
   ·cases e;rw [zh] at hb1;rw [ze _ _ (hne e')] at hb2
    have:=hb b hb1;have:=z2p r.ok e' hb2;omega
   ·cases e';rw [zh] at hb2;rw [ze _ _ (hne e)] at hb1
    have:=hb b hb2;have:=z2p r.ok e hb1;omega
   ·rw [ze _ _ (hne e)] at hb1;rw [ze _ _ (hne e')] at hb2
    exact r.ok.inj k o k' o' e e' hne' b hb1 hb2
  ·rcases List.mem_cons.1 hk with e | e
   ·cases e;rw [zh] at hb1
    have:=hb b hb1;have:=r.ok.m0old b i hm;omega
   ·rw [ze _ _ (hne e)] at hb1;exact r.ok.m0 k o b e hb1 i hm
 ·intro e;subst e;exact z1a (List.mem_map_of_mem (f:=(·.1)) hm) h0
 ·rcases List.mem_cons.1 hk with e | e
  ·cases e;rw [zh] at hb';exact .inr (hb b hb')
  ·rw [ze _ _ (hne e)] at hb';exact .inl ⟨k,o,e,hb'⟩
theorem zrp {M0:Nat->Nat->Prop} {own:Nat->Value} {objs:Obs} {k:Nat} {o o':Ob} (hn:(objs.map (·.1)).Nodup) (hk:get objs k=some o) (h:∀ b i,mutOf o' (own k) b i↔mutOf o (own k) b i):Mu M0 own (setO objs k o')=Mu M0 own objs:=by
 have hmem:=zu hk
 funext b i
 apply propext
 constructor
 ·rintro (h1 | ⟨j,q,hj,hm⟩)
  ·exact .inl h1
  ·rcases zp hn hj with ⟨rfl,rfl⟩ | ⟨_,h2⟩
   ·exact .inr ⟨j,_,hmem,(h b i).1 hm⟩
   ·exact .inr ⟨j,q,h2,hm⟩
 ·rintro (h1 | ⟨j,q,hj,hm⟩)
  ·exact .inl h1
  ·by_cases e:j=k
   ·subst e
    have:=z1c hn hj
    rw [hk] at this
    cases this
    exact .inr ⟨j,_,z2c hk,(h b i).2 hm⟩
   ·exact .inr ⟨j,q,z2v e hj,hm⟩
theorem Rl.setMp {P:Program} {cx:Cx} {n:Nat} {s:S} {a:Act} {w:World} {own:Nat->Value} (r:Rl P cx n s a w own) {k ver b clock clock':Nat} {es es':Array MapEntry} {l l':List (ByteArray×Int)}
  (hk:get s.objs k=some (.mp ver (some l))) (hv:own k=.map (some b)) (hb:w.heap[b]?=some (.map es clock)) (he:(es'.toList.map fun e=>(e.key,e.val))=l'.map mpV) :
  Rl P cx n ⟨s.regs,setO s.objs k (.mp ver (some l'))⟩ a { w with heap:=w.heap.setIfInBounds b (.map es' clock') } own:=by
 have hmem:=zu hk
 have hlt:b<w.heap.size:=(Array.getElem?_eq_some_iff.1 hb).1
 have hMu:Mu cx.M0 own (setO s.objs k (.mp ver (some l')))=Mu cx.M0 own s.objs:=zrp r.ok.keys hk fun _ _=>Iff.rfl
 have hhw:hwOf (setO s.objs k (.mp ver (some l')))=hwOf s.objs:=by
  funext j
  unfold hwOf
  rw [z1d]
  cases hbj:Nat.beq k j with
  | true=>obtain rfl:k=j:=Nat.eq_of_beq_eq_true hbj;simp [hk]
  | false=>simp
 have hfar:∀ c,c≠b->(w.heap.setIfInBounds b (.map es' clock'))[c]?=w.heap[c]?:=fun c hc=>by
  rw [Array.getElem?_setIfInBounds_ne (Ne.symm hc)]
 have hs:Stp w (Mu cx.M0 own s.objs) { w with heap:=w.heap.setIfInBounds b (.map es' clock') } (Mu cx.M0 own s.objs) :=
  {os:=rfl,tape:=rfl,output:=rfl,size:=by simp
   cell:=fun c i u _ hu=>by
    by_cases e:c=b
    ·subst e;simp [World.cell?,hb] at hu
    ·rw [World.cell?_of_block (w:=w) (hfar c e)];exact hu
   mu:=fun _ _ h=>.inl h
   shape:=fun c cs T hc=>by
    by_cases e:c=b
    ·subst e;rw [hb] at hc;cases hc
    ·exact ⟨cs,by show (w.heap.setIfInBounds b (.map es' clock'))[c]?=_;rw [hfar c e];exact hc⟩ }
 have hget:∀ {j o},(j,o)∈setO s.objs k (.mp ver (some l'))->∃ o',(j,o')∈s.objs:=fun {j o} hj=>by
  rcases zp r.ok.keys hj with ⟨rfl,_⟩ | ⟨_,h⟩
  ·exact ⟨_,hmem⟩
  ·exact ⟨_,h⟩
 refine { defs:=r.defs,size:=r.size,ok:=?_,regs:=fun t x hx=>by rw [hMu,hhw];exact (r.regs t x hx).tr_same hs,stp:=by rw [hMu];exact r.stp.trans hs,fix:=fun j o hj=>by rw [hhw];exact r.fix j o hj,fr:=r.fr.trans ⟨fun c hc hn=>?_,fun j o c hj hc=>?_,by simp⟩ }
 ·refine { obs:=fun j o hj=>?_,keys:=by rw [z1m];exact r.ok.keys,inj:=fun j o j' o' hj hj'=>?_,m0:=fun j o c hj=>?_,m0old:=fun c i h=>by simpa using r.ok.m0old c i h }
  ·rw [hMu,hhw]
   rcases zp r.ok.keys hj with ⟨rfl,rfl⟩ | ⟨hne,h⟩
   ·exact ⟨b,es',clock',hv,by simp [hlt],he⟩
   ·have h1:=r.ok.obs j o h
    have hf:∀ c,blk (own j)=some c->(w.heap.setIfInBounds b (.map es' clock'))[c]?=w.heap[c]?:=fun c hc=>hfar c fun e=>by
     subst e
     exact r.ok.inj k _ j o hmem h (Ne.symm hne) c (by rw [hv];rfl) hc
    cases o with
    | ce T' q =>
      obtain ⟨c,vals',e1,e2,e3,e4⟩:=h1
      exact ⟨c,vals',e1,by show (w.heap.setIfInBounds b (.map es' clock'))[c]?=_;rw [hf c (by rw [e1];rfl)];exact e2,e3,fun i x hx=>⟨(e4 i x hx).1,(e4 i x hx).2.tr_same hs⟩⟩
    | ar T' sz m =>
      obtain ⟨cells,e⟩:=h1
      exact ⟨cells,zo e hf⟩
    | mu T' sz ver xs =>
      obtain ⟨cells,e,e2,e3⟩:=h1
      exact ⟨cells,zo e hf,e2,fun i row j x hi hj=>(e3 i row j x hi hj).stp hs⟩
    | mp ver l=>exact MpOK.keep h1 hf
  ·obtain ⟨q,hq⟩:=hget hj
   obtain ⟨q',hq'⟩:=hget hj'
   exact r.ok.inj j q j' q' hq hq'
  ·obtain ⟨q,hq⟩:=hget hj
   exact r.ok.m0 j q c hq
 ·exact hfar c fun e=>hn k _ hmem (by rw [hv,e];rfl)
 ·obtain ⟨q,hq⟩:=hget hj
  exact .inl ⟨j,q,hq,hc⟩
theorem Rl.mp_val {P:Program} {cx:Cx} {n:Nat} {s:S} {a:Act} {w:World} {own:Nat->Value} (r:Rl P cx n s a w own) {k ver:Nat} {l:Option (List (ByteArray×Int))} {v:Value} (hk:get s.objs k=some (.mp ver l)) (h:RepA w (Mu cx.M0 own s.objs) own (hwOf s.objs) (.tm k ver) v):v=own k:=by
 cases h with
 | tm h1 ho=>exact (ho ver (by unfold hwOf;rw [hk])).2 rfl
theorem Rl.mp_ok {P:Program} {cx:Cx} {n:Nat} {s:S} {a:Act} {w:World} {own:Nat->Value} (r:Rl P cx n s a w own) {k ver:Nat} {l:Option (List (ByteArray×Int))} (hk:get s.objs k=some (.mp ver l)):MpOK w (own k) l:=r.ok.obs k _ (zu hk)
theorem Le.mpmove {P:Program} {cx:Cx} {n:Nat} {regs:List (Nat×AV)} {objs objs':Obs} {d:Nat} (k j:Nat) {ver vj:Nat} {l lj:Option (List (ByteArray×Int))} (hk:get objs k=some (.mp ver l)) (hj:get objs j=some (.mp vj lj)) (hkj:Nat.beq k j=false)
  (ho:objs'=setO (oth [j] objs) k (.mp (ver+1) lj)) :
  Le P cx n ⟨(d,.tm j vj)::regs,objs⟩ ⟨(d,.tm k (ver+1))::regs,objs'⟩:=fun a w ⟨own,r⟩=>by
 subst ho
 have hne:k≠j:=fun e=>by subst e;rw [Nat.beq_refl] at hkj;cases hkj
 have hmk:=zu hk
 have hmj:=zu hj
 have hkey:((oth [j] objs).map (·.1)).Nodup:=((z5b [j] objs).map _).nodup r.ok.keys
 have hk':get (oth [j] objs) k=some (.mp ver l):=z1c hkey (oth_mem.2 ⟨hmk,by simpa using hne⟩)
 have hin:∀ {q o},(q,o)∈setO (oth [j] objs) k (.mp (ver+1) lj)->(q=k/\o=.mp (ver+1) lj)\/(q≠k/\q≠j/\(q,o)∈objs):=fun {q o} hq=>by
  rcases zp hkey hq with h | ⟨h1,h2⟩
  ·exact .inl h
  ·have:=oth_mem.1 h2
   exact .inr ⟨h1,by simpa using this.2,this.1⟩
 have hown:MpOK w (own j) lj:=r.ok.obs j _ hmj
 have hwk:hwOf objs k=some ver:=by unfold hwOf;rw [hk]
 have hwk':hwOf (setO (oth [j] objs) k (.mp (ver+1) lj)) k=some (ver+1):=by unfold hwOf;rw [z1d,Nat.beq_refl,cond_true,hk'];rfl
 have hwj':hwOf (setO (oth [j] objs) k (.mp (ver+1) lj)) j=none:=by
  refine z6b ?_
  rw [z1m]
  intro h
  obtain ⟨⟨q,o⟩,h1,h2⟩:=List.mem_map.1 h
  simp only at h2;subst h2
  exact (oth_mem.1 h1).2 (by simp)
 have hwq:∀ q,q≠k->q≠j->hwOf (setO (oth [j] objs) k (.mp (ver+1) lj)) q=hwOf objs q:=fun q h1 h2=>by
  have e:hwOf (setO (oth [j] objs) k (.mp (ver+1) lj)) q=hwOf (oth [j] objs) q:=by
   unfold hwOf
   rw [z1d]
   have:Nat.beq k q=false:=by
    cases hb:Nat.beq k q with
    | false=>rfl
    | true=>exact absurd (Nat.eq_of_beq_eq_true hb).symm h1
   rw [this];rfl
  rw [e]
  refine z3f hkey r.ok.keys fun o=>?_
  rw [oth_mem]
  exact ⟨fun h=>h.1,fun h=>⟨h,by simpa using h2⟩⟩
 have hkp:∀ a,own k≠.pointer a:=fun a e=>by
  have h1:MpOK w (own k) l:=r.ok.obs k _ hmk
  rw [e] at h1
  cases l with
  | none=>cases (show Value.pointer a=Value.map none from h1)
  | some l=>obtain ⟨_,_,_,h2,_⟩:=h1;cases h2
 have hjp:∀ a,own j≠.pointer a:=fun a e=>by
  rw [e] at hown
  cases lj with
  | none=>cases (show Value.pointer a=Value.map none from hown)
  | some l=>obtain ⟨_,_,_,h2,_⟩:=hown;cases h2
 have hkr:∀ q,Kr own (upd own k (own j)) (hwOf objs) (hwOf (setO (oth [j] objs) k (.mp (ver+1) lj))) q:=fun q=>by
  by_cases e1:q=k
  ·subst e1
   exact .inr (.inr ⟨ver,ver+1,hwk,hwk',Nat.lt_succ_self _,hkp⟩)
  ·by_cases e2:q=j
   ·subst e2
    exact .inr (.inl ⟨hwj',.inl (ze _ _ e1)⟩)
   ·exact .inl ⟨ze _ _ e1,hwq q e1 e2⟩
 have hmu:∀ b i,Mu cx.M0 (upd own k (own j)) (setO (oth [j] objs) k (.mp (ver+1) lj)) b i->Mu cx.M0 own objs b i:=by
  rintro b i (h | ⟨q,o,hq,hm⟩)
  ·exact .inl h
  ·rcases hin hq with ⟨rfl,rfl⟩ | ⟨h1,h2,h3⟩
   ·rw [zh] at hm
    exact .inr ⟨j,_,hmj,hm⟩
   ·rw [ze _ _ h1] at hm
    exact .inr ⟨q,o,h3,hm⟩
 have hs:Stp w (Mu cx.M0 own objs) w (Mu cx.M0 (upd own k (own j)) (setO (oth [j] objs) k (.mp (ver+1) lj))):=(Stp.refl w _).less hmu
 refine ⟨upd own k (own j),{ defs:=r.defs,size:=r.size,ok:=?_,regs:=fun t x hx=>?_,stp:=r.stp.less hmu,fix:=fun q o hq=>(r.fix q o hq).trans (hkr q),fr:=r.fr.trans ⟨fun _ _ _=>rfl,fun q o b hq hb=>?_,Nat.le_refl _⟩ }⟩
 ·refine { obs:=fun q o hq=>?_,keys:=by rw [z1m];exact hkey,inj:=fun q o q' o' hq hq' hqq b hb hb'=>?_,m0:=fun q o b hq hb=>?_,m0old:=r.ok.m0old }
  ·rcases hin hq with ⟨rfl,rfl⟩ | ⟨h1,h2,h3⟩
   ·show MpOK _ _ _
    rw [zh];exact hown
   ·have h4:=r.ok.obs q o h3
    cases o with
    | ce T cs =>
      obtain ⟨b,vals,e1,e2,e3,e4⟩:=h4
      exact ⟨b,vals,by rw [ze _ _ h1];exact e1,e2,e3,fun i x hi=>⟨(e4 i x hi).1,(e4 i x hi).2.tr hs fun q _=>hkr q⟩⟩
    | ar T sz m =>
      obtain ⟨cells,e⟩:=h4
      exact ⟨cells,by rw [ze _ _ h1];exact e⟩
    | mu T sz v xs =>
      obtain ⟨cells,e,e2,e3⟩:=h4
      exact ⟨cells,by rw [ze _ _ h1];exact e,e2,fun i row j x hi hj=>(e3 i row j x hi hj).stp hs⟩
    | mp v l =>
      show MpOK _ _ _
      rw [ze _ _ h1];exact h4
  ·rcases hin hq with ⟨rfl,rfl⟩ | ⟨h1,h2,h3⟩<;>rcases hin hq' with ⟨rfl,rfl⟩ | ⟨g1,g2,g3⟩
   ·exact hqq rfl
   ·rw [zh] at hb;rw [ze _ _ g1] at hb'
    exact r.ok.inj j _ q' o' hmj g3 (Ne.symm g2) b hb hb'
   ·rw [ze _ _ h1] at hb;rw [zh] at hb'
    exact r.ok.inj q o j _ h3 hmj h2 b hb hb'
   ·rw [ze _ _ h1] at hb;rw [ze _ _ g1] at hb'
    exact r.ok.inj q o q' o' h3 g3 hqq b hb hb'
  ·rcases hin hq with ⟨rfl,rfl⟩ | ⟨h1,h2,h3⟩
   ·rw [zh] at hb;exact r.ok.m0 j _ b hmj hb
   ·rw [ze _ _ h1] at hb;exact r.ok.m0 q o b h3 hb
 ·simp only [get] at hx
  have hdr:=r.regs d (.tm j vj) (by simp [get,Nat.beq_refl])
  cases hb:Nat.beq d t with
  | true =>
    obtain rfl:d=t:=Nat.eq_of_beq_eq_true hb
    rw [hb] at hx
    simp only [cond_true,Option.some.injEq] at hx
    subst hx
    have hv:=r.mp_val hj hdr
    refine .tm (by cases hdr with | tm h1 _=>exact h1) fun m hm=>?_
    rw [hwk'] at hm;cases hm
    exact ⟨Nat.le_refl _,fun _=>by rw [zh];exact hv⟩
  | false =>
    rw [hb] at hx
    exact (r.regs t x (by simp only [get,hb];exact hx)).tr hs fun q _=>hkr q
 ·rcases hin hq with ⟨rfl,rfl⟩ | ⟨h1,h2,h3⟩
  ·rw [zh] at hb;exact .inl ⟨j,_,hmj,hb⟩
  ·rw [ze _ _ h1] at hb;exact .inl ⟨q,o,h3,hb⟩
section
variable {P : Program} {cx : Cx} {n : Nat} {Q : Exit → S → Prop} {regs : List (Nat × AV)} {objs : Obs} {ops : Array Oper} {rest : List Oper} {d : Nat} {pos : String} {aft : Array Edge} {ty : Nat}
structure MpT (P:Program) (T:Nat):Prop where
 h:∃ kt et,P.underlying T=some (.map kt et)/\P.underlying kt=some .string/\(P.info? et).bind (·.zero)=some (.int .i64 0)
theorem MpT.zero {et:Nat} (h:(P.info? et).bind (·.zero)=some (.int .i64 0)) (w:World):(zeroValue et).run P w=.ok (.int .i64 0) w:=by
 cases hq:P.info? et with
 | none=>simp [hq] at h
 | some i=>simp [hq] at h;simp [zeroValue,typeInfo,hq,h]
theorem zpm {T k ver:Nat} {x y:Operand} {s:ByteArray} {l:Option (List (ByteArray×Int))} (mt:MpT P T) (hx:S.ev ⟨regs,objs⟩ x=some (.tm k ver)) (hk:get objs k=some (.mp ver l)) (hy:S.ev ⟨regs,objs⟩ y=some (.p (St s))) (hd:Nat.blt d n=true)
  (kk:AWl P cx n ops rest Q ⟨(d,.p (I ((l.bind fun l=>mpGet l s).getD 0)))::regs,objs⟩):AWl P cx n ops (⟨some d,.lookup T x y false,ty,pos,aft,none⟩::rest) Q ⟨regs,objs⟩ :=
 zm (.p (I ((l.bind fun l=>mpGet l s).getD 0))) rfl rfl (by simpa using hd) (fun a w own r=>by
  have hv:=r.mp_val hk (r.ev hx)
  have hvy:=(r.ev hy).val
  obtain ⟨kt,et,h1,h2,h3⟩:=mt.h
  refine ⟨_,?_,.scal rfl⟩
  simp only [execOp,hv,hvy,Sem.run_bind,zg9 h1 h2 (MpT.zero h3 w) (r.mp_ok hk) s,Result.andThen_ok,Sem.run_pure]) kk
theorem zgb {T k ver:Nat} {x y z:Operand} {s:ByteArray} {m:Int} {l:List (ByteArray×Int)} {objs':Obs} (mt:MpT P T) (hx:S.ev ⟨regs,objs⟩ x=some (.tm k ver)) (hk:get objs k=some (.mp ver (some l))) (hy:S.ev ⟨regs,objs⟩ y=some (.p (St s))) (hz:S.ev ⟨regs,objs⟩ z=some (.p (I m)))
  (hq:setq objs k (.mp ver (some (mpPut l s m)))=some objs') (kk:AWl P cx n ops rest Q ⟨regs,objs'⟩):AWl P cx n ops (⟨none,.mapUpdate T x y z,ty,pos,aft,none⟩::rest) Q ⟨regs,objs⟩ :=
 z2w rfl (fun a w own r=>by
  have hv:=r.mp_val hk (r.ev hx)
  have hvy:=(r.ev hy).val
  have hvz:=(r.ev hz).val
  obtain ⟨kt,et,h1,h2,h3⟩:=mt.h
  obtain ⟨b,es,clock,g1,g2,g3⟩:=r.mp_ok hk
  obtain ⟨es',clock',e1,e2⟩:=zga h1 h2 g2 g3 s m
  refine ⟨undef,_,.inr ⟨?_,rfl⟩,own,by rw [z2s hq];exact r.setMp (clock':=clock') hk g1 g2 e2⟩
  simp only [execOp,hv,g1,hvy,hvz,Sem.run_bind,e1,Result.andThen_ok,Sem.run_pure]) kk
theorem zky {T:Nat} (hf:fresh d ⟨regs,objs⟩=true) (h0:get cx.objs0 d=none) (hd:Nat.blt d n=true) (kk:AWl P cx n ops rest Q ⟨(d,.tm d 0)::regs,(d,.mp 0 (some []))::objs⟩) :
  AWl P cx n ops (⟨some d,.makeMap T none,ty,pos,aft,none⟩::rest) Q ⟨regs,objs⟩ :=
 z2w rfl (fun a w own r=>by
  obtain ⟨r',hs⟩:=r.newMp (vr:=0) (w':=w.alloc (.map #[] 0)) d (some []) (.map (some w.heap.size)) hf h0 ⟨_,#[],0,rfl,z4v _ _,rfl⟩ (World.grownBy_alloc w _ none) (fun b hb=>by simp only [blk,Option.some.injEq] at hb;omega)
  refine ⟨.map (some w.heap.size),_,.inl ?_,_,r'.put_same (by simpa using hd) (.tm rfl fun m hm=>?_)⟩
  ·simp [execOp,Instr.makeMap,go_sem,Result.andThen]
  ·have:hwOf ((d,Ob.mp 0 (some []))::objs) d=some 0:=by simp [hwOf,get,Nat.beq_refl]
   rw [this] at hm;cases hm
   exact ⟨Nat.le_refl _,fun _=>by rw [zh]⟩) kk
theorem zcb {w:World} {x y:Operand} {t k e:Nat} (p:Option Nat) (h:P.underlying t=some (.map k e)):(do eqGuard .eql t x y (.map p) (.map none);binOp .eql t (.map p) (.map none):Sem Value).run P w=.ok (.bool p.isNone) w:=by
 have h1:(eqGuard .eql t x y (.map p) (.map none)).run P w=.ok () w:=by simp [eqGuard]
 have h2:binOp .eql t (.map p) (.map none)=(do pure (.bool (<- Op.equal t (.map p) (.map none)))):=rfl
 have h3:(Op.equal t (.map p) (.map none)).run P w=.ok p.isNone w:=by
  show (Op.equalIn (9999+1) t (.map p) (.map none)).run P w=_
  generalize 9999=dd
  cases p<;>simp [Op.equalIn,run_underlying h]
 simp only [Sem.run_bind,h1,h2,h3,Result.andThen_ok,Sem.run_pure]
theorem zkz {T k ver yT kt et:Nat} {x y:Operand} {l:Option (List (ByteArray×Int))} (hT:P.underlying T=some (.map kt et)) (hx:S.ev ⟨regs,objs⟩ x=some (.tm k ver)) (hk:get objs k=some (.mp ver l)) (hy:S.ev ⟨regs,objs⟩ y=some (.p (.v (.map none)))) (hd:Nat.blt d n=true)
  (kk:AWl P cx n ops rest Q ⟨(d,.p (B l.isNone))::regs,objs⟩):AWl P cx n ops (⟨some d,.binOp .eql T x y yT,ty,pos,aft,none⟩::rest) Q ⟨regs,objs⟩ :=
 zm (.p (B l.isNone)) rfl rfl (by simpa using hd) (fun a w own r=>by
  have hv:=r.mp_val hk (r.ev hx)
  have hvy:=(r.ev hy).val
  have hm:=r.mp_ok hk
  obtain ⟨p,e1,e2⟩:∃ p,own k=.map p/\p.isNone=l.isNone:=by
   cases l with
   | none=>exact ⟨none,hm,rfl⟩
   | some l=>obtain ⟨b,_,_,h1,_⟩:=hm;exact ⟨some b,h1,rfl⟩
  refine ⟨.bool l.isNone,?_,.scal rfl⟩
  have:=zcb (x:=x) (y:=y) (w:=w) p hT
  simp only [execOp,hv,hvy,e1,Sem.run_bind] at this ⊢
  rw [this,e2];simp) kk
structure ClE (P:Program) (f:Nat):Prop where
 h:∀ (w:World) (args:Array Value),(callFunc f args).run P w=((Extern.MapsClone.clone args).run P w).andThen fun v w'=>.ok (.value v) w'
theorem zpn {f T k ver:Nat} {x:Operand} {ts:Array Nat} {l:List (ByteArray×Int)} (ce:ClE P f) (hx:S.ev ⟨regs,objs⟩ x=some (.ifc T (.tm k ver))) (hk:get objs k=some (.mp ver (some l))) (hf:fresh d ⟨regs,objs⟩=true) (h0:get cx.objs0 d=none) (hd:Nat.blt d n=true)
  (kk:AWl P cx n ops rest Q ⟨(d,.ifc T (.tm d 0))::regs,(d,.mp 0 (some l))::objs⟩) :
  AWl P cx n ops (⟨some d,.call ⟨.value (.func f),#[x],ts⟩,ty,pos,aft,none⟩::rest) Q ⟨regs,objs⟩ :=
 z2w rfl (fun a w own r=>by
  have hxv:=r.ev hx
  obtain ⟨b,es,clock,g1,g2,g3⟩:=r.mp_ok hk
  have hv:a.eval x=.iface T (.map (some b)):=by
   generalize a.eval x=v at hxv
   cases hxv with
   | ifc h=>rw [r.mp_val hk h,g1]
  obtain ⟨r',hs⟩:=r.newMp (vr:=0) (w':=w.alloc (.map es clock)) d (some l) (.map (some w.heap.size)) hf h0 ⟨_,es,clock,rfl,z4v _ _,g3⟩ (World.grownBy_alloc w _ none) (fun b hb=>by simp only [blk,Option.some.injEq] at hb;omega)
  refine ⟨.iface T (.map (some w.heap.size)),_,.inl ?_,_,r'.put_same (by simpa using hd) (.ifc (.tm rfl fun m hm=>?_))⟩
  ·have e:(Extern.MapsClone.clone #[.iface T (.map (some b))]).run P w=.ok (.iface T (.map (some w.heap.size))) (w.alloc (.map es clock)):=by
    have e:Extern.MapsClone.clone #[.iface T (.map (some b))]=(getObj b >>= fun o=>match o with
     | .map entries clock=>(newObj (.map entries clock) >>= fun n=>pure (.iface T (.map (some n))))
     | _=>stuck "maps.clone: a map expected"):=rfl
    rw [e]
    simp [MapKept.run_getObj_map g2,Result.andThen,go_sem]
   simp only [execOp,resolve,Act.eval,Deferred.ofValue,Sem.run_bind,Sem.run_pure,Result.andThen_ok,invoke]
   rw [ce.h]
   simp [hv,e,Result.andThen]
  ·have:hwOf ((d,Ob.mp 0 (some l))::objs) d=some 0:=by simp [hwOf,get,Nat.beq_refl]
   rw [this] at hm;cases hm
   exact ⟨Nat.le_refl _,fun _=>by rw [zh]⟩) kk
theorem zl0 {T X:Nat} {x:Operand} {av:AV} (hT:P.concrete T=true) (hx:S.ev ⟨regs,objs⟩ x=some (.ifc T av)) (hd:Nat.blt d n=true) (kk:AWl P cx n ops rest Q ⟨(d,av)::regs,objs⟩) :
  AWl P cx n ops (⟨some d,.typeAssert x X T false,ty,pos,aft,none⟩::rest) Q ⟨regs,objs⟩ :=
 z2w rfl (fun a w own r=>by
  have h:=r.ev hx
  generalize hv:a.eval x=v at h
  cases h with
  | ifc h =>
    rename_i u
    refine ⟨u,w,.inl ?_,own,r.put_same (by simpa using hd) h⟩
    have hc:(Instr.typeAssert (.iface T u) X T false).run P w=.ok u w:=by
     unfold Program.concrete at hT
     cases hq:P.underlying T with
     | none=>simp [hq] at hT
     | some dd=>cases dd<;>first | (simp [hq] at hT;done) | simp [Instr.typeAssert,run_underlying hq]
    simp only [execOp,hv,Sem.run_bind,hc,Result.andThen_ok,Sem.run_pure]) kk
theorem zrq (a b:ByteArray):(a.toList==b.toList)=decide (a=b):=by
 rw [<- beq_toListBytes]
 cases hb:a==b with
 | true=>exact (decide_eq_true ((MapKept.bytes_beq a b).1 hb)).symm
 | false=>exact (decide_eq_false fun e=>by rw [(MapKept.bytes_beq a b).2 e] at hb;cases hb).symm
theorem zpo {t:Nat} {x y:Operand} {a b:ByteArray}:∀ w,(do eqGuard .eql t x y (.string a) (.string b);binOp .eql t (.string a) (.string b):Sem Value).run P w=.ok (.bool (decide (a=b))) w:=fun w=>by
 have h1:(eqGuard .eql t x y (.string a) (.string b)).run P w=.ok () w:=by simp [eqGuard]
 have h2:(binOp .eql t (.string a) (.string b)).run P w=.ok (.bool (decide (a=b))) w:=by
  rw [<- zrq];rfl
 simp only [Sem.run_bind,h1,h2,Result.andThen_ok]
theorem zpp {t:Nat} {x y:Operand} {a b:ByteArray}:∀ w,(do eqGuard .neq t x y (.string a) (.string b);binOp .neq t (.string a) (.string b):Sem Value).run P w=.ok (.bool (decide (a≠b))) w:=fun w=>by
 have h1:(eqGuard .neq t x y (.string a) (.string b)).run P w=.ok () w:=by simp [eqGuard]
 have h2:(binOp .neq t (.string a) (.string b)).run P w=.ok (.bool (decide (a≠b))) w:=by
  have:decide (a≠b)=!(decide (a=b)):=by by_cases h:a=b<;>simp [h]
  rw [this,<- zrq];rfl
 simp only [Sem.run_bind,h1,h2,Result.andThen_ok]
end
def bat (s:ByteArray) (i:Nat):Int:=if h:i<s.size then (s[i].toNat:Int) else 0
theorem zrr (s:ByteArray) (i:Nat):0<=bat s i/\bat s i<=255:=by
 unfold bat
 split
 ·have:=s[i].toNat_lt;omega
 ·omega
section
variable {P : Program} {cx : Cx} {n : Nat} {Q : Exit → S → Prop} {regs : List (Nat × AV)} {objs : Obs} {ops : Array Oper} {rest : List Oper} {d : Nat} {pos : String} {aft : Array Edge} {ty : Nat}
theorem zgc {T:Nat} {x y:Operand} {s:ByteArray} {k:IntKind} {i:Int} (hT:P.underlying T=some .string) (hx:S.ev ⟨regs,objs⟩ x=some (.p (St s))) (hy:S.ev ⟨regs,objs⟩ y=some (.p (.v (.int k i)))) (h0:0<=i) (h1:i<(s.size:Int)) (hd:Nat.blt d n=true)
  (kk:AWl P cx n ops rest Q ⟨(d,.p (U8 (bat s i.toNat)))::regs,objs⟩):AWl P cx n ops (⟨some d,.index T x y,ty,pos,aft,none⟩::rest) Q ⟨regs,objs⟩ :=
 zm (.p (U8 (bat s i.toNat))) rfl rfl (by simpa using hd) (fun a w own r=>by
  have hvx:=(r.ev hx).val
  have hvy:=(r.ev hy).val
  refine ⟨.int .u8 (bat s i.toNat),?_,.scal rfl⟩
  have hlt:i.toNat<s.size:=by omega
  simp only [execOp,hvx,hvy,Sem.run_bind]
  rw [run_index_string w T s k i hT,dif_pos ⟨h0,h1⟩]
  simp [bat,hlt,Result.andThen]) kk
end
theorem z8n (w:World) (o:Obj):w.grownBy (w.drew.alloc o) none :=
 ⟨rfl,rfl,rfl,(World.grownBy_alloc w.drew o none).size,fun b hb hn=>(World.grownBy_alloc w.drew o none).block b hb hn⟩
section
variable {P : Program} {cx : Cx} {n : Nat} {Q : Exit → S → Prop} {regs : List (Nat × AV)} {objs : Obs} {ops : Array Oper} {rest : List Oper} {d : Nat} {pos : String} {aft : Array Edge} {ty : Nat}
theorem zl1 {T E:Nat} {x:Operand} (si:SI P T E) (hx:S.ev ⟨regs,objs⟩ x=some (.p nilS)) (hd:Nat.blt d n=true) (kk:AWl P cx n ops rest Q ⟨(d,.p (I 0))::regs,objs⟩) :
  AWl P cx n ops (⟨some d,.call ⟨.builtin .cap,#[x],#[T]⟩,ty,pos,aft,none⟩::rest) Q ⟨regs,objs⟩ :=
 zm (.p (I 0)) rfl rfl (by simpa using hd) (fun a w own r=>by
  have hv:=(r.ev hx).val
  refine ⟨.int .i64 0,?_,.scal rfl⟩
  simp only [execOp,resolve,invoke,builtin,Sem.run_bind,Sem.run_pure,Result.andThen_ok,List.map_toArray,List.map_cons,List.map_nil,hv]
  simp [Builtin.cap_,run_underlying si.h,goInt]) kk
theorem zl2 {T E sz:Nat} {ag:Bool} {x y:Operand} {kd:IntKind} (si:SI P T E) (ti:TI P E sz ag) (hx:S.ev ⟨regs,objs⟩ x=some (.p nilS)) (hy:S.ev ⟨regs,objs⟩ y=some (.p (.v (.int kd 0)))) (hd:Nat.blt d n=true)
  (kk:AWl P cx n ops rest Q ⟨(d,.p nilS)::regs,objs⟩) :
  AWl P cx n ops (⟨some d,.slice T x none (some y) none,ty,pos,aft,none⟩::rest) Q ⟨regs,objs⟩ :=
 zm (.p nilS) rfl rfl (by simpa using hd) (fun a w own r=>by
  have hv:=(r.ev hx).val
  have hvy:=(r.ev hy).val
  have hel:P.underlying T=some (.slice (P.elem T)):=by simp [Program.elem,si.h]
  have hel':P.elem T=E:=by simp [Program.elem,si.h]
  refine ⟨.slice none 0 0,?_,.scal rfl⟩
  simp only [execOp,hv,hvy,Option.map_some,Option.map_none,Sem.run_bind]
  rw [run_sliceAt_slice w T _ _ _ _ hel,run_slice_h w T none 0 0 hel kd 0 (by omega) (by omega),z2y hel' ti w]
  simp [Result.andThen_ok,sliced]) kk
theorem zb5 {T Tn E sz bytes:Nat} {x y:Operand} {kd kn:IntKind} {m:Nat} {zs:List Value} (si:SI P T E) (hTn:P.underlying Tn=some (.int kn)) (ei:EI P E sz bytes) (tz:TZ P E zs) (hzs:zs.length=sz) (hsz:0<sz) (hx:S.ev ⟨regs,objs⟩ x=some (.p nilS)) (hy:S.ev ⟨regs,objs⟩ y=some (.p (.v (.int kd (m:Int)))))
  (hm:0<m) (hb:m * bytes<=140737488355328) (h63:m<=140737488355328) (hf:fresh d ⟨regs,objs⟩=true) (h0:get cx.objs0 d=none) (hd:Nat.blt d n=true)
  (kk:AWl P cx n ops rest Q ⟨(d,.tm d 0)::regs,(d,.mu E sz 0 (List.replicate m (zs.map .v)))::objs⟩) :
  AWl P cx n ops (⟨some d,.call ⟨.builtin .append,#[x,y],#[T,Tn]⟩,ty,pos,aft,none⟩::rest) Q ⟨regs,objs⟩ :=
 z2w rfl (fun a w own r=>by
  have hv:=(r.ev hx).val
  have hvy:=(r.ev hy).val
  obtain ⟨i,z,hi,hz,hs,hby,hzsz⟩:=ei.get
  obtain ⟨z',g1,g2⟩:=tz.h
  obtain rfl:z=z':=by simpa [hi,hz] using g1
  have hfit:Builtin.nextslicecap (0+m) 0 * i.bytes<=281474976710656:=growslice_fits (by omega) (by rw [hby];simpa using hb)
  have hrun:=Go.Lib.run_append_grow_zeros (P:=P) w T Tn ty E i z kd kn si.h hTn hi hz none 0 0 [] rfl m hm (by omega) (by omega) (by omega) (by rw [hby];omega) hfit
  rw [Nat.zero_add] at hrun
  obtain ⟨hl1,hl2,hl3⟩:=z7o (n:=m) (sz:=sz) hzsz hsz
  have hcap:=grownCap_ge w m 0 E
  have hcm:=grownCap_le_maxLen w m 0 E (by simp only [maxLen];omega)
  have hl1':=(z7o (n:=grownCap w m 0 E-m) (sz:=sz) hzsz hsz).1
  have hlen:(List.replicate m (zs.map PV.v)).length=m:=by simp
  have hmul:m * sz+(grownCap w m 0 E-m) * sz=grownCap w m 0 E * sz:=by rw [<- Nat.add_mul];congr 1;omega
  generalize hcur:(([]:List Value).toArray++Builtin.zeroCells z.cells m++Builtin.zeroCells z.cells (grownCap w m 0 E-m))=cur at hrun
  have hcl:cur.toList=(Builtin.zeroCells z.cells m).toList++(Builtin.zeroCells z.cells (grownCap w m 0 E-m)).toList:=by rw [<- hcur];simp
  have hcs:cur.size=grownCap w m 0 E * sz:=by rw [<- Array.length_toList,hcl,List.length_append,hl1,hl1',hmul]
  have hown:(w.drew.alloc (.cells cur E)).ownsRow 0 E sz (.slice (some ⟨w.heap.size,0,none⟩) m (grownCap w m 0 E)) m (Builtin.zeroCells z.cells m).toList :=
   ⟨hl1,.inr ⟨w.heap.size,_,cur,rfl,Nat.zero_le _,z4v w.drew _,hcap,hcm,hcs,by rw [hcl,List.take_left' hl1]⟩⟩
  have key:=r.newMu (vr:=0) (w':=w.drew.alloc (.cells cur E)) d E sz (List.replicate m (zs.map .v)) (.slice (some ⟨w.heap.size,0,none⟩) m (grownCap w m 0 E)) (Builtin.zeroCells z.cells m).toList hf h0 (by rw [hlen];exact hown) (z8n w _) (fun b hb=>by simp only [blk,Option.some.injEq] at hb;omega)
   (fun row hr=>by rw [(List.mem_replicate.1 hr).2];simpa using hzs)
   (fun _ q row j y hq hj=>by
    have hqm:q<m:=by have:=(List.getElem?_eq_some_iff.1 hq).1;simpa using this
    simp only [List.getElem?_replicate,hqm,if_true,Option.some.injEq] at hq
    subst hq
    have hjl:j<zs.length:=by have:=(List.getElem?_eq_some_iff.1 hj).1;simpa using this
    rw [hl2 q j hqm (by omega),g2]
    rw [List.getElem?_map,List.getElem?_eq_getElem hjl] at hj
    simp only [Option.map_some,Option.some.injEq] at hj
    subst hj
    have e:zs.toArray.getD j undef=zs[j]:=by simp [Array.getD_eq_getD_getElem?,hjl]
    rw [e]
    exact .v (List.all_eq_true.1 tz.one _ (List.getElem_mem hjl)))
  refine ⟨_,_,.inl ?_,_,key.1.put_tm (d:=d) (k:=d) (T:=E) (sz:=sz) (ver:=0) (xs:=List.replicate m (zs.map .v)) (by simpa using hd) (by simp [get,Nat.beq_refl]) (by rw [zh]) rfl⟩
  simp only [execOp,resolve,invoke,builtin,Sem.run_bind,Sem.run_pure,Result.andThen_ok,List.map_toArray,List.map_cons,List.map_nil,hv,hvy,hrun]) kk
end
theorem Sub.nn {k sz:Nat} {xs:List (List PV)}:Sub (.nn k sz xs) (.ts k sz xs):=fun w M own hw v h=>by
 cases h with | nn h ho _=>exact .ts h ho
theorem Sub.nnp {k sz:Nat} {xs:List (List PV)}:Sub (.nn k sz xs) (.p (.sl sz xs)):=fun w M own hw v h=>by
 cases h with | nn h _ _=>exact .p h
theorem Le.muP {P:Program} {cx:Cx} {n:Nat} {regs:List (Nat×AV)} {objs:Obs} {k t T sz ver:Nat} {xs:List (List PV)} (hk:get objs k=some (.mu T sz ver xs)) (ht:get regs t=some (.tm k ver)) :
  Le P cx n ⟨regs,objs⟩ ⟨(t,.p (.sl sz xs))::regs,oth [k] objs⟩:=fun a w ⟨own,r⟩=>by
 have hmem:=zu hk
 have hn':((oth [k] objs).map (·.1)).Nodup:=((z5b [k] objs).map _).nodup r.ok.keys
 have hs:∀ x,x∈oth [k] objs->x∈objs:=fun x hx=>(z5b [k] objs).mem hx
 have hok:=r.ok.part hs hn' cx.M0 (fun b i h=>.inl h) (fun k' o b hk' hb=>r.ok.m0 k' o b (hs _ hk') hb)
 obtain ⟨cells,e1,e2,e3⟩:=r.ok.obs k _ hmem
 have hwk:hwOf (oth [k] objs) k=none:=z6b fun h=>by obtain ⟨⟨_,o⟩,ho,rfl⟩:=List.mem_map.1 h;exact (oth_mem.1 ho).2 (by simp)
 have hkr:∀ j,Kr own own (hwOf objs) (hwOf (oth [k] objs)) j:=fun j=>by
  by_cases e:j=k
  ·subst e;exact .inr (.inl ⟨hwk,.inl rfl⟩)
  ·exact .inl ⟨rfl,z3f hn' r.ok.keys fun o=>by rw [oth_mem];simp [e]⟩
 have hst:Stp w (Mu cx.M0 own objs) w (Mu cx.M0 own (oth [k] objs)):=(Stp.refl w _).less hok.2
 have htr:∀ {x:AV} {v:Value},RepA w (Mu cx.M0 own objs) own (hwOf objs) x v->RepA w (Mu cx.M0 own (oth [k] objs)) own (hwOf (oth [k] objs)) x v:=fun h =>
  h.tr hst fun j _=>hkr j
 refine ⟨own,{ defs:=r.defs,size:=r.size,ok:=hok.1,regs:=fun u x hx=>?_,stp:=r.stp.less hok.2,fix:=fun j o hj=>(r.fix j o hj).trans (hkr j),fr:=r.fr.trans ⟨fun _ _ _=>rfl,fun j o c hj hc=>.inl ⟨j,o,hs _ hj,hc⟩,Nat.le_refl _⟩ }⟩
 simp only [get] at hx
 cases hb:Nat.beq t u with
 | false=>rw [hb] at hx;exact htr (r.regs u x hx)
 | true =>
   obtain rfl:t=u:=Nat.eq_of_beq_eq_true hb
   rw [hb] at hx
   simp at hx
   subst hx
   rw [r.tm_val hk (r.regs t _ ht)]
   refine .p (Rep.of_own e1 rfl (fun i row hi=>e2 row (List.mem_of_getElem? hi)) (fun b i hbk _=>?_) (fun i row j x hi hj=>(e3 i row j x hi hj).stp hst))
   rintro (h | ⟨k',o,hk',hm⟩)
   ·exact r.ok.m0 k _ b hmem hbk _ h
   ·have:=oth_mem.1 hk'
    exact r.ok.inj k _ k' o hmem this.1 (fun e=>this.2 (by simp [e])) b hbk (z4h hm)
theorem zwe {w:World} {M:Nat->Nat->Prop} {sz:Nat} {xs:List (List PV)} {c:Nat} {l:Nat} (h:Rep w M (.sl sz xs) (.slice none l c)):xs=[]:=by
 cases h with | nil=>rfl
section
variable {P : Program} {cx : Cx} {n : Nat} {Q : Exit → S → Prop} {regs : List (Nat × AV)} {objs : Obs} {ops : Array Oper} {rest : List Oper} {d : Nat} {pos : String} {aft : Array Edge} {ty : Nat}
theorem zrs {T E sz bytes:Nat} {x y:Operand} {kd ke:IntKind} {m:Nat} (si:SI P T E) (ei:EI P E sz bytes) (hx:S.ev ⟨regs,objs⟩ x=some (.p (.v (.int kd 0)))) (hy:S.ev ⟨regs,objs⟩ y=some (.p (.v (.int ke (m:Int))))) (hb:m * bytes<=140737488355328) (h63:m<=140737488355328)
  (hf:fresh d ⟨regs,objs⟩=true) (h0:get cx.objs0 d=none) (hd:Nat.blt d n=true) (kk:AWl P cx n ops rest Q ⟨(d,.nn d sz [])::regs,(d,.ar E sz 0)::objs⟩) :
  AWl P cx n ops (⟨some d,.makeSlice T x y,ty,pos,aft,none⟩::rest) Q ⟨regs,objs⟩ :=
 z2w rfl (fun a w own r=>by
  have hv:=(r.ev hx).val
  have hvy:=(r.ev hy).val
  obtain ⟨i,z,hi,hz,hs,hby,hzsz⟩:=ei.get
  obtain ⟨w',hr,hown,hg⟩:=run_make_own (P:=P) (w:=w) 0 T E i z sz si.h hi hz hs kd ke m (by rw [hby,Nat.mul_comm];omega) (by simp only [maxLen];omega) (Nat.zero_le _)
  have key:=r.newAr d E sz 0 (.slice (some ⟨w.heap.size,0,none⟩) 0 m) [] hf h0 hown hg (fun b hb=>by simp only [blk,Option.some.injEq] at hb;omega)
  have hw:hwOf ((d,Ob.ar E sz 0)::objs) d=some 0:=by simp [hwOf,get,Nat.beq_refl]
  have hrep:RepA w' (Mu cx.M0 (upd own d (.slice (some ⟨w.heap.size,0,none⟩) 0 m)) ((d,Ob.ar E sz 0)::objs)) (upd own d (.slice (some ⟨w.heap.size,0,none⟩) 0 m)) (hwOf ((d,Ob.ar E sz 0)::objs)) (.nn d sz []) (.slice (some ⟨w.heap.size,0,none⟩) 0 m):=by
   refine .nn ?_ (fun q hq=>by rw [hw] at hq;cases hq;exact ⟨Nat.le_refl _,fun _=>by rw [zh]⟩) ⟨_,_,_,rfl⟩
   exact .sl (xs:=[]) ⟨w.heap.size,0,none⟩ m (fun _ _=>undef) (Nat.zero_le _) (by omega) (by simp) (by simp) (by simp) (by simp)
  refine ⟨_,w',.inl ?_,_,key.1.put_same (by simpa using hd) hrep⟩
  simp only [execOp,hv,hvy,hr,Sem.run_bind,Result.andThen_ok,Sem.run_pure]) kk
theorem zrt {T E sz bytes:Nat} {x:Operand} {kd:IntKind} {m:Int} {zs:List Value} (si:SI P T E) (ei:EI P E sz bytes) (tz:TZ P E zs) (hx:S.ev ⟨regs,objs⟩ x=some (.p (.v (.int kd m)))) (hm:0<=m) (hb:m.toNat * bytes<=140737488355328) (h63:m.toNat<=140737488355328)
  (hf:fresh d ⟨regs,objs⟩=true) (h0:get cx.objs0 d=none) (hd:Nat.blt d n=true) (kk:AWl P cx n ops rest Q ⟨(d,.tm d 0)::regs,(d,.mu E sz 0 (List.replicate m.toNat (zs.map .v)))::objs⟩) :
  AWl P cx n ops (⟨some d,.makeSlice T x x,ty,pos,aft,none⟩::rest) Q ⟨regs,objs⟩:=by
 obtain ⟨m,rfl⟩:∃ q:Nat,m=q:=⟨m.toNat,by omega⟩
 rw [Int.toNat_natCast] at *
 exact z2w rfl (fun a w own r=>by
  have hv:=(r.ev hx).val
  obtain ⟨i,z,hi,hz,hs,hby,hzsz⟩:=ei.get
  obtain ⟨z',g1,g2⟩:=tz.h
  obtain rfl:z=z':=by simpa [hi,hz] using g1
  have hzl:zs.length=sz:=by rw [<- hzsz,g2];simp
  obtain ⟨w',hr,hown,hg⟩:=run_make_full (P:=P) w 0 T E i z sz si.h hi hz hs kd kd m (by rw [hby,Nat.mul_comm];omega) (by simp only [maxLen];omega) (Nat.zero_le _)
  have hlen:(List.replicate m (zs.map PV.v)).length=m:=by simp
  have hmc:∀ q j,q<m->j<sz->(madeCells z.cells (m * sz)).toList.getD (q * sz+j) undef=z.cells.getD j undef:=fun q j hq hj=>by
   have h1:q * sz+j<m * sz:=by
    have:(q+1) * sz<=m * sz:=Nat.mul_le_mul_right _ (by omega)
    rw [Nat.add_mul] at this;omega
   have h2:(q * sz+j) % sz=j:=by rw [Nat.add_comm,Nat.add_mul_mod_self_right,Nat.mod_eq_of_lt hj]
   have h3:j<z.cells.size:=by omega
   simp [madeCells,List.getD_eq_getElem?_getD,h1,hzsz,h2,h3,getElem!_pos z.cells j h3,Array.getElem?_eq_getElem h3]
  have key:=r.newMu (vr:=0) (w':=w') d E sz (List.replicate m (zs.map .v)) (.slice (some ⟨w.heap.size,0,none⟩) m m) (madeCells z.cells (m * sz)).toList hf h0 (by rw [hlen];exact hown) hg (fun b hb=>by simp only [blk,Option.some.injEq] at hb;omega)
   (fun row hr=>by rw [(List.mem_replicate.1 hr).2];simpa using hzl)
   (fun _ q row j y hq hj=>by
    have hqm:q<m:=by have:=(List.getElem?_eq_some_iff.1 hq).1;simpa using this
    simp only [List.getElem?_replicate,hqm,if_true,Option.some.injEq] at hq
    subst hq
    have hjl:j<zs.length:=by have:=(List.getElem?_eq_some_iff.1 hj).1;simpa using this
    rw [hmc q j hqm (by omega),g2]
    rw [List.getElem?_map,List.getElem?_eq_getElem hjl] at hj
    simp only [Option.map_some,Option.some.injEq] at hj
    subst hj
    have e:zs.toArray.getD j undef=zs[j]:=by simp [Array.getD_eq_getD_getElem?,hjl]
    rw [e]
    exact .v (List.all_eq_true.1 tz.one _ (List.getElem_mem hjl)))
  refine ⟨_,w',.inl ?_,_,key.1.put_tm (d:=d) (k:=d) (T:=E) (sz:=sz) (ver:=0) (xs:=List.replicate m (zs.map .v)) (by simpa using hd) (by simp [get,Nat.beq_refl]) (by rw [zh]) rfl⟩
  simp only [execOp,hv,hr,Sem.run_bind,Result.andThen_ok,Sem.run_pure]) kk
theorem zgd {T E sz bytes k m sz2:Nat} {s x:Operand} {xs ys:List (List PV)} {av:AV} {objs':Obs} (si:SI P T E) (ei:EI P E sz bytes) (hs:S.ev ⟨regs,objs⟩ s=some (.nn k sz xs)) (hk:get objs k=some (.ar E sz m)) (hm:m=xs.length)
  (hx:S.ev ⟨regs,objs⟩ x=some av) (hr:av.rows=some (sz2,ys)) (hsz:Nat.blt 0 sz=true) (h2:sz2=sz\/ys=[]) (hq:setq objs k (.ar E sz (xs.length+ys.length))=some objs') (hd:Nat.blt d n=true) (hb:(xs.length+ys.length) * bytes<=140737488355328) (h63:xs.length+ys.length<=140737488355328)
  (kk:AWl P cx n ops rest Q ⟨(d,.nn k sz (xs++ys))::regs,objs'⟩) :
  AWl P cx n ops (⟨some d,.call ⟨.builtin .append,#[s,x],#[T,T]⟩,ty,pos,aft,none⟩::rest) Q ⟨regs,objs⟩ :=
 z2w rfl (fun a w own r=>by
  obtain rfl:=z2s hq
  have hsv:=r.ev hs
  have hxv:=(r.ev hx).rows hr
  generalize hvs:a.eval s=vs at hsv
  generalize hvx:a.eval x=vx at hxv
  have hw:hwOf objs k=some m:=by simp [hwOf,hk]
  cases hsv with
  | nn h ho hn =>
    have hv:=(ho m hw).2 hm.symm
    obtain ⟨v',w',e1,e2,e3⟩:=r.app si ei (by simpa using hsz) hk hm hv h hxv h2 hb h63
    refine ⟨v',w',.inl (z5p (by rw [hvs,hvx];exact e1)),upd own k v',e2.put_same (by simpa using hd) ?_⟩
    cases e3 with
    | ts g1 g2 =>
      refine .nn g1 g2 ?_
      have hok:=e2.ok.obs k (.ar E sz (xs.length+ys.length)) (z2c hk)
      obtain ⟨cells,hc⟩:=hok
      rw [zh] at hc
      rcases hc.2 with ⟨h3,h4⟩ | ⟨g,cap,cur,h3,_⟩
      ·
       have hy:ys=[]:=List.eq_nil_of_length_eq_zero (by omega)
       have hx0:xs=[]:=List.eq_nil_of_length_eq_zero (by omega)
       subst hy hx0
       exfalso
       obtain ⟨ad,l,c,hn⟩:=hn
       have hsame:v'=own k:=by
        rw [hv] at hn
        have hrun:=zkr (P:=P) (w:=w) (ty:=ty) si ei (by simpa using hsz) (v:=own k) (n:=0) (xs:=[]) (by
         obtain ⟨cs,hcs⟩:=r.ok.obs k _ (zu hk)
         simp only [hm,List.length_nil] at hcs
         have:cs=[]:=List.eq_nil_of_length_eq_zero (by have:=hcs.1;simpa using this)
         rw [this] at hcs;exact hcs) (y:=vx) (m:=0) (news:=[]) (by
          rcases hxv with _ | _ | _<;>first | exact .inl ⟨rfl,rfl,rfl⟩ | exact .inr ⟨_,_,rfl,by simp,by simp⟩) (by simp) (by omega) (by omega)
        obtain ⟨v2,w2,q1,q2,q3,q4⟩:=hrun
        rw [<- hv,e1] at q1
        cases q1
        exact q3 rfl
       rw [hsame,<- hv,hn] at h3;cases h3
      ·exact ⟨_,_,_,h3⟩) kk
theorem zpq {xT yT e k sz:Nat} {x y:Operand} {xs:List (List PV)} (hT:P.underlying xT=some (.slice e)) (hx:S.ev ⟨regs,objs⟩ x=some (.nn k sz xs)) (hy:S.ev ⟨regs,objs⟩ y=some (.p nilS)) (hd:Nat.blt d n=true) (kk:AWl P cx n ops rest Q ⟨(d,.p (B false))::regs,objs⟩) :
  AWl P cx n ops (⟨some d,.binOp .eql xT x y yT,ty,pos,aft,none⟩::rest) Q ⟨regs,objs⟩ :=
 zm (.p (B false)) rfl rfl (by simpa using hd) (fun a w own r=>by
  have h:=r.ev hx
  have h2:=(r.ev hy).val
  generalize hv:a.eval x=v at h
  cases h with
  | nn _ _ hn =>
    obtain ⟨ad,l,c,rfl⟩:=hn
    refine ⟨.bool false,?_,.scal rfl⟩
    have h3:=z8m (x:=x) (y:=y) (a:=some ad) (l:=l) (c:=c) hT w
    simp only [execOp,hv,h2,Sem.run_bind] at h3 ⊢
    rw [h3];simp) kk
theorem zi4 {xT yT e sz:Nat} {x y:Operand} {av:AV} {xs:List (List PV)} (hT:P.underlying xT=some (.slice e)) (hx:S.ev ⟨regs,objs⟩ x=some av) (hr:av.rows=some (sz,xs)) (hy:S.ev ⟨regs,objs⟩ y=some (.p nilS)) (hd:Nat.blt d n=true)
  (kk:∀ b:Bool,(b=true->xs=[])->AWl P cx n ops rest Q ⟨(d,.p (B b))::regs,objs⟩) :
  AWl P cx n ops (⟨some d,.binOp .eql xT x y yT,ty,pos,aft,none⟩::rest) Q ⟨regs,objs⟩:=fun a w ⟨own,r⟩=>by
 have h:=(r.ev hx).rows hr
 have h2:=(r.ev hy).val
 obtain ⟨ad,cap,e1,_,_⟩:=h.sl_len
 have h3:=z8m (x:=x) (y:=y) (a:=ad) (l:=xs.length) (c:=cap) hT w
 refine wpList_plain rfl fun K hK=>?_
 unfold Oper.wp
 have hrun:(execOp a.eval ⟨some d,.binOp .eql xT x y yT,ty,pos,aft,none⟩).run P w=.ok (.value (.bool ad.isNone)) w:=by
  simp only [execOp,e1,h2,Sem.run_bind] at h3 ⊢
  rw [h3];simp
 rw [hrun]
 refine hK _ _ (kk ad.isNone (fun hb=>?_) _ _ ⟨own,r.put_same (by simpa using hd) (.scal rfl)⟩)
 rw [Option.isNone_iff_eq_none] at hb
 subst hb
 rw [e1] at h
 exact zwe h
theorem zpr {xT yT e:Nat} {x y:Operand} {cs:List PV} (hT:P.underlying xT=some (.pointer e)) (hx:S.ev ⟨regs,objs⟩ x=some (.p (.ip cs))) (hy:S.ev ⟨regs,objs⟩ y=some (.p (.v (.pointer none)))) (hd:Nat.blt d n=true) (kk:AWl P cx n ops rest Q ⟨(d,.p (B false))::regs,objs⟩) :
  AWl P cx n ops (⟨some d,.binOp .eql xT x y yT,ty,pos,aft,none⟩::rest) Q ⟨regs,objs⟩ :=
 zm (.p (B false)) rfl rfl (by simpa using hd) (fun a w own r=>by
  obtain ⟨ad,f,hv,_⟩:=Rep.ip_inv (r.ev hx)
  have h2:=(r.ev hy).val
  refine ⟨.bool false,?_,.scal rfl⟩
  have h3:=zg7 (x:=x) (y:=y) (p:=some ad) hT w
  simp only [execOp,hv,h2,Sem.run_bind] at h3 ⊢
  rw [h3];simp) kk
theorem zru {T e:Nat} {x y:Operand} {p q:Option Addr} {b:Bool} (h:∀ w,(do eqGuard .eql T x y (.pointer p) (.pointer q);binOp .eql T (.pointer p) (.pointer q):Sem Value).run P w=.ok (.bool b) w) :
  ∀ w,(do eqGuard .neq T x y (.pointer p) (.pointer q);binOp .neq T (.pointer p) (.pointer q):Sem Value).run P w=.ok (.bool !b) w:=fun w=>by
 have h1:(eqGuard .neq T x y (.pointer p) (.pointer q)).run P w=.ok () w:=by simp [eqGuard]
 have h0:(eqGuard .eql T x y (.pointer p) (.pointer q)).run P w=.ok () w:=by simp [eqGuard]
 have h2:binOp .eql T (.pointer p) (.pointer q)=(do pure (.bool (<- Op.equal T (.pointer p) (.pointer q)))):=rfl
 have h3:binOp .neq T (.pointer p) (.pointer q)=(do pure (.bool (!(<- Op.equal T (.pointer p) (.pointer q))))):=rfl
 have:=h w
 simp only [Sem.run_bind,h0,h2,Result.andThen_ok] at this
 simp only [Sem.run_bind,h1,h3,Result.andThen_ok]
 cases hq:(Op.equal T (.pointer p) (.pointer q)).run P w with
 | ok c w'=>rw [hq] at this;simp at this;simp [this]
 | halt c w'=>rw [hq] at this;simp [Result.andThen] at this
theorem zcc {xT yT e:Nat} {x y:Operand} {av:AV} (hT:P.underlying xT=some (.pointer e)) (hx:S.ev ⟨regs,objs⟩ x=some av) (hav:(match av with | .ptr _ _ | .p (.ip _)=>true | _=>false)=true) (hy:S.ev ⟨regs,objs⟩ y=some (.p (.v (.pointer none)))) (hd:Nat.blt d n=true) (kk:AWl P cx n ops rest Q ⟨(d,.p (B true))::regs,objs⟩) :
  AWl P cx n ops (⟨some d,.binOp .neq xT x y yT,ty,pos,aft,none⟩::rest) Q ⟨regs,objs⟩ :=
 zm (.p (B true)) rfl rfl (by simpa using hd) (fun a w own r=>by
  have h2:=(r.ev hy).val
  have:∃ ad,a.eval x=.pointer (some ad):=by
   have h:=r.ev hx
   split at hav
   ·obtain ⟨b,_,hv⟩:=h.ptr_inv
    exact ⟨_,hv⟩
   ·obtain ⟨ad,f,hv,_⟩:=Rep.ip_inv h
    exact ⟨ad,hv⟩
   ·cases hav
  obtain ⟨ad,hv⟩:=this
  refine ⟨.bool true,?_,.scal rfl⟩
  have h3:=zru (e:=e) (zg7 (x:=x) (y:=y) (p:=some ad) hT) w
  simp only [execOp,hv,h2,Sem.run_bind] at h3 ⊢
  rw [h3];simp) kk
end
section
variable {P : Program} {T : Nat} {x y : Operand}
theorem zi5 {e:Nat} (h:P.underlying T=some (.pointer e)):∀ w,(do eqGuard .neq T x y (.pointer none) (.pointer none);binOp .neq T (.pointer none) (.pointer none):Sem Value).run P w=.ok (.bool false) w:=zru (e:=e) (zca h)
end
section
variable {P : Program} {T : Nat} {x y : Operand} {a b : ByteArray}
theorem zps:∀ w,(do eqGuard .lss T x y (.string a) (.string b);binOp .lss T (.string a) (.string b):Sem Value).run P w=.ok (.bool (Op.bytesLess a.toList b.toList)) w:=fun w=>by
 have h1:(eqGuard .lss T x y (.string a) (.string b)).run P w=.ok () w:=by simp [eqGuard]
 have h2:(binOp .lss T (.string a) (.string b)).run P w=.ok (.bool (Op.bytesLess a.toList b.toList)) w:=rfl
 simp only [Sem.run_bind,h1,h2,Result.andThen_ok]
theorem zpt (h:a.size+b.size<=9223372036854775807):∀ w,(do eqGuard .add T x y (.string a) (.string b);binOp .add T (.string a) (.string b):Sem Value).run P w=.ok (.string (a++b)) w:=fun w=>by
 have h1:(eqGuard .add T x y (.string a) (.string b)).run P w=.ok () w:=by simp [eqGuard]
 have h2:(binOp .add T (.string a) (.string b)).run P w=.ok (.string (a++b)) w:=by
  rw [show binOp .add T (.string a) (.string b)=Op.stringOp .add a b from rfl]
  exact run_string_add_sum w a b h
 simp only [Sem.run_bind,h1,h2,Result.andThen_ok]
end
section
variable {P : Program} {cx : Cx} {n : Nat} {Q : Exit → S → Prop} {regs : List (Nat × AV)} {objs : Obs} {ops : Array Oper} {rest : List Oper} {d : Nat} {pos : String} {aft : Array Edge} {ty : Nat}
theorem zpu {T:Nat} {x y:Operand} {s:ByteArray} {kd:IntKind} {h:Int} (hT:P.underlying T=some .string) (hx:S.ev ⟨regs,objs⟩ x=some (.p (St s))) (hy:S.ev ⟨regs,objs⟩ y=some (.p (.v (.int kd h)))) (h0:0<=h) (h1:h<=(s.size:Int)) (hd:Nat.blt d n=true)
  (kk:AWl P cx n ops rest Q ⟨(d,.p (St (s.extract h.toNat s.size)))::regs,objs⟩):AWl P cx n ops (⟨some d,.slice T x (some y) none none,ty,pos,aft,none⟩::rest) Q ⟨regs,objs⟩ :=
 zm (.p (St (s.extract h.toNat s.size))) rfl rfl (by simpa using hd) (fun a w own r=>by
  have hv:=(r.ev hx).val
  have hvy:=(r.ev hy).val
  refine ⟨.string (s.extract h.toNat s.size),?_,.scal rfl⟩
  simp only [execOp,hv,hvy,Option.map_some,Option.map_none,Sem.run_bind]
  rw [run_sliceAt_string w T _ _ _ _ hT,run_slice_string_l w T s hT kd h h0 h1]
  simp [Result.andThen_ok]) kk
theorem zpv {T:Nat} {x y:Operand} {s:ByteArray} {kd:IntKind} {h:Int} (hT:P.underlying T=some .string) (hx:S.ev ⟨regs,objs⟩ x=some (.p (St s))) (hy:S.ev ⟨regs,objs⟩ y=some (.p (.v (.int kd h)))) (h0:0<=h) (h1:h<=(s.size:Int)) (hd:Nat.blt d n=true)
  (kk:AWl P cx n ops rest Q ⟨(d,.p (St (s.extract 0 h.toNat)))::regs,objs⟩):AWl P cx n ops (⟨some d,.slice T x none (some y) none,ty,pos,aft,none⟩::rest) Q ⟨regs,objs⟩ :=
 zm (.p (St (s.extract 0 h.toNat))) rfl rfl (by simpa using hd) (fun a w own r=>by
  have hv:=(r.ev hx).val
  have hvy:=(r.ev hy).val
  refine ⟨.string (s.extract 0 h.toNat),?_,.scal rfl⟩
  simp only [execOp,hv,hvy,Option.map_some,Option.map_none,Sem.run_bind]
  rw [run_sliceAt_string w T _ _ _ _ hT,run_slice_string_h w T s hT kd h h0 h1]
  simp [Result.andThen_ok]) kk
theorem zi6 {T:Nat} {x y z:Operand} {s:ByteArray} {kd ke:IntKind} {i j:Int} (hT:P.underlying T=some .string) (hx:S.ev ⟨regs,objs⟩ x=some (.p (St s))) (hy:S.ev ⟨regs,objs⟩ y=some (.p (.v (.int kd i)))) (hz:S.ev ⟨regs,objs⟩ z=some (.p (.v (.int ke j)))) (h0:0<=i) (h1:i<=j) (h2:j<=(s.size:Int)) (hd:Nat.blt d n=true)
  (kk:AWl P cx n ops rest Q ⟨(d,.p (St (s.extract i.toNat j.toNat)))::regs,objs⟩):AWl P cx n ops (⟨some d,.slice T x (some y) (some z) none,ty,pos,aft,none⟩::rest) Q ⟨regs,objs⟩ :=
 zm (.p (St (s.extract i.toNat j.toNat))) rfl rfl (by simpa using hd) (fun a w own r=>by
  have hv:=(r.ev hx).val
  have hvy:=(r.ev hy).val
  have hvz:=(r.ev hz).val
  refine ⟨.string (s.extract i.toNat j.toNat),?_,.scal rfl⟩
  simp only [execOp,hv,hvy,hvz,Option.map_some,Option.map_none,Sem.run_bind]
  rw [run_sliceAt_string w T _ _ _ _ hT,run_slice_string w T s kd ke i j hT h0 h1 h2]
  simp [Result.andThen_ok]) kk
end
theorem Rl.reCell {P:Program} {cx:Cx} {n:Nat} {s:S} {a:Act} {w:World} {own:Nat->Value} (r:Rl P cx n s a w own) {c T i:Nat} {cs:List AV} {y:AV} (hc:get s.objs c=some (.ce T cs)) (hy:y.cell=true)
  (h:∀ (b:Nat) (vals:List Value),own c=.pointer (some ⟨b,0,none⟩)->w.heap[b]?=some (.cells vals.toArray T (0,0))->(∀ x,cs[i]?=some x->RepA w (Mu cx.M0 own s.objs) own (hwOf s.objs) x (vals.getD i undef))->RepA w (Mu cx.M0 own s.objs) own (hwOf s.objs) y (vals.getD i undef)) :
  Rl P cx n ⟨s.regs,setO s.objs c (.ce T (cs.set i y))⟩ a w own:=by
 have hn:=r.ok.keys
 have hmem:=zu hc
 have hMu:Mu cx.M0 own (setO s.objs c (.ce T (cs.set i y)))=Mu cx.M0 own s.objs:=zrp hn hc fun _ _=>Iff.rfl
 have hhw:hwOf (setO s.objs c (.ce T (cs.set i y)))=hwOf s.objs:=by funext j;exact z3p hc j
 have hget:∀ {j o},(j,o)∈setO s.objs c (.ce T (cs.set i y))->∃ o',(j,o')∈s.objs:=fun {j o} hj=>by
  rcases zp hn hj with ⟨rfl,_⟩ | ⟨_,h⟩
  ·exact ⟨_,hmem⟩
  ·exact ⟨_,h⟩
 refine { defs:=r.defs,size:=r.size,ok:=?_,regs:=fun t x hx=>by rw [hMu,hhw];exact r.regs t x hx,stp:=by rw [hMu];exact r.stp,fix:=fun j o hj=>by rw [hhw];exact r.fix j o hj,fr:=⟨r.fr.keep,fun j o b hj hb=>?_,r.fr.size⟩ }
 ·refine { obs:=fun j o hj=>?_,keys:=by rw [z1m];exact hn,inj:=fun j o j' o' hj hj'=>?_,m0:=fun j o b hj=>?_,m0old:=r.ok.m0old }
  ·rw [hMu,hhw]
   rcases zp hn hj with ⟨rfl,rfl⟩ | ⟨hne,h'⟩
   ·obtain ⟨b,vals,e1,e2,e3,e4⟩:=r.ok.obs j _ hmem
    refine ⟨b,vals,e1,e2,by simpa using e3,fun q x hx=>?_⟩
    rw [List.getElem?_set] at hx
    split at hx
    ·rename_i hq
     subst hq
     split at hx
     ·cases hx
      exact ⟨hy,h b vals e1 e2 fun x hx=>(e4 i x hx).2⟩
     ·cases hx
    ·exact e4 q x hx
   ·exact r.ok.obs j o h'
  ·obtain ⟨q,hq⟩:=hget hj
   obtain ⟨q',hq'⟩:=hget hj'
   exact r.ok.inj j q j' q' hq hq'
  ·obtain ⟨q,hq⟩:=hget hj
   exact r.ok.m0 j q b hq
 ·obtain ⟨q,hq⟩:=hget hj
  exact r.fr.loc j q b hq hb
theorem Rl.mpmove {P:Program} {cx:Cx} {n:Nat} {regs:List (Nat×AV)} {objs:Obs} {a:Act} {w:World} {own:Nat->Value} (r:Rl P cx n ⟨regs,objs⟩ a w own) (k j:Nat) {ver vj:Nat} {l lj:Option (List (ByteArray×Int))} (hk:get objs k=some (.mp ver l)) (hj:get objs j=some (.mp vj lj)) (hkj:Nat.beq k j=false) :
  Rl P cx n ⟨regs,setO (oth [j] objs) k (.mp (ver+1) lj)⟩ a w (upd own k (own j)):=by
 have hne:k≠j:=fun e=>by subst e;rw [Nat.beq_refl] at hkj;cases hkj
 have hmk:=zu hk
 have hmj:=zu hj
 have hkey:((oth [j] objs).map (·.1)).Nodup:=((z5b [j] objs).map _).nodup r.ok.keys
 have hk':get (oth [j] objs) k=some (.mp ver l):=z1c hkey (oth_mem.2 ⟨hmk,by simpa using hne⟩)
 have hin:∀ {q o},(q,o)∈setO (oth [j] objs) k (.mp (ver+1) lj)->(q=k/\o=.mp (ver+1) lj)\/(q≠k/\q≠j/\(q,o)∈objs):=fun {q o} hq=>by
  rcases zp hkey hq with h | ⟨h1,h2⟩
  ·exact .inl h
  ·have:=oth_mem.1 h2
   exact .inr ⟨h1,by simpa using this.2,this.1⟩
 have hown:MpOK w (own j) lj:=r.ok.obs j _ hmj
 have hwk:hwOf objs k=some ver:=by unfold hwOf;rw [hk]
 have hwk':hwOf (setO (oth [j] objs) k (.mp (ver+1) lj)) k=some (ver+1):=by unfold hwOf;rw [z1d,Nat.beq_refl,cond_true,hk'];rfl
 have hwj':hwOf (setO (oth [j] objs) k (.mp (ver+1) lj)) j=none:=by
  refine z6b ?_
  rw [z1m]
  intro h
  obtain ⟨⟨q,o⟩,h1,h2⟩:=List.mem_map.1 h
  simp only at h2;subst h2
  exact (oth_mem.1 h1).2 (by simp)
 have hwq:∀ q,q≠k->q≠j->hwOf (setO (oth [j] objs) k (.mp (ver+1) lj)) q=hwOf objs q:=fun q h1 h2=>by
  have e:hwOf (setO (oth [j] objs) k (.mp (ver+1) lj)) q=hwOf (oth [j] objs) q:=by
   unfold hwOf
   rw [z1d]
   have:Nat.beq k q=false:=by
    cases hb:Nat.beq k q with
    | false=>rfl
    | true=>exact absurd (Nat.eq_of_beq_eq_true hb).symm h1
   rw [this];rfl
  rw [e]
  refine z3f hkey r.ok.keys fun o=>?_
  rw [oth_mem]
  exact ⟨fun h=>h.1,fun h=>⟨h,by simpa using h2⟩⟩
 have hkp:∀ a,own k≠.pointer a:=fun a e=>by
  have h1:MpOK w (own k) l:=r.ok.obs k _ hmk
  rw [e] at h1
  cases l with
  | none=>cases (show Value.pointer a=Value.map none from h1)
  | some l=>obtain ⟨_,_,_,h2,_⟩:=h1;cases h2
 have hjp:∀ a,own j≠.pointer a:=fun a e=>by
  rw [e] at hown
  cases lj with
  | none=>cases (show Value.pointer a=Value.map none from hown)
  | some l=>obtain ⟨_,_,_,h2,_⟩:=hown;cases h2
 have hkr:∀ q,Kr own (upd own k (own j)) (hwOf objs) (hwOf (setO (oth [j] objs) k (.mp (ver+1) lj))) q:=fun q=>by
  by_cases e1:q=k
  ·subst e1
   exact .inr (.inr ⟨ver,ver+1,hwk,hwk',Nat.lt_succ_self _,hkp⟩)
  ·by_cases e2:q=j
   ·subst e2
    exact .inr (.inl ⟨hwj',.inl (ze _ _ e1)⟩)
   ·exact .inl ⟨ze _ _ e1,hwq q e1 e2⟩
 have hmu:∀ b i,Mu cx.M0 (upd own k (own j)) (setO (oth [j] objs) k (.mp (ver+1) lj)) b i->Mu cx.M0 own objs b i:=by
  rintro b i (h | ⟨q,o,hq,hm⟩)
  ·exact .inl h
  ·rcases hin hq with ⟨rfl,rfl⟩ | ⟨h1,h2,h3⟩
   ·rw [zh] at hm
    exact .inr ⟨j,_,hmj,hm⟩
   ·rw [ze _ _ h1] at hm
    exact .inr ⟨q,o,h3,hm⟩
 have hs:Stp w (Mu cx.M0 own objs) w (Mu cx.M0 (upd own k (own j)) (setO (oth [j] objs) k (.mp (ver+1) lj))):=(Stp.refl w _).less hmu
 refine { defs:=r.defs,size:=r.size,ok:=?_,regs:=fun t x hx=>?_,stp:=r.stp.less hmu,fix:=fun q o hq=>(r.fix q o hq).trans (hkr q),fr:=r.fr.trans ⟨fun _ _ _=>rfl,fun q o b hq hb=>?_,Nat.le_refl _⟩ }
 ·refine { obs:=fun q o hq=>?_,keys:=by rw [z1m];exact hkey,inj:=fun q o q' o' hq hq' hqq b hb hb'=>?_,m0:=fun q o b hq hb=>?_,m0old:=r.ok.m0old }
  ·rcases hin hq with ⟨rfl,rfl⟩ | ⟨h1,h2,h3⟩
   ·show MpOK _ _ _
    rw [zh];exact hown
   ·have h4:=r.ok.obs q o h3
    cases o with
    | ce T cs =>
      obtain ⟨b,vals,e1,e2,e3,e4⟩:=h4
      exact ⟨b,vals,by rw [ze _ _ h1];exact e1,e2,e3,fun i x hi=>⟨(e4 i x hi).1,(e4 i x hi).2.tr hs fun q _=>hkr q⟩⟩
    | ar T sz m =>
      obtain ⟨cells,e⟩:=h4
      exact ⟨cells,by rw [ze _ _ h1];exact e⟩
    | mu T sz v xs =>
      obtain ⟨cells,e,e2,e3⟩:=h4
      exact ⟨cells,by rw [ze _ _ h1];exact e,e2,fun i row j x hi hj=>(e3 i row j x hi hj).stp hs⟩
    | mp v l =>
      show MpOK _ _ _
      rw [ze _ _ h1];exact h4
  ·rcases hin hq with ⟨rfl,rfl⟩ | ⟨h1,h2,h3⟩<;>rcases hin hq' with ⟨rfl,rfl⟩ | ⟨g1,g2,g3⟩
   ·exact hqq rfl
   ·rw [zh] at hb;rw [ze _ _ g1] at hb'
    exact r.ok.inj j _ q' o' hmj g3 (Ne.symm g2) b hb hb'
   ·rw [ze _ _ h1] at hb;rw [zh] at hb'
    exact r.ok.inj q o j _ h3 hmj h2 b hb hb'
   ·rw [ze _ _ h1] at hb;rw [ze _ _ g1] at hb'
    exact r.ok.inj q o q' o' h3 g3 hqq b hb hb'
  ·rcases hin hq with ⟨rfl,rfl⟩ | ⟨h1,h2,h3⟩
   ·rw [zh] at hb;exact r.ok.m0 j _ b hmj hb
   ·rw [ze _ _ h1] at hb;exact r.ok.m0 q o b h3 hb
 ·exact (r.regs t x hx).tr hs fun q _=>hkr q
 ·rcases hin hq with ⟨rfl,rfl⟩ | ⟨h1,h2,h3⟩
  ·rw [zh] at hb;exact .inl ⟨j,_,hmj,hb⟩
  ·rw [ze _ _ h1] at hb;exact .inl ⟨q,o,h3,hb⟩
theorem Le.mpmoveC {P:Program} {cx:Cx} {n:Nat} {regs:List (Nat×AV)} {objs objs':Obs} (c i k j:Nat) {T ver vj:Nat} {cs:List AV} {l lj:Option (List (ByteArray×Int))} (hc:get objs c=some (.ce T cs)) (hi:cs[i]?=some (.tm j vj)) (hk:get objs k=some (.mp ver l)) (hj:get objs j=some (.mp vj lj)) (hkj:Nat.beq k j=false)
  (ho:objs'=setO (setO (oth [j] objs) k (.mp (ver+1) lj)) c (.ce T (cs.set i (.tm k (ver+1))))) :
  Le P cx n ⟨regs,objs⟩ ⟨regs,objs'⟩:=fun a w ⟨own,r⟩=>by
 subst ho
 have hne:k≠j:=fun e=>by subst e;rw [Nat.beq_refl] at hkj;cases hkj
 have hkey:((oth [j] objs).map (·.1)).Nodup:=((z5b [j] objs).map _).nodup r.ok.keys
 have hmc:=zu hc
 have hck:c≠k:=fun e=>by subst e;rw [hc] at hk;cases hk
 have hcj:c≠j:=fun e=>by subst e;rw [hc] at hj;cases hj
 have hk':get (oth [j] objs) k=some (.mp ver l):=z1c hkey (oth_mem.2 ⟨zu hk,by simpa using hne⟩)
 have hkey2:((setO (oth [j] objs) k (.mp (ver+1) lj)).map (·.1)).Nodup:=by rw [z1m];exact hkey
 have hc2:get (setO (oth [j] objs) k (.mp (ver+1) lj)) c=some (.ce T cs):=z1c hkey2 (z2v hck (oth_mem.2 ⟨hmc,by simpa using hcj⟩))
 have r2:=r.mpmove k j hk hj hkj
 have hwk':hwOf (setO (oth [j] objs) k (.mp (ver+1) lj)) k=some (ver+1):=by unfold hwOf;rw [z1d,Nat.beq_refl,cond_true,hk'];rfl
 refine ⟨_,r2.reCell hc2 rfl fun b vals e1 e2 _=>?_⟩
 rw [ze _ _ hck] at e1
 obtain ⟨b',vals',g1,g2,g3,g4⟩:=r.ok.obs c _ hmc
 rw [e1] at g1
 cases g1
 rw [e2] at g2
 have hvv:vals=vals':=by simpa using g2
 subst hvv
 have hv:=r.mp_val hj (g4 i _ hi).2
 refine .tm (by have:=(g4 i _ hi).2;cases this with | tm h1 _=>exact h1) fun m hm=>?_
 rw [hwk'] at hm;cases hm
 exact ⟨Nat.le_refl _,fun _=>by rw [zh];exact hv⟩
theorem Le.tokMC {P:Program} {cx:Cx} {n:Nat} {regs:List (Nat×AV)} {objs objs':Obs} (c i k:Nat) {T:Nat} {cs:List AV} (hc:get objs c=some (.ce T cs)) (hi:cs[i]?=some (.p (.v (.map none)))) (hf:fresh k ⟨regs,objs⟩=true) (h0:get cx.objs0 k=none)
  (ho:objs'=setO ((k,.mp 0 none)::objs) c (.ce T (cs.set i (.tm k 0)))) :
  Le P cx n ⟨regs,objs⟩ ⟨regs,objs'⟩:=fun a w ⟨own,r⟩=>by
 subst ho
 obtain ⟨r',_⟩:=r.newMp (vr:=0) (w':=w) k none (.map none) hf h0 rfl ⟨rfl,rfl,rfl,Nat.le_refl _,fun _ _ _=>rfl⟩ (fun b hb=>by simp [blk] at hb)
 have hmc:=zu hc
 have hck:c≠k:=by
  simp only [fresh,Bool.and_eq_true] at hf
  exact (zl hf.2 _ _ hmc).1
 have hc2:get ((k,Ob.mp 0 none)::objs) c=some (.ce T cs):=z1c r'.ok.keys (List.mem_cons_of_mem _ hmc)
 refine ⟨_,r'.reCell hc2 rfl fun b vals e1 e2 h=>?_⟩
 rw [(h _ hi).val]
 refine .tm rfl fun m hm=>?_
 have:hwOf ((k,Ob.mp 0 none)::objs) k=some 0:=by simp [hwOf,get,Nat.beq_refl]
 rw [this] at hm;cases hm
 exact ⟨Nat.le_refl _,fun _=>by rw [zh]⟩
theorem zi7:∀ {l:List Nat},l.Nodup->z4j l=true
 | [],_=>rfl
 | k::r,h=>by
   simp only [List.nodup_cons] at h
   simp only [z4j,Bool.and_eq_true,Bool.not_eq_true']
   refine ⟨?_,zi7 h.2⟩
   cases hb:mem k r with
   | false=>rfl
   | true=>exact absurd (mem_iff.1 hb) h.1
theorem LeO.of {objs:Obs}:∀ {l:Obs},(∀ k o,(k,o)∈l->get objs k=some o)->LeO objs l
 | [],_=>.nil
 | (k,o)::l,h=>.cons (h k o (List.mem_cons_self ..)) rfl (LeO.of fun k o hm=>h k o (List.mem_cons_of_mem _ hm))
theorem Le.perm {P:Program} {cx:Cx} {n:Nat} {regs:Regs} {objs objs':Obs} (h:(objs.map (·.1)).Nodup->(objs'.map (·.1)).Nodup/\∀ x,x∈objs'->x∈objs):Le P cx n ⟨regs,objs⟩ ⟨regs,objs'⟩:=fun a w ⟨own,r⟩=>by
 obtain ⟨h1,h2⟩:=h r.ok.keys
 exact Le.objs (LeO.of fun k o hm=>z1c r.ok.keys (h2 _ hm)) (zi7 h1) a w ⟨own,r⟩
structure MCl (P:Program) (f:Nat):Prop where
 fb:FB P f
 n:∀ k v,Con P f [.tm k v] [(k,.mp v none)] fun r o=>r=.p (.v (.map none))/\o=[(k,.mp v none)]
 s:∀ k d v l,k≠d->Con P f [.tm k v] [(k,.mp v (some l))] fun r o=>r=.tm d 0/\o=[(d,.mp 0 (some l)),(k,.mp v (some l))]
theorem zge {k:Nat} {o:Ob} {objs:Obs} (hn:(objs.map (·.1)).Nodup) (hk:get objs k=some o):sel [k] objs=[(k,o)]:=by
 induction objs with
 | nil=>cases hk
 | cons p l ih =>
   obtain ⟨q,ob⟩:=p
   simp only [List.map_cons,List.nodup_cons] at hn
   simp only [get] at hk
   cases hb:Nat.beq q k with
   | true =>
     obtain rfl:=Nat.eq_of_beq_eq_true hb
     rw [hb] at hk
     simp only [cond_true,Option.some.injEq] at hk
     subst hk
     have:sel [q] l=[]:=by
      refine List.eq_nil_iff_forall_not_mem.2 fun x hx=>?_
      obtain ⟨j,y⟩:=x
      have h1:=sel_mem.1 hx
      have h2:j=q:=by simpa using h1.2
      exact hn.1 (List.mem_map.2 ⟨(j,y),h1.1,h2⟩)
     have hm:mem q [q]=true:=mem_iff.2 (by simp)
     simp only [sel,hm,cond_true,this]
   | false =>
     rw [hb] at hk
     simp only [cond_false] at hk
     have hm:mem q [k]=false:=by
      cases h3:mem q [k] with
      | false=>rfl
      | true =>
        have h4:q=k:=by simpa using mem_iff.1 h3
        rw [h4,Nat.beq_refl] at hb;cases hb
     simp only [sel,hm,cond_false,ih hn.2 hk]
section
variable {P : Program} {cx : Cx} {n : Nat} {Q : Exit → S → Prop} {regs : List (Nat × AV)} {objs : Obs} {ops : Array Oper} {rest : List Oper} {d : Nat} {pos : String} {aft : Array Edge} {ty : Nat}
theorem zrv {l:List Oper} {s:S} (h:(s.objs.map (·.1)).Nodup->AWl P cx n ops l Q s):AWl P cx n ops l Q s:=fun a w ⟨own,r⟩=>h r.ok.keys a w ⟨own,r⟩
theorem zl3 {f k ver:Nat} {x:Operand} {ts:Array Nat} (ce:MCl P f) (hx:S.ev ⟨regs,objs⟩ x=some (.tm k ver)) (hk:get objs k=some (.mp ver none)) (hd:Nat.blt d n=true)
  (kk:AWl P cx n ops rest Q ⟨(d,.p (.v (.map none)))::regs,objs⟩) :
  AWl P cx n ops (⟨some d,.call ⟨.value (.func f),#[x],ts⟩,ty,pos,aft,none⟩::rest) Q ⟨regs,objs⟩:=zrv fun hn=>by
 refine z8j (l:=[x]) (avs:=[.tm k ver]) [k] ce.fb (by simp only [evs,hx]) (za _) (ce.n k ver) (zge hn hk) hd fun r o ⟨e1,e2⟩=>?_
 subst e1 e2
 refine ⟨?_,zr4 (Le.perm fun _=>⟨hn,fun y hy=>?_⟩) kk⟩
 ·have:mem k ((sel [k] objs).map (·.1))=true:=by rw [zge hn hk];exact mem_iff.2 (by simp)
  simp only [newOK,this,Bool.true_or,Bool.and_self]
 ·obtain ⟨q,o⟩:=y
  by_cases e:q=k
  ·subst e
   have:=z1c hn hy
   rw [hk] at this
   cases this
   simp
  ·exact List.mem_append_right _ (oth_mem.2 ⟨hy,by simpa using e⟩)
theorem zl4 {f k ver:Nat} {x:Operand} {ts:Array Nat} {l:List (ByteArray×Int)} (ce:MCl P f) (hx:S.ev ⟨regs,objs⟩ x=some (.tm k ver)) (hk:get objs k=some (.mp ver (some l))) (hf:fresh d ⟨regs,objs⟩=true) (h0:get cx.objs0 d=none) (hd:Nat.blt d n=true)
  (kk:AWl P cx n ops rest Q ⟨(d,.tm d 0)::regs,(d,.mp 0 (some l))::objs⟩) :
  AWl P cx n ops (⟨some d,.call ⟨.value (.func f),#[x],ts⟩,ty,pos,aft,none⟩::rest) Q ⟨regs,objs⟩:=zrv fun hn=>by
 have hf':=hf
 simp only [fresh,Bool.and_eq_true] at hf'
 have hdk:k≠d:=(zl hf'.2 _ _ (zu hk)).1
 have hin:∀ o,(d,o) ∉ objs:=fun o hm=>(zl hf'.2 _ _ hm).1 rfl
 refine z8j (l:=[x]) (avs:=[.tm k ver]) [k] ce.fb (by simp only [evs,hx]) (za _) (ce.s k d ver l hdk) (zge hn hk) hd fun r o ⟨e1,e2⟩=>?_
 subst e1 e2
 refine ⟨?_,zr4 (Le.perm fun _=>⟨?_,fun y hy=>?_⟩) kk⟩
 ·have:mem k ((sel [k] objs).map (·.1))=true:=by rw [zge hn hk];exact mem_iff.2 (by simp)
  simp only [newOK,this,hf,h0,Bool.true_or,Bool.or_true,Bool.and_self]
 ·simp only [List.map_cons,List.nodup_cons]
  refine ⟨fun hm=>?_,hn⟩
  obtain ⟨⟨q,o⟩,h1,h2⟩:=List.mem_map.1 hm
  simp only at h2;subst h2
  exact hin o h1
 ·obtain ⟨q,o⟩:=y
  rcases List.mem_cons.1 hy with e | hy
  ·cases e;simp
  ·by_cases e:q=k
   ·subst e
    have:=z1c hn hy
    rw [hk] at this
    cases this
    simp
   ·exact List.mem_append_right _ (oth_mem.2 ⟨hy,by simpa using e⟩)
end
theorem Con.le {P:Program} {f:Nat} {args:List AV} {objs:Obs} {R R':AV->Obs->Prop} (h:Con P f args objs R) (k:∀ r o,R r o->∃ o',(∀ cx n,cx.objs0=objs->Le P cx n ⟨[(0,r)],o⟩ ⟨[(0,r)],o'⟩)/\za5 o' r=true/\R' r o'):Con P f args objs R':=by
 intro w M0 own vals hok harg
 refine (h w M0 own vals hok harg).mono ?_
 rintro e w' ⟨r,o,own',v,rfl,g1,g2,g3,g4,g5,g6,g7⟩
 obtain ⟨o',hle,hc,hr⟩:=k r o g1
 have rl:Rl P ⟨w,M0,own,objs⟩ 1 ⟨[(0,r)],o⟩ { tmps:=#[v],defers:=[] } w' own':=by
  refine { defs:=rfl,size:=rfl,ok:=g2,regs:=fun t x hx=>?_,stp:=g4,fix:=g5,fr:=g7 }
  simp only [get] at hx
  cases hb:Nat.beq 0 t with
  | true =>
    obtain rfl:=Nat.eq_of_beq_eq_true hb
    rw [hb] at hx
    cases hx
    exact g3
  | false=>rw [hb] at hx;cases hx
 obtain ⟨own2,r2⟩:=hle ⟨w,M0,own,objs⟩ 1 rfl _ _ ⟨own',rl⟩
 exact ⟨r,o',own2,v,rfl,hr,r2.ok,r2.regs 0 r rfl,r2.stp,r2.fix,z6d hc,r2.fr⟩
def swE (b k:Nat):Nat:=bif Nat.ble 1000 k&&Nat.blt k 1004 then k-1000+b else bif Nat.ble b k&&Nat.blt k (b+4) then k-b+1000 else k
theorem zrw (b:Nat) (hb:1004<=b) (k:Nat):swE b (swE b k)=k:=by
 unfold swE
 by_cases h1:1000<=k/\k<1004
 ·have e1:(Nat.ble 1000 k&&Nat.blt k 1004)=true:=by simp [Nat.ble_eq,Nat.blt_eq,h1]
  have e2:(Nat.ble 1000 (k-1000+b)&&Nat.blt (k-1000+b) 1004)=false:=by
   rw [Bool.and_eq_false_iff];right
   cases h:Nat.blt (k-1000+b) 1004 with
   | false=>rfl
   | true=>rw [Nat.blt_eq] at h;omega
  have e3:(Nat.ble b (k-1000+b)&&Nat.blt (k-1000+b) (b+4))=true:=by
   rw [Bool.and_eq_true,Nat.ble_eq,Nat.blt_eq];omega
  simp only [e1,e2,e3,cond_true,cond_false];omega
 ·have e1:(Nat.ble 1000 k&&Nat.blt k 1004)=false:=by
   cases h:(Nat.ble 1000 k&&Nat.blt k 1004) with
   | false=>rfl
   | true=>rw [Bool.and_eq_true,Nat.ble_eq,Nat.blt_eq] at h;exact absurd h h1
  by_cases h2:b<=k/\k<b+4
  ·have e2:(Nat.ble b k&&Nat.blt k (b+4))=true:=by rw [Bool.and_eq_true,Nat.ble_eq,Nat.blt_eq];exact h2
   have e3:(Nat.ble 1000 (k-b+1000)&&Nat.blt (k-b+1000) 1004)=true:=by rw [Bool.and_eq_true,Nat.ble_eq,Nat.blt_eq];omega
   simp only [e1,e2,e3,cond_true,cond_false];omega
  ·have e2:(Nat.ble b k&&Nat.blt k (b+4))=false:=by
    cases h:(Nat.ble b k&&Nat.blt k (b+4)) with
    | false=>rfl
    | true=>rw [Bool.and_eq_true,Nat.ble_eq,Nat.blt_eq] at h;exact absurd h h2
   simp only [e1,e2,cond_false]
theorem Con.swE {P:Program} {f:Nat} {args:List AV} {objs:Obs} {R:AV->Obs->Prop} (h:Con P f args objs R) (b:Nat) (hb:1004<=b) :
 Con P f (AV.renL (swE b) args) (renO (Ab.swE b) objs) (fun r o=>∃ r0 o0,R r0 o0/\r=r0.ren (Ab.swE b)/\o=renO (Ab.swE b) o0):=h.ren (zrw b hb) (zrw b hb)
theorem MCl.of {P:Program} {f:Nat} (hf:FB P f) (hn:∀ v,Con P f [.tm 1003 v] [(1003,.mp v none)] fun r o=>r=.p (.v (.map none))/\o=[(1003,.mp v none)])
  (hs:∀ v l,Con P f [.tm 1003 v] [(1003,.mp v (some l))] fun r o=>r=.tm 7 0/\o=[(7,.mp 0 (some l)),(1003,.mp v (some l))]):MCl P f:=by
 refine ⟨hf,fun k v=>?_,fun k d v l hkd=>?_⟩
 ·have h:=(hn v).sw 1003 k
  simp only [AV.renL,AV.ren,renO,sw_a,Ob.ren] at h
  refine fun w M0 own vals h1 h2=>(h w M0 own vals h1 h2).mono ?_
  rintro e w' ⟨r,o,own',v',e1,⟨r0,o0,⟨rfl,rfl⟩,rfl,rfl⟩,g⟩
  refine ⟨_,_,own',v',e1,⟨rfl,rfl⟩,?_⟩
  simpa only [AV.ren,renO,sw_a,Ob.ren] using g
 ·have h := ((hs v l).sw 1003 k).sw (sw 1003 k 7) d
  have hx : sw (sw 1003 k 7) d k=k:=by
   have h1 : k≠sw 1003 k 7:=fun e=>by
    have:=congrArg (sw 1003 k) e
    rw [sw_sw] at this
    have h2:sw 1003 k k=1003:=by
     by_cases e3:k=1003
     ·subst e3;simp [Ab.sw,Nat.beq_refl]
     ·have:Nat.beq k 1003=false:=by
       cases hb:Nat.beq k 1003 with
       | false=>rfl
       | true=>exact absurd (Nat.eq_of_beq_eq_true hb) e3
      simp [Ab.sw,this,Nat.beq_refl]
    omega
   unfold Ab.sw
   have a1:Nat.beq k (bif Nat.beq 7 1003 then k else bif Nat.beq 7 k then 1003 else 7)=false:=by
    cases hb:Nat.beq k (bif Nat.beq 7 1003 then k else bif Nat.beq 7 k then 1003 else 7) with
    | false=>rfl
    | true=>exact absurd (Nat.eq_of_beq_eq_true hb) h1
   have a2:Nat.beq k d=false:=by
    cases hb:Nat.beq k d with
    | false=>rfl
    | true=>exact absurd (Nat.eq_of_beq_eq_true hb) hkd
   simp only [a1,a2,cond_false]
  simp only [AV.renL,AV.ren,renO,sw_a,Ob.ren,hx] at h
  refine fun w M0 own vals h1 h2=>(h w M0 own vals h1 h2).mono ?_
  rintro e w' ⟨r,o,own',v',e1,⟨r1,o1,⟨r0,o0,⟨rfl,rfl⟩,rfl,rfl⟩,rfl,rfl⟩,g⟩
  refine ⟨_,_,own',v',e1,⟨rfl,rfl⟩,?_⟩
  simpa only [AV.ren,renO,sw_a,Ob.ren,hx] using g
structure ClP (P:Program) (f:Nat):Prop where
 a:Nat.blt f 100000=true->ClE P f
 b:∀ g,f=g+100000->Nat.blt g 900000000=true->MCl P g
 c:∀ T m,f=1000000000+T * 100+m->Nat.blt m 100=true->EqV P T m
theorem Le.subC {P:Program} {cx:Cx} {n:Nat} {regs:List (Nat×AV)} {objs objs':Obs} (c i:Nat) {T:Nat} {cs:List AV} {x y:AV} (hc:get objs c=some (.ce T cs)) (hi:cs[i]?=some x) (hs:Sub x y) (hy:y.cell=true) (ho:objs'=setO objs c (.ce T (cs.set i y))) :
  Le P cx n ⟨regs,objs⟩ ⟨regs,objs'⟩:=fun a w ⟨own,r⟩=>by
 subst ho
 exact ⟨_,r.reCell hc hy fun b vals e1 e2 h=>hs _ _ _ _ _ (h x hi)⟩
def PS (x y:PV):Prop:=∀ w M v,Rep w M x v->Rep w M y v
theorem PS.r (x:PV):PS x x:=fun _ _ _ h=>h
theorem PS.n {sz:Nat}:PS nilS (.sl sz []):=fun _ _ _ h=>by cases h with | v h=>exact .nil
def PSL:List PV->List PV->Prop
 | [],[]=>True
 | x::l,y::q=>PS x y/\PSL l q
 | _,_=>False
def PSR:List (List PV)->List (List PV)->Prop
 | [],[]=>True
 | x::l,y::q=>PSL x y/\PSR l q
 | _,_=>False
theorem PSL.get:∀ {l q:List PV},PSL l q->l.length=q.length/\∀ (j:Nat) (y:PV),q[j]?=some y->∃ x,l[j]?=some x/\PS x y
 | [],[],_=>⟨rfl,fun j y h=>by simp at h⟩
 | x::l,y::q,h=>by
   obtain ⟨h1,h2⟩:=PSL.get h.2
   refine ⟨by simp [h1],fun j z hz=>?_⟩
   cases j with
   | zero=>simp at hz;subst hz;exact ⟨x,rfl,h.1⟩
   | succ j=>simpa using h2 j z (by simpa using hz)
 | [],_::_,h=>h.elim
 | _::_,[],h=>h.elim
theorem PSR.get:∀ {l q:List (List PV)},PSR l q->l.length=q.length/\∀ (j:Nat) (y:List PV),q[j]?=some y->∃ x,l[j]?=some x/\PSL x y
 | [],[],_=>⟨rfl,fun j y h=>by simp at h⟩
 | x::l,y::q,h=>by
   obtain ⟨h1,h2⟩:=PSR.get h.2
   refine ⟨by simp [h1],fun j z hz=>?_⟩
   cases j with
   | zero=>simp at hz;subst hz;exact ⟨x,rfl,h.1⟩
   | succ j=>simpa using h2 j z (by simpa using hz)
 | [],_::_,h=>h.elim
 | _::_,[],h=>h.elim
theorem PS.rows {sz:Nat} {xs ys:List (List PV)} (h:PSR xs ys):PS (.sl sz xs) (.sl sz ys):=fun w M v hr=>by
 obtain ⟨hl,hg⟩:=h.get
 cases hr with
 | nil =>
   obtain rfl:ys=[]:=List.eq_nil_of_length_eq_zero (by simpa using hl.symm)
   exact .nil
 | sl a cap f hcap hmax hrow hcell hM hx =>
   have hgr:∀ (i:Nat) (row:List PV) (j:Nat) (y:PV),ys[i]?=some row->row[j]?=some y->∃ row' x,xs[i]?=some row'/\row'[j]?=some x/\PS x y:=fun i row j y h1 h2=>by
    obtain ⟨row',g1,g2⟩:=hg i row h1
    obtain ⟨x,g3,g4⟩:=g2.get.2 j y h2
    exact ⟨row',x,g1,g3,g4⟩
   rw [hl]
   refine .sl a cap f (by omega) hmax (fun i row h1=>?_) (fun i row j y h1 h2=>?_) (fun i row j y h1 h2=>?_) (fun i row j y h1 h2=>?_)
   ·obtain ⟨row',g1,g2⟩:=hg i row h1
    rw [<- g2.get.1];exact hrow i row' g1
   ·obtain ⟨row',x,g1,g2,g3⟩:=hgr i row j y h1 h2
    exact hcell i row' j x g1 g2
   ·obtain ⟨row',x,g1,g2,g3⟩:=hgr i row j y h1 h2
    exact hM i row' j x g1 g2
   ·obtain ⟨row',x,g1,g2,g3⟩:=hgr i row j y h1 h2
    exact g3 _ _ _ (hx i row' j x g1 g2)
theorem Sub.rows {sz:Nat} {xs ys:List (List PV)} (h:PSR xs ys):Sub (.p (.sl sz xs)) (.p (.sl sz ys)):=fun w M own hw v hv=>by
 cases hv with
 | p hv=>exact .p (PS.rows h w M v hv)
theorem swE_0 (b i:Nat) (hi:i<4):swE b (1000+i)=b+i:=by
 have e1:(Nat.ble 1000 (1000+i)&&Nat.blt (1000+i) 1004)=true:=by rw [Bool.and_eq_true,Nat.ble_eq,Nat.blt_eq];omega
 simp only [swE,e1,cond_true];omega
theorem Le.ren {P:Program} {cx:Cx} {n:Nat} {regs:Regs} {objs:Obs} {ρ σ:Nat->Nat} (h1:∀ k,σ (ρ k)=k) (h2:∀ k,ρ (σ k)=k) (hfix:∀ k,k∈cx.objs0.map (·.1)->ρ k=k):Le P cx n ⟨regs,objs⟩ ⟨renR ρ regs,renO ρ objs⟩:=fun a w ⟨own,r⟩=>by
 have ec:(own ∘ σ) ∘ ρ=own:=by funext k;simp [h1]
 have hokr:OK P w cx.M0 (own ∘ σ) (renO ρ objs):=(OK.ren h1 h2).2 (by rw [ec];exact r.ok)
 have hMe:Mu cx.M0 (own ∘ σ) (renO ρ objs)=Mu cx.M0 own objs:=by rw [zc7 h1 h2,ec]
 refine ⟨own ∘ σ,{ defs:=r.defs,size:=r.size,ok:=hokr,regs:=fun t y hy=>?_,stp:=by rw [hMe];exact r.stp,fix:=fun k o hk=>?_,fr:=⟨r.fr.keep,fun k ob b hk hb=>?_,r.fr.size⟩ }⟩
 ·obtain ⟨x,hx,rfl⟩:=zg8 hy
  show RepA w (Mu cx.M0 (own ∘ σ) (renO ρ objs)) (own ∘ σ) (hwOf (renO ρ objs)) (x.ren ρ) _
  rw [hMe]
  refine RepA.ren_of ?_
  rw [ec,z4a h1 h2 objs r.ok.keys]
  exact r.regs t x hx
 ·have hk1:ρ k=k:=hfix k (List.mem_map.2 ⟨(k,o),hk,rfl⟩)
  have hk2:σ k=k:=by have:=h1 k;rwa [hk1] at this
  have e2:hwOf (renO ρ objs) k=hwOf objs k:=by
   have:=congrFun (z4a h1 h2 objs r.ok.keys) k
   simp only [Function.comp,hk1] at this
   exact this
  have:=r.fix k o hk
  unfold Kr at this ⊢
  show ((own ∘ σ) k=_/\_)\/_
  rw [e2,show (own ∘ σ) k=own k by simp only [Function.comp,hk2]]
  exact this
 ·obtain ⟨k',o',e1,rfl,rfl⟩:=renO_mem.1 hk
  simp only [Function.comp,h1] at hb
  exact r.fr.loc k' o' b e1 hb
theorem Le.swk {P:Program} {cx:Cx} {n:Nat} {regs:Regs} {objs:Obs} (a b:Nat) (ha:a ∉ cx.objs0.map (·.1)) (hb:b ∉ cx.objs0.map (·.1)):Le P cx n ⟨regs,objs⟩ ⟨renR (Ab.sw a b) regs,renO (Ab.sw a b) objs⟩ :=
 Le.ren (sw_sw a b) (sw_sw a b) fun k hk=>by
  have e1:Nat.beq k a=false:=by
   cases h:Nat.beq k a with
   | false=>rfl
   | true=>exact absurd (Nat.eq_of_beq_eq_true h▸hk) ha
  have e2:Nat.beq k b=false:=by
   cases h:Nat.beq k b with
   | false=>rfl
   | true=>exact absurd (Nat.eq_of_beq_eq_true h▸hk) hb
  simp only [Ab.sw,e1,e2,cond_false]
end Go.Ab
set_option linter.unusedVariables false
set_option linter.unusedSectionVars false
set_option linter.unusedSimpArgs false
namespace Go.Ab
open Go Go.RowKit
theorem mem_t {x:Nat}:∀ {l:List Nat},mem x l=true↔x∈l
 | []=>by simp [mem]
 | y :: l=>by
   simp only [mem,Bool.or_eq_true,List.mem_cons,mem_t (l:=l)]
   constructor
   ·rintro (h | h)
    ·exact .inl (Nat.eq_of_beq_eq_true h).symm
    ·exact .inr h
   ·rintro (h | h)
    ·exact .inl (by rw [h];exact Nat.beq_refl _)
    ·exact .inr h
theorem zl5 {ks:List Nat}:∀ {l:Obs},(∀ p∈l,p.1∈ks)->sel ks l=l
 | [],_=>rfl
 | (k,o)::l,h=>by
   simp only [sel,mem_t.2 (h (k,o) (by simp)),cond_true,zl5 (l:=l) fun p hp=>h p (by simp [hp])]
theorem zmv {ks:List Nat}:∀ {l:Obs},(∀ p∈l,p.1 ∉ ks)->sel ks l=[]
 | [],_=>rfl
 | (k,o)::l,h=>by
   have h1:mem k ks=false:=by
    cases hb:mem k ks with
    | false=>rfl
    | true=>exact absurd (mem_t.1 hb) (h (k,o) (by simp))
   simp only [sel,h1,cond_false,zmv (l:=l) fun p hp=>h p (by simp [hp])]
theorem zl6 {ks:List Nat}:∀ {l q:Obs},sel ks (l++q)=sel ks l++sel ks q
 | [],q=>rfl
 | (k,o)::l,q=>by
   simp only [List.cons_append,sel,zl6 (l:=l)]
   cases mem k ks<;>rfl
theorem zl7 {ks:List Nat}:∀ {l q:Obs},oth ks (l++q)=oth ks l++oth ks q
 | [],q=>rfl
 | (k,o)::l,q=>by
   simp only [List.cons_append,oth,zl7 (l:=l)]
   cases mem k ks<;>rfl
theorem oth_iff {ks:List Nat} {p:Nat×Ob}:∀ {l:Obs},p∈oth ks l↔p∈l/\p.1 ∉ ks
 | []=>by simp [oth]
 | (k, o)::l=>by
   simp only [oth]
   cases hb:mem k ks with
   | true =>
     simp only [cond_true,oth_iff (l:=l),List.mem_cons]
     constructor
     ·rintro ⟨h1,h2⟩;exact ⟨.inr h1,h2⟩
     ·rintro ⟨h1 | h1,h2⟩
      ·subst h1;exact absurd (mem_t.1 hb) h2
      ·exact ⟨h1,h2⟩
   | false =>
     simp only [cond_false,List.mem_cons,oth_iff (l:=l)]
     constructor
     ·rintro (h1 | h1)
      ·subst h1;exact ⟨.inl rfl,fun h=>by have h:=mem_t.2 h;rw [hb] at h;cases h⟩
      ·exact ⟨.inr h1.1,h1.2⟩
     ·rintro ⟨h1 | h1,h2⟩
      ·exact .inl h1
      ·exact .inr ⟨h1,h2⟩
theorem zcd {ks:List Nat}:∀ {l:Obs},(l.map (·.1)).Nodup->((oth ks l).map (·.1)).Nodup
 | [],_=>by simp [oth]
 | (k,o)::l,h=>by
   simp only [List.map_cons,List.nodup_cons] at h
   simp only [oth]
   cases hb:mem k ks with
   | true=>exact zcd h.2
   | false =>
     simp only [cond_false,List.map_cons,List.nodup_cons]
     refine ⟨fun hm=>h.1 ?_,zcd h.2⟩
     obtain ⟨p,hp,e⟩:=List.mem_map.1 hm
     exact List.mem_map.2 ⟨p,(oth_iff.1 hp).1,e⟩
theorem zgf {ks:List Nat}:∀ {l:Obs},oth ks (oth ks l)=oth ks l
 | []=>rfl
 | (k,o)::l=>by
   simp only [oth]
   cases hb:mem k ks with
   | true=>simp only [cond_true];exact zgf
   | false=>simp only [cond_false,oth,hb,zgf]
theorem zrx {ks:List Nat} (l:Obs):sel ks (oth ks l)=[]:=zmv fun p hp=>(oth_iff.1 hp).2
theorem zl8 {ks:List Nat}:∀ {l:Obs},(∀ p∈l,p.1∈ks)->oth ks l=[]
 | [],_=>rfl
 | (k,o)::l,h=>by
   simp only [oth,mem_t.2 (h (k,o) (by simp)),cond_true,zl8 (l:=l) fun p hp=>h p (by simp [hp])]
section
variable {P : Program} {cx : Cx} {n : Nat} {Q : Exit → S → Prop} {regs : List (Nat × AV)} {objs : Obs} {ops : Array Oper} {rest : List Oper} {d : Nat} {pos : String} {aft : Array Edge} {ty : Nat}
theorem zbc {l:List Oper} {objs':Obs} (h:∀ a w,Rel P cx n ⟨regs,objs⟩ a w->(objs'.map (·.1)).Nodup) (hm:∀ p∈objs',p∈objs) (kk:AWl P cx n ops l Q ⟨regs,objs'⟩):AWl P cx n ops l Q ⟨regs,objs⟩ :=
 fun a w r=>zr4 (Le.objsN hm (h a w r)) kk a w r
theorem Rel.nodup {s:S} {a:Act} {w:World} (r:Rel P cx n s a w):(s.objs.map (·.1)).Nodup:=by obtain ⟨own,r⟩:=r;exact r.ok.keys
theorem zex {sub:Obs} (hs:∀ p∈sub,get objs p.1=some p.2) (hn:(sub.map (·.1)).Nodup) (ho:(objs.map (·.1)).Nodup):((sub++oth (sub.map (·.1)) objs).map (·.1)).Nodup:=by
 rw [List.map_append]
 refine List.nodup_append.2 ⟨hn,zcd ho,fun a ha b hb e=>?_⟩
 obtain ⟨p,hp,rfl⟩:=List.mem_map.1 hb
 exact (oth_iff.1 hp).2 (by rw [<- e];exact ha)
def After (O sub' O1:Obs):Prop:=∀ k,get O1 k=match get sub' k with
 | some y=>some y
 | none=>get O k
theorem zi8 {O sub sub' O1:Obs} (h:After O sub' O1) (hk:∀ k∈sub.map (·.1),get sub' k≠none) (hn:(O1.map (·.1)).Nodup):∀ p∈O1,p∈sub'++oth (sub.map (·.1)) O:=by
 rintro ⟨k,y⟩ hp
 have h1:=h k
 rw [z1c hn hp] at h1
 cases hg:get sub' k with
 | some z =>
   rw [hg] at h1
   cases h1
   exact List.mem_append_left _ (zu hg)
 | none =>
   rw [hg] at h1
   refine List.mem_append_right _ (oth_iff.2 ⟨zu h1.symm,fun hm=>hk k hm hg⟩)
variable {f : Nat} {l : List Operand} {ts : Array Nat} {avs args : List AV} {sub sub' O1 : Obs} {x : AV}
theorem zey {ks:List Nat} {o2:Obs} (h1:sel ks o2=sel ks (sub++oth ks objs)) (hf:∀ p∈sub',p.1∈ks\/(fresh p.1 ⟨regs,o2⟩=true/\get cx.objs0 p.1=none)) (hk:∀ k∈ks,k∈(sel ks o2).map (·.1)):newOK ks ⟨regs,o2⟩ cx.objs0 sub'=true:=by
 induction sub' with
 | nil=>rfl
 | cons p l ih =>
   obtain ⟨k,ob⟩:=p
   simp only [newOK,Bool.and_eq_true,Bool.or_eq_true]
   refine ⟨?_,ih fun p hp=>hf p (by simp [hp])⟩
   rcases hf (k,ob) (by simp) with h | ⟨h2,h3⟩
   ·exact .inl (mem_t.2 (hk k h))
   ·exact .inr ⟨h2,by rw [h3]⟩
theorem zez {k:Nat} {o2:Obs} (h:zr k objs=true) (hm:∀ p∈o2,p∈objs):zr k o2=true:=by
 have h0:∀ {l:Obs},zr k l=true↔∀ p∈l,Nat.beq p.1 k=false/\p.2.no k=true:=by
  intro l
  induction l with
  | nil=>simp [zr]
  | cons p l ih=>obtain ⟨j,o⟩:=p;simp [zr,ih]
 rw [h0] at h ⊢
 exact fun p hp=>h p (hm p hp)
theorem zry (hf:FB P f) (hx:evs ⟨regs,objs⟩ l=some avs) (hs:Subs avs args) (con:Con P f args sub fun r o=>r=x/\o=sub') (hd:Nat.blt d n=true)
  (hsub:∀ p∈sub,get objs p.1=some p.2) (hn:(sub.map (·.1)).Nodup) (hk:∀ k∈sub.map (·.1),get sub' k≠none)
  (hnew:∀ p∈sub',p.1∈sub.map (·.1)\/(z1e p.1 regs=true/\zr p.1 objs=true/\get cx.objs0 p.1=none)) (ha:After objs sub' O1) (h1:(objs.map (·.1)).Nodup->(O1.map (·.1)).Nodup)
  (kk:AWl P cx n ops rest Q ⟨(d,x)::regs,O1⟩) :
  AWl P cx n ops (⟨some d,.call ⟨.value (.func f),l.toArray,ts⟩,ty,pos,aft,none⟩::rest) Q ⟨regs,objs⟩:=fun a w r=>by
 have ho:=r.nodup
 have hm:∀ p∈sub++oth (sub.map (·.1)) objs,p∈objs:=fun p hp=>by
  rcases List.mem_append.1 hp with h | h
  ·exact zu (hsub p h)
  ·exact (oth_iff.1 h).1
 have e1:∀ p∈sub,p.1∈sub.map (·.1):=fun p hp=>List.mem_map_of_mem hp
 have hsel:sel (sub.map (·.1)) (sub++oth (sub.map (·.1)) objs)=sub:=by rw [zl6,zl5 e1,zrx,List.append_nil]
 have hoth:oth (sub.map (·.1)) (sub++oth (sub.map (·.1)) objs)=oth (sub.map (·.1)) objs:=by rw [zl7,zl8 e1,zgf,List.nil_append]
 refine zbc (objs':=sub++oth (sub.map (·.1)) objs) (fun a w r=>zex hsub hn ho) hm ?_ a w r
 have hev:evs ⟨regs,sub++oth (sub.map (·.1)) objs⟩ l=some avs:=by
  have:∀ {l:List Operand} {o o':Obs},evs ⟨regs,o⟩ l=evs ⟨regs,o'⟩ l:=by
   intro l o o'
   induction l with
   | nil=>rfl
   | cons y l ih =>
     have:S.ev ⟨regs,o⟩ y=S.ev ⟨regs,o'⟩ y:=by cases y<;>rfl
     simp only [evs,this,ih]
  rw [this];exact hx
 refine z8j (sub.map (·.1)) hf hev hs con hsel hd fun r1 o1 hR=>?_
 obtain ⟨rfl,rfl⟩:=hR
 refine ⟨zey (sub:=sub) (objs:=objs) (by rfl) (fun p hp=>?_) (fun k hk=>by rw [hsel];exact hk),?_⟩
 ·rcases hnew p hp with h | ⟨h2,h3,h4⟩
  ·exact .inl h
  ·exact .inr ⟨by simp only [fresh,h2,zez h3 hm,Bool.and_self],h4⟩
 ·rw [hoth]
  exact zbc (fun _ _ _=>h1 ho) (zi8 ha hk (h1 ho)) kk
theorem zl9 {t:Nat} {first caps:List AV} (hf:FB P f) (ht:get regs t=some (.fv (.func f) first caps)) (hx:evs ⟨regs,objs⟩ l=some avs) (hs:Subs (first++(avs++caps)) args) (con:Con P f args sub fun r o=>r=x/\o=sub') (hd:Nat.blt d n=true)
  (hsub:∀ p∈sub,get objs p.1=some p.2) (hn:(sub.map (·.1)).Nodup) (hk:∀ k∈sub.map (·.1),get sub' k≠none)
  (hnew:∀ p∈sub',p.1∈sub.map (·.1)\/(z1e p.1 regs=true/\zr p.1 objs=true/\get cx.objs0 p.1=none)) (ha:After objs sub' O1) (h1:(objs.map (·.1)).Nodup->(O1.map (·.1)).Nodup)
  (kk:AWl P cx n ops rest Q ⟨(d,x)::regs,O1⟩) :
  AWl P cx n ops (⟨some d,.call ⟨.value (.tmp t),l.toArray,ts⟩,ty,pos,aft,none⟩::rest) Q ⟨regs,objs⟩:=fun a w r=>by
 have ho:=r.nodup
 have hm:∀ p∈sub++oth (sub.map (·.1)) objs,p∈objs:=fun p hp=>by
  rcases List.mem_append.1 hp with h | h
  ·exact zu (hsub p h)
  ·exact (oth_iff.1 h).1
 have e1:∀ p∈sub,p.1∈sub.map (·.1):=fun p hp=>List.mem_map_of_mem hp
 have hsel:sel (sub.map (·.1)) (sub++oth (sub.map (·.1)) objs)=sub:=by rw [zl6,zl5 e1,zrx,List.append_nil]
 have hoth:oth (sub.map (·.1)) (sub++oth (sub.map (·.1)) objs)=oth (sub.map (·.1)) objs:=by rw [zl7,zl8 e1,zgf,List.nil_append]
 refine zbc (objs':=sub++oth (sub.map (·.1)) objs) (fun a w r=>zex hsub hn ho) hm ?_ a w r
 have hev:evs ⟨regs,sub++oth (sub.map (·.1)) objs⟩ l=some avs:=by
  have:∀ {l:List Operand} {o o':Obs},evs ⟨regs,o⟩ l=evs ⟨regs,o'⟩ l:=by
   intro l o o'
   induction l with
   | nil=>rfl
   | cons y l ih =>
     have:S.ev ⟨regs,o⟩ y=S.ev ⟨regs,o'⟩ y:=by cases y<;>rfl
     simp only [evs,this,ih]
  rw [this];exact hx
 refine zew (sub.map (·.1)) hf ht hev hs con hsel hd fun r1 o1 hR=>?_
 obtain ⟨rfl,rfl⟩:=hR
 refine ⟨zey (sub:=sub) (objs:=objs) (by rfl) (fun p hp=>?_) (fun k hk=>by rw [hsel];exact hk),?_⟩
 ·rcases hnew p hp with h | ⟨h2,h3,h4⟩
  ·exact .inl h
  ·exact .inr ⟨by simp only [fresh,h2,zez h3 hm,Bool.and_self],h4⟩
 ·rw [hoth]
  exact zbc (fun _ _ _=>h1 ho) (zi8 ha hk (h1 ho)) kk
end
end Go.Ab
namespace Go.Ab
open Go Go.RowKit
theorem Le.muPC {P:Program} {cx:Cx} {n:Nat} {regs:List (Nat×AV)} {objs objs':Obs} (c i k:Nat) {T T' sz ver:Nat} {cs:List AV} {xs:List (List PV)} (hc:get objs c=some (.ce T cs)) (hi:cs[i]?=some (.tm k ver)) (hk:get objs k=some (.mu T' sz ver xs)) (hne:Nat.beq k c=false)
  (ho:objs'=setO (oth [k] objs) c (.ce T (cs.set i (.p (.sl sz xs))))):Le P cx n ⟨regs,objs⟩ ⟨regs,objs'⟩:=fun a w ⟨own,r⟩=>by
 subst ho
 have hmem:=zu hk
 have hn':((oth [k] objs).map (·.1)).Nodup:=((z5b [k] objs).map _).nodup r.ok.keys
 have hs:∀ x,x∈oth [k] objs->x∈objs:=fun x hx=>(z5b [k] objs).mem hx
 have hok:=r.ok.part hs hn' cx.M0 (fun b i h=>.inl h) (fun k' o b hk' hb=>r.ok.m0 k' o b (hs _ hk') hb)
 obtain ⟨cells,e1,e2,e3⟩:=r.ok.obs k _ hmem
 have hwk:hwOf (oth [k] objs) k=none:=z6b fun h=>by obtain ⟨⟨_,o⟩,ho,rfl⟩:=List.mem_map.1 h;exact (oth_mem.1 ho).2 (by simp)
 have hkr:∀ j,Kr own own (hwOf objs) (hwOf (oth [k] objs)) j:=fun j=>by
  by_cases e:j=k
  ·subst e;exact .inr (.inl ⟨hwk,.inl rfl⟩)
  ·exact .inl ⟨rfl,z3f hn' r.ok.keys fun o=>by rw [oth_mem];simp [e]⟩
 have hst:Stp w (Mu cx.M0 own objs) w (Mu cx.M0 own (oth [k] objs)):=(Stp.refl w _).less hok.2
 have htr:∀ {x:AV} {v:Value},RepA w (Mu cx.M0 own objs) own (hwOf objs) x v->RepA w (Mu cx.M0 own (oth [k] objs)) own (hwOf (oth [k] objs)) x v:=fun h =>
  h.tr hst fun j _=>hkr j
 have r1:Rl P cx n ⟨regs,oth [k] objs⟩ a w own:={ defs:=r.defs,size:=r.size,ok:=hok.1,regs:=fun u x hx=>htr (r.regs u x hx),stp:=r.stp.less hok.2,fix:=fun j o hj=>(r.fix j o hj).trans (hkr j),fr:=r.fr.trans ⟨fun _ _ _=>rfl,fun j o c hj hc=>.inl ⟨j,o,hs _ hj,hc⟩,Nat.le_refl _⟩ }
 have hck:c≠k:=fun e=>by rw [e,Nat.beq_refl] at hne;cases hne
 obtain ⟨b,vals,f1,f2,f3,f4⟩:=r.ok.obs c _ (zu hc)
 have hval:=r.tm_val hk (f4 i _ hi).2
 refine ⟨own,r1.reCell (c:=c) (T:=T) (i:=i) (cs:=cs) (y:=.p (.sl sz xs)) (z1c hn' (oth_mem.2 ⟨zu hc,by simp [hck]⟩)) rfl fun b' vals' g1 g2 _=>?_⟩
 have hb:b'=b:=by rw [f1] at g1;injection g1 with g1;injection g1 with g1;injection g1 with g1;exact g1.symm
 subst hb
 have hvs:vals'=vals:=by
  rw [f2] at g2
  injection g2 with g2;injection g2 with g2
  have:=congrArg Array.toList g2
  simpa using this.symm
 subst hvs
 rw [hval]
 refine .p (Rep.of_own e1 rfl (fun i row hi=>e2 row (List.mem_of_getElem? hi)) (fun b i hbk _=>?_) (fun i row j x hi hj=>(e3 i row j x hi hj).stp hst))
 rintro (h | ⟨k',o,hk',hm⟩)
 ·exact r.ok.m0 k _ b hmem hbk _ h
 ·have:=oth_mem.1 hk'
  exact r.ok.inj k _ k' o hmem this.1 (fun e=>this.2 (by simp [e])) b hbk (z4h hm)
end Go.Ab
namespace Go.Ab
open Go Go.RowKit
theorem Rl.buildM {P:Program} {cx:Cx} {n:Nat} {s:S} {a:Act} {w:World} {own:Nat->Value} (r:Rl P cx n s a w own) {T E sz bytes len d:Nat} {parts:List (Nat×Operand)} {rows:List (List PV)} (si:SI P T E) (ei:EI P E sz bytes)
  (hr:z3x s sz 0 parts=some rows) (hl:parts.length=len) (hs:len * sz<=16777216) (hs2:len<=16777216) (hf:fresh d s=true) (h0:get cx.objs0 d=none) :
  ∃ v w',(Instr.buildSlice T len (parts.map fun p=>(p.1,a.eval p.2)).toArray).run P w=.ok v w'/\Rl P cx n ⟨s.regs,(d,.mu E sz 0 rows)::s.objs⟩ a w' (upd own d v) /\
    RepA w' (Mu cx.M0 (upd own d v) ((d,.mu E sz 0 rows)::s.objs)) (upd own d v) (hwOf ((d,.mu E sz 0 rows)::s.objs)) (.tm d 0) v:=by
 obtain ⟨i,z,hi,hz,hsz,hby,hzs⟩:=ei.get
 have hrl:=za7 hr
 have hlen:rows.length=len:=by omega
 obtain ⟨z0,hz0⟩:∃ z0:Array Value,z0=(if len * sz=0 then #[] else z.cells):=⟨_,rfl⟩
 obtain ⟨cells,g1,g2,g3,g4,g5⟩:=zc2 r parts 0 rows [] ((List.range (len * sz)).map fun q=>z0[q % z0.size]!) hr (by simp) (by simp [hlen])
 have hrun:(Instr.buildSlice T len (parts.map fun p=>(p.1,a.eval p.2)).toArray).run P w=.ok (.slice (some ⟨w.heap.size,0,none⟩) len len) (w.alloc (.cells cells.toArray E)):=by
  have hr2:((Array.range (len * sz)).map fun q=>z0[q % z0.size]!)=([]++(List.range (len * sz)).map fun q=>z0[q % z0.size]!).toArray:=by
   apply Array.ext'
   simp
  rw [<- hr2] at g1
  have hng:¬ (len * sz>2 ^ 24):=by omega
  subst hsz
  simp only [Instr.buildSlice,Sem.run_bind,run_underlying si.h,Result.andThen_ok,sizeOf,typeInfo,run_program,hi,Sem.run_pure,hng,if_false]
  by_cases h:len * i.size=0
  ·rw [if_pos h] at hz0 ⊢
   subst hz0
   simp only [Sem.run_bind,Sem.run_pure,Result.andThen_ok]
   rw [g1]
   simp [newRow]
  ·rw [if_neg h] at hz0 ⊢
   subst hz0
   simp only [Sem.run_bind,Sem.run_pure,Result.andThen_ok,zeroValue,typeInfo,run_program,hi,hz]
   rw [g1]
   simp [newRow]
 have hown:(w.alloc (.cells cells.toArray E)).ownsRow 0 E sz (.slice (some ⟨w.heap.size,0,none⟩) len len) len cells:=by
  refine ⟨by rw [g2,hlen],.inr ⟨w.heap.size,len,cells.toArray,rfl,Nat.zero_le _,z4v _ _,Nat.le_refl _,?_,by simp [g2,hlen],?_⟩⟩
  ·simp only [maxLen];omega
  ·simp only [List.take_of_length_le (by rw [g2,hlen];exact Nat.le_refl _)]
 obtain ⟨r',hs'⟩:=r.newMu (vr:=0) d E sz rows _ cells hf h0 (by rw [hlen];exact hown) (World.grownBy_alloc w _ none) (fun b hb=>by simp only [blk,Option.some.injEq] at hb;omega)
  (fun row hm=>by obtain ⟨j,hj⟩:=List.getElem?_of_mem hm;exact g4 j row hj) (fun hst q row j x h1 h2=>(g5 q row j x h1 h2).stp hst)
 refine ⟨_,_,hrun,r',.tm rfl fun m hm=>?_⟩
 have:hwOf ((d,Ob.mu E sz 0 rows)::s.objs) d=some 0:=by simp [hwOf,get,Nat.beq_refl]
 rw [this] at hm
 cases hm
 exact ⟨Nat.le_refl _,fun _=>by rw [zh]⟩
theorem zi9 {P:Program} {cx:Cx} {n:Nat} {Q:Exit->S->Prop} {regs:List (Nat×AV)} {objs:Obs} {ops:Array Oper} {rest:List Oper} {d:Nat} {pos:String} {aft:Array Edge} {ty:Nat} {T E sz bytes len:Nat} {parts:List (Nat×Operand)} {rows:List (List PV)} (si:SI P T E) (ei:EI P E sz bytes) (hr:z3x ⟨regs,objs⟩ sz 0 parts=some rows) (hl:Nat.beq parts.length len=true) (hs:(Nat.ble (len * sz) 16777216&&Nat.ble len 16777216)=true)
  (hf:fresh d ⟨regs,objs⟩=true) (h0:get cx.objs0 d=none) (hd:Nat.blt d n=true) (kk:AWl P cx n ops rest Q ⟨(d,.tm d 0)::regs,(d,.mu E sz 0 rows)::objs⟩) :
  AWl P cx n ops (⟨some d,.buildSlice T len parts.toArray,ty,pos,aft,none⟩::rest) Q ⟨regs,objs⟩ :=
 z2w rfl (fun a w own r=>by
  obtain ⟨v,w',e1,e2,e3⟩:=r.buildM si ei hr (Nat.eq_of_beq_eq_true hl) (by simp at hs;exact hs.1) (by simp at hs;exact hs.2) hf h0
  exact ⟨v,w',.inl (za8 e1),_,e2.put_same (by simpa using hd) e3⟩) kk
end Go.Ab
