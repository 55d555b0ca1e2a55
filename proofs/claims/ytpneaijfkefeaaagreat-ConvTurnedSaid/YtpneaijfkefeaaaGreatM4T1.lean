/- Texts of our own, laid together. -/
import Derived.RangeFuncLeaves
import Derived.RangeFuncCalls
import Derived.Test.YtpneaijfkefeaaaGreatProg
import Derived.Test.YtpneaijfkefeaaaGreatM3T1
set_option maxRecDepth 20000
set_option linter.unusedVariables false
set_option linter.unusedSectionVars false
set_option linter.unusedSimpArgs false
namespace Go.Ab
open Go Go.RowKit
def depF:List Edge->List Nat
 | []=>[]
 | e::l=>match Region.binds .any e with
   | true=>e.on::depF l
   | false=>depF l
theorem zgu {e:Edge}:∀ {l:List Edge},e∈l->Region.binds .any e=true->e.on∈depF l
 | e0::l,h,hb=>by
   simp only [depF]
   rcases List.mem_cons.1 h with h | h
   ·subst h;rw [hb];exact List.mem_cons_self
   ·split
    ·exact List.mem_cons_of_mem _ (zgu h hb)
    ·exact zgu h hb
theorem zlj {j:Nat}:∀ {l:List Edge},j∈depF l->∃ e∈l,Region.binds .any e=true/\e.on=j
 | e0::l,h=>by
   simp only [depF] at h
   split at h
   ·rename_i hb
    rcases List.mem_cons.1 h with h | h
    ·exact ⟨e0,List.mem_cons_self,hb,h.symm⟩
    ·obtain ⟨e,h1,h2⟩:=zlj h;exact ⟨e,List.mem_cons_of_mem _ h1,h2⟩
   ·obtain ⟨e,h1,h2⟩:=zlj h;exact ⟨e,List.mem_cons_of_mem _ h1,h2⟩
def uniN:List Nat->List Nat->List Nat
 | [],b=>b
 | x::a,b=>match mem x b with
   | true=>uniN a b
   | false=>uniN a (x::b)
theorem zbg {x:Nat}:∀ {a b:List Nat},x∈uniN a b->x∈a\/x∈b
 | [],b,h=>.inr h
 | y :: a,b,h=>by
   simp only [uniN] at h
   split at h
   ·rcases zbg h with h | h
    ·exact .inl (List.mem_cons_of_mem _ h)
    ·exact .inr h
   ·rcases zbg h with h | h
    ·exact .inl (List.mem_cons_of_mem _ h)
    ·rcases List.mem_cons.1 h with h | h
     ·exact .inl (by rw [h];exact List.mem_cons_self)
     ·exact .inr h
def clsOf (acc:List (List Nat)):List Nat->List Nat
 | []=>[]
 | j::l=>match nthq acc j with
   | some c=>uniN (j::c) (clsOf acc l)
   | none=>uniN [j] (clsOf acc l)
theorem zcv {acc:List (List Nat)} {x:Nat}:∀ {l:List Nat},x∈clsOf acc l->x∈l\/∃ j∈l,∃ c,nthq acc j=some c/\x∈c
 | j :: l,h=>by
   simp only [clsOf] at h
   split at h
   ·rename_i c hc
    rcases zbg h with h | h
    ·rcases List.mem_cons.1 h with h | h
     ·exact .inl (by rw [h];exact List.mem_cons_self)
     ·exact .inr ⟨j,List.mem_cons_self,c,hc,h⟩
    ·rcases zcv h with h | ⟨j',h1,h2⟩
     ·exact .inl (List.mem_cons_of_mem _ h)
     ·exact .inr ⟨j',List.mem_cons_of_mem _ h1,h2⟩
   ·rcases zbg h with h | h
    ·exact .inl (by rw [List.mem_singleton.1 h];exact List.mem_cons_self)
    ·rcases zcv h with h | ⟨j',h1,h2⟩
     ·exact .inl (List.mem_cons_of_mem _ h)
     ·exact .inr ⟨j',List.mem_cons_of_mem _ h1,h2⟩
def clsL:List Oper->List (List Nat)->List (List Nat)
 | [],acc=>acc
 | op::l,acc=>clsL l (acc++[clsOf acc (depF op.after.toList)])
def Need (ops:List Oper) (m j:Nat):Prop:=∀ listed,Clos .any ops.toArray listed->(∀ o,ops.toArray[m]?=some o->∀ e∈o.after,Region.binds .any e=true->listed.getD e.on false=true)->listed.getD j false=true
theorem zzv {listed:Array Bool} {i:Nat} (h:listed.getD i false=true):listed.getD i true=true:=by
 rcases Nat.lt_or_ge i listed.size with h' | h'
 ·simpa [h'] using h
 ·simp [h']
theorem zis {ops:List Oper}:∀ {l:List Oper} {acc:List (List Nat)},ops.drop acc.length=l->(∀ m c,nthq acc m=some c->∀ j∈c,Need ops m j)->∀ m c,nthq (clsL l acc) m=some c->∀ j∈c,Need ops m j
 | [],acc,_,h=>h
 | op::l,acc,hd,h=>by
   refine zis (l:=l) (by rw [List.length_append];exact zi2 hd) ?_
   intro m c hm j hj
   rw [z5c] at hm
   rcases Nat.lt_or_ge m acc.length with hlt | hge
   ·rw [List.getElem?_append_left hlt] at hm
    exact h m c (by rw [z5c];exact hm) j hj
   ·rw [List.getElem?_append_right hge] at hm
    have hm0:m-acc.length=0:=by
     cases hq:m-acc.length with
     | zero=>rfl
     | succ q=>rw [hq] at hm;simp at hm
    rw [hm0] at hm
    simp only [List.getElem?_cons_zero,Option.some.injEq] at hm
    subst hm
    obtain rfl:m=acc.length:=by omega
    have hop:ops.toArray[acc.length]?=some op:=by
     have:=congrArg (·[0]?) hd
     simpa using this
    intro listed hc hl
    have hl':=hl op hop
    have dep:∀ q,q∈depF op.after.toList->listed.getD q false=true:=fun q hq=>by
     obtain ⟨e,h1,h2,h3⟩:=zlj hq
     rw [<- h3];exact hl' e (by simpa using h1) h2
    rcases zcv hj with hj | ⟨j',h1,c,h2,h3⟩
    ·exact dep j hj
    ·exact h j' c h2 j h3 listed hc fun o ho e he hb=>hc.2 j' o ho (zzv (dep j' h1)) e he hb
structure Itm where
 i:Nat
 te:TrE
 lk:List Nat
 cls:List Nat
 dep:List Nat
def itmL (ops:List Oper) (cls:List (List Nat)):Nat->List Oper->List TrE->List Itm
 | i,op::l,te::ts=>match nthq cls i with
   | some c=>⟨i,te,lkT ops op,c,depF op.after.toList⟩::itmL ops cls (i+1) l ts
   | none=>⟨i,te,lkT ops op,[],depF op.after.toList⟩::itmL ops cls (i+1) l ts
 | _,_,_=>[]
def noW (k:Nat):Option Wt->Bool
 | none=>true
 | some (.c _ _ l)=>AV.noL k l
 | some (.w j ob)=>!Nat.beq j k&&ob.no k
 | some (.n j ob)=>!Nat.beq j k&&ob.no k
 | some (.m l)=>l.all fun p=>p.2.no k
def nk:Option Wt->Option Nat
 | some (.n k _)=>some k
 | _=>none
def indT (a b:Itm):Bool :=
 offR a.te.d b.lk&&(offR b.te.d a.lk&&(offD a.te.d b.te.d&&(b.te.ins.all (offL a.te.w)&&(a.te.ins.all (offL b.te.w)&&offW a.te.w b.te.w))))
def keyT (a b:Itm):Bool :=
 match nk b.te.w with
 | some k=>mem b.i a.cls || (a.te.x.av.no k&&noW k a.te.w)
 | none=>true
def chk1:List Itm->Bool
 | []=>true
 | a::l=>l.all (fun b=>(mem a.i b.cls || indT a b)&&(keyT a b&&keyT b a))&&chk1 l
def chk0 (E:En) (r0:VR) (o0:Obs) (l:List Itm):Bool :=
 l.all fun a=>a.dep.all (fun j=>Nat.blt j a.i)&&match nk a.te.w with
  | some k=>z1e k (toR r0)&&zr k o0&&!mem k E.k0
  | none=>true
def chkD (E:En) (ops:List Oper) (r0:VR) (o0 o':Obs) (tr:Tr):Bool :=
 match itmL ops (clsL ops []) 0 ops tr.reverse with
 | l=>chk0 E r0 o0 l&&(chk1 l&&z4j (o'.map (·.1)))
theorem zn8 {d:Option Nat} {l l':List Nat} (h:offR d l=true) (hs:∀ t∈l',t∈l):offR d l'=true:=by
 cases d with
 | none=>rfl
 | some d =>
   simp only [offR,Bool.not_eq_true'] at h ⊢
   cases hb:mem d l' with
   | false=>rfl
   | true=>rw [mem_iff.2 (hs d (mem_iff.1 hb))] at h;cases h
theorem zlk {k:Nat}:∀ {a b:List AV},AV.noL k (a++b)=(AV.noL k a&&AV.noL k b)
 | [],b=>by simp [AV.noL]
 | x::a,b=>by simp [AV.noL,zlk (a:=a),Bool.and_assoc]
theorem zn9 {k:Nat}:∀ {a:List AV} (m:Nat),AV.noL k a=true->AV.noL k (a.take m)=true
 | [],m,h=>by simp [AV.noL]
 | x::a,0,h=>by simp [AV.noL]
 | x::a,m+1,h=>by simp only [AV.noL,Bool.and_eq_true,List.take_succ_cons] at *;exact ⟨h.1,zn9 m h.2⟩
theorem zna {k:Nat}:∀ {a:List AV} (m:Nat),AV.noL k a=true->AV.noL k (a.drop m)=true
 | [],m,h=>by simp [AV.noL]
 | x::a,0,h=>h
 | x::a,m+1,h=>by simp only [AV.noL,Bool.and_eq_true] at h;simp only [List.drop_succ_cons];exact zna m h.2
theorem zf2 {k j:Nat} {ob:Ob}:∀ {O:Obs},zr k O=true->get O j=some ob->ob.no k=true/\j≠k
 | (j0,o0)::O,h,hg=>by
   simp only [zr,Bool.and_eq_true,Bool.not_eq_true'] at h
   simp only [get] at hg
   cases hb:Nat.beq j0 j with
   | true =>
     rw [hb] at hg;simp at hg;subst hg
     refine ⟨h.1.2,fun e=>?_⟩
     rw [e] at hb
     rw [hb] at h;cases h.1.1
   | false=>rw [hb] at hg;exact zf2 h.2 hg
theorem z6w {k j:Nat} {ob:Ob} (hn:ob.no k=true):∀ {O:Obs},zr k O=true->zr k (setO O j ob)=true
 | [],h=>h
 | (j0,o0)::O,h=>by
   simp only [zr,Bool.and_eq_true] at h
   simp only [setO]
   cases hb:Nat.beq j0 j with
   | true=>simp only [cond_true,zr,h.1.1,h.2,hn,Bool.and_self]
   | false=>simp only [cond_false,zr,h.1.1,h.1.2,z6w hn h.2,Bool.and_self]
theorem zll {k:Nat} {w:Option Wt} {O O1:Obs} (h:zr k O=true) (hn:noW k w=true) (ha:appW w O=some O1):zr k O1=true:=by
 cases w with
 | none=>cases ha;exact h
 | some w=>cases w with
   | c j off l =>
     simp only [appW] at ha
     split at ha
     ·rename_i T cs hg
      split at ha
      ·rename_i cs' hc
       rw [z3b] at ha;cases ha
       refine z6w ?_ h
       have h1:=(zf2 h hg).1
       simp only [Ob.no] at h1 ⊢
       rw [(z3m hc).1,zlk,zlk,zn9 _ h1,zna _ h1]
       simp only [noW] at hn
       rw [hn];rfl
      ·cases ha
     ·cases ha
   | w j ob =>
     simp only [appW] at ha
     simp only [noW,Bool.and_eq_true] at hn
     split at ha
     ·rw [z3b] at ha;cases ha;exact z6w hn.2 h
     ·cases ha
   | n j ob =>
     simp only [appW] at ha;cases ha
     simp only [noW,Bool.and_eq_true] at hn
     simp only [zr,hn.1,hn.2,h,Bool.and_self]
   | m l =>
     simp only [noW] at hn
     simp only [appW] at ha
     have go:∀ {l:List (Nat×Ob)} {O:Obs},(l.all fun p=>p.2.no k)=true->zr k O=true->setqs O l=some O1->zr k O1=true:=by
      intro l
      induction l with
      | nil=>intro O _ h ha;cases ha;exact h
      | cons p l ih =>
        obtain ⟨j,ob⟩:=p
        intro O hn h ha
        simp only [List.all_cons,Bool.and_eq_true] at hn
        simp only [setqs] at ha
        split at ha
        ·rw [z3b] at ha
         exact ih hn.2 (z6w hn.1 h) ha
        ·cases ha
     exact go hn h ha
theorem zlm {k:Nat} {d:Option Nat} {x:AV} {R:Regs} (h:z1e k R=true) (hx:x.no k=true):z1e k (putd d x R)=true:=by
 cases d with
 | none=>exact h
 | some d=>simp only [putd,z1e,hx,h,Bool.and_self]
section
variable {P : Program} {cx : Cx} {n : Nat} {E : En} {ops : List Oper}
structure Know (P:Program) (cx:Cx) (n:Nat) (E:En) (ops:List Oper) (e:Ev) (it:Itm):Prop where
 i:it.i=e.i
 op:∃ op,ops.toArray[e.i]?=some op/\it.dep=depF op.after.toList/\SemE P cx n E ops op e/\e.d=op.dst
 d:e.d=it.te.d
 x:e.x=it.te.x.av
 w:e.w=it.te.w
 ins:e.ins.map (·.1)=it.te.ins
 lk:∀ p∈e.lk,p.1∈it.lk
 need:∀ j∈it.cls,Need ops e.i j
inductive Knows (P:Program) (cx:Cx) (n:Nat) (E:En) (ops:List Oper):Nat->List Ev->List Itm->Prop
 | nil {i:Nat}:Knows P cx n E ops i [] []
 | cons {i:Nat} {e:Ev} {es:List Ev} {it:Itm} {its:List Itm} (h:Know P cx n E ops e it) (hi:e.i=i) (hs:Knows P cx n E ops (i+1) es its):Knows P cx n E ops i (e::es) (it::its)
theorem znb {cls:List (List Nat)} (hc:∀ m c,nthq cls m=some c->∀ j∈c,Need ops m j):∀ {l:List Oper} {i:Nat} {ts:List TrE} {es:List Ev},ops.drop i=l->EvsOf P cx n E ops i l ts es->Knows P cx n E ops i es (itmL ops cls i l ts)
 | [],i,ts,es,hd,h=>by cases h;exact .nil
 | op::l,i,ts,es,hd,h=>by
   cases h with
   | cons h hs =>
     rename_i te ts e es
     have hop:ops.toArray[i]?=some op:=by
      have:=congrArg (·[0]?) hd
      simpa using this
     have ih:=znb hc (zi2 hd) hs
     simp only [itmL]
     split
     ·rename_i c hcc
      exact .cons ⟨h.i.symm,⟨op,by rw [h.i];exact hop,rfl,h.sem,h.d.trans h.dd⟩,h.d,h.x,h.w,h.ins,h.lk,fun j hj=>by rw [h.i];exact hc i c hcc j hj⟩ h.i ih
     ·exact .cons ⟨h.i.symm,⟨op,by rw [h.i];exact hop,rfl,h.sem,h.d.trans h.dd⟩,h.d,h.x,h.w,h.ins,h.lk,fun j hj=>by cases hj⟩ h.i ih
theorem Knows.ge:∀ {i:Nat} {es:List Ev} {its:List Itm},Knows P cx n E ops i es its->∀ e∈es,i<=e.i
 | _,_,_,.cons h hi hs,e,he=>by
   rcases List.mem_cons.1 he with h1 | h1
   ·rw [h1,hi];exact Nat.le_refl _
   ·exact Nat.le_trans (Nat.le_succ _) (hs.ge e h1)
theorem Knows.get:∀ {i:Nat} {es:List Ev} {its:List Itm},Knows P cx n E ops i es its->∀ e∈es,∃ it∈its,Know P cx n E ops e it
 | _,_,_,.cons h hi hs,e,he=>by
   rcases List.mem_cons.1 he with h1 | h1
   ·subst h1;exact ⟨_,List.mem_cons_self,h⟩
   ·obtain ⟨it,h2,h3⟩:=hs.get e h1;exact ⟨it,List.mem_cons_of_mem _ h2,h3⟩
theorem Knows.sorted:∀ {i:Nat} {es:List Ev} {its:List Itm},Knows P cx n E ops i es its->es.Pairwise (fun a b=>a.i<b.i)
 | _,_,_,.nil=>.nil
 | _,_,_,.cons h hi hs=>.cons (fun b hb=>by rw [hi];exact hs.ge b hb) hs.sorted
theorem Knows.pair:∀ {i:Nat} {es:List Ev} {its:List Itm},Knows P cx n E ops i es its->chk1 its=true->∀ a∈es,∀ b∈es,a.i<b.i ->
  ∃ x y,Know P cx n E ops a x/\Know P cx n E ops b y/\(mem x.i y.cls || indT x y)=true/\keyT x y=true/\keyT y x=true
 | _,_,_,.cons h hi hs,hc,a,ha,b,hb,hlt=>by
   simp only [chk1,Bool.and_eq_true,List.all_eq_true] at hc
   obtain ⟨h1,h2⟩:=hc
   rcases List.mem_cons.1 ha with ea | ea
   ·subst ea
    rcases List.mem_cons.1 hb with eb | eb
    ·subst eb;exact absurd hlt (Nat.lt_irrefl _)
    ·obtain ⟨y,hy,hk⟩:=hs.get b eb
     have:=h1 y hy
     exact ⟨_,y,h,hk,this.1,this.2.1,this.2.2⟩
   ·rcases List.mem_cons.1 hb with eb | eb
    ·subst eb
     have:=hs.ge a ea
     omega
    ·exact hs.pair h2 a ea b eb hlt
theorem zz21 {a b:Ev} {x y:Itm} (ha:Know P cx n E ops a x) (hb:Know P cx n E ops b y) (h:indT x y=true):IndE a b:=by
 simp only [indT,Bool.and_eq_true] at h
 obtain ⟨h1,h2,h3,h4,h5,h6⟩:=h
 refine ⟨?_,?_,?_,fun p hp=>?_,fun p hp=>?_,?_⟩
 ·rw [ha.d];exact zn8 h1 (fun t ht=>by obtain ⟨p,hp,rfl⟩:=List.mem_map.1 ht;exact hb.lk p hp)
 ·rw [hb.d];exact zn8 h2 (fun t ht=>by obtain ⟨p,hp,rfl⟩:=List.mem_map.1 ht;exact ha.lk p hp)
 ·rw [ha.d,hb.d];exact h3
 ·rw [ha.w];exact List.all_eq_true.1 h4 p.1 (by rw [<- hb.ins];exact List.mem_map_of_mem hp)
 ·rw [hb.w];exact List.all_eq_true.1 h5 p.1 (by rw [<- ha.ins];exact List.mem_map_of_mem hp)
 ·rw [ha.w,hb.w];exact h6
theorem zyb {a b:Ev} {x y:Itm} (ha:Know P cx n E ops a x) (hb:Know P cx n E ops b y) (h:keyT x y=true) {k:Nat} {ob:Ob} (hk:b.w=some (.n k ob)):Need ops a.i b.i\/(a.x.no k=true/\noW k a.w=true):=by
 simp only [keyT,<- hb.w,hk,nk,Bool.or_eq_true,Bool.and_eq_true] at h
 rcases h with h | h
 ·exact .inl (by rw [<- hb.i];exact ha.need _ (mem_iff.1 h))
 ·exact .inr (by rw [ha.x,ha.w];exact h)
def pend (evs:List Ev) (listed:Array Bool):List Ev:=evs.filter fun e=>!listed.getD e.i true
theorem sched (hE:EnOK P cx n E) {evs:List Ev} {its:List Itm} (hk:Knows P cx n E ops 0 evs its) (hlen:evs.length=ops.length) (hc:chk1 its=true) (hd:∀ it∈its,∀ j∈it.dep,j<it.i) {Q':Exit->Act->World->Prop} {RF:Regs} {OF:Obs}
  (hQ:∀ R O a w,agr RF R->OEq OF O->Rel P cx n ⟨R,O⟩ a w->Q' .normal a w) :
  ∀ (fuel:Nat) (listed:Array Bool) (R:Regs) (O:Obs) (R':Regs) (O':Obs) (a:Act) (w:World),(pend evs listed).length=fuel->Clos .any ops.toArray listed->Runs (pend evs listed) R O R' O'->agr RF R'->OEq OF O' ->
    (∀ e∈pend evs listed,∀ k ob,e.w=some (.n k ob)->(z1e k R&&zr k O&&!mem k E.k0)=true)->Rel P cx n ⟨R,O⟩ a w->wpAny P .any ops.toArray Q' fuel listed a w:=by
 have hidx:∀ i,i<ops.length->∃ e∈evs,e.i=i:=by
  have:∀ {i:Nat} {es:List Ev} {its:List Itm},Knows P cx n E ops i es its->∀ j,i<=j->j<i+es.length->∃ e∈es,e.i=j:=by
   intro i es its h
   induction h with
   | nil=>intro j h1 h2;simp at h2;omega
   | cons h hi hs ih =>
     intro j h1 h2
     rcases Nat.eq_or_lt_of_le h1 with h3 | h3
     ·exact ⟨_,List.mem_cons_self,by omega⟩
     ·obtain ⟨e,g1,g2⟩:=ih j h3 (by simp at h2;omega)
      exact ⟨e,List.mem_cons_of_mem _ g1,g2⟩
  intro i hi
  exact this hk i (Nat.zero_le _) (by omega)
 have hlt:∀ e∈evs,e.i<ops.length:=fun e he=>by
  obtain ⟨it,_,h2⟩:=hk.get e he
  obtain ⟨op,h3,_⟩:=h2.op
  have:=(Array.getElem?_eq_some_iff.1 h3).1
  simpa using this
 have hready:∀ {listed:Array Bool},Clos .any ops.toArray listed->pend evs listed≠[]->Region.ready .any ops.toArray listed≠[]:=by
  intro listed hcl hne hr
  cases hp:pend evs listed with
  | nil=>exact hne hp
  | cons e es =>
    have hsort:(pend evs listed).Pairwise (fun a b=>a.i<b.i):=hk.sorted.filter _
    have he:e∈pend evs listed:=by rw [hp];exact List.mem_cons_self
    obtain ⟨he1,he2⟩:=List.mem_filter.1 he
    obtain ⟨it,hit,hkn⟩:=hk.get e he1
    obtain ⟨op,ho,hdep,_,_⟩:=hkn.op
    have:e.i∈Region.ready .any ops.toArray listed:=by
     refine mem_ready.2 ⟨by simpa using he2,op,ho,fun ed hed hb=>?_⟩
     have hj:=hd it hit ed.on (by rw [hdep];exact zgu (by simpa using hed) hb)
     rw [hkn.i] at hj
     obtain ⟨e',g1,g2⟩:=hidx ed.on (by have:=hlt e he1;omega)
     cases hl:listed.getD ed.on false with
     | true=>rfl
     | false =>
       have hsz:ed.on<listed.size:=by rw [hcl.1];have:=hlt e he1;simp;omega
       have hl':listed.getD ed.on true=false:=by simpa [hsz] using hl
       have hin:e'∈pend evs listed:=List.mem_filter.2 ⟨g1,by rw [g2,hl'];rfl⟩
       rw [hp] at hin hsort
       rcases List.mem_cons.1 hin with h1 | h1
       ·rw [h1] at g2;omega
       ·have:=(List.pairwise_cons.1 hsort).1 e' h1;omega
    rw [hr] at this;cases this
 intro fuel
 induction fuel with
 | zero =>
   intro listed R O R' O' a w hl hcl hrun h1 h2 hf hrel
   have hp:pend evs listed=[]:=List.length_eq_zero_iff.1 hl
   rw [hp] at hrun
   cases hrun
   refine ⟨?_,hQ _ _ _ _ h1 h2 hrel⟩
   cases hr:Region.ready .any ops.toArray listed with
   | nil=>rfl
   | cons i is =>
     have:i∈Region.ready .any ops.toArray listed:=by rw [hr];exact List.mem_cons_self
     obtain ⟨g0,o,go,_⟩:=mem_ready.1 this
     have hil:i<ops.length:=by have:=(Array.getElem?_eq_some_iff.1 go).1;simpa using this
     obtain ⟨e,he,hei⟩:=hidx i hil
     have:e∈pend evs listed:=List.mem_filter.2 ⟨he,by rw [hei,g0];rfl⟩
     rw [hp] at this;cases this
 | succ fuel ih =>
   intro listed R O R' O' a w hl hcl hrun h1 h2 hf hrel
   refine ⟨fun hr=>absurd hr (hready hcl (fun e=>by rw [e] at hl;simp at hl)),fun i hi=>?_⟩
   obtain ⟨g0,o,go,gall⟩:=mem_ready.1 hi
   have hil:i<ops.length:=by have:=(Array.getElem?_eq_some_iff.1 go).1;simpa using this
   obtain ⟨e,he,hei⟩:=hidx i hil
   subst hei
   have hep:e∈pend evs listed:=List.mem_filter.2 ⟨he,by rw [g0];rfl⟩
   obtain ⟨pre,post,hsp⟩:=List.append_of_mem hep
   have hsort:(pend evs listed).Pairwise (fun a b=>a.i<b.i):=hk.sorted.filter _
   rw [hsp] at hsort
   have hneed:∀ b∈evs,listed.getD b.i true=false->¬ Need ops e.i b.i:=fun b hb hbl hn=>by
    have:=hn listed hcl (fun o' ho' ed hed hb'=>by rw [go] at ho';cases ho';exact gall ed hed hb')
    rw [zzi hbl] at this;cases this
   have hin:∀ b,b∈pend evs listed->b∈evs/\listed.getD b.i true=false:=fun b hb=>by
    obtain ⟨q1,q2⟩:=List.mem_filter.1 hb
    exact ⟨q1,by simpa using q2⟩
   rw [hsp] at hrun
   obtain ⟨R2,O2,k1,k2,k3⟩:=hrun.front (fun b hb=>by
    have hbp:b∈pend evs listed:=by rw [hsp];exact List.mem_append_left _ hb
    obtain ⟨q1,q2⟩:=hin b hbp
    have hbi:b.i<e.i:=(List.pairwise_append.1 hsort).2.2 b hb e List.mem_cons_self
    obtain ⟨x,y,p1,p2,p3,_,_⟩:=hk.pair hc b q1 e he hbi
    rw [Bool.or_eq_true] at p3
    rcases p3 with p3 | p3
    ·exact absurd (by rw [<- p1.i];exact p2.need _ (mem_iff.1 p3)) (hneed b q1 q2)
    ·exact zz21 p1 p2 p3)
   cases k1 with
   | cons c1 c2 c3 c4 k1 =>
     rename_i O1
     obtain ⟨it,_,hkn⟩:=hk.get e he
     obtain ⟨op,ho,_,hsem,hdst⟩:=hkn.op
     refine AWl.one (Q:=fun e1 s1=>agr s1.regs (putd e.d e.x R)/\s1.objs=O1) ho (hsem R O O1 c1 c2 c4 (fun k ob hw=>hf e hep k ob hw)) hrel fun s1 a1 w1 hr1 hs1=>?_
     have hnp:pend evs (listed.setIfInBounds e.i true)=pre++post:=by
      have hne:∀ b∈pre++post,b.i≠e.i:=fun b hb=>by
       rcases List.mem_append.1 hb with hb | hb
       ·have:=(List.pairwise_append.1 hsort).2.2 b hb e List.mem_cons_self;omega
       ·have:=(List.pairwise_cons.1 (List.pairwise_append.1 hsort).2.1).1 b hb;omega
      have h5:pend evs (listed.setIfInBounds e.i true)=(pend evs listed).filter fun b=>!Nat.beq b.i e.i:=by
       unfold pend
       rw [List.filter_filter]
       refine List.filter_congr fun b hb=>?_
       by_cases hbe:b.i=e.i
       ·rw [hbe]
        have:e.i<listed.size:=by rw [hcl.1];simpa using hil
        simp [this,Nat.beq_refl]
       ·rw [getD_set_ne true (Ne.symm hbe),zcr hbe];simp
      rw [h5,hsp,List.filter_append,List.filter_cons,if_neg (by simp [Nat.beq_refl])]
      rw [List.filter_eq_self.2 (fun b hb=>by rw [zcr (hne b (List.mem_append_left _ hb))];rfl),List.filter_eq_self.2 (fun b hb=>by rw [zcr (hne b (List.mem_append_right _ hb))];rfl)]
     refine ih _ _ _ _ _ a1 w1 ?_ (hcl.set hi) (by rw [hnp];exact k1) (fun t=>(h1 t).trans (k2 t)) (fun q=>(h2 q).trans (k3 q)) ?_ ?_
     ·rw [hnp];rw [hsp] at hl;simp at hl ⊢;omega
     ·rw [hnp]
      intro b hb k ob hw
      have hbp:b∈pend evs listed:=by
       rw [hsp]
       rcases List.mem_append.1 hb with hb | hb
       ·exact List.mem_append_left _ hb
       ·exact List.mem_append_right _ (List.mem_cons_of_mem _ hb)
      obtain ⟨q1,q2⟩:=hin b hbp
      have hf0:=hf b hbp k ob hw
      simp only [Bool.and_eq_true] at hf0 ⊢
      have hno:e.x.no k=true/\noW k e.w=true:=by
       rcases List.mem_append.1 hb with hb' | hb'
       ·have hbi:b.i<e.i:=(List.pairwise_append.1 hsort).2.2 b hb' e List.mem_cons_self
        obtain ⟨x,y,p1,p2,_,_,p5⟩:=hk.pair hc b q1 e he hbi
        rcases zyb p2 p1 p5 hw with h | h
        ·exact absurd h (hneed b q1 q2)
        ·exact h
       ·have hbi:e.i<b.i:=(List.pairwise_cons.1 (List.pairwise_append.1 hsort).2.1).1 b hb'
        obtain ⟨x,y,p1,p2,_,p4,_⟩:=hk.pair hc e he b q1 hbi
        rcases zyb p1 p2 p4 hw with h | h
        ·exact absurd h (hneed b q1 q2)
        ·exact h
      exact ⟨⟨zlm hf0.1.1 hno.1,zll hf0.1.2 hno.2 c4⟩,hf0.2⟩
     ·exact Eqv.rel (s:=s1) (s':=⟨putd e.d e.x R,O1⟩) ⟨hs1.1,hs1.2⟩ hr1
theorem Rel.drawn {s:S} {a:Act} {w:World} (r:Rel P cx n s a w):Rel P cx n s a { w with drawn:=w.drawn+1 }:=by
 obtain ⟨regs,objs⟩:=s
 obtain ⟨own,r⟩:=r
 have hs:Stp w (Mu cx.M0 own objs) { w with drawn:=w.drawn+1 } (Mu cx.M0 own objs):=⟨rfl,rfl,rfl,Nat.le_refl _,fun _ _ _ _ h=>h,fun _ _ h=>.inl h,fun _ cs _ h=>⟨cs,h⟩⟩
 refine ⟨own,{ defs:=r.defs,size:=r.size,ok:=?_,regs:=fun t x hx=>(r.regs t x hx).tr_same hs,stp:=r.stp.trans hs,fix:=r.fix,fr:=r.fr.trans ⟨fun _ _ _=>rfl,fun k o b hk hb=>.inl ⟨k,o,hk,hb⟩,Nat.le_refl _⟩ }⟩
 refine { obs:=fun k o hk=>?_,keys:=r.ok.keys,inj:=r.ok.inj,m0:=r.ok.m0,m0old:=r.ok.m0old }
 have:=r.ok.obs k o hk
 cases o with
 | ce T cs =>
   obtain ⟨b,vals,e1,e2,e3,e4⟩:=this
   exact ⟨b,vals,e1,e2,e3,fun j x hj=>⟨(e4 j x hj).1,(e4 j x hj).2.tr_same hs⟩⟩
 | ar T sz m=>exact this
 | mu T sz ver xs =>
   obtain ⟨cells,e,e2,e3⟩:=this
   exact ⟨cells,e,e2,fun i row j x hi hj=>(e3 i row j x hi hj).stp hs⟩
 | mp ver l=>exact this
theorem zq0 (hE:EnOK P cx n E) (hm:P.follows .mixedOrders=true) {id:Nat} {r:VR} {o:Obs} {Q:Exit->S->Prop} {K:VR->Obs->Prop}
  (h:vcL P E true ops (fun r' o' tr=>match chkD E ops r o o' tr with
   | true=>K r' o'
   | false=>Stuck "order" "") ops r o []) (hK:∀ r' o',K r' o'->Q .normal ⟨toR r',o'⟩):AWp P cx n (.region id ops.toArray true) Q ⟨toR r,o⟩:=fun a w hr=>by
 obtain ⟨ts,es,r',o',R',O',k1,k2,k3,k4,k5⟩:=zn7 hE (i:=0) h
 split at k1
 ·rename_i hchk
  simp only [List.append_nil] at hchk
  unfold chkD at hchk
  simp only [List.reverse_reverse,Bool.and_eq_true] at hchk
  obtain ⟨c0,c1,c2⟩:=hchk
  have hkn:Knows P cx n E ops 0 es (itmL ops (clsL ops []) 0 ops ts):=znb (zis (acc:=[]) rfl (fun m c hm=>by rw [z5c] at hm;simp at hm)) rfl k2
  have hlen:es.length=ops.length:=by
   have:∀ {i:Nat} {l:List Oper} {ts:List TrE} {es:List Ev},EvsOf P cx n E ops i l ts es->es.length=l.length:=by
    intro i l ts es h
    induction h with
    | nil=>rfl
    | cons _ _ ih=>simp [ih]
   exact this k2
  have hpend:pend es (Array.replicate ops.toArray.size false)=es:=by
   refine List.filter_eq_self.2 fun e he=>?_
   obtain ⟨it,_,h2⟩:=hkn.get e he
   obtain ⟨op,h3,_⟩:=h2.op
   have:=(Array.getElem?_eq_some_iff.1 h3).1
   simp at this
   simp [this]
  have hc0:Clos .any ops.toArray (Array.replicate ops.toArray.size false):=by
   refine ⟨by simp,fun k o hk hl=>?_⟩
   have hlt:=(Array.getElem?_eq_some_iff.1 hk).1
   simp at hlt
   simp [hlt] at hl
  have c0':∀ it∈itmL ops (clsL ops []) 0 ops ts,(∀ j∈it.dep,j<it.i)/\∀ k,nk it.te.w=some k->(z1e k (toR r)&&zr k o&&!mem k E.k0)=true:=fun it hit=>by
   have:=List.all_eq_true.1 c0 it hit
   rw [Bool.and_eq_true] at this
   refine ⟨fun j hj=>by simpa using List.all_eq_true.1 this.1 j hj,fun k hk=>?_⟩
   have h2:=this.2
   rw [hk] at h2;exact h2
  refine wp_region_any hm (sched hE hkn hlen c1 (fun it hit=>(c0' it hit).1) (RF:=R') (OF:=O') (fun R O a w hR hO hrel=>?_) _ _ _ _ _ _ a _ ?_ hc0 (by rw [hpend];exact k3) (fun _=>rfl) (fun _=>rfl) ?_ hr.drawn)
  ·refine ⟨⟨toR r',o'⟩,?_,hK r' o' k1⟩
   have h1:Rel P cx n ⟨toR r',O⟩ a w:=Eqv.rel (s:=⟨R,O⟩) ⟨fun t=>(hR t).symm.trans (k4 t),rfl⟩ hrel
   refine Le.objsN (fun x hx=>?_) (z1r c2) a w h1
   obtain ⟨k,ob⟩:=x
   exact zu ((hO k).symm.trans ((k5 k).trans (z1c (z1r c2) hx)))
  ·rw [hpend,hlen];simp
  ·rw [hpend]
   intro e he k ob hw
   obtain ⟨it,hit,h2⟩:=hkn.get e he
   exact (c0' it hit).2 k (by rw [<- h2.w,hw];rfl)
 ·cases k1
end
def wrL:List Oper->List Nat
 | []=>[]
 | op::l=>match op.dst with
   | some d=>d::wrL l
   | none=>wrL l
def wrC:Code->List Nat
 | .region _ ops _=>wrL ops.toList
 | .seq a b=>wrC a++wrC b
 | .cond _ a b=>wrC a++wrC b
 | .block _ c=>wrC c
 | .loop c=>wrC c
 | _=>[]
theorem mem_app {t:Nat} {a b:List Nat}:mem t (a++b)=false↔mem t a=false/\mem t b=false:=by
 constructor
 ·intro h
  constructor
  ·cases hb:mem t a with
   | false=>rfl
   | true=>have:=mem_iff.2 (List.mem_append_left b (mem_iff.1 hb));rw [h] at this;cases this
  ·cases hb:mem t b with
   | false=>rfl
   | true=>have:=mem_iff.2 (List.mem_append_right a (mem_iff.1 hb));rw [h] at this;cases this
 ·rintro ⟨h1,h2⟩
  cases hb:mem t (a++b) with
  | false=>rfl
  | true => rcases List.mem_append.1 (mem_iff.1 hb) with h | h
            ·rw [mem_iff.2 h] at h1;cases h1
            ·rw [mem_iff.2 h] at h2;cases h2
theorem mem_cons' {t d:Nat} {a:List Nat}:mem t (d::a)=false↔mem t [d]=false/\mem t a=false:=mem_app (a:=[d])
def fid:Code->Nat
 | .region id _ _=>id
 | .seq a _=>fid a
 | .cond _ a _=>fid a
 | .block _ c=>fid c
 | .loop c=>fid c
 | _=>1000000
def liftQ (W:List Nat) (r:VR) (Q:Exit->VR->Obs->Prop):Exit->S->Prop:=fun e s=>∃ r' o',agr s.regs (toR r')/\s.objs=o'/\Frm W r r'/\Q e r' o'
theorem z2i {W W':List Nat} {r r0:VR} {Q Q':Exit->VR->Obs->Prop} (h:∀ r' o' e,Frm W r r'->Q e r' o'->Frm W' r0 r'/\Q' e r' o'):∀ e s,liftQ W r Q e s->liftQ W' r0 Q' e s :=
 fun e s ⟨r',o',h1,h2,h3,h4⟩=>⟨r',o',h1,h2,(h r' o' e h3 h4).1,(h r' o' e h3 h4).2⟩
section
variable {P : Program} {cx : Cx} {n : Nat}
theorem AWp.agr {c:Code} {Q:Exit->S->Prop} {s s':S} (h:Eqv s s') (k:AWp P cx n c Q s'):AWp P cx n c Q s:=fun a w hr=>k a w (h.rel hr)
end
structure LoopV (P:Program) (cx:Cx) (n:Nat) (E:En) (c:Code) (Q:Exit->VR->Obs->Prop) (r:VR) (o:Obs):Prop where
 h:AWp P cx n (.loop c) (liftQ (wrC c) r Q) ⟨toR r,o⟩
structure SeqV (P:Program) (cx:Cx) (n:Nat) (E:En) (a b:Code) (Q:Exit->VR->Obs->Prop) (r:VR) (o:Obs):Prop where
 h:AWp P cx n a (thn (AWp P cx n b (liftQ (wrC a++wrC b) r Q)) (liftQ (wrC a++wrC b) r Q)) ⟨toR r,o⟩
structure JoinV (P:Program) (cx:Cx) (n:Nat) (E:En) (b:Code) (Q:Exit->VR->Obs->Prop) (r:VR) (o:Obs):Prop where
 h:AWp P cx n b (liftQ (wrC b) r Q) ⟨toR r,o⟩
def lst:Code->Code
 | .seq _ b=>b
 | c=>c
def thnV (K:VR->Obs->Prop) (Q:Exit->VR->Obs->Prop):Exit->VR->Obs->Prop
 | .normal,r,o=>K r o
 | e,r,o=>Q e r o
def blkV (id:Nat) (Q:Exit->VR->Obs->Prop):Exit->VR->Obs->Prop
 | .exit j,r,o=>bif Nat.beq j id then Q .normal r o else Q (.exit j) r o
 | e,r,o=>Q e r o
def vcC (P:Program) (cx:Cx) (n:Nat) (E:En):Code->(Exit->VR->Obs->Prop)->VR->Obs->Prop
 | .skip,Q,r,o=>Q .normal r o
 | .ret,Q,r,o=>Q .ret r o
 | .exit id,Q,r,o=>Q (.exit id) r o
 | .block id c,Q,r,o=>vcC P cx n E c (blkV id Q) r o
 | .seq a b,Q,r,o=>match mem (fid a+1000000) E.hs with
  | true=>JoinV P cx n E a (thnV (fun r o=>vcC P cx n E b Q r o) Q) r o
  | false=>match mem (fid (lst a)) E.hs with
   | true=>match a with
     | .seq a1 a2=>vcC P cx n E a1 (thnV (fun r o=>SeqV P cx n E a2 b Q r o) Q) r o
     | a=>SeqV P cx n E a b Q r o
   | false=>vcC P cx n E a (thnV (fun r o=>vcC P cx n E b Q r o) Q) r o
 | .cond x a b,Q,r,o=>match x with
   | .tmp t=>match get r t with
     | some .t=>vcC P cx n E a Q r o
     | some .f=>vcC P cx n E b Q r o
     | some (.a (.p (.v (.bool q))))=>BrV q (vcC P cx n E a Q ((t,.t)::r) o) (vcC P cx n E b Q ((t,.f)::r) o)
     | _=>Stuck "cond" ""
   | _=>Stuck "cond" ""
 | .loop c,Q,r,o=>LoopV P cx n E c Q r o
 | .region id ops dr,Q,r,o=>match dr with
   | false=>vcL P E false ops.toList (fun r o _=>Q .normal r o) ops.toList r o []
   | true=>vcL P E true ops.toList (fun r' o' tr=>match chkD E ops.toList r o o' tr with
     | true=>Q .normal r' o'
     | false=>Stuck "order" "") ops.toList r o []
 | _,_,_,_=>Stuck "code" ""
section
variable {P : Program} {cx : Cx} {n : Nat} {E : En} (hE : EnOK P cx n E)
include hE
theorem z4p {Q:Exit->S->Prop} {ops:List Oper} {dr:Bool} {k:VR->Obs->Tr->Prop}:∀ {l:List Oper} {r:VR} {o:Obs} {tr:Tr},vcL P E dr ops k l r o tr ->
  (∀ r' o' tr',Frm (wrL l) r r'->k r' o' tr'->Q .normal ⟨toR r',o'⟩)->AWl P cx n ops.toArray l Q ⟨toR r,o⟩
 | [],r,o,tr,h,hk=>za3 (hk r o tr Frm.refl h)
 | op :: l, r, o,tr,h,hk=>by
   have fr:∀ {r1 r2:VR},Frm (dl op.dst) r r1->Frm (wrL l) r1 r2->Frm (wrL (op::l)) r r2:=fun {r1 r2} h1 h2=>by
    refine h1.trans h2 (fun t ht=>?_) (fun t ht=>?_)
    ·simp only [wrL] at ht
     cases hd:op.dst with
     | none=>rfl
     | some d=>rw [hd] at ht;exact (mem_cons'.1 ht).1
    ·simp only [wrL] at ht
     cases hd:op.dst with
     | none=>rw [hd] at ht;exact ht
     | some d=>rw [hd] at ht;exact (mem_cons'.1 ht).2
   have go:∀ {r0:VR},Frm [] r r0->vcR P E dr op.pos op.dst r0 o tr (fun r o tr=>vcL P E dr ops k l r o tr) (stp E op.dst op.op r0 o)->AWl P cx n ops.toArray ({ op with guard:=none }::l) Q ⟨toR r0,o⟩:=fun {r0} hf h=>by
    obtain ⟨d,oo,t,p,af,g⟩:=op
    refine zij hE (zn4 h (fun r' o' tr' h1 h2=>And.intro h1 h2)) fun r' o' tr' ⟨h1,h2⟩=>z4p h2 fun r2 o2 tr2 h3 h4=>hk _ _ _ (fr (fun t ht=>(h1 t ht).trans (hf t rfl)) h3) h4
   have sk:∀ {r0:VR},Frm [] r r0->vcS E op.pos op.dst r0 o tr (fun r o tr=>vcL P E dr ops k l r o tr)->(∀ d,op.dst=some d->Nat.blt d n=true)/\AWl P cx n ops.toArray l Q ⟨toR (putv op.dst (.a (.tp [])) r0),o⟩:=fun {r0} hf h=>by
    unfold vcS at h
    split at h
    ·rename_i hd
     refine ⟨fun d e=>(by rw [hd] at e;cases e),?_⟩
     rw [hd]
     exact z4p h fun r2 o2 tr2 h3 h4=>hk _ _ _ (fr (r1:=r0) (fun t ht=>hf t rfl) h3) h4
    ·rename_i d hd
     split at h
     ·rename_i hb
      rw [hE.n] at hb
      refine ⟨fun d' e=>(by rw [hd] at e;cases e;exact hb),?_⟩
      rw [hd]
      refine z4p h fun r2 o2 tr2 h3 h4=>hk _ _ _ (fr (r1:=(d,.a (.tp []))::r0) (fun t ht=>?_) h3) h4
      exact (zcq (d:=some d) t (by rw [hd] at ht;exact ht)).trans (hf t rfl)
     ·cases h
   simp only [vcL] at h
   split at h
   ·rename_i hg
    have:=go Frm.refl h
    obtain ⟨d,oo,t,p,af,g⟩:=op
    simp only at hg
    subst hg
    exact this
   ·rename_i j want hg
    split at h
    ·rename_i oj hj
     split at h
     ·rename_i t ht
      have hjj:((ops.toArray)[j]?).bind (·.dst)=some t:=by
       rw [z5c] at hj
       simp [hj,ht]
      have yes:∀ {r0:VR} {b:Bool},b=want->get (toR r0) t=some (.p (.v (.bool b)))->Frm [] r r0->vcR P E dr op.pos op.dst r0 o tr (fun r o tr=>vcL P E dr ops k l r o tr) (stp E op.dst op.op r0 o)->AWl P cx n ops.toArray (op::l) Q ⟨toR r0,o⟩ :=
       fun hb hr hf h=>z8f hg hb hjj hr (go hf h)
      have no:∀ {r0:VR} {b:Bool},b=!want->get (toR r0) t=some (.p (.v (.bool b)))->Frm [] r r0->vcS E op.pos op.dst r0 o tr (fun r o tr=>vcL P E dr ops k l r o tr)->AWl P cx n ops.toArray (op::l) Q ⟨toR r0,o⟩:=fun {r0 b} hb hr hf h=>by
       obtain ⟨h1,h2⟩:=sk hf h
       cases hd:op.dst with
       | none=>rw [hd] at h2;exact z8h hg hb hjj hr hd h2
       | some d=>rw [hd] at h2;exact zaz hg hb hjj hr hd (h1 d hd) h2
      split at h
      ·rename_i hr
       have hr':get (toR r) t=some (.p (.v (.bool true))):=by rw [z1s,hr];rfl
       split at h
       ·exact yes rfl hr' Frm.refl h
       ·exact no rfl hr' Frm.refl h
      ·rename_i hr
       have hr':get (toR r) t=some (.p (.v (.bool false))):=by rw [z1s,hr];rfl
       split at h
       ·exact yes rfl hr' Frm.refl h
       ·exact no rfl hr' Frm.refl h
      ·rename_i hr
       have hr':get (toR r) t=some (.tp []):=by rw [z1s,hr];rfl
       obtain ⟨h1,h2⟩:=sk Frm.refl h
       cases hd:op.dst with
       | none=>rw [hd] at h2;exact z8g hg hjj hr' hd h2
       | some d=>rw [hd] at h2;exact zb0 hg hjj hr' hd (h1 d hd) h2
      ·rename_i b hr
       have ht1:∀ {x:Kv},get (toR ((t,x)::r)) t=some x.av:=fun {x}=>by simp [toR,get,Nat.beq_refl]
       split at h
       ·cases hb:b with
        | true =>
          rw [hb] at hr
          exact AWl.agr (z1x hr (x:=.t) rfl) (yes rfl ht1 (z2u hr rfl) (h.h.1 hb))
        | false =>
          rw [hb] at hr
          exact AWl.agr (z1x hr (x:=.f) rfl) (no rfl ht1 (z2u hr rfl) (h.h.2 hb))
       ·cases hb:b with
        | true =>
          rw [hb] at hr
          exact AWl.agr (z1x hr (x:=.t) rfl) (no rfl ht1 (z2u hr rfl) (h.h.1 hb))
        | false =>
          rw [hb] at hr
          exact AWl.agr (z1x hr (x:=.f) rfl) (yes rfl ht1 (z2u hr rfl) (h.h.2 hb))
      ·cases h
     ·cases h
    ·cases h
omit hE in
theorem zgv {ops:List Oper} {dr:Bool} {k k':VR->Obs->Tr->Prop}:∀ {l:List Oper} {r:VR} {o:Obs} {tr:Tr},vcL P E dr ops k l r o tr ->
  (∀ r' o' tr',Frm (wrL l) r r'->k r' o' tr'->k' r' o' tr')->vcL P E dr ops k' l r o tr
 | [],r,o,tr,h,hk=>hk r o tr Frm.refl h
 | op :: l,r,o,tr,h,hk=>by
   have fr:∀ {r1 r2:VR},Frm (dl op.dst) r r1->Frm (wrL l) r1 r2->Frm (wrL (op::l)) r r2:=fun {r1 r2} h1 h2=>by
    refine h1.trans h2 (fun t ht=>?_) (fun t ht=>?_)
    ·simp only [wrL] at ht
     cases hd:op.dst with
     | none=>rfl
     | some d=>rw [hd] at ht;exact (mem_cons'.1 ht).1
    ·simp only [wrL] at ht
     cases hd:op.dst with
     | none=>rw [hd] at ht;exact ht
     | some d=>rw [hd] at ht;exact (mem_cons'.1 ht).2
   have go:∀ {r0:VR},Frm [] r r0->vcR P E dr op.pos op.dst r0 o tr (fun r o tr=>vcL P E dr ops k l r o tr) (stp E op.dst op.op r0 o)->vcR P E dr op.pos op.dst r0 o tr (fun r o tr=>vcL P E dr ops k' l r o tr) (stp E op.dst op.op r0 o):=fun {r0} hf h =>
    zn4 h fun r' o' tr' h1 h2=>zgv h2 fun r2 o2 tr2 h3 h4=>hk _ _ _ (fr (fun t ht=>(h1 t ht).trans (hf t rfl)) h3) h4
   have sk:∀ {r0:VR},Frm [] r r0->vcS E op.pos op.dst r0 o tr (fun r o tr=>vcL P E dr ops k l r o tr)->vcS E op.pos op.dst r0 o tr (fun r o tr=>vcL P E dr ops k' l r o tr):=fun {r0} hf h=>by
    unfold vcS at h ⊢
    split at h
    ·exact zgv h fun r2 o2 tr2 h3 h4=>hk _ _ _ (fr (r1:=r0) (fun t ht=>hf t rfl) h3) h4
    ·rename_i d hd
     split at h
     ·exact zgv h fun r2 o2 tr2 h3 h4=>hk _ _ _ (fr (r1:=(d,.a (.tp []))::r0) (fun t ht=>(zcq (d:=some d) t (by rw [hd] at ht;exact ht)).trans (hf t rfl)) h3) h4
     ·cases h
   simp only [vcL] at h ⊢
   split at h
   ·exact go Frm.refl h
   ·split at h
    ·split at h
     ·split at h
      ·split at h
       ·exact go Frm.refl h
       ·exact sk Frm.refl h
      ·split at h
       ·exact go Frm.refl h
       ·exact sk Frm.refl h
      ·exact sk Frm.refl h
      ·rename_i b hr
       split at h
       ·refine ⟨fun hb=>?_,fun hb=>?_⟩
        ·rw [hb] at hr;exact go (z2u hr rfl) (h.h.1 hb)
        ·rw [hb] at hr;exact sk (z2u hr rfl) (h.h.2 hb)
       ·refine ⟨fun hb=>?_,fun hb=>?_⟩
        ·rw [hb] at hr;exact sk (z2u hr rfl) (h.h.1 hb)
        ·rw [hb] at hr;exact go (z2u hr rfl) (h.h.2 hb)
      ·cases h
     ·cases h
    ·cases h
theorem z1j:∀ {c:Code} {Q:Exit->VR->Obs->Prop} {r:VR} {o:Obs},vcC P cx n E c Q r o->AWp P cx n c (liftQ (wrC c) r Q) ⟨toR r,o⟩
 | .skip,Q,r,o,h=>zw2 ⟨r,o,fun _=>rfl,rfl,Frm.refl,h⟩
 | .ret,Q,r,o,h=>zyz ⟨r,o,fun _=>rfl,rfl,Frm.refl,h⟩
 | .exit id,Q,r,o,h=>zw3 ⟨r,o,fun _=>rfl,rfl,Frm.refl,h⟩
 | .block id c,Q,r,o,h=>by
   refine zr3 (z1n (z1j (c:=c) h) ?_)
   rintro e s ⟨r',o',h1,h2,h3,h4⟩
   cases e with
   | exit j =>
     simp only [blkV] at h4
     simp only [blkQ]
     cases hb:Nat.beq j id with
     | true=>rw [hb] at h4;exact ⟨r',o',h1,h2,h3,h4⟩
     | false=>rw [hb] at h4;exact ⟨r',o',h1,h2,h3,h4⟩
   | normal=>exact ⟨r',o',h1,h2,h3,h4⟩
   | ret=>exact ⟨r',o',h1,h2,h3,h4⟩
   | _=>exact ⟨r',o',h1,h2,h3,h4⟩
 | .seq a b,Q,r,o,h=>by
   unfold vcC at h
   split at h
   ·refine zbv (z1n (JoinV.h h) ?_)
    rintro e s ⟨r',o',h1,rfl,h3,h4⟩
    have fr:∀ r2,Frm (wrC b) r' r2->Frm (wrC (.seq a b)) r r2:=fun r2 h=>h3.trans h (fun t ht=>(mem_app.1 ht).1) (fun t ht=>(mem_app.1 ht).2)
    have fr1:Frm (wrC (.seq a b)) r r':=fr r' Frm.refl
    cases e with
    | normal=>exact AWp.agr (s':=⟨toR r',s.objs⟩) ⟨h1,rfl⟩ (z1n (z1j (c:=b) (show vcC P cx n E b Q r' s.objs from h4)) (z2i fun r2 o2 e hf hq=>⟨fr r2 hf,hq⟩))
    | ret=>exact ⟨r',s.objs,h1,rfl,fr1,h4⟩
    | _=>exact ⟨r',s.objs,h1,rfl,fr1,h4⟩
   split at h
   ·split at h
    ·rename_i a1 a2 _x _y
     refine zbv (zbv (z1n (z1j (c:=a1) h) ?_))
     rintro e s ⟨r',o',h1,rfl,h3,h4⟩
     have fr:∀ r2,Frm (wrC a2++wrC b) r' r2->Frm (wrC (.seq (.seq a1 a2) b)) r r2:=fun r2 h=>h3.trans h (fun t ht=>(mem_app.1 (mem_app.1 ht).1).1) (fun t ht=>mem_app.2 ⟨(mem_app.1 (mem_app.1 ht).1).2,(mem_app.1 ht).2⟩)
     have fr1:Frm (wrC (.seq (.seq a1 a2) b)) r r':=fr r' Frm.refl
     cases e with
     | normal =>
       have h5:=(show SeqV P cx n E a2 b Q r' s.objs from h4).h
       have hl:∀ e s,liftQ (wrC a2++wrC b) r' Q e s->liftQ (wrC (.seq (.seq a1 a2) b)) r Q e s:=z2i fun r2 o2 e hf hq=>⟨fr r2 hf,hq⟩
       refine AWp.agr (s':=⟨toR r',s.objs⟩) ⟨h1,rfl⟩ (z1n h5 fun e s hq=>?_)
       cases e with
       | normal=>exact z1n hq hl
       | ret=>exact hl _ _ hq
       | _=>exact hl _ _ hq
     | ret=>exact ⟨r',s.objs,h1,rfl,fr1,h4⟩
     | _=>exact ⟨r',s.objs,h1,rfl,fr1,h4⟩
    ·exact zbv h.h
   ·refine zbv (z1n (z1j (c:=a) h) ?_)
    rintro e s ⟨r',o',h1,rfl,h3,h4⟩
    have fr:∀ r2,Frm (wrC b) r' r2->Frm (wrC (.seq a b)) r r2:=fun r2 h=>h3.trans h (fun t ht=>(mem_app.1 ht).1) (fun t ht=>(mem_app.1 ht).2)
    have fr1:Frm (wrC (.seq a b)) r r':=fr r' Frm.refl
    cases e with
    | normal =>
      have:=z1j (c:=b) (show vcC P cx n E b Q r' s.objs from h4)
      exact AWp.agr (s':=⟨toR r',s.objs⟩) ⟨h1,rfl⟩ (z1n this (z2i fun r2 o2 e hf hq=>⟨fr r2 hf,hq⟩))
    | ret=>exact ⟨r',s.objs,h1,rfl,fr1,h4⟩
    | _=>exact ⟨r',s.objs,h1,rfl,fr1,h4⟩
 | .cond x a b,Q,r,o,h=>by
   have fa:∀ r2,Frm (wrC a) r r2->Frm (wrC (.cond x a b)) r r2:=fun r2 h t ht=>h t (mem_app.1 ht).1
   have fb:∀ r2,Frm (wrC b) r r2->Frm (wrC (.cond x a b)) r r2:=fun r2 h t ht=>h t (mem_app.1 ht).2
   simp only [vcC] at h
   split at h
   ·rename_i t
    split at h
    ·rename_i hr
     refine zpc rfl (by simp only [S.ev,z1s,hr];rfl) (z1n (z1j (c:=a) h) (z2i fun r2 o2 e hf hq=>⟨fa r2 hf,hq⟩))
    ·rename_i hr
     refine zpd rfl (by simp only [S.ev,z1s,hr];rfl) (z1n (z1j (c:=b) h) (z2i fun r2 o2 e hf hq=>⟨fb r2 hf,hq⟩))
    ·rename_i q hr
     refine zg0 (b:=q) (by simp only [S.ev,z1s,hr];rfl) (fun e=>?_) (fun e=>?_)
     ·have h5:=h.h.1 e
      rw [e] at hr
      refine AWp.agr (s':=⟨toR ((t,.t)::r),o⟩) ⟨z1x hr rfl,rfl⟩ (z1n (z1j (c:=a) h5) (z2i fun r2 o2 e hf hq=>⟨?_,hq⟩))
      exact (z2u (W:=[]) hr rfl).trans hf (fun _ _=>rfl) (fun t ht=>(mem_app.1 ht).1)
     ·have h5:=h.h.2 e
      rw [e] at hr
      refine AWp.agr (s':=⟨toR ((t,.f)::r),o⟩) ⟨z1x hr rfl,rfl⟩ (z1n (z1j (c:=b) h5) (z2i fun r2 o2 e hf hq=>⟨?_,hq⟩))
      exact (z2u (W:=[]) hr rfl).trans hf (fun _ _=>rfl) (fun t ht=>(mem_app.1 ht).2)
    ·cases h
   ·cases h
 | .loop c,Q,r,o,h=>LoopV.h (show LoopV P cx n E c Q r o from h)
 | .region id ops false,Q,r,o,h=>by
   obtain ⟨l⟩:=ops
   exact zp8 (z4p hE h fun r' o' tr' hf hq=>⟨r',o',fun _=>rfl,rfl,hf,hq⟩)
 | .region id ops true,Q,r,o,h=>by
   obtain ⟨l⟩:=ops
   refine zq0 hE hE.mo (K:=fun r' o'=>Q .normal r' o'/\Frm (wrL l) r r') (zgv h fun r' o' tr' hf h1=>?_) fun r' o' hK=>⟨r',o',fun _=>rfl,rfl,hK.2,hK.1⟩
   split at h1
   ·rename_i hc;rw [show chkD E l r o o' tr'=true from hc];exact ⟨h1,hf⟩
   ·cases h1
 | .rangeFunc ..,Q,r,o,h=>by cases h
 | .scope ..,Q,r,o,h=>by cases h
 | .label ..,Q,r,o,h=>by cases h
 | .goto ..,Q,r,o,h=>by cases h
 | .refuse ..,Q,r,o,h=>by cases h
end
def rvV (E:En) (r:VR) (o:Obs):ResultVar->Option AV
 | .tmp t=>match get r t with
   | some x=>avq x
   | none=>none
 | .cell t T=>match get r t with
   | some (.a (.ptr k off))=>match get E.tab T with
     | some e=>match get o k with
       | some (.ce _ cs)=>match e.ag with
         | true=>match rng cs off e.sz with
           | some l=>some (.ag l)
           | none=>none
         | false=>match rng cs off 1 with
           | some [y]=>some y
           | _=>none
       | _=>none
     | none=>none
   | _=>none
def rvsV (E:En) (r:VR) (o:Obs):List ResultVar->Option (List AV)
 | []=>some []
 | v :: l=>match rvV E r o v with
   | some x=>match rvsV E r o l with
     | some q=>some (x::q)
     | none=>none
   | none=>none
def pack:List AV->AV
 | [y]=>y
 | l=>.tp l
def endP (E:En) (fn:Func) (R:AV->Obs->Prop) (r:VR) (o:Obs):Prop :=
 match rvsV E r o fn.results.toList with
 | some l=>match canq E.keep E.tab fn.resultTypes.toList l with
   | some q=>match selq E.keep o with
     | some o1=>match za5 o1 (pack q) with
       | true=>match q with
         | [y]=>R y o1
         | l=>R (.tp l) o1
       | false=>Stuck "result names other objects" ""
     | none=>Stuck "kept objects" ""
   | none=>Stuck "results' types" ""
 | none=>Stuck "results" ""
def fzq (keep:List Nat):List ResultVar->VR->Obs->Option (VR×Obs)
 | [],r,o=>some (r,o)
 | .tmp t::l,r,o=>match get r t with
   | some (.a (.tm k v))=>match mem k keep with
     | true=>fzq keep l r o
     | false=>match get o k with
       | some (.mu T sz v' xs)=>match Nat.beq v v' with
         | true=>match othq [k] o with
           | some o'=>fzq keep l ((t,.a (.p (.sl sz xs)))::r) o'
           | none=>none
         | false=>fzq keep l r o
       | _=>fzq keep l r o
   | _=>fzq keep l r o
 | _::l,r,o=>fzq keep l r o
theorem zcw {P:Program} {cx:Cx} {n:Nat} {keep:List Nat}:∀ {l:List ResultVar} {r r':VR} {o o':Obs},fzq keep l r o=some (r',o')->Le P cx n ⟨toR r,o⟩ ⟨toR r',o'⟩
 | [],r,r',o,o',h=>by cases h;exact Le.refl
 | .tmp t :: l,r,r',o,o',h=>by
   simp only [fzq] at h
   split at h
   ·rename_i hr
    split at h
    ·exact zcw h
    ·split at h
     ·rename_i hob
      split at h
      ·rename_i hv
       obtain rfl:=Nat.eq_of_beq_eq_true hv
       split at h
       ·rename_i o1 ho
        obtain rfl:=z8k ho
        exact Le.trans (Le.muP hob (by rw [z1s,hr];rfl)) (zcw h)
       ·cases h
      ·exact zcw h
     ·exact zcw h
   ·exact zcw h
 | .cell _ _::l,r,r',o,o',h=>zcw (l:=l) (by simpa [fzq] using h)
def endF (E:En) (fn:Func) (R:AV->Obs->Prop) (r:VR) (o:Obs):Prop :=
 match fzq E.keep fn.results.toList r o with
 | some (r',o')=>endP E fn R r' o'
 | none=>Stuck "freeze" ""
def endV (E:En) (fn:Func) (R:AV->Obs->Prop):Exit->VR->Obs->Prop
 | .ret,r,o=>endF E fn R r o
 | .normal,r,o=>endF E fn R r o
 | _,_,_=>Stuck "exit" ""
section
variable {P : Program} {cx : Cx} {n : Nat} {E : En}
theorem zz22 (hE:EnOK P cx n E) {r:VR} {o:Obs} {v:ResultVar} {x:AV} (h:rvV E r o v=some x):RV P ⟨toR r,o⟩ v x:=by
 unfold rvV at h
 split at h
 ·split at h
  ·rename_i x' hx;rw [zmx] at h;cases h;exact .tmp (by simp only [z1s,hx];rfl)
  ·cases h
 ·split at h
  ·rename_i hr
   split at h
   ·rename_i he
    have ti:=(zt hE.tab he).ti
    split at h
    ·rename_i hob
     split at h
     ·rename_i ha
      rw [ha] at ti
      split at h
      ·rename_i hl;cases h;exact .row ti (by simp only [z1s,hr];rfl) hob hl
      ·cases h
     ·rename_i ha
      rw [ha] at ti
      split at h
      ·rename_i hl;cases h;exact .one ti (by simp only [z1s,hr];rfl) hob hl
      ·cases h
    ·cases h
   ·cases h
  ·cases h
theorem znc (hE:EnOK P cx n E) {r:VR} {o:Obs} {a:Act} {w:World} {own:Nat->Value} (rl:Rl P cx n ⟨toR r,o⟩ a w own):∀ {l:List ResultVar} {xs:List AV},rvsV E r o l=some xs ->
  ∃ vs:List Value,vs.length=xs.length/\(l.mapM (rvSem a.tmps):Sem (List Value)).run P w=.ok vs w/\∀ (j:Nat) (x:AV),xs[j]?=some x->RepA w (Mu cx.M0 own o) own (hwOf o) x (vs.getD j undef)
 | [],xs,h=>by cases h;exact ⟨[],rfl,by simp,fun j x hj=>by simp at hj⟩
 | v :: l,xs,h=>by
   simp only [rvsV] at h
   split at h
   ·rename_i x hx
    split at h
    ·rename_i q hq
     cases h
     obtain ⟨vs,h1,h2,h3⟩:=znc hE rl hq
     obtain ⟨u,h4,h5⟩:=(zz22 hE hx).run rl
     refine ⟨u::vs,by simp [h1],?_,fun j y hj=>?_⟩
     ·simp only [List.mapM_cons,Sem.run_bind,h4,Result.andThen_ok,h2,Sem.run_pure]
     ·cases j with
      | zero=>simp at hj;subst hj;exact h5
      | succ j=>simp at hj;simpa using h3 j y hj
    ·cases h
   ·cases h
theorem Subs.len {l l':List AV} (h:Subs l l'):l.length=l'.length:=h.get.1
theorem zln (hE:EnOK P cx n E) {fn:Func} {r:VR} {o:Obs} {a:Act} {w:World} {own:Nat->Value} (rl:Rl P cx n ⟨toR r,o⟩ a w own) {l q:List AV} (h1:rvsV E r o fn.results.toList=some l) (hs:Subs l q) :
  ∃ v,(results fn a.tmps).run P w=.ok v w/\RepA w (Mu cx.M0 own o) own (hwOf o) (pack q) v:=by
 obtain ⟨vs,g1,g2,g3⟩:=znc hE rl h1
 have g4:∀ (j:Nat) (y:AV),q[j]?=some y->RepA w (Mu cx.M0 own o) own (hwOf o) y (vs.getD j undef):=fun j y hj=>by
  obtain ⟨x,hx,hsub⟩:=hs.get.2 j y hj
  exact hsub _ _ _ _ _ (g3 j x hx)
 have g5:vs.length=q.length:=g1.trans hs.len
 have hmap:(fn.results.mapM (rvSem a.tmps):Sem (Array Value)).run P w=.ok vs.toArray w:=by
  have e:fn.results=fn.results.toList.toArray:=by simp
  rw [e,List.mapM_toArray]
  simp only [map_eq_pure_bind,Sem.run_bind,g2,Result.andThen_ok,Sem.run_pure]
 rw [zpa]
 simp only [Sem.run_bind,hmap,Result.andThen_ok,Sem.run_pure]
 match q,vs,g5,g4 with
 | [],[],_,g4=>exact ⟨_,rfl,.tp [] rfl (fun j x hj=>by simp at hj)⟩
 | [y],[v],_,g4=>exact ⟨_,rfl,by simpa [pack] using g4 0 y rfl⟩
 | y::y2::q,v::v2::vs,g5,g4 =>
   refine ⟨_,rfl,?_⟩
   have:¬ (v::v2::vs).toArray.size=1:=by simp
   rw [dif_neg this]
   exact .tp (v::v2::vs) g5 g4
theorem zq1 (hE:EnOK P cx n E) {fn:Func} {R:AV->Obs->Prop} {r:VR} {o:Obs} (h:endP E fn R r o):Ends P cx n fn R ⟨toR r,o⟩:=by
 unfold endP at h
 split at h
 ·rename_i l hl
  split at h
  ·rename_i q hq
   split at h
   ·rename_i o1 ho
    obtain rfl:=z6f ho
    split at h
    ·rename_i hc
     refine zra E.keep (fun a w own rl=>zln hE rl hl (z8o hq)) ?_ hc
     split at h
     ·exact h
     ·rename_i hne
      have:pack q=.tp q:=by
       match q,hne with
       | [],_=>rfl
       | [y],hne=>exact absurd rfl (hne y)
       | y::y2::q,_=>rfl
      rw [this];exact h
    ·cases h
   ·cases h
  ·cases h
 ·cases h
theorem zac (hE:EnOK P cx n E) {fn:Func} {R:AV->Obs->Prop} {r:VR} {o:Obs} (h:endF E fn R r o):Ends P cx n fn R ⟨toR r,o⟩:=by
 unfold endF at h
 split at h
 ·rename_i hf;exact zzn (zcw hf) (zq1 hE h)
 ·cases h
theorem Ends.agr {fn:Func} {R:AV->Obs->Prop} {s s':S} (h:Ab.agr s.regs s'.regs) (ho:s.objs=s'.objs) (k:Ends P cx n fn R s'):Ends P cx n fn R s:=by
 obtain ⟨regs,objs⟩:=s
 obtain ⟨regs',objs'⟩:=s'
 simp only at h ho
 subst ho
 exact fun a w own r=>k a w own { defs:=r.defs,size:=r.size,ok:=r.ok,regs:=fun t x hx=>r.regs t x ((h t).trans hx),stp:=r.stp,fix:=r.fix,fr:=r.fr }
end
def zf3:List AV->Nat->VR
 | [],_=>[]
 | x::r,i=>(i,.a x)::zf3 r (i+1)
theorem zcx:∀ (l:List AV) (i:Nat),toR (zf3 l i)=entry l i
 | [],_=>rfl
 | x::r,i=>by simp only [zf3,toR,entry,zcx r];rfl
structure EnK (P:Program) (cx:Cx) (n:Nat) (tab:Tab) (fb:List Nat) (m:Nat) (k0 cc cl:List Nat):Prop where
 n:m=n
 tab:tabB P tab=true
 fb:fbB P fb=true
 k0:∀ k,mem k k0=false->get cx.objs0 k=none
 mo:P.follows .mixedOrders=true
 cc:ccB P cc=true
 cl:∀ f,mem f cl=true->ClP P f
theorem EnK.ok {P:Program} {cx:Cx} {n:Nat} {E:En} (h:EnK P cx n E.tab E.fb E.n E.k0 E.cc E.cl):EnOK P cx n E:=⟨h.n,h.tab,h.fb,h.k0,h.mo,h.cc,h.cl⟩
theorem con_v {P:Program} {f:Nat} {fn:Func} {c:Code} {args:List AV} {objs:Obs} {R:AV->Obs->Prop} {tab:Tab} {fb cc cl:List Nat} (htab:tabB P tab=true) (hfb:fbB P fb=true) (hmo:P.follows .mixedOrders=true) (hcc:ccB P cc=true) (hcl:∀ f,mem f cl=true->ClP P f)
  (own hs keep:List Nat) (hf:P.funcs[f]?=some fn) (n:Nat) (hn:fn.ntmps=n) (hb:fn.body=some c) (hle:Nat.ble args.length n=true)
  (h:∀ cx:Cx,EnK P cx n tab fb n (objs.map (·.1)) cc cl->vcC P cx n ⟨tab,fb,n,objs.map (·.1),own,hs,keep,cc,cl⟩ c (endV ⟨tab,fb,n,objs.map (·.1),own,hs,keep,cc,cl⟩ fn R) (zf3 args 0) objs):Con P f args objs R :=
 zz1o hf hb n hn hle fun cx hcx=>by
  have hK:EnK P cx n tab fb n (objs.map (·.1)) cc cl:=⟨rfl,htab,hfb,fun k hk=>(by
   rw [hcx]
   refine z6s fun hm=>?_
   rw [mem_iff.2 hm] at hk;cases hk),hmo,hcc,hcl⟩
  have hE:EnOK P cx n ⟨tab,fb,n,objs.map (·.1),own,hs,keep,cc,cl⟩:=EnK.ok (E:=⟨tab,fb,n,objs.map (·.1),own,hs,keep,cc,cl⟩) hK
  have:=z1j hE (h cx hK)
  rw [zcx] at this
  refine z1n this ?_
  rintro e s ⟨r',o',h1,h2,h3,h4⟩
  cases e with
  | ret=>exact Ends.agr (s':=⟨toR r',o'⟩) h1 h2 (zac hE h4)
  | normal=>exact Ends.agr (s':=⟨toR r',o'⟩) h1 h2 (zac hE h4)
  | _=>cases h4
def leO:Obs->Obs->Prop
 | _,[]=>True
 | o,(k,ob)::l=>match get o k with
   | some ob'=>ob'=ob/\leO o l
   | none=>Stuck "object is lost" ""
def leR (dk:List Nat) (r:VR) (p:Prop):Regs->Prop
 | []=>p
 | (t,y)::l=>match mem t dk with
   | true=>match get r t with
     | some x=>Sub x.av y/\leR dk r p l
     | none=>Stuck "register is lost" ""
   | false=>Stuck "register is not listed" ""
def leV (dk:List Nat) (r:VR) (o:Obs) (orest:Obs) (dyn:Regs) (dobjs:Obs):Prop :=
 leR dk r (match z4j ((dobjs++orest).map (·.1)) with
  | true=>leO o (dobjs++orest)
  | false=>Stuck "keys" "") dyn
theorem zs7 {o:Obs}:∀ {l:Obs},leO o l->LeO o l
 | [],_=>.nil
 | (k,ob)::l,h=>by
   simp only [leO] at h
   split at h
   ·rename_i ob' hob;exact .cons hob h.1 (zs7 h.2)
   ·cases h
theorem zad {dk:List Nat} {r:VR} {p:Prop}:∀ {l:Regs},leR dk r p l->LeR (toR r) l/\(∀ t,mem t dk=false->get l t=none)/\p
 | [],h=>⟨.nil,fun _ _=>rfl,h⟩
 | (t, y)::l,h=>by
   simp only [leR] at h
   split at h
   ·rename_i hm
    split at h
    ·rename_i x hx
     obtain ⟨h1,h2,h3⟩:=zad h.2
     refine ⟨.cons (by rw [z1s,hx];rfl) h.1 h1,fun q hq=>?_,h3⟩
     have:Nat.beq t q=false:=by
      cases hb:Nat.beq t q with
      | false=>rfl
      | true=>rw [Nat.eq_of_beq_eq_true hb,hq] at hm;cases hm
     simp only [get,this,cond_false,h2 q hq]
    ·cases h
   ·cases h
theorem Sub.tse {k sz:Nat} {xs ys:List (List PV)} (h:xs=ys):Sub (.ts k sz xs) (.ts k sz ys):=Sub.eq (by rw [h])
theorem Sub.tsp {k sz:Nat} {xs ys:List (List PV)} (h:xs=ys):Sub (.ts k sz xs) (.p (.sl sz ys)):=by subst h;exact Sub.ts
theorem Sub.i {k:IntKind} {a b:Int} (h:a=b):Sub (.p (.v (.int k a))) (.p (.v (.int k b))):=Sub.eq (by rw [h])
theorem Sub.b {a b:Bool} (h:a=b):Sub (.p (.v (.bool a))) (.p (.v (.bool b))):=Sub.eq (by rw [h])
theorem ar_eq {T sz a b:Nat} (h:a=b):Ob.ar T sz a=Ob.ar T sz b:=by rw [h]
def dynV:Regs->VR->VR
 | [],r=>r
 | (t,x)::l,r=>(t,.a x)::dynV l r
theorem z5v:∀ (l:Regs) (r:VR),toR (dynV l r)=l++toR r
 | [],r=>rfl
 | (t,x)::l,r=>by simp only [dynV,toR,z5v l r];rfl
theorem zae {l q:Regs} {t:Nat}:get (l++q) t=match get l t with
  | some x=>some x
  | none=>get q t:=by
 induction l with
 | nil=>rfl
 | cons p l ih =>
   obtain ⟨t0,x⟩:=p
   simp only [List.cons_append,get]
   cases Nat.beq t0 t with
   | true=>rfl
   | false=>exact ih
def keepq (W:List Nat):VR->Option VR
 | []=>some []
 | (t,x)::r=>match keepq W r with
   | some q=>match mem t W with
     | true=>some q
     | false=>some ((t,x)::q)
   | none=>none
theorem z2b {W:List Nat}:∀ {r q:VR},keepq W r=some q->∀ t,get (toR q) t=if mem t W=true then none else get (toR r) t
 | [],q,h,t=>by cases h;simp [toR,get]
 | (t0,x0)::r,q,h,t=>by
   simp only [keepq] at h
   split at h
   ·rename_i q' hq
    have ih:=z2b hq t
    split at h
    ·rename_i hm
     cases h
     rw [ih]
     split
     ·rfl
     ·rename_i hn
      have:Nat.beq t0 t=false:=by
       cases hb:Nat.beq t0 t with
       | false=>rfl
       | true=>rw [<- Nat.eq_of_beq_eq_true hb] at hn;exact absurd hm hn
      simp only [toR,get,this,cond_false]
    ·rename_i hm
     cases h
     simp only [toR,get]
     cases hb:Nat.beq t0 t with
     | true=>rw [Nat.eq_of_beq_eq_true hb] at hm;rw [hm];simp
     | false=>simp only [cond_false];exact ih
   ·cases h
def allm (a b:List Nat):Bool:=a.all fun t=>mem t b
theorem z5f {a b:List Nat} (h:allm a b=true) {t:Nat} (ht:mem t b=false):mem t a=false:=by
 cases hb:mem t a with
 | false=>rfl
 | true=>rw [List.all_eq_true.1 h t (mem_iff.1 hb)] at ht;cases ht
theorem Rl.subG {P:Program} {cx:Cx} {n:Nat} {s s':S} {a:Act} {w:World} {own:Nat->Value} (r:Rl P cx n s a w own) (hr:∀ t y,get s'.regs t=some y->∃ x,get s.regs t=some x/\Sub x y) (ho:LeO s.objs s'.objs) (hn:z4j (s'.objs.map (·.1))=true) :
  Rl P cx n s' a w own:=by
 obtain ⟨hok,hle⟩:=r.ok.part ho.mem (z1r hn) cx.M0 (fun b i h=>.inl h) (fun k o b hk hb=>r.ok.m0 k o b (ho.mem _ hk) hb)
 refine { defs:=r.defs,size:=r.size,ok:=hok,regs:=fun t y hy=>?_,stp:=r.stp.less hle,fix:=fun k o hk=>(r.fix k o hk).trans ?_,fr:=⟨r.fr.keep,fun k o b hk hb=>r.fr.loc k o b (ho.mem _ hk) hb,r.fr.size⟩ }
 ·obtain ⟨x,hx,hs⟩:=hr t y hy
  exact (hs _ _ _ _ _ (r.regs t x hx)).part r.ok ho.mem hle
 ·cases h3:hwOf s'.objs k with
  | none=>exact .inr (.inl ⟨h3,.inl rfl⟩)
  | some m =>
    obtain ⟨oo,hm,hwi⟩:=z2g h3
    exact .inl ⟨rfl,by rw [h3,z3a r.ok.keys (ho.mem _ hm) hwi]⟩
section
variable {P : Program} {cx : Cx} {n : Nat} {E : En}
theorem znd {dk:List Nat} {r' kept:VR} {s:S} {o' orest:Obs} {dyn:Regs} {dobjs:Obs} (hk:∀ t y,get dyn t=none->get (toR kept) t=some y->get (toR r') t=some y) (ha:agr s.regs (toR r')) (ho:s.objs=o') (h:leV dk r' o' orest dyn dobjs):Le P cx n s ⟨toR (dynV dyn kept),dobjs++orest⟩:=by
 obtain ⟨h1,_,h2⟩:=zad h
 split at h2
 ·rename_i hn
  have h3:=zs7 h2
  rw [z5v]
  intro a w hr
  obtain ⟨own,rl⟩:=(Eqv.rel (s:=s) (s':=⟨toR r',o'⟩) ⟨ha,ho⟩ hr)
  refine ⟨own,rl.subG (fun t y hy=>?_) h3 hn⟩
  simp only [zae] at hy
  split at hy
  ·rename_i x hx
   cases hy
   exact h1.get t _ hx
  ·rename_i hx
   exact ⟨y,hk t y hx hy,Sub.refl _⟩
 ·cases h2
theorem loopG {X:Type} (dyn:X->Regs) (dobjs:X->Obs) (inv:X->Prop) (μ:X->Nat) (x0:X) (nx:X->VR->Obs->Prop) {c:Code} {Q:Exit->VR->Obs->Prop} {r kept:VR} {o orest:Obs} {dk:List Nat} (hE:EnOK P cx n E)
  (hnx:∀ x,inv x->∀ r' o',nx x r' o'->∃ x',inv x'/\μ x'<μ x/\leV dk r' o' orest (dyn x') (dobjs x'))
  (hd:allm dk (wrC c)=true) (hkept:keepq (wrC c) r=some kept) (h0:leV dk r o orest (dyn x0) (dobjs x0)) (hi:inv x0)
  (round:∀ x,inv x->vcC P cx n E c (thnV (nx x) Q) (dynV (dyn x) kept) (dobjs x++orest)):LoopV P cx n E c Q r o:=by
 refine ⟨zmn (fun x=>⟨toR (dynV (dyn x) kept),dobjs x++orest⟩) (fun x=>inv x/\∀ t,mem t dk=false->get (dyn x) t=none) μ x0 ?_ ⟨hi,(zad h0).2.1⟩ ?_⟩
 ·refine znd (fun t y _ hy=>?_) (fun _=>rfl) rfl h0
  rw [z2b hkept] at hy
  split at hy
  ·cases hy
  ·exact hy
 ·rintro x ⟨hx,hkx⟩
  refine z1n (z1j hE (round x hx)) ?_
  rintro e s ⟨r',o',h1,h2,h3,h4⟩
  have fr:∀ t,mem t (wrC c)=false->get (toR r') t=get (toR r) t:=fun t ht=>by
   rw [h3 t ht,z5v,zae,hkx t (z5f hd ht),z2b hkept,if_neg (by rw [ht];simp)]
  cases e with
  | normal =>
    obtain ⟨x',g1,g2,g3⟩:=hnx x hx r' o' h4
    refine ⟨x',⟨g1,(zad g3).2.1⟩,g2,znd (fun t y _ hy=>?_) h1 h2 g3⟩
    rw [z2b hkept] at hy
    split at hy
    ·cases hy
    ·rename_i hm
     rw [fr t (by simpa using hm)];exact hy
  | ret=>exact ⟨r',o',h1,h2,fr,h4⟩
  | _=>exact ⟨r',o',h1,h2,fr,h4⟩
theorem seqG {X:Type} (dyn:X->Regs) (dobjs:X->Obs) (inv:X->Prop) (nx:VR->Obs->Prop) (hs:List Nat) {a b:Code} {Q:Exit->VR->Obs->Prop} {r kept:VR} {o orest:Obs} {dk:List Nat} (hE:EnOK P cx n E)
  (hnx:∀ r' o',nx r' o'->∃ x',inv x'/\leV dk r' o' orest (dyn x') (dobjs x'))
  (hd:allm dk (wrC a)=true) (hkept:keepq (wrC a) r=some kept)
  (h1:vcC P cx n { E with hs:=hs } a (thnV nx Q) r o)
  (h2:∀ x,inv x->vcC P cx n { E with hs:=hs } b Q (dynV (dyn x) kept) (dobjs x++orest)):SeqV P cx n E a b Q r o:=by
 have hE':EnOK P cx n { E with hs:=hs }:=⟨hE.n,hE.tab,hE.fb,hE.k0,hE.mo,hE.cc,hE.cl⟩
 refine ⟨z1n (z1j hE' h1) ?_⟩
 rintro e s ⟨r',o',g1,g2,g3,g4⟩
 have fr1:Frm (wrC a++wrC b) r r':=fun t ht=>g3 t (mem_app.1 ht).1
 cases e with
 | normal =>
   obtain ⟨x,g5,g6⟩:=hnx r' o' g4
   have hle:Le P cx n s ⟨toR (dynV (dyn x) kept),dobjs x++orest⟩:=by
    refine znd (fun t y _ hy=>?_) g1 g2 g6
    rw [z2b hkept] at hy
    split at hy
    ·cases hy
    ·rename_i hm
     rw [g3 t (by simpa using hm)];exact hy
   refine zmm hle (z1n (z1j hE' (h2 x g5)) (z2i fun r2 o2 e hf hq=>⟨fun t ht=>?_,hq⟩))
   obtain ⟨t1,t2⟩:=mem_app.1 ht
   rw [hf t t2,z5v,zae,(zad g6).2.1 t (z5f hd t1),z2b hkept,if_neg (by rw [t1];simp)]
 | ret=>exact ⟨r',o',g1,g2,fr1,g4⟩
 | _=>exact ⟨r',o',g1,g2,fr1,g4⟩
end
section
variable {P : Program} {cx : Cx} {n : Nat} {E : En}
theorem loop1 {A:Type} (dyn:A->Regs) (dobjs:A->Obs) (inv:A->Prop) (μ:A->Nat) (a0:A) (dk ks:List Nat) (hE:EnK P cx n E.tab E.fb E.n E.k0 E.cc E.cl) {cd:Code} {Q:Exit->VR->Obs->Prop} {r kept:VR} {o orest:Obs}
  (hd:allm dk (wrC cd)=true) (hkept:keepq (wrC cd) r=some kept) (hor:othq ks o=some orest) (h0:leV dk r o orest (dyn a0) (dobjs a0)) (hi:inv a0)
  (round:∀ a,inv a->vcC P cx n E cd (thnV (fun r' o'=>∃ a',inv a'/\μ a'<μ a/\leV dk r' o' orest (dyn a') (dobjs a')) Q) (dynV (dyn a) kept) (dobjs a++orest)):LoopV P cx n E cd Q r o :=
 loopG (X:=A) (fun x=>dyn x) (fun x=>dobjs x) (fun x=>inv x) (fun x=>μ x) a0 (fun x r' o'=>∃ a',inv a'/\μ a'<μ x/\leV dk r' o' orest (dyn a') (dobjs a')) hE.ok
  (fun x _ r' o' ⟨a',h1,h2,h3⟩=>⟨a',h1,h2,h3⟩) hd hkept h0 hi (fun x hx=>round x hx)
theorem loop2 {A B:Type} (dyn:A->B->Regs) (dobjs:A->B->Obs) (inv:A->B->Prop) (μ:A->B->Nat) (a0:A) (b0:B) (dk ks:List Nat) (hE:EnK P cx n E.tab E.fb E.n E.k0 E.cc E.cl) {cd:Code} {Q:Exit->VR->Obs->Prop} {r kept:VR} {o orest:Obs}
  (hd:allm dk (wrC cd)=true) (hkept:keepq (wrC cd) r=some kept) (hor:othq ks o=some orest) (h0:leV dk r o orest (dyn a0 b0) (dobjs a0 b0)) (hi:inv a0 b0)
  (round:∀ a b,inv a b->vcC P cx n E cd (thnV (fun r' o'=>∃ a' b',inv a' b'/\μ a' b'<μ a b/\leV dk r' o' orest (dyn a' b') (dobjs a' b')) Q) (dynV (dyn a b) kept) (dobjs a b++orest)):LoopV P cx n E cd Q r o :=
 loopG (X:=A×B) (fun x=>dyn x.1 x.2) (fun x=>dobjs x.1 x.2) (fun x=>inv x.1 x.2) (fun x=>μ x.1 x.2) (a0,b0) (fun x r' o'=>∃ a' b',inv a' b'/\μ a' b'<μ x.1 x.2/\leV dk r' o' orest (dyn a' b') (dobjs a' b')) hE.ok
  (fun x _ r' o' ⟨a',b',h1,h2,h3⟩=>⟨(a',b'),h1,h2,h3⟩) hd hkept h0 hi (fun x hx=>round x.1 x.2 hx)
theorem loop3 {A B C:Type} (dyn:A->B->C->Regs) (dobjs:A->B->C->Obs) (inv:A->B->C->Prop) (μ:A->B->C->Nat) (a0:A) (b0:B) (c0:C) (dk ks:List Nat) (hE:EnK P cx n E.tab E.fb E.n E.k0 E.cc E.cl) {cd:Code} {Q:Exit->VR->Obs->Prop} {r kept:VR} {o orest:Obs}
  (hd:allm dk (wrC cd)=true) (hkept:keepq (wrC cd) r=some kept) (hor:othq ks o=some orest) (h0:leV dk r o orest (dyn a0 b0 c0) (dobjs a0 b0 c0)) (hi:inv a0 b0 c0)
  (round:∀ a b c,inv a b c->vcC P cx n E cd (thnV (fun r' o'=>∃ a' b' c',inv a' b' c'/\μ a' b' c'<μ a b c/\leV dk r' o' orest (dyn a' b' c') (dobjs a' b' c')) Q) (dynV (dyn a b c) kept) (dobjs a b c++orest)):LoopV P cx n E cd Q r o :=
 loopG (X:=A×B×C) (fun x=>dyn x.1 x.2.1 x.2.2) (fun x=>dobjs x.1 x.2.1 x.2.2) (fun x=>inv x.1 x.2.1 x.2.2) (fun x=>μ x.1 x.2.1 x.2.2) (a0,b0,c0) (fun x r' o'=>∃ a' b' c',inv a' b' c'/\μ a' b' c'<μ x.1 x.2.1 x.2.2/\leV dk r' o' orest (dyn a' b' c') (dobjs a' b' c')) hE.ok
  (fun x _ r' o' ⟨a',b',c',h1,h2,h3⟩=>⟨(a',b',c'),h1,h2,h3⟩) hd hkept h0 hi (fun x hx=>round x.1 x.2.1 x.2.2 hx)
theorem loop4 {A B C D:Type} (dyn:A->B->C->D->Regs) (dobjs:A->B->C->D->Obs) (inv:A->B->C->D->Prop) (μ:A->B->C->D->Nat) (a0:A) (b0:B) (c0:C) (d0:D) (dk ks:List Nat) (hE:EnK P cx n E.tab E.fb E.n E.k0 E.cc E.cl) {cd:Code} {Q:Exit->VR->Obs->Prop} {r kept:VR} {o orest:Obs}
  (hd:allm dk (wrC cd)=true) (hkept:keepq (wrC cd) r=some kept) (hor:othq ks o=some orest) (h0:leV dk r o orest (dyn a0 b0 c0 d0) (dobjs a0 b0 c0 d0)) (hi:inv a0 b0 c0 d0)
  (round:∀ a b c d,inv a b c d->vcC P cx n E cd (thnV (fun r' o'=>∃ a' b' c' d',inv a' b' c' d'/\μ a' b' c' d'<μ a b c d/\leV dk r' o' orest (dyn a' b' c' d') (dobjs a' b' c' d')) Q) (dynV (dyn a b c d) kept) (dobjs a b c d++orest)):LoopV P cx n E cd Q r o :=
 loopG (X:=A×B×C×D) (fun x=>dyn x.1 x.2.1 x.2.2.1 x.2.2.2) (fun x=>dobjs x.1 x.2.1 x.2.2.1 x.2.2.2) (fun x=>inv x.1 x.2.1 x.2.2.1 x.2.2.2) (fun x=>μ x.1 x.2.1 x.2.2.1 x.2.2.2) (a0,b0,c0,d0) (fun x r' o'=>∃ a' b' c' d',inv a' b' c' d'/\μ a' b' c' d'<μ x.1 x.2.1 x.2.2.1 x.2.2.2/\leV dk r' o' orest (dyn a' b' c' d') (dobjs a' b' c' d')) hE.ok
  (fun x _ r' o' ⟨a',b',c',d',h1,h2,h3⟩=>⟨(a',b',c',d'),h1,h2,h3⟩) hd hkept h0 hi (fun x hx=>round x.1 x.2.1 x.2.2.1 x.2.2.2 hx)
theorem loop5 {A B C D F:Type} (dyn:A->B->C->D->F->Regs) (dobjs:A->B->C->D->F->Obs) (inv:A->B->C->D->F->Prop) (μ:A->B->C->D->F->Nat) (a0:A) (b0:B) (c0:C) (d0:D) (e0:F) (dk ks:List Nat) (hE:EnK P cx n E.tab E.fb E.n E.k0 E.cc E.cl) {cd:Code} {Q:Exit->VR->Obs->Prop} {r kept:VR} {o orest:Obs}
  (hd:allm dk (wrC cd)=true) (hkept:keepq (wrC cd) r=some kept) (hor:othq ks o=some orest) (h0:leV dk r o orest (dyn a0 b0 c0 d0 e0) (dobjs a0 b0 c0 d0 e0)) (hi:inv a0 b0 c0 d0 e0)
  (round:∀ a b c d e,inv a b c d e->vcC P cx n E cd (thnV (fun r' o'=>∃ a' b' c' d' e',inv a' b' c' d' e'/\μ a' b' c' d' e'<μ a b c d e/\leV dk r' o' orest (dyn a' b' c' d' e') (dobjs a' b' c' d' e')) Q) (dynV (dyn a b c d e) kept) (dobjs a b c d e++orest)):LoopV P cx n E cd Q r o :=
 loopG (X:=A×B×C×D×F) (fun x=>dyn x.1 x.2.1 x.2.2.1 x.2.2.2.1 x.2.2.2.2) (fun x=>dobjs x.1 x.2.1 x.2.2.1 x.2.2.2.1 x.2.2.2.2) (fun x=>inv x.1 x.2.1 x.2.2.1 x.2.2.2.1 x.2.2.2.2) (fun x=>μ x.1 x.2.1 x.2.2.1 x.2.2.2.1 x.2.2.2.2) (a0,b0,c0,d0,e0) (fun x r' o'=>∃ a' b' c' d' e',inv a' b' c' d' e'/\μ a' b' c' d' e'<μ x.1 x.2.1 x.2.2.1 x.2.2.2.1 x.2.2.2.2/\leV dk r' o' orest (dyn a' b' c' d' e') (dobjs a' b' c' d' e')) hE.ok
  (fun x _ r' o' ⟨a',b',c',d',e',h1,h2,h3⟩=>⟨(a',b',c',d',e'),h1,h2,h3⟩) hd hkept h0 hi (fun x hx=>round x.1 x.2.1 x.2.2.1 x.2.2.2.1 x.2.2.2.2 hx)
theorem seq0 (dyn:Regs) (dobjs:Obs) (dk ks hs:List Nat) (hE:EnK P cx n E.tab E.fb E.n E.k0 E.cc E.cl) {a' b':Code} {Q:Exit->VR->Obs->Prop} {r kept:VR} {o orest:Obs}
  (hd:allm dk (wrC a')=true) (hkept:keepq (wrC a') r=some kept) (hor:othq ks o=some orest)
  (h1:vcC P cx n { E with hs:=hs } a' (thnV (fun r' o'=>leV dk r' o' orest dyn dobjs) Q) r o)
  (h2:vcC P cx n { E with hs:=hs } b' Q (dynV dyn kept) (dobjs++orest)):SeqV P cx n E a' b' Q r o :=
 seqG (X:=Unit) (fun _=>dyn) (fun _=>dobjs) (fun _=>True) (fun r' o'=>leV dk r' o' orest dyn dobjs) hs hE.ok (fun r' o' h=>⟨(),trivial,h⟩) hd hkept h1 (fun _ _=>h2)
theorem tokV (t k el sz:Nat) {c:Code} {Q:Exit->VR->Obs->Prop} {r:VR} {o:Obs} (hE:EnK P cx n E.tab E.fb E.n E.k0 E.cc E.cl) (hx:get r t=some (.a (.p nilS))) (hm:mem t (wrC c)=true) (hf:(z1e k (toR r)&&zr k o&&!mem k E.k0)=true)
  (h:LoopV P cx n E c Q ((t,.a (.ts k sz []))::r) ((k,.ar el sz 0)::o)):LoopV P cx n E c Q r o:=by
 obtain ⟨h1,h2⟩:=z2m hE.ok hf
 refine ⟨zmm (Le.tok t k el sz (by rw [z1s,hx];rfl) h1 h2) (z1n h.h (z2i fun r' o' e hq hQ=>⟨fun q hm'=>?_,hQ⟩))⟩
 rw [hq q hm']
 have:Nat.beq t q=false:=by
  cases hb:Nat.beq t q with
  | false=>rfl
  | true=>rw [Nat.eq_of_beq_eq_true hb,hm'] at hm;cases hm
 simp only [toR,get,this,cond_false]
end
section
variable {P : Program} {f : Nat} {dr : Bool} {avs cavs : List AV} {o : Obs} {kp : AV → Prop} {kn : List Nat → Obs → Obs → AV → Obs → Prop} {kd : AV → List Loc → Option Wt → Prop} {fr : Nat → Bool}
theorem call0 {x:AV} (con:PCon P f cavs x) (h:kp x):CallV P dr f avs cavs o kp kn kd fr:=⟨.inl ⟨x,con,h⟩⟩
theorem callX {sub o2:Obs} {args:List AV} {R:AV->Obs->Prop} (ks:List Nat) (con:Con P f args sub R) (h1:selq ks o=some sub) (h2:othq ks o=some o2) (hs:Subs avs args) (h:∀ x o1,R x o1->kn ks sub o2 x o1):CallV P false f avs cavs o kp kn kd fr :=
 ⟨.inr (.inr ⟨rfl,ks,sub,o2,args,R,h1,h2,hs,con,h⟩)⟩
theorem call1 {sub o2 o1:Obs} {x:AV} {args:List AV} (ks:List Nat) (con:Con P f args sub (fun r o=>r=x/\o=o1)) (h1:selq ks o=some sub) (h2:othq ks o=some o2) (hs:Subs avs args) (h:kn ks sub o2 x o1):CallV P false f avs cavs o kp kn kd fr :=
 callX ks con h1 h2 hs fun _ _ ⟨e1,e2⟩=>by subst e1 e2;exact h
theorem callR {sub:Obs} {x:AV} {args:List AV} (ks:List Nat) (con:Con P f args sub (fun r o=>r=x/\o=sub)) (h1:getsq ks o=some sub) (h2:z4j ks=true) (hs:Subs avs args) (h:kd x (ks.map Loc.w) none):CallV P dr f avs cavs o kp kn kd fr :=
 ⟨.inr (.inl ⟨ks,sub,sub,args,x,none,h1,h2,hs,con,.rd sub,fun k ob e=>(by cases e),h⟩)⟩
theorem callW {sub sub':Obs} {x:AV} {args:List AV} {ob0:Ob} (ks:List Nat) (k:Nat) (ob:Ob) (con:Con P f args sub (fun r o=>r=x/\o=sub')) (h1:getsq ks o=some sub) (h2:z4j ks=true) (hs:Subs avs args) (h3:setO sub k ob=sub') (h4:get sub k=some ob0) (h:kd x (ks.map Loc.w) (some (.w k ob))):CallV P dr f avs cavs o kp kn kd fr :=
 ⟨.inr (.inl ⟨ks,sub,sub',args,x,_,h1,h2,hs,con,h3▸.wr sub k ob ob0 h4,fun k ob e=>(by cases e),h⟩)⟩
theorem callM {sub sub':Obs} {x:AV} {args:List AV} (ks:List Nat) (con:Con P f args sub (fun r o=>r=x/\o=sub')) (h1:getsq ks o=some sub) (h2:z4j ks=true) (hs:Subs avs args) (h3:sub'.map (·.1)=sub.map (·.1)) (h:kd x (ks.map Loc.w) (some (.m sub'))):CallV P dr f avs cavs o kp kn kd fr :=
 ⟨.inr (.inl ⟨ks,sub,sub',args,x,_,h1,h2,hs,con,.mw sub sub' h3,fun k ob e=>(by cases e),h⟩)⟩
end
theorem PCon.mk {P:Program} {f:Nat} {args:List AV} {x:AV} (h:Con P f args [] fun r o=>r=x/\o=[]):PCon P f args x:=h
section
variable {P : Program} {cx : Cx} {n : Nat} {E : En}
theorem loopP {α:Type} (l:List α) (dyn:List α->Regs) (dobjs:List α->Obs) (inv:List α->Prop) (dk ks:List Nat) (hE:EnK P cx n E.tab E.fb E.n E.k0 E.cc E.cl) {cd:Code} {Q:Exit->VR->Obs->Prop} {r kept:VR} {o orest:Obs}
  (hd:allm dk (wrC cd)=true) (hkept:keepq (wrC cd) r=some kept) (hor:othq ks o=some orest) (h0:leV dk r o orest (dyn []) (dobjs [])) (hi:inv [])
  (hn:inv l->vcC P cx n E cd (thnV (fun _ _=>False) Q) (dynV (dyn l) kept) (dobjs l++orest))
  (hc:∀ p a q,l=p++a::q->inv p->vcC P cx n E cd (thnV (fun r' o'=>inv (p++[a])/\leV dk r' o' orest (dyn (p++[a])) (dobjs (p++[a]))) Q) (dynV (dyn p) kept) (dobjs p++orest)):LoopV P cx n E cd Q r o:=by
 refine loopG (X:=List α×List α) (fun x=>dyn x.1) (fun x=>dobjs x.1) (fun x=>l=x.1++x.2/\inv x.1) (fun x=>x.2.length) ([],l)
  (fun x r' o'=>match x.2 with
   | []=>False
   | a::q=>inv (x.1++[a])/\leV dk r' o' orest (dyn (x.1++[a])) (dobjs (x.1++[a]))) hE.ok ?_ hd hkept h0 ⟨rfl,hi⟩ ?_
 ·rintro ⟨p,q⟩ ⟨h1,h2⟩ r' o' h
  cases q with
  | nil=>cases h
  | cons a q=>exact ⟨(p++[a],q),⟨by simpa using h1,h.1⟩,by simp,h.2⟩
 ·rintro ⟨p,q⟩ ⟨h1,h2⟩
  cases q with
  | nil =>
    simp only [List.append_nil] at h1
    subst h1
    exact hn h2
  | cons a q=>exact hc p a q h1 h2
theorem Sub.bt {F:Prop} [Decidable F] (h:F):Sub (.p (.v (.bool true))) (.p (.v (.bool (decide F)))):=Sub.b (by simp [h])
theorem Sub.bf {F:Prop} [Decidable F] (h:¬ F):Sub (.p (.v (.bool false))) (.p (.v (.bool (decide F)))):=Sub.b (by simp [h])
theorem Sub.bd {F G:Prop} [Decidable F] [Decidable G] (h:G↔F):Sub (.p (.v (.bool (decide G)))) (.p (.v (.bool (decide F)))):=Sub.b (by simp [h])
theorem brIn {m k:Nat} {x y:Prop} (h:m<k) (hx:x):BrV (decide ((m:Int)<(k:Int))) x y:=brY (by omega) hx
theorem brOut {m k:Nat} {x y:Prop} (h:k<=m) (hy:y):BrV (decide ((m:Int)<(k:Int))) x y:=brZ (by omega) hy
end
theorem z6h {xs:List (List PV)} {i:Nat} {row:List PV} (h:xs[i]?=some row):rowAt xs (i:Int)=row:=by
 unfold rowAt
 simp [List.getD_eq_getElem?_getD,h]
theorem idxN {xs:List (List PV)} {i:Nat} {k:List PV->Prop} {row:List PV} (h:xs[i]?=some row) (hk:k row):IdxV xs (i:Int) k:=by
 have hl:=(List.getElem?_eq_some_iff.1 h).1
 exact idx1 (by omega) (by omega) (z6h h) hk
theorem z1w {α:Type} {f:α->List PV} {l p q:List α} {a:α} (h:l=p++a::q):(l.map f)[p.length]?=some (f a):=by simp [h]
theorem idxL {l p q:List Lvl} {a:Lvl} {k:List PV->Prop} (h:l=p++a::q) (hk:k (rowL a)):IdxV (encLs l) (p.length:Nat) k:=idxN (by rw [z1i];exact z1w h) hk
theorem idxT {l p q:List Trm} {a:Trm} {k:List PV->Prop} (h:l=p++a::q) (hk:k (rowT a)):IdxV (encTs l) (p.length:Nat) k:=idxN (by rw [zb];exact z1w h) hk
theorem brL {l p q:List Lvl} {a:Lvl} {x y:Prop} (h:l=p++a::q) (hx:x):BrV (decide ((p.length:Int)<((encLs l).length:Int))) x y:=brIn (by simp [h]) hx
theorem brT' {l p q:List Trm} {a:Trm} {x y:Prop} (h:l=p++a::q) (hx:x):BrV (decide ((p.length:Int)<((encTs l).length:Int))) x y:=brIn (by simp [h]) hx
theorem brLe {l:List Lvl} {x y:Prop} (hy:y):BrV (decide ((l.length:Int)<((encLs l).length:Int))) x y:=brOut (by simp) hy
theorem brTe {l:List Trm} {x y:Prop} (hy:y):BrV (decide ((l.length:Int)<((encTs l).length:Int))) x y:=brOut (by simp) hy
theorem zcy (l p:List Lvl) (f:Lvl->Lvl) (a:Lvl):encLs (p.map f)++[rowL (f a)]=encLs ((p++[a]).map f):=by simp [z1i]
theorem zit (p:List Trm) (f:Trm->Trm) (a:Trm):encTs (p.map f)++[rowT (f a)]=encTs ((p++[a]).map f):=by simp [zb]
theorem zg {α:Type} {l p q:List α} {a:α} (h:l=p++a::q):a∈l:=by rw [h];simp
theorem zj {α:Type} {l p q:List α} {a:α} (h:l=p++a::q):p.length<l.length:=by rw [h];simp
def Obj.held:Obj->Bool
 | .cells ..=>true
 | .map ..=>true
 | _=>false
structure Quiet (B:Nat) (w w':World):Prop where
 os:w'.os=w.os
 tape:w'.tape=w.tape
 output:w'.output=w.output
 size:w.heap.size<=w'.heap.size
 keep:∀ (b:Nat) (o:Obj),w.heap[b]?=some o->Obj.held o=true->w'.heap[b]?=some o
 old:∀ b,b<B->w'.heap[b]?=w.heap[b]?
theorem Quiet.alloc {B:Nat} {w:World} (hB:B<=w.heap.size) (o:Obj):Quiet B w (w.alloc o) :=
 ⟨rfl,rfl,rfl,by simp,fun b o' h _=>(z3z w o (Array.getElem?_eq_some_iff.1 h).1).trans h,fun b hb=>z3z w o (by omega)⟩
theorem Quiet.putObj {B:Nat} {w:World} {r:Nat} {o:Obj} (o':Obj) (h:w.heap[r]?=some o) (ho:Obj.held o=false) (hr:B<=r):Quiet B w (w.putObj r o') :=
 ⟨rfl,rfl,rfl,by simp [World.putObj],fun b o'' h1 h2=>(World.putObj_heap_other (by rintro rfl;rw [h] at h1;cases h1;rw [ho] at h2;cases h2)).trans h1,fun b hb=>World.putObj_heap_other (by omega)⟩
theorem Quiet.stp {B:Nat} {w w':World} (q:Quiet B w w') (M:Nat->Nat->Prop):Stp w M w' M where
 os:=q.os
 tape:=q.tape
 output:=q.output
 size:=q.size
 cell b i v _ h:=by
  unfold World.cell? at h ⊢
  simp only at h ⊢
  split at h
  ·rename_i c e f hc
   rw [q.keep b _ hc rfl];exact h
  ·cases h
 mu b i h:=.inl h
 shape b cs T h:=⟨cs,q.keep b _ h rfl⟩
theorem zs8 {P:Program} {w:World} {M:Nat->Nat->Prop} {own:Nat->Value} {hw:Nat->Option Nat} {k:Nat} {o:Ob} (h:ObOK P w M own hw k o) {b:Nat} (hb:blk (own k)=some b):∃ ob,w.heap[b]?=some ob/\Obj.held ob=true:=by
 cases o with
 | ce T cs =>
   obtain ⟨b',vals,e1,e2,_⟩:=h
   rw [e1] at hb;cases hb
   exact ⟨_,e2,rfl⟩
 | ar T sz m =>
   obtain ⟨cells,e1,e2 | ⟨g,cap,cur,e2,_,e3,_⟩⟩:=h
   ·rw [e2.1] at hb;cases hb
   ·rw [e2] at hb;cases hb
    exact ⟨_,e3,rfl⟩
 | mu T sz ver xs =>
   obtain ⟨cells,⟨e1,e2 | ⟨g,cap,cur,e2,_,e3,_⟩⟩,_⟩:=h
   ·rw [e2.1] at hb;cases hb
   ·rw [e2] at hb;cases hb
    exact ⟨_,e3,rfl⟩
 | mp ver l =>
   cases l with
   | none=>have e:own k=.map none:=h;rw [e] at hb;cases hb
   | some l =>
     obtain ⟨b',es,clock,e1,e2,_⟩:=h
     rw [e1] at hb;cases hb
     exact ⟨_,e2,rfl⟩
theorem OK.quiet {P:Program} {B:Nat} {w w':World} {M0:Nat->Nat->Prop} {own:Nat->Value} {objs:Obs} (h:OK P w M0 own objs) (q:Quiet B w w'):OK P w' M0 own objs:=by
 have hk:∀ k o,(k,o)∈objs->∀ b,blk (own k)=some b->w'.heap[b]?=w.heap[b]?:=fun k o hm b hb=>by
  obtain ⟨ob,h1,h2⟩:=zs8 (h.obs k o hm) hb
  rw [h1];exact q.keep b ob h1 h2
 refine ⟨fun k o hm=>?_,h.keys,h.inj,h.m0,fun b i hb=>Nat.lt_of_lt_of_le (h.m0old b i hb) q.size⟩
 have h1:=h.obs k o hm
 cases o with
 | ce T cs =>
   obtain ⟨b,vals,e1,e2,e3,e4⟩:=h1
   exact ⟨b,vals,e1,by rw [hk k _ hm b (by rw [e1];rfl)];exact e2,e3,fun j x hj=>⟨(e4 j x hj).1,(e4 j x hj).2.tr (q.stp _) fun _ _=>.same⟩⟩
 | ar T sz m =>
   obtain ⟨cells,e⟩:=h1
   exact ⟨cells,zo e fun b hb=>hk k _ hm b hb⟩
 | mu T sz ver xs =>
   obtain ⟨cells,e,e2,e3⟩:=h1
   exact ⟨cells,zo e fun b hb=>hk k _ hm b hb,e2,fun i row j x hi hj=>(e3 i row j x hi hj).stp (q.stp _)⟩
 | mp ver l=>exact MpOK.keep h1 fun b hb=>hk k _ hm b hb
section
variable {P : Program} {cx : Cx} {n : Nat} {s : S} {a : Act} {w w' : World} {own : Nat → Value}
theorem Rl.quiet (r:Rl P cx n s a w own) (q:Quiet cx.w0.heap.size w w'):Rl P cx n s a w' own where
 defs:=r.defs
 size:=r.size
 ok:=r.ok.quiet q
 regs t x hx:=(r.regs t x hx).tr (q.stp _) fun _ _=>.same
 stp:=r.stp.trans (q.stp _)
 fix:=r.fix
 fr:=⟨fun b hb hn=>(q.old b hb).trans (r.fr.keep b hb hn),r.fr.loc,Nat.le_trans r.fr.size q.size⟩
theorem zne:∀ {objs:Obs} {ks:List Nat},(∀ p∈objs,p.1∈ks)->sel ks objs=objs/\oth ks objs=[]
 | [],_,_=>⟨rfl,rfl⟩
 | (k,o)::r,ks,h=>by
   have hk:mem k ks=true:=mem_iff.2 (h (k,o) (by simp))
   have ih:=zne (objs:=r) (ks:=ks) fun p hp=>h p (by simp [hp])
   simp only [sel,oth,hk,cond_true,ih.1,ih.2,and_self]
theorem Rl.back (r:Rl P cx n s a w own) {own':Nat->Value} {objs':Obs} {d:Nat} (hd:d<n) (hdn:get s.regs d=none) (hkeys:objs'.map (·.1)=s.objs.map (·.1))
  (hok:OK P w' cx.M0 own' objs') (hs:Stp w (Mu cx.M0 own s.objs) w' (Mu cx.M0 own' objs')) (hkr:∀ k o,(k,o)∈s.objs->Kr own own' (hwOf s.objs) (hwOf objs') k)
  (hcl:∀ k T cs,(k,Ob.ce T cs)∈objs'->∀ y∈cs,zby objs' y) (hfr:Fr w own s.objs w' own' objs'):∃ own'',Rl P cx n ⟨s.regs,objs'⟩ a w' own'':=by
 have hall:∀ p∈s.objs,p.1∈s.objs.map (·.1):=fun p hp=>List.mem_map_of_mem hp
 obtain ⟨h1,h2⟩:=zne hall
 have hM:(fun b i=>cx.M0 b i\/∃ k o,(k,o)∈oth (s.objs.map (·.1)) s.objs/\mutOf o (own k) b i)=cx.M0:=by
  funext b i
  rw [h2]
  simp
 have hnew:newOK (s.objs.map (·.1)) s cx.objs0 objs'=true:=by
  have:∀ l:Obs,(∀ p∈l,p.1∈s.objs.map (·.1))->newOK (s.objs.map (·.1)) s cx.objs0 l=true:=by
   intro l
   induction l with
   | nil=>intro _;rfl
   | cons p l ih =>
     obtain ⟨k,o⟩:=p
     intro h
     simp only [newOK,h1,Bool.and_eq_true,Bool.or_eq_true]
     exact ⟨.inl (mem_iff.2 (h (k,o) (by simp))),ih fun p hp=>h p (by simp [hp])⟩
  exact this objs' fun p hp=>by rw [<- hkeys];exact List.mem_map_of_mem hp
 obtain ⟨own'',r''⟩:=r.called (x:=.any) (v:=undef) (s.objs.map (·.1)) hd hnew (by rw [hM];exact hok) .any (by rw [hM];exact hs) (fun k o hk=>by rw [h1] at hk ⊢;exact hkr k o hk) ⟨fun k hk=>(by cases hk),hcl⟩ (by rw [h1];exact hfr)
 rw [h2,List.append_nil] at r''
 refine ⟨own'',{ defs:=r''.defs,size:=r.size,ok:=r''.ok,regs:=fun t x hx=>?_,stp:=r''.stp,fix:=r''.fix,fr:=r''.fr }⟩
 have ht:t≠d:=by rintro rfl;simp only at hx;rw [hdn] at hx;cases hx
 have h3:=r''.regs t x (by simp only [get];rw [show Nat.beq d t=false from by cases hb:Nat.beq d t with | false=>rfl | true=>exact absurd (Nat.eq_of_beq_eq_true hb).symm ht];exact hx)
 have e:(a.put (some d) undef).tmps.getD t undef=a.tmps.getD t undef:=by
  simp only [Act.put,Array.getD_eq_getD_getElem?]
  rw [Array.getElem?_setIfInBounds_ne (Ne.symm ht)]
 rw [e] at h3;exact h3
end
section
variable {P : Program} {ops : Array Oper} {Q : Exit → Act → World → Prop}
theorem z5d (l m:Nat) (hQ:¬ LetsOut Q):∀ (rest:List Oper) (a:Act) (w:World),(∀ o∈rest,∀ c,o.op≠.defer c)->wpList P ops Q rest a w->wpListIn (Fence.wide.inRound l) m P ops Q rest a w
 | [],a,w,_,h=>h
 | o :: rest,a,w,hnd,h=>by
   have ih:=fun a w=>z5d l m hQ rest a w fun o ho=>hnd o (by simp [ho])
   simp only [wpList] at h
   simp only [wpListIn]
   split at h
   ·rename_i hw
    rw [if_pos hw]
    rcases h with h | ⟨_,h⟩
    ·refine ⟨fun _ _=>trivial,?_⟩
     rw [Oper.semAt_eq _ _ _ (hnd o (by simp))]
     unfold Oper.wp at h
     generalize (execOp a.eval o).run P w=res at h ⊢
     unfold Oper.upon at h
     split at h
     ·exact ih _ _ h
     ·exact ih _ _ h
     ·exact ih _ _ h
     ·refine ⟨fun hd=>(by cases hd),CallsIn.inRound l ((callsIn_wide.2 h).mono fun e w' he=>?_)⟩
      cases e with
      | returned v=>exact ih _ _ he
      | panicked ch=>exact he
      | outgrown=>exact absurd he hQ
     ·exact ⟨fun hd=>(by cases hd),fun c cs _=>let ⟨v,w',r,s⟩:=h c cs;⟨v,w',ih _ _ r,stepsIn_wide.2 s⟩⟩
     ·exact h
     ·exact h.elim
    ·exact absurd h hQ
   ·rename_i hw
    rw [if_neg hw]
    exact ⟨fun _ _=>trivial,ih _ _ h⟩
theorem z8u (ds:List Deferred) (hQ:¬ LetsOut Q):∀ (rest:List Oper) (a:Act) (w:World),(∀ o∈rest,∀ c,o.op≠.defer c)->wpList P ops Q rest a w ->
  wpList P ops (fun e a' w'=>∃ a0,Q e a0 w'/\a'={ a0 with defers:=a0.defers++ds }) rest { a with defers:=a.defers++ds } w
 | [],a,w,_,h=>⟨a,h,rfl⟩
 | o :: rest,a,w,hnd,h=>by
   have ih:=fun a w=>z8u ds hQ rest a w fun o ho=>hnd o (by simp [ho])
   simp only [wpList] at h ⊢
   have ev:({ a with defers:=a.defers++ds }:Act).eval=a.eval:=by funext x;cases x<;>rfl
   have pt:∀ (a:Act) (v:Value),({ a with defers:=a.defers++ds }:Act).put o.dst v={ a.put o.dst v with defers:=(a.put o.dst v).defers++ds }:=fun a v=>by cases o.dst<;>rfl
   split at h
   ·rename_i hw
    rw [if_pos hw]
    rcases h with h | ⟨_,h⟩
    ·refine .inl ?_
     unfold Oper.wp at h ⊢
     rw [ev]
     generalize (execOp a.eval o).run P w=res at h ⊢
     unfold Oper.upon at h
     split at h
     ·exact (congrArg (fun x=>wpList P ops _ rest x _) (pt a _)).mpr (ih _ _ h)
     ·exact (congrArg (fun x=>wpList P ops _ rest x _) (pt a _)).mpr (ih _ _ h)
     ·exact (congrArg (fun x=>wpList P ops _ rest x _) (pt { a with defers:=_::a.defers } _)).mpr (ih _ _ h)
     ·refine Calls.mono h fun e w' he=>?_
      cases e with
      | returned v=>exact (congrArg (fun x=>wpList P ops _ rest x _) (pt a _)).mpr (ih _ _ he)
      | panicked ch=>exact ⟨_,he,rfl⟩
      | outgrown=>exact absurd he hQ
     ·exact Rows.mono h fun v w' he=>(congrArg (fun x=>wpList P ops _ rest x _) (pt a _)).mpr (ih _ _ he)
     ·exact ⟨_,h,rfl⟩
     ·exact h.elim
    ·exact absurd h hQ
   ·rename_i hw
    rw [if_neg hw,pt]
    exact ih _ _ h
end
section
variable {P : Program} {cx : Cx} {n m : Nat} {Q : Exit → Act → World → Prop} {s : S} {a : Act} {w : World} {own : Nat → Value} {ops : Array Oper} {rest : List Oper} {d : Nat} {pos : String} {aft : Array Edge} {ty : Nat}
def z8v (P:Program) (cx:Cx) (s:S) (a:Act) (w:World) (own:Nat->Value) (o:Oper) (x:AV):Prop:=∃ v,(execOp a.eval o).run P w=.ok (.value v) w/\RepA w (Mu cx.M0 own s.objs) own (hwOf s.objs) x v
theorem pin {o:Oper} {x:AV} (r:Rl P cx n s a w own) (hg:o.guard=none) (hdst:o.dst=some d) (hd:d<n) (hp:z8v P cx s a w own o x)
  (k:∀ v,Rl P cx n (s.put d x) (a.put (some d) v) w own->wpListIn Fence.wide m P ops Q rest (a.put (some d) v) w):wpListIn Fence.wide m P ops Q (o::rest) a w:=by
 obtain ⟨v,hv,hx⟩:=hp
 refine wpListIn_plain hg fun K hK=>⟨fun _ _=>trivial,?_⟩
 show o.uponIn _ _ P a K Q ((execOp a.eval o).run P w)
 rw [hv,Oper.uponIn_value,hdst]
 exact hK _ _ (k v (r.put_same hd hx))
variable (r : Rl P cx n s a w own)
include r
theorem z6i {x:Operand} {av:AV} (hx:s.ev x=some av):z8v P cx s a w own ⟨some d,.move x,ty,pos,aft,none⟩ av:=⟨_,z8e (.inl rfl) w,r.ev hx⟩
theorem zcz {x:Operand} {av:AV} (hx:s.ev x=some av):z8v P cx s a w own ⟨some d,.assign x,ty,pos,aft,none⟩ av:=⟨_,z8e (.inr rfl) w,r.ev hx⟩
theorem z8w {T sz k off:Nat} {x:Operand} {T0:Nat} {cs:List AV} {y:AV} (ti:TI P T sz false) (hx:s.ev x=some (.ptr k off)) (hk:get s.objs k=some (.ce T0 cs)) (hl:rng cs off 1=some [y]) :
  z8v P cx s a w own ⟨some d,.load T x,ty,pos,aft,none⟩ y:=by
 obtain ⟨b,hb,hv⟩:=(r.ev hx).ptr_inv
 obtain ⟨b',vals,e1,e2,e3,e4⟩:=z6t r hk
 rw [hb] at e1
 injection e1 with e1;injection e1 with e1;injection e1 with e1
 subst e1
 obtain ⟨h1,h2,h3⟩:=z3l hl
 have hc:cs[off]?=some y:=by have:=h3 0 (by omega);simpa using this.symm
 have hlt:off<vals.length:=by have:=(List.getElem?_eq_some_iff.1 hc).1;omega
 refine ⟨vals.getD off undef,?_,(e4 _ _ hc).2⟩
 simp only [execOp,hv,Instr.loadAt,Instr.sureAddr,Sem.run_bind,Sem.run_pure,Result.andThen_ok]
 rw [z3r ti w _ (vals.getD off undef)]
 ·rfl
 ·rw [cell_of_row w b _ _ T0 (0,0) e2]
  simp [List.getD_eq_getElem?_getD,List.getElem?_eq_getElem hlt]
theorem zgw {op:BinOp} {xT yT:Nat} {x y:Operand} {vx vy z:Value} (hx:s.ev x=some (.p (.v vx))) (hy:s.ev y=some (.p (.v vy)))
  (hz:z.oneCell'=true) (hr:∀ w,(do eqGuard op xT x y vx vy;binOp op xT vx vy:Sem Value).run P w=.ok z w) :
  z8v P cx s a w own ⟨some d,.binOp op xT x y yT,ty,pos,aft,none⟩ (.p (.v z)):=by
 refine ⟨z,?_,.scal hz⟩
 have h1:=(r.ev hx).val
 have h2:=(r.ev hy).val
 have h3:=hr w
 simp only [execOp,h1,h2,Sem.run_bind] at h3 ⊢
 rw [h3]
 simp
theorem zzw {op:UnOp} {xT:Nat} {x:Operand} {vx z:Value} (hx:s.ev x=some (.p (.v vx))) (hz:z.oneCell'=true) (hr:∀ w,(Op.unary op vx).run P w=.ok z w) :
  z8v P cx s a w own ⟨some d,.unOp op xT x,ty,pos,aft,none⟩ (.p (.v z)):=by
 refine ⟨z,?_,.scal hz⟩
 have h1:=(r.ev hx).val
 simp only [execOp,h1,Sem.run_bind,hr w,Result.andThen_ok,Sem.run_pure]
theorem zwn {T E rty:Nat} {x:Operand} {av:AV} {sz:Nat} {xs:List (List PV)} (si:SI P T E) (hx:s.ev x=some av) (hr:av.rows=some (sz,xs)) :
  z8v P cx s a w own ⟨some d,.call ⟨.builtin .len,#[x],#[T]⟩,rty,pos,aft,none⟩ (.p (I xs.length)):=by
 obtain ⟨ad,cap,hv,_,_⟩:=((r.ev hx).rows hr).sl_len
 have hel:P.underlying T=some (.slice (P.elem T)):=by simp [Program.elem,si.h]
 refine ⟨.int .i64 xs.length,?_,.scal rfl⟩
 simp only [execOp,resolve,invoke,builtin,Sem.run_bind,Sem.run_pure,Result.andThen_ok,List.map_toArray,List.map_cons,List.map_nil,hv]
 rw [run_len_slice w T rty ad xs.length cap hel]
 rfl
theorem zq2 {T E sz esz:Nat} {ag:Bool} {x y:Operand} {av:AV} {xs:List (List PV)} {kd:IntKind} {i:Int} (si:SI P T E) (ti:TI P E esz ag) (hx:s.ev x=some av) (hr:av.rows=some (sz,xs)) (he:Nat.beq sz esz=true)
  (hy:s.ev y=some (.p (.v (.int kd i)))) (h0:0<=i) (h1:i<(xs.length:Int)):z8v P cx s a w own ⟨some d,.indexAddr T x y,ty,pos,aft,none⟩ (.p (.ip (rowAt xs i))):=by
 have h:=(r.ev hx).rows hr
 have hv:=(r.ev hy).val
 obtain rfl:sz=esz:=Nat.eq_of_beq_eq_true he
 generalize ha:a.eval x=v at h
 have hlt:i.toNat<xs.length:=by omega
 cases h with
 | nil=>simp at hlt
 | sl ad cap f hcap hmax hrow hcell hM hx' =>
   have hg:xs[i.toNat]?=some (rowAt xs i):=by unfold rowAt;rw [List.getD_eq_getElem?_getD,List.getElem?_eq_getElem hlt];rfl
   refine ⟨.pointer (some (ad.add (i.toNat * sz))),?_,.p (.ip _ (f i.toNat) (fun j z hj=>?_) (fun j z hj=>?_) (fun j z hj=>hx' _ _ j z hg hj))⟩
   ·have hel:P.underlying T=some (.slice (P.elem T)):=by simp [Program.elem,si.h]
    have hel':P.elem T=E:=by simp [Program.elem,si.h]
    simp only [execOp,ha,hv,Sem.run_bind]
    rw [run_indexAt_slice w T ad xs.length cap kd i hel,if_pos ⟨h0,h1⟩,hel',ti.run_size w]
    rfl
   ·rw [zba];exact hcell _ _ j z hg hj
   ·rw [(z3w ad _).1,(z3w ad _).2,Nat.add_assoc];exact hM _ _ j z hg hj
theorem zep {T sz:Nat} {x:Operand} {cs l:List PV} (ti:TI P T sz true) (hx:s.ev x=some (.p (.ip cs))) (hl:tk sz cs=some l) :
  z8v P cx s a w own ⟨some d,.load T x,ty,pos,aft,none⟩ (.ag (l.map .p)):=by
 obtain ⟨ad,f,hv,h1,h2,h3⟩:=Rep.ip_inv (r.ev hx)
 obtain ⟨h4,h5⟩:=zbw hl
 have hcs:∀ j,j<sz->∃ y,cs[j]?=some y:=fun j hj=>⟨l[j],by rw [<- h5 j hj];exact List.getElem?_eq_getElem (by omega)⟩
 refine ⟨_,?_,.ag ((List.range sz).map f) (by simp [h4]) ?_ ?_⟩
 ·simp only [execOp,hv,Instr.loadAt,Instr.sureAddr,Sem.run_bind,Sem.run_pure,Result.andThen_ok]
  rw [z3q ti w ad ((List.range sz).map f) (by simp)]
  ·rfl
  ·intro j v hj
   simp only [List.getElem?_map,Option.map_eq_some_iff] at hj
   obtain ⟨i,hi,rfl⟩:=hj
   have hlt:=(List.getElem?_eq_some_iff.1 hi).1
   rw [List.getElem?_range (by simpa using hlt)] at hi
   cases hi
   obtain ⟨y,hy⟩:=hcs j (by simpa using hlt)
   exact h1 j y hy
 ·intro v hv
  obtain ⟨i,hi,rfl⟩:=List.mem_map.1 hv
  obtain ⟨y,hy⟩:=hcs i (by simpa using hi)
  exact (h3 i y hy).one
 ·intro j y hy
  simp only [List.getElem?_map,Option.map_eq_some_iff] at hy
  obtain ⟨z,hz,rfl⟩:=hy
  have hlt:j<sz:=by have:=(List.getElem?_eq_some_iff.1 hz).1;omega
  rw [h5 j hlt] at hz
  have e:((List.range sz).map f).getD j undef=f j:=z5o (by simp [hlt])
  rw [e]
  exact .p (h3 j z hz)
end
section
variable {P : Program} {cx : Cx} {n : Nat} {s : S} {a : Act} {w : World} {own : Nat → Value}
theorem Rl.frame (r:Rl P cx n s a w own) {n':Nat} {a':Act} {regs':List (Nat×AV)} (hd:a'.defers=[]) (hs:a'.tmps.size=n') (hr:∀ t x,get regs' t=some x->RepA w (Mu cx.M0 own s.objs) own (hwOf s.objs) x (a'.tmps.getD t undef)):Rl P cx n' ⟨regs',s.objs⟩ a' w own :=
 ⟨hd,hs,r.ok,hr,r.stp,r.fix,r.fr⟩
theorem Rl.fresh (r:Rl P cx n s a w own):Rl P ⟨w,cx.M0,own,s.objs⟩ n s a w own :=
 ⟨r.defs,r.size,r.ok,r.regs,Stp.refl _ _,fun _ _ _=>.same,Fr.refl _ _ _⟩
theorem Rl.lies (r:Rl P cx n s a w own) {M0:Nat->Nat->Prop} (hok:OK P cx.w0 M0 cx.own0 cx.objs0) {l:Nat} {ob:Obj} (hl:cx.w0.heap[l]?=some ob) (hh:Obj.held ob=false):w.heap[l]?=some ob:=by
 have hlt:=(Array.getElem?_eq_some_iff.1 hl).1
 rw [r.fr.keep l hlt (fun k o hk hb=>by
  obtain ⟨ob',h1,h2⟩:=zs8 (hok.obs k o hk) hb
  rw [hl] at h1;cases h1;rw [hh] at h2;cases h2)]
 exact hl
theorem zd0 {w:World} {l:Nat} {ob ob':Obj} (hl:w.heap[l]?=some ob) (h1:Obj.held ob=false) (h2:Obj.held ob'=false) (a:Addr):(w.putObj l ob').cell? a=w.cell? a:=by
 unfold World.cell?
 by_cases h:a.block=l
 ·rw [h,World.putObj_heap_same (Array.getElem?_eq_some_iff.1 hl).1,hl]
  cases ob<;>cases ob'<;>first | rfl | (cases h1;done) | (cases h2;done)
 ·rw [World.putObj_heap_other h]
theorem Rl.shift (r:Rl P cx n s a w own) {M0:Nat->Nat->Prop} (hok:OK P cx.w0 M0 cx.own0 cx.objs0) {l:Nat} {ob ob':Obj} (hl:cx.w0.heap[l]?=some ob) (hh:Obj.held ob=false) (hh':Obj.held ob'=false) :
  Rl P ⟨cx.w0.putObj l ob',cx.M0,cx.own0,cx.objs0⟩ n s a (w.putObj l ob') own:=by
 have hw:=r.lies hok hl hh
 have hlt:=(Array.getElem?_eq_some_iff.1 hl).1
 have hlt':=(Array.getElem?_eq_some_iff.1 hw).1
 have q:Quiet 0 w (w.putObj l ob'):=Quiet.putObj ob' hw hh (Nat.zero_le _)
 exact {
  defs:=r.defs
  size:=r.size
  ok:=r.ok.quiet q
  regs:=fun t x hx=>(r.regs t x hx).tr (q.stp _) fun _ _=>.same
  stp := {
   os:=r.stp.os
   tape:=r.stp.tape
   output:=r.stp.output
   size:=by have:=r.stp.size;simpa [World.putObj] using this
   cell:=fun b i v hM hc=>by
    simp only [zd0 hl hh hh',zd0 hw hh hh'] at hc ⊢
    exact r.stp.cell b i v hM hc
   mu:=fun b i h=>by
    rcases r.stp.mu b i h with h | h
    ·exact .inl h
    ·exact .inr (by simpa [World.putObj] using h)
   shape:=fun b cs T hc=>by
    by_cases h:b=l
    ·subst h
     simp only [World.putObj_heap_same hlt] at hc
     cases hc;cases hh'
    ·simp only [World.putObj_heap_other h] at hc ⊢
     exact r.stp.shape b cs T hc }
  fix:=r.fix
  fr := {
   keep:=fun b hb hn=>by
    by_cases h:b=l
    ·subst h;simp only [World.putObj_heap_same hlt,World.putObj_heap_same hlt']
    ·simp only [World.putObj_heap_other h]
     exact r.fr.keep b (by simpa [World.putObj] using hb) hn
   loc:=fun k o b h1 h2=>by have:=r.fr.loc k o b h1 h2;simpa [World.putObj] using this
   size:=by have:=r.fr.size;simpa [World.putObj] using this } }
end
theorem EqV.two {P:Program} {T I0:Nat} {f0 f1:Field} (hu:P.underlying T=some (.struct #[f0,f1])) (t0:f0.type=I0) (hi:P.underlying I0=some (.int .i64)) (o0:f0.offset=0) (t1:f1.type=I0) (o1:f1.offset=1) (n0:(f0.name != "_")=true) (n1:(f1.name != "_")=true)
  (hp:P.stoodInHeld T=false) (hg:P.eqGuardType P.depth T=false):EqV P T 2:=by
 refine ⟨fun w as0 bs h1 h2=>?_,hg⟩
 have hf:P.fieldsOf T=#[f0,f1]:=by simp [Program.fieldsOf,hu]
 rw [run_equalIn_struct w 9999 T _ _ (by rw [hf];exact hu) hp,hf]
 obtain ⟨a,a',rfl⟩:∃ a b,as0=[a,b]:=by
  match as0,h1 with
  | [a,b],_=>exact ⟨a,b,rfl⟩
 obtain ⟨b,b',rfl⟩:∃ a b,bs=[a,b]:=by
  match bs,h2 with
  | [a,b],_=>exact ⟨a,b,rfl⟩
 have q0:f0.name ≠ "_":=by simpa using n0
 have q1:f1.name ≠ "_":=by simpa using n1
 have p0:∀ (x y:Int),(part f0.type ([x,y].map (Value.int .i64)).toArray f0.offset).run P w=.ok (.int .i64 x) w:=fun x l=>by
  simp [part,isAgg,Sem.run_bind,t0,o0,run_underlying hi w]
 have p1:∀ (x y:Int),(part f1.type ([x,y].map (Value.int .i64)).toArray f1.offset).run P w=.ok (.int .i64 y) w:=fun x l=>by
  simp [part,isAgg,Sem.run_bind,t1,o1,run_underlying hi w]
 simp only [Op.eqFields,if_pos q0,if_pos q1,Sem.run_bind,p0,p1,Result.andThen_ok]
 have p1':=p1
 rw [t1] at p1'
 rw [t0,t1,run_equalIn_int w 9998 I0 .i64 .i64 a b hi]
 simp only [Result.andThen_ok]
 by_cases hab:a=b
 ·subst hab
  simp only [beq_self_eq_true,Bool.not_true,Bool.false_eq_true,if_false,Sem.run_bind,p1',Result.andThen_ok,run_equalIn_int w 9998 I0 .i64 .i64 a' b' hi]
  by_cases hr:a'=b'<;>simp [hr]
 ·have:(a==b)=false:=by simpa using hab
  simp [this,hab]
end Go.Ab
namespace Go.Ab.YtpneaijfkefeaaaGreat
open Go Go.RowKit Go.Ab Go.Proofs
def tab:Tab:=[(1,⟨1,8,false,.fn,[.fn]⟩),
 (2,⟨1,8,false,(.int .i64),[(.i .i64)]⟩),
 (3,⟨1,8,false,(.int .i64),[(.i .i64)]⟩),
 (4,⟨1,1,false,.bool,[.b]⟩),
 (5,⟨1,1,false,(.int .u8),[(.i .u8)]⟩),
 (6,⟨1,1,false,(.int .u8),[(.i .u8)]⟩),
 (7,⟨4,24,true,(.st [(0,2),(1,3),(2,4),(3,6)]),[(.i .i64),(.i .i64),.b,(.i .u8)]⟩),
 (8,⟨4,24,true,(.st [(0,2),(1,3),(2,4),(3,6)]),[(.i .i64),(.i .i64),.b,(.i .u8)]⟩),
 (9,⟨1,16,false,.str,[.s]⟩),
 (10,⟨1,16,false,.str,[.s]⟩),
 (11,⟨1,16,false,.str,[.s]⟩),
 (12,⟨1,8,false,(.int .u64),[(.i .u64)]⟩),
 (13,⟨2,24,true,(.st [(0,9),(1,12)]),[.s,(.i .u64)]⟩),
 (14,⟨2,24,true,(.st [(0,9),(1,12)]),[.s,(.i .u64)]⟩),
 (15,⟨1,8,false,(.ptr 251),[.pt]⟩),
 (16,⟨1,8,false,(.ptr 254),[.pt]⟩),
 (17,⟨1,8,false,(.ptr 263),[.pt]⟩),
 (18,⟨1,8,true,(.st [(0,17)]),[.pt]⟩),
 (19,⟨1,8,true,(.st [(0,17)]),[.pt]⟩),
 (20,⟨1,16,false,.ifc,[.ifc]⟩),
 (21,⟨1,4,false,(.int .i32),[(.i .i32)]⟩),
 (22,⟨1,24,false,(.sl 5),[.sl]⟩),
 (23,⟨1,2,false,(.int .u16),[(.i .u16)]⟩),
 (24,⟨1,8,false,.fn,[.fn]⟩),
 (25,⟨1,8,false,.fn,[.fn]⟩),
 (26,⟨1,24,false,(.sl 89),[.sl]⟩),
 (27,⟨2,32,true,(.st [(0,26),(1,3)]),[.sl,(.i .i64)]⟩),
 (28,⟨2,32,true,(.st [(0,26),(1,3)]),[.sl,(.i .i64)]⟩),
 (29,⟨1,8,false,(.ptr 28),[.pt]⟩),
 (30,⟨1,8,false,.fn,[.fn]⟩),
 (31,⟨1,8,false,.fn,[.fn]⟩),
 (32,⟨1,24,false,(.sl 74),[.sl]⟩),
 (33,⟨1,24,false,(.sl 35),[.sl]⟩),
 (34,⟨5,80,true,(.st [(0,3),(1,3),(2,9),(3,32),(4,33)]),[(.i .i64),(.i .i64),.s,.sl,.sl]⟩),
 (35,⟨5,80,true,(.st [(0,3),(1,3),(2,9),(3,32),(4,33)]),[(.i .i64),(.i .i64),.s,.sl,.sl]⟩),
 (36,⟨1,8,false,(.ptr 96),[.pt]⟩),
 (37,⟨1,8,false,.fn,[.fn]⟩),
 (38,⟨1,8,false,.fn,[.fn]⟩),
 (39,⟨2,16,true,(.st [(0,3),(1,3)]),[(.i .i64),(.i .i64)]⟩),
 (40,⟨2,16,true,(.st [(0,3),(1,3)]),[(.i .i64),(.i .i64)]⟩),
 (41,⟨1,8,false,.fn,[.fn]⟩),
 (42,⟨1,8,false,.fn,[.fn]⟩),
 (43,⟨1,8,false,.fn,[.fn]⟩),
 (44,⟨1,8,false,.fn,[.fn]⟩),
 (45,⟨1,8,false,.fn,[.fn]⟩),
 (46,⟨1,8,false,.fn,[.fn]⟩),
 (47,⟨1,8,false,(.ptr 176),[.pt]⟩),
 (49,⟨1,8,false,.fn,[.fn]⟩),
 (50,⟨1,8,false,(.int .i64),[(.i .i64)]⟩),
 (52,⟨1,8,false,.fn,[.fn]⟩),
 (53,⟨1,8,false,.fn,[.fn]⟩),
 (54,⟨1,8,false,.fn,[.fn]⟩),
 (55,⟨1,8,false,.fn,[.fn]⟩),
 (56,⟨1,8,false,.fn,[.fn]⟩),
 (57,⟨1,8,false,.fn,[.fn]⟩),
 (58,⟨1,8,false,.fn,[.fn]⟩),
 (59,⟨1,8,false,.fn,[.fn]⟩),
 (60,⟨1,8,false,.fn,[.fn]⟩),
 (62,⟨1,8,false,.fn,[.fn]⟩),
 (64,⟨1,8,false,.fn,[.fn]⟩),
 (65,⟨1,8,false,.fn,[.fn]⟩),
 (66,⟨1,8,false,.fn,[.fn]⟩),
 (67,⟨1,8,false,.fn,[.fn]⟩),
 (68,⟨1,8,false,.fn,[.fn]⟩),
 (69,⟨1,8,false,.fn,[.fn]⟩),
 (70,⟨1,8,false,.fn,[.fn]⟩),
 (71,⟨1,8,false,.fn,[.fn]⟩),
 (72,⟨1,8,false,.fn,[.fn]⟩),
 (73,⟨3,40,true,(.st [(0,3),(1,3),(2,32)]),[(.i .i64),(.i .i64),.sl]⟩),
 (74,⟨3,40,true,(.st [(0,3),(1,3),(2,32)]),[(.i .i64),(.i .i64),.sl]⟩),
 (75,⟨1,8,false,.fn,[.fn]⟩),
 (76,⟨1,8,false,.fn,[.fn]⟩),
 (77,⟨1,8,false,.fn,[.fn]⟩),
 (78,⟨1,8,false,.fn,[.fn]⟩),
 (79,⟨1,8,false,.fn,[.fn]⟩),
 (80,⟨1,8,false,.fn,[.fn]⟩),
 (81,⟨1,8,false,.fn,[.fn]⟩),
 (82,⟨1,8,false,.fn,[.fn]⟩),
 (83,⟨1,8,false,.fn,[.fn]⟩),
 (84,⟨1,8,false,.fn,[.fn]⟩),
 (85,⟨1,8,false,.fn,[.fn]⟩),
 (86,⟨1,8,false,.fn,[.fn]⟩),
 (87,⟨1,24,false,(.sl 156),[.sl]⟩),
 (88,⟨16,240,true,(.st [(0,3),(1,3),(2,3),(3,9),(4,9),(5,35),(10,35),(15,87)]),[(.i .i64),(.i .i64),(.i .i64),.s,.s,(.i .i64),(.i .i64),.s,.sl,.sl,(.i .i64),(.i .i64),.s,.sl,.sl,.sl]⟩),
 (89,⟨16,240,true,(.st [(0,3),(1,3),(2,3),(3,9),(4,9),(5,35),(10,35),(15,87)]),[(.i .i64),(.i .i64),(.i .i64),.s,.s,(.i .i64),(.i .i64),.s,.sl,.sl,(.i .i64),(.i .i64),.s,.sl,.sl,.sl]⟩),
 (91,⟨1,8,false,.fn,[.fn]⟩),
 (92,⟨1,8,false,.fn,[.fn]⟩),
 (93,⟨1,8,false,.fn,[.fn]⟩),
 (94,⟨1,8,false,.fn,[.fn]⟩),
 (95,⟨2,32,true,(.st [(0,22),(1,3)]),[.sl,(.i .i64)]⟩),
 (96,⟨2,32,true,(.st [(0,22),(1,3)]),[.sl,(.i .i64)]⟩),
 (97,⟨1,8,false,.fn,[.fn]⟩),
 (99,⟨1,8,false,.fn,[.fn]⟩),
 (100,⟨1,24,false,(.sl 9),[.sl]⟩),
 (101,⟨1,8,false,.fn,[.fn]⟩),
 (103,⟨1,8,false,.fn,[.fn]⟩),
 (104,⟨1,8,false,.fn,[.fn]⟩),
 (105,⟨1,8,false,(.ptr 107),[.pt]⟩),
 (106,⟨3,24,true,(.st [(0,47),(1,40)]),[.pt,(.i .i64),(.i .i64)]⟩),
 (107,⟨3,24,true,(.st [(0,47),(1,40)]),[.pt,(.i .i64),(.i .i64)]⟩),
 (108,⟨1,8,true,(.st [(0,105)]),[.pt]⟩),
 (109,⟨1,8,true,(.st [(0,105)]),[.pt]⟩),
 (111,⟨1,8,false,.fn,[.fn]⟩),
 (112,⟨1,8,false,.fn,[.fn]⟩),
 (114,⟨1,8,false,.fn,[.fn]⟩),
 (116,⟨1,8,false,.fn,[.fn]⟩),
 (117,⟨1,8,false,.fn,[.fn]⟩),
 (118,⟨1,8,false,.fn,[.fn]⟩),
 (120,⟨1,8,false,.fn,[.fn]⟩),
 (121,⟨1,8,false,.fn,[.fn]⟩),
 (122,⟨18,256,true,(.st [(0,89),(16,3),(17,3)]),[(.i .i64),(.i .i64),(.i .i64),.s,.s,(.i .i64),(.i .i64),.s,.sl,.sl,(.i .i64),(.i .i64),.s,.sl,.sl,.sl,(.i .i64),(.i .i64)]⟩),
 (123,⟨18,256,true,(.st [(0,89),(16,3),(17,3)]),[(.i .i64),(.i .i64),(.i .i64),.s,.s,(.i .i64),(.i .i64),.s,.sl,.sl,(.i .i64),(.i .i64),.s,.sl,.sl,.sl,(.i .i64),(.i .i64)]⟩),
 (125,⟨1,8,false,.fn,[.fn]⟩),
 (126,⟨1,8,false,.fn,[.fn]⟩),
 (128,⟨1,8,false,.fn,[.fn]⟩),
 (130,⟨1,8,false,.fn,[.fn]⟩),
 (131,⟨1,8,false,.fn,[.fn]⟩),
 (132,⟨1,8,false,.fn,[.fn]⟩),
 (134,⟨1,8,false,.fn,[.fn]⟩),
 (135,⟨1,8,false,.fn,[.fn]⟩),
 (136,⟨1,8,false,.fn,[.fn]⟩),
 (137,⟨1,8,false,.fn,[.fn]⟩),
 (138,⟨1,8,false,.fn,[.fn]⟩),
 (139,⟨1,8,false,.fn,[.fn]⟩),
 (140,⟨1,8,false,.fn,[.fn]⟩),
 (141,⟨1,8,false,.fn,[.fn]⟩),
 (142,⟨1,8,false,.fn,[.fn]⟩),
 (143,⟨1,8,false,.fn,[.fn]⟩),
 (145,⟨1,8,false,.fn,[.fn]⟩),
 (146,⟨1,8,false,.fn,[.fn]⟩),
 (147,⟨1,8,false,.fn,[.fn]⟩),
 (148,⟨1,24,false,(.sl 3),[.sl]⟩),
 (149,⟨1,24,false,(.sl 193),[.sl]⟩),
 (150,⟨8,112,true,(.st [(0,3),(1,3),(2,74),(5,4),(6,148),(7,149)]),[(.i .i64),(.i .i64),(.i .i64),(.i .i64),.sl,.b,.sl,.sl]⟩),
 (151,⟨8,112,true,(.st [(0,3),(1,3),(2,74),(5,4),(6,148),(7,149)]),[(.i .i64),(.i .i64),(.i .i64),(.i .i64),.sl,.b,.sl,.sl]⟩),
 (153,⟨1,8,false,.fn,[.fn]⟩),
 (154,⟨1,8,false,.fn,[.fn]⟩),
 (155,⟨6,96,true,(.st [(0,9),(1,35)]),[.s,(.i .i64),(.i .i64),.s,.sl,.sl]⟩),
 (156,⟨6,96,true,(.st [(0,9),(1,35)]),[.s,(.i .i64),(.i .i64),.s,.sl,.sl]⟩),
 (157,⟨1,8,false,.fn,[.fn]⟩),
 (158,⟨1,8,false,.fn,[.fn]⟩),
 (159,⟨1,8,false,.fn,[.fn]⟩),
 (160,⟨1,8,false,.fn,[.fn]⟩),
 (161,⟨1,8,false,(.ptr 163),[.pt]⟩),
 (162,⟨6,56,true,(.st [(0,9),(1,3),(2,50),(3,3),(4,3),(5,3)]),[.s,(.i .i64),(.i .i64),(.i .i64),(.i .i64),(.i .i64)]⟩),
 (163,⟨6,56,true,(.st [(0,9),(1,3),(2,50),(3,3),(4,3),(5,3)]),[.s,(.i .i64),(.i .i64),(.i .i64),(.i .i64),(.i .i64)]⟩),
 (164,⟨1,8,false,.fn,[.fn]⟩),
 (165,⟨1,8,false,.fn,[.fn]⟩),
 (166,⟨1,8,false,.fn,[.fn]⟩),
 (167,⟨1,8,false,.fn,[.fn]⟩),
 (168,⟨1,8,false,.fn,[.fn]⟩),
 (169,⟨1,8,false,.fn,[.fn]⟩),
 (170,⟨1,8,false,.fn,[.fn]⟩),
 (171,⟨1,24,false,(.sl 148),[.sl]⟩),
 (172,⟨1,8,false,.fn,[.fn]⟩),
 (173,⟨1,8,false,.fn,[.fn]⟩),
 (174,⟨1,8,false,(.map 9 3),[.mp]⟩),
 (175,⟨4,64,true,(.st [(0,26),(1,26),(2,174),(3,174)]),[.sl,.sl,.mp,.mp]⟩),
 (176,⟨4,64,true,(.st [(0,26),(1,26),(2,174),(3,174)]),[.sl,.sl,.mp,.mp]⟩),
 (177,⟨1,8,false,.fn,[.fn]⟩),
 (178,⟨1,8,false,.fn,[.fn]⟩),
 (179,⟨1,8,false,.fn,[.fn]⟩),
 (180,⟨1,8,false,(.ptr 182),[.pt]⟩),
 (181,⟨1,8,true,(.st [(0,3)]),[(.i .i64)]⟩),
 (182,⟨1,8,true,(.st [(0,3)]),[(.i .i64)]⟩),
 (183,⟨1,8,false,.fn,[.fn]⟩),
 (185,⟨1,8,false,.fn,[.fn]⟩),
 (186,⟨1,8,false,.fn,[.fn]⟩),
 (187,⟨1,8,false,.fn,[.fn]⟩),
 (188,⟨1,8,false,.fn,[.fn]⟩),
 (190,⟨1,8,false,.fn,[.fn]⟩),
 (191,⟨1,8,false,.fn,[.fn]⟩),
 (192,⟨1,8,false,.fn,[.fn]⟩),
 (193,⟨1,24,false,(.sl 4),[.sl]⟩),
 (195,⟨1,8,false,.fn,[.fn]⟩),
 (196,⟨1,8,false,.fn,[.fn]⟩),
 (197,⟨1,8,false,(.ptr 3),[.pt]⟩),
 (199,⟨1,8,false,.fn,[.fn]⟩),
 (201,⟨1,8,false,.fn,[.fn]⟩),
 (202,⟨1,8,false,.fn,[.fn]⟩),
 (203,⟨1,8,false,.fn,[.fn]⟩),
 (204,⟨1,8,false,.fn,[.fn]⟩),
 (205,⟨1,8,false,.fn,[.fn]⟩),
 (206,⟨1,8,false,.fn,[.fn]⟩),
 (207,⟨1,8,false,.fn,[.fn]⟩),
 (208,⟨1,8,false,.fn,[.fn]⟩),
 (209,⟨1,8,false,.fn,[.fn]⟩),
 (210,⟨1,8,false,.fn,[.fn]⟩),
 (211,⟨4,32,true,(.arr 4 3),[(.i .i64),(.i .i64),(.i .i64),(.i .i64)]⟩),
 (212,⟨5,40,true,(.st [(0,3),(1,211)]),[(.i .i64),(.i .i64),(.i .i64),(.i .i64),(.i .i64)]⟩),
 (213,⟨5,40,true,(.st [(0,3),(1,211)]),[(.i .i64),(.i .i64),(.i .i64),(.i .i64),(.i .i64)]⟩),
 (214,⟨1,8,false,.fn,[.fn]⟩),
 (215,⟨1,8,false,.fn,[.fn]⟩),
 (216,⟨1,8,false,.fn,[.fn]⟩),
 (217,⟨1,8,false,.fn,[.fn]⟩),
 (218,⟨1,8,false,.fn,[.fn]⟩),
 (219,⟨1,8,false,.fn,[.fn]⟩),
 (220,⟨1,8,false,.fn,[.fn]⟩),
 (221,⟨1,8,false,.fn,[.fn]⟩),
 (222,⟨1,8,false,.fn,[.fn]⟩),
 (223,⟨1,8,false,.fn,[.fn]⟩),
 (224,⟨1,8,false,.fn,[.fn]⟩),
 (225,⟨1,8,false,(.ptr 89),[.pt]⟩),
 (226,⟨1,8,false,.fn,[.fn]⟩),
 (227,⟨1,8,false,.fn,[.fn]⟩),
 (228,⟨1,8,false,.fn,[.fn]⟩),
 (229,⟨1,8,false,.fn,[.fn]⟩),
 (230,⟨1,8,false,.fn,[.fn]⟩),
 (231,⟨1,8,false,.fn,[.fn]⟩),
 (232,⟨1,8,false,.fn,[.fn]⟩),
 (233,⟨1,8,false,(.int .u64),[(.i .u64)]⟩),
 (234,⟨1,8,false,.fn,[.fn]⟩),
 (235,⟨9,128,true,(.st [(0,35),(5,33),(6,225),(7,3),(8,3)]),[(.i .i64),(.i .i64),.s,.sl,.sl,.sl,.pt,(.i .i64),(.i .i64)]⟩),
 (236,⟨9,128,true,(.st [(0,35),(5,33),(6,225),(7,3),(8,3)]),[(.i .i64),(.i .i64),.s,.sl,.sl,.sl,.pt,(.i .i64),(.i .i64)]⟩),
 (238,⟨1,8,false,.fn,[.fn]⟩),
 (239,⟨1,8,false,.fn,[.fn]⟩),
 (240,⟨1,8,false,.fn,[.fn]⟩),
 (241,⟨1,8,false,.fn,[.fn]⟩),
 (242,⟨1,8,false,.fn,[.fn]⟩),
 (243,⟨1,8,false,.fn,[.fn]⟩),
 (244,⟨1,8,false,.fn,[.fn]⟩),
 (245,⟨1,8,false,.fn,[.fn]⟩),
 (246,⟨1,8,false,.fn,[.fn]⟩),
 (247,⟨1,8,false,.fn,[.fn]⟩),
 (248,⟨1,8,false,.fn,[.fn]⟩),
 (249,⟨1,8,false,.fn,[.fn]⟩),
 (250,⟨4,40,true,(.st [(0,17),(1,17),(2,17),(3,9)]),[.pt,.pt,.pt,.s]⟩),
 (251,⟨4,40,true,(.st [(0,17),(1,17),(2,17),(3,9)]),[.pt,.pt,.pt,.s]⟩),
 (252,⟨0,0,true,(.arr 0 16),[]⟩),
 (253,⟨0,0,true,(.st [(0,252)]),[]⟩),
 (254,⟨0,0,true,(.st [(0,252)]),[]⟩),
 (255,⟨1,4,false,(.int .u32),[(.i .u32)]⟩),
 (256,⟨1,1,false,(.int .u8),[(.i .u8)]⟩),
 (257,⟨1,1,false,(.int .u8),[(.i .u8)]⟩),
 (258,⟨1,8,false,.fn,[.fn]⟩),
 (259,⟨1,8,false,(.ptr 5),[.pt]⟩),
 (260,⟨1,4,false,(.int .i32),[(.i .i32)]⟩),
 (261,⟨1,4,false,(.int .i32),[(.i .i32)]⟩),
 (262,⟨11,48,true,(.st [(0,12),(1,12),(2,255),(3,256),(4,5),(5,5),(6,257),(7,258),(8,259),(9,260),(10,261)]),[(.i .u64),(.i .u64),(.i .u32),(.i .u8),(.i .u8),(.i .u8),(.i .u8),.fn,.pt,(.i .i32),(.i .i32)]⟩),
 (263,⟨11,48,true,(.st [(0,12),(1,12),(2,255),(3,256),(4,5),(5,5),(6,257),(7,258),(8,259),(9,260),(10,261)]),[(.i .u64),(.i .u64),(.i .u32),(.i .u8),(.i .u8),(.i .u8),(.i .u8),.fn,.pt,(.i .i32),(.i .i32)]⟩)]
theorem htab:tabB Tryz.prog tab=true:=by kernel_rfl
def fbs:List Nat:=[3,4,5,6,7,8,9,10,11,12,13,14,15,16,17,18,19,20,21,22,23,24,25,26,27,28,29,30,31,32,33,34,35,36,37,38,39,40,41,42,43,44,45,46,47,48,49,50,51,52,53,54,55,56,57,58,59,60,61,62,63,64,65,66,67,68,69,70,71,72,73,74,75,76,77,78,79,80,81,82,83,84,85,86,87,88,89,90,91,92,93,94,95,96,97,98,99,100,101,102,103,104,105,106,107,108,109,110,111,112,113,114,115,116,117,118,119,120,121,122,123,124,125,126,127,128,129,130,131,132,133,134,135,136,137,138,139,140,141,142,143,144,145,146,147,148,149,150,151,152,153,154,155,156,157,158,159,160,161,162,163,164,165,166,167,168,169,170,171,172,173,174,175,176,177,178,179,180,181,182,183,184,185,186,187,188,189,190,191,192,194,195,196,197,198,199,200,201,202,203,204,205,206,207,208,209,210,211,212,213,214,215,216,217,218,219,220,221,222,223,224,225,226,227,228,229,230,231,232,233,234,235,236,237,238,239,240,241,242,243,244]
theorem hfb:fbB Tryz.prog fbs=true:=by kernel_rfl
def ccs:List Nat:=[174]
theorem hcc:ccB Tryz.prog ccs=true:=by kernel_rfl
def cls:List Nat:=[193,1000004002,1000021305]
theorem hcl:∀ f,mem f cls=true->ClP Tryz.prog f:=fun f hf=>by
 simp only [cls,mem,Bool.or_eq_true,Bool.false_eq_true,or_false] at hf
 rcases hf with hf | hf | hf
 ·obtain rfl:=Nat.eq_of_beq_eq_true hf
  exact ⟨fun _=>⟨fun w args=>run_callFunc_extern Tryz.func193 (by kernel_rfl) (by kernel_rfl) (by kernel_rfl) (by kernel_rfl) args w⟩,fun g hg=>by omega,fun T m hT=>by omega⟩
 ·obtain rfl:=Nat.eq_of_beq_eq_true hf
  refine ⟨fun h=>absurd h (by decide),fun g hg hl=>?_,fun T m hT hm=>?_⟩
  ·have hl':g<900000000:=by simpa using hl
   omega
  ·have hm':m<100:=by simpa using hm
   obtain ⟨rfl,rfl⟩:T=40/\m=2:=by omega
   exact EqV.two Tryz.underlying40 rfl Tryz.underlying3 rfl rfl rfl (by decide) (by decide) (by kernel_rfl) (by kernel_rfl)
 ·obtain rfl:=Nat.eq_of_beq_eq_true hf
  refine ⟨fun h=>absurd h (by decide),fun g hg hl=>?_,fun T m hT hm=>?_⟩
  ·have hl':g<900000000:=by simpa using hl
   omega
  ·have hm':m<100:=by simpa using hm
   obtain ⟨rfl,rfl⟩:T=213/\m=5:=by omega
   exact EqV.flat (m:=4) Tryz.underlying213 rfl Tryz.underlying3 rfl rfl rfl (by decide) (by decide) Tryz.underlying211 Tryz.underlying3 (zt htab (T:=3) rfl).ti (zt htab (T:=211) rfl).ti (by kernel_rfl) (by kernel_rfl)
theorem hmo:Tryz.prog.follows .mixedOrders=true:=by kernel_rfl
abbrev En0 (n:Nat) (k0 own hs keep:List Nat):En:=⟨tab,fbs,n,k0,own,hs,keep,ccs,cls⟩
theorem cv {f:Nat} {fn:Func} {c:Code} {args:List AV} {objs:Obs} {R:AV->Obs->Prop} (own hs keep:List Nat) (hf:Tryz.prog.funcs[f]?=some fn) (n:Nat) (hn:fn.ntmps=n) (hb:fn.body=some c) (hle:Nat.ble args.length n=true)
  (h:∀ cx:Cx,EnK Tryz.prog cx n tab fbs n (objs.map (·.1)) ccs cls->vcC Tryz.prog cx n (En0 n (objs.map (·.1)) own hs keep) c (endV (En0 n (objs.map (·.1)) own hs keep) fn R) (zf3 args 0) objs):Con Tryz.prog f args objs R :=
 con_v htab hfb hmo hcc hcl own hs keep hf n hn hb hle h
end Go.Ab.YtpneaijfkefeaaaGreat
namespace Go.Ab
open Go Go.RowKit
mutual
def putF (by_:List Lvl):Lvl->Lvl
 | ⟨k,n,l⟩=>if k=4/\0<=n/\n<by_.length then by_.getD n.toNat ⟨0,0,[]⟩ else ⟨k,n,putFs by_ l⟩
def putFs (by_:List Lvl):List Lvl->List Lvl
 | []=>[]
 | a::r=>putF by_ a::putFs by_ r
end
theorem zd1 (by_:List Lvl) (t:Lvl):putF by_ t=if t.kind=4/\0<=t.n/\t.n<by_.length then by_.getD t.n.toNat ⟨0,0,[]⟩ else ⟨t.kind,t.n,putFs by_ t.args⟩:=by cases t;rfl
mutual
theorem zbh:∀ t:Lvl,putF [] t=t
 | ⟨k,n,l⟩=>by
   simp only [putF]
   rw [if_neg (by rintro ⟨_,h1,h2⟩;simp at h2;omega),zd2 l]
theorem zd2:∀ l:List Lvl,putFs [] l=l
 | []=>rfl
 | a::r=>by simp only [putFs,zbh a,zd2 r]
end
mutual
def narL:Lvl->Bool
 | ⟨_,_,l⟩=>decide (l.length<=3518437208883)&&narLs l
def narLs:List Lvl->Bool
 | []=>true
 | a::r=>narL a&&narLs r
end
theorem zlo {t:Lvl} (h:narL t=true):t.args.length<=3518437208883:=by
 cases t;simp only [narL,Bool.and_eq_true] at h;exact of_decide_eq_true h.1
theorem zd3:∀ {l:List Lvl},narLs l=true->∀ a∈l,narL a=true
 | [],_,a,h=>by cases h
 | b::r,h,a,hm=>by
   simp only [narLs,Bool.and_eq_true] at h
   rcases List.mem_cons.1 hm with rfl | hm
   ·exact h.1
   ·exact zd3 h.2 a hm
theorem zlp {t a:Lvl} (h:narL t=true) (ha:a∈t.args):narL a=true:=by
 cases t;simp only [narL,Bool.and_eq_true] at h;exact zd3 h.2 a ha
mutual
def narT:Trm->Bool
 | ⟨_,_,_,ls,l⟩=>decide (ls.length<=3518437208883)&&narLs ls&&decide (l.length<=1759218604441)&&narTs l
def narTs:List Trm->Bool
 | []=>true
 | a::r=>narT a&&narTs r
end
theorem zzx (t:Trm):narT t=(decide (t.levels.length<=3518437208883)&&narLs t.levels&&decide (t.args.length<=1759218604441)&&narTs t.args):=by cases t;rfl
theorem ziu:∀ {l:List Trm},narTs l=true->∀ a∈l,narT a=true
 | [],_,a,h=>by cases h
 | b::r,h,a,hm=>by
   simp only [narTs,Bool.and_eq_true] at h
   rcases List.mem_cons.1 hm with rfl | hm
   ·exact h.1
   ·exact ziu h.2 a hm
theorem zwo {t:Trm} (h:narT t=true):t.levels.length<=3518437208883/\(∀ l∈t.levels,narL l=true)/\t.args.length<=1759218604441/\∀ a∈t.args,narT a=true:=by
 rw [zzx] at h
 simp only [Bool.and_eq_true,decide_eq_true_eq] at h
 exact ⟨h.1.1.1,zd3 h.1.1.2,h.1.2,ziu h.2⟩
theorem zaf {l:List Lvl} {n:Int} (h0:0<=n) (h1:n<l.length):rowAt (encLs l) n=rowL (l.getD n.toNat ⟨0,0,[]⟩)/\l.getD n.toNat ⟨0,0,[]⟩∈l:=by
 have h:n.toNat<l.length:=by omega
 refine ⟨?_,?_⟩
 ·simp [rowAt,z1i,List.getD_eq_getElem?_getD,h]
 ·simp [List.getD_eq_getElem?_getD,h]
theorem z1o {by_:List Lvl}:∀ l:List Lvl,putFs by_ l=l.map (putF by_)
 | []=>rfl
 | a::r=>by simp [putFs,z1o r]
mutual
def lvsT (by_:List Lvl):Trm->Trm
 | ⟨k,n,s,ls,l⟩=>⟨k,n,s,putFs by_ ls,lvsTs by_ l⟩
def lvsTs (by_:List Lvl):List Trm->List Trm
 | []=>[]
 | a::r=>lvsT by_ a::lvsTs by_ r
end
theorem zag (by_:List Lvl) (t:Trm):lvsT by_ t=⟨t.kind,t.n,t.name,putFs by_ t.levels,lvsTs by_ t.args⟩:=by cases t;rfl
theorem z3s {by_:List Lvl}:∀ l:List Trm,lvsTs by_ l=l.map (lvsT by_)
 | []=>rfl
 | a::r=>by simp [lvsTs,z3s r]
mutual
theorem z8x:∀ t:Trm,lvsT [] t=t
 | ⟨k,n,s,ls,l⟩=>by simp only [lvsT,zd2,z6j l]
theorem z6j:∀ l:List Trm,lvsTs [] l=l
 | []=>rfl
 | a::r=>by simp only [lvsTs,z8x a,z6j r]
end
def letF (c:Int):Bool:=(decide (97<=c)&&decide (c<=122)) || (decide (65<=c)&&decide (c<=90))
def digF (c:Int):Bool:=decide (48<=c)&&decide (c<=57)
theorem zzy {s:ByteArray} (h:¬ s=⟨#[]⟩):0<s.size:=by
 rcases Nat.eq_zero_or_pos s.size with h0 | h0
 ·refine absurd ?_ h
  obtain ⟨a⟩:=s
  have:a.size=0:=h0
  rw [Array.eq_empty_of_size_eq_zero this]
 ·exact h0
def dotF (s:ByteArray) (n:Nat):Bool:=decide (bat s n=46)&&(decide (n+1<s.size)&&letF (bat s (n+1)))
def goF (s:ByteArray) (n:Nat):Bool:=letF (bat s n) || (digF (bat s n) || (decide (bat s n=95) || dotF s n))
def runL (s:ByteArray) (n:Nat):Nat:=if n<s.size/\n<=24/\goF s n=true then runL s (n+1) else n
termination_by s.size-n
decreasing_by omega
theorem zah (s:ByteArray) (n:Nat):runL s n=if n<s.size/\n<=24/\goF s n=true then runL s (n+1) else n:=by rw [runL]
def runF (s:ByteArray):Nat:=if 0<s.size/\letF (bat s 0)=true then runL s 1 else 0
def mayF (s:ByteArray):Bool:=decide (0<runF s/\runF s=s.size/\runF s<=24)
def argF (k:Int):Int:=if k=0\/k=1\/k=2 then 0 else if k=3\/k=4\/k=5 then 2 else if k=6 then 3 else -1
def wholP (t:Trm):Bool :=
 decide (argF t.kind=t.args.length)&&(decide (t.kind=0->0<=t.n/\t.n<=1073741824)&&(decide (¬ t.kind=0->t.n=0)&&(decide (¬ t.kind=2->t.name=⟨#[]⟩) &&
  (if t.kind=1 then decide (t.levels.length=1) else decide (t.kind=2\/t.levels.length=0)))))
mutual
def thrT (most:Int):Trm->Int->Bool×Int
 | ⟨k,m,s,ls,l⟩,n=>if n+1>most then (true,n+1) else if wholP ⟨k,m,s,ls,l⟩=true then thrTs most l (n+1) else (false,n+1)
def thrTs (most:Int):List Trm->Int->Bool×Int
 | [],n=>(true,n)
 | a::r,n=>if (thrT most a n).1=true then (if (thrT most a n).2>most then (true,(thrT most a n).2) else thrTs most r (thrT most a n).2) else (false,(thrT most a n).2)
end
theorem zzz (most:Int) (t:Trm) (n:Int):thrT most t n=if n+1>most then (true,n+1) else if wholP t=true then thrTs most t.args (n+1) else (false,n+1):=by cases t;rfl
mutual
theorem zs9 (most:Int):∀ (t:Trm) (n:Int),n<=most->n<(thrT most t n).2/\(thrT most t n).2<=most+1
 | ⟨k,m,s,ls,l⟩,n,h=>by
   simp only [thrT]
   split
   ·simp only;omega
   ·split
    ·have:=znf most l (n+1) (by omega);omega
    ·simp only;omega
theorem znf (most:Int):∀ (l:List Trm) (n:Int),n<=most->n<=(thrTs most l n).2/\(thrTs most l n).2<=most+1
 | [],n,h=>by simp only [thrTs];omega
 | a :: r,n,h=>by
   have h1:=zs9 most a n h
   simp only [thrTs]
   split
   ·split
    ·simp only;omega
    ·have:=znf most r (thrT most a n).2 (by omega);omega
   ·simp only;omega
end
structure Ctr where
 name:ByteArray
 ty:Trm
 deriving Inhabited
structure Dcl where
 kind:Int
 params:Int
 count:Int
 name:ByteArray
 family:ByteArray
 type:Trm
 value:Trm
 ctors:List Ctr
 deriving Inhabited
def rowC (c:Ctr):List PV:=[St c.name,I c.ty.kind,I c.ty.n,St c.ty.name,.sl 3 (encLs c.ty.levels),.sl 5 (encTs c.ty.args)]
def encCs (l:List Ctr):List (List PV):=l.map rowC
@[simp] theorem zd4 (l:List Ctr):(encCs l).length=l.length:=by simp [encCs]
def rowD (d:Dcl):List PV:=[I d.kind,I d.params,I d.count,St d.name,St d.family,I d.type.kind,I d.type.n,St d.type.name,.sl 3 (encLs d.type.levels),.sl 5 (encTs d.type.args),
 I d.value.kind,I d.value.n,St d.value.name,.sl 3 (encLs d.value.levels),.sl 5 (encTs d.value.args),.sl 6 (encCs d.ctors)]
def encDs (l:List Dcl):List (List PV):=l.map rowD
@[simp] theorem zd5 (l:List Dcl):(encDs l).length=l.length:=by simp [encDs]
def dv (d:Dcl):AV:=.ag [.p (I d.kind),.p (I d.params),.p (I d.count),.p (St d.name),.p (St d.family),.p (I d.type.kind),.p (I d.type.n),.p (St d.type.name),.p (.sl 3 (encLs d.type.levels)),.p (.sl 5 (encTs d.type.args)),
 .p (I d.value.kind),.p (I d.value.n),.p (St d.value.name),.p (.sl 3 (encLs d.value.levels)),.p (.sl 5 (encTs d.value.args)),.p (.sl 6 (encCs d.ctors))]
def narD (d:Dcl):Bool:=narT d.type&&(narT d.value&&(decide (d.ctors.length<=1000000000000)&&d.ctors.all fun c=>narT c.ty))
theorem zng {d:Dcl} (h:narD d=true):narT d.type=true/\narT d.value=true/\d.ctors.length<=1000000000000/\∀ c∈d.ctors,narT c.ty=true:=by
 unfold narD at h
 simp only [Bool.and_eq_true,decide_eq_true_eq] at h
 exact ⟨h.1,h.2.1,h.2.2.1,List.all_eq_true.1 h.2.2.2⟩
end Go.Ab
namespace Go.Ab.YtpneaijfkefeaaaGreat
open Go Go.RowKit Go.Ab Go.Proofs
theorem zlq (by_:List Lvl) (hby:∀ b∈by_,PCon Tryz.prog 213 [lv b,.p (.sl 3 [])] (lv b)) (t:Lvl):narL t=true->PCon Tryz.prog 213 [lv t,.p (.sl 3 (encLs by_))] (lv (putF by_ t)):=by
 intro hpt
 have ih:∀ a∈t.args,narL a=true->PCon Tryz.prog 213 [lv a,.p (.sl 3 (encLs by_))] (lv (putF by_ a)):=fun a ha h=>zlq by_ hby a h
 have hlp:=zlo hpt
 have hput:=zd1 by_ t
 have rest:∀ (hn:¬ (t.kind=4/\0<=t.n/\t.n<by_.length)),putF by_ t=⟨t.kind,t.n,t.args.map (putF by_)⟩:=fun hn=>by rw [hput,if_neg hn,z1o]
 refine cv [] [1] [] Tryz.func213 46 Tryz.ntmps213 rfl rfl fun cx hE=>?_
 refine seq0 [(22,.p (B (decide (t.kind=4/\0<=t.n/\t.n<by_.length))))] [] [22] [] [] hE rfl rfl rfl ?_ ?_
 ·repeat' (first | refine brS (fun _=>?_) (fun _=>?_) | refine fun _=>?_)
  all_goals have:=zq by_
  all_goals first | exact ⟨Sub.bf (by omega),rfl,rfl,trivial⟩ | exact ⟨Sub.bd (by omega),rfl,rfl,trivial⟩
 ·refine brS (fun hp=>?_) (fun hp=>?_)
  ·obtain ⟨hrow,hmem⟩:=zaf hp.2.1 hp.2.2
   refine idx1 hp.2.1 (by simp;omega) hrow ?_
   refine call0 (hby _ hmem) ?_
   exact ⟨by rw [hput,if_pos hp];rfl,rfl⟩
  ·refine fun _=>?_
   refine tokV 5 500 74 3 hE rfl rfl rfl ?_
   refine loopP t.args (fun p=>[(32,.p (I p.length)),(5,.ts 500 3 (encLs (p.map (putF by_))))]) (fun p=>[(500,.ar 74 3 (encLs (p.map (putF by_))).length)]) (fun _=>True) [32,5] [500] hE rfl rfl rfl ⟨Sub.refl _,Sub.refl _,rfl,rfl,rfl,trivial⟩ trivial (fun _=>?_) (fun p a q hl _=>?_)
   ·refine brLe ?_
    exact ⟨by rw [rest hp];rfl,rfl⟩
   ·have:=zj hl
    refine brL hl (idxL hl (call0 (ih a (zg hl) (zlp hpt (zg hl))) (app1 (by simp;omega) (by simp;omega) (And.intro (by omega) ?_))))
    exact ⟨trivial,Sub.i (by simp),Sub.tse (zcy t.args p _ a),ar_eq (by simp),rfl,rfl,trivial⟩
termination_by SizeOf.sizeOf t
decreasing_by exact Lvl.lt ha
theorem zq3 (t:Lvl) (h:narL t=true):PCon Tryz.prog 213 [lv t,.p (.sl 3 [])] (lv t):=by
 have:=zlq [] (fun b hb=>by cases hb) t h
 rw [zbh] at this
 exact this
theorem zsa (by_:List Lvl) (hby:∀ b∈by_,narL b=true) (t:Lvl) (h:narL t=true):PCon Tryz.prog 213 [lv t,.p (.sl 3 (encLs by_))] (lv (putF by_ t)) :=
 zlq by_ (fun b hb=>zq3 b (hby b hb)) t h
theorem zq4 (by_ ls:List Lvl) (hby:∀ b∈by_,narL b=true) (h:∀ l∈ls,narL l=true) (hl:ls.length<=3518437208883):PCon Tryz.prog 174 [.p (.sl 3 (encLs ls)),.p (.sl 3 (encLs by_))] (.p (.sl 3 (encLs (putFs by_ ls)))):=by
 rw [z1o]
 refine cv [] [] [] Tryz.func174 22 Tryz.ntmps174 rfl rfl fun cx hE=>fun hlen=>tokV 5 500 74 3 hE rfl rfl rfl ?_
 refine loopP ls (fun p=>[(10,.p (I p.length)),(5,.ts 500 3 (encLs (p.map (putF by_))))]) (fun p=>[(500,.ar 74 3 (encLs (p.map (putF by_))).length)]) (fun _=>True) [10,5] [500] hE rfl rfl rfl ⟨Sub.refl _,Sub.refl _,rfl,trivial⟩ trivial (fun _=>brLe ⟨rfl,rfl⟩) (fun p a q hl _=>?_)
 have:=zj hl
 refine brL hl (idxL hl (call0 (zsa by_ hby a (h a (zg hl))) (app1 (by simp;omega) (by simp;omega) (And.intro (by omega) ?_))))
 exact ⟨trivial,Sub.i (by simp),Sub.tse (zcy ls p _ a),ar_eq (by simp),trivial⟩
theorem zf4 (by_:List Lvl) (hby:∀ b∈by_,narL b=true) (t:Trm):narT t=true->PCon Tryz.prog 126 [tv t,.p (.sl 3 (encLs by_))] (tv (lvsT by_ t)):=by
 intro hpt
 obtain ⟨n1,n2,n3,n4⟩:=zwo hpt
 have ih:∀ a∈t.args,PCon Tryz.prog 126 [tv a,.p (.sl 3 (encLs by_))] (tv (lvsT by_ a)):=fun a ha=>zf4 by_ hby a (n4 a ha)
 rw [zag,z3s]
 refine cv [] [] [] Tryz.func126 30 Tryz.ntmps126 rfl rfl fun cx hE=>fun hlen=>tokV 5 500 35 5 hE rfl rfl rfl ?_
 refine loopP t.args (fun p=>[(11,.p (I p.length)),(5,.ts 500 5 (encTs (p.map (lvsT by_))))]) (fun p=>[(500,.ar 35 5 (encTs (p.map (lvsT by_))).length)]) (fun _=>True) [11,5] [500] hE rfl rfl rfl ⟨Sub.refl _,Sub.refl _,rfl,rfl,rfl,trivial⟩ trivial (fun _=>brTe ?_) (fun p a q hl _=>?_)
 ·exact call0 (zq4 by_ t.levels hby n2 n1) ⟨rfl,rfl⟩
 ·have:=zj hl
  refine brT' hl (idxT hl (call0 (ih a (zg hl)) (app1 (by simp;omega) (by simp;omega) (And.intro (by omega) ?_))))
  exact ⟨trivial,Sub.i (by simp),Sub.tse (zit p _ a),ar_eq (by simp),rfl,rfl,trivial⟩
termination_by SizeOf.sizeOf t
decreasing_by exact Trm.lt ha
theorem zgx (t:Trm) (h:narT t=true):PCon Tryz.prog 71 [tv t] (tv t):=by
 have hp:=zf4 [] (fun b hb=>by cases hb) t h
 rw [z8x] at hp
 exact cv [] [] [] Tryz.func71 5 Tryz.ntmps71 rfl rfl fun cx hE=>call0 hp ⟨rfl,rfl⟩
theorem zai (c:Int):PCon Tryz.prog 223 [.p (U8 c)] (.p (B (letF c))):=by
 refine cv [] [] [] Tryz.func223 17 Tryz.ntmps223 rfl rfl fun cx hE=>?_
 repeat' refine brS (fun _=>?_) (fun _=>?_)
 all_goals exact ⟨B_eq (by unfold letF;rw [Bool.eq_iff_iff];simp;omega),rfl⟩
theorem zsb (c:Int):PCon Tryz.prog 224 [.p (U8 c)] (.p (B (digF c))):=by
 refine cv [] [] [] Tryz.func224 9 Tryz.ntmps224 rfl rfl fun cx hE=>?_
 repeat' refine brS (fun _=>?_) (fun _=>?_)
 all_goals exact ⟨B_eq (by unfold digF;rw [Bool.eq_iff_iff];simp;omega),rfl⟩
theorem zz00 (s:ByteArray) (hs:s.size<=9223372036854775807):PCon Tryz.prog 191 [.p (St s)] (.p (I (runF s))):=by
 refine cv [] [6,7] [] Tryz.func191 60 Tryz.ntmps191 rfl rfl fun cx hE=>?_
 refine brS (fun hz=>?_) (fun hz=>?_)
 ·exact ⟨I_eq (by unfold runF;rw [if_neg (by rintro ⟨h1,h2⟩;subst hz;exact absurd h1 (by decide))];rfl),rfl⟩
 have hsz:=zzy hz
 refine And.intro (by omega) (call0 (zai _) (brB (fun hl=>?_) (fun hl=>?_)))
 ·exact ⟨I_eq (by unfold runF;rw [if_neg (by rintro ⟨h1,h2⟩;simp_all)];rfl),rfl⟩
 refine loop1 (fun (i:Nat)=>[(3,.p (I i))]) (fun _=>[]) (fun i=>1<=i/\i<=25/\i<=s.size/\runL s i=runL s 1) (fun i=>25-i) 1 [3] [] hE rfl rfl rfl ⟨Sub.refl _,trivial⟩ ⟨Nat.le_refl _,by omega,by omega,rfl⟩ fun i ⟨h1,h2,h3,h4⟩=>?_
 have hrun:runF s=runL s i:=by unfold runF;rw [if_pos ⟨hsz,by simpa using hl⟩,h4]
 refine brS (fun c1=>brS (fun c2=>?_) (fun c2=>?_)) (fun c1=>?_)
 case refine_2=>exact ⟨I_eq (by rw [hrun,zah,if_neg (by omega)]),rfl⟩
 case refine_3=>exact ⟨I_eq (by rw [hrun,zah,if_neg (by omega)]),rfl⟩
 refine And.intro (by omega) ?_
 have hb:(i:Int).toNat=i:=by omega
 refine seq0 [(5,.p (B (dotF s i)))] [] [5] [] [7] hE rfl rfl rfl ?_ ?_
 ·refine brS (fun d1=>?_) (fun d1=>?_)
  ·refine And.intro (by omega) (brS (fun d2=>And.intro (by omega) (And.intro (by omega) (call0 (zai _) ?_))) (fun d2=>?_))
   ·refine ⟨Sub.b ?_,trivial⟩
    have:((i:Int)+1).toNat=i+1:=by omega
    rw [this];rw [hb] at d1
    simp [dotF,d1,show i+1<s.size by omega]
   ·exact ⟨Sub.b (by simp [dotF,show ¬ i+1<s.size by omega]),trivial⟩
  ·rw [hb] at d1
   exact ⟨Sub.b (by simp [dotF,d1]),trivial⟩
 ·refine seq0 [(56,.p (B (!goF s i)))] [] [56] [] [] hE rfl rfl rfl ?_ ?_
  ·refine call0 (zai _) ?_
   rw [hb]
   refine brB (fun e1=>call0 (zsb _) (brB (fun e2=>?_) (fun e2=>?_))) (fun e1=>?_)
   ·rw [Bool.not_eq_true'] at e1 e2
    refine brS (fun e3=>?_) (fun e3=>?_)
    ·exact ⟨Sub.b (by simp [goF,e1,e2,e3]),trivial⟩
    ·exact ⟨Sub.b (by simp [goF,e1,e2,show bat s i=95 by simpa using e3]),trivial⟩
   ·rw [Bool.not_eq_true'] at e1
    exact ⟨Sub.b (by simp [goF,e1,show digF (bat s i)=true by simpa using e2]),trivial⟩
   ·exact ⟨Sub.b (by simp [goF,show letF (bat s i)=true by simpa using e1]),trivial⟩
  ·refine brB (fun hg=>?_) (fun hg=>And.intro (by omega) ?_)
   ·exact ⟨I_eq (by rw [hrun,zah,if_neg (by rintro ⟨_,_,h⟩;simp [h] at hg)]),rfl⟩
   ·exact ⟨i+1,⟨by omega,by omega,by omega,by rw [<- h4,zah s i,if_pos ⟨by omega,by omega,by simpa using hg⟩]⟩,by omega,Sub.i (by omega),trivial⟩
theorem zz01 (s:ByteArray) (hs:s.size<=9223372036854775807):PCon Tryz.prog 143 [.p (St s)] (.p (B (mayF s))):=by
 refine cv [] [] [] Tryz.func143 18 Tryz.ntmps143 rfl rfl fun cx hE=>call0 (zz00 s hs) ?_
 repeat' refine brS (fun _=>?_) (fun _=>?_)
 all_goals exact ⟨B_eq (by unfold mayF;rw [Bool.eq_iff_iff];simp;omega),rfl⟩
theorem zwp (k:Int):PCon Tryz.prog 227 [.p (I k)] (.p (I (argF k))):=by
 refine cv [] [] [] Tryz.func227 14 Tryz.ntmps227 rfl rfl fun cx hE=>?_
 repeat' refine brS (fun _=>?_) (fun _=>?_)
 all_goals exact ⟨I_eq (by unfold argF;split<;>omega),rfl⟩
theorem zsc (t:Trm):PCon Tryz.prog 203 [tv t] (.p (B (wholP t))):=by
 have hl1:=zc t.args
 have hl2:=zq t.levels
 refine cv [] [] [] Tryz.func203 59 Tryz.ntmps203 rfl rfl fun cx hE=>?_
 refine call0 (zwp _) ?_
 repeat' (first | refine brS (fun _=>?_) (fun _=>?_) | refine brN (fun _=>?_) (fun _=>?_) | refine fun _=>?_)
 all_goals exact ⟨B_eq (by rw [Bool.eq_iff_iff];unfold wholP;simp only [zc,zq] at *;first | (simp_all;done) | (simp_all;omega)),rfl⟩
theorem zd6 (t:Trm):∀ (n most:Int),0<=n->n<=most->most<=1048576 ->
  Con Tryz.prog 164 [tv t,.ptr 1000 0,.p (I most)] [(1000,.ce 3 [.p (I n)])] (fun r o=>r=.p (B (thrT most t n).1)/\o=[(1000,.ce 3 [.p (I (thrT most t n).2)])]):=by
 intro n most hn0 hn1 hm
 have ih:∀ a∈t.args,∀ (n:Int),0<=n->n<=most->Con Tryz.prog 164 [tv a,.ptr 1000 0,.p (I most)] [(1000,.ce 3 [.p (I n)])] (fun r o=>r=.p (B (thrT most a n).1)/\o=[(1000,.ce 3 [.p (I (thrT most a n).2)])]) :=
  fun a ha n h0 h1=>zd6 a n most h0 h1 hm
 have hth:=zzz most t n
 refine cv [] [] [1000] Tryz.func164 40 Tryz.ntmps164 rfl rfl fun cx hE=>And.intro (by omega) (brS (fun h0=>?_) (fun h0=>?_))
 ·exact ⟨by rw [hth,if_pos h0],by rw [hth,if_pos h0]⟩
 rw [if_neg h0] at hth
 refine call0 (zsc t) (brB (fun hw=>?_) (fun hw=>fun hl=>?_))
 ·rw [if_neg (by simpa using hw)] at hth
  exact ⟨by rw [hth],by rw [hth]⟩
 rw [if_pos (by simpa using hw)] at hth
 refine loop3 (fun (p q:List Trm) (m:Int)=>[(25,.p (I p.length))]) (fun p q m=>[(1000,.ce 3 [.p (I m)])]) (fun p q m=>t.args=p++q/\0<=m/\m<=most/\thrT most t n=thrTs most q m) (fun p q m=>q.length) [] t.args (n+1) [25] [1000] hE rfl rfl rfl ⟨Sub.refl _,rfl,rfl,trivial⟩ ⟨rfl,by omega,by omega,hth⟩ fun p q m ⟨e1,e2,e3,e4⟩=>?_
 cases q with
 | nil=>exact brOut (by simp [e1]) ⟨by rw [e4];rfl,by rw [e4];rfl⟩
 | cons a q =>
   have hle:=zs9 most a m e3
   have hss:thrTs most (a::q) m=if (thrT most a m).1=true then (if (thrT most a m).2>most then (true,(thrT most a m).2) else thrTs most q (thrT most a m).2) else (false,(thrT most a m).2):=rfl
   refine brT' e1 (idxT e1 (call1 [1000] (ih a (zg e1) m e2 e3) rfl rfl (za _) (brB (fun hb=>?_) (fun hb=>?_))))
   ·rw [Bool.not_eq_true'] at hb
    rw [hss,if_neg (by rw [hb];simp)] at e4
    exact ⟨by rw [e4],by rw [e4]⟩
   ·rw [Bool.not_eq_false'] at hb
    rw [hss,if_pos hb] at e4
    have:=zj e1
    refine brS (fun hm2=>?_) (fun hm2=>And.intro (by simp at hl;omega) ?_)
    ·rw [if_pos hm2] at e4
     exact ⟨by rw [e4],by rw [e4]⟩
    ·rw [if_neg hm2] at e4
     exact ⟨p++[a],q,(thrT most a m).2,⟨by simp [e1],by omega,by omega,e4⟩,by simp,Sub.i (by simp),rfl,rfl,trivial⟩
termination_by SizeOf.sizeOf t
decreasing_by exact Trm.lt ha
theorem ziv (t:Trm) (most:Int) (hm0:0<=most) (hm1:most<=1048576):PCon Tryz.prog 119 [tv t,.p (I most)] (.tp [.p (I (thrT most t 0).2),.p (B (thrT most t 0).1)]):=by
 refine cv [] [] [] Tryz.func119 13 Tryz.ntmps119 rfl rfl fun cx hE=>?_
 refine callX [6] ((zd6 t 0 most (by omega) (by omega) hm1).sw 1000 6) rfl rfl (za _) fun r o ⟨_,_,⟨e1,e2⟩,e3,e4⟩=>?_
 subst e1 e2 e3 e4
 exact ⟨rfl,rfl⟩
theorem zwq (d:Dcl) (h:narD d=true):PCon Tryz.prog 146 [dv d] (dv d):=by
 obtain ⟨n1,n2,n3,n4⟩:=zng h
 refine cv [] [] [] Tryz.func146 34 Tryz.ntmps146 rfl rfl fun cx hE=>call0 (zgx d.type n1) (call0 (zgx d.value n2) ?_)
 refine fun hl=>tokV 3 500 156 6 hE rfl rfl rfl ?_
 refine loopP d.ctors (fun p=>[(17,.p (I p.length)),(3,.ts 500 6 (encCs p))]) (fun p=>[(500,.ar 156 6 (encCs p).length)]) (fun _=>True) [17,3] [500] hE rfl rfl rfl ⟨Sub.refl _,Sub.refl _,rfl,rfl,rfl,trivial⟩ trivial (fun _=>brOut (by simp) ⟨rfl,rfl⟩) (fun p a q hl _=>?_)
 have:=zj hl
 refine brIn (by simp [hl]) (idxN (z1w (f:=rowC) hl) (call0 (zgx a.ty (n4 a (zg hl))) (app1 (by simp;omega) (by simp;omega) (And.intro (by omega) ?_))))
 exact ⟨trivial,Sub.i (by simp),Sub.tse (by simp [encCs,rowC]),ar_eq (by simp),rfl,rfl,trivial⟩
end Go.Ab.YtpneaijfkefeaaaGreat
namespace Go.Ab
open Go Go.RowKit
def okW (t:Trm):Bool:=(thrT 1048576 t 0).1&&decide ((thrT 1048576 t 0).2<=1048576)
def trmsD (d:Dcl):List Trm:=d.type::d.value::d.ctors.map (·.ty)
def okD (d:Dcl):Bool:=(trmsD d).all okW
def plc:List Dcl->Nat->List (ByteArray×Int)
 | [],_=>[]
 | d::l,i=>(d.name,((i:Int)+1))::plc l (i+1)
def oddL:List Dcl->List (ByteArray×Int)
 | []=>[]
 | d::l=>if okD d=true then oddL l else (d.name,1)::oddL l
theorem zz02 (l m:List Dcl) (i:Nat):plc (l++m) i=plc l i++plc m (i+l.length):=by
 induction l generalizing i with
 | nil=>simp [plc]
 | cons d l ih=>simp only [List.cons_append,plc,ih,List.length_cons];congr 3;omega
theorem zgy (l m:List Dcl):oddL (l++m)=oddL l++oddL m:=by
 induction l with
 | nil=>rfl
 | cons d l ih=>simp only [List.cons_append,oddL];split<;>simp [ih]
def zz (l:List Dcl):List ByteArray:=l.map (·.name)
theorem ziw {l:List (ByteArray×Int)} {k:ByteArray} {v:Int} (h:k ∉ l.map (·.1)):mpPut l k v=l++[(k,v)]:=by
 induction l with
 | nil=>rfl
 | cons p l ih =>
   obtain ⟨s,x⟩:=p
   simp only [List.map_cons,List.mem_cons,not_or] at h
   simp only [mpPut,if_neg h.1,ih h.2,List.cons_append]
theorem zwr (l:List Dcl) (i:Nat):(plc l i).map (·.1)=zz l:=by
 induction l generalizing i with
 | nil=>rfl
 | cons d l ih=>simp [plc,zz,ih]
theorem zix (l:List Dcl):∀ s∈(oddL l).map (·.1),s∈zz l:=by
 induction l with
 | nil=>intro s h;cases h
 | cons d l ih =>
   intro s h
   simp only [oddL] at h
   split at h
   ·exact List.mem_cons_of_mem _ (ih s h)
   ·rcases List.mem_cons.1 h with h | h
    ·rw [h];exact List.mem_cons_self
    ·exact List.mem_cons_of_mem _ (ih s h)
def ixD (l:List Dcl) (s:ByteArray):Option Nat:=match l with
 | []=>none
 | d::l=>if d.name=s then some 0 else (ixD l s).map (·+1)
theorem zsd {s:ByteArray}:∀ {l:List Dcl} {i:Nat},ixD l s=some i->i<l.length
 | d :: l,i,h=>by
   simp only [ixD] at h
   split at h
   ·cases h;simp
   ·cases hx:ixD l s with
    | none=>rw [hx] at h;cases h
    | some j=>rw [hx] at h;simp at h;have:=zsd hx;simp;omega
theorem zd7 (l:List Dcl) (s:ByteArray) (i:Nat):mpGet (plc l i) s=(ixD l s).map fun j=>((i+j:Nat):Int)+1:=by
 induction l generalizing i with
 | nil=>rfl
 | cons d l ih =>
   simp only [plc,mpGet,ixD]
   by_cases h:d.name=s
   ·rw [if_pos h.symm,if_pos h];simp
   ·rw [if_neg (fun e=>h e.symm),if_neg h,ih]
    cases ixD l s with
    | none=>rfl
    | some j=>simp;omega
def findD (l:List Dcl) (s:ByteArray):Option Dcl:=l.find? fun d=>decide (d.name=s)
theorem znh (l:List Dcl) (s:ByteArray):findD l s=(ixD l s).bind fun i=>l[i]?:=by
 induction l with
 | nil=>rfl
 | cons d l ih =>
   simp only [findD,List.find?_cons,ixD]
   by_cases h:d.name=s
   ·simp [h]
   ·simp only [h,decide_false,if_false]
    have:List.find? (fun d=>decide (d.name=s)) l=findD l s:=rfl
    rw [this,ih]
    cases ixD l s with
    | none=>rfl
    | some j=>simp
theorem ixD_none {l:List Dcl} {s:ByteArray}:ixD l s=none↔s ∉ zz l:=by
 induction l with
 | nil=>simp [ixD,zz]
 | cons d l ih =>
   simp only [ixD,zz,List.map_cons,List.mem_cons,not_or]
   by_cases h:d.name=s
   ·simp [h]
   ·rw [if_neg h,Option.map_eq_none_iff,ih]
    exact ⟨fun h1=>⟨fun e=>h e.symm,h1⟩,fun h1=>h1.2⟩
def zni (l:List Dcl) (s:ByteArray):Option Dcl:=(findD l s).bind fun d=>if okD d=true then some d else none
theorem zse (l:List Dcl) (s:ByteArray) (hn:(zz l).Nodup):((mpGet (oddL l) s).getD 0=0)↔∀ d,findD l s=some d->okD d=true:=by
 induction l with
 | nil=>simp [oddL,mpGet,findD]
 | cons d l ih =>
   simp only [zz,List.map_cons,List.nodup_cons] at hn
   have ih:=ih hn.2
   by_cases h:d.name=s
   ·have hf:findD (d::l) s=some d:=by simp [findD,h]
    rw [hf]
    by_cases hk:okD d=true
    ·simp only [oddL,hk,if_true]
     have:mpGet (oddL l) s=none:=by
      have hs:s ∉ (oddL l).map (·.1):=fun hm=>hn.1 (by rw [h];exact zix l s hm)
      clear ih hf
      generalize oddL l=q at hs
      induction q with
      | nil=>rfl
      | cons p q ih =>
        obtain ⟨a,b⟩:=p
        simp only [List.map_cons,List.mem_cons,not_or] at hs
        simp only [mpGet,if_neg hs.1,ih hs.2]
     rw [this];simp [hk]
    ·simp [oddL,hk,mpGet,h]
   ·have hf:findD (d::l) s=findD l s:=by simp [findD,h]
    rw [hf,<- ih]
    simp only [oddL]
    split
    ·exact Iff.rfl
    ·simp only [mpGet,if_neg (fun e=>h (Eq.symm e))]
structure EnvV where
 below:List Dcl
 own:List Dcl
 made:Bool
 pv:Nat
 ov:Nat
def EnvV.all (e:EnvV):List Dcl:=e.below++e.own
def EnvV.place (e:EnvV):Option (List (ByteArray×Int)):=if e.made=true then some (plc e.all 0) else none
def EnvV.odd (e:EnvV):Option (List (ByteArray×Int)):=if oddL e.all=[] then none else some (oddL e.all)
structure EnvV.OK (e:EnvV):Prop where
 nd:(zz e.all).Nodup
 md:e.made=true\/e.all=[]
 nar:∀ d∈e.all,narD d=true
 len:e.all.length<=100000000
 nm:∀ d∈e.all,d.name.size<=9223372036854775807
theorem EnvV.get_place {e:EnvV} (h:e.OK) (s:ByteArray):(e.place.bind fun l=>mpGet l s).getD 0=match ixD e.all s with
  | some i=>(i:Int)+1
  | none=>0:=by
 unfold EnvV.place
 split
 ·simp only [Option.bind_some,zd7]
  cases ixD e.all s with
  | none=>rfl
  | some j=>simp
 ·rename_i hm
  rcases h.md with h1 | h1
  ·exact absurd h1 hm
  ·rw [h1];rfl
theorem EnvV.get_odd {e:EnvV} (h:e.OK) (s:ByteArray):((e.odd.bind fun l=>mpGet l s).getD 0=0)↔∀ d,findD e.all s=some d->okD d=true:=by
 rw [<- zse e.all s h.nd]
 unfold EnvV.odd
 split
 ·rename_i h1;rw [h1];exact Iff.rfl
 ·exact Iff.rfl
end Go.Ab
namespace Go.Ab.YtpneaijfkefeaaaGreat
open Go Go.RowKit Go.Ab Go.Proofs
theorem ziy (d:Dcl) (hc:d.ctors.length<=1000000000000):PCon Tryz.prog 147 [dv d] (.p (B (okD d))):=by
 refine cv [14] [] [] Tryz.func147 46 Tryz.ntmps147 rfl rfl fun cx hE=>fun hl=>?_
 refine loopP d.ctors (fun p=>[(18,.p (I p.length)),(3,.ts 14 5 (encTs (d.type::d.value::p.map (·.ty))))]) (fun p=>[(14,.ar 35 5 (encTs (d.type::d.value::p.map (·.ty))).length)]) (fun _=>True) [18,3] [14] hE rfl rfl rfl ⟨Sub.refl _,Sub.tse (by simp [zb,rowT]),ar_eq (by simp),rfl,trivial⟩ trivial (fun _=>brOut (by simp) ?_) (fun p a q hl _=>?_)
 ·refine fun hl2=>?_
  refine loopP (trmsD d) (fun p=>[(30,.p (I p.length))]) (fun p=>[]) (fun p=>p.all okW=true) [30] [] hE rfl rfl rfl ⟨Sub.refl _,rfl,rfl,trivial⟩ rfl (fun h=>brOut (by simp [trmsD]) ⟨?_,rfl⟩) (fun p a q hl h=>?_)
  ·exact B_eq (by rw [okD,h])
  ·have hd:okD d=(okW a&&q.all okW):=by unfold okD;rw [hl];simp [h]
   refine brT' (l:=trmsD d) hl (idxT (l:=trmsD d) hl (call0 (ziv a 1048576 (by omega) (by omega)) ?_))
   refine brB (fun h1=>?_) (fun h1=>brS (fun h2=>?_) (fun h2=>And.intro (by simp [trmsD] at hl2;have:=zj hl;simp [trmsD] at this;omega) ?_))
   ·exact ⟨B_eq (by rw [hd];simp [okW,show (thrT 1048576 a 0).1=false by simpa using h1]),rfl⟩
   ·exact ⟨B_eq (by rw [hd];simp [okW,show ¬ (thrT 1048576 a 0).2<=1048576 by omega]),rfl⟩
   ·refine ⟨?_,Sub.i (by simp),rfl,rfl,trivial⟩
    have:okW a=true:=by simp [okW,show (thrT 1048576 a 0).1=true by simpa using h1];omega
    simp [h,this]
 ·have:=zj hl
  refine brIn (by simp [hl]) (idxN (z1w (f:=rowC) hl) (app1 (by simp;omega) (by simp;omega) (And.intro (by omega) ?_)))
  exact ⟨trivial,Sub.i (by simp),Sub.tse (by simp [zb,rowT]),ar_eq (by simp),rfl,trivial⟩
def envO (e:EnvV):Obs:=[(1000,.ce 176 [.p (.sl 16 (encDs e.below)),.ts 1001 16 (encDs e.own),.tm 1002 e.pv,.tm 1003 e.ov]),(1001,.ar 89 16 (encDs e.own).length),(1002,.mp e.pv e.place),(1003,.mp e.ov e.odd)]
def pdc:Option Dcl->AV
 | none=>.p (.v (.pointer none))
 | some d=>.p (.ip (rowD d))
theorem znj {l:List Dcl} {i:Nat} {d:Dcl} (h:l[i]?=some d):(encDs l)[i]?=some (rowD d):=by simp [encDs,h]
theorem zws (e:EnvV) (h:e.OK) (s:ByteArray):Con Tryz.prog 229 [.ptr 1000 0,.p (St s)] (envO e) (fun r o=>r=pdc (findD e.all s)/\o=envO e):=by
 have hp:=EnvV.get_place h s
 have hf:=znh e.all s
 have hlen:=h.len
 have hal:e.all.length=e.below.length+e.own.length:=by simp [EnvV.all]
 refine cv [] [] [1000,1001,1002,1003] Tryz.func229 44 Tryz.ntmps229 rfl rfl fun cx hE=>And.intro (by omega) ?_
 cases hx:ixD e.all s with
 | none =>
   rw [hx] at hp hf
   refine And.intro (by simp only [hp];omega) (brY (by simp only [hp];omega) ⟨?_,rfl⟩)
   rw [hf];rfl
 | some i =>
   have hi:=zsd hx
   rw [hx] at hp hf
   have hd:e.all[i]?=some (e.all[i]):=List.getElem?_eq_getElem hi
   simp only [Option.bind_some,hd] at hf
   refine And.intro (by simp only [hp];omega) (brZ (by simp only [hp];omega) (fun hl=>brS (fun hb=>?_) (fun hb=>?_)))
   ·rw [hp] at hb
    have hb':i<e.below.length:=by simp at hb;omega
    refine idx1 (by simp only [hp];omega) (by simp only [hp];simp;omega) (row:=rowD e.all[i]) ?_ ⟨?_,rfl⟩
    ·rw [hp,show ((i:Int)+1-1)=(i:Int) by omega]
     exact z6h (znj (by rw [<- hd];simp only [EnvV.all];rw [List.getElem?_append_left hb']))
    ·rw [hf];rfl
   ·rw [hp] at hb
    have hb':e.below.length<=i:=by simp at hb;omega
    refine And.intro (by simp only [hp];simp;omega) (idx1 (by simp only [hp];simp;omega) (by simp only [hp];simp;omega) (row:=rowD e.all[i]) ?_ ⟨?_,rfl⟩)
    ·rw [hp,show ((i:Int)+1-1-((encDs e.below).length:Int))=((i-e.below.length:Nat):Int) by simp;omega]
     exact z6h (znj (by rw [<- hd];simp [EnvV.all,List.getElem?_append_right hb']))
    ·rw [hf];rfl
end Go.Ab.YtpneaijfkefeaaaGreat
namespace Go.Ab
open Go Go.RowKit
def leX (P:Program) (cx:Cx) (n:Nat) (dk:List Nat) (r:VR) (o:Obs) (orest:Obs) (dyn:Regs) (dobjs:Obs):Prop :=
 ∃ r1 o1,Le P cx n ⟨toR r,o⟩ ⟨toR r1,o1⟩/\(∀ t,mem t dk=false->get (toR r1) t=get (toR r) t)/\leV dk r1 o1 orest dyn dobjs
section
variable {P : Program} {cx : Cx} {n : Nat} {E : En}
theorem leX.same {dk:List Nat} {r:VR} {o orest:Obs} {dyn:Regs} {dobjs:Obs} (h:leV dk r o orest dyn dobjs):leX P cx n dk r o orest dyn dobjs:=⟨r,o,Le.refl,fun _ _=>rfl,h⟩
theorem leX.by {dk:List Nat} {r:VR} {o o1 orest:Obs} {dyn:Regs} {dobjs:Obs} (h1:Le P cx n ⟨toR r,o⟩ ⟨toR r,o1⟩) (h:leX P cx n dk r o1 orest dyn dobjs):leX P cx n dk r o orest dyn dobjs:=by
 obtain ⟨r2,o2,h2,h3,h4⟩:=h
 exact ⟨r2,o2,Le.trans h1 h2,h3,h4⟩
theorem leX.put {t:Nat} {y:AV} {dk:List Nat} {r:VR} {o o1 orest:Obs} {dyn:Regs} {dobjs:Obs} (hm:mem t dk=true) (h1:Le P cx n ⟨toR r,o⟩ ⟨(t,y)::toR r,o1⟩) (h:leX P cx n dk ((t,.a y)::r) o1 orest dyn dobjs):leX P cx n dk r o orest dyn dobjs:=by
 obtain ⟨r2,o2,h2,h3,h4⟩:=h
 refine ⟨r2,o2,Le.trans h1 h2,fun q hq=>?_,h4⟩
 have hb:Nat.beq t q=false:=by
  cases hb:Nat.beq t q with
  | false=>rfl
  | true=>rw [<- Nat.eq_of_beq_eq_true hb,hm] at hq;cases hq
 rw [h3 q hq]
 simp only [toR,get,hb,cond_false]
theorem leX.set {t:Nat} {x:Kv} {y:AV} {dk:List Nat} {r:VR} {o o1 orest:Obs} {dyn:Regs} {dobjs:Obs} (hm:mem t dk=true) (h1:Le P cx n ⟨(t,x.av)::toR r,o⟩ ⟨(t,y)::toR r,o1⟩) (h:leX P cx n dk ((t,.a y)::r) o1 orest dyn dobjs):leX P cx n dk ((t,x)::r) o orest dyn dobjs:=by
 obtain ⟨r2,o2,h2,h3,h4⟩:=h
 refine ⟨r2,o2,Le.trans h1 h2,fun q hq=>?_,h4⟩
 have hb:Nat.beq t q=false:=by
  cases hb:Nat.beq t q with
  | false=>rfl
  | true=>rw [<- Nat.eq_of_beq_eq_true hb,hm] at hq;cases hq
 rw [h3 q hq]
 simp only [toR,get,hb,cond_false]
theorem znk {dk:List Nat} {r' kept:VR} {s:S} {o' orest:Obs} {dyn:Regs} {dobjs:Obs} (hk:∀ t y,get dyn t=none->get (toR kept) t=some y->mem t dk=false/\get (toR r') t=some y) (ha:agr s.regs (toR r')) (ho:s.objs=o') (h:leX P cx n dk r' o' orest dyn dobjs):Le P cx n s ⟨toR (dynV dyn kept),dobjs++orest⟩:=by
 obtain ⟨r1,o1,h1,h2,h3⟩:=h
 exact fun a w hr=>znd (s:=⟨toR r1,o1⟩) (fun t y g1 g2=>by rw [h2 t (hk t y g1 g2).1];exact (hk t y g1 g2).2) (fun _=>rfl) rfl h3 a w (h1 a w (Eqv.rel (s:=s) (s':=⟨toR r',o'⟩) ⟨ha,ho⟩ hr))
theorem znl {dk:List Nat} {r:VR} {o orest:Obs} {dyn:Regs} {dobjs:Obs} (h:leX P cx n dk r o orest dyn dobjs):∀ t,mem t dk=false->get dyn t=none:=by
 obtain ⟨r1,o1,h1,h2,h3⟩:=h
 exact (zad h3).2.1
theorem dk_of {dk W:List Nat} (hd:allm dk W=true) {t:Nat} (ht:¬ mem t W=true):mem t dk=false:=z5f hd (by simpa using ht)
theorem zz23 {X:Type} (dyn:X->Regs) (dobjs:X->Obs) (inv:X->Prop) (μ:X->Nat) (x0:X) (nx:X->VR->Obs->Prop) {c:Code} {Q:Exit->VR->Obs->Prop} {r kept:VR} {o orest:Obs} {dk:List Nat} (hE:EnOK P cx n E)
  (hnx:∀ x,inv x->∀ r' o',nx x r' o'->∃ x',inv x'/\μ x'<μ x/\leX P cx n dk r' o' orest (dyn x') (dobjs x'))
  (hd:allm dk (wrC c)=true) (hkept:keepq (wrC c) r=some kept) (h0:leX P cx n dk r o orest (dyn x0) (dobjs x0)) (hi:inv x0)
  (round:∀ x,inv x->vcC P cx n E c (thnV (nx x) Q) (dynV (dyn x) kept) (dobjs x++orest)):LoopV P cx n E c Q r o:=by
 refine ⟨zmn (fun x=>⟨toR (dynV (dyn x) kept),dobjs x++orest⟩) (fun x=>inv x/\∀ t,mem t dk=false->get (dyn x) t=none) μ x0 ?_ ⟨hi,znl h0⟩ ?_⟩
 ·refine znk (fun t y _ hy=>?_) (fun _=>rfl) rfl h0
  rw [z2b hkept] at hy
  split at hy
  ·cases hy
  ·rename_i hm;exact ⟨dk_of hd hm,hy⟩
 ·rintro x ⟨hx,hkx⟩
  refine z1n (z1j hE (round x hx)) ?_
  rintro e s ⟨r',o',h1,h2,h3,h4⟩
  have fr:∀ t,mem t (wrC c)=false->get (toR r') t=get (toR r) t:=fun t ht=>by
   rw [h3 t ht,z5v,zae,hkx t (z5f hd ht),z2b hkept,if_neg (by rw [ht];simp)]
  cases e with
  | normal =>
    obtain ⟨x',g1,g2,g3⟩:=hnx x hx r' o' h4
    refine ⟨x',⟨g1,znl g3⟩,g2,znk (fun t y _ hy=>?_) h1 h2 g3⟩
    rw [z2b hkept] at hy
    split at hy
    ·cases hy
    ·rename_i hm
     exact ⟨dk_of hd hm,by rw [fr t (by simpa using hm)];exact hy⟩
  | ret=>exact ⟨r',o',h1,h2,fr,h4⟩
  | _=>exact ⟨r',o',h1,h2,fr,h4⟩
theorem seqGX {X:Type} (dyn:X->Regs) (dobjs:X->Obs) (inv:X->Prop) (nx:VR->Obs->Prop) (hs:List Nat) {a b:Code} {Q:Exit->VR->Obs->Prop} {r kept:VR} {o orest:Obs} {dk:List Nat} (hE:EnOK P cx n E)
  (hnx:∀ r' o',nx r' o'->∃ x',inv x'/\leX P cx n dk r' o' orest (dyn x') (dobjs x'))
  (hd:allm dk (wrC a)=true) (hkept:keepq (wrC a) r=some kept)
  (h1:vcC P cx n { E with hs:=hs } a (thnV nx Q) r o)
  (h2:∀ x,inv x->vcC P cx n { E with hs:=hs } b Q (dynV (dyn x) kept) (dobjs x++orest)):SeqV P cx n E a b Q r o:=by
 have hE':EnOK P cx n { E with hs:=hs }:=⟨hE.n,hE.tab,hE.fb,hE.k0,hE.mo,hE.cc,hE.cl⟩
 refine ⟨z1n (z1j hE' h1) ?_⟩
 rintro e s ⟨r',o',g1,g2,g3,g4⟩
 have fr1:Frm (wrC a++wrC b) r r':=fun t ht=>g3 t (mem_app.1 ht).1
 cases e with
 | normal =>
   obtain ⟨x,g5,g6⟩:=hnx r' o' g4
   have hle:Le P cx n s ⟨toR (dynV (dyn x) kept),dobjs x++orest⟩:=by
    refine znk (fun t y _ hy=>?_) g1 g2 g6
    rw [z2b hkept] at hy
    split at hy
    ·cases hy
    ·rename_i hm
     exact ⟨dk_of hd hm,by rw [g3 t (by simpa using hm)];exact hy⟩
   refine zmm hle (z1n (z1j hE' (h2 x g5)) (z2i fun r2 o2 e hf hq=>⟨fun t ht=>?_,hq⟩))
   obtain ⟨t1,t2⟩:=mem_app.1 ht
   rw [hf t t2,z5v,zae,znl g6 t (z5f hd t1),z2b hkept,if_neg (by rw [t1];simp)]
 | ret=>exact ⟨r',o',g1,g2,fr1,g4⟩
 | _=>exact ⟨r',o',g1,g2,fr1,g4⟩
theorem seqX1 {A:Type} (dyn:A->Regs) (dobjs:A->Obs) (inv:A->Prop) (dk ks hs:List Nat) (hE:EnK P cx n E.tab E.fb E.n E.k0 E.cc E.cl) {a' b':Code} {Q:Exit->VR->Obs->Prop} {r kept:VR} {o orest:Obs}
  (hd:allm dk (wrC a')=true) (hkept:keepq (wrC a') r=some kept) (hor:othq ks o=some orest)
  (h1:vcC P cx n { E with hs:=hs } a' (thnV (fun r' o'=>∃ a,inv a/\leX P cx n dk r' o' orest (dyn a) (dobjs a)) Q) r o)
  (h2:∀ a,inv a->vcC P cx n { E with hs:=hs } b' Q (dynV (dyn a) kept) (dobjs a++orest)):SeqV P cx n E a' b' Q r o :=
 seqGX (X:=A) (fun x=>dyn x) (fun x=>dobjs x) (fun x=>inv x) (fun r' o'=>∃ a,inv a/\leX P cx n dk r' o' orest (dyn a) (dobjs a)) hs hE.ok
  (fun r' o' ⟨a,h1,h2⟩=>⟨a,h1,h2⟩) hd hkept h1 (fun x hx=>h2 x hx)
theorem zwt {c:Code} {Q:Exit->S->Prop} {s:S} (h:AWp P cx n c (fun e s=>∃ s',Le P cx n s s'/\Q e s') s):AWp P cx n c Q s :=
 fun a w r=>wp_mono (h a w r) fun e a w ⟨s,hs,s',hl,hq⟩=>⟨s',hl a w hs,hq⟩
theorem zyc {X:Type} (dyn:X->Regs) (dobjs:X->Obs) (inv:X->Prop) (nx:VR->Obs->Prop) (hs:List Nat) {b:Code} {Q:Exit->VR->Obs->Prop} {r kept:VR} {o orest:Obs} {dk:List Nat} (hE:EnOK P cx n E)
  (hd:allm dk (wrC b)=true) (hkept:keepq (wrC b) r=some kept)
  (hnx:∀ r' o',nx r' o'->∃ x',inv x'/\leX P cx n dk r' o' orest (dyn x') (dobjs x'))
  (h1:vcC P cx n { E with hs:=hs } b (thnV nx Q) r o)
  (h2:∀ x,inv x->Q .normal (dynV (dyn x) kept) (dobjs x++orest)):JoinV P cx n E b Q r o:=by
 have hE':EnOK P cx n { E with hs:=hs }:=⟨hE.n,hE.tab,hE.fb,hE.k0,hE.mo,hE.cc,hE.cl⟩
 refine ⟨zwt (z1n (z1j hE' h1) ?_)⟩
 rintro e s ⟨r',o',g1,g2,g3,g4⟩
 cases e with
 | normal =>
   obtain ⟨x,g5,g6⟩:=hnx _ _ g4
   refine ⟨⟨toR (dynV (dyn x) kept),dobjs x++orest⟩,?_,_,_,fun _=>rfl,rfl,fun t ht=>?_,h2 x g5⟩
   ·refine znk (fun t y _ hy=>?_) g1 g2 g6
    rw [z2b hkept] at hy
    split at hy
    ·cases hy
    ·rename_i hm
     exact ⟨dk_of hd hm,by rw [g3 t (by simpa using hm)];exact hy⟩
   ·rw [z5v,zae,znl g6 t (z5f hd ht),z2b hkept,if_neg (by rw [ht];simp)]
 | ret=>exact ⟨s,Le.refl,r',o',g1,g2,g3,g4⟩
 | _=>exact ⟨s,Le.refl,r',o',g1,g2,g3,g4⟩
theorem join1 {A:Type} (dyn:A->Regs) (dobjs:A->Obs) (inv:A->Prop) (dk ks hs:List Nat) (hE:EnK P cx n E.tab E.fb E.n E.k0 E.cc E.cl) {b:Code} {Q:Exit->VR->Obs->Prop} {r kept:VR} {o orest:Obs}
  (hd:allm dk (wrC b)=true) (hkept:keepq (wrC b) r=some kept) (hor:othq ks o=some orest)
  (h1:vcC P cx n { E with hs:=hs } b (thnV (fun r' o'=>∃ a,inv a/\leX P cx n dk r' o' orest (dyn a) (dobjs a)) Q) r o)
  (h2:∀ a,inv a->Q .normal (dynV (dyn a) kept) (dobjs a++orest)):JoinV P cx n E b Q r o :=
 zyc dyn dobjs inv _ hs hE.ok hd hkept (fun _ _ h=>h) h1 h2
theorem join0 (dyn:Regs) (dobjs:Obs) (dk ks hs:List Nat) (hE:EnK P cx n E.tab E.fb E.n E.k0 E.cc E.cl) {b:Code} {Q:Exit->VR->Obs->Prop} {r kept:VR} {o orest:Obs}
  (hd:allm dk (wrC b)=true) (hkept:keepq (wrC b) r=some kept) (hor:othq ks o=some orest)
  (h1:vcC P cx n { E with hs:=hs } b (thnV (fun r' o'=>leV dk r' o' orest dyn dobjs) Q) r o)
  (h2:Q .normal (dynV dyn kept) (dobjs++orest)):JoinV P cx n E b Q r o :=
 zyc (X:=Unit) (fun _=>dyn) (fun _=>dobjs) (fun _=>True) _ hs hE.ok hd hkept (fun _ _ h=>⟨(),trivial,leX.same h⟩) h1 (fun _ _=>h2)
theorem znm {α B:Type} (l:List α) (b0:B) (dyn:List α->B->Regs) (dobjs:List α->B->Obs) (inv:List α->B->Prop) (dk ks:List Nat) (hE:EnK P cx n E.tab E.fb E.n E.k0 E.cc E.cl) {cd:Code} {Q:Exit->VR->Obs->Prop} {r kept:VR} {o orest:Obs}
  (hd:allm dk (wrC cd)=true) (hkept:keepq (wrC cd) r=some kept) (hor:othq ks o=some orest) (h0:leX P cx n dk r o orest (dyn [] b0) (dobjs [] b0)) (hi:inv [] b0)
  (hn:∀ b,inv l b->vcC P cx n E cd (thnV (fun _ _=>False) Q) (dynV (dyn l b) kept) (dobjs l b++orest))
  (hc:∀ p a q b,l=p++a::q->inv p b->vcC P cx n E cd (thnV (fun r' o'=>∃ b',inv (p++[a]) b'/\leX P cx n dk r' o' orest (dyn (p++[a]) b') (dobjs (p++[a]) b')) Q) (dynV (dyn p b) kept) (dobjs p b++orest)):LoopV P cx n E cd Q r o:=by
 refine zz23 (X:=List α×List α×B) (fun x=>dyn x.1 x.2.2) (fun x=>dobjs x.1 x.2.2) (fun x=>l=x.1++x.2.1/\inv x.1 x.2.2) (fun x=>x.2.1.length) ([],l,b0)
  (fun x r' o'=>match x.2.1 with
   | []=>False
   | a::q=>∃ b',inv (x.1++[a]) b'/\leX P cx n dk r' o' orest (dyn (x.1++[a]) b') (dobjs (x.1++[a]) b')) hE.ok ?_ hd hkept h0 ⟨rfl,hi⟩ ?_
 ·rintro ⟨p,q,b⟩ ⟨h1,h2⟩ r' o' h
  cases q with
  | nil=>cases h
  | cons a q =>
    obtain ⟨b',h3,h4⟩:=h
    exact ⟨(p++[a],q,b'),⟨by simpa using h1,h3⟩,by simp,h4⟩
 ·rintro ⟨p,q,b⟩ ⟨h1,h2⟩
  cases q with
  | nil =>
    simp only [List.append_nil] at h1
    subst h1
    exact hn b h2
  | cons a q=>exact hc p a q b h1 h2
end
end Go.Ab
namespace Go.Ab.YtpneaijfkefeaaaGreat
open Go Go.RowKit Go.Ab Go.Proofs
def cD (d:Dcl):List AV:=[.p (I d.kind),.p (I d.params),.p (I d.count),.p (St d.name),.p (St d.family),.p (I d.type.kind),.p (I d.type.n),.p (St d.type.name),.p (.sl 3 (encLs d.type.levels)),.p (.sl 5 (encTs d.type.args)),
 .p (I d.value.kind),.p (I d.value.n),.p (St d.value.name),.p (.sl 3 (encLs d.value.levels)),.p (.sl 5 (encTs d.value.args)),.p (.sl 6 (encCs d.ctors))]
def o8 (d:Dcl):Obs:=[(8,.ce 89 (cD d))]
def fvA:AV:=.fv (.func 145) [] [.ptr 8 0]
theorem zwu (x d:Dcl):Con Tryz.prog 145 [dv x,.ptr 8 0] (o8 d) (fun r o=>r=.p (B (decide (x.name=d.name)))/\o=o8 d) :=
 cv [] [] [8] Tryz.func145 9 Tryz.ntmps145 rfl rfl fun cx hE=>⟨rfl,rfl⟩
theorem zq5 (l:List Dcl) (d:Dcl) (hl:l.length<=1000000000000):Con Tryz.prog 192 [.p (.sl 16 (encDs l)),fvA] (o8 d) (fun r o=>r=.p (I (((ixD l d.name).map fun i=>(i:Int)).getD (-1)))/\o=o8 d):=by
 refine cv [] [] [8] Tryz.func192 19 Tryz.ntmps192 rfl rfl fun cx hE=>fun hl0=>?_
 refine loopP l (fun p=>[(8,.p (I p.length))]) (fun p=>[]) (fun p=>ixD p d.name=none) [8] [] hE rfl rfl rfl ⟨Sub.refl _,rfl,trivial⟩ rfl (fun h=>brOut (by simp) ?_) (fun p a q hq h=>?_)
 ·exact ⟨by rw [h];rfl,rfl⟩
 ·have := zj hq
  refine brIn (by simp [hq]) (idxN (z1w (f:=rowD) hq) (call1 [8] (zwu a d) rfl rfl (za _) (brS (fun h1=>?_) (fun h1=>And.intro (by omega) ?_))))
  ·refine ⟨?_,rfl⟩
   have:ixD l d.name=some p.length:=by
    subst hq
    clear hl hl0
    induction p with
    | nil=>simp [ixD,h1]
    | cons b p ih =>
      simp only [ixD] at h
      split at h
      ·cases h
      ·rename_i hb
       simp only [List.cons_append,ixD,if_neg hb,ih (by simpa using h) (zj rfl),Option.map_some,List.length_cons]
   rw [this];rfl
  ·refine ⟨?_,Sub.i (by simp),rfl,trivial⟩
   have h2:=ixD_none.1 h
   refine ixD_none.2 ?_
   simp only [zz,List.map_append,List.mem_append,not_or,List.map_cons,List.map_nil,List.mem_singleton]
   exact ⟨h2,fun e=>h1 e.symm⟩
theorem zsf (l:List Dcl) (d:Dcl) (hl:l.length<=1000000000000):Con Tryz.prog 144 [.p (.sl 16 (encDs l)),fvA] (o8 d) (fun r o=>r=.p (B (ixD l d.name).isSome)/\o=o8 d):=by
 refine cv [] [] [8] Tryz.func144 9 Tryz.ntmps144 rfl rfl fun cx hE=>call1 [8] (zq5 l d hl) rfl rfl (za _) ⟨?_,rfl⟩
 refine B_eq ?_
 cases ixD l d.name<;>simp
theorem zq6 (v:Nat):Con Tryz.prog 148 [.tm 1003 v] [(1003,.mp v none)] (fun r o=>r=.p (.v (.map none))/\o=[(1003,.mp v none)]):=by
 refine cv [] [] [1003] Tryz.func148 9 Tryz.ntmps148 rfl rfl fun cx hE=>And.intro (by omega) (brB (fun h1=>⟨rfl,rfl⟩) (fun h1=>by cases h1))
theorem zq7 (v:Nat) (l:List (ByteArray×Int)):Con Tryz.prog 148 [.tm 1003 v] [(1003,.mp v (some l))] (fun r o=>r=.tm 7 0/\o=[(7,.mp 0 (some l)),(1003,.mp v (some l))]):=by
 refine cv [] [] [1003,7] Tryz.func148 9 Tryz.ntmps148 rfl rfl fun cx hE=>And.intro (by omega) (brB (fun h1=>by cases h1) (fun h1=>And.intro (by omega) ?_))
 exact ⟨rfl,rfl⟩
def envP (bl own:List Dcl) (pv:Nat) (pl:Option (List (ByteArray×Int))) (ov:Nat) (od:Option (List (ByteArray×Int))):Obs:=[(1000,.ce 176 [.p (.sl 16 (encDs bl)),.ts 1001 16 (encDs own),.tm 1002 pv,.tm 1003 ov]),(1001,.ar 89 16 (encDs own).length),(1002,.mp pv pl),(1003,.mp ov od)]
def odO (l:List Dcl):Option (List (ByteArray×Int)):=if oddL l=[] then none else some (oddL l)
theorem dupA {z l p q:List Dcl} {a:Dcl} (h:l=p++a::q) (hm:a.name∈zz z):¬ (zz (z++l)).Nodup:=fun hn=>by
 simp only [zz,List.map_append,List.nodup_append] at hn
 exact hn.2.2 a.name hm a.name (by rw [h];simp) rfl
theorem dupB {z l p q:List Dcl} {a:Dcl} (h:l=p++a::q) (hm:a.name∈zz p):¬ (zz (z++l)).Nodup:=fun hn=>by
 simp only [zz,List.map_append,List.nodup_append,h,List.map_cons] at hn
 exact hn.2.1.2.2 a.name hm a.name (by simp) rfl
theorem okC {z p:List Dcl} {a:Dcl} (h:(zz (z++p)).Nodup) (h1:a.name ∉ zz z) (h2:a.name ∉ zz p):(zz (z++(p++[a]))).Nodup:=by
 rw [<- List.append_assoc]
 simp only [zz,List.map_append,List.map_cons,List.map_nil] at h h1 h2 ⊢
 refine List.nodup_append.2 ⟨h,by simp,fun x hx y hy e=>?_⟩
 rw [List.mem_singleton.1 hy] at e
 subst e
 rcases List.mem_append.1 hx with h3 | h3
 ·exact h1 h3
 ·exact h2 h3
theorem mp_eq {v:Nat} {a b:List (ByteArray×Int)} (h:a=b):Ob.mp v (some a)=.mp v (some b):=by rw [h]
theorem zlr {z p:List Dcl} {a:Dcl} {x:Int} (h:a.name ∉ zz (z++p)) (hx:x=(z++p).length+1):mpPut (plc (z++p) 0) a.name x=plc (z++(p++[a])) 0:=by
 rw [ziw (by rw [zwr];exact h),<- List.append_assoc,zz02 _ [a],hx]
 simp [plc]
theorem zz24 {z p:List Dcl} {a:Dcl} (h:okD a=true):odO (z++p)=odO (z++(p++[a])):=by
 unfold odO
 rw [<- List.append_assoc,zgy _ [a]]
 simp [oddL,h]
theorem zz03 {z p:List Dcl} {a:Dcl} (h:okD a=false) (hn:odO (z++p)=none):some [(a.name,(1:Int))]=odO (z++(p++[a])):=by
 unfold odO at hn ⊢
 rw [<- List.append_assoc,zgy _ [a]]
 split at hn
 ·rename_i h0;rw [h0];simp [oddL,h]
 ·cases hn
theorem zz04 {z p:List Dcl} {a:Dcl} {m:List (ByteArray×Int)} (hn:a.name ∉ zz (z++p)) (h:okD a=false) (ho:odO (z++p)=some m):some (mpPut m a.name 1)=odO (z++(p++[a])):=by
 unfold odO at ho ⊢
 rw [<- List.append_assoc,zgy _ [a]]
 split at ho
 ·cases ho
 ·cases ho
  rw [ziw fun hm=>hn (zix _ _ hm)]
  simp [oddL,h]
theorem ce_eq {T:Nat} {a b:List AV} (h:a=b):Ob.ce T a=.ce T b:=by rw [h]
theorem zz05 (bl own l:List Dcl) (pv ov:Nat) (pl:Option (List (ByteArray×Int))) (hpl:pl=some (plc (bl++own) 0)\/(pl=none/\bl++own=[])) (hnd:(zz (bl++own)).Nodup)
  (hlen:(bl++own).length+l.length<=1000000000) (hnar:∀ d∈l,narD d=true) (hnm:∀ d∈l,d.name.size<=9223372036854775807) :
  Con Tryz.prog 105 [.ptr 1000 0,.p (.sl 16 (encDs l))] (envP bl own pv pl ov (odO (bl++own))) (fun r o =>
   ((∃ d∈l,mayF d.name=false)/\r=.p (I 9)/\o=envP bl own pv pl ov (odO (bl++own))) \/
   ((∀ d∈l,mayF d.name=true)/\¬ (zz (bl++own++l)).Nodup/\r=.p (I 10)/\o=envP bl own pv pl ov (odO (bl++own))) \/
   ((∀ d∈l,mayF d.name=true)/\(zz (bl++own++l)).Nodup/\r=.p (I 0)/\∃ pv' ov',o=envP bl (own++l) pv' (some (plc (bl++own++l) 0)) ov' (odO (bl++own++l)))):=by
 have hget:∀ s,(pl.bind fun l=>mpGet l s).getD 0=match ixD (bl++own) s with
  | some i=>(i:Int)+1
  | none=>0:=fun s=>by
  rcases hpl with rfl | ⟨rfl,h⟩
  ·simp only [Option.bind_some,zd7]
   cases ixD (bl++own) s with
   | none=>rfl
   | some j=>simp
  ·rw [h];rfl
 have hlen2:bl.length+own.length+l.length<=1000000000:=by simpa using hlen
 refine cv [] [17] [1000,1001,1002,1003] Tryz.func105 119 Tryz.ntmps105 rfl rfl fun cx hE=>fun hl0=>?_
 refine loopP l (fun p=>[(16,.p (I p.length))]) (fun p=>[]) (fun p=>∀ d∈p,mayF d.name=true) [16] [] hE rfl rfl rfl ⟨Sub.refl _,rfl,rfl,rfl,rfl,trivial⟩ (by simp) (fun h1=>brOut (by simp) (fun hl1=>?_)) (fun p a q hq h=>?_)
 ·refine loopP l (fun p=>[(27,.p (I p.length))]) (fun p=>[]) (fun p=>(zz (bl++own++p)).Nodup) [27] [] hE rfl rfl rfl ⟨Sub.refl _,rfl,rfl,rfl,rfl,trivial⟩ (by simpa using hnd) (fun h2=>brOut (by simp) ?_) (fun p a q hq h=>?_)
  ·refine And.intro (by omega) (seqX1 (fun (v:Nat)=>[]) (fun v=>[(1000,.ce 176 [.p (.sl 16 (encDs bl)),.ts 1001 16 (encDs own),.tm 1002 v,.tm 1003 ov]),(1002,.mp v (some (plc (bl++own) 0)))]) (fun _=>True) [] [1000,1002] [] hE rfl rfl rfl ?_ (fun v _=>?_))
   ·rcases hpl with rfl | ⟨rfl,hpe⟩
    ·exact brB (fun h=>by cases h) fun _=>⟨pv,trivial,leX.same ⟨rfl,rfl,rfl,rfl,trivial⟩⟩
    ·refine brB (fun _=>⟨pv+1,trivial,leX.by (Le.mpmoveC 1000 2 1002 55 rfl rfl rfl rfl rfl rfl) (leX.same ⟨rfl,?_,rfl,rfl,trivial⟩)⟩) (fun h=>by cases h)
     rw [hpe];rfl
   ·refine fun hl2=>znm l (ov,odO (bl++own)) (fun p (b:Nat×Option (List (ByteArray×Int)))=>[(60,.p (I p.length))]) (fun p b=>[(1000,.ce 176 [.p (.sl 16 (encDs bl)),.ts 1001 16 (encDs (own++p)),.tm 1002 v,.tm 1003 b.1]),(1001,.ar 89 16 (encDs (own++p)).length),(1002,.mp v (some (plc (bl++own++p) 0))),(1003,.mp b.1 b.2)]) (fun p b=>b.2=odO (bl++own++p)) [60] [1000,1001,1002,1003] hE rfl rfl rfl (leX.same ⟨Sub.refl _,?_,?_,?_,rfl,trivial⟩) ?_ (fun b hb=>brOut (by simp) ?_) (fun p a q ⟨bo,bd⟩ hq hb=>?_)
    ·simp
    ·simp
    ·simp
    ·simp
    ·refine .inr (.inr ⟨h1,h2,rfl,v,b.1,?_⟩)
     rw [<- hb];rfl
    ·have:=zj hq
     have hnew:a.name ∉ zz (bl++own++p):=fun hm=>dupA (l:=a::q) (p:=[]) rfl hm (by rw [hq,<- List.append_assoc] at h2;exact h2)
     refine brIn (by simp [hq]) (idxN (z1w (f:=rowD) hq) (call0 (zwq a (hnar a (zg hq))) ?_))
     refine (app1 (by simp;omega) (by simp;omega) (And.intro (by first | omega | (simp;omega)) (And.intro (by first | omega | (simp;omega)) (call0 (ziy a (zng (hnar a (zg hq))).2.2.1) (brB (fun hk=>?_) (fun hk=>?_))))))
     ·replace hk:okD a=false:=by simpa using hk
      rcases bd with _ | m
      ·refine call1 [1003] (zq6 bo) rfl rfl (za _) (And.intro (by omega) (And.intro (by omega) ⟨(bo+1,some [(a.name,1)]),zz03 hk hb.symm,leX.by (Le.mpmoveC 1000 3 1003 109 rfl rfl rfl rfl rfl rfl) (leX.same ⟨Sub.i (by simp),ce_eq (by simp [encDs,rowD]),ar_eq (by simp [Nat.add_assoc]),mp_eq (zlr hnew ?_),rfl,trivial⟩)⟩))
       simp;omega
      ·refine call1 [1003] (zq7 bo m) rfl rfl (za _) (And.intro (by omega) (brB (fun h=>by cases h) fun _=>And.intro (by omega) (And.intro (by omega) ⟨(bo+1,some (mpPut m a.name 1)),zz04 hnew hk hb.symm,leX.by (Le.mpmoveC 1000 3 1003 7 rfl rfl rfl rfl rfl rfl) (leX.same ⟨Sub.i (by simp),ce_eq (by simp [encDs,rowD]),ar_eq (by simp [Nat.add_assoc]),mp_eq (zlr hnew ?_),rfl,trivial⟩)⟩)))
       simp;omega
     ·replace hk:okD a=true:=by simpa using hk
      refine And.intro (by omega) ⟨(bo,bd),(show bd=_ from hb).trans (zz24 hk),leX.same ⟨Sub.i (by simp),ce_eq (by simp [encDs,rowD]),ar_eq (by simp [Nat.add_assoc]),mp_eq (zlr hnew ?_),rfl,trivial⟩⟩
      simp;omega
  ·have:=zj hq
   have htk:List.take ((p.length:Int)).toNat (encDs l)=encDs p:=by simp [hq,encDs]
   refine brIn (by simp [hq]) (idxN (z1w (f:=rowD) hq) (And.intro (by simp;omega) (callX [8] (zsf p a (by omega)) rfl rfl (by rw [htk];exact za _) fun r o ⟨e1,e2⟩=>?_)))
   subst e1 e2
   refine And.intro (by omega) (brS (fun g=>?_) (fun g=>brB (fun g2=>?_) (fun g2=>And.intro (by omega) ?_)))
   ·refine Or.inr (.inl ⟨h1,?_,rfl,rfl⟩)
    rw [hget] at g
    refine dupA hq ?_
    cases hx:ixD (bl++own) a.name with
    | none=>rw [hx] at g;simp at g
    | some i=>exact Classical.not_not.1 fun hn=>by rw [ixD_none.2 hn] at hx;cases hx
   ·refine Or.inr (.inl ⟨h1,?_,rfl,rfl⟩)
    refine dupB hq (Classical.not_not.1 fun hn=>by rw [ixD_none.2 hn] at g2;cases g2)
   ·rw [hget] at g
    refine ⟨okC h ?_ ?_,Sub.i (by simp),rfl,rfl,rfl,rfl,trivial⟩
    ·refine ixD_none.1 ?_
     cases hx:ixD (bl++own) a.name with
     | none=>rfl
     | some i=>rw [hx] at g;simp at g
    ·refine ixD_none.1 ?_
     cases hx:ixD p a.name with
     | none=>rfl
     | some i=>rw [hx] at g2;cases g2
 ·have:=zj hq
  refine brIn (by simp [hq]) (idxN (z1w (f:=rowD) hq) (call0 (zz01 a.name (hnm a (zg hq))) (brB (fun hm=>Or.inl ⟨⟨a,zg hq,by simpa using hm⟩,rfl,rfl⟩) (fun hm=>And.intro (by omega) ?_))))
  refine ⟨fun d hd=>?_,Sub.i (by simp),rfl,rfl,rfl,rfl,trivial⟩
  rcases List.mem_append.1 hd with h1 | h1
  ·exact h d h1
  ·rw [List.mem_singleton.1 h1];simpa using hm
theorem New_con:Con Tryz.prog 104 [] [] (fun r o=>r=.ptr 1000 0/\o=envP [] [] 0 none 0 none):=by
 have h:Con Tryz.prog 104 [] [] (fun r o=>r=.ptr 2 0/\o=[(2,.ce 176 [.p nilS,.p nilS,.p (.v (.map none)),.p (.v (.map none))])]) :=
  cv [] [] [2] Tryz.func104 3 Tryz.ntmps104 rfl rfl fun cx hE=>⟨rfl,rfl⟩
 refine (h.sw 2 1000).le ?_
 rintro r o ⟨_,_,⟨rfl,rfl⟩,rfl,rfl⟩
 refine ⟨envP [] [] 0 none 0 none,fun cx n h0=>?_,rfl,rfl,rfl⟩
 refine Le.trans (Le.subC 1000 0 rfl rfl (Sub.nil (sz:=16)) rfl rfl) ?_
 refine Le.trans (Le.tokO 1001 89 16 (k0:=1000) (j:=1) rfl rfl rfl rfl rfl (by rw [h0];rfl)) ?_
 refine Le.trans (Le.tokMC 1000 2 1002 rfl rfl rfl (by rw [h0];rfl) rfl) ?_
 refine Le.trans (Le.tokMC 1000 3 1003 rfl rfl rfl (by rw [h0];rfl) rfl) ?_
 exact Le.objs (.cons rfl rfl (.cons rfl rfl (.cons rfl rfl (.cons rfl rfl .nil)))) rfl
def envQ (b:Nat) (bl own:List Dcl) (pv:Nat) (pl:Option (List (ByteArray×Int))) (ov:Nat) (od:Option (List (ByteArray×Int))):Obs:=[(b,.ce 176 [.p (.sl 16 (encDs bl)),.ts (b+1) 16 (encDs own),.tm (b+2) pv,.tm (b+3) ov]),(b+1,.ar 89 16 (encDs own).length),(b+2,.mp pv pl),(b+3,.mp ov od)]
structure EnP (bl own:List Dcl) (pl:Option (List (ByteArray×Int))):Prop where
 pl:pl=some (plc (bl++own) 0)\/(pl=none/\bl++own=[])
 nd:(zz (bl++own)).Nodup
 nar:∀ d∈bl++own,narD d=true
 len:(bl++own).length<=100000000
 nm:∀ d∈bl++own,d.name.size<=9223372036854775807
theorem EnP.get {bl own:List Dcl} {pl:Option (List (ByteArray×Int))} (h:EnP bl own pl) (s:ByteArray):(pl.bind fun l=>mpGet l s).getD 0=match ixD (bl++own) s with
  | some i=>(i:Int)+1
  | none=>0:=by
 rcases h.pl with rfl | ⟨rfl,hE⟩
 ·simp only [Option.bind_some,zd7]
  cases ixD (bl++own) s with
  | none=>rfl
  | some j=>simp
 ·rw [hE];rfl
def zD:Dcl:=⟨0,0,0,⟨#[]⟩,⟨#[]⟩,⟨0,0,⟨#[]⟩,[],[]⟩,⟨0,0,⟨#[]⟩,[],[]⟩,[]⟩
def fndD (o:Option Dcl):AV:=match o with
 | some d=>.tp [dv d,.p (B true)]
 | none=>.tp [dv zD,.p (B false)]
end Go.Ab.YtpneaijfkefeaaaGreat
namespace Go.Ab
open Go Go.RowKit
mutual
def sizT:Trm->Nat
 | ⟨_,_,_,_,l⟩=>sizTs l+1
def sizTs:List Trm->Nat
 | []=>0
 | a::r=>sizT a+sizTs r
end
theorem z6k (t:Trm):sizT t=sizTs t.args+1:=by cases t;rfl
theorem ziz (l:List Trm) (a:Trm):sizTs (l++[a])=sizTs l+sizT a:=by
 induction l with
 | nil=>simp [sizTs]
 | cons b l ih=>simp only [List.cons_append,sizTs,ih];omega
theorem zd8 {l p q:List Trm} {a:Trm} (h:l=p++a::q):sizTs l=sizTs p+sizT a+sizTs q:=by
 subst h
 induction p with
 | nil=>simp [sizTs]
 | cons b p ih=>simp only [List.cons_append,sizTs,ih];omega
theorem znn (t:Trm):1<=sizT t:=by rw [z6k];omega
def mSz (t:Trm) (most:Int):Int:=min (sizT t:Int) (max most 0+1)
end Go.Ab
namespace Go.Ab.YtpneaijfkefeaaaGreat
open Go Go.RowKit Go.Ab Go.Proofs
theorem zd9 (t:Trm) (most:Int) (h0:-1000000<=most) (h1:most<=1000000):PCon Tryz.prog 30 [tv t,.p (I most)] (.p (I (mSz t most))):=by
 have ih:∀ a∈t.args,∀ m:Int,-1000000<=m->m<=1000000->PCon Tryz.prog 30 [tv a,.p (I m)] (.p (I (mSz a m))):=fun a ha m h0 h1=>zd9 a m h0 h1
 refine cv [] [] [] Tryz.func30 38 Tryz.ntmps30 rfl rfl fun cx hE=>?_
 refine loopP t.args (fun p=>[(6,.p (I p.length)),(5,.p (I (min ((sizTs p:Int)+1) (max most 0+1))))]) (fun p=>[]) (fun _=>True) [6,5] [] hE rfl rfl rfl ⟨Sub.refl _,Sub.i (by simp [sizTs];omega),rfl,trivial⟩ trivial (fun _=>fun hl=>brTe (brS (fun hb=>?_) (fun hb=>?_))) (fun p a q hq _=>fun hl=>brT' hq (brS (fun hb=>?_) (fun hb=>brS (fun hc=>And.intro (by omega) ?_) (fun hc=>?_))))
 ·refine And.intro (by omega) ⟨I_eq ?_,rfl⟩
  unfold mSz;rw [z6k];omega
 ·refine ⟨I_eq ?_,rfl⟩
  unfold mSz;rw [z6k];omega
 ·have:=znn a
  have:=zj hq
  have:=zc t.args
  refine idxT hq (And.intro (by omega) (call0 (ih a (zg hq) (max most 0-min ((sizTs p:Int)+1) (max most 0+1)) (by omega) (by omega)) (And.intro (by unfold mSz;omega) (And.intro (by omega) ?_))))
  exact ⟨trivial,Sub.i (by simp),Sub.i (by rw [ziz];unfold mSz;omega),rfl,trivial⟩
 ·refine ⟨I_eq ?_,rfl⟩
  unfold mSz;rw [z6k,zd8 hq];omega
 ·omega
termination_by SizeOf.sizeOf t
decreasing_by exact Trm.lt ha
theorem z8y (b:Nat) (bl own:List Dcl) (pv ov:Nat) (pl od:Option (List (ByteArray×Int))):renO (swE b) (envP bl own pv pl ov od)=envQ b bl own pv pl ov od:=by
 have e0:swE b 1000=b:=swE_0 b 0 (by decide)
 have e1:swE b 1001=b+1:=swE_0 b 1 (by decide)
 have e2:swE b 1002=b+2:=swE_0 b 2 (by decide)
 have e3:swE b 1003=b+3:=swE_0 b 3 (by decide)
 simp only [envP,envQ,renO,Ob.ren,AV.renL,AV.ren,e0,e1,e2,e3]
theorem Con.atQ {f:Nat} {args:List AV} {bl own:List Dcl} {pv ov:Nat} {pl od:Option (List (ByteArray×Int))} {x:AV} (b:Nat) (hb:b=1000\/1004<=b) (hx:∀ ρ,x.ren ρ=x) (ha:∀ ρ,AV.renL ρ args=args)
  (h:Con Tryz.prog f (.ptr 1000 0::args) (envP bl own pv pl ov od) (fun r o=>r=x/\o=envP bl own pv pl ov od)) :
  Con Tryz.prog f (.ptr b 0::args) (envQ b bl own pv pl ov od) (fun r o=>r=x/\o=envQ b bl own pv pl ov od):=by
 rcases hb with rfl | hb
 ·exact h
 ·have h2:=h.swE b hb
  rw [z8y] at h2
  have e:swE b 1000=b:=swE_0 b 0 (by decide)
  simp only [AV.renL,AV.ren,e,ha] at h2
  refine fun w M0 own' vals h3 h4=>(h2 w M0 own' vals h3 h4).mono ?_
  rintro e w' ⟨r,o,own2,v',e1,⟨r0,o0,⟨rfl,rfl⟩,rfl,rfl⟩,g⟩
  refine ⟨_,_,own2,v',e1,⟨rfl,rfl⟩,?_⟩
  rw [hx,z8y] at g
  exact g
def addF (bl own l:List Dcl):Int:=if (∃ d∈l,mayF d.name=false) then 9 else if ¬ (zz (bl++own++l)).Nodup then 10 else 0
theorem zwv (b:Nat) (hb:b=1000\/1004<=b) (bl own l:List Dcl) (pv ov:Nat) (pl:Option (List (ByteArray×Int))) (h:EnP bl own pl)
  (hlen:(bl++own).length+l.length<=100000000) (hnar:∀ d∈l,narD d=true) (hnm:∀ d∈l,d.name.size<=9223372036854775807) :
  Con Tryz.prog 105 [.ptr b 0,.p (.sl 16 (encDs l))] (envQ b bl own pv pl ov (odO (bl++own))) (fun r o=>r=.p (I (addF bl own l)) /\
   ∃ own' pv' pl' ov',EnP bl own' pl'/\o=envQ b bl own' pv' pl' ov' (odO (bl++own'))/\own'=if addF bl own l=0 then own++l else own):=by
 have h1:Con Tryz.prog 105 [.ptr 1000 0,.p (.sl 16 (encDs l))] (envP bl own pv pl ov (odO (bl++own))) (fun r o=>r=.p (I (addF bl own l)) /\
   ∃ own' pv' pl' ov',EnP bl own' pl'/\o=envP bl own' pv' pl' ov' (odO (bl++own'))/\own'=if addF bl own l=0 then own++l else own):=by
  refine fun w M0 own' vals h3 h4=>(zz05 bl own l pv ov pl h.pl h.nd (by omega) hnar hnm w M0 own' vals h3 h4).mono ?_
  rintro e w' ⟨r,o,own2,v',e1,hR,g⟩
  refine ⟨r,o,own2,v',e1,?_,g⟩
  rcases hR with ⟨h5,rfl,rfl⟩ | ⟨h5,h6,rfl,rfl⟩ | ⟨h5,h6,rfl,pv',ov',rfl⟩
  ·have e:addF bl own l=9:=by unfold addF;rw [if_pos h5]
   rw [e]
   exact ⟨rfl,own,pv,pl,ov,h,rfl,rfl⟩
  ·have h7:¬ ∃ d∈l,mayF d.name=false:=fun ⟨d,hd,hm⟩=>by rw [h5 d hd] at hm;cases hm
   have e:addF bl own l=10:=by unfold addF;rw [if_neg h7,if_pos h6]
   rw [e]
   exact ⟨rfl,own,pv,pl,ov,h,rfl,rfl⟩
  ·have h7:¬ ∃ d∈l,mayF d.name=false:=fun ⟨d,hd,hm⟩=>by rw [h5 d hd] at hm;cases hm
   have e:addF bl own l=0:=by unfold addF;rw [if_neg h7,if_neg (by simpa using h6)]
   rw [e]
   refine ⟨rfl,own++l,pv',some (plc (bl++own++l) 0),ov',⟨.inl (by rw [List.append_assoc]),by rw [<- List.append_assoc];exact h6,fun d hd=>?_,by rw [<- List.append_assoc,List.length_append];exact hlen,fun d hd=>?_⟩,by rw [<- List.append_assoc],by simp⟩
   ·rw [<- List.append_assoc] at hd
    rcases List.mem_append.1 hd with hd | hd
    ·exact h.nar d hd
    ·exact hnar d hd
   ·rw [<- List.append_assoc] at hd
    rcases List.mem_append.1 hd with hd | hd
    ·exact h.nm d hd
    ·exact hnm d hd
 rcases hb with rfl | hb
 ·exact h1
 ·have h2:=h1.swE b hb
  rw [z8y] at h2
  have e:swE b 1000=b:=swE_0 b 0 (by decide)
  simp only [AV.renL,AV.ren,e] at h2
  refine fun w M0 own' vals h3 h4=>(h2 w M0 own' vals h3 h4).mono ?_
  rintro e w' ⟨r,o,own2,v',e1,⟨r0,o0,⟨rfl,ow,pv',pl',ov',g1,rfl,g2⟩,rfl,rfl⟩,g⟩
  refine ⟨_,_,own2,v',e1,⟨rfl,ow,pv',pl',ov',g1,rfl,g2⟩,?_⟩
  rw [z8y] at g
  exact g
end Go.Ab.YtpneaijfkefeaaaGreat
set_option linter.unusedVariables false
set_option linter.unusedSimpArgs false
namespace Go.Ab
open Go Go.RowKit
def bndF (k i:Int):Int:=if (k=4\/k=5)/\i=1\/k=6/\i=2 then 1 else 0
theorem z5w (k i:Int):0<=bndF k i/\bndF k i<=1:=by unfold bndF;split<;>omega
def shpF (b k n:Int) (s:ByteArray) (nl na:Nat):Bool :=
 decide (argF k=na)&&(decide (0<=n/\n<=b)&&(decide (k≠0->n=0)&&(decide (k≠2->s=⟨#[]⟩)&&(decide (k=1->nl=1)&&(decide (k≠1->k≠2->nl=0)&&decide (nl<=1000000000000))))))
mutual
def wfT (b:Int):Trm->Bool
 | ⟨k,n,s,ls,l⟩=>shpF b k n s ls.length l.length&&(ls.all narL&&wfTs b l)
def wfTs (b:Int):List Trm->Bool
 | []=>true
 | a::r=>wfT b a&&wfTs b r
end
theorem zyd (b:Int) (t:Trm):wfT b t=(shpF b t.kind t.n t.name t.levels.length t.args.length&&(t.levels.all narL&&wfTs b t.args)):=by cases t;rfl
theorem wfTs_iff {b:Int}:∀ {l:List Trm},wfTs b l=true↔∀ a∈l,wfT b a=true
 | []=>by simp [wfTs]
 | a::r=>by simp [wfTs,wfTs_iff (l:=r)]
structure WfT (b:Int) (t:Trm):Prop where
 args:argF t.kind=t.args.length
 n0:0<=t.n
 n1:t.n<=b
 var:t.kind≠0->t.n=0
 name:t.kind≠2->t.name=⟨#[]⟩
 sort:t.kind=1->t.levels.length=1
 lev:t.kind≠1->t.kind≠2->t.levels.length=0
 few:t.levels.length<=1000000000000
 nar:∀ l∈t.levels,narL l=true
 sub:∀ a∈t.args,wfT b a=true
theorem zf {b:Int} {t:Trm} (h:wfT b t=true):WfT b t:=by
 rw [zyd] at h
 simp only [shpF,Bool.and_eq_true,decide_eq_true_eq,List.all_eq_true,wfTs_iff] at h
 exact ⟨h.1.1,h.1.2.1.1,h.1.2.1.2,h.1.2.2.1,h.1.2.2.2.1,h.1.2.2.2.2.1,h.1.2.2.2.2.2.1,h.1.2.2.2.2.2.2,h.2.1,h.2.2⟩
theorem z8z {b:Int} {t:Trm} (h:WfT b t):wfT b t=true:=by
 rw [zyd]
 simp only [shpF,Bool.and_eq_true,decide_eq_true_eq,List.all_eq_true,wfTs_iff]
 exact ⟨⟨h.args,⟨h.n0,h.n1⟩,h.var,h.name,h.sort,h.lev,h.few⟩,h.nar,h.sub⟩
theorem WfT.few_args {b:Int} {t:Trm} (h:WfT b t):t.args.length<=3:=by
 have:=h.args
 unfold argF at this
 split at this<;>(try split at this)<;>(try split at this)<;>omega
theorem WfT.var_args {b:Int} {t:Trm} (h:WfT b t) (hk:t.kind=0):t=⟨0,t.n,⟨#[]⟩,[],[]⟩:=by
 obtain ⟨k,n,s,ls,l⟩:=t
 have h1:=h.args;have h2:=h.name;have h3:=h.lev
 simp only at hk h1 h2 h3 ⊢
 subst hk
 simp [argF] at h1 h2 h3
 subst h2
 have h4:l=[]:=List.length_eq_zero_iff.1 (by omega)
 simp [h4,h3]
mutual
theorem zbi {b:Int}:∀ t:Trm,wfT b t=true->narT t=true
 | ⟨k,n,s,ls,l⟩,h=>by
   have g:=zf h
   have h1:=g.few_args
   have h2:=g.few
   have h3:=g.nar
   simp only at h1 h2 h3
   simp only [narT,Bool.and_eq_true,decide_eq_true_eq]
   refine ⟨⟨⟨by omega,?_⟩,by omega⟩,zf5 l (wfTs_iff.2 g.sub)⟩
   clear h g h1 h2
   induction ls with
   | nil=>rfl
   | cons a r ih=>simp only [narLs,Bool.and_eq_true];exact ⟨h3 a (by simp),ih fun l hl=>h3 l (by simp [hl])⟩
theorem zf5 {b:Int}:∀ l:List Trm,wfTs b l=true->narTs l=true
 | [],_=>rfl
 | a::r,h=>by
   simp only [wfTs,Bool.and_eq_true] at h
   simp only [narTs,zbi a h.1,zf5 r h.2,Bool.and_self]
end
mutual
theorem z1b {b c:Int} (hb:b<=c):∀ t:Trm,wfT b t=true->wfT c t=true
 | ⟨k,n,s,ls,l⟩,h=>by
   simp only [wfT,shpF,Bool.and_eq_true,decide_eq_true_eq] at h ⊢
   exact ⟨⟨h.1.1,by omega,h.1.2.2⟩,h.2.1,zj0 hb l h.2.2⟩
theorem zj0 {b c:Int} (hb:b<=c):∀ l:List Trm,wfTs b l=true->wfTs c l=true
 | [],_=>rfl
 | a::r,h=>by
   simp only [wfTs,Bool.and_eq_true] at h
   simp only [wfTs,z1b hb a h.1,zj0 hb r h.2,Bool.and_self]
end
mutual
def dpT:Trm->Nat
 | ⟨_,_,_,_,l⟩=>dpTs l+1
def dpTs:List Trm->Nat
 | []=>0
 | a::r=>max (dpT a) (dpTs r)
end
theorem z5g (t:Trm):dpT t=dpTs t.args+1:=by cases t;rfl
theorem zgz:∀ {l:List Trm} {a:Trm},a∈l->dpT a<=dpTs l
 | b::r,a,h=>by
   simp only [dpTs]
   rcases List.mem_cons.1 h with rfl | h
   ·omega
   ·have:=zgz h;omega
theorem z1h {t a:Trm} (h:a∈t.args):dpT a+1<=dpT t:=by rw [z5g t];have:=zgz h;omega
mutual
theorem zda:∀ t:Trm,dpT t<=sizT t
 | ⟨_,_,_,_,l⟩=>by simp only [dpT,sizT];have:=zno l;omega
theorem zno:∀ l:List Trm,dpTs l<=sizTs l
 | []=>Nat.le_refl _
 | a::r=>by simp only [dpTs,sizTs];have:=zda a;have:=zno r;omega
end
mutual
def trvT (f:Int->Trm->Trm):Trm->Int->Trm
 | ⟨k,n,s,ls,l⟩,d=>if k=0 then f d ⟨k,n,s,ls,l⟩ else ⟨k,n,s,ls,trvTs f k l 0 d⟩
def trvTs (f:Int->Trm->Trm) (k:Int):List Trm->Int->Int->List Trm
 | [],_,_=>[]
 | a::r,i,d=>trvT f a (d+bndF k i)::trvTs f k r (i+1) d
end
theorem z7w (f:Int->Trm->Trm) (t:Trm) (d:Int):trvT f t d=if t.kind=0 then f d t else ⟨t.kind,t.n,t.name,t.levels,trvTs f t.kind t.args 0 d⟩:=by cases t;rfl
theorem z2k (f:Int->Trm->Trm) (k:Int):∀ (l:List Trm) (i d:Int),(trvTs f k l i d).length=l.length
 | [],_,_=>rfl
 | a::r,i,d=>by simp [trvTs,z2k f k r]
theorem zj1 (f:Int->Trm->Trm) (k:Int):∀ (l q:List Trm) (i d:Int),trvTs f k (l++q) i d=trvTs f k l i d++trvTs f k q (i+l.length) d
 | [],q,i,d=>by simp [trvTs]
 | a::r,q,i,d=>by
   simp only [List.cons_append,trvTs,zj1 f k r q (i+1) d,List.length_cons]
   congr 2
   rw [show i+1+(r.length:Int)=i+(↑(r.length+1):Int) by push_cast;omega]
theorem z6x (f:Int->Trm->Trm) (k:Int) (p:List Trm) (a:Trm) (d:Int):trvTs f k (p++[a]) 0 d=trvTs f k p 0 d++[trvT f a (d+bndF k p.length)]:=by
 rw [zj1];simp [trvTs]
def lftV (by_ from_:Int) (d:Int) (v:Trm):Trm:=if from_+d<=v.n then ⟨v.kind,v.n+by_,v.name,v.levels,v.args⟩ else v
def lftT (by_:Int) (t:Trm) (from_:Int):Trm:=trvT (lftV by_ 0) t from_
def opnV (vs:List Trm) (d:Int) (v:Trm):Trm :=
 if v.n<d then v else if v.n-d<vs.length then lftT d (vs.getD (vs.length-1-(v.n-d).toNat) ⟨0,0,⟨#[]⟩,[],[]⟩) 0 else ⟨v.kind,v.n-vs.length,v.name,v.levels,v.args⟩
def opnT (vs:List Trm) (t:Trm) (d:Int):Trm:=trvT (opnV vs) t d
mutual
theorem z5h:∀ (t:Trm) (d:Int),lftT 0 t d=t
 | ⟨k,n,s,ls,l⟩,d=>by
   have:=zf6 k l 0 d
   simp only [lftT,trvT,lftV]
   split
   ·simp
   ·rw [this]
theorem zf6 (k:Int):∀ (l:List Trm) (i d:Int),trvTs (lftV 0 0) k l i d=l
 | [],_,_=>rfl
 | a::r,i,d=>by
   have h1:=z5h a (d+bndF k i)
   have h2:=zf6 k r (i+1) d
   simp only [lftT] at h1
   simp only [trvTs,h1,h2]
end
def mkV (n:Int):Trm:=⟨0,n,⟨#[]⟩,[],[]⟩
def mkA (f a:Trm):Trm:=⟨3,0,⟨#[]⟩,[],[f,a]⟩
def mkB (k:Int) (a b:Trm):Trm:=⟨k,0,⟨#[]⟩,[],[a,b]⟩
def appT (t:Trm):List Trm->Trm
 | []=>t
 | a::r=>appT (mkA t a) r
theorem znp (t:Trm):∀ l q:List Trm,appT t (l++q)=appT (appT t l) q:=by
 intro l
 induction l generalizing t with
 | nil=>intro q;rfl
 | cons a r ih=>intro q;simp only [List.cons_append,appT,ih]
def spnT:Trm->List Trm->Trm×List Trm
 | ⟨k,n,s,ls,l⟩,acc=>if k=3 then (match l with
   | [f,a]=>spnT f (a::acc)
   | _=>(⟨k,n,s,ls,l⟩,acc)) else (⟨k,n,s,ls,l⟩,acc)
def headT (t:Trm):Trm:=(spnT t []).1
def argsT (t:Trm):List Trm:=(spnT t []).2
theorem z6y:∀ (t:Trm) (acc:List Trm),spnT t acc=((spnT t []).1,(spnT t []).2++acc)
 | ⟨k,n,s,ls,l⟩,acc=>by
   unfold spnT
   split
   ·match l with
    | [f,a]=>simp only;rw [z6y f (a::acc),z6y f [a]];simp
    | []=>simp
    | [_]=>simp
    | _::_::_::_=>simp
   ·simp
termination_by t=>SizeOf.sizeOf t
mutual
def eqL':Lvl->Lvl->Bool
 | ⟨k,n,l⟩,⟨k',n',l'⟩=>decide (k=k')&&(decide (n=n')&&eqLs' l l')
def eqLs':List Lvl->List Lvl->Bool
 | [],[]=>true
 | a::r,b::s=>eqL' a b&&eqLs' r s
 | [],_::_=>false
 | _::_,[]=>false
end
mutual
theorem zww:∀ a b:Lvl,eqL' a b=true↔a=b
 | ⟨k,n,l⟩,⟨k',n',l'⟩=>by simp [eqL',z9a l l']
theorem z9a:∀ l m:List Lvl,eqLs' l m=true↔l=m
 | [],[]=>by simp [eqLs']
 | a::r,b::s=>by simp [eqLs',zww a b,z9a r s]
 | [],_::_=>by simp [eqLs']
 | _::_,[]=>by simp [eqLs']
end
mutual
def eqT:Trm->Trm->Bool
 | ⟨k,n,s,ls,l⟩,⟨k',n',s',ls',l'⟩=>decide (k=k')&&(decide (n=n')&&(decide (s=s')&&(eqLs' ls ls'&&eqTs l l')))
def eqTs:List Trm->List Trm->Bool
 | [],[]=>true
 | a::r,b::s=>eqT a b&&eqTs r s
 | [],_::_=>false
 | _::_,[]=>false
end
theorem zz25 (a b:Trm):eqT a b=(decide (a.kind=b.kind)&&(decide (a.n=b.n)&&(decide (a.name=b.name)&&(eqLs' a.levels b.levels&&eqTs a.args b.args)))):=by cases a;cases b;rfl
theorem zz06 (a b:Lvl):eqL' a b=(decide (a.kind=b.kind)&&(decide (a.n=b.n)&&eqLs' a.args b.args)):=by cases a;cases b;rfl
mutual
theorem zdb:∀ a b:Trm,eqT a b=true↔a=b
 | ⟨k,n,s,ls,l⟩,⟨k',n',s',ls',l'⟩=>by simp [eqT,z9b l l',z9a]
theorem z9b:∀ l m:List Trm,eqTs l m=true↔l=m
 | [],[]=>by simp [eqTs]
 | a::r,b::s=>by simp [eqTs,zdb a b,z9b r s]
 | [],_::_=>by simp [eqTs]
 | _::_,[]=>by simp [eqTs]
end
theorem zwx (a:Trm):eqT a a=true:=(zdb a a).2 rfl
mutual
def usT:Trm->Int->Bool
 | ⟨k,n,s,ls,l⟩,i=>if k=0 then decide (n=i) else usTs k l 0 i
def usTs (k:Int):List Trm->Int->Int->Bool
 | [],_,_=>false
 | a::r,j,i=>usT a (i+bndF k j) || usTs k r (j+1) i
end
end Go.Ab
namespace Go.Ab
open Go Go.RowKit
theorem zdc:∀ {l m:List Lvl},l.length=m.length->eqLs' l m=(l.zip m).all fun p=>eqL' p.1 p.2
 | [],[],_=>rfl
 | a::r,b::s,h=>by simp only [eqLs',List.zip_cons_cons,List.all_cons];rw [zdc (by simpa using h)]
 | [],_::_,h=>by cases h
 | _::_,[],h=>by cases h
theorem znq:∀ {l m:List Trm},l.length=m.length->eqTs l m=(l.zip m).all fun p=>eqT p.1 p.2
 | [],[],_=>rfl
 | a::r,b::s,h=>by simp only [eqTs,List.zip_cons_cons,List.all_cons];rw [znq (by simpa using h)]
 | [],_::_,h=>by cases h
 | _::_,[],h=>by cases h
theorem zj2 {l m:List Lvl} (h:l.length≠m.length):eqLs' l m=false:=by
 cases hb:eqLs' l m with
 | false=>rfl
 | true=>exact absurd (congrArg List.length ((z9a l m).1 hb)) h
theorem zwy {l m:List Trm} (h:l.length≠m.length):eqTs l m=false:=by
 cases hb:eqTs l m with
 | false=>rfl
 | true=>exact absurd (congrArg List.length ((z9b l m).1 hb)) h
theorem WfT.noargs {b:Int} {t:Trm} (h:WfT b t) (hk:t.kind=0):t.args=[]:=by rw [h.var_args hk]
theorem zz07 {b by_:Int} {t:Trm} (h:wfT b t=true) (from_:Int):lftT by_ t from_=⟨t.kind,if t.kind=0/\from_<=t.n then t.n+by_ else t.n,t.name,t.levels,trvTs (lftV by_ 0) t.kind t.args 0 from_⟩:=by
 unfold lftT
 rw [z7w]
 split
 ·rename_i hk
  rw [(zf h).noargs hk]
  have ha:=(zf h).noargs hk
  obtain ⟨k,n,s,ls,l⟩:=t
  simp only at ha hk
  subst ha hk
  simp only [lftV,Int.zero_add,trvTs,true_and]
  split<;>rfl
 ·rename_i hk
  simp only [hk,false_and,if_false]
end Go.Ab
namespace Go.Ab
open Go Go.RowKit
theorem zsg {b:Int} {vs:List Trm} {t:Trm} (h:wfT b t=true) (d:Int) (hn:¬ (t.kind=0/\d<=t.n)):opnT vs t d=⟨t.kind,t.n,t.name,t.levels,trvTs (opnV vs) t.kind t.args 0 d⟩:=by
 unfold opnT
 rw [z7w]
 split
 ·rename_i hk
  have ha:=(zf h).noargs hk
  obtain ⟨k,n,s,ls,l⟩:=t
  simp only at ha hk hn
  subst ha hk
  simp only [opnV,trvTs]
  rw [if_pos (by omega)]
 ·rfl
theorem zh0 {b:Int} {vs:List Trm} {t:Trm} (h:wfT b t=true) (d:Int) (hk:t.kind=0) (hn:d<=t.n):opnT vs t d=if t.n-d<vs.length then lftT d (vs.getD (vs.length-1-(t.n-d).toNat) ⟨0,0,⟨#[]⟩,[],[]⟩) 0 else mkV (t.n-vs.length):=by
 unfold opnT
 rw [z7w,if_pos hk]
 have hv:=(zf h).var_args hk
 unfold opnV
 rw [if_neg (by omega)]
 split
 ·rfl
 ·rw [hv];rfl
theorem znr {by_:List Lvl} (hby:∀ x∈by_,narL x=true):∀ x:Lvl,narL x=true->narL (putF by_ x)=true
 | ⟨k, n,l⟩,h=>by
   have h1:=zlo h
   have h2:∀ y∈l,narL y=true:=fun y hy=>zlp h hy
   rw [zd1]
   split
   ·rename_i hp
    exact hby _ (zaf hp.2.1 hp.2.2).2
   ·simp only [narL,Bool.and_eq_true,decide_eq_true_eq,z1o,List.length_map]
    refine ⟨h1,?_⟩
    have:∀ q:List Lvl,(∀ y∈q,narL (putF by_ y)=true)->narLs (q.map (putF by_))=true:=by
     intro q
     induction q with
     | nil=>intro _;rfl
     | cons y q ih=>intro hq;simp only [List.map_cons,narLs,Bool.and_eq_true];exact ⟨hq y (by simp),ih fun z hz=>hq z (by simp [hz])⟩
    exact this l fun y hy=>znr hby y (h2 y hy)
termination_by x=>SizeOf.sizeOf x
decreasing_by exact Lvl.lt (t:=⟨k,n,l⟩) hy
theorem zaj {b:Int} {by_:List Lvl} (hby:∀ x∈by_,narL x=true):∀ t:Trm,wfT b t=true->wfT b (lvsT by_ t)=true
 | ⟨k,n,s,ls,l⟩,h=>by
   have w:=zf h
   have hp:∀ x:Lvl,narL x=true->narL (putF by_ x)=true:=fun x hx=>znr hby x hx
   refine z8z ⟨?_,w.n0,w.n1,w.var,w.name,?_,?_,?_,?_,?_⟩
   ·have:=w.args;simpa [lvsT,z3s] using this
   ·have:=w.sort;simpa [lvsT,z1o] using this
   ·have:=w.lev;simpa [lvsT,z1o] using this
   ·have:=w.few;simpa [lvsT,z1o] using this
   ·intro x hx
    simp only [lvsT,z1o,List.mem_map] at hx
    obtain ⟨y,hy,rfl⟩:=hx
    exact hp y (w.nar y hy)
   ·intro a ha
    simp only [lvsT,z3s,List.mem_map] at ha
    obtain ⟨y,hy,rfl⟩:=ha
    exact zaj hby y (w.sub y hy)
termination_by t=>SizeOf.sizeOf t
decreasing_by exact Trm.lt (t:=⟨k,n,s,ls,l⟩) hy
end Go.Ab
set_option linter.unusedVariables false
set_option linter.unusedSimpArgs false
namespace Go.Ab
open Go Go.RowKit
mutual
def prtL:Lvl->Nat
 | ⟨_,_,l⟩=>prtLs l+1
def prtLs:List Lvl->Nat
 | []=>0
 | a::r=>prtL a+prtLs r
end
mutual
def depL:Lvl->Nat
 | ⟨_,_,l⟩=>depLs l+1
def depLs:List Lvl->Nat
 | []=>0
 | a::r=>max (depL a) (depLs r)
end
def smlL (l:Lvl):Bool:=decide (prtL l<=64)&&decide (depL l<=32)
mutual
def smlT:Trm->Bool
 | ⟨_,_,_,ls,l⟩=>ls.all smlL&&smlTs l
def smlTs:List Trm->Bool
 | []=>true
 | a::r=>smlT a&&smlTs r
end
theorem zls (t:Trm):smlT t=(t.levels.all smlL&&smlTs t.args):=by cases t;rfl
theorem zh1 (l:Lvl):prtL l=prtLs l.args+1:=by cases l;rfl
theorem zh2 (l:Lvl):depL l=depLs l.args+1:=by cases l;rfl
def fitsT (c:Int) (t:Trm):Bool:=decide ((sizT t:Int)<=max c 0)&&smlT t
def piL:Trm->List Trm
 | ⟨k,_,_,_,l⟩=>if k=5 then (match l with
   | [a,b]=>a::piL b
   | _=>[]) else []
def piE:Trm->Trm
 | ⟨k,n,s,ls,l⟩=>if k=5 then (match l with
   | [a,b]=>piE b
   | _=>⟨k,n,s,ls,l⟩) else ⟨k,n,s,ls,l⟩
def lamsT (xs:List Trm) (t:Trm):Trm:=xs.foldr (mkB 4) t
def varsT:Nat->List Trm
 | 0=>[]
 | n+1=>mkV n::varsT n
def zT:Trm:=⟨0,0,⟨#[]⟩,[],[]⟩
structure RecI where
 fam:Dcl
 p:Nat
 major:Nat
def z1u (ds:List Dcl) (h:Trm):Option RecI :=
 if h.kind=2 then (match findD ds h.name with
  | none=>none
  | some d=>if d.kind=5/\d.params=h.levels.length then (match findD ds d.family with
    | none=>none
    | some f=>if f.kind=3/\0<=f.count/\f.count<=(piL f.type).length then some ⟨f,f.count.toNat,f.count.toNat+1+f.ctors.length+((piL f.type).length-f.count.toNat)⟩ else none) else none) else none
def z1y:List Ctr->ByteArray->Option Nat
 | [],_=>none
 | c::r,s=>if c.name=s then some 0 else (z1y r s).map (·+1)
def hypF (r:RecI) (h:Trm) (args:List Trm) (field:Trm) (ahead:List Trm) (b:Trm):Option Trm :=
 if (headT (piE field)).kind=2/\(headT (piE field)).name=r.fam.name then
  some (lamsT (piL (opnT (args.take r.p++ahead) (lvsT h.levels field) 0))
   (mkA (appT (appT h ((args.take (r.p+1+r.fam.ctors.length)).map fun a=>lftT (piL field).length a 0)) ((argsT (piE (opnT (args.take r.p++ahead) (lvsT h.levels field) 0))).drop r.p))
    (appT (lftT (piL field).length b 0) (varsT (piL field).length))))
 else none
def hypsF (r:RecI) (h:Trm) (args:List Trm):List Trm->List Trm->List Trm->Trm->Trm
 | f::fs,ahead,b::bs,out=>hypsF r h args fs (ahead++[b]) bs (match hypF r h args f ahead b with
   | some x=>mkA out x
   | none=>out)
 | _,_,_,out=>out
def iotaF (ds:List Dcl) (t major:Trm):Option Trm :=
 match z1u ds (headT t) with
 | none=>none
 | some r=>if r.major<(argsT t).length/\(headT major).kind=2 then (match z1y r.fam.ctors (headT major).name with
   | none=>none
   | some k=>if (argsT major).length=r.p+((piL (r.fam.ctors.getD k default).ty).length-r.p) then
      some (appT (hypsF r (headT t) (argsT t) ((piL (r.fam.ctors.getD k default).ty).drop r.p) [] ((argsT major).drop r.p)
       (appT ((argsT t).getD (r.p+1+k) zT) ((argsT major).drop r.p))) ((argsT t).drop (r.major+1)))
     else none) else none
abbrev WR:=Trm×Int×Int
abbrev OR:=Trm×Bool×Int×Int
end Go.Ab
namespace Go.Ab
open Go Go.RowKit
def piD:Nat->Trm->Trm
 | 0,t=>t
 | n+1,⟨k,m,s,ls,l⟩=>if k=5 then (match l with
   | [a,b]=>piD n b
   | _=>⟨k,m,s,ls,l⟩) else ⟨k,m,s,ls,l⟩
theorem z2d {u x y:Trm} (hk:u.kind=5) (ha:u.args=[x,y]):piL u=x::piL y/\piE u=piE y/\∀ n,piD (n+1) u=piD n y:=by
 obtain ⟨k,n,s,ls,l⟩:=u
 simp only at hk ha
 subst hk ha
 exact ⟨by simp [piL],by simp [piE],fun n=>by simp [piD]⟩
theorem z2t {u:Trm} (h:¬ (u.kind=5/\u.args.length=2)):piL u=[]/\piE u=u/\∀ n,piD n u=u:=by
 obtain ⟨k,n,s,ls,l⟩:=u
 simp only at h
 have key:∀ (P:Prop),(k=5->∀ a b,l=[a,b]->False):=fun _ hk a b hl=>h ⟨hk,by rw [hl];rfl⟩
 refine ⟨?_,?_,fun n=>?_⟩
 ·unfold piL;split
  ·rename_i hk;split
   ·exact (h ⟨hk,rfl⟩).elim
   ·rfl
  ·rfl
 ·unfold piE;split
  ·rename_i hk;split
   ·exact (h ⟨hk,rfl⟩).elim
   ·rfl
  ·rfl
 ·cases n with
  | zero=>rfl
  | succ n =>
    unfold piD;split
    ·rename_i hk;split
     ·exact (h ⟨hk,rfl⟩).elim
     ·rfl
    ·rfl
theorem z3d {l:List Trm} (h:l.length=2):∃ x y,l=[x,y]:=by
 match l,h with
 | [x,y],_=>exact ⟨x,y,rfl⟩
theorem piE_D:∀ t:Trm,piD (piL t).length t=piE t
 | ⟨k,n,s,ls,l⟩=>by
   by_cases h:k=5/\l.length=2
   ·obtain ⟨x,y,rfl⟩:=z3d h.2
    have hp:=z2d (u:=⟨k,n,s,ls,[x,y]⟩) h.1 rfl
    rw [hp.1,hp.2.1,List.length_cons,hp.2.2]
    exact piE_D y
   ·have hp:=z2t (u:=⟨k,n,s,ls,l⟩) h
    rw [hp.2.1,hp.2.2]
termination_by t=>SizeOf.sizeOf t
theorem z3y:∀ t:Trm,(piL t).length+dpT (piE t)<=dpT t
 | ⟨k,n,s,ls,l⟩=>by
   by_cases h:k=5/\l.length=2
   ·obtain ⟨x,y,rfl⟩:=z3d h.2
    have hp:=z2d (u:=⟨k,n,s,ls,[x,y]⟩) h.1 rfl
    have ih:=z3y y
    have:=z1h (t:=⟨k,n,s,ls,[x,y]⟩) (a:=y) (by simp)
    rw [hp.1,hp.2.1,List.length_cons];omega
   ·have hp:=z2t (u:=⟨k,n,s,ls,l⟩) h
    rw [hp.1,hp.2.1];simp
termination_by t=>SizeOf.sizeOf t
theorem pi_wf {b:Int}:∀ t:Trm,wfT b t=true->(∀ x∈piL t,wfT b x=true/\dpT x<=dpT t)/\wfT b (piE t)=true
 | ⟨k,n,s,ls,l⟩,hw=>by
   by_cases h:k=5/\l.length=2
   ·obtain ⟨x,y,rfl⟩:=z3d h.2
    have hp:=z2d (u:=⟨k,n,s,ls,[x,y]⟩) h.1 rfl
    have w:=zf hw
    have ih:=pi_wf y (w.sub y (by simp))
    have h1:=z1h (t:=⟨k,n,s,ls,[x,y]⟩) (a:=y) (by simp)
    have h2:=z1h (t:=⟨k,n,s,ls,[x,y]⟩) (a:=x) (by simp)
    rw [hp.1,hp.2.1]
    refine ⟨fun z hz=>?_,ih.2⟩
    rcases List.mem_cons.1 hz with rfl | hz
    ·exact ⟨w.sub z (by simp),by omega⟩
    ·exact ⟨(ih.1 z hz).1,by have:=(ih.1 z hz).2;omega⟩
   ·have hp:=z2t (u:=⟨k,n,s,ls,l⟩) h
    rw [hp.1,hp.2.1]
    exact ⟨fun x hx=>(by cases hx),hw⟩
termination_by t=>SizeOf.sizeOf t
theorem zf7 {l:List Trm} {k:Nat} {a:Trm} (h:l[k]?=some a) (t:Trm):lamsT (l.drop k) t=mkB 4 a (lamsT (l.drop (k+1)) t):=by
 obtain ⟨hk,rfl⟩:=List.getElem?_eq_some_iff.1 h
 rw [List.drop_eq_getElem_cons hk];rfl
end Go.Ab
namespace Go.Ab
open Go Go.RowKit
mutual
def smlC:Lvl->Int->Int->Bool×Int
 | ⟨_,_,l⟩,d,p=>if d>32\/p+1>64 then (false,p+1) else smlCs l (d+1) (p+1)
def smlCs:List Lvl->Int->Int->Bool×Int
 | [],_,p=>(true,p)
 | a::r,d,p=>if (smlC a d p).1=true then smlCs r d (smlC a d p).2 else (false,(smlC a d p).2)
end
theorem zsh (l:Lvl) (d p:Int):smlC l d p=if d>32\/p+1>64 then (false,p+1) else smlCs l.args (d+1) (p+1):=by cases l;rfl
theorem zwz (l:Lvl):1<=prtL l:=by rw [zh1];omega
theorem zx0 (l:Lvl):1<=depL l:=by rw [zh2];omega
mutual
theorem zdd:∀ (l:Lvl) (d p:Int),((smlC l d p).1=true↔d-1+depL l<=32/\p+prtL l<=64)/\((smlC l d p).1=true->(smlC l d p).2=p+prtL l)
 | ⟨k,n,l⟩,d,p=>by
   simp only [smlC,depL,prtL]
   split
   ·exact ⟨⟨fun h=>(by cases h),fun h=>by omega⟩,fun h=>(by cases h)⟩
   ·have ih:=zf8 l (d+1) (p+1) (by omega) (by omega)
    exact ⟨⟨fun h=>by have:=ih.1.1 h;omega,fun h=>ih.1.2 (by omega)⟩,fun h=>by rw [ih.2 h];omega⟩
theorem zf8:∀ (l:List Lvl) (d p:Int),d<=33->p<=64->((smlCs l d p).1=true↔d-1+depLs l<=32/\p+prtLs l<=64)/\((smlCs l d p).1=true->(smlCs l d p).2=p+prtLs l)
 | [],d,p,hd,hp=>by
   simp only [smlCs,depLs,prtLs]
   exact ⟨⟨fun _=>by omega,fun _=>trivial⟩,fun _=>by omega⟩
 | a :: r,d,p,hd,hp=>by
   have h1:=zdd a d p
   simp only [smlCs,depLs,prtLs]
   split
   ·rename_i ht
    have h2:=h1.2 ht
    have h4:=h1.1.1 ht
    rw [h2]
    have ih:=zf8 r d (p+prtL a) hd (by omega)
    exact ⟨⟨fun h=>by have:=ih.1.1 h;omega,fun h=>ih.1.2 (by omega)⟩,fun h=>by rw [ih.2 h];omega⟩
   ·rename_i ht
    exact ⟨⟨fun h=>(by cases h),fun h=>absurd (h1.1.2 (by omega)) ht⟩,fun h=>(by cases h)⟩
end
theorem zns (l:Lvl):(smlC l 1 0).1=smlL l:=by
 rw [Bool.eq_iff_iff,(zdd l 1 0).1];unfold smlL
 simp;omega
theorem zz08:∀ (l:Lvl) (d p:Int),0<=p->p<=64->0<=(smlC l d p).2/\((smlC l d p).1=true->(smlC l d p).2<=64):=fun l d p h0 h1=>by
 have hs:=zdd l d p
 refine ⟨?_,fun h=>?_⟩
 ·have:∀ (n:Nat) (l:List Lvl) (d p:Int),0<=p->(∀ a∈l,∀ d p,0<=p->0<=(smlC a d p).2)->0<=(smlCs l d p).2:=by
   intro n l
   induction l with
   | nil=>intro d p h _;exact h
   | cons a r ih =>
     intro d p h hm
     simp only [smlCs]
     split
     ·exact ih d _ (hm a (by simp) d p h) fun b hb=>hm b (by simp [hb])
     ·exact hm a (by simp) d p h
  have key:∀ (n:Nat) (l:Lvl),SizeOf.sizeOf l<=n->∀ d p,0<=p->0<=(smlC l d p).2:=by
   intro n
   induction n with
   | zero=>intro l hl;cases l;simp at hl
   | succ n ih =>
     intro l hl d p hp
     rw [zsh]
     split
     ·simp only;omega
     ·exact this 0 l.args _ _ (by omega) fun a ha d p hp=>ih a (by have:=Lvl.lt ha;omega) d p hp
  exact key _ l (Nat.le_refl _) d p h0
 ·have h2:=hs.2 h
  have h4:=hs.1.1 h
  omega
theorem zsi (p:List Lvl) (a:Lvl):prtLs (p++[a])=prtLs p+prtL a:=by
 induction p with
 | nil=>simp [prtLs]
 | cons b p ih=>simp only [List.cons_append,prtLs,ih];omega
theorem zsj (p:List Lvl) (a:Lvl):depLs (p++[a])=max (depLs p) (depL a):=by
 induction p with
 | nil=>simp [depLs]
 | cons b p ih=>simp only [List.cons_append,depLs,ih];omega
theorem zsk {l p q:List Lvl} {a:Lvl} (h:l=p++a::q):prtLs l=prtLs p+prtL a+prtLs q:=by
 subst h
 induction p with
 | nil=>simp [prtLs]
 | cons b p ih=>simp only [List.cons_append,prtLs,ih];omega
theorem z9c:∀ l:List Trm,smlTs l=l.all smlT
 | []=>rfl
 | a::r=>by simp [smlTs,z9c r]
theorem zj3:∀ (p q:List Lvl) (d n:Int),(smlCs p d n).1=true->smlCs (p++q) d n=smlCs q d (smlCs p d n).2
 | [],q,d,n,_=>rfl
 | a::p,q,d,n,h=>by
   simp only [smlCs] at h
   simp only [List.cons_append,smlCs]
   split at h
   ·rename_i hc;rw [if_pos hc,if_pos hc];exact zj3 p q d _ h
   ·cases h
end Go.Ab
set_option linter.unusedVariables false
set_option linter.unusedSimpArgs false
namespace Go.Ab
open Go Go.RowKit
structure Rd where
 pos:Nat
 err:Int
 place:Int
 terms:Int
 left:Int
def Rd.fail (r:Rd) (e p:Int):Rd:=if r.err=0 then ⟨r.pos,e,p,r.terms,r.left⟩ else r
def Rd.at (r:Rd) (i:Nat):Rd:=⟨i,r.err,r.place,r.terms,r.left⟩
def blkL (s:ByteArray):Nat->Nat->Nat
 | 0,i=>i
 | g+1,i=>if i<s.size/\(bat s i=32\/bat s i=10) then blkL s g (i+1) else i
def Rd.bl (s:ByteArray) (r:Rd):Rd:=r.at (blkL s s.size r.pos)
def Rd.pk (s:ByteArray) (r:Rd):Int:=if r.err=0/\(r.bl s).pos<s.size then bat s (r.bl s).pos else 0
def Rd.must (s:ByteArray) (c:Int) (r:Rd):Rd :=
 if r.pk s=c/\(r.bl s).pos<s.size then (r.bl s).at ((r.bl s).pos+1) else (r.bl s).fail 5 (min (r.bl s).pos s.size:Nat)
def zL:Lvl:=⟨0,0,[]⟩
def parF (s:ByteArray) (r:Rd):Lvl×Rd :=
 if r.pos<s.size/\digF (bat s r.pos)=true then (⟨4,bat s r.pos-48,[]⟩,(if bat s r.pos-48≥4 then r.fail 7 r.pos else r).at (r.pos+1)) else (zL,r.fail 5 r.pos)
def lvcF (c:Int):Prop:=c=48\/c=83\/c=77\/c=73\/c=112
instance (c:Int):Decidable (lvcF c):=by unfold lvcF;exact inferInstance
def gateL (deep:Int) (r:Rd):Rd:=if deep>32 then (if r.left=0 then r.fail 3 r.pos else r).fail 6 r.pos else (if r.left=0 then r.fail 3 r.pos else r)
def Rd.lev (r:Rd):Rd:=⟨r.pos+1,r.err,r.place,r.terms,r.left-1⟩
def lvlF (s:ByteArray):Nat->Int->Rd->Option (Lvl×Rd)
 | 0,_,_=>none
 | g + 1,deep,r=>if ¬ ((r.bl s).pos<s.size/\lvcF (r.pk s)) then some (zL,(r.bl s).fail 5 (r.bl s).pos)
   else if (gateL deep (r.bl s)).err≠0 then some (zL,gateL deep (r.bl s))
   else if r.left<0\/r.left>1000 then none
   else if r.pk s=48 then some (zL,(gateL deep (r.bl s)).lev)
   else if r.pk s=83 then (match lvlF s g (deep+1) (gateL deep (r.bl s)).lev with
    | none=>none
    | some (a,r1)=>some (⟨1,0,[a]⟩,r1))
   else if r.pk s=112 then some (parF s (gateL deep (r.bl s)).lev)
   else match lvlF s g (deep+1) (gateL deep (r.bl s)).lev with
    | none=>none
    | some (a,r1)=>(match lvlF s g (deep+1) r1 with
      | none=>none
      | some (b,r2)=>some (⟨if r.pk s=73 then 3 else 2,0,[a,b]⟩,r2))
def oneF (s:ByteArray) (r:Rd):Option (Lvl×Rd):=lvlF s 40 1 ⟨r.pos,r.err,r.place,r.terms,64⟩
def numL (s:ByteArray) (from_:Nat):Nat->Rd->Option (Bool×Rd)
 | 0,_=>none
 | g + 1,r=>if r.pos<s.size/\digF (bat s r.pos)=true then (if r.pos=from_+7 then some (true,r.fail 3 from_)
     else if r.pos=from_+1/\bat s from_=48 then some (true,r.fail 5 r.pos)
     else numL s from_ g (r.at (r.pos+1)))
   else some (false,r)
def valL (s:ByteArray) (to:Nat):Nat->Nat->Int->Option Int
 | 0,_,_=>none
 | g+1,i,v=>if i<to then (if 0<=v/\v<=100000000/\48<=bat s i/\i<s.size then valL s to g (i+1) (v * 10+(bat s i-48)) else none) else some v
def aprF (s:ByteArray) (r:Rd):Rd:=if r.pos<s.size/\(letF (bat s r.pos) || digF (bat s r.pos))=true then r.fail 5 r.pos else r
def numF (s:ByteArray) (r:Rd):Option (Int×Rd) :=
 match numL s r.pos 10 r with
 | none=>none
 | some (true,r1)=>some (0,r1)
 | some (false,r1)=>if r1.pos=r.pos then some (0,r1.fail 5 r1.pos) else (match valL s r1.pos 10 r.pos 0 with
   | none=>none
   | some v=>some (v,aprF s r1))
def nmL (s:ByteArray):Nat->Nat->Nat
 | 0,n=>n
 | g + 1,n=>if n<s.size then (if (letF (bat s n) || (digF (bat s n) || decide (bat s n=95)))=true then nmL s g (n+1)
     else if bat s n=46/\n+1<s.size/\letF (bat s (n+1))=true then nmL s g (n+1) else n) else n
def nmF (s:ByteArray):Nat:=if 0<s.size/\letF (bat s 0)=true then nmL s s.size 1 else 0
def lv4F (s:ByteArray) (ls:List Lvl) (r:Rd):Rd:=if ls.length=4 then (if (r.bl s).pos<s.size/\lvcF (r.pk s) then (r.bl s).fail 7 (r.bl s).pos else r.bl s) else r
def lvsL (s:ByteArray):Nat->List Lvl->Rd->Option (Bool×List Lvl×Rd)
 | 0,_,_=>none
 | g + 1,ls,r=>match oneF s (lv4F s ls r) with
   | none=>none
   | some (l,r1)=>if r1.err≠0 then some (true,ls,r1)
     else if r1.pk s=44 then lvsL s g (ls++[l]) ((r1.bl s).at ((r1.bl s).pos+1)) else some (false,ls++[l],r1.bl s)
def nameF (s:ByteArray) (r:Rd):Option (Trm×Rd) :=
 if nmF (s.extract r.pos s.size)>24 then some (⟨0,0,⟨#[]⟩,[],[]⟩,r.fail 3 r.pos)
 else if (r.at (r.pos+nmF (s.extract r.pos s.size))).pk s=123 then
  (match lvsL s 10 [] (((r.at (r.pos+nmF (s.extract r.pos s.size))).bl s).at (((r.at (r.pos+nmF (s.extract r.pos s.size))).bl s).pos+1)) with
  | none=>none
  | some (true,ls,r1)=>some (⟨2,0,s.extract r.pos (r.pos+nmF (s.extract r.pos s.size)),ls,[]⟩,r1)
  | some (false,ls,r1)=>some (⟨2,0,s.extract r.pos (r.pos+nmF (s.extract r.pos s.size)),ls,[]⟩,r1.must s 125))
 else some (⟨2,0,s.extract r.pos (r.pos+nmF (s.extract r.pos s.size)),[],[]⟩,(r.at (r.pos+nmF (s.extract r.pos s.size))).bl s)
def tmcF (c:Int):Prop:=c=35\/c=42\/c=40\/c=92\/c=33\/c=61\/letF c=true
instance (c:Int):Decidable (tmcF c):=by unfold tmcF;exact inferInstance
def gateT (deep:Int) (r:Rd):Rd:=if deep>100 then (if r.terms=0 then r.fail 3 r.pos else r).fail 6 r.pos else (if r.terms=0 then r.fail 3 r.pos else r)
def Rd.ter (r:Rd):Rd:=⟨r.pos,r.err,r.place,r.terms-1,r.left⟩
def trmF (s : ByteArray):Nat->Int->Rd->Option (Trm×Rd)
 | 0,_,_=>none
 | g + 1,deep,r=>if ¬ ((r.bl s).pos<s.size/\tmcF (r.pk s)) then some (zT,(r.bl s).fail 5 (r.bl s).pos)
   else if (gateT deep (r.bl s)).err≠0 then some (zT,gateT deep (r.bl s))
   else if r.terms<0\/r.terms>100000 then none
   else if letF (r.pk s)=true then nameF s (gateT deep (r.bl s)).ter
   else if r.pk s=35 then (match numF s ((gateT deep (r.bl s)).ter.at ((r.bl s).pos+1)) with
    | none=>none
    | some (n,r1)=>some (mkV n,r1))
   else if r.pk s=42 then (match oneF s ((gateT deep (r.bl s)).ter.at ((r.bl s).pos+1)) with
    | none=>none
    | some (l,r1)=>some (⟨1,0,⟨#[]⟩,[l],[]⟩,r1))
   else match trmF s g (deep+1) ((gateT deep (r.bl s)).ter.at ((r.bl s).pos+1)) with
    | none=>none
    | some (a,r1)=>if r.pk s=40 then (match trmF s g (deep+1) r1 with
       | none=>none
       | some (b,r2)=>some (mkA a b,r2.must s 41))
      else if r.pk s=61 then (match trmF s g (deep+1) (r1.must s 58) with
       | none=>none
       | some (b,r2)=>(match trmF s g (deep+1) (r2.must s 46) with
         | none=>none
         | some (c,r3)=>some (⟨6,0,⟨#[]⟩,[],[a,b,c]⟩,r3)))
      else (match trmF s g (deep+1) (r1.must s 46) with
       | none=>none
       | some (b,r2)=>some (mkB (if r.pk s=33 then 5 else 4) a b,r2))
def Rd.fin (s:ByteArray) (r:Rd):Rd:=if (r.bl s).pos<s.size then (r.bl s).fail 5 (r.bl s).pos else r.bl s
def zf9 (s:ByteArray):Option (Trm×Int×Int) :=
 match trmF s 110 1 ⟨0,0,0,2000,0⟩ with
 | none=>none
 | some (t,r)=>if (r.fin s).err≠0 then some (zT,(r.fin s).place,(r.fin s).err) else some (t,0,0)
theorem zsl (s:ByteArray):∀ g n,n<=s.size->nmL s g n<=s.size
 | 0,n,h=>h
 | g + 1,n,h=>by
   simp only [nmL]
   split
   ·split
    ·exact zsl s g (n+1) (by omega)
    ·split
     ·exact zsl s g (n+1) (by omega)
     ·exact h
   ·exact h
theorem zz26 (s:ByteArray):nmF s<=s.size:=by
 unfold nmF
 split
 ·exact zsl s _ _ (by omega)
 ·omega
end Go.Ab
namespace Go.Ab
open Go Go.RowKit
theorem zsm (s:ByteArray) (hs:s.size<=24):∀ g n,s.size<=n+g->nmL s g n=runL s n
 | 0,n,h=>by rw [zah,if_neg (by omega)];rfl
 | g + 1,n,h=>by
   have ih:=zsm s hs g (n+1) (by omega)
   simp only [nmL]
   rw [zah]
   by_cases h1:n<s.size
   ·rw [if_pos h1]
    have hg:goF s n=((letF (bat s n) || (digF (bat s n) || decide (bat s n=95))) || dotF s n):=by unfold goF;cases letF (bat s n)<;>cases digF (bat s n)<;>simp
    by_cases h2:(letF (bat s n) || (digF (bat s n) || decide (bat s n=95)))=true
    ·rw [if_pos h2,if_pos ⟨h1,by omega,by rw [hg,h2];rfl⟩];exact ih
    ·rw [if_neg h2]
     rw [Bool.not_eq_true] at h2
     by_cases h3:dotF s n=true
     ·have h4:=h3
      simp only [dotF,Bool.and_eq_true,decide_eq_true_eq] at h4
      rw [if_pos h4,if_pos ⟨h1,by omega,by rw [hg,h3];simp⟩];exact ih
     ·have h4:=h3
      simp only [dotF,Bool.and_eq_true,decide_eq_true_eq] at h4
      rw [Bool.not_eq_true] at h3
      rw [if_neg h4,if_neg (by rintro ⟨_,_,h⟩;rw [hg,h2,h3] at h;cases h)]
   ·rw [if_neg h1,if_neg (by omega)]
theorem zsn (s:ByteArray) (hs:s.size<=24):nmF s=runF s:=by
 unfold nmF runF
 split
 ·exact zsm s hs _ _ (by omega)
 ·rfl
theorem zz09 (s:ByteArray):mayF s=decide (0<s.size/\s.size<=24/\nmF s=s.size):=by
 unfold mayF
 congr 1
 apply propext
 constructor
 ·rintro ⟨h1,h2,h3⟩
  exact ⟨by omega,by omega,by rw [zsn s (by omega)];exact h2⟩
 ·rintro ⟨h1,h2,h3⟩
  rw [zsn s h2] at h3
  exact ⟨by omega,h3,by omega⟩
end Go.Ab
