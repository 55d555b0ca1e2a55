/- Texts of our own, laid together. -/
import Derived.Test.YtpneaijfkefeaaaGreatM7N1
set_option maxRecDepth 20000
set_option linter.unusedVariables false
set_option linter.unusedSimpArgs false
namespace Go.Ab
open Go Go.RowKit
theorem Wd.bin {b:Int} (hb:0≤b) {m:Nat} {k:Int} (hk:k=4 ∨ k=5) {x t:Trm} (hx:Wd b m x) (ht:Wd b m t):Wd b (m + 1) (mkB k x t):=by
  refine ⟨z5p ⟨by rcases hk with rfl | rfl <;> simp [mkB,argF],by simp [mkB],by simpa [mkB] using hb,by simp [mkB],by simp [mkB],by rcases hk with rfl | rfl <;> simp [mkB],by simp [mkB],by simp [mkB],by simp [mkB],fun y hy=>?_⟩,by have:=hx.d;have:=ht.d;simp only [mkB,dpT,dpTs];omega⟩
  simp only [mkB,List.mem_cons,List.not_mem_nil,or_false] at hy
  rcases hy with rfl | rfl
  · exact hx.w
  · exact ht.w
theorem zT_wd {b:Int} (hb:0≤b):Wd b 1 zT:=⟨by simp [zT,wfT,shpF,wfTs,argF];omega,by simp [zT,dpT,dpTs]⟩
theorem zyn {b:Int} (hb:0≤b) {m:Nat} (hm:1≤m) {w:Trm} (hw:Wd b m w) {l:List Trm} (hl:∀ a ∈ l,Wd b m a) (hlen:l.length≤m):Wd (b + m) (m + m + 1) (outN w l):=by
  unfold outN
  split
  · rename_i hk
    unfold outL
    have h0:=Wd.getD hb hm hl 0
    have h1:=Wd.getD hb hm hl 1
    split
    · have h2:=Wd.getD hb hm (fun a h=>h1.sub h) 0
      exact (h2.opn (k:=1) (vs:=[zT]) fun v hv=>by simp at hv;subst hv;exact zT_wd hb).mono (Int.le_refl _) (by omega)
    · exact (Wd.bin hb hk h0 h1).mono (by omega) (by omega)
  · exact (Wd.app hb hw.head hl hlen).mono (by omega) (by omega)
theorem zyo {b:Int} {m:Nat} (hm:3≤m) {w:Trm} (hw:Wd b m w):(∀ a ∈ prtN w,Wd b m a)∧(prtN w).length≤m:=by
  unfold prtN
  split
  · rename_i hk
    have ha:=(zg hw.w).args
    refine ⟨fun a h=>hw.sub h,?_⟩
    unfold argF at ha
    rcases hk with hk | hk <;> simp [hk] at ha <;> omega
  · exact hw.args
section
variable {B : Int} {M : Nat} {c : Int} (hB : 0 ≤ B) (hM : M ≤ 10000000) (h1 : 3 ≤ M) (hc : c ≤ M)
include hB hM h1 hc
theorem zgy {ds:List Dcl} (hE:EnvW B ds):∀ (n:Nat) (f:Int),f.toNat≤n→∀ (T:Int) (t:Trm),T≤1099511627776→B≤bdV T M f→Wd (bdV T M f) M t→∃ g x,normF ds c g t f=some x∧(x.2.2=0→Wd (bdV T M x.2.1) M x.1)∧x.2.1≤f:=by
  intro n
  induction n with
  | zero =>
    intro f hf T t _ _ _
    exact ⟨1,(zT,f,11),by simp only [normF];rw [if_pos (by omega)],fun h=>by simp at h,Int.le_refl _⟩
  | succ n IH =>
    intro f hf T t hT hb hw
    by_cases hf0:f≤0
    · exact ⟨1,(zT,f,11),by simp only [normF];rw [if_pos hf0],fun h=>by simp at h,Int.le_refl _⟩
    have hst:=znp (T:=T) (M:=M) (f:=f) (by omega)
    have hT':∀ x,bdV (T - (200000 + M)) M x=bdV T M x - (200000 + M):=fun x=>by unfold bdV;omega
    obtain ⟨g1,⟨w,f1,e⟩,k1,k2,k3⟩:=zta (T:=T - (200000 + M)) (B:=B) (M:=M) (c:=c) (by omega) hB hM (by omega) hc hE (f - 1).toNat (f - 1) (Nat.le_refl _) (dpT t) t (Nat.le_refl _) (by rw [hT'];omega) (by rw [hT',hst];exact hw.mono (by omega) (Nat.le_refl _))
    simp only at k2 k3
    by_cases he:e ≠ 0
    · exact ⟨g1 + 1,(zT,f1,e),by simp only [normF];rw [if_neg hf0,k1];simp only;rw [if_pos he],fun h=>absurd h he,by simp only;omega⟩
    have he0:e=0:=Classical.byContradiction fun h=>he h
    have hww:=k2 he0
    have hbm:∀ {x y:Int},x≤y→bdV (T - (200000 + M)) M y≤bdV (T - (200000 + M)) M x:=fun h=>zgn h
    have hb1:B≤bdV (T - (200000 + M)) M f1:=by
      have:=hbm k3
      rw [hT' (f - 1)] at this;omega
    have lst:∀ (l acc:List Trm) (x:Int),x≤f1→(∀ a ∈ l,Wd (bdV (T - (200000 + M)) M x) M a)→(∀ a ∈ acc,Wd (bdV (T - (200000 + M)) M x) M a)→∃ g y,nmsF (normF ds c g) l acc x=some y∧(y.2.2=0→(∀ a ∈ y.1,Wd (bdV (T - (200000 + M)) M y.2.1) M a)∧y.1.length=acc.length + l.length)∧y.2.1≤x:=by
      intro l
      induction l with
      | nil=>intro acc x hx _ ha;exact ⟨0,(acc,x,0),rfl,fun _=>⟨ha,rfl⟩,Int.le_refl _⟩
      | cons a r ih =>
        intro acc x hx hl ha
        have hbx:=hbm hx
        obtain ⟨ga,⟨u,x1,e1⟩,q1,q2,q3⟩:=IH x (by omega) (T - (200000 + M)) a (by omega) (by omega) (hl a (by simp))
        simp only at q2 q3
        by_cases hne:e1 ≠ 0
        · exact ⟨ga,([],x1,e1),by simp only [nmsF];rw [q1];simp only;rw [if_pos hne],fun h=>absurd h hne,q3⟩
        · have h0:e1=0:=Classical.byContradiction fun h=>hne h
          have hm1:=hbm q3
          obtain ⟨gb,y,p1,p2,p3⟩:=ih (acc ++ [u]) x1 (by omega) (fun b hb=>(hl b (by simp [hb])).mono hm1 (Nat.le_refl _)) (fun b hb=>by
            rcases List.mem_append.1 hb with hb | hb
            · exact (ha b hb).mono hm1 (Nat.le_refl _)
            · simp at hb;subst hb;exact q2 h0)
          refine ⟨max ga gb,y,?_,fun h=>⟨(p2 h).1,by rw [(p2 h).2];simp;omega⟩,by omega⟩
          simp only [nmsF]
          rw [z4l ga (max ga gb) (by omega) _ _ _ q1]
          simp only
          rw [if_neg hne]
          exact z9u (fun t f x hx=>z4l gb (max ga gb) (by omega) t f x hx) _ _ _ _ p1
    have hpr:=zyo h1 hww
    obtain ⟨g2,⟨l,f2,e2⟩,p1,p2,p3⟩:=lst (prtN w) [] f1 (Int.le_refl _) hpr.1 (fun a h=>by cases h)
    simp only at p2 p3
    have step:∀ z,(if e2 ≠ 0 then some (zT,f2,e2) else finN c f2 (outN w l))=some z→normF ds c (max g1 g2 + 1) t f=some z:=fun z hz=>by
      simp only [normF]
      rw [if_neg hf0,z3s g1 (max g1 g2) (by omega) _ _ _ k1]
      simp only
      rw [if_neg he,z9u (fun t f x hx=>z4l g2 (max g1 g2) (by omega) t f x hx) _ _ _ _ p1]
      exact hz
    by_cases hne:e2 ≠ 0
    · exact ⟨_,(zT,f2,e2),step _ (by rw [if_pos hne]),fun h=>absurd h hne,by simp only;omega⟩
    have h0:e2=0:=Classical.byContradiction fun h=>hne h
    obtain ⟨p4,p5⟩:=p2 h0
    have hb2:=hbm p3
    have hlen:l.length≤M:=by rw [p5];simpa using hpr.2
    have hbw:=hbm (Int.le_trans p3 (Int.le_refl f1))
    have ho:=zyn (b:=bdV (T - (200000 + M)) M f2) (by omega) (by omega) (hww.mono hb2 (Nat.le_refl _)) p4 hlen
    have hl2:=zwe (T - (200000 + M)) M f2
    have hgd:gdT (outN w l)=true:=gdT_iff.2 ⟨zt (by omega) _ ho.w,by have:=ho.d;omega⟩
    by_cases hft:fitsT c (outN w l)=true
    · refine ⟨_,(outN w l,f2,0),step _ (by rw [if_neg hne];unfold finN;rw [if_pos hgd,if_pos hft]),fun _=>⟨zt ?_ _ ho.w,?_⟩,by simp only;omega⟩
      · rw [hT'];simp only;omega
      · have hs:=z7z (outN w l)
        simp only [fitsT,Bool.and_eq_true,decide_eq_true_eq] at hft
        simp only;omega
    · exact ⟨_,(zT,f2,12),step _ (by rw [if_neg hne];unfold finN;rw [if_pos hgd,if_neg hft]),fun h=>by simp at h,by simp only;omega⟩
end
end Go.Ab
namespace Go.Ab.YtpneaijfkefeaaaGreat
open Go Go.RowKit Go.Ab Go.Proofs
def ngT:Trm:=trmOf (⟨#[40,40,97,100,100,32,40,115,117,99,99,32,122,101,114,111,41,41,32,40,115,117,99,99,32,122,101,114,111,41,41]⟩:ByteArray)
def ngE:Trm:=trmOf (⟨#[92,78,97,116,46,32,40,115,117,99,99,32,35,48,41]⟩:ByteArray)
def ngR:Trm:=trmOf (⟨#[40,115,117,99,99,32,40,115,117,99,99,32,122,101,114,111,41,41]⟩:ByteArray)
theorem ng_tx:(txtOK (⟨#[40,40,97,100,100,32,40,115,117,99,99,32,122,101,114,111,41,41,32,40,115,117,99,99,32,122,101,114,111,41,41]⟩:ByteArray) && (txtOK (⟨#[92,78,97,116,46,32,40,115,117,99,99,32,35,48,41]⟩:ByteArray) && txtOK (⟨#[40,115,117,99,99,32,40,115,117,99,99,32,122,101,114,111,41,41]⟩:ByteArray)))=true:=by kernel_rfl
theorem ng_gd:((gdT ngT && okW ngT) && (gdT ngE && okW ngE))=true:=by kernel_rfl
def ngX:WR:=(normF preL 100 60 ngT 60).getD (zT,0,99)
def ngY:WR:=(normF preL 100 60 ngE 60).getD (zT,0,99)
theorem zvu:(normF preL 100 60 ngT 60).isSome=true:=by kernel_rfl
theorem zvv:(normF preL 100 60 ngE 60).isSome=true:=by kernel_rfl
theorem zzr:normF preL 100 60 ngT 60=some ngX:=by
  have h:=zvu
  unfold ngX
  cases hw:normF preL 100 60 ngT 60 with
  | none=>rw [hw] at h;cases h
  | some x=>rfl
theorem zzs:normF preL 100 60 ngE 60=some ngY:=by
  have h:=zvv
  unfold ngY
  cases hw:normF preL 100 60 ngE 60 with
  | none=>rw [hw] at h;cases h
  | some x=>rfl
theorem ng_ok:(decide (ngX.2.2=0) && (decide (ngY.2.2=0) && (eqT ngX.1 ngR && decide (ngY.1.name=(⟨#[115,117,99,99]⟩:ByteArray)))))=true:=by kernel_rfl
set_option maxHeartbeats 4000000 in
theorem zaq:PCon Tryz.prog 17 [] (.p (B true)):=by
  have h1:=ng_tx;have h2:=ng_gd;have h3:=ng_ok
  simp only [Bool.and_eq_true,decide_eq_true_eq] at h1 h2 h3
  obtain ⟨k1,k2,k3,k4⟩:=h3
  have hx:=zzr
  have hy:=zzs
  generalize ngX=X at *
  generalize ngY=Y at *
  obtain ⟨u,f1,e1⟩:=X
  obtain ⟨v,f2,e2⟩:=Y
  simp only at k1 k2 k3 k4
  subst k1 k2
  refine cv [] [] [] Tryz.func17 45 Tryz.ntmps17 rfl rfl fun cx hE=>callX [] znd rfl rfl .nil fun r o ⟨e1,pv,pl,ov,hE1,e2⟩=>?_
  subst e1 e2
  have hG:=preG hE1
  refine call0 (z1p _ h1.1) (callX [1004,1005,1006,1007] (z6u preL pv ov pl hG ngT h2.1.2 (gdT_iff.1 h2.1.1) 60 100 ⟨by omega,by omega,by omega,by omega⟩ 60 _ hx) rfl rfl (za _) fun r o ⟨e1,e2⟩=>?_)
  subst e1 e2
  refine call0 (z1p _ h1.2.1) (callX [1004,1005,1006,1007] (z6u preL pv ov pl hG ngE h2.2.2 (gdT_iff.1 h2.2.1) 60 100 ⟨by omega,by omega,by omega,by omega⟩ 60 _ hy) rfl rfl (za _) fun r o ⟨e1,e2⟩=>?_)
  subst e1 e2
  refine brY rfl (brY rfl (call0 (z1p _ h1.2.2) (call0 (z3a u ngR) (brB (fun hq=>?_) (fun hq=>?_)))))
  · exact ⟨B_eq (by rw [k4];rfl),rfl⟩
  · rw [k3] at hq;cases hq
set_option maxHeartbeats 8000000 in
theorem zjo (l:List Dcl) (hB:BothOK l) (hG:∀ pl,EnP [] (bothF [] l) pl→EnvG (bothF [] l) pl) (hR:EnvR (bothF [] l)) (t:Trm) (ht:okW t=true) (hg:Gd t) (f c:Int) (hm:Mt f c) (g:Nat) (x:WR) (hx:normF (bothF [] l) c g t f=some x) :
    PCon Tryz.prog 18 [.p (.sl 16 (encDs l)),tv t,mv f c] (.p (B true)):=by
  have hb:=ziu l hB
  have rh:RNrC (bothF [] l) 0 c t f x:=zji (bothF [] l) 0 hR c g t f x hg hm hx
  have hcp:Cp t:=Cp.of hg.w (by omega) (by have:=hg.d;omega)
  refine cv [] [] [] Tryz.func18 51 Tryz.ntmps18 rfl rfl fun cx hE=>?_
  refine callX [] hb rfl rfl (za _) fun r o ⟨e1,pv,pl,ov,hE1,e2⟩=>?_
  subst e1 e2
  have hG1:=hG pl hE1
  have px:=z6u (bothF [] l) pv ov pl hG1 t ht hg f c hm g x hx
  generalize bothF [] l=L at *
  obtain ⟨v,f2,e2⟩:=x
  refine call0 (z1d t hcp) (callX [1004,1005,1006,1007] px rfl rfl (za _) fun r o ⟨q1,q2⟩=>?_)
  subst q1 q2
  refine callX [1000,1001] rh rfl rfl (za _) fun r o ⟨q1,q2⟩=>?_
  subst q1 q2
  exact call0 (zvs v f2 c e2) (brB (fun _=>call0 (z3a t t) ⟨B_eq (z7d t),rfl⟩) (fun h=>by cases h))
theorem zpw {t:Trm} (h:AnT t) (f c:Int) (hf:0≤f∧f≤2000) (hc:0≤c∧c≤100000):PCon Tryz.prog 18 [.p (.sl 16 (encDs preL)),tv t,mv f c] (.p (B true)):=by
  have hb:(1073741824:Int)≤bdV 1099511627776 100000 f:=by unfold bdV;omega
  obtain ⟨g,x,h1,_⟩:=zgy (B:=1073741824) (M:=100000) (c:=c) (by omega) (by omega) (by omega) (by omega) znt f.toNat f (Nat.le_refl _) 1099511627776 t (by omega) hb ⟨zt (by omega) t h.w,by have:=h.d;omega⟩
  have e:=ziw
  exact zjo preL (znb zgi (by rw [zgj];omega)) (by rw [e];exact fun pl hp=>preG hp) (by rw [e];exact preR) t h.ok h.gd f c ⟨by omega,by omega,by omega,by omega⟩ g x (by rw [e];exact h1)
set_option maxHeartbeats 8000000 in
theorem zjp (l:List Int) (f c:Int) (hl:okB l) (hlen:(l.length:Int)≤9223372036854775807) (hf:0≤f∧f≤65535) (hc:0≤c∧c≤65535):PCon Tryz.prog 3 [.p (.sl 1 (byts l)),.p (U16 f),.p (U16 c)] (.p (B true)):=by
  have hbl:=zbf l
  refine cv [] [] [] Tryz.func3 24 Tryz.ntmps3 rfl rfl fun cx hE=>call0 zaq (brB (fun h=>by cases h) (fun _=>fun _=>brS (fun h40=>⟨rfl,rfl⟩) (fun h40=>?_)))
  have hll:l.length≤150:=by omega
  have hA:=ztp l hll
  have hcA:=(zto l hl hll).at1 1000 5 rfl rfl rfl rfl
  generalize (anyF l 0).1=t at *
  generalize (anyF l 0).2=a2 at *
  refine call0 zaw (callN 2000 _ (zts prelL znc (by simp [prelL,famsL,moreL])) (za _) rfl (callN 5 _ (zns l) (za _) rfl (callW [5] 5 (pkB l a2) hcA rfl rfl (za _) rfl rfl (call0 (zf1 f c hf hc) ?_))))
  exact call0 (zpw hA (f % 400) (c % 1500) (by omega) (by omega)) ⟨rfl,rfl⟩
set_option maxHeartbeats 8000000 in
theorem zlk (l:List Dcl) (t:Trm) (f:Int) (hn:∀ d ∈ l,narD0 d=true) (ht:narT t=true) (hf:0≤f∧f≤65535):PCon Tryz.prog 4 [.p (.sl 16 (encDs l)),tv t,.p (U16 f)] (.p (B true)):=by
  refine cv [] [] [] Tryz.func4 29 Tryz.ntmps4 rfl rfl fun cx hE=>call0 zaq (brB (fun h=>by cases h) (fun _=>?_))
  refine call0 (zlj l) (brB (fun _=>⟨rfl,rfl⟩) (fun h1=>call0 (zpv t 200 (by omega) (by omega)) (brB (fun _=>⟨rfl,rfl⟩) (fun h2=>call0 (zap t) (brB (fun _=>⟨rfl,rfl⟩) (fun h3=>?_))))))
  have ha:=zzq hn (by simpa using h1)
  have hw:=ztx ht (by simpa using h3) (by simpa using h2)
  have hs:sizT t≤300:=by omega
  have hd:=z7z t
  have hok:okW t=true:=zt9 (by omega) hw.1 (by omega)
  have hg:Gd t:=⟨zt (by omega) t hw.1,by omega⟩
  refine And.intro (by omega) (And.intro (by omega) (And.intro (by omega) ?_))
  have hF1:0≤f % 80∧f % 80 < 80:=by omega
  have hb:(1073741824:Int)≤bdV 1099511627776 100000 (f % 80):=by unfold bdV;omega
  obtain ⟨g,x,w1,_⟩:=zgy (B:=1073741824) (M:=100000) (c:=500) (by omega) (by omega) (by omega) (by omega) ha.w (f % 80).toNat (f % 80) (Nat.le_refl _) 1099511627776 t (by omega) hb ⟨zt hb t hw.1,by omega⟩
  refine call0 (zjo l ha.b ha.g ha.r t hok hg (f % 80) 500 ⟨by omega,by omega,by omega,by omega⟩ g x w1) ?_
  exact ⟨rfl,rfl⟩
theorem AnT.nm {t:Trm} (h:AnT t) {f c:Int} (hf:f≤2000) (hc:c≤100000):∃ g x,normF preL c g t f=some x:=by
  have hb:(1073741824:Int)≤bdV 1099511627776 100000 f:=by unfold bdV;omega
  obtain ⟨g,x,h1,_⟩:=zgy (B:=1073741824) (M:=100000) (c:=c) (by omega) (by omega) (by omega) (by omega) znt f.toNat f (Nat.le_refl _) 1099511627776 t (by omega) hb ⟨zt (by omega) t h.w,by have:=h.d;omega⟩
  exact ⟨g,x,h1⟩
theorem zu0 {c f:Int} {u v:Trm} {f':Int} (h:finN c f u=some (v,f',0)):fitsT c v=true:=by
  unfold finN at h
  split at h
  · split at h
    · rename_i hf;cases h;exact hf
    · cases h
  · cases h
theorem zpx {ds:List Dcl} {c:Int} {g:Nat} {t:Trm} {f:Int} {u:Trm} {f':Int} (h:normF ds c g t f=some (u,f',0)):fitsT c u=true:=by
  cases g with
  | zero=>cases h
  | succ g =>
    simp only [normF] at h
    split at h
    · cases h
    · split at h
      · cases h
      · split at h
        · rename_i he;cases h;exact absurd rfl he
        · split at h
          · cases h
          · split at h
            · rename_i he;cases h;exact absurd rfl he
            · exact zu0 h
set_option maxHeartbeats 8000000 in
theorem zjq (l:List Int) (f c m:Int) (hl:okB l) (hlen:(l.length:Int)≤9223372036854775807) (hf:0≤f∧f≤65535) (hc:0≤c∧c≤65535) (hm:0≤m∧m≤65535):PCon Tryz.prog 5 [.p (.sl 1 (byts l)),.p (U16 f),.p (U16 c),.p (U16 m)] (.p (B true)):=by
  have hbl:=zbf l
  refine cv [] [] [] Tryz.func5 106 Tryz.ntmps5 rfl rfl fun cx hE=>call0 zaq (brB (fun h=>by cases h) (fun _=>fun _=>brS (fun h40=>⟨rfl,rfl⟩) (fun h40=>?_)))
  have hll:l.length≤150:=by omega
  refine callX [] znd rfl rfl .nil fun r o ⟨e1,pv,pl,ov,hE1,e2⟩=>?_
  subst e1 e2
  have hG:=preG hE1
  have hA:=ztp l hll
  have hcA:=(zto l hl hll).at1 1000 5 rfl rfl rfl rfl
  obtain ⟨g1,x1,w1⟩:=hA.nm (f:=f % 400) (c:=c % 1500) (by omega) (by omega)
  obtain ⟨g2,x2,w2⟩:=hA.nm (f:=f % 400 + m % 1000) (c:=c % 1500 + m) (by omega) (by omega)
  have hk1:=z3n g1 _ _ x1.1 x1.2.1 x1.2.2 hA.gd w1
  have hx1:=z6u preL pv ov pl hG _ hA.ok hA.gd (f % 400) (c % 1500) ⟨by omega,by omega,by omega,by omega⟩ g1 x1 w1
  have hx2:=z6u preL pv ov pl hG _ hA.ok hA.gd (f % 400 + m % 1000) (c % 1500 + m) ⟨by omega,by omega,by omega,by omega⟩ g2 x2 w2
  have key:x1.2.2=0→x2=(x1.1,x1.2.1 + m % 1000,0)∧fitsT (c % 1500) x1.1=true:=fun he=>by
    have h:=w1
    rw [show x1=(x1.1,x1.2.1,0) by rw [← he]] at h
    exact ⟨ztq w2 (zf2 (c':=c % 1500 + m) (by omega) (a:=m % 1000) (by omega) g1 _ _ _ _ h),zpx h⟩
  have err:x1.2.2 ≠ 0→errE x1.2.2∧x1.1=zT:=fun he=>zjh g1 _ _ x1 w1 he
  generalize (anyF l 0).1=t at *
  generalize (anyF l 0).2=a2 at *
  obtain ⟨u1,f1,e1⟩:=x1
  obtain ⟨u2,f2,e2⟩:=x2
  simp only at key err hk1
  refine call1 [] (zns l) rfl rfl (za _) (call1 [5] hcA rfl rfl (za _) (call0 (zf1 f c hf hc) ?_))
  refine And.intro (by omega) (And.intro (by omega) (And.intro (by omega) ?_))
  refine callX [1004,1005,1006,1007] hx1 rfl rfl (za _) fun r o ⟨q1,q2⟩=>?_
  subst q1 q2
  refine And.intro (by omega) (And.intro (by omega) (And.intro (by omega) ?_))
  refine callX [1004,1005,1006,1007] hx2 rfl rfl (za _) fun r o ⟨q1,q2⟩=>?_
  subst q1 q2
  have hF:=hk1.2
  unfold Fu at hF
  by_cases he:e1=0
  · obtain ⟨hx,hft⟩:=key he
    have hs:(sizT u1:Int)≤c % 1500:=by
      simp only [fitsT,Bool.and_eq_true,decide_eq_true_eq] at hft
      omega
    simp only [Prod.mk.injEq] at hx
    obtain ⟨rfl,rfl,rfl⟩:=hx
    subst he
    refine brS (fun hh=>absurd rfl hh) (fun _=>?_)
    refine brY rfl (call0 (z3a _ _) (brB (fun _=>?_) (fun hh=>by rw [z7d] at hh;cases hh)))
    refine And.intro (by simp only;omega) (brY rfl (call0 (z5o _ (c % 1500) (by omega) (by omega)) ⟨B_eq ?_,rfl⟩))
    exact decide_eq_true (by show mSz u2 (c % 1500)≤c % 1500;unfold mSz;omega)
  · obtain ⟨h1,h2⟩:=err he
    refine brS (fun _=>?_) (fun hh=>absurd he hh)
    subst h2
    unfold errE at h1
    refine callR [] (z3a zT zT) rfl rfl zwk (brB (fun _=>?_) (fun hh=>by rw [z7d] at hh;cases hh))
    rcases h1 with h1 | h1
    · subst h1
      exact brY rfl ⟨B_eq (by simp only [decide_eq_true_eq];omega),rfl⟩
    · subst h1
      exact brZ (by simp) (brY rfl ⟨B_eq (by simp only [decide_eq_true_eq];omega),rfl⟩)
end Go.Ab.YtpneaijfkefeaaaGreat
