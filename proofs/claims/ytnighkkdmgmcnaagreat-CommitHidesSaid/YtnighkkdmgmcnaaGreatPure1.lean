/- What is proved: what the printed functions answer, in plain numbers and lists. Conditions: those that each theorem names. -/
import Derived.Test.YtnighkkdmgmcnaaGreatPure0
import Derived.Test.YtnighkkdmgmcnaaGreatG8
set_option linter.unusedVariables false
set_option linter.unusedSimpArgs false
set_option linter.unusedVariables false
set_option linter.unusedSimpArgs false
namespace Go.Own
open Go.IntWalk
def Qm (n f w:Nat):Bool:=Nat.beq (n%2) 1&&Nat.blt 1 n&&Nat.blt n au&&Nat.blt 0 f&&Nat.blt f au&&Nat.ble 2 w&&Nat.blt w 65536&&Nat.beq ((n - 1)%f) 0&&Nat.blt n (f*f)&&Nat.beq (vY 256 (vY 256 w ((n - 1)/f) n) f n) 1&&Nat.beq (Nat.gcd ((vY 256 w ((n - 1)/f) n+(n - 1))%n) n) 1
theorem kg {a b:Nat} (h:Nat.blt a b=true):a<b:=Nat.le_of_ble_eq_true h
theorem kE {n f w:Nat} (h:Qm n f w=true):Eb n f w:=by
 unfold Qm at h
 simp only [Bool.and_eq_true] at h
 obtain ⟨⟨⟨⟨⟨⟨⟨⟨⟨⟨h1,h2⟩,h3⟩,h4⟩,h5⟩,h6⟩,h7⟩,h8⟩,h9⟩,h10⟩,h11⟩:=h
 have h3:=kg h3; have h5:=kg h5
 have e:(2:Nat)^256=au:=yV.symm
 have hq:(n - 1)/f<2^256:=by rw [e]; exact Nat.lt_of_le_of_lt (Nat.div_le_self _ _) (Nat.lt_of_le_of_lt (Nat.sub_le _ _) h3)
 have h10:=Nat.eq_of_beq_eq_true h10; have h11:=Nat.eq_of_beq_eq_true h11
 rw [nJ 256 _ _ _ hq,nJ 256 _ _ _ (by rw [e]; exact h5)] at h10
 rw [nJ 256 _ _ _ hq] at h11
 exact ⟨Nat.eq_of_beq_eq_true h1,kg h2,h3,kg h4,h5,Nat.le_of_ble_eq_true h6,kg h7,Nat.eq_of_beq_eq_true h8,kg h9,h10,h11⟩
abbrev dD:Type:=((Option aJ)×((Option aJ)×Unit))×((List Int)×Unit)
def Grp (gv:dD) (p q g:Nat):Prop:=∃ rp rq i1 i2,gv=((rp,(rq,())),(limbs g,()))∧Rng rp p i1 (au%p) (au*au%p)∧Rng rq q i2 (au%q) (au*au%q)
theorem Ee {ps:List (Nat×Nat)} {g p q w:Nat} (h2:2≤ps.length) (h8:ps.length≤8) (hc:eZ.r (ps.map dW)=(true,0)) (hpp:p=(ps.getD (ps.length - 1) (0,0)).1) (hqq:q=(ps.getD (ps.length - 2) (0,0)).1)
  (hp:Eb p q w) (hqo:q%2=1) (hql:10≤bH q) (hg:g<p) (hg1:1<g) (hpow:g^q%p=1):
  ∃ gv,Grp gv p q g∧iw.r (ps.map dW,(limbs g,()))=(true,1,(none,0),(0,gv)):=by
 have hpl:=hp.lt
 have hq1:1<q:=by
  rcases Nat.lt_or_ge 1 q with h|h
  ·exact h
  ·have:bH q≤1:=by
    have:q=0∨q=1:=by omega
    rcases this with rfl|rfl<;>decide
   omega
 obtain ⟨rp,i1,hR,hN⟩:=Oq p hpl hp.odd hp.gt
 obtain ⟨rq,i2,hR2,hN2⟩:=Oq q hp.flt hqo hq1
 have n1:bY.r 1=(true,limbs 1):=by rw [qx _ (by decide)]; rfl
 have e0:((0:Int) != 0)=false:=rfl
 have g1:(ps.map dW).getD (ps.length - 1) ([0,0,0,0],(0,()))=dW (ps.getD (ps.length - 1) (0,0)):=getD_map (by omega)
 have g2:(ps.map dW).getD (ps.length - 2) ([0,0,0,0],(0,()))=dW (ps.getD (ps.length - 2) (0,0)):=getD_map (by omega)
 have w1:IntKind.i64.wrap ((ps.length:Int) - 1)=((ps.length - 1:Nat):Int):=by rw [i64_in _ (by omega)]; omega
 have w2:IntKind.i64.wrap ((ps.length:Int) - 2)=((ps.length - 2:Nat):Int):=by rw [i64_in _ (by omega)]; omega
 have hgW:g<au:=Nat.lt_trans hg hpl
 refine ⟨((rp,(rq,())),(limbs g,())),⟨rp,rq,i1,i2,rfl,hR,hR2⟩,?_⟩
 have i1:(ile 0 ((ps.length - 1:Nat):Int)&&ilt ((ps.length - 1:Nat):Int) (ps.length:Int))=true:=rng (by omega)
 have i2:(ile 0 ((ps.length - 2:Nat):Int)&&ilt ((ps.length - 2:Nat):Int) (ps.length:Int))=true:=rng (by omega)
 simp only [iw.r,iw.g,lt,List.length_map,dH (show ¬ (ps.length:Int)<2 by omega),cond_false,hc,ak,e0,w1,w2,i1,i2,Int.toNat_natCast,g1,g2,zT,← hpp,← hqq,hN,hN2,Om q hp.flt,dH (show ¬ (bH q:Int)<10 by omega),eqZ hgW,decide_eq_false (show ¬ g=0 by omega),n1,eqL hgW (show 1<au by decide),decide_eq_false (show ¬ g=1 by omega),RA hR hgW,hg,decide_true,Bool.not_true,GD hR hgW hp.flt,hpow,eqL (show 1<au by decide) (show 1<au by decide)]
def jM:List (Nat×Nat):= [(65521,0),(1966023127,2),(1055500680322183127,2)]
def bM:Nat:=316543771439780984
def fu:Nat:=1055500680322183127
def jc:Nat:=1966023127
theorem IQ:eZ.r (jM.map dW)=(true,0):=by
 refine Eh (by decide) (by decide) (by decide) (by kernel_rfl) rfl ?_
 intro i hi
 have:i=0∨i=1:=by
  have:i+1<3:=hi
  omega
 rcases this with rfl|rfl
 ·exact kE (by kernel_rfl)
 ·exact kE (by kernel_rfl)
theorem Ik:∃ gv,Grp gv fu jc bM∧iw.r (jM.map dW,(limbs bM,()))=(true,1,(none,0),(0,gv)):=by
 have h1:Nat.blt jc (2^256)=true:=by kernel_rfl
 have h2:vY 256 bM jc fu=1:=by kernel_rfl
 have hpow:bM^jc%fu=1:=(nJ 256 _ _ _ (kg h1)).symm.trans h2
 have h3:Nat.blt bM fu=true:=by kernel_rfl
 have h4:Nat.blt 1 bM=true:=by kernel_rfl
 have h5:Nat.ble 10 (bH jc)=true:=by kernel_rfl
 have h6:jc%2=1:=by kernel_rfl
 exact Ee (ps:=jM) (p:=fu) (q:=jc) (w:=2) (by decide) (by decide) IQ (by kernel_rfl) (by kernel_rfl) (kE (by kernel_rfl)) h6 (Nat.le_of_ble_eq_true h5) (kg h3) (kg h4) hpow
def jL:List (Nat×Nat):= [(64817,0),(1815135269,2),(487269091447081429,2)]
def ic:Nat:=54624333139524128
def ol:Nat:=487269091447081429
def kS:Nat:=1815135269
theorem IL:eZ.r (jL.map dW)=(true,0):=by
 refine Eh (by decide) (by decide) (by decide) (by kernel_rfl) rfl ?_
 intro i hi
 have:i=0∨i=1:=by
  have:i+1<3:=hi
  omega
 rcases this with rfl|rfl
 ·exact kE (by kernel_rfl)
 ·exact kE (by kernel_rfl)
theorem Ij:∃ gv,Grp gv ol kS ic∧iw.r (jL.map dW,(limbs ic,()))=(true,1,(none,0),(0,gv)):=by
 have h1:Nat.blt kS (2^256)=true:=by kernel_rfl
 have h2:vY 256 ic kS ol=1:=by kernel_rfl
 have hpow:ic^kS%ol=1:=(nJ 256 _ _ _ (kg h1)).symm.trans h2
 have h3:Nat.blt ic ol=true:=by kernel_rfl
 have h4:Nat.blt 1 ic=true:=by kernel_rfl
 have h5:Nat.ble 10 (bH kS)=true:=by kernel_rfl
 have h6:kS%2=1:=by kernel_rfl
 exact Ee (ps:=jL) (p:=ol) (q:=kS) (w:=2) (by decide) (by decide) IL (by kernel_rfl) (by kernel_rfl) (kE (by kernel_rfl)) h6 (Nat.le_of_ble_eq_true h5) (kg h3) (kg h4) hpow
def nC:List (Nat×Nat):= [(65519,0),(1313918027,2),(88175567203779761,2),(6353719225633997551192976661815171,2),(128868735840905246597005622286753383510486359307609845843856143183,2)]
def kI:Nat:=9151157341667469615800997130231454865425018181917904921479972729
def vg:Nat:=128868735840905246597005622286753383510486359307609845843856143183
def pE:Nat:=6353719225633997551192976661815171
theorem IU:eZ.r (nC.map dW)=(true,0):=by
 refine Eh (by decide) (by decide) (by decide) (by kernel_rfl) rfl ?_
 intro i hi
 have:i=0∨i=1∨i=2∨i=3:=by
  have:i+1<5:=hi
  omega
 rcases this with rfl|rfl|rfl|rfl
 ·exact kE (by kernel_rfl)
 ·exact kE (by kernel_rfl)
 ·exact kE (by kernel_rfl)
 ·exact kE (by kernel_rfl)
theorem Il:∃ gv,Grp gv vg pE kI∧iw.r (nC.map dW,(limbs kI,()))=(true,1,(none,0),(0,gv)):=by
 have h1:Nat.blt pE (2^256)=true:=by kernel_rfl
 have h2:vY 256 kI pE vg=1:=by kernel_rfl
 have hpow:kI^pE%vg=1:=(nJ 256 _ _ _ (kg h1)).symm.trans h2
 have h3:Nat.blt kI vg=true:=by kernel_rfl
 have h4:Nat.blt 1 kI=true:=by kernel_rfl
 have h5:Nat.ble 10 (bH pE)=true:=by kernel_rfl
 have h6:pE%2=1:=by kernel_rfl
 exact Ee (ps:=nC) (p:=vg) (q:=pE) (w:=2) (by decide) (by decide) IU (by kernel_rfl) (by kernel_rfl) (kE (by kernel_rfl)) h6 (Nat.le_of_ble_eq_true h5) (kg h3) (kg h4) hpow
end Go.Own
set_option linter.unusedVariables false
set_option linter.unusedSimpArgs false
namespace Go.Own
open Go.IntWalk
structure Fld (gx:Option dD) (q:Nat):Prop where
 ex:∃ gv rq inv,gx=some gv∧gv.1.2.1=rq∧Rng rq q inv (au%q) (au*au%q)
theorem Grp.fld {gv:dD} {p q g:Nat} (h:Grp gv p q g):Fld (some gv) q:=by
 obtain ⟨rp,rq,i1,i2,rfl,_,h2⟩:=h
 exact ⟨_,rq,i2,rfl,rfl,h2⟩
theorem Rng.uD {rx m inv one sq} (h:Rng rx m inv one sq):rx.isNone=false:=by rw [h.eq]; rfl
theorem Fld.field {gx:Option dD} {q:Nat} (h:Fld gx q):∃ rq inv,Rng rq q inv (au%q) (au*au%q)∧aQ.r gx=(true,rq):=by
 obtain ⟨gv,rq,inv,rfl,e,hR⟩:=h.ex
 refine ⟨rq,inv,hR,?_⟩
 simp only [aQ.r,aQ.g,lt,Option.isNone_some,cond_false,Option.getD_some,Option.isSome_some,ak,e]
theorem Fld.gt {gx:Option dD} {q:Nat} (h:Fld gx q):1<q:=by obtain ⟨rq,inv,hR,_⟩:=h.field; exact hR.gt
theorem Fld.lt {gx:Option dD} {q:Nat} (h:Fld gx q):q<au:=by obtain ⟨rq,inv,hR,_⟩:=h.field; exact hR.lt
theorem Qh {gx:Option dD} {q:Nat} (h:Fld gx q):fF.r gx=(true,limbs q):=by
 obtain ⟨rq,inv,hR,hF⟩:=h.field
 simp only [fF.r,fF.g,Go.Own.lt,hF,ak,Tm hR]
theorem A8 {gx:Option dD} {q:Nat} (h:Fld gx q) {a b:Nat} (ha:a<au) (hb:b<au):gL.r gx (limbs a) (limbs b)=(true,limbs ((a+b)%q)):=by
 have:=h.gt
 simp only [gL.r,gL.g,Go.Own.lt,Qh h,ak,OB a b q ha hb h.lt (by omega)]
theorem Oz {gx:Option dD} {q:Nat} (h:Fld gx q) {a b:Nat} (ha:a<au) (hb:b<au):mh.r gx (limbs a) (limbs b)=(true,limbs ((a%q+(q - b%q))%q)):=by
 have:=h.gt
 simp only [mh.r,mh.g,Go.Own.lt,Qh h,ak,AR a b q ha hb h.lt (by omega)]
theorem A7 {gx:Option dD} {q:Nat} (h:Fld gx q) {a b:Nat} (ha:a<au) (hb:b<au):gK.r gx (limbs a) (limbs b)=(true,limbs (a*b%q)):=by
 obtain ⟨rq,inv,hR,hF⟩:=h.field
 simp only [gK.r,gK.g,Go.Own.lt,hF,ak,Ja hR ha hb]
theorem RG {gx:Option dD} {q:Nat} (h:Fld gx q) {a:Nat} (ha:a<au) (hg:Nat.gcd a q=1):∃ s,Ox a q s∧oO.r gx (limbs a)=(true,limbs s):=by
 have h1:=h.gt
 rcases Gy a q ha h.lt (by omega) with ⟨_,s,hs,e⟩|⟨hn,_⟩
 ·refine ⟨s,hs,?_⟩
  have e0:((0:Int) != 0)=false:=rfl
  simp only [oO.r,oO.g,Go.Own.lt,Qh h,ak,e,e0,cond_false]
 ·exact absurd hg hn
theorem fold_map {gx:Option dD} {q:Nat} (h:Fld gx q) {x:Nat} (hx:x<au):∀ (l:List Nat) (w:Nat),w<au→(∀ a∈l,a<au)→(l.map limbs).foldl (iL.step gx (limbs x)) (true,limbs w)=(true,limbs (l.foldl (fun w a=>(w*x%q+a)%q) w))
 | [],w,_,_=>rfl
 |a::l,w,hw,hl=>by
  have h0:0<q:=by have:=h.gt; omega
  have h1:w*x%q<au:=Nat.lt_trans (Nat.mod_lt _ h0) h.lt
  have h2:(w*x%q+a)%q<au:=Nat.lt_trans (Nat.mod_lt _ h0) h.lt
  have e:iL.step gx (limbs x) (true,limbs w) (limbs a)=(true,limbs ((w*x%q+a)%q)):=by
   simp only [iL.step,Go.Own.lt,A7 h hw hx,A8 h h1 (hl a (by simp)),Bool.and_self]
  show (l.map limbs).foldl _ (iL.step gx (limbs x) (true,limbs w) (limbs a))=_
  rw [e,fold_map h hx l _ h2 fun b hb=>hl b (by simp [hb])]
  rfl
def evN (q:Nat) (f:List Nat) (x:Nat):Nat:=f.foldr (fun a w=>(w*x%q+a)%q) 0
theorem M0 {f:List Nat}:∀ (l:List (List Int)),(∀ a∈l,a∈f.map limbs)→∃ l':List Nat,l=l'.map limbs∧∀ a∈l',a∈f
 | [],_=>⟨[],rfl,by simp⟩
 |a::l,h=>by
  obtain ⟨l',rfl,h2⟩:=M0 l fun b hb=>h b (by simp [hb])
  obtain ⟨b,hb,rfl⟩:=List.mem_map.1 (h a (by simp))
  refine ⟨b::l',rfl,?_⟩
  intro c hc
  rcases List.mem_cons.1 hc with rfl|hc
  ·exact hb
  ·exact h2 c hc
theorem Jb {gx:Option dD} {q:Nat} (h:Fld gx q) {f:List Nat} {x:Nat} (hf:∀ a∈f,a<au) (hl:f.length≤9223372036854775807) (hx:x<au):iL.r gx (f.map limbs) (limbs x)=(true,limbs (evN q f x)):=by
 unfold iL.r
 have fo:∀ l':List Nat,(∀ a∈l',a∈f)→iL.fold gx (limbs x) (l'.map limbs)=(true,limbs (l'.foldl (fun w a=>(w*x%q+a)%q) 0)):=by
  intro l' hl'
  have:=fold_map h hx l' 0 (by decide) fun a ha=>hf a (hl' a ha)
  rw [fw] at this
  exact this
 refine Prod.ext ?_ ?_
 ·refine @decide_eq_true _ (Classical.propDecidable _) ⟨by rw [List.length_map]; exact hl,?_⟩
  intro l hm
  obtain ⟨l',rfl,h2⟩:=M0 l hm
  rw [fo l' h2]
 ·show (iL.fold gx (limbs x) (f.map limbs).reverse).2=_
  rw [← List.map_reverse,fo f.reverse fun a ha=>List.mem_reverse.1 ha,List.foldl_reverse]
  rfl
theorem Ao {q:Nat} (hq:0<q) (f:List Nat) (x:Nat):evN q f x<q:=by
 cases f with
 |nil=>exact hq
 |cons a f=>exact Nat.mod_lt _ hq
theorem J4 {a:Nat} (ha:a<au):l8.r (limbs a)=(true,decide (a=0)):=by
 simp only [l8.r,l8.g,lt,eqZ ha]
def ji (f:List Nat) (k:Int):Nat:=if k<0 then 0 else f.getD k.toNat 0
theorem wK {f:List Nat} (hf:∀ a∈f,a<au) (k:Int):ji f k<au:=by
 unfold ji
 split
 ·decide
 ·rcases Nat.lt_or_ge k.toNat f.length with h|h
  ·exact hf _ (gY h)
  ·rw [List.getD_eq_getElem?_getD,List.getElem?_eq_none h]; decide
theorem Oi (f:List Nat) (k:Int):mP.r (f.map limbs) k=(true,limbs (ji f k)):=by
 simp only [mP.r,mP.g,lt,List.length_map]
 unfold ji
 by_cases h0:k<0
 ·rw [if_pos h0,dK h0,fw]; rfl
 ·rw [if_neg h0,dH h0]
  by_cases h1:(f.length:Int)≤k
  ·have z:f.getD k.toNat 0=0:=by rw [List.getD_eq_getElem?_getD,List.getElem?_eq_none (by omega)]; rfl
   rw [z,fw,dM h1]; rfl
  ·have g1:(f.map limbs).getD k.toNat [0,0,0,0]=limbs (f.getD k.toNat 0):=getD_map (by omega)
   simp only [tF h1,cond_false,g1,dM (show (0:Int)≤k by omega),dK (show k<(f.length:Int) by omega),Bool.and_self,ak]
end Go.Own
set_option linter.unusedVariables false
set_option linter.unusedSimpArgs false
namespace Go.Own.Pol
section
variable {F:Type} [Lean.Grind.CommRing F]
def cf (l:List F) (n:Nat):F:=l.getD n 0
def ev (l:List F) (x:F):F:=l.foldr (fun a s=>s*x+a) 0
def PE (a b:List F):Prop:=∀ n,cf a n=cf b n
theorem PE.rfl' {a:List F}:PE a a:=fun _=>rfl
theorem PE.symm {a b:List F} (h:PE a b):PE b a:=fun n=>(h n).symm
theorem PE.trans {a b c:List F} (h:PE a b) (h2:PE b c):PE a c:=fun n=>(h n).trans (h2 n)
theorem jd (n:Nat):cf ([]:List F) n=0:=by simp [cf]
theorem lC (a:F) (l:List F):cf (a::l) 0=a:=rfl
theorem jb (a:F) (l:List F) (n:Nat):cf (a::l) (n+1)=cf l n:=by simp [cf]
theorem JQ {l:List F} {x:F} (h:∀ n,cf l n=0):ev l x=0:=by
 induction l with
 |nil=>rfl
 |cons a l ih=>
  have h0:=h 0
  rw [lC] at h0
  have:=ih fun n=>by have:=h (n+1); rwa [jb] at this
  show ev l x*x+a=0
  rw [this,h0]; grind
theorem Am:∀ {a b:List F} {x:F},PE a b→ev a x=ev b x
 | [],b,x,h=>by rw [JQ (l:=b) fun n=>by rw [← h n,jd]]; rfl
 |a::al,[],x,h=>by rw [JQ (l:=a::al) fun n=>by rw [h n,jd]]; rfl
 |a::al,b::bs,x,h=>by
  have h0:a=b:=h 0
  have ih:=Am (a:=al) (b:=bs) (x:=x) fun n=>by have:=h (n+1); rwa [jb,jb] at this
  show ev al x*x+a=ev bs x*x+b
  rw [ih,h0]
def kK:List F→List F→List F
 | [],b=>b
 |a::al,[]=>a::al
 |a::al,b::bs=>(a+b)::kK al bs
theorem gU:∀ (a b:List F) (n:Nat),cf (kK a b) n=cf a n+cf b n
 | [],b,n=>by rw [jd]; simp only [kK]; grind
 |a::al,[],n=>by rw [jd]; simp only [kK]; grind
 |a::al,b::bs,0=>rfl
 |a::al,b::bs,n+1=>by simp only [kK,jb]; exact gU al bs n
theorem xH:∀ (a b:List F) (x:F),ev (kK a b) x=ev a x+ev b x
 | [],b,x=>by show ev b x=0+ev b x; grind
 |a::al,[],x=>by show ev (a::al) x=ev (a::al) x+0; grind
 |a::al,b::bs,x=>by
  have:=xH al bs x
  show ev (kK al bs) x*x+(a+b)=(ev al x*x+a)+(ev bs x*x+b)
  rw [this]; grind
def pY (c:F) (l:List F):List F:=l.map (c* ·)
theorem kT (c:F):∀ (l:List F) (n:Nat),cf (pY c l) n=c*cf l n
 | [],n=>by rw [jd]; show cf ([]:List F) n=_; rw [jd]; grind
 |a::l,0=>rfl
 |a::l,n+1=>by
  rw [jb,← kT c l n]
  exact jb _ _ _
theorem DL (c:F) (x:F):∀ (l:List F),ev (pY c l) x=c*ev l x
 | []=>by show (0:F)=c*0; grind
 |a::l=>by
  have:=DL c x l
  show ev (pY c l) x*x+c*a=c*(ev l x*x+a)
  rw [this]; grind
def Ml (a:F) (l:List F):List F:=kK (0::l) (pY (-a) l)
theorem mK (a:F) (l:List F):cf (Ml a l) 0= -a*cf l 0:=by
 unfold Ml; rw [gU,kT,lC]; grind
theorem kJ (a:F) (l:List F) (n:Nat):cf (Ml a l) (n+1)=cf l n - a*cf l (n+1):=by
 unfold Ml; rw [gU,kT,jb]; grind
theorem Tc (a:F) (l:List F) (x:F):ev (Ml a l) x=(x - a)*ev l x:=by
 unfold Ml; rw [xH,DL]
 show (ev l x*x+0)+_=_
 grind
theorem PE.M {a:F} {u v:List F} (h:PE u v):PE (Ml a u) (Ml a v):=by
 intro n
 cases n with
 |zero=>rw [mK,mK,h 0]
 |succ n=>rw [kJ,kJ,h n,h (n+1)]
theorem PE.add {a b c d:List F} (h:PE a b) (h2:PE c d):PE (kK a c) (kK b d):=fun n=>by rw [gU,gU,h n,h2 n]
theorem Sy (a:F) (u v:List F):PE (Ml a (kK u v)) (kK (Ml a u) (Ml a v)):=by
 intro n
 cases n with
 |zero=>rw [gU,mK,mK,mK,gU]; grind
 |succ n=>rw [gU,kJ,kJ,kJ,gU,gU]; grind
theorem Sw (a c:F) (u:List F):PE (Ml a (pY c u)) (pY c (Ml a u)):=by
 intro n
 cases n with
 |zero=>rw [kT,mK,mK,kT]; grind
 |succ n=>rw [kT,kJ,kJ,kT,kT]; grind
theorem M_M (a b:F) (u:List F):PE (Ml a (Ml b u)) (Ml b (Ml a u)):=by
 intro n
 match n with
 |0=>rw [mK,mK,mK,mK]; grind
 |1=>rw [kJ a (Ml b u) 0,mK b u,kJ b u 0,kJ b (Ml a u) 0,mK a u,kJ a u 0]; grind
 |n+2=>rw [kJ,kJ,kJ,kJ,kJ,kJ]; grind
def TL (xs:List F) (h:List F):List F:=xs.foldr Ml h
theorem PE.T {u v:List F} (h:PE u v):∀ {xs:List F},PE (TL xs u) (TL xs v)
 | []=>h
 |_::_=>(PE.T h).M
theorem Ea (xs:List F) (a:F) (h:List F):TL (xs++ [a]) h=TL xs (Ml a h):=by
 unfold TL; rw [List.foldr_append]; rfl
theorem Qy:∀ (xs:List F) (u v:List F),PE (TL xs (kK u v)) (kK (TL xs u) (TL xs v))
 | [],u,v=>PE.rfl'
 |x::xs,u,v=>(Qy xs u v).M.trans (Sy _ _ _)
theorem Qx (c:F):∀ (xs:List F) (u:List F),PE (TL xs (pY c u)) (pY c (TL xs u))
 | [],u=>PE.rfl'
 |x::xs,u=>(Qx c xs u).M.trans (Sw _ _ _)
theorem T_M (a:F):∀ (xs:List F) (u:List F),PE (TL xs (Ml a u)) (Ml a (TL xs u))
 | [],u=>PE.rfl'
 |x::xs,u=>(T_M a xs u).M.trans (M_M _ _ _)
def sU (xs:List F) (x:F):F:=xs.foldr (fun a s=>(x - a)*s) 1
theorem K5 (x:F):∀ (xs:List F) (h:List F),ev (TL xs h) x=sU xs x*ev h x
 | [],h=>by show ev h x=1*ev h x; grind
 |a::xs,h=>by
  show ev (Ml a (TL xs h)) x=(x - a)*sU xs x*ev h x
  rw [Tc,K5 x xs h]; grind
def dv (a:F):List F→List F
 | []=> []
 | [_]=> []
 |_::b::t=>ev (b::t) a::dv a (b::t)
theorem IC (a:F):∀ l:List F,(dv a l).length=l.length - 1
 | []=>rfl
 | [_]=>rfl
 |_::b::t=>by
  have:=IC a (b::t)
  simp only [dv,List.length_cons] at this ⊢
  omega
theorem NC (a:F):∀ l:List F,PE l (kK [ev l a] (Ml a (dv a l)))
 | []=>by
  intro n
  rw [gU,jd]
  cases n with
  |zero=>rw [lC,mK]; show (0:F)=0+ -a*cf [] 0; rw [jd]; grind
  |succ n=>rw [jb,jd,kJ]; show (0:F)=0+(cf [] n - a*cf [] (n+1)); rw [jd,jd]; grind
 | [c]=>by
  intro n
  rw [gU]
  cases n with
  |zero=>rw [lC,lC,mK]; show c=(0*a+c)+ -a*cf [] 0; rw [jd]; grind
  |succ n=>rw [jb,jb,jd,kJ]; show (0:F)=0+(cf [] n - a*cf [] (n+1)); rw [jd,jd]; grind
 |c::b::t=>by
  have ih:=NC a (b::t)
  intro n
  rw [gU]
  have hd:dv a (c::b::t)=ev (b::t) a::dv a (b::t):=rfl
  cases n with
  |zero=>
   rw [lC,lC,mK,hd,lC]
   show c=(ev (b::t) a*a+c)+ -a*ev (b::t) a
   grind
  |succ n=>
   have hn:=ih n
   rw [gU] at hn
   rw [jb,jb,jd,kJ,hd,jb,hn]
   cases n with
   |zero=>rw [lC,lC,mK]; try grind
   |succ n=>rw [jb,jb,jd,kJ]; try grind
theorem CV {f fk h base fk' base' xs:List F} {a y s c:F} (hf:PE f (kK fk (TL xs h))) (hb:PE base (TL xs [1])) (hy:y=ev f a) (hs:s*ev base a=1) (hc:c=(y - ev fk a)*s)
  (h1:PE fk' (kK fk (pY c base))) (h2:PE base' (Ml a base)):PE f (kK fk' (TL (xs++ [a]) (dv a h)))∧PE base' (TL (xs++ [a]) [1]):=by
 have e1:ev f a=ev fk a+sU xs a*ev h a:=by rw [Am hf,xH,K5]
 have e2:ev base a=sU xs a:=by rw [Am hb,K5]; show sU xs a*(0*a+1)=_; grind
 have e3:c=ev h a:=by rw [hc,hy,e1]; rw [e2] at hs; grind
 constructor
 ·intro n
  have k1:=(NC a h).T (xs:=xs) n
  have k2:=Qy xs [ev h a] (Ml a (dv a h)) n
  have k3:PE [ev h a] (pY (ev h a) [1]):=by
   intro n
   rw [kT]
   cases n with
   |zero=>rw [lC,lC]; grind
   |succ n=>rw [jb,jb,jd]; grind
  have k4:=(k3.T (xs:=xs)).trans (Qx (ev h a) xs [1]) n
  rw [hf n,gU,k1,k2,gU,k4,kT,← hb n,gU,h1 n,gU,kT,e3,Ea]
  grind
 ·rw [Ea]
  exact h2.trans (hb.M.trans (T_M a xs [1]).symm)
theorem Gu:∀ (xs:List F) (n:Nat),cf (TL xs []) n=0
 | [],n=>jd n
 |x::xs,n=>by
  show cf (Ml x (TL xs [])) n=0
  cases n with
  |zero=>rw [mK,Gu xs]; grind
  |succ n=>rw [kJ,Gu xs,Gu xs]; grind
theorem Ez {f fk h xs:List F} (hf:PE f (kK fk (TL xs h))) (hh:h= []):PE f fk:=by
 intro n
 subst hh
 rw [hf n,gU,Gu]; grind
end
end Go.Own.Pol
set_option linter.unusedVariables false
set_option linter.unusedSimpArgs false
namespace Go.Own
open Go.IntWalk
def tl (l:List Nat):Nat→Nat
 |0=>0
 |n+1=>bif Nat.beq (l.getD n 0) 0 then tl l n else n+1
theorem Ew (l:List Nat):∀ n,tl l n≤n
 |0=>Nat.le_refl 0
 |n+1=>by
  have:=Ew l n
  simp only [tl]
  cases Nat.beq (l.getD n 0) 0
  ·exact Nat.le_refl _
  ·exact Nat.le_trans this (Nat.le_succ n)
theorem Ji (l:List Nat):∀ n k,tl l n≤k→k<n→l.getD k 0=0
 |0,k,_,h=>by omega
 |n+1,k,h1,h2=>by
  simp only [tl] at h1
  cases hb:Nat.beq (l.getD n 0) 0 with
  |false=>rw [hb] at h1; simp only [cond_false] at h1; omega
  |true=>
   rw [hb] at h1
   rcases Nat.lt_or_ge k n with h|h
   ·exact Ji l n k h1 h
   ·have:k=n:=by omega
    subst this
    exact Nat.eq_of_beq_eq_true hb
theorem Ey (l:List Nat) (d:Nat) (hz:∀ k,d≤k→l.getD k 0=0):∀ n,tl l n≤d
 |0=>Nat.zero_le d
 |n+1=>by
  simp only [tl]
  cases hb:Nat.beq (l.getD n 0) 0 with
  |true=>exact Ey l d hz n
  |false=>
   rcases Nat.lt_or_ge n d with h|h
   ·exact h
   ·rw [hz n h] at hb; exact absurd hb (by decide)
def qR (q:Nat) (l:List Nat):List Nat:=l.map (· %q)
def sF (q:Nat) (l:List Nat):List Nat:=(qR q l).take (tl (qR q l) l.length)
theorem pu (q:Nat) (l:List Nat):(qR q l).length=l.length:=List.length_map _
theorem O3 {gx:Option dD} {q:Nat} (h:Fld gx q) {l:List Nat}:∀ a∈qR q l,a<au:=by
 intro a ha
 obtain ⟨b,_,rfl⟩:=List.mem_map.1 ha
 exact Nat.lt_trans (Nat.mod_lt _ (by have:=h.gt; omega)) h.lt
theorem P6 {gx:Option dD} {q:Nat} (h:Fld gx q) {l:List Nat} (hl:∀ a∈l,a<au) (hn:l.length≤1073741824):dS.l0 (gx,(),(),l.map limbs,(l.length:Int),0,()) ((true,[]),())=
  (true,1,(gx,(),(),l.map limbs,(l.length:Int),(l.length:Int),()),((decide (l.length=0),(qR q l).map limbs),()),(),()):=by
 have key:dS.l0 (gx,(),(),l.map limbs,(l.length:Int),((0:Nat):Int),()) ((decide (0=0),(l.take 0).map fun a=>limbs (a%q)),())=
  (true,1,(gx,(),(),l.map limbs,(l.length:Int),(l.length:Int),()),((decide (l.length=0),(l.take l.length).map fun a=>limbs (a%q)),()),(),()):=by
  refine bL (g:=fun rq kn ke kr x y=>dS.g0 rq kn ke kr x y) l.length (fun j=>(gx,(),(),l.map limbs,(l.length:Int),(j:Int),())) (fun j=>((decide (j=0),(l.take j).map fun a=>limbs (a%q)),())) _ ?_ ?_ _ 0 (Nat.zero_le _) (by show l.length - 0<((l.length:Int) - ((0:Nat):Int)).toNat+1; omega)
  ·intro j R hj
   have g1:(l.map limbs).getD j [0,0,0,0]=limbs (l.getD j 0):=getD_map hj
   have fa:=A8 h (hl _ (gY hj)) (show 0<au by decide)
   rw [fw,Nat.add_zero] at fa
   have c1:nle ((2*((l.take j).length+1)+512)*32) 70368744177664=true:=pG (by rw [List.length_take]; omega)
   have s1:((l.take j).map fun a=>limbs (a%q))++ [limbs (l.getD j 0%q)]=(l.take (j+1)).map fun a=>limbs (a%q):=jY (f:=fun a=>limbs (a%q)) hj
   have d1:decide (j+1=0)=false:=decide_eq_false (by omega)
   have w1:IntKind.i64.wrap ((j:Int)+1)=((j+1:Nat):Int):=i64_in _ (by omega)
   simp only [dS.g0,Go.Own.lt,dK (show (j:Int)<(l.length:Int) by omega),dM (show (0:Int)≤(j:Int) by omega),Bool.and_true,cond_true,Int.toNat_natCast,g1,List.length_map,ak,fa,Bool.and_false,s1,c1,w1,d1]
  ·intro R
   simp only [dS.g0,Go.Own.lt,dH (show ¬ (l.length:Int)<(l.length:Int) by omega),cond_false]
 have e:(qR q l).map limbs=l.map fun a=>limbs (a%q):=by unfold qR; rw [List.map_map]; rfl
 rw [List.take_length] at key
 rw [e]
 exact key
theorem P5 {L:List Nat} (hL:∀ a∈L,a<au) (hn:L.length≤1073741824) (fl:Bool):dS.l1 ((),(0,L.length),()) ((fl,L.map limbs),())=(true,3,((),(0,tl L L.length),()),((fl,L.map limbs),()),(),()):=by
 obtain ⟨w,hw⟩:∃ w,w=dS.l1 ((),(0,L.length),()) ((fl,L.map limbs),()):=⟨_,rfl⟩
 rw [← hw]
 refine jy (g:=fun rq kn ke kr x y=>dS.g1 rq kn ke kr x y) hw (fun x y=>∃ n,n≤L.length∧tl L n=tl L L.length∧x=((),(0,n),())∧y=((fl,L.map limbs),())) (fun x y=>x.2.1.2) ⟨_,Nat.le_refl _,rfl,rfl,rfl⟩ (by show L.length<((L.length:Int) - (0:Int)).toNat+1; omega)
  (Q:=fun w=>w=(true,3,((),(0,tl L L.length),()),((fl,L.map limbs),()),(),())) ?_
 rintro x y R ⟨n,hn1,ht,rfl,rfl⟩ hR
 cases n with
 |zero=>
  simp only [dS.g1,Go.Own.lt,dH (show ¬ (0:Int)<((0:Nat):Int) by omega),cond_false,← ht]
  rfl
 |succ n=>
  have w1:IntKind.i64.wrap (((n+1:Nat):Int) - 1)=(n:Int):=by rw [i64_in _ (by omega)]; omega
  have g1:(L.map limbs).getD n [0,0,0,0]=limbs (L.getD n 0):=getD_map (by omega)
  have b1:decide (L.getD n 0=0)=Nat.beq (L.getD n 0) 0:=by
   cases L.getD n 0<;>rfl
  simp only [dS.g1,Go.Own.lt,dK (show (0:Int)<((n+1:Nat):Int) by omega),cond_true,w1,Int.toNat_natCast,Nat.zero_add,dM (show (0:Int)≤(n:Int) by omega),dK (show (n:Int)<((n+1:Nat):Int) by omega),dM (show (n:Int)≤((n+1:Nat):Int) by omega),Bool.and_self,ak,g1,J4 (hL _ (gY (show n<L.length by omega))),b1]
  simp only [tl] at ht
  cases hb:Nat.beq (L.getD n 0) 0 with
  |true=>
   rw [hb] at ht
   simp only [cond_true] at ht ⊢
   exact hR _ _ ⟨n,by omega,ht,rfl,rfl⟩ (by show n<n+1; omega)
  |false=>
   rw [hb] at ht
   simp only [cond_false] at ht ⊢
   rw [← ht]
theorem D8 {gx:Option dD} {q:Nat} (h:Fld gx q) {l:List Nat} (hl:∀ a∈l,a<au) (hn:l.length≤1073741824):dS.r gx (l.map limbs)=(true,1,(),(0,tl (qR q l) l.length,(decide (l.length=0),(qR q l).map limbs))):=by
 obtain ⟨rq,inv,hR,hF⟩:=h.field
 have e:=P5 (O3 h (l:=l)) (by rw [pu]; exact hn) (decide (l.length=0))
 rw [pu] at e
 simp only [dS.r,dS.g,Go.Own.lt,hF,ak,hR.uD,cond_false,List.length_map,P6 h hl hn,pu,e]
theorem mF {gx:Option dD} {q:Nat} (h:Fld gx q) {β:Type} (f:Nat→β) (j:Nat):(List.range j).map f++ [f j]=(List.range (j+1)).map f:=by
 rw [List.range_succ,List.map_append]; rfl
theorem Lj {gx:Option dD} {q:Nat} (h:Fld gx q) {f:List Nat} (hf:∀ a∈f,a<au) {by':Nat} (hb:by'<au) (k:Nat) (hk:k≤1073741824):j5.r (k:Int) gx (f.map limbs) 0 (limbs by')=(true,limbs (ji f (k:Int)*by'%q),gx,f.map limbs,0,limbs by'):=by
 have w1:IntKind.i64.wrap ((k:Int) - 0)=(k:Int):=by rw [Int.sub_zero]; exact rW _ (by omega)
 simp only [j5.r,j5.g,Go.Own.lt,w1,Oi,ak,A7 h (wK hf _) hb]
def zn (q:Nat) (f:List Nat) (c:Nat):List Nat:=(List.range f.length).map fun (k:Nat)=>ji f (k:Int)*c%q
theorem Qd {gx:Option dD} {q:Nat} (h:Fld gx q) {f:List Nat} (hf:∀ a∈f,a<au) {by':Nat} (hb:by'<au) (hn:f.length≤1073741824):jB.l0 (gx,(),(),(),(f.length:Int),0,()) ((true,[]),gx,f.map limbs,0,limbs by',())=
  (true,1,(gx,(),(),(),(f.length:Int),(f.length:Int),()),((decide (f.length=0),(zn q f by').map limbs),gx,f.map limbs,0,limbs by',()),(),()):=by
 have key:jB.l0 (gx,(),(),(),(f.length:Int),((0:Nat):Int),()) ((decide (0=0),(List.range 0).map fun (k:Nat)=>limbs (ji f (k:Int)*by'%q)),gx,f.map limbs,0,limbs by',())=
  (true,1,(gx,(),(),(),(f.length:Int),(f.length:Int),()),((decide (f.length=0),(List.range f.length).map fun (k:Nat)=>limbs (ji f (k:Int)*by'%q)),gx,f.map limbs,0,limbs by',()),(),()):=by
  refine bL (g:=fun rq kn ke kr x y=>jB.g0 rq kn ke kr x y) f.length (fun j=>(gx,(),(),(),(f.length:Int),(j:Int),())) (fun j=>((decide (j=0),(List.range j).map fun (k:Nat)=>limbs (ji f (k:Int)*by'%q)),gx,f.map limbs,0,limbs by',())) _ ?_ ?_ _ 0 (Nat.zero_le _) (by show f.length - 0<((f.length:Int) - ((0:Nat):Int)).toNat+1; omega)
  ·intro j R hj
   have c1:nle ((2*(j+1)+512)*32) 70368744177664=true:=pG (by omega)
   have s1:=mF h (fun (k:Nat)=>limbs (ji f (k:Int)*by'%q)) j
   have d1:decide (j+1=0)=false:=decide_eq_false (by omega)
   have w1:IntKind.i64.wrap ((j:Int)+1)=((j+1:Nat):Int):=i64_in _ (by omega)
   simp only [jB.g0,Go.Own.lt,dK (show (j:Int)<(f.length:Int) by omega),cond_true,Lj h hf hb j (by omega),ak,Bool.and_false,s1,List.length_map,List.length_range,c1,w1,d1]
  ·intro R
   simp only [jB.g0,Go.Own.lt,dH (show ¬ (f.length:Int)<(f.length:Int) by omega),cond_false]
 have e:(zn q f by').map limbs=(List.range f.length).map fun (k:Nat)=>limbs (ji f (k:Int)*by'%q):=by unfold zn; rw [List.map_map]; rfl
 rw [e]
 exact key
theorem R8 {gx:Option dD} {q:Nat} (h:Fld gx q) {f:Nat→Nat} {n:Nat}:∀ a∈(List.range n).map fun k=>f k%q,a<au:=by
 intro a ha
 obtain ⟨b,_,rfl⟩:=List.mem_map.1 ha
 exact Nat.lt_trans (Nat.mod_lt _ (by have:=h.gt; omega)) h.lt
theorem OX {gx:Option dD} {q:Nat} (h:Fld gx q) {f:List Nat} {c:Nat}:∀ a∈zn q f c,a<au:=R8 h (f:=fun (k:Nat)=>ji f (k:Int)*c) (n:=f.length)
theorem vT {q:Nat} {f:List Nat} {c:Nat}:(zn q f c).length=f.length:=by unfold zn; simp
theorem N8 {gx:Option dD} {q:Nat} (h:Fld gx q) {f:List Nat} (hf:∀ a∈f,a<au) {by':Nat} (hb:by'<au) (hn:f.length≤1073741824):l9.r gx (f.map limbs) (limbs by') 0=(true,(sF q (zn q f by')).map limbs):=by
 have w1:IntKind.i64.wrap ((f.length:Int)+0)=(f.length:Int):=by rw [Int.add_zero]; exact rW _ (by omega)
 have e:=D8 h (OX h (f:=f) (c:=by')) (by rw [vT]; exact hn)
 rw [vT] at e
 simp only [l9.r,l9.g,jB.r,jB.g,Go.Own.lt,List.length_map,w1,Qd h hf hb hn,ak,e,show Nat.beq 1 0=false from rfl,cond_false,List.drop_zero]
 unfold sF
 rw [vT,List.map_take]
def addN (q:Nat) (a b:List Nat):List Nat:=(List.range (max a.length b.length)).map fun (k:Nat)=>(ji a (k:Int)+ji b (k:Int))%q
theorem AQ {q:Nat} {a b:List Nat}:(addN q a b).length=max a.length b.length:=by unfold addN; simp
theorem PZ {gx:Option dD} {q:Nat} (h:Fld gx q) {a b:List Nat}:∀ x∈addN q a b,x<au:=R8 h (f:=fun (k:Nat)=>ji a (k:Int)+ji b (k:Int)) (n:=max a.length b.length)
theorem RI {gx:Option dD} {q:Nat} (h:Fld gx q) {a b:List Nat} (ha:∀ x∈a,x<au) (hb:∀ x∈b,x<au) (k:Nat):nI.r (k:Int) gx (a.map limbs) (b.map limbs)=(true,limbs ((ji a (k:Int)+ji b (k:Int))%q),gx,a.map limbs,b.map limbs):=by
 simp only [nI.r,nI.g,Go.Own.lt,Oi,ak,A8 h (wK ha _) (wK hb _)]
theorem Ow {gx:Option dD} {q:Nat} (h:Fld gx q) {a b:List Nat} (ha:∀ x∈a,x<au) (hb:∀ x∈b,x<au) {n:Nat} (hn:n≤1073741824):gG.l0 (gx,(),(),(),(n:Int),0,()) ((true,[]),gx,a.map limbs,b.map limbs,())=
  (true,1,(gx,(),(),(),(n:Int),(n:Int),()),((decide (n=0),(List.range n).map fun (k:Nat)=>limbs ((ji a (k:Int)+ji b (k:Int))%q)),gx,a.map limbs,b.map limbs,()),(),()):=by
 have key:gG.l0 (gx,(),(),(),(n:Int),((0:Nat):Int),()) ((decide (0=0),(List.range 0).map fun (k:Nat)=>limbs ((ji a (k:Int)+ji b (k:Int))%q)),gx,a.map limbs,b.map limbs,())=
  (true,1,(gx,(),(),(),(n:Int),(n:Int),()),((decide (n=0),(List.range n).map fun (k:Nat)=>limbs ((ji a (k:Int)+ji b (k:Int))%q)),gx,a.map limbs,b.map limbs,()),(),()):=by
  refine bL (g:=fun rq kn ke kr x y=>gG.g0 rq kn ke kr x y) n (fun j=>(gx,(),(),(),(n:Int),(j:Int),())) (fun j=>((decide (j=0),(List.range j).map fun (k:Nat)=>limbs ((ji a (k:Int)+ji b (k:Int))%q)),gx,a.map limbs,b.map limbs,())) _ ?_ ?_ _ 0 (Nat.zero_le _) (by show n - 0<((n:Int) - ((0:Nat):Int)).toNat+1; omega)
  ·intro j R hj
   have c1:nle ((2*(j+1)+512)*32) 70368744177664=true:=pG (by omega)
   have s1:=mF h (fun (k:Nat)=>limbs ((ji a (k:Int)+ji b (k:Int))%q)) j
   have d1:decide (j+1=0)=false:=decide_eq_false (by omega)
   have w1:IntKind.i64.wrap ((j:Int)+1)=((j+1:Nat):Int):=i64_in _ (by omega)
   simp only [gG.g0,Go.Own.lt,dK (show (j:Int)<(n:Int) by omega),cond_true,RI h ha hb j,ak,Bool.and_false,s1,List.length_map,List.length_range,c1,w1,d1]
  ·intro R
   simp only [gG.g0,Go.Own.lt,dH (show ¬ (n:Int)<(n:Int) by omega),cond_false]
 exact key
theorem Rw {gx:Option dD} {q:Nat} (h:Fld gx q) {a b:List Nat} (ha:∀ x∈a,x<au) (hb:∀ x∈b,x<au) (hna:a.length≤1073741824) (hnb:b.length≤1073741824):rE.r gx (a.map limbs) (b.map limbs)=(true,1,(),(0,tl (qR q (addN q a b)) (addN q a b).length,(decide ((addN q a b).length=0),(qR q (addN q a b)).map limbs))):=by
 have e:=D8 h (PZ h (a:=a) (b:=b)) (by rw [AQ]; omega)
 have m1:((if a.length<b.length then b.length else a.length:Nat):Int)=((max a.length b.length:Nat):Int):=by
  congr 1; split<;>omega
 have ml:=Ow h ha hb (n:=max a.length b.length) (by omega)
 have e2:(addN q a b).map limbs=(List.range (max a.length b.length)).map fun (k:Nat)=>limbs ((ji a (k:Int)+ji b (k:Int))%q):=by unfold addN; rw [List.map_map]; rfl
 rw [← e2] at ml
 simp only [rE.r,rE.g,gG.r,gG.g,Go.Own.lt,List.length_map,JW,m1,ml,ak,e,show Nat.beq 1 0=false from rfl,cond_false]
def mulC (q:Nat) (a b:List Nat) (k n:Nat):Nat:=(List.range n).foldl (fun (s:Nat) (i:Nat)=>(s+ji a (i:Int)*ji b ((k:Int) - (i:Int))%q)%q) 0
theorem BQ {gx:Option dD} {q:Nat} (h:Fld gx q) {a b:List Nat} {k n:Nat}:mulC q a b k (n+1)=(mulC q a b k n+ji a (n:Int)*ji b ((k:Int) - (n:Int))%q)%q:=by
 unfold mulC; rw [List.range_succ,List.foldl_append]; rfl
theorem JA {gx:Option dD} {q:Nat} (h:Fld gx q) {a b:List Nat} {k n:Nat}:mulC q a b k n<q:=by
 cases n with
 |zero=>have:=h.gt; show 0<q; omega
 |succ n=>rw [BQ h]; exact Nat.mod_lt _ (by have:=h.gt; omega)
theorem Qc {gx:Option dD} {q:Nat} (h:Fld gx q) {a b:List Nat} (ha:∀ x∈a,x<au) (hb:∀ x∈b,x<au) {k:Nat} (hk:k≤1073741824) (hn:a.length≤1073741824):iN.r (k:Int) (a.map limbs) gx (b.map limbs)=(true,limbs (mulC q a b k a.length),a.map limbs,gx,b.map limbs):=by
 have key:iN.l0 ((k:Int),(),(),(),(),(),(a.length:Int),((0:Nat):Int),()) ([0,0,0,0],limbs (mulC q a b k 0),a.map limbs,gx,b.map limbs,())=
  (true,1,((k:Int),(),(),(),(),(),(a.length:Int),(a.length:Int),()),([0,0,0,0],limbs (mulC q a b k a.length),a.map limbs,gx,b.map limbs,()),(),()):=by
  refine bL (g:=fun rq kn ke kr x y=>iN.g0 rq kn ke kr x y) a.length (fun j=>((k:Int),(),(),(),(),(),(a.length:Int),(j:Int),())) (fun j=>([0,0,0,0],limbs (mulC q a b k j),a.map limbs,gx,b.map limbs,())) _ ?_ ?_ _ 0 (Nat.zero_le _) (by show a.length - 0<((a.length:Int) - ((0:Nat):Int)).toNat+1; omega)
  ·intro j R hj
   have g1:(a.map limbs).getD j [0,0,0,0]=limbs (a.getD j 0):=getD_map hj
   have g2:a.getD j 0=ji a (j:Int):=by unfold ji; rw [if_neg (by omega)]; rfl
   have w0:IntKind.i64.wrap ((k:Int) - (j:Int))=(k:Int) - (j:Int):=i64_in _ (by omega)
   have w1:IntKind.i64.wrap ((j:Int)+1)=((j+1:Nat):Int):=i64_in _ (by omega)
   have f1:=A7 h (wK ha (j:Int)) (wK hb ((k:Int) - (j:Int)))
   have f2:=A8 h (a:=mulC q a b k j) (b:=ji a (j:Int)*ji b ((k:Int) - (j:Int))%q) (Nat.lt_trans (JA h) h.lt) (Nat.lt_trans (Nat.mod_lt _ (by have:=h.gt; omega)) h.lt)
   rw [← BQ h] at f2
   simp only [iN.g0,Go.Own.lt,dK (show (j:Int)<(a.length:Int) by omega),dM (show (0:Int)≤(j:Int) by omega),cond_true,Bool.and_self,Int.toNat_natCast,List.length_map,ak,g1,g2,w0,Oi,f1,f2,w1]
  ·intro R
   simp only [iN.g0,Go.Own.lt,dH (show ¬ (a.length:Int)<(a.length:Int) by omega),cond_false]
 have e0:limbs (mulC q a b k 0)= [0,0,0,0]:=fw
 rw [e0] at key
 have k2:iN.l0 ((k:Int),(),(),(),(),(),(a.length:Int),0,()) ([0,0,0,0],[0,0,0,0],a.map limbs,gx,b.map limbs,())=_:=key
 simp only [iN.r,iN.g,Go.Own.lt,List.length_map,k2,ak]
def mulN (q:Nat) (a b:List Nat):List Nat:=(List.range (a.length+b.length)).map fun k=>mulC q a b k a.length
theorem Fv {q:Nat} {a b:List Nat}:(mulN q a b).length=a.length+b.length:=by unfold mulN; simp
theorem Pg {gx:Option dD} {q:Nat} (h:Fld gx q) {a b:List Nat}:∀ x∈mulN q a b,x<au:=by
 intro x hx
 obtain ⟨k,_,rfl⟩:=List.mem_map.1 hx
 exact Nat.lt_trans (JA h) h.lt
theorem Ov {gx:Option dD} {q:Nat} (h:Fld gx q) {a b:List Nat} (ha:∀ x∈a,x<au) (hb:∀ x∈b,x<au) {n:Nat} (hn:n≤1073741824) (hna:a.length≤1073741824):gF.l0 (gx,(),(),(),(n:Int),0,()) ((true,[]),a.map limbs,gx,b.map limbs,())=
  (true,1,(gx,(),(),(),(n:Int),(n:Int),()),((decide (n=0),(List.range n).map fun (k:Nat)=>limbs (mulC q a b k a.length)),a.map limbs,gx,b.map limbs,()),(),()):=by
 have key:gF.l0 (gx,(),(),(),(n:Int),((0:Nat):Int),()) ((decide (0=0),(List.range 0).map fun (k:Nat)=>limbs (mulC q a b k a.length)),a.map limbs,gx,b.map limbs,())=
  (true,1,(gx,(),(),(),(n:Int),(n:Int),()),((decide (n=0),(List.range n).map fun (k:Nat)=>limbs (mulC q a b k a.length)),a.map limbs,gx,b.map limbs,()),(),()):=by
  refine bL (g:=fun rq kn ke kr x y=>gF.g0 rq kn ke kr x y) n (fun j=>(gx,(),(),(),(n:Int),(j:Int),())) (fun j=>((decide (j=0),(List.range j).map fun (k:Nat)=>limbs (mulC q a b k a.length)),a.map limbs,gx,b.map limbs,())) _ ?_ ?_ _ 0 (Nat.zero_le _) (by show n - 0<((n:Int) - ((0:Nat):Int)).toNat+1; omega)
  ·intro j R hj
   have c1:nle ((2*(j+1)+512)*32) 70368744177664=true:=pG (by omega)
   have s1:=mF h (fun (k:Nat)=>limbs (mulC q a b k a.length)) j
   have d1:decide (j+1=0)=false:=decide_eq_false (by omega)
   have w1:IntKind.i64.wrap ((j:Int)+1)=((j+1:Nat):Int):=i64_in _ (by omega)
   simp only [gF.g0,Go.Own.lt,dK (show (j:Int)<(n:Int) by omega),cond_true,Qc h ha hb (show j≤1073741824 by omega) hna,ak,Bool.and_false,s1,List.length_map,List.length_range,c1,w1,d1]
  ·intro R
   simp only [gF.g0,Go.Own.lt,dH (show ¬ (n:Int)<(n:Int) by omega),cond_false]
 exact key
theorem Rs {gx:Option dD} {q:Nat} (h:Fld gx q) {a b:List Nat} (ha:∀ x∈a,x<au) (hb:∀ x∈b,x<au) (hn:a.length+b.length≤1073741824):pV.r gx (a.map limbs) (b.map limbs)=(true,(sF q (mulN q a b)).map limbs):=by
 have e:=D8 h (Pg h (a:=a) (b:=b)) (by rw [Fv]; omega)
 have ml:=Ov h ha hb (n:=a.length+b.length) hn (by omega)
 have e2:(mulN q a b).map limbs=(List.range (a.length+b.length)).map fun (k:Nat)=>limbs (mulC q a b k a.length):=by unfold mulN; rw [List.map_map]; rfl
 rw [← e2] at ml
 have w1:IntKind.i64.wrap ((a.length:Int)+(b.length:Int))=((a.length+b.length:Nat):Int):=i64_in _ (by omega)
 simp only [pV.r,pV.g,gF.r,gF.g,Go.Own.lt,List.length_map,w1,ml,ak,e,show Nat.beq 1 0=false from rfl,cond_false,List.drop_zero]
 unfold sF
 rw [List.map_take]
end Go.Own
set_option linter.unusedVariables false
set_option linter.unusedSimpArgs false
namespace Go.Own
open Go.IntWalk
section
variable {q:Nat} [NeZero q]
def fz (q:Nat) [NeZero q] (n:Nat):Fin q:=Fin.ofNat q n
theorem mG (a:Nat):fz q (a%q)=fz q a:=by unfold fz; simp [Fin.ext_iff]
theorem rX (a b:Nat):fz q (a+b)=fz q a+fz q b:=by unfold fz; simp [Fin.ext_iff,Fin.val_add]
theorem vG (a b:Nat):fz q (a*b)=fz q a*fz q b:=by unfold fz; simp [Fin.ext_iff,Fin.val_mul,Nat.mul_mod]
theorem lu:fz q 0=0:=rfl
theorem Iw:fz q 1=1:=rfl
theorem Ta:fz q q=0:=by unfold fz; simp [Fin.ext_iff]
theorem Nq (a:Nat):(fz q a).val=a%q:=rfl
theorem Ns {a b:Nat} (h:fz q a=fz q b):a%q=b%q:=congrArg Fin.val h
theorem Nr {a b:Nat}:fz q ((a%q+(q - b%q))%q)=fz q a - fz q b:=by
 have hq:0<q:=Nat.pos_of_ne_zero (NeZero.ne q)
 have h1:=Nat.mod_lt b hq
 have h2:fz q (q - b%q)+fz q b=0:=by
  rw [← mG b,← rX,Nat.sub_add_cancel (Nat.le_of_lt h1),Ta]
 rw [mG,rX,mG]
 grind
def toF (q:Nat) [NeZero q] (l:List Nat):List (Fin q):=l.map (fz q)
theorem j6 (l:List Nat) (n:Nat):Pol.cf (toF q l) n=fz q (l.getD n 0):=by
 unfold Pol.cf toF
 rcases Nat.lt_or_ge n l.length with h|h
 ·exact getD_map h
 ·rw [List.getD_eq_getElem?_getD,List.getElem?_eq_none (by simpa using h),List.getD_eq_getElem?_getD,List.getElem?_eq_none h]; rfl
theorem vH (f:List Nat) (x:Nat):fz q (evN q f x)=Pol.ev (toF q f) (fz q x):=by
 induction f with
 |nil=>rfl
 |cons a f ih=>
  show fz q ((evN q f x*x%q+a)%q)=Pol.ev (toF q f) (fz q x)*fz q x+fz q a
  rw [mG,rX,mG,vG,ih]
theorem DT (f:List Nat) (n:Nat):ji f (n:Int)=f.getD n 0:=by unfold ji; rw [if_neg (by omega)]; rfl
theorem jh {l:List Nat} {n:Nat} (h:l.length≤n):l.getD n 0=0:=by rw [List.getD_eq_getElem?_getD,List.getElem?_eq_none h]; rfl
theorem Px (l:List Nat) (n:Nat):fz q ((qR q l).getD n 0)=fz q (l.getD n 0):=by
 rcases Nat.lt_or_ge n l.length with h|h
 ·have:(qR q l).getD n 0=l.getD n 0%q:=getD_map h
  rw [this,mG]
 ·rw [jh (by rw [pu]; exact h),jh h]
theorem getD_take {l:List Nat} {m n:Nat}:(l.take m).getD n 0=if n<m then l.getD n 0 else 0:=by
 simp only [List.getD_eq_getElem?_getD,List.getElem?_take]
 split<;>rfl
theorem Jk {L:List Nat} {n:Nat}:(L.take (tl L L.length)).getD n 0=L.getD n 0:=by
 rw [getD_take]
 split
 ·rfl
 ·rename_i h
  rcases Nat.lt_or_ge n L.length with h2|h2
  ·exact (Ji L L.length n (by omega) h2).symm
  ·exact (jh h2).symm
theorem Ed (l:List Nat):Pol.PE (toF q (sF q l)) (toF q l):=fun n=>by
 rw [j6,j6,← Px l n]
 congr 1
 unfold sF
 rw [← pu q l]
 exact Jk
theorem tJ {f:Nat→Nat} {n k:Nat}:((List.range n).map f).getD k 0=if k<n then f k else 0:=by
 split
 ·rename_i h; exact iM h
 ·rename_i h; exact jh (by simpa using h)
theorem Rt (f:List Nat) (c:Nat):Pol.PE (toF q (zn q f c)) (Pol.pY (fz q c) (toF q f)):=fun n=>by
 rw [j6,Pol.kT,j6]
 unfold zn
 rw [tJ]
 split
 ·rw [mG,vG,DT]; grind
 ·rename_i h
  rw [jh (by omega),lu]; grind
theorem Rv (a b:List Nat):Pol.PE (toF q (addN q a b)) (Pol.kK (toF q a) (toF q b)):=fun n=>by
 rw [j6,Pol.gU,j6,j6]
 unfold addN
 rw [tJ]
 split
 ·rw [mG,rX,DT,DT]
 ·rename_i h
  rw [jh (l:=a) (by omega),jh (l:=b) (by omega),lu]; grind
theorem JP (a:List Nat) (b k:Nat):∀ n,fz q (mulC q a [b,1] k n)=(if k<n then fz q b*fz q (a.getD k 0) else 0)+(if 1≤k∧k - 1<n then fz q (a.getD (k - 1) 0) else 0)
 |0=>by
  show fz q 0=_
  rw [if_neg (by omega),if_neg (by omega),lu]; grind
 |n+1=>by
  have ih:=JP a b k n
  have e:mulC q a [b,1] k (n+1)=(mulC q a [b,1] k n+ji a (n:Int)*ji [b,1] ((k:Int) - (n:Int))%q)%q:=by
   unfold mulC; rw [List.range_succ,List.foldl_append]; rfl
  rw [e,mG,rX,mG,vG,ih,DT]
  have hc:ji [b,1] ((k:Int) - (n:Int))=if n=k then b else if n+1=k then 1 else 0:=by
   unfold ji
   by_cases h1:n=k
   ·subst h1; rw [if_neg (by omega),if_pos rfl,show ((n:Int) - (n:Int)).toNat=0 by omega]; rfl
   ·rw [if_neg h1]
    by_cases h2:n+1=k
    ·rw [if_neg (by omega),if_pos h2,show ((k:Int) - (n:Int)).toNat=1 by omega]; rfl
    ·rw [if_neg h2]
     split
     ·rfl
     ·exact jh (by simp only [List.length_cons,List.length_nil]; omega)
  rw [hc]
  by_cases h1:n=k
  ·subst h1
   rw [if_pos rfl,if_neg (show ¬ n<n by omega),if_pos (show n<n+1 by omega)]
   by_cases h3:1≤n
   ·rw [if_pos ⟨h3,by omega⟩,if_pos ⟨h3,by omega⟩]; grind
   ·rw [if_neg (by omega),if_neg (by omega)]; grind
  ·rw [if_neg h1]
   by_cases h2:n+1=k
   ·subst h2
    rw [if_pos rfl,if_neg (show ¬ n+1<n by omega),if_neg (show ¬ n+1<n+1 by omega),if_neg (by omega),if_pos (by omega),Iw,Nat.add_sub_cancel]; grind
   ·rw [if_neg h2,lu]
    by_cases h3:k<n
    ·rw [if_pos h3,if_pos (show k<n+1 by omega)]
     by_cases h4:1≤k
     ·rw [if_pos ⟨h4,by omega⟩,if_pos ⟨h4,by omega⟩]; grind
     ·rw [if_neg (by omega),if_neg (by omega)]; grind
    ·rw [if_neg h3,if_neg (show ¬ k<n+1 by omega),if_neg (by omega),if_neg (by omega)]; grind
theorem Ru (a:List Nat) (b:Nat):Pol.PE (toF q (mulN q a [b,1])) (Pol.Ml (-(fz q b)) (toF q a)):=fun n=>by
 rw [j6]
 unfold mulN
 rw [tJ,show ([b,1]:List Nat).length=2 from rfl]
 have e:(if n<a.length+2 then mulC q a [b,1] n a.length else 0)=mulC q a [b,1] n a.length∨¬ n<a.length+2:=by
  by_cases h:n<a.length+2
  ·exact .inl (if_pos h)
  ·exact .inr h
 have v:fz q (if n<a.length+2 then mulC q a [b,1] n a.length else 0)=fz q b*fz q (a.getD n 0)+(if 1≤n then fz q (a.getD (n - 1) 0) else 0):=by
  rcases e with e|h
  ·rw [e,JP]
   by_cases h1:n<a.length
   ·rw [if_pos h1]
    by_cases h2:1≤n
    ·rw [if_pos ⟨h2,by omega⟩,if_pos h2]
    ·rw [if_neg (by omega),if_neg h2]
   ·rw [if_neg h1,jh (l:=a) (n:=n) (by omega),lu]
    by_cases h2:1≤n
    ·rw [if_pos h2]
     by_cases h3:n - 1<a.length
     ·rw [if_pos ⟨h2,h3⟩]; grind
     ·rw [if_neg (by omega),jh (l:=a) (n:=n - 1) (by omega),lu]; grind
    ·rw [if_neg h2,if_neg (by omega)]; grind
  ·rw [if_neg h,jh (l:=a) (n:=n) (by omega),if_pos (by omega),jh (l:=a) (n:=n - 1) (by omega),lu]; grind
 rw [v]
 cases n with
 |zero=>rw [Pol.mK,j6,if_neg (by omega)]; grind
 |succ n=>rw [Pol.kJ,j6,j6,if_pos (by omega),Nat.add_sub_cancel]; grind
end
end Go.Own
set_option linter.unusedVariables false
set_option linter.unusedSimpArgs false
namespace Go.Own
open Go.IntWalk
theorem LA {q a:Nat} [NeZero q] (hq:1<q) (h:∃ s:Fin q,s*fz q a=1):Nat.gcd a q=1:=by
 obtain ⟨s,hs⟩:=h
 have e:s.val*(a%q)%q=1:=by
  have:=congrArg Fin.val hs
  rw [Fin.val_mul,Nq] at this
  rw [this]
  show 1%q=1
  exact Nat.mod_eq_of_lt hq
 rw [Nat.mul_mod_mod] at e
 have h1:Nat.gcd a q∣s.val*a:=Nat.dvd_trans (Nat.gcd_dvd_left a q) (Nat.dvd_mul_left _ _)
 have h2:Nat.gcd a q∣q:=Nat.gcd_dvd_right a q
 have h3:Nat.gcd a q∣s.val*a%q:=(Nat.dvd_mod_iff h2).2 h1
 rw [e] at h3
 exact Nat.dvd_one.1 h3
theorem FQ {q a s:Nat} [NeZero q] (h:Ox a q s):fz q s*fz q a=1:=by
 rw [← vG,← mG,h.eq,Iw]
theorem Bw (q:Nat) (l:List Nat):(sF q l).length≤l.length:=by
 unfold sF; rw [List.length_take,pu]; omega
theorem Me {q:Nat} (hq:0<q) {l:List Nat}:∀ a∈qR q l,a<q:=by
 intro a ha
 obtain ⟨b,_,rfl⟩:=List.mem_map.1 ha
 exact Nat.mod_lt _ hq
theorem Je {q:Nat} (hq:0<q) {l:List Nat}:∀ a∈sF q l,a<q:=fun a ha=>Me hq a (List.mem_of_mem_take ha)
def vK (q:Nat) [NeZero q] (xs:List Nat):Prop:=∀ k,k<xs.length→∃ s:Fin q,s*Pol.sU (toF q (xs.take k)) (fz q (xs.getD k 0))=1
theorem Li {gx:Option dD} {q:Nat} [NeZero q] (h:Fld gx q) {f xs:List Nat} (hf:∀ a∈f,a<au) (hx:∀ a∈xs,a<au) (hfx:f.length≤xs.length) (h32:xs.length≤32) (ha:vK q xs):
  ∃ (L:List Nat) (n:Nat) (fl:Bool),gH.r gx (xs.map limbs) ((xs.map (evN q f)).map limbs)=(true,1,0,(0,n,0,(fl,L.map limbs)))∧(∀ a∈L,a<q)∧n≤L.length∧n≤f.length∧Pol.PE (toF q f) (toF q (L.take n)):=by
 have hq:=h.gt
 have hqW:=h.lt
 have h0:0<q:=by omega
 have qW:∀ {a},a<q→a<au:=fun h=>Nat.lt_trans h hqW
 obtain ⟨rq,inv,hR,hF⟩:=h.field
 obtain ⟨w,hw⟩:∃ w,w=gH.l0 (gx,(xs.map (evN q f)).map limbs,(),0,(0,0),[[1,0,0,0]],xs.map limbs,(xs.length:Int),0,()) ((true,[]),()):=⟨_,rfl⟩
 have key:w.1=true∧w.2.1=1∧∃ (L:List Nat) (n:Nat) (fl:Bool),w.2.2.1.2.2.2.2.1=(0,n)∧w.2.2.2.1.1=(fl,L.map limbs)∧(∀ a∈L,a<q)∧n≤L.length∧n≤f.length∧Pol.PE (toF q f) (toF q (L.take n)):=by
  refine jy (g:=fun rq kn ke kr x y=>gH.g0 rq kn ke kr x y) hw
   (fun x y=>∃ (k:Nat) (L:List Nat) (n:Nat) (base:List Nat) (hh:List (Fin q)) (fl:Bool),k≤xs.length∧x=(gx,(xs.map (evN q f)).map limbs,(),0,(0,n),base.map limbs,xs.map limbs,(xs.length:Int),(k:Int),())∧y=((fl,L.map limbs),())∧n=tl L L.length∧(∀ a∈L,a<q)∧(∀ a∈base,a<q)∧base.length≤1+2*k∧n≤1+2*k∧
    Pol.PE (toF q f) (Pol.kK (toF q (L.take n)) (Pol.TL (toF q (xs.take k)) hh))∧Pol.PE (toF q base) (Pol.TL (toF q (xs.take k)) [1])∧hh.length=f.length - k)
   (fun x y=>xs.length - x.2.2.2.2.2.2.2.2.1.toNat)
   ⟨0,[],0,[1],toF q f,true,Nat.zero_le _,rfl,rfl,rfl,by simp,by simp; omega,by simp,by omega,fun n=>by rw [Pol.gU]; show _=Pol.cf [] n+_; rw [Pol.jd]; show _=0+Pol.cf (toF q f) n; grind,fun n=>rfl,by unfold toF; simp⟩
   (by show xs.length - ((0:Int)).toNat<((xs.length:Int) - (0:Int)).toNat+1; omega)
   (Q:=fun w=>w.1=true∧w.2.1=1∧∃ (L:List Nat) (n:Nat) (fl:Bool),w.2.2.1.2.2.2.2.1=(0,n)∧w.2.2.2.1.1=(fl,L.map limbs)∧(∀ a∈L,a<q)∧n≤L.length∧n≤f.length∧Pol.PE (toF q f) (toF q (L.take n))) ?_
  rintro x y R ⟨k,L,n,base,hh,fl,hk,rfl,rfl,hn,hL,hB,hbl,hnl,i1,i2,i3⟩ hR
  by_cases hlt:k<xs.length
  ·have hxk:=hx _ (gY hlt)
   obtain ⟨X,hX⟩:∃ X,X=xs.getD k 0:=⟨_,rfl⟩
   have g1:(xs.map limbs).getD k [0,0,0,0]=limbs X:=by rw [hX]; exact getD_map hlt
   have g2:((xs.map (evN q f)).map limbs).getD k [0,0,0,0]=limbs (evN q f X):=by
    rw [getD_map (d':=0) (by rw [List.length_map]; exact hlt),getD_map (d':=0) hlt,hX]
   rw [← hX] at hxk
   have hfk:∀ a∈L.take n,a<au:=fun a ha=>qW (hL a (List.mem_of_mem_take ha))
   have hbW:∀ a∈base,a<au:=fun a ha=>qW (hB a ha)
   have hfl:(L.take n).length≤1+2*k:=by rw [List.length_take]; omega
   have E1:=Jb h hbW (by omega) hxk
   have E2:=Jb h hfk (by omega) hxk
   obtain ⟨bv,hbv⟩:∃ b,b=evN q base X:=⟨_,rfl⟩
   obtain ⟨fv,hfv⟩:∃ b,b=evN q (L.take n) X:=⟨_,rfl⟩
   obtain ⟨yv,hyv⟩:∃ b,b=evN q f X:=⟨_,rfl⟩
   have bq:bv<q:=by rw [hbv]; exact Ao h0 _ _
   have fvq:fv<q:=by rw [hfv]; exact Ao h0 _ _
   have yvq:yv<q:=by rw [hyv]; exact Ao h0 _ _
   rw [← hbv] at E1; rw [← hfv] at E2; rw [← hyv] at g2
   have eb:fz q bv=Pol.ev (toF q base) (fz q X):=by rw [hbv,vH]
   have efv:fz q fv=Pol.ev (toF q (L.take n)) (fz q X):=by rw [hfv,vH]
   have ey:fz q yv=Pol.ev (toF q f) (fz q X):=by rw [hyv,vH]
   have hu:∃ s:Fin q,s*fz q bv=1:=by
    obtain ⟨s,hs⟩:=ha k hlt
    refine ⟨s,?_⟩
    rw [eb,Pol.Am i2,Pol.K5,hX]
    show s*(_*(0*_+1))=1
    rw [← hs]; grind
   have hg:=LA hq hu
   have hbz:bv≠0:=by rintro rfl; rw [Nat.gcd_zero_left] at hg; omega
   obtain ⟨s,hs,eI⟩:=RG h (qW bq) hg
   have P0:=J4 (qW bq)
   rw [decide_eq_false hbz] at P0
   have S1:=Oz h (qW yvq) (qW fvq)
   obtain ⟨d,hd⟩:∃ d,d=(yv%q+(q - fv%q))%q:=⟨_,rfl⟩
   have dq:d<q:=by rw [hd]; exact Nat.mod_lt _ h0
   rw [← hd] at S1
   have M1:=A7 h (qW dq) (qW hs.lt)
   obtain ⟨c,hc⟩:∃ c,c=d*s%q:=⟨_,rfl⟩
   have cq:c<q:=by rw [hc]; exact Nat.mod_lt _ h0
   rw [← hc] at M1
   have SC:=N8 h hbW (qW cq) (by omega)
   obtain ⟨sc,hsc⟩:∃ z,z=sF q (zn q base c):=⟨_,rfl⟩
   rw [← hsc] at SC
   have hscW:∀ a∈sc,a<au:=fun a ha=>qW (by rw [hsc] at ha; exact Je h0 a ha)
   have hscl:sc.length≤1+2*k:=by
    have:=Bw q (zn q base c)
    rw [vT,← hsc] at this
    omega
   have AD:=Rw h hfk hscW (by omega) (by omega)
   have S2:=Oz h (show 0<au by decide) hxk
   obtain ⟨nx,hnx⟩:∃ d,d=(0%q+(q - X%q))%q:=⟨_,rfl⟩
   have nxq:nx<q:=by rw [hnx]; exact Nat.mod_lt _ h0
   rw [← hnx,fw] at S2
   have ML:=Rs h hbW (b:= [nx,1]) (by intro a ha; rcases List.mem_cons.1 ha with rfl|ha; exact qW nxq; rcases List.mem_cons.1 ha with rfl|ha; decide; cases ha) (by show base.length+2≤_; omega)
   have e1:([nx,1]:List Nat).map limbs= [limbs nx,[1,0,0,0]]:=rfl
   rw [e1] at ML
   have w1:IntKind.i64.wrap ((k:Int)+1)=((k+1:Nat):Int):=i64_in _ (by omega)
   have et:(List.map limbs L).take n=(L.take n).map limbs:=(List.map_take).symm
   simp only [gH.g0,Go.Own.lt,dK (show (k:Int)<(xs.length:Int) by omega),dM (show (0:Int)≤(k:Int) by omega),cond_true,Bool.and_self,Int.toNat_natCast,List.length_map,ak,g1,g2,E1,P0,cond_false,List.drop_zero,et,E2,S1,eI,M1,SC,AD,show Nat.beq 1 0=false from rfl,S2,ML,w1]
   have ax:toF q (xs.take (k+1))=toF q (xs.take k)++ [fz q X]:=by
    unfold toF
    rw [hX]
    exact (jY (f:=fz q) hlt).symm
   have st:=Pol.CV (fk':=toF q ((qR q (addN q (L.take n) sc)).take (tl (qR q (addN q (L.take n) sc)) (addN q (L.take n) sc).length))) (base':=toF q (sF q (mulN q base [nx,1]))) (s:=fz q s) (c:=fz q c) i1 i2 ey (by rw [← eb]; exact FQ hs)
    (by rw [hc,mG,vG,hd,Nr,efv])
    (by
     refine (Ed (q:=q) (addN q (L.take n) sc)).trans ((Rv _ _).trans (Pol.PE.add Pol.PE.rfl' ?_))
     rw [hsc]
     exact (Ed _).trans (Rt _ _))
    (by
     refine (Ed (q:=q) _).trans ((Ru base nx).trans ?_)
     have: -(fz q nx)=fz q X:=by rw [hnx,Nr,lu]; grind
     rw [this]
     exact Pol.PE.rfl')
   refine hR _ _ ⟨k+1,qR q (addN q (L.take n) sc),_,sF q (mulN q base [nx,1]),Pol.dv (fz q X) hh,_,hlt,rfl,rfl,by rw [pu],Me h0,Je h0,?_,?_,?_,?_,?_⟩ ?_
   ·have:=Bw q (mulN q base [nx,1])
    rw [Fv] at this
    have e2:([nx,1]:List Nat).length=2:=rfl
    omega
   ·have:=Ew (qR q (addN q (L.take n) sc)) (addN q (L.take n) sc).length
    rw [AQ] at this
    rw [AQ]
    omega
   ·rw [ax]; exact st.1
   ·rw [ax]; exact st.2
   ·rw [Pol.IC,i3]; omega
   ·show xs.length - (((k+1:Nat):Int)).toNat<xs.length - ((k:Int)).toNat
    omega
  ·have hkl:k=xs.length:=by omega
   subst hkl
   have hh0:hh= []:=List.length_eq_zero_iff.1 (by omega)
   have hend:=Pol.Ez i1 hh0
   simp only [gH.g0,Go.Own.lt,dH (show ¬ (xs.length:Int)<(xs.length:Int) by omega),cond_false]
   refine ⟨trivial,trivial,L,n,fl,rfl,rfl,hL,by rw [hn]; exact Ew _ _,?_,hend⟩
   rw [hn]
   apply Ey
   intro m hm
   have e:=hend m
   rw [j6,j6,jh hm,hn,Jk] at e
   have e2:=Ns e
   rw [Nat.zero_mod] at e2
   rcases Nat.lt_or_ge m L.length with h5|h5
   ·rw [Nat.mod_eq_of_lt (hL _ (gY h5))] at e2; exact e2.symm
   ·exact jh h5
 obtain ⟨k1,k2,L,n,fl,k3,k4,k5,k6,k7,k8⟩:=key
 refine ⟨L,n,fl,?_,k5,k6,k7,k8⟩
 have c1:((xs.length:Int) != (xs.length:Int))=false:=by simp
 simp only [gH.r,gH.g,Go.Own.lt,hF,ak,hR.uD,cond_false,List.length_map,c1,dH (show ¬ (32:Int)<(xs.length:Int) by omega),← hw,k1,k2,k3,k4,show Nat.beq 1 0=false from rfl]
end Go.Own
set_option linter.unusedVariables false
set_option linter.unusedSimpArgs false
namespace Go.Own
open Go.IntWalk
abbrev I8:Type:=Int×((List Int)×Unit)
def qE (q:Nat) (f:List Nat) (p:Nat):I8:=((p:Int),(limbs (evN q f p),()))
def lU (q:Nat) (f:List Nat) (n:Nat):List I8:=(List.range n).map fun i=>qE q f (i+1)
theorem Qi {gx:Option dD} {q:Nat} (h:Fld gx q) {f:List Nat} (hf:∀ a∈f,a<au) (hl:f.length≤9223372036854775807) {n:Nat} (hn:n≤1073741824):gy.l0 (gx,f.map limbs,(),0,(),(n:Int),0,()) ((true,[]),())=
  (true,1,(gx,f.map limbs,(),0,(),(n:Int),(n:Int),()),((decide (n=0),lU q f n),()),(),()):=by
 have key:gy.l0 (gx,f.map limbs,(),0,(),(n:Int),((0:Nat):Int),()) ((decide (0=0),lU q f 0),())=
  (true,1,(gx,f.map limbs,(),0,(),(n:Int),(n:Int),()),((decide (n=0),lU q f n),()),(),()):=by
  refine bL (g:=fun rq kn ke kr x y=>gy.g0 rq kn ke kr x y) n (fun j=>(gx,f.map limbs,(),0,(),(n:Int),(j:Int),())) (fun j=>((decide (j=0),lU q f j),())) _ ?_ ?_ _ 0 (Nat.zero_le _) (by show n - 0<((n:Int) - ((0:Nat):Int)).toNat+1; omega)
  ·intro j R hj
   have c1:nle ((2*((lU q f j).length+1)+512)*40) 70368744177664=true:=pG (by unfold lU; rw [List.length_map,List.length_range]; omega)
   have s1:lU q f j++ [(((j+1:Nat):Int),(limbs (evN q f (j+1)),()))]=lU q f (j+1):=mF h (fun i=>qE q f (i+1)) j
   have d1:decide (j+1=0)=false:=decide_eq_false (by omega)
   have w1:IntKind.i64.wrap ((j:Int)+1)=((j+1:Nat):Int):=i64_in _ (by omega)
   have n1:bY.r ((j+1:Nat):Int)=(true,limbs (j+1)):=by rw [qx _ (by omega)]; rfl
   have e1:=Jb h hf hl (show j+1<au by unfold au; omega)
   simp only [gy.g0,Go.Own.lt,dK (show (j:Int)<(n:Int) by omega),cond_true,w1,n1,ak,e1,Bool.and_false,s1,c1,d1]
  ·intro R
   simp only [gy.g0,Go.Own.lt,dH (show ¬ (n:Int)<(n:Int) by omega),cond_false]
 exact key
theorem RH {gx:Option dD} {q:Nat} (h:Fld gx q) {f:List Nat} (hf:∀ a∈f,a<au) (hl:f.length≤9223372036854775807) {n:Nat} (h1:1≤n) (h7:n≤7):gy.r gx (f.map limbs) (n:Int)=(true,lU q f n,0):=by
 obtain ⟨rq,inv,hR,hF⟩:=h.field
 simp only [gy.r,gy.g,Go.Own.lt,hF,ak,hR.uD,cond_false,dH (show ¬ (n:Int)<1 by omega),dH (show ¬ (7:Int)<(n:Int) by omega),Qi h hf hl (show n≤1073741824 by omega)]
end Go.Own
set_option linter.unusedVariables false
set_option linter.unusedSimpArgs false
namespace Go.Own
open Go.IntWalk
theorem BM {q:Nat} [NeZero q] (x:Fin q):∀ (xs:List (Fin q)),(∀ a∈xs,∃ s:Fin q,s*(x - a)=1)→∃ s:Fin q,s*Pol.sU xs x=1
 | [],_=>⟨1,by show (1:Fin q)*1=1; grind⟩
 |a::xs,h=>by
  obtain ⟨s,hs⟩:=h a (by simp)
  obtain ⟨t,ht⟩:=BM x xs fun b hb=>h b (by simp [hb])
  refine ⟨s*t,?_⟩
  show s*t*((x - a)*Pol.sU xs x)=1
  grind
theorem FY {q d:Nat} [NeZero q] (hq:1<q) (hqW:q<au) (hd:d<au) (h:Nat.gcd d q=1):∃ s:Fin q,s*fz q d=1:=by
 rcases Gy d q hd hqW (by omega) with ⟨_,s,hs,_⟩|⟨hn,_⟩
 ·exact ⟨fz q s,FQ hs⟩
 ·exact absurd h hn
theorem sK {α β:Type} {f:α→β} {l:List α} {j:Nat} {d:α} {v:β} (h:j<l.length) (hv:v=f (l.getD j d)):(l.take j).map f++ [v]=(l.take (j+1)).map f:=by
 rw [hv]; exact jY h
end Go.Own
set_option linter.unusedVariables false
set_option linter.unusedSimpArgs false
namespace Go.Own
open Go.IntWalk
theorem J8:eX.r=(true,((),(limbs bM,())),(false,jM.map dW)):=by kernel_rfl
theorem J6:eU.r=(true,((),(limbs ic,())),(false,jL.map dW)):=by kernel_rfl
theorem Ob:jU.r (jM.map dW,(limbs bM,()))=(true,limbs jc):=by kernel_rfl
theorem Oa:jU.r (jL.map dW,(limbs ic,()))=(true,limbs kS):=by kernel_rfl
theorem Gv (a:List (List Int)) (hl:a.length≤1073741824):bD.r a a=(true,true):=by
 have key:bD.l0 (a,a,false,((0:Nat):Int),()) ()=(true,1,(a,a,false,(a.length:Int),()),(),(false,()),()):=by
  refine bL (g:=fun rq kn ke kr x y=>bD.g0 rq kn ke kr x y) a.length (fun j=>(a,a,false,(j:Int),())) (fun j=>()) _ ?_ ?_ _ 0 (Nat.zero_le _) (by show a.length - 0<((a.length:Int) - ((0:Nat):Int)).toNat+1; omega)
  ·intro j R hj
   have w1:IntKind.i64.wrap ((j:Int)+1)=((j+1:Nat):Int):=i64_in _ (by omega)
   simp only [bD.g0,lt,dK (show (j:Int)<(a.length:Int) by omega),dM (show (0:Int)≤(j:Int) by omega),cond_true,Bool.and_self,ak,Na,Bool.not_true,cond_false,w1]
  ·intro R
   simp only [bD.g0,lt,dH (show ¬ (a.length:Int)<(a.length:Int) by omega),cond_false]
 have k2:bD.l0 (a,a,false,0,()) ()=_:=key
 have c1:((a.length:Int) != (a.length:Int))=false:=by simp
 simp only [bD.r,bD.g,lt,c1,cond_false,k2,ak,show Nat.beq 1 0=false from rfl]
end Go.Own
set_option linter.unusedVariables false
set_option linter.unusedSimpArgs false
namespace Go.Own
open Go.IntWalk
end Go.Own
set_option linter.unusedVariables false
set_option linter.unusedSimpArgs false
namespace Go.Own
open Go.IntWalk
end Go.Own
set_option linter.unusedVariables false
set_option linter.unusedSimpArgs false
namespace Go.Own
open Go.IntWalk
end Go.Own
set_option linter.unusedVariables false
set_option linter.unusedSimpArgs false
namespace Go.Own
open Go.IntWalk
theorem J2 (a b m:Nat) (h0:0<m) (hm:m<9223372036854775808):eY.r (a:Int) (b:Int) (m:Int)=(true,((a*b%m:Nat):Int)):=by
 have ha:=Nat.mod_lt a h0
 have hb:=Nat.mod_lt b h0
 have hp:a%m*(b%m)<m*18446744073709551616:=Nat.lt_of_lt_of_le (Nat.mul_lt_mul_of_lt_of_lt ha hb) (Nat.mul_le_mul_left m (by omega))
 have hh:a%m*(b%m)/18446744073709551616<m:=by rw [Nat.div_lt_iff_lt_mul (by decide)]; exact hp
 have e:a%m*(b%m)/18446744073709551616*18446744073709551616+a%m*(b%m)%18446744073709551616=a%m*(b%m):=by rw [Nat.mul_comm]; exact Nat.div_add_mod _ _
 have d:=Kb (a%m*(b%m)/18446744073709551616) (a%m*(b%m)%18446744073709551616) m hh (Nat.mod_lt _ (by decide)) (by omega)
 rw [e,← Nat.mul_mod] at d
 have hr:=Nat.mod_lt (a*b) h0
 have z:ieq (m:Int) 0=false:=FT (by omega)
 simp only [eY.r,eY.g,lt,yZ,z,Bool.not_false,ak,sJ (a%m) (by omega),sJ (b%m) (by omega),uM (a%m) (b%m) (by omega) (by omega),sJ m (by omega),d,rW (a*b%m) (by omega)]
end Go.Own
set_option linter.unusedVariables false
set_option linter.unusedSimpArgs false
namespace Go.Own
open Go.IntWalk
end Go.Own
set_option linter.unusedVariables false
set_option linter.unusedSimpArgs false
namespace Go.Own
open Go.IntWalk
theorem Gw (xs:List Int) (least:Int) (hl:xs.length≤1073741824):j4.r xs least=(true,xs.any fun x=>decide (x<least)||decide (7<x)):=by
 have o1:∀ x:Int,gT.r x least=(true,(decide (x<least)||decide (7<x)),least):=by
  intro x
  by_cases h:x<least
  ·simp only [gT.r,gT.g,lt,dK h,cond_true,decide_eq_true h,Bool.true_or]
  ·simp only [gT.r,gT.g,lt,dH h,cond_false,decide_eq_false h,Bool.false_or]; rfl
 obtain ⟨w,hw⟩:∃ w,w=bJ.l0 (xs,(),0,(xs.length:Int),0,()) (least,()):=⟨_,rfl⟩
 have key:w.1=true∧((w.2.1=0∧0≤w.2.2.2.2.1.1∧(xs.any fun x=>decide (x<least)||decide (7<x))=true)∨(w.2.1=1∧(xs.any fun x=>decide (x<least)||decide (7<x))=false)):=by
  refine jy (g:=fun rq kn ke kr x y=>bJ.g0 rq kn ke kr x y) hw
   (fun x y=>∃ j:Nat,j≤xs.length∧x=(xs,(),0,(xs.length:Int),(j:Int),())∧y=(least,())∧∀ i,i<j→(decide (xs.getD i 0<least)||decide (7<xs.getD i 0))=false)
   (fun x y=>xs.length - x.2.2.2.2.1.toNat)
   ⟨0,Nat.zero_le _,rfl,rfl,fun i h=>absurd h (Nat.not_lt_zero _)⟩ (by show xs.length - ((0:Int)).toNat<((xs.length:Int) - (0:Int)).toNat+1; omega)
   (Q:=fun w=>w.1=true∧((w.2.1=0∧0≤w.2.2.2.2.1.1∧(xs.any fun x=>decide (x<least)||decide (7<x))=true)∨(w.2.1=1∧(xs.any fun x=>decide (x<least)||decide (7<x))=false))) ?_
  rintro x y R ⟨j,hj,rfl,rfl,ha⟩ hR
  by_cases hlt:j<xs.length
  ·have w1:IntKind.i64.wrap ((j:Int)+1)=((j+1:Nat):Int):=i64_in _ (by omega)
   simp only [bJ.g0,lt,dK (show (j:Int)<(xs.length:Int) by omega),cond_true,dM (show (0:Int)≤(j:Int) by omega),Bool.and_self,ak,Int.toNat_natCast,o1,w1]
   cases hc:(decide (xs.getD j 0<least)||decide (7<xs.getD j 0)) with
   |true=>
    simp only [cond_true]
    refine ⟨trivial,.inl ⟨trivial,Int.natCast_nonneg j,?_⟩⟩
    rw [List.any_eq_true]
    exact ⟨_,by rw [getD_lt hlt]; exact List.getElem_mem _,hc⟩
   |false=>
    simp only [cond_false]
    refine hR _ _ ⟨j+1,hlt,rfl,rfl,fun i hi=> ?_⟩ ?_
    ·rcases Nat.lt_or_ge i j with h|h
     ·exact ha i h
     ·rw [show i=j by omega]; exact hc
    ·show xs.length - (((j+1:Nat):Int)).toNat<xs.length - ((j:Int)).toNat
     omega
  ·simp only [bJ.g0,lt,dH (show ¬ (j:Int)<(xs.length:Int) by omega),cond_false]
   refine ⟨trivial,.inr ⟨trivial,?_⟩⟩
   rw [List.any_eq_false]
   intro x hx
   obtain ⟨i,hi,rfl⟩:=List.getElem_of_mem hx
   have:=ha i (by omega)
   rw [getD_lt hi] at this
   rw [this]; decide
 obtain ⟨k1,k2⟩:=key
 simp only [j4.r,j4.g,fC.r,fC.g,bJ.r,bJ.g,lt,← hw,k1,ak]
 rcases k2 with ⟨k2,k3,k4⟩|⟨k2,k4⟩
 ·simp only [k2,k4,show Nat.beq 0 0=true from rfl,cond_true,dM k3,ak]
 ·simp only [k2,k4,show Nat.beq 1 0=false from rfl,cond_false,tF (show ¬ (0:Int)≤ -1 by decide),ak]
theorem Jc {n k:Nat} (hkn:k<n) (hn:n≤1073741824) {L:List Int} (hL:L.length=n) (fl:Bool) {w:_} (hw:w=aB.l1 ((),(),(k:Int),(k,n - k),1,()) ((fl,L),())):
  w.1=true∧∃ (k':Nat),w.2.2.1.2.2.1=(k':Int)∧k'<n∧w.2.2.2.1.1.2.length=n:=by
 refine jy (g:=fun rq kn ke kr x y=>aB.g1 rq kn ke kr x y) hw
  (fun x y=>∃ (k' i:Nat) (M:List Int),x=((),(),(k':Int),(k,n - k),(i:Int),())∧y=((fl,M),())∧M.length=n∧k'<k+i∧1≤i∧i≤n - k)
  (fun x y=>n - k - x.2.2.2.2.1.toNat)
  ⟨k,1,L,rfl,rfl,hL,by omega,Nat.le_refl _,by omega⟩ (by show n - k - ((1:Int)).toNat<(((n - k:Nat):Int) - 1).toNat+1; omega)
  (Q:=fun w=>w.1=true∧∃ (k':Nat),w.2.2.1.2.2.1=(k':Int)∧k'<n∧w.2.2.2.1.1.2.length=n) ?_
 rintro x y R ⟨k',i,M,rfl,rfl,hM,hk',hi1,hi⟩ hR
 by_cases hlt:i<n - k
 ·have w1:IntKind.i64.wrap ((i:Int)+1)=((i+1:Nat):Int):=i64_in _ (by omega)
  have w2:IntKind.i64.wrap ((i:Int) - 1)=((i - 1:Nat):Int):=by rw [i64_in _ (by omega)]; omega
  have w3:IntKind.i64.wrap ((k':Int)+1)=((k'+1:Nat):Int):=i64_in _ (by omega)
  have r1:(ile 0 (k':Int)&&ilt (k':Int) (M.length:Int))=true:=He (by omega)
  simp only [aB.g1,lt,dK (show (i:Int)<((n - k:Nat):Int) by omega),cond_true,rng hlt,ak,Int.toNat_natCast,w2,rng (show i - 1<n - k by omega),r1,w1,w3]
  generalize (M.getD (k+i) 0 != M.getD (k+(i - 1)) 0)=c
  cases c with
  |true=>
   simp only [cond_true]
   refine hR _ _ ⟨k'+1,i+1,M.set k' (M.getD (k+i) 0),rfl,rfl,by rw [List.length_set]; exact hM,by omega,by omega,hlt⟩ ?_
   show n - k - (((i+1:Nat):Int)).toNat<n - k - ((i:Int)).toNat
   omega
  |false=>
   simp only [cond_false]
   refine hR _ _ ⟨k',i+1,M,rfl,rfl,hM,by omega,by omega,hlt⟩ ?_
   show n - k - (((i+1:Nat):Int)).toNat<n - k - ((i:Int)).toNat
   omega
 ·simp only [aB.g1,lt,dH (show ¬ (i:Int)<((n - k:Nat):Int) by omega),cond_false]
  exact ⟨trivial,k',rfl,by omega,hM⟩
def AX (L:List Int):Prop:=∀ i,i+1<L.length→L.getD (i+1) 0≠L.getD i 0
theorem GH {L:List Int} (hn:L.length≤1073741824) (fl:Bool):
  ∃ M,aB.r (fl,L)=(true,M)∧(AX L→M.length=L.length)∧(¬ AX L→M.length<L.length):=by
 by_cases h2:(L.length:Int)<2
 ·refine ⟨L,?_,fun _=>rfl,fun h=>absurd (fun i hi=>absurd hi (by omega)) h⟩
  simp only [aB.r,aB.g,lt,dK h2,cond_true]
 ·obtain ⟨w,hw⟩:∃ w,w=aB.l0 ((),(),1,()) ((fl,L),()):=⟨_,rfl⟩
  have key:w.1=true∧((w.2.1=0∧¬ AX L∧((w.2.2.2.2.2.1.2.drop w.2.2.2.2.1.1.1).take w.2.2.2.2.1.1.2).length<L.length)∨(w.2.1=1∧AX L∧w.2.2.2.1.1.2=L)):=by
   refine jy (g:=fun rq kn ke kr x y=>aB.g0 rq kn ke kr x y) hw
    (fun x y=>∃ j:Nat,j+1≤L.length∧x=((),(),((j+1:Nat):Int),())∧y=((fl,L),())∧∀ i,i<j→L.getD (i+1) 0≠L.getD i 0)
    (fun x y=>L.length - x.2.2.1.toNat)
    ⟨0,by omega,rfl,rfl,fun i h=>absurd h (Nat.not_lt_zero _)⟩ (by show L.length - ((1:Int)).toNat<((L.length:Int) - (1:Int)).toNat+1; omega)
    (Q:=fun w=>w.1=true∧((w.2.1=0∧¬ AX L∧((w.2.2.2.2.2.1.2.drop w.2.2.2.2.1.1.1).take w.2.2.2.2.1.1.2).length<L.length)∨(w.2.1=1∧AX L∧w.2.2.2.1.1.2=L))) ?_
   rintro x y R ⟨j,hj,rfl,rfl,ha⟩ hR
   by_cases hlt:j+1<L.length
   ·have w0:IntKind.i64.wrap (((j+1:Nat):Int) - 1)=(j:Int):=by rw [i64_in _ (by omega)]; omega
    have w1:IntKind.i64.wrap (((j+1:Nat):Int)+1)=((j+1+1:Nat):Int):=i64_in _ (by omega)
    by_cases he:L.getD (j+1) 0=L.getD j 0
    ·have hb:(L.getD (j+1) 0== L.getD j 0)=true:=beq_iff_eq.2 he
     obtain ⟨v,hv⟩:∃ v,v=aB.l1 ((),(),((j+1:Nat):Int),(j+1,L.length - (j+1)),1,()) ((fl,L),()):=⟨_,rfl⟩
     obtain ⟨v1,k',v2,v3,v4⟩:=Jc hlt hn rfl fl hv
     obtain ⟨a,b,c,d,e⟩:=v
     obtain ⟨a1,a2,a3,a4,a5,a6⟩:=c
     obtain ⟨⟨b1,M⟩,b2⟩:=d
     simp only at v1 v2 v4
     subst v1; subst v2
     have hol:(over M k' (List.replicate (L.length - k') 0)).length=L.length:=by
      unfold over
      simp only [List.length_append,List.length_take,List.length_replicate,List.length_drop,v4]; omega
     simp only [aB.g0,lt,dK (show ((j+1:Nat):Int)<(L.length:Int) by omega),cond_true,He hlt,He (show j<L.length by omega),ak,Int.toNat_natCast,w0,hb,dM (show (0:Int)≤((j+1:Nat):Int) by omega),dM (show ((j+1:Nat):Int)≤(L.length:Int) by omega),dM (Int.le_refl (L.length:Int)),Bool.and_self,← hv,v4,dM (show (0:Int)≤(k':Int) by omega),dM (show (k':Int)≤(L.length:Int) by omega),hol]
     refine ⟨trivial,.inl ⟨trivial,fun h=>h j hlt he,?_⟩⟩
     simp only [List.drop_zero,List.length_take,hol]
     omega
    ·have hb:(L.getD (j+1) 0== L.getD j 0)=false:=beq_eq_false_iff_ne.2 he
     simp only [aB.g0,lt,dK (show ((j+1:Nat):Int)<(L.length:Int) by omega),cond_true,He hlt,He (show j<L.length by omega),ak,Int.toNat_natCast,w0,hb,cond_false,w1]
     refine hR _ _ ⟨j+1,hlt,rfl,rfl,fun i hi=> ?_⟩ ?_
     ·rcases Nat.lt_or_ge i j with h|h
      ·exact ha i h
      ·rw [show i=j by omega]; exact he
     ·show L.length - (((j+1+1:Nat):Int)).toNat<L.length - (((j+1:Nat):Int)).toNat
      omega
   ·simp only [aB.g0,lt,dH (show ¬ ((j+1:Nat):Int)<(L.length:Int) by omega),cond_false]
    exact ⟨trivial,.inr ⟨trivial,fun i hi=>ha i (by omega),trivial⟩⟩
  obtain ⟨k1,k2⟩:=key
  rcases k2 with ⟨k2,k3,k4⟩|⟨k2,k3,k4⟩
  ·refine ⟨_,?_,fun h=>absurd h k3,fun _=>k4⟩
   simp only [aB.r,aB.g,lt,dH h2,cond_false,← hw,k1,ak,k2,show Nat.beq 0 0=true from rfl,cond_true]
  ·refine ⟨L,?_,fun _=>rfl,fun h=>absurd k3 h⟩
   simp only [aB.r,aB.g,lt,dH h2,cond_false,← hw,k1,ak,k2,show Nat.beq 1 0=false from rfl,k4]
theorem KG {L:List Int} (hs:L.Pairwise (· ≤ ·)):AX L↔L.Nodup:=by
 constructor
 ·intro h
  have hlt:L.Pairwise (· < ·):=by
   rw [List.pairwise_iff_getElem]
   have step:∀ d i (hi:i+1+d<L.length),L[i]<L[i+1+d]:=by
    intro d
    induction d with
    |zero=>
     intro i hi
     have h1:=h i hi
     have h2:=List.pairwise_iff_getElem.1 hs i (i+1) (by omega) hi (by omega)
     rw [getD_lt hi,getD_lt (show i<L.length by omega)] at h1
     have:L[i+1]≠L[i]:=h1
     show L[i]<L[i+1]
     omega
    |succ d ih=>
     intro i hi
     have h1:=ih i (by omega)
     have h2:=List.pairwise_iff_getElem.1 hs (i+1+d) (i+1+(d+1)) (by omega) hi (by omega)
     omega
   intro i j hi hj hij
   have:=step (j - i - 1) i (by omega)
   have e:i+1+(j - i - 1)=j:=by omega
   simp only [e] at this
   exact this
  exact hlt.imp fun h e=>by omega
 ·intro h i hi he
  rw [getD_lt hi,getD_lt (show i<L.length by omega)] at he
  have:=List.pairwise_iff_getElem.1 h i (i+1) (by omega) hi (by omega)
  exact this he.symm
theorem Lh (xs:List Int) (hl:xs.length≤1073741824):∃ b,lX.r xs=(true,b)∧(b=true↔¬ xs.Nodup):=by
 cases xs with
 |nil=>exact ⟨false,by decide,by simp⟩
 |cons p pts=>
  have c1:nle ((2*(0+(p::pts).length)+512)*8) 70368744177664=true:=pG (by omega)
  have c2:nlt (p::pts).length 4611686018427387904=true:=R6 (by omega)
  have e1:(p::pts).isEmpty=false:=rfl
  have hp:(BF (p::pts)).Perm (p::pts):=List.mergeSort_perm _ _
  have hlen:(BF (p::pts)).length=(p::pts).length:=hp.length_eq
  have hs:(BF (p::pts)).Pairwise (· ≤ ·):=by
   have:=List.pairwise_mergeSort (le:=fun (a b:Int)=>decide (a≤b)) (by intro a b c; simp; omega) (by intro a b; simp; omega) (p::pts)
   exact this.imp fun h=>by simpa using h
  obtain ⟨M,h1,h2,h3⟩:=GH (L:=BF (p::pts)) (by omega) false
  refine ⟨ilt (M.length:Int) ((p::pts).length:Int),?_,?_⟩
  ·simp only [lX.r,lX.g,iI.r,iI.g,lt,e1,Bool.not_false,cond_false,c1,c2,ak,h1]
  ·rw [Pp,← hp.nodup_iff,← KG hs]
   constructor
   ·intro h h4; have:=h2 h4; omega
   ·intro h; have:=h3 h; omega
end Go.Own
set_option linter.unusedVariables false
set_option linter.unusedSimpArgs false
namespace Go.Own
open Go.IntWalk
theorem G9 {X Y U V:Type} {g:(Bool→Bool×Nat×X×Y×U×V→Bool×Nat×X×Y×U×V)→(X→Y→Bool×Nat×X×Y×U×V)→(Nat→X→Y→Bool×Nat×X×Y×U×V)→(U→V→Bool×Nat×X×Y×U×V)→X→Y→Bool×Nat×X×Y×U×V} {u0:U} {v0:V} {x0 x1 x2:X} {y0 y1 y2:Y} {w:Bool×Nat×X×Y×U×V}
  (h0:∀ (R:X→Y→Bool×Nat×X×Y×U×V),g chk R (fun e x y=>(true,e+1,x,y,u0,v0)) (fun u v=>(true,0,x0,y0,u,v)) x0 y0=R x1 y1)
  (h1:∀ (R:X→Y→Bool×Nat×X×Y×U×V),g chk R (fun e x y=>(true,e+1,x,y,u0,v0)) (fun u v=>(true,0,x1,y1,u,v)) x1 y1=R x2 y2)
  (h2:∀ (R:X→Y→Bool×Nat×X×Y×U×V),g chk R (fun e x y=>(true,e+1,x,y,u0,v0)) (fun u v=>(true,0,x2,y2,u,v)) x2 y2=w) (q:Nat) (hq:3≤q):rounds g u0 v0 q x0 y0=w:=by
 obtain ⟨n,rfl⟩:∃ n,q=n+1+1+1:=⟨q - 3,by omega⟩
 simp only [rounds]
 rw [h0,h1,h2]
section
variable {F:Type} [Lean.Grind.CommRing F]
theorem uf:∀ (a b:List F),(Pol.kK a b).length=max a.length b.length
 | [],b=>by simp [Pol.kK]
 |a::l,[]=>by simp [Pol.kK]
 |a::l,b::m=>by simp only [Pol.kK,List.length_cons,uf l m]; omega
theorem Ry (a:F) (l:List F):(Pol.Ml a l).length=l.length+1:=by
 unfold Pol.Ml
 rw [uf]
 unfold Pol.pY
 simp only [List.length_cons,List.length_map]; omega
theorem N7:∀ (xs:List F) (h:List F),(Pol.TL xs h).length=h.length+xs.length
 | [],h=>rfl
 |a::xs,h=>by
  show (Pol.Ml a (Pol.TL xs h)).length=_
  rw [Ry,N7 xs h]; simp only [List.length_cons]; omega
theorem zx:∀ (xs:List F) {a:F},a∈xs→Pol.sU xs a=0
 | [],a,h=>by cases h
 |b::xs,a,h=>by
  show (a - b)*Pol.sU xs a=0
  rcases List.mem_cons.1 h with rfl|h
  ·grind
  ·rw [zx xs h]; grind
end
theorem Rc {q:Nat} [NeZero q] (a:Fin q):fz q a.val=a:=by unfold fz; simp [Fin.ext_iff,Nat.mod_eq_of_lt a.isLt]
theorem Q8 {q:Nat} [NeZero q] {xs:List Nat} (ha:vK q xs) (ys:Nat→Fin q):∃ f:List Nat,f.length≤xs.length∧(∀ a∈f,a<q)∧∀ k,k<xs.length→fz q (evN q f (xs.getD k 0))=ys k:=by
 have key:∀ m,m≤xs.length→∃ g:List (Fin q),g.length≤m∧∀ k,k<m→Pol.ev g (fz q (xs.getD k 0))=ys k:=by
  intro m
  induction m with
  |zero=>intro _; exact ⟨[],Nat.le_refl _,fun k h=>absurd h (Nat.not_lt_zero _)⟩
  |succ m ih=>
   intro hm
   obtain ⟨g,hg,hk⟩:=ih (by omega)
   obtain ⟨s,hs⟩:=ha m hm
   obtain ⟨c,hc⟩:∃ c,c=(ys m - Pol.ev g (fz q (xs.getD m 0)))*s:=⟨_,rfl⟩
   have e1:∀ x:Fin q,Pol.ev [c] x=c:=fun x=>by show 0*x+c=c; grind
   refine ⟨Pol.kK g (Pol.TL (toF q (xs.take m)) [c]),?_,fun k hkm=> ?_⟩
   ·rw [uf,N7]
    unfold toF
    simp only [List.length_cons,List.length_nil,List.length_map,List.length_take]; omega
   ·rw [Pol.xH,Pol.K5,e1]
    rcases Nat.lt_or_ge k m with h|h
    ·rw [hk k h,zx]
     ·grind
     ·unfold toF
      refine List.mem_map.2 ⟨xs.getD k 0,?_,rfl⟩
      rw [getD_lt (show k<xs.length by omega)]
      exact List.mem_take_iff_getElem.2 ⟨k,by omega,rfl⟩
    ·have:k=m:=by omega
     subst this
     rw [hc]; grind
 obtain ⟨g,hg,hk⟩:=key xs.length (Nat.le_refl _)
 have eg:toF q (g.map Fin.val)=g:=by
  unfold toF
  rw [List.map_map]
  exact (List.map_congr_left fun a _=>Rc a).trans (List.map_id g)
 refine ⟨g.map Fin.val,by rw [List.length_map]; exact hg,fun a h=> ?_,fun k h=> ?_⟩
 ·obtain ⟨b,_,rfl⟩:=List.mem_map.1 h; exact b.isLt
 ·rw [vH,eg]; exact hk k h
def sw (q:Nat):Prop:=∀ d,1≤d→d≤7→Nat.gcd d q=1
theorem w9 {q:Nat} (h:(List.range 7).all (fun d=>Nat.beq (Nat.gcd (d+1) q) 1)=true):sw q:=by
 intro d h1 h2
 have:=List.all_eq_true.1 h (d - 1) (List.mem_range.2 (by omega))
 rw [Nat.sub_add_cancel h1] at this
 exact Nat.eq_of_beq_eq_true this
theorem uS:sw jc:=w9 (by kernel_rfl)
theorem Be:sw kS:=w9 (by kernel_rfl)
theorem Bf:sw pE:=w9 (by kernel_rfl)
theorem CK {q:Nat} [NeZero q] (hq:1<q) (hqW:q<au) (hs:sw q) {pts:List Nat} (hp:∀ p∈pts,p≤7) (ha:pts.Nodup):vK q pts:=by
 intro k hk
 apply BM
 intro a hm
 obtain ⟨p,hpm,rfl⟩:=List.mem_map.1 hm
 obtain ⟨i,hi,rfl⟩:=List.mem_take_iff_getElem.1 hpm
 have hik:i<k:=by omega
 have hne:=List.pairwise_iff_getElem.1 ha i k (by omega) hk hik
 have h1:=hp _ (gY hk)
 have h2:=hp pts[i] (List.getElem_mem _)
 rw [getD_lt hk] at h1 ⊢
 rcases Nat.lt_or_gt_of_ne hne with hlt|hlt
 ·obtain ⟨s,hs2⟩:=FY hq hqW (show pts[k] - pts[i]<au by unfold au; omega) (hs (pts[k] - pts[i]) (by omega) (by omega))
  refine ⟨s,?_⟩
  have e:fz q pts[k]=fz q (pts[k] - pts[i])+fz q pts[i]:=by rw [← rX,Nat.sub_add_cancel (Nat.le_of_lt hlt)]
  rw [e]
  grind
 ·obtain ⟨s,hs2⟩:=FY hq hqW (show pts[i] - pts[k]<au by unfold au; omega) (hs (pts[i] - pts[k]) (by omega) (by omega))
  refine ⟨-s,?_⟩
  have e:fz q pts[i]=fz q (pts[i] - pts[k])+fz q pts[k]:=by rw [← rX,Nat.sub_add_cancel (Nat.le_of_lt hlt)]
  rw [e]
  grind
abbrev wS:Type:=List (Nat×List (List Int))
def Rows (n:Nat) (R:List Nat) (P:wS) (c:Nat→List (List Int)):Prop:=R.length=n∧∀ j,j<n→R.getD j 0<P.length∧(P.getD (R.getD j 0) (0,[])).1≠2∧(P.getD (R.getD j 0) (0,[])).2=c j∧∀ j',j'<n→R.getD j' 0=R.getD j 0→j'=j∨(P.getD (R.getD j 0) (0,[])).1=3
theorem FJ {α:Type} {l:List α} {i k:Nat} {a d:α} (h:i<l.length):(l.set i a).getD k d=if i=k then a else l.getD k d:=by
 rw [List.getD_eq_getElem?_getD,List.getElem?_set]
 by_cases e:i=k
 ·subst e; rw [if_pos rfl,if_pos h,if_pos rfl]; rfl
 ·rw [if_neg e,if_neg e,List.getD_eq_getElem?_getD]
theorem FX {α:Type} {l:List α} {k:Nat} {a d:α}:(l++ [a]).getD k d=if k<l.length then l.getD k d else if k=l.length then a else d:=by
 rw [List.getD_eq_getElem?_getD,List.getD_eq_getElem?_getD]
 split
 ·rename_i h; rw [List.getElem?_append_left h]
 ·rename_i h
  rw [List.getElem?_append_right (by omega)]
  split
  ·rename_i h2; subst h2; simp
  ·rename_i h2; rw [List.getElem?_eq_none (by simp; omega)]; rfl
theorem Rows.put {n:Nat} {R:List Nat} {P:wS} {c:Nat→List (List Int)} (h:Rows n R P c) {j:Nat} (hj:j<n) (v:List Int):
  Rows n (R.set j P.length) ((P.set (R.getD j 0) ((bif Nat.beq (P.getD (R.getD j 0) (0,[])).1 3 then 3 else 2),(P.getD (R.getD j 0) (0,[])).2))++ [(1,((P.getD (R.getD j 0) (0,[])).2++ [v]))]) (fun k=>if k=j then c j++ [v] else c k):=by
 obtain ⟨h1,h2⟩:=h
 obtain ⟨a1,a2,a3,a4⟩:=h2 j hj
 have hjR:j<R.length:=by omega
 refine ⟨by rw [List.length_set]; exact h1,fun k hk=> ?_⟩
 have gR:∀ i,(R.set j P.length).getD i 0=if j=i then P.length else R.getD i 0:=fun i=>FJ hjR
 obtain ⟨b1,b2,b3,b4⟩:=h2 k hk
 have gP:∀ i,i<P.length→(((P.set (R.getD j 0) ((bif Nat.beq (P.getD (R.getD j 0) (0,[])).1 3 then 3 else 2),(P.getD (R.getD j 0) (0,[])).2))++ [(1,((P.getD (R.getD j 0) (0,[])).2++ [v]))]).getD i (0,[]))=if R.getD j 0=i then ((bif Nat.beq (P.getD (R.getD j 0) (0,[])).1 3 then 3 else 2),(P.getD (R.getD j 0) (0,[])).2) else P.getD i (0,[]):=fun i hi=>by
  rw [FX,if_pos (by rw [List.length_set]; exact hi),FJ a1]
 have gE:(((P.set (R.getD j 0) ((bif Nat.beq (P.getD (R.getD j 0) (0,[])).1 3 then 3 else 2),(P.getD (R.getD j 0) (0,[])).2))++ [(1,((P.getD (R.getD j 0) (0,[])).2++ [v]))]).getD P.length (0,[]))=(1,((P.getD (R.getD j 0) (0,[])).2++ [v])):=by
  rw [FX,if_neg (by rw [List.length_set]; omega),if_pos (by rw [List.length_set])]
 have len:(P.set (R.getD j 0) ((bif Nat.beq (P.getD (R.getD j 0) (0,[])).1 3 then 3 else 2),(P.getD (R.getD j 0) (0,[])).2)++ [(1,((P.getD (R.getD j 0) (0,[])).2++ [v]))]).length=P.length+1:=by simp
 rw [gR k]
 by_cases e:j=k
 ·subst e
  rw [if_pos rfl,gE,len]
  refine ⟨by omega,by show (1:Nat)≠2; decide,by show _=if j=j then _ else _; rw [if_pos rfl,a3],fun j' hj' he=> ?_⟩
  rw [gR j'] at he
  by_cases e2:j=j'
  ·exact .inl e2.symm
  ·rw [if_neg e2] at he
   have:=(h2 j' hj').1
   omega
 ·rw [if_neg e,gP _ b1,len]
  by_cases e3:R.getD j 0=R.getD k 0
  ·have h3:(P.getD (R.getD j 0) (0,[])).1=3:=(a4 k hk e3.symm).resolve_left fun h=>e h.symm
   rw [if_pos e3,h3]
   refine ⟨by omega,by show (3:Nat)≠2; decide,by show _=if k=j then _ else _; rw [if_neg fun h=>e h.symm,← b3,e3],fun _ _ _=> .inr rfl⟩
  ·rw [if_neg e3]
   refine ⟨by omega,b2,by show _=if k=j then _ else _; rw [if_neg fun h=>e h.symm]; exact b3,fun j' hj' he=> ?_⟩
   rw [gR j'] at he
   by_cases e2:j=j'
   ·rw [if_pos e2] at he; omega
   ·rw [if_neg e2] at he; exact b4 j' hj' he
theorem Rows.flag {n:Nat} {R:List Nat} {P:wS} {c:Nat→List (List Int)} (h:Rows n R P c) {j:Nat} (hj:j<n):(!Nat.beq (P.getD (R.getD j 0) (0,[])).1 2)=true:=by
 have:=(h.2 j hj).2.1
 cases e:Nat.beq (P.getD (R.getD j 0) (0,[])).1 2 with
 |false=>rfl
 |true=>exact absurd (Nat.eq_of_beq_eq_true e) this
theorem Rows.all {n:Nat} {R:List Nat} {P:wS} {c:Nat→List (List Int)} (h:Rows n R P c):(R.map fun r=>(P.getD r (0,[])).2)=(List.range n).map c:=by
 apply List.ext_getElem?
 intro k
 rw [List.getElem?_map,List.getElem?_map]
 rcases Nat.lt_or_ge k n with hk|hk
 ·have h1:=(h.2 k hk).2.2.1
  rw [getD_lt (show k<R.length by rw [h.1]; exact hk)] at h1
  rw [List.getElem?_eq_getElem (show k<R.length by rw [h.1]; exact hk),List.getElem?_range hk]
  simp only [Option.map_some,h1]
 ·rw [List.getElem?_eq_none (show R.length≤k by rw [h.1]; exact hk),List.getElem?_eq_none (by simpa using hk)]; rfl
theorem Rows.start (n:Nat):Rows n (List.replicate n 0) [(3,[])] (fun _=> []):=by
 refine ⟨List.length_replicate,fun j hj=> ?_⟩
 have e:∀ k,(List.replicate n 0).getD k 0=0:=fun k=>by
  rw [List.getD_eq_getElem?_getD,List.getElem?_replicate]; split<;>rfl
 rw [e j]
 exact ⟨by decide,by decide,rfl,fun _ _ _=> .inr rfl⟩
end Go.Own
set_option linter.unusedVariables false
set_option linter.unusedSimpArgs false
namespace Go.Own
open Go.IntWalk
abbrev ints (l:List Nat):List Int:=l.map fun (p:Nat)=>(p:Int)
theorem Ti (gx:Option dD) (pts:List Nat) (hp:∀ p∈pts,p≤7) (hn:pts.length≤1073741824) (P:wS):
  aZ.l0 (gx,ints pts,(),0,(),ints pts,(pts.length:Int),0,()) ((true,[]),P,())=
  (true,1,(gx,ints pts,(),0,(),ints pts,(pts.length:Int),(pts.length:Int),()),((decide (pts.length=0),pts.map limbs),P,()),(),()):=by
 have key:aZ.l0 (gx,ints pts,(),0,(),ints pts,(pts.length:Int),((0:Nat):Int),()) ((decide (0=0),(pts.take 0).map limbs),P,())=
  (true,1,(gx,ints pts,(),0,(),ints pts,(pts.length:Int),(pts.length:Int),()),((decide (pts.length=0),(pts.take pts.length).map limbs),P,()),(),()):=by
  refine bL (g:=fun rq kn ke kr x y=>aZ.g0 rq kn ke kr x y) pts.length (fun j=>(gx,ints pts,(),0,(),ints pts,(pts.length:Int),(j:Int),())) (fun j=>((decide (j=0),(pts.take j).map limbs),P,())) _ ?_ ?_ _ 0 (Nat.zero_le _) (by show pts.length - 0<((pts.length:Int) - ((0:Nat):Int)).toNat+1; omega)
  ·intro j R hj
   have g1:(ints pts).getD j 0=((pts.getD j 0:Nat):Int):=getD_map hj
   have hb:=hp _ (gY hj)
   have n1:bY.r ((pts.getD j 0:Nat):Int)=(true,limbs (pts.getD j 0)):=by rw [qx _ (by omega)]; rfl
   have c2:nle ((2*((pts.take j).length+1)+512)*32) 70368744177664=true:=pG (by rw [List.length_take]; omega)
   have s2:((pts.take j).map limbs)++ [limbs (pts.getD j 0)]=(pts.take (j+1)).map limbs:=sK (f:=limbs) hj rfl
   have d1:decide (j+1=0)=false:=decide_eq_false (by omega)
   have w1:IntKind.i64.wrap ((j:Int)+1)=((j+1:Nat):Int):=i64_in _ (by omega)
   simp only [aZ.g0,Go.Own.lt,dK (show (j:Int)<(pts.length:Int) by omega),dM (show (0:Int)≤(j:Int) by omega),cond_true,Bool.and_self,Int.toNat_natCast,List.length_map,ak,g1,Bool.and_false,n1,s2,c2,w1,d1]
  ·intro R
   simp only [aZ.g0,Go.Own.lt,dH (show ¬ (pts.length:Int)<(pts.length:Int) by omega),cond_false]
 rw [List.take_length] at key
 exact key
theorem Tf {n:Nat} {gx:Option dD} {XS:List Int} {z:Int×Int} (hn:n≤1000) (Y:Bool×List (List Int)) (fl:Bool) (f:List (List Int)) (hf:f.length=n) {R:List Nat} {P:wS} {c:Nat→List (List Int)} (h:Rows n R P c) (hc:∀ j,(c j).length≤1000) {w:_}
  (hw:w=aZ.l2 (gx,XS,(),0,(),(),z.1,z.2,(),(n:Int),0,()) (Y,(false,R),(fl,f),P,())):
  w.1=true∧w.2.1=5∧w.2.2.1=(gx,XS,(),0,(),(),z.1,z.2,(),(n:Int),(n:Int),())∧∃ R' P',w.2.2.2.1=(Y,(false,R'),(fl,f),P',())∧Rows n R' P' (fun j=>if j<n then c j++ [f.getD j [0,0,0,0]] else c j):=by
 refine jy (g:=fun rq kn ke kr x y=>aZ.g2 rq kn ke kr x y) hw
  (fun x y=>∃ (j:Nat) (R:List Nat) (P:wS),j≤n∧x=(gx,XS,(),0,(),(),z.1,z.2,(),(n:Int),(j:Int),())∧y=(Y,(false,R),(fl,f),P,())∧Rows n R P (fun k=>if k<j then c k++ [f.getD k [0,0,0,0]] else c k))
  (fun x y=>n - x.2.2.2.2.2.2.2.2.2.2.1.toNat)
  ⟨0,R,P,Nat.zero_le _,rfl,rfl,by
   have:(fun k=>if k<0 then c k++ [f.getD k [0,0,0,0]] else c k)=c:=funext fun k=>if_neg (Nat.not_lt_zero _)
   rw [this]; exact h⟩ (by show n - ((0:Int)).toNat<((n:Int) - (0:Int)).toNat+1; omega)
  (Q:=fun w=>w.1=true∧w.2.1=5∧w.2.2.1=(gx,XS,(),0,(),(),z.1,z.2,(),(n:Int),(n:Int),())∧∃ R' P',w.2.2.2.1=(Y,(false,R'),(fl,f),P',())∧Rows n R' P' (fun j=>if j<n then c j++ [f.getD j [0,0,0,0]] else c j)) ?_
 rintro x y K ⟨j,R,P,hj,rfl,rfl,hr⟩ hK
 by_cases hlt:j<n
 ·have w1:IntKind.i64.wrap ((j:Int)+1)=((j+1:Nat):Int):=i64_in _ (by omega)
  have rl:=hr.1
  have hb:(P.getD (R.getD j 0) (0,[])).2=if j<j then c j++ [f.getD j [0,0,0,0]] else c j:=(hr.2 j hlt).2.2.1
  rw [if_neg (Nat.lt_irrefl j)] at hb
  have c1:nle ((2*((P.getD (R.getD j 0) (0,[])).2.length+1)+512)*32) 70368744177664=true:=pG (by rw [hb]; have:=hc j; omega)
  have hfg:=hr.flag hlt
  simp only [aZ.g2,Go.Own.lt,dK (show (j:Int)<(n:Int) by omega),cond_true,He (show j<f.length by omega),He (show j<R.length by omega),ak,Int.toNat_natCast,hfg,c1,Bool.and_self,w1]
  have:=hr.put hlt (f.getD j [0,0,0,0])
  refine hK _ _ ⟨j+1,_,_,hlt,rfl,rfl,?_⟩ ?_
  ·refine Eq.mp (congrArg (Rows n _ _) (funext fun k=> ?_)) this
   by_cases e:k=j
   ·subst e; rw [if_pos rfl,if_neg (Nat.lt_irrefl k),if_pos (Nat.lt_succ_self k)]
   ·rw [if_neg e]
    by_cases e2:k<j
    ·rw [if_pos e2,if_pos (by omega)]
    ·rw [if_neg e2,if_neg (by omega)]
  ·show n - (((j+1:Nat):Int)).toNat<n - ((j:Int)).toNat
   omega
 ·have:j=n:=by omega
  subst this
  simp only [aZ.g2,Go.Own.lt,dH (show ¬ (j:Int)<(j:Int) by omega),cond_false]
  exact ⟨trivial,trivial,trivial,R,P,rfl,hr⟩
structure Units (q:Nat) (pts:List Nat) (F:Nat→List Nat):Prop where
 len:∀ i,i<pts.length→(F i).length≤pts.length
 lt:∀ i,i<pts.length→∀ a∈F i,a<q
 val:∀ i,i<pts.length→∀ k,k<pts.length→evN q (F i) (pts.getD k 0)=if k=i then 1 else 0
theorem Lx {q:Nat} [NeZero q] (hq:1<q) {pts:List Nat} (ha:vK q pts):∃ F,Units q pts F:=by
 have:∀ i,∃ f:List Nat,f.length≤pts.length∧(∀ a∈f,a<q)∧∀ k,k<pts.length→fz q (evN q f (pts.getD k 0))=if k=i then 1 else 0:=fun i=>Q8 ha fun k=>if k=i then 1 else 0
 refine ⟨fun i=>Classical.choose (this i),fun i _=>(Classical.choose_spec (this i)).1,fun i _=>(Classical.choose_spec (this i)).2.1,fun i _ k hk=> ?_⟩
 have h:=(Classical.choose_spec (this i)).2.2 k hk
 have hl:=Ao (show 0<q by omega) (Classical.choose (this i)) (pts.getD k 0)
 have hv:=congrArg Fin.val h
 rw [Nq,Nat.mod_eq_of_lt hl] at hv
 rw [hv]
 by_cases e:k=i
 ·rw [if_pos e,if_pos e]; exact Nat.mod_eq_of_lt hq
 ·rw [if_neg e,if_neg e]; rfl
theorem OH {q:Nat} {pts:List Nat} {F:Nat→List Nat} (h:Units q pts F) {i:Nat} (hi:i<pts.length):(List.replicate pts.length [0,0,0,0]).set i [1,0,0,0]=(pts.map (evN q (F i))).map limbs:=by
 apply List.ext_getElem?
 intro k
 rw [List.getElem?_set,List.getElem?_map,List.getElem?_map]
 rcases Nat.lt_or_ge k pts.length with hk|hk
 ·have hv:=h.val i hi k hk
  rw [getD_lt hk] at hv
  rw [List.getElem?_eq_getElem hk]
  simp only [Option.map_some,hv,List.length_replicate,List.getElem?_replicate]
  by_cases e:i=k
  ·subst e
   rw [if_pos rfl,if_pos hi,if_pos rfl]; rfl
  ·rw [if_neg e,if_pos hk,if_neg fun h=>e h.symm]; rfl
 ·rw [if_neg (by omega),List.getElem?_eq_none (by simpa using hk),List.getElem?_eq_none hk]; rfl
def E8 (f:List Nat) (n:Nat):List (List Int):=(List.range n).map fun j=>limbs (f.getD j 0)
theorem QT {q:Nat} [NeZero q] {f L:List Nat} {m n:Nat} (hm:m≤L.length) (hL:∀ a∈L,a<q) (hf:∀ a∈f,a<q) (hfn:f.length≤n) (hmf:m≤n) (h:Pol.PE (toF q f) (toF q (L.take m))):
  ((L.map limbs).take m)++List.replicate (n - m) [0,0,0,0]=E8 f n:=by
 have lt_of:∀ {l:List Nat} {k:Nat},(∀ a∈l,a<q)→l.getD k 0<q:=by
  intro l k hl
  rcases Nat.lt_or_ge k l.length with h|h
  ·exact hl _ (gY h)
  ·rw [jh h]; exact Nat.pos_of_ne_zero (NeZero.ne q)
 have he:∀ k,(L.take m).getD k 0=f.getD k 0:=by
  intro k
  have:=h k
  rw [j6,j6] at this
  have e:=Ns this
  rw [Nat.mod_eq_of_lt (lt_of hf),Nat.mod_eq_of_lt (lt_of fun a ha=>hL a (List.mem_of_mem_take ha))] at e
  exact e.symm
 apply List.ext_getElem?
 intro k
 unfold E8
 rw [List.getElem?_map]
 rcases Nat.lt_or_ge k m with hk|hk
 ·rw [List.getElem?_append_left (by rw [List.length_take,List.length_map]; omega),List.getElem?_take,if_pos hk,List.getElem?_map,List.getElem?_eq_getElem (show k<L.length by omega),List.getElem?_range (show k<n by omega)]
  have:=he k
  rw [getD_take,if_pos hk,getD_lt (show k<L.length by omega)] at this
  simp only [Option.map_some,this]
 ·rw [List.getElem?_append_right (by rw [List.length_take,List.length_map]; omega),List.length_take,List.length_map,Nat.min_eq_left hm,List.getElem?_replicate]
  rcases Nat.lt_or_ge k n with hkn|hkn
  ·rw [if_pos (by omega),List.getElem?_range hkn]
   have:=he k
   rw [getD_take,if_neg (by omega)] at this
   simp only [Option.map_some,← this]; rfl
  ·rw [if_neg (by omega),List.getElem?_eq_none (by simpa using hkn)]; rfl
theorem E5 (f:List Nat) (n:Nat):(E8 f n).length=n:=by unfold E8; simp
theorem KA {f:List Nat} {n j:Nat} (h:j<n) (d:List Int):(E8 f n).getD j d=limbs (f.getD j 0):=by
 unfold E8
 rw [List.getD_eq_getElem?_getD,List.getElem?_map,List.getElem?_range h]; rfl
def jf (F:Nat→List Nat) (n:Nat):List (List (List Int)):=(List.range n).map fun j=>(List.range n).map fun i=>limbs ((F i).getD j 0)
theorem Tg {gx:Option dD} {q:Nat} [NeZero q] (h:Fld gx q) {pts:List Nat} (hp:∀ p∈pts,p≤7) (hn:pts.length≤8) (ha:vK q pts) {F:Nat→List Nat} (hF:Units q pts F) (fl:Bool) {w:_}
  (hw:w=aZ.l1 (gx,ints pts,(),0,(),(),(pts.length:Int),0,()) ((fl,pts.map limbs),(false,List.replicate pts.length 0),[(3,[])],())):
  w.1=true∧w.2.1=3∧∃ R P,w.2.2.2.1=((fl,pts.map limbs),(false,R),P,())∧Rows pts.length R P (fun j=>if j<pts.length then (List.range pts.length).map fun i=>limbs ((F i).getD j 0) else []):=by
 obtain ⟨n,hnn⟩:∃ n,n=pts.length:=⟨_,rfl⟩
 have hq:=h.gt
 have hqW:=h.lt
 rw [← hnn] at hw ⊢
 refine jy (g:=fun rq kn ke kr x y=>aZ.g1 rq kn ke kr x y) hw
  (fun x y=>∃ (i:Nat) (R:List Nat) (P:wS),i≤n∧x=(gx,ints pts,(),0,(),(),(n:Int),(i:Int),())∧y=((fl,pts.map limbs),(false,R),P,())∧Rows n R P (fun j=>if j<n then (List.range i).map fun k=>limbs ((F k).getD j 0) else []))
  (fun x y=>n - x.2.2.2.2.2.2.2.1.toNat)
  ⟨0,_,_,Nat.zero_le _,rfl,rfl,by
   have:(fun j=>if j<n then (List.range 0).map fun k=>limbs ((F k).getD j 0) else [])=(fun _=>([]:List (List Int))):=funext fun j=>by split<;>rfl
   rw [this]; exact Rows.start n⟩ (by show n - ((0:Int)).toNat<((n:Int) - (0:Int)).toNat+1; omega)
  (Q:=fun w=>w.1=true∧w.2.1=3∧∃ R P,w.2.2.2.1=((fl,pts.map limbs),(false,R),P,())∧Rows n R P (fun j=>if j<n then (List.range n).map fun i=>limbs ((F i).getD j 0) else [])) ?_
 rintro x y K ⟨i,R,P,hi,rfl,rfl,hr⟩ hK
 by_cases hlt:i<n
 ·have hip:i<pts.length:=by omega
  have w1:IntKind.i64.wrap ((i:Int)+1)=((i+1:Nat):Int):=i64_in _ (by omega)
  have n1:bY.r 1=(true,[1,0,0,0]):=by rw [qx _ (by decide)]; rfl
  obtain ⟨L,m,f2,e,h1,h2,h3,h4⟩:=Li h (f:=F i) (fun a hm=>Nat.lt_trans (hF.lt i hip a hm) hqW) (xs:=pts) (fun a hm=>by have:=hp a hm; unfold au; omega) (hF.len i hip) (by omega) ha
  have hlen:=hF.len i hip
  have c1:(ile 0 (n:Int)&&ile (n:Int) (n:Int))=true:=by rw [dM (by omega),dM (Int.le_refl _)]; rfl
  have c2:ile ((n:Int)*((32:Nat):Int)) 70368744177664=true:=dM (by omega)
  have c3:(ile 0 (i:Int)&&ilt (i:Int) (n:Int))=true:=rng hlt
  have w2:IntKind.i64.wrap ((n:Int) - (m:Int))=((n - m:Nat):Int):=by rw [i64_in _ (by omega)]; omega
  have c4:nle ((2*(m+(n - m))+512)*32) 70368744177664=true:=pG (by omega)
  have hpad:=QT h2 h1 (hF.lt i hip) (n:=n) (by omega) (by omega) h4
  have ey:=OH hF hip
  rw [← hnn] at ey
  obtain ⟨fl3,hfl3⟩:∃ b,b=((f2&&neq m 0)&&(List.replicate (n - m) ([0,0,0,0]:List Int)).isEmpty):=⟨_,rfl⟩
  obtain ⟨v,hv⟩:∃ v,v=aZ.l2 (gx,ints pts,(),0,(),(),(n:Int),(i:Int),(),(n:Int),0,()) ((fl,pts.map limbs),(false,R),(fl3,E8 (F i) n),P,()):=⟨_,rfl⟩
  obtain ⟨v1,v2,v3,R',P',v4,v5⟩:=Tf (z:=((n:Int),(i:Int))) (by omega) (fl,pts.map limbs) fl3 (E8 (F i) n) (E5 _ _) hr (fun j=>by
   show (if j<n then _ else _:List (List Int)).length≤1000
   split
   ·rw [List.length_map,List.length_range]; omega
   ·exact Nat.zero_le _) hv
  have hml:(List.take m (L.map limbs)).length=m:=by rw [List.length_take,List.length_map]; omega
  have e0:((0:Int) != 0)=false:=rfl
  have hil:(ints pts).length=n:=by rw [List.length_map]; exact hnn.symm
  simp only [aZ.g1,Go.Own.lt,dK (show (i:Int)<(n:Int) by omega),cond_true,hil,Int.toNat_natCast,c1,c2,c3,Bool.and_self,ak,n1,List.length_replicate,ey,e,show Nat.beq 1 0=false from rfl,cond_false,e0,w2,List.drop_zero,hml,c4,dM (show (0:Int)≤((n - m:Nat):Int) by omega),hpad,E5,← hfl3,← hv,v1,v3,v4,w1]
  refine hK _ _ ⟨i+1,R',P',hlt,rfl,rfl,?_⟩ ?_
  ·refine Eq.mp (congrArg (Rows n _ _) (funext fun j=> ?_)) v5
   by_cases hj:j<n
   ·rw [if_pos hj,if_pos hj,if_pos hj,KA hj,List.range_succ,List.map_append]; rfl
   ·rw [if_neg hj,if_neg hj,if_neg hj]
  ·show n - (((i+1:Nat):Int)).toNat<n - ((i:Int)).toNat
   omega
 ·have:i=n:=by omega
  subst this
  simp only [aZ.g1,Go.Own.lt,dH (show ¬ (i:Int)<(i:Int) by omega),cond_false]
  exact ⟨trivial,trivial,R,P,rfl,hr⟩
theorem any_false {pts:List Nat} (hp:∀ p∈pts,p≤7):((ints pts).any fun x=>decide (x<0)||decide (7<x))=false:=by
 rw [List.any_eq_false]
 intro x hx
 obtain ⟨p,hp',rfl⟩:=List.mem_map.1 hx
 have:=hp p hp'
 rw [decide_eq_false (by omega),decide_eq_false (by omega)]; decide
theorem H9 {pts:List Nat}:(ints pts).Nodup↔pts.Nodup:=by
 unfold List.Nodup ints
 rw [List.pairwise_map]
 exact ⟨fun h=>h.imp fun h2 e=>h2 (by rw [e]),fun h=>h.imp fun h2 e=>h2 (by omega)⟩
theorem Lg {gx:Option dD} {q:Nat} [NeZero q] (h:Fld gx q) (hs:sw q) {pts:List Nat} (hp:∀ p∈pts,p≤7) (hd:pts.Nodup) (hn:pts.length≤8):
  ∃ F,Units q pts F∧aZ.r gx (ints pts)=(true,jf F pts.length,0):=by
 obtain ⟨rq,inv,hR,hFd⟩:=h.field
 have ha:=CK h.gt h.lt hs hp hd
 obtain ⟨F,hF⟩:=Lx h.gt ha
 refine ⟨F,hF,?_⟩
 have hil:(ints pts).length=pts.length:=List.length_map _
 obtain ⟨b,t1,t2⟩:=Lh (ints pts) (by rw [hil]; omega)
 have hb:b=false:=by
  cases b with
  |false=>rfl
  |true=>exact absurd (H9.2 hd) (t2.1 rfl)
 have O:=Gw (ints pts) 0 (by rw [hil]; omega)
 rw [any_false hp] at O
 obtain ⟨v,hv⟩:∃ v,v=aZ.l1 (gx,ints pts,(),0,(),(),(pts.length:Int),0,()) ((decide (pts.length=0),pts.map limbs),(false,List.replicate pts.length 0),[(3,[])],()):=⟨_,rfl⟩
 obtain ⟨v1,v2,R,P,v3,v4⟩:=Tg h hp hn ha hF _ hv
 have c1:(ile 0 (pts.length:Int)&&ile (pts.length:Int) (pts.length:Int))=true:=by rw [dM (by omega),dM (Int.le_refl _)]; rfl
 have c2:ile ((pts.length:Int)*((24:Nat):Int)) 70368744177664=true:=dM (by omega)
 have e1:([]:wS)++ [(3,[])]= [(3,[])]:=rfl
 have ew:(R.map fun r=>(P.getD r (0,[])).2)=jf F pts.length:=by
  rw [v4.all]
  unfold jf
  apply List.map_congr_left
  intro j hj
  rw [if_pos (List.mem_range.1 hj)]
 simp only [aZ.r,aZ.g,Go.Own.lt,hFd,ak,hR.uD,cond_false,hil,dH (show ¬ (8:Int)<(pts.length:Int) by omega),O,t1,hb,Ti gx pts hp (by omega) [],e1,List.length_nil,Int.toNat_natCast,c1,c2,Bool.and_self,← hv,v1,v2,v3,show Nat.beq 3 0=false from rfl,ew]
end Go.Own
set_option linter.unusedVariables false
set_option linter.unusedSimpArgs false
namespace Go.Own
open Go.IntWalk
theorem OD {q:Nat} [NeZero q] {xs:List Nat} (ha:vK q xs) {P:List (Fin q)} (hl:P.length≤xs.length) (h:∀ k,k<xs.length→Pol.ev P (fz q (xs.getD k 0))=0):∀ n,Pol.cf P n=0:=by
 have key:∀ m,m≤xs.length→∃ g:List (Fin q),Pol.PE P (Pol.TL (toF q (xs.take m)) g)∧g.length=P.length - m:=by
  intro m
  induction m with
  |zero=>intro _; exact ⟨P,fun _=>rfl,rfl⟩
  |succ m ih=>
   intro hm
   obtain ⟨g,h1,h2⟩:=ih (by omega)
   obtain ⟨s,hs⟩:=ha m hm
   have hv:=h m hm
   rw [Pol.Am h1,Pol.K5] at hv
   have h0:Pol.ev g (fz q (xs.getD m 0))=0:=by
    have:s*(Pol.sU (toF q (xs.take m)) (fz q (xs.getD m 0))*Pol.ev g (fz q (xs.getD m 0)))=0:=by rw [hv]; grind
    grind
   have hd:=Pol.NC (fz q (xs.getD m 0)) g
   rw [h0] at hd
   have hg:Pol.PE g (Pol.Ml (fz q (xs.getD m 0)) (Pol.dv (fz q (xs.getD m 0)) g)):=fun n=>by
    rw [hd n,Pol.gU]
    have:Pol.cf [(0:Fin q)] n=0:=by
     cases n with
     |zero=>rfl
     |succ n=>rw [Pol.jb,Pol.jd]
    rw [this]; grind
   have ax:toF q (xs.take (m+1))=toF q (xs.take m)++ [fz q (xs.getD m 0)]:=(jY (f:=fz q) hm).symm
   refine ⟨Pol.dv (fz q (xs.getD m 0)) g,?_,by rw [Pol.IC,h2]; omega⟩
   rw [ax,Pol.Ea]
   exact h1.trans (Pol.PE.T hg)
 obtain ⟨g,h1,h2⟩:=key xs.length (Nat.le_refl _)
 have:g= []:=List.length_eq_zero_iff.1 (by omega)
 subst this
 intro n
 rw [h1 n,Pol.Gu]
theorem Es {q:Nat} [NeZero q] {xs:List Nat} (ha:vK q xs) {a b:List (Fin q)} (hla:a.length≤xs.length) (hlb:b.length≤xs.length) (h:∀ k,k<xs.length→Pol.ev a (fz q (xs.getD k 0))=Pol.ev b (fz q (xs.getD k 0))):Pol.PE a b:=by
 have z:=OD ha (P:=Pol.kK a (Pol.pY (-1) b)) (by rw [uf]; unfold Pol.pY; rw [List.length_map]; omega) (fun k hk=>by
  rw [Pol.xH,Pol.DL,h k hk]; grind)
 intro n
 have:=z n
 rw [Pol.gU,Pol.kT] at this
 grind
def yF (q:Nat) [NeZero q] (F:Nat→List Nat) (ys:List Nat):Nat→List (Fin q)
 |0=> []
 |i+1=>Pol.kK (yF q F ys i) (Pol.pY (fz q (ys.getD i 0)) (toF q (F i)))
theorem Gd {q:Nat} [NeZero q] {F:Nat→List Nat} {ys:List Nat} {d:Nat}:∀ n,(∀ i,i<n→(F i).length≤d)→(yF q F ys n).length≤d
 |0,_=>Nat.zero_le _
 |n+1,h=>by
  have ih:=Gd (ys:=ys) (q:=q) n (fun i hi=>h i (by omega))
  have h1:=h n (by omega)
  show (Pol.kK _ _).length≤d
  rw [uf]
  unfold Pol.pY toF
  rw [List.length_map,List.length_map]; omega
theorem JR {q:Nat} [NeZero q] {pts:List Nat} {F:Nat→List Nat} (hF:Units q pts F) (ys:List Nat) {k:Nat} (hk:k<pts.length):∀ m,m≤pts.length→Pol.ev (yF q F ys m) (fz q (pts.getD k 0))=if k<m then fz q (ys.getD k 0) else 0
 |0,_=>by rw [if_neg (Nat.not_lt_zero _)]; rfl
 |m+1,hm=>by
  show Pol.ev (Pol.kK (yF q F ys m) (Pol.pY (fz q (ys.getD m 0)) (toF q (F m)))) _=_
  rw [Pol.xH,Pol.DL,JR hF ys hk m (by omega),← vH,hF.val m (by omega) k hk]
  by_cases e:k=m
  ·subst e
   rw [if_neg (Nat.lt_irrefl k),if_pos rfl,if_pos (Nat.lt_succ_self k),Iw]; grind
  ·rw [if_neg e,lu]
   by_cases e2:k<m
   ·rw [if_pos e2,if_pos (by omega)]; grind
   ·rw [if_neg e2,if_neg (by omega)]; grind
end Go.Own
set_option linter.unusedVariables false
set_option linter.unusedSimpArgs false
namespace Go.Own
open Go.IntWalk
theorem Rq (n k:Nat) (hk:k<256):gD.r (limbs n) (k:Int)=(true,((n.testBit k).toNat:Int)):=by
 have e:(ile 0 (k:Int)&&ilt (k:Int) 256)=true:=by rw [dM (by omega),dK (by omega)]; rfl
 simp only [gD.r,gD.g,Go.Own.lt,Rx,ak,dM (show (0:Int)≤(k:Int) by omega),dK (show (k:Int)<256 by omega),cond_true,e,Bool.and_self,Int.toNat_natCast,jE n k hk]
 cases n.testBit k<;>rfl
theorem Gb (E t:Nat):E/2^t=2*(E/2^(t+1))+(E.testBit t).toNat:=by
 rw [Nat.toNat_testBit,Nat.pow_succ,← Nat.div_div_eq_div_mul]; omega
theorem N9 (a E m:Nat) (h1:1<m) (hm:m<9223372036854775808) (hE:E<au):di.r (a:Int) (limbs E) (m:Int)=(true,((a^E%m:Nat):Int)):=by
 have h0:0<m:=by omega
 obtain ⟨T,hT⟩:∃ T,T=bH E:=⟨_,rfl⟩
 have hT2:T≤256:=by rw [hT]; exact rC hE
 have z:ieq (m:Int) 0=false:=FT (by omega)
 have key:di.l0 ((a:Int),(m:Int),(),0,((a^(E/2^(T - 0))%m:Nat):Int),(T:Int) - ((0:Nat):Int) - 1,()) (limbs E,())=(true,1,((a:Int),(m:Int),(),0,((a^(E/2^(T - T))%m:Nat):Int),(T:Int) - (T:Int) - 1,()),(limbs E,()),(),()):=by
  refine bL (g:=fun rq kn ke kr x y=>di.g0 rq kn ke kr x y) T (fun i=>((a:Int),(m:Int),(),0,((a^(E/2^(T - i))%m:Nat):Int),(T:Int) - (i:Int) - 1,())) (fun _=>(limbs E,())) _ ?_ ?_ _ 0 (Nat.zero_le _) (by show T - 0<((T:Int) - ((0:Nat):Int) - 1 - (0:Int)+1).toNat+1; omega)
  ·intro i R hi
   obtain ⟨t,ht⟩:∃ t,T - i=t+1:=⟨T - i - 1,by omega⟩
   have e1:(T:Int) - (i:Int) - 1=(t:Int):=by omega
   have e2:T - (i+1)=t:=by omega
   have w1:IntKind.i64.wrap ((t:Int) - 1)=(T:Int) - ((i+1:Nat):Int) - 1:=by rw [i64_in _ (by omega)]; omega
   obtain ⟨K,hK⟩:∃ K,K=E/2^(t+1):=⟨_,rfl⟩
   have hd:=Gb E t
   rw [← hK] at hd
   have sq:a^K%m*(a^K%m)%m=a^(2*K)%m:=by rw [← Nat.mul_mod,← Nat.pow_add]; congr 2; omega
   have m1:=J2 (a^K%m) (a^K%m) m h0 hm
   rw [sq] at m1
   have m2:=J2 (a^(2*K)%m) a m h0 hm
   rw [Nat.mod_mul_mod,← Nat.pow_succ] at m2
   have b1:=Rq E t (by omega)
   simp only [di.g0,Go.Own.lt,ht,e1,e2,← hK,dM (show (0:Int)≤(t:Int) by omega),cond_true,eY.fE,gD.fE,m1,b1,ak]
   cases hb:E.testBit t with
   |true=>
    rw [hb] at hd
    have hd':E/2^t=(2*K).succ:=by rw [hd]; rfl
    simp only [hd',m2,w1,ak,tT,cond_true]
   |false=>
    rw [hb] at hd
    have hd':E/2^t=2*K:=by rw [hd]; rfl
    simp only [hd',w1,tT,cond_false]
  ·intro R
   have:¬ (0:Int)≤(T:Int) - (T:Int) - 1:=by omega
   simp only [di.g0,Go.Own.lt,tF this,cond_false]
 have hz:E/2^T=0:=Nat.div_eq_of_lt (by rw [hT]; exact nO E)
 have e1:(1:Int).tmod (m:Int)=((1%m:Nat):Int):=yZ 1 m
 have w1:IntKind.i64.wrap ((T:Int) - 1)=(T:Int) - 1:=i64_in _ (by omega)
 have e3:(T:Int) - ((0:Nat):Int) - 1=(T:Int) - 1:=by omega
 rw [Nat.sub_zero,hz,Nat.pow_zero,Nat.sub_self,Nat.pow_zero,Nat.div_one,e3] at key
 simp only [di.r,di.g,Go.Own.lt,e1,z,Bool.not_false,ak,QE E hE,← hT,w1,key]
end Go.Own
set_option linter.unusedVariables false
set_option linter.unusedSimpArgs false
namespace Go.Own
open Go.IntWalk
structure GF (gv:dD) (p q g:Nat):Prop where
 grp:Grp gv p q g
 p1:1<p
 pW:p<au
 q1:1<q
 qW:q<au
 gW:g<au
 ord:g^q%p=1
section
variable {gv:dD} {p q g:Nat}
theorem GF.ring (h:GF gv p q g):∃ rp i1,Rng rp p i1 (au%p) (au*au%p)∧dZ.r (some gv)=(true,rp):=by
 obtain ⟨rp,rq,i1,i2,e,hR,hQ⟩:=h.grp
 subst e
 exact ⟨rp,i1,hR,rfl⟩
theorem GF.fld (h:GF gv p q g):Fld (some gv) q:=h.grp.fld
theorem GF.gen (h:GF gv p q g):nQ.r (some gv)=(true,limbs g):=by
 obtain ⟨rp,rq,i1,i2,e,hR,hQ⟩:=h.grp
 subst e; rfl
theorem Oh (h:GF gv p q g) {a e:Nat} (ha:a<au) (he:e<au):lZ.r (some gv) (limbs a) (limbs e)=(true,limbs (a^e%p)):=by
 obtain ⟨rp,i1,hR,hr⟩:=h.ring
 simp only [lZ.r,lZ.g,Go.Own.lt,hr,GD hR ha he,ak]
theorem J5 (h:GF gv p q g) {e:Nat} (he:e<au):kM.r (some gv) (limbs e)=(true,limbs (g^e%p)):=by
 simp only [kM.r,kM.g,Go.Own.lt,h.gen,Oh h h.gW he,ak]
def InG (p q a:Nat):Bool:=decide (¬ a=0)&&(decide (a<p)&&decide (a^q%p=1))
theorem Qz (h:GF gv p q g) {a:Nat} (ha:a<au):nY.r (some gv) (limbs a)=(true,InG p q a):=by
 obtain ⟨rp,i1,hR,hr⟩:=h.ring
 have hp0:0<p:=by have:=h.p1; omega
 have e1:bY.r 1=(true,limbs 1):=by rw [qx _ (by decide)]; rfl
 have hlt:a^q%p<au:=Nat.lt_trans (Nat.mod_lt _ hp0) h.pW
 have E:=eqL hlt (show 1<au by decide)
 have Z:=eqZ ha
 unfold InG
 simp only [nY.r,nY.g,Go.Own.lt,hr,RA hR ha,Qh h.fld,GD hR ha h.qW,e1,E,Z,ak]
 by_cases h0:a=0
 ·simp only [h0,decide_true,Bool.not_true,cond_false,not_true_eq_false,decide_false,Bool.false_and]
 ·simp only [h0,decide_false,Bool.not_false,cond_true,not_false_eq_true,decide_true,Bool.true_and]
  cases decide (a<p)<;>rfl
theorem RD (h:GF gv p q g) {a b:Nat} (ha:a<au) (hb:b<au):oN.r (some gv) (limbs a) (limbs b)=(true,limbs (a*b%p)):=by
 obtain ⟨rp,i1,hR,hr⟩:=h.ring
 have hp0:0<p:=by have:=h.p1; omega
 have e1:bY.r 1=(true,limbs 1):=by rw [qx _ (by decide)]; rfl
 have m1:=Ja hR (show 1<au by decide) ha
 rw [Nat.one_mul] at m1
 have m2:=Ja hR (Nat.lt_trans (Nat.mod_lt a hp0) h.pW) hb
 rw [Nat.mod_mul_mod] at m2
 have key:fK.l0 (some gv,(),(),[limbs a,limbs b],2,0,()) ([0,0,0,0],limbs 1,())=(true,1,(some gv,(),(),[limbs a,limbs b],2,2,()),([0,0,0,0],limbs (a*b%p),()),(),()):=by
  have z1:IntKind.i64.wrap ((0:Int)+1)=1:=rfl
  have z2:IntKind.i64.wrap ((1:Int)+1)=2:=rfl
  have d0:([limbs a,limbs b]).getD ((0:Int)).toNat [0,0,0,0]=limbs a:=rfl
  have d1:([limbs a,limbs b]).getD ((1:Int)).toNat [0,0,0,0]=limbs b:=rfl
  have bl:(([limbs a,limbs b]).length:Int)=2:=rfl
  refine G9 (g:=fun rq kn ke kr x y=>fK.g0 rq kn ke kr x y) (x1:=(some gv,(),(),[limbs a,limbs b],2,1,())) (y1:=([0,0,0,0],limbs (a%p),())) (x2:=(some gv,(),(),[limbs a,limbs b],2,2,())) (y2:=([0,0,0,0],limbs (a*b%p),())) ?_ ?_ ?_ _ ?_
  ·intro R
   simp only [fK.g0,Go.Own.lt,show ilt (0:Int) 2=true from rfl,cond_true,d0,bl,show ile (0:Int) 0=true from rfl,Bool.and_self,ak,hr,m1,z1]
  ·intro R
   simp only [fK.g0,Go.Own.lt,show ilt (1:Int) 2=true from rfl,cond_true,d1,bl,show ile (0:Int) 1=true from rfl,Bool.and_self,ak,hr,m2,z2]
  ·intro R
   simp only [fK.g0,Go.Own.lt,show ilt (2:Int) 2=false from rfl,cond_false]
  ·show 3≤((2:Int) - 0).toNat+1
   decide
 have bl:(([limbs a,limbs b]).length:Int)=2:=rfl
 simp only [oN.r,oN.g,fK.r,fK.g,Go.Own.lt,e1,bl,key,ak]
theorem Oe (h:GF gv p q g) {bs es:List Nat} (hb:∀ b∈bs,b<au) (he:∀ e∈es,e<au) (hl:bs.length=es.length) (h64:bs.length≤64):lY.r (some gv) (bs.map limbs) (es.map limbs)=(true,limbs (fI (fun e=>e) bs es%p),0):=by
 obtain ⟨rp,i1,hR,hr⟩:=h.ring
 simp only [lY.r,lY.g,Go.Own.lt,hr,Oc hR hb he hl h64,ak]
def uO (q:Nat) (a b:List Nat):Nat→Nat
 |0=>0
 |k+1=>(uO q a b k+a.getD k 0*b.getD k 0%q)%q
theorem JV {q:Nat} (h0:0<q) (a b:List Nat):∀ k,uO q a b k<q
 |0=>h0
 |k+1=>Nat.mod_lt _ h0
theorem SF {gx:Option dD} (h:Fld gx q) {a b:List Nat} (ha:∀ x∈a,x<au) (hb:∀ x∈b,x<au) (hl:a.length=b.length) (hn:a.length≤1073741824):je.r gx (a.map limbs) (b.map limbs)=(true,limbs (uO q a b a.length),0):=by
 obtain ⟨rq,inv,hR,hF⟩:=h.field
 have h0:0<q:=by have:=h.gt; omega
 have key:je.l0 (gx,a.map limbs,b.map limbs,(),0,(),(a.length:Int),((0:Nat):Int),()) ([0,0,0,0],limbs (uO q a b 0),())=(true,1,(gx,a.map limbs,b.map limbs,(),0,(),(a.length:Int),(a.length:Int),()),([0,0,0,0],limbs (uO q a b a.length),()),(),()):=by
  refine bL (g:=fun rq kn ke kr x y=>je.g0 rq kn ke kr x y) a.length (fun j=>(gx,a.map limbs,b.map limbs,(),0,(),(a.length:Int),(j:Int),())) (fun j=>([0,0,0,0],limbs (uO q a b j),())) _ ?_ ?_ _ 0 (Nat.zero_le _) (by show a.length - 0<((a.length:Int) - ((0:Nat):Int)).toNat+1; omega)
  ·intro j R hj
   have g1:(a.map limbs).getD j [0,0,0,0]=limbs (a.getD j 0):=getD_map hj
   have g2:(b.map limbs).getD j [0,0,0,0]=limbs (b.getD j 0):=getD_map (by omega)
   have M:=A7 h (ha _ (gY hj)) (hb _ (gY (show j<b.length by omega)))
   have A:=A8 h (Nat.lt_trans (JV h0 a b j) h.lt) (Nat.lt_trans (Nat.mod_lt (a.getD j 0*b.getD j 0) h0) h.lt)
   have e1:(uO q a b j+a.getD j 0*b.getD j 0%q)%q=uO q a b (j+1):=rfl
   have w1:IntKind.i64.wrap ((j:Int)+1)=((j+1:Nat):Int):=i64_in _ (by omega)
   simp only [je.g0,Go.Own.lt,List.length_map,← hl,dK (show (j:Int)<(a.length:Int) by omega),dM (show (0:Int)≤(j:Int) by omega),cond_true,Bool.and_self,Int.toNat_natCast,ak,g1,g2,M,A,e1,w1]
  ·intro R
   simp only [je.g0,Go.Own.lt,dH (show ¬ (a.length:Int)<(a.length:Int) by omega),cond_false]
 have z:limbs (uO q a b 0)= [0,0,0,0]:=fw
 rw [z] at key
 have k2:je.l0 (gx,a.map limbs,b.map limbs,(),0,(),(a.length:Int),0,()) ([0,0,0,0],[0,0,0,0],())=_:=key
 have c1:((a.length:Int) != (a.length:Int))=false:=by simp
 simp only [je.r,je.g,Go.Own.lt,hF,ak,hR.uD,cond_false,List.length_map,← hl,c1,k2]
def toN (p g:Nat) (f:List Nat) (n:Nat):List Nat:=(List.range n).map fun k=>g^(f.getD k 0)%p
theorem Jf {f:List Nat} {n:Nat}:(toN p g f n).length=n:=by unfold toN; simp
theorem QI (h:GF gv p q g) {f:List Nat} {n:Nat}:∀ a∈toN p g f n,a<p:=fun a ha=>by
 unfold toN at ha
 obtain ⟨k,_,rfl⟩:=List.mem_map.1 ha
 exact Nat.mod_lt _ (by have:=h.p1; omega)
def toA (p g:Nat) (f:List Nat) (n j:Nat):List (List Int):=(List.range n).map fun k=>if k<j then limbs (g^(f.getD k 0)%p) else [0,0,0,0]
theorem Jh {f:List Nat} {n j:Nat} (hj:j<n):(toA p g f n j).set j (limbs (g^(f.getD j 0)%p))=toA p g f n (j+1):=by
 unfold toA
 apply List.ext_getElem?
 intro k
 rw [List.getElem?_set,List.length_map,List.length_range,List.getElem?_map,List.getElem?_map]
 rcases Nat.lt_or_ge k n with hk|hk
 ·rw [List.getElem?_range hk]
  by_cases e:j=k
  ·subst e
   rw [if_pos rfl,if_pos hj]
   simp only [Option.map_some,if_pos (Nat.lt_succ_self j)]
  ·rw [if_neg e]
   simp only [Option.map_some]
   congr 1
   by_cases e2:k<j
   ·rw [if_pos e2,if_pos (by omega)]
   ·rw [if_neg e2,if_neg (by omega)]
 ·rw [if_neg (by omega),List.getElem?_eq_none (by simpa using hk)]; rfl
theorem LW {α:Type} (l:List α) (i:Nat) (a b:α):(l.set i a).set i b=l.set i b:=by simp
theorem Sn (h:GF gv p q g) {f:List Nat} (hf:∀ a∈f,a<au) {n:Nat} (hn:n≤1000) (hfl:f.length≤1073741824):fG.l0 (some gv,f.map limbs,(),0,(),(n:Int),0,()) ((false,toA p g f n 0),())=(true,1,(some gv,f.map limbs,(),0,(),(n:Int),(n:Int),()),((false,toA p g f n n),()),(),()):=by
 have al:∀ j,(toA p g f n j).length=n:=fun j=>by unfold toA; simp
 have P0:=J5 h (show 0<au by decide)
 rw [fw] at P0
 have key:fG.l0 (some gv,f.map limbs,(),0,(),(n:Int),((0:Nat):Int),()) ((false,toA p g f n 0),())=(true,1,(some gv,f.map limbs,(),0,(),(n:Int),(n:Int),()),((false,toA p g f n n),()),(),()):=by
  refine bL (g:=fun rq kn ke kr x y=>fG.g0 rq kn ke kr x y) n (fun j=>(some gv,f.map limbs,(),0,(),(n:Int),(j:Int),())) (fun j=>((false,toA p g f n j),())) _ ?_ ?_ _ 0 (Nat.zero_le _) (by show n - 0<((n:Int) - ((0:Nat):Int)).toNat+1; omega)
  ·intro j R hj
   have w1:IntKind.i64.wrap ((j:Int)+1)=((j+1:Nat):Int):=i64_in _ (by omega)
   by_cases hjf:j<f.length
   ·have g1:(f.map limbs).getD j [0,0,0,0]=limbs (f.getD j 0):=getD_map hjf
    have P1:=J5 h (hf _ (gY hjf))
    simp only [fG.g0,Go.Own.lt,dK (show (j:Int)<(n:Int) by omega),cond_true,P0,ak,al,List.length_set,List.length_map,dM (show (0:Int)≤(j:Int) by omega),Bool.and_self,Int.toNat_natCast,dK (show (j:Int)<(f.length:Int) by omega),g1,P1,LW,Jh hj,w1]
   ·have g0:f.getD j 0=0:=jh (by omega)
    have e:=Jh (p:=p) (g:=g) (f:=f) hj
    rw [g0] at e
    simp only [fG.g0,Go.Own.lt,dK (show (j:Int)<(n:Int) by omega),cond_true,P0,ak,al,List.length_map,dM (show (0:Int)≤(j:Int) by omega),Bool.and_self,Int.toNat_natCast,dH (show ¬ (j:Int)<(f.length:Int) by omega),cond_false,e,w1]
  ·intro R
   simp only [fG.g0,Go.Own.lt,dH (show ¬ (n:Int)<(n:Int) by omega),cond_false]
 exact key
theorem Sm (h:GF gv p q g) {f:List Nat} (hf:∀ a∈f,a<au) {n:Nat} (h1:1≤n) (h7:n≤7) (hfl:f.length≤1073741824) (ht:tl (qR q f) f.length≤n):fG.r (some gv) (f.map limbs) (n:Int)=(true,(toN p g f n).map limbs,0):=by
 obtain ⟨rq,inv,hR,hF⟩:=h.fld.field
 have T:=D8 h.fld hf hfl
 have e0:List.replicate n [0,0,0,0]=toA p g f n 0:=by
  unfold toA
  apply List.ext_getElem?
  intro k
  rw [List.getElem?_replicate,List.getElem?_map]
  split
  ·rename_i hk; rw [List.getElem?_range hk]; rfl
  ·rename_i hk; rw [List.getElem?_eq_none (by simpa using hk)]; rfl
 have e1:toA p g f n n=(toN p g f n).map limbs:=by
  unfold toA toN
  rw [List.map_map]
  exact List.map_congr_left fun k hk=>if_pos (List.mem_range.1 hk)
 have c1:(ile 0 (n:Int)&&ile (n:Int) (n:Int))=true:=by rw [dM (by omega),dM (Int.le_refl _)]; rfl
 have c2:ile ((n:Int)*((32:Nat):Int)) 70368744177664=true:=dM (by omega)
 simp only [fG.r,fG.g,Go.Own.lt,hF,ak,hR.uD,cond_false,dH (show ¬ (n:Int)<1 by omega),dH (show ¬ (7:Int)<(n:Int) by omega),T,show Nat.beq 1 0=false from rfl,dH (show ¬ (n:Int)<(tl (qR q f) f.length:Int) by omega),Int.toNat_natCast,e0,c1,c2,Bool.and_self,Sn h hf (show n≤1000 by omega) hfl,e1]
def atN (p:Nat) (c:List Nat) (i:Nat):Nat:=fI (fun e=>e) c ((List.range c.length).map fun j=>i^j)%p
theorem SG (h:GF gv p q g) {c:List Nat} (hc:∀ a∈c,a<au) (h7:c.length≤7) {i:Nat} (hi:i≤7):gM.r (some gv) (c.map limbs) (i:Int)=(true,limbs (atN p c i)):=by
 have pw:∀ j,j≤7→i^j≤823543:=fun j hj=>Nat.le_trans (Nat.pow_le_pow_left hi j) (Nat.le_trans (Nat.pow_le_pow_right (by decide) hj) (by decide))
 have key:gM.l0 (some gv,c.map limbs,(i:Int),(),(),((i^0:Nat):Int),(c.length:Int),((0:Nat):Int),()) ([0,0,0,0],(decide (0=0),(List.range 0).map fun j=>limbs (i^j)),())=(true,1,(some gv,c.map limbs,(i:Int),(),(),((i^c.length:Nat):Int),(c.length:Int),(c.length:Int),()),([0,0,0,0],(decide (c.length=0),(List.range c.length).map fun j=>limbs (i^j)),()),(),()):=by
  refine bL (g:=fun rq kn ke kr x y=>gM.g0 rq kn ke kr x y) c.length (fun j=>(some gv,c.map limbs,(i:Int),(),(),((i^j:Nat):Int),(c.length:Int),(j:Int),())) (fun j=>([0,0,0,0],(decide (j=0),(List.range j).map fun j=>limbs (i^j)),())) _ ?_ ?_ _ 0 (Nat.zero_le _) (by show c.length - 0<((c.length:Int) - ((0:Nat):Int)).toNat+1; omega)
  ·intro j R hj
   have hpj:=pw j (by omega)
   have hpj1:=pw (j+1) (by omega)
   have n1:bY.r ((i^j:Nat):Int)=(true,limbs (i^j)):=by rw [qx _ (by omega)]; rfl
   have c1:nle ((2*(j+1)+512)*32) 70368744177664=true:=pG (by omega)
   have s1:((List.range j).map fun j=>limbs (i^j))++ [limbs (i^j)]=(List.range (j+1)).map fun j=>limbs (i^j):=by rw [List.range_succ,List.map_append]; rfl
   have d1:decide (j+1=0)=false:=decide_eq_false (by omega)
   have e1:((i^j:Nat):Int)*(i:Int)=((i^(j+1):Nat):Int):=by rw [Nat.pow_succ,Int.natCast_mul]
   have w0:IntKind.i64.wrap ((i^(j+1):Nat):Int)=((i^(j+1):Nat):Int):=i64_in _ (by omega)
   have w1:IntKind.i64.wrap ((j:Int)+1)=((j+1:Nat):Int):=i64_in _ (by omega)
   simp only [gM.g0,Go.Own.lt,dK (show (j:Int)<(c.length:Int) by omega),cond_true,n1,ak,Bool.and_false,s1,List.length_map,List.length_range,c1,e1,w0,w1,d1]
  ·intro R
   simp only [gM.g0,Go.Own.lt,dH (show ¬ (c.length:Int)<(c.length:Int) by omega),cond_false]
 have k2:gM.l0 (some gv,c.map limbs,(i:Int),(),(),1,(c.length:Int),0,()) ([0,0,0,0],(true,[]),())=_:=key
 have e1:((List.range c.length).map fun j=>limbs (i^j))=((List.range c.length).map fun j=>i^j).map limbs:=by rw [List.map_map]; rfl
 have M:=Oe h hc (es:=(List.range c.length).map fun j=>i^j) (fun e he=>by
  obtain ⟨j,hj,rfl⟩:=List.mem_map.1 he
  have:=pw j (by have:=List.mem_range.1 hj; omega)
  unfold au; omega) (by simp) (by omega)
 unfold atN
 simp only [gM.r,gM.g,Go.Own.lt,List.length_map,dH (show ¬ (i:Int)<0 by omega),dH (show ¬ (7:Int)<(i:Int) by omega),dH (show ¬ (7:Int)<(c.length:Int) by omega),cond_false,k2,e1,M,ak]
theorem QD (h:GF gv p q g) {c:List Nat} (hc:∀ a∈c,a<au) (h1:1≤c.length) (h7:c.length≤7) (ha:∀ a∈c,InG p q a=true):jO.r (some gv) (c.map limbs)=(true,true):=by
 have key:aO.l0 (c.map limbs,(),0,(c.length:Int),((0:Nat):Int),()) (some gv,())=(true,1,(c.map limbs,(),0,(c.length:Int),(c.length:Int),()),(some gv,()),(0,()),(none,())):=by
  refine bL (g:=fun rq kn ke kr x y=>aO.g0 rq kn ke kr x y) c.length (fun j=>(c.map limbs,(),0,(c.length:Int),(j:Int),())) (fun _=>(some gv,())) _ ?_ ?_ _ 0 (Nat.zero_le _) (by show c.length - 0<((c.length:Int) - ((0:Nat):Int)).toNat+1; omega)
  ·intro j R hj
   have g1:(c.map limbs).getD j [0,0,0,0]=limbs (c.getD j 0):=getD_map hj
   have I1:=Qz h (hc _ (gY hj))
   rw [ha _ (gY hj)] at I1
   have w1:IntKind.i64.wrap ((j:Int)+1)=((j+1:Nat):Int):=i64_in _ (by omega)
   simp only [aO.g0,mR.r,mR.g,Go.Own.lt,List.length_map,dK (show (j:Int)<(c.length:Int) by omega),dM (show (0:Int)≤(j:Int) by omega),Bool.and_self,cond_true,Int.toNat_natCast,g1,I1,ak,Bool.not_true,cond_false,w1]
  ·intro R
   simp only [aO.g0,Go.Own.lt,dH (show ¬ (c.length:Int)<(c.length:Int) by omega),cond_false]
 have k2:aO.l0 (c.map limbs,(),0,(c.length:Int),0,()) (some gv,())=_:=key
 simp only [jO.r,jO.g,dm.r,dm.g,aO.r,aO.g,Go.Own.lt,List.length_map,dM (show (1:Int)≤(c.length:Int) by omega),dM (show (c.length:Int)≤7 by omega),cond_true,k2,ak,show Nat.beq 1 0=false from rfl,cond_false,tF (show ¬ (0:Int)≤ -1 by decide),Bool.not_false]
theorem Ka (h:GF gv p q g) {c:List Nat} (hc:∀ a∈c,a<au) (h1:1≤c.length) (h7:c.length≤7) (ha:∀ a∈c,InG p q a=true) {i y:Nat} (hi:1≤i) (hi7:i≤7) (hy:y<q):iF.r (some gv) (c.map limbs) ((i:Int),(limbs y,()))=(true,decide (g^y%p=atN p c i)):=by
 obtain ⟨rq,inv,hR,hF⟩:=h.fld.field
 have hyW:y<au:=Nat.lt_trans hy h.qW
 have hp0:0<p:=by have:=h.p1; omega
 have I:=RA hR hyW
 rw [decide_eq_true hy] at I
 have E:=eqL (Nat.lt_trans (Nat.mod_lt (g^y) hp0) h.pW) (Nat.lt_trans (show atN p c i<p from Nat.mod_lt _ hp0) h.pW)
 simp only [iF.r,iF.g,uh.r,uh.g,Go.Own.lt,dM (show (1:Int)≤(i:Int) by omega),dM (show (i:Int)≤7 by omega),cond_true,hF,I,ak,QD h hc h1 h7 ha,J5 h hyW,SG h hc h7 hi7,E]
end
end Go.Own
set_option linter.unusedVariables false
set_option linter.unusedSimpArgs false
namespace Go.Own
open Go.IntWalk
section
variable {gv:dD} {p q g:Nat}
theorem Js (h:GF gv p q g) (a:Nat):g^(a%q)%p=g^a%p:=by
 have e:a=q*(a/q)+a%q:=(Nat.div_add_mod a q).symm
 have h1:g^(q*(a/q))%p=1:=by
  rw [Nat.pow_mul,Nat.pow_mod,h.ord,Nat.one_pow]; exact Nat.mod_eq_of_lt h.p1
 conv=>rhs; rw [e,Nat.pow_add,Nat.mul_mod,h1,Nat.one_mul,Nat.mod_mod]
theorem Mr (h:GF gv p q g) {a b:Nat} (e:a%q=b%q):g^a%p=g^b%p:=by rw [← Js h a,e,Js h b]
theorem M9 (h:GF gv p q g) (a:Nat):InG p q (g^a%p)=true:=by
 have hp0:0<p:=by have:=h.p1; omega
 have e:(g^a%p)^q%p=1:=by
  rw [← Nat.pow_mod,← Nat.pow_mul,Nat.mul_comm,Nat.pow_mul,Nat.pow_mod,h.ord,Nat.one_pow]; exact Nat.mod_eq_of_lt h.p1
 have h0:¬ g^a%p=0:=fun hz=>by
  rw [hz,Nat.zero_pow (by have:=h.q1; omega),Nat.zero_mod] at e; cases e
 unfold InG
 rw [decide_eq_true h0,decide_eq_true (Nat.mod_lt _ hp0),decide_eq_true e]; rfl
theorem Q9 (h:GF gv p q g) (f:List Nat) (n:Nat):∀ a∈toN p g f n,InG p q a=true:=fun a ha=>by
 unfold toN at ha
 obtain ⟨k,_,rfl⟩:=List.mem_map.1 ha
 exact M9 h _
def uN (pts:List Nat) (y:Nat→Nat):List I8:=(List.range pts.length).map fun k=>(((pts.getD k 0:Nat):Int),(limbs (y k),()))
def oD (p q g c0:Nat) (F:Nat→List Nat) (y:List Nat) (n:Nat):List Nat:=(List.range n).map fun j=>(c0^((F 0).getD j 0)%p)*(g^(uO q ((List.range n).map fun i=>(F i).getD j 0) y n)%p)%p
def ysF (y:Nat→Nat) (m:Nat):List Nat:=0::(List.range m).map y
theorem Lp (y:Nat→Nat) (m:Nat):ysF y (m+1)=ysF y m++ [y m]:=by unfold ysF; rw [List.range_succ,List.map_append]; rfl
theorem Qg (gx:Option dD) (c0:List Int) {pts:List Nat} (hp:∀ p∈pts,1≤p) (hn:pts.length≤1000) (y:Nat→Nat):
  bP.l0 (gx,(),(),0,(),(),uN pts y,(pts.length:Int),0,()) (c0,(false,[0]),(false,[[0,0,0,0]]),())=(true,1,(gx,(),(),0,(),(),uN pts y,(pts.length:Int),(pts.length:Int),()),(c0,(false,ints (0::pts)),(false,(ysF y pts.length).map limbs),()),((),0,()),()):=by
 have hsl:(uN pts y).length=pts.length:=by unfold uN; simp
 have key:bP.l0 (gx,(),(),0,(),(),uN pts y,(pts.length:Int),((0:Nat):Int),()) (c0,(false,ints (0::pts.take 0)),(false,(ysF y 0).map limbs),())=(true,1,(gx,(),(),0,(),(),uN pts y,(pts.length:Int),(pts.length:Int),()),(c0,(false,ints (0::pts.take pts.length)),(false,(ysF y pts.length).map limbs),()),((),0,()),()):=by
  refine bL (g:=fun rq kn ke kr x y=>bP.g0 rq kn ke kr x y) pts.length (fun j=>(gx,(),(),0,(),(),uN pts y,(pts.length:Int),(j:Int),())) (fun j=>(c0,(false,ints (0::pts.take j)),(false,(ysF y j).map limbs),())) _ ?_ ?_ _ 0 (Nat.zero_le _) (by show pts.length - 0<((pts.length:Int) - ((0:Nat):Int)).toNat+1; omega)
  ·intro j R hj
   have g1:(uN pts y).getD j (0,([0,0,0,0],()))=(((pts.getD j 0:Nat):Int),(limbs (y j),())):=iM hj
   have hb:=hp _ (gY hj)
   have l1:(ints (0::pts.take j)).length=j+1:=by simp [ints]; omega
   have l2:((ysF y j).map limbs).length=j+1:=by simp [ysF]
   have c1:nle ((2*(j+1+1)+512)*8) 70368744177664=true:=pG (by omega)
   have c2:nle ((2*(j+1+1)+512)*32) 70368744177664=true:=pG (by omega)
   have s1:ints (0::pts.take j)++ [((pts.getD j 0:Nat):Int)]=ints (0::pts.take (j+1)):=by
    have:=sK (f:=fun (p:Nat)=>(p:Int)) (v:=((pts.getD j 0:Nat):Int)) hj rfl
    show (0:Int)::((pts.take j).map (fun (p:Nat)=>(p:Int))++ [((pts.getD j 0:Nat):Int)])=_
    rw [this]; rfl
   have s2:(ysF y j).map limbs++ [limbs (y j)]=(ysF y (j+1)).map limbs:=by rw [Lp,List.map_append]; rfl
   have w1:IntKind.i64.wrap ((j:Int)+1)=((j+1:Nat):Int):=i64_in _ (by omega)
   simp only [bP.g0,Go.Own.lt,hsl,dK (show (j:Int)<(pts.length:Int) by omega),cond_true,dM (show (0:Int)≤(j:Int) by omega),Bool.and_self,Int.toNat_natCast,g1,ak,dH (show ¬ ((pts.getD j 0:Nat):Int)<1 by omega),cond_false,Bool.and_false,s1,s2,l1,l2,c1,c2,w1]
  ·intro R
   simp only [bP.g0,Go.Own.lt,dH (show ¬ (pts.length:Int)<(pts.length:Int) by omega),cond_false]
 rw [List.take_length] at key
 exact key
theorem Qf (h:GF gv p q g) {c0:Nat} (hc:c0<au) {F:Nat→List Nat} {n:Nat} (hn1:1≤n) (hn:n≤8) (hFq:∀ i,i<n→∀ j,(F i).getD j 0<q) {y:List Nat} (hy:∀ a∈y,a<au) (hl:y.length=n) (b:Bool):
  bP.l1 (some gv,(),(),0,(),(),jf F n,(n:Int),0,()) (limbs c0,(b,y.map limbs),(true,[]),())=(true,3,(some gv,(),(),0,(),(),jf F n,(n:Int),(n:Int),()),(limbs c0,(b,y.map limbs),(decide (n=0),(oD p q g c0 F y n).map limbs),()),((),0,()),()):=by
 have hwl:(jf F n).length=n:=by unfold jf; simp
 have hp0:0<p:=by have:=h.p1; omega
 have hq0:0<q:=by have:=h.q1; omega
 have key:bP.l1 (some gv,(),(),0,(),(),jf F n,(n:Int),((0:Nat):Int),()) (limbs c0,(b,y.map limbs),(decide (0=0),((oD p q g c0 F y n).take 0).map limbs),())=(true,3,(some gv,(),(),0,(),(),jf F n,(n:Int),(n:Int),()),(limbs c0,(b,y.map limbs),(decide (n=0),((oD p q g c0 F y n).take n).map limbs),()),((),0,()),()):=by
  have hfl:(oD p q g c0 F y n).length=n:=by unfold oD; simp
  refine bL (g:=fun rq kn ke kr x y=>bP.g1 rq kn ke kr x y) n (fun j=>(some gv,(),(),0,(),(),jf F n,(n:Int),(j:Int),())) (fun j=>(limbs c0,(b,y.map limbs),(decide (j=0),((oD p q g c0 F y n).take j).map limbs),())) _ ?_ ?_ _ 0 (Nat.zero_le _) (by show n - 0<((n:Int) - ((0:Nat):Int)).toNat+1; omega)
  ·intro j R hj
   obtain ⟨A,hA⟩:∃ A,A=(List.range n).map fun i=>(F i).getD j 0:=⟨_,rfl⟩
   have hAl:A.length=n:=by rw [hA]; simp
   have g1:(jf F n).getD j []=A.map limbs:=by
    rw [hA,List.map_map]; exact iM hj
   have g2:(A.map limbs).getD 0 [0,0,0,0]=limbs ((F 0).getD j 0):=by
    have:A.getD 0 0=(F 0).getD j 0:=by rw [hA]; exact iM (by omega)
    rw [← this]; exact getD_map (by omega)
   have hAW:∀ x∈A,x<au:=fun x hx=>by
    rw [hA] at hx
    obtain ⟨i,hi,rfl⟩:=List.mem_map.1 hx
    exact Nat.lt_trans (hFq i (List.mem_range.1 hi) j) h.qW
   have D:=SF h.fld hAW hy (by omega) (by omega)
   rw [hAl] at D
   have E1:=Oh h hc (Nat.lt_trans (hFq 0 (by omega) j) h.qW)
   have E2:=J5 h (Nat.lt_trans (JV hq0 A y n) h.qW)
   have E3:=RD h (Nat.lt_trans (Nat.mod_lt (c0^(F 0).getD j 0) hp0) h.pW) (Nat.lt_trans (Nat.mod_lt (g^uO q A y n) hp0) h.pW)
   have hv:(oD p q g c0 F y n).getD j 0=(c0^((F 0).getD j 0)%p)*(g^(uO q A y n)%p)%p:=by rw [hA]; exact iM hj
   have s1:((oD p q g c0 F y n).take j).map limbs++ [limbs ((c0^((F 0).getD j 0)%p)*(g^(uO q A y n)%p)%p)]=((oD p q g c0 F y n).take (j+1)).map limbs:=by
    rw [← hv]; exact jY (f:=limbs) (by omega)
   have c1:nle ((2*(((oD p q g c0 F y n).take j).length+1)+512)*32) 70368744177664=true:=pG (by rw [List.length_take]; omega)
   have d1:decide (j+1=0)=false:=decide_eq_false (by omega)
   have n00:((0:Int) != 0)=false:=rfl
   have w1:IntKind.i64.wrap ((j:Int)+1)=((j+1:Nat):Int):=i64_in _ (by omega)
   simp only [bP.g1,Go.Own.lt,hwl,dK (show (j:Int)<(n:Int) by omega),cond_true,dM (show (0:Int)≤(j:Int) by omega),Bool.and_self,Int.toNat_natCast,g1,ak,D,n00,cond_false,g2,List.length_map,hAl,dK (show (0:Int)<(n:Int) by omega),E1,E2,E3,Bool.and_false,s1,c1,d1,w1]
  ·intro R
   simp only [bP.g1,Go.Own.lt,dH (show ¬ (n:Int)<(n:Int) by omega),cond_false]
 have hfl:(oD p q g c0 F y n).length=n:=by unfold oD; simp
 have e:(oD p q g c0 F y n).take n=oD p q g c0 F y n:=List.take_of_length_le (by omega)
 rw [e] at key
 exact key
theorem RF (h:GF gv p q g) [NeZero q] (hs:sw q) {c0:Nat} (hc:c0<au) (hin:InG p q c0=true) {pts:List Nat} (hp:∀ p∈pts,1≤p∧p≤7) (hd:pts.Nodup) (hn:pts.length≤6) {y:Nat→Nat} (hy:∀ k,y k<au):
  ∃ F,Units q (0::pts) F∧bP.r (some gv) (limbs c0) (uN pts y)=(true,(oD p q g c0 F (ysF y pts.length) (pts.length+1)).map limbs,0):=by
 have hp7:∀ a∈(0::pts),a≤7:=fun a ha=>by
  rcases List.mem_cons.1 ha with rfl|ha
  ·omega
  ·exact (hp a ha).2
 have hnd:(0::pts).Nodup:=List.nodup_cons.2 ⟨fun h0=>by have:=hp 0 h0; omega,hd⟩
 obtain ⟨F,hU,hW⟩:=Lg h.fld hs hp7 hnd (by show pts.length+1≤8; omega)
 refine ⟨F,hU,?_⟩
 have hsl:(uN pts y).length=pts.length:=by unfold uN; simp
 have hW2:aZ.r (some gv) (ints (0::pts))=(true,jf F (pts.length+1),0):=hW
 have hwl:(jf F (pts.length+1)).length=pts.length+1:=by unfold jf; simp
 have lt_of:∀ {l:List Nat} {k:Nat},(∀ a∈l,a<q)→l.getD k 0<q:=by
  intro l k hl
  rcases Nat.lt_or_ge k l.length with h5|h5
  ·exact hl _ (gY h5)
  ·rw [jh h5]; have:=h.q1; omega
 have L1:=Qf h hc (F:=F) (n:=pts.length+1) (by omega) (by omega) (fun i hi j=>lt_of (hU.lt i hi)) (y:=ysF y pts.length) (fun a ha=>by
  unfold ysF at ha
  rcases List.mem_cons.1 ha with rfl|ha
  ·decide
  ·obtain ⟨k,_,rfl⟩:=List.mem_map.1 ha; exact hy k) (by unfold ysF; simp) false
 have I:=Qz h hc
 rw [hin] at I
 have n00:((0:Int) != 0)=false:=rfl
 simp only [bP.r,bP.g,Go.Own.lt,hsl,tF (show ¬ (7:Int)≤(pts.length:Int) by omega),cond_false,I,ak,Bool.not_true,Qg (some gv) (limbs c0) (fun a ha=>(hp a ha).1) (show pts.length≤1000 by omega) y,show Nat.beq 1 0=false from rfl,hW2,n00,hwl,L1,show Nat.beq 3 0=false from rfl]
end
end Go.Own
set_option linter.unusedVariables false
set_option linter.unusedSimpArgs false
namespace Go.Own
open Go.IntWalk
theorem Nj {q:Nat} [NeZero q] {F:Nat→List Nat} {n j:Nat} (b:List Nat):∀ m,m≤n→fz q (uO q ((List.range n).map fun i=>(F i).getD j 0) b m)=Pol.cf (yF q F b m) j
 |0,_=>by rw [show yF q F b 0= [] from rfl,Pol.jd]; exact lu
 |m+1,hm=>by
  have g:((List.range n).map fun i=>(F i).getD j 0).getD m 0=(F m).getD j 0:=iM (by omega)
  show fz q ((uO q ((List.range n).map fun i=>(F i).getD j 0) b m+((List.range n).map fun i=>(F i).getD j 0).getD m 0*b.getD m 0%q)%q)=Pol.cf (Pol.kK (yF q F b m) (Pol.pY (fz q (b.getD m 0)) (toF q (F m)))) j
  rw [mG,rX,Nj (q:=q) (F:=F) (n:=n) (j:=j) b m (by omega),mG,vG,g,Pol.gU,Pol.kT,j6]; grind
theorem Cw {q:Nat} [NeZero q] {F:Nat→List Nat} (s:Nat) (ys:List Nat) (j:Nat):∀ m,Pol.cf (yF q F (s::ys) (m+1)) j=fz q s*fz q ((F 0).getD j 0)+Pol.cf (yF q F (0::ys) (m+1)) j
 |0=>by
  show Pol.cf (Pol.kK [] (Pol.pY (fz q s) (toF q (F 0)))) j=_+Pol.cf (Pol.kK [] (Pol.pY (fz q 0) (toF q (F 0)))) j
  rw [Pol.gU,Pol.gU,Pol.kT,Pol.kT,j6,lu]; grind
 |m+1=>by
  have ih:=Cw (q:=q) (F:=F) s ys j m
  show Pol.cf (Pol.kK (yF q F (s::ys) (m+1)) (Pol.pY (fz q ((s::ys).getD (m+1) 0)) (toF q (F (m+1))))) j=_+Pol.cf (Pol.kK (yF q F (0::ys) (m+1)) (Pol.pY (fz q (((0:Nat)::ys).getD (m+1) 0)) (toF q (F (m+1))))) j
  rw [Pol.gU,Pol.gU,ih,List.getD_cons_succ,List.getD_cons_succ]; grind
section
variable {gv:dD} {p q g:Nat}
theorem AZ (h:GF gv p q g) [NeZero q] (hs:sw q) {f:List Nat} (hf:∀ a∈f,a<au) {pts:List Nat} (hp:∀ p∈pts,1≤p∧p≤7) (hd:pts.Nodup) (hn:pts.length≤6) (hfl:f.length≤pts.length+1):
  bP.r (some gv) (limbs (g^(f.getD 0 0)%p)) (uN pts fun k=>evN q f (pts.getD k 0))=(true,(toN p g f (pts.length+1)).map limbs,0):=by
 have hp0:0<p:=by have:=h.p1; omega
 have hq0:0<q:=by have:=h.q1; omega
 obtain ⟨F,hU,e⟩:=RF h hs (Nat.lt_trans (Nat.mod_lt (g^(f.getD 0 0)) hp0) h.pW) (M9 h _) hp hd hn (y:=fun k=>evN q f (pts.getD k 0)) (fun k=>Nat.lt_trans (Ao hq0 f _) h.qW)
 rw [e]
 obtain ⟨n,hnn⟩:∃ n,n=pts.length+1:=⟨_,rfl⟩
 have hpl:(0::pts).length=n:=hnn.symm
 have hp7:∀ a∈(0::pts),a≤7:=fun a ha=>by
  rcases List.mem_cons.1 ha with rfl|ha
  ·omega
  ·exact (hp a ha).2
 have hnd:(0::pts).Nodup:=List.nodup_cons.2 ⟨fun h0=>by have:=hp 0 h0; omega,hd⟩
 have hapart:=CK h.q1 h.qW hs hp7 hnd
 obtain ⟨ys,hys⟩:∃ ys,ys=(List.range pts.length).map fun k=>evN q f (pts.getD k 0):=⟨_,rfl⟩
 have hysF:ysF (fun k=>evN q f (pts.getD k 0)) pts.length=0::ys:=by rw [hys]; rfl
 have hPE:Pol.PE (yF q F (f.getD 0 0::ys) n) (toF q f):=Es hapart (by
   rw [hpl]
   have:=Gd (q:=q) (ys:=f.getD 0 0::ys) n (fun i hi=>hU.len i (by rw [hpl]; exact hi))
   rw [hpl] at this; exact this) (by unfold toF; rw [List.length_map,hpl]; omega) (fun k hk=>by
  rw [hpl] at hk
  rw [JR hU _ (by rw [hpl]; exact hk) n (by rw [hpl]; exact Nat.le_refl _),if_pos hk,← vH]
  cases k with
  |zero=>
   rw [List.getD_cons_zero,List.getD_cons_zero,vH]
   cases f with
   |nil=>rfl
   |cons a f=>
    show fz q a=Pol.ev (toF q f) (fz q 0)*fz q 0+fz q a
    rw [lu]; grind
  |succ k=>
   rw [List.getD_cons_succ,List.getD_cons_succ,hys]
   rw [iM (show k<pts.length by omega)])
 congr 2
 rw [hysF,← hnn]
 unfold oD toN
 congr 1
 apply List.map_congr_left
 intro j hj
 obtain ⟨w,hw⟩:∃ w,w=(F 0).getD j 0:=⟨_,rfl⟩
 obtain ⟨d,hdd⟩:∃ d,d=uO q ((List.range n).map fun i=>(F i).getD j 0) (0::ys) n:=⟨_,rfl⟩
 rw [← hw,← hdd]
 have e1:(g^f.getD 0 0%p)^w%p*(g^d%p)%p=g^(f.getD 0 0*w+d)%p:=by
  rw [← Nat.pow_mod,← Nat.pow_mul,← Nat.mul_mod,← Nat.pow_add]
 rw [e1]
 apply Mr h
 apply Ns
 have h1:=hPE j
 have h2:=Nj (q:=q) (F:=F) (j:=j) (0::ys) n (Nat.le_refl n)
 have h3:=Cw (q:=q) (F:=F) (f.getD 0 0) ys j pts.length
 rw [← hnn] at h3
 rw [← hdd] at h2
 rw [rX,vG,h2,hw,← h3,h1,j6]
end
theorem JN:∃ gv,GF gv fu jc bM∧iw.r (jM.map dW,(limbs bM,()))=(true,1,(none,0),(0,gv)):=by
 obtain ⟨gv,h,e⟩:=Ik
 have h1:Nat.blt jc (2^256)=true:=by kernel_rfl
 have h2:vY 256 bM jc fu=1:=by kernel_rfl
 exact ⟨gv,⟨h,by decide,by decide,by decide,by decide,by decide,(nJ 256 _ _ _ (kg h1)).symm.trans h2⟩,e⟩
theorem JM:∃ gv,GF gv ol kS ic∧iw.r (jL.map dW,(limbs ic,()))=(true,1,(none,0),(0,gv)):=by
 obtain ⟨gv,h,e⟩:=Ij
 have h1:Nat.blt kS (2^256)=true:=by kernel_rfl
 have h2:vY 256 ic kS ol=1:=by kernel_rfl
 exact ⟨gv,⟨h,by decide,by decide,by decide,by decide,by decide,(nJ 256 _ _ _ (kg h1)).symm.trans h2⟩,e⟩
theorem Pt:∃ gv,GF gv vg pE kI∧iw.r (nC.map dW,(limbs kI,()))=(true,1,(none,0),(0,gv)):=by
 obtain ⟨gv,h,e⟩:=Il
 have h1:Nat.blt pE (2^256)=true:=by kernel_rfl
 have h2:vY 256 kI pE vg=1:=by kernel_rfl
 exact ⟨gv,⟨h,by decide,by decide,by decide,by decide,by decide,(nJ 256 _ _ _ (kg h1)).symm.trans h2⟩,e⟩
end Go.Own
set_option linter.unusedVariables false
set_option linter.unusedSimpArgs false
namespace Go.Own
open Go.IntWalk
theorem Og:jV.r (jM.map dW,(limbs bM,()))=(true,limbs fu):=by kernel_rfl
theorem Od:jV.r (jL.map dW,(limbs ic,()))=(true,limbs ol):=by kernel_rfl
theorem Ol:eO.r (jM.map dW,(limbs bM,()))=(true,((fu:Int),((jc:Int),((bM:Int),())))):=by
 have l1:=CO fu (by decide)
 have l2:=CO jc (by decide)
 have l3:=CO bM (by decide)
 rw [if_pos (by decide)] at l1 l2 l3
 simp only [eO.r,eO.g,Go.Own.lt,Og,Ob,l1,l2,l3,ak]
theorem Oj:eO.r (jL.map dW,(limbs ic,()))=(true,((ol:Int),((kS:Int),((ic:Int),())))):=by
 have l1:=CO ol (by decide)
 have l2:=CO kS (by decide)
 have l3:=CO ic (by decide)
 rw [if_pos (by decide)] at l1 l2 l3
 simp only [eO.r,eO.g,Go.Own.lt,Od,Oa,l1,l2,l3,ak]
theorem Km (which:Int):∃ gv,(GF gv fu jc bM∧dF.r which=(true,some gv,((fu:Int),((jc:Int),((bM:Int),()))),true))∨(GF gv ol kS ic∧dF.r which=(true,some gv,((ol:Int),((kS:Int),((ic:Int),()))),true)∧(eP .i64 (· &&& ·) which (1:Int)== 1)=true):=by
 obtain ⟨g1,h1,e1⟩:=JN
 obtain ⟨g2,h2,e2⟩:=JM
 have z:((0:Int)== 0)=true:=rfl
 obtain ⟨b,hb⟩:∃ b,b=(eP .i64 (· &&& ·) which (1:Int)== 1):=⟨_,rfl⟩
 cases b with
 |true=>
  refine ⟨g2,.inr ⟨h2,?_,hb.symm⟩⟩
  simp only [dF.r,dF.g,fO.r,fO.g,Go.Own.lt,← hb,cond_true,eU.fE,J6,ak,e2,show Nat.beq 1 0=false from rfl,cond_false,Oj,z]
 |false=>
  refine ⟨g1,.inl ⟨h1,?_⟩⟩
  simp only [dF.r,dF.g,fO.r,fO.g,Go.Own.lt,← hb,cond_false,eX.fE,J8,ak,e1,show Nat.beq 1 0=false from rfl,Ol,z]
theorem zI (n:Nat) (h:n<9223372036854775808):bI.r (n:Int)=(true,limbs n):=by
 have:=SA (n:Int) (by omega)
 simp only [bI.r,bI.g,Go.Own.lt,this,ak,Int.toNat_natCast]
theorem OM:Nat.beq (bM^11%fu) (atN fu (toN fu bM [5,2] 2) 3)=true:=by kernel_rfl
theorem OL:Nat.beq (bM^12%fu) (atN fu (toN fu bM [5,2] 2) 3)=false:=by kernel_rfl
theorem QH:Nat.beq (atN fu (toN fu bM [5,2] 2) 0) (bM^5%fu)=true:=by kernel_rfl
theorem Sg:Nat.beq (evN jc [5,2] 3) 11=true:=by kernel_rfl
theorem Le:bR.r=(true,true):=by
 obtain ⟨gv,hc⟩:=Km 0
 have hb0:(eP .i64 (· &&& ·) (0:Int) (1:Int)== 1)=false:=by kernel_rfl
 rcases hc with ⟨h,hs⟩|⟨_,_,hb⟩
 case inr=>rw [hb0] at hb; cases hb
 have hne:NeZero jc:=⟨by decide⟩
 have o5:bI.r 5=(true,limbs 5):=zI 5 (by decide)
 have o2:bI.r 2=(true,limbs 2):=zI 2 (by decide)
 have o11:bI.r 11=(true,limbs 11):=zI 11 (by decide)
 have o12:bI.r 12=(true,limbs 12):=zI 12 (by decide)
 have hf:∀ a∈ [5,2],a<au:=by decide
 obtain ⟨C,hC⟩:∃ C,C=toN fu bM [5,2] 2:=⟨_,rfl⟩
 have T:fG.r (some gv) [limbs 5,limbs 2] 2=(true,C.map limbs,0):=by
  rw [hC]
  exact Sm h hf (n:=2) (by decide) (by decide) (by decide) (Ew _ _)
 have hCl:C.length=2:=by rw [hC]; exact Jf
 have hCp:∀ a∈C,a<fu:=by rw [hC]; exact QI h
 have hCW:∀ a∈C,a<au:=fun a ha=>Nat.lt_trans (hCp a ha) h.pW
 have hCi:∀ a∈C,InG fu jc a=true:=by rw [hC]; exact Q9 h _ _
 have g0:(C.map limbs).getD 0 [0,0,0,0]=limbs (bM^5%fu):=by
  have:C.getD 0 0=bM^5%fu:=by rw [hC]; rfl
  rw [← this]; exact getD_map (by omega)
 have Fr:bP.r (some gv) (limbs (bM^5%fu)) [(3,(limbs 11,()))]=(true,C.map limbs,0):=by
  have:=AZ h uS hf (pts:= [3]) (by decide) (by decide) (by decide) (by decide)
  have e:uN [3] (fun k=>evN jc [5,2] ([3].getD k 0))= [(3,(limbs 11,()))]:=by
   show [((3:Int),(limbs (evN jc [5,2] 3),()))]=_
   rw [Nat.eq_of_beq_eq_true Sg]
  rw [e] at this
  rw [hC]; exact this
 have H11:iF.r (some gv) (C.map limbs) (3,(limbs 11,()))=(true,true):=by
  have:=Ka h hCW (by omega) (by omega) hCi (i:=3) (y:=11) (by decide) (by decide) (by decide)
  rw [decide_eq_true (by rw [hC]; exact Nat.eq_of_beq_eq_true OM)] at this
  exact this
 have H12:iF.r (some gv) (C.map limbs) (3,(limbs 12,()))=(true,false):=by
  have:=Ka h hCW (by omega) (by omega) hCi (i:=3) (y:=12) (by decide) (by decide) (by decide)
  rw [decide_eq_false (by rw [hC]; intro e; have:=OL; rw [e] at this; simp at this)] at this
  exact this
 have A0:gM.r (some gv) (C.map limbs) 0=(true,limbs (bM^5%fu)):=by
  have:=SG h hCW (by omega) (i:=0) (by decide)
  rw [hC,Nat.eq_of_beq_eq_true QH,← hC] at this
  exact this
 have M:=QD h hCW (by omega) (by omega) hCi
 have E:gB.r ((fu:Int),((jc:Int),((bM:Int),()))) (bM:Int) (limbs 5)=(true,((bM^5%fu:Nat):Int)):=by
  simp only [gB.r,gB.g,Go.Own.lt,N9 bM 5 fu (by decide) (by decide) (by decide),ak]
 have hx:bM^5%fu<fu:=Nat.mod_lt _ (by decide)
 have hpL:fu<9223372036854775808:=by decide
 have oX:=zI (bM^5%fu) (by omega)
 have hxW:bM^5%fu<au:=Nat.lt_trans hx h.pW
 have EQ:=eqL hxW hxW
 rw [decide_eq_true rfl] at EQ
 have S:=Gv (C.map limbs) (by rw [List.length_map]; omega)
 generalize bM^5%fu=X at*
 have n00:((0:Int) != 0)=false:=rfl
 have z00:((0:Int)== 0)=true:=rfl
 have n22:(((2:Nat):Int) != 2)=false:=rfl
 have i02:ilt (0:Int) ((2:Nat):Int)=true:=rfl
 simp only [bR.r,bR.g,Go.Own.lt,dF.fE,hs,bI.fE,o5,o2,o11,o12,fG.fE,T,ak,Bool.not_true,cond_false,n00,List.length_map,hCl,n22,g0,i02,bP.fE,Fr,iF.fE,H11,cond_true,H12,Bool.not_false,bD.fE,S,z00,gM.fE,A0,gB.fE,E,oX,EQ,jO.fE,M]
end Go.Own
