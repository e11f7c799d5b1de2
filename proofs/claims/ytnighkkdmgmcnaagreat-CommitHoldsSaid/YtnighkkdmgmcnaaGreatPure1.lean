/- What is proved: what the printed functions answer, in plain numbers and lists. Conditions: those that each theorem names. -/
import Derived.Test.YtnighkkdmgmcnaaGreatPure0
import Derived.Test.YtnighkkdmgmcnaaGreatG9
set_option linter.unusedVariables false
set_option linter.unusedSimpArgs false
set_option linter.unusedVariables false
set_option linter.unusedSimpArgs false
namespace Go.Own
open Go.IntWalk
def Rq (n f w:Nat):Bool:=Nat.beq (n%2) 1&&Nat.blt 1 n&&Nat.blt n au&&Nat.blt 0 f&&Nat.blt f au&&Nat.ble 2 w&&Nat.blt w 65536&&Nat.beq ((n - 1)%f) 0&&Nat.blt n (f*f)&&Nat.beq (y8 256 (y8 256 w ((n - 1)/f) n) f n) 1&&Nat.beq (Nat.gcd ((y8 256 w ((n - 1)/f) n+(n - 1))%n) n) 1
theorem ni {a b:Nat} (h:Nat.blt a b=true):a<b:=Nat.le_of_ble_eq_true h
theorem ru {n f w:Nat} (h:Rq n f w=true):EI n f w:=by
 unfold Rq at h
 simp only [Bool.and_eq_true] at h
 obtain ⟨⟨⟨⟨⟨⟨⟨⟨⟨⟨h1,h2⟩,h3⟩,h4⟩,h5⟩,h6⟩,h7⟩,h8⟩,h9⟩,h10⟩,h11⟩:=h
 have h3:=ni h3; have h5:=ni h5
 have e:(2:Nat)^256=au:=vI.symm
 have hq:(n - 1)/f<2^256:=by rw [e]; exact Nat.lt_of_le_of_lt (Nat.div_le_self _ _) (Nat.lt_of_le_of_lt (Nat.sub_le _ _) h3)
 have h10:=Nat.eq_of_beq_eq_true h10; have h11:=Nat.eq_of_beq_eq_true h11
 rw [qI 256 _ _ _ hq,qI 256 _ _ _ (by rw [e]; exact h5)] at h10
 rw [qI 256 _ _ _ hq] at h11
 exact ⟨Nat.eq_of_beq_eq_true h1,ni h2,h3,ni h4,h5,Nat.le_of_ble_eq_true h6,ni h7,Nat.eq_of_beq_eq_true h8,ni h9,h10,h11⟩
abbrev d9:Type:=((Option aJ)×((Option aJ)×Unit))×((List Int)×Unit)
def Grp (gv:d9) (p q g:Nat):Prop:=∃ rp rq i1 i2,gv=((rp,(rq,())),(limbs g,()))∧Rng rp p i1 (au%p) (au*au%p)∧Rng rq q i2 (au%q) (au*au%q)
theorem KJ {ps:List (Nat×Nat)} {g p q w:Nat} (h2:2≤ps.length) (h8:ps.length≤8) (hc:fV.r (ps.map gq)=(true,0)) (hpp:p=(ps.getD (ps.length - 1) (0,0)).1) (hqq:q=(ps.getD (ps.length - 2) (0,0)).1)
  (hp:EI p q w) (hqo:q%2=1) (hql:10≤bR q) (hg:g<p) (hg1:1<g) (hpow:g^q%p=1):
  ∃ gv,Grp gv p q g∧kG.r (ps.map gq,(limbs g,()))=(true,1,(none,0),(0,gv)):=by
 have hpl:=hp.lt
 have hq1:1<q:=by
  rcases Nat.lt_or_ge 1 q with h|h
  ·exact h
  ·have:bR q≤1:=by
    have:q=0∨q=1:=by omega
    rcases this with rfl|rfl<;>decide
   omega
 obtain ⟨rp,i1,hR,hN⟩:=Pj p hpl hp.odd hp.gt
 obtain ⟨rq,i2,hR2,hN2⟩:=Pj q hp.flt hqo hq1
 have n1:dM.r 1=(true,limbs 1):=by rw [si _ (by decide)]; rfl
 have e0:((0:Int) != 0)=false:=rfl
 have g1:(ps.map gq).getD (ps.length - 1) ([0,0,0,0],(0,()))=gq (ps.getD (ps.length - 1) (0,0)):=getD_map (by omega)
 have g2:(ps.map gq).getD (ps.length - 2) ([0,0,0,0],(0,()))=gq (ps.getD (ps.length - 2) (0,0)):=getD_map (by omega)
 have w1:IntKind.i64.wrap ((ps.length:Int) - 1)=((ps.length - 1:Nat):Int):=by rw [i64_in _ (by omega)]; omega
 have w2:IntKind.i64.wrap ((ps.length:Int) - 2)=((ps.length - 2:Nat):Int):=by rw [i64_in _ (by omega)]; omega
 have hgW:g<au:=Nat.lt_trans hg hpl
 refine ⟨((rp,(rq,())),(limbs g,())),⟨rp,rq,i1,i2,rfl,hR,hR2⟩,?_⟩
 have i1:(ile 0 ((ps.length - 1:Nat):Int)&&ilt ((ps.length - 1:Nat):Int) (ps.length:Int))=true:=rng (by omega)
 have i2:(ile 0 ((ps.length - 2:Nat):Int)&&ilt ((ps.length - 2:Nat):Int) (ps.length:Int))=true:=rng (by omega)
 simp only [kG.r,kG.g,lt,List.length_map,dJ (show ¬ (ps.length:Int)<2 by omega),cond_false,hc,aj,e0,w1,w2,i1,i2,Int.toNat_natCast,g1,g2,Ao,← hpp,← hqq,hN,hN2,Pg q hp.flt,dJ (show ¬ (bR q:Int)<10 by omega),eqZ hgW,decide_eq_false (show ¬ g=0 by omega),n1,eqL hgW (show 1<au by decide),decide_eq_false (show ¬ g=1 by omega),Rj hR hgW,hg,decide_true,Bool.not_true,HV hR hgW hp.flt,hpow,eqL (show 1<au by decide) (show 1<au by decide)]
def kU:List (Nat×Nat):= [(65521,0),(1966023127,2),(1055500680322183127,2)]
def dh:Nat:=316543771439780984
def fM:Nat:=1055500680322183127
def jr:Nat:=1966023127
theorem Js:fV.r (kU.map gq)=(true,0):=by
 refine KM (by decide) (by decide) (by decide) (by kernel_rfl) rfl ?_
 intro i hi
 have:i=0∨i=1:=by
  have:i+1<3:=hi
  omega
 rcases this with rfl|rfl
 ·exact ru (by kernel_rfl)
 ·exact ru (by kernel_rfl)
theorem I7:∃ gv,Grp gv fM jr dh∧kG.r (kU.map gq,(limbs dh,()))=(true,1,(none,0),(0,gv)):=by
 have h1:Nat.blt jr (2^256)=true:=by kernel_rfl
 have h2:y8 256 dh jr fM=1:=by kernel_rfl
 have hpow:dh^jr%fM=1:=(qI 256 _ _ _ (ni h1)).symm.trans h2
 have h3:Nat.blt dh fM=true:=by kernel_rfl
 have h4:Nat.blt 1 dh=true:=by kernel_rfl
 have h5:Nat.ble 10 (bR jr)=true:=by kernel_rfl
 have h6:jr%2=1:=by kernel_rfl
 exact KJ (ps:=kU) (p:=fM) (q:=jr) (w:=2) (by decide) (by decide) Js (by kernel_rfl) (by kernel_rfl) (ru (by kernel_rfl)) h6 (Nat.le_of_ble_eq_true h5) (ni h3) (ni h4) hpow
def kT:List (Nat×Nat):= [(64817,0),(1815135269,2),(487269091447081429,2)]
def iM:Nat:=54624333139524128
def oM:Nat:=487269091447081429
def lD:Nat:=1815135269
theorem Jr:fV.r (kT.map gq)=(true,0):=by
 refine KM (by decide) (by decide) (by decide) (by kernel_rfl) rfl ?_
 intro i hi
 have:i=0∨i=1:=by
  have:i+1<3:=hi
  omega
 rcases this with rfl|rfl
 ·exact ru (by kernel_rfl)
 ·exact ru (by kernel_rfl)
theorem I6:∃ gv,Grp gv oM lD iM∧kG.r (kT.map gq,(limbs iM,()))=(true,1,(none,0),(0,gv)):=by
 have h1:Nat.blt lD (2^256)=true:=by kernel_rfl
 have h2:y8 256 iM lD oM=1:=by kernel_rfl
 have hpow:iM^lD%oM=1:=(qI 256 _ _ _ (ni h1)).symm.trans h2
 have h3:Nat.blt iM oM=true:=by kernel_rfl
 have h4:Nat.blt 1 iM=true:=by kernel_rfl
 have h5:Nat.ble 10 (bR lD)=true:=by kernel_rfl
 have h6:lD%2=1:=by kernel_rfl
 exact KJ (ps:=kT) (p:=oM) (q:=lD) (w:=2) (by decide) (by decide) Jr (by kernel_rfl) (by kernel_rfl) (ru (by kernel_rfl)) h6 (Nat.le_of_ble_eq_true h5) (ni h3) (ni h4) hpow
end Go.Own
set_option linter.unusedVariables false
set_option linter.unusedSimpArgs false
namespace Go.Own
open Go.IntWalk
structure Fld (gx:Option d9) (q:Nat):Prop where
 ex:∃ gv rq inv,gx=some gv∧gv.1.2.1=rq∧Rng rq q inv (au%q) (au*au%q)
theorem Grp.fld {gv:d9} {p q g:Nat} (h:Grp gv p q g):Fld (some gv) q:=by
 obtain ⟨rp,rq,i1,i2,rfl,_,h2⟩:=h
 exact ⟨_,rq,i2,rfl,rfl,h2⟩
theorem Rng.wQ {rx m inv one sq} (h:Rng rx m inv one sq):rx.isNone=false:=by rw [h.eq]; rfl
theorem Fld.field {gx:Option d9} {q:Nat} (h:Fld gx q):∃ rq inv,Rng rq q inv (au%q) (au*au%q)∧bA.r gx=(true,rq):=by
 obtain ⟨gv,rq,inv,rfl,e,hR⟩:=h.ex
 refine ⟨rq,inv,hR,?_⟩
 simp only [bA.r,bA.g,lt,Option.isNone_some,cond_false,Option.getD_some,Option.isSome_some,aj,e]
theorem Fld.gt {gx:Option d9} {q:Nat} (h:Fld gx q):1<q:=by obtain ⟨rq,inv,hR,_⟩:=h.field; exact hR.gt
theorem Fld.lt {gx:Option d9} {q:Nat} (h:Fld gx q):q<au:=by obtain ⟨rq,inv,hR,_⟩:=h.field; exact hR.lt
theorem Rm {gx:Option d9} {q:Nat} (h:Fld gx q):fZ.r gx=(true,limbs q):=by
 obtain ⟨rq,inv,hR,hF⟩:=h.field
 simp only [fZ.r,fZ.g,Go.Own.lt,hF,aj,UI hR]
theorem BA {gx:Option d9} {q:Nat} (h:Fld gx q) {a b:Nat} (ha:a<au) (hb:b<au):gZ.r gx (limbs a) (limbs b)=(true,limbs ((a+b)%q)):=by
 have:=h.gt
 simp only [gZ.r,gZ.g,Go.Own.lt,Rm h,aj,PG a b q ha hb h.lt (by omega)]
theorem Py {gx:Option d9} {q:Nat} (h:Fld gx q) {a b:Nat} (ha:a<au) (hb:b<au):mO.r gx (limbs a) (limbs b)=(true,limbs ((a%q+(q - b%q))%q)):=by
 have:=h.gt
 simp only [mO.r,mO.g,Go.Own.lt,Rm h,aj,Bt a b q ha hb h.lt (by omega)]
theorem Bz {gx:Option d9} {q:Nat} (h:Fld gx q) {a b:Nat} (ha:a<au) (hb:b<au):gY.r gx (limbs a) (limbs b)=(true,limbs (a*b%q)):=by
 obtain ⟨rq,inv,hR,hF⟩:=h.field
 simp only [gY.r,gY.g,Go.Own.lt,hF,aj,JF hR ha hb]
theorem Tw {gx:Option d9} {q:Nat} (h:Fld gx q) {a:Nat} (ha:a<au) (hg:Nat.gcd a q=1):∃ s,Ps a q s∧pJ.r gx (limbs a)=(true,limbs s):=by
 have h1:=h.gt
 rcases Hw a q ha h.lt (by omega) with ⟨_,s,hs,e⟩|⟨hn,_⟩
 ·refine ⟨s,hs,?_⟩
  have e0:((0:Int) != 0)=false:=rfl
  simp only [pJ.r,pJ.g,Go.Own.lt,Rm h,aj,e,e0,cond_false]
 ·exact absurd hg hn
theorem fold_map {gx:Option d9} {q:Nat} (h:Fld gx q) {x:Nat} (hx:x<au):∀ (l:List Nat) (w:Nat),w<au→(∀ a∈l,a<au)→(l.map limbs).foldl (jy.step gx (limbs x)) (true,limbs w)=(true,limbs (l.foldl (fun w a=>(w*x%q+a)%q) w))
 | [],w,_,_=>rfl
 |a::l,w,hw,hl=>by
  have h0:0<q:=by have:=h.gt; omega
  have h1:w*x%q<au:=Nat.lt_trans (Nat.mod_lt _ h0) h.lt
  have h2:(w*x%q+a)%q<au:=Nat.lt_trans (Nat.mod_lt _ h0) h.lt
  have e:jy.step gx (limbs x) (true,limbs w) (limbs a)=(true,limbs ((w*x%q+a)%q)):=by
   simp only [jy.step,Go.Own.lt,Bz h hw hx,BA h h1 (hl a (by simp)),Bool.and_self]
  show (l.map limbs).foldl _ (jy.step gx (limbs x) (true,limbs w) (limbs a))=_
  rw [e,fold_map h hx l _ h2 fun b hb=>hl b (by simp [hb])]
  rfl
def evN (q:Nat) (f:List Nat) (x:Nat):Nat:=f.foldr (fun a w=>(w*x%q+a)%q) 0
theorem NG {f:List Nat}:∀ (l:List (List Int)),(∀ a∈l,a∈f.map limbs)→∃ l':List Nat,l=l'.map limbs∧∀ a∈l',a∈f
 | [],_=>⟨[],rfl,by simp⟩
 |a::l,h=>by
  obtain ⟨l',rfl,h2⟩:=NG l fun b hb=>h b (by simp [hb])
  obtain ⟨b,hb,rfl⟩:=List.mem_map.1 (h a (by simp))
  refine ⟨b::l',rfl,?_⟩
  intro c hc
  rcases List.mem_cons.1 hc with rfl|hc
  ·exact hb
  ·exact h2 c hc
theorem Pz {gx:Option d9} {q:Nat} (h:Fld gx q) {f:List Nat} {x:Nat} (hf:∀ a∈f,a<au) (hl:f.length≤9223372036854775807) (hx:x<au):jy.r gx (f.map limbs) (limbs x)=(true,limbs (evN q f x)):=by
 unfold jy.r
 have fo:∀ l':List Nat,(∀ a∈l',a∈f)→jy.fold gx (limbs x) (l'.map limbs)=(true,limbs (l'.foldl (fun w a=>(w*x%q+a)%q) 0)):=by
  intro l' hl'
  have:=fold_map h hx l' 0 (by decide) fun a ha=>hf a (hl' a ha)
  rw [eG] at this
  exact this
 refine Prod.ext ?_ ?_
 ·refine @decide_eq_true _ (Classical.propDecidable _) ⟨by rw [List.length_map]; exact hl,?_⟩
  intro l hm
  obtain ⟨l',rfl,h2⟩:=NG l hm
  rw [fo l' h2]
 ·show (jy.fold gx (limbs x) (f.map limbs).reverse).2=_
  rw [← List.map_reverse,fo f.reverse fun a ha=>List.mem_reverse.1 ha,List.foldl_reverse]
  rfl
theorem A8 {q:Nat} (hq:0<q) (f:List Nat) (x:Nat):evN q f x<q:=by
 cases f with
 |nil=>exact hq
 |cons a f=>exact Nat.mod_lt _ hq
theorem KE {a:Nat} (ha:a<au):mJ.r (limbs a)=(true,decide (a=0)):=by
 simp only [mJ.r,mJ.g,lt,eqZ ha]
def jE (f:List Nat) (k:Int):Nat:=if k<0 then 0 else f.getD k.toNat 0
theorem xq {f:List Nat} (hf:∀ a∈f,a<au) (k:Int):jE f k<au:=by
 unfold jE
 split
 ·decide
 ·rcases Nat.lt_or_ge k.toNat f.length with h|h
  ·exact hf _ (fF h)
  ·rw [List.getD_eq_getElem?_getD,List.getElem?_eq_none h]; decide
theorem Pd (f:List Nat) (k:Int):nu.r (f.map limbs) k=(true,limbs (jE f k)):=by
 simp only [nu.r,nu.g,lt,List.length_map]
 unfold jE
 by_cases h0:k<0
 ·rw [if_pos h0,cK h0,eG]; rfl
 ·rw [if_neg h0,dJ h0]
  by_cases h1:(f.length:Int)≤k
  ·have z:f.getD k.toNat 0=0:=by rw [List.getD_eq_getElem?_getD,List.getElem?_eq_none (by omega)]; rfl
   rw [z,eG,bJ h1]; rfl
  ·have g1:(f.map limbs).getD k.toNat [0,0,0,0]=limbs (f.getD k.toNat 0):=getD_map (by omega)
   simp only [lQ h1,cond_false,g1,bJ (show (0:Int)≤k by omega),cK (show k<(f.length:Int) by omega),Bool.and_self,aj]
end Go.Own
set_option linter.unusedVariables false
set_option linter.unusedSimpArgs false
namespace Go.Own.Pol
section
variable {F:Type} [Lean.Grind.CommRing F]
def cf (l:List F) (n:Nat):F:=l.getD n 0
def ev (l:List F) (x:F):F:=l.foldr (fun a s=>s*x+a) 0
def PE (a b:List F):Prop:=∀ n,cf a n=cf b n
theorem PE.rfl' {a:List F}:PE a a:=fun _=>rfl
theorem PE.symm {a b:List F} (h:PE a b):PE b a:=fun n=>(h n).symm
theorem PE.trans {a b c:List F} (h:PE a b) (h2:PE b c):PE a c:=fun n=>(h n).trans (h2 n)
theorem jv (n:Nat):cf ([]:List F) n=0:=by simp [cf]
theorem lW (a:F) (l:List F):cf (a::l) 0=a:=rfl
theorem jq (a:F) (l:List F) (n:Nat):cf (a::l) (n+1)=cf l n:=by simp [cf]
theorem Kq {l:List F} {x:F} (h:∀ n,cf l n=0):ev l x=0:=by
 induction l with
 |nil=>rfl
 |cons a l ih=>
  have h0:=h 0
  rw [lW] at h0
  have:=ih fun n=>by have:=h (n+1); rwa [jq] at this
  show ev l x*x+a=0
  rw [this,h0]; grind
theorem A7:∀ {a b:List F} {x:F},PE a b→ev a x=ev b x
 | [],b,x,h=>by rw [Kq (l:=b) fun n=>by rw [← h n,jv]]; rfl
 |a::al,[],x,h=>by rw [Kq (l:=a::al) fun n=>by rw [h n,jv]]; rfl
 |a::al,b::bs,x,h=>by
  have h0:a=b:=h 0
  have ih:=A7 (a:=al) (b:=bs) (x:=x) fun n=>by have:=h (n+1); rwa [jq,jq] at this
  show ev al x*x+a=ev bs x*x+b
  rw [ih,h0]
def kW:List F→List F→List F
 | [],b=>b
 |a::al,[]=>a::al
 |a::al,b::bs=>(a+b)::kW al bs
theorem iA:∀ (a b:List F) (n:Nat),cf (kW a b) n=cf a n+cf b n
 | [],b,n=>by rw [jv]; simp only [kW]; grind
 |a::al,[],n=>by rw [jv]; simp only [kW]; grind
 |a::al,b::bs,0=>rfl
 |a::al,b::bs,n+1=>by simp only [kW,jq]; exact iA al bs n
theorem yo:∀ (a b:List F) (x:F),ev (kW a b) x=ev a x+ev b x
 | [],b,x=>by show ev b x=0+ev b x; grind
 |a::al,[],x=>by show ev (a::al) x=ev (a::al) x+0; grind
 |a::al,b::bs,x=>by
  have:=yo al bs x
  show ev (kW al bs) x*x+(a+b)=(ev al x*x+a)+(ev bs x*x+b)
  rw [this]; grind
def qE (c:F) (l:List F):List F:=l.map (c* ·)
theorem lG (c:F):∀ (l:List F) (n:Nat),cf (qE c l) n=c*cf l n
 | [],n=>by rw [jv]; show cf ([]:List F) n=_; rw [jv]; grind
 |a::l,0=>rfl
 |a::l,n+1=>by
  rw [jq,← lG c l n]
  exact jq _ _ _
theorem Ep (c:F) (x:F):∀ (l:List F),ev (qE c l) x=c*ev l x
 | []=>by show (0:F)=c*0; grind
 |a::l=>by
  have:=Ep c x l
  show ev (qE c l) x*x+c*a=c*(ev l x*x+a)
  rw [this]; grind
def Ml (a:F) (l:List F):List F:=kW (0::l) (qE (-a) l)
theorem mZ (a:F) (l:List F):cf (Ml a l) 0= -a*cf l 0:=by
 unfold Ml; rw [iA,lG,lW]; grind
theorem kV (a:F) (l:List F) (n:Nat):cf (Ml a l) (n+1)=cf l n - a*cf l (n+1):=by
 unfold Ml; rw [iA,lG,jq]; grind
theorem UA (a:F) (l:List F) (x:F):ev (Ml a l) x=(x - a)*ev l x:=by
 unfold Ml; rw [yo,Ep]
 show (ev l x*x+0)+_=_
 grind
theorem PE.M {a:F} {u v:List F} (h:PE u v):PE (Ml a u) (Ml a v):=by
 intro n
 cases n with
 |zero=>rw [mZ,mZ,h 0]
 |succ n=>rw [kV,kV,h n,h (n+1)]
theorem PE.add {a b c d:List F} (h:PE a b) (h2:PE c d):PE (kW a c) (kW b d):=fun n=>by rw [iA,iA,h n,h2 n]
theorem Uj (a:F) (u v:List F):PE (Ml a (kW u v)) (kW (Ml a u) (Ml a v)):=by
 intro n
 cases n with
 |zero=>rw [iA,mZ,mZ,mZ,iA]; grind
 |succ n=>rw [iA,kV,kV,kV,iA,iA]; grind
theorem Ui (a c:F) (u:List F):PE (Ml a (qE c u)) (qE c (Ml a u)):=by
 intro n
 cases n with
 |zero=>rw [lG,mZ,mZ,lG]; grind
 |succ n=>rw [lG,kV,kV,lG,lG]; grind
theorem M_M (a b:F) (u:List F):PE (Ml a (Ml b u)) (Ml b (Ml a u)):=by
 intro n
 match n with
 |0=>rw [mZ,mZ,mZ,mZ]; grind
 |1=>rw [kV a (Ml b u) 0,mZ b u,kV b u 0,kV b (Ml a u) 0,mZ a u,kV a u 0]; grind
 |n+2=>rw [kV,kV,kV,kV,kV,kV]; grind
def TL (xs:List F) (h:List F):List F:=xs.foldr Ml h
theorem PE.T {u v:List F} (h:PE u v):∀ {xs:List F},PE (TL xs u) (TL xs v)
 | []=>h
 |_::_=>(PE.T h).M
theorem EH (xs:List F) (a:F) (h:List F):TL (xs++ [a]) h=TL xs (Ml a h):=by
 unfold TL; rw [List.foldr_append]; rfl
theorem RG:∀ (xs:List F) (u v:List F),PE (TL xs (kW u v)) (kW (TL xs u) (TL xs v))
 | [],u,v=>PE.rfl'
 |x::xs,u,v=>(RG xs u v).M.trans (Uj _ _ _)
theorem RF (c:F):∀ (xs:List F) (u:List F),PE (TL xs (qE c u)) (qE c (TL xs u))
 | [],u=>PE.rfl'
 |x::xs,u=>(RF c xs u).M.trans (Ui _ _ _)
theorem T_M (a:F):∀ (xs:List F) (u:List F),PE (TL xs (Ml a u)) (Ml a (TL xs u))
 | [],u=>PE.rfl'
 |x::xs,u=>(T_M a xs u).M.trans (M_M _ _ _)
def tY (xs:List F) (x:F):F:=xs.foldr (fun a s=>(x - a)*s) 1
theorem LK (x:F):∀ (xs:List F) (h:List F),ev (TL xs h) x=tY xs x*ev h x
 | [],h=>by show ev h x=1*ev h x; grind
 |a::xs,h=>by
  show ev (Ml a (TL xs h)) x=(x - a)*tY xs x*ev h x
  rw [UA,LK x xs h]; grind
def dv (a:F):List F→List F
 | []=> []
 | [_]=> []
 |_::b::t=>ev (b::t) a::dv a (b::t)
theorem Jj (a:F):∀ l:List F,(dv a l).length=l.length - 1
 | []=>rfl
 | [_]=>rfl
 |_::b::t=>by
  have:=Jj a (b::t)
  simp only [dv,List.length_cons] at this ⊢
  omega
theorem Om (a:F):∀ l:List F,PE l (kW [ev l a] (Ml a (dv a l)))
 | []=>by
  intro n
  rw [iA,jv]
  cases n with
  |zero=>rw [lW,mZ]; show (0:F)=0+ -a*cf [] 0; rw [jv]; grind
  |succ n=>rw [jq,jv,kV]; show (0:F)=0+(cf [] n - a*cf [] (n+1)); rw [jv,jv]; grind
 | [c]=>by
  intro n
  rw [iA]
  cases n with
  |zero=>rw [lW,lW,mZ]; show c=(0*a+c)+ -a*cf [] 0; rw [jv]; grind
  |succ n=>rw [jq,jq,jv,kV]; show (0:F)=0+(cf [] n - a*cf [] (n+1)); rw [jv,jv]; grind
 |c::b::t=>by
  have ih:=Om a (b::t)
  intro n
  rw [iA]
  have hd:dv a (c::b::t)=ev (b::t) a::dv a (b::t):=rfl
  cases n with
  |zero=>
   rw [lW,lW,mZ,hd,lW]
   show c=(ev (b::t) a*a+c)+ -a*ev (b::t) a
   grind
  |succ n=>
   have hn:=ih n
   rw [iA] at hn
   rw [jq,jq,jv,kV,hd,jq,hn]
   cases n with
   |zero=>rw [lW,lW,mZ]; try grind
   |succ n=>rw [jq,jq,jv,kV]; try grind
theorem Dw {f fk h base fk' base' xs:List F} {a y s c:F} (hf:PE f (kW fk (TL xs h))) (hb:PE base (TL xs [1])) (hy:y=ev f a) (hs:s*ev base a=1) (hc:c=(y - ev fk a)*s)
  (h1:PE fk' (kW fk (qE c base))) (h2:PE base' (Ml a base)):PE f (kW fk' (TL (xs++ [a]) (dv a h)))∧PE base' (TL (xs++ [a]) [1]):=by
 have e1:ev f a=ev fk a+tY xs a*ev h a:=by rw [A7 hf,yo,LK]
 have e2:ev base a=tY xs a:=by rw [A7 hb,LK]; show tY xs a*(0*a+1)=_; grind
 have e3:c=ev h a:=by rw [hc,hy,e1]; rw [e2] at hs; grind
 constructor
 ·intro n
  have k1:=(Om a h).T (xs:=xs) n
  have k2:=RG xs [ev h a] (Ml a (dv a h)) n
  have k3:PE [ev h a] (qE (ev h a) [1]):=by
   intro n
   rw [lG]
   cases n with
   |zero=>rw [lW,lW]; grind
   |succ n=>rw [jq,jq,jv]; grind
  have k4:=(k3.T (xs:=xs)).trans (RF (ev h a) xs [1]) n
  rw [hf n,iA,k1,k2,iA,k4,lG,← hb n,iA,h1 n,iA,lG,e3,EH]
  grind
 ·rw [EH]
  exact h2.trans (hb.M.trans (T_M a xs [1]).symm)
theorem Ho:∀ (xs:List F) (n:Nat),cf (TL xs []) n=0
 | [],n=>jv n
 |x::xs,n=>by
  show cf (Ml x (TL xs [])) n=0
  cases n with
  |zero=>rw [mZ,Ho xs]; grind
  |succ n=>rw [kV,Ho xs,Ho xs]; grind
theorem E9 {f fk h xs:List F} (hf:PE f (kW fk (TL xs h))) (hh:h= []):PE f fk:=by
 intro n
 subst hh
 rw [hf n,iA,Ho]; grind
end
end Go.Own.Pol
set_option linter.unusedVariables false
set_option linter.unusedSimpArgs false
namespace Go.Own
open Go.IntWalk
def tl (l:List Nat):Nat→Nat
 |0=>0
 |n+1=>bif Nat.beq (l.getD n 0) 0 then tl l n else n+1
theorem JN (l:List Nat):∀ n,tl l n≤n
 |0=>Nat.le_refl 0
 |n+1=>by
  have:=JN l n
  simp only [tl]
  cases Nat.beq (l.getD n 0) 0
  ·exact Nat.le_refl _
  ·exact Nat.le_trans this (Nat.le_succ n)
theorem JM (l:List Nat):∀ n k,tl l n≤k→k<n→l.getD k 0=0
 |0,k,_,h=>by omega
 |n+1,k,h1,h2=>by
  simp only [tl] at h1
  cases hb:Nat.beq (l.getD n 0) 0 with
  |false=>rw [hb] at h1; simp only [cond_false] at h1; omega
  |true=>
   rw [hb] at h1
   rcases Nat.lt_or_ge k n with h|h
   ·exact JM l n k h1 h
   ·have:k=n:=by omega
    subst this
    exact Nat.eq_of_beq_eq_true hb
theorem E8 (l:List Nat) (d:Nat) (hz:∀ k,d≤k→l.getD k 0=0):∀ n,tl l n≤d
 |0=>Nat.zero_le d
 |n+1=>by
  simp only [tl]
  cases hb:Nat.beq (l.getD n 0) 0 with
  |true=>exact E8 l d hz n
  |false=>
   rcases Nat.lt_or_ge n d with h|h
   ·exact h
   ·rw [hz n h] at hb; exact absurd hb (by decide)
def rJ (q:Nat) (l:List Nat):List Nat:=l.map (· %q)
def tC (q:Nat) (l:List Nat):List Nat:=(rJ q l).take (tl (rJ q l) l.length)
theorem qf (q:Nat) (l:List Nat):(rJ q l).length=l.length:=List.length_map _
theorem Qi {gx:Option d9} {q:Nat} (h:Fld gx q) {l:List Nat}:∀ a∈rJ q l,a<au:=by
 intro a ha
 obtain ⟨b,_,rfl⟩:=List.mem_map.1 ha
 exact Nat.lt_trans (Nat.mod_lt _ (by have:=h.gt; omega)) h.lt
theorem QZ {gx:Option d9} {q:Nat} (h:Fld gx q) {l:List Nat} (hl:∀ a∈l,a<au) (hn:l.length≤1073741824):eO.l0 (gx,(),(),l.map limbs,(l.length:Int),0,()) ((true,[]),())=
  (true,1,(gx,(),(),l.map limbs,(l.length:Int),(l.length:Int),()),((decide (l.length=0),(rJ q l).map limbs),()),(),()):=by
 have key:eO.l0 (gx,(),(),l.map limbs,(l.length:Int),((0:Nat):Int),()) ((decide (0=0),(l.take 0).map fun a=>limbs (a%q)),())=
  (true,1,(gx,(),(),l.map limbs,(l.length:Int),(l.length:Int),()),((decide (l.length=0),(l.take l.length).map fun a=>limbs (a%q)),()),(),()):=by
  refine bK (g:=fun rq kn ke kr x y=>eO.g0 rq kn ke kr x y) l.length (fun j=>(gx,(),(),l.map limbs,(l.length:Int),(j:Int),())) (fun j=>((decide (j=0),(l.take j).map fun a=>limbs (a%q)),())) _ ?_ ?_ _ 0 (Nat.zero_le _) (by show l.length - 0<((l.length:Int) - ((0:Nat):Int)).toNat+1; omega)
  ·intro j R hj
   have g1:(l.map limbs).getD j [0,0,0,0]=limbs (l.getD j 0):=getD_map hj
   have fa:=BA h (hl _ (fF hj)) (show 0<au by decide)
   rw [eG,Nat.add_zero] at fa
   have c1:nle ((2*((l.take j).length+1)+512)*32) 70368744177664=true:=rT (by rw [List.length_take]; omega)
   have s1:((l.take j).map fun a=>limbs (a%q))++ [limbs (l.getD j 0%q)]=(l.take (j+1)).map fun a=>limbs (a%q):=kz (f:=fun a=>limbs (a%q)) hj
   have d1:decide (j+1=0)=false:=decide_eq_false (by omega)
   have w1:IntKind.i64.wrap ((j:Int)+1)=((j+1:Nat):Int):=i64_in _ (by omega)
   simp only [eO.g0,Go.Own.lt,cK (show (j:Int)<(l.length:Int) by omega),bJ (show (0:Int)≤(j:Int) by omega),Bool.and_true,cond_true,Int.toNat_natCast,g1,List.length_map,aj,fa,Bool.and_false,s1,c1,w1,d1]
  ·intro R
   simp only [eO.g0,Go.Own.lt,dJ (show ¬ (l.length:Int)<(l.length:Int) by omega),cond_false]
 have e:(rJ q l).map limbs=l.map fun a=>limbs (a%q):=by unfold rJ; rw [List.map_map]; rfl
 rw [List.take_length] at key
 rw [e]
 exact key
theorem QY {L:List Nat} (hL:∀ a∈L,a<au) (hn:L.length≤1073741824) (fl:Bool):eO.l1 ((),(0,L.length),()) ((fl,L.map limbs),())=(true,3,((),(0,tl L L.length),()),((fl,L.map limbs),()),(),()):=by
 obtain ⟨w,hw⟩:∃ w,w=eO.l1 ((),(0,L.length),()) ((fl,L.map limbs),()):=⟨_,rfl⟩
 rw [← hw]
 refine jw (g:=fun rq kn ke kr x y=>eO.g1 rq kn ke kr x y) hw (fun x y=>∃ n,n≤L.length∧tl L n=tl L L.length∧x=((),(0,n),())∧y=((fl,L.map limbs),())) (fun x y=>x.2.1.2) ⟨_,Nat.le_refl _,rfl,rfl,rfl⟩ (by show L.length<((L.length:Int) - (0:Int)).toNat+1; omega)
  (Q:=fun w=>w=(true,3,((),(0,tl L L.length),()),((fl,L.map limbs),()),(),())) ?_
 rintro x y R ⟨n,hn1,ht,rfl,rfl⟩ hR
 cases n with
 |zero=>
  simp only [eO.g1,Go.Own.lt,dJ (show ¬ (0:Int)<((0:Nat):Int) by omega),cond_false,← ht]
  rfl
 |succ n=>
  have w1:IntKind.i64.wrap (((n+1:Nat):Int) - 1)=(n:Int):=by rw [i64_in _ (by omega)]; omega
  have g1:(L.map limbs).getD n [0,0,0,0]=limbs (L.getD n 0):=getD_map (by omega)
  have b1:decide (L.getD n 0=0)=Nat.beq (L.getD n 0) 0:=by
   cases L.getD n 0<;>rfl
  simp only [eO.g1,Go.Own.lt,cK (show (0:Int)<((n+1:Nat):Int) by omega),cond_true,w1,Int.toNat_natCast,Nat.zero_add,bJ (show (0:Int)≤(n:Int) by omega),cK (show (n:Int)<((n+1:Nat):Int) by omega),bJ (show (n:Int)≤((n+1:Nat):Int) by omega),Bool.and_self,aj,g1,KE (hL _ (fF (show n<L.length by omega))),b1]
  simp only [tl] at ht
  cases hb:Nat.beq (L.getD n 0) 0 with
  |true=>
   rw [hb] at ht
   simp only [cond_true] at ht ⊢
   exact hR _ _ ⟨n,by omega,ht,rfl,rfl⟩ (by show n<n+1; omega)
  |false=>
   rw [hb] at ht
   simp only [cond_false] at ht ⊢
   rw [← ht]
theorem ED {gx:Option d9} {q:Nat} (h:Fld gx q) {l:List Nat} (hl:∀ a∈l,a<au) (hn:l.length≤1073741824):eO.r gx (l.map limbs)=(true,1,(),(0,tl (rJ q l) l.length,(decide (l.length=0),(rJ q l).map limbs))):=by
 obtain ⟨rq,inv,hR,hF⟩:=h.field
 have e:=QY (Qi h (l:=l)) (by rw [qf]; exact hn) (decide (l.length=0))
 rw [qf] at e
 simp only [eO.r,eO.g,Go.Own.lt,hF,aj,hR.wQ,cond_false,List.length_map,QZ h hl hn,qf,e]
theorem qh {gx:Option d9} {q:Nat} (h:Fld gx q) {β:Type} (f:Nat→β) (j:Nat):(List.range j).map f++ [f j]=(List.range (j+1)).map f:=by
 rw [List.range_succ,List.map_append]; rfl
theorem Mh {gx:Option d9} {q:Nat} (h:Fld gx q) {f:List Nat} (hf:∀ a∈f,a<au) {by':Nat} (hb:by'<au) (k:Nat) (hk:k≤1073741824):kF.r (k:Int) gx (f.map limbs) 0 (limbs by')=(true,limbs (jE f (k:Int)*by'%q),gx,f.map limbs,0,limbs by'):=by
 have w1:IntKind.i64.wrap ((k:Int) - 0)=(k:Int):=by rw [Int.sub_zero]; exact oW _ (by omega)
 simp only [kF.r,kF.g,Go.Own.lt,w1,Pd,aj,Bz h (xq hf _) hb]
def zQ (q:Nat) (f:List Nat) (c:Nat):List Nat:=(List.range f.length).map fun (k:Nat)=>jE f (k:Int)*c%q
theorem Rf {gx:Option d9} {q:Nat} (h:Fld gx q) {f:List Nat} (hf:∀ a∈f,a<au) {by':Nat} (hb:by'<au) (hn:f.length≤1073741824):jM.l0 (gx,(),(),(),(f.length:Int),0,()) ((true,[]),gx,f.map limbs,0,limbs by',())=
  (true,1,(gx,(),(),(),(f.length:Int),(f.length:Int),()),((decide (f.length=0),(zQ q f by').map limbs),gx,f.map limbs,0,limbs by',()),(),()):=by
 have key:jM.l0 (gx,(),(),(),(f.length:Int),((0:Nat):Int),()) ((decide (0=0),(List.range 0).map fun (k:Nat)=>limbs (jE f (k:Int)*by'%q)),gx,f.map limbs,0,limbs by',())=
  (true,1,(gx,(),(),(),(f.length:Int),(f.length:Int),()),((decide (f.length=0),(List.range f.length).map fun (k:Nat)=>limbs (jE f (k:Int)*by'%q)),gx,f.map limbs,0,limbs by',()),(),()):=by
  refine bK (g:=fun rq kn ke kr x y=>jM.g0 rq kn ke kr x y) f.length (fun j=>(gx,(),(),(),(f.length:Int),(j:Int),())) (fun j=>((decide (j=0),(List.range j).map fun (k:Nat)=>limbs (jE f (k:Int)*by'%q)),gx,f.map limbs,0,limbs by',())) _ ?_ ?_ _ 0 (Nat.zero_le _) (by show f.length - 0<((f.length:Int) - ((0:Nat):Int)).toNat+1; omega)
  ·intro j R hj
   have c1:nle ((2*(j+1)+512)*32) 70368744177664=true:=rT (by omega)
   have s1:=qh h (fun (k:Nat)=>limbs (jE f (k:Int)*by'%q)) j
   have d1:decide (j+1=0)=false:=decide_eq_false (by omega)
   have w1:IntKind.i64.wrap ((j:Int)+1)=((j+1:Nat):Int):=i64_in _ (by omega)
   simp only [jM.g0,Go.Own.lt,cK (show (j:Int)<(f.length:Int) by omega),cond_true,Mh h hf hb j (by omega),aj,Bool.and_false,s1,List.length_map,List.length_range,c1,w1,d1]
  ·intro R
   simp only [jM.g0,Go.Own.lt,dJ (show ¬ (f.length:Int)<(f.length:Int) by omega),cond_false]
 have e:(zQ q f by').map limbs=(List.range f.length).map fun (k:Nat)=>limbs (jE f (k:Int)*by'%q):=by unfold zQ; rw [List.map_map]; rfl
 rw [e]
 exact key
theorem TT {gx:Option d9} {q:Nat} (h:Fld gx q) {f:Nat→Nat} {n:Nat}:∀ a∈(List.range n).map fun k=>f k%q,a<au:=by
 intro a ha
 obtain ⟨b,_,rfl⟩:=List.mem_map.1 ha
 exact Nat.lt_trans (Nat.mod_lt _ (by have:=h.gt; omega)) h.lt
theorem Qc {gx:Option d9} {q:Nat} (h:Fld gx q) {f:List Nat} {c:Nat}:∀ a∈zQ q f c,a<au:=TT h (f:=fun (k:Nat)=>jE f (k:Int)*c) (n:=f.length)
theorem wI {q:Nat} {f:List Nat} {c:Nat}:(zQ q f c).length=f.length:=by unfold zQ; simp
theorem OZ {gx:Option d9} {q:Nat} (h:Fld gx q) {f:List Nat} (hf:∀ a∈f,a<au) {by':Nat} (hb:by'<au) (hn:f.length≤1073741824):mK.r gx (f.map limbs) (limbs by') 0=(true,(tC q (zQ q f by')).map limbs):=by
 have w1:IntKind.i64.wrap ((f.length:Int)+0)=(f.length:Int):=by rw [Int.add_zero]; exact oW _ (by omega)
 have e:=ED h (Qc h (f:=f) (c:=by')) (by rw [wI]; exact hn)
 rw [wI] at e
 simp only [mK.r,mK.g,jM.r,jM.g,Go.Own.lt,List.length_map,w1,Rf h hf hb hn,aj,e,show Nat.beq 1 0=false from rfl,cond_false,List.drop_zero]
 unfold tC
 rw [wI,List.map_take]
def addN (q:Nat) (a b:List Nat):List Nat:=(List.range (max a.length b.length)).map fun (k:Nat)=>(jE a (k:Int)+jE b (k:Int))%q
theorem Bq {q:Nat} {a b:List Nat}:(addN q a b).length=max a.length b.length:=by unfold addN; simp
theorem QX {gx:Option d9} {q:Nat} (h:Fld gx q) {a b:List Nat}:∀ x∈addN q a b,x<au:=TT h (f:=fun (k:Nat)=>jE a (k:Int)+jE b (k:Int)) (n:=max a.length b.length)
theorem Tz {gx:Option d9} {q:Nat} (h:Fld gx q) {a b:List Nat} (ha:∀ x∈a,x<au) (hb:∀ x∈b,x<au) (k:Nat):nW.r (k:Int) gx (a.map limbs) (b.map limbs)=(true,limbs ((jE a (k:Int)+jE b (k:Int))%q),gx,a.map limbs,b.map limbs):=by
 simp only [nW.r,nW.g,Go.Own.lt,Pd,aj,BA h (xq ha _) (xq hb _)]
theorem Pq {gx:Option d9} {q:Nat} (h:Fld gx q) {a b:List Nat} (ha:∀ x∈a,x<au) (hb:∀ x∈b,x<au) {n:Nat} (hn:n≤1073741824):gU.l0 (gx,(),(),(),(n:Int),0,()) ((true,[]),gx,a.map limbs,b.map limbs,())=
  (true,1,(gx,(),(),(),(n:Int),(n:Int),()),((decide (n=0),(List.range n).map fun (k:Nat)=>limbs ((jE a (k:Int)+jE b (k:Int))%q)),gx,a.map limbs,b.map limbs,()),(),()):=by
 have key:gU.l0 (gx,(),(),(),(n:Int),((0:Nat):Int),()) ((decide (0=0),(List.range 0).map fun (k:Nat)=>limbs ((jE a (k:Int)+jE b (k:Int))%q)),gx,a.map limbs,b.map limbs,())=
  (true,1,(gx,(),(),(),(n:Int),(n:Int),()),((decide (n=0),(List.range n).map fun (k:Nat)=>limbs ((jE a (k:Int)+jE b (k:Int))%q)),gx,a.map limbs,b.map limbs,()),(),()):=by
  refine bK (g:=fun rq kn ke kr x y=>gU.g0 rq kn ke kr x y) n (fun j=>(gx,(),(),(),(n:Int),(j:Int),())) (fun j=>((decide (j=0),(List.range j).map fun (k:Nat)=>limbs ((jE a (k:Int)+jE b (k:Int))%q)),gx,a.map limbs,b.map limbs,())) _ ?_ ?_ _ 0 (Nat.zero_le _) (by show n - 0<((n:Int) - ((0:Nat):Int)).toNat+1; omega)
  ·intro j R hj
   have c1:nle ((2*(j+1)+512)*32) 70368744177664=true:=rT (by omega)
   have s1:=qh h (fun (k:Nat)=>limbs ((jE a (k:Int)+jE b (k:Int))%q)) j
   have d1:decide (j+1=0)=false:=decide_eq_false (by omega)
   have w1:IntKind.i64.wrap ((j:Int)+1)=((j+1:Nat):Int):=i64_in _ (by omega)
   simp only [gU.g0,Go.Own.lt,cK (show (j:Int)<(n:Int) by omega),cond_true,Tz h ha hb j,aj,Bool.and_false,s1,List.length_map,List.length_range,c1,w1,d1]
  ·intro R
   simp only [gU.g0,Go.Own.lt,dJ (show ¬ (n:Int)<(n:Int) by omega),cond_false]
 exact key
theorem Ti {gx:Option d9} {q:Nat} (h:Fld gx q) {a b:List Nat} (ha:∀ x∈a,x<au) (hb:∀ x∈b,x<au) (hna:a.length≤1073741824) (hnb:b.length≤1073741824):r9.r gx (a.map limbs) (b.map limbs)=(true,1,(),(0,tl (rJ q (addN q a b)) (addN q a b).length,(decide ((addN q a b).length=0),(rJ q (addN q a b)).map limbs))):=by
 have e:=ED h (QX h (a:=a) (b:=b)) (by rw [Bq]; omega)
 have m1:((if a.length<b.length then b.length else a.length:Nat):Int)=((max a.length b.length:Nat):Int):=by
  congr 1; split<;>omega
 have ml:=Pq h ha hb (n:=max a.length b.length) (by omega)
 have e2:(addN q a b).map limbs=(List.range (max a.length b.length)).map fun (k:Nat)=>limbs ((jE a (k:Int)+jE b (k:Int))%q):=by unfold addN; rw [List.map_map]; rfl
 rw [← e2] at ml
 simp only [r9.r,r9.g,gU.r,gU.g,Go.Own.lt,List.length_map,Kz,m1,ml,aj,e,show Nat.beq 1 0=false from rfl,cond_false]
def mulC (q:Nat) (a b:List Nat) (k n:Nat):Nat:=(List.range n).foldl (fun (s:Nat) (i:Nat)=>(s+jE a (i:Int)*jE b ((k:Int) - (i:Int))%q)%q) 0
theorem Cv {gx:Option d9} {q:Nat} (h:Fld gx q) {a b:List Nat} {k n:Nat}:mulC q a b k (n+1)=(mulC q a b k n+jE a (n:Int)*jE b ((k:Int) - (n:Int))%q)%q:=by
 unfold mulC; rw [List.range_succ,List.foldl_append]; rfl
theorem J7 {gx:Option d9} {q:Nat} (h:Fld gx q) {a b:List Nat} {k n:Nat}:mulC q a b k n<q:=by
 cases n with
 |zero=>have:=h.gt; show 0<q; omega
 |succ n=>rw [Cv h]; exact Nat.mod_lt _ (by have:=h.gt; omega)
theorem Rc {gx:Option d9} {q:Nat} (h:Fld gx q) {a b:List Nat} (ha:∀ x∈a,x<au) (hb:∀ x∈b,x<au) {k:Nat} (hk:k≤1073741824) (hn:a.length≤1073741824):iW.r (k:Int) (a.map limbs) gx (b.map limbs)=(true,limbs (mulC q a b k a.length),a.map limbs,gx,b.map limbs):=by
 have key:iW.l0 ((k:Int),(),(),(),(),(),(a.length:Int),((0:Nat):Int),()) ([0,0,0,0],limbs (mulC q a b k 0),a.map limbs,gx,b.map limbs,())=
  (true,1,((k:Int),(),(),(),(),(),(a.length:Int),(a.length:Int),()),([0,0,0,0],limbs (mulC q a b k a.length),a.map limbs,gx,b.map limbs,()),(),()):=by
  refine bK (g:=fun rq kn ke kr x y=>iW.g0 rq kn ke kr x y) a.length (fun j=>((k:Int),(),(),(),(),(),(a.length:Int),(j:Int),())) (fun j=>([0,0,0,0],limbs (mulC q a b k j),a.map limbs,gx,b.map limbs,())) _ ?_ ?_ _ 0 (Nat.zero_le _) (by show a.length - 0<((a.length:Int) - ((0:Nat):Int)).toNat+1; omega)
  ·intro j R hj
   have g1:(a.map limbs).getD j [0,0,0,0]=limbs (a.getD j 0):=getD_map hj
   have g2:a.getD j 0=jE a (j:Int):=by unfold jE; rw [if_neg (by omega)]; rfl
   have w0:IntKind.i64.wrap ((k:Int) - (j:Int))=(k:Int) - (j:Int):=i64_in _ (by omega)
   have w1:IntKind.i64.wrap ((j:Int)+1)=((j+1:Nat):Int):=i64_in _ (by omega)
   have f1:=Bz h (xq ha (j:Int)) (xq hb ((k:Int) - (j:Int)))
   have f2:=BA h (a:=mulC q a b k j) (b:=jE a (j:Int)*jE b ((k:Int) - (j:Int))%q) (Nat.lt_trans (J7 h) h.lt) (Nat.lt_trans (Nat.mod_lt _ (by have:=h.gt; omega)) h.lt)
   rw [← Cv h] at f2
   simp only [iW.g0,Go.Own.lt,cK (show (j:Int)<(a.length:Int) by omega),bJ (show (0:Int)≤(j:Int) by omega),cond_true,Bool.and_self,Int.toNat_natCast,List.length_map,aj,g1,g2,w0,Pd,f1,f2,w1]
  ·intro R
   simp only [iW.g0,Go.Own.lt,dJ (show ¬ (a.length:Int)<(a.length:Int) by omega),cond_false]
 have e0:limbs (mulC q a b k 0)= [0,0,0,0]:=eG
 rw [e0] at key
 have k2:iW.l0 ((k:Int),(),(),(),(),(),(a.length:Int),0,()) ([0,0,0,0],[0,0,0,0],a.map limbs,gx,b.map limbs,())=_:=key
 simp only [iW.r,iW.g,Go.Own.lt,List.length_map,k2,aj]
def mulN (q:Nat) (a b:List Nat):List Nat:=(List.range (a.length+b.length)).map fun k=>mulC q a b k a.length
theorem F5 {q:Nat} {a b:List Nat}:(mulN q a b).length=a.length+b.length:=by unfold mulN; simp
theorem Qs {gx:Option d9} {q:Nat} (h:Fld gx q) {a b:List Nat}:∀ x∈mulN q a b,x<au:=by
 intro x hx
 obtain ⟨k,_,rfl⟩:=List.mem_map.1 hx
 exact Nat.lt_trans (J7 h) h.lt
theorem Pp {gx:Option d9} {q:Nat} (h:Fld gx q) {a b:List Nat} (ha:∀ x∈a,x<au) (hb:∀ x∈b,x<au) {n:Nat} (hn:n≤1073741824) (hna:a.length≤1073741824):gT.l0 (gx,(),(),(),(n:Int),0,()) ((true,[]),a.map limbs,gx,b.map limbs,())=
  (true,1,(gx,(),(),(),(n:Int),(n:Int),()),((decide (n=0),(List.range n).map fun (k:Nat)=>limbs (mulC q a b k a.length)),a.map limbs,gx,b.map limbs,()),(),()):=by
 have key:gT.l0 (gx,(),(),(),(n:Int),((0:Nat):Int),()) ((decide (0=0),(List.range 0).map fun (k:Nat)=>limbs (mulC q a b k a.length)),a.map limbs,gx,b.map limbs,())=
  (true,1,(gx,(),(),(),(n:Int),(n:Int),()),((decide (n=0),(List.range n).map fun (k:Nat)=>limbs (mulC q a b k a.length)),a.map limbs,gx,b.map limbs,()),(),()):=by
  refine bK (g:=fun rq kn ke kr x y=>gT.g0 rq kn ke kr x y) n (fun j=>(gx,(),(),(),(n:Int),(j:Int),())) (fun j=>((decide (j=0),(List.range j).map fun (k:Nat)=>limbs (mulC q a b k a.length)),a.map limbs,gx,b.map limbs,())) _ ?_ ?_ _ 0 (Nat.zero_le _) (by show n - 0<((n:Int) - ((0:Nat):Int)).toNat+1; omega)
  ·intro j R hj
   have c1:nle ((2*(j+1)+512)*32) 70368744177664=true:=rT (by omega)
   have s1:=qh h (fun (k:Nat)=>limbs (mulC q a b k a.length)) j
   have d1:decide (j+1=0)=false:=decide_eq_false (by omega)
   have w1:IntKind.i64.wrap ((j:Int)+1)=((j+1:Nat):Int):=i64_in _ (by omega)
   simp only [gT.g0,Go.Own.lt,cK (show (j:Int)<(n:Int) by omega),cond_true,Rc h ha hb (show j≤1073741824 by omega) hna,aj,Bool.and_false,s1,List.length_map,List.length_range,c1,w1,d1]
  ·intro R
   simp only [gT.g0,Go.Own.lt,dJ (show ¬ (n:Int)<(n:Int) by omega),cond_false]
 exact key
theorem Td {gx:Option d9} {q:Nat} (h:Fld gx q) {a b:List Nat} (ha:∀ x∈a,x<au) (hb:∀ x∈b,x<au) (hn:a.length+b.length≤1073741824):qC.r gx (a.map limbs) (b.map limbs)=(true,(tC q (mulN q a b)).map limbs):=by
 have e:=ED h (Qs h (a:=a) (b:=b)) (by rw [F5]; omega)
 have ml:=Pp h ha hb (n:=a.length+b.length) hn (by omega)
 have e2:(mulN q a b).map limbs=(List.range (a.length+b.length)).map fun (k:Nat)=>limbs (mulC q a b k a.length):=by unfold mulN; rw [List.map_map]; rfl
 rw [← e2] at ml
 have w1:IntKind.i64.wrap ((a.length:Int)+(b.length:Int))=((a.length+b.length:Nat):Int):=i64_in _ (by omega)
 simp only [qC.r,qC.g,gT.r,gT.g,Go.Own.lt,List.length_map,w1,ml,aj,e,show Nat.beq 1 0=false from rfl,cond_false,List.drop_zero]
 unfold tC
 rw [List.map_take]
end Go.Own
set_option linter.unusedVariables false
set_option linter.unusedSimpArgs false
namespace Go.Own
open Go.IntWalk
section
variable {q:Nat} [NeZero q]
def fz (q:Nat) [NeZero q] (n:Nat):Fin q:=Fin.ofNat q n
theorem mW (a:Nat):fz q (a%q)=fz q a:=by unfold fz; simp [Fin.ext_iff]
theorem sP (a b:Nat):fz q (a+b)=fz q a+fz q b:=by unfold fz; simp [Fin.ext_iff,Fin.val_add]
theorem vX (a b:Nat):fz q (a*b)=fz q a*fz q b:=by unfold fz; simp [Fin.ext_iff,Fin.val_mul,Nat.mul_mod]
theorem lV:fz q 0=0:=rfl
theorem Je:fz q 1=1:=rfl
theorem Uz:fz q q=0:=by unfold fz; simp [Fin.ext_iff]
theorem Oa (a:Nat):(fz q a).val=a%q:=rfl
theorem Oc {a b:Nat} (h:fz q a=fz q b):a%q=b%q:=congrArg Fin.val h
theorem Ob {a b:Nat}:fz q ((a%q+(q - b%q))%q)=fz q a - fz q b:=by
 have hq:0<q:=Nat.pos_of_ne_zero (NeZero.ne q)
 have h1:=Nat.mod_lt b hq
 have h2:fz q (q - b%q)+fz q b=0:=by
  rw [← mW b,← sP,Nat.sub_add_cancel (Nat.le_of_lt h1),Uz]
 rw [mW,sP,mW]
 grind
def toF (q:Nat) [NeZero q] (l:List Nat):List (Fin q):=l.map (fz q)
theorem kH (l:List Nat) (n:Nat):Pol.cf (toF q l) n=fz q (l.getD n 0):=by
 unfold Pol.cf toF
 rcases Nat.lt_or_ge n l.length with h|h
 ·exact getD_map h
 ·rw [List.getD_eq_getElem?_getD,List.getElem?_eq_none (by simpa using h),List.getD_eq_getElem?_getD,List.getElem?_eq_none h]; rfl
theorem vY (f:List Nat) (x:Nat):fz q (evN q f x)=Pol.ev (toF q f) (fz q x):=by
 induction f with
 |nil=>rfl
 |cons a f ih=>
  show fz q ((evN q f x*x%q+a)%q)=Pol.ev (toF q f) (fz q x)*fz q x+fz q a
  rw [mW,sP,mW,vX,ih]
theorem Et (f:List Nat) (n:Nat):jE f (n:Int)=f.getD n 0:=by unfold jE; rw [if_neg (by omega)]; rfl
theorem jD {l:List Nat} {n:Nat} (h:l.length≤n):l.getD n 0=0:=by rw [List.getD_eq_getElem?_getD,List.getElem?_eq_none h]; rfl
theorem QE (l:List Nat) (n:Nat):fz q ((rJ q l).getD n 0)=fz q (l.getD n 0):=by
 rcases Nat.lt_or_ge n l.length with h|h
 ·have:(rJ q l).getD n 0=l.getD n 0%q:=getD_map h
  rw [this,mW]
 ·rw [jD (by rw [qf]; exact h),jD h]
theorem getD_take {l:List Nat} {m n:Nat}:(l.take m).getD n 0=if n<m then l.getD n 0 else 0:=by
 simp only [List.getD_eq_getElem?_getD,List.getElem?_take]
 split<;>rfl
theorem JP {L:List Nat} {n:Nat}:(L.take (tl L L.length)).getD n 0=L.getD n 0:=by
 rw [getD_take]
 split
 ·rfl
 ·rename_i h
  rcases Nat.lt_or_ge n L.length with h2|h2
  ·exact (JM L L.length n (by omega) h2).symm
  ·exact (jD h2).symm
theorem EK (l:List Nat):Pol.PE (toF q (tC q l)) (toF q l):=fun n=>by
 rw [kH,kH,← QE l n]
 congr 1
 unfold tC
 rw [← qf q l]
 exact JP
theorem uq {f:Nat→Nat} {n k:Nat}:((List.range n).map f).getD k 0=if k<n then f k else 0:=by
 split
 ·rename_i h; exact jm h
 ·rename_i h; exact jD (by simpa using h)
theorem Te (f:List Nat) (c:Nat):Pol.PE (toF q (zQ q f c)) (Pol.qE (fz q c) (toF q f)):=fun n=>by
 rw [kH,Pol.lG,kH]
 unfold zQ
 rw [uq]
 split
 ·rw [mW,vX,Et]; grind
 ·rename_i h
  rw [jD (by omega),lV]; grind
theorem Tg (a b:List Nat):Pol.PE (toF q (addN q a b)) (Pol.kW (toF q a) (toF q b)):=fun n=>by
 rw [kH,Pol.iA,kH,kH]
 unfold addN
 rw [uq]
 split
 ·rw [mW,sP,Et,Et]
 ·rename_i h
  rw [jD (l:=a) (by omega),jD (l:=b) (by omega),lV]; grind
theorem Ko (a:List Nat) (b k:Nat):∀ n,fz q (mulC q a [b,1] k n)=(if k<n then fz q b*fz q (a.getD k 0) else 0)+(if 1≤k∧k - 1<n then fz q (a.getD (k - 1) 0) else 0)
 |0=>by
  show fz q 0=_
  rw [if_neg (by omega),if_neg (by omega),lV]; grind
 |n+1=>by
  have ih:=Ko a b k n
  have e:mulC q a [b,1] k (n+1)=(mulC q a [b,1] k n+jE a (n:Int)*jE [b,1] ((k:Int) - (n:Int))%q)%q:=by
   unfold mulC; rw [List.range_succ,List.foldl_append]; rfl
  rw [e,mW,sP,mW,vX,ih,Et]
  have hc:jE [b,1] ((k:Int) - (n:Int))=if n=k then b else if n+1=k then 1 else 0:=by
   unfold jE
   by_cases h1:n=k
   ·subst h1; rw [if_neg (by omega),if_pos rfl,show ((n:Int) - (n:Int)).toNat=0 by omega]; rfl
   ·rw [if_neg h1]
    by_cases h2:n+1=k
    ·rw [if_neg (by omega),if_pos h2,show ((k:Int) - (n:Int)).toNat=1 by omega]; rfl
    ·rw [if_neg h2]
     split
     ·rfl
     ·exact jD (by simp only [List.length_cons,List.length_nil]; omega)
  rw [hc]
  by_cases h1:n=k
  ·subst h1
   rw [if_pos rfl,if_neg (show ¬ n<n by omega),if_pos (show n<n+1 by omega)]
   by_cases h3:1≤n
   ·rw [if_pos ⟨h3,by omega⟩,if_pos ⟨h3,by omega⟩]; grind
   ·rw [if_neg (by omega),if_neg (by omega)]; grind
  ·rw [if_neg h1]
   by_cases h2:n+1=k
   ·subst h2
    rw [if_pos rfl,if_neg (show ¬ n+1<n by omega),if_neg (show ¬ n+1<n+1 by omega),if_neg (by omega),if_pos (by omega),Je,Nat.add_sub_cancel]; grind
   ·rw [if_neg h2,lV]
    by_cases h3:k<n
    ·rw [if_pos h3,if_pos (show k<n+1 by omega)]
     by_cases h4:1≤k
     ·rw [if_pos ⟨h4,by omega⟩,if_pos ⟨h4,by omega⟩]; grind
     ·rw [if_neg (by omega),if_neg (by omega)]; grind
    ·rw [if_neg h3,if_neg (show ¬ k<n+1 by omega),if_neg (by omega),if_neg (by omega)]; grind
theorem Tf (a:List Nat) (b:Nat):Pol.PE (toF q (mulN q a [b,1])) (Pol.Ml (-(fz q b)) (toF q a)):=fun n=>by
 rw [kH]
 unfold mulN
 rw [uq,show ([b,1]:List Nat).length=2 from rfl]
 have e:(if n<a.length+2 then mulC q a [b,1] n a.length else 0)=mulC q a [b,1] n a.length∨¬ n<a.length+2:=by
  by_cases h:n<a.length+2
  ·exact .inl (if_pos h)
  ·exact .inr h
 have v:fz q (if n<a.length+2 then mulC q a [b,1] n a.length else 0)=fz q b*fz q (a.getD n 0)+(if 1≤n then fz q (a.getD (n - 1) 0) else 0):=by
  rcases e with e|h
  ·rw [e,Ko]
   by_cases h1:n<a.length
   ·rw [if_pos h1]
    by_cases h2:1≤n
    ·rw [if_pos ⟨h2,by omega⟩,if_pos h2]
    ·rw [if_neg (by omega),if_neg h2]
   ·rw [if_neg h1,jD (l:=a) (n:=n) (by omega),lV]
    by_cases h2:1≤n
    ·rw [if_pos h2]
     by_cases h3:n - 1<a.length
     ·rw [if_pos ⟨h2,h3⟩]; grind
     ·rw [if_neg (by omega),jD (l:=a) (n:=n - 1) (by omega),lV]; grind
    ·rw [if_neg h2,if_neg (by omega)]; grind
  ·rw [if_neg h,jD (l:=a) (n:=n) (by omega),if_pos (by omega),jD (l:=a) (n:=n - 1) (by omega),lV]; grind
 rw [v]
 cases n with
 |zero=>rw [Pol.mZ,kH,if_neg (by omega)]; grind
 |succ n=>rw [Pol.kV,kH,kH,if_pos (by omega),Nat.add_sub_cancel]; grind
end
end Go.Own
set_option linter.unusedVariables false
set_option linter.unusedSimpArgs false
namespace Go.Own
open Go.IntWalk
theorem Mx {q a:Nat} [NeZero q] (hq:1<q) (h:∃ s:Fin q,s*fz q a=1):Nat.gcd a q=1:=by
 obtain ⟨s,hs⟩:=h
 have e:s.val*(a%q)%q=1:=by
  have:=congrArg Fin.val hs
  rw [Fin.val_mul,Oa] at this
  rw [this]
  show 1%q=1
  exact Nat.mod_eq_of_lt hq
 rw [Nat.mul_mod_mod] at e
 have h1:Nat.gcd a q∣s.val*a:=Nat.dvd_trans (Nat.gcd_dvd_left a q) (Nat.dvd_mul_left _ _)
 have h2:Nat.gcd a q∣q:=Nat.gcd_dvd_right a q
 have h3:Nat.gcd a q∣s.val*a%q:=(Nat.dvd_mod_iff h2).2 h1
 rw [e] at h3
 exact Nat.dvd_one.1 h3
theorem Gp {q a s:Nat} [NeZero q] (h:Ps a q s):fz q s*fz q a=1:=by
 rw [← vX,← mW,h.eq,Je]
theorem BZ (q:Nat) (l:List Nat):(tC q l).length≤l.length:=by
 unfold tC; rw [List.length_take,qf]; omega
theorem M5 {q:Nat} (hq:0<q) {l:List Nat}:∀ a∈rJ q l,a<q:=by
 intro a ha
 obtain ⟨b,_,rfl⟩:=List.mem_map.1 ha
 exact Nat.mod_lt _ hq
theorem JJ {q:Nat} (hq:0<q) {l:List Nat}:∀ a∈tC q l,a<q:=fun a ha=>M5 hq a (List.mem_of_mem_take ha)
def wo (q:Nat) [NeZero q] (xs:List Nat):Prop:=∀ k,k<xs.length→∃ s:Fin q,s*Pol.tY (toF q (xs.take k)) (fz q (xs.getD k 0))=1
theorem Mg {gx:Option d9} {q:Nat} [NeZero q] (h:Fld gx q) {f xs:List Nat} (hf:∀ a∈f,a<au) (hx:∀ a∈xs,a<au) (hfx:f.length≤xs.length) (h32:xs.length≤32) (ha:wo q xs):
  ∃ (L:List Nat) (n:Nat) (fl:Bool),gV.r gx (xs.map limbs) ((xs.map (evN q f)).map limbs)=(true,1,0,(0,n,0,(fl,L.map limbs)))∧(∀ a∈L,a<q)∧n≤L.length∧n≤f.length∧Pol.PE (toF q f) (toF q (L.take n)):=by
 have hq:=h.gt
 have hqW:=h.lt
 have h0:0<q:=by omega
 have qW:∀ {a},a<q→a<au:=fun h=>Nat.lt_trans h hqW
 obtain ⟨rq,inv,hR,hF⟩:=h.field
 obtain ⟨w,hw⟩:∃ w,w=gV.l0 (gx,(xs.map (evN q f)).map limbs,(),0,(0,0),[[1,0,0,0]],xs.map limbs,(xs.length:Int),0,()) ((true,[]),()):=⟨_,rfl⟩
 have key:w.1=true∧w.2.1=1∧∃ (L:List Nat) (n:Nat) (fl:Bool),w.2.2.1.2.2.2.2.1=(0,n)∧w.2.2.2.1.1=(fl,L.map limbs)∧(∀ a∈L,a<q)∧n≤L.length∧n≤f.length∧Pol.PE (toF q f) (toF q (L.take n)):=by
  refine jw (g:=fun rq kn ke kr x y=>gV.g0 rq kn ke kr x y) hw
   (fun x y=>∃ (k:Nat) (L:List Nat) (n:Nat) (base:List Nat) (hh:List (Fin q)) (fl:Bool),k≤xs.length∧x=(gx,(xs.map (evN q f)).map limbs,(),0,(0,n),base.map limbs,xs.map limbs,(xs.length:Int),(k:Int),())∧y=((fl,L.map limbs),())∧n=tl L L.length∧(∀ a∈L,a<q)∧(∀ a∈base,a<q)∧base.length≤1+2*k∧n≤1+2*k∧
    Pol.PE (toF q f) (Pol.kW (toF q (L.take n)) (Pol.TL (toF q (xs.take k)) hh))∧Pol.PE (toF q base) (Pol.TL (toF q (xs.take k)) [1])∧hh.length=f.length - k)
   (fun x y=>xs.length - x.2.2.2.2.2.2.2.2.1.toNat)
   ⟨0,[],0,[1],toF q f,true,Nat.zero_le _,rfl,rfl,rfl,by simp,by simp; omega,by simp,by omega,fun n=>by rw [Pol.iA]; show _=Pol.cf [] n+_; rw [Pol.jv]; show _=0+Pol.cf (toF q f) n; grind,fun n=>rfl,by unfold toF; simp⟩
   (by show xs.length - ((0:Int)).toNat<((xs.length:Int) - (0:Int)).toNat+1; omega)
   (Q:=fun w=>w.1=true∧w.2.1=1∧∃ (L:List Nat) (n:Nat) (fl:Bool),w.2.2.1.2.2.2.2.1=(0,n)∧w.2.2.2.1.1=(fl,L.map limbs)∧(∀ a∈L,a<q)∧n≤L.length∧n≤f.length∧Pol.PE (toF q f) (toF q (L.take n))) ?_
  rintro x y R ⟨k,L,n,base,hh,fl,hk,rfl,rfl,hn,hL,hB,hbl,hnl,i1,i2,i3⟩ hR
  by_cases hlt:k<xs.length
  ·have hxk:=hx _ (fF hlt)
   obtain ⟨X,hX⟩:∃ X,X=xs.getD k 0:=⟨_,rfl⟩
   have g1:(xs.map limbs).getD k [0,0,0,0]=limbs X:=by rw [hX]; exact getD_map hlt
   have g2:((xs.map (evN q f)).map limbs).getD k [0,0,0,0]=limbs (evN q f X):=by
    rw [getD_map (d':=0) (by rw [List.length_map]; exact hlt),getD_map (d':=0) hlt,hX]
   rw [← hX] at hxk
   have hfk:∀ a∈L.take n,a<au:=fun a ha=>qW (hL a (List.mem_of_mem_take ha))
   have hbW:∀ a∈base,a<au:=fun a ha=>qW (hB a ha)
   have hfl:(L.take n).length≤1+2*k:=by rw [List.length_take]; omega
   have E1:=Pz h hbW (by omega) hxk
   have E2:=Pz h hfk (by omega) hxk
   obtain ⟨bv,hbv⟩:∃ b,b=evN q base X:=⟨_,rfl⟩
   obtain ⟨fv,hfv⟩:∃ b,b=evN q (L.take n) X:=⟨_,rfl⟩
   obtain ⟨yv,hyv⟩:∃ b,b=evN q f X:=⟨_,rfl⟩
   have bq:bv<q:=by rw [hbv]; exact A8 h0 _ _
   have fvq:fv<q:=by rw [hfv]; exact A8 h0 _ _
   have yvq:yv<q:=by rw [hyv]; exact A8 h0 _ _
   rw [← hbv] at E1; rw [← hfv] at E2; rw [← hyv] at g2
   have eb:fz q bv=Pol.ev (toF q base) (fz q X):=by rw [hbv,vY]
   have efv:fz q fv=Pol.ev (toF q (L.take n)) (fz q X):=by rw [hfv,vY]
   have ey:fz q yv=Pol.ev (toF q f) (fz q X):=by rw [hyv,vY]
   have hu:∃ s:Fin q,s*fz q bv=1:=by
    obtain ⟨s,hs⟩:=ha k hlt
    refine ⟨s,?_⟩
    rw [eb,Pol.A7 i2,Pol.LK,hX]
    show s*(_*(0*_+1))=1
    rw [← hs]; grind
   have hg:=Mx hq hu
   have hbz:bv≠0:=by rintro rfl; rw [Nat.gcd_zero_left] at hg; omega
   obtain ⟨s,hs,eI⟩:=Tw h (qW bq) hg
   have P0:=KE (qW bq)
   rw [decide_eq_false hbz] at P0
   have S1:=Py h (qW yvq) (qW fvq)
   obtain ⟨d,hd⟩:∃ d,d=(yv%q+(q - fv%q))%q:=⟨_,rfl⟩
   have dq:d<q:=by rw [hd]; exact Nat.mod_lt _ h0
   rw [← hd] at S1
   have M1:=Bz h (qW dq) (qW hs.lt)
   obtain ⟨c,hc⟩:∃ c,c=d*s%q:=⟨_,rfl⟩
   have cq:c<q:=by rw [hc]; exact Nat.mod_lt _ h0
   rw [← hc] at M1
   have SC:=OZ h hbW (qW cq) (by omega)
   obtain ⟨sc,hsc⟩:∃ z,z=tC q (zQ q base c):=⟨_,rfl⟩
   rw [← hsc] at SC
   have hscW:∀ a∈sc,a<au:=fun a ha=>qW (by rw [hsc] at ha; exact JJ h0 a ha)
   have hscl:sc.length≤1+2*k:=by
    have:=BZ q (zQ q base c)
    rw [wI,← hsc] at this
    omega
   have AD:=Ti h hfk hscW (by omega) (by omega)
   have S2:=Py h (show 0<au by decide) hxk
   obtain ⟨nx,hnx⟩:∃ d,d=(0%q+(q - X%q))%q:=⟨_,rfl⟩
   have nxq:nx<q:=by rw [hnx]; exact Nat.mod_lt _ h0
   rw [← hnx,eG] at S2
   have ML:=Td h hbW (b:= [nx,1]) (by intro a ha; rcases List.mem_cons.1 ha with rfl|ha; exact qW nxq; rcases List.mem_cons.1 ha with rfl|ha; decide; cases ha) (by show base.length+2≤_; omega)
   have e1:([nx,1]:List Nat).map limbs= [limbs nx,[1,0,0,0]]:=rfl
   rw [e1] at ML
   have w1:IntKind.i64.wrap ((k:Int)+1)=((k+1:Nat):Int):=i64_in _ (by omega)
   have et:(List.map limbs L).take n=(L.take n).map limbs:=(List.map_take).symm
   simp only [gV.g0,Go.Own.lt,cK (show (k:Int)<(xs.length:Int) by omega),bJ (show (0:Int)≤(k:Int) by omega),cond_true,Bool.and_self,Int.toNat_natCast,List.length_map,aj,g1,g2,E1,P0,cond_false,List.drop_zero,et,E2,S1,eI,M1,SC,AD,show Nat.beq 1 0=false from rfl,S2,ML,w1]
   have ax:toF q (xs.take (k+1))=toF q (xs.take k)++ [fz q X]:=by
    unfold toF
    rw [hX]
    exact (kz (f:=fz q) hlt).symm
   have st:=Pol.Dw (fk':=toF q ((rJ q (addN q (L.take n) sc)).take (tl (rJ q (addN q (L.take n) sc)) (addN q (L.take n) sc).length))) (base':=toF q (tC q (mulN q base [nx,1]))) (s:=fz q s) (c:=fz q c) i1 i2 ey (by rw [← eb]; exact Gp hs)
    (by rw [hc,mW,vX,hd,Ob,efv])
    (by
     refine (EK (q:=q) (addN q (L.take n) sc)).trans ((Tg _ _).trans (Pol.PE.add Pol.PE.rfl' ?_))
     rw [hsc]
     exact (EK _).trans (Te _ _))
    (by
     refine (EK (q:=q) _).trans ((Tf base nx).trans ?_)
     have: -(fz q nx)=fz q X:=by rw [hnx,Ob,lV]; grind
     rw [this]
     exact Pol.PE.rfl')
   refine hR _ _ ⟨k+1,rJ q (addN q (L.take n) sc),_,tC q (mulN q base [nx,1]),Pol.dv (fz q X) hh,_,hlt,rfl,rfl,by rw [qf],M5 h0,JJ h0,?_,?_,?_,?_,?_⟩ ?_
   ·have:=BZ q (mulN q base [nx,1])
    rw [F5] at this
    have e2:([nx,1]:List Nat).length=2:=rfl
    omega
   ·have:=JN (rJ q (addN q (L.take n) sc)) (addN q (L.take n) sc).length
    rw [Bq] at this
    rw [Bq]
    omega
   ·rw [ax]; exact st.1
   ·rw [ax]; exact st.2
   ·rw [Pol.Jj,i3]; omega
   ·show xs.length - (((k+1:Nat):Int)).toNat<xs.length - ((k:Int)).toNat
    omega
  ·have hkl:k=xs.length:=by omega
   subst hkl
   have hh0:hh= []:=List.length_eq_zero_iff.1 (by omega)
   have hend:=Pol.E9 i1 hh0
   simp only [gV.g0,Go.Own.lt,dJ (show ¬ (xs.length:Int)<(xs.length:Int) by omega),cond_false]
   refine ⟨trivial,trivial,L,n,fl,rfl,rfl,hL,by rw [hn]; exact JN _ _,?_,hend⟩
   rw [hn]
   apply E8
   intro m hm
   have e:=hend m
   rw [kH,kH,jD hm,hn,JP] at e
   have e2:=Oc e
   rw [Nat.zero_mod] at e2
   rcases Nat.lt_or_ge m L.length with h5|h5
   ·rw [Nat.mod_eq_of_lt (hL _ (fF h5))] at e2; exact e2.symm
   ·exact jD h5
 obtain ⟨k1,k2,L,n,fl,k3,k4,k5,k6,k7,k8⟩:=key
 refine ⟨L,n,fl,?_,k5,k6,k7,k8⟩
 have c1:((xs.length:Int) != (xs.length:Int))=false:=by simp
 simp only [gV.r,gV.g,Go.Own.lt,hF,aj,hR.wQ,cond_false,List.length_map,c1,dJ (show ¬ (32:Int)<(xs.length:Int) by omega),← hw,k1,k2,k3,k4,show Nat.beq 1 0=false from rfl]
end Go.Own
set_option linter.unusedVariables false
set_option linter.unusedSimpArgs false
namespace Go.Own
open Go.IntWalk
abbrev OY:Type:=Int×((List Int)×Unit)
end Go.Own
set_option linter.unusedVariables false
set_option linter.unusedSimpArgs false
namespace Go.Own
open Go.IntWalk
theorem Cq {q:Nat} [NeZero q] (x:Fin q):∀ (xs:List (Fin q)),(∀ a∈xs,∃ s:Fin q,s*(x - a)=1)→∃ s:Fin q,s*Pol.tY xs x=1
 | [],_=>⟨1,by show (1:Fin q)*1=1; grind⟩
 |a::xs,h=>by
  obtain ⟨s,hs⟩:=h a (by simp)
  obtain ⟨t,ht⟩:=Cq x xs fun b hb=>h b (by simp [hb])
  refine ⟨s*t,?_⟩
  show s*t*((x - a)*Pol.tY xs x)=1
  grind
theorem Gv {q d:Nat} [NeZero q] (hq:1<q) (hqW:q<au) (hd:d<au) (h:Nat.gcd d q=1):∃ s:Fin q,s*fz q d=1:=by
 rcases Hw d q hd hqW (by omega) with ⟨_,s,hs,_⟩|⟨hn,_⟩
 ·exact ⟨fz q s,Gp hs⟩
 ·exact absurd h hn
theorem tK {α β:Type} {f:α→β} {l:List α} {j:Nat} {d:α} {v:β} (h:j<l.length) (hv:v=f (l.getD j d)):(l.take j).map f++ [v]=(l.take (j+1)).map f:=by
 rw [hv]; exact kz h
end Go.Own
set_option linter.unusedVariables false
set_option linter.unusedSimpArgs false
namespace Go.Own
open Go.IntWalk
theorem Rh:ja.r=(true,((),(limbs dh,())),(false,kU.map gq)):=by kernel_rfl
theorem Ra:iZ.r=(true,((),(limbs iM,())),(false,kT.map gq)):=by kernel_rfl
theorem O5:j6.r (kU.map gq,(limbs dh,()))=(true,limbs jr):=by kernel_rfl
theorem O4:j6.r (kT.map gq,(limbs iM,()))=(true,limbs lD):=by kernel_rfl
theorem O0 (a:List (List Int)) (hl:a.length≤1073741824):cO.r a a=(true,true):=by
 have key:cO.l0 (a,a,false,((0:Nat):Int),()) ()=(true,1,(a,a,false,(a.length:Int),()),(),(false,()),()):=by
  refine bK (g:=fun rq kn ke kr x y=>cO.g0 rq kn ke kr x y) a.length (fun j=>(a,a,false,(j:Int),())) (fun j=>()) _ ?_ ?_ _ 0 (Nat.zero_le _) (by show a.length - 0<((a.length:Int) - ((0:Nat):Int)).toNat+1; omega)
  ·intro j R hj
   have w1:IntKind.i64.wrap ((j:Int)+1)=((j+1:Nat):Int):=i64_in _ (by omega)
   simp only [cO.g0,lt,cK (show (j:Int)<(a.length:Int) by omega),bJ (show (0:Int)≤(j:Int) by omega),cond_true,Bool.and_self,aj,NQ,Bool.not_true,cond_false,w1]
  ·intro R
   simp only [cO.g0,lt,dJ (show ¬ (a.length:Int)<(a.length:Int) by omega),cond_false]
 have k2:cO.l0 (a,a,false,0,()) ()=_:=key
 have c1:((a.length:Int) != (a.length:Int))=false:=by simp
 simp only [cO.r,cO.g,lt,c1,cond_false,k2,aj,show Nat.beq 1 0=false from rfl]
end Go.Own
set_option linter.unusedVariables false
set_option linter.unusedSimpArgs false
namespace Go.Own
open Go.IntWalk
def d16 (n i:Nat):Nat:=n/2^(16*i)%65536
theorem nR (n i:Nat):d16 n i<65536:=Nat.mod_lt _ (by decide)
theorem sU (n i t:Nat):(d16 n i).testBit t=(decide (t<16)&&n.testBit (16*i+t)):=by
 unfold d16
 rw [show (65536:Nat)=2^16 by decide,Nat.testBit_mod_two_pow,Nat.testBit_div_two_pow,Nat.add_comm]
def gm (n:Nat):List Int:=(List.range 32).map fun i=>(d16 n i:Int)
theorem pF {n i:Nat} (h:i<32):(gm n).getD i 0=(d16 n i:Int):=jm h
abbrev Br:Nat:=13407807929942597099574024998205846127479365820592393377723561443721764030073546976801874298166903427690031858186486050853753882811946569946433649006084096
theorem RQ:Br=2^512:=by
 refine Eq.trans ?_ (JY 256 512 rfl).symm
 rw [← vI]; decide
theorem Dp (x:Nat):x&&& 65535=x%65536:=by
 have:=Nat.and_two_pow_sub_one_eq_mod x 16
 exact this
theorem NJ (n k:Nat):limb n (k/4)/2^(16*(k%4))%65536=d16 n k:=by
 apply Nat.eq_of_testBit_eq
 intro t
 rw [show (65536:Nat)=2^16 by decide,Nat.testBit_mod_two_pow,Nat.testBit_div_two_pow,iL,sU]
 have e:64*(k/4)+(t+16*(k%4))=16*k+t:=by omega
 rw [e]
 by_cases h:t<16
 ·have:t+16*(k%4)<64:=by omega
  simp [h,this]
 ·simp [h]
theorem Ov {lo hi k:Nat} (h:k<16):d16 (hi*au+lo) k=d16 lo k:=by
 unfold d16
 have e:au=2^(256 - 16*k)*2^(16*k):=by rw [vI,← Nat.pow_add,Nat.sub_add_cancel (by omega)]
 rw [e,← Nat.mul_assoc,Nat.add_comm,Nat.add_mul_div_right _ _ (Nat.two_pow_pos _)]
 have e2:2^(256 - 16*k)=2^(240 - 16*k)*65536:=by rw [show (65536:Nat)=2^16 by decide,← Nat.pow_add]; congr 1; omega
 rw [e2,← Nat.mul_assoc,Nat.add_mul_mod_self_right]
theorem Ow {lo hi k:Nat} (hl:lo<au):d16 (hi*au+lo) (16+k)=d16 hi k:=by
 unfold d16
 have e:2^(16*(16+k))=au*2^(16*k):=by rw [vI,← Nat.pow_add]; congr 1; omega
 rw [e,← Nat.div_div_eq_div_mul,Nat.add_comm,Nat.add_mul_div_right _ _ (by decide),Nat.div_eq_of_lt hl,Nat.zero_add]
theorem RA (n k:Nat) (hk:k<16):eU .u64 (· &&& ·) ((limb n (k/4):Int).fdiv (2^(min (16*(k%4)) 64))) (65535:Int)=(d16 n k:Int):=by
 have h1:=aQ n (k/4)
 rw [Nat.min_eq_left (by omega),tZ,xh]
 have:=x9 (limb n (k/4)/2^(16*(k%4))) 65535 (Nat.lt_of_le_of_lt (Nat.div_le_self _ _) h1) (by decide)
 rw [show (65535:Int)=((65535:Nat):Int) from rfl,this,Dp,NJ]
def qV (n j:Nat):List Int:=(List.range 32).map fun i=>if i<j∨(16≤i∧i<16+j) then (d16 n i:Int) else 0
theorem Oq (n:Nat):qV n 0=List.replicate 32 0:=by
 unfold qV
 apply List.ext_getElem
 ·simp
 ·intro i h1 h2
  rw [List.getElem_map,List.getElem_range,List.getElem_replicate,if_neg (by omega)]
theorem LU (n:Nat):qV n 16=gm n:=by
 unfold qV gm
 apply List.ext_getElem
 ·simp
 ·intro i h1 h2
  simp at h1 ⊢
  intro h h3; omega
theorem Jl (n j:Nat) (hj:j<16):((qV n j).set j (d16 n j:Int)).set (16+j) (d16 n (16+j):Int)=qV n (j+1):=by
 unfold qV
 rw [rD (g:=fun i=>if i=j∨(i<j∨(16≤i∧i<16+j)) then (d16 n i:Int) else 0) (by omega) (by rw [if_pos (.inl rfl)]) (by intro k _ hk; simp [hk])]
 apply rD (by omega)
 ·rw [if_pos (by omega)]
 ·intro k _ hk
  by_cases h:k=j∨(k<j∨(16≤k∧k<16+j))
  ·rw [if_pos h,if_pos (by omega)]
  ·rw [if_neg h,if_neg (by omega)]
theorem RH (lo hi:Nat) (hl:lo<au):dP.r (limbs lo) (limbs hi)=(true,gm (hi*au+lo)):=by
 obtain ⟨n,hn⟩:∃ n,n=hi*au+lo:=⟨_,rfl⟩
 have key:dP.l0 ((),(),(),(),((0:Nat):Int),()) (limbs lo,limbs hi,List.replicate 32 0,qV n 0,())=(true,1,((),(),(),(),16,()),(limbs lo,limbs hi,List.replicate 32 0,qV n 16,()),(),()):=by
  refine bK (g:=fun rq kn ke kr x y=>dP.g0 rq kn ke kr x y) 16 (fun j=>((),(),(),(),(j:Int),())) (fun j=>(limbs lo,limbs hi,List.replicate 32 0,qV n j,())) _ ?_ ?_ _ 0 (Nat.zero_le _) (by show 16 - 0<((16:Int) - ((0:Nat):Int)).toNat+1; omega)
  ·intro j R hj
   have a1:(j:Int).tdiv 4=((j/4:Nat):Int):=wB j 4
   have a2:(j:Int).tmod 4=((j%4:Nat):Int):=yK j 4
   have a3:IntKind.i64.wrap ((j/4:Nat):Int)=((j/4:Nat):Int):=oW _ (by omega)
   have a4:IntKind.i64.wrap ((16:Int)*((j%4:Nat):Int))=((16*(j%4):Nat):Int):=by rw [i64_in _ (by omega)]; omega
   have a5:IntKind.i64.wrap ((16:Int)+(j:Int))=((16+j:Nat):Int):=by rw [i64_in _ (by omega)]; omega
   have a6:IntKind.i64.wrap ((j:Int)+1)=((j+1:Nat):Int):=i64_in _ (by omega)
   have b1:IntKind.i64.wrap (d16 lo j:Int)=(d16 n j:Int):=by rw [oW _ (Nat.lt_trans (nR _ _) (by decide)),hn,Ov hj]
   have b2:IntKind.i64.wrap (d16 hi j:Int)=(d16 n (16+j):Int):=by rw [oW _ (Nat.lt_trans (nR _ _) (by decide)),hn,Ow hl]
   simp only [dP.g0,lt,cK (show (j:Int)<16 by omega),cond_true,a1,a2,a3,bJ (show (0:Int)≤((j/4:Nat):Int) by omega),cK (show ((j/4:Nat):Int)<4 by omega),Bool.and_self,aj,Int.toNat_natCast,aL lo (j/4) (by omega),aL hi (j/4) (by omega),a4,dJ (show ¬ ((16*(j%4):Nat):Int)<0 by omega),Bool.not_false,RA lo j hj,RA hi j hj,b1,b2,bJ (show (0:Int)≤(j:Int) by omega),cK (show (j:Int)<32 by omega),a5,bJ (show (0:Int)≤((16+j:Nat):Int) by omega),cK (show ((16+j:Nat):Int)<32 by omega),Jl n j hj,a6]
  ·intro R
   simp only [dP.g0,lt,dJ (show ¬ ((16:Nat):Int)<16 by decide),cond_false]
   rfl
 rw [Oq,LU] at key
 have k2:dP.l0 ((),(),(),(),0,()) (limbs lo,limbs hi,List.replicate 32 0,List.replicate 32 0,())=_:=key
 simp only [dP.r,dP.g,lt,k2,aj,← hn]
theorem KS {a B one:Nat} (hB:0<B):(2*a+one)/B=2*(a/B)+(2*(a%B)+one)/B:=by
 have e:2*a+one=(2*(a%B)+one)+B*(2*(a/B)):=by
  have h:=Nat.div_add_mod a B
  have h2:B*(2*(a/B))=2*(B*(a/B)):=Nat.mul_left_comm _ _ _
  rw [h2]
  generalize B*(a/B)=p at*
  omega
 rw [e,Nat.add_mul_div_left _ _ hB,Nat.add_comm]
theorem E5 {a B one:Nat} (hB:0<B):(2*(a%(B*65536))+one)/(B*65536)=(2*(a/B%65536)+(2*(a%B)+one)/B)/65536:=by
 rw [Nat.mod_mul]
 rw [← Nat.div_div_eq_div_mul]
 congr 1
 have e:2*(a%B+B*(a/B%65536))+one=(2*(a%B)+one)+B*(2*(a/B%65536)):=by
  have h2:B*(2*(a/B%65536))=2*(B*(a/B%65536)):=Nat.mul_left_comm _ _ _
  rw [h2]
  generalize B*(a/B%65536)=p at*
  omega
 rw [e,Nat.add_mul_div_left _ _ hB,Nat.add_comm]
def kI (a one j:Nat):Nat:=(2*(a%2^(16*j))+one)/2^(16*j)
theorem vM (j:Nat):2^(16*(j+1))=2^(16*j)*65536:=by rw [show (65536:Nat)=2^16 by decide,← Nat.pow_add]; congr 1
theorem GU (a one j:Nat):kI a one (j+1)=(2*d16 a j+kI a one j)/65536:=by
 unfold kI d16
 rw [vM,E5 (Nat.two_pow_pos _)]
theorem Ox (a one j:Nat):d16 (2*a+one) j=(2*d16 a j+kI a one j)%65536:=by
 unfold kI d16
 rw [KS (Nat.two_pow_pos _)]
 generalize a/2^(16*j)=h
 generalize (2*(a%2^(16*j))+one)/2^(16*j)=c
 omega
theorem LX {a one j:Nat} (h:one≤1):kI a one j≤1:=by
 unfold kI
 have h1:=Nat.mod_lt a (Nat.two_pow_pos (16*j))
 have:=(Nat.div_lt_iff_lt_mul (Nat.two_pow_pos (16*j)) (x:=2*(a%2^(16*j))+one) (y:=2)).2 (by omega)
 omega
def nQ (n j:Nat):List Int:=(List.range 32).map fun i=>if i<j then (d16 n i:Int) else 0
theorem GL (n:Nat):nQ n 0=List.replicate 32 0:=by
 unfold nQ
 apply List.ext_getElem
 ·simp
 ·intro i h1 h2
  rw [List.getElem_map,List.getElem_range,List.getElem_replicate,if_neg (by omega)]
theorem Df (n:Nat):nQ n 32=gm n:=by
 unfold nQ gm
 apply List.ext_getElem
 ·simp
 ·intro i h1 h2
  simp at h1 ⊢
  intro h; omega
theorem wm (n j:Nat) (hj:j<32):(nQ n j).set j (d16 n j:Int)=nQ n (j+1):=by
 unfold nQ
 apply rD hj
 ·rw [if_pos (by omega)]
 ·intro k _ hk
  by_cases h:k<j
  ·rw [if_pos h,if_pos (by omega)]
  ·rw [if_neg h,if_neg (by omega)]
theorem Mf (a one:Nat) (h1:one≤1):di.r (gm a) (one:Int)=(true,gm (2*a+one)):=by
 obtain ⟨n,hn⟩:∃ n,n=2*a+one:=⟨_,rfl⟩
 have key:di.l0 ((),(),(),(kI a one 0:Int),((0:Nat):Int),()) (gm a,List.replicate 32 0,nQ n 0,())=(true,1,((),(),(),(kI a one 32:Int),32,()),(gm a,List.replicate 32 0,nQ n 32,()),(),()):=by
  refine bK (g:=fun rq kn ke kr x y=>di.g0 rq kn ke kr x y) 32 (fun j=>((),(),(),(kI a one j:Int),(j:Int),())) (fun j=>(gm a,List.replicate 32 0,nQ n j,())) _ ?_ ?_ _ 0 (Nat.zero_le _) (by show 32 - 0<((32:Int) - ((0:Nat):Int)).toNat+1; omega)
  ·intro j R hj
   have hd:=nR a j
   have hc:=LX (a:=a) (j:=j) h1
   have a1:IntKind.i64.wrap ((2:Int)*(d16 a j:Int))=((2*d16 a j:Nat):Int):=by rw [i64_in _ (by omega)]; omega
   have a2:IntKind.i64.wrap (((2*d16 a j:Nat):Int)+(kI a one j:Int))=((2*d16 a j+kI a one j:Nat):Int):=by rw [i64_in _ (by omega)]; omega
   have a3:eU .i64 (· &&& ·) ((2*d16 a j+kI a one j:Nat):Int) (65535:Int)=(d16 n j:Int):=by
    have:=AR (2*d16 a j+kI a one j) 65535 (by omega) (by decide)
    rw [show (65535:Int)=((65535:Nat):Int) from rfl,this,Dp,hn,Ox]
   have a4:((2*d16 a j+kI a one j:Nat):Int).fdiv (2^16)=(kI a one (j+1):Int):=by
    rw [tZ,xh,GU]
   have a5:IntKind.i64.wrap ((j:Int)+1)=((j+1:Nat):Int):=i64_in _ (by omega)
   simp only [di.g0,lt,cK (show (j:Int)<32 by omega),bJ (show (0:Int)≤(j:Int) by omega),cond_true,Bool.and_self,aj,Int.toNat_natCast,pF hj,a1,a2,a3,a4,wm n j hj,a5]
  ·intro R
   simp only [di.g0,lt,dJ (show ¬ ((32:Nat):Int)<32 by decide),cond_false]
   rfl
 have c0:kI a one 0=one:=by unfold kI; rw [Nat.mul_zero,Nat.pow_zero,Nat.mod_one,Nat.mul_zero,Nat.zero_add,Nat.div_one]
 rw [GL,Df,c0] at key
 have k2:di.l0 ((),(),(),(one:Int),0,()) (gm a,List.replicate 32 0,List.replicate 32 0,())=_:=key
 simp only [di.r,di.g,lt,k2,aj,← hn]
end Go.Own
set_option linter.unusedVariables false
set_option linter.unusedSimpArgs false
namespace Go.Own
open Go.IntWalk
theorem Kw (a j:Nat):a/2^(16*j)=a/2^(16*(j+1))*65536+d16 a j:=by
 unfold d16
 rw [vM,← Nat.div_div_eq_div_mul]
 have:=Nat.div_add_mod (a/2^(16*j)) 65536
 omega
theorem QN (a b:Nat) (ha:a<Br) (hb:b<Br):dL.r (gm a) (gm b)=(true,decide (a<b)):=by
 obtain ⟨w,hw⟩:∃ w,w=dL.l0 ((),(),false,31,()) (gm a,gm b,()):=⟨_,rfl⟩
 have key:w.1=true∧(bif Nat.beq w.2.1 0 then (true,w.2.2.2.2.1.1) else (true,false))=(true,decide (a<b)):=by
  refine jw (g:=fun rq kn ke kr x y=>dL.g0 rq kn ke kr x y) hw
   (fun x y=>∃ k:Nat,k≤32∧x=((),(),false,(k:Int) - 1,())∧y=(gm a,gm b,())∧a/2^(16*k)=b/2^(16*k)) (fun x y=>(x.2.2.2.1+1).toNat)
   ⟨32,by omega,rfl,rfl,by rw [Nat.div_eq_of_lt (by rw [show 16*32=512 from rfl,← RQ]; exact ha),Nat.div_eq_of_lt (by rw [show 16*32=512 from rfl,← RQ]; exact hb)]⟩ (by show ((31:Int)+1).toNat<((31:Int) - 0+1).toNat+1; omega)
   (Q:=fun w=>w.1=true∧(bif Nat.beq w.2.1 0 then (true,w.2.2.2.2.1.1) else (true,false))=(true,decide (a<b))) ?_
  rintro x y R ⟨k,hk,rfl,rfl,he⟩ hR
  cases k with
  |zero=>
   have e:a=b:=by simpa using he
   simp only [dL.g0,lt,lQ (show ¬ (0:Int)≤((0:Nat):Int) - 1 by omega),cond_false]
   refine ⟨trivial,?_⟩
   rw [decide_eq_false (by omega)]
   rfl
  |succ k=>
   have e0:((k+1:Nat):Int) - 1=(k:Int):=by omega
   have w1:IntKind.i64.wrap ((k:Int) - 1)=(k:Int) - 1:=i64_in _ (by omega)
   have da:=Kw a k
   have db:=Kw b k
   rw [he] at da
   have la:=nR a k
   have lb:=nR b k
   simp only [dL.g0,lt,e0,bJ (show (0:Int)≤(k:Int) by omega),cK (show (k:Int)<32 by omega),cond_true,Bool.and_self,aj,Int.toNat_natCast,pF (show k<32 by omega),w1]
   by_cases h:d16 a k=d16 b k
   ·have hn:((d16 a k:Int) != (d16 b k:Int))=false:=by rw [h]; simp
    simp only [hn,cond_false]
    exact hR _ _ ⟨k,by omega,rfl,rfl,by rw [da,db,h]⟩ (by show ((k:Int) - 1+1).toNat<(((k+1:Nat):Int) - 1+1).toNat; omega)
   ·have hn:((d16 a k:Int) != (d16 b k:Int))=true:=by simp; omega
    simp only [hn,cond_true]
    refine ⟨trivial,?_⟩
    show (true,ilt (d16 a k:Int) (d16 b k:Int))=_
    congr 1
    rw [Bool.eq_iff_iff,Kj,decide_eq_true_iff]
    constructor
    ·intro h1
     have h2:a/2^(16*k)<b/2^(16*k):=by rw [da,db]; omega
     exact Nat.lt_of_div_lt_div h2
    ·intro h1
     have h2:a/2^(16*k)≤b/2^(16*k):=Nat.div_le_div_right (Nat.le_of_lt h1)
     rw [da,db] at h2
     omega
 simp only [dL.r,dL.g,lt,← hw,key.1,aj]
 exact key.2
theorem lex {B x y u v:Nat} (hx:x<B) (hy:y<B):x+B*u<y+B*v↔u<v∨(u=v∧x<y):=by
 rcases Nat.lt_trichotomy u v with h|h|h
 ·have:=Nat.mul_le_mul_left B (show u+1≤v from h)
  rw [Nat.mul_add] at this
  constructor
  ·intro _; exact .inl h
  ·intro _; omega
 ·subst h
  constructor
  ·intro h; exact .inr ⟨rfl,by omega⟩
  ·rintro (h|⟨_,h⟩)<;>omega
 ·have:=Nat.mul_le_mul_left B (show v+1≤u from h)
  rw [Nat.mul_add] at this
  constructor
  ·intro _; omega
  ·rintro (h2|⟨h2,_⟩)<;>omega
def bor (a b j:Nat):Nat:=if a%2^(16*j)<b%2^(16*j) then 1 else 0
theorem OC (a b j:Nat):bor a b (j+1)=if d16 a j<d16 b j+bor a b j then 1 else 0:=by
 have hB:=Nat.two_pow_pos (16*j)
 unfold bor d16
 rw [vM,Nat.mod_mul,Nat.mod_mul]
 have l:=lex (u:=a/2^(16*j)%65536) (v:=b/2^(16*j)%65536) (Nat.mod_lt a hB) (Nat.mod_lt b hB)
 by_cases h:a%2^(16*j)<b%2^(16*j)
 ·rw [if_pos h]
  by_cases h2:a/2^(16*j)%65536<b/2^(16*j)%65536+1
  ·rw [if_pos h2,if_pos (l.2 (by omega))]
  ·rw [if_neg h2,if_neg (fun h3=>by have:=l.1 h3; omega)]
 ·rw [if_neg h]
  by_cases h2:a/2^(16*j)%65536<b/2^(16*j)%65536+0
  ·rw [if_pos h2,if_pos (l.2 (by omega))]
  ·rw [if_neg h2,if_neg (fun h3=>by have:=l.1 h3; omega)]
theorem P8 {a b:Nat} (h:b≤a) (j:Nat):d16 (a - b) j=if d16 a j<d16 b j+bor a b j then d16 a j+65536 - d16 b j - bor a b j else d16 a j - d16 b j - bor a b j:=by
 have hB:=Nat.two_pow_pos (16*j)
 have e:(a - b)/2^(16*j)=a/2^(16*j) - b/2^(16*j) - bor a b j∧b/2^(16*j)+bor a b j≤a/2^(16*j):=by
  unfold bor
  have h1:=Nat.div_add_mod a (2^(16*j))
  have h2:=Nat.div_add_mod b (2^(16*j))
  have h3:=Nat.mod_lt a hB
  have h4:=Nat.mod_lt b hB
  have h5:=Nat.div_le_div_right (c:=2^(16*j)) h
  generalize a/2^(16*j)=ha at*
  generalize b/2^(16*j)=hb at*
  generalize a%2^(16*j)=la at*
  generalize b%2^(16*j)=lb at*
  generalize 2^(16*j)=B at*
  obtain ⟨c,rfl⟩:∃ c,ha=hb+c:=⟨ha - hb,by omega⟩
  rw [Nat.mul_add] at h1
  by_cases h6:la<lb
  ·rw [if_pos h6]
   cases c with
   |zero=>omega
   |succ c=>
    rw [Nat.mul_succ] at h1
    have:a - b=(B+la - lb)+B*c:=by omega
    rw [this,Nat.add_mul_div_left _ _ hB,Nat.div_eq_of_lt (by omega)]
    omega
  ·rw [if_neg h6]
   have:a - b=(la - lb)+B*c:=by omega
   rw [this,Nat.add_mul_div_left _ _ hB,Nat.div_eq_of_lt (by omega)]
   omega
 have hw:bor a b j=0∨bor a b j=1:=by unfold bor; split<;>omega
 unfold d16
 rw [e.1]
 have e2:=e.2
 generalize bor a b j=w at*
 generalize a/2^(16*j)=ha at*
 generalize b/2^(16*j)=hb at*
 split<;>omega
theorem Sr (a b:Nat) (h:b≤a):dG.r (gm a) (gm b)=(true,gm (a - b)):=by
 obtain ⟨n,hn⟩:∃ n,n=a - b:=⟨_,rfl⟩
 have key:dG.l0 ((),(),(),(bor a b 0:Int),(),((0:Nat):Int),()) (gm a,gm b,List.replicate 32 0,nQ n 0,())=(true,1,((),(),(),(bor a b 32:Int),(),32,()),(gm a,gm b,List.replicate 32 0,nQ n 32,()),(),()):=by
  refine bK (g:=fun rq kn ke kr x y=>dG.g0 rq kn ke kr x y) 32 (fun j=>((),(),(),(bor a b j:Int),(),(j:Int),())) (fun j=>(gm a,gm b,List.replicate 32 0,nQ n j,())) _ ?_ ?_ _ 0 (Nat.zero_le _) (by show 32 - 0<((32:Int) - ((0:Nat):Int)).toNat+1; omega)
  ·intro j R hj
   have la:=nR a j
   have lb:=nR b j
   have hw:bor a b j≤1:=by unfold bor; split<;>omega
   have sd:=P8 h j
   have bs:=OC a b j
   rw [← hn] at sd
   have a1:IntKind.i64.wrap ((d16 a j:Int) - (d16 b j:Int))=(d16 a j:Int) - (d16 b j:Int):=i64_in _ (by omega)
   have a2:IntKind.i64.wrap ((d16 a j:Int) - (d16 b j:Int) - (bor a b j:Int))=(d16 a j:Int) - (d16 b j:Int) - (bor a b j:Int):=i64_in _ (by omega)
   have a5:IntKind.i64.wrap ((j:Int)+1)=((j+1:Nat):Int):=i64_in _ (by omega)
   simp only [dG.g0,lt,cK (show (j:Int)<32 by omega),bJ (show (0:Int)≤(j:Int) by omega),cond_true,Bool.and_self,aj,Int.toNat_natCast,pF hj,a1,a2,a5]
   by_cases hc:d16 a j<d16 b j+bor a b j
   ·rw [if_pos hc] at sd bs
    have a3:IntKind.i64.wrap ((d16 a j:Int) - (d16 b j:Int) - (bor a b j:Int)+65536)=(d16 n j:Int):=by rw [i64_in _ (by omega),sd]; omega
    have hb1:(1:Int)=(bor a b (j+1):Int):=by rw [bs]; rfl
    simp only [cK (show (d16 a j:Int) - (d16 b j:Int) - (bor a b j:Int)<0 by omega),cond_true,a3,wm n j hj]
    rw [← hb1]
   ·rw [if_neg hc] at sd bs
    have a3:(d16 a j:Int) - (d16 b j:Int) - (bor a b j:Int)=(d16 n j:Int):=by rw [sd]; omega
    have hb1:(0:Int)=(bor a b (j+1):Int):=by rw [bs]; rfl
    simp only [a3,dJ (show ¬ (d16 n j:Int)<0 by omega),cond_false,wm n j hj]
    rw [← hb1]
  ·intro R
   simp only [dG.g0,lt,dJ (show ¬ ((32:Nat):Int)<32 by decide),cond_false]
   rfl
 have c0:bor a b 0=0:=by unfold bor; rw [Nat.mul_zero,Nat.pow_zero,Nat.mod_one,Nat.mod_one]; rfl
 rw [GL,Df,c0] at key
 have k2:dG.l0 ((),(),(),0,(),0,()) (gm a,gm b,List.replicate 32 0,List.replicate 32 0,())=_:=key
 simp only [dG.r,dG.g,lt,k2,aj,← hn]
end Go.Own
set_option linter.unusedVariables false
set_option linter.unusedSimpArgs false
namespace Go.Own
open Go.IntWalk
theorem Ou (n m i:Nat):d16 (n||| m) i=d16 n i||| d16 m i:=by
 apply Nat.eq_of_testBit_eq
 intro t
 simp only [sU,Nat.testBit_or,Bool.and_or_distrib_left]
theorem Ky (k j:Nat):d16 (2^k) j=if k/16=j then 2^(k%16) else 0:=by
 apply Nat.eq_of_testBit_eq
 intro t
 rw [sU,Nat.testBit_two_pow]
 split
 ·rw [Nat.testBit_two_pow,Bool.eq_iff_iff]
  simp only [Bool.and_eq_true,decide_eq_true_eq]
  omega
 ·rw [Nat.zero_testBit,Bool.eq_false_iff]
  simp only [ne_eq,Bool.and_eq_true,decide_eq_true_eq]
  omega
theorem QH {Q k:Nat} (hk:k<512):(gm Q).set (k/16) ((d16 Q (k/16)||| 2^(k%16):Nat):Int)=gm (Q||| 2^k):=by
 unfold gm
 apply rD (by omega)
 ·rw [Ou,Ky,if_pos rfl]
 ·intro i _ hi
  rw [Ou,Ky,if_neg (fun h=>hi h.symm),Nat.or_zero]
theorem Oo {Q q k:Nat} (hQ:Q=q*2^(k+1)) (hk:k<512):(gm Q).set (k/16) ((d16 Q (k/16)||| 2^(k%16):Nat):Int)=gm ((2*q+1)*2^k):=by
 rw [QH hk,Iy (by rw [hQ]; exact Nat.mul_mod_left _ _),hQ,Nat.pow_succ]
 congr 1
 generalize 2^k=p
 grind
def lF (N a i:Nat):Nat:=a/2^(N - i)
theorem K9 {N a i:Nat} (h:i<N):lF N a (i+1)=2*lF N a i+(a.testBit (N - 1 - i)).toNat:=by
 unfold lF
 have e:a/2^(N - i)=a/2^(N - (i+1))/2:=by
  rw [show N - i=N - (i+1)+1 by omega,Nat.pow_succ,Nat.div_div_eq_div_mul]
 have e2:(a.testBit (N - 1 - i)).toNat=a/2^(N - (i+1))%2:=by
  rw [show N - (i+1)=N - 1 - i by omega,Nat.testBit_eq_decide_div_mod_eq]
  have:a/2^(N - 1 - i)%2=0∨a/2^(N - 1 - i)%2=1:=by omega
  rcases this with h|h<;>rw [h]<;>rfl
 rw [e2,e]
 omega
theorem G8 {a K:Nat}:d16 a (K/16)/2^(K%16)&&& 1=(a.testBit K).toNat:=by
 rw [and_one,Nat.testBit_div_two_pow,sU]
 have:decide (0+K%16<16)=true:=by simp; omega
 rw [this,Bool.true_and,show 16*(K/16)+(0+K%16)=K by omega]
theorem Fx {N a m:Nat} (hN:N=512) (hm0:0<m) (hm:m<au) (j:Nat) (hj:j<N) (z:List Int) {Z:Type} (kn:aP.X0→aP.Y0→Bool×Z) (ke:Nat→aP.X0→aP.Y0→Bool×Z) (kr:aP.U0→aP.V0→Bool×Z):
  aP.g0 chk kn ke kr ((),(),(),(),(),(),(511:Int) - (j:Int),()) (gm a,gm m,z,z,gm (lF N a j/m*2^(N - j)),gm (lF N a j%m),())=
   kn ((),(),(),(),(),(),(511:Int) - ((j+1:Nat):Int),()) (gm a,gm m,z,z,gm (lF N a (j+1)/m*2^(N - (j+1))),gm (lF N a (j+1)%m),()):=by
 obtain ⟨K,hK⟩:∃ K,K=N - 1 - j:=⟨_,rfl⟩
 have hKl:K<512:=by omega
 have k1:(511:Int) - (j:Int)=(K:Int):=by omega
 have k2:(511:Int) - ((j+1:Nat):Int)=(K:Int) - 1:=by omega
 have hL:=Nat.mod_lt (lF N a j) hm0
 have hS:=Cs (N:=lF N a j) (b:=(a.testBit K).toNat) hm0 (by cases a.testBit K<;>decide)
 rw [hK,← K9 hj,← hK] at hS
 have hb1:(a.testBit K).toNat≤1:=by cases a.testBit K<;>decide
 obtain ⟨b,hb⟩:∃ b,b=(a.testBit K).toNat:=⟨_,rfl⟩
 rw [← hb] at hS hb1
 have hQ:=Oo (Q:=lF N a j/m*2^(N - j)) (q:=lF N a j/m) (k:=K) (by rw [show K+1=N - j by omega]) hKl
 have d1:=nR a (K/16)
 have d2:=nR (lF N a j/m*2^(N - j)) (K/16)
 have p2:2^(K%16)<65536:=Nat.lt_of_lt_of_le (Nat.pow_lt_pow_right (by decide) (show K%16<16 by omega)) (by decide)
 have a1:(K:Int).tdiv 16=((K/16:Nat):Int):=wB K 16
 have a2:(K:Int).tmod 16=((K%16:Nat):Int):=yK K 16
 have a3:IntKind.i64.wrap ((K/16:Nat):Int)=((K/16:Nat):Int):=oW _ (by omega)
 have a4:eU .i64 (· &&& ·) ((d16 a (K/16):Int).fdiv (2^(min (K%16) 64))) (1:Int)=(b:Int):=by
  rw [Nat.min_eq_left (by omega),tZ,xh,yU _ (Nat.lt_of_le_of_lt (Nat.div_le_self _ _) (by omega)),G8,hb]
 have a5:IntKind.i64.wrap ((1:Int)*2^(min (K%16) 64))=((2^(K%16):Nat):Int):=by
  rw [Nat.min_eq_left (by omega),Int.one_mul,tZ]; exact oW _ (by omega)
 have a6:=CW (d16 (lF N a j/m*2^(N - j)) (K/16)) (2^(K%16)) (by omega) (by omega)
 have a7:IntKind.i64.wrap ((K:Int) - 1)=(K:Int) - 1:=i64_in _ (by omega)
 have tw:=Mf (lF N a j%m) b hb1
 have hV:2*(lF N a j%m)+b<Br:=by unfold Br; unfold au at hm; omega
 have bl:=QN (2*(lF N a j%m)+b) m hV (by unfold Br; unfold au at hm; omega)
 have ek:N - (j+1)=K:=by omega
 have i1:(ile 0 ((K/16:Nat):Int)&&ilt ((K/16:Nat):Int) 32)=true:=by rw [bJ (by omega),cK (by omega)]; rfl
 rw [k1,k2]
 simp only [aP.g0,lt,bJ (show (0:Int)≤(K:Int) by omega),cond_true,a1,a2,a3,i1,aj,Int.toNat_natCast,pF (show K/16<32 by omega),a4,dJ (show ¬ ((K%16:Nat):Int)<0 by omega),Bool.not_false,tw,bl]
 by_cases hc:2*(lF N a j%m)+b<m
 ·rw [if_pos hc,if_pos hc] at hS
  have e1:lF N a j/m*2^(N - j)=lF N a (j+1)/m*2^(N - (j+1)):=by
   rw [hS.1,show N - j=N - (j+1)+1 by omega,Nat.pow_succ,Nat.add_zero]
   generalize 2^(N - (j+1))=p
   generalize lF N a j/m=q
   grind
  simp only [hc,decide_true,Bool.not_true,cond_false,hS.2,e1,a7]
 ·rw [if_neg hc,if_neg hc] at hS
  have ls:=Sr (2*(lF N a j%m)+b) m (by omega)
  simp only [hc,decide_false,Bool.not_false,cond_true,ls,aj,a5,a6,hQ,hS.1,hS.2,ek,a7]
theorem Qf (N a m n:Nat) (hN:N=512) (hm0:0<m) (hm:m<au) (hn:n=N) (z:List Int):
  aP.l0 ((),(),(),(),(),(),(511:Int) - ((0:Nat):Int),()) (gm a,gm m,z,z,gm (lF N a 0/m*2^(N - 0)),gm (lF N a 0%m),())=
   (true,1,((),(),(),(),(),(),(511:Int) - (n:Int),()),(gm a,gm m,z,z,gm (lF N a n/m*2^(N - n)),gm (lF N a n%m),()),(),()):=by
 have hf:n - 0<aP.fu0 ((),(),(),(),(),(),(511:Int) - ((0:Nat):Int),()) (gm a,gm m,z,z,gm (lF N a 0/m*2^(N - 0)),gm (lF N a 0%m),()):=by
  show n - 0<((511:Int) - ((0:Nat):Int) - 0+1).toNat+1
  omega
 refine bK (g:=fun rq kn ke kr x y=>aP.g0 rq kn ke kr x y) n (fun j=>((),(),(),(),(),(),(511:Int) - (j:Int),())) (fun j=>(gm a,gm m,z,z,gm (lF N a j/m*2^(N - j)),gm (lF N a j%m),())) _ ?_ ?_ _ 0 (Nat.zero_le _) hf
 ·intro j R hj
  exact Fx hN hm0 hm j (by omega) z _ _ _
 ·intro R
  simp only [aP.g0,lt,lQ (show ¬ (0:Int)≤(511:Int) - (n:Int) by omega),cond_false]
theorem LQ:gm 0=List.replicate 32 0:=by kernel_rfl
theorem K4 (a m:Nat) (ha:a<Br) (hm0:0<m) (hm:m<au):aP.r (gm a) (gm m)=(true,gm (a/m),gm (a%m)):=by
 obtain ⟨N,hN⟩:∃ N,N=512:=⟨_,rfl⟩
 have key:=Qf N a m N hN hm0 hm rfl (List.replicate 32 0)
 have e0:lF N a 0=0:=by
  unfold lF
  rw [Nat.sub_zero,hN,← RQ]
  exact Nat.div_eq_of_lt ha
 have e1:lF N a N=a:=by
  unfold lF
  rw [Nat.sub_self,Nat.pow_zero,Nat.div_one]
 rw [e0,e1,Nat.zero_div,Nat.zero_mul,Nat.zero_mod,LQ,Nat.sub_self,Nat.pow_zero,Nat.mul_one] at key
 have k2:aP.l0 ((),(),(),(),(),(),511,()) (gm a,gm m,List.replicate 32 0,List.replicate 32 0,List.replicate 32 0,List.replicate 32 0,())=_:=key
 simp only [aP.r,aP.g,lt,k2,aj]
theorem Sq (x j i:Nat):limb (d16 x j*2^(16*j)) i=if j/4=i then d16 x j*2^(16*(j%4)) else 0:=by
 apply Nat.eq_of_testBit_eq
 intro t
 rw [iL,Nat.testBit_mul_two_pow]
 split
 ·rename_i h
  rw [Nat.testBit_mul_two_pow]
  rw [show 64*i+t - 16*j=t - 16*(j%4) by omega]
  by_cases h2:16*(j%4)≤t
  ·have h3:16*j≤64*i+t:=by omega
   rw [decide_eq_true h2,decide_eq_true h3]
   by_cases h4:t<64
   ·rw [decide_eq_true h4]; rfl
   ·rw [sU,decide_eq_false h4,decide_eq_false (show ¬ t - 16*(j%4)<16 by omega)]; rfl
  ·have h3:¬ 16*j≤64*i+t:=by omega
   rw [decide_eq_false h2,decide_eq_false h3]; simp
 ·rename_i h
  rw [Nat.zero_testBit]
  by_cases h3:16*j≤64*i+t
  ·by_cases h4:t<64
   ·rw [sU,decide_eq_false (show ¬ 64*i+t - 16*j<16 by omega)]; simp
   ·rw [decide_eq_false h4]; rfl
  ·rw [decide_eq_false h3]; simp
theorem Sl (x j:Nat):x%2^(16*j)||| d16 x j*2^(16*j)=x%2^(16*(j+1)):=by
 apply Nat.eq_of_testBit_eq
 intro t
 rw [Nat.testBit_or,Nat.testBit_mod_two_pow,Nat.testBit_mul_two_pow,Nat.testBit_mod_two_pow,sU]
 by_cases h:t<16*j
 ·rw [decide_eq_true h,decide_eq_false (show ¬ 16*j≤t by omega),decide_eq_true (show t<16*(j+1) by omega)]; simp
 ·rw [decide_eq_false h,decide_eq_true (show 16*j≤t by omega),show 16*j+(t - 16*j)=t by omega]
  by_cases h2:t<16*(j+1)
  ·rw [decide_eq_true h2,decide_eq_true (show t - 16*j<16 by omega)]; simp
  ·rw [decide_eq_false h2,decide_eq_false (show ¬ t - 16*j<16 by omega)]; simp
theorem Ea {n m v k:Nat} (hk:k<4) (hm:∀ i,limb m i=if k=i then v else 0):(limbs n).set k ((limb n k||| v:Nat):Int)=limbs (n||| m):=by
 unfold limbs
 simp only [Kh,hm]
 have h:k=0∨k=1∨k=2∨k=3:=by omega
 rcases h with rfl|rfl|rfl|rfl<;>simp
theorem Cn (x j:Nat) (hj:j<16):(limbs (x%2^(16*j))).set (j/4) ((limb (x%2^(16*j)) (j/4)||| d16 x j*2^(16*(j%4)):Nat):Int)=limbs (x%2^(16*(j+1))):=by
 rw [Ea (by omega) (m:=d16 x j*2^(16*j)) (fun i=>Sq x j i),Sl]
theorem Tm (n:Nat) (hn:n<Br):dH.r (gm n)=(true,limbs (n%au),limbs (n/au)):=by
 obtain ⟨lo,hlo⟩:∃ lo,lo=n%au:=⟨_,rfl⟩
 obtain ⟨hi,hhi⟩:∃ hi,hi=n/au:=⟨_,rfl⟩
 have hn2:n=hi*au+lo:=by rw [hlo,hhi,Nat.mul_comm]; exact (Nat.div_add_mod n au).symm
 have hl:lo<au:=by rw [hlo]; exact Nat.mod_lt _ (by decide)
 have hh:hi<au:=by
  rw [hhi,Nat.div_lt_iff_lt_mul (by decide)]
  exact Nat.lt_of_lt_of_le hn (by decide)
 obtain ⟨N,hN⟩:∃ N,N=16:=⟨_,rfl⟩
 have key:dH.l0 ((),(),(),(),(),((0:Nat):Int),()) (gm n,[0,0,0,0],[0,0,0,0],limbs (lo%2^(16*0)),limbs (hi%2^(16*0)),())=(true,1,((),(),(),(),(),(N:Int),()),(gm n,[0,0,0,0],[0,0,0,0],limbs (lo%2^(16*N)),limbs (hi%2^(16*N)),()),(),()):=by
  refine bK (g:=fun rq kn ke kr x y=>dH.g0 rq kn ke kr x y) N (fun j=>((),(),(),(),(),(j:Int),())) (fun j=>(gm n,[0,0,0,0],[0,0,0,0],limbs (lo%2^(16*j)),limbs (hi%2^(16*j)),())) _ ?_ ?_ _ 0 (Nat.zero_le _) (by show N - 0<SB (((16:Int) - ((0:Nat):Int)).toNat+1); rw [Qx]; omega)
  ·intro j R hj
   have a1:(j:Int).tdiv 4=((j/4:Nat):Int):=wB j 4
   have a2:(j:Int).tmod 4=((j%4:Nat):Int):=yK j 4
   have a3:IntKind.i64.wrap ((j/4:Nat):Int)=((j/4:Nat):Int):=oW _ (by omega)
   have a4:IntKind.i64.wrap ((16:Int)*((j%4:Nat):Int))=((16*(j%4):Nat):Int):=by rw [i64_in _ (by omega)]; omega
   have a5:IntKind.i64.wrap ((16:Int)+(j:Int))=((16+j:Nat):Int):=by rw [i64_in _ (by omega)]; omega
   have a6:IntKind.i64.wrap ((j:Int)+1)=((j+1:Nat):Int):=i64_in _ (by omega)
   have pw:∀ x:Nat,x<65536→x*2^(16*(j%4))<18446744073709551616:=by
    intro x hx
    have h1:2^(16*(j%4))≤281474976710656:=Nat.le_trans (Nat.pow_le_pow_right (by decide) (show 16*(j%4)≤48 by omega)) (by decide)
    have h2:=Nat.mul_le_mul (show x≤65535 by omega) h1
    omega
   have sh:∀ x:Nat,x<65536→IntKind.u64.wrap (IntKind.u64.wrap (x:Int)*2^(min (16*(j%4)) 64))=((x*2^(16*(j%4)):Nat):Int):=by
    intro x hx
    rw [su x (by omega),Nat.min_eq_left (by omega),tZ,← Int.natCast_mul]
    exact su _ (pw x hx)
   have b1:d16 n j=d16 lo j:=by rw [hn2,Ov (by omega)]
   have b2:d16 n (16+j)=d16 hi j:=by rw [hn2,Ow hl]
   have i1:(ile 0 ((j/4:Nat):Int)&&ilt ((j/4:Nat):Int) 4)=true:=by rw [bJ (by omega),cK (by omega)]; rfl
   have i2:(ile 0 (j:Int)&&ilt (j:Int) 32)=true:=by rw [bJ (by omega),cK (by omega)]; rfl
   have i3:(ile 0 ((16+j:Nat):Int)&&ilt ((16+j:Nat):Int) 32)=true:=by rw [bJ (by omega),cK (by omega)]; rfl
   simp only [dH.g0,lt,cK (show (j:Int)<16 by omega),cond_true,a1,a2,a3,i1,i2,i3,a5,aj,Int.toNat_natCast,aL _ (j/4) (show j/4<4 by omega),pF (show j<32 by omega),pF (show 16+j<32 by omega),a4,b1,b2,sh _ (nR lo j),sh _ (nR hi j),dJ (show ¬ ((16*(j%4):Nat):Int)<0 by omega),Bool.not_false,oC _ _ (aQ _ _) (pw _ (nR lo j)),oC _ _ (aQ _ _) (pw _ (nR hi j)),Cn lo j (by omega),Cn hi j (by omega),a6]
  ·intro R
   simp only [dH.g0,lt,dJ (show ¬ (N:Int)<16 by omega),cond_false]
 have e0:∀ x:Nat,x%2^(16*0)=0:=fun x=>by rw [Nat.mul_zero,Nat.pow_zero,Nat.mod_one]
 have e1:∀ x:Nat,x<au→x%2^(16*N)=x:=fun x hx=>by rw [hN]; exact Nat.mod_eq_of_lt (by rw [show 16*16=256 from rfl,← vI]; exact hx)
 rw [e0,e0,e1 lo hl,e1 hi hh,eG] at key
 have k2:dH.l0 ((),(),(),(),(),0,()) (gm n,[0,0,0,0],[0,0,0,0],[0,0,0,0],[0,0,0,0],())=_:=key
 simp only [dH.r,dH.g,lt,k2,aj,← hlo,← hhi]
theorem S9 (lo hi m:Nat) (hlo:lo<au) (hhi:hi<au) (hm:m<au) (h0:0<m):iU.r (limbs lo) (limbs hi) (limbs m)=(true,limbs ((hi*au+lo)%m),0):=by
 have e1:=RH lo hi hlo
 have e2:=RH m 0 hm
 rw [eG,Nat.zero_mul,Nat.zero_add] at e2
 have hN:hi*au+lo<Br:=by
  have:=Nat.mul_le_mul_right au (show hi+1≤au from hhi)
  rw [Nat.add_mul,Nat.one_mul] at this
  have w:au*au=Br:=by decide
  rw [w] at this
  exact Nat.lt_of_lt_of_le (Nat.add_lt_add_left hlo _) this
 have hR:=Nat.mod_lt (hi*au+lo) h0
 have e4:=Tm ((hi*au+lo)%m) (by unfold Br; unfold au at hm; omega)
 rw [Nat.mod_eq_of_lt (show (hi*au+lo)%m<au from Nat.lt_trans hR hm)] at e4
 simp only [iU.r,iU.g,lt,eqZ hm,decide_eq_false (show ¬ m=0 by omega),cond_false,e1,e2,aj,K4 _ m hN h0 hm,e4]
end Go.Own
set_option linter.unusedVariables false
set_option linter.unusedSimpArgs false
namespace Go.Own
open Go.IntWalk
theorem UK (a q:Nat) (ha:a<au) (hq:0<q) (hq2:q<9223372036854775808):jg.r (limbs a) (q:Int)=(true,((a%q:Nat):Int)):=by
 have hqW:q<au:=Nat.lt_trans hq2 (by decide)
 have e1:=Pt (q:Int) (by omega)
 rw [Int.toNat_natCast] at e1
 have e2:=S9 a 0 q ha (by decide) hqW hq
 rw [eG,Nat.zero_mul,Nat.zero_add] at e2
 have hm:=Nat.mod_lt a hq
 have e3:=xH (a%q) (Nat.lt_trans hm hqW)
 rw [if_pos (by omega)] at e3
 simp only [jg.r,jg.g,lt,e1,e2,e3,aj]
theorem EG (a b m:Nat) (h0:0<m) (hm:m<9223372036854775808):dU.r (a:Int) (b:Int) (m:Int)=(true,((a*b%m:Nat):Int)):=by
 have ha:=Nat.mod_lt a h0
 have hb:=Nat.mod_lt b h0
 have hp:a%m*(b%m)<m*18446744073709551616:=Nat.lt_of_lt_of_le (Nat.mul_lt_mul_of_lt_of_lt ha hb) (Nat.mul_le_mul_left m (by omega))
 have hh:a%m*(b%m)/18446744073709551616<m:=by rw [Nat.div_lt_iff_lt_mul (by decide)]; exact hp
 have e:a%m*(b%m)/18446744073709551616*18446744073709551616+a%m*(b%m)%18446744073709551616=a%m*(b%m):=by rw [Nat.mul_comm]; exact Nat.div_add_mod _ _
 have d:=KL (a%m*(b%m)/18446744073709551616) (a%m*(b%m)%18446744073709551616) m hh (Nat.mod_lt _ (by decide)) (by omega)
 rw [e,← Nat.mul_mod] at d
 have hr:=Nat.mod_lt (a*b) h0
 have z:ieq (m:Int) 0=false:=Gr (by omega)
 simp only [dU.r,dU.g,lt,yK,z,Bool.not_false,aj,su (a%m) (by omega),su (b%m) (by omega),ve (a%m) (b%m) (by omega) (by omega),su m (by omega),d,oW (a*b%m) (by omega)]
theorem Ap:∀ (f:List (List Int)),(∀ a∈f,Ty.ok (.arr 4 (.int .u64)) a)→∃ l:List Nat,f=l.map limbs∧∀ a∈l,a<au
 | [],_=>⟨[],rfl,by simp⟩
 |a::f,h=>by
  obtain ⟨l,rfl,hl⟩:=Ap f fun b hb=>h b (by simp [hb])
  obtain ⟨n,hn,rfl⟩:=FX (h a (by simp))
  refine ⟨n::l,rfl,?_⟩
  intro b hb
  rcases List.mem_cons.1 hb with rfl|hb
  ·exact hn
  ·exact hl b hb
end Go.Own
set_option linter.unusedVariables false
set_option linter.unusedSimpArgs false
namespace Go.Own
open Go.IntWalk
end Go.Own
set_option linter.unusedVariables false
set_option linter.unusedSimpArgs false
namespace Go.Own
open Go.IntWalk
end Go.Own
set_option linter.unusedVariables false
set_option linter.unusedSimpArgs false
namespace Go.Own
open Go.IntWalk
theorem Ht (xs:List Int) (least:Int) (hl:xs.length≤1073741824):kE.r xs least=(true,xs.any fun x=>decide (x<least)||decide (7<x)):=by
 have o1:∀ x:Int,iy.r x least=(true,(decide (x<least)||decide (7<x)),least):=by
  intro x
  by_cases h:x<least
  ·simp only [iy.r,iy.g,lt,cK h,cond_true,decide_eq_true h,Bool.true_or]
  ·simp only [iy.r,iy.g,lt,dJ h,cond_false,decide_eq_false h,Bool.false_or]; rfl
 obtain ⟨w,hw⟩:∃ w,w=bY.l0 (xs,(),0,(xs.length:Int),0,()) (least,()):=⟨_,rfl⟩
 have key:w.1=true∧((w.2.1=0∧0≤w.2.2.2.2.1.1∧(xs.any fun x=>decide (x<least)||decide (7<x))=true)∨(w.2.1=1∧(xs.any fun x=>decide (x<least)||decide (7<x))=false)):=by
  refine jw (g:=fun rq kn ke kr x y=>bY.g0 rq kn ke kr x y) hw
   (fun x y=>∃ j:Nat,j≤xs.length∧x=(xs,(),0,(xs.length:Int),(j:Int),())∧y=(least,())∧∀ i,i<j→(decide (xs.getD i 0<least)||decide (7<xs.getD i 0))=false)
   (fun x y=>xs.length - x.2.2.2.2.1.toNat)
   ⟨0,Nat.zero_le _,rfl,rfl,fun i h=>absurd h (Nat.not_lt_zero _)⟩ (by show xs.length - ((0:Int)).toNat<((xs.length:Int) - (0:Int)).toNat+1; omega)
   (Q:=fun w=>w.1=true∧((w.2.1=0∧0≤w.2.2.2.2.1.1∧(xs.any fun x=>decide (x<least)||decide (7<x))=true)∨(w.2.1=1∧(xs.any fun x=>decide (x<least)||decide (7<x))=false))) ?_
  rintro x y R ⟨j,hj,rfl,rfl,ha⟩ hR
  by_cases hlt:j<xs.length
  ·have w1:IntKind.i64.wrap ((j:Int)+1)=((j+1:Nat):Int):=i64_in _ (by omega)
   simp only [bY.g0,lt,cK (show (j:Int)<(xs.length:Int) by omega),cond_true,bJ (show (0:Int)≤(j:Int) by omega),Bool.and_self,aj,Int.toNat_natCast,o1,w1]
   cases hc:(decide (xs.getD j 0<least)||decide (7<xs.getD j 0)) with
   |true=>
    simp only [cond_true]
    refine ⟨trivial,.inl ⟨trivial,Int.natCast_nonneg j,?_⟩⟩
    rw [List.any_eq_true]
    exact ⟨_,by rw [getD_lt hlt]; exact List.getElem_mem _,hc⟩
   |false=>
    simp only [cond_false]
    refine hR _ _ ⟨j+1,hlt,rfl,rfl,fun i hi=> ?_⟩ ?_
    ·rcases Nat.lt_or_ge i j with h|h
     ·exact ha i h
     ·rw [show i=j by omega]; exact hc
    ·show xs.length - (((j+1:Nat):Int)).toNat<xs.length - ((j:Int)).toNat
     omega
  ·simp only [bY.g0,lt,dJ (show ¬ (j:Int)<(xs.length:Int) by omega),cond_false]
   refine ⟨trivial,.inr ⟨trivial,?_⟩⟩
   rw [List.any_eq_false]
   intro x hx
   obtain ⟨i,hi,rfl⟩:=List.getElem_of_mem hx
   have:=ha i (by omega)
   rw [getD_lt hi] at this
   rw [this]; decide
 obtain ⟨k1,k2⟩:=key
 simp only [kE.r,kE.g,fT.r,fT.g,bY.r,bY.g,lt,← hw,k1,aj]
 rcases k2 with ⟨k2,k3,k4⟩|⟨k2,k4⟩
 ·simp only [k2,k4,show Nat.beq 0 0=true from rfl,cond_true,bJ k3,aj]
 ·simp only [k2,k4,show Nat.beq 1 0=false from rfl,cond_false,lQ (show ¬ (0:Int)≤ -1 by decide),aj]
theorem JH {n k:Nat} (hkn:k<n) (hn:n≤1073741824) {L:List Int} (hL:L.length=n) (fl:Bool) {w:_} (hw:w=aD.l1 ((),(),(k:Int),(k,n - k),1,()) ((fl,L),())):
  w.1=true∧∃ (k':Nat),w.2.2.1.2.2.1=(k':Int)∧k'<n∧w.2.2.2.1.1.2.length=n:=by
 refine jw (g:=fun rq kn ke kr x y=>aD.g1 rq kn ke kr x y) hw
  (fun x y=>∃ (k' i:Nat) (M:List Int),x=((),(),(k':Int),(k,n - k),(i:Int),())∧y=((fl,M),())∧M.length=n∧k'<k+i∧1≤i∧i≤n - k)
  (fun x y=>n - k - x.2.2.2.2.1.toNat)
  ⟨k,1,L,rfl,rfl,hL,by omega,Nat.le_refl _,by omega⟩ (by show n - k - ((1:Int)).toNat<(((n - k:Nat):Int) - 1).toNat+1; omega)
  (Q:=fun w=>w.1=true∧∃ (k':Nat),w.2.2.1.2.2.1=(k':Int)∧k'<n∧w.2.2.2.1.1.2.length=n) ?_
 rintro x y R ⟨k',i,M,rfl,rfl,hM,hk',hi1,hi⟩ hR
 by_cases hlt:i<n - k
 ·have w1:IntKind.i64.wrap ((i:Int)+1)=((i+1:Nat):Int):=i64_in _ (by omega)
  have w2:IntKind.i64.wrap ((i:Int) - 1)=((i - 1:Nat):Int):=by rw [i64_in _ (by omega)]; omega
  have w3:IntKind.i64.wrap ((k':Int)+1)=((k'+1:Nat):Int):=i64_in _ (by omega)
  have r1:(ile 0 (k':Int)&&ilt (k':Int) (M.length:Int))=true:=Iq (by omega)
  simp only [aD.g1,lt,cK (show (i:Int)<((n - k:Nat):Int) by omega),cond_true,rng hlt,aj,Int.toNat_natCast,w2,rng (show i - 1<n - k by omega),r1,w1,w3]
  generalize (M.getD (k+i) 0 != M.getD (k+(i - 1)) 0)=c
  cases c with
  |true=>
   simp only [cond_true]
   refine hR _ _ ⟨k'+1,i+1,M.set k' (M.getD (k+i) 0),rfl,rfl,by rw [List.length_set]; exact hM,by omega,by omega,hlt⟩ ?_
   show n - k - (((i+1:Nat):Int)).toNat<n - k - ((i:Int)).toNat
   omega
  |false=>
   simp only [cond_false]
   refine hR _ _ ⟨k',i+1,M,rfl,rfl,hM,by omega,by omega,hlt⟩ ?_
   show n - k - (((i+1:Nat):Int)).toNat<n - k - ((i:Int)).toNat
   omega
 ·simp only [aD.g1,lt,dJ (show ¬ (i:Int)<((n - k:Nat):Int) by omega),cond_false]
  exact ⟨trivial,k',rfl,by omega,hM⟩
def Bv (L:List Int):Prop:=∀ i,i+1<L.length→L.getD (i+1) 0≠L.getD i 0
theorem HY {L:List Int} (hn:L.length≤1073741824) (fl:Bool):
  ∃ M,aD.r (fl,L)=(true,M)∧(Bv L→M.length=L.length)∧(¬ Bv L→M.length<L.length):=by
 by_cases h2:(L.length:Int)<2
 ·refine ⟨L,?_,fun _=>rfl,fun h=>absurd (fun i hi=>absurd hi (by omega)) h⟩
  simp only [aD.r,aD.g,lt,cK h2,cond_true]
 ·obtain ⟨w,hw⟩:∃ w,w=aD.l0 ((),(),1,()) ((fl,L),()):=⟨_,rfl⟩
  have key:w.1=true∧((w.2.1=0∧¬ Bv L∧((w.2.2.2.2.2.1.2.drop w.2.2.2.2.1.1.1).take w.2.2.2.2.1.1.2).length<L.length)∨(w.2.1=1∧Bv L∧w.2.2.2.1.1.2=L)):=by
   refine jw (g:=fun rq kn ke kr x y=>aD.g0 rq kn ke kr x y) hw
    (fun x y=>∃ j:Nat,j+1≤L.length∧x=((),(),((j+1:Nat):Int),())∧y=((fl,L),())∧∀ i,i<j→L.getD (i+1) 0≠L.getD i 0)
    (fun x y=>L.length - x.2.2.1.toNat)
    ⟨0,by omega,rfl,rfl,fun i h=>absurd h (Nat.not_lt_zero _)⟩ (by show L.length - ((1:Int)).toNat<((L.length:Int) - (1:Int)).toNat+1; omega)
    (Q:=fun w=>w.1=true∧((w.2.1=0∧¬ Bv L∧((w.2.2.2.2.2.1.2.drop w.2.2.2.2.1.1.1).take w.2.2.2.2.1.1.2).length<L.length)∨(w.2.1=1∧Bv L∧w.2.2.2.1.1.2=L))) ?_
   rintro x y R ⟨j,hj,rfl,rfl,ha⟩ hR
   by_cases hlt:j+1<L.length
   ·have w0:IntKind.i64.wrap (((j+1:Nat):Int) - 1)=(j:Int):=by rw [i64_in _ (by omega)]; omega
    have w1:IntKind.i64.wrap (((j+1:Nat):Int)+1)=((j+1+1:Nat):Int):=i64_in _ (by omega)
    by_cases he:L.getD (j+1) 0=L.getD j 0
    ·have hb:(L.getD (j+1) 0== L.getD j 0)=true:=beq_iff_eq.2 he
     obtain ⟨v,hv⟩:∃ v,v=aD.l1 ((),(),((j+1:Nat):Int),(j+1,L.length - (j+1)),1,()) ((fl,L),()):=⟨_,rfl⟩
     obtain ⟨v1,k',v2,v3,v4⟩:=JH hlt hn rfl fl hv
     obtain ⟨a,b,c,d,e⟩:=v
     obtain ⟨a1,a2,a3,a4,a5,a6⟩:=c
     obtain ⟨⟨b1,M⟩,b2⟩:=d
     simp only at v1 v2 v4
     subst v1; subst v2
     have hol:(over M k' (List.replicate (L.length - k') 0)).length=L.length:=by
      unfold over
      simp only [List.length_append,List.length_take,List.length_replicate,List.length_drop,v4]; omega
     simp only [aD.g0,lt,cK (show ((j+1:Nat):Int)<(L.length:Int) by omega),cond_true,Iq hlt,Iq (show j<L.length by omega),aj,Int.toNat_natCast,w0,hb,bJ (show (0:Int)≤((j+1:Nat):Int) by omega),bJ (show ((j+1:Nat):Int)≤(L.length:Int) by omega),bJ (Int.le_refl (L.length:Int)),Bool.and_self,← hv,v4,bJ (show (0:Int)≤(k':Int) by omega),bJ (show (k':Int)≤(L.length:Int) by omega),hol]
     refine ⟨trivial,.inl ⟨trivial,fun h=>h j hlt he,?_⟩⟩
     simp only [List.drop_zero,List.length_take,hol]
     omega
    ·have hb:(L.getD (j+1) 0== L.getD j 0)=false:=beq_eq_false_iff_ne.2 he
     simp only [aD.g0,lt,cK (show ((j+1:Nat):Int)<(L.length:Int) by omega),cond_true,Iq hlt,Iq (show j<L.length by omega),aj,Int.toNat_natCast,w0,hb,cond_false,w1]
     refine hR _ _ ⟨j+1,hlt,rfl,rfl,fun i hi=> ?_⟩ ?_
     ·rcases Nat.lt_or_ge i j with h|h
      ·exact ha i h
      ·rw [show i=j by omega]; exact he
     ·show L.length - (((j+1+1:Nat):Int)).toNat<L.length - (((j+1:Nat):Int)).toNat
      omega
   ·simp only [aD.g0,lt,dJ (show ¬ ((j+1:Nat):Int)<(L.length:Int) by omega),cond_false]
    exact ⟨trivial,.inr ⟨trivial,fun i hi=>ha i (by omega),trivial⟩⟩
  obtain ⟨k1,k2⟩:=key
  rcases k2 with ⟨k2,k3,k4⟩|⟨k2,k3,k4⟩
  ·refine ⟨_,?_,fun h=>absurd h k3,fun _=>k4⟩
   simp only [aD.r,aD.g,lt,dJ h2,cond_false,← hw,k1,aj,k2,show Nat.beq 0 0=true from rfl,cond_true]
  ·refine ⟨L,?_,fun _=>rfl,fun h=>absurd k3 h⟩
   simp only [aD.r,aD.g,lt,dJ h2,cond_false,← hw,k1,aj,k2,show Nat.beq 1 0=false from rfl,k4]
theorem Lf {L:List Int} (hs:L.Pairwise (· ≤ ·)):Bv L↔L.Nodup:=by
 constructor
 ·intro h
  have hlt:L.Pairwise (· < ·):=by
   rw [List.pairwise_iff_getElem]
   have step:∀ d i (hi:i+1+d<L.length),L[i]<L[i+1+d]:=by
    intro d
    induction d with
    |zero=>
     intro i hi
     have h1:=h i hi
     have h2:=List.pairwise_iff_getElem.1 hs i (i+1) (by omega) hi (by omega)
     rw [getD_lt hi,getD_lt (show i<L.length by omega)] at h1
     have:L[i+1]≠L[i]:=h1
     show L[i]<L[i+1]
     omega
    |succ d ih=>
     intro i hi
     have h1:=ih i (by omega)
     have h2:=List.pairwise_iff_getElem.1 hs (i+1+d) (i+1+(d+1)) (by omega) hi (by omega)
     omega
   intro i j hi hj hij
   have:=step (j - i - 1) i (by omega)
   have e:i+1+(j - i - 1)=j:=by omega
   simp only [e] at this
   exact this
  exact hlt.imp fun h e=>by omega
 ·intro h i hi he
  rw [getD_lt hi,getD_lt (show i<L.length by omega)] at he
  have:=List.pairwise_iff_getElem.1 h i (i+1) (by omega) hi (by omega)
  exact this he.symm
theorem Me (xs:List Int) (hl:xs.length≤1073741824):∃ b,mG.r xs=(true,b)∧(b=true↔¬ xs.Nodup):=by
 cases xs with
 |nil=>exact ⟨false,by decide,by simp⟩
 |cons p pts=>
  have c1:nle ((2*(0+(p::pts).length)+512)*8) 70368744177664=true:=rT (by omega)
  have c2:nlt (p::pts).length 4611686018427387904=true:=TR (by omega)
  have e1:(p::pts).isEmpty=false:=rfl
  have hp:(Ce (p::pts)).Perm (p::pts):=List.mergeSort_perm _ _
  have hlen:(Ce (p::pts)).length=(p::pts).length:=hp.length_eq
  have hs:(Ce (p::pts)).Pairwise (· ≤ ·):=by
   have:=List.pairwise_mergeSort (le:=fun (a b:Int)=>decide (a≤b)) (by intro a b c; simp; omega) (by intro a b; simp; omega) (p::pts)
   exact this.imp fun h=>by simpa using h
  obtain ⟨M,h1,h2,h3⟩:=HY (L:=Ce (p::pts)) (by omega) false
  refine ⟨ilt (M.length:Int) ((p::pts).length:Int),?_,?_⟩
  ·simp only [mG.r,mG.g,iO.r,iO.g,lt,e1,Bool.not_false,cond_false,c1,c2,aj,h1]
  ·rw [Kj,← hp.nodup_iff,← Lf hs]
   constructor
   ·intro h h4; have:=h2 h4; omega
   ·intro h; have:=h3 h; omega
end Go.Own
set_option linter.unusedVariables false
set_option linter.unusedSimpArgs false
namespace Go.Own
open Go.IntWalk
theorem Ip {X Y U V:Type} {g:(Bool→Bool×Nat×X×Y×U×V→Bool×Nat×X×Y×U×V)→(X→Y→Bool×Nat×X×Y×U×V)→(Nat→X→Y→Bool×Nat×X×Y×U×V)→(U→V→Bool×Nat×X×Y×U×V)→X→Y→Bool×Nat×X×Y×U×V} {u0:U} {v0:V} {x0 x1 x2:X} {y0 y1 y2:Y} {w:Bool×Nat×X×Y×U×V}
  (h0:∀ (R:X→Y→Bool×Nat×X×Y×U×V),g chk R (fun e x y=>(true,e+1,x,y,u0,v0)) (fun u v=>(true,0,x0,y0,u,v)) x0 y0=R x1 y1)
  (h1:∀ (R:X→Y→Bool×Nat×X×Y×U×V),g chk R (fun e x y=>(true,e+1,x,y,u0,v0)) (fun u v=>(true,0,x1,y1,u,v)) x1 y1=R x2 y2)
  (h2:∀ (R:X→Y→Bool×Nat×X×Y×U×V),g chk R (fun e x y=>(true,e+1,x,y,u0,v0)) (fun u v=>(true,0,x2,y2,u,v)) x2 y2=w) (q:Nat) (hq:3≤q):rounds g u0 v0 q x0 y0=w:=by
 obtain ⟨n,rfl⟩:∃ n,q=n+1+1+1:=⟨q - 3,by omega⟩
 simp only [rounds]
 rw [h0,h1,h2]
section
variable {F:Type} [Lean.Grind.CommRing F]
theorem uJ:∀ (a b:List F),(Pol.kW a b).length=max a.length b.length
 | [],b=>by simp [Pol.kW]
 |a::l,[]=>by simp [Pol.kW]
 |a::l,b::m=>by simp only [Pol.kW,List.length_cons,uJ l m]; omega
theorem Tn (a:F) (l:List F):(Pol.Ml a l).length=l.length+1:=by
 unfold Pol.Ml
 rw [uJ]
 unfold Pol.qE
 simp only [List.length_cons,List.length_map]; omega
theorem OX:∀ (xs:List F) (h:List F),(Pol.TL xs h).length=h.length+xs.length
 | [],h=>rfl
 |a::xs,h=>by
  show (Pol.Ml a (Pol.TL xs h)).length=_
  rw [Tn,OX xs h]; simp only [List.length_cons]; omega
theorem zV:∀ (xs:List F) {a:F},a∈xs→Pol.tY xs a=0
 | [],a,h=>by cases h
 |b::xs,a,h=>by
  show (a - b)*Pol.tY xs a=0
  rcases List.mem_cons.1 h with rfl|h
  ·grind
  ·rw [zV xs h]; grind
end
theorem SF {q:Nat} [NeZero q] (a:Fin q):fz q a.val=a:=by unfold fz; simp [Fin.ext_iff,Nat.mod_eq_of_lt a.isLt]
theorem Sy {q:Nat} [NeZero q] {xs:List Nat} (ha:wo q xs) (ys:Nat→Fin q):∃ f:List Nat,f.length≤xs.length∧(∀ a∈f,a<q)∧∀ k,k<xs.length→fz q (evN q f (xs.getD k 0))=ys k:=by
 have key:∀ m,m≤xs.length→∃ g:List (Fin q),g.length≤m∧∀ k,k<m→Pol.ev g (fz q (xs.getD k 0))=ys k:=by
  intro m
  induction m with
  |zero=>intro _; exact ⟨[],Nat.le_refl _,fun k h=>absurd h (Nat.not_lt_zero _)⟩
  |succ m ih=>
   intro hm
   obtain ⟨g,hg,hk⟩:=ih (by omega)
   obtain ⟨s,hs⟩:=ha m hm
   obtain ⟨c,hc⟩:∃ c,c=(ys m - Pol.ev g (fz q (xs.getD m 0)))*s:=⟨_,rfl⟩
   have e1:∀ x:Fin q,Pol.ev [c] x=c:=fun x=>by show 0*x+c=c; grind
   refine ⟨Pol.kW g (Pol.TL (toF q (xs.take m)) [c]),?_,fun k hkm=> ?_⟩
   ·rw [uJ,OX]
    unfold toF
    simp only [List.length_cons,List.length_nil,List.length_map,List.length_take]; omega
   ·rw [Pol.yo,Pol.LK,e1]
    rcases Nat.lt_or_ge k m with h|h
    ·rw [hk k h,zV]
     ·grind
     ·unfold toF
      refine List.mem_map.2 ⟨xs.getD k 0,?_,rfl⟩
      rw [getD_lt (show k<xs.length by omega)]
      exact List.mem_take_iff_getElem.2 ⟨k,by omega,rfl⟩
    ·have:k=m:=by omega
     subst this
     rw [hc]; grind
 obtain ⟨g,hg,hk⟩:=key xs.length (Nat.le_refl _)
 have eg:toF q (g.map Fin.val)=g:=by
  unfold toF
  rw [List.map_map]
  exact (List.map_congr_left fun a _=>SF a).trans (List.map_id g)
 refine ⟨g.map Fin.val,by rw [List.length_map]; exact hg,fun a h=> ?_,fun k h=> ?_⟩
 ·obtain ⟨b,_,rfl⟩:=List.mem_map.1 h; exact b.isLt
 ·rw [vY,eg]; exact hk k h
def uK (q:Nat):Prop:=∀ d,1≤d→d≤7→Nat.gcd d q=1
theorem Cf {q:Nat} (h:(List.range 7).all (fun d=>Nat.beq (Nat.gcd (d+1) q) 1)=true):uK q:=by
 intro d h1 h2
 have:=List.all_eq_true.1 h (d - 1) (List.mem_range.2 (by omega))
 rw [Nat.sub_add_cancel h1] at this
 exact Nat.eq_of_beq_eq_true this
theorem vz:uK jr:=Cf (by kernel_rfl)
theorem BI:uK lD:=Cf (by kernel_rfl)
theorem Dn {q:Nat} [NeZero q] (hq:1<q) (hqW:q<au) (hs:uK q) {pts:List Nat} (hp:∀ p∈pts,p≤7) (ha:pts.Nodup):wo q pts:=by
 intro k hk
 apply Cq
 intro a hm
 obtain ⟨p,hpm,rfl⟩:=List.mem_map.1 hm
 obtain ⟨i,hi,rfl⟩:=List.mem_take_iff_getElem.1 hpm
 have hik:i<k:=by omega
 have hne:=List.pairwise_iff_getElem.1 ha i k (by omega) hk hik
 have h1:=hp _ (fF hk)
 have h2:=hp pts[i] (List.getElem_mem _)
 rw [getD_lt hk] at h1 ⊢
 rcases Nat.lt_or_gt_of_ne hne with hlt|hlt
 ·obtain ⟨s,hs2⟩:=Gv hq hqW (show pts[k] - pts[i]<au by unfold au; omega) (hs (pts[k] - pts[i]) (by omega) (by omega))
  refine ⟨s,?_⟩
  have e:fz q pts[k]=fz q (pts[k] - pts[i])+fz q pts[i]:=by rw [← sP,Nat.sub_add_cancel (Nat.le_of_lt hlt)]
  rw [e]
  grind
 ·obtain ⟨s,hs2⟩:=Gv hq hqW (show pts[i] - pts[k]<au by unfold au; omega) (hs (pts[i] - pts[k]) (by omega) (by omega))
  refine ⟨-s,?_⟩
  have e:fz q pts[i]=fz q (pts[i] - pts[k])+fz q pts[k]:=by rw [← sP,Nat.sub_add_cancel (Nat.le_of_lt hlt)]
  rw [e]
  grind
abbrev xG:Type:=List (Nat×List (List Int))
def Rows (n:Nat) (R:List Nat) (P:xG) (c:Nat→List (List Int)):Prop:=R.length=n∧∀ j,j<n→R.getD j 0<P.length∧(P.getD (R.getD j 0) (0,[])).1≠2∧(P.getD (R.getD j 0) (0,[])).2=c j∧∀ j',j'<n→R.getD j' 0=R.getD j 0→j'=j∨(P.getD (R.getD j 0) (0,[])).1=3
theorem Gh {α:Type} {l:List α} {i k:Nat} {a d:α} (h:i<l.length):(l.set i a).getD k d=if i=k then a else l.getD k d:=by
 rw [List.getD_eq_getElem?_getD,List.getElem?_set]
 by_cases e:i=k
 ·subst e; rw [if_pos rfl,if_pos h,if_pos rfl]; rfl
 ·rw [if_neg e,if_neg e,List.getD_eq_getElem?_getD]
theorem Gu {α:Type} {l:List α} {k:Nat} {a d:α}:(l++ [a]).getD k d=if k<l.length then l.getD k d else if k=l.length then a else d:=by
 rw [List.getD_eq_getElem?_getD,List.getD_eq_getElem?_getD]
 split
 ·rename_i h; rw [List.getElem?_append_left h]
 ·rename_i h
  rw [List.getElem?_append_right (by omega)]
  split
  ·rename_i h2; subst h2; simp
  ·rename_i h2; rw [List.getElem?_eq_none (by simp; omega)]; rfl
theorem Rows.put {n:Nat} {R:List Nat} {P:xG} {c:Nat→List (List Int)} (h:Rows n R P c) {j:Nat} (hj:j<n) (v:List Int):
  Rows n (R.set j P.length) ((P.set (R.getD j 0) ((bif Nat.beq (P.getD (R.getD j 0) (0,[])).1 3 then 3 else 2),(P.getD (R.getD j 0) (0,[])).2))++ [(1,((P.getD (R.getD j 0) (0,[])).2++ [v]))]) (fun k=>if k=j then c j++ [v] else c k):=by
 obtain ⟨h1,h2⟩:=h
 obtain ⟨a1,a2,a3,a4⟩:=h2 j hj
 have hjR:j<R.length:=by omega
 refine ⟨by rw [List.length_set]; exact h1,fun k hk=> ?_⟩
 have gR:∀ i,(R.set j P.length).getD i 0=if j=i then P.length else R.getD i 0:=fun i=>Gh hjR
 obtain ⟨b1,b2,b3,b4⟩:=h2 k hk
 have gP:∀ i,i<P.length→(((P.set (R.getD j 0) ((bif Nat.beq (P.getD (R.getD j 0) (0,[])).1 3 then 3 else 2),(P.getD (R.getD j 0) (0,[])).2))++ [(1,((P.getD (R.getD j 0) (0,[])).2++ [v]))]).getD i (0,[]))=if R.getD j 0=i then ((bif Nat.beq (P.getD (R.getD j 0) (0,[])).1 3 then 3 else 2),(P.getD (R.getD j 0) (0,[])).2) else P.getD i (0,[]):=fun i hi=>by
  rw [Gu,if_pos (by rw [List.length_set]; exact hi),Gh a1]
 have gE:(((P.set (R.getD j 0) ((bif Nat.beq (P.getD (R.getD j 0) (0,[])).1 3 then 3 else 2),(P.getD (R.getD j 0) (0,[])).2))++ [(1,((P.getD (R.getD j 0) (0,[])).2++ [v]))]).getD P.length (0,[]))=(1,((P.getD (R.getD j 0) (0,[])).2++ [v])):=by
  rw [Gu,if_neg (by rw [List.length_set]; omega),if_pos (by rw [List.length_set])]
 have len:(P.set (R.getD j 0) ((bif Nat.beq (P.getD (R.getD j 0) (0,[])).1 3 then 3 else 2),(P.getD (R.getD j 0) (0,[])).2)++ [(1,((P.getD (R.getD j 0) (0,[])).2++ [v]))]).length=P.length+1:=by simp
 rw [gR k]
 by_cases e:j=k
 ·subst e
  rw [if_pos rfl,gE,len]
  refine ⟨by omega,by show (1:Nat)≠2; decide,by show _=if j=j then _ else _; rw [if_pos rfl,a3],fun j' hj' he=> ?_⟩
  rw [gR j'] at he
  by_cases e2:j=j'
  ·exact .inl e2.symm
  ·rw [if_neg e2] at he
   have:=(h2 j' hj').1
   omega
 ·rw [if_neg e,gP _ b1,len]
  by_cases e3:R.getD j 0=R.getD k 0
  ·have h3:(P.getD (R.getD j 0) (0,[])).1=3:=(a4 k hk e3.symm).resolve_left fun h=>e h.symm
   rw [if_pos e3,h3]
   refine ⟨by omega,by show (3:Nat)≠2; decide,by show _=if k=j then _ else _; rw [if_neg fun h=>e h.symm,← b3,e3],fun _ _ _=> .inr rfl⟩
  ·rw [if_neg e3]
   refine ⟨by omega,b2,by show _=if k=j then _ else _; rw [if_neg fun h=>e h.symm]; exact b3,fun j' hj' he=> ?_⟩
   rw [gR j'] at he
   by_cases e2:j=j'
   ·rw [if_pos e2] at he; omega
   ·rw [if_neg e2] at he; exact b4 j' hj' he
theorem Rows.flag {n:Nat} {R:List Nat} {P:xG} {c:Nat→List (List Int)} (h:Rows n R P c) {j:Nat} (hj:j<n):(!Nat.beq (P.getD (R.getD j 0) (0,[])).1 2)=true:=by
 have:=(h.2 j hj).2.1
 cases e:Nat.beq (P.getD (R.getD j 0) (0,[])).1 2 with
 |false=>rfl
 |true=>exact absurd (Nat.eq_of_beq_eq_true e) this
theorem Rows.all {n:Nat} {R:List Nat} {P:xG} {c:Nat→List (List Int)} (h:Rows n R P c):(R.map fun r=>(P.getD r (0,[])).2)=(List.range n).map c:=by
 apply List.ext_getElem?
 intro k
 rw [List.getElem?_map,List.getElem?_map]
 rcases Nat.lt_or_ge k n with hk|hk
 ·have h1:=(h.2 k hk).2.2.1
  rw [getD_lt (show k<R.length by rw [h.1]; exact hk)] at h1
  rw [List.getElem?_eq_getElem (show k<R.length by rw [h.1]; exact hk),List.getElem?_range hk]
  simp only [Option.map_some,h1]
 ·rw [List.getElem?_eq_none (show R.length≤k by rw [h.1]; exact hk),List.getElem?_eq_none (by simpa using hk)]; rfl
theorem Rows.start (n:Nat):Rows n (List.replicate n 0) [(3,[])] (fun _=> []):=by
 refine ⟨List.length_replicate,fun j hj=> ?_⟩
 have e:∀ k,(List.replicate n 0).getD k 0=0:=fun k=>by
  rw [List.getD_eq_getElem?_getD,List.getElem?_replicate]; split<;>rfl
 rw [e j]
 exact ⟨by decide,by decide,rfl,fun _ _ _=> .inr rfl⟩
end Go.Own
set_option linter.unusedVariables false
set_option linter.unusedSimpArgs false
namespace Go.Own
open Go.IntWalk
abbrev ints (l:List Nat):List Int:=l.map fun (p:Nat)=>(p:Int)
theorem UF (gx:Option d9) (pts:List Nat) (hp:∀ p∈pts,p≤7) (hn:pts.length≤1073741824) (P:xG):
  bF.l0 (gx,ints pts,(),0,(),ints pts,(pts.length:Int),0,()) ((true,[]),P,())=
  (true,1,(gx,ints pts,(),0,(),ints pts,(pts.length:Int),(pts.length:Int),()),((decide (pts.length=0),pts.map limbs),P,()),(),()):=by
 have key:bF.l0 (gx,ints pts,(),0,(),ints pts,(pts.length:Int),((0:Nat):Int),()) ((decide (0=0),(pts.take 0).map limbs),P,())=
  (true,1,(gx,ints pts,(),0,(),ints pts,(pts.length:Int),(pts.length:Int),()),((decide (pts.length=0),(pts.take pts.length).map limbs),P,()),(),()):=by
  refine bK (g:=fun rq kn ke kr x y=>bF.g0 rq kn ke kr x y) pts.length (fun j=>(gx,ints pts,(),0,(),ints pts,(pts.length:Int),(j:Int),())) (fun j=>((decide (j=0),(pts.take j).map limbs),P,())) _ ?_ ?_ _ 0 (Nat.zero_le _) (by show pts.length - 0<((pts.length:Int) - ((0:Nat):Int)).toNat+1; omega)
  ·intro j R hj
   have g1:(ints pts).getD j 0=((pts.getD j 0:Nat):Int):=getD_map hj
   have hb:=hp _ (fF hj)
   have n1:dM.r ((pts.getD j 0:Nat):Int)=(true,limbs (pts.getD j 0)):=by rw [si _ (by omega)]; rfl
   have c2:nle ((2*((pts.take j).length+1)+512)*32) 70368744177664=true:=rT (by rw [List.length_take]; omega)
   have s2:((pts.take j).map limbs)++ [limbs (pts.getD j 0)]=(pts.take (j+1)).map limbs:=tK (f:=limbs) hj rfl
   have d1:decide (j+1=0)=false:=decide_eq_false (by omega)
   have w1:IntKind.i64.wrap ((j:Int)+1)=((j+1:Nat):Int):=i64_in _ (by omega)
   simp only [bF.g0,Go.Own.lt,cK (show (j:Int)<(pts.length:Int) by omega),bJ (show (0:Int)≤(j:Int) by omega),cond_true,Bool.and_self,Int.toNat_natCast,List.length_map,aj,g1,Bool.and_false,n1,s2,c2,w1,d1]
  ·intro R
   simp only [bF.g0,Go.Own.lt,dJ (show ¬ (pts.length:Int)<(pts.length:Int) by omega),cond_false]
 rw [List.take_length] at key
 exact key
theorem UD {n:Nat} {gx:Option d9} {XS:List Int} {z:Int×Int} (hn:n≤1000) (Y:Bool×List (List Int)) (fl:Bool) (f:List (List Int)) (hf:f.length=n) {R:List Nat} {P:xG} {c:Nat→List (List Int)} (h:Rows n R P c) (hc:∀ j,(c j).length≤1000) {w:_}
  (hw:w=bF.l2 (gx,XS,(),0,(),(),z.1,z.2,(),(n:Int),0,()) (Y,(false,R),(fl,f),P,())):
  w.1=true∧w.2.1=5∧w.2.2.1=(gx,XS,(),0,(),(),z.1,z.2,(),(n:Int),(n:Int),())∧∃ R' P',w.2.2.2.1=(Y,(false,R'),(fl,f),P',())∧Rows n R' P' (fun j=>if j<n then c j++ [f.getD j [0,0,0,0]] else c j):=by
 refine jw (g:=fun rq kn ke kr x y=>bF.g2 rq kn ke kr x y) hw
  (fun x y=>∃ (j:Nat) (R:List Nat) (P:xG),j≤n∧x=(gx,XS,(),0,(),(),z.1,z.2,(),(n:Int),(j:Int),())∧y=(Y,(false,R),(fl,f),P,())∧Rows n R P (fun k=>if k<j then c k++ [f.getD k [0,0,0,0]] else c k))
  (fun x y=>n - x.2.2.2.2.2.2.2.2.2.2.1.toNat)
  ⟨0,R,P,Nat.zero_le _,rfl,rfl,by
   have:(fun k=>if k<0 then c k++ [f.getD k [0,0,0,0]] else c k)=c:=funext fun k=>if_neg (Nat.not_lt_zero _)
   rw [this]; exact h⟩ (by show n - ((0:Int)).toNat<((n:Int) - (0:Int)).toNat+1; omega)
  (Q:=fun w=>w.1=true∧w.2.1=5∧w.2.2.1=(gx,XS,(),0,(),(),z.1,z.2,(),(n:Int),(n:Int),())∧∃ R' P',w.2.2.2.1=(Y,(false,R'),(fl,f),P',())∧Rows n R' P' (fun j=>if j<n then c j++ [f.getD j [0,0,0,0]] else c j)) ?_
 rintro x y K ⟨j,R,P,hj,rfl,rfl,hr⟩ hK
 by_cases hlt:j<n
 ·have w1:IntKind.i64.wrap ((j:Int)+1)=((j+1:Nat):Int):=i64_in _ (by omega)
  have rl:=hr.1
  have hb:(P.getD (R.getD j 0) (0,[])).2=if j<j then c j++ [f.getD j [0,0,0,0]] else c j:=(hr.2 j hlt).2.2.1
  rw [if_neg (Nat.lt_irrefl j)] at hb
  have c1:nle ((2*((P.getD (R.getD j 0) (0,[])).2.length+1)+512)*32) 70368744177664=true:=rT (by rw [hb]; have:=hc j; omega)
  have hfg:=hr.flag hlt
  simp only [bF.g2,Go.Own.lt,cK (show (j:Int)<(n:Int) by omega),cond_true,Iq (show j<f.length by omega),Iq (show j<R.length by omega),aj,Int.toNat_natCast,hfg,c1,Bool.and_self,w1]
  have:=hr.put hlt (f.getD j [0,0,0,0])
  refine hK _ _ ⟨j+1,_,_,hlt,rfl,rfl,?_⟩ ?_
  ·refine Eq.mp (congrArg (Rows n _ _) (funext fun k=> ?_)) this
   by_cases e:k=j
   ·subst e; rw [if_pos rfl,if_neg (Nat.lt_irrefl k),if_pos (Nat.lt_succ_self k)]
   ·rw [if_neg e]
    by_cases e2:k<j
    ·rw [if_pos e2,if_pos (by omega)]
    ·rw [if_neg e2,if_neg (by omega)]
  ·show n - (((j+1:Nat):Int)).toNat<n - ((j:Int)).toNat
   omega
 ·have:j=n:=by omega
  subst this
  simp only [bF.g2,Go.Own.lt,dJ (show ¬ (j:Int)<(j:Int) by omega),cond_false]
  exact ⟨trivial,trivial,trivial,R,P,rfl,hr⟩
structure Units (q:Nat) (pts:List Nat) (F:Nat→List Nat):Prop where
 len:∀ i,i<pts.length→(F i).length≤pts.length
 lt:∀ i,i<pts.length→∀ a∈F i,a<q
 val:∀ i,i<pts.length→∀ k,k<pts.length→evN q (F i) (pts.getD k 0)=if k=i then 1 else 0
theorem Mw {q:Nat} [NeZero q] (hq:1<q) {pts:List Nat} (ha:wo q pts):∃ F,Units q pts F:=by
 have:∀ i,∃ f:List Nat,f.length≤pts.length∧(∀ a∈f,a<q)∧∀ k,k<pts.length→fz q (evN q f (pts.getD k 0))=if k=i then 1 else 0:=fun i=>Sy ha fun k=>if k=i then 1 else 0
 refine ⟨fun i=>Classical.choose (this i),fun i _=>(Classical.choose_spec (this i)).1,fun i _=>(Classical.choose_spec (this i)).2.1,fun i _ k hk=> ?_⟩
 have h:=(Classical.choose_spec (this i)).2.2 k hk
 have hl:=A8 (show 0<q by omega) (Classical.choose (this i)) (pts.getD k 0)
 have hv:=congrArg Fin.val h
 rw [Oa,Nat.mod_eq_of_lt hl] at hv
 rw [hv]
 by_cases e:k=i
 ·rw [if_pos e,if_pos e]; exact Nat.mod_eq_of_lt hq
 ·rw [if_neg e,if_neg e]; rfl
theorem PO {q:Nat} {pts:List Nat} {F:Nat→List Nat} (h:Units q pts F) {i:Nat} (hi:i<pts.length):(List.replicate pts.length [0,0,0,0]).set i [1,0,0,0]=(pts.map (evN q (F i))).map limbs:=by
 apply List.ext_getElem?
 intro k
 rw [List.getElem?_set,List.getElem?_map,List.getElem?_map]
 rcases Nat.lt_or_ge k pts.length with hk|hk
 ·have hv:=h.val i hi k hk
  rw [getD_lt hk] at hv
  rw [List.getElem?_eq_getElem hk]
  simp only [Option.map_some,hv,List.length_replicate,List.getElem?_replicate]
  by_cases e:i=k
  ·subst e
   rw [if_pos rfl,if_pos hi,if_pos rfl]; rfl
  ·rw [if_neg e,if_pos hk,if_neg fun h=>e h.symm]; rfl
 ·rw [if_neg (by omega),List.getElem?_eq_none (by simpa using hk),List.getElem?_eq_none hk]; rfl
def FM (f:List Nat) (n:Nat):List (List Int):=(List.range n).map fun j=>limbs (f.getD j 0)
theorem Sb {q:Nat} [NeZero q] {f L:List Nat} {m n:Nat} (hm:m≤L.length) (hL:∀ a∈L,a<q) (hf:∀ a∈f,a<q) (hfn:f.length≤n) (hmf:m≤n) (h:Pol.PE (toF q f) (toF q (L.take m))):
  ((L.map limbs).take m)++List.replicate (n - m) [0,0,0,0]=FM f n:=by
 have lt_of:∀ {l:List Nat} {k:Nat},(∀ a∈l,a<q)→l.getD k 0<q:=by
  intro l k hl
  rcases Nat.lt_or_ge k l.length with h|h
  ·exact hl _ (fF h)
  ·rw [jD h]; exact Nat.pos_of_ne_zero (NeZero.ne q)
 have he:∀ k,(L.take m).getD k 0=f.getD k 0:=by
  intro k
  have:=h k
  rw [kH,kH] at this
  have e:=Oc this
  rw [Nat.mod_eq_of_lt (lt_of hf),Nat.mod_eq_of_lt (lt_of fun a ha=>hL a (List.mem_of_mem_take ha))] at e
  exact e.symm
 apply List.ext_getElem?
 intro k
 unfold FM
 rw [List.getElem?_map]
 rcases Nat.lt_or_ge k m with hk|hk
 ·rw [List.getElem?_append_left (by rw [List.length_take,List.length_map]; omega),List.getElem?_take,if_pos hk,List.getElem?_map,List.getElem?_eq_getElem (show k<L.length by omega),List.getElem?_range (show k<n by omega)]
  have:=he k
  rw [getD_take,if_pos hk,getD_lt (show k<L.length by omega)] at this
  simp only [Option.map_some,this]
 ·rw [List.getElem?_append_right (by rw [List.length_take,List.length_map]; omega),List.length_take,List.length_map,Nat.min_eq_left hm,List.getElem?_replicate]
  rcases Nat.lt_or_ge k n with hkn|hkn
  ·rw [if_pos (by omega),List.getElem?_range hkn]
   have:=he k
   rw [getD_take,if_neg (by omega)] at this
   simp only [Option.map_some,← this]; rfl
  ·rw [if_neg (by omega),List.getElem?_eq_none (by simpa using hkn)]; rfl
theorem FL (f:List Nat) (n:Nat):(FM f n).length=n:=by unfold FM; simp
theorem La {f:List Nat} {n j:Nat} (h:j<n) (d:List Int):(FM f n).getD j d=limbs (f.getD j 0):=by
 unfold FM
 rw [List.getD_eq_getElem?_getD,List.getElem?_map,List.getElem?_range h]; rfl
def jB (F:Nat→List Nat) (n:Nat):List (List (List Int)):=(List.range n).map fun j=>(List.range n).map fun i=>limbs ((F i).getD j 0)
theorem UE {gx:Option d9} {q:Nat} [NeZero q] (h:Fld gx q) {pts:List Nat} (hp:∀ p∈pts,p≤7) (hn:pts.length≤8) (ha:wo q pts) {F:Nat→List Nat} (hF:Units q pts F) (fl:Bool) {w:_}
  (hw:w=bF.l1 (gx,ints pts,(),0,(),(),(pts.length:Int),0,()) ((fl,pts.map limbs),(false,List.replicate pts.length 0),[(3,[])],())):
  w.1=true∧w.2.1=3∧∃ R P,w.2.2.2.1=((fl,pts.map limbs),(false,R),P,())∧Rows pts.length R P (fun j=>if j<pts.length then (List.range pts.length).map fun i=>limbs ((F i).getD j 0) else []):=by
 obtain ⟨n,hnn⟩:∃ n,n=pts.length:=⟨_,rfl⟩
 have hq:=h.gt
 have hqW:=h.lt
 rw [← hnn] at hw ⊢
 refine jw (g:=fun rq kn ke kr x y=>bF.g1 rq kn ke kr x y) hw
  (fun x y=>∃ (i:Nat) (R:List Nat) (P:xG),i≤n∧x=(gx,ints pts,(),0,(),(),(n:Int),(i:Int),())∧y=((fl,pts.map limbs),(false,R),P,())∧Rows n R P (fun j=>if j<n then (List.range i).map fun k=>limbs ((F k).getD j 0) else []))
  (fun x y=>n - x.2.2.2.2.2.2.2.1.toNat)
  ⟨0,_,_,Nat.zero_le _,rfl,rfl,by
   have:(fun j=>if j<n then (List.range 0).map fun k=>limbs ((F k).getD j 0) else [])=(fun _=>([]:List (List Int))):=funext fun j=>by split<;>rfl
   rw [this]; exact Rows.start n⟩ (by show n - ((0:Int)).toNat<((n:Int) - (0:Int)).toNat+1; omega)
  (Q:=fun w=>w.1=true∧w.2.1=3∧∃ R P,w.2.2.2.1=((fl,pts.map limbs),(false,R),P,())∧Rows n R P (fun j=>if j<n then (List.range n).map fun i=>limbs ((F i).getD j 0) else [])) ?_
 rintro x y K ⟨i,R,P,hi,rfl,rfl,hr⟩ hK
 by_cases hlt:i<n
 ·have hip:i<pts.length:=by omega
  have w1:IntKind.i64.wrap ((i:Int)+1)=((i+1:Nat):Int):=i64_in _ (by omega)
  have n1:dM.r 1=(true,[1,0,0,0]):=by rw [si _ (by decide)]; rfl
  obtain ⟨L,m,f2,e,h1,h2,h3,h4⟩:=Mg h (f:=F i) (fun a hm=>Nat.lt_trans (hF.lt i hip a hm) hqW) (xs:=pts) (fun a hm=>by have:=hp a hm; unfold au; omega) (hF.len i hip) (by omega) ha
  have hlen:=hF.len i hip
  have c1:(ile 0 (n:Int)&&ile (n:Int) (n:Int))=true:=by rw [bJ (by omega),bJ (Int.le_refl _)]; rfl
  have c2:ile ((n:Int)*((32:Nat):Int)) 70368744177664=true:=bJ (by omega)
  have c3:(ile 0 (i:Int)&&ilt (i:Int) (n:Int))=true:=rng hlt
  have w2:IntKind.i64.wrap ((n:Int) - (m:Int))=((n - m:Nat):Int):=by rw [i64_in _ (by omega)]; omega
  have c4:nle ((2*(m+(n - m))+512)*32) 70368744177664=true:=rT (by omega)
  have hpad:=Sb h2 h1 (hF.lt i hip) (n:=n) (by omega) (by omega) h4
  have ey:=PO hF hip
  rw [← hnn] at ey
  obtain ⟨fl3,hfl3⟩:∃ b,b=((f2&&neq m 0)&&(List.replicate (n - m) ([0,0,0,0]:List Int)).isEmpty):=⟨_,rfl⟩
  obtain ⟨v,hv⟩:∃ v,v=bF.l2 (gx,ints pts,(),0,(),(),(n:Int),(i:Int),(),(n:Int),0,()) ((fl,pts.map limbs),(false,R),(fl3,FM (F i) n),P,()):=⟨_,rfl⟩
  obtain ⟨v1,v2,v3,R',P',v4,v5⟩:=UD (z:=((n:Int),(i:Int))) (by omega) (fl,pts.map limbs) fl3 (FM (F i) n) (FL _ _) hr (fun j=>by
   show (if j<n then _ else _:List (List Int)).length≤1000
   split
   ·rw [List.length_map,List.length_range]; omega
   ·exact Nat.zero_le _) hv
  have hml:(List.take m (L.map limbs)).length=m:=by rw [List.length_take,List.length_map]; omega
  have e0:((0:Int) != 0)=false:=rfl
  have hil:(ints pts).length=n:=by rw [List.length_map]; exact hnn.symm
  simp only [bF.g1,Go.Own.lt,cK (show (i:Int)<(n:Int) by omega),cond_true,hil,Int.toNat_natCast,c1,c2,c3,Bool.and_self,aj,n1,List.length_replicate,ey,e,show Nat.beq 1 0=false from rfl,cond_false,e0,w2,List.drop_zero,hml,c4,bJ (show (0:Int)≤((n - m:Nat):Int) by omega),hpad,FL,← hfl3,← hv,v1,v3,v4,w1]
  refine hK _ _ ⟨i+1,R',P',hlt,rfl,rfl,?_⟩ ?_
  ·refine Eq.mp (congrArg (Rows n _ _) (funext fun j=> ?_)) v5
   by_cases hj:j<n
   ·rw [if_pos hj,if_pos hj,if_pos hj,La hj,List.range_succ,List.map_append]; rfl
   ·rw [if_neg hj,if_neg hj,if_neg hj]
  ·show n - (((i+1:Nat):Int)).toNat<n - ((i:Int)).toNat
   omega
 ·have:i=n:=by omega
  subst this
  simp only [bF.g1,Go.Own.lt,dJ (show ¬ (i:Int)<(i:Int) by omega),cond_false]
  exact ⟨trivial,trivial,R,P,rfl,hr⟩
theorem any_false {pts:List Nat} (hp:∀ p∈pts,p≤7):((ints pts).any fun x=>decide (x<0)||decide (7<x))=false:=by
 rw [List.any_eq_false]
 intro x hx
 obtain ⟨p,hp',rfl⟩:=List.mem_map.1 hx
 have:=hp p hp'
 rw [decide_eq_false (by omega),decide_eq_false (by omega)]; decide
theorem IW {pts:List Nat}:(ints pts).Nodup↔pts.Nodup:=by
 unfold List.Nodup ints
 rw [List.pairwise_map]
 exact ⟨fun h=>h.imp fun h2 e=>h2 (by rw [e]),fun h=>h.imp fun h2 e=>h2 (by omega)⟩
theorem Md {gx:Option d9} {q:Nat} [NeZero q] (h:Fld gx q) (hs:uK q) {pts:List Nat} (hp:∀ p∈pts,p≤7) (hd:pts.Nodup) (hn:pts.length≤8):
  ∃ F,Units q pts F∧bF.r gx (ints pts)=(true,jB F pts.length,0):=by
 obtain ⟨rq,inv,hR,hFd⟩:=h.field
 have ha:=Dn h.gt h.lt hs hp hd
 obtain ⟨F,hF⟩:=Mw h.gt ha
 refine ⟨F,hF,?_⟩
 have hil:(ints pts).length=pts.length:=List.length_map _
 obtain ⟨b,t1,t2⟩:=Me (ints pts) (by rw [hil]; omega)
 have hb:b=false:=by
  cases b with
  |false=>rfl
  |true=>exact absurd (IW.2 hd) (t2.1 rfl)
 have O:=Ht (ints pts) 0 (by rw [hil]; omega)
 rw [any_false hp] at O
 obtain ⟨v,hv⟩:∃ v,v=bF.l1 (gx,ints pts,(),0,(),(),(pts.length:Int),0,()) ((decide (pts.length=0),pts.map limbs),(false,List.replicate pts.length 0),[(3,[])],()):=⟨_,rfl⟩
 obtain ⟨v1,v2,R,P,v3,v4⟩:=UE h hp hn ha hF _ hv
 have c1:(ile 0 (pts.length:Int)&&ile (pts.length:Int) (pts.length:Int))=true:=by rw [bJ (by omega),bJ (Int.le_refl _)]; rfl
 have c2:ile ((pts.length:Int)*((24:Nat):Int)) 70368744177664=true:=bJ (by omega)
 have e1:([]:xG)++ [(3,[])]= [(3,[])]:=rfl
 have ew:(R.map fun r=>(P.getD r (0,[])).2)=jB F pts.length:=by
  rw [v4.all]
  unfold jB
  apply List.map_congr_left
  intro j hj
  rw [if_pos (List.mem_range.1 hj)]
 simp only [bF.r,bF.g,Go.Own.lt,hFd,aj,hR.wQ,cond_false,hil,dJ (show ¬ (8:Int)<(pts.length:Int) by omega),O,t1,hb,UF gx pts hp (by omega) [],e1,List.length_nil,Int.toNat_natCast,c1,c2,Bool.and_self,← hv,v1,v2,v3,show Nat.beq 3 0=false from rfl,ew]
end Go.Own
set_option linter.unusedVariables false
set_option linter.unusedSimpArgs false
namespace Go.Own
open Go.IntWalk
theorem PK {q:Nat} [NeZero q] {xs:List Nat} (ha:wo q xs) {P:List (Fin q)} (hl:P.length≤xs.length) (h:∀ k,k<xs.length→Pol.ev P (fz q (xs.getD k 0))=0):∀ n,Pol.cf P n=0:=by
 have key:∀ m,m≤xs.length→∃ g:List (Fin q),Pol.PE P (Pol.TL (toF q (xs.take m)) g)∧g.length=P.length - m:=by
  intro m
  induction m with
  |zero=>intro _; exact ⟨P,fun _=>rfl,rfl⟩
  |succ m ih=>
   intro hm
   obtain ⟨g,h1,h2⟩:=ih (by omega)
   obtain ⟨s,hs⟩:=ha m hm
   have hv:=h m hm
   rw [Pol.A7 h1,Pol.LK] at hv
   have h0:Pol.ev g (fz q (xs.getD m 0))=0:=by
    have:s*(Pol.tY (toF q (xs.take m)) (fz q (xs.getD m 0))*Pol.ev g (fz q (xs.getD m 0)))=0:=by rw [hv]; grind
    grind
   have hd:=Pol.Om (fz q (xs.getD m 0)) g
   rw [h0] at hd
   have hg:Pol.PE g (Pol.Ml (fz q (xs.getD m 0)) (Pol.dv (fz q (xs.getD m 0)) g)):=fun n=>by
    rw [hd n,Pol.iA]
    have:Pol.cf [(0:Fin q)] n=0:=by
     cases n with
     |zero=>rfl
     |succ n=>rw [Pol.jq,Pol.jv]
    rw [this]; grind
   have ax:toF q (xs.take (m+1))=toF q (xs.take m)++ [fz q (xs.getD m 0)]:=(kz (f:=fz q) hm).symm
   refine ⟨Pol.dv (fz q (xs.getD m 0)) g,?_,by rw [Pol.Jj,h2]; omega⟩
   rw [ax,Pol.EH]
   exact h1.trans (Pol.PE.T hg)
 obtain ⟨g,h1,h2⟩:=key xs.length (Nat.le_refl _)
 have:g= []:=List.length_eq_zero_iff.1 (by omega)
 subst this
 intro n
 rw [h1 n,Pol.Ho]
theorem EW {q:Nat} [NeZero q] {xs:List Nat} (ha:wo q xs) {a b:List (Fin q)} (hla:a.length≤xs.length) (hlb:b.length≤xs.length) (h:∀ k,k<xs.length→Pol.ev a (fz q (xs.getD k 0))=Pol.ev b (fz q (xs.getD k 0))):Pol.PE a b:=by
 have z:=PK ha (P:=Pol.kW a (Pol.qE (-1) b)) (by rw [uJ]; unfold Pol.qE; rw [List.length_map]; omega) (fun k hk=>by
  rw [Pol.yo,Pol.Ep,h k hk]; grind)
 intro n
 have:=z n
 rw [Pol.iA,Pol.lG] at this
 grind
def za (q:Nat) [NeZero q] (F:Nat→List Nat) (ys:List Nat):Nat→List (Fin q)
 |0=> []
 |i+1=>Pol.kW (za q F ys i) (Pol.qE (fz q (ys.getD i 0)) (toF q (F i)))
theorem GQ {q:Nat} [NeZero q] {F:Nat→List Nat} {ys:List Nat} {d:Nat}:∀ n,(∀ i,i<n→(F i).length≤d)→(za q F ys n).length≤d
 |0,_=>Nat.zero_le _
 |n+1,h=>by
  have ih:=GQ (ys:=ys) (q:=q) n (fun i hi=>h i (by omega))
  have h1:=h n (by omega)
  show (Pol.kW _ _).length≤d
  rw [uJ]
  unfold Pol.qE toF
  rw [List.length_map,List.length_map]; omega
theorem Kr {q:Nat} [NeZero q] {pts:List Nat} {F:Nat→List Nat} (hF:Units q pts F) (ys:List Nat) {k:Nat} (hk:k<pts.length):∀ m,m≤pts.length→Pol.ev (za q F ys m) (fz q (pts.getD k 0))=if k<m then fz q (ys.getD k 0) else 0
 |0,_=>by rw [if_neg (Nat.not_lt_zero _)]; rfl
 |m+1,hm=>by
  show Pol.ev (Pol.kW (za q F ys m) (Pol.qE (fz q (ys.getD m 0)) (toF q (F m)))) _=_
  rw [Pol.yo,Pol.Ep,Kr hF ys hk m (by omega),← vY,hF.val m (by omega) k hk]
  by_cases e:k=m
  ·subst e
   rw [if_neg (Nat.lt_irrefl k),if_pos rfl,if_pos (Nat.lt_succ_self k),Je]; grind
  ·rw [if_neg e,lV]
   by_cases e2:k<m
   ·rw [if_pos e2,if_pos (by omega)]; grind
   ·rw [if_neg e2,if_neg (by omega)]; grind
end Go.Own
set_option linter.unusedVariables false
set_option linter.unusedSimpArgs false
namespace Go.Own
open Go.IntWalk
theorem Tc (n k:Nat) (hk:k<256):gQ.r (limbs n) (k:Int)=(true,((n.testBit k).toNat:Int)):=by
 have e:(ile 0 (k:Int)&&ilt (k:Int) 256)=true:=by rw [bJ (by omega),cK (by omega)]; rfl
 simp only [gQ.r,gQ.g,Go.Own.lt,Tj,aj,bJ (show (0:Int)≤(k:Int) by omega),cK (show (k:Int)<256 by omega),cond_true,e,Bool.and_self,Int.toNat_natCast,jP n k hk]
 cases n.testBit k<;>rfl
theorem GK (E t:Nat):E/2^t=2*(E/2^(t+1))+(E.testBit t).toNat:=by
 rw [Nat.toNat_testBit,Nat.pow_succ,← Nat.div_div_eq_div_mul]; omega
theorem Hq (a E m:Nat) (h1:1<m) (hm:m<9223372036854775808) (hE:E<au):dK.r (a:Int) (limbs E) (m:Int)=(true,((a^E%m:Nat):Int)):=by
 have h0:0<m:=by omega
 obtain ⟨T,hT⟩:∃ T,T=bR E:=⟨_,rfl⟩
 have hT2:T≤256:=by rw [hT]; exact rY hE
 have z:ieq (m:Int) 0=false:=Gr (by omega)
 have key:dK.l0 ((a:Int),(m:Int),(),0,((a^(E/2^(T - 0))%m:Nat):Int),(T:Int) - ((0:Nat):Int) - 1,()) (limbs E,())=(true,1,((a:Int),(m:Int),(),0,((a^(E/2^(T - T))%m:Nat):Int),(T:Int) - (T:Int) - 1,()),(limbs E,()),(),()):=by
  refine bK (g:=fun rq kn ke kr x y=>dK.g0 rq kn ke kr x y) T (fun i=>((a:Int),(m:Int),(),0,((a^(E/2^(T - i))%m:Nat):Int),(T:Int) - (i:Int) - 1,())) (fun _=>(limbs E,())) _ ?_ ?_ _ 0 (Nat.zero_le _) (by show T - 0<((T:Int) - ((0:Nat):Int) - 1 - (0:Int)+1).toNat+1; omega)
  ·intro i R hi
   obtain ⟨t,ht⟩:∃ t,T - i=t+1:=⟨T - i - 1,by omega⟩
   have e1:(T:Int) - (i:Int) - 1=(t:Int):=by omega
   have e2:T - (i+1)=t:=by omega
   have w1:IntKind.i64.wrap ((t:Int) - 1)=(T:Int) - ((i+1:Nat):Int) - 1:=by rw [i64_in _ (by omega)]; omega
   obtain ⟨K,hK⟩:∃ K,K=E/2^(t+1):=⟨_,rfl⟩
   have hd:=GK E t
   rw [← hK] at hd
   have sq:a^K%m*(a^K%m)%m=a^(2*K)%m:=by rw [← Nat.mul_mod,← Nat.pow_add]; congr 2; omega
   have m1:=EG (a^K%m) (a^K%m) m h0 hm
   rw [sq] at m1
   have m2:=EG (a^(2*K)%m) a m h0 hm
   rw [Nat.mod_mul_mod,← Nat.pow_succ] at m2
   have b1:=Tc E t (by omega)
   simp only [dK.g0,Go.Own.lt,ht,e1,e2,← hK,bJ (show (0:Int)≤(t:Int) by omega),cond_true,dU.gB,gQ.gB,m1,b1,aj]
   cases hb:E.testBit t with
   |true=>
    rw [hb] at hd
    have hd':E/2^t=(2*K).succ:=by rw [hd]; rfl
    simp only [hd',m2,w1,aj,uE,cond_true]
   |false=>
    rw [hb] at hd
    have hd':E/2^t=2*K:=by rw [hd]; rfl
    simp only [hd',w1,uE,cond_false]
  ·intro R
   have:¬ (0:Int)≤(T:Int) - (T:Int) - 1:=by omega
   simp only [dK.g0,Go.Own.lt,lQ this,cond_false]
 have hz:E/2^T=0:=Nat.div_eq_of_lt (by rw [hT]; exact oh E)
 have e1:(1:Int).tmod (m:Int)=((1%m:Nat):Int):=yK 1 m
 have w1:IntKind.i64.wrap ((T:Int) - 1)=(T:Int) - 1:=i64_in _ (by omega)
 have e3:(T:Int) - ((0:Nat):Int) - 1=(T:Int) - 1:=by omega
 rw [Nat.sub_zero,hz,Nat.pow_zero,Nat.sub_self,Nat.pow_zero,Nat.div_one,e3] at key
 simp only [dK.r,dK.g,Go.Own.lt,e1,z,Bool.not_false,aj,RN E hE,← hT,w1,key]
end Go.Own
set_option linter.unusedVariables false
set_option linter.unusedSimpArgs false
namespace Go.Own
open Go.IntWalk
end Go.Own
set_option linter.unusedVariables false
set_option linter.unusedSimpArgs false
namespace Go.Own
open Go.IntWalk
structure GF (gv:d9) (p q g:Nat):Prop where
 grp:Grp gv p q g
 p1:1<p
 pW:p<au
 q1:1<q
 qW:q<au
 gW:g<au
 ord:g^q%p=1
section
variable {gv:d9} {p q g:Nat}
theorem GF.ring (h:GF gv p q g):∃ rp i1,Rng rp p i1 (au%p) (au*au%p)∧fq.r (some gv)=(true,rp):=by
 obtain ⟨rp,rq,i1,i2,e,hR,hQ⟩:=h.grp
 subst e
 exact ⟨rp,i1,hR,rfl⟩
theorem GF.fld (h:GF gv p q g):Fld (some gv) q:=h.grp.fld
theorem GF.gen (h:GF gv p q g):om.r (some gv)=(true,limbs g):=by
 obtain ⟨rp,rq,i1,i2,e,hR,hQ⟩:=h.grp
 subst e; rfl
theorem Pb (h:GF gv p q g) {a e:Nat} (ha:a<au) (he:e<au):mI.r (some gv) (limbs a) (limbs e)=(true,limbs (a^e%p)):=by
 obtain ⟨rp,i1,hR,hr⟩:=h.ring
 simp only [mI.r,mI.g,Go.Own.lt,hr,HV hR ha he,aj]
theorem Hr (h:GF gv p q g) {e:Nat} (he:e<au):kY.r (some gv) (limbs e)=(true,limbs (g^e%p)):=by
 simp only [kY.r,kY.g,Go.Own.lt,h.gen,Pb h h.gW he,aj]
def InG (p q a:Nat):Bool:=decide (¬ a=0)&&(decide (a<p)&&decide (a^q%p=1))
theorem KF (h:GF gv p q g) {a:Nat} (ha:a<au):oI.r (some gv) (limbs a)=(true,InG p q a):=by
 obtain ⟨rp,i1,hR,hr⟩:=h.ring
 have hp0:0<p:=by have:=h.p1; omega
 have e1:dM.r 1=(true,limbs 1):=by rw [si _ (by decide)]; rfl
 have hlt:a^q%p<au:=Nat.lt_trans (Nat.mod_lt _ hp0) h.pW
 have E:=eqL hlt (show 1<au by decide)
 have Z:=eqZ ha
 unfold InG
 simp only [oI.r,oI.g,Go.Own.lt,hr,Rj hR ha,Rm h.fld,HV hR ha h.qW,e1,E,Z,aj]
 by_cases h0:a=0
 ·simp only [h0,decide_true,Bool.not_true,cond_false,not_true_eq_false,decide_false,Bool.false_and]
 ·simp only [h0,decide_false,Bool.not_false,cond_true,not_false_eq_true,decide_true,Bool.true_and]
  cases decide (a<p)<;>rfl
theorem Tt (h:GF gv p q g) {a b:Nat} (ha:a<au) (hb:b<au):pI.r (some gv) (limbs a) (limbs b)=(true,limbs (a*b%p)):=by
 obtain ⟨rp,i1,hR,hr⟩:=h.ring
 have hp0:0<p:=by have:=h.p1; omega
 have e1:dM.r 1=(true,limbs 1):=by rw [si _ (by decide)]; rfl
 have m1:=JF hR (show 1<au by decide) ha
 rw [Nat.one_mul] at m1
 have m2:=JF hR (Nat.lt_trans (Nat.mod_lt a hp0) h.pW) hb
 rw [Nat.mod_mul_mod] at m2
 have key:gy.l0 (some gv,(),(),[limbs a,limbs b],2,0,()) ([0,0,0,0],limbs 1,())=(true,1,(some gv,(),(),[limbs a,limbs b],2,2,()),([0,0,0,0],limbs (a*b%p),()),(),()):=by
  have z1:IntKind.i64.wrap ((0:Int)+1)=1:=rfl
  have z2:IntKind.i64.wrap ((1:Int)+1)=2:=rfl
  have d0:([limbs a,limbs b]).getD ((0:Int)).toNat [0,0,0,0]=limbs a:=rfl
  have d1:([limbs a,limbs b]).getD ((1:Int)).toNat [0,0,0,0]=limbs b:=rfl
  have bl:(([limbs a,limbs b]).length:Int)=2:=rfl
  refine Ip (g:=fun rq kn ke kr x y=>gy.g0 rq kn ke kr x y) (x1:=(some gv,(),(),[limbs a,limbs b],2,1,())) (y1:=([0,0,0,0],limbs (a%p),())) (x2:=(some gv,(),(),[limbs a,limbs b],2,2,())) (y2:=([0,0,0,0],limbs (a*b%p),())) ?_ ?_ ?_ _ ?_
  ·intro R
   simp only [gy.g0,Go.Own.lt,show ilt (0:Int) 2=true from rfl,cond_true,d0,bl,show ile (0:Int) 0=true from rfl,Bool.and_self,aj,hr,m1,z1]
  ·intro R
   simp only [gy.g0,Go.Own.lt,show ilt (1:Int) 2=true from rfl,cond_true,d1,bl,show ile (0:Int) 1=true from rfl,Bool.and_self,aj,hr,m2,z2]
  ·intro R
   simp only [gy.g0,Go.Own.lt,show ilt (2:Int) 2=false from rfl,cond_false]
  ·show 3≤((2:Int) - 0).toNat+1
   decide
 have bl:(([limbs a,limbs b]).length:Int)=2:=rfl
 simp only [pI.r,pI.g,gy.r,gy.g,Go.Own.lt,e1,bl,key,aj]
theorem O8 (h:GF gv p q g) {bs es:List Nat} (hb:∀ b∈bs,b<au) (he:∀ e∈es,e<au) (hl:bs.length=es.length) (h64:bs.length≤64):mH.r (some gv) (bs.map limbs) (es.map limbs)=(true,limbs (fI (fun e=>e) bs es%p),0):=by
 obtain ⟨rp,i1,hR,hr⟩:=h.ring
 simp only [mH.r,mH.g,Go.Own.lt,hr,O6 hR hb he hl h64,aj]
def vg (q:Nat) (a b:List Nat):Nat→Nat
 |0=>0
 |k+1=>(vg q a b k+a.getD k 0*b.getD k 0%q)%q
theorem Kv {q:Nat} (h0:0<q) (a b:List Nat):∀ k,vg q a b k<q
 |0=>h0
 |k+1=>Nat.mod_lt _ h0
theorem Un {gx:Option d9} (h:Fld gx q) {a b:List Nat} (ha:∀ x∈a,x<au) (hb:∀ x∈b,x<au) (hl:a.length=b.length) (hn:a.length≤1073741824):jA.r gx (a.map limbs) (b.map limbs)=(true,limbs (vg q a b a.length),0):=by
 obtain ⟨rq,inv,hR,hF⟩:=h.field
 have h0:0<q:=by have:=h.gt; omega
 have key:jA.l0 (gx,a.map limbs,b.map limbs,(),0,(),(a.length:Int),((0:Nat):Int),()) ([0,0,0,0],limbs (vg q a b 0),())=(true,1,(gx,a.map limbs,b.map limbs,(),0,(),(a.length:Int),(a.length:Int),()),([0,0,0,0],limbs (vg q a b a.length),()),(),()):=by
  refine bK (g:=fun rq kn ke kr x y=>jA.g0 rq kn ke kr x y) a.length (fun j=>(gx,a.map limbs,b.map limbs,(),0,(),(a.length:Int),(j:Int),())) (fun j=>([0,0,0,0],limbs (vg q a b j),())) _ ?_ ?_ _ 0 (Nat.zero_le _) (by show a.length - 0<((a.length:Int) - ((0:Nat):Int)).toNat+1; omega)
  ·intro j R hj
   have g1:(a.map limbs).getD j [0,0,0,0]=limbs (a.getD j 0):=getD_map hj
   have g2:(b.map limbs).getD j [0,0,0,0]=limbs (b.getD j 0):=getD_map (by omega)
   have M:=Bz h (ha _ (fF hj)) (hb _ (fF (show j<b.length by omega)))
   have A:=BA h (Nat.lt_trans (Kv h0 a b j) h.lt) (Nat.lt_trans (Nat.mod_lt (a.getD j 0*b.getD j 0) h0) h.lt)
   have e1:(vg q a b j+a.getD j 0*b.getD j 0%q)%q=vg q a b (j+1):=rfl
   have w1:IntKind.i64.wrap ((j:Int)+1)=((j+1:Nat):Int):=i64_in _ (by omega)
   simp only [jA.g0,Go.Own.lt,List.length_map,← hl,cK (show (j:Int)<(a.length:Int) by omega),bJ (show (0:Int)≤(j:Int) by omega),cond_true,Bool.and_self,Int.toNat_natCast,aj,g1,g2,M,A,e1,w1]
  ·intro R
   simp only [jA.g0,Go.Own.lt,dJ (show ¬ (a.length:Int)<(a.length:Int) by omega),cond_false]
 have z:limbs (vg q a b 0)= [0,0,0,0]:=eG
 rw [z] at key
 have k2:jA.l0 (gx,a.map limbs,b.map limbs,(),0,(),(a.length:Int),0,()) ([0,0,0,0],[0,0,0,0],())=_:=key
 have c1:((a.length:Int) != (a.length:Int))=false:=by simp
 simp only [jA.r,jA.g,Go.Own.lt,hF,aj,hR.wQ,cond_false,List.length_map,← hl,c1,k2]
def toN (p g:Nat) (f:List Nat) (n:Nat):List Nat:=(List.range n).map fun k=>g^(f.getD k 0)%p
theorem P6 {f:List Nat} {n:Nat}:(toN p g f n).length=n:=by unfold toN; simp
theorem RU (h:GF gv p q g) {f:List Nat} {n:Nat}:∀ a∈toN p g f n,a<p:=fun a ha=>by
 unfold toN at ha
 obtain ⟨k,_,rfl⟩:=List.mem_map.1 ha
 exact Nat.mod_lt _ (by have:=h.p1; omega)
def toA (p g:Nat) (f:List Nat) (n j:Nat):List (List Int):=(List.range n).map fun k=>if k<j then limbs (g^(f.getD k 0)%p) else [0,0,0,0]
theorem JL {f:List Nat} {n j:Nat} (hj:j<n):(toA p g f n j).set j (limbs (g^(f.getD j 0)%p))=toA p g f n (j+1):=by
 unfold toA
 apply List.ext_getElem?
 intro k
 rw [List.getElem?_set,List.length_map,List.length_range,List.getElem?_map,List.getElem?_map]
 rcases Nat.lt_or_ge k n with hk|hk
 ·rw [List.getElem?_range hk]
  by_cases e:j=k
  ·subst e
   rw [if_pos rfl,if_pos hj]
   simp only [Option.map_some,if_pos (Nat.lt_succ_self j)]
  ·rw [if_neg e]
   simp only [Option.map_some]
   congr 1
   by_cases e2:k<j
   ·rw [if_pos e2,if_pos (by omega)]
   ·rw [if_neg e2,if_neg (by omega)]
 ·rw [if_neg (by omega),List.getElem?_eq_none (by simpa using hk)]; rfl
theorem MQ {α:Type} (l:List α) (i:Nat) (a b:α):(l.set i a).set i b=l.set i b:=by simp
theorem Ue (h:GF gv p q g) {f:List Nat} (hf:∀ a∈f,a<au) {n:Nat} (hn:n≤1000) (hfl:f.length≤1073741824):ic.l0 (some gv,f.map limbs,(),0,(),(n:Int),0,()) ((false,toA p g f n 0),())=(true,1,(some gv,f.map limbs,(),0,(),(n:Int),(n:Int),()),((false,toA p g f n n),()),(),()):=by
 have al:∀ j,(toA p g f n j).length=n:=fun j=>by unfold toA; simp
 have P0:=Hr h (show 0<au by decide)
 rw [eG] at P0
 have key:ic.l0 (some gv,f.map limbs,(),0,(),(n:Int),((0:Nat):Int),()) ((false,toA p g f n 0),())=(true,1,(some gv,f.map limbs,(),0,(),(n:Int),(n:Int),()),((false,toA p g f n n),()),(),()):=by
  refine bK (g:=fun rq kn ke kr x y=>ic.g0 rq kn ke kr x y) n (fun j=>(some gv,f.map limbs,(),0,(),(n:Int),(j:Int),())) (fun j=>((false,toA p g f n j),())) _ ?_ ?_ _ 0 (Nat.zero_le _) (by show n - 0<((n:Int) - ((0:Nat):Int)).toNat+1; omega)
  ·intro j R hj
   have w1:IntKind.i64.wrap ((j:Int)+1)=((j+1:Nat):Int):=i64_in _ (by omega)
   by_cases hjf:j<f.length
   ·have g1:(f.map limbs).getD j [0,0,0,0]=limbs (f.getD j 0):=getD_map hjf
    have P1:=Hr h (hf _ (fF hjf))
    simp only [ic.g0,Go.Own.lt,cK (show (j:Int)<(n:Int) by omega),cond_true,P0,aj,al,List.length_set,List.length_map,bJ (show (0:Int)≤(j:Int) by omega),Bool.and_self,Int.toNat_natCast,cK (show (j:Int)<(f.length:Int) by omega),g1,P1,MQ,JL hj,w1]
   ·have g0:f.getD j 0=0:=jD (by omega)
    have e:=JL (p:=p) (g:=g) (f:=f) hj
    rw [g0] at e
    simp only [ic.g0,Go.Own.lt,cK (show (j:Int)<(n:Int) by omega),cond_true,P0,aj,al,List.length_map,bJ (show (0:Int)≤(j:Int) by omega),Bool.and_self,Int.toNat_natCast,dJ (show ¬ (j:Int)<(f.length:Int) by omega),cond_false,e,w1]
  ·intro R
   simp only [ic.g0,Go.Own.lt,dJ (show ¬ (n:Int)<(n:Int) by omega),cond_false]
 exact key
theorem UG (h:GF gv p q g) {f:List Nat} (hf:∀ a∈f,a<au) {n:Nat} (h1:1≤n) (h7:n≤7) (hfl:f.length≤1073741824) (ht:tl (rJ q f) f.length≤n):ic.r (some gv) (f.map limbs) (n:Int)=(true,(toN p g f n).map limbs,0):=by
 obtain ⟨rq,inv,hR,hF⟩:=h.fld.field
 have T:=ED h.fld hf hfl
 have e0:List.replicate n [0,0,0,0]=toA p g f n 0:=by
  unfold toA
  apply List.ext_getElem?
  intro k
  rw [List.getElem?_replicate,List.getElem?_map]
  split
  ·rename_i hk; rw [List.getElem?_range hk]; rfl
  ·rename_i hk; rw [List.getElem?_eq_none (by simpa using hk)]; rfl
 have e1:toA p g f n n=(toN p g f n).map limbs:=by
  unfold toA toN
  rw [List.map_map]
  exact List.map_congr_left fun k hk=>if_pos (List.mem_range.1 hk)
 have c1:(ile 0 (n:Int)&&ile (n:Int) (n:Int))=true:=by rw [bJ (by omega),bJ (Int.le_refl _)]; rfl
 have c2:ile ((n:Int)*((32:Nat):Int)) 70368744177664=true:=bJ (by omega)
 simp only [ic.r,ic.g,Go.Own.lt,hF,aj,hR.wQ,cond_false,dJ (show ¬ (n:Int)<1 by omega),dJ (show ¬ (7:Int)<(n:Int) by omega),T,show Nat.beq 1 0=false from rfl,dJ (show ¬ (n:Int)<(tl (rJ q f) f.length:Int) by omega),Int.toNat_natCast,e0,c1,c2,Bool.and_self,Ue h hf (show n≤1000 by omega) hfl,e1]
def atN (p:Nat) (c:List Nat) (i:Nat):Nat:=fI (fun e=>e) c ((List.range c.length).map fun j=>i^j)%p
theorem Tx (h:GF gv p q g) {c:List Nat} (hc:∀ a∈c,a<au) (h7:c.length≤7) {i:Nat} (hi:i≤7):ig.r (some gv) (c.map limbs) (i:Int)=(true,limbs (atN p c i)):=by
 have pw:∀ j,j≤7→i^j≤823543:=fun j hj=>Nat.le_trans (Nat.pow_le_pow_left hi j) (Nat.le_trans (Nat.pow_le_pow_right (by decide) hj) (by decide))
 have key:ig.l0 (some gv,c.map limbs,(i:Int),(),(),((i^0:Nat):Int),(c.length:Int),((0:Nat):Int),()) ([0,0,0,0],(decide (0=0),(List.range 0).map fun j=>limbs (i^j)),())=(true,1,(some gv,c.map limbs,(i:Int),(),(),((i^c.length:Nat):Int),(c.length:Int),(c.length:Int),()),([0,0,0,0],(decide (c.length=0),(List.range c.length).map fun j=>limbs (i^j)),()),(),()):=by
  refine bK (g:=fun rq kn ke kr x y=>ig.g0 rq kn ke kr x y) c.length (fun j=>(some gv,c.map limbs,(i:Int),(),(),((i^j:Nat):Int),(c.length:Int),(j:Int),())) (fun j=>([0,0,0,0],(decide (j=0),(List.range j).map fun j=>limbs (i^j)),())) _ ?_ ?_ _ 0 (Nat.zero_le _) (by show c.length - 0<((c.length:Int) - ((0:Nat):Int)).toNat+1; omega)
  ·intro j R hj
   have hpj:=pw j (by omega)
   have hpj1:=pw (j+1) (by omega)
   have n1:dM.r ((i^j:Nat):Int)=(true,limbs (i^j)):=by rw [si _ (by omega)]; rfl
   have c1:nle ((2*(j+1)+512)*32) 70368744177664=true:=rT (by omega)
   have s1:((List.range j).map fun j=>limbs (i^j))++ [limbs (i^j)]=(List.range (j+1)).map fun j=>limbs (i^j):=by rw [List.range_succ,List.map_append]; rfl
   have d1:decide (j+1=0)=false:=decide_eq_false (by omega)
   have e1:((i^j:Nat):Int)*(i:Int)=((i^(j+1):Nat):Int):=by rw [Nat.pow_succ,Int.natCast_mul]
   have w0:IntKind.i64.wrap ((i^(j+1):Nat):Int)=((i^(j+1):Nat):Int):=i64_in _ (by omega)
   have w1:IntKind.i64.wrap ((j:Int)+1)=((j+1:Nat):Int):=i64_in _ (by omega)
   simp only [ig.g0,Go.Own.lt,cK (show (j:Int)<(c.length:Int) by omega),cond_true,n1,aj,Bool.and_false,s1,List.length_map,List.length_range,c1,e1,w0,w1,d1]
  ·intro R
   simp only [ig.g0,Go.Own.lt,dJ (show ¬ (c.length:Int)<(c.length:Int) by omega),cond_false]
 have k2:ig.l0 (some gv,c.map limbs,(i:Int),(),(),1,(c.length:Int),0,()) ([0,0,0,0],(true,[]),())=_:=key
 have e1:((List.range c.length).map fun j=>limbs (i^j))=((List.range c.length).map fun j=>i^j).map limbs:=by rw [List.map_map]; rfl
 have M:=O8 h hc (es:=(List.range c.length).map fun j=>i^j) (fun e he=>by
  obtain ⟨j,hj,rfl⟩:=List.mem_map.1 he
  have:=pw j (by have:=List.mem_range.1 hj; omega)
  unfold au; omega) (by simp) (by omega)
 unfold atN
 simp only [ig.r,ig.g,Go.Own.lt,List.length_map,dJ (show ¬ (i:Int)<0 by omega),dJ (show ¬ (7:Int)<(i:Int) by omega),dJ (show ¬ (7:Int)<(c.length:Int) by omega),cond_false,k2,e1,M,aj]
theorem Po (h:GF gv p q g) {c:List Nat} (hc:∀ a∈c,a<au) (h1:1≤c.length) (h7:c.length≤7) (ha:∀ a∈c,InG p q a=true):gu.r (some gv) (c.map limbs)=(true,true):=by
 have key:aB.l0 (c.map limbs,(),0,(c.length:Int),((0:Nat):Int),()) (some gv,())=(true,1,(c.map limbs,(),0,(c.length:Int),(c.length:Int),()),(some gv,()),(0,()),(none,())):=by
  refine bK (g:=fun rq kn ke kr x y=>aB.g0 rq kn ke kr x y) c.length (fun j=>(c.map limbs,(),0,(c.length:Int),(j:Int),())) (fun _=>(some gv,())) _ ?_ ?_ _ 0 (Nat.zero_le _) (by show c.length - 0<((c.length:Int) - ((0:Nat):Int)).toNat+1; omega)
  ·intro j R hj
   have g1:(c.map limbs).getD j [0,0,0,0]=limbs (c.getD j 0):=getD_map hj
   have I1:=KF h (hc _ (fF hj))
   rw [ha _ (fF hj)] at I1
   have w1:IntKind.i64.wrap ((j:Int)+1)=((j+1:Nat):Int):=i64_in _ (by omega)
   simp only [aB.g0,jd.r,jd.g,Go.Own.lt,List.length_map,cK (show (j:Int)<(c.length:Int) by omega),bJ (show (0:Int)≤(j:Int) by omega),Bool.and_self,cond_true,Int.toNat_natCast,g1,I1,aj,Bool.not_true,cond_false,w1]
  ·intro R
   simp only [aB.g0,Go.Own.lt,dJ (show ¬ (c.length:Int)<(c.length:Int) by omega),cond_false]
 have k2:aB.l0 (c.map limbs,(),0,(c.length:Int),0,()) (some gv,())=_:=key
 simp only [gu.r,gu.g,bN.r,bN.g,aB.r,aB.g,Go.Own.lt,List.length_map,bJ (show (1:Int)≤(c.length:Int) by omega),bJ (show (c.length:Int)≤7 by omega),cond_true,k2,aj,show Nat.beq 1 0=false from rfl,cond_false,lQ (show ¬ (0:Int)≤ -1 by decide),Bool.not_false]
theorem KI (h:GF gv p q g) {c:List Nat} (hc:∀ a∈c,a<au) (h1:1≤c.length) (h7:c.length≤7) (ha:∀ a∈c,InG p q a=true) {i y:Nat} (hi:1≤i) (hi7:i≤7) (hy:y<q):bZ.r (some gv) (c.map limbs) ((i:Int),(limbs y,()))=(true,decide (g^y%p=atN p c i)):=by
 obtain ⟨rq,inv,hR,hF⟩:=h.fld.field
 have hyW:y<au:=Nat.lt_trans hy h.qW
 have hp0:0<p:=by have:=h.p1; omega
 have I:=Rj hR hyW
 rw [decide_eq_true hy] at I
 have E:=eqL (Nat.lt_trans (Nat.mod_lt (g^y) hp0) h.pW) (Nat.lt_trans (show atN p c i<p from Nat.mod_lt _ hp0) h.pW)
 simp only [bZ.r,bZ.g,lm.r,lm.g,Go.Own.lt,bJ (show (1:Int)≤(i:Int) by omega),bJ (show (i:Int)≤7 by omega),cond_true,hF,I,aj,Po h hc h1 h7 ha,Hr h hyW,Tx h hc h7 hi7,E]
end
end Go.Own
