/- What is proved: what the printed functions answer, in plain numbers and lists. Conditions: those that each theorem names. -/
import Derived.Test.YtapkilfcibkphaaGreatPure0
import Derived.Test.YtapkilfcibkphaaGreatG7
set_option linter.unusedVariables false
set_option linter.unusedSimpArgs false
set_option linter.unusedVariables false
set_option linter.unusedSimpArgs false
namespace Go.Own
open Go.IntWalk
def PW (n f w:Nat):Bool:=Nat.beq (n%2) 1&&Nat.blt 1 n&&Nat.blt n ay&&Nat.blt 0 f&&Nat.blt f ay&&Nat.ble 2 w&&Nat.blt w 65536&&Nat.beq ((n - 1)%f) 0&&Nat.blt n (f*f)&&Nat.beq (AA 256 (AA 256 w ((n - 1)/f) n) f n) 1&&Nat.beq (Nat.gcd ((AA 256 w ((n - 1)/f) n+(n - 1))%n) n) 1
theorem ng {a b:Nat} (h:Nat.blt a b=true):a<b:=Nat.le_of_ble_eq_true h
theorem pI {n f w:Nat} (h:PW n f w=true):DJ n f w:=by
 unfold PW at h
 simp only [Bool.and_eq_true] at h
 obtain ⟨⟨⟨⟨⟨⟨⟨⟨⟨⟨h1,h2⟩,h3⟩,h4⟩,h5⟩,h6⟩,h7⟩,h8⟩,h9⟩,h10⟩,h11⟩:=h
 have h3:=ng h3; have h5:=ng h5
 have e:(2:Nat)^256=ay:=yw.symm
 have hq:(n - 1)/f<2^256:=by rw [e]; exact Nat.lt_of_le_of_lt (Nat.div_le_self _ _) (Nat.lt_of_le_of_lt (Nat.sub_le _ _) h3)
 have h10:=Nat.eq_of_beq_eq_true h10; have h11:=Nat.eq_of_beq_eq_true h11
 rw [sI 256 _ _ _ hq,sI 256 _ _ _ (by rw [e]; exact h5)] at h10
 rw [sI 256 _ _ _ hq] at h11
 exact ⟨Nat.eq_of_beq_eq_true h1,ng h2,h3,ng h4,h5,Nat.le_of_ble_eq_true h6,ng h7,Nat.eq_of_beq_eq_true h8,ng h9,h10,h11⟩
abbrev dN:Type:=((Option aG)×((Option aG)×Unit))×((List Int)×Unit)
def Grp (gv:dN) (p q g:Nat):Prop:=∃ rp rq i1 i2,gv=((rp,(rq,())),(limbs g,()))∧Rng rp p i1 (ay%p) (ay*ay%p)∧Rng rq q i2 (ay%q) (ay*ay%q)
theorem JJ {ps:List (Nat×Nat)} {g p q w:Nat} (h2:2≤ps.length) (h8:ps.length≤8) (hc:eO.r (ps.map fV)=(true,0)) (hpp:p=(ps.getD (ps.length - 1) (0,0)).1) (hqq:q=(ps.getD (ps.length - 2) (0,0)).1)
  (hp:DJ p q w) (hqo:q%2=1) (hql:10≤bF q) (hg:g<p) (hg1:1<g) (hpow:g^q%p=1):
  ∃ gv,Grp gv p q g∧kR.r (ps.map fV,(limbs g,()))=(true,1,(none,0),(0,gv)):=by
 have hpl:=hp.lt
 have hq1:1<q:=by
  rcases Nat.lt_or_ge 1 q with h|h
  ·exact h
  ·have:bF q≤1:=by
    have:q=0∨q=1:=by omega
    rcases this with rfl|rfl<;>decide
   omega
 obtain ⟨rp,i1,hR,hN⟩:=NQ p hpl hp.odd hp.gt
 obtain ⟨rq,i2,hR2,hN2⟩:=NQ q hp.flt hqo hq1
 have n1:dm.r 1=(true,limbs 1):=by rw [qQ _ (by decide)]; rfl
 have e0:((0:Int) != 0)=false:=rfl
 have g1:(ps.map fV).getD (ps.length - 1) ([0,0,0,0],(0,()))=fV (ps.getD (ps.length - 1) (0,0)):=getD_map (by omega)
 have g2:(ps.map fV).getD (ps.length - 2) ([0,0,0,0],(0,()))=fV (ps.getD (ps.length - 2) (0,0)):=getD_map (by omega)
 have w1:IntKind.i64.wrap ((ps.length:Int) - 1)=((ps.length - 1:Nat):Int):=by rw [i64_in _ (by omega)]; omega
 have w2:IntKind.i64.wrap ((ps.length:Int) - 2)=((ps.length - 2:Nat):Int):=by rw [i64_in _ (by omega)]; omega
 have hgW:g<ay:=Nat.lt_trans hg hpl
 refine ⟨((rp,(rq,())),(limbs g,())),⟨rp,rq,i1,i2,rfl,hR,hR2⟩,?_⟩
 have i1:(ile 0 ((ps.length - 1:Nat):Int)&&ilt ((ps.length - 1:Nat):Int) (ps.length:Int))=true:=rng (by omega)
 have i2:(ile 0 ((ps.length - 2:Nat):Int)&&ilt ((ps.length - 2:Nat):Int) (ps.length:Int))=true:=rng (by omega)
 simp only [kR.r,kR.g,lt,List.length_map,dA (show ¬ (ps.length:Int)<2 by omega),cond_false,hc,aj,e0,w1,w2,i1,i2,Int.toNat_natCast,g1,g2,zq,← hpp,← hqq,hN,hN2,NN q hp.flt,dA (show ¬ (bF q:Int)<10 by omega),eqZ hgW,decide_eq_false (show ¬ g=0 by omega),n1,eqL hgW (show 1<ay by decide),decide_eq_false (show ¬ g=1 by omega),Sr hR hgW,hg,decide_true,Bool.not_true,NZ hR hgW hp.flt,hpow,eqL (show 1<ay by decide) (show 1<ay by decide)]
def oC:List (Nat×Nat):= [(65521,0),(1966023127,2),(1055500680322183127,2)]
def mJ:Nat:=316543771439780984
def y7:Nat:=1055500680322183127
def lQ:Nat:=1966023127
theorem Ii:eO.r (oC.map fV)=(true,0):=by
 refine JK (by decide) (by decide) (by decide) (by kernel_rfl) rfl ?_
 intro i hi
 have:i=0∨i=1:=by
  have:i+1<3:=hi
  omega
 rcases this with rfl|rfl
 ·exact pI (by kernel_rfl)
 ·exact pI (by kernel_rfl)
theorem Ht:∃ gv,Grp gv y7 lQ mJ∧kR.r (oC.map fV,(limbs mJ,()))=(true,1,(none,0),(0,gv)):=by
 have h1:Nat.blt lQ (2^256)=true:=by kernel_rfl
 have h2:AA 256 mJ lQ y7=1:=by kernel_rfl
 have hpow:mJ^lQ%y7=1:=(sI 256 _ _ _ (ng h1)).symm.trans h2
 have h3:Nat.blt mJ y7=true:=by kernel_rfl
 have h4:Nat.blt 1 mJ=true:=by kernel_rfl
 have h5:Nat.ble 10 (bF lQ)=true:=by kernel_rfl
 have h6:lQ%2=1:=by kernel_rfl
 exact JJ (ps:=oC) (p:=y7) (q:=lQ) (w:=2) (by decide) (by decide) Ii (by kernel_rfl) (by kernel_rfl) (pI (by kernel_rfl)) h6 (Nat.le_of_ble_eq_true h5) (ng h3) (ng h4) hpow
def oz:List (Nat×Nat):= [(64817,0),(1815135269,2),(487269091447081429,2)]
def mI:Nat:=54624333139524128
def y5:Nat:=487269091447081429
def lN:Nat:=1815135269
theorem Ih:eO.r (oz.map fV)=(true,0):=by
 refine JK (by decide) (by decide) (by decide) (by kernel_rfl) rfl ?_
 intro i hi
 have:i=0∨i=1:=by
  have:i+1<3:=hi
  omega
 rcases this with rfl|rfl
 ·exact pI (by kernel_rfl)
 ·exact pI (by kernel_rfl)
theorem Hr:∃ gv,Grp gv y5 lN mI∧kR.r (oz.map fV,(limbs mI,()))=(true,1,(none,0),(0,gv)):=by
 have h1:Nat.blt lN (2^256)=true:=by kernel_rfl
 have h2:AA 256 mI lN y5=1:=by kernel_rfl
 have hpow:mI^lN%y5=1:=(sI 256 _ _ _ (ng h1)).symm.trans h2
 have h3:Nat.blt mI y5=true:=by kernel_rfl
 have h4:Nat.blt 1 mI=true:=by kernel_rfl
 have h5:Nat.ble 10 (bF lN)=true:=by kernel_rfl
 have h6:lN%2=1:=by kernel_rfl
 exact JJ (ps:=oz) (p:=y5) (q:=lN) (w:=2) (by decide) (by decide) Ih (by kernel_rfl) (by kernel_rfl) (pI (by kernel_rfl)) h6 (Nat.le_of_ble_eq_true h5) (ng h3) (ng h4) hpow
end Go.Own
set_option linter.unusedVariables false
set_option linter.unusedSimpArgs false
namespace Go.Own
open Go.IntWalk
structure Fld (gx:Option dN) (q:Nat):Prop where
 ex:∃ gv rq inv,gx=some gv∧gv.1.2.1=rq∧Rng rq q inv (ay%q) (ay*ay%q)
theorem Grp.fld {gv:dN} {p q g:Nat} (h:Grp gv p q g):Fld (some gv) q:=by
 obtain ⟨rp,rq,i1,i2,rfl,_,h2⟩:=h
 exact ⟨_,rq,i2,rfl,rfl,h2⟩
theorem Rng.oJ {rx m inv one sq} (h:Rng rx m inv one sq):rx.isNone=false:=by rw [h.eq]; rfl
theorem Fld.field {gx:Option dN} {q:Nat} (h:Fld gx q):∃ rq inv,Rng rq q inv (ay%q) (ay*ay%q)∧bn.r gx=(true,rq):=by
 obtain ⟨gv,rq,inv,rfl,e,hR⟩:=h.ex
 refine ⟨rq,inv,hR,?_⟩
 simp only [bn.r,bn.g,lt,Option.isNone_some,cond_false,Option.getD_some,Option.isSome_some,aj,e]
theorem Fld.gt {gx:Option dN} {q:Nat} (h:Fld gx q):1<q:=by obtain ⟨rq,inv,hR,_⟩:=h.field; exact hR.gt
theorem Fld.lt {gx:Option dN} {q:Nat} (h:Fld gx q):q<ay:=by obtain ⟨rq,inv,hR,_⟩:=h.field; exact hR.lt
theorem Ra {gx:Option dN} {q:Nat} (h:Fld gx q):fF.r gx=(true,limbs q):=by
 obtain ⟨rq,inv,hR,hF⟩:=h.field
 simp only [fF.r,fF.g,Go.Own.lt,hF,aj,Sn hR]
theorem DT {gx:Option dN} {q:Nat} (h:Fld gx q) {a b:Nat} (ha:a<ay) (hb:b<ay):gL.r gx (limbs a) (limbs b)=(true,limbs ((a+b)%q)):=by
 have:=h.gt
 simp only [gL.r,gL.g,Go.Own.lt,Ra h,aj,N8 a b q ha hb h.lt (by omega)]
theorem NY {gx:Option dN} {q:Nat} (h:Fld gx q) {a b:Nat} (ha:a<ay) (hb:b<ay):kS.r gx (limbs a) (limbs b)=(true,limbs ((a%q+(q - b%q))%q)):=by
 have:=h.gt
 simp only [kS.r,kS.g,Go.Own.lt,Ra h,aj,Ai a b q ha hb h.lt (by omega)]
theorem DR {gx:Option dN} {q:Nat} (h:Fld gx q) {a b:Nat} (ha:a<ay) (hb:b<ay):gK.r gx (limbs a) (limbs b)=(true,limbs (a*b%q)):=by
 obtain ⟨rq,inv,hR,hF⟩:=h.field
 simp only [gK.r,gK.g,Go.Own.lt,hF,aj,Q9 hR ha hb]
theorem Rb {gx:Option dN} {q:Nat} (h:Fld gx q) {a:Nat} (ha:a<ay) (hg:Nat.gcd a q=1):∃ s,NV a q s∧nJ.r gx (limbs a)=(true,limbs s):=by
 have h1:=h.gt
 rcases Gg a q ha h.lt (by omega) with ⟨_,s,hs,e⟩|⟨hn,_⟩
 ·refine ⟨s,hs,?_⟩
  have e0:((0:Int) != 0)=false:=rfl
  simp only [nJ.r,nJ.g,Go.Own.lt,Ra h,aj,e,e0,cond_false]
 ·exact absurd hg hn
theorem fold_map {gx:Option dN} {q:Nat} (h:Fld gx q) {x:Nat} (hx:x<ay):∀ (l:List Nat) (w:Nat),w<ay→(∀ a∈l,a<ay)→(l.map limbs).foldl (gJ.step gx (limbs x)) (true,limbs w)=(true,limbs (l.foldl (fun w a=>(w*x%q+a)%q) w))
 | [],w,_,_=>rfl
 |a::l,w,hw,hl=>by
  have h0:0<q:=by have:=h.gt; omega
  have h1:w*x%q<ay:=Nat.lt_trans (Nat.mod_lt _ h0) h.lt
  have h2:(w*x%q+a)%q<ay:=Nat.lt_trans (Nat.mod_lt _ h0) h.lt
  have e:gJ.step gx (limbs x) (true,limbs w) (limbs a)=(true,limbs ((w*x%q+a)%q)):=by
   simp only [gJ.step,Go.Own.lt,DR h hw hx,DT h h1 (hl a (by simp)),Bool.and_self]
  show (l.map limbs).foldl _ (gJ.step gx (limbs x) (true,limbs w) (limbs a))=_
  rw [e,fold_map h hx l _ h2 fun b hb=>hl b (by simp [hb])]
  rfl
def evN (q:Nat) (f:List Nat) (x:Nat):Nat:=f.foldr (fun a w=>(w*x%q+a)%q) 0
theorem Ms {f:List Nat}:∀ (l:List (List Int)),(∀ a∈l,a∈f.map limbs)→∃ l':List Nat,l=l'.map limbs∧∀ a∈l',a∈f
 | [],_=>⟨[],rfl,by simp⟩
 |a::l,h=>by
  obtain ⟨l',rfl,h2⟩:=Ms l fun b hb=>h b (by simp [hb])
  obtain ⟨b,hb,rfl⟩:=List.mem_map.1 (h a (by simp))
  refine ⟨b::l',rfl,?_⟩
  intro c hc
  rcases List.mem_cons.1 hc with rfl|hc
  ·exact hb
  ·exact h2 c hc
theorem IC {gx:Option dN} {q:Nat} (h:Fld gx q) {f:List Nat} {x:Nat} (hf:∀ a∈f,a<ay) (hl:f.length≤9223372036854775807) (hx:x<ay):gJ.r gx (f.map limbs) (limbs x)=(true,limbs (evN q f x)):=by
 unfold gJ.r
 have fo:∀ l':List Nat,(∀ a∈l',a∈f)→gJ.fold gx (limbs x) (l'.map limbs)=(true,limbs (l'.foldl (fun w a=>(w*x%q+a)%q) 0)):=by
  intro l' hl'
  have:=fold_map h hx l' 0 (by decide) fun a ha=>hf a (hl' a ha)
  rw [eX] at this
  exact this
 refine Prod.ext ?_ ?_
 ·refine @decide_eq_true _ (Classical.propDecidable _) ⟨by rw [List.length_map]; exact hl,?_⟩
  intro l hm
  obtain ⟨l',rfl,h2⟩:=Ms l hm
  rw [fo l' h2]
 ·show (gJ.fold gx (limbs x) (f.map limbs).reverse).2=_
  rw [← List.map_reverse,fo f.reverse fun a ha=>List.mem_reverse.1 ha,List.foldl_reverse]
  rfl
theorem Dp {q:Nat} (hq:0<q) (f:List Nat) (x:Nat):evN q f x<q:=by
 cases f with
 |nil=>exact hq
 |cons a f=>exact Nat.mod_lt _ hq
theorem JG {a:Nat} (ha:a<ay):kN.r (limbs a)=(true,decide (a=0)):=by
 simp only [kN.r,kN.g,lt,eqZ ha]
def iI (f:List Nat) (k:Int):Nat:=if k<0 then 0 else f.getD k.toNat 0
theorem vC {f:List Nat} (hf:∀ a∈f,a<ay) (k:Int):iI f k<ay:=by
 unfold iI
 split
 ·decide
 ·rcases Nat.lt_or_ge k.toNat f.length with h|h
  ·exact hf _ (gN h)
  ·rw [List.getD_eq_getElem?_getD,List.getElem?_eq_none h]; decide
theorem NM (f:List Nat) (k:Int):lF.r (f.map limbs) k=(true,limbs (iI f k)):=by
 simp only [lF.r,lF.g,lt,List.length_map]
 unfold iI
 by_cases h0:k<0
 ·rw [if_pos h0,dQ h0,eX]; rfl
 ·rw [if_neg h0,dA h0]
  by_cases h1:(f.length:Int)≤k
  ·have z:f.getD k.toNat 0=0:=by rw [List.getD_eq_getElem?_getD,List.getElem?_eq_none (by omega)]; rfl
   rw [z,eX,eF h1]; rfl
  ·have g1:(f.map limbs).getD k.toNat [0,0,0,0]=limbs (f.getD k.toNat 0):=getD_map (by omega)
   simp only [rJ h1,cond_false,g1,eF (show (0:Int)≤k by omega),dQ (show k<(f.length:Int) by omega),Bool.and_self,aj]
end Go.Own
set_option linter.unusedVariables false
set_option linter.unusedSimpArgs false
namespace Go.Own.Pol
section
variable {F:Type} [Lean.Grind.CommRing F]
def cf (l:List F) (n:Nat):F:=l.getD n 0
def ev (l:List F) (x:F):F:=l.foldr (fun a s=>s*x+a) 0
def PE (a b:List F):Prop:=∀ n,cf a n=cf b n
theorem PE.rfl' {a:List F}:PE a a:=fun _=>rfl
theorem PE.symm {a b:List F} (h:PE a b):PE b a:=fun n=>(h n).symm
theorem PE.trans {a b c:List F} (h:PE a b) (h2:PE b c):PE a c:=fun n=>(h n).trans (h2 n)
theorem iU (n:Nat):cf ([]:List F) n=0:=by simp [cf]
theorem j6 (a:F) (l:List F):cf (a::l) 0=a:=rfl
theorem iJ (a:F) (l:List F) (n:Nat):cf (a::l) (n+1)=cf l n:=by simp [cf]
theorem Jw {l:List F} {x:F} (h:∀ n,cf l n=0):ev l x=0:=by
 induction l with
 |nil=>rfl
 |cons a l ih=>
  have h0:=h 0
  rw [j6] at h0
  have:=ih fun n=>by have:=h (n+1); rwa [iJ] at this
  show ev l x*x+a=0
  rw [this,h0]; grind
theorem Dm:∀ {a b:List F} {x:F},PE a b→ev a x=ev b x
 | [],b,x,h=>by rw [Jw (l:=b) fun n=>by rw [← h n,iU]]; rfl
 |a::al,[],x,h=>by rw [Jw (l:=a::al) fun n=>by rw [h n,iU]]; rfl
 |a::al,b::bs,x,h=>by
  have h0:a=b:=h 0
  have ih:=Dm (a:=al) (b:=bs) (x:=x) fun n=>by have:=h (n+1); rwa [iJ,iJ] at this
  show ev al x*x+a=ev bs x*x+b
  rw [ih,h0]
def mO:List F→List F→List F
 | [],b=>b
 |a::al,[]=>a::al
 |a::al,b::bs=>(a+b)::mO al bs
theorem iL:∀ (a b:List F) (n:Nat),cf (mO a b) n=cf a n+cf b n
 | [],b,n=>by rw [iU]; simp only [mO]; grind
 |a::al,[],n=>by rw [iU]; simp only [mO]; grind
 |a::al,b::bs,0=>rfl
 |a::al,b::bs,n+1=>by simp only [mO,iJ]; exact iL al bs n
theorem Dn:∀ (a b:List F) (x:F),ev (mO a b) x=ev a x+ev b x
 | [],b,x=>by show ev b x=0+ev b x; grind
 |a::al,[],x=>by show ev (a::al) x=ev (a::al) x+0; grind
 |a::al,b::bs,x=>by
  have:=Dn al bs x
  show ev (mO al bs) x*x+(a+b)=(ev al x*x+a)+(ev bs x*x+b)
  rw [this]; grind
def xM (c:F) (l:List F):List F:=l.map (c* ·)
theorem mZ (c:F):∀ (l:List F) (n:Nat),cf (xM c l) n=c*cf l n
 | [],n=>by rw [iU]; show cf ([]:List F) n=_; rw [iU]; grind
 |a::l,0=>rfl
 |a::l,n+1=>by
  rw [iJ,← mZ c l n]
  exact iJ _ _ _
theorem M0 (c:F) (x:F):∀ (l:List F),ev (xM c l) x=c*ev l x
 | []=>by show (0:F)=c*0; grind
 |a::l=>by
  have:=M0 c x l
  show ev (xM c l) x*x+c*a=c*(ev l x*x+a)
  rw [this]; grind
def Ml (a:F) (l:List F):List F:=mO (0::l) (xM (-a) l)
theorem lm (a:F) (l:List F):cf (Ml a l) 0= -a*cf l 0:=by
 unfold Ml; rw [iL,mZ,j6]; grind
theorem jK (a:F) (l:List F) (n:Nat):cf (Ml a l) (n+1)=cf l n - a*cf l (n+1):=by
 unfold Ml; rw [iL,mZ,iJ]; grind
theorem Sd (a:F) (l:List F) (x:F):ev (Ml a l) x=(x - a)*ev l x:=by
 unfold Ml; rw [Dn,M0]
 show (ev l x*x+0)+_=_
 grind
theorem PE.M {a:F} {u v:List F} (h:PE u v):PE (Ml a u) (Ml a v):=by
 intro n
 cases n with
 |zero=>rw [lm,lm,h 0]
 |succ n=>rw [jK,jK,h n,h (n+1)]
theorem PE.add {a b c d:List F} (h:PE a b) (h2:PE c d):PE (mO a c) (mO b d):=fun n=>by rw [iL,iL,h n,h2 n]
theorem RL (a:F) (u v:List F):PE (Ml a (mO u v)) (mO (Ml a u) (Ml a v)):=by
 intro n
 cases n with
 |zero=>rw [iL,lm,lm,lm,iL]; grind
 |succ n=>rw [iL,jK,jK,jK,iL,iL]; grind
theorem RJ (a c:F) (u:List F):PE (Ml a (xM c u)) (xM c (Ml a u)):=by
 intro n
 cases n with
 |zero=>rw [mZ,lm,lm,mZ]; grind
 |succ n=>rw [mZ,jK,jK,mZ,mZ]; grind
theorem M_M (a b:F) (u:List F):PE (Ml a (Ml b u)) (Ml b (Ml a u)):=by
 intro n
 match n with
 |0=>rw [lm,lm,lm,lm]; grind
 |1=>rw [jK a (Ml b u) 0,lm b u,jK b u 0,jK b (Ml a u) 0,lm a u,jK a u 0]; grind
 |n+2=>rw [jK,jK,jK,jK,jK,jK]; grind
def TL (xs:List F) (h:List F):List F:=xs.foldr Ml h
theorem PE.T {u v:List F} (h:PE u v):∀ {xs:List F},PE (TL xs u) (TL xs v)
 | []=>h
 |_::_=>(PE.T h).M
theorem JE (xs:List F) (a:F) (h:List F):TL (xs++ [a]) h=TL xs (Ml a h):=by
 unfold TL; rw [List.foldr_append]; rfl
theorem Qh:∀ (xs:List F) (u v:List F),PE (TL xs (mO u v)) (mO (TL xs u) (TL xs v))
 | [],u,v=>PE.rfl'
 |x::xs,u,v=>(Qh xs u v).M.trans (RL _ _ _)
theorem Qg (c:F):∀ (xs:List F) (u:List F),PE (TL xs (xM c u)) (xM c (TL xs u))
 | [],u=>PE.rfl'
 |x::xs,u=>(Qg c xs u).M.trans (RJ _ _ _)
theorem T_M (a:F):∀ (xs:List F) (u:List F),PE (TL xs (Ml a u)) (Ml a (TL xs u))
 | [],u=>PE.rfl'
 |x::xs,u=>(T_M a xs u).M.trans (M_M _ _ _)
def tu (xs:List F) (x:F):F:=xs.foldr (fun a s=>(x - a)*s) 1
theorem M4 (x:F):∀ (xs:List F) (h:List F),ev (TL xs h) x=tu xs x*ev h x
 | [],h=>by show ev h x=1*ev h x; grind
 |a::xs,h=>by
  show ev (Ml a (TL xs h)) x=(x - a)*tu xs x*ev h x
  rw [Sd,M4 x xs h]; grind
def dv (a:F):List F→List F
 | []=> []
 | [_]=> []
 |_::b::t=>ev (b::t) a::dv a (b::t)
theorem Nc (a:F):∀ l:List F,(dv a l).length=l.length - 1
 | []=>rfl
 | [_]=>rfl
 |_::b::t=>by
  have:=Nc a (b::t)
  simp only [dv,List.length_cons] at this ⊢
  omega
theorem Qc (a:F):∀ l:List F,PE l (mO [ev l a] (Ml a (dv a l)))
 | []=>by
  intro n
  rw [iL,iU]
  cases n with
  |zero=>rw [j6,lm]; show (0:F)=0+ -a*cf [] 0; rw [iU]; grind
  |succ n=>rw [iJ,iU,jK]; show (0:F)=0+(cf [] n - a*cf [] (n+1)); rw [iU,iU]; grind
 | [c]=>by
  intro n
  rw [iL]
  cases n with
  |zero=>rw [j6,j6,lm]; show c=(0*a+c)+ -a*cf [] 0; rw [iU]; grind
  |succ n=>rw [iJ,iJ,iU,jK]; show (0:F)=0+(cf [] n - a*cf [] (n+1)); rw [iU,iU]; grind
 |c::b::t=>by
  have ih:=Qc a (b::t)
  intro n
  rw [iL]
  have hd:dv a (c::b::t)=ev (b::t) a::dv a (b::t):=rfl
  cases n with
  |zero=>
   rw [j6,j6,lm,hd,j6]
   show c=(ev (b::t) a*a+c)+ -a*ev (b::t) a
   grind
  |succ n=>
   have hn:=ih n
   rw [iL] at hn
   rw [iJ,iJ,iU,jK,hd,iJ,hn]
   cases n with
   |zero=>rw [j6,j6,lm]; try grind
   |succ n=>rw [iJ,iJ,iU,jK]; try grind
theorem Cn {f fk h base fk' base' xs:List F} {a y s c:F} (hf:PE f (mO fk (TL xs h))) (hb:PE base (TL xs [1])) (hy:y=ev f a) (hs:s*ev base a=1) (hc:c=(y - ev fk a)*s)
  (h1:PE fk' (mO fk (xM c base))) (h2:PE base' (Ml a base)):PE f (mO fk' (TL (xs++ [a]) (dv a h)))∧PE base' (TL (xs++ [a]) [1]):=by
 have e1:ev f a=ev fk a+tu xs a*ev h a:=by rw [Dm hf,Dn,M4]
 have e2:ev base a=tu xs a:=by rw [Dm hb,M4]; show tu xs a*(0*a+1)=_; grind
 have e3:c=ev h a:=by rw [hc,hy,e1]; rw [e2] at hs; grind
 constructor
 ·intro n
  have k1:=(Qc a h).T (xs:=xs) n
  have k2:=Qh xs [ev h a] (Ml a (dv a h)) n
  have k3:PE [ev h a] (xM (ev h a) [1]):=by
   intro n
   rw [mZ]
   cases n with
   |zero=>rw [j6,j6]; grind
   |succ n=>rw [iJ,iJ,iU]; grind
  have k4:=(k3.T (xs:=xs)).trans (Qg (ev h a) xs [1]) n
  rw [hf n,iL,k1,k2,iL,k4,mZ,← hb n,iL,h1 n,iL,mZ,e3,JE]
  grind
 ·rw [JE]
  exact h2.trans (hb.M.trans (T_M a xs [1]).symm)
theorem JD:∀ (xs:List F) (n:Nat),cf (TL xs []) n=0
 | [],n=>iU n
 |x::xs,n=>by
  show cf (Ml x (TL xs [])) n=0
  cases n with
  |zero=>rw [lm,JD xs]; grind
  |succ n=>rw [jK,JD xs,JD xs]; grind
theorem Ed {f fk h xs:List F} (hf:PE f (mO fk (TL xs h))) (hh:h= []):PE f fk:=by
 intro n
 subst hh
 rw [hf n,iL,JD]; grind
end
end Go.Own.Pol
set_option linter.unusedVariables false
set_option linter.unusedSimpArgs false
namespace Go.Own
open Go.IntWalk
def tl (l:List Nat):Nat→Nat
 |0=>0
 |n+1=>bif Nat.beq (l.getD n 0) 0 then tl l n else n+1
theorem K8 (l:List Nat):∀ n,tl l n≤n
 |0=>Nat.le_refl 0
 |n+1=>by
  have:=K8 l n
  simp only [tl]
  cases Nat.beq (l.getD n 0) 0
  ·exact Nat.le_refl _
  ·exact Nat.le_trans this (Nat.le_succ n)
theorem IK (l:List Nat):∀ n k,tl l n≤k→k<n→l.getD k 0=0
 |0,k,_,h=>by omega
 |n+1,k,h1,h2=>by
  simp only [tl] at h1
  cases hb:Nat.beq (l.getD n 0) 0 with
  |false=>rw [hb] at h1; simp only [cond_false] at h1; omega
  |true=>
   rw [hb] at h1
   rcases Nat.lt_or_ge k n with h|h
   ·exact IK l n k h1 h
   ·have:k=n:=by omega
    subst this
    exact Nat.eq_of_beq_eq_true hb
theorem Ec (l:List Nat) (d:Nat) (hz:∀ k,d≤k→l.getD k 0=0):∀ n,tl l n≤d
 |0=>Nat.zero_le d
 |n+1=>by
  simp only [tl]
  cases hb:Nat.beq (l.getD n 0) 0 with
  |true=>exact Ec l d hz n
  |false=>
   rcases Nat.lt_or_ge n d with h|h
   ·exact h
   ·rw [hz n h] at hb; exact absurd hb (by decide)
def qV (q:Nat) (l:List Nat):List Nat:=l.map (· %q)
def qN (q:Nat) (l:List Nat):List Nat:=(qV q l).take (tl (qV q l) l.length)
theorem nV (q:Nat) (l:List Nat):(qV q l).length=l.length:=List.length_map _
theorem Ox {gx:Option dN} {q:Nat} (h:Fld gx q) {l:List Nat}:∀ a∈qV q l,a<ay:=by
 intro a ha
 obtain ⟨b,_,rfl⟩:=List.mem_map.1 ha
 exact Nat.lt_trans (Nat.mod_lt _ (by have:=h.gt; omega)) h.lt
theorem Ps {gx:Option dN} {q:Nat} (h:Fld gx q) {l:List Nat} (hl:∀ a∈l,a<ay) (hn:l.length≤1073741824):dX.l0 (gx,(),(),l.map limbs,(l.length:Int),0,()) ((true,[]),())=
  (true,1,(gx,(),(),l.map limbs,(l.length:Int),(l.length:Int),()),((decide (l.length=0),(qV q l).map limbs),()),(),()):=by
 have key:dX.l0 (gx,(),(),l.map limbs,(l.length:Int),((0:Nat):Int),()) ((decide (0=0),(l.take 0).map fun a=>limbs (a%q)),())=
  (true,1,(gx,(),(),l.map limbs,(l.length:Int),(l.length:Int),()),((decide (l.length=0),(l.take l.length).map fun a=>limbs (a%q)),()),(),()):=by
  refine bO (g:=fun rq kn ke kr x y=>dX.g0 rq kn ke kr x y) l.length (fun j=>(gx,(),(),l.map limbs,(l.length:Int),(j:Int),())) (fun j=>((decide (j=0),(l.take j).map fun a=>limbs (a%q)),())) _ ?_ ?_ _ 0 (Nat.zero_le _) (by show l.length - 0<((l.length:Int) - ((0:Nat):Int)).toNat+1; omega)
  ·intro j R hj
   have g1:(l.map limbs).getD j [0,0,0,0]=limbs (l.getD j 0):=getD_map hj
   have fa:=DT h (hl _ (gN hj)) (show 0<ay by decide)
   rw [eX,Nat.add_zero] at fa
   have c1:nle ((2*((l.take j).length+1)+512)*32) 70368744177664=true:=pW (by rw [List.length_take]; omega)
   have s1:((l.take j).map fun a=>limbs (a%q))++ [limbs (l.getD j 0%q)]=(l.take (j+1)).map fun a=>limbs (a%q):=mo (f:=fun a=>limbs (a%q)) hj
   have d1:decide (j+1=0)=false:=decide_eq_false (by omega)
   have w1:IntKind.i64.wrap ((j:Int)+1)=((j+1:Nat):Int):=i64_in _ (by omega)
   simp only [dX.g0,Go.Own.lt,dQ (show (j:Int)<(l.length:Int) by omega),eF (show (0:Int)≤(j:Int) by omega),Bool.and_true,cond_true,Int.toNat_natCast,g1,List.length_map,aj,fa,Bool.and_false,s1,c1,w1,d1]
  ·intro R
   simp only [dX.g0,Go.Own.lt,dA (show ¬ (l.length:Int)<(l.length:Int) by omega),cond_false]
 have e:(qV q l).map limbs=l.map fun a=>limbs (a%q):=by unfold qV; rw [List.map_map]; rfl
 rw [List.take_length] at key
 rw [e]
 exact key
theorem Pq {L:List Nat} (hL:∀ a∈L,a<ay) (hn:L.length≤1073741824) (fl:Bool):dX.l1 ((),(0,L.length),()) ((fl,L.map limbs),())=(true,3,((),(0,tl L L.length),()),((fl,L.map limbs),()),(),()):=by
 obtain ⟨w,hw⟩:∃ w,w=dX.l1 ((),(0,L.length),()) ((fl,L.map limbs),()):=⟨_,rfl⟩
 rw [← hw]
 refine iR (g:=fun rq kn ke kr x y=>dX.g1 rq kn ke kr x y) hw (fun x y=>∃ n,n≤L.length∧tl L n=tl L L.length∧x=((),(0,n),())∧y=((fl,L.map limbs),())) (fun x y=>x.2.1.2) ⟨_,Nat.le_refl _,rfl,rfl,rfl⟩ (by show L.length<((L.length:Int) - (0:Int)).toNat+1; omega)
  (Q:=fun w=>w=(true,3,((),(0,tl L L.length),()),((fl,L.map limbs),()),(),())) ?_
 rintro x y R ⟨n,hn1,ht,rfl,rfl⟩ hR
 cases n with
 |zero=>
  simp only [dX.g1,Go.Own.lt,dA (show ¬ (0:Int)<((0:Nat):Int) by omega),cond_false,← ht]
  rfl
 |succ n=>
  have w1:IntKind.i64.wrap (((n+1:Nat):Int) - 1)=(n:Int):=by rw [i64_in _ (by omega)]; omega
  have g1:(L.map limbs).getD n [0,0,0,0]=limbs (L.getD n 0):=getD_map (by omega)
  have b1:decide (L.getD n 0=0)=Nat.beq (L.getD n 0) 0:=by
   cases L.getD n 0<;>rfl
  simp only [dX.g1,Go.Own.lt,dQ (show (0:Int)<((n+1:Nat):Int) by omega),cond_true,w1,Int.toNat_natCast,Nat.zero_add,eF (show (0:Int)≤(n:Int) by omega),dQ (show (n:Int)<((n+1:Nat):Int) by omega),eF (show (n:Int)≤((n+1:Nat):Int) by omega),Bool.and_self,aj,g1,JG (hL _ (gN (show n<L.length by omega))),b1]
  simp only [tl] at ht
  cases hb:Nat.beq (L.getD n 0) 0 with
  |true=>
   rw [hb] at ht
   simp only [cond_true] at ht ⊢
   exact hR _ _ ⟨n,by omega,ht,rfl,rfl⟩ (by show n<n+1; omega)
  |false=>
   rw [hb] at ht
   simp only [cond_false] at ht ⊢
   rw [← ht]
theorem Iz {gx:Option dN} {q:Nat} (h:Fld gx q) {l:List Nat} (hl:∀ a∈l,a<ay) (hn:l.length≤1073741824):dX.r gx (l.map limbs)=(true,1,(),(0,tl (qV q l) l.length,(decide (l.length=0),(qV q l).map limbs))):=by
 obtain ⟨rq,inv,hR,hF⟩:=h.field
 have e:=Pq (Ox h (l:=l)) (by rw [nV]; exact hn) (decide (l.length=0))
 rw [nV] at e
 simp only [dX.r,dX.g,Go.Own.lt,hF,aj,hR.oJ,cond_false,List.length_map,Ps h hl hn,nV,e]
theorem kY {gx:Option dN} {q:Nat} (h:Fld gx q) {β:Type} (f:Nat→β) (j:Nat):(List.range j).map f++ [f j]=(List.range (j+1)).map f:=by
 rw [List.range_succ,List.map_append]; rfl
theorem KS {gx:Option dN} {q:Nat} (h:Fld gx q) {f:List Nat} (hf:∀ a∈f,a<ay) {by':Nat} (hb:by'<ay) (k:Nat) (hk:k≤1073741824):jy.r (k:Int) gx (f.map limbs) 0 (limbs by')=(true,limbs (iI f (k:Int)*by'%q),gx,f.map limbs,0,limbs by'):=by
 have w1:IntKind.i64.wrap ((k:Int) - 0)=(k:Int):=by rw [Int.sub_zero]; exact rM _ (by omega)
 simp only [jy.r,jy.g,Go.Own.lt,w1,NM,aj,DR h (vC hf _) hb]
def yP (q:Nat) (f:List Nat) (c:Nat):List Nat:=(List.range f.length).map fun (k:Nat)=>iI f (k:Int)*c%q
theorem PG {gx:Option dN} {q:Nat} (h:Fld gx q) {f:List Nat} (hf:∀ a∈f,a<ay) {by':Nat} (hb:by'<ay) (hn:f.length≤1073741824):iV.l0 (gx,(),(),(),(f.length:Int),0,()) ((true,[]),gx,f.map limbs,0,limbs by',())=
  (true,1,(gx,(),(),(),(f.length:Int),(f.length:Int),()),((decide (f.length=0),(yP q f by').map limbs),gx,f.map limbs,0,limbs by',()),(),()):=by
 have key:iV.l0 (gx,(),(),(),(f.length:Int),((0:Nat):Int),()) ((decide (0=0),(List.range 0).map fun (k:Nat)=>limbs (iI f (k:Int)*by'%q)),gx,f.map limbs,0,limbs by',())=
  (true,1,(gx,(),(),(),(f.length:Int),(f.length:Int),()),((decide (f.length=0),(List.range f.length).map fun (k:Nat)=>limbs (iI f (k:Int)*by'%q)),gx,f.map limbs,0,limbs by',()),(),()):=by
  refine bO (g:=fun rq kn ke kr x y=>iV.g0 rq kn ke kr x y) f.length (fun j=>(gx,(),(),(),(f.length:Int),(j:Int),())) (fun j=>((decide (j=0),(List.range j).map fun (k:Nat)=>limbs (iI f (k:Int)*by'%q)),gx,f.map limbs,0,limbs by',())) _ ?_ ?_ _ 0 (Nat.zero_le _) (by show f.length - 0<((f.length:Int) - ((0:Nat):Int)).toNat+1; omega)
  ·intro j R hj
   have c1:nle ((2*(j+1)+512)*32) 70368744177664=true:=pW (by omega)
   have s1:=kY h (fun (k:Nat)=>limbs (iI f (k:Int)*by'%q)) j
   have d1:decide (j+1=0)=false:=decide_eq_false (by omega)
   have w1:IntKind.i64.wrap ((j:Int)+1)=((j+1:Nat):Int):=i64_in _ (by omega)
   simp only [iV.g0,Go.Own.lt,dQ (show (j:Int)<(f.length:Int) by omega),cond_true,KS h hf hb j (by omega),aj,Bool.and_false,s1,List.length_map,List.length_range,c1,w1,d1]
  ·intro R
   simp only [iV.g0,Go.Own.lt,dA (show ¬ (f.length:Int)<(f.length:Int) by omega),cond_false]
 have e:(yP q f by').map limbs=(List.range f.length).map fun (k:Nat)=>limbs (iI f (k:Int)*by'%q):=by unfold yP; rw [List.map_map]; rfl
 rw [e]
 exact key
theorem Ru {gx:Option dN} {q:Nat} (h:Fld gx q) {f:Nat→Nat} {n:Nat}:∀ a∈(List.range n).map fun k=>f k%q,a<ay:=by
 intro a ha
 obtain ⟨b,_,rfl⟩:=List.mem_map.1 ha
 exact Nat.lt_trans (Nat.mod_lt _ (by have:=h.gt; omega)) h.lt
theorem Oq {gx:Option dN} {q:Nat} (h:Fld gx q) {f:List Nat} {c:Nat}:∀ a∈yP q f c,a<ay:=Ru h (f:=fun (k:Nat)=>iI f (k:Int)*c) (n:=f.length)
theorem uO {q:Nat} {f:List Nat} {c:Nat}:(yP q f c).length=f.length:=by unfold yP; simp
theorem NF {gx:Option dN} {q:Nat} (h:Fld gx q) {f:List Nat} (hf:∀ a∈f,a<ay) {by':Nat} (hb:by'<ay) (hn:f.length≤1073741824):kP.r gx (f.map limbs) (limbs by') 0=(true,(qN q (yP q f by')).map limbs):=by
 have w1:IntKind.i64.wrap ((f.length:Int)+0)=(f.length:Int):=by rw [Int.add_zero]; exact rM _ (by omega)
 have e:=Iz h (Oq h (f:=f) (c:=by')) (by rw [uO]; exact hn)
 rw [uO] at e
 simp only [kP.r,kP.g,iV.r,iV.g,Go.Own.lt,List.length_map,w1,PG h hf hb hn,aj,e,show Nat.beq 1 0=false from rfl,cond_false,List.drop_zero]
 unfold qN
 rw [uO,List.map_take]
def addN (q:Nat) (a b:List Nat):List Nat:=(List.range (max a.length b.length)).map fun (k:Nat)=>(iI a (k:Int)+iI b (k:Int))%q
theorem Ag {q:Nat} {a b:List Nat}:(addN q a b).length=max a.length b.length:=by unfold addN; simp
theorem Po {gx:Option dN} {q:Nat} (h:Fld gx q) {a b:List Nat}:∀ x∈addN q a b,x<ay:=Ru h (f:=fun (k:Nat)=>iI a (k:Int)+iI b (k:Int)) (n:=max a.length b.length)
theorem Rf {gx:Option dN} {q:Nat} (h:Fld gx q) {a b:List Nat} (ha:∀ x∈a,x<ay) (hb:∀ x∈b,x<ay) (k:Nat):mh.r (k:Int) gx (a.map limbs) (b.map limbs)=(true,limbs ((iI a (k:Int)+iI b (k:Int))%q),gx,a.map limbs,b.map limbs):=by
 simp only [mh.r,mh.g,Go.Own.lt,NM,aj,DT h (vC ha _) (vC hb _)]
theorem NU {gx:Option dN} {q:Nat} (h:Fld gx q) {a b:List Nat} (ha:∀ x∈a,x<ay) (hb:∀ x∈b,x<ay) {n:Nat} (hn:n≤1073741824):fO.l0 (gx,(),(),(),(n:Int),0,()) ((true,[]),gx,a.map limbs,b.map limbs,())=
  (true,1,(gx,(),(),(),(n:Int),(n:Int),()),((decide (n=0),(List.range n).map fun (k:Nat)=>limbs ((iI a (k:Int)+iI b (k:Int))%q)),gx,a.map limbs,b.map limbs,()),(),()):=by
 have key:fO.l0 (gx,(),(),(),(n:Int),((0:Nat):Int),()) ((decide (0=0),(List.range 0).map fun (k:Nat)=>limbs ((iI a (k:Int)+iI b (k:Int))%q)),gx,a.map limbs,b.map limbs,())=
  (true,1,(gx,(),(),(),(n:Int),(n:Int),()),((decide (n=0),(List.range n).map fun (k:Nat)=>limbs ((iI a (k:Int)+iI b (k:Int))%q)),gx,a.map limbs,b.map limbs,()),(),()):=by
  refine bO (g:=fun rq kn ke kr x y=>fO.g0 rq kn ke kr x y) n (fun j=>(gx,(),(),(),(n:Int),(j:Int),())) (fun j=>((decide (j=0),(List.range j).map fun (k:Nat)=>limbs ((iI a (k:Int)+iI b (k:Int))%q)),gx,a.map limbs,b.map limbs,())) _ ?_ ?_ _ 0 (Nat.zero_le _) (by show n - 0<((n:Int) - ((0:Nat):Int)).toNat+1; omega)
  ·intro j R hj
   have c1:nle ((2*(j+1)+512)*32) 70368744177664=true:=pW (by omega)
   have s1:=kY h (fun (k:Nat)=>limbs ((iI a (k:Int)+iI b (k:Int))%q)) j
   have d1:decide (j+1=0)=false:=decide_eq_false (by omega)
   have w1:IntKind.i64.wrap ((j:Int)+1)=((j+1:Nat):Int):=i64_in _ (by omega)
   simp only [fO.g0,Go.Own.lt,dQ (show (j:Int)<(n:Int) by omega),cond_true,Rf h ha hb j,aj,Bool.and_false,s1,List.length_map,List.length_range,c1,w1,d1]
  ·intro R
   simp only [fO.g0,Go.Own.lt,dA (show ¬ (n:Int)<(n:Int) by omega),cond_false]
 exact key
theorem Q6 {gx:Option dN} {q:Nat} (h:Fld gx q) {a b:List Nat} (ha:∀ x∈a,x<ay) (hb:∀ x∈b,x<ay) (hna:a.length≤1073741824) (hnb:b.length≤1073741824):qm.r gx (a.map limbs) (b.map limbs)=(true,1,(),(0,tl (qV q (addN q a b)) (addN q a b).length,(decide ((addN q a b).length=0),(qV q (addN q a b)).map limbs))):=by
 have e:=Iz h (Po h (a:=a) (b:=b)) (by rw [Ag]; omega)
 have m1:((if a.length<b.length then b.length else a.length:Nat):Int)=((max a.length b.length:Nat):Int):=by
  congr 1; split<;>omega
 have ml:=NU h ha hb (n:=max a.length b.length) (by omega)
 have e2:(addN q a b).map limbs=(List.range (max a.length b.length)).map fun (k:Nat)=>limbs ((iI a (k:Int)+iI b (k:Int))%q):=by unfold addN; rw [List.map_map]; rfl
 rw [← e2] at ml
 simp only [qm.r,qm.g,fO.r,fO.g,Go.Own.lt,List.length_map,JA,m1,ml,aj,e,show Nat.beq 1 0=false from rfl,cond_false]
def mulC (q:Nat) (a b:List Nat) (k n:Nat):Nat:=(List.range n).foldl (fun (s:Nat) (i:Nat)=>(s+iI a (i:Int)*iI b ((k:Int) - (i:Int))%q)%q) 0
theorem Bo {gx:Option dN} {q:Nat} (h:Fld gx q) {a b:List Nat} {k n:Nat}:mulC q a b k (n+1)=(mulC q a b k n+iI a (n:Int)*iI b ((k:Int) - (n:Int))%q)%q:=by
 unfold mulC; rw [List.range_succ,List.foldl_append]; rfl
theorem Jb {gx:Option dN} {q:Nat} (h:Fld gx q) {a b:List Nat} {k n:Nat}:mulC q a b k n<q:=by
 cases n with
 |zero=>have:=h.gt; show 0<q; omega
 |succ n=>rw [Bo h]; exact Nat.mod_lt _ (by have:=h.gt; omega)
theorem PD {gx:Option dN} {q:Nat} (h:Fld gx q) {a b:List Nat} (ha:∀ x∈a,x<ay) (hb:∀ x∈b,x<ay) {k:Nat} (hk:k≤1073741824) (hn:a.length≤1073741824):gM.r (k:Int) (a.map limbs) gx (b.map limbs)=(true,limbs (mulC q a b k a.length),a.map limbs,gx,b.map limbs):=by
 have key:gM.l0 ((k:Int),(),(),(),(),(),(a.length:Int),((0:Nat):Int),()) ([0,0,0,0],limbs (mulC q a b k 0),a.map limbs,gx,b.map limbs,())=
  (true,1,((k:Int),(),(),(),(),(),(a.length:Int),(a.length:Int),()),([0,0,0,0],limbs (mulC q a b k a.length),a.map limbs,gx,b.map limbs,()),(),()):=by
  refine bO (g:=fun rq kn ke kr x y=>gM.g0 rq kn ke kr x y) a.length (fun j=>((k:Int),(),(),(),(),(),(a.length:Int),(j:Int),())) (fun j=>([0,0,0,0],limbs (mulC q a b k j),a.map limbs,gx,b.map limbs,())) _ ?_ ?_ _ 0 (Nat.zero_le _) (by show a.length - 0<((a.length:Int) - ((0:Nat):Int)).toNat+1; omega)
  ·intro j R hj
   have g1:(a.map limbs).getD j [0,0,0,0]=limbs (a.getD j 0):=getD_map hj
   have g2:a.getD j 0=iI a (j:Int):=by unfold iI; rw [if_neg (by omega)]; rfl
   have w0:IntKind.i64.wrap ((k:Int) - (j:Int))=(k:Int) - (j:Int):=i64_in _ (by omega)
   have w1:IntKind.i64.wrap ((j:Int)+1)=((j+1:Nat):Int):=i64_in _ (by omega)
   have f1:=DR h (vC ha (j:Int)) (vC hb ((k:Int) - (j:Int)))
   have f2:=DT h (a:=mulC q a b k j) (b:=iI a (j:Int)*iI b ((k:Int) - (j:Int))%q) (Nat.lt_trans (Jb h) h.lt) (Nat.lt_trans (Nat.mod_lt _ (by have:=h.gt; omega)) h.lt)
   rw [← Bo h] at f2
   simp only [gM.g0,Go.Own.lt,dQ (show (j:Int)<(a.length:Int) by omega),eF (show (0:Int)≤(j:Int) by omega),cond_true,Bool.and_self,Int.toNat_natCast,List.length_map,aj,g1,g2,w0,NM,f1,f2,w1]
  ·intro R
   simp only [gM.g0,Go.Own.lt,dA (show ¬ (a.length:Int)<(a.length:Int) by omega),cond_false]
 have e0:limbs (mulC q a b k 0)= [0,0,0,0]:=eX
 rw [e0] at key
 have k2:gM.l0 ((k:Int),(),(),(),(),(),(a.length:Int),0,()) ([0,0,0,0],[0,0,0,0],a.map limbs,gx,b.map limbs,())=_:=key
 simp only [gM.r,gM.g,Go.Own.lt,List.length_map,k2,aj]
def mulN (q:Nat) (a b:List Nat):List Nat:=(List.range (a.length+b.length)).map fun k=>mulC q a b k a.length
theorem EX {q:Nat} {a b:List Nat}:(mulN q a b).length=a.length+b.length:=by unfold mulN; simp
theorem OL {gx:Option dN} {q:Nat} (h:Fld gx q) {a b:List Nat}:∀ x∈mulN q a b,x<ay:=by
 intro x hx
 obtain ⟨k,_,rfl⟩:=List.mem_map.1 hx
 exact Nat.lt_trans (Jb h) h.lt
theorem NT {gx:Option dN} {q:Nat} (h:Fld gx q) {a b:List Nat} (ha:∀ x∈a,x<ay) (hb:∀ x∈b,x<ay) {n:Nat} (hn:n≤1073741824) (hna:a.length≤1073741824):fM.l0 (gx,(),(),(),(n:Int),0,()) ((true,[]),a.map limbs,gx,b.map limbs,())=
  (true,1,(gx,(),(),(),(n:Int),(n:Int),()),((decide (n=0),(List.range n).map fun (k:Nat)=>limbs (mulC q a b k a.length)),a.map limbs,gx,b.map limbs,()),(),()):=by
 have key:fM.l0 (gx,(),(),(),(n:Int),((0:Nat):Int),()) ((decide (0=0),(List.range 0).map fun (k:Nat)=>limbs (mulC q a b k a.length)),a.map limbs,gx,b.map limbs,())=
  (true,1,(gx,(),(),(),(n:Int),(n:Int),()),((decide (n=0),(List.range n).map fun (k:Nat)=>limbs (mulC q a b k a.length)),a.map limbs,gx,b.map limbs,()),(),()):=by
  refine bO (g:=fun rq kn ke kr x y=>fM.g0 rq kn ke kr x y) n (fun j=>(gx,(),(),(),(n:Int),(j:Int),())) (fun j=>((decide (j=0),(List.range j).map fun (k:Nat)=>limbs (mulC q a b k a.length)),a.map limbs,gx,b.map limbs,())) _ ?_ ?_ _ 0 (Nat.zero_le _) (by show n - 0<((n:Int) - ((0:Nat):Int)).toNat+1; omega)
  ·intro j R hj
   have c1:nle ((2*(j+1)+512)*32) 70368744177664=true:=pW (by omega)
   have s1:=kY h (fun (k:Nat)=>limbs (mulC q a b k a.length)) j
   have d1:decide (j+1=0)=false:=decide_eq_false (by omega)
   have w1:IntKind.i64.wrap ((j:Int)+1)=((j+1:Nat):Int):=i64_in _ (by omega)
   simp only [fM.g0,Go.Own.lt,dQ (show (j:Int)<(n:Int) by omega),cond_true,PD h ha hb (show j≤1073741824 by omega) hna,aj,Bool.and_false,s1,List.length_map,List.length_range,c1,w1,d1]
  ·intro R
   simp only [fM.g0,Go.Own.lt,dA (show ¬ (n:Int)<(n:Int) by omega),cond_false]
 exact key
theorem QY {gx:Option dN} {q:Nat} (h:Fld gx q) {a b:List Nat} (ha:∀ x∈a,x<ay) (hb:∀ x∈b,x<ay) (hn:a.length+b.length≤1073741824):oF.r gx (a.map limbs) (b.map limbs)=(true,(qN q (mulN q a b)).map limbs):=by
 have e:=Iz h (OL h (a:=a) (b:=b)) (by rw [EX]; omega)
 have ml:=NT h ha hb (n:=a.length+b.length) hn (by omega)
 have e2:(mulN q a b).map limbs=(List.range (a.length+b.length)).map fun (k:Nat)=>limbs (mulC q a b k a.length):=by unfold mulN; rw [List.map_map]; rfl
 rw [← e2] at ml
 have w1:IntKind.i64.wrap ((a.length:Int)+(b.length:Int))=((a.length+b.length:Nat):Int):=i64_in _ (by omega)
 simp only [oF.r,oF.g,fM.r,fM.g,Go.Own.lt,List.length_map,w1,ml,aj,e,show Nat.beq 1 0=false from rfl,cond_false,List.drop_zero]
 unfold qN
 rw [List.map_take]
end Go.Own
set_option linter.unusedVariables false
set_option linter.unusedSimpArgs false
namespace Go.Own
open Go.IntWalk
section
variable {q:Nat} [NeZero q]
def fz (q:Nat) [NeZero q] (n:Nat):Fin q:=Fin.ofNat q n
theorem mY (a:Nat):fz q (a%q)=fz q a:=by unfold fz; simp [Fin.ext_iff]
theorem rQ (a b:Nat):fz q (a+b)=fz q a+fz q b:=by unfold fz; simp [Fin.ext_iff,Fin.val_add]
theorem zQ (a b:Nat):fz q (a*b)=fz q a*fz q b:=by unfold fz; simp [Fin.ext_iff,Fin.val_mul,Nat.mul_mod]
theorem oM:fz q 0=0:=rfl
theorem MV:fz q 1=1:=rfl
theorem Sc:fz q q=0:=by unfold fz; simp [Fin.ext_iff]
theorem MS (a:Nat):(fz q a).val=a%q:=rfl
theorem Jv {a b:Nat} (h:fz q a=fz q b):a%q=b%q:=congrArg Fin.val h
theorem MU {a b:Nat}:fz q ((a%q+(q - b%q))%q)=fz q a - fz q b:=by
 have hq:0<q:=Nat.pos_of_ne_zero (NeZero.ne q)
 have h1:=Nat.mod_lt b hq
 have h2:fz q (q - b%q)+fz q b=0:=by
  rw [← mY b,← rQ,Nat.sub_add_cancel (Nat.le_of_lt h1),Sc]
 rw [mY,rQ,mY]
 grind
def toF (q:Nat) [NeZero q] (l:List Nat):List (Fin q):=l.map (fz q)
theorem jf (l:List Nat) (n:Nat):Pol.cf (toF q l) n=fz q (l.getD n 0):=by
 unfold Pol.cf toF
 rcases Nat.lt_or_ge n l.length with h|h
 ·exact getD_map h
 ·rw [List.getD_eq_getElem?_getD,List.getElem?_eq_none (by simpa using h),List.getD_eq_getElem?_getD,List.getElem?_eq_none h]; rfl
theorem Dl (f:List Nat) (x:Nat):fz q (evN q f x)=Pol.ev (toF q f) (fz q x):=by
 induction f with
 |nil=>rfl
 |cons a f ih=>
  show fz q ((evN q f x*x%q+a)%q)=Pol.ev (toF q f) (fz q x)*fz q x+fz q a
  rw [mY,rQ,mY,zQ,ih]
theorem Dt (f:List Nat) (n:Nat):iI f (n:Int)=f.getD n 0:=by unfold iI; rw [if_neg (by omega)]; rfl
theorem iH {l:List Nat} {n:Nat} (h:l.length≤n):l.getD n 0=0:=by rw [List.getD_eq_getElem?_getD,List.getElem?_eq_none h]; rfl
theorem O3 (l:List Nat) (n:Nat):fz q ((qV q l).getD n 0)=fz q (l.getD n 0):=by
 rcases Nat.lt_or_ge n l.length with h|h
 ·have:(qV q l).getD n 0=l.getD n 0%q:=getD_map h
  rw [this,mY]
 ·rw [iH (by rw [nV]; exact h),iH h]
theorem getD_take {l:List Nat} {m n:Nat}:(l.take m).getD n 0=if n<m then l.getD n 0 else 0:=by
 simp only [List.getD_eq_getElem?_getD,List.getElem?_take]
 split<;>rfl
theorem IQ {L:List Nat} {n:Nat}:(L.take (tl L L.length)).getD n 0=L.getD n 0:=by
 rw [getD_take]
 split
 ·rfl
 ·rename_i h
  rcases Nat.lt_or_ge n L.length with h2|h2
  ·exact (IK L L.length n (by omega) h2).symm
  ·exact (iH h2).symm
theorem DL (l:List Nat):Pol.PE (toF q (qN q l)) (toF q l):=fun n=>by
 rw [jf,jf,← O3 l n]
 congr 1
 unfold qN
 rw [← nV q l]
 exact IQ
theorem rP {f:Nat→Nat} {n k:Nat}:((List.range n).map f).getD k 0=if k<n then f k else 0:=by
 split
 ·rename_i h; exact uz h
 ·rename_i h; exact iH (by simpa using h)
theorem QZ (f:List Nat) (c:Nat):Pol.PE (toF q (yP q f c)) (Pol.xM (fz q c) (toF q f)):=fun n=>by
 rw [jf,Pol.mZ,jf]
 unfold yP
 rw [rP]
 split
 ·rw [mY,zQ,Dt]; grind
 ·rename_i h
  rw [iH (by omega),oM]; grind
theorem Q5 (a b:List Nat):Pol.PE (toF q (addN q a b)) (Pol.mO (toF q a) (toF q b)):=fun n=>by
 rw [jf,Pol.iL,jf,jf]
 unfold addN
 rw [rP]
 split
 ·rw [mY,rQ,Dt,Dt]
 ·rename_i h
  rw [iH (l:=a) (by omega),iH (l:=b) (by omega),oM]; grind
theorem Ju (a:List Nat) (b k:Nat):∀ n,fz q (mulC q a [b,1] k n)=(if k<n then fz q b*fz q (a.getD k 0) else 0)+(if 1≤k∧k - 1<n then fz q (a.getD (k - 1) 0) else 0)
 |0=>by
  show fz q 0=_
  rw [if_neg (by omega),if_neg (by omega),oM]; grind
 |n+1=>by
  have ih:=Ju a b k n
  have e:mulC q a [b,1] k (n+1)=(mulC q a [b,1] k n+iI a (n:Int)*iI [b,1] ((k:Int) - (n:Int))%q)%q:=by
   unfold mulC; rw [List.range_succ,List.foldl_append]; rfl
  rw [e,mY,rQ,mY,zQ,ih,Dt]
  have hc:iI [b,1] ((k:Int) - (n:Int))=if n=k then b else if n+1=k then 1 else 0:=by
   unfold iI
   by_cases h1:n=k
   ·subst h1; rw [if_neg (by omega),if_pos rfl,show ((n:Int) - (n:Int)).toNat=0 by omega]; rfl
   ·rw [if_neg h1]
    by_cases h2:n+1=k
    ·rw [if_neg (by omega),if_pos h2,show ((k:Int) - (n:Int)).toNat=1 by omega]; rfl
    ·rw [if_neg h2]
     split
     ·rfl
     ·exact iH (by simp only [List.length_cons,List.length_nil]; omega)
  rw [hc]
  by_cases h1:n=k
  ·subst h1
   rw [if_pos rfl,if_neg (show ¬ n<n by omega),if_pos (show n<n+1 by omega)]
   by_cases h3:1≤n
   ·rw [if_pos ⟨h3,by omega⟩,if_pos ⟨h3,by omega⟩]; grind
   ·rw [if_neg (by omega),if_neg (by omega)]; grind
  ·rw [if_neg h1]
   by_cases h2:n+1=k
   ·subst h2
    rw [if_pos rfl,if_neg (show ¬ n+1<n by omega),if_neg (show ¬ n+1<n+1 by omega),if_neg (by omega),if_pos (by omega),MV,Nat.add_sub_cancel]; grind
   ·rw [if_neg h2,oM]
    by_cases h3:k<n
    ·rw [if_pos h3,if_pos (show k<n+1 by omega)]
     by_cases h4:1≤k
     ·rw [if_pos ⟨h4,by omega⟩,if_pos ⟨h4,by omega⟩]; grind
     ·rw [if_neg (by omega),if_neg (by omega)]; grind
    ·rw [if_neg h3,if_neg (show ¬ k<n+1 by omega),if_neg (by omega),if_neg (by omega)]; grind
theorem Q0 (a:List Nat) (b:Nat):Pol.PE (toF q (mulN q a [b,1])) (Pol.Ml (-(fz q b)) (toF q a)):=fun n=>by
 rw [jf]
 unfold mulN
 rw [rP,show ([b,1]:List Nat).length=2 from rfl]
 have e:(if n<a.length+2 then mulC q a [b,1] n a.length else 0)=mulC q a [b,1] n a.length∨¬ n<a.length+2:=by
  by_cases h:n<a.length+2
  ·exact .inl (if_pos h)
  ·exact .inr h
 have v:fz q (if n<a.length+2 then mulC q a [b,1] n a.length else 0)=fz q b*fz q (a.getD n 0)+(if 1≤n then fz q (a.getD (n - 1) 0) else 0):=by
  rcases e with e|h
  ·rw [e,Ju]
   by_cases h1:n<a.length
   ·rw [if_pos h1]
    by_cases h2:1≤n
    ·rw [if_pos ⟨h2,by omega⟩,if_pos h2]
    ·rw [if_neg (by omega),if_neg h2]
   ·rw [if_neg h1,iH (l:=a) (n:=n) (by omega),oM]
    by_cases h2:1≤n
    ·rw [if_pos h2]
     by_cases h3:n - 1<a.length
     ·rw [if_pos ⟨h2,h3⟩]; grind
     ·rw [if_neg (by omega),iH (l:=a) (n:=n - 1) (by omega),oM]; grind
    ·rw [if_neg h2,if_neg (by omega)]; grind
  ·rw [if_neg h,iH (l:=a) (n:=n) (by omega),if_pos (by omega),iH (l:=a) (n:=n - 1) (by omega),oM]; grind
 rw [v]
 cases n with
 |zero=>rw [Pol.lm,jf,if_neg (by omega)]; grind
 |succ n=>rw [Pol.jK,jf,jf,if_pos (by omega),Nat.add_sub_cancel]; grind
end
end Go.Own
set_option linter.unusedVariables false
set_option linter.unusedSimpArgs false
namespace Go.Own
open Go.IntWalk
theorem K4 {q a:Nat} [NeZero q] (hq:1<q) (h:∃ s:Fin q,s*fz q a=1):Nat.gcd a q=1:=by
 obtain ⟨s,hs⟩:=h
 have e:s.val*(a%q)%q=1:=by
  have:=congrArg Fin.val hs
  rw [Fin.val_mul,MS] at this
  rw [this]
  show 1%q=1
  exact Nat.mod_eq_of_lt hq
 rw [Nat.mul_mod_mod] at e
 have h1:Nat.gcd a q∣s.val*a:=Nat.dvd_trans (Nat.gcd_dvd_left a q) (Nat.dvd_mul_left _ _)
 have h2:Nat.gcd a q∣q:=Nat.gcd_dvd_right a q
 have h3:Nat.gcd a q∣s.val*a%q:=(Nat.dvd_mod_iff h2).2 h1
 rw [e] at h3
 exact Nat.dvd_one.1 h3
theorem FC {q a s:Nat} [NeZero q] (h:NV a q s):fz q s*fz q a=1:=by
 rw [← zQ,← mY,h.eq,MV]
theorem AZ (q:Nat) (l:List Nat):(qN q l).length≤l.length:=by
 unfold qN; rw [List.length_take,nV]; omega
theorem LC {q:Nat} (hq:0<q) {l:List Nat}:∀ a∈qV q l,a<q:=by
 intro a ha
 obtain ⟨b,_,rfl⟩:=List.mem_map.1 ha
 exact Nat.mod_lt _ hq
theorem II {q:Nat} (hq:0<q) {l:List Nat}:∀ a∈qN q l,a<q:=fun a ha=>LC hq a (List.mem_of_mem_take ha)
def wT (q:Nat) [NeZero q] (xs:List Nat):Prop:=∀ k,k<xs.length→∃ s:Fin q,s*Pol.tu (toF q (xs.take k)) (fz q (xs.getD k 0))=1
theorem Ce {gx:Option dN} {q:Nat} [NeZero q] (h:Fld gx q) {f xs:List Nat} (hf:∀ a∈f,a<ay) (hx:∀ a∈xs,a<ay) (hfx:f.length≤xs.length) (h32:xs.length≤32) (ha:wT q xs):
  ∃ (L:List Nat) (n:Nat) (fl:Bool),eP.r gx (xs.map limbs) ((xs.map (evN q f)).map limbs)=(true,1,0,(0,n,0,(fl,L.map limbs)))∧(∀ a∈L,a<q)∧n≤L.length∧n≤f.length∧Pol.PE (toF q f) (toF q (L.take n)):=by
 have hq:=h.gt
 have hqW:=h.lt
 have h0:0<q:=by omega
 have qW:∀ {a},a<q→a<ay:=fun h=>Nat.lt_trans h hqW
 obtain ⟨rq,inv,hR,hF⟩:=h.field
 obtain ⟨w,hw⟩:∃ w,w=eP.l0 (gx,(xs.map (evN q f)).map limbs,(),0,(0,0),[[1,0,0,0]],xs.map limbs,(xs.length:Int),0,()) ((true,[]),()):=⟨_,rfl⟩
 have key:w.1=true∧w.2.1=1∧∃ (L:List Nat) (n:Nat) (fl:Bool),w.2.2.1.2.2.2.2.1=(0,n)∧w.2.2.2.1.1=(fl,L.map limbs)∧(∀ a∈L,a<q)∧n≤L.length∧n≤f.length∧Pol.PE (toF q f) (toF q (L.take n)):=by
  refine iR (g:=fun rq kn ke kr x y=>eP.g0 rq kn ke kr x y) hw
   (fun x y=>∃ (k:Nat) (L:List Nat) (n:Nat) (base:List Nat) (hh:List (Fin q)) (fl:Bool),k≤xs.length∧x=(gx,(xs.map (evN q f)).map limbs,(),0,(0,n),base.map limbs,xs.map limbs,(xs.length:Int),(k:Int),())∧y=((fl,L.map limbs),())∧n=tl L L.length∧(∀ a∈L,a<q)∧(∀ a∈base,a<q)∧base.length≤1+2*k∧n≤1+2*k∧
    Pol.PE (toF q f) (Pol.mO (toF q (L.take n)) (Pol.TL (toF q (xs.take k)) hh))∧Pol.PE (toF q base) (Pol.TL (toF q (xs.take k)) [1])∧hh.length=f.length - k)
   (fun x y=>xs.length - x.2.2.2.2.2.2.2.2.1.toNat)
   ⟨0,[],0,[1],toF q f,true,Nat.zero_le _,rfl,rfl,rfl,by simp,by simp; omega,by simp,by omega,fun n=>by rw [Pol.iL]; show _=Pol.cf [] n+_; rw [Pol.iU]; show _=0+Pol.cf (toF q f) n; grind,fun n=>rfl,by unfold toF; simp⟩
   (by show xs.length - ((0:Int)).toNat<((xs.length:Int) - (0:Int)).toNat+1; omega)
   (Q:=fun w=>w.1=true∧w.2.1=1∧∃ (L:List Nat) (n:Nat) (fl:Bool),w.2.2.1.2.2.2.2.1=(0,n)∧w.2.2.2.1.1=(fl,L.map limbs)∧(∀ a∈L,a<q)∧n≤L.length∧n≤f.length∧Pol.PE (toF q f) (toF q (L.take n))) ?_
  rintro x y R ⟨k,L,n,base,hh,fl,hk,rfl,rfl,hn,hL,hB,hbl,hnl,i1,i2,i3⟩ hR
  by_cases hlt:k<xs.length
  ·have hxk:=hx _ (gN hlt)
   obtain ⟨X,hX⟩:∃ X,X=xs.getD k 0:=⟨_,rfl⟩
   have g1:(xs.map limbs).getD k [0,0,0,0]=limbs X:=by rw [hX]; exact getD_map hlt
   have g2:((xs.map (evN q f)).map limbs).getD k [0,0,0,0]=limbs (evN q f X):=by
    rw [getD_map (d':=0) (by rw [List.length_map]; exact hlt),getD_map (d':=0) hlt,hX]
   rw [← hX] at hxk
   have hfk:∀ a∈L.take n,a<ay:=fun a ha=>qW (hL a (List.mem_of_mem_take ha))
   have hbW:∀ a∈base,a<ay:=fun a ha=>qW (hB a ha)
   have hfl:(L.take n).length≤1+2*k:=by rw [List.length_take]; omega
   have E1:=IC h hbW (by omega) hxk
   have E2:=IC h hfk (by omega) hxk
   obtain ⟨bv,hbv⟩:∃ b,b=evN q base X:=⟨_,rfl⟩
   obtain ⟨fv,hfv⟩:∃ b,b=evN q (L.take n) X:=⟨_,rfl⟩
   obtain ⟨yv,hyv⟩:∃ b,b=evN q f X:=⟨_,rfl⟩
   have bq:bv<q:=by rw [hbv]; exact Dp h0 _ _
   have fvq:fv<q:=by rw [hfv]; exact Dp h0 _ _
   have yvq:yv<q:=by rw [hyv]; exact Dp h0 _ _
   rw [← hbv] at E1; rw [← hfv] at E2; rw [← hyv] at g2
   have eb:fz q bv=Pol.ev (toF q base) (fz q X):=by rw [hbv,Dl]
   have efv:fz q fv=Pol.ev (toF q (L.take n)) (fz q X):=by rw [hfv,Dl]
   have ey:fz q yv=Pol.ev (toF q f) (fz q X):=by rw [hyv,Dl]
   have hu:∃ s:Fin q,s*fz q bv=1:=by
    obtain ⟨s,hs⟩:=ha k hlt
    refine ⟨s,?_⟩
    rw [eb,Pol.Dm i2,Pol.M4,hX]
    show s*(_*(0*_+1))=1
    rw [← hs]; grind
   have hg:=K4 hq hu
   have hbz:bv≠0:=by rintro rfl; rw [Nat.gcd_zero_left] at hg; omega
   obtain ⟨s,hs,eI⟩:=Rb h (qW bq) hg
   have P0:=JG (qW bq)
   rw [decide_eq_false hbz] at P0
   have S1:=NY h (qW yvq) (qW fvq)
   obtain ⟨d,hd⟩:∃ d,d=(yv%q+(q - fv%q))%q:=⟨_,rfl⟩
   have dq:d<q:=by rw [hd]; exact Nat.mod_lt _ h0
   rw [← hd] at S1
   have M1:=DR h (qW dq) (qW hs.lt)
   obtain ⟨c,hc⟩:∃ c,c=d*s%q:=⟨_,rfl⟩
   have cq:c<q:=by rw [hc]; exact Nat.mod_lt _ h0
   rw [← hc] at M1
   have SC:=NF h hbW (qW cq) (by omega)
   obtain ⟨sc,hsc⟩:∃ z,z=qN q (yP q base c):=⟨_,rfl⟩
   rw [← hsc] at SC
   have hscW:∀ a∈sc,a<ay:=fun a ha=>qW (by rw [hsc] at ha; exact II h0 a ha)
   have hscl:sc.length≤1+2*k:=by
    have:=AZ q (yP q base c)
    rw [uO,← hsc] at this
    omega
   have AD:=Q6 h hfk hscW (by omega) (by omega)
   have S2:=NY h (show 0<ay by decide) hxk
   obtain ⟨nx,hnx⟩:∃ d,d=(0%q+(q - X%q))%q:=⟨_,rfl⟩
   have nxq:nx<q:=by rw [hnx]; exact Nat.mod_lt _ h0
   rw [← hnx,eX] at S2
   have ML:=QY h hbW (b:= [nx,1]) (by intro a ha; rcases List.mem_cons.1 ha with rfl|ha; exact qW nxq; rcases List.mem_cons.1 ha with rfl|ha; decide; cases ha) (by show base.length+2≤_; omega)
   have e1:([nx,1]:List Nat).map limbs= [limbs nx,[1,0,0,0]]:=rfl
   rw [e1] at ML
   have w1:IntKind.i64.wrap ((k:Int)+1)=((k+1:Nat):Int):=i64_in _ (by omega)
   have et:(List.map limbs L).take n=(L.take n).map limbs:=(List.map_take).symm
   simp only [eP.g0,Go.Own.lt,dQ (show (k:Int)<(xs.length:Int) by omega),eF (show (0:Int)≤(k:Int) by omega),cond_true,Bool.and_self,Int.toNat_natCast,List.length_map,aj,g1,g2,E1,P0,cond_false,List.drop_zero,et,E2,S1,eI,M1,SC,AD,show Nat.beq 1 0=false from rfl,S2,ML,w1]
   have ax:toF q (xs.take (k+1))=toF q (xs.take k)++ [fz q X]:=by
    unfold toF
    rw [hX]
    exact (mo (f:=fz q) hlt).symm
   have st:=Pol.Cn (fk':=toF q ((qV q (addN q (L.take n) sc)).take (tl (qV q (addN q (L.take n) sc)) (addN q (L.take n) sc).length))) (base':=toF q (qN q (mulN q base [nx,1]))) (s:=fz q s) (c:=fz q c) i1 i2 ey (by rw [← eb]; exact FC hs)
    (by rw [hc,mY,zQ,hd,MU,efv])
    (by
     refine (DL (q:=q) (addN q (L.take n) sc)).trans ((Q5 _ _).trans (Pol.PE.add Pol.PE.rfl' ?_))
     rw [hsc]
     exact (DL _).trans (QZ _ _))
    (by
     refine (DL (q:=q) _).trans ((Q0 base nx).trans ?_)
     have: -(fz q nx)=fz q X:=by rw [hnx,MU,oM]; grind
     rw [this]
     exact Pol.PE.rfl')
   refine hR _ _ ⟨k+1,qV q (addN q (L.take n) sc),_,qN q (mulN q base [nx,1]),Pol.dv (fz q X) hh,_,hlt,rfl,rfl,by rw [nV],LC h0,II h0,?_,?_,?_,?_,?_⟩ ?_
   ·have:=AZ q (mulN q base [nx,1])
    rw [EX] at this
    have e2:([nx,1]:List Nat).length=2:=rfl
    omega
   ·have:=K8 (qV q (addN q (L.take n) sc)) (addN q (L.take n) sc).length
    rw [Ag] at this
    rw [Ag]
    omega
   ·rw [ax]; exact st.1
   ·rw [ax]; exact st.2
   ·rw [Pol.Nc,i3]; omega
   ·show xs.length - (((k+1:Nat):Int)).toNat<xs.length - ((k:Int)).toNat
    omega
  ·have hkl:k=xs.length:=by omega
   subst hkl
   have hh0:hh= []:=List.length_eq_zero_iff.1 (by omega)
   have hend:=Pol.Ed i1 hh0
   simp only [eP.g0,Go.Own.lt,dA (show ¬ (xs.length:Int)<(xs.length:Int) by omega),cond_false]
   refine ⟨trivial,trivial,L,n,fl,rfl,rfl,hL,by rw [hn]; exact K8 _ _,?_,hend⟩
   rw [hn]
   apply Ec
   intro m hm
   have e:=hend m
   rw [jf,jf,iH hm,hn,IQ] at e
   have e2:=Jv e
   rw [Nat.zero_mod] at e2
   rcases Nat.lt_or_ge m L.length with h5|h5
   ·rw [Nat.mod_eq_of_lt (hL _ (gN h5))] at e2; exact e2.symm
   ·exact iH h5
 obtain ⟨k1,k2,L,n,fl,k3,k4,k5,k6,k7,k8⟩:=key
 refine ⟨L,n,fl,?_,k5,k6,k7,k8⟩
 have c1:((xs.length:Int) != (xs.length:Int))=false:=by simp
 simp only [eP.r,eP.g,Go.Own.lt,hF,aj,hR.oJ,cond_false,List.length_map,c1,dA (show ¬ (32:Int)<(xs.length:Int) by omega),← hw,k1,k2,k3,k4,show Nat.beq 1 0=false from rfl]
end Go.Own
set_option linter.unusedVariables false
set_option linter.unusedSimpArgs false
namespace Go.Own
open Go.IntWalk
abbrev si:Type:=Int×((List Int)×Unit)
def je (q:Nat) (f:List Nat) (p:Nat):si:=((p:Int),(limbs (evN q f p),()))
def tQ (q:Nat) (f:List Nat) (n:Nat):List si:=(List.range n).map fun i=>je q f (i+1)
theorem PN {gx:Option dN} {q:Nat} (h:Fld gx q) {f:List Nat} (hf:∀ a∈f,a<ay) (hl:f.length≤9223372036854775807) {n:Nat} (hn:n≤1073741824):di.l0 (gx,f.map limbs,(),0,(),(n:Int),0,()) ((true,[]),())=
  (true,1,(gx,f.map limbs,(),0,(),(n:Int),(n:Int),()),((decide (n=0),tQ q f n),()),(),()):=by
 have key:di.l0 (gx,f.map limbs,(),0,(),(n:Int),((0:Nat):Int),()) ((decide (0=0),tQ q f 0),())=
  (true,1,(gx,f.map limbs,(),0,(),(n:Int),(n:Int),()),((decide (n=0),tQ q f n),()),(),()):=by
  refine bO (g:=fun rq kn ke kr x y=>di.g0 rq kn ke kr x y) n (fun j=>(gx,f.map limbs,(),0,(),(n:Int),(j:Int),())) (fun j=>((decide (j=0),tQ q f j),())) _ ?_ ?_ _ 0 (Nat.zero_le _) (by show n - 0<((n:Int) - ((0:Nat):Int)).toNat+1; omega)
  ·intro j R hj
   have c1:nle ((2*((tQ q f j).length+1)+512)*40) 70368744177664=true:=pW (by unfold tQ; rw [List.length_map,List.length_range]; omega)
   have s1:tQ q f j++ [(((j+1:Nat):Int),(limbs (evN q f (j+1)),()))]=tQ q f (j+1):=kY h (fun i=>je q f (i+1)) j
   have d1:decide (j+1=0)=false:=decide_eq_false (by omega)
   have w1:IntKind.i64.wrap ((j:Int)+1)=((j+1:Nat):Int):=i64_in _ (by omega)
   have n1:dm.r ((j+1:Nat):Int)=(true,limbs (j+1)):=by rw [qQ _ (by omega)]; rfl
   have e1:=IC h hf hl (show j+1<ay by unfold ay; omega)
   simp only [di.g0,Go.Own.lt,dQ (show (j:Int)<(n:Int) by omega),cond_true,w1,n1,aj,e1,Bool.and_false,s1,c1,d1]
  ·intro R
   simp only [di.g0,Go.Own.lt,dA (show ¬ (n:Int)<(n:Int) by omega),cond_false]
 exact key
theorem Rc {gx:Option dN} {q:Nat} (h:Fld gx q) {f:List Nat} (hf:∀ a∈f,a<ay) (hl:f.length≤9223372036854775807) {n:Nat} (h1:1≤n) (h7:n≤7):di.r gx (f.map limbs) (n:Int)=(true,tQ q f n,0):=by
 obtain ⟨rq,inv,hR,hF⟩:=h.field
 simp only [di.r,di.g,Go.Own.lt,hF,aj,hR.oJ,cond_false,dA (show ¬ (n:Int)<1 by omega),dA (show ¬ (7:Int)<(n:Int) by omega),PN h hf hl (show n≤1073741824 by omega)]
theorem KT {pts:List Nat} (hp:∀ p∈pts,1≤p∧p≤7) (hl:pts.length≤1073741824):fe.r (pts.map fun (p:Nat)=>(p:Int)) 1=(true,false):=by
 have key:aK.l0 (pts.map (fun (p:Nat)=>(p:Int)),(),0,(pts.length:Int),((0:Nat):Int),()) (1,())=(true,1,(pts.map (fun (p:Nat)=>(p:Int)),(),0,(pts.length:Int),(pts.length:Int),()),(1,()),(0,()),(0,())):=by
  refine bO (g:=fun rq kn ke kr x y=>aK.g0 rq kn ke kr x y) pts.length (fun j=>(pts.map (fun (p:Nat)=>(p:Int)),(),0,(pts.length:Int),(j:Int),())) (fun j=>(1,())) _ ?_ ?_ _ 0 (Nat.zero_le _) (by show pts.length - 0<((pts.length:Int) - ((0:Nat):Int)).toNat+1; omega)
  ·intro j R hj
   have g1:(pts.map fun (p:Nat)=>(p:Int)).getD j 0=((pts.getD j 0:Nat):Int):=getD_map hj
   have hb:=hp _ (gN hj)
   have w1:IntKind.i64.wrap ((j:Int)+1)=((j+1:Nat):Int):=i64_in _ (by omega)
   have o1:eu.r ((pts.getD j 0:Nat):Int) 1=(true,false,1):=by
    simp only [eu.r,eu.g,lt,dA (show ¬ ((pts.getD j 0:Nat):Int)<1 by omega),cond_false,dA (show ¬ (7:Int)<((pts.getD j 0:Nat):Int) by omega)]
   simp only [aK.g0,lt,dQ (show (j:Int)<(pts.length:Int) by omega),eF (show (0:Int)≤(j:Int) by omega),cond_true,Bool.and_self,Int.toNat_natCast,List.length_map,aj,g1,o1,cond_false,w1]
  ·intro R
   simp only [aK.g0,lt,dA (show ¬ (pts.length:Int)<(pts.length:Int) by omega),cond_false]
 have k2:aK.l0 (pts.map (fun (p:Nat)=>(p:Int)),(),0,(pts.length:Int),0,()) (1,())=_:=key
 simp only [fe.r,fe.g,cu.r,cu.g,aK.r,aK.g,lt,List.length_map,k2,aj,show Nat.beq 1 0=false from rfl,cond_false,rJ (show ¬ (0:Int)≤ -1 by decide)]
theorem Jr {l:List Nat} (h:l.Pairwise (· < ·)) {i j:Nat} (hij:i<j) (hj:j<l.length):l.getD i 0<l.getD j 0:=by
 rw [getD_lt hj,getD_lt (Nat.lt_trans hij hj)]
 exact List.pairwise_iff_getElem.1 h i j _ _ hij
theorem KU {pts:List Nat} (h:pts.Pairwise (· < ·)) (hl:pts.length≤1073741824) (fl:Bool):aA.r (fl,pts.map fun (p:Nat)=>(p:Int))=(true,pts.map fun (p:Nat)=>(p:Int)):=by
 simp only [aA.r,aA.g,lt,List.length_map]
 by_cases h2:(pts.length:Int)<2
 ·simp only [dQ h2,cond_true]
 ·have key:aA.l0 ((),(),((0+1:Nat):Int),()) ((fl,pts.map fun (p:Nat)=>(p:Int)),())=(true,1,((),(),((pts.length - 1+1:Nat):Int),()),((fl,pts.map fun (p:Nat)=>(p:Int)),()),((0,0),()),((true,[]),())):=by
   refine bO (g:=fun rq kn ke kr x y=>aA.g0 rq kn ke kr x y) (pts.length - 1) (fun j=>((),(),((j+1:Nat):Int),())) (fun j=>((fl,pts.map fun (p:Nat)=>(p:Int)),())) _ ?_ ?_ _ 0 (Nat.zero_le _) (by show pts.length - 1 - 0<(((pts.map fun (p:Nat)=>(p:Int)).length:Int) - ((0+1:Nat):Int)).toNat+1; rw [List.length_map]; omega)
   ·intro j R hj
    have g1:(pts.map fun (p:Nat)=>(p:Int)).getD (j+1) 0=((pts.getD (j+1) 0:Nat):Int):=getD_map (by omega)
    have g2:(pts.map fun (p:Nat)=>(p:Int)).getD j 0=((pts.getD j 0:Nat):Int):=getD_map (by omega)
    have hlt:=Jr h (show j<j+1 by omega) (by omega)
    have w0:IntKind.i64.wrap (((j+1:Nat):Int) - 1)=(j:Int):=by rw [i64_in _ (by omega)]; omega
    have w1:IntKind.i64.wrap (((j+1:Nat):Int)+1)=((j+1+1:Nat):Int):=i64_in _ (by omega)
    have e1:(((pts.getD (j+1) 0:Nat):Int)== ((pts.getD j 0:Nat):Int))=false:=by
     rw [beq_eq_false_iff_ne]; omega
    simp only [aA.g0,lt,List.length_map,dQ (show ((j+1:Nat):Int)<(pts.length:Int) by omega),dQ (show (j:Int)<(pts.length:Int) by omega),eF (show (0:Int)≤((j+1:Nat):Int) by omega),eF (show (0:Int)≤(j:Int) by omega),cond_true,Bool.and_self,aj,Int.toNat_natCast,g1,w0,g2,e1,cond_false,w1]
   ·intro R
    simp only [aA.g0,lt,List.length_map,dA (show ¬ ((pts.length - 1+1:Nat):Int)<(pts.length:Int) by omega),cond_false]
  have k2:aA.l0 ((),(),1,()) ((fl,pts.map fun (p:Nat)=>(p:Int)),())=_:=key
  simp only [dA h2,cond_false,k2,aj,show Nat.beq 1 0=false from rfl]
theorem JU {pts:List Nat} (h:pts.Pairwise (· < ·)):wY (pts.map fun (p:Nat)=>(p:Int))=pts.map fun (p:Nat)=>(p:Int):=by
 unfold wY
 apply List.mergeSort_of_pairwise
 rw [List.pairwise_map]
 exact h.imp fun hab=>by simp; omega
theorem Pp {pts:List Nat} (h:pts.Pairwise (· < ·)) (hl:pts.length≤1073741824):gG.r (pts.map fun (p:Nat)=>(p:Int))=(true,false):=by
 cases pts with
 |nil=>decide
 |cons p pts=>
  have c1:nle ((2*(0+(p::pts).length)+512)*8) 70368744177664=true:=pW (by omega)
  have c2:nlt (p::pts).length 4611686018427387904=true:=P6 (by omega)
  have e1:((p::pts).map fun (p:Nat)=>(p:Int)).isEmpty=false:=rfl
  simp only [gG.r,gG.g,eH.r,eH.g,lt,e1,Bool.not_false,cond_false,List.length_map,c1,c2,aj,JU h,KU h hl,dA (show ¬ ((p::pts).length:Int)<((p::pts).length:Int) by omega)]
end Go.Own
set_option linter.unusedVariables false
set_option linter.unusedSimpArgs false
namespace Go.Own
open Go.IntWalk
theorem wm {q:Nat} [NeZero q] (x:Fin q):∀ (xs:List (Fin q)),(∀ a∈xs,∃ s:Fin q,s*(x - a)=1)→∃ s:Fin q,s*Pol.tu xs x=1
 | [],_=>⟨1,by show (1:Fin q)*1=1; grind⟩
 |a::xs,h=>by
  obtain ⟨s,hs⟩:=h a (by simp)
  obtain ⟨t,ht⟩:=wm x xs fun b hb=>h b (by simp [hb])
  refine ⟨s*t,?_⟩
  show s*t*((x - a)*Pol.tu xs x)=1
  grind
theorem zM {q d:Nat} [NeZero q] (hq:1<q) (hqW:q<ay) (hd:d<ay) (h:Nat.gcd d q=1):∃ s:Fin q,s*fz q d=1:=by
 rcases Gg d q hd hqW (by omega) with ⟨_,s,hs,_⟩|⟨hn,_⟩
 ·exact ⟨fz q s,FC hs⟩
 ·exact absurd h hn
def Small (q:Nat):Prop:=∀ d,1≤d→d≤6→Nat.gcd d q=1
theorem KP {q:Nat} [NeZero q] (hq:1<q) (hqW:q<ay) (hs:Small q) {pts:List Nat} (hp:∀ p∈pts,1≤p∧p≤7) (ha:pts.Pairwise (· < ·)):wT q pts:=by
 intro k hk
 apply wm
 intro a hm
 obtain ⟨p,hpm,rfl⟩:=List.mem_map.1 hm
 obtain ⟨i,hi,rfl⟩:=List.mem_take_iff_getElem.1 hpm
 have hik:i<k:=by omega
 have hlt:=Jr ha hik hk
 have h1:=hp _ (gN hk)
 have h2:=hp _ (gN (show i<pts.length by omega))
 rw [getD_lt (show i<pts.length by omega)] at hlt h2
 obtain ⟨s,hs2⟩:=zM hq hqW (show pts.getD k 0 - pts[i]<ay by unfold ay; omega) (hs (pts.getD k 0 - pts[i]) (by omega) (by omega))
 refine ⟨s,?_⟩
 have e:fz q (pts.getD k 0)=fz q (pts.getD k 0 - pts[i])+fz q pts[i]:=by rw [← rQ,Nat.sub_add_cancel (Nat.le_of_lt hlt)]
 rw [e]
 grind
theorem kU {α β:Type} {f:α→β} {l:List α} {j:Nat} {d:α} {v:β} (h:j<l.length) (hv:v=f (l.getD j d)):(l.take j).map f++ [v]=(l.take (j+1)).map f:=by
 rw [hv]; exact mo h
theorem En {q:Nat} (h:(List.range 6).all (fun d=>Nat.beq (Nat.gcd (d+1) q) 1)=true):Small q:=by
 intro d h1 h6
 have:=List.all_eq_true.1 h (d - 1) (List.mem_range.2 (by omega))
 rw [Nat.sub_add_cancel h1] at this
 exact Nat.eq_of_beq_eq_true this
theorem Ct:Small lQ:=En (by kernel_rfl)
theorem Cs:Small lN:=En (by kernel_rfl)
end Go.Own
set_option linter.unusedVariables false
set_option linter.unusedSimpArgs false
namespace Go.Own
open Go.IntWalk
theorem PI:gU.r=(true,((),(limbs mJ,())),(false,oC.map fV)):=by kernel_rfl
theorem Py:gT.r=(true,((),(limbs mI,())),(false,oz.map fV)):=by kernel_rfl
theorem NK:iD.r (oC.map fV,(limbs mJ,()))=(true,limbs lQ):=by kernel_rfl
theorem NJ:iD.r (oz.map fV,(limbs mI,()))=(true,limbs lN):=by kernel_rfl
theorem NH (a:List (List Int)) (hl:a.length≤1073741824):bC.r a a=(true,true):=by
 have key:bC.l0 (a,a,false,((0:Nat):Int),()) ()=(true,1,(a,a,false,(a.length:Int),()),(),(false,()),()):=by
  refine bO (g:=fun rq kn ke kr x y=>bC.g0 rq kn ke kr x y) a.length (fun j=>(a,a,false,(j:Int),())) (fun j=>()) _ ?_ ?_ _ 0 (Nat.zero_le _) (by show a.length - 0<((a.length:Int) - ((0:Nat):Int)).toNat+1; omega)
  ·intro j R hj
   have w1:IntKind.i64.wrap ((j:Int)+1)=((j+1:Nat):Int):=i64_in _ (by omega)
   simp only [bC.g0,lt,dQ (show (j:Int)<(a.length:Int) by omega),eF (show (0:Int)≤(j:Int) by omega),cond_true,Bool.and_self,aj,FE,Bool.not_true,cond_false,w1]
  ·intro R
   simp only [bC.g0,lt,dA (show ¬ (a.length:Int)<(a.length:Int) by omega),cond_false]
 have k2:bC.l0 (a,a,false,0,()) ()=_:=key
 have c1:((a.length:Int) != (a.length:Int))=false:=by simp
 simp only [bC.r,bC.g,lt,c1,cond_false,k2,aj,show Nat.beq 1 0=false from rfl]
end Go.Own
set_option linter.unusedVariables false
set_option linter.unusedSimpArgs false
namespace Go.Own
open Go.IntWalk
theorem QW {gx:Option dN} {q:Nat} [NeZero q] (h:Fld gx q) {f pts:List Nat} (hp:∀ p∈pts,1≤p∧p≤7) (hn:pts.length≤1073741824) (deg:Int):bf.l0 (gx,deg,pts.map (je q f),(),0,(),(),(),pts.map (je q f),(pts.length:Int),0,()) ((true,[]),(true,[]),(true,[]),())=
  (true,1,(gx,deg,pts.map (je q f),(),0,(),(),(),pts.map (je q f),(pts.length:Int),(pts.length:Int),()),((decide (pts.length=0),pts.map fun (p:Nat)=>(p:Int)),(decide (pts.length=0),pts.map limbs),(decide (pts.length=0),(pts.map (evN q f)).map limbs),()),(),()):=by
 have key:bf.l0 (gx,deg,pts.map (je q f),(),0,(),(),(),pts.map (je q f),(pts.length:Int),((0:Nat):Int),()) ((decide (0=0),(pts.take 0).map fun (p:Nat)=>(p:Int)),(decide (0=0),(pts.take 0).map limbs),(decide (0=0),(pts.take 0).map fun p=>limbs (evN q f p)),())=
  (true,1,(gx,deg,pts.map (je q f),(),0,(),(),(),pts.map (je q f),(pts.length:Int),(pts.length:Int),()),((decide (pts.length=0),(pts.take pts.length).map fun (p:Nat)=>(p:Int)),(decide (pts.length=0),(pts.take pts.length).map limbs),(decide (pts.length=0),(pts.take pts.length).map fun p=>limbs (evN q f p)),()),(),()):=by
  refine bO (g:=fun rq kn ke kr x y=>bf.g0 rq kn ke kr x y) pts.length (fun j=>(gx,deg,pts.map (je q f),(),0,(),(),(),pts.map (je q f),(pts.length:Int),(j:Int),())) (fun j=>((decide (j=0),(pts.take j).map fun (p:Nat)=>(p:Int)),(decide (j=0),(pts.take j).map limbs),(decide (j=0),(pts.take j).map fun p=>limbs (evN q f p)),())) _ ?_ ?_ _ 0 (Nat.zero_le _) (by show pts.length - 0<((pts.length:Int) - ((0:Nat):Int)).toNat+1; omega)
  ·intro j R hj
   have g1:(pts.map (je q f)).getD j (0,([0,0,0,0],()))=je q f (pts.getD j 0):=getD_map hj
   have g2:(je q f (pts.getD j 0)).1=((pts.getD j 0:Nat):Int):=rfl
   have g3:(je q f (pts.getD j 0)).2.1=limbs (evN q f (pts.getD j 0)):=rfl
   have hb:=hp _ (gN hj)
   have n1:dm.r ((pts.getD j 0:Nat):Int)=(true,limbs (pts.getD j 0)):=by rw [qQ _ (by omega)]; rfl
   have c1:nle ((2*((pts.take j).length+1)+512)*8) 70368744177664=true:=pW (by rw [List.length_take]; omega)
   have c2:nle ((2*((pts.take j).length+1)+512)*32) 70368744177664=true:=pW (by rw [List.length_take]; omega)
   have s1:((pts.take j).map fun (p:Nat)=>(p:Int))++ [((pts.getD j 0:Nat):Int)]=(pts.take (j+1)).map fun (p:Nat)=>(p:Int):=kU (f:=fun (p:Nat)=>(p:Int)) hj rfl
   have s2:((pts.take j).map limbs)++ [limbs (pts.getD j 0)]=(pts.take (j+1)).map limbs:=kU (f:=limbs) hj rfl
   have s3:((pts.take j).map fun p=>limbs (evN q f p))++ [limbs (evN q f (pts.getD j 0))]=(pts.take (j+1)).map fun p=>limbs (evN q f p):=kU (f:=fun p=>limbs (evN q f p)) hj rfl
   have d1:decide (j+1=0)=false:=decide_eq_false (by omega)
   have w1:IntKind.i64.wrap ((j:Int)+1)=((j+1:Nat):Int):=i64_in _ (by omega)
   simp only [bf.g0,Go.Own.lt,dQ (show (j:Int)<(pts.length:Int) by omega),eF (show (0:Int)≤(j:Int) by omega),cond_true,Bool.and_self,Int.toNat_natCast,List.length_map,aj,g1,g2,g3,Bool.and_false,s1,c1,n1,s2,c2,s3,w1,d1]
  ·intro R
   simp only [bf.g0,Go.Own.lt,dA (show ¬ (pts.length:Int)<(pts.length:Int) by omega),cond_false]
 have e:(pts.map (evN q f)).map limbs=pts.map fun p=>limbs (evN q f p):=by rw [List.map_map]; rfl
 rw [List.take_length] at key
 rw [e]
 exact key
theorem Cf {gx:Option dN} {q:Nat} [NeZero q] (h:Fld gx q) (hs:Small q) {f pts:List Nat} (hfW:∀ a∈f,a<ay) (hp:∀ p∈pts,1≤p∧p≤7) (ha:pts.Pairwise (· < ·)) (hn:pts.length≤7) {d:Nat} (hd:d<7) (hf:d<pts.length) (hff:f.length≤pts.length):
  ∃ (L:List Nat) (n:Nat) (fl:Bool),(∀ a∈L,a<q)∧n≤L.length∧n≤f.length∧Pol.PE (toF q f) (toF q (L.take n))∧
   bf.r gx (d:Int) (pts.map (je q f))=if d+1<n then (true,0,4,(0,0,0,(true,[]))) else (true,1,0,(0,n,0,(fl,L.map limbs))):=by
 obtain ⟨rq,inv,hR,hF⟩:=h.field
 obtain ⟨L,n,fl,e,h1,h2,h3,h4⟩:=Ce h hfW (xs:=pts) (fun a hm=>by have:=hp a hm; unfold ay; omega) hff (by omega) (KP h.gt h.lt hs hp ha)
 refine ⟨L,n,fl,h1,h2,h3,h4,?_⟩
 have w1:IntKind.i64.wrap ((d:Int)+1)=((d+1:Nat):Int):=i64_in _ (by omega)
 have e0:((0:Int) != 0)=false:=rfl
 simp only [bf.r,bf.g,Go.Own.lt,List.length_map,QW h hp (show pts.length≤1073741824 by omega),aj,hF,hR.oJ,cond_false,dA (show ¬ (d:Int)<0 by omega),rJ (show ¬ (7:Int)≤(d:Int) by omega),KT hp (show pts.length≤1073741824 by omega),Pp ha (show pts.length≤1073741824 by omega),rJ (show ¬ (pts.length:Int)≤(d:Int) by omega),e,show Nat.beq 1 0=false from rfl,e0,w1]
 by_cases hc:d+1<n
 ·rw [if_pos hc]
  simp only [dQ (show ((d+1:Nat):Int)<(n:Int) by omega),cond_true]
 ·rw [if_neg hc]
  simp only [dA (show ¬ ((d+1:Nat):Int)<(n:Int) by omega),cond_false]
end Go.Own
set_option linter.unusedVariables false
set_option linter.unusedSimpArgs false
namespace Go.Own
open Go.IntWalk
theorem IV (which:Int):∃ q gx,(q=lQ∨q=lN)∧Fld gx q∧bX.r which=(true,gx,(q:Int),true):=by
 obtain ⟨g1,h1,e1⟩:=Ht
 obtain ⟨g2,h2,e2⟩:=Hr
 have l1:=Ql lQ (by decide)
 have l2:=Ql lN (by decide)
 rw [if_pos (by decide)] at l1 l2
 have z:((0:Int)== 0)=true:=rfl
 obtain ⟨b,hb⟩:∃ b,b=(eZ .i64 (· &&& ·) which (1:Int)== 1):=⟨_,rfl⟩
 cases b with
 |true=>
  refine ⟨lN,some g2,.inr rfl,h2.fld,?_⟩
  simp only [bX.r,bX.g,fu.r,fu.g,lt,← hb,cond_true,gT.iF,Py,aj,e2,show Nat.beq 1 0=false from rfl,cond_false,NJ,l2,z]
 |false=>
  refine ⟨lQ,some g1,.inl rfl,h1.fld,?_⟩
  simp only [bX.r,bX.g,fu.r,fu.g,lt,← hb,cond_false,gU.iF,PI,aj,e1,show Nat.beq 1 0=false from rfl,NK,l1,z]
theorem Mh (n:Nat) (h:n<9223372036854775808):aT.r (n:Int)=(true,limbs n):=by
 have:=RP (n:Int) (by omega)
 simp only [aT.r,aT.g,lt,this,aj,Int.toNat_natCast]
theorem NG (a:List si) (hl:a.length≤1073741824):bM.r a a=(true,true):=by
 have key:bM.l0 (a,a,false,((0:Nat):Int),()) ()=(true,1,(a,a,false,(a.length:Int),()),(),(false,()),()):=by
  refine bO (g:=fun rq kn ke kr x y=>bM.g0 rq kn ke kr x y) a.length (fun j=>(a,a,false,(j:Int),())) (fun j=>()) _ ?_ ?_ _ 0 (Nat.zero_le _) (by show a.length - 0<((a.length:Int) - ((0:Nat):Int)).toNat+1; omega)
  ·intro j R hj
   have w1:IntKind.i64.wrap ((j:Int)+1)=((j+1:Nat):Int):=i64_in _ (by omega)
   simp only [bM.g0,lt,dQ (show (j:Int)<(a.length:Int) by omega),eF (show (0:Int)≤(j:Int) by omega),cond_true,Bool.and_self,aj,FE,Bool.not_true,cond_false,w1]
  ·intro R
   simp only [bM.g0,lt,dA (show ¬ (a.length:Int)<(a.length:Int) by omega),cond_false]
 have k2:bM.l0 (a,a,false,0,()) ()=_:=key
 have c1:((a.length:Int) != (a.length:Int))=false:=by simp
 simp only [bM.r,bM.g,lt,c1,cond_false,k2,aj,show Nat.beq 1 0=false from rfl]
theorem PY {q:Nat} [NeZero q] (hq:5<q) {L:List Nat} {n:Nat} (h1:∀ a∈L,a<q) (h2:n≤L.length) (h3:n≤2) (h4:Pol.PE (toF q [5,2]) (toF q (L.take n))):n=2∧L.take n= [5,2]:=by
 have e0:=Jv ((jf [5,2] 0).symm.trans ((h4 0).trans (jf (L.take n) 0)))
 have e1:=Jv ((jf [5,2] 1).symm.trans ((h4 1).trans (jf (L.take n) 1)))
 have hq':∀ k,(L.take n).getD k 0<q:=by
  intro k
  rcases Nat.lt_or_ge k (L.take n).length with h|h
  ·exact h1 _ (List.mem_of_mem_take (gN h))
  ·rw [iH h]; omega
 rw [Nat.mod_eq_of_lt (hq' 0),Nat.mod_eq_of_lt (show ([5,2]:List Nat).getD 0 0<q by show 5<q; exact hq)] at e0
 rw [Nat.mod_eq_of_lt (hq' 1),Nat.mod_eq_of_lt (show ([5,2]:List Nat).getD 1 0<q by show 2<q; omega)] at e1
 have hlen:(L.take n).length=n:=by rw [List.length_take]; omega
 have hn:n=2:=by
  rcases Nat.lt_or_ge 1 n with h|h
  ·omega
  ·rw [iH (l:=L.take n) (n:=1) (by omega)] at e1; exact absurd e1 (by decide)
 refine ⟨hn,?_⟩
 obtain ⟨l,hl⟩:∃ l,l=L.take n:=⟨_,rfl⟩
 rw [← hl] at e0 e1 hlen ⊢
 rw [hn] at hlen
 match l,hlen with
 | [a,b],_=>
  have e0':5=a:=e0
  have e1':2=b:=e1
  rw [← e0',← e1']
theorem yc:aU.r=(true,true):=by
 obtain ⟨q,gx,hq,hF,hs⟩:=IV 0
 have hsm:Small q:=by rcases hq with rfl|rfl; exact Ct; exact Cs
 have hd:tQ q [5,2] 3= [(1,(limbs 7,())),(2,(limbs 9,())),(3,(limbs 11,()))]:=by rcases hq with rfl|rfl<;>kernel_rfl
 have hq5:11<q:=by rcases hq with rfl|rfl<;>decide
 haveI:NeZero q:=⟨by omega⟩
 have of5:=Mh 5 (by decide)
 have of2:=Mh 2 (by decide)
 have of7:=Mh 7 (by decide)
 have of9:=Mh 9 (by decide)
 have of11:=Mh 11 (by decide)
 have h52:∀ a∈ [5,2],a<ay:=by intro a ha; rcases List.mem_cons.1 ha with rfl|ha; decide; rcases List.mem_cons.1 ha with rfl|ha; decide; cases ha
 have D3:=Rc hF (f:= [5,2]) h52 (by decide) (n:=3) (by decide) (by decide)
 rw [hd] at D3
 have p2:([2,3]:List Nat).map (je q [5,2])= [(2,(limbs 9,())),(3,(limbs 11,()))]:=by rcases hq with rfl|rfl<;>kernel_rfl
 have p3:([1,2,3]:List Nat).map (je q [5,2])= [(1,(limbs 7,())),(2,(limbs 9,())),(3,(limbs 11,()))]:=by rcases hq with rfl|rfl<;>kernel_rfl
 obtain ⟨L,n,fl,a1,a2,a3,a4,a5⟩:=Cf hF hsm (f:= [5,2]) (pts:= [2,3]) h52 (by decide) (by decide) (by decide) (d:=1) (by decide) (by decide) (by decide)
 obtain ⟨L2,n2,fl2,b1,b2,b3,b4,b5⟩:=Cf hF hsm (f:= [5,2]) (pts:= [1,2,3]) h52 (by decide) (by decide) (by decide) (d:=0) (by decide) (by decide) (by decide)
 obtain ⟨hn,hL⟩:=PY (by omega) a1 a2 a3 a4
 obtain ⟨hn2,hL2⟩:=PY (by omega) b1 b2 b3 b4
 rw [if_neg (by omega),p2] at a5
 rw [if_pos (by omega),p3] at b5
 have S1:=NG [(1,(limbs 7,())),(2,(limbs 9,())),(3,(limbs 11,()))] (by decide)
 have S2:=NH [limbs 5,limbs 2] (by decide)
 have e1:((L.map limbs).drop 0).take n= [limbs 5,limbs 2]:=by rw [List.drop_zero,← List.map_take,hL]; rfl
 have c1:(ile (1:Int) (([(1,(limbs 7,())),(2,(limbs 9,())),(3,(limbs 11,()))]:List si).length:Int)&&ile (([(1,(limbs 7,())),(2,(limbs 9,())),(3,(limbs 11,()))]:List si).length:Int) (([(1,(limbs 7,())),(2,(limbs 9,())),(3,(limbs 11,()))]:List si).length:Int))=true:=rfl
 have t1:(([(1,(limbs 7,())),(2,(limbs 9,())),(3,(limbs 11,()))]:List si).drop 1).take ((([(1,(limbs 7,())),(2,(limbs 9,())),(3,(limbs 11,()))]:List si).length:Int).toNat - 1)= [(2,(limbs 9,())),(3,(limbs 11,()))]:=rfl
 have z0:((0:Int) != 0)=false:=rfl
 have z1:((0:Int)== 0)=true:=rfl
 have z4:((4:Int)== 4)=true:=rfl
 have m52:([5,2]:List Nat).map limbs= [limbs 5,limbs 2]:=rfl
 rw [m52] at D3
 have D3':di.r gx [limbs 5,limbs 2] 3=_:=D3
 have a5':bf.r gx 1 [(2,(limbs 9,())),(3,(limbs 11,()))]=_:=a5
 have b5':bf.r gx 0 [(1,(limbs 7,())),(2,(limbs 9,())),(3,(limbs 11,()))]=_:=b5
 have f5:aT.r 5=(true,limbs 5):=of5
 have f2:aT.r 2=(true,limbs 2):=of2
 have f7:aT.r 7=(true,limbs 7):=of7
 have f9:aT.r 9=(true,limbs 9):=of9
 have f11:aT.r 11=(true,limbs 11):=of11
 simp only [aU.r,aU.g,lt,bX.iF,aT.iF,di.iF,bf.iF,bM.iF,bC.iF,hs,f5,f2,f7,f9,f11,D3',aj,Bool.not_true,cond_false,z0,S1,c1,t1,a5',show Nat.beq 1 0=false from rfl,b5',show Nat.beq 0 0=true from rfl,cond_true,e1,S2,z1,z4]
end Go.Own
set_option linter.unusedVariables false
set_option linter.unusedSimpArgs false
namespace Go.Own
open Go.IntWalk
theorem xK (xs:List Int) (least:Int) (hl:xs.length≤1073741824):fe.r xs least=(true,xs.any fun x=>decide (x<least)||decide (7<x)):=by
 have o1:∀ x:Int,eu.r x least=(true,(decide (x<least)||decide (7<x)),least):=by
  intro x
  by_cases h:x<least
  ·simp only [eu.r,eu.g,lt,dQ h,cond_true,decide_eq_true h,Bool.true_or]
  ·simp only [eu.r,eu.g,lt,dA h,cond_false,decide_eq_false h,Bool.false_or]; rfl
 obtain ⟨w,hw⟩:∃ w,w=aK.l0 (xs,(),0,(xs.length:Int),0,()) (least,()):=⟨_,rfl⟩
 have key:w.1=true∧((w.2.1=0∧0≤w.2.2.2.2.1.1∧(xs.any fun x=>decide (x<least)||decide (7<x))=true)∨(w.2.1=1∧(xs.any fun x=>decide (x<least)||decide (7<x))=false)):=by
  refine iR (g:=fun rq kn ke kr x y=>aK.g0 rq kn ke kr x y) hw
   (fun x y=>∃ j:Nat,j≤xs.length∧x=(xs,(),0,(xs.length:Int),(j:Int),())∧y=(least,())∧∀ i,i<j→(decide (xs.getD i 0<least)||decide (7<xs.getD i 0))=false)
   (fun x y=>xs.length - x.2.2.2.2.1.toNat)
   ⟨0,Nat.zero_le _,rfl,rfl,fun i h=>absurd h (Nat.not_lt_zero _)⟩ (by show xs.length - ((0:Int)).toNat<((xs.length:Int) - (0:Int)).toNat+1; omega)
   (Q:=fun w=>w.1=true∧((w.2.1=0∧0≤w.2.2.2.2.1.1∧(xs.any fun x=>decide (x<least)||decide (7<x))=true)∨(w.2.1=1∧(xs.any fun x=>decide (x<least)||decide (7<x))=false))) ?_
  rintro x y R ⟨j,hj,rfl,rfl,ha⟩ hR
  by_cases hlt:j<xs.length
  ·have w1:IntKind.i64.wrap ((j:Int)+1)=((j+1:Nat):Int):=i64_in _ (by omega)
   simp only [aK.g0,lt,dQ (show (j:Int)<(xs.length:Int) by omega),cond_true,eF (show (0:Int)≤(j:Int) by omega),Bool.and_self,aj,Int.toNat_natCast,o1,w1]
   cases hc:(decide (xs.getD j 0<least)||decide (7<xs.getD j 0)) with
   |true=>
    simp only [cond_true]
    refine ⟨trivial,.inl ⟨trivial,Int.natCast_nonneg j,?_⟩⟩
    rw [List.any_eq_true]
    exact ⟨_,by rw [getD_lt hlt]; exact List.getElem_mem _,hc⟩
   |false=>
    simp only [cond_false]
    refine hR _ _ ⟨j+1,hlt,rfl,rfl,fun i hi=> ?_⟩ ?_
    ·rcases Nat.lt_or_ge i j with h|h
     ·exact ha i h
     ·rw [show i=j by omega]; exact hc
    ·show xs.length - (((j+1:Nat):Int)).toNat<xs.length - ((j:Int)).toNat
     omega
  ·simp only [aK.g0,lt,dA (show ¬ (j:Int)<(xs.length:Int) by omega),cond_false]
   refine ⟨trivial,.inr ⟨trivial,?_⟩⟩
   rw [List.any_eq_false]
   intro x hx
   obtain ⟨i,hi,rfl⟩:=List.getElem_of_mem hx
   have:=ha i (by omega)
   rw [getD_lt hi] at this
   rw [this]; decide
 obtain ⟨k1,k2⟩:=key
 simp only [fe.r,fe.g,cu.r,cu.g,aK.r,aK.g,lt,← hw,k1,aj]
 rcases k2 with ⟨k2,k3,k4⟩|⟨k2,k4⟩
 ·simp only [k2,k4,show Nat.beq 0 0=true from rfl,cond_true,eF k3,aj]
 ·simp only [k2,k4,show Nat.beq 1 0=false from rfl,cond_false,rJ (show ¬ (0:Int)≤ -1 by decide),aj]
theorem IE {n k:Nat} (hkn:k<n) (hn:n≤1073741824) {L:List Int} (hL:L.length=n) (fl:Bool) {w:_} (hw:w=aA.l1 ((),(),(k:Int),(k,n - k),1,()) ((fl,L),())):
  w.1=true∧∃ (k':Nat),w.2.2.1.2.2.1=(k':Int)∧k'<n∧w.2.2.2.1.1.2.length=n:=by
 refine iR (g:=fun rq kn ke kr x y=>aA.g1 rq kn ke kr x y) hw
  (fun x y=>∃ (k' i:Nat) (M:List Int),x=((),(),(k':Int),(k,n - k),(i:Int),())∧y=((fl,M),())∧M.length=n∧k'<k+i∧1≤i∧i≤n - k)
  (fun x y=>n - k - x.2.2.2.2.1.toNat)
  ⟨k,1,L,rfl,rfl,hL,by omega,Nat.le_refl _,by omega⟩ (by show n - k - ((1:Int)).toNat<(((n - k:Nat):Int) - 1).toNat+1; omega)
  (Q:=fun w=>w.1=true∧∃ (k':Nat),w.2.2.1.2.2.1=(k':Int)∧k'<n∧w.2.2.2.1.1.2.length=n) ?_
 rintro x y R ⟨k',i,M,rfl,rfl,hM,hk',hi1,hi⟩ hR
 by_cases hlt:i<n - k
 ·have w1:IntKind.i64.wrap ((i:Int)+1)=((i+1:Nat):Int):=i64_in _ (by omega)
  have w2:IntKind.i64.wrap ((i:Int) - 1)=((i - 1:Nat):Int):=by rw [i64_in _ (by omega)]; omega
  have w3:IntKind.i64.wrap ((k':Int)+1)=((k'+1:Nat):Int):=i64_in _ (by omega)
  have r1:(ile 0 (k':Int)&&ilt (k':Int) (M.length:Int))=true:=CG (by omega)
  simp only [aA.g1,lt,dQ (show (i:Int)<((n - k:Nat):Int) by omega),cond_true,rng hlt,aj,Int.toNat_natCast,w2,rng (show i - 1<n - k by omega),r1,w1,w3]
  generalize (M.getD (k+i) 0 != M.getD (k+(i - 1)) 0)=c
  cases c with
  |true=>
   simp only [cond_true]
   refine hR _ _ ⟨k'+1,i+1,M.set k' (M.getD (k+i) 0),rfl,rfl,by rw [List.length_set]; exact hM,by omega,by omega,hlt⟩ ?_
   show n - k - (((i+1:Nat):Int)).toNat<n - k - ((i:Int)).toNat
   omega
  |false=>
   simp only [cond_false]
   refine hR _ _ ⟨k',i+1,M,rfl,rfl,hM,by omega,by omega,hlt⟩ ?_
   show n - k - (((i+1:Nat):Int)).toNat<n - k - ((i:Int)).toNat
   omega
 ·simp only [aA.g1,lt,dA (show ¬ (i:Int)<((n - k:Nat):Int) by omega),cond_false]
  exact ⟨trivial,k',rfl,by omega,hM⟩
def Ak (L:List Int):Prop:=∀ i,i+1<L.length→L.getD (i+1) 0≠L.getD i 0
theorem Gl {L:List Int} (hn:L.length≤1073741824) (fl:Bool):
  ∃ M,aA.r (fl,L)=(true,M)∧(Ak L→M.length=L.length)∧(¬ Ak L→M.length<L.length):=by
 by_cases h2:(L.length:Int)<2
 ·refine ⟨L,?_,fun _=>rfl,fun h=>absurd (fun i hi=>absurd hi (by omega)) h⟩
  simp only [aA.r,aA.g,lt,dQ h2,cond_true]
 ·obtain ⟨w,hw⟩:∃ w,w=aA.l0 ((),(),1,()) ((fl,L),()):=⟨_,rfl⟩
  have key:w.1=true∧((w.2.1=0∧¬ Ak L∧((w.2.2.2.2.2.1.2.drop w.2.2.2.2.1.1.1).take w.2.2.2.2.1.1.2).length<L.length)∨(w.2.1=1∧Ak L∧w.2.2.2.1.1.2=L)):=by
   refine iR (g:=fun rq kn ke kr x y=>aA.g0 rq kn ke kr x y) hw
    (fun x y=>∃ j:Nat,j+1≤L.length∧x=((),(),((j+1:Nat):Int),())∧y=((fl,L),())∧∀ i,i<j→L.getD (i+1) 0≠L.getD i 0)
    (fun x y=>L.length - x.2.2.1.toNat)
    ⟨0,by omega,rfl,rfl,fun i h=>absurd h (Nat.not_lt_zero _)⟩ (by show L.length - ((1:Int)).toNat<((L.length:Int) - (1:Int)).toNat+1; omega)
    (Q:=fun w=>w.1=true∧((w.2.1=0∧¬ Ak L∧((w.2.2.2.2.2.1.2.drop w.2.2.2.2.1.1.1).take w.2.2.2.2.1.1.2).length<L.length)∨(w.2.1=1∧Ak L∧w.2.2.2.1.1.2=L))) ?_
   rintro x y R ⟨j,hj,rfl,rfl,ha⟩ hR
   by_cases hlt:j+1<L.length
   ·have w0:IntKind.i64.wrap (((j+1:Nat):Int) - 1)=(j:Int):=by rw [i64_in _ (by omega)]; omega
    have w1:IntKind.i64.wrap (((j+1:Nat):Int)+1)=((j+1+1:Nat):Int):=i64_in _ (by omega)
    by_cases he:L.getD (j+1) 0=L.getD j 0
    ·have hb:(L.getD (j+1) 0== L.getD j 0)=true:=beq_iff_eq.2 he
     obtain ⟨v,hv⟩:∃ v,v=aA.l1 ((),(),((j+1:Nat):Int),(j+1,L.length - (j+1)),1,()) ((fl,L),()):=⟨_,rfl⟩
     obtain ⟨v1,k',v2,v3,v4⟩:=IE hlt hn rfl fl hv
     obtain ⟨a,b,c,d,e⟩:=v
     obtain ⟨a1,a2,a3,a4,a5,a6⟩:=c
     obtain ⟨⟨b1,M⟩,b2⟩:=d
     simp only at v1 v2 v4
     subst v1; subst v2
     have hol:(over M k' (List.replicate (L.length - k') 0)).length=L.length:=by
      unfold over
      simp only [List.length_append,List.length_take,List.length_replicate,List.length_drop,v4]; omega
     simp only [aA.g0,lt,dQ (show ((j+1:Nat):Int)<(L.length:Int) by omega),cond_true,CG hlt,CG (show j<L.length by omega),aj,Int.toNat_natCast,w0,hb,eF (show (0:Int)≤((j+1:Nat):Int) by omega),eF (show ((j+1:Nat):Int)≤(L.length:Int) by omega),eF (Int.le_refl (L.length:Int)),Bool.and_self,← hv,v4,eF (show (0:Int)≤(k':Int) by omega),eF (show (k':Int)≤(L.length:Int) by omega),hol]
     refine ⟨trivial,.inl ⟨trivial,fun h=>h j hlt he,?_⟩⟩
     simp only [List.drop_zero,List.length_take,hol]
     omega
    ·have hb:(L.getD (j+1) 0== L.getD j 0)=false:=beq_eq_false_iff_ne.2 he
     simp only [aA.g0,lt,dQ (show ((j+1:Nat):Int)<(L.length:Int) by omega),cond_true,CG hlt,CG (show j<L.length by omega),aj,Int.toNat_natCast,w0,hb,cond_false,w1]
     refine hR _ _ ⟨j+1,hlt,rfl,rfl,fun i hi=> ?_⟩ ?_
     ·rcases Nat.lt_or_ge i j with h|h
      ·exact ha i h
      ·rw [show i=j by omega]; exact he
     ·show L.length - (((j+1+1:Nat):Int)).toNat<L.length - (((j+1:Nat):Int)).toNat
      omega
   ·simp only [aA.g0,lt,dA (show ¬ ((j+1:Nat):Int)<(L.length:Int) by omega),cond_false]
    exact ⟨trivial,.inr ⟨trivial,fun i hi=>ha i (by omega),trivial⟩⟩
  obtain ⟨k1,k2⟩:=key
  rcases k2 with ⟨k2,k3,k4⟩|⟨k2,k3,k4⟩
  ·refine ⟨_,?_,fun h=>absurd h k3,fun _=>k4⟩
   simp only [aA.r,aA.g,lt,dA h2,cond_false,← hw,k1,aj,k2,show Nat.beq 0 0=true from rfl,cond_true]
  ·refine ⟨L,?_,fun _=>rfl,fun h=>absurd k3 h⟩
   simp only [aA.r,aA.g,lt,dA h2,cond_false,← hw,k1,aj,k2,show Nat.beq 1 0=false from rfl,k4]
theorem Kc {L:List Int} (hs:L.Pairwise (· ≤ ·)):Ak L↔L.Nodup:=by
 constructor
 ·intro h
  have hlt:L.Pairwise (· < ·):=by
   rw [List.pairwise_iff_getElem]
   have step:∀ d i (hi:i+1+d<L.length),L[i]<L[i+1+d]:=by
    intro d
    induction d with
    |zero=>
     intro i hi
     have h1:=h i hi
     have h2:=List.pairwise_iff_getElem.1 hs i (i+1) (by omega) hi (by omega)
     rw [getD_lt hi,getD_lt (show i<L.length by omega)] at h1
     have:L[i+1]≠L[i]:=h1
     show L[i]<L[i+1]
     omega
    |succ d ih=>
     intro i hi
     have h1:=ih i (by omega)
     have h2:=List.pairwise_iff_getElem.1 hs (i+1+d) (i+1+(d+1)) (by omega) hi (by omega)
     omega
   intro i j hi hj hij
   have:=step (j - i - 1) i (by omega)
   have e:i+1+(j - i - 1)=j:=by omega
   simp only [e] at this
   exact this
  exact hlt.imp fun h e=>by omega
 ·intro h i hi he
  rw [getD_lt hi,getD_lt (show i<L.length by omega)] at he
  have:=List.pairwise_iff_getElem.1 h i (i+1) (by omega) hi (by omega)
  exact this he.symm
theorem Cc (xs:List Int) (hl:xs.length≤1073741824):∃ b,gG.r xs=(true,b)∧(b=true↔¬ xs.Nodup):=by
 cases xs with
 |nil=>exact ⟨false,by decide,by simp⟩
 |cons p pts=>
  have c1:nle ((2*(0+(p::pts).length)+512)*8) 70368744177664=true:=pW (by omega)
  have c2:nlt (p::pts).length 4611686018427387904=true:=P6 (by omega)
  have e1:(p::pts).isEmpty=false:=rfl
  have hp:(wY (p::pts)).Perm (p::pts):=List.mergeSort_perm _ _
  have hlen:(wY (p::pts)).length=(p::pts).length:=hp.length_eq
  have hs:(wY (p::pts)).Pairwise (· ≤ ·):=by
   have:=List.pairwise_mergeSort (le:=fun (a b:Int)=>decide (a≤b)) (by intro a b c; simp; omega) (by intro a b; simp; omega) (p::pts)
   exact this.imp fun h=>by simpa using h
  obtain ⟨M,h1,h2,h3⟩:=Gl (L:=wY (p::pts)) (by omega) false
  refine ⟨ilt (M.length:Int) ((p::pts).length:Int),?_,?_⟩
  ·simp only [gG.r,gG.g,eH.r,eH.g,lt,e1,Bool.not_false,cond_false,c1,c2,aj,h1]
  ·rw [OX,← hp.nodup_iff,← Kc hs]
   constructor
   ·intro h h4; have:=h2 h4; omega
   ·intro h; have:=h3 h; omega
end Go.Own
set_option linter.unusedVariables false
set_option linter.unusedSimpArgs false
namespace Go.Own
open Go.IntWalk
section
variable {F:Type} [Lean.Grind.CommRing F]
theorem Ah:∀ (a b:List F),(Pol.mO a b).length=max a.length b.length
 | [],b=>by simp [Pol.mO]
 |a::l,[]=>by simp [Pol.mO]
 |a::l,b::m=>by simp only [Pol.mO,List.length_cons,Ah l m]; omega
theorem Q7 (a:F) (l:List F):(Pol.Ml a l).length=l.length+1:=by
 unfold Pol.Ml
 rw [Ah]
 unfold Pol.xM
 simp only [List.length_cons,List.length_map]; omega
theorem NE:∀ (xs:List F) (h:List F),(Pol.TL xs h).length=h.length+xs.length
 | [],h=>rfl
 |a::xs,h=>by
  show (Pol.Ml a (Pol.TL xs h)).length=_
  rw [Q7,NE xs h]; simp only [List.length_cons]; omega
theorem yU:∀ (xs:List F) {a:F},a∈xs→Pol.tu xs a=0
 | [],a,h=>by cases h
 |b::xs,a,h=>by
  show (a - b)*Pol.tu xs a=0
  rcases List.mem_cons.1 h with rfl|h
  ·grind
  ·rw [yU xs h]; grind
end
theorem QJ {q:Nat} [NeZero q] (a:Fin q):fz q a.val=a:=by unfold fz; simp [Fin.ext_iff,Nat.mod_eq_of_lt a.isLt]
theorem QG {q:Nat} [NeZero q] {xs:List Nat} (ha:wT q xs) (ys:Nat→Fin q):∃ f:List Nat,f.length≤xs.length∧(∀ a∈f,a<q)∧∀ k,k<xs.length→fz q (evN q f (xs.getD k 0))=ys k:=by
 have key:∀ m,m≤xs.length→∃ g:List (Fin q),g.length≤m∧∀ k,k<m→Pol.ev g (fz q (xs.getD k 0))=ys k:=by
  intro m
  induction m with
  |zero=>intro _; exact ⟨[],Nat.le_refl _,fun k h=>absurd h (Nat.not_lt_zero _)⟩
  |succ m ih=>
   intro hm
   obtain ⟨g,hg,hk⟩:=ih (by omega)
   obtain ⟨s,hs⟩:=ha m hm
   obtain ⟨c,hc⟩:∃ c,c=(ys m - Pol.ev g (fz q (xs.getD m 0)))*s:=⟨_,rfl⟩
   have e1:∀ x:Fin q,Pol.ev [c] x=c:=fun x=>by show 0*x+c=c; grind
   refine ⟨Pol.mO g (Pol.TL (toF q (xs.take m)) [c]),?_,fun k hkm=> ?_⟩
   ·rw [Ah,NE]
    unfold toF
    simp only [List.length_cons,List.length_nil,List.length_map,List.length_take]; omega
   ·rw [Pol.Dn,Pol.M4,e1]
    rcases Nat.lt_or_ge k m with h|h
    ·rw [hk k h,yU]
     ·grind
     ·unfold toF
      refine List.mem_map.2 ⟨xs.getD k 0,?_,rfl⟩
      rw [getD_lt (show k<xs.length by omega)]
      exact List.mem_take_iff_getElem.2 ⟨k,by omega,rfl⟩
    ·have:k=m:=by omega
     subst this
     rw [hc]; grind
 obtain ⟨g,hg,hk⟩:=key xs.length (Nat.le_refl _)
 have eg:toF q (g.map Fin.val)=g:=by
  unfold toF
  rw [List.map_map]
  exact (List.map_congr_left fun a _=>QJ a).trans (List.map_id g)
 refine ⟨g.map Fin.val,by rw [List.length_map]; exact hg,fun a h=> ?_,fun k h=> ?_⟩
 ·obtain ⟨b,_,rfl⟩:=List.mem_map.1 h; exact b.isLt
 ·rw [Dl,eg]; exact hk k h
def wR (q:Nat):Prop:=∀ d,1≤d→d≤7→Nat.gcd d q=1
theorem Bb {q:Nat} (h:(List.range 7).all (fun d=>Nat.beq (Nat.gcd (d+1) q) 1)=true):wR q:=by
 intro d h1 h2
 have:=List.all_eq_true.1 h (d - 1) (List.mem_range.2 (by omega))
 rw [Nat.sub_add_cancel h1] at this
 exact Nat.eq_of_beq_eq_true this
theorem Av:wR lQ:=Bb (by kernel_rfl)
theorem Au:wR lN:=Bb (by kernel_rfl)
theorem KQ {q:Nat} [NeZero q] (hq:1<q) (hqW:q<ay) (hs:wR q) {pts:List Nat} (hp:∀ p∈pts,p≤7) (ha:pts.Nodup):wT q pts:=by
 intro k hk
 apply wm
 intro a hm
 obtain ⟨p,hpm,rfl⟩:=List.mem_map.1 hm
 obtain ⟨i,hi,rfl⟩:=List.mem_take_iff_getElem.1 hpm
 have hik:i<k:=by omega
 have hne:=List.pairwise_iff_getElem.1 ha i k (by omega) hk hik
 have h1:=hp _ (gN hk)
 have h2:=hp pts[i] (List.getElem_mem _)
 rw [getD_lt hk] at h1 ⊢
 rcases Nat.lt_or_gt_of_ne hne with hlt|hlt
 ·obtain ⟨s,hs2⟩:=zM hq hqW (show pts[k] - pts[i]<ay by unfold ay; omega) (hs (pts[k] - pts[i]) (by omega) (by omega))
  refine ⟨s,?_⟩
  have e:fz q pts[k]=fz q (pts[k] - pts[i])+fz q pts[i]:=by rw [← rQ,Nat.sub_add_cancel (Nat.le_of_lt hlt)]
  rw [e]
  grind
 ·obtain ⟨s,hs2⟩:=zM hq hqW (show pts[i] - pts[k]<ay by unfold ay; omega) (hs (pts[i] - pts[k]) (by omega) (by omega))
  refine ⟨-s,?_⟩
  have e:fz q pts[i]=fz q (pts[i] - pts[k])+fz q pts[k]:=by rw [← rQ,Nat.sub_add_cancel (Nat.le_of_lt hlt)]
  rw [e]
  grind
abbrev vN:Type:=List (Nat×List (List Int))
def Rows (n:Nat) (R:List Nat) (P:vN) (c:Nat→List (List Int)):Prop:=R.length=n∧∀ j,j<n→R.getD j 0<P.length∧(P.getD (R.getD j 0) (0,[])).1≠2∧(P.getD (R.getD j 0) (0,[])).2=c j∧∀ j',j'<n→R.getD j' 0=R.getD j 0→j'=j∨(P.getD (R.getD j 0) (0,[])).1=3
theorem Fu {α:Type} {l:List α} {i k:Nat} {a d:α} (h:i<l.length):(l.set i a).getD k d=if i=k then a else l.getD k d:=by
 rw [List.getD_eq_getElem?_getD,List.getElem?_set]
 by_cases e:i=k
 ·subst e; rw [if_pos rfl,if_pos h,if_pos rfl]; rfl
 ·rw [if_neg e,if_neg e,List.getD_eq_getElem?_getD]
theorem FK {α:Type} {l:List α} {k:Nat} {a d:α}:(l++ [a]).getD k d=if k<l.length then l.getD k d else if k=l.length then a else d:=by
 rw [List.getD_eq_getElem?_getD,List.getD_eq_getElem?_getD]
 split
 ·rename_i h; rw [List.getElem?_append_left h]
 ·rename_i h
  rw [List.getElem?_append_right (by omega)]
  split
  ·rename_i h2; subst h2; simp
  ·rename_i h2; rw [List.getElem?_eq_none (by simp; omega)]; rfl
theorem Rows.put {n:Nat} {R:List Nat} {P:vN} {c:Nat→List (List Int)} (h:Rows n R P c) {j:Nat} (hj:j<n) (v:List Int):
  Rows n (R.set j P.length) ((P.set (R.getD j 0) ((bif Nat.beq (P.getD (R.getD j 0) (0,[])).1 3 then 3 else 2),(P.getD (R.getD j 0) (0,[])).2))++ [(1,((P.getD (R.getD j 0) (0,[])).2++ [v]))]) (fun k=>if k=j then c j++ [v] else c k):=by
 obtain ⟨h1,h2⟩:=h
 obtain ⟨a1,a2,a3,a4⟩:=h2 j hj
 have hjR:j<R.length:=by omega
 refine ⟨by rw [List.length_set]; exact h1,fun k hk=> ?_⟩
 have gR:∀ i,(R.set j P.length).getD i 0=if j=i then P.length else R.getD i 0:=fun i=>Fu hjR
 obtain ⟨b1,b2,b3,b4⟩:=h2 k hk
 have gP:∀ i,i<P.length→(((P.set (R.getD j 0) ((bif Nat.beq (P.getD (R.getD j 0) (0,[])).1 3 then 3 else 2),(P.getD (R.getD j 0) (0,[])).2))++ [(1,((P.getD (R.getD j 0) (0,[])).2++ [v]))]).getD i (0,[]))=if R.getD j 0=i then ((bif Nat.beq (P.getD (R.getD j 0) (0,[])).1 3 then 3 else 2),(P.getD (R.getD j 0) (0,[])).2) else P.getD i (0,[]):=fun i hi=>by
  rw [FK,if_pos (by rw [List.length_set]; exact hi),Fu a1]
 have gE:(((P.set (R.getD j 0) ((bif Nat.beq (P.getD (R.getD j 0) (0,[])).1 3 then 3 else 2),(P.getD (R.getD j 0) (0,[])).2))++ [(1,((P.getD (R.getD j 0) (0,[])).2++ [v]))]).getD P.length (0,[]))=(1,((P.getD (R.getD j 0) (0,[])).2++ [v])):=by
  rw [FK,if_neg (by rw [List.length_set]; omega),if_pos (by rw [List.length_set])]
 have len:(P.set (R.getD j 0) ((bif Nat.beq (P.getD (R.getD j 0) (0,[])).1 3 then 3 else 2),(P.getD (R.getD j 0) (0,[])).2)++ [(1,((P.getD (R.getD j 0) (0,[])).2++ [v]))]).length=P.length+1:=by simp
 rw [gR k]
 by_cases e:j=k
 ·subst e
  rw [if_pos rfl,gE,len]
  refine ⟨by omega,by show (1:Nat)≠2; decide,by show _=if j=j then _ else _; rw [if_pos rfl,a3],fun j' hj' he=> ?_⟩
  rw [gR j'] at he
  by_cases e2:j=j'
  ·exact .inl e2.symm
  ·rw [if_neg e2] at he
   have:=(h2 j' hj').1
   omega
 ·rw [if_neg e,gP _ b1,len]
  by_cases e3:R.getD j 0=R.getD k 0
  ·have h3:(P.getD (R.getD j 0) (0,[])).1=3:=(a4 k hk e3.symm).resolve_left fun h=>e h.symm
   rw [if_pos e3,h3]
   refine ⟨by omega,by show (3:Nat)≠2; decide,by show _=if k=j then _ else _; rw [if_neg fun h=>e h.symm,← b3,e3],fun _ _ _=> .inr rfl⟩
  ·rw [if_neg e3]
   refine ⟨by omega,b2,by show _=if k=j then _ else _; rw [if_neg fun h=>e h.symm]; exact b3,fun j' hj' he=> ?_⟩
   rw [gR j'] at he
   by_cases e2:j=j'
   ·rw [if_pos e2] at he; omega
   ·rw [if_neg e2] at he; exact b4 j' hj' he
theorem Rows.flag {n:Nat} {R:List Nat} {P:vN} {c:Nat→List (List Int)} (h:Rows n R P c) {j:Nat} (hj:j<n):(!Nat.beq (P.getD (R.getD j 0) (0,[])).1 2)=true:=by
 have:=(h.2 j hj).2.1
 cases e:Nat.beq (P.getD (R.getD j 0) (0,[])).1 2 with
 |false=>rfl
 |true=>exact absurd (Nat.eq_of_beq_eq_true e) this
theorem Rows.all {n:Nat} {R:List Nat} {P:vN} {c:Nat→List (List Int)} (h:Rows n R P c):(R.map fun r=>(P.getD r (0,[])).2)=(List.range n).map c:=by
 apply List.ext_getElem?
 intro k
 rw [List.getElem?_map,List.getElem?_map]
 rcases Nat.lt_or_ge k n with hk|hk
 ·have h1:=(h.2 k hk).2.2.1
  rw [getD_lt (show k<R.length by rw [h.1]; exact hk)] at h1
  rw [List.getElem?_eq_getElem (show k<R.length by rw [h.1]; exact hk),List.getElem?_range hk]
  simp only [Option.map_some,h1]
 ·rw [List.getElem?_eq_none (show R.length≤k by rw [h.1]; exact hk),List.getElem?_eq_none (by simpa using hk)]; rfl
theorem Rows.start (n:Nat):Rows n (List.replicate n 0) [(3,[])] (fun _=> []):=by
 refine ⟨List.length_replicate,fun j hj=> ?_⟩
 have e:∀ k,(List.replicate n 0).getD k 0=0:=fun k=>by
  rw [List.getD_eq_getElem?_getD,List.getElem?_replicate]; split<;>rfl
 rw [e j]
 exact ⟨by decide,by decide,rfl,fun _ _ _=> .inr rfl⟩
end Go.Own
set_option linter.unusedVariables false
set_option linter.unusedSimpArgs false
namespace Go.Own
open Go.IntWalk
abbrev ints (l:List Nat):List Int:=l.map fun (p:Nat)=>(p:Int)
theorem Sl (gx:Option dN) (pts:List Nat) (hp:∀ p∈pts,p≤7) (hn:pts.length≤1073741824) (P:vN):
  aD.l0 (gx,ints pts,(),0,(),ints pts,(pts.length:Int),0,()) ((true,[]),P,())=
  (true,1,(gx,ints pts,(),0,(),ints pts,(pts.length:Int),(pts.length:Int),()),((decide (pts.length=0),pts.map limbs),P,()),(),()):=by
 have key:aD.l0 (gx,ints pts,(),0,(),ints pts,(pts.length:Int),((0:Nat):Int),()) ((decide (0=0),(pts.take 0).map limbs),P,())=
  (true,1,(gx,ints pts,(),0,(),ints pts,(pts.length:Int),(pts.length:Int),()),((decide (pts.length=0),(pts.take pts.length).map limbs),P,()),(),()):=by
  refine bO (g:=fun rq kn ke kr x y=>aD.g0 rq kn ke kr x y) pts.length (fun j=>(gx,ints pts,(),0,(),ints pts,(pts.length:Int),(j:Int),())) (fun j=>((decide (j=0),(pts.take j).map limbs),P,())) _ ?_ ?_ _ 0 (Nat.zero_le _) (by show pts.length - 0<((pts.length:Int) - ((0:Nat):Int)).toNat+1; omega)
  ·intro j R hj
   have g1:(ints pts).getD j 0=((pts.getD j 0:Nat):Int):=getD_map hj
   have hb:=hp _ (gN hj)
   have n1:dm.r ((pts.getD j 0:Nat):Int)=(true,limbs (pts.getD j 0)):=by rw [qQ _ (by omega)]; rfl
   have c2:nle ((2*((pts.take j).length+1)+512)*32) 70368744177664=true:=pW (by rw [List.length_take]; omega)
   have s2:((pts.take j).map limbs)++ [limbs (pts.getD j 0)]=(pts.take (j+1)).map limbs:=kU (f:=limbs) hj rfl
   have d1:decide (j+1=0)=false:=decide_eq_false (by omega)
   have w1:IntKind.i64.wrap ((j:Int)+1)=((j+1:Nat):Int):=i64_in _ (by omega)
   simp only [aD.g0,Go.Own.lt,dQ (show (j:Int)<(pts.length:Int) by omega),eF (show (0:Int)≤(j:Int) by omega),cond_true,Bool.and_self,Int.toNat_natCast,List.length_map,aj,g1,Bool.and_false,n1,s2,c2,w1,d1]
  ·intro R
   simp only [aD.g0,Go.Own.lt,dA (show ¬ (pts.length:Int)<(pts.length:Int) by omega),cond_false]
 rw [List.take_length] at key
 exact key
theorem Sj {n:Nat} {gx:Option dN} {XS:List Int} {z:Int×Int} (hn:n≤1000) (Y:Bool×List (List Int)) (fl:Bool) (f:List (List Int)) (hf:f.length=n) {R:List Nat} {P:vN} {c:Nat→List (List Int)} (h:Rows n R P c) (hc:∀ j,(c j).length≤1000) {w:_}
  (hw:w=aD.l2 (gx,XS,(),0,(),(),z.1,z.2,(),(n:Int),0,()) (Y,(false,R),(fl,f),P,())):
  w.1=true∧w.2.1=5∧w.2.2.1=(gx,XS,(),0,(),(),z.1,z.2,(),(n:Int),(n:Int),())∧∃ R' P',w.2.2.2.1=(Y,(false,R'),(fl,f),P',())∧Rows n R' P' (fun j=>if j<n then c j++ [f.getD j [0,0,0,0]] else c j):=by
 refine iR (g:=fun rq kn ke kr x y=>aD.g2 rq kn ke kr x y) hw
  (fun x y=>∃ (j:Nat) (R:List Nat) (P:vN),j≤n∧x=(gx,XS,(),0,(),(),z.1,z.2,(),(n:Int),(j:Int),())∧y=(Y,(false,R),(fl,f),P,())∧Rows n R P (fun k=>if k<j then c k++ [f.getD k [0,0,0,0]] else c k))
  (fun x y=>n - x.2.2.2.2.2.2.2.2.2.2.1.toNat)
  ⟨0,R,P,Nat.zero_le _,rfl,rfl,by
   have:(fun k=>if k<0 then c k++ [f.getD k [0,0,0,0]] else c k)=c:=funext fun k=>if_neg (Nat.not_lt_zero _)
   rw [this]; exact h⟩ (by show n - ((0:Int)).toNat<((n:Int) - (0:Int)).toNat+1; omega)
  (Q:=fun w=>w.1=true∧w.2.1=5∧w.2.2.1=(gx,XS,(),0,(),(),z.1,z.2,(),(n:Int),(n:Int),())∧∃ R' P',w.2.2.2.1=(Y,(false,R'),(fl,f),P',())∧Rows n R' P' (fun j=>if j<n then c j++ [f.getD j [0,0,0,0]] else c j)) ?_
 rintro x y K ⟨j,R,P,hj,rfl,rfl,hr⟩ hK
 by_cases hlt:j<n
 ·have w1:IntKind.i64.wrap ((j:Int)+1)=((j+1:Nat):Int):=i64_in _ (by omega)
  have rl:=hr.1
  have hb:(P.getD (R.getD j 0) (0,[])).2=if j<j then c j++ [f.getD j [0,0,0,0]] else c j:=(hr.2 j hlt).2.2.1
  rw [if_neg (Nat.lt_irrefl j)] at hb
  have c1:nle ((2*((P.getD (R.getD j 0) (0,[])).2.length+1)+512)*32) 70368744177664=true:=pW (by rw [hb]; have:=hc j; omega)
  have hfg:=hr.flag hlt
  simp only [aD.g2,Go.Own.lt,dQ (show (j:Int)<(n:Int) by omega),cond_true,CG (show j<f.length by omega),CG (show j<R.length by omega),aj,Int.toNat_natCast,hfg,c1,Bool.and_self,w1]
  have:=hr.put hlt (f.getD j [0,0,0,0])
  refine hK _ _ ⟨j+1,_,_,hlt,rfl,rfl,?_⟩ ?_
  ·refine Eq.mp (congrArg (Rows n _ _) (funext fun k=> ?_)) this
   by_cases e:k=j
   ·subst e; rw [if_pos rfl,if_neg (Nat.lt_irrefl k),if_pos (Nat.lt_succ_self k)]
   ·rw [if_neg e]
    by_cases e2:k<j
    ·rw [if_pos e2,if_pos (by omega)]
    ·rw [if_neg e2,if_neg (by omega)]
  ·show n - (((j+1:Nat):Int)).toNat<n - ((j:Int)).toNat
   omega
 ·have:j=n:=by omega
  subst this
  simp only [aD.g2,Go.Own.lt,dA (show ¬ (j:Int)<(j:Int) by omega),cond_false]
  exact ⟨trivial,trivial,trivial,R,P,rfl,hr⟩
structure Units (q:Nat) (pts:List Nat) (F:Nat→List Nat):Prop where
 len:∀ i,i<pts.length→(F i).length≤pts.length
 lt:∀ i,i<pts.length→∀ a∈F i,a<q
 val:∀ i,i<pts.length→∀ k,k<pts.length→evN q (F i) (pts.getD k 0)=if k=i then 1 else 0
theorem K3 {q:Nat} [NeZero q] (hq:1<q) {pts:List Nat} (ha:wT q pts):∃ F,Units q pts F:=by
 have:∀ i,∃ f:List Nat,f.length≤pts.length∧(∀ a∈f,a<q)∧∀ k,k<pts.length→fz q (evN q f (pts.getD k 0))=if k=i then 1 else 0:=fun i=>QG ha fun k=>if k=i then 1 else 0
 refine ⟨fun i=>Classical.choose (this i),fun i _=>(Classical.choose_spec (this i)).1,fun i _=>(Classical.choose_spec (this i)).2.1,fun i _ k hk=> ?_⟩
 have h:=(Classical.choose_spec (this i)).2.2 k hk
 have hl:=Dp (show 0<q by omega) (Classical.choose (this i)) (pts.getD k 0)
 have hv:=congrArg Fin.val h
 rw [MS,Nat.mod_eq_of_lt hl] at hv
 rw [hv]
 by_cases e:k=i
 ·rw [if_pos e,if_pos e]; exact Nat.mod_eq_of_lt hq
 ·rw [if_neg e,if_neg e]; rfl
theorem Oc {q:Nat} {pts:List Nat} {F:Nat→List Nat} (h:Units q pts F) {i:Nat} (hi:i<pts.length):(List.replicate pts.length [0,0,0,0]).set i [1,0,0,0]=(pts.map (evN q (F i))).map limbs:=by
 apply List.ext_getElem?
 intro k
 rw [List.getElem?_set,List.getElem?_map,List.getElem?_map]
 rcases Nat.lt_or_ge k pts.length with hk|hk
 ·have hv:=h.val i hi k hk
  rw [getD_lt hk] at hv
  rw [List.getElem?_eq_getElem hk]
  simp only [Option.map_some,hv,List.length_replicate,List.getElem?_replicate]
  by_cases e:i=k
  ·subst e
   rw [if_pos rfl,if_pos hi,if_pos rfl]; rfl
  ·rw [if_neg e,if_pos hk,if_neg fun h=>e h.symm]; rfl
 ·rw [if_neg (by omega),List.getElem?_eq_none (by simpa using hk),List.getElem?_eq_none hk]; rfl
def EJ (f:List Nat) (n:Nat):List (List Int):=(List.range n).map fun j=>limbs (f.getD j 0)
theorem Qw {q:Nat} [NeZero q] {f L:List Nat} {m n:Nat} (hm:m≤L.length) (hL:∀ a∈L,a<q) (hf:∀ a∈f,a<q) (hfn:f.length≤n) (hmf:m≤n) (h:Pol.PE (toF q f) (toF q (L.take m))):
  ((L.map limbs).take m)++List.replicate (n - m) [0,0,0,0]=EJ f n:=by
 have lt_of:∀ {l:List Nat} {k:Nat},(∀ a∈l,a<q)→l.getD k 0<q:=by
  intro l k hl
  rcases Nat.lt_or_ge k l.length with h|h
  ·exact hl _ (gN h)
  ·rw [iH h]; exact Nat.pos_of_ne_zero (NeZero.ne q)
 have he:∀ k,(L.take m).getD k 0=f.getD k 0:=by
  intro k
  have:=h k
  rw [jf,jf] at this
  have e:=Jv this
  rw [Nat.mod_eq_of_lt (lt_of hf),Nat.mod_eq_of_lt (lt_of fun a ha=>hL a (List.mem_of_mem_take ha))] at e
  exact e.symm
 apply List.ext_getElem?
 intro k
 unfold EJ
 rw [List.getElem?_map]
 rcases Nat.lt_or_ge k m with hk|hk
 ·rw [List.getElem?_append_left (by rw [List.length_take,List.length_map]; omega),List.getElem?_take,if_pos hk,List.getElem?_map,List.getElem?_eq_getElem (show k<L.length by omega),List.getElem?_range (show k<n by omega)]
  have:=he k
  rw [getD_take,if_pos hk,getD_lt (show k<L.length by omega)] at this
  simp only [Option.map_some,this]
 ·rw [List.getElem?_append_right (by rw [List.length_take,List.length_map]; omega),List.length_take,List.length_map,Nat.min_eq_left hm,List.getElem?_replicate]
  rcases Nat.lt_or_ge k n with hkn|hkn
  ·rw [if_pos (by omega),List.getElem?_range hkn]
   have:=he k
   rw [getD_take,if_neg (by omega)] at this
   simp only [Option.map_some,← this]; rfl
  ·rw [if_neg (by omega),List.getElem?_eq_none (by simpa using hkn)]; rfl
theorem EI (f:List Nat) (n:Nat):(EJ f n).length=n:=by unfold EJ; simp
theorem J7 {f:List Nat} {n j:Nat} (h:j<n) (d:List Int):(EJ f n).getD j d=limbs (f.getD j 0):=by
 unfold EJ
 rw [List.getD_eq_getElem?_getD,List.getElem?_map,List.getElem?_range h]; rfl
def yo (F:Nat→List Nat) (n:Nat):List (List (List Int)):=(List.range n).map fun j=>(List.range n).map fun i=>limbs ((F i).getD j 0)
theorem Sk {gx:Option dN} {q:Nat} [NeZero q] (h:Fld gx q) {pts:List Nat} (hp:∀ p∈pts,p≤7) (hn:pts.length≤8) (ha:wT q pts) {F:Nat→List Nat} (hF:Units q pts F) (fl:Bool) {w:_}
  (hw:w=aD.l1 (gx,ints pts,(),0,(),(),(pts.length:Int),0,()) ((fl,pts.map limbs),(false,List.replicate pts.length 0),[(3,[])],())):
  w.1=true∧w.2.1=3∧∃ R P,w.2.2.2.1=((fl,pts.map limbs),(false,R),P,())∧Rows pts.length R P (fun j=>if j<pts.length then (List.range pts.length).map fun i=>limbs ((F i).getD j 0) else []):=by
 obtain ⟨n,hnn⟩:∃ n,n=pts.length:=⟨_,rfl⟩
 have hq:=h.gt
 have hqW:=h.lt
 rw [← hnn] at hw ⊢
 refine iR (g:=fun rq kn ke kr x y=>aD.g1 rq kn ke kr x y) hw
  (fun x y=>∃ (i:Nat) (R:List Nat) (P:vN),i≤n∧x=(gx,ints pts,(),0,(),(),(n:Int),(i:Int),())∧y=((fl,pts.map limbs),(false,R),P,())∧Rows n R P (fun j=>if j<n then (List.range i).map fun k=>limbs ((F k).getD j 0) else []))
  (fun x y=>n - x.2.2.2.2.2.2.2.1.toNat)
  ⟨0,_,_,Nat.zero_le _,rfl,rfl,by
   have:(fun j=>if j<n then (List.range 0).map fun k=>limbs ((F k).getD j 0) else [])=(fun _=>([]:List (List Int))):=funext fun j=>by split<;>rfl
   rw [this]; exact Rows.start n⟩ (by show n - ((0:Int)).toNat<((n:Int) - (0:Int)).toNat+1; omega)
  (Q:=fun w=>w.1=true∧w.2.1=3∧∃ R P,w.2.2.2.1=((fl,pts.map limbs),(false,R),P,())∧Rows n R P (fun j=>if j<n then (List.range n).map fun i=>limbs ((F i).getD j 0) else [])) ?_
 rintro x y K ⟨i,R,P,hi,rfl,rfl,hr⟩ hK
 by_cases hlt:i<n
 ·have hip:i<pts.length:=by omega
  have w1:IntKind.i64.wrap ((i:Int)+1)=((i+1:Nat):Int):=i64_in _ (by omega)
  have n1:dm.r 1=(true,[1,0,0,0]):=by rw [qQ _ (by decide)]; rfl
  obtain ⟨L,m,f2,e,h1,h2,h3,h4⟩:=Ce h (f:=F i) (fun a hm=>Nat.lt_trans (hF.lt i hip a hm) hqW) (xs:=pts) (fun a hm=>by have:=hp a hm; unfold ay; omega) (hF.len i hip) (by omega) ha
  have hlen:=hF.len i hip
  have c1:(ile 0 (n:Int)&&ile (n:Int) (n:Int))=true:=by rw [eF (by omega),eF (Int.le_refl _)]; rfl
  have c2:ile ((n:Int)*((32:Nat):Int)) 70368744177664=true:=eF (by omega)
  have c3:(ile 0 (i:Int)&&ilt (i:Int) (n:Int))=true:=rng hlt
  have w2:IntKind.i64.wrap ((n:Int) - (m:Int))=((n - m:Nat):Int):=by rw [i64_in _ (by omega)]; omega
  have c4:nle ((2*(m+(n - m))+512)*32) 70368744177664=true:=pW (by omega)
  have hpad:=Qw h2 h1 (hF.lt i hip) (n:=n) (by omega) (by omega) h4
  have ey:=Oc hF hip
  rw [← hnn] at ey
  obtain ⟨fl3,hfl3⟩:∃ b,b=((f2&&neq m 0)&&(List.replicate (n - m) ([0,0,0,0]:List Int)).isEmpty):=⟨_,rfl⟩
  obtain ⟨v,hv⟩:∃ v,v=aD.l2 (gx,ints pts,(),0,(),(),(n:Int),(i:Int),(),(n:Int),0,()) ((fl,pts.map limbs),(false,R),(fl3,EJ (F i) n),P,()):=⟨_,rfl⟩
  obtain ⟨v1,v2,v3,R',P',v4,v5⟩:=Sj (z:=((n:Int),(i:Int))) (by omega) (fl,pts.map limbs) fl3 (EJ (F i) n) (EI _ _) hr (fun j=>by
   show (if j<n then _ else _:List (List Int)).length≤1000
   split
   ·rw [List.length_map,List.length_range]; omega
   ·exact Nat.zero_le _) hv
  have hml:(List.take m (L.map limbs)).length=m:=by rw [List.length_take,List.length_map]; omega
  have e0:((0:Int) != 0)=false:=rfl
  have hil:(ints pts).length=n:=by rw [List.length_map]; exact hnn.symm
  simp only [aD.g1,Go.Own.lt,dQ (show (i:Int)<(n:Int) by omega),cond_true,hil,Int.toNat_natCast,c1,c2,c3,Bool.and_self,aj,n1,List.length_replicate,ey,e,show Nat.beq 1 0=false from rfl,cond_false,e0,w2,List.drop_zero,hml,c4,eF (show (0:Int)≤((n - m:Nat):Int) by omega),hpad,EI,← hfl3,← hv,v1,v3,v4,w1]
  refine hK _ _ ⟨i+1,R',P',hlt,rfl,rfl,?_⟩ ?_
  ·refine Eq.mp (congrArg (Rows n _ _) (funext fun j=> ?_)) v5
   by_cases hj:j<n
   ·rw [if_pos hj,if_pos hj,if_pos hj,J7 hj,List.range_succ,List.map_append]; rfl
   ·rw [if_neg hj,if_neg hj,if_neg hj]
  ·show n - (((i+1:Nat):Int)).toNat<n - ((i:Int)).toNat
   omega
 ·have:i=n:=by omega
  subst this
  simp only [aD.g1,Go.Own.lt,dA (show ¬ (i:Int)<(i:Int) by omega),cond_false]
  exact ⟨trivial,trivial,R,P,rfl,hr⟩
theorem any_false {pts:List Nat} (hp:∀ p∈pts,p≤7):((ints pts).any fun x=>decide (x<0)||decide (7<x))=false:=by
 rw [List.any_eq_false]
 intro x hx
 obtain ⟨p,hp',rfl⟩:=List.mem_map.1 hx
 have:=hp p hp'
 rw [decide_eq_false (by omega),decide_eq_false (by omega)]; decide
theorem zG {pts:List Nat}:(ints pts).Nodup↔pts.Nodup:=by
 unfold List.Nodup ints
 rw [List.pairwise_map]
 exact ⟨fun h=>h.imp fun h2 e=>h2 (by rw [e]),fun h=>h.imp fun h2 e=>h2 (by omega)⟩
theorem KR {gx:Option dN} {q:Nat} [NeZero q] (h:Fld gx q) (hs:wR q) {pts:List Nat} (hp:∀ p∈pts,p≤7) (hd:pts.Nodup) (hn:pts.length≤8):
  ∃ F,Units q pts F∧aD.r gx (ints pts)=(true,yo F pts.length,0):=by
 obtain ⟨rq,inv,hR,hFd⟩:=h.field
 have ha:=KQ h.gt h.lt hs hp hd
 obtain ⟨F,hF⟩:=K3 h.gt ha
 refine ⟨F,hF,?_⟩
 have hil:(ints pts).length=pts.length:=List.length_map _
 obtain ⟨b,t1,t2⟩:=Cc (ints pts) (by rw [hil]; omega)
 have hb:b=false:=by
  cases b with
  |false=>rfl
  |true=>exact absurd (zG.2 hd) (t2.1 rfl)
 have O:=xK (ints pts) 0 (by rw [hil]; omega)
 rw [any_false hp] at O
 obtain ⟨v,hv⟩:∃ v,v=aD.l1 (gx,ints pts,(),0,(),(),(pts.length:Int),0,()) ((decide (pts.length=0),pts.map limbs),(false,List.replicate pts.length 0),[(3,[])],()):=⟨_,rfl⟩
 obtain ⟨v1,v2,R,P,v3,v4⟩:=Sk h hp hn ha hF _ hv
 have c1:(ile 0 (pts.length:Int)&&ile (pts.length:Int) (pts.length:Int))=true:=by rw [eF (by omega),eF (Int.le_refl _)]; rfl
 have c2:ile ((pts.length:Int)*((24:Nat):Int)) 70368744177664=true:=eF (by omega)
 have e1:([]:vN)++ [(3,[])]= [(3,[])]:=rfl
 have ew:(R.map fun r=>(P.getD r (0,[])).2)=yo F pts.length:=by
  rw [v4.all]
  unfold yo
  apply List.map_congr_left
  intro j hj
  rw [if_pos (List.mem_range.1 hj)]
 simp only [aD.r,aD.g,Go.Own.lt,hFd,aj,hR.oJ,cond_false,hil,dA (show ¬ (8:Int)<(pts.length:Int) by omega),O,t1,hb,Sl gx pts hp (by omega) [],e1,List.length_nil,Int.toNat_natCast,c1,c2,Bool.and_self,← hv,v1,v2,v3,show Nat.beq 3 0=false from rfl,ew]
theorem Iy {gx:Option dN} {q:Nat} (h:Fld gx q) {xs:List Int} (hl:xs.length≤1073741824) (hn:8<xs.length∨(∃ x∈xs,x<0∨7<x)∨¬ xs.Nodup):aD.r gx xs=(true,[],1):=by
 obtain ⟨rq,inv,hR,hFd⟩:=h.field
 have O:=xK xs 0 hl
 obtain ⟨b,t1,t2⟩:=Cc xs hl
 by_cases h8:8<xs.length
 ·simp only [aD.r,aD.g,Go.Own.lt,hFd,aj,hR.oJ,cond_false,dQ (show (8:Int)<(xs.length:Int) by omega),cond_true]
 ·cases ho:xs.any fun x=>decide (x<0)||decide (7<x) with
  |true=>
   rw [ho] at O
   simp only [aD.r,aD.g,Go.Own.lt,hFd,aj,hR.oJ,cond_false,dA (show ¬ (8:Int)<(xs.length:Int) by omega),O,cond_true]
  |false=>
   rw [ho] at O
   have hb:b=true:=by
    rcases hn with hn|⟨x,hx,hn⟩|hn
    ·exact absurd hn h8
    ·have:=List.any_eq_false.1 ho x hx
     rcases hn with hn|hn
     ·rw [decide_eq_true hn] at this; simp at this
     ·rw [decide_eq_true hn,Bool.or_true] at this; simp at this
    ·exact t2.2 hn
   simp only [aD.r,aD.g,Go.Own.lt,hFd,aj,hR.oJ,cond_false,dA (show ¬ (8:Int)<(xs.length:Int) by omega),O,t1,hb,cond_true]
end Go.Own
set_option linter.unusedVariables false
set_option linter.unusedSimpArgs false
namespace Go.Own
open Go.IntWalk
def wz (xs:List Int) (i k:Nat):Bool:=(List.range k).all fun t=>xs.getD t 0 != xs.getD i 0
theorem Ke (xs:List Int) (i k:Nat):wz xs i (k+1)=(wz xs i k&&(xs.getD k 0 != xs.getD i 0)):=by
 unfold wz; rw [List.range_succ,List.all_append]; simp
def wE (xs:List Int) (b:Bool) (j:Nat):Bool:=b&&(List.range j).all fun i=>(ile 0 (xs.getD i 0)&&ile (xs.getD i 0) 7)&&wz xs i i
theorem Kj (xs:List Int) (b:Bool) (j:Nat):wE xs b (j+1)=(wE xs b j&&((ile 0 (xs.getD j 0)&&ile (xs.getD j 0) 7)&&wz xs j j)):=by
 unfold wE; rw [List.range_succ,List.all_append,Bool.and_assoc]; simp
theorem OO {xs:List Int} {b:Bool}:wE xs b xs.length=true↔b=true∧(∀ x∈xs,0≤x∧x≤7)∧xs.Nodup:=by
 unfold wE wz
 simp only [Bool.and_eq_true,List.all_eq_true,List.mem_range,Jm,bne_iff_ne,ne_eq]
 constructor
 ·rintro ⟨h1,h2⟩
  refine ⟨h1,fun x hx=> ?_,?_⟩
  ·obtain ⟨i,hi,rfl⟩:=List.getElem_of_mem hx
   have:=(h2 i hi).1
   rw [getD_lt hi] at this; exact this
  ·refine List.pairwise_iff_getElem.2 fun i j hi hj hij=> ?_
   have:=(h2 j hj).2 i hij
   rw [getD_lt hi,getD_lt hj] at this; exact this
 ·rintro ⟨h1,h2,h3⟩
  refine ⟨h1,fun i hi=>⟨?_,fun t ht=> ?_⟩⟩
  ·rw [getD_lt hi]; exact h2 _ (List.getElem_mem _)
  ·have:=List.pairwise_iff_getElem.1 h3 t i (by omega) hi ht
   rw [getD_lt hi,getD_lt (show t<xs.length by omega)]; exact this
theorem IA (xs:List Int) (f:List (List Int)) (fl b:Bool) {i:Nat} (hi:i<xs.length) (hn:xs.length≤1073741824):
  ak.l1 (xs,f,fl,b,(i:Int),0,()) ()=(true,3,(xs,f,fl,(b&&wz xs i i),(i:Int),(i:Int),()),(),(),()):=by
 have key:ak.l1 (xs,f,fl,(b&&wz xs i 0),(i:Int),((0:Nat):Int),()) ()=(true,3,(xs,f,fl,(b&&wz xs i i),(i:Int),(i:Int),()),(),(),()):=by
  refine bO (g:=fun rq kn ke kr x y=>ak.g1 rq kn ke kr x y) i (fun k=>(xs,f,fl,(b&&wz xs i k),(i:Int),(k:Int),())) (fun _=>()) _ ?_ ?_ _ 0 (Nat.zero_le _) (by show i - 0<((i:Int) - ((0:Nat):Int)).toNat+1; omega)
  ·intro k R hk
   have w1:IntKind.i64.wrap ((k:Int)+1)=((k+1:Nat):Int):=i64_in _ (by omega)
   rw [Ke,← Bool.and_assoc]
   cases hb:(b&&wz xs i k) with
   |true=>simp only [ak.g1,Go.Own.lt,dQ (show (k:Int)<(i:Int) by omega),cond_true,CG (show k<xs.length by omega),CG hi,aj,Int.toNat_natCast,w1,Bool.true_and]
   |false=>simp only [ak.g1,Go.Own.lt,dQ (show (k:Int)<(i:Int) by omega),cond_true,cond_false,w1,Bool.false_and]
  ·intro R
   simp only [ak.g1,Go.Own.lt,dA (show ¬ (i:Int)<(i:Int) by omega),cond_false]
 have e:(b&&wz xs i 0)=b:=by unfold wz; simp
 rw [e] at key
 exact key
theorem NI (xs:List Int) (f:List (List Int)) (fl b:Bool) (hn:xs.length≤1073741824):
  ak.l0 (xs,f,fl,b,0,()) ()=(true,1,(xs,f,fl,wE xs b xs.length,(xs.length:Int),()),(),(),()):=by
 have key:ak.l0 (xs,f,fl,wE xs b 0,((0:Nat):Int),()) ()=(true,1,(xs,f,fl,wE xs b xs.length,(xs.length:Int),()),(),(),()):=by
  refine bO (g:=fun rq kn ke kr x y=>ak.g0 rq kn ke kr x y) xs.length (fun k=>(xs,f,fl,wE xs b k,(k:Int),())) (fun _=>()) _ ?_ ?_ _ 0 (Nat.zero_le _) (by show xs.length - 0<((xs.length:Int) - ((0:Nat):Int)).toNat+1; omega)
  ·intro k R hk
   have w1:IntKind.i64.wrap ((k:Int)+1)=((k+1:Nat):Int):=i64_in _ (by omega)
   rw [Kj]
   cases hb:wE xs b k with
   |false=>simp only [ak.g0,Go.Own.lt,dQ (show (k:Int)<(xs.length:Int) by omega),cond_true,cond_false,IA xs f fl false hk hn,aj,w1,Bool.false_and]
   |true=>
    cases h0:ile 0 (xs.getD k 0) with
    |false=>simp only [ak.g0,Go.Own.lt,dQ (show (k:Int)<(xs.length:Int) by omega),cond_true,cond_false,eF (show (0:Int)≤(k:Int) by omega),Bool.and_self,Int.toNat_natCast,h0,IA xs f fl false hk hn,aj,w1,Bool.false_and,Bool.true_and]
    |true=>simp only [ak.g0,Go.Own.lt,dQ (show (k:Int)<(xs.length:Int) by omega),cond_true,eF (show (0:Int)≤(k:Int) by omega),Bool.and_self,Int.toNat_natCast,h0,IA xs f fl _ hk hn,aj,w1,Bool.true_and]
  ·intro R
   simp only [ak.g0,Go.Own.lt,dA (show ¬ (xs.length:Int)<(xs.length:Int) by omega),cond_false]
 have e:wE xs b 0=b:=by unfold wE; simp
 rw [e] at key
 exact key
abbrev CW:Option dN:=some ((none,(none,())),([0,0,0,0],()))
theorem Gj (f:List (List Int)):di.r none f 3=(true,[],1):=by kernel_rfl
theorem Ci (f:List (List Int)):di.r CW f 3=(true,[],1):=by kernel_rfl
theorem xJ:bf.r none 0 [(1,([0,0,0,0],()))]=(true,0,1,(0,0,0,(true,[]))):=by kernel_rfl
theorem vO:bf.r CW 0 [(1,([0,0,0,0],()))]=(true,0,1,(0,0,0,(true,[]))):=by kernel_rfl
theorem xI:aD.r none []=(true,[],1):=by kernel_rfl
theorem vL:aD.r CW []=(true,[],1):=by kernel_rfl
theorem vM (xs:List Int) (f:List (List Int)):ak.r xs f=(true,true):=by
 by_cases h10:(10:Int)<(xs.length:Int)
 ·simp only [ak.r,ak.g,Go.Own.lt,dQ h10,cond_true,aU.iF,yc,aj]
 by_cases h8:(8:Int)<(f.length:Int)
 ·simp only [ak.r,ak.g,Go.Own.lt,dA h10,dQ h8,cond_true,cond_false,aU.iF,yc,aj]
 obtain ⟨q,gx,hq,hF,hs⟩:=IV 1
 have s7:wR q:=by rcases hq with rfl|rfl; exact Av; exact Au
 have hne:NeZero q:=⟨by have:=hF.gt; omega⟩
 have b10:((1:Int)== 0)=false:=rfl
 have b00:((0:Int)== 0)=true:=rfl
 have n11:((1:Int) != 1)=false:=rfl
 have n10:((1:Int) != 0)=true:=rfl
 have n00:((0:Int) != 0)=false:=rfl
 have i00:ilt 0 (0:Int)=false:=rfl
 have bff:(!(false== false))=false:=rfl
 have btt:(!(true== true))=false:=rfl
 have hm:=OO (xs:=xs) (b:=ile (xs.length:Int) 8)
 cases hmay:wE xs (ile (xs.length:Int) 8) xs.length with
 |true=>
  obtain ⟨a1,a2,a3⟩:=hm.1 hmay
  rw [Jm] at a1
  have ex:xs=ints (xs.map Int.toNat):=by
   unfold ints
   rw [List.map_map]
   exact ((List.map_congr_left fun x hx=>by
    have:=(a2 x hx).1
    show ((x.toNat:Nat):Int)=id x
    simp only [id]; omega).trans (List.map_id xs)).symm
  have hl:(xs.map Int.toNat).length=xs.length:=List.length_map _
  obtain ⟨F,hU,hW⟩:=KR hF s7 (pts:=xs.map Int.toNat) (fun p hp=>by
   obtain ⟨x,hx,rfl⟩:=List.mem_map.1 hp
   have:=a2 x hx; omega) (by rw [← zG,← ex]; exact a3) (by rw [hl]; omega)
  rw [← ex] at hW
  simp only [ak.r,ak.g,Go.Own.lt,dA h10,dA h8,cond_false,NI xs f false _ (show xs.length≤1073741824 by omega),hmay,aj,hs,Bool.not_true,hW,b00,btt,n00,Gj,xJ,xI,Ci,vO,vL,show Nat.beq 0 0=true from rfl,cond_true,List.length_nil,show ((0:Nat):Int)=0 from rfl,i00,n11,aU.iF,yc]
 |false=>
  have hW:aD.r gx xs=(true,[],1):=Iy hF (by omega) (by
   by_cases c1:8<xs.length
   ·exact .inl c1
   by_cases c2:∃ x∈xs,x<0∨7<x
   ·exact .inr (.inl c2)
   refine .inr (.inr fun c3=> ?_)
   have:=hm.2 ⟨eF (by omega),fun x hx=> ?_,c3⟩
   ·rw [this] at hmay; cases hmay
   ·have:¬ (x<0∨7<x):=fun h=>c2 ⟨x,hx,h⟩
    omega)
  simp only [ak.r,ak.g,Go.Own.lt,dA h10,dA h8,cond_false,NI xs f false _ (show xs.length≤1073741824 by omega),hmay,aj,hs,Bool.not_true,hW,b10,bff,n10,Gj,xJ,xI,Ci,vO,vL,show Nat.beq 0 0=true from rfl,cond_true,List.length_nil,show ((0:Nat):Int)=0 from rfl,i00,n11,aU.iF,yc]
theorem ak.pure (xs:List Int) (f:List (List Int)) (hx:Ty.ok (.sl (.int .i64)) xs) (hf:Ty.ok (.sl (.arr 4 (.int .u64))) f):ak.r xs f=(true,true):=vM xs f
end Go.Own
