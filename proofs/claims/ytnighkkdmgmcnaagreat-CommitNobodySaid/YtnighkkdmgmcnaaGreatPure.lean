/- What is proved: what the printed functions answer, in plain numbers and lists. Conditions: those that each theorem names. -/
import Derived.Test.YtnighkkdmgmcnaaGreatPure0
import Derived.Test.YtnighkkdmgmcnaaGreatG8
set_option linter.unusedVariables false
set_option linter.unusedSimpArgs false
set_option linter.unusedVariables false
set_option linter.unusedSimpArgs false
namespace Go.Own
open Go.IntWalk
def QK (n f w:Nat):Bool:=Nat.beq (n%2) 1&&Nat.blt 1 n&&Nat.blt n au&&Nat.blt 0 f&&Nat.blt f au&&Nat.ble 2 w&&Nat.blt w 65536&&Nat.beq ((n - 1)%f) 0&&Nat.blt n (f*f)&&Nat.beq (yG 256 (yG 256 w ((n - 1)/f) n) f n) 1&&Nat.beq (Nat.gcd ((yG 256 w ((n - 1)/f) n+(n - 1))%n) n) 1
theorem mK {a b:Nat} (h:Nat.blt a b=true):a<b:=Nat.le_of_ble_eq_true h
theorem qI {n f w:Nat} (h:QK n f w=true):Eb n f w:=by
 unfold QK at h
 simp only [Bool.and_eq_true] at h
 obtain ⟨⟨⟨⟨⟨⟨⟨⟨⟨⟨h1,h2⟩,h3⟩,h4⟩,h5⟩,h6⟩,h7⟩,h8⟩,h9⟩,h10⟩,h11⟩:=h
 have h3:=mK h3; have h5:=mK h5
 have e:(2:Nat)^256=au:=yZ.symm
 have hq:(n - 1)/f<2^256:=by rw [e]; exact Nat.lt_of_le_of_lt (Nat.div_le_self _ _) (Nat.lt_of_le_of_lt (Nat.sub_le _ _) h3)
 have h10:=Nat.eq_of_beq_eq_true h10; have h11:=Nat.eq_of_beq_eq_true h11
 rw [pX 256 _ _ _ hq,pX 256 _ _ _ (by rw [e]; exact h5)] at h10
 rw [pX 256 _ _ _ hq] at h11
 exact ⟨Nat.eq_of_beq_eq_true h1,mK h2,h3,mK h4,h5,Nat.le_of_ble_eq_true h6,mK h7,Nat.eq_of_beq_eq_true h8,mK h9,h10,h11⟩
abbrev bZ:Type:=((Option aH)×((Option aH)×Unit))×((List Int)×Unit)
def Grp (gv:bZ) (p q g:Nat):Prop:=∃ rp rq i1 i2,gv=((rp,(rq,())),(limbs g,()))∧Rng rp p i1 (au%p) (au*au%p)∧Rng rq q i2 (au%q) (au*au%q)
theorem Kg {ps:List (Nat×Nat)} {g p q w:Nat} (h2:2≤ps.length) (h8:ps.length≤8) (hc:fD.r (ps.map fG)=(true,0)) (hpp:p=(ps.getD (ps.length - 1) (0,0)).1) (hqq:q=(ps.getD (ps.length - 2) (0,0)).1)
  (hp:Eb p q w) (hqo:q%2=1) (hql:10≤bI q) (hg:g<p) (hg1:1<g) (hpow:g^q%p=1):
  ∃ gv,Grp gv p q g∧j3.r (ps.map fG,(limbs g,()))=(true,1,(none,0),(0,gv)):=by
 have hpl:=hp.lt
 have hq1:1<q:=by
  rcases Nat.lt_or_ge 1 q with h|h
  ·exact h
  ·have:bI q≤1:=by
    have:q=0∨q=1:=by omega
    rcases this with rfl|rfl<;>decide
   omega
 obtain ⟨rp,i1,hR,hN⟩:=OH p hpl hp.odd hp.gt
 obtain ⟨rq,i2,hR2,hN2⟩:=OH q hp.flt hqo hq1
 have n1:cB.r 1=(true,limbs 1):=by rw [qo _ (by decide)]; rfl
 have e0:((0:Int) != 0)=false:=rfl
 have g1:(ps.map fG).getD (ps.length - 1) ([0,0,0,0],(0,()))=fG (ps.getD (ps.length - 1) (0,0)):=getD_map (by omega)
 have g2:(ps.map fG).getD (ps.length - 2) ([0,0,0,0],(0,()))=fG (ps.getD (ps.length - 2) (0,0)):=getD_map (by omega)
 have w1:IntKind.i64.wrap ((ps.length:Int) - 1)=((ps.length - 1:Nat):Int):=by rw [i64_in _ (by omega)]; omega
 have w2:IntKind.i64.wrap ((ps.length:Int) - 2)=((ps.length - 2:Nat):Int):=by rw [i64_in _ (by omega)]; omega
 have hgW:g<au:=Nat.lt_trans hg hpl
 refine ⟨((rp,(rq,())),(limbs g,())),⟨rp,rq,i1,i2,rfl,hR,hR2⟩,?_⟩
 have i1:(ile 0 ((ps.length - 1:Nat):Int)&&ilt ((ps.length - 1:Nat):Int) (ps.length:Int))=true:=rng (by omega)
 have i2:(ile 0 ((ps.length - 2:Nat):Int)&&ilt ((ps.length - 2:Nat):Int) (ps.length:Int))=true:=rng (by omega)
 simp only [j3.r,j3.g,lt,List.length_map,d9 (show ¬ (ps.length:Int)<2 by omega),cond_false,hc,ak,e0,w1,w2,i1,i2,Int.toNat_natCast,g1,g2,zT,← hpp,← hqq,hN,hN2,OE q hp.flt,d9 (show ¬ (bI q:Int)<10 by omega),eqZ hgW,decide_eq_false (show ¬ g=0 by omega),n1,eqL hgW (show 1<au by decide),decide_eq_false (show ¬ g=1 by omega),Sg hR hgW,hg,decide_true,Bool.not_true,GQ hR hgW hp.flt,hpow,eqL (show 1<au by decide) (show 1<au by decide)]
def kH:List (Nat×Nat):= [(65521,0),(1966023127,2),(1055500680322183127,2)]
def bT:Nat:=316543771439780984
def fe:Nat:=1055500680322183127
def iX:Nat:=1966023127
theorem IZ:fD.r (kH.map fG)=(true,0):=by
 refine Kj (by decide) (by decide) (by decide) (by kernel_rfl) rfl ?_
 intro i hi
 have:i=0∨i=1:=by
  have:i+1<3:=hi
  omega
 rcases this with rfl|rfl
 ·exact qI (by kernel_rfl)
 ·exact qI (by kernel_rfl)
theorem Iu:∃ gv,Grp gv fe iX bT∧j3.r (kH.map fG,(limbs bT,()))=(true,1,(none,0),(0,gv)):=by
 have h1:Nat.blt iX (2^256)=true:=by kernel_rfl
 have h2:yG 256 bT iX fe=1:=by kernel_rfl
 have hpow:bT^iX%fe=1:=(pX 256 _ _ _ (mK h1)).symm.trans h2
 have h3:Nat.blt bT fe=true:=by kernel_rfl
 have h4:Nat.blt 1 bT=true:=by kernel_rfl
 have h5:Nat.ble 10 (bI iX)=true:=by kernel_rfl
 have h6:iX%2=1:=by kernel_rfl
 exact Kg (ps:=kH) (p:=fe) (q:=iX) (w:=2) (by decide) (by decide) IZ (by kernel_rfl) (by kernel_rfl) (qI (by kernel_rfl)) h6 (Nat.le_of_ble_eq_true h5) (mK h3) (mK h4) hpow
def kG:List (Nat×Nat):= [(64817,0),(1815135269,2),(487269091447081429,2)]
def iA:Nat:=54624333139524128
def nY:Nat:=487269091447081429
def lG:Nat:=1815135269
theorem IY:fD.r (kG.map fG)=(true,0):=by
 refine Kj (by decide) (by decide) (by decide) (by kernel_rfl) rfl ?_
 intro i hi
 have:i=0∨i=1:=by
  have:i+1<3:=hi
  omega
 rcases this with rfl|rfl
 ·exact qI (by kernel_rfl)
 ·exact qI (by kernel_rfl)
theorem Ir:∃ gv,Grp gv nY lG iA∧j3.r (kG.map fG,(limbs iA,()))=(true,1,(none,0),(0,gv)):=by
 have h1:Nat.blt lG (2^256)=true:=by kernel_rfl
 have h2:yG 256 iA lG nY=1:=by kernel_rfl
 have hpow:iA^lG%nY=1:=(pX 256 _ _ _ (mK h1)).symm.trans h2
 have h3:Nat.blt iA nY=true:=by kernel_rfl
 have h4:Nat.blt 1 iA=true:=by kernel_rfl
 have h5:Nat.ble 10 (bI lG)=true:=by kernel_rfl
 have h6:lG%2=1:=by kernel_rfl
 exact Kg (ps:=kG) (p:=nY) (q:=lG) (w:=2) (by decide) (by decide) IY (by kernel_rfl) (by kernel_rfl) (qI (by kernel_rfl)) h6 (Nat.le_of_ble_eq_true h5) (mK h3) (mK h4) hpow
end Go.Own
set_option linter.unusedVariables false
set_option linter.unusedSimpArgs false
namespace Go.Own
open Go.IntWalk
structure Fld (gx:Option bZ) (q:Nat):Prop where
 ex:∃ gv rq inv,gx=some gv∧gv.1.2.1=rq∧Rng rq q inv (au%q) (au*au%q)
theorem Grp.fld {gv:bZ} {p q g:Nat} (h:Grp gv p q g):Fld (some gv) q:=by
 obtain ⟨rp,rq,i1,i2,rfl,_,h2⟩:=h
 exact ⟨_,rq,i2,rfl,rfl,h2⟩
theorem Rng.vW {rx m inv one sq} (h:Rng rx m inv one sq):rx.isNone=false:=by rw [h.eq]; rfl
theorem Fld.field {gx:Option bZ} {q:Nat} (h:Fld gx q):∃ rq inv,Rng rq q inv (au%q) (au*au%q)∧aU.r gx=(true,rq):=by
 obtain ⟨gv,rq,inv,rfl,e,hR⟩:=h.ex
 refine ⟨rq,inv,hR,?_⟩
 simp only [aU.r,aU.g,lt,Option.isNone_some,cond_false,Option.getD_some,Option.isSome_some,ak,e]
theorem Fld.gt {gx:Option bZ} {q:Nat} (h:Fld gx q):1<q:=by obtain ⟨rq,inv,hR,_⟩:=h.field; exact hR.gt
theorem Fld.lt {gx:Option bZ} {q:Nat} (h:Fld gx q):q<au:=by obtain ⟨rq,inv,hR,_⟩:=h.field; exact hR.lt
theorem QG {gx:Option bZ} {q:Nat} (h:Fld gx q):fE.r gx=(true,limbs q):=by
 obtain ⟨rq,inv,hR,hF⟩:=h.field
 simp only [fE.r,fE.g,Go.Own.lt,hF,ak,TU hR]
theorem A7 {gx:Option bZ} {q:Nat} (h:Fld gx q) {a b:Nat} (ha:a<au) (hb:b<au):gJ.r gx (limbs a) (limbs b)=(true,limbs ((a+b)%q)):=by
 have:=h.gt
 simp only [gJ.r,gJ.g,Go.Own.lt,QG h,ak,OX a b q ha hb h.lt (by omega)]
theorem OU {gx:Option bZ} {q:Nat} (h:Fld gx q) {a b:Nat} (ha:a<au) (hb:b<au):mo.r gx (limbs a) (limbs b)=(true,limbs ((a%q+(q - b%q))%q)):=by
 have:=h.gt
 simp only [mo.r,mo.g,Go.Own.lt,QG h,ak,AR a b q ha hb h.lt (by omega)]
theorem AZ {gx:Option bZ} {q:Nat} (h:Fld gx q) {a b:Nat} (ha:a<au) (hb:b<au):gI.r gx (limbs a) (limbs b)=(true,limbs (a*b%q)):=by
 obtain ⟨rq,inv,hR,hF⟩:=h.field
 simp only [gI.r,gI.g,Go.Own.lt,hF,ak,Jf hR ha hb]
theorem Sk {gx:Option bZ} {q:Nat} (h:Fld gx q) {a:Nat} (ha:a<au) (hg:Nat.gcd a q=1):∃ s,OP a q s∧oJ.r gx (limbs a)=(true,limbs s):=by
 have h1:=h.gt
 rcases GJ a q ha h.lt (by omega) with ⟨_,s,hs,e⟩|⟨hn,_⟩
 ·refine ⟨s,hs,?_⟩
  have e0:((0:Int) != 0)=false:=rfl
  simp only [oJ.r,oJ.g,Go.Own.lt,QG h,ak,e,e0,cond_false]
 ·exact absurd hg hn
theorem fold_map {gx:Option bZ} {q:Nat} (h:Fld gx q) {x:Nat} (hx:x<au):∀ (l:List Nat) (w:Nat),w<au→(∀ a∈l,a<au)→(l.map limbs).foldl (iZ.step gx (limbs x)) (true,limbs w)=(true,limbs (l.foldl (fun w a=>(w*x%q+a)%q) w))
 | [],w,_,_=>rfl
 |a::l,w,hw,hl=>by
  have h0:0<q:=by have:=h.gt; omega
  have h1:w*x%q<au:=Nat.lt_trans (Nat.mod_lt _ h0) h.lt
  have h2:(w*x%q+a)%q<au:=Nat.lt_trans (Nat.mod_lt _ h0) h.lt
  have e:iZ.step gx (limbs x) (true,limbs w) (limbs a)=(true,limbs ((w*x%q+a)%q)):=by
   simp only [iZ.step,Go.Own.lt,AZ h hw hx,A7 h h1 (hl a (by simp)),Bool.and_self]
  show (l.map limbs).foldl _ (iZ.step gx (limbs x) (true,limbs w) (limbs a))=_
  rw [e,fold_map h hx l _ h2 fun b hb=>hl b (by simp [hb])]
  rfl
def evN (q:Nat) (f:List Nat) (x:Nat):Nat:=f.foldr (fun a w=>(w*x%q+a)%q) 0
theorem Na {f:List Nat}:∀ (l:List (List Int)),(∀ a∈l,a∈f.map limbs)→∃ l':List Nat,l=l'.map limbs∧∀ a∈l',a∈f
 | [],_=>⟨[],rfl,by simp⟩
 |a::l,h=>by
  obtain ⟨l',rfl,h2⟩:=Na l fun b hb=>h b (by simp [hb])
  obtain ⟨b,hb,rfl⟩:=List.mem_map.1 (h a (by simp))
  refine ⟨b::l',rfl,?_⟩
  intro c hc
  rcases List.mem_cons.1 hc with rfl|hc
  ·exact hb
  ·exact h2 c hc
theorem OV {gx:Option bZ} {q:Nat} (h:Fld gx q) {f:List Nat} {x:Nat} (hf:∀ a∈f,a<au) (hl:f.length≤9223372036854775807) (hx:x<au):iZ.r gx (f.map limbs) (limbs x)=(true,limbs (evN q f x)):=by
 unfold iZ.r
 have fo:∀ l':List Nat,(∀ a∈l',a∈f)→iZ.fold gx (limbs x) (l'.map limbs)=(true,limbs (l'.foldl (fun w a=>(w*x%q+a)%q) 0)):=by
  intro l' hl'
  have:=fold_map h hx l' 0 (by decide) fun a ha=>hf a (hl' a ha)
  rw [fq] at this
  exact this
 refine Prod.ext ?_ ?_
 ·refine @decide_eq_true _ (Classical.propDecidable _) ⟨by rw [List.length_map]; exact hl,?_⟩
  intro l hm
  obtain ⟨l',rfl,h2⟩:=Na l hm
  rw [fo l' h2]
 ·show (iZ.fold gx (limbs x) (f.map limbs).reverse).2=_
  rw [← List.map_reverse,fo f.reverse fun a ha=>List.mem_reverse.1 ha,List.foldl_reverse]
  rfl
theorem Ao {q:Nat} (hq:0<q) (f:List Nat) (x:Nat):evN q f x<q:=by
 cases f with
 |nil=>exact hq
 |cons a f=>exact Nat.mod_lt _ hq
theorem J9 {a:Nat} (ha:a<au):l9.r (limbs a)=(true,decide (a=0)):=by
 simp only [l9.r,l9.g,lt,eqZ ha]
def jf (f:List Nat) (k:Int):Nat:=if k<0 then 0 else f.getD k.toNat 0
theorem wG {f:List Nat} (hf:∀ a∈f,a<au) (k:Int):jf f k<au:=by
 unfold jf
 split
 ·decide
 ·rcases Nat.lt_or_ge k.toNat f.length with h|h
  ·exact hf _ (gV h)
  ·rw [List.getD_eq_getElem?_getD,List.getElem?_eq_none h]; decide
theorem OB (f:List Nat) (k:Int):mQ.r (f.map limbs) k=(true,limbs (jf f k)):=by
 simp only [mQ.r,mQ.g,lt,List.length_map]
 unfold jf
 by_cases h0:k<0
 ·rw [if_pos h0,dZ h0,fq]; rfl
 ·rw [if_neg h0,d9 h0]
  by_cases h1:(f.length:Int)≤k
  ·have z:f.getD k.toNat 0=0:=by rw [List.getD_eq_getElem?_getD,List.getElem?_eq_none (by omega)]; rfl
   rw [z,fq,dP h1]; rfl
  ·have g1:(f.map limbs).getD k.toNat [0,0,0,0]=limbs (f.getD k.toNat 0):=getD_map (by omega)
   simp only [tu h1,cond_false,g1,dP (show (0:Int)≤k by omega),dZ (show k<(f.length:Int) by omega),Bool.and_self,ak]
end Go.Own
set_option linter.unusedVariables false
set_option linter.unusedSimpArgs false
namespace Go.Own.Pol
section
variable {F:Type} [Lean.Grind.CommRing F]
def cf (l:List F) (n:Nat):F:=l.getD n 0
def ev (l:List F) (x:F):F:=l.foldr (fun a s=>s*x+a) 0
def PE (a b:List F):Prop:=∀ n,cf a n=cf b n
theorem PE.rfl' {a:List F}:PE a a:=fun _=>rfl
theorem PE.symm {a b:List F} (h:PE a b):PE b a:=fun n=>(h n).symm
theorem PE.trans {a b c:List F} (h:PE a b) (h2:PE b c):PE a c:=fun n=>(h n).trans (h2 n)
theorem iY (n:Nat):cf ([]:List F) n=0:=by simp [cf]
theorem lC (a:F) (l:List F):cf (a::l) 0=a:=rfl
theorem iW (a:F) (l:List F) (n:Nat):cf (a::l) (n+1)=cf l n:=by simp [cf]
theorem JX {l:List F} {x:F} (h:∀ n,cf l n=0):ev l x=0:=by
 induction l with
 |nil=>rfl
 |cons a l ih=>
  have h0:=h 0
  rw [lC] at h0
  have:=ih fun n=>by have:=h (n+1); rwa [iW] at this
  show ev l x*x+a=0
  rw [this,h0]; grind
theorem Am:∀ {a b:List F} {x:F},PE a b→ev a x=ev b x
 | [],b,x,h=>by rw [JX (l:=b) fun n=>by rw [← h n,iY]]; rfl
 |a::al,[],x,h=>by rw [JX (l:=a::al) fun n=>by rw [h n,iY]]; rfl
 |a::al,b::bs,x,h=>by
  have h0:a=b:=h 0
  have ih:=Am (a:=al) (b:=bs) (x:=x) fun n=>by have:=h (n+1); rwa [iW,iW] at this
  show ev al x*x+a=ev bs x*x+b
  rw [ih,h0]
def kJ:List F→List F→List F
 | [],b=>b
 |a::al,[]=>a::al
 |a::al,b::bs=>(a+b)::kJ al bs
theorem gQ:∀ (a b:List F) (n:Nat),cf (kJ a b) n=cf a n+cf b n
 | [],b,n=>by rw [iY]; simp only [kJ]; grind
 |a::al,[],n=>by rw [iY]; simp only [kJ]; grind
 |a::al,b::bs,0=>rfl
 |a::al,b::bs,n+1=>by simp only [kJ,iW]; exact gQ al bs n
theorem xJ:∀ (a b:List F) (x:F),ev (kJ a b) x=ev a x+ev b x
 | [],b,x=>by show ev b x=0+ev b x; grind
 |a::al,[],x=>by show ev (a::al) x=ev (a::al) x+0; grind
 |a::al,b::bs,x=>by
  have:=xJ al bs x
  show ev (kJ al bs) x*x+(a+b)=(ev al x*x+a)+(ev bs x*x+b)
  rw [this]; grind
def pR (c:F) (l:List F):List F:=l.map (c* ·)
theorem kS (c:F):∀ (l:List F) (n:Nat),cf (pR c l) n=c*cf l n
 | [],n=>by rw [iY]; show cf ([]:List F) n=_; rw [iY]; grind
 |a::l,0=>rfl
 |a::l,n+1=>by
  rw [iW,← kS c l n]
  exact iW _ _ _
theorem DL (c:F) (x:F):∀ (l:List F),ev (pR c l) x=c*ev l x
 | []=>by show (0:F)=c*0; grind
 |a::l=>by
  have:=DL c x l
  show ev (pR c l) x*x+c*a=c*(ev l x*x+a)
  rw [this]; grind
def Ml (a:F) (l:List F):List F:=kJ (0::l) (pR (-a) l)
theorem mI (a:F) (l:List F):cf (Ml a l) 0= -a*cf l 0:=by
 unfold Ml; rw [gQ,kS,lC]; grind
theorem kI (a:F) (l:List F) (n:Nat):cf (Ml a l) (n+1)=cf l n - a*cf l (n+1):=by
 unfold Ml; rw [gQ,kS,iW]; grind
theorem TK (a:F) (l:List F) (x:F):ev (Ml a l) x=(x - a)*ev l x:=by
 unfold Ml; rw [xJ,DL]
 show (ev l x*x+0)+_=_
 grind
theorem PE.M {a:F} {u v:List F} (h:PE u v):PE (Ml a u) (Ml a v):=by
 intro n
 cases n with
 |zero=>rw [mI,mI,h 0]
 |succ n=>rw [kI,kI,h n,h (n+1)]
theorem PE.add {a b c d:List F} (h:PE a b) (h2:PE c d):PE (kJ a c) (kJ b d):=fun n=>by rw [gQ,gQ,h n,h2 n]
theorem Ti (a:F) (u v:List F):PE (Ml a (kJ u v)) (kJ (Ml a u) (Ml a v)):=by
 intro n
 cases n with
 |zero=>rw [gQ,mI,mI,mI,gQ]; grind
 |succ n=>rw [gQ,kI,kI,kI,gQ,gQ]; grind
theorem Tg (a c:F) (u:List F):PE (Ml a (pR c u)) (pR c (Ml a u)):=by
 intro n
 cases n with
 |zero=>rw [kS,mI,mI,kS]; grind
 |succ n=>rw [kS,kI,kI,kS,kS]; grind
theorem M_M (a b:F) (u:List F):PE (Ml a (Ml b u)) (Ml b (Ml a u)):=by
 intro n
 match n with
 |0=>rw [mI,mI,mI,mI]; grind
 |1=>rw [kI a (Ml b u) 0,mI b u,kI b u 0,kI b (Ml a u) 0,mI a u,kI a u 0]; grind
 |n+2=>rw [kI,kI,kI,kI,kI,kI]; grind
def TL (xs:List F) (h:List F):List F:=xs.foldr Ml h
theorem PE.T {u v:List F} (h:PE u v):∀ {xs:List F},PE (TL xs u) (TL xs v)
 | []=>h
 |_::_=>(PE.T h).M
theorem Ea (xs:List F) (a:F) (h:List F):TL (xs++ [a]) h=TL xs (Ml a h):=by
 unfold TL; rw [List.foldr_append]; rfl
theorem QZ:∀ (xs:List F) (u v:List F),PE (TL xs (kJ u v)) (kJ (TL xs u) (TL xs v))
 | [],u,v=>PE.rfl'
 |x::xs,u,v=>(QZ xs u v).M.trans (Ti _ _ _)
theorem QY (c:F):∀ (xs:List F) (u:List F),PE (TL xs (pR c u)) (pR c (TL xs u))
 | [],u=>PE.rfl'
 |x::xs,u=>(QY c xs u).M.trans (Tg _ _ _)
theorem T_M (a:F):∀ (xs:List F) (u:List F),PE (TL xs (Ml a u)) (Ml a (TL xs u))
 | [],u=>PE.rfl'
 |x::xs,u=>(T_M a xs u).M.trans (M_M _ _ _)
def sP (xs:List F) (x:F):F:=xs.foldr (fun a s=>(x - a)*s) 1
theorem Ld (x:F):∀ (xs:List F) (h:List F),ev (TL xs h) x=sP xs x*ev h x
 | [],h=>by show ev h x=1*ev h x; grind
 |a::xs,h=>by
  show ev (Ml a (TL xs h)) x=(x - a)*sP xs x*ev h x
  rw [TK,Ld x xs h]; grind
def dv (a:F):List F→List F
 | []=> []
 | [_]=> []
 |_::b::t=>ev (b::t) a::dv a (b::t)
theorem IL (a:F):∀ l:List F,(dv a l).length=l.length - 1
 | []=>rfl
 | [_]=>rfl
 |_::b::t=>by
  have:=IL a (b::t)
  simp only [dv,List.length_cons] at this ⊢
  omega
theorem NP (a:F):∀ l:List F,PE l (kJ [ev l a] (Ml a (dv a l)))
 | []=>by
  intro n
  rw [gQ,iY]
  cases n with
  |zero=>rw [lC,mI]; show (0:F)=0+ -a*cf [] 0; rw [iY]; grind
  |succ n=>rw [iW,iY,kI]; show (0:F)=0+(cf [] n - a*cf [] (n+1)); rw [iY,iY]; grind
 | [c]=>by
  intro n
  rw [gQ]
  cases n with
  |zero=>rw [lC,lC,mI]; show c=(0*a+c)+ -a*cf [] 0; rw [iY]; grind
  |succ n=>rw [iW,iW,iY,kI]; show (0:F)=0+(cf [] n - a*cf [] (n+1)); rw [iY,iY]; grind
 |c::b::t=>by
  have ih:=NP a (b::t)
  intro n
  rw [gQ]
  have hd:dv a (c::b::t)=ev (b::t) a::dv a (b::t):=rfl
  cases n with
  |zero=>
   rw [lC,lC,mI,hd,lC]
   show c=(ev (b::t) a*a+c)+ -a*ev (b::t) a
   grind
  |succ n=>
   have hn:=ih n
   rw [gQ] at hn
   rw [iW,iW,iY,kI,hd,iW,hn]
   cases n with
   |zero=>rw [lC,lC,mI]; try grind
   |succ n=>rw [iW,iW,iY,kI]; try grind
theorem CV {f fk h base fk' base' xs:List F} {a y s c:F} (hf:PE f (kJ fk (TL xs h))) (hb:PE base (TL xs [1])) (hy:y=ev f a) (hs:s*ev base a=1) (hc:c=(y - ev fk a)*s)
  (h1:PE fk' (kJ fk (pR c base))) (h2:PE base' (Ml a base)):PE f (kJ fk' (TL (xs++ [a]) (dv a h)))∧PE base' (TL (xs++ [a]) [1]):=by
 have e1:ev f a=ev fk a+sP xs a*ev h a:=by rw [Am hf,xJ,Ld]
 have e2:ev base a=sP xs a:=by rw [Am hb,Ld]; show sP xs a*(0*a+1)=_; grind
 have e3:c=ev h a:=by rw [hc,hy,e1]; rw [e2] at hs; grind
 constructor
 ·intro n
  have k1:=(NP a h).T (xs:=xs) n
  have k2:=QZ xs [ev h a] (Ml a (dv a h)) n
  have k3:PE [ev h a] (pR (ev h a) [1]):=by
   intro n
   rw [kS]
   cases n with
   |zero=>rw [lC,lC]; grind
   |succ n=>rw [iW,iW,iY]; grind
  have k4:=(k3.T (xs:=xs)).trans (QY (ev h a) xs [1]) n
  rw [hf n,gQ,k1,k2,gQ,k4,kS,← hb n,gQ,h1 n,gQ,kS,e3,Ea]
  grind
 ·rw [Ea]
  exact h2.trans (hb.M.trans (T_M a xs [1]).symm)
theorem GD:∀ (xs:List F) (n:Nat),cf (TL xs []) n=0
 | [],n=>iY n
 |x::xs,n=>by
  show cf (Ml x (TL xs [])) n=0
  cases n with
  |zero=>rw [mI,GD xs]; grind
  |succ n=>rw [kI,GD xs,GD xs]; grind
theorem Ey {f fk h xs:List F} (hf:PE f (kJ fk (TL xs h))) (hh:h= []):PE f fk:=by
 intro n
 subst hh
 rw [hf n,gQ,GD]; grind
end
end Go.Own.Pol
set_option linter.unusedVariables false
set_option linter.unusedSimpArgs false
namespace Go.Own
open Go.IntWalk
def tl (l:List Nat):Nat→Nat
 |0=>0
 |n+1=>bif Nat.beq (l.getD n 0) 0 then tl l n else n+1
theorem Jo (l:List Nat):∀ n,tl l n≤n
 |0=>Nat.le_refl 0
 |n+1=>by
  have:=Jo l n
  simp only [tl]
  cases Nat.beq (l.getD n 0) 0
  ·exact Nat.le_refl _
  ·exact Nat.le_trans this (Nat.le_succ n)
theorem Jm (l:List Nat):∀ n k,tl l n≤k→k<n→l.getD k 0=0
 |0,k,_,h=>by omega
 |n+1,k,h1,h2=>by
  simp only [tl] at h1
  cases hb:Nat.beq (l.getD n 0) 0 with
  |false=>rw [hb] at h1; simp only [cond_false] at h1; omega
  |true=>
   rw [hb] at h1
   rcases Nat.lt_or_ge k n with h|h
   ·exact Jm l n k h1 h
   ·have:k=n:=by omega
    subst this
    exact Nat.eq_of_beq_eq_true hb
theorem Ew (l:List Nat) (d:Nat) (hz:∀ k,d≤k→l.getD k 0=0):∀ n,tl l n≤d
 |0=>Nat.zero_le d
 |n+1=>by
  simp only [tl]
  cases hb:Nat.beq (l.getD n 0) 0 with
  |true=>exact Ew l d hz n
  |false=>
   rcases Nat.lt_or_ge n d with h|h
   ·exact h
   ·rw [hz n h] at hb; exact absurd hb (by decide)
def qP (q:Nat) (l:List Nat):List Nat:=l.map (· %q)
def r9 (q:Nat) (l:List Nat):List Nat:=(qP q l).take (tl (qP q l) l.length)
theorem oW (q:Nat) (l:List Nat):(qP q l).length=l.length:=List.length_map _
theorem Pq {gx:Option bZ} {q:Nat} (h:Fld gx q) {l:List Nat}:∀ a∈qP q l,a<au:=by
 intro a ha
 obtain ⟨b,_,rfl⟩:=List.mem_map.1 ha
 exact Nat.lt_trans (Nat.mod_lt _ (by have:=h.gt; omega)) h.lt
theorem Qt {gx:Option bZ} {q:Nat} (h:Fld gx q) {l:List Nat} (hl:∀ a∈l,a<au) (hn:l.length≤1073741824):dV.l0 (gx,(),(),l.map limbs,(l.length:Int),0,()) ((true,[]),())=
  (true,1,(gx,(),(),l.map limbs,(l.length:Int),(l.length:Int),()),((decide (l.length=0),(qP q l).map limbs),()),(),()):=by
 have key:dV.l0 (gx,(),(),l.map limbs,(l.length:Int),((0:Nat):Int),()) ((decide (0=0),(l.take 0).map fun a=>limbs (a%q)),())=
  (true,1,(gx,(),(),l.map limbs,(l.length:Int),(l.length:Int),()),((decide (l.length=0),(l.take l.length).map fun a=>limbs (a%q)),()),(),()):=by
  refine bP (g:=fun rq kn ke kr x y=>dV.g0 rq kn ke kr x y) l.length (fun j=>(gx,(),(),l.map limbs,(l.length:Int),(j:Int),())) (fun j=>((decide (j=0),(l.take j).map fun a=>limbs (a%q)),())) _ ?_ ?_ _ 0 (Nat.zero_le _) (by show l.length - 0<((l.length:Int) - ((0:Nat):Int)).toNat+1; omega)
  ·intro j R hj
   have g1:(l.map limbs).getD j [0,0,0,0]=limbs (l.getD j 0):=getD_map hj
   have fa:=A7 h (hl _ (gV hj)) (show 0<au by decide)
   rw [fq,Nat.add_zero] at fa
   have c1:nle ((2*((l.take j).length+1)+512)*32) 70368744177664=true:=pY (by rw [List.length_take]; omega)
   have s1:((l.take j).map fun a=>limbs (a%q))++ [limbs (l.getD j 0%q)]=(l.take (j+1)).map fun a=>limbs (a%q):=jV (f:=fun a=>limbs (a%q)) hj
   have d1:decide (j+1=0)=false:=decide_eq_false (by omega)
   have w1:IntKind.i64.wrap ((j:Int)+1)=((j+1:Nat):Int):=i64_in _ (by omega)
   simp only [dV.g0,Go.Own.lt,dZ (show (j:Int)<(l.length:Int) by omega),dP (show (0:Int)≤(j:Int) by omega),Bool.and_true,cond_true,Int.toNat_natCast,g1,List.length_map,ak,fa,Bool.and_false,s1,c1,w1,d1]
  ·intro R
   simp only [dV.g0,Go.Own.lt,d9 (show ¬ (l.length:Int)<(l.length:Int) by omega),cond_false]
 have e:(qP q l).map limbs=l.map fun a=>limbs (a%q):=by unfold qP; rw [List.map_map]; rfl
 rw [List.take_length] at key
 rw [e]
 exact key
theorem Qs {L:List Nat} (hL:∀ a∈L,a<au) (hn:L.length≤1073741824) (fl:Bool):dV.l1 ((),(0,L.length),()) ((fl,L.map limbs),())=(true,3,((),(0,tl L L.length),()),((fl,L.map limbs),()),(),()):=by
 obtain ⟨w,hw⟩:∃ w,w=dV.l1 ((),(0,L.length),()) ((fl,L.map limbs),()):=⟨_,rfl⟩
 rw [← hw]
 refine jo (g:=fun rq kn ke kr x y=>dV.g1 rq kn ke kr x y) hw (fun x y=>∃ n,n≤L.length∧tl L n=tl L L.length∧x=((),(0,n),())∧y=((fl,L.map limbs),())) (fun x y=>x.2.1.2) ⟨_,Nat.le_refl _,rfl,rfl,rfl⟩ (by show L.length<((L.length:Int) - (0:Int)).toNat+1; omega)
  (Q:=fun w=>w=(true,3,((),(0,tl L L.length),()),((fl,L.map limbs),()),(),())) ?_
 rintro x y R ⟨n,hn1,ht,rfl,rfl⟩ hR
 cases n with
 |zero=>
  simp only [dV.g1,Go.Own.lt,d9 (show ¬ (0:Int)<((0:Nat):Int) by omega),cond_false,← ht]
  rfl
 |succ n=>
  have w1:IntKind.i64.wrap (((n+1:Nat):Int) - 1)=(n:Int):=by rw [i64_in _ (by omega)]; omega
  have g1:(L.map limbs).getD n [0,0,0,0]=limbs (L.getD n 0):=getD_map (by omega)
  have b1:decide (L.getD n 0=0)=Nat.beq (L.getD n 0) 0:=by
   cases L.getD n 0<;>rfl
  simp only [dV.g1,Go.Own.lt,dZ (show (0:Int)<((n+1:Nat):Int) by omega),cond_true,w1,Int.toNat_natCast,Nat.zero_add,dP (show (0:Int)≤(n:Int) by omega),dZ (show (n:Int)<((n+1:Nat):Int) by omega),dP (show (n:Int)≤((n+1:Nat):Int) by omega),Bool.and_self,ak,g1,J9 (hL _ (gV (show n<L.length by omega))),b1]
  simp only [tl] at ht
  cases hb:Nat.beq (L.getD n 0) 0 with
  |true=>
   rw [hb] at ht
   simp only [cond_true] at ht ⊢
   exact hR _ _ ⟨n,by omega,ht,rfl,rfl⟩ (by show n<n+1; omega)
  |false=>
   rw [hb] at ht
   simp only [cond_false] at ht ⊢
   rw [← ht]
theorem D8 {gx:Option bZ} {q:Nat} (h:Fld gx q) {l:List Nat} (hl:∀ a∈l,a<au) (hn:l.length≤1073741824):dV.r gx (l.map limbs)=(true,1,(),(0,tl (qP q l) l.length,(decide (l.length=0),(qP q l).map limbs))):=by
 obtain ⟨rq,inv,hR,hF⟩:=h.field
 have e:=Qs (Pq h (l:=l)) (by rw [oW]; exact hn) (decide (l.length=0))
 rw [oW] at e
 simp only [dV.r,dV.g,Go.Own.lt,hF,ak,hR.vW,cond_false,List.length_map,Qt h hl hn,oW,e]
theorem o9 {gx:Option bZ} {q:Nat} (h:Fld gx q) {β:Type} (f:Nat→β) (j:Nat):(List.range j).map f++ [f j]=(List.range (j+1)).map f:=by
 rw [List.range_succ,List.map_append]; rfl
theorem Lv {gx:Option bZ} {q:Nat} (h:Fld gx q) {f:List Nat} (hf:∀ a∈f,a<au) {by':Nat} (hb:by'<au) (k:Nat) (hk:k≤1073741824):jZ.r (k:Int) gx (f.map limbs) 0 (limbs by')=(true,limbs (jf f (k:Int)*by'%q),gx,f.map limbs,0,limbs by'):=by
 have w1:IntKind.i64.wrap ((k:Int) - 0)=(k:Int):=by rw [Int.sub_zero]; exact sD _ (by omega)
 simp only [jZ.r,jZ.g,Go.Own.lt,w1,OB,ak,AZ h (wG hf _) hb]
def zu (q:Nat) (f:List Nat) (c:Nat):List Nat:=(List.range f.length).map fun (k:Nat)=>jf f (k:Int)*c%q
theorem QB {gx:Option bZ} {q:Nat} (h:Fld gx q) {f:List Nat} (hf:∀ a∈f,a<au) {by':Nat} (hb:by'<au) (hn:f.length≤1073741824):jr.l0 (gx,(),(),(),(f.length:Int),0,()) ((true,[]),gx,f.map limbs,0,limbs by',())=
  (true,1,(gx,(),(),(),(f.length:Int),(f.length:Int),()),((decide (f.length=0),(zu q f by').map limbs),gx,f.map limbs,0,limbs by',()),(),()):=by
 have key:jr.l0 (gx,(),(),(),(f.length:Int),((0:Nat):Int),()) ((decide (0=0),(List.range 0).map fun (k:Nat)=>limbs (jf f (k:Int)*by'%q)),gx,f.map limbs,0,limbs by',())=
  (true,1,(gx,(),(),(),(f.length:Int),(f.length:Int),()),((decide (f.length=0),(List.range f.length).map fun (k:Nat)=>limbs (jf f (k:Int)*by'%q)),gx,f.map limbs,0,limbs by',()),(),()):=by
  refine bP (g:=fun rq kn ke kr x y=>jr.g0 rq kn ke kr x y) f.length (fun j=>(gx,(),(),(),(f.length:Int),(j:Int),())) (fun j=>((decide (j=0),(List.range j).map fun (k:Nat)=>limbs (jf f (k:Int)*by'%q)),gx,f.map limbs,0,limbs by',())) _ ?_ ?_ _ 0 (Nat.zero_le _) (by show f.length - 0<((f.length:Int) - ((0:Nat):Int)).toNat+1; omega)
  ·intro j R hj
   have c1:nle ((2*(j+1)+512)*32) 70368744177664=true:=pY (by omega)
   have s1:=o9 h (fun (k:Nat)=>limbs (jf f (k:Int)*by'%q)) j
   have d1:decide (j+1=0)=false:=decide_eq_false (by omega)
   have w1:IntKind.i64.wrap ((j:Int)+1)=((j+1:Nat):Int):=i64_in _ (by omega)
   simp only [jr.g0,Go.Own.lt,dZ (show (j:Int)<(f.length:Int) by omega),cond_true,Lv h hf hb j (by omega),ak,Bool.and_false,s1,List.length_map,List.length_range,c1,w1,d1]
  ·intro R
   simp only [jr.g0,Go.Own.lt,d9 (show ¬ (f.length:Int)<(f.length:Int) by omega),cond_false]
 have e:(zu q f by').map limbs=(List.range f.length).map fun (k:Nat)=>limbs (jf f (k:Int)*by'%q):=by unfold zu; rw [List.map_map]; rfl
 rw [e]
 exact key
theorem SI {gx:Option bZ} {q:Nat} (h:Fld gx q) {f:Nat→Nat} {n:Nat}:∀ a∈(List.range n).map fun k=>f k%q,a<au:=by
 intro a ha
 obtain ⟨b,_,rfl⟩:=List.mem_map.1 ha
 exact Nat.lt_trans (Nat.mod_lt _ (by have:=h.gt; omega)) h.lt
theorem Pj {gx:Option bZ} {q:Nat} (h:Fld gx q) {f:List Nat} {c:Nat}:∀ a∈zu q f c,a<au:=SI h (f:=fun (k:Nat)=>jf f (k:Int)*c) (n:=f.length)
theorem vO {q:Nat} {f:List Nat} {c:Nat}:(zu q f c).length=f.length:=by unfold zu; simp
theorem Om {gx:Option bZ} {q:Nat} (h:Fld gx q) {f:List Nat} (hf:∀ a∈f,a<au) {by':Nat} (hb:by'<au) (hn:f.length≤1073741824):mg.r gx (f.map limbs) (limbs by') 0=(true,(r9 q (zu q f by')).map limbs):=by
 have w1:IntKind.i64.wrap ((f.length:Int)+0)=(f.length:Int):=by rw [Int.add_zero]; exact sD _ (by omega)
 have e:=D8 h (Pj h (f:=f) (c:=by')) (by rw [vO]; exact hn)
 rw [vO] at e
 simp only [mg.r,mg.g,jr.r,jr.g,Go.Own.lt,List.length_map,w1,QB h hf hb hn,ak,e,show Nat.beq 1 0=false from rfl,cond_false,List.drop_zero]
 unfold r9
 rw [vO,List.map_take]
def addN (q:Nat) (a b:List Nat):List Nat:=(List.range (max a.length b.length)).map fun (k:Nat)=>(jf a (k:Int)+jf b (k:Int))%q
theorem AQ {q:Nat} {a b:List Nat}:(addN q a b).length=max a.length b.length:=by unfold addN; simp
theorem Qr {gx:Option bZ} {q:Nat} (h:Fld gx q) {a b:List Nat}:∀ x∈addN q a b,x<au:=SI h (f:=fun (k:Nat)=>jf a (k:Int)+jf b (k:Int)) (n:=max a.length b.length)
theorem Sl {gx:Option bZ} {q:Nat} (h:Fld gx q) {a b:List Nat} (ha:∀ x∈a,x<au) (hb:∀ x∈b,x<au) (k:Nat):nJ.r (k:Int) gx (a.map limbs) (b.map limbs)=(true,limbs ((jf a (k:Int)+jf b (k:Int))%q),gx,a.map limbs,b.map limbs):=by
 simp only [nJ.r,nJ.g,Go.Own.lt,OB,ak,A7 h (wG ha _) (wG hb _)]
theorem OO {gx:Option bZ} {q:Nat} (h:Fld gx q) {a b:List Nat} (ha:∀ x∈a,x<au) (hb:∀ x∈b,x<au) {n:Nat} (hn:n≤1073741824):gF.l0 (gx,(),(),(),(n:Int),0,()) ((true,[]),gx,a.map limbs,b.map limbs,())=
  (true,1,(gx,(),(),(),(n:Int),(n:Int),()),((decide (n=0),(List.range n).map fun (k:Nat)=>limbs ((jf a (k:Int)+jf b (k:Int))%q)),gx,a.map limbs,b.map limbs,()),(),()):=by
 have key:gF.l0 (gx,(),(),(),(n:Int),((0:Nat):Int),()) ((decide (0=0),(List.range 0).map fun (k:Nat)=>limbs ((jf a (k:Int)+jf b (k:Int))%q)),gx,a.map limbs,b.map limbs,())=
  (true,1,(gx,(),(),(),(n:Int),(n:Int),()),((decide (n=0),(List.range n).map fun (k:Nat)=>limbs ((jf a (k:Int)+jf b (k:Int))%q)),gx,a.map limbs,b.map limbs,()),(),()):=by
  refine bP (g:=fun rq kn ke kr x y=>gF.g0 rq kn ke kr x y) n (fun j=>(gx,(),(),(),(n:Int),(j:Int),())) (fun j=>((decide (j=0),(List.range j).map fun (k:Nat)=>limbs ((jf a (k:Int)+jf b (k:Int))%q)),gx,a.map limbs,b.map limbs,())) _ ?_ ?_ _ 0 (Nat.zero_le _) (by show n - 0<((n:Int) - ((0:Nat):Int)).toNat+1; omega)
  ·intro j R hj
   have c1:nle ((2*(j+1)+512)*32) 70368744177664=true:=pY (by omega)
   have s1:=o9 h (fun (k:Nat)=>limbs ((jf a (k:Int)+jf b (k:Int))%q)) j
   have d1:decide (j+1=0)=false:=decide_eq_false (by omega)
   have w1:IntKind.i64.wrap ((j:Int)+1)=((j+1:Nat):Int):=i64_in _ (by omega)
   simp only [gF.g0,Go.Own.lt,dZ (show (j:Int)<(n:Int) by omega),cond_true,Sl h ha hb j,ak,Bool.and_false,s1,List.length_map,List.length_range,c1,w1,d1]
  ·intro R
   simp only [gF.g0,Go.Own.lt,d9 (show ¬ (n:Int)<(n:Int) by omega),cond_false]
 exact key
theorem R9 {gx:Option bZ} {q:Nat} (h:Fld gx q) {a b:List Nat} (ha:∀ x∈a,x<au) (hb:∀ x∈b,x<au) (hna:a.length≤1073741824) (hnb:b.length≤1073741824):rA.r gx (a.map limbs) (b.map limbs)=(true,1,(),(0,tl (qP q (addN q a b)) (addN q a b).length,(decide ((addN q a b).length=0),(qP q (addN q a b)).map limbs))):=by
 have e:=D8 h (Qr h (a:=a) (b:=b)) (by rw [AQ]; omega)
 have m1:((if a.length<b.length then b.length else a.length:Nat):Int)=((max a.length b.length:Nat):Int):=by
  congr 1; split<;>omega
 have ml:=OO h ha hb (n:=max a.length b.length) (by omega)
 have e2:(addN q a b).map limbs=(List.range (max a.length b.length)).map fun (k:Nat)=>limbs ((jf a (k:Int)+jf b (k:Int))%q):=by unfold addN; rw [List.map_map]; rfl
 rw [← e2] at ml
 simp only [rA.r,rA.g,gF.r,gF.g,Go.Own.lt,List.length_map,J4,m1,ml,ak,e,show Nat.beq 1 0=false from rfl,cond_false]
def mulC (q:Nat) (a b:List Nat) (k n:Nat):Nat:=(List.range n).foldl (fun (s:Nat) (i:Nat)=>(s+jf a (i:Int)*jf b ((k:Int) - (i:Int))%q)%q) 0
theorem BP {gx:Option bZ} {q:Nat} (h:Fld gx q) {a b:List Nat} {k n:Nat}:mulC q a b k (n+1)=(mulC q a b k n+jf a (n:Int)*jf b ((k:Int) - (n:Int))%q)%q:=by
 unfold mulC; rw [List.range_succ,List.foldl_append]; rfl
theorem JF {gx:Option bZ} {q:Nat} (h:Fld gx q) {a b:List Nat} {k n:Nat}:mulC q a b k n<q:=by
 cases n with
 |zero=>have:=h.gt; show 0<q; omega
 |succ n=>rw [BP h]; exact Nat.mod_lt _ (by have:=h.gt; omega)
theorem QA {gx:Option bZ} {q:Nat} (h:Fld gx q) {a b:List Nat} (ha:∀ x∈a,x<au) (hb:∀ x∈b,x<au) {k:Nat} (hk:k≤1073741824) (hn:a.length≤1073741824):iG.r (k:Int) (a.map limbs) gx (b.map limbs)=(true,limbs (mulC q a b k a.length),a.map limbs,gx,b.map limbs):=by
 have key:iG.l0 ((k:Int),(),(),(),(),(),(a.length:Int),((0:Nat):Int),()) ([0,0,0,0],limbs (mulC q a b k 0),a.map limbs,gx,b.map limbs,())=
  (true,1,((k:Int),(),(),(),(),(),(a.length:Int),(a.length:Int),()),([0,0,0,0],limbs (mulC q a b k a.length),a.map limbs,gx,b.map limbs,()),(),()):=by
  refine bP (g:=fun rq kn ke kr x y=>iG.g0 rq kn ke kr x y) a.length (fun j=>((k:Int),(),(),(),(),(),(a.length:Int),(j:Int),())) (fun j=>([0,0,0,0],limbs (mulC q a b k j),a.map limbs,gx,b.map limbs,())) _ ?_ ?_ _ 0 (Nat.zero_le _) (by show a.length - 0<((a.length:Int) - ((0:Nat):Int)).toNat+1; omega)
  ·intro j R hj
   have g1:(a.map limbs).getD j [0,0,0,0]=limbs (a.getD j 0):=getD_map hj
   have g2:a.getD j 0=jf a (j:Int):=by unfold jf; rw [if_neg (by omega)]; rfl
   have w0:IntKind.i64.wrap ((k:Int) - (j:Int))=(k:Int) - (j:Int):=i64_in _ (by omega)
   have w1:IntKind.i64.wrap ((j:Int)+1)=((j+1:Nat):Int):=i64_in _ (by omega)
   have f1:=AZ h (wG ha (j:Int)) (wG hb ((k:Int) - (j:Int)))
   have f2:=A7 h (a:=mulC q a b k j) (b:=jf a (j:Int)*jf b ((k:Int) - (j:Int))%q) (Nat.lt_trans (JF h) h.lt) (Nat.lt_trans (Nat.mod_lt _ (by have:=h.gt; omega)) h.lt)
   rw [← BP h] at f2
   simp only [iG.g0,Go.Own.lt,dZ (show (j:Int)<(a.length:Int) by omega),dP (show (0:Int)≤(j:Int) by omega),cond_true,Bool.and_self,Int.toNat_natCast,List.length_map,ak,g1,g2,w0,OB,f1,f2,w1]
  ·intro R
   simp only [iG.g0,Go.Own.lt,d9 (show ¬ (a.length:Int)<(a.length:Int) by omega),cond_false]
 have e0:limbs (mulC q a b k 0)= [0,0,0,0]:=fq
 rw [e0] at key
 have k2:iG.l0 ((k:Int),(),(),(),(),(),(a.length:Int),0,()) ([0,0,0,0],[0,0,0,0],a.map limbs,gx,b.map limbs,())=_:=key
 simp only [iG.r,iG.g,Go.Own.lt,List.length_map,k2,ak]
def mulN (q:Nat) (a b:List Nat):List Nat:=(List.range (a.length+b.length)).map fun k=>mulC q a b k a.length
theorem Fv {q:Nat} {a b:List Nat}:(mulN q a b).length=a.length+b.length:=by unfold mulN; simp
theorem PL {gx:Option bZ} {q:Nat} (h:Fld gx q) {a b:List Nat}:∀ x∈mulN q a b,x<au:=by
 intro x hx
 obtain ⟨k,_,rfl⟩:=List.mem_map.1 hx
 exact Nat.lt_trans (JF h) h.lt
theorem OM {gx:Option bZ} {q:Nat} (h:Fld gx q) {a b:List Nat} (ha:∀ x∈a,x<au) (hb:∀ x∈b,x<au) {n:Nat} (hn:n≤1073741824) (hna:a.length≤1073741824):gD.l0 (gx,(),(),(),(n:Int),0,()) ((true,[]),a.map limbs,gx,b.map limbs,())=
  (true,1,(gx,(),(),(),(n:Int),(n:Int),()),((decide (n=0),(List.range n).map fun (k:Nat)=>limbs (mulC q a b k a.length)),a.map limbs,gx,b.map limbs,()),(),()):=by
 have key:gD.l0 (gx,(),(),(),(n:Int),((0:Nat):Int),()) ((decide (0=0),(List.range 0).map fun (k:Nat)=>limbs (mulC q a b k a.length)),a.map limbs,gx,b.map limbs,())=
  (true,1,(gx,(),(),(),(n:Int),(n:Int),()),((decide (n=0),(List.range n).map fun (k:Nat)=>limbs (mulC q a b k a.length)),a.map limbs,gx,b.map limbs,()),(),()):=by
  refine bP (g:=fun rq kn ke kr x y=>gD.g0 rq kn ke kr x y) n (fun j=>(gx,(),(),(),(n:Int),(j:Int),())) (fun j=>((decide (j=0),(List.range j).map fun (k:Nat)=>limbs (mulC q a b k a.length)),a.map limbs,gx,b.map limbs,())) _ ?_ ?_ _ 0 (Nat.zero_le _) (by show n - 0<((n:Int) - ((0:Nat):Int)).toNat+1; omega)
  ·intro j R hj
   have c1:nle ((2*(j+1)+512)*32) 70368744177664=true:=pY (by omega)
   have s1:=o9 h (fun (k:Nat)=>limbs (mulC q a b k a.length)) j
   have d1:decide (j+1=0)=false:=decide_eq_false (by omega)
   have w1:IntKind.i64.wrap ((j:Int)+1)=((j+1:Nat):Int):=i64_in _ (by omega)
   simp only [gD.g0,Go.Own.lt,dZ (show (j:Int)<(n:Int) by omega),cond_true,QA h ha hb (show j≤1073741824 by omega) hna,ak,Bool.and_false,s1,List.length_map,List.length_range,c1,w1,d1]
  ·intro R
   simp only [gD.g0,Go.Own.lt,d9 (show ¬ (n:Int)<(n:Int) by omega),cond_false]
 exact key
theorem R5 {gx:Option bZ} {q:Nat} (h:Fld gx q) {a b:List Nat} (ha:∀ x∈a,x<au) (hb:∀ x∈b,x<au) (hn:a.length+b.length≤1073741824):pM.r gx (a.map limbs) (b.map limbs)=(true,(r9 q (mulN q a b)).map limbs):=by
 have e:=D8 h (PL h (a:=a) (b:=b)) (by rw [Fv]; omega)
 have ml:=OM h ha hb (n:=a.length+b.length) hn (by omega)
 have e2:(mulN q a b).map limbs=(List.range (a.length+b.length)).map fun (k:Nat)=>limbs (mulC q a b k a.length):=by unfold mulN; rw [List.map_map]; rfl
 rw [← e2] at ml
 have w1:IntKind.i64.wrap ((a.length:Int)+(b.length:Int))=((a.length+b.length:Nat):Int):=i64_in _ (by omega)
 simp only [pM.r,pM.g,gD.r,gD.g,Go.Own.lt,List.length_map,w1,ml,ak,e,show Nat.beq 1 0=false from rfl,cond_false,List.drop_zero]
 unfold r9
 rw [List.map_take]
end Go.Own
set_option linter.unusedVariables false
set_option linter.unusedSimpArgs false
namespace Go.Own
open Go.IntWalk
section
variable {q:Nat} [NeZero q]
def fz (q:Nat) [NeZero q] (n:Nat):Fin q:=Fin.ofNat q n
theorem mF (a:Nat):fz q (a%q)=fz q a:=by unfold fz; simp [Fin.ext_iff]
theorem rR (a b:Nat):fz q (a+b)=fz q a+fz q b:=by unfold fz; simp [Fin.ext_iff,Fin.val_add]
theorem vB (a b:Nat):fz q (a*b)=fz q a*fz q b:=by unfold fz; simp [Fin.ext_iff,Fin.val_mul,Nat.mul_mod]
theorem lu:fz q 0=0:=rfl
theorem IE:fz q 1=1:=rfl
theorem TJ:fz q q=0:=by unfold fz; simp [Fin.ext_iff]
theorem Nz (a:Nat):(fz q a).val=a%q:=rfl
theorem NC {a b:Nat} (h:fz q a=fz q b):a%q=b%q:=congrArg Fin.val h
theorem NA {a b:Nat}:fz q ((a%q+(q - b%q))%q)=fz q a - fz q b:=by
 have hq:0<q:=Nat.pos_of_ne_zero (NeZero.ne q)
 have h1:=Nat.mod_lt b hq
 have h2:fz q (q - b%q)+fz q b=0:=by
  rw [← mF b,← rR,Nat.sub_add_cancel (Nat.le_of_lt h1),TJ]
 rw [mF,rR,mF]
 grind
def toF (q:Nat) [NeZero q] (l:List Nat):List (Fin q):=l.map (fz q)
theorem j4 (l:List Nat) (n:Nat):Pol.cf (toF q l) n=fz q (l.getD n 0):=by
 unfold Pol.cf toF
 rcases Nat.lt_or_ge n l.length with h|h
 ·exact getD_map h
 ·rw [List.getD_eq_getElem?_getD,List.getElem?_eq_none (by simpa using h),List.getD_eq_getElem?_getD,List.getElem?_eq_none h]; rfl
theorem vC (f:List Nat) (x:Nat):fz q (evN q f x)=Pol.ev (toF q f) (fz q x):=by
 induction f with
 |nil=>rfl
 |cons a f ih=>
  show fz q ((evN q f x*x%q+a)%q)=Pol.ev (toF q f) (fz q x)*fz q x+fz q a
  rw [mF,rR,mF,vB,ih]
theorem DT (f:List Nat) (n:Nat):jf f (n:Int)=f.getD n 0:=by unfold jf; rw [if_neg (by omega)]; rfl
theorem je {l:List Nat} {n:Nat} (h:l.length≤n):l.getD n 0=0:=by rw [List.getD_eq_getElem?_getD,List.getElem?_eq_none h]; rfl
theorem Qb (l:List Nat) (n:Nat):fz q ((qP q l).getD n 0)=fz q (l.getD n 0):=by
 rcases Nat.lt_or_ge n l.length with h|h
 ·have:(qP q l).getD n 0=l.getD n 0%q:=getD_map h
  rw [this,mF]
 ·rw [je (by rw [oW]; exact h),je h]
theorem getD_take {l:List Nat} {m n:Nat}:(l.take m).getD n 0=if n<m then l.getD n 0 else 0:=by
 simp only [List.getD_eq_getElem?_getD,List.getElem?_take]
 split<;>rfl
theorem Jq {L:List Nat} {n:Nat}:(L.take (tl L L.length)).getD n 0=L.getD n 0:=by
 rw [getD_take]
 split
 ·rfl
 ·rename_i h
  rcases Nat.lt_or_ge n L.length with h2|h2
  ·exact (Jm L L.length n (by omega) h2).symm
  ·exact (je h2).symm
theorem Ed (l:List Nat):Pol.PE (toF q (r9 q l)) (toF q l):=fun n=>by
 rw [j4,j4,← Qb l n]
 congr 1
 unfold r9
 rw [← oW q l]
 exact Jq
theorem tF {f:Nat→Nat} {n k:Nat}:((List.range n).map f).getD k 0=if k<n then f k else 0:=by
 split
 ·rename_i h; exact jH h
 ·rename_i h; exact je (by simpa using h)
theorem R6 (f:List Nat) (c:Nat):Pol.PE (toF q (zu q f c)) (Pol.pR (fz q c) (toF q f)):=fun n=>by
 rw [j4,Pol.kS,j4]
 unfold zu
 rw [tF]
 split
 ·rw [mF,vB,DT]; grind
 ·rename_i h
  rw [je (by omega),lu]; grind
theorem R8 (a b:List Nat):Pol.PE (toF q (addN q a b)) (Pol.kJ (toF q a) (toF q b)):=fun n=>by
 rw [j4,Pol.gQ,j4,j4]
 unfold addN
 rw [tF]
 split
 ·rw [mF,rR,DT,DT]
 ·rename_i h
  rw [je (l:=a) (by omega),je (l:=b) (by omega),lu]; grind
theorem JW (a:List Nat) (b k:Nat):∀ n,fz q (mulC q a [b,1] k n)=(if k<n then fz q b*fz q (a.getD k 0) else 0)+(if 1≤k∧k - 1<n then fz q (a.getD (k - 1) 0) else 0)
 |0=>by
  show fz q 0=_
  rw [if_neg (by omega),if_neg (by omega),lu]; grind
 |n+1=>by
  have ih:=JW a b k n
  have e:mulC q a [b,1] k (n+1)=(mulC q a [b,1] k n+jf a (n:Int)*jf [b,1] ((k:Int) - (n:Int))%q)%q:=by
   unfold mulC; rw [List.range_succ,List.foldl_append]; rfl
  rw [e,mF,rR,mF,vB,ih,DT]
  have hc:jf [b,1] ((k:Int) - (n:Int))=if n=k then b else if n+1=k then 1 else 0:=by
   unfold jf
   by_cases h1:n=k
   ·subst h1; rw [if_neg (by omega),if_pos rfl,show ((n:Int) - (n:Int)).toNat=0 by omega]; rfl
   ·rw [if_neg h1]
    by_cases h2:n+1=k
    ·rw [if_neg (by omega),if_pos h2,show ((k:Int) - (n:Int)).toNat=1 by omega]; rfl
    ·rw [if_neg h2]
     split
     ·rfl
     ·exact je (by simp only [List.length_cons,List.length_nil]; omega)
  rw [hc]
  by_cases h1:n=k
  ·subst h1
   rw [if_pos rfl,if_neg (show ¬ n<n by omega),if_pos (show n<n+1 by omega)]
   by_cases h3:1≤n
   ·rw [if_pos ⟨h3,by omega⟩,if_pos ⟨h3,by omega⟩]; grind
   ·rw [if_neg (by omega),if_neg (by omega)]; grind
  ·rw [if_neg h1]
   by_cases h2:n+1=k
   ·subst h2
    rw [if_pos rfl,if_neg (show ¬ n+1<n by omega),if_neg (show ¬ n+1<n+1 by omega),if_neg (by omega),if_pos (by omega),IE,Nat.add_sub_cancel]; grind
   ·rw [if_neg h2,lu]
    by_cases h3:k<n
    ·rw [if_pos h3,if_pos (show k<n+1 by omega)]
     by_cases h4:1≤k
     ·rw [if_pos ⟨h4,by omega⟩,if_pos ⟨h4,by omega⟩]; grind
     ·rw [if_neg (by omega),if_neg (by omega)]; grind
    ·rw [if_neg h3,if_neg (show ¬ k<n+1 by omega),if_neg (by omega),if_neg (by omega)]; grind
theorem R7 (a:List Nat) (b:Nat):Pol.PE (toF q (mulN q a [b,1])) (Pol.Ml (-(fz q b)) (toF q a)):=fun n=>by
 rw [j4]
 unfold mulN
 rw [tF,show ([b,1]:List Nat).length=2 from rfl]
 have e:(if n<a.length+2 then mulC q a [b,1] n a.length else 0)=mulC q a [b,1] n a.length∨¬ n<a.length+2:=by
  by_cases h:n<a.length+2
  ·exact .inl (if_pos h)
  ·exact .inr h
 have v:fz q (if n<a.length+2 then mulC q a [b,1] n a.length else 0)=fz q b*fz q (a.getD n 0)+(if 1≤n then fz q (a.getD (n - 1) 0) else 0):=by
  rcases e with e|h
  ·rw [e,JW]
   by_cases h1:n<a.length
   ·rw [if_pos h1]
    by_cases h2:1≤n
    ·rw [if_pos ⟨h2,by omega⟩,if_pos h2]
    ·rw [if_neg (by omega),if_neg h2]
   ·rw [if_neg h1,je (l:=a) (n:=n) (by omega),lu]
    by_cases h2:1≤n
    ·rw [if_pos h2]
     by_cases h3:n - 1<a.length
     ·rw [if_pos ⟨h2,h3⟩]; grind
     ·rw [if_neg (by omega),je (l:=a) (n:=n - 1) (by omega),lu]; grind
    ·rw [if_neg h2,if_neg (by omega)]; grind
  ·rw [if_neg h,je (l:=a) (n:=n) (by omega),if_pos (by omega),je (l:=a) (n:=n - 1) (by omega),lu]; grind
 rw [v]
 cases n with
 |zero=>rw [Pol.mI,j4,if_neg (by omega)]; grind
 |succ n=>rw [Pol.kI,j4,j4,if_pos (by omega),Nat.add_sub_cancel]; grind
end
end Go.Own
set_option linter.unusedVariables false
set_option linter.unusedSimpArgs false
namespace Go.Own
open Go.IntWalk
theorem LH {q a:Nat} [NeZero q] (hq:1<q) (h:∃ s:Fin q,s*fz q a=1):Nat.gcd a q=1:=by
 obtain ⟨s,hs⟩:=h
 have e:s.val*(a%q)%q=1:=by
  have:=congrArg Fin.val hs
  rw [Fin.val_mul,Nz] at this
  rw [this]
  show 1%q=1
  exact Nat.mod_eq_of_lt hq
 rw [Nat.mul_mod_mod] at e
 have h1:Nat.gcd a q∣s.val*a:=Nat.dvd_trans (Nat.gcd_dvd_left a q) (Nat.dvd_mul_left _ _)
 have h2:Nat.gcd a q∣q:=Nat.gcd_dvd_right a q
 have h3:Nat.gcd a q∣s.val*a%q:=(Nat.dvd_mod_iff h2).2 h1
 rw [e] at h3
 exact Nat.dvd_one.1 h3
theorem FX {q a s:Nat} [NeZero q] (h:OP a q s):fz q s*fz q a=1:=by
 rw [← vB,← mF,h.eq,IE]
theorem Bv (q:Nat) (l:List Nat):(r9 q l).length≤l.length:=by
 unfold r9; rw [List.length_take,oW]; omega
theorem Mq {q:Nat} (hq:0<q) {l:List Nat}:∀ a∈qP q l,a<q:=by
 intro a ha
 obtain ⟨b,_,rfl⟩:=List.mem_map.1 ha
 exact Nat.mod_lt _ hq
theorem Jj {q:Nat} (hq:0<q) {l:List Nat}:∀ a∈r9 q l,a<q:=fun a ha=>Mq hq a (List.mem_of_mem_take ha)
def vF (q:Nat) [NeZero q] (xs:List Nat):Prop:=∀ k,k<xs.length→∃ s:Fin q,s*Pol.sP (toF q (xs.take k)) (fz q (xs.getD k 0))=1
theorem Lu {gx:Option bZ} {q:Nat} [NeZero q] (h:Fld gx q) {f xs:List Nat} (hf:∀ a∈f,a<au) (hx:∀ a∈xs,a<au) (hfx:f.length≤xs.length) (h32:xs.length≤32) (ha:vF q xs):
  ∃ (L:List Nat) (n:Nat) (fl:Bool),gG.r gx (xs.map limbs) ((xs.map (evN q f)).map limbs)=(true,1,0,(0,n,0,(fl,L.map limbs)))∧(∀ a∈L,a<q)∧n≤L.length∧n≤f.length∧Pol.PE (toF q f) (toF q (L.take n)):=by
 have hq:=h.gt
 have hqW:=h.lt
 have h0:0<q:=by omega
 have qW:∀ {a},a<q→a<au:=fun h=>Nat.lt_trans h hqW
 obtain ⟨rq,inv,hR,hF⟩:=h.field
 obtain ⟨w,hw⟩:∃ w,w=gG.l0 (gx,(xs.map (evN q f)).map limbs,(),0,(0,0),[[1,0,0,0]],xs.map limbs,(xs.length:Int),0,()) ((true,[]),()):=⟨_,rfl⟩
 have key:w.1=true∧w.2.1=1∧∃ (L:List Nat) (n:Nat) (fl:Bool),w.2.2.1.2.2.2.2.1=(0,n)∧w.2.2.2.1.1=(fl,L.map limbs)∧(∀ a∈L,a<q)∧n≤L.length∧n≤f.length∧Pol.PE (toF q f) (toF q (L.take n)):=by
  refine jo (g:=fun rq kn ke kr x y=>gG.g0 rq kn ke kr x y) hw
   (fun x y=>∃ (k:Nat) (L:List Nat) (n:Nat) (base:List Nat) (hh:List (Fin q)) (fl:Bool),k≤xs.length∧x=(gx,(xs.map (evN q f)).map limbs,(),0,(0,n),base.map limbs,xs.map limbs,(xs.length:Int),(k:Int),())∧y=((fl,L.map limbs),())∧n=tl L L.length∧(∀ a∈L,a<q)∧(∀ a∈base,a<q)∧base.length≤1+2*k∧n≤1+2*k∧
    Pol.PE (toF q f) (Pol.kJ (toF q (L.take n)) (Pol.TL (toF q (xs.take k)) hh))∧Pol.PE (toF q base) (Pol.TL (toF q (xs.take k)) [1])∧hh.length=f.length - k)
   (fun x y=>xs.length - x.2.2.2.2.2.2.2.2.1.toNat)
   ⟨0,[],0,[1],toF q f,true,Nat.zero_le _,rfl,rfl,rfl,by simp,by simp; omega,by simp,by omega,fun n=>by rw [Pol.gQ]; show _=Pol.cf [] n+_; rw [Pol.iY]; show _=0+Pol.cf (toF q f) n; grind,fun n=>rfl,by unfold toF; simp⟩
   (by show xs.length - ((0:Int)).toNat<((xs.length:Int) - (0:Int)).toNat+1; omega)
   (Q:=fun w=>w.1=true∧w.2.1=1∧∃ (L:List Nat) (n:Nat) (fl:Bool),w.2.2.1.2.2.2.2.1=(0,n)∧w.2.2.2.1.1=(fl,L.map limbs)∧(∀ a∈L,a<q)∧n≤L.length∧n≤f.length∧Pol.PE (toF q f) (toF q (L.take n))) ?_
  rintro x y R ⟨k,L,n,base,hh,fl,hk,rfl,rfl,hn,hL,hB,hbl,hnl,i1,i2,i3⟩ hR
  by_cases hlt:k<xs.length
  ·have hxk:=hx _ (gV hlt)
   obtain ⟨X,hX⟩:∃ X,X=xs.getD k 0:=⟨_,rfl⟩
   have g1:(xs.map limbs).getD k [0,0,0,0]=limbs X:=by rw [hX]; exact getD_map hlt
   have g2:((xs.map (evN q f)).map limbs).getD k [0,0,0,0]=limbs (evN q f X):=by
    rw [getD_map (d':=0) (by rw [List.length_map]; exact hlt),getD_map (d':=0) hlt,hX]
   rw [← hX] at hxk
   have hfk:∀ a∈L.take n,a<au:=fun a ha=>qW (hL a (List.mem_of_mem_take ha))
   have hbW:∀ a∈base,a<au:=fun a ha=>qW (hB a ha)
   have hfl:(L.take n).length≤1+2*k:=by rw [List.length_take]; omega
   have E1:=OV h hbW (by omega) hxk
   have E2:=OV h hfk (by omega) hxk
   obtain ⟨bv,hbv⟩:∃ b,b=evN q base X:=⟨_,rfl⟩
   obtain ⟨fv,hfv⟩:∃ b,b=evN q (L.take n) X:=⟨_,rfl⟩
   obtain ⟨yv,hyv⟩:∃ b,b=evN q f X:=⟨_,rfl⟩
   have bq:bv<q:=by rw [hbv]; exact Ao h0 _ _
   have fvq:fv<q:=by rw [hfv]; exact Ao h0 _ _
   have yvq:yv<q:=by rw [hyv]; exact Ao h0 _ _
   rw [← hbv] at E1; rw [← hfv] at E2; rw [← hyv] at g2
   have eb:fz q bv=Pol.ev (toF q base) (fz q X):=by rw [hbv,vC]
   have efv:fz q fv=Pol.ev (toF q (L.take n)) (fz q X):=by rw [hfv,vC]
   have ey:fz q yv=Pol.ev (toF q f) (fz q X):=by rw [hyv,vC]
   have hu:∃ s:Fin q,s*fz q bv=1:=by
    obtain ⟨s,hs⟩:=ha k hlt
    refine ⟨s,?_⟩
    rw [eb,Pol.Am i2,Pol.Ld,hX]
    show s*(_*(0*_+1))=1
    rw [← hs]; grind
   have hg:=LH hq hu
   have hbz:bv≠0:=by rintro rfl; rw [Nat.gcd_zero_left] at hg; omega
   obtain ⟨s,hs,eI⟩:=Sk h (qW bq) hg
   have P0:=J9 (qW bq)
   rw [decide_eq_false hbz] at P0
   have S1:=OU h (qW yvq) (qW fvq)
   obtain ⟨d,hd⟩:∃ d,d=(yv%q+(q - fv%q))%q:=⟨_,rfl⟩
   have dq:d<q:=by rw [hd]; exact Nat.mod_lt _ h0
   rw [← hd] at S1
   have M1:=AZ h (qW dq) (qW hs.lt)
   obtain ⟨c,hc⟩:∃ c,c=d*s%q:=⟨_,rfl⟩
   have cq:c<q:=by rw [hc]; exact Nat.mod_lt _ h0
   rw [← hc] at M1
   have SC:=Om h hbW (qW cq) (by omega)
   obtain ⟨sc,hsc⟩:∃ z,z=r9 q (zu q base c):=⟨_,rfl⟩
   rw [← hsc] at SC
   have hscW:∀ a∈sc,a<au:=fun a ha=>qW (by rw [hsc] at ha; exact Jj h0 a ha)
   have hscl:sc.length≤1+2*k:=by
    have:=Bv q (zu q base c)
    rw [vO,← hsc] at this
    omega
   have AD:=R9 h hfk hscW (by omega) (by omega)
   have S2:=OU h (show 0<au by decide) hxk
   obtain ⟨nx,hnx⟩:∃ d,d=(0%q+(q - X%q))%q:=⟨_,rfl⟩
   have nxq:nx<q:=by rw [hnx]; exact Nat.mod_lt _ h0
   rw [← hnx,fq] at S2
   have ML:=R5 h hbW (b:= [nx,1]) (by intro a ha; rcases List.mem_cons.1 ha with rfl|ha; exact qW nxq; rcases List.mem_cons.1 ha with rfl|ha; decide; cases ha) (by show base.length+2≤_; omega)
   have e1:([nx,1]:List Nat).map limbs= [limbs nx,[1,0,0,0]]:=rfl
   rw [e1] at ML
   have w1:IntKind.i64.wrap ((k:Int)+1)=((k+1:Nat):Int):=i64_in _ (by omega)
   have et:(List.map limbs L).take n=(L.take n).map limbs:=(List.map_take).symm
   simp only [gG.g0,Go.Own.lt,dZ (show (k:Int)<(xs.length:Int) by omega),dP (show (0:Int)≤(k:Int) by omega),cond_true,Bool.and_self,Int.toNat_natCast,List.length_map,ak,g1,g2,E1,P0,cond_false,List.drop_zero,et,E2,S1,eI,M1,SC,AD,show Nat.beq 1 0=false from rfl,S2,ML,w1]
   have ax:toF q (xs.take (k+1))=toF q (xs.take k)++ [fz q X]:=by
    unfold toF
    rw [hX]
    exact (jV (f:=fz q) hlt).symm
   have st:=Pol.CV (fk':=toF q ((qP q (addN q (L.take n) sc)).take (tl (qP q (addN q (L.take n) sc)) (addN q (L.take n) sc).length))) (base':=toF q (r9 q (mulN q base [nx,1]))) (s:=fz q s) (c:=fz q c) i1 i2 ey (by rw [← eb]; exact FX hs)
    (by rw [hc,mF,vB,hd,NA,efv])
    (by
     refine (Ed (q:=q) (addN q (L.take n) sc)).trans ((R8 _ _).trans (Pol.PE.add Pol.PE.rfl' ?_))
     rw [hsc]
     exact (Ed _).trans (R6 _ _))
    (by
     refine (Ed (q:=q) _).trans ((R7 base nx).trans ?_)
     have: -(fz q nx)=fz q X:=by rw [hnx,NA,lu]; grind
     rw [this]
     exact Pol.PE.rfl')
   refine hR _ _ ⟨k+1,qP q (addN q (L.take n) sc),_,r9 q (mulN q base [nx,1]),Pol.dv (fz q X) hh,_,hlt,rfl,rfl,by rw [oW],Mq h0,Jj h0,?_,?_,?_,?_,?_⟩ ?_
   ·have:=Bv q (mulN q base [nx,1])
    rw [Fv] at this
    have e2:([nx,1]:List Nat).length=2:=rfl
    omega
   ·have:=Jo (qP q (addN q (L.take n) sc)) (addN q (L.take n) sc).length
    rw [AQ] at this
    rw [AQ]
    omega
   ·rw [ax]; exact st.1
   ·rw [ax]; exact st.2
   ·rw [Pol.IL,i3]; omega
   ·show xs.length - (((k+1:Nat):Int)).toNat<xs.length - ((k:Int)).toNat
    omega
  ·have hkl:k=xs.length:=by omega
   subst hkl
   have hh0:hh= []:=List.length_eq_zero_iff.1 (by omega)
   have hend:=Pol.Ey i1 hh0
   simp only [gG.g0,Go.Own.lt,d9 (show ¬ (xs.length:Int)<(xs.length:Int) by omega),cond_false]
   refine ⟨trivial,trivial,L,n,fl,rfl,rfl,hL,by rw [hn]; exact Jo _ _,?_,hend⟩
   rw [hn]
   apply Ew
   intro m hm
   have e:=hend m
   rw [j4,j4,je hm,hn,Jq] at e
   have e2:=NC e
   rw [Nat.zero_mod] at e2
   rcases Nat.lt_or_ge m L.length with h5|h5
   ·rw [Nat.mod_eq_of_lt (hL _ (gV h5))] at e2; exact e2.symm
   ·exact je h5
 obtain ⟨k1,k2,L,n,fl,k3,k4,k5,k6,k7,k8⟩:=key
 refine ⟨L,n,fl,?_,k5,k6,k7,k8⟩
 have c1:((xs.length:Int) != (xs.length:Int))=false:=by simp
 simp only [gG.r,gG.g,Go.Own.lt,hF,ak,hR.vW,cond_false,List.length_map,c1,d9 (show ¬ (32:Int)<(xs.length:Int) by omega),← hw,k1,k2,k3,k4,show Nat.beq 1 0=false from rfl]
end Go.Own
set_option linter.unusedVariables false
set_option linter.unusedSimpArgs false
namespace Go.Own
open Go.IntWalk
abbrev RY:Type:=Int×((List Int)×Unit)
end Go.Own
set_option linter.unusedVariables false
set_option linter.unusedSimpArgs false
namespace Go.Own
open Go.IntWalk
theorem BL {q:Nat} [NeZero q] (x:Fin q):∀ (xs:List (Fin q)),(∀ a∈xs,∃ s:Fin q,s*(x - a)=1)→∃ s:Fin q,s*Pol.sP xs x=1
 | [],_=>⟨1,by show (1:Fin q)*1=1; grind⟩
 |a::xs,h=>by
  obtain ⟨s,hs⟩:=h a (by simp)
  obtain ⟨t,ht⟩:=BL x xs fun b hb=>h b (by simp [hb])
  refine ⟨s*t,?_⟩
  show s*t*((x - a)*Pol.sP xs x)=1
  grind
theorem F7 {q d:Nat} [NeZero q] (hq:1<q) (hqW:q<au) (hd:d<au) (h:Nat.gcd d q=1):∃ s:Fin q,s*fz q d=1:=by
 rcases GJ d q hd hqW (by omega) with ⟨_,s,hs,_⟩|⟨hn,_⟩
 ·exact ⟨fz q s,FX hs⟩
 ·exact absurd h hn
theorem sH {α β:Type} {f:α→β} {l:List α} {j:Nat} {d:α} {v:β} (h:j<l.length) (hv:v=f (l.getD j d)):(l.take j).map f++ [v]=(l.take (j+1)).map f:=by
 rw [hv]; exact jV h
end Go.Own
set_option linter.unusedVariables false
set_option linter.unusedSimpArgs false
namespace Go.Own
open Go.IntWalk
theorem QC:iK.r=(true,((),(limbs bT,())),(false,kH.map fG)):=by kernel_rfl
theorem Qy:iJ.r=(true,((),(limbs iA,())),(false,kG.map fG)):=by kernel_rfl
theorem Ou:jR.r (kH.map fG,(limbs bT,()))=(true,limbs iX):=by kernel_rfl
theorem Ot:jR.r (kG.map fG,(limbs iA,()))=(true,limbs lG):=by kernel_rfl
theorem Oo (a:List (List Int)) (hl:a.length≤1073741824):bQ.r a a=(true,true):=by
 have key:bQ.l0 (a,a,false,((0:Nat):Int),()) ()=(true,1,(a,a,false,(a.length:Int),()),(),(false,()),()):=by
  refine bP (g:=fun rq kn ke kr x y=>bQ.g0 rq kn ke kr x y) a.length (fun j=>(a,a,false,(j:Int),())) (fun j=>()) _ ?_ ?_ _ 0 (Nat.zero_le _) (by show a.length - 0<((a.length:Int) - ((0:Nat):Int)).toNat+1; omega)
  ·intro j R hj
   have w1:IntKind.i64.wrap ((j:Int)+1)=((j+1:Nat):Int):=i64_in _ (by omega)
   simp only [bQ.g0,lt,dZ (show (j:Int)<(a.length:Int) by omega),dP (show (0:Int)≤(j:Int) by omega),cond_true,Bool.and_self,ak,Nk,Bool.not_true,cond_false,w1]
  ·intro R
   simp only [bQ.g0,lt,d9 (show ¬ (a.length:Int)<(a.length:Int) by omega),cond_false]
 have k2:bQ.l0 (a,a,false,0,()) ()=_:=key
 have c1:((a.length:Int) != (a.length:Int))=false:=by simp
 simp only [bQ.r,bQ.g,lt,c1,cond_false,k2,ak,show Nat.beq 1 0=false from rfl]
end Go.Own
set_option linter.unusedVariables false
set_option linter.unusedSimpArgs false
namespace Go.Own
open Go.IntWalk
end Go.Own
set_option linter.unusedVariables false
set_option linter.unusedSimpArgs false
namespace Go.Own
open Go.IntWalk
end Go.Own
set_option linter.unusedVariables false
set_option linter.unusedSimpArgs false
namespace Go.Own
open Go.IntWalk
end Go.Own
set_option linter.unusedVariables false
set_option linter.unusedSimpArgs false
namespace Go.Own
open Go.IntWalk
theorem J7 (a b m:Nat) (h0:0<m) (hm:m<9223372036854775808):eY.r (a:Int) (b:Int) (m:Int)=(true,((a*b%m:Nat):Int)):=by
 have ha:=Nat.mod_lt a h0
 have hb:=Nat.mod_lt b h0
 have hp:a%m*(b%m)<m*18446744073709551616:=Nat.lt_of_lt_of_le (Nat.mul_lt_mul_of_lt_of_lt ha hb) (Nat.mul_le_mul_left m (by omega))
 have hh:a%m*(b%m)/18446744073709551616<m:=by rw [Nat.div_lt_iff_lt_mul (by decide)]; exact hp
 have e:a%m*(b%m)/18446744073709551616*18446744073709551616+a%m*(b%m)%18446744073709551616=a%m*(b%m):=by rw [Nat.mul_comm]; exact Nat.div_add_mod _ _
 have d:=Ki (a%m*(b%m)/18446744073709551616) (a%m*(b%m)%18446744073709551616) m hh (Nat.mod_lt _ (by decide)) (by omega)
 rw [e,← Nat.mul_mod] at d
 have hr:=Nat.mod_lt (a*b) h0
 have z:ieq (m:Int) 0=false:=FZ (by omega)
 simp only [eY.r,eY.g,lt,Ev,z,Bool.not_false,ak,sG (a%m) (by omega),sG (b%m) (by omega),uH (a%m) (b%m) (by omega) (by omega),sG m (by omega),d,sD (a*b%m) (by omega)]
end Go.Own
set_option linter.unusedVariables false
set_option linter.unusedSimpArgs false
namespace Go.Own
open Go.IntWalk
theorem GH (xs:List Int) (least:Int) (hl:xs.length≤1073741824):jY.r xs least=(true,xs.any fun x=>decide (x<least)||decide (7<x)):=by
 have o1:∀ x:Int,gN.r x least=(true,(decide (x<least)||decide (7<x)),least):=by
  intro x
  by_cases h:x<least
  ·simp only [gN.r,gN.g,lt,dZ h,cond_true,decide_eq_true h,Bool.true_or]
  ·simp only [gN.r,gN.g,lt,d9 h,cond_false,decide_eq_false h,Bool.false_or]; rfl
 obtain ⟨w,hw⟩:∃ w,w=bK.l0 (xs,(),0,(xs.length:Int),0,()) (least,()):=⟨_,rfl⟩
 have key:w.1=true∧((w.2.1=0∧0≤w.2.2.2.2.1.1∧(xs.any fun x=>decide (x<least)||decide (7<x))=true)∨(w.2.1=1∧(xs.any fun x=>decide (x<least)||decide (7<x))=false)):=by
  refine jo (g:=fun rq kn ke kr x y=>bK.g0 rq kn ke kr x y) hw
   (fun x y=>∃ j:Nat,j≤xs.length∧x=(xs,(),0,(xs.length:Int),(j:Int),())∧y=(least,())∧∀ i,i<j→(decide (xs.getD i 0<least)||decide (7<xs.getD i 0))=false)
   (fun x y=>xs.length - x.2.2.2.2.1.toNat)
   ⟨0,Nat.zero_le _,rfl,rfl,fun i h=>absurd h (Nat.not_lt_zero _)⟩ (by show xs.length - ((0:Int)).toNat<((xs.length:Int) - (0:Int)).toNat+1; omega)
   (Q:=fun w=>w.1=true∧((w.2.1=0∧0≤w.2.2.2.2.1.1∧(xs.any fun x=>decide (x<least)||decide (7<x))=true)∨(w.2.1=1∧(xs.any fun x=>decide (x<least)||decide (7<x))=false))) ?_
  rintro x y R ⟨j,hj,rfl,rfl,ha⟩ hR
  by_cases hlt:j<xs.length
  ·have w1:IntKind.i64.wrap ((j:Int)+1)=((j+1:Nat):Int):=i64_in _ (by omega)
   simp only [bK.g0,lt,dZ (show (j:Int)<(xs.length:Int) by omega),cond_true,dP (show (0:Int)≤(j:Int) by omega),Bool.and_self,ak,Int.toNat_natCast,o1,w1]
   cases hc:(decide (xs.getD j 0<least)||decide (7<xs.getD j 0)) with
   |true=>
    simp only [cond_true]
    refine ⟨trivial,.inl ⟨trivial,Int.natCast_nonneg j,?_⟩⟩
    rw [List.any_eq_true]
    exact ⟨_,by rw [getD_lt hlt]; exact List.getElem_mem _,hc⟩
   |false=>
    simp only [cond_false]
    refine hR _ _ ⟨j+1,hlt,rfl,rfl,fun i hi=> ?_⟩ ?_
    ·rcases Nat.lt_or_ge i j with h|h
     ·exact ha i h
     ·rw [show i=j by omega]; exact hc
    ·show xs.length - (((j+1:Nat):Int)).toNat<xs.length - ((j:Int)).toNat
     omega
  ·simp only [bK.g0,lt,d9 (show ¬ (j:Int)<(xs.length:Int) by omega),cond_false]
   refine ⟨trivial,.inr ⟨trivial,?_⟩⟩
   rw [List.any_eq_false]
   intro x hx
   obtain ⟨i,hi,rfl⟩:=List.getElem_of_mem hx
   have:=ha i (by omega)
   rw [getD_lt hi] at this
   rw [this]; decide
 obtain ⟨k1,k2⟩:=key
 simp only [jY.r,jY.g,fw.r,fw.g,bK.r,bK.g,lt,← hw,k1,ak]
 rcases k2 with ⟨k2,k3,k4⟩|⟨k2,k4⟩
 ·simp only [k2,k4,show Nat.beq 0 0=true from rfl,cond_true,dP k3,ak]
 ·simp only [k2,k4,show Nat.beq 1 0=false from rfl,cond_false,tu (show ¬ (0:Int)≤ -1 by decide),ak]
theorem Jh {n k:Nat} (hkn:k<n) (hn:n≤1073741824) {L:List Int} (hL:L.length=n) (fl:Bool) {w:_} (hw:w=aC.l1 ((),(),(k:Int),(k,n - k),1,()) ((fl,L),())):
  w.1=true∧∃ (k':Nat),w.2.2.1.2.2.1=(k':Int)∧k'<n∧w.2.2.2.1.1.2.length=n:=by
 refine jo (g:=fun rq kn ke kr x y=>aC.g1 rq kn ke kr x y) hw
  (fun x y=>∃ (k' i:Nat) (M:List Int),x=((),(),(k':Int),(k,n - k),(i:Int),())∧y=((fl,M),())∧M.length=n∧k'<k+i∧1≤i∧i≤n - k)
  (fun x y=>n - k - x.2.2.2.2.1.toNat)
  ⟨k,1,L,rfl,rfl,hL,by omega,Nat.le_refl _,by omega⟩ (by show n - k - ((1:Int)).toNat<(((n - k:Nat):Int) - 1).toNat+1; omega)
  (Q:=fun w=>w.1=true∧∃ (k':Nat),w.2.2.1.2.2.1=(k':Int)∧k'<n∧w.2.2.2.1.1.2.length=n) ?_
 rintro x y R ⟨k',i,M,rfl,rfl,hM,hk',hi1,hi⟩ hR
 by_cases hlt:i<n - k
 ·have w1:IntKind.i64.wrap ((i:Int)+1)=((i+1:Nat):Int):=i64_in _ (by omega)
  have w2:IntKind.i64.wrap ((i:Int) - 1)=((i - 1:Nat):Int):=by rw [i64_in _ (by omega)]; omega
  have w3:IntKind.i64.wrap ((k':Int)+1)=((k'+1:Nat):Int):=i64_in _ (by omega)
  have r1:(ile 0 (k':Int)&&ilt (k':Int) (M.length:Int))=true:=Ht (by omega)
  simp only [aC.g1,lt,dZ (show (i:Int)<((n - k:Nat):Int) by omega),cond_true,rng hlt,ak,Int.toNat_natCast,w2,rng (show i - 1<n - k by omega),r1,w1,w3]
  generalize (M.getD (k+i) 0 != M.getD (k+(i - 1)) 0)=c
  cases c with
  |true=>
   simp only [cond_true]
   refine hR _ _ ⟨k'+1,i+1,M.set k' (M.getD (k+i) 0),rfl,rfl,by rw [List.length_set]; exact hM,by omega,by omega,hlt⟩ ?_
   show n - k - (((i+1:Nat):Int)).toNat<n - k - ((i:Int)).toNat
   omega
  |false=>
   simp only [cond_false]
   refine hR _ _ ⟨k',i+1,M,rfl,rfl,hM,by omega,by omega,hlt⟩ ?_
   show n - k - (((i+1:Nat):Int)).toNat<n - k - ((i:Int)).toNat
   omega
 ·simp only [aC.g1,lt,d9 (show ¬ (i:Int)<((n - k:Nat):Int) by omega),cond_false]
  exact ⟨trivial,k',rfl,by omega,hM⟩
def AX (L:List Int):Prop:=∀ i,i+1<L.length→L.getD (i+1) 0≠L.getD i 0
theorem GR {L:List Int} (hn:L.length≤1073741824) (fl:Bool):
  ∃ M,aC.r (fl,L)=(true,M)∧(AX L→M.length=L.length)∧(¬ AX L→M.length<L.length):=by
 by_cases h2:(L.length:Int)<2
 ·refine ⟨L,?_,fun _=>rfl,fun h=>absurd (fun i hi=>absurd hi (by omega)) h⟩
  simp only [aC.r,aC.g,lt,dZ h2,cond_true]
 ·obtain ⟨w,hw⟩:∃ w,w=aC.l0 ((),(),1,()) ((fl,L),()):=⟨_,rfl⟩
  have key:w.1=true∧((w.2.1=0∧¬ AX L∧((w.2.2.2.2.2.1.2.drop w.2.2.2.2.1.1.1).take w.2.2.2.2.1.1.2).length<L.length)∨(w.2.1=1∧AX L∧w.2.2.2.1.1.2=L)):=by
   refine jo (g:=fun rq kn ke kr x y=>aC.g0 rq kn ke kr x y) hw
    (fun x y=>∃ j:Nat,j+1≤L.length∧x=((),(),((j+1:Nat):Int),())∧y=((fl,L),())∧∀ i,i<j→L.getD (i+1) 0≠L.getD i 0)
    (fun x y=>L.length - x.2.2.1.toNat)
    ⟨0,by omega,rfl,rfl,fun i h=>absurd h (Nat.not_lt_zero _)⟩ (by show L.length - ((1:Int)).toNat<((L.length:Int) - (1:Int)).toNat+1; omega)
    (Q:=fun w=>w.1=true∧((w.2.1=0∧¬ AX L∧((w.2.2.2.2.2.1.2.drop w.2.2.2.2.1.1.1).take w.2.2.2.2.1.1.2).length<L.length)∨(w.2.1=1∧AX L∧w.2.2.2.1.1.2=L))) ?_
   rintro x y R ⟨j,hj,rfl,rfl,ha⟩ hR
   by_cases hlt:j+1<L.length
   ·have w0:IntKind.i64.wrap (((j+1:Nat):Int) - 1)=(j:Int):=by rw [i64_in _ (by omega)]; omega
    have w1:IntKind.i64.wrap (((j+1:Nat):Int)+1)=((j+1+1:Nat):Int):=i64_in _ (by omega)
    by_cases he:L.getD (j+1) 0=L.getD j 0
    ·have hb:(L.getD (j+1) 0== L.getD j 0)=true:=beq_iff_eq.2 he
     obtain ⟨v,hv⟩:∃ v,v=aC.l1 ((),(),((j+1:Nat):Int),(j+1,L.length - (j+1)),1,()) ((fl,L),()):=⟨_,rfl⟩
     obtain ⟨v1,k',v2,v3,v4⟩:=Jh hlt hn rfl fl hv
     obtain ⟨a,b,c,d,e⟩:=v
     obtain ⟨a1,a2,a3,a4,a5,a6⟩:=c
     obtain ⟨⟨b1,M⟩,b2⟩:=d
     simp only at v1 v2 v4
     subst v1; subst v2
     have hol:(over M k' (List.replicate (L.length - k') 0)).length=L.length:=by
      unfold over
      simp only [List.length_append,List.length_take,List.length_replicate,List.length_drop,v4]; omega
     simp only [aC.g0,lt,dZ (show ((j+1:Nat):Int)<(L.length:Int) by omega),cond_true,Ht hlt,Ht (show j<L.length by omega),ak,Int.toNat_natCast,w0,hb,dP (show (0:Int)≤((j+1:Nat):Int) by omega),dP (show ((j+1:Nat):Int)≤(L.length:Int) by omega),dP (Int.le_refl (L.length:Int)),Bool.and_self,← hv,v4,dP (show (0:Int)≤(k':Int) by omega),dP (show (k':Int)≤(L.length:Int) by omega),hol]
     refine ⟨trivial,.inl ⟨trivial,fun h=>h j hlt he,?_⟩⟩
     simp only [List.drop_zero,List.length_take,hol]
     omega
    ·have hb:(L.getD (j+1) 0== L.getD j 0)=false:=beq_eq_false_iff_ne.2 he
     simp only [aC.g0,lt,dZ (show ((j+1:Nat):Int)<(L.length:Int) by omega),cond_true,Ht hlt,Ht (show j<L.length by omega),ak,Int.toNat_natCast,w0,hb,cond_false,w1]
     refine hR _ _ ⟨j+1,hlt,rfl,rfl,fun i hi=> ?_⟩ ?_
     ·rcases Nat.lt_or_ge i j with h|h
      ·exact ha i h
      ·rw [show i=j by omega]; exact he
     ·show L.length - (((j+1+1:Nat):Int)).toNat<L.length - (((j+1:Nat):Int)).toNat
      omega
   ·simp only [aC.g0,lt,d9 (show ¬ ((j+1:Nat):Int)<(L.length:Int) by omega),cond_false]
    exact ⟨trivial,.inr ⟨trivial,fun i hi=>ha i (by omega),trivial⟩⟩
  obtain ⟨k1,k2⟩:=key
  rcases k2 with ⟨k2,k3,k4⟩|⟨k2,k3,k4⟩
  ·refine ⟨_,?_,fun h=>absurd h k3,fun _=>k4⟩
   simp only [aC.r,aC.g,lt,d9 h2,cond_false,← hw,k1,ak,k2,show Nat.beq 0 0=true from rfl,cond_true]
  ·refine ⟨L,?_,fun _=>rfl,fun h=>absurd k3 h⟩
   simp only [aC.r,aC.g,lt,d9 h2,cond_false,← hw,k1,ak,k2,show Nat.beq 1 0=false from rfl,k4]
theorem KP {L:List Int} (hs:L.Pairwise (· ≤ ·)):AX L↔L.Nodup:=by
 constructor
 ·intro h
  have hlt:L.Pairwise (· < ·):=by
   rw [List.pairwise_iff_getElem]
   have step:∀ d i (hi:i+1+d<L.length),L[i]<L[i+1+d]:=by
    intro d
    induction d with
    |zero=>
     intro i hi
     have h1:=h i hi
     have h2:=List.pairwise_iff_getElem.1 hs i (i+1) (by omega) hi (by omega)
     rw [getD_lt hi,getD_lt (show i<L.length by omega)] at h1
     have:L[i+1]≠L[i]:=h1
     show L[i]<L[i+1]
     omega
    |succ d ih=>
     intro i hi
     have h1:=ih i (by omega)
     have h2:=List.pairwise_iff_getElem.1 hs (i+1+d) (i+1+(d+1)) (by omega) hi (by omega)
     omega
   intro i j hi hj hij
   have:=step (j - i - 1) i (by omega)
   have e:i+1+(j - i - 1)=j:=by omega
   simp only [e] at this
   exact this
  exact hlt.imp fun h e=>by omega
 ·intro h i hi he
  rw [getD_lt hi,getD_lt (show i<L.length by omega)] at he
  have:=List.pairwise_iff_getElem.1 h i (i+1) (by omega) hi (by omega)
  exact this he.symm
theorem Ls (xs:List Int) (hl:xs.length≤1073741824):∃ b,lZ.r xs=(true,b)∧(b=true↔¬ xs.Nodup):=by
 cases xs with
 |nil=>exact ⟨false,by decide,by simp⟩
 |cons p pts=>
  have c1:nle ((2*(0+(p::pts).length)+512)*8) 70368744177664=true:=pY (by omega)
  have c2:nlt (p::pts).length 4611686018427387904=true:=SG (by omega)
  have e1:(p::pts).isEmpty=false:=rfl
  have hp:(BD (p::pts)).Perm (p::pts):=List.mergeSort_perm _ _
  have hlen:(BD (p::pts)).length=(p::pts).length:=hp.length_eq
  have hs:(BD (p::pts)).Pairwise (· ≤ ·):=by
   have:=List.pairwise_mergeSort (le:=fun (a b:Int)=>decide (a≤b)) (by intro a b c; simp; omega) (by intro a b; simp; omega) (p::pts)
   exact this.imp fun h=>by simpa using h
  obtain ⟨M,h1,h2,h3⟩:=GR (L:=BD (p::pts)) (by omega) false
  refine ⟨ilt (M.length:Int) ((p::pts).length:Int),?_,?_⟩
  ·simp only [lZ.r,lZ.g,iC.r,iC.g,lt,e1,Bool.not_false,cond_false,c1,c2,ak,h1]
  ·rw [PZ,← hp.nodup_iff,← KP hs]
   constructor
   ·intro h h4; have:=h2 h4; omega
   ·intro h; have:=h3 h; omega
end Go.Own
set_option linter.unusedVariables false
set_option linter.unusedSimpArgs false
namespace Go.Own
open Go.IntWalk
theorem Hr {X Y U V:Type} {g:(Bool→Bool×Nat×X×Y×U×V→Bool×Nat×X×Y×U×V)→(X→Y→Bool×Nat×X×Y×U×V)→(Nat→X→Y→Bool×Nat×X×Y×U×V)→(U→V→Bool×Nat×X×Y×U×V)→X→Y→Bool×Nat×X×Y×U×V} {u0:U} {v0:V} {x0 x1 x2:X} {y0 y1 y2:Y} {w:Bool×Nat×X×Y×U×V}
  (h0:∀ (R:X→Y→Bool×Nat×X×Y×U×V),g chk R (fun e x y=>(true,e+1,x,y,u0,v0)) (fun u v=>(true,0,x0,y0,u,v)) x0 y0=R x1 y1)
  (h1:∀ (R:X→Y→Bool×Nat×X×Y×U×V),g chk R (fun e x y=>(true,e+1,x,y,u0,v0)) (fun u v=>(true,0,x1,y1,u,v)) x1 y1=R x2 y2)
  (h2:∀ (R:X→Y→Bool×Nat×X×Y×U×V),g chk R (fun e x y=>(true,e+1,x,y,u0,v0)) (fun u v=>(true,0,x2,y2,u,v)) x2 y2=w) (q:Nat) (hq:3≤q):rounds g u0 v0 q x0 y0=w:=by
 obtain ⟨n,rfl⟩:∃ n,q=n+1+1+1:=⟨q - 3,by omega⟩
 simp only [rounds]
 rw [h0,h1,h2]
section
variable {F:Type} [Lean.Grind.CommRing F]
theorem tX:∀ (a b:List F),(Pol.kJ a b).length=max a.length b.length
 | [],b=>by simp [Pol.kJ]
 |a::l,[]=>by simp [Pol.kJ]
 |a::l,b::m=>by simp only [Pol.kJ,List.length_cons,tX l m]; omega
theorem Sc (a:F) (l:List F):(Pol.Ml a l).length=l.length+1:=by
 unfold Pol.Ml
 rw [tX]
 unfold Pol.pR
 simp only [List.length_cons,List.length_map]; omega
theorem Ol:∀ (xs:List F) (h:List F),(Pol.TL xs h).length=h.length+xs.length
 | [],h=>rfl
 |a::xs,h=>by
  show (Pol.Ml a (Pol.TL xs h)).length=_
  rw [Sc,Ol xs h]; simp only [List.length_cons]; omega
theorem zB:∀ (xs:List F) {a:F},a∈xs→Pol.sP xs a=0
 | [],a,h=>by cases h
 |b::xs,a,h=>by
  show (a - b)*Pol.sP xs a=0
  rcases List.mem_cons.1 h with rfl|h
  ·grind
  ·rw [zB xs h]; grind
end
theorem RH {q:Nat} [NeZero q] (a:Fin q):fz q a.val=a:=by unfold fz; simp [Fin.ext_iff,Nat.mod_eq_of_lt a.isLt]
theorem RB {q:Nat} [NeZero q] {xs:List Nat} (ha:vF q xs) (ys:Nat→Fin q):∃ f:List Nat,f.length≤xs.length∧(∀ a∈f,a<q)∧∀ k,k<xs.length→fz q (evN q f (xs.getD k 0))=ys k:=by
 have key:∀ m,m≤xs.length→∃ g:List (Fin q),g.length≤m∧∀ k,k<m→Pol.ev g (fz q (xs.getD k 0))=ys k:=by
  intro m
  induction m with
  |zero=>intro _; exact ⟨[],Nat.le_refl _,fun k h=>absurd h (Nat.not_lt_zero _)⟩
  |succ m ih=>
   intro hm
   obtain ⟨g,hg,hk⟩:=ih (by omega)
   obtain ⟨s,hs⟩:=ha m hm
   obtain ⟨c,hc⟩:∃ c,c=(ys m - Pol.ev g (fz q (xs.getD m 0)))*s:=⟨_,rfl⟩
   have e1:∀ x:Fin q,Pol.ev [c] x=c:=fun x=>by show 0*x+c=c; grind
   refine ⟨Pol.kJ g (Pol.TL (toF q (xs.take m)) [c]),?_,fun k hkm=> ?_⟩
   ·rw [tX,Ol]
    unfold toF
    simp only [List.length_cons,List.length_nil,List.length_map,List.length_take]; omega
   ·rw [Pol.xJ,Pol.Ld,e1]
    rcases Nat.lt_or_ge k m with h|h
    ·rw [hk k h,zB]
     ·grind
     ·unfold toF
      refine List.mem_map.2 ⟨xs.getD k 0,?_,rfl⟩
      rw [getD_lt (show k<xs.length by omega)]
      exact List.mem_take_iff_getElem.2 ⟨k,by omega,rfl⟩
    ·have:k=m:=by omega
     subst this
     rw [hc]; grind
 obtain ⟨g,hg,hk⟩:=key xs.length (Nat.le_refl _)
 have eg:toF q (g.map Fin.val)=g:=by
  unfold toF
  rw [List.map_map]
  exact (List.map_congr_left fun a _=>RH a).trans (List.map_id g)
 refine ⟨g.map Fin.val,by rw [List.length_map]; exact hg,fun a h=> ?_,fun k h=> ?_⟩
 ·obtain ⟨b,_,rfl⟩:=List.mem_map.1 h; exact b.isLt
 ·rw [vC,eg]; exact hk k h
def xQ (q:Nat):Prop:=∀ d,1≤d→d≤7→Nat.gcd d q=1
theorem Ku {q:Nat} (h:(List.range 7).all (fun d=>Nat.beq (Nat.gcd (d+1) q) 1)=true):xQ q:=by
 intro d h1 h2
 have:=List.all_eq_true.1 h (d - 1) (List.mem_range.2 (by omega))
 rw [Nat.sub_add_cancel h1] at this
 exact Nat.eq_of_beq_eq_true this
theorem Bd:xQ iX:=Ku (by kernel_rfl)
theorem CK {q:Nat} [NeZero q] (hq:1<q) (hqW:q<au) (hs:xQ q) {pts:List Nat} (hp:∀ p∈pts,p≤7) (ha:pts.Nodup):vF q pts:=by
 intro k hk
 apply BL
 intro a hm
 obtain ⟨p,hpm,rfl⟩:=List.mem_map.1 hm
 obtain ⟨i,hi,rfl⟩:=List.mem_take_iff_getElem.1 hpm
 have hik:i<k:=by omega
 have hne:=List.pairwise_iff_getElem.1 ha i k (by omega) hk hik
 have h1:=hp _ (gV hk)
 have h2:=hp pts[i] (List.getElem_mem _)
 rw [getD_lt hk] at h1 ⊢
 rcases Nat.lt_or_gt_of_ne hne with hlt|hlt
 ·obtain ⟨s,hs2⟩:=F7 hq hqW (show pts[k] - pts[i]<au by unfold au; omega) (hs (pts[k] - pts[i]) (by omega) (by omega))
  refine ⟨s,?_⟩
  have e:fz q pts[k]=fz q (pts[k] - pts[i])+fz q pts[i]:=by rw [← rR,Nat.sub_add_cancel (Nat.le_of_lt hlt)]
  rw [e]
  grind
 ·obtain ⟨s,hs2⟩:=F7 hq hqW (show pts[i] - pts[k]<au by unfold au; omega) (hs (pts[i] - pts[k]) (by omega) (by omega))
  refine ⟨-s,?_⟩
  have e:fz q pts[i]=fz q (pts[i] - pts[k])+fz q pts[k]:=by rw [← rR,Nat.sub_add_cancel (Nat.le_of_lt hlt)]
  rw [e]
  grind
abbrev wP:Type:=List (Nat×List (List Int))
def Rows (n:Nat) (R:List Nat) (P:wP) (c:Nat→List (List Int)):Prop:=R.length=n∧∀ j,j<n→R.getD j 0<P.length∧(P.getD (R.getD j 0) (0,[])).1≠2∧(P.getD (R.getD j 0) (0,[])).2=c j∧∀ j',j'<n→R.getD j' 0=R.getD j 0→j'=j∨(P.getD (R.getD j 0) (0,[])).1=3
theorem FP {α:Type} {l:List α} {i k:Nat} {a d:α} (h:i<l.length):(l.set i a).getD k d=if i=k then a else l.getD k d:=by
 rw [List.getD_eq_getElem?_getD,List.getElem?_set]
 by_cases e:i=k
 ·subst e; rw [if_pos rfl,if_pos h,if_pos rfl]; rfl
 ·rw [if_neg e,if_neg e,List.getD_eq_getElem?_getD]
theorem F6 {α:Type} {l:List α} {k:Nat} {a d:α}:(l++ [a]).getD k d=if k<l.length then l.getD k d else if k=l.length then a else d:=by
 rw [List.getD_eq_getElem?_getD,List.getD_eq_getElem?_getD]
 split
 ·rename_i h; rw [List.getElem?_append_left h]
 ·rename_i h
  rw [List.getElem?_append_right (by omega)]
  split
  ·rename_i h2; subst h2; simp
  ·rename_i h2; rw [List.getElem?_eq_none (by simp; omega)]; rfl
theorem Rows.put {n:Nat} {R:List Nat} {P:wP} {c:Nat→List (List Int)} (h:Rows n R P c) {j:Nat} (hj:j<n) (v:List Int):
  Rows n (R.set j P.length) ((P.set (R.getD j 0) ((bif Nat.beq (P.getD (R.getD j 0) (0,[])).1 3 then 3 else 2),(P.getD (R.getD j 0) (0,[])).2))++ [(1,((P.getD (R.getD j 0) (0,[])).2++ [v]))]) (fun k=>if k=j then c j++ [v] else c k):=by
 obtain ⟨h1,h2⟩:=h
 obtain ⟨a1,a2,a3,a4⟩:=h2 j hj
 have hjR:j<R.length:=by omega
 refine ⟨by rw [List.length_set]; exact h1,fun k hk=> ?_⟩
 have gR:∀ i,(R.set j P.length).getD i 0=if j=i then P.length else R.getD i 0:=fun i=>FP hjR
 obtain ⟨b1,b2,b3,b4⟩:=h2 k hk
 have gP:∀ i,i<P.length→(((P.set (R.getD j 0) ((bif Nat.beq (P.getD (R.getD j 0) (0,[])).1 3 then 3 else 2),(P.getD (R.getD j 0) (0,[])).2))++ [(1,((P.getD (R.getD j 0) (0,[])).2++ [v]))]).getD i (0,[]))=if R.getD j 0=i then ((bif Nat.beq (P.getD (R.getD j 0) (0,[])).1 3 then 3 else 2),(P.getD (R.getD j 0) (0,[])).2) else P.getD i (0,[]):=fun i hi=>by
  rw [F6,if_pos (by rw [List.length_set]; exact hi),FP a1]
 have gE:(((P.set (R.getD j 0) ((bif Nat.beq (P.getD (R.getD j 0) (0,[])).1 3 then 3 else 2),(P.getD (R.getD j 0) (0,[])).2))++ [(1,((P.getD (R.getD j 0) (0,[])).2++ [v]))]).getD P.length (0,[]))=(1,((P.getD (R.getD j 0) (0,[])).2++ [v])):=by
  rw [F6,if_neg (by rw [List.length_set]; omega),if_pos (by rw [List.length_set])]
 have len:(P.set (R.getD j 0) ((bif Nat.beq (P.getD (R.getD j 0) (0,[])).1 3 then 3 else 2),(P.getD (R.getD j 0) (0,[])).2)++ [(1,((P.getD (R.getD j 0) (0,[])).2++ [v]))]).length=P.length+1:=by simp
 rw [gR k]
 by_cases e:j=k
 ·subst e
  rw [if_pos rfl,gE,len]
  refine ⟨by omega,by show (1:Nat)≠2; decide,by show _=if j=j then _ else _; rw [if_pos rfl,a3],fun j' hj' he=> ?_⟩
  rw [gR j'] at he
  by_cases e2:j=j'
  ·exact .inl e2.symm
  ·rw [if_neg e2] at he
   have:=(h2 j' hj').1
   omega
 ·rw [if_neg e,gP _ b1,len]
  by_cases e3:R.getD j 0=R.getD k 0
  ·have h3:(P.getD (R.getD j 0) (0,[])).1=3:=(a4 k hk e3.symm).resolve_left fun h=>e h.symm
   rw [if_pos e3,h3]
   refine ⟨by omega,by show (3:Nat)≠2; decide,by show _=if k=j then _ else _; rw [if_neg fun h=>e h.symm,← b3,e3],fun _ _ _=> .inr rfl⟩
  ·rw [if_neg e3]
   refine ⟨by omega,b2,by show _=if k=j then _ else _; rw [if_neg fun h=>e h.symm]; exact b3,fun j' hj' he=> ?_⟩
   rw [gR j'] at he
   by_cases e2:j=j'
   ·rw [if_pos e2] at he; omega
   ·rw [if_neg e2] at he; exact b4 j' hj' he
theorem Rows.flag {n:Nat} {R:List Nat} {P:wP} {c:Nat→List (List Int)} (h:Rows n R P c) {j:Nat} (hj:j<n):(!Nat.beq (P.getD (R.getD j 0) (0,[])).1 2)=true:=by
 have:=(h.2 j hj).2.1
 cases e:Nat.beq (P.getD (R.getD j 0) (0,[])).1 2 with
 |false=>rfl
 |true=>exact absurd (Nat.eq_of_beq_eq_true e) this
theorem Rows.all {n:Nat} {R:List Nat} {P:wP} {c:Nat→List (List Int)} (h:Rows n R P c):(R.map fun r=>(P.getD r (0,[])).2)=(List.range n).map c:=by
 apply List.ext_getElem?
 intro k
 rw [List.getElem?_map,List.getElem?_map]
 rcases Nat.lt_or_ge k n with hk|hk
 ·have h1:=(h.2 k hk).2.2.1
  rw [getD_lt (show k<R.length by rw [h.1]; exact hk)] at h1
  rw [List.getElem?_eq_getElem (show k<R.length by rw [h.1]; exact hk),List.getElem?_range hk]
  simp only [Option.map_some,h1]
 ·rw [List.getElem?_eq_none (show R.length≤k by rw [h.1]; exact hk),List.getElem?_eq_none (by simpa using hk)]; rfl
theorem Rows.start (n:Nat):Rows n (List.replicate n 0) [(3,[])] (fun _=> []):=by
 refine ⟨List.length_replicate,fun j hj=> ?_⟩
 have e:∀ k,(List.replicate n 0).getD k 0=0:=fun k=>by
  rw [List.getD_eq_getElem?_getD,List.getElem?_replicate]; split<;>rfl
 rw [e j]
 exact ⟨by decide,by decide,rfl,fun _ _ _=> .inr rfl⟩
end Go.Own
set_option linter.unusedVariables false
set_option linter.unusedSimpArgs false
namespace Go.Own
open Go.IntWalk
abbrev ints (l:List Nat):List Int:=l.map fun (p:Nat)=>(p:Int)
theorem TR (gx:Option bZ) (pts:List Nat) (hp:∀ p∈pts,p≤7) (hn:pts.length≤1073741824) (P:wP):
  bg.l0 (gx,ints pts,(),0,(),ints pts,(pts.length:Int),0,()) ((true,[]),P,())=
  (true,1,(gx,ints pts,(),0,(),ints pts,(pts.length:Int),(pts.length:Int),()),((decide (pts.length=0),pts.map limbs),P,()),(),()):=by
 have key:bg.l0 (gx,ints pts,(),0,(),ints pts,(pts.length:Int),((0:Nat):Int),()) ((decide (0=0),(pts.take 0).map limbs),P,())=
  (true,1,(gx,ints pts,(),0,(),ints pts,(pts.length:Int),(pts.length:Int),()),((decide (pts.length=0),(pts.take pts.length).map limbs),P,()),(),()):=by
  refine bP (g:=fun rq kn ke kr x y=>bg.g0 rq kn ke kr x y) pts.length (fun j=>(gx,ints pts,(),0,(),ints pts,(pts.length:Int),(j:Int),())) (fun j=>((decide (j=0),(pts.take j).map limbs),P,())) _ ?_ ?_ _ 0 (Nat.zero_le _) (by show pts.length - 0<((pts.length:Int) - ((0:Nat):Int)).toNat+1; omega)
  ·intro j R hj
   have g1:(ints pts).getD j 0=((pts.getD j 0:Nat):Int):=getD_map hj
   have hb:=hp _ (gV hj)
   have n1:cB.r ((pts.getD j 0:Nat):Int)=(true,limbs (pts.getD j 0)):=by rw [qo _ (by omega)]; rfl
   have c2:nle ((2*((pts.take j).length+1)+512)*32) 70368744177664=true:=pY (by rw [List.length_take]; omega)
   have s2:((pts.take j).map limbs)++ [limbs (pts.getD j 0)]=(pts.take (j+1)).map limbs:=sH (f:=limbs) hj rfl
   have d1:decide (j+1=0)=false:=decide_eq_false (by omega)
   have w1:IntKind.i64.wrap ((j:Int)+1)=((j+1:Nat):Int):=i64_in _ (by omega)
   simp only [bg.g0,Go.Own.lt,dZ (show (j:Int)<(pts.length:Int) by omega),dP (show (0:Int)≤(j:Int) by omega),cond_true,Bool.and_self,Int.toNat_natCast,List.length_map,ak,g1,Bool.and_false,n1,s2,c2,w1,d1]
  ·intro R
   simp only [bg.g0,Go.Own.lt,d9 (show ¬ (pts.length:Int)<(pts.length:Int) by omega),cond_false]
 rw [List.take_length] at key
 exact key
theorem TP {n:Nat} {gx:Option bZ} {XS:List Int} {z:Int×Int} (hn:n≤1000) (Y:Bool×List (List Int)) (fl:Bool) (f:List (List Int)) (hf:f.length=n) {R:List Nat} {P:wP} {c:Nat→List (List Int)} (h:Rows n R P c) (hc:∀ j,(c j).length≤1000) {w:_}
  (hw:w=bg.l2 (gx,XS,(),0,(),(),z.1,z.2,(),(n:Int),0,()) (Y,(false,R),(fl,f),P,())):
  w.1=true∧w.2.1=5∧w.2.2.1=(gx,XS,(),0,(),(),z.1,z.2,(),(n:Int),(n:Int),())∧∃ R' P',w.2.2.2.1=(Y,(false,R'),(fl,f),P',())∧Rows n R' P' (fun j=>if j<n then c j++ [f.getD j [0,0,0,0]] else c j):=by
 refine jo (g:=fun rq kn ke kr x y=>bg.g2 rq kn ke kr x y) hw
  (fun x y=>∃ (j:Nat) (R:List Nat) (P:wP),j≤n∧x=(gx,XS,(),0,(),(),z.1,z.2,(),(n:Int),(j:Int),())∧y=(Y,(false,R),(fl,f),P,())∧Rows n R P (fun k=>if k<j then c k++ [f.getD k [0,0,0,0]] else c k))
  (fun x y=>n - x.2.2.2.2.2.2.2.2.2.2.1.toNat)
  ⟨0,R,P,Nat.zero_le _,rfl,rfl,by
   have:(fun k=>if k<0 then c k++ [f.getD k [0,0,0,0]] else c k)=c:=funext fun k=>if_neg (Nat.not_lt_zero _)
   rw [this]; exact h⟩ (by show n - ((0:Int)).toNat<((n:Int) - (0:Int)).toNat+1; omega)
  (Q:=fun w=>w.1=true∧w.2.1=5∧w.2.2.1=(gx,XS,(),0,(),(),z.1,z.2,(),(n:Int),(n:Int),())∧∃ R' P',w.2.2.2.1=(Y,(false,R'),(fl,f),P',())∧Rows n R' P' (fun j=>if j<n then c j++ [f.getD j [0,0,0,0]] else c j)) ?_
 rintro x y K ⟨j,R,P,hj,rfl,rfl,hr⟩ hK
 by_cases hlt:j<n
 ·have w1:IntKind.i64.wrap ((j:Int)+1)=((j+1:Nat):Int):=i64_in _ (by omega)
  have rl:=hr.1
  have hb:(P.getD (R.getD j 0) (0,[])).2=if j<j then c j++ [f.getD j [0,0,0,0]] else c j:=(hr.2 j hlt).2.2.1
  rw [if_neg (Nat.lt_irrefl j)] at hb
  have c1:nle ((2*((P.getD (R.getD j 0) (0,[])).2.length+1)+512)*32) 70368744177664=true:=pY (by rw [hb]; have:=hc j; omega)
  have hfg:=hr.flag hlt
  simp only [bg.g2,Go.Own.lt,dZ (show (j:Int)<(n:Int) by omega),cond_true,Ht (show j<f.length by omega),Ht (show j<R.length by omega),ak,Int.toNat_natCast,hfg,c1,Bool.and_self,w1]
  have:=hr.put hlt (f.getD j [0,0,0,0])
  refine hK _ _ ⟨j+1,_,_,hlt,rfl,rfl,?_⟩ ?_
  ·refine Eq.mp (congrArg (Rows n _ _) (funext fun k=> ?_)) this
   by_cases e:k=j
   ·subst e; rw [if_pos rfl,if_neg (Nat.lt_irrefl k),if_pos (Nat.lt_succ_self k)]
   ·rw [if_neg e]
    by_cases e2:k<j
    ·rw [if_pos e2,if_pos (by omega)]
    ·rw [if_neg e2,if_neg (by omega)]
  ·show n - (((j+1:Nat):Int)).toNat<n - ((j:Int)).toNat
   omega
 ·have:j=n:=by omega
  subst this
  simp only [bg.g2,Go.Own.lt,d9 (show ¬ (j:Int)<(j:Int) by omega),cond_false]
  exact ⟨trivial,trivial,trivial,R,P,rfl,hr⟩
structure Units (q:Nat) (pts:List Nat) (F:Nat→List Nat):Prop where
 len:∀ i,i<pts.length→(F i).length≤pts.length
 lt:∀ i,i<pts.length→∀ a∈F i,a<q
 val:∀ i,i<pts.length→∀ k,k<pts.length→evN q (F i) (pts.getD k 0)=if k=i then 1 else 0
theorem LG {q:Nat} [NeZero q] (hq:1<q) {pts:List Nat} (ha:vF q pts):∃ F,Units q pts F:=by
 have:∀ i,∃ f:List Nat,f.length≤pts.length∧(∀ a∈f,a<q)∧∀ k,k<pts.length→fz q (evN q f (pts.getD k 0))=if k=i then 1 else 0:=fun i=>RB ha fun k=>if k=i then 1 else 0
 refine ⟨fun i=>Classical.choose (this i),fun i _=>(Classical.choose_spec (this i)).1,fun i _=>(Classical.choose_spec (this i)).2.1,fun i _ k hk=> ?_⟩
 have h:=(Classical.choose_spec (this i)).2.2 k hk
 have hl:=Ao (show 0<q by omega) (Classical.choose (this i)) (pts.getD k 0)
 have hv:=congrArg Fin.val h
 rw [Nz,Nat.mod_eq_of_lt hl] at hv
 rw [hv]
 by_cases e:k=i
 ·rw [if_pos e,if_pos e]; exact Nat.mod_eq_of_lt hq
 ·rw [if_neg e,if_neg e]; rfl
theorem O3 {q:Nat} {pts:List Nat} {F:Nat→List Nat} (h:Units q pts F) {i:Nat} (hi:i<pts.length):(List.replicate pts.length [0,0,0,0]).set i [1,0,0,0]=(pts.map (evN q (F i))).map limbs:=by
 apply List.ext_getElem?
 intro k
 rw [List.getElem?_set,List.getElem?_map,List.getElem?_map]
 rcases Nat.lt_or_ge k pts.length with hk|hk
 ·have hv:=h.val i hi k hk
  rw [getD_lt hk] at hv
  rw [List.getElem?_eq_getElem hk]
  simp only [Option.map_some,hv,List.length_replicate,List.getElem?_replicate]
  by_cases e:i=k
  ·subst e
   rw [if_pos rfl,if_pos hi,if_pos rfl]; rfl
  ·rw [if_neg e,if_pos hk,if_neg fun h=>e h.symm]; rfl
 ·rw [if_neg (by omega),List.getElem?_eq_none (by simpa using hk),List.getElem?_eq_none hk]; rfl
def E8 (f:List Nat) (n:Nat):List (List Int):=(List.range n).map fun j=>limbs (f.getD j 0)
theorem Rq {q:Nat} [NeZero q] {f L:List Nat} {m n:Nat} (hm:m≤L.length) (hL:∀ a∈L,a<q) (hf:∀ a∈f,a<q) (hfn:f.length≤n) (hmf:m≤n) (h:Pol.PE (toF q f) (toF q (L.take m))):
  ((L.map limbs).take m)++List.replicate (n - m) [0,0,0,0]=E8 f n:=by
 have lt_of:∀ {l:List Nat} {k:Nat},(∀ a∈l,a<q)→l.getD k 0<q:=by
  intro l k hl
  rcases Nat.lt_or_ge k l.length with h|h
  ·exact hl _ (gV h)
  ·rw [je h]; exact Nat.pos_of_ne_zero (NeZero.ne q)
 have he:∀ k,(L.take m).getD k 0=f.getD k 0:=by
  intro k
  have:=h k
  rw [j4,j4] at this
  have e:=NC this
  rw [Nat.mod_eq_of_lt (lt_of hf),Nat.mod_eq_of_lt (lt_of fun a ha=>hL a (List.mem_of_mem_take ha))] at e
  exact e.symm
 apply List.ext_getElem?
 intro k
 unfold E8
 rw [List.getElem?_map]
 rcases Nat.lt_or_ge k m with hk|hk
 ·rw [List.getElem?_append_left (by rw [List.length_take,List.length_map]; omega),List.getElem?_take,if_pos hk,List.getElem?_map,List.getElem?_eq_getElem (show k<L.length by omega),List.getElem?_range (show k<n by omega)]
  have:=he k
  rw [getD_take,if_pos hk,getD_lt (show k<L.length by omega)] at this
  simp only [Option.map_some,this]
 ·rw [List.getElem?_append_right (by rw [List.length_take,List.length_map]; omega),List.length_take,List.length_map,Nat.min_eq_left hm,List.getElem?_replicate]
  rcases Nat.lt_or_ge k n with hkn|hkn
  ·rw [if_pos (by omega),List.getElem?_range hkn]
   have:=he k
   rw [getD_take,if_neg (by omega)] at this
   simp only [Option.map_some,← this]; rfl
  ·rw [if_neg (by omega),List.getElem?_eq_none (by simpa using hkn)]; rfl
theorem E5 (f:List Nat) (n:Nat):(E8 f n).length=n:=by unfold E8; simp
theorem KI {f:List Nat} {n j:Nat} (h:j<n) (d:List Int):(E8 f n).getD j d=limbs (f.getD j 0):=by
 unfold E8
 rw [List.getD_eq_getElem?_getD,List.getElem?_map,List.getElem?_range h]; rfl
def jb (F:Nat→List Nat) (n:Nat):List (List (List Int)):=(List.range n).map fun j=>(List.range n).map fun i=>limbs ((F i).getD j 0)
theorem TQ {gx:Option bZ} {q:Nat} [NeZero q] (h:Fld gx q) {pts:List Nat} (hp:∀ p∈pts,p≤7) (hn:pts.length≤8) (ha:vF q pts) {F:Nat→List Nat} (hF:Units q pts F) (fl:Bool) {w:_}
  (hw:w=bg.l1 (gx,ints pts,(),0,(),(),(pts.length:Int),0,()) ((fl,pts.map limbs),(false,List.replicate pts.length 0),[(3,[])],())):
  w.1=true∧w.2.1=3∧∃ R P,w.2.2.2.1=((fl,pts.map limbs),(false,R),P,())∧Rows pts.length R P (fun j=>if j<pts.length then (List.range pts.length).map fun i=>limbs ((F i).getD j 0) else []):=by
 obtain ⟨n,hnn⟩:∃ n,n=pts.length:=⟨_,rfl⟩
 have hq:=h.gt
 have hqW:=h.lt
 rw [← hnn] at hw ⊢
 refine jo (g:=fun rq kn ke kr x y=>bg.g1 rq kn ke kr x y) hw
  (fun x y=>∃ (i:Nat) (R:List Nat) (P:wP),i≤n∧x=(gx,ints pts,(),0,(),(),(n:Int),(i:Int),())∧y=((fl,pts.map limbs),(false,R),P,())∧Rows n R P (fun j=>if j<n then (List.range i).map fun k=>limbs ((F k).getD j 0) else []))
  (fun x y=>n - x.2.2.2.2.2.2.2.1.toNat)
  ⟨0,_,_,Nat.zero_le _,rfl,rfl,by
   have:(fun j=>if j<n then (List.range 0).map fun k=>limbs ((F k).getD j 0) else [])=(fun _=>([]:List (List Int))):=funext fun j=>by split<;>rfl
   rw [this]; exact Rows.start n⟩ (by show n - ((0:Int)).toNat<((n:Int) - (0:Int)).toNat+1; omega)
  (Q:=fun w=>w.1=true∧w.2.1=3∧∃ R P,w.2.2.2.1=((fl,pts.map limbs),(false,R),P,())∧Rows n R P (fun j=>if j<n then (List.range n).map fun i=>limbs ((F i).getD j 0) else [])) ?_
 rintro x y K ⟨i,R,P,hi,rfl,rfl,hr⟩ hK
 by_cases hlt:i<n
 ·have hip:i<pts.length:=by omega
  have w1:IntKind.i64.wrap ((i:Int)+1)=((i+1:Nat):Int):=i64_in _ (by omega)
  have n1:cB.r 1=(true,[1,0,0,0]):=by rw [qo _ (by decide)]; rfl
  obtain ⟨L,m,f2,e,h1,h2,h3,h4⟩:=Lu h (f:=F i) (fun a hm=>Nat.lt_trans (hF.lt i hip a hm) hqW) (xs:=pts) (fun a hm=>by have:=hp a hm; unfold au; omega) (hF.len i hip) (by omega) ha
  have hlen:=hF.len i hip
  have c1:(ile 0 (n:Int)&&ile (n:Int) (n:Int))=true:=by rw [dP (by omega),dP (Int.le_refl _)]; rfl
  have c2:ile ((n:Int)*((32:Nat):Int)) 70368744177664=true:=dP (by omega)
  have c3:(ile 0 (i:Int)&&ilt (i:Int) (n:Int))=true:=rng hlt
  have w2:IntKind.i64.wrap ((n:Int) - (m:Int))=((n - m:Nat):Int):=by rw [i64_in _ (by omega)]; omega
  have c4:nle ((2*(m+(n - m))+512)*32) 70368744177664=true:=pY (by omega)
  have hpad:=Rq h2 h1 (hF.lt i hip) (n:=n) (by omega) (by omega) h4
  have ey:=O3 hF hip
  rw [← hnn] at ey
  obtain ⟨fl3,hfl3⟩:∃ b,b=((f2&&neq m 0)&&(List.replicate (n - m) ([0,0,0,0]:List Int)).isEmpty):=⟨_,rfl⟩
  obtain ⟨v,hv⟩:∃ v,v=bg.l2 (gx,ints pts,(),0,(),(),(n:Int),(i:Int),(),(n:Int),0,()) ((fl,pts.map limbs),(false,R),(fl3,E8 (F i) n),P,()):=⟨_,rfl⟩
  obtain ⟨v1,v2,v3,R',P',v4,v5⟩:=TP (z:=((n:Int),(i:Int))) (by omega) (fl,pts.map limbs) fl3 (E8 (F i) n) (E5 _ _) hr (fun j=>by
   show (if j<n then _ else _:List (List Int)).length≤1000
   split
   ·rw [List.length_map,List.length_range]; omega
   ·exact Nat.zero_le _) hv
  have hml:(List.take m (L.map limbs)).length=m:=by rw [List.length_take,List.length_map]; omega
  have e0:((0:Int) != 0)=false:=rfl
  have hil:(ints pts).length=n:=by rw [List.length_map]; exact hnn.symm
  simp only [bg.g1,Go.Own.lt,dZ (show (i:Int)<(n:Int) by omega),cond_true,hil,Int.toNat_natCast,c1,c2,c3,Bool.and_self,ak,n1,List.length_replicate,ey,e,show Nat.beq 1 0=false from rfl,cond_false,e0,w2,List.drop_zero,hml,c4,dP (show (0:Int)≤((n - m:Nat):Int) by omega),hpad,E5,← hfl3,← hv,v1,v3,v4,w1]
  refine hK _ _ ⟨i+1,R',P',hlt,rfl,rfl,?_⟩ ?_
  ·refine Eq.mp (congrArg (Rows n _ _) (funext fun j=> ?_)) v5
   by_cases hj:j<n
   ·rw [if_pos hj,if_pos hj,if_pos hj,KI hj,List.range_succ,List.map_append]; rfl
   ·rw [if_neg hj,if_neg hj,if_neg hj]
  ·show n - (((i+1:Nat):Int)).toNat<n - ((i:Int)).toNat
   omega
 ·have:i=n:=by omega
  subst this
  simp only [bg.g1,Go.Own.lt,d9 (show ¬ (i:Int)<(i:Int) by omega),cond_false]
  exact ⟨trivial,trivial,R,P,rfl,hr⟩
theorem any_false {pts:List Nat} (hp:∀ p∈pts,p≤7):((ints pts).any fun x=>decide (x<0)||decide (7<x))=false:=by
 rw [List.any_eq_false]
 intro x hx
 obtain ⟨p,hp',rfl⟩:=List.mem_map.1 hx
 have:=hp p hp'
 rw [decide_eq_false (by omega),decide_eq_false (by omega)]; decide
theorem Ij {pts:List Nat}:(ints pts).Nodup↔pts.Nodup:=by
 unfold List.Nodup ints
 rw [List.pairwise_map]
 exact ⟨fun h=>h.imp fun h2 e=>h2 (by rw [e]),fun h=>h.imp fun h2 e=>h2 (by omega)⟩
theorem Lr {gx:Option bZ} {q:Nat} [NeZero q] (h:Fld gx q) (hs:xQ q) {pts:List Nat} (hp:∀ p∈pts,p≤7) (hd:pts.Nodup) (hn:pts.length≤8):
  ∃ F,Units q pts F∧bg.r gx (ints pts)=(true,jb F pts.length,0):=by
 obtain ⟨rq,inv,hR,hFd⟩:=h.field
 have ha:=CK h.gt h.lt hs hp hd
 obtain ⟨F,hF⟩:=LG h.gt ha
 refine ⟨F,hF,?_⟩
 have hil:(ints pts).length=pts.length:=List.length_map _
 obtain ⟨b,t1,t2⟩:=Ls (ints pts) (by rw [hil]; omega)
 have hb:b=false:=by
  cases b with
  |false=>rfl
  |true=>exact absurd (Ij.2 hd) (t2.1 rfl)
 have O:=GH (ints pts) 0 (by rw [hil]; omega)
 rw [any_false hp] at O
 obtain ⟨v,hv⟩:∃ v,v=bg.l1 (gx,ints pts,(),0,(),(),(pts.length:Int),0,()) ((decide (pts.length=0),pts.map limbs),(false,List.replicate pts.length 0),[(3,[])],()):=⟨_,rfl⟩
 obtain ⟨v1,v2,R,P,v3,v4⟩:=TQ h hp hn ha hF _ hv
 have c1:(ile 0 (pts.length:Int)&&ile (pts.length:Int) (pts.length:Int))=true:=by rw [dP (by omega),dP (Int.le_refl _)]; rfl
 have c2:ile ((pts.length:Int)*((24:Nat):Int)) 70368744177664=true:=dP (by omega)
 have e1:([]:wP)++ [(3,[])]= [(3,[])]:=rfl
 have ew:(R.map fun r=>(P.getD r (0,[])).2)=jb F pts.length:=by
  rw [v4.all]
  unfold jb
  apply List.map_congr_left
  intro j hj
  rw [if_pos (List.mem_range.1 hj)]
 simp only [bg.r,bg.g,Go.Own.lt,hFd,ak,hR.vW,cond_false,hil,d9 (show ¬ (8:Int)<(pts.length:Int) by omega),O,t1,hb,TR gx pts hp (by omega) [],e1,List.length_nil,Int.toNat_natCast,c1,c2,Bool.and_self,← hv,v1,v2,v3,show Nat.beq 3 0=false from rfl,ew]
end Go.Own
set_option linter.unusedVariables false
set_option linter.unusedSimpArgs false
namespace Go.Own
open Go.IntWalk
theorem OZ {q:Nat} [NeZero q] {xs:List Nat} (ha:vF q xs) {P:List (Fin q)} (hl:P.length≤xs.length) (h:∀ k,k<xs.length→Pol.ev P (fz q (xs.getD k 0))=0):∀ n,Pol.cf P n=0:=by
 have key:∀ m,m≤xs.length→∃ g:List (Fin q),Pol.PE P (Pol.TL (toF q (xs.take m)) g)∧g.length=P.length - m:=by
  intro m
  induction m with
  |zero=>intro _; exact ⟨P,fun _=>rfl,rfl⟩
  |succ m ih=>
   intro hm
   obtain ⟨g,h1,h2⟩:=ih (by omega)
   obtain ⟨s,hs⟩:=ha m hm
   have hv:=h m hm
   rw [Pol.Am h1,Pol.Ld] at hv
   have h0:Pol.ev g (fz q (xs.getD m 0))=0:=by
    have:s*(Pol.sP (toF q (xs.take m)) (fz q (xs.getD m 0))*Pol.ev g (fz q (xs.getD m 0)))=0:=by rw [hv]; grind
    grind
   have hd:=Pol.NP (fz q (xs.getD m 0)) g
   rw [h0] at hd
   have hg:Pol.PE g (Pol.Ml (fz q (xs.getD m 0)) (Pol.dv (fz q (xs.getD m 0)) g)):=fun n=>by
    rw [hd n,Pol.gQ]
    have:Pol.cf [(0:Fin q)] n=0:=by
     cases n with
     |zero=>rfl
     |succ n=>rw [Pol.iW,Pol.iY]
    rw [this]; grind
   have ax:toF q (xs.take (m+1))=toF q (xs.take m)++ [fz q (xs.getD m 0)]:=(jV (f:=fz q) hm).symm
   refine ⟨Pol.dv (fz q (xs.getD m 0)) g,?_,by rw [Pol.IL,h2]; omega⟩
   rw [ax,Pol.Ea]
   exact h1.trans (Pol.PE.T hg)
 obtain ⟨g,h1,h2⟩:=key xs.length (Nat.le_refl _)
 have:g= []:=List.length_eq_zero_iff.1 (by omega)
 subst this
 intro n
 rw [h1 n,Pol.GD]
theorem Er {q:Nat} [NeZero q] {xs:List Nat} (ha:vF q xs) {a b:List (Fin q)} (hla:a.length≤xs.length) (hlb:b.length≤xs.length) (h:∀ k,k<xs.length→Pol.ev a (fz q (xs.getD k 0))=Pol.ev b (fz q (xs.getD k 0))):Pol.PE a b:=by
 have z:=OZ ha (P:=Pol.kJ a (Pol.pR (-1) b)) (by rw [tX]; unfold Pol.pR; rw [List.length_map]; omega) (fun k hk=>by
  rw [Pol.xJ,Pol.DL,h k hk]; grind)
 intro n
 have:=z n
 rw [Pol.gQ,Pol.kS] at this
 grind
def yI (q:Nat) [NeZero q] (F:Nat→List Nat) (ys:List Nat):Nat→List (Fin q)
 |0=> []
 |i+1=>Pol.kJ (yI q F ys i) (Pol.pR (fz q (ys.getD i 0)) (toF q (F i)))
theorem Gl {q:Nat} [NeZero q] {F:Nat→List Nat} {ys:List Nat} {d:Nat}:∀ n,(∀ i,i<n→(F i).length≤d)→(yI q F ys n).length≤d
 |0,_=>Nat.zero_le _
 |n+1,h=>by
  have ih:=Gl (ys:=ys) (q:=q) n (fun i hi=>h i (by omega))
  have h1:=h n (by omega)
  show (Pol.kJ _ _).length≤d
  rw [tX]
  unfold Pol.pR toF
  rw [List.length_map,List.length_map]; omega
theorem JY {q:Nat} [NeZero q] {pts:List Nat} {F:Nat→List Nat} (hF:Units q pts F) (ys:List Nat) {k:Nat} (hk:k<pts.length):∀ m,m≤pts.length→Pol.ev (yI q F ys m) (fz q (pts.getD k 0))=if k<m then fz q (ys.getD k 0) else 0
 |0,_=>by rw [if_neg (Nat.not_lt_zero _)]; rfl
 |m+1,hm=>by
  show Pol.ev (Pol.kJ (yI q F ys m) (Pol.pR (fz q (ys.getD m 0)) (toF q (F m)))) _=_
  rw [Pol.xJ,Pol.DL,JY hF ys hk m (by omega),← vC,hF.val m (by omega) k hk]
  by_cases e:k=m
  ·subst e
   rw [if_neg (Nat.lt_irrefl k),if_pos rfl,if_pos (Nat.lt_succ_self k),IE]; grind
  ·rw [if_neg e,lu]
   by_cases e2:k<m
   ·rw [if_pos e2,if_pos (by omega)]; grind
   ·rw [if_neg e2,if_neg (by omega)]; grind
end Go.Own
set_option linter.unusedVariables false
set_option linter.unusedSimpArgs false
namespace Go.Own
open Go.IntWalk
theorem RZ (n k:Nat) (hk:k<256):gB.r (limbs n) (k:Int)=(true,((n.testBit k).toNat:Int)):=by
 have e:(ile 0 (k:Int)&&ilt (k:Int) 256)=true:=by rw [dP (by omega),dZ (by omega)]; rfl
 simp only [gB.r,gB.g,Go.Own.lt,Sb,ak,dP (show (0:Int)≤(k:Int) by omega),dZ (show (k:Int)<256 by omega),cond_true,e,Bool.and_self,Int.toNat_natCast,jA n k hk]
 cases n.testBit k<;>rfl
theorem Gj (E t:Nat):E/2^t=2*(E/2^(t+1))+(E.testBit t).toNat:=by
 rw [Nat.toNat_testBit,Nat.pow_succ,← Nat.div_div_eq_div_mul]; omega
theorem Oq (a E m:Nat) (h1:1<m) (hm:m<9223372036854775808) (hE:E<au):di.r (a:Int) (limbs E) (m:Int)=(true,((a^E%m:Nat):Int)):=by
 have h0:0<m:=by omega
 obtain ⟨T,hT⟩:∃ T,T=bI E:=⟨_,rfl⟩
 have hT2:T≤256:=by rw [hT]; exact rf hE
 have z:ieq (m:Int) 0=false:=FZ (by omega)
 have key:di.l0 ((a:Int),(m:Int),(),0,((a^(E/2^(T - 0))%m:Nat):Int),(T:Int) - ((0:Nat):Int) - 1,()) (limbs E,())=(true,1,((a:Int),(m:Int),(),0,((a^(E/2^(T - T))%m:Nat):Int),(T:Int) - (T:Int) - 1,()),(limbs E,()),(),()):=by
  refine bP (g:=fun rq kn ke kr x y=>di.g0 rq kn ke kr x y) T (fun i=>((a:Int),(m:Int),(),0,((a^(E/2^(T - i))%m:Nat):Int),(T:Int) - (i:Int) - 1,())) (fun _=>(limbs E,())) _ ?_ ?_ _ 0 (Nat.zero_le _) (by show T - 0<((T:Int) - ((0:Nat):Int) - 1 - (0:Int)+1).toNat+1; omega)
  ·intro i R hi
   obtain ⟨t,ht⟩:∃ t,T - i=t+1:=⟨T - i - 1,by omega⟩
   have e1:(T:Int) - (i:Int) - 1=(t:Int):=by omega
   have e2:T - (i+1)=t:=by omega
   have w1:IntKind.i64.wrap ((t:Int) - 1)=(T:Int) - ((i+1:Nat):Int) - 1:=by rw [i64_in _ (by omega)]; omega
   obtain ⟨K,hK⟩:∃ K,K=E/2^(t+1):=⟨_,rfl⟩
   have hd:=Gj E t
   rw [← hK] at hd
   have sq:a^K%m*(a^K%m)%m=a^(2*K)%m:=by rw [← Nat.mul_mod,← Nat.pow_add]; congr 2; omega
   have m1:=J7 (a^K%m) (a^K%m) m h0 hm
   rw [sq] at m1
   have m2:=J7 (a^(2*K)%m) a m h0 hm
   rw [Nat.mod_mul_mod,← Nat.pow_succ] at m2
   have b1:=RZ E t (by omega)
   simp only [di.g0,Go.Own.lt,ht,e1,e2,← hK,dP (show (0:Int)≤(t:Int) by omega),cond_true,eY.fK,gB.fK,m1,b1,ak]
   cases hb:E.testBit t with
   |true=>
    rw [hb] at hd
    have hd':E/2^t=(2*K).succ:=by rw [hd]; rfl
    simp only [hd',m2,w1,ak,tL,cond_true]
   |false=>
    rw [hb] at hd
    have hd':E/2^t=2*K:=by rw [hd]; rfl
    simp only [hd',w1,tL,cond_false]
  ·intro R
   have:¬ (0:Int)≤(T:Int) - (T:Int) - 1:=by omega
   simp only [di.g0,Go.Own.lt,tu this,cond_false]
 have hz:E/2^T=0:=Nat.div_eq_of_lt (by rw [hT]; exact nO E)
 have e1:(1:Int).tmod (m:Int)=((1%m:Nat):Int):=Ev 1 m
 have w1:IntKind.i64.wrap ((T:Int) - 1)=(T:Int) - 1:=i64_in _ (by omega)
 have e3:(T:Int) - ((0:Nat):Int) - 1=(T:Int) - 1:=by omega
 rw [Nat.sub_zero,hz,Nat.pow_zero,Nat.sub_self,Nat.pow_zero,Nat.div_one,e3] at key
 simp only [di.r,di.g,Go.Own.lt,e1,z,Bool.not_false,ak,Q9 E hE,← hT,w1,key]
end Go.Own
set_option linter.unusedVariables false
set_option linter.unusedSimpArgs false
namespace Go.Own
open Go.IntWalk
structure GF (gv:bZ) (p q g:Nat):Prop where
 grp:Grp gv p q g
 p1:1<p
 pW:p<au
 q1:1<q
 qW:q<au
 gW:g<au
 ord:g^q%p=1
section
variable {gv:bZ} {p q g:Nat}
theorem GF.ring (h:GF gv p q g):∃ rp i1,Rng rp p i1 (au%p) (au*au%p)∧dL.r (some gv)=(true,rp):=by
 obtain ⟨rp,rq,i1,i2,e,hR,hQ⟩:=h.grp
 subst e
 exact ⟨rp,i1,hR,rfl⟩
theorem GF.fld (h:GF gv p q g):Fld (some gv) q:=h.grp.fld
theorem GF.gen (h:GF gv p q g):nP.r (some gv)=(true,limbs g):=by
 obtain ⟨rp,rq,i1,i2,e,hR,hQ⟩:=h.grp
 subst e; rfl
theorem OA (h:GF gv p q g) {a e:Nat} (ha:a<au) (he:e<au):l8.r (some gv) (limbs a) (limbs e)=(true,limbs (a^e%p)):=by
 obtain ⟨rp,i1,hR,hr⟩:=h.ring
 simp only [l8.r,l8.g,Go.Own.lt,hr,GQ hR ha he,ak]
theorem Ka (h:GF gv p q g) {e:Nat} (he:e<au):kL.r (some gv) (limbs e)=(true,limbs (g^e%p)):=by
 simp only [kL.r,kL.g,Go.Own.lt,h.gen,OA h h.gW he,ak]
def InG (p q a:Nat):Bool:=decide (¬ a=0)&&(decide (a<p)&&decide (a^q%p=1))
theorem Q0 (h:GF gv p q g) {a:Nat} (ha:a<au):kM.r (some gv) (limbs a)=(true,InG p q a):=by
 obtain ⟨rp,i1,hR,hr⟩:=h.ring
 have hp0:0<p:=by have:=h.p1; omega
 have e1:cB.r 1=(true,limbs 1):=by rw [qo _ (by decide)]; rfl
 have hlt:a^q%p<au:=Nat.lt_trans (Nat.mod_lt _ hp0) h.pW
 have E:=eqL hlt (show 1<au by decide)
 have Z:=eqZ ha
 unfold InG
 simp only [kM.r,kM.g,Go.Own.lt,hr,Sg hR ha,QG h.fld,GQ hR ha h.qW,e1,E,Z,ak]
 by_cases h0:a=0
 ·simp only [h0,decide_true,Bool.not_true,cond_false,not_true_eq_false,decide_false,Bool.false_and]
 ·simp only [h0,decide_false,Bool.not_false,cond_true,not_false_eq_true,decide_true,Bool.true_and]
  cases decide (a<p)<;>rfl
theorem Si (h:GF gv p q g) {a b:Nat} (ha:a<au) (hb:b<au):oI.r (some gv) (limbs a) (limbs b)=(true,limbs (a*b%p)):=by
 obtain ⟨rp,i1,hR,hr⟩:=h.ring
 have hp0:0<p:=by have:=h.p1; omega
 have e1:cB.r 1=(true,limbs 1):=by rw [qo _ (by decide)]; rfl
 have m1:=Jf hR (show 1<au by decide) ha
 rw [Nat.one_mul] at m1
 have m2:=Jf hR (Nat.lt_trans (Nat.mod_lt a hp0) h.pW) hb
 rw [Nat.mod_mul_mod] at m2
 have key:fI.l0 (some gv,(),(),[limbs a,limbs b],2,0,()) ([0,0,0,0],limbs 1,())=(true,1,(some gv,(),(),[limbs a,limbs b],2,2,()),([0,0,0,0],limbs (a*b%p),()),(),()):=by
  have z1:IntKind.i64.wrap ((0:Int)+1)=1:=rfl
  have z2:IntKind.i64.wrap ((1:Int)+1)=2:=rfl
  have d0:([limbs a,limbs b]).getD ((0:Int)).toNat [0,0,0,0]=limbs a:=rfl
  have d1:([limbs a,limbs b]).getD ((1:Int)).toNat [0,0,0,0]=limbs b:=rfl
  have bl:(([limbs a,limbs b]).length:Int)=2:=rfl
  refine Hr (g:=fun rq kn ke kr x y=>fI.g0 rq kn ke kr x y) (x1:=(some gv,(),(),[limbs a,limbs b],2,1,())) (y1:=([0,0,0,0],limbs (a%p),())) (x2:=(some gv,(),(),[limbs a,limbs b],2,2,())) (y2:=([0,0,0,0],limbs (a*b%p),())) ?_ ?_ ?_ _ ?_
  ·intro R
   simp only [fI.g0,Go.Own.lt,show ilt (0:Int) 2=true from rfl,cond_true,d0,bl,show ile (0:Int) 0=true from rfl,Bool.and_self,ak,hr,m1,z1]
  ·intro R
   simp only [fI.g0,Go.Own.lt,show ilt (1:Int) 2=true from rfl,cond_true,d1,bl,show ile (0:Int) 1=true from rfl,Bool.and_self,ak,hr,m2,z2]
  ·intro R
   simp only [fI.g0,Go.Own.lt,show ilt (2:Int) 2=false from rfl,cond_false]
  ·show 3≤((2:Int) - 0).toNat+1
   decide
 have bl:(([limbs a,limbs b]).length:Int)=2:=rfl
 simp only [oI.r,oI.g,fI.r,fI.g,Go.Own.lt,e1,bl,key,ak]
theorem Ox (h:GF gv p q g) {bs es:List Nat} (hb:∀ b∈bs,b<au) (he:∀ e∈es,e<au) (hl:bs.length=es.length) (h64:bs.length≤64):jC.r (some gv) (bs.map limbs) (es.map limbs)=(true,limbs (fH (fun e=>e) bs es%p),0):=by
 obtain ⟨rp,i1,hR,hr⟩:=h.ring
 simp only [jC.r,jC.g,Go.Own.lt,hr,Ov hR hb he hl h64,ak]
def uI (q:Nat) (a b:List Nat):Nat→Nat
 |0=>0
 |k+1=>(uI q a b k+a.getD k 0*b.getD k 0%q)%q
theorem J3 {q:Nat} (h0:0<q) (a b:List Nat):∀ k,uI q a b k<q
 |0=>h0
 |k+1=>Nat.mod_lt _ h0
theorem Tq {gx:Option bZ} (h:Fld gx q) {a b:List Nat} (ha:∀ x∈a,x<au) (hb:∀ x∈b,x<au) (hl:a.length=b.length) (hn:a.length≤1073741824):ja.r gx (a.map limbs) (b.map limbs)=(true,limbs (uI q a b a.length),0):=by
 obtain ⟨rq,inv,hR,hF⟩:=h.field
 have h0:0<q:=by have:=h.gt; omega
 have key:ja.l0 (gx,a.map limbs,b.map limbs,(),0,(),(a.length:Int),((0:Nat):Int),()) ([0,0,0,0],limbs (uI q a b 0),())=(true,1,(gx,a.map limbs,b.map limbs,(),0,(),(a.length:Int),(a.length:Int),()),([0,0,0,0],limbs (uI q a b a.length),()),(),()):=by
  refine bP (g:=fun rq kn ke kr x y=>ja.g0 rq kn ke kr x y) a.length (fun j=>(gx,a.map limbs,b.map limbs,(),0,(),(a.length:Int),(j:Int),())) (fun j=>([0,0,0,0],limbs (uI q a b j),())) _ ?_ ?_ _ 0 (Nat.zero_le _) (by show a.length - 0<((a.length:Int) - ((0:Nat):Int)).toNat+1; omega)
  ·intro j R hj
   have g1:(a.map limbs).getD j [0,0,0,0]=limbs (a.getD j 0):=getD_map hj
   have g2:(b.map limbs).getD j [0,0,0,0]=limbs (b.getD j 0):=getD_map (by omega)
   have M:=AZ h (ha _ (gV hj)) (hb _ (gV (show j<b.length by omega)))
   have A:=A7 h (Nat.lt_trans (J3 h0 a b j) h.lt) (Nat.lt_trans (Nat.mod_lt (a.getD j 0*b.getD j 0) h0) h.lt)
   have e1:(uI q a b j+a.getD j 0*b.getD j 0%q)%q=uI q a b (j+1):=rfl
   have w1:IntKind.i64.wrap ((j:Int)+1)=((j+1:Nat):Int):=i64_in _ (by omega)
   simp only [ja.g0,Go.Own.lt,List.length_map,← hl,dZ (show (j:Int)<(a.length:Int) by omega),dP (show (0:Int)≤(j:Int) by omega),cond_true,Bool.and_self,Int.toNat_natCast,ak,g1,g2,M,A,e1,w1]
  ·intro R
   simp only [ja.g0,Go.Own.lt,d9 (show ¬ (a.length:Int)<(a.length:Int) by omega),cond_false]
 have z:limbs (uI q a b 0)= [0,0,0,0]:=fq
 rw [z] at key
 have k2:ja.l0 (gx,a.map limbs,b.map limbs,(),0,(),(a.length:Int),0,()) ([0,0,0,0],[0,0,0,0],())=_:=key
 have c1:((a.length:Int) != (a.length:Int))=false:=by simp
 simp only [ja.r,ja.g,Go.Own.lt,hF,ak,hR.vW,cond_false,List.length_map,← hl,c1,k2]
def toN (p g:Nat) (f:List Nat) (n:Nat):List Nat:=(List.range n).map fun k=>g^(f.getD k 0)%p
theorem Pd {f:List Nat} {n:Nat}:(toN p g f n).length=n:=by unfold toN; simp
theorem Rh (h:GF gv p q g) {f:List Nat} {n:Nat}:∀ a∈toN p g f n,a<p:=fun a ha=>by
 unfold toN at ha
 obtain ⟨k,_,rfl⟩:=List.mem_map.1 ha
 exact Nat.mod_lt _ (by have:=h.p1; omega)
def toA (p g:Nat) (f:List Nat) (n j:Nat):List (List Int):=(List.range n).map fun k=>if k<j then limbs (g^(f.getD k 0)%p) else [0,0,0,0]
theorem Jl {f:List Nat} {n j:Nat} (hj:j<n):(toA p g f n j).set j (limbs (g^(f.getD j 0)%p))=toA p g f n (j+1):=by
 unfold toA
 apply List.ext_getElem?
 intro k
 rw [List.getElem?_set,List.length_map,List.length_range,List.getElem?_map,List.getElem?_map]
 rcases Nat.lt_or_ge k n with hk|hk
 ·rw [List.getElem?_range hk]
  by_cases e:j=k
  ·subst e
   rw [if_pos rfl,if_pos hj]
   simp only [Option.map_some,if_pos (Nat.lt_succ_self j)]
  ·rw [if_neg e]
   simp only [Option.map_some]
   congr 1
   by_cases e2:k<j
   ·rw [if_pos e2,if_pos (by omega)]
   ·rw [if_neg e2,if_neg (by omega)]
 ·rw [if_neg (by omega),List.getElem?_eq_none (by simpa using hk)]; rfl
theorem L8 {α:Type} (l:List α) (i:Nat) (a b:α):(l.set i a).set i b=l.set i b:=by simp
theorem Tc (h:GF gv p q g) {f:List Nat} (hf:∀ a∈f,a<au) {n:Nat} (hn:n≤1000) (hfl:f.length≤1073741824):eG.l0 (some gv,f.map limbs,(),0,(),(n:Int),0,()) ((false,toA p g f n 0),())=(true,1,(some gv,f.map limbs,(),0,(),(n:Int),(n:Int),()),((false,toA p g f n n),()),(),()):=by
 have al:∀ j,(toA p g f n j).length=n:=fun j=>by unfold toA; simp
 have P0:=Ka h (show 0<au by decide)
 rw [fq] at P0
 have key:eG.l0 (some gv,f.map limbs,(),0,(),(n:Int),((0:Nat):Int),()) ((false,toA p g f n 0),())=(true,1,(some gv,f.map limbs,(),0,(),(n:Int),(n:Int),()),((false,toA p g f n n),()),(),()):=by
  refine bP (g:=fun rq kn ke kr x y=>eG.g0 rq kn ke kr x y) n (fun j=>(some gv,f.map limbs,(),0,(),(n:Int),(j:Int),())) (fun j=>((false,toA p g f n j),())) _ ?_ ?_ _ 0 (Nat.zero_le _) (by show n - 0<((n:Int) - ((0:Nat):Int)).toNat+1; omega)
  ·intro j R hj
   have w1:IntKind.i64.wrap ((j:Int)+1)=((j+1:Nat):Int):=i64_in _ (by omega)
   by_cases hjf:j<f.length
   ·have g1:(f.map limbs).getD j [0,0,0,0]=limbs (f.getD j 0):=getD_map hjf
    have P1:=Ka h (hf _ (gV hjf))
    simp only [eG.g0,Go.Own.lt,dZ (show (j:Int)<(n:Int) by omega),cond_true,P0,ak,al,List.length_set,List.length_map,dP (show (0:Int)≤(j:Int) by omega),Bool.and_self,Int.toNat_natCast,dZ (show (j:Int)<(f.length:Int) by omega),g1,P1,L8,Jl hj,w1]
   ·have g0:f.getD j 0=0:=je (by omega)
    have e:=Jl (p:=p) (g:=g) (f:=f) hj
    rw [g0] at e
    simp only [eG.g0,Go.Own.lt,dZ (show (j:Int)<(n:Int) by omega),cond_true,P0,ak,al,List.length_map,dP (show (0:Int)≤(j:Int) by omega),Bool.and_self,Int.toNat_natCast,d9 (show ¬ (j:Int)<(f.length:Int) by omega),cond_false,e,w1]
  ·intro R
   simp only [eG.g0,Go.Own.lt,d9 (show ¬ (n:Int)<(n:Int) by omega),cond_false]
 exact key
theorem TS (h:GF gv p q g) {f:List Nat} (hf:∀ a∈f,a<au) {n:Nat} (h1:1≤n) (h7:n≤7) (hfl:f.length≤1073741824) (ht:tl (qP q f) f.length≤n):eG.r (some gv) (f.map limbs) (n:Int)=(true,(toN p g f n).map limbs,0):=by
 obtain ⟨rq,inv,hR,hF⟩:=h.fld.field
 have T:=D8 h.fld hf hfl
 have e0:List.replicate n [0,0,0,0]=toA p g f n 0:=by
  unfold toA
  apply List.ext_getElem?
  intro k
  rw [List.getElem?_replicate,List.getElem?_map]
  split
  ·rename_i hk; rw [List.getElem?_range hk]; rfl
  ·rename_i hk; rw [List.getElem?_eq_none (by simpa using hk)]; rfl
 have e1:toA p g f n n=(toN p g f n).map limbs:=by
  unfold toA toN
  rw [List.map_map]
  exact List.map_congr_left fun k hk=>if_pos (List.mem_range.1 hk)
 have c1:(ile 0 (n:Int)&&ile (n:Int) (n:Int))=true:=by rw [dP (by omega),dP (Int.le_refl _)]; rfl
 have c2:ile ((n:Int)*((32:Nat):Int)) 70368744177664=true:=dP (by omega)
 simp only [eG.r,eG.g,Go.Own.lt,hF,ak,hR.vW,cond_false,d9 (show ¬ (n:Int)<1 by omega),d9 (show ¬ (7:Int)<(n:Int) by omega),T,show Nat.beq 1 0=false from rfl,d9 (show ¬ (n:Int)<(tl (qP q f) f.length:Int) by omega),Int.toNat_natCast,e0,c1,c2,Bool.and_self,Tc h hf (show n≤1000 by omega) hfl,e1]
def atN (p:Nat) (c:List Nat) (i:Nat):Nat:=fH (fun e=>e) c ((List.range c.length).map fun j=>i^j)%p
theorem Tt (h:GF gv p q g) {c:List Nat} (hc:∀ a∈c,a<au) (h7:c.length≤7) {i:Nat} (hi:i≤7):cu.r (some gv) (c.map limbs) (i:Int)=(true,limbs (atN p c i)):=by
 have pw:∀ j,j≤7→i^j≤823543:=fun j hj=>Nat.le_trans (Nat.pow_le_pow_left hi j) (Nat.le_trans (Nat.pow_le_pow_right (by decide) hj) (by decide))
 have key:cu.l0 (some gv,c.map limbs,(i:Int),(),(),((i^0:Nat):Int),(c.length:Int),((0:Nat):Int),()) ([0,0,0,0],(decide (0=0),(List.range 0).map fun j=>limbs (i^j)),())=(true,1,(some gv,c.map limbs,(i:Int),(),(),((i^c.length:Nat):Int),(c.length:Int),(c.length:Int),()),([0,0,0,0],(decide (c.length=0),(List.range c.length).map fun j=>limbs (i^j)),()),(),()):=by
  refine bP (g:=fun rq kn ke kr x y=>cu.g0 rq kn ke kr x y) c.length (fun j=>(some gv,c.map limbs,(i:Int),(),(),((i^j:Nat):Int),(c.length:Int),(j:Int),())) (fun j=>([0,0,0,0],(decide (j=0),(List.range j).map fun j=>limbs (i^j)),())) _ ?_ ?_ _ 0 (Nat.zero_le _) (by show c.length - 0<((c.length:Int) - ((0:Nat):Int)).toNat+1; omega)
  ·intro j R hj
   have hpj:=pw j (by omega)
   have hpj1:=pw (j+1) (by omega)
   have n1:cB.r ((i^j:Nat):Int)=(true,limbs (i^j)):=by rw [qo _ (by omega)]; rfl
   have c1:nle ((2*(j+1)+512)*32) 70368744177664=true:=pY (by omega)
   have s1:((List.range j).map fun j=>limbs (i^j))++ [limbs (i^j)]=(List.range (j+1)).map fun j=>limbs (i^j):=by rw [List.range_succ,List.map_append]; rfl
   have d1:decide (j+1=0)=false:=decide_eq_false (by omega)
   have e1:((i^j:Nat):Int)*(i:Int)=((i^(j+1):Nat):Int):=by rw [Nat.pow_succ,Int.natCast_mul]
   have w0:IntKind.i64.wrap ((i^(j+1):Nat):Int)=((i^(j+1):Nat):Int):=i64_in _ (by omega)
   have w1:IntKind.i64.wrap ((j:Int)+1)=((j+1:Nat):Int):=i64_in _ (by omega)
   simp only [cu.g0,Go.Own.lt,dZ (show (j:Int)<(c.length:Int) by omega),cond_true,n1,ak,Bool.and_false,s1,List.length_map,List.length_range,c1,e1,w0,w1,d1]
  ·intro R
   simp only [cu.g0,Go.Own.lt,d9 (show ¬ (c.length:Int)<(c.length:Int) by omega),cond_false]
 have k2:cu.l0 (some gv,c.map limbs,(i:Int),(),(),1,(c.length:Int),0,()) ([0,0,0,0],(true,[]),())=_:=key
 have e1:((List.range c.length).map fun j=>limbs (i^j))=((List.range c.length).map fun j=>i^j).map limbs:=by rw [List.map_map]; rfl
 have M:=Ox h hc (es:=(List.range c.length).map fun j=>i^j) (fun e he=>by
  obtain ⟨j,hj,rfl⟩:=List.mem_map.1 he
  have:=pw j (by have:=List.mem_range.1 hj; omega)
  unfold au; omega) (by simp) (by omega)
 unfold atN
 simp only [cu.r,cu.g,Go.Own.lt,List.length_map,d9 (show ¬ (i:Int)<0 by omega),d9 (show ¬ (7:Int)<(i:Int) by omega),d9 (show ¬ (7:Int)<(c.length:Int) by omega),cond_false,k2,e1,M,ak]
theorem Q8 (h:GF gv p q g) {c:List Nat} (hc:∀ a∈c,a<au) (h1:1≤c.length) (h7:c.length≤7) (ha:∀ a∈c,InG p q a=true):eP.r (some gv) (c.map limbs)=(true,true):=by
 have key:aB.l0 (c.map limbs,(),0,(c.length:Int),((0:Nat):Int),()) (some gv,())=(true,1,(c.map limbs,(),0,(c.length:Int),(c.length:Int),()),(some gv,()),(0,()),(none,())):=by
  refine bP (g:=fun rq kn ke kr x y=>aB.g0 rq kn ke kr x y) c.length (fun j=>(c.map limbs,(),0,(c.length:Int),(j:Int),())) (fun _=>(some gv,())) _ ?_ ?_ _ 0 (Nat.zero_le _) (by show c.length - 0<((c.length:Int) - ((0:Nat):Int)).toNat+1; omega)
  ·intro j R hj
   have g1:(c.map limbs).getD j [0,0,0,0]=limbs (c.getD j 0):=getD_map hj
   have I1:=Q0 h (hc _ (gV hj))
   rw [ha _ (gV hj)] at I1
   have w1:IntKind.i64.wrap ((j:Int)+1)=((j+1:Nat):Int):=i64_in _ (by omega)
   simp only [aB.g0,jK.r,jK.g,Go.Own.lt,List.length_map,dZ (show (j:Int)<(c.length:Int) by omega),dP (show (0:Int)≤(j:Int) by omega),Bool.and_self,cond_true,Int.toNat_natCast,g1,I1,ak,Bool.not_true,cond_false,w1]
  ·intro R
   simp only [aB.g0,Go.Own.lt,d9 (show ¬ (c.length:Int)<(c.length:Int) by omega),cond_false]
 have k2:aB.l0 (c.map limbs,(),0,(c.length:Int),0,()) (some gv,())=_:=key
 simp only [eP.r,eP.g,bF.r,bF.g,aB.r,aB.g,Go.Own.lt,List.length_map,dP (show (1:Int)≤(c.length:Int) by omega),dP (show (c.length:Int)≤7 by omega),cond_true,k2,ak,show Nat.beq 1 0=false from rfl,cond_false,tu (show ¬ (0:Int)≤ -1 by decide),Bool.not_false]
theorem Ke (h:GF gv p q g) {c:List Nat} (hc:∀ a∈c,a<au) (h1:1≤c.length) (h7:c.length≤7) (ha:∀ a∈c,InG p q a=true) {i y:Nat} (hi:1≤i) (hi7:i≤7) (hy:y<q):dY.r (some gv) (c.map limbs) ((i:Int),(limbs y,()))=(true,decide (g^y%p=atN p c i)):=by
 obtain ⟨rq,inv,hR,hF⟩:=h.fld.field
 have hyW:y<au:=Nat.lt_trans hy h.qW
 have hp0:0<p:=by have:=h.p1; omega
 have I:=Sg hR hyW
 rw [decide_eq_true hy] at I
 have E:=eqL (Nat.lt_trans (Nat.mod_lt (g^y) hp0) h.pW) (Nat.lt_trans (show atN p c i<p from Nat.mod_lt _ hp0) h.pW)
 simp only [dY.r,dY.g,pO.r,pO.g,Go.Own.lt,dP (show (1:Int)≤(i:Int) by omega),dP (show (i:Int)≤7 by omega),cond_true,hF,I,ak,Q8 h hc h1 h7 ha,Ka h hyW,Tt h hc h7 hi7,E]
end
end Go.Own
set_option linter.unusedVariables false
set_option linter.unusedSimpArgs false
namespace Go.Own
open Go.IntWalk
section
variable {gv:bZ} {p q g:Nat}
theorem Jy (h:GF gv p q g) (a:Nat):g^(a%q)%p=g^a%p:=by
 have e:a=q*(a/q)+a%q:=(Nat.div_add_mod a q).symm
 have h1:g^(q*(a/q))%p=1:=by
  rw [Nat.pow_mul,Nat.pow_mod,h.ord,Nat.one_pow]; exact Nat.mod_eq_of_lt h.p1
 conv=>rhs; rw [e,Nat.pow_add,Nat.mul_mod,h1,Nat.one_mul,Nat.mod_mod]
theorem ME (h:GF gv p q g) {a b:Nat} (e:a%q=b%q):g^a%p=g^b%p:=by rw [← Jy h a,e,Jy h b]
theorem Nj (h:GF gv p q g) (a:Nat):InG p q (g^a%p)=true:=by
 have hp0:0<p:=by have:=h.p1; omega
 have e:(g^a%p)^q%p=1:=by
  rw [← Nat.pow_mod,← Nat.pow_mul,Nat.mul_comm,Nat.pow_mul,Nat.pow_mod,h.ord,Nat.one_pow]; exact Nat.mod_eq_of_lt h.p1
 have h0:¬ g^a%p=0:=fun hz=>by
  rw [hz,Nat.zero_pow (by have:=h.q1; omega),Nat.zero_mod] at e; cases e
 unfold InG
 rw [decide_eq_true h0,decide_eq_true (Nat.mod_lt _ hp0),decide_eq_true e]; rfl
theorem RD (h:GF gv p q g) (f:List Nat) (n:Nat):∀ a∈toN p g f n,InG p q a=true:=fun a ha=>by
 unfold toN at ha
 obtain ⟨k,_,rfl⟩:=List.mem_map.1 ha
 exact Nj h _
def wY (pts:List Nat) (y:Nat→Nat):List RY:=(List.range pts.length).map fun k=>(((pts.getD k 0:Nat):Int),(limbs (y k),()))
def om (p q g c0:Nat) (F:Nat→List Nat) (y:List Nat) (n:Nat):List Nat:=(List.range n).map fun j=>(c0^((F 0).getD j 0)%p)*(g^(uI q ((List.range n).map fun i=>(F i).getD j 0) y n)%p)%p
def ysF (y:Nat→Nat) (m:Nat):List Nat:=0::(List.range m).map y
theorem LA (y:Nat→Nat) (m:Nat):ysF y (m+1)=ysF y m++ [y m]:=by unfold ysF; rw [List.range_succ,List.map_append]; rfl
theorem QF (gx:Option bZ) (c0:List Int) {pts:List Nat} (hp:∀ p∈pts,1≤p∧p≤7) (hn:pts.length≤1000) (y:Nat→Nat):
  bJ.l0 (gx,(),(),0,(),(),wY pts y,(pts.length:Int),0,()) (c0,(false,[0]),(false,[[0,0,0,0]]),())=(true,1,(gx,(),(),0,(),(),wY pts y,(pts.length:Int),(pts.length:Int),()),(c0,(false,ints (0::pts)),(false,(ysF y pts.length).map limbs),()),((),0,()),()):=by
 have hsl:(wY pts y).length=pts.length:=by unfold wY; simp
 have key:bJ.l0 (gx,(),(),0,(),(),wY pts y,(pts.length:Int),((0:Nat):Int),()) (c0,(false,ints (0::pts.take 0)),(false,(ysF y 0).map limbs),())=(true,1,(gx,(),(),0,(),(),wY pts y,(pts.length:Int),(pts.length:Int),()),(c0,(false,ints (0::pts.take pts.length)),(false,(ysF y pts.length).map limbs),()),((),0,()),()):=by
  refine bP (g:=fun rq kn ke kr x y=>bJ.g0 rq kn ke kr x y) pts.length (fun j=>(gx,(),(),0,(),(),wY pts y,(pts.length:Int),(j:Int),())) (fun j=>(c0,(false,ints (0::pts.take j)),(false,(ysF y j).map limbs),())) _ ?_ ?_ _ 0 (Nat.zero_le _) (by show pts.length - 0<((pts.length:Int) - ((0:Nat):Int)).toNat+1; omega)
  ·intro j R hj
   have g1:(wY pts y).getD j (0,([0,0,0,0],()))=(((pts.getD j 0:Nat):Int),(limbs (y j),())):=jH hj
   have hb:=hp _ (gV hj)
   have l1:(ints (0::pts.take j)).length=j+1:=by simp [ints]; omega
   have l2:((ysF y j).map limbs).length=j+1:=by simp [ysF]
   have c1:nle ((2*(j+1+1)+512)*8) 70368744177664=true:=pY (by omega)
   have c2:nle ((2*(j+1+1)+512)*32) 70368744177664=true:=pY (by omega)
   have s1:ints (0::pts.take j)++ [((pts.getD j 0:Nat):Int)]=ints (0::pts.take (j+1)):=by
    have:=sH (f:=fun (p:Nat)=>(p:Int)) (v:=((pts.getD j 0:Nat):Int)) hj rfl
    show (0:Int)::((pts.take j).map (fun (p:Nat)=>(p:Int))++ [((pts.getD j 0:Nat):Int)])=_
    rw [this]; rfl
   have s2:(ysF y j).map limbs++ [limbs (y j)]=(ysF y (j+1)).map limbs:=by rw [LA,List.map_append]; rfl
   have w1:IntKind.i64.wrap ((j:Int)+1)=((j+1:Nat):Int):=i64_in _ (by omega)
   simp only [bJ.g0,Go.Own.lt,hsl,dZ (show (j:Int)<(pts.length:Int) by omega),cond_true,dP (show (0:Int)≤(j:Int) by omega),Bool.and_self,Int.toNat_natCast,g1,ak,d9 (show ¬ ((pts.getD j 0:Nat):Int)<1 by omega),cond_false,Bool.and_false,s1,s2,l1,l2,c1,c2,w1]
  ·intro R
   simp only [bJ.g0,Go.Own.lt,d9 (show ¬ (pts.length:Int)<(pts.length:Int) by omega),cond_false]
 rw [List.take_length] at key
 exact key
theorem QE (h:GF gv p q g) {c0:Nat} (hc:c0<au) {F:Nat→List Nat} {n:Nat} (hn1:1≤n) (hn:n≤8) (hFq:∀ i,i<n→∀ j,(F i).getD j 0<q) {y:List Nat} (hy:∀ a∈y,a<au) (hl:y.length=n) (b:Bool):
  bJ.l1 (some gv,(),(),0,(),(),jb F n,(n:Int),0,()) (limbs c0,(b,y.map limbs),(true,[]),())=(true,3,(some gv,(),(),0,(),(),jb F n,(n:Int),(n:Int),()),(limbs c0,(b,y.map limbs),(decide (n=0),(om p q g c0 F y n).map limbs),()),((),0,()),()):=by
 have hwl:(jb F n).length=n:=by unfold jb; simp
 have hp0:0<p:=by have:=h.p1; omega
 have hq0:0<q:=by have:=h.q1; omega
 have key:bJ.l1 (some gv,(),(),0,(),(),jb F n,(n:Int),((0:Nat):Int),()) (limbs c0,(b,y.map limbs),(decide (0=0),((om p q g c0 F y n).take 0).map limbs),())=(true,3,(some gv,(),(),0,(),(),jb F n,(n:Int),(n:Int),()),(limbs c0,(b,y.map limbs),(decide (n=0),((om p q g c0 F y n).take n).map limbs),()),((),0,()),()):=by
  have hfl:(om p q g c0 F y n).length=n:=by unfold om; simp
  refine bP (g:=fun rq kn ke kr x y=>bJ.g1 rq kn ke kr x y) n (fun j=>(some gv,(),(),0,(),(),jb F n,(n:Int),(j:Int),())) (fun j=>(limbs c0,(b,y.map limbs),(decide (j=0),((om p q g c0 F y n).take j).map limbs),())) _ ?_ ?_ _ 0 (Nat.zero_le _) (by show n - 0<((n:Int) - ((0:Nat):Int)).toNat+1; omega)
  ·intro j R hj
   obtain ⟨A,hA⟩:∃ A,A=(List.range n).map fun i=>(F i).getD j 0:=⟨_,rfl⟩
   have hAl:A.length=n:=by rw [hA]; simp
   have g1:(jb F n).getD j []=A.map limbs:=by
    rw [hA,List.map_map]; exact jH hj
   have g2:(A.map limbs).getD 0 [0,0,0,0]=limbs ((F 0).getD j 0):=by
    have:A.getD 0 0=(F 0).getD j 0:=by rw [hA]; exact jH (by omega)
    rw [← this]; exact getD_map (by omega)
   have hAW:∀ x∈A,x<au:=fun x hx=>by
    rw [hA] at hx
    obtain ⟨i,hi,rfl⟩:=List.mem_map.1 hx
    exact Nat.lt_trans (hFq i (List.mem_range.1 hi) j) h.qW
   have D:=Tq h.fld hAW hy (by omega) (by omega)
   rw [hAl] at D
   have E1:=OA h hc (Nat.lt_trans (hFq 0 (by omega) j) h.qW)
   have E2:=Ka h (Nat.lt_trans (J3 hq0 A y n) h.qW)
   have E3:=Si h (Nat.lt_trans (Nat.mod_lt (c0^(F 0).getD j 0) hp0) h.pW) (Nat.lt_trans (Nat.mod_lt (g^uI q A y n) hp0) h.pW)
   have hv:(om p q g c0 F y n).getD j 0=(c0^((F 0).getD j 0)%p)*(g^(uI q A y n)%p)%p:=by rw [hA]; exact jH hj
   have s1:((om p q g c0 F y n).take j).map limbs++ [limbs ((c0^((F 0).getD j 0)%p)*(g^(uI q A y n)%p)%p)]=((om p q g c0 F y n).take (j+1)).map limbs:=by
    rw [← hv]; exact jV (f:=limbs) (by omega)
   have c1:nle ((2*(((om p q g c0 F y n).take j).length+1)+512)*32) 70368744177664=true:=pY (by rw [List.length_take]; omega)
   have d1:decide (j+1=0)=false:=decide_eq_false (by omega)
   have n00:((0:Int) != 0)=false:=rfl
   have w1:IntKind.i64.wrap ((j:Int)+1)=((j+1:Nat):Int):=i64_in _ (by omega)
   simp only [bJ.g1,Go.Own.lt,hwl,dZ (show (j:Int)<(n:Int) by omega),cond_true,dP (show (0:Int)≤(j:Int) by omega),Bool.and_self,Int.toNat_natCast,g1,ak,D,n00,cond_false,g2,List.length_map,hAl,dZ (show (0:Int)<(n:Int) by omega),E1,E2,E3,Bool.and_false,s1,c1,d1,w1]
  ·intro R
   simp only [bJ.g1,Go.Own.lt,d9 (show ¬ (n:Int)<(n:Int) by omega),cond_false]
 have hfl:(om p q g c0 F y n).length=n:=by unfold om; simp
 have e:(om p q g c0 F y n).take n=om p q g c0 F y n:=List.take_of_length_le (by omega)
 rw [e] at key
 exact key
theorem Sj (h:GF gv p q g) [NeZero q] (hs:xQ q) {c0:Nat} (hc:c0<au) (hin:InG p q c0=true) {pts:List Nat} (hp:∀ p∈pts,1≤p∧p≤7) (hd:pts.Nodup) (hn:pts.length≤6) {y:Nat→Nat} (hy:∀ k,y k<au):
  ∃ F,Units q (0::pts) F∧bJ.r (some gv) (limbs c0) (wY pts y)=(true,(om p q g c0 F (ysF y pts.length) (pts.length+1)).map limbs,0):=by
 have hp7:∀ a∈(0::pts),a≤7:=fun a ha=>by
  rcases List.mem_cons.1 ha with rfl|ha
  ·omega
  ·exact (hp a ha).2
 have hnd:(0::pts).Nodup:=List.nodup_cons.2 ⟨fun h0=>by have:=hp 0 h0; omega,hd⟩
 obtain ⟨F,hU,hW⟩:=Lr h.fld hs hp7 hnd (by show pts.length+1≤8; omega)
 refine ⟨F,hU,?_⟩
 have hsl:(wY pts y).length=pts.length:=by unfold wY; simp
 have hW2:bg.r (some gv) (ints (0::pts))=(true,jb F (pts.length+1),0):=hW
 have hwl:(jb F (pts.length+1)).length=pts.length+1:=by unfold jb; simp
 have lt_of:∀ {l:List Nat} {k:Nat},(∀ a∈l,a<q)→l.getD k 0<q:=by
  intro l k hl
  rcases Nat.lt_or_ge k l.length with h5|h5
  ·exact hl _ (gV h5)
  ·rw [je h5]; have:=h.q1; omega
 have L1:=QE h hc (F:=F) (n:=pts.length+1) (by omega) (by omega) (fun i hi j=>lt_of (hU.lt i hi)) (y:=ysF y pts.length) (fun a ha=>by
  unfold ysF at ha
  rcases List.mem_cons.1 ha with rfl|ha
  ·decide
  ·obtain ⟨k,_,rfl⟩:=List.mem_map.1 ha; exact hy k) (by unfold ysF; simp) false
 have I:=Q0 h hc
 rw [hin] at I
 have n00:((0:Int) != 0)=false:=rfl
 simp only [bJ.r,bJ.g,Go.Own.lt,hsl,tu (show ¬ (7:Int)≤(pts.length:Int) by omega),cond_false,I,ak,Bool.not_true,QF (some gv) (limbs c0) hp (show pts.length≤1000 by omega) y,show Nat.beq 1 0=false from rfl,hW2,n00,hwl,L1,show Nat.beq 3 0=false from rfl]
end
end Go.Own
set_option linter.unusedVariables false
set_option linter.unusedSimpArgs false
namespace Go.Own
open Go.IntWalk
theorem Nt {q:Nat} [NeZero q] {F:Nat→List Nat} {n j:Nat} (b:List Nat):∀ m,m≤n→fz q (uI q ((List.range n).map fun i=>(F i).getD j 0) b m)=Pol.cf (yI q F b m) j
 |0,_=>by rw [show yI q F b 0= [] from rfl,Pol.iY]; exact lu
 |m+1,hm=>by
  have g:((List.range n).map fun i=>(F i).getD j 0).getD m 0=(F m).getD j 0:=jH (by omega)
  show fz q ((uI q ((List.range n).map fun i=>(F i).getD j 0) b m+((List.range n).map fun i=>(F i).getD j 0).getD m 0*b.getD m 0%q)%q)=Pol.cf (Pol.kJ (yI q F b m) (Pol.pR (fz q (b.getD m 0)) (toF q (F m)))) j
  rw [mF,rR,Nt (q:=q) (F:=F) (n:=n) (j:=j) b m (by omega),mF,vB,g,Pol.gQ,Pol.kS,j4]; grind
theorem Cv {q:Nat} [NeZero q] {F:Nat→List Nat} (s:Nat) (ys:List Nat) (j:Nat):∀ m,Pol.cf (yI q F (s::ys) (m+1)) j=fz q s*fz q ((F 0).getD j 0)+Pol.cf (yI q F (0::ys) (m+1)) j
 |0=>by
  show Pol.cf (Pol.kJ [] (Pol.pR (fz q s) (toF q (F 0)))) j=_+Pol.cf (Pol.kJ [] (Pol.pR (fz q 0) (toF q (F 0)))) j
  rw [Pol.gQ,Pol.gQ,Pol.kS,Pol.kS,j4,lu]; grind
 |m+1=>by
  have ih:=Cv (q:=q) (F:=F) s ys j m
  show Pol.cf (Pol.kJ (yI q F (s::ys) (m+1)) (Pol.pR (fz q ((s::ys).getD (m+1) 0)) (toF q (F (m+1))))) j=_+Pol.cf (Pol.kJ (yI q F (0::ys) (m+1)) (Pol.pR (fz q (((0:Nat)::ys).getD (m+1) 0)) (toF q (F (m+1))))) j
  rw [Pol.gQ,Pol.gQ,ih,List.getD_cons_succ,List.getD_cons_succ]; grind
section
variable {gv:bZ} {p q g:Nat}
theorem Jg (h:GF gv p q g) [NeZero q] (hs:xQ q) {f:List Nat} (hf:∀ a∈f,a<au) {pts:List Nat} (hp:∀ p∈pts,1≤p∧p≤7) (hd:pts.Nodup) (hn:pts.length≤6) (hfl:f.length≤pts.length+1):
  bJ.r (some gv) (limbs (g^(f.getD 0 0)%p)) (wY pts fun k=>evN q f (pts.getD k 0))=(true,(toN p g f (pts.length+1)).map limbs,0):=by
 have hp0:0<p:=by have:=h.p1; omega
 have hq0:0<q:=by have:=h.q1; omega
 obtain ⟨F,hU,e⟩:=Sj h hs (Nat.lt_trans (Nat.mod_lt (g^(f.getD 0 0)) hp0) h.pW) (Nj h _) hp hd hn (y:=fun k=>evN q f (pts.getD k 0)) (fun k=>Nat.lt_trans (Ao hq0 f _) h.qW)
 rw [e]
 obtain ⟨n,hnn⟩:∃ n,n=pts.length+1:=⟨_,rfl⟩
 have hpl:(0::pts).length=n:=hnn.symm
 have hp7:∀ a∈(0::pts),a≤7:=fun a ha=>by
  rcases List.mem_cons.1 ha with rfl|ha
  ·omega
  ·exact (hp a ha).2
 have hnd:(0::pts).Nodup:=List.nodup_cons.2 ⟨fun h0=>by have:=hp 0 h0; omega,hd⟩
 have hapart:=CK h.q1 h.qW hs hp7 hnd
 obtain ⟨ys,hys⟩:∃ ys,ys=(List.range pts.length).map fun k=>evN q f (pts.getD k 0):=⟨_,rfl⟩
 have hysF:ysF (fun k=>evN q f (pts.getD k 0)) pts.length=0::ys:=by rw [hys]; rfl
 have hPE:Pol.PE (yI q F (f.getD 0 0::ys) n) (toF q f):=Er hapart (by
   rw [hpl]
   have:=Gl (q:=q) (ys:=f.getD 0 0::ys) n (fun i hi=>hU.len i (by rw [hpl]; exact hi))
   rw [hpl] at this; exact this) (by unfold toF; rw [List.length_map,hpl]; omega) (fun k hk=>by
  rw [hpl] at hk
  rw [JY hU _ (by rw [hpl]; exact hk) n (by rw [hpl]; exact Nat.le_refl _),if_pos hk,← vC]
  cases k with
  |zero=>
   rw [List.getD_cons_zero,List.getD_cons_zero,vC]
   cases f with
   |nil=>rfl
   |cons a f=>
    show fz q a=Pol.ev (toF q f) (fz q 0)*fz q 0+fz q a
    rw [lu]; grind
  |succ k=>
   rw [List.getD_cons_succ,List.getD_cons_succ,hys]
   rw [jH (show k<pts.length by omega)])
 congr 2
 rw [hysF,← hnn]
 unfold om toN
 congr 1
 apply List.map_congr_left
 intro j hj
 obtain ⟨w,hw⟩:∃ w,w=(F 0).getD j 0:=⟨_,rfl⟩
 obtain ⟨d,hdd⟩:∃ d,d=uI q ((List.range n).map fun i=>(F i).getD j 0) (0::ys) n:=⟨_,rfl⟩
 rw [← hw,← hdd]
 have e1:(g^f.getD 0 0%p)^w%p*(g^d%p)%p=g^(f.getD 0 0*w+d)%p:=by
  rw [← Nat.pow_mod,← Nat.pow_mul,← Nat.mul_mod,← Nat.pow_add]
 rw [e1]
 apply ME h
 apply NC
 have h1:=hPE j
 have h2:=Nt (q:=q) (F:=F) (j:=j) (0::ys) n (Nat.le_refl n)
 have h3:=Cv (q:=q) (F:=F) (f.getD 0 0) ys j pts.length
 rw [← hnn] at h3
 rw [← hdd] at h2
 rw [rR,vB,h2,hw,← h3,h1,j4]
end
theorem P8:∃ gv,GF gv fe iX bT∧j3.r (kH.map fG,(limbs bT,()))=(true,1,(none,0),(0,gv)):=by
 obtain ⟨gv,h,e⟩:=Iu
 have h1:Nat.blt iX (2^256)=true:=by kernel_rfl
 have h2:yG 256 bT iX fe=1:=by kernel_rfl
 exact ⟨gv,⟨h,by decide,by decide,by decide,by decide,by decide,(pX 256 _ _ _ (mK h1)).symm.trans h2⟩,e⟩
theorem P7:∃ gv,GF gv nY lG iA∧j3.r (kG.map fG,(limbs iA,()))=(true,1,(none,0),(0,gv)):=by
 obtain ⟨gv,h,e⟩:=Ir
 have h1:Nat.blt lG (2^256)=true:=by kernel_rfl
 have h2:yG 256 iA lG nY=1:=by kernel_rfl
 exact ⟨gv,⟨h,by decide,by decide,by decide,by decide,by decide,(pX 256 _ _ _ (mK h1)).symm.trans h2⟩,e⟩
end Go.Own
set_option linter.unusedVariables false
set_option linter.unusedSimpArgs false
namespace Go.Own
open Go.IntWalk
theorem Oy:jS.r (kH.map fG,(limbs bT,()))=(true,limbs fe):=by kernel_rfl
theorem Ow:jS.r (kG.map fG,(limbs iA,()))=(true,limbs nY):=by kernel_rfl
theorem OD:eX.r (kH.map fG,(limbs bT,()))=(true,((fe:Int),((iX:Int),((bT:Int),())))):=by
 have l1:=CO fe (by decide)
 have l2:=CO iX (by decide)
 have l3:=CO bT (by decide)
 rw [if_pos (by decide)] at l1 l2 l3
 simp only [eX.r,eX.g,Go.Own.lt,Oy,Ou,l1,l2,l3,ak]
theorem OC:eX.r (kG.map fG,(limbs iA,()))=(true,((nY:Int),((lG:Int),((iA:Int),())))):=by
 have l1:=CO nY (by decide)
 have l2:=CO lG (by decide)
 have l3:=CO iA (by decide)
 rw [if_pos (by decide)] at l1 l2 l3
 simp only [eX.r,eX.g,Go.Own.lt,Ow,Ot,l1,l2,l3,ak]
theorem Kv (which:Int):∃ gv,(GF gv fe iX bT∧dH.r which=(true,some gv,((fe:Int),((iX:Int),((bT:Int),()))),true))∨(GF gv nY lG iA∧dH.r which=(true,some gv,((nY:Int),((lG:Int),((iA:Int),()))),true)∧(fF .i64 (· &&& ·) which (1:Int)== 1)=true):=by
 obtain ⟨g1,h1,e1⟩:=P8
 obtain ⟨g2,h2,e2⟩:=P7
 have z:((0:Int)== 0)=true:=rfl
 obtain ⟨b,hb⟩:∃ b,b=(fF .i64 (· &&& ·) which (1:Int)== 1):=⟨_,rfl⟩
 cases b with
 |true=>
  refine ⟨g2,.inr ⟨h2,?_,hb.symm⟩⟩
  simp only [dH.r,dH.g,fM.r,fM.g,Go.Own.lt,← hb,cond_true,iJ.fK,Qy,ak,e2,show Nat.beq 1 0=false from rfl,cond_false,OC,z]
 |false=>
  refine ⟨g1,.inl ⟨h1,?_⟩⟩
  simp only [dH.r,dH.g,fM.r,fM.g,Go.Own.lt,← hb,cond_false,iK.fK,QC,ak,e1,show Nat.beq 1 0=false from rfl,OD,z]
theorem xu (n:Nat) (h:n<9223372036854775808):aV.r (n:Int)=(true,limbs n):=by
 have:=Tm (n:Int) (by omega)
 simp only [aV.r,aV.g,Go.Own.lt,this,ak,Int.toNat_natCast]
theorem O7:Nat.beq (bT^11%fe) (atN fe (toN fe bT [5,2] 2) 3)=true:=by kernel_rfl
theorem O6:Nat.beq (bT^12%fe) (atN fe (toN fe bT [5,2] 2) 3)=false:=by kernel_rfl
theorem Rf:Nat.beq (atN fe (toN fe bT [5,2] 2) 0) (bT^5%fe)=true:=by kernel_rfl
theorem SS:Nat.beq (evN iX [5,2] 3) 11=true:=by kernel_rfl
theorem CF:dX.r=(true,true):=by
 obtain ⟨gv,hc⟩:=Kv 0
 have hb0:(fF .i64 (· &&& ·) (0:Int) (1:Int)== 1)=false:=by kernel_rfl
 rcases hc with ⟨h,hs⟩|⟨_,_,hb⟩
 case inr=>rw [hb0] at hb; cases hb
 have hne:NeZero iX:=⟨by decide⟩
 have o5:aV.r 5=(true,limbs 5):=xu 5 (by decide)
 have o2:aV.r 2=(true,limbs 2):=xu 2 (by decide)
 have o11:aV.r 11=(true,limbs 11):=xu 11 (by decide)
 have o12:aV.r 12=(true,limbs 12):=xu 12 (by decide)
 have hf:∀ a∈ [5,2],a<au:=by decide
 obtain ⟨C,hC⟩:∃ C,C=toN fe bT [5,2] 2:=⟨_,rfl⟩
 have T:eG.r (some gv) [limbs 5,limbs 2] 2=(true,C.map limbs,0):=by
  rw [hC]
  exact TS h hf (n:=2) (by decide) (by decide) (by decide) (Jo _ _)
 have hCl:C.length=2:=by rw [hC]; exact Pd
 have hCp:∀ a∈C,a<fe:=by rw [hC]; exact Rh h
 have hCW:∀ a∈C,a<au:=fun a ha=>Nat.lt_trans (hCp a ha) h.pW
 have hCi:∀ a∈C,InG fe iX a=true:=by rw [hC]; exact RD h _ _
 have g0:(C.map limbs).getD 0 [0,0,0,0]=limbs (bT^5%fe):=by
  have:C.getD 0 0=bT^5%fe:=by rw [hC]; rfl
  rw [← this]; exact getD_map (by omega)
 have Fr:bJ.r (some gv) (limbs (bT^5%fe)) [(3,(limbs 11,()))]=(true,C.map limbs,0):=by
  have:=Jg h Bd hf (pts:= [3]) (by decide) (by decide) (by decide) (by decide)
  have e:wY [3] (fun k=>evN iX [5,2] ([3].getD k 0))= [(3,(limbs 11,()))]:=by
   show [((3:Int),(limbs (evN iX [5,2] 3),()))]=_
   rw [Nat.eq_of_beq_eq_true SS]
  rw [e] at this
  rw [hC]; exact this
 have H11:dY.r (some gv) (C.map limbs) (3,(limbs 11,()))=(true,true):=by
  have:=Ke h hCW (by omega) (by omega) hCi (i:=3) (y:=11) (by decide) (by decide) (by decide)
  rw [decide_eq_true (by rw [hC]; exact Nat.eq_of_beq_eq_true O7)] at this
  exact this
 have H12:dY.r (some gv) (C.map limbs) (3,(limbs 12,()))=(true,false):=by
  have:=Ke h hCW (by omega) (by omega) hCi (i:=3) (y:=12) (by decide) (by decide) (by decide)
  rw [decide_eq_false (by rw [hC]; intro e; have:=O6; rw [e] at this; simp at this)] at this
  exact this
 have A0:cu.r (some gv) (C.map limbs) 0=(true,limbs (bT^5%fe)):=by
  have:=Tt h hCW (by omega) (i:=0) (by decide)
  rw [hC,Nat.eq_of_beq_eq_true Rf,← hC] at this
  exact this
 have M:=Q8 h hCW (by omega) (by omega) hCi
 have E:gy.r ((fe:Int),((iX:Int),((bT:Int),()))) (bT:Int) (limbs 5)=(true,((bT^5%fe:Nat):Int)):=by
  simp only [gy.r,gy.g,Go.Own.lt,Oq bT 5 fe (by decide) (by decide) (by decide),ak]
 have hx:bT^5%fe<fe:=Nat.mod_lt _ (by decide)
 have hpL:fe<9223372036854775808:=by decide
 have oX:=xu (bT^5%fe) (by omega)
 have hxW:bT^5%fe<au:=Nat.lt_trans hx h.pW
 have EQ:=eqL hxW hxW
 rw [decide_eq_true rfl] at EQ
 have S:=Oo (C.map limbs) (by rw [List.length_map]; omega)
 generalize bT^5%fe=X at*
 have n00:((0:Int) != 0)=false:=rfl
 have z00:((0:Int)== 0)=true:=rfl
 have n22:(((2:Nat):Int) != 2)=false:=rfl
 have i02:ilt (0:Int) ((2:Nat):Int)=true:=rfl
 simp only [dX.r,dX.g,Go.Own.lt,dH.fK,hs,aV.fK,o5,o2,o11,o12,eG.fK,T,ak,Bool.not_true,cond_false,n00,List.length_map,hCl,n22,g0,i02,bJ.fK,Fr,dY.fK,H11,cond_true,H12,Bool.not_false,bQ.fK,S,z00,cu.fK,A0,gy.fK,E,oX,EQ,eP.fK,M]
abbrev KO:Option bZ:=some ((none,(none,())),([0,0,0,0],()))
def NoG (gx:Option bZ):Prop:=dL.r gx=(true,none)∧aU.r gx=(true,none)
theorem M5:NoG none:=⟨rfl,rfl⟩
theorem M4:NoG KO:=⟨rfl,rfl⟩
theorem QX {gx:Option bZ} (h:NoG gx) (c:List (List Int)) (n:Int):eG.r gx c n=(true,[],1):=by
 simp only [eG.r,eG.g,Go.Own.lt,h.2,ak,Option.isNone_none,cond_true]
theorem Ah:cK.r none=(true,false):=rfl
theorem Oz {gx:Option bZ} (h:NoG gx) (a:List Int):kM.r gx a=(true,false):=by
 simp only [kM.r,kM.g,Go.Own.lt,h.1,fA.r,fA.g,Ah,ak,cond_false]
 generalize (!(ieq (a.getD 0 0) 0&&(ieq (a.getD 1 0) 0&&(ieq (a.getD 2 0) 0&&(ieq (a.getD 3 0) 0&&true)))))=b
 cases b<;>rfl
theorem Kh {gx:Option bZ} (h:NoG gx) (a:List Int):bJ.r gx a []=(true,[],1):=by
 simp only [bJ.r,bJ.g,Go.Own.lt,List.length_nil,show ile (7:Int) ((0:Nat):Int)=false from rfl,cond_false,Oz h,ak,Bool.not_false,cond_true]
theorem OQ {gx:Option bZ} (h:NoG gx) (a:List Int) (c:List (List Int)):aB.r (a::c) gx=(true,0,gx):=by
 have key:aB.l0 (a::c,(),0,((a::c).length:Int),0,()) (gx,())=(true,0,(a::c,(),0,((a::c).length:Int),0,()),(gx,()),(0,()),(gx,())):=by
  obtain ⟨k,hk⟩:∃ k,aB.fu0 (a::c,(),0,((a::c).length:Int),0,()) (gx,())=k+1:=⟨_,rfl⟩
  have g1:(a::c).getD ((0:Int)).toNat [0,0,0,0]=a:=rfl
  unfold aB.l0
  rw [hk]
  simp only [rounds,aB.g0,Go.Own.lt,dZ (show (0:Int)<((a::c).length:Int) by simp),cond_true,g1,show ile (0:Int) 0=true from rfl,Bool.and_self,ak,jK.r,jK.g,Oz h,Bool.not_false]
 simp only [aB.r,aB.g,Go.Own.lt,key,ak,show Nat.beq 0 0=true from rfl,cond_true]
theorem OL {gx:Option bZ} (h:NoG gx) (c:List (List Int)):eP.r gx c=(true,false):=by
 cases c with
 |nil=>simp only [eP.r,eP.g,Go.Own.lt,List.length_nil,show ile (1:Int) ((0:Nat):Int)=false from rfl,cond_false]
 |cons a c=>
  have h1:ile (1:Int) ((a::c).length:Int)=true:=dP (by simp; omega)
  cases h7:ile ((a::c).length:Int) 7 with
  |false=>simp only [eP.r,eP.g,Go.Own.lt,h1,cond_true,h7,cond_false]
  |true=>simp only [eP.r,eP.g,bF.r,bF.g,Go.Own.lt,h1,cond_true,h7,OQ h,ak,show ile (0:Int) 0=true from rfl,Bool.not_true]
theorem Ra {gx:Option bZ} (h:NoG gx) (c:List (List Int)):cu.r gx c 1=(true,[0,0,0,0]):=by
 have n1:cB.r 1=(true,limbs 1):=by rw [qo _ (by decide)]; rfl
 cases h7:ilt (7:Int) (c.length:Int) with
 |true=>simp only [cu.r,cu.g,Go.Own.lt,show ilt (1:Int) 0=false from rfl,show ilt (7:Int) 1=false from rfl,cond_false,h7,cond_true]
 |false=>
  have h7':¬ (7:Int)<(c.length:Int):=fun h=>by rw [dZ h] at h7; cases h7
  have key:cu.l0 (gx,c,1,(),(),1,(c.length:Int),((0:Nat):Int),()) ([0,0,0,0],(decide (0=0),List.replicate 0 (limbs 1)),())=(true,1,(gx,c,1,(),(),1,(c.length:Int),(c.length:Int),()),([0,0,0,0],(decide (c.length=0),List.replicate c.length (limbs 1)),()),(),()):=by
   refine bP (g:=fun rq kn ke kr x y=>cu.g0 rq kn ke kr x y) c.length (fun j=>(gx,c,1,(),(),1,(c.length:Int),(j:Int),())) (fun j=>([0,0,0,0],(decide (j=0),List.replicate j (limbs 1)),())) _ ?_ ?_ _ 0 (Nat.zero_le _) (by show c.length - 0<((c.length:Int) - ((0:Nat):Int)).toNat+1; omega)
   ·intro j R hj
    have c1:nle ((2*(j+1)+512)*32) 70368744177664=true:=pY (by omega)
    have s1:List.replicate j (limbs 1)++ [limbs 1]=List.replicate (j+1) (limbs 1):=List.replicate_succ'.symm
    have d1:decide (j+1=0)=false:=decide_eq_false (by omega)
    have w0:IntKind.i64.wrap ((1:Int)*1)=1:=rfl
    have w1:IntKind.i64.wrap ((j:Int)+1)=((j+1:Nat):Int):=i64_in _ (by omega)
    simp only [cu.g0,Go.Own.lt,dZ (show (j:Int)<(c.length:Int) by omega),cond_true,n1,ak,Bool.and_false,s1,List.length_replicate,c1,w0,w1,d1]
   ·intro R
    simp only [cu.g0,Go.Own.lt,d9 (show ¬ (c.length:Int)<(c.length:Int) by omega),cond_false]
  have k2:cu.l0 (gx,c,1,(),(),1,(c.length:Int),0,()) ([0,0,0,0],(true,[]),())=_:=key
  simp only [cu.r,cu.g,jC.r,jC.g,aQ.r,aQ.g,Go.Own.lt,show ilt (1:Int) 0=false from rfl,show ilt (7:Int) 1=false from rfl,cond_false,h7,k2,h.1,Ah,ak,Bool.not_false,cond_true]
theorem GK {gx:Option bZ} (h:NoG gx) (c:List (List Int)) (y:List Int):dY.r gx c (1,(y,()))=(true,false):=by
 simp only [dY.r,dY.g,pO.r,pO.g,fA.r,fA.g,Go.Own.lt,show ile (1:Int) 1=true from rfl,show ile (1:Int) 7=true from rfl,cond_true,h.2,Ah,ak,cond_false]
theorem wT (c:List (List Int)):aR.r c=(true,true):=by
 by_cases h8:(8:Int)<(c.length:Int)
 ·simp only [aR.r,aR.g,Go.Own.lt,dZ h8,cond_true,dX.fK,CF,ak]
 have o1:aV.r 1=(true,limbs 1):=xu 1 (by decide)
 have n11:((1:Int) != 1)=false:=rfl
 have zz:(!(ieq (([0,0,0,0]:List Int).getD 0 0) 0&&(ieq (([0,0,0,0]:List Int).getD 1 0) 0&&(ieq (([0,0,0,0]:List Int).getD 2 0) 0&&(ieq (([0,0,0,0]:List Int).getD 3 0) 0&&true)))))=false:=by kernel_rfl
 have i0:ilt (0:Int) ((0:Nat):Int)=false:=rfl
 simp only [aR.r,aR.g,Go.Own.lt,d9 h8,cond_false,QX M5,QX M4,o1,Kh M5,Kh M4,ak,List.length_nil,i0,n11,OL M5,OL M4,Ra M5,Ra M4,zz,GK M5,GK M4,dX.fK,CF]
theorem aR.pure (c:List (List Int)) (hc:Ty.ok (.sl (.arr 4 (.int .u64))) c):aR.r c=(true,true):=wT c
end Go.Own
