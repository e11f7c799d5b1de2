/- What is proved: what the printed functions answer, in plain numbers and lists. Conditions: those that each theorem names. -/
import Derived.Test.YtapkilfcibkphaaGreatPure0
import Derived.Test.YtapkilfcibkphaaGreatG8
set_option linter.unusedVariables false
set_option linter.unusedSimpArgs false
set_option linter.unusedVariables false
set_option linter.unusedSimpArgs false
namespace Go.Own
open Go.IntWalk
def Sv (n f w:Nat):Bool:=Nat.beq (n%2) 1&&Nat.blt 1 n&&Nat.blt n ak&&Nat.blt 0 f&&Nat.blt f ak&&Nat.ble 2 w&&Nat.blt w 65536&&Nat.beq ((n - 1)%f) 0&&Nat.blt n (f*f)&&Nat.beq (zi 256 (zi 256 w ((n - 1)/f) n) f n) 1&&Nat.beq (Nat.gcd ((zi 256 w ((n - 1)/f) n+(n - 1))%n) n) 1
theorem oK {a b:Nat} (h:Nat.blt a b=true):a<b:=Nat.le_of_ble_eq_true h
theorem rA {n f w:Nat} (h:Sv n f w=true):EX n f w:=by
 unfold Sv at h
 simp only [Bool.and_eq_true] at h
 obtain ⟨⟨⟨⟨⟨⟨⟨⟨⟨⟨h1,h2⟩,h3⟩,h4⟩,h5⟩,h6⟩,h7⟩,h8⟩,h9⟩,h10⟩,h11⟩:=h
 have h3:=oK h3; have h5:=oK h5
 have e:(2:Nat)^256=ak:=vI.symm
 have hq:(n - 1)/f<2^256:=by rw [e]; exact Nat.lt_of_le_of_lt (Nat.div_le_self _ _) (Nat.lt_of_le_of_lt (Nat.sub_le _ _) h3)
 have h10:=Nat.eq_of_beq_eq_true h10; have h11:=Nat.eq_of_beq_eq_true h11
 rw [qE 256 _ _ _ hq,qE 256 _ _ _ (by rw [e]; exact h5)] at h10
 rw [qE 256 _ _ _ hq] at h11
 exact ⟨Nat.eq_of_beq_eq_true h1,oK h2,h3,oK h4,h5,Nat.le_of_ble_eq_true h6,oK h7,Nat.eq_of_beq_eq_true h8,oK h9,h10,h11⟩
abbrev eU:Type:=((Option aJ)×((Option aJ)×Unit))×((List Int)×Unit)
def Grp (gv:eU) (p q g:Nat):Prop:=∃ rp rq i1 i2,gv=((rp,(rq,())),(limbs g,()))∧Rng rp p i1 (ak%p) (ak*ak%p)∧Rng rq q i2 (ak%q) (ak*ak%q)
theorem Lv {ps:List (Nat×Nat)} {g p q w:Nat} (h2:2≤ps.length) (h8:ps.length≤8) (hc:fO.r (ps.map iw)=(true,0)) (hpp:p=(ps.getD (ps.length - 1) (0,0)).1) (hqq:q=(ps.getD (ps.length - 2) (0,0)).1)
  (hp:EX p q w) (hqo:q%2=1) (hql:10≤bV q) (hg:g<p) (hg1:1<g) (hpow:g^q%p=1):
  ∃ gv,Grp gv p q g∧mE.r (ps.map iw,(limbs g,()))=(true,1,(none,0),(0,gv)):=by
 have hpl:=hp.lt
 have hq1:1<q:=by
  rcases Nat.lt_or_ge 1 q with h|h
  ·exact h
  ·have:bV q≤1:=by
    have:q=0∨q=1:=by omega
    rcases this with rfl|rfl<;>decide
   omega
 obtain ⟨rp,i1,hR,hN⟩:=Qj p hpl hp.odd hp.gt
 obtain ⟨rq,i2,hR2,hN2⟩:=Qj q hp.flt hqo hq1
 have n1:dY.r 1=(true,limbs 1):=by rw [sW _ (by decide)]; rfl
 have e0:((0:Int) != 0)=false:=rfl
 have g1:(ps.map iw).getD (ps.length - 1) ([0,0,0,0],(0,()))=iw (ps.getD (ps.length - 1) (0,0)):=getD_map (by omega)
 have g2:(ps.map iw).getD (ps.length - 2) ([0,0,0,0],(0,()))=iw (ps.getD (ps.length - 2) (0,0)):=getD_map (by omega)
 have w1:IntKind.i64.wrap ((ps.length:Int) - 1)=((ps.length - 1:Nat):Int):=by rw [i64_in _ (by omega)]; omega
 have w2:IntKind.i64.wrap ((ps.length:Int) - 2)=((ps.length - 2:Nat):Int):=by rw [i64_in _ (by omega)]; omega
 have hgW:g<ak:=Nat.lt_trans hg hpl
 refine ⟨((rp,(rq,())),(limbs g,())),⟨rp,rq,i1,i2,rfl,hR,hR2⟩,?_⟩
 have i1:(ile 0 ((ps.length - 1:Nat):Int)&&ilt ((ps.length - 1:Nat):Int) (ps.length:Int))=true:=rng (by omega)
 have i2:(ile 0 ((ps.length - 2:Nat):Int)&&ilt ((ps.length - 2:Nat):Int) (ps.length:Int))=true:=rng (by omega)
 simp only [mE.r,mE.g,lt,List.length_map,cB (show ¬ (ps.length:Int)<2 by omega),cond_false,hc,ai,e0,w1,w2,i1,i2,Int.toNat_natCast,g1,g2,AA,← hpp,← hqq,hN,hN2,Qh q hp.flt,cB (show ¬ (bV q:Int)<10 by omega),eqZ hgW,decide_eq_false (show ¬ g=0 by omega),n1,eqL hgW (show 1<ak by decide),decide_eq_false (show ¬ g=1 by omega),Vt hR hgW,hg,decide_true,Bool.not_true,Qs hR hgW hp.flt,hpow,eqL (show 1<ak by decide) (show 1<ak by decide)]
def qy:List (Nat×Nat):= [(65521,0),(1966023127,2),(1055500680322183127,2)]
def om:Nat:=316543771439780984
def Aj:Nat:=1055500680322183127
def mM:Nat:=1966023127
theorem JV:fO.r (qy.map iw)=(true,0):=by
 refine LA (by decide) (by decide) (by decide) (by kernel_rfl) rfl ?_
 intro i hi
 have:i=0∨i=1:=by
  have:i+1<3:=hi
  omega
 rcases this with rfl|rfl
 ·exact rA (by kernel_rfl)
 ·exact rA (by kernel_rfl)
theorem JB:∃ gv,Grp gv Aj mM om∧mE.r (qy.map iw,(limbs om,()))=(true,1,(none,0),(0,gv)):=by
 have h1:Nat.blt mM (2^256)=true:=by kernel_rfl
 have h2:zi 256 om mM Aj=1:=by kernel_rfl
 have hpow:om^mM%Aj=1:=(qE 256 _ _ _ (oK h1)).symm.trans h2
 have h3:Nat.blt om Aj=true:=by kernel_rfl
 have h4:Nat.blt 1 om=true:=by kernel_rfl
 have h5:Nat.ble 10 (bV mM)=true:=by kernel_rfl
 have h6:mM%2=1:=by kernel_rfl
 exact Lv (ps:=qy) (p:=Aj) (q:=mM) (w:=2) (by decide) (by decide) JV (by kernel_rfl) (by kernel_rfl) (rA (by kernel_rfl)) h6 (Nat.le_of_ble_eq_true h5) (oK h3) (oK h4) hpow
def qw:List (Nat×Nat):= [(64817,0),(1815135269,2),(487269091447081429,2)]
def ol:Nat:=54624333139524128
def Ai:Nat:=487269091447081429
def mK:Nat:=1815135269
theorem JU:fO.r (qw.map iw)=(true,0):=by
 refine LA (by decide) (by decide) (by decide) (by kernel_rfl) rfl ?_
 intro i hi
 have:i=0∨i=1:=by
  have:i+1<3:=hi
  omega
 rcases this with rfl|rfl
 ·exact rA (by kernel_rfl)
 ·exact rA (by kernel_rfl)
theorem JA:∃ gv,Grp gv Ai mK ol∧mE.r (qw.map iw,(limbs ol,()))=(true,1,(none,0),(0,gv)):=by
 have h1:Nat.blt mK (2^256)=true:=by kernel_rfl
 have h2:zi 256 ol mK Ai=1:=by kernel_rfl
 have hpow:ol^mK%Ai=1:=(qE 256 _ _ _ (oK h1)).symm.trans h2
 have h3:Nat.blt ol Ai=true:=by kernel_rfl
 have h4:Nat.blt 1 ol=true:=by kernel_rfl
 have h5:Nat.ble 10 (bV mK)=true:=by kernel_rfl
 have h6:mK%2=1:=by kernel_rfl
 exact Lv (ps:=qw) (p:=Ai) (q:=mK) (w:=2) (by decide) (by decide) JU (by kernel_rfl) (by kernel_rfl) (rA (by kernel_rfl)) h6 (Nat.le_of_ble_eq_true h5) (oK h3) (oK h4) hpow
end Go.Own
set_option linter.unusedVariables false
set_option linter.unusedSimpArgs false
namespace Go.Own
open Go.IntWalk
structure Fld (gx:Option eU) (q:Nat):Prop where
 ex:∃ gv rq inv,gx=some gv∧gv.1.2.1=rq∧Rng rq q inv (ak%q) (ak*ak%q)
theorem Grp.fld {gv:eU} {p q g:Nat} (h:Grp gv p q g):Fld (some gv) q:=by
 obtain ⟨rp,rq,i1,i2,rfl,_,h2⟩:=h
 exact ⟨_,rq,i2,rfl,rfl,h2⟩
theorem Rng.wQ {rx m inv one sq} (h:Rng rx m inv one sq):rx.isNone=false:=by rw [h.eq]; rfl
theorem Fld.field {gx:Option eU} {q:Nat} (h:Fld gx q):∃ rq inv,Rng rq q inv (ak%q) (ak*ak%q)∧bH.r gx=(true,rq):=by
 obtain ⟨gv,rq,inv,rfl,e,hR⟩:=h.ex
 refine ⟨rq,inv,hR,?_⟩
 simp only [bH.r,bH.g,lt,Option.isNone_some,cond_false,Option.getD_some,Option.isSome_some,ai,e]
theorem Fld.gt {gx:Option eU} {q:Nat} (h:Fld gx q):1<q:=by obtain ⟨rq,inv,hR,_⟩:=h.field; exact hR.gt
theorem Fld.lt {gx:Option eU} {q:Nat} (h:Fld gx q):q<ak:=by obtain ⟨rq,inv,hR,_⟩:=h.field; exact hR.lt
theorem Us {gx:Option eU} {q:Nat} (h:Fld gx q):gQ.r gx=(true,limbs q):=by
 obtain ⟨rq,inv,hR,hF⟩:=h.field
 simp only [gQ.r,gQ.g,Go.Own.lt,hF,ai,Vr hR]
theorem Fa {gx:Option eU} {q:Nat} (h:Fld gx q) {a b:Nat} (ha:a<ak) (hb:b<ak):iW.r gx (limbs a) (limbs b)=(true,limbs ((a+b)%q)):=by
 have:=h.gt
 simp only [iW.r,iW.g,Go.Own.lt,Us h,ai,Qv a b q ha hb h.lt (by omega)]
theorem Qr {gx:Option eU} {q:Nat} (h:Fld gx q) {a b:Nat} (ha:a<ak) (hb:b<ak):mF.r gx (limbs a) (limbs b)=(true,limbs ((a%q+(q - b%q))%q)):=by
 have:=h.gt
 simp only [mF.r,mF.g,Go.Own.lt,Us h,ai,BI a b q ha hb h.lt (by omega)]
theorem E9 {gx:Option eU} {q:Nat} (h:Fld gx q) {a b:Nat} (ha:a<ak) (hb:b<ak):iV.r gx (limbs a) (limbs b)=(true,limbs (a*b%q)):=by
 obtain ⟨rq,inv,hR,hF⟩:=h.field
 simp only [iV.r,iV.g,Go.Own.lt,hF,ai,Ur hR ha hb]
theorem Ut {gx:Option eU} {q:Nat} (h:Fld gx q) {a:Nat} (ha:a<ak) (hg:Nat.gcd a q=1):∃ s,Qo a q s∧pu.r gx (limbs a)=(true,limbs s):=by
 have h1:=h.gt
 rcases Iy a q ha h.lt (by omega) with ⟨_,s,hs,e⟩|⟨hn,_⟩
 ·refine ⟨s,hs,?_⟩
  have e0:((0:Int) != 0)=false:=rfl
  simp only [pu.r,pu.g,Go.Own.lt,Us h,ai,e,e0,cond_false]
 ·exact absurd hg hn
theorem fold_map {gx:Option eU} {q:Nat} (h:Fld gx q) {x:Nat} (hx:x<ak):∀ (l:List Nat) (w:Nat),w<ak→(∀ a∈l,a<ak)→(l.map limbs).foldl (iU.step gx (limbs x)) (true,limbs w)=(true,limbs (l.foldl (fun w a=>(w*x%q+a)%q) w))
 | [],w,_,_=>rfl
 |a::l,w,hw,hl=>by
  have h0:0<q:=by have:=h.gt; omega
  have h1:w*x%q<ak:=Nat.lt_trans (Nat.mod_lt _ h0) h.lt
  have h2:(w*x%q+a)%q<ak:=Nat.lt_trans (Nat.mod_lt _ h0) h.lt
  have e:iU.step gx (limbs x) (true,limbs w) (limbs a)=(true,limbs ((w*x%q+a)%q)):=by
   simp only [iU.step,Go.Own.lt,E9 h hw hx,Fa h h1 (hl a (by simp)),Bool.and_self]
  show (l.map limbs).foldl _ (iU.step gx (limbs x) (true,limbs w) (limbs a))=_
  rw [e,fold_map h hx l _ h2 fun b hb=>hl b (by simp [hb])]
  rfl
def evN (q:Nat) (f:List Nat) (x:Nat):Nat:=f.foldr (fun a w=>(w*x%q+a)%q) 0
theorem OB {f:List Nat}:∀ (l:List (List Int)),(∀ a∈l,a∈f.map limbs)→∃ l':List Nat,l=l'.map limbs∧∀ a∈l',a∈f
 | [],_=>⟨[],rfl,by simp⟩
 |a::l,h=>by
  obtain ⟨l',rfl,h2⟩:=OB l fun b hb=>h b (by simp [hb])
  obtain ⟨b,hb,rfl⟩:=List.mem_map.1 (h a (by simp))
  refine ⟨b::l',rfl,?_⟩
  intro c hc
  rcases List.mem_cons.1 hc with rfl|hc
  ·exact hb
  ·exact h2 c hc
theorem Ke {gx:Option eU} {q:Nat} (h:Fld gx q) {f:List Nat} {x:Nat} (hf:∀ a∈f,a<ak) (hl:f.length≤9223372036854775807) (hx:x<ak):iU.r gx (f.map limbs) (limbs x)=(true,limbs (evN q f x)):=by
 unfold iU.r
 have fo:∀ l':List Nat,(∀ a∈l',a∈f)→iU.fold gx (limbs x) (l'.map limbs)=(true,limbs (l'.foldl (fun w a=>(w*x%q+a)%q) 0)):=by
  intro l' hl'
  have:=fold_map h hx l' 0 (by decide) fun a ha=>hf a (hl' a ha)
  rw [fC] at this
  exact this
 refine Prod.ext ?_ ?_
 ·refine @decide_eq_true _ (Classical.propDecidable _) ⟨by rw [List.length_map]; exact hl,?_⟩
  intro l hm
  obtain ⟨l',rfl,h2⟩:=OB l hm
  rw [fo l' h2]
 ·show (iU.fold gx (limbs x) (f.map limbs).reverse).2=_
  rw [← List.map_reverse,fo f.reverse fun a ha=>List.mem_reverse.1 ha,List.foldl_reverse]
  rfl
theorem uq {q:Nat} (hq:0<q) (f:List Nat) (x:Nat):evN q f x<q:=by
 cases f with
 |nil=>exact hq
 |cons a f=>exact Nat.mod_lt _ hq
theorem Lp {a:Nat} (ha:a<ak):mq.r (limbs a)=(true,decide (a=0)):=by
 simp only [mq.r,mq.g,lt,eqZ ha]
def jw (f:List Nat) (k:Int):Nat:=if k<0 then 0 else f.getD k.toNat 0
theorem xw {f:List Nat} (hf:∀ a∈f,a<ak) (k:Int):jw f k<ak:=by
 unfold jw
 split
 ·decide
 ·rcases Nat.lt_or_ge k.toNat f.length with h|h
  ·exact hf _ (fK h)
  ·rw [List.getD_eq_getElem?_getD,List.getElem?_eq_none h]; decide
theorem Qg (f:List Nat) (k:Int):ng.r (f.map limbs) k=(true,limbs (jw f k)):=by
 simp only [ng.r,ng.g,lt,List.length_map]
 unfold jw
 by_cases h0:k<0
 ·rw [if_pos h0,bW h0,fC]; rfl
 ·rw [if_neg h0,cB h0]
  by_cases h1:(f.length:Int)≤k
  ·have z:f.getD k.toNat 0=0:=by rw [List.getD_eq_getElem?_getD,List.getElem?_eq_none (by omega)]; rfl
   rw [z,fC,dm h1]; rfl
  ·have g1:(f.map limbs).getD k.toNat [0,0,0,0]=limbs (f.getD k.toNat 0):=getD_map (by omega)
   simp only [qH h1,cond_false,g1,dm (show (0:Int)≤k by omega),bW (show k<(f.length:Int) by omega),Bool.and_self,ai]
end Go.Own
set_option linter.unusedVariables false
set_option linter.unusedSimpArgs false
namespace Go.Own.Pol
section
variable {F:Type} [Lean.Grind.CommRing F]
def cf (l:List F) (n:Nat):F:=l.getD n 0
def ev (l:List F) (x:F):F:=l.foldr (fun a s=>s*x+a) 0
def PE (a b:List F):Prop:=∀ n,cf a n=cf b n
theorem PE.rfl' {a:List F}:PE a a:=fun _=>rfl
theorem PE.symm {a b:List F} (h:PE a b):PE b a:=fun n=>(h n).symm
theorem PE.trans {a b c:List F} (h:PE a b) (h2:PE b c):PE a c:=fun n=>(h n).trans (h2 n)
theorem jo (n:Nat):cf ([]:List F) n=0:=by simp [cf]
theorem kV (a:F) (l:List F):cf (a::l) 0=a:=rfl
theorem jd (a:F) (l:List F) (n:Nat):cf (a::l) (n+1)=cf l n:=by simp [cf]
theorem UM {l:List F} {n:Nat} (h:l.length≤n):cf l n=0:=by
 unfold cf; rw [List.getD_eq_getElem?_getD,List.getElem?_eq_none h]; rfl
theorem Lb {l:List F} {x:F} (h:∀ n,cf l n=0):ev l x=0:=by
 induction l with
 |nil=>rfl
 |cons a l ih=>
  have h0:=h 0
  rw [kV] at h0
  have:=ih fun n=>by have:=h (n+1); rwa [jd] at this
  show ev l x*x+a=0
  rw [this,h0]; grind
theorem sI:∀ {a b:List F} {x:F},PE a b→ev a x=ev b x
 | [],b,x,h=>by rw [Lb (l:=b) fun n=>by rw [← h n,jo]]; rfl
 |a::al,[],x,h=>by rw [Lb (l:=a::al) fun n=>by rw [h n,jo]]; rfl
 |a::al,b::bs,x,h=>by
  have h0:a=b:=h 0
  have ih:=sI (a:=al) (b:=bs) (x:=x) fun n=>by have:=h (n+1); rwa [jd,jd] at this
  show ev al x*x+a=ev bs x*x+b
  rw [ih,h0]
def lm:List F→List F→List F
 | [],b=>b
 |a::al,[]=>a::al
 |a::al,b::bs=>(a+b)::lm al bs
theorem iM:∀ (a b:List F) (n:Nat),cf (lm a b) n=cf a n+cf b n
 | [],b,n=>by rw [jo]; simp only [lm]; grind
 |a::al,[],n=>by rw [jo]; simp only [lm]; grind
 |a::al,b::bs,0=>rfl
 |a::al,b::bs,n+1=>by simp only [lm,jd]; exact iM al bs n
theorem uo:∀ (a b:List F) (x:F),ev (lm a b) x=ev a x+ev b x
 | [],b,x=>by show ev b x=0+ev b x; grind
 |a::al,[],x=>by show ev (a::al) x=ev (a::al) x+0; grind
 |a::al,b::bs,x=>by
  have:=uo al bs x
  show ev (lm al bs) x*x+(a+b)=(ev al x*x+a)+(ev bs x*x+b)
  rw [this]; grind
def qQ (c:F) (l:List F):List F:=l.map (c* ·)
theorem kZ (c:F):∀ (l:List F) (n:Nat),cf (qQ c l) n=c*cf l n
 | [],n=>by rw [jo]; show cf ([]:List F) n=_; rw [jo]; grind
 |a::l,0=>rfl
 |a::l,n+1=>by
  rw [jd,← kZ c l n]
  exact jd _ _ _
theorem yB (c:F) (x:F):∀ (l:List F),ev (qQ c l) x=c*ev l x
 | []=>by show (0:F)=c*0; grind
 |a::l=>by
  have:=yB c x l
  show ev (qQ c l) x*x+c*a=c*(ev l x*x+a)
  rw [this]; grind
def Ml (a:F) (l:List F):List F:=lm (0::l) (qQ (-a) l)
theorem mV (a:F) (l:List F):cf (Ml a l) 0= -a*cf l 0:=by
 unfold Ml; rw [iM,kZ,kV]; grind
theorem kM (a:F) (l:List F) (n:Nat):cf (Ml a l) (n+1)=cf l n - a*cf l (n+1):=by
 unfold Ml; rw [iM,kZ,jd]; grind
theorem Vk (a:F) (l:List F) (x:F):ev (Ml a l) x=(x - a)*ev l x:=by
 unfold Ml; rw [uo,yB]
 show (ev l x*x+0)+_=_
 grind
theorem PE.M {a:F} {u v:List F} (h:PE u v):PE (Ml a u) (Ml a v):=by
 intro n
 cases n with
 |zero=>rw [mV,mV,h 0]
 |succ n=>rw [kM,kM,h n,h (n+1)]
theorem PE.add {a b c d:List F} (h:PE a b) (h2:PE c d):PE (lm a c) (lm b d):=fun n=>by rw [iM,iM,h n,h2 n]
theorem U4 (a:F) (u v:List F):PE (Ml a (lm u v)) (lm (Ml a u) (Ml a v)):=by
 intro n
 cases n with
 |zero=>rw [iM,mV,mV,mV,iM]; grind
 |succ n=>rw [iM,kM,kM,kM,iM,iM]; grind
theorem UZ (a c:F) (u:List F):PE (Ml a (qQ c u)) (qQ c (Ml a u)):=by
 intro n
 cases n with
 |zero=>rw [kZ,mV,mV,kZ]; grind
 |succ n=>rw [kZ,kM,kM,kZ,kZ]; grind
theorem M_M (a b:F) (u:List F):PE (Ml a (Ml b u)) (Ml b (Ml a u)):=by
 intro n
 match n with
 |0=>rw [mV,mV,mV,mV]; grind
 |1=>rw [kM a (Ml b u) 0,mV b u,kM b u 0,kM b (Ml a u) 0,mV a u,kM a u 0]; grind
 |n+2=>rw [kM,kM,kM,kM,kM,kM]; grind
def TL (xs:List F) (h:List F):List F:=xs.foldr Ml h
theorem PE.T {u v:List F} (h:PE u v):∀ {xs:List F},PE (TL xs u) (TL xs v)
 | []=>h
 |_::_=>(PE.T h).M
theorem EW (xs:List F) (a:F) (h:List F):TL (xs++ [a]) h=TL xs (Ml a h):=by
 unfold TL; rw [List.foldr_append]; rfl
theorem SS:∀ (xs:List F) (u v:List F),PE (TL xs (lm u v)) (lm (TL xs u) (TL xs v))
 | [],u,v=>PE.rfl'
 |x::xs,u,v=>(SS xs u v).M.trans (U4 _ _ _)
theorem SQ (c:F):∀ (xs:List F) (u:List F),PE (TL xs (qQ c u)) (qQ c (TL xs u))
 | [],u=>PE.rfl'
 |x::xs,u=>(SQ c xs u).M.trans (UZ _ _ _)
theorem T_M (a:F):∀ (xs:List F) (u:List F),PE (TL xs (Ml a u)) (Ml a (TL xs u))
 | [],u=>PE.rfl'
 |x::xs,u=>(T_M a xs u).M.trans (M_M _ _ _)
def tT (xs:List F) (x:F):F:=xs.foldr (fun a s=>(x - a)*s) 1
theorem MN (x:F):∀ (xs:List F) (h:List F),ev (TL xs h) x=tT xs x*ev h x
 | [],h=>by show ev h x=1*ev h x; grind
 |a::xs,h=>by
  show ev (Ml a (TL xs h)) x=(x - a)*tT xs x*ev h x
  rw [Vk,MN x xs h]; grind
def dv (a:F):List F→List F
 | []=> []
 | [_]=> []
 |_::b::t=>ev (b::t) a::dv a (b::t)
theorem JM (a:F):∀ l:List F,(dv a l).length=l.length - 1
 | []=>rfl
 | [_]=>rfl
 |_::b::t=>by
  have:=JM a (b::t)
  simp only [dv,List.length_cons] at this ⊢
  omega
theorem Pe (a:F):∀ l:List F,PE l (lm [ev l a] (Ml a (dv a l)))
 | []=>by
  intro n
  rw [iM,jo]
  cases n with
  |zero=>rw [kV,mV]; show (0:F)=0+ -a*cf [] 0; rw [jo]; grind
  |succ n=>rw [jd,jo,kM]; show (0:F)=0+(cf [] n - a*cf [] (n+1)); rw [jo,jo]; grind
 | [c]=>by
  intro n
  rw [iM]
  cases n with
  |zero=>rw [kV,kV,mV]; show c=(0*a+c)+ -a*cf [] 0; rw [jo]; grind
  |succ n=>rw [jd,jd,jo,kM]; show (0:F)=0+(cf [] n - a*cf [] (n+1)); rw [jo,jo]; grind
 |c::b::t=>by
  have ih:=Pe a (b::t)
  intro n
  rw [iM]
  have hd:dv a (c::b::t)=ev (b::t) a::dv a (b::t):=rfl
  cases n with
  |zero=>
   rw [kV,kV,mV,hd,kV]
   show c=(ev (b::t) a*a+c)+ -a*ev (b::t) a
   grind
  |succ n=>
   have hn:=ih n
   rw [iM] at hn
   rw [jd,jd,jo,kM,hd,jd,hn]
   cases n with
   |zero=>rw [kV,kV,mV]; try grind
   |succ n=>rw [jd,jd,jo,kM]; try grind
theorem DR {f fk h base fk' base' xs:List F} {a y s c:F} (hf:PE f (lm fk (TL xs h))) (hb:PE base (TL xs [1])) (hy:y=ev f a) (hs:s*ev base a=1) (hc:c=(y - ev fk a)*s)
  (h1:PE fk' (lm fk (qQ c base))) (h2:PE base' (Ml a base)):PE f (lm fk' (TL (xs++ [a]) (dv a h)))∧PE base' (TL (xs++ [a]) [1]):=by
 have e1:ev f a=ev fk a+tT xs a*ev h a:=by rw [sI hf,uo,MN]
 have e2:ev base a=tT xs a:=by rw [sI hb,MN]; show tT xs a*(0*a+1)=_; grind
 have e3:c=ev h a:=by rw [hc,hy,e1]; rw [e2] at hs; grind
 constructor
 ·intro n
  have k1:=(Pe a h).T (xs:=xs) n
  have k2:=SS xs [ev h a] (Ml a (dv a h)) n
  have k3:PE [ev h a] (qQ (ev h a) [1]):=by
   intro n
   rw [kZ]
   cases n with
   |zero=>rw [kV,kV]; grind
   |succ n=>rw [jd,jd,jo]; grind
  have k4:=(k3.T (xs:=xs)).trans (SQ (ev h a) xs [1]) n
  rw [hf n,iM,k1,k2,iM,k4,kZ,← hb n,iM,h1 n,iM,kZ,e3,EW]
  grind
 ·rw [EW]
  exact h2.trans (hb.M.trans (T_M a xs [1]).symm)
theorem Iq:∀ (xs:List F) (n:Nat),cf (TL xs []) n=0
 | [],n=>jo n
 |x::xs,n=>by
  show cf (Ml x (TL xs [])) n=0
  cases n with
  |zero=>rw [mV,Iq xs]; grind
  |succ n=>rw [kM,Iq xs,Iq xs]; grind
theorem FC {f fk h xs:List F} (hf:PE f (lm fk (TL xs h))) (hh:h= []):PE f fk:=by
 intro n
 subst hh
 rw [hf n,iM,Iq]; grind
end
end Go.Own.Pol
set_option linter.unusedVariables false
set_option linter.unusedSimpArgs false
namespace Go.Own
open Go.IntWalk
def tl (l:List Nat):Nat→Nat
 |0=>0
 |n+1=>bif Nat.beq (l.getD n 0) 0 then tl l n else n+1
theorem Co (l:List Nat):∀ n,tl l n≤n
 |0=>Nat.le_refl 0
 |n+1=>by
  have:=Co l n
  simp only [tl]
  cases Nat.beq (l.getD n 0) 0
  ·exact Nat.le_refl _
  ·exact Nat.le_trans this (Nat.le_succ n)
theorem Kn (l:List Nat):∀ n k,tl l n≤k→k<n→l.getD k 0=0
 |0,k,_,h=>by omega
 |n+1,k,h1,h2=>by
  simp only [tl] at h1
  cases hb:Nat.beq (l.getD n 0) 0 with
  |false=>rw [hb] at h1; simp only [cond_false] at h1; omega
  |true=>
   rw [hb] at h1
   rcases Nat.lt_or_ge k n with h|h
   ·exact Kn l n k h1 h
   ·have:k=n:=by omega
    subst this
    exact Nat.eq_of_beq_eq_true hb
theorem FB (l:List Nat) (d:Nat) (hz:∀ k,d≤k→l.getD k 0=0):∀ n,tl l n≤d
 |0=>Nat.zero_le d
 |n+1=>by
  simp only [tl]
  cases hb:Nat.beq (l.getD n 0) 0 with
  |true=>exact FB l d hz n
  |false=>
   rcases Nat.lt_or_ge n d with h|h
   ·exact h
   ·rw [hz n h] at hb; exact absurd hb (by decide)
def tq (q:Nat) (l:List Nat):List Nat:=l.map (· %q)
def sS (q:Nat) (l:List Nat):List Nat:=(tq q l).take (tl (tq q l) l.length)
theorem pV (q:Nat) (l:List Nat):(tq q l).length=l.length:=List.length_map _
theorem QV {gx:Option eU} {q:Nat} (h:Fld gx q) {l:List Nat}:∀ a∈tq q l,a<ak:=by
 intro a ha
 obtain ⟨b,_,rfl⟩:=List.mem_map.1 ha
 exact Nat.lt_trans (Nat.mod_lt _ (by have:=h.gt; omega)) h.lt
theorem RU {gx:Option eU} {q:Nat} (h:Fld gx q) {l:List Nat} (hl:∀ a∈l,a<ak) (hn:l.length≤1073741824):fA.l0 (gx,(),(),l.map limbs,(l.length:Int),0,()) ((true,[]),())=
  (true,1,(gx,(),(),l.map limbs,(l.length:Int),(l.length:Int),()),((decide (l.length=0),(tq q l).map limbs),()),(),()):=by
 have key:fA.l0 (gx,(),(),l.map limbs,(l.length:Int),((0:Nat):Int),()) ((decide (0=0),(l.take 0).map fun a=>limbs (a%q)),())=
  (true,1,(gx,(),(),l.map limbs,(l.length:Int),(l.length:Int),()),((decide (l.length=0),(l.take l.length).map fun a=>limbs (a%q)),()),(),()):=by
  refine bE (g:=fun rq kn ke kr x y=>fA.g0 rq kn ke kr x y) l.length (fun j=>(gx,(),(),l.map limbs,(l.length:Int),(j:Int),())) (fun j=>((decide (j=0),(l.take j).map fun a=>limbs (a%q)),())) _ ?_ ?_ _ 0 (Nat.zero_le _) (by show l.length - 0<((l.length:Int) - ((0:Nat):Int)).toNat+1; omega)
  ·intro j R hj
   have g1:(l.map limbs).getD j [0,0,0,0]=limbs (l.getD j 0):=getD_map hj
   have fa:=Fa h (hl _ (fK hj)) (show 0<ak by decide)
   rw [fC,Nat.add_zero] at fa
   have c1:nle ((2*((l.take j).length+1)+512)*32) 70368744177664=true:=oN (by rw [List.length_take]; omega)
   have s1:((l.take j).map fun a=>limbs (a%q))++ [limbs (l.getD j 0%q)]=(l.take (j+1)).map fun a=>limbs (a%q):=jZ (f:=fun a=>limbs (a%q)) hj
   have d1:decide (j+1=0)=false:=decide_eq_false (by omega)
   have w1:IntKind.i64.wrap ((j:Int)+1)=((j+1:Nat):Int):=i64_in _ (by omega)
   simp only [fA.g0,Go.Own.lt,bW (show (j:Int)<(l.length:Int) by omega),dm (show (0:Int)≤(j:Int) by omega),Bool.and_true,cond_true,Int.toNat_natCast,g1,List.length_map,ai,fa,Bool.and_false,s1,c1,w1,d1]
  ·intro R
   simp only [fA.g0,Go.Own.lt,cB (show ¬ (l.length:Int)<(l.length:Int) by omega),cond_false]
 have e:(tq q l).map limbs=l.map fun a=>limbs (a%q):=by unfold tq; rw [List.map_map]; rfl
 rw [List.take_length] at key
 rw [e]
 exact key
theorem RS {L:List Nat} (hL:∀ a∈L,a<ak) (hn:L.length≤1073741824) (fl:Bool):fA.l1 ((),(0,L.length),()) ((fl,L.map limbs),())=(true,3,((),(0,tl L L.length),()),((fl,L.map limbs),()),(),()):=by
 obtain ⟨w,hw⟩:∃ w,w=fA.l1 ((),(0,L.length),()) ((fl,L.map limbs),()):=⟨_,rfl⟩
 rw [← hw]
 refine iB (g:=fun rq kn ke kr x y=>fA.g1 rq kn ke kr x y) hw (fun x y=>∃ n,n≤L.length∧tl L n=tl L L.length∧x=((),(0,n),())∧y=((fl,L.map limbs),())) (fun x y=>x.2.1.2) ⟨_,Nat.le_refl _,rfl,rfl,rfl⟩ (by show L.length<((L.length:Int) - (0:Int)).toNat+1; omega)
  (Q:=fun w=>w=(true,3,((),(0,tl L L.length),()),((fl,L.map limbs),()),(),())) ?_
 rintro x y R ⟨n,hn1,ht,rfl,rfl⟩ hR
 cases n with
 |zero=>
  simp only [fA.g1,Go.Own.lt,cB (show ¬ (0:Int)<((0:Nat):Int) by omega),cond_false,← ht]
  rfl
 |succ n=>
  have w1:IntKind.i64.wrap (((n+1:Nat):Int) - 1)=(n:Int):=by rw [i64_in _ (by omega)]; omega
  have g1:(L.map limbs).getD n [0,0,0,0]=limbs (L.getD n 0):=getD_map (by omega)
  have b1:decide (L.getD n 0=0)=Nat.beq (L.getD n 0) 0:=by
   cases L.getD n 0<;>rfl
  simp only [fA.g1,Go.Own.lt,bW (show (0:Int)<((n+1:Nat):Int) by omega),cond_true,w1,Int.toNat_natCast,Nat.zero_add,dm (show (0:Int)≤(n:Int) by omega),bW (show (n:Int)<((n+1:Nat):Int) by omega),dm (show (n:Int)≤((n+1:Nat):Int) by omega),Bool.and_self,ai,g1,Lp (hL _ (fK (show n<L.length by omega))),b1]
  simp only [tl] at ht
  cases hb:Nat.beq (L.getD n 0) 0 with
  |true=>
   rw [hb] at ht
   simp only [cond_true] at ht ⊢
   exact hR _ _ ⟨n,by omega,ht,rfl,rfl⟩ (by show n<n+1; omega)
  |false=>
   rw [hb] at ht
   simp only [cond_false] at ht ⊢
   rw [← ht]
theorem J9 {gx:Option eU} {q:Nat} (h:Fld gx q) {l:List Nat} (hl:∀ a∈l,a<ak) (hn:l.length≤1073741824):fA.r gx (l.map limbs)=(true,1,(),(0,tl (tq q l) l.length,(decide (l.length=0),(tq q l).map limbs))):=by
 obtain ⟨rq,inv,hR,hF⟩:=h.field
 have e:=RS (QV h (l:=l)) (by rw [pV]; exact hn) (decide (l.length=0))
 rw [pV] at e
 simp only [fA.r,fA.g,Go.Own.lt,hF,ai,hR.wQ,cond_false,List.length_map,RU h hl hn,pV,e]
theorem mP {gx:Option eU} {q:Nat} (h:Fld gx q) {β:Type} (f:Nat→β) (j:Nat):(List.range j).map f++ [f j]=(List.range (j+1)).map f:=by
 rw [List.range_succ,List.map_append]; rfl
theorem M9 {gx:Option eU} {q:Nat} (h:Fld gx q) {f:List Nat} (hf:∀ a∈f,a<ak) {by':Nat} (hb:by'<ak) (k:Nat) (hk:k≤1073741824):j5.r (k:Int) gx (f.map limbs) 0 (limbs by')=(true,limbs (jw f (k:Int)*by'%q),gx,f.map limbs,0,limbs by'):=by
 have w1:IntKind.i64.wrap ((k:Int) - 0)=(k:Int):=by rw [Int.sub_zero]; exact oP _ (by omega)
 simp only [j5.r,j5.g,Go.Own.lt,w1,Qg,ai,E9 h (xw hf _) hb]
def zY (q:Nat) (f:List Nat) (c:Nat):List Nat:=(List.range f.length).map fun (k:Nat)=>jw f (k:Int)*c%q
theorem Si {gx:Option eU} {q:Nat} (h:Fld gx q) {f:List Nat} (hf:∀ a∈f,a<ak) {by':Nat} (hb:by'<ak) (hn:f.length≤1073741824):jG.l0 (gx,(),(),(),(f.length:Int),0,()) ((true,[]),gx,f.map limbs,0,limbs by',())=
  (true,1,(gx,(),(),(),(f.length:Int),(f.length:Int),()),((decide (f.length=0),(zY q f by').map limbs),gx,f.map limbs,0,limbs by',()),(),()):=by
 have key:jG.l0 (gx,(),(),(),(f.length:Int),((0:Nat):Int),()) ((decide (0=0),(List.range 0).map fun (k:Nat)=>limbs (jw f (k:Int)*by'%q)),gx,f.map limbs,0,limbs by',())=
  (true,1,(gx,(),(),(),(f.length:Int),(f.length:Int),()),((decide (f.length=0),(List.range f.length).map fun (k:Nat)=>limbs (jw f (k:Int)*by'%q)),gx,f.map limbs,0,limbs by',()),(),()):=by
  refine bE (g:=fun rq kn ke kr x y=>jG.g0 rq kn ke kr x y) f.length (fun j=>(gx,(),(),(),(f.length:Int),(j:Int),())) (fun j=>((decide (j=0),(List.range j).map fun (k:Nat)=>limbs (jw f (k:Int)*by'%q)),gx,f.map limbs,0,limbs by',())) _ ?_ ?_ _ 0 (Nat.zero_le _) (by show f.length - 0<((f.length:Int) - ((0:Nat):Int)).toNat+1; omega)
  ·intro j R hj
   have c1:nle ((2*(j+1)+512)*32) 70368744177664=true:=oN (by omega)
   have s1:=mP h (fun (k:Nat)=>limbs (jw f (k:Int)*by'%q)) j
   have d1:decide (j+1=0)=false:=decide_eq_false (by omega)
   have w1:IntKind.i64.wrap ((j:Int)+1)=((j+1:Nat):Int):=i64_in _ (by omega)
   simp only [jG.g0,Go.Own.lt,bW (show (j:Int)<(f.length:Int) by omega),cond_true,M9 h hf hb j (by omega),ai,Bool.and_false,s1,List.length_map,List.length_range,c1,w1,d1]
  ·intro R
   simp only [jG.g0,Go.Own.lt,cB (show ¬ (f.length:Int)<(f.length:Int) by omega),cond_false]
 have e:(zY q f by').map limbs=(List.range f.length).map fun (k:Nat)=>limbs (jw f (k:Int)*by'%q):=by unfold zY; rw [List.map_map]; rfl
 rw [e]
 exact key
theorem UG {gx:Option eU} {q:Nat} (h:Fld gx q) {f:Nat→Nat} {n:Nat}:∀ a∈(List.range n).map fun k=>f k%q,a<ak:=by
 intro a ha
 obtain ⟨b,_,rfl⟩:=List.mem_map.1 ha
 exact Nat.lt_trans (Nat.mod_lt _ (by have:=h.gt; omega)) h.lt
theorem QN {gx:Option eU} {q:Nat} (h:Fld gx q) {f:List Nat} {c:Nat}:∀ a∈zY q f c,a<ak:=UG h (f:=fun (k:Nat)=>jw f (k:Int)*c) (n:=f.length)
theorem wI {q:Nat} {f:List Nat} {c:Nat}:(zY q f c).length=f.length:=by unfold zY; simp
theorem P5 {gx:Option eU} {q:Nat} (h:Fld gx q) {f:List Nat} (hf:∀ a∈f,a<ak) {by':Nat} (hb:by'<ak) (hn:f.length≤1073741824):mr.r gx (f.map limbs) (limbs by') 0=(true,(sS q (zY q f by')).map limbs):=by
 have w1:IntKind.i64.wrap ((f.length:Int)+0)=(f.length:Int):=by rw [Int.add_zero]; exact oP _ (by omega)
 have e:=J9 h (QN h (f:=f) (c:=by')) (by rw [wI]; exact hn)
 rw [wI] at e
 simp only [mr.r,mr.g,jG.r,jG.g,Go.Own.lt,List.length_map,w1,Si h hf hb hn,ai,e,show Nat.beq 1 0=false from rfl,cond_false,List.drop_zero]
 unfold sS
 rw [wI,List.map_take]
def addN (q:Nat) (a b:List Nat):List Nat:=(List.range (max a.length b.length)).map fun (k:Nat)=>(jw a (k:Int)+jw b (k:Int))%q
theorem BG {q:Nat} {a b:List Nat}:(addN q a b).length=max a.length b.length:=by unfold addN; simp
theorem RP {gx:Option eU} {q:Nat} (h:Fld gx q) {a b:List Nat}:∀ x∈addN q a b,x<ak:=UG h (f:=fun (k:Nat)=>jw a (k:Int)+jw b (k:Int)) (n:=max a.length b.length)
theorem Uu {gx:Option eU} {q:Nat} (h:Fld gx q) {a b:List Nat} (ha:∀ x∈a,x<ak) (hb:∀ x∈b,x<ak) (k:Nat):nP.r (k:Int) gx (a.map limbs) (b.map limbs)=(true,limbs ((jw a (k:Int)+jw b (k:Int))%q),gx,a.map limbs,b.map limbs):=by
 simp only [nP.r,nP.g,Go.Own.lt,Qg,ai,Fa h (xw ha _) (xw hb _)]
theorem Qn {gx:Option eU} {q:Nat} (h:Fld gx q) {a b:List Nat} (ha:∀ x∈a,x<ak) (hb:∀ x∈b,x<ak) {n:Nat} (hn:n≤1073741824):gZ.l0 (gx,(),(),(),(n:Int),0,()) ((true,[]),gx,a.map limbs,b.map limbs,())=
  (true,1,(gx,(),(),(),(n:Int),(n:Int),()),((decide (n=0),(List.range n).map fun (k:Nat)=>limbs ((jw a (k:Int)+jw b (k:Int))%q)),gx,a.map limbs,b.map limbs,()),(),()):=by
 have key:gZ.l0 (gx,(),(),(),(n:Int),((0:Nat):Int),()) ((decide (0=0),(List.range 0).map fun (k:Nat)=>limbs ((jw a (k:Int)+jw b (k:Int))%q)),gx,a.map limbs,b.map limbs,())=
  (true,1,(gx,(),(),(),(n:Int),(n:Int),()),((decide (n=0),(List.range n).map fun (k:Nat)=>limbs ((jw a (k:Int)+jw b (k:Int))%q)),gx,a.map limbs,b.map limbs,()),(),()):=by
  refine bE (g:=fun rq kn ke kr x y=>gZ.g0 rq kn ke kr x y) n (fun j=>(gx,(),(),(),(n:Int),(j:Int),())) (fun j=>((decide (j=0),(List.range j).map fun (k:Nat)=>limbs ((jw a (k:Int)+jw b (k:Int))%q)),gx,a.map limbs,b.map limbs,())) _ ?_ ?_ _ 0 (Nat.zero_le _) (by show n - 0<((n:Int) - ((0:Nat):Int)).toNat+1; omega)
  ·intro j R hj
   have c1:nle ((2*(j+1)+512)*32) 70368744177664=true:=oN (by omega)
   have s1:=mP h (fun (k:Nat)=>limbs ((jw a (k:Int)+jw b (k:Int))%q)) j
   have d1:decide (j+1=0)=false:=decide_eq_false (by omega)
   have w1:IntKind.i64.wrap ((j:Int)+1)=((j+1:Nat):Int):=i64_in _ (by omega)
   simp only [gZ.g0,Go.Own.lt,bW (show (j:Int)<(n:Int) by omega),cond_true,Uu h ha hb j,ai,Bool.and_false,s1,List.length_map,List.length_range,c1,w1,d1]
  ·intro R
   simp only [gZ.g0,Go.Own.lt,cB (show ¬ (n:Int)<(n:Int) by omega),cond_false]
 exact key
theorem Ul {gx:Option eU} {q:Nat} (h:Fld gx q) {a b:List Nat} (ha:∀ x∈a,x<ak) (hb:∀ x∈b,x<ak) (hna:a.length≤1073741824) (hnb:b.length≤1073741824):rV.r gx (a.map limbs) (b.map limbs)=(true,1,(),(0,tl (tq q (addN q a b)) (addN q a b).length,(decide ((addN q a b).length=0),(tq q (addN q a b)).map limbs))):=by
 have e:=J9 h (RP h (a:=a) (b:=b)) (by rw [BG]; omega)
 have m1:((if a.length<b.length then b.length else a.length:Nat):Int)=((max a.length b.length:Nat):Int):=by
  congr 1; split<;>omega
 have ml:=Qn h ha hb (n:=max a.length b.length) (by omega)
 have e2:(addN q a b).map limbs=(List.range (max a.length b.length)).map fun (k:Nat)=>limbs ((jw a (k:Int)+jw b (k:Int))%q):=by unfold addN; rw [List.map_map]; rfl
 rw [← e2] at ml
 simp only [rV.r,rV.g,gZ.r,gZ.g,Go.Own.lt,List.length_map,Li,m1,ml,ai,e,show Nat.beq 1 0=false from rfl,cond_false]
def mulC (q:Nat) (a b:List Nat) (k n:Nat):Nat:=(List.range n).foldl (fun (s:Nat) (i:Nat)=>(s+jw a (i:Int)*jw b ((k:Int) - (i:Int))%q)%q) 0
theorem CP {gx:Option eU} {q:Nat} (h:Fld gx q) {a b:List Nat} {k n:Nat}:mulC q a b k (n+1)=(mulC q a b k n+jw a (n:Int)*jw b ((k:Int) - (n:Int))%q)%q:=by
 unfold mulC; rw [List.range_succ,List.foldl_append]; rfl
theorem KI {gx:Option eU} {q:Nat} (h:Fld gx q) {a b:List Nat} {k n:Nat}:mulC q a b k n<q:=by
 cases n with
 |zero=>have:=h.gt; show 0<q; omega
 |succ n=>rw [CP h]; exact Nat.mod_lt _ (by have:=h.gt; omega)
theorem Sg {gx:Option eU} {q:Nat} (h:Fld gx q) {a b:List Nat} (ha:∀ x∈a,x<ak) (hb:∀ x∈b,x<ak) {k:Nat} (hk:k≤1073741824) (hn:a.length≤1073741824):iX.r (k:Int) (a.map limbs) gx (b.map limbs)=(true,limbs (mulC q a b k a.length),a.map limbs,gx,b.map limbs):=by
 have key:iX.l0 ((k:Int),(),(),(),(),(),(a.length:Int),((0:Nat):Int),()) ([0,0,0,0],limbs (mulC q a b k 0),a.map limbs,gx,b.map limbs,())=
  (true,1,((k:Int),(),(),(),(),(),(a.length:Int),(a.length:Int),()),([0,0,0,0],limbs (mulC q a b k a.length),a.map limbs,gx,b.map limbs,()),(),()):=by
  refine bE (g:=fun rq kn ke kr x y=>iX.g0 rq kn ke kr x y) a.length (fun j=>((k:Int),(),(),(),(),(),(a.length:Int),(j:Int),())) (fun j=>([0,0,0,0],limbs (mulC q a b k j),a.map limbs,gx,b.map limbs,())) _ ?_ ?_ _ 0 (Nat.zero_le _) (by show a.length - 0<((a.length:Int) - ((0:Nat):Int)).toNat+1; omega)
  ·intro j R hj
   have g1:(a.map limbs).getD j [0,0,0,0]=limbs (a.getD j 0):=getD_map hj
   have g2:a.getD j 0=jw a (j:Int):=by unfold jw; rw [if_neg (by omega)]; rfl
   have w0:IntKind.i64.wrap ((k:Int) - (j:Int))=(k:Int) - (j:Int):=i64_in _ (by omega)
   have w1:IntKind.i64.wrap ((j:Int)+1)=((j+1:Nat):Int):=i64_in _ (by omega)
   have f1:=E9 h (xw ha (j:Int)) (xw hb ((k:Int) - (j:Int)))
   have f2:=Fa h (a:=mulC q a b k j) (b:=jw a (j:Int)*jw b ((k:Int) - (j:Int))%q) (Nat.lt_trans (KI h) h.lt) (Nat.lt_trans (Nat.mod_lt _ (by have:=h.gt; omega)) h.lt)
   rw [← CP h] at f2
   simp only [iX.g0,Go.Own.lt,bW (show (j:Int)<(a.length:Int) by omega),dm (show (0:Int)≤(j:Int) by omega),cond_true,Bool.and_self,Int.toNat_natCast,List.length_map,ai,g1,g2,w0,Qg,f1,f2,w1]
  ·intro R
   simp only [iX.g0,Go.Own.lt,cB (show ¬ (a.length:Int)<(a.length:Int) by omega),cond_false]
 have e0:limbs (mulC q a b k 0)= [0,0,0,0]:=fC
 rw [e0] at key
 have k2:iX.l0 ((k:Int),(),(),(),(),(),(a.length:Int),0,()) ([0,0,0,0],[0,0,0,0],a.map limbs,gx,b.map limbs,())=_:=key
 simp only [iX.r,iX.g,Go.Own.lt,List.length_map,k2,ai]
def mulN (q:Nat) (a b:List Nat):List Nat:=(List.range (a.length+b.length)).map fun k=>mulC q a b k a.length
theorem Gs {q:Nat} {a b:List Nat}:(mulN q a b).length=a.length+b.length:=by unfold mulN; simp
theorem Ra {gx:Option eU} {q:Nat} (h:Fld gx q) {a b:List Nat}:∀ x∈mulN q a b,x<ak:=by
 intro x hx
 obtain ⟨k,_,rfl⟩:=List.mem_map.1 hx
 exact Nat.lt_trans (KI h) h.lt
theorem Qm {gx:Option eU} {q:Nat} (h:Fld gx q) {a b:List Nat} (ha:∀ x∈a,x<ak) (hb:∀ x∈b,x<ak) {n:Nat} (hn:n≤1073741824) (hna:a.length≤1073741824):gY.l0 (gx,(),(),(),(n:Int),0,()) ((true,[]),a.map limbs,gx,b.map limbs,())=
  (true,1,(gx,(),(),(),(n:Int),(n:Int),()),((decide (n=0),(List.range n).map fun (k:Nat)=>limbs (mulC q a b k a.length)),a.map limbs,gx,b.map limbs,()),(),()):=by
 have key:gY.l0 (gx,(),(),(),(n:Int),((0:Nat):Int),()) ((decide (0=0),(List.range 0).map fun (k:Nat)=>limbs (mulC q a b k a.length)),a.map limbs,gx,b.map limbs,())=
  (true,1,(gx,(),(),(),(n:Int),(n:Int),()),((decide (n=0),(List.range n).map fun (k:Nat)=>limbs (mulC q a b k a.length)),a.map limbs,gx,b.map limbs,()),(),()):=by
  refine bE (g:=fun rq kn ke kr x y=>gY.g0 rq kn ke kr x y) n (fun j=>(gx,(),(),(),(n:Int),(j:Int),())) (fun j=>((decide (j=0),(List.range j).map fun (k:Nat)=>limbs (mulC q a b k a.length)),a.map limbs,gx,b.map limbs,())) _ ?_ ?_ _ 0 (Nat.zero_le _) (by show n - 0<((n:Int) - ((0:Nat):Int)).toNat+1; omega)
  ·intro j R hj
   have c1:nle ((2*(j+1)+512)*32) 70368744177664=true:=oN (by omega)
   have s1:=mP h (fun (k:Nat)=>limbs (mulC q a b k a.length)) j
   have d1:decide (j+1=0)=false:=decide_eq_false (by omega)
   have w1:IntKind.i64.wrap ((j:Int)+1)=((j+1:Nat):Int):=i64_in _ (by omega)
   simp only [gY.g0,Go.Own.lt,bW (show (j:Int)<(n:Int) by omega),cond_true,Sg h ha hb (show j≤1073741824 by omega) hna,ai,Bool.and_false,s1,List.length_map,List.length_range,c1,w1,d1]
  ·intro R
   simp only [gY.g0,Go.Own.lt,cB (show ¬ (n:Int)<(n:Int) by omega),cond_false]
 exact key
theorem Uh {gx:Option eU} {q:Nat} (h:Fld gx q) {a b:List Nat} (ha:∀ x∈a,x<ak) (hb:∀ x∈b,x<ak) (hn:a.length+b.length≤1073741824):qA.r gx (a.map limbs) (b.map limbs)=(true,(sS q (mulN q a b)).map limbs):=by
 have e:=J9 h (Ra h (a:=a) (b:=b)) (by rw [Gs]; omega)
 have ml:=Qm h ha hb (n:=a.length+b.length) hn (by omega)
 have e2:(mulN q a b).map limbs=(List.range (a.length+b.length)).map fun (k:Nat)=>limbs (mulC q a b k a.length):=by unfold mulN; rw [List.map_map]; rfl
 rw [← e2] at ml
 have w1:IntKind.i64.wrap ((a.length:Int)+(b.length:Int))=((a.length+b.length:Nat):Int):=i64_in _ (by omega)
 simp only [qA.r,qA.g,gY.r,gY.g,Go.Own.lt,List.length_map,w1,ml,ai,e,show Nat.beq 1 0=false from rfl,cond_false,List.drop_zero]
 unfold sS
 rw [List.map_take]
end Go.Own
set_option linter.unusedVariables false
set_option linter.unusedSimpArgs false
namespace Go.Own
open Go.IntWalk
section
variable {q:Nat} [NeZero q]
def fz (q:Nat) [NeZero q] (n:Nat):Fin q:=Fin.ofNat q n
theorem iC (a:Nat):fz q (a%q)=fz q a:=by unfold fz; simp [Fin.ext_iff]
theorem mQ (a b:Nat):fz q (a+b)=fz q a+fz q b:=by unfold fz; simp [Fin.ext_iff,Fin.val_add]
theorem nI (a b:Nat):fz q (a*b)=fz q a*fz q b:=by unfold fz; simp [Fin.ext_iff,Fin.val_mul,Nat.mul_mod]
theorem kE:fz q 0=0:=rfl
theorem Bh:fz q 1=1:=rfl
theorem UL:fz q q=0:=by unfold fz; simp [Fin.ext_iff]
theorem OY (a:Nat):(fz q a).val=a%q:=rfl
theorem Bj {a b:Nat} (h:fz q a=fz q b):a%q=b%q:=congrArg Fin.val h
theorem OZ {a b:Nat}:fz q ((a%q+(q - b%q))%q)=fz q a - fz q b:=by
 have hq:0<q:=Nat.pos_of_ne_zero (NeZero.ne q)
 have h1:=Nat.mod_lt b hq
 have h2:fz q (q - b%q)+fz q b=0:=by
  rw [← iC b,← mQ,Nat.sub_add_cancel (Nat.le_of_lt h1),UL]
 rw [iC,mQ,iC]
 grind
def toF (q:Nat) [NeZero q] (l:List Nat):List (Fin q):=l.map (fz q)
theorem gF (l:List Nat) (n:Nat):Pol.cf (toF q l) n=fz q (l.getD n 0):=by
 unfold Pol.cf toF
 rcases Nat.lt_or_ge n l.length with h|h
 ·exact getD_map h
 ·rw [List.getD_eq_getElem?_getD,List.getElem?_eq_none (by simpa using h),List.getD_eq_getElem?_getD,List.getElem?_eq_none h]; rfl
theorem vZ (f:List Nat) (x:Nat):fz q (evN q f x)=Pol.ev (toF q f) (fz q x):=by
 induction f with
 |nil=>rfl
 |cons a f ih=>
  show fz q ((evN q f x*x%q+a)%q)=Pol.ev (toF q f) (fz q x)*fz q x+fz q a
  rw [iC,mQ,iC,nI,ih]
theorem EJ (f:List Nat) (n:Nat):jw f (n:Int)=f.getD n 0:=by unfold jw; rw [if_neg (by omega)]; rfl
theorem fQ {l:List Nat} {n:Nat} (h:l.length≤n):l.getD n 0=0:=by rw [List.getD_eq_getElem?_getD,List.getElem?_eq_none h]; rfl
theorem Rs (l:List Nat) (n:Nat):fz q ((tq q l).getD n 0)=fz q (l.getD n 0):=by
 rcases Nat.lt_or_ge n l.length with h|h
 ·have:(tq q l).getD n 0=l.getD n 0%q:=getD_map h
  rw [this,iC]
 ·rw [fQ (by rw [pV]; exact h),fQ h]
theorem getD_take {l:List Nat} {m n:Nat}:(l.take m).getD n 0=if n<m then l.getD n 0 else 0:=by
 simp only [List.getD_eq_getElem?_getD,List.getElem?_take]
 split<;>rfl
theorem DT {L:List Nat} {n:Nat}:(L.take (tl L L.length)).getD n 0=L.getD n 0:=by
 rw [getD_take]
 split
 ·rfl
 ·rename_i h
  rcases Nat.lt_or_ge n L.length with h2|h2
  ·exact (Kn L L.length n (by omega) h2).symm
  ·exact (fQ h2).symm
theorem E5 (l:List Nat):Pol.PE (toF q (sS q l)) (toF q l):=fun n=>by
 rw [gF,gF,← Rs l n]
 congr 1
 unfold sS
 rw [← pV q l]
 exact DT
theorem l8 {f:Nat→Nat} {n k:Nat}:((List.range n).map f).getD k 0=if k<n then f k else 0:=by
 split
 ·rename_i h; exact kL h
 ·rename_i h; exact fQ (by simpa using h)
theorem Ui (f:List Nat) (c:Nat):Pol.PE (toF q (zY q f c)) (Pol.qQ (fz q c) (toF q f)):=fun n=>by
 rw [gF,Pol.kZ,gF]
 unfold zY
 rw [l8]
 split
 ·rw [iC,nI,EJ]; grind
 ·rename_i h
  rw [fQ (by omega),kE]; grind
theorem Uk (a b:List Nat):Pol.PE (toF q (addN q a b)) (Pol.lm (toF q a) (toF q b)):=fun n=>by
 rw [gF,Pol.iM,gF,gF]
 unfold addN
 rw [l8]
 split
 ·rw [iC,mQ,EJ,EJ]
 ·rename_i h
  rw [fQ (l:=a) (by omega),fQ (l:=b) (by omega),kE]; grind
theorem La (a:List Nat) (b k:Nat):∀ n,fz q (mulC q a [b,1] k n)=(if k<n then fz q b*fz q (a.getD k 0) else 0)+(if 1≤k∧k - 1<n then fz q (a.getD (k - 1) 0) else 0)
 |0=>by
  show fz q 0=_
  rw [if_neg (by omega),if_neg (by omega),kE]; grind
 |n+1=>by
  have ih:=La a b k n
  have e:mulC q a [b,1] k (n+1)=(mulC q a [b,1] k n+jw a (n:Int)*jw [b,1] ((k:Int) - (n:Int))%q)%q:=by
   unfold mulC; rw [List.range_succ,List.foldl_append]; rfl
  rw [e,iC,mQ,iC,nI,ih,EJ]
  have hc:jw [b,1] ((k:Int) - (n:Int))=if n=k then b else if n+1=k then 1 else 0:=by
   unfold jw
   by_cases h1:n=k
   ·subst h1; rw [if_neg (by omega),if_pos rfl,show ((n:Int) - (n:Int)).toNat=0 by omega]; rfl
   ·rw [if_neg h1]
    by_cases h2:n+1=k
    ·rw [if_neg (by omega),if_pos h2,show ((k:Int) - (n:Int)).toNat=1 by omega]; rfl
    ·rw [if_neg h2]
     split
     ·rfl
     ·exact fQ (by simp only [List.length_cons,List.length_nil]; omega)
  rw [hc]
  by_cases h1:n=k
  ·subst h1
   rw [if_pos rfl,if_neg (show ¬ n<n by omega),if_pos (show n<n+1 by omega)]
   by_cases h3:1≤n
   ·rw [if_pos ⟨h3,by omega⟩,if_pos ⟨h3,by omega⟩]; grind
   ·rw [if_neg (by omega),if_neg (by omega)]; grind
  ·rw [if_neg h1]
   by_cases h2:n+1=k
   ·subst h2
    rw [if_pos rfl,if_neg (show ¬ n+1<n by omega),if_neg (show ¬ n+1<n+1 by omega),if_neg (by omega),if_pos (by omega),Bh,Nat.add_sub_cancel]; grind
   ·rw [if_neg h2,kE]
    by_cases h3:k<n
    ·rw [if_pos h3,if_pos (show k<n+1 by omega)]
     by_cases h4:1≤k
     ·rw [if_pos ⟨h4,by omega⟩,if_pos ⟨h4,by omega⟩]; grind
     ·rw [if_neg (by omega),if_neg (by omega)]; grind
    ·rw [if_neg h3,if_neg (show ¬ k<n+1 by omega),if_neg (by omega),if_neg (by omega)]; grind
theorem Uj (a:List Nat) (b:Nat):Pol.PE (toF q (mulN q a [b,1])) (Pol.Ml (-(fz q b)) (toF q a)):=fun n=>by
 rw [gF]
 unfold mulN
 rw [l8,show ([b,1]:List Nat).length=2 from rfl]
 have e:(if n<a.length+2 then mulC q a [b,1] n a.length else 0)=mulC q a [b,1] n a.length∨¬ n<a.length+2:=by
  by_cases h:n<a.length+2
  ·exact .inl (if_pos h)
  ·exact .inr h
 have v:fz q (if n<a.length+2 then mulC q a [b,1] n a.length else 0)=fz q b*fz q (a.getD n 0)+(if 1≤n then fz q (a.getD (n - 1) 0) else 0):=by
  rcases e with e|h
  ·rw [e,La]
   by_cases h1:n<a.length
   ·rw [if_pos h1]
    by_cases h2:1≤n
    ·rw [if_pos ⟨h2,by omega⟩,if_pos h2]
    ·rw [if_neg (by omega),if_neg h2]
   ·rw [if_neg h1,fQ (l:=a) (n:=n) (by omega),kE]
    by_cases h2:1≤n
    ·rw [if_pos h2]
     by_cases h3:n - 1<a.length
     ·rw [if_pos ⟨h2,h3⟩]; grind
     ·rw [if_neg (by omega),fQ (l:=a) (n:=n - 1) (by omega),kE]; grind
    ·rw [if_neg h2,if_neg (by omega)]; grind
  ·rw [if_neg h,fQ (l:=a) (n:=n) (by omega),if_pos (by omega),fQ (l:=a) (n:=n - 1) (by omega),kE]; grind
 rw [v]
 cases n with
 |zero=>rw [Pol.mV,gF,if_neg (by omega)]; grind
 |succ n=>rw [Pol.kM,gF,gF,if_pos (by omega),Nat.add_sub_cancel]; grind
end
end Go.Own
set_option linter.unusedVariables false
set_option linter.unusedSimpArgs false
namespace Go.Own
open Go.IntWalk
theorem Nk {q a:Nat} [NeZero q] (hq:1<q) (h:∃ s:Fin q,s*fz q a=1):Nat.gcd a q=1:=by
 obtain ⟨s,hs⟩:=h
 have e:s.val*(a%q)%q=1:=by
  have:=congrArg Fin.val hs
  rw [Fin.val_mul,OY] at this
  rw [this]
  show 1%q=1
  exact Nat.mod_eq_of_lt hq
 rw [Nat.mul_mod_mod] at e
 have h1:Nat.gcd a q∣s.val*a:=Nat.dvd_trans (Nat.gcd_dvd_left a q) (Nat.dvd_mul_left _ _)
 have h2:Nat.gcd a q∣q:=Nat.gcd_dvd_right a q
 have h3:Nat.gcd a q∣s.val*a%q:=(Nat.dvd_mod_iff h2).2 h1
 rw [e] at h3
 exact Nat.dvd_one.1 h3
theorem GZ {q a s:Nat} [NeZero q] (h:Qo a q s):fz q s*fz q a=1:=by
 rw [← nI,← iC,h.eq,Bh]
theorem Cn (q:Nat) (l:List Nat):(sS q l).length≤l.length:=by
 unfold sS; rw [List.length_take,pV]; omega
theorem NS {q:Nat} (hq:0<q) {l:List Nat}:∀ a∈tq q l,a<q:=by
 intro a ha
 obtain ⟨b,_,rfl⟩:=List.mem_map.1 ha
 exact Nat.mod_lt _ hq
theorem Kl {q:Nat} (hq:0<q) {l:List Nat}:∀ a∈sS q l,a<q:=fun a ha=>NS hq a (List.mem_of_mem_take ha)
def uK (q:Nat) [NeZero q] (xs:List Nat):Prop:=∀ k,k<xs.length→∃ s:Fin q,s*Pol.tT (toF q (xs.take k)) (fz q (xs.getD k 0))=1
theorem DC {gx:Option eU} {q:Nat} [NeZero q] (h:Fld gx q) {f xs:List Nat} (hf:∀ a∈f,a<ak) (hx:∀ a∈xs,a<ak) (hfx:f.length≤xs.length) (h32:xs.length≤32) (ha:uK q xs):
  ∃ (L:List Nat) (n:Nat) (fl:Bool),fU.r gx (xs.map limbs) ((xs.map (evN q f)).map limbs)=(true,1,0,(0,n,0,(fl,L.map limbs)))∧(∀ a∈L,a<q)∧n≤L.length∧n≤f.length∧Pol.PE (toF q f) (toF q (L.take n)):=by
 have hq:=h.gt
 have hqW:=h.lt
 have h0:0<q:=by omega
 have qW:∀ {a},a<q→a<ak:=fun h=>Nat.lt_trans h hqW
 obtain ⟨rq,inv,hR,hF⟩:=h.field
 obtain ⟨w,hw⟩:∃ w,w=fU.l0 (gx,(xs.map (evN q f)).map limbs,(),0,(0,0),[[1,0,0,0]],xs.map limbs,(xs.length:Int),0,()) ((true,[]),()):=⟨_,rfl⟩
 have key:w.1=true∧w.2.1=1∧∃ (L:List Nat) (n:Nat) (fl:Bool),w.2.2.1.2.2.2.2.1=(0,n)∧w.2.2.2.1.1=(fl,L.map limbs)∧(∀ a∈L,a<q)∧n≤L.length∧n≤f.length∧Pol.PE (toF q f) (toF q (L.take n)):=by
  refine iB (g:=fun rq kn ke kr x y=>fU.g0 rq kn ke kr x y) hw
   (fun x y=>∃ (k:Nat) (L:List Nat) (n:Nat) (base:List Nat) (hh:List (Fin q)) (fl:Bool),k≤xs.length∧x=(gx,(xs.map (evN q f)).map limbs,(),0,(0,n),base.map limbs,xs.map limbs,(xs.length:Int),(k:Int),())∧y=((fl,L.map limbs),())∧n=tl L L.length∧(∀ a∈L,a<q)∧(∀ a∈base,a<q)∧base.length≤1+2*k∧n≤1+2*k∧
    Pol.PE (toF q f) (Pol.lm (toF q (L.take n)) (Pol.TL (toF q (xs.take k)) hh))∧Pol.PE (toF q base) (Pol.TL (toF q (xs.take k)) [1])∧hh.length=f.length - k)
   (fun x y=>xs.length - x.2.2.2.2.2.2.2.2.1.toNat)
   ⟨0,[],0,[1],toF q f,true,Nat.zero_le _,rfl,rfl,rfl,by simp,by simp; omega,by simp,by omega,fun n=>by rw [Pol.iM]; show _=Pol.cf [] n+_; rw [Pol.jo]; show _=0+Pol.cf (toF q f) n; grind,fun n=>rfl,by unfold toF; simp⟩
   (by show xs.length - ((0:Int)).toNat<((xs.length:Int) - (0:Int)).toNat+1; omega)
   (Q:=fun w=>w.1=true∧w.2.1=1∧∃ (L:List Nat) (n:Nat) (fl:Bool),w.2.2.1.2.2.2.2.1=(0,n)∧w.2.2.2.1.1=(fl,L.map limbs)∧(∀ a∈L,a<q)∧n≤L.length∧n≤f.length∧Pol.PE (toF q f) (toF q (L.take n))) ?_
  rintro x y R ⟨k,L,n,base,hh,fl,hk,rfl,rfl,hn,hL,hB,hbl,hnl,i1,i2,i3⟩ hR
  by_cases hlt:k<xs.length
  ·have hxk:=hx _ (fK hlt)
   obtain ⟨X,hX⟩:∃ X,X=xs.getD k 0:=⟨_,rfl⟩
   have g1:(xs.map limbs).getD k [0,0,0,0]=limbs X:=by rw [hX]; exact getD_map hlt
   have g2:((xs.map (evN q f)).map limbs).getD k [0,0,0,0]=limbs (evN q f X):=by
    rw [getD_map (d':=0) (by rw [List.length_map]; exact hlt),getD_map (d':=0) hlt,hX]
   rw [← hX] at hxk
   have hfk:∀ a∈L.take n,a<ak:=fun a ha=>qW (hL a (List.mem_of_mem_take ha))
   have hbW:∀ a∈base,a<ak:=fun a ha=>qW (hB a ha)
   have hfl:(L.take n).length≤1+2*k:=by rw [List.length_take]; omega
   have E1:=Ke h hbW (by omega) hxk
   have E2:=Ke h hfk (by omega) hxk
   obtain ⟨bv,hbv⟩:∃ b,b=evN q base X:=⟨_,rfl⟩
   obtain ⟨fv,hfv⟩:∃ b,b=evN q (L.take n) X:=⟨_,rfl⟩
   obtain ⟨yv,hyv⟩:∃ b,b=evN q f X:=⟨_,rfl⟩
   have bq:bv<q:=by rw [hbv]; exact uq h0 _ _
   have fvq:fv<q:=by rw [hfv]; exact uq h0 _ _
   have yvq:yv<q:=by rw [hyv]; exact uq h0 _ _
   rw [← hbv] at E1; rw [← hfv] at E2; rw [← hyv] at g2
   have eb:fz q bv=Pol.ev (toF q base) (fz q X):=by rw [hbv,vZ]
   have efv:fz q fv=Pol.ev (toF q (L.take n)) (fz q X):=by rw [hfv,vZ]
   have ey:fz q yv=Pol.ev (toF q f) (fz q X):=by rw [hyv,vZ]
   have hu:∃ s:Fin q,s*fz q bv=1:=by
    obtain ⟨s,hs⟩:=ha k hlt
    refine ⟨s,?_⟩
    rw [eb,Pol.sI i2,Pol.MN,hX]
    show s*(_*(0*_+1))=1
    rw [← hs]; grind
   have hg:=Nk hq hu
   have hbz:bv≠0:=by rintro rfl; rw [Nat.gcd_zero_left] at hg; omega
   obtain ⟨s,hs,eI⟩:=Ut h (qW bq) hg
   have P0:=Lp (qW bq)
   rw [decide_eq_false hbz] at P0
   have S1:=Qr h (qW yvq) (qW fvq)
   obtain ⟨d,hd⟩:∃ d,d=(yv%q+(q - fv%q))%q:=⟨_,rfl⟩
   have dq:d<q:=by rw [hd]; exact Nat.mod_lt _ h0
   rw [← hd] at S1
   have M1:=E9 h (qW dq) (qW hs.lt)
   obtain ⟨c,hc⟩:∃ c,c=d*s%q:=⟨_,rfl⟩
   have cq:c<q:=by rw [hc]; exact Nat.mod_lt _ h0
   rw [← hc] at M1
   have SC:=P5 h hbW (qW cq) (by omega)
   obtain ⟨sc,hsc⟩:∃ z,z=sS q (zY q base c):=⟨_,rfl⟩
   rw [← hsc] at SC
   have hscW:∀ a∈sc,a<ak:=fun a ha=>qW (by rw [hsc] at ha; exact Kl h0 a ha)
   have hscl:sc.length≤1+2*k:=by
    have:=Cn q (zY q base c)
    rw [wI,← hsc] at this
    omega
   have AD:=Ul h hfk hscW (by omega) (by omega)
   have S2:=Qr h (show 0<ak by decide) hxk
   obtain ⟨nx,hnx⟩:∃ d,d=(0%q+(q - X%q))%q:=⟨_,rfl⟩
   have nxq:nx<q:=by rw [hnx]; exact Nat.mod_lt _ h0
   rw [← hnx,fC] at S2
   have ML:=Uh h hbW (b:= [nx,1]) (by intro a ha; rcases List.mem_cons.1 ha with rfl|ha; exact qW nxq; rcases List.mem_cons.1 ha with rfl|ha; decide; cases ha) (by show base.length+2≤_; omega)
   have e1:([nx,1]:List Nat).map limbs= [limbs nx,[1,0,0,0]]:=rfl
   rw [e1] at ML
   have w1:IntKind.i64.wrap ((k:Int)+1)=((k+1:Nat):Int):=i64_in _ (by omega)
   have et:(List.map limbs L).take n=(L.take n).map limbs:=(List.map_take).symm
   simp only [fU.g0,Go.Own.lt,bW (show (k:Int)<(xs.length:Int) by omega),dm (show (0:Int)≤(k:Int) by omega),cond_true,Bool.and_self,Int.toNat_natCast,List.length_map,ai,g1,g2,E1,P0,cond_false,List.drop_zero,et,E2,S1,eI,M1,SC,AD,show Nat.beq 1 0=false from rfl,S2,ML,w1]
   have ax:toF q (xs.take (k+1))=toF q (xs.take k)++ [fz q X]:=by
    unfold toF
    rw [hX]
    exact (jZ (f:=fz q) hlt).symm
   have st:=Pol.DR (fk':=toF q ((tq q (addN q (L.take n) sc)).take (tl (tq q (addN q (L.take n) sc)) (addN q (L.take n) sc).length))) (base':=toF q (sS q (mulN q base [nx,1]))) (s:=fz q s) (c:=fz q c) i1 i2 ey (by rw [← eb]; exact GZ hs)
    (by rw [hc,iC,nI,hd,OZ,efv])
    (by
     refine (E5 (q:=q) (addN q (L.take n) sc)).trans ((Uk _ _).trans (Pol.PE.add Pol.PE.rfl' ?_))
     rw [hsc]
     exact (E5 _).trans (Ui _ _))
    (by
     refine (E5 (q:=q) _).trans ((Uj base nx).trans ?_)
     have: -(fz q nx)=fz q X:=by rw [hnx,OZ,kE]; grind
     rw [this]
     exact Pol.PE.rfl')
   refine hR _ _ ⟨k+1,tq q (addN q (L.take n) sc),_,sS q (mulN q base [nx,1]),Pol.dv (fz q X) hh,_,hlt,rfl,rfl,by rw [pV],NS h0,Kl h0,?_,?_,?_,?_,?_⟩ ?_
   ·have:=Cn q (mulN q base [nx,1])
    rw [Gs] at this
    have e2:([nx,1]:List Nat).length=2:=rfl
    omega
   ·have:=Co (tq q (addN q (L.take n) sc)) (addN q (L.take n) sc).length
    rw [BG] at this
    rw [BG]
    omega
   ·rw [ax]; exact st.1
   ·rw [ax]; exact st.2
   ·rw [Pol.JM,i3]; omega
   ·show xs.length - (((k+1:Nat):Int)).toNat<xs.length - ((k:Int)).toNat
    omega
  ·have hkl:k=xs.length:=by omega
   subst hkl
   have hh0:hh= []:=List.length_eq_zero_iff.1 (by omega)
   have hend:=Pol.FC i1 hh0
   simp only [fU.g0,Go.Own.lt,cB (show ¬ (xs.length:Int)<(xs.length:Int) by omega),cond_false]
   refine ⟨trivial,trivial,L,n,fl,rfl,rfl,hL,by rw [hn]; exact Co _ _,?_,hend⟩
   rw [hn]
   apply FB
   intro m hm
   have e:=hend m
   rw [gF,gF,fQ hm,hn,DT] at e
   have e2:=Bj e
   rw [Nat.zero_mod] at e2
   rcases Nat.lt_or_ge m L.length with h5|h5
   ·rw [Nat.mod_eq_of_lt (hL _ (fK h5))] at e2; exact e2.symm
   ·exact fQ h5
 obtain ⟨k1,k2,L,n,fl,k3,k4,k5,k6,k7,k8⟩:=key
 refine ⟨L,n,fl,?_,k5,k6,k7,k8⟩
 have c1:((xs.length:Int) != (xs.length:Int))=false:=by simp
 simp only [fU.r,fU.g,Go.Own.lt,hF,ai,hR.wQ,cond_false,List.length_map,c1,cB (show ¬ (32:Int)<(xs.length:Int) by omega),← hw,k1,k2,k3,k4,show Nat.beq 1 0=false from rfl]
end Go.Own
set_option linter.unusedVariables false
set_option linter.unusedSimpArgs false
namespace Go.Own
open Go.IntWalk
abbrev uJ:Type:=Int×((List Int)×Unit)
def jm (q:Nat) (f:List Nat) (p:Nat):uJ:=((p:Int),(limbs (evN q f p),()))
def lI (q:Nat) (f:List Nat) (n:Nat):List uJ:=(List.range n).map fun i=>jm q f (i+1)
theorem Sm {gx:Option eU} {q:Nat} (h:Fld gx q) {f:List Nat} (hf:∀ a∈f,a<ak) (hl:f.length≤9223372036854775807) {n:Nat} (hn:n≤1073741824):gq.l0 (gx,f.map limbs,(),0,(),(n:Int),0,()) ((true,[]),())=
  (true,1,(gx,f.map limbs,(),0,(),(n:Int),(n:Int),()),((decide (n=0),lI q f n),()),(),()):=by
 have key:gq.l0 (gx,f.map limbs,(),0,(),(n:Int),((0:Nat):Int),()) ((decide (0=0),lI q f 0),())=
  (true,1,(gx,f.map limbs,(),0,(),(n:Int),(n:Int),()),((decide (n=0),lI q f n),()),(),()):=by
  refine bE (g:=fun rq kn ke kr x y=>gq.g0 rq kn ke kr x y) n (fun j=>(gx,f.map limbs,(),0,(),(n:Int),(j:Int),())) (fun j=>((decide (j=0),lI q f j),())) _ ?_ ?_ _ 0 (Nat.zero_le _) (by show n - 0<((n:Int) - ((0:Nat):Int)).toNat+1; omega)
  ·intro j R hj
   have c1:nle ((2*((lI q f j).length+1)+512)*40) 70368744177664=true:=oN (by unfold lI; rw [List.length_map,List.length_range]; omega)
   have s1:lI q f j++ [(((j+1:Nat):Int),(limbs (evN q f (j+1)),()))]=lI q f (j+1):=mP h (fun i=>jm q f (i+1)) j
   have d1:decide (j+1=0)=false:=decide_eq_false (by omega)
   have w1:IntKind.i64.wrap ((j:Int)+1)=((j+1:Nat):Int):=i64_in _ (by omega)
   have n1:dY.r ((j+1:Nat):Int)=(true,limbs (j+1)):=by rw [sW _ (by omega)]; rfl
   have e1:=Ke h hf hl (show j+1<ak by unfold ak; omega)
   simp only [gq.g0,Go.Own.lt,bW (show (j:Int)<(n:Int) by omega),cond_true,w1,n1,ai,e1,Bool.and_false,s1,c1,d1]
  ·intro R
   simp only [gq.g0,Go.Own.lt,cB (show ¬ (n:Int)<(n:Int) by omega),cond_false]
 exact key
theorem Qu {gx:Option eU} {q:Nat} (h:Fld gx q) {f:List Nat} (hf:∀ a∈f,a<ak) (hl:f.length≤9223372036854775807) {n:Nat} (h1:1≤n) (h7:n≤7):gq.r gx (f.map limbs) (n:Int)=(true,lI q f n,0):=by
 obtain ⟨rq,inv,hR,hF⟩:=h.field
 simp only [gq.r,gq.g,Go.Own.lt,hF,ai,hR.wQ,cond_false,cB (show ¬ (n:Int)<1 by omega),cB (show ¬ (7:Int)<(n:Int) by omega),Sm h hf hl (show n≤1073741824 by omega)]
theorem Na {pts:List Nat} (hp:∀ p∈pts,1≤p∧p≤7) (hl:pts.length≤1073741824):gB.r (pts.map fun (p:Nat)=>(p:Int)) 1=(true,false):=by
 have key:aM.l0 (pts.map (fun (p:Nat)=>(p:Int)),(),0,(pts.length:Int),((0:Nat):Int),()) (1,())=(true,1,(pts.map (fun (p:Nat)=>(p:Int)),(),0,(pts.length:Int),(pts.length:Int),()),(1,()),(0,()),(0,())):=by
  refine bE (g:=fun rq kn ke kr x y=>aM.g0 rq kn ke kr x y) pts.length (fun j=>(pts.map (fun (p:Nat)=>(p:Int)),(),0,(pts.length:Int),(j:Int),())) (fun j=>(1,())) _ ?_ ?_ _ 0 (Nat.zero_le _) (by show pts.length - 0<((pts.length:Int) - ((0:Nat):Int)).toNat+1; omega)
  ·intro j R hj
   have g1:(pts.map fun (p:Nat)=>(p:Int)).getD j 0=((pts.getD j 0:Nat):Int):=getD_map hj
   have hb:=hp _ (fK hj)
   have w1:IntKind.i64.wrap ((j:Int)+1)=((j+1:Nat):Int):=i64_in _ (by omega)
   have o1:fG.r ((pts.getD j 0:Nat):Int) 1=(true,false,1):=by
    simp only [fG.r,fG.g,lt,cB (show ¬ ((pts.getD j 0:Nat):Int)<1 by omega),cond_false,cB (show ¬ (7:Int)<((pts.getD j 0:Nat):Int) by omega)]
   simp only [aM.g0,lt,bW (show (j:Int)<(pts.length:Int) by omega),dm (show (0:Int)≤(j:Int) by omega),cond_true,Bool.and_self,Int.toNat_natCast,List.length_map,ai,g1,o1,cond_false,w1]
  ·intro R
   simp only [aM.g0,lt,cB (show ¬ (pts.length:Int)<(pts.length:Int) by omega),cond_false]
 have k2:aM.l0 (pts.map (fun (p:Nat)=>(p:Int)),(),0,(pts.length:Int),0,()) (1,())=_:=key
 simp only [gB.r,gB.g,dN.r,dN.g,aM.r,aM.g,lt,List.length_map,k2,ai,show Nat.beq 1 0=false from rfl,cond_false,qH (show ¬ (0:Int)≤ -1 by decide)]
theorem K3 {l:List Nat} (h:l.Pairwise (· < ·)) {i j:Nat} (hij:i<j) (hj:j<l.length):l.getD i 0<l.getD j 0:=by
 rw [getD_lt hj,getD_lt (Nat.lt_trans hij hj)]
 exact List.pairwise_iff_getElem.1 h i j _ _ hij
theorem Nb {pts:List Nat} (h:pts.Pairwise (· < ·)) (hl:pts.length≤1073741824) (fl:Bool):aB.r (fl,pts.map fun (p:Nat)=>(p:Int))=(true,pts.map fun (p:Nat)=>(p:Int)):=by
 simp only [aB.r,aB.g,lt,List.length_map]
 by_cases h2:(pts.length:Int)<2
 ·simp only [bW h2,cond_true]
 ·have key:aB.l0 ((),(),((0+1:Nat):Int),()) ((fl,pts.map fun (p:Nat)=>(p:Int)),())=(true,1,((),(),((pts.length - 1+1:Nat):Int),()),((fl,pts.map fun (p:Nat)=>(p:Int)),()),((0,0),()),((true,[]),())):=by
   refine bE (g:=fun rq kn ke kr x y=>aB.g0 rq kn ke kr x y) (pts.length - 1) (fun j=>((),(),((j+1:Nat):Int),())) (fun j=>((fl,pts.map fun (p:Nat)=>(p:Int)),())) _ ?_ ?_ _ 0 (Nat.zero_le _) (by show pts.length - 1 - 0<(((pts.map fun (p:Nat)=>(p:Int)).length:Int) - ((0+1:Nat):Int)).toNat+1; rw [List.length_map]; omega)
   ·intro j R hj
    have g1:(pts.map fun (p:Nat)=>(p:Int)).getD (j+1) 0=((pts.getD (j+1) 0:Nat):Int):=getD_map (by omega)
    have g2:(pts.map fun (p:Nat)=>(p:Int)).getD j 0=((pts.getD j 0:Nat):Int):=getD_map (by omega)
    have hlt:=K3 h (show j<j+1 by omega) (by omega)
    have w0:IntKind.i64.wrap (((j+1:Nat):Int) - 1)=(j:Int):=by rw [i64_in _ (by omega)]; omega
    have w1:IntKind.i64.wrap (((j+1:Nat):Int)+1)=((j+1+1:Nat):Int):=i64_in _ (by omega)
    have e1:(((pts.getD (j+1) 0:Nat):Int)== ((pts.getD j 0:Nat):Int))=false:=by
     rw [beq_eq_false_iff_ne]; omega
    simp only [aB.g0,lt,List.length_map,bW (show ((j+1:Nat):Int)<(pts.length:Int) by omega),bW (show (j:Int)<(pts.length:Int) by omega),dm (show (0:Int)≤((j+1:Nat):Int) by omega),dm (show (0:Int)≤(j:Int) by omega),cond_true,Bool.and_self,ai,Int.toNat_natCast,g1,w0,g2,e1,cond_false,w1]
   ·intro R
    simp only [aB.g0,lt,List.length_map,cB (show ¬ ((pts.length - 1+1:Nat):Int)<(pts.length:Int) by omega),cond_false]
  have k2:aB.l0 ((),(),1,()) ((fl,pts.map fun (p:Nat)=>(p:Int)),())=_:=key
  simp only [cB h2,cond_false,k2,ai,show Nat.beq 1 0=false from rfl]
theorem LP {pts:List Nat} (h:pts.Pairwise (· < ·)):yP (pts.map fun (p:Nat)=>(p:Int))=pts.map fun (p:Nat)=>(p:Int):=by
 unfold yP
 apply List.mergeSort_of_pairwise
 rw [List.pairwise_map]
 exact h.imp fun hab=>by simp; omega
theorem RQ {pts:List Nat} (h:pts.Pairwise (· < ·)) (hl:pts.length≤1073741824):iO.r (pts.map fun (p:Nat)=>(p:Int))=(true,false):=by
 cases pts with
 |nil=>decide
 |cons p pts=>
  have c1:nle ((2*(0+(p::pts).length)+512)*8) 70368744177664=true:=oN (by omega)
  have c2:nlt (p::pts).length 4611686018427387904=true:=SA (by omega)
  have e1:((p::pts).map fun (p:Nat)=>(p:Int)).isEmpty=false:=rfl
  simp only [iO.r,iO.g,fM.r,fM.g,lt,e1,Bool.not_false,cond_false,List.length_map,c1,c2,ai,LP h,Nb h hl,cB (show ¬ ((p::pts).length:Int)<((p::pts).length:Int) by omega)]
end Go.Own
set_option linter.unusedVariables false
set_option linter.unusedSimpArgs false
namespace Go.Own
open Go.IntWalk
theorem xW {q:Nat} [NeZero q] (x:Fin q):∀ (xs:List (Fin q)),(∀ a∈xs,∃ s:Fin q,s*(x - a)=1)→∃ s:Fin q,s*Pol.tT xs x=1
 | [],_=>⟨1,by show (1:Fin q)*1=1; grind⟩
 |a::xs,h=>by
  obtain ⟨s,hs⟩:=h a (by simp)
  obtain ⟨t,ht⟩:=xW x xs fun b hb=>h b (by simp [hb])
  refine ⟨s*t,?_⟩
  show s*t*((x - a)*Pol.tT xs x)=1
  grind
theorem Bd {q d:Nat} [NeZero q] (hq:1<q) (hqW:q<ak) (hd:d<ak) (h:Nat.gcd d q=1):∃ s:Fin q,s*fz q d=1:=by
 rcases Iy d q hd hqW (by omega) with ⟨_,s,hs,_⟩|⟨hn,_⟩
 ·exact ⟨fz q s,GZ hs⟩
 ·exact absurd h hn
def Small (q:Nat):Prop:=∀ d,1≤d→d≤6→Nat.gcd d q=1
theorem M5 {q:Nat} [NeZero q] (hq:1<q) (hqW:q<ak) (hs:Small q) {pts:List Nat} (hp:∀ p∈pts,1≤p∧p≤7) (ha:pts.Pairwise (· < ·)):uK q pts:=by
 intro k hk
 apply xW
 intro a hm
 obtain ⟨p,hpm,rfl⟩:=List.mem_map.1 hm
 obtain ⟨i,hi,rfl⟩:=List.mem_take_iff_getElem.1 hpm
 have hik:i<k:=by omega
 have hlt:=K3 ha hik hk
 have h1:=hp _ (fK hk)
 have h2:=hp _ (fK (show i<pts.length by omega))
 rw [getD_lt (show i<pts.length by omega)] at hlt h2
 obtain ⟨s,hs2⟩:=Bd hq hqW (show pts.getD k 0 - pts[i]<ak by unfold ak; omega) (hs (pts.getD k 0 - pts[i]) (by omega) (by omega))
 refine ⟨s,?_⟩
 have e:fz q (pts.getD k 0)=fz q (pts.getD k 0 - pts[i])+fz q pts[i]:=by rw [← mQ,Nat.sub_add_cancel (Nat.le_of_lt hlt)]
 rw [e]
 grind
theorem mH {α β:Type} {f:α→β} {l:List α} {j:Nat} {d:α} {v:β} (h:j<l.length) (hv:v=f (l.getD j d)):(l.take j).map f++ [v]=(l.take (j+1)).map f:=by
 rw [hv]; exact jZ h
theorem FM {q:Nat} (h:(List.range 6).all (fun d=>Nat.beq (Nat.gcd (d+1) q) 1)=true):Small q:=by
 intro d h1 h6
 have:=List.all_eq_true.1 h (d - 1) (List.mem_range.2 (by omega))
 rw [Nat.sub_add_cancel h1] at this
 exact Nat.eq_of_beq_eq_true this
theorem DZ:Small mM:=FM (by kernel_rfl)
theorem DY:Small mK:=FM (by kernel_rfl)
end Go.Own
set_option linter.unusedVariables false
set_option linter.unusedSimpArgs false
namespace Go.Own
open Go.IntWalk
theorem Sj:ja.r=(true,((),(limbs om,())),(false,qy.map iw)):=by kernel_rfl
theorem Sc:iZ.r=(true,((),(limbs ol,())),(false,qw.map iw)):=by kernel_rfl
theorem Qe:jq.r (qy.map iw,(limbs om,()))=(true,limbs mM):=by kernel_rfl
theorem Qd:jq.r (qw.map iw,(limbs ol,()))=(true,limbs mK):=by kernel_rfl
theorem P7 (a:List (List Int)) (hl:a.length≤1073741824):bL.r a a=(true,true):=by
 have key:bL.l0 (a,a,false,((0:Nat):Int),()) ()=(true,1,(a,a,false,(a.length:Int),()),(),(false,()),()):=by
  refine bE (g:=fun rq kn ke kr x y=>bL.g0 rq kn ke kr x y) a.length (fun j=>(a,a,false,(j:Int),())) (fun j=>()) _ ?_ ?_ _ 0 (Nat.zero_le _) (by show a.length - 0<((a.length:Int) - ((0:Nat):Int)).toNat+1; omega)
  ·intro j R hj
   have w1:IntKind.i64.wrap ((j:Int)+1)=((j+1:Nat):Int):=i64_in _ (by omega)
   simp only [bL.g0,lt,bW (show (j:Int)<(a.length:Int) by omega),dm (show (0:Int)≤(j:Int) by omega),cond_true,Bool.and_self,ai,G7,Bool.not_true,cond_false,w1]
  ·intro R
   simp only [bL.g0,lt,cB (show ¬ (a.length:Int)<(a.length:Int) by omega),cond_false]
 have k2:bL.l0 (a,a,false,0,()) ()=_:=key
 have c1:((a.length:Int) != (a.length:Int))=false:=by simp
 simp only [bL.r,bL.g,lt,c1,cond_false,k2,ai,show Nat.beq 1 0=false from rfl]
end Go.Own
set_option linter.unusedVariables false
set_option linter.unusedSimpArgs false
namespace Go.Own
open Go.IntWalk
theorem Uc {gx:Option eU} {q:Nat} [NeZero q] (h:Fld gx q) {f pts:List Nat} (hp:∀ p∈pts,1≤p∧p≤7) (hn:pts.length≤1073741824) (deg:Int):dO.l0 (gx,deg,pts.map (jm q f),(),0,(),(),(),pts.map (jm q f),(pts.length:Int),0,()) ((true,[]),(true,[]),(true,[]),())=
  (true,1,(gx,deg,pts.map (jm q f),(),0,(),(),(),pts.map (jm q f),(pts.length:Int),(pts.length:Int),()),((decide (pts.length=0),pts.map fun (p:Nat)=>(p:Int)),(decide (pts.length=0),pts.map limbs),(decide (pts.length=0),(pts.map (evN q f)).map limbs),()),(),()):=by
 have key:dO.l0 (gx,deg,pts.map (jm q f),(),0,(),(),(),pts.map (jm q f),(pts.length:Int),((0:Nat):Int),()) ((decide (0=0),(pts.take 0).map fun (p:Nat)=>(p:Int)),(decide (0=0),(pts.take 0).map limbs),(decide (0=0),(pts.take 0).map fun p=>limbs (evN q f p)),())=
  (true,1,(gx,deg,pts.map (jm q f),(),0,(),(),(),pts.map (jm q f),(pts.length:Int),(pts.length:Int),()),((decide (pts.length=0),(pts.take pts.length).map fun (p:Nat)=>(p:Int)),(decide (pts.length=0),(pts.take pts.length).map limbs),(decide (pts.length=0),(pts.take pts.length).map fun p=>limbs (evN q f p)),()),(),()):=by
  refine bE (g:=fun rq kn ke kr x y=>dO.g0 rq kn ke kr x y) pts.length (fun j=>(gx,deg,pts.map (jm q f),(),0,(),(),(),pts.map (jm q f),(pts.length:Int),(j:Int),())) (fun j=>((decide (j=0),(pts.take j).map fun (p:Nat)=>(p:Int)),(decide (j=0),(pts.take j).map limbs),(decide (j=0),(pts.take j).map fun p=>limbs (evN q f p)),())) _ ?_ ?_ _ 0 (Nat.zero_le _) (by show pts.length - 0<((pts.length:Int) - ((0:Nat):Int)).toNat+1; omega)
  ·intro j R hj
   have g1:(pts.map (jm q f)).getD j (0,([0,0,0,0],()))=jm q f (pts.getD j 0):=getD_map hj
   have g2:(jm q f (pts.getD j 0)).1=((pts.getD j 0:Nat):Int):=rfl
   have g3:(jm q f (pts.getD j 0)).2.1=limbs (evN q f (pts.getD j 0)):=rfl
   have hb:=hp _ (fK hj)
   have n1:dY.r ((pts.getD j 0:Nat):Int)=(true,limbs (pts.getD j 0)):=by rw [sW _ (by omega)]; rfl
   have c1:nle ((2*((pts.take j).length+1)+512)*8) 70368744177664=true:=oN (by rw [List.length_take]; omega)
   have c2:nle ((2*((pts.take j).length+1)+512)*32) 70368744177664=true:=oN (by rw [List.length_take]; omega)
   have s1:((pts.take j).map fun (p:Nat)=>(p:Int))++ [((pts.getD j 0:Nat):Int)]=(pts.take (j+1)).map fun (p:Nat)=>(p:Int):=mH (f:=fun (p:Nat)=>(p:Int)) hj rfl
   have s2:((pts.take j).map limbs)++ [limbs (pts.getD j 0)]=(pts.take (j+1)).map limbs:=mH (f:=limbs) hj rfl
   have s3:((pts.take j).map fun p=>limbs (evN q f p))++ [limbs (evN q f (pts.getD j 0))]=(pts.take (j+1)).map fun p=>limbs (evN q f p):=mH (f:=fun p=>limbs (evN q f p)) hj rfl
   have d1:decide (j+1=0)=false:=decide_eq_false (by omega)
   have w1:IntKind.i64.wrap ((j:Int)+1)=((j+1:Nat):Int):=i64_in _ (by omega)
   simp only [dO.g0,Go.Own.lt,bW (show (j:Int)<(pts.length:Int) by omega),dm (show (0:Int)≤(j:Int) by omega),cond_true,Bool.and_self,Int.toNat_natCast,List.length_map,ai,g1,g2,g3,Bool.and_false,s1,c1,n1,s2,c2,s3,w1,d1]
  ·intro R
   simp only [dO.g0,Go.Own.lt,cB (show ¬ (pts.length:Int)<(pts.length:Int) by omega),cond_false]
 have e:(pts.map (evN q f)).map limbs=pts.map fun p=>limbs (evN q f p):=by rw [List.map_map]; rfl
 rw [List.take_length] at key
 rw [e]
 exact key
theorem DF {gx:Option eU} {q:Nat} [NeZero q] (h:Fld gx q) (hs:Small q) {f pts:List Nat} (hfW:∀ a∈f,a<ak) (hp:∀ p∈pts,1≤p∧p≤7) (ha:pts.Pairwise (· < ·)) (hn:pts.length≤7) {d:Nat} (hd:d<7) (hf:d<pts.length) (hff:f.length≤pts.length):
  ∃ (L:List Nat) (n:Nat) (fl:Bool),(∀ a∈L,a<q)∧n≤L.length∧n≤f.length∧Pol.PE (toF q f) (toF q (L.take n))∧
   dO.r gx (d:Int) (pts.map (jm q f))=if d+1<n then (true,0,4,(0,0,0,(true,[]))) else (true,1,0,(0,n,0,(fl,L.map limbs))):=by
 obtain ⟨rq,inv,hR,hF⟩:=h.field
 obtain ⟨L,n,fl,e,h1,h2,h3,h4⟩:=DC h hfW (xs:=pts) (fun a hm=>by have:=hp a hm; unfold ak; omega) hff (by omega) (M5 h.gt h.lt hs hp ha)
 refine ⟨L,n,fl,h1,h2,h3,h4,?_⟩
 have w1:IntKind.i64.wrap ((d:Int)+1)=((d+1:Nat):Int):=i64_in _ (by omega)
 have e0:((0:Int) != 0)=false:=rfl
 simp only [dO.r,dO.g,Go.Own.lt,List.length_map,Uc h hp (show pts.length≤1073741824 by omega),ai,hF,hR.wQ,cond_false,cB (show ¬ (d:Int)<0 by omega),qH (show ¬ (7:Int)≤(d:Int) by omega),Na hp (show pts.length≤1073741824 by omega),RQ ha (show pts.length≤1073741824 by omega),qH (show ¬ (pts.length:Int)≤(d:Int) by omega),e,show Nat.beq 1 0=false from rfl,e0,w1]
 by_cases hc:d+1<n
 ·rw [if_pos hc]
  simp only [bW (show ((d+1:Nat):Int)<(n:Int) by omega),cond_true]
 ·rw [if_neg hc]
  simp only [cB (show ¬ ((d+1:Nat):Int)<(n:Int) by omega),cond_false]
end Go.Own
set_option linter.unusedVariables false
set_option linter.unusedSimpArgs false
namespace Go.Own
open Go.IntWalk
theorem Kt (which:Int):∃ q gx,(q=mM∨q=mK)∧Fld gx q∧dK.r which=(true,gx,(q:Int),true):=by
 obtain ⟨g1,h1,e1⟩:=JB
 obtain ⟨g2,h2,e2⟩:=JA
 have l1:=Ls mM (by decide)
 have l2:=Ls mK (by decide)
 rw [if_pos (by decide)] at l1 l2
 have z:((0:Int)== 0)=true:=rfl
 obtain ⟨b,hb⟩:∃ b,b=(fw .i64 (· &&& ·) which (1:Int)== 1):=⟨_,rfl⟩
 cases b with
 |true=>
  refine ⟨mK,some g2,.inr rfl,h2.fld,?_⟩
  simp only [dK.r,dK.g,gG.r,gG.g,lt,← hb,cond_true,iZ.gI,Sc,ai,e2,show Nat.beq 1 0=false from rfl,cond_false,Qd,l2,z]
 |false=>
  refine ⟨mM,some g1,.inl rfl,h1.fld,?_⟩
  simp only [dK.r,dK.g,gG.r,gG.g,lt,← hb,cond_false,ja.gI,Sj,ai,e1,show Nat.beq 1 0=false from rfl,Qe,l1,z]
theorem Ov (n:Nat) (h:n<9223372036854775808):aW.r (n:Int)=(true,limbs n):=by
 have:=Qp (n:Int) (by omega)
 simp only [aW.r,aW.g,lt,this,ai,Int.toNat_natCast]
theorem P6 (a:List uJ) (hl:a.length≤1073741824):cK.r a a=(true,true):=by
 have key:cK.l0 (a,a,false,((0:Nat):Int),()) ()=(true,1,(a,a,false,(a.length:Int),()),(),(false,()),()):=by
  refine bE (g:=fun rq kn ke kr x y=>cK.g0 rq kn ke kr x y) a.length (fun j=>(a,a,false,(j:Int),())) (fun j=>()) _ ?_ ?_ _ 0 (Nat.zero_le _) (by show a.length - 0<((a.length:Int) - ((0:Nat):Int)).toNat+1; omega)
  ·intro j R hj
   have w1:IntKind.i64.wrap ((j:Int)+1)=((j+1:Nat):Int):=i64_in _ (by omega)
   simp only [cK.g0,lt,bW (show (j:Int)<(a.length:Int) by omega),dm (show (0:Int)≤(j:Int) by omega),cond_true,Bool.and_self,ai,G7,Bool.not_true,cond_false,w1]
  ·intro R
   simp only [cK.g0,lt,cB (show ¬ (a.length:Int)<(a.length:Int) by omega),cond_false]
 have k2:cK.l0 (a,a,false,0,()) ()=_:=key
 have c1:((a.length:Int) != (a.length:Int))=false:=by simp
 simp only [cK.r,cK.g,lt,c1,cond_false,k2,ai,show Nat.beq 1 0=false from rfl]
theorem Sy {q:Nat} [NeZero q] (hq:5<q) {L:List Nat} {n:Nat} (h1:∀ a∈L,a<q) (h2:n≤L.length) (h3:n≤2) (h4:Pol.PE (toF q [5,2]) (toF q (L.take n))):n=2∧L.take n= [5,2]:=by
 have e0:=Bj ((gF [5,2] 0).symm.trans ((h4 0).trans (gF (L.take n) 0)))
 have e1:=Bj ((gF [5,2] 1).symm.trans ((h4 1).trans (gF (L.take n) 1)))
 have hq':∀ k,(L.take n).getD k 0<q:=by
  intro k
  rcases Nat.lt_or_ge k (L.take n).length with h|h
  ·exact h1 _ (List.mem_of_mem_take (fK h))
  ·rw [fQ h]; omega
 rw [Nat.mod_eq_of_lt (hq' 0),Nat.mod_eq_of_lt (show ([5,2]:List Nat).getD 0 0<q by show 5<q; exact hq)] at e0
 rw [Nat.mod_eq_of_lt (hq' 1),Nat.mod_eq_of_lt (show ([5,2]:List Nat).getD 1 0<q by show 2<q; omega)] at e1
 have hlen:(L.take n).length=n:=by rw [List.length_take]; omega
 have hn:n=2:=by
  rcases Nat.lt_or_ge 1 n with h|h
  ·omega
  ·rw [fQ (l:=L.take n) (n:=1) (by omega)] at e1; exact absurd e1 (by decide)
 refine ⟨hn,?_⟩
 obtain ⟨l,hl⟩:∃ l,l=L.take n:=⟨_,rfl⟩
 rw [← hl] at e0 e1 hlen ⊢
 rw [hn] at hlen
 match l,hlen with
 | [a,b],_=>
  have e0':5=a:=e0
  have e1':2=b:=e1
  rw [← e0',← e1']
theorem EM:dL.r=(true,true):=by
 obtain ⟨q,gx,hq,hF,hs⟩:=Kt 0
 have hsm:Small q:=by rcases hq with rfl|rfl; exact DZ; exact DY
 have hd:lI q [5,2] 3= [(1,(limbs 7,())),(2,(limbs 9,())),(3,(limbs 11,()))]:=by rcases hq with rfl|rfl<;>kernel_rfl
 have hq5:11<q:=by rcases hq with rfl|rfl<;>decide
 haveI:NeZero q:=⟨by omega⟩
 have of5:=Ov 5 (by decide)
 have of2:=Ov 2 (by decide)
 have of7:=Ov 7 (by decide)
 have of9:=Ov 9 (by decide)
 have of11:=Ov 11 (by decide)
 have h52:∀ a∈ [5,2],a<ak:=by intro a ha; rcases List.mem_cons.1 ha with rfl|ha; decide; rcases List.mem_cons.1 ha with rfl|ha; decide; cases ha
 have D3:=Qu hF (f:= [5,2]) h52 (by decide) (n:=3) (by decide) (by decide)
 rw [hd] at D3
 have p2:([2,3]:List Nat).map (jm q [5,2])= [(2,(limbs 9,())),(3,(limbs 11,()))]:=by rcases hq with rfl|rfl<;>kernel_rfl
 have p3:([1,2,3]:List Nat).map (jm q [5,2])= [(1,(limbs 7,())),(2,(limbs 9,())),(3,(limbs 11,()))]:=by rcases hq with rfl|rfl<;>kernel_rfl
 obtain ⟨L,n,fl,a1,a2,a3,a4,a5⟩:=DF hF hsm (f:= [5,2]) (pts:= [2,3]) h52 (by decide) (by decide) (by decide) (d:=1) (by decide) (by decide) (by decide)
 obtain ⟨L2,n2,fl2,b1,b2,b3,b4,b5⟩:=DF hF hsm (f:= [5,2]) (pts:= [1,2,3]) h52 (by decide) (by decide) (by decide) (d:=0) (by decide) (by decide) (by decide)
 obtain ⟨hn,hL⟩:=Sy (by omega) a1 a2 a3 a4
 obtain ⟨hn2,hL2⟩:=Sy (by omega) b1 b2 b3 b4
 rw [if_neg (by omega),p2] at a5
 rw [if_pos (by omega),p3] at b5
 have S1:=P6 [(1,(limbs 7,())),(2,(limbs 9,())),(3,(limbs 11,()))] (by decide)
 have S2:=P7 [limbs 5,limbs 2] (by decide)
 have e1:((L.map limbs).drop 0).take n= [limbs 5,limbs 2]:=by rw [List.drop_zero,← List.map_take,hL]; rfl
 have c1:(ile (1:Int) (([(1,(limbs 7,())),(2,(limbs 9,())),(3,(limbs 11,()))]:List uJ).length:Int)&&ile (([(1,(limbs 7,())),(2,(limbs 9,())),(3,(limbs 11,()))]:List uJ).length:Int) (([(1,(limbs 7,())),(2,(limbs 9,())),(3,(limbs 11,()))]:List uJ).length:Int))=true:=rfl
 have t1:(([(1,(limbs 7,())),(2,(limbs 9,())),(3,(limbs 11,()))]:List uJ).drop 1).take ((([(1,(limbs 7,())),(2,(limbs 9,())),(3,(limbs 11,()))]:List uJ).length:Int).toNat - 1)= [(2,(limbs 9,())),(3,(limbs 11,()))]:=rfl
 have z0:((0:Int) != 0)=false:=rfl
 have z1:((0:Int)== 0)=true:=rfl
 have z4:((4:Int)== 4)=true:=rfl
 have m52:([5,2]:List Nat).map limbs= [limbs 5,limbs 2]:=rfl
 rw [m52] at D3
 have D3':gq.r gx [limbs 5,limbs 2] 3=_:=D3
 have a5':dO.r gx 1 [(2,(limbs 9,())),(3,(limbs 11,()))]=_:=a5
 have b5':dO.r gx 0 [(1,(limbs 7,())),(2,(limbs 9,())),(3,(limbs 11,()))]=_:=b5
 have f5:aW.r 5=(true,limbs 5):=of5
 have f2:aW.r 2=(true,limbs 2):=of2
 have f7:aW.r 7=(true,limbs 7):=of7
 have f9:aW.r 9=(true,limbs 9):=of9
 have f11:aW.r 11=(true,limbs 11):=of11
 simp only [dL.r,dL.g,lt,dK.gI,aW.gI,gq.gI,dO.gI,cK.gI,bL.gI,hs,f5,f2,f7,f9,f11,D3',ai,Bool.not_true,cond_false,z0,S1,c1,t1,a5',show Nat.beq 1 0=false from rfl,b5',show Nat.beq 0 0=true from rfl,cond_true,e1,S2,z1,z4]
end Go.Own
set_option linter.unusedVariables false
set_option linter.unusedSimpArgs false
namespace Go.Own
open Go.IntWalk
def d16 (n i:Nat):Nat:=n/2^(16*i)%65536
theorem nL (n i:Nat):d16 n i<65536:=Nat.mod_lt _ (by decide)
theorem sK (n i t:Nat):(d16 n i).testBit t=(decide (t<16)&&n.testBit (16*i+t)):=by
 unfold d16
 rw [show (65536:Nat)=2^16 by decide,Nat.testBit_mod_two_pow,Nat.testBit_div_two_pow,Nat.add_comm]
def fP (n:Nat):List Int:=(List.range 32).map fun i=>(d16 n i:Int)
theorem o9 {n i:Nat} (h:i<32):(fP n).getD i 0=(d16 n i:Int):=kL h
abbrev BH:Nat:=13407807929942597099574024998205846127479365820592393377723561443721764030073546976801874298166903427690031858186486050853753882811946569946433649006084096
theorem Tf:BH=2^512:=by
 refine Eq.trans ?_ (KA 256 512 rfl).symm
 rw [← vI]; decide
theorem Dz (x:Nat):x&&& 65535=x%65536:=by
 have:=Nat.and_two_pow_sub_one_eq_mod x 16
 exact this
theorem OE (n k:Nat):limb n (k/4)/2^(16*(k%4))%65536=d16 n k:=by
 apply Nat.eq_of_testBit_eq
 intro t
 rw [show (65536:Nat)=2^16 by decide,Nat.testBit_mod_two_pow,Nat.testBit_div_two_pow,iL,sK]
 have e:64*(k/4)+(t+16*(k%4))=16*k+t:=by omega
 rw [e]
 by_cases h:t<16
 ·have:t+16*(k%4)<64:=by omega
  simp [h,this]
 ·simp [h]
theorem Pk {lo hi k:Nat} (h:k<16):d16 (hi*ak+lo) k=d16 lo k:=by
 unfold d16
 have e:ak=2^(256 - 16*k)*2^(16*k):=by rw [vI,← Nat.pow_add,Nat.sub_add_cancel (by omega)]
 rw [e,← Nat.mul_assoc,Nat.add_comm,Nat.add_mul_div_right _ _ (Nat.two_pow_pos _)]
 have e2:2^(256 - 16*k)=2^(240 - 16*k)*65536:=by rw [show (65536:Nat)=2^16 by decide,← Nat.pow_add]; congr 1; omega
 rw [e2,← Nat.mul_assoc,Nat.add_mul_mod_self_right]
theorem Pn {lo hi k:Nat} (hl:lo<ak):d16 (hi*ak+lo) (16+k)=d16 hi k:=by
 unfold d16
 have e:2^(16*(16+k))=ak*2^(16*k):=by rw [vI,← Nat.pow_add]; congr 1; omega
 rw [e,← Nat.div_div_eq_div_mul,Nat.add_comm,Nat.add_mul_div_right _ _ (by decide),Nat.div_eq_of_lt hl,Nat.zero_add]
theorem SK (n k:Nat) (hk:k<16):fw .u64 (· &&& ·) ((limb n (k/4):Int).fdiv (2^(min (16*(k%4)) 64))) (65535:Int)=(d16 n k:Int):=by
 have h1:=aT n (k/4)
 rw [Nat.min_eq_left (by omega),tV,xq]
 have:=yo (limb n (k/4)/2^(16*(k%4))) 65535 (Nat.lt_of_le_of_lt (Nat.div_le_self _ _) h1) (by decide)
 rw [show (65535:Int)=((65535:Nat):Int) from rfl,this,Dz,OE]
def qY (n j:Nat):List Int:=(List.range 32).map fun i=>if i<j∨(16≤i∧i<16+j) then (d16 n i:Int) else 0
theorem Pg (n:Nat):qY n 0=List.replicate 32 0:=by
 unfold qY
 apply List.ext_getElem
 ·simp
 ·intro i h1 h2
  rw [List.getElem_map,List.getElem_range,List.getElem_replicate,if_neg (by omega)]
theorem MR (n:Nat):qY n 16=fP n:=by
 unfold qY fP
 apply List.ext_getElem
 ·simp
 ·intro i h1 h2
  simp at h1 ⊢
  intro h h3; omega
theorem JO (n j:Nat) (hj:j<16):((qY n j).set j (d16 n j:Int)).set (16+j) (d16 n (16+j):Int)=qY n (j+1):=by
 unfold qY
 rw [rE (g:=fun i=>if i=j∨(i<j∨(16≤i∧i<16+j)) then (d16 n i:Int) else 0) (by omega) (by rw [if_pos (.inl rfl)]) (by intro k _ hk; simp [hk])]
 apply rE (by omega)
 ·rw [if_pos (by omega)]
 ·intro k _ hk
  by_cases h:k=j∨(k<j∨(16≤k∧k<16+j))
  ·rw [if_pos h,if_pos (by omega)]
  ·rw [if_neg h,if_neg (by omega)]
theorem SX (lo hi:Nat) (hl:lo<ak):dQ.r (limbs lo) (limbs hi)=(true,fP (hi*ak+lo)):=by
 obtain ⟨n,hn⟩:∃ n,n=hi*ak+lo:=⟨_,rfl⟩
 have key:dQ.l0 ((),(),(),(),((0:Nat):Int),()) (limbs lo,limbs hi,List.replicate 32 0,qY n 0,())=(true,1,((),(),(),(),16,()),(limbs lo,limbs hi,List.replicate 32 0,qY n 16,()),(),()):=by
  refine bE (g:=fun rq kn ke kr x y=>dQ.g0 rq kn ke kr x y) 16 (fun j=>((),(),(),(),(j:Int),())) (fun j=>(limbs lo,limbs hi,List.replicate 32 0,qY n j,())) _ ?_ ?_ _ 0 (Nat.zero_le _) (by show 16 - 0<((16:Int) - ((0:Nat):Int)).toNat+1; omega)
  ·intro j R hj
   have a1:(j:Int).tdiv 4=((j/4:Nat):Int):=wB j 4
   have a2:(j:Int).tmod 4=((j%4:Nat):Int):=vg j 4
   have a3:IntKind.i64.wrap ((j/4:Nat):Int)=((j/4:Nat):Int):=oP _ (by omega)
   have a4:IntKind.i64.wrap ((16:Int)*((j%4:Nat):Int))=((16*(j%4):Nat):Int):=by rw [i64_in _ (by omega)]; omega
   have a5:IntKind.i64.wrap ((16:Int)+(j:Int))=((16+j:Nat):Int):=by rw [i64_in _ (by omega)]; omega
   have a6:IntKind.i64.wrap ((j:Int)+1)=((j+1:Nat):Int):=i64_in _ (by omega)
   have b1:IntKind.i64.wrap (d16 lo j:Int)=(d16 n j:Int):=by rw [oP _ (Nat.lt_trans (nL _ _) (by decide)),hn,Pk hj]
   have b2:IntKind.i64.wrap (d16 hi j:Int)=(d16 n (16+j):Int):=by rw [oP _ (Nat.lt_trans (nL _ _) (by decide)),hn,Pn hl]
   simp only [dQ.g0,lt,bW (show (j:Int)<16 by omega),cond_true,a1,a2,a3,dm (show (0:Int)≤((j/4:Nat):Int) by omega),bW (show ((j/4:Nat):Int)<4 by omega),Bool.and_self,ai,Int.toNat_natCast,aK lo (j/4) (by omega),aK hi (j/4) (by omega),a4,cB (show ¬ ((16*(j%4):Nat):Int)<0 by omega),Bool.not_false,SK lo j hj,SK hi j hj,b1,b2,dm (show (0:Int)≤(j:Int) by omega),bW (show (j:Int)<32 by omega),a5,dm (show (0:Int)≤((16+j:Nat):Int) by omega),bW (show ((16+j:Nat):Int)<32 by omega),JO n j hj,a6]
  ·intro R
   simp only [dQ.g0,lt,cB (show ¬ ((16:Nat):Int)<16 by decide),cond_false]
   rfl
 rw [Pg,MR] at key
 have k2:dQ.l0 ((),(),(),(),0,()) (limbs lo,limbs hi,List.replicate 32 0,List.replicate 32 0,())=_:=key
 simp only [dQ.r,dQ.g,lt,k2,ai,← hn]
theorem LG {a B one:Nat} (hB:0<B):(2*a+one)/B=2*(a/B)+(2*(a%B)+one)/B:=by
 have e:2*a+one=(2*(a%B)+one)+B*(2*(a/B)):=by
  have h:=Nat.div_add_mod a B
  have h2:B*(2*(a/B))=2*(B*(a/B)):=Nat.mul_left_comm _ _ _
  rw [h2]
  generalize B*(a/B)=p at*
  omega
 rw [e,Nat.add_mul_div_left _ _ hB,Nat.add_comm]
theorem Fy {a B one:Nat} (hB:0<B):(2*(a%(B*65536))+one)/(B*65536)=(2*(a/B%65536)+(2*(a%B)+one)/B)/65536:=by
 rw [Nat.mod_mul]
 rw [← Nat.div_div_eq_div_mul]
 congr 1
 have e:2*(a%B+B*(a/B%65536))+one=(2*(a%B)+one)+B*(2*(a/B%65536)):=by
  have h2:B*(2*(a/B%65536))=2*(B*(a/B%65536)):=Nat.mul_left_comm _ _ _
  rw [h2]
  generalize B*(a/B%65536)=p at*
  omega
 rw [e,Nat.add_mul_div_left _ _ hB,Nat.add_comm]
def kg (a one j:Nat):Nat:=(2*(a%2^(16*j))+one)/2^(16*j)
theorem vM (j:Nat):2^(16*(j+1))=2^(16*j)*65536:=by rw [show (65536:Nat)=2^16 by decide,← Nat.pow_add]; congr 1
theorem H7 (a one j:Nat):kg a one (j+1)=(2*d16 a j+kg a one j)/65536:=by
 unfold kg d16
 rw [vM,Fy (Nat.two_pow_pos _)]
theorem Po (a one j:Nat):d16 (2*a+one) j=(2*d16 a j+kg a one j)%65536:=by
 unfold kg d16
 rw [LG (Nat.two_pow_pos _)]
 generalize a/2^(16*j)=h
 generalize (2*(a%2^(16*j))+one)/2^(16*j)=c
 omega
theorem MV {a one j:Nat} (h:one≤1):kg a one j≤1:=by
 unfold kg
 have h1:=Nat.mod_lt a (Nat.two_pow_pos (16*j))
 have:=(Nat.div_lt_iff_lt_mul (Nat.two_pow_pos (16*j)) (x:=2*(a%2^(16*j))+one) (y:=2)).2 (by omega)
 omega
def nK (n j:Nat):List Int:=(List.range 32).map fun i=>if i<j then (d16 n i:Int) else 0
theorem HV (n:Nat):nK n 0=List.replicate 32 0:=by
 unfold nK
 apply List.ext_getElem
 ·simp
 ·intro i h1 h2
  rw [List.getElem_map,List.getElem_range,List.getElem_replicate,if_neg (by omega)]
theorem Dp (n:Nat):nK n 32=fP n:=by
 unfold nK fP
 apply List.ext_getElem
 ·simp
 ·intro i h1 h2
  simp at h1 ⊢
  intro h; omega
theorem wo (n j:Nat) (hj:j<32):(nK n j).set j (d16 n j:Int)=nK n (j+1):=by
 unfold nK
 apply rE hj
 ·rw [if_pos (by omega)]
 ·intro k _ hk
  by_cases h:k<j
  ·rw [if_pos h,if_pos (by omega)]
  ·rw [if_neg h,if_neg (by omega)]
theorem M8 (a one:Nat) (h1:one≤1):cZ.r (fP a) (one:Int)=(true,fP (2*a+one)):=by
 obtain ⟨n,hn⟩:∃ n,n=2*a+one:=⟨_,rfl⟩
 have key:cZ.l0 ((),(),(),(kg a one 0:Int),((0:Nat):Int),()) (fP a,List.replicate 32 0,nK n 0,())=(true,1,((),(),(),(kg a one 32:Int),32,()),(fP a,List.replicate 32 0,nK n 32,()),(),()):=by
  refine bE (g:=fun rq kn ke kr x y=>cZ.g0 rq kn ke kr x y) 32 (fun j=>((),(),(),(kg a one j:Int),(j:Int),())) (fun j=>(fP a,List.replicate 32 0,nK n j,())) _ ?_ ?_ _ 0 (Nat.zero_le _) (by show 32 - 0<((32:Int) - ((0:Nat):Int)).toNat+1; omega)
  ·intro j R hj
   have hd:=nL a j
   have hc:=MV (a:=a) (j:=j) h1
   have a1:IntKind.i64.wrap ((2:Int)*(d16 a j:Int))=((2*d16 a j:Nat):Int):=by rw [i64_in _ (by omega)]; omega
   have a2:IntKind.i64.wrap (((2*d16 a j:Nat):Int)+(kg a one j:Int))=((2*d16 a j+kg a one j:Nat):Int):=by rw [i64_in _ (by omega)]; omega
   have a3:fw .i64 (· &&& ·) ((2*d16 a j+kg a one j:Nat):Int) (65535:Int)=(d16 n j:Int):=by
    have:=Bc (2*d16 a j+kg a one j) 65535 (by omega) (by decide)
    rw [show (65535:Int)=((65535:Nat):Int) from rfl,this,Dz,hn,Po]
   have a4:((2*d16 a j+kg a one j:Nat):Int).fdiv (2^16)=(kg a one (j+1):Int):=by
    rw [tV,xq,H7]
   have a5:IntKind.i64.wrap ((j:Int)+1)=((j+1:Nat):Int):=i64_in _ (by omega)
   simp only [cZ.g0,lt,bW (show (j:Int)<32 by omega),dm (show (0:Int)≤(j:Int) by omega),cond_true,Bool.and_self,ai,Int.toNat_natCast,o9 hj,a1,a2,a3,a4,wo n j hj,a5]
  ·intro R
   simp only [cZ.g0,lt,cB (show ¬ ((32:Nat):Int)<32 by decide),cond_false]
   rfl
 have c0:kg a one 0=one:=by unfold kg; rw [Nat.mul_zero,Nat.pow_zero,Nat.mod_one,Nat.mul_zero,Nat.zero_add,Nat.div_one]
 rw [HV,Dp,c0] at key
 have k2:cZ.l0 ((),(),(),(one:Int),0,()) (fP a,List.replicate 32 0,List.replicate 32 0,())=_:=key
 simp only [cZ.r,cZ.g,lt,k2,ai,← hn]
end Go.Own
set_option linter.unusedVariables false
set_option linter.unusedSimpArgs false
namespace Go.Own
open Go.IntWalk
theorem Lg (a j:Nat):a/2^(16*j)=a/2^(16*(j+1))*65536+d16 a j:=by
 unfold d16
 rw [vM,← Nat.div_div_eq_div_mul]
 have:=Nat.div_add_mod (a/2^(16*j)) 65536
 omega
theorem RF (a b:Nat) (ha:a<BH) (hb:b<BH):dJ.r (fP a) (fP b)=(true,decide (a<b)):=by
 obtain ⟨w,hw⟩:∃ w,w=dJ.l0 ((),(),false,31,()) (fP a,fP b,()):=⟨_,rfl⟩
 have key:w.1=true∧(bif Nat.beq w.2.1 0 then (true,w.2.2.2.2.1.1) else (true,false))=(true,decide (a<b)):=by
  refine iB (g:=fun rq kn ke kr x y=>dJ.g0 rq kn ke kr x y) hw
   (fun x y=>∃ k:Nat,k≤32∧x=((),(),false,(k:Int) - 1,())∧y=(fP a,fP b,())∧a/2^(16*k)=b/2^(16*k)) (fun x y=>(x.2.2.2.1+1).toNat)
   ⟨32,by omega,rfl,rfl,by rw [Nat.div_eq_of_lt (by rw [show 16*32=512 from rfl,← Tf]; exact ha),Nat.div_eq_of_lt (by rw [show 16*32=512 from rfl,← Tf]; exact hb)]⟩ (by show ((31:Int)+1).toNat<((31:Int) - 0+1).toNat+1; omega)
   (Q:=fun w=>w.1=true∧(bif Nat.beq w.2.1 0 then (true,w.2.2.2.2.1.1) else (true,false))=(true,decide (a<b))) ?_
  rintro x y R ⟨k,hk,rfl,rfl,he⟩ hR
  cases k with
  |zero=>
   have e:a=b:=by simpa using he
   simp only [dJ.g0,lt,qH (show ¬ (0:Int)≤((0:Nat):Int) - 1 by omega),cond_false]
   refine ⟨trivial,?_⟩
   rw [decide_eq_false (by omega)]
   rfl
  |succ k=>
   have e0:((k+1:Nat):Int) - 1=(k:Int):=by omega
   have w1:IntKind.i64.wrap ((k:Int) - 1)=(k:Int) - 1:=i64_in _ (by omega)
   have da:=Lg a k
   have db:=Lg b k
   rw [he] at da
   have la:=nL a k
   have lb:=nL b k
   simp only [dJ.g0,lt,e0,dm (show (0:Int)≤(k:Int) by omega),bW (show (k:Int)<32 by omega),cond_true,Bool.and_self,ai,Int.toNat_natCast,o9 (show k<32 by omega),w1]
   by_cases h:d16 a k=d16 b k
   ·have hn:((d16 a k:Int) != (d16 b k:Int))=false:=by rw [h]; simp
    simp only [hn,cond_false]
    exact hR _ _ ⟨k,by omega,rfl,rfl,by rw [da,db,h]⟩ (by show ((k:Int) - 1+1).toNat<(((k+1:Nat):Int) - 1+1).toNat; omega)
   ·have hn:((d16 a k:Int) != (d16 b k:Int))=true:=by simp; omega
    simp only [hn,cond_true]
    refine ⟨trivial,?_⟩
    show (true,ilt (d16 a k:Int) (d16 b k:Int))=_
    congr 1
    rw [Bool.eq_iff_iff,KW,decide_eq_true_iff]
    constructor
    ·intro h1
     have h2:a/2^(16*k)<b/2^(16*k):=by rw [da,db]; omega
     exact Nat.lt_of_div_lt_div h2
    ·intro h1
     have h2:a/2^(16*k)≤b/2^(16*k):=Nat.div_le_div_right (Nat.le_of_lt h1)
     rw [da,db] at h2
     omega
 simp only [dJ.r,dJ.g,lt,← hw,key.1,ai]
 exact key.2
theorem lex {B x y u v:Nat} (hx:x<B) (hy:y<B):x+B*u<y+B*v↔u<v∨(u=v∧x<y):=by
 rcases Nat.lt_trichotomy u v with h|h|h
 ·have:=Nat.mul_le_mul_left B (show u+1≤v from h)
  rw [Nat.mul_add] at this
  constructor
  ·intro _; exact .inl h
  ·intro _; omega
 ·subst h
  constructor
  ·intro h; exact .inr ⟨rfl,by omega⟩
  ·rintro (h|⟨_,h⟩)<;>omega
 ·have:=Nat.mul_le_mul_left B (show v+1≤u from h)
  rw [Nat.mul_add] at this
  constructor
  ·intro _; omega
  ·rintro (h2|⟨h2,_⟩)<;>omega
def bor (a b j:Nat):Nat:=if a%2^(16*j)<b%2^(16*j) then 1 else 0
theorem Pv (a b j:Nat):bor a b (j+1)=if d16 a j<d16 b j+bor a b j then 1 else 0:=by
 have hB:=Nat.two_pow_pos (16*j)
 unfold bor d16
 rw [vM,Nat.mod_mul,Nat.mod_mul]
 have l:=lex (u:=a/2^(16*j)%65536) (v:=b/2^(16*j)%65536) (Nat.mod_lt a hB) (Nat.mod_lt b hB)
 by_cases h:a%2^(16*j)<b%2^(16*j)
 ·rw [if_pos h]
  by_cases h2:a/2^(16*j)%65536<b/2^(16*j)%65536+1
  ·rw [if_pos h2,if_pos (l.2 (by omega))]
  ·rw [if_neg h2,if_neg (fun h3=>by have:=l.1 h3; omega)]
 ·rw [if_neg h]
  by_cases h2:a/2^(16*j)%65536<b/2^(16*j)%65536+0
  ·rw [if_pos h2,if_pos (l.2 (by omega))]
  ·rw [if_neg h2,if_neg (fun h3=>by have:=l.1 h3; omega)]
theorem QJ {a b:Nat} (h:b≤a) (j:Nat):d16 (a - b) j=if d16 a j<d16 b j+bor a b j then d16 a j+65536 - d16 b j - bor a b j else d16 a j - d16 b j - bor a b j:=by
 have hB:=Nat.two_pow_pos (16*j)
 have e:(a - b)/2^(16*j)=a/2^(16*j) - b/2^(16*j) - bor a b j∧b/2^(16*j)+bor a b j≤a/2^(16*j):=by
  unfold bor
  have h1:=Nat.div_add_mod a (2^(16*j))
  have h2:=Nat.div_add_mod b (2^(16*j))
  have h3:=Nat.mod_lt a hB
  have h4:=Nat.mod_lt b hB
  have h5:=Nat.div_le_div_right (c:=2^(16*j)) h
  generalize a/2^(16*j)=ha at*
  generalize b/2^(16*j)=hb at*
  generalize a%2^(16*j)=la at*
  generalize b%2^(16*j)=lb at*
  generalize 2^(16*j)=B at*
  obtain ⟨c,rfl⟩:∃ c,ha=hb+c:=⟨ha - hb,by omega⟩
  rw [Nat.mul_add] at h1
  by_cases h6:la<lb
  ·rw [if_pos h6]
   cases c with
   |zero=>omega
   |succ c=>
    rw [Nat.mul_succ] at h1
    have:a - b=(B+la - lb)+B*c:=by omega
    rw [this,Nat.add_mul_div_left _ _ hB,Nat.div_eq_of_lt (by omega)]
    omega
  ·rw [if_neg h6]
   have:a - b=(la - lb)+B*c:=by omega
   rw [this,Nat.add_mul_div_left _ _ hB,Nat.div_eq_of_lt (by omega)]
   omega
 have hw:bor a b j=0∨bor a b j=1:=by unfold bor; split<;>omega
 unfold d16
 rw [e.1]
 have e2:=e.2
 generalize bor a b j=w at*
 generalize a/2^(16*j)=ha at*
 generalize b/2^(16*j)=hb at*
 split<;>omega
theorem TI (a b:Nat) (h:b≤a):dF.r (fP a) (fP b)=(true,fP (a - b)):=by
 obtain ⟨n,hn⟩:∃ n,n=a - b:=⟨_,rfl⟩
 have key:dF.l0 ((),(),(),(bor a b 0:Int),(),((0:Nat):Int),()) (fP a,fP b,List.replicate 32 0,nK n 0,())=(true,1,((),(),(),(bor a b 32:Int),(),32,()),(fP a,fP b,List.replicate 32 0,nK n 32,()),(),()):=by
  refine bE (g:=fun rq kn ke kr x y=>dF.g0 rq kn ke kr x y) 32 (fun j=>((),(),(),(bor a b j:Int),(),(j:Int),())) (fun j=>(fP a,fP b,List.replicate 32 0,nK n j,())) _ ?_ ?_ _ 0 (Nat.zero_le _) (by show 32 - 0<((32:Int) - ((0:Nat):Int)).toNat+1; omega)
  ·intro j R hj
   have la:=nL a j
   have lb:=nL b j
   have hw:bor a b j≤1:=by unfold bor; split<;>omega
   have sd:=QJ h j
   have bs:=Pv a b j
   rw [← hn] at sd
   have a1:IntKind.i64.wrap ((d16 a j:Int) - (d16 b j:Int))=(d16 a j:Int) - (d16 b j:Int):=i64_in _ (by omega)
   have a2:IntKind.i64.wrap ((d16 a j:Int) - (d16 b j:Int) - (bor a b j:Int))=(d16 a j:Int) - (d16 b j:Int) - (bor a b j:Int):=i64_in _ (by omega)
   have a5:IntKind.i64.wrap ((j:Int)+1)=((j+1:Nat):Int):=i64_in _ (by omega)
   simp only [dF.g0,lt,bW (show (j:Int)<32 by omega),dm (show (0:Int)≤(j:Int) by omega),cond_true,Bool.and_self,ai,Int.toNat_natCast,o9 hj,a1,a2,a5]
   by_cases hc:d16 a j<d16 b j+bor a b j
   ·rw [if_pos hc] at sd bs
    have a3:IntKind.i64.wrap ((d16 a j:Int) - (d16 b j:Int) - (bor a b j:Int)+65536)=(d16 n j:Int):=by rw [i64_in _ (by omega),sd]; omega
    have hb1:(1:Int)=(bor a b (j+1):Int):=by rw [bs]; rfl
    simp only [bW (show (d16 a j:Int) - (d16 b j:Int) - (bor a b j:Int)<0 by omega),cond_true,a3,wo n j hj]
    rw [← hb1]
   ·rw [if_neg hc] at sd bs
    have a3:(d16 a j:Int) - (d16 b j:Int) - (bor a b j:Int)=(d16 n j:Int):=by rw [sd]; omega
    have hb1:(0:Int)=(bor a b (j+1):Int):=by rw [bs]; rfl
    simp only [a3,cB (show ¬ (d16 n j:Int)<0 by omega),cond_false,wo n j hj]
    rw [← hb1]
  ·intro R
   simp only [dF.g0,lt,cB (show ¬ ((32:Nat):Int)<32 by decide),cond_false]
   rfl
 have c0:bor a b 0=0:=by unfold bor; rw [Nat.mul_zero,Nat.pow_zero,Nat.mod_one,Nat.mod_one]; rfl
 rw [HV,Dp,c0] at key
 have k2:dF.l0 ((),(),(),0,(),0,()) (fP a,fP b,List.replicate 32 0,List.replicate 32 0,())=_:=key
 simp only [dF.r,dF.g,lt,k2,ai,← hn]
end Go.Own
set_option linter.unusedVariables false
set_option linter.unusedSimpArgs false
namespace Go.Own
open Go.IntWalk
theorem Pj (n m i:Nat):d16 (n||| m) i=d16 n i||| d16 m i:=by
 apply Nat.eq_of_testBit_eq
 intro t
 simp only [sK,Nat.testBit_or,Bool.and_or_distrib_left]
theorem Lh (k j:Nat):d16 (2^k) j=if k/16=j then 2^(k%16) else 0:=by
 apply Nat.eq_of_testBit_eq
 intro t
 rw [sK,Nat.testBit_two_pow]
 split
 ·rw [Nat.testBit_two_pow,Bool.eq_iff_iff]
  simp only [Bool.and_eq_true,decide_eq_true_eq]
  omega
 ·rw [Nat.zero_testBit,Bool.eq_false_iff]
  simp only [ne_eq,Bool.and_eq_true,decide_eq_true_eq]
  omega
theorem Rx {Q k:Nat} (hk:k<512):(fP Q).set (k/16) ((d16 Q (k/16)||| 2^(k%16):Nat):Int)=fP (Q||| 2^k):=by
 unfold fP
 apply rE (by omega)
 ·rw [Pj,Lh,if_pos rfl]
 ·intro i _ hi
  rw [Pj,Lh,if_neg (fun h=>hi h.symm),Nat.or_zero]
theorem Pf {Q q k:Nat} (hQ:Q=q*2^(k+1)) (hk:k<512):(fP Q).set (k/16) ((d16 Q (k/16)||| 2^(k%16):Nat):Int)=fP ((2*q+1)*2^k):=by
 rw [Rx hk,Jd (by rw [hQ]; exact Nat.mul_mod_left _ _),hQ,Nat.pow_succ]
 congr 1
 generalize 2^k=p
 grind
def kY (N a i:Nat):Nat:=a/2^(N - i)
theorem L9 {N a i:Nat} (h:i<N):kY N a (i+1)=2*kY N a i+(a.testBit (N - 1 - i)).toNat:=by
 unfold kY
 have e:a/2^(N - i)=a/2^(N - (i+1))/2:=by
  rw [show N - i=N - (i+1)+1 by omega,Nat.pow_succ,Nat.div_div_eq_div_mul]
 have e2:(a.testBit (N - 1 - i)).toNat=a/2^(N - (i+1))%2:=by
  rw [show N - (i+1)=N - 1 - i by omega,Nat.testBit_eq_decide_div_mod_eq]
  have:a/2^(N - 1 - i)%2=0∨a/2^(N - 1 - i)%2=1:=by omega
  rcases this with h|h<;>rw [h]<;>rfl
 rw [e2,e]
 omega
theorem Ij {a K:Nat}:d16 a (K/16)/2^(K%16)&&& 1=(a.testBit K).toNat:=by
 rw [and_one,Nat.testBit_div_two_pow,sK]
 have:decide (0+K%16<16)=true:=by simp; omega
 rw [this,Bool.true_and,show 16*(K/16)+(0+K%16)=K by omega]
theorem FW {N a m:Nat} (hN:N=512) (hm0:0<m) (hm:m<ak) (j:Nat) (hj:j<N) (z:List Int) {Z:Type} (kn:aR.X0→aR.Y0→Bool×Z) (ke:Nat→aR.X0→aR.Y0→Bool×Z) (kr:aR.U0→aR.V0→Bool×Z):
  aR.g0 chk kn ke kr ((),(),(),(),(),(),(511:Int) - (j:Int),()) (fP a,fP m,z,z,fP (kY N a j/m*2^(N - j)),fP (kY N a j%m),())=
   kn ((),(),(),(),(),(),(511:Int) - ((j+1:Nat):Int),()) (fP a,fP m,z,z,fP (kY N a (j+1)/m*2^(N - (j+1))),fP (kY N a (j+1)%m),()):=by
 obtain ⟨K,hK⟩:∃ K,K=N - 1 - j:=⟨_,rfl⟩
 have hKl:K<512:=by omega
 have k1:(511:Int) - (j:Int)=(K:Int):=by omega
 have k2:(511:Int) - ((j+1:Nat):Int)=(K:Int) - 1:=by omega
 have hL:=Nat.mod_lt (kY N a j) hm0
 have hS:=CJ (N:=kY N a j) (b:=(a.testBit K).toNat) hm0 (by cases a.testBit K<;>decide)
 rw [hK,← L9 hj,← hK] at hS
 have hb1:(a.testBit K).toNat≤1:=by cases a.testBit K<;>decide
 obtain ⟨b,hb⟩:∃ b,b=(a.testBit K).toNat:=⟨_,rfl⟩
 rw [← hb] at hS hb1
 have hQ:=Pf (Q:=kY N a j/m*2^(N - j)) (q:=kY N a j/m) (k:=K) (by rw [show K+1=N - j by omega]) hKl
 have d1:=nL a (K/16)
 have d2:=nL (kY N a j/m*2^(N - j)) (K/16)
 have p2:2^(K%16)<65536:=Nat.lt_of_lt_of_le (Nat.pow_lt_pow_right (by decide) (show K%16<16 by omega)) (by decide)
 have a1:(K:Int).tdiv 16=((K/16:Nat):Int):=wB K 16
 have a2:(K:Int).tmod 16=((K%16:Nat):Int):=vg K 16
 have a3:IntKind.i64.wrap ((K/16:Nat):Int)=((K/16:Nat):Int):=oP _ (by omega)
 have a4:fw .i64 (· &&& ·) ((d16 a (K/16):Int).fdiv (2^(min (K%16) 64))) (1:Int)=(b:Int):=by
  rw [Nat.min_eq_left (by omega),tV,xq,y7 _ (Nat.lt_of_le_of_lt (Nat.div_le_self _ _) (by omega)),Ij,hb]
 have a5:IntKind.i64.wrap ((1:Int)*2^(min (K%16) 64))=((2^(K%16):Nat):Int):=by
  rw [Nat.min_eq_left (by omega),Int.one_mul,tV]; exact oP _ (by omega)
 have a6:=Dg (d16 (kY N a j/m*2^(N - j)) (K/16)) (2^(K%16)) (by omega) (by omega)
 have a7:IntKind.i64.wrap ((K:Int) - 1)=(K:Int) - 1:=i64_in _ (by omega)
 have tw:=M8 (kY N a j%m) b hb1
 have hV:2*(kY N a j%m)+b<BH:=by unfold BH; unfold ak at hm; omega
 have bl:=RF (2*(kY N a j%m)+b) m hV (by unfold BH; unfold ak at hm; omega)
 have ek:N - (j+1)=K:=by omega
 have i1:(ile 0 ((K/16:Nat):Int)&&ilt ((K/16:Nat):Int) 32)=true:=by rw [dm (by omega),bW (by omega)]; rfl
 rw [k1,k2]
 simp only [aR.g0,lt,dm (show (0:Int)≤(K:Int) by omega),cond_true,a1,a2,a3,i1,ai,Int.toNat_natCast,o9 (show K/16<32 by omega),a4,cB (show ¬ ((K%16:Nat):Int)<0 by omega),Bool.not_false,tw,bl]
 by_cases hc:2*(kY N a j%m)+b<m
 ·rw [if_pos hc,if_pos hc] at hS
  have e1:kY N a j/m*2^(N - j)=kY N a (j+1)/m*2^(N - (j+1)):=by
   rw [hS.1,show N - j=N - (j+1)+1 by omega,Nat.pow_succ,Nat.add_zero]
   generalize 2^(N - (j+1))=p
   generalize kY N a j/m=q
   grind
  simp only [hc,decide_true,Bool.not_true,cond_false,hS.2,e1,a7]
 ·rw [if_neg hc,if_neg hc] at hS
  have ls:=TI (2*(kY N a j%m)+b) m (by omega)
  simp only [hc,decide_false,Bool.not_false,cond_true,ls,ai,a5,a6,hQ,hS.1,hS.2,ek,a7]
theorem QS (N a m n:Nat) (hN:N=512) (hm0:0<m) (hm:m<ak) (hn:n=N) (z:List Int):
  aR.l0 ((),(),(),(),(),(),(511:Int) - ((0:Nat):Int),()) (fP a,fP m,z,z,fP (kY N a 0/m*2^(N - 0)),fP (kY N a 0%m),())=
   (true,1,((),(),(),(),(),(),(511:Int) - (n:Int),()),(fP a,fP m,z,z,fP (kY N a n/m*2^(N - n)),fP (kY N a n%m),()),(),()):=by
 have hf:n - 0<aR.fu0 ((),(),(),(),(),(),(511:Int) - ((0:Nat):Int),()) (fP a,fP m,z,z,fP (kY N a 0/m*2^(N - 0)),fP (kY N a 0%m),()):=by
  show n - 0<((511:Int) - ((0:Nat):Int) - 0+1).toNat+1
  omega
 refine bE (g:=fun rq kn ke kr x y=>aR.g0 rq kn ke kr x y) n (fun j=>((),(),(),(),(),(),(511:Int) - (j:Int),())) (fun j=>(fP a,fP m,z,z,fP (kY N a j/m*2^(N - j)),fP (kY N a j%m),())) _ ?_ ?_ _ 0 (Nat.zero_le _) hf
 ·intro j R hj
  exact FW hN hm0 hm j (by omega) z _ _ _
 ·intro R
  simp only [aR.g0,lt,qH (show ¬ (0:Int)≤(511:Int) - (n:Int) by omega),cond_false]
theorem MQ:fP 0=List.replicate 32 0:=by kernel_rfl
theorem LX (a m:Nat) (ha:a<BH) (hm0:0<m) (hm:m<ak):aR.r (fP a) (fP m)=(true,fP (a/m),fP (a%m)):=by
 obtain ⟨N,hN⟩:∃ N,N=512:=⟨_,rfl⟩
 have key:=QS N a m N hN hm0 hm rfl (List.replicate 32 0)
 have e0:kY N a 0=0:=by
  unfold kY
  rw [Nat.sub_zero,hN,← Tf]
  exact Nat.div_eq_of_lt ha
 have e1:kY N a N=a:=by
  unfold kY
  rw [Nat.sub_self,Nat.pow_zero,Nat.div_one]
 rw [e0,e1,Nat.zero_div,Nat.zero_mul,Nat.zero_mod,MQ,Nat.sub_self,Nat.pow_zero,Nat.mul_one] at key
 have k2:aR.l0 ((),(),(),(),(),(),511,()) (fP a,fP m,List.replicate 32 0,List.replicate 32 0,List.replicate 32 0,List.replicate 32 0,())=_:=key
 simp only [aR.r,aR.g,lt,k2,ai]
theorem TH (x j i:Nat):limb (d16 x j*2^(16*j)) i=if j/4=i then d16 x j*2^(16*(j%4)) else 0:=by
 apply Nat.eq_of_testBit_eq
 intro t
 rw [iL,Nat.testBit_mul_two_pow]
 split
 ·rename_i h
  rw [Nat.testBit_mul_two_pow]
  rw [show 64*i+t - 16*j=t - 16*(j%4) by omega]
  by_cases h2:16*(j%4)≤t
  ·have h3:16*j≤64*i+t:=by omega
   rw [decide_eq_true h2,decide_eq_true h3]
   by_cases h4:t<64
   ·rw [decide_eq_true h4]; rfl
   ·rw [sK,decide_eq_false h4,decide_eq_false (show ¬ t - 16*(j%4)<16 by omega)]; rfl
  ·have h3:¬ 16*j≤64*i+t:=by omega
   rw [decide_eq_false h2,decide_eq_false h3]; simp
 ·rename_i h
  rw [Nat.zero_testBit]
  by_cases h3:16*j≤64*i+t
  ·by_cases h4:t<64
   ·rw [sK,decide_eq_false (show ¬ 64*i+t - 16*j<16 by omega)]; simp
   ·rw [decide_eq_false h4]; rfl
  ·rw [decide_eq_false h3]; simp
theorem TF (x j:Nat):x%2^(16*j)||| d16 x j*2^(16*j)=x%2^(16*(j+1)):=by
 apply Nat.eq_of_testBit_eq
 intro t
 rw [Nat.testBit_or,Nat.testBit_mod_two_pow,Nat.testBit_mul_two_pow,Nat.testBit_mod_two_pow,sK]
 by_cases h:t<16*j
 ·rw [decide_eq_true h,decide_eq_false (show ¬ 16*j≤t by omega),decide_eq_true (show t<16*(j+1) by omega)]; simp
 ·rw [decide_eq_false h,decide_eq_true (show 16*j≤t by omega),show 16*j+(t - 16*j)=t by omega]
  by_cases h2:t<16*(j+1)
  ·rw [decide_eq_true h2,decide_eq_true (show t - 16*j<16 by omega)]; simp
  ·rw [decide_eq_false h2,decide_eq_false (show ¬ t - 16*j<16 by omega)]; simp
theorem Ep {n m v k:Nat} (hk:k<4) (hm:∀ i,limb m i=if k=i then v else 0):(limbs n).set k ((limb n k||| v:Nat):Int)=limbs (n||| m):=by
 unfold limbs
 simp only [KR,hm]
 have h:k=0∨k=1∨k=2∨k=3:=by omega
 rcases h with rfl|rfl|rfl|rfl<;>simp
theorem CB (x j:Nat) (hj:j<16):(limbs (x%2^(16*j))).set (j/4) ((limb (x%2^(16*j)) (j/4)||| d16 x j*2^(16*(j%4)):Nat):Int)=limbs (x%2^(16*(j+1))):=by
 rw [Ep (by omega) (m:=d16 x j*2^(16*j)) (fun i=>TH x j i),TF]
theorem Un (n:Nat) (hn:n<BH):dG.r (fP n)=(true,limbs (n%ak),limbs (n/ak)):=by
 obtain ⟨lo,hlo⟩:∃ lo,lo=n%ak:=⟨_,rfl⟩
 obtain ⟨hi,hhi⟩:∃ hi,hi=n/ak:=⟨_,rfl⟩
 have hn2:n=hi*ak+lo:=by rw [hlo,hhi,Nat.mul_comm]; exact (Nat.div_add_mod n ak).symm
 have hl:lo<ak:=by rw [hlo]; exact Nat.mod_lt _ (by decide)
 have hh:hi<ak:=by
  rw [hhi,Nat.div_lt_iff_lt_mul (by decide)]
  exact Nat.lt_of_lt_of_le hn (by decide)
 obtain ⟨N,hN⟩:∃ N,N=16:=⟨_,rfl⟩
 have key:dG.l0 ((),(),(),(),(),((0:Nat):Int),()) (fP n,[0,0,0,0],[0,0,0,0],limbs (lo%2^(16*0)),limbs (hi%2^(16*0)),())=(true,1,((),(),(),(),(),(N:Int),()),(fP n,[0,0,0,0],[0,0,0,0],limbs (lo%2^(16*N)),limbs (hi%2^(16*N)),()),(),()):=by
  refine bE (g:=fun rq kn ke kr x y=>dG.g0 rq kn ke kr x y) N (fun j=>((),(),(),(),(),(j:Int),())) (fun j=>(fP n,[0,0,0,0],[0,0,0,0],limbs (lo%2^(16*j)),limbs (hi%2^(16*j)),())) _ ?_ ?_ _ 0 (Nat.zero_le _) (by show N - 0<TP (((16:Int) - ((0:Nat):Int)).toNat+1); rw [Rl]; omega)
  ·intro j R hj
   have a1:(j:Int).tdiv 4=((j/4:Nat):Int):=wB j 4
   have a2:(j:Int).tmod 4=((j%4:Nat):Int):=vg j 4
   have a3:IntKind.i64.wrap ((j/4:Nat):Int)=((j/4:Nat):Int):=oP _ (by omega)
   have a4:IntKind.i64.wrap ((16:Int)*((j%4:Nat):Int))=((16*(j%4):Nat):Int):=by rw [i64_in _ (by omega)]; omega
   have a5:IntKind.i64.wrap ((16:Int)+(j:Int))=((16+j:Nat):Int):=by rw [i64_in _ (by omega)]; omega
   have a6:IntKind.i64.wrap ((j:Int)+1)=((j+1:Nat):Int):=i64_in _ (by omega)
   have pw:∀ x:Nat,x<65536→x*2^(16*(j%4))<18446744073709551616:=by
    intro x hx
    have h1:2^(16*(j%4))≤281474976710656:=Nat.le_trans (Nat.pow_le_pow_right (by decide) (show 16*(j%4)≤48 by omega)) (by decide)
    have h2:=Nat.mul_le_mul (show x≤65535 by omega) h1
    omega
   have sh:∀ x:Nat,x<65536→IntKind.u64.wrap (IntKind.u64.wrap (x:Int)*2^(min (16*(j%4)) 64))=((x*2^(16*(j%4)):Nat):Int):=by
    intro x hx
    rw [rW x (by omega),Nat.min_eq_left (by omega),tV,← Int.natCast_mul]
    exact rW _ (pw x hx)
   have b1:d16 n j=d16 lo j:=by rw [hn2,Pk (by omega)]
   have b2:d16 n (16+j)=d16 hi j:=by rw [hn2,Pn hl]
   have i1:(ile 0 ((j/4:Nat):Int)&&ilt ((j/4:Nat):Int) 4)=true:=by rw [dm (by omega),bW (by omega)]; rfl
   have i2:(ile 0 (j:Int)&&ilt (j:Int) 32)=true:=by rw [dm (by omega),bW (by omega)]; rfl
   have i3:(ile 0 ((16+j:Nat):Int)&&ilt ((16+j:Nat):Int) 32)=true:=by rw [dm (by omega),bW (by omega)]; rfl
   simp only [dG.g0,lt,bW (show (j:Int)<16 by omega),cond_true,a1,a2,a3,i1,i2,i3,a5,ai,Int.toNat_natCast,aK _ (j/4) (show j/4<4 by omega),o9 (show j<32 by omega),o9 (show 16+j<32 by omega),a4,b1,b2,sh _ (nL lo j),sh _ (nL hi j),cB (show ¬ ((16*(j%4):Nat):Int)<0 by omega),Bool.not_false,oh _ _ (aT _ _) (pw _ (nL lo j)),oh _ _ (aT _ _) (pw _ (nL hi j)),CB lo j (by omega),CB hi j (by omega),a6]
  ·intro R
   simp only [dG.g0,lt,cB (show ¬ (N:Int)<16 by omega),cond_false]
 have e0:∀ x:Nat,x%2^(16*0)=0:=fun x=>by rw [Nat.mul_zero,Nat.pow_zero,Nat.mod_one]
 have e1:∀ x:Nat,x<ak→x%2^(16*N)=x:=fun x hx=>by rw [hN]; exact Nat.mod_eq_of_lt (by rw [show 16*16=256 from rfl,← vI]; exact hx)
 rw [e0,e0,e1 lo hl,e1 hi hh,fC] at key
 have k2:dG.l0 ((),(),(),(),(),0,()) (fP n,[0,0,0,0],[0,0,0,0],[0,0,0,0],[0,0,0,0],())=_:=key
 simp only [dG.r,dG.g,lt,k2,ai,← hlo,← hhi]
theorem Ud (lo hi m:Nat) (hlo:lo<ak) (hhi:hi<ak) (hm:m<ak) (h0:0<m):iT.r (limbs lo) (limbs hi) (limbs m)=(true,limbs ((hi*ak+lo)%m),0):=by
 have e1:=SX lo hi hlo
 have e2:=SX m 0 hm
 rw [fC,Nat.zero_mul,Nat.zero_add] at e2
 have hN:hi*ak+lo<BH:=by
  have:=Nat.mul_le_mul_right ak (show hi+1≤ak from hhi)
  rw [Nat.add_mul,Nat.one_mul] at this
  have w:ak*ak=BH:=by decide
  rw [w] at this
  exact Nat.lt_of_lt_of_le (Nat.add_lt_add_left hlo _) this
 have hR:=Nat.mod_lt (hi*ak+lo) h0
 have e4:=Un ((hi*ak+lo)%m) (by unfold BH; unfold ak at hm; omega)
 rw [Nat.mod_eq_of_lt (show (hi*ak+lo)%m<ak from Nat.lt_trans hR hm)] at e4
 simp only [iT.r,iT.g,lt,eqZ hm,decide_eq_false (show ¬ m=0 by omega),cond_false,e1,e2,ai,LX _ m hN h0 hm,e4]
end Go.Own
set_option linter.unusedVariables false
set_option linter.unusedSimpArgs false
namespace Go.Own
open Go.IntWalk
theorem U8 (a q:Nat) (ha:a<ak) (hq:0<q) (hq2:q<9223372036854775808):iG.r (limbs a) (q:Int)=(true,((a%q:Nat):Int)):=by
 have hqW:q<ak:=Nat.lt_trans hq2 (by decide)
 have e1:=Qp (q:Int) (by omega)
 rw [Int.toNat_natCast] at e1
 have e2:=Ud a 0 q ha (by decide) hqW hq
 rw [fC,Nat.zero_mul,Nat.zero_add] at e2
 have hm:=Nat.mod_lt a hq
 have e3:=Ls (a%q) (Nat.lt_trans hm hqW)
 rw [if_pos (by omega)] at e3
 simp only [iG.r,iG.g,lt,e1,e2,e3,ai]
theorem EU (a b m:Nat) (h0:0<m) (hm:m<9223372036854775808):d9.r (a:Int) (b:Int) (m:Int)=(true,((a*b%m:Nat):Int)):=by
 have ha:=Nat.mod_lt a h0
 have hb:=Nat.mod_lt b h0
 have hp:a%m*(b%m)<m*18446744073709551616:=Nat.lt_of_lt_of_le (Nat.mul_lt_mul_of_lt_of_lt ha hb) (Nat.mul_le_mul_left m (by omega))
 have hh:a%m*(b%m)/18446744073709551616<m:=by rw [Nat.div_lt_iff_lt_mul (by decide)]; exact hp
 have e:a%m*(b%m)/18446744073709551616*18446744073709551616+a%m*(b%m)%18446744073709551616=a%m*(b%m):=by rw [Nat.mul_comm]; exact Nat.div_add_mod _ _
 have d:=Lx (a%m*(b%m)/18446744073709551616) (a%m*(b%m)%18446744073709551616) m hh (Nat.mod_lt _ (by decide)) (by omega)
 rw [e,← Nat.mul_mod] at d
 have hr:=Nat.mod_lt (a*b) h0
 have z:ieq (m:Int) 0=false:=A9 (by omega)
 simp only [d9.r,d9.g,lt,vg,z,Bool.not_false,ai,rW (a%m) (by omega),rW (b%m) (by omega),u7 (a%m) (b%m) (by omega) (by omega),rW m (by omega),d,oP (a*b%m) (by omega)]
theorem yJ (a b q:Nat) (h0:0<q) (hq:q<9223372036854775808):bG.r (a:Int) (b:Int) (q:Int)=(true,((a*b%q:Nat):Int)):=by
 simp only [bG.r,bG.g,lt,EU a b q h0 hq,ai]
theorem BJ (a b q:Nat) (h0:0<q) (ha:a<4611686018427387904) (hb:b<4611686018427387904):dU.r (a:Int) (b:Int) (q:Int)=(true,(((a+b)%q:Nat):Int)):=by
 have w:IntKind.i64.wrap ((a:Int)+(b:Int))=((a+b:Nat):Int):=i64_in _ (by omega)
 have z:ieq (q:Int) 0=false:=A9 (by omega)
 simp only [dU.r,dU.g,lt,w,vg,z,Bool.not_false,ai]
theorem AB:∀ (f:List (List Int)),(∀ a∈f,Ty.ok (.arr 4 (.int .u64)) a)→∃ l:List Nat,f=l.map limbs∧∀ a∈l,a<ak
 | [],_=>⟨[],rfl,by simp⟩
 |a::f,h=>by
  obtain ⟨l,rfl,hl⟩:=AB f fun b hb=>h b (by simp [hb])
  obtain ⟨n,hn,rfl⟩:=Gm (h a (by simp))
  refine ⟨n::l,rfl,?_⟩
  intro b hb
  rcases List.mem_cons.1 hb with rfl|hb
  ·exact hn
  ·exact hl b hb
end Go.Own
set_option linter.unusedVariables false
set_option linter.unusedSimpArgs false
namespace Go.Own
open Go.IntWalk
def vN (q x:Nat):Nat→Nat
 |0=>1
 |i+1=>vN q x i*x%q
def zR (q x:Nat) (f:List Nat):Nat→Nat
 |0=>0
 |i+1=>(zR q x f i+f.getD i 0*vN q x i%q)%q
theorem Kq {q x:Nat} (hq:1<q) (f:List Nat):∀ i,zR q x f i<q
 |0=>by show 0<q; omega
 |i+1=>Nat.mod_lt _ (by omega)
def O0 {F:Type} [Lean.Grind.CommRing F] (x:F):Nat→F
 |0=>1
 |n+1=>O0 x n*x
theorem Lc {F:Type} [Lean.Grind.CommRing F] (x a:F):∀ l:List F,Pol.ev (l++ [a]) x=Pol.ev l x+a*O0 x l.length
 | []=>by show (0:F)*x+a=0+a*1; grind
 |b::l=>by
  have:=Lc x a l
  show Pol.ev (l++ [a]) x*x+b=(Pol.ev l x*x+b)+a*(O0 x l.length*x)
  rw [this]; grind
theorem K7 {q:Nat} [NeZero q] (x:Nat):∀ i,fz q (vN q x i)=O0 (fz q x) i
 |0=>Bh
 |i+1=>by show fz q (vN q x i*x%q)=O0 (fz q x) i*fz q x; rw [iC,nI,K7 x i]
theorem K5 {q:Nat} [NeZero q] (x:Nat) (f:List Nat):∀ i,i≤f.length→fz q (zR q x f i)=Pol.ev (toF q (f.take i)) (fz q x)
 |0,_=>kE
 |i+1,h=>by
  have e:toF q (f.take (i+1))=toF q (f.take i)++ [fz q (f.getD i 0)]:=(jZ (f:=fz q) h).symm
  have hl:(toF q (f.take i)).length=i:=by unfold toF; rw [List.length_map,List.length_take]; omega
  show fz q ((zR q x f i+f.getD i 0*vN q x i%q)%q)=_
  rw [iC,mQ,iC,nI,K7,K5 x f i (by omega),e,Lc,hl]
theorem QH {q:Nat} (hq:1<q) (x:Nat) (f:List Nat):zR q x f f.length=evN q f x:=by
 haveI:NeZero q:=⟨by omega⟩
 have e:=K5 (q:=q) x f f.length (Nat.le_refl _)
 rw [List.take_length,← vZ] at e
 have:=Bj e
 rwa [Nat.mod_eq_of_lt (Kq hq f _),Nat.mod_eq_of_lt (uq (by omega) f x)] at this
theorem RZ (f:List Nat) (x q:Nat) (hn:f.length≤1073741824) (h1:1<q) (hq:q<4611686018427387904):dD.r (f.map fun (a:Nat)=>(a:Int)) (x:Int) (q:Int)=(true,(evN q f x:Int)):=by
 have h0:0<q:=by omega
 have key:dD.l0 (f.map (fun (a:Nat)=>(a:Int)),(x:Int),(q:Int),0,(zR q x f 0:Int),(vN q x 0:Int),((0:Nat):Int),()) ()=(true,1,(f.map (fun (a:Nat)=>(a:Int)),(x:Int),(q:Int),0,(zR q x f f.length:Int),(vN q x f.length:Int),(f.length:Int),()),(),(),()):=by
  refine bE (g:=fun rq kn ke kr x y=>dD.g0 rq kn ke kr x y) f.length (fun j=>(f.map (fun (a:Nat)=>(a:Int)),(x:Int),(q:Int),0,(zR q x f j:Int),(vN q x j:Int),(j:Int),())) (fun j=>()) _ ?_ ?_ _ 0 (Nat.zero_le _) (by show f.length - 0<(((f.map fun (a:Nat)=>(a:Int)).length:Int) - ((0:Nat):Int)).toNat+1; rw [List.length_map]; omega)
  ·intro j R hj
   have g1:(f.map fun (a:Nat)=>(a:Int)).getD j 0=((f.getD j 0:Nat):Int):=getD_map hj
   have m1:=yJ (f.getD j 0) (vN q x j) q h0 (by omega)
   have hm:=Nat.mod_lt (f.getD j 0*vN q x j) h0
   have hs:=Kq (x:=x) h1 f j
   have a1:=BJ (zR q x f j) (f.getD j 0*vN q x j%q) q h0 (by omega) (by omega)
   have m2:=yJ (vN q x j) x q h0 (by omega)
   have e1:(zR q x f j+f.getD j 0*vN q x j%q)%q=zR q x f (j+1):=rfl
   have e2:vN q x j*x%q=vN q x (j+1):=rfl
   have w1:IntKind.i64.wrap ((j:Int)+1)=((j+1:Nat):Int):=i64_in _ (by omega)
   simp only [dD.g0,lt,List.length_map,bW (show (j:Int)<(f.length:Int) by omega),dm (show (0:Int)≤(j:Int) by omega),cond_true,Bool.and_self,Int.toNat_natCast,ai,g1,bG.gI,m1,a1,m2,e1,e2,w1]
  ·intro R
   simp only [dD.g0,lt,List.length_map,cB (show ¬ (f.length:Int)<(f.length:Int) by omega),cond_false]
 have k2:dD.l0 (f.map (fun (a:Nat)=>(a:Int)),(x:Int),(q:Int),0,0,1,0,()) ()=_:=key
 simp only [dD.r,dD.g,lt,k2,ai,QH h1]
end Go.Own
set_option linter.unusedVariables false
set_option linter.unusedSimpArgs false
namespace Go.Own
open Go.IntWalk
theorem Iu (xs:List Int) (least:Int) (hl:xs.length≤1073741824):gB.r xs least=(true,xs.any fun x=>decide (x<least)||decide (7<x)):=by
 have o1:∀ x:Int,fG.r x least=(true,(decide (x<least)||decide (7<x)),least):=by
  intro x
  by_cases h:x<least
  ·simp only [fG.r,fG.g,lt,bW h,cond_true,decide_eq_true h,Bool.true_or]
  ·simp only [fG.r,fG.g,lt,cB h,cond_false,decide_eq_false h,Bool.false_or]; rfl
 obtain ⟨w,hw⟩:∃ w,w=aM.l0 (xs,(),0,(xs.length:Int),0,()) (least,()):=⟨_,rfl⟩
 have key:w.1=true∧((w.2.1=0∧0≤w.2.2.2.2.1.1∧(xs.any fun x=>decide (x<least)||decide (7<x))=true)∨(w.2.1=1∧(xs.any fun x=>decide (x<least)||decide (7<x))=false)):=by
  refine iB (g:=fun rq kn ke kr x y=>aM.g0 rq kn ke kr x y) hw
   (fun x y=>∃ j:Nat,j≤xs.length∧x=(xs,(),0,(xs.length:Int),(j:Int),())∧y=(least,())∧∀ i,i<j→(decide (xs.getD i 0<least)||decide (7<xs.getD i 0))=false)
   (fun x y=>xs.length - x.2.2.2.2.1.toNat)
   ⟨0,Nat.zero_le _,rfl,rfl,fun i h=>absurd h (Nat.not_lt_zero _)⟩ (by show xs.length - ((0:Int)).toNat<((xs.length:Int) - (0:Int)).toNat+1; omega)
   (Q:=fun w=>w.1=true∧((w.2.1=0∧0≤w.2.2.2.2.1.1∧(xs.any fun x=>decide (x<least)||decide (7<x))=true)∨(w.2.1=1∧(xs.any fun x=>decide (x<least)||decide (7<x))=false))) ?_
  rintro x y R ⟨j,hj,rfl,rfl,ha⟩ hR
  by_cases hlt:j<xs.length
  ·have w1:IntKind.i64.wrap ((j:Int)+1)=((j+1:Nat):Int):=i64_in _ (by omega)
   simp only [aM.g0,lt,bW (show (j:Int)<(xs.length:Int) by omega),cond_true,dm (show (0:Int)≤(j:Int) by omega),Bool.and_self,ai,Int.toNat_natCast,o1,w1]
   cases hc:(decide (xs.getD j 0<least)||decide (7<xs.getD j 0)) with
   |true=>
    simp only [cond_true]
    refine ⟨trivial,.inl ⟨trivial,Int.natCast_nonneg j,?_⟩⟩
    rw [List.any_eq_true]
    exact ⟨_,by rw [getD_lt hlt]; exact List.getElem_mem _,hc⟩
   |false=>
    simp only [cond_false]
    refine hR _ _ ⟨j+1,hlt,rfl,rfl,fun i hi=> ?_⟩ ?_
    ·rcases Nat.lt_or_ge i j with h|h
     ·exact ha i h
     ·rw [show i=j by omega]; exact hc
    ·show xs.length - (((j+1:Nat):Int)).toNat<xs.length - ((j:Int)).toNat
     omega
  ·simp only [aM.g0,lt,cB (show ¬ (j:Int)<(xs.length:Int) by omega),cond_false]
   refine ⟨trivial,.inr ⟨trivial,?_⟩⟩
   rw [List.any_eq_false]
   intro x hx
   obtain ⟨i,hi,rfl⟩:=List.getElem_of_mem hx
   have:=ha i (by omega)
   rw [getD_lt hi] at this
   rw [this]; decide
 obtain ⟨k1,k2⟩:=key
 simp only [gB.r,gB.g,dN.r,dN.g,aM.r,aM.g,lt,← hw,k1,ai]
 rcases k2 with ⟨k2,k3,k4⟩|⟨k2,k4⟩
 ·simp only [k2,k4,show Nat.beq 0 0=true from rfl,cond_true,dm k3,ai]
 ·simp only [k2,k4,show Nat.beq 1 0=false from rfl,cond_false,qH (show ¬ (0:Int)≤ -1 by decide),ai]
theorem Kg {n k:Nat} (hkn:k<n) (hn:n≤1073741824) {L:List Int} (hL:L.length=n) (fl:Bool) {w:_} (hw:w=aB.l1 ((),(),(k:Int),(k,n - k),1,()) ((fl,L),())):
  w.1=true∧∃ (k':Nat),w.2.2.1.2.2.1=(k':Int)∧k'<n∧w.2.2.2.1.1.2.length=n:=by
 refine iB (g:=fun rq kn ke kr x y=>aB.g1 rq kn ke kr x y) hw
  (fun x y=>∃ (k' i:Nat) (M:List Int),x=((),(),(k':Int),(k,n - k),(i:Int),())∧y=((fl,M),())∧M.length=n∧k'<k+i∧1≤i∧i≤n - k)
  (fun x y=>n - k - x.2.2.2.2.1.toNat)
  ⟨k,1,L,rfl,rfl,hL,by omega,Nat.le_refl _,by omega⟩ (by show n - k - ((1:Int)).toNat<(((n - k:Nat):Int) - 1).toNat+1; omega)
  (Q:=fun w=>w.1=true∧∃ (k':Nat),w.2.2.1.2.2.1=(k':Int)∧k'<n∧w.2.2.2.1.1.2.length=n) ?_
 rintro x y R ⟨k',i,M,rfl,rfl,hM,hk',hi1,hi⟩ hR
 by_cases hlt:i<n - k
 ·have w1:IntKind.i64.wrap ((i:Int)+1)=((i+1:Nat):Int):=i64_in _ (by omega)
  have w2:IntKind.i64.wrap ((i:Int) - 1)=((i - 1:Nat):Int):=by rw [i64_in _ (by omega)]; omega
  have w3:IntKind.i64.wrap ((k':Int)+1)=((k'+1:Nat):Int):=i64_in _ (by omega)
  have r1:(ile 0 (k':Int)&&ilt (k':Int) (M.length:Int))=true:=I8 (by omega)
  simp only [aB.g1,lt,bW (show (i:Int)<((n - k:Nat):Int) by omega),cond_true,rng hlt,ai,Int.toNat_natCast,w2,rng (show i - 1<n - k by omega),r1,w1,w3]
  generalize (M.getD (k+i) 0 != M.getD (k+(i - 1)) 0)=c
  cases c with
  |true=>
   simp only [cond_true]
   refine hR _ _ ⟨k'+1,i+1,M.set k' (M.getD (k+i) 0),rfl,rfl,by rw [List.length_set]; exact hM,by omega,by omega,hlt⟩ ?_
   show n - k - (((i+1:Nat):Int)).toNat<n - k - ((i:Int)).toNat
   omega
  |false=>
   simp only [cond_false]
   refine hR _ _ ⟨k',i+1,M,rfl,rfl,hM,by omega,by omega,hlt⟩ ?_
   show n - k - (((i+1:Nat):Int)).toNat<n - k - ((i:Int)).toNat
   omega
 ·simp only [aB.g1,lt,cB (show ¬ (i:Int)<((n - k:Nat):Int) by omega),cond_false]
  exact ⟨trivial,k',rfl,by omega,hM⟩
def BL (L:List Int):Prop:=∀ i,i+1<L.length→L.getD (i+1) 0≠L.getD i 0
theorem IB {L:List Int} (hn:L.length≤1073741824) (fl:Bool):
  ∃ M,aB.r (fl,L)=(true,M)∧(BL L→M.length=L.length)∧(¬ BL L→M.length<L.length):=by
 by_cases h2:(L.length:Int)<2
 ·refine ⟨L,?_,fun _=>rfl,fun h=>absurd (fun i hi=>absurd hi (by omega)) h⟩
  simp only [aB.r,aB.g,lt,bW h2,cond_true]
 ·obtain ⟨w,hw⟩:∃ w,w=aB.l0 ((),(),1,()) ((fl,L),()):=⟨_,rfl⟩
  have key:w.1=true∧((w.2.1=0∧¬ BL L∧((w.2.2.2.2.2.1.2.drop w.2.2.2.2.1.1.1).take w.2.2.2.2.1.1.2).length<L.length)∨(w.2.1=1∧BL L∧w.2.2.2.1.1.2=L)):=by
   refine iB (g:=fun rq kn ke kr x y=>aB.g0 rq kn ke kr x y) hw
    (fun x y=>∃ j:Nat,j+1≤L.length∧x=((),(),((j+1:Nat):Int),())∧y=((fl,L),())∧∀ i,i<j→L.getD (i+1) 0≠L.getD i 0)
    (fun x y=>L.length - x.2.2.1.toNat)
    ⟨0,by omega,rfl,rfl,fun i h=>absurd h (Nat.not_lt_zero _)⟩ (by show L.length - ((1:Int)).toNat<((L.length:Int) - (1:Int)).toNat+1; omega)
    (Q:=fun w=>w.1=true∧((w.2.1=0∧¬ BL L∧((w.2.2.2.2.2.1.2.drop w.2.2.2.2.1.1.1).take w.2.2.2.2.1.1.2).length<L.length)∨(w.2.1=1∧BL L∧w.2.2.2.1.1.2=L))) ?_
   rintro x y R ⟨j,hj,rfl,rfl,ha⟩ hR
   by_cases hlt:j+1<L.length
   ·have w0:IntKind.i64.wrap (((j+1:Nat):Int) - 1)=(j:Int):=by rw [i64_in _ (by omega)]; omega
    have w1:IntKind.i64.wrap (((j+1:Nat):Int)+1)=((j+1+1:Nat):Int):=i64_in _ (by omega)
    by_cases he:L.getD (j+1) 0=L.getD j 0
    ·have hb:(L.getD (j+1) 0== L.getD j 0)=true:=beq_iff_eq.2 he
     obtain ⟨v,hv⟩:∃ v,v=aB.l1 ((),(),((j+1:Nat):Int),(j+1,L.length - (j+1)),1,()) ((fl,L),()):=⟨_,rfl⟩
     obtain ⟨v1,k',v2,v3,v4⟩:=Kg hlt hn rfl fl hv
     obtain ⟨a,b,c,d,e⟩:=v
     obtain ⟨a1,a2,a3,a4,a5,a6⟩:=c
     obtain ⟨⟨b1,M⟩,b2⟩:=d
     simp only at v1 v2 v4
     subst v1; subst v2
     have hol:(over M k' (List.replicate (L.length - k') 0)).length=L.length:=by
      unfold over
      simp only [List.length_append,List.length_take,List.length_replicate,List.length_drop,v4]; omega
     simp only [aB.g0,lt,bW (show ((j+1:Nat):Int)<(L.length:Int) by omega),cond_true,I8 hlt,I8 (show j<L.length by omega),ai,Int.toNat_natCast,w0,hb,dm (show (0:Int)≤((j+1:Nat):Int) by omega),dm (show ((j+1:Nat):Int)≤(L.length:Int) by omega),dm (Int.le_refl (L.length:Int)),Bool.and_self,← hv,v4,dm (show (0:Int)≤(k':Int) by omega),dm (show (k':Int)≤(L.length:Int) by omega),hol]
     refine ⟨trivial,.inl ⟨trivial,fun h=>h j hlt he,?_⟩⟩
     simp only [List.drop_zero,List.length_take,hol]
     omega
    ·have hb:(L.getD (j+1) 0== L.getD j 0)=false:=beq_eq_false_iff_ne.2 he
     simp only [aB.g0,lt,bW (show ((j+1:Nat):Int)<(L.length:Int) by omega),cond_true,I8 hlt,I8 (show j<L.length by omega),ai,Int.toNat_natCast,w0,hb,cond_false,w1]
     refine hR _ _ ⟨j+1,hlt,rfl,rfl,fun i hi=> ?_⟩ ?_
     ·rcases Nat.lt_or_ge i j with h|h
      ·exact ha i h
      ·rw [show i=j by omega]; exact he
     ·show L.length - (((j+1+1:Nat):Int)).toNat<L.length - (((j+1:Nat):Int)).toNat
      omega
   ·simp only [aB.g0,lt,cB (show ¬ ((j+1:Nat):Int)<(L.length:Int) by omega),cond_false]
    exact ⟨trivial,.inr ⟨trivial,fun i hi=>ha i (by omega),trivial⟩⟩
  obtain ⟨k1,k2⟩:=key
  rcases k2 with ⟨k2,k3,k4⟩|⟨k2,k3,k4⟩
  ·refine ⟨_,?_,fun h=>absurd h k3,fun _=>k4⟩
   simp only [aB.r,aB.g,lt,cB h2,cond_false,← hw,k1,ai,k2,show Nat.beq 0 0=true from rfl,cond_true]
  ·refine ⟨L,?_,fun _=>rfl,fun h=>absurd k3 h⟩
   simp only [aB.r,aB.g,lt,cB h2,cond_false,← hw,k1,ai,k2,show Nat.beq 1 0=false from rfl,k4]
theorem Mg {L:List Int} (hs:L.Pairwise (· ≤ ·)):BL L↔L.Nodup:=by
 constructor
 ·intro h
  have hlt:L.Pairwise (· < ·):=by
   rw [List.pairwise_iff_getElem]
   have step:∀ d i (hi:i+1+d<L.length),L[i]<L[i+1+d]:=by
    intro d
    induction d with
    |zero=>
     intro i hi
     have h1:=h i hi
     have h2:=List.pairwise_iff_getElem.1 hs i (i+1) (by omega) hi (by omega)
     rw [getD_lt hi,getD_lt (show i<L.length by omega)] at h1
     have:L[i+1]≠L[i]:=h1
     show L[i]<L[i+1]
     omega
    |succ d ih=>
     intro i hi
     have h1:=ih i (by omega)
     have h2:=List.pairwise_iff_getElem.1 hs (i+1+d) (i+1+(d+1)) (by omega) hi (by omega)
     omega
   intro i j hi hj hij
   have:=step (j - i - 1) i (by omega)
   have e:i+1+(j - i - 1)=j:=by omega
   simp only [e] at this
   exact this
  exact hlt.imp fun h e=>by omega
 ·intro h i hi he
  rw [getD_lt hi,getD_lt (show i<L.length by omega)] at he
  have:=List.pairwise_iff_getElem.1 h i (i+1) (by omega) hi (by omega)
  exact this he.symm
theorem M7 (xs:List Int) (hl:xs.length≤1073741824):∃ b,iO.r xs=(true,b)∧(b=true↔¬ xs.Nodup):=by
 cases xs with
 |nil=>exact ⟨false,by decide,by simp⟩
 |cons p pts=>
  have c1:nle ((2*(0+(p::pts).length)+512)*8) 70368744177664=true:=oN (by omega)
  have c2:nlt (p::pts).length 4611686018427387904=true:=SA (by omega)
  have e1:(p::pts).isEmpty=false:=rfl
  have hp:(yP (p::pts)).Perm (p::pts):=List.mergeSort_perm _ _
  have hlen:(yP (p::pts)).length=(p::pts).length:=hp.length_eq
  have hs:(yP (p::pts)).Pairwise (· ≤ ·):=by
   have:=List.pairwise_mergeSort (le:=fun (a b:Int)=>decide (a≤b)) (by intro a b c; simp; omega) (by intro a b; simp; omega) (p::pts)
   exact this.imp fun h=>by simpa using h
  obtain ⟨M,h1,h2,h3⟩:=IB (L:=yP (p::pts)) (by omega) false
  refine ⟨ilt (M.length:Int) ((p::pts).length:Int),?_,?_⟩
  ·simp only [iO.r,iO.g,fM.r,fM.g,lt,e1,Bool.not_false,cond_false,c1,c2,ai,h1]
  ·rw [KW,← hp.nodup_iff,← Mg hs]
   constructor
   ·intro h h4; have:=h2 h4; omega
   ·intro h; have:=h3 h; omega
end Go.Own
set_option linter.unusedVariables false
set_option linter.unusedSimpArgs false
namespace Go.Own
open Go.IntWalk
theorem I7 {X Y U V:Type} {g:(Bool→Bool×Nat×X×Y×U×V→Bool×Nat×X×Y×U×V)→(X→Y→Bool×Nat×X×Y×U×V)→(Nat→X→Y→Bool×Nat×X×Y×U×V)→(U→V→Bool×Nat×X×Y×U×V)→X→Y→Bool×Nat×X×Y×U×V} {u0:U} {v0:V} {x0 x1 x2:X} {y0 y1 y2:Y} {w:Bool×Nat×X×Y×U×V}
  (h0:∀ (R:X→Y→Bool×Nat×X×Y×U×V),g chk R (fun e x y=>(true,e+1,x,y,u0,v0)) (fun u v=>(true,0,x0,y0,u,v)) x0 y0=R x1 y1)
  (h1:∀ (R:X→Y→Bool×Nat×X×Y×U×V),g chk R (fun e x y=>(true,e+1,x,y,u0,v0)) (fun u v=>(true,0,x1,y1,u,v)) x1 y1=R x2 y2)
  (h2:∀ (R:X→Y→Bool×Nat×X×Y×U×V),g chk R (fun e x y=>(true,e+1,x,y,u0,v0)) (fun u v=>(true,0,x2,y2,u,v)) x2 y2=w) (q:Nat) (hq:3≤q):rounds g u0 v0 q x0 y0=w:=by
 obtain ⟨n,rfl⟩:∃ n,q=n+1+1+1:=⟨q - 3,by omega⟩
 simp only [rounds]
 rw [h0,h1,h2]
section
variable {F:Type} [Lean.Grind.CommRing F]
theorem uI:∀ (a b:List F),(Pol.lm a b).length=max a.length b.length
 | [],b=>by simp [Pol.lm]
 |a::l,[]=>by simp [Pol.lm]
 |a::l,b::m=>by simp only [Pol.lm,List.length_cons,uI l m]; omega
theorem Uo (a:F) (l:List F):(Pol.Ml a l).length=l.length+1:=by
 unfold Pol.Ml
 rw [uI]
 unfold Pol.qQ
 simp only [List.length_cons,List.length_map]; omega
theorem PZ:∀ (xs:List F) (h:List F),(Pol.TL xs h).length=h.length+xs.length
 | [],h=>rfl
 |a::xs,h=>by
  show (Pol.Ml a (Pol.TL xs h)).length=_
  rw [Uo,PZ xs h]; simp only [List.length_cons]; omega
theorem Ad:∀ (xs:List F) {a:F},a∈xs→Pol.tT xs a=0
 | [],a,h=>by cases h
 |b::xs,a,h=>by
  show (a - b)*Pol.tT xs a=0
  rcases List.mem_cons.1 h with rfl|h
  ·grind
  ·rw [Ad xs h]; grind
end
theorem TR {q:Nat} [NeZero q] (a:Fin q):fz q a.val=a:=by unfold fz; simp [Fin.ext_iff,Nat.mod_eq_of_lt a.isLt]
theorem TM {q:Nat} [NeZero q] {xs:List Nat} (ha:uK q xs) (ys:Nat→Fin q):∃ f:List Nat,f.length≤xs.length∧(∀ a∈f,a<q)∧∀ k,k<xs.length→fz q (evN q f (xs.getD k 0))=ys k:=by
 have key:∀ m,m≤xs.length→∃ g:List (Fin q),g.length≤m∧∀ k,k<m→Pol.ev g (fz q (xs.getD k 0))=ys k:=by
  intro m
  induction m with
  |zero=>intro _; exact ⟨[],Nat.le_refl _,fun k h=>absurd h (Nat.not_lt_zero _)⟩
  |succ m ih=>
   intro hm
   obtain ⟨g,hg,hk⟩:=ih (by omega)
   obtain ⟨s,hs⟩:=ha m hm
   obtain ⟨c,hc⟩:∃ c,c=(ys m - Pol.ev g (fz q (xs.getD m 0)))*s:=⟨_,rfl⟩
   have e1:∀ x:Fin q,Pol.ev [c] x=c:=fun x=>by show 0*x+c=c; grind
   refine ⟨Pol.lm g (Pol.TL (toF q (xs.take m)) [c]),?_,fun k hkm=> ?_⟩
   ·rw [uI,PZ]
    unfold toF
    simp only [List.length_cons,List.length_nil,List.length_map,List.length_take]; omega
   ·rw [Pol.uo,Pol.MN,e1]
    rcases Nat.lt_or_ge k m with h|h
    ·rw [hk k h,Ad]
     ·grind
     ·unfold toF
      refine List.mem_map.2 ⟨xs.getD k 0,?_,rfl⟩
      rw [getD_lt (show k<xs.length by omega)]
      exact List.mem_take_iff_getElem.2 ⟨k,by omega,rfl⟩
    ·have:k=m:=by omega
     subst this
     rw [hc]; grind
 obtain ⟨g,hg,hk⟩:=key xs.length (Nat.le_refl _)
 have eg:toF q (g.map Fin.val)=g:=by
  unfold toF
  rw [List.map_map]
  exact (List.map_congr_left fun a _=>TR a).trans (List.map_id g)
 refine ⟨g.map Fin.val,by rw [List.length_map]; exact hg,fun a h=> ?_,fun k h=> ?_⟩
 ·obtain ⟨b,_,rfl⟩:=List.mem_map.1 h; exact b.isLt
 ·rw [vZ,eg]; exact hk k h
def yI (q:Nat):Prop:=∀ d,1≤d→d≤7→Nat.gcd d q=1
theorem Ct {q:Nat} (h:(List.range 7).all (fun d=>Nat.beq (Nat.gcd (d+1) q) 1)=true):yI q:=by
 intro d h1 h2
 have:=List.all_eq_true.1 h (d - 1) (List.mem_range.2 (by omega))
 rw [Nat.sub_add_cancel h1] at this
 exact Nat.eq_of_beq_eq_true this
theorem BU:yI mM:=Ct (by kernel_rfl)
theorem BS:yI mK:=Ct (by kernel_rfl)
theorem Dy {q:Nat} [NeZero q] (hq:1<q) (hqW:q<ak) (hs:yI q) {pts:List Nat} (hp:∀ p∈pts,p≤7) (ha:pts.Nodup):uK q pts:=by
 intro k hk
 apply xW
 intro a hm
 obtain ⟨p,hpm,rfl⟩:=List.mem_map.1 hm
 obtain ⟨i,hi,rfl⟩:=List.mem_take_iff_getElem.1 hpm
 have hik:i<k:=by omega
 have hne:=List.pairwise_iff_getElem.1 ha i k (by omega) hk hik
 have h1:=hp _ (fK hk)
 have h2:=hp pts[i] (List.getElem_mem _)
 rw [getD_lt hk] at h1 ⊢
 rcases Nat.lt_or_gt_of_ne hne with hlt|hlt
 ·obtain ⟨s,hs2⟩:=Bd hq hqW (show pts[k] - pts[i]<ak by unfold ak; omega) (hs (pts[k] - pts[i]) (by omega) (by omega))
  refine ⟨s,?_⟩
  have e:fz q pts[k]=fz q (pts[k] - pts[i])+fz q pts[i]:=by rw [← mQ,Nat.sub_add_cancel (Nat.le_of_lt hlt)]
  rw [e]
  grind
 ·obtain ⟨s,hs2⟩:=Bd hq hqW (show pts[i] - pts[k]<ak by unfold ak; omega) (hs (pts[i] - pts[k]) (by omega) (by omega))
  refine ⟨-s,?_⟩
  have e:fz q pts[i]=fz q (pts[i] - pts[k])+fz q pts[k]:=by rw [← mQ,Nat.sub_add_cancel (Nat.le_of_lt hlt)]
  rw [e]
  grind
abbrev xJ:Type:=List (Nat×List (List Int))
def Rows (n:Nat) (R:List Nat) (P:xJ) (c:Nat→List (List Int)):Prop:=R.length=n∧∀ j,j<n→R.getD j 0<P.length∧(P.getD (R.getD j 0) (0,[])).1≠2∧(P.getD (R.getD j 0) (0,[])).2=c j∧∀ j',j'<n→R.getD j' 0=R.getD j 0→j'=j∨(P.getD (R.getD j 0) (0,[])).1=3
theorem uh {α:Type} {l:List α} {i k:Nat} {a d:α} (h:i<l.length):(l.set i a).getD k d=if i=k then a else l.getD k d:=by
 rw [List.getD_eq_getElem?_getD,List.getElem?_set]
 by_cases e:i=k
 ·subst e; rw [if_pos rfl,if_pos h,if_pos rfl]; rfl
 ·rw [if_neg e,if_neg e,List.getD_eq_getElem?_getD]
theorem He {α:Type} {l:List α} {k:Nat} {a d:α}:(l++ [a]).getD k d=if k<l.length then l.getD k d else if k=l.length then a else d:=by
 rw [List.getD_eq_getElem?_getD,List.getD_eq_getElem?_getD]
 split
 ·rename_i h; rw [List.getElem?_append_left h]
 ·rename_i h
  rw [List.getElem?_append_right (by omega)]
  split
  ·rename_i h2; subst h2; simp
  ·rename_i h2; rw [List.getElem?_eq_none (by simp; omega)]; rfl
theorem Rows.put {n:Nat} {R:List Nat} {P:xJ} {c:Nat→List (List Int)} (h:Rows n R P c) {j:Nat} (hj:j<n) (v:List Int):
  Rows n (R.set j P.length) ((P.set (R.getD j 0) ((bif Nat.beq (P.getD (R.getD j 0) (0,[])).1 3 then 3 else 2),(P.getD (R.getD j 0) (0,[])).2))++ [(1,((P.getD (R.getD j 0) (0,[])).2++ [v]))]) (fun k=>if k=j then c j++ [v] else c k):=by
 obtain ⟨h1,h2⟩:=h
 obtain ⟨a1,a2,a3,a4⟩:=h2 j hj
 have hjR:j<R.length:=by omega
 refine ⟨by rw [List.length_set]; exact h1,fun k hk=> ?_⟩
 have gR:∀ i,(R.set j P.length).getD i 0=if j=i then P.length else R.getD i 0:=fun i=>uh hjR
 obtain ⟨b1,b2,b3,b4⟩:=h2 k hk
 have gP:∀ i,i<P.length→(((P.set (R.getD j 0) ((bif Nat.beq (P.getD (R.getD j 0) (0,[])).1 3 then 3 else 2),(P.getD (R.getD j 0) (0,[])).2))++ [(1,((P.getD (R.getD j 0) (0,[])).2++ [v]))]).getD i (0,[]))=if R.getD j 0=i then ((bif Nat.beq (P.getD (R.getD j 0) (0,[])).1 3 then 3 else 2),(P.getD (R.getD j 0) (0,[])).2) else P.getD i (0,[]):=fun i hi=>by
  rw [He,if_pos (by rw [List.length_set]; exact hi),uh a1]
 have gE:(((P.set (R.getD j 0) ((bif Nat.beq (P.getD (R.getD j 0) (0,[])).1 3 then 3 else 2),(P.getD (R.getD j 0) (0,[])).2))++ [(1,((P.getD (R.getD j 0) (0,[])).2++ [v]))]).getD P.length (0,[]))=(1,((P.getD (R.getD j 0) (0,[])).2++ [v])):=by
  rw [He,if_neg (by rw [List.length_set]; omega),if_pos (by rw [List.length_set])]
 have len:(P.set (R.getD j 0) ((bif Nat.beq (P.getD (R.getD j 0) (0,[])).1 3 then 3 else 2),(P.getD (R.getD j 0) (0,[])).2)++ [(1,((P.getD (R.getD j 0) (0,[])).2++ [v]))]).length=P.length+1:=by simp
 rw [gR k]
 by_cases e:j=k
 ·subst e
  rw [if_pos rfl,gE,len]
  refine ⟨by omega,by show (1:Nat)≠2; decide,by show _=if j=j then _ else _; rw [if_pos rfl,a3],fun j' hj' he=> ?_⟩
  rw [gR j'] at he
  by_cases e2:j=j'
  ·exact .inl e2.symm
  ·rw [if_neg e2] at he
   have:=(h2 j' hj').1
   omega
 ·rw [if_neg e,gP _ b1,len]
  by_cases e3:R.getD j 0=R.getD k 0
  ·have h3:(P.getD (R.getD j 0) (0,[])).1=3:=(a4 k hk e3.symm).resolve_left fun h=>e h.symm
   rw [if_pos e3,h3]
   refine ⟨by omega,by show (3:Nat)≠2; decide,by show _=if k=j then _ else _; rw [if_neg fun h=>e h.symm,← b3,e3],fun _ _ _=> .inr rfl⟩
  ·rw [if_neg e3]
   refine ⟨by omega,b2,by show _=if k=j then _ else _; rw [if_neg fun h=>e h.symm]; exact b3,fun j' hj' he=> ?_⟩
   rw [gR j'] at he
   by_cases e2:j=j'
   ·rw [if_pos e2] at he; omega
   ·rw [if_neg e2] at he; exact b4 j' hj' he
theorem Rows.flag {n:Nat} {R:List Nat} {P:xJ} {c:Nat→List (List Int)} (h:Rows n R P c) {j:Nat} (hj:j<n):(!Nat.beq (P.getD (R.getD j 0) (0,[])).1 2)=true:=by
 have:=(h.2 j hj).2.1
 cases e:Nat.beq (P.getD (R.getD j 0) (0,[])).1 2 with
 |false=>rfl
 |true=>exact absurd (Nat.eq_of_beq_eq_true e) this
theorem Rows.all {n:Nat} {R:List Nat} {P:xJ} {c:Nat→List (List Int)} (h:Rows n R P c):(R.map fun r=>(P.getD r (0,[])).2)=(List.range n).map c:=by
 apply List.ext_getElem?
 intro k
 rw [List.getElem?_map,List.getElem?_map]
 rcases Nat.lt_or_ge k n with hk|hk
 ·have h1:=(h.2 k hk).2.2.1
  rw [getD_lt (show k<R.length by rw [h.1]; exact hk)] at h1
  rw [List.getElem?_eq_getElem (show k<R.length by rw [h.1]; exact hk),List.getElem?_range hk]
  simp only [Option.map_some,h1]
 ·rw [List.getElem?_eq_none (show R.length≤k by rw [h.1]; exact hk),List.getElem?_eq_none (by simpa using hk)]; rfl
theorem Rows.start (n:Nat):Rows n (List.replicate n 0) [(3,[])] (fun _=> []):=by
 refine ⟨List.length_replicate,fun j hj=> ?_⟩
 have e:∀ k,(List.replicate n 0).getD k 0=0:=fun k=>by
  rw [List.getD_eq_getElem?_getD,List.getElem?_replicate]; split<;>rfl
 rw [e j]
 exact ⟨by decide,by decide,rfl,fun _ _ _=> .inr rfl⟩
end Go.Own
set_option linter.unusedVariables false
set_option linter.unusedSimpArgs false
namespace Go.Own
open Go.IntWalk
abbrev ints (l:List Nat):List Int:=l.map fun (p:Nat)=>(p:Int)
theorem Vp (gx:Option eU) (pts:List Nat) (hp:∀ p∈pts,p≤7) (hn:pts.length≤1073741824) (P:xJ):
  bF.l0 (gx,ints pts,(),0,(),ints pts,(pts.length:Int),0,()) ((true,[]),P,())=
  (true,1,(gx,ints pts,(),0,(),ints pts,(pts.length:Int),(pts.length:Int),()),((decide (pts.length=0),pts.map limbs),P,()),(),()):=by
 have key:bF.l0 (gx,ints pts,(),0,(),ints pts,(pts.length:Int),((0:Nat):Int),()) ((decide (0=0),(pts.take 0).map limbs),P,())=
  (true,1,(gx,ints pts,(),0,(),ints pts,(pts.length:Int),(pts.length:Int),()),((decide (pts.length=0),(pts.take pts.length).map limbs),P,()),(),()):=by
  refine bE (g:=fun rq kn ke kr x y=>bF.g0 rq kn ke kr x y) pts.length (fun j=>(gx,ints pts,(),0,(),ints pts,(pts.length:Int),(j:Int),())) (fun j=>((decide (j=0),(pts.take j).map limbs),P,())) _ ?_ ?_ _ 0 (Nat.zero_le _) (by show pts.length - 0<((pts.length:Int) - ((0:Nat):Int)).toNat+1; omega)
  ·intro j R hj
   have g1:(ints pts).getD j 0=((pts.getD j 0:Nat):Int):=getD_map hj
   have hb:=hp _ (fK hj)
   have n1:dY.r ((pts.getD j 0:Nat):Int)=(true,limbs (pts.getD j 0)):=by rw [sW _ (by omega)]; rfl
   have c2:nle ((2*((pts.take j).length+1)+512)*32) 70368744177664=true:=oN (by rw [List.length_take]; omega)
   have s2:((pts.take j).map limbs)++ [limbs (pts.getD j 0)]=(pts.take (j+1)).map limbs:=mH (f:=limbs) hj rfl
   have d1:decide (j+1=0)=false:=decide_eq_false (by omega)
   have w1:IntKind.i64.wrap ((j:Int)+1)=((j+1:Nat):Int):=i64_in _ (by omega)
   simp only [bF.g0,Go.Own.lt,bW (show (j:Int)<(pts.length:Int) by omega),dm (show (0:Int)≤(j:Int) by omega),cond_true,Bool.and_self,Int.toNat_natCast,List.length_map,ai,g1,Bool.and_false,n1,s2,c2,w1,d1]
  ·intro R
   simp only [bF.g0,Go.Own.lt,cB (show ¬ (pts.length:Int)<(pts.length:Int) by omega),cond_false]
 rw [List.take_length] at key
 exact key
theorem Vn {n:Nat} {gx:Option eU} {XS:List Int} {z:Int×Int} (hn:n≤1000) (Y:Bool×List (List Int)) (fl:Bool) (f:List (List Int)) (hf:f.length=n) {R:List Nat} {P:xJ} {c:Nat→List (List Int)} (h:Rows n R P c) (hc:∀ j,(c j).length≤1000) {w:_}
  (hw:w=bF.l2 (gx,XS,(),0,(),(),z.1,z.2,(),(n:Int),0,()) (Y,(false,R),(fl,f),P,())):
  w.1=true∧w.2.1=5∧w.2.2.1=(gx,XS,(),0,(),(),z.1,z.2,(),(n:Int),(n:Int),())∧∃ R' P',w.2.2.2.1=(Y,(false,R'),(fl,f),P',())∧Rows n R' P' (fun j=>if j<n then c j++ [f.getD j [0,0,0,0]] else c j):=by
 refine iB (g:=fun rq kn ke kr x y=>bF.g2 rq kn ke kr x y) hw
  (fun x y=>∃ (j:Nat) (R:List Nat) (P:xJ),j≤n∧x=(gx,XS,(),0,(),(),z.1,z.2,(),(n:Int),(j:Int),())∧y=(Y,(false,R),(fl,f),P,())∧Rows n R P (fun k=>if k<j then c k++ [f.getD k [0,0,0,0]] else c k))
  (fun x y=>n - x.2.2.2.2.2.2.2.2.2.2.1.toNat)
  ⟨0,R,P,Nat.zero_le _,rfl,rfl,by
   have:(fun k=>if k<0 then c k++ [f.getD k [0,0,0,0]] else c k)=c:=funext fun k=>if_neg (Nat.not_lt_zero _)
   rw [this]; exact h⟩ (by show n - ((0:Int)).toNat<((n:Int) - (0:Int)).toNat+1; omega)
  (Q:=fun w=>w.1=true∧w.2.1=5∧w.2.2.1=(gx,XS,(),0,(),(),z.1,z.2,(),(n:Int),(n:Int),())∧∃ R' P',w.2.2.2.1=(Y,(false,R'),(fl,f),P',())∧Rows n R' P' (fun j=>if j<n then c j++ [f.getD j [0,0,0,0]] else c j)) ?_
 rintro x y K ⟨j,R,P,hj,rfl,rfl,hr⟩ hK
 by_cases hlt:j<n
 ·have w1:IntKind.i64.wrap ((j:Int)+1)=((j+1:Nat):Int):=i64_in _ (by omega)
  have rl:=hr.1
  have hb:(P.getD (R.getD j 0) (0,[])).2=if j<j then c j++ [f.getD j [0,0,0,0]] else c j:=(hr.2 j hlt).2.2.1
  rw [if_neg (Nat.lt_irrefl j)] at hb
  have c1:nle ((2*((P.getD (R.getD j 0) (0,[])).2.length+1)+512)*32) 70368744177664=true:=oN (by rw [hb]; have:=hc j; omega)
  have hfg:=hr.flag hlt
  simp only [bF.g2,Go.Own.lt,bW (show (j:Int)<(n:Int) by omega),cond_true,I8 (show j<f.length by omega),I8 (show j<R.length by omega),ai,Int.toNat_natCast,hfg,c1,Bool.and_self,w1]
  have:=hr.put hlt (f.getD j [0,0,0,0])
  refine hK _ _ ⟨j+1,_,_,hlt,rfl,rfl,?_⟩ ?_
  ·refine Eq.mp (congrArg (Rows n _ _) (funext fun k=> ?_)) this
   by_cases e:k=j
   ·subst e; rw [if_pos rfl,if_neg (Nat.lt_irrefl k),if_pos (Nat.lt_succ_self k)]
   ·rw [if_neg e]
    by_cases e2:k<j
    ·rw [if_pos e2,if_pos (by omega)]
    ·rw [if_neg e2,if_neg (by omega)]
  ·show n - (((j+1:Nat):Int)).toNat<n - ((j:Int)).toNat
   omega
 ·have:j=n:=by omega
  subst this
  simp only [bF.g2,Go.Own.lt,cB (show ¬ (j:Int)<(j:Int) by omega),cond_false]
  exact ⟨trivial,trivial,trivial,R,P,rfl,hr⟩
structure Units (q:Nat) (pts:List Nat) (F:Nat→List Nat):Prop where
 len:∀ i,i<pts.length→(F i).length≤pts.length
 lt:∀ i,i<pts.length→∀ a∈F i,a<q
 val:∀ i,i<pts.length→∀ k,k<pts.length→evN q (F i) (pts.getD k 0)=if k=i then 1 else 0
theorem Nj {q:Nat} [NeZero q] (hq:1<q) {pts:List Nat} (ha:uK q pts):∃ F,Units q pts F:=by
 have:∀ i,∃ f:List Nat,f.length≤pts.length∧(∀ a∈f,a<q)∧∀ k,k<pts.length→fz q (evN q f (pts.getD k 0))=if k=i then 1 else 0:=fun i=>TM ha fun k=>if k=i then 1 else 0
 refine ⟨fun i=>Classical.choose (this i),fun i _=>(Classical.choose_spec (this i)).1,fun i _=>(Classical.choose_spec (this i)).2.1,fun i _ k hk=> ?_⟩
 have h:=(Classical.choose_spec (this i)).2.2 k hk
 have hl:=uq (show 0<q by omega) (Classical.choose (this i)) (pts.getD k 0)
 have hv:=congrArg Fin.val h
 rw [OY,Nat.mod_eq_of_lt hl] at hv
 rw [hv]
 by_cases e:k=i
 ·rw [if_pos e,if_pos e]; exact Nat.mod_eq_of_lt hq
 ·rw [if_neg e,if_neg e]; rfl
theorem QA {q:Nat} {pts:List Nat} {F:Nat→List Nat} (h:Units q pts F) {i:Nat} (hi:i<pts.length):(List.replicate pts.length [0,0,0,0]).set i [1,0,0,0]=(pts.map (evN q (F i))).map limbs:=by
 apply List.ext_getElem?
 intro k
 rw [List.getElem?_set,List.getElem?_map,List.getElem?_map]
 rcases Nat.lt_or_ge k pts.length with hk|hk
 ·have hv:=h.val i hi k hk
  rw [getD_lt hk] at hv
  rw [List.getElem?_eq_getElem hk]
  simp only [Option.map_some,hv,List.length_replicate,List.getElem?_replicate]
  by_cases e:i=k
  ·subst e
   rw [if_pos rfl,if_pos hi,if_pos rfl]; rfl
  ·rw [if_neg e,if_pos hk,if_neg fun h=>e h.symm]; rfl
 ·rw [if_neg (by omega),List.getElem?_eq_none (by simpa using hk),List.getElem?_eq_none hk]; rfl
def Gb (f:List Nat) (n:Nat):List (List Int):=(List.range n).map fun j=>limbs (f.getD j 0)
theorem Tt {q:Nat} [NeZero q] {f L:List Nat} {m n:Nat} (hm:m≤L.length) (hL:∀ a∈L,a<q) (hf:∀ a∈f,a<q) (hfn:f.length≤n) (hmf:m≤n) (h:Pol.PE (toF q f) (toF q (L.take m))):
  ((L.map limbs).take m)++List.replicate (n - m) [0,0,0,0]=Gb f n:=by
 have lt_of:∀ {l:List Nat} {k:Nat},(∀ a∈l,a<q)→l.getD k 0<q:=by
  intro l k hl
  rcases Nat.lt_or_ge k l.length with h|h
  ·exact hl _ (fK h)
  ·rw [fQ h]; exact Nat.pos_of_ne_zero (NeZero.ne q)
 have he:∀ k,(L.take m).getD k 0=f.getD k 0:=by
  intro k
  have:=h k
  rw [gF,gF] at this
  have e:=Bj this
  rw [Nat.mod_eq_of_lt (lt_of hf),Nat.mod_eq_of_lt (lt_of fun a ha=>hL a (List.mem_of_mem_take ha))] at e
  exact e.symm
 apply List.ext_getElem?
 intro k
 unfold Gb
 rw [List.getElem?_map]
 rcases Nat.lt_or_ge k m with hk|hk
 ·rw [List.getElem?_append_left (by rw [List.length_take,List.length_map]; omega),List.getElem?_take,if_pos hk,List.getElem?_map,List.getElem?_eq_getElem (show k<L.length by omega),List.getElem?_range (show k<n by omega)]
  have:=he k
  rw [getD_take,if_pos hk,getD_lt (show k<L.length by omega)] at this
  simp only [Option.map_some,this]
 ·rw [List.getElem?_append_right (by rw [List.length_take,List.length_map]; omega),List.length_take,List.length_map,Nat.min_eq_left hm,List.getElem?_replicate]
  rcases Nat.lt_or_ge k n with hkn|hkn
  ·rw [if_pos (by omega),List.getElem?_range hkn]
   have:=he k
   rw [getD_take,if_neg (by omega)] at this
   simp only [Option.map_some,← this]; rfl
  ·rw [if_neg (by omega),List.getElem?_eq_none (by simpa using hkn)]; rfl
theorem Ga (f:List Nat) (n:Nat):(Gb f n).length=n:=by unfold Gb; simp
theorem Ma {f:List Nat} {n j:Nat} (h:j<n) (d:List Int):(Gb f n).getD j d=limbs (f.getD j 0):=by
 unfold Gb
 rw [List.getD_eq_getElem?_getD,List.getElem?_map,List.getElem?_range h]; rfl
def fV (F:Nat→List Nat) (n:Nat):List (List (List Int)):=(List.range n).map fun j=>(List.range n).map fun i=>limbs ((F i).getD j 0)
theorem Vo {gx:Option eU} {q:Nat} [NeZero q] (h:Fld gx q) {pts:List Nat} (hp:∀ p∈pts,p≤7) (hn:pts.length≤8) (ha:uK q pts) {F:Nat→List Nat} (hF:Units q pts F) (fl:Bool) {w:_}
  (hw:w=bF.l1 (gx,ints pts,(),0,(),(),(pts.length:Int),0,()) ((fl,pts.map limbs),(false,List.replicate pts.length 0),[(3,[])],())):
  w.1=true∧w.2.1=3∧∃ R P,w.2.2.2.1=((fl,pts.map limbs),(false,R),P,())∧Rows pts.length R P (fun j=>if j<pts.length then (List.range pts.length).map fun i=>limbs ((F i).getD j 0) else []):=by
 obtain ⟨n,hnn⟩:∃ n,n=pts.length:=⟨_,rfl⟩
 have hq:=h.gt
 have hqW:=h.lt
 rw [← hnn] at hw ⊢
 refine iB (g:=fun rq kn ke kr x y=>bF.g1 rq kn ke kr x y) hw
  (fun x y=>∃ (i:Nat) (R:List Nat) (P:xJ),i≤n∧x=(gx,ints pts,(),0,(),(),(n:Int),(i:Int),())∧y=((fl,pts.map limbs),(false,R),P,())∧Rows n R P (fun j=>if j<n then (List.range i).map fun k=>limbs ((F k).getD j 0) else []))
  (fun x y=>n - x.2.2.2.2.2.2.2.1.toNat)
  ⟨0,_,_,Nat.zero_le _,rfl,rfl,by
   have:(fun j=>if j<n then (List.range 0).map fun k=>limbs ((F k).getD j 0) else [])=(fun _=>([]:List (List Int))):=funext fun j=>by split<;>rfl
   rw [this]; exact Rows.start n⟩ (by show n - ((0:Int)).toNat<((n:Int) - (0:Int)).toNat+1; omega)
  (Q:=fun w=>w.1=true∧w.2.1=3∧∃ R P,w.2.2.2.1=((fl,pts.map limbs),(false,R),P,())∧Rows n R P (fun j=>if j<n then (List.range n).map fun i=>limbs ((F i).getD j 0) else [])) ?_
 rintro x y K ⟨i,R,P,hi,rfl,rfl,hr⟩ hK
 by_cases hlt:i<n
 ·have hip:i<pts.length:=by omega
  have w1:IntKind.i64.wrap ((i:Int)+1)=((i+1:Nat):Int):=i64_in _ (by omega)
  have n1:dY.r 1=(true,[1,0,0,0]):=by rw [sW _ (by decide)]; rfl
  obtain ⟨L,m,f2,e,h1,h2,h3,h4⟩:=DC h (f:=F i) (fun a hm=>Nat.lt_trans (hF.lt i hip a hm) hqW) (xs:=pts) (fun a hm=>by have:=hp a hm; unfold ak; omega) (hF.len i hip) (by omega) ha
  have hlen:=hF.len i hip
  have c1:(ile 0 (n:Int)&&ile (n:Int) (n:Int))=true:=by rw [dm (by omega),dm (Int.le_refl _)]; rfl
  have c2:ile ((n:Int)*((32:Nat):Int)) 70368744177664=true:=dm (by omega)
  have c3:(ile 0 (i:Int)&&ilt (i:Int) (n:Int))=true:=rng hlt
  have w2:IntKind.i64.wrap ((n:Int) - (m:Int))=((n - m:Nat):Int):=by rw [i64_in _ (by omega)]; omega
  have c4:nle ((2*(m+(n - m))+512)*32) 70368744177664=true:=oN (by omega)
  have hpad:=Tt h2 h1 (hF.lt i hip) (n:=n) (by omega) (by omega) h4
  have ey:=QA hF hip
  rw [← hnn] at ey
  obtain ⟨fl3,hfl3⟩:∃ b,b=((f2&&neq m 0)&&(List.replicate (n - m) ([0,0,0,0]:List Int)).isEmpty):=⟨_,rfl⟩
  obtain ⟨v,hv⟩:∃ v,v=bF.l2 (gx,ints pts,(),0,(),(),(n:Int),(i:Int),(),(n:Int),0,()) ((fl,pts.map limbs),(false,R),(fl3,Gb (F i) n),P,()):=⟨_,rfl⟩
  obtain ⟨v1,v2,v3,R',P',v4,v5⟩:=Vn (z:=((n:Int),(i:Int))) (by omega) (fl,pts.map limbs) fl3 (Gb (F i) n) (Ga _ _) hr (fun j=>by
   show (if j<n then _ else _:List (List Int)).length≤1000
   split
   ·rw [List.length_map,List.length_range]; omega
   ·exact Nat.zero_le _) hv
  have hml:(List.take m (L.map limbs)).length=m:=by rw [List.length_take,List.length_map]; omega
  have e0:((0:Int) != 0)=false:=rfl
  have hil:(ints pts).length=n:=by rw [List.length_map]; exact hnn.symm
  simp only [bF.g1,Go.Own.lt,bW (show (i:Int)<(n:Int) by omega),cond_true,hil,Int.toNat_natCast,c1,c2,c3,Bool.and_self,ai,n1,List.length_replicate,ey,e,show Nat.beq 1 0=false from rfl,cond_false,e0,w2,List.drop_zero,hml,c4,dm (show (0:Int)≤((n - m:Nat):Int) by omega),hpad,Ga,← hfl3,← hv,v1,v3,v4,w1]
  refine hK _ _ ⟨i+1,R',P',hlt,rfl,rfl,?_⟩ ?_
  ·refine Eq.mp (congrArg (Rows n _ _) (funext fun j=> ?_)) v5
   by_cases hj:j<n
   ·rw [if_pos hj,if_pos hj,if_pos hj,Ma hj,List.range_succ,List.map_append]; rfl
   ·rw [if_neg hj,if_neg hj,if_neg hj]
  ·show n - (((i+1:Nat):Int)).toNat<n - ((i:Int)).toNat
   omega
 ·have:i=n:=by omega
  subst this
  simp only [bF.g1,Go.Own.lt,cB (show ¬ (i:Int)<(i:Int) by omega),cond_false]
  exact ⟨trivial,trivial,R,P,rfl,hr⟩
theorem any_false {pts:List Nat} (hp:∀ p∈pts,p≤7):((ints pts).any fun x=>decide (x<0)||decide (7<x))=false:=by
 rw [List.any_eq_false]
 intro x hx
 obtain ⟨p,hp',rfl⟩:=List.mem_map.1 hx
 have:=hp p hp'
 rw [decide_eq_false (by omega),decide_eq_false (by omega)]; decide
theorem Jt {pts:List Nat}:(ints pts).Nodup↔pts.Nodup:=by
 unfold List.Nodup ints
 rw [List.pairwise_map]
 exact ⟨fun h=>h.imp fun h2 e=>h2 (by rw [e]),fun h=>h.imp fun h2 e=>h2 (by omega)⟩
theorem M6 {gx:Option eU} {q:Nat} [NeZero q] (h:Fld gx q) (hs:yI q) {pts:List Nat} (hp:∀ p∈pts,p≤7) (hd:pts.Nodup) (hn:pts.length≤8):
  ∃ F,Units q pts F∧bF.r gx (ints pts)=(true,fV F pts.length,0):=by
 obtain ⟨rq,inv,hR,hFd⟩:=h.field
 have ha:=Dy h.gt h.lt hs hp hd
 obtain ⟨F,hF⟩:=Nj h.gt ha
 refine ⟨F,hF,?_⟩
 have hil:(ints pts).length=pts.length:=List.length_map _
 obtain ⟨b,t1,t2⟩:=M7 (ints pts) (by rw [hil]; omega)
 have hb:b=false:=by
  cases b with
  |false=>rfl
  |true=>exact absurd (Jt.2 hd) (t2.1 rfl)
 have O:=Iu (ints pts) 0 (by rw [hil]; omega)
 rw [any_false hp] at O
 obtain ⟨v,hv⟩:∃ v,v=bF.l1 (gx,ints pts,(),0,(),(),(pts.length:Int),0,()) ((decide (pts.length=0),pts.map limbs),(false,List.replicate pts.length 0),[(3,[])],()):=⟨_,rfl⟩
 obtain ⟨v1,v2,R,P,v3,v4⟩:=Vo h hp hn ha hF _ hv
 have c1:(ile 0 (pts.length:Int)&&ile (pts.length:Int) (pts.length:Int))=true:=by rw [dm (by omega),dm (Int.le_refl _)]; rfl
 have c2:ile ((pts.length:Int)*((24:Nat):Int)) 70368744177664=true:=dm (by omega)
 have e1:([]:xJ)++ [(3,[])]= [(3,[])]:=rfl
 have ew:(R.map fun r=>(P.getD r (0,[])).2)=fV F pts.length:=by
  rw [v4.all]
  unfold fV
  apply List.map_congr_left
  intro j hj
  rw [if_pos (List.mem_range.1 hj)]
 simp only [bF.r,bF.g,Go.Own.lt,hFd,ai,hR.wQ,cond_false,hil,cB (show ¬ (8:Int)<(pts.length:Int) by omega),O,t1,hb,Vp gx pts hp (by omega) [],e1,List.length_nil,Int.toNat_natCast,c1,c2,Bool.and_self,← hv,v1,v2,v3,show Nat.beq 3 0=false from rfl,ew]
end Go.Own
set_option linter.unusedVariables false
set_option linter.unusedSimpArgs false
namespace Go.Own
open Go.IntWalk
theorem Qx {q:Nat} [NeZero q] {xs:List Nat} (ha:uK q xs) {P:List (Fin q)} (hl:P.length≤xs.length) (h:∀ k,k<xs.length→Pol.ev P (fz q (xs.getD k 0))=0):∀ n,Pol.cf P n=0:=by
 have key:∀ m,m≤xs.length→∃ g:List (Fin q),Pol.PE P (Pol.TL (toF q (xs.take m)) g)∧g.length=P.length - m:=by
  intro m
  induction m with
  |zero=>intro _; exact ⟨P,fun _=>rfl,rfl⟩
  |succ m ih=>
   intro hm
   obtain ⟨g,h1,h2⟩:=ih (by omega)
   obtain ⟨s,hs⟩:=ha m hm
   have hv:=h m hm
   rw [Pol.sI h1,Pol.MN] at hv
   have h0:Pol.ev g (fz q (xs.getD m 0))=0:=by
    have:s*(Pol.tT (toF q (xs.take m)) (fz q (xs.getD m 0))*Pol.ev g (fz q (xs.getD m 0)))=0:=by rw [hv]; grind
    grind
   have hd:=Pol.Pe (fz q (xs.getD m 0)) g
   rw [h0] at hd
   have hg:Pol.PE g (Pol.Ml (fz q (xs.getD m 0)) (Pol.dv (fz q (xs.getD m 0)) g)):=fun n=>by
    rw [hd n,Pol.iM]
    have:Pol.cf [(0:Fin q)] n=0:=by
     cases n with
     |zero=>rfl
     |succ n=>rw [Pol.jd,Pol.jo]
    rw [this]; grind
   have ax:toF q (xs.take (m+1))=toF q (xs.take m)++ [fz q (xs.getD m 0)]:=(jZ (f:=fz q) hm).symm
   refine ⟨Pol.dv (fz q (xs.getD m 0)) g,?_,by rw [Pol.JM,h2]; omega⟩
   rw [ax,Pol.EW]
   exact h1.trans (Pol.PE.T hg)
 obtain ⟨g,h1,h2⟩:=key xs.length (Nat.le_refl _)
 have:g= []:=List.length_eq_zero_iff.1 (by omega)
 subst this
 intro n
 rw [h1 n,Pol.Iq]
theorem Fu {q:Nat} [NeZero q] {xs:List Nat} (ha:uK q xs) {a b:List (Fin q)} (hla:a.length≤xs.length) (hlb:b.length≤xs.length) (h:∀ k,k<xs.length→Pol.ev a (fz q (xs.getD k 0))=Pol.ev b (fz q (xs.getD k 0))):Pol.PE a b:=by
 have z:=Qx ha (P:=Pol.lm a (Pol.qQ (-1) b)) (by rw [uI]; unfold Pol.qQ; rw [List.length_map]; omega) (fun k hk=>by
  rw [Pol.uo,Pol.yB,h k hk]; grind)
 intro n
 have:=z n
 rw [Pol.iM,Pol.kZ] at this
 grind
def HZ (q:Nat) [NeZero q] (F:Nat→List Nat) (ys:List Nat):Nat→List (Fin q)
 |0=> []
 |i+1=>Pol.lm (HZ q F ys i) (Pol.qQ (fz q (ys.getD i 0)) (toF q (F i)))
theorem HY {q:Nat} [NeZero q] {F:Nat→List Nat} {ys:List Nat} {d:Nat}:∀ n,(∀ i,i<n→(F i).length≤d)→(HZ q F ys n).length≤d
 |0,_=>Nat.zero_le _
 |n+1,h=>by
  have ih:=HY (ys:=ys) (q:=q) n (fun i hi=>h i (by omega))
  have h1:=h n (by omega)
  show (Pol.lm _ _).length≤d
  rw [uI]
  unfold Pol.qQ toF
  rw [List.length_map,List.length_map]; omega
theorem Ld {q:Nat} [NeZero q] {pts:List Nat} {F:Nat→List Nat} (hF:Units q pts F) (ys:List Nat) {k:Nat} (hk:k<pts.length):∀ m,m≤pts.length→Pol.ev (HZ q F ys m) (fz q (pts.getD k 0))=if k<m then fz q (ys.getD k 0) else 0
 |0,_=>by rw [if_neg (Nat.not_lt_zero _)]; rfl
 |m+1,hm=>by
  show Pol.ev (Pol.lm (HZ q F ys m) (Pol.qQ (fz q (ys.getD m 0)) (toF q (F m)))) _=_
  rw [Pol.uo,Pol.yB,Ld hF ys hk m (by omega),← vZ,hF.val m (by omega) k hk]
  by_cases e:k=m
  ·subst e
   rw [if_neg (Nat.lt_irrefl k),if_pos rfl,if_pos (Nat.lt_succ_self k),Bh]; grind
  ·rw [if_neg e,kE]
   by_cases e2:k<m
   ·rw [if_pos e2,if_pos (by omega)]; grind
   ·rw [if_neg e2,if_neg (by omega)]; grind
end Go.Own
set_option linter.unusedVariables false
set_option linter.unusedSimpArgs false
namespace Go.Own
open Go.IntWalk
theorem Uf (n k:Nat) (hk:k<256):gX.r (limbs n) (k:Int)=(true,((n.testBit k).toNat:Int)):=by
 have e:(ile 0 (k:Int)&&ilt (k:Int) 256)=true:=by rw [dm (by omega),bW (by omega)]; rfl
 simp only [gX.r,gX.g,Go.Own.lt,Um,ai,dm (show (0:Int)≤(k:Int) by omega),bW (show (k:Int)<256 by omega),cond_true,e,Bool.and_self,Int.toNat_natCast,jJ n k hk]
 cases n.testBit k<;>rfl
theorem Hz (E t:Nat):E/2^t=2*(E/2^(t+1))+(E.testBit t).toNat:=by
 rw [Nat.toNat_testBit,Nat.pow_succ,← Nat.div_div_eq_div_mul]; omega
theorem P9 (a E m:Nat) (h1:1<m) (hm:m<9223372036854775808) (hE:E<ak):dI.r (a:Int) (limbs E) (m:Int)=(true,((a^E%m:Nat):Int)):=by
 have h0:0<m:=by omega
 obtain ⟨T,hT⟩:∃ T,T=bV E:=⟨_,rfl⟩
 have hT2:T≤256:=by rw [hT]; exact rT hE
 have z:ieq (m:Int) 0=false:=A9 (by omega)
 have key:dI.l0 ((a:Int),(m:Int),(),0,((a^(E/2^(T - 0))%m:Nat):Int),(T:Int) - ((0:Nat):Int) - 1,()) (limbs E,())=(true,1,((a:Int),(m:Int),(),0,((a^(E/2^(T - T))%m:Nat):Int),(T:Int) - (T:Int) - 1,()),(limbs E,()),(),()):=by
  refine bE (g:=fun rq kn ke kr x y=>dI.g0 rq kn ke kr x y) T (fun i=>((a:Int),(m:Int),(),0,((a^(E/2^(T - i))%m:Nat):Int),(T:Int) - (i:Int) - 1,())) (fun _=>(limbs E,())) _ ?_ ?_ _ 0 (Nat.zero_le _) (by show T - 0<((T:Int) - ((0:Nat):Int) - 1 - (0:Int)+1).toNat+1; omega)
  ·intro i R hi
   obtain ⟨t,ht⟩:∃ t,T - i=t+1:=⟨T - i - 1,by omega⟩
   have e1:(T:Int) - (i:Int) - 1=(t:Int):=by omega
   have e2:T - (i+1)=t:=by omega
   have w1:IntKind.i64.wrap ((t:Int) - 1)=(T:Int) - ((i+1:Nat):Int) - 1:=by rw [i64_in _ (by omega)]; omega
   obtain ⟨K,hK⟩:∃ K,K=E/2^(t+1):=⟨_,rfl⟩
   have hd:=Hz E t
   rw [← hK] at hd
   have sq:a^K%m*(a^K%m)%m=a^(2*K)%m:=by rw [← Nat.mul_mod,← Nat.pow_add]; congr 2; omega
   have m1:=EU (a^K%m) (a^K%m) m h0 hm
   rw [sq] at m1
   have m2:=EU (a^(2*K)%m) a m h0 hm
   rw [Nat.mod_mul_mod,← Nat.pow_succ] at m2
   have b1:=Uf E t (by omega)
   simp only [dI.g0,Go.Own.lt,ht,e1,e2,← hK,dm (show (0:Int)≤(t:Int) by omega),cond_true,d9.gI,gX.gI,m1,b1,ai]
   cases hb:E.testBit t with
   |true=>
    rw [hb] at hd
    have hd':E/2^t=(2*K).succ:=by rw [hd]; rfl
    simp only [hd',m2,w1,ai,uD,cond_true]
   |false=>
    rw [hb] at hd
    have hd':E/2^t=2*K:=by rw [hd]; rfl
    simp only [hd',w1,uD,cond_false]
  ·intro R
   have:¬ (0:Int)≤(T:Int) - (T:Int) - 1:=by omega
   simp only [dI.g0,Go.Own.lt,qH this,cond_false]
 have hz:E/2^T=0:=Nat.div_eq_of_lt (by rw [hT]; exact nV E)
 have e1:(1:Int).tmod (m:Int)=((1%m:Nat):Int):=vg 1 m
 have w1:IntKind.i64.wrap ((T:Int) - 1)=(T:Int) - 1:=i64_in _ (by omega)
 have e3:(T:Int) - ((0:Nat):Int) - 1=(T:Int) - 1:=by omega
 rw [Nat.sub_zero,hz,Nat.pow_zero,Nat.sub_self,Nat.pow_zero,Nat.div_one,e3] at key
 simp only [dI.r,dI.g,Go.Own.lt,e1,z,Bool.not_false,ai,Tc E hE,← hT,w1,key]
end Go.Own
set_option linter.unusedVariables false
set_option linter.unusedSimpArgs false
namespace Go.Own
open Go.IntWalk
def G5 (q a:Nat):Nat:=if a=0 then 0 else a^(q - 2)%q
theorem Ue (a q:Nat) (h2:2<q) (hq:q<4611686018427387904):gu.r (a:Int) (q:Int)=(true,(G5 q a:Int)):=by
 unfold G5
 have w1:IntKind.i64.wrap ((q:Int) - 2)=((q - 2:Nat):Int):=by rw [i64_in _ (by omega)]; omega
 have i1:=Qp ((q - 2:Nat):Int) (by omega)
 rw [Int.toNat_natCast] at i1
 by_cases h0:a=0
 ·subst h0
  simp only [gu.r,gu.g,Go.Own.lt,show (((0:Nat):Int)== 0)=true from rfl,cond_true,if_true]
  rfl
 ·have b0:((a:Int)== 0)=false:=beq_eq_false_iff_ne.2 (by omega)
  rw [if_neg h0]
  simp only [gu.r,gu.g,Go.Own.lt,b0,cond_false,w1,i1,ai,P9 a (q - 2) q (by omega) (by omega) (by unfold ak; omega)]
theorem P8 (a b q:Nat) (h0:0<q) (ha:a<4611686018427387904) (hb:b≤q) (hq:q<4611686018427387904):gW.r (a:Int) (b:Int) (q:Int)=(true,(((a+q - b)%q:Nat):Int)):=by
 have w1:IntKind.i64.wrap ((a:Int)+(q:Int))=((a+q:Nat):Int):=i64_in _ (by omega)
 have w2:IntKind.i64.wrap (((a+q:Nat):Int) - (b:Int))=((a+q - b:Nat):Int):=by rw [i64_in _ (by omega)]; omega
 have z:ieq (q:Int) 0=false:=A9 (by omega)
 simp only [gW.r,gW.g,Go.Own.lt,w1,w2,vg,z,Bool.not_false,ai]
theorem K6 {q:Nat} [NeZero q] (a b:Nat) (hb:b≤q):fz q ((a+q - b)%q)=fz q a - fz q b:=by
 have h:fz q (a+q - b)+fz q b=fz q a:=by
  rw [← mQ,Nat.sub_add_cancel (by omega),mQ,UL]; grind
 rw [iC,← h]; grind
def trm (L:List Nat):List Nat:=L.take (tl L L.length)
theorem EZ (L:List Nat) (hn:L.length≤1073741824):bK.r (ints L)=(true,ints (trm L)):=by
 obtain ⟨w,hw⟩:∃ w,w=bK.l0 (ints L,(),(L.length:Int),()) ():=⟨_,rfl⟩
 have hil:(ints L).length=L.length:=List.length_map _
 have key:w=(true,1,(ints L,(),(tl L L.length:Int),()),(),(),()):=by
  refine iB (g:=fun rq kn ke kr x y=>bK.g0 rq kn ke kr x y) hw (fun x y=>∃ n,n≤L.length∧tl L n=tl L L.length∧x=(ints L,(),(n:Int),())) (fun x y=>x.2.2.1.toNat) ⟨_,Nat.le_refl _,rfl,rfl⟩ (by show ((L.length:Int)).toNat<((L.length:Int) - (0:Int)).toNat+1; omega)
   (Q:=fun w=>w=(true,1,(ints L,(),(tl L L.length:Int),()),(),(),())) ?_
  rintro x y R ⟨n,hn1,ht,rfl⟩ hR
  cases n with
  |zero=>
   simp only [bK.g0,Go.Own.lt,cB (show ¬ (0:Int)<((0:Nat):Int) by omega),cond_false,← ht]
   rfl
  |succ n=>
   have w1:IntKind.i64.wrap (((n+1:Nat):Int) - 1)=(n:Int):=by rw [i64_in _ (by omega)]; omega
   have g1:(ints L).getD n 0=((L.getD n 0:Nat):Int):=getD_map (by omega)
   have b1:(((L.getD n 0:Nat):Int)== 0)=Nat.beq (L.getD n 0) 0:=by
    cases L.getD n 0<;>rfl
   simp only [bK.g0,Go.Own.lt,bW (show (0:Int)<((n+1:Nat):Int) by omega),cond_true,w1,Int.toNat_natCast,hil,dm (show (0:Int)≤(n:Int) by omega),bW (show (n:Int)<(L.length:Int) by omega),Bool.and_self,ai,g1,b1]
   simp only [tl] at ht
   cases hb:Nat.beq (L.getD n 0) 0 with
   |true=>
    rw [hb] at ht
    simp only [cond_true] at ht ⊢
    exact hR _ _ ⟨n,by omega,ht,rfl⟩ (by show ((n:Int)).toNat<(((n+1:Nat):Int)).toNat; omega)
   |false=>
    rw [hb] at ht
    simp only [cond_false] at ht ⊢
    rw [← ht]
 have hle:=Co L L.length
 have et:(ints L).take (tl L L.length)=ints (trm L):=(List.map_take).symm
 simp only [bK.r,bK.g,Go.Own.lt,hil,← hw,key,ai,Int.toNat_natCast,dm (show (0:Int)≤(tl L L.length:Int) by omega),dm (show (tl L L.length:Int)≤(L.length:Int) by omega),Bool.and_self,et]
theorem Fz (L:List Nat) (k:Nat):(trm L).getD k 0=L.getD k 0:=DT
theorem Kj (L:List Nat):(trm L).length≤L.length:=by unfold trm; rw [List.length_take]; omega
theorem Np {q:Nat} {L:List Nat} (h:∀ a∈L,a<q):∀ a∈trm L,a<q:=fun a ha=>h a (List.mem_of_mem_take ha)
theorem Ns {L M:List Nat} (h:∀ k,L.getD k 0=M.getD k 0):∀ n,tl L n=tl M n
 |0=>rfl
 |n+1=>by simp only [tl,h n,Ns h n]
theorem Nr {L:List Nat}:∀ {n m:Nat},L.length≤n→tl L (n+m)=tl L n
 |n,0,_=>rfl
 |n,m+1,h=>by
  show tl L (n+m+1)=_
  simp only [tl]
  rw [fQ (show L.length≤n+m by omega)]
  exact Nr h
theorem Kk {L M:List Nat} (h:∀ k,L.getD k 0=M.getD k 0):trm L=trm M:=by
 have e:tl L L.length=tl M M.length:=by
  have h1:tl L (L.length+M.length)=tl L L.length:=Nr (Nat.le_refl _)
  have h2:tl M (M.length+L.length)=tl M M.length:=Nr (Nat.le_refl _)
  rw [← h1,← h2,Ns h,Nat.add_comm]
 have l1:=Co L L.length
 have l2:=Co M M.length
 apply List.ext_getElem?
 intro k
 unfold trm
 rw [List.getElem?_take,List.getElem?_take,e]
 split
 ·rename_i hk
  have:=h k
  rw [getD_lt (show k<L.length by omega),getD_lt (show k<M.length by omega)] at this
  rw [List.getElem?_eq_getElem (show k<L.length by omega),List.getElem?_eq_getElem (show k<M.length by omega),this]
 ·rfl
theorem QD (L:List Nat):trm (trm L)=trm L:=Kk (Fz L)
theorem Qf {q:Nat} [NeZero q] (L:List Nat):Pol.PE (toF q (trm L)) (toF q L):=fun n=>by rw [gF,gF,Fz]
theorem UU (L:List Nat) (k:Nat):fT.r (ints L) (k:Int)=(true,((L.getD k 0:Nat):Int)):=by
 have hil:(ints L).length=L.length:=List.length_map _
 by_cases h:k<L.length
 ·have g1:(ints L).getD k 0=((L.getD k 0:Nat):Int):=getD_map h
  simp only [fT.r,fT.g,Go.Own.lt,hil,bW (show (k:Int)<(L.length:Int) by omega),cond_true,Int.toNat_natCast,g1,dm (show (0:Int)≤(k:Int) by omega),Bool.and_self,ai]
 ·rw [fQ (show L.length≤k by omega)]
  simp only [fT.r,fT.g,Go.Own.lt,hil,cB (show ¬ (k:Int)<(L.length:Int) by omega),cond_false]
  rfl
def Cg (q:Nat) (a b:List Nat):List Nat:=(List.range (max a.length b.length)).map fun k=>(a.getD k 0+b.getD k 0)%q
theorem R5 (a b:List Nat) (q:Nat) (h0:0<q) (hq:q<4611686018427387904) (ha:∀ x∈a,x<q) (hb:∀ x∈b,x<q) (hna:a.length≤1073741824) (hnb:b.length≤1073741824):dS.r (ints a) (ints b) (q:Int)=(true,ints (trm (Cg q a b))):=by
 obtain ⟨n,hn⟩:∃ n,n=max a.length b.length:=⟨_,rfl⟩
 have lt_of:∀ {l:List Nat} {k:Nat},(∀ x∈l,x<q)→l.getD k 0<q:=by
  intro l k hl
  rcases Nat.lt_or_ge k l.length with h|h
  ·exact hl _ (fK h)
  ·rw [fQ h]; exact h0
 have hmx:(bif ilt ((ints a).length:Int) ((ints b).length:Int) then ((ints b).length:Int) else ((ints a).length:Int))=(n:Int):=by
  rw [List.length_map,List.length_map,hn]
  by_cases h:(a.length:Int)<(b.length:Int)
  ·rw [bW h,cond_true]; omega
  ·rw [cB h,cond_false]; omega
 have hmx2:=hmx
 rw [List.length_map,List.length_map] at hmx2
 have key:dS.l0 (ints a,ints b,(q:Int),(),(),((0:Nat):Int),()) ((decide (0=0),(List.range 0).map fun k=>(((a.getD k 0+b.getD k 0)%q:Nat):Int)),())=(true,1,(ints a,ints b,(q:Int),(),(),(n:Int),()),((decide (n=0),(List.range n).map fun k=>(((a.getD k 0+b.getD k 0)%q:Nat):Int)),()),(),()):=by
  refine bE (g:=fun rq kn ke kr x y=>dS.g0 rq kn ke kr x y) n (fun j=>(ints a,ints b,(q:Int),(),(),(j:Int),())) (fun j=>((decide (j=0),(List.range j).map fun k=>(((a.getD k 0+b.getD k 0)%q:Nat):Int)),())) _ ?_ ?_ _ 0 (Nat.zero_le _) (by show n - 0<((bif ilt ((ints a).length:Int) ((ints b).length:Int) then ((ints b).length:Int) else ((ints a).length:Int)) - ((0:Nat):Int)).toNat+1; rw [hmx]; omega)
  ·intro j R hj
   have x1:a.getD j 0<q:=lt_of ha
   have x2:b.getD j 0<q:=lt_of hb
   have a1:=BJ (a.getD j 0) (b.getD j 0) q h0 (by omega) (by omega)
   have c1:nle ((2*(j+1)+512)*8) 70368744177664=true:=oN (by omega)
   have s1:((List.range j).map fun k=>(((a.getD k 0+b.getD k 0)%q:Nat):Int))++ [(((a.getD j 0+b.getD j 0)%q:Nat):Int)]=(List.range (j+1)).map fun k=>(((a.getD k 0+b.getD k 0)%q:Nat):Int):=by rw [List.range_succ,List.map_append]; rfl
   have d1:decide (j+1=0)=false:=decide_eq_false (by omega)
   have w1:IntKind.i64.wrap ((j:Int)+1)=((j+1:Nat):Int):=i64_in _ (by omega)
   simp only [dS.g0,Go.Own.lt,List.length_map,hmx2,bW (show (j:Int)<(n:Int) by omega),cond_true,UU,ai,a1,Bool.and_false,List.length_range,c1,s1,w1,d1]
  ·intro R
   simp only [dS.g0,Go.Own.lt,List.length_map,hmx2,cB (show ¬ (n:Int)<(n:Int) by omega),cond_false]
 have k2:dS.l0 (ints a,ints b,(q:Int),(),(),0,()) ((true,[]),())=_:=key
 have e1:((List.range n).map fun k=>(((a.getD k 0+b.getD k 0)%q:Nat):Int))=ints (Cg q a b):=by
  unfold Cg ints; rw [List.map_map,hn]; rfl
 have t1:=EZ (Cg q a b) (by unfold Cg; rw [List.length_map,List.length_range]; omega)
 simp only [dS.r,dS.g,Go.Own.lt,k2,ai,e1,t1]
theorem Sb {q:Nat} [NeZero q] (a b:List Nat):Pol.PE (toF q (Cg q a b)) (Pol.lm (toF q a) (toF q b)):=fun k=>by
 rw [Pol.iM,gF,gF,gF]
 unfold Cg
 rw [l8]
 split
 ·rw [iC,mQ]
 ·rename_i h
  rw [fQ (show a.length≤k by omega),fQ (show b.length≤k by omega),kE]; grind
def qU (q:Nat) (a:List Nat) (b0 b1 i k:Nat):Nat:=((if 1≤k∧k≤i then a.getD (k - 1) 0*b1%q else 0)+(if k<i then a.getD k 0*b0%q else 0))%q
def mulL (q:Nat) (a:List Nat) (b0 b1 i:Nat):List Nat:=(List.range (a.length+1)).map (qU q a b0 b1 i)
theorem wR {q:Nat} {a:List Nat} {b0 b1 i:Nat}:(mulL q a b0 b1 i).length=a.length+1:=by unfold mulL; simp
theorem Qc (a:List Nat) (b0 b1 q:Nat) (h0:0<q) (hq:q<4611686018427387904) (ha:∀ x∈a,x<q) (hn:a.length≤1073741823) (i:Nat) (hi:i<a.length):aO.l1 (ints a,[(b0:Int),(b1:Int)],(q:Int),(),(),(i:Int),0,()) ((false,ints (mulL q a b0 b1 i)),())=(true,3,(ints a,[(b0:Int),(b1:Int)],(q:Int),(),(),(i:Int),2,()),((false,ints (mulL q a b0 b1 (i+1))),()),(),()):=by
 obtain ⟨n,hnn⟩:∃ n,n=a.length:=⟨_,rfl⟩
 have hil:(ints a).length=n:=by rw [List.length_map]; exact hnn.symm
 have mk:∀ {i k:Nat},qU q a b0 b1 i k<q:=fun {i k}=>Nat.mod_lt _ h0
 have gm:∀ {i k:Nat},k<n+1→(ints (mulL q a b0 b1 i)).getD k 0=(qU q a b0 b1 i k:Int):=fun {i k} hk=>by
  have h1:(ints (mulL q a b0 b1 i)).getD k 0=(((mulL q a b0 b1 i).getD k 0:Nat):Int):=getD_map (by rw [wR]; omega)
  rw [h1]; unfold mulL; rw [kL (by omega)]
 have iml:∀ {i:Nat},(ints (mulL q a b0 b1 i)).length=n+1:=fun {i}=>by rw [List.length_map,wR]; omega
 have hi0:=hi
 rw [← hnn] at hi
 obtain ⟨A,hA⟩:∃ A,A=a.getD i 0:=⟨_,rfl⟩
 have g1:(ints a).getD i 0=(A:Int):=by rw [hA]; exact getD_map (by omega)
 have m0:=yJ A b0 q h0 (by omega)
 have m1:=yJ A b1 q h0 (by omega)
 have r0:=Nat.mod_lt (A*b0) h0
 have r1:=Nat.mod_lt (A*b1) h0
 have a0:=BJ (qU q a b0 b1 i i) (A*b0%q) q h0 (by have:=mk (i:=i) (k:=i); omega) (by omega)
 have a1:=BJ (qU q a b0 b1 i (i+1)) (A*b1%q) q h0 (by have:=mk (i:=i) (k:=i+1); omega) (by omega)
 have w0:IntKind.i64.wrap ((i:Int)+0)=(i:Int):=by rw [i64_in _ (by omega)]; omega
 have w1:IntKind.i64.wrap ((i:Int)+1)=((i+1:Nat):Int):=i64_in _ (by omega)
 have z1:IntKind.i64.wrap ((0:Int)+1)=1:=rfl
 have z2:IntKind.i64.wrap ((1:Int)+1)=2:=rfl
 have bl:(([(b0:Int),(b1:Int)]).length:Int)=2:=rfl
 have d0:([(b0:Int),(b1:Int)]).getD ((0:Int)).toNat 0=(b0:Int):=rfl
 have d1:([(b0:Int),(b1:Int)]).getD ((1:Int)).toNat 0=(b1:Int):=rfl
 have s2:((ints (mulL q a b0 b1 i)).set i (((qU q a b0 b1 i i+A*b0%q)%q:Nat):Int)).getD (i+1) 0=(qU q a b0 b1 i (i+1):Int):=by
  rw [uh (by rw [iml]; omega),if_neg (by omega),gm (by omega)]
 have fin:(((ints (mulL q a b0 b1 i)).set i (((qU q a b0 b1 i i+A*b0%q)%q:Nat):Int)).set (i+1) (((qU q a b0 b1 i (i+1)+A*b1%q)%q:Nat):Int))=ints (mulL q a b0 b1 (i+1)):=by
  apply List.ext_getElem?
  intro k
  rcases Nat.lt_or_ge k (n+1) with hk|hk
  ·have e1:∀ {l:List Int},l.length=n+1→l[k]?=some (l.getD k 0):=fun {l} h=>by rw [getD_lt (by omega),List.getElem?_eq_getElem]
   rw [e1 (by rw [List.length_set,List.length_set,iml]),e1 iml,uh (by rw [List.length_set,iml]; omega),uh (by rw [iml]; omega),gm hk,gm hk]
   congr 1
   by_cases k1:i+1=k
   ·subst k1
    rw [if_pos rfl]
    congr 1
    unfold qU
    rw [if_neg (by omega),if_neg (by omega),if_pos (by omega),if_neg (by omega),Nat.add_sub_cancel,← hA,Nat.zero_add,Nat.zero_mod,Nat.zero_add,Nat.add_zero]
   ·rw [if_neg k1]
    by_cases k2:i=k
    ·subst k2
     rw [if_pos rfl]
     congr 1
     unfold qU
     rw [← hA,if_neg (Nat.lt_irrefl i),if_pos (Nat.lt_succ_self i),Nat.add_zero]
     by_cases hi0:1≤i
     ·rw [if_pos ⟨hi0,Nat.le_refl i⟩,if_pos ⟨hi0,Nat.le_succ i⟩,Nat.mod_mod]
     ·rw [if_neg fun h=>hi0 h.1,if_neg fun h=>hi0 h.1,Nat.zero_mod]
    ·rw [if_neg k2]
     congr 1
     unfold qU
     have e3:(1≤k∧k≤i)↔(1≤k∧k≤i+1):=by omega
     have e4:k<i↔k<i+1:=by omega
     simp only [e3,e4]
  ·rw [List.getElem?_eq_none (by rw [List.length_set,List.length_set,iml]; exact hk),List.getElem?_eq_none (by rw [iml]; exact hk)]
 obtain ⟨L1,hL1⟩:∃ L1,L1=(ints (mulL q a b0 b1 i)).set i (((qU q a b0 b1 i i+A*b0%q)%q:Nat):Int):=⟨_,rfl⟩
 rw [← hL1] at s2 fin
 have l1:L1.length=n+1:=by rw [hL1,List.length_set,iml]
 refine I7 (g:=fun rq kn ke kr x y=>aO.g1 rq kn ke kr x y) (x1:=(ints a,[(b0:Int),(b1:Int)],(q:Int),(),(),(i:Int),1,())) (y1:=((false,L1),())) (x2:=(ints a,[(b0:Int),(b1:Int)],(q:Int),(),(),(i:Int),2,())) (y2:=((false,ints (mulL q a b0 b1 (i+1))),())) ?_ ?_ ?_ _ ?_
 ·intro R
  simp only [aO.g1,Go.Own.lt,bl,show ilt (0:Int) 2=true from rfl,cond_true,w0,z1,d0,rng (show i<n+1 by omega),rng hi,iml,hil,Int.toNat_natCast,gm (show i<n+1 by omega),g1,show ile (0:Int) 0=true from rfl,Bool.and_self,ai,bG.gI,m0,a0,← hL1]
 ·intro R
  simp only [aO.g1,Go.Own.lt,bl,show ilt (1:Int) 2=true from rfl,cond_true,w1,z2,d1,rng (show i+1<n+1 by omega),rng hi,l1,hil,Int.toNat_natCast,s2,g1,show ile (0:Int) 1=true from rfl,Bool.and_self,ai,bG.gI,m1,a1,fin]
 ·intro R
  simp only [aO.g1,Go.Own.lt,bl,show ilt (2:Int) 2=false from rfl,cond_false]
 ·show 3≤((2:Int) - 0).toNat+1
  decide
theorem TD (a:List Nat) (b0 b1 q:Nat):List.replicate (a.length+1) (0:Int)=ints (mulL q a b0 b1 0):=by
 unfold ints mulL
 rw [List.map_map]
 apply List.ext_getElem?
 intro k
 rw [List.getElem?_replicate,List.getElem?_map]
 split
 ·rename_i hk
  rw [List.getElem?_range hk]
  show some (0:Int)=some ((qU q a b0 b1 0 k:Nat):Int)
  unfold qU
  rw [if_neg (by omega),if_neg (by omega),Nat.zero_mod]; rfl
 ·rename_i hk
  rw [List.getElem?_eq_none (by simpa using hk)]; rfl
theorem Qb (a:List Nat) (b0 b1 q n:Nat) (h0:0<q) (hq:q<4611686018427387904) (ha:∀ x∈a,x<q) (hn:a.length≤1073741823) (hnn:n=a.length):aO.l0 (ints a,[(b0:Int),(b1:Int)],(q:Int),(),(),0,()) ((false,ints (mulL q a b0 b1 0)),())=(true,1,(ints a,[(b0:Int),(b1:Int)],(q:Int),(),(),(n:Int),()),((false,ints (mulL q a b0 b1 n)),()),(),()):=by
 have hil:(ints a).length=n:=by rw [List.length_map]; exact hnn.symm
 have key:aO.l0 (ints a,[(b0:Int),(b1:Int)],(q:Int),(),(),((0:Nat):Int),()) ((false,ints (mulL q a b0 b1 0)),())=(true,1,(ints a,[(b0:Int),(b1:Int)],(q:Int),(),(),(n:Int),()),((false,ints (mulL q a b0 b1 n)),()),(),()):=by
  refine bE (g:=fun rq kn ke kr x y=>aO.g0 rq kn ke kr x y) n (fun j=>(ints a,[(b0:Int),(b1:Int)],(q:Int),(),(),(j:Int),())) (fun j=>((false,ints (mulL q a b0 b1 j)),())) _ ?_ ?_ _ 0 (Nat.zero_le _) (by show n - 0<(((ints a).length:Int) - ((0:Nat):Int)).toNat+1; rw [hil]; omega)
  ·intro j R hj
   have w1:IntKind.i64.wrap ((j:Int)+1)=((j+1:Nat):Int):=i64_in _ (by omega)
   simp only [aO.g0,Go.Own.lt,hil,bW (show (j:Int)<(n:Int) by omega),cond_true,Qc a b0 b1 q h0 hq ha hn j (show j<a.length by omega),ai,w1]
  ·intro R
   simp only [aO.g0,Go.Own.lt,hil,cB (show ¬ (n:Int)<(n:Int) by omega),cond_false]
 exact key
theorem Kb {a B Z W T:List Int} {q:Int} {n:Nat} {x:aO.X0} {fl:Bool} (ha:a.length=n) (hn1:1≤n) (hn:n≤1073741823) (hB:B.length=2) (e0:List.replicate (n+1) (0:Int)=Z) (k2:aO.l0 (a,B,q,(),(),0,()) ((false,Z),())=(true,1,x,((fl,W),()),(),())) (t1:bK.r W=(true,T)):aO.r a B q=(true,T):=by
 have z0:((n:Int)== 0)=false:=beq_eq_false_iff_ne.2 (by omega)
 have z2:(((2:Nat):Int)== 0)=false:=beq_eq_false_iff_ne.2 (by omega)
 have w1:IntKind.i64.wrap ((n:Int)+((2:Nat):Int))=((n+2:Nat):Int):=i64_in _ (by omega)
 have w2:IntKind.i64.wrap (((n+2:Nat):Int) - 1)=((n+1:Nat):Int):=by rw [i64_in _ (by omega)]; omega
 have c1:(ile 0 ((n+1:Nat):Int)&&ile ((n+1:Nat):Int) ((n+1:Nat):Int))=true:=by rw [dm (by omega),dm (Int.le_refl _)]; rfl
 have c2:ile (((n+1:Nat):Int)*((8:Nat):Int)) 70368744177664=true:=dm (by omega)
 unfold aO.r aO.g
 simp only [Go.Own.lt,ha,hB,z0,z2,cond_false,w1,w2,Int.toNat_natCast,e0,c1,c2,Bool.and_self,ai,k2,t1]
theorem Qa (a:List Nat) (b0 b1 q:Nat) (h0:0<q) (hq:q<4611686018427387904) (ha:∀ x∈a,x<q) (hn:a.length≤1073741823) (hne:1≤a.length):aO.r (ints a) [(b0:Int),(b1:Int)] (q:Int)=(true,ints (trm (mulL q a b0 b1 a.length))):=
 Kb (List.length_map _) hne hn rfl (TD a b0 b1 q) (Qb a b0 b1 q a.length h0 hq ha hn rfl) (EZ (mulL q a b0 b1 a.length) (by rw [wR]; omega))
theorem RY (a:List Nat) (b0 b1 q:Nat) (h0:0<q) (hq:q<4611686018427387904) (ha:∀ x∈a,x<q) (hn:a.length≤1073741823):aO.r (ints a) [(b0:Int),(b1:Int)] (q:Int)=(true,ints (trm (mulL q a b0 b1 a.length))):=by
 cases a with
 |nil=>
  have e:trm (mulL q [] b0 b1 0)= []:=by
   have:mulL q [] b0 b1 0= [0]:=by
    show [qU q [] b0 b1 0 0]= [0]
    unfold qU
    rw [if_neg (by omega),if_neg (by omega),Nat.zero_mod]
   rw [this]; rfl
  show aO.r [] _ _=(true,ints (trm (mulL q [] b0 b1 0)))
  rw [e]
  simp only [aO.r,aO.g,Go.Own.lt,List.length_nil,show ((((0:Nat):Int))== 0)=true from rfl,cond_true]
  rfl
 |cons x a=>exact Qa (x::a) b0 b1 q h0 hq ha hn (by simp)
theorem Rp {q:Nat} [NeZero q] (a:List Nat) (b0 b1:Nat):Pol.PE (toF q (mulL q a b0 b1 a.length)) (Pol.lm (Pol.qQ (fz q b0) (toF q a)) (0::Pol.qQ (fz q b1) (toF q a))):=fun k=>by
 rw [Pol.iM,Pol.kZ,gF,gF]
 unfold mulL
 rw [l8]
 have h1:(if k<a.length then a.getD k 0*b0%q else 0)=a.getD k 0*b0%q:=by
  split
  ·rfl
  ·rename_i h; rw [fQ (by omega),Nat.zero_mul,Nat.zero_mod]
 cases k with
 |zero=>
  rw [if_pos (by omega),Pol.kV]
  unfold qU
  rw [h1,if_neg (by omega),iC,Nat.zero_add,iC,nI]; grind
 |succ k=>
  rw [Pol.jd,Pol.kZ,gF]
  have h2:(if 1≤k+1∧k+1≤a.length then a.getD (k+1 - 1) 0*b1%q else 0)=a.getD k 0*b1%q:=by
   rw [Nat.add_sub_cancel]
   split
   ·rfl
   ·rename_i h; rw [fQ (by omega),Nat.zero_mul,Nat.zero_mod]
  have h3:fz q (qU q a b0 b1 a.length (k+1))=fz q b0*fz q (a.getD (k+1) 0)+fz q b1*fz q (a.getD k 0):=by
   unfold qU
   rw [h1,h2,iC,mQ,iC,iC,nI,nI]; grind
  split
  ·exact h3
  ·rename_i h
   rw [← h3]
   unfold qU
   rw [h1,h2,fQ (show a.length≤k+1 by omega),fQ (show a.length≤k by omega),Nat.zero_mul,Nat.zero_mul,Nat.zero_mod,Nat.add_zero,Nat.zero_mod]
theorem Ru {q:Nat} [NeZero q] (a:List Nat) (b0 b1:Nat) (x:Fin q):Pol.ev (toF q (mulL q a b0 b1 a.length)) x=Pol.ev (toF q a) x*(fz q b0+fz q b1*x):=by
 rw [Pol.sI (Rp a b0 b1),Pol.uo,Pol.yB]
 show _+(Pol.ev (Pol.qQ (fz q b1) (toF q a)) x*x+0)=_
 rw [Pol.yB]; grind
end Go.Own
set_option linter.unusedVariables false
set_option linter.unusedSimpArgs false
namespace Go.Own
open Go.IntWalk
def tQ (q:Nat) [NeZero q] (pts:List Nat) (i:Nat):Nat→Fin q→Fin q
 |0,_=>1
 |K+1,x=>if K=i then tQ q pts i K x else tQ q pts i K x*((x - fz q (pts.getD K 0))*fz q (G5 q ((pts.getD i 0+q - pts.getD K 0)%q)))
def Sk (q:Nat) [NeZero q] (pts:List Nat):Prop:=∀ i k,i<pts.length→k<pts.length→k≠i→(fz q (pts.getD i 0) - fz q (pts.getD k 0))*fz q (G5 q ((pts.getD i 0+q - pts.getD k 0)%q))=1
theorem Ac {q:Nat} [NeZero q] {pts:List Nat} (h:Sk q pts) {i:Nat} (hi:i<pts.length):∀ K,K≤pts.length→tQ q pts i K (fz q (pts.getD i 0))=1
 |0,_=>rfl
 |K+1,hK=>by
  have ih:=Ac h hi K (by omega)
  simp only [tQ]
  by_cases e:K=i
  ·rw [if_pos e,ih]
  ·rw [if_neg e,ih,h i K hi hK e]; grind
theorem tO {q:Nat} [NeZero q] {pts:List Nat} {i m:Nat} (hm:m≠i):∀ K,m<K→tQ q pts i K (fz q (pts.getD m 0))=0
 |0,h=>absurd h (Nat.not_lt_zero _)
 |K+1,hK=>by
  simp only [tQ]
  by_cases e:K=m
  ·rw [if_neg (by omega),e]; grind
  ·by_cases e2:K=i
   ·rw [if_pos e2,tO hm K (by omega)]
   ·rw [if_neg e2,tO hm K (by omega)]; grind
section
variable {q:Nat} [NeZero q] (h2:2<q) (hq:q<4611686018427387904) {pts ys:List Nat} (hp:∀ p∈pts,p<q) (hy:∀ y∈ys,y<q) (hl:ys.length=pts.length) (hn:pts.length≤1000) (hI:Sk q pts)
theorem Ir {q:Nat} [NeZero q] (h2:2<q) (hq:q<4611686018427387904) {pts ys:List Nat} (hp:∀ p∈pts,p<q) (hn:pts.length≤1000) (O:List Int) {i:Nat} (hi:i<pts.length) {y:Nat} (hy:y<q) {w:_}
  (hw:w=aQ.l1 (ints pts,ints ys,(q:Int),(),O,(i:Int),ints [y],0,()) ()):
  ∃ one:List Nat,w=(true,3,(ints pts,ints ys,(q:Int),(),O,(i:Int),ints one,(pts.length:Int),()),(),(),())∧(∀ a∈one,a<q)∧one.length≤pts.length∧∀ x:Fin q,Pol.ev (toF q one) x=fz q y*tQ q pts i pts.length x:=by
 have hil:(ints pts).length=pts.length:=List.length_map _
 refine iB (g:=fun rq kn ke kr x y=>aQ.g1 rq kn ke kr x y) hw
  (fun x _=>∃ (K:Nat) (one:List Nat),K≤pts.length∧x=(ints pts,ints ys,(q:Int),(),O,(i:Int),ints one,(K:Int),())∧(∀ a∈one,a<q)∧one.length≤(if i<K then K else K+1)∧∀ x:Fin q,Pol.ev (toF q one) x=fz q y*tQ q pts i K x)
  (fun x _=>pts.length - x.2.2.2.2.2.2.2.1.toNat)
  ⟨0,[y],Nat.zero_le _,rfl,by intro a ha; rw [List.mem_singleton.1 ha]; exact hy,by rw [if_neg (Nat.not_lt_zero _)]; exact Nat.le_refl _,fun x=>by
   show 0*x+fz q y=fz q y*1
   grind⟩ (by show pts.length - ((0:Int)).toNat<(((ints pts).length:Int) - (0:Int)).toNat+1; rw [hil]; omega)
  (Q:=fun w=>∃ one:List Nat,w=(true,3,(ints pts,ints ys,(q:Int),(),O,(i:Int),ints one,(pts.length:Int),()),(),(),())∧(∀ a∈one,a<q)∧one.length≤pts.length∧∀ x:Fin q,Pol.ev (toF q one) x=fz q y*tQ q pts i pts.length x) ?_
 rintro x y2 R ⟨K,one,hK,rfl,ho,hol,hev⟩ hR
 by_cases hlt:K<pts.length
 ·have w1:IntKind.i64.wrap ((K:Int)+1)=((K+1:Nat):Int):=i64_in _ (by omega)
  by_cases e:K=i
  ·have b1:((K:Int) != (i:Int))=false:=by rw [e]; simp
   simp only [aQ.g1,Go.Own.lt,hil,bW (show (K:Int)<(pts.length:Int) by omega),cond_true,b1,cond_false,w1]
   refine hR _ _ ⟨K+1,one,hlt,rfl,ho,?_,fun x=> ?_⟩ ?_
   ·rw [if_pos (by omega)]; rw [if_neg (by omega)] at hol; exact hol
   ·rw [hev x]; simp only [tQ,if_pos e]
   ·show pts.length - (((K+1:Nat):Int)).toNat<pts.length - ((K:Int)).toNat
    omega
  ·have b1:((K:Int) != (i:Int))=true:=bne_iff_ne.2 (by omega)
   obtain ⟨A,hA⟩:∃ A,A=pts.getD i 0:=⟨_,rfl⟩
   obtain ⟨B,hB⟩:∃ B,B=pts.getD K 0:=⟨_,rfl⟩
   have hAq:A<q:=by rw [hA]; exact hp _ (fK hi)
   have hBq:B<q:=by rw [hB]; exact hp _ (fK hlt)
   have g1:(ints pts).getD i 0=(A:Int):=by rw [hA]; exact getD_map hi
   have g2:(ints pts).getD K 0=(B:Int):=by rw [hB]; exact getD_map hlt
   have S1:=P8 A B q (by omega) (by omega) (by omega) hq
   have S2:=P8 0 B q (by omega) (by omega) (by omega) hq
   have I1:=Ue ((A+q - B)%q) q h2 hq
   obtain ⟨by',hby⟩:∃ b,b=G5 q ((A+q - B)%q):=⟨_,rfl⟩
   rw [← hby] at I1
   have M1:=yJ ((0+q - B)%q) by' q (by omega) (by omega)
   have P1:=RY one ((0+q - B)%q*by'%q) by' q (by omega) hq ho (by
    have:one.length≤K+1:=by split at hol<;>omega
    omega)
   have z0:((0:Nat):Int)=0:=rfl
   rw [z0] at S2
   simp only [aQ.g1,Go.Own.lt,hil,bW (show (K:Int)<(pts.length:Int) by omega),cond_true,b1,rng hi,rng hlt,Int.toNat_natCast,g1,g2,S1,I1,S2,bG.gI,M1,P1,ai,w1]
   refine hR _ _ ⟨K+1,_,hlt,rfl,Np (fun a ha=> ?_),?_,fun x=> ?_⟩ ?_
   ·unfold mulL at ha
    obtain ⟨k,_,rfl⟩:=List.mem_map.1 ha
    exact Nat.mod_lt _ (by omega)
   ·have:=Kj (mulL q one ((0+q - B)%q*by'%q) by' one.length)
    rw [wR] at this
    split at hol
    ·rw [if_pos (by omega)]; omega
    ·rw [if_neg (by omega)]; omega
   ·rw [Pol.sI (Qf _),Ru,hev x,iC,nI,K6 0 B (by omega),kE]
    simp only [tQ,if_neg e,← hA,← hB,← hby]
    grind
   ·show pts.length - (((K+1:Nat):Int)).toNat<pts.length - ((K:Int)).toNat
    omega
 ·have:K=pts.length:=by omega
  subst this
  simp only [aQ.g1,Go.Own.lt,hil,cB (show ¬ (pts.length:Int)<(pts.length:Int) by omega),cond_false]
  rw [if_pos hi] at hol
  exact ⟨one,rfl,ho,hol,hev⟩
end
theorem Ka {q:Nat} [NeZero q] (h2:2<q) (hq:q<4611686018427387904) {pts ys:List Nat} (hp:∀ p∈pts,p<q) (hy:∀ y∈ys,y<q) (hl:ys.length=pts.length) (hn:pts.length≤1000) (hI:Sk q pts):
  ∃ R,aQ.r (ints pts) (ints ys) (q:Int)=(true,ints R)∧trm R=R∧(∀ a∈R,a<q)∧R.length≤pts.length∧∀ k,k<pts.length→Pol.ev (toF q R) (fz q (pts.getD k 0))=fz q (ys.getD k 0):=by
 have hil:(ints pts).length=pts.length:=List.length_map _
 have hiy:(ints ys).length=pts.length:=by rw [List.length_map]; exact hl
 obtain ⟨w,hw⟩:∃ w,w=aQ.l0 (ints pts,ints ys,(q:Int),(),[],0,()) ():=⟨_,rfl⟩
 have key:w.1=true∧∃ R,w.2.2.1.2.2.2.2.1=ints R∧trm R=R∧(∀ a∈R,a<q)∧R.length≤pts.length∧∀ k,k<pts.length→Pol.ev (toF q R) (fz q (pts.getD k 0))=fz q (ys.getD k 0):=by
  refine iB (g:=fun rq kn ke kr x y=>aQ.g0 rq kn ke kr x y) hw
   (fun x _=>∃ (i:Nat) (R:List Nat),i≤pts.length∧x=(ints pts,ints ys,(q:Int),(),ints R,(i:Int),())∧trm R=R∧(∀ a∈R,a<q)∧R.length≤pts.length∧∀ k,k<pts.length→Pol.ev (toF q R) (fz q (pts.getD k 0))=if k<i then fz q (ys.getD k 0) else 0)
   (fun x _=>pts.length - x.2.2.2.2.2.1.toNat)
   ⟨0,[],Nat.zero_le _,rfl,rfl,by simp,Nat.zero_le _,fun k _=>by rw [if_neg (Nat.not_lt_zero _)]; rfl⟩ (by show pts.length - ((0:Int)).toNat<(((ints pts).length:Int) - (0:Int)).toNat+1; rw [hil]; omega)
   (Q:=fun w=>w.1=true∧∃ R,w.2.2.1.2.2.2.2.1=ints R∧trm R=R∧(∀ a∈R,a<q)∧R.length≤pts.length∧∀ k,k<pts.length→Pol.ev (toF q R) (fz q (pts.getD k 0))=fz q (ys.getD k 0)) ?_
  rintro x y2 S ⟨i,R,hi,rfl,hR,hRq,hRl,hev⟩ hS
  by_cases hlt:i<pts.length
  ·have w1:IntKind.i64.wrap ((i:Int)+1)=((i+1:Nat):Int):=i64_in _ (by omega)
   obtain ⟨Y,hY⟩:∃ Y,Y=ys.getD i 0:=⟨_,rfl⟩
   have hYq:Y<q:=by rw [hY]; exact hy _ (fK (by omega))
   have g1:(ints ys).getD i 0=(Y:Int):=by rw [hY]; exact getD_map (by omega)
   obtain ⟨v,hv⟩:∃ v,v=aQ.l1 (ints pts,ints ys,(q:Int),(),ints R,(i:Int),ints [Y],0,()) ():=⟨_,rfl⟩
   obtain ⟨one,e,o1,o2,o3⟩:=Ir h2 hq hp hn (ints R) hlt hYq hv
   have hv2:aQ.l1 (ints pts,ints ys,(q:Int),(),ints R,(i:Int),[(Y:Int)],0,()) ()=_:=hv.symm.trans e
   have A1:=R5 R one q (by omega) hq hRq o1 (by omega) (by omega)
   simp only [aQ.g0,Go.Own.lt,hil,hiy,bW (show (i:Int)<(pts.length:Int) by omega),cond_true,rng hlt,Int.toNat_natCast,g1,hv2,A1,ai,w1]
   refine hS _ _ ⟨i+1,_,hlt,rfl,QD _,Np (fun a ha=> ?_),?_,fun k hk=> ?_⟩ ?_
   ·unfold Cg at ha
    obtain ⟨k,_,rfl⟩:=List.mem_map.1 ha
    exact Nat.mod_lt _ (by omega)
   ·have:=Kj (Cg q R one)
    unfold Cg at this ⊢
    rw [List.length_map,List.length_range] at this
    omega
   ·rw [Pol.sI ((Qf _).trans (Sb _ _)),Pol.uo,hev k hk,o3]
    by_cases e2:k=i
    ·subst e2
     rw [if_neg (Nat.lt_irrefl k),if_pos (Nat.lt_succ_self k),Ac hI hlt _ (Nat.le_refl _),hY]; grind
    ·rw [tO e2 _ hk]
     by_cases e3:k<i
     ·rw [if_pos e3,if_pos (by omega)]; grind
     ·rw [if_neg e3,if_neg (by omega)]; grind
   ·show pts.length - (((i+1:Nat):Int)).toNat<pts.length - ((i:Int)).toNat
    omega
  ·have:i=pts.length:=by omega
   subst this
   simp only [aQ.g0,Go.Own.lt,hil,cB (show ¬ (pts.length:Int)<(pts.length:Int) by omega),cond_false]
   exact ⟨trivial,R,rfl,hR,hRq,hRl,fun k hk=>by rw [hev k hk,if_pos hk]⟩
 obtain ⟨k1,R,k2,k3⟩:=key
 refine ⟨R,?_,k3⟩
 simp only [aQ.r,aQ.g,Go.Own.lt,← hw,k1,ai,k2]
def KV (q:Nat):Bool:=(List.range 7).all fun d=>Nat.beq (zi 64 (d+1) (q - 2) q*(d+1)%q) 1&&Nat.beq (zi 64 (q - (d+1)) (q - 2) q*(q - (d+1))%q) 1
theorem EC:KV mM=true:=by kernel_rfl
theorem EB:KV mK=true:=by kernel_rfl
theorem Rj {q:Nat} [NeZero q] (h8:8<q) (hq:q<4611686018427387904) (h:KV q=true) {pts:List Nat} (hp:∀ p∈pts,p≤7) (hd:pts.Nodup):Sk q pts:=by
 intro i k hi hk hki
 have a1:=hp _ (fK hi)
 have a2:=hp _ (fK hk)
 have hne:pts.getD i 0≠pts.getD k 0:=by
  rw [getD_lt hi,getD_lt hk]
  intro e
  exact hki ((List.getElem_inj hd).1 e.symm)
 generalize pts.getD i 0=A at*
 generalize pts.getD k 0=B at*
 have hlt:q - 2<2^64:=by
  have:(2:Nat)^64=18446744073709551616:=by decide
  omega
 have hall:=fun d hd=>List.all_eq_true.1 h d (List.mem_range.2 hd)
 obtain ⟨D,hD⟩:∃ D,D=(A+q - B)%q:=⟨_,rfl⟩
 have hDF:fz q D=fz q A - fz q B:=by rw [hD]; exact K6 A B (by omega)
 have hinv:G5 q D*D%q=1:=by
  rcases Nat.lt_or_ge B A with hc|hc
  ·have e:D=A - B:=by
    rw [hD,show A+q - B=(A - B)+q by omega,Nat.add_mod_right,Nat.mod_eq_of_lt (by omega)]
   have:=hall (A - B - 1) (by omega)
   simp only [Bool.and_eq_true] at this
   have h1:=Nat.eq_of_beq_eq_true this.1
   rw [show A - B - 1+1=D by omega,qE 64 _ _ _ hlt] at h1
   unfold G5
   rw [if_neg (by omega)]; exact h1
  ·have e:D=q - (B - A):=by
    rw [hD,show A+q - B=q - (B - A) by omega,Nat.mod_eq_of_lt (by omega)]
   have:=hall (B - A - 1) (by omega)
   simp only [Bool.and_eq_true] at this
   have h1:=Nat.eq_of_beq_eq_true this.2
   rw [show q - (B - A - 1+1)=D by omega,qE 64 _ _ _ hlt] at h1
   unfold G5
   rw [if_neg (by omega)]; exact h1
 rw [← hD,← hDF,← nI,Nat.mul_comm,← iC,hinv,Bh]
theorem RX (a:List Int) (hl:a.length≤1073741824):dB.r a a=(true,true):=by
 have key:dB.l0 (a,a,false,((0:Nat):Int),()) ()=(true,1,(a,a,false,(a.length:Int),()),(),(false,()),()):=by
  refine bE (g:=fun rq kn ke kr x y=>dB.g0 rq kn ke kr x y) a.length (fun j=>(a,a,false,(j:Int),())) (fun _=>()) _ ?_ ?_ _ 0 (Nat.zero_le _) (by show a.length - 0<((a.length:Int) - ((0:Nat):Int)).toNat+1; omega)
  ·intro j R hj
   have w1:IntKind.i64.wrap ((j:Int)+1)=((j+1:Nat):Int):=i64_in _ (by omega)
   have b1:(a.getD j 0 != a.getD j 0)=false:=by simp
   simp only [dB.g0,Go.Own.lt,bW (show (j:Int)<(a.length:Int) by omega),cond_true,dm (show (0:Int)≤(j:Int) by omega),Bool.and_self,ai,Int.toNat_natCast,b1,cond_false,w1]
  ·intro R
   simp only [dB.g0,Go.Own.lt,cB (show ¬ (a.length:Int)<(a.length:Int) by omega),cond_false]
 have b1:((a.length:Int) != (a.length:Int))=false:=by simp
 have k2:dB.l0 (a,a,false,0,()) ()=_:=key
 simp only [dB.r,dB.g,Go.Own.lt,b1,cond_false,k2,ai,show Nat.beq 1 0=false from rfl]
end Go.Own
