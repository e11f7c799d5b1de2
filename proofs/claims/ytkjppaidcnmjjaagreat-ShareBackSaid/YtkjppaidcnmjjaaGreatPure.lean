/- What is proved: what the printed functions answer, in plain numbers and lists. Conditions: those that each theorem names. -/
import Derived.Test.YtkjppaidcnmjjaaGreatPure0
import Derived.Test.YtkjppaidcnmjjaaGreatG9
set_option linter.unusedVariables false
set_option linter.unusedSimpArgs false
set_option linter.unusedVariables false
set_option linter.unusedSimpArgs false
namespace Go.Own
open Go.IntWalk
def Ri (n f w:Nat):Bool:=Nat.beq (n%2) 1&&Nat.blt 1 n&&Nat.blt n ay&&Nat.blt 0 f&&Nat.blt f ay&&Nat.ble 2 w&&Nat.blt w 65536&&Nat.beq ((n - 1)%f) 0&&Nat.blt n (f*f)&&Nat.beq (zU 256 (zU 256 w ((n - 1)/f) n) f n) 1&&Nat.beq (Nat.gcd ((zU 256 w ((n - 1)/f) n+(n - 1))%n) n) 1
theorem lF {a b:Nat} (h:Nat.blt a b=true):a<b:=Nat.le_of_ble_eq_true h
theorem kC {n f w:Nat} (h:Ri n f w=true):EB n f w:=by
 unfold Ri at h
 simp only [Bool.and_eq_true] at h
 obtain ⟨⟨⟨⟨⟨⟨⟨⟨⟨⟨h1,h2⟩,h3⟩,h4⟩,h5⟩,h6⟩,h7⟩,h8⟩,h9⟩,h10⟩,h11⟩:=h
 have h3:=lF h3; have h5:=lF h5
 have e:(2:Nat)^256=ay:=u6.symm
 have hq:(n - 1)/f<2^256:=by rw [e]; exact Nat.lt_of_le_of_lt (Nat.div_le_self _ _) (Nat.lt_of_le_of_lt (Nat.sub_le _ _) h3)
 have h10:=Nat.eq_of_beq_eq_true h10; have h11:=Nat.eq_of_beq_eq_true h11
 rw [rP 256 _ _ _ hq,rP 256 _ _ _ (by rw [e]; exact h5)] at h10
 rw [rP 256 _ _ _ hq] at h11
 exact ⟨Nat.eq_of_beq_eq_true h1,lF h2,h3,lF h4,h5,Nat.le_of_ble_eq_true h6,lF h7,Nat.eq_of_beq_eq_true h8,lF h9,h10,h11⟩
abbrev fA:Type:=((Option aG)×((Option aG)×Unit))×((List Int)×Unit)
def Grp (gv:fA) (p q g:Nat):Prop:=∃ rp rq i1 i2,gv=((rp,(rq,())),(limbs g,()))∧Rng rp p i1 (ay%p) (ay*ay%p)∧Rng rq q i2 (ay%q) (ay*ay%q)
theorem EH {ps:List (Nat×Nat)} {g p q w:Nat} (h2:2≤ps.length) (h8:ps.length≤8) (hc:fF.r (ps.map fO)=(true,0)) (hpp:p=(ps.getD (ps.length - 1) (0,0)).1) (hqq:q=(ps.getD (ps.length - 2) (0,0)).1)
  (hp:EB p q w) (hqo:q%2=1) (hql:10≤bV q) (hg:g<p) (hg1:1<g) (hpow:g^q%p=1):
  ∃ gv,Grp gv p q g∧iZ.r (ps.map fO,(limbs g,()))=(true,1,(none,0),(0,gv)):=by
 have hpl:=hp.lt
 have hq1:1<q:=by
  rcases Nat.lt_or_ge 1 q with h|h
  ·exact h
  ·have:bV q≤1:=by
    have:q=0∨q=1:=by omega
    rcases this with rfl|rfl<;>decide
   omega
 obtain ⟨rp,i1,hR,hN⟩:=Pd p hpl hp.odd hp.gt
 obtain ⟨rq,i2,hR2,hN2⟩:=Pd q hp.flt hqo hq1
 have n1:eO.r 1=(true,limbs 1):=by rw [ug _ (by decide)]; rfl
 have e0:((0:Int) != 0)=false:=rfl
 have g1:(ps.map fO).getD (ps.length - 1) ([0,0,0,0],(0,()))=fO (ps.getD (ps.length - 1) (0,0)):=getD_map (by omega)
 have g2:(ps.map fO).getD (ps.length - 2) ([0,0,0,0],(0,()))=fO (ps.getD (ps.length - 2) (0,0)):=getD_map (by omega)
 have w1:IntKind.i64.wrap ((ps.length:Int) - 1)=((ps.length - 1:Nat):Int):=by rw [i64_in _ (by omega)]; omega
 have w2:IntKind.i64.wrap ((ps.length:Int) - 2)=((ps.length - 2:Nat):Int):=by rw [i64_in _ (by omega)]; omega
 have hgW:g<ay:=Nat.lt_trans hg hpl
 refine ⟨((rp,(rq,())),(limbs g,())),⟨rp,rq,i1,i2,rfl,hR,hR2⟩,?_⟩
 have i1:(ile 0 ((ps.length - 1:Nat):Int)&&ilt ((ps.length - 1:Nat):Int) (ps.length:Int))=true:=rng (by omega)
 have i2:(ile 0 ((ps.length - 2:Nat):Int)&&ilt ((ps.length - 2:Nat):Int) (ps.length:Int))=true:=rng (by omega)
 simp only [iZ.r,iZ.g,lt,List.length_map,dI (show ¬ (ps.length:Int)<2 by omega),cond_false,hc,ak,e0,w1,w2,i1,i2,Int.toNat_natCast,g1,g2,Am,← hpp,← hqq,hN,hN2,O9 q hp.flt,dI (show ¬ (bV q:Int)<10 by omega),eqZ hgW,decide_eq_false (show ¬ g=0 by omega),n1,eqL hgW (show 1<ay by decide),decide_eq_false (show ¬ g=1 by omega),UI hR hgW,hg,decide_true,Bool.not_true,Pq hR hgW hp.flt,hpow,eqL (show 1<ay by decide) (show 1<ay by decide)]
def nE:List (Nat×Nat):= [(65521,0),(1966023127,2),(1055500680322183127,2)]
def mD:Nat:=316543771439780984
def zY:Nat:=1055500680322183127
def nW:Nat:=1966023127
theorem Jm:fF.r (nE.map fO)=(true,0):=by
 refine EM (by decide) (by decide) (by decide) (by kernel_rfl) rfl ?_
 intro i hi
 have:i=0∨i=1:=by
  have:i+1<3:=hi
  omega
 rcases this with rfl|rfl
 ·exact kC (by kernel_rfl)
 ·exact kC (by kernel_rfl)
theorem AX:∃ gv,Grp gv zY nW mD∧iZ.r (nE.map fO,(limbs mD,()))=(true,1,(none,0),(0,gv)):=by
 have h1:Nat.blt nW (2^256)=true:=by kernel_rfl
 have h2:zU 256 mD nW zY=1:=by kernel_rfl
 have hpow:mD^nW%zY=1:=(rP 256 _ _ _ (lF h1)).symm.trans h2
 have h3:Nat.blt mD zY=true:=by kernel_rfl
 have h4:Nat.blt 1 mD=true:=by kernel_rfl
 have h5:Nat.ble 10 (bV nW)=true:=by kernel_rfl
 have h6:nW%2=1:=by kernel_rfl
 exact EH (ps:=nE) (p:=zY) (q:=nW) (w:=2) (by decide) (by decide) Jm (by kernel_rfl) (by kernel_rfl) (kC (by kernel_rfl)) h6 (Nat.le_of_ble_eq_true h5) (lF h3) (lF h4) hpow
def nD:List (Nat×Nat):= [(64817,0),(1815135269,2),(487269091447081429,2)]
def mr:Nat:=54624333139524128
def zX:Nat:=487269091447081429
def nV:Nat:=1815135269
theorem Jl:fF.r (nD.map fO)=(true,0):=by
 refine EM (by decide) (by decide) (by decide) (by kernel_rfl) rfl ?_
 intro i hi
 have:i=0∨i=1:=by
  have:i+1<3:=hi
  omega
 rcases this with rfl|rfl
 ·exact kC (by kernel_rfl)
 ·exact kC (by kernel_rfl)
theorem AU:∃ gv,Grp gv zX nV mr∧iZ.r (nD.map fO,(limbs mr,()))=(true,1,(none,0),(0,gv)):=by
 have h1:Nat.blt nV (2^256)=true:=by kernel_rfl
 have h2:zU 256 mr nV zX=1:=by kernel_rfl
 have hpow:mr^nV%zX=1:=(rP 256 _ _ _ (lF h1)).symm.trans h2
 have h3:Nat.blt mr zX=true:=by kernel_rfl
 have h4:Nat.blt 1 mr=true:=by kernel_rfl
 have h5:Nat.ble 10 (bV nV)=true:=by kernel_rfl
 have h6:nV%2=1:=by kernel_rfl
 exact EH (ps:=nD) (p:=zX) (q:=nV) (w:=2) (by decide) (by decide) Jl (by kernel_rfl) (by kernel_rfl) (kC (by kernel_rfl)) h6 (Nat.le_of_ble_eq_true h5) (lF h3) (lF h4) hpow
def pW:List (Nat×Nat):= [(65519,0),(1313918027,2),(88175567203779761,2),(6353719225633997551192976661815171,2),(128868735840905246597005622286753383510486359307609845843856143183,2)]
def nR:Nat:=9151157341667469615800997130231454865425018181917904921479972729
def zZ:Nat:=128868735840905246597005622286753383510486359307609845843856143183
def sS:Nat:=6353719225633997551192976661815171
theorem Jo:fF.r (pW.map fO)=(true,0):=by
 refine EM (by decide) (by decide) (by decide) (by kernel_rfl) rfl ?_
 intro i hi
 have:i=0∨i=1∨i=2∨i=3:=by
  have:i+1<5:=hi
  omega
 rcases this with rfl|rfl|rfl|rfl
 ·exact kC (by kernel_rfl)
 ·exact kC (by kernel_rfl)
 ·exact kC (by kernel_rfl)
 ·exact kC (by kernel_rfl)
theorem IX:∃ gv,Grp gv zZ sS nR∧iZ.r (pW.map fO,(limbs nR,()))=(true,1,(none,0),(0,gv)):=by
 have h1:Nat.blt sS (2^256)=true:=by kernel_rfl
 have h2:zU 256 nR sS zZ=1:=by kernel_rfl
 have hpow:nR^sS%zZ=1:=(rP 256 _ _ _ (lF h1)).symm.trans h2
 have h3:Nat.blt nR zZ=true:=by kernel_rfl
 have h4:Nat.blt 1 nR=true:=by kernel_rfl
 have h5:Nat.ble 10 (bV sS)=true:=by kernel_rfl
 have h6:sS%2=1:=by kernel_rfl
 exact EH (ps:=pW) (p:=zZ) (q:=sS) (w:=2) (by decide) (by decide) Jo (by kernel_rfl) (by kernel_rfl) (kC (by kernel_rfl)) h6 (Nat.le_of_ble_eq_true h5) (lF h3) (lF h4) hpow
end Go.Own
set_option linter.unusedVariables false
set_option linter.unusedSimpArgs false
namespace Go.Own
open Go.IntWalk
structure Fld (gx:Option fA) (q:Nat):Prop where
 ex:∃ gv rq inv,gx=some gv∧gv.1.2.1=rq∧Rng rq q inv (ay%q) (ay*ay%q)
theorem Grp.fld {gv:fA} {p q g:Nat} (h:Grp gv p q g):Fld (some gv) q:=by
 obtain ⟨rp,rq,i1,i2,rfl,_,h2⟩:=h
 exact ⟨_,rq,i2,rfl,rfl,h2⟩
theorem Rng.uz {rx m inv one sq} (h:Rng rx m inv one sq):rx.isNone=false:=by rw [h.eq]; rfl
theorem Fld.field {gx:Option fA} {q:Nat} (h:Fld gx q):∃ rq inv,Rng rq q inv (ay%q) (ay*ay%q)∧bU.r gx=(true,rq):=by
 obtain ⟨gv,rq,inv,rfl,e,hR⟩:=h.ex
 refine ⟨rq,inv,hR,?_⟩
 simp only [bU.r,bU.g,lt,Option.isNone_some,cond_false,Option.getD_some,Option.isSome_some,ak,e]
theorem Fld.gt {gx:Option fA} {q:Nat} (h:Fld gx q):1<q:=by obtain ⟨rq,inv,hR,_⟩:=h.field; exact hR.gt
theorem Fld.lt {gx:Option fA} {q:Nat} (h:Fld gx q):q<ay:=by obtain ⟨rq,inv,hR,_⟩:=h.field; exact hR.lt
theorem Ta {gx:Option fA} {q:Nat} (h:Fld gx q):gI.r gx=(true,limbs q):=by
 obtain ⟨rq,inv,hR,hF⟩:=h.field
 simp only [gI.r,gI.g,Go.Own.lt,hF,ak,UG hR]
theorem EK {gx:Option fA} {q:Nat} (h:Fld gx q) {a b:Nat} (ha:a<ay) (hb:b<ay):iI.r gx (limbs a) (limbs b)=(true,limbs ((a+b)%q)):=by
 have:=h.gt
 simp only [iI.r,iI.g,Go.Own.lt,Ta h,ak,Pv a b q ha hb h.lt (by omega)]
theorem Pp {gx:Option fA} {q:Nat} (h:Fld gx q) {a b:Nat} (ha:a<ay) (hb:b<ay):lZ.r gx (limbs a) (limbs b)=(true,limbs ((a%q+(q - b%q))%q)):=by
 have:=h.gt
 simp only [lZ.r,lZ.g,Go.Own.lt,Ta h,ak,Bw a b q ha hb h.lt (by omega)]
theorem EJ {gx:Option fA} {q:Nat} (h:Fld gx q) {a b:Nat} (ha:a<ay) (hb:b<ay):iH.r gx (limbs a) (limbs b)=(true,limbs (a*b%q)):=by
 obtain ⟨rq,inv,hR,hF⟩:=h.field
 simp only [iH.r,iH.g,Go.Own.lt,hF,ak,S9 hR ha hb]
theorem Tc {gx:Option fA} {q:Nat} (h:Fld gx q) {a:Nat} (ha:a<ay) (hg:Nat.gcd a q=1):∃ s,Pk a q s∧oN.r gx (limbs a)=(true,limbs s):=by
 have h1:=h.gt
 rcases Hw a q ha h.lt (by omega) with ⟨_,s,hs,e⟩|⟨hn,_⟩
 ·refine ⟨s,hs,?_⟩
  have e0:((0:Int) != 0)=false:=rfl
  simp only [oN.r,oN.g,Go.Own.lt,Ta h,ak,e,e0,cond_false]
 ·exact absurd hg hn
theorem fold_map {gx:Option fA} {q:Nat} (h:Fld gx q) {x:Nat} (hx:x<ay):∀ (l:List Nat) (w:Nat),w<ay→(∀ a∈l,a<ay)→(l.map limbs).foldl (iG.step gx (limbs x)) (true,limbs w)=(true,limbs (l.foldl (fun w a=>(w*x%q+a)%q) w))
 | [],w,_,_=>rfl
 |a::l,w,hw,hl=>by
  have h0:0<q:=by have:=h.gt; omega
  have h1:w*x%q<ay:=Nat.lt_trans (Nat.mod_lt _ h0) h.lt
  have h2:(w*x%q+a)%q<ay:=Nat.lt_trans (Nat.mod_lt _ h0) h.lt
  have e:iG.step gx (limbs x) (true,limbs w) (limbs a)=(true,limbs ((w*x%q+a)%q)):=by
   simp only [iG.step,Go.Own.lt,EJ h hw hx,EK h h1 (hl a (by simp)),Bool.and_self]
  show (l.map limbs).foldl _ (iG.step gx (limbs x) (true,limbs w) (limbs a))=_
  rw [e,fold_map h hx l _ h2 fun b hb=>hl b (by simp [hb])]
  rfl
def evN (q:Nat) (f:List Nat) (x:Nat):Nat:=f.foldr (fun a w=>(w*x%q+a)%q) 0
theorem NH {f:List Nat}:∀ (l:List (List Int)),(∀ a∈l,a∈f.map limbs)→∃ l':List Nat,l=l'.map limbs∧∀ a∈l',a∈f
 | [],_=>⟨[],rfl,by simp⟩
 |a::l,h=>by
  obtain ⟨l',rfl,h2⟩:=NH l fun b hb=>h b (by simp [hb])
  obtain ⟨b,hb,rfl⟩:=List.mem_map.1 (h a (by simp))
  refine ⟨b::l',rfl,?_⟩
  intro c hc
  rcases List.mem_cons.1 hc with rfl|hc
  ·exact hb
  ·exact h2 c hc
theorem JC {gx:Option fA} {q:Nat} (h:Fld gx q) {f:List Nat} {x:Nat} (hf:∀ a∈f,a<ay) (hl:f.length≤9223372036854775807) (hx:x<ay):iG.r gx (f.map limbs) (limbs x)=(true,limbs (evN q f x)):=by
 unfold iG.r
 have fo:∀ l':List Nat,(∀ a∈l',a∈f)→iG.fold gx (limbs x) (l'.map limbs)=(true,limbs (l'.foldl (fun w a=>(w*x%q+a)%q) 0)):=by
  intro l' hl'
  have:=fold_map h hx l' 0 (by decide) fun a ha=>hf a (hl' a ha)
  rw [eZ] at this
  exact this
 refine Prod.ext ?_ ?_
 ·refine @decide_eq_true _ (Classical.propDecidable _) ⟨by rw [List.length_map]; exact hl,?_⟩
  intro l hm
  obtain ⟨l',rfl,h2⟩:=NH l hm
  rw [fo l' h2]
 ·show (iG.fold gx (limbs x) (f.map limbs).reverse).2=_
  rw [← List.map_reverse,fo f.reverse fun a ha=>List.mem_reverse.1 ha,List.foldl_reverse]
  rfl
theorem vM {q:Nat} (hq:0<q) (f:List Nat) (x:Nat):evN q f x<q:=by
 cases f with
 |nil=>exact hq
 |cons a f=>exact Nat.mod_lt _ hq
theorem KI {a:Nat} (ha:a<ay):lW.r (limbs a)=(true,decide (a=0)):=by
 simp only [lW.r,lW.g,lt,eqZ ha]
def jd (f:List Nat) (k:Int):Nat:=if k<0 then 0 else f.getD k.toNat 0
theorem wS {f:List Nat} (hf:∀ a∈f,a<ay) (k:Int):jd f k<ay:=by
 unfold jd
 split
 ·decide
 ·rcases Nat.lt_or_ge k.toNat f.length with h|h
  ·exact hf _ (jc h)
  ·rw [List.getD_eq_getElem?_getD,List.getElem?_eq_none h]; decide
theorem O8 (f:List Nat) (k:Int):mO.r (f.map limbs) k=(true,limbs (jd f k)):=by
 simp only [mO.r,mO.g,lt,List.length_map]
 unfold jd
 by_cases h0:k<0
 ·rw [if_pos h0,dP h0,eZ]; rfl
 ·rw [if_neg h0,dI h0]
  by_cases h1:(f.length:Int)≤k
  ·have z:f.getD k.toNat 0=0:=by rw [List.getD_eq_getElem?_getD,List.getElem?_eq_none (by omega)]; rfl
   rw [z,eZ,fI h1]; rfl
  ·have g1:(f.map limbs).getD k.toNat [0,0,0,0]=limbs (f.getD k.toNat 0):=getD_map (by omega)
   simp only [qz h1,cond_false,g1,fI (show (0:Int)≤k by omega),dP (show k<(f.length:Int) by omega),Bool.and_self,ak]
end Go.Own
set_option linter.unusedVariables false
set_option linter.unusedSimpArgs false
namespace Go.Own.Pol
section
variable {F:Type} [Lean.Grind.CommRing F]
def cf (l:List F) (n:Nat):F:=l.getD n 0
def ev (l:List F) (x:F):F:=l.foldr (fun a s=>s*x+a) 0
def PE (a b:List F):Prop:=∀ n,cf a n=cf b n
theorem PE.rfl' {a:List F}:PE a a:=fun _=>rfl
theorem PE.symm {a b:List F} (h:PE a b):PE b a:=fun n=>(h n).symm
theorem PE.trans {a b c:List F} (h:PE a b) (h2:PE b c):PE a c:=fun n=>(h n).trans (h2 n)
theorem jv (n:Nat):cf ([]:List F) n=0:=by simp [cf]
theorem lg (a:F) (l:List F):cf (a::l) 0=a:=rfl
theorem je (a:F) (l:List F) (n:Nat):cf (a::l) (n+1)=cf l n:=by simp [cf]
theorem UR {l:List F} {n:Nat} (h:l.length≤n):cf l n=0:=by
 unfold cf; rw [List.getD_eq_getElem?_getD,List.getElem?_eq_none h]; rfl
theorem Kr {l:List F} {x:F} (h:∀ n,cf l n=0):ev l x=0:=by
 induction l with
 |nil=>rfl
 |cons a l ih=>
  have h0:=h 0
  rw [lg] at h0
  have:=ih fun n=>by have:=h (n+1); rwa [je] at this
  show ev l x*x+a=0
  rw [this,h0]; grind
theorem Ba:∀ {a b:List F} {x:F},PE a b→ev a x=ev b x
 | [],b,x,h=>by rw [Kr (l:=b) fun n=>by rw [← h n,jv]]; rfl
 |a::al,[],x,h=>by rw [Kr (l:=a::al) fun n=>by rw [h n,jv]]; rfl
 |a::al,b::bs,x,h=>by
  have h0:a=b:=h 0
  have ih:=Ba (a:=al) (b:=bs) (x:=x) fun n=>by have:=h (n+1); rwa [je,je] at this
  show ev al x*x+a=ev bs x*x+b
  rw [ih,h0]
def qK:List F→List F→List F
 | [],b=>b
 |a::al,[]=>a::al
 |a::al,b::bs=>(a+b)::qK al bs
theorem jh:∀ (a b:List F) (n:Nat),cf (qK a b) n=cf a n+cf b n
 | [],b,n=>by rw [jv]; simp only [qK]; grind
 |a::al,[],n=>by rw [jv]; simp only [qK]; grind
 |a::al,b::bs,0=>rfl
 |a::al,b::bs,n+1=>by simp only [qK,je]; exact jh al bs n
theorem Ja:∀ (a b:List F) (x:F),ev (qK a b) x=ev a x+ev b x
 | [],b,x=>by show ev b x=0+ev b x; grind
 |a::al,[],x=>by show ev (a::al) x=ev (a::al) x+0; grind
 |a::al,b::bs,x=>by
  have:=Ja al bs x
  show ev (qK al bs) x*x+(a+b)=(ev al x*x+a)+(ev bs x*x+b)
  rw [this]; grind
def xD (c:F) (l:List F):List F:=l.map (c* ·)
theorem mF (c:F):∀ (l:List F) (n:Nat),cf (xD c l) n=c*cf l n
 | [],n=>by rw [jv]; show cf ([]:List F) n=_; rw [jv]; grind
 |a::l,0=>rfl
 |a::l,n+1=>by
  rw [je,← mF c l n]
  exact je _ _ _
theorem Oe (c:F) (x:F):∀ (l:List F),ev (xD c l) x=c*ev l x
 | []=>by show (0:F)=c*0; grind
 |a::l=>by
  have:=Oe c x l
  show ev (xD c l) x*x+c*a=c*(ev l x*x+a)
  rw [this]; grind
def Ml (a:F) (l:List F):List F:=qK (0::l) (xD (-a) l)
theorem mG (a:F) (l:List F):cf (Ml a l) 0= -a*cf l 0:=by
 unfold Ml; rw [jh,mF,lg]; grind
theorem kG (a:F) (l:List F) (n:Nat):cf (Ml a l) (n+1)=cf l n - a*cf l (n+1):=by
 unfold Ml; rw [jh,mF,je]; grind
theorem Uz (a:F) (l:List F) (x:F):ev (Ml a l) x=(x - a)*ev l x:=by
 unfold Ml; rw [Ja,Oe]
 show (ev l x*x+0)+_=_
 grind
theorem PE.M {a:F} {u v:List F} (h:PE u v):PE (Ml a u) (Ml a v):=by
 intro n
 cases n with
 |zero=>rw [mG,mG,h 0]
 |succ n=>rw [kG,kG,h n,h (n+1)]
theorem PE.add {a b c d:List F} (h:PE a b) (h2:PE c d):PE (qK a c) (qK b d):=fun n=>by rw [jh,jh,h n,h2 n]
theorem PE.scl {c:F} {a b:List F} (h:PE a b):PE (xD c a) (xD c b):=fun n=>by rw [mF,mF,h n]
theorem TW (a:F) (u v:List F):PE (Ml a (qK u v)) (qK (Ml a u) (Ml a v)):=by
 intro n
 cases n with
 |zero=>rw [jh,mG,mG,mG,jh]; grind
 |succ n=>rw [jh,kG,kG,kG,jh,jh]; grind
theorem TV (a c:F) (u:List F):PE (Ml a (xD c u)) (xD c (Ml a u)):=by
 intro n
 cases n with
 |zero=>rw [mF,mG,mG,mF]; grind
 |succ n=>rw [mF,kG,kG,mF,mF]; grind
theorem M_M (a b:F) (u:List F):PE (Ml a (Ml b u)) (Ml b (Ml a u)):=by
 intro n
 match n with
 |0=>rw [mG,mG,mG,mG]; grind
 |1=>rw [kG a (Ml b u) 0,mG b u,kG b u 0,kG b (Ml a u) 0,mG a u,kG a u 0]; grind
 |n+2=>rw [kG,kG,kG,kG,kG,kG]; grind
def TL (xs:List F) (h:List F):List F:=xs.foldr Ml h
theorem PE.T {u v:List F} (h:PE u v):∀ {xs:List F},PE (TL xs u) (TL xs v)
 | []=>h
 |_::_=>(PE.T h).M
theorem KG (xs:List F) (a:F) (h:List F):TL (xs++ [a]) h=TL xs (Ml a h):=by
 unfold TL; rw [List.foldr_append]; rfl
theorem Ry:∀ (xs:List F) (u v:List F),PE (TL xs (qK u v)) (qK (TL xs u) (TL xs v))
 | [],u,v=>PE.rfl'
 |x::xs,u,v=>(Ry xs u v).M.trans (TW _ _ _)
theorem Rx (c:F):∀ (xs:List F) (u:List F),PE (TL xs (xD c u)) (xD c (TL xs u))
 | [],u=>PE.rfl'
 |x::xs,u=>(Rx c xs u).M.trans (TV _ _ _)
theorem T_M (a:F):∀ (xs:List F) (u:List F),PE (TL xs (Ml a u)) (Ml a (TL xs u))
 | [],u=>PE.rfl'
 |x::xs,u=>(T_M a xs u).M.trans (M_M _ _ _)
def yC (xs:List F) (x:F):F:=xs.foldr (fun a s=>(x - a)*s) 1
theorem Qz (x:F):∀ (xs:List F) (h:List F),ev (TL xs h) x=yC xs x*ev h x
 | [],h=>by show ev h x=1*ev h x; grind
 |a::xs,h=>by
  show ev (Ml a (TL xs h)) x=(x - a)*yC xs x*ev h x
  rw [Uz,Qz x xs h]; grind
def dv (a:F):List F→List F
 | []=> []
 | [_]=> []
 |_::b::t=>ev (b::t) a::dv a (b::t)
theorem Ot (a:F):∀ l:List F,(dv a l).length=l.length - 1
 | []=>rfl
 | [_]=>rfl
 |_::b::t=>by
  have:=Ot a (b::t)
  simp only [dv,List.length_cons] at this ⊢
  omega
theorem Rs (a:F):∀ l:List F,PE l (qK [ev l a] (Ml a (dv a l)))
 | []=>by
  intro n
  rw [jh,jv]
  cases n with
  |zero=>rw [lg,mG]; show (0:F)=0+ -a*cf [] 0; rw [jv]; grind
  |succ n=>rw [je,jv,kG]; show (0:F)=0+(cf [] n - a*cf [] (n+1)); rw [jv,jv]; grind
 | [c]=>by
  intro n
  rw [jh]
  cases n with
  |zero=>rw [lg,lg,mG]; show c=(0*a+c)+ -a*cf [] 0; rw [jv]; grind
  |succ n=>rw [je,je,jv,kG]; show (0:F)=0+(cf [] n - a*cf [] (n+1)); rw [jv,jv]; grind
 |c::b::t=>by
  have ih:=Rs a (b::t)
  intro n
  rw [jh]
  have hd:dv a (c::b::t)=ev (b::t) a::dv a (b::t):=rfl
  cases n with
  |zero=>
   rw [lg,lg,mG,hd,lg]
   show c=(ev (b::t) a*a+c)+ -a*ev (b::t) a
   grind
  |succ n=>
   have hn:=ih n
   rw [jh] at hn
   rw [je,je,jv,kG,hd,je,hn]
   cases n with
   |zero=>rw [lg,lg,mG]; try grind
   |succ n=>rw [je,je,jv,kG]; try grind
theorem Dw {f fk h base fk' base' xs:List F} {a y s c:F} (hf:PE f (qK fk (TL xs h))) (hb:PE base (TL xs [1])) (hy:y=ev f a) (hs:s*ev base a=1) (hc:c=(y - ev fk a)*s)
  (h1:PE fk' (qK fk (xD c base))) (h2:PE base' (Ml a base)):PE f (qK fk' (TL (xs++ [a]) (dv a h)))∧PE base' (TL (xs++ [a]) [1]):=by
 have e1:ev f a=ev fk a+yC xs a*ev h a:=by rw [Ba hf,Ja,Qz]
 have e2:ev base a=yC xs a:=by rw [Ba hb,Qz]; show yC xs a*(0*a+1)=_; grind
 have e3:c=ev h a:=by rw [hc,hy,e1]; rw [e2] at hs; grind
 constructor
 ·intro n
  have k1:=(Rs a h).T (xs:=xs) n
  have k2:=Ry xs [ev h a] (Ml a (dv a h)) n
  have k3:PE [ev h a] (xD (ev h a) [1]):=by
   intro n
   rw [mF]
   cases n with
   |zero=>rw [lg,lg]; grind
   |succ n=>rw [je,je,jv]; grind
  have k4:=(k3.T (xs:=xs)).trans (Rx (ev h a) xs [1]) n
  rw [hf n,jh,k1,k2,jh,k4,mF,← hb n,jh,h1 n,jh,mF,e3,KG]
  grind
 ·rw [KG]
  exact h2.trans (hb.M.trans (T_M a xs [1]).symm)
theorem KF:∀ (xs:List F) (n:Nat),cf (TL xs []) n=0
 | [],n=>jv n
 |x::xs,n=>by
  show cf (Ml x (TL xs [])) n=0
  cases n with
  |zero=>rw [mG,KF xs]; grind
  |succ n=>rw [kG,KF xs,KF xs]; grind
theorem E9 {f fk h xs:List F} (hf:PE f (qK fk (TL xs h))) (hh:h= []):PE f fk:=by
 intro n
 subst hh
 rw [hf n,jh,KF]; grind
end
end Go.Own.Pol
set_option linter.unusedVariables false
set_option linter.unusedSimpArgs false
namespace Go.Own
open Go.IntWalk
def tl (l:List Nat):Nat→Nat
 |0=>0
 |n+1=>bif Nat.beq (l.getD n 0) 0 then tl l n else n+1
theorem Mx (l:List Nat):∀ n,tl l n≤n
 |0=>Nat.le_refl 0
 |n+1=>by
  have:=Mx l n
  simp only [tl]
  cases Nat.beq (l.getD n 0) 0
  ·exact Nat.le_refl _
  ·exact Nat.le_trans this (Nat.le_succ n)
theorem JG (l:List Nat):∀ n k,tl l n≤k→k<n→l.getD k 0=0
 |0,k,_,h=>by omega
 |n+1,k,h1,h2=>by
  simp only [tl] at h1
  cases hb:Nat.beq (l.getD n 0) 0 with
  |false=>rw [hb] at h1; simp only [cond_false] at h1; omega
  |true=>
   rw [hb] at h1
   rcases Nat.lt_or_ge k n with h|h
   ·exact JG l n k h1 h
   ·have:k=n:=by omega
    subst this
    exact Nat.eq_of_beq_eq_true hb
theorem E8 (l:List Nat) (d:Nat) (hz:∀ k,d≤k→l.getD k 0=0):∀ n,tl l n≤d
 |0=>Nat.zero_le d
 |n+1=>by
  simp only [tl]
  cases hb:Nat.beq (l.getD n 0) 0 with
  |true=>exact E8 l d hz n
  |false=>
   rcases Nat.lt_or_ge n d with h|h
   ·exact h
   ·rw [hz n h] at hb; exact absurd hb (by decide)
def rO (q:Nat) (l:List Nat):List Nat:=l.map (· %q)
def sD (q:Nat) (l:List Nat):List Nat:=(rO q l).take (tl (rO q l) l.length)
theorem pF (q:Nat) (l:List Nat):(rO q l).length=l.length:=List.length_map _
theorem P9 {gx:Option fA} {q:Nat} (h:Fld gx q) {l:List Nat}:∀ a∈rO q l,a<ay:=by
 intro a ha
 obtain ⟨b,_,rfl⟩:=List.mem_map.1 ha
 exact Nat.lt_trans (Nat.mod_lt _ (by have:=h.gt; omega)) h.lt
theorem QV {gx:Option fA} {q:Nat} (h:Fld gx q) {l:List Nat} (hl:∀ a∈l,a<ay) (hn:l.length≤1073741824):fB.l0 (gx,(),(),l.map limbs,(l.length:Int),0,()) ((true,[]),())=
  (true,1,(gx,(),(),l.map limbs,(l.length:Int),(l.length:Int),()),((decide (l.length=0),(rO q l).map limbs),()),(),()):=by
 have key:fB.l0 (gx,(),(),l.map limbs,(l.length:Int),((0:Nat):Int),()) ((decide (0=0),(l.take 0).map fun a=>limbs (a%q)),())=
  (true,1,(gx,(),(),l.map limbs,(l.length:Int),(l.length:Int),()),((decide (l.length=0),(l.take l.length).map fun a=>limbs (a%q)),()),(),()):=by
  refine bR (g:=fun rq kn ke kr x y=>fB.g0 rq kn ke kr x y) l.length (fun j=>(gx,(),(),l.map limbs,(l.length:Int),(j:Int),())) (fun j=>((decide (j=0),(l.take j).map fun a=>limbs (a%q)),())) _ ?_ ?_ _ 0 (Nat.zero_le _) (by show l.length - 0<((l.length:Int) - ((0:Nat):Int)).toNat+1; omega)
  ·intro j R hj
   have g1:(l.map limbs).getD j [0,0,0,0]=limbs (l.getD j 0):=getD_map hj
   have fa:=EK h (hl _ (jc hj)) (show 0<ay by decide)
   rw [eZ,Nat.add_zero] at fa
   have c1:nle ((2*((l.take j).length+1)+512)*32) 70368744177664=true:=sF (by rw [List.length_take]; omega)
   have s1:((l.take j).map fun a=>limbs (a%q))++ [limbs (l.getD j 0%q)]=(l.take (j+1)).map fun a=>limbs (a%q):=jU (f:=fun a=>limbs (a%q)) hj
   have d1:decide (j+1=0)=false:=decide_eq_false (by omega)
   have w1:IntKind.i64.wrap ((j:Int)+1)=((j+1:Nat):Int):=i64_in _ (by omega)
   simp only [fB.g0,Go.Own.lt,dP (show (j:Int)<(l.length:Int) by omega),fI (show (0:Int)≤(j:Int) by omega),Bool.and_true,cond_true,Int.toNat_natCast,g1,List.length_map,ak,fa,Bool.and_false,s1,c1,w1,d1]
  ·intro R
   simp only [fB.g0,Go.Own.lt,dI (show ¬ (l.length:Int)<(l.length:Int) by omega),cond_false]
 have e:(rO q l).map limbs=l.map fun a=>limbs (a%q):=by unfold rO; rw [List.map_map]; rfl
 rw [List.take_length] at key
 rw [e]
 exact key
theorem QU {L:List Nat} (hL:∀ a∈L,a<ay) (hn:L.length≤1073741824) (fl:Bool):fB.l1 ((),(0,L.length),()) ((fl,L.map limbs),())=(true,3,((),(0,tl L L.length),()),((fl,L.map limbs),()),(),()):=by
 obtain ⟨w,hw⟩:∃ w,w=fB.l1 ((),(0,L.length),()) ((fl,L.map limbs),()):=⟨_,rfl⟩
 rw [← hw]
 refine mX (g:=fun rq kn ke kr x y=>fB.g1 rq kn ke kr x y) hw (fun x y=>∃ n,n≤L.length∧tl L n=tl L L.length∧x=((),(0,n),())∧y=((fl,L.map limbs),())) (fun x y=>x.2.1.2) ⟨_,Nat.le_refl _,rfl,rfl,rfl⟩ (by show L.length<((L.length:Int) - (0:Int)).toNat+1; omega)
  (Q:=fun w=>w=(true,3,((),(0,tl L L.length),()),((fl,L.map limbs),()),(),())) ?_
 rintro x y R ⟨n,hn1,ht,rfl,rfl⟩ hR
 cases n with
 |zero=>
  simp only [fB.g1,Go.Own.lt,dI (show ¬ (0:Int)<((0:Nat):Int) by omega),cond_false,← ht]
  rfl
 |succ n=>
  have w1:IntKind.i64.wrap (((n+1:Nat):Int) - 1)=(n:Int):=by rw [i64_in _ (by omega)]; omega
  have g1:(L.map limbs).getD n [0,0,0,0]=limbs (L.getD n 0):=getD_map (by omega)
  have b1:decide (L.getD n 0=0)=Nat.beq (L.getD n 0) 0:=by
   cases L.getD n 0<;>rfl
  simp only [fB.g1,Go.Own.lt,dP (show (0:Int)<((n+1:Nat):Int) by omega),cond_true,w1,Int.toNat_natCast,Nat.zero_add,fI (show (0:Int)≤(n:Int) by omega),dP (show (n:Int)<((n+1:Nat):Int) by omega),fI (show (n:Int)≤((n+1:Nat):Int) by omega),Bool.and_self,ak,g1,KI (hL _ (jc (show n<L.length by omega))),b1]
  simp only [tl] at ht
  cases hb:Nat.beq (L.getD n 0) 0 with
  |true=>
   rw [hb] at ht
   simp only [cond_true] at ht ⊢
   exact hR _ _ ⟨n,by omega,ht,rfl,rfl⟩ (by show n<n+1; omega)
  |false=>
   rw [hb] at ht
   simp only [cond_false] at ht ⊢
   rw [← ht]
theorem JA {gx:Option fA} {q:Nat} (h:Fld gx q) {l:List Nat} (hl:∀ a∈l,a<ay) (hn:l.length≤1073741824):fB.r gx (l.map limbs)=(true,1,(),(0,tl (rO q l) l.length,(decide (l.length=0),(rO q l).map limbs))):=by
 obtain ⟨rq,inv,hR,hF⟩:=h.field
 have e:=QU (P9 h (l:=l)) (by rw [pF]; exact hn) (decide (l.length=0))
 rw [pF] at e
 simp only [fB.r,fB.g,Go.Own.lt,hF,ak,hR.uz,cond_false,List.length_map,QV h hl hn,pF,e]
theorem mq {gx:Option fA} {q:Nat} (h:Fld gx q) {β:Type} (f:Nat→β) (j:Nat):(List.range j).map f++ [f j]=(List.range (j+1)).map f:=by
 rw [List.range_succ,List.map_append]; rfl
theorem Mg {gx:Option fA} {q:Nat} (h:Fld gx q) {f:List Nat} (hf:∀ a∈f,a<ay) {by':Nat} (hb:by'<ay) (k:Nat) (hk:k≤1073741824):jY.r (k:Int) gx (f.map limbs) 0 (limbs by')=(true,limbs (jd f (k:Int)*by'%q),gx,f.map limbs,0,limbs by'):=by
 have w1:IntKind.i64.wrap ((k:Int) - 0)=(k:Int):=by rw [Int.sub_zero]; exact oh _ (by omega)
 simp only [jY.r,jY.g,Go.Own.lt,w1,O8,ak,EJ h (wS hf _) hb]
def zN (q:Nat) (f:List Nat) (c:Nat):List Nat:=(List.range f.length).map fun (k:Nat)=>jd f (k:Int)*c%q
theorem Q9 {gx:Option fA} {q:Nat} (h:Fld gx q) {f:List Nat} (hf:∀ a∈f,a<ay) {by':Nat} (hb:by'<ay) (hn:f.length≤1073741824):jw.l0 (gx,(),(),(),(f.length:Int),0,()) ((true,[]),gx,f.map limbs,0,limbs by',())=
  (true,1,(gx,(),(),(),(f.length:Int),(f.length:Int),()),((decide (f.length=0),(zN q f by').map limbs),gx,f.map limbs,0,limbs by',()),(),()):=by
 have key:jw.l0 (gx,(),(),(),(f.length:Int),((0:Nat):Int),()) ((decide (0=0),(List.range 0).map fun (k:Nat)=>limbs (jd f (k:Int)*by'%q)),gx,f.map limbs,0,limbs by',())=
  (true,1,(gx,(),(),(),(f.length:Int),(f.length:Int),()),((decide (f.length=0),(List.range f.length).map fun (k:Nat)=>limbs (jd f (k:Int)*by'%q)),gx,f.map limbs,0,limbs by',()),(),()):=by
  refine bR (g:=fun rq kn ke kr x y=>jw.g0 rq kn ke kr x y) f.length (fun j=>(gx,(),(),(),(f.length:Int),(j:Int),())) (fun j=>((decide (j=0),(List.range j).map fun (k:Nat)=>limbs (jd f (k:Int)*by'%q)),gx,f.map limbs,0,limbs by',())) _ ?_ ?_ _ 0 (Nat.zero_le _) (by show f.length - 0<((f.length:Int) - ((0:Nat):Int)).toNat+1; omega)
  ·intro j R hj
   have c1:nle ((2*(j+1)+512)*32) 70368744177664=true:=sF (by omega)
   have s1:=mq h (fun (k:Nat)=>limbs (jd f (k:Int)*by'%q)) j
   have d1:decide (j+1=0)=false:=decide_eq_false (by omega)
   have w1:IntKind.i64.wrap ((j:Int)+1)=((j+1:Nat):Int):=i64_in _ (by omega)
   simp only [jw.g0,Go.Own.lt,dP (show (j:Int)<(f.length:Int) by omega),cond_true,Mg h hf hb j (by omega),ak,Bool.and_false,s1,List.length_map,List.length_range,c1,w1,d1]
  ·intro R
   simp only [jw.g0,Go.Own.lt,dI (show ¬ (f.length:Int)<(f.length:Int) by omega),cond_false]
 have e:(zN q f by').map limbs=(List.range f.length).map fun (k:Nat)=>limbs (jd f (k:Int)*by'%q):=by unfold zN; rw [List.map_map]; rfl
 rw [e]
 exact key
theorem TD {gx:Option fA} {q:Nat} (h:Fld gx q) {f:Nat→Nat} {n:Nat}:∀ a∈(List.range n).map fun k=>f k%q,a<ay:=by
 intro a ha
 obtain ⟨b,_,rfl⟩:=List.mem_map.1 ha
 exact Nat.lt_trans (Nat.mod_lt _ (by have:=h.gt; omega)) h.lt
theorem PY {gx:Option fA} {q:Nat} (h:Fld gx q) {f:List Nat} {c:Nat}:∀ a∈zN q f c,a<ay:=TD h (f:=fun (k:Nat)=>jd f (k:Int)*c) (n:=f.length)
theorem wh {q:Nat} {f:List Nat} {c:Nat}:(zN q f c).length=f.length:=by unfold zN; simp
theorem O1 {gx:Option fA} {q:Nat} (h:Fld gx q) {f:List Nat} (hf:∀ a∈f,a<ay) {by':Nat} (hb:by'<ay) (hn:f.length≤1073741824):lX.r gx (f.map limbs) (limbs by') 0=(true,(sD q (zN q f by')).map limbs):=by
 have w1:IntKind.i64.wrap ((f.length:Int)+0)=(f.length:Int):=by rw [Int.add_zero]; exact oh _ (by omega)
 have e:=JA h (PY h (f:=f) (c:=by')) (by rw [wh]; exact hn)
 rw [wh] at e
 simp only [lX.r,lX.g,jw.r,jw.g,Go.Own.lt,List.length_map,w1,Q9 h hf hb hn,ak,e,show Nat.beq 1 0=false from rfl,cond_false,List.drop_zero]
 unfold sD
 rw [wh,List.map_take]
def addN (q:Nat) (a b:List Nat):List Nat:=(List.range (max a.length b.length)).map fun (k:Nat)=>(jd a (k:Int)+jd b (k:Int))%q
theorem Bu {q:Nat} {a b:List Nat}:(addN q a b).length=max a.length b.length:=by unfold addN; simp
theorem QT {gx:Option fA} {q:Nat} (h:Fld gx q) {a b:List Nat}:∀ x∈addN q a b,x<ay:=TD h (f:=fun (k:Nat)=>jd a (k:Int)+jd b (k:Int)) (n:=max a.length b.length)
theorem Td {gx:Option fA} {q:Nat} (h:Fld gx q) {a b:List Nat} (ha:∀ x∈a,x<ay) (hb:∀ x∈b,x<ay) (k:Nat):nJ.r (k:Int) gx (a.map limbs) (b.map limbs)=(true,limbs ((jd a (k:Int)+jd b (k:Int))%q),gx,a.map limbs,b.map limbs):=by
 simp only [nJ.r,nJ.g,Go.Own.lt,O8,ak,EK h (wS ha _) (wS hb _)]
theorem Ph {gx:Option fA} {q:Nat} (h:Fld gx q) {a b:List Nat} (ha:∀ x∈a,x<ay) (hb:∀ x∈b,x<ay) {n:Nat} (hn:n≤1073741824):gN.l0 (gx,(),(),(),(n:Int),0,()) ((true,[]),gx,a.map limbs,b.map limbs,())=
  (true,1,(gx,(),(),(),(n:Int),(n:Int),()),((decide (n=0),(List.range n).map fun (k:Nat)=>limbs ((jd a (k:Int)+jd b (k:Int))%q)),gx,a.map limbs,b.map limbs,()),(),()):=by
 have key:gN.l0 (gx,(),(),(),(n:Int),((0:Nat):Int),()) ((decide (0=0),(List.range 0).map fun (k:Nat)=>limbs ((jd a (k:Int)+jd b (k:Int))%q)),gx,a.map limbs,b.map limbs,())=
  (true,1,(gx,(),(),(),(n:Int),(n:Int),()),((decide (n=0),(List.range n).map fun (k:Nat)=>limbs ((jd a (k:Int)+jd b (k:Int))%q)),gx,a.map limbs,b.map limbs,()),(),()):=by
  refine bR (g:=fun rq kn ke kr x y=>gN.g0 rq kn ke kr x y) n (fun j=>(gx,(),(),(),(n:Int),(j:Int),())) (fun j=>((decide (j=0),(List.range j).map fun (k:Nat)=>limbs ((jd a (k:Int)+jd b (k:Int))%q)),gx,a.map limbs,b.map limbs,())) _ ?_ ?_ _ 0 (Nat.zero_le _) (by show n - 0<((n:Int) - ((0:Nat):Int)).toNat+1; omega)
  ·intro j R hj
   have c1:nle ((2*(j+1)+512)*32) 70368744177664=true:=sF (by omega)
   have s1:=mq h (fun (k:Nat)=>limbs ((jd a (k:Int)+jd b (k:Int))%q)) j
   have d1:decide (j+1=0)=false:=decide_eq_false (by omega)
   have w1:IntKind.i64.wrap ((j:Int)+1)=((j+1:Nat):Int):=i64_in _ (by omega)
   simp only [gN.g0,Go.Own.lt,dP (show (j:Int)<(n:Int) by omega),cond_true,Td h ha hb j,ak,Bool.and_false,s1,List.length_map,List.length_range,c1,w1,d1]
  ·intro R
   simp only [gN.g0,Go.Own.lt,dI (show ¬ (n:Int)<(n:Int) by omega),cond_false]
 exact key
theorem SS {gx:Option fA} {q:Nat} (h:Fld gx q) {a b:List Nat} (ha:∀ x∈a,x<ay) (hb:∀ x∈b,x<ay) (hna:a.length≤1073741824) (hnb:b.length≤1073741824):rC.r gx (a.map limbs) (b.map limbs)=(true,1,(),(0,tl (rO q (addN q a b)) (addN q a b).length,(decide ((addN q a b).length=0),(rO q (addN q a b)).map limbs))):=by
 have e:=JA h (QT h (a:=a) (b:=b)) (by rw [Bu]; omega)
 have m1:((if a.length<b.length then b.length else a.length:Nat):Int)=((max a.length b.length:Nat):Int):=by
  congr 1; split<;>omega
 have ml:=Ph h ha hb (n:=max a.length b.length) (by omega)
 have e2:(addN q a b).map limbs=(List.range (max a.length b.length)).map fun (k:Nat)=>limbs ((jd a (k:Int)+jd b (k:Int))%q):=by unfold addN; rw [List.map_map]; rfl
 rw [← e2] at ml
 simp only [rC.r,rC.g,gN.r,gN.g,Go.Own.lt,List.length_map,Kz,m1,ml,ak,e,show Nat.beq 1 0=false from rfl,cond_false]
def mulC (q:Nat) (a b:List Nat) (k n:Nat):Nat:=(List.range n).foldl (fun (s:Nat) (i:Nat)=>(s+jd a (i:Int)*jd b ((k:Int) - (i:Int))%q)%q) 0
theorem Cw {gx:Option fA} {q:Nat} (h:Fld gx q) {a b:List Nat} {k n:Nat}:mulC q a b k (n+1)=(mulC q a b k n+jd a (n:Int)*jd b ((k:Int) - (n:Int))%q)%q:=by
 unfold mulC; rw [List.range_succ,List.foldl_append]; rfl
theorem J2 {gx:Option fA} {q:Nat} (h:Fld gx q) {a b:List Nat} {k n:Nat}:mulC q a b k n<q:=by
 cases n with
 |zero=>have:=h.gt; show 0<q; omega
 |succ n=>rw [Cw h]; exact Nat.mod_lt _ (by have:=h.gt; omega)
theorem Q8 {gx:Option fA} {q:Nat} (h:Fld gx q) {a b:List Nat} (ha:∀ x∈a,x<ay) (hb:∀ x∈b,x<ay) {k:Nat} (hk:k≤1073741824) (hn:a.length≤1073741824):iJ.r (k:Int) (a.map limbs) gx (b.map limbs)=(true,limbs (mulC q a b k a.length),a.map limbs,gx,b.map limbs):=by
 have key:iJ.l0 ((k:Int),(),(),(),(),(),(a.length:Int),((0:Nat):Int),()) ([0,0,0,0],limbs (mulC q a b k 0),a.map limbs,gx,b.map limbs,())=
  (true,1,((k:Int),(),(),(),(),(),(a.length:Int),(a.length:Int),()),([0,0,0,0],limbs (mulC q a b k a.length),a.map limbs,gx,b.map limbs,()),(),()):=by
  refine bR (g:=fun rq kn ke kr x y=>iJ.g0 rq kn ke kr x y) a.length (fun j=>((k:Int),(),(),(),(),(),(a.length:Int),(j:Int),())) (fun j=>([0,0,0,0],limbs (mulC q a b k j),a.map limbs,gx,b.map limbs,())) _ ?_ ?_ _ 0 (Nat.zero_le _) (by show a.length - 0<((a.length:Int) - ((0:Nat):Int)).toNat+1; omega)
  ·intro j R hj
   have g1:(a.map limbs).getD j [0,0,0,0]=limbs (a.getD j 0):=getD_map hj
   have g2:a.getD j 0=jd a (j:Int):=by unfold jd; rw [if_neg (by omega)]; rfl
   have w0:IntKind.i64.wrap ((k:Int) - (j:Int))=(k:Int) - (j:Int):=i64_in _ (by omega)
   have w1:IntKind.i64.wrap ((j:Int)+1)=((j+1:Nat):Int):=i64_in _ (by omega)
   have f1:=EJ h (wS ha (j:Int)) (wS hb ((k:Int) - (j:Int)))
   have f2:=EK h (a:=mulC q a b k j) (b:=jd a (j:Int)*jd b ((k:Int) - (j:Int))%q) (Nat.lt_trans (J2 h) h.lt) (Nat.lt_trans (Nat.mod_lt _ (by have:=h.gt; omega)) h.lt)
   rw [← Cw h] at f2
   simp only [iJ.g0,Go.Own.lt,dP (show (j:Int)<(a.length:Int) by omega),fI (show (0:Int)≤(j:Int) by omega),cond_true,Bool.and_self,Int.toNat_natCast,List.length_map,ak,g1,g2,w0,O8,f1,f2,w1]
  ·intro R
   simp only [iJ.g0,Go.Own.lt,dI (show ¬ (a.length:Int)<(a.length:Int) by omega),cond_false]
 have e0:limbs (mulC q a b k 0)= [0,0,0,0]:=eZ
 rw [e0] at key
 have k2:iJ.l0 ((k:Int),(),(),(),(),(),(a.length:Int),0,()) ([0,0,0,0],[0,0,0,0],a.map limbs,gx,b.map limbs,())=_:=key
 simp only [iJ.r,iJ.g,Go.Own.lt,List.length_map,k2,ak]
def mulN (q:Nat) (a b:List Nat):List Nat:=(List.range (a.length+b.length)).map fun k=>mulC q a b k a.length
theorem FZ {q:Nat} {a b:List Nat}:(mulN q a b).length=a.length+b.length:=by unfold mulN; simp
theorem Ql {gx:Option fA} {q:Nat} (h:Fld gx q) {a b:List Nat}:∀ x∈mulN q a b,x<ay:=by
 intro x hx
 obtain ⟨k,_,rfl⟩:=List.mem_map.1 hx
 exact Nat.lt_trans (J2 h) h.lt
theorem Pg {gx:Option fA} {q:Nat} (h:Fld gx q) {a b:List Nat} (ha:∀ x∈a,x<ay) (hb:∀ x∈b,x<ay) {n:Nat} (hn:n≤1073741824) (hna:a.length≤1073741824):gM.l0 (gx,(),(),(),(n:Int),0,()) ((true,[]),a.map limbs,gx,b.map limbs,())=
  (true,1,(gx,(),(),(),(n:Int),(n:Int),()),((decide (n=0),(List.range n).map fun (k:Nat)=>limbs (mulC q a b k a.length)),a.map limbs,gx,b.map limbs,()),(),()):=by
 have key:gM.l0 (gx,(),(),(),(n:Int),((0:Nat):Int),()) ((decide (0=0),(List.range 0).map fun (k:Nat)=>limbs (mulC q a b k a.length)),a.map limbs,gx,b.map limbs,())=
  (true,1,(gx,(),(),(),(n:Int),(n:Int),()),((decide (n=0),(List.range n).map fun (k:Nat)=>limbs (mulC q a b k a.length)),a.map limbs,gx,b.map limbs,()),(),()):=by
  refine bR (g:=fun rq kn ke kr x y=>gM.g0 rq kn ke kr x y) n (fun j=>(gx,(),(),(),(n:Int),(j:Int),())) (fun j=>((decide (j=0),(List.range j).map fun (k:Nat)=>limbs (mulC q a b k a.length)),a.map limbs,gx,b.map limbs,())) _ ?_ ?_ _ 0 (Nat.zero_le _) (by show n - 0<((n:Int) - ((0:Nat):Int)).toNat+1; omega)
  ·intro j R hj
   have c1:nle ((2*(j+1)+512)*32) 70368744177664=true:=sF (by omega)
   have s1:=mq h (fun (k:Nat)=>limbs (mulC q a b k a.length)) j
   have d1:decide (j+1=0)=false:=decide_eq_false (by omega)
   have w1:IntKind.i64.wrap ((j:Int)+1)=((j+1:Nat):Int):=i64_in _ (by omega)
   simp only [gM.g0,Go.Own.lt,dP (show (j:Int)<(n:Int) by omega),cond_true,Q8 h ha hb (show j≤1073741824 by omega) hna,ak,Bool.and_false,s1,List.length_map,List.length_range,c1,w1,d1]
  ·intro R
   simp only [gM.g0,Go.Own.lt,dI (show ¬ (n:Int)<(n:Int) by omega),cond_false]
 exact key
theorem SI {gx:Option fA} {q:Nat} (h:Fld gx q) {a b:List Nat} (ha:∀ x∈a,x<ay) (hb:∀ x∈b,x<ay) (hn:a.length+b.length≤1073741824):qf.r gx (a.map limbs) (b.map limbs)=(true,(sD q (mulN q a b)).map limbs):=by
 have e:=JA h (Ql h (a:=a) (b:=b)) (by rw [FZ]; omega)
 have ml:=Pg h ha hb (n:=a.length+b.length) hn (by omega)
 have e2:(mulN q a b).map limbs=(List.range (a.length+b.length)).map fun (k:Nat)=>limbs (mulC q a b k a.length):=by unfold mulN; rw [List.map_map]; rfl
 rw [← e2] at ml
 have w1:IntKind.i64.wrap ((a.length:Int)+(b.length:Int))=((a.length+b.length:Nat):Int):=i64_in _ (by omega)
 simp only [qf.r,qf.g,gM.r,gM.g,Go.Own.lt,List.length_map,w1,ml,ak,e,show Nat.beq 1 0=false from rfl,cond_false,List.drop_zero]
 unfold sD
 rw [List.map_take]
end Go.Own
set_option linter.unusedVariables false
set_option linter.unusedSimpArgs false
namespace Go.Own
open Go.IntWalk
section
variable {q:Nat} [NeZero q]
def fz (q:Nat) [NeZero q] (n:Nat):Fin q:=Fin.ofNat q n
theorem lu (a:Nat):fz q (a%q)=fz q a:=by unfold fz; simp [Fin.ext_iff]
theorem vK (a b:Nat):fz q (a+b)=fz q a+fz q b:=by unfold fz; simp [Fin.ext_iff,Fin.val_add]
theorem vJ (a b:Nat):fz q (a*b)=fz q a*fz q b:=by unfold fz; simp [Fin.ext_iff,Fin.val_mul,Nat.mul_mod]
theorem oC:fz q 0=0:=rfl
theorem I8:fz q 1=1:=rfl
theorem Uy:fz q q=0:=by unfold fz; simp [Fin.ext_iff]
theorem Sm (a:Nat):(fz q a).val=a%q:=rfl
theorem GI {a b:Nat} (h:fz q a=fz q b):a%q=b%q:=congrArg Fin.val h
theorem N9 {a b:Nat}:fz q ((a%q+(q - b%q))%q)=fz q a - fz q b:=by
 have hq:0<q:=Nat.pos_of_ne_zero (NeZero.ne q)
 have h1:=Nat.mod_lt b hq
 have h2:fz q (q - b%q)+fz q b=0:=by
  rw [← lu b,← vK,Nat.sub_add_cancel (Nat.le_of_lt h1),Uy]
 rw [lu,vK,lu]
 grind
def toF (q:Nat) [NeZero q] (l:List Nat):List (Fin q):=l.map (fz q)
theorem jH (l:List Nat) (n:Nat):Pol.cf (toF q l) n=fz q (l.getD n 0):=by
 unfold Pol.cf toF
 rcases Nat.lt_or_ge n l.length with h|h
 ·exact getD_map h
 ·rw [List.getD_eq_getElem?_getD,List.getElem?_eq_none (by simpa using h),List.getD_eq_getElem?_getD,List.getElem?_eq_none h]; rfl
theorem xR (f:List Nat) (x:Nat):fz q (evN q f x)=Pol.ev (toF q f) (fz q x):=by
 induction f with
 |nil=>rfl
 |cons a f ih=>
  show fz q ((evN q f x*x%q+a)%q)=Pol.ev (toF q f) (fz q x)*fz q x+fz q a
  rw [lu,vK,lu,vJ,ih]
theorem Og {f g:List Nat} (hq:0<q) (h:Pol.PE (toF q f) (toF q g)) (x:Nat):evN q f x=evN q g x:=by
 have e:fz q (evN q f x)=fz q (evN q g x):=by rw [xR,xR,Pol.Ba h]
 have:=GI e
 rwa [Nat.mod_eq_of_lt (vM hq f x),Nat.mod_eq_of_lt (vM hq g x)] at this
theorem Er (f:List Nat) (n:Nat):jd f (n:Int)=f.getD n 0:=by unfold jd; rw [if_neg (by omega)]; rfl
theorem jk {l:List Nat} {n:Nat} (h:l.length≤n):l.getD n 0=0:=by rw [List.getD_eq_getElem?_getD,List.getElem?_eq_none h]; rfl
theorem Ko (l:List Nat) (n:Nat):fz q ((rO q l).getD n 0)=fz q (l.getD n 0):=by
 rcases Nat.lt_or_ge n l.length with h|h
 ·have:(rO q l).getD n 0=l.getD n 0%q:=getD_map h
  rw [this,lu]
 ·rw [jk (by rw [pF]; exact h),jk h]
theorem getD_take {l:List Nat} {m n:Nat}:(l.take m).getD n 0=if n<m then l.getD n 0 else 0:=by
 simp only [List.getD_eq_getElem?_getD,List.getElem?_take]
 split<;>rfl
theorem JI {L:List Nat} {n:Nat}:(L.take (tl L L.length)).getD n 0=L.getD n 0:=by
 rw [getD_take]
 split
 ·rfl
 ·rename_i h
  rcases Nat.lt_or_ge n L.length with h2|h2
  ·exact (JG L L.length n (by omega) h2).symm
  ·exact (jk h2).symm
theorem SL (l:List Nat):Pol.PE (toF q (rO q l)) (toF q l):=fun n=>by rw [jH,jH,Ko]
theorem ED (l:List Nat):Pol.PE (toF q (sD q l)) (toF q l):=fun n=>by
 rw [jH,jH,← Ko l n]
 congr 1
 unfold sD
 rw [← pF q l]
 exact JI
theorem tL {f:Nat→Nat} {n k:Nat}:((List.range n).map f).getD k 0=if k<n then f k else 0:=by
 split
 ·rename_i h; exact pO h
 ·rename_i h; exact jk (by simpa using h)
theorem SK (f:List Nat) (c:Nat):Pol.PE (toF q (zN q f c)) (Pol.xD (fz q c) (toF q f)):=fun n=>by
 rw [jH,Pol.mF,jH]
 unfold zN
 rw [tL]
 split
 ·rw [lu,vJ,Er]; grind
 ·rename_i h
  rw [jk (by omega),oC]; grind
theorem SQ (a b:List Nat):Pol.PE (toF q (addN q a b)) (Pol.qK (toF q a) (toF q b)):=fun n=>by
 rw [jH,Pol.jh,jH,jH]
 unfold addN
 rw [tL]
 split
 ·rw [lu,vK,Er,Er]
 ·rename_i h
  rw [jk (l:=a) (by omega),jk (l:=b) (by omega),oC]; grind
theorem Kq (a:List Nat) (b k:Nat):∀ n,fz q (mulC q a [b,1] k n)=(if k<n then fz q b*fz q (a.getD k 0) else 0)+(if 1≤k∧k - 1<n then fz q (a.getD (k - 1) 0) else 0)
 |0=>by
  show fz q 0=_
  rw [if_neg (by omega),if_neg (by omega),oC]; grind
 |n+1=>by
  have ih:=Kq a b k n
  have e:mulC q a [b,1] k (n+1)=(mulC q a [b,1] k n+jd a (n:Int)*jd [b,1] ((k:Int) - (n:Int))%q)%q:=by
   unfold mulC; rw [List.range_succ,List.foldl_append]; rfl
  rw [e,lu,vK,lu,vJ,ih,Er]
  have hc:jd [b,1] ((k:Int) - (n:Int))=if n=k then b else if n+1=k then 1 else 0:=by
   unfold jd
   by_cases h1:n=k
   ·subst h1; rw [if_neg (by omega),if_pos rfl,show ((n:Int) - (n:Int)).toNat=0 by omega]; rfl
   ·rw [if_neg h1]
    by_cases h2:n+1=k
    ·rw [if_neg (by omega),if_pos h2,show ((k:Int) - (n:Int)).toNat=1 by omega]; rfl
    ·rw [if_neg h2]
     split
     ·rfl
     ·exact jk (by simp only [List.length_cons,List.length_nil]; omega)
  rw [hc]
  by_cases h1:n=k
  ·subst h1
   rw [if_pos rfl,if_neg (show ¬ n<n by omega),if_pos (show n<n+1 by omega)]
   by_cases h3:1≤n
   ·rw [if_pos ⟨h3,by omega⟩,if_pos ⟨h3,by omega⟩]; grind
   ·rw [if_neg (by omega),if_neg (by omega)]; grind
  ·rw [if_neg h1]
   by_cases h2:n+1=k
   ·subst h2
    rw [if_pos rfl,if_neg (show ¬ n+1<n by omega),if_neg (show ¬ n+1<n+1 by omega),if_neg (by omega),if_pos (by omega),I8,Nat.add_sub_cancel]; grind
   ·rw [if_neg h2,oC]
    by_cases h3:k<n
    ·rw [if_pos h3,if_pos (show k<n+1 by omega)]
     by_cases h4:1≤k
     ·rw [if_pos ⟨h4,by omega⟩,if_pos ⟨h4,by omega⟩]; grind
     ·rw [if_neg (by omega),if_neg (by omega)]; grind
    ·rw [if_neg h3,if_neg (show ¬ k<n+1 by omega),if_neg (by omega),if_neg (by omega)]; grind
theorem SN (a:List Nat) (b:Nat):Pol.PE (toF q (mulN q a [b,1])) (Pol.Ml (-(fz q b)) (toF q a)):=fun n=>by
 rw [jH]
 unfold mulN
 rw [tL,show ([b,1]:List Nat).length=2 from rfl]
 have e:(if n<a.length+2 then mulC q a [b,1] n a.length else 0)=mulC q a [b,1] n a.length∨¬ n<a.length+2:=by
  by_cases h:n<a.length+2
  ·exact .inl (if_pos h)
  ·exact .inr h
 have v:fz q (if n<a.length+2 then mulC q a [b,1] n a.length else 0)=fz q b*fz q (a.getD n 0)+(if 1≤n then fz q (a.getD (n - 1) 0) else 0):=by
  rcases e with e|h
  ·rw [e,Kq]
   by_cases h1:n<a.length
   ·rw [if_pos h1]
    by_cases h2:1≤n
    ·rw [if_pos ⟨h2,by omega⟩,if_pos h2]
    ·rw [if_neg (by omega),if_neg h2]
   ·rw [if_neg h1,jk (l:=a) (n:=n) (by omega),oC]
    by_cases h2:1≤n
    ·rw [if_pos h2]
     by_cases h3:n - 1<a.length
     ·rw [if_pos ⟨h2,h3⟩]; grind
     ·rw [if_neg (by omega),jk (l:=a) (n:=n - 1) (by omega),oC]; grind
    ·rw [if_neg h2,if_neg (by omega)]; grind
  ·rw [if_neg h,jk (l:=a) (n:=n) (by omega),if_pos (by omega),jk (l:=a) (n:=n - 1) (by omega),oC]; grind
 rw [v]
 cases n with
 |zero=>rw [Pol.mG,jH,if_neg (by omega)]; grind
 |succ n=>rw [Pol.kG,jH,jH,if_pos (by omega),Nat.add_sub_cancel]; grind
end
end Go.Own
set_option linter.unusedVariables false
set_option linter.unusedSimpArgs false
namespace Go.Own
open Go.IntWalk
theorem Ms {q a:Nat} [NeZero q] (hq:1<q) (h:∃ s:Fin q,s*fz q a=1):Nat.gcd a q=1:=by
 obtain ⟨s,hs⟩:=h
 have e:s.val*(a%q)%q=1:=by
  have:=congrArg Fin.val hs
  rw [Fin.val_mul,Sm] at this
  rw [this]
  show 1%q=1
  exact Nat.mod_eq_of_lt hq
 rw [Nat.mul_mod_mod] at e
 have h1:Nat.gcd a q∣s.val*a:=Nat.dvd_trans (Nat.gcd_dvd_left a q) (Nat.dvd_mul_left _ _)
 have h2:Nat.gcd a q∣q:=Nat.gcd_dvd_right a q
 have h3:Nat.gcd a q∣s.val*a%q:=(Nat.dvd_mod_iff h2).2 h1
 rw [e] at h3
 exact Nat.dvd_one.1 h3
theorem Gr {q a s:Nat} [NeZero q] (h:Pk a q s):fz q s*fz q a=1:=by
 rw [← vJ,← lu,h.eq,I8]
theorem Ca (q:Nat) (l:List Nat):(sD q l).length≤l.length:=by
 unfold sD; rw [List.length_take,pF]; omega
theorem M6 {q:Nat} (hq:0<q) {l:List Nat}:∀ a∈rO q l,a<q:=by
 intro a ha
 obtain ⟨b,_,rfl⟩:=List.mem_map.1 ha
 exact Nat.mod_lt _ hq
theorem JE {q:Nat} (hq:0<q) {l:List Nat}:∀ a∈sD q l,a<q:=fun a ha=>M6 hq a (List.mem_of_mem_take ha)
def Pt (q:Nat) [NeZero q] (xs:List Nat):Prop:=∀ k,k<xs.length→∃ s:Fin q,s*Pol.yC (toF q (xs.take k)) (fz q (xs.getD k 0))=1
theorem Mf {gx:Option fA} {q:Nat} [NeZero q] (h:Fld gx q) {f xs:List Nat} (hf:∀ a∈f,a<ay) (hx:∀ a∈xs,a<ay) (hfx:f.length≤xs.length) (h32:xs.length≤32) (ha:Pt q xs):
  ∃ (L:List Nat) (n:Nat) (fl:Bool),gP.r gx (xs.map limbs) ((xs.map (evN q f)).map limbs)=(true,1,0,(0,n,0,(fl,L.map limbs)))∧(∀ a∈L,a<q)∧n≤L.length∧n≤f.length∧Pol.PE (toF q f) (toF q (L.take n)):=by
 have hq:=h.gt
 have hqW:=h.lt
 have h0:0<q:=by omega
 have qW:∀ {a},a<q→a<ay:=fun h=>Nat.lt_trans h hqW
 obtain ⟨rq,inv,hR,hF⟩:=h.field
 obtain ⟨w,hw⟩:∃ w,w=gP.l0 (gx,(xs.map (evN q f)).map limbs,(),0,(0,0),[[1,0,0,0]],xs.map limbs,(xs.length:Int),0,()) ((true,[]),()):=⟨_,rfl⟩
 have key:w.1=true∧w.2.1=1∧∃ (L:List Nat) (n:Nat) (fl:Bool),w.2.2.1.2.2.2.2.1=(0,n)∧w.2.2.2.1.1=(fl,L.map limbs)∧(∀ a∈L,a<q)∧n≤L.length∧n≤f.length∧Pol.PE (toF q f) (toF q (L.take n)):=by
  refine mX (g:=fun rq kn ke kr x y=>gP.g0 rq kn ke kr x y) hw
   (fun x y=>∃ (k:Nat) (L:List Nat) (n:Nat) (base:List Nat) (hh:List (Fin q)) (fl:Bool),k≤xs.length∧x=(gx,(xs.map (evN q f)).map limbs,(),0,(0,n),base.map limbs,xs.map limbs,(xs.length:Int),(k:Int),())∧y=((fl,L.map limbs),())∧n=tl L L.length∧(∀ a∈L,a<q)∧(∀ a∈base,a<q)∧base.length≤1+2*k∧n≤1+2*k∧
    Pol.PE (toF q f) (Pol.qK (toF q (L.take n)) (Pol.TL (toF q (xs.take k)) hh))∧Pol.PE (toF q base) (Pol.TL (toF q (xs.take k)) [1])∧hh.length=f.length - k)
   (fun x y=>xs.length - x.2.2.2.2.2.2.2.2.1.toNat)
   ⟨0,[],0,[1],toF q f,true,Nat.zero_le _,rfl,rfl,rfl,by simp,by simp; omega,by simp,by omega,fun n=>by rw [Pol.jh]; show _=Pol.cf [] n+_; rw [Pol.jv]; show _=0+Pol.cf (toF q f) n; grind,fun n=>rfl,by unfold toF; simp⟩
   (by show xs.length - ((0:Int)).toNat<((xs.length:Int) - (0:Int)).toNat+1; omega)
   (Q:=fun w=>w.1=true∧w.2.1=1∧∃ (L:List Nat) (n:Nat) (fl:Bool),w.2.2.1.2.2.2.2.1=(0,n)∧w.2.2.2.1.1=(fl,L.map limbs)∧(∀ a∈L,a<q)∧n≤L.length∧n≤f.length∧Pol.PE (toF q f) (toF q (L.take n))) ?_
  rintro x y R ⟨k,L,n,base,hh,fl,hk,rfl,rfl,hn,hL,hB,hbl,hnl,i1,i2,i3⟩ hR
  by_cases hlt:k<xs.length
  ·have hxk:=hx _ (jc hlt)
   obtain ⟨X,hX⟩:∃ X,X=xs.getD k 0:=⟨_,rfl⟩
   have g1:(xs.map limbs).getD k [0,0,0,0]=limbs X:=by rw [hX]; exact getD_map hlt
   have g2:((xs.map (evN q f)).map limbs).getD k [0,0,0,0]=limbs (evN q f X):=by
    rw [getD_map (d':=0) (by rw [List.length_map]; exact hlt),getD_map (d':=0) hlt,hX]
   rw [← hX] at hxk
   have hfk:∀ a∈L.take n,a<ay:=fun a ha=>qW (hL a (List.mem_of_mem_take ha))
   have hbW:∀ a∈base,a<ay:=fun a ha=>qW (hB a ha)
   have hfl:(L.take n).length≤1+2*k:=by rw [List.length_take]; omega
   have E1:=JC h hbW (by omega) hxk
   have E2:=JC h hfk (by omega) hxk
   obtain ⟨bv,hbv⟩:∃ b,b=evN q base X:=⟨_,rfl⟩
   obtain ⟨fv,hfv⟩:∃ b,b=evN q (L.take n) X:=⟨_,rfl⟩
   obtain ⟨yv,hyv⟩:∃ b,b=evN q f X:=⟨_,rfl⟩
   have bq:bv<q:=by rw [hbv]; exact vM h0 _ _
   have fvq:fv<q:=by rw [hfv]; exact vM h0 _ _
   have yvq:yv<q:=by rw [hyv]; exact vM h0 _ _
   rw [← hbv] at E1; rw [← hfv] at E2; rw [← hyv] at g2
   have eb:fz q bv=Pol.ev (toF q base) (fz q X):=by rw [hbv,xR]
   have efv:fz q fv=Pol.ev (toF q (L.take n)) (fz q X):=by rw [hfv,xR]
   have ey:fz q yv=Pol.ev (toF q f) (fz q X):=by rw [hyv,xR]
   have hu:∃ s:Fin q,s*fz q bv=1:=by
    obtain ⟨s,hs⟩:=ha k hlt
    refine ⟨s,?_⟩
    rw [eb,Pol.Ba i2,Pol.Qz,hX]
    show s*(_*(0*_+1))=1
    rw [← hs]; grind
   have hg:=Ms hq hu
   have hbz:bv≠0:=by rintro rfl; rw [Nat.gcd_zero_left] at hg; omega
   obtain ⟨s,hs,eI⟩:=Tc h (qW bq) hg
   have P0:=KI (qW bq)
   rw [decide_eq_false hbz] at P0
   have S1:=Pp h (qW yvq) (qW fvq)
   obtain ⟨d,hd⟩:∃ d,d=(yv%q+(q - fv%q))%q:=⟨_,rfl⟩
   have dq:d<q:=by rw [hd]; exact Nat.mod_lt _ h0
   rw [← hd] at S1
   have M1:=EJ h (qW dq) (qW hs.lt)
   obtain ⟨c,hc⟩:∃ c,c=d*s%q:=⟨_,rfl⟩
   have cq:c<q:=by rw [hc]; exact Nat.mod_lt _ h0
   rw [← hc] at M1
   have SC:=O1 h hbW (qW cq) (by omega)
   obtain ⟨sc,hsc⟩:∃ z,z=sD q (zN q base c):=⟨_,rfl⟩
   rw [← hsc] at SC
   have hscW:∀ a∈sc,a<ay:=fun a ha=>qW (by rw [hsc] at ha; exact JE h0 a ha)
   have hscl:sc.length≤1+2*k:=by
    have:=Ca q (zN q base c)
    rw [wh,← hsc] at this
    omega
   have AD:=SS h hfk hscW (by omega) (by omega)
   have S2:=Pp h (show 0<ay by decide) hxk
   obtain ⟨nx,hnx⟩:∃ d,d=(0%q+(q - X%q))%q:=⟨_,rfl⟩
   have nxq:nx<q:=by rw [hnx]; exact Nat.mod_lt _ h0
   rw [← hnx,eZ] at S2
   have ML:=SI h hbW (b:= [nx,1]) (by intro a ha; rcases List.mem_cons.1 ha with rfl|ha; exact qW nxq; rcases List.mem_cons.1 ha with rfl|ha; decide; cases ha) (by show base.length+2≤_; omega)
   have e1:([nx,1]:List Nat).map limbs= [limbs nx,[1,0,0,0]]:=rfl
   rw [e1] at ML
   have w1:IntKind.i64.wrap ((k:Int)+1)=((k+1:Nat):Int):=i64_in _ (by omega)
   have et:(List.map limbs L).take n=(L.take n).map limbs:=(List.map_take).symm
   simp only [gP.g0,Go.Own.lt,dP (show (k:Int)<(xs.length:Int) by omega),fI (show (0:Int)≤(k:Int) by omega),cond_true,Bool.and_self,Int.toNat_natCast,List.length_map,ak,g1,g2,E1,P0,cond_false,List.drop_zero,et,E2,S1,eI,M1,SC,AD,show Nat.beq 1 0=false from rfl,S2,ML,w1]
   have ax:toF q (xs.take (k+1))=toF q (xs.take k)++ [fz q X]:=by
    unfold toF
    rw [hX]
    exact (jU (f:=fz q) hlt).symm
   have st:=Pol.Dw (fk':=toF q ((rO q (addN q (L.take n) sc)).take (tl (rO q (addN q (L.take n) sc)) (addN q (L.take n) sc).length))) (base':=toF q (sD q (mulN q base [nx,1]))) (s:=fz q s) (c:=fz q c) i1 i2 ey (by rw [← eb]; exact Gr hs)
    (by rw [hc,lu,vJ,hd,N9,efv])
    (by
     refine (ED (q:=q) (addN q (L.take n) sc)).trans ((SQ _ _).trans (Pol.PE.add Pol.PE.rfl' ?_))
     rw [hsc]
     exact (ED _).trans (SK _ _))
    (by
     refine (ED (q:=q) _).trans ((SN base nx).trans ?_)
     have: -(fz q nx)=fz q X:=by rw [hnx,N9,oC]; grind
     rw [this]
     exact Pol.PE.rfl')
   refine hR _ _ ⟨k+1,rO q (addN q (L.take n) sc),_,sD q (mulN q base [nx,1]),Pol.dv (fz q X) hh,_,hlt,rfl,rfl,by rw [pF],M6 h0,JE h0,?_,?_,?_,?_,?_⟩ ?_
   ·have:=Ca q (mulN q base [nx,1])
    rw [FZ] at this
    have e2:([nx,1]:List Nat).length=2:=rfl
    omega
   ·have:=Mx (rO q (addN q (L.take n) sc)) (addN q (L.take n) sc).length
    rw [Bu] at this
    rw [Bu]
    omega
   ·rw [ax]; exact st.1
   ·rw [ax]; exact st.2
   ·rw [Pol.Ot,i3]; omega
   ·show xs.length - (((k+1:Nat):Int)).toNat<xs.length - ((k:Int)).toNat
    omega
  ·have hkl:k=xs.length:=by omega
   subst hkl
   have hh0:hh= []:=List.length_eq_zero_iff.1 (by omega)
   have hend:=Pol.E9 i1 hh0
   simp only [gP.g0,Go.Own.lt,dI (show ¬ (xs.length:Int)<(xs.length:Int) by omega),cond_false]
   refine ⟨trivial,trivial,L,n,fl,rfl,rfl,hL,by rw [hn]; exact Mx _ _,?_,hend⟩
   rw [hn]
   apply E8
   intro m hm
   have e:=hend m
   rw [jH,jH,jk hm,hn,JI] at e
   have e2:=GI e
   rw [Nat.zero_mod] at e2
   rcases Nat.lt_or_ge m L.length with h5|h5
   ·rw [Nat.mod_eq_of_lt (hL _ (jc h5))] at e2; exact e2.symm
   ·exact jk h5
 obtain ⟨k1,k2,L,n,fl,k3,k4,k5,k6,k7,k8⟩:=key
 refine ⟨L,n,fl,?_,k5,k6,k7,k8⟩
 have c1:((xs.length:Int) != (xs.length:Int))=false:=by simp
 simp only [gP.r,gP.g,Go.Own.lt,hF,ak,hR.uz,cond_false,List.length_map,c1,dI (show ¬ (32:Int)<(xs.length:Int) by omega),← hw,k1,k2,k3,k4,show Nat.beq 1 0=false from rfl]
end Go.Own
set_option linter.unusedVariables false
set_option linter.unusedSimpArgs false
namespace Go.Own
open Go.IntWalk
abbrev qL:Type:=Int×((List Int)×Unit)
def gG (q:Nat) (f:List Nat) (p:Nat):qL:=((p:Int),(limbs (evN q f p),()))
def gy (q:Nat) (f:List Nat) (n:Nat):List qL:=(List.range n).map fun i=>gG q f (i+1)
theorem Rb {gx:Option fA} {q:Nat} (h:Fld gx q) {f:List Nat} (hf:∀ a∈f,a<ay) (hl:f.length≤9223372036854775807) {n:Nat} (hn:n≤1073741824):bZ.l0 (gx,f.map limbs,(),0,(),(n:Int),0,()) ((true,[]),())=
  (true,1,(gx,f.map limbs,(),0,(),(n:Int),(n:Int),()),((decide (n=0),gy q f n),()),(),()):=by
 have key:bZ.l0 (gx,f.map limbs,(),0,(),(n:Int),((0:Nat):Int),()) ((decide (0=0),gy q f 0),())=
  (true,1,(gx,f.map limbs,(),0,(),(n:Int),(n:Int),()),((decide (n=0),gy q f n),()),(),()):=by
  refine bR (g:=fun rq kn ke kr x y=>bZ.g0 rq kn ke kr x y) n (fun j=>(gx,f.map limbs,(),0,(),(n:Int),(j:Int),())) (fun j=>((decide (j=0),gy q f j),())) _ ?_ ?_ _ 0 (Nat.zero_le _) (by show n - 0<((n:Int) - ((0:Nat):Int)).toNat+1; omega)
  ·intro j R hj
   have c1:nle ((2*((gy q f j).length+1)+512)*40) 70368744177664=true:=sF (by unfold gy; rw [List.length_map,List.length_range]; omega)
   have s1:gy q f j++ [(((j+1:Nat):Int),(limbs (evN q f (j+1)),()))]=gy q f (j+1):=mq h (fun i=>gG q f (i+1)) j
   have d1:decide (j+1=0)=false:=decide_eq_false (by omega)
   have w1:IntKind.i64.wrap ((j:Int)+1)=((j+1:Nat):Int):=i64_in _ (by omega)
   have n1:eO.r ((j+1:Nat):Int)=(true,limbs (j+1)):=by rw [ug _ (by omega)]; rfl
   have e1:=JC h hf hl (show j+1<ay by unfold ay; omega)
   simp only [bZ.g0,Go.Own.lt,dP (show (j:Int)<(n:Int) by omega),cond_true,w1,n1,ak,e1,Bool.and_false,s1,c1,d1]
  ·intro R
   simp only [bZ.g0,Go.Own.lt,dI (show ¬ (n:Int)<(n:Int) by omega),cond_false]
 exact key
theorem EL {gx:Option fA} {q:Nat} (h:Fld gx q) {f:List Nat} (hf:∀ a∈f,a<ay) (hl:f.length≤9223372036854775807) {n:Nat} (h1:1≤n) (h7:n≤7):bZ.r gx (f.map limbs) (n:Int)=(true,gy q f n,0):=by
 obtain ⟨rq,inv,hR,hF⟩:=h.field
 simp only [bZ.r,bZ.g,Go.Own.lt,hF,ak,hR.uz,cond_false,dI (show ¬ (n:Int)<1 by omega),dI (show ¬ (7:Int)<(n:Int) by omega),Rb h hf hl (show n≤1073741824 by omega)]
theorem KO {gx:Option fA} {q:Nat} (h:Fld gx q) (f:List (List Int)) {n:Int} (h1:n<1∨7<n):bZ.r gx f n=(true,[],1):=by
 obtain ⟨rq,inv,hR,hF⟩:=h.field
 simp only [bZ.r,bZ.g,Go.Own.lt,hF,ak,hR.uz,cond_false]
 by_cases h2:n<1
 ·simp only [dP h2,cond_true]
 ·simp only [dI h2,cond_false,dP (show (7:Int)<n by omega),cond_true]
theorem Dp {pts:List Nat} (hp:∀ p∈pts,1≤p∧p≤7) (hl:pts.length≤1073741824):jX.r (pts.map fun (p:Nat)=>(p:Int)) 1=(true,false):=by
 have key:bP.l0 (pts.map (fun (p:Nat)=>(p:Int)),(),0,(pts.length:Int),((0:Nat):Int),()) (1,())=(true,1,(pts.map (fun (p:Nat)=>(p:Int)),(),0,(pts.length:Int),(pts.length:Int),()),(1,()),(0,()),(0,())):=by
  refine bR (g:=fun rq kn ke kr x y=>bP.g0 rq kn ke kr x y) pts.length (fun j=>(pts.map (fun (p:Nat)=>(p:Int)),(),0,(pts.length:Int),(j:Int),())) (fun j=>(1,())) _ ?_ ?_ _ 0 (Nat.zero_le _) (by show pts.length - 0<((pts.length:Int) - ((0:Nat):Int)).toNat+1; omega)
  ·intro j R hj
   have g1:(pts.map fun (p:Nat)=>(p:Int)).getD j 0=((pts.getD j 0:Nat):Int):=getD_map hj
   have hb:=hp _ (jc hj)
   have w1:IntKind.i64.wrap ((j:Int)+1)=((j+1:Nat):Int):=i64_in _ (by omega)
   have o1:iX.r ((pts.getD j 0:Nat):Int) 1=(true,false,1):=by
    simp only [iX.r,iX.g,lt,dI (show ¬ ((pts.getD j 0:Nat):Int)<1 by omega),cond_false,dI (show ¬ (7:Int)<((pts.getD j 0:Nat):Int) by omega)]
   simp only [bP.g0,lt,dP (show (j:Int)<(pts.length:Int) by omega),fI (show (0:Int)≤(j:Int) by omega),cond_true,Bool.and_self,Int.toNat_natCast,List.length_map,ak,g1,o1,cond_false,w1]
  ·intro R
   simp only [bP.g0,lt,dI (show ¬ (pts.length:Int)<(pts.length:Int) by omega),cond_false]
 have k2:bP.l0 (pts.map (fun (p:Nat)=>(p:Int)),(),0,(pts.length:Int),0,()) (1,())=_:=key
 simp only [jX.r,jX.g,fJ.r,fJ.g,bP.r,bP.g,lt,List.length_map,k2,ak,show Nat.beq 1 0=false from rfl,cond_false,qz (show ¬ (0:Int)≤ -1 by decide)]
theorem Kj {l:List Nat} (h:l.Pairwise (· < ·)) {i j:Nat} (hij:i<j) (hj:j<l.length):l.getD i 0<l.getD j 0:=by
 rw [getD_lt hj,getD_lt (Nat.lt_trans hij hj)]
 exact List.pairwise_iff_getElem.1 h i j _ _ hij
theorem Mh {pts:List Nat} (h:pts.Pairwise (· < ·)) (hl:pts.length≤1073741824) (fl:Bool):bF.r (fl,pts.map fun (p:Nat)=>(p:Int))=(true,pts.map fun (p:Nat)=>(p:Int)):=by
 simp only [bF.r,bF.g,lt,List.length_map]
 by_cases h2:(pts.length:Int)<2
 ·simp only [dP h2,cond_true]
 ·have key:bF.l0 ((),(),((0+1:Nat):Int),()) ((fl,pts.map fun (p:Nat)=>(p:Int)),())=(true,1,((),(),((pts.length - 1+1:Nat):Int),()),((fl,pts.map fun (p:Nat)=>(p:Int)),()),((0,0),()),((true,[]),())):=by
   refine bR (g:=fun rq kn ke kr x y=>bF.g0 rq kn ke kr x y) (pts.length - 1) (fun j=>((),(),((j+1:Nat):Int),())) (fun j=>((fl,pts.map fun (p:Nat)=>(p:Int)),())) _ ?_ ?_ _ 0 (Nat.zero_le _) (by show pts.length - 1 - 0<(((pts.map fun (p:Nat)=>(p:Int)).length:Int) - ((0+1:Nat):Int)).toNat+1; rw [List.length_map]; omega)
   ·intro j R hj
    have g1:(pts.map fun (p:Nat)=>(p:Int)).getD (j+1) 0=((pts.getD (j+1) 0:Nat):Int):=getD_map (by omega)
    have g2:(pts.map fun (p:Nat)=>(p:Int)).getD j 0=((pts.getD j 0:Nat):Int):=getD_map (by omega)
    have hlt:=Kj h (show j<j+1 by omega) (by omega)
    have w0:IntKind.i64.wrap (((j+1:Nat):Int) - 1)=(j:Int):=by rw [i64_in _ (by omega)]; omega
    have w1:IntKind.i64.wrap (((j+1:Nat):Int)+1)=((j+1+1:Nat):Int):=i64_in _ (by omega)
    have e1:(((pts.getD (j+1) 0:Nat):Int)== ((pts.getD j 0:Nat):Int))=false:=by
     rw [beq_eq_false_iff_ne]; omega
    simp only [bF.g0,lt,List.length_map,dP (show ((j+1:Nat):Int)<(pts.length:Int) by omega),dP (show (j:Int)<(pts.length:Int) by omega),fI (show (0:Int)≤((j+1:Nat):Int) by omega),fI (show (0:Int)≤(j:Int) by omega),cond_true,Bool.and_self,ak,Int.toNat_natCast,g1,w0,g2,e1,cond_false,w1]
   ·intro R
    simp only [bF.g0,lt,List.length_map,dI (show ¬ ((pts.length - 1+1:Nat):Int)<(pts.length:Int) by omega),cond_false]
  have k2:bF.l0 ((),(),1,()) ((fl,pts.map fun (p:Nat)=>(p:Int)),())=_:=key
  simp only [dI h2,cond_false,k2,ak,show Nat.beq 1 0=false from rfl]
theorem KZ {pts:List Nat} (h:pts.Pairwise (· < ·)):JL (pts.map fun (p:Nat)=>(p:Int))=pts.map fun (p:Nat)=>(p:Int):=by
 unfold JL
 apply List.mergeSort_of_pairwise
 rw [List.pairwise_map]
 exact h.imp fun hab=>by simp; omega
theorem KE {pts:List Nat} (h:pts.Pairwise (· < ·)) (hl:pts.length≤1073741824):lV.r (pts.map fun (p:Nat)=>(p:Int))=(true,false):=by
 cases pts with
 |nil=>decide
 |cons p pts=>
  have c1:nle ((2*(0+(p::pts).length)+512)*8) 70368744177664=true:=sF (by omega)
  have c2:nlt (p::pts).length 4611686018427387904=true:=Tz (by omega)
  have e1:((p::pts).map fun (p:Nat)=>(p:Int)).isEmpty=false:=rfl
  simp only [lV.r,lV.g,iB.r,iB.g,lt,e1,Bool.not_false,cond_false,List.length_map,c1,c2,ak,KZ h,Mh h hl,dI (show ¬ ((p::pts).length:Int)<((p::pts).length:Int) by omega)]
end Go.Own
set_option linter.unusedVariables false
set_option linter.unusedSimpArgs false
namespace Go.Own
open Go.IntWalk
theorem Cq {q:Nat} [NeZero q] (x:Fin q):∀ (xs:List (Fin q)),(∀ a∈xs,∃ s:Fin q,s*(x - a)=1)→∃ s:Fin q,s*Pol.yC xs x=1
 | [],_=>⟨1,by show (1:Fin q)*1=1; grind⟩
 |a::xs,h=>by
  obtain ⟨s,hs⟩:=h a (by simp)
  obtain ⟨t,ht⟩:=Cq x xs fun b hb=>h b (by simp [hb])
  refine ⟨s*t,?_⟩
  show s*t*((x - a)*Pol.yC xs x)=1
  grind
theorem NV {q d:Nat} [NeZero q] (hq:1<q) (hqW:q<ay) (hd:d<ay) (h:Nat.gcd d q=1):∃ s:Fin q,s*fz q d=1:=by
 rcases Hw d q hd hqW (by omega) with ⟨_,s,hs,_⟩|⟨hn,_⟩
 ·exact ⟨fz q s,Gr hs⟩
 ·exact absurd h hn
def Small (q:Nat):Prop:=∀ d,1≤d→d≤6→Nat.gcd d q=1
theorem Md {q:Nat} [NeZero q] (hq:1<q) (hqW:q<ay) (hs:Small q) {pts:List Nat} (hp:∀ p∈pts,1≤p∧p≤7) (ha:pts.Pairwise (· < ·)):Pt q pts:=by
 intro k hk
 apply Cq
 intro a hm
 obtain ⟨p,hpm,rfl⟩:=List.mem_map.1 hm
 obtain ⟨i,hi,rfl⟩:=List.mem_take_iff_getElem.1 hpm
 have hik:i<k:=by omega
 have hlt:=Kj ha hik hk
 have h1:=hp _ (jc hk)
 have h2:=hp _ (jc (show i<pts.length by omega))
 rw [getD_lt (show i<pts.length by omega)] at hlt h2
 obtain ⟨s,hs2⟩:=NV hq hqW (show pts.getD k 0 - pts[i]<ay by unfold ay; omega) (hs (pts.getD k 0 - pts[i]) (by omega) (by omega))
 refine ⟨s,?_⟩
 have e:fz q (pts.getD k 0)=fz q (pts.getD k 0 - pts[i])+fz q pts[i]:=by rw [← vK,Nat.sub_add_cancel (Nat.le_of_lt hlt)]
 rw [e]
 grind
theorem oW {α β:Type} {f:α→β} {l:List α} {j:Nat} {d:α} {v:β} (h:j<l.length) (hv:v=f (l.getD j d)):(l.take j).map f++ [v]=(l.take (j+1)).map f:=by
 rw [hv]; exact jU h
theorem O4 {gx:Option fA} {q:Nat} [NeZero q] (h:Fld gx q) {f pts:List Nat} (hp:∀ p∈pts,1≤p∧p≤7) (hn:pts.length≤1073741824) (deg:Int):bQ.l0 (gx,deg,pts.map (gG q f),(),0,(),(),(),pts.map (gG q f),(pts.length:Int),0,()) ((true,[]),(true,[]),(true,[]),())=
  (true,1,(gx,deg,pts.map (gG q f),(),0,(),(),(),pts.map (gG q f),(pts.length:Int),(pts.length:Int),()),((decide (pts.length=0),pts.map fun (p:Nat)=>(p:Int)),(decide (pts.length=0),pts.map limbs),(decide (pts.length=0),(pts.map (evN q f)).map limbs),()),(),()):=by
 have key:bQ.l0 (gx,deg,pts.map (gG q f),(),0,(),(),(),pts.map (gG q f),(pts.length:Int),((0:Nat):Int),()) ((decide (0=0),(pts.take 0).map fun (p:Nat)=>(p:Int)),(decide (0=0),(pts.take 0).map limbs),(decide (0=0),(pts.take 0).map fun p=>limbs (evN q f p)),())=
  (true,1,(gx,deg,pts.map (gG q f),(),0,(),(),(),pts.map (gG q f),(pts.length:Int),(pts.length:Int),()),((decide (pts.length=0),(pts.take pts.length).map fun (p:Nat)=>(p:Int)),(decide (pts.length=0),(pts.take pts.length).map limbs),(decide (pts.length=0),(pts.take pts.length).map fun p=>limbs (evN q f p)),()),(),()):=by
  refine bR (g:=fun rq kn ke kr x y=>bQ.g0 rq kn ke kr x y) pts.length (fun j=>(gx,deg,pts.map (gG q f),(),0,(),(),(),pts.map (gG q f),(pts.length:Int),(j:Int),())) (fun j=>((decide (j=0),(pts.take j).map fun (p:Nat)=>(p:Int)),(decide (j=0),(pts.take j).map limbs),(decide (j=0),(pts.take j).map fun p=>limbs (evN q f p)),())) _ ?_ ?_ _ 0 (Nat.zero_le _) (by show pts.length - 0<((pts.length:Int) - ((0:Nat):Int)).toNat+1; omega)
  ·intro j R hj
   have g1:(pts.map (gG q f)).getD j (0,([0,0,0,0],()))=gG q f (pts.getD j 0):=getD_map hj
   have g2:(gG q f (pts.getD j 0)).1=((pts.getD j 0:Nat):Int):=rfl
   have g3:(gG q f (pts.getD j 0)).2.1=limbs (evN q f (pts.getD j 0)):=rfl
   have hb:=hp _ (jc hj)
   have n1:eO.r ((pts.getD j 0:Nat):Int)=(true,limbs (pts.getD j 0)):=by rw [ug _ (by omega)]; rfl
   have c1:nle ((2*((pts.take j).length+1)+512)*8) 70368744177664=true:=sF (by rw [List.length_take]; omega)
   have c2:nle ((2*((pts.take j).length+1)+512)*32) 70368744177664=true:=sF (by rw [List.length_take]; omega)
   have s1:((pts.take j).map fun (p:Nat)=>(p:Int))++ [((pts.getD j 0:Nat):Int)]=(pts.take (j+1)).map fun (p:Nat)=>(p:Int):=oW (f:=fun (p:Nat)=>(p:Int)) hj rfl
   have s2:((pts.take j).map limbs)++ [limbs (pts.getD j 0)]=(pts.take (j+1)).map limbs:=oW (f:=limbs) hj rfl
   have s3:((pts.take j).map fun p=>limbs (evN q f p))++ [limbs (evN q f (pts.getD j 0))]=(pts.take (j+1)).map fun p=>limbs (evN q f p):=oW (f:=fun p=>limbs (evN q f p)) hj rfl
   have d1:decide (j+1=0)=false:=decide_eq_false (by omega)
   have w1:IntKind.i64.wrap ((j:Int)+1)=((j+1:Nat):Int):=i64_in _ (by omega)
   simp only [bQ.g0,Go.Own.lt,dP (show (j:Int)<(pts.length:Int) by omega),fI (show (0:Int)≤(j:Int) by omega),cond_true,Bool.and_self,Int.toNat_natCast,List.length_map,ak,g1,g2,g3,Bool.and_false,s1,c1,n1,s2,c2,s3,w1,d1]
  ·intro R
   simp only [bQ.g0,Go.Own.lt,dI (show ¬ (pts.length:Int)<(pts.length:Int) by omega),cond_false]
 have e:(pts.map (evN q f)).map limbs=pts.map fun p=>limbs (evN q f p):=by rw [List.map_map]; rfl
 rw [List.take_length] at key
 rw [e]
 exact key
theorem Ht {gx:Option fA} {q:Nat} [NeZero q] (h:Fld gx q) {f pts:List Nat} (hp:∀ p∈pts,1≤p∧p≤7) (ha:pts.Pairwise (· < ·)) (hn:pts.length≤7) {d:Nat} (hd:d<7) (hf:pts.length≤d):bQ.r gx (d:Int) (pts.map (gG q f))=(true,0,3,(0,0,0,(true,[]))):=by
 obtain ⟨rq,inv,hR,hF⟩:=h.field
 simp only [bQ.r,bQ.g,Go.Own.lt,List.length_map,O4 h hp (show pts.length≤1073741824 by omega),ak,hF,hR.uz,cond_false,dI (show ¬ (d:Int)<0 by omega),qz (show ¬ (7:Int)≤(d:Int) by omega),Dp hp (show pts.length≤1073741824 by omega),KE ha (show pts.length≤1073741824 by omega),fI (show (pts.length:Int)≤(d:Int) by omega),cond_true]
theorem yc {gx:Option fA} {q:Nat} [NeZero q] (h:Fld gx q) (hs:Small q) {f pts:List Nat} (hfW:∀ a∈f,a<ay) (hp:∀ p∈pts,1≤p∧p≤7) (ha:pts.Pairwise (· < ·)) (hn:pts.length≤7) {d:Nat} (hd:d<7) (hf:d<pts.length) (hff:f.length≤pts.length):
  ∃ (L:List Nat) (n:Nat) (fl:Bool),(∀ a∈L,a<q)∧n≤L.length∧n≤f.length∧Pol.PE (toF q f) (toF q (L.take n))∧
   bQ.r gx (d:Int) (pts.map (gG q f))=if d+1<n then (true,0,4,(0,0,0,(true,[]))) else (true,1,0,(0,n,0,(fl,L.map limbs))):=by
 obtain ⟨rq,inv,hR,hF⟩:=h.field
 obtain ⟨L,n,fl,e,h1,h2,h3,h4⟩:=Mf h hfW (xs:=pts) (fun a hm=>by have:=hp a hm; unfold ay; omega) hff (by omega) (Md h.gt h.lt hs hp ha)
 refine ⟨L,n,fl,h1,h2,h3,h4,?_⟩
 have w1:IntKind.i64.wrap ((d:Int)+1)=((d+1:Nat):Int):=i64_in _ (by omega)
 have e0:((0:Int) != 0)=false:=rfl
 simp only [bQ.r,bQ.g,Go.Own.lt,List.length_map,O4 h hp (show pts.length≤1073741824 by omega),ak,hF,hR.uz,cond_false,dI (show ¬ (d:Int)<0 by omega),qz (show ¬ (7:Int)≤(d:Int) by omega),Dp hp (show pts.length≤1073741824 by omega),KE ha (show pts.length≤1073741824 by omega),qz (show ¬ (pts.length:Int)≤(d:Int) by omega),e,show Nat.beq 1 0=false from rfl,e0,w1]
 by_cases hc:d+1<n
 ·rw [if_pos hc]
  simp only [dP (show ((d+1:Nat):Int)<(n:Int) by omega),cond_true]
 ·rw [if_neg hc]
  simp only [dI (show ¬ ((d+1:Nat):Int)<(n:Int) by omega),cond_false]
theorem zJ {q:Nat} (h:(List.range 6).all (fun d=>Nat.beq (Nat.gcd (d+1) q) 1)=true):Small q:=by
 intro d h1 h6
 have:=List.all_eq_true.1 h (d - 1) (List.mem_range.2 (by omega))
 rw [Nat.sub_add_cancel h1] at this
 exact Nat.eq_of_beq_eq_true this
theorem vW:Small nW:=zJ (by kernel_rfl)
theorem vV:Small nV:=zJ (by kernel_rfl)
theorem DC:Small sS:=zJ (by kernel_rfl)
end Go.Own
set_option linter.unusedVariables false
set_option linter.unusedSimpArgs false
namespace Go.Own
open Go.IntWalk
theorem EG:eY.r=(true,((),(limbs mD,())),(false,nE.map fO)):=by kernel_rfl
theorem EF:eX.r=(true,((),(limbs mr,())),(false,nD.map fO)):=by kernel_rfl
theorem KM:gQ.r=(true,((),(limbs nR,())),(false,pW.map fO)):=by kernel_rfl
theorem O7:iY.r (nE.map fO,(limbs mD,()))=(true,limbs nW):=by kernel_rfl
theorem O6:iY.r (nD.map fO,(limbs mr,()))=(true,limbs nV):=by kernel_rfl
theorem JM (which:Int):∃ q gx,(q=nW∨q=nV)∧Fld gx q∧dL.r which=(true,gx,(q:Int),true):=by
 obtain ⟨g1,h1,e1⟩:=AX
 obtain ⟨g2,h2,e2⟩:=AU
 have l1:=Pj nW (by decide)
 have l2:=Pj nV (by decide)
 rw [if_pos (by decide)] at l1 l2
 have z:((0:Int)== 0)=true:=rfl
 obtain ⟨b,hb⟩:∃ b,b=(eB .i64 (· &&& ·) which (1:Int)== 1):=⟨_,rfl⟩
 cases b with
 |true=>
  refine ⟨nV,some g2,.inr rfl,h2.fld,?_⟩
  simp only [dL.r,dL.g,fZ.r,fZ.g,lt,← hb,cond_true,eX.fT,EF,ak,e2,show Nat.beq 1 0=false from rfl,cond_false,O6,l2,z]
 |false=>
  refine ⟨nW,some g1,.inl rfl,h1.fld,?_⟩
  simp only [dL.r,dL.g,fZ.r,fZ.g,lt,← hb,cond_false,eY.fT,EG,ak,e1,show Nat.beq 1 0=false from rfl,O7,l1,z]
theorem NA (n:Nat) (h:n<9223372036854775808):bA.r (n:Int)=(true,limbs n):=by
 have:=Pn (n:Int) (by omega)
 simp only [bA.r,bA.g,lt,this,ak,Int.toNat_natCast]
theorem BA (a:List qL) (hl:a.length≤1073741824):bD.r a a=(true,true):=by
 have key:bD.l0 (a,a,false,((0:Nat):Int),()) ()=(true,1,(a,a,false,(a.length:Int),()),(),(false,()),()):=by
  refine bR (g:=fun rq kn ke kr x y=>bD.g0 rq kn ke kr x y) a.length (fun j=>(a,a,false,(j:Int),())) (fun j=>()) _ ?_ ?_ _ 0 (Nat.zero_le _) (by show a.length - 0<((a.length:Int) - ((0:Nat):Int)).toNat+1; omega)
  ·intro j R hj
   have w1:IntKind.i64.wrap ((j:Int)+1)=((j+1:Nat):Int):=i64_in _ (by omega)
   simp only [bD.g0,lt,dP (show (j:Int)<(a.length:Int) by omega),fI (show (0:Int)≤(j:Int) by omega),cond_true,Bool.and_self,ak,Gt,Bool.not_true,cond_false,w1]
  ·intro R
   simp only [bD.g0,lt,dI (show ¬ (a.length:Int)<(a.length:Int) by omega),cond_false]
 have k2:bD.l0 (a,a,false,0,()) ()=_:=key
 have c1:((a.length:Int) != (a.length:Int))=false:=by simp
 simp only [bD.r,bD.g,lt,c1,cond_false,k2,ak,show Nat.beq 1 0=false from rfl]
theorem O3 (a:List (List Int)) (hl:a.length≤1073741824):bN.r a a=(true,true):=by
 have key:bN.l0 (a,a,false,((0:Nat):Int),()) ()=(true,1,(a,a,false,(a.length:Int),()),(),(false,()),()):=by
  refine bR (g:=fun rq kn ke kr x y=>bN.g0 rq kn ke kr x y) a.length (fun j=>(a,a,false,(j:Int),())) (fun j=>()) _ ?_ ?_ _ 0 (Nat.zero_le _) (by show a.length - 0<((a.length:Int) - ((0:Nat):Int)).toNat+1; omega)
  ·intro j R hj
   have w1:IntKind.i64.wrap ((j:Int)+1)=((j+1:Nat):Int):=i64_in _ (by omega)
   simp only [bN.g0,lt,dP (show (j:Int)<(a.length:Int) by omega),fI (show (0:Int)≤(j:Int) by omega),cond_true,Bool.and_self,ak,Gt,Bool.not_true,cond_false,w1]
  ·intro R
   simp only [bN.g0,lt,dI (show ¬ (a.length:Int)<(a.length:Int) by omega),cond_false]
 have k2:bN.l0 (a,a,false,0,()) ()=_:=key
 have c1:((a.length:Int) != (a.length:Int))=false:=by simp
 simp only [bN.r,bN.g,lt,c1,cond_false,k2,ak,show Nat.beq 1 0=false from rfl]
theorem Rk {q:Nat} [NeZero q] (hq:5<q) {L:List Nat} {n:Nat} (h1:∀ a∈L,a<q) (h2:n≤L.length) (h3:n≤2) (h4:Pol.PE (toF q [5,2]) (toF q (L.take n))):n=2∧L.take n= [5,2]:=by
 have e0:=GI ((jH [5,2] 0).symm.trans ((h4 0).trans (jH (L.take n) 0)))
 have e1:=GI ((jH [5,2] 1).symm.trans ((h4 1).trans (jH (L.take n) 1)))
 have hq':∀ k,(L.take n).getD k 0<q:=by
  intro k
  rcases Nat.lt_or_ge k (L.take n).length with h|h
  ·exact h1 _ (List.mem_of_mem_take (jc h))
  ·rw [jk h]; omega
 rw [Nat.mod_eq_of_lt (hq' 0),Nat.mod_eq_of_lt (show ([5,2]:List Nat).getD 0 0<q by show 5<q; exact hq)] at e0
 rw [Nat.mod_eq_of_lt (hq' 1),Nat.mod_eq_of_lt (show ([5,2]:List Nat).getD 1 0<q by show 2<q; omega)] at e1
 have hlen:(L.take n).length=n:=by rw [List.length_take]; omega
 have hn:n=2:=by
  rcases Nat.lt_or_ge 1 n with h|h
  ·omega
  ·rw [jk (l:=L.take n) (n:=1) (by omega)] at e1; exact absurd e1 (by decide)
 refine ⟨hn,?_⟩
 obtain ⟨l,hl⟩:∃ l,l=L.take n:=⟨_,rfl⟩
 rw [← hl] at e0 e1 hlen ⊢
 rw [hn] at hlen
 match l,hlen with
 | [a,b],_=>
  have e0':5=a:=e0
  have e1':2=b:=e1
  rw [← e0',← e1']
theorem KA:aI.r=(true,true):=by
 obtain ⟨q,gx,hq,hF,hs⟩:=JM 0
 have hsm:Small q:=by rcases hq with rfl|rfl; exact vW; exact vV
 have hd:gy q [5,2] 3= [(1,(limbs 7,())),(2,(limbs 9,())),(3,(limbs 11,()))]:=by rcases hq with rfl|rfl<;>kernel_rfl
 have hq5:11<q:=by rcases hq with rfl|rfl<;>decide
 haveI:NeZero q:=⟨by omega⟩
 have of5:=NA 5 (by decide)
 have of2:=NA 2 (by decide)
 have of7:=NA 7 (by decide)
 have of9:=NA 9 (by decide)
 have of11:=NA 11 (by decide)
 have h52:∀ a∈ [5,2],a<ay:=by intro a ha; rcases List.mem_cons.1 ha with rfl|ha; decide; rcases List.mem_cons.1 ha with rfl|ha; decide; cases ha
 have D3:=EL hF (f:= [5,2]) h52 (by decide) (n:=3) (by decide) (by decide)
 rw [hd] at D3
 have p2:([2,3]:List Nat).map (gG q [5,2])= [(2,(limbs 9,())),(3,(limbs 11,()))]:=by rcases hq with rfl|rfl<;>kernel_rfl
 have p3:([1,2,3]:List Nat).map (gG q [5,2])= [(1,(limbs 7,())),(2,(limbs 9,())),(3,(limbs 11,()))]:=by rcases hq with rfl|rfl<;>kernel_rfl
 obtain ⟨L,n,fl,a1,a2,a3,a4,a5⟩:=yc hF hsm (f:= [5,2]) (pts:= [2,3]) h52 (by decide) (by decide) (by decide) (d:=1) (by decide) (by decide) (by decide)
 obtain ⟨L2,n2,fl2,b1,b2,b3,b4,b5⟩:=yc hF hsm (f:= [5,2]) (pts:= [1,2,3]) h52 (by decide) (by decide) (by decide) (d:=0) (by decide) (by decide) (by decide)
 obtain ⟨hn,hL⟩:=Rk (by omega) a1 a2 a3 a4
 obtain ⟨hn2,hL2⟩:=Rk (by omega) b1 b2 b3 b4
 rw [if_neg (by omega),p2] at a5
 rw [if_pos (by omega),p3] at b5
 have S1:=BA [(1,(limbs 7,())),(2,(limbs 9,())),(3,(limbs 11,()))] (by decide)
 have S2:=O3 [limbs 5,limbs 2] (by decide)
 have e1:((L.map limbs).drop 0).take n= [limbs 5,limbs 2]:=by rw [List.drop_zero,← List.map_take,hL]; rfl
 have c1:(ile (1:Int) (([(1,(limbs 7,())),(2,(limbs 9,())),(3,(limbs 11,()))]:List qL).length:Int)&&ile (([(1,(limbs 7,())),(2,(limbs 9,())),(3,(limbs 11,()))]:List qL).length:Int) (([(1,(limbs 7,())),(2,(limbs 9,())),(3,(limbs 11,()))]:List qL).length:Int))=true:=rfl
 have t1:(([(1,(limbs 7,())),(2,(limbs 9,())),(3,(limbs 11,()))]:List qL).drop 1).take ((([(1,(limbs 7,())),(2,(limbs 9,())),(3,(limbs 11,()))]:List qL).length:Int).toNat - 1)= [(2,(limbs 9,())),(3,(limbs 11,()))]:=rfl
 have z0:((0:Int) != 0)=false:=rfl
 have z1:((0:Int)== 0)=true:=rfl
 have z4:((4:Int)== 4)=true:=rfl
 have m52:([5,2]:List Nat).map limbs= [limbs 5,limbs 2]:=rfl
 rw [m52] at D3
 have D3':bZ.r gx [limbs 5,limbs 2] 3=_:=D3
 have a5':bQ.r gx 1 [(2,(limbs 9,())),(3,(limbs 11,()))]=_:=a5
 have b5':bQ.r gx 0 [(1,(limbs 7,())),(2,(limbs 9,())),(3,(limbs 11,()))]=_:=b5
 have f5:bA.r 5=(true,limbs 5):=of5
 have f2:bA.r 2=(true,limbs 2):=of2
 have f7:bA.r 7=(true,limbs 7):=of7
 have f9:bA.r 9=(true,limbs 9):=of9
 have f11:bA.r 11=(true,limbs 11):=of11
 simp only [aI.r,aI.g,lt,dL.fT,bA.fT,bZ.fT,bQ.fT,bD.fT,bN.fT,hs,f5,f2,f7,f9,f11,D3',ak,Bool.not_true,cond_false,z0,S1,c1,t1,a5',show Nat.beq 1 0=false from rfl,b5',show Nat.beq 0 0=true from rfl,cond_true,e1,S2,z1,z4]
end Go.Own
set_option linter.unusedVariables false
set_option linter.unusedSimpArgs false
namespace Go.Own
open Go.IntWalk
def d16 (n i:Nat):Nat:=n/2^(16*i)%65536
theorem nC (n i:Nat):d16 n i<65536:=Nat.mod_lt _ (by decide)
theorem rZ (n i t:Nat):(d16 n i).testBit t=(decide (t<16)&&n.testBit (16*i+t)):=by
 unfold d16
 rw [show (65536:Nat)=2^16 by decide,Nat.testBit_mod_two_pow,Nat.testBit_div_two_pow,Nat.add_comm]
def fM (n:Nat):List Int:=(List.range 32).map fun i=>(d16 n i:Int)
theorem oL {n i:Nat} (h:i<32):(fM n).getD i 0=(d16 n i:Int):=pO h
theorem TJ (n:Nat):(fM n).length=32:=by unfold fM; simp
abbrev yT:Nat:=13407807929942597099574024998205846127479365820592393377723561443721764030073546976801874298166903427690031858186486050853753882811946569946433649006084096
theorem Pz:yT=2^512:=by
 refine Eq.trans ?_ (JS 256 512 rfl).symm
 rw [← u6]; decide
theorem UB {n i:Nat} (hn:n<yT) (h:32≤i):d16 n i=0:=by
 unfold d16
 have h5:=Nat.pow_le_pow_right (n:=2) (by decide) (show 512≤16*i by omega)
 rw [← Pz] at h5
 rw [Nat.div_eq_of_lt (Nat.lt_of_lt_of_le hn h5)]
theorem Dn (x:Nat):x&&& 65535=x%65536:=by
 have:=Nat.and_two_pow_sub_one_eq_mod x 16
 exact this
theorem NK (n k:Nat):limb n (k/4)/2^(16*(k%4))%65536=d16 n k:=by
 apply Nat.eq_of_testBit_eq
 intro t
 rw [show (65536:Nat)=2^16 by decide,Nat.testBit_mod_two_pow,Nat.testBit_div_two_pow,iy,rZ]
 have e:64*(k/4)+(t+16*(k%4))=16*k+t:=by omega
 rw [e]
 by_cases h:t<16
 ·have:t+16*(k%4)<64:=by omega
  simp [h,this]
 ·simp [h]
theorem Oy {lo hi k:Nat} (h:k<16):d16 (hi*ay+lo) k=d16 lo k:=by
 unfold d16
 have e:ay=2^(256 - 16*k)*2^(16*k):=by rw [u6,← Nat.pow_add,Nat.sub_add_cancel (by omega)]
 rw [e,← Nat.mul_assoc,Nat.add_comm,Nat.add_mul_div_right _ _ (Nat.two_pow_pos _)]
 have e2:2^(256 - 16*k)=2^(240 - 16*k)*65536:=by rw [show (65536:Nat)=2^16 by decide,← Nat.pow_add]; congr 1; omega
 rw [e2,← Nat.mul_assoc,Nat.add_mul_mod_self_right]
theorem Oz {lo hi k:Nat} (hl:lo<ay):d16 (hi*ay+lo) (16+k)=d16 hi k:=by
 unfold d16
 have e:2^(16*(16+k))=ay*2^(16*k):=by rw [u6,← Nat.pow_add]; congr 1; omega
 rw [e,← Nat.div_div_eq_div_mul,Nat.add_comm,Nat.add_mul_div_right _ _ (by decide),Nat.div_eq_of_lt hl,Nat.zero_add]
theorem Ru (n k:Nat) (hk:k<16):eB .u64 (· &&& ·) ((limb n (k/4):Int).fdiv (2^(min (16*(k%4)) 64))) (65535:Int)=(d16 n k:Int):=by
 have h1:=aX n (k/4)
 rw [Nat.min_eq_left (by omega),sV,wQ]
 have:=xP (limb n (k/4)/2^(16*(k%4))) 65535 (Nat.lt_of_le_of_lt (Nat.div_le_self _ _) h1) (by decide)
 rw [show (65535:Int)=((65535:Nat):Int) from rfl,this,Dn,NK]
def qI (n j:Nat):List Int:=(List.range 32).map fun i=>if i<j∨(16≤i∧i<16+j) then (d16 n i:Int) else 0
theorem Ov (n:Nat):qI n 0=List.replicate 32 0:=by
 unfold qI
 apply List.ext_getElem
 ·simp
 ·intro i h1 h2
  rw [List.getElem_map,List.getElem_range,List.getElem_replicate,if_neg (by omega)]
theorem LW (n:Nat):qI n 16=fM n:=by
 unfold qI fM
 apply List.ext_getElem
 ·simp
 ·intro i h1 h2
  simp at h1 ⊢
  intro h h3; omega
theorem Jf (n j:Nat) (hj:j<16):((qI n j).set j (d16 n j:Int)).set (16+j) (d16 n (16+j):Int)=qI n (j+1):=by
 unfold qI
 rw [qR (g:=fun i=>if i=j∨(i<j∨(16≤i∧i<16+j)) then (d16 n i:Int) else 0) (by omega) (by rw [if_pos (.inl rfl)]) (by intro k _ hk; simp [hk])]
 apply qR (by omega)
 ·rw [if_pos (by omega)]
 ·intro k _ hk
  by_cases h:k=j∨(k<j∨(16≤k∧k<16+j))
  ·rw [if_pos h,if_pos (by omega)]
  ·rw [if_neg h,if_neg (by omega)]
theorem Rz (lo hi:Nat) (hl:lo<ay):dQ.r (limbs lo) (limbs hi)=(true,fM (hi*ay+lo)):=by
 obtain ⟨n,hn⟩:∃ n,n=hi*ay+lo:=⟨_,rfl⟩
 have key:dQ.l0 ((),(),(),(),((0:Nat):Int),()) (limbs lo,limbs hi,List.replicate 32 0,qI n 0,())=(true,1,((),(),(),(),16,()),(limbs lo,limbs hi,List.replicate 32 0,qI n 16,()),(),()):=by
  refine bR (g:=fun rq kn ke kr x y=>dQ.g0 rq kn ke kr x y) 16 (fun j=>((),(),(),(),(j:Int),())) (fun j=>(limbs lo,limbs hi,List.replicate 32 0,qI n j,())) _ ?_ ?_ _ 0 (Nat.zero_le _) (by show 16 - 0<((16:Int) - ((0:Nat):Int)).toNat+1; omega)
  ·intro j R hj
   have a1:(j:Int).tdiv 4=((j/4:Nat):Int):=sK j 4
   have a2:(j:Int).tmod 4=((j%4:Nat):Int):=uO j 4
   have a3:IntKind.i64.wrap ((j/4:Nat):Int)=((j/4:Nat):Int):=oh _ (by omega)
   have a4:IntKind.i64.wrap ((16:Int)*((j%4:Nat):Int))=((16*(j%4):Nat):Int):=by rw [i64_in _ (by omega)]; omega
   have a5:IntKind.i64.wrap ((16:Int)+(j:Int))=((16+j:Nat):Int):=by rw [i64_in _ (by omega)]; omega
   have a6:IntKind.i64.wrap ((j:Int)+1)=((j+1:Nat):Int):=i64_in _ (by omega)
   have b1:IntKind.i64.wrap (d16 lo j:Int)=(d16 n j:Int):=by rw [oh _ (Nat.lt_trans (nC _ _) (by decide)),hn,Oy hj]
   have b2:IntKind.i64.wrap (d16 hi j:Int)=(d16 n (16+j):Int):=by rw [oh _ (Nat.lt_trans (nC _ _) (by decide)),hn,Oz hl]
   simp only [dQ.g0,lt,dP (show (j:Int)<16 by omega),cond_true,a1,a2,a3,fI (show (0:Int)≤((j/4:Nat):Int) by omega),dP (show ((j/4:Nat):Int)<4 by omega),Bool.and_self,ak,Int.toNat_natCast,aR lo (j/4) (by omega),aR hi (j/4) (by omega),a4,dI (show ¬ ((16*(j%4):Nat):Int)<0 by omega),Bool.not_false,Ru lo j hj,Ru hi j hj,b1,b2,fI (show (0:Int)≤(j:Int) by omega),dP (show (j:Int)<32 by omega),a5,fI (show (0:Int)≤((16+j:Nat):Int) by omega),dP (show ((16+j:Nat):Int)<32 by omega),Jf n j hj,a6]
  ·intro R
   simp only [dQ.g0,lt,dI (show ¬ ((16:Nat):Int)<16 by decide),cond_false]
   rfl
 rw [Ov,LW] at key
 have k2:dQ.l0 ((),(),(),(),0,()) (limbs lo,limbs hi,List.replicate 32 0,List.replicate 32 0,())=_:=key
 simp only [dQ.r,dQ.g,lt,k2,ak,← hn]
theorem KU {a B one:Nat} (hB:0<B):(2*a+one)/B=2*(a/B)+(2*(a%B)+one)/B:=by
 have e:2*a+one=(2*(a%B)+one)+B*(2*(a/B)):=by
  have h:=Nat.div_add_mod a B
  have h2:B*(2*(a/B))=2*(B*(a/B)):=Nat.mul_left_comm _ _ _
  rw [h2]
  generalize B*(a/B)=p at*
  omega
 rw [e,Nat.add_mul_div_left _ _ hB,Nat.add_comm]
theorem E5 {a B one:Nat} (hB:0<B):(2*(a%(B*65536))+one)/(B*65536)=(2*(a/B%65536)+(2*(a%B)+one)/B)/65536:=by
 rw [Nat.mod_mul]
 rw [← Nat.div_div_eq_div_mul]
 congr 1
 have e:2*(a%B+B*(a/B%65536))+one=(2*(a%B)+one)+B*(2*(a/B%65536)):=by
  have h2:B*(2*(a/B%65536))=2*(B*(a/B%65536)):=Nat.mul_left_comm _ _ _
  rw [h2]
  generalize B*(a/B%65536)=p at*
  omega
 rw [e,Nat.add_mul_div_left _ _ hB,Nat.add_comm]
def j3 (a one j:Nat):Nat:=(2*(a%2^(16*j))+one)/2^(16*j)
theorem vk (j:Nat):2^(16*(j+1))=2^(16*j)*65536:=by rw [show (65536:Nat)=2^16 by decide,← Nat.pow_add]; congr 1
theorem GU (a one j:Nat):j3 a one (j+1)=(2*d16 a j+j3 a one j)/65536:=by
 unfold j3 d16
 rw [vk,E5 (Nat.two_pow_pos _)]
theorem OA (a one j:Nat):d16 (2*a+one) j=(2*d16 a j+j3 a one j)%65536:=by
 unfold j3 d16
 rw [KU (Nat.two_pow_pos _)]
 generalize a/2^(16*j)=h
 generalize (2*(a%2^(16*j))+one)/2^(16*j)=c
 omega
theorem LZ {a one j:Nat} (h:one≤1):j3 a one j≤1:=by
 unfold j3
 have h1:=Nat.mod_lt a (Nat.two_pow_pos (16*j))
 have:=(Nat.div_lt_iff_lt_mul (Nat.two_pow_pos (16*j)) (x:=2*(a%2^(16*j))+one) (y:=2)).2 (by omega)
 omega
def nA (n j:Nat):List Int:=(List.range 32).map fun i=>if i<j then (d16 n i:Int) else 0
theorem GQ (n:Nat):nA n 0=List.replicate 32 0:=by
 unfold nA
 apply List.ext_getElem
 ·simp
 ·intro i h1 h2
  rw [List.getElem_map,List.getElem_range,List.getElem_replicate,if_neg (by omega)]
theorem Df (n:Nat):nA n 32=fM n:=by
 unfold nA fM
 apply List.ext_getElem
 ·simp
 ·intro i h1 h2
  simp at h1 ⊢
  intro h; omega
theorem vO (n j:Nat) (hj:j<32):(nA n j).set j (d16 n j:Int)=nA n (j+1):=by
 unfold nA
 apply qR hj
 ·rw [if_pos (by omega)]
 ·intro k _ hk
  by_cases h:k<j
  ·rw [if_pos h,if_pos (by omega)]
  ·rw [if_neg h,if_neg (by omega)]
theorem Me (a one:Nat) (h1:one≤1):dm.r (fM a) (one:Int)=(true,fM (2*a+one)):=by
 obtain ⟨n,hn⟩:∃ n,n=2*a+one:=⟨_,rfl⟩
 have key:dm.l0 ((),(),(),(j3 a one 0:Int),((0:Nat):Int),()) (fM a,List.replicate 32 0,nA n 0,())=(true,1,((),(),(),(j3 a one 32:Int),32,()),(fM a,List.replicate 32 0,nA n 32,()),(),()):=by
  refine bR (g:=fun rq kn ke kr x y=>dm.g0 rq kn ke kr x y) 32 (fun j=>((),(),(),(j3 a one j:Int),(j:Int),())) (fun j=>(fM a,List.replicate 32 0,nA n j,())) _ ?_ ?_ _ 0 (Nat.zero_le _) (by show 32 - 0<((32:Int) - ((0:Nat):Int)).toNat+1; omega)
  ·intro j R hj
   have hd:=nC a j
   have hc:=LZ (a:=a) (j:=j) h1
   have a1:IntKind.i64.wrap ((2:Int)*(d16 a j:Int))=((2*d16 a j:Nat):Int):=by rw [i64_in _ (by omega)]; omega
   have a2:IntKind.i64.wrap (((2*d16 a j:Nat):Int)+(j3 a one j:Int))=((2*d16 a j+j3 a one j:Nat):Int):=by rw [i64_in _ (by omega)]; omega
   have a3:eB .i64 (· &&& ·) ((2*d16 a j+j3 a one j:Nat):Int) (65535:Int)=(d16 n j:Int):=by
    have:=AR (2*d16 a j+j3 a one j) 65535 (by omega) (by decide)
    rw [show (65535:Int)=((65535:Nat):Int) from rfl,this,Dn,hn,OA]
   have a4:((2*d16 a j+j3 a one j:Nat):Int).fdiv (2^16)=(j3 a one (j+1):Int):=by
    rw [sV,wQ,GU]
   have a5:IntKind.i64.wrap ((j:Int)+1)=((j+1:Nat):Int):=i64_in _ (by omega)
   simp only [dm.g0,lt,dP (show (j:Int)<32 by omega),fI (show (0:Int)≤(j:Int) by omega),cond_true,Bool.and_self,ak,Int.toNat_natCast,oL hj,a1,a2,a3,a4,vO n j hj,a5]
  ·intro R
   simp only [dm.g0,lt,dI (show ¬ ((32:Nat):Int)<32 by decide),cond_false]
   rfl
 have c0:j3 a one 0=one:=by unfold j3; rw [Nat.mul_zero,Nat.pow_zero,Nat.mod_one,Nat.mul_zero,Nat.zero_add,Nat.div_one]
 rw [GQ,Df,c0] at key
 have k2:dm.l0 ((),(),(),(one:Int),0,()) (fM a,List.replicate 32 0,List.replicate 32 0,())=_:=key
 simp only [dm.r,dm.g,lt,k2,ak,← hn]
end Go.Own
set_option linter.unusedVariables false
set_option linter.unusedSimpArgs false
namespace Go.Own
open Go.IntWalk
theorem Kw (a j:Nat):a/2^(16*j)=a/2^(16*(j+1))*65536+d16 a j:=by
 unfold d16
 rw [vk,← Nat.div_div_eq_div_mul]
 have:=Nat.div_add_mod (a/2^(16*j)) 65536
 omega
theorem QJ (a b:Nat) (ha:a<yT) (hb:b<yT):dK.r (fM a) (fM b)=(true,decide (a<b)):=by
 obtain ⟨w,hw⟩:∃ w,w=dK.l0 ((),(),false,31,()) (fM a,fM b,()):=⟨_,rfl⟩
 have key:w.1=true∧(bif Nat.beq w.2.1 0 then (true,w.2.2.2.2.1.1) else (true,false))=(true,decide (a<b)):=by
  refine mX (g:=fun rq kn ke kr x y=>dK.g0 rq kn ke kr x y) hw
   (fun x y=>∃ k:Nat,k≤32∧x=((),(),false,(k:Int) - 1,())∧y=(fM a,fM b,())∧a/2^(16*k)=b/2^(16*k)) (fun x y=>(x.2.2.2.1+1).toNat)
   ⟨32,by omega,rfl,rfl,by rw [Nat.div_eq_of_lt (by rw [show 16*32=512 from rfl,← Pz]; exact ha),Nat.div_eq_of_lt (by rw [show 16*32=512 from rfl,← Pz]; exact hb)]⟩ (by show ((31:Int)+1).toNat<((31:Int) - 0+1).toNat+1; omega)
   (Q:=fun w=>w.1=true∧(bif Nat.beq w.2.1 0 then (true,w.2.2.2.2.1.1) else (true,false))=(true,decide (a<b))) ?_
  rintro x y R ⟨k,hk,rfl,rfl,he⟩ hR
  cases k with
  |zero=>
   have e:a=b:=by simpa using he
   simp only [dK.g0,lt,qz (show ¬ (0:Int)≤((0:Nat):Int) - 1 by omega),cond_false]
   refine ⟨trivial,?_⟩
   rw [decide_eq_false (by omega)]
   rfl
  |succ k=>
   have e0:((k+1:Nat):Int) - 1=(k:Int):=by omega
   have w1:IntKind.i64.wrap ((k:Int) - 1)=(k:Int) - 1:=i64_in _ (by omega)
   have da:=Kw a k
   have db:=Kw b k
   rw [he] at da
   have la:=nC a k
   have lb:=nC b k
   simp only [dK.g0,lt,e0,fI (show (0:Int)≤(k:Int) by omega),dP (show (k:Int)<32 by omega),cond_true,Bool.and_self,ak,Int.toNat_natCast,oL (show k<32 by omega),w1]
   by_cases h:d16 a k=d16 b k
   ·have hn:((d16 a k:Int) != (d16 b k:Int))=false:=by rw [h]; simp
    simp only [hn,cond_false]
    exact hR _ _ ⟨k,by omega,rfl,rfl,by rw [da,db,h]⟩ (by show ((k:Int) - 1+1).toNat<(((k+1:Nat):Int) - 1+1).toNat; omega)
   ·have hn:((d16 a k:Int) != (d16 b k:Int))=true:=by simp; omega
    simp only [hn,cond_true]
    refine ⟨trivial,?_⟩
    show (true,ilt (d16 a k:Int) (d16 b k:Int))=_
    congr 1
    rw [Bool.eq_iff_iff,Qs,decide_eq_true_iff]
    constructor
    ·intro h1
     have h2:a/2^(16*k)<b/2^(16*k):=by rw [da,db]; omega
     exact Nat.lt_of_div_lt_div h2
    ·intro h1
     have h2:a/2^(16*k)≤b/2^(16*k):=Nat.div_le_div_right (Nat.le_of_lt h1)
     rw [da,db] at h2
     omega
 simp only [dK.r,dK.g,lt,← hw,key.1,ak]
 exact key.2
theorem lex {B x y u v:Nat} (hx:x<B) (hy:y<B):x+B*u<y+B*v↔u<v∨(u=v∧x<y):=by
 rcases Nat.lt_trichotomy u v with h|h|h
 ·have:=Nat.mul_le_mul_left B (show u+1≤v from h)
  rw [Nat.mul_add] at this
  constructor
  ·intro _; exact .inl h
  ·intro _; omega
 ·subst h
  constructor
  ·intro h; exact .inr ⟨rfl,by omega⟩
  ·rintro (h|⟨_,h⟩)<;>omega
 ·have:=Nat.mul_le_mul_left B (show v+1≤u from h)
  rw [Nat.mul_add] at this
  constructor
  ·intro _; omega
  ·rintro (h2|⟨h2,_⟩)<;>omega
def bor (a b j:Nat):Nat:=if a%2^(16*j)<b%2^(16*j) then 1 else 0
theorem OH (a b j:Nat):bor a b (j+1)=if d16 a j<d16 b j+bor a b j then 1 else 0:=by
 have hB:=Nat.two_pow_pos (16*j)
 unfold bor d16
 rw [vk,Nat.mod_mul,Nat.mod_mul]
 have l:=lex (u:=a/2^(16*j)%65536) (v:=b/2^(16*j)%65536) (Nat.mod_lt a hB) (Nat.mod_lt b hB)
 by_cases h:a%2^(16*j)<b%2^(16*j)
 ·rw [if_pos h]
  by_cases h2:a/2^(16*j)%65536<b/2^(16*j)%65536+1
  ·rw [if_pos h2,if_pos (l.2 (by omega))]
  ·rw [if_neg h2,if_neg (fun h3=>by have:=l.1 h3; omega)]
 ·rw [if_neg h]
  by_cases h2:a/2^(16*j)%65536<b/2^(16*j)%65536+0
  ·rw [if_pos h2,if_pos (l.2 (by omega))]
  ·rw [if_neg h2,if_neg (fun h3=>by have:=l.1 h3; omega)]
theorem PU {a b:Nat} (h:b≤a) (j:Nat):d16 (a - b) j=if d16 a j<d16 b j+bor a b j then d16 a j+65536 - d16 b j - bor a b j else d16 a j - d16 b j - bor a b j:=by
 have hB:=Nat.two_pow_pos (16*j)
 have e:(a - b)/2^(16*j)=a/2^(16*j) - b/2^(16*j) - bor a b j∧b/2^(16*j)+bor a b j≤a/2^(16*j):=by
  unfold bor
  have h1:=Nat.div_add_mod a (2^(16*j))
  have h2:=Nat.div_add_mod b (2^(16*j))
  have h3:=Nat.mod_lt a hB
  have h4:=Nat.mod_lt b hB
  have h5:=Nat.div_le_div_right (c:=2^(16*j)) h
  generalize a/2^(16*j)=ha at*
  generalize b/2^(16*j)=hb at*
  generalize a%2^(16*j)=la at*
  generalize b%2^(16*j)=lb at*
  generalize 2^(16*j)=B at*
  obtain ⟨c,rfl⟩:∃ c,ha=hb+c:=⟨ha - hb,by omega⟩
  rw [Nat.mul_add] at h1
  by_cases h6:la<lb
  ·rw [if_pos h6]
   cases c with
   |zero=>omega
   |succ c=>
    rw [Nat.mul_succ] at h1
    have:a - b=(B+la - lb)+B*c:=by omega
    rw [this,Nat.add_mul_div_left _ _ hB,Nat.div_eq_of_lt (by omega)]
    omega
  ·rw [if_neg h6]
   have:a - b=(la - lb)+B*c:=by omega
   rw [this,Nat.add_mul_div_left _ _ hB,Nat.div_eq_of_lt (by omega)]
   omega
 have hw:bor a b j=0∨bor a b j=1:=by unfold bor; split<;>omega
 unfold d16
 rw [e.1]
 have e2:=e.2
 generalize bor a b j=w at*
 generalize a/2^(16*j)=ha at*
 generalize b/2^(16*j)=hb at*
 split<;>omega
theorem Sc (a b:Nat) (h:b≤a):dG.r (fM a) (fM b)=(true,fM (a - b)):=by
 obtain ⟨n,hn⟩:∃ n,n=a - b:=⟨_,rfl⟩
 have key:dG.l0 ((),(),(),(bor a b 0:Int),(),((0:Nat):Int),()) (fM a,fM b,List.replicate 32 0,nA n 0,())=(true,1,((),(),(),(bor a b 32:Int),(),32,()),(fM a,fM b,List.replicate 32 0,nA n 32,()),(),()):=by
  refine bR (g:=fun rq kn ke kr x y=>dG.g0 rq kn ke kr x y) 32 (fun j=>((),(),(),(bor a b j:Int),(),(j:Int),())) (fun j=>(fM a,fM b,List.replicate 32 0,nA n j,())) _ ?_ ?_ _ 0 (Nat.zero_le _) (by show 32 - 0<((32:Int) - ((0:Nat):Int)).toNat+1; omega)
  ·intro j R hj
   have la:=nC a j
   have lb:=nC b j
   have hw:bor a b j≤1:=by unfold bor; split<;>omega
   have sd:=PU h j
   have bs:=OH a b j
   rw [← hn] at sd
   have a1:IntKind.i64.wrap ((d16 a j:Int) - (d16 b j:Int))=(d16 a j:Int) - (d16 b j:Int):=i64_in _ (by omega)
   have a2:IntKind.i64.wrap ((d16 a j:Int) - (d16 b j:Int) - (bor a b j:Int))=(d16 a j:Int) - (d16 b j:Int) - (bor a b j:Int):=i64_in _ (by omega)
   have a5:IntKind.i64.wrap ((j:Int)+1)=((j+1:Nat):Int):=i64_in _ (by omega)
   simp only [dG.g0,lt,dP (show (j:Int)<32 by omega),fI (show (0:Int)≤(j:Int) by omega),cond_true,Bool.and_self,ak,Int.toNat_natCast,oL hj,a1,a2,a5]
   by_cases hc:d16 a j<d16 b j+bor a b j
   ·rw [if_pos hc] at sd bs
    have a3:IntKind.i64.wrap ((d16 a j:Int) - (d16 b j:Int) - (bor a b j:Int)+65536)=(d16 n j:Int):=by rw [i64_in _ (by omega),sd]; omega
    have hb1:(1:Int)=(bor a b (j+1):Int):=by rw [bs]; rfl
    simp only [dP (show (d16 a j:Int) - (d16 b j:Int) - (bor a b j:Int)<0 by omega),cond_true,a3,vO n j hj]
    rw [← hb1]
   ·rw [if_neg hc] at sd bs
    have a3:(d16 a j:Int) - (d16 b j:Int) - (bor a b j:Int)=(d16 n j:Int):=by rw [sd]; omega
    have hb1:(0:Int)=(bor a b (j+1):Int):=by rw [bs]; rfl
    simp only [a3,dI (show ¬ (d16 n j:Int)<0 by omega),cond_false,vO n j hj]
    rw [← hb1]
  ·intro R
   simp only [dG.g0,lt,dI (show ¬ ((32:Nat):Int)<32 by decide),cond_false]
   rfl
 have c0:bor a b 0=0:=by unfold bor; rw [Nat.mul_zero,Nat.pow_zero,Nat.mod_one,Nat.mod_one]; rfl
 rw [GQ,Df,c0] at key
 have k2:dG.l0 ((),(),(),0,(),0,()) (fM a,fM b,List.replicate 32 0,List.replicate 32 0,())=_:=key
 simp only [dG.r,dG.g,lt,k2,ak,← hn]
end Go.Own
set_option linter.unusedVariables false
set_option linter.unusedSimpArgs false
namespace Go.Own
open Go.IntWalk
theorem Ox (n m i:Nat):d16 (n||| m) i=d16 n i||| d16 m i:=by
 apply Nat.eq_of_testBit_eq
 intro t
 simp only [rZ,Nat.testBit_or,Bool.and_or_distrib_left]
theorem Ky (k j:Nat):d16 (2^k) j=if k/16=j then 2^(k%16) else 0:=by
 apply Nat.eq_of_testBit_eq
 intro t
 rw [rZ,Nat.testBit_two_pow]
 split
 ·rw [Nat.testBit_two_pow,Bool.eq_iff_iff]
  simp only [Bool.and_eq_true,decide_eq_true_eq]
  omega
 ·rw [Nat.zero_testBit,Bool.eq_false_iff]
  simp only [ne_eq,Bool.and_eq_true,decide_eq_true_eq]
  omega
theorem QD {Q k:Nat} (hk:k<512):(fM Q).set (k/16) ((d16 Q (k/16)||| 2^(k%16):Nat):Int)=fM (Q||| 2^k):=by
 unfold fM
 apply qR (by omega)
 ·rw [Ox,Ky,if_pos rfl]
 ·intro i _ hi
  rw [Ox,Ky,if_neg (fun h=>hi h.symm),Nat.or_zero]
theorem Ou {Q q k:Nat} (hQ:Q=q*2^(k+1)) (hk:k<512):(fM Q).set (k/16) ((d16 Q (k/16)||| 2^(k%16):Nat):Int)=fM ((2*q+1)*2^k):=by
 rw [QD hk,Ip (by rw [hQ]; exact Nat.mul_mod_left _ _),hQ,Nat.pow_succ]
 congr 1
 generalize 2^k=p
 grind
def kP (N a i:Nat):Nat:=a/2^(N - i)
theorem Le {N a i:Nat} (h:i<N):kP N a (i+1)=2*kP N a i+(a.testBit (N - 1 - i)).toNat:=by
 unfold kP
 have e:a/2^(N - i)=a/2^(N - (i+1))/2:=by
  rw [show N - i=N - (i+1)+1 by omega,Nat.pow_succ,Nat.div_div_eq_div_mul]
 have e2:(a.testBit (N - 1 - i)).toNat=a/2^(N - (i+1))%2:=by
  rw [show N - (i+1)=N - 1 - i by omega,Nat.testBit_eq_decide_div_mod_eq]
  have:a/2^(N - 1 - i)%2=0∨a/2^(N - 1 - i)%2=1:=by omega
  rcases this with h|h<;>rw [h]<;>rfl
 rw [e2,e]
 omega
theorem He {a K:Nat}:d16 a (K/16)/2^(K%16)&&& 1=(a.testBit K).toNat:=by
 rw [and_one,Nat.testBit_div_two_pow,rZ]
 have:decide (0+K%16<16)=true:=by simp; omega
 rw [this,Bool.true_and,show 16*(K/16)+(0+K%16)=K by omega]
theorem Fx {N a m:Nat} (hN:N=512) (hm0:0<m) (hm:m<ay) (j:Nat) (hj:j<N) (z:List Int) {Z:Type} (kn:aY.X0→aY.Y0→Bool×Z) (ke:Nat→aY.X0→aY.Y0→Bool×Z) (kr:aY.U0→aY.V0→Bool×Z):
  aY.g0 chk kn ke kr ((),(),(),(),(),(),(511:Int) - (j:Int),()) (fM a,fM m,z,z,fM (kP N a j/m*2^(N - j)),fM (kP N a j%m),())=
   kn ((),(),(),(),(),(),(511:Int) - ((j+1:Nat):Int),()) (fM a,fM m,z,z,fM (kP N a (j+1)/m*2^(N - (j+1))),fM (kP N a (j+1)%m),()):=by
 obtain ⟨K,hK⟩:∃ K,K=N - 1 - j:=⟨_,rfl⟩
 have hKl:K<512:=by omega
 have k1:(511:Int) - (j:Int)=(K:Int):=by omega
 have k2:(511:Int) - ((j+1:Nat):Int)=(K:Int) - 1:=by omega
 have hL:=Nat.mod_lt (kP N a j) hm0
 have hS:=Cs (N:=kP N a j) (b:=(a.testBit K).toNat) hm0 (by cases a.testBit K<;>decide)
 rw [hK,← Le hj,← hK] at hS
 have hb1:(a.testBit K).toNat≤1:=by cases a.testBit K<;>decide
 obtain ⟨b,hb⟩:∃ b,b=(a.testBit K).toNat:=⟨_,rfl⟩
 rw [← hb] at hS hb1
 have hQ:=Ou (Q:=kP N a j/m*2^(N - j)) (q:=kP N a j/m) (k:=K) (by rw [show K+1=N - j by omega]) hKl
 have d1:=nC a (K/16)
 have d2:=nC (kP N a j/m*2^(N - j)) (K/16)
 have p2:2^(K%16)<65536:=Nat.lt_of_lt_of_le (Nat.pow_lt_pow_right (by decide) (show K%16<16 by omega)) (by decide)
 have a1:(K:Int).tdiv 16=((K/16:Nat):Int):=sK K 16
 have a2:(K:Int).tmod 16=((K%16:Nat):Int):=uO K 16
 have a3:IntKind.i64.wrap ((K/16:Nat):Int)=((K/16:Nat):Int):=oh _ (by omega)
 have a4:eB .i64 (· &&& ·) ((d16 a (K/16):Int).fdiv (2^(min (K%16) 64))) (1:Int)=(b:Int):=by
  rw [Nat.min_eq_left (by omega),sV,wQ,yK _ (Nat.lt_of_le_of_lt (Nat.div_le_self _ _) (by omega)),He,hb]
 have a5:IntKind.i64.wrap ((1:Int)*2^(min (K%16) 64))=((2^(K%16):Nat):Int):=by
  rw [Nat.min_eq_left (by omega),Int.one_mul,sV]; exact oh _ (by omega)
 have a6:=CX (d16 (kP N a j/m*2^(N - j)) (K/16)) (2^(K%16)) (by omega) (by omega)
 have a7:IntKind.i64.wrap ((K:Int) - 1)=(K:Int) - 1:=i64_in _ (by omega)
 have tw:=Me (kP N a j%m) b hb1
 have hV:2*(kP N a j%m)+b<yT:=by unfold yT; unfold ay at hm; omega
 have bl:=QJ (2*(kP N a j%m)+b) m hV (by unfold yT; unfold ay at hm; omega)
 have ek:N - (j+1)=K:=by omega
 have i1:(ile 0 ((K/16:Nat):Int)&&ilt ((K/16:Nat):Int) 32)=true:=by rw [fI (by omega),dP (by omega)]; rfl
 rw [k1,k2]
 simp only [aY.g0,lt,fI (show (0:Int)≤(K:Int) by omega),cond_true,a1,a2,a3,i1,ak,Int.toNat_natCast,oL (show K/16<32 by omega),a4,dI (show ¬ ((K%16:Nat):Int)<0 by omega),Bool.not_false,tw,bl]
 by_cases hc:2*(kP N a j%m)+b<m
 ·rw [if_pos hc,if_pos hc] at hS
  have e1:kP N a j/m*2^(N - j)=kP N a (j+1)/m*2^(N - (j+1)):=by
   rw [hS.1,show N - j=N - (j+1)+1 by omega,Nat.pow_succ,Nat.add_zero]
   generalize 2^(N - (j+1))=p
   generalize kP N a j/m=q
   grind
  simp only [hc,decide_true,Bool.not_true,cond_false,hS.2,e1,a7]
 ·rw [if_neg hc,if_neg hc] at hS
  have ls:=Sc (2*(kP N a j%m)+b) m (by omega)
  simp only [hc,decide_false,Bool.not_false,cond_true,ls,ak,a5,a6,hQ,hS.1,hS.2,ek,a7]
theorem P6 (N a m n:Nat) (hN:N=512) (hm0:0<m) (hm:m<ay) (hn:n=N) (z:List Int):
  aY.l0 ((),(),(),(),(),(),(511:Int) - ((0:Nat):Int),()) (fM a,fM m,z,z,fM (kP N a 0/m*2^(N - 0)),fM (kP N a 0%m),())=
   (true,1,((),(),(),(),(),(),(511:Int) - (n:Int),()),(fM a,fM m,z,z,fM (kP N a n/m*2^(N - n)),fM (kP N a n%m),()),(),()):=by
 have hf:n - 0<aY.fu0 ((),(),(),(),(),(),(511:Int) - ((0:Nat):Int),()) (fM a,fM m,z,z,fM (kP N a 0/m*2^(N - 0)),fM (kP N a 0%m),()):=by
  show n - 0<((511:Int) - ((0:Nat):Int) - 0+1).toNat+1
  omega
 refine bR (g:=fun rq kn ke kr x y=>aY.g0 rq kn ke kr x y) n (fun j=>((),(),(),(),(),(),(511:Int) - (j:Int),())) (fun j=>(fM a,fM m,z,z,fM (kP N a j/m*2^(N - j)),fM (kP N a j%m),())) _ ?_ ?_ _ 0 (Nat.zero_le _) hf
 ·intro j R hj
  exact Fx hN hm0 hm j (by omega) z _ _ _
 ·intro R
  simp only [aY.g0,lt,qz (show ¬ (0:Int)≤(511:Int) - (n:Int) by omega),cond_false]
theorem LV:fM 0=List.replicate 32 0:=by kernel_rfl
theorem K8 (a m:Nat) (ha:a<yT) (hm0:0<m) (hm:m<ay):aY.r (fM a) (fM m)=(true,fM (a/m),fM (a%m)):=by
 obtain ⟨N,hN⟩:∃ N,N=512:=⟨_,rfl⟩
 have key:=P6 N a m N hN hm0 hm rfl (List.replicate 32 0)
 have e0:kP N a 0=0:=by
  unfold kP
  rw [Nat.sub_zero,hN,← Pz]
  exact Nat.div_eq_of_lt ha
 have e1:kP N a N=a:=by
  unfold kP
  rw [Nat.sub_self,Nat.pow_zero,Nat.div_one]
 rw [e0,e1,Nat.zero_div,Nat.zero_mul,Nat.zero_mod,LV,Nat.sub_self,Nat.pow_zero,Nat.mul_one] at key
 have k2:aY.l0 ((),(),(),(),(),(),511,()) (fM a,fM m,List.replicate 32 0,List.replicate 32 0,List.replicate 32 0,List.replicate 32 0,())=_:=key
 simp only [aY.r,aY.g,lt,k2,ak]
theorem Sb (x j i:Nat):limb (d16 x j*2^(16*j)) i=if j/4=i then d16 x j*2^(16*(j%4)) else 0:=by
 apply Nat.eq_of_testBit_eq
 intro t
 rw [iy,Nat.testBit_mul_two_pow]
 split
 ·rename_i h
  rw [Nat.testBit_mul_two_pow]
  rw [show 64*i+t - 16*j=t - 16*(j%4) by omega]
  by_cases h2:16*(j%4)≤t
  ·have h3:16*j≤64*i+t:=by omega
   rw [decide_eq_true h2,decide_eq_true h3]
   by_cases h4:t<64
   ·rw [decide_eq_true h4]; rfl
   ·rw [rZ,decide_eq_false h4,decide_eq_false (show ¬ t - 16*(j%4)<16 by omega)]; rfl
  ·have h3:¬ 16*j≤64*i+t:=by omega
   rw [decide_eq_false h2,decide_eq_false h3]; simp
 ·rename_i h
  rw [Nat.zero_testBit]
  by_cases h3:16*j≤64*i+t
  ·by_cases h4:t<64
   ·rw [rZ,decide_eq_false (show ¬ 64*i+t - 16*j<16 by omega)]; simp
   ·rw [decide_eq_false h4]; rfl
  ·rw [decide_eq_false h3]; simp
theorem R5 (x j:Nat):x%2^(16*j)||| d16 x j*2^(16*j)=x%2^(16*(j+1)):=by
 apply Nat.eq_of_testBit_eq
 intro t
 rw [Nat.testBit_or,Nat.testBit_mod_two_pow,Nat.testBit_mul_two_pow,Nat.testBit_mod_two_pow,rZ]
 by_cases h:t<16*j
 ·rw [decide_eq_true h,decide_eq_false (show ¬ 16*j≤t by omega),decide_eq_true (show t<16*(j+1) by omega)]; simp
 ·rw [decide_eq_false h,decide_eq_true (show 16*j≤t by omega),show 16*j+(t - 16*j)=t by omega]
  by_cases h2:t<16*(j+1)
  ·rw [decide_eq_true h2,decide_eq_true (show t - 16*j<16 by omega)]; simp
  ·rw [decide_eq_false h2,decide_eq_false (show ¬ t - 16*j<16 by omega)]; simp
theorem D9 {n m v k:Nat} (hk:k<4) (hm:∀ i,limb m i=if k=i then v else 0):(limbs n).set k ((limb n k||| v:Nat):Int)=limbs (n||| m):=by
 unfold limbs
 simp only [Ka,hm]
 have h:k=0∨k=1∨k=2∨k=3:=by omega
 rcases h with rfl|rfl|rfl|rfl<;>simp
theorem Ck (x j:Nat) (hj:j<16):(limbs (x%2^(16*j))).set (j/4) ((limb (x%2^(16*j)) (j/4)||| d16 x j*2^(16*(j%4)):Nat):Int)=limbs (x%2^(16*(j+1))):=by
 rw [D9 (by omega) (m:=d16 x j*2^(16*j)) (fun i=>Sb x j i),R5]
theorem SX (n:Nat) (hn:n<yT):dH.r (fM n)=(true,limbs (n%ay),limbs (n/ay)):=by
 obtain ⟨lo,hlo⟩:∃ lo,lo=n%ay:=⟨_,rfl⟩
 obtain ⟨hi,hhi⟩:∃ hi,hi=n/ay:=⟨_,rfl⟩
 have hn2:n=hi*ay+lo:=by rw [hlo,hhi,Nat.mul_comm]; exact (Nat.div_add_mod n ay).symm
 have hl:lo<ay:=by rw [hlo]; exact Nat.mod_lt _ (by decide)
 have hh:hi<ay:=by
  rw [hhi,Nat.div_lt_iff_lt_mul (by decide)]
  exact Nat.lt_of_lt_of_le hn (by decide)
 obtain ⟨N,hN⟩:∃ N,N=16:=⟨_,rfl⟩
 have key:dH.l0 ((),(),(),(),(),((0:Nat):Int),()) (fM n,[0,0,0,0],[0,0,0,0],limbs (lo%2^(16*0)),limbs (hi%2^(16*0)),())=(true,1,((),(),(),(),(),(N:Int),()),(fM n,[0,0,0,0],[0,0,0,0],limbs (lo%2^(16*N)),limbs (hi%2^(16*N)),()),(),()):=by
  refine bR (g:=fun rq kn ke kr x y=>dH.g0 rq kn ke kr x y) N (fun j=>((),(),(),(),(),(j:Int),())) (fun j=>(fM n,[0,0,0,0],[0,0,0,0],limbs (lo%2^(16*j)),limbs (hi%2^(16*j)),())) _ ?_ ?_ _ 0 (Nat.zero_le _) (by show N - 0<Sj (((16:Int) - ((0:Nat):Int)).toNat+1); rw [Qt]; omega)
  ·intro j R hj
   have a1:(j:Int).tdiv 4=((j/4:Nat):Int):=sK j 4
   have a2:(j:Int).tmod 4=((j%4:Nat):Int):=uO j 4
   have a3:IntKind.i64.wrap ((j/4:Nat):Int)=((j/4:Nat):Int):=oh _ (by omega)
   have a4:IntKind.i64.wrap ((16:Int)*((j%4:Nat):Int))=((16*(j%4):Nat):Int):=by rw [i64_in _ (by omega)]; omega
   have a5:IntKind.i64.wrap ((16:Int)+(j:Int))=((16+j:Nat):Int):=by rw [i64_in _ (by omega)]; omega
   have a6:IntKind.i64.wrap ((j:Int)+1)=((j+1:Nat):Int):=i64_in _ (by omega)
   have pw:∀ x:Nat,x<65536→x*2^(16*(j%4))<18446744073709551616:=by
    intro x hx
    have h1:2^(16*(j%4))≤281474976710656:=Nat.le_trans (Nat.pow_le_pow_right (by decide) (show 16*(j%4)≤48 by omega)) (by decide)
    have h2:=Nat.mul_le_mul (show x≤65535 by omega) h1
    omega
   have sh:∀ x:Nat,x<65536→IntKind.u64.wrap (IntKind.u64.wrap (x:Int)*2^(min (16*(j%4)) 64))=((x*2^(16*(j%4)):Nat):Int):=by
    intro x hx
    rw [rD x (by omega),Nat.min_eq_left (by omega),sV,← Int.natCast_mul]
    exact rD _ (pw x hx)
   have b1:d16 n j=d16 lo j:=by rw [hn2,Oy (by omega)]
   have b2:d16 n (16+j)=d16 hi j:=by rw [hn2,Oz hl]
   have i1:(ile 0 ((j/4:Nat):Int)&&ilt ((j/4:Nat):Int) 4)=true:=by rw [fI (by omega),dP (by omega)]; rfl
   have i2:(ile 0 (j:Int)&&ilt (j:Int) 32)=true:=by rw [fI (by omega),dP (by omega)]; rfl
   have i3:(ile 0 ((16+j:Nat):Int)&&ilt ((16+j:Nat):Int) 32)=true:=by rw [fI (by omega),dP (by omega)]; rfl
   simp only [dH.g0,lt,dP (show (j:Int)<16 by omega),cond_true,a1,a2,a3,i1,i2,i3,a5,ak,Int.toNat_natCast,aR _ (j/4) (show j/4<4 by omega),oL (show j<32 by omega),oL (show 16+j<32 by omega),a4,b1,b2,sh _ (nC lo j),sh _ (nC hi j),dI (show ¬ ((16*(j%4):Nat):Int)<0 by omega),Bool.not_false,nQ _ _ (aX _ _) (pw _ (nC lo j)),nQ _ _ (aX _ _) (pw _ (nC hi j)),Ck lo j (by omega),Ck hi j (by omega),a6]
  ·intro R
   simp only [dH.g0,lt,dI (show ¬ (N:Int)<16 by omega),cond_false]
 have e0:∀ x:Nat,x%2^(16*0)=0:=fun x=>by rw [Nat.mul_zero,Nat.pow_zero,Nat.mod_one]
 have e1:∀ x:Nat,x<ay→x%2^(16*N)=x:=fun x hx=>by rw [hN]; exact Nat.mod_eq_of_lt (by rw [show 16*16=256 from rfl,← u6]; exact hx)
 rw [e0,e0,e1 lo hl,e1 hi hh,eZ] at key
 have k2:dH.l0 ((),(),(),(),(),0,()) (fM n,[0,0,0,0],[0,0,0,0],[0,0,0,0],[0,0,0,0],())=_:=key
 simp only [dH.r,dH.g,lt,k2,ak,← hlo,← hhi]
theorem SF (lo hi m:Nat) (hlo:lo<ay) (hhi:hi<ay) (hm:m<ay) (h0:0<m):iF.r (limbs lo) (limbs hi) (limbs m)=(true,limbs ((hi*ay+lo)%m),0):=by
 have e1:=Rz lo hi hlo
 have e2:=Rz m 0 hm
 rw [eZ,Nat.zero_mul,Nat.zero_add] at e2
 have hN:hi*ay+lo<yT:=by
  have:=Nat.mul_le_mul_right ay (show hi+1≤ay from hhi)
  rw [Nat.add_mul,Nat.one_mul] at this
  have w:ay*ay=yT:=by decide
  rw [w] at this
  exact Nat.lt_of_lt_of_le (Nat.add_lt_add_left hlo _) this
 have hR:=Nat.mod_lt (hi*ay+lo) h0
 have e4:=SX ((hi*ay+lo)%m) (by unfold yT; unfold ay at hm; omega)
 rw [Nat.mod_eq_of_lt (show (hi*ay+lo)%m<ay from Nat.lt_trans hR hm)] at e4
 simp only [iF.r,iF.g,lt,eqZ hm,decide_eq_false (show ¬ m=0 by omega),cond_false,e1,e2,ak,K8 _ m hN h0 hm,e4]
end Go.Own
set_option linter.unusedVariables false
set_option linter.unusedSimpArgs false
namespace Go.Own
open Go.IntWalk
theorem UJ (a q:Nat) (ha:a<ay) (hq:0<q) (hq2:q<9223372036854775808):iO.r (limbs a) (q:Int)=(true,((a%q:Nat):Int)):=by
 have hqW:q<ay:=Nat.lt_trans hq2 (by decide)
 have e1:=Pn (q:Int) (by omega)
 rw [Int.toNat_natCast] at e1
 have e2:=SF a 0 q ha (by decide) hqW hq
 rw [eZ,Nat.zero_mul,Nat.zero_add] at e2
 have hm:=Nat.mod_lt a hq
 have e3:=Pj (a%q) (Nat.lt_trans hm hqW)
 rw [if_pos (by omega)] at e3
 simp only [iO.r,iO.g,lt,e1,e2,e3,ak]
theorem Uc (l:List Nat) (q:Nat) (hl:∀ a∈l,a<ay) (hn:l.length≤1073741824) (hq:0<q) (hq2:q<9223372036854775808):dU.r (l.map limbs) (q:Int)=(true,l.map fun a=>((a%q:Nat):Int)):=by
 have key:dU.l0 (l.map limbs,(q:Int),(),(),((0:Nat):Int),()) ((decide (0=0),(l.take 0).map fun a=>((a%q:Nat):Int)),())=(true,1,(l.map limbs,(q:Int),(),(),(l.length:Int),()),((decide (l.length=0),(l.take l.length).map fun a=>((a%q:Nat):Int)),()),(),()):=by
  refine bR (g:=fun rq kn ke kr x y=>dU.g0 rq kn ke kr x y) l.length (fun j=>(l.map limbs,(q:Int),(),(),(j:Int),())) (fun j=>((decide (j=0),(l.take j).map fun a=>((a%q:Nat):Int)),())) _ ?_ ?_ _ 0 (Nat.zero_le _) (by show l.length - 0<(((l.map limbs).length:Int) - ((0:Nat):Int)).toNat+1; rw [List.length_map]; omega)
  ·intro j R hj
   have g1:(l.map limbs).getD j [0,0,0,0]=limbs (l.getD j 0):=getD_map hj
   have b1:=UJ (l.getD j 0) q (hl _ (jc hj)) hq hq2
   have c1:nle ((2*((l.take j).length+1)+512)*8) 70368744177664=true:=sF (by rw [List.length_take]; omega)
   have s1:((l.take j).map fun a=>((a%q:Nat):Int))++ [((l.getD j 0%q:Nat):Int)]=(l.take (j+1)).map fun a=>((a%q:Nat):Int):=jU (f:=fun a=>((a%q:Nat):Int)) hj
   have d1:decide (j+1=0)=false:=decide_eq_false (by omega)
   have w1:IntKind.i64.wrap ((j:Int)+1)=((j+1:Nat):Int):=i64_in _ (by omega)
   simp only [dU.g0,lt,List.length_map,dP (show (j:Int)<(l.length:Int) by omega),fI (show (0:Int)≤(j:Int) by omega),cond_true,Bool.and_self,Int.toNat_natCast,ak,g1,b1,Bool.and_false,s1,c1,w1,d1]
  ·intro R
   simp only [dU.g0,lt,List.length_map,dI (show ¬ (l.length:Int)<(l.length:Int) by omega),cond_false]
 rw [List.take_length] at key
 have k2:dU.l0 (l.map limbs,(q:Int),(),(),0,()) ((true,[]),())=_:=key
 simp only [dU.r,dU.g,lt,k2,ak]
theorem QW (a b m:Nat) (h0:0<m) (hm:m<9223372036854775808):gT.r (a:Int) (b:Int) (m:Int)=(true,((a*b%m:Nat):Int)):=by
 have ha:=Nat.mod_lt a h0
 have hb:=Nat.mod_lt b h0
 have hp:a%m*(b%m)<m*18446744073709551616:=Nat.lt_of_lt_of_le (Nat.mul_lt_mul_of_lt_of_lt ha hb) (Nat.mul_le_mul_left m (by omega))
 have hh:a%m*(b%m)/18446744073709551616<m:=by rw [Nat.div_lt_iff_lt_mul (by decide)]; exact hp
 have e:a%m*(b%m)/18446744073709551616*18446744073709551616+a%m*(b%m)%18446744073709551616=a%m*(b%m):=by rw [Nat.mul_comm]; exact Nat.div_add_mod _ _
 have d:=KN (a%m*(b%m)/18446744073709551616) (a%m*(b%m)%18446744073709551616) m hh (Nat.mod_lt _ (by decide)) (by omega)
 rw [e,← Nat.mul_mod] at d
 have hr:=Nat.mod_lt (a*b) h0
 have z:ieq (m:Int) 0=false:=Gu (by omega)
 simp only [gT.r,gT.g,lt,uO,z,Bool.not_false,ak,rD (a%m) (by omega),rD (b%m) (by omega),uL (a%m) (b%m) (by omega) (by omega),rD m (by omega),d,oh (a*b%m) (by omega)]
theorem O5 (a b q:Nat) (h0:0<q) (hq:q<9223372036854775808):fU.r (a:Int) (b:Int) (q:Int)=(true,((a*b%q:Nat):Int)):=by
 simp only [fU.r,fU.g,lt,QW a b q h0 hq,ak]
theorem SG (a b q:Nat) (h0:0<q) (ha:a<4611686018427387904) (hb:b<4611686018427387904):iE.r (a:Int) (b:Int) (q:Int)=(true,(((a+b)%q:Nat):Int)):=by
 have w:IntKind.i64.wrap ((a:Int)+(b:Int))=((a+b:Nat):Int):=i64_in _ (by omega)
 have z:ieq (q:Int) 0=false:=Gu (by omega)
 simp only [iE.r,iE.g,lt,w,uO,z,Bool.not_false,ak]
def uM (q x:Nat):Nat→Nat
 |0=>1
 |i+1=>uM q x i*x%q
def zC (q x:Nat) (f:List Nat):Nat→Nat
 |0=>0
 |i+1=>(zC q x f i+f.getD i 0*uM q x i%q)%q
theorem Ud {q x:Nat} (hq:1<q):∀ i,uM q x i<q
 |0=>hq
 |i+1=>Nat.mod_lt _ (by omega)
theorem JJ {q x:Nat} (hq:1<q) (f:List Nat):∀ i,zC q x f i<q
 |0=>by show 0<q; omega
 |i+1=>Nat.mod_lt _ (by omega)
def Oa {F:Type} [Lean.Grind.CommRing F] (x:F):Nat→F
 |0=>1
 |n+1=>Oa x n*x
theorem Kt {F:Type} [Lean.Grind.CommRing F] (x a:F):∀ l:List F,Pol.ev (l++ [a]) x=Pol.ev l x+a*Oa x l.length
 | []=>by show (0:F)*x+a=0+a*1; grind
 |b::l=>by
  have:=Kt x a l
  show Pol.ev (l++ [a]) x*x+b=(Pol.ev l x*x+b)+a*(Oa x l.length*x)
  rw [this]; grind
theorem Kl {q:Nat} [NeZero q] (x:Nat):∀ i,fz q (uM q x i)=Oa (fz q x) i
 |0=>I8
 |i+1=>by show fz q (uM q x i*x%q)=Oa (fz q x) i*fz q x; rw [lu,vJ,Kl x i]
theorem Kk {q:Nat} [NeZero q] (x:Nat) (f:List Nat):∀ i,i≤f.length→fz q (zC q x f i)=Pol.ev (toF q (f.take i)) (fz q x)
 |0,_=>oC
 |i+1,h=>by
  have e:toF q (f.take (i+1))=toF q (f.take i)++ [fz q (f.getD i 0)]:=(jU (f:=fz q) h).symm
  have hl:(toF q (f.take i)).length=i:=by unfold toF; rw [List.length_map,List.length_take]; omega
  show fz q ((zC q x f i+f.getD i 0*uM q x i%q)%q)=_
  rw [lu,vK,lu,vJ,Kl,Kk x f i (by omega),e,Kt,hl]
theorem PN {q:Nat} (hq:1<q) (x:Nat) (f:List Nat):zC q x f f.length=evN q f x:=by
 haveI:NeZero q:=⟨by omega⟩
 have e:=Kk (q:=q) x f f.length (Nat.le_refl _)
 rw [List.take_length,← xR] at e
 have:=GI e
 rwa [Nat.mod_eq_of_lt (JJ hq f _),Nat.mod_eq_of_lt (vM (by omega) f x)] at this
theorem QA {q:Nat} (hq:1<q) (x:Nat) (f:List Nat):evN q (f.map (· %q)) x=evN q f x:=by
 haveI:NeZero q:=⟨by omega⟩
 exact Og (by omega) (SL f) x
theorem QX (f:List Nat) (x q:Nat) (hn:f.length≤1073741824) (h1:1<q) (hq:q<4611686018427387904):dF.r (f.map fun (a:Nat)=>(a:Int)) (x:Int) (q:Int)=(true,(evN q f x:Int)):=by
 have h0:0<q:=by omega
 have key:dF.l0 (f.map (fun (a:Nat)=>(a:Int)),(x:Int),(q:Int),0,(zC q x f 0:Int),(uM q x 0:Int),((0:Nat):Int),()) ()=(true,1,(f.map (fun (a:Nat)=>(a:Int)),(x:Int),(q:Int),0,(zC q x f f.length:Int),(uM q x f.length:Int),(f.length:Int),()),(),(),()):=by
  refine bR (g:=fun rq kn ke kr x y=>dF.g0 rq kn ke kr x y) f.length (fun j=>(f.map (fun (a:Nat)=>(a:Int)),(x:Int),(q:Int),0,(zC q x f j:Int),(uM q x j:Int),(j:Int),())) (fun j=>()) _ ?_ ?_ _ 0 (Nat.zero_le _) (by show f.length - 0<(((f.map fun (a:Nat)=>(a:Int)).length:Int) - ((0:Nat):Int)).toNat+1; rw [List.length_map]; omega)
  ·intro j R hj
   have g1:(f.map fun (a:Nat)=>(a:Int)).getD j 0=((f.getD j 0:Nat):Int):=getD_map hj
   have m1:=O5 (f.getD j 0) (uM q x j) q h0 (by omega)
   have hm:=Nat.mod_lt (f.getD j 0*uM q x j) h0
   have hs:=JJ (x:=x) h1 f j
   have a1:=SG (zC q x f j) (f.getD j 0*uM q x j%q) q h0 (by omega) (by omega)
   have m2:=O5 (uM q x j) x q h0 (by omega)
   have e1:(zC q x f j+f.getD j 0*uM q x j%q)%q=zC q x f (j+1):=rfl
   have e2:uM q x j*x%q=uM q x (j+1):=rfl
   have w1:IntKind.i64.wrap ((j:Int)+1)=((j+1:Nat):Int):=i64_in _ (by omega)
   simp only [dF.g0,lt,List.length_map,dP (show (j:Int)<(f.length:Int) by omega),fI (show (0:Int)≤(j:Int) by omega),cond_true,Bool.and_self,Int.toNat_natCast,ak,g1,fU.fT,m1,a1,m2,e1,e2,w1]
  ·intro R
   simp only [dF.g0,lt,List.length_map,dI (show ¬ (f.length:Int)<(f.length:Int) by omega),cond_false]
 have k2:dF.l0 (f.map (fun (a:Nat)=>(a:Int)),(x:Int),(q:Int),0,0,1,0,()) ()=_:=key
 simp only [dF.r,dF.g,lt,k2,ak,PN h1]
theorem QY (f:List Nat) (n q:Nat) (hf:f.length≤1073741824) (hn:n≤1073741824) (h1:1<q) (hq:q<4611686018427387904):di.r (f.map fun (a:Nat)=>(a:Int)) (n:Int) (q:Int)=(true,gy q f n):=by
 have key:di.l0 (f.map (fun (a:Nat)=>(a:Int)),(n:Int),(q:Int),(),(),((0+1:Nat):Int),()) ((decide (0=0),gy q f 0),())=(true,1,(f.map (fun (a:Nat)=>(a:Int)),(n:Int),(q:Int),(),(),((n+1:Nat):Int),()),((decide (n=0),gy q f n),()),(),()):=by
  refine bR (g:=fun rq kn ke kr x y=>di.g0 rq kn ke kr x y) n (fun j=>(f.map (fun (a:Nat)=>(a:Int)),(n:Int),(q:Int),(),(),((j+1:Nat):Int),())) (fun j=>((decide (j=0),gy q f j),())) _ ?_ ?_ _ 0 (Nat.zero_le _) (by show n - 0<((n:Int) - ((0+1:Nat):Int)+1).toNat+1; omega)
  ·intro j R hj
   have e1:=QX f (j+1) q hf h1 hq
   have hv:=vM (q:=q) (by omega) f (j+1)
   have i1:=Pn (evN q f (j+1):Int) (by omega)
   rw [Int.toNat_natCast] at i1
   have c1:nle ((2*((gy q f j).length+1)+512)*40) 70368744177664=true:=sF (by unfold gy; rw [List.length_map,List.length_range]; omega)
   have s1:gy q f j++ [(((j+1:Nat):Int),(limbs (evN q f (j+1)),()))]=gy q f (j+1):=by
    unfold gy; rw [List.range_succ,List.map_append]; rfl
   have d1:decide (j+1=0)=false:=decide_eq_false (by omega)
   have w1:IntKind.i64.wrap (((j+1:Nat):Int)+1)=((j+1+1:Nat):Int):=i64_in _ (by omega)
   simp only [di.g0,lt,fI (show ((j+1:Nat):Int)≤(n:Int) by omega),cond_true,e1,i1,ak,Bool.and_false,s1,c1,w1,d1]
  ·intro R
   simp only [di.g0,lt,qz (show ¬ ((n+1:Nat):Int)≤(n:Int) by omega),cond_false]
 have k2:di.l0 (f.map (fun (a:Nat)=>(a:Int)),(n:Int),(q:Int),(),(),1,()) ((true,[]),())=_:=key
 simp only [di.r,di.g,lt,k2,ak]
theorem vE:∀ (f:List (List Int)),(∀ a∈f,Ty.ok (.arr 4 (.int .u64)) a)→∃ l:List Nat,f=l.map limbs∧∀ a∈l,a<ay
 | [],_=>⟨[],rfl,by simp⟩
 |a::f,h=>by
  obtain ⟨l,rfl,hl⟩:=vE f fun b hb=>h b (by simp [hb])
  obtain ⟨n,hn,rfl⟩:=Nz (h a (by simp))
  refine ⟨n::l,rfl,?_⟩
  intro b hb
  rcases List.mem_cons.1 hb with rfl|hb
  ·exact hn
  ·exact hl b hb
theorem yU (which:Int) (f:List (List Int)) (n:Int) (hw:Ty.ok (.int .i64) which) (hf:Ty.ok (.sl (.arr 4 (.int .u64))) f) (hn:Ty.ok (.int .i64) n):aT.r which f n=(true,true):=by
 have hf':∀ a∈f,Ty.ok (.arr 4 (.int .u64)) a:=by
  first
  |exact hf
  |exact hf.2
  |exact hf.1
 obtain ⟨l,rfl,hl⟩:=vE f hf'
 obtain ⟨q,gx,hq,hF,hs⟩:=JM which
 have hq1:=hF.gt
 have hq2:q<4611686018427387904:=by rcases hq with rfl|rfl<;>decide
 have aw:=KA
 have z0:((0:Int)== 0)=true:=rfl
 have z1:((1:Int)== 1)=true:=rfl
 have e0:((([]:List qL).length:Int)== 0)=true:=rfl
 by_cases h8:(8:Int)<(l.length:Int)
 ·simp only [aT.r,aT.g,lt,List.length_map,dP h8,cond_true,aI.fT,aw,ak]
 ·by_cases h1:n<1
  ·simp only [aT.r,aT.g,lt,List.length_map,dI h8,cond_false,hs,ak,KO hF _ (.inl h1),dP h1,cond_true,e0,z1,aI.fT,aw]
  ·by_cases h7:7<n
   ·simp only [aT.r,aT.g,lt,List.length_map,dI h8,cond_false,hs,ak,KO hF _ (.inr h7),dI h1,dP h7,cond_true,e0,z1,aI.fT,aw]
   ·obtain ⟨N,rfl⟩:=Int.eq_ofNat_of_zero_le (show 0≤n by omega)
    have d:=EL hF (f:=l) hl (by omega) (n:=N) (by omega) (by omega)
    have al:=Uc l q hl (by omega) (by omega) (by omega)
    have rd:=QY (l.map (· %q)) N q (by rw [List.length_map]; omega) (by omega) hq1 hq2
    rw [List.map_map] at rd
    have rd':di.r (l.map fun a=>((a%q:Nat):Int)) (N:Int) (q:Int)=(true,gy q (l.map (· %q)) N):=rd
    have e:gy q (l.map (· %q)) N=gy q l N:=by
     unfold gy
     congr 1
     funext i
     unfold gG
     rw [QA hq1]
    rw [e] at rd'
    have sm:=BA (gy q l N) (by unfold gy; rw [List.length_map,List.length_range]; omega)
    simp only [aT.r,aT.g,lt,List.length_map,dI h8,cond_false,hs,ak,d,dI h1,dI h7,cond_true,z0,al,rd',sm,aI.fT,aw]
end Go.Own
namespace Go.Own
theorem aT.pure (which:Int) (f:List (List Int)) (n:Int) (hw:Ty.ok (.int .i64) which) (hf:Ty.ok (.sl (.arr 4 (.int .u64))) f) (hn:Ty.ok (.int .i64) n):aT.r which f n=(true,true):=yU which f n hw hf hn
end Go.Own
set_option linter.unusedVariables false
set_option linter.unusedSimpArgs false
namespace Go.Own
open Go.IntWalk
theorem SA (a:Int):∃ n:Nat,n≤255∧eB .i64 (· &&& ·) a (255:Int)=(n:Int):=by
 have h:(BitVec.ofInt 64 a&&& BitVec.ofInt 64 255).toNat≤255:=by
  rw [BitVec.toNat_and]
  exact Nat.and_le_right
 refine ⟨(BitVec.ofInt 64 a&&& BitVec.ofInt 64 255).toNat,h,?_⟩
 show IntKind.i64.wrap _=_
 exact oh _ (Nat.lt_of_le_of_lt h (by decide))
def tak (s:Int) (i:Nat):Bool:=eB .i64 (· &&& ·) (s.fdiv (2^(min i 64))) (1:Int)== 1
def jK (s:Int) (j:Nat):List Nat:=((List.range j).filter (tak s)).map (· +1)
theorem Im (s:Int) (j:Nat):jK s (j+1)=if tak s j then jK s j++ [j+1] else jK s j:=by
 unfold jK
 rw [List.range_succ,List.filter_append,List.map_append]
 by_cases h:tak s j=true
 ·rw [if_pos h]; simp [h]
 ·rw [if_neg h]; simp [h]
theorem Lb {s:Int} {j p:Nat} (h:p∈jK s j):1≤p∧p≤j:=by
 obtain ⟨i,hi,rfl⟩:=List.mem_map.1 h
 have:=List.mem_range.1 (List.mem_filter.1 hi).1
 omega
theorem Cn (s:Int) (j:Nat):(jK s j).Pairwise (· < ·):=by
 unfold jK
 rw [List.pairwise_map]
 exact (List.pairwise_lt_range.filter _).imp fun h=>by omega
theorem Cm (s:Int) (j:Nat):(jK s j).length≤j:=by
 unfold jK
 rw [List.length_map]
 exact Nat.le_trans (List.length_filter_le _ _) (by rw [List.length_range]; exact Nat.le_refl j)
theorem Jg {q:Nat} {f:List Nat} {n j:Nat} (h:j<n) (d:qL):(gy q f n).getD j d=gG q f (j+1):=pO h
theorem KP {q:Nat} (f:List Nat) (F:List (List Int)) (s:Int) (gx:Option fA):aH.l0 (F,s,false,gx,gy q f 7,(),0,()) ((true,[]),())=
  (true,1,(F,s,false,gx,gy q f 7,(),7,()),(((jK s 7).isEmpty,(jK s 7).map (gG q f)),()),(),()):=by
 have hlen:(gy q f 7).length=7:=by unfold gy; simp
 have key:aH.l0 (F,s,false,gx,gy q f 7,(),((0:Nat):Int),()) (((jK s 0).isEmpty,(jK s 0).map (gG q f)),())=
  (true,1,(F,s,false,gx,gy q f 7,(),((7:Nat):Int),()),(((jK s 7).isEmpty,(jK s 7).map (gG q f)),()),(),()):=by
  refine bR (g:=fun rq kn ke kr x y=>aH.g0 rq kn ke kr x y) 7 (fun j=>(F,s,false,gx,gy q f 7,(),(j:Int),())) (fun j=>(((jK s j).isEmpty,(jK s j).map (gG q f)),())) _ ?_ ?_ _ 0 (Nat.zero_le _) (by show 7 - 0<((7:Int) - ((0:Nat):Int)).toNat+1; omega)
  ·intro j R hj
   have g1:=Jg (q:=q) (f:=f) hj (0,([0,0,0,0],()))
   have w1:IntKind.i64.wrap ((j:Int)+1)=((j+1:Nat):Int):=i64_in _ (by omega)
   have c1:nle ((2*((jK s j).length+1)+512)*40) 70368744177664=true:=sF (by have:=Cm s j; omega)
   have ps:=Im s j
   obtain ⟨b,hb⟩:∃ b,b=tak s j:=⟨_,rfl⟩
   have hb':(eB .i64 (· &&& ·) (s.fdiv (2^(min j 64))) (1:Int)== 1)=b:=hb.symm
   rw [← hb] at ps
   simp only [aH.g0,lt,dP (show (j:Int)<7 by omega),cond_true,hlen,dP (show (j:Int)<((7:Nat):Int) by omega),fI (show (0:Int)≤(j:Int) by omega),dI (show ¬ (j:Int)<0 by omega),Bool.not_false,ak,Bool.and_self,Int.toNat_natCast,hb',g1,List.length_map,c1,w1,Bool.and_false]
   cases b with
   |true=>
    rw [if_pos rfl] at ps
    simp only [cond_true]
    have e1:(jK s (j+1)).isEmpty=false:=by rw [ps]; simp
    have e2:(jK s j).map (gG q f)++ [gG q f (j+1)]=(jK s (j+1)).map (gG q f):=by rw [ps,List.map_append]; rfl
    rw [e1,e2]
   |false=>
    rw [if_neg (by decide)] at ps
    simp only [cond_false]
    rw [ps]
  ·intro R
   simp only [aH.g0,lt,dI (show ¬ ((7:Nat):Int)<7 by decide),cond_false]
 exact key
theorem Bz (which:Int) (f:List (List Int)) (s:Int) (hf:Ty.ok (.sl (.arr 4 (.int .u64))) f):aH.r which f s=(true,true):=by
 have hf':∀ a∈f,Ty.ok (.arr 4 (.int .u64)) a:=by
  first
  |exact hf
  |exact hf.2
  |exact hf.1
 obtain ⟨l,rfl,hl⟩:=vE f hf'
 have aw:=KA
 by_cases h1:(l.length:Int)<1
 ·simp only [aH.r,aH.g,lt,List.length_map,dP h1,cond_true,aI.fT,aw,ak]
 ·by_cases h7:(7:Int)<(l.length:Int)
  ·simp only [aH.r,aH.g,lt,List.length_map,dI h1,cond_false,dP h7,cond_true,aI.fT,aw,ak]
  ·obtain ⟨n,hn,hand⟩:=SA which
   have ht:((n:Int)).tmod 3=((n%3:Nat):Int):=uO n 3
   have hr:(ile 0 ((n%3:Nat):Int)&&ilt ((n%3:Nat):Int) 3)=true:=by rw [fI (by omega),dP (by omega)]; rfl
   obtain ⟨q,gv,hF,hs,hG⟩:∃ q gv,Fld (some gv) q∧Small q∧iZ.r (([(nE.map fO,(limbs mD,())),(nD.map fO,(limbs mr,())),(pW.map fO,(limbs nR,()))]:List ((List ((List Int)×(Int×Unit)))×((List Int)×Unit))).getD (n%3) ([],([0,0,0,0],())))=(true,1,(none,0),(0,gv)):=by
    obtain ⟨g1,k1,e1⟩:=AX
    obtain ⟨g2,k2,e2⟩:=AU
    obtain ⟨g3,k3,e3⟩:=IX
    have h3:n%3=0∨n%3=1∨n%3=2:=by omega
    rcases h3 with h3|h3|h3<;>rw [h3]
    ·exact ⟨_,g1,k1.fld,vW,e1⟩
    ·exact ⟨_,g2,k2.fld,vV,e2⟩
    ·exact ⟨_,g3,k3.fld,DC,e3⟩
   haveI:NeZero q:=⟨by have:=hF.gt; omega⟩
   have hlen:(gy q l 7).length=7:=by unfold gy; simp
   have d7:=EL hF (f:=l) hl (by omega) (n:=7) (by decide) (by decide)
   have d7':bZ.r (some gv) (l.map limbs) 7=(true,gy q l 7,0):=d7
   have w1:IntKind.i64.wrap ((l.length:Int) - 1)=((l.length - 1:Nat):Int):=by rw [i64_in _ (by omega)]; omega
   have z0:((0:Int) != 0)=false:=rfl
   have z1:((0:Int)== 0)=true:=rfl
   have z3:((3:Int)== 3)=true:=rfl
   have z7:(((7:Nat):Int) != 7)=false:=rfl
   have hp:∀ p∈jK s 7,1≤p∧p≤7:=fun p h=>Lb h
   have hpl:=Cm s 7
   have sm:=BA (gy q l 7) (by rw [hlen]; decide)
   by_cases hc:(jK s 7).length≤l.length - 1
   ·have rc:=Ht hF (f:=l) hp (Cn s 7) hpl (d:=l.length - 1) (by omega) hc
    simp only [aH.r,aH.g,lt,List.length_map,dI h1,cond_false,dI h7,eY.fT,EG,eX.fT,EF,gQ.fT,KM,ak,hand,ht,hr,Int.toNat_natCast,hG,show Nat.beq 1 0=false from rfl,d7',z0,hlen,z7,KP,w1,rc,show Nat.beq 0 0=true from rfl,cond_true,dP (show ((jK s 7).length:Int)<(l.length:Int) by omega),z3,aI.fT,aw]
   ·obtain ⟨L,m,fl,a1,a2,a3,a4,a5⟩:=yc hF hs (f:=l) hl hp (Cn s 7) hpl (d:=l.length - 1) (by omega) (by omega) (by omega)
    rw [if_neg (by omega)] at a5
    have hLW:∀ a∈L.take m,a<ay:=fun a h=>Nat.lt_trans (a1 a (List.mem_of_mem_take h)) hF.lt
    have hml:(L.take m).length=m:=by rw [List.length_take]; omega
    have e2:gy q (L.take m) 7=gy q l 7:=by
     unfold gy
     congr 1
     funext i
     unfold gG
     rw [Og (by have:=hF.gt; omega) a4]
    have dd:=EL hF (f:=L.take m) hLW (by omega) (n:=7) (by decide) (by decide)
    rw [e2] at dd
    have dd':bZ.r (some gv) ((L.take m).map limbs) 7=(true,gy q l 7,0):=dd
    simp only [aH.r,aH.g,lt,List.length_map,dI h1,cond_false,dI h7,eY.fT,EG,eX.fT,EF,gQ.fT,KM,ak,hand,ht,hr,Int.toNat_natCast,hG,show Nat.beq 1 0=false from rfl,d7',z0,hlen,z7,KP,w1,a5,cond_true,dI (show ¬ ((jK s 7).length:Int)<(l.length:Int) by omega),List.drop_zero,← List.map_take,dd',z1,sm,hml,fI (show (m:Int)≤(l.length:Int) by omega),aI.fT,aw]
theorem aH.pure (which:Int) (f:List (List Int)) (s:Int) (hw:Ty.ok (.int .i64) which) (hf:Ty.ok (.sl (.arr 4 (.int .u64))) f) (hn:Ty.ok (.int .i64) s):aH.r which f s=(true,true):=Bz which f s hf
end Go.Own
