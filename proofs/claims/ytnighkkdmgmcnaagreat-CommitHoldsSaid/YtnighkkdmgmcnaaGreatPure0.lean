/- What is proved: what the printed functions answer, in plain numbers and lists. Conditions: those that each theorem names. -/
import Derived.Test.YtnighkkdmgmcnaaGreatW14
import Derived.IntWalk
import Derived.Test.YtnighkkdmgmcnaaGreatG9
set_option linter.unusedVariables false
set_option linter.unusedSimpArgs false
set_option linter.unusedVariables false
namespace Go.Own
open Go.IntWalk
theorem aj {W:Type} (z:Bool×W):chk true z=z:=by obtain ⟨a,b⟩:=z; rfl
section
variable {X Y U V:Type} {g:(Bool→Bool×Nat×X×Y×U×V→Bool×Nat×X×Y×U×V)→(X→Y→Bool×Nat×X×Y×U×V)→(Nat→X→Y→Bool×Nat×X×Y×U×V)→(U→V→Bool×Nat×X×Y×U×V)→X→Y→Bool×Nat×X×Y×U×V} {u0:U} {v0:V}
theorem FC (I:X→Y→Prop) (m:X→Y→Nat) (Q:Bool×Nat×X×Y×U×V→Prop)
  (h:∀ x y (R:X→Y→Bool×Nat×X×Y×U×V),I x y→(∀ x' y',I x' y'→m x' y'<m x y→Q (R x' y'))→Q (g chk R (fun e x y=>(true,e+1,x,y,u0,v0)) (fun u v=>(true,0,x,y,u,v)) x y)):
  ∀ (q:Nat) x y,I x y→m x y<q→Q (rounds g u0 v0 q x y):=by
 intro q
 induction q with
 |zero=>intro x y _ h; omega
 |succ q ih=>
  intro x y hI hm
  exact h x y _ hI fun x' y' hI' hm'=>ih x' y' hI' (by omega)
theorem jw {w:Bool×Nat×X×Y×U×V} {q:Nat} {x:X} {y:Y} (hw:w=rounds g u0 v0 q x y) (I:X→Y→Prop) (m:X→Y→Nat) (hI:I x y) (hm:m x y<q) {Q:Bool×Nat×X×Y×U×V→Prop}
  (h:∀ x y (R:X→Y→Bool×Nat×X×Y×U×V),I x y→(∀ x' y',I x' y'→m x' y'<m x y→Q (R x' y'))→Q (g chk R (fun e x y=>(true,e+1,x,y,u0,v0)) (fun u v=>(true,0,x,y,u,v)) x y)):Q w:=
 hw ▸ FC I m Q h q x y hI hm
theorem bK (N:Nat) (fx:Nat→X) (fy:Nat→Y) (w:Bool×Nat×X×Y×U×V)
  (hs:∀ i (R:X→Y→Bool×Nat×X×Y×U×V),i<N→g chk R (fun e x y=>(true,e+1,x,y,u0,v0)) (fun u v=>(true,0,fx i,fy i,u,v)) (fx i) (fy i)=R (fx (i+1)) (fy (i+1)))
  (he:∀ (R:X→Y→Bool×Nat×X×Y×U×V),g chk R (fun e x y=>(true,e+1,x,y,u0,v0)) (fun u v=>(true,0,fx N,fy N,u,v)) (fx N) (fy N)=w):
  ∀ (q i:Nat),i≤N→N - i<q→rounds g u0 v0 q (fx i) (fy i)=w:=by
 intro q
 induction q with
 |zero=>intro i _ h; omega
 |succ q ih=>
  intro i hi hq
  simp only [rounds]
  rcases Nat.lt_or_ge i N with h|h
  ·rw [hs i _ h]; exact ih (i+1) h (by omega)
  ·have:i=N:=by omega
   subst this; exact he _
end
section
variable {k v:Ty} (hk:∀ a b:k.den,eqK k a b=true↔a=b)
end
theorem cK {a b:Int} (h:a<b):ilt a b=true:=decide_eq_true h
theorem dJ {a b:Int} (h:¬ a<b):ilt a b=false:=decide_eq_false h
theorem bJ {a b:Int} (h:a≤b):ile a b=true:=decide_eq_true h
theorem lQ {a b:Int} (h:¬ a≤b):ile a b=false:=decide_eq_false h
theorem TV {a b:Int} (h:a=b):ieq a b=true:=decide_eq_true h
theorem NQ (a:Int):ieq a a=true:=TV rfl
theorem Gr {a b:Int} (h:¬ a=b):ieq a b=false:=decide_eq_false h
theorem TR {a b:Nat} (h:a<b):nlt a b=true:=decide_eq_true h
theorem rT {a b:Nat} (h:a≤b):nle a b=true:=decide_eq_true h
theorem Kj {a b:Int}:ilt a b=true↔a<b:=decide_eq_true_iff
theorem Kk {a b:Int}:ieq a b=true↔a=b:=decide_eq_true_iff
theorem rng {i n:Nat} (h:i<n):(ile 0 (i:Int)&&ilt (i:Int) (n:Int))=true:=by
 rw [bJ (by omega),cK (by omega)]; rfl
theorem Iq {α:Type} {l:List α} {i:Nat} (h:i<l.length):(ile 0 (i:Int)&&ilt (i:Int) (l.length:Int))=true:=rng h
theorem oW (n:Nat) (h:n<9223372036854775808):IntKind.i64.wrap (n:Int)=n:=i64_in _ (by omega)
theorem Ux {n:Int} (h: -9223372036854775808≤n) (h2:n<9223372036854775808):IntKind.i64.wrap n=n:=i64_in _ (by omega)
theorem pU (i:Nat) (h:i<9223372036854775807):IntKind.i64.wrap ((i:Int)+1)=((i+1:Nat):Int):=i64_in _ (by omega)
theorem getD_lt {α:Type} {l:List α} {i:Nat} {d:α} (h:i<l.length):l.getD i d=l[i]:=by simp [List.getD_eq_getElem?_getD,h]
end Go.Own
set_option linter.unusedVariables false
namespace Go.Own
open Go.IntWalk
theorem su (n:Nat) (h:n<18446744073709551616):IntKind.u64.wrap (n:Int)=n:=u64_in _ (by omega)
theorem PU (n:Nat):IntKind.u64.wrap (n:Int)=((n%18446744073709551616:Nat):Int):=by
 simp only [IntKind.wrap,IntKind.bits,IntKind.signed,Bool.false_and,Bool.false_eq_true,if_false]
 omega
theorem u8m (n:Nat):IntKind.u8.wrap (n:Int)=((n%256:Nat):Int):=by
 simp only [IntKind.wrap,IntKind.bits,IntKind.signed,Bool.false_and,Bool.false_eq_true,if_false]
 omega
theorem wB (a b:Nat):(a:Int).tdiv (b:Int)=((a/b:Nat):Int):=(Int.ofNat_tdiv a b).symm
theorem yK (a b:Nat):(a:Int).tmod (b:Int)=((a%b:Nat):Int):=(Int.ofNat_tmod a b).symm
theorem xh (a b:Nat):(a:Int).fdiv (b:Int)=((a/b:Nat):Int):=(Int.ofNat_fdiv a b).symm
theorem tZ (n:Nat):(2:Int)^n=((2^n:Nat):Int):=by simp
theorem mo (n w:Nat):BitVec.ofInt w (n:Int)=BitVec.ofNat w n:=by
 apply BitVec.eq_of_toInt_eq
 simp
theorem x9 (a b:Nat) (ha:a<18446744073709551616) (hb:b<18446744073709551616):eU .u64 (· &&& ·) (a:Int) (b:Int)=((a&&& b:Nat):Int):=by
 show IntKind.u64.wrap (((BitVec.ofInt 64 (a:Int))&&& (BitVec.ofInt 64 (b:Int))).toNat:Int)=_
 rw [mo,mo,BitVec.toNat_and,BitVec.toNat_ofNat,BitVec.toNat_ofNat]
 rw [Nat.mod_eq_of_lt ha,Nat.mod_eq_of_lt hb]
 exact su _ (Nat.lt_of_le_of_lt Nat.and_le_left ha)
theorem J3 {a b:Nat} (ha:a<18446744073709551616) (hb:b<18446744073709551616):a||| b<18446744073709551616:=Nat.or_lt_two_pow (n:=64) ha hb
theorem oC (a b:Nat) (ha:a<18446744073709551616) (hb:b<18446744073709551616):eU .u64 (· ||| ·) (a:Int) (b:Int)=((a||| b:Nat):Int):=by
 show IntKind.u64.wrap (((BitVec.ofInt 64 (a:Int))||| (BitVec.ofInt 64 (b:Int))).toNat:Int)=_
 rw [mo,mo,BitVec.toNat_or,BitVec.toNat_ofNat,BitVec.toNat_ofNat]
 rw [Nat.mod_eq_of_lt ha,Nat.mod_eq_of_lt hb]
 exact su _ (J3 ha hb)
theorem AR (a b:Nat) (ha:a<9223372036854775808) (hb:b<9223372036854775808):eU .i64 (· &&& ·) (a:Int) (b:Int)=((a&&& b:Nat):Int):=by
 show IntKind.i64.wrap (((BitVec.ofInt 64 (a:Int))&&& (BitVec.ofInt 64 (b:Int))).toNat:Int)=_
 rw [mo,mo,BitVec.toNat_and,BitVec.toNat_ofNat,BitVec.toNat_ofNat]
 rw [Nat.mod_eq_of_lt (by omega),Nat.mod_eq_of_lt (by omega)]
 exact oW _ (Nat.lt_of_le_of_lt Nat.and_le_left ha)
theorem CW (a b:Nat) (ha:a<9223372036854775808) (hb:b<9223372036854775808):eU .i64 (· ||| ·) (a:Int) (b:Int)=((a||| b:Nat):Int):=by
 show IntKind.i64.wrap (((BitVec.ofInt 64 (a:Int))||| (BitVec.ofInt 64 (b:Int))).toNat:Int)=_
 rw [mo,mo,BitVec.toNat_or,BitVec.toNat_ofNat,BitVec.toNat_ofNat]
 rw [Nat.mod_eq_of_lt (by omega),Nat.mod_eq_of_lt (by omega)]
 exact oW _ (Nat.or_lt_two_pow (n:=63) ha hb)
theorem zJ (a:Nat):(a:Int).tdiv 64=((a/64:Nat):Int):=wB a 64
theorem zD (a:Nat):(a:Int).tmod 64=((a%64:Nat):Int):=yK a 64
theorem vV (x:Nat) (h:x<18446744073709551616):eU .u64 (· &&& ·) (x:Int) 1=((x&&& 1:Nat):Int):=x9 x 1 h (by decide)
theorem yU (x:Nat) (h:x<9223372036854775808):eU .i64 (· &&& ·) (x:Int) 1=((x&&& 1:Nat):Int):=AR x 1 h (by decide)
theorem and_one (x:Nat):x&&& 1=(x.testBit 0).toNat:=by
 rw [Nat.and_one_is_mod,Nat.testBit_zero]
 rcases Nat.mod_two_eq_zero_or_one x with h|h<;>simp [h]
theorem uE (b:Bool):(((b.toNat:Nat):Int)== 1)=b:=by cases b<;>rfl
def limb (n i:Nat):Nat:=n/2^(64*i)%18446744073709551616
def limbs (n:Nat):List Int:= [(limb n 0:Int),(limb n 1:Int),(limb n 2:Int),(limb n 3:Int)]
theorem aQ (n i:Nat):limb n i<18446744073709551616:=Nat.mod_lt _ (by decide)
theorem iL (n i t:Nat):(limb n i).testBit t=(decide (t<64)&&n.testBit (64*i+t)):=by
 unfold limb
 rw [show (18446744073709551616:Nat)=2^64 by decide,Nat.testBit_mod_two_pow,Nat.testBit_div_two_pow]
 rw [Nat.add_comm t]
theorem aL (n i:Nat) (h:i<4):(limbs n).getD i 0=(limb n i:Int):=by
 match i,h with
 |0,_=>rfl
 |1,_=>rfl
 |2,_=>rfl
 |3,_=>rfl
theorem CO (n:Nat):(limbs n).length=4:=rfl
def jY (a b c d:Nat):Nat:=a+18446744073709551616*b+340282366920938463463374607431768211456*c+6277101735386680763835789423207666416102355444464034512896*d
theorem qZ {a b c d:Nat} (ha:a<18446744073709551616) (hb:b<18446744073709551616) (hc:c<18446744073709551616) (hd:d<18446744073709551616):
  limb (jY a b c d) 0=a∧limb (jY a b c d) 1=b∧limb (jY a b c d) 2=c∧limb (jY a b c d) 3=d∧jY a b c d<115792089237316195423570985008687907853269984665640564039457584007913129639936:=by
 unfold limb jY
 simp only [Nat.mul_zero,Nat.pow_zero,Nat.div_one,Nat.mul_one,show 64*2=128 by rfl,show 64*3=192 by rfl,show (2:Nat)^64=18446744073709551616 by decide,show (2:Nat)^128=340282366920938463463374607431768211456 by decide,show (2:Nat)^192=6277101735386680763835789423207666416102355444464034512896 by decide]
 refine ⟨?_,?_,?_,?_,?_⟩<;>omega
theorem iY (n:Nat) (h:n<115792089237316195423570985008687907853269984665640564039457584007913129639936):jY (limb n 0) (limb n 1) (limb n 2) (limb n 3)=n:=by
 unfold limb jY
 simp only [Nat.mul_zero,Nat.pow_zero,Nat.div_one,Nat.mul_one,show 64*2=128 by rfl,show 64*3=192 by rfl,show (2:Nat)^64=18446744073709551616 by decide,show (2:Nat)^128=340282366920938463463374607431768211456 by decide,show (2:Nat)^192=6277101735386680763835789423207666416102355444464034512896 by decide]
 omega
theorem FX {a:List Int} (h:Ty.ok (.arr 4 (.int .u64)) a):∃ n,n<115792089237316195423570985008687907853269984665640564039457584007913129639936∧a=limbs n:=by
 obtain ⟨hl,hw⟩:=h
 match a,hl with
 | [a,b,c,d],_=>
  have q:∀ x∈ [a,b,c,d],0≤x∧x<18446744073709551616:=fun x hx=>by
   have:=hw x hx
   simp only [Ty.ok,Lit.wf,IntKind.min,IntKind.max,IntKind.signed,IntKind.bits,Bool.and_eq_true,decide_eq_true_eq,Bool.false_eq_true,if_false] at this
   omega
  have qa:=q a (by simp); have qb:=q b (by simp); have qc:=q c (by simp); have qd:=q d (by simp)
  obtain ⟨e1,e2,e3,e4,e5⟩:=qZ (a:=a.toNat) (b:=b.toNat) (c:=c.toNat) (d:=d.toNat) (by omega) (by omega) (by omega) (by omega)
  refine ⟨_,e5,?_⟩
  unfold limbs
  rw [e1,e2,e3,e4]
  simp only [List.cons.injEq,and_true]
  omega
theorem sJ {n:Nat} {r i:Nat} (hr:r<18446744073709551616) (h:∀ t,t<64→r.testBit t=n.testBit (64*i+t)):r=limb n i:=by
 apply Nat.eq_of_testBit_eq
 intro t
 rw [iL]
 by_cases ht:t<64
 ·simp [ht,h t ht]
 ·have:r<2^t:=Nat.lt_of_lt_of_le hr (by rw [show (18446744073709551616:Nat)=2^64 by decide]; exact Nat.pow_le_pow_right (by decide) (by omega))
  simp [ht,Nat.testBit_lt_two_pow this]
def bitsOf (n:Nat):List Bool:=(List.range 256).map n.testBit
theorem jP (n i:Nat) (h:i<256):(bitsOf n).getD i false=n.testBit i:=by
 simp [bitsOf,List.getD_eq_getElem?_getD,List.getElem?_map,List.getElem?_range h]
def l8 (n i:Nat):List Bool:=(List.range 256).map fun k=>decide (k<i)&&n.testBit k
theorem uF (n:Nat):l8 n 0=List.replicate 256 false:=by
 unfold l8
 apply List.ext_getElem?
 intro k
 simp only [List.getElem?_map,List.getElem?_replicate]
 by_cases h:k<256<;>simp [h,List.getElem?_range]
theorem tq (n:Nat):l8 n 256=bitsOf n:=by
 unfold l8 bitsOf
 apply List.map_congr_left
 intro k hk
 have:k<256:=by simpa using hk
 simp [this]
theorem Bl (n i:Nat) (h:i<256):(l8 n i).set i (n.testBit i)=l8 n (i+1):=by
 unfold l8
 apply List.ext_getElem?
 intro k
 rw [List.getElem?_set]
 simp only [List.length_map,List.length_range,List.getElem?_map]
 by_cases hk:i=k
 ·subst hk; simp [h]
 ·rw [if_neg hk]
  by_cases h2:k<256
  ·simp only [List.getElem?_range h2,Option.map_some]
   congr 1
   have:decide (k<i)=decide (k<i+1):=decide_eq_decide.2 (by omega)
   rw [this]
  ·simp [List.getElem?_eq_none (show (List.range 256).length≤k by simpa using h2)]
end Go.Own
set_option linter.unusedVariables false
set_option linter.unusedSimpArgs false
namespace Go.Own
open Go.IntWalk
abbrev au:Nat:=115792089237316195423570985008687907853269984665640564039457584007913129639936
theorem UH (n:Nat) (z:List Bool):cZ.l0 ((),(),(),0,()) (limbs n,z,(List.replicate 256 false:List Bool),())=(true,1,((),(),(),256,()),(limbs n,z,bitsOf n,()),(),()):=by
 rw [← uF n]
 refine bK 256 (fun i=>((),(),(),(i:Int),())) (fun i=>(limbs n,z,l8 n i,())) _ ?_ ?_ _ 0 (by decide) (by simp only [cZ.fu0]; decide)
 ·intro i R h
  have h1:(i:Int)<256:=by omega
  have h2:(0:Int)≤((i/64:Nat):Int)∧((i/64:Nat):Int)<4:=by omega
  have h3:¬ ((i%64:Nat):Int)<0:=by omega
  have h4:(0:Int)≤(i:Int):=by omega
  have hx:limb n (i/64)/2^(i%64)<18446744073709551616:=Nat.lt_of_le_of_lt (Nat.div_le_self _ _) (aQ _ _)
  have hb:((((limb n (i/64)/2^(i%64)&&& 1:Nat):Int))== 1)=n.testBit i:=by
   rw [and_one,uE,Nat.testBit_div_two_pow,iL]
   have:decide (0+i%64<64)=true:=by simp; omega
   rw [this,Bool.true_and,show 64*(i/64)+(0+i%64)=i by omega]
  simp only [cZ.g0,lt,ilt,ile,ieq,h1,decide_true,cond_true,zJ,zD,oW (i/64) (by omega),Int.toNat_natCast,aL n (i/64) (by omega),Nat.min_eq_left (show i%64≤64 by omega),tZ,xh,h2.1,h2.2,h3,h4,decide_false,Bool.not_false,Bool.and_true,aj,
   vV _ hx,hb,Bl n i h,pU i (by omega)]
 ·intro R
  simp only [cZ.g0,lt,ilt,ile,ieq,show ¬ ((256:Nat):Int)<256 by omega,decide_false,cond_false,tq]
  rfl
theorem Tj (n:Nat):cZ.r (limbs n)=(true,bitsOf n):=by
 simp only [cZ.r,cZ.g,lt,ilt,ile,ieq,UH,aj]
theorem kL (n i t:Nat):(n%2^i).testBit t=(decide (t<i)&&n.testBit t):=Nat.testBit_mod_two_pow n i t
theorem CK (n m i:Nat) (h:i<4) (h1:∀ j,j<4→j≠i→limb n j=limb m j) (x:Nat) (hx:x=limb m i):(limbs n).set i (x:Int)=limbs m:=by
 subst hx
 unfold limbs
 match i,h with
 |0,_=>simp [h1 1,h1 2,h1 3]
 |1,_=>simp [h1 0,h1 2,h1 3]
 |2,_=>simp [h1 0,h1 1,h1 3]
 |3,_=>simp [h1 0,h1 1,h1 2]
theorem DJ (n i:Nat) (h:i<256) (hb:n.testBit i=true):(limbs (n%2^i)).set (i/64) ((limb (n%2^i) (i/64)||| 2^(i%64):Nat):Int)=limbs (n%2^(i+1)):=by
 refine CK _ _ _ (by omega) (fun j hj hne=> ?_) _ ?_
 ·apply sJ (aQ _ _)
  intro t ht
  rw [iL,kL,kL]
  have:decide (64*j+t<i)=decide (64*j+t<i+1):=decide_eq_decide.2 (by omega)
  rw [this]; simp [ht]
 ·apply sJ (J3 (aQ _ _) (Nat.lt_of_lt_of_le (Nat.pow_lt_pow_right (by decide) (show i%64<64 by omega)) (by decide)))
  intro t ht
  rw [Nat.testBit_or,iL,kL,kL,Nat.testBit_two_pow]
  simp only [ht,decide_true,Bool.true_and]
  by_cases he:i%64=t
  ·have e:64*(i/64)+t=i:=by omega
   rw [e]; simp [he,hb]
  ·have:decide (64*(i/64)+t<i)=decide (64*(i/64)+t<i+1):=decide_eq_decide.2 (by omega)
   rw [this]; simp [he]
theorem F6 (n i:Nat) (hb:n.testBit i=false):n%2^(i+1)=n%2^i:=by
 apply Nat.eq_of_testBit_eq
 intro t
 rw [kL,kL]
 by_cases he:t=i
 ·subst he; simp [hb]
 ·have:decide (t<i+1)=decide (t<i):=decide_eq_decide.2 (by omega)
  rw [this]
theorem Ug (n:Nat) (hn:n<au) (z:List Int):dQ.l0 ((),(),(),0,()) (bitsOf n,z,[0,0,0,0],())=(true,1,((),(),(),256,()),(bitsOf n,z,limbs n,()),(),()):=by
 have e0:([0,0,0,0]:List Int)=limbs (n%2^0):=by simp [limbs,limb,Nat.mod_one]
 rw [e0]
 refine bK 256 (fun i=>((),(),(),(i:Int),())) (fun i=>(bitsOf n,z,limbs (n%2^i),())) _ ?_ ?_ _ 0 (by decide) (by simp only [dQ.fu0]; decide)
 ·intro i R h
  have h1:(i:Int)<256:=by omega
  have h2:(0:Int)≤((i/64:Nat):Int)∧((i/64:Nat):Int)<4:=by omega
  have h3:¬ ((i%64:Nat):Int)<0:=by omega
  have h4:(0:Int)≤(i:Int):=by omega
  have hp:2^(i%64)<18446744073709551616:=Nat.lt_of_lt_of_le (Nat.pow_lt_pow_right (by decide) (show i%64<64 by omega)) (by decide)
  cases hb:n.testBit i with
  |true=>
   simp only [dQ.g0,lt,ilt,ile,ieq,h1,decide_true,cond_true,zJ,zD,oW (i/64) (by omega),Int.toNat_natCast,aL _ (i/64) (show i/64<4 by omega),Nat.min_eq_left (show i%64≤64 by omega),tZ,h2.1,h2.2,h3,h4,decide_false,Bool.not_false,Bool.and_true,aj,
    jP n i h,hb,Int.one_mul,su _ hp,oC _ _ (aQ _ _) hp,DJ n i h hb,pU i (by omega)]
  |false=>
   simp only [dQ.g0,lt,ilt,ile,ieq,h1,decide_true,cond_true,Int.toNat_natCast,h4,Bool.and_true,aj,jP n i h,hb,cond_false,pU i (by omega),F6 n i hb]
 ·intro R
  simp only [dQ.g0,lt,ilt,ile,ieq,show ¬ ((256:Nat):Int)<256 by omega,decide_false,cond_false]
  rw [Nat.mod_eq_of_lt (show n<2^256 from hn)]
  rfl
theorem RJ (n:Nat) (hn:n<au):dQ.r (bitsOf n)=(true,limbs n):=by
 simp only [dQ.r,dQ.g,lt,ilt,ile,ieq,Ug n hn,aj]
end Go.Own
set_option linter.unusedVariables false
set_option linter.unusedSimpArgs false
namespace Go.Own
open Go.IntWalk
theorem Ul (n:Nat) (hn:n<9223372036854775808) (z:List Int):∃ k:Int,aM.l0 ((n:Int),(),(),0,()) (z,(List.replicate 256 false:List Bool),())=(true,1,((n:Int),(),(),k,()),(z,bitsOf n,()),(),()):=by
 rw [← uF n]
 by_cases h0:n=0
 ·subst h0
  refine ⟨0,?_⟩
  have e:l8 0 0=bitsOf 0:=by
   rw [← tq]
   unfold l8
   apply List.map_congr_left
   intro k _
   simp
  refine bK 0 (fun i=>(((0:Nat):Int),(),(),(i:Int),())) (fun i=>(z,l8 0 i,())) _ (fun i R h=>by omega) ?_ _ 0 (by decide) (by simp only [aM.fu0]; decide)
  intro R
  simp only [aM.g0,lt,ilt,ile,ieq,show ((0:Nat):Int)<63 by omega,show ¬ ((0:Nat):Int)>0 by omega,decide_false,cond_false,decide_true,cond_true,e]
  rfl
 ·refine ⟨63,?_⟩
  have e:l8 n 63=bitsOf n:=by
   rw [← tq]
   unfold l8
   apply List.map_congr_left
   intro k hk
   have hk:k<256:=by simpa using hk
   by_cases h:k<63
   ·simp [h,hk]
   ·have:n<2^k:=Nat.lt_of_lt_of_le hn (Nat.le_trans (by decide) (Nat.pow_le_pow_right (by decide) (show 63≤k by omega)))
    simp [Nat.testBit_lt_two_pow this]
  refine bK 63 (fun i=>((n:Int),(),(),(i:Int),())) (fun i=>(z,l8 n i,())) _ ?_ ?_ _ 0 (by decide) (by simp only [aM.fu0]; decide)
  ·intro i R h
   have hx:n/2^i<9223372036854775808:=Nat.lt_of_le_of_lt (Nat.div_le_self _ _) hn
   have hb:((((n/2^i&&& 1:Nat):Int))== 1)=n.testBit i:=by
    rw [and_one,uE,Nat.testBit_div_two_pow,Nat.zero_add]
   simp only [aM.g0,lt,ilt,ile,ieq,show (i:Int)<63 by omega,show (n:Int)>0 by omega,decide_true,cond_true,Int.toNat_natCast,Nat.min_eq_left (show i≤64 by omega),tZ,xh,show ¬ (i:Int)<0 by omega,decide_false,Bool.not_false,aj,
    yU _ hx,hb,show (0:Int)≤(i:Int) by omega,show (i:Int)<256 by omega,Bool.and_true,Bl n i (by omega),pU i (by omega)]
  ·intro R
   simp only [aM.g0,lt,ilt,ile,ieq,show ¬ ((63:Nat):Int)<63 by omega,decide_false,cond_false,e]
   rfl
theorem Ri (n:Int) (hn:n≤0) (z:List Int):aM.l0 (n,(),(),0,()) (z,(List.replicate 256 false:List Bool),())=(true,1,(n,(),(),0,()),(z,bitsOf 0,()),(),()):=by
 have e:(List.replicate 256 false:List Bool)=bitsOf 0:=by
  rw [← uF 0,← tq]
  unfold l8
  apply List.map_congr_left
  intro k _
  simp
 rw [e]
 refine bK 0 (fun i=>(n,(),(),(i:Int),())) (fun i=>(z,bitsOf 0,())) _ (fun i R h=>by omega) ?_ _ 0 (by decide) (by simp only [aM.fu0]; decide)
 intro R
 simp only [aM.g0,lt,ilt,ile,ieq,show ((0:Nat):Int)<63 by omega,show ¬ n>0 by omega,decide_false,cond_false,decide_true,cond_true]
 rfl
theorem Pt (n:Int) (h2:n<9223372036854775808):aM.r n=(true,limbs n.toNat):=by
 have hw:n.toNat<au:=by unfold au; omega
 by_cases h:n≤0
 ·have e:n.toNat=0:=by omega
  simp only [aM.r,aM.g,lt,ilt,ile,ieq,Ri n h,aj]
  rw [RJ 0 (by decide),e]; rfl
 ·obtain ⟨m,rfl⟩:=Int.eq_ofNat_of_zero_le (show 0≤n by omega)
  obtain ⟨k,e⟩:=Ul m (by omega) [0,0,0,0]
  simp only [aM.r,aM.g,lt,ilt,ile,ieq,e,aj,Int.toNat_natCast]
  rw [RJ m (by simpa using hw)]; rfl
def bR (n:Nat):Nat:=if n=0 then 0 else Nat.log2 n+1
theorem oh (n:Nat):n<2^bR n:=by
 unfold bR
 split
 ·rename_i h; subst h; decide
 ·exact Nat.lt_log2_self
theorem pq {n:Nat} (h:n≠0):2^(bR n - 1)≤n:=by
 unfold bR
 rw [if_neg h,Nat.add_sub_cancel]
 exact Nat.log2_self_le h
theorem OD {n:Nat} (h:n≠0):n.testBit (bR n - 1)=true:=by
 have h1:=pq h
 have h2:=oh n
 have hb:bR n=bR n - 1+1:=by unfold bR; rw [if_neg h]; omega
 rw [hb,Nat.pow_succ] at h2
 generalize bR n - 1=k at*
 rw [Nat.testBit_eq_decide_div_mod_eq]
 have:n/2^k=1:=by
  apply Nat.div_eq_of_lt_le<;>omega
 simp [this]
theorem Bj {n k:Nat} (h:bR n≤k):n.testBit k=false:=Nat.testBit_lt_two_pow (Nat.lt_of_lt_of_le (oh n) (Nat.pow_le_pow_right (by decide) h))
theorem rY {n:Nat} (h:n<au):bR n≤256:=by
 rcases Nat.lt_or_ge 256 (bR n) with h1|h1
 ·exfalso
  have hn:n≠0:=by intro e; subst e; simp [bR] at h1
  have:=pq hn
  have h3:2^256≤2^(bR n - 1):=Nat.pow_le_pow_right (by decide) (by omega)
  have h4:au=2^256:=by decide
  omega
 ·exact h1
theorem G6 {n k:Nat} (h1:n<2^k) (h2:k=0∨2^(k - 1)≤n):bR n=k:=by
 rcases Nat.lt_trichotomy (bR n) k with h|h|h
 ·exfalso
  rcases h2 with h2|h2
  ·omega
  ·have:=oh n
   have h3:2^bR n≤2^(k - 1):=Nat.pow_le_pow_right (by decide) (by omega)
   omega
 ·exact h
 ·exfalso
  have hn:n≠0:=by intro e; subst e; simp [bR] at h
  have:=pq hn
  have h3:2^k≤2^(bR n - 1):=Nat.pow_le_pow_right (by decide) (by omega)
  omega
set_option maxRecDepth 20000 in
theorem RN (n:Nat) (hn:n<au):bD.r (limbs n)=(true,(bR n:Int)):=by
 have h256:=rY hn
 simp only [bD.r,bD.g,lt,ilt,ile,ieq,Tj,aj]
 by_cases h0:n=0
 ·have hbl:bR n=0:=by rw [h0]; rfl
  have e:bD.l0 (0,(),255,()) (bitsOf n,())=(true,1,(0,(),255 - ((256:Nat):Int),()),(bitsOf n,()),(0,()),()):=by
   have hf:256 - 0<bD.fu0 (0,(),255,()) (bitsOf n,()):=by
    show 256 - 0<257
    omega
   have key:=fun h1 h2=>bK (g:=fun rq kn ke kr x y=>bD.g0 rq kn ke kr x y) (u0:=(0,())) (v0:=()) 256 (fun i=>(0,(),255 - (i:Int),())) (fun i=>(bitsOf n,())) (true,1,(0,(),255 - ((256:Nat):Int),()),(bitsOf n,()),(0,()),()) h1 h2 _ 0 (Nat.zero_le _) hf
   have e0:(0,(),255 - ((0:Nat):Int),())=((0:Int),(),(255:Int),()):=by simp
   simp only [e0] at key
   refine key ?_ ?_
   ·intro i R h
    have e1:(255 - (i:Int)).toNat=255 - i:=by omega
    have e2:IntKind.i64.wrap (255 - (i:Int) - 1)=255 - ((i+1:Nat):Int):=by rw [i64_in _ (by omega)]; omega
    simp only [bD.g0,lt,ilt,ile,ieq,show 255 - (i:Int)≥0 by omega,show (0:Int)≤255 - (i:Int) by omega,show 255 - (i:Int)<256 by omega,decide_true,cond_true,Bool.and_true,aj,e1,jP n _ (show 255 - i<256 by omega),Bj (show bR n≤255 - i by omega),cond_false,e2]
   ·intro R
    simp only [bD.g0,lt,ilt,ile,ieq,show ¬ 255 - ((256:Nat):Int)≥0 by omega,decide_false,cond_false]
  rw [e,hbl]; rfl
 ·have hb1:bR n=bR n - 1+1:=by unfold bR; rw [if_neg h0]; omega
  have e:bD.l0 (0,(),255,()) (bitsOf n,())=(true,0,(0,(),255 - ((256 - bR n:Nat):Int),()),(bitsOf n,()),((bR n:Int),()),()):=by
   have hf:256 - bR n - 0<bD.fu0 (0,(),255,()) (bitsOf n,()):=by
    show 256 - bR n - 0<257
    omega
   have key:=fun h1 h2=>bK (g:=fun rq kn ke kr x y=>bD.g0 rq kn ke kr x y) (u0:=(0,())) (v0:=()) (256 - bR n) (fun i=>(0,(),255 - (i:Int),())) (fun i=>(bitsOf n,())) (true,0,(0,(),255 - ((256 - bR n:Nat):Int),()),(bitsOf n,()),((bR n:Int),()),()) h1 h2 _ 0 (Nat.zero_le _) hf
   have e0:(0,(),255 - ((0:Nat):Int),())=((0:Int),(),(255:Int),()):=by simp
   simp only [e0] at key
   refine key ?_ ?_
   clear key e0 hf
   ·intro i R h
    have e1:(255 - (i:Int)).toNat=255 - i:=by omega
    have e2:IntKind.i64.wrap (255 - (i:Int) - 1)=255 - ((i+1:Nat):Int):=by rw [i64_in _ (by omega)]; omega
    simp only [bD.g0,lt,ilt,ile,ieq,show 255 - (i:Int)≥0 by omega,show (0:Int)≤255 - (i:Int) by omega,show 255 - (i:Int)<256 by omega,decide_true,cond_true,Bool.and_true,aj,e1,jP n _ (show 255 - i<256 by omega),Bj (show bR n≤255 - i by omega),cond_false,e2]
   ·intro R
    have e1:(255 - ((256 - bR n:Nat):Int)).toNat=bR n - 1:=by omega
    have e2:IntKind.i64.wrap (255 - ((256 - bR n:Nat):Int)+1)=(bR n:Int):=by rw [i64_in _ (by omega)]; omega
    simp only [bD.g0,lt,ilt,ile,ieq,show 255 - ((256 - bR n:Nat):Int)≥0 by omega,show (0:Int)≤255 - ((256 - bR n:Nat):Int) by omega,show 255 - ((256 - bR n:Nat):Int)<256 by omega,decide_true,cond_true,Bool.and_true,aj,e1,jP n _ (show bR n - 1<256 by omega),OD h0,e2]
  rw [e]; rfl
theorem xH (n:Nat) (hn:n<au):aW.r (limbs n)=(true,if n<9223372036854775808 then ((n:Int),true) else (0,false)):=by
 have h256:=rY hn
 simp only [aW.r,aW.g,lt,ilt,ile,ieq,RN n hn,aj]
 by_cases h:n<9223372036854775808
 ·have hb:bR n≤63:=by
   rcases Nat.lt_or_ge 63 (bR n) with h1|h1
   ·have hn0:n≠0:=by intro e; subst e; simp [bR] at h1
    have:=pq hn0
    have h3:2^63≤2^(bR n - 1):=Nat.pow_le_pow_right (by decide) (by omega)
    omega
   ·exact h1
  have e:aW.l0 (0,false,0,(),0,()) (bitsOf n,())=(true,1,(0,false,(n:Int),(),63,()),(bitsOf n,()),(),()):=by
   have e0:(0:Int)=((n%2^0:Nat):Int):=by simp [Nat.mod_one]
   conv=>lhs; rw [show ((0:Int),false,(0:Int),(),(0:Int),())=((0:Int),false,((n%2^0:Nat):Int),(),((0:Nat):Int),()) by rw [← e0]; rfl]
   refine bK 63 (fun i=>(0,false,((n%2^i:Nat):Int),(),(i:Int),())) (fun i=>(bitsOf n,())) _ ?_ ?_ _ 0 (by decide) (by simp only [aW.fu0]; decide)
   ·intro i R hi
    have hp:2^i<9223372036854775808:=Nat.lt_of_lt_of_le (Nat.pow_lt_pow_right (by decide) hi) (by decide)
    have hm:n%2^i<9223372036854775808:=Nat.lt_of_le_of_lt (Nat.mod_le _ _) h
    cases hb:n.testBit i with
    |true=>
     have e3:n%2^i||| 2^i=n%2^(i+1):=by
      apply Nat.eq_of_testBit_eq
      intro t
      rw [Nat.testBit_or,kL,kL,Nat.testBit_two_pow]
      by_cases he:i=t
      ·subst he; simp [hb]
      ·have:decide (t<i)=decide (t<i+1):=decide_eq_decide.2 (by omega)
       rw [this]; simp [he]
     simp only [aW.g0,lt,ilt,ile,ieq,show (i:Int)<63 by omega,show (0:Int)≤(i:Int) by omega,show (i:Int)<256 by omega,decide_true,cond_true,Bool.and_true,aj,Int.toNat_natCast,jP n i (by omega),hb,Nat.min_eq_left (show i≤64 by omega),tZ,Int.one_mul,oW _ hp,
      show ¬ (i:Int)<0 by omega,decide_false,Bool.not_false,CW _ _ hm hp,e3,pU i (by omega)]
    |false=>
     simp only [aW.g0,lt,ilt,ile,ieq,show (i:Int)<63 by omega,show (0:Int)≤(i:Int) by omega,show (i:Int)<256 by omega,decide_true,cond_true,Bool.and_true,aj,Int.toNat_natCast,jP n i (by omega),hb,cond_false,pU i (by omega),F6 n i hb]
   ·intro R
    simp only [aW.g0,lt,ilt,ile,ieq,show ¬ ((63:Nat):Int)<63 by omega,decide_false,cond_false]
    rw [Nat.mod_eq_of_lt (show n<2^63 from h)]
    rfl
  simp only [show ¬ (bR n:Int)>63 by omega,decide_false,cond_false,Tj,aj,e,h,if_true]
 ·have hb:63<bR n:=by
   rcases Nat.lt_or_ge 63 (bR n) with h1|h1
   ·exact h1
   ·have:=oh n
    have h3:2^bR n≤2^63:=Nat.pow_le_pow_right (by decide) h1
    omega
  simp only [show (bR n:Int)>63 by omega,decide_true,cond_true,h,if_false]
end Go.Own
set_option linter.unusedVariables false
set_option linter.unusedSimpArgs false
namespace Go.Own
open Go.IntWalk
theorem vI:au=2^256:=by decide
def uz (a b:Nat):Int:=if a<b then -1 else if b<a then 1 else 0
end Go.Own
set_option linter.unusedVariables false
set_option linter.unusedSimpArgs false
namespace Go.Own
open Go.IntWalk
theorem DI (n k i:Nat) (h:i<256):(n*2^k%au).testBit i=(decide (k≤i)&&n.testBit (i - k)):=by
 rw [vI,kL,Nat.mul_comm,Nat.testBit_two_pow_mul]
 simp [h]
def OG (n:Nat) (k:Int):Int:=if k<0 then 0 else ((n.testBit k.toNat).toNat:Int)
theorem lX {a b c d:Nat} (ha:a<18446744073709551616) (hb:b<18446744073709551616) (hc:c<18446744073709551616) (hd:d<18446744073709551616) {n:Nat} (h:n=jY a b c d):limbs n= [(a:Int),(b:Int),(c:Int),(d:Int)]:=by
 subst h
 obtain ⟨e1,e2,e3,e4,_⟩:=qZ ha hb hc hd
 unfold limbs
 rw [e1,e2,e3,e4]
theorem Pn (a b:Nat) (ha:a<au) (hb:b<au):qP.r (limbs a) (limbs b)=(true,limbs ((a+b)%au),(((a+b)/au:Nat):Int)):=by
 have va:=iY a ha
 have vb:=iY b hb
 have a0:=aQ a 0; have a1:=aQ a 1; have a2:=aQ a 2; have a3:=aQ a 3
 have b0:=aQ b 0; have b1:=aQ b 1; have b2:=aQ b 2; have b3:=aQ b 3
 simp only [qP.r,qP.g,lt,ilt,ile,ieq,aL _ 0 (by decide),aL _ 1 (by decide),aL _ 2 (by decide),aL _ 3 (by decide)]
 generalize limb a 0=x0 at *; generalize limb a 1=x1 at *; generalize limb a 2=x2 at *; generalize limb a 3=x3 at*
 generalize limb b 0=y0 at *; generalize limb b 1=y1 at *; generalize limb b 2=y2 at *; generalize limb b 3=y3 at*
 have s0:((x0:Int)+y0+0)/18446744073709551616=(((x0+y0)/18446744073709551616:Nat):Int):=by omega
 have t0:((x0:Int)+y0+0)%18446744073709551616=(((x0+y0)%18446744073709551616:Nat):Int):=by omega
 rw [s0,t0]
 have c0:(x0+y0)/18446744073709551616≤1:=by omega
 have d0:(x0+y0)%18446744073709551616+18446744073709551616*((x0+y0)/18446744073709551616)=x0+y0:=Nat.mod_add_div _ _
 have m0:(x0+y0)%18446744073709551616<18446744073709551616:=Nat.mod_lt _ (by decide)
 generalize (x0+y0)/18446744073709551616=k0 at*
 generalize (x0+y0)%18446744073709551616=r0 at*
 have s1:((x1:Int)+y1+k0)/18446744073709551616=(((x1+y1+k0)/18446744073709551616:Nat):Int):=by omega
 have t1:((x1:Int)+y1+k0)%18446744073709551616=(((x1+y1+k0)%18446744073709551616:Nat):Int):=by omega
 rw [s1,t1]
 have c1:(x1+y1+k0)/18446744073709551616≤1:=by omega
 have d1:(x1+y1+k0)%18446744073709551616+18446744073709551616*((x1+y1+k0)/18446744073709551616)=x1+y1+k0:=Nat.mod_add_div _ _
 have m1:(x1+y1+k0)%18446744073709551616<18446744073709551616:=Nat.mod_lt _ (by decide)
 generalize (x1+y1+k0)/18446744073709551616=k1 at*
 generalize (x1+y1+k0)%18446744073709551616=r1 at*
 have s2:((x2:Int)+y2+k1)/18446744073709551616=(((x2+y2+k1)/18446744073709551616:Nat):Int):=by omega
 have t2:((x2:Int)+y2+k1)%18446744073709551616=(((x2+y2+k1)%18446744073709551616:Nat):Int):=by omega
 rw [s2,t2]
 have c2:(x2+y2+k1)/18446744073709551616≤1:=by omega
 have d2:(x2+y2+k1)%18446744073709551616+18446744073709551616*((x2+y2+k1)/18446744073709551616)=x2+y2+k1:=Nat.mod_add_div _ _
 have m2:(x2+y2+k1)%18446744073709551616<18446744073709551616:=Nat.mod_lt _ (by decide)
 generalize (x2+y2+k1)/18446744073709551616=k2 at*
 generalize (x2+y2+k1)%18446744073709551616=r2 at*
 have s3:((x3:Int)+y3+k2)/18446744073709551616=(((x3+y3+k2)/18446744073709551616:Nat):Int):=by omega
 have t3:((x3:Int)+y3+k2)%18446744073709551616=(((x3+y3+k2)%18446744073709551616:Nat):Int):=by omega
 rw [s3,t3]
 have c3:(x3+y3+k2)/18446744073709551616≤1:=by omega
 have d3:(x3+y3+k2)%18446744073709551616+18446744073709551616*((x3+y3+k2)/18446744073709551616)=x3+y3+k2:=Nat.mod_add_div _ _
 have m3:(x3+y3+k2)%18446744073709551616<18446744073709551616:=Nat.mod_lt _ (by decide)
 generalize (x3+y3+k2)/18446744073709551616=k3 at*
 generalize (x3+y3+k2)%18446744073709551616=r3 at*
 have hsum:a+b=jY r0 r1 r2 r3+au*k3:=by
  rw [← va,← vb]; unfold jY au; omega
 have hv:=(qZ m0 m1 m2 m3).2.2.2.2
 have hmod:(a+b)%au=jY r0 r1 r2 r3:=by rw [hsum,Nat.add_mul_mod_self_left,Nat.mod_eq_of_lt hv]
 have hdiv:(a+b)/au=k3:=by rw [hsum,Nat.add_mul_div_left _ _ (by decide),Nat.div_eq_of_lt hv,Nat.zero_add]
 rw [lX m0 m1 m2 m3 hmod,hdiv]
 have w:IntKind.i64.wrap (k3:Int)=k3:=oW _ (by omega)
 have g0:(0:Int)≤x0∧(0:Int)≤y0∧(0:Int)≤x1∧(0:Int)≤y1∧(0:Int)≤x2∧(0:Int)≤y2∧(0:Int)≤x3∧(0:Int)≤y3∧(0:Int)≤k0∧(0:Int)≤k1∧(0:Int)≤k2∧(k0:Int)≤1∧(k1:Int)≤1∧(k2:Int)≤1:=by omega
 obtain ⟨p1,p2,p3,p4,p5,p6,p7,p8,p9,p10,p11,p12,p13,p14⟩:=g0
 simp only [p1,p2,p3,p4,p5,p6,p7,p8,p9,p10,p11,p12,p13,p14,decide_true,Bool.and_true,show (0:Int)≤0 by decide,show (0:Int)≤1 by decide,aj,w]
end Go.Own
set_option linter.unusedVariables false
set_option linter.unusedSimpArgs false
namespace Go.Own
open Go.IntWalk
set_option maxHeartbeats 1000000 in
theorem Bu (a b:Nat) (ha:a<au) (hb:b<au):jX.r (limbs a) (limbs b)=(true,limbs ((a+au - b)%au),if a<b then 1 else 0):=by
 have va:=iY a ha
 have vb:=iY b hb
 have a0:=aQ a 0; have a1:=aQ a 1; have a2:=aQ a 2; have a3:=aQ a 3
 have b0:=aQ b 0; have b1:=aQ b 1; have b2:=aQ b 2; have b3:=aQ b 3
 simp only [jX.r,jX.g,lt,ilt,ile,ieq,aL _ 0 (by decide),aL _ 1 (by decide),aL _ 2 (by decide),aL _ 3 (by decide)]
 generalize limb a 0=x0 at *; generalize limb a 1=x1 at *; generalize limb a 2=x2 at *; generalize limb a 3=x3 at*
 generalize limb b 0=y0 at *; generalize limb b 1=y1 at *; generalize limb b 2=y2 at *; generalize limb b 3=y3 at*
 have s0:(bif decide ((x0:Int)<y0+(0:Int)) then (1:Int) else 0)=((if x0<y0+0 then 1 else 0:Nat):Int):=by
  by_cases h:x0<y0+0
  ·rw [if_pos h,decide_eq_true (by omega)]; rfl
  ·rw [if_neg h,decide_eq_false (by omega)]; rfl
 have t0:((x0:Int) - y0 - (0:Int))%18446744073709551616=((x0+18446744073709551616*(if x0<y0+0 then 1 else 0) - y0 - 0:Nat):Int):=by split<;>omega
 rw [s0,t0]
 have d0:(x0+18446744073709551616*(if x0<y0+0 then 1 else 0) - y0 - 0)+y0+0=x0+18446744073709551616*(if x0<y0+0 then 1 else 0):=by split<;>omega
 have m0:(x0+18446744073709551616*(if x0<y0+0 then 1 else 0) - y0 - 0)<18446744073709551616:=by split<;>omega
 have c0:(if x0<y0+0 then 1 else 0)≤1:=by split<;>omega
 generalize x0+18446744073709551616*(if x0<y0+0 then 1 else 0) - y0 - 0=r0 at*
 generalize (if x0<y0+0 then 1 else 0)=k0 at*
 clear s0 t0
 have s1:(bif decide ((x1:Int)<y1+(k0:Int)) then (1:Int) else 0)=((if x1<y1+k0 then 1 else 0:Nat):Int):=by
  by_cases h:x1<y1+k0
  ·rw [if_pos h,decide_eq_true (by omega)]; rfl
  ·rw [if_neg h,decide_eq_false (by omega)]; rfl
 have t1:((x1:Int) - y1 - (k0:Int))%18446744073709551616=((x1+18446744073709551616*(if x1<y1+k0 then 1 else 0) - y1 - k0:Nat):Int):=by split<;>omega
 rw [s1,t1]
 have d1:(x1+18446744073709551616*(if x1<y1+k0 then 1 else 0) - y1 - k0)+y1+k0=x1+18446744073709551616*(if x1<y1+k0 then 1 else 0):=by split<;>omega
 have m1:(x1+18446744073709551616*(if x1<y1+k0 then 1 else 0) - y1 - k0)<18446744073709551616:=by split<;>omega
 have c1:(if x1<y1+k0 then 1 else 0)≤1:=by split<;>omega
 generalize x1+18446744073709551616*(if x1<y1+k0 then 1 else 0) - y1 - k0=r1 at*
 generalize (if x1<y1+k0 then 1 else 0)=k1 at*
 clear s1 t1
 have s2:(bif decide ((x2:Int)<y2+(k1:Int)) then (1:Int) else 0)=((if x2<y2+k1 then 1 else 0:Nat):Int):=by
  by_cases h:x2<y2+k1
  ·rw [if_pos h,decide_eq_true (by omega)]; rfl
  ·rw [if_neg h,decide_eq_false (by omega)]; rfl
 have t2:((x2:Int) - y2 - (k1:Int))%18446744073709551616=((x2+18446744073709551616*(if x2<y2+k1 then 1 else 0) - y2 - k1:Nat):Int):=by split<;>omega
 rw [s2,t2]
 have d2:(x2+18446744073709551616*(if x2<y2+k1 then 1 else 0) - y2 - k1)+y2+k1=x2+18446744073709551616*(if x2<y2+k1 then 1 else 0):=by split<;>omega
 have m2:(x2+18446744073709551616*(if x2<y2+k1 then 1 else 0) - y2 - k1)<18446744073709551616:=by split<;>omega
 have c2:(if x2<y2+k1 then 1 else 0)≤1:=by split<;>omega
 generalize x2+18446744073709551616*(if x2<y2+k1 then 1 else 0) - y2 - k1=r2 at*
 generalize (if x2<y2+k1 then 1 else 0)=k2 at*
 clear s2 t2
 have s3:(bif decide ((x3:Int)<y3+(k2:Int)) then (1:Int) else 0)=((if x3<y3+k2 then 1 else 0:Nat):Int):=by
  by_cases h:x3<y3+k2
  ·rw [if_pos h,decide_eq_true (by omega)]; rfl
  ·rw [if_neg h,decide_eq_false (by omega)]; rfl
 have t3:((x3:Int) - y3 - (k2:Int))%18446744073709551616=((x3+18446744073709551616*(if x3<y3+k2 then 1 else 0) - y3 - k2:Nat):Int):=by split<;>omega
 rw [s3,t3]
 have d3:(x3+18446744073709551616*(if x3<y3+k2 then 1 else 0) - y3 - k2)+y3+k2=x3+18446744073709551616*(if x3<y3+k2 then 1 else 0):=by split<;>omega
 have m3:(x3+18446744073709551616*(if x3<y3+k2 then 1 else 0) - y3 - k2)<18446744073709551616:=by split<;>omega
 have c3:(if x3<y3+k2 then 1 else 0)≤1:=by split<;>omega
 generalize x3+18446744073709551616*(if x3<y3+k2 then 1 else 0) - y3 - k2=r3 at*
 generalize (if x3<y3+k2 then 1 else 0)=k3 at*
 clear s3 t3
 have hsum:a+au*k3=jY r0 r1 r2 r3+b:=by
  rw [← va,← vb]; unfold jY au; omega
 have hv:=(qZ m0 m1 m2 m3).2.2.2.2
 have hmod:(a+au - b)%au=jY r0 r1 r2 r3:=by
  have:k3=0∨k3=1:=by omega
  rcases this with h|h<;>subst h<;>unfold au at* <;>omega
 have hlt:(k3:Int)=if a<b then 1 else 0:=by
  have:k3=0∨k3=1:=by omega
  unfold au at*
  rcases this with h|h<;>subst h<;>split<;>omega
 rw [lX m0 m1 m2 m3 hmod,← hlt]
 have w:IntKind.i64.wrap (k3:Int)=k3:=oW _ (by omega)
 have g0:(0:Int)≤x0∧(0:Int)≤y0∧(0:Int)≤x1∧(0:Int)≤y1∧(0:Int)≤x2∧(0:Int)≤y2∧(0:Int)≤x3∧(0:Int)≤y3∧(0:Int)≤k0∧(0:Int)≤k1∧(0:Int)≤k2∧(k0:Int)≤1∧(k1:Int)≤1∧(k2:Int)≤1∧
  (y0:Int)<18446744073709551616∧(y1:Int)<18446744073709551616∧(y2:Int)<18446744073709551616∧(y3:Int)<18446744073709551616:=by omega
 obtain ⟨p1,p2,p3,p4,p5,p6,p7,p8,p9,p10,p11,p12,p13,p14,p15,p16,p17,p18⟩:=g0
 simp only [p1,p2,p3,p4,p5,p6,p7,p8,p9,p10,p11,p12,p13,p14,p15,p16,p17,p18,decide_true,Bool.and_true,show (0:Int)≤0 by decide,show (0:Int)≤1 by decide,aj,w]
theorem Bg {p:Prop} [Decidable p] {α:Type} (a b:α):(bif decide p then a else b)=if p then a else b:=by
 by_cases h:p<;>simp [h]
theorem yE (a b:Nat) (ha:a<au) (hb:b<au):jJ.r (limbs a) (limbs b)=(true,uz a b):=by
 have va:=iY a ha
 have vb:=iY b hb
 have a0:=aQ a 0; have a1:=aQ a 1; have a2:=aQ a 2; have a3:=aQ a 3
 have b0:=aQ b 0; have b1:=aQ b 1; have b2:=aQ b 2; have b3:=aQ b 3
 simp only [jJ.r,jJ.g,lt,ilt,ile,ieq,aL _ 0 (by decide),aL _ 1 (by decide),aL _ 2 (by decide),aL _ 3 (by decide),Bg]
 unfold uz
 generalize limb a 0=x0 at *; generalize limb a 1=x1 at *; generalize limb a 2=x2 at *; generalize limb a 3=x3 at*
 generalize limb b 0=y0 at *; generalize limb b 1=y1 at *; generalize limb b 2=y2 at *; generalize limb b 3=y3 at*
 unfold jY at va vb
 by_cases h3:x3<y3
 ·rw [if_pos (by omega),if_pos (by omega)]
 ·rw [if_neg (by omega)]
  by_cases h3':y3<x3
  ·rw [if_pos (by omega),if_neg (by omega),if_pos (by omega)]
  ·rw [if_neg (by omega)]
   by_cases h2:x2<y2
   ·rw [if_pos (by omega),if_pos (by omega)]
   ·rw [if_neg (by omega)]
    by_cases h2':y2<x2
    ·rw [if_pos (by omega),if_neg (by omega),if_pos (by omega)]
    ·rw [if_neg (by omega)]
     by_cases h1:x1<y1
     ·rw [if_pos (by omega),if_pos (by omega)]
     ·rw [if_neg (by omega)]
      by_cases h1':y1<x1
      ·rw [if_pos (by omega),if_neg (by omega),if_pos (by omega)]
      ·rw [if_neg (by omega)]
       by_cases h0:x0<y0
       ·rw [if_pos (by omega),if_pos (by omega)]
       ·rw [if_neg (by omega)]
        by_cases h0':y0<x0
        ·rw [if_pos (by omega),if_neg (by omega),if_pos (by omega)]
        ·rw [if_neg (by omega),if_neg (by omega),if_neg (by omega)]
theorem Pk (n:Nat) (k:Int) (hn:n<au):tu.r (limbs n) k=(true,OG n k):=by
 simp only [tu.r,tu.g,lt,ilt,ile,ieq]
 unfold OG
 by_cases h0:k<0
 ·simp only [h0,if_true,decide_true,cond_true]
 ·simp only [h0,if_false,decide_false,cond_false]
  by_cases h1:k≥256
  ·have:n.testBit k.toNat=false:=Nat.testBit_lt_two_pow (Nat.lt_of_lt_of_le hn (by rw [vI]; exact Nat.pow_le_pow_right (by decide) (by omega)))
   simp only [h1,decide_true,cond_true,this]; rfl
  ·obtain ⟨i,rfl⟩:=Int.eq_ofNat_of_zero_le (show 0≤k by omega)
   have hx:limb n (i/64)/2^(i%64)<18446744073709551616:=Nat.lt_of_le_of_lt (Nat.div_le_self _ _) (aQ _ _)
   have hb:(limb n (i/64)/2^(i%64)&&& 1)=(n.testBit i).toNat:=by
    rw [and_one,Nat.testBit_div_two_pow,iL]
    have:decide (0+i%64<64)=true:=by simp; omega
    rw [this,Bool.true_and,show 64*(i/64)+(0+i%64)=i by omega]
   have h2:(0:Int)≤((i/64:Nat):Int)∧((i/64:Nat):Int)<4:=by omega
   have hw:IntKind.i64.wrap (((n.testBit i).toNat:Nat):Int)=((n.testBit i).toNat:Nat):=by cases n.testBit i<;>rfl
   simp only [h1,decide_false,cond_false,zJ,zD,oW (i/64) (by omega),Int.toNat_natCast,aL n (i/64) (by omega),Nat.min_eq_left (show i%64≤64 by omega),tZ,xh,h2.1,h2.2,decide_true,Bool.and_true,aj,show ¬ ((i%64:Nat):Int)<0 by omega,Bool.not_false,vV _ hx,hb,hw]
theorem si (n:Int) (h2:n<9223372036854775808):dM.r n=(true,limbs n.toNat):=by
 simp only [dM.r,dM.g,lt,ilt,ile,ieq,Bg]
 have e:(if (0:Int)>n then (0:Int) else n)=(n.toNat:Int):=by split<;>omega
 have hl:limbs n.toNat= [((n.toNat:Nat):Int),((0:Nat):Int),((0:Nat):Int),((0:Nat):Int)]:=lX (by omega) (by decide) (by decide) (by decide) (by unfold jY; omega)
 rw [e,su _ (by omega),hl]; rfl
theorem Ph (n:Nat) (hn:n<au):qO.r (limbs n)=(true,if n<9223372036854775808 then ((n:Int),true) else (0,false)):=by
 have va:=iY n hn
 have a0:=aQ n 0; have a1:=aQ n 1; have a2:=aQ n 2; have a3:=aQ n 3
 simp only [qO.r,qO.g,lt,ilt,ile,ieq,aL _ 0 (by decide),aL _ 1 (by decide),aL _ 2 (by decide),aL _ 3 (by decide)]
 generalize limb n 0=x0 at *; generalize limb n 1=x1 at *; generalize limb n 2=x2 at *; generalize limb n 3=x3 at*
 unfold jY at va
 by_cases h:x1=0∧x2=0∧x3=0
 ·obtain ⟨rfl,rfl,rfl⟩:=h
  have e:n=x0:=by omega
  subst e
  by_cases hb:n<9223372036854775808
  ·simp only [decide_true,Bool.and_true,Bool.not_true,cond_false,show (((0:Nat):Int)=0) from rfl,show ¬ ((n:Int)>9223372036854775807) by omega,decide_false,oW n hb,hb,if_true]
  ·simp only [decide_true,Bool.and_true,Bool.not_true,cond_false,show (((0:Nat):Int)=0) from rfl,show ((n:Int)>9223372036854775807) by omega,cond_true,hb,if_false]
 ·have hb:¬ n<9223372036854775808:=by omega
  have e:(!(decide True&&(decide ((x1:Int)=0)&&(decide ((x2:Int)=0)&&(decide ((x3:Int)=0)&&true)))))=true:=by
   simp only [decide_true,Bool.true_and,Bool.and_true,Bool.not_eq_true',Bool.and_eq_false_iff,decide_eq_false_iff_not]
   omega
  rw [e]
  simp only [cond_true,hb,if_false]
end Go.Own
set_option linter.unusedVariables false
set_option linter.unusedSimpArgs false
namespace Go.Own
open Go.IntWalk
theorem G7 {n s:Nat} (h:n/2^s≠0):bR n=bR (n/2^s)+s:=by
 have h1:=oh (n/2^s)
 have h2:=pq h
 have hp:=Nat.two_pow_pos s
 have hb:bR (n/2^s)=bR (n/2^s) - 1+1:=by
  have:bR (n/2^s)≠0:=by unfold bR; rw [if_neg h]; omega
  omega
 refine G6 ?_ (.inr ?_)
 ·rw [Nat.pow_add]
  exact (Nat.div_lt_iff_lt_mul hp).1 h1
 ·rw [show bR (n/2^s)+s - 1=(bR (n/2^s) - 1)+s by omega,Nat.pow_add]
  exact (Nat.le_div_iff_mul_le hp).1 h2
theorem MF:∀ v:Nat,v<256→(zL.data.getD v 0).toNat=bR v:=by
 have:(List.range 256).all (fun v=>Nat.beq (zL.data.getD v 0).toNat (bR v))=true:=by kernel_rfl
 intro v hv
 exact Nat.eq_of_beq_eq_true (List.all_eq_true.1 this v (by simpa using hv))
theorem SN {v:Nat} (h:v<256):bR v≤8:=by
 rcases Nat.lt_or_ge 8 (bR v) with h1|h1
 ·exfalso
  have hn:v≠0:=by intro e; subst e; simp [bR] at h1
  have:=pq hn
  have h3:2^8≤2^(bR v - 1):=Nat.pow_le_pow_right (by decide) (by omega)
  omega
 ·exact h1
theorem Ev {v:Nat} (h:v<18446744073709551616):bR v≤64:=by
 rcases Nat.lt_or_ge 64 (bR v) with h1|h1
 ·exfalso
  have hn:v≠0:=by intro e; subst e; simp [bR] at h1
  have:=pq hn
  have h3:2^64≤2^(bR v - 1):=Nat.pow_le_pow_right (by decide) (by omega)
  omega
 ·exact h1
theorem kZ (x:Nat) (c:Nat) (hx:x<256) (hc:c<100):
  chk (decide ((0:Int)≤IntKind.u8.wrap (x:Int))&&decide (IntKind.u8.wrap (x:Int)<256)) (true,IntKind.i64.wrap ((c:Int)+IntKind.i64.wrap (((zL.data.getD (IntKind.u8.wrap (x:Int)).toNat 0).toNat:Nat):Int)))=(true,((c+bR x:Nat):Int)):=by
 have h8:=SN hx
 rw [u8m,Nat.mod_eq_of_lt hx,Int.toNat_natCast,MF x hx,oW _ (by omega),show ((c:Int)+(bR x:Int))=((c+bR x:Nat):Int) by omega,oW _ (by omega)]
 have h1:(0:Int)≤(x:Int):=by omega
 have h2:(x:Int)<256:=by omega
 simp only [h1,h2,decide_true,Bool.and_true,aj]
theorem fdiv_pow (x k:Nat):(x:Int).fdiv (2^k)=((x/2^k:Nat):Int):=by rw [tZ,xh]
theorem xJ (x:Nat) (hx:x<18446744073709551616):jo.r (x:Int)=(true,(bR x:Int)):=by
 simp only [jo.r,jo.g,lt,ilt,ile,ieq,fdiv_pow,Bg,ge_iff_le]
 have p32:(2:Nat)^32=4294967296:=by decide
 have p16:(2:Nat)^16=65536:=by decide
 have p8:(2:Nat)^8=256:=by decide
 have fin:∀ (y c:Nat),y<256→c<100→(x=y∧c=0∨(x/2^c=y∧y≠0))→bR x=c+bR y:=by
  intro y c _ _ h
  rcases h with ⟨rfl,rfl⟩|⟨h1,h2⟩
  ·omega
  ·have:=G7 (n:=x) (s:=c) (by rw [h1]; exact h2)
   rw [this,h1]; omega
 by_cases h1:(4294967296:Int)≤x
 ·rw [if_pos h1]
  by_cases h2:(65536:Int)≤((x/2^32:Nat):Int)
  ·rw [if_pos h2]
   by_cases h3:(256:Int)≤((x/2^32/2^16:Nat):Int)
   ·rw [if_pos h3]
    rw [p32,p16] at h3; rw [p32] at h2
    rw [p32,p16,p8]
    have e:=kZ (x/4294967296/65536/256) 56 (by omega) (by decide)
    rw [fin (x/4294967296/65536/256) 56 (by omega) (by decide) (.inr ⟨by rw [Nat.div_div_eq_div_mul,Nat.div_div_eq_div_mul],by omega⟩)]
    exact e
   ·rw [if_neg h3]
    rw [p32,p16] at h3; rw [p32] at h2
    rw [p32,p16]
    have e:=kZ (x/4294967296/65536) 48 (by omega) (by decide)
    rw [fin (x/4294967296/65536) 48 (by omega) (by decide) (.inr ⟨by rw [Nat.div_div_eq_div_mul],by omega⟩)]
    exact e
  ·rw [if_neg h2]
   by_cases h3:(256:Int)≤((x/2^32:Nat):Int)
   ·rw [if_pos h3]
    rw [p32] at h3 h2
    rw [p32,p8]
    have e:=kZ (x/4294967296/256) 40 (by omega) (by decide)
    rw [fin (x/4294967296/256) 40 (by omega) (by decide) (.inr ⟨by rw [Nat.div_div_eq_div_mul],by omega⟩)]
    exact e
   ·rw [if_neg h3]
    rw [p32] at h3 h2
    rw [p32]
    have e:=kZ (x/4294967296) 32 (by omega) (by decide)
    rw [fin (x/4294967296) 32 (by omega) (by decide) (.inr ⟨by rw [p32],by omega⟩)]
    exact e
 ·rw [if_neg h1]
  by_cases h2:(65536:Int)≤(x:Int)
  ·rw [if_pos h2]
   by_cases h3:(256:Int)≤((x/2^16:Nat):Int)
   ·rw [if_pos h3]
    rw [p16] at h3
    rw [p16,p8]
    have e:=kZ (x/65536/256) 24 (by omega) (by decide)
    rw [fin (x/65536/256) 24 (by omega) (by decide) (.inr ⟨by rw [Nat.div_div_eq_div_mul],by omega⟩)]
    exact e
   ·rw [if_neg h3]
    rw [p16] at h3
    rw [p16]
    have e:=kZ (x/65536) 16 (by omega) (by decide)
    rw [fin (x/65536) 16 (by omega) (by decide) (.inr ⟨by rw [p16],by omega⟩)]
    exact e
  ·rw [if_neg h2]
   by_cases h3:(256:Int)≤(x:Int)
   ·rw [if_pos h3]
    rw [p8]
    have e:=kZ (x/256) 8 (by omega) (by decide)
    rw [fin (x/256) 8 (by omega) (by decide) (.inr ⟨by rw [p8],by omega⟩)]
    exact e
   ·rw [if_neg h3]
    have e:=kZ x 0 (by omega) (by decide)
    rw [fin x 0 (by omega) (by decide) (.inl ⟨rfl,rfl⟩)]
    exact e
end Go.Own
set_option linter.unusedVariables false
set_option linter.unusedSimpArgs false
namespace Go.Own
open Go.IntWalk
theorem Gf {n i:Nat} (h:n<2^(64*(i+1))):limb n i=n/2^(64*i):=by
 unfold limb
 apply Nat.mod_eq_of_lt
 rw [Nat.div_lt_iff_lt_mul (Nat.two_pow_pos _),show (18446744073709551616:Nat)=2^64 by decide,← Nat.pow_add]
 rw [show 64+64*i=64*(i+1) by omega]; exact h
theorem uZ {n i:Nat} (h:n<2^(64*(i+1))) (hz:limb n i≠0):bR n=bR (limb n i)+64*i:=by
 rw [Gf h] at hz ⊢
 exact G7 hz
theorem wS {n i:Nat} (h:n<2^(64*(i+1))) (hz:limb n i=0):n<2^(64*i):=by
 rw [Gf h] at hz
 exact (Nat.div_eq_zero_iff_lt (Nat.two_pow_pos _)).1 hz
theorem Pg (n:Nat) (hn:n<au):qN.r (limbs n)=(true,(bR n:Int)):=by
 have ne:∀ i,limb n i≠0→((limb n i:Int) != 0)=true:=fun i h=>by simp; omega
 have eq:∀ i,limb n i=0→((limb n i:Int) != 0)=false:=fun i h=>by simp; omega
 have b:∀ i,bR (limb n i)≤64:=fun i=>Ev (aQ n i)
 have w:∀ c i:Nat,c<1000→IntKind.i64.wrap ((c:Int)+(bR (limb n i):Int))=((bR (limb n i)+c:Nat):Int):=fun c i hc=>by
  have:=b i
  rw [i64_in _ (by omega)]; omega
 have w192:∀ i,IntKind.i64.wrap ((192:Int)+(bR (limb n i):Int))=((bR (limb n i)+192:Nat):Int):=fun i=>w 192 i (by decide)
 have w128:∀ i,IntKind.i64.wrap ((128:Int)+(bR (limb n i):Int))=((bR (limb n i)+128:Nat):Int):=fun i=>w 128 i (by decide)
 have w64:∀ i,IntKind.i64.wrap ((64:Int)+(bR (limb n i):Int))=((bR (limb n i)+64:Nat):Int):=fun i=>w 64 i (by decide)
 have w0:∀ i,IntKind.i64.wrap ((0:Int)+(bR (limb n i):Int))=((bR (limb n i)+0:Nat):Int):=fun i=>w 0 i (by decide)
 simp only [qN.r,qN.g,lt,ilt,ile,ieq,aL _ 0 (by decide),aL _ 1 (by decide),aL _ 2 (by decide),aL _ 3 (by decide)]
 have h4:n<2^(64*(3+1)):=hn
 by_cases z3:limb n 3=0
 ·have h3:n<2^(64*(2+1)):=wS h4 z3
  rw [eq 3 z3,cond_false]
  by_cases z2:limb n 2=0
  ·have h2:n<2^(64*(1+1)):=wS h3 z2
   rw [eq 2 z2,cond_false]
   by_cases z1:limb n 1=0
   ·have h1:n<2^(64*(0+1)):=wS h2 z1
    rw [eq 1 z1,cond_false]
    by_cases z0:limb n 0=0
    ·have h0:n<2^(64*0):=wS h1 z0
     rw [eq 0 z0,cond_false]
     have:n=0:=by simpa using h0
     subst this
     rfl
    ·rw [ne 0 z0,cond_true,xJ _ (aQ n 0),aj]
     simp only [w0]
     rw [uZ h1 z0]
   ·rw [ne 1 z1,cond_true,xJ _ (aQ n 1),aj]
    simp only [w64]
    rw [uZ h2 z1]
  ·rw [ne 2 z2,cond_true,xJ _ (aQ n 2),aj]
   simp only [w128]
   rw [uZ h3 z2]
 ·rw [ne 3 z3,cond_true,xJ _ (aQ n 3),aj]
  simp only [w192]
  rw [uZ h4 z3]
theorem nY (M i:Nat) (h:i<4):(limbs (M%2^(64*i))).set i (limb M i:Int)=limbs (M%2^(64*(i+1))):=by
 apply CK _ _ _ h
 ·intro j hj hne
  apply Nat.eq_of_testBit_eq
  intro t
  rw [iL,iL,kL,kL]
  by_cases ht:t<64
  ·have:decide (64*j+t<64*i)=decide (64*j+t<64*(i+1)):=decide_eq_decide.2 (by omega)
   rw [this]
  ·simp [ht]
 ·apply Nat.eq_of_testBit_eq
  intro t
  rw [iL,iL,kL]
  by_cases ht:t<64
  ·have:decide (64*i+t<64*(i+1))=true:=decide_eq_true (by omega)
   rw [this,Bool.true_and]
  ·simp [ht]
theorem eG:limbs 0= [0,0,0,0]:=by decide
def uo (n j s:Nat):Nat:=limb n j*2^s%18446744073709551616
def Am (n j s:Nat):Nat:=limb n j/2^(64 - s)
theorem rV (n j s:Nat):uo n j s<18446744073709551616:=Nat.mod_lt _ (by decide)
theorem CF (n j s:Nat):Am n j s<18446744073709551616:=Nat.lt_of_le_of_lt (Nat.div_le_self _ _) (aQ n j)
theorem vW (n j s t:Nat):(uo n j s).testBit t=(decide (t<64)&&(decide (s≤t)&&n.testBit (64*j+(t - s)))):=by
 unfold uo
 rw [show (18446744073709551616:Nat)=2^64 by decide,kL,Nat.mul_comm,Nat.testBit_two_pow_mul,iL]
 by_cases h:t<64
 ·simp [h,show t - s<64 by omega]
 ·simp [h]
theorem IK (n j s t:Nat) (hs:s<64):(Am n j s).testBit t=(decide (t<s)&&n.testBit (64*j+(64 - s+t))):=by
 unfold Am
 rw [Nat.testBit_div_two_pow,iL,Nat.add_comm t]
 have:decide (64 - s+t<64)=decide (t<s):=decide_eq_decide.2 (by omega)
 rw [this]
theorem KX (n q s:Nat) (hs:s<64) (hq:q<4):uo n 0 s=limb (n*2^(64*q+s)%au) q:=by
 apply sJ (rV _ _ _)
 intro t ht
 rw [vW,DI n _ _ (by omega)]
 have e1:decide (64*q+s≤64*q+t)=decide (s≤t):=decide_eq_decide.2 (by omega)
 have e2:64*q+t - (64*q+s)=64*0+(t - s):=by omega
 rw [e1,e2]; simp [ht]
theorem MP (n q s j:Nat) (hs:s<64) (hq:q+(j+1)<4):uo n (j+1) s||| Am n j s=limb (n*2^(64*q+s)%au) (q+(j+1)):=by
 apply sJ (J3 (rV _ _ _) (CF _ _ _))
 intro t ht
 rw [Nat.testBit_or,vW,IK _ _ _ _ hs,DI n _ _ (by omega)]
 have e1:decide (64*q+s≤64*(q+(j+1))+t)=true:=decide_eq_true (by omega)
 rw [e1,Bool.true_and]
 by_cases h:s≤t
 ·have e2:64*(q+(j+1))+t - (64*q+s)=64*(j+1)+(t - s):=by omega
  rw [e2]; simp [ht,h,show ¬ t<s by omega]
 ·have e2:64*(q+(j+1))+t - (64*q+s)=64*j+(64 - s+t):=by omega
  rw [e2]; simp [ht,h,show t<s by omega]
theorem Fu (l:List Int) (i:Nat) (v:Int) (h:i<l.length):(l.set i v).getD i 0=v:=by
 rw [List.getD_eq_getElem?_getD,List.getElem?_set]; simp [h]
theorem Uq (n j s:Nat) (hs:s<64):IntKind.u64.wrap ((limb n j:Int)*2^(min s 64))=(uo n j s:Int):=by
 rw [Nat.min_eq_left (by omega),tZ,← Int.natCast_mul,PU]; rfl
theorem Uo (n j s:Nat) (hs:s<64):(limb n j:Int).fdiv (2^(min (64 - s) 64))=(Am n j s:Int):=by
 rw [Nat.min_eq_left (by omega),fdiv_pow]; rfl
theorem TA (s:Nat) (hs:s<64):IntKind.i64.wrap ((64:Int) - (s:Int))=((64 - s:Nat):Int):=by
 rw [i64_in _ (by omega)]; omega
theorem Uf (n q s:Nat) (hs:s<64) (hq:q<4):l9.l0 ((),(),(),(q:Int),(s:Int),(q:Int),()) (limbs n,[0,0,0,0],[0,0,0,0],())=(true,1,((),(),(),(q:Int),(s:Int),4,()),(limbs n,[0,0,0,0],limbs (n*2^(64*q+s)%au),()),(),()):=by
 have hM:=MP n q s
 have hM0:=KX n q s hs hq
 have hz:n*2^(64*q+s)%au%2^(64*(q+0))=0:=by
  apply Nat.eq_of_testBit_eq
  intro t
  rw [kL,Nat.zero_testBit]
  by_cases ht:t<64*(q+0)
  ·rw [DI n _ _ (by omega)]; simp; omega
  ·simp [ht]; omega
 have hall:n*2^(64*q+s)%au%2^(64*(q+(4 - q)))=n*2^(64*q+s)%au:=by
  rw [show 64*(q+(4 - q))=256 by omega]
  exact Nat.mod_eq_of_lt (Nat.mod_lt _ (by decide))
 generalize n*2^(64*q+s)%au=M at*
 have e0:l9.l0 ((),(),(),(q:Int),(s:Int),((q+0:Nat):Int),()) (limbs n,[0,0,0,0],limbs (M%2^(64*(q+0))),())=(true,1,((),(),(),(q:Int),(s:Int),4,()),(limbs n,[0,0,0,0],limbs M,()),(),()):=by
  have hf:4 - q - 0<l9.fu0 ((),(),(),(q:Int),(s:Int),((q+0:Nat):Int),()) (limbs n,[0,0,0,0],limbs (M%2^(64*(q+0))),()):=by
   show 4 - q - 0<((4:Int) - ((q+0:Nat):Int)).toNat+1
   omega
  refine bK (g:=fun rq kn ke x y=>l9.g0 rq kn ke x y) (4 - q) (fun j=>((),(),(),(q:Int),(s:Int),((q+j:Nat):Int),())) (fun j=>(limbs n,[0,0,0,0],limbs (M%2^(64*(q+j))),())) _ ?_ ?_ _ 0 (Nat.zero_le _) hf
  ·intro j R h
   have a1:((q+j:Nat):Int)<4:=by omega
   have a2:IntKind.i64.wrap (((q+j:Nat):Int) - (q:Int))=(j:Int):=by rw [i64_in _ (by omega)]; omega
   have a3:IntKind.i64.wrap (((q+j:Nat):Int)+1)=((q+(j+1):Nat):Int):=by rw [i64_in _ (by omega)]; omega
   have a4:(0:Int)≤((q+j:Nat):Int):=by omega
   simp only [l9.g0,lt,ilt,ile,ieq,a1,a2,a3,a4,decide_true,cond_true,Bool.and_true,show (0:Int)≤(j:Int) by omega,show (j:Int)<4 by omega,aj,Int.toNat_natCast,aL n j (by omega),Uq n j s hs,show ¬ ((s:Int)<0) by omega,decide_false,Bool.not_false]
   match j with
   |0=>
    have b1:¬ ((q+0:Nat):Int)>(q:Int):=by omega
    simp only [b1,decide_false,cond_false]
    rw [hM0,show q=q+0 by rfl,nY M (q+0) (by omega)]
   |j+1=>
    have b1:((q+(j+1):Nat):Int)>(q:Int):=by omega
    have b2:IntKind.i64.wrap (((j+1:Nat):Int) - 1)=(j:Int):=by rw [i64_in _ (by omega)]; omega
    simp only [b1,b2,decide_true,cond_true,show (0:Int)≤(j:Int) by omega,show (j:Int)<4 by omega,Bool.and_true,aj,Int.toNat_natCast,aL n j (by omega),TA s hs,Uo n j s hs,show ¬ (((64 - s:Nat):Int)<0) by omega,decide_false,Bool.not_false]
    rw [Fu _ _ _ (by rw [CO]; omega),oC _ _ (rV _ _ _) (CF _ _ _),List.set_set,hM j hs (by omega),nY M (q+(j+1)) (by omega)]
    rfl
  ·intro R
   have a1:¬ ((q+(4 - q):Nat):Int)<4:=by omega
   have a2:((q+(4 - q):Nat):Int)=4:=by omega
   simp only [l9.g0,lt,ilt,ile,ieq,a1,decide_false,cond_false,hall]
   rw [a2]
 rw [hz,eG] at e0
 exact e0
theorem RI (n:Nat) (k:Int) (hn:n<au) (hk:k<9223372036854775808):l9.r (limbs n) k=(true,limbs (n*2^k.toNat%au)):=by
 simp only [l9.r,l9.g,lt,ilt,ile,ieq]
 by_cases h0:k<1
 ·simp only [h0,decide_true,cond_true,show k.toNat=0 by omega,Nat.pow_zero,Nat.mul_one,Nat.mod_eq_of_lt hn]
 ·by_cases h1:k≥256
  ·have hz:n*2^k.toNat%au=0:=by
    apply Nat.mod_eq_zero_of_dvd
    rw [vI]
    exact Nat.dvd_trans (Nat.pow_dvd_pow 2 (by omega)) (Nat.dvd_mul_left _ _)
   simp only [h0,h1,decide_true,decide_false,cond_true,cond_false,hz,eG]
  ·obtain ⟨K,rfl⟩:∃ K:Nat,k=K:=⟨k.toNat,by omega⟩
   simp only [h0,h1,decide_false,cond_false,zJ,zD,oW (K/64) (by omega),Uf n (K/64) (K%64) (by omega) (by omega),aj,Int.toNat_natCast,Nat.div_add_mod]
def yA (n j s:Nat):Nat:=limb n j/2^s
theorem yw (n j s:Nat):yA n j s<18446744073709551616:=Nat.lt_of_le_of_lt (Nat.div_le_self _ _) (aQ n j)
theorem Bc (n j s t:Nat):(yA n j s).testBit t=(decide (s+t<64)&&n.testBit (64*j+(s+t))):=by
 unfold yA
 rw [Nat.testBit_div_two_pow,iL,Nat.add_comm t]
theorem MO (n q s j:Nat) (hn:n<au) (hs:s<64) (h:j+q+1=4):yA n (j+q) s=limb (n/2^(64*q+s)) j:=by
 apply sJ (yw _ _ _)
 intro t ht
 rw [Bc,Nat.testBit_div_two_pow]
 have e:64*j+t+(64*q+s)=64*(j+q)+(s+t):=by omega
 rw [e]
 by_cases h:s+t<64
 ·simp [h]
 ·rw [Nat.testBit_lt_two_pow (show n<2^(64*(j+q)+(s+t)) from Nat.lt_of_lt_of_le hn (by rw [vI]; exact Nat.pow_le_pow_right (by decide) (by omega))),Bool.and_false]
theorem MN (n q s j:Nat) (hs:s<64):yA n (j+q) s||| uo n (j+q+1) (64 - s)=limb (n/2^(64*q+s)) j:=by
 apply sJ (J3 (yw _ _ _) (rV _ _ _))
 intro t ht
 rw [Nat.testBit_or,Bc,vW,Nat.testBit_div_two_pow]
 by_cases h:s+t<64
 ·have e:64*j+t+(64*q+s)=64*(j+q)+(s+t):=by omega
  rw [e]; simp [h,show ¬ 64 - s≤t by omega]
 ·have e:64*j+t+(64*q+s)=64*(j+q+1)+(t - (64 - s)):=by omega
  rw [e]; simp [h,ht,show 64 - s≤t by omega]
theorem wdn (n j s:Nat) (hs:s<64):(limb n j:Int).fdiv (2^(min s 64))=(yA n j s:Int):=by
 rw [Nat.min_eq_left (by omega),fdiv_pow]; rfl
theorem whi (n j s:Nat) (hs:s<64):IntKind.u64.wrap ((limb n j:Int)*2^(min (64 - s) 64))=(uo n j (64 - s):Int):=by
 rw [Nat.min_eq_left (by omega),tZ,← Int.natCast_mul,PU]; rfl
theorem Rb (n q s:Nat) (hn:n<au) (hs:s<64) (hq:q<4):jF.l0 ((),(),(),(q:Int),(s:Int),((4 - q:Nat):Int),0,()) (limbs n,[0,0,0,0],[0,0,0,0],())=(true,1,((),(),(),(q:Int),(s:Int),((4 - q:Nat):Int),((4 - q:Nat):Int),()),(limbs n,[0,0,0,0],limbs (n/2^(64*q+s)),()),(),()):=by
 have hM:=MN n q s
 have hML:=fun j=>MO n q s j hn hs
 have hall:n/2^(64*q+s)%2^(64*(4 - q))=n/2^(64*q+s):=by
  apply Nat.mod_eq_of_lt
  rw [Nat.div_lt_iff_lt_mul (Nat.two_pow_pos _),← Nat.pow_add]
  exact Nat.lt_of_lt_of_le hn (by rw [vI]; exact Nat.pow_le_pow_right (by decide) (by omega))
 generalize n/2^(64*q+s)=M at*
 have hz:M%2^(64*0)=0:=by rw [Nat.mul_zero,Nat.pow_zero,Nat.mod_one]
 have e0:jF.l0 ((),(),(),(q:Int),(s:Int),((4 - q:Nat):Int),((0:Nat):Int),()) (limbs n,[0,0,0,0],limbs (M%2^(64*0)),())=(true,1,((),(),(),(q:Int),(s:Int),((4 - q:Nat):Int),((4 - q:Nat):Int),()),(limbs n,[0,0,0,0],limbs M,()),(),()):=by
  have hf:4 - q - 0<jF.fu0 ((),(),(),(q:Int),(s:Int),((4 - q:Nat):Int),((0:Nat):Int),()) (limbs n,[0,0,0,0],limbs (M%2^(64*0)),()):=by
   show 4 - q - 0<(((4 - q:Nat):Int) - ((0:Nat):Int)).toNat+1
   omega
  refine bK (g:=fun rq kn ke x y=>jF.g0 rq kn ke x y) (4 - q) (fun j=>((),(),(),(q:Int),(s:Int),((4 - q:Nat):Int),(j:Int),())) (fun j=>(limbs n,[0,0,0,0],limbs (M%2^(64*j)),())) _ ?_ ?_ _ 0 (Nat.zero_le _) hf
  ·intro j R h
   have a1:(j:Int)<((4 - q:Nat):Int):=by omega
   have a2:IntKind.i64.wrap ((j:Int)+(q:Int))=((j+q:Nat):Int):=by rw [i64_in _ (by omega)]; omega
   have a3:IntKind.i64.wrap (((j+q:Nat):Int)+1)=((j+q+1:Nat):Int):=by rw [i64_in _ (by omega)]; omega
   simp only [jF.g0,lt,ilt,ile,ieq,a1,a2,a3,pU j (by omega),decide_true,cond_true,Bool.and_true,show (0:Int)≤((j+q:Nat):Int) by omega,show ((j+q:Nat):Int)<4 by omega,show (0:Int)≤(j:Int) by omega,show (j:Int)<4 by omega,aj,Int.toNat_natCast,aL n (j+q) (by omega)]
   simp only [wdn n (j+q) s hs,show ¬ ((s:Int)<0) by omega,decide_false,Bool.not_false,aj]
   by_cases hl:j+q+1<4
   ·have b1:((j+q+1:Nat):Int)<4:=by omega
    simp only [b1,decide_true,cond_true,show (0:Int)≤((j+q+1:Nat):Int) by omega,Bool.and_true,aj,Int.toNat_natCast,aL n (j+q+1) hl,TA s hs]
    simp only [whi n (j+q+1) s hs,show ¬ (((64 - s:Nat):Int)<0) by omega,decide_false,Bool.not_false,aj]
    rw [Fu _ _ _ (by rw [CO]; omega),oC _ _ (yw _ _ _) (rV _ _ _),List.set_set,hM j hs,nY M j (by omega)]
   ·have b1:¬ ((j+q+1:Nat):Int)<4:=by omega
    simp only [b1,decide_false,cond_false]
    rw [hML j (by omega),nY M j (by omega)]
  ·intro R
   simp only [jF.g0,lt,ilt,ile,ieq,show ¬ ((4 - q:Nat):Int)<((4 - q:Nat):Int) by omega,decide_false,cond_false,hall]
 rw [hz,eG] at e0
 exact e0
theorem KG (n:Nat) (k:Int) (hn:n<au) (hk:k<9223372036854775808):jF.r (limbs n) k=(true,limbs (n/2^k.toNat)):=by
 simp only [jF.r,jF.g,lt,ilt,ile,ieq]
 by_cases h0:k<1
 ·simp only [h0,decide_true,cond_true,show k.toNat=0 by omega,Nat.pow_zero,Nat.div_one]
 ·by_cases h1:k≥256
  ·have hz:n/2^k.toNat=0:=Nat.div_eq_of_lt (Nat.lt_of_lt_of_le hn (by rw [vI]; exact Nat.pow_le_pow_right (by decide) (by omega)))
   simp only [h0,h1,decide_true,decide_false,cond_true,cond_false,hz,eG]
  ·obtain ⟨K,rfl⟩:∃ K:Nat,k=K:=⟨k.toNat,by omega⟩
   have w4:IntKind.i64.wrap ((4:Int) - ((K/64:Nat):Int))=((4 - K/64:Nat):Int):=by rw [i64_in _ (by omega)]; omega
   simp only [h0,h1,decide_false,cond_false,zJ,zD,oW (K/64) (by omega),w4,Rb n (K/64) (K%64) hn (by omega) (by omega),aj,Int.toNat_natCast,Nat.div_add_mod]
end Go.Own
set_option linter.unusedVariables false
set_option linter.unusedSimpArgs false
namespace Go.Own
open Go.IntWalk
theorem pM (a b:Nat):IntKind.u64.wrap ((a:Int)+(b:Int))=(((a+b)%18446744073709551616:Nat):Int):=by
 rw [show (a:Int)+(b:Int)=((a+b:Nat):Int) by omega]; exact PU _
theorem oJ (a b:Nat):IntKind.u64.wrap ((a:Int)*(b:Int))=(((a*b)%18446744073709551616:Nat):Int):=by
 rw [show (a:Int)*(b:Int)=((a*b:Nat):Int) from (Int.natCast_mul a b).symm]; exact PU _
theorem OU (a b:Nat):((a:Int)+(b:Int)+0)%18446744073709551616=(((a+b)%18446744073709551616:Nat):Int):=by omega
theorem OV (a b:Nat):((a:Int)+(b:Int)+0)/18446744073709551616=(((a+b)/18446744073709551616:Nat):Int):=by omega
theorem QV (a:Nat):((a:Int)+0+0)%18446744073709551616=((a%18446744073709551616:Nat):Int):=by omega
theorem QW (a:Nat):((a:Int)+0+0)/18446744073709551616=((a/18446744073709551616:Nat):Int):=by omega
theorem TU (a:Nat):ile 0 (a:Int)=true:=bJ (by omega)
theorem Ga (x:Nat) (h:x<18446744073709551616):eU .u64 (· &&& ·) (x:Int) 4294967295=((x%4294967296:Nat):Int):=by
 have:=x9 x 4294967295 h (by decide)
 rw [show ((4294967295:Nat):Int)=4294967295 from rfl] at this
 rw [this,show (4294967295:Nat)=2^32 - 1 by decide,Nat.and_two_pow_sub_one_eq_mod]
theorem I4 (x:Nat):(x:Int).fdiv (2^32)=((x/4294967296:Nat):Int):=by rw [tZ,xh]
theorem Lh (a b c d:Nat):(a*4294967296+b)*(c*4294967296+d)=a*c*18446744073709551616+(a*d+b*c)*4294967296+b*d:=by grind
theorem uU {a b:Nat} (ha:a<4294967296) (hb:b<4294967296):a*b≤18446744065119617025:=by
 have:=Nat.mul_le_mul (show a≤4294967295 by omega) (show b≤4294967295 by omega)
 omega
theorem jO {a b:Nat} (ha:a<18446744073709551616) (hb:b<18446744073709551616):a*b≤340282366920938463426481119284349108225:=by
 have:=Nat.mul_le_mul (show a≤18446744073709551615 by omega) (show b≤18446744073709551615 by omega)
 omega
theorem ve (x y:Nat) (hx:x<18446744073709551616) (hy:y<18446744073709551616):iF.r (x:Int) (y:Int)=(true,((x*y/18446744073709551616:Nat):Int),((x*y%18446744073709551616:Nat):Int)):=by
 have h0:x%4294967296<4294967296:=Nat.mod_lt _ (by decide)
 have h1:x/4294967296<4294967296:=by omega
 have k0:y%4294967296<4294967296:=Nat.mod_lt _ (by decide)
 have k1:y/4294967296<4294967296:=by omega
 have e:x*y=x/4294967296*(y/4294967296)*18446744073709551616+(x/4294967296*(y%4294967296)+x%4294967296*(y/4294967296))*4294967296+x%4294967296*(y%4294967296):=by
  have:=Lh (x/4294967296) (x%4294967296) (y/4294967296) (y%4294967296)
  rw [show x/4294967296*4294967296+x%4294967296=x by omega,show y/4294967296*4294967296+y%4294967296=y by omega] at this
  exact this
 have b00:=uU h0 k0
 have b01:=uU h0 k1
 have b10:=uU h1 k0
 have b11:=uU h1 k1
 simp only [iF.r,iF.g,lt,Ga x hx,Ga y hy,I4,oJ,pM]
 generalize x%4294967296*(y%4294967296)=p00 at*
 generalize x%4294967296*(y/4294967296)=p01 at*
 generalize x/4294967296*(y%4294967296)=p10 at*
 generalize x/4294967296*(y/4294967296)=p11 at*
 have l0:(p10%18446744073709551616+p00%18446744073709551616/4294967296)%18446744073709551616<18446744073709551616:=Nat.mod_lt _ (by decide)
 rw [Ga _ l0]
 simp only [oJ,pM,I4]
 refine Prod.ext rfl (Prod.ext ?_ rfl)
 show (_:Int)=_
 refine congrArg (fun n:Nat=>(n:Int)) ?_
 rw [e]
 omega
def ml (p t c:Nat):Nat:=((p%18446744073709551616+t)%18446744073709551616+c)%18446744073709551616
def mc (p t c:Nat):Nat:=((p/18446744073709551616+(p%18446744073709551616+t)/18446744073709551616)%18446744073709551616+((p%18446744073709551616+t)%18446744073709551616+c)/18446744073709551616)%18446744073709551616
theorem Rv (p t c:Nat):ml p t c=(p+t+c)%18446744073709551616:=by unfold ml; omega
theorem F8 {p t c:Nat} (hp:p≤340282366920938463426481119284349108225) (ht:t<18446744073709551616) (hc:c<18446744073709551616):mc p t c=(p+t+c)/18446744073709551616:=by unfold mc; omega
theorem yQ (p t c:Nat):mc p t c<18446744073709551616:=Nat.mod_lt _ (by decide)
end Go.Own
set_option linter.unusedVariables false
set_option linter.unusedSimpArgs false
namespace Go.Own
open Go.IntWalk
theorem JY (n m:Nat) (h:m=n+n):2^m=2^n*2^n:=by subst h; exact Nat.pow_add 2 n n
theorem Sc:(2:Nat)^320=2135987035920910082395021706169552114602704522356652769947041607822219725780640550022962086936576:=by
 exact (JY 160 320 rfl).trans (by decide)
def jU (n:Nat):List Int:= [(limb n 0:Int),(limb n 1:Int),(limb n 2:Int),(limb n 3:Int),(limb n 4:Int),(limb n 5:Int)]
def RD (t0 t1 t2 t3 t4 t5 x b0 b1 b2 b3:Nat):List Nat:=
 let c1:=mc (x*b0) t0 0
 let c2:=mc (x*b1) t1 c1
 let c3:=mc (x*b2) t2 c2
 let c4:=mc (x*b3) t3 c3
 [ml (x*b0) t0 0,ml (x*b1) t1 c1,ml (x*b2) t2 c2,ml (x*b3) t3 c3,(t4+c4)%18446744073709551616,(t5+(t4+c4)/18446744073709551616)%18446744073709551616]
theorem OQ (t0 t1 t2 t3 t4 t5 x b0 b1 b2 b3:Nat) (hx:x<18446744073709551616) (h0:b0<18446744073709551616) (h1:b1<18446744073709551616) (h2:b2<18446744073709551616) (h3:b3<18446744073709551616):
  gX.r [(t0:Int),(t1:Int),(t2:Int),(t3:Int),(t4:Int),(t5:Int)] (x:Int) [(b0:Int),(b1:Int),(b2:Int),(b3:Int)]=(true,(RD t0 t1 t2 t3 t4 t5 x b0 b1 b2 b3).map (fun n:Nat=>(n:Int))):=by
 simp only [gX.r,gX.g,lt,List.getD_cons_zero,List.getD_cons_succ,List.set_cons_zero,List.set_cons_succ,ve x b0 hx h0,ve x b1 hx h1,ve x b2 hx h2,ve x b3 hx h3,OU,OV,QV,QW,pM,TU,aj,Bool.and_true,Bool.and_self,
  show ile 0 (0:Int)=true from rfl,show ile (0:Int) 1=true from rfl]
 rfl
def y7 (a b c d e f:Nat):Nat:=a+18446744073709551616*b+340282366920938463463374607431768211456*c+6277101735386680763835789423207666416102355444464034512896*d+115792089237316195423570985008687907853269984665640564039457584007913129639936*e+2135987035920910082395021706169552114602704522356652769947041607822219725780640550022962086936576*f
theorem KR {a b c d e f:Nat} (ha:a<18446744073709551616) (hb:b<18446744073709551616) (hc:c<18446744073709551616) (hd:d<18446744073709551616) (he:e<18446744073709551616) (hf:f<18446744073709551616):
  limb (y7 a b c d e f) 0=a∧limb (y7 a b c d e f) 1=b∧limb (y7 a b c d e f) 2=c∧limb (y7 a b c d e f) 3=d∧limb (y7 a b c d e f) 4=e∧limb (y7 a b c d e f) 5=f:=by
 unfold limb y7
 simp only [Nat.mul_zero,Nat.pow_zero,Nat.div_one,Nat.mul_one,show 64*2=128 by rfl,show 64*3=192 by rfl,show 64*4=256 by rfl,show 64*5=320 by rfl,show (2:Nat)^64=18446744073709551616 by decide,show (2:Nat)^128=340282366920938463463374607431768211456 by decide,show (2:Nat)^192=6277101735386680763835789423207666416102355444464034512896 by decide,show (2:Nat)^256=115792089237316195423570985008687907853269984665640564039457584007913129639936 by decide,Sc]
 refine ⟨?_,?_,?_,?_,?_,?_⟩<;>omega
theorem Lr (n:Nat) (h:n<39402006196394479212279040100143613805079739270465446667948293404245721771497210611414266254884915640806627990306816):y7 (limb n 0) (limb n 1) (limb n 2) (limb n 3) (limb n 4) (limb n 5)=n:=by
 unfold limb y7
 simp only [Nat.mul_zero,Nat.pow_zero,Nat.div_one,Nat.mul_one,show 64*2=128 by rfl,show 64*3=192 by rfl,show 64*4=256 by rfl,show 64*5=320 by rfl,show (2:Nat)^64=18446744073709551616 by decide,show (2:Nat)^128=340282366920938463463374607431768211456 by decide,show (2:Nat)^192=6277101735386680763835789423207666416102355444464034512896 by decide,show (2:Nat)^256=115792089237316195423570985008687907853269984665640564039457584007913129639936 by decide,Sc]
 omega
theorem F4 (x a b c d:Nat):x*jY a b c d=x*a+18446744073709551616*(x*b)+340282366920938463463374607431768211456*(x*c)+6277101735386680763835789423207666416102355444464034512896*(x*d):=by unfold jY; grind
theorem OT (T x b:Nat) (hx:x<18446744073709551616) (hb:b<au) (hT:T+x*b<39402006196394479212279040100143613805079739270465446667948293404245721771497210611414266254884915640806627990306816):gX.r (jU T) (x:Int) (limbs b)=(true,jU (T+x*b)):=by
 unfold jU limbs
 rw [OQ _ _ _ _ _ _ _ _ _ _ _ hx (aQ b 0) (aQ b 1) (aQ b 2) (aQ b 3)]
 simp only [RD,Rv,List.map_cons,List.map_nil]
 have hTv:=Lr T (by omega)
 have hbv:=iY b hb
 have hxb:x*b=x*limb b 0+18446744073709551616*(x*limb b 1)+340282366920938463463374607431768211456*(x*limb b 2)+6277101735386680763835789423207666416102355444464034512896*(x*limb b 3):=by
  conv=>lhs; rw [← hbv]
  exact F4 _ _ _ _ _
 have q0:=jO hx (aQ b 0)
 have q1:=jO hx (aQ b 1)
 have q2:=jO hx (aQ b 2)
 have q3:=jO hx (aQ b 3)
 have r0:=aQ T 0
 have r1:=aQ T 1
 have r2:=aQ T 2
 have r3:=aQ T 3
 have r4:=aQ T 4
 have r5:=aQ T 5
 generalize hS:T+x*b=S at*
 rw [hxb] at hS
 rw [← hTv] at hS
 unfold y7 at hS
 generalize x*limb b 0=p0 at*
 generalize x*limb b 1=p1 at*
 generalize x*limb b 2=p2 at*
 generalize x*limb b 3=p3 at*
 generalize limb T 0=t0 at*
 generalize limb T 1=t1 at*
 generalize limb T 2=t2 at*
 generalize limb T 3=t3 at*
 generalize limb T 4=t4 at*
 generalize limb T 5=t5 at*
 have e1:=F8 (c:=0) q0 r0 (by decide)
 have l1:=yQ p0 t0 0
 have e2:=F8 q1 r1 l1
 have l2:=yQ p1 t1 (mc p0 t0 0)
 have e3:=F8 q2 r2 l2
 have l3:=yQ p2 t2 (mc p1 t1 (mc p0 t0 0))
 have e4:=F8 q3 r3 l3
 have l4:=yQ p3 t3 (mc p2 t2 (mc p1 t1 (mc p0 t0 0)))
 generalize mc p3 t3 (mc p2 t2 (mc p1 t1 (mc p0 t0 0)))=c4 at*
 generalize mc p2 t2 (mc p1 t1 (mc p0 t0 0))=c3 at*
 generalize mc p1 t1 (mc p0 t0 0)=c2 at*
 generalize mc p0 t0 0=c1 at*
 have key:S=y7 ((p0+t0+0)%18446744073709551616) ((p1+t1+c1)%18446744073709551616) ((p2+t2+c2)%18446744073709551616) ((p3+t3+c3)%18446744073709551616) ((t4+c4)%18446744073709551616) ((t5+(t4+c4)/18446744073709551616)%18446744073709551616):=by
  unfold y7; omega
 obtain ⟨k0,k1,k2,k3,k4,k5⟩:=KR (a:=(p0+t0+0)%18446744073709551616) (b:=(p1+t1+c1)%18446744073709551616) (c:=(p2+t2+c2)%18446744073709551616) (d:=(p3+t3+c3)%18446744073709551616) (e:=(t4+c4)%18446744073709551616) (f:=(t5+(t4+c4)/18446744073709551616)%18446744073709551616) (Nat.mod_lt _ (by decide)) (Nat.mod_lt _ (by decide)) (Nat.mod_lt _ (by decide)) (Nat.mod_lt _ (by decide)) (Nat.mod_lt _ (by decide)) (Nat.mod_lt _ (by decide))
 rw [← key] at k0 k1 k2 k3 k4 k5
 rw [k0,k1,k2,k3,k4,k5]
end Go.Own
set_option linter.unusedVariables false
set_option linter.unusedSimpArgs false
namespace Go.Own
open Go.IntWalk
theorem ql (S i:Nat):limb (S/18446744073709551616) i=limb S (i+1):=by
 unfold limb
 rw [show (18446744073709551616:Nat)=2^64 by decide,Nat.div_div_eq_div_mul,← Nat.pow_add,show 64+64*i=64*(i+1) by omega]
theorem Qb (S:Nat) (h:S<39402006196394479212279040100143613805079739270465446667948293404245721771497210611414266254884915640806627990306816):
  (over (jU S) 0 ((((jU S).drop 1).take 5).take 6)).set 5 0=jU (S/18446744073709551616):=by
 have e5:limb (S/18446744073709551616) 5=0:=by
  unfold limb
  rw [show 64*5=320 from rfl,Sc]
  omega
 have hl:jU (S/18446744073709551616)= [(limb S 1:Int),(limb S 2:Int),(limb S 3:Int),(limb S 4:Int),(limb S 5:Int),0]:=by
  unfold jU
  rw [ql,ql,ql,ql,ql,e5]
  rfl
 rw [hl]
 rfl
theorem Eb (S:Nat):(jU S).getD 0 0=((S%18446744073709551616:Nat):Int):=by
 show (limb S 0:Int)=_
 unfold limb
 rw [Nat.mul_zero,Nat.pow_zero,Nat.div_one]
theorem Gd:jU 0= [0,0,0,0,0,0]:=by kernel_rfl
structure Rng (rx:Option aJ) (m inv one sq:Nat):Prop where
 eq:rx=some (limbs m,((inv:Int),(limbs one,(limbs sq,()))))
 odd:m%2=1
 gt:1<m
 lt:m<au
 inv_lt:inv<18446744073709551616
 inv_pos:0<inv
 inv_eq:(inv*m+1)%18446744073709551616=0
 one_eq:one=au%m
 sq_eq:sq=au*au%m
def jC (m inv a b i T:Nat):Nat:=(T+limb a i*b+(T+limb a i*b)%18446744073709551616*inv%18446744073709551616*m)/18446744073709551616
theorem K3 {m inv X:Nat} (h:(inv*m+1)%18446744073709551616=0):(X+X%18446744073709551616*inv%18446744073709551616*m)%18446744073709551616=0:=by
 have h1:(X%18446744073709551616*inv%18446744073709551616*m)%18446744073709551616=(X*(inv*m))%18446744073709551616:=by
  rw [Nat.mod_mul_mod,Nat.mul_assoc,Nat.mod_mul_mod]
 rw [Nat.add_mod,h1,← Nat.add_mod,show X+X*(inv*m)=X*(inv*m+1) by grind,Nat.mul_mod,h,Nat.mul_zero]
theorem pX {m inv a b i T:Nat} (hT:T<m+b):jC m inv a b i T<m+b:=by
 unfold jC
 have h1:limb a i≤18446744073709551615:=by have:=aQ a i; omega
 have h2:(T+limb a i*b)%18446744073709551616*inv%18446744073709551616≤18446744073709551615:=by have:=Nat.mod_lt ((T+limb a i*b)%18446744073709551616*inv) (show 0<18446744073709551616 by decide); omega
 have h3:=Nat.mul_le_mul_right b h1
 have h4:=Nat.mul_le_mul_right m h2
 rw [Nat.div_lt_iff_lt_mul (by decide)]
 generalize limb a i*b=p at*
 generalize (T+p)%18446744073709551616*inv%18446744073709551616*m=q at*
 omega
theorem wJ {m inv a b i T:Nat} (h:(inv*m+1)%18446744073709551616=0):∃ u,18446744073709551616*jC m inv a b i T=T+limb a i*b+u*m:=by
 refine ⟨(T+limb a i*b)%18446744073709551616*inv%18446744073709551616,?_⟩
 have:=K3 (X:=T+limb a i*b) h
 unfold jC
 omega
def FD (m inv a b:Nat):Nat:=jC m inv a b 3 (jC m inv a b 2 (jC m inv a b 1 (jC m inv a b 0 0)))
theorem MW {m inv a b:Nat} (hm:0<m+b):FD m inv a b<m+b:=pX (pX (pX (pX hm)))
theorem MX {m inv a b:Nat} (h:(inv*m+1)%18446744073709551616=0) (ha:a<au):∃ k,au*FD m inv a b=a*b+k*m:=by
 obtain ⟨u0,e0⟩:=wJ (a:=a) (b:=b) (i:=0) (T:=0) h
 obtain ⟨u1,e1⟩:=wJ (a:=a) (b:=b) (i:=1) (T:=jC m inv a b 0 0) h
 obtain ⟨u2,e2⟩:=wJ (a:=a) (b:=b) (i:=2) (T:=jC m inv a b 1 (jC m inv a b 0 0)) h
 obtain ⟨u3,e3⟩:=wJ (a:=a) (b:=b) (i:=3) (T:=jC m inv a b 2 (jC m inv a b 1 (jC m inv a b 0 0))) h
 refine ⟨u0+18446744073709551616*u1+340282366920938463463374607431768211456*u2+6277101735386680763835789423207666416102355444464034512896*u3,?_⟩
 unfold FD
 generalize jC m inv a b 3 _=T4 at*
 generalize jC m inv a b 2 _=T3 at*
 generalize jC m inv a b 1 _=T2 at*
 generalize jC m inv a b 0 _=T1 at*
 have hv:=iY a ha
 have hab:a*b=limb a 0*b+18446744073709551616*(limb a 1*b)+340282366920938463463374607431768211456*(limb a 2*b)+6277101735386680763835789423207666416102355444464034512896*(limb a 3*b):=by
  conv=>lhs; rw [← hv]
  rw [Nat.mul_comm,F4,Nat.mul_comm b,Nat.mul_comm b,Nat.mul_comm b,Nat.mul_comm b]
 rw [hab]
 have hk:(u0+18446744073709551616*u1+340282366920938463463374607431768211456*u2+6277101735386680763835789423207666416102355444464034512896*u3)*m=u0*m+18446744073709551616*(u1*m)+340282366920938463463374607431768211456*(u2*m)+6277101735386680763835789423207666416102355444464034512896*(u3*m):=by grind
 rw [hk]
 clear hk hab hv
 show 115792089237316195423570985008687907853269984665640564039457584007913129639936*T4=_
 generalize limb a 0*b=p0 at*
 generalize limb a 1*b=p1 at*
 generalize limb a 2*b=p2 at*
 generalize limb a 3*b=p3 at*
 generalize u0*m=v0 at*
 generalize u1*m=v1 at*
 generalize u2*m=v2 at*
 generalize u3*m=v3 at*
 omega
end Go.Own
set_option linter.unusedVariables false
set_option linter.unusedSimpArgs false
namespace Go.Own
open Go.IntWalk
theorem Fe {m inv a b i T:Nat} (hm:m<au) (hb:b<m) (hT:T<m+b):
  T+limb a i*b<39402006196394479212279040100143613805079739270465446667948293404245721771497210611414266254884915640806627990306816∧
  (T+limb a i*b)+(T+limb a i*b)%18446744073709551616*inv%18446744073709551616*m<39402006196394479212279040100143613805079739270465446667948293404245721771497210611414266254884915640806627990306816:=by
 have hm':m<115792089237316195423570985008687907853269984665640564039457584007913129639936:=hm
 have h1:limb a i≤18446744073709551615:=by have:=aQ a i; omega
 have h2:(T+limb a i*b)%18446744073709551616*inv%18446744073709551616≤18446744073709551615:=by have:=Nat.mod_lt ((T+limb a i*b)%18446744073709551616*inv) (show 0<18446744073709551616 by decide); omega
 have h3:=Nat.mul_le_mul_right b h1
 have h4:=Nat.mul_le_mul_right m h2
 generalize limb a i*b=p at*
 generalize (T+p)%18446744073709551616*inv%18446744073709551616*m=q at*
 constructor<;>omega
theorem Iu {rx:Option aJ} {m inv one sq a b:Nat} (h:Rng rx m inv one sq) (ha:a<au) (hb:b<m):∃ R,bE.r rx (limbs a) (limbs b)=(true,limbs R)∧R<m∧R*au%m=a*b%m:=by
 have hm:=h.lt
 have hbW:b<au:=Nat.lt_trans hb hm
 have st:∀ i T,T<m+b→gX.r (jU T) (limb a i:Int) (limbs b)=(true,jU (T+limb a i*b))∧
   gX.r (jU (T+limb a i*b)) (((T+limb a i*b)%18446744073709551616*inv%18446744073709551616:Nat):Int) (limbs m)=(true,jU ((T+limb a i*b)+(T+limb a i*b)%18446744073709551616*inv%18446744073709551616*m))∧
   (over (jU ((T+limb a i*b)+(T+limb a i*b)%18446744073709551616*inv%18446744073709551616*m)) 0 ((((jU ((T+limb a i*b)+(T+limb a i*b)%18446744073709551616*inv%18446744073709551616*m)).drop 1).take 5).take 6)).set 5 0=jU (jC m inv a b i T):=by
  intro i T hT
  obtain ⟨b1,b2⟩:=Fe (a:=a) (i:=i) (inv:=inv) hm hb hT
  exact ⟨OT _ _ _ (aQ a i) hbW b1,OT _ _ _ (Nat.mod_lt _ (by decide)) hm b2,Qb _ b2⟩
 have t0:0<m+b:=by have:=h.gt; omega
 have t1:jC m inv a b 0 0<m+b:=pX t0
 have t2:jC m inv a b 1 (jC m inv a b 0 0)<m+b:=pX t1
 have t3:jC m inv a b 2 (jC m inv a b 1 (jC m inv a b 0 0))<m+b:=pX t2
 obtain ⟨a0,a1,a2⟩:=st 0 0 t0
 obtain ⟨c0,c1,c2⟩:=st 1 _ t1
 obtain ⟨d0,d1,d2⟩:=st 2 _ t2
 obtain ⟨f0,f1,f2⟩:=st 3 _ t3
 have hR:=MW (m:=m) (inv:=inv) (a:=a) (b:=b) t0
 obtain ⟨k,hk⟩:=MX (m:=m) (b:=b) h.inv_eq ha
 simp only [bE.r,bE.g,lt,h.eq,Option.getD_some,Option.isSome_some,aj,aL _ _ (show 0<4 by omega),aL _ _ (show 1<4 by omega),aL _ _ (show 2<4 by omega),aL _ _ (show 3<4 by omega),← Gd,a0,Eb,oJ,a1,a2,c0,c1,c2,d0,d1,d2,f0,f1,f2]
 have hR':jC m inv a b 3 (jC m inv a b 2 (jC m inv a b 1 (jC m inv a b 0 0)))=FD m inv a b:=rfl
 rw [hR']
 generalize FD m inv a b=R4 at*
 have hW:au=115792089237316195423570985008687907853269984665640564039457584007913129639936:=rfl
 have htk:List.take 4 (jU R4)=limbs (R4%au):=by
  show limbs R4=_
  unfold limbs
  have hl:∀ i,i<4→limb (R4%au) i=limb R4 i:=by
   intro i hi
   refine (sJ (aQ _ _) fun t ht=> ?_).symm
   rw [iL,vI,Nat.testBit_mod_two_pow]
   simp [ht,show 64*i+t<256 by omega]
  rw [hl 0 (by omega),hl 1 (by omega),hl 2 (by omega),hl 3 (by omega)]
 have h4:(jU R4).getD 4 0=((R4/au%18446744073709551616:Nat):Int):=by
  show (limb R4 4:Int)=_
  unfold limb
  rw [show (2:Nat)^(64*4)=au by decide]
 have md:∀ R,(R=R4∨(m≤R4∧R=R4 - m))→R*au%m=a*b%m:=by
  rintro R (rfl|⟨hle,rfl⟩)
  ·rw [Nat.mul_comm,hk,Nat.add_mul_mod_self_right]
  ·have e:(R4 - m)*au+au*m=a*b+k*m:=by
    rw [← hk,Nat.sub_mul,Nat.mul_comm au m,Nat.mul_comm R4]
    have:=Nat.mul_le_mul_right au hle
    rw [Nat.mul_comm R4] at this
    omega
   have:=congrArg (· %m) e
   simpa only [Nat.add_mul_mod_self_right] using this
 rw [htk,h4]
 have hlt:=Nat.mod_lt R4 (show 0<au by decide)
 rw [Bu _ _ hlt hm,yE _ _ hlt hm]
 rcases Nat.lt_or_ge R4 au with hlo|hhi
 ·have e0:R4/au%18446744073709551616=0:=by rw [Nat.div_eq_of_lt hlo]
  have e1:R4%au=R4:=Nat.mod_eq_of_lt hlo
  rw [e0,e1]
  rcases Nat.lt_or_ge R4 m with h1|h1
  ·refine ⟨R4,?_,h1,md _ (.inl rfl)⟩
   simp only [uz,if_pos h1]
   rfl
  ·refine ⟨R4 - m,?_,by omega,md _ (.inr ⟨h1,rfl⟩)⟩
   have hc:ile 0 (uz R4 m)=true:=by
    refine bJ ?_
    unfold uz
    rw [if_neg (by omega)]
    split<;>decide
   have e2:(R4+au - m)%au=R4 - m:=by rw [show R4+au - m=(R4 - m)+au by omega,Nat.add_mod_right,Nat.mod_eq_of_lt (by omega)]
   simp only [hc,e2,cond_true,aj]
   rfl
 ·have hhi':115792089237316195423570985008687907853269984665640564039457584007913129639936≤R4:=hhi
  have hm':m<115792089237316195423570985008687907853269984665640564039457584007913129639936:=hm
  have e0:R4/au%18446744073709551616=1:=by show R4/115792089237316195423570985008687907853269984665640564039457584007913129639936%18446744073709551616=1; omega
  have e1:R4%au=R4 - au:=by show R4%115792089237316195423570985008687907853269984665640564039457584007913129639936=R4 - 115792089237316195423570985008687907853269984665640564039457584007913129639936; omega
  rw [e0,e1]
  refine ⟨R4 - m,?_,by omega,md _ (.inr ⟨by omega,rfl⟩)⟩
  have e2:(R4 - au+au - m)%au=R4 - m:=by rw [show R4 - au+au - m=R4 - m by omega,Nat.mod_eq_of_lt (by omega)]
  simp only [e2,aj]
  rfl
end Go.Own
set_option linter.unusedVariables false
set_option linter.unusedSimpArgs false
namespace Go.Own
open Go.IntWalk
theorem TH (n:Nat):IntKind.u64.wrap ((4294967296:Int)*(n:Int))=(((4294967296*n)%18446744073709551616:Nat):Int):=oJ 4294967296 n
theorem MC (n:Nat):IntKind.u64.wrap ((n:Int)*(4294967296:Int))=(((n*4294967296)%18446744073709551616:Nat):Int):=oJ n 4294967296
theorem JI (n:Nat) (h:0<n) (h2:n≤18446744073709551616):IntKind.u64.wrap ((n:Int) - 1)=((n - 1:Nat):Int):=by
 rw [show (n:Int) - 1=((n - 1:Nat):Int) by omega]; exact su _ (by omega)
theorem MB (a b:Nat):IntKind.u64.wrap ((a:Int) - (b:Int))=(((a%18446744073709551616+(18446744073709551616 - b%18446744073709551616))%18446744073709551616:Nat):Int):=by
 simp only [IntKind.wrap,IntKind.bits,IntKind.signed,Bool.false_and,Bool.false_eq_true,if_false]
 omega
structure Dr (yn1 yn0 un u q rh:Nat):Prop where
 ge:(un*4294967296+u)/(yn1*4294967296+yn0)≤q
 eq:q*yn1+rh=un
theorem Gt {yn1 yn0 un u q rh:Nat} (h:Dr yn1 yn0 un u q rh) (hy:0<yn1) (h0:yn0<4294967296) (hun:un<yn1*4294967296+yn0) (hu:u<4294967296) (hc:4294967296≤q∨4294967296*rh+u<q*yn0):0<q∧Dr yn1 yn0 un u (q - 1) (rh+yn1):=by
 have hY:0<yn1*4294967296+yn0:=by omega
 have hlt:(un*4294967296+u)/(yn1*4294967296+yn0)<q:=by
  rw [Nat.div_lt_iff_lt_mul hY]
  clear hY
  have hge:=h.ge
  clear hge
  rcases hc with hc|hc
  ·have:=Nat.mul_le_mul_right (yn1*4294967296+yn0) hc
   have e:4294967296*(yn1*4294967296+yn0)=(yn1*4294967296+yn0)*4294967296:=Nat.mul_comm _ _
   have:=Nat.mul_le_mul_right 4294967296 (show un+1≤yn1*4294967296+yn0 by omega)
   rw [Nat.add_mul] at this
   omega
  ·have e1:q*(yn1*4294967296+yn0)=(q*yn1)*4294967296+q*yn0:=by grind
   have e2:un*4294967296=(q*yn1)*4294967296+rh*4294967296:=by rw [← h.eq,Nat.add_mul]
   rw [e1,e2]
   omega
 generalize hQ:(un*4294967296+u)/(yn1*4294967296+yn0)=Q at hlt
 refine ⟨by omega,by rw [hQ]; omega,?_⟩
 have:=h.eq
 have e:(q - 1+1)*yn1=q*yn1:=by rw [Nat.sub_add_cancel (by omega)]
 rw [Nat.add_mul,Nat.one_mul] at e
 omega
theorem wW {yn1 yn0 un u q rh:Nat} (h:Dr yn1 yn0 un u q rh) (hy:0<yn1) (h0:yn0<4294967296) (hun:un<yn1*4294967296+yn0) (hc:4294967296≤rh∨q*yn0≤4294967296*rh+u):q=(un*4294967296+u)/(yn1*4294967296+yn0):=by
 have hY:0<yn1*4294967296+yn0:=by omega
 refine Nat.le_antisymm ?_ h.ge
 rw [Nat.le_div_iff_mul_le hY]
 have e1:q*(yn1*4294967296+yn0)=(q*yn1)*4294967296+q*yn0:=by grind
 have e2:un*4294967296=(q*yn1)*4294967296+rh*4294967296:=by rw [← h.eq,Nat.add_mul]
 rw [e1,e2]
 rcases hc with hc|hc
 ·have h1:=h.eq
  have h2:q*yn1<yn1*4294967296:=by omega
  have h3:q<4294967296:=by
   rw [Nat.mul_comm yn1] at h2
   exact Nat.lt_of_mul_lt_mul_right h2
  have h4:q*yn0≤4294967296*4294967296:=Nat.mul_le_mul (by omega) (by omega)
  have h5:4294967296*4294967296≤rh*4294967296:=Nat.mul_le_mul_right _ hc
  omega
 ·omega
theorem half_start {yn1 yn0 un u:Nat} (hy:0<yn1) (hu:u<4294967296):Dr yn1 yn0 un u (un/yn1) (un%yn1):=by
 have hY:0<yn1*4294967296+yn0:=by omega
 refine ⟨?_,by have:=Nat.div_add_mod un yn1; rw [Nat.mul_comm]; omega⟩
 rw [Nat.le_div_iff_mul_le hy]
 have h1:=Nat.div_mul_le_self (un*4294967296+u) (yn1*4294967296+yn0)
 generalize (un*4294967296+u)/(yn1*4294967296+yn0)=Q at*
 have e1:Q*(yn1*4294967296+yn0)=(Q*yn1)*4294967296+Q*yn0:=by grind
 rw [e1] at h1
 omega
theorem NT {yn1 un q rh:Nat} (h:q*yn1+rh=un) (hy:2147483648≤yn1) (hun:un<18446744073709551616):q<8589934592:=by
 have h1:q*2147483648≤q*yn1:=Nat.mul_le_mul_left _ hy
 omega
theorem TY (Y c1 c2 s w0:Int) (yn1 yn0 un u:Nat) (hy:2147483648≤yn1) (hy2:yn1<4294967296) (h0:yn0<4294967296) (hun:un<yn1*4294967296+yn0) (hu:u<4294967296):
  ∃ c rh:Int,∃ z,fu.l0 (Y,c1,c2,s,(yn1:Int),(yn0:Int),(un:Int),(u:Int),w0,((un/yn1:Nat):Int),((un%yn1:Nat):Int),()) ()=(true,z,(Y,c1,c2,s,(yn1:Int),(yn0:Int),(un:Int),(u:Int),w0,(((un*4294967296+u)/(yn1*4294967296+yn0):Nat):Int),rh,()),(),(),()):=by
 have hun64:un<18446744073709551616:=by
  have:yn1*4294967296≤4294967295*4294967296:=Nat.mul_le_mul_right _ (by omega)
  omega
 generalize hQ:(un*4294967296+u)/(yn1*4294967296+yn0)=Q
 generalize hw:fu.l0 _ _=w
 refine jw (w:=w) hw.symm (fun x _=>∃ q rh:Nat,x=(Y,c1,c2,s,(yn1:Int),(yn0:Int),(un:Int),(u:Int),w0,(q:Int),(rh:Int),())∧Dr yn1 yn0 un u q rh∧rh<4294967296)
  (fun x _=>2 - x.2.2.2.2.2.2.2.2.2.2.1.toNat/yn1) ⟨_,_,rfl,half_start (by omega) hu,by have:=Nat.mod_lt un (show 0<yn1 by omega); omega⟩ (Nat.lt_of_le_of_lt (Nat.sub_le _ _) (show 2<8 by decide)) (Q:=fun w=>∃ c rh:Int,∃ z,w=(true,z,(Y,c1,c2,s,(yn1:Int),(yn0:Int),(un:Int),(u:Int),w0,(Q:Int),rh,()),(),(),())) ?_
 rintro _ _ R ⟨q,rh,rfl,hI,hrh⟩ hR
 have hq:=NT hI.eq hy hun64
 have e1:IntKind.u64.wrap ((rh:Int)+(yn1:Int))=((rh+yn1:Nat):Int):=by rw [pM,Nat.mod_eq_of_lt (by omega)]
 have dec:(4294967296≤q∨4294967296*rh+u<q*yn0)→∃ c rh':Int,∃ z,(lt (IntKind.u64.wrap ((q:Int) - 1)) fun (v208:Int)=>lt (IntKind.u64.wrap ((rh:Int)+(yn1:Int))) fun (v209:Int)=>lt (ile 4294967296 v209) fun (v210:Bool)=>
   bif v210 then (true,0+1,(Y,c1,c2,s,(yn1:Int),(yn0:Int),(un:Int),(u:Int),w0,v208,v209,()),(),(),()) else R (Y,c1,c2,s,(yn1:Int),(yn0:Int),(un:Int),(u:Int),w0,v208,v209,()) ())=(true,z,(Y,c1,c2,s,(yn1:Int),(yn0:Int),(un:Int),(u:Int),w0,(Q:Int),rh',()),(),(),()):=by
  intro hc
  obtain ⟨hq0,hI'⟩:=Gt hI (by omega) h0 hun hu hc
  simp only [lt]
  rw [JI q hq0 (by omega),e1]
  rcases Nat.lt_or_ge (rh+yn1) 4294967296 with h1|h1
  ·rw [lQ (by omega)]
   refine hR _ _ ⟨q - 1,rh+yn1,rfl,hI',h1⟩ ?_
   simp only [Int.toNat_natCast]
   rw [Nat.add_div_right _ (by omega)]
   have:rh/yn1<1:=by
    rw [Nat.div_lt_iff_lt_mul (by omega)]; omega
   omega
  ·rw [bJ (by omega),wW hI' (by omega) h0 hun (.inl h1),hQ]
   exact ⟨0,_,_,rfl⟩
 simp only [fu.g0]
 rcases Nat.lt_or_ge q 4294967296 with hqB|hqB
 ·rw [show lt (ile (4294967296:Int) (q:Int))=lt false from congrArg lt (lQ (by omega))]
  simp only [lt,cond_false,TH,oJ,pM]
  have p1:q*yn0<18446744073709551616:=by
   have:=Nat.mul_le_mul (show q≤4294967295 by omega) (show yn0≤4294967295 by omega)
   omega
  rw [Nat.mod_eq_of_lt p1,Nat.mod_eq_of_lt (show 4294967296*rh<18446744073709551616 by omega),Nat.mod_eq_of_lt (show 4294967296*rh+u<18446744073709551616 by omega)]
  rcases Nat.lt_or_ge (4294967296*rh+u) (q*yn0) with h1|h1
  ·rw [cK (by omega)]
   have:=dec (.inr h1)
   simp only [lt,e1] at this
   simpa only [cond_true,Nat.mod_eq_of_lt (show rh+yn1<18446744073709551616 by omega)] using this
  ·rw [dJ (by omega)]
   rw [wW hI (by omega) h0 hun (.inr h1),hQ]
   exact ⟨0,_,_,rfl⟩
 ·rw [show lt (ile (4294967296:Int) (q:Int))=lt true from congrArg lt (bJ (by omega))]
  exact dec (.inl hqB)
theorem TW (Y c1 c2 s w8 w10:Int) (yn1 yn0 un u:Nat) (hw10:w10=(un:Int)) (hy:2147483648≤yn1) (hy2:yn1<4294967296) (h0:yn0<4294967296) (hun:un<yn1*4294967296+yn0) (hu:u<4294967296):
  ∃ c rh:Int,∃ z,fu.l1 (Y,c1,c2,s,(yn1:Int),(yn0:Int),(u:Int),w8,((un%yn1:Nat):Int),w10,((un/yn1:Nat):Int),()) ()=(true,z,(Y,c1,c2,s,(yn1:Int),(yn0:Int),(u:Int),w8,rh,w10,(((un*4294967296+u)/(yn1*4294967296+yn0):Nat):Int),()),(),(),()):=by
 have hun64:un<18446744073709551616:=by
  have:yn1*4294967296≤4294967295*4294967296:=Nat.mul_le_mul_right _ (by omega)
  omega
 generalize hQ:(un*4294967296+u)/(yn1*4294967296+yn0)=Q
 generalize hw:fu.l1 _ _=w
 refine jw (w:=w) hw.symm (fun x _=>∃ q rh:Nat,x=(Y,c1,c2,s,(yn1:Int),(yn0:Int),(u:Int),w8,(rh:Int),w10,(q:Int),())∧Dr yn1 yn0 un u q rh∧rh<4294967296)
  (fun x _=>2 - x.2.2.2.2.2.2.2.2.1.toNat/yn1) ⟨_,_,rfl,half_start (by omega) hu,by have:=Nat.mod_lt un (show 0<yn1 by omega); omega⟩ (Nat.lt_of_le_of_lt (Nat.sub_le _ _) (show 2<8 by decide)) (Q:=fun w=>∃ c rh:Int,∃ z,w=(true,z,(Y,c1,c2,s,(yn1:Int),(yn0:Int),(u:Int),w8,rh,w10,(Q:Int),()),(),(),())) ?_
 rintro _ _ R ⟨q,rh,rfl,hI,hrh⟩ hR
 have hq:=NT hI.eq hy hun64
 have e1:IntKind.u64.wrap ((rh:Int)+(yn1:Int))=((rh+yn1:Nat):Int):=by rw [pM,Nat.mod_eq_of_lt (by omega)]
 have dec:(4294967296≤q∨4294967296*rh+u<q*yn0)→∃ c rh':Int,∃ z,(lt (IntKind.u64.wrap ((q:Int) - 1)) fun (v208:Int)=>lt (IntKind.u64.wrap ((rh:Int)+(yn1:Int))) fun (v209:Int)=>lt (ile 4294967296 v209) fun (v210:Bool)=>
   bif v210 then (true,2+1,(Y,c1,c2,s,(yn1:Int),(yn0:Int),(u:Int),w8,v209,w10,v208,()),(),(),()) else R (Y,c1,c2,s,(yn1:Int),(yn0:Int),(u:Int),w8,v209,w10,v208,()) ())=(true,z,(Y,c1,c2,s,(yn1:Int),(yn0:Int),(u:Int),w8,rh',w10,(Q:Int),()),(),(),()):=by
  intro hc
  obtain ⟨hq0,hI'⟩:=Gt hI (by omega) h0 hun hu hc
  simp only [lt]
  rw [JI q hq0 (by omega),e1]
  rcases Nat.lt_or_ge (rh+yn1) 4294967296 with h1|h1
  ·rw [lQ (by omega)]
   refine hR _ _ ⟨q - 1,rh+yn1,rfl,hI',h1⟩ ?_
   simp only [Int.toNat_natCast]
   rw [Nat.add_div_right _ (by omega)]
   have:rh/yn1<1:=by
    rw [Nat.div_lt_iff_lt_mul (by omega)]; omega
   omega
  ·rw [bJ (by omega),wW hI' (by omega) h0 hun (.inl h1),hQ]
   exact ⟨0,_,_,rfl⟩
 simp only [fu.g1]
 rcases Nat.lt_or_ge q 4294967296 with hqB|hqB
 ·rw [show lt (ile (4294967296:Int) (q:Int))=lt false from congrArg lt (lQ (by omega))]
  simp only [lt,cond_false,TH,oJ,pM]
  have p1:q*yn0<18446744073709551616:=by
   have:=Nat.mul_le_mul (show q≤4294967295 by omega) (show yn0≤4294967295 by omega)
   omega
  rw [Nat.mod_eq_of_lt p1,Nat.mod_eq_of_lt (show 4294967296*rh<18446744073709551616 by omega),Nat.mod_eq_of_lt (show 4294967296*rh+u<18446744073709551616 by omega)]
  rcases Nat.lt_or_ge (4294967296*rh+u) (q*yn0) with h1|h1
  ·rw [cK (by omega)]
   have:=dec (.inr h1)
   simp only [lt,e1] at this
   simpa only [cond_true,Nat.mod_eq_of_lt (show rh+yn1<18446744073709551616 by omega)] using this
  ·rw [dJ (by omega)]
   rw [wW hI (by omega) h0 hun (.inr h1),hQ]
   exact ⟨0,_,_,rfl⟩
 ·rw [show lt (ile (4294967296:Int) (q:Int))=lt true from congrArg lt (bJ (by omega))]
  exact dec (.inl hqB)
end Go.Own
set_option linter.unusedVariables false
set_option linter.unusedSimpArgs false
namespace Go.Own
open Go.IntWalk
theorem UJ (y:Nat) (hy:y<18446744073709551616):iq.r (y:Int)=(true,((64 - bR y:Nat):Int)):=by
 have:=Ev hy
 simp only [iq.r,iq.g,lt,xJ y hy,aj]
 rw [Ux (by omega) (by omega)]
 refine Prod.ext rfl ?_
 show ((64:Int) - (bR y:Int))=_
 omega
theorem HZ (x s:Nat) (hs:s<64):IntKind.u64.wrap ((x:Int)*2^(min s 64))=((x*2^s%18446744073709551616:Nat):Int):=by
 rw [Nat.min_eq_left (by omega),tZ,oJ]
theorem RP (x s:Nat):(x:Int).fdiv (2^(min s 64))=((x/2^(min s 64):Nat):Int):=by rw [tZ,xh]
theorem Qp {hi lo s:Nat} (hs:s<64) (hlo:lo<18446744073709551616) (h:hi*2^s<18446744073709551616):(hi*2^s%18446744073709551616)||| (lo/2^(min (64 - s) 64))=(hi*18446744073709551616+lo)*2^s/18446744073709551616:=by
 rw [Nat.mod_eq_of_lt h,Nat.min_eq_left (by omega)]
 have e:(18446744073709551616:Nat)=2^(64 - s)*2^s:=by rw [← Nat.pow_add,Nat.sub_add_cancel (by omega)]
 have h1:lo/2^(64 - s)<2^s:=by
  rw [Nat.div_lt_iff_lt_mul (Nat.two_pow_pos _),Nat.mul_comm,← e]; exact hlo
 have h2:hi*2^s||| lo/2^(64 - s)=hi*2^s+lo/2^(64 - s):=by
  rw [Nat.mul_comm hi,← Nat.two_pow_add_eq_or_of_lt h1]
 rw [h2,Nat.add_mul,Nat.mul_right_comm,Nat.add_comm (hi*2^s*18446744073709551616),Nat.add_mul_div_right _ _ (by decide),Nat.add_comm]
 congr 1
 conv=>rhs; rw [e]
 rw [Nat.mul_div_mul_right _ _ (Nat.two_pow_pos _)]
theorem Qo {hi lo s:Nat}:lo*2^s%18446744073709551616=(hi*18446744073709551616+lo)*2^s%18446744073709551616:=by
 rw [Nat.add_mul,Nat.mul_right_comm,Nat.mul_add_mod_self_right]
theorem H7 {N Y a b c q1 r1 q0:Nat} (hY:0<Y) (hN:N=a*18446744073709551616+b*4294967296+c) (hq1:q1=(a*4294967296+b)/Y) (hr1:r1=a*4294967296+b - q1*Y) (hq0:q0=(r1*4294967296+c)/Y):
  N/Y=q1*4294967296+q0∧N%Y=r1*4294967296+c - q0*Y∧r1<Y∧q1*Y≤a*4294967296+b∧q0*Y≤r1*4294967296+c:=by
 have h1:q1*Y≤a*4294967296+b:=by rw [hq1]; exact Nat.div_mul_le_self _ _
 have h2:r1=(a*4294967296+b)%Y:=by
  have h:=Nat.div_add_mod (a*4294967296+b) Y
  rw [← hq1,Nat.mul_comm] at h
  rw [hr1]
  exact Nat.sub_eq_of_eq_add (h.symm.trans (Nat.add_comm _ _))
 have h3:r1<Y:=by rw [h2]; exact Nat.mod_lt _ hY
 have h4:q0*Y≤r1*4294967296+c:=by rw [hq0]; exact Nat.div_mul_le_self _ _
 have h5:r1*4294967296+c - q0*Y=(r1*4294967296+c)%Y:=by
  have h:=Nat.div_add_mod (r1*4294967296+c) Y
  rw [← hq0,Nat.mul_comm] at h
  exact Nat.sub_eq_of_eq_add (h.symm.trans (Nat.add_comm _ _))
 have e:N=(q1*4294967296+q0)*Y+(r1*4294967296+c - q0*Y):=by
  have e1:(q1*4294967296+q0)*Y=(q1*Y)*4294967296+q0*Y:=by grind
  rw [e1,hN]
  clear e1 h5 h2 hq0 hq1
  generalize q1*Y=u at*
  generalize q0*Y=v at*
  omega
 have hlt:r1*4294967296+c - q0*Y<Y:=by rw [h5]; exact Nat.mod_lt _ hY
 refine ⟨?_,?_,h3,h1,h4⟩
 ·rw [e,Nat.mul_comm,Nat.mul_add_div hY,Nat.div_eq_of_lt hlt,Nat.add_zero]
 ·rw [e,Nat.mul_comm,Nat.mul_add_mod,Nat.mod_eq_of_lt hlt]
theorem EN {a b:Nat} (h:b≤a) (h2:a - b<18446744073709551616):(a+(18446744073709551616 - b%18446744073709551616))%18446744073709551616=a - b:=by
 omega
theorem KL (hi lo y:Nat) (hh:hi<y) (hlo:lo<18446744073709551616) (hy:y<18446744073709551616):
  fu.r (hi:Int) (lo:Int) (y:Int)=(true,(((hi*18446744073709551616+lo)/y:Nat):Int),(((hi*18446744073709551616+lo)%y:Nat):Int)):=by
 have hy0:¬ ((y:Int)== 0)=true:=by simp; omega
 have hy0':((y:Int)== 0)=false:=by simpa using hy0
 simp only [fu.r,fu.g,lt,hy0',lQ (show ¬ ((y:Int)≤(hi:Int)) by omega),cond_false]
 rcases Nat.eq_zero_or_pos hi with h0|h0
 ·subst h0
  have e:(((0:Nat):Int)== 0)=true:=rfl
  simp only [e,cond_true,wB,yK,Gr (show ¬ (y:Int)=0 by omega),Bool.not_false,aj]
  rw [su _ (Nat.lt_of_le_of_lt (Nat.div_le_self _ _) hlo)]
  simp
 ·have e:((hi:Int)== 0)=false:=by simp; omega
  have hbl:=Ev hy
  have hy00:y≠0:=by omega
  have hb0:0<bR y:=by
   rcases Nat.eq_zero_or_pos (bR y) with h|h
   ·have:=oh y; rw [h] at this; omega
   ·exact h
  obtain ⟨s,hsd⟩:∃ s,s=64 - bR y:=⟨_,rfl⟩
  have hs:s<64:=by omega
  have p2:(2:Nat)^64=18446744073709551616:=by decide
  have hYlt:y*2^s<18446744073709551616:=by
   have h1:=Nat.mul_lt_mul_of_pos_right (oh y) (Nat.two_pow_pos s)
   rw [← Nat.pow_add,show bR y+s=64 by omega,p2] at h1
   exact h1
  have hYge:9223372036854775808≤y*2^s:=by
   have h1:=Nat.mul_le_mul_right (2^s) (pq hy00)
   rw [← Nat.pow_add,show bR y - 1+s=63 by omega] at h1
   exact h1
  have hps:=Nat.two_pow_pos s
  have hhs:hi*2^s<y*2^s:=Nat.mul_lt_mul_of_pos_right hh hps
  obtain ⟨Y,hY⟩:∃ Y,Y=y*2^s:=⟨_,rfl⟩
  obtain ⟨M,hM⟩:∃ M,M=(hi*18446744073709551616+lo)*2^s:=⟨_,rfl⟩
  have hMd:M/Y=(hi*18446744073709551616+lo)/y:=by rw [hM,hY,Nat.mul_div_mul_right _ _ hps]
  have hMm:M%Y=(hi*18446744073709551616+lo)%y*2^s:=by rw [hM,hY,Nat.mul_mod_mul_right]
  have hMY:M<Y*18446744073709551616:=by
   rw [hM,hY,Nat.mul_right_comm]
   exact Nat.mul_lt_mul_of_pos_right (by have:=Nat.mul_le_mul_right 18446744073709551616 (show hi+1≤y by omega); rw [Nat.add_mul] at this; omega) hps
  obtain ⟨u,hu⟩:∃ u,u=M/18446744073709551616:=⟨_,rfl⟩
  obtain ⟨v,hv⟩:∃ v,v=M%18446744073709551616:=⟨_,rfl⟩
  have hMuv:M=u*18446744073709551616+v:=by omega
  have hv64:v<18446744073709551616:=by omega
  have huY:u<Y:=by rw [hu,Nat.div_lt_iff_lt_mul (by decide)]; exact hMY
  have hsI:IntKind.u64.wrap ((s:Nat):Int)=(s:Int):=su _ (by omega)
  have hs64:IntKind.u64.wrap ((64:Int) - (s:Int))=((64 - s:Nat):Int):=by rw [show (64:Int) - (s:Int)=((64 - s:Nat):Int) by omega]; exact su _ (by omega)
  have hYw:IntKind.u64.wrap ((y:Int)*2^(min s 64))=(Y:Int):=by rw [HZ y s hs,Nat.mod_eq_of_lt hYlt,hY]
  have huw:eU .u64 (· ||| ·) (IntKind.u64.wrap ((hi:Int)*2^(min s 64))) ((lo:Int).fdiv (2^(min (64 - s) 64)))=(u:Int):=by
   rw [HZ hi s hs,RP,oC _ _ (Nat.mod_lt _ (by decide)) (Nat.lt_of_le_of_lt (Nat.div_le_self _ _) hlo),Qp hs hlo (by omega),hu,hM]
  have hvw:IntKind.u64.wrap ((lo:Int)*2^(min s 64))=(v:Int):=by rw [HZ lo s hs,Qo (hi:=hi),hv,hM]
  have hY64:Y<18446744073709551616:=by rw [hY]; exact hYlt
  have hY63:9223372036854775808≤Y:=by rw [hY]; exact hYge
  clear hYlt hYge
  obtain ⟨n1,hn1⟩:∃ n1,n1=Y/4294967296:=⟨_,rfl⟩
  obtain ⟨n0,hn0⟩:∃ n0,n0=Y%4294967296:=⟨_,rfl⟩
  obtain ⟨v1,hv1⟩:∃ v1,v1=v/4294967296:=⟨_,rfl⟩
  obtain ⟨v0,hv0⟩:∃ v0,v0=v%4294967296:=⟨_,rfl⟩
  have hn:n1*4294967296+n0=Y:=by omega
  have hvv:v1*4294967296+v0=v:=by rw [hv1,hv0,Nat.mul_comm]; exact Nat.div_add_mod v 4294967296
  obtain ⟨q1,hq1⟩:∃ q1,q1=(u*4294967296+v1)/Y:=⟨_,rfl⟩
  obtain ⟨r1,hr1⟩:∃ r1,r1=u*4294967296+v1 - q1*Y:=⟨_,rfl⟩
  obtain ⟨q0,hq0⟩:∃ q0,q0=(r1*4294967296+v0)/Y:=⟨_,rfl⟩
  obtain ⟨t1,t2,t3,hq1Y,hq0Y⟩:=H7 (N:=M) (Y:=Y) (a:=u) (b:=v1) (c:=v0) (by omega) (by rw [hMuv,Nat.add_assoc,hvv]) hq1 hr1 hq0
  clear p2 hM hu hv hMuv
  simp only [e,UJ y hy,← hsd,aj,hsI,Int.toNat_natCast,hYw,dJ (show ¬ ((s:Nat):Int)<0 by omega),Bool.not_false,I4,Ga Y hY64,hs64,huw,hvw,Ga v hv64,← hn1,← hn0,← hv1,← hv0,dJ (show ¬ ((64 - s:Nat):Int)<0 by omega),wB,Gr (show ¬ ((n1:Nat):Int)=0 by omega)]
  have hu64:u<18446744073709551616:=by omega
  have q1lt:u/n1<18446744073709551616:=Nat.lt_of_le_of_lt (Nat.div_le_self _ _) hu64
  have r1e:IntKind.u64.wrap ((u:Int) - IntKind.u64.wrap (((u/n1:Nat):Int)*(n1:Int)))=((u%n1:Nat):Int):=by
   have:=Nat.div_add_mod u n1
   rw [Nat.mul_comm] at this
   rw [oJ,Nat.mod_eq_of_lt (by omega),show (u:Int) - ((u/n1*n1:Nat):Int)=((u%n1:Nat):Int) by omega]
   exact su _ (by have:=Nat.mod_le u n1; omega)
  rw [su _ q1lt,r1e]
  obtain ⟨c,rh,z,hl0⟩:=TY (Y:Int) 0 0 (s:Int) (v0:Int) n1 n0 u v1 (by omega) (by omega) (by omega) (by omega) (by omega)
  rw [hn] at hl0
  rw [hl0]
  simp only [aj]
  simp only [← hq1]
  have hr64:r1<18446744073709551616:=by omega
  have e21:IntKind.u64.wrap (IntKind.u64.wrap (IntKind.u64.wrap ((u:Int)*4294967296)+(v1:Int)) - IntKind.u64.wrap ((q1:Int)*(Y:Int)))=(r1:Int):=by
   rw [MC,pM,oJ,MB,hr1]
   refine congrArg (fun n:Nat=>(n:Int)) ?_
   simp only [Nat.mod_add_mod,Nat.mod_mod]
   exact EN hq1Y (by omega)
  rw [e21]
  have q0lt:r1/n1<18446744073709551616:=Nat.lt_of_le_of_lt (Nat.div_le_self _ _) hr64
  have r0e:IntKind.u64.wrap ((r1:Int) - IntKind.u64.wrap (((r1/n1:Nat):Int)*(n1:Int)))=((r1%n1:Nat):Int):=by
   have:=Nat.div_add_mod r1 n1
   rw [Nat.mul_comm] at this
   rw [oJ,Nat.mod_eq_of_lt (by omega),show (r1:Int) - ((r1/n1*n1:Nat):Int)=((r1%n1:Nat):Int) by omega]
   exact su _ (by have:=Nat.mod_le r1 n1; omega)
  simp only [wB,su _ q0lt,r0e]
  obtain ⟨c',rh',z',hl1⟩:=TW (Y:Int) 0 0 (s:Int) (q1:Int) (r1:Int) n1 n0 r1 v0 rfl (by omega) (by omega) (by omega) (by omega) (by omega)
  rw [hn] at hl1
  rw [hl1]
  simp only [← hq0]
  simp only [aj,Gr (show ¬ ((n1:Nat):Int)=0 by omega),Bool.not_false]
  have ef:IntKind.u64.wrap (IntKind.u64.wrap (IntKind.u64.wrap ((r1:Int)*4294967296)+(v0:Int)) - IntKind.u64.wrap ((q0:Int)*(Y:Int)))=((M%Y:Nat):Int):=by
   rw [MC,pM,oJ,MB,t2]
   refine congrArg (fun n:Nat=>(n:Int)) ?_
   simp only [Nat.mod_add_mod,Nat.mod_mod]
   refine EN hq0Y ?_
   rw [← t2]
   have:=Nat.mod_lt M (show 0<Y by omega)
   omega
  have eq:IntKind.u64.wrap (IntKind.u64.wrap ((q1:Int)*4294967296)+(q0:Int))=((M/Y:Nat):Int):=by
   rw [MC,pM,t1]
   refine congrArg (fun n:Nat=>(n:Int)) ?_
   rw [Nat.mod_add_mod]
   refine Nat.mod_eq_of_lt ?_
   rw [← t1,Nat.div_lt_iff_lt_mul (by omega),Nat.mul_comm]
   exact hMY
  simp only [ef,eq,cond_false,Int.toNat_natCast,dJ (show ¬ ((s:Nat):Int)<0 by omega),Bool.not_false,aj,hMd,hMm,Nat.min_eq_left (show s≤64 by omega),fdiv_pow,Nat.mul_div_cancel _ hps]
theorem GH {W L l0 l1 l2 l3 p0 p1 p2 p3 r0 r1 r2 r3:Nat} (b3:L*W+l3=p3+r3) (b2:r3*W+l2=p2+r2) (b1:r2*W+l1=p1+r1) (b0:r1*W+l0=p0+r0):
  L*(W*W*W*W)+(l0+W*l1+W*W*l2+W*W*W*l3)=p0+W*p1+W*W*p2+W*W*W*p3+r0:=by
 have e1:L*(W*W*W*W)+(l0+W*l1+W*W*l2+W*W*W*l3)=l0+W*(l1+W*(l2+W*(L*W+l3))):=by grind
 have e2:l2+W*(p3+r3)=W*p3+(r3*W+l2):=by grind
 have e3:l1+W*(W*p3+(p2+r2))=W*W*p3+W*p2+(r2*W+l1):=by grind
 have e4:l0+W*(W*W*p3+W*p2+(p1+r1))=W*W*W*p3+W*W*p2+W*p1+(r1*W+l0):=by grind
 rw [e1,b3,e2,b2,e3,b1,e4,b0]
 omega
theorem Jf {L l0 l1 l2 l3 p0 p1 p2 p3 r0 r1 r2 r3:Nat} (b3:L*18446744073709551616+l3=p3+r3) (b2:r3*18446744073709551616+l2=p2+r2) (b1:r2*18446744073709551616+l1=p1+r1) (b0:r1*18446744073709551616+l0=p0+r0):
  L*115792089237316195423570985008687907853269984665640564039457584007913129639936+(l0+18446744073709551616*l1+340282366920938463463374607431768211456*l2+6277101735386680763835789423207666416102355444464034512896*l3)=
   p0+18446744073709551616*p1+340282366920938463463374607431768211456*p2+6277101735386680763835789423207666416102355444464034512896*p3+r0:=by
 have h:=GH b3 b2 b1 b0
 simp only [Nat.reduceMul] at h
 exact h
theorem Qa (a left m:Nat) (ha:a<au) (hl:left<m) (hm:m<18446744073709551616):nU.r (limbs a) (left:Int) (m:Int)=(true,limbs ((left*au+a)/m),[(((left*au+a)%m:Nat):Int),0,0,0]):=by
 have hm0:0<m:=by omega
 have dg:∀ l i,l<m→∃ q r:Nat,fu.r (l:Int) (limb a i:Int) (m:Int)=(true,(q:Int),(r:Int))∧q<18446744073709551616∧l*18446744073709551616+limb a i=q*m+r∧r<m:=by
  intro l i hl
  have h1:=aQ a i
  refine ⟨_,_,KL l (limb a i) m hl h1 hm,?_,?_,Nat.mod_lt _ hm0⟩
  ·rw [Nat.div_lt_iff_lt_mul hm0]
   have h2:=Nat.mul_le_mul_right 18446744073709551616 (show l+1≤m by omega)
   rw [Nat.add_mul] at h2
   rw [Nat.mul_comm 18446744073709551616]
   omega
  ·rw [Nat.mul_comm (_/m)]; exact (Nat.div_add_mod _ m).symm
 obtain ⟨q3,r3,s3,a3,b3,c3⟩:=dg left 3 hl
 obtain ⟨q2,r2,s2,a2,b2,c2⟩:=dg r3 2 c3
 obtain ⟨q1,r1,s1,a1,b1,c1⟩:=dg r2 1 c2
 obtain ⟨q0,r0,s0,a0,b0,c0⟩:=dg r1 0 c1
 simp only [nU.r,nU.g,lt,aL _ _ (show 3<4 by omega),aL _ _ (show 2<4 by omega),aL _ _ (show 1<4 by omega),aL _ _ (show 0<4 by omega),s3,s2,s1,s0,aj]
 have hv:=iY a ha
 have key:left*au+a=jY q0 q1 q2 q3*m+r0:=by
  have e:jY q0 q1 q2 q3*m=q0*m+18446744073709551616*(q1*m)+340282366920938463463374607431768211456*(q2*m)+6277101735386680763835789423207666416102355444464034512896*(q3*m):=by unfold jY; grind
  rw [e]
  conv=>lhs; rw [← hv]
  unfold jY
  show left*115792089237316195423570985008687907853269984665640564039457584007913129639936+_=_
  generalize q0*m=p0 at b0 ⊢
  generalize q1*m=p1 at b1 ⊢
  generalize q2*m=p2 at b2 ⊢
  generalize q3*m=p3 at b3 ⊢
  generalize limb a 0=l0 at b0 ⊢
  generalize limb a 1=l1 at b1 ⊢
  generalize limb a 2=l2 at b2 ⊢
  generalize limb a 3=l3 at b3 ⊢
  exact Jf b3 b2 b1 b0
 have hd:(left*au+a)/m=jY q0 q1 q2 q3:=by rw [key,Nat.mul_comm,Nat.mul_add_div hm0,Nat.div_eq_of_lt c0,Nat.add_zero]
 have hmd:(left*au+a)%m=r0:=by rw [key,Nat.mul_comm,Nat.mul_add_mod,Nat.mod_eq_of_lt c0]
 rw [hd,hmd]
 have:=lX a0 a1 a2 a3 (n:=jY q0 q1 q2 q3) rfl
 rw [this]
end Go.Own
set_option linter.unusedVariables false
set_option linter.unusedSimpArgs false
namespace Go.Own
open Go.IntWalk
structure Uk (t0 t1 t2 t3 x b0 b1 b2 b3 n0 n1 n2 n3 c:Nat):Prop where
 l0:n0<18446744073709551616
 l1:n1<18446744073709551616
 l2:n2<18446744073709551616
 l3:n3<18446744073709551616
 lc:c<18446744073709551616
 eq:n0+18446744073709551616*n1+18446744073709551616*18446744073709551616*n2+18446744073709551616*18446744073709551616*18446744073709551616*n3+18446744073709551616*18446744073709551616*18446744073709551616*18446744073709551616*c
  =t0+18446744073709551616*t1+18446744073709551616*18446744073709551616*t2+18446744073709551616*18446744073709551616*18446744073709551616*t3+x*(b0+18446744073709551616*b1+18446744073709551616*18446744073709551616*b2+18446744073709551616*18446744073709551616*18446744073709551616*b3)
theorem J8 {p t c:Nat} (hp:p≤340282366920938463426481119284349108225) (ht:t<18446744073709551616) (hc:c<18446744073709551616):ml p t c+18446744073709551616*mc p t c=p+t+c:=by
 rw [Rv,F8 hp ht hc]; omega
theorem Qg {W t0 t1 t2 t3 x b0 b1 b2 b3 n0 n1 n2 n3 c1 c2 c3 c4:Nat} (e0:n0+W*c1=x*b0+t0+0) (e1:n1+W*c2=x*b1+t1+c1) (e2:n2+W*c3=x*b2+t2+c2) (e3:n3+W*c4=x*b3+t3+c3):
  n0+W*n1+W*W*n2+W*W*W*n3+W*W*W*W*c4=t0+W*t1+W*W*t2+W*W*W*t3+x*(b0+W*b1+W*W*b2+W*W*W*b3):=by
 have h:n0+W*n1+W*W*n2+W*W*W*n3+W*W*W*W*c4=n0+W*(n1+W*(n2+W*(n3+W*c4))):=by grind
 rw [h,e3]
 have h2:n2+W*(x*b3+t3+c3)=(n2+W*c3)+W*(x*b3+t3):=by grind
 rw [h2,e2]
 have h3:n1+W*(x*b2+t2+c2+W*(x*b3+t3))=(n1+W*c2)+W*(x*b2+t2+W*(x*b3+t3)):=by grind
 rw [h3,e1]
 have h4:n0+W*(x*b1+t1+c1+W*(x*b2+t2+W*(x*b3+t3)))=(n0+W*c1)+W*(x*b1+t1+W*(x*b2+t2+W*(x*b3+t3))):=by grind
 rw [h4,e0]
 grind
theorem J9 (p t c:Nat):ml p t c<18446744073709551616:=Nat.mod_lt _ (by decide)
theorem Uw {t0 t1 t2 t3 x b0 b1 b2 b3:Nat} (h0:t0<18446744073709551616) (h1:t1<18446744073709551616) (h2:t2<18446744073709551616) (h3:t3<18446744073709551616) (hx:x<18446744073709551616) (k0:b0<18446744073709551616) (k1:b1<18446744073709551616) (k2:b2<18446744073709551616) (k3:b3<18446744073709551616):
  Uk t0 t1 t2 t3 x b0 b1 b2 b3 (ml (x*b0) t0 0) (ml (x*b1) t1 (mc (x*b0) t0 0)) (ml (x*b2) t2 (mc (x*b1) t1 (mc (x*b0) t0 0))) (ml (x*b3) t3 (mc (x*b2) t2 (mc (x*b1) t1 (mc (x*b0) t0 0)))) (mc (x*b3) t3 (mc (x*b2) t2 (mc (x*b1) t1 (mc (x*b0) t0 0)))):=
 ⟨J9 _ _ _,J9 _ _ _,J9 _ _ _,J9 _ _ _,yQ _ _ _,
  Qg (J8 (jO hx k0) h0 (by decide)) (J8 (jO hx k1) h1 (yQ _ _ _)) (J8 (jO hx k2) h2 (yQ _ _ _)) (J8 (jO hx k3) h3 (yQ _ _ _))⟩
theorem lI (a b:List Int) (out:List Int) (i k:Nat) (x y t c:Nat) (hi:i<4) (hk:k<4) (hx:a.getD i 0=(x:Int)) (hy:b.getD k 0=(y:Int)) (ht:out.getD (i+k) 0=(t:Int)) (hx64:x<18446744073709551616) (hy64:y<18446744073709551616):
  bC.r (k:Int) a (i:Int) b out (c:Int)=(true,a,(i:Int),b,out.set (i+k) (ml (x*y) t c:Int),(mc (x*y) t c:Int)):=by
 have e:IntKind.i64.wrap ((i:Int)+(k:Int))=((i+k:Nat):Int):=i64_in _ (by omega)
 simp only [bC.r,bC.g,lt,Int.toNat_natCast,hx,hy,ve x y hx64 hy64,e,ht,aj,bJ (show (0:Int)≤(i:Int) by omega),bJ (show (0:Int)≤(k:Int) by omega),cK (show (i:Int)<4 by omega),cK (show (k:Int)<4 by omega),
  bJ (show (0:Int)≤((i+k:Nat):Int) by omega),cK (show ((i+k:Nat):Int)<8 by omega),Bool.and_self,Bool.and_true,OU,OV,pM,TU,show ile 0 (0:Int)=true from rfl,show ile (0:Int) 1=true from rfl]
 rfl
theorem Lg {W B a0 a1 a2 a3 o0 o1 o2 o3 o4 o5 o6 o7 p1 p2 p3 pc q2 q3 q4 qc r3 r4 r5 rc:Nat}
  (e0:o0+W*p1+W*W*p2+W*W*W*p3+W*W*W*W*pc=0+W*0+W*W*0+W*W*W*0+a0*B)
  (e1:o1+W*q2+W*W*q3+W*W*W*q4+W*W*W*W*qc=p1+W*p2+W*W*p3+W*W*W*pc+a1*B)
  (e2:o2+W*r3+W*W*r4+W*W*W*r5+W*W*W*W*rc=q2+W*q3+W*W*q4+W*W*W*qc+a2*B)
  (e3:o3+W*o4+W*W*o5+W*W*W*o6+W*W*W*W*o7=r3+W*r4+W*W*r5+W*W*W*rc+a3*B):
  (o0+W*o1+W*W*o2+W*W*W*o3)+W*W*W*W*(o4+W*o5+W*W*o6+W*W*W*o7)=(a0+W*a1+W*W*a2+W*W*W*a3)*B:=by
 have h:(o0+W*o1+W*W*o2+W*W*W*o3)+W*W*W*W*(o4+W*o5+W*W*o6+W*W*W*o7)=o0+W*(o1+W*(o2+W*(o3+W*o4+W*W*o5+W*W*W*o6+W*W*W*W*o7))):=by grind
 rw [h,e3]
 have h2:o2+W*(r3+W*r4+W*W*r5+W*W*W*rc+a3*B)=(o2+W*r3+W*W*r4+W*W*W*r5+W*W*W*W*rc)+W*(a3*B):=by grind
 rw [h2,e2]
 have h3:o1+W*(q2+W*q3+W*W*q4+W*W*W*qc+a2*B+W*(a3*B))=(o1+W*q2+W*W*q3+W*W*W*q4+W*W*W*W*qc)+W*(a2*B+W*(a3*B)):=by grind
 rw [h3,e1]
 have h4:o0+W*(p1+W*p2+W*W*p3+W*W*W*pc+a1*B+W*(a2*B+W*(a3*B)))=(o0+W*p1+W*W*p2+W*W*W*p3+W*W*W*W*pc)+W*(a1*B+W*(a2*B+W*(a3*B))):=by grind
 rw [h4,e0]
 grind
theorem Dt (a b c d:Nat):jY a b c d=a+18446744073709551616*b+18446744073709551616*18446744073709551616*c+18446744073709551616*18446744073709551616*18446744073709551616*d:=by
 unfold jY; simp only [Nat.reduceMul]
theorem SX:au=18446744073709551616*18446744073709551616*18446744073709551616*18446744073709551616:=by decide
theorem zk {t0 t1 t2 t3 x b0 b1 b2 b3:Nat} (h0:t0<18446744073709551616) (h1:t1<18446744073709551616) (h2:t2<18446744073709551616) (h3:t3<18446744073709551616) (hx:x<18446744073709551616) (k0:b0<18446744073709551616) (k1:b1<18446744073709551616) (k2:b2<18446744073709551616) (k3:b3<18446744073709551616):
  ∃ n0 n1 n2 n3 c1 c2 c3 c4,Uk t0 t1 t2 t3 x b0 b1 b2 b3 n0 n1 n2 n3 c4∧ml (x*b0) t0 0=n0∧mc (x*b0) t0 0=c1∧ml (x*b1) t1 c1=n1∧mc (x*b1) t1 c1=c2∧ml (x*b2) t2 c2=n2∧mc (x*b2) t2 c2=c3∧ml (x*b3) t3 c3=n3∧mc (x*b3) t3 c3=c4:=
 ⟨_,_,_,_,_,_,_,_,Uw h0 h1 h2 h3 hx k0 k1 k2 k3,rfl,rfl,rfl,rfl,rfl,rfl,rfl,rfl⟩
theorem gH {α β:Type} {x y:α} {f:α→β} {z:β} (h:x=y) (h2:f y=z):lt x f=z:=by subst h; exact h2
theorem gF {X:Type} {c:Bool} {x z:Bool×X} (hc:c=true) (h:x=z):chk c x=z:=by subst hc; exact h
theorem Uh (a0 a1 a2 a3 b0 b1 b2 b3:Nat) (la0:a0<18446744073709551616) (la1:a1<18446744073709551616) (la2:a2<18446744073709551616) (la3:a3<18446744073709551616) (lb0:b0<18446744073709551616) (lb1:b1<18446744073709551616) (lb2:b2<18446744073709551616) (lb3:b3<18446744073709551616):∃ o0 o1 o2 o3 o4 o5 o6 o7:Nat,nk.r [(a0:Int),(a1:Int),(a2:Int),(a3:Int)] [(b0:Int),(b1:Int),(b2:Int),(b3:Int)]=(true,[(o0:Int),(o1:Int),(o2:Int),(o3:Int)],[(o4:Int),(o5:Int),(o6:Int),(o7:Int)])∧(o0<18446744073709551616∧o1<18446744073709551616∧o2<18446744073709551616∧o3<18446744073709551616∧o4<18446744073709551616∧o5<18446744073709551616∧o6<18446744073709551616∧o7<18446744073709551616)∧jY o0 o1 o2 o3+au*jY o4 o5 o6 o7=jY a0 a1 a2 a3*jY b0 b1 b2 b3:=by
 have z:(0:Nat)<18446744073709551616:=by decide
 obtain ⟨n00,n01,n02,n03,c01,c02,c03,c04,R0,p00,q00,p01,q01,p02,q02,p03,q03⟩:=zk z z z z la0 lb0 lb1 lb2 lb3
 have s00:bC.r 0 [(a0:Int),(a1:Int),(a2:Int),(a3:Int)] 0 [(b0:Int),(b1:Int),(b2:Int),(b3:Int)] [0,0,0,0,0,0,0,0] 0=(true,[(a0:Int),(a1:Int),(a2:Int),(a3:Int)],0,[(b0:Int),(b1:Int),(b2:Int),(b3:Int)],[(n00:Int),0,0,0,0,0,0,0],(c01:Int)):=by
  have h:=lI [(a0:Int),(a1:Int),(a2:Int),(a3:Int)] [(b0:Int),(b1:Int),(b2:Int),(b3:Int)] [0,0,0,0,0,0,0,0] 0 0 a0 b0 0 0 (by decide) (by decide) rfl rfl rfl la0 lb0
  rw [p00,q00] at h
  exact h
 have s01:bC.r 1 [(a0:Int),(a1:Int),(a2:Int),(a3:Int)] 0 [(b0:Int),(b1:Int),(b2:Int),(b3:Int)] [(n00:Int),0,0,0,0,0,0,0] (c01:Int)=(true,[(a0:Int),(a1:Int),(a2:Int),(a3:Int)],0,[(b0:Int),(b1:Int),(b2:Int),(b3:Int)],[(n00:Int),(n01:Int),0,0,0,0,0,0],(c02:Int)):=by
  have h:=lI [(a0:Int),(a1:Int),(a2:Int),(a3:Int)] [(b0:Int),(b1:Int),(b2:Int),(b3:Int)] [(n00:Int),0,0,0,0,0,0,0] 0 1 a0 b1 0 c01 (by decide) (by decide) rfl rfl rfl la0 lb1
  rw [p01,q01] at h
  exact h
 have s02:bC.r 2 [(a0:Int),(a1:Int),(a2:Int),(a3:Int)] 0 [(b0:Int),(b1:Int),(b2:Int),(b3:Int)] [(n00:Int),(n01:Int),0,0,0,0,0,0] (c02:Int)=(true,[(a0:Int),(a1:Int),(a2:Int),(a3:Int)],0,[(b0:Int),(b1:Int),(b2:Int),(b3:Int)],[(n00:Int),(n01:Int),(n02:Int),0,0,0,0,0],(c03:Int)):=by
  have h:=lI [(a0:Int),(a1:Int),(a2:Int),(a3:Int)] [(b0:Int),(b1:Int),(b2:Int),(b3:Int)] [(n00:Int),(n01:Int),0,0,0,0,0,0] 0 2 a0 b2 0 c02 (by decide) (by decide) rfl rfl rfl la0 lb2
  rw [p02,q02] at h
  exact h
 have s03:bC.r 3 [(a0:Int),(a1:Int),(a2:Int),(a3:Int)] 0 [(b0:Int),(b1:Int),(b2:Int),(b3:Int)] [(n00:Int),(n01:Int),(n02:Int),0,0,0,0,0] (c03:Int)=(true,[(a0:Int),(a1:Int),(a2:Int),(a3:Int)],0,[(b0:Int),(b1:Int),(b2:Int),(b3:Int)],[(n00:Int),(n01:Int),(n02:Int),(n03:Int),0,0,0,0],(c04:Int)):=by
  have h:=lI [(a0:Int),(a1:Int),(a2:Int),(a3:Int)] [(b0:Int),(b1:Int),(b2:Int),(b3:Int)] [(n00:Int),(n01:Int),(n02:Int),0,0,0,0,0] 0 3 a0 b3 0 c03 (by decide) (by decide) rfl rfl rfl la0 lb3
  rw [p03,q03] at h
  exact h
 obtain ⟨n10,n11,n12,n13,c11,c12,c13,c14,R1,p10,q10,p11,q11,p12,q12,p13,q13⟩:=zk R0.l1 R0.l2 R0.l3 R0.lc la1 lb0 lb1 lb2 lb3
 have s10:bC.r 0 [(a0:Int),(a1:Int),(a2:Int),(a3:Int)] 1 [(b0:Int),(b1:Int),(b2:Int),(b3:Int)] [(n00:Int),(n01:Int),(n02:Int),(n03:Int),(c04:Int),0,0,0] 0=(true,[(a0:Int),(a1:Int),(a2:Int),(a3:Int)],1,[(b0:Int),(b1:Int),(b2:Int),(b3:Int)],[(n00:Int),(n10:Int),(n02:Int),(n03:Int),(c04:Int),0,0,0],(c11:Int)):=by
  have h:=lI [(a0:Int),(a1:Int),(a2:Int),(a3:Int)] [(b0:Int),(b1:Int),(b2:Int),(b3:Int)] [(n00:Int),(n01:Int),(n02:Int),(n03:Int),(c04:Int),0,0,0] 1 0 a1 b0 n01 0 (by decide) (by decide) rfl rfl rfl la1 lb0
  rw [p10,q10] at h
  exact h
 have s11:bC.r 1 [(a0:Int),(a1:Int),(a2:Int),(a3:Int)] 1 [(b0:Int),(b1:Int),(b2:Int),(b3:Int)] [(n00:Int),(n10:Int),(n02:Int),(n03:Int),(c04:Int),0,0,0] (c11:Int)=(true,[(a0:Int),(a1:Int),(a2:Int),(a3:Int)],1,[(b0:Int),(b1:Int),(b2:Int),(b3:Int)],[(n00:Int),(n10:Int),(n11:Int),(n03:Int),(c04:Int),0,0,0],(c12:Int)):=by
  have h:=lI [(a0:Int),(a1:Int),(a2:Int),(a3:Int)] [(b0:Int),(b1:Int),(b2:Int),(b3:Int)] [(n00:Int),(n10:Int),(n02:Int),(n03:Int),(c04:Int),0,0,0] 1 1 a1 b1 n02 c11 (by decide) (by decide) rfl rfl rfl la1 lb1
  rw [p11,q11] at h
  exact h
 have s12:bC.r 2 [(a0:Int),(a1:Int),(a2:Int),(a3:Int)] 1 [(b0:Int),(b1:Int),(b2:Int),(b3:Int)] [(n00:Int),(n10:Int),(n11:Int),(n03:Int),(c04:Int),0,0,0] (c12:Int)=(true,[(a0:Int),(a1:Int),(a2:Int),(a3:Int)],1,[(b0:Int),(b1:Int),(b2:Int),(b3:Int)],[(n00:Int),(n10:Int),(n11:Int),(n12:Int),(c04:Int),0,0,0],(c13:Int)):=by
  have h:=lI [(a0:Int),(a1:Int),(a2:Int),(a3:Int)] [(b0:Int),(b1:Int),(b2:Int),(b3:Int)] [(n00:Int),(n10:Int),(n11:Int),(n03:Int),(c04:Int),0,0,0] 1 2 a1 b2 n03 c12 (by decide) (by decide) rfl rfl rfl la1 lb2
  rw [p12,q12] at h
  exact h
 have s13:bC.r 3 [(a0:Int),(a1:Int),(a2:Int),(a3:Int)] 1 [(b0:Int),(b1:Int),(b2:Int),(b3:Int)] [(n00:Int),(n10:Int),(n11:Int),(n12:Int),(c04:Int),0,0,0] (c13:Int)=(true,[(a0:Int),(a1:Int),(a2:Int),(a3:Int)],1,[(b0:Int),(b1:Int),(b2:Int),(b3:Int)],[(n00:Int),(n10:Int),(n11:Int),(n12:Int),(n13:Int),0,0,0],(c14:Int)):=by
  have h:=lI [(a0:Int),(a1:Int),(a2:Int),(a3:Int)] [(b0:Int),(b1:Int),(b2:Int),(b3:Int)] [(n00:Int),(n10:Int),(n11:Int),(n12:Int),(c04:Int),0,0,0] 1 3 a1 b3 c04 c13 (by decide) (by decide) rfl rfl rfl la1 lb3
  rw [p13,q13] at h
  exact h
 obtain ⟨n20,n21,n22,n23,c21,c22,c23,c24,R2,p20,q20,p21,q21,p22,q22,p23,q23⟩:=zk R1.l1 R1.l2 R1.l3 R1.lc la2 lb0 lb1 lb2 lb3
 have s20:bC.r 0 [(a0:Int),(a1:Int),(a2:Int),(a3:Int)] 2 [(b0:Int),(b1:Int),(b2:Int),(b3:Int)] [(n00:Int),(n10:Int),(n11:Int),(n12:Int),(n13:Int),(c14:Int),0,0] 0=(true,[(a0:Int),(a1:Int),(a2:Int),(a3:Int)],2,[(b0:Int),(b1:Int),(b2:Int),(b3:Int)],[(n00:Int),(n10:Int),(n20:Int),(n12:Int),(n13:Int),(c14:Int),0,0],(c21:Int)):=by
  have h:=lI [(a0:Int),(a1:Int),(a2:Int),(a3:Int)] [(b0:Int),(b1:Int),(b2:Int),(b3:Int)] [(n00:Int),(n10:Int),(n11:Int),(n12:Int),(n13:Int),(c14:Int),0,0] 2 0 a2 b0 n11 0 (by decide) (by decide) rfl rfl rfl la2 lb0
  rw [p20,q20] at h
  exact h
 have s21:bC.r 1 [(a0:Int),(a1:Int),(a2:Int),(a3:Int)] 2 [(b0:Int),(b1:Int),(b2:Int),(b3:Int)] [(n00:Int),(n10:Int),(n20:Int),(n12:Int),(n13:Int),(c14:Int),0,0] (c21:Int)=(true,[(a0:Int),(a1:Int),(a2:Int),(a3:Int)],2,[(b0:Int),(b1:Int),(b2:Int),(b3:Int)],[(n00:Int),(n10:Int),(n20:Int),(n21:Int),(n13:Int),(c14:Int),0,0],(c22:Int)):=by
  have h:=lI [(a0:Int),(a1:Int),(a2:Int),(a3:Int)] [(b0:Int),(b1:Int),(b2:Int),(b3:Int)] [(n00:Int),(n10:Int),(n20:Int),(n12:Int),(n13:Int),(c14:Int),0,0] 2 1 a2 b1 n12 c21 (by decide) (by decide) rfl rfl rfl la2 lb1
  rw [p21,q21] at h
  exact h
 have s22:bC.r 2 [(a0:Int),(a1:Int),(a2:Int),(a3:Int)] 2 [(b0:Int),(b1:Int),(b2:Int),(b3:Int)] [(n00:Int),(n10:Int),(n20:Int),(n21:Int),(n13:Int),(c14:Int),0,0] (c22:Int)=(true,[(a0:Int),(a1:Int),(a2:Int),(a3:Int)],2,[(b0:Int),(b1:Int),(b2:Int),(b3:Int)],[(n00:Int),(n10:Int),(n20:Int),(n21:Int),(n22:Int),(c14:Int),0,0],(c23:Int)):=by
  have h:=lI [(a0:Int),(a1:Int),(a2:Int),(a3:Int)] [(b0:Int),(b1:Int),(b2:Int),(b3:Int)] [(n00:Int),(n10:Int),(n20:Int),(n21:Int),(n13:Int),(c14:Int),0,0] 2 2 a2 b2 n13 c22 (by decide) (by decide) rfl rfl rfl la2 lb2
  rw [p22,q22] at h
  exact h
 have s23:bC.r 3 [(a0:Int),(a1:Int),(a2:Int),(a3:Int)] 2 [(b0:Int),(b1:Int),(b2:Int),(b3:Int)] [(n00:Int),(n10:Int),(n20:Int),(n21:Int),(n22:Int),(c14:Int),0,0] (c23:Int)=(true,[(a0:Int),(a1:Int),(a2:Int),(a3:Int)],2,[(b0:Int),(b1:Int),(b2:Int),(b3:Int)],[(n00:Int),(n10:Int),(n20:Int),(n21:Int),(n22:Int),(n23:Int),0,0],(c24:Int)):=by
  have h:=lI [(a0:Int),(a1:Int),(a2:Int),(a3:Int)] [(b0:Int),(b1:Int),(b2:Int),(b3:Int)] [(n00:Int),(n10:Int),(n20:Int),(n21:Int),(n22:Int),(c14:Int),0,0] 2 3 a2 b3 c14 c23 (by decide) (by decide) rfl rfl rfl la2 lb3
  rw [p23,q23] at h
  exact h
 obtain ⟨n30,n31,n32,n33,c31,c32,c33,c34,R3,p30,q30,p31,q31,p32,q32,p33,q33⟩:=zk R2.l1 R2.l2 R2.l3 R2.lc la3 lb0 lb1 lb2 lb3
 have s30:bC.r 0 [(a0:Int),(a1:Int),(a2:Int),(a3:Int)] 3 [(b0:Int),(b1:Int),(b2:Int),(b3:Int)] [(n00:Int),(n10:Int),(n20:Int),(n21:Int),(n22:Int),(n23:Int),(c24:Int),0] 0=(true,[(a0:Int),(a1:Int),(a2:Int),(a3:Int)],3,[(b0:Int),(b1:Int),(b2:Int),(b3:Int)],[(n00:Int),(n10:Int),(n20:Int),(n30:Int),(n22:Int),(n23:Int),(c24:Int),0],(c31:Int)):=by
  have h:=lI [(a0:Int),(a1:Int),(a2:Int),(a3:Int)] [(b0:Int),(b1:Int),(b2:Int),(b3:Int)] [(n00:Int),(n10:Int),(n20:Int),(n21:Int),(n22:Int),(n23:Int),(c24:Int),0] 3 0 a3 b0 n21 0 (by decide) (by decide) rfl rfl rfl la3 lb0
  rw [p30,q30] at h
  exact h
 have s31:bC.r 1 [(a0:Int),(a1:Int),(a2:Int),(a3:Int)] 3 [(b0:Int),(b1:Int),(b2:Int),(b3:Int)] [(n00:Int),(n10:Int),(n20:Int),(n30:Int),(n22:Int),(n23:Int),(c24:Int),0] (c31:Int)=(true,[(a0:Int),(a1:Int),(a2:Int),(a3:Int)],3,[(b0:Int),(b1:Int),(b2:Int),(b3:Int)],[(n00:Int),(n10:Int),(n20:Int),(n30:Int),(n31:Int),(n23:Int),(c24:Int),0],(c32:Int)):=by
  have h:=lI [(a0:Int),(a1:Int),(a2:Int),(a3:Int)] [(b0:Int),(b1:Int),(b2:Int),(b3:Int)] [(n00:Int),(n10:Int),(n20:Int),(n30:Int),(n22:Int),(n23:Int),(c24:Int),0] 3 1 a3 b1 n22 c31 (by decide) (by decide) rfl rfl rfl la3 lb1
  rw [p31,q31] at h
  exact h
 have s32:bC.r 2 [(a0:Int),(a1:Int),(a2:Int),(a3:Int)] 3 [(b0:Int),(b1:Int),(b2:Int),(b3:Int)] [(n00:Int),(n10:Int),(n20:Int),(n30:Int),(n31:Int),(n23:Int),(c24:Int),0] (c32:Int)=(true,[(a0:Int),(a1:Int),(a2:Int),(a3:Int)],3,[(b0:Int),(b1:Int),(b2:Int),(b3:Int)],[(n00:Int),(n10:Int),(n20:Int),(n30:Int),(n31:Int),(n32:Int),(c24:Int),0],(c33:Int)):=by
  have h:=lI [(a0:Int),(a1:Int),(a2:Int),(a3:Int)] [(b0:Int),(b1:Int),(b2:Int),(b3:Int)] [(n00:Int),(n10:Int),(n20:Int),(n30:Int),(n31:Int),(n23:Int),(c24:Int),0] 3 2 a3 b2 n23 c32 (by decide) (by decide) rfl rfl rfl la3 lb2
  rw [p32,q32] at h
  exact h
 have s33:bC.r 3 [(a0:Int),(a1:Int),(a2:Int),(a3:Int)] 3 [(b0:Int),(b1:Int),(b2:Int),(b3:Int)] [(n00:Int),(n10:Int),(n20:Int),(n30:Int),(n31:Int),(n32:Int),(c24:Int),0] (c33:Int)=(true,[(a0:Int),(a1:Int),(a2:Int),(a3:Int)],3,[(b0:Int),(b1:Int),(b2:Int),(b3:Int)],[(n00:Int),(n10:Int),(n20:Int),(n30:Int),(n31:Int),(n32:Int),(n33:Int),0],(c34:Int)):=by
  have h:=lI [(a0:Int),(a1:Int),(a2:Int),(a3:Int)] [(b0:Int),(b1:Int),(b2:Int),(b3:Int)] [(n00:Int),(n10:Int),(n20:Int),(n30:Int),(n31:Int),(n32:Int),(c24:Int),0] 3 3 a3 b3 c24 c33 (by decide) (by decide) rfl rfl rfl la3 lb3
  rw [p33,q33] at h
  exact h
 refine ⟨n00,n10,n20,n30,n31,n32,n33,c34,?_,⟨R0.l0,R1.l0,R2.l0,R3.l0,R3.l1,R3.l2,R3.l3,R3.lc⟩,?_⟩
 ·unfold nk.r nk.g
  refine gH s00 (gF rfl ?_)
  refine gH s01 (gF rfl ?_)
  refine gH s02 (gF rfl ?_)
  refine gH s03 (gF rfl ?_)
  refine gH (y:=(4:Int)) (show IntKind.i64.wrap ((0:Int)+4)=4 by decide) (gF (by decide) ?_)
  refine gH (y:= [(n00:Int),(n01:Int),(n02:Int),(n03:Int),(c04:Int),0,0,0]) rfl ?_
  refine gH s10 (gF rfl ?_)
  refine gH s11 (gF rfl ?_)
  refine gH s12 (gF rfl ?_)
  refine gH s13 (gF rfl ?_)
  refine gH (y:=(5:Int)) (show IntKind.i64.wrap ((1:Int)+4)=5 by decide) (gF (by decide) ?_)
  refine gH (y:= [(n00:Int),(n10:Int),(n11:Int),(n12:Int),(n13:Int),(c14:Int),0,0]) rfl ?_
  refine gH s20 (gF rfl ?_)
  refine gH s21 (gF rfl ?_)
  refine gH s22 (gF rfl ?_)
  refine gH s23 (gF rfl ?_)
  refine gH (y:=(6:Int)) (show IntKind.i64.wrap ((2:Int)+4)=6 by decide) (gF (by decide) ?_)
  refine gH (y:= [(n00:Int),(n10:Int),(n20:Int),(n21:Int),(n22:Int),(n23:Int),(c24:Int),0]) rfl ?_
  refine gH s30 (gF rfl ?_)
  refine gH s31 (gF rfl ?_)
  refine gH s32 (gF rfl ?_)
  refine gH s33 (gF rfl ?_)
  refine gH (y:=(7:Int)) (show IntKind.i64.wrap ((3:Int)+4)=7 by decide) (gF (by decide) ?_)
  refine gH (y:= [(n00:Int),(n10:Int),(n20:Int),(n30:Int),(n31:Int),(n32:Int),(n33:Int),(c34:Int)]) rfl ?_
  rfl
 ·have e:=Lg R0.eq R1.eq R2.eq R3.eq
  rw [Dt,Dt,Dt a0,Dt b0,SX]
  exact e
theorem RL (a b:Nat) (ha:a<au) (hb:b<au):nk.r (limbs a) (limbs b)=(true,limbs (a*b%au),limbs (a*b/au)):=by
 obtain ⟨o0,o1,o2,o3,o4,o5,o6,o7,h,⟨l0,l1,l2,l3,l4,l5,l6,l7⟩,e⟩:=Uh _ _ _ _ _ _ _ _ (aQ a 0) (aQ a 1) (aQ a 2) (aQ a 3) (aQ b 0) (aQ b 1) (aQ b 2) (aQ b 3)
 rw [iY a ha,iY b hb] at e
 have hl:jY o0 o1 o2 o3<au:=(qZ l0 l1 l2 l3).2.2.2.2
 have h1:a*b%au=jY o0 o1 o2 o3:=by rw [← e,Nat.add_mul_mod_self_left,Nat.mod_eq_of_lt hl]
 have h2:a*b/au=jY o4 o5 o6 o7:=by rw [← e,Nat.add_mul_div_left _ _ (by decide),Nat.div_eq_of_lt hl,Nat.zero_add]
 rw [lX l0 l1 l2 l3 h1,lX l4 l5 l6 l7 h2]
 exact h
end Go.Own
set_option linter.unusedVariables false
set_option linter.unusedSimpArgs false
namespace Go.Own
open Go.IntWalk
theorem Kh (n m i:Nat):limb (n||| m) i=limb n i||| limb m i:=by
 apply Nat.eq_of_testBit_eq
 intro t
 simp only [iL,Nat.testBit_or,Bool.and_or_distrib_left]
theorem NI (k j:Nat):limb (2^k) j=if k/64=j then 2^(k%64) else 0:=by
 apply Nat.eq_of_testBit_eq
 intro t
 rw [iL,Nat.testBit_two_pow]
 split
 ·rw [Nat.testBit_two_pow,Bool.eq_iff_iff]
  simp only [Bool.and_eq_true,decide_eq_true_eq]
  omega
 ·rw [Nat.zero_testBit,Bool.eq_false_iff]
  simp only [ne_eq,Bool.and_eq_true,decide_eq_true_eq]
  omega
theorem FR {Q k:Nat} (hk:k<256):(limbs Q).set (k/64) ((limb Q (k/64)||| 2^(k%64):Nat):Int)=limbs (Q||| 2^k):=by
 have h:k/64=0∨k/64=1∨k/64=2∨k/64=3:=by omega
 unfold limbs
 simp only [Kh,NI]
 rcases h with h|h|h|h<;>simp [h]
theorem Iy {Q k:Nat} (h:Q%2^(k+1)=0):Q||| 2^k=Q+2^k:=by
 obtain ⟨c,rfl⟩:=Nat.dvd_of_mod_eq_zero h
 rw [Nat.two_pow_add_eq_or_of_lt (Nat.pow_lt_pow_right (by decide) (Nat.lt_succ_self k))]
theorem BM (Q:Nat):(limbs Q).set 0 ((limb Q 0||| 0:Nat):Int)=limbs Q:=by
 unfold limbs; simp
theorem Qv {X:Nat} (h:X%2=0) (b:Bool):(limbs X).set 0 ((limb X 0||| b.toNat:Nat):Int)=limbs (X+b.toNat):=by
 cases b with
 |false=>rw [show Bool.toNat false=0 from rfl,BM,Nat.add_zero]
 |true=>
  have:=FR (Q:=X) (k:=0) (by decide)
  rw [Iy (Q:=X) (k:=0) (by simpa using h)] at this
  exact this
def iR (left a i:Nat):Nat:=left*2^i+a/2^(256 - i)
theorem K8 {left a i:Nat} (h:i<256):iR left a (i+1)=2*iR left a i+(a.testBit (255 - i)).toNat:=by
 unfold iR
 have e:a/2^(256 - i)=a/2^(256 - (i+1))/2:=by
  rw [show 256 - i=256 - (i+1)+1 by omega,Nat.pow_succ,Nat.div_div_eq_div_mul]
 have e2:(a.testBit (255 - i)).toNat=a/2^(256 - (i+1))%2:=by
  rw [show 256 - (i+1)=255 - i by omega,Nat.testBit_eq_decide_div_mod_eq]
  have:a/2^(255 - i)%2=0∨a/2^(255 - i)%2=1:=by omega
  rcases this with h|h<;>rw [h]<;>rfl
 rw [e2,e,Nat.pow_succ]
 generalize a/2^(256 - (i+1))=q
 rw [← Nat.mul_assoc]
 generalize left*2^i=p
 omega
theorem Cs {N m b:Nat} (hm:0<m) (hb:b≤1):
  (2*N+b)/m=2*(N/m)+(if 2*(N%m)+b<m then 0 else 1)∧(2*N+b)%m=if 2*(N%m)+b<m then 2*(N%m)+b else 2*(N%m)+b - m:=by
 have hr:=Nat.mod_lt N hm
 have e:2*N+b=(2*(N%m)+b)+m*(2*(N/m)):=by
  have h:=Nat.div_add_mod N m
  have h2:m*(2*(N/m))=2*(m*(N/m)):=Nat.mul_left_comm _ _ _
  rw [h2]
  generalize m*(N/m)=p at*
  omega
 rw [e,Nat.add_mul_div_left _ _ hm,Nat.add_mul_mod_self_left]
 generalize N%m=r at*
 generalize N/m=q at*
 split
 ·rename_i h
  rw [Nat.div_eq_of_lt h,Nat.mod_eq_of_lt h]
  omega
 ·rename_i h
  have h1:(2*r+b)/m=1:=by
   rw [Nat.div_eq_sub_div hm (by omega),Nat.div_eq_of_lt (by omega)]
  have h2:(2*r+b)%m=2*r+b - m:=by
   rw [Nat.mod_eq_sub_mod (by omega),Nat.mod_eq_of_lt (by omega)]
  rw [h1,h2]
  omega
theorem OE (n k:Nat):OG n (k:Int)=(((n.testBit k).toNat:Nat):Int):=by
 unfold OG; rw [if_neg (by omega)]; rfl
theorem M7 {Q q k:Nat} (hQ:Q=q*2^(k+1)) (hk:k<256):(limbs Q).set (k/64) ((limb Q (k/64)||| 2^(k%64):Nat):Int)=limbs ((2*q+1)*2^k):=by
 rw [FR hk,Iy (by rw [hQ]; exact Nat.mul_mod_left _ _),hQ,Nat.pow_succ]
 congr 1
 generalize 2^k=p
 grind
theorem PY {L:Nat} (h:L<au):L.testBit 255=decide (57896044618658097711785492504343953926634992332820282019728792003956564819968≤L):=by
 rw [Nat.testBit_eq_decide_div_mod_eq]
 have e:(2:Nat)^255=57896044618658097711785492504343953926634992332820282019728792003956564819968:=by decide
 rw [e]
 unfold au at h
 have:L/57896044618658097711785492504343953926634992332820282019728792003956564819968=0∨L/57896044618658097711785492504343953926634992332820282019728792003956564819968=1:=by omega
 rcases this with h1|h1
 ·rw [h1]; simp only [Nat.zero_mod,show ¬ (0=1) by decide,decide_false]; rw [eq_comm,decide_eq_false_iff_not]; omega
 ·rw [h1]; simp only [Nat.mod_self,show 1%2=1 by rfl,decide_true]; rw [eq_comm,decide_eq_true_iff]; omega
theorem R9 {L m b:Nat} (hL:L<m) (hm:m<au) (hb:b≤1):L*2^1%au%2=0∧L*2^1%au+b=(2*L+b)%au∧(57896044618658097711785492504343953926634992332820282019728792003956564819968≤L→¬ 2*L+b<m∧((2*L+b)%au+au - m)%au=2*L+b - m)∧(¬ 57896044618658097711785492504343953926634992332820282019728792003956564819968≤L→(2*L+b)%au=2*L+b)∧(¬ 2*L+b<m→2*L+b - m<au∧(2*L+b+au - m)%au=2*L+b - m):=by
 unfold au at*
 rw [Nat.pow_one]
 refine ⟨by omega,by omega,fun h=>⟨by omega,by omega⟩,fun h=>by omega,fun h=>⟨by omega,by omega⟩⟩
theorem QL {a b:Nat}:ile 0 (uz a b)= !decide (a<b):=by
 unfold uz ile
 split
 ·rename_i h; simp [h]
 ·rename_i h
  split<;>simp [h]
theorem DX {a left m:Nat} (ha:a<au) (hm0:0<m) (hm:m<au) (j:Nat) (hj:j<256) {Z:Type} (kn:dA.X0→dA.Y0→Bool×Z) (ke:Nat→dA.X0→dA.Y0→Bool×Z) (kr:dA.U0→dA.V0→Bool×Z):
  dA.g0 chk kn ke kr ((),(),(),(),(),(),(j:Int),()) (limbs a,limbs (iR left a j%m),limbs m,[0,0,0,0],[0,0,0,0],limbs (iR left a j/m*2^(256 - j)),())=kn ((),(),(),(),(),(),((j+1:Nat):Int),()) (limbs a,limbs (iR left a (j+1)%m),limbs m,[0,0,0,0],[0,0,0,0],limbs (iR left a (j+1)/m*2^(256 - (j+1))),()):=by
 have hL:=Nat.mod_lt (iR left a j) hm0
 have hS:=Cs (N:=iR left a j) (b:=(a.testBit (255 - j)).toNat) hm0 (by cases a.testBit (255 - j)<;>decide)
 have hV:=R9 (L:=iR left a j%m) (b:=(a.testBit (255 - j)).toNat) hL hm (by cases a.testBit (255 - j)<;>decide)
 have hQ:=M7 (Q:=iR left a j/m*2^(256 - j)) (q:=iR left a j/m) (k:=255 - j) (by rw [show 255 - j+1=256 - j by omega]) (by omega)
 rw [← K8 hj] at hS
 have hb64:(a.testBit (255 - j)).toNat<18446744073709551616:=by cases a.testBit (255 - j)<;>decide
 obtain ⟨b,hb⟩:∃ b,b=a.testBit (255 - j):=⟨_,rfl⟩
 rw [← hb] at hV hS hb64
 have a1:IntKind.i64.wrap ((255:Int) - (j:Int))=((255 - j:Nat):Int):=by rw [i64_in _ (by omega)]; omega
 have a2:IntKind.i64.wrap ((j:Int)+1)=((j+1:Nat):Int):=i64_in _ (by omega)
 have a3:((255 - j:Nat):Int).tdiv 64=(((255 - j)/64:Nat):Int):=wB _ 64
 have a4:((255 - j:Nat):Int).tmod 64=(((255 - j)%64:Nat):Int):=yK _ 64
 have a5:IntKind.i64.wrap (((255 - j)/64:Nat):Int)=(((255 - j)/64:Nat):Int):=oW _ (by omega)
 have a6:IntKind.u64.wrap ((1:Int)*2^(min ((255 - j)%64) 64))=((2^((255 - j)%64):Nat):Int):=by
  rw [Nat.min_eq_left (by omega),Int.one_mul,tZ]
  exact su _ (Nat.lt_of_lt_of_le (Nat.pow_lt_pow_right (by decide) (show (255 - j)%64<64 by omega)) (by decide))
 have a7:=oC (limb (iR left a j/m*2^(256 - j)) ((255 - j)/64)) (2^((255 - j)%64)) (aQ _ _) (Nat.lt_of_lt_of_le (Nat.pow_lt_pow_right (by decide) (show (255 - j)%64<64 by omega)) (by decide))
 have a8:(ile 0 (((255 - j)/64:Nat):Int)&&ilt (((255 - j)/64:Nat):Int) 4)=true:=by rw [bJ (by omega),cK (by omega)]; rfl
 have a9:ilt (((255 - j)%64:Nat):Int) 0=false:=dJ (by omega)
 have u64b:IntKind.u64.wrap ((b.toNat:Nat):Int)=((b.toNat:Nat):Int):=su _ hb64
 have t255:OG (iR left a j%m) 255=(((iR left a j%m).testBit 255).toNat:Int):=OE _ 255
 have hLW:iR left a j%m<au:=Nat.lt_trans hL hm
 have e256:2^(256 - (j+1))=2^(255 - j):=by rw [show 256 - (j+1)=255 - j by omega]
 simp only [dA.g0,lt,cK (show (j:Int)<256 by omega),cond_true,a1,Pk _ 255 hLW,RI _ 1 hLW (by decide),Pk a _ ha,OE,t255,aj,aL _ 0 (by decide),← hb,u64b,oC _ _ (aQ _ 0) hb64,show (1:Int).toNat=1 from rfl,Qv hV.1,hV.2.1,uE,a2,a3,a4,a5,a8,Int.toNat_natCast,aL _ ((255 - j)/64) (by omega),a6,a7,a9,Bool.not_false,hQ]
 rw [PY hLW]
 by_cases ht:57896044618658097711785492504343953926634992332820282019728792003956564819968≤iR left a j%m
 ·have h1:=hV.2.2.1 ht
  rw [if_neg h1.1,if_neg h1.1] at hS
  simp only [ht,decide_true,cond_true,Bu _ m (Nat.mod_lt _ (by decide)) hm,h1.2,aj,hS.1,hS.2,e256]
 ·have h1:=hV.2.2.2.1 ht
  have hlt:2*(iR left a j%m)+b.toNat<au:=by rw [← h1]; exact Nat.mod_lt _ (by decide)
  simp only [ht,decide_false,cond_false,h1,yE _ m hlt hm,QL,aj]
  by_cases hc:2*(iR left a j%m)+b.toNat<m
  ·rw [if_pos hc,if_pos hc] at hS
   have e1:iR left a j/m*2^(256 - j)=iR left a (j+1)/m*2^(256 - (j+1)):=by
    rw [hS.1,show 256 - j=256 - (j+1)+1 by omega,Nat.pow_succ,Nat.add_zero]
    generalize 2^(256 - (j+1))=p
    generalize iR left a j/m=q
    grind
   simp only [hc,decide_true,Bool.not_true,cond_false,hS.2,e1]
  ·rw [if_neg hc,if_neg hc] at hS
   have h2:=hV.2.2.2.2 hc
   simp only [hc,decide_false,Bool.not_false,cond_true,Bu _ m hlt hm,h2.2,aj,hS.1,hS.2,e256]
theorem K7 {left a:Nat} (ha:a<au):iR left a 0=left:=by
 unfold iR
 rw [Nat.pow_zero,Nat.mul_one,Nat.sub_zero,Nat.div_eq_of_lt (by rw [← vI]; exact ha),Nat.add_zero]
theorem Nb {left a:Nat}:iR left a 256=left*au+a:=by
 unfold iR
 rw [Nat.sub_self,Nat.pow_zero,Nat.div_one,← vI]
theorem Nk (a left m n:Nat) (ha:a<au) (hm0:0<m) (hm:m<au) (hn:n=256):
  dA.l0 ((),(),(),(),(),(),((0:Nat):Int),()) (limbs a,limbs (iR left a 0%m),limbs m,[0,0,0,0],[0,0,0,0],limbs (iR left a 0/m*2^(256 - 0)),())=
   (true,1,((),(),(),(),(),(),(n:Int),()),(limbs a,limbs (iR left a n%m),limbs m,[0,0,0,0],[0,0,0,0],limbs (iR left a n/m*2^(256 - n)),()),(),()):=by
 have hf:n - 0<dA.fu0 ((),(),(),(),(),(),((0:Nat):Int),()) (limbs a,limbs (iR left a 0%m),limbs m,[0,0,0,0],[0,0,0,0],limbs (iR left a 0/m*2^(256 - 0)),()):=by
  show n - 0<((256:Int) - ((0:Nat):Int)).toNat+1
  omega
 refine bK (g:=fun rq kn ke kr x y=>dA.g0 rq kn ke kr x y) n (fun j=>((),(),(),(),(),(),(j:Int),())) (fun j=>(limbs a,limbs (iR left a j%m),limbs m,[0,0,0,0],[0,0,0,0],limbs (iR left a j/m*2^(256 - j)),())) _ ?_ ?_ _ 0 (Nat.zero_le _) hf
 ·intro j R hj
  exact DX ha hm0 hm j (by omega) _ _ _
 ·intro R
  simp only [dA.g0,lt,dJ (show ¬ (n:Int)<256 by omega),cond_false]
theorem Nj (a left m:Nat) (ha:a<au) (hm0:0<m) (hm:m<au) (hl:left<m):
  dA.l0 ((),(),(),(),(),(),0,()) (limbs a,limbs left,limbs m,[0,0,0,0],[0,0,0,0],[0,0,0,0],())=
   (true,1,((),(),(),(),(),(),256,()),(limbs a,limbs ((left*au+a)%m),limbs m,[0,0,0,0],[0,0,0,0],limbs ((left*au+a)/m),()),(),()):=by
 have key:=Nk a left m 256 ha hm0 hm rfl
 rw [K7 ha,Nb,Nat.mod_eq_of_lt hl,Nat.div_eq_of_lt hl,Nat.zero_mul,eG,Nat.sub_self,Nat.pow_zero,Nat.mul_one] at key
 exact key
end Go.Own
set_option linter.unusedVariables false
set_option linter.unusedSimpArgs false
namespace Go.Own
open Go.IntWalk
theorem Lp {a b:Nat} (ha:a<au) (hb:b<au) (h:limbs a=limbs b):a=b:=by
 unfold limbs at h
 simp only [List.cons.injEq,Int.natCast_inj,and_true] at h
 rw [← iY a ha,← iY b hb,h.1,h.2.1,h.2.2.1,h.2.2.2]
theorem eqL {a b:Nat} (ha:a<au) (hb:b<au):(ieq ((limbs a).getD 0 0) ((limbs b).getD 0 0)&&(ieq ((limbs a).getD 1 0) ((limbs b).getD 1 0)&&(ieq ((limbs a).getD 2 0) ((limbs b).getD 2 0)&&(ieq ((limbs a).getD 3 0) ((limbs b).getD 3 0)&&true))))=decide (a=b):=by
 rw [Bool.eq_iff_iff]
 simp only [Bool.and_eq_true,Kk,decide_eq_true_eq,and_true]
 constructor
 ·rintro ⟨h0,h1,h2,h3⟩
  apply Lp ha hb
  simp only [aL _ 0 (by decide),aL _ 1 (by decide),aL _ 2 (by decide),aL _ 3 (by decide)] at h0 h1 h2 h3
  unfold limbs
  rw [h0,h1,h2,h3]
 ·rintro rfl; exact ⟨rfl,rfl,rfl,rfl⟩
theorem eqZ {a:Nat} (ha:a<au):(ieq ((limbs a).getD 0 0) 0&&(ieq ((limbs a).getD 1 0) 0&&(ieq ((limbs a).getD 2 0) 0&&(ieq ((limbs a).getD 3 0) 0&&true))))=decide (a=0):=eqL (b:=0) ha (by decide)
theorem qK {m:Nat} (h:m<18446744073709551616):limbs m= [(m:Int),0,0,0]:=by
 have:=lX (a:=m) (b:=0) (c:=0) (d:=0) h (by decide) (by decide) (by decide) (n:=m) (by unfold jY; omega)
 exact this
theorem eqS {m:Nat} (hm:m<au):(ieq ((limbs m).getD 0 0) ((limbs m).getD 0 0)&&(ieq ((limbs m).getD 1 0) 0&&(ieq ((limbs m).getD 2 0) 0&&(ieq ((limbs m).getD 3 0) 0&&true))))=decide (m<18446744073709551616):=by
 rw [Bool.eq_iff_iff]
 simp only [Bool.and_eq_true,Kk,decide_eq_true_eq,and_true,aL _ 0 (by decide),aL _ 1 (by decide),aL _ 2 (by decide),aL _ 3 (by decide)]
 constructor
 ·rintro ⟨_,h1,h2,h3⟩
  have v:=iY m hm
  have l0:=aQ m 0
  rw [Int.natCast_eq_zero.1 h1,Int.natCast_eq_zero.1 h2,Int.natCast_eq_zero.1 h3] at v
  unfold jY at v
  omega
 ·intro h
  have e:=qK h
  unfold limbs at e
  simp only [List.cons.injEq,and_true] at e
  exact ⟨trivial,e.2.1,e.2.2.1,e.2.2.2⟩
theorem zY (a left m:Nat) (ha:a<au) (hm:m<au) (hl:left<m):
  dA.r (limbs a) (limbs left) (limbs m)=(true,limbs ((left*au+a)/m),limbs ((left*au+a)%m)):=by
 have hm0:0<m:=by omega
 simp only [dA.r,dA.g,lt,eqS hm]
 by_cases h:m<18446744073709551616
 ·have e0:(limbs left).getD 0 0=(left:Int):=by rw [qK (Nat.lt_trans hl h)]; rfl
  have e1:(limbs m).getD 0 0=(m:Int):=by rw [qK h]; rfl
  simp only [h,decide_true,cond_true,e0,e1,Qa a left m ha hl h,aj]
  rw [qK (Nat.lt_trans (Nat.mod_lt _ hm0) h)]
 ·simp only [h,decide_false,cond_false,Nj a left m ha hm0 hm hl,aj]
theorem KD (lo hi m:Nat) (hlo:lo<au) (hhi:hi<au) (hm:m<au):
  gM.r (limbs lo) (limbs hi) (limbs m)=(true,if m=0 then ([0,0,0,0],1) else (limbs ((hi*au+lo)%m),0)):=by
 simp only [gM.r,gM.g,lt,eqZ hm]
 by_cases h:m=0
 ·simp only [h,decide_true,cond_true,if_true]
 ·have h0:0<m:=by omega
  have e1:=zY hi 0 m hhi hm h0
  rw [eG] at e1
  have e2:=zY lo ((0*au+hi)%m) m hlo hm (Nat.mod_lt _ h0)
  simp only [h,decide_false,cond_false,if_false,e1,e2,aj]
  rw [Nat.zero_mul,Nat.zero_add,Nat.add_mod (hi%m*au),Nat.mod_mul_mod,← Nat.add_mod]
theorem PD (a b:Nat) (ha:a<au) (hb:b<au):
  lT.r (limbs a) (limbs b)=(true,if b=0 then ([0,0,0,0],[0,0,0,0],1) else (limbs (a/b),limbs (a%b),0)):=by
 simp only [lT.r,lT.g,lt,eqZ hb]
 by_cases h:b=0
 ·simp only [h,decide_true,cond_true,if_true]
 ·have e1:=zY a 0 b ha hb (by omega)
  rw [eG,Nat.zero_mul,Nat.zero_add] at e1
  simp only [h,decide_false,cond_false,if_false,e1,aj]
theorem EJ (a m:Nat) (ha:a<au) (hm:m<au) (h0:0<m):gM.r (limbs a) [0,0,0,0] (limbs m)=(true,limbs (a%m),0):=by
 have e:=KD a 0 m ha (by decide) hm
 rw [eG,if_neg (by omega),Nat.zero_mul,Nat.zero_add] at e
 exact e
theorem Hu (a b m:Nat) (ha:a<au) (hb:b<au) (hm:m<au) (h0:0<m):jQ.r (limbs a) (limbs b) (limbs m)=(true,limbs (a*b%m),0):=by
 have e:a*b/au*au+a*b%au=a*b:=by rw [Nat.mul_comm]; exact Nat.div_add_mod _ _
 have hl:a*b/au<au:=by
  rw [Nat.div_lt_iff_lt_mul (by decide)]
  exact Nat.mul_lt_mul_of_lt_of_lt ha hb
 simp only [jQ.r,jQ.g,lt,RL a b ha hb,aj,KD _ _ m (Nat.mod_lt _ (by decide)) hl hm,e]
 rw [if_neg (by omega)]
theorem PG (a b m:Nat) (ha:a<au) (hb:b<au) (hm:m<au) (h0:0<m):mF.r (limbs a) (limbs b) (limbs m)=(true,limbs ((a+b)%m),0):=by
 have e:(a+b)/au*au+(a+b)%au=a+b:=by rw [Nat.mul_comm]; exact Nat.div_add_mod _ _
 have hl:(a+b)/au<2:=by unfold au at *; omega
 have h1:dM.r (((a+b)/au:Nat):Int)=(true,limbs ((a+b)/au)):=by
  rw [si _ (by omega)]; rfl
 simp only [mF.r,mF.g,lt,Pn a b ha hb,aj,h1,KD _ _ m (Nat.mod_lt _ (by decide)) (Nat.lt_trans hl (by decide)) hm,e]
 rw [if_neg (by omega)]
theorem Bt (a b m:Nat) (ha:a<au) (hb:b<au) (hm:m<au) (h0:0<m):iN.r (limbs a) (limbs b) (limbs m)=(true,limbs ((a%m+(m - b%m))%m),0):=by
 have h1:=Nat.mod_lt a h0
 have h2:=Nat.mod_lt b h0
 have e0:((0:Int) != 0)=false:=rfl
 simp only [iN.r,iN.g,lt,EJ a m ha hm h0,aj,e0,cond_false,EJ b m hb hm h0,Bu (a%m) (b%m) (Nat.lt_trans h1 hm) (Nat.lt_trans h2 hm)]
 by_cases h:a%m<b%m
 ·rw [if_pos h]
  have e1:((1:Int)== 1)=true:=rfl
  simp only [e1,cond_true,Pn _ m (Nat.mod_lt _ (by decide)) hm,aj]
  have e:((a%m+au - b%m)%au+m)%au=(a%m+(m - b%m))%m:=by
   generalize a%m=x at*
   generalize b%m=y at*
   unfold au at*
   rw [Nat.mod_eq_of_lt (a:=x+(m - y)) (by omega)]
   omega
  rw [e]
 ·rw [if_neg h]
  have e1:((0:Int)== 1)=false:=rfl
  simp only [e1,cond_false]
  have e:(a%m+au - b%m)%au=(a%m+(m - b%m))%m:=by
   generalize a%m=x at*
   generalize b%m=y at*
   rw [show x+(m - y)=(x - y)+m by omega,Nat.add_mod_right,Nat.mod_eq_of_lt (a:=x - y) (by omega)]
   unfold au at*
   omega
  rw [e]
end Go.Own
set_option linter.unusedVariables false
set_option linter.unusedSimpArgs false
namespace Go.Own
open Go.IntWalk
def unl (l:List Int):Nat:=jY (l.getD 0 0).toNat (l.getD 1 0).toNat (l.getD 2 0).toNat (l.getD 3 0).toNat
theorem ku {n:Nat} (h:n<au):unl (limbs n)=n:=iY n h
def yu (c d:Nat):Nat:=bR c+bR d+(if c<d then 1 else 0)
theorem L8 {r c:Nat} (h:2*r≤c) (hc:0<c):bR r<bR c:=by
 have h1:=oh c
 rcases Nat.eq_zero_or_pos r with h0|h0
 ·subst h0
  have:bR 0=0:=by decide
  rcases Nat.eq_zero_or_pos (bR c) with h2|h2
  ·rw [h2] at h1; omega
  ·omega
 ·have h2:=pq (show r≠0 by omega)
  have h3:2^bR r≤2*r:=by
   rcases Nat.eq_zero_or_pos (bR r) with h4|h4
   ·rw [h4]; omega
   ·have:2^bR r=2*2^(bR r - 1):=by rw [← Nat.pow_succ',Nat.succ_eq_add_one,Nat.sub_add_cancel h4]
    omega
  exact (Nat.pow_lt_pow_iff_right (by decide:1<2)).1 (Nat.lt_of_le_of_lt (Nat.le_trans h3 h) h1)
theorem Kt {c d:Nat} (hd:0<d):yu d (c%d)<yu c d:=by
 unfold yu
 have h1:c%d<d:=Nat.mod_lt _ hd
 rw [if_neg (show ¬ d<c%d by omega)]
 rcases Nat.lt_or_ge c d with h|h
 ·rw [Nat.mod_eq_of_lt h,if_pos h]; omega
 ·rw [if_neg (by omega)]
  have h2:2*(c%d)≤c:=by
   have h3:=Nat.div_add_mod c d
   have h4:1≤c/d:=(Nat.one_le_div_iff hd).2 h
   have h5:d*1≤d*(c/d):=Nat.mul_le_mul_left d h4
   generalize d*(c/d)=p at*
   omega
  have:=L8 h2 (by omega)
  omega
theorem GI {c d:Nat} (hc:c<au) (hd:d<au):yu c d<u6:=by
 have h1:=rY hc
 have h2:=rY hd
 unfold yu
 have:u6=36893488147419103232:=rfl
 split<;>omega
theorem Um (a b:Nat) (ha:a<au) (hb:b<au):kX.r (limbs a) (limbs b)=(true,limbs (Nat.gcd a b)):=by
 obtain ⟨w,hw⟩:∃ w,w=kX.l0 ((),(),(),()) (limbs a,limbs b,[0,0,0,0],()):=⟨_,rfl⟩
 have key:w.1=true∧w.2.2.2.1.1=limbs (Nat.gcd a b):=by
  refine jw (g:=fun rq kn ke kr x y=>kX.g0 rq kn ke kr x y) hw (fun x y=>∃ c d,c<au∧d<au∧Nat.gcd c d=Nat.gcd a b∧y=(limbs c,limbs d,[0,0,0,0],())) (fun x y=>yu (unl y.1) (unl y.2.1)) ⟨a,b,ha,hb,rfl,rfl⟩ ?_ (Q:=fun w=>w.1=true∧w.2.2.2.1.1=limbs (Nat.gcd a b)) ?_
  ·show yu (unl (limbs a)) (unl (limbs b))<u6
   rw [ku ha,ku hb]
   exact GI ha hb
  ·rintro x y R ⟨c,d,hc,hd,hg,rfl⟩ hR
   simp only [kX.g0,lt,eqZ hd]
   by_cases h:d=0
   ·subst h
    simp only [decide_true,Bool.not_true,cond_false,true_and]
    rw [← hg,Nat.gcd_zero_right]
   ·have h1:c%d<d:=Nat.mod_lt _ (by omega)
    simp only [h,decide_false,Bool.not_false,cond_true,PD c d hc hd,if_false,aj]
    refine hR _ _ ⟨d,c%d,hd,Nat.lt_trans h1 hd,by rw [← hg,Nat.gcd_comm c d,Nat.gcd_rec d c,Nat.gcd_comm],rfl⟩ ?_
    show yu (unl (limbs d)) (unl (limbs (c%d)))<yu (unl (limbs c)) (unl (limbs d))
    rw [ku hc,ku hd,ku (Nat.lt_trans h1 hd)]
    exact Kt (by omega)
 simp only [kX.r,kX.g,lt,← hw,key.1,key.2,aj]
theorem P7 {m s p:Nat} (hm:0<m):∃ k:Int,(((s%m+(m - p%m%m))%m:Nat):Int)=s - p+k*m:=by
 rw [Nat.mod_mod]
 have e1:=Nat.div_add_mod s m
 have e2:=Nat.div_add_mod p m
 have h2:=Nat.mod_lt p hm
 obtain ⟨X,hX⟩:∃ X,X=s%m+(m - p%m):=⟨_,rfl⟩
 have e3:=Nat.div_add_mod X m
 have e4:X+p%m=s%m+m:=by omega
 rw [← hX]
 generalize X%m=x at*
 generalize X/m=q at*
 generalize p%m=y at*
 generalize p/m=v at*
 generalize s%m=z at*
 generalize s/m=u at*
 refine ⟨1 - u+v - q,?_⟩
 have f1:(m:Int)*u+z=s:=by rw [← e1]; push_cast; rfl
 have f2:(m:Int)*v+y=p:=by rw [← e2]; push_cast; rfl
 have f3:(m:Int)*q+x=X:=by rw [← e3]; push_cast; rfl
 have f4:(X:Int)+y=z+m:=by rw [← Int.natCast_add,e4]; push_cast; rfl
 grind
theorem NM {a m s t u v q p t':Int} {c d k:Int} (h1:v=s*a+c*m) (h2:u=t*a+d*m) (hp:p=q*t) (ht:t'=s - p+k*m):v - q*u=t'*a+(c - q*d - k*a)*m:=by
 subst h1 h2 hp ht
 grind
structure Ps (a m s:Nat):Prop where
 lt:s<m
 eq:s*a%m=1
theorem Hw (a m:Nat) (ha:a<au) (hm:m<au) (h2:2≤m):(Nat.gcd a m=1∧∃ s,Ps a m s∧iw.r (limbs a) (limbs m)=(true,limbs s,0))∨(Nat.gcd a m≠1∧iw.r (limbs a) (limbs m)=(true,[0,0,0,0],3)):=by
 have h0:0<m:=by omega
 have n2:dM.r 2=(true,limbs 2):=by rw [si _ (by decide)]; rfl
 have n1:dM.r 1=(true,limbs 1):=by rw [si _ (by decide)]; rfl
 have c2:ilt (uz m 2) 0=false:=by unfold uz; rw [if_neg (by omega)]; split<;>rfl
 have ham:=Nat.mod_lt a h0
 obtain ⟨w,hw⟩:∃ w,w=iw.l0 ((),(),0,(),(),(),(),()) (limbs m,[0,0,0,0],limbs (a%m),limbs m,[0,0,0,0],limbs 1,()):=⟨_,rfl⟩
 have key:w.1=true∧∃ s,s<m∧(∃ c:Int,(Nat.gcd a m:Int)=s*a+c*m)∧w.2.2.2.1.2.2.2.1=limbs (Nat.gcd a m)∧w.2.2.2.1.2.2.2.2.1=limbs s:=by
  refine jw (g:=fun rq kn ke kr x y=>iw.g0 rq kn ke kr x y) hw
   (fun x y=>∃ u v s t,u<au∧v<au∧s<m∧t<m∧Nat.gcd v u=Nat.gcd a m∧(∃ c:Int,(v:Int)=s*a+c*m)∧(∃ c:Int,(u:Int)=t*a+c*m)∧y=(limbs m,[0,0,0,0],limbs u,limbs v,limbs s,limbs t,()))
   (fun x y=>yu (unl y.2.2.2.1) (unl y.2.2.1))
   ⟨a%m,m,0,1,Nat.lt_trans ham hm,hm,h0,by omega,by rw [Nat.gcd_comm a m,Nat.gcd_rec m a,Nat.gcd_comm],⟨1,by grind⟩,⟨-((a/m:Nat):Int),by
    have e:=Nat.div_add_mod a m
    have f:(m:Int)*((a/m:Nat):Int)+((a%m:Nat):Int)=(a:Int):=by rw [← Int.natCast_mul,← Int.natCast_add,e]
    generalize ((a/m:Nat):Int)=q at*
    generalize ((a%m:Nat):Int)=r at*
    grind⟩,by rw [eG]⟩ ?_
   (Q:=fun w=>w.1=true∧∃ s,s<m∧(∃ c:Int,(Nat.gcd a m:Int)=s*a+c*m)∧w.2.2.2.1.2.2.2.1=limbs (Nat.gcd a m)∧w.2.2.2.1.2.2.2.2.1=limbs s) ?_
  ·show yu (unl (limbs m)) (unl (limbs (a%m)))<u6
   rw [ku hm,ku (Nat.lt_trans ham hm)]
   exact GI hm (Nat.lt_trans ham hm)
  ·rintro x y R ⟨u,v,s,t,hu,hv,hs,ht,hg,⟨c,hc⟩,⟨d,hd⟩,rfl⟩ hR
   simp only [iw.g0,lt,eqZ hu]
   by_cases h:u=0
   ·subst h
    simp only [decide_true,Bool.not_true,cond_false,true_and]
    rw [Nat.gcd_zero_right] at hg
    subst hg
    exact ⟨s,hs,⟨c,hc⟩,rfl,rfl⟩
   ·have h1:v%u<u:=Nat.mod_lt _ (by omega)
    have hq:v/u<au:=Nat.lt_of_le_of_lt (Nat.div_le_self _ _) hv
    have hqm:=Nat.mod_lt (v/u*t) h0
    simp only [h,decide_false,Bool.not_false,cond_true,PD v u hv hu,if_false,aj,Hu (v/u) t m hq (Nat.lt_trans ht hm) hm h0,Bt s _ m (Nat.lt_trans hs hm) (Nat.lt_trans hqm hm) hm h0]
    obtain ⟨k,hk⟩:=P7 (m:=m) (s:=s) (p:=v/u*t) h0
    refine hR _ _ ⟨v%u,u,t,(s%m+(m - v/u*t%m%m))%m,Nat.lt_trans h1 hu,hu,ht,Nat.mod_lt _ h0,by rw [← hg,Nat.gcd_comm v u,Nat.gcd_rec u v,Nat.gcd_comm],⟨d,hd⟩,⟨c - ((v/u:Nat):Int)*d - k*a,?_⟩,rfl⟩ ?_
    ·have e:=Nat.div_add_mod v u
     have f:((v%u:Nat):Int)=v - ((v/u:Nat):Int)*u:=by
      have f:(u:Int)*((v/u:Nat):Int)+((v%u:Nat):Int)=(v:Int):=by rw [← Int.natCast_mul,← Int.natCast_add,e]
      rw [Int.mul_comm] at f; omega
     rw [f]
     exact NM hc hd (by push_cast; rfl) hk
    ·show yu (unl (limbs u)) (unl (limbs (v%u)))<yu (unl (limbs v)) (unl (limbs u))
     rw [ku hv,ku hu,ku (Nat.lt_trans h1 hu)]
     exact Kt (by omega)
 obtain ⟨k1,s,hs,⟨c,hc⟩,k2,k3⟩:=key
 have hgl:Nat.gcd a m<au:=Nat.lt_of_le_of_lt (Nat.gcd_le_right a h0) hm
 have e:iw.r (limbs a) (limbs m)=bif !(decide (Nat.gcd a m=1)) then (true,[0,0,0,0],3) else (true,limbs s,0):=by
  simp only [iw.r,iw.g,lt,n2,n1,yE m 2 hm (by decide),c2,cond_false,aj,EJ a m ha hm h0,← hw,k1,k2,k3,eqL hgl (show 1<au by decide)]
 by_cases h:Nat.gcd a m=1
 ·refine Or.inl ⟨h,s,⟨hs,?_⟩,by rw [e]; simp only [h,decide_true,Bool.not_true,cond_false]⟩
  rw [h] at hc
  have:((s*a%m:Nat):Int)=1:=by
   have e2:((s*a:Nat):Int)=1+m*(-c):=by push_cast at hc ⊢; grind
   rw [Int.natCast_emod,e2,Int.add_mul_emod_self_left,Int.emod_eq_of_lt (by decide) (by omega)]
  omega
 ·exact Or.inr ⟨h,by rw [e]; simp only [h,decide_false,Bool.not_false,cond_true]⟩
end Go.Own
set_option linter.unusedVariables false
set_option linter.unusedSimpArgs false
namespace Go.Own
open Go.IntWalk
theorem yI (n:Int):∃ c:Int,IntKind.u64.wrap n=n+c*18446744073709551616∧0≤IntKind.u64.wrap n∧IntKind.u64.wrap n<18446744073709551616:=by
 have e:IntKind.u64.wrap n=n%18446744073709551616:=by
  simp only [IntKind.wrap,IntKind.bits,IntKind.signed,Bool.false_and,Bool.false_eq_true,if_false]
  rfl
 rw [e]
 exact ⟨-(n/18446744073709551616),by omega,by omega,by omega⟩
theorem Af {m x K d c1 c2 c3 W v1 v2 v3:Int} (h:m*x=1+K*d) (h1:v1=m*x+c1*W) (h2:v2=2 - v1+c2*W) (h3:v3=x*v2+c3*W):m*v3=1+K*K*(-(d*d))+W*(m*x*(c2 - c1)+m*c3):=by
 subst h1 h2 h3
 have e:m*(x*(2 - (m*x+c1*W)+c2*W)+c3*W)=(m*x)*(2 - m*x)+W*(m*x*(c2 - c1)+m*c3):=by grind
 rw [e,h]
 grind
theorem D8 {m x K f:Int} (hf:K*K*f=18446744073709551616) (h:∃ d,m*x=1+K*d):∃ d,m*IntKind.u64.wrap (x*IntKind.u64.wrap (2 - IntKind.u64.wrap (m*x)))=1+K*K*d:=by
 obtain ⟨d,h⟩:=h
 obtain ⟨c1,h1,_⟩:=yI (m*x)
 obtain ⟨c2,h2,_⟩:=yI (2 - IntKind.u64.wrap (m*x))
 obtain ⟨c3,h3,_⟩:=yI (x*IntKind.u64.wrap (2 - IntKind.u64.wrap (m*x)))
 have:=Af h h1 h2 h3
 rw [this]
 generalize (18446744073709551616:Int)=W at*
 exact ⟨-(d*d)+f*(m*x*(c2 - c1)+m*c3),by subst hf; grind⟩
theorem F3 {m x K f:Int} (hf:K*K=18446744073709551616*f) (h:∃ d,m*x=1+K*d):∃ d,m*IntKind.u64.wrap (x*IntKind.u64.wrap (2 - IntKind.u64.wrap (m*x)))=1+18446744073709551616*d:=by
 obtain ⟨d,h⟩:=h
 obtain ⟨c1,h1,_⟩:=yI (m*x)
 obtain ⟨c2,h2,_⟩:=yI (2 - IntKind.u64.wrap (m*x))
 obtain ⟨c3,h3,_⟩:=yI (x*IntKind.u64.wrap (2 - IntKind.u64.wrap (m*x)))
 have:=Af h h1 h2 h3
 rw [this]
 generalize (18446744073709551616:Int)=W at*
 exact ⟨f*(-(d*d))+(m*x*(c2 - c1)+m*c3),by rw [hf]; grind⟩
theorem Qr {m m0 x:Int} {q:Int} (hm:m=m0+18446744073709551616*q) (h:∃ d,m0*x=1+18446744073709551616*d):∃ e,IntKind.u64.wrap (0 - x)*m+1=18446744073709551616*e:=by
 obtain ⟨d,h⟩:=h
 obtain ⟨c,h1,_⟩:=yI (0 - x)
 rw [h1,hm]
 generalize (18446744073709551616:Int)=W at*
 exact ⟨-d - x*q+c*(m0+W*q),by grind⟩
theorem Ut {x:Nat} (h:x%2=1):∃ d:Int,(x:Int)*x=1+8*d:=by
 obtain ⟨t,rfl⟩:∃ t,x=2*t+1:=⟨x/2,by omega⟩
 have h2:t*(t+1)%2=0:=by
  rcases Nat.mod_two_eq_zero_or_one t with h|h
  ·rw [Nat.mul_mod,h]; simp
  ·rw [Nat.mul_mod,show (t+1)%2=0 by omega]; simp
 obtain ⟨s,hs⟩:∃ s,t*(t+1)=2*s:=⟨t*(t+1)/2,by omega⟩
 refine ⟨s,?_⟩
 have:(2*t+1)*(2*t+1)=1+8*s:=by
  have e:(2*t+1)*(2*t+1)=1+4*(t*(t+1)):=by grind
  rw [e,hs]; omega
 have h3:(((2*t+1)*(2*t+1):Nat):Int)=((1+8*s:Nat):Int):=by rw [this]
 push_cast at h3 ⊢
 exact h3
theorem Gg {m:Nat}:limb m 0%2=m%2:=by
 unfold limb
 rw [Nat.mul_zero,Nat.pow_zero,Nat.div_one]
 omega
theorem Sn (m:Nat):∃ q:Int,(m:Int)=(limb m 0:Int)+18446744073709551616*q:=by
 refine ⟨((m/18446744073709551616:Nat):Int),?_⟩
 unfold limb
 rw [Nat.mul_zero,Nat.pow_zero,Nat.div_one]
 omega
theorem OO (x:Nat) (hx:x<18446744073709551616):(eU .u64 (· &&& ·) (x:Int) (1:Int)== 0)=decide (x%2=0):=by
 rw [vV x hx,Nat.and_one_is_mod]
 have:x%2=0∨x%2=1:=by omega
 rcases this with h|h<;>rw [h]<;>rfl
theorem Pj (m:Nat) (hm:m<au) (ho:m%2=1) (h1:1<m):∃ rx inv,Rng rx m inv (au%m) (au*au%m)∧ny.r (limbs m)=(true,rx,0):=by
 have h0:0<m:=by omega
 have n1:dM.r 1=(true,limbs 1):=by rw [si _ (by decide)]; rfl
 have e0:(limbs m).getD 0 0=(limb m 0:Int):=aL m 0 (by decide)
 have hb:(eU .u64 (· &&& ·) (limb m 0:Int) (1:Int)== 0)=false:=by rw [OO _ (aQ m 0),Gg,ho]; rfl
 have eq1:(ieq ((limbs m).getD 0 0) ((limbs 1).getD 0 0)&&(ieq ((limbs m).getD 1 0) ((limbs 1).getD 1 0)&&(ieq ((limbs m).getD 2 0) ((limbs 1).getD 2 0)&&(ieq ((limbs m).getD 3 0) ((limbs 1).getD 3 0)&&true))))=false:=by
  rw [eqL hm (by decide)]; exact decide_eq_false (by omega)
 have r1:gM.r [0,0,0,0] (limbs 1) (limbs m)=(true,limbs (au%m),0):=by
  have e:=KD 0 1 m (by decide) (by decide) hm
  rw [eG,if_neg (by omega),Nat.one_mul,Nat.add_zero] at e
  exact e
 have hom:=Nat.mod_lt au h0
 have r2:=Hu (au%m) (au%m) m (Nat.lt_trans hom hm) (Nat.lt_trans hom hm) hm h0
 rw [← Nat.mul_mod] at r2
 obtain ⟨x1,hx1⟩:∃ x:Int,x=IntKind.u64.wrap ((limb m 0:Int)*IntKind.u64.wrap (2 - IntKind.u64.wrap ((limb m 0:Int)*(limb m 0:Int)))):=⟨_,rfl⟩
 obtain ⟨x2,hx2⟩:∃ x:Int,x=IntKind.u64.wrap (x1*IntKind.u64.wrap (2 - IntKind.u64.wrap ((limb m 0:Int)*x1))):=⟨_,rfl⟩
 obtain ⟨x3,hx3⟩:∃ x:Int,x=IntKind.u64.wrap (x2*IntKind.u64.wrap (2 - IntKind.u64.wrap ((limb m 0:Int)*x2))):=⟨_,rfl⟩
 obtain ⟨x4,hx4⟩:∃ x:Int,x=IntKind.u64.wrap (x3*IntKind.u64.wrap (2 - IntKind.u64.wrap ((limb m 0:Int)*x3))):=⟨_,rfl⟩
 obtain ⟨x5,hx5⟩:∃ x:Int,x=IntKind.u64.wrap (x4*IntKind.u64.wrap (2 - IntKind.u64.wrap ((limb m 0:Int)*x4))):=⟨_,rfl⟩
 obtain ⟨iv,hiv⟩:∃ x:Int,x=IntKind.u64.wrap (0 - x5):=⟨_,rfl⟩
 have s1:=D8 (K:=8) (f:=288230376151711744) (by decide) (Ut (x:=limb m 0) (by rw [Gg]; exact ho))
 rw [← hx1] at s1
 have s2:=D8 (K:=64) (f:=4503599627370496) (by decide) s1
 rw [← hx2] at s2
 have s3:=D8 (K:=4096) (f:=1099511627776) (by decide) s2
 rw [← hx3] at s3
 have s4:=D8 (K:=16777216) (f:=65536) (by decide) s3
 rw [← hx4] at s4
 have s5:=F3 (K:=281474976710656) (f:=4294967296) (by decide) s4
 rw [← hx5] at s5
 obtain ⟨q,hq⟩:=Sn m
 obtain ⟨e,he⟩:=Qr hq s5
 rw [← hiv] at he
 obtain ⟨_,_,g1,g2⟩:=yI (0 - x5)
 rw [← hiv] at g1 g2
 obtain ⟨inv,rfl⟩:=Int.eq_ofNat_of_zero_le g1
 have hdv:(inv*m+1)%18446744073709551616=0:=by
  have:((inv*m+1:Nat):Int)=18446744073709551616*e:=by push_cast; exact he
  omega
 refine ⟨some (limbs m,((inv:Int),(limbs (au%m),(limbs (au*au%m),())))),inv,⟨rfl,ho,h1,hm,by omega,?_,hdv,rfl,rfl⟩,?_⟩
 ·rcases Nat.eq_zero_or_pos inv with h|h
  ·subst h; simp at hdv
  ·exact h
 ·rw [e0] at eq1
  simp only [ny.r,ny.g,lt,e0,hb,cond_false,n1,aj,eq1,r1,r2,← hx1,← hx2,← hx3,← hx4,← hx5,← hiv]
theorem vS {a b c m:Nat} (hc:Nat.Coprime c m) (h:a*c%m=b*c%m):a%m=b%m:=by
 have key:∀ a b:Nat,a≤b→a*c%m=b*c%m→a%m=b%m:=by
  intro a b hab h
  have h1:=Nat.sub_mod_eq_zero_of_mod_eq h.symm
  rw [← Nat.sub_mul] at h1
  have h2:=Nat.Coprime.dvd_of_dvd_mul_right hc.symm (Nat.dvd_of_mod_eq_zero h1)
  obtain ⟨k,hk⟩:=h2
  rw [show b=a+m*k by omega,Nat.add_mul_mod_self_left]
 rcases Nat.le_total a b with hab|hab
 ·exact key a b hab h
 ·exact (key b a hab h.symm).symm
theorem Rng.cop {rx m inv one sq} (h:Rng rx m inv one sq):Nat.Coprime au m:=by
 rw [vI]
 apply Nat.Coprime.pow_left
 have:Nat.gcd 2 m=Nat.gcd (m%2) 2:=Nat.gcd_rec 2 m
 show Nat.gcd 2 m=1
 rw [this,h.odd]
 decide
theorem OP (x y W:Nat):x*W*(y*W)=x*y*W*W:=by grind
theorem QU (x b W:Nat):x*W*b=x*b*W:=by grind
theorem xR {rx m inv one sq} (h:Rng rx m inv one sq) {a b x y:Nat} (ha:a<au) (hb:b<m) (hx:a%m=x*au%m) (hy:b=y*au%m):bE.r rx (limbs a) (limbs b)=(true,limbs (x*y*au%m)):=by
 obtain ⟨R,h1,h2,h3⟩:=Iu h ha hb
 have:R%m=x*y*au%m:=by
  apply vS h.cop
  rw [h3,Nat.mul_mod,hx,hy,Nat.mod_mod,← Nat.mul_mod,OP]
 rw [h1,← this,Nat.mod_eq_of_lt h2]
theorem FJ {rx m inv one sq} (h:Rng rx m inv one sq) {a b x:Nat} (ha:a<au) (hb:b<m) (hx:a%m=x*au%m):bE.r rx (limbs a) (limbs b)=(true,limbs (x*b%m)):=by
 obtain ⟨R,h1,h2,h3⟩:=Iu h ha hb
 have:R%m=x*b%m:=by
  apply vS h.cop
  rw [h3,Nat.mul_mod,hx,← Nat.mul_mod,QU]
 rw [h1,← this,Nat.mod_eq_of_lt h2]
theorem wX {rx m inv one sq} (h:Rng rx m inv one sq):dS.r rx=(true,true):=by
 rw [h.eq]
 have:((inv:Int) != 0)=true:=by
  have:=h.inv_pos
  simp; omega
 simp only [dS.r,dS.g,lt,Option.isNone_some,Bool.not_false,cond_true,Option.getD_some,Option.isSome_some,aj,this]
theorem KZ {rx m inv one sq} (h:Rng rx m inv one sq):(rx.getD dV).1=limbs m∧(rx.getD dV).2.2.1=limbs one∧(rx.getD dV).2.2.2.1=limbs sq∧rx.isSome=true:=by
 rw [h.eq]; exact ⟨rfl,rfl,rfl,rfl⟩
theorem Rw {rx m inv one sq} (h:Rng rx m inv one sq) {a:Nat} (ha:a<au):je.r rx (limbs a)=(true,limbs (a%m)):=by
 obtain ⟨e1,e2,e3,e4⟩:=KZ h
 have h0:0<m:=by have:=h.gt; omega
 simp only [je.r,je.g,lt,e1,e4,aj,yE a m ha h.lt]
 by_cases hc:a<m
 ·have:ilt (uz a m) 0=true:=by unfold uz; rw [if_pos hc]; rfl
  simp only [this,cond_true,Nat.mod_eq_of_lt hc]
 ·have:ilt (uz a m) 0=false:=by unfold uz; rw [if_neg hc]; split<;>rfl
  simp only [this,cond_false,EJ a m ha h.lt h0,aj]
theorem Px {rx m inv one sq} (h:Rng rx m inv one sq) {a:Nat} (ha:a<au):iP.r rx (limbs a)=(true,limbs (a*au%m)):=by
 obtain ⟨e1,e2,e3,e4⟩:=KZ h
 have h0:0<m:=by have:=h.gt; omega
 have hsq:sq<m:=by rw [h.sq_eq]; exact Nat.mod_lt _ h0
 have ham:=Nat.lt_trans (Nat.mod_lt a h0) h.lt
 obtain ⟨R,h1,h2,h3⟩:=Iu h ham hsq
 have:R%m=a*au%m:=by
  apply vS h.cop
  rw [h3,h.sq_eq,← Nat.mul_mod,Nat.mul_assoc]
 rw [Nat.mod_eq_of_lt h2] at this
 simp only [iP.r,iP.g,lt,wX h,aj,Bool.not_true,cond_false,Rw h ha,e3,e4,h1,this]
theorem JF {rx m inv one sq} (h:Rng rx m inv one sq) {a b:Nat} (ha:a<au) (hb:b<au):jf.r rx (limbs a) (limbs b)=(true,limbs (a*b%m)):=by
 have h0:0<m:=by have:=h.gt; omega
 have haw:=Nat.lt_trans (Nat.mod_lt (a*au) h0) h.lt
 have e:=FJ h (a:=a*au%m) (b:=b%m) (x:=a) haw (Nat.mod_lt _ h0) (Nat.mod_mod _ _)
 rw [← Nat.mul_mod_mod]
 simp only [jf.r,jf.g,lt,wX h,aj,Bool.not_true,cond_false,Rw h hb,Px h ha,e]
theorem UI {rx m inv one sq} (h:Rng rx m inv one sq):mM.r rx=(true,limbs m):=by
 obtain ⟨e1,e2,e3,e4⟩:=KZ h
 simp only [mM.r,mM.g,lt,wX h,aj,Bool.not_true,cond_false,e1,e4]
theorem Rj {rx m inv one sq} (h:Rng rx m inv one sq) {a:Nat} (ha:a<au):iK.r rx (limbs a)=(true,decide (a<m)):=by
 obtain ⟨e1,e2,e3,e4⟩:=KZ h
 have e:ilt (uz a m) 0=decide (a<m):=by
  unfold uz
  by_cases hc:a<m
  ·rw [if_pos hc]; simp only [hc,decide_true]; rfl
  ·rw [if_neg hc]; simp only [hc,decide_false]; split<;>rfl
 simp only [iK.r,iK.g,lt,wX h,aj,cond_true,e1,e4,yE a m ha h.lt,e]
end Go.Own
set_option linter.unusedVariables false
set_option linter.unusedSimpArgs false
namespace Go.Own
open Go.IntWalk
theorem getD_map {α β:Type} {f:α→β} {l:List α} {i:Nat} {d:β} {d':α} (h:i<l.length):(l.map f).getD i d=f (l.getD i d'):=by
 simp [List.getD_eq_getElem?_getD,h]
theorem jm {β:Type} {f:Nat→β} {n i:Nat} {d:β} (h:i<n):((List.range n).map f).getD i d=f i:=by
 simp [List.getD_eq_getElem?_getD,h]
theorem rD {β:Type} {f g:Nat→β} {n i:Nat} {v:β} (h:i<n) (hv:v=g i) (hf:∀ k,k<n→k≠i→f k=g k):((List.range n).map f).set i v=(List.range n).map g:=by
 apply List.ext_getElem
 ·simp
 ·intro k h1 h2
  simp only [List.length_map,List.length_range] at h2
  rw [List.getElem_set]
  split
  ·rename_i e; subst e; simp [hv]
  ·rename_i e; simp [hf k h2 (fun x=>e x.symm)]
def pwT (m b:Nat):List (List Int):=(List.range 16).map fun k=>limbs (b^k*au%m)
theorem M8 {m b k:Nat} (h:k<16):(pwT m b).getD k [0,0,0,0]=limbs (b^k*au%m):=jm h
def DU (m b i:Nat):List (List Int):=(List.range 16).map fun k=>if k<i then limbs (b^k*au%m) else [0,0,0,0]
theorem Nc {rx m inv one sq} (h:Rng rx m inv one sq) {a:Nat} (ha:a<au):dY.r rx (limbs a)=(true,pwT m a):=by
 obtain ⟨e1,e2,e3,e4⟩:=KZ h
 have h0:0<m:=by have:=h.gt; omega
 have key:dY.l0 (rx,(),(),(),((0+1:Nat):Int),()) (List.replicate 16 [0,0,0,0],DU m a (0+1),limbs (a*au%m),())=(true,1,(rx,(),(),(),((15+1:Nat):Int),()),(List.replicate 16 [0,0,0,0],DU m a (15+1),limbs (a*au%m),()),(),()):=by
  refine bK (g:=fun rq kn ke kr x y=>dY.g0 rq kn ke kr x y) 15 (fun j=>(rx,(),(),(),((j+1:Nat):Int),())) (fun j=>(List.replicate 16 [0,0,0,0],DU m a (j+1),limbs (a*au%m),())) _ ?_ ?_ _ 0 (Nat.zero_le _) (by show 15 - 0<((16:Int) - ((0+1:Nat):Int)).toNat+1; omega)
  ·intro j R hj
   have a1:IntKind.i64.wrap (((j+1:Nat):Int) - 1)=(j:Int):=by rw [i64_in _ (by omega)]; omega
   have a2:IntKind.i64.wrap (((j+1:Nat):Int)+1)=((j+1+1:Nat):Int):=i64_in _ (by omega)
   have a3:(DU m a (j+1)).getD j [0,0,0,0]=limbs (a^j*au%m):=by
    show ((List.range 16).map _).getD j _=_
    rw [jm (by omega),if_pos (by omega)]
   have a4:=xR h (a:=a^j*au%m) (b:=a*au%m) (x:=a^j) (y:=a) (Nat.lt_trans (Nat.mod_lt _ h0) h.lt) (Nat.mod_lt _ h0) (Nat.mod_mod _ _) rfl
   have a5:(DU m a (j+1)).set (j+1) (limbs (a^j*a*au%m))=DU m a (j+1+1):=by
    refine rD (by omega) ?_ ?_
    ·rw [if_pos (by omega),Nat.pow_succ]
    ·intro k _ hk
     by_cases h1:k<j+1
     ·rw [if_pos h1,if_pos (by omega)]
     ·rw [if_neg h1,if_neg (by omega)]
   simp only [dY.g0,lt,cK (show ((j+1:Nat):Int)<16 by omega),cond_true,a1,bJ (show (0:Int)≤(j:Int) by omega),cK (show (j:Int)<16 by omega),Bool.and_true,aj,Int.toNat_natCast,a3,a4,bJ (show (0:Int)≤((j+1:Nat):Int) by omega),a5,a2]
  ·intro R
   simp only [dY.g0,lt,dJ (show ¬ ((15+1:Nat):Int)<16 by omega),cond_false]
 have b1: [limbs one,[0,0,0,0],[0,0,0,0],[0,0,0,0],[0,0,0,0],[0,0,0,0],[0,0,0,0],[0,0,0,0],[0,0,0,0],[0,0,0,0],[0,0,0,0],[0,0,0,0],[0,0,0,0],[0,0,0,0],[0,0,0,0],[0,0,0,0]]=DU m a (0+1):=by
  have:limbs one=limbs (a^0*au%m):=by rw [h.one_eq,Nat.pow_zero,Nat.one_mul]
  rw [this]; rfl
 have b2:DU m a (15+1)=pwT m a:=rfl
 simp only [dY.r,dY.g,lt,Px h ha,aj,e2,e4,b1]
 have k2:dY.l0 (rx,(),(),(),1,()) ([[0,0,0,0],[0,0,0,0],[0,0,0,0],[0,0,0,0],[0,0,0,0],[0,0,0,0],[0,0,0,0],[0,0,0,0],[0,0,0,0],[0,0,0,0],[0,0,0,0],[0,0,0,0],[0,0,0,0],[0,0,0,0],[0,0,0,0],[0,0,0,0]],DU m a (0+1),limbs (a*au%m),())=_:=key
 rw [k2,b2]
 rfl
theorem Q9 {e t:Nat} (he:e<au) (ht:t≤256):jh.r (limbs e) (t:Int)=(true,((e/2^t%16:Nat):Int)):=by
 have h1:e/2^t<au:=Nat.lt_of_le_of_lt (Nat.div_le_self _ _) he
 have e2:e/2^t*2^252%au/2^252=e/2^t%16:=by
  rw [show au=16*2^252 by decide,Nat.mul_mod_mul_right,Nat.mul_div_cancel _ (Nat.two_pow_pos _)]
 have h3:=Nat.mod_lt (e/2^t*2^252) (show 0<au by decide)
 have h4:=Nat.mod_lt (e/2^t) (show 0<16 by decide)
 simp only [jh.r,jh.g,lt,KG e (t:Int) he (by omega),Int.toNat_natCast,aj,RI _ 252 h1 (by decide),show (252:Int).toNat=252 from rfl,KG _ 252 h3 (by decide),e2,Ph _ (show e/2^t%16<au from Nat.lt_trans h4 (by decide))]
 rw [if_pos (by omega)]
def fI (f:Nat→Nat):List Nat→List Nat→Nat
 |b::bs,e::es=>b^f e*fI f bs es
 |_,_=>1
theorem vL (f:Nat→Nat):∀ (bs es:List Nat) (j:Nat),j<bs.length→j<es.length→fI f (bs.take (j+1)) (es.take (j+1))=fI f (bs.take j) (es.take j)*bs.getD j 0^f (es.getD j 0)
 |b::bs,e::es,0,_,_=>by simp [fI]
 |b::bs,e::es,j+1,h1,h2=>by
  have:=vL f bs es j (by simpa using h1) (by simpa using h2)
  simp only [List.take_succ_cons,fI,this,List.getD_cons_succ]
  rw [Nat.mul_assoc]
 | [],_,_,h,_=>by simp at h
 |_::_,[],_,_,h=>by simp at h
theorem yO (t:Nat):∀ (bs es:List Nat),fI (fun e=>e/2^t) bs es=fI (fun e=>e/2^(t+4)) bs es^16*fI (fun e=>e/2^t%16) bs es
 |b::bs,e::es=>by
  simp only [fI]
  rw [yO t bs es]
  have h1:e/2^t=e/2^(t+4)*16+e/2^t%16:=by
   rw [Nat.pow_add,← Nat.div_div_eq_div_mul]
   have:=Nat.div_add_mod (e/2^t) 16
   rw [Nat.mul_comm] at this
   exact this.symm
  generalize fI (fun e=>e/2^(t+4)) bs es=p
  generalize fI (fun e=>e/2^t%16) bs es=q
  rw [Nat.mul_pow]
  generalize e/2^t%16=d at*
  rw [h1,Nat.pow_add,Nat.pow_mul]
  generalize (b^(e/2^(t+4)))^16=u
  generalize p^16=v
  generalize b^d=w
  grind
 | [],_=>by simp [fI]
 |_::_,[]=>by simp [fI]
theorem zW {f:Nat→Nat}:∀ (bs es:List Nat),(∀ e∈es,f e=0)→fI f bs es=1
 |b::bs,e::es,h=>by
  simp only [fI]
  rw [h e (by simp),Nat.pow_zero,Nat.one_mul]
  exact zW bs es fun e' he=>h e' (by simp [he])
 | [],_,_=>rfl
 |_::_,[],_=>rfl
theorem yP {f g:Nat→Nat}:∀ (bs es:List Nat),(∀ e∈es,f e=g e)→fI f bs es=fI g bs es
 |b::bs,e::es,h=>by
  simp only [fI]
  rw [h e (by simp),yP bs es fun e' he=>h e' (by simp [he])]
 | [],_,_=>rfl
 |_::_,[],_=>rfl
def oO (es:List Nat):Nat:=es.foldl (fun L e=>if L<bR e then bR e else L) 0
theorem Li {es:List Nat} {j:Nat} (h:j<es.length):oO (es.take (j+1))=if oO (es.take j)<bR (es.getD j 0) then bR (es.getD j 0) else oO (es.take j):=by
 unfold oO
 rw [List.take_add_one,List.foldl_append]
 simp [List.getD_eq_getElem?_getD,h]
theorem F7:∀ (es:List Nat) (L:Nat),L≤es.foldl (fun L e=>if L<bR e then bR e else L) L∧∀ e∈es,bR e≤es.foldl (fun L e=>if L<bR e then bR e else L) L
 | [],L=>by simp
 |e::es,L=>by
  obtain ⟨h1,h2⟩:=F7 es (if L<bR e then bR e else L)
  simp only [List.foldl_cons]
  refine ⟨?_,?_⟩
  ·split at h1<;>split<;>omega
  ·intro e' he
   rcases List.mem_cons.1 he with rfl|he
   ·split at h1<;>split<;>omega
   ·exact h2 e' he
theorem Qt {es:List Nat} (h:∀ e∈es,e<au):oO es≤256:=by
 have:∀ (es:List Nat) (L:Nat),L≤256→(∀ e∈es,e<au)→es.foldl (fun L e=>if L<bR e then bR e else L) L≤256:=by
  intro es
  induction es with
  |nil=>intro L h _; exact h
  |cons e es ih=>
   intro L hL he
   simp only [List.foldl_cons]
   exact ih _ (by have:=rY (he e (by simp)); split<;>omega) fun e' h'=>he e' (by simp [h'])
 exact this es 0 (by omega) h
theorem kz {α β:Type} {f:α→β} {l:List α} {j:Nat} {d:α} (h:j<l.length):(l.take j).map f++ [f (l.getD j d)]=(l.take (j+1)).map f:=by
 rw [List.take_add_one,List.map_append]
 simp [List.getD_eq_getElem?_getD,h]
end Go.Own
set_option linter.unusedVariables false
set_option linter.unusedSimpArgs false
namespace Go.Own
open Go.IntWalk
theorem fF {l:List Nat} {j:Nat} (h:j<l.length):l.getD j 0∈l:=by
 rw [getD_lt h]; exact List.getElem_mem h
theorem Kz (a b:Nat):(bif ilt (a:Int) (b:Int) then (b:Int) else (a:Int))=((if a<b then b else a:Nat):Int):=by
 by_cases h:a<b
 ·rw [cK (by omega),if_pos h]; rfl
 ·rw [dJ (by omega),if_neg h]; rfl
theorem TN (A:Nat):A*A*(A*A)*(A*A*(A*A))*(A*A*(A*A)*(A*A*(A*A)))=A^16:=by grind
theorem Q8 {rx:Option aJ} {m inv one sq:Nat} (h:Rng rx m inv one sq) {bs es:List Nat} (hb:∀ b∈bs,b<au) (he:∀ e∈es,e<au) (hl:bs.length=es.length) (h64:bs.length≤64):bg.l0 (rx,es.map limbs,(),0,(),0,bs.map limbs,(bs.length:Int),0,()) ([0,0,0,0],(true,[]),())=
  (true,1,(rx,es.map limbs,(),0,(),(oO es:Int),bs.map limbs,(bs.length:Int),(bs.length:Int),()),([0,0,0,0],(bs.isEmpty,bs.map (pwT m)),()),(),()):=by
 have key:bg.l0 (rx,es.map limbs,(),0,(),(oO (es.take 0):Int),bs.map limbs,(bs.length:Int),((0:Nat):Int),()) ([0,0,0,0],(decide (0=0),(bs.take 0).map (pwT m)),())=
   (true,1,(rx,es.map limbs,(),0,(),(oO (es.take bs.length):Int),bs.map limbs,(bs.length:Int),(bs.length:Int),()),([0,0,0,0],(decide (bs.length=0),(bs.take bs.length).map (pwT m)),()),(),()):=by
  refine bK (g:=fun rq kn ke kr x y=>bg.g0 rq kn ke kr x y) bs.length (fun j=>(rx,es.map limbs,(),0,(),(oO (es.take j):Int),bs.map limbs,(bs.length:Int),(j:Int),())) (fun j=>([0,0,0,0],(decide (j=0),(bs.take j).map (pwT m)),())) _ ?_ ?_ _ 0 (Nat.zero_le _) (by show bs.length - 0<((bs.length:Int) - ((0:Nat):Int)).toNat+1; omega)
  ·intro j R hj
   have hj2:j<es.length:=by omega
   have g1:(bs.map limbs).getD j [0,0,0,0]=limbs (bs.getD j 0):=getD_map hj
   have g2:(es.map limbs).getD j [0,0,0,0]=limbs (es.getD j 0):=getD_map hj2
   have c1:nle ((2*((bs.take j).length+1)+512)*512) 70368744177664=true:=rT (by rw [List.length_take]; omega)
   have i0:ile 0 (j:Int)=true:=bJ (by omega)
   have s1:((bs.take j).map (pwT m))++ [pwT m (bs.getD j 0)]=(bs.take (j+1)).map (pwT m):=kz hj
   have d1:decide (j+1=0)=false:=decide_eq_false (by omega)
   have w1:IntKind.i64.wrap ((j:Int)+1)=((j+1:Nat):Int):=i64_in _ (by omega)
   have mx:((if oO (es.take j)<bR (es.getD j 0) then bR (es.getD j 0) else oO (es.take j):Nat):Int)=(oO (es.take (j+1)):Int):=by rw [Li hj2]
   simp only [bg.g0,lt,cK (show (j:Int)<(bs.length:Int) by omega),cK (show (j:Int)<(es.length:Int) by omega),i0,Bool.and_true,cond_true,Int.toNat_natCast,g1,g2,List.length_map,c1,aj,Nc h (hb _ (fF hj)),Bool.and_false,s1,Pg _ (he _ (fF hj2)),Kz,mx,w1,d1]
  ·intro R
   simp only [bg.g0,lt,dJ (show ¬ (bs.length:Int)<(bs.length:Int) by omega),cond_false]
 rw [List.take_length,hl,List.take_length] at key
 rw [hl]
 have e1:bs.isEmpty=decide (es.length=0):=by
  rw [← hl,Bool.eq_iff_iff]; simp
 rw [e1]
 exact key
theorem Q6 {rx:Option aJ} {m inv one sq:Nat} (h:Rng rx m inv one sq) {bs es:List Nat} (hb:∀ b∈bs,b<au) (he:∀ e∈es,e<au) (hl:bs.length=es.length) (h64:bs.length≤64) (fl:Bool) (t:Nat) (ht:t≤256) (A:Nat):bg.l3 (rx,es.map limbs,(),0,(),(),(),(t:Int),es.map limbs,(es.length:Int),0,()) ([0,0,0,0],(fl,bs.map (pwT m)),limbs (A*au%m),())=
  (true,7,(rx,es.map limbs,(),0,(),(),(),(t:Int),es.map limbs,(es.length:Int),(es.length:Int),()),([0,0,0,0],(fl,bs.map (pwT m)),limbs (A*fI (fun e=>e/2^t%16) bs es*au%m),()),(),()):=by
 have h0:0<m:=by have:=h.gt; omega
 have key:bg.l3 (rx,es.map limbs,(),0,(),(),(),(t:Int),es.map limbs,(es.length:Int),((0:Nat):Int),()) ([0,0,0,0],(fl,bs.map (pwT m)),limbs (A*fI (fun e=>e/2^t%16) (bs.take 0) (es.take 0)*au%m),())=
  (true,7,(rx,es.map limbs,(),0,(),(),(),(t:Int),es.map limbs,(es.length:Int),(es.length:Int),()),([0,0,0,0],(fl,bs.map (pwT m)),limbs (A*fI (fun e=>e/2^t%16) (bs.take es.length) (es.take es.length)*au%m),()),(),()):=by
  refine bK (g:=fun rq kn ke kr x y=>bg.g3 rq kn ke kr x y) es.length (fun j=>(rx,es.map limbs,(),0,(),(),(),(t:Int),es.map limbs,(es.length:Int),(j:Int),())) (fun j=>([0,0,0,0],(fl,bs.map (pwT m)),limbs (A*fI (fun e=>e/2^t%16) (bs.take j) (es.take j)*au%m),())) _ ?_ ?_ _ 0 (Nat.zero_le _) (by show es.length - 0<((es.length:Int) - ((0:Nat):Int)).toNat+1; omega)
  ·intro j R hj
   have hj2:j<bs.length:=by omega
   have g1:(es.map limbs).getD j [0,0,0,0]=limbs (es.getD j 0):=getD_map hj
   have g2:(bs.map (pwT m)).getD j [[0,0,0,0],[0,0,0,0],[0,0,0,0],[0,0,0,0],[0,0,0,0],[0,0,0,0],[0,0,0,0],[0,0,0,0],[0,0,0,0],[0,0,0,0],[0,0,0,0],[0,0,0,0],[0,0,0,0],[0,0,0,0],[0,0,0,0],[0,0,0,0]]=pwT m (bs.getD j 0):=getD_map hj2
   have hd:=Nat.mod_lt (es.getD j 0/2^t) (show 0<16 by decide)
   have w1:IntKind.i64.wrap ((j:Int)+1)=((j+1:Nat):Int):=i64_in _ (by omega)
   have r1:=xR h (a:=A*fI (fun e=>e/2^t%16) (bs.take j) (es.take j)*au%m) (b:=bs.getD j 0^(es.getD j 0/2^t%16)*au%m) (Nat.lt_trans (Nat.mod_lt _ h0) h.lt) (Nat.mod_lt _ h0) (Nat.mod_mod _ _) rfl
   have p1:A*fI (fun e=>e/2^t%16) (bs.take j) (es.take j)*bs.getD j 0^(es.getD j 0/2^t%16)=A*fI (fun e=>e/2^t%16) (bs.take (j+1)) (es.take (j+1)):=by
    rw [vL _ bs es j hj2 hj,Nat.mul_assoc]
   rw [p1] at r1
   have k1:ilt (((es.getD j 0/2^t%16:Nat)):Int) 16=true:=cK (by omega)
   have k2:ile 0 (((es.getD j 0/2^t%16:Nat)):Int)=true:=bJ (by omega)
   simp only [bg.g3,lt,cK (show (j:Int)<(es.length:Int) by omega),cK (show (j:Int)<(bs.length:Int) by omega),bJ (show (0:Int)≤(j:Int) by omega),cond_true,Int.toNat_natCast,g1,g2,List.length_map,aj,Q9 (he _ (fF hj)) ht,k1,k2,Bool.and_true,M8 hd,r1,w1]
  ·intro R
   simp only [bg.g3,lt,dJ (show ¬ (es.length:Int)<(es.length:Int) by omega),cond_false]
 have e0:A*fI (fun e=>e/2^t%16) (bs.take 0) (es.take 0)=A:=by
  simp [fI]
 rw [e0,List.take_length,← hl,List.take_length] at key
 rw [← hl]
 exact key
theorem sq4 {rx:Option aJ} {m inv one sq:Nat} (h:Rng rx m inv one sq) {bs es:List Nat} (hb:∀ b∈bs,b<au) (he:∀ e∈es,e<au) (hl:bs.length=es.length) (h64:bs.length≤64) {A:Nat}:∃ r1 r2 r3:List Int,bE.r rx (limbs (A*au%m)) (limbs (A*au%m))=(true,r1)∧bE.r rx r1 r1=(true,r2)∧bE.r rx r2 r2=(true,r3)∧bE.r rx r3 r3=(true,limbs (A^16*au%m)):=by
 have h0:0<m:=by have:=h.gt; omega
 have st:∀ B,bE.r rx (limbs (B*au%m)) (limbs (B*au%m))=(true,limbs (B*B*au%m)):=fun B=>xR h (Nat.lt_trans (Nat.mod_lt _ h0) h.lt) (Nat.mod_lt _ h0) (Nat.mod_mod _ _) rfl
 refine ⟨_,_,_,st A,st (A*A),st _,?_⟩
 rw [st,TN]
theorem Q7 {rx:Option aJ} {m inv one sq:Nat} (h:Rng rx m inv one sq) {bs es:List Nat} (hb:∀ b∈bs,b<au) (he:∀ e∈es,e<au) (hl:bs.length=es.length) (h64:bs.length≤64) (fl:Bool) (K:Nat) (hK:4*K≤256) (hz:∀ e∈es,e/2^(4*K)=0):bg.l1 (rx,es.map limbs,(),0,(),(),(),((4*K:Nat):Int),()) ([0,0,0,0],(fl,bs.map (pwT m)),limbs one,())=
  (true,3,(rx,es.map limbs,(),0,(),(),(),0,()),([0,0,0,0],(fl,bs.map (pwT m)),limbs (fI (fun e=>e) bs es*au%m),()),(),()):=by
 have h0:0<m:=by have:=h.gt; omega
 have key:bg.l1 (rx,es.map limbs,(),0,(),(),(),((4*(K - 0):Nat):Int),()) ([0,0,0,0],(fl,bs.map (pwT m)),limbs (fI (fun e=>e/2^(4*(K - 0))) bs es*au%m),())=
  (true,3,(rx,es.map limbs,(),0,(),(),(),0,()),([0,0,0,0],(fl,bs.map (pwT m)),limbs (fI (fun e=>e/2^(4*(K - K))) bs es*au%m),()),(),()):=by
  refine bK (g:=fun rq kn ke kr x y=>bg.g1 rq kn ke kr x y) K (fun j=>(rx,es.map limbs,(),0,(),(),(),((4*(K - j):Nat):Int),())) (fun j=>([0,0,0,0],(fl,bs.map (pwT m)),limbs (fI (fun e=>e/2^(4*(K - j))) bs es*au%m),())) _ ?_ ?_ _ 0 (Nat.zero_le _) (by show K - 0<(((4*(K - 0):Nat):Int) - (0:Int)).toNat+1; omega)
  ·intro j R hj
   have w1:IntKind.i64.wrap (((4*(K - j):Nat):Int) - 4)=((4*(K - (j+1)):Nat):Int):=by rw [i64_in _ (by omega)]; omega
   obtain ⟨r1,r2,r3,q1,q2,q3,q4⟩:=sq4 h hb he hl h64 (A:=fI (fun e=>e/2^(4*(K - j))) bs es)
   have l3:=Q6 h hb he hl h64 fl (4*(K - (j+1))) (by omega) (fI (fun e=>e/2^(4*(K - j))) bs es^16)
   have sh:=yO (4*(K - (j+1))) bs es
   rw [show 4*(K - (j+1))+4=4*(K - j) by omega] at sh
   rw [← sh] at l3
   simp only [bg.g1,lt,cK (show (0:Int)<((4*(K - j):Nat):Int) by omega),cond_true,w1,q1,q2,q3,q4,aj,List.length_map,l3]
  ·intro R
   have:((4*(K - K):Nat):Int)=0:=by omega
   simp only [bg.g1,lt,this,dJ (show ¬ (0:Int)<0 by omega),cond_false]
 have e1:fI (fun e=>e/2^(4*(K - 0))) bs es=1:=zW bs es hz
 have e2:fI (fun e=>e/2^(4*(K - K))) bs es=fI (fun e=>e) bs es:=yP bs es fun e _=>by rw [Nat.sub_self,Nat.mul_zero,Nat.pow_zero,Nat.div_one]
 rw [e1,e2,Nat.one_mul,← h.one_eq] at key
 exact key
theorem O6 {rx:Option aJ} {m inv one sq:Nat} (h:Rng rx m inv one sq) {bs es:List Nat} (hb:∀ b∈bs,b<au) (he:∀ e∈es,e<au) (hl:bs.length=es.length) (h64:bs.length≤64):bg.r rx (bs.map limbs) (es.map limbs)=(true,limbs (fI (fun e=>e) bs es%m),0):=by
 obtain ⟨e1,e2,e3,e4⟩:=KZ h
 have h0:0<m:=by have:=h.gt; omega
 have n1:dM.r 1=(true,limbs 1):=by rw [si _ (by decide)]; rfl
 have hL:=Qt he
 have c1:((bs.length:Int) != (es.length:Int))=false:=by simp [hl]
 have w1:IntKind.i64.wrap ((oO es:Int)+4)=((oO es+4:Nat):Int):=i64_in _ (by omega)
 have w2:IntKind.i64.wrap (((oO es+4:Nat):Int) - 1)=((oO es+3:Nat):Int):=by rw [i64_in _ (by omega)]; omega
 have w3:((oO es+3:Nat):Int).tdiv 4=(((oO es+3)/4:Nat):Int):=wB _ 4
 have w4:IntKind.i64.wrap (((oO es+3)/4:Nat):Int)=(((oO es+3)/4:Nat):Int):=oW _ (by omega)
 have w5:IntKind.i64.wrap ((((oO es+3)/4:Nat):Int)*4)=((4*((oO es+3)/4):Nat):Int):=by rw [i64_in _ (by omega)]; omega
 have hz:∀ e∈es,e/2^(4*((oO es+3)/4))=0:=by
  intro e h1
  apply Nat.div_eq_of_lt
  have h2:=(F7 es 0).2 e h1
  exact Nat.lt_of_lt_of_le (oh e) (Nat.pow_le_pow_right (by decide) (by unfold oO; omega))
 have l1:=Q7 h hb he hl h64 bs.isEmpty ((oO es+3)/4) (by omega) hz
 have r1:=FJ h (a:=fI (fun e=>e) bs es*au%m) (b:=1) (x:=fI (fun e=>e) bs es) (Nat.lt_trans (Nat.mod_lt _ h0) h.lt) h.gt (Nat.mod_mod _ _)
 rw [Nat.mul_one] at r1
 simp only [bg.r,bg.g,lt,wX h,aj,Bool.not_true,cond_false,c1,List.length_map,dJ (show ¬ (64:Int)<(bs.length:Int) by omega),Q8 h hb he hl h64,e2,e4,w1,w2,w3,w4,w5,l1,n1,r1]
theorem HV {rx:Option aJ} {m inv one sq:Nat} (h:Rng rx m inv one sq) {a e:Nat} (ha:a<au) (he:e<au):eH.r rx (limbs a) (limbs e)=(true,limbs (a^e%m)):=by
 have p:=O6 h (bs:= [a]) (es:= [e]) (by simpa using ha) (by simpa using he) rfl (by simp)
 have e1:fI (fun e=>e) [a] [e]=a^e:=by simp [fI]
 rw [e1] at p
 simp only [List.map_cons,List.map_nil] at p
 simp only [eH.r,eH.g,lt,p,aj]
end Go.Own
set_option linter.unusedVariables false
set_option linter.unusedSimpArgs false
namespace Go.Own
open Go.IntWalk
def y8:Nat→Nat→Nat→Nat→Nat
 |0,_,_,m=>1%m
 |n+1,a,e,m=>bif Nat.beq e 0 then 1%m else bif Nat.beq (e%2) 1 then a*y8 n (a*a%m) (e/2) m%m else y8 n (a*a%m) (e/2) m
theorem qI:∀ (n a e m:Nat),e<2^n→y8 n a e m=a^e%m
 |0,a,e,m,h=>by
  have:e=0:=by simpa using h
  subst this; rfl
 |n+1,a,e,m,h=>by
  have ih:=qI n (a*a%m) (e/2) m (by rw [Nat.pow_succ] at h; omega)
  have sq:(a*a%m)^(e/2)%m=a^(2*(e/2))%m:=by rw [← Nat.pow_mod,Nat.pow_mul,Nat.pow_two]
  rw [sq] at ih
  show (bif Nat.beq e 0 then 1%m else bif Nat.beq (e%2) 1 then a*y8 n (a*a%m) (e/2) m%m else y8 n (a*a%m) (e/2) m)=_
  rw [ih]
  rcases Nat.eq_zero_or_pos e with h0|h0
  ·subst h0; rfl
  ·have b0:Nat.beq e 0=false:=by cases e with|zero=>omega|succ e=>rfl
   rw [b0,cond_false]
   rcases Nat.mod_two_eq_zero_or_one e with h1|h1
   ·rw [h1,show Nat.beq 0 1=false from rfl,cond_false,show 2*(e/2)=e by omega]
   ·rw [h1,show Nat.beq 1 1=true from rfl,cond_true,Nat.mul_mod_mod,← Nat.pow_succ',show (2*(e/2)).succ=e by omega]
structure EI (n f w:Nat):Prop where
 odd:n%2=1
 gt:1<n
 lt:n<au
 f0:0<f
 flt:f<au
 w2:2≤w
 w16:w<65536
 dv:(n - 1)%f=0
 sq:n<f*f
 one:(w^((n - 1)/f)%n)^f%n=1
 gcd:Nat.gcd ((w^((n - 1)/f)%n+(n - 1))%n) n=1
theorem SY {n f w:Nat} (h:EI n f w):nV.r (limbs n) (limbs f) (w:Int)=(true,true):=by
 have hw2:=h.w2; have hw16:=h.w16; have hn:=h.lt; have hf:=h.flt; have hf0:=h.f0; have hg:=h.gt
 obtain ⟨rx,inv,hR,hN⟩:=Pj n hn h.odd hg
 have n1:dM.r 1=(true,limbs 1):=by rw [si _ (by decide)]; rfl
 have nw:dM.r (w:Int)=(true,limbs w):=by rw [si _ (by omega)]; rfl
 have e0:((0:Int) != 0)=false:=rfl
 have s1:jX.r (limbs n) (limbs 1)=(true,limbs (n - 1),0):=by
  have e:(n+au - 1)%au=n - 1:=by unfold au at *; omega
  rw [Bu n 1 hn (by decide),if_neg (by omega),e]
 have hff:f*f/au<au:=by rw [Nat.div_lt_iff_lt_mul (by decide)]; exact Nat.mul_lt_mul_of_lt_of_lt hf hf
 have hwW:w<au:=Nat.lt_trans hw16 (by decide)
 have hd:(n - 1)/f<au:=Nat.lt_of_le_of_lt (Nat.div_le_self _ _) (by omega)
 have hA:w^((n - 1)/f)%n<n:=Nat.mod_lt _ (by omega)
 have sub:=Bt (w^((n - 1)/f)%n) 1 n (Nat.lt_trans hA hn) (by decide) hn (by omega)
 rw [Nat.mod_mod,Nat.mod_eq_of_lt hg] at sub
 have hB:(w^((n - 1)/f)%n+(n - 1))%n<n:=Nat.mod_lt _ (by omega)
 have tail:∀ {X:Type} (k:Bool→Bool×X),True:=fun _=>trivial
 simp only [nV.r,nV.g,lt,hN,aj,e0,cond_false,dJ (show ¬ (w:Int)<2 by omega),lQ (show ¬ (65536:Int)≤(w:Int) by omega),eqZ hf,decide_eq_false (show ¬ f=0 by omega),n1,s1,PD (n - 1) f (by omega) hf,if_neg (show ¬ f=0 by omega),RL f f hf hf,h.dv,eqZ (show 0<au by decide),decide_true,Bool.not_true,eqZ hff,nw,HV hR hwW hd,HV hR (Nat.lt_trans hA hn) hf,h.one,eqL (show 1<au by decide) (show 1<au by decide),sub,Um _ n (Nat.lt_trans hB hn) hn,h.gcd,yE (f*f%au) n (Nat.mod_lt _ (by decide)) hn]
 by_cases hz:f*f/au=0
 ·have hlt:f*f<au:=by
   rcases Nat.lt_or_ge (f*f) au with h1|h1
   ·exact h1
   ·have:=(Nat.one_le_div_iff (show 0<au by decide)).2 h1; omega
  have hc:ile (uz (f*f%au) n) 0=false:=by
   rw [Nat.mod_eq_of_lt hlt]
   unfold uz
   have:=h.sq
   rw [if_neg (by omega),if_pos this]
   rfl
  simp only [hz,decide_true,cond_true,hc,cond_false]
 ·simp only [hz,decide_false,cond_false]
def gq (p:Nat×Nat):List Int×(Int×Unit):=(limbs p.1,((p.2:Int),()))
theorem Ao (p:Nat×Nat):(gq p).1=limbs p.1:=rfl
theorem Gc (p:Nat×Nat):(gq p).2.1=(p.2:Int):=rfl
theorem KM {ps:List (Nat×Nat)} (h1:1≤ps.length) (h8:ps.length≤8) (hs:(ps.getD 0 (0,0)).1<9223372036854775808) (hp:oH.r ((ps.getD 0 (0,0)).1:Int)=(true,true)) (h0:(ps.getD 0 (0,0)).2=0)
  (hstep:∀ i,i+1<ps.length→EI (ps.getD (i+1) (0,0)).1 (ps.getD i (0,0)).1 (ps.getD (i+1) (0,0)).2):fV.r (ps.map gq)=(true,0):=by
 have key:fV.l0 (ps.map gq,0,((0+1:Nat):Int),()) ()=(true,1,(ps.map gq,0,((ps.length - 1+1:Nat):Int),()),(),(0,()),()):=by
  refine bK (g:=fun rq kn ke kr x y=>fV.g0 rq kn ke kr x y) (ps.length - 1) (fun j=>(ps.map gq,0,((j+1:Nat):Int),())) (fun j=>()) _ ?_ ?_ _ 0 (Nat.zero_le _) (by show ps.length - 1 - 0<(((ps.map gq).length:Int) - ((0+1:Nat):Int)).toNat+1; rw [List.length_map]; omega)
  ·intro j R hj
   have a1:IntKind.i64.wrap (((j+1:Nat):Int) - 1)=(j:Int):=by rw [i64_in _ (by omega)]; omega
   have a2:IntKind.i64.wrap (((j+1:Nat):Int)+1)=((j+1+1:Nat):Int):=i64_in _ (by omega)
   have g1:(ps.map gq).getD (j+1) ([0,0,0,0],(0,()))=gq (ps.getD (j+1) (0,0)):=getD_map (by omega)
   have g2:(ps.map gq).getD j ([0,0,0,0],(0,()))=gq (ps.getD j (0,0)):=getD_map (by omega)
   have st:=SY (hstep j (by omega))
   have i1:ilt ((j+1:Nat):Int) (ps.length:Int)=true:=cK (by omega)
   have i2:ilt (j:Int) (ps.length:Int)=true:=cK (by omega)
   have i3:ile 0 ((j+1:Nat):Int)=true:=bJ (by omega)
   have i4:ile 0 (j:Int)=true:=bJ (by omega)
   simp only [fV.g0,lt,List.length_map,i1,i2,i3,i4,cond_true,Bool.and_true,aj,a1,Int.toNat_natCast,g1,g2,Ao,Gc,st,Bool.not_true,cond_false,a2]
  ·intro R
   have i1:ilt ((ps.length - 1+1:Nat):Int) (ps.length:Int)=false:=dJ (by omega)
   simp only [fV.g0,lt,List.length_map,i1,cond_false]
 have g0:(ps.map gq).getD 0 ([0,0,0,0],(0,()))=gq (ps.getD 0 (0,0)):=getD_map (by omega)
 have hsW:(ps.getD 0 (0,0)).1<au:=Nat.lt_trans hs (by decide)
 have e0:(((0:Nat):Int) != 0)=false:=rfl
 have k2:fV.l0 (ps.map gq,0,1,()) ()=_:=key
 simp only [fV.r,fV.g,lt,List.length_map,dJ (show ¬ (ps.length:Int)<1 by omega),dJ (show ¬ (8:Int)<(ps.length:Int) by omega),cK (show (0:Int)<(ps.length:Int) by omega),cond_false,aj,g0,Ao,Gc,Ph _ hsW,if_pos hs,Bool.not_true,hp,h0,e0]
 simp only [k2,aj]
 rfl
end Go.Own
