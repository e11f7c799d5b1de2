/- What is proved: what the printed functions answer, in plain numbers and lists. Conditions: those that each theorem names. -/
import Derived.Test.YtnighkkdmgmcnaaGreatPure1
set_option linter.unusedVariables false
set_option linter.unusedSimpArgs false
set_option linter.unusedVariables false
set_option linter.unusedSimpArgs false
namespace Go.Own
open Go.IntWalk
section
variable {gv:dY} {p q g:Nat}
theorem J2 (h:GF gv p q g) (a:Nat):g^(a%q)%p=g^a%p:=by
 have e:a=q*(a/q)+a%q:=(Nat.div_add_mod a q).symm
 have h1:g^(q*(a/q))%p=1:=by
  rw [Nat.pow_mul,Nat.pow_mod,h.ord,Nat.one_pow]; exact Nat.mod_eq_of_lt h.p1
 conv=>rhs; rw [e,Nat.pow_add,Nat.mul_mod,h1,Nat.one_mul,Nat.mod_mod]
theorem FR (h:GF gv p q g) {a b:Nat} (e:a%q=b%q):g^a%p=g^b%p:=by rw [← J2 h a,e,J2 h b]
theorem NT (h:GF gv p q g) (a:Nat):InG p q (g^a%p)=true:=by
 have hp0:0<p:=by have:=h.p1; omega
 have e:(g^a%p)^q%p=1:=by
  rw [← Nat.pow_mod,← Nat.pow_mul,Nat.mul_comm,Nat.pow_mul,Nat.pow_mod,h.ord,Nat.one_pow]; exact Nat.mod_eq_of_lt h.p1
 have h0:¬ g^a%p=0:=fun hz=>by
  rw [hz,Nat.zero_pow (by have:=h.q1; omega),Nat.zero_mod] at e; cases e
 unfold InG
 rw [decide_eq_true h0,decide_eq_true (Nat.mod_lt _ hp0),decide_eq_true e]; rfl
theorem SB (h:GF gv p q g) (f:List Nat) (n:Nat):∀ a∈toN p g f n,InG p q a=true:=fun a ha=>by
 unfold toN at ha
 obtain ⟨k,_,rfl⟩:=List.mem_map.1 ha
 exact NT h _
def xS (pts:List Nat) (y:Nat→Nat):List Td:=(List.range pts.length).map fun k=>(((pts.getD k 0:Nat):Int),(limbs (y k),()))
def oW (p q g c0:Nat) (F:Nat→List Nat) (y:List Nat) (n:Nat):List Nat:=(List.range n).map fun j=>(c0^((F 0).getD j 0)%p)*(g^(vz q ((List.range n).map fun i=>(F i).getD j 0) y n)%p)%p
def ysF (y:Nat→Nat) (m:Nat):List Nat:=0::(List.range m).map y
theorem Ms (y:Nat→Nat) (m:Nat):ysF y (m+1)=ysF y m++ [y m]:=by unfold ysF; rw [List.range_succ,List.map_append]; rfl
theorem Rk (gx:Option dY) (c0:List Int) {pts:List Nat} (hp:∀ p∈pts,1≤p) (hn:pts.length≤1000) (y:Nat→Nat):
  dO.l0 (gx,(),(),0,(),(),xS pts y,(pts.length:Int),0,()) (c0,(false,[0]),(false,[[0,0,0,0]]),())=(true,1,(gx,(),(),0,(),(),xS pts y,(pts.length:Int),(pts.length:Int),()),(c0,(false,ints (0::pts)),(false,(ysF y pts.length).map limbs),()),((),0,()),()):=by
 have hsl:(xS pts y).length=pts.length:=by unfold xS; simp
 have key:dO.l0 (gx,(),(),0,(),(),xS pts y,(pts.length:Int),((0:Nat):Int),()) (c0,(false,ints (0::pts.take 0)),(false,(ysF y 0).map limbs),())=(true,1,(gx,(),(),0,(),(),xS pts y,(pts.length:Int),(pts.length:Int),()),(c0,(false,ints (0::pts.take pts.length)),(false,(ysF y pts.length).map limbs),()),((),0,()),()):=by
  refine bJ (g:=fun rq kn ke kr x y=>dO.g0 rq kn ke kr x y) pts.length (fun j=>(gx,(),(),0,(),(),xS pts y,(pts.length:Int),(j:Int),())) (fun j=>(c0,(false,ints (0::pts.take j)),(false,(ysF y j).map limbs),())) _ ?_ ?_ _ 0 (Nat.zero_le _) (by show pts.length - 0<((pts.length:Int) - ((0:Nat):Int)).toNat+1; omega)
  ·intro j R hj
   have g1:(xS pts y).getD j (0,([0,0,0,0],()))=(((pts.getD j 0:Nat):Int),(limbs (y j),())):=iZ hj
   have hb:=hp _ (fu hj)
   have l1:(ints (0::pts.take j)).length=j+1:=by simp [ints]; omega
   have l2:((ysF y j).map limbs).length=j+1:=by simp [ysF]
   have c1:nle ((2*(j+1+1)+512)*8) 70368744177664=true:=qm (by omega)
   have c2:nle ((2*(j+1+1)+512)*32) 70368744177664=true:=qm (by omega)
   have s1:ints (0::pts.take j)++ [((pts.getD j 0:Nat):Int)]=ints (0::pts.take (j+1)):=by
    have:=tO (f:=fun (p:Nat)=>(p:Int)) (v:=((pts.getD j 0:Nat):Int)) hj rfl
    show (0:Int)::((pts.take j).map (fun (p:Nat)=>(p:Int))++ [((pts.getD j 0:Nat):Int)])=_
    rw [this]; rfl
   have s2:(ysF y j).map limbs++ [limbs (y j)]=(ysF y (j+1)).map limbs:=by rw [Ms,List.map_append]; rfl
   have w1:IntKind.i64.wrap ((j:Int)+1)=((j+1:Nat):Int):=i64_in _ (by omega)
   simp only [dO.g0,Go.Own.lt,hsl,bL (show (j:Int)<(pts.length:Int) by omega),cond_true,bY (show (0:Int)≤(j:Int) by omega),Bool.and_self,Int.toNat_natCast,g1,aj,bK (show ¬ ((pts.getD j 0:Nat):Int)<1 by omega),cond_false,Bool.and_false,s1,s2,l1,l2,c1,c2,w1]
  ·intro R
   simp only [dO.g0,Go.Own.lt,bK (show ¬ (pts.length:Int)<(pts.length:Int) by omega),cond_false]
 rw [List.take_length] at key
 exact key
theorem Rj (h:GF gv p q g) {c0:Nat} (hc:c0<au) {F:Nat→List Nat} {n:Nat} (hn1:1≤n) (hn:n≤8) (hFq:∀ i,i<n→∀ j,(F i).getD j 0<q) {y:List Nat} (hy:∀ a∈y,a<au) (hl:y.length=n) (b:Bool):
  dO.l1 (some gv,(),(),0,(),(),jF F n,(n:Int),0,()) (limbs c0,(b,y.map limbs),(true,[]),())=(true,3,(some gv,(),(),0,(),(),jF F n,(n:Int),(n:Int),()),(limbs c0,(b,y.map limbs),(decide (n=0),(oW p q g c0 F y n).map limbs),()),((),0,()),()):=by
 have hwl:(jF F n).length=n:=by unfold jF; simp
 have hp0:0<p:=by have:=h.p1; omega
 have hq0:0<q:=by have:=h.q1; omega
 have key:dO.l1 (some gv,(),(),0,(),(),jF F n,(n:Int),((0:Nat):Int),()) (limbs c0,(b,y.map limbs),(decide (0=0),((oW p q g c0 F y n).take 0).map limbs),())=(true,3,(some gv,(),(),0,(),(),jF F n,(n:Int),(n:Int),()),(limbs c0,(b,y.map limbs),(decide (n=0),((oW p q g c0 F y n).take n).map limbs),()),((),0,()),()):=by
  have hfl:(oW p q g c0 F y n).length=n:=by unfold oW; simp
  refine bJ (g:=fun rq kn ke kr x y=>dO.g1 rq kn ke kr x y) n (fun j=>(some gv,(),(),0,(),(),jF F n,(n:Int),(j:Int),())) (fun j=>(limbs c0,(b,y.map limbs),(decide (j=0),((oW p q g c0 F y n).take j).map limbs),())) _ ?_ ?_ _ 0 (Nat.zero_le _) (by show n - 0<((n:Int) - ((0:Nat):Int)).toNat+1; omega)
  ·intro j R hj
   obtain ⟨A,hA⟩:∃ A,A=(List.range n).map fun i=>(F i).getD j 0:=⟨_,rfl⟩
   have hAl:A.length=n:=by rw [hA]; simp
   have g1:(jF F n).getD j []=A.map limbs:=by
    rw [hA,List.map_map]; exact iZ hj
   have g2:(A.map limbs).getD 0 [0,0,0,0]=limbs ((F 0).getD j 0):=by
    have:A.getD 0 0=(F 0).getD j 0:=by rw [hA]; exact iZ (by omega)
    rw [← this]; exact getD_map (by omega)
   have hAW:∀ x∈A,x<au:=fun x hx=>by
    rw [hA] at hx
    obtain ⟨i,hi,rfl⟩:=List.mem_map.1 hx
    exact Nat.lt_trans (hFq i (List.mem_range.1 hi) j) h.qW
   have D:=Uu h.fld hAW hy (by omega) (by omega)
   rw [hAl] at D
   have E1:=Pd h hc (Nat.lt_trans (hFq 0 (by omega) j) h.qW)
   have E2:=KJ h (Nat.lt_trans (Kz hq0 A y n) h.qW)
   have E3:=TA h (Nat.lt_trans (Nat.mod_lt (c0^(F 0).getD j 0) hp0) h.pW) (Nat.lt_trans (Nat.mod_lt (g^vz q A y n) hp0) h.pW)
   have hv:(oW p q g c0 F y n).getD j 0=(c0^((F 0).getD j 0)%p)*(g^(vz q A y n)%p)%p:=by rw [hA]; exact iZ hj
   have s1:((oW p q g c0 F y n).take j).map limbs++ [limbs ((c0^((F 0).getD j 0)%p)*(g^(vz q A y n)%p)%p)]=((oW p q g c0 F y n).take (j+1)).map limbs:=by
    rw [← hv]; exact ji (f:=limbs) (by omega)
   have c1:nle ((2*(((oW p q g c0 F y n).take j).length+1)+512)*32) 70368744177664=true:=qm (by rw [List.length_take]; omega)
   have d1:decide (j+1=0)=false:=decide_eq_false (by omega)
   have n00:((0:Int) != 0)=false:=rfl
   have w1:IntKind.i64.wrap ((j:Int)+1)=((j+1:Nat):Int):=i64_in _ (by omega)
   simp only [dO.g1,Go.Own.lt,hwl,bL (show (j:Int)<(n:Int) by omega),cond_true,bY (show (0:Int)≤(j:Int) by omega),Bool.and_self,Int.toNat_natCast,g1,aj,D,n00,cond_false,g2,List.length_map,hAl,bL (show (0:Int)<(n:Int) by omega),E1,E2,E3,Bool.and_false,s1,c1,d1,w1]
  ·intro R
   simp only [dO.g1,Go.Own.lt,bK (show ¬ (n:Int)<(n:Int) by omega),cond_false]
 have hfl:(oW p q g c0 F y n).length=n:=by unfold oW; simp
 have e:(oW p q g c0 F y n).take n=oW p q g c0 F y n:=List.take_of_length_le (by omega)
 rw [e] at key
 exact key
theorem TD (h:GF gv p q g) [NeZero q] (hs:uM q) {c0:Nat} (hc:c0<au) (hin:InG p q c0=true) {pts:List Nat} (hp:∀ p∈pts,1≤p∧p≤7) (hd:pts.Nodup) (hn:pts.length≤6) {y:Nat→Nat} (hy:∀ k,y k<au):
  ∃ F,Units q (0::pts) F∧dO.r (some gv) (limbs c0) (xS pts y)=(true,(oW p q g c0 F (ysF y pts.length) (pts.length+1)).map limbs,0):=by
 have hp7:∀ a∈(0::pts),a≤7:=fun a ha=>by
  rcases List.mem_cons.1 ha with rfl|ha
  ·omega
  ·exact (hp a ha).2
 have hnd:(0::pts).Nodup:=List.nodup_cons.2 ⟨fun h0=>by have:=hp 0 h0; omega,hd⟩
 obtain ⟨F,hU,hW⟩:=Mg h.fld hs hp7 hnd (by show pts.length+1≤8; omega)
 refine ⟨F,hU,?_⟩
 have hsl:(xS pts y).length=pts.length:=by unfold xS; simp
 have hW2:bH.r (some gv) (ints (0::pts))=(true,jF F (pts.length+1),0):=hW
 have hwl:(jF F (pts.length+1)).length=pts.length+1:=by unfold jF; simp
 have lt_of:∀ {l:List Nat} {k:Nat},(∀ a∈l,a<q)→l.getD k 0<q:=by
  intro l k hl
  rcases Nat.lt_or_ge k l.length with h5|h5
  ·exact hl _ (fu h5)
  ·rw [iW h5]; have:=h.q1; omega
 have L1:=Rj h hc (F:=F) (n:=pts.length+1) (by omega) (by omega) (fun i hi j=>lt_of (hU.lt i hi)) (y:=ysF y pts.length) (fun a ha=>by
  unfold ysF at ha
  rcases List.mem_cons.1 ha with rfl|ha
  ·decide
  ·obtain ⟨k,_,rfl⟩:=List.mem_map.1 ha; exact hy k) (by unfold ysF; simp) false
 have I:=KL h hc
 rw [hin] at I
 have n00:((0:Int) != 0)=false:=rfl
 simp only [dO.r,dO.g,Go.Own.lt,hsl,oC (show ¬ (7:Int)≤(pts.length:Int) by omega),cond_false,I,aj,Bool.not_true,Rk (some gv) (limbs c0) (fun a ha=>(hp a ha).1) (show pts.length≤1000 by omega) y,show Nat.beq 1 0=false from rfl,hW2,n00,hwl,L1,show Nat.beq 3 0=false from rfl]
end
end Go.Own
set_option linter.unusedVariables false
set_option linter.unusedSimpArgs false
namespace Go.Own
open Go.IntWalk
theorem N9 {q:Nat} [NeZero q] {F:Nat→List Nat} {n j:Nat} (b:List Nat):∀ m,m≤n→fz q (vz q ((List.range n).map fun i=>(F i).getD j 0) b m)=Pol.cf (zi q F b m) j
 |0,_=>by rw [show zi q F b 0= [] from rfl,Pol.jC]; exact lU
 |m+1,hm=>by
  have g:((List.range n).map fun i=>(F i).getD j 0).getD m 0=(F m).getD j 0:=iZ (by omega)
  show fz q ((vz q ((List.range n).map fun i=>(F i).getD j 0) b m+((List.range n).map fun i=>(F i).getD j 0).getD m 0*b.getD m 0%q)%q)=Pol.cf (Pol.kX (zi q F b m) (Pol.qH (fz q (b.getD m 0)) (toF q (F m)))) j
  rw [mW,sS,N9 (q:=q) (F:=F) (n:=n) (j:=j) b m (by omega),mW,wo,g,Pol.iC,Pol.lG,kI]; grind
theorem Dm {q:Nat} [NeZero q] {F:Nat→List Nat} (s:Nat) (ys:List Nat) (j:Nat):∀ m,Pol.cf (zi q F (s::ys) (m+1)) j=fz q s*fz q ((F 0).getD j 0)+Pol.cf (zi q F (0::ys) (m+1)) j
 |0=>by
  show Pol.cf (Pol.kX [] (Pol.qH (fz q s) (toF q (F 0)))) j=_+Pol.cf (Pol.kX [] (Pol.qH (fz q 0) (toF q (F 0)))) j
  rw [Pol.iC,Pol.iC,Pol.lG,Pol.lG,kI,lU]; grind
 |m+1=>by
  have ih:=Dm (q:=q) (F:=F) s ys j m
  show Pol.cf (Pol.kX (zi q F (s::ys) (m+1)) (Pol.qH (fz q ((s::ys).getD (m+1) 0)) (toF q (F (m+1))))) j=_+Pol.cf (Pol.kX (zi q F (0::ys) (m+1)) (Pol.qH (fz q (((0:Nat)::ys).getD (m+1) 0)) (toF q (F (m+1))))) j
  rw [Pol.iC,Pol.iC,ih,List.getD_cons_succ,List.getD_cons_succ]; grind
section
variable {gv:dY} {p q g:Nat}
theorem JL (h:GF gv p q g) [NeZero q] (hs:uM q) {f:List Nat} (hf:∀ a∈f,a<au) {pts:List Nat} (hp:∀ p∈pts,1≤p∧p≤7) (hd:pts.Nodup) (hn:pts.length≤6) (hfl:f.length≤pts.length+1):
  dO.r (some gv) (limbs (g^(f.getD 0 0)%p)) (xS pts fun k=>evN q f (pts.getD k 0))=(true,(toN p g f (pts.length+1)).map limbs,0):=by
 have hp0:0<p:=by have:=h.p1; omega
 have hq0:0<q:=by have:=h.q1; omega
 obtain ⟨F,hU,e⟩:=TD h hs (Nat.lt_trans (Nat.mod_lt (g^(f.getD 0 0)) hp0) h.pW) (NT h _) hp hd hn (y:=fun k=>evN q f (pts.getD k 0)) (fun k=>Nat.lt_trans (Bb hq0 f _) h.qW)
 rw [e]
 obtain ⟨n,hnn⟩:∃ n,n=pts.length+1:=⟨_,rfl⟩
 have hpl:(0::pts).length=n:=hnn.symm
 have hp7:∀ a∈(0::pts),a≤7:=fun a ha=>by
  rcases List.mem_cons.1 ha with rfl|ha
  ·omega
  ·exact (hp a ha).2
 have hnd:(0::pts).Nodup:=List.nodup_cons.2 ⟨fun h0=>by have:=hp 0 h0; omega,hd⟩
 have hapart:=Dv h.q1 h.qW hs hp7 hnd
 obtain ⟨ys,hys⟩:∃ ys,ys=(List.range pts.length).map fun k=>evN q f (pts.getD k 0):=⟨_,rfl⟩
 have hysF:ysF (fun k=>evN q f (pts.getD k 0)) pts.length=0::ys:=by rw [hys]; rfl
 have hPE:Pol.PE (zi q F (f.getD 0 0::ys) n) (toF q f):=E9 hapart (by
   rw [hpl]
   have:=GZ (q:=q) (ys:=f.getD 0 0::ys) n (fun i hi=>hU.len i (by rw [hpl]; exact hi))
   rw [hpl] at this; exact this) (by unfold toF; rw [List.length_map,hpl]; omega) (fun k hk=>by
  rw [hpl] at hk
  rw [Kv hU _ (by rw [hpl]; exact hk) n (by rw [hpl]; exact Nat.le_refl _),if_pos hk,← wu]
  cases k with
  |zero=>
   rw [List.getD_cons_zero,List.getD_cons_zero,wu]
   cases f with
   |nil=>rfl
   |cons a f=>
    show fz q a=Pol.ev (toF q f) (fz q 0)*fz q 0+fz q a
    rw [lU]; grind
  |succ k=>
   rw [List.getD_cons_succ,List.getD_cons_succ,hys]
   rw [iZ (show k<pts.length by omega)])
 congr 2
 rw [hysF,← hnn]
 unfold oW toN
 congr 1
 apply List.map_congr_left
 intro j hj
 obtain ⟨w,hw⟩:∃ w,w=(F 0).getD j 0:=⟨_,rfl⟩
 obtain ⟨d,hdd⟩:∃ d,d=vz q ((List.range n).map fun i=>(F i).getD j 0) (0::ys) n:=⟨_,rfl⟩
 rw [← hw,← hdd]
 have e1:(g^f.getD 0 0%p)^w%p*(g^d%p)%p=g^(f.getD 0 0*w+d)%p:=by
  rw [← Nat.pow_mod,← Nat.pow_mul,← Nat.mul_mod,← Nat.pow_add]
 rw [e1]
 apply FR h
 apply Oh
 have h1:=hPE j
 have h2:=N9 (q:=q) (F:=F) (j:=j) (0::ys) n (Nat.le_refl n)
 have h3:=Dm (q:=q) (F:=F) (f.getD 0 0) ys j pts.length
 rw [← hnn] at h3
 rw [← hdd] at h2
 rw [sS,wo,h2,hw,← h3,h1,kI]
end
theorem QB:∃ gv,GF gv fQ jB dm∧kH.r (kV.map gB,(limbs dm,()))=(true,1,(none,0),(0,gv)):=by
 obtain ⟨gv,h,e⟩:=Jd
 have h1:Nat.blt jB (2^256)=true:=by kernel_rfl
 have h2:zf 256 dm jB fQ=1:=by kernel_rfl
 exact ⟨gv,⟨h,by decide,by decide,by decide,by decide,by decide,(qL 256 _ _ _ (ni h1)).symm.trans h2⟩,e⟩
theorem QA:∃ gv,GF gv oO lD iP∧kH.r (kU.map gB,(limbs iP,()))=(true,1,(none,0),(0,gv)):=by
 obtain ⟨gv,h,e⟩:=Jc
 have h1:Nat.blt lD (2^256)=true:=by kernel_rfl
 have h2:zf 256 iP lD oO=1:=by kernel_rfl
 exact ⟨gv,⟨h,by decide,by decide,by decide,by decide,by decide,(qL 256 _ _ _ (ni h1)).symm.trans h2⟩,e⟩
end Go.Own
set_option linter.unusedVariables false
set_option linter.unusedSimpArgs false
namespace Go.Own
open Go.IntWalk
theorem Pb:ku.r (kV.map gB,(limbs dm,()))=(true,limbs fQ):=by kernel_rfl
theorem O8:ku.r (kU.map gB,(limbs iP,()))=(true,limbs oO):=by kernel_rfl
theorem Pg:fK.r (kV.map gB,(limbs dm,()))=(true,((fQ:Int),((jB:Int),((dm:Int),())))):=by
 have l1:=za fQ (by decide)
 have l2:=za jB (by decide)
 have l3:=za dm (by decide)
 rw [if_pos (by decide)] at l1 l2 l3
 simp only [fK.r,fK.g,Go.Own.lt,Pb,O6,l1,l2,l3,aj]
theorem Pf:fK.r (kU.map gB,(limbs iP,()))=(true,((oO:Int),((lD:Int),((iP:Int),())))):=by
 have l1:=za oO (by decide)
 have l2:=za lD (by decide)
 have l3:=za iP (by decide)
 rw [if_pos (by decide)] at l1 l2 l3
 simp only [fK.r,fK.g,Go.Own.lt,O8,O5,l1,l2,l3,aj]
theorem Cn (which:Int):∃ gv,(GF gv fQ jB dm∧cO.r which=(true,some gv,((fQ:Int),((jB:Int),((dm:Int),()))),true))∨(GF gv oO lD iP∧cO.r which=(true,some gv,((oO:Int),((lD:Int),((iP:Int),()))),true)∧(fq .i64 (· &&& ·) which (1:Int)== 1)=true):=by
 obtain ⟨g1,h1,e1⟩:=QB
 obtain ⟨g2,h2,e2⟩:=QA
 have z:((0:Int)== 0)=true:=rfl
 obtain ⟨b,hb⟩:∃ b,b=(fq .i64 (· &&& ·) which (1:Int)== 1):=⟨_,rfl⟩
 cases b with
 |true=>
  refine ⟨g2,.inr ⟨h2,?_,hb.symm⟩⟩
  simp only [cO.r,cO.g,gG.r,gG.g,Go.Own.lt,← hb,cond_true,jd.gD,Ra,aj,e2,show Nat.beq 1 0=false from rfl,cond_false,Pf,z]
 |false=>
  refine ⟨g1,.inl ⟨h1,?_⟩⟩
  simp only [cO.r,cO.g,gG.r,gG.g,Go.Own.lt,← hb,cond_false,je.gD,Rh,aj,e1,show Nat.beq 1 0=false from rfl,Pg,z]
theorem vU (n:Nat) (h:n<9223372036854775808):bN.r (n:Int)=(true,limbs n):=by
 have:=Pv (n:Int) (by omega)
 simp only [bN.r,bN.g,Go.Own.lt,this,aj,Int.toNat_natCast]
theorem PX:Nat.beq (dm^11%fQ) (atN fQ (toN fQ dm [5,2] 2) 3)=true:=by kernel_rfl
theorem PW:Nat.beq (dm^12%fQ) (atN fQ (toN fQ dm [5,2] 2) 3)=false:=by kernel_rfl
theorem RX:Nat.beq (atN fQ (toN fQ dm [5,2] 2) 0) (dm^5%fQ)=true:=by kernel_rfl
theorem Ud:Nat.beq (evN jB [5,2] 3) 11=true:=by kernel_rfl
theorem Me:aJ.r=(true,true):=by
 obtain ⟨gv,hc⟩:=Cn 0
 have hb0:(fq .i64 (· &&& ·) (0:Int) (1:Int)== 1)=false:=by kernel_rfl
 rcases hc with ⟨h,hs⟩|⟨_,_,hb⟩
 case inr=>rw [hb0] at hb; cases hb
 have hne:NeZero jB:=⟨by decide⟩
 have o5:bN.r 5=(true,limbs 5):=vU 5 (by decide)
 have o2:bN.r 2=(true,limbs 2):=vU 2 (by decide)
 have o11:bN.r 11=(true,limbs 11):=vU 11 (by decide)
 have o12:bN.r 12=(true,limbs 12):=vU 12 (by decide)
 have hf:∀ a∈ [5,2],a<au:=by decide
 obtain ⟨C,hC⟩:∃ C,C=toN fQ dm [5,2] 2:=⟨_,rfl⟩
 have T:eB.r (some gv) [limbs 5,limbs 2] 2=(true,C.map limbs,0):=by
  rw [hC]
  exact Ui h hf (n:=2) (by decide) (by decide) (by decide) (Cg _ _)
 have hCl:C.length=2:=by rw [hC]; exact DI
 have hCp:∀ a∈C,a<fQ:=by rw [hC]; exact RY h
 have hCW:∀ a∈C,a<au:=fun a ha=>Nat.lt_trans (hCp a ha) h.pW
 have hCi:∀ a∈C,InG fQ jB a=true:=by rw [hC]; exact SB h _ _
 have g0:(C.map limbs).getD 0 [0,0,0,0]=limbs (dm^5%fQ):=by
  have:C.getD 0 0=dm^5%fQ:=by rw [hC]; rfl
  rw [← this]; exact getD_map (by omega)
 have Fr:dO.r (some gv) (limbs (dm^5%fQ)) [(3,(limbs 11,()))]=(true,C.map limbs,0):=by
  have:=JL h vE hf (pts:= [3]) (by decide) (by decide) (by decide) (by decide)
  have e:xS [3] (fun k=>evN jB [5,2] ([3].getD k 0))= [(3,(limbs 11,()))]:=by
   show [((3:Int),(limbs (evN jB [5,2] 3),()))]=_
   rw [Nat.eq_of_beq_eq_true Ud]
  rw [e] at this
  rw [hC]; exact this
 have H11:iN.r (some gv) (C.map limbs) (3,(limbs 11,()))=(true,true):=by
  have:=KO h hCW (by omega) (by omega) hCi (i:=3) (y:=11) (by decide) (by decide) (by decide)
  rw [decide_eq_true (by rw [hC]; exact Nat.eq_of_beq_eq_true PX)] at this
  exact this
 have H12:iN.r (some gv) (C.map limbs) (3,(limbs 12,()))=(true,false):=by
  have:=KO h hCW (by omega) (by omega) hCi (i:=3) (y:=12) (by decide) (by decide) (by decide)
  rw [decide_eq_false (by rw [hC]; intro e; have:=PW; rw [e] at this; simp at this)] at this
  exact this
 have A0:eD.r (some gv) (C.map limbs) 0=(true,limbs (dm^5%fQ)):=by
  have:=Rm h hCW (by omega) (i:=0) (by decide)
  rw [hC,Nat.eq_of_beq_eq_true RX,← hC] at this
  exact this
 have M:=Pp h hCW (by omega) (by omega) hCi
 have E:bQ.r ((fQ:Int),((jB:Int),((dm:Int),()))) (dm:Int) (limbs 5)=(true,((dm^5%fQ:Nat):Int)):=by
  simp only [bQ.r,bQ.g,Go.Own.lt,HV dm 5 fQ (by decide) (by decide) (by decide),aj]
 have hx:dm^5%fQ<fQ:=Nat.mod_lt _ (by decide)
 have hpL:fQ<9223372036854775808:=by decide
 have oX:=vU (dm^5%fQ) (by omega)
 have hxW:dm^5%fQ<au:=Nat.lt_trans hx h.pW
 have EQ:=eqL hxW hxW
 rw [decide_eq_true rfl] at EQ
 have S:=Hz (C.map limbs) (by rw [List.length_map]; omega)
 generalize dm^5%fQ=X at*
 have n00:((0:Int) != 0)=false:=rfl
 have z00:((0:Int)== 0)=true:=rfl
 have n22:(((2:Nat):Int) != 2)=false:=rfl
 have i02:ilt (0:Int) ((2:Nat):Int)=true:=rfl
 simp only [aJ.r,aJ.g,Go.Own.lt,cO.gD,hs,bN.gD,o5,o2,o11,o12,eB.gD,T,aj,Bool.not_true,cond_false,n00,List.length_map,hCl,n22,g0,i02,dO.gD,Fr,iN.gD,H11,cond_true,H12,Bool.not_false,bD.gD,S,z00,eD.gD,A0,bQ.gD,E,oX,EQ,fU.gD,M]
end Go.Own
set_option linter.unusedVariables false
set_option linter.unusedSimpArgs false
namespace Go.Own
open Go.IntWalk
abbrev jr (p q g:Nat):Int×Int×Int×Unit:=((p:Int),((q:Int),((g:Int),())))
theorem yo {α:Type} {P:α→Bool} {d:α}:∀ (c:List α),c.all P=false→∃ k,k<c.length∧P (c.getD k d)=false∧∀ j,j<k→P (c.getD j d)=true
 | [],h=>by cases h
 |a::c,h=>by
  cases ha:P a with
  |false=>exact ⟨0,by simp,ha,fun j hj=>absurd hj (Nat.not_lt_zero _)⟩
  |true=>
   rw [List.all_cons,ha,Bool.true_and] at h
   obtain ⟨k,h1,h2,h3⟩:=yo (d:=d) c h
   refine ⟨k+1,by simpa using h1,by simpa using h2,fun j hj=> ?_⟩
   cases j with
   |zero=>exact ha
   |succ j=>simpa using h3 j (by omega)
def Qt (p q:Nat) (c:List Nat):Bool:=decide (1≤c.length)&&(decide (c.length≤7)&&c.all (InG p q))
section
variable {gv:dY} {p q g:Nat}
theorem Mq (h:GF gv p q g) {c:List Nat} (hc:∀ a∈c,a<au) (hl:c.length≤1073741824) {k:Nat} (hk:k<c.length) (hb:InG p q (c.getD k 0)=false) (ha:∀ j,j<k→InG p q (c.getD j 0)=true):
  aB.l0 (c.map limbs,(),0,(c.length:Int),((0:Nat):Int),()) (some gv,())=(true,0,(c.map limbs,(),0,(c.length:Int),(k:Int),()),(some gv,()),((k:Int),()),(some gv,())):=by
 refine bJ (g:=fun rq kn ke kr x y=>aB.g0 rq kn ke kr x y) k (fun j=>(c.map limbs,(),0,(c.length:Int),(j:Int),())) (fun _=>(some gv,())) _ ?_ ?_ _ 0 (Nat.zero_le _) (by show k - 0<((c.length:Int) - ((0:Nat):Int)).toNat+1; omega)
 ·intro j R hj
  have g1:(c.map limbs).getD j [0,0,0,0]=limbs (c.getD j 0):=getD_map (by omega)
  have I1:=KL h (hc _ (fu (show j<c.length by omega)))
  rw [ha j hj] at I1
  have w1:IntKind.i64.wrap ((j:Int)+1)=((j+1:Nat):Int):=i64_in _ (by omega)
  simp only [aB.g0,jh.r,jh.g,Go.Own.lt,List.length_map,bL (show (j:Int)<(c.length:Int) by omega),bY (show (0:Int)≤(j:Int) by omega),Bool.and_self,cond_true,Int.toNat_natCast,g1,I1,aj,Bool.not_true,cond_false,w1]
 ·intro R
  have g1:(c.map limbs).getD k [0,0,0,0]=limbs (c.getD k 0):=getD_map hk
  have I1:=KL h (hc _ (fu hk))
  rw [hb] at I1
  simp only [aB.g0,jh.r,jh.g,Go.Own.lt,List.length_map,bL (show (k:Int)<(c.length:Int) by omega),bY (show (0:Int)≤(k:Int) by omega),Bool.and_self,cond_true,Int.toNat_natCast,g1,I1,aj,Bool.not_false]
theorem Tw (h:GF gv p q g) {c:List Nat} (hc:∀ a∈c,a<au):fU.r (some gv) (c.map limbs)=(true,Qt p q c):=by
 unfold Qt
 by_cases h1:1≤c.length
 ·by_cases h7:c.length≤7
  ·rw [decide_eq_true h1,decide_eq_true h7,Bool.true_and,Bool.true_and]
   cases hall:c.all (InG p q) with
   |true=>exact Pp h hc h1 h7 (List.all_eq_true.1 hall)
   |false=>
    obtain ⟨k,k1,k2,k3⟩:=yo (d:=0) c hall
    have key:aB.l0 (c.map limbs,(),0,(c.length:Int),0,()) (some gv,())=_:=Mq h hc (by omega) k1 k2 k3
    simp only [fU.r,fU.g,bX.r,bX.g,aB.r,aB.g,Go.Own.lt,List.length_map,bY (show (1:Int)≤(c.length:Int) by omega),bY (show (c.length:Int)≤7 by omega),cond_true,key,aj,show Nat.beq 0 0=true from rfl,bY (show (0:Int)≤(k:Int) by omega),Bool.not_true]
  ·rw [decide_eq_false h7,Bool.false_and,Bool.and_false]
   simp only [fU.r,fU.g,Go.Own.lt,List.length_map,bY (show (1:Int)≤(c.length:Int) by omega),oC (show ¬ (c.length:Int)≤7 by omega),cond_true,cond_false]
 ·rw [decide_eq_false h1,Bool.false_and]
  simp only [fU.r,fU.g,Go.Own.lt,List.length_map,oC (show ¬ (1:Int)≤(c.length:Int) by omega),cond_false]
theorem PD (gx:Option dY) (c:List (List Int)) {i:Int} (h:i<0∨7<i∨7<c.length):eD.r gx c i=(true,[0,0,0,0]):=by
 by_cases h0:i<0
 ·simp only [eD.r,eD.g,Go.Own.lt,bL h0,cond_true]
 ·by_cases h7:7<i
  ·simp only [eD.r,eD.g,Go.Own.lt,bK h0,bL h7,cond_true,cond_false]
  ·have hl:(7:Int)<(c.length:Int):=by omega
   simp only [eD.r,eD.g,Go.Own.lt,bK h0,bK h7,bL hl,cond_true,cond_false]
theorem Ta (h:GF gv p q g) {f:List Nat} (hf:∀ a∈f,a<au) (hfl:f.length≤1073741824) {n:Int} (hb:n<1∨7<n∨n<(tl (oM q f) f.length:Int)):eB.r (some gv) (f.map limbs) n=(true,[],1):=by
 obtain ⟨rq,inv,hR,hF⟩:=h.fld.field
 have T:=Bw h.fld hf hfl
 by_cases h0:n<1
 ·simp only [eB.r,eB.g,Go.Own.lt,hF,aj,hR.qM,cond_false,bL h0,cond_true]
 ·by_cases h7:7<n
  ·simp only [eB.r,eB.g,Go.Own.lt,hF,aj,hR.qM,cond_false,bK h0,bL h7,cond_true]
  ·have hl:n<(tl (oM q f) f.length:Int):=by omega
   simp only [eB.r,eB.g,Go.Own.lt,hF,aj,hR.qM,cond_false,bK h0,bK h7,T,show Nat.beq 1 0=false from rfl,bL hl,cond_true]
end
section
variable {p q g:Nat}
theorem EP (hp:1<p) (hp2:p<4611686018427387904) (a e:Nat) (he:e<au):bQ.r (jr p q g) (a:Int) (limbs e)=(true,((a^e%p:Nat):Int)):=by
 simp only [bQ.r,bQ.g,Go.Own.lt,HV a e p hp (by omega) he,aj]
theorem Q5 (hp:1<p) (hp2:p<4611686018427387904) (a b:Nat):iX.r (jr p q g) (a:Int) (b:Int)=(true,((a*b%p:Nat):Int)):=by
 simp only [iX.r,iX.g,Go.Own.lt,EL a b p (by omega) (by omega),aj]
theorem BF (n:Nat) (h:n<9223372036854775808):aI.r (n:Int)=(true,limbs n):=by
 have:=Pv (n:Int) (by omega)
 rw [Int.toNat_natCast] at this; exact this
theorem O4 (hp:1<p) (hp2:p<4611686018427387904) (hq2:q<4611686018427387904) {a:Nat} (ha:a<au):d9.r (jr p q g) (limbs a)=(true,InG p q a):=by
 have L:=za a ha
 have Q:=BF q (by omega)
 unfold InG
 by_cases h63:a<9223372036854775808
 ·rw [if_pos h63] at L
  by_cases h0:a=0
  ·rw [decide_eq_false (show ¬ ¬ a=0 by omega),Bool.false_and]
   simp only [d9.r,d9.g,Go.Own.lt,L,aj,cond_true,bK (show ¬ (0:Int)<(a:Int) by omega),cond_false]
  ·rw [decide_eq_true h0,Bool.true_and]
   by_cases hap:a<p
   ·have E:=EP (q:=q) (g:=g) hp hp2 a q (by unfold au; omega)
    have e1:(((a^q%p:Nat):Int)== 1)=decide (a^q%p=1):=by
     rw [Bool.eq_iff_iff,beq_iff_eq,decide_eq_true_eq]; omega
    rw [decide_eq_true hap,Bool.true_and]
    simp only [d9.r,d9.g,Go.Own.lt,L,aj,cond_true,bL (show (0:Int)<(a:Int) by omega),bL (show (a:Int)<(p:Int) by omega),Q,E,e1]
   ·rw [decide_eq_false hap,Bool.false_and]
    simp only [d9.r,d9.g,Go.Own.lt,L,aj,cond_true,bL (show (0:Int)<(a:Int) by omega),bK (show ¬ (a:Int)<(p:Int) by omega),cond_false]
 ·rw [if_neg h63] at L
  rw [decide_eq_false (show ¬ a<p by omega),Bool.false_and,Bool.and_false]
  simp only [d9.r,d9.g,Go.Own.lt,L,aj,cond_false]
theorem Tf (hp:1<p) (hp2:p<4611686018427387904) (hq2:q<4611686018427387904) {c:List Nat} (hc:∀ a∈c,a<au) (hl:c.length≤1073741824):aW.r (jr p q g) (c.map limbs)=(true,Qt p q c):=by
 unfold Qt
 cases hall:c.all (InG p q) with
 |true=>
  have ha:=List.all_eq_true.1 hall
  have key:aW.l0 (c.map limbs,(),false,((0:Nat):Int),()) (jr p q g,())=(true,1,(c.map limbs,(),false,(c.length:Int),()),(jr p q g,()),(false,()),()):=by
   refine bJ (g:=fun rq kn ke kr x y=>aW.g0 rq kn ke kr x y) c.length (fun j=>(c.map limbs,(),false,(j:Int),())) (fun _=>(jr p q g,())) _ ?_ ?_ _ 0 (Nat.zero_le _) (by show c.length - 0<(((c.map limbs).length:Int) - ((0:Nat):Int)).toNat+1; rw [List.length_map]; omega)
   ·intro j R hj
    have g1:(c.map limbs).getD j [0,0,0,0]=limbs (c.getD j 0):=getD_map hj
    have I1:=O4 (g:=g) hp hp2 hq2 (hc _ (fu hj))
    rw [ha _ (fu hj)] at I1
    have w1:IntKind.i64.wrap ((j:Int)+1)=((j+1:Nat):Int):=i64_in _ (by omega)
    simp only [aW.g0,Go.Own.lt,List.length_map,bL (show (j:Int)<(c.length:Int) by omega),bY (show (0:Int)≤(j:Int) by omega),Bool.and_self,cond_true,Int.toNat_natCast,g1,I1,aj,Bool.not_true,cond_false,w1]
   ·intro R
    simp only [aW.g0,Go.Own.lt,List.length_map,bK (show ¬ (c.length:Int)<(c.length:Int) by omega),cond_false]
  have k2:aW.l0 (c.map limbs,(),false,0,()) (jr p q g,())=_:=key
  rw [Bool.and_true]
  by_cases h1:1≤c.length
  ·rw [decide_eq_true h1,Bool.true_and]
   by_cases h7:c.length≤7
   ·rw [decide_eq_true h7]
    simp only [aW.r,aW.g,Go.Own.lt,k2,aj,show Nat.beq 1 0=false from rfl,cond_false,List.length_map,bY (show (1:Int)≤(c.length:Int) by omega),cond_true,bY (show (c.length:Int)≤7 by omega)]
   ·rw [decide_eq_false h7]
    simp only [aW.r,aW.g,Go.Own.lt,k2,aj,show Nat.beq 1 0=false from rfl,cond_false,List.length_map,bY (show (1:Int)≤(c.length:Int) by omega),cond_true,oC (show ¬ (c.length:Int)≤7 by omega)]
  ·rw [decide_eq_false h1,Bool.false_and]
   simp only [aW.r,aW.g,Go.Own.lt,k2,aj,show Nat.beq 1 0=false from rfl,cond_false,List.length_map,oC (show ¬ (1:Int)≤(c.length:Int) by omega)]
 |false=>
  obtain ⟨k,k1,k2,k3⟩:=yo (d:=0) c hall
  have key:aW.l0 (c.map limbs,(),false,((0:Nat):Int),()) (jr p q g,())=(true,0,(c.map limbs,(),false,(k:Int),()),(jr p q g,()),(false,()),()):=by
   refine bJ (g:=fun rq kn ke kr x y=>aW.g0 rq kn ke kr x y) k (fun j=>(c.map limbs,(),false,(j:Int),())) (fun _=>(jr p q g,())) _ ?_ ?_ _ 0 (Nat.zero_le _) (by show k - 0<(((c.map limbs).length:Int) - ((0:Nat):Int)).toNat+1; rw [List.length_map]; omega)
   ·intro j R hj
    have g1:(c.map limbs).getD j [0,0,0,0]=limbs (c.getD j 0):=getD_map (by omega)
    have I1:=O4 (g:=g) hp hp2 hq2 (hc _ (fu (show j<c.length by omega)))
    rw [k3 j hj] at I1
    have w1:IntKind.i64.wrap ((j:Int)+1)=((j+1:Nat):Int):=i64_in _ (by omega)
    simp only [aW.g0,Go.Own.lt,List.length_map,bL (show (j:Int)<(c.length:Int) by omega),bY (show (0:Int)≤(j:Int) by omega),Bool.and_self,cond_true,Int.toNat_natCast,g1,I1,aj,Bool.not_true,cond_false,w1]
   ·intro R
    have g1:(c.map limbs).getD k [0,0,0,0]=limbs (c.getD k 0):=getD_map k1
    have I1:=O4 (g:=g) hp hp2 hq2 (hc _ (fu k1))
    rw [k2] at I1
    simp only [aW.g0,Go.Own.lt,List.length_map,bL (show (k:Int)<(c.length:Int) by omega),bY (show (0:Int)≤(k:Int) by omega),Bool.and_self,cond_true,Int.toNat_natCast,g1,I1,aj,Bool.not_false]
  have k2:aW.l0 (c.map limbs,(),false,0,()) (jr p q g,())=_:=key
  rw [Bool.and_false,Bool.and_false]
  simp only [aW.r,aW.g,Go.Own.lt,k2,aj,show Nat.beq 0 0=true from rfl,cond_true]
end
end Go.Own
set_option linter.unusedVariables false
set_option linter.unusedSimpArgs false
namespace Go.Own
open Go.IntWalk
section
variable {p q g:Nat}
theorem Uk (hp:1<p) (hp2:p<4611686018427387904) {t:List Nat} (ht:∀ a∈t,a<4611686018427387904) {n:Nat} (hn:n≤1000):cK.r (jr p q g) (ints t) (n:Int)=(true,(toN p g t n).map limbs):=by
 have hil:(ints t).length=t.length:=List.length_map _
 have hlen:(toN p g t n).length=n:=DI
 have key:cK.l0 (ints t,(n:Int),(),(),(),((0:Nat):Int),()) (jr p q g,(decide (0=0),((toN p g t n).take 0).map limbs),())=(true,1,(ints t,(n:Int),(),(),(),(n:Int),()),(jr p q g,(decide (n=0),((toN p g t n).take n).map limbs),()),(),()):=by
  refine bJ (g:=fun rq kn ke kr x y=>cK.g0 rq kn ke kr x y) n (fun j=>(ints t,(n:Int),(),(),(),(j:Int),())) (fun j=>(jr p q g,(decide (j=0),((toN p g t n).take j).map limbs),())) _ ?_ ?_ _ 0 (Nat.zero_le _) (by show n - 0<((n:Int) - ((0:Nat):Int)).toNat+1; omega)
  ·intro j R hj
   have hx:g^(t.getD j 0)%p<9223372036854775808:=Nat.lt_trans (Nat.mod_lt _ (by omega)) (by omega)
   have i1:=BF _ hx
   have hv:(toN p g t n).getD j 0=g^(t.getD j 0)%p:=iZ hj
   have s1:((toN p g t n).take j).map limbs++ [limbs (g^(t.getD j 0)%p)]=((toN p g t n).take (j+1)).map limbs:=by
    rw [← hv]; exact ji (f:=limbs) (by omega)
   have c1:nle ((2*(((toN p g t n).take j).length+1)+512)*32) 70368744177664=true:=qm (by rw [List.length_take]; omega)
   have d1:decide (j+1=0)=false:=decide_eq_false (by omega)
   have w1:IntKind.i64.wrap ((j:Int)+1)=((j+1:Nat):Int):=i64_in _ (by omega)
   by_cases hjt:j<t.length
   ·have g1:(ints t).getD j 0=((t.getD j 0:Nat):Int):=getD_map hjt
    have hb:=ht _ (fu hjt)
    have i0:=BF (t.getD j 0) (by omega)
    have e1:=EP (q:=q) (g:=g) hp hp2 g (t.getD j 0) (by unfold au; omega)
    simp only [cK.g0,Go.Own.lt,bL (show (j:Int)<(n:Int) by omega),cond_true,hil,bL (show (j:Int)<(t.length:Int) by omega),Int.toNat_natCast,g1,bY (show (0:Int)≤(j:Int) by omega),Bool.and_self,aj,i0,e1,i1,List.length_map,Bool.and_false,s1,c1,w1,d1]
   ·have g0:t.getD j 0=0:=iW (by omega)
    rw [g0] at i1 s1
    have i0:aI.r 0=(true,limbs 0):=BF 0 (by decide)
    have e1:=EP (q:=q) (g:=g) hp hp2 g 0 (by decide)
    simp only [cK.g0,Go.Own.lt,bL (show (j:Int)<(n:Int) by omega),cond_true,hil,bK (show ¬ (j:Int)<(t.length:Int) by omega),cond_false,i0,e1,i1,aj,List.length_map,Bool.and_false,s1,c1,w1,d1]
  ·intro R
   simp only [cK.g0,Go.Own.lt,bK (show ¬ (n:Int)<(n:Int) by omega),cond_false]
 have et:(toN p g t n).take n=toN p g t n:=List.take_of_length_le (by omega)
 rw [et] at key
 have k2:cK.l0 (ints t,(n:Int),(),(),(),0,()) (jr p q g,(true,[]),())=_:=key
 simp only [cK.r,cK.g,Go.Own.lt,k2,aj]
theorem KH (hp:1<p) (hp2:p<4611686018427387904) {c:List Nat} (hc:∀ a∈c,a<au) (h7:c.length≤7) {i:Nat} (hi:i≤7):dZ.r (jr p q g) (c.map limbs) (i:Int)=(true,(atN p c i:Int)):=by
 have pw:∀ j,j≤7→i^j≤823543:=fun j hj=>Nat.le_trans (Nat.pow_le_pow_left hi j) (Nat.le_trans (Nat.pow_le_pow_right (by decide) hj) (by decide))
 obtain ⟨E,hE⟩:∃ E,E=(List.range c.length).map fun j=>i^j:=⟨_,rfl⟩
 have hEl:E.length=c.length:=by rw [hE]; simp
 have key:dZ.l0 (c.map limbs,(i:Int),(),0,((fM (fun e=>e) (c.take 0) (E.take 0)%p:Nat):Int),((i^0:Nat):Int),((0:Nat):Int),()) (jr p q g,())=(true,1,(c.map limbs,(i:Int),(),0,((fM (fun e=>e) (c.take c.length) (E.take c.length)%p:Nat):Int),((i^c.length:Nat):Int),(c.length:Int),()),(jr p q g,()),(),()):=by
  refine bJ (g:=fun rq kn ke kr x y=>dZ.g0 rq kn ke kr x y) c.length (fun j=>(c.map limbs,(i:Int),(),0,((fM (fun e=>e) (c.take j) (E.take j)%p:Nat):Int),((i^j:Nat):Int),(j:Int),())) (fun _=>(jr p q g,())) _ ?_ ?_ _ 0 (Nat.zero_le _) (by show c.length - 0<(((c.map limbs).length:Int) - ((0:Nat):Int)).toNat+1; rw [List.length_map]; omega)
  ·intro j R hj
   have hpj:=pw j (by omega)
   have hpj1:=pw (j+1) (by omega)
   have g1:(c.map limbs).getD j [0,0,0,0]=limbs (c.getD j 0):=getD_map hj
   have b1:=Uv (c.getD j 0) p (hc _ (fu hj)) (by omega) (by omega)
   have i1:=BF (i^j) (by omega)
   have e1:=EP (q:=q) (g:=g) hp hp2 (c.getD j 0%p) (i^j) (by unfold au; omega)
   have m1:=Q5 (q:=q) (g:=g) hp hp2 (fM (fun e=>e) (c.take j) (E.take j)%p) ((c.getD j 0%p)^(i^j)%p)
   have gE:E.getD j 0=i^j:=by rw [hE]; exact iZ hj
   have s1:fM (fun e=>e) (c.take j) (E.take j)%p*((c.getD j 0%p)^(i^j)%p)%p=fM (fun e=>e) (c.take (j+1)) (E.take (j+1))%p:=by
    rw [vP (fun e=>e) c E j hj (by omega),gE,← Nat.pow_mod,← Nat.mul_mod]
   rw [s1] at m1
   have e2:((i^j:Nat):Int)*(i:Int)=((i^(j+1):Nat):Int):=by rw [Nat.pow_succ,Int.natCast_mul]
   have w0:IntKind.i64.wrap ((i^(j+1):Nat):Int)=((i^(j+1):Nat):Int):=i64_in _ (by omega)
   have w1:IntKind.i64.wrap ((j:Int)+1)=((j+1:Nat):Int):=i64_in _ (by omega)
   simp only [dZ.g0,Go.Own.lt,List.length_map,bL (show (j:Int)<(c.length:Int) by omega),cond_true,bY (show (0:Int)≤(j:Int) by omega),Bool.and_self,Int.toNat_natCast,g1,aj,b1,i1,e1,m1,e2,w0,w1]
  ·intro R
   simp only [dZ.g0,Go.Own.lt,List.length_map,bK (show ¬ (c.length:Int)<(c.length:Int) by omega),cond_false]
 have et1:c.take c.length=c:=List.take_of_length_le (Nat.le_refl _)
 have et2:E.take c.length=E:=List.take_of_length_le (by omega)
 rw [et1,et2] at key
 have e0:fM (fun e=>e) (c.take 0) (E.take 0)%p=1:=Nat.mod_eq_of_lt hp
 rw [e0] at key
 have k2:dZ.l0 (c.map limbs,(i:Int),(),0,1,1,0,()) (jr p q g,())=_:=key
 unfold atN
 rw [← hE]
 simp only [dZ.r,dZ.g,Go.Own.lt,k2,aj]
end
theorem K4 (which:Int):∃ gv p q g,GF gv p q g∧uM q∧p<4611686018427387904∧q<4611686018427387904∧cO.r which=(true,some gv,jr p q g,true):=by
 obtain ⟨gv,h⟩:=Cn which
 rcases h with ⟨h,e⟩|⟨h,e,_⟩
 ·exact ⟨gv,_,_,_,h,vE,by decide,by decide,e⟩
 ·exact ⟨gv,_,_,_,h,BN,by decide,by decide,e⟩
theorem BU {c:List (List Int)} (hc:Ty.ok (.sl (.arr 4 (.int .u64))) c):∃ l:List Nat,c=l.map limbs∧∀ a∈l,a<au:=by
 refine Au c ?_
 first
 |exact hc
 |exact hc.2
 |exact hc.1
theorem vk (b:Bool):(b== b)=true:=by cases b<;>rfl
theorem yI (which:Int) (f:List (List Int)) (n:List Int) (hf:Ty.ok (.sl (.arr 4 (.int .u64))) f):aK.r which f n=(true,true):=by
 obtain ⟨l,rfl,hl⟩:=BU hf
 have aw:=Me
 by_cases h9:(9:Int)<(l.length:Int)
 ·simp only [aK.r,aK.g,Go.Own.lt,List.length_map,bL h9,cond_true,aJ.gD,aw,aj]
 obtain ⟨gv,p,q,g,h,hs,hp2,hq2,e⟩:=K4 which
 have hp:=h.p1
 have hq:=h.q1
 have hp0:0<p:=by omega
 have A0:=Uw l q hl (by omega) (by omega) (by omega)
 have A:dH.r (l.map limbs) (q:Int)=(true,ints (l.map (· %q))):=by
  rw [A0]; unfold ints; rw [List.map_map]; rfl
 have T:=Q0 (l.map (· %q)) (by rw [List.length_map]; omega)
 have M:=Tw h hl
 have RM:=Tf (g:=g) hp hp2 hq2 hl (by omega)
 have hTl:(trm (l.map (· %q))).length=tl (oM q l) l.length:=by
  unfold trm
  rw [List.length_take,List.length_map]
  have:tl (l.map (· %q)) l.length≤l.length:=Cg _ _
  show min (tl (l.map (· %q)) l.length) l.length=tl (l.map (· %q)) l.length
  omega
 have hil:(ints (trm (l.map (· %q)))).length=tl (oM q l) l.length:=by rw [← hTl]; exact List.length_map _
 obtain ⟨n0,hn0⟩:∃ n0,n0=n.getD 0 0:=⟨_,rfl⟩
 obtain ⟨n1,hn1⟩:∃ n1,n1=n.getD 1 0:=⟨_,rfl⟩
 have zz:(!(ieq (([0,0,0,0]:List Int).getD 0 0) 0&&(ieq (([0,0,0,0]:List Int).getD 1 0) 0&&(ieq (([0,0,0,0]:List Int).getD 2 0) 0&&(ieq (([0,0,0,0]:List Int).getD 3 0) 0&&true)))))=false:=by kernel_rfl
 have z00:((0:Int)== 0)=true:=rfl
 have z11:((1:Int)== 1)=true:=rfl
 have l0:((([]:List (List Int)).length:Int)== 0)=true:=rfl
 obtain ⟨L,hL⟩:∃ L,L=tl (oM q l) l.length:=⟨_,rfl⟩
 rw [← hL] at hil
 by_cases hbad:n0<1∨7<n0∨n0<(L:Int)
 ·have C:=Ta h hl (by omega) (n:=n0) (by rw [← hL]; exact hbad)
  have cases3:∃ x y z,ilt n0 1=x∧ilt 7 n0=y∧ilt n0 (L:Int)=z∧(x=true∨(x=false∧y=true)∨(x=false∧y=false∧z=true)):=by
   refine ⟨_,_,_,rfl,rfl,rfl,?_⟩
   by_cases b1:n0<1
   ·exact .inl (bL b1)
   ·by_cases b2:7<n0
    ·exact .inr (.inl ⟨bK b1,bL b2⟩)
    ·exact .inr (.inr ⟨bK b1,bK b2,bL (by omega)⟩)
  obtain ⟨x,y,z,c1,c2,c3,c4⟩:=cases3
  by_cases hout:n1<0∨7<n1∨7<l.length
  ·have O:=PD (some gv) (l.map limbs) (i:=n1) (by rw [List.length_map]; exact hout)
   have out3:∃ x y z,ilt n1 0=x∧ilt 7 n1=y∧ilt 7 (l.length:Int)=z∧(x=true∨(x=false∧y=true)∨(x=false∧y=false∧z=true)):=by
    refine ⟨_,_,_,rfl,rfl,rfl,?_⟩
    by_cases b1:n1<0
    ·exact .inl (bL b1)
    ·by_cases b2:7<n1
     ·exact .inr (.inl ⟨bK b1,bL b2⟩)
     ·exact .inr (.inr ⟨bK b1,bK b2,bL (by omega)⟩)
   obtain ⟨u,v,w,o1,o2,o3,o4⟩:=out3
   rcases o4 with rfl|⟨rfl,rfl⟩|⟨rfl,rfl,rfl⟩<;>rcases c4 with rfl|⟨rfl,rfl⟩|⟨rfl,rfl,rfl⟩<;>
    simp only [aK.r,aK.g,Go.Own.lt,List.length_map,bK h9,cond_false,e,aj,A,T,hil,← hn0,← hn1,C,Bool.not_true,M,RM,vk,O,o1,o2,o3,c1,c2,c3,cond_true,zz,l0,z11,aJ.gD,aw]
  ·obtain ⟨m,hm⟩:∃ m:Nat,n1=(m:Int):=⟨n1.toNat,by omega⟩
   subst hm
   have At:=Rm h hl (by omega) (i:=m) (by omega)
   have RA:=KH (q:=q) (g:=g) hp hp2 hl (by omega) (i:=m) (by omega)
   have ha:atN p l m<p:=Nat.mod_lt _ hp0
   have O:=vU (atN p l m) (by omega)
   have EQ:=eqL (Nat.lt_trans ha h.pW) (Nat.lt_trans ha h.pW)
   rw [decide_eq_true rfl] at EQ
   have o1:=bK (show ¬ (m:Int)<0 by omega)
   have o2:=bK (show ¬ (7:Int)<(m:Int) by omega)
   have o3:=bK (show ¬ (7:Int)<(l.length:Int) by omega)
   rcases c4 with rfl|⟨rfl,rfl⟩|⟨rfl,rfl,rfl⟩<;>
    simp only [aK.r,aK.g,Go.Own.lt,List.length_map,bK h9,cond_false,e,aj,A,T,hil,← hn0,← hn1,C,Bool.not_true,M,RM,vk,At,RA,O,EQ,o1,o2,o3,c1,c2,c3,cond_true,l0,z11,aJ.gD,aw]
 ·obtain ⟨N,hN⟩:∃ N:Nat,n0=(N:Int):=⟨n0.toNat,by omega⟩
  subst hN
  have C:=Ui h hl (n:=N) (by omega) (by omega) (by omega) (by rw [← hL]; omega)
  have hred:∀ a∈trm (l.map (· %q)),a<4611686018427387904:=fun a ha=>by
   have:a<q:=RU (q:=q) (fun b hb=>by
    obtain ⟨c,_,rfl⟩:=List.mem_map.1 hb
    exact Nat.mod_lt _ (by omega)) a ha
   omega
  have RT:=Uk (q:=q) (g:=g) hp hp2 hred (n:=N) (by omega)
  have eT:toN p g (trm (l.map (· %q))) N=toN p g l N:=by
   unfold toN
   apply List.map_congr_left
   intro k hk
   rw [MH]
   apply FR h
   have:(l.map (· %q)).getD k 0=l.getD k 0%q:=by
    rcases Nat.lt_or_ge k l.length with hk2|hk2
    ·exact getD_map hk2
    ·rw [iW (by rw [List.length_map]; exact hk2),iW hk2]; rfl
   rw [this,Nat.mod_mod]
  rw [eT] at RT
  have S:=Hz ((toN p g l N).map limbs) (by rw [List.length_map,DI]; omega)
  have c1:=bK (show ¬ (N:Int)<1 by omega)
  have c2:=bK (show ¬ (7:Int)<(N:Int) by omega)
  have c3:=bK (show ¬ (N:Int)<(L:Int) by omega)
  by_cases hout:n1<0∨7<n1∨7<l.length
  ·have O:=PD (some gv) (l.map limbs) (i:=n1) (by rw [List.length_map]; exact hout)
   have out3:∃ x y z,ilt n1 0=x∧ilt 7 n1=y∧ilt 7 (l.length:Int)=z∧(x=true∨(x=false∧y=true)∨(x=false∧y=false∧z=true)):=by
    refine ⟨_,_,_,rfl,rfl,rfl,?_⟩
    by_cases b1:n1<0
    ·exact .inl (bL b1)
    ·by_cases b2:7<n1
     ·exact .inr (.inl ⟨bK b1,bL b2⟩)
     ·exact .inr (.inr ⟨bK b1,bK b2,bL (by omega)⟩)
   obtain ⟨u,v,w,o1,o2,o3,o4⟩:=out3
   rcases o4 with rfl|⟨rfl,rfl⟩|⟨rfl,rfl,rfl⟩<;>
    simp only [aK.r,aK.g,Go.Own.lt,List.length_map,bK h9,cond_false,e,aj,A,T,hil,← hn0,← hn1,C,Bool.not_true,M,RM,vk,O,o1,o2,o3,c1,c2,c3,cond_true,zz,z00,RT,S,aJ.gD,aw]
  ·obtain ⟨m,hm⟩:∃ m:Nat,n1=(m:Int):=⟨n1.toNat,by omega⟩
   subst hm
   have At:=Rm h hl (by omega) (i:=m) (by omega)
   have RA:=KH (q:=q) (g:=g) hp hp2 hl (by omega) (i:=m) (by omega)
   have ha:atN p l m<p:=Nat.mod_lt _ hp0
   have O:=vU (atN p l m) (by omega)
   have EQ:=eqL (Nat.lt_trans ha h.pW) (Nat.lt_trans ha h.pW)
   rw [decide_eq_true rfl] at EQ
   have o1:=bK (show ¬ (m:Int)<0 by omega)
   have o2:=bK (show ¬ (7:Int)<(m:Int) by omega)
   have o3:=bK (show ¬ (7:Int)<(l.length:Int) by omega)
   simp only [aK.r,aK.g,Go.Own.lt,List.length_map,bK h9,cond_false,e,aj,A,T,hil,← hn0,← hn1,C,Bool.not_true,M,RM,vk,At,RA,O,EQ,o1,o2,o3,c1,c2,c3,cond_true,z00,RT,S,aJ.gD,aw]
theorem aK.pure (which:Int) (f:List (List Int)) (n:List Int) (hw:Ty.ok (.int .i64) which) (hf:Ty.ok (.sl (.arr 4 (.int .u64))) f) (hn:Ty.ok (.arr 2 (.int .i64)) n):aK.r which f n=(true,true):=yI which f n hf
end Go.Own
