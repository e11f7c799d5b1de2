/- What is proved: what the printed functions answer, in plain numbers and lists. Conditions: those that each theorem names. -/
import Derived.Test.YtnighkkdmgmcnaaGreatPure1
set_option linter.unusedVariables false
set_option linter.unusedSimpArgs false
set_option linter.unusedVariables false
set_option linter.unusedSimpArgs false
namespace Go.Own
open Go.IntWalk
section
variable {gv:d9} {p q g:Nat}
theorem JX (h:GF gv p q g) (a:Nat):g^(a%q)%p=g^a%p:=by
 have e:a=q*(a/q)+a%q:=(Nat.div_add_mod a q).symm
 have h1:g^(q*(a/q))%p=1:=by
  rw [Nat.pow_mul,Nat.pow_mod,h.ord,Nat.one_pow]; exact Nat.mod_eq_of_lt h.p1
 conv=>rhs; rw [e,Nat.pow_add,Nat.mul_mod,h1,Nat.one_mul,Nat.mod_mod]
theorem Nf (h:GF gv p q g) {a b:Nat} (e:a%q=b%q):g^a%p=g^b%p:=by rw [← JX h a,e,JX h b]
theorem NP (h:GF gv p q g) (a:Nat):InG p q (g^a%p)=true:=by
 have hp0:0<p:=by have:=h.p1; omega
 have e:(g^a%p)^q%p=1:=by
  rw [← Nat.pow_mod,← Nat.pow_mul,Nat.mul_comm,Nat.pow_mul,Nat.pow_mod,h.ord,Nat.one_pow]; exact Nat.mod_eq_of_lt h.p1
 have h0:¬ g^a%p=0:=fun hz=>by
  rw [hz,Nat.zero_pow (by have:=h.q1; omega),Nat.zero_mod] at e; cases e
 unfold InG
 rw [decide_eq_true h0,decide_eq_true (Nat.mod_lt _ hp0),decide_eq_true e]; rfl
theorem Sz (h:GF gv p q g) (f:List Nat) (n:Nat):∀ a∈toN p g f n,InG p q a=true:=fun a ha=>by
 unfold toN at ha
 obtain ⟨k,_,rfl⟩:=List.mem_map.1 ha
 exact NP h _
def xP (pts:List Nat) (y:Nat→Nat):List OY:=(List.range pts.length).map fun k=>(((pts.getD k 0:Nat):Int),(limbs (y k),()))
def oU (p q g c0:Nat) (F:Nat→List Nat) (y:List Nat) (n:Nat):List Nat:=(List.range n).map fun j=>(c0^((F 0).getD j 0)%p)*(g^(vg q ((List.range n).map fun i=>(F i).getD j 0) y n)%p)%p
def ysF (y:Nat→Nat) (m:Nat):List Nat:=0::(List.range m).map y
theorem Mk (y:Nat→Nat) (m:Nat):ysF y (m+1)=ysF y m++ [y m]:=by unfold ysF; rw [List.range_succ,List.map_append]; rfl
theorem Rl (gx:Option d9) (c0:List Int) {pts:List Nat} (hp:∀ p∈pts,1≤p) (hn:pts.length≤1000) (y:Nat→Nat):
  dN.l0 (gx,(),(),0,(),(),xP pts y,(pts.length:Int),0,()) (c0,(false,[0]),(false,[[0,0,0,0]]),())=(true,1,(gx,(),(),0,(),(),xP pts y,(pts.length:Int),(pts.length:Int),()),(c0,(false,ints (0::pts)),(false,(ysF y pts.length).map limbs),()),((),0,()),()):=by
 have hsl:(xP pts y).length=pts.length:=by unfold xP; simp
 have key:dN.l0 (gx,(),(),0,(),(),xP pts y,(pts.length:Int),((0:Nat):Int),()) (c0,(false,ints (0::pts.take 0)),(false,(ysF y 0).map limbs),())=(true,1,(gx,(),(),0,(),(),xP pts y,(pts.length:Int),(pts.length:Int),()),(c0,(false,ints (0::pts.take pts.length)),(false,(ysF y pts.length).map limbs),()),((),0,()),()):=by
  refine bK (g:=fun rq kn ke kr x y=>dN.g0 rq kn ke kr x y) pts.length (fun j=>(gx,(),(),0,(),(),xP pts y,(pts.length:Int),(j:Int),())) (fun j=>(c0,(false,ints (0::pts.take j)),(false,(ysF y j).map limbs),())) _ ?_ ?_ _ 0 (Nat.zero_le _) (by show pts.length - 0<((pts.length:Int) - ((0:Nat):Int)).toNat+1; omega)
  ·intro j R hj
   have g1:(xP pts y).getD j (0,([0,0,0,0],()))=(((pts.getD j 0:Nat):Int),(limbs (y j),())):=jm hj
   have hb:=hp _ (fF hj)
   have l1:(ints (0::pts.take j)).length=j+1:=by simp [ints]; omega
   have l2:((ysF y j).map limbs).length=j+1:=by simp [ysF]
   have c1:nle ((2*(j+1+1)+512)*8) 70368744177664=true:=rT (by omega)
   have c2:nle ((2*(j+1+1)+512)*32) 70368744177664=true:=rT (by omega)
   have s1:ints (0::pts.take j)++ [((pts.getD j 0:Nat):Int)]=ints (0::pts.take (j+1)):=by
    have:=tK (f:=fun (p:Nat)=>(p:Int)) (v:=((pts.getD j 0:Nat):Int)) hj rfl
    show (0:Int)::((pts.take j).map (fun (p:Nat)=>(p:Int))++ [((pts.getD j 0:Nat):Int)])=_
    rw [this]; rfl
   have s2:(ysF y j).map limbs++ [limbs (y j)]=(ysF y (j+1)).map limbs:=by rw [Mk,List.map_append]; rfl
   have w1:IntKind.i64.wrap ((j:Int)+1)=((j+1:Nat):Int):=i64_in _ (by omega)
   simp only [dN.g0,Go.Own.lt,hsl,cK (show (j:Int)<(pts.length:Int) by omega),cond_true,bJ (show (0:Int)≤(j:Int) by omega),Bool.and_self,Int.toNat_natCast,g1,aj,dJ (show ¬ ((pts.getD j 0:Nat):Int)<1 by omega),cond_false,Bool.and_false,s1,s2,l1,l2,c1,c2,w1]
  ·intro R
   simp only [dN.g0,Go.Own.lt,dJ (show ¬ (pts.length:Int)<(pts.length:Int) by omega),cond_false]
 rw [List.take_length] at key
 exact key
theorem Rk (h:GF gv p q g) {c0:Nat} (hc:c0<au) {F:Nat→List Nat} {n:Nat} (hn1:1≤n) (hn:n≤8) (hFq:∀ i,i<n→∀ j,(F i).getD j 0<q) {y:List Nat} (hy:∀ a∈y,a<au) (hl:y.length=n) (b:Bool):
  dN.l1 (some gv,(),(),0,(),(),jB F n,(n:Int),0,()) (limbs c0,(b,y.map limbs),(true,[]),())=(true,3,(some gv,(),(),0,(),(),jB F n,(n:Int),(n:Int),()),(limbs c0,(b,y.map limbs),(decide (n=0),(oU p q g c0 F y n).map limbs),()),((),0,()),()):=by
 have hwl:(jB F n).length=n:=by unfold jB; simp
 have hp0:0<p:=by have:=h.p1; omega
 have hq0:0<q:=by have:=h.q1; omega
 have key:dN.l1 (some gv,(),(),0,(),(),jB F n,(n:Int),((0:Nat):Int),()) (limbs c0,(b,y.map limbs),(decide (0=0),((oU p q g c0 F y n).take 0).map limbs),())=(true,3,(some gv,(),(),0,(),(),jB F n,(n:Int),(n:Int),()),(limbs c0,(b,y.map limbs),(decide (n=0),((oU p q g c0 F y n).take n).map limbs),()),((),0,()),()):=by
  have hfl:(oU p q g c0 F y n).length=n:=by unfold oU; simp
  refine bK (g:=fun rq kn ke kr x y=>dN.g1 rq kn ke kr x y) n (fun j=>(some gv,(),(),0,(),(),jB F n,(n:Int),(j:Int),())) (fun j=>(limbs c0,(b,y.map limbs),(decide (j=0),((oU p q g c0 F y n).take j).map limbs),())) _ ?_ ?_ _ 0 (Nat.zero_le _) (by show n - 0<((n:Int) - ((0:Nat):Int)).toNat+1; omega)
  ·intro j R hj
   obtain ⟨A,hA⟩:∃ A,A=(List.range n).map fun i=>(F i).getD j 0:=⟨_,rfl⟩
   have hAl:A.length=n:=by rw [hA]; simp
   have g1:(jB F n).getD j []=A.map limbs:=by
    rw [hA,List.map_map]; exact jm hj
   have g2:(A.map limbs).getD 0 [0,0,0,0]=limbs ((F 0).getD j 0):=by
    have:A.getD 0 0=(F 0).getD j 0:=by rw [hA]; exact jm (by omega)
    rw [← this]; exact getD_map (by omega)
   have hAW:∀ x∈A,x<au:=fun x hx=>by
    rw [hA] at hx
    obtain ⟨i,hi,rfl⟩:=List.mem_map.1 hx
    exact Nat.lt_trans (hFq i (List.mem_range.1 hi) j) h.qW
   have D:=Un h.fld hAW hy (by omega) (by omega)
   rw [hAl] at D
   have E1:=Pb h hc (Nat.lt_trans (hFq 0 (by omega) j) h.qW)
   have E2:=Hr h (Nat.lt_trans (Kv hq0 A y n) h.qW)
   have E3:=Tt h (Nat.lt_trans (Nat.mod_lt (c0^(F 0).getD j 0) hp0) h.pW) (Nat.lt_trans (Nat.mod_lt (g^vg q A y n) hp0) h.pW)
   have hv:(oU p q g c0 F y n).getD j 0=(c0^((F 0).getD j 0)%p)*(g^(vg q A y n)%p)%p:=by rw [hA]; exact jm hj
   have s1:((oU p q g c0 F y n).take j).map limbs++ [limbs ((c0^((F 0).getD j 0)%p)*(g^(vg q A y n)%p)%p)]=((oU p q g c0 F y n).take (j+1)).map limbs:=by
    rw [← hv]; exact kz (f:=limbs) (by omega)
   have c1:nle ((2*(((oU p q g c0 F y n).take j).length+1)+512)*32) 70368744177664=true:=rT (by rw [List.length_take]; omega)
   have d1:decide (j+1=0)=false:=decide_eq_false (by omega)
   have n00:((0:Int) != 0)=false:=rfl
   have w1:IntKind.i64.wrap ((j:Int)+1)=((j+1:Nat):Int):=i64_in _ (by omega)
   simp only [dN.g1,Go.Own.lt,hwl,cK (show (j:Int)<(n:Int) by omega),cond_true,bJ (show (0:Int)≤(j:Int) by omega),Bool.and_self,Int.toNat_natCast,g1,aj,D,n00,cond_false,g2,List.length_map,hAl,cK (show (0:Int)<(n:Int) by omega),E1,E2,E3,Bool.and_false,s1,c1,d1,w1]
  ·intro R
   simp only [dN.g1,Go.Own.lt,dJ (show ¬ (n:Int)<(n:Int) by omega),cond_false]
 have hfl:(oU p q g c0 F y n).length=n:=by unfold oU; simp
 have e:(oU p q g c0 F y n).take n=oU p q g c0 F y n:=List.take_of_length_le (by omega)
 rw [e] at key
 exact key
theorem Tv (h:GF gv p q g) [NeZero q] (hs:uK q) {c0:Nat} (hc:c0<au) (hin:InG p q c0=true) {pts:List Nat} (hp:∀ p∈pts,1≤p∧p≤7) (hd:pts.Nodup) (hn:pts.length≤6) {y:Nat→Nat} (hy:∀ k,y k<au):
  ∃ F,Units q (0::pts) F∧dN.r (some gv) (limbs c0) (xP pts y)=(true,(oU p q g c0 F (ysF y pts.length) (pts.length+1)).map limbs,0):=by
 have hp7:∀ a∈(0::pts),a≤7:=fun a ha=>by
  rcases List.mem_cons.1 ha with rfl|ha
  ·omega
  ·exact (hp a ha).2
 have hnd:(0::pts).Nodup:=List.nodup_cons.2 ⟨fun h0=>by have:=hp 0 h0; omega,hd⟩
 obtain ⟨F,hU,hW⟩:=Md h.fld hs hp7 hnd (by show pts.length+1≤8; omega)
 refine ⟨F,hU,?_⟩
 have hsl:(xP pts y).length=pts.length:=by unfold xP; simp
 have hW2:bF.r (some gv) (ints (0::pts))=(true,jB F (pts.length+1),0):=hW
 have hwl:(jB F (pts.length+1)).length=pts.length+1:=by unfold jB; simp
 have lt_of:∀ {l:List Nat} {k:Nat},(∀ a∈l,a<q)→l.getD k 0<q:=by
  intro l k hl
  rcases Nat.lt_or_ge k l.length with h5|h5
  ·exact hl _ (fF h5)
  ·rw [jD h5]; have:=h.q1; omega
 have L1:=Rk h hc (F:=F) (n:=pts.length+1) (by omega) (by omega) (fun i hi j=>lt_of (hU.lt i hi)) (y:=ysF y pts.length) (fun a ha=>by
  unfold ysF at ha
  rcases List.mem_cons.1 ha with rfl|ha
  ·decide
  ·obtain ⟨k,_,rfl⟩:=List.mem_map.1 ha; exact hy k) (by unfold ysF; simp) false
 have I:=KF h hc
 rw [hin] at I
 have n00:((0:Int) != 0)=false:=rfl
 simp only [dN.r,dN.g,Go.Own.lt,hsl,lQ (show ¬ (7:Int)≤(pts.length:Int) by omega),cond_false,I,aj,Bool.not_true,Rl (some gv) (limbs c0) (fun a ha=>(hp a ha).1) (show pts.length≤1000 by omega) y,show Nat.beq 1 0=false from rfl,hW2,n00,hwl,L1,show Nat.beq 3 0=false from rfl]
end
end Go.Own
set_option linter.unusedVariables false
set_option linter.unusedSimpArgs false
namespace Go.Own
open Go.IntWalk
theorem NY {q:Nat} [NeZero q] {F:Nat→List Nat} {n j:Nat} (b:List Nat):∀ m,m≤n→fz q (vg q ((List.range n).map fun i=>(F i).getD j 0) b m)=Pol.cf (za q F b m) j
 |0,_=>by rw [show za q F b 0= [] from rfl,Pol.jv]; exact lV
 |m+1,hm=>by
  have g:((List.range n).map fun i=>(F i).getD j 0).getD m 0=(F m).getD j 0:=jm (by omega)
  show fz q ((vg q ((List.range n).map fun i=>(F i).getD j 0) b m+((List.range n).map fun i=>(F i).getD j 0).getD m 0*b.getD m 0%q)%q)=Pol.cf (Pol.kW (za q F b m) (Pol.qE (fz q (b.getD m 0)) (toF q (F m)))) j
  rw [mW,sP,NY (q:=q) (F:=F) (n:=n) (j:=j) b m (by omega),mW,vX,g,Pol.iA,Pol.lG,kH]; grind
theorem Dg {q:Nat} [NeZero q] {F:Nat→List Nat} (s:Nat) (ys:List Nat) (j:Nat):∀ m,Pol.cf (za q F (s::ys) (m+1)) j=fz q s*fz q ((F 0).getD j 0)+Pol.cf (za q F (0::ys) (m+1)) j
 |0=>by
  show Pol.cf (Pol.kW [] (Pol.qE (fz q s) (toF q (F 0)))) j=_+Pol.cf (Pol.kW [] (Pol.qE (fz q 0) (toF q (F 0)))) j
  rw [Pol.iA,Pol.iA,Pol.lG,Pol.lG,kH,lV]; grind
 |m+1=>by
  have ih:=Dg (q:=q) (F:=F) s ys j m
  show Pol.cf (Pol.kW (za q F (s::ys) (m+1)) (Pol.qE (fz q ((s::ys).getD (m+1) 0)) (toF q (F (m+1))))) j=_+Pol.cf (Pol.kW (za q F (0::ys) (m+1)) (Pol.qE (fz q (((0:Nat)::ys).getD (m+1) 0)) (toF q (F (m+1))))) j
  rw [Pol.iA,Pol.iA,ih,List.getD_cons_succ,List.getD_cons_succ]; grind
section
variable {gv:d9} {p q g:Nat}
theorem JG (h:GF gv p q g) [NeZero q] (hs:uK q) {f:List Nat} (hf:∀ a∈f,a<au) {pts:List Nat} (hp:∀ p∈pts,1≤p∧p≤7) (hd:pts.Nodup) (hn:pts.length≤6) (hfl:f.length≤pts.length+1):
  dN.r (some gv) (limbs (g^(f.getD 0 0)%p)) (xP pts fun k=>evN q f (pts.getD k 0))=(true,(toN p g f (pts.length+1)).map limbs,0):=by
 have hp0:0<p:=by have:=h.p1; omega
 have hq0:0<q:=by have:=h.q1; omega
 obtain ⟨F,hU,e⟩:=Tv h hs (Nat.lt_trans (Nat.mod_lt (g^(f.getD 0 0)) hp0) h.pW) (NP h _) hp hd hn (y:=fun k=>evN q f (pts.getD k 0)) (fun k=>Nat.lt_trans (A8 hq0 f _) h.qW)
 rw [e]
 obtain ⟨n,hnn⟩:∃ n,n=pts.length+1:=⟨_,rfl⟩
 have hpl:(0::pts).length=n:=hnn.symm
 have hp7:∀ a∈(0::pts),a≤7:=fun a ha=>by
  rcases List.mem_cons.1 ha with rfl|ha
  ·omega
  ·exact (hp a ha).2
 have hnd:(0::pts).Nodup:=List.nodup_cons.2 ⟨fun h0=>by have:=hp 0 h0; omega,hd⟩
 have hapart:=Dn h.q1 h.qW hs hp7 hnd
 obtain ⟨ys,hys⟩:∃ ys,ys=(List.range pts.length).map fun k=>evN q f (pts.getD k 0):=⟨_,rfl⟩
 have hysF:ysF (fun k=>evN q f (pts.getD k 0)) pts.length=0::ys:=by rw [hys]; rfl
 have hPE:Pol.PE (za q F (f.getD 0 0::ys) n) (toF q f):=EW hapart (by
   rw [hpl]
   have:=GQ (q:=q) (ys:=f.getD 0 0::ys) n (fun i hi=>hU.len i (by rw [hpl]; exact hi))
   rw [hpl] at this; exact this) (by unfold toF; rw [List.length_map,hpl]; omega) (fun k hk=>by
  rw [hpl] at hk
  rw [Kr hU _ (by rw [hpl]; exact hk) n (by rw [hpl]; exact Nat.le_refl _),if_pos hk,← vY]
  cases k with
  |zero=>
   rw [List.getD_cons_zero,List.getD_cons_zero,vY]
   cases f with
   |nil=>rfl
   |cons a f=>
    show fz q a=Pol.ev (toF q f) (fz q 0)*fz q 0+fz q a
    rw [lV]; grind
  |succ k=>
   rw [List.getD_cons_succ,List.getD_cons_succ,hys]
   rw [jm (show k<pts.length by omega)])
 congr 2
 rw [hysF,← hnn]
 unfold oU toN
 congr 1
 apply List.map_congr_left
 intro j hj
 obtain ⟨w,hw⟩:∃ w,w=(F 0).getD j 0:=⟨_,rfl⟩
 obtain ⟨d,hdd⟩:∃ d,d=vg q ((List.range n).map fun i=>(F i).getD j 0) (0::ys) n:=⟨_,rfl⟩
 rw [← hw,← hdd]
 have e1:(g^f.getD 0 0%p)^w%p*(g^d%p)%p=g^(f.getD 0 0*w+d)%p:=by
  rw [← Nat.pow_mod,← Nat.pow_mul,← Nat.mul_mod,← Nat.pow_add]
 rw [e1]
 apply Nf h
 apply Oc
 have h1:=hPE j
 have h2:=NY (q:=q) (F:=F) (j:=j) (0::ys) n (Nat.le_refl n)
 have h3:=Dg (q:=q) (F:=F) (f.getD 0 0) ys j pts.length
 rw [← hnn] at h3
 rw [← hdd] at h2
 rw [sP,vX,h2,hw,← h3,h1,kH]
end
theorem QB:∃ gv,GF gv fM jr dh∧kG.r (kU.map gq,(limbs dh,()))=(true,1,(none,0),(0,gv)):=by
 obtain ⟨gv,h,e⟩:=I7
 have h1:Nat.blt jr (2^256)=true:=by kernel_rfl
 have h2:y8 256 dh jr fM=1:=by kernel_rfl
 exact ⟨gv,⟨h,by decide,by decide,by decide,by decide,by decide,(qI 256 _ _ _ (ni h1)).symm.trans h2⟩,e⟩
theorem QA:∃ gv,GF gv oM lD iM∧kG.r (kT.map gq,(limbs iM,()))=(true,1,(none,0),(0,gv)):=by
 obtain ⟨gv,h,e⟩:=I6
 have h1:Nat.blt lD (2^256)=true:=by kernel_rfl
 have h2:y8 256 iM lD oM=1:=by kernel_rfl
 exact ⟨gv,⟨h,by decide,by decide,by decide,by decide,by decide,(qI 256 _ _ _ (ni h1)).symm.trans h2⟩,e⟩
end Go.Own
set_option linter.unusedVariables false
set_option linter.unusedSimpArgs false
namespace Go.Own
open Go.IntWalk
theorem O9:kg.r (kU.map gq,(limbs dh,()))=(true,limbs fM):=by kernel_rfl
theorem O7:kg.r (kT.map gq,(limbs iM,()))=(true,limbs oM):=by kernel_rfl
theorem Pf:fG.r (kU.map gq,(limbs dh,()))=(true,((fM:Int),((jr:Int),((dh:Int),())))):=by
 have l1:=xH fM (by decide)
 have l2:=xH jr (by decide)
 have l3:=xH dh (by decide)
 rw [if_pos (by decide)] at l1 l2 l3
 simp only [fG.r,fG.g,Go.Own.lt,O9,O5,l1,l2,l3,aj]
theorem Pe:fG.r (kT.map gq,(limbs iM,()))=(true,((oM:Int),((lD:Int),((iM:Int),())))):=by
 have l1:=xH oM (by decide)
 have l2:=xH lD (by decide)
 have l3:=xH iM (by decide)
 rw [if_pos (by decide)] at l1 l2 l3
 simp only [fG.r,fG.g,Go.Own.lt,O7,O4,l1,l2,l3,aj]
theorem Cg (which:Int):∃ gv,(GF gv fM jr dh∧cu.r which=(true,some gv,((fM:Int),((jr:Int),((dh:Int),()))),true))∨(GF gv oM lD iM∧cu.r which=(true,some gv,((oM:Int),((lD:Int),((iM:Int),()))),true)∧(eU .i64 (· &&& ·) which (1:Int)== 1)=true):=by
 obtain ⟨g1,h1,e1⟩:=QB
 obtain ⟨g2,h2,e2⟩:=QA
 have z:((0:Int)== 0)=true:=rfl
 obtain ⟨b,hb⟩:∃ b,b=(eU .i64 (· &&& ·) which (1:Int)== 1):=⟨_,rfl⟩
 cases b with
 |true=>
  refine ⟨g2,.inr ⟨h2,?_,hb.symm⟩⟩
  simp only [cu.r,cu.g,gD.r,gD.g,Go.Own.lt,← hb,cond_true,iZ.gB,Ra,aj,e2,show Nat.beq 1 0=false from rfl,cond_false,Pe,z]
 |false=>
  refine ⟨g1,.inl ⟨h1,?_⟩⟩
  simp only [cu.r,cu.g,gD.r,gD.g,Go.Own.lt,← hb,cond_false,ja.gB,Rh,aj,e1,show Nat.beq 1 0=false from rfl,Pf,z]
theorem Ac (n:Nat) (h:n<9223372036854775808):bU.r (n:Int)=(true,limbs n):=by
 have:=Pt (n:Int) (by omega)
 simp only [bU.r,bU.g,Go.Own.lt,this,aj,Int.toNat_natCast]
theorem PX:Nat.beq (dh^11%fM) (atN fM (toN fM dh [5,2] 2) 3)=true:=by kernel_rfl
theorem PW:Nat.beq (dh^12%fM) (atN fM (toN fM dh [5,2] 2) 3)=false:=by kernel_rfl
theorem RS:Nat.beq (atN fM (toN fM dh [5,2] 2) 0) (dh^5%fM)=true:=by kernel_rfl
theorem T9:Nat.beq (evN jr [5,2] 3) 11=true:=by kernel_rfl
theorem Ma:eX.r=(true,true):=by
 obtain ⟨gv,hc⟩:=Cg 0
 have hb0:(eU .i64 (· &&& ·) (0:Int) (1:Int)== 1)=false:=by kernel_rfl
 rcases hc with ⟨h,hs⟩|⟨_,_,hb⟩
 case inr=>rw [hb0] at hb; cases hb
 have hne:NeZero jr:=⟨by decide⟩
 have o5:bU.r 5=(true,limbs 5):=Ac 5 (by decide)
 have o2:bU.r 2=(true,limbs 2):=Ac 2 (by decide)
 have o11:bU.r 11=(true,limbs 11):=Ac 11 (by decide)
 have o12:bU.r 12=(true,limbs 12):=Ac 12 (by decide)
 have hf:∀ a∈ [5,2],a<au:=by decide
 obtain ⟨C,hC⟩:∃ C,C=toN fM dh [5,2] 2:=⟨_,rfl⟩
 have T:ic.r (some gv) [limbs 5,limbs 2] 2=(true,C.map limbs,0):=by
  rw [hC]
  exact UG h hf (n:=2) (by decide) (by decide) (by decide) (JN _ _)
 have hCl:C.length=2:=by rw [hC]; exact P6
 have hCp:∀ a∈C,a<fM:=by rw [hC]; exact RU h
 have hCW:∀ a∈C,a<au:=fun a ha=>Nat.lt_trans (hCp a ha) h.pW
 have hCi:∀ a∈C,InG fM jr a=true:=by rw [hC]; exact Sz h _ _
 have g0:(C.map limbs).getD 0 [0,0,0,0]=limbs (dh^5%fM):=by
  have:C.getD 0 0=dh^5%fM:=by rw [hC]; rfl
  rw [← this]; exact getD_map (by omega)
 have Fr:dN.r (some gv) (limbs (dh^5%fM)) [(3,(limbs 11,()))]=(true,C.map limbs,0):=by
  have:=JG h vz hf (pts:= [3]) (by decide) (by decide) (by decide) (by decide)
  have e:xP [3] (fun k=>evN jr [5,2] ([3].getD k 0))= [(3,(limbs 11,()))]:=by
   show [((3:Int),(limbs (evN jr [5,2] 3),()))]=_
   rw [Nat.eq_of_beq_eq_true T9]
  rw [e] at this
  rw [hC]; exact this
 have H11:bZ.r (some gv) (C.map limbs) (3,(limbs 11,()))=(true,true):=by
  have:=KI h hCW (by omega) (by omega) hCi (i:=3) (y:=11) (by decide) (by decide) (by decide)
  rw [decide_eq_true (by rw [hC]; exact Nat.eq_of_beq_eq_true PX)] at this
  exact this
 have H12:bZ.r (some gv) (C.map limbs) (3,(limbs 12,()))=(true,false):=by
  have:=KI h hCW (by omega) (by omega) hCi (i:=3) (y:=12) (by decide) (by decide) (by decide)
  rw [decide_eq_false (by rw [hC]; intro e; have:=PW; rw [e] at this; simp at this)] at this
  exact this
 have A0:ig.r (some gv) (C.map limbs) 0=(true,limbs (dh^5%fM)):=by
  have:=Tx h hCW (by omega) (i:=0) (by decide)
  rw [hC,Nat.eq_of_beq_eq_true RS,← hC] at this
  exact this
 have M:=Po h hCW (by omega) (by omega) hCi
 have E:bQ.r ((fM:Int),((jr:Int),((dh:Int),()))) (dh:Int) (limbs 5)=(true,((dh^5%fM:Nat):Int)):=by
  simp only [bQ.r,bQ.g,Go.Own.lt,Hq dh 5 fM (by decide) (by decide) (by decide),aj]
 have hx:dh^5%fM<fM:=Nat.mod_lt _ (by decide)
 have hpL:fM<9223372036854775808:=by decide
 have oX:=Ac (dh^5%fM) (by omega)
 have hxW:dh^5%fM<au:=Nat.lt_trans hx h.pW
 have EQ:=eqL hxW hxW
 rw [decide_eq_true rfl] at EQ
 have S:=O0 (C.map limbs) (by rw [List.length_map]; omega)
 generalize dh^5%fM=X at*
 have n00:((0:Int) != 0)=false:=rfl
 have z00:((0:Int)== 0)=true:=rfl
 have n22:(((2:Nat):Int) != 2)=false:=rfl
 have i02:ilt (0:Int) ((2:Nat):Int)=true:=rfl
 simp only [eX.r,eX.g,Go.Own.lt,cu.gB,hs,bU.gB,o5,o2,o11,o12,ic.gB,T,aj,Bool.not_true,cond_false,n00,List.length_map,hCl,n22,g0,i02,dN.gB,Fr,bZ.gB,H11,cond_true,H12,Bool.not_false,cO.gB,S,z00,ig.gB,A0,bQ.gB,E,oX,EQ,gu.gB,M]
end Go.Own
set_option linter.unusedVariables false
set_option linter.unusedSimpArgs false
namespace Go.Own
open Go.IntWalk
abbrev jT (p q g:Nat):Int×Int×Int×Unit:=((p:Int),((q:Int),((g:Int),())))
theorem yg {α:Type} {P:α→Bool} {d:α}:∀ (c:List α),c.all P=false→∃ k,k<c.length∧P (c.getD k d)=false∧∀ j,j<k→P (c.getD j d)=true
 | [],h=>by cases h
 |a::c,h=>by
  cases ha:P a with
  |false=>exact ⟨0,by simp,ha,fun j hj=>absurd hj (Nat.not_lt_zero _)⟩
  |true=>
   rw [List.all_cons,ha,Bool.true_and] at h
   obtain ⟨k,h1,h2,h3⟩:=yg (d:=d) c h
   refine ⟨k+1,by simpa using h1,by simpa using h2,fun j hj=> ?_⟩
   cases j with
   |zero=>exact ha
   |succ j=>simpa using h3 j (by omega)
def D9 (p q:Nat) (c:List Nat):Bool:=decide (1≤c.length)&&(decide (c.length≤7)&&c.all (InG p q))
section
variable {gv:d9} {p q g:Nat}
theorem Mi (h:GF gv p q g) {c:List Nat} (hc:∀ a∈c,a<au) (hl:c.length≤1073741824) {k:Nat} (hk:k<c.length) (hb:InG p q (c.getD k 0)=false) (ha:∀ j,j<k→InG p q (c.getD j 0)=true):
  aB.l0 (c.map limbs,(),0,(c.length:Int),((0:Nat):Int),()) (some gv,())=(true,0,(c.map limbs,(),0,(c.length:Int),(k:Int),()),(some gv,()),((k:Int),()),(some gv,())):=by
 refine bK (g:=fun rq kn ke kr x y=>aB.g0 rq kn ke kr x y) k (fun j=>(c.map limbs,(),0,(c.length:Int),(j:Int),())) (fun _=>(some gv,())) _ ?_ ?_ _ 0 (Nat.zero_le _) (by show k - 0<((c.length:Int) - ((0:Nat):Int)).toNat+1; omega)
 ·intro j R hj
  have g1:(c.map limbs).getD j [0,0,0,0]=limbs (c.getD j 0):=getD_map (by omega)
  have I1:=KF h (hc _ (fF (show j<c.length by omega)))
  rw [ha j hj] at I1
  have w1:IntKind.i64.wrap ((j:Int)+1)=((j+1:Nat):Int):=i64_in _ (by omega)
  simp only [aB.g0,jd.r,jd.g,Go.Own.lt,List.length_map,cK (show (j:Int)<(c.length:Int) by omega),bJ (show (0:Int)≤(j:Int) by omega),Bool.and_self,cond_true,Int.toNat_natCast,g1,I1,aj,Bool.not_true,cond_false,w1]
 ·intro R
  have g1:(c.map limbs).getD k [0,0,0,0]=limbs (c.getD k 0):=getD_map hk
  have I1:=KF h (hc _ (fF hk))
  rw [hb] at I1
  simp only [aB.g0,jd.r,jd.g,Go.Own.lt,List.length_map,cK (show (k:Int)<(c.length:Int) by omega),bJ (show (0:Int)≤(k:Int) by omega),Bool.and_self,cond_true,Int.toNat_natCast,g1,I1,aj,Bool.not_false]
theorem Tp (h:GF gv p q g) {c:List Nat} (hc:∀ a∈c,a<au):gu.r (some gv) (c.map limbs)=(true,D9 p q c):=by
 unfold D9
 by_cases h1:1≤c.length
 ·by_cases h7:c.length≤7
  ·rw [decide_eq_true h1,decide_eq_true h7,Bool.true_and,Bool.true_and]
   cases hall:c.all (InG p q) with
   |true=>exact Po h hc h1 h7 (List.all_eq_true.1 hall)
   |false=>
    obtain ⟨k,k1,k2,k3⟩:=yg (d:=0) c hall
    have key:aB.l0 (c.map limbs,(),0,(c.length:Int),0,()) (some gv,())=_:=Mi h hc (by omega) k1 k2 k3
    simp only [gu.r,gu.g,bN.r,bN.g,aB.r,aB.g,Go.Own.lt,List.length_map,bJ (show (1:Int)≤(c.length:Int) by omega),bJ (show (c.length:Int)≤7 by omega),cond_true,key,aj,show Nat.beq 0 0=true from rfl,bJ (show (0:Int)≤(k:Int) by omega),Bool.not_true]
  ·rw [decide_eq_false h7,Bool.false_and,Bool.and_false]
   simp only [gu.r,gu.g,Go.Own.lt,List.length_map,bJ (show (1:Int)≤(c.length:Int) by omega),lQ (show ¬ (c.length:Int)≤7 by omega),cond_true,cond_false]
 ·rw [decide_eq_false h1,Bool.false_and]
  simp only [gu.r,gu.g,Go.Own.lt,List.length_map,lQ (show ¬ (1:Int)≤(c.length:Int) by omega),cond_false]
def Em (p q g:Nat) (c:List Nat) (i:Int) (y:Nat):Bool:=decide (1≤i)&&(decide (i≤7)&&(decide (y<q)&&(D9 p q c&&decide (g^y%p=atN p c i.toNat))))
theorem Pw (h:GF gv p q g) {c:List Nat} (hc:∀ a∈c,a<au) {i:Int} {y:Nat} (hy:y<au):bZ.r (some gv) (c.map limbs) (i,(limbs y,()))=(true,Em p q g c i y):=by
 obtain ⟨rq,inv,hR,hF⟩:=h.fld.field
 have hp0:0<p:=by have:=h.p1; omega
 have I:=Rj hR hy
 unfold Em
 by_cases h1:1≤i
 ·rw [decide_eq_true h1,Bool.true_and]
  by_cases h7:i≤7
  ·rw [decide_eq_true h7,Bool.true_and]
   by_cases hq:y<q
   ·rw [decide_eq_true hq] at I
    rw [decide_eq_true hq,Bool.true_and]
    have M:=Tp h hc
    cases hm:D9 p q c with
    |true=>
     rw [hm] at M
     have hl:c.length≤7:=by
      unfold D9 at hm
      simp only [Bool.and_eq_true,decide_eq_true_eq] at hm
      exact hm.2.1
     obtain ⟨n,rfl⟩:∃ n:Nat,i=(n:Int):=⟨i.toNat,by omega⟩
     have A:=Tx h hc hl (i:=n) (by omega)
     have E:=eqL (Nat.lt_trans (Nat.mod_lt (g^y) hp0) h.pW) (Nat.lt_trans (show atN p c n<p from Nat.mod_lt _ hp0) h.pW)
     simp only [bZ.r,bZ.g,lm.r,lm.g,Go.Own.lt,bJ h1,bJ h7,cond_true,hF,I,aj,M,Hr h hy,A,E,Bool.true_and,Int.toNat_natCast]
    |false=>
     rw [hm] at M
     simp only [bZ.r,bZ.g,lm.r,lm.g,Go.Own.lt,bJ h1,bJ h7,cond_true,hF,I,aj,M,cond_false,Bool.false_and]
   ·rw [decide_eq_false hq] at I
    rw [decide_eq_false hq,Bool.false_and]
    simp only [bZ.r,bZ.g,lm.r,lm.g,Go.Own.lt,bJ h1,bJ h7,cond_true,hF,I,aj,cond_false]
  ·rw [decide_eq_false h7,Bool.false_and]
   simp only [bZ.r,bZ.g,Go.Own.lt,bJ h1,lQ h7,cond_true,cond_false]
 ·rw [decide_eq_false h1,Bool.false_and]
  simp only [bZ.r,bZ.g,Go.Own.lt,lQ h1,cond_false]
end
section
variable {p q g:Nat}
theorem JD (hp:1<p) (hp2:p<4611686018427387904) (a e:Nat) (he:e<au):bQ.r (jT p q g) (a:Int) (limbs e)=(true,((a^e%p:Nat):Int)):=by
 simp only [bQ.r,bQ.g,Go.Own.lt,Hq a e p hp (by omega) he,aj]
theorem Q0 (hp:1<p) (hp2:p<4611686018427387904) (a b:Nat):iT.r (jT p q g) (a:Int) (b:Int)=(true,((a*b%p:Nat):Int)):=by
 simp only [iT.r,iT.g,Go.Own.lt,EG a b p (by omega) (by omega),aj]
theorem Pv (n:Nat) (h:n<9223372036854775808):aM.r (n:Int)=(true,limbs n):=by
 have:=Pt (n:Int) (by omega)
 rw [Int.toNat_natCast] at this; exact this
theorem O1 (hp:1<p) (hp2:p<4611686018427387904) (hq2:q<4611686018427387904) {a:Nat} (ha:a<au):dX.r (jT p q g) (limbs a)=(true,InG p q a):=by
 have L:=xH a ha
 have Q:=Pv q (by omega)
 unfold InG
 by_cases h63:a<9223372036854775808
 ·rw [if_pos h63] at L
  by_cases h0:a=0
  ·rw [decide_eq_false (show ¬ ¬ a=0 by omega),Bool.false_and]
   simp only [dX.r,dX.g,Go.Own.lt,L,aj,cond_true,dJ (show ¬ (0:Int)<(a:Int) by omega),cond_false]
  ·rw [decide_eq_true h0,Bool.true_and]
   by_cases hap:a<p
   ·have E:=JD (q:=q) (g:=g) hp hp2 a q (by unfold au; omega)
    have e1:(((a^q%p:Nat):Int)== 1)=decide (a^q%p=1):=by
     rw [Bool.eq_iff_iff,beq_iff_eq,decide_eq_true_eq]; omega
    rw [decide_eq_true hap,Bool.true_and]
    simp only [dX.r,dX.g,Go.Own.lt,L,aj,cond_true,cK (show (0:Int)<(a:Int) by omega),cK (show (a:Int)<(p:Int) by omega),Q,E,e1]
   ·rw [decide_eq_false hap,Bool.false_and]
    simp only [dX.r,dX.g,Go.Own.lt,L,aj,cond_true,cK (show (0:Int)<(a:Int) by omega),dJ (show ¬ (a:Int)<(p:Int) by omega),cond_false]
 ·rw [if_neg h63] at L
  rw [decide_eq_false (show ¬ a<p by omega),Bool.false_and,Bool.and_false]
  simp only [dX.r,dX.g,Go.Own.lt,L,aj,cond_false]
theorem Ta (hp:1<p) (hp2:p<4611686018427387904) (hq2:q<4611686018427387904) {c:List Nat} (hc:∀ a∈c,a<au) (hl:c.length≤1073741824):aT.r (jT p q g) (c.map limbs)=(true,D9 p q c):=by
 unfold D9
 cases hall:c.all (InG p q) with
 |true=>
  have ha:=List.all_eq_true.1 hall
  have key:aT.l0 (c.map limbs,(),false,((0:Nat):Int),()) (jT p q g,())=(true,1,(c.map limbs,(),false,(c.length:Int),()),(jT p q g,()),(false,()),()):=by
   refine bK (g:=fun rq kn ke kr x y=>aT.g0 rq kn ke kr x y) c.length (fun j=>(c.map limbs,(),false,(j:Int),())) (fun _=>(jT p q g,())) _ ?_ ?_ _ 0 (Nat.zero_le _) (by show c.length - 0<(((c.map limbs).length:Int) - ((0:Nat):Int)).toNat+1; rw [List.length_map]; omega)
   ·intro j R hj
    have g1:(c.map limbs).getD j [0,0,0,0]=limbs (c.getD j 0):=getD_map hj
    have I1:=O1 (g:=g) hp hp2 hq2 (hc _ (fF hj))
    rw [ha _ (fF hj)] at I1
    have w1:IntKind.i64.wrap ((j:Int)+1)=((j+1:Nat):Int):=i64_in _ (by omega)
    simp only [aT.g0,Go.Own.lt,List.length_map,cK (show (j:Int)<(c.length:Int) by omega),bJ (show (0:Int)≤(j:Int) by omega),Bool.and_self,cond_true,Int.toNat_natCast,g1,I1,aj,Bool.not_true,cond_false,w1]
   ·intro R
    simp only [aT.g0,Go.Own.lt,List.length_map,dJ (show ¬ (c.length:Int)<(c.length:Int) by omega),cond_false]
  have k2:aT.l0 (c.map limbs,(),false,0,()) (jT p q g,())=_:=key
  rw [Bool.and_true]
  by_cases h1:1≤c.length
  ·rw [decide_eq_true h1,Bool.true_and]
   by_cases h7:c.length≤7
   ·rw [decide_eq_true h7]
    simp only [aT.r,aT.g,Go.Own.lt,k2,aj,show Nat.beq 1 0=false from rfl,cond_false,List.length_map,bJ (show (1:Int)≤(c.length:Int) by omega),cond_true,bJ (show (c.length:Int)≤7 by omega)]
   ·rw [decide_eq_false h7]
    simp only [aT.r,aT.g,Go.Own.lt,k2,aj,show Nat.beq 1 0=false from rfl,cond_false,List.length_map,bJ (show (1:Int)≤(c.length:Int) by omega),cond_true,lQ (show ¬ (c.length:Int)≤7 by omega)]
  ·rw [decide_eq_false h1,Bool.false_and]
   simp only [aT.r,aT.g,Go.Own.lt,k2,aj,show Nat.beq 1 0=false from rfl,cond_false,List.length_map,lQ (show ¬ (1:Int)≤(c.length:Int) by omega)]
 |false=>
  obtain ⟨k,k1,k2,k3⟩:=yg (d:=0) c hall
  have key:aT.l0 (c.map limbs,(),false,((0:Nat):Int),()) (jT p q g,())=(true,0,(c.map limbs,(),false,(k:Int),()),(jT p q g,()),(false,()),()):=by
   refine bK (g:=fun rq kn ke kr x y=>aT.g0 rq kn ke kr x y) k (fun j=>(c.map limbs,(),false,(j:Int),())) (fun _=>(jT p q g,())) _ ?_ ?_ _ 0 (Nat.zero_le _) (by show k - 0<(((c.map limbs).length:Int) - ((0:Nat):Int)).toNat+1; rw [List.length_map]; omega)
   ·intro j R hj
    have g1:(c.map limbs).getD j [0,0,0,0]=limbs (c.getD j 0):=getD_map (by omega)
    have I1:=O1 (g:=g) hp hp2 hq2 (hc _ (fF (show j<c.length by omega)))
    rw [k3 j hj] at I1
    have w1:IntKind.i64.wrap ((j:Int)+1)=((j+1:Nat):Int):=i64_in _ (by omega)
    simp only [aT.g0,Go.Own.lt,List.length_map,cK (show (j:Int)<(c.length:Int) by omega),bJ (show (0:Int)≤(j:Int) by omega),Bool.and_self,cond_true,Int.toNat_natCast,g1,I1,aj,Bool.not_true,cond_false,w1]
   ·intro R
    have g1:(c.map limbs).getD k [0,0,0,0]=limbs (c.getD k 0):=getD_map k1
    have I1:=O1 (g:=g) hp hp2 hq2 (hc _ (fF k1))
    rw [k2] at I1
    simp only [aT.g0,Go.Own.lt,List.length_map,cK (show (k:Int)<(c.length:Int) by omega),bJ (show (0:Int)≤(k:Int) by omega),Bool.and_self,cond_true,Int.toNat_natCast,g1,I1,aj,Bool.not_false]
  have k2:aT.l0 (c.map limbs,(),false,0,()) (jT p q g,())=_:=key
  rw [Bool.and_false,Bool.and_false]
  simp only [aT.r,aT.g,Go.Own.lt,k2,aj,show Nat.beq 0 0=true from rfl,cond_true]
end
end Go.Own
set_option linter.unusedVariables false
set_option linter.unusedSimpArgs false
namespace Go.Own
open Go.IntWalk
section
variable {p q g:Nat}
theorem Q5 (hp:1<p) (hp2:p<4611686018427387904) {c:List Nat} (hc:∀ a∈c,a<au) (h7:c.length≤7) {i:Nat} (hi:i≤7):dW.r (jT p q g) (c.map limbs) (i:Int)=(true,(atN p c i:Int)):=by
 have pw:∀ j,j≤7→i^j≤823543:=fun j hj=>Nat.le_trans (Nat.pow_le_pow_left hi j) (Nat.le_trans (Nat.pow_le_pow_right (by decide) hj) (by decide))
 obtain ⟨E,hE⟩:∃ E,E=(List.range c.length).map fun j=>i^j:=⟨_,rfl⟩
 have hEl:E.length=c.length:=by rw [hE]; simp
 have key:dW.l0 (c.map limbs,(i:Int),(),0,((fI (fun e=>e) (c.take 0) (E.take 0)%p:Nat):Int),((i^0:Nat):Int),((0:Nat):Int),()) (jT p q g,())=(true,1,(c.map limbs,(i:Int),(),0,((fI (fun e=>e) (c.take c.length) (E.take c.length)%p:Nat):Int),((i^c.length:Nat):Int),(c.length:Int),()),(jT p q g,()),(),()):=by
  refine bK (g:=fun rq kn ke kr x y=>dW.g0 rq kn ke kr x y) c.length (fun j=>(c.map limbs,(i:Int),(),0,((fI (fun e=>e) (c.take j) (E.take j)%p:Nat):Int),((i^j:Nat):Int),(j:Int),())) (fun _=>(jT p q g,())) _ ?_ ?_ _ 0 (Nat.zero_le _) (by show c.length - 0<(((c.map limbs).length:Int) - ((0:Nat):Int)).toNat+1; rw [List.length_map]; omega)
  ·intro j R hj
   have hpj:=pw j (by omega)
   have hpj1:=pw (j+1) (by omega)
   have g1:(c.map limbs).getD j [0,0,0,0]=limbs (c.getD j 0):=getD_map hj
   have b1:=UK (c.getD j 0) p (hc _ (fF hj)) (by omega) (by omega)
   have i1:=Pv (i^j) (by omega)
   have e1:=JD (q:=q) (g:=g) hp hp2 (c.getD j 0%p) (i^j) (by unfold au; omega)
   have m1:=Q0 (q:=q) (g:=g) hp hp2 (fI (fun e=>e) (c.take j) (E.take j)%p) ((c.getD j 0%p)^(i^j)%p)
   have gE:E.getD j 0=i^j:=by rw [hE]; exact jm hj
   have s1:fI (fun e=>e) (c.take j) (E.take j)%p*((c.getD j 0%p)^(i^j)%p)%p=fI (fun e=>e) (c.take (j+1)) (E.take (j+1))%p:=by
    rw [vL (fun e=>e) c E j hj (by omega),gE,← Nat.pow_mod,← Nat.mul_mod]
   rw [s1] at m1
   have e2:((i^j:Nat):Int)*(i:Int)=((i^(j+1):Nat):Int):=by rw [Nat.pow_succ,Int.natCast_mul]
   have w0:IntKind.i64.wrap ((i^(j+1):Nat):Int)=((i^(j+1):Nat):Int):=i64_in _ (by omega)
   have w1:IntKind.i64.wrap ((j:Int)+1)=((j+1:Nat):Int):=i64_in _ (by omega)
   simp only [dW.g0,Go.Own.lt,List.length_map,cK (show (j:Int)<(c.length:Int) by omega),cond_true,bJ (show (0:Int)≤(j:Int) by omega),Bool.and_self,Int.toNat_natCast,g1,aj,b1,i1,e1,m1,e2,w0,w1]
  ·intro R
   simp only [dW.g0,Go.Own.lt,List.length_map,dJ (show ¬ (c.length:Int)<(c.length:Int) by omega),cond_false]
 have et1:c.take c.length=c:=List.take_of_length_le (Nat.le_refl _)
 have et2:E.take c.length=E:=List.take_of_length_le (by omega)
 rw [et1,et2] at key
 have e0:fI (fun e=>e) (c.take 0) (E.take 0)%p=1:=Nat.mod_eq_of_lt hp
 rw [e0] at key
 have k2:dW.l0 (c.map limbs,(i:Int),(),0,1,1,0,()) (jT p q g,())=_:=key
 unfold atN
 rw [← hE]
 simp only [dW.r,dW.g,Go.Own.lt,k2,aj]
theorem O3 (hp:1<p) (hp2:p<4611686018427387904) (hq2:q<4611686018427387904) {c:List Nat} (hc:∀ a∈c,a<au) (hl:c.length≤1073741824) {i:Int} {y:Nat} (hy:y<au):bI.r (jT p q g) (c.map limbs) (i,(limbs y,()))=(true,Em p q g c i y):=by
 have L:=xH y hy
 have M:=Ta (g:=g) hp hp2 hq2 hc hl
 obtain ⟨Lx,hLx⟩:∃ Lx,Lx=aW.r (limbs y):=⟨_,rfl⟩
 have L1:Lx.1=true:=by rw [hLx,L]
 have L2:Lx.2.2=decide (y<9223372036854775808):=by
  rw [hLx,L]
  by_cases h:y<9223372036854775808
  ·rw [if_pos h,decide_eq_true h]
  ·rw [if_neg h,decide_eq_false h]
 unfold Em
 cases hm:D9 p q c with
 |false=>
  rw [hm] at M
  rw [Bool.false_and,Bool.and_false,Bool.and_false,Bool.and_false]
  simp only [bI.r,bI.g,Go.Own.lt,← hLx,L1,M,aj,cond_false]
 |true=>
  rw [hm] at M
  rw [Bool.true_and]
  have hl7:c.length≤7:=by
   unfold D9 at hm
   simp only [Bool.and_eq_true,decide_eq_true_eq] at hm
   exact hm.2.1
  by_cases h1:1≤i
  ·rw [decide_eq_true h1,Bool.true_and]
   by_cases h7:i≤7
   ·rw [decide_eq_true h7,Bool.true_and]
    by_cases h63:y<9223372036854775808
    ·rw [decide_eq_true h63] at L2
     have L3:Lx.2.1=(y:Int):=by rw [hLx,L,if_pos h63]
     by_cases hq:y<q
     ·obtain ⟨n,rfl⟩:∃ n:Nat,i=(n:Int):=⟨i.toNat,by omega⟩
      have A:=Q5 (q:=q) (g:=g) hp hp2 hc hl7 (i:=n) (by omega)
      have E:=JD (q:=q) (g:=g) hp hp2 g y hy
      have e1:(((g^y%p:Nat):Int)== (atN p c n:Int))=decide (g^y%p=atN p c n):=by
       rw [Bool.eq_iff_iff,beq_iff_eq,decide_eq_true_eq]; omega
      rw [decide_eq_true hq,Bool.true_and]
      simp only [bI.r,bI.g,Go.Own.lt,← hLx,L1,M,aj,cond_true,bJ h1,bJ h7,L2,L3,cK (show (y:Int)<(q:Int) by omega),E,A,e1,Int.toNat_natCast]
     ·rw [decide_eq_false hq,Bool.false_and]
      simp only [bI.r,bI.g,Go.Own.lt,← hLx,L1,M,aj,cond_true,bJ h1,bJ h7,L2,L3,dJ (show ¬ (y:Int)<(q:Int) by omega),cond_false]
    ·rw [decide_eq_false h63] at L2
     rw [decide_eq_false (show ¬ y<q by omega),Bool.false_and]
     simp only [bI.r,bI.g,Go.Own.lt,← hLx,L1,M,aj,cond_true,bJ h1,bJ h7,L2,cond_false]
   ·rw [decide_eq_false h7,Bool.false_and]
    simp only [bI.r,bI.g,Go.Own.lt,← hLx,L1,M,aj,cond_true,bJ h1,lQ h7,cond_false]
  ·rw [decide_eq_false h1,Bool.false_and]
   simp only [bI.r,bI.g,Go.Own.lt,← hLx,L1,M,aj,cond_true,lQ h1,cond_false]
end
theorem KW (which:Int):∃ gv p q g,GF gv p q g∧uK q∧p<4611686018427387904∧q<4611686018427387904∧cu.r which=(true,some gv,jT p q g,true):=by
 obtain ⟨gv,h⟩:=Cg which
 rcases h with ⟨h,e⟩|⟨h,e,_⟩
 ·exact ⟨gv,_,_,_,h,vz,by decide,by decide,e⟩
 ·exact ⟨gv,_,_,_,h,BI,by decide,by decide,e⟩
theorem BO {c:List (List Int)} (hc:Ty.ok (.sl (.arr 4 (.int .u64))) c):∃ l:List Nat,c=l.map limbs∧∀ a∈l,a<au:=by
 refine Ap c ?_
 first
 |exact hc
 |exact hc.2
 |exact hc.1
theorem L9 (b:Bool):(b== b)=true:=by cases b<;>rfl
theorem yF (which:Int) (c:List (List Int)) (i:Int) (y:Nat) (hc:Ty.ok (.sl (.arr 4 (.int .u64))) c) (hy:y<au):bn.r which c (i,(limbs y,()))=(true,true):=by
 obtain ⟨l,rfl,hl⟩:=BO hc
 have aw:=Ma
 by_cases h9:(9:Int)<(l.length:Int)
 ·simp only [bn.r,bn.g,Go.Own.lt,List.length_map,cK h9,cond_true,eX.gB,aw,aj]
 obtain ⟨gv,p,q,g,h,hs,hp2,hq2,e⟩:=KW which
 have H:=Pw h hl (i:=i) hy
 have R:=O3 (g:=g) h.p1 hp2 hq2 hl (by omega) (i:=i) hy
 simp only [bn.r,bn.g,Go.Own.lt,List.length_map,dJ h9,cond_false,e,aj,cond_true,H,R,L9,eX.gB,aw]
theorem bn.pure (which:Int) (c:List (List Int)) (x:OY) (hw:Ty.ok (.int .i64) which) (hc:Ty.ok (.sl (.arr 4 (.int .u64))) c) (hx:Ty.ok iV x):bn.r which c x=(true,true):=by
 obtain ⟨i,y,⟨⟩⟩:=x
 obtain ⟨n,hn,rfl⟩:=FX hx.2.1
 exact yF which c i n hc hn
end Go.Own
