/- What is proved: what the printed functions answer, in plain numbers and lists. Conditions: those that each theorem names. -/
import Derived.Test.YtnighkkdmgmcnaaGreatPure1
set_option linter.unusedVariables false
set_option linter.unusedSimpArgs false
set_option linter.unusedVariables false
set_option linter.unusedSimpArgs false
namespace Go.Own
open Go.IntWalk
theorem Ll:iP.r=(true,((),(limbs kI,())),(false,nC.map dW)):=by kernel_rfl
theorem JY (a:Int):∃ n:Nat,n≤255∧eP .i64 (· &&& ·) a (255:Int)=(n:Int):=by
 have h:(BitVec.ofInt 64 a&&& BitVec.ofInt 64 255).toNat≤255:=by
  rw [BitVec.toNat_and]
  exact Nat.and_le_right
 refine ⟨(BitVec.ofInt 64 a&&& BitVec.ofInt 64 255).toNat,h,?_⟩
 show IntKind.i64.wrap _=_
 exact rW _ (Nat.lt_of_le_of_lt h (by decide))
def ow (m k:Nat):List Nat:=(List.range k).map fun j=>(m+j)%7+1
theorem zU (m k:Nat):(ow m k).length=k:=by unfold ow; simp
theorem HY {m k a:Nat} (h:a∈ow m k):1≤a∧a≤7:=by
 unfold ow at h
 obtain ⟨j,_,rfl⟩:=List.mem_map.1 h
 omega
theorem Du {m k:Nat} (h:k≤7):(ow m k).Nodup:=by
 unfold ow
 refine List.pairwise_iff_getElem.2 fun i j hi hj hij=> ?_
 simp only [List.length_map,List.length_range] at hi hj
 simp only [List.getElem_map,List.getElem_range]
 omega
theorem LV {q:Nat} {f:List Nat} (m k:Nat):(List.range k).map (fun j=>qE q f ((m+j)%7+1))=uN (ow m k) fun j=>evN q f ((ow m k).getD j 0):=by
 unfold uN
 rw [zU]
 apply List.map_congr_left
 intro j hj
 have e:(ow m k).getD j 0=(m+j)%7+1:=iM (List.mem_range.1 hj)
 simp only [e]; rfl
theorem RB {q:Nat} (f:List Nat) (gx:Option dD) (C:List (List Int)) (liars:Int) {m n:Nat} (hm:m≤255) (hand:eP .i64 (· &&& ·) liars (255:Int)=(m:Int)) (h1:1≤n) (h7:n≤7):
  aC.l0 (liars,false,(n:Int),gx,C,lU q f 7,(),0,()) ((true,[]),())=(true,1,(liars,false,(n:Int),gx,C,lU q f 7,(),((n - 1:Nat):Int),()),((decide (n - 1=0),uN (ow m (n - 1)) fun j=>evN q f ((ow m (n - 1)).getD j 0)),()),(),()):=by
 have hdl:(lU q f 7).length=7:=by unfold lU; simp
 have wn:IntKind.i64.wrap ((n:Int) - 1)=((n - 1:Nat):Int):=by rw [i64_in _ (by omega)]; omega
 have key:aC.l0 (liars,false,(n:Int),gx,C,lU q f 7,(),((0:Nat):Int),()) ((decide (0=0),(List.range 0).map fun j=>qE q f ((m+j)%7+1)),())=(true,1,(liars,false,(n:Int),gx,C,lU q f 7,(),((n - 1:Nat):Int),()),((decide (n - 1=0),(List.range (n - 1)).map fun j=>qE q f ((m+j)%7+1)),()),(),()):=by
  refine bL (g:=fun rq kn ke kr x y=>aC.g0 rq kn ke kr x y) (n - 1) (fun k=>(liars,false,(n:Int),gx,C,lU q f 7,(),(k:Int),())) (fun k=>((decide (k=0),(List.range k).map fun j=>qE q f ((m+j)%7+1)),())) _ ?_ ?_ _ 0 (Nat.zero_le _) (by show n - 1 - 0<((7:Int) - ((0:Nat):Int)).toNat+1; omega)
  ·intro k R hk
   have w1:IntKind.i64.wrap ((k:Int)+1)=((k+1:Nat):Int):=i64_in _ (by omega)
   have w2:IntKind.i64.wrap ((m:Int)+(k:Int))=((m+k:Nat):Int):=i64_in _ (by omega)
   have ht:(((m+k:Nat):Int)).tmod 7=(((m+k)%7:Nat):Int):=yZ (m+k) 7
   have g1:(lU q f 7).getD ((m+k)%7) (0,([0,0,0,0],()))=qE q f ((m+k)%7+1):=iM (Nat.mod_lt _ (by decide))
   have r1:(ile 0 (((m+k)%7:Nat):Int)&&ilt (((m+k)%7:Nat):Int) ((7:Nat):Int))=true:=rng (Nat.mod_lt _ (by decide))
   have c1:nle ((2*(k+1)+512)*40) 70368744177664=true:=pG (by omega)
   have s1:((List.range k).map fun j=>qE q f ((m+j)%7+1))++ [qE q f ((m+k)%7+1)]=(List.range (k+1)).map fun j=>qE q f ((m+j)%7+1):=by rw [List.range_succ,List.map_append]; rfl
   have d1:decide (k+1=0)=false:=decide_eq_false (by omega)
   simp only [aC.g0,Go.Own.lt,dK (show (k:Int)<7 by omega),cond_true,List.length_map,List.length_range,wn,dK (show (k:Int)<((n - 1:Nat):Int) by omega),hand,w2,ht,Int.toNat_natCast,g1,hdl,r1,ak,Bool.and_false,s1,c1,w1,d1]
  ·intro R
   simp only [aC.g0,Go.Own.lt,dK (show ((n - 1:Nat):Int)<7 by omega),cond_true,List.length_map,List.length_range,wn,dH (show ¬ ((n - 1:Nat):Int)<((n - 1:Nat):Int) by omega),cond_false]
 rw [LV m (n - 1)] at key
 exact key
theorem yh:∀ (f:List (List Int)),(∀ a∈f,Ty.ok (.arr 4 (.int .u64)) a)→∃ l:List Nat,f=l.map limbs∧∀ a∈l,a<au
 | [],_=>⟨[],rfl,by simp⟩
 |a::f,h=>by
  obtain ⟨l,rfl,hl⟩:=yh f fun b hb=>h b (by simp [hb])
  obtain ⟨n,hn,rfl⟩:=MR (h a (by simp))
  refine ⟨n::l,rfl,?_⟩
  intro b hb
  rcases List.mem_cons.1 hb with rfl|hb
  ·exact hn
  ·exact hl b hb
theorem xP (which:Int) (f:List (List Int)) (liars:Int) (hf:Ty.ok (.sl (.arr 4 (.int .u64))) f):aC.r which f liars=(true,true):=by
 have hf':∀ a∈f,Ty.ok (.arr 4 (.int .u64)) a:=by
  first
  |exact hf
  |exact hf.2
  |exact hf.1
 obtain ⟨l,rfl,hl⟩:=yh f hf'
 have aw:=Le
 by_cases h1:(l.length:Int)<1
 ·simp only [aC.r,aC.g,Go.Own.lt,List.length_map,dK h1,cond_true,bR.fE,aw,ak]
 by_cases h7:(7:Int)<(l.length:Int)
 ·simp only [aC.r,aC.g,Go.Own.lt,List.length_map,dH h1,cond_false,dK h7,cond_true,bR.fE,aw,ak]
 obtain ⟨n,hn,hand⟩:=JY which
 obtain ⟨m,hm,handm⟩:=JY liars
 have ht:((n:Int)).tmod 3=((n%3:Nat):Int):=yZ n 3
 have hr:(ile 0 ((n%3:Nat):Int)&&ilt ((n%3:Nat):Int) 3)=true:=by rw [dM (by omega),dK (by omega)]; rfl
 obtain ⟨gv,p,q,g,hF,hs,hG⟩:∃ gv p q g,GF gv p q g∧sw q∧iw.r (([(jM.map dW,(limbs bM,())),(jL.map dW,(limbs ic,())),(nC.map dW,(limbs kI,()))]:List ((List ((List Int)×(Int×Unit)))×((List Int)×Unit))).getD (n%3) ([],([0,0,0,0],())))=(true,1,(none,0),(0,gv)):=by
  obtain ⟨g1,k1,e1⟩:=JN
  obtain ⟨g2,k2,e2⟩:=JM
  obtain ⟨g3,k3,e3⟩:=Pt
  have h3:n%3=0∨n%3=1∨n%3=2:=by omega
  rcases h3 with h3|h3|h3<;>rw [h3]
  ·exact ⟨g1,_,_,_,k1,uS,e1⟩
  ·exact ⟨g2,_,_,_,k2,Be,e2⟩
  ·exact ⟨g3,_,_,_,k3,Bf,e3⟩
 haveI:NeZero q:=⟨by have:=hF.q1; omega⟩
 obtain ⟨N,hN⟩:∃ N,N=l.length:=⟨_,rfl⟩
 rw [← hN] at h1 h7
 have hlen:(lU q l 7).length=7:=by unfold lU; simp
 have d7:=RH hF.fld (f:=l) hl (by omega) (n:=7) (by decide) (by decide)
 have d7':gy.r (some gv) (l.map limbs) 7=(true,lU q l 7,0):=d7
 have T:=Sm hF hl (n:=N) (by omega) (by omega) (by omega) (by rw [hN]; exact Ew _ _)
 have hTl:(toN p g l N).length=N:=Jf
 have g0:((toN p g l N).map limbs).getD 0 [0,0,0,0]=limbs (g^(l.getD 0 0)%p):=by
  have:(toN p g l N).getD 0 0=g^(l.getD 0 0)%p:=iM (by omega)
  rw [← this]; exact getD_map (by omega)
 have hpl:=zU m (N - 1)
 have Fr:=AZ hF hs hl (pts:=ow m (N - 1)) (fun a ha=>HY ha) (Du (by omega)) (by omega) (by rw [hpl]; omega)
 rw [hpl,Nat.sub_add_cancel (by omega)] at Fr
 have L0:=RB (q:=q) l (some gv) ((toN p g l N).map limbs) liars hm handm (show 1≤N by omega) (show N≤7 by omega)
 have S:=Gv ((toN p g l N).map limbs) (by rw [List.length_map]; omega)
 have z0:((0:Int) != 0)=false:=rfl
 have z1:((0:Int)== 0)=true:=rfl
 have z7:(((7:Nat):Int) != 7)=false:=rfl
 have nn:((N:Int) != (N:Int))=false:=by simp
 simp only [aC.r,aC.g,Go.Own.lt,List.length_map,← hN,dH h1,cond_false,dH h7,eX.fE,J8,eU.fE,J6,iP.fE,Ll,ak,hand,ht,hr,Int.toNat_natCast,hG,show Nat.beq 1 0=false from rfl,T,d7',z0,hTl,nn,hlen,z7,L0,g0,dK (show (0:Int)<(N:Int) by omega),Fr,z1,cond_true,S,bR.fE,aw]
theorem aC.pure (which:Int) (f:List (List Int)) (liars:Int) (hw:Ty.ok (.int .i64) which) (hf:Ty.ok (.sl (.arr 4 (.int .u64))) f) (hl:Ty.ok (.int .i64) liars):aC.r which f liars=(true,true):=xP which f liars hf
end Go.Own
