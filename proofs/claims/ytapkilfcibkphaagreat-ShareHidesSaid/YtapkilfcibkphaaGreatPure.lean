/- What is proved: what the printed functions answer, in plain numbers and lists. Conditions: those that each theorem names. -/
import Derived.Test.YtapkilfcibkphaaGreatPure1
set_option linter.unusedVariables false
set_option linter.unusedSimpArgs false
set_option linter.unusedVariables false
set_option linter.unusedSimpArgs false
namespace Go.Own
open Go.IntWalk
def q8 (q:Nat) (F:Nat→List Nat) (ys:List Nat) (j:Nat):Nat→Nat
 |0=>0
 |i+1=>(q8 q F ys j i+(F i).getD j 0%q*ys.getD i 0%q)%q
theorem Kh {q:Nat} (h0:0<q) {F:Nat→List Nat} {ys:List Nat} {j:Nat}:∀ i,q8 q F ys j i<q
 |0=>h0
 |i+1=>Nat.mod_lt _ h0
theorem K4 {q:Nat} [NeZero q] {F:Nat→List Nat} {ys:List Nat} {j:Nat}:∀ n,fz q (q8 q F ys j n)=Pol.cf (HZ q F ys n) j
 |0=>by rw [show HZ q F ys 0= [] from rfl,Pol.jo]; exact kE
 |n+1=>by
  show fz q ((q8 q F ys j n+(F n).getD j 0%q*ys.getD n 0%q)%q)=Pol.cf (Pol.lm (HZ q F ys n) (Pol.qQ (fz q (ys.getD n 0)) (toF q (F n)))) j
  rw [iC,mQ,K4 n,iC,nI,iC,Pol.iM,Pol.kZ,gF]; grind
theorem nQ {F:Nat→List Nat} {n j:Nat} (h:j<n):(fV F n).getD j []=(List.range n).map fun i=>limbs ((F i).getD j 0):=kL h
theorem Vu {q:Nat} (h0:0<q) (hq:q<4611686018427387904) {F:Nat→List Nat} {n:Nat} (hn:n≤1000) {ys:List Nat} (hl:ys.length=n) (hFq:∀ i,i<n→∀ j,(F i).getD j 0<q) {j:Nat} (hj:j<n) (XS:List Int) (Z:Bool×List Int):
  aA.l2 (false,(q:Int),XS,(),fV F n,(),(j:Int),0,0,()) ((false,ints ys),Z,())=(true,5,(false,(q:Int),XS,(),fV F n,(),(j:Int),(q8 q F ys j n:Int),(n:Int),()),((false,ints ys),Z,()),(),()):=by
 have hwl:(fV F n).length=n:=by unfold fV; simp
 have hil:(ints ys).length=n:=by rw [List.length_map]; exact hl
 have hrl:((List.range n).map fun i=>limbs ((F i).getD j 0)).length=n:=by simp
 have key:aA.l2 (false,(q:Int),XS,(),fV F n,(),(j:Int),(q8 q F ys j 0:Int),((0:Nat):Int),()) ((false,ints ys),Z,())=(true,5,(false,(q:Int),XS,(),fV F n,(),(j:Int),(q8 q F ys j n:Int),(n:Int),()),((false,ints ys),Z,()),(),()):=by
  refine bE (g:=fun rq kn ke kr x y=>aA.g2 rq kn ke kr x y) n (fun i=>(false,(q:Int),XS,(),fV F n,(),(j:Int),(q8 q F ys j i:Int),(i:Int),())) (fun _=>((false,ints ys),Z,())) _ ?_ ?_ _ 0 (Nat.zero_le _) (by show n - 0<((((fV F n).getD ((j:Int)).toNat []).length:Int) - ((0:Nat):Int)).toNat+1; rw [Int.toNat_natCast,nQ hj,hrl]; omega)
  ·intro i R hi
   have w1:IntKind.i64.wrap ((i:Int)+1)=((i+1:Nat):Int):=i64_in _ (by omega)
   have g1:((List.range n).map fun i=>limbs ((F i).getD j 0)).getD i [0,0,0,0]=limbs ((F i).getD j 0):=kL hi
   have g2:(ints ys).getD i 0=((ys.getD i 0:Nat):Int):=getD_map (by omega)
   have hlt:=hFq i hi j
   have B1:=U8 ((F i).getD j 0) q (by unfold ak; omega) h0 (by omega)
   have M1:=yJ ((F i).getD j 0%q) (ys.getD i 0) q h0 (by omega)
   have hm:=Nat.mod_lt ((F i).getD j 0%q*ys.getD i 0) h0
   have hs:=Kh h0 (F:=F) (ys:=ys) (j:=j) i
   have A1:=BJ (q8 q F ys j i) ((F i).getD j 0%q*ys.getD i 0%q) q h0 (by omega) (by omega)
   have e1:(q8 q F ys j i+(F i).getD j 0%q*ys.getD i 0%q)%q=q8 q F ys j (i+1):=rfl
   simp only [aA.g2,Go.Own.lt,Int.toNat_natCast,nQ hj,hwl,hrl,hil,rng hj,dm (show (0:Int)≤(i:Int) by omega),Bool.and_self,bW (show (i:Int)<(n:Int) by omega),cond_true,ai,g1,g2,B1,bG.gI,M1,A1,e1,w1]
  ·intro R
   simp only [aA.g2,Go.Own.lt,Int.toNat_natCast,nQ hj,hwl,hrl,rng hj,ai,cB (show ¬ (n:Int)<(n:Int) by omega),cond_false]
 exact key
theorem Vv {q:Nat} (h0:0<q) (hq:q<4611686018427387904) {F:Nat→List Nat} {n:Nat} (hn:n≤1000) {ys:List Nat} (hl:ys.length=n) (hFq:∀ i,i<n→∀ j,(F i).getD j 0<q) (XS:List Int) (hX:XS.length=n):
  aA.l1 (false,(q:Int),XS,(),fV F n,(),0,()) ((false,ints ys),(true,[]),())=(true,3,(false,(q:Int),XS,(),fV F n,(),(n:Int),()),((false,ints ys),(decide (n=0),ints ((List.range n).map fun j=>q8 q F ys j n)),()),(false,()),()):=by
 have hwl:(fV F n).length=n:=by unfold fV; simp
 have key:aA.l1 (false,(q:Int),XS,(),fV F n,(),((0:Nat):Int),()) ((false,ints ys),(decide (0=0),ints ((List.range 0).map fun j=>q8 q F ys j n)),())=(true,3,(false,(q:Int),XS,(),fV F n,(),(n:Int),()),((false,ints ys),(decide (n=0),ints ((List.range n).map fun j=>q8 q F ys j n)),()),(false,()),()):=by
  refine bE (g:=fun rq kn ke kr x y=>aA.g1 rq kn ke kr x y) n (fun j=>(false,(q:Int),XS,(),fV F n,(),(j:Int),())) (fun j=>((false,ints ys),(decide (j=0),ints ((List.range j).map fun j=>q8 q F ys j n)),())) _ ?_ ?_ _ 0 (Nat.zero_le _) (by show n - 0<(((fV F n).length:Int) - ((0:Nat):Int)).toNat+1; rw [hwl]; omega)
  ·intro j R hj
   have w1:IntKind.i64.wrap ((j:Int)+1)=((j+1:Nat):Int):=i64_in _ (by omega)
   have hrl:((List.range n).map fun i=>limbs ((F i).getD j 0)).length=n:=by simp
   have b1:((n:Int) != (n:Int))=false:=by simp
   have c1:nle ((2*(j+1)+512)*8) 70368744177664=true:=oN (by omega)
   have d1:decide (j+1=0)=false:=decide_eq_false (by omega)
   have s1:ints ((List.range j).map fun j=>q8 q F ys j n)++ [(q8 q F ys j n:Int)]=ints ((List.range (j+1)).map fun j=>q8 q F ys j n):=by rw [List.range_succ,List.map_append]; unfold ints; rw [List.map_append]; rfl
   have il:(ints ((List.range j).map fun j=>q8 q F ys j n)).length=j:=by simp [ints]
   simp only [aA.g1,Go.Own.lt,hwl,bW (show (j:Int)<(n:Int) by omega),cond_true,Int.toNat_natCast,nQ hj,dm (show (0:Int)≤(j:Int) by omega),Bool.and_self,ai,hrl,hX,b1,cond_false,Vu h0 hq hn hl hFq hj,Bool.and_false,s1,il,c1,w1,d1]
  ·intro R
   simp only [aA.g1,Go.Own.lt,hwl,cB (show ¬ (n:Int)<(n:Int) by omega),cond_false]
 exact key
def ysH (q:Nat) (f:List Nat) (S j:Nat):List Nat:=S::(List.range j).map fun t=>evN q f (t+1)
theorem Vw {q:Nat} (h1:1<q) (hq:q<4611686018427387904) (gx:Option eU) (f:List Nat) (S:Nat) {n:Nat} (hn1:1≤n) (hn:n≤1000):
  aA.l0 (false,gx,(q:Int),lI q f n,(),(),0,()) ((false,[0]),(false,[(S:Int)]),())=(true,1,(false,gx,(q:Int),lI q f n,(),(),((n - 1:Nat):Int),()),((false,ints (List.range n)),(false,ints (ysH q f S (n - 1))),()),(),()):=by
 have hdl:(lI q f n).length=n:=by unfold lI; simp
 have wn:IntKind.i64.wrap ((n:Int) - 1)=((n - 1:Nat):Int):=by rw [i64_in _ (by omega)]; omega
 have key:aA.l0 (false,gx,(q:Int),lI q f n,(),(),((0:Nat):Int),()) ((false,ints (List.range (0+1))),(false,ints (ysH q f S 0)),())=(true,1,(false,gx,(q:Int),lI q f n,(),(),((n - 1:Nat):Int),()),((false,ints (List.range (n - 1+1))),(false,ints (ysH q f S (n - 1))),()),(),()):=by
  refine bE (g:=fun rq kn ke kr x y=>aA.g0 rq kn ke kr x y) (n - 1) (fun i=>(false,gx,(q:Int),lI q f n,(),(),(i:Int),())) (fun i=>((false,ints (List.range (i+1))),(false,ints (ysH q f S i)),())) _ ?_ ?_ _ 0 (Nat.zero_le _) (by show n - 1 - 0<((IntKind.i64.wrap (((lI q f n).length:Int) - 1)) - ((0:Nat):Int)).toNat+1; rw [hdl,wn]; omega)
  ·intro i R hi
   have w1:IntKind.i64.wrap ((i:Int)+1)=((i+1:Nat):Int):=i64_in _ (by omega)
   have g1:(lI q f n).getD i (0,([0,0,0,0],()))=jm q f (i+1):=kL (show i<n by omega)
   have g2:(jm q f (i+1)).1=((i+1:Nat):Int):=rfl
   have g3:(jm q f (i+1)).2.1=limbs (evN q f (i+1)):=rfl
   have hev:=uq (show 0<q by omega) f (i+1)
   have L1:=Ls (evN q f (i+1)) (by unfold ak; omega)
   rw [if_pos (by omega)] at L1
   have c1:nle ((2*(i+1+1)+512)*8) 70368744177664=true:=oN (by omega)
   have s1:ints (List.range (i+1))++ [((i+1:Nat):Int)]=ints (List.range (i+1+1)):=by rw [List.range_succ (n:=i+1)]; unfold ints; rw [List.map_append]; rfl
   have s2:ints (ysH q f S i)++ [(evN q f (i+1):Int)]=ints (ysH q f S (i+1)):=by unfold ints ysH; rw [List.range_succ,List.map_append,List.map_cons,List.map_cons,List.map_append]; rfl
   have l1:(ints (List.range (i+1))).length=i+1:=by simp [ints]
   have l2:(ints (ysH q f S i)).length=i+1:=by simp [ints,ysH]
   simp only [aA.g0,Go.Own.lt,hdl,wn,bW (show (i:Int)<((n - 1:Nat):Int) by omega),cond_true,Int.toNat_natCast,g1,g2,g3,rng (show i<n by omega),ai,L1,Bool.and_false,s1,s2,l1,l2,c1,w1]
  ·intro R
   simp only [aA.g0,Go.Own.lt,hdl,wn,cB (show ¬ ((n - 1:Nat):Int)<((n - 1:Nat):Int) by omega),cond_false]
 rw [Nat.sub_add_cancel hn1] at key
 exact key
theorem zm (which:Int) (f:List (List Int)) (secret:List Int) (hf:Ty.ok (.sl (.arr 4 (.int .u64))) f) (hsec:Ty.ok (.arr 4 (.int .u64)) secret):aA.r which f secret=(true,true):=by
 by_cases h1:(f.length:Int)<1
 ·simp only [aA.r,aA.g,Go.Own.lt,bW h1,cond_true,dL.gI,EM,ai]
 by_cases h6:(6:Int)<(f.length:Int)
 ·simp only [aA.r,aA.g,Go.Own.lt,cB h1,bW h6,cond_true,cond_false,dL.gI,EM,ai]
 have hf':∀ a∈f,Ty.ok (.arr 4 (.int .u64)) a:=by
  first
  |exact hf
  |exact hf.2
  |exact hf.1
 obtain ⟨l,rfl,hlW⟩:=AB f hf'
 obtain ⟨s,hsW,rfl⟩:=Gm hsec
 rw [List.length_map] at h1 h6
 obtain ⟨n,hn⟩:∃ n,n=l.length:=⟨_,rfl⟩
 rw [← hn] at h1 h6
 obtain ⟨q,gx,hq,hF,hs⟩:=Kt which
 have hne:NeZero q:=⟨by have:=hF.gt; omega⟩
 have s7:yI q:=by rcases hq with rfl|rfl; exact BU; exact BS
 have hinv:KV q=true:=by rcases hq with rfl|rfl; exact EC; exact EB
 have hq62:q<4611686018427387904:=by rcases hq with rfl|rfl<;>decide
 have hq8:8<q:=by rcases hq with rfl|rfl<;>decide
 have hD:=Qu hF hlW (by omega) (show 1≤n by omega) (show n≤7 by omega)
 have hdl:(lI q l n).length=n:=by unfold lI; simp
 have hB:=U8 s q hsW (by omega) (by omega)
 obtain ⟨S,hS⟩:∃ S,S=s%q:=⟨_,rfl⟩
 have hSq:S<q:=by rw [hS]; exact Nat.mod_lt _ (by omega)
 rw [← hS] at hB
 have hpl:(List.range n).length=n:=List.length_range
 have hp7:∀ p∈List.range n,p≤7:=fun p hp=>by have:=List.mem_range.1 hp; omega
 have hnd:(List.range n).Nodup:=List.nodup_range
 obtain ⟨F,hU,hW⟩:=M6 hF s7 hp7 hnd (by rw [hpl]; omega)
 rw [hpl] at hW
 obtain ⟨ys,hys⟩:∃ ys,ys=ysH q l S (n - 1):=⟨_,rfl⟩
 have hyl:ys.length=n:=by rw [hys]; unfold ysH; simp; omega
 have hyq:∀ y∈ys,y<q:=fun y hy=>by
  rw [hys] at hy
  unfold ysH at hy
  rcases List.mem_cons.1 hy with rfl|hy
  ·exact hSq
  ·obtain ⟨t,_,rfl⟩:=List.mem_map.1 hy
   exact uq (by omega) l (t+1)
 have hapart:=Dy hF.gt hF.lt s7 hp7 hnd
 have lt_of:∀ {l:List Nat} {k:Nat},(∀ a∈l,a<q)→l.getD k 0<q:=by
  intro l k hl
  rcases Nat.lt_or_ge k l.length with h|h
  ·exact hl _ (fK h)
  ·rw [fQ h]; omega
 have hFq:∀ i,i<n→∀ j,(F i).getD j 0<q:=fun i hi j=>lt_of (hU.lt i (by rw [hpl]; exact hi))
 obtain ⟨R,t1,t2,t3,t4,t5⟩:=Ka (by omega) hq62 (pts:=List.range n) (ys:=ys) (fun p hp=>by have:=hp7 p hp; omega) hyq (by rw [hyl,hpl]) (by rw [hpl]; omega) (Rj hq8 hq62 hinv hp7 hnd)
 rw [hpl] at t4 t5
 obtain ⟨O,hO⟩:∃ O,O=(List.range n).map fun j=>q8 q F ys j n:=⟨_,rfl⟩
 have hOl:O.length=n:=by rw [hO]; simp
 have hOq:∀ a∈O,a<q:=fun a ha=>by
  rw [hO] at ha
  obtain ⟨j,_,rfl⟩:=List.mem_map.1 ha
  exact Kh (by omega) n
 have hOc:Pol.PE (toF q O) (HZ q F ys n):=fun j=>by
  rw [gF,hO,l8]
  split
  ·exact K4 n
  ·rename_i hj
   rw [kE,Pol.UM]
   have:=HY (q:=q) (ys:=ys) n (fun i hi=>hU.len i (by rw [hpl]; exact hi))
   rw [hpl] at this; omega
 have hOe:∀ k,k<n→Pol.ev (toF q O) (fz q ((List.range n).getD k 0))=fz q (ys.getD k 0):=fun k hk=>by
  rw [Pol.sI hOc,Ld hU ys (by rw [hpl]; exact hk) n (by rw [hpl]; exact Nat.le_refl _),if_pos hk]
 have hPE:Pol.PE (toF q O) (toF q R):=Fu hapart (by unfold toF; rw [List.length_map,hpl]; omega) (by unfold toF; rw [List.length_map,hpl]; exact t4) (fun k hk=>by
  rw [hpl] at hk
  rw [hOe k hk,t5 k hk])
 have hOR:trm O=R:=by
  rw [← t2]
  refine Kk fun k=> ?_
  have:=hPE k
  rw [gF,gF] at this
  have e:=Bj this
  rwa [Nat.mod_eq_of_lt (lt_of hOq),Nat.mod_eq_of_lt (lt_of t3)] at e
 have T1:=EZ O (by omega)
 rw [hOR] at T1
 have E1:=RZ O 0 q (by omega) (by omega) hq62
 have hE0:evN q O 0=ys.getD 0 0:=by
  have h:=hOe 0 (by omega)
  have g0:(List.range n).getD 0 0=0:=by rw [getD_lt (by rw [hpl]; omega)]; simp
  rw [g0,← vZ] at h
  have e:=Bj h
  rwa [Nat.mod_eq_of_lt (uq (by omega) O 0),Nat.mod_eq_of_lt (lt_of hyq)] at e
 have gy:(ints ys).getD 0 0=((ys.getD 0 0:Nat):Int):=getD_map (by omega)
 have hX:(ints (List.range n)).length=n:=by rw [List.length_map,hpl]
 have hYl:(ints ys).length=n:=by rw [List.length_map,hyl]
 have L0:=Vw hF.gt hq62 gx l S (show 1≤n by omega) (show n≤1000 by omega)
 rw [← hys] at L0
 have L1:=Vv (show 0<q by omega) hq62 (show n≤1000 by omega) hyl hFq (ints (List.range n)) hX
 rw [← hO] at L1
 have hwl:(fV F n).length=n:=by unfold fV; simp
 have n00:((0:Int) != 0)=false:=rfl
 have nnn:((n:Int) != (n:Int))=false:=by simp
 have bself:(((ys.getD 0 0:Nat):Int)== ((ys.getD 0 0:Nat):Int))=true:=by simp
 have ez:((0:Nat):Int)=0:=rfl
 rw [ez] at E1
 simp only [aA.r,aA.g,Go.Own.lt,List.length_map,cB h1,cB h6,cond_false,hs,← hn,hD,ai,Bool.not_true,n00,hdl,nnn,hB,L0,hW,hwl,hX,L1,show Nat.beq 3 0=false from rfl,T1,t1,RX (ints R) (by rw [List.length_map]; omega),cond_true,E1,hE0,gy,bW (show (0:Int)<(ys.length:Int) by omega),bself,dL.gI,EM]
theorem aA.pure (which:Int) (f:List (List Int)) (secret:List Int) (hw:Ty.ok (.int .i64) which) (hf:Ty.ok (.sl (.arr 4 (.int .u64))) f) (hs:Ty.ok (.arr 4 (.int .u64)) secret):aA.r which f secret=(true,true):=zm which f secret hf hs
end Go.Own
