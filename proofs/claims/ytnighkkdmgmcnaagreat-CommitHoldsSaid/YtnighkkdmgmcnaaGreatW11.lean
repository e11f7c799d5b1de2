/- What is proved: the evaluator of the translated code, and that it is sound, part 11. Conditions: those that each theorem names. -/
import Derived.Test.YtnighkkdmgmcnaaGreatW10
import Derived.Calls
set_option linter.unusedVariables false
set_option linter.unusedSimpArgs false
set_option linter.unusedVariables false
namespace Go.Own
variable {C:Cx} {P:Program} {E:Env} {w w' w2:World} {I I' I1 I2:Nat→Prop} {st sv st':St} {tm:Array Value} {tk tk':aU} {ds:List Deferred} {o:Oper} {e:Ef}
def xtk (xs:List Tk):aU:=fun s=>if 1000000≤s then xs[s - 1000000]? else none
theorem tJ (xs:List Tk) (j:Nat):xtk xs (site j)=xs[j]?:=by
 have h1:1000000≤site j:=by unfold site; omega
 have h2:site j - 1000000=j:=by unfold site; omega
 unfold xtk
 rw [if_pos h1,h2]
def zR:RV→SV
 | .val d=> .p d
 | .sd d=> .sd d
 | .va s t=> .va s t
 | .vs s t pa lo n=> .vs s t pa lo n
 | .pb s t pa=> .pb s t pa
 | .mp s k v=> .mp s k v
 | .nil=> .nil
 | .nilp=> .nilp
def qm:Nat→List (Option DV)→List (Nat×DV)
 |_,[]=> []
 |j,some d::r=>(site j,d)::qm (j+1) r
 |j,none::r=>qm (j+1) r
def jH (r:Res):St:=⟨r.rs.map zR,qm 0 r.bs++iC r.bs.length r.fs⟩
def jS (as:List AV) (bs:List DV):St:=⟨as.map Jv,iC 0 bs⟩
def lC (vs:Array Value):Value:=if h:vs.size=1 then vs[0] else .tuple vs
def BB (P:Program) (f:FuncId) (args:Array Value) (w:World) (R:Value→World→Prop):Prop:=
 (∃ fn,P.funcs[f]?=some fn∧fn.name≠ "runtime.NumGoroutine" ∧fn.body.isSome∧Calls P f args w (fun e w'=>∃ v,e= .returned v∧R v w'))∨
 ∃ v w',(callFunc f args).run P w= .ok (.value v) w'∧R v w'
def Good (P:Program) (f:FuncId) (as:List AV) (bs:List DV) (r:Res):Prop:=
 ∀ (w:World) (I:Nat→Prop) (xs:List Tk) (args:Array Value),xs.length=bs.length→Inv ⟨P,w,I,xs⟩ (jS as bs) args w I (xtk xs)→
  BB P f args w fun v w'=>∃ I' tk' vs,v=lC vs∧Inv ⟨P,w,I,xs⟩ (jH r) vs w' I' tk'
def kJ (P:Program) (D:aH):Prop:=∀ f as bs b,D f as bs=some b→b.res.1=true→Good P f as bs b.res.2
theorem sQ (l q:List (Nat×DV)) (s:Nat):eB (l++q) s=(eB l s).or (eB q s):=by
 induction l with
 |nil=>simp [eB]
 |cons x l ih=>
  simp only [List.cons_append,eB]
  cases Nat.beq x.1 s with
  |true=>simp
  |false=>simpa using ih
theorem lS:∀ (l:List DV) (j s:Nat),eB (iC j l) s=if site j≤s then l[s - site j]? else none
 | [],j,s=>by simp [iC,eB]
 |d::l,j,s=>by
  simp only [iC,eB]
  cases h:Nat.beq (site j) s with
  |true=>
   have:=beq_iff.1 h
   subst this
   simp
  |false=>
   have hne:=eP.1 h
   simp only [cond_false]
   rw [lS l (j+1) s]
   have e:site (j+1)=site j+1:=by unfold site; omega
   rw [e]
   by_cases h1:site j≤s
   ·rw [if_pos h1,if_pos (by omega),show s - site j=(s - (site j+1))+1 by omega,List.getElem?_cons_succ]
   ·rw [if_neg h1,if_neg (by omega)]
theorem oF:∀ (l:List (Option DV)) (j s:Nat),eB (qm j l) s=if site j≤s then (l[s - site j]?).join else none
 | [],j,s=>by simp [qm,eB]
 |some d::l,j,s=>by
  simp only [qm,eB]
  cases h:Nat.beq (site j) s with
  |true=>
   have:=beq_iff.1 h
   subst this
   simp
  |false=>
   have hne:=eP.1 h
   simp only [cond_false]
   rw [oF l (j+1) s]
   have e:site (j+1)=site j+1:=by unfold site; omega
   rw [e]
   by_cases h1:site j≤s
   ·rw [if_pos h1,if_pos (by omega),show s - site j=(s - (site j+1))+1 by omega,List.getElem?_cons_succ]
   ·rw [if_neg h1,if_neg (by omega)]
 |none::l,j,s=>by
  simp only [qm]
  rw [oF l (j+1) s]
  have e:site (j+1)=site j+1:=by unfold site; omega
  rw [e]
  by_cases h1:site j≤s
  ·rw [if_pos h1]
   by_cases h2:s=site j
   ·subst h2; rw [if_neg (by omega)]; simp
   ·rw [if_pos (by omega),show s - site j=(s - (site j+1))+1 by omega,List.getElem?_cons_succ]
  ·rw [if_neg h1,if_neg (by omega)]
theorem Fg (as:List AV) (bs:List DV) (s:Nat):(jS as bs).box s=if 1000000≤s then bs[s - 1000000]? else none:=by
 show eB (iC 0 bs) s=_
 have:site 0=1000000:=by unfold site; omega
 rw [lS,this]
theorem zO {s:Nat} (h:site 0≤s):s=site (s - site 0):=by
 have:∀ n,site n=site 0+n:=fun n=>by unfold site; omega
 rw [this]; omega
theorem wE (r:Res) (s:Nat) (d:DV) (h:(jH r).box s=some d):∃ j,s=site j∧(r.bs[j]?=some (some d)∨(r.bs.length≤j∧r.fs[j - r.bs.length]?=some d)):=by
 have h':eB (qm 0 r.bs++iC r.bs.length r.fs) s=some d:=h
 rw [sQ,Option.or_eq_some_iff,oF,lS] at h'
 rcases h' with h1|⟨_,h1⟩
 ·split at h1
  ·rename_i hs
   refine ⟨s - site 0,zO hs,.inl ?_⟩
   cases hj:r.bs[s - site 0]? with
   |none=>rw [hj] at h1; cases h1
   |some q=>rw [hj] at h1; simp only [Option.join_some] at h1; rw [h1]
  ·cases h1
 ·split at h1
  ·rename_i hs
   have e0:site 0≤site r.bs.length:=by unfold site; omega
   have e1:s - site 0 - r.bs.length=s - site r.bs.length:=by unfold site; omega
   have e2:site r.bs.length=site 0+r.bs.length:=by unfold site; omega
   refine ⟨s - site 0,zO (Nat.le_trans e0 hs),.inr ⟨by omega,?_⟩⟩
   rw [e1]; exact h1
  ·cases h1
theorem xO (r:Res) {j:Nat} {d:DV} (h:r.bs[j]?=some (some d)):(jH r).box (site j)=some d:=by
 show eB (qm 0 r.bs++iC r.bs.length r.fs) (site j)=_
 rw [sQ,oF,if_pos (by unfold site; omega)]
 have:site j - site 0=j:=by unfold site; omega
 rw [this,h]; rfl
theorem Ie (r:Res) {i:Nat} {d:DV} (h:r.fs[i]?=some d):(jH r).box (site (r.bs.length+i))=some d:=by
 show eB (qm 0 r.bs++iC r.bs.length r.fs) (site (r.bs.length+i))=_
 rw [sQ,oF,if_pos (by unfold site; omega),lS,if_pos (by unfold site; omega)]
 have h1:site (r.bs.length+i) - site 0=r.bs.length+i:=by unfold site; omega
 have h2:site (r.bs.length+i) - site r.bs.length=i:=by unfold site; omega
 rw [h1,h2,h,List.getElem?_eq_none (by omega)]; rfl
theorem dB.ren {v:SV} {x:Value} {ρ:Nat→Nat} {v':SV} (hm:∀ s,s∈v.sites→tk' (ρ s)=tk s)
  (hv:match v with| .sd d=>v'= .sd (d.ren ρ)| .va s t=>v'= .va (ρ s) t| .vs s t pa lo n=>v'= .vs (ρ s) t pa lo n| .pb s t pa=>v'= .pb (ρ s) t pa| .mp s k u=>v'= .mp (ρ s) k u| .p d=>v'= .p d| .nil=>v'= .nil| .nilp=>v'= .nilp|_=>False)
  (h:dB w I tk v x):dB w I tk' v' x:=by
 cases v<;>simp only at hv<;>first|exact hv.elim|subst hv
 case p d=>exact ⟨h.1,h.2.plain h.1⟩
 case sd d=>
  rw [DV.M0]
  cases he:(mentions d.1).isEmpty with
  |true=>
   have hn:mentions d.1= []:=List.isEmpty_iff.1 he
   simp only [cond_true]
   exact ⟨h.1,h.2.congr (by rw [hn]; intro s hs; cases hs)⟩
  |false=>
   refine ⟨(DT ρ d.1).trans h.1,?_⟩
   have h2:=h.2
   unfold aA at h2 ⊢
   have ha:(d.1.ren ρ).isAgg=d.1.isAgg:=jb (sH ρ d.1)
   simp only [cond_false,ha]
   split at h2
   ·rename_i hag
    obtain ⟨cs,e,h2⟩:=h2
    rw [if_pos hag]
    exact ⟨cs,e,h2.ren ρ hm⟩
   ·rename_i hag
    rw [if_neg hag]
    exact ai.ren ρ hm h2
 case va s t=>obtain ⟨q,h1,h2⟩:=h; exact ⟨q,(hm s (by simp [SV.sites])).trans h1,h2⟩
 case vs s t pa lo n=>obtain ⟨q,h1,h2⟩:=h; exact ⟨q,(hm s (by simp [SV.sites])).trans h1,h2⟩
 case pb s t pa=>obtain ⟨k,b,off,h1,h2⟩:=h; exact ⟨k,b,off,(hm s (by simp [SV.sites])).trans h1,h2⟩
 case mp s k v=>obtain ⟨q,b,h1,h2⟩:=h; exact ⟨q,b,(hm s (by simp [SV.sites])).trans h1,h2⟩
 case nil=>exact h
 case nilp=>exact h
theorem Jy {ρ:Nat→Nat} {v:SV} {a:AV} {x:Value} (ha:qX ρ v=some a) (hm:∀ s,s∈v.sites→tk' (ρ s)=tk s) (h:dB w I tk v x):dB w I tk' (Bo a) x∧Jv a=Bo a∧rZ a=v.sites.map ρ∧(match a with| .clo _ _=>False|_=>True):=by
 cases v<;>simp only [qX,reduceCtorEq,Option.some.injEq] at ha<;>subst ha<;>exact ⟨h.ren hm rfl,rfl,rfl,trivial⟩
theorem Inv.into (h:Inv C st tm w I tk) {st':St} {tm':Array Value} (β:Nat→Nat) (hlen:st'.sl.length=tm'.size) (hsm:st'.sl.length≤900000) (hsrt:st'.srt)
  (hslots:∀ i,i<st'.sl.length→bf w I tk' (st'.slot i) (tm'.getD i undef)) (hboxes:∀ s d,st'.box s=some d→∃ q,tk' s=some q∧aI w I tk' q d)
  (hβ:∀ s q,tk' s=some q→tk (β s)=some q) (hinj:∀ s s' q q',tk' s=some q→tk' s'=some q'→β s=β s'→s=s')
  (hext:∀ (j:Nat) (q:Tk),C.xs[j]?=some q→∀ d,st'.box (site j)=some d→tk' (site j)=some q):Inv C st' tm' w I tk' where
 len:=hlen
 small:=hsm
 srt:=hsrt
 slots:=hslots
 boxes:=hboxes
 inj:=fun a b qa qb k h1 h2 h3 h4=>hinj a b qa qb h1 h2 (h.inj _ _ qa qb k (hβ a qa h1) (hβ b qb h2) h3 h4)
 tokLt:=fun a q k h1=>h.tokLt _ q k (hβ a q h1)
 tokI:=fun a q k h1=>h.tokI _ q k (hβ a q h1)
 tys:=fun a q k h1=>h.tys _ q k (hβ a q h1)
 ilt:=h.ilt
 fresh:=fun a q k h1=>h.fresh _ q k (hβ a q h1)
 ext:=hext
 keep:=h.keep
 size:=h.size
 os:=h.os
 output:=h.output
 tape:=h.tape
 sub:=h.sub
 new:=h.new
theorem Inv.merge {stN stR:St} {w':World} {I1 I' I2:Nat→Prop} {xs:List Tk} {vs:Array Value} {sites:List Nat} {tkN:aU} {σ:Nat→Nat}
  (h:Inv C st tm w I tk) (hc:Inv ⟨C.P,w,I1,xs⟩ stR vs w' I' tk')
  (hI1:∀ b,I b→I1 b) (hs2:∀ b,I b→I2 b) (hle:∀ b,I2 b→I' b) (hnew:∀ b,I2 b→I b∨w.heap.size≤b∨∃ (j:Nat) (q:Tk),xs[j]?=some q∧q.own b)
  (hsites:∀ (j s:Nat),sites[j]?=some s→tk s=xs[j]?) (hxl:xs.length=sites.length) (hxI:∀ (j:Nat) (q:Tk) (b:Nat),xs[j]?=some q→q.own b→¬ I1 b)
  (hsl:stN.sl=st.sl) (hsrt:stN.srt)
  (hslot:∀ i s,i<st.sl.length→s∈(st.slot i).dO→tkN s=tk s)
  (hbox:∀ s d,stN.box s=some d→(∃ p d',stR.box p=some d'∧σ p=s∧d=d'.ren σ∧(∀ q,tk' p=some q→aI w' I2 tk' q d')∧(∀ p',p'∈mentions d'.1→tkN (σ p')=tk' p'))∨
   (s∉sites∧st.box s=some d∧tkN s=tk s∧∀ s',s'∈mentions d.1→tkN s'=tk s'))
  (htk:∀ s q,tkN s=some q→(tk s=some q∧∀ j,sites[j]?=some s→tk' (site j)=some q)∨∃ p,tk' p=some q∧σ p=s∧∀ j,j<sites.length→p≠site j)
  (hσ:∀ p q,(∃ d,stR.box p=some d)→tk' p=some q→tkN (σ p)=some q)
  (hext:∀ (j:Nat) (q:Tk),C.xs[j]?=some q→∀ d,stN.box (site j)=some d→tkN (site j)=some q):Inv C stN tm w' I2 tkN:=by
 have xown:∀ {j:Nat} {q:Tk} {b:Nat},xs[j]?=some q→q.own b→∃ s,sites[j]?=some s∧tk s=some q:=by
  intro j q b hj _
  have hjl:j<sites.length:=by rw [← hxl]; exact (List.getElem?_eq_some_iff.1 hj).1
  exact ⟨_,List.getElem?_eq_getElem hjl,(hsites j _ (List.getElem?_eq_getElem hjl)).trans hj⟩
 have keepB:∀ b,b<w.heap.size→(∀ (j:Nat) (q:Tk),xs[j]?=some q→¬ q.own b)→w'.heap[b]?=w.heap[b]?:=hc.keep
 have keepI:∀ b,I b→w'.heap[b]?=w.heap[b]?:=fun b hb=>keepB b (h.ilt b hb) fun j q hj hq=>hxI j q b hj hq (hI1 b hb)
 have oldblk:∀ {s:Nat} {q:Tk} {b:Nat},tkN s=some q→(tk s=some q∧∀ j,sites[j]?=some s→tk' (site j)=some q)→q.own b→¬ I2 b∧b<w.heap.size:=by
  intro s q b hN ⟨h1,h2⟩ hb
  refine ⟨fun hI=> ?_,h.tokLt s q b h1 hb⟩
  rcases hnew b hI with h3|h3|⟨j,q',h3,h4⟩
  ·exact h.tokI s q b h1 hb h3
  ·exact absurd (h.tokLt s q b h1 hb) (by omega)
  ·obtain ⟨s',h5,h6⟩:=xown h3 h4
   have:=h.inj s s' q q' b h1 h6 hb h4
   subst this
   exact hc.tokI _ q b (h2 j h5) hb (hle b hI)
 have cross:∀ {s p:Nat} {q q':Tk} {b:Nat},(tk s=some q∧∀ j,sites[j]?=some s→tk' (site j)=some q)→tk' p=some q'→(∀ j,j<sites.length→p≠site j)→q.own b→q'.own b→False:=by
  intro s p q q' b ⟨h1,h2⟩ hp hne hb hb'
  have hlt:=h.tokLt s q b h1 hb
  rcases hc.fresh p q' b hp hb' with h3|⟨j,q2,h3,h4⟩
  ·exact absurd hlt (Nat.not_lt.2 h3)
  ·obtain ⟨s',h5,h6⟩:=xown h3 h4
   have:=h.inj s s' q q2 b h1 h6 hb h4
   subst this
   have h7:=h2 j h5
   have:=hc.inj (site j) p q q' b h7 hp hb hb'
   exact hne j ((List.getElem?_eq_some_iff.1 h5).1) this.symm
 constructor
 case len=>rw [hsl]; exact h.len
 case small=>rw [hsl]; exact h.small
 case srt=>exact hsrt
 case slots=>
  intro i hi
  have hi':i<st.sl.length:=by rw [← hsl]; exact hi
  have e:stN.slot i=st.slot i:=by unfold St.slot; rw [hsl]
  rw [e]
  exact ((h.slots i hi').congr (fun s hs=>hslot i s hi' hs)).world hs2 keepI (aU.le.refl _)
 case boxes=>
  intro s d hs
  rcases hbox s d hs with ⟨p,d',h1,rfl,rfl,h2,h3⟩|⟨h1,h2,h3,h4⟩
  ·obtain ⟨q,h5,_⟩:=hc.boxes p d' h1
   exact ⟨q,hσ p q ⟨d',h1⟩ h5,(h2 q h5).ren σ h3⟩
  ·obtain ⟨q,h5,h6⟩:=h.boxes s d h2
   refine ⟨q,h3.trans h5,(h6.congr h4).world hs2 keepI (aU.le.refl _) fun b hb=>keepB b (h.tokLt s q b h5 hb) fun j q' hj hb'=> ?_⟩
   obtain ⟨s',h7,h8⟩:=xown hj hb'
   have:=h.inj s s' q q' b h5 h8 hb hb'
   subst this
   exact h1 (List.mem_of_getElem? h7)
 case inj=>
  intro a b qa qb k h1 h2 h3 h4
  rcases htk a qa h1 with ha|⟨p,hp1,hp2,hp3⟩<;>rcases htk b qb h2 with hb|⟨p',hp1',hp2',hp3'⟩
  ·exact h.inj a b qa qb k ha.1 hb.1 h3 h4
  ·exact (cross ha hp1' hp3' h3 h4).elim
  ·exact (cross hb hp1 hp3 h4 h3).elim
  ·have:=hc.inj p p' qa qb k hp1 hp1' h3 h4
   rw [← hp2,← hp2',this]
 case tokLt=>
  intro a q k h1 h2
  rcases htk a q h1 with ha|⟨p,hp1,_⟩
  ·exact Nat.lt_of_lt_of_le (h.tokLt a q k ha.1 h2) hc.size
  ·exact hc.tokLt p q k hp1 h2
 case tokI=>
  intro a q k h1 h2
  rcases htk a q h1 with ha|⟨p,hp1,_⟩
  ·exact (oldblk h1 ha h2).1
  ·exact fun hI=>hc.tokI p q k hp1 h2 (hle k hI)
 case tys=>
  intro a q k h1 h2
  rcases htk a q h1 with ha|⟨p,hp1,_⟩
  ·exact h.tys a q k ha.1 h2
  ·exact hc.tys p q k hp1 h2
 case ilt=>exact fun b hb=>hc.ilt b (hle b hb)
 case fresh=>
  intro a q k h1 h2
  rcases htk a q h1 with ha|⟨p,hp1,_⟩
  ·exact h.fresh a q k ha.1 h2
  ·rcases hc.fresh p q k hp1 h2 with h3|⟨j,q',h3,h4⟩
   ·exact .inl (Nat.le_trans h.size h3)
   ·obtain ⟨s',_,h6⟩:=xown h3 h4
    exact h.fresh s' q' k h6 h4
 case ext=>exact hext
 case keep=>
  intro b hb hx
  refine (keepB b (Nat.lt_of_lt_of_le hb h.size) fun j q hj hq=> ?_).trans (h.keep b hb hx)
  obtain ⟨s',_,h6⟩:=xown hj hq
  rcases h.fresh s' q b h6 hq with h3|⟨j',q',h3,h4⟩
  ·omega
  ·exact hx j' q' h3 h4
 case size=>exact Nat.le_trans h.size hc.size
 case os=>exact hc.os.trans h.os
 case output=>exact hc.output.trans h.output
 case tape=>exact hc.tape.trans h.tape
 case sub=>exact fun b hb=>hs2 b (h.sub b hb)
 case new=>
  intro b hb
  rcases hnew b hb with h1|h1|⟨j,q,h1,h2⟩
  ·exact h.new b h1
  ·exact .inr (.inl (Nat.le_trans h.size h1))
  ·obtain ⟨s',_,h6⟩:=xown h1 h2
   rcases h.fresh s' q b h6 h2 with h3|h3
   ·exact .inr (.inl h3)
   ·exact .inr (.inr h3)
end Go.Own
set_option linter.unusedVariables false
namespace Go.Own
variable {C:Cx} {P:Program} {E:Env} {w w' w2:World} {I I' I1 I2:Nat→Prop} {st sv st':St} {tm:Array Value} {tk tk':aU} {ds:List Deferred} {o:Oper} {e:Ef}
theorem uj {α β:Type} {f:α→Option β}:∀ {l:List α} {r:List β},l.mapM f=some r→r.length=l.length∧∀ (k:Nat) (b:β),r[k]?=some b→∃ a,l[k]?=some a∧f a=some b:=by
 intro l
 induction l with
 |nil=>intro r h; simp at h; subst h; simp
 |cons a l ih=>
  intro r h
  simp only [List.mapM_cons,Option.bind_eq_bind,Option.pure_def] at h
  obtain ⟨b,hb,h⟩:=Option.bind_eq_some_iff.1 h
  obtain ⟨r',hr,h⟩:=Option.bind_eq_some_iff.1 h
  cases h
  obtain ⟨h1,h2⟩:=ih hr
  refine ⟨by simp [h1],fun k c hk=> ?_⟩
  cases k with
  |zero=>simp at hk; subst hk; exact ⟨a,rfl,hb⟩
  |succ k=>simpa using h2 k c (by simpa using hk)
theorem CV:∀ {l:List Nat} {s:Nat},idxOf s l<l.length→l[idxOf s l]?=some s:=by
 intro l
 induction l with
 |nil=>intro s h; simp at h
 |cons x l ih=>
  intro s h
  simp only [idxOf] at h ⊢
  cases hb:Nat.beq x s with
  |true=>rw [beq_iff.1 hb]; rfl
  |false=>
   rw [hb] at h
   simp only [cond_false,List.length_cons] at h ⊢
   rw [List.getElem?_cons_succ]
   exact ih (by omega)
theorem wV:∀ {l:List Nat} {s j:Nat},l.Nodup→l[j]?=some s→idxOf s l=j:=by
 intro l
 induction l with
 |nil=>intro s j _ h; simp at h
 |cons x l ih=>
  intro s j hn h
  obtain ⟨h1,h2⟩:=List.nodup_cons.1 hn
  simp only [idxOf]
  cases j with
  |zero=>simp at h; subst h; simp
  |succ j=>
   have h3:l[j]?=some s:=by simpa using h
   have hne:x≠s:=by rintro rfl; exact h1 (List.mem_of_getElem? h3)
   rw [eP.2 hne]
   simp only [cond_false]
   rw [ih h2 h3]
theorem vQ:∀ {l:List Nat},nodupB l=true→l.Nodup:=by
 intro l
 induction l with
 |nil=>intro _; exact List.nodup_nil
 |cons x l ih=>
  intro h
  simp only [nodupB,Bool.and_eq_true,Bool.not_eq_true',List.any_eq_false] at h
  exact List.nodup_cons.2 ⟨fun hm=>h.1 x hm (beq_iff.2 rfl),ih h.2⟩
theorem mV (ρ:Nat→Nat):∀ t:Ty,mentions (t.ren ρ)=(mentions t).map ρ
 | .int _=>rfl
 | .bool=>rfl
 | .str=>rfl
 | .flt=>rfl
 | .unit=>rfl
 | .eos _=>rfl
 | .pair a b=>by simp only [Ty.ren,mentions,mV ρ a,mV ρ b,List.map_append]
 | .arr n t=>mV ρ t
 | .sl _=>rfl
 | .ref _=>rfl
 | .nif=>rfl
 | .slf=>rfl
 | .nsl _=>rfl
 | .sf _ _ _=>rfl
 | .vw _ _=>rfl
 | .pt _ _ _=>rfl
 | .mp _ _ _=>rfl
 | .rid _ _=>rfl
 | .junk _=>rfl
 | .dyn t=>mV ρ t
 | .map _ _=>rfl
 | .pool _=>rfl
theorem nX (ρ:Nat→Nat) (d:DV):mentions (d.ren ρ).1=(mentions d.1).map ρ:=by
 unfold DV.ren
 cases h:(mentions d.1).isEmpty with
 |true=>simp [List.isEmpty_iff.1 h]
 |false=>exact mV ρ d.1
theorem xA {ρ:Nat→Nat} {v:SV} {a:AV} (ha:qX ρ v=some a):rZ a=v.sites.map ρ∧xw a=v.sites.map ρ∧Jv a=Bo a:=by
 cases v<;>simp only [qX,reduceCtorEq,Option.some.injEq] at ha<;>subst ha<;>exact ⟨rfl,rfl,rfl⟩
theorem Hf {ρ:Nat→Nat}:∀ {vs:List SV} {as:List AV},u7 ρ vs=some as→as.length=vs.length∧∀ (k:Nat) (a:AV),as[k]?=some a→∃ v,vs[k]?=some v∧qX ρ v=some a:=by
 intro vs
 induction vs with
 |nil=>intro as h; simp only [u7,Option.some.injEq] at h; subst h; simp
 |cons v vs ih=>
  intro as h
  simp only [u7] at h
  split at h
  ·rename_i a r e1 e2
   cases h
   obtain ⟨h1,h2⟩:=ih e2
   refine ⟨by simp [h1],fun k b hk=> ?_⟩
   cases k with
   |zero=>simp at hk; subst hk; exact ⟨v,rfl,e1⟩
   |succ k=>simpa using h2 k b (by simpa using hk)
  ·cases h
theorem Mc {ρ:Nat→Nat} {fs:List Pm} {f:FuncId}:∀ {vs:List SV} {i:Nat} {Ts:List TypeId} {as:List AV},Dm E ρ fs f i Ts vs=some as→as.length=vs.length∧∀ (k:Nat) (a:AV),as[k]?=some a→∃ v own T,vs[k]?=some v∧Uc E ρ fs own T v=some a:=by
 intro vs
 induction vs with
 |nil=>intro i Ts as h; simp only [Dm,Option.some.injEq] at h; subst h; simp
 |cons v vs ih=>
  intro i Ts as h
  simp only [Dm] at h
  split at h
  ·rename_i a r e1 e2
   cases h
   obtain ⟨h1,h2⟩:=ih e2
   refine ⟨by simp [h1],fun k b hk=> ?_⟩
   cases k with
   |zero=>simp at hk; subst hk; exact ⟨v,_,_,rfl,e1⟩
   |succ k=>simpa using h2 k b (by simpa using hk)
  ·cases h
theorem mE:∀ (l:List DV) (j:Nat),((iC j l).map (·.1)).Pairwise (· < ·)∧∀ x∈(iC j l).map (·.1),site j≤x
 | [],j=>⟨List.Pairwise.nil,by simp [iC]⟩
 |d::l,j=>by
  obtain ⟨h1,h2⟩:=mE l (j+1)
  have e:site (j+1)=site j+1:=by unfold site; omega
  simp only [iC,List.map_cons]
  refine ⟨List.pairwise_cons.2 ⟨fun x hx=>by have:=h2 x hx; omega,h1⟩,fun x hx=> ?_⟩
  rcases List.mem_cons.1 hx with rfl|hx
  ·exact Nat.le_refl _
  ·have:=h2 x hx; omega
theorem P5 (h:Inv C st tm w I tk):∀ {sites:List Nat} {bs:List DV},sites.mapM sv.box=some bs→View sv st→∃ xs:List Tk,xs.length=sites.length∧∀ (j s:Nat),sites[j]?=some s→tk s=xs[j]?:=by
 intro sites
 induction sites with
 |nil=>intro bs _ _; exact ⟨[],rfl,by simp⟩
 |cons s sites ih=>
  intro bs hb hV
  simp only [List.mapM_cons,Option.bind_eq_bind,Option.pure_def] at hb
  obtain ⟨d,hd,hb⟩:=Option.bind_eq_some_iff.1 hb
  obtain ⟨bs',hbs,hb⟩:=Option.bind_eq_some_iff.1 hb
  obtain ⟨xs,h1,h2⟩:=ih hbs hV
  obtain ⟨q,hq,_⟩:=h.boxes s d (hV.box s d hd)
  refine ⟨q::xs,by simp [h1],fun j r hj=> ?_⟩
  cases j with
  |zero=>simp at hj; subst hj; exact hq
  |succ j=>simpa using h2 j r (by simpa using hj)
theorem jK {xs:List Tk} {s:Nat} {q:Tk} (h:xtk xs s=some q):∃ j,s=site j∧xs[j]?=some q:=by
 unfold xtk at h
 split at h
 ·rename_i hs
  refine ⟨s - 1000000,?_,h⟩
  have:∀ n,site n=1000000+n:=fun n=>rfl
  rw [this]; omega
 ·cases h
theorem Jw (hV:View sv st) (h:Inv C st tm w I tk) {f:FuncId} {vs:List SV} {Ts:List TypeId} {as:List AV} {bs:List DV} {args:Array Value} {fs:List Pm} {sites:List Nat}
  (hfs:oZ sv (Bf E f 0 vs)=some fs) (hdj:o9 (fs.flatMap Pm.fs) sites=true) (hnd:sites.Nodup) (hsm:vs.length≤1000) (ha:Dm E (toC sites) fs f 0 Ts vs=some as) (hb:sites.mapM (aN fs sv).box=some bs)
  (hcl:zq sites.length as (bs.map (DV.ren (toC sites)))=true) (hsz:args.size=vs.length) (hv:∀ (k:Nat) (s:SV) (v:Value),vs[k]?=some s→args[k]?=some v→bf w I tk s v):
  ∃ I1 tk1 xs,xK C sv st tm w I tk fs I1 tk1∧xs.length=sites.length∧(∀ (j s:Nat),sites[j]?=some s→tk1 s=xs[j]?)∧Inv ⟨C.P,w,I1,xs⟩ (jS as (bs.map (DV.ren (toC sites)))) args w I1 (xtk xs):=by
 obtain ⟨I1,tk1,hF⟩:=kC hV h hfs
 obtain ⟨xs,hxl,hxs⟩:=P5 hF.inv hb hF.view
 have hns:∀ s∈sites,s∉fs.flatMap Pm.fs:=by
  intro s hs hm
  have:=List.all_eq_true.1 hdj s hm
  simp only [Bool.not_eq_true',List.any_eq_false] at this
  exact this s hs (beq_iff.2 rfl)
 unfold zq at hcl
 simp only [Bool.and_eq_true,List.all_eq_true] at hcl
 obtain ⟨hca,hcb⟩:=hcl
 have lt_idx:∀ s,toC sites s<site sites.length→idxOf s sites<sites.length:=fun s hs=>by unfold toC site at hs; omega
 have tok:∀ s,toC sites s<site sites.length→xtk xs (toC sites s)=tk1 s∧tk1 s=tk s:=by
  intro s hs
  have hi:=CV (lt_idx s hs)
  refine ⟨?_,hF.tok s (hns s (List.mem_of_getElem? hi))⟩
  show xtk xs (site (idxOf s sites))=_
  rw [tJ,hxs _ s hi]
 obtain ⟨hal,haget⟩:=Mc ha
 obtain ⟨hbl,hbget⟩:=uj hb
 have own1:∀ {v:SV} {a:AV} {x:Value},qX (toC sites) v=some a→(∀ p∈rZ a,p<site sites.length)→dB w I tk v x→dB w I1 (xtk xs) (Bo a) x:=by
  intro v a x ha hp hr
  obtain ⟨h1,_⟩:=xA ha
  have hr1:=dB.world hF.mono (fun _ _=>rfl) (aU.le.refl _) hr
  refine (Jy ha (fun s hs=> ?_) hr1).1
  have:=tok s (hp _ (by rw [h1]; exact List.mem_map.2 ⟨s,hs,rfl⟩))
  exact this.1.trans this.2
 have xsite:∀ {j:Nat} {q:Tk},xs[j]?=some q→∃ s,sites[j]?=some s∧tk1 s=some q:=by
  intro j q hj
  have hjl:j<sites.length:=by rw [← hxl]; exact (List.getElem?_eq_some_iff.1 hj).1
  exact ⟨_,List.getElem?_eq_getElem hjl,(hxs j _ (List.getElem?_eq_getElem hjl)).trans hj⟩
 refine ⟨I1,tk1,xs,hF,hxl,hxs,?_⟩
 constructor
 case len=>simp [jS,hal,hsz]
 case small=>simp only [jS,List.length_map,hal]; omega
 case srt=>exact (mE _ 0).1
 case slots=>
  intro i hi
  have hi':i<as.length:=by simpa [jS] using hi
  have hia:as[i]?=some as[i]:=List.getElem?_eq_getElem hi'
  obtain ⟨v,own,T,h1,h2⟩:=haget i _ hia
  have hiz:i<args.size:=by rw [hsz,← hal]; exact hi'
  have e1:(jS as (bs.map (DV.ren (toC sites)))).slot i=Jv as[i]:=by
   unfold St.slot jS
   simp only [List.getD_eq_getElem?_getD,List.getElem?_map,hia,Option.map_some,Option.getD_some]
  have e2:args.getD i undef=args[i]:=by simp [Array.getD,hiz]
  rw [e1,e2]
  have hr:=hv i v args[i] h1 (Array.getElem?_eq_getElem hiz)
  have hp:∀ p∈xw as[i],p<site sites.length:=fun p hp=>Nat.le_of_ble_eq_true (hca p (List.mem_flatMap.2 ⟨_,List.mem_of_getElem? hia,hp⟩))
  generalize as[i]=a at h2 hp
  have rest:(bif qo own v then qX (toC sites) v else (oK (E.T T) (qU fs v)).map AV.val)=some a→(v.jL=true)→bf w I1 (xtk xs) (Jv a) args[i]:=by
   intro h2 hone
   cases ho:qo own v with
   |true=>
    rw [ho] at h2
    simp only [cond_true] at h2
    obtain ⟨h3,h4,h5⟩:=xA h2
    rw [h5]
    exact bf.of1 (own1 h2 (by rw [h3,← h4]; exact hp) ((bf.one hone).1 hr))
   |false=>
    rw [ho] at h2
    simp only [cond_false] at h2
    obtain ⟨d,hd,rfl⟩:=Option.map_eq_some_iff.1 h2
    obtain ⟨g1,g2⟩:=jR (hF.val _ _ hr) hd
    exact ⟨g1,g2.plain g1⟩
  cases v with
  |clo g caps=>
   obtain ⟨cs,hcs,rfl⟩:=Option.map_eq_some_iff.1 (show (u7 (toC sites) caps).map (AV.clo g)=some a from h2)
   obtain ⟨ws,g1,g2,g3⟩:=hr
   obtain ⟨k1,k2⟩:=Hf hcs
   refine ⟨ws,g1,by simp [g2,k1],fun j c x hj hx=> ?_⟩
   rw [List.getElem?_map] at hj
   obtain ⟨c0,hc0,rfl⟩:=Option.map_eq_some_iff.1 hj
   obtain ⟨v0,hv0,hav⟩:=k2 j c0 hc0
   exact own1 hav (fun p hp'=>hp p (List.mem_flatMap.2 ⟨c0,List.mem_of_getElem? hc0,hp'⟩)) (g3 j v0 x hv0 hx)
  |tup l=>
   have:(bif qo own (.tup l) then qX (toC sites) (.tup l) else (oK (E.T T) (qU fs (.tup l))).map AV.val)=some a:=h2
   cases ho:qo own (.tup l) with
   |true=>cases ho
   |false=>
    rw [ho] at this
    simp only [cond_false] at this
    obtain ⟨d,hd,rfl⟩:=Option.map_eq_some_iff.1 this
    obtain ⟨g1,g2⟩:=jR (hF.val _ _ hr) hd
    exact ⟨g1,g2.plain g1⟩
  |_=>exact rest h2 rfl
 case boxes=>
  intro s d hs
  rw [Fg] at hs
  split at hs
  ·rename_i hs1
   rw [List.getElem?_map] at hs
   obtain ⟨d0,hd0,rfl⟩:=Option.map_eq_some_iff.1 hs
   obtain ⟨s0,hs0,hbx⟩:=hbget _ d0 hd0
   obtain ⟨q,g1,g2⟩:=hF.inv.boxes s0 d0 (hF.view.box _ _ hbx)
   have hq:xs[s - 1000000]?=some q:=by rw [← hxs _ s0 hs0]; exact g1
   refine ⟨q,by unfold xtk; rw [if_pos hs1]; exact hq,g2.ren (toC sites) fun p hp=> ?_⟩
   refine (tok p ?_).1
   have hm:toC sites p∈mentions (DV.ren (toC sites) d0).1:=by rw [nX]; exact List.mem_map.2 ⟨p,hp,rfl⟩
   exact Nat.le_of_ble_eq_true (hcb _ (List.mem_flatMap.2 ⟨_,List.mem_map.2 ⟨d0,List.mem_of_getElem? hd0,rfl⟩,hm⟩))
  ·cases hs
 case inj=>
  intro a b qa qb k h1 h2 h3 h4
  obtain ⟨i,rfl,hi⟩:=jK h1
  obtain ⟨j,rfl,hj⟩:=jK h2
  obtain ⟨s1,e1,e2⟩:=xsite hi
  obtain ⟨s2,e3,e4⟩:=xsite hj
  have:=hF.inv.inj s1 s2 qa qb k e2 e4 h3 h4
  subst this
  rw [← wV hnd e1,← wV hnd e3]
 case tokLt=>
  intro a q k h1 h2
  obtain ⟨i,rfl,hi⟩:=jK h1
  obtain ⟨s1,_,e2⟩:=xsite hi
  exact hF.inv.tokLt s1 q k e2 h2
 case tokI=>
  intro a q k h1 h2
  obtain ⟨i,rfl,hi⟩:=jK h1
  obtain ⟨s1,_,e2⟩:=xsite hi
  exact hF.inv.tokI s1 q k e2 h2
 case tys=>
  intro a q k h1 h2
  obtain ⟨i,rfl,hi⟩:=jK h1
  obtain ⟨s1,_,e2⟩:=xsite hi
  exact hF.inv.tys s1 q k e2 h2
 case ilt=>exact hF.inv.ilt
 case fresh=>
  intro a q k h1 h2
  obtain ⟨i,rfl,hi⟩:=jK h1
  exact .inr ⟨i,q,hi,h2⟩
 case ext=>intro j q hj d hd; rw [tJ]; exact hj
 case keep=>exact fun _ _ _=>rfl
 case size=>exact Nat.le_refl _
 case os=>rfl
 case output=>rfl
 case tape=>rfl
 case sub=>exact fun _ h=>h
 case new=>exact fun _ h=> .inl h
end Go.Own
set_option linter.unusedVariables false
namespace Go.Own
variable {C:Cx} {P:Program} {E:Env} {w w' w2:World} {I I' I1 I2:Nat→Prop} {st sv st':St} {tm:Array Value} {tk tk':aU} {ds:List Deferred} {o:Oper} {e:Ef}
theorem Aq (b:Bool) {u v:Ty} {x:Nat} (h:x∈mentions (kv b u v)):x∈mentions v:=by
 cases b
 ·exact h
 ·simp [kv,mentions] at h
theorem fw (s x:Nat):∀ t:Ty,x∈mentions (t.kill s)→x∈mentions t
 | .int _,h=>h
 | .bool,h=>h
 | .str,h=>h
 | .flt,h=>h
 | .unit,h=>h
 | .eos _,h=>h
 | .pair a b,h=>by
  simp only [Ty.kill,mentions,List.mem_append] at h ⊢
  exact h.imp (fw s x a) (fw s x b)
 | .arr n t,h=>fw s x t h
 | .sl _,h=>h
 | .ref _,h=>h
 | .nif,h=>h
 | .slf,h=>h
 | .nsl _,h=>h
 | .sf r t pa,h=>Aq _ h
 | .vw r t,h=>Aq _ h
 | .pt r t pa,h=>Aq _ h
 | .mp r k v,h=>Aq _ h
 | .rid r t,h=>Aq _ h
 | .junk _,h=>h
 | .dyn t,h=>fw s x t h
 | .map _ _,h=>h
 | .pool _,h=>h
theorem CP (s x:Nat) (v:SV) (h:x∈(v.eu s).sites):x∈v.sites:=by
 cases v with
 |sd d=>simp only [SV.eu,DV.jZ] at h; exact fw s x d.1 h
 |va r t=>simp only [SV.eu] at h; cases hb:Nat.beq r s<;>rw [hb] at h<;>first|exact h|(simp [SV.sites] at h; done)
 |vs r t pa lo n=>simp only [SV.eu] at h; cases hb:Nat.beq r s<;>rw [hb] at h<;>first|exact h|(simp [SV.sites] at h; done)
 |pb r t pa=>simp only [SV.eu] at h; cases hb:Nat.beq r s<;>rw [hb] at h<;>first|exact h|(simp [SV.sites] at h; done)
 |mp r k v=>simp only [SV.eu] at h; cases hb:Nat.beq r s<;>rw [hb] at h<;>first|exact h|(simp [SV.sites] at h; done)
 |ud r t=>simp only [SV.eu] at h; cases hb:Nat.beq r s<;>rw [hb] at h<;>first|exact h|(simp [SV.sites] at h; done)
 |_=>exact h
theorem Au (s x:Nat) (v:SV) (h:x∈(v.kill s).dO):x∈v.dO:=by
 have flat:∀ l:List SV,x∈(l.map (SV.eu s)).flatMap SV.sites→x∈l.flatMap SV.sites:=by
  intro l h
  rw [List.mem_flatMap] at h ⊢
  obtain ⟨a,ha,hs⟩:=h
  rw [List.mem_map] at ha
  obtain ⟨b,hb,rfl⟩:=ha
  exact ⟨b,hb,CP s x b hs⟩
 cases hv:v.jL with
 |true=>rw [oz hv,jk (uX hv s)] at h; rw [jk hv]; exact CP s x v h
 |false=>
  cases v with
  |clo f caps=>exact flat caps h
  |tup l=>exact flat l h
  |_=>cases hv
def St.yV (st:St) (s:Nat):Prop:=(∀ i,s∉(st.slot i).dO)∧∀ r d,st.box r=some d→s∉mentions d.1
theorem Jd (st:St) (s:Nat):(st.kill s).yV s:=by
 refine ⟨fun i=>by rw [nE]; exact Ed s _,fun r d hr=> ?_⟩
 rw [ng] at hr
 obtain ⟨d0,_,rfl⟩:=Option.map_eq_some_iff.1 hr
 exact gJ s d0.1
def AB:Pm→Bool
 | .kill _=>true
 | .del _=>true
 |_=>false
theorem Jc {p:Pm} (hp:AB p=true) {s:Nat} (h:st.yV s):(p.run st).yV s:=by
 cases p<;>first|cases hp; done|skip
 ·rename_i r
  refine ⟨fun i=>by simp only [Pm.run]; rw [nE]; exact fun hm=>h.1 i (Au r s _ hm),fun q d hq=> ?_⟩
  simp only [Pm.run] at hq
  rw [ng] at hq
  obtain ⟨d0,h0,rfl⟩:=Option.map_eq_some_iff.1 hq
  exact fun hm=>h.2 q d0 h0 (fw r s d0.1 hm)
 ·rename_i r
  refine ⟨h.1,fun q d hq=> ?_⟩
  simp only [Pm.run] at hq
  rw [og] at hq
  split at hq
  ·cases hq
  ·exact h.2 q d hq
theorem AY:∀ {ps:List Pm} {st:St},ps.all AB=true→∀ {s:Nat},st.yV s→(aN ps st).yV s
 | [],_,_,_,h=>h
 |p::ps,st,ha,s,h=>by
  simp only [List.all_cons,Bool.and_eq_true] at ha
  exact AY (ps:=ps) ha.2 (Jc ha.1 h)
theorem ul:∀ {ps:List Pm} {st:St},ps.all AB=true→∀ {s:Nat},Pm.kill s∈ps→(aN ps st).yV s
 | [],_,_,_,h=>by cases h
 |p::ps,st,ha,s,h=>by
  simp only [List.all_cons,Bool.and_eq_true] at ha
  rcases List.mem_cons.1 h with rfl|h
  ·exact AY ha.2 (Jd st s)
  ·exact ul (ps:=ps) ha.2 h
theorem Cu:∀ {ps:List Pm} {st:St},ps.all AB=true→∀ {s:Nat},st.box s=none→(aN ps st).box s=none
 | [],_,_,_,h=>h
 |p::ps,st,ha,s,h=>by
  simp only [List.all_cons,Bool.and_eq_true] at ha
  refine Cu (ps:=ps) ha.2 ?_
  cases p<;>first|cases ha.1; done|skip
  ·simp only [Pm.run]; rw [ng,h]; rfl
  ·simp only [Pm.run]; rw [og,h]; split<;>rfl
theorem xk:∀ {ps:List Pm} {st:St},ps.all AB=true→∀ {s:Nat},Pm.del s∈ps→(aN ps st).box s=none
 | [],_,_,_,h=>by cases h
 |p::ps,st,ha,s,h=>by
  simp only [List.all_cons,Bool.and_eq_true] at ha
  rcases List.mem_cons.1 h with rfl|h
  ·exact Cu ha.2 (by simp only [Pm.run]; rw [og,if_pos rfl])
  ·exact xk (ps:=ps) ha.2 h
theorem Inv.kds:∀ {ps:List Pm} {st:St},ps.all AB=true→Inv C st tm w I tk→Inv C (aN ps st) tm w I tk
 | [],_,_,h=>h
 |p::ps,st,ha,h=>by
  simp only [List.all_cons,Bool.and_eq_true] at ha
  refine Inv.kds (ps:=ps) ha.2 ?_
  cases p<;>first|cases ha.1; done|skip
  ·exact h.kill _
  ·exact h.Ot _
def CR:Pm→Bool
 | .ins _ _=>true
 |_=>false
theorem Gq:∀ {ps:List Pm} {st:St},ps.all CR=true→(aN ps st).sl=st.sl∧(st.srt→(aN ps st).srt)∧
  ∀ s d,(aN ps st).box s=some d→Pm.ins s d∈ps∨((∀ d',Pm.ins s d'∉ps)∧st.box s=some d)
 | [],st,_=>⟨rfl,fun h=>h,fun s d h=> .inr ⟨fun d' hm=>(by cases hm),h⟩⟩
 |p::ps,st,ha=>by
  simp only [List.all_cons,Bool.and_eq_true] at ha
  cases p<;>first|cases ha.1; done|skip
  rename_i r e
  obtain ⟨h1,h2,h3⟩:=Gq (ps:=ps) (st:=st.gI r e) ha.2
  refine ⟨h1,fun h=>h2 (nD h r e),fun s d h=> ?_⟩
  rcases h3 s d h with h4|⟨h4,h5⟩
  ·exact .inl (List.mem_cons_of_mem _ h4)
  ·rw [iE] at h5
   split at h5
   ·rename_i hs; cases h5; subst hs; exact .inl List.mem_cons_self
   ·rename_i hs
    refine .inr ⟨fun d' hm=> ?_,h5⟩
    rcases List.mem_cons.1 hm with hm|hm
    ·cases hm; exact hs rfl
    ·exact h4 d' hm
theorem zK:∀ (ss:List Nat) (bs:List (Option DV)),(iB ss bs).all AB=true
 | [],[]=>rfl
 | [],_::_=>rfl
 |_::_,[]=>rfl
 |s::ss,none::bs=>by simp only [iB,List.all_cons,AB,Bool.true_and]; exact zK ss bs
 |s::ss,some _::bs=>by simp only [iB]; exact zK ss bs
theorem xN:∀ (ss:List Nat) (bs:List (Option DV)) (j s:Nat),ss[j]?=some s→bs[j]?=some none→Pm.kill s∈iB ss bs∧Pm.del s∈iB ss bs
 | [],bs,j,s,h,_=>by simp at h
 |_::_,[],j,s,_,h=>by simp at h
 |a::ss,b::bs,0,s,h,h'=>by
  simp at h h'
  subst h; subst h'
  simp [iB]
 |a::ss,b::bs,j+1,s,h,h'=>by
  obtain ⟨h1,h2⟩:=xN ss bs j s (by simpa using h) (by simpa using h')
  cases b with
  |none=>simp only [iB]; exact ⟨List.mem_cons_of_mem _ (List.mem_cons_of_mem _ h1),List.mem_cons_of_mem _ (List.mem_cons_of_mem _ h2)⟩
  |some d=>exact ⟨h1,h2⟩
theorem wY (σ:Nat→Nat):∀ (j:Nat) (fs:List DV),(gG σ j fs).all AB=true
 |_,[]=>rfl
 |j,_::r=>by simp only [gG,List.all_cons,AB,Bool.true_and]; exact wY σ (j+1) r
theorem vG (σ:Nat→Nat):∀ (j:Nat) (fs:List DV) (i:Nat),i<fs.length→Pm.kill (σ (site (j+i)))∈gG σ j fs
 |_,[],i,h=>by simp at h
 |j,_::r,0,_=>List.mem_cons_self
 |j,_::r,i+1,h=>by
  have:=vG σ (j+1) r i (by simpa using h)
  rw [show j+1+i=j+(i+1) by omega] at this
  exact List.mem_cons_of_mem _ this
theorem Bn (σ:Nat→Nat):∀ (ss:List Nat) (bs:List (Option DV)),(lH σ ss bs).all CR=true
 | [],[]=>rfl
 | [],_::_=>rfl
 |_::_,[]=>rfl
 |s::ss,none::bs=>Bn σ ss bs
 |s::ss,some _::bs=>by simp only [lH,List.all_cons,CR,Bool.true_and]; exact Bn σ ss bs
theorem back_mem (σ:Nat→Nat):∀ (ss:List Nat) (bs:List (Option DV)) (s:Nat) (d:DV),Pm.ins s d∈lH σ ss bs→∃ (j:Nat) (d':DV),ss[j]?=some s∧bs[j]?=some (some d')∧d=d'.ren σ
 | [],[],s,d,h=>by cases h
 | [],_::_,s,d,h=>by cases h
 |_::_,[],s,d,h=>by cases h
 |a::ss,none::bs,s,d,h=>by
  obtain ⟨j,d',h1,h2,h3⟩:=back_mem σ ss bs s d h
  exact ⟨j+1,d',by simpa using h1,by simpa using h2,h3⟩
 |a::ss,some e::bs,s,d,h=>by
  simp only [lH] at h
  rcases List.mem_cons.1 h with h|h
  ·cases h; exact ⟨0,e,rfl,rfl,rfl⟩
  ·obtain ⟨j,d',h1,h2,h3⟩:=back_mem σ ss bs s d h
   exact ⟨j+1,d',by simpa using h1,by simpa using h2,h3⟩
theorem Ak (σ:Nat→Nat):∀ (ss:List Nat) (bs:List (Option DV)) (j s:Nat) (d':DV),ss[j]?=some s→bs[j]?=some (some d')→Pm.ins s (d'.ren σ)∈lH σ ss bs∧s∈pG ss bs
 | [],bs,j,s,d',h,_=>by simp at h
 |_::_,[],j,s,d',_,h=>by simp at h
 |a::ss,b::bs,0,s,d',h,h'=>by
  simp at h h'
  subst h; subst h'
  simp [lH,pG]
 |a::ss,b::bs,j+1,s,d',h,h'=>by
  obtain ⟨h1,h2⟩:=Ak σ ss bs j s d' (by simpa using h) (by simpa using h')
  cases b with
  |none=>exact ⟨h1,h2⟩
  |some d=>exact ⟨List.mem_cons_of_mem _ h1,List.mem_cons_of_mem _ h2⟩
theorem CY (σ:Nat→Nat):∀ (j:Nat) (fs:List DV),(kM σ j fs).all CR=true
 |_,[]=>rfl
 |j,_::r=>by simp only [kM,List.all_cons,CR,Bool.true_and]; exact CY σ (j+1) r
theorem yc (σ:Nat→Nat):∀ (j:Nat) (fs:List DV) (s:Nat) (d:DV),Pm.ins s d∈kM σ j fs→∃ (i:Nat) (d':DV),fs[i]?=some d'∧s=σ (site (j+i))∧d=d'.ren σ
 |_,[],s,d,h=>by cases h
 |j,e::r,s,d,h=>by
  simp only [kM] at h
  rcases List.mem_cons.1 h with h|h
  ·cases h; exact ⟨0,e,rfl,rfl,rfl⟩
  ·obtain ⟨i,d',h1,h2,h3⟩:=yc σ (j+1) r s d h
   exact ⟨i+1,d',by simpa using h1,by rw [h2]; congr 2; omega,h3⟩
theorem Cy (σ:Nat→Nat):∀ (j:Nat) (fs:List DV) (i:Nat) (d:DV),fs[i]?=some d→Pm.ins (σ (site (j+i))) (d.ren σ)∈kM σ j fs
 |_,[],i,d,h=>by simp at h
 |j,e::r,0,d,h=>by simp at h; subst h; exact List.mem_cons_self
 |j,e::r,i+1,d,h=>by
  have:=Cy σ (j+1) r i d (by simpa using h)
  rw [show j+1+i=j+(i+1) by omega] at this
  exact List.mem_cons_of_mem _ this
theorem J5 {sites:List Nat} {d0 j s:Nat} (h:sites[j]?=some s):ofC sites d0 (site j)=s:=by
 unfold ofC
 have:site j - 1000000=j:=by unfold site; omega
 rw [this,h]
theorem J6 (sites:List Nat) (d0 i:Nat):ofC sites d0 (site (sites.length+i))=4096*(i+1)+d0:=by
 unfold ofC
 have:site (sites.length+i) - 1000000=sites.length+i:=by unfold site; omega
 have h2:sites.length+i+1 - sites.length=i+1:=by omega
 rw [this,List.getElem?_eq_none (by omega)]
 simp only [h2]
end Go.Own
set_option linter.unusedVariables false
namespace Go.Own
variable {C:Cx} {P:Program} {E:Env} {w w' w2:World} {I I' I1 I2:Nat→Prop} {st sv st':St} {tm:Array Value} {tk tk':aU} {ds:List Deferred} {o:Oper} {e:Ef}
noncomputable def oV (tk tk':aU) (sites:List Nat) (d0:Nat) (r:Res):aU:=fun s=>
 open Classical in
 if h:∃ i,i<r.fs.length∧s=ofC sites d0 (site (sites.length+i)) then tk' (site (sites.length+h.choose))
 else if ∃ j:Nat,sites[j]?=some s∧r.bs[j]?=some none then none else tk s
section
variable {sites:List Nat} {d0:Nat} {r:Res}
theorem BD {i:Nat} (h:i<r.fs.length):oV tk tk' sites d0 r (ofC sites d0 (site (sites.length+i)))=tk' (site (sites.length+i)):=by
 unfold oV
 have hx:∃ k,k<r.fs.length∧ofC sites d0 (site (sites.length+i))=ofC sites d0 (site (sites.length+k)):=⟨i,h,rfl⟩
 rw [dif_pos hx]
 have hs:=hx.choose_spec
 have:=(J6 sites d0 i).symm.trans (hs.2.trans (J6 sites d0 hx.choose))
 have e:hx.choose=i:=by omega
 rw [e]
theorem oq {s:Nat} (h1:∀ i,i<r.fs.length→s≠ofC sites d0 (site (sites.length+i))) (h2:∀ j:Nat,sites[j]?=some s→r.bs[j]?≠some none):oV tk tk' sites d0 r s=tk s:=by
 unfold oV
 rw [dif_neg (fun ⟨i,hi,e⟩=>h1 i hi e),if_neg (fun ⟨j,hj,e⟩=>h2 j hj e)]
theorem BF {s:Nat} {q:Tk} (h:oV tk tk' sites d0 r s=some q):(∃ i,i<r.fs.length∧s=ofC sites d0 (site (sites.length+i))∧tk' (site (sites.length+i))=some q)∨
  ((∀ i,i<r.fs.length→s≠ofC sites d0 (site (sites.length+i)))∧(∀ j:Nat,sites[j]?=some s→r.bs[j]?≠some none)∧tk s=some q):=by
 unfold oV at h
 split at h
 ·rename_i hx
  exact .inl ⟨hx.choose,hx.choose_spec.1,hx.choose_spec.2,h⟩
 ·rename_i hx
  split at h
  ·cases h
  ·rename_i hy
   exact .inr ⟨fun i hi e=>hx ⟨i,hi,e⟩,fun j hj e=>hy ⟨j,hj,e⟩,h⟩
end
theorem FY {l:List Nat} (h:l.Nodup) {i j s:Nat} (h1:l[i]?=some s) (h2:l[j]?=some s):i=j:=by
 rw [← wV h h1,← wV h h2]
theorem Inv.after {stc:St} {Ic:Nat→Prop} {tkc:aU} {r:Res} {xs:List Tk} {vs:Array Value} {sites:List Nat} {d0:Nat} (h:Inv C stc tm w Ic tkc) (hc:Inv ⟨C.P,w,I1,xs⟩ (jH r) vs w' I' tk')
  (hI1:∀ b,Ic b→I1 b) (hs2:∀ b,Ic b→I2 b) (hle:∀ b,I2 b→I' b) (hnew:∀ b,I2 b→Ic b∨w.heap.size≤b∨∃ (j:Nat) (q:Tk),xs[j]?=some q∧q.own b)
  (hsites:∀ (j s:Nat),sites[j]?=some s→tkc s=xs[j]?) (hxl:xs.length=sites.length) (hxI:∀ (j:Nat) (q:Tk) (b:Nat),xs[j]?=some q→q.own b→¬ I1 b)
  (hnd:sites.Nodup) (hbl:r.bs.length=sites.length) (hfo:zn sites (ofC sites d0) r=true) (hcl:mY r=true)
  (hbR:∀ p d' q,(jH r).box p=some d'→tk' p=some q→aI w' I2 tk' q d')
  (hextS:∀ (j:Nat) (q:Tk),C.xs[j]?=some q→site j∈sites→tkc (site j)=some q):
  ∃ tkN,Inv C (aN (iB sites r.bs++gG (ofC sites d0) sites.length r.fs++lH (ofC sites d0) sites r.bs++kM (ofC sites d0) sites.length r.fs) stc) tm w' I2 tkN∧∀ p,inR r p=true→tkN (ofC sites d0 p)=tk' p:=by
 have kd:(iB sites r.bs++gG (ofC sites d0) sites.length r.fs).all AB=true:=by rw [List.all_append,zK,wY]; rfl
 have ii:(lH (ofC sites d0) sites r.bs++kM (ofC sites d0) sites.length r.fs).all CR=true:=by rw [List.all_append,Bn,CY]; rfl
 have e0:aN (iB sites r.bs++gG (ofC sites d0) sites.length r.fs++lH (ofC sites d0) sites r.bs++kM (ofC sites d0) sites.length r.fs) stc=aN (lH (ofC sites d0) sites r.bs++kM (ofC sites d0) sites.length r.fs) (aN (iB sites r.bs++gG (ofC sites d0) sites.length r.fs) stc):=by
  rw [List.append_assoc (iB sites r.bs++gG (ofC sites d0) sites.length r.fs),dD]
 rw [e0]
 have h2:=h.kds kd
 obtain ⟨i1,i2,i3⟩:=Gq (st:=aN (iB sites r.bs++gG (ofC sites d0) sites.length r.fs) stc) ii
 have ffree:∀ i,i<r.fs.length→(aN (iB sites r.bs++gG (ofC sites d0) sites.length r.fs) stc).yV (ofC sites d0 (site (sites.length+i))):=fun i hi=>ul kd (List.mem_append_right _ (vG _ _ _ i hi))
 have tfree:∀ j s:Nat,sites[j]?=some s→r.bs[j]?=some none→(aN (iB sites r.bs++gG (ofC sites d0) sites.length r.fs) stc).yV s:=fun j s hj hb=>ul kd (List.mem_append_left _ (xN _ _ j s hj hb).1)
 have tnone:∀ j s:Nat,sites[j]?=some s→r.bs[j]?=some none→(aN (iB sites r.bs++gG (ofC sites d0) sites.length r.fs) stc).box s=none:=fun j s hj hb=>xk kd (List.mem_append_left _ (xN _ _ j s hj hb).2)
 unfold zn at hfo
 rw [List.all_eq_true] at hfo
 have fok:∀ i,i<r.fs.length→ofC sites d0 (site (sites.length+i))<1000000∧ofC sites d0 (site (sites.length+i))∉pG sites r.bs:=by
  intro i hi
  have:=hfo i (List.mem_range.2 hi)
  simp only [Bool.and_eq_true,Bool.not_eq_true',List.any_eq_false] at this
  exact ⟨Nat.le_of_ble_eq_true this.1,fun hm=>this.2 _ hm (beq_iff.2 rfl)⟩
 have back:∀ {j s:Nat} {d:DV},sites[j]?=some s→r.bs[j]?=some (some d)→oV tkc tk' sites d0 r s=tkc s∧tk' (site j)=tkc s:=by
  intro j s d hj hb
  have hm:=(Ak (ofC sites d0) sites r.bs j s d hj hb).2
  refine ⟨oq (fun i hi e=>(fok i hi).2 (e ▸ hm)) (fun j' hj' hb'=> ?_),?_⟩
  ·have:=FY hnd hj hj'
   subst this
   rw [hb] at hb'; cases hb'
  ·have hjl:j<xs.length:=by rw [hxl]; exact (List.getElem?_eq_some_iff.1 hj).1
   rw [hsites j s hj,List.getElem?_eq_getElem hjl]
   exact hc.ext j xs[j] (List.getElem?_eq_getElem hjl) d (xO r hb)
 have notT:∀ {j s:Nat},sites[j]?=some s→r.bs[j]?≠some none→∃ d,r.bs[j]?=some (some d):=by
  intro j s hj hb
  have hjl:j<r.bs.length:=by rw [hbl]; exact (List.getElem?_eq_some_iff.1 hj).1
  rw [List.getElem?_eq_getElem hjl] at hb ⊢
  cases hx:r.bs[j] with
  |none=>rw [hx] at hb; exact absurd rfl hb
  |some d=>exact ⟨d,rfl⟩
 have named:∀ p,inR r p=true→oV tkc tk' sites d0 r (ofC sites d0 p)=tk' p:=by
  intro p hp
  unfold inR at hp
  simp only [Bool.and_eq_true] at hp
  obtain ⟨hp1,hp2⟩:=hp
  have hp1':=Nat.le_of_ble_eq_true hp1
  have hps:p=site (p - 1000000):=by unfold site; omega
  split at hp2
  ·rename_i d hb
   have hjl:p - 1000000<sites.length:=by rw [← hbl]; exact (List.getElem?_eq_some_iff.1 hb).1
   have hj:sites[p - 1000000]?=some sites[p - 1000000]:=List.getElem?_eq_getElem hjl
   obtain ⟨b1,b2⟩:=back hj hb
   have ho:ofC sites d0 p=sites[p - 1000000]:=by
    have:=J5 (d0:=d0) hj
    rwa [← hps] at this
   rw [ho,b1,← b2,← hps]
  ·cases hp2
  ·rename_i hb
   have hlt:=Nat.le_of_ble_eq_true hp2
   have hge:r.bs.length≤p - 1000000:=List.getElem?_eq_none_iff.1 hb
   have hk:p - 1000000 - sites.length<r.fs.length:=by unfold site at hlt; omega
   have hps':p=site (sites.length+(p - 1000000 - sites.length)):=by rw [show sites.length+(p - 1000000 - sites.length)=p - 1000000 by omega]; exact hps
   have:=BD (tk:=tkc) (tk':=tk') (sites:=sites) (d0:=d0) hk
   rw [← hps'] at this
   exact this
 have hcl':=hcl
 unfold mY at hcl'
 simp only [Bool.and_eq_true,List.all_eq_true] at hcl'
 obtain ⟨⟨_,hclb⟩,hclf⟩:=hcl'
 refine ⟨oV tkc tk' sites d0 r,?_,named⟩
 refine Inv.merge (σ:=ofC sites d0) (xs:=xs) (sites:=sites) (I1:=I1) (I':=I') h2 hc hI1 hs2 hle hnew hsites hxl hxI i1 (i2 h2.srt) ?_ ?_ ?_ ?_ ?_
 ·
  intro i s hi hs
  exact oq (fun k hk e=>(ffree k hk).1 i (e ▸ hs)) (fun j hj hb=>(tfree j s hj hb).1 i hs)
 ·
  intro s d hs
  rcases i3 s d hs with hm|⟨hno,hs2⟩
  ·left
   rcases List.mem_append.1 hm with hm|hm
   ·obtain ⟨j,d',h3,h4,h5⟩:=back_mem _ _ _ _ _ hm
    refine ⟨site j,d',xO r h4,J5 h3,h5,fun q hq=>hbR _ _ _ (xO r h4) hq,fun p' hp'=>named p' (hclb p' (List.mem_flatMap.2 ⟨some d',List.mem_of_getElem? h4,hp'⟩))⟩
   ·obtain ⟨i,d',h3,h4,h5⟩:=yc _ _ _ _ _ hm
    have h6:=Ie r h3
    rw [hbl] at h6
    refine ⟨site (sites.length+i),d',h6,h4.symm,h5,fun q hq=>hbR _ _ _ h6 hq,fun p' hp'=>named p' (hclf p' (List.mem_flatMap.2 ⟨d',List.mem_of_getElem? h3,hp'⟩))⟩
  ·right
   have hns:s∉sites:=by
    intro hm
    obtain ⟨j,hj⟩:=List.getElem?_of_mem hm
    by_cases hb:r.bs[j]?=some none
    ·rw [tnone j s hj hb] at hs2; cases hs2
    ·obtain ⟨d',hd'⟩:=notT hj hb
     exact hno _ (List.mem_append_left _ (Ak _ _ _ j s d' hj hd').1)
   refine ⟨hns,hs2,oq (fun i hi e=> ?_) (fun j hj _=>hns (List.mem_of_getElem? hj)),fun s' hs'=> ?_⟩
   ·subst e
    exact hno _ (List.mem_append_right _ (Cy _ _ _ i _ (List.getElem?_eq_getElem hi)))
   ·exact oq (fun k hk e=>(ffree k hk).2 s d hs2 (e ▸ hs')) (fun j hj hb=>(tfree j s' hj hb).2 s d hs2 hs')
 ·
  intro s q hq
  rcases BF hq with ⟨i,hi,rfl,h3⟩|⟨h3,h4,h5⟩
  ·right
   refine ⟨_,h3,rfl,fun j hj e=> ?_⟩
   unfold site at e; omega
  ·left
   refine ⟨h5,fun j hj=> ?_⟩
   obtain ⟨d,hd⟩:=notT hj (h4 j hj)
   rw [(back hj hd).2]; exact h5
 ·
  rintro p q ⟨d,hd⟩ hq
  rw [named p ?_]
  ·exact hq
  ·obtain ⟨j,rfl,h3⟩:=wE r p d hd
   have h1:Nat.ble 1000000 (site j)=true:=by rw [Nat.ble_eq]; unfold site; omega
   have h2:site j - 1000000=j:=by unfold site; omega
   unfold inR
   rw [h1,h2]
   simp only [Bool.true_and]
   rcases h3 with h3|⟨h3,h4⟩
   ·rw [h3]
   ·rw [List.getElem?_eq_none h3]
    have:=(List.getElem?_eq_some_iff.1 h4).1
    show Nat.blt (site j) (site (r.bs.length+r.fs.length))=true
    have:Nat.ble (site j+1) (site (r.bs.length+r.fs.length))=true:=by rw [Nat.ble_eq]; unfold site; omega
    exact this
 ·
  intro j q hj d hd
  have notF:∀ i,i<r.fs.length→site j≠ofC sites d0 (site (sites.length+i)):=by
   intro i hi e
   have h3:=(fok i hi).1
   rw [← e] at h3
   unfold site at h3; omega
  rcases i3 _ d hd with hm|⟨hno,hs2⟩
  ·rcases List.mem_append.1 hm with hm|hm
   ·obtain ⟨k,d',h3,h4,h5⟩:=back_mem _ _ _ _ _ hm
    rw [(back h3 h4).1]
    exact hextS j q hj (List.mem_of_getElem? h3)
   ·obtain ⟨i,d',h3,h4,h5⟩:=yc _ _ _ _ _ hm
    exact absurd h4 (notF i (List.getElem?_eq_some_iff.1 h3).1)
  ·rw [oq notF (fun k hk hb=>by rw [tnone k _ hk hb] at hs2; cases hs2)]
   exact h2.ext j q hj d hs2
end Go.Own
set_option linter.unusedVariables false
namespace Go.Own
variable {C:Cx} {P:Program} {E:Env} {w w' w2:World} {I I' I1 I2:Nat→Prop} {st sv st':St} {tm:Array Value} {tk tk':aU} {ds:List Deferred} {o:Oper} {e:Ef}
theorem qy:∀ {t:Ty} {x:t.den} {cs:List Value},t.flat=true→ai w I tk t x cs→ai w2 I2 tk t x cs:=by
 intro t
 induction t with
 |pair a b iha ihb=>
  intro x cs hf h
  simp only [Ty.flat,Bool.and_eq_true] at hf
  obtain ⟨c1,c2,e,h1,h2⟩:=h
  exact ⟨c1,c2,e,iha hf.1 h1,ihb hf.2 h2⟩
 |arr n t ih=>intro x cs hf h; exact ⟨h.1,h.2.1,fun i y hy=>ih hf (h.2.2 i y hy)⟩
 |sl t=>intro x cs hf; cases hf
 |ref t=>intro x cs hf; cases hf
 |_=>intro x cs _ h; exact h
theorem wZ {d:DV} {v:Value} (hf:d.1.flat=true) (h:aA w I tk d.1 d.2 v):aA w2 I2 tk d.1 d.2 v:=by
 unfold aA at*
 split
 ·rename_i ha
  rw [if_pos ha] at h
  obtain ⟨cs,e,h⟩:=h
  exact ⟨cs,e,qy hf h⟩
 ·rename_i ha
  rw [if_neg ha] at h
  exact qy hf h
theorem QF {r:RV} {v:Value} (hf:r.flat=true) (h:dB w I tk (zR r) v):dB w I2 tk (zR r) v:=by
 cases r with
 |val d=>exact ⟨h.1,wZ hf h.2⟩
 |sd d=>exact ⟨h.1,wZ hf h.2⟩
 |_=>exact h
theorem Od {q:Tk} {d:DV} (hf:d.1.flat=true) (h:aI w I tk q d):aI w I2 tk q d:=by
 obtain ⟨t,x⟩:=d
 cases ht:t.bL with
 |true=>
  cases t<;>first|cases ht; done|skip
  ·obtain ⟨h1,hp,h2,h3,h4,h5⟩:=h
   refine ⟨h1,hp,h2,h3,h4,h5.imp id ?_⟩
   rintro ⟨b,e1,e2,cs,e3,e4,e5⟩
   refine ⟨b,e1,e2,cs,e3,e4,fun i y hy=> ?_⟩
   obtain ⟨c,hc,hv⟩:=e5 i y hy
   exact ⟨c,qy hf hc,hv⟩
  ·obtain ⟨h1,b,h2,es,clock,h3,h4,h5,h6,h7,h8⟩:=h
   simp only [Ty.flat,Bool.and_eq_true] at hf
   exact ⟨h1,b,h2,es,clock,h3,h4,h5,h6,h7,fun i e p he hp=>⟨wZ (d:=⟨_,p.1⟩) hf.1 (h8 i e p he hp).1,wZ (d:=⟨_,p.2⟩) hf.2 (h8 i e p he hp).2⟩⟩
  ·obtain ⟨h1,h2,h3,h4,h5,h6⟩:=h
   refine ⟨h1,h2,h3,h4,h5,fun k r fx hk hx=> ?_⟩
   obtain ⟨a1,a2,a3⟩:=h6 k r fx hk hx
   refine ⟨a1,a2,a3.imp id ?_⟩
   rintro ⟨b,e1,e2,cs,e3,e4,e5⟩
   refine ⟨b,e1,e2,cs,e3,e4,fun i y hy=> ?_⟩
   obtain ⟨c,hc,hv⟩:=e5 i y hy
   exact ⟨c,qy hf hc,hv⟩
 |false=>
  obtain ⟨h1,h2,b,cs,h3,h4,h5⟩:=(aI.str ht).1 h
  exact (aI.str ht).2 ⟨h1,h2,b,cs,h3,h4,qy hf h5⟩
theorem FH {r:Res} {vs:Array Value} {σ:Nat→Nat} {tkN:aU} (hl:vs.size=r.rs.length) (hcl:mY r=true) (hn:∀ p,inR r p=true→tkN (σ p)=tk' p)
  (hr:∀ (j:Nat) (x:RV) (y:Value),r.rs[j]?=some x→vs[j]?=some y→dB w I tk' (zR x) y):bf w I tkN (JU σ r.rs) (lC vs):=by
 unfold mY at hcl
 simp only [Bool.and_eq_true,List.all_eq_true] at hcl
 have one:∀ {x:RV} {y:Value},x∈r.rs→dB w I tk' (zR x) y→dB w I tkN (MZ σ x) y:=by
  intro x y hx h
  have hm:∀ s,s∈(zR x).sites→tkN (σ s)=tk' s:=fun s hs=>hn s (hcl.1.1 s (List.mem_flatMap.2 ⟨x,hx,by cases x<;>exact hs⟩))
  cases x<;>exact h.ren hm rfl
 have one1:∀ (x:RV),(MZ σ x).jL=true:=fun x=>by cases x<;>rfl
 have many:r.rs.length≠1→bf w I tkN (.tup (r.rs.map (MZ σ))) (lC vs):=by
  intro hne
  refine ⟨vs,by unfold lC; rw [dif_neg (by omega)],by simp [hl],fun j c x hc hx=> ?_⟩
  rw [List.getElem?_map] at hc
  obtain ⟨z,hz,rfl⟩:=Option.map_eq_some_iff.1 hc
  exact one (List.mem_of_getElem? hz) (hr j z x hz hx)
 unfold JU
 split
 ·rename_i x hx
  have h1:vs.size=1:=by rw [hl,hx]; rfl
  have h0:vs[0]?=some vs[0]:=Array.getElem?_eq_getElem _
  have hv:lC vs=vs[0]:=by unfold lC; rw [dif_pos h1]
  rw [hv]
  exact bf.of1 (one (by rw [hx]; simp) (hr 0 x vs[0] (by rw [hx]; rfl) h0))
 ·rename_i hne
  refine many fun h1=> ?_
  obtain ⟨a,ha⟩:=List.length_eq_one_iff.1 h1
  exact hne a ha
theorem GY {D:aH} (hD:kJ C.P D) (hV:View sv st) (h:Inv C st tm w I tk) {dst:Option Nat} (hd:∀ d,dst=some d→d<st.sl.length) {f:FuncId} {Ts:List TypeId} {vs:List SV} {args:Array Value}
  (hsz:args.size=vs.length) (hv:∀ (k:Nat) (s:SV) (v:Value),vs[k]?=some s→args[k]?=some v→bf w I tk s v) {b:Brn Ef} (hf:Oz E D dst f Ts vs sv=some b) (hc:b.res.1=true):
  BB C.P f args w fun v w'=>∃ I' tk',Inv C (b.res.2.run dst st) (wM tm dst v) w' I' tk':=by
 unfold Oz at hf
 generalize mR sv 1000 (uf E f 0 vs) []=sites at hf
 dsimp only at hf
 split at hf
 ·rename_i fs hfs
  cases hq:(o9 (fs.flatMap Pm.fs) sites&&nodupB sites&&Nat.ble vs.length 1000) with
  |false=>rw [hq] at hf; cases hf
  |true=>
  rw [hq] at hf
  simp only [cond_true] at hf
  simp only [Bool.and_eq_true] at hq
  obtain ⟨⟨hdj,hnd⟩,hsm⟩:=hq
  have hnd:=vQ hnd
  split at hf
  ·rename_i as bs ha hb
   cases hcl:zq sites.length as (bs.map (DV.ren (toC sites))) with
   |false=>rw [hcl] at hf; cases hf
   |true=>
   rw [hcl] at hf
   simp only [cond_true] at hf
   split at hf
   ·rename_i br hDr
    obtain ⟨I1,tk1,xs,hF,hxl,hxs,hin⟩:=Jw hV h hfs hdj hnd (Nat.le_of_ble_eq_true hsm) ha hb hcl hsz hv
    obtain ⟨hr1,hr2⟩:=Brn.Qu hf
    have hgood:=hD f as _ br hDr (hr1.symm.trans hc) w I1 xs args (by rw [hxl,List.length_map,(uj hb).1]) hin
    generalize hr:br.res.2=r at hr2 hgood
    generalize hev:b.res.2=ef at hr2
    unfold Rs at hr2
    cases hq2:(Nat.beq r.bs.length sites.length&&(dst.isSome||r.fs.isEmpty)&&zn sites (ofC sites (dst.getD 0)) r&&mY r) with
    |false=>rw [hq2] at hr2; cases hr2
    |true=>
    rw [hq2] at hr2
    simp only [cond_true,Option.some.injEq] at hr2
    simp only [Bool.and_eq_true] at hq2
    obtain ⟨⟨⟨hbl,_⟩,hfo⟩,hclr⟩:=hq2
    have hbl:=beq_iff.1 hbl
    have hns:∀ s∈sites,s∉fs.flatMap Pm.fs:=by
     intro s hs hm
     have:=List.all_eq_true.1 hdj s hm
     simp only [Bool.not_eq_true',List.any_eq_false] at this
     exact this s hs (beq_iff.2 rfl)
    have hbox:∀ s∈sites,∃ d,(aN fs st).box s=some d:=by
     intro s hs
     obtain ⟨j,hj⟩:=List.getElem?_of_mem hs
     obtain ⟨hl,hg⟩:=uj hb
     have hjl:=(List.getElem?_eq_some_iff.1 hj).1
     obtain ⟨s',hs',hbx⟩:=hg j _ (List.getElem?_eq_getElem (by omega))
     rw [hj] at hs'; cases hs'
     exact ⟨_,hF.view.box _ _ hbx⟩
    have hxI:∀ (j:Nat) (q:Tk) (b:Nat),xs[j]?=some q→q.own b→¬ I1 b:=fun j q b hj hb=>hin.tokI (site j) q b (by rw [tJ]; exact hj) hb
    have step:∀ v w',(∃ I' tk' vs,v=lC vs∧Inv ⟨C.P,w,I1,xs⟩ (jH r) vs w' I' tk')→∃ I' tk',Inv C (ef.run dst st) (wM tm dst v) w' I' tk':=by
     rintro v w' ⟨I',tk',ws,rfl,hc'⟩
     have hwl:ws.size=r.rs.length:=by have:=hc'.len; simp only [jH,List.length_map] at this; exact this.symm
     have hres:∀ (j:Nat) (x:RV) (y:Value),r.rs[j]?=some x→ws[j]?=some y→dB w' I' tk' (zR x) y:=by
      intro j x y hx hy
      have hj:=(List.getElem?_eq_some_iff.1 hx).1
      have:=hc'.slots j (by simp only [jH,List.length_map]; exact hj)
      have e1:(jH r).slot j=zR x:=by
       unfold St.slot jH
       simp only [List.getD_eq_getElem?_getD,List.getElem?_map,hx,Option.map_some,Option.getD_some]
      have e2:ws.getD j undef=y:=by
       have hyl:=(Array.getElem?_eq_some_iff.1 hy).1
       have hyv:=(Array.getElem?_eq_some_iff.1 hy).2
       simp [Array.getD,hyl,hyv]
      rw [e1,e2] at this
      exact (bf.one (by cases x<;>rfl)).1 this
     have fin:∀ {fs':List Pm} {Ic I2:Nat→Prop} {tkc:aU},ef=⟨fs'++iB sites r.bs++gG (ofC sites (dst.getD 0)) sites.length r.fs++lH (ofC sites (dst.getD 0)) sites r.bs++kM (ofC sites (dst.getD 0)) sites.length r.fs,some (JU (ofC sites (dst.getD 0)) r.rs)⟩→
       Inv C (aN fs' st) tm w Ic tkc→(∀ b,Ic b→I1 b)→(∀ b,Ic b→I2 b)→(∀ b,I2 b→I' b)→(∀ b,I2 b→Ic b∨w.heap.size≤b∨∃ (j:Nat) (q:Tk),xs[j]?=some q∧q.own b)→
       (∀ s,s∈sites→tkc s=tk1 s)→(∀ p d' q,(jH r).box p=some d'→tk' p=some q→aI w' I2 tk' q d')→
       (∀ (j:Nat) (x:RV) (y:Value),r.rs[j]?=some x→ws[j]?=some y→dB w' I2 tk' (zR x) y)→∃ I' tk',Inv C (ef.run dst st) (wM tm dst (lC ws)) w' I' tk':=by
      intro fs' Ic I2 tkc he h0 h1 h2 h3 h4 h5 h6 h7
      obtain ⟨tkN,hN,hnm⟩:=h0.after (d0:=dst.getD 0) hc' h1 h2 h3 h4 (fun j s hj=>(h5 s (List.mem_of_getElem? hj)).trans (hxs j s hj)) hxl hxI hnd hbl hfo hclr h6 (fun j q hj hm=>by
       obtain ⟨d,hd⟩:=hbox _ hm
       rw [h5 _ hm]
       exact hF.inv.ext j q hj d hd)
      have hrs:=FH hwl hclr hnm h7
      subst he
      refine ⟨I2,tkN,?_⟩
      simp only [Ef.run]
      have e2:aN (fs'++iB sites r.bs++gG (ofC sites (dst.getD 0)) sites.length r.fs++lH (ofC sites (dst.getD 0)) sites r.bs++kM (ofC sites (dst.getD 0)) sites.length r.fs) st=
        aN (iB sites r.bs++gG (ofC sites (dst.getD 0)) sites.length r.fs++lH (ofC sites (dst.getD 0)) sites r.bs++kM (ofC sites (dst.getD 0)) sites.length r.fs) (aN fs' st):=by
       simp only [dD]
      rw [e2]
      cases dst with
      |none=>exact hN
      |some d=>exact hN.put (by rw [dm,dm]; exact hd d rfl) hrs
     have boxR:∀ p d' q,(jH r).box p=some d'→tk' p=some q→aI w' I' tk' q d':=by
      intro p d' q hp hq
      obtain ⟨q',h1,h2⟩:=hc'.boxes p d' hp
      rw [hq] at h1; cases h1
      exact h2
     cases hfl:br.all Res.flat with
     |true=>
      rw [hfl] at hr2
      simp only [cond_true] at hr2
      have hfr:=Brn.EB hfl
      rw [hr] at hfr
      unfold Res.flat at hfr
      simp only [Bool.and_eq_true,List.all_eq_true] at hfr
      obtain ⟨⟨hf1,hf2⟩,hf3⟩:=hfr
      refine fin (fs':= []) (Ic:=I) (I2:=I) (tkc:=tk) hr2.symm h hF.mono (fun _ hb=>hb) (fun b hb=>hc'.sub b (hF.mono b hb)) (fun b hb=> .inl hb) (fun s hs=>(hF.tok s (hns s hs)).symm) (fun p d' q hp hq=> ?_) (fun j x y hx hy=>QF (hf1 x (List.mem_of_getElem? hx)) (hres j x y hx hy))
      refine Od ?_ (boxR p d' q hp hq)
      obtain ⟨j,_,h3|⟨_,h3⟩⟩:=wE r p d' hp
      ·exact hf2 _ (List.mem_of_getElem? h3)
      ·exact hf3 _ (List.mem_of_getElem? h3)
     |false=>
      rw [hfl] at hr2
      simp only [cond_false] at hr2
      exact fin (fs':=fs) (Ic:=I1) (I2:=I') (tkc:=tk1) hr2.symm hF.inv (fun _ hb=>hb) hc'.sub (fun _ hb=>hb) hc'.new (fun s _=>rfl) boxR hres
    rcases hgood with ⟨fn,q1,q2,q3,q4⟩|⟨v,w',q1,q2⟩
    ·exact .inl ⟨fn,q1,q2,q3,q4.mono fun e w' ⟨v,e1,h5⟩=>⟨v,e1,step v w' h5⟩⟩
    ·exact .inr ⟨v,w',q1,step v w' q2⟩
   ·cases hf
  ·cases hf
 ·cases hf
end Go.Own
set_option linter.unusedVariables false
namespace Go.Own
variable {C:Cx} {P:Program} {E:Env} {w w' w2:World} {I I' I1 I2:Nat→Prop} {st sv st':St} {tm:Array Value} {tk tk':aU} {ds:List Deferred} {o:Oper} {e:Ef}
theorem xE (tm:Array Value) (ds:List Deferred) (d:Option Nat) (v:Value):(Act.put ⟨tm,ds⟩ d v)=⟨wM tm d v,ds⟩:=by cases d<;>rfl
theorem Jt {c:Call} {x:Operand} {ρ:Operand→Value} {f:FuncId} {ws:Array Value} (ho:o.op= .call c) (hc:c.callee= .value x) (hx:ρ x= .func (.func f) #[] ws):
  (execOp ρ o).run P w=(callFunc f (c.args.map ρ++ws)).run P w:=by
 simp only [execOp,ho,resolve,hc,hx,Deferred.ofValue,Sem.run_bind,Sem.run_pure,Result.andThen_ok,invoke,Array.empty_append]
theorem EO {f:FuncId} {args:Array Value} {R:Value→World→Prop} {K:Act→World→Prop} {Q:Exit→Act→World→Prop} {a:Act} (hrun:(execOp a.eval o).run P w=(callFunc f args).run P w) (hc:BB P f args w R)
  (hK:∀ v w',R v w'→K (a.put o.dst v) w'):o.wp P a w K Q:=by
 unfold Oper.wp
 rw [hrun]
 rcases hc with ⟨fn,h1,h2,h3,h4⟩|⟨v,w',h1,h2⟩
 ·have e:(callFunc f args).run P w= .ok (.enter f args) w:=by
   obtain ⟨c,hbc⟩:=Option.isSome_iff_exists.1 h3
   simp [callFunc,h1,hbc,h2]
  rw [e,Oper.upon_enter]
  refine h4.mono fun e w'' ⟨v,he,hR⟩=> ?_
  subst he
  exact hK v w'' hR
 ·rw [h1,Oper.upon_value]
  exact hK v w' h2
theorem Aa {D:aH} (hE:eD C.P E) (hD:kJ C.P D) (hV:View sv st) (h:Inv C st tm w I tk) (hd:∀ d,o.dst=some d→d<st.sl.length) {b:Brn Ef} (hf:FW E D o sv=some b) (hc:b.res.1=true)
  {K:Act→World→Prop} {Q:Exit→Act→World→Prop} (hK:∀ v w' I' tk',Inv C (b.res.2.run o.dst st) (wM tm o.dst v) w' I' tk'→K ⟨wM tm o.dst v,ds⟩ w'):o.wp C.P ⟨tm,ds⟩ w K Q:=by
 unfold FW at hf
 split at hf
 ·rename_i f Ts vs hcal
  cases hcp:Oy sv o with
  |false=>rw [hcp] at hf; cases hf
  |true=>
  rw [hcp] at hf
  simp only [cond_true] at hf
  unfold GX at hcal
  split at hcal
  ·rename_i c ho
   have go:∀ {x:Operand} {ws:Array Value} {caps:List SV},c.callee= .value x→Act.eval ⟨tm,ds⟩ x= .func (.func f) #[] ws→vs=c.args.toList.map (ev sv)++caps→ws.size=caps.length→
     (∀ (j:Nat) (s:SV) (v:Value),caps[j]?=some s→ws[j]?=some v→dB w I tk s v)→o.wp C.P ⟨tm,ds⟩ w K Q:=by
    intro x ws caps hc' hx hvs hwl hcaps
    subst hvs
    have hcall:=GY hD hV h hd (args:=c.args.map (Act.eval ⟨tm,ds⟩)++ws) (by simp [hwl]) (fun k s v h1 h2=>by
     rcases Nat.lt_or_ge k c.args.size with hk|hk
     ·rw [List.getElem?_append_left (by simpa using hk),List.getElem?_map] at h1
      rw [Array.getElem?_append_left (by simpa using hk),Array.getElem?_map] at h2
      rw [Array.getElem?_toList,Array.getElem?_eq_getElem hk] at h1
      rw [Array.getElem?_eq_getElem hk] at h2
      simp only [Option.map_some,Option.some.injEq] at h1 h2
      subst h1; subst h2
      exact fe hV h _
     ·rw [List.getElem?_append_right (by simpa using hk)] at h1
      rw [Array.getElem?_append_right (by simpa using hk)] at h2
      simp only [List.length_map,Array.length_toList] at h1
      simp only [Array.size_map] at h2
      exact bf.of1 (hcaps _ s v h1 h2)) hf hc
    refine EO (Jt ho hc' hx) hcall fun v w' ⟨I',tk',hi⟩=> ?_
    rw [xE]
    exact hK v w' I' tk' hi
   split at hcal
   ·rename_i g hc'
    simp only [Option.some.injEq,Prod.mk.injEq] at hcal
    obtain ⟨rfl,rfl,rfl⟩:=hcal
    exact go (caps:= []) hc' rfl (by simp) rfl (by simp)
   ·rename_i x hnf hc'
    split at hcal
    ·rename_i g caps hx
     simp only [Option.some.injEq,Prod.mk.injEq] at hcal
     obtain ⟨rfl,rfl,rfl⟩:=hcal
     have hr:=fe (ds:=ds) hV h x
     rw [hx] at hr
     obtain ⟨ws,e,hl,hcr⟩:=hr
     exact go hc' e rfl hl hcr
    ·cases hcal
   ·cases hcal
  ·cases hcal
 ·obtain ⟨r,hop,rfl⟩:=Option.map_eq_some_iff.1 hf
  obtain ⟨c,e⟩:=r
  have hc':c=true:=hc
  subst hc'
  obtain ⟨v,w',I',tk',hr,hi⟩:=Ld (ds:=ds) hE hV h hd hop
  unfold Oper.wp
  rcases hr with hr|⟨hr,rfl⟩
  ·rw [hr,Oper.upon_value,xE]; exact hK v w' I' tk' hi
  ·rw [hr,Oper.upon_skip,xE]; exact hK _ w' I' tk' hi
theorem K6 (tm:Array Value) (d:Option Nat) (v:Value):(wM tm d v).size=tm.size:=by cases d<;>simp [wM]
theorem zA {ops:Array Oper} {tm:Array Value} {o:Oper} {d:Nat} {want:Bool} (hg:guardOf ops.toList o=some (some (d,want))) (hd:d<tm.size) (hv:tm.getD d undef=undef):Region.wanted o (yielded ops tm)=false:=by
 unfold guardOf at hg
 split at hg
 ·cases hg
 ·rename_i j want' e
  split at hg
  ·rename_i d' e2
   simp only [Option.some.injEq,Prod.mk.injEq] at hg
   obtain ⟨rfl,rfl⟩:=hg
   have e3:(ops[j]?).bind (·.dst)=some d':=by simpa using e2
   have e4:tm[d']?=some undef:=by
    rw [Array.getElem?_eq_getElem hd]
    have:tm.getD d' undef=tm[d']:=by simp [Array.getD,hd]
    rw [this] at hv; rw [hv]
   simp only [Region.wanted,e,yielded,e3,Option.bind_some,e4,undef]
   rfl
  ·cases hg
theorem yG {ops:Array Oper} {tm:Array Value} {o:Oper} {d:Nat} {want b:Bool} (hg:guardOf ops.toList o=some (some (d,want))) (hd:d<tm.size) (hv:tm.getD d undef= .bool b):Region.wanted o (yielded ops tm)=(b== want):=by
 unfold guardOf at hg
 split at hg
 ·cases hg
 ·rename_i j want' e
  split at hg
  ·rename_i d' e2
   simp only [Option.some.injEq,Prod.mk.injEq] at hg
   obtain ⟨rfl,rfl⟩:=hg
   have e3:(ops[j]?).bind (·.dst)=some d':=by simpa using e2
   have e4:tm[d']?=some (.bool b):=by
    rw [Array.getElem?_eq_getElem hd]
    have:tm.getD d' undef=tm[d']:=by simp [Array.getD,hd]
    rw [this] at hv; rw [hv]
   simp only [Region.wanted,e,yielded,e3,Option.bind_some,e4]
   cases b<;>cases want'<;>rfl
  ·cases hg
theorem BU {ops:Array Oper} {tm:Array Value} {o:Oper} (hg:guardOf ops.toList o=some none):Region.wanted o (yielded ops tm)=true:=by
 unfold guardOf at hg
 split at hg
 ·rename_i e; simp [Region.wanted,e]
 ·split at hg<;>cases hg
theorem mg {d:Nat} {b b':Bool} (hb:st.slot d= .p ⟨.bool,b⟩) (e:b'=b):({st with sl:=st.sl.set d (.p ⟨.bool,b'⟩)}:St)=st:=by
 subst e
 have hbl:d<st.sl.length:=wG hb (by simp)
 have:st.sl.set d (.p ⟨.bool,b'⟩)=st.sl:=by
  apply List.ext_getElem?
  intro i
  rw [List.getElem?_set]
  split
  ·rename_i e; subst e
   have h2:st.slot d=st.sl[d]:=by unfold St.slot; simp [List.getD_eq_getElem?_getD,List.getElem?_eq_getElem hbl]
   rw [List.getElem?_eq_getElem hbl,← h2,hb]
  ·rfl
 rw [this]
theorem Brn.Ki {R:Type} {k:Ef→Option R} {r:R}:∀ {b:Brn Ef},b.k k=some r→b.res.1=true∧k b.res.2=some r
 | .one c e,h=>by
  cases c with
  |false=>cases h
  |true=>exact ⟨rfl,h⟩
 | .ite b l q,h=>by
  simp only [Brn.k] at h
  cases b with
  |true=>exact Brn.Ki (b:=l) h
  |false=>exact Brn.Ki (b:=q) h
theorem Le {D:aH} {R:Type} {r:R} (hE:eD C.P E) (hD:kJ C.P D) {ops:Array Oper} (h:Inv C st tm w I tk) (hd:∀ d,o.dst=some d→d<st.sl.length) {k:St→Option R} (hf:opG E D ops.toList o st k=some r)
  {K:Act→World→Prop} {Q:Exit→Act→World→Prop} (hK:∀ st' v w' I' tk',k st'=some r→st'.sl.length=st.sl.length→Inv C st' (wM tm o.dst v) w' I' tk'→K ⟨wM tm o.dst v,ds⟩ w'):
  if Region.wanted o (yielded ops tm) then o.wp C.P ⟨tm,ds⟩ w K Q else K (Act.put ⟨tm,ds⟩ o.dst undef) w:=by
 have hlenOf:∀ {st2:St} {v:Value} {w2:World} {I2:Nat→Prop} {tk2:aU},Inv C st2 (wM tm o.dst v) w2 I2 tk2→st2.sl.length=st.sl.length:=fun hi=>by rw [hi.len,K6,h.len]
 have doK:(match FW E D o st with|some b=>b.k fun e=>k (e.run o.dst st)|none=>none)=some r→o.wp C.P ⟨tm,ds⟩ w K Q:=by
  intro hk
  split at hk
  ·rename_i b hop
   obtain ⟨hc,hk'⟩:=Brn.Ki hk
   exact Aa (ds:=ds) hE hD (View.refl st) h hd hop hc (fun v w' I' tk' hi=>hK _ v w' I' tk' hk' (hlenOf hi) hi)
  ·cases hk
 have dead:k (st.M9 o.dst .und)=some r→K (Act.put ⟨tm,ds⟩ o.dst undef) w:=by
  intro hk
  rw [xE]
  cases hod:o.dst with
  |none=>
   rw [hod] at hk
   have:=hK st undef w I tk hk rfl (by rw [hod]; exact h)
   rwa [hod] at this
  |some d=>
   rw [hod] at hk
   have h2:=h.put (d:=d) (s:= .und) (v:=undef) (hd d hod) (bf.of1 (v:= .und) rfl)
   have:=hK _ undef w I _ hk (hlenOf (by rw [hod]; exact h2)) (by rw [hod]; exact h2)
   rwa [hod] at this
 unfold opG at hf
 dsimp only at hf
 split at hf
 ·rename_i hg
  rw [if_pos (BU hg)]
  exact doK hf
 ·rename_i d want hg
  split at hf
  ·rename_i b hb
   have hbl:d<st.sl.length:=wG hb (by simp)
   have hr:=h.slots d hbl
   rw [hb] at hr
   have hv:tm.getD d undef= .bool b:=bO.1 hr
   rw [yG hg (h.len ▸ hbl) hv]
   cases b<;>cases want<;>simp only [cond_true,cond_false] at hf
   ·rw [mg hb rfl] at hf; rw [if_pos (by decide)]; exact doK hf
   ·rw [mg hb rfl] at hf; rw [if_neg (by decide)]; exact dead hf
   ·rw [mg hb rfl] at hf; rw [if_neg (by decide)]; exact dead hf
   ·rw [mg hb rfl] at hf; rw [if_pos (by decide)]; exact doK hf
  ·rename_i hb
   have hbl:d<st.sl.length:=wG hb (by simp)
   have hr:=h.slots d hbl
   rw [hb] at hr
   rw [if_neg (by rw [zA hg (h.len ▸ hbl) hr]; decide)]
   exact dead hf
  ·cases hf
 ·cases hf
theorem Iz {D:aH} {R:Type} {r:R} (hE:eD C.P E) (hD:kJ C.P D) {ops:Array Oper} {k:St→Option R} {Q:Exit→Act→World→Prop} {n:Nat} (hk:∀ st tm w I tk,k st=some r→st.sl.length=n→Inv C st tm w I tk→Q .normal ⟨tm,ds⟩ w):
  ∀ (l:List Oper) {st:St} {tm:Array Value} {w:World} {I:Nat→Prop} {tk:aU},(∀ o∈l,∀ d,o.dst=some d→d<n)→Inv C st tm w I tk→st.sl.length=n→Si E D ops.toList l st k=some r→wpList C.P ops Q l ⟨tm,ds⟩ w:=by
 intro l
 induction l with
 |nil=>intro st tm w I tk _ h hn hf; exact hk st tm w I tk hf hn h
 |cons o l ih=>
  intro st tm w I tk hdst h hn hf
  have:=Le (ds:=ds) (o:=o) (Q:=Q) (K:=wpList C.P ops Q l) hE hD h (fun d hd=>by rw [hn]; exact hdst o (by simp) d hd) hf (fun st' v w' I' tk' hk' hl hi=>
   ih (fun o ho=>hdst o (by simp [ho])) hi (by rw [hl,hn]) hk')
  unfold wpList
  split
  ·rename_i hw; rw [if_pos hw] at this; exact .inl this
  ·rename_i hw; rw [if_neg hw] at this; exact this
end Go.Own
