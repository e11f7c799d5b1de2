/- What is proved: the evaluator of the translated code, and that it is sound, part 6. Conditions: those that each theorem names. -/
import Derived.Test.YtnighkkdmgmcnaaGreatW5
import Derived.Lib.Builder
set_option linter.unusedVariables false
set_option linter.unusedSimpArgs false
set_option linter.unusedVariables false
namespace Go.Own
variable {C:Cx} {E:Env} {w:World} {I:Nat→Prop} {st sv:St} {tm:Array Value} {tk:aU} {ds:List Deferred} {o:Oper}
section
variable {P:Program}
theorem Oh (hE:eD P E) {T:TypeId} {t:Ty} (hk:t.wT=true) (hT:E.T T=some t) {x y:t.den} {v1 v2:Value} {r:Bool} (op:BinOp) (ox oy:Operand)
  (h1:aA w I tk t x v1) (h2:aA w I tk t y v2) (he:eqT t x y=some r):
  (eqGuard op T ox oy v1 v2).run P w= .ok () w∧(binOp .eql T v1 v2).run P w= .ok (.bool r) w∧(binOp .neq T v1 v2).run P w= .ok (.bool (!r)) w:=by
 have hA:=hE.ty T t hT
 have hlev:t.lev≤10000:=Nat.le_trans (hE.lev T t hT) (by omega)
 have hr:=SI.1 T 10000 v1 v2 x y r hA hlev h1 h2 he
 have hg:P.eqGuardType P.depth T=false:=(Jg hk).1 T P.depth hA (Nat.le_trans (hE.lev T t hT) hE.depth)
 have agg:∀ as bs,v1= .agg as→v2= .agg bs→(eqGuard op T ox oy v1 v2).run P w= .ok () w∧(binOp .eql T v1 v2).run P w= .ok (.bool r) w∧(binOp .neq T v1 v2).run P w= .ok (.bool (!r)) w:=by
  rintro as bs rfl rfl
  refine ⟨run_eqGuard_agg w op T ox oy as bs hg,?_,?_⟩
  ·rw [run_eql_struct,hr]; rfl
  ·rw [run_neq_struct,hr]; rfl
 cases t with
 |int k=>
  rw [pK] at h1 h2; subst h1; subst h2
  simp only [eqT,Option.some.injEq] at he; subst he
  refine ⟨by cases op<;>simp [eqGuard],?_,?_⟩
  ·simp [binOp,Op.intCmp]; congr 1
  ·simp [binOp,Op.intCmp,bne]; congr 1
 |bool=>
  rw [qF] at h1 h2; subst h1; subst h2
  refine ⟨by cases op<;>simp [eqGuard],?_,?_⟩
  ·simp only [binOp,Op.equal,Op.maxDepth,Sem.run_bind,hr,Result.andThen_ok,Sem.run_pure]
  ·simp only [binOp,Op.equal,Op.maxDepth,Sem.run_bind,hr,Result.andThen_ok,Sem.run_pure]
 |str=>
  rw [sj] at h1 h2; subst h1; subst h2
  simp only [eqT,Option.some.injEq] at he; subst he
  refine ⟨by cases op<;>simp [eqGuard],?_,?_⟩
  ·simp only [binOp,Op.stringOp,beq_toListBytes]; rfl
  ·simp only [binOp,Op.stringOp,beq_toListBytes]; rfl
 |unit=>unfold aA at h1 h2; simp only [Ty.isAgg,if_true] at h1 h2; obtain ⟨as,e1,_⟩:=h1; obtain ⟨bs,e2,_⟩:=h2; exact agg as bs e1 e2
 |eos u=>exact hA.elim
 |pair a b=>unfold aA at h1 h2; simp only [Ty.isAgg,if_true] at h1 h2; obtain ⟨as,e1,_⟩:=h1; obtain ⟨bs,e2,_⟩:=h2; exact agg as bs e1 e2
 |arr n t=>unfold aA at h1 h2; simp only [Ty.isAgg,if_true] at h1 h2; obtain ⟨as,e1,_⟩:=h1; obtain ⟨bs,e2,_⟩:=h2; exact agg as bs e1 e2
 |_=>cases hk
theorem DL (T e:TypeId) (hu:P.underlying T=some (.slice e)) (a:Option Addr) (n c:Nat) (d:Nat):
  (Op.equalIn (d+1) T (.slice a n c) (.slice none 0 0)).run P w= .ok a.isNone w∧(Op.equalIn (d+1) T (.slice none 0 0) (.slice a n c)).run P w= .ok a.isNone w:=by
 constructor
 ·cases a<;>simp [Op.equalIn,run_underlying hu]
 ·simp [Op.equalIn,run_underlying hu]
theorem zS (T e:TypeId) (hu:P.underlying T=some (.pointer e)) (a:Option Addr) (d:Nat):
  (Op.equalIn (d+1) T (.pointer a) (.pointer none)).run P w= .ok a.isNone w∧(Op.equalIn (d+1) T (.pointer none) (.pointer a)).run P w= .ok a.isNone w:=by
 constructor
 ·cases a<;>simp [Op.equalIn,run_underlying hu]
 ·simp [Op.equalIn,run_underlying hu]
theorem run_eq_map (T a b:TypeId) (hu:P.underlying T=some (.map a b)) (r:Option Nat) (d:Nat):
  (Op.equalIn (d+1) T (.map r) (.map none)).run P w= .ok r.isNone w∧(Op.equalIn (d+1) T (.map none) (.map r)).run P w= .ok r.isNone w:=by
 constructor
 ·cases r<;>simp [Op.equalIn,run_underlying hu]
 ·cases r<;>simp [Op.equalIn,run_underlying hu]
theorem qJ {op:BinOp} {r:Bool} {x:DV} {T:TypeId} {v1 v2:Value} (h:uh op true r=some (true,x))
  (h1:(binOp .eql T v1 v2).run P w= .ok (.bool r) w) (h2:(binOp .neq T v1 v2).run P w= .ok (.bool (!r)) w):
  ∃ v,(binOp op T v1 v2).run P w= .ok v w∧bf w I tk (.p x) v:=by
 unfold uh at h
 split at h
 ·simp only [Option.some.injEq,Prod.mk.injEq,true_and] at h; subst h; exact ⟨_,h1,bO.2 rfl⟩
 ·simp only [Option.some.injEq,Prod.mk.injEq,true_and] at h; subst h; exact ⟨_,h2,bO.2 rfl⟩
 ·cases h
theorem IG {op:BinOp} {c r:Bool} {x:DV} (h:uh op c r=some (true,x)):c=true:=by
 unfold uh at h
 split at h
 ·simp only [Option.some.injEq,Prod.mk.injEq] at h; exact h.1
 ·simp only [Option.some.injEq,Prod.mk.injEq] at h; exact h.1
 ·cases h
theorem qB {op:BinOp} {r:Bool} {x:DV} {T:TypeId} {v1 v2:Value} (h:uh op true r=some (true,x)) (hq:(Op.equalIn 10000 T v1 v2).run P w= .ok r w)
  (h1:binOp .eql T v1 v2=(do pure (.bool (← Op.equal T v1 v2)))) (h2:binOp .neq T v1 v2=(do pure (.bool (!(← Op.equal T v1 v2))))):
  ∃ v,(binOp op T v1 v2).run P w= .ok v w∧bf w I tk (.p x) v:=by
 refine qJ h ?_ ?_
 ·rw [h1]; simp only [Op.equal,Op.maxDepth,Sem.run_bind,hq,Result.andThen_ok,Sem.run_pure]
 ·rw [h2]; simp only [Op.equal,Op.maxDepth,Sem.run_bind,hq,Result.andThen_ok,Sem.run_pure]
end
theorem Eh (hV:View sv st) (hI:Inv C st tm w I tk) {s:SV} {v:Value} {c r:Bool} (hs:bf w I tk s v) (h:IQ sv s=some (c,r)) (hc:c=true):
  ∃ ad n cap,v= .slice ad n cap∧ad.isNone=r:=by
 unfold IQ at h
 split at h
 ·rename_i t l
  simp only [Option.some.injEq,Prod.mk.injEq] at h
  obtain ⟨rfl,rfl⟩:=h
  have hv:=hs.p
  simp only [aA,Ty.isAgg,Bool.false_eq_true,if_false,ai] at hv
  obtain ⟨ad,cap,e,_,hv⟩:=hv
  simp only [List.cons.injEq,and_true] at e
  refine ⟨ad,_,cap,e,?_⟩
  rcases hv with rfl|⟨_,b,o,rfl,_⟩
  ·simp at hc
  ·rfl
 ·rename_i s t
  split at h
  ·rename_i t' x hb
   simp only [Option.some.injEq,Prod.mk.injEq] at h
   obtain ⟨rfl,rfl⟩:=h
   obtain ⟨q,h1,h2,rfl⟩:=hs
   obtain ⟨q',h3,h4⟩:=hI.boxes _ _ (hV.box _ _ hb)
   rw [h1] at h3; cases h3
   obtain ⟨_,_,_,_,h5,_⟩:=h4
   refine ⟨q.ad,q.len,q.cap,rfl,?_⟩
   cases hx:x.1<;>cases ha:q.ad<;>simp_all
  ·cases h
 ·simp only [Option.some.injEq,Prod.mk.injEq] at h
  obtain ⟨_,rfl⟩:=h
  exact ⟨none,0,0,hs,rfl⟩
 ·cases h
theorem Ei {s:SV} {v:Value} {r:Bool} (hs:bf w I tk s v) (h:IU s=some r):∃ a:Option Addr,v= .pointer a∧a.isNone=r:=by
 unfold IU at h
 split at h
 ·rename_i t x
  simp only [Option.some.injEq] at h; subst h
  have hv:=hs.p
  simp only [aA,Ty.isAgg,Bool.false_eq_true,if_false] at hv
  cases x with
  |none=>simp only [ai,List.cons.injEq,and_true] at hv; exact ⟨none,hv,rfl⟩
  |some y=>simp only [ai] at hv; obtain ⟨_,b,o,c,e,_⟩:=hv; simp only [List.cons.injEq,and_true] at e; exact ⟨_,e,rfl⟩
 ·simp only [Option.some.injEq] at h; subst h
  have hv:=hs.p
  simp only [aA,Ty.isAgg,Bool.false_eq_true,if_false,ai,List.cons.injEq,and_true] at hv
  exact ⟨none,hv,rfl⟩
 ·rename_i s t pa x
  simp only [Option.some.injEq] at h; subst h
  have hv:=hs.2
  simp only [aA,Ty.isAgg,Bool.false_eq_true,if_false,ai,List.cons.injEq,and_true] at hv
  rcases hv with ⟨rfl,hv⟩|⟨rfl,u,rfl,k,b,off,_,_,_,rfl⟩
  ·exact ⟨none,hv,rfl⟩
  ·exact ⟨_,rfl,rfl⟩
 ·simp only [Option.some.injEq] at h; subst h
  obtain ⟨k,b,off,_,_,_,rfl⟩:=hs
  exact ⟨_,rfl,rfl⟩
 ·simp only [Option.some.injEq] at h; subst h; exact ⟨none,hs,rfl⟩
 ·cases h
theorem Ej {s:SV} {v:Value} {r:Bool} (hs:bf w I tk s v) (h:IV s=some r):∃ a:Option Nat,v= .map a∧a.isNone=r:=by
 unfold IV at h
 split at h
 ·simp only [Option.some.injEq] at h; subst h
  obtain ⟨q,b,_,_,_,rfl⟩:=hs
  exact ⟨_,rfl,rfl⟩
 ·simp only [Option.some.injEq] at h; subst h; exact ⟨none,hs,rfl⟩
 ·cases h
theorem Ae (hE:eD C.P E) (hV:View sv st) (hI:Inv C st tm w I tk) {T:TypeId} {op:BinOp} {s1 s2:SV} {v1 v2:Value} {x:DV} (ox oy:Operand)
  (h1:bf w I tk s1 v1) (h2:bf w I tk s2 v2) (hb:Qq sv (E.T T) op s1 s2=some (true,x)):
  ((eqGuard op T ox oy v1 v2).run C.P w= .ok () w∧∃ v,(binOp op T v1 v2).run C.P w= .ok v w∧bf w I tk (.p x) v)∧
  ((eqGuard op T ox oy v2 v1).run C.P w= .ok () w∧∃ v,(binOp op T v2 v1).run C.P w= .ok v w∧bf w I tk (.p x) v):=by
 unfold Qq at hb
 split at hb
 ·split at hb
  ·rename_i t hT
   obtain ⟨r,hr,hn⟩:=Option.bind_eq_some_iff.1 hb
   obtain ⟨c,r⟩:=r
   have hc:=IG hn
   dsimp only at hc hn
   subst hc
   obtain ⟨ad,n,cap,rfl,rfl⟩:=Eh hV hI h2 hr rfl
   have e1:v1= .slice none 0 0:=h1
   subst e1
   obtain ⟨_,e,hu,_⟩:=hE.ty T _ hT
   have hq:=DL (w:=w) T e hu ad n cap 9999
   exact ⟨⟨by cases op<;>simp [eqGuard],qB hn hq.2 rfl rfl⟩,⟨by cases op<;>simp [eqGuard],qB hn hq.1 rfl rfl⟩⟩
  ·cases hb
 ·split at hb
  ·rename_i t hT
   obtain ⟨r,hr,hn⟩:=Option.bind_eq_some_iff.1 hb
   obtain ⟨a,rfl,rfl⟩:=Ei h2 hr
   have e1:v1= .pointer none:=h1
   subst e1
   obtain ⟨_,e,hu,_⟩:=hE.ty T _ hT
   have hq:=zS (w:=w) T e hu a 9999
   refine ⟨⟨by cases op<;>simp [eqGuard],qB hn hq.2 ?_ ?_⟩,⟨by cases op<;>simp [eqGuard],qB hn hq.1 ?_ ?_⟩⟩<;>cases a<;>rfl
  ·cases hb
 ·split at hb
  ·rename_i s k v hT
   obtain ⟨r,hr,hn⟩:=Option.bind_eq_some_iff.1 hb
   obtain ⟨a,rfl,rfl⟩:=Ej h2 hr
   have e1:v1= .map none:=h1
   subst e1
   obtain ⟨_,_,c,d,hu,_⟩:=hE.ty T _ hT
   have hq:=run_eq_map (w:=w) T c d hu a 9999
   refine ⟨⟨by cases op<;>simp [eqGuard],qB hn hq.2 ?_ ?_⟩,⟨by cases op<;>simp [eqGuard],qB hn hq.1 ?_ ?_⟩⟩<;>cases a<;>rfl
  ·cases hb
 ·cases hb
theorem Iw (hE:eD C.P E) {T:TypeId} {t0:Ty} (hT:E.T T=some (.ref t0)) {op:BinOp} {s1 s2:SV} {v1 v2:Value} {x:DV} (ox oy:Operand)
  (h1:bf w I tk s1 v1) (h2:bf w I tk s2 v2) (hb:R8 op s1 s2=some (true,x)):
  (eqGuard op T ox oy v1 v2).run C.P w= .ok () w∧∃ v,(binOp op T v1 v2).run C.P w= .ok v w∧bf w I tk (.p x) v:=by
 obtain ⟨_,te,hu,hA⟩:=hE.ty T _ hT
 have hA':fO C.P te t0:=hA
 obtain ⟨j,_,hj,_⟩:=hA'.base.zero
 have same:∀ a:Addr,(binOp .eql T (.pointer (some a)) (.pointer (some a))).run C.P w= .ok (.bool true) w∧(binOp .neq T (.pointer (some a)) (.pointer (some a))).run C.P w= .ok (.bool false) w:=by
  intro a
  have h':∀ d:Nat,(Op.equalIn (d+1) T (.pointer (some a)) (.pointer (some a))).run C.P w= .ok true w:=fun d=>by
   simp [Op.equalIn,run_underlying hu,sizeOf,typeInfo,hj,run_sameAddr_same]
  have h:=h' 9999
  constructor
  ·simp only [binOp,Op.equal,Op.maxDepth,Sem.run_bind,h,Result.andThen_ok,Sem.run_pure]
  ·simp only [binOp,Op.equal,Op.maxDepth,Sem.run_bind,h,Result.andThen_ok,Sem.run_pure]; rfl
 unfold R8 at hb
 split at hb
 ·rename_i s t pa s' t' pa'
  cases hq:Nat.beq s s'&&decide (t=t')&&decide (pa=pa') with
  |false=>rw [hq] at hb; cases hb
  |true=>
   rw [hq] at hb
   simp only [Bool.and_eq_true,decide_eq_true_eq,Nat.beq_eq] at hq
   obtain ⟨⟨rfl,rfl⟩,rfl⟩:=hq
   obtain ⟨k,b,off,a1,a2,_,rfl⟩:=h1
   obtain ⟨k',b',off',b1,b2,_,rfl⟩:=h2
   rw [a1] at b1; cases b1
   rw [a2] at b2; cases b2
   exact ⟨by cases op<;>simp [eqGuard],qJ hb (same _).1 (same _).2⟩
 ·rename_i s t pa x0 s' t' pa'
  cases hq:Nat.beq s s'&&decide (t=t')&&decide (pa=pa') with
  |false=>rw [hq] at hb; cases hb
  |true=>
   rw [hq] at hb
   simp only [Bool.and_eq_true,decide_eq_true_eq,Nat.beq_eq] at hq
   obtain ⟨⟨rfl,rfl⟩,rfl⟩:=hq
   obtain ⟨k',b',off',b1,b2,_,rfl⟩:=h2
   have hv:=h1.2
   simp only [aA,Ty.isAgg,Bool.false_eq_true,if_false,ai,List.cons.injEq,and_true] at hv
   rcases hv with ⟨rfl,rfl⟩|⟨rfl,u,rfl,k,b,off,a1,a2,_,rfl⟩
   ·exact ⟨by cases op<;>simp [eqGuard],qB hb (zS (w:=w) T te hu (some ⟨b',off',none⟩) 9999).2 rfl rfl⟩
   ·rw [a1] at b1; cases b1
    rw [a2] at b2; cases b2
    exact ⟨by cases op<;>simp [eqGuard],qJ hb (same _).1 (same _).2⟩
 ·cases hb
theorem G9 (hE:eD C.P E) (hV:View sv st) (hI:Inv C st tm w I tk) {T:TypeId} {op:BinOp} {s1 s2:SV} {v1 v2:Value} {x:DV} (ox oy:Operand)
  (h1:bf w I tk s1 v1) (h2:bf w I tk s2 v2) (hb:binop sv (E.T T) op s1 s2=some (true,x)):
  ∃ v,((do eqGuard op T ox oy v1 v2; binOp op T v1 v2:Sem Value)).run C.P w= .ok v w∧bf w I tk (.p x) v:=by
 have go:((eqGuard op T ox oy v1 v2).run C.P w= .ok () w∧(∃ v,(binOp op T v1 v2).run C.P w= .ok v w∧bf w I tk (.p x) v))→
   ∃ v,((do eqGuard op T ox oy v1 v2; binOp op T v1 v2:Sem Value)).run C.P w= .ok v w∧bf w I tk (.p x) v:=by
  rintro ⟨hg,v,hv,hr⟩
  exact ⟨v,by rw [Sem.run_bind,hg]; exact hv,hr⟩
 unfold binop at hb
 split at hb
 ·rename_i k a k' b
  have e1:=dF.1 h1
  have e2:=dF.1 h2
  subst e1; subst e2
  refine go ⟨by cases op<;>simp [eqGuard],?_⟩
  split at hb
  ·exact AA hb T
  ·exact AA hb T
  ·split at hb
   ·rename_i hns1 hns2 hk
    subst hk
    exact NR hb T ⟨hns1,hns2⟩
   ·cases hb
 ·have e1:=ow.1 h1
  have e2:=ow.1 h2
  subst e1; subst e2
  exact go ⟨by cases op<;>simp [eqGuard],MU hb T⟩
 ·have e1:=zZ.1 h1
  have e2:=zZ.1 h2
  subst e1; subst e2
  exact go ⟨by cases op<;>simp [eqGuard],Og hb T⟩
 ·rename_i t a t' b _ _ _
  split at hb
  ·rename_i ht
   subst ht
   cases hq:t'.wT&&decide (E.T T=some t') with
   |false=>rw [hq] at hb; cases hb
   |true=>
    rw [hq] at hb
    simp only [Bool.and_eq_true,decide_eq_true_eq] at hq
    simp only [cond_true] at hb
    split at hb
    ·rename_i r he
     obtain ⟨hg,h3,h4⟩:=Oh hE hq.1 hq.2 op ox oy h1.p h2.p he
     exact go ⟨hg,qJ hb h3 h4⟩
    ·cases hb
  ·cases hb
 ·cases hy:s2.El with
  |true=>
   rw [hy] at hb
   exact go (Ae hE hV hI ox oy h2 h1 hb).2
  |false=>
   rw [hy] at hb
   cases hx:s1.El with
   |true=>
    rw [hx] at hb
    exact go (Ae hE hV hI ox oy h1 h2 hb).1
   |false=>
    rw [hx] at hb
    simp only [cond_false] at hb
    split at hb
    ·rename_i t0 hT
     exact go (Iw hE hT ox oy h1 h2 hb)
    ·cases hb
end Go.Own
set_option linter.unusedVariables false
namespace Go.Own
variable {C:Cx} {P:Program} {E:Env} {w w':World} {I I':Nat→Prop} {st sv:St} {tm:Array Value} {tk tk':aU} {ds:List Deferred} {o:Oper}
theorem dD:∀ (ps qs:List Pm) (st:St),aN (ps++qs) st=aN qs (aN ps st)
 | [],_,_=>rfl
 |p::ps,qs,st=>dD ps qs (p.run st)
theorem Pm.sF (p:Pm) (st:St):(p.run st).sl.length=st.sl.length:=by cases p<;>simp [Pm.run,St.gI,St.kill,St.jI]
theorem dm:∀ (ps:List Pm) (st:St),(aN ps st).sl.length=st.sl.length
 | [],_=>rfl
 |p::ps,st=>by simp only [aN]; rw [dm ps,Pm.sF]
theorem yM:∀ (ps qs:List Pm) (v:SV),qU (ps++qs) v=qU qs (qU ps v)
 | [],_,_=>rfl
 |p::ps,qs,v=>yM ps qs (p.val v)
theorem View.kill (hV:View sv st) (s:Nat):View (sv.kill s) (st.kill s) where
 slot:=fun i=>by
  rw [nE,nE]
  rcases hV.slot i with e|e
  ·left; rw [e]; rfl
  ·right; rw [e]
 box:=fun r d h=>by
  rw [ng] at h ⊢
  obtain ⟨d0,h1,h2⟩:=Option.map_eq_some_iff.1 h
  rw [hV.box r d0 h1,Option.map_some,h2]
theorem N8 (s:Nat) (c:DV):SV.frz s c .dead= .dead:=by obtain ⟨t,x⟩:=c; cases t<;>rfl
theorem View.frz (hV:View sv st) (s:Nat) (c:DV):View (sv.jI s c) (st.jI s c) where
 slot:=fun i=>by
  rw [qG,qG]
  rcases hV.slot i with e|e
  ·left; rw [e]; exact N8 s c
  ·right; rw [e]
 box:=fun r d h=>by
  rw [sW] at h ⊢
  split at h
  ·cases h
  ·rename_i hr
   obtain ⟨d0,h1,h2⟩:=Option.map_eq_some_iff.1 h
   rw [if_neg hr,hV.box r d0 h1,Option.map_some,h2]
theorem View.ins (hV:View sv st) (s:Nat) (c:DV):View (sv.gI s c) (st.gI s c) where
 slot:=hV.slot
 box:=fun r d h=>by
  rw [iE] at h ⊢
  split at h
  ·rename_i hr; rw [if_pos hr]; exact h
  ·rename_i hr; rw [if_neg hr]; exact hV.box r d h
theorem View.del (hV:View sv st) (s:Nat):View ⟨sv.sl,Be s sv.bx⟩ ⟨st.sl,Be s st.bx⟩ where
 slot:=hV.slot
 box:=fun r d h=>by
  rw [og] at h ⊢
  split at h
  ·cases h
  ·rename_i hr; rw [if_neg hr]; exact hV.box r d h
def FZ:Pm→Bool
 | .set _ _=>false
 |_=>true
theorem View.runs:∀ {ps:List Pm} {sv st:St},ps.all FZ=true→View sv st→View (aN ps sv) (aN ps st)
 | [],_,_,_,hV=>hV
 |p::ps,sv,st,h,hV=>by
  simp only [List.all_cons,Bool.and_eq_true] at h
  refine View.runs (ps:=ps) h.2 ?_
  cases p with
  |set i v=>cases h.1
  |ins s d=>exact hV.ins s d
  |kill s=>exact hV.kill s
  |frz s c=>exact hV.frz s c
  |del s=>exact hV.del s
theorem ai.dz:∀ {t:Ty} {x:t.den} {cs:List Value},ai w I tk t x cs→ai w I tk (Go.Own.dz t x).1 (Go.Own.dz t x).2 cs∧(Go.Own.dz t x).1.frz=t.frz:=by
 intro t
 induction t with
 |pair a b iha ihb=>
  intro x cs h
  obtain ⟨c1,c2,e,h1,h2⟩:=h
  exact ⟨⟨c1,c2,e,(iha h1).1,(ihb h2).1⟩,by simp only [Go.Own.dz,Ty.frz,(iha h1).2,(ihb h2).2]⟩
 |nsl t=>
  intro x cs h
  have h':cs= [.slice none 0 0]:=h
  subst h'
  exact ⟨⟨none,0,rfl,Nat.le_refl _,.inl rfl⟩,rfl⟩
 |_=>intro x cs h; exact ⟨h,rfl⟩
theorem aA.dz {d:DV} {v:Value} (h:aA w I tk d.1 d.2 v):aA w I tk (Go.Own.dz d.1 d.2).1 (Go.Own.dz d.1 d.2).2 v:=by
 unfold aA at h
 split at h
 ·rename_i ha
  obtain ⟨cs,e1,h1⟩:=h
  unfold aA
  rw [if_pos (by rw [jb h1.dz.2]; exact ha)]
  exact ⟨cs,e1,h1.dz.1⟩
 ·rename_i ha
  have h1:=ai.dz h
  unfold aA
  rw [if_neg (by rw [jb h1.2]; exact ha)]
  exact h1.1
structure xK (C:Cx) (sv st:St) (tm:Array Value) (w:World) (I:Nat→Prop) (tk:aU) (fs:List Pm) (I':Nat→Prop) (tk':aU):Prop where
 inv:Inv C (aN fs st) tm w I' tk'
 view:View (aN fs sv) (aN fs st)
 mono:∀ b,I b→I' b
 val:∀ v x,bf w I tk v x→bf w I' tk' (qU fs v) x
 tok:∀ r,r∉fs.flatMap Pm.fs→tk' r=tk r
 FZ:fs.all Go.Own.FZ=true
 new:∀ b,I' b→I b∨∃ r q,r∈fs.flatMap Pm.fs∧tk r=some q∧q.own b
theorem bf.same {v:SV} {x:Value} (h:bf w I tk v x) (hI:∀ b,I b→I' b):bf w I' tk v x:=h.world hI (fun _ _=>rfl) (aU.le.refl _)
theorem qw:∀ {n:Nat} {ss:List Nat} {sv st:St} {I:Nat→Prop} {tk:aU} {fs:List Pm},View sv st→Inv C st tm w I tk→j5 n sv ss=some fs→
  ∃ I' tk',xK C sv st tm w I tk fs I' tk':=by
 intro n
 induction n with
 |zero=>
  intro ss sv st I tk fs hV h hf
  cases ss with
  |nil=>simp only [j5,Option.some.injEq] at hf; subst hf; exact ⟨I,tk,h,hV,fun _ hb=>hb,fun _ _ h=>h,fun _ _=>rfl,rfl,fun _ hb=> .inl hb⟩
  |cons s ss=>cases hf
 |succ n ih=>
  intro ss sv st I tk fs hV h hf
  cases ss with
  |nil=>simp only [j5,Option.some.injEq] at hf; subst hf; exact ⟨I,tk,h,hV,fun _ hb=>hb,fun _ _ h=>h,fun _ _=>rfl,rfl,fun _ hb=> .inl hb⟩
  |cons s ss=>
   simp only [j5] at hf
   split at hf
   ·exact ih hV h hf
   ·rename_i d hb
    have hb':=hV.box s d hb
    obtain ⟨q,hq,hd⟩:=h.boxes s d hb'
    have one:∀ {st1 sv1:St} {e:DV} {ps:List Pm} {pre:List Pm},aN pre st=st1→aN pre sv=sv1→pre.all Go.Own.FZ=true→pre.flatMap Pm.fs= []→(∀ v,qU pre v=v)→
      View sv1 st1→Inv C st1 tm w I tk→st1.box s=some e→e.mD=true→j5 n (sv1.jI s e) ss=some ps→∃ I' tk',xK C sv st tm w I tk (pre++ .frz s e::ps) I' tk':=by
     intro st1 sv1 e ps pre e1 e2 hns hfs hvl hV1 h1 hbe hok hps
     obtain ⟨q',hq',hd'⟩:=h1.boxes s e hbe
     have h2:=h1.freeze hbe hq' hd' hok
     obtain ⟨I2,tk2,h3⟩:=ih (hV1.frz s e) h2 hps
     refine ⟨I2,tk2,?_⟩
     have er:∀ x,aN (pre++ .frz s e::ps) x=aN ps ((aN pre x).jI s e):=fun x=>by rw [dD]; rfl
     have hm:∀ b,I b→I b∨q'.own b:=fun b hb=> .inl hb
     constructor
     ·rw [er,e1]; exact h3.inv
     ·rw [er,er,e1,e2]; exact h3.view
     ·exact fun b hb=>h3.mono b (.inl hb)
     ·intro v x hv
      rw [yM,hvl]
      exact h3.val _ x (hv.frz hq' hd' hok hm (fun b hb=> .inr hb) (fun r hr=>if_neg hr))
     ·intro r hr
      simp only [List.flatMap_append,hfs,List.nil_append,List.flatMap_cons,Pm.fs,List.singleton_append,List.mem_cons,not_or] at hr
      rw [h3.tok r hr.2,if_neg hr.1]
     ·simp only [List.all_append,List.all_cons,Bool.and_eq_true]
      exact ⟨hns,rfl,h3.FZ⟩
     ·intro b hb
      simp only [List.flatMap_append,hfs,List.nil_append,List.flatMap_cons,Pm.fs,List.singleton_append,List.mem_cons]
      rcases h3.new b hb with (h4|h4)|⟨r,p,h4,h5,h6⟩
      ·exact .inl h4
      ·exact .inr ⟨s,q',.inl rfl,hq',h4⟩
      ·split at h5
       ·cases h5
       ·exact .inr ⟨r,p,.inr h4,h5,h6⟩
    split at hf
    ·cases ho:d.mD with
     |true=>
      rw [ho] at hf
      simp only [cond_true] at hf
      obtain ⟨ps,hp,rfl⟩:=Option.map_eq_some_iff.1 hf
      exact one (pre:= []) rfl rfl rfl rfl (fun _=>rfl) hV h hb' ho hp
     |false=>
      rw [ho] at hf
      simp only [cond_false] at hf
      cases ht:(Go.Own.dz d.1 d.2).1.bL with
      |true=>rw [ht] at hf; cases hf
      |false=>
       rw [ht] at hf
       simp only [cond_false] at hf
       cases hz:(Go.Own.dz d.1 d.2).mD with
       |false=>rw [hz] at hf; cases hf
       |true=>
        rw [hz] at hf
        simp only [cond_true] at hf
        obtain ⟨ps,hp,rfl⟩:=Option.map_eq_some_iff.1 hf
        have htd:d.1.bL=false:=by
         obtain ⟨t,x⟩:=d
         cases t<;>first|rfl|exact ht
        have hd2:aI w I tk q (Go.Own.dz d.1 d.2):=by
         obtain ⟨h1,h2,b,cs,h3,h4,h5⟩:=(aI.str (t:=d.1) (x:=d.2) htd).1 hd
         exact (aI.str ht).2 ⟨by rw [h5.dz.2]; exact h1,h2,b,cs,h3,h4,h5.dz.1⟩
        exact one (pre:= [.ins s (Go.Own.dz d.1 d.2)]) rfl rfl rfl rfl (fun _=>rfl) (hV.ins s _) (h.wz hb' hq hd2) (by show (st.gI s _).box s=_; rw [iE,if_pos rfl]) hz hp
    ·rename_i m ms _
     cases hm:(m::ms).any (Nat.beq s) with
     |true=>rw [hm] at hf; cases hf
     |false=>rw [hm] at hf; exact ih hV h hf
theorem kC {vs:List SV} {fs:List Pm} (hV:View sv st) (h:Inv C st tm w I tk) (hf:oZ sv vs=some fs):∃ I' tk',xK C sv st tm w I tk fs I' tk':=
 qw hV h hf
theorem jR {u:Option Ty} {v:SV} {x:Value} {d:DV} (h:bf w I tk v x) (hd:oK u v=some d):d.1.plain=true∧aA w I tk d.1 d.2 x:=by
 unfold oK at hd
 split at hd
 ·cases hd; exact ⟨h.pl,h.p⟩
 ·rename_i d0
  cases hp:(Go.Own.dz d0.1 d0.2).1.plain with
  |false=>rw [hp] at hd; cases hd
  |true=>
   rw [hp] at hd
   simp only [cond_true,Option.some.injEq] at hd
   subst hd
   exact ⟨hp,aA.dz h.2⟩
 ·have e:x= .slice none 0 0:=h
  split at hd
  ·rename_i t
   cases hp:t.plain with
   |false=>rw [hp] at hd; cases hd
   |true=>
    rw [hp] at hd; cases hd
    refine ⟨hp,?_⟩
    rw [e]
    simp only [aA,Ty.isAgg,Bool.false_eq_true,if_false]
    exact ⟨none,0,rfl,Nat.le_refl _,.inl rfl⟩
  ·cases hd
 ·have e:x= .pointer none:=h
  split at hd
  ·rename_i t
   cases hp:t.plain with
   |false=>rw [hp] at hd; cases hd
   |true=>
    rw [hp] at hd; cases hd
    refine ⟨hp,?_⟩
    rw [e]; simp [aA,Ty.isAgg,ai]
  ·cases hd
   refine ⟨rfl,?_⟩
   rw [e]; simp [aA,Ty.isAgg,ai]
  ·cases hd
 ·cases hd
theorem uw {u:Option Ty} {v:SV} {x:Value} {fs:List Pm} {d:DV} (hV:View sv st) (h:Inv C st tm w I tk) (hv:bf w I tk v x) (hf:GN sv u v=some (fs,d)):
  ∃ I' tk',xK C sv st tm w I tk fs I' tk'∧d.1.plain=true∧aA w I' tk' d.1 d.2 x:=by
 unfold GN at hf
 split at hf
 ·rename_i fs' hfs
  obtain ⟨d',h1,h2⟩:=Option.map_eq_some_iff.1 hf
  cases h2
  obtain ⟨I',tk',hF⟩:=kC hV h hfs
  exact ⟨I',tk',hF,jR (hF.val _ _ hv) h1⟩
 ·cases hf
theorem sD {u:Ty} {v:SV} {x:Value} {d:DV} (h:bf w I tk v x) (hd:zP u v=some d):d.1.bL=false∧aA w I tk d.1 d.2 x:=by
 have ptop:∀ {t:Ty},t.plain=true→t.bL=false:=by intro t hp; cases t<;>first|rfl|cases hp
 unfold zP at hd
 split at hd
 ·cases hd; exact ⟨ptop h.pl,h.p⟩
 ·cases hd; exact h
 ·have e:x= .slice none 0 0:=h
  split at hd
  ·cases hd; refine ⟨rfl,?_⟩; rw [e]; simp [aA,Ty.isAgg,ai]
  ·cases hd
 ·have e:x= .pointer none:=h
  split at hd
  ·cases hd; refine ⟨rfl,?_⟩; rw [e]; simp [aA,Ty.isAgg,ai]
  ·cases hd; refine ⟨rfl,?_⟩; rw [e]; simp [aA,Ty.isAgg,ai]
  ·cases hd
 ·cases hd
  obtain ⟨q,h1,h2,rfl⟩:=h
  refine ⟨rfl,?_⟩
  simp only [aA,Ty.isAgg,Bool.false_eq_true,if_false,ai]
  exact ⟨q,h1,h2,rfl⟩
 ·split at hd
  ·cases hd
   refine ⟨rfl,?_⟩
   exact aA.one (t:= .sf _ _ _) rfl (.inr ⟨rfl,x,rfl,h⟩)
  ·cases hd
   refine ⟨rfl,?_⟩
   simp only [aA,Ty.isAgg,Bool.false_eq_true,if_false,ai]
   exact ⟨x,rfl,h⟩
 ·cases hd
  obtain ⟨q,b,h1,h2,h3,rfl⟩:=h
  refine ⟨rfl,?_⟩
  simp only [aA,Ty.isAgg,Bool.false_eq_true,if_false,ai]
  exact ⟨q,b,h1,h2,h3,rfl⟩
 ·cases hd
theorem wO {d:DV} {v:SV} {x:Value} (h:aA w I tk d.1 d.2 x) (hd:vP d=some v):bf w I tk v x:=by
 unfold vP at hd
 split at hd
 ·cases hd
  simp only [aA,Ty.isAgg,Bool.false_eq_true,if_false,ai,List.cons.injEq,and_true] at h
  obtain ⟨k,h1,h2,rfl⟩:=h
  exact ⟨k,h1,h2,rfl⟩
 ·cases hd
  simp only [aA,Ty.isAgg,Bool.false_eq_true,if_false,ai,List.cons.injEq,and_true] at h
  obtain ⟨v,rfl,h1⟩:=h
  exact h1
 ·cases hd
  simp only [aA,Ty.isAgg,Bool.false_eq_true,if_false,ai,List.cons.injEq,and_true] at h
  obtain ⟨q,b,h1,h2,h3,rfl⟩:=h
  exact ⟨q,b,h1,h2,h3,rfl⟩
 ·cases hd
  simp only [aA,Ty.isAgg,Bool.false_eq_true,if_false,ai,List.cons.injEq,and_true] at h
  exact h
 ·cases hd
 ·cases ht:d.1.bL with
  |true=>rw [ht] at hd; cases hd
  |false=>
   rw [ht] at hd
   simp only [cond_false,Option.some.injEq] at hd
   subst hd
   exact bf.of1 (zl ht h)
end Go.Own
set_option linter.unusedVariables false
namespace Go.Own
variable {C:Cx} {P:Program} {E:Env} {w w':World} {I I':Nat→Prop} {st sv:St} {tm:Array Value} {tk tk':aU} {ds:List Deferred} {o:Oper} {e:TypeId}
theorem Blk.frozen {b:Nat} {cs:List Value} (h:Blk w b e cs) (o:Nat) (ho:o<cs.length):w.frozen? ⟨b,o,none⟩=false:=by
 obtain ⟨c,fr,h1,h2,h3⟩:=h
 subst h2
 have:=h3 o (by simpa using ho)
 obtain ⟨lo,hi⟩:=fr
 simp only [World.frozen?,h1]
 simp only [Bool.and_eq_false_iff,decide_eq_false_iff_not]
 simp only at this
 omega
theorem Blk.setCell {b:Nat} {cs:List Value} (h:Blk w b e cs) (o:Nat) (v:Value):Blk (w.setCell ⟨b,o,none⟩ v) b e (cs.set o v):=by
 obtain ⟨c,fr,h1,h2,h3⟩:=h
 subst h2
 refine ⟨c.setIfInBounds o v,fr,?_,by simp,by simpa using h3⟩
 simp [World.setCell,Array.getElem?_modify,h1]
theorem lK (a:Addr) (v:Value) (b:Nat) (hb:b≠a.block):(w.setCell a v).heap[b]?=w.heap[b]?:=RowKit.Below.heap_setCell w a v b hb
theorem Fh (cs:List Value) (o:Nat) (v:Value) (r:List Value) (h:o+r.length<cs.length):splice cs o (v::r)=splice (cs.set o v) (o+1) r:=by
 apply gK; intro k
 rw [dn _ _ _ (by simp; omega),dn _ _ _ (by simp; omega),List.getElem?_set]
 simp only [List.length_cons]
 by_cases hk:o=k
 ·subst hk
  rw [if_pos ⟨Nat.le_refl _,by omega⟩,if_neg (by omega),if_pos rfl,if_pos (by omega)]
  simp
 ·by_cases hq:o+1≤k∧k<o+1+r.length
  ·rw [if_pos (by omega),if_pos hq]
   have:k - o=(k - (o+1))+1:=by omega
   rw [this,List.getElem?_cons_succ]
  ·rw [if_neg (by omega),if_neg hq,if_neg hk]
theorem Blk.setCells {b:Nat}:∀ {vs:List Value} {o:Nat} {cs:List Value} {w:World},Blk w b e cs→o+vs.length≤cs.length→Blk (w.setCells b o vs) b e (splice cs o vs)
 | [],o,cs,w,h,_=>by
  have:splice cs o []=cs:=by unfold splice; simp
  rw [this]; exact h
 |v::r,o,cs,w,h,hl=>by
  simp only [List.length_cons] at hl
  rw [World.setCells,Fh cs o v r (by omega)]
  exact Blk.setCells (h.setCell o v) (by simp; omega)
theorem Wrote.cells (b:Nat):∀ (vs:List Value) (o:Nat) (w:World),Wrote b w (w.setCells b o vs)
 | [],_,w=>⟨fun _ _=>rfl,rfl,rfl,rfl,rfl⟩
 |v::r,o,w=>by
  have h:=Wrote.cells b r (o+1) (w.setCell ⟨b,o,none⟩ v)
  rw [World.setCells]
  exact ⟨fun k hk=>(h.other k hk).trans (lK _ _ _ (by simpa using hk)),h.size.trans (by simp),h.os,h.output,h.tape⟩
theorem Blk.alloc (w:World) (c:Array Value) (T:TypeId):Blk (w.alloc (.cells c T)) w.heap.size T c.toList:=
 ⟨c,(0,0),by simp only [World.alloc,Array.getElem?_push_size],rfl,fun o _ h=>by simp at h⟩
theorem mU.val {s:Nat} {t:Ty} {pa:Path} {v:Value} (h:mU tk s t pa v):∃ a,v= .pointer (some a):=by
 obtain ⟨_,b,off,_,_,_,rfl⟩:=h; exact ⟨_,rfl⟩
theorem ai.ones:∀ {t:Ty} {x:t.den} {cs:List Value},t.known=true→ai w I tk t x cs→∀ v∈cs,v.oneCell'=true:=by
 intro t
 induction t with
 |int k=>intro x cs _ h v hv; simp only [ai] at h; subst h; simp at hv; subst hv; rfl
 |bool=>intro x cs _ h v hv; simp only [ai] at h; subst h; simp at hv; subst hv; rfl
 |str=>intro x cs _ h v hv; simp only [ai] at h; subst h; simp at hv; subst hv; rfl
 |flt=>intro x cs _ h v hv; simp only [ai] at h; subst h; simp at hv; subst hv; rfl
 |unit=>intro x cs _ h v hv; simp only [ai] at h; subst h; simp at hv
 |eos u=>intro x cs _ h v hv; simp only [ai] at h; subst h; simp at hv
 |pair a b iha ihb=>
  intro x cs hk h v hv
  simp only [Ty.known,Bool.and_eq_true] at hk
  obtain ⟨c1,c2,rfl,h1,h2⟩:=h
  rcases List.mem_append.1 hv with hv|hv
  ·exact iha hk.1 h1 v hv
  ·exact ihb hk.2 h2 v hv
 |arr n t ih=>
  intro x cs hk h v hv
  obtain ⟨hl,hc,h1⟩:=h
  obtain ⟨k,hk',rfl⟩:=List.getElem_of_mem hv
  have hs:0<t.size:=by
   rcases Nat.eq_zero_or_pos t.size with h0|h0
   ·rw [h0] at hc; omega
   ·exact h0
  have hi:k/t.size<x.length:=by rw [hl]; exact Nat.div_lt_of_lt_mul (by rw [Nat.mul_comm]; omega)
  refine ih hk (h1 (k/t.size) _ (List.getElem?_eq_getElem hi)) _ ?_
  refine List.mem_of_getElem? (i:=k%t.size) ?_
  rw [dI,if_pos (Nat.mod_lt _ hs),Nat.mul_comm,Nat.div_add_mod]
  exact List.getElem?_eq_getElem hk'
 |sl t ih=>intro x cs _ h v hv; obtain ⟨ad,cap,rfl,_⟩:=h; simp at hv; subst hv; rfl
 |ref t ih=>
  intro x cs _ h v hv
  cases x with
  |none=>simp only [ai] at h; subst h; simp at hv; subst hv; rfl
  |some x=>obtain ⟨_,b,o,c,rfl,_⟩:=h; simp at hv; subst hv; rfl
 |nif=>intro x cs _ h v hv; simp only [ai] at h; subst h; simp at hv; subst hv; rfl
 |slf=>intro x cs _ h v hv; simp only [ai] at h; subst h; simp at hv; subst hv; rfl
 |nsl t=>intro x cs _ h v hv; simp only [ai] at h; subst h; simp at hv; subst hv; rfl
 |sf s t pa=>
  intro x cs _ h v hv
  rcases h with ⟨_,rfl⟩|⟨_,u,rfl,h⟩
  ·simp at hv; subst hv; rfl
  ·obtain ⟨a,rfl⟩:=h.val; simp at hv; subst hv; rfl
 |vw s t=>intro x cs _ h v hv; obtain ⟨k,_,_,rfl⟩:=h; simp at hv; subst hv; rfl
 |pt s t pa=>
  intro x cs _ h v hv
  obtain ⟨u,rfl,h⟩:=h
  obtain ⟨a,rfl⟩:=h.val; simp at hv; subst hv; rfl
 |mp s k v=>intro x cs _ h v hv; obtain ⟨q,b,_,_,_,rfl⟩:=h; simp at hv; subst hv; rfl
 |rid p t=>intro x cs _ h v hv; obtain ⟨q,r,_,_,_,rfl⟩:=h; simp at hv; subst hv; rfl
 |junk t=>intro x cs hk h; cases hk
 |dyn t=>intro x cs _ h; exact h.elim
 |map k v=>intro x cs _ h; exact h.elim
 |pool t=>intro x cs _ h; exact h.elim
theorem aA.cells {t:Ty} {x:t.den} {v:Value} (h:aA w I tk t x v) (hk:t.known=true):ai w I tk t x v.cells.toList:=by
 unfold aA at h
 split at h
 ·obtain ⟨cs,rfl,h⟩:=h; exact h
 ·have:=ai.ones hk h v (by simp)
  have hc:v.cells= #[v]:=by cases v<;>first|rfl|cases this
  rw [hc]; exact h
theorem yR {T:TypeId} {t:Ty} (h:fO P T t.frz) {x:t.den} {c:List Value} (hc:ai w I tk t x c) {b o:Nat} (ha:nZ w b o c):
  ∃ v,(loadVar T ⟨b,o,none⟩).run P w= .ok v w∧aA w I tk t x v:=by
 unfold loadVar
 rw [Sem.run_bind,h.isAgg w,Ty.mr]
 simp only [Result.andThen_ok]
 have hadd:∀ j,(⟨b,o,none⟩:Addr).add j=⟨b,o+j,none⟩:=fun j=>addr_add b o j
 cases hg:t.isAgg with
 |true=>
  have hl:=run_loadCells_list (P:=P) w ⟨b,o,none⟩ c (fun j v hv=>by rw [hadd]; exact ha j v hv)
  rw [hc.length] at hl
  refine ⟨.agg c.toArray,by simp [h.sizeOf w,Ty.fA,hl],?_⟩
  unfold aA
  simp only [hg,if_true]
  exact ⟨_,rfl,by simpa using hc⟩
 |false=>
  have h1:t.size=1:=by rw [← Ty.fA]; exact h.one (by rw [Ty.mr]; exact hg)
  have hl:=hc.length
  rw [h1] at hl
  match c,hl with
  | [v],_=>
   have:=ha 0 v rfl
   refine ⟨v,by simp [run_load,show w.cell? ⟨b,o,none⟩=some v from this],?_⟩
   unfold aA
   simp only [hg,Bool.false_eq_true,if_false]
   exact hc
theorem wD {T:TypeId} {t:Ty} (h:fO P T t.frz) {x:t.den} {v:Value} (hk:t.known=true) (hv:aA w I tk t x v) {b o:Nat} {cs:List Value} (hb:Blk w b e cs) (ho:o+t.size≤cs.length):
  (storeVar T ⟨b,o,none⟩ v).run P w= .ok () (w.setCells b o v.cells.toList)∧ai w I tk t x v.cells.toList:=by
 have hc:=hv.cells hk
 have hl:=hc.length
 refine ⟨?_,hc⟩
 unfold storeVar
 rw [Sem.run_bind,h.sizeOf w,Ty.fA]
 simp only [Result.andThen_ok]
 rw [if_neg (by rw [← Array.length_toList,hl]; simp)]
 have:=run_storeCells_cells (P:=P) b o v.cells.toList 0 w (fun j hj=>by rw [hb.cell,List.getElem?_eq_getElem (by omega)]; rfl)
  (fun j hj=>hb.frozen _ (by omega)) (hc.ones hk)
 simpa using this
theorem vC:∀ {pa qa:Path} {t u v:Ty} {o1 o2:Nat},bG t pa=some (o1,u)→bG u qa=some (o2,v)→bG t (pa++qa)=some (o1+o2,v):=by
 intro pa
 induction pa with
 |nil=>
  intro qa t u v o1 o2 h1 h2
  rw [fK] at h1; cases h1
  simpa using h2
 |cons s pa ih=>
  intro qa t u v o1 o2 h1 h2
  cases t<;>cases s<;>simp only [bG,reduceCtorEq] at h1
  case pair.fst a b=>simp only [List.cons_append,bG]; exact ih h1 h2
  all_goals
   obtain ⟨⟨o,u'⟩,h3,h4⟩:=Option.map_eq_some_iff.1 h1
   simp only [Prod.mk.injEq] at h4
   obtain ⟨rfl,rfl⟩:=h4
   simp only [List.cons_append,bG,ih h3 h2,Option.map_some,Nat.add_assoc]
theorem vB (n:Nat):∀ {pa qa:Path} {t u:Ty} {o1:Nat},bG t pa=some (o1,u)→pathIn n t pa→pathIn n u qa→pathIn n t (pa++qa):=by
 intro pa
 induction pa with
 |nil=>
  intro qa t u o1 h1 _ h2
  rw [fK] at h1; cases h1
  simpa using h2
 |cons s pa ih=>
  intro qa t u o1 h1 hp h2
  cases t<;>cases s<;>simp only [bG,reduceCtorEq] at h1<;>simp only [pathIn] at hp
  case pair.fst a b=>simp only [List.cons_append,pathIn]; exact ih h1 hp h2
  case pair.snd a b=>
   obtain ⟨⟨o,u'⟩,h3,h4⟩:=Option.map_eq_some_iff.1 h1
   simp only [Prod.mk.injEq] at h4
   obtain ⟨rfl,rfl⟩:=h4
   simp only [List.cons_append,pathIn]; exact ih h3 hp h2
  all_goals
   obtain ⟨⟨o,u'⟩,h3,h4⟩:=Option.map_eq_some_iff.1 h1
   simp only [Prod.mk.injEq] at h4
   obtain ⟨rfl,rfl⟩:=h4
   simp only [List.cons_append,pathIn]; exact ⟨hp.1,ih h3 hp.2 h2⟩
theorem EZ:∀ {pa:Path} {t u:Ty},lq t pa=some u→∃ off,bG t pa=some (off,u):=by
 intro pa
 induction pa with
 |nil=>
  intro t u h
  have:t=u:=by cases t<;>simpa [lq] using h
  subst this; exact ⟨0,fK _⟩
 |cons s pa ih=>
  intro t u h
  cases t<;>cases s<;>simp only [lq,reduceCtorEq] at h
  case pair.fst a b=>exact ih h
  case pair.snd a b=>obtain ⟨off,h⟩:=ih h; exact ⟨a.size+off,by simp [bG,h]⟩
  case arr.ix n t i=>obtain ⟨off,h⟩:=ih h; exact ⟨i*t.size+off,by simp [bG,h]⟩
  case dyn.ix t i=>obtain ⟨off,h⟩:=ih h; exact ⟨i*t.size+off,by simp [bG,h]⟩
theorem Nn {t0:Ty} {l:List t0.den} {nl:Bool} {x:DV} {pa:Path} {b e o cap:Nat} (hr:jc w I tk b e o cap t0 l) (hcap:l.length≤cap) (hg:iI (.dyn t0) (nl,l) pa=some x) (hin:pathIn l.length (.dyn t0.frz) pa) (hx:x.1.bL=false):
  ∃ off cs,bG (.dyn t0.frz) pa=some (off,x.1.frz)∧Blk w b e cs∧o+off+x.1.size≤cs.length∧ai w I tk x.1 x.2 ((cs.drop (o+off)).take x.1.size):=by
 obtain ⟨cs,e3,e4,e5⟩:=hr
 have hsz:=Ty.fA t0
 cases pa with
 |nil=>
  simp only [iI,Option.some.injEq] at hg
  subst hg; cases hx
 |cons s pa=>
  cases s<;>simp only [iI,reduceCtorEq] at hg
  ·rename_i i
   simp only [pathIn] at hin
   have hi:i<l.length:=by omega
   have hxi:l[i]?=some (List.getD l i t0.dflt):=by
    rw [List.getD_eq_getElem?_getD,List.getElem?_eq_getElem hi]; rfl
   obtain ⟨c,hc,hv⟩:=e5 i _ hxi
   obtain ⟨p,f1,f2,f3⟩:=kS l.length (u:=x.1) (y:=x.2) hc hg hin.2
   have hm:(i+1)*t0.size≤cap*t0.size:=Nat.mul_le_mul_right _ (by omega)
   rw [Nat.add_mul,Nat.one_mul] at hm
   refine ⟨i*t0.size+p,cs,by simp [bG,f1,hsz],e3,by omega,?_⟩
   have:(cs.drop (o+(i*t0.size+p))).take x.1.size=(c.drop p).take x.1.size:=by
    apply gK; intro j
    rw [dI,dI]
    split
    ·have hl:=hc.length
     have hj:c[p+j]?=some c[p+j]:=List.getElem?_eq_getElem (by omega)
     rw [hj,← hv _ _ hj]; congr 1; omega
    ·rfl
   rw [this]; exact f2
  ·rename_i lo k
   simp only [pathIn] at hin
   have hc:=J2 (lo:=lo) (k:=k) e4 hcap (by omega) e5
   obtain ⟨p,f1,f2,f3⟩:=kS l.length (t:= .arr k t0) (u:=x.1) (y:=x.2) hc hg hin.2
   have hm:(lo+k)*t0.size≤cap*t0.size:=Nat.mul_le_mul_right _ (by omega)
   rw [Nat.add_mul] at hm
   simp only [Ty.size] at f3
   simp only [Ty.frz] at f1
   refine ⟨lo*t0.size+p,cs,by simp [bG,f1,hsz],e3,by omega,?_⟩
   have:(cs.drop (o+(lo*t0.size+p))).take x.1.size=(((cs.drop (o+lo*t0.size)).take (k*t0.size)).drop p).take x.1.size:=by
    apply gK; intro j
    rw [dI _ (o+(lo*t0.size+p)),dI _ p]
    split
    ·rw [dI,if_pos (by omega)]; congr 1; omega
    ·rfl
   rw [this]; exact f2
theorem Ju {q:Tk} {d x:DV} {pa:Path} {b:Nat} (hd:aI w I tk q d) (hb:q.blk=some b) (hg:iI d.1 d.2 pa=some x) (hin:pathIn q.len q.ty pa) (hx:x.1.bL=false):
  ∃ off cs,bG q.ty pa=some (off,x.1.frz)∧Blk w b q.tid cs∧q.off+off+x.1.size≤cs.length∧ai w I tk x.1 x.2 ((cs.drop (q.off+off)).take x.1.size):=by
 obtain ⟨dt,dx⟩:=d
 cases ht:dt.bL with
 |false=>
  obtain ⟨h1,h2,b',cs,h3,h4,h5⟩:=(aI.str ht).1 hd
  rw [hb] at h3; cases h3
  rw [h1] at hin
  obtain ⟨o,e1,e2,e3⟩:=kS q.len (u:=x.1) (y:=x.2) h5 hg hin
  refine ⟨o,cs,by rw [h1]; exact e1,h4,?_,?_⟩
  ·rw [h2,h5.length]; omega
  ·rw [h2,Nat.zero_add]; exact e2
 |true=>
  cases dt<;>first|cases ht; done|skip
  ·rename_i t0
   obtain ⟨h1,_,h2,h3,h4,h5⟩:=hd
   rw [h1] at hin ⊢
   rcases h5 with ⟨h5,h6⟩|⟨b',e1,e2,e3⟩
   ·rw [hb] at h5; cases h5
   ·rw [hb] at e1; cases e1
    exact Nn (nl:=dx.1) e3 h3 hg (by rw [← h2]; exact hin) hx
  ·cases pa with
   |nil=>simp only [iI,Option.some.injEq] at hg; subst hg; cases hx
   |cons s pa=>cases s<;>simp [iI] at hg
  ·obtain ⟨_,_,h,_⟩:=hd
   rw [hb] at h; cases h
theorem Nh {q:Tk} {t0:Ty} {l:List (Nat×List t0.den)} {pa:Path} {b off:Nat} {t:Ty} (hd:aI w I tk q ⟨.pool t0,l⟩) (hat:q.at pa=some (b,off,t)):
  ∃ (k:Nat) (r:RTk),q.rows[k]?=some r∧r.blk=some b:=by
 obtain ⟨h1,_⟩:=hd
 unfold Tk.at at hat
 rw [h1] at hat
 simp only at hat
 cases pa with
 |nil=>simp [Tk.at2] at hat
 |cons s pa=>
  cases s<;>simp only [Tk.at2,reduceCtorEq] at hat
  rename_i k
  cases hr:q.rows[k]? with
  |none=>rw [hr] at hat; cases hat
  |some r=>
   rw [hr] at hat
   simp only at hat
   cases hb:r.blk with
   |none=>rw [hb] at hat; cases hat
   |some b'=>
    cases hpa:bG (.dyn t0) pa with
    |none=>rw [hb,hpa] at hat; cases hat
    |some ou=>
     rw [hb,hpa] at hat
     simp only [Option.some.injEq,Prod.mk.injEq] at hat
     obtain ⟨rfl,_⟩:=hat
     exact ⟨k,r,hr,hb⟩
theorem JZ {q:Tk} {t0:Ty} {l:List (Nat×List t0.den)} {x:DV} {pa:Path} {b off:Nat} {t:Ty} (hd:aI w I tk q ⟨.pool t0,l⟩) (hat:q.at pa=some (b,off,t)) (hg:iI (.pool t0) l pa=some x) (hin:q.pin pa) (hx:x.1.bL=false):
  ∃ (k:Nat) (r:RTk) (cs:List Value),q.rows[k]?=some r∧r.blk=some b∧t=x.1.frz∧Blk w b r.tid cs∧off+x.1.size≤cs.length∧ai w I tk x.1 x.2 ((cs.drop off).take x.1.size):=by
 obtain ⟨h1,hp,_,hlen,_,hrow⟩:=hd
 have hfr:=Ty.eZ hp
 unfold Tk.at at hat
 unfold Tk.pin at hin
 rw [h1] at hat hin
 simp only at hat hin
 cases pa with
 |nil=>simp [Tk.at2] at hat
 |cons s pa=>
  cases s<;>simp only [Tk.at2,reduceCtorEq] at hat
  rename_i k
  obtain ⟨r,hr,hin⟩:=hin
  rw [hr] at hat
  simp only at hat
  cases hb:r.blk with
  |none=>rw [hb] at hat; cases hat
  |some b'=>
   cases hpa:bG (.dyn t0) pa with
   |none=>rw [hb,hpa] at hat; cases hat
   |some ou=>
    obtain ⟨o,u⟩:=ou
    rw [hb,hpa] at hat
    simp only [Option.some.injEq,Prod.mk.injEq] at hat
    obtain ⟨rfl,rfl,rfl⟩:=hat
    have hk:k<l.length:=by rw [← hlen]; exact (List.getElem?_eq_some_iff.1 hr).1
    obtain ⟨g1,g2,g3⟩:=hrow k r _ hr (List.getElem?_eq_getElem hk)
    simp only [iI] at hg
    have hD:List.getD l k (0,[])=l[k]:=by rw [List.getD_eq_getElem?_getD,List.getElem?_eq_getElem hk]; rfl
    rw [hD] at hg
    rcases g3 with ⟨g3,_⟩|⟨b2,e1,e2,e3⟩
    ·rw [hb] at g3; cases g3
    ·rw [hb] at e1; cases e1
     obtain ⟨o',cs,f1,f2,f3,f4⟩:=Nn e3 g2 hg (by rw [hfr,← g1]; exact hin) hx
     rw [hfr,hpa] at f1
     simp only [Option.some.injEq,Prod.mk.injEq] at f1
     obtain ⟨rfl,rfl⟩:=f1
     exact ⟨k,r,cs,hr,hb,rfl,f2,f3,f4⟩
end Go.Own
set_option linter.unusedVariables false
namespace Go.Own
variable {C:Cx} {P:Program} {E:Env} {w w':World} {I I':Nat→Prop} {st sv:St} {tm:Array Value} {tk tk':aU} {ds:List Deferred} {o:Oper} {e:Ef}
theorem DF {n d j:Nat} (hn:n≤900000) (hd:d<n):d≠site j:=by unfold site; omega
theorem oG.of {q:Tk} (ht:q.ty.bL=false) (h:fO P q.tid q.ty):oG P q:=by
 unfold oG
 split
 ·rename_i e; rw [e] at ht; cases ht
 ·trivial
 ·rename_i e; rw [e] at ht; cases ht
 ·exact h
theorem Nz {t:Ty} (h:t.bL=false):t.fD=false:=by cases t<;>first|rfl|cases h
theorem Inv.newAt (h:Inv C st tm w I tk) {d:Nat} (hd:d<st.sl.length) {x:DV} (hno:d∉mentions x.1) {q:Tk} {ob:Obj} (hq:q.blk=some w.heap.size) (hrw:q.rows= []) (hty:oG C.P q)
  (hr:aI (w.alloc ob) I tk q x):Inv C ((st.kill d).gI d x) tm (w.alloc ob) I (tk.upd d q):=by
 have h1:=(h.kill d).grow (lg.alloc w ob)
 refine h1.xW (fun j=>DF h.small hd) (pE st d) hno ?_ (fun _ _=>hty) hr
 intro b hb
 rw [Tk.uT hrw,hq] at hb; cases hb
 refine ⟨.inl h.size,by simp,fun hI=>absurd (h.ilt _ hI) (Nat.lt_irrefl _),fun s' q' _ hs' hb'=>absurd (h.tokLt s' q' _ hs' hb') (Nat.lt_irrefl _)⟩
theorem Inv.newVar (h:Inv C st tm w I tk) {d:Nat} (hd:d<st.sl.length) {x:DV} (hx:x.1.bL=false) (hfx:x.1.frz.bL=false) (hno:d∉mentions x.1) {c:Array Value} {T:TypeId} (hT:fO C.P T x.1.frz) (hc:ai w I tk x.1 x.2 c.toList):
  ∃ tk',Inv C (aN (kQ d x) st) tm (w.alloc (.cells c T)) I tk'∧mU tk' d x.1.frz [] (.pointer (some ⟨w.heap.size,0,none⟩)):=by
 have hg:=lg.alloc w (.cells c T)
 have hc':ai (w.alloc (.cells c T)) I tk x.1 x.2 c.toList:=hc.mono (fun _ hb=>hb) (fun b hb=>hg.block b (h.ilt b hb)) (aU.le.refl _)
 have hr:aI (w.alloc (.cells c T)) I tk ⟨some w.heap.size,0,none,0,0,x.1.frz,T,[]⟩ x:=
  (aI.str (t:=x.1) (x:=x.2) hx).2 ⟨rfl,rfl,w.heap.size,c.toList,rfl,Blk.alloc w c T,hc'⟩
 refine ⟨_,h.newAt hd hno rfl rfl (oG.of hfx hT) hr,⟨_,w.heap.size,0,upd_same _ _ _,?_,?_,rfl⟩⟩
 ·rw [Tk.Bp (Nz hfx)]; simp [Tk.at1,fK]
 ·rw [Tk.oL (Nz hfx)]; cases x.1.frz<;>trivial
theorem Ql {x:Operand} (hV:View sv st) (h:Inv C st tm w I tk) (hd:∀ d,o.dst=some d→d<st.sl.length) (ho:o.op= .move x) (hf:opP E o sv=some (true,e)):
  aV C o ds (e.run o.dst st) tm w:=by
 simp only [opP,ho,Option.some.injEq,Prod.mk.injEq,true_and] at hf
 subst hf
 exact aV.v h hd (by simp [execOp,ho]) (fe (ds:=ds) hV h x)
theorem Lc {x:Operand} (hV:View sv st) (h:Inv C st tm w I tk) (hd:∀ d,o.dst=some d→d<st.sl.length) (ho:o.op= .assign x) (hf:opP E o sv=some (true,e)):
  aV C o ds (e.run o.dst st) tm w:=by
 have hx:=fe (ds:=ds) hV h x
 have hr:(execOp (Act.eval ⟨tm,ds⟩) o).run C.P w= .ok (.value (Act.eval ⟨tm,ds⟩ x)) w:=by simp [execOp,ho]
 simp only [opP,ho] at hf
 split at hf
 ·rename_i e1
  rw [e1] at hx
  split at hf
  ·rename_i d hd'
   simp only [Option.some.injEq,Prod.mk.injEq,true_and] at hf; subst hf
   obtain ⟨h1,h2⟩:=jR hx hd'
   exact aV.v (v:= .p d) h hd hr ⟨h1,h2⟩
  ·cases hf
 ·simp only [Option.some.injEq,Prod.mk.injEq,true_and] at hf; subst hf
  exact aV.v h hd hr hx
theorem nT {v:SV} {b:Bool} (h:Bh v=some b):v= .p ⟨.bool,b⟩:=by
 unfold Bh at h
 split at h
 ·cases h; rfl
 ·cases h
theorem Qk {c a b:Operand} (hV:View sv st) (h:Inv C st tm w I tk) (hd:∀ d,o.dst=some d→d<st.sl.length) (ho:o.op= .pick c a b) (hf:opP E o sv=some (true,e)):
  aV C o ds (e.run o.dst st) tm w:=by
 have hc:=fe (ds:=ds) hV h c
 have ha:=fe (ds:=ds) hV h a
 have hb:=fe (ds:=ds) hV h b
 simp only [opP,ho] at hf
 split at hf
 ·rename_i q d hp
  simp only [Option.some.injEq,Prod.mk.injEq] at hf; obtain ⟨rfl,rfl⟩:=hf
  unfold Rt at hp
  split at hp
  ·rename_i c' x y e1 e2 e3
   rw [nT e1] at hc; rw [nT e2] at ha; rw [nT e3] at hb
   simp only [Option.some.injEq,Prod.mk.injEq,true_and] at hp; subst hp
   refine aV.v (x:= .bool (bif c' then x else y)) h hd ?_ (bO.2 rfl)
   simp only [execOp,ho,bO.1 hc,asBool,Sem.run_bind,Sem.run_pure,Result.andThen_ok,bO.1 ha,bO.1 hb]
   cases c'<;>rfl
  ·rename_i c' x e1 e2 _
   rw [nT e1] at hc; rw [nT e2] at ha
   simp only [Option.some.injEq,Prod.mk.injEq] at hp; obtain ⟨rfl,rfl⟩:=hp
   refine aV.v (x:= .bool x) h hd ?_ (bO.2 rfl)
   simp only [execOp,ho,bO.1 hc,asBool,Sem.run_bind,Sem.run_pure,Result.andThen_ok,bO.1 ha,if_true]
  ·rename_i c' y e1 _ e3
   rw [nT e1] at hc; rw [nT e3] at hb
   simp only [Option.some.injEq,Prod.mk.injEq,Bool.not_eq_true'] at hp; obtain ⟨rfl,rfl⟩:=hp
   refine aV.v (x:= .bool y) h hd ?_ (bO.2 rfl)
   simp only [execOp,ho,bO.1 hc,asBool,Sem.run_bind,Sem.run_pure,Result.andThen_ok,bO.1 hb,Bool.false_eq_true,if_false]
  ·cases hp
 ·cases hf
theorem Nw {op:BinOp} {T T':TypeId} {x y:Operand} (hE:eD C.P E) (hV:View sv st) (h:Inv C st tm w I tk) (hd:∀ d,o.dst=some d→d<st.sl.length) (ho:o.op= .binOp op T x y T') (hf:opP E o sv=some (true,e)):
  aV C o ds (e.run o.dst st) tm w:=by
 have hx:=fe (ds:=ds) hV h x
 have hy:=fe (ds:=ds) hV h y
 simp only [opP,ho] at hf
 split at hf
 ·rename_i c d hb
  simp only [Option.some.injEq,Prod.mk.injEq] at hf; obtain ⟨rfl,rfl⟩:=hf
  obtain ⟨v,hv,hr⟩:=G9 hE hV h x y hx hy hb
  refine aV.v h hd ?_ hr
  simp only [execOp,ho]
  rw [Sem.run_bind,hv]; rfl
 ·cases hf
theorem Qj {op:UnOp} {T:TypeId} {x:Operand} (hV:View sv st) (h:Inv C st tm w I tk) (hd:∀ d,o.dst=some d→d<st.sl.length) (ho:o.op= .unOp op T x) (hf:opP E o sv=some (true,e)):
  aV C o ds (e.run o.dst st) tm w:=by
 have hx:=fe (ds:=ds) hV h x
 simp only [opP,ho] at hf
 split at hf
 ·rename_i d hu
  simp only [Option.some.injEq,Prod.mk.injEq,true_and] at hf; subst hf
  unfold unop at hu
  split at hu
  ·rename_i k n e
   rw [e] at hx
   have e1:=dF.1 hx
   split at hu
   ·simp only [Option.some.injEq] at hu; subst hu
    refine aV.v (x:= .int k (k.wrap (0 - n))) h hd ?_ (dF.2 rfl)
    simp only [execOp,ho,e1,Op.unary,Op.intArith,Sem.run_bind,Sem.run_pure,Result.andThen_ok]
   ·simp only [Option.some.injEq] at hu; subst hu
    refine aV.v (x:= .int k (eU k (· ^^^ ·) (if k.signed then -1 else k.max) n)) h hd ?_ (dF.2 rfl)
    simp only [execOp,ho,e1,Op.unary,Op.intBits,Sem.run_bind,Sem.run_pure,Result.andThen_ok,eU]
   ·cases hu
  ·rename_i b e
   rw [e] at hx
   have e1:=bO.1 hx
   split at hu
   ·simp only [Option.some.injEq] at hu; subst hu
    refine aV.v (x:= .bool (!b)) h hd ?_ (bO.2 rfl)
    simp only [execOp,ho,e1,Op.unary,Sem.run_bind,Sem.run_pure,Result.andThen_ok]
   ·cases hu
  ·cases hu
 ·cases hf
theorem IB {i j:Nat} (hV:View sv st) (h:Inv C st tm w I tk) (hd:∀ d,o.dst=some d→d<st.sl.length) (ho:o.op= .extract (.tmp i) j) (hf:opP E o sv=some (true,e)):
  aV C o ds (e.run o.dst st) tm w:=by
 simp only [opP,ho] at hf
 split at hf
 ·rename_i l hl
  have hr:=hV.rep h i
  rw [hl] at hr
  obtain ⟨vs,e1,hlen,hc⟩:=hr
  split at hf
  ·rename_i v hj
   simp only [Option.some.injEq,Prod.mk.injEq,true_and] at hf; subst hf
   have hjl:j<vs.size:=by
    have:=(List.getElem?_eq_some_iff.1 hj).1; omega
   have hv:vs[j]?=some vs[j]:=by simp [hjl]
   refine aV.v h hd ?_ (bf.of1 (hc j _ _ hj hv))
   have e':Act.eval ⟨tm,ds⟩ (.tmp i)= .tuple vs:=e1
   simp only [execOp,ho,e',Instr.extract,hv,Sem.run_bind,Sem.run_pure,Result.andThen_ok]
  ·cases hf
 ·cases hf
theorem FU {x:Operand} (hV:View sv st) (h:Inv C st tm w I tk) (hd:∀ d,o.dst=some d→d<st.sl.length) (ho:o.op= .nilCheck x) (hf:opP E o sv=some (true,e)):
  aV C o ds (e.run o.dst st) tm w:=by
 have hx:=fe (ds:=ds) hV h x
 simp only [opP,ho] at hf
 split at hf
 ·rename_i s t pa e1
  rw [e1] at hx
  simp only [Option.some.injEq,Prod.mk.injEq,true_and] at hf; subst hf
  have hx0:=hx
  obtain ⟨_,b,off,_,_,_,e2⟩:=hx
  exact aV.v h hd (by simp [execOp,ho,e2]) (e2 ▸ hx0)
 ·rename_i s k v e1
  rw [e1] at hx
  simp only [Option.some.injEq,Prod.mk.injEq,true_and] at hf; subst hf
  have hx0:=hx
  obtain ⟨_,b,_,_,_,e2⟩:=hx
  exact aV.v h hd (by simp [execOp,ho,e2]) (e2 ▸ hx0)
 ·rename_i f caps e1
  rw [e1] at hx
  simp only [Option.some.injEq,Prod.mk.injEq,true_and] at hf; subst hf
  have hx0:=hx
  obtain ⟨vs,e2,_⟩:=hx
  exact aV.v h hd (by simp [execOp,ho,e2]) (e2 ▸ hx0)
 ·simp at hf
 ·rename_i t r e1
  rw [e1] at hx
  simp only [Option.some.injEq,Prod.mk.injEq] at hf; obtain ⟨hr,rfl⟩:=hf
  cases r with
  |none=>cases hr
  |some y=>
   have hx0:=hx
   have hr:=hx.p
   simp only [aA,Ty.isAgg,Bool.false_eq_true,if_false,ai] at hr
   obtain ⟨_,b,off,c,e2,_⟩:=hr
   simp only [List.cons.injEq,and_true] at e2
   exact aV.v h hd (by simp [execOp,ho,e2]) (e2 ▸ hx0)
 ·cases hf
theorem Mj {T:TypeId} {t:Ty} (h:fO P T t) (w:World):∃ z,(zeroValue T).run P w= .ok z w∧z.cells.toList=t.fJ:=by
 obtain ⟨i,z,hi,hz,hc⟩:=h.base.zero
 exact ⟨z,by simp [zeroValue,typeInfo,hi,hz],hc⟩
theorem dZ:∀ {t:Ty},t.plain=true→ai w I tk t t.dflt t.fJ:=by
 intro t
 induction t with
 |pair a b iha ihb=>
  intro hp
  simp only [Ty.plain,Bool.and_eq_true] at hp
  exact ⟨_,_,rfl,iha hp.1,ihb hp.2⟩
 |arr n t ih=>
  intro hp
  have ih:=ih hp
  have hl:=ih.length
  refine ⟨by simp [Ty.dflt],by simp [Ty.fJ,hl],fun i x hx=> ?_⟩
  simp only [Ty.dflt,List.getElem?_replicate] at hx
  split at hx
  ·rename_i hi
   cases hx
   have:(((List.replicate n t.fJ).flatten).drop (i*t.size)).take t.size=t.fJ:=by
    have hr:List.replicate n t.fJ=List.replicate i t.fJ++t.fJ::List.replicate (n - i - 1) t.fJ:=by
     have h2:t.fJ::List.replicate (n - i - 1) t.fJ=List.replicate (n - i) t.fJ:=by
      rw [← List.replicate_succ]; congr 1; omega
     rw [h2,List.replicate_append_replicate]; congr 1; omega
    rw [hr,List.flatten_append,List.flatten_cons]
    have h1:(List.replicate i t.fJ).flatten.length=i*t.size:=by simp [hl]
    rw [← h1,List.drop_left,← hl,List.take_left]
   simp only [Ty.fJ]
   rw [this]; exact ih
  ·cases hx
 |sl t=>intro hp; exact ⟨none,0,rfl,Nat.le_refl _,.inl rfl⟩
 |ref t=>intro hp; exact rfl
 |int k=>intro hp; exact rfl
 |bool=>intro hp; exact rfl
 |str=>intro hp; exact rfl
 |flt=>intro hp; exact rfl
 |unit=>intro hp; exact rfl
 |eos u=>intro hp; exact rfl
 |nif=>intro hp; exact rfl
 |slf=>intro hp; exact rfl
 |_=>intro hp; cases hp
theorem Rn:∀ {t:Ty},t.zok=true→ai w I tk t.z t.z.dflt t.fJ∧t.z.bL=false∧mentions t.z= []∧t.z.frz=t.frz:=by
 have pz:∀ {t:Ty},t.plain=true→(ai w I tk t t.dflt t.fJ∧t.bL=false∧mentions t= []∧t.frz=t.frz):=by
  intro t hp
  refine ⟨dZ hp,(by cases t<;>first|rfl|cases hp),?_,rfl⟩
  have:∀ {t:Ty},t.plain=true→mentions t= []:=by
   intro t
   induction t with
   |pair a b iha ihb=>intro hp; simp only [Ty.plain,Bool.and_eq_true] at hp; simp [mentions,iha hp.1,ihb hp.2]
   |arr n t ih=>intro hp; exact ih hp
   |_=>intro hp; first|rfl|cases hp
  exact this hp
 intro t
 induction t with
 |pair a b iha ihb=>
  intro hz
  simp only [Ty.zok,Bool.and_eq_true] at hz
  obtain ⟨a1,a2,a3,a4⟩:=iha hz.1
  obtain ⟨b1,b2,b3,b4⟩:=ihb hz.2
  exact ⟨⟨_,_,rfl,a1,b1⟩,rfl,by simp [Ty.z,mentions,a3,b3],by simp only [Ty.z,Ty.frz,a4,b4]⟩
 |arr n t ih=>
  intro hz
  exact pz (t:= .arr n t) hz
 |mp s k v=>
  intro hz
  exact ⟨rfl,rfl,rfl,rfl⟩
 |sl t ih=>intro hz; exact ⟨rfl,rfl,rfl,rfl⟩
 |int k=>intro hz; exact pz (t:= .int k) hz
 |bool=>intro hz; exact pz (t:= .bool) hz
 |str=>intro hz; exact pz (t:= .str) hz
 |flt=>intro hz; exact pz (t:= .flt) hz
 |unit=>intro hz; exact pz (t:= .unit) hz
 |eos u=>intro hz; exact pz (t:= .eos u) hz
 |ref t ih=>intro hz; exact pz (t:= .ref t) hz
 |nif=>intro hz; exact pz (t:= .nif) hz
 |slf=>intro hz; exact pz (t:= .slf) hz
 |_=>intro hz; cases hz
theorem Ny {T:TypeId} (hE:eD C.P E) (hV:View sv st) (h:Inv C st tm w I tk) (hd:∀ d,o.dst=some d→d<st.sl.length) (ho:o.op= .alloc T) (hf:opP E o sv=some (true,e)):
  aV C o ds (e.run o.dst st) tm w:=by
 simp only [opP,ho] at hf
 split at hf
 ·rename_i t d hT hod
  cases hz:t.zok with
  |false=>rw [hz] at hf; cases hf
  |true=>
   rw [hz] at hf
   simp only [cond_true,Option.some.injEq,Prod.mk.injEq,true_and] at hf; subst hf
   have hA:=hE.ty T t hT
   obtain ⟨z,hz1,hz2⟩:=Mj hA w
   obtain ⟨h1,h2,h3,h4⟩:=Rn (w:=w) (I:=I) (tk:=tk) hz
   rw [← hz2] at h1
   have hfr:t.z.frz=t:=by rw [h4]; exact hA.frz
   have htop:t.bL=false:=by cases t<;>first|rfl|cases hz
   obtain ⟨tk',h5,h6⟩:=h.newVar (hd d hod) (x:=⟨t.z,t.z.dflt⟩) (T:=T) h2 (by show t.z.frz.bL=false; rw [hfr]; exact htop) (by show d∉mentions t.z; rw [h3]; exact List.not_mem_nil) (by show fO C.P T t.z.frz; rw [hfr]; exact hA) h1
   have h6':mU tk' d t [] (.pointer (some ⟨w.heap.size,0,none⟩)):=by have:=h6; simp only [hfr] at this; exact this
   refine aV.of (I':=I) (tk':=tk') ?_ h5 (fun d' hd'=>by rw [dm]; exact hd d' hd') h6'
   simp only [execOp,ho,Instr.alloc,Sem.run_bind,hz1,Result.andThen_ok]
   rfl
 ·cases hf
end Go.Own
set_option linter.unusedVariables false
namespace Go.Own
variable {C:Cx} {P:Program} {E:Env} {w w':World} {I I':Nat→Prop} {st sv:St} {tm:Array Value} {tk tk':aU} {ds:List Deferred} {o:Oper} {e:Ef}
theorem Tk.OI {k:Tk} {pa:Path} {b off:Nat} {t:Ty} (h:k.at1 pa=some (b,off,t)):∃ q,k.blk=some b∧bG k.ty pa=some (q,t)∧off=k.off+q:=by
 unfold Tk.at1 at h
 cases hq:k.blk with
 |none=>simp [hq] at h
 |some b'=>
  cases hp:bG k.ty pa with
  |none=>simp [hq,hp] at h
  |some p=>
   obtain ⟨q,t'⟩:=p
   simp only [hq,hp,Option.some.injEq,Prod.mk.injEq] at h
   obtain ⟨rfl,rfl,rfl⟩:=h
   exact ⟨q,rfl,rfl,rfl⟩
theorem Tk.ol {k:Tk} {pa:Path} {b off:Nat} {t:Ty} (hn:k.ty.fD=false) (h:k.at pa=some (b,off,t)):∃ q,k.blk=some b∧bG k.ty pa=some (q,t)∧off=k.off+q:=
 Tk.OI (by rw [← Tk.Bp hn]; exact h)
theorem Tk.KA {k:Tk} {pa:Path} {b q:Nat} {t:Ty} (hn:k.ty.fD=false) (h1:k.blk=some b) (h2:bG k.ty pa=some (q,t)):k.at pa=some (b,k.off+q,t):=by
 rw [Tk.Bp hn]
 simp [Tk.at1,h1,h2]
theorem Tk.yD {k:Tk} {pa qa:Path} {b off o2:Nat} {t u:Ty} (h1:k.at pa=some (b,off,t)) (h2:bG t qa=some (o2,u)):k.at (pa++qa)=some (b,off+o2,u):=by
 cases hn:k.ty.fD with
 |false=>
  obtain ⟨q,g1,g2,rfl⟩:=Tk.ol hn h1
  rw [Tk.KA hn g1 (vC g2 h2),Nat.add_assoc]
 |true=>
  unfold Tk.at at h1 ⊢
  split at h1
  ·rename_i t0 e0
   cases pa with
   |nil=>cases h1
   |cons s pa=>
    cases s<;>simp only [Tk.at2,reduceCtorEq] at h1
    rename_i i
    simp only [List.cons_append,Tk.at2]
    cases hr:k.rows[i]? with
    |none=>rw [hr] at h1; cases h1
    |some r=>
     rw [hr] at h1
     simp only at h1 ⊢
     cases hb:r.blk with
     |none=>rw [hb] at h1; cases h1
     |some b'=>
      cases hpa:bG (.dyn t0) pa with
      |none=>rw [hb,hpa] at h1; cases h1
      |some ou=>
       obtain ⟨o,v⟩:=ou
       rw [hb,hpa] at h1
       simp only [Option.some.injEq,Prod.mk.injEq] at h1
       obtain ⟨rfl,rfl,rfl⟩:=h1
       rw [vC hpa h2]
       simp only [Nat.add_assoc]
  ·rename_i hne
   cases e:k.ty<;>rw [e] at hn<;>first|cases hn; done|exact absurd e (hne _)
theorem Tk.vN {k:Tk} {pa qa:Path} {b off:Nat} {t:Ty} (h1:k.at pa=some (b,off,t)) (h2:k.pin pa) (h3:∀ n,pathIn n t qa):k.pin (pa++qa):=by
 cases hn:k.ty.fD with
 |false=>
  obtain ⟨q,g1,g2,rfl⟩:=Tk.ol hn h1
  rw [Tk.oL hn] at h2 ⊢
  exact vB _ g2 h2 (h3 _)
 |true=>
  unfold Tk.at at h1
  unfold Tk.pin at h2 ⊢
  split at h1
  ·rename_i t0 e0
   rw [e0] at h2
   cases pa with
   |nil=>cases h1
   |cons s pa=>
    cases s<;>simp only [Tk.at2,reduceCtorEq] at h1
    rename_i i
    simp only [List.cons_append]
    obtain ⟨r,hr,hp⟩:=h2
    rw [hr] at h1
    simp only at h1
    cases hb:r.blk with
    |none=>rw [hb] at h1; cases h1
    |some b'=>
     cases hpa:bG (.dyn t0) pa with
     |none=>rw [hb,hpa] at h1; cases h1
     |some ou=>
      obtain ⟨o,v⟩:=ou
      rw [hb,hpa] at h1
      simp only [Option.some.injEq,Prod.mk.injEq] at h1
      obtain ⟨rfl,rfl,rfl⟩:=h1
      exact ⟨r,hr,vB _ hpa hp (h3 _)⟩
  ·rename_i hne
   cases e:k.ty<;>rw [e] at hn<;>first|cases hn; done|exact absurd e (hne _)
theorem SS {q:Tk} {d x:DV} {pa:Path} {b off:Nat} {t:Ty} (hd:aI w I tk q d) (hat:q.at pa=some (b,off,t)) (hg:iI d.1 d.2 pa=some x) (hin:q.pin pa) (hx:x.1.bL=false):
  ∃ e cs,t=x.1.frz∧Blk w b e cs∧off+x.1.size≤cs.length∧ai w I tk x.1 x.2 ((cs.drop off).take x.1.size):=by
 cases hp:d.1.fD with
 |false=>
  have hn:=hd.np hp
  obtain ⟨q,h4,h5,rfl⟩:=Tk.ol hn hat
  rw [Tk.oL hn] at hin
  obtain ⟨off,cs,e1,e2,e3,e4⟩:=Ju hd h4 hg hin hx
  rw [h5] at e1
  simp only [Option.some.injEq,Prod.mk.injEq] at e1
  obtain ⟨rfl,e1⟩:=e1
  exact ⟨_,cs,e1,e2,by omega,e4⟩
 |true=>
  obtain ⟨dt,dx⟩:=d
  cases dt<;>first|cases hp; done|skip
  obtain ⟨i,r,cs,f1,f2,f3,f4,f5,f6⟩:=JZ hd hat hg hin hx
  exact ⟨_,cs,f3,f4,f5,f6⟩
theorem Ni (hV:View sv st) (h:Inv C st tm w I tk) {s:Nat} {t:Ty} {pa:Path} {v:Value} {d x:DV} (hv:mU tk s t pa v) (hb:sv.box s=some d) (hg:iI d.1 d.2 pa=some x) (hx:x.1.bL=false):
  ∃ k b off cs e,tk s=some k∧k.own b∧aI w I tk k d∧v= .pointer (some ⟨b,off,none⟩)∧t=x.1.frz∧Blk w b e cs∧off+x.1.size≤cs.length∧ai w I tk x.1 x.2 ((cs.drop off).take x.1.size)∧k.pin pa∧k.at pa=some (b,off,t):=by
 obtain ⟨k,b,off,h1,h2,h3,rfl⟩:=hv
 obtain ⟨k',h6,h7⟩:=h.boxes s d (hV.box s d hb)
 rw [h1] at h6; cases h6
 cases hp:d.1.fD with
 |false=>
  have hn:=h7.np hp
  obtain ⟨q,h4,h5,rfl⟩:=Tk.ol hn h2
  have h3':=h3
  rw [Tk.oL hn] at h3'
  obtain ⟨off,cs,e1,e2,e3,e4⟩:=Ju h7 h4 hg h3' hx
  rw [h5] at e1
  simp only [Option.some.injEq,Prod.mk.injEq] at e1
  obtain ⟨rfl,e1⟩:=e1
  exact ⟨k,b,k.off+q,cs,_,h1,.inl h4,h7,rfl,e1,e2,by omega,e4,h3,h2⟩
 |true=>
  obtain ⟨dt,dx⟩:=d
  cases dt<;>first|cases hp; done|skip
  obtain ⟨i,r,cs,f1,f2,f3,f4,f5,f6⟩:=JZ h7 h2 hg h3 hx
  exact ⟨k,b,off,cs,_,h1,Tk.uS f1 f2,h7,rfl,f3,f4,f5,f6,h3,h2⟩
theorem Gb {T:TypeId} {v:Value} {b off:Nat} (hv:v= .pointer (some ⟨b,off,none⟩)) {u:Value} (h:(loadVar T ⟨b,off,none⟩).run P w= .ok u w):(Instr.loadAt T v).run P w= .ok u w:=by
 subst hv
 simp only [Instr.loadAt,Instr.sureAddr,Sem.run_bind,Sem.run_pure,Result.andThen_ok,h]
theorem yS (hE:eD C.P E) (hV:View sv st) (h:Inv C st tm w I tk) {s:SV} {v:Value} {t:Ty} {r:SV} {T:TypeId} (hs:bf w I tk s v) (hl:Kg sv s=some (t,r)) (hT:fO C.P T t):
  ∃ u,(Instr.loadAt T v).run C.P w= .ok u w∧bf w I tk r u:=by
 unfold Kg at hl
 split at hl
 ·rename_i q t0 pa
  split at hl
  ·rename_i b hb
   split at hl
   ·rename_i d hg
    obtain ⟨r',h1,h2⟩:=Option.map_eq_some_iff.1 hl
    cases h2
    have htop:d.1.bL=false:=by
     cases ht:d.1.bL with
     |false=>rfl
     |true=>
      exfalso
      unfold vP at h1
      split at h1
      ·cases ht
      ·cases ht
      ·cases ht
      ·cases ht
      ·cases h1
      ·rw [ht] at h1; cases h1
    obtain ⟨k,b',off,cs,_,e1,e2,e3,e4,e5,e6,e7,e8,e9,_⟩:=Ni hV h hs hb hg htop
    obtain ⟨u,hu,hr⟩:=yR (P:=C.P) (T:=T) hT e8 (yY e6)
    exact ⟨u,Gb e4 hu,wO hr h1⟩
   ·cases hl
  ·cases hl
 ·rename_i t0 x
  cases hl
  have hr:=hs.p
  have hp:=hs.pl
  simp only [aA,Ty.isAgg,Bool.false_eq_true,if_false,ai] at hr
  obtain ⟨_,b,off,c,e,_,hc,ha⟩:=hr
  simp only [List.cons.injEq,and_true] at e
  obtain ⟨u,hu,hr⟩:=yR (P:=C.P) (T:=T) (t:=t) (hT.frz.symm ▸ hT) hc ha
  exact ⟨u,Gb e hu,hp,hr⟩
 ·cases hl
theorem Qm {T:TypeId} {x:Operand} (hE:eD C.P E) (hV:View sv st) (h:Inv C st tm w I tk) (hd:∀ d,o.dst=some d→d<st.sl.length) (ho:o.op= .load T x) (hf:opP E o sv=some (true,e)):
  aV C o ds (e.run o.dst st) tm w:=by
 have hx:=fe (ds:=ds) hV h x
 simp only [opP,ho] at hf
 split at hf
 ·rename_i t v hl
  cases hT:E.isT T t with
  |false=>rw [hT] at hf; cases hf
  |true=>
   rw [hT] at hf
   simp only [cond_true,Option.some.injEq,Prod.mk.injEq,true_and] at hf; subst hf
   obtain ⟨u,hu,hr⟩:=yS hE hV h hx hl (vT hE hT)
   refine aV.v h hd ?_ hr
   simp only [execOp,ho]
   rw [Sem.run_bind,hu]; rfl
 ·cases hf
theorem Sj {T:TypeId} {x:Operand} (hE:eD C.P E) (hV:View sv st) (h:Inv C st tm w I tk) (hd:∀ d,o.dst=some d→d<st.sl.length) (ho:o.op= .box T x) (hf:opP E o sv=some (true,e)):
  aV C o ds (e.run o.dst st) tm w:=by
 have hx:=fe (ds:=ds) hV h x
 have hr:(execOp (Act.eval ⟨tm,ds⟩) o).run C.P w= .ok (.value (.pointer (some ⟨w.heap.size,0,none⟩))) (w.alloc (.cells (Act.eval ⟨tm,ds⟩ x).cells T)):=by
  simp only [execOp,ho,Instr.box,Sem.run_bind]
  rfl
 simp only [opP,ho] at hf
 split at hf
 ·rename_i d t hod hT
  have hA:=hE.ty T t hT
  have ttop:t.bL=false:=by cases t<;>first|rfl|exact hA.elim
  split at hf
  ·rename_i v hv
   cases hc:(decide (v.1.frz=t)&&v.1.known&& !(mentions v.1).any (Nat.beq d)) with
   |false=>rw [hc] at hf; cases hf
   |true=>
    rw [hc] at hf
    simp only [cond_true,Option.some.injEq,Prod.mk.injEq,true_and] at hf; subst hf
    simp only [Bool.and_eq_true,decide_eq_true_eq,Bool.not_eq_true',List.any_eq_false,Nat.beq_eq] at hc
    obtain ⟨⟨hft,hk⟩,hno⟩:=hc
    obtain ⟨h1,h2⟩:=sD hx hv
    obtain ⟨tk',h5,h6⟩:=h.newVar (hd d hod) (x:=v) (T:=T) h1 (by rw [hft]; exact ttop) (fun hm=>hno d hm rfl) (by rw [hft]; exact hA) (h2.cells hk)
    refine aV.of (I':=I) (tk':=tk') hr h5 (fun d' hd'=>by rw [dm]; exact hd d' hd') ?_
    rw [hft] at h6; exact h6
  ·split at hf
   ·rename_i fs v hv
    cases hc:decide (v.1=t) with
    |false=>rw [hc] at hf; cases hf
    |true=>
     rw [hc] at hf
     simp only [cond_true,Option.some.injEq,Prod.mk.injEq,true_and] at hf; subst hf
     have hvt:=of_decide_eq_true hc
     obtain ⟨I',tk1,hF,hp,hv2⟩:=uw hV h hx hv
     have hno:mentions v.1= []:=by
      have:∀ {t:Ty},t.plain=true→mentions t= []:=by
       intro t
       induction t with
       |pair a b iha ihb=>intro hp; simp only [Ty.plain,Bool.and_eq_true] at hp; simp [mentions,iha hp.1,ihb hp.2]
       |arr n t ih=>intro hp; exact ih hp
       |_=>intro hp; first|rfl|cases hp
      exact this hp
     have hk:v.1.known=true:=by
      have:∀ {t:Ty},t.plain=true→t.known=true:=by
       intro t
       induction t with
       |pair a b iha ihb=>intro hp; simp only [Ty.plain,Bool.and_eq_true] at hp; simp [Ty.known,iha hp.1,ihb hp.2]
       |arr n t ih=>intro hp; exact ih hp
       |_=>intro hp; first|rfl|cases hp
      exact this hp
     have hfr:v.1.frz=t:=by rw [hvt]; exact hA.frz
     obtain ⟨tk',h5,h6⟩:=hF.inv.newVar (by rw [dm]; exact hd d hod) (x:=v) (T:=T) (by rw [hvt]; exact ttop) (by rw [hfr]; exact ttop) (by rw [hno]; exact List.not_mem_nil) (by rw [hfr]; exact hA) (hv2.cells hk)
     rw [← dD] at h5
     refine aV.of (I':=I') (tk':=tk') hr h5 (fun d' hd'=>by rw [dm]; exact hd d' hd') ?_
     rw [hfr] at h6; exact h6
   ·cases hf
 ·cases hf
end Go.Own
