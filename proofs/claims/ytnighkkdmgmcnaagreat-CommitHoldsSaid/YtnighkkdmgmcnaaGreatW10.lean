/- What is proved: the evaluator of the translated code, and that it is sound, part 10. Conditions: those that each theorem names. -/
import Derived.Test.YtnighkkdmgmcnaaGreatW9
import Derived.MapKept
set_option linter.unusedVariables false
set_option linter.unusedSimpArgs false
set_option linter.unusedVariables false
namespace Go.Own
variable {C:Cx} {P:Program} {E:Env} {w w' w2:World} {I I':Nat→Prop} {st sv:St} {tm:Array Value} {tk tk':aU} {ds:List Deferred} {o:Oper} {e:Ef}
end Go.Own
set_option linter.unusedVariables false
namespace Go.Own
variable {C:Cx} {P:Program} {E:Env} {w w' w2:World} {I I':Nat→Prop} {st sv:St} {tm:Array Value} {tk tk':aU} {ds:List Deferred} {o:Oper} {e:Ef}
section
variable {k v:Ty} {kt:TypeId} {key:k.den} {kv:Value}
end
theorem IA {T:TypeId} (hE:eD C.P E) (hV:View sv st) (h:Inv C st tm w I tk) (hd:∀ d,o.dst=some d→d<st.sl.length) (ho:o.op= .makeMap T none) (hf:opP E o sv=some (true,e)):
  aV C o ds (e.run o.dst st) tm w:=by
 simp only [opP,ho] at hf
 cases hf
theorem Lb {T:TypeId} {x i:Operand} {ok:Bool} (hE:eD C.P E) (hV:View sv st) (h:Inv C st tm w I tk) (hd:∀ d,o.dst=some d→d<st.sl.length) (ho:o.op= .lookup T x i ok) (hf:opP E o sv=some (true,e)):
  aV C o ds (e.run o.dst st) tm w:=by
 simp only [opP,ho] at hf
 cases hf
theorem DY {T:TypeId} {m i x:Operand} (hE:eD C.P E) (hV:View sv st) (h:Inv C st tm w I tk) (ho:o.op= .mapUpdate T m i x) (hf:opP E o sv=some (true,e)):
  aV C o ds (e.run o.dst st) tm w:=by
 simp only [opP,ho] at hf
 cases hf
end Go.Own
set_option linter.unusedVariables false
namespace Go.Own
variable {C:Cx} {P:Program} {E:Env} {w w' w2:World} {I I':Nat→Prop} {st sv:St} {tm:Array Value} {tk tk':aU} {ds:List Deferred} {o:Oper} {e:Ef}
theorem CJ {α β:Type} {f:α→β} {l:List α} {x:β} (h:l.map f= [x]):∃ a,l= [a]∧f a=x:=by
 match l,h with
 | [a],h=>exact ⟨a,rfl,by simpa using h⟩
theorem CG {α β:Type} {f:α→β} {l:List α} {x y:β} (h:l.map f= [x,y]):∃ a b,l= [a,b]∧f a=x∧f b=y:=by
 match l,h with
 | [a,b],h=>exact ⟨a,b,rfl,by simpa using h⟩
theorem Lm {α β:Type} {f:α→β} {l:List α} {x:β} {r:List β} (h:l.map f=x::r):∃ a q,l=a::q∧f a=x∧q.map f=r:=by
 match l,h with
 |a::q,h=>simp only [List.map_cons,List.cons.injEq] at h; exact ⟨a,q,rfl,h⟩
theorem Eu {c:Call} {b:Builtin} {ρ:Operand→Value} (ho:o.op= .call c) (hc:c.callee= .builtin b):
  (execOp ρ o).run P w=(builtin b c.argTypes o.type (c.args.map fun| .const _=>true|_=>false) (c.args.map ρ)).run P w:=by
 simp only [execOp,ho,resolve,hc,Sem.run_bind,Sem.run_pure,Result.andThen_ok,invoke]
 rfl
theorem IE {c:Call} {b:Builtin} (hE:eD C.P E) (hV:View sv st) (h:Inv C st tm w I tk) (hd:∀ d,o.dst=some d→d<st.sl.length) (ho:o.op= .call c) (hc:c.callee= .builtin b) (hf:opP E o sv=some (true,e)):
  aV C o ds (e.run o.dst st) tm w:=by
 have hrun:=fun ρ=>Eu (P:=C.P) (w:=w) (ρ:=ρ) ho hc
 simp only [opP,ho,hc] at hf
 have hargs:c.args.map (Act.eval ⟨tm,ds⟩)=(c.args.toList.map (Act.eval ⟨tm,ds⟩)).toArray:=by apply Array.ext'; simp only [Array.toList_map]
 have two:∀ {T T2:TypeId},c.argTypes.toList= [T,T2]→c.argTypes= #[T,T2]:=fun hT=>by
  have:=congrArg List.toArray hT
  simpa using this
 have maxes:∀ (mx:Bool) {a:Operand} {q:List Operand} {d:DV},maxS mx (ev sv a) (q.map (ev sv))=some d→∃ u,((q.map (Act.eval ⟨tm,ds⟩)).foldlM (bif mx then Builtin.max2 else Builtin.min2) (Act.eval ⟨tm,ds⟩ a)).run C.P w= .ok u w∧bf w I tk (.p d) u:=by
  intro mx a q d hm
  exact NF (P:=C.P) mx _ _ _ (q.map (Act.eval ⟨tm,ds⟩)) d hm (fe (ds:=ds) hV h a) (by simp) (fun k s v h1 h2=>by
   rw [List.getElem?_map] at h1 h2
   obtain ⟨z,hz,rfl⟩:=Option.map_eq_some_iff.1 h1
   rw [hz] at h2
   simp only [Option.map_some,Option.some.injEq] at h2; subst h2
   exact fe hV h z)
 unfold GZ at hf
 split at hf
 ·
  rename_i T Ts v hT hv
  obtain ⟨a,ha,rfl⟩:=CJ hv
  split at hf
  ·rename_i d hl
   simp only [Option.some.injEq,Prod.mk.injEq,true_and] at hf; subst hf
   obtain ⟨u,hu,hr⟩:=Ls (R:=o.type) (Ts:=Ts) hE hV h (fe (ds:=ds) hV h a) hl
   refine aV.v h hd (x:=u) ?_ hr
   rw [hrun,hargs,ha]
   have:c.argTypes=(T::Ts).toArray:=by rw [← hT]
   simp only [builtin,this,List.map_cons,List.map_nil]
   rw [Sem.run_bind]
   rw [show (Builtin.len_ (T::Ts).toArray o.type [Act.eval ⟨tm,ds⟩ a].toArray).run C.P w= .ok u w from hu]
   rfl
  ·cases hf
 ·
  rename_i T T2 x y hT hv
  obtain ⟨a,a2,ha,rfl,rfl⟩:=CG hv
  have key:xB E o.dst T (ev sv a) (ev sv a2) sv=some (true,e)→((∃ t,E.T T2=some (.sl t))∨E.T T2=some .str)→aV C o ds (e.run o.dst st) tm w:=by
   intro hf hT2
   obtain ⟨v,w',tk',s,hev,h1,h2,h3⟩:=Hg (ty:=o.type) hE hV h hd (fe (ds:=ds) hV h a) (fe (ds:=ds) hV h a2) hT2 hf
   obtain ⟨ps,ev'⟩:=e
   simp only at hev
   subst hev
   refine aV.of (x:=v) (w':=w') ?_ h2 (fun d' hd'=>by rw [dm]; exact hd d' hd') h3
   rw [hrun,hargs,ha]
   simp only [builtin,two hT,List.map_cons,List.map_nil]
   rw [Sem.run_bind]
   rw [show (Builtin.append_ #[T,T2] o.type [Act.eval ⟨tm,ds⟩ a,Act.eval ⟨tm,ds⟩ a2].toArray).run C.P w= .ok v w' from h1]
   rfl
  split at hf
  ·rename_i t e; exact key hf (.inl ⟨t,e⟩)
  ·rename_i e; exact key hf (.inr e)
  ·rename_i k2 hT2
   split at hf
   ·rename_i k n hy
    obtain ⟨v,w',tk',s,hev,h1,h2,h3⟩:=Ew (k:=k) (ty:=o.type) hE hV h hd (fe (ds:=ds) hV h a) hT2 hf
    obtain ⟨ps,ev'⟩:=e
    simp only at hev
    subst hev
    have hx:=fe (ds:=ds) hV h a2
    rw [hy] at hx
    have hx:=dF.1 hx
    refine aV.of (x:=v) (w':=w') ?_ h2 (fun d' hd'=>by rw [dm]; exact hd d' hd') h3
    rw [hrun,hargs,ha]
    simp only [builtin,two hT,List.map_cons,List.map_nil]
    rw [Sem.run_bind,hx]
    rw [show (Builtin.append_ #[T,T2] o.type [Act.eval ⟨tm,ds⟩ a,.int k n].toArray).run C.P w= .ok v w' from h1]
    rfl
   ·cases hf
  ·cases hf
 ·
  rename_i T T2 x y hT hv
  obtain ⟨a,a2,ha,rfl,rfl⟩:=CG hv
  split at hf
  ·rename_i u ys hm
   cases hq:(E.isT T (.sl u)&&u.plain) with
   |false=>rw [hq] at hf; cases hf
   |true=>
   rw [hq] at hf
   simp only [cond_true] at hf
   simp only [Bool.and_eq_true] at hq
   split at hf
   ·rename_i n ps hov
    simp only [Option.some.injEq,Prod.mk.injEq,true_and] at hf; subst hf
    obtain ⟨w',h1,h2⟩:=LV (T2:=T2) (ty:=o.type) hE hV h (fe (ds:=ds) hV h a) (fe (ds:=ds) hV h a2) hq.1 hq.2 hm hov
    refine aV.of (x:=goInt ((min n ys.length:Nat):Int)) (w':=w') ?_ h2 (fun d' hd'=>by rw [dm]; exact hd d' hd') (dF.2 rfl)
    rw [hrun,hargs,ha]
    simp only [builtin,two hT,List.map_cons,List.map_nil]
    rw [Sem.run_bind]
    rw [show (Builtin.copy_ #[T,T2] o.type [Act.eval ⟨tm,ds⟩ a,Act.eval ⟨tm,ds⟩ a2].toArray).run C.P w=_ from h1]
    rfl
   ·cases hf
  ·cases hf
 ·
  rename_i T x hT hv
  obtain ⟨a,ha,rfl⟩:=CJ hv
  split at hf
  ·rename_i u hTu hod
   cases hq:u.plain with
   |false=>rw [hq] at hf; cases hf
   |true=>
   rw [hq] at hf
   simp only [cond_true] at hf
   split at hf
   ·rename_i n ps hov
    simp only [Option.some.injEq,Prod.mk.injEq,true_and] at hf; subst hf
    obtain ⟨w',h1,h2⟩:=Jq (ty:=o.type) hE hV h (fe (ds:=ds) hV h a) hTu hq hov
    refine ⟨.tuple #[],w',I,tk,.inl ?_,by rw [hod]; exact h2⟩
    rw [hrun,hargs,ha]
    have:c.argTypes= #[T]:=by
     have:=congrArg List.toArray hT
     simpa using this
    simp only [builtin,this,List.map_cons,List.map_nil]
    rw [Sem.run_bind]
    rw [show (Builtin.clear_ #[T] o.type [Act.eval ⟨tm,ds⟩ a].toArray).run C.P w=_ from h1]
    rfl
   ·cases hf
  ·cases hf
 ·
  rename_i v r hv
  obtain ⟨a,q,ha,rfl,rfl⟩:=Lm hv
  split at hf
  ·rename_i d hm
   simp only [Option.some.injEq,Prod.mk.injEq,true_and] at hf; subst hf
   obtain ⟨u,hu,hr⟩:=maxes true hm
   refine aV.v h hd (x:=u) ?_ hr
   rw [hrun,hargs,ha]
   simp only [builtin,Builtin.max_,List.map_cons]
   rw [Sem.run_bind]
   simp only [cond_true] at hu
   rw [hu]; rfl
  ·cases hf
 ·cases hf
theorem Ld (hE:eD C.P E) (hV:View sv st) (h:Inv C st tm w I tk) (hd:∀ d,o.dst=some d→d<st.sl.length) (hf:opP E o sv=some (true,e)):aV C o ds (e.run o.dst st) tm w:=by
 cases ho:o.op with
 |move x=>exact Ql hV h hd ho hf
 |assign x=>exact Lc hV h hd ho hf
 |pick c a b=>exact Qk hV h hd ho hf
 |alloc T=>exact Ny hE hV h hd ho hf
 |box T x=>exact Sj hE hV h hd ho hf
 |build T parts=>exact Nv hE hV h hd ho hf
 |buildSlice T n parts=>exact BN hE hV h hd ho hf
 |load T a=>exact Qm hE hV h hd ho hf
 |nilCheck x=>exact FU hV h hd ho hf
 |binOp op T x y T'=>exact Nw hE hV h hd ho hf
 |unOp op T x=>exact Qj hV h hd ho hf
 |convert S T x=>exact IC hE hV h hd ho hf
 |sliceToArrayPointer T x=>exact Ns hE hV h hd ho hf
 |makeSlice T l c=>exact DZ hE hV h hd ho hf
 |makeMap T r=>
  cases r with
  |none=>exact IA hE hV h hd ho hf
  |some r=>simp only [opP,ho] at hf; cases hf
 |lookup T x i ok=>exact Lb hE hV h hd ho hf
 |mapUpdate T m i x=>exact DY hE hV h ho hf
 |fieldAddr T x f=>exact D6 hE hV h hd ho hf
 |field T x f=>exact Nu hE hV h hd ho hf
 |indexAddr T x i=>exact D5 hE hV h hd ho hf
 |index T x i=>exact Nt hE hV h hd ho hf
 |makeFunc fn first caps=>
  cases fn with
  |func f=>exact FV hV h hd ho hf
  |_=>simp only [opP,ho] at hf; cases hf
 |slice T x lo hi mx=>
  cases mx with
  |none=>exact Nr hE hV h hd ho hf
  |some m=>simp only [opP,ho] at hf; cases hf
 |extract t j=>
  cases t with
  |tmp i=>exact IB hV h hd ho hf
  |_=>simp only [opP,ho] at hf; cases hf
 |call c=>
  cases hc:c.callee with
  |builtin b=>exact IE hE hV h hd ho hc hf
  |_=>simp only [opP,ho,hc] at hf; cases hf
 |store T a x=>
  cases hod:o.dst with
  |none=>rw [← hod]; exact Nq hE hV h ho hf
  |some d=>simp only [opP,ho,hod] at hf; cases hf
 |_=>simp only [opP,ho] at hf; cases hf
end Go.Own
