/- What is proved: the evaluator of the translated code, and that it is sound, part 8. Conditions: those that each theorem names. -/
import Derived.Test.YtnighkkdmgmcnaaGreatW7
import Derived.Great.FillDense
import Derived.Laws.MakeOwn
import Derived.Great.BuildSlice
import Derived.Laws.IdiomStrings
import Derived.Laws.BytesArg
import Derived.MapKept
set_option linter.unusedVariables false
set_option linter.unusedSimpArgs false
set_option linter.unusedVariables false
namespace Go.Own
variable {C:Cx} {P:Program} {E:Env} {w w' w2:World} {I I':Nat→Prop} {st sv:St} {tm:Array Value} {tk tk':aU} {ds:List Deferred} {o:Oper} {e:Ef}
theorem Inv.zi (h:Inv C st tm w I tk) {d:Nat} (hd:d<st.sl.length) (g:lg w w2) (hlt:w.heap.size<w2.heap.size) {T:TypeId} {cs:List Value} (hb:Blk w2 w.heap.size T cs) {t:Ty} (hT:fO C.P T t.frz) (hp:t.bL=false) (hno:d∉mentions t)
  {l:List t.den} {cap:Nat} (hcap:l.length≤cap) (hroom:cap*t.size≤cs.length) (hel:∀ i x,l[i]?=some x→∃ c',ai w I tk t x c'∧∀ j v,c'[j]?=some v→cs[i*t.size+j]?=some v):
  ∃ tk',Inv C (aN (kQ d ⟨.dyn t,(false,l)⟩) st) tm w2 I tk'∧bf w2 I tk' (.va d t.frz) (.slice (some ⟨w.heap.size,0,none⟩) l.length cap):=by
 have h1:=(h.kill d).grow g
 have hr:aI w2 I tk ⟨some w.heap.size,0,some ⟨w.heap.size,0,none⟩,l.length,cap,.dyn t.frz,T,[]⟩ ⟨.dyn t,(false,l)⟩:=by
  refine ⟨rfl,hp,rfl,hcap,by simp,.inr ⟨w.heap.size,rfl,rfl,cs,hb,(by show 0+cap*t.size≤cs.length; omega),fun i x hx=> ?_⟩⟩
  obtain ⟨c',h2,h3⟩:=hel i x hx
  exact ⟨c',h2.mono (fun _ hb=>hb) (fun b hb=>g.block b (h.ilt b hb)) (aU.le.refl _),fun j v hj=>by rw [Nat.zero_add]; exact h3 j v hj⟩
 have h2:=h1.xW (s:=d) (fun j=>DF h.small hd) (pE st d) hno (q:=⟨some w.heap.size,0,some ⟨w.heap.size,0,none⟩,l.length,cap,.dyn t.frz,T,[]⟩) ?_ (fun _ _=>hT) hr
 ·exact ⟨_,h2,_,upd_same _ _ _,rfl,rfl⟩
 ·intro b hb
  rw [Tk.uT rfl] at hb
  cases hb
  exact ⟨.inl h.size,hlt,fun hI=>absurd (h.ilt _ hI) (Nat.lt_irrefl _),fun s' q' _ hs' hb'=>absurd (h.tokLt s' q' _ hs' hb') (Nat.lt_irrefl _)⟩
theorem Inv.II (h:Inv C st tm w I tk) {d:Nat} (hd:∀ j,d≠site j) {t:Ty} (hp:t.plain=true):
  ∃ tk',Inv C (aN (kQ d ⟨.dyn t,(true,[])⟩) st) tm w I tk'∧(∃ q,tk' d=some q∧q.ty= .dyn t∧q.hdr= .slice none 0 0)∧∀ r,r≠d→tk' r=tk r:=by
 have hr:aI w I tk ⟨none,0,none,0,0,.dyn t,0,[]⟩ ⟨.dyn t,(true,[])⟩:=⟨by simp only [Ty.eZ hp],rM hp,rfl,Nat.le_refl _,by simp,.inl ⟨rfl,rfl⟩⟩
 have hm:d∉mentions (.dyn t):=by
  have:mentions (.dyn t)= []:=qg (t:=t) hp
  rw [this]; exact List.not_mem_nil
 have no:∀ b,¬ (⟨none,0,none,0,0,.dyn t,0,[]⟩:Tk).own b:=fun b hb=>by rw [Tk.uT rfl] at hb; cases hb
 have h2:=(h.kill d).xW (s:=d) hd (pE st d) hm (q:=⟨none,0,none,0,0,.dyn t,0,[]⟩) (fun b hb=>(no b hb).elim) (fun b hb=>(no b hb).elim) hr
 exact ⟨_,h2,⟨_,upd_same _ _ _,rfl,rfl⟩,fun r hr=>ko _ _ _ hr⟩
theorem aV.Uu {fs:List Pm} (h:Inv C (aN fs st) tm w I tk) (hd:∀ d,o.dst=some d→d<st.sl.length) (g:lg w w2) (hlt:w.heap.size<w2.heap.size) {T:TypeId} {cs:List Value} (hb:Blk w2 w.heap.size T cs) {t:Ty} (hT:fO C.P T t.frz) (hp:t.bL=false) (hno:∀ d,o.dst=some d→d∉mentions t)
  {l:List t.den} {cap:Nat} {w0:World} (hr:(execOp (Act.eval ⟨tm,ds⟩) o).run C.P w0= .ok (.value (.slice (some ⟨w.heap.size,0,none⟩) l.length cap)) w2) (hcap:l.length≤cap) (hroom:cap*t.size≤cs.length)
  (hel:∀ i x,l[i]?=some x→∃ c',ai w I tk t x c'∧∀ j v,c'[j]?=some v→cs[i*t.size+j]?=some v) {e:Ef} (he:Ag o.dst t false l fs=some e):
  aV C o ds (e.run o.dst st) tm w0:=by
 unfold Ag at he
 split at he
 ·rename_i od d hod
  cases he
  obtain ⟨tk',h1,h2⟩:=h.zi (by rw [dm]; exact hd d hod) g hlt hb hT hp (hno d hod) hcap hroom hel
  rw [← dD] at h1
  have:=aV.of (v:= .va d t.frz) hr h1 (fun d' hd'=>by rw [dm]; exact hd d' hd') h2
  rwa [hod] at this ⊢
 ·cases he
theorem aV.row {fs:List Pm} (h:Inv C (aN fs st) tm w I tk) (hd:∀ d,o.dst=some d→d<st.sl.length) (g:lg w w2) (hlt:w.heap.size<w2.heap.size) {T:TypeId} {cs:List Value} (hb:Blk w2 w.heap.size T cs) {t:Ty} (hT:fO C.P T t) (hp:t.plain=true)
  {l:List t.den} {cap:Nat} {w0:World} (hr:(execOp (Act.eval ⟨tm,ds⟩) o).run C.P w0= .ok (.value (.slice (some ⟨w.heap.size,0,none⟩) l.length cap)) w2) (hcap:l.length≤cap) (hroom:cap*t.size≤cs.length)
  (hel:∀ i x,l[i]?=some x→∃ c',ai w I tk t x c'∧∀ j v,c'[j]?=some v→cs[i*t.size+j]?=some v) {e:Ef} (he:Ag o.dst t false l fs=some e):
  aV C o ds (e.run o.dst st) tm w0:=
 aV.Uu h hd g hlt hb (by rw [Ty.eZ hp]; exact hT) (rM hp) (fun d _=>by rw [qg hp]; exact List.not_mem_nil) hr hcap hroom hel he
theorem vE (z:Array Value) (n k:Nat) (hz:0<z.size) (hk:k<n):(madeCells z n).toList[k]?=z[k%z.size]?:=by
 have:=Nat.mod_lt k hz
 simp [madeCells,hk,this]
theorem RO:∀ {t:Ty},t.plain=true→t.fJ.length=t.size:=fun hp=>(dZ (w:=default) (I:=fun _=>False) (tk:=fun _=>none) hp).length
theorem kD {e:TypeId} {t:Ty} (hA:fO P e t) (hp:t.plain=true):∃ i z,P.info? e=some i∧i.zero=some z∧z.cells.toList=t.fJ∧i.size=t.size∧z.cells.size=t.size:=by
 obtain ⟨i,z,hi,hz,hc⟩:=hA.base.zero
 have hs:=hA.base.size
 rw [hi] at hs
 have hs':i.size=t.size:=by simpa using hs
 refine ⟨i,z,hi,hz,hc,hs',?_⟩
 have:=RO hp
 rw [← hc] at this
 simpa using this
theorem F9 {t:Ty} (hp:t.plain=true) {z:Array Value} (hz:z.toList=t.fJ) (hs:z.size=t.size) (n c:Nat) (hn:n≤c) (i:Nat) (x:t.den) (hx:(List.replicate n t.dflt)[i]?=some x):
  ∃ c',ai w I tk t x c'∧∀ j v,c'[j]?=some v→(madeCells z (c*t.size)).toList[i*t.size+j]?=some v:=by
 rw [List.getElem?_replicate] at hx
 split at hx
 ·rename_i hi
  cases hx
  refine ⟨t.fJ,dZ hp,fun j v hj=> ?_⟩
  have hjl:=(List.getElem?_eq_some_iff.1 hj).1
  have hzl:t.fJ.length=t.size:=by rw [← hz]; simpa using hs
  have hm:(i+1)*t.size≤c*t.size:=Nat.mul_le_mul_right _ (by omega)
  rw [Nat.add_mul,Nat.one_mul] at hm
  rw [vE _ _ _ (by omega) (by omega),hs,Nat.mul_comm,Nat.mul_add_mod,Nat.mod_eq_of_lt (by omega),← hj,← hz]
  simp
 ·cases hx
theorem Lj {t u:Ty} {y:u.den} (hy:ai w I tk u y t.fJ) {z:Array Value} (hz:z.toList=t.fJ) (hs:z.size=t.size) (n c:Nat) (hn:n≤c) (i:Nat) (x:u.den) (hx:(List.replicate n y)[i]?=some x):
  ∃ c',ai w I tk u x c'∧∀ j v,c'[j]?=some v→(madeCells z (c*t.size)).toList[i*t.size+j]?=some v:=by
 rw [List.getElem?_replicate] at hx
 split at hx
 ·rename_i hi
  cases hx
  refine ⟨t.fJ,hy,fun j v hj=> ?_⟩
  have hjl:=(List.getElem?_eq_some_iff.1 hj).1
  have hzl:t.fJ.length=t.size:=by rw [← hz]; simpa using hs
  have hm:(i+1)*t.size≤c*t.size:=Nat.mul_le_mul_right _ (by omega)
  rw [Nat.add_mul,Nat.one_mul] at hm
  rw [vE _ _ _ (by omega) (by omega),hs,Nat.mul_comm,Nat.mul_add_mod,Nat.mod_eq_of_lt (by omega),← hj,← hz]
  simp
 ·cases hx
theorem Qe (b:Bool) (p:Nat) {u t:Ty} (h:b=true→t=u):(rzT b p u t).frz= .sl t:=by
 cases b with
 |true=>rw [h rfl]; rfl
 |false=>rfl
theorem Io (p:Nat) (u:Ty):∀ t:Ty,(Ty.rz p u t).frz=t.frz:=by
 intro t
 induction t with
 |pair a b iha ihb=>simp only [Ty.rz,Ty.frz,iha,ihb]
 |sl t ih=>exact Qe _ p of_decide_eq_true
 |_=>rfl
theorem JR (p:Nat) (u:Ty):∀ t:Ty,(Ty.rz p u t).size=t.size:=fun t=>by rw [← Ty.fA,Io,Ty.fA]
theorem R5 (p:Nat) (u:Ty) {t:Ty} (h:t.bL=false):(Ty.rz p u t).bL=false:=by
 cases t<;>first|rfl|exact h|skip
 rename_i t
 show (rzT (decide (t=u)) p u t).bL=false
 cases decide (t=u)<;>rfl
theorem Fw {p:Nat} {u:Ty}:∀ {t:Ty},t.plain=true→∀ {d:Nat},d∈mentions (Ty.rz p u t)→d=p:=by
 intro t
 induction t with
 |pair a b iha ihb=>
  intro hp d hd
  simp only [Ty.plain,Bool.and_eq_true] at hp
  simp only [Ty.rz,mentions,List.mem_append] at hd
  rcases hd with hd|hd
  ·exact iha hp.1 hd
  ·exact ihb hp.2 hd
 |sl t ih=>
  intro hp d hd
  have hd':d∈mentions (rzT (decide (t=u)) p u t):=hd
  cases e:decide (t=u) with
  |true=>rw [e] at hd'; exact List.mem_singleton.1 hd'
  |false=>rw [e] at hd'; cases hd'
 |arr n t ih=>
  intro hp d hd
  have:mentions (.arr n t)= []:=qg hp
  rw [show Ty.rz p u (.arr n t)= .arr n t from rfl,this] at hd
  cases hd
 |_=>intro hp d hd; first|cases hp; done|cases hd
theorem Qd {p:Nat} {u:Ty} {k:Nat} (hk:ai w I tk (.rid p u) k [.slice none 0 0]):∀ {t:Ty},t.plain=true→ai w I tk (Ty.rz p u t) (rzD p u k t) t.fJ:=by
 intro t
 induction t with
 |pair a b iha ihb=>
  intro hp
  simp only [Ty.plain,Bool.and_eq_true] at hp
  exact ⟨_,_,rfl,iha hp.1,ihb hp.2⟩
 |sl t ih=>
  intro hp
  show ai w I tk (rzT (decide (t=u)) p u t) (rzV p u t k (decide (t=u))) [.slice none 0 0]
  cases decide (t=u) with
  |true=>exact hk
  |false=>exact ⟨none,0,rfl,Nat.le_refl _,.inl rfl⟩
 |int k=>intro hp; exact dZ (t:= .int k) hp
 |bool=>intro hp; exact dZ (t:= .bool) hp
 |str=>intro hp; exact dZ (t:= .str) hp
 |flt=>intro hp; exact dZ (t:= .flt) hp
 |unit=>intro hp; exact dZ (t:= .unit) hp
 |eos u=>intro hp; exact dZ (t:= .eos u) hp
 |arr n t ih=>intro hp; exact dZ (t:= .arr n t) hp
 |ref t ih=>intro hp; exact dZ (t:= .ref t) hp
 |nif=>intro hp; exact dZ (t:= .nif) hp
 |slf=>intro hp; exact dZ (t:= .slf) hp
 |_=>intro hp; cases hp
theorem Inv.Sk (h:Inv C st tm w I tk) {p:Nat} {u:Ty} {l:List (Nat×List u.den)} (hp:st.box p=some ⟨.pool u,l⟩) (hn:∀ j,p≠site j):
  ∃ tk',Inv C (st.gI p ⟨.pool u,l++ [(3,[])]⟩) tm w I tk'∧∀ {t:Ty},t.plain=true→ai w I tk' (Ty.rz p u t) (rzD p u l.length t) t.fJ:=by
 let r0:RTk:=⟨none,0,none,0,0,0⟩
 obtain ⟨tk',h1,h2⟩:=h.OW hp hn (f0:=3) (r0:=r0) (x:= []) ⟨rfl,Nat.le_refl _,.inl ⟨rfl,rfl⟩⟩ (fun _=>rfl) (fun b hb=>by cases hb)
 exact ⟨tk',h1,fun hpl=>Qd h2 hpl⟩
theorem CB {l c:Int} {B i:Nat} (h1:0≤l) (h2:l≤c) (h3:c*(B:Int)≤70368744177664) (hB:i≤B) (h0:0<B):
  0≤c∧(i:Int)*c≤281474976710656∧c≤9223372036854775807∧l.toNat≤c.toNat:=by
 have hc:0≤c:=by omega
 have h4:(i:Int)*c≤(B:Int)*c:=Int.mul_le_mul_of_nonneg_right (by omega) hc
 have h5:c*1≤c*(B:Int):=Int.mul_le_mul_of_nonneg_left (by omega) hc
 rw [Int.mul_comm] at h3
 rw [Int.mul_comm c B] at h5
 omega
theorem DZ {T:TypeId} {l c:Operand} (hE:eD C.P E) (hV:View sv st) (h:Inv C st tm w I tk) (hd:∀ d,o.dst=some d→d<st.sl.length) (ho:o.op= .makeSlice T l c) (hf:opP E o sv=some (true,e)):
  aV C o ds (e.run o.dst st) tm w:=by
 have hl:=fe (ds:=ds) hV h l
 have hc:=fe (ds:=ds) hV h c
 simp only [opP,ho] at hf
 split at hf
 ·rename_i t k1 l0 k2 c0 hT e1 e2
  split at hf
  case h_1 p hpl=>
   split at hf
   ·rename_i u rl d hbx hod
    cases hcd:(t.plain&&Nat.blt p 1000000&& !Nat.beq d p) with
    |false=>rw [hcd] at hf; cases hf
    |true=>
    rw [hcd] at hf
    simp only [cond_true,Option.some.injEq,Prod.mk.injEq,Bool.and_eq_true,decide_eq_true_eq] at hf
    obtain ⟨⟨⟨hc1,hc2⟩,hc3⟩,rfl⟩:=hf
    simp only [Bool.and_eq_true,Bool.not_eq_true'] at hcd
    obtain ⟨⟨hp,hlt⟩,hdp⟩:=hcd
    rw [e1] at hl; rw [e2] at hc
    have v1:=dF.1 hl
    have v2:=dF.1 hc
    obtain ⟨_,et,hu,hA0⟩:=hE.ty T _ hT
    have hA:fO C.P et t:=hA0
    obtain ⟨i,z,hi,hz,hzc,hsz,hzs⟩:=kD hA hp
    obtain ⟨hB,hB0⟩:=hE.bytes T et i hu (by rw [hT]; rfl) hi
    obtain ⟨hc0,hbytes,h63,hlc⟩:=CB hc1 hc2 hc3 hB hB0
    have hr:=run_make (P:=C.P) w T et i z hu hi hz k1 k2 l0 c0 hc1 hc2 hbytes h63
    obtain ⟨tk1,h1,hrz⟩:=h.Sk (hV.box p _ hbx) (fun j e=>by rw [e] at hlt; exact absurd (Nat.le_of_ble_eq_true hlt) (by unfold site; omega))
    obtain ⟨tk2,h2,h3⟩:=h1.zi (d:=d) (by exact hd d hod) (lg.alloc w _) (by simp) (Blk.alloc w (madeCells z.cells ((c0:Int).toNat*t.size)) et) (t:=Ty.rz p u t) (by rw [Io,hA.frz]; exact hA) (R5 p u (rM hp)) (fun hm=>by have:=Fw hp hm; subst this; simp at hdp) (l:=List.replicate (l0:Int).toNat (rzD p u rl.length t)) (cap:=(c0:Int).toNat) (by rw [List.length_replicate]; exact hlc) (by rw [Array.length_toList,size_madeCells,JR]; exact Nat.le_refl _) (fun j x hx=>by
     rw [JR]
     exact Lj (hrz hp) hzc hzs _ _ hlc j x hx)
    rw [Io,hA.frz] at h3
    refine aV.of (I':=I) (tk':=tk2) (v:= .va d t) (x:= .slice (some ⟨w.heap.size,0,none⟩) (l0:Int).toNat (c0:Int).toNat) (w':=w.alloc (.cells (madeCells z.cells ((c0:Int).toNat*t.size)) et)) ?_ h2 (fun d' hd'=>by rw [dm]; exact hd d' hd') (by simpa using h3)
    simp only [execOp,ho,v1,v2]
    rw [Sem.run_bind,hr,hsz]
    simp
   ·cases hf
  case h_2=>
  cases hp:t.plain with
  |false=>rw [hp] at hf; cases hf
  |true=>
  rw [hp] at hf
  simp only [cond_true] at hf
  obtain ⟨e',he',hq⟩:=Option.map_eq_some_iff.1 hf
  simp only [Prod.mk.injEq,Bool.and_eq_true,decide_eq_true_eq] at hq
  obtain ⟨⟨⟨hc1,hc2⟩,hc3⟩,rfl⟩:=hq
  rw [e1] at hl; rw [e2] at hc
  have v1:=dF.1 hl
  have v2:=dF.1 hc
  obtain ⟨_,e,hu,hA0⟩:=hE.ty T _ hT
  have hA:fO C.P e t:=hA0
  obtain ⟨i,z,hi,hz,hzc,hsz,hzs⟩:=kD hA hp
  obtain ⟨hB,hB0⟩:=hE.bytes T e i hu (by rw [hT]; rfl) hi
  obtain ⟨hc0,hbytes,h63,hlc⟩:=CB hc1 hc2 hc3 hB hB0
  have hr:=run_make (P:=C.P) w T e i z hu hi hz k1 k2 l0 c0 hc1 hc2 hbytes h63
  refine aV.row (fs:= []) (l:=List.replicate (l0:Int).toNat t.dflt) (cap:=(c0:Int).toNat) h hd (lg.alloc w _) (by simp) (Blk.alloc w (madeCells z.cells ((c0:Int).toNat*t.size)) e) hA hp ?_ (by rw [List.length_replicate]; exact hlc) (by rw [Array.length_toList,size_madeCells]; exact Nat.le_refl _) ?_ he'
  ·simp only [execOp,ho,v1,v2]
   rw [Sem.run_bind,hr,hsz]
   simp
  ·intro j x hx
   exact F9 hp hzc hzs _ _ hlc j x hx
 ·cases hf
theorem LJ {place:Nat→Option (Nat×Nat)} {cells:Array Value} {i off n:Nat} {v:Value} {rest:List (Nat×Value)} (hp:place i=some (off,n)) (hn:v.cells.size=n) (hle:off+n≤cells.size):
  ∃ cells':Array Value,Instr.fill place cells ((i,v)::rest)=Instr.fill place cells' rest∧cells'.toList=splice cells.toList off v.cells.toList:=by
 obtain ⟨g1,g2⟩:=Great.foldl_set off v.cells.toList 0 cells
 refine ⟨(v.cells.toList.zipIdx 0).foldl (fun cs (x:Value×Nat)=>cs.setIfInBounds (off+x.2) x.1) cells,?_,?_⟩
 ·conv=>lhs; unfold Instr.fill
  rw [hp]
  simp only
  rw [if_neg (by simp; omega)]
  congr 1
  rw [← Array.foldl_toList]
  simp
 ·apply gK
  intro k
  rw [dn _ _ _ (by simp; omega),Array.getElem?_toList,g2 k]
  simp only [Nat.add_zero,Array.length_toList,Array.getElem?_toList]
  split
  ·rw [if_pos (by omega)]
  ·rename_i hk
   split
   ·rename_i hk2; exact absurd ⟨hk2.1,by omega,by omega⟩ hk
   ·rfl
def tL (j4:Bool) (i:Nat):Path:=bif j4 then [.ix i] else aR i
theorem qM {j4:Bool} {place:Nat→Option (Nat×Nat)} {t:Ty}
  (hpl:∀ i u,lq t (tL j4 i)=some u→∃ off,bG t (tL j4 i)=some (off,u)∧place i=some (off,u.size))
  (hin:∀ i u,t.has i=true→lq t (tL j4 i)=some u→pathIn 0 t (tL j4 i)):
  ∀ {parts:List (Nat×SV)} {vs:List (Nat×Value)} {x y:DV} {cells:Array Value},uD j4 x parts=some y→x.1.frz=t→x.1.bL=false→ai w I tk x.1 x.2 cells.toList→
   parts.length=vs.length→(∀ (k:Nat) (p:Nat×SV) (v:Nat×Value),parts[k]?=some p→vs[k]?=some v→p.1=v.1∧bf w I tk p.2 v.2)→
   ∃ r:Array Value,Instr.fill place cells vs=some r∧ai w I tk y.1 y.2 r.toList∧y.1.frz=t∧y.1.bL=false:=by
 intro parts
 induction parts with
 |nil=>
  intro vs x y cells hb ht htop hc hl _
  cases vs with
  |cons=>cases hl
  |nil=>
   simp only [uD,Option.some.injEq] at hb
   subst hb
   exact ⟨cells,rfl,hc,ht,htop⟩
 |cons p parts ih=>
  intro vs x y cells hb ht htop hc hl hv
  cases vs with
  |nil=>cases hl
  |cons v vs=>
   obtain ⟨i,s⟩:=p
   obtain ⟨i',v⟩:=v
   obtain ⟨e,hvr⟩:=hv 0 (i,s) (i',v) rfl rfl
   simp only at e hvr
   subst e
   simp only [uD] at hb
   split at hb
   ·rename_i u hu
    split at hb
    ·rename_i d hd
     cases hq:(x.1.frz.has i&&decide (d.1.frz=u)&&d.1.known) with
     |false=>rw [hq] at hb; cases hb
     |true=>
     rw [hq] at hb
     simp only [cond_true] at hb
     simp only [Bool.and_eq_true,decide_eq_true_eq] at hq
     obtain ⟨⟨hh,hdu⟩,hk⟩:=hq
     obtain ⟨z,hz,hb2⟩:=Option.bind_eq_some_iff.1 hb
     rw [ht] at hu
     obtain ⟨off,ha,hp⟩:=hpl i u hu
     have hpi:=hin i u (by rw [← ht]; exact hh) hu
     obtain ⟨hdt,hdr⟩:=sD hvr hd
     have hdc:=hdr.cells hk
     obtain ⟨h2,h3,h4⟩:=vK 0 (u:=d.1) (y:=d.2) (t':=z.1) (x':=z.2) hc hz (by rw [ht]; exact hpi) hdc (by rw [ht,hdu]; exact ha)
     have hsz:v.cells.size=u.size:=by rw [← hdu,Ty.fA]; simpa using hdc.length
     have hcl:cells.size=x.1.size:=by simpa using hc.length
     obtain ⟨cells',h5,h6⟩:=LJ (cells:=cells) (rest:=vs) hp hsz (by rw [hcl,← hdu,Ty.fA]; omega)
     rw [h5]
     rw [← h6] at h2
     have hzt:=Fv hz htop hdt
     exact ih hb2 (h4.trans ht) hzt h2 (by simpa using hl) (fun k p q hp hq=>hv (k+1) p q (by simpa using hp) (by simpa using hq))
    ·cases hb
   ·cases hb
theorem BR:∀ {fs:List Field} {off:Nat} {t:Ty},fB P fs off t→
  ∃ places,fs.mapM (fun f=>(P.info? f.type).map fun i=>(f.offset,i.size))=some places∧∀ n u,lq t (aR n)=some u→∃ o,bG t (aR n)=some (o,u)∧places[n]?=some (off+o,u.size):=by
 intro fs
 induction fs with
 |nil=>
  intro off t h
  refine ⟨[],rfl,fun n u hu=> ?_⟩
  cases t<;>simp only [fB,qD] at h
  ·cases n<;>simp [aR,lq] at hu
  ·cases n<;>simp [aR,lq] at hu
  ·obtain ⟨f,r,e,_⟩:=h; cases e
 |cons g r ih=>
  intro off t h
  cases t<;>simp only [fB,qD] at h
  ·cases h
  ·cases h
  ·rename_i a b
   obtain ⟨f,r',e,ho,h1,h2⟩:=h
   cases e
   obtain ⟨pl,hpl,hget⟩:=ih (off:=off+a.size) (t:=b) h2
   obtain ⟨i,z,hi,hz,hc⟩:=fO.base (P:=P) (T:=g.type) (t:=a) h1
   |>.zero
   have hs:=(fO.base (P:=P) (T:=g.type) (t:=a) h1).size
   rw [hi] at hs
   have hs':i.size=a.size:=by simpa using hs
   refine ⟨(g.offset,i.size)::pl,by simp [List.mapM_cons,hi,hpl],fun n u hu=> ?_⟩
   cases n with
   |zero=>
    have:a=u:=by cases a<;>simpa [aR,lq] using hu
    subst this
    refine ⟨0,by cases a<;>rfl,by simp [ho,hs']⟩
   |succ n=>
    obtain ⟨o,h3,h4⟩:=hget n u (by simpa [aR,lq] using hu)
    refine ⟨a.size+o,by simp [aR,bG,h3],?_⟩
    rw [List.getElem?_cons_succ,h4]; congr 2; omega
theorem NS {n:Nat} {t:Ty} {i:Nat} (h:(Ty.arr n t).has i=true):pathIn 0 (.arr n t) [.ix i]:=by
 simp only [Ty.has,decide_eq_true_eq] at h
 exact ⟨h,by cases t<;>trivial⟩
theorem Cr {n:Nat} {t u:Ty} {i:Nat} (h:lq (.arr n t) [.ix i]=some u):bG (.arr n t) [.ix i]=some (i*t.size,u)∧u=t:=by
 have e:t=u:=by cases t<;>simpa [lq] using h
 subst e
 simp [bG,fK]
theorem xU (hV:View sv st) (h:Inv C st tm w I tk) (parts:Array (Nat×Operand)):
  ∀ (k:Nat) (p:Nat×SV) (v:Nat×Value),(partsOf sv parts.toList)[k]?=some p→(parts.toList.map fun (i,x)=>(i,Act.eval ⟨tm,ds⟩ x))[k]?=some v→p.1=v.1∧bf w I tk p.2 v.2:=by
 intro k p v hp hv
 unfold partsOf at hp
 rw [List.getElem?_map] at hp hv
 cases hq:parts.toList[k]? with
 |none=>rw [hq] at hp; cases hp
 |some q=>
  rw [hq] at hp hv
  simp only [Option.map_some,Option.some.injEq] at hp hv
  subst hp; subst hv
  exact ⟨rfl,fe hV h q.2⟩
theorem zX {t:Ty} {j4:Bool} {fs:List Pm}:∀ {ps:List (Nat×SV)} {ds:List (Nat×SV)} {vs:List (Nat×Value)},xV t j4 fs ps=some ds→(∀ (k:Nat) (p:Nat×SV) (v:Nat×Value),ps[k]?=some p→vs[k]?=some v→p.1=v.1∧bf w I tk (qU fs p.2) v.2)→
  ds.length=ps.length∧∀ (k:Nat) (p:Nat×SV) (v:Nat×Value),ds[k]?=some p→vs[k]?=some v→p.1=v.1∧bf w I tk p.2 v.2:=by
 intro ps
 induction ps with
 |nil=>
  intro ds vs h hv
  simp only [xV,Option.some.injEq] at h; subst h
  exact ⟨rfl,fun k p v hp=>by simp at hp⟩
 |cons q ps ih=>
  obtain ⟨i,s⟩:=q
  intro ds vs h hv
  simp only [xV] at h
  split at h
  ·rename_i d r hd hr
   cases h
   cases vs with
   |nil=>
    obtain ⟨h1,_⟩:=ih (vs:= []) hr (fun k p v _ hv=>by simp at hv)
    exact ⟨by simp [h1],fun k p v _ hv=>by simp at hv⟩
   |cons v0 vs=>
    obtain ⟨h1,h2⟩:=ih (vs:=vs) hr (fun k p v hp hv'=>hv (k+1) p v (by simpa using hp) (by simpa using hv'))
    refine ⟨by simp [h1],fun k p v hp hv'=> ?_⟩
    cases k with
    |zero=>
     simp at hp hv'
     subst hp; subst hv'
     obtain ⟨e1,e2⟩:=hv 0 (i,s) v0 rfl rfl
     obtain ⟨e3,e4⟩:=jR e2 hd
     exact ⟨e1,e3,e4⟩
    |succ k=>exact h2 k p v (by simpa using hp) (by simpa using hv')
  ·cases h
theorem Di {T:TypeId} {t:Ty} (hA:fO P T t) (hag:t.isAgg=true) {vs:List (Nat×Value)} {parts:List (Nat×SV)} {x y:DV} (hb:uD t.j4 x parts=some y) (hx:x.1.frz=t) (htop:x.1.bL=false) (hc:ai w I tk x.1 x.2 t.fJ)
  (hl:parts.length=vs.length) (hv:∀ (k:Nat) (p:Nat×SV) (v:Nat×Value),parts[k]?=some p→vs[k]?=some v→p.1=v.1∧bf w I tk p.2 v.2):
  ∃ r:Array Value,P.built T vs=some r∧ai w I tk y.1 y.2 r.toList∧y.1.frz=t∧y.1.bL=false:=by
 obtain ⟨it,z,hit,hz,hzc⟩:=hA.base.zero
 rw [← hzc] at hc
 cases t<;>simp only [Ty.isAgg,Bool.false_eq_true] at hag
 case unit=>
  obtain ⟨_,_,fs,hu,hfs⟩:=hA
  obtain ⟨r,h5,h6⟩:=qM (place:=fun x=>([]:List (Nat×Nat))[x]?) (j4:=false) (t:= .unit) (fun i u hu'=>by cases i<;>simp [tL,aR,lq] at hu') (fun i u _ hu'=>o8 0 hu') hb hx htop hc hl hv
  exact ⟨r,by simpa [Program.built,hit,hu,hz,hfs] using h5,h6⟩
 case eos u=>exact hA.elim
 case pair a b=>
  obtain ⟨_,_,_,fs,hu,_,f,r,hfr,hoff,h7,h8⟩:=hA
  have hF:fB P fs.toList 0 (.pair a b):=⟨f,r,hfr,hoff,h7,by simpa [fB] using h8⟩
  obtain ⟨places,hpl,hget⟩:=BR hF
  obtain ⟨r,h5,h6⟩:=qM (place:=fun x=>places[x]?) (j4:=false) (t:= .pair a b) (fun i u hu'=>by
   obtain ⟨o,h9,h10⟩:=hget i u hu'
   exact ⟨o,h9,by simpa using h10⟩) (fun i u _ hu'=>o8 0 hu') hb hx htop hc hl hv
  exact ⟨r,by simpa [Program.built,hit,hu,hz,hpl] using h5,h6⟩
 case arr n t=>
  obtain ⟨_,e,hu,hAe⟩:=hA
  have hAe':fO P e t:=hAe
  have hs:=hAe'.base.size
  obtain ⟨ie,ze,hie,_⟩:=hAe'.base.zero
  rw [hie] at hs
  have hsz:ie.size=t.size:=by simpa using hs
  obtain ⟨r,h5,h6⟩:=qM (place:=fun i=>some (i*ie.size,ie.size)) (j4:=true) (t:= .arr n t) (fun i u hu'=>by
   obtain ⟨e1,e2⟩:=Cr hu'
   exact ⟨_,e1,by rw [hsz,e2]⟩) (fun i u hh _=>NS hh) hb hx htop hc hl hv
  exact ⟨r,by simpa [Program.built,hit,hu,hz,hie] using h5,h6⟩
 all_goals exact hA.elim
theorem Nv {T:TypeId} {parts:Array (Nat×Operand)} (hE:eD C.P E) (hV:View sv st) (h:Inv C st tm w I tk) (hd:∀ d,o.dst=some d→d<st.sl.length) (ho:o.op= .build T parts) (hf:opP E o sv=some (true,e)):
  aV C o ds (e.run o.dst st) tm w:=by
 simp only [opP,ho] at hf
 split at hf
 ·rename_i t hT
  cases hag:(t.isAgg&&t.zok) with
  |false=>rw [hag] at hf; cases hf
  |true=>
  rw [hag] at hf
  simp only [Bool.and_eq_true] at hag
  simp only [cond_true] at hf
  split at hf
  ·rename_i fs y hy
   simp only [Option.some.injEq,Prod.mk.injEq,true_and] at hf; subst hf
   have hA:=hE.ty T _ hT
   have hag1:=hag.1
   have fin:∀ {I':Nat→Prop} {tk':aU} {r:Array Value},C.P.built T (parts.map fun (i,x)=>(i,Act.eval ⟨tm,ds⟩ x)).toList=some r→Inv C (aN fs st) tm w I' tk'→ai w I' tk' y.1 y.2 r.toList→y.1.frz=t→y.1.bL=false→
     aV C o ds (Ef.run o.dst ⟨fs,some (mkS y)⟩ st) tm w:=by
    intro I' tk' r hr hi hc hyt hyt2
    have hrun:=run_build (P:=C.P) w T _ r hr
    refine aV.of (x:= .agg r) ?_ hi (fun d' hd'=>by rw [dm]; exact hd d' hd') (bf.of1 (zl hyt2 ?_))
    ·simp only [execOp,ho]
     rw [Sem.run_bind,hrun]; rfl
    ·unfold aA
     rw [if_pos (by rw [← Ty.mr,hyt]; exact hag1)]
     exact ⟨r,rfl,hc⟩
   unfold OB at hy
   split at hy
   ·rename_i y' hb
    cases hy
    obtain ⟨z1,z2,z3,z4⟩:=Rn (w:=w) (I:=I) (tk:=tk) hag.2
    obtain ⟨r,h1,h2,h3,h4⟩:=Di (vs:=(parts.toList.map fun (i,x)=>(i,Act.eval ⟨tm,ds⟩ x))) hA hag1 hb (by show t.z.frz=t; rw [z4]; exact hA.frz) z2 z1 (by simp [partsOf]) (xU hV h parts)
    exact fin (by rw [Array.toList_map]; exact h1) h h2 h3 h4
   ·split at hy
    ·rename_i fs' hfs
     split at hy
     ·rename_i dl hdl
      cases hp:t.plain with
      |false=>rw [hp] at hy; cases hy
      |true=>
       rw [hp] at hy
       simp only [cond_true] at hy
       obtain ⟨y',hb,e⟩:=Option.map_eq_some_iff.1 hy
       cases e
       obtain ⟨I',tk',hF⟩:=kC hV h hfs
       have hvals:=xU (ds:=ds) hV h parts
       obtain ⟨g1,g2⟩:=zX (w:=w) (I:=I') (tk:=tk') (vs:=(parts.toList.map fun (i,x)=>(i,Act.eval ⟨tm,ds⟩ x))) hdl (fun k p v hp hv=>⟨(hvals k p v hp hv).1,hF.val _ _ (hvals k p v hp hv).2⟩)
       obtain ⟨r,h1,h2,h3,h4⟩:=Di (vs:=(parts.toList.map fun (i,x)=>(i,Act.eval ⟨tm,ds⟩ x))) hA hag1 hb (by exact hA.frz) (rM hp) (dZ hp) (by rw [g1]; simp [partsOf]) g2
       exact fin (by rw [Array.toList_map]; exact h1) hF.inv h2 h3 h4
     ·cases hy
    ·cases hy
  ·cases hf
 ·cases hf
end Go.Own
set_option linter.unusedVariables false
namespace Go.Own
variable {C:Cx} {P:Program} {E:Env} {w w' w2:World} {I I':Nat→Prop} {st sv:St} {tm:Array Value} {tk tk':aU} {ds:List Deferred} {o:Oper} {e:Ef}
theorem NH {t:Ty} (hp:t.plain=true) {z:Array Value} (hz:z.toList=t.fJ) (hs:z.size=t.size) (n:Nat):ai w I tk (.arr n t) (Ty.arr n t).dflt (madeCells z (n*t.size)).toList:=by
 refine ⟨by simp [Ty.dflt],by simp [size_madeCells],fun i x hx=> ?_⟩
 obtain ⟨c',hc,hv⟩:=F9 (w:=w) (I:=I) (tk:=tk) hp hz hs n n (Nat.le_refl _) i x hx
 have hi:i<n:=by
  have:=(List.getElem?_eq_some_iff.1 hx).1
  simpa [Ty.dflt] using this
 have hcl:=hc.length
 have hm:(i+1)*t.size≤n*t.size:=Nat.mul_le_mul_right _ hi
 rw [Nat.add_mul,Nat.one_mul] at hm
 have:((madeCells z (n*t.size)).toList.drop (i*t.size)).take t.size=c':=by
  apply gK
  intro k
  rw [dI]
  split
  ·rename_i hk
   rw [List.getElem?_eq_getElem (by omega:k<c'.length)]
   exact hv k _ (List.getElem?_eq_getElem _)
  ·rw [List.getElem?_eq_none (by omega)]
 rw [this]; exact hc
theorem BN {T:TypeId} {n:Nat} {parts:Array (Nat×Operand)} (hE:eD C.P E) (hV:View sv st) (h:Inv C st tm w I tk) (hd:∀ d,o.dst=some d→d<st.sl.length) (ho:o.op= .buildSlice T n parts) (hf:opP E o sv=some (true,e)):
  aV C o ds (e.run o.dst st) tm w:=by
 simp only [opP,ho] at hf
 split at hf
 case h_1 p hpl=>
  split at hf
  ·rename_i u x d hT hparts hod
   split at hf
   ·rename_i ps k hin
    cases hnd:(Nat.beq n 1&& !Nat.beq d p) with
    |false=>rw [hnd] at hf; cases hf
    |true=>
    rw [hnd] at hf
    simp only [cond_true,Option.some.injEq,Prod.mk.injEq,true_and] at hf; subst hf
    simp only [Bool.and_eq_true,Bool.not_eq_true'] at hnd
    obtain ⟨hn1,hdp⟩:=hnd
    obtain rfl:=beq_iff.1 hn1
    have hx:=fe (ds:=ds) hV h x
    obtain ⟨_,et,hu,hA0⟩:=hE.ty T _ hT
    have hA:fO C.P et (.sl u):=hA0
    have hup:(Ty.sl u).plain=true:=(show u.plain=true from Fz hV h hin)
    obtain ⟨ie,z,hie,hz,hzc,hsz,hzs⟩:=kD hA hup
    obtain ⟨tk1,h1,hv0,hc1⟩:=Fy hV h hx hin
    obtain ⟨v0,ev0⟩:∃ v0,v0=Act.eval ⟨tm,ds⟩ x:=⟨_,rfl⟩
    rw [← ev0] at hv0 hc1
    obtain ⟨tk2,h2,h3⟩:=h1.zi (d:=d) (by rw [dm]; exact hd d hod) (lg.alloc w _) (by simp) (Blk.alloc w #[v0] et) (t:= .rid p u) (by exact hA) rfl (fun hm=>by have:=List.mem_singleton.1 hm; subst this; simp at hdp) (l:= [k]) (cap:=1) (Nat.le_refl _) (by simp [Ty.size]) (fun i y hy=>by
     have hi:i=0:=by have:=(List.getElem?_eq_some_iff.1 hy).1; simpa using this
     subst hi
     simp only [List.getElem?_cons_zero,Option.some.injEq] at hy
     subst hy
     exact ⟨[v0],hc1,fun j v hj=>by simpa using hj⟩)
    rw [← dD] at h2
    refine aV.of (I':=I) (tk':=tk2) (v:= .va d (.sl u)) (x:= .slice (some ⟨w.heap.size,0,none⟩) 1 1) (w':=w.alloc (.cells #[v0] et)) ?_ h2 (fun d' hd'=>by rw [dm]; exact hd d' hd') h3
    simp only [execOp,ho]
    have hpr:(parts.map fun (i,x)=>(i,Act.eval ⟨tm,ds⟩ x))= #[(0,Act.eval ⟨tm,ds⟩ x)]:=by
     have:parts= #[(0,x)]:=by rw [← Array.toList_inj]; exact hparts
     rw [this]; simp
    rw [hpr]
    have hb:¬ 1*ie.size>2^24:=by rw [hsz]; simp [Ty.size]
    have hcell:z.cells= #[.slice none 0 0]:=by rw [← Array.toList_inj]; exact hzc
    have hrun:=run_buildSlice w T et 1 #[(0,Act.eval ⟨tm,ds⟩ x)] #[v0] ie z hu hie hz hb (by rw [hsz]; simp [Ty.size]) (by
     rw [hsz,hcell]
     rw [← ev0]
     simp [Instr.fill,Ty.size,hv0,show Array.range 1= #[0] from rfl])
    rw [Sem.run_bind,hrun]; rfl
   ·cases hf
  ·cases hf
 case h_2=>
 split at hf
 ·rename_i t fs hT hfs
  cases hbig:(decide (n*t.size≤16777216)&&t.plain) with
  |false=>rw [hbig] at hf; cases hf
  |true=>
  rw [hbig] at hf
  simp only [cond_true] at hf
  simp only [Bool.and_eq_true,decide_eq_true_eq] at hbig
  obtain ⟨hsmall,hp⟩:=hbig
  split at hf
  ·rename_i dl hdl
   split at hf
   ·rename_i m u l hb
    split at hf
    ·rename_i hut
     obtain ⟨e',he',hq⟩:=Option.map_eq_some_iff.1 hf
     simp only [Prod.mk.injEq,true_and] at hq
     subst hq
     obtain ⟨_,et,hu,hA0⟩:=hE.ty T _ hT
     have hA:fO C.P et t:=hA0
     obtain ⟨ie,z,hie,hz,hzc,hsz,hzs⟩:=kD hA hp
     obtain ⟨I',tk',hF⟩:=kC hV h hfs
     have hvals:=xU (ds:=ds) hV h parts
     obtain ⟨g1,g2⟩:=zX (w:=w) (I:=I') (tk:=tk') (vs:=(parts.toList.map fun (i,x)=>(i,Act.eval ⟨tm,ds⟩ x))) hdl (fun k p v hp hv=>⟨(hvals k p v hp hv).1,hF.val _ _ (hvals k p v hp hv).2⟩)
     have hz0:=NH (w:=w) (I:=I') (tk:=tk') hp hzc hzs n
     have hfr:(Ty.arr n t).frz= .arr n t:=by simp only [Ty.frz,Ty.eZ hp]
     obtain ⟨r,h5,h6,h7,h8⟩:=qM (place:=fun i=>some (i*ie.size,ie.size)) (j4:=true) (t:= .arr n t) (fun i u hu'=>by
      obtain ⟨e1,e2⟩:=Cr hu'
      exact ⟨_,e1,by rw [hsz,e2]⟩) (fun i u hh _=>NS hh) hb hfr rfl hz0 (by rw [g1]; simp [partsOf]) g2
     have h7':Ty.arr m u.frz= .arr n t:=h7
     simp only [Ty.arr.injEq] at h7'
     obtain ⟨rfl,_⟩:=h7'
     subst hut
     have hrun:(Instr.buildSlice T m (parts.map fun (i,x)=>(i,Act.eval ⟨tm,ds⟩ x))).run C.P w= .ok (.slice (some ⟨w.heap.size,0,none⟩) m m) (w.alloc (.cells r et)):=by
      have hb:¬ m*ie.size>2^24:=by rw [hsz]; omega
      rw [← Array.toList_map] at h5
      by_cases h0:m*ie.size=0
      ·have hmk:madeCells z.cells (m*u.size)= #[]:=by rw [← hsz,h0]; simp [madeCells,Array.range_zero']
       rw [hmk] at h5
       simp [Instr.buildSlice,run_underlying hu,sizeOf,typeInfo,zeroValue,hie,hz,h0,newRow,Array.range_zero'] at h5 ⊢
       rw [h5]; rfl
      ·exact run_buildSlice w T et m _ r ie z hu hie hz hb h0 (by rw [hsz] at *; exact h5)
     have hcl:=h6.length
     have hln:l.length=m:=h6.1
     refine aV.row (l:=l) (cap:=m) (cs:=r.toList) (T:=et) hF.inv hd (lg.alloc w _) (by simp) (Blk.alloc w r et) hA hp ?_ (Nat.le_of_eq hln) (by rw [show r.toList.length=(Ty.arr m u).size from hcl]; exact Nat.le_refl _) ?_ he'
     ·simp only [execOp,ho]
      rw [Sem.run_bind,hrun,hln]; rfl
     ·intro i x hx
      refine ⟨_,h6.2.2 i x hx,fun j v hj=> ?_⟩
      rw [dI] at hj
      split at hj
      ·exact hj
      ·cases hj
    ·cases hf
   ·cases hf
  ·cases hf
 ·cases hf
theorem LY {fs:List Pm}:∀ {vs cs:List SV},GV fs vs=some cs→cs.length=vs.length∧∀ (k:Nat) (c:SV),cs[k]?=some c→∃ v,vs[k]?=some v∧((IL v=true∧c=v)∨(IL v=false∧∃ d,oK none (qU fs v)=some d∧c= .p d)):=by
 intro vs
 induction vs with
 |nil=>intro cs h; simp only [GV,Option.some.injEq] at h; subst h; simp
 |cons v vs ih=>
  intro cs h
  simp only [GV] at h
  split at h
  ·rename_i c r hc hr
   cases h
   obtain ⟨h1,h2⟩:=ih hr
   refine ⟨by simp [h1],fun k c' hk=> ?_⟩
   cases k with
   |zero=>
    simp at hk; subst hk
    refine ⟨v,rfl,?_⟩
    cases hp:IL v with
    |true=>rw [hp] at hc; simp only [cond_true,Option.some.injEq] at hc; exact .inl ⟨rfl,hc.symm⟩
    |false=>
     rw [hp] at hc
     simp only [cond_false] at hc
     obtain ⟨d,hd,rfl⟩:=Option.map_eq_some_iff.1 hc
     exact .inr ⟨rfl,d,hd,rfl⟩
   |succ k=>simpa using h2 k c' (by simpa using hk)
  ·cases h
theorem xK.sites {fs:List Pm} (hF:xK C sv st tm w I tk fs I' tk') {v:SV} {x:Value} (hv:dB w I tk v x) (hs:∀ s,s∈v.sites→s∉fs.flatMap Pm.fs):dB w I' tk' v x:=
 (hv.world hF.mono (fun _ _=>rfl) (aU.le.refl _)).congr fun s hs'=>hF.tok s (hs s hs')
theorem FV {f:FuncId} {first caps:Array Operand} (hV:View sv st) (h:Inv C st tm w I tk) (hd:∀ d,o.dst=some d→d<st.sl.length) (ho:o.op= .makeFunc (.func f) first caps) (hf:opP E o sv=some (true,e)):
  aV C o ds (e.run o.dst st) tm w:=by
 simp only [opP,ho] at hf
 split at hf
 ·rename_i fs hfs
  cases hfe:(first.toList.isEmpty&&o9 ((caps.toList.map (ev sv)).flatMap fun v=>bif IL v then v.sites else []) (fs.flatMap Pm.fs)) with
  |false=>rw [hfe] at hf; cases hf
  |true=>
  rw [hfe] at hf
  simp only [cond_true] at hf
  simp only [Bool.and_eq_true] at hfe
  obtain ⟨hfe,hdj⟩:=hfe
  have hfirst:first= #[]:=by
   have:first.toList= []:=List.isEmpty_iff.1 hfe
   exact Array.toList_eq_nil_iff.1 this
  subst hfirst
  obtain ⟨cs,hcs,hq⟩:=Option.map_eq_some_iff.1 hf
  simp only [Prod.mk.injEq,true_and] at hq
  subst hq
  obtain ⟨I',tk',hF⟩:=kC hV h hfs
  obtain ⟨hlen,hget⟩:=LY hcs
  refine aV.of (v:= .clo f cs) (x:= .func (.func f) #[] (caps.map (Act.eval ⟨tm,ds⟩))) ?_ hF.inv (fun d' hd'=>by rw [dm]; exact hd d' hd') ?_
  ·simp only [execOp,ho,Instr.makeFunc]; simp
  ·refine ⟨_,rfl,by simpa using hlen.symm,fun j c x hc hx=> ?_⟩
   obtain ⟨v,hv,hcase⟩:=hget j c hc
   rw [List.getElem?_map] at hv
   obtain ⟨a,ha,rfl⟩:=Option.map_eq_some_iff.1 hv
   have hx':x=Act.eval ⟨tm,ds⟩ a:=by
    have:(caps.map (Act.eval ⟨tm,ds⟩))[j]?=some (Act.eval ⟨tm,ds⟩ a):=by
     rw [Array.getElem?_map]
     rw [Array.getElem?_toList] at ha
     rw [ha]; rfl
    rw [this] at hx; exact (Option.some.inj hx).symm
   subst hx'
   have hr:=fe (ds:=ds) hV h a
   rcases hcase with ⟨hp,rfl⟩|⟨hp,d,hd',rfl⟩
   ·have hr1:dB w I tk (ev sv a) (Act.eval ⟨tm,ds⟩ a):=by
     cases he:ev sv a<;>rw [he] at hp hr<;>first|exact hr|cases hp
    refine hF.sites hr1 fun s hs hm=> ?_
    unfold o9 at hdj
    have:=List.all_eq_true.1 hdj s (List.mem_flatMap.2 ⟨ev sv a,List.mem_map.2 ⟨a,List.mem_of_getElem? ha,rfl⟩,by rw [hp]; exact hs⟩)
    simp only [Bool.not_eq_true',List.any_eq_false] at this
    exact this s hm (beq_iff.2 rfl)
   ·exact jR (hF.val _ _ hr) hd'
 ·cases hf
theorem Ol {d:DV} {x:(t:Ty)×List t.den} (h:kN d=some x):(d.1= .dyn x.1∨∃ n,d.1= .arr n x.1):=by
 obtain ⟨t,y⟩:=d
 cases t<;>simp only [kN,reduceCtorEq] at h
 ·cases h; exact .inr ⟨_,rfl⟩
 ·cases h; exact .inl rfl
theorem Ci (hV:View sv st) (h:Inv C st tm w I tk) {s:SV} {v:Value} {t:Ty} {l:List t.den} (hv:bf w I tk s v) (hs:Cj sv s=some ⟨t,l⟩):
  ∃ ad cap,v= .slice ad l.length cap∧l.length≤cap∧(l= []∨∃ b o,ad=some ⟨b,o,none⟩∧∀ i x,l[i]?=some x→∃ c,ai w I tk t x c∧nZ w b (o+i*t.size) c):=by
 unfold Cj at hs
 split at hs
 ·cases hs
  have hr:=hv.p
  simp only [aA,Ty.isAgg,Bool.false_eq_true,if_false,ai,List.cons.injEq,and_true] at hr
  obtain ⟨ad,cap,rfl,hcap,hr⟩:=hr
  refine ⟨ad,cap,rfl,hcap,hr.imp id ?_⟩
  rintro ⟨_,b,o,e,_,hel⟩
  exact ⟨b,o,e,hel⟩
 ·rename_i s0 t0
  split at hs
  ·rename_i u x hb
   cases hs
   obtain ⟨q,h1,h2,rfl⟩:=hv
   obtain ⟨q',h3,h4⟩:=h.boxes _ _ (hV.box _ _ hb)
   rw [h1] at h3; cases h3
   obtain ⟨g1,hp,g2,g3,g4,g5⟩:=h4
   refine ⟨q.ad,q.cap,by unfold Tk.hdr; rw [g2],g3,?_⟩
   rcases g5 with ⟨_,g5⟩|⟨b,e1,e2,cs,e3,e4,e5⟩
   ·left
    have:x.2.length=0:=by have:=g3; omega
    exact List.length_eq_zero_iff.1 this
   ·right
    refine ⟨b,q.off,e2,fun i y hy=> ?_⟩
    obtain ⟨c,hc,hcv⟩:=e5 i y hy
    exact ⟨c,hc,fun j v hj=>by rw [e3.cell]; exact hcv j v hj⟩
  ·cases hs
 ·rename_i s0 t0 pa lo n
  split at hs
  ·rename_i d hb
   split at hs
   ·rename_i y hg
    cases hok:(pa.isEmpty|| !y.1.bL) with
    |false=>rw [hok] at hs; cases hs
    |true=>
    rw [hok] at hs
    simp only [cond_true] at hs
    split at hs
    case h_2=>cases hs
    rename_i x hy
    cases hs
    obtain ⟨q,hq,hvs⟩:=hv
    obtain ⟨q',h3,h4⟩:=h.boxes _ _ (hV.box _ _ hb)
    rw [hq] at h3; cases h3
    rcases hvs with ⟨rfl,hty,hl,ad',rfl,ha,hn⟩|⟨b,off,m,hat,hin,hl,ad',rfl,ha⟩
    ·have hyd:y=d:=by
      have:some d=some y:=by rw [← hg]; obtain ⟨dt,dx⟩:=d; cases dt<;>rfl
      exact (Option.some.inj this).symm
     subst hyd
     obtain ⟨yt,yx⟩:=y
     cases yt<;>simp only [kN,reduceCtorEq] at hy
     ·exfalso
      obtain ⟨g1,_⟩:=(aI.str (t:= .arr _ _) (x:=yx) rfl).1 h4
      rw [hty] at g1; cases g1
     ·rename_i u0
      cases hy
      obtain ⟨g1,hp,g2,g3,g4,g5⟩:=h4
      have hsz:t0.size=u0.size:=by
       rw [hty] at g1
       simp only [Ty.frz,Ty.dyn.injEq] at g1
       rw [g1,Ty.fA]
      have hlen:((yx.2.drop lo).take n).length=n:=by simp; omega
      refine ⟨ad',q.cap - lo,by rw [hlen],by rw [hlen]; omega,?_⟩
      by_cases hn0:n=0
      ·left; subst hn0; simp
      ·right
       rcases g5 with ⟨_,g5⟩|⟨b,e1,e2,cs,e3,e4,e5⟩
       ·omega
       ·refine ⟨b,q.off+lo*t0.size,by rw [ha (by omega),e2]; simp [addr_add],fun i z hz=> ?_⟩
        obtain ⟨hi,hz⟩:=rP _ _ _ _ _ hz
        obtain ⟨c,hc,hcv⟩:=e5 _ z hz
        refine ⟨c,hc,fun j v hj=> ?_⟩
        rw [e3.cell]
        have:=hcv j v hj
        have hm:(lo+i)*u0.size=lo*u0.size+i*u0.size:=Nat.add_mul _ _ _
        rw [hm] at this
        dsimp only
        rw [← this,hsz]; congr 1; omega
    ·have htop:y.1.bL=false:=by
      cases pa with
      |nil=>
       cases ht:y.1.bL with
       |false=>rfl
       |true=>
        exfalso
        have hyd:y=d:=by
         have:some d=some y:=by rw [← hg]; obtain ⟨dt,dx⟩:=d; cases dt<;>rfl
         exact (Option.some.inj this).symm
        subst hyd
        obtain ⟨yt,yx⟩:=y
        cases yt<;>first|(cases ht; done)|skip
        ·obtain ⟨_,_,g2,_⟩:=Tk.ol (by rw [h4.1]; rfl) hat
         rw [fK,h4.1] at g2; cases g2
        ·obtain ⟨_,_,g2,_⟩:=Tk.ol (by rw [h4.1]; rfl) hat
         rw [fK,h4.1] at g2; cases g2
        ·unfold Tk.at at hat
         rw [h4.1] at hat
         cases hat
      |cons s pa=>simpa using hok
     rcases Ol hy with hdy|⟨m0,hary⟩
     ·rw [hdy] at htop; cases htop
     ·obtain ⟨yt,yx⟩:=y
      obtain ⟨xt,xl⟩:=x
      dsimp only at hary
      subst hary
      cases hy
      obtain ⟨_,cs,f1,f2,f3,f4⟩:=SS h4 hat hg hin rfl
      simp only [Ty.frz,Ty.arr.injEq] at f1
      obtain ⟨rfl,ht0⟩:=f1
      obtain ⟨k1,k2,k3⟩:=f4
      have k1':xl.length=m:=k1
      have hlen:((xl.drop lo).take n).length=n:=by simp; omega
      refine ⟨some ad',m - lo,by rw [hlen],by rw [hlen]; omega,?_⟩
      by_cases hn0:n=0
      ·left; subst hn0; simp
      ·right
       have hsz:t0.size=xt.size:=by rw [ht0,Ty.fA]
       refine ⟨b,off+lo*t0.size,by rw [ha (by omega)],fun i z hz=> ?_⟩
       obtain ⟨hi,hz⟩:=rP _ _ _ _ _ hz
       refine ⟨_,k3 _ z hz,fun j v hj=> ?_⟩
       rw [dI] at hj
       split at hj
       ·rw [dI] at hj
        split at hj
        ·have hm:(lo+i)*xt.size=lo*xt.size+i*xt.size:=Nat.add_mul _ _ _
         simp only [Ty.size] at hj ⊢
         rw [hm] at hj
         rw [f2.cell,← hj,hsz]; congr 1; omega
        ·cases hj
       ·cases hj
   ·cases hs
  ·cases hs
 ·split at hs
  ·rename_i r hr
   cases hs
   obtain ⟨q,rt,g1,g2,g3,rfl,h1,h2,h3⟩:=row_of hV h hv hr
   refine ⟨rt.ad,rt.cap,by unfold RTk.hdr; rw [h1],h2,?_⟩
   rcases h3 with ⟨_,h3⟩|⟨b,e1,e2,cs,e3,e4,e5⟩
   ·left
    exact List.length_eq_zero_iff.1 (by omega)
   ·right
    refine ⟨b,rt.off,e2,fun i y hy=> ?_⟩
    obtain ⟨c,hc,hcv⟩:=e5 i y hy
    exact ⟨c,hc,fun j v hj=>by rw [e3.cell]; exact hcv j v hj⟩
  ·cases hs
 ·cases hs
end Go.Own
set_option linter.unusedVariables false
namespace Go.Own
variable {C:Cx} {P:Program} {E:Env} {w w' w2:World} {I I':Nat→Prop} {st sv:St} {tm:Array Value} {tk tk':aU} {ds:List Deferred} {o:Oper} {e:Ef}
theorem Ls (hE:eD C.P E) (hV:View sv st) (h:Inv C st tm w I tk) {T R:TypeId} {Ts:List TypeId} {s:SV} {v:Value} {d:DV} (hv:bf w I tk s v) (hl:Sv E sv T s=some d):
  ∃ u,(Builtin.len_ (T::Ts).toArray R #[v]).run C.P w= .ok u w∧bf w I tk (.p d) u:=by
 have hT0:((T::Ts).toArray)[0]?=some T:=by simp
 have num:∀ n:Nat,bf w I tk (.p ⟨.int .i64,(n:Int)⟩) (goInt n):=fun n=>dF.2 rfl
 have viaSeq:∀ {t:Ty},E.T T=some (.sl t)→(Cj sv s).map (fun s=>(⟨.int .i64,(s.2.length:Int)⟩:DV))=some d→∃ u,(Builtin.len_ (T::Ts).toArray R #[v]).run C.P w= .ok u w∧bf w I tk (.p d) u:=by
  intro t hT hl
  obtain ⟨⟨t',l⟩,hs,rfl⟩:=Option.map_eq_some_iff.1 hl
  obtain ⟨_,e,hu,_⟩:=hE.ty T _ hT
  obtain ⟨ad,cap,rfl,_⟩:=Ci hV h hv hs
  exact ⟨goInt l.length,by simp [Builtin.len_,run_underlying hu],num _⟩
 unfold Sv at hl
 split at hl
 ·rename_i b
  split at hl
  ·rename_i hT
   cases hl
   have hA:=hE.ty T _ hT
   have e:=ow.1 hv
   exact ⟨goInt b.size,by simp [Builtin.len_,run_underlying hA.2,e],num _⟩
  ·cases hl
 ·rename_i s0 t0 pa lo n
  split at hl
  ·rename_i t hT
   cases hl
   obtain ⟨_,e,hu,_⟩:=hE.ty T _ hT
   obtain ⟨q,_,⟨_,_,_,ad',rfl,_⟩|⟨b,off,m,_,_,_,ad',rfl,_⟩⟩:=hv
   ·exact ⟨goInt n,by simp [Builtin.len_,run_underlying hu],num _⟩
   ·exact ⟨goInt n,by simp [Builtin.len_,run_underlying hu],num _⟩
  ·cases hl
 ·split at hl
  ·rename_i s0 k0 v0 s1 k1 v1 k x l hT hb
   cases hl
   obtain ⟨_,_,c,d,hu,_⟩:=hE.ty T _ hT
   obtain ⟨q,b,h1,h2,h3,rfl⟩:=hv
   obtain ⟨q',h4,h5⟩:=h.boxes _ _ (hV.box _ _ hb)
   rw [h1] at h4; cases h4
   obtain ⟨_,b',h6,es,clock,h7,_,_,_,h8,_⟩:=h5
   have hg:=MapKept.run_getObj_map (P:=C.P) h7
   rw [h3] at h6; cases h6
   exact ⟨goInt l.length,by simp [Builtin.len_,run_underlying hu,hg,h8,Result.andThen],num _⟩
  ·cases hl
 ·split at hl
  ·rename_i t hT
   cases hl
   obtain ⟨_,e,hu,_⟩:=hE.ty T _ hT
   have e:v= .slice none 0 0:=hv
   exact ⟨goInt 0,by simp [Builtin.len_,run_underlying hu,e],num 0⟩
  ·cases hl
 ·split at hl
  ·rename_i n t hT
   cases hl
   obtain ⟨_,e,hu,_⟩:=hE.ty T _ hT
   exact ⟨goInt n,by simp [Builtin.len_,run_underlying hu],num _⟩
  ·rename_i t hT
   exact viaSeq hT hl
  ·cases hl
theorem NF (mx:Bool):∀ (r:List SV) (s:SV) (v:Value) (vs:List Value) (d:DV),maxS mx s r=some d→bf w I tk s v→vs.length=r.length→
  (∀ (k:Nat) (s:SV) (v:Value),r[k]?=some s→vs[k]?=some v→bf w I tk s v)→
  ∃ u,(vs.foldlM (bif mx then Builtin.max2 else Builtin.min2) v).run P w= .ok u w∧bf w I tk (.p d) u:=by
 intro r
 induction r with
 |nil=>
  intro s v vs d h hv hl _
  cases vs with
  |cons=>cases hl
  |nil=>
   cases s with
   |p e=>
    have:some e=some d:=by simpa [maxS] using h
    cases this
    exact ⟨v,rfl,hv⟩
   |_=>simp [maxS] at h
 |cons s2 r ih=>
  intro s v vs d h hv hl hvs
  cases vs with
  |nil=>cases hl
  |cons v2 vs=>
   have hv2:=hvs 0 s2 v2 rfl rfl
   have hform:∃ k x k' y,s= .p ⟨.int k,x⟩∧s2= .p ⟨.int k',y⟩:=by
    unfold maxS at h
    split at h
    ·rename_i heq; cases heq
    ·rename_i heq; cases heq; exact ⟨_,_,_,_,rfl,rfl⟩
    ·cases h
   obtain ⟨k,x,k',y,rfl,rfl⟩:=hform
   have h':maxS mx (.p ⟨.int k,bif mx then (bif decide (y>x) then y else x) else (bif decide (y<x) then y else x)⟩) r=some d:=h
   have e3:=dF.1 hv
   have e4:=dF.1 hv2
   obtain ⟨u,hu,hr⟩:=ih _ (.int k (bif mx then (bif decide (y>x) then y else x) else (bif decide (y<x) then y else x))) vs d h' (dF.2 rfl) (by simpa using hl)
    (fun q s v h1 h2=>hvs (q+1) s v (by simpa using h1) (by simpa using h2))
   refine ⟨u,?_,hr⟩
   rw [List.foldlM_cons,Sem.run_bind,e3,e4]
   have:((bif mx then Builtin.max2 else Builtin.min2) (Value.int k x) (Value.int k' y)).run P w= .ok (.int k (bif mx then (bif decide (y>x) then y else x) else (bif decide (y<x) then y else x))) w:=by
    cases mx
    ·simp only [cond_false,Builtin.min2,Sem.run_pure]
     congr 2
     by_cases hyx:y<x<;>simp [hyx]
    ·simp only [cond_true,Builtin.max2,Sem.run_pure]
     congr 2
     by_cases hyx:y>x<;>simp [hyx]
   rw [this]
   exact hu
theorem fO.und {T:TypeId} {t:Ty} (h:fO P T t):∃ u,P.underlying T=some u:=by
 cases t
 case int k=>exact ⟨_,h.2⟩
 case bool=>exact ⟨_,h.2⟩
 case str=>exact ⟨_,h.2⟩
 case flt=>exact ⟨_,h.2⟩
 case unit=>obtain ⟨_,_,fs,h,_⟩:=h; exact ⟨_,h⟩
 case pair=>obtain ⟨_,_,_,fs,h,_⟩:=h; exact ⟨_,h⟩
 case arr=>obtain ⟨_,e,h,_⟩:=h; exact ⟨_,h⟩
 case sl=>obtain ⟨_,e,h,_⟩:=h; exact ⟨_,h⟩
 case ref=>obtain ⟨_,e,h,_⟩:=h; exact ⟨_,h⟩
 case nif=>obtain ⟨_,e,h⟩:=h; exact ⟨_,h⟩
 case slf=>obtain ⟨_,e,h⟩:=h; exact ⟨_,h⟩
 case mp=>obtain ⟨_,_,c,d,h,_⟩:=h; exact ⟨_,h⟩
 all_goals exact h.elim
theorem IC {S T:TypeId} {x:Operand} (hE:eD C.P E) (hV:View sv st) (h:Inv C st tm w I tk) (hd:∀ d,o.dst=some d→d<st.sl.length) (ho:o.op= .convert S T x) (hf:opP E o sv=some (true,e)):
  aV C o ds (e.run o.dst st) tm w:=by
 have hx:=fe (ds:=ds) hV h x
 simp only [opP,ho] at hf
 split at hf
 ·rename_i k1 k hS hT
  obtain ⟨_,hu1⟩:=hE.ty S _ hS
  obtain ⟨_,hu2⟩:=hE.ty T _ hT
  split at hf
  ·rename_i k' n e
   simp only [Option.some.injEq,Prod.mk.injEq,true_and] at hf; subst hf
   rw [e] at hx
   have e1:=dF.1 hx
   refine aV.v (x:= .int k (k.wrap n)) h hd ?_ (dF.2 rfl)
   simp [execOp,ho,e1,convert,run_underlying hu1,run_underlying hu2,Conv.intToInt]
  ·cases hf
 ·cases hf
end Go.Own
