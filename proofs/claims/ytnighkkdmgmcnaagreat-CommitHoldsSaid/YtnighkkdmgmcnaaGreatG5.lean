/- What functions compute, printed by wip/gen/gen2.py. -/
import Derived.Test.YtnighkkdmgmcnaaGreatG4
import Derived.Test.YtnighkkdmgmcnaaGreatW14
import Derived.Shelf.Abstract
import Derived.Shelf.RegionOpen
import Derived.WalkKit
import Derived.OwnWalkIn
import Derived.TacticsInMore
import Derived.LoopNIn
import Derived.LoopIn
set_option linter.unusedVariables false
set_option linter.unusedSimpArgs false
set_option maxRecDepth 100000
noncomputable section
namespace Go.Own
open Go.Proofs Go.Proofs.YtnighkkdmgmcnaaGreat
open Go.RowKit Go.Shelf
attribute [local go_sem] Oper.semAt_some
namespace jy
def up (len k:Nat):List (Fin len):=(List.range k).filterMap fun j=>if h:len - 1 - j<len then some ⟨len - 1 - j,h⟩ else none
theorem Du {len k:Nat} (h:k<len):up len (k+1)=up len k++ [⟨len - 1 - k,by omega⟩]:=by
 unfold up
 rw [List.range_succ,List.filterMap_append]
 congr 1
 simp only [List.filterMap_cons,List.filterMap_nil]
 rw [dif_pos (by omega)]
theorem Ms {len:Nat}:∀ {k:Nat},k≤len→(up len k).length=k
 |0,_=>rfl
 |k+1,h=>by rw [Du (by omega),List.length_append,Ms (by omega)]; rfl
theorem Mv (f:List (List Int)):∀ k,k≤f.length→(up f.length k).map (fun i=>f.getD i.1 [])=(f.drop (f.length - k)).reverse
 |0,_=>by rw [Nat.sub_zero,List.drop_length]; rfl
 |k+1,h=>by
  rw [Du (by omega),List.map_append,Mv f k (by omega),List.drop_eq_getElem_cons (show f.length - (k+1)<f.length by omega),List.reverse_cons,show f.length - (k+1)+1=f.length - k by omega]
  congr 1
  simp only [List.map_cons,List.map_nil]
  rw [show f.length - 1 - k=f.length - (k+1) by omega,List.getD_eq_getElem?_getD,List.getElem?_eq_getElem (by omega)]
  rfl
set_option maxHeartbeats 2000000 in
theorem Ub (F:Fence) (n:Nat) (h7:F.fn 126) (hro:F.round=none) (hn:1≤n) (l Bs b off len cap:Nat) (ad:Option Addr) (had:0<len→ad=some ⟨b,off,none⟩) (cs:Nat→Nat→Value) (Kp:World→World→Prop) (J Jx:List (Fin len)→World→Prop)
  (hrefl:∀ W,Kp W W) (htr:∀ A B C,Kp A B→Kp B C→Kp A C)
  (hY:∀ pre (x:Fin len) W,J pre W→pre.length<len→YieldAt F (n - 1) Tryz.prog l #[.int .i64 (x.1:Int),Value.agg #[cs x.1 0,cs x.1 1,cs x.1 2,cs x.1 3]] W fun e W'=>
   (e= .returned (.bool true)∧J (pre++ [x]) W'∧Kp W W')∨(e= .returned (.bool false)∧Jx (pre++ [x]) W'))
  (W:World) (hBs:∀ V,Kp W V→V.cell? ⟨Bs,0,none⟩=some (.slice ad len cap)) (hc:∀ V,Kp W V→∀ j,j<len→∀ m,m<4→V.cell? ⟨b,off+j*4+m,none⟩=some (cs j m)) (hlen:len≤9223372036854775807) (h0:J [] W):
  CallsIn F n Tryz.prog 126 #[.func (.yield l) #[] #[],.pointer (some ⟨Bs,0,none⟩)] W fun e W'=>(∃ v,e= .returned v)∧
   ((∃ ys,ys=up len len∧J ys W')∨(∃ pre,True∧Jx pre W')):=by
 refine callsIn_of_wp Tryz.func126 rfl h7 ?_ hro
 simp only [Tryz.ntmps126,List.size_toArray,List.length_cons,List.length_nil,Nat.reduceAdd,Nat.reduceSub,Array.replicate_succ,Array.replicate_zero,List.push_toArray,List.append_toArray,List.nil_append,List.cons_append]
 have hb:=hBs W (hrefl W)
 gi_wp2
 gi_loopw [3] (fun i wr=>∃ k:Nat,k≤len∧i= .int .i64 ((len:Int) - 1 - (k:Int))∧J (up len k) wr∧Kp W wr)
  (fun i _=>(Go.RowKit.intOf i+1).toNat)
 case atStart=>exact ⟨0,Nat.zero_le _,by simp,h0,hrefl _⟩
 case round=>
  obtain ⟨k,hk,rfl,hJs,hnx⟩:=hrel
  have hbx:=hBs wr hnx
  by_cases hlt:k<len
  ·obtain rfl:=had (by omega)
   obtain ⟨fn,tmps,assign,body,hy,hR⟩:=hY _ ⟨len - 1 - k,by omega⟩ wr hJs (by rw [Ms hk]; exact hlt)
   have hc0:=hc wr hnx (len - 1 - k) (by omega) 0 (by omega)
   have hc1:=hc wr hnx (len - 1 - k) (by omega) 1 (by omega)
   have hc2:=hc wr hnx (len - 1 - k) (by omega) 2 (by omega)
   have hc3:=hc wr hnx (len - 1 - k) (by omega) 3 (by omega)
   rw [Nat.add_zero] at hc0
   have hkk:((len - 1 - k:Nat):Int)=(len:Int) - 1 - (k:Int):=by omega
   dsimp only at hy hR
   rw [hkk] at hy
   gi_wp2
   refine hR.mono ?_
   rintro e W3 (⟨rfl,hJ3,hk3⟩|⟨rfl,hJx3⟩)
   ·gi_wp2
    go_roundw
    case rel=>exact ⟨k+1,by omega,by congr 1; omega,by rw [Du hlt]; exact hJ3,htr _ _ _ hnx hk3⟩
    case measure=>simp [Go.RowKit.intOf]; omega
   ·gi_wp2
    refine bodyPost_ret (results_none rfl _ _ _) rfl ?_
    exact ⟨⟨_,rfl⟩,.inr ⟨_,trivial,hJx3⟩⟩
  ·obtain rfl:k=len:=by omega
   gi_wp2
   go_end0
   exact ⟨⟨_,rfl⟩,.inl ⟨_,rfl,hJs⟩⟩
set_option maxHeartbeats 1000000 in
theorem QO (F:Fence) (n:Nat) (h5:F.fn 93) (hro:F.round=none) (a:Option Addr) (len cap:Nat) (w:World):
  CallsIn F n Tryz.prog 93 #[.slice a len cap] w fun e w'=>e= .returned (.func (.func 126) #[] #[.pointer (some ⟨w.heap.size,0,none⟩)])∧w'=w.alloc (.cells #[.slice a len cap] 22):=by
 refine callsIn_of_wp Tryz.func93 rfl h5 ?_ hro
 simp only [Tryz.ntmps93,List.size_toArray,List.length_cons,List.length_nil,Nat.reduceAdd,Nat.reduceSub,Array.replicate_succ,Array.replicate_zero,List.push_toArray,List.append_toArray,List.nil_append,List.cons_append]
 gi_wp2
 go_ret
 exact ⟨rfl,rfl⟩
abbrev tN:Ty:= .arr 4 (.int .u64)
abbrev GT:Ty:= .ref ak
def step (g:GT.den) (x:List Int) (w:Bool×List Int) (a:List Int):Bool×List Int:=
 lt (gY.r g w.2 x) fun m=>lt (gZ.r g m.2 a) fun s=>(w.1&&(m.1&&s.1),s.2)
def fold (g:GT.den) (x:List Int) (l:List (List Int)):Bool×List Int:=l.foldl (step g x) (true,[0,0,0,0])
abbrev X:Type:=List Int
def r (g:GT.den) (f:List (List Int)) (x:List Int):Bool×X:=(@decide (f.length≤9223372036854775807∧∀ l:List (List Int),(∀ a∈l,a∈f)→(fold g x l).1=true) (Classical.propDecidable _),(fold g x f.reverse).2)
def Fix (A W:World) (n b:Nat):Prop:=W.os=A.os∧W.output=A.output∧W.tape=A.tape∧n≤W.heap.size∧∀ k,k<n→k≠b→W.heap[k]?=A.heap[k]?
theorem Fix.grown {A W W':World} {n b:Nat} {row:Option Nat} (h:Fix A W n b) (hg:W.grownBy W' row) (hr:∀ r,row=some r→n≤r):Fix A W' n b:=
 ⟨hg.os.trans h.1,hg.output.trans h.2.1,hg.tape.trans h.2.2.1,Nat.le_trans h.2.2.2.1 hg.size,fun k hk hb=>(hg.block k (Nat.lt_of_lt_of_le hk h.2.2.2.1) (fun e=>by have:=hr k e.symm; omega)).trans (h.2.2.2.2 k hk hb)⟩
theorem yC {W W':World} {row:Option Nat} {b:Nat} {e:TypeId} {cs:List Value} (h:Blk W b e cs) (hg:W.grownBy W' row) (hr:some b≠row):Blk W' b e cs:=by
 have hlt:b<W.heap.size:=by obtain ⟨c,fr,h1,_⟩:=h; exact (Array.getElem?_eq_some_iff.1 h1).1
 exact h.of_block (hg.block b hlt hr)
theorem Dk {W:World} {b:Nat} {e:TypeId} {cs:List Value} (h:Blk W b e cs):∃ o:Obj,W.heap[b]?=some o∧o.isCells=true:=by
 obtain ⟨c,fr,h1,_⟩:=h; exact ⟨_,h1,rfl⟩
theorem tX (a:Array Obj) (o:Obj) {n:Nat} (h:a.size=n):(a.push o)[n]?=some o:=by subst h; simp
theorem lM {a:Array Obj} {o o':Obj} {n:Nat} (h:a[n]?=some o'):(a.push o)[n]?=some o':=by
 have:=(Array.getElem?_eq_some_iff.1 h).1
 rw [Array.getElem?_push_lt this,← h,Array.getElem?_eq_getElem this]
theorem zy (tk:aU):(xtk []).le tk:=fun s k h=>by
 unfold xtk at h
 split at h<;>simp at h
def oN (b:Nat):Tk:=⟨some b,0,none,0,0,.arr 4 (.int .u64),40,[]⟩
theorem kR {b k:Nat} (h:(oN b).own k):b=k:=by
 rcases h with h|⟨r,hr,_⟩
 ·exact Option.some.inj h
 ·exact absurd hr List.not_mem_nil
theorem Ah {w:World} {I:Nat→Prop} {tk:aU} {l:List Int} {cs:List Value} (h:ai w I tk tN l cs):l.length=4∧cs=l.map (Value.int .u64):=by
 obtain ⟨h1,h2,h3⟩:=h
 refine ⟨h1,?_⟩
 have h2':cs.length=4:=h2
 apply List.ext_getElem?
 intro i
 rw [List.getElem?_map]
 rcases Nat.lt_or_ge i 4 with hi|hi
 ·have hl:l[i]?=some l[i]:=List.getElem?_eq_getElem (by omega)
  have:=h3 i _ hl
  have e:(cs.drop (i*1)).take 1= [Value.int .u64 l[i]]:=this
  rw [hl,Nat.mul_one] at*
  have:=congrArg (fun z=>z[0]?) e
  simpa using this
 ·rw [List.getElem?_eq_none (by omega),List.getElem?_eq_none (by omega)]; rfl
theorem xu {w:World} {I:Nat→Prop} {tk:aU} {l:List Int} (h:l.length=4):ai w I tk tN l (l.map (Value.int .u64)):=by
 refine ⟨h,by simp [h,Ty.size],fun i x hx=> ?_⟩
 show ((l.map (Value.int .u64)).drop (i*1)).take 1= [Value.int .u64 x]
 have hi:i<l.length:=(List.getElem?_eq_some_iff.1 hx).1
 have hxi:l[i]=x:=(List.getElem?_eq_some_iff.1 hx).2
 rw [Nat.mul_one,List.drop_eq_getElem_cons (by simpa using hi)]
 simp [hxi]
theorem TS:Tryz.f60.name≠ "runtime.NumGoroutine" :=by
 have h:(Tryz.f60.name== "runtime.NumGoroutine")=false:=by kernel_rfl
 simpa using h
theorem Ro (b:Nat):oG Tryz.prog (oN b):=hE0.ty 40 (.arr 4 (.int .u64)) (by kernel_rfl)
noncomputable abbrev DD:aH:=Dof (P:=Tryz.prog) [gY.ent,gZ.ent]
def stB (g:GT.den) (x acc a:List Int):St:=
 ⟨[.dead,.dead,.dead,.p ⟨.ref GT,some g⟩,.dead,.p ⟨.ref tN,some x⟩,.dead,.pb (site 0) tN [],.dead,.pb (site 1) tN [],.dead,.dead,.dead,.dead,.dead,.dead,.dead,.dead,.dead,.dead,.dead,.dead],iC 0 [⟨tN,acc⟩,⟨tN,a⟩]⟩
theorem LH (g:GT.den) (x:List Int) (l:List (List Int)) (a:List Int):fold g x (l++ [a])=step g x (fold g x l) a:=by unfold fold; rw [List.foldl_append]; rfl
set_option maxHeartbeats 4000000 in
theorem SE (g:GT.den) (f:List (List Int)) (x:List Int) (hfl:f.length≤9223372036854775807) (hr:∀ l:List (List Int),(∀ a∈l,a∈f)→(fold g x l).1=true):Good Tryz.prog 60 [.val ⟨GT,g⟩,.val ⟨.sl tN,f⟩,.val ⟨tN,x⟩] [] ⟨[.val ⟨tN,(fold g x f.reverse).2⟩],[],[]⟩:=by
 intro w I xs args hxl hg
 left
 have hxs:xs= []:=List.length_eq_zero_iff.1 hxl
 subst hxs
 have hsz:args.size=3:=by have:=hg.len; simpa [jS] using this.symm
 obtain ⟨v0,v1,v2,rfl⟩:∃ v0 v1 v2,args= #[v0,v1,v2]:=by
  obtain ⟨l⟩:=args
  match l,hsz with
  | [a,b,c],_=>exact ⟨a,b,c,rfl⟩
 obtain ⟨-,q0⟩:_∧aA w I (xtk []) GT g v0:=hg.slots 0 (by simp [jS])
 obtain ⟨-,q1⟩:_∧aA w I (xtk []) (.sl tN) f v1:=hg.slots 1 (by simp [jS])
 obtain ⟨-,q2⟩:_∧aA w I (xtk []) tN x v2:=hg.slots 2 (by simp [jS])
 have q0':ai w I (xtk []) GT g [v0]:=q0
 obtain ⟨p0,rfl⟩:∃ p,v0= .pointer p:=by
  cases g with
  |none=>have: [v0]= [Value.pointer none]:=q0'; cases this; exact ⟨_,rfl⟩
  |some y=>obtain ⟨_,b,o,c,e,_⟩:=q0'; cases e; exact ⟨_,rfl⟩
 obtain ⟨ad,cap,e1,hcap,hf⟩:ai w I (xtk []) (.sl tN) f [v1]:=q1
 cases e1
 obtain ⟨xa,rfl,hxc⟩:∃ cs:Array Value,v2= .agg cs∧ai w I (xtk []) tN x cs.toList:=q2
 obtain ⟨hx4,hxe⟩:=Ah hxc
 obtain ⟨xl⟩:=xa
 simp only at hxe
 subst hxe
 match x,hx4 with
 | [x0,x1,x2,x3],_=>
 simp only [List.map_cons,List.map_nil]
 refine ⟨_,Tryz.func60,TS,by kernel_rfl,?_⟩
 refine (callsIn_wide (n:=5)).1 ?_
 refine callsIn_of_wp_marks Tryz.func60 rfl trivial ?_ rfl
 simp only [Tryz.ntmps60,List.size_toArray,List.length_cons,List.length_nil,Nat.reduceAdd,Nat.reduceSub,Array.replicate_succ,Array.replicate_zero,List.push_toArray,List.append_toArray,List.nil_append,List.cons_append]
 gi_wp2_with (refine ⟨trivial,?_⟩; gi_at_call 93; refine (QO Fence.wide 4 trivial rfl _ _ _ _).mono ?_; rintro e w' ⟨rfl,rfl⟩)
 obtain ⟨w1,hw1⟩:∃ w1,(((((w.alloc (Obj.cells #[Value.pointer p0] 25)).alloc (Obj.cells {toList:= [Value.int IntKind.u64 x0,Value.int IntKind.u64 x1,Value.int IntKind.u64 x2,Value.int IntKind.u64 x3]} 40)).alloc (Obj.cells #[Value.int IntKind.u64 0,Value.int IntKind.u64 0,Value.int IntKind.u64 0,Value.int IntKind.u64 0] 40)).alloc
     (Obj.cells #[Value.int IntKind.u64 0,Value.int IntKind.u64 0,Value.int IntKind.u64 0,Value.int IntKind.u64 0] 40)).alloc (Obj.cells #[Value.slice ad f.length cap] 22))=w1:=⟨_,rfl⟩
 rw [hw1]
 obtain ⟨n0,hn0⟩:∃ n0,w.heap.size=n0:=⟨_,rfl⟩
 have hs1:w1.heap.size=n0+5:=by rw [← hw1]; simp; omega
 have hB0:Below w.heap.size w w1:=by
  rw [← hw1]
  exact (((((Below.refl _ w).alloc (Nat.le_refl _) _).alloc (by simp) _).alloc (by simp; omega) _).alloc (by simp; omega) _).alloc (by simp; omega) _
 have hhp:w1.heap=((((w.heap.push (Obj.cells #[Value.pointer p0] 25)).push (Obj.cells {toList:= [Value.int IntKind.u64 x0,Value.int IntKind.u64 x1,Value.int IntKind.u64 x2,Value.int IntKind.u64 x3]} 40)).push (Obj.cells #[Value.int IntKind.u64 0,Value.int IntKind.u64 0,Value.int IntKind.u64 0,Value.int IntKind.u64 0] 40)).push
     (Obj.cells #[Value.int IntKind.u64 0,Value.int IntKind.u64 0,Value.int IntKind.u64 0,Value.int IntKind.u64 0] 40)).push (Obj.cells #[Value.slice ad f.length cap] 22):=by rw [← hw1]; rfl
 have e0:w1.heap[n0]?=some (Obj.cells #[Value.pointer p0] 25):=by rw [hhp]; exact lM (lM (lM (lM (tX _ _ hn0))))
 have e1:w1.heap[n0+1]?=some (Obj.cells {toList:= [Value.int IntKind.u64 x0,Value.int IntKind.u64 x1,Value.int IntKind.u64 x2,Value.int IntKind.u64 x3]} 40):=by rw [hhp]; exact lM (lM (lM (tX _ _ (by simp [hn0]))))
 have e2:w1.heap[n0+2]?=some (Obj.cells #[Value.int IntKind.u64 0,Value.int IntKind.u64 0,Value.int IntKind.u64 0,Value.int IntKind.u64 0] 40):=by rw [hhp]; exact lM (lM (tX _ _ (by simp [hn0])))
 have e3:w1.heap[n0+3]?=some (Obj.cells #[Value.int IntKind.u64 0,Value.int IntKind.u64 0,Value.int IntKind.u64 0,Value.int IntKind.u64 0] 40):=by rw [hhp]; exact lM (tX _ _ (by simp [hn0]))
 have e4:w1.heap[n0+4]?=some (Obj.cells #[Value.slice ad f.length cap] 22):=by rw [hhp]; exact tX _ _ (by simp [hn0])
 have hIlt:∀ b,I b→b<n0:=fun b hb=>by rw [← hn0]; exact hg.ilt b hb
 have hkeepI:∀ W,Fix w1 W (n0+5) (n0+3)→∀ b,I b→W.heap[b]?=w.heap[b]?:=fun W hW b hb=>(hW.2.2.2.2 b (by have:=hIlt b hb; omega) (by have:=hIlt b hb; omega)).trans (hB0.block b (by rw [hn0]; exact hIlt b hb))
 have hf4:∀ i,i<f.length→(f.getD i []).length=4∧∃ b o,ad=some ⟨b,o,none⟩∧I b∧∀ m,m<4→w.cell? ⟨b,o+i*4+m,none⟩=some (.int .u64 ((f.getD i []).getD m 0)):=by
  intro i hi
  rcases hf with rfl|⟨_,b,o,h1,h2,h3⟩
  ·simp at hi
  ·have hfi:f[i]?=some (f.getD i []):=by rw [List.getD_eq_getElem?_getD,List.getElem?_eq_getElem hi]; rfl
   obtain ⟨c,h4,h5⟩:=h3 i _ hfi
   obtain ⟨h6,h7⟩:=Ah h4
   refine ⟨h6,b,o,h1,h2,fun m hm=> ?_⟩
   refine h5 m _ ?_
   have hm':m<(f.getD i []).length:=by omega
   rw [h7,List.getElem?_map,List.getElem?_eq_getElem hm',Option.map_some]
   refine congrArg (fun z=>some (Value.int .u64 z)) ?_
   rw [List.getD_eq_getElem?_getD (l:=f.getD i []),List.getElem?_eq_getElem hm']
   rfl
 obtain ⟨el,hel⟩:∃ el:Nat→Nat→Int,∀ i m,el i m=(f.getD i []).getD m 0:=⟨fun i m=>(f.getD i []).getD m 0,fun _ _=>rfl⟩
 have hea:∀ i,i<f.length→∀ a,f.getD i []=a→a= [el i 0,el i 1,el i 2,el i 3]:=by
  intro i hi a ha
  subst ha
  have h4:=(hf4 i hi).1
  have e:∀ m,el i m=(f.getD i []).getD m 0:=hel i
  rw [e,e,e,e]
  generalize f.getD i []=a at h4
  match a,h4 with
  | [_,_,_,_],_=>rfl
 simp only [← hel] at hf4
 clear hel
 obtain ⟨acc,hacc⟩:∃ acc:List (Fin f.length)→List Int,acc=fun pre=>(fold g [x0,x1,x2,x3] (pre.map fun i=>f.getD i.1 [])).2:=⟨_,rfl⟩
 have hmem:∀ (pre:List (Fin f.length)),∀ a∈pre.map (fun i=>f.getD i.1 []),a∈f:=by
  intro pre a ha
  obtain ⟨i,_,rfl⟩:=List.mem_map.1 ha
  rw [List.getD_eq_getElem?_getD,List.getElem?_eq_getElem i.2]
  exact List.getElem_mem i.2
 have hn1:w1.heap.size=n0+5:=hs1
 refine wpIn_rangeFunc_ownH (α:=Fin f.length) (F:=Fence.wide) (n:=5) rfl (by omega) (gf:=126) (lb:= #[Value.pointer (some {block:=n0+4,off:=0})]) (by simp [Act.eval,← hn0]) trivial (enters_of Tryz.func126 (by kernel_rfl) rfl)
  (encs:=fun i=> #[.int .i64 (i.1:Int),Value.agg #[.int .u64 (el i.1 0),.int .u64 (el i.1 1),.int .u64 (el i.1 2),.int .u64 (el i.1 3)]])
  (Kp:=fun A B=>A.heap.size≤B.heap.size∧∀ k,k<n0+5→k≠n0+3→B.heap[k]?=A.heap[k]?) (S:=fun ys=>ys=up f.length f.length) (Sp:=fun _=>True) (N:=f.length) (w0:=w1) ?seq
  (fun h k=>⟨Nat.le_trans h.1 k.1,fun i hi hb=>(k.2 i hi hb).trans (h.2 i hi hb)⟩) ?kb (Below.refl _ _) (fun _=>rfl)
  (fun pre W=>Fix w1 W (n0+5) (n0+3)∧Blk W (n0+3) 40 ((acc pre).map (Value.int .u64))∧(acc pre).length=4) (fun _ _ _=>False) ?own (fun _ _ _ _ _ hs _ _=>hs) ?start
  (fun i a' W=>∃ B9,n0+5≤B9∧Blk W B9 40 [.int .u64 (el i.1 0),.int .u64 (el i.1 1),.int .u64 (el i.1 2),.int .u64 (el i.1 3)]∧a'= {tmps:= #[Value.pointer p0,Value.slice ad f.length cap,Value.agg {toList:= [Value.int IntKind.u64 x0,Value.int IntKind.u64 x1,Value.int IntKind.u64 x2,Value.int IntKind.u64 x3]},
     Value.pointer (some {block:=n0,off:=0}),undef,Value.pointer (some {block:=n0+1,off:=0}),Value.pointer (some {block:=n0+1+1,off:=0}),Value.pointer (some {block:=n0+1+1+1,off:=0}),undef,Value.pointer (some {block:=B9,off:=0}),
     Value.slice ad f.length cap,Value.func (Fn.func 126) #[] #[Value.pointer (some {block:=n0+1+1+1+1,off:=0})],
     .int .i64 (i.1:Int),Value.agg #[.int .u64 (el i.1 0),.int .u64 (el i.1 1),.int .u64 (el i.1 2),.int .u64 (el i.1 3)],undef,undef,undef,undef,undef,undef,undef,undef],defers:= []}) ?ax ?assign ?body ?done ?stop
 case kb=>
  intro W l o o' hl h ho hw
  rw [hn1] at hl
  exact ⟨by simp [World.putObj],fun k hk hb=>World.putObj_heap_other (by omega)⟩
 case own=>
  rintro pre W W' row ⟨h1,h2,h3⟩ hgr hr
  rw [hn1] at hr
  exact ⟨h1.grown hgr fun r e=>(hr r e).1,yC h2 hgr (fun e=>by have:=(hr _ e.symm).1; omega),h3⟩
 case start=>
  refine ⟨⟨rfl,rfl,rfl,by omega,fun _ _ _=>rfl⟩,?_,?_⟩
  ·rw [hacc]; exact ⟨_,_,e3,rfl,fun o ho=>by simp⟩
  ·rw [hacc]; rfl
 case ax=>
  rintro i a' u W W' row ⟨B9,h1,h2,h3⟩ hgr hr
  rw [hn1] at hr
  refine ⟨B9,h1,yC h2 hgr (fun e=> ?_),h3⟩
  obtain ⟨_,o,ho,hc⟩:=hr _ e.symm
  obtain ⟨o',ho',hc'⟩:=Dk h2
  rw [ho] at ho'; cases ho'; rw [hc] at hc'; cases hc'
 case stop=>
  rintro D c pre W _ _ h _
  exact h.elim
 case seq=>
  intro l J Jx W hW hJ hJx hY h0
  have hWk:∀ k,k<n0+5→W.heap[k]?=w1.heap[k]?:=fun k hk=>hW.block k (by omega)
  obtain ⟨b,off,hb⟩:∃ b off,∀ i,i<f.length→ad=some ⟨b,off,none⟩∧I b∧∀ m,m<4→w.cell? ⟨b,off+i*4+m,none⟩=some (.int .u64 (el i m)):=by
   rcases Nat.eq_zero_or_pos f.length with h|h
   ·exact ⟨0,0,fun i hi=>by omega⟩
   ·obtain ⟨_,b,o,h1,h2,_⟩:=hf4 0 h
    refine ⟨b,o,fun i hi=> ?_⟩
    obtain ⟨_,b',o',h1',h2',h3'⟩:=hf4 i hi
    rw [h1] at h1'; cases h1'
    exact ⟨h1,h2',h3'⟩
  refine (Ub Fence.wide 4 trivial rfl (by omega) l (n0+4) b off f.length cap ad (fun h=>(hb 0 h).1) (fun i m=> .int .u64 (el i m)) (fun A B=>A.heap.size≤B.heap.size∧∀ k,k<n0+5→k≠n0+3→B.heap[k]?=A.heap[k]?) J Jx
   (fun W=>⟨Nat.le_refl _,fun _ _ _=>rfl⟩) (fun A B C h k=>⟨Nat.le_trans h.1 k.1,fun i hi hb=>(k.2 i hi hb).trans (h.2 i hi hb)⟩) hY W (fun V hV=> ?_) (fun V hV j hj m hm=> ?_) hfl h0).mono ?_
  ·have:V.heap[n0+4]?=some (Obj.cells #[Value.slice ad f.length cap] 22):=(hV.2 _ (by omega) (by omega)).trans ((hWk _ (by omega)).trans e4)
   simp [World.cell?,this]
  ·obtain ⟨_,h2,h3⟩:=hb j hj
   have hbl:=hIlt b h2
   have:V.heap[b]?=w.heap[b]?:=(hV.2 _ (by omega) (by omega)).trans ((hWk _ (by omega)).trans (hB0.block b (by omega)))
   rw [World.cell?_of_block (w:=w) (w':=V) (a:=⟨b,off+j*4+m,none⟩) this]
   exact h3 m hm
  ·rintro e W' ⟨hv,⟨ys,h1,hj⟩|⟨pre,h1,hj⟩⟩
   ·exact ⟨hv,.inl ⟨ys,h1,hj⟩⟩
   ·exact ⟨hv,.inr ⟨pre,h1,hj⟩⟩
 case assign=>
  rintro l pre x W K ⟨h1,h2,h3⟩ hK
  gi_wp2
  refine hK _ _ ((KeepsOthers.alloc W _).from _) ⟨by simp,fun k hk hb=>Below.heap_alloc _ _ _ (by have:=h1.2.2.2.1; omega)⟩ ⟨h1.grown (World.grownBy_alloc W _ none) (fun r e=>by cases e),yC h2 (World.grownBy_alloc W _ none) (by simp),h3⟩ ⟨W.heap.size,h1.2.2.2.1,Blk.alloc W _ 40,rfl⟩
 case body=>
  rintro l pre i a' W hl hloop ⟨h1,h2,h3⟩ ⟨B9,g1,g2,rfl⟩ hlt
  have hsz:=h1.2.2.2.1
  have hB9:B9<W.heap.size:=by obtain ⟨c,fr,h,_⟩:=g2; exact (Array.getElem?_eq_some_iff.1 h).1
  have hbb:=hr ((pre++ [i]).map fun i=>f.getD i.1 []) (hmem _)
  have hac:(acc (pre++ [i]))=(fold g [x0,x1,x2,x3] ((pre++ [i]).map fun i=>f.getD i.1 [])).2:=by rw [hacc]
  have hap:acc pre=(fold g [x0,x1,x2,x3] (pre.map fun i=>f.getD i.1 [])).2:=by rw [hacc]
  rw [List.map_append,List.map_cons,List.map_nil,LH] at hbb hac
  simp only [step,lt,← hap,Bool.and_eq_true] at hbb hac
  have ha4:=hea i.1 i.2 _ rfl
  have hal:(f.getD i.1 []).length=4:=(hf4 i.1 i.2).1
  obtain ⟨-,hM,hS⟩:=hbb
  have hhp:W.heap[n0]?=some (Obj.cells #[Value.pointer p0] 25):=(h1.2.2.2.2 n0 (by omega) (by omega)).trans e0
  have hhx:W.heap[n0+1]?=some (Obj.cells {toList:= [Value.int IntKind.u64 x0,Value.int IntKind.u64 x1,Value.int IntKind.u64 x2,Value.int IntKind.u64 x3]} 40):=(h1.2.2.2.2 (n0+1) (by omega) (by omega)).trans e1
  have hIW:∀ b,(I b∨b=n0∨b=n0+1)→b<n0+2:=by rintro b (h|h|h)<;>first|(have:=hIlt b h; omega)|omega
  refine wpIn_block ?_
  refine BL (C:=⟨Tryz.prog,W,fun b=>I b∨b=n0∨b=n0+1,[oN (n0+3),oN B9]⟩) (E:=E0) (D:=DD) (r:=(⟨tN,(gZ.r g (gY.r g (acc pre) [x0,x1,x2,x3]).2 (f.getD i.1 [])).2⟩:DV)) (k:=fun st=>st.box (site 0)) (st:=stB g [x0,x1,x2,x3] (acc pre) (f.getD i.1 [])) (n:=22)
   (I:=fun b=>I b∨b=n0∨b=n0+1) (tk:=xtk [oN (n0+3),oN B9]) hE0 (ay _) ?dst ?nod ?out ?post ?inv rfl ?run
  case dst=>
   intro o ho d hd
   simp only [List.mem_cons,List.not_mem_nil,or_false] at ho
   rcases ho with rfl|rfl|rfl|rfl|rfl|rfl|rfl|rfl<;>simp at hd<;>(subst hd; decide)
  case nod=>
   intro o ho c
   simp only [List.mem_cons,List.not_mem_nil,or_false] at ho
   rcases ho with rfl|rfl|rfl|rfl|rfl|rfl|rfl|rfl<;>simp
  case out=>
   rintro ⟨a,w,h⟩
   exact h
  case inv=>
   refine NN (P:=Tryz.prog) (ds:= [⟨tN,acc pre⟩,⟨tN,f.getD i.1 []⟩]) rfl (by show 22≤900000; omega) rfl ?slots ?box ?dist ?blk (fun b hb=>by have:=hIW b hb; omega)
   case slots=>
    intro j hj
    have hj':j<22:=hj
    match j,hj' with
    |0,_=>exact trivial
    |1,_=>exact trivial
    |2,_=>exact trivial
    |3,_=>
     refine ⟨rfl,?_⟩
     show ai W _ _ (.ref GT) (some g) [Value.pointer (some ⟨n0,0,none⟩)]
     refine ⟨rfl,n0,0,[Value.pointer p0],rfl,.inr (.inl rfl),ai.mono (fun b hb=> .inl hb) (hkeepI W h1) (zy _) q0',?_⟩
     intro j v hv
     match j,hv with
     |0,hv=>cases hv; simp [World.cell?,hhp]
    |4,_=>exact trivial
    |5,_=>
     refine ⟨rfl,?_⟩
     show ai W _ _ (.ref tN) (some [x0,x1,x2,x3]) [Value.pointer (some ⟨n0+1,0,none⟩)]
     refine ⟨rfl,n0+1,0,_,rfl,.inr (.inr rfl),xu rfl,?_⟩
     intro j v hv
     have:=nZ
     simp only [World.cell?,hhx,Nat.zero_add]
     simpa using hv
    |6,_=>exact trivial
    |7,_=>exact ⟨oN (n0+3),n0+3,0,rfl,rfl,trivial,rfl⟩
    |8,_=>exact trivial
    |9,_=>exact ⟨oN B9,B9,0,rfl,rfl,trivial,rfl⟩
    |10,_=>exact trivial
    |11,_=>exact trivial
    |12,_=>exact trivial
    |13,_=>exact trivial
    |14,_=>exact trivial
    |15,_=>exact trivial
    |16,_=>exact trivial
    |17,_=>exact trivial
    |18,_=>exact trivial
    |19,_=>exact trivial
    |20,_=>exact trivial
    |21,_=>exact trivial
    |k+22,h=>omega
   case box=>
    intro j q d hq hd
    match j,hq,hd with
    |0,hq,hd=>cases hq; cases hd; exact ⟨rfl,rfl,n0+3,_,rfl,h2,xu h3⟩
    |1,hq,hd=>
     cases hq; cases hd
     refine ⟨rfl,rfl,B9,_,rfl,g2,?_⟩
     have:=xu (w:=W) (I:=fun b=>I b∨b=n0∨b=n0+1) (tk:=xtk [oN (n0+3),oN B9]) hal
     rw [ha4] at this ⊢
     exact this
   case dist=>
    intro a b qa qb k ha hb hka hkb
    match a,b,ha,hb with
    |0,0,_,_=>rfl
    |1,1,_,_=>rfl
    |0,1,ha,hb=>cases ha; cases hb; have:=kR hka; have:=kR hkb; omega
    |1,0,ha,hb=>cases ha; cases hb; have:=kR hka; have:=kR hkb; omega
   case blk=>
    intro j q b hq hb
    match j,hq with
    |0,hq=>cases hq; obtain rfl:=kR hb; exact ⟨by omega,fun h=>by have:=hIW _ h; omega,Ro _⟩
    |1,hq=>cases hq; obtain rfl:=kR hb; exact ⟨hB9,fun h=>by have:=hIW _ h; omega,Ro _⟩
  case post=>
   intro st tm W' I' tk' hst hl' hi
   obtain ⟨q,hq,hbr⟩:=hi.boxes _ _ hst
   have hq7:tk' (site 0)=some (oN (n0+3)):=hi.ext 0 (oN (n0+3)) rfl _ hst
   rw [hq7] at hq; cases hq
   obtain ⟨_,_,b,cs,hb,hbk,hcr⟩:=hbr
   cases hb
   obtain ⟨c4,hcs⟩:=Ah hcr
   subst hcs
   have hkp:∀ k,k<W.heap.size→k≠n0+3→k≠B9→W'.heap[k]?=W.heap[k]?:=fun k hk e3 e9=>hi.keep k hk (fun j q hj e=>by
    match j,hj with
    |0,hj=>cases hj; exact e3 (kR e).symm
    |1,hj=>cases hj; exact e9 (kR e).symm)
   have hsW:W.heap.size≤W'.heap.size:=hi.size
   refine ⟨⟨hsW,fun k o hk ho hc=> ?_⟩,⟨hsW,fun k hk e3=>hkp k (by omega) e3 (by omega)⟩,⟨hi.os.trans h1.1,hi.output.trans h1.2.1,hi.tape.trans h1.2.2.1,by omega,fun k hk e3=>(hkp k (by omega) e3 (by omega)).trans (h1.2.2.2.2 k hk e3)⟩,?_,?_⟩
   ·rw [hn1] at hk
    refine (hkp k (Array.getElem?_eq_some_iff.1 ho).1 (by omega) (fun e=> ?_)).trans ho
    subst e
    obtain ⟨o',ho',hc'⟩:=Dk g2
    rw [ho] at ho'; cases ho'; rw [hc] at hc'; cases hc'
   ·rw [hac]; exact hbk
   ·rw [hac]; exact c4
  case run=>
   refine Eq.trans (b:=lt (gY.r g (acc pre) [x0,x1,x2,x3]) fun m=>req m.1 (lt (gZ.r g m.2 (f.getD i.1 [])) fun s=>req s.1 (some ⟨tN,s.2⟩))) (by kernel_rfl) ?_
   simp only [lt]
   rw [hM,hS]; rfl
 case done=>
  rintro D ys W hD rfl ⟨h1,h2,h3⟩ hK
  obtain ⟨y0,y1,y2,y3,hy⟩:∃ y0 y1 y2 y3,acc (up f.length f.length)= [y0,y1,y2,y3]:=by
   generalize acc (up f.length f.length)=l at h3
   match l,h3 with
   | [a,b,c,d],_=>exact ⟨a,b,c,d,rfl⟩
  rw [hy] at h2
  have hsz:=h1.2.2.2.1
  have c0:W.cell? ⟨n0+1+1+1,0,none⟩=some (.int .u64 y0):=h2.cell 0
  have c1:W.cell? ⟨n0+1+1+1,1,none⟩=some (.int .u64 y1):=h2.cell 1
  have c2:W.cell? ⟨n0+1+1+1,2,none⟩=some (.int .u64 y2):=h2.cell 2
  have c3:W.cell? ⟨n0+1+1+1,3,none⟩=some (.int .u64 y3):=h2.cell 3
  have hr2:W.heap[n0+2]?=some (Obj.cells #[Value.int IntKind.u64 0,Value.int IntKind.u64 0,Value.int IntKind.u64 0,Value.int IntKind.u64 0] 40):=(h1.2.2.2.2 (n0+2) (by omega) (by omega)).trans e2
  have hB2:Blk W (n0+2) 40 [Value.int IntKind.u64 0,Value.int IntKind.u64 0,Value.int IntKind.u64 0,Value.int IntKind.u64 0]:=⟨_,_,hr2,rfl,fun o ho=>by simp⟩
  have d0:W.cell? ⟨n0+1+1,0,none⟩=some (.int .u64 0):=hB2.cell 0
  have d1:W.cell? ⟨n0+1+1,1,none⟩=some (.int .u64 0):=hB2.cell 1
  have d2:W.cell? ⟨n0+1+1,2,none⟩=some (.int .u64 0):=hB2.cell 2
  have d3:W.cell? ⟨n0+1+1,3,none⟩=some (.int .u64 0):=hB2.cell 3
  have z0:W.frozen? ⟨n0+1+1,0,none⟩=false:=hB2.frozen 0 (by simp)
  have z1:W.frozen? ⟨n0+1+1,1,none⟩=false:=hB2.frozen 1 (by simp)
  have z2:W.frozen? ⟨n0+1+1,2,none⟩=false:=hB2.frozen 2 (by simp)
  have z3:W.frozen? ⟨n0+1+1,3,none⟩=false:=hB2.frozen 3 (by simp)
  gi_wp2
  obtain ⟨W4,hW4⟩:∃ W4,((((W.setCell {block:=n0+1+1,off:=0} (Value.int IntKind.u64 y0)).setCell {block:=n0+1+1,off:=1} (Value.int IntKind.u64 y1)).setCell {block:=n0+1+1,off:=2} (Value.int IntKind.u64 y2)).setCell {block:=n0+1+1,off:=3} (Value.int IntKind.u64 y3))=W4:=⟨_,rfl⟩
  rw [hW4]
  have hB4:Blk W4 (n0+2) 40 [Value.int IntKind.u64 y0,Value.int IntKind.u64 y1,Value.int IntKind.u64 y2,Value.int IntKind.u64 y3]:=by
   rw [← hW4]; exact (((hB2.setCell 0 _).setCell 1 _).setCell 2 _).setCell 3 _
  have hO4:∀ k,k≠n0+2→W4.heap[k]?=W.heap[k]?:=fun k hk=>by
   rw [← hW4,lK _ _ _ hk,lK _ _ _ hk,lK _ _ _ hk,lK _ _ _ hk]
  have hS4:W4.heap.size=W.heap.size:=by rw [← hW4]; simp
  have ho4:W4.os=W.os∧W4.output=W.output∧W4.tape=W.tape:=by rw [← hW4]; exact ⟨rfl,rfl,rfl⟩
  rw [hn1] at hD
  have hK4:W4.heap[D]?=some (.deferred (some [])):=(hO4 D (by omega)).trans hK
  refine ⟨by simp,.inl ⟨_,_,rfl,run_takeDeferred hK4,?_⟩⟩
  have hB5:Blk (W4.putObj D (.deferred none)) (n0+2) 40 [Value.int IntKind.u64 y0,Value.int IntKind.u64 y1,Value.int IntKind.u64 y2,Value.int IntKind.u64 y3]:=hB4.of_block (World.putObj_heap_other (by omega))
  obtain ⟨v,hv⟩:∃ v,v=Value.agg #[Value.int IntKind.u64 y0,Value.int IntKind.u64 y1,Value.int IntKind.u64 y2,Value.int IntKind.u64 y3]:=⟨_,rfl⟩
  have hv2:aA (W4.putObj D (.deferred none)) I (xtk []) tN [y0,y1,y2,y3] v:=⟨_,hv,xu (l:= [y0,y1,y2,y3]) rfl⟩
  have g0:(W4.putObj D (.deferred none)).cell? ⟨n0+1+1,0,none⟩=some (.int .u64 y0):=hB5.cell 0
  have g1:(W4.putObj D (.deferred none)).cell? ⟨n0+1+1,1,none⟩=some (.int .u64 y1):=hB5.cell 1
  have g2:(W4.putObj D (.deferred none)).cell? ⟨n0+1+1,2,none⟩=some (.int .u64 y2):=hB5.cell 2
  have g3:(W4.putObj D (.deferred none)).cell? ⟨n0+1+1,3,none⟩=some (.int .u64 y3):=hB5.cell 3
  have hout:(fold g [x0,x1,x2,x3] f.reverse).2= [y0,y1,y2,y3]:=by
   rw [← hy,hacc]
   show _=(fold g [x0,x1,x2,x3] ((up f.length f.length).map fun i=>f.getD i.1 [])).2
   rw [Mv f f.length (Nat.le_refl _),Nat.sub_self,List.drop_zero]
  have hS5:(W4.putObj D (.deferred none)).heap.size=W4.heap.size:=by simp [World.putObj]
  refine ⟨v,?_,v,rfl,I,xtk [],#[v],rfl,?_⟩
  ·simp [results,Tryz.f60,go_sem,hn0,g0,g1,g2,g3,hv]
  ·rw [hout]
   have nt:∀ s q,xtk [] s=some q→False:=fun s q h=>by
    have:=zy (fun _=>none) s q h
    cases this
   exact
    {len:=rfl
     small:=by show 1≤900000; omega
     srt:=List.Pairwise.nil
     slots:=fun i hi=>by
      have hi':i<1:=hi
      obtain rfl:i=0:=by omega
      exact ⟨rfl,hv2⟩
     boxes:=fun s d hs=>by cases hs
     inj:=fun s s' q q' b h _ _ _=>(nt s q h).elim
     tokLt:=fun s q b h _=>(nt s q h).elim
     tokI:=fun s q b h _=>(nt s q h).elim
     tys:=fun s q b h _=>(nt s q h).elim
     ilt:=fun b hb=>by have:=hIlt b hb; show b<(W4.putObj D (.deferred none)).heap.size; omega
     fresh:=fun s q b h _=>(nt s q h).elim
     ext:=fun j q h=>by cases h
     keep:=fun b hb _=>by
      have hb':b<n0:=by rw [← hn0]; exact hb
      exact (World.putObj_heap_other (by omega)).trans ((hO4 b (by omega)).trans ((h1.2.2.2.2 b (by omega) (by omega)).trans (hB0.block b hb)))
     size:=by show w.heap.size≤(W4.putObj D (.deferred none)).heap.size; omega
     os:=ho4.1.trans (h1.1.trans hB0.os)
     output:=ho4.2.1.trans (h1.2.1.trans hB0.output)
     tape:=ho4.2.2.trans (h1.2.2.1.trans hB0.tape)
     sub:=fun b h=>h
     new:=fun b h=> .inl h}
def res (x:List Int):Res:=⟨[.val ⟨tN,x⟩],[],[]⟩
def brn (w:Bool×X):Brn Res:= .one w.1 (res w.2)
abbrev aS:List AS:= [.one (.val GT),.one (.val (.sl tN)),.one (.val tN)]
abbrev bS:List Ty:= []
def F (x:ASs aS) (y:Bs bS):Brn Res:=brn (r x.1 x.2.1 x.2.2.1)
theorem good (x:ASs aS) (y:Bs bS) (h:(F x y).res.1=true):Good Tryz.prog 60 (ASs.mk aS x) (Bs.mk bS y) (F x y).res.2:=by
 have h':(r x.1 x.2.1 x.2.2.1).1=true:=h
 obtain ⟨h1,h2⟩:= @of_decide_eq_true _ (Classical.propDecidable _) h'
 exact SE x.1 x.2.1 x.2.2.1 h1 h2
def ent:Ent Tryz.prog:=⟨60,shF aS bS F,bM good⟩
end jy
end Go.Own
