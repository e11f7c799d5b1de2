/- What is proved: the evaluator of the translated code, and that it is sound, part 10. Conditions: those that each theorem names. -/
import Derived.Test.YtipheoipbjakfaaW9
import Derived.Orders
import Derived.LoopN
import Derived.Scope
set_option linter.unusedVariables false
set_option linter.unusedSimpArgs false
/- Steps that change their places. -/
set_option linter.unusedVariables false
namespace Go.Own
variable {C : Cx} {P : Program} {E : Env} {w w' w2 : World} {I I' I1 I2 : Nat → Prop} {st sv st' : St} {tm : Array Value} {tk tk' : Toks} {ds : List Deferred} {o : Oper} {e : Ef}

/-! ### States are told by their slots and boxes -/
theorem findB_low : ∀ {l : List (Nat × DV)} {s : Nat}, (∀ x ∈ l.map (·.1), s < x) → findB l s = none
  | [], _, _ => rfl
  | x :: l, s, h => by
    simp only [findB]
    have : s < x.1 := h x.1 (by simp)
    rw [beq_no.2 (by omega)]
    exact findB_low fun y hy => h y (by simp at hy ⊢; exact .inr hy)
theorem srt_ext : ∀ {l l' : List (Nat × DV)}, (l.map (·.1)).Pairwise (· < ·) → (l'.map (·.1)).Pairwise (· < ·) → (∀ s, findB l s = findB l' s) → l = l'
  | [], [], _, _, _ => rfl
  | [], y :: l', _, _, h => by have := h y.1; simp [findB] at this
  | x :: l, [], _, _, h => by have := h x.1; simp [findB] at this
  | x :: l, y :: l', h1, h2, h => by
    simp only [List.map_cons, List.pairwise_cons] at h1 h2
    have hxy : x.1 = y.1 := by
      rcases Nat.lt_trichotomy x.1 y.1 with hlt | heq | hgt
      · have e1 := h x.1
        have : findB (y :: l') x.1 = none := findB_low (by
          intro z hz
          rcases List.mem_cons.1 hz with rfl | hz
          · exact hlt
          · exact Nat.lt_trans hlt (h2.1 z hz))
        rw [this] at e1
        simp [findB] at e1
      · exact heq
      · have e1 := h y.1
        have : findB (x :: l) y.1 = none := findB_low (by
          intro z hz
          rcases List.mem_cons.1 hz with rfl | hz
          · exact hgt
          · exact Nat.lt_trans hgt (h1.1 z hz))
        rw [this] at e1
        simp [findB] at e1
    have e2 := h x.1
    simp only [findB, hxy, Nat.beq_refl, cond_true, Option.some.injEq] at e2
    have hx : x = y := Prod.ext hxy e2
    subst hx
    congr 1
    refine srt_ext h1.2 h2.2 fun s => ?_
    have e3 := h s
    simp only [findB] at e3
    by_cases hs : x.1 = s
    · subst hs
      rw [findB_low h1.1, findB_low h2.1]
    · rw [beq_no.2 hs] at e3
      exact e3
theorem st_ext (h1 : st.sl.length = st'.sl.length) (h2 : ∀ i, st.slot i = st'.slot i) (h3 : st.srt) (h4 : st'.srt) (h5 : ∀ s, st.box s = st'.box s) : st = st' := by
  obtain ⟨sl, bx⟩ := st
  obtain ⟨sl', bx'⟩ := st'
  have e2 : bx = bx' := srt_ext h3 h4 h5
  have e1 : sl = sl' := by
    apply List.ext_getElem h1
    intro i hi hi'
    have := h2 i
    unfold St.slot at this
    simpa [List.getD_eq_getElem?_getD, List.getElem?_eq_getElem hi, List.getElem?_eq_getElem hi'] using this
  rw [e1, e2]
theorem srt_run (p : Pm) (h : st.srt) : (p.run st).srt := by
  cases p with
  | set i v => exact h
  | ins s d => exact srt_setBox h s d
  | kill s =>
    unfold St.srt at *
    simp only [Pm.run, St.kill, List.map_map]
    exact h
  | frz s c =>
    have h1 : St.srt ⟨st.sl.map (SV.frz s c), st.bx.map fun x => (x.1, frzX s c x.2.1 x.2.2)⟩ := by
      unfold St.srt at *
      simp only [List.map_map]
      exact h
    exact srt_del h1 s
  | del s => exact srt_del h s
theorem srt_runs : ∀ (ps : List Pm) {st : St}, st.srt → (runPs ps st).srt
  | [], _, h => h
  | p :: ps, _, h => srt_runs ps (srt_run p h)

/-! ### One step -/
def slotP (p : Pm) (n i : Nat) (v : SV) : SV := match p with
  | .set j u => if j = i ∧ i < n then u else v
  | .kill s => v.kill s
  | .frz s c => v.frz s c
  | _ => v
theorem slot_run (p : Pm) (st : St) (i : Nat) : (p.run st).slot i = slotP p st.sl.length i (st.slot i) := by
  cases p with
  | set j u =>
    simp only [Pm.run, slotP]
    by_cases hj : j < st.sl.length
    · rw [slot_set st j i u hj]
      by_cases hi : i = j
      · subst hi; simp [hj]
      · rw [if_neg hi, if_neg (fun h => hi h.1.symm)]
    · have : ({ st with sl := st.sl.set j u } : St) = st := by rw [List.set_eq_of_length_le (by omega)]
      rw [this, if_neg (fun h : j = i ∧ i < st.sl.length => hj (by rw [h.1]; exact h.2))]
  | kill s => exact slot_kill s i st
  | frz s c => exact slot_freeze s i c st
  | ins s d => rfl
  | del s => rfl
def boxP (p : Pm) (r : Nat) (b : Option DV) : Option DV := match p with
  | .set _ _ => b
  | .ins s d => if r = s then some d else b
  | .kill s => b.map (DV.kill s)
  | .frz s c => if r = s then none else b.map fun d => frzX s c d.1 d.2
  | .del s => if r = s then none else b
theorem box_run (p : Pm) (st : St) (r : Nat) : (p.run st).box r = boxP p r (st.box r) := by
  cases p with
  | set j u => rfl
  | ins s d => exact box_setBox st s r d
  | kill s => exact box_kill s r st
  | frz s c => exact box_freeze s r c st
  | del s => exact box_del st s r

/-- A slot that steps leave alone. -/
theorem slotP_none {p : Pm} {n i : Nat} {v : SV} (h1 : i ∉ p.ws) (h2 : ∀ x ∈ v.sites1, x ∉ p.tc) : slotP p n i v = v := by
  cases p with
  | set j u => simp only [slotP]; rw [if_neg (fun h => h1 (by simp [Pm.ws, h.1]))]
  | kill s => exact kill_none fun hm => h2 s hm (by simp [Pm.tc])
  | frz s c => exact frz_none fun hm => h2 s hm (by simp [Pm.tc])
  | ins s d => rfl
  | del s => rfl
theorem runPs_slot : ∀ {ps : List Pm} {st : St} {i : Nat}, i ∉ ps.flatMap Pm.ws → (∀ x ∈ (st.slot i).sites1, x ∉ ps.flatMap Pm.tc) → (runPs ps st).slot i = st.slot i
  | [], _, _, _, _ => rfl
  | p :: ps, st, i, h1, h2 => by
    simp only [List.flatMap_cons, List.mem_append, not_or] at h1 h2
    have e : (p.run st).slot i = st.slot i := by rw [slot_run]; exact slotP_none h1.1 fun x hx => (h2 x hx).1
    have := runPs_slot (ps := ps) (st := p.run st) (i := i) h1.2 (by rw [e]; exact fun x hx => (h2 x hx).2)
    exact this.trans e
theorem boxP_none {p : Pm} {r : Nat} {b : Option DV} (h1 : r ∉ p.wb) (h2 : ∀ x ∈ oMen b, x ∉ p.tc) : boxP p r b = b := by
  cases p with
  | set j u => rfl
  | ins s d => simp only [boxP]; rw [if_neg (fun h => h1 (by simp [Pm.wb, h]))]
  | kill s =>
    cases b with
    | none => rfl
    | some d => simp only [boxP, Option.map_some]; rw [dkill_none s (t := d.1) (x := d.2) fun hm => h2 s hm (by simp [Pm.tc])]
  | frz s c =>
    simp only [boxP]
    rw [if_neg (fun h => h1 (by simp [Pm.wb, h]))]
    cases b with
    | none => rfl
    | some d => simp only [Option.map_some]; rw [frzX_none s c (t := d.1) (x := d.2) fun hm => h2 s hm (by simp [Pm.tc])]
  | del s => simp only [boxP]; rw [if_neg (fun h => h1 (by simp [Pm.wb, h]))]
theorem runPs_box : ∀ {ps : List Pm} {st : St} {r : Nat}, r ∉ ps.flatMap Pm.wb → (∀ x ∈ oMen (st.box r), x ∉ ps.flatMap Pm.tc) → (runPs ps st).box r = st.box r
  | [], _, _, _, _ => rfl
  | p :: ps, st, i, h1, h2 => by
    simp only [List.flatMap_cons, List.mem_append, not_or] at h1 h2
    have e : (p.run st).box i = st.box i := by rw [box_run]; exact boxP_none h1.1 fun x hx => (h2 x hx).1
    have := runPs_box (ps := ps) (st := p.run st) (r := i) h1.2 (by rw [e]; exact fun x hx => (h2 x hx).2)
    exact this.trans e
/-- No site comes from nowhere. -/
theorem runPs_sites : ∀ {ps : List Pm} {st : St} {i x : Nat}, x ∈ ((runPs ps st).slot i).sites1 → x ∈ (st.slot i).sites1 ∨ x ∈ ps.flatMap Pm.wr
  | [], _, _, _, h => .inl h
  | p :: ps, st, i, x, h => by
    simp only [List.flatMap_cons, List.mem_append]
    rcases runPs_sites (ps := ps) (st := p.run st) h with h | h
    · rw [slot_run] at h
      cases p with
      | set j u =>
        simp only [slotP] at h
        split at h
        · exact .inr (.inl h)
        · exact .inl h
      | kill s => exact .inl (kill_sub s x _ h)
      | frz s c => exact .inl (frz_sub s c x _ h)
      | ins s d => exact .inl h
      | del s => exact .inl h
    · exact .inr (.inr h)
theorem runPs_mentions : ∀ {ps : List Pm} {st : St} {r x : Nat}, x ∈ oMen ((runPs ps st).box r) → x ∈ oMen (st.box r) ∨ x ∈ ps.flatMap Pm.wr
  | [], _, _, _, h => .inl h
  | p :: ps, st, r, x, h => by
    simp only [List.flatMap_cons, List.mem_append]
    rcases runPs_mentions (ps := ps) (st := p.run st) h with h | h
    · rw [box_run] at h
      cases p with
      | set j u => exact .inl h
      | ins s d =>
        simp only [boxP] at h
        split at h
        · exact .inr (.inl h)
        · exact .inl h
      | kill s =>
        simp only [boxP] at h
        cases hb : st.box r with
        | none => rw [hb] at h; exact .inl h
        | some d => rw [hb] at h; exact .inl (mentions_kill_sub s x d.1 h)
      | frz s c =>
        simp only [boxP] at h
        split at h
        · cases h
        · cases hb : st.box r with
          | none => rw [hb] at h; exact .inl h
          | some d => rw [hb] at h; exact .inl (frzX_sub s c x (t := d.1) (x := d.2) h)
      | del s =>
        simp only [boxP] at h
        split at h
        · cases h
        · exact .inl h
    · exact .inr (.inr h)

/-! ### Two steps -/
theorem leaf_comm {u v : Ty} {x : v.den} {a s r : Nat} (e1 : ∀ q, DV.kill q ⟨v, x⟩ = ⟨kv (Nat.beq a q) u v, kvX (Nat.beq a q) u v x⟩) : DV.kill s (DV.kill r ⟨v, x⟩) = DV.kill r (DV.kill s ⟨v, x⟩) := by
  have t : ∀ q, Nat.beq a q = true → DV.kill q ⟨v, x⟩ = ⟨.junk u, ()⟩ := fun q h => by rw [e1, h]; rfl
  have f : ∀ q, Nat.beq a q = false → DV.kill q ⟨v, x⟩ = ⟨v, x⟩ := fun q h => by rw [e1, h]; rfl
  have j : ∀ q, DV.kill q (⟨.junk u, ()⟩ : DV) = ⟨.junk u, ()⟩ := fun _ => rfl
  cases hr : Nat.beq a r <;> cases hs : Nat.beq a s
  · rw [f r hr, f s hs, f r hr]
  · rw [f r hr, t s hs, j]
  · rw [t r hr, f s hs, t r hr, j]
  · rw [t r hr, t s hs, j, j]
theorem dkill_comm (s r : Nat) : ∀ {t : Ty} {x : t.den}, DV.kill s (DV.kill r ⟨t, x⟩) = DV.kill r (DV.kill s ⟨t, x⟩) := by
  intro t
  induction t with
  | pair a b iha ihb =>
    intro x
    have pk : ∀ (q : Nat) (d1 d2 : DV), DV.kill q ⟨.pair d1.1 d2.1, (d1.2, d2.2)⟩ = ⟨.pair (DV.kill q d1).1 (DV.kill q d2).1, ((DV.kill q d1).2, (DV.kill q d2).2)⟩ := fun _ _ _ => rfl
    have h1 := iha (x := x.1)
    have h2 := ihb (x := x.2)
    have e : (⟨.pair a b, x⟩ : DV) = ⟨.pair (⟨a, x.1⟩ : DV).1 (⟨b, x.2⟩ : DV).1, ((⟨a, x.1⟩ : DV).2, (⟨b, x.2⟩ : DV).2)⟩ := rfl
    rw [e, pk, pk, pk, pk, h1, h2]
  | arr n t ih =>
    intro l
    have e : ∀ (q1 q2 : Nat), DV.kill q1 (DV.kill q2 ⟨.arr n t, l⟩) = ⟨.arr n ((t.kill q2).kill q1), l.map fun x => killX q1 (t.kill q2) (killX q2 t x)⟩ := by
      intro q1 q2
      unfold DV.kill
      simp only [Ty.kill, killX, List.map_map]
      rfl
    have aux : ∀ (T1 T2 : Ty) (f : t.den → T1.den) (g : t.den → T2.den), T1 = T2 → (∀ x, HEq (f x) (g x)) → (⟨.arr n T1, l.map f⟩ : DV) = ⟨.arr n T2, l.map g⟩ := by
      rintro T1 _ f g rfl h
      have : f = g := funext fun x => eq_of_heq (h x)
      rw [this]
    have key : ∀ x : t.den, (⟨(t.kill r).kill s, killX s (t.kill r) (killX r t x)⟩ : DV) = ⟨(t.kill s).kill r, killX r (t.kill s) (killX s t x)⟩ := fun x => ih (x := x)
    rw [e, e]
    exact aux _ _ _ _ (congrArg Sigma.fst (key t.dflt)) fun x => (Sigma.mk.inj (key x)).2
  | sf a t pa => intro x; exact leaf_comm (u := .slf) (a := a) fun _ => rfl
  | vw a t => intro x; exact leaf_comm (u := .sl t) (a := a) fun _ => rfl
  | pt a t pa => intro x; exact leaf_comm (u := .ref t) (a := a) fun _ => rfl
  | mp a k v => intro x; exact leaf_comm (u := .mp 0 k v) (a := a) fun _ => rfl
  | _ => intro x; rfl
theorem kill1_comm (s r : Nat) (v : SV) : (v.kill1 s).kill1 r = (v.kill1 r).kill1 s := by
  cases v with
  | sd d => simp only [SV.kill1]; rw [dkill_comm r s]
  | va a t => simp only [SV.kill1]; cases h1 : Nat.beq a s <;> cases h2 : Nat.beq a r <;> simp only [cond_true, cond_false, SV.kill1, h1, h2]
  | vs a t pa lo n => simp only [SV.kill1]; cases h1 : Nat.beq a s <;> cases h2 : Nat.beq a r <;> simp only [cond_true, cond_false, SV.kill1, h1, h2]
  | pb a t pa => simp only [SV.kill1]; cases h1 : Nat.beq a s <;> cases h2 : Nat.beq a r <;> simp only [cond_true, cond_false, SV.kill1, h1, h2]
  | mp a k x => simp only [SV.kill1]; cases h1 : Nat.beq a s <;> cases h2 : Nat.beq a r <;> simp only [cond_true, cond_false, SV.kill1, h1, h2]
  | ud a t => simp only [SV.kill1]; cases h1 : Nat.beq a s <;> cases h2 : Nat.beq a r <;> simp only [cond_true, cond_false, SV.kill1, h1, h2]
  | _ => rfl
theorem kill_comm (s r : Nat) (v : SV) : (v.kill s).kill r = (v.kill r).kill s := by
  have flat : ∀ l : List SV, (l.map (SV.kill1 s)).map (SV.kill1 r) = (l.map (SV.kill1 r)).map (SV.kill1 s) := by
    intro l
    simp only [List.map_map]
    exact List.map_congr_left fun v _ => kill1_comm s r v
  cases hv : v.isOne with
  | true => rw [kill_one hv, kill_one hv, kill_one (kill1_one hv s), kill_one (kill1_one hv r)]; exact kill1_comm s r v
  | false =>
    cases v with
    | clo f caps => simp only [SV.kill, flat]
    | tup l => simp only [SV.kill, flat]
    | _ => cases hv

/-- Two steps of which either may be the first. -/
structure Free (p q : Pm) : Prop where
  ws : ∀ x ∈ p.ws, x ∉ q.ws
  wb : ∀ x ∈ p.wb, x ∉ q.wb
  a : ∀ x ∈ p.tc, x ∉ q.wr
  b : ∀ x ∈ q.tc, x ∉ p.wr
  c : ∀ x ∈ p.tc, x ∉ q.wb
  d : ∀ x ∈ q.tc, x ∉ p.wb
  f : p.fz = true → q.tc = []
  g : q.fz = true → p.tc = []
theorem Free.symm {p q : Pm} (h : Free p q) : Free q p := ⟨fun x hx hy => h.ws x hy hx, fun x hx hy => h.wb x hy hx, h.b, h.a, h.d, h.c, h.g, h.f⟩
theorem slotP_comm {p q : Pm} (h : Free p q) (n i : Nat) (v : SV) : slotP p n i (slotP q n i v) = slotP q n i (slotP p n i v) := by
  have setk : ∀ {j : Nat} {u : SV} {s : Nat}, s ∉ u.sites1 → slotP (.set j u) n i (v.kill s) = (slotP (.set j u) n i v).kill s := by
    intro j u s hs
    simp only [slotP]
    split
    · exact (kill_none hs).symm
    · rfl
  have setf : ∀ {j : Nat} {u : SV} {s : Nat} {c : DV}, s ∉ u.sites1 → slotP (.set j u) n i (v.frz s c) = (slotP (.set j u) n i v).frz s c := by
    intro j u s c hs
    simp only [slotP]
    split
    · exact (frz_none hs).symm
    · rfl
  cases p with
  | set j u =>
    cases q with
    | set k x =>
      simp only [slotP]
      have hne : j ≠ k := fun e => h.ws j (by simp [Pm.ws]) (by simp [Pm.ws, e])
      split <;> split <;> first | rfl | (rename_i h1 h2; exact absurd (h1.1.trans h2.1.symm) hne)
    | kill s => exact setk (h.b s (by simp [Pm.tc]))
    | frz s c => exact setf (h.b s (by simp [Pm.tc]))
    | ins s d => rfl
    | del s => rfl
  | kill r =>
    cases q with
    | set k x => exact (setk (h.a r (by simp [Pm.tc]))).symm
    | kill s => exact kill_comm s r v
    | frz s c => have := h.g rfl; cases this
    | ins s d => rfl
    | del s => rfl
  | frz r c =>
    cases q with
    | set k x => exact (setf (h.a r (by simp [Pm.tc]))).symm
    | kill s => have := h.f rfl; cases this
    | frz s c => have := h.f rfl; cases this
    | ins s d => rfl
    | del s => rfl
  | ins r d => cases q <;> rfl
  | del r => cases q <;> rfl
theorem boxP_comm {p q : Pm} (h : Free p q) (r : Nat) (b : Option DV) : boxP p r (boxP q r b) = boxP q r (boxP p r b) := by
  have insk : ∀ {s : Nat} {d : DV} {t : Nat}, t ∉ mentions d.1 → boxP (.ins s d) r (boxP (.kill t) r b) = boxP (.kill t) r (boxP (.ins s d) r b) := by
    intro s d t ht
    simp only [boxP]
    split
    · simp only [Option.map_some]; rw [dkill_none t (t := d.1) (x := d.2) ht]
    · rfl
  have insf : ∀ {s : Nat} {d : DV} {t : Nat} {c : DV}, t ≠ s → t ∉ mentions d.1 → boxP (.ins s d) r (boxP (.frz t c) r b) = boxP (.frz t c) r (boxP (.ins s d) r b) := by
    intro s d t c hts ht
    simp only [boxP]
    split
    · rename_i hr
      subst hr
      rw [if_neg (fun e => hts e.symm)]
      simp only [Option.map_some]; rw [frzX_none t c (t := d.1) (x := d.2) ht]
    · rfl
  have insd : ∀ {s : Nat} {d : DV} {t : Nat}, t ≠ s → boxP (.ins s d) r (boxP (.del t) r b) = boxP (.del t) r (boxP (.ins s d) r b) := by
    intro s d t hts
    simp only [boxP]
    split
    · rename_i hr; subst hr; rw [if_neg (fun e => hts e.symm)]
    · rfl
  have killd : ∀ {s t : Nat}, boxP (.kill s) r (boxP (.del t) r b) = boxP (.del t) r (boxP (.kill s) r b) := by
    intro s t
    simp only [boxP]
    split <;> rfl
  have frzd : ∀ {s t : Nat} {c : DV}, boxP (.frz s c) r (boxP (.del t) r b) = boxP (.del t) r (boxP (.frz s c) r b) := by
    intro s t c
    simp only [boxP]
    split <;> split <;> rfl
  have ne : ∀ {x y : Nat}, x ∈ p.wb → y ∈ q.wb → x ≠ y := fun h1 h2 e => h.wb _ h1 (e ▸ h2)
  cases p with
  | set j u => rfl
  | ins s d =>
    cases q with
    | set k x => rfl
    | ins t e =>
      have hne : s ≠ t := ne (by simp [Pm.wb]) (by simp [Pm.wb])
      simp only [boxP]
      split <;> split <;> first | rfl | (rename_i h1 h2; exact absurd (h1.symm.trans h2) hne)
    | kill t => exact insk (h.b t (by simp [Pm.tc]))
    | frz t c => exact insf (fun e => h.d t (by simp [Pm.tc]) (by simp [Pm.wb, e])) (h.b t (by simp [Pm.tc]))
    | del t => exact insd (fun e => ne (x := s) (y := t) (by simp [Pm.wb]) (by simp [Pm.wb]) e.symm)
  | kill s =>
    cases q with
    | set k x => rfl
    | ins t e => exact (insk (h.a s (by simp [Pm.tc]))).symm
    | kill t =>
      cases b with
      | none => rfl
      | some d => simp only [boxP, Option.map_some]; rw [dkill_comm s t (t := d.1) (x := d.2)]
    | frz t c => have := h.g rfl; cases this
    | del t => exact killd
  | frz s c =>
    cases q with
    | set k x => rfl
    | ins t e => exact (insf (fun e => h.c s (by simp [Pm.tc]) (by simp [Pm.wb, e])) (h.a s (by simp [Pm.tc]))).symm
    | kill t => have := h.f rfl; cases this
    | frz t c => have := h.f rfl; cases this
    | del t => exact frzd
  | del s =>
    cases q with
    | set k x => rfl
    | ins t e => exact (insd (fun e => ne (x := s) (y := t) (by simp [Pm.wb]) (by simp [Pm.wb]) e)).symm
    | kill t => exact killd.symm
    | frz t c => exact frzd.symm
    | del t => simp only [boxP]; split <;> split <;> rfl
theorem free_comm {p q : Pm} (h : Free p q) (hs : st.srt) : p.run (q.run st) = q.run (p.run st) := by
  refine st_ext (by rw [Pm.run_len, Pm.run_len, Pm.run_len, Pm.run_len]) (fun i => ?_) (srt_run p (srt_run q hs)) (srt_run q (srt_run p hs)) fun r => ?_
  · rw [slot_run, slot_run, slot_run, slot_run, Pm.run_len, Pm.run_len]; exact slotP_comm h _ i _
  · rw [box_run, box_run, box_run, box_run]; exact boxP_comm h r _
theorem frees_one {p : Pm} : ∀ {qs : List Pm} {st : St}, (∀ q ∈ qs, Free p q) → st.srt → runPs qs (p.run st) = p.run (runPs qs st)
  | [], _, _, _ => rfl
  | q :: qs, st, h, hs => by
    simp only [runPs]
    rw [← free_comm (h q (by simp)) hs]
    exact frees_one (fun q' hq' => h q' (by simp [hq'])) (srt_run q hs)
theorem frees_run : ∀ {ps qs : List Pm} {st : St}, (∀ p ∈ ps, ∀ q ∈ qs, Free p q) → st.srt → runPs qs (runPs ps st) = runPs ps (runPs qs st)
  | [], _, _, _, _ => rfl
  | p :: ps, qs, st, h, hs => by
    simp only [runPs]
    rw [frees_run (fun p' hp' => h p' (by simp [hp'])) (srt_run p hs), frees_one (h p (by simp)) hs]
end Go.Own

/- Regions whose order is drawn: every order comes to the same. -/
set_option linter.unusedVariables false
namespace Go.Own
variable {C : Cx} {P : Program} {E : Env} {w w' w2 : World} {I I' I1 I2 : Nat → Prop} {st sv st' : St} {tm : Array Value} {tk tk' : Toks} {ds : List Deferred} {o : Oper} {e : Ef} {D : CallD} {all : List Oper}

/-! ### What is seen of a state -/
theorem any_beq {l : List Nat} {x : Nat} : l.any (Nat.beq x) = true ↔ x ∈ l := by
  rw [List.any_eq_true]
  constructor
  · rintro ⟨y, hy, e⟩; rw [beq_iff.1 e]; exact hy
  · intro h; exact ⟨x, h, beq_iff.2 rfl⟩
theorem viewS_len (ks : List Nat) : ∀ (l : List SV) (i : Nat), (viewS ks i l).length = l.length
  | [], _ => rfl
  | v :: r, i => by simp [viewS, viewS_len ks r (i + 1)]
theorem viewS_get (ks : List Nat) : ∀ (l : List SV) (i j : Nat), (viewS ks i l).getD j .dead = bif ks.any (Nat.beq (i + j)) then l.getD j .dead else .dead
  | [], i, j => by simp [viewS]
  | v :: r, i, 0 => by simp [viewS]
  | v :: r, i, j + 1 => by
    simp only [viewS, List.getD_cons_succ]
    rw [viewS_get ks r (i + 1) j, show i + 1 + j = i + (j + 1) by omega]
theorem view_slot (ks kb : List Nat) (st : St) (i : Nat) : (st.view ks kb).slot i = bif ks.any (Nat.beq i) then st.slot i else .dead := by
  have := viewS_get ks st.sl 0 i
  rw [Nat.zero_add] at this
  exact this
theorem findB_filter (kb : List Nat) (s : Nat) : ∀ l : List (Nat × DV), findB (viewB kb l) s = bif kb.any (Nat.beq s) then findB l s else none
  | [] => by cases kb.any (Nat.beq s) <;> rfl
  | x :: l => by
    have ih := findB_filter kb s l
    unfold viewB at ih ⊢
    simp only [List.filter_cons]
    by_cases hx : x.1 = s
    · subst hx
      cases h : kb.any (Nat.beq x.1) with
      | true => simp [findB]
      | false => rw [h] at ih; simpa using ih
    · have hne := beq_no.2 hx
      cases h : kb.any (Nat.beq x.1) with
      | true => simp only [if_true, findB, hne, cond_false]; exact ih
      | false =>
        have : (if false = true then x :: List.filter (fun x => kb.any (Nat.beq x.1)) l else List.filter (fun x => kb.any (Nat.beq x.1)) l) = List.filter (fun x => kb.any (Nat.beq x.1)) l := by simp
        rw [this, ih]
        simp only [findB, hne, cond_false]
theorem view_box (ks kb : List Nat) (st : St) (s : Nat) : (st.view ks kb).box s = bif kb.any (Nat.beq s) then st.box s else none := findB_filter kb s st.bx
theorem view_srt (ks kb : List Nat) (h : st.srt) : (st.view ks kb).srt := srt_sub h List.filter_sublist
theorem view_View (ks kb : List Nat) (st : St) : View (st.view ks kb) st where
  slot := fun i => by
    rw [view_slot]
    cases ks.any (Nat.beq i) with
    | true => exact .inr rfl
    | false => exact .inl rfl
  box := fun s d h => by
    rw [view_box] at h
    cases hb : kb.any (Nat.beq s) with
    | true => rw [hb] at h; exact h
    | false => rw [hb] at h; cases h
theorem reach_acc (st : St) : ∀ (n : Nat) (l acc : List Nat) (x : Nat), x ∈ acc → x ∈ reachK st n l acc
  | 0, l, acc, x, h => by cases l <;> exact h
  | n + 1, [], acc, x, h => h
  | n + 1, s :: r, acc, x, h => by
    simp only [reachK]
    cases acc.any (Nat.beq s) with
    | true => exact reach_acc st n r acc x h
    | false => exact reach_acc st n _ _ x (List.mem_append_left _ h)
theorem reach_congr {st st' : St} : ∀ (n : Nat) (l acc : List Nat), (∀ s ∈ reachK st n l acc, st'.box s = st.box s) → reachK st' n l acc = reachK st n l acc
  | 0, l, acc, h => by cases l <;> rfl
  | n + 1, [], acc, h => rfl
  | n + 1, s :: r, acc, h => by
    simp only [reachK] at h ⊢
    cases ha : acc.any (Nat.beq s) with
    | true => rw [ha] at h; exact reach_congr n r acc h
    | false =>
      rw [ha] at h
      simp only [cond_false] at h ⊢
      have hs : st'.box s = st.box s := h s (reach_acc st n _ _ s (by simp))
      rw [hs]
      exact reach_congr n _ _ h

/-- The same is seen. -/
theorem sees_near {g : List Nat} (hk : ∀ k ∈ (sees o g st).1, st'.slot k = st.slot k) (hb : ∀ s ∈ (sees o g st).2, st'.box s = st.box s) : sees o g st' = sees o g st := by
  unfold sees at hk hb ⊢
  simp only at hk hb ⊢
  have e : ((g ++ tmpsIn (looks o)).flatMap fun i => (st'.slot i).sites1) = (g ++ tmpsIn (looks o)).flatMap fun i => (st.slot i).sites1 := by
    have : ∀ l : List Nat, (∀ k ∈ l, st'.slot k = st.slot k) → (l.flatMap fun i => (st'.slot i).sites1) = l.flatMap fun i => (st.slot i).sites1 := by
      intro l
      induction l with
      | nil => intro _; rfl
      | cons a l ih => intro h; rw [List.flatMap_cons, List.flatMap_cons, h a (by simp), ih fun k hk => h k (by simp [hk])]
    exact this _ hk
  rw [e, reach_congr 1000 _ _ hb]
theorem view_near {ks kb : List Nat} (hl : st'.sl.length = st.sl.length) (hs : st.srt) (hs' : st'.srt) (hk : ∀ k ∈ ks, st'.slot k = st.slot k) (hb : ∀ s ∈ kb, st'.box s = st.box s) : st'.view ks kb = st.view ks kb := by
  refine st_ext (by simp only [St.view, viewS_len]; exact hl) (fun i => ?_) (view_srt _ _ hs') (view_srt _ _ hs) fun s => ?_
  · rw [view_slot, view_slot]
    cases h : ks.any (Nat.beq i) with
    | true => simp only [cond_true]; exact hk i (any_beq.1 h)
    | false => rfl
  · rw [view_box, view_box]
    cases h : kb.any (Nat.beq s) with
    | true => simp only [cond_true]; exact hb s (any_beq.1 h)
    | false => rfl

/-! ### Steps of operations -/
def goD (E : Env) (D : CallD) (o : Oper) (g : List Nat) (st : St) : Option (Rec × List Pm) :=
  match opPD E D o (st.view (sees o g st).1 (sees o g st).2) with
  | some b => bif b.res.1 then some (recOf (sees o g st) st (fullPs o.dst b.res.2), fullPs o.dst b.res.2) else none
  | none => none
def skipD (o : Oper) (g : Nat) (st : St) : Rec × List Pm := (recOf ([g], []) st (fullPs o.dst ⟨[], some .und⟩), fullPs o.dst ⟨[], some .und⟩)
/-- One operation under its guard. -/
def stepD (E : Env) (D : CallD) (all : List Oper) (o : Oper) (st : St) : Option (Rec × List Pm) :=
  match guardOf all o with
  | some none => goD E D o [] st
  | some (some (d, want)) => match st.slot d with
    | .p ⟨.bool, b⟩ => if b = want then goD E D o [d] st else some (skipD o d st)
    | .und => some (skipD o d st)
    | _ => none
  | none => none

theorem drawOp_step {R : Type} {r : R} {k : Rec → List Pm → St → Option R} (h : drawOp E D all o st k = some r) : ∃ rc ps, stepD E D all o st = some (rc, ps) ∧ k rc ps st = some r := by
  have go : ∀ {g : List Nat}, (match opPD E D o (st.view (sees o g st).1 (sees o g st).2) with
      | some b => b.k fun e => k (recOf (sees o g st) st (fullPs o.dst e)) (fullPs o.dst e) st
      | none => none) = some r → ∃ rc ps, goD E D o g st = some (rc, ps) ∧ k rc ps st = some r := by
    intro g hh
    unfold goD
    split at hh
    · rename_i b he
      obtain ⟨h1, h2⟩ := Brn.k_res hh
      exact ⟨_, _, by rw [h1]; rfl, h2⟩
    · cases hh
  unfold drawOp at h
  unfold stepD
  dsimp only at h
  split at h
  · rename_i hg; simp only [hg]; exact go h
  · rename_i d want hg
    simp only [hg]
    split at h
    · rename_i b hb
      simp only [hb]
      cases b <;> cases want <;> simp only [cond_true, cond_false] at h
      · rw [slot_same hb rfl] at h; rw [if_pos rfl]; exact go h
      · rw [slot_same hb rfl] at h; rw [if_neg (by decide)]; exact ⟨_, _, rfl, h⟩
      · rw [slot_same hb rfl] at h; rw [if_neg (by decide)]; exact ⟨_, _, rfl, h⟩
      · rw [slot_same hb rfl] at h; rw [if_pos rfl]; exact go h
    · rename_i hb; simp only [hb]; exact ⟨_, _, rfl, h⟩
    · cases h
  · cases h

/-- Records that tell the same, but where sites stand that are given up. -/
structure RecSim (a b : Rec) : Prop where
  ks : a.ks = b.ks
  kb : a.kb = b.kb
  rv : a.rv = b.rv
  ws : a.ws = b.ws
  wb : a.wb = b.wb
  wr : a.wr = b.wr
  tc : a.tc = b.tc
  fz : a.fz = b.fz
theorem RecSim.refl (a : Rec) : RecSim a a := ⟨rfl, rfl, rfl, rfl, rfl, rfl, rfl, rfl⟩
theorem RecSim.trans {a b c : Rec} (h : RecSim a b) (k : RecSim b c) : RecSim a c := ⟨h.ks.trans k.ks, h.kb.trans k.kb, h.rv.trans k.rv, h.ws.trans k.ws, h.wb.trans k.wb, h.wr.trans k.wr, h.tc.trans k.tc, h.fz.trans k.fz⟩
structure RecLe (a b : Rec) : Prop extends RecSim a b where
  ts : ∀ x ∈ a.ts, x ∈ b.ts
  tb : ∀ x ∈ a.tb, x ∈ b.tb
theorem RecLe.refl (a : Rec) : RecLe a a := ⟨RecSim.refl a, fun _ h => h, fun _ h => h⟩
theorem RecLe.trans {a b c : Rec} (h : RecLe a b) (k : RecLe b c) : RecLe a c := ⟨h.toRecSim.trans k.toRecSim, fun x hx => k.ts x (h.ts x hx), fun x hx => k.tb x (h.tb x hx)⟩

theorem stepD_rec {rc : Rec} {ps : List Pm} (h : stepD E D all o st = some (rc, ps)) : rc = recOf (rc.ks, rc.kb) st ps := by
  have go : ∀ {g}, goD E D o g st = some (rc, ps) → rc = recOf (rc.ks, rc.kb) st ps := by
    intro g hg
    unfold goD at hg
    split at hg
    · rename_i b hb
      cases hc : b.res.1 with
      | false => rw [hc] at hg; cases hg
      | true => rw [hc] at hg; cases hg; rfl
    · cases hg
  unfold stepD at h
  split at h
  · exact go h
  · split at h
    · split at h
      · exact go h
      · cases h; rfl
    · cases h; rfl
    · cases h
  · cases h
theorem recSim_of {v : List Nat × List Nat} {ps : List Pm} (hk : ∀ k ∈ v.1, st'.slot k = st.slot k) (hb : ∀ s ∈ v.2, st'.box s = st.box s) : RecSim (recOf v st' ps) (recOf v st ps) := by
  refine ⟨rfl, rfl, ?_, rfl, rfl, rfl, rfl, rfl⟩
  unfold recOf
  simp only
  have h1 : ∀ l : List Nat, (∀ k ∈ l, st'.slot k = st.slot k) → (l.flatMap fun i => (st'.slot i).sites1) = l.flatMap fun i => (st.slot i).sites1 := by
    intro l
    induction l with
    | nil => intro _; rfl
    | cons a l ih => intro h; rw [List.flatMap_cons, List.flatMap_cons, h a (by simp), ih fun k hk => h k (by simp [hk])]
  have h2 : ∀ l : List Nat, (∀ k ∈ l, st'.box k = st.box k) → (l.flatMap fun i => oMen (st'.box i)) = l.flatMap fun i => oMen (st.box i) := by
    intro l
    induction l with
    | nil => intro _; rfl
    | cons a l ih => intro h; rw [List.flatMap_cons, List.flatMap_cons, h a (by simp), ih fun k hk => h k (by simp [hk])]
  rw [h1 _ hk, h2 _ hb]
/-- A step, where the same is seen. -/
theorem stepD_near {rc : Rec} {ps : List Pm} (h : stepD E D all o st = some (rc, ps)) (hl : st'.sl.length = st.sl.length) (hs : st.srt) (hs' : st'.srt) (hk : ∀ k ∈ rc.ks, st'.slot k = st.slot k) (hb : ∀ s ∈ rc.kb, st'.box s = st.box s) :
    stepD E D all o st' = some (recOf (rc.ks, rc.kb) st' ps, ps) := by
  have go : ∀ {g}, goD E D o g st = some (rc, ps) → goD E D o g st' = some (recOf (rc.ks, rc.kb) st' ps, ps) ∧ ∀ k ∈ g, k ∈ rc.ks := by
    intro g hg
    unfold goD at hg
    split at hg
    · rename_i b hop
      cases hc : b.res.1 with
      | false => rw [hc] at hg; cases hg
      | true =>
        rw [hc] at hg
        cases hg
        have e1 := sees_near (o := o) (g := g) hk hb
        have e2 := view_near hl hs hs' hk hb
        refine ⟨?_, fun k hk => List.mem_append_left _ hk⟩
        unfold goD
        rw [e1]
        have e3 : opPD E D o (st'.view (sees o g st).1 (sees o g st).2) = some b := by
          rw [show st'.view (sees o g st).1 (sees o g st).2 = st.view (sees o g st).1 (sees o g st).2 from e2]; exact hop
        rw [e3]
        simp only [hc, cond_true]
        rfl
    · cases hg
  unfold stepD at h ⊢
  split at h
  · rename_i hg; exact (go h).1
  · rename_i d want hg
    split at h
    · rename_i b hb'
      split at h
      · rename_i hbw
        obtain ⟨h1, h2⟩ := go h
        rw [hk d (h2 d (by simp)), hb']
        simp only [hbw, if_true]
        exact h1
      · rename_i hbw
        cases h
        rw [hk d (by simp [skipD, recOf]), hb']
        simp only [if_neg hbw]
        rfl
    · rename_i hb'
      cases h
      rw [hk d (by simp [skipD, recOf]), hb']
      rfl
    · cases h
  · cases h

theorem disj_spec {a b : List Nat} (h : disj a b = true) : ∀ x ∈ a, x ∉ b := by
  intro x hx hb
  have := List.all_eq_true.1 h x hx
  rw [any_beq.2 hb] at this
  cases this
/-- What two operations need to change their places. -/
structure Ind (j i : Rec) : Prop where
  a : ∀ x ∈ j.ws, x ∉ i.ks
  b : ∀ x ∈ j.ws, x ∉ i.ws
  c : ∀ x ∈ i.ws, x ∉ j.ks
  d : ∀ x ∈ j.wb, x ∉ i.kb
  e : ∀ x ∈ j.wb, x ∉ i.wb
  f : ∀ x ∈ i.wb, x ∉ j.kb
  ts : ∀ x ∈ j.ts, x ∉ i.ks
  tb : ∀ x ∈ j.tb, x ∉ i.kb
  l : ∀ x ∈ i.tc, x ∉ j.rv
  h : ∀ x ∈ j.tc, x ∉ i.wr
  m : ∀ x ∈ i.tc, x ∉ j.wr
  k : ∀ x ∈ j.tc, x ∉ i.tc
  n : ∀ x ∈ j.tc, x ∉ i.wb
  p : ∀ x ∈ i.tc, x ∉ j.wb
  q : j.fz = true → i.tc = []
  r : i.fz = true → j.tc = []
theorem indep_spec {j i : Rec} (h : indep j i = true) : Ind j i := by
  unfold indep at h
  simp only [Bool.and_eq_true, Bool.or_eq_true, List.isEmpty_iff, Bool.not_eq_true'] at h
  obtain ⟨⟨⟨⟨⟨⟨⟨⟨⟨⟨⟨⟨⟨⟨⟨h1, h2⟩, h3⟩, h4⟩, h5⟩, h6⟩, h7⟩, h8⟩, h9⟩, h10⟩, h11⟩, h12⟩, h13⟩, h14⟩, h15⟩, h16⟩ := h
  exact ⟨disj_spec h1, disj_spec h2, disj_spec h3, disj_spec h4, disj_spec h5, disj_spec h6, disj_spec h7, disj_spec h8, disj_spec h9, disj_spec h10, disj_spec h11, disj_spec h12, disj_spec h13, disj_spec h14,
    fun e => h15.elim (fun h => by rw [e] at h; cases h) id, fun e => h16.elim (fun h => by rw [e] at h; cases h) id⟩
theorem Ind.of {j i j' i' : Rec} (h : Ind j i) (hj : RecLe j' j) (hi : RecSim i' i) : Ind j' i' := by
  obtain ⟨⟨a1, a2, a3, a4, a5, a6, a7, a8⟩, a9, a10⟩ := hj
  obtain ⟨b1, b2, b3, b4, b5, b6, b7, b8⟩ := hi
  constructor
  all_goals (try simp only [a1, a2, a3, a4, a5, a6, a7, a8, b1, b2, b3, b4, b5, b6, b7, b8])
  · exact h.a
  · exact h.b
  · exact h.c
  · exact h.d
  · exact h.e
  · exact h.f
  · exact fun x hx => h.ts x (a9 x hx)
  · exact fun x hx => h.tb x (a10 x hx)
  · exact h.l
  · exact h.h
  · exact h.m
  · exact h.k
  · exact h.n
  · exact h.p
  · exact h.q
  · exact h.r

theorem meets_iff {a b : List Nat} : meets a b = true ↔ ∃ x ∈ a, x ∈ b := by
  unfold meets
  rw [List.any_eq_true]
  constructor
  · rintro ⟨x, hx, h⟩; exact ⟨x, hx, any_beq.1 h⟩
  · rintro ⟨x, hx, h⟩; exact ⟨x, hx, any_beq.2 h⟩
theorem slotsIn_iff (tc : List Nat) : ∀ (l : List SV) (i k : Nat), k ∈ slotsIn tc i l ↔ i ≤ k ∧ meets (l.getD (k - i) .dead).sites1 tc = true
  | [], i, k => by simp [slotsIn, SV.sites1, SV.sites, meets]
  | v :: r, i, k => by
    have ih := slotsIn_iff tc r (i + 1) k
    simp only [slotsIn]
    by_cases hk : k = i
    · subst hk
      simp only [Nat.sub_self, List.getD_cons_zero, Nat.le_refl, true_and]
      cases hm : meets v.sites1 tc with
      | true => simp
      | false =>
        simp only [cond_false, ih]
        constructor
        · intro h; omega
        · intro h; cases h
    · have e : k ∈ (bif meets v.sites1 tc then i :: slotsIn tc (i + 1) r else slotsIn tc (i + 1) r) ↔ k ∈ slotsIn tc (i + 1) r := by
        cases meets v.sites1 tc <;> simp [hk]
      rw [e, ih]
      constructor
      · rintro ⟨h1, h2⟩
        refine ⟨by omega, ?_⟩
        rw [show k - i = (k - (i + 1)) + 1 by omega, List.getD_cons_succ]; exact h2
      · rintro ⟨h1, h2⟩
        refine ⟨by omega, ?_⟩
        rw [show k - i = (k - (i + 1)) + 1 by omega, List.getD_cons_succ] at h2; exact h2
theorem slotsIn_slot {tc : List Nat} {k : Nat} : k ∈ slotsIn tc 0 st.sl ↔ ∃ x ∈ (st.slot k).sites1, x ∈ tc := by
  rw [slotsIn_iff]
  simp only [Nat.zero_le, true_and, Nat.sub_zero]
  exact meets_iff
theorem findB_mem : ∀ {l : List (Nat × DV)} {s : Nat} {d : DV}, findB l s = some d → (s, d) ∈ l
  | [], _, _, h => by cases h
  | x :: l, s, d, h => by
    simp only [findB] at h
    cases hb : Nat.beq x.1 s with
    | true =>
      rw [hb] at h
      have := beq_iff.1 hb
      cases h
      subst this
      simp
    | false => rw [hb] at h; exact List.mem_cons_of_mem _ (findB_mem h)
theorem mem_findB : ∀ {l : List (Nat × DV)} {s : Nat} {d : DV}, (l.map (·.1)).Pairwise (· < ·) → (s, d) ∈ l → findB l s = some d
  | [], _, _, _, h => by cases h
  | x :: l, s, d, hs, h => by
    simp only [List.map_cons, List.pairwise_cons] at hs
    simp only [findB]
    rcases List.mem_cons.1 h with rfl | h
    · simp
    · have : x.1 < s := hs.1 s (List.mem_map.2 ⟨_, h, rfl⟩)
      rw [beq_no.2 (by omega)]
      exact mem_findB hs.2 h
theorem boxesIn_iff {tc : List Nat} {s : Nat} (hs : st.srt) : s ∈ boxesIn tc st.bx ↔ ∃ x ∈ oMen (st.box s), x ∈ tc := by
  unfold boxesIn
  simp only [List.mem_map, List.mem_filter]
  constructor
  · rintro ⟨⟨s', d⟩, ⟨h1, h2⟩, rfl⟩
    have : st.box s' = some d := mem_findB hs h1
    rw [this]
    exact meets_iff.1 h2
  · rintro ⟨x, h1, h2⟩
    cases hb : st.box s with
    | none => rw [hb] at h1; cases h1
    | some d =>
      rw [hb] at h1
      exact ⟨(s, d), ⟨findB_mem hb, meets_iff.2 ⟨x, h1, h2⟩⟩, rfl⟩

/-- Two operations change their places. -/
theorem stepD_swap {oj oi : Oper} {rj ri : Rec} {pj pi : List Pm} (hs : st.srt) (h1 : stepD E D all oj st = some (rj, pj)) (h2 : stepD E D all oi (runPs pj st) = some (ri, pi)) (hi : Ind rj ri) :
    ∃ ri' rj', stepD E D all oi st = some (ri', pi) ∧ RecSim ri' ri ∧ stepD E D all oj (runPs pi st) = some (rj', pj) ∧ RecLe rj' rj ∧ runPs pi (runPs pj st) = runPs pj (runPs pi st) := by
  have e1 := stepD_rec h1
  have e2 := stepD_rec h2
  have jws : rj.ws = pj.flatMap Pm.ws := by rw [e1]; rfl
  have jwb : rj.wb = pj.flatMap Pm.wb := by rw [e1]; rfl
  have jwr : rj.wr = pj.flatMap Pm.wr := by rw [e1]; rfl
  have jtc : rj.tc = pj.flatMap Pm.tc := by rw [e1]; rfl
  have jfz : rj.fz = pj.any Pm.fz := by rw [e1]; rfl
  have jrv : rj.rv = (rj.ks.flatMap fun i => (st.slot i).sites1) ++ rj.kb.flatMap fun s => oMen (st.box s) := by rw [e1]; rfl
  have iws : ri.ws = pi.flatMap Pm.ws := by rw [e2]; rfl
  have iwb : ri.wb = pi.flatMap Pm.wb := by rw [e2]; rfl
  have iwr : ri.wr = pi.flatMap Pm.wr := by rw [e2]; rfl
  have itc : ri.tc = pi.flatMap Pm.tc := by rw [e2]; rfl
  have ifz : ri.fz = pi.any Pm.fz := by rw [e2]; rfl
  have jts : ∀ k x, x ∈ (st.slot k).sites1 → x ∈ rj.tc → k ∈ rj.ts := by
    intro k x hx hc
    rw [e1]
    rw [jtc] at hc
    unfold recOf
    simp only
    have hne : (pj.flatMap Pm.tc).isEmpty = false := by
      cases hl : pj.flatMap Pm.tc with
      | nil => rw [hl] at hc; cases hc
      | cons a l => rfl
    rw [hne]
    exact slotsIn_slot.2 ⟨x, hx, hc⟩
  have jtb : ∀ s x, x ∈ oMen (st.box s) → x ∈ rj.tc → s ∈ rj.tb := by
    intro s x hx hc
    rw [e1]
    rw [jtc] at hc
    unfold recOf
    simp only
    have hne : (pj.flatMap Pm.tc).isEmpty = false := by
      cases hl : pj.flatMap Pm.tc with
      | nil => rw [hl] at hc; cases hc
      | cons a l => rfl
    rw [hne]
    exact (boxesIn_iff hs).2 ⟨x, hx, hc⟩
  -- the second one sees the same ahead of the first
  have s1 := stepD_near (st := runPs pj st) (st' := st) h2 (runPs_len pj st).symm (srt_runs pj hs) hs
    (fun k hk => (runPs_slot (fun hw => hi.a k (jws ▸ hw) hk) (fun x hx hT => hi.ts k (jts k x hx (jtc ▸ hT)) hk)).symm)
    (fun s hk => (runPs_box (fun hw => hi.d s (jwb ▸ hw) hk) (fun x hx hT => hi.tb s (jtb s x hx (jtc ▸ hT)) hk)).symm)
  have sk : ∀ k ∈ rj.ks, (runPs pi st).slot k = st.slot k := fun k hk => runPs_slot (fun hw => hi.c k (iws ▸ hw) hk) (fun x hx hT => hi.l x (itc ▸ hT) (by rw [jrv]; exact List.mem_append_left _ (List.mem_flatMap.2 ⟨k, hk, hx⟩)))
  have sb : ∀ s ∈ rj.kb, (runPs pi st).box s = st.box s := fun s hk => runPs_box (fun hw => hi.f s (iwb ▸ hw) hk) (fun x hx hT => hi.l x (itc ▸ hT) (by rw [jrv]; exact List.mem_append_right _ (List.mem_flatMap.2 ⟨s, hk, hx⟩)))
  have s2 := stepD_near (st := st) (st' := runPs pi st) h1 (runPs_len pi st) hs (srt_runs pi hs) sk sb
  refine ⟨_, _, s1, ?_, s2, ?_, ?_⟩
  · have := recSim_of (v := (ri.ks, ri.kb)) (ps := pi) (st := runPs pj st) (st' := st)
      (fun k hk => (runPs_slot (fun hw => hi.a k (jws ▸ hw) hk) (fun x hx hT => hi.ts k (jts k x hx (jtc ▸ hT)) hk)).symm)
      (fun s hk => (runPs_box (fun hw => hi.d s (jwb ▸ hw) hk) (fun x hx hT => hi.tb s (jtb s x hx (jtc ▸ hT)) hk)).symm)
    rw [← e2] at this
    exact this
  · have sim := recSim_of (v := (rj.ks, rj.kb)) (ps := pj) (st := st) (st' := runPs pi st) sk sb
    rw [← e1] at sim
    refine ⟨sim, fun k hk => ?_, fun s hk => ?_⟩
    · unfold recOf at hk
      simp only at hk
      cases hem : (pj.flatMap Pm.tc).isEmpty with
      | true => rw [hem] at hk; cases hk
      | false =>
        rw [hem] at hk
        obtain ⟨x, hx, hc⟩ := slotsIn_slot.1 (show k ∈ slotsIn (pj.flatMap Pm.tc) 0 (runPs pi st).sl from hk)
        rcases runPs_sites hx with h3 | h3
        · exact jts k x h3 (jtc ▸ hc)
        · exact absurd (iwr ▸ h3) (hi.h x (jtc ▸ hc))
    · unfold recOf at hk
      simp only at hk
      cases hem : (pj.flatMap Pm.tc).isEmpty with
      | true => rw [hem] at hk; cases hk
      | false =>
        rw [hem] at hk
        obtain ⟨x, hx, hc⟩ := (boxesIn_iff (srt_runs pi hs)).1 (show s ∈ boxesIn (pj.flatMap Pm.tc) (runPs pi st).bx from hk)
        rcases runPs_mentions hx with h3 | h3
        · exact jtb s x h3 (jtc ▸ hc)
        · exact absurd (iwr ▸ h3) (hi.h x (jtc ▸ hc))
  · refine frees_run (fun p hp q hq => ?_) hs
    have m : ∀ {f : Pm → List Nat} {x : Nat} {l : List Pm} {p : Pm}, p ∈ l → x ∈ f p → x ∈ l.flatMap f := fun hp hx => List.mem_flatMap.2 ⟨_, hp, hx⟩
    constructor
    · exact fun x hx hy => hi.b x (jws ▸ m hp hx) (iws ▸ m hq hy)
    · exact fun x hx hy => hi.e x (jwb ▸ m hp hx) (iwb ▸ m hq hy)
    · exact fun x hx hy => hi.h x (jtc ▸ m hp hx) (iwr ▸ m hq hy)
    · exact fun x hx hy => hi.m x (itc ▸ m hq hx) (jwr ▸ m hp hy)
    · exact fun x hx hy => hi.n x (jtc ▸ m hp hx) (iwb ▸ m hq hy)
    · exact fun x hx hy => hi.p x (itc ▸ m hq hx) (jwb ▸ m hp hy)
    · intro hf
      have := hi.q (by rw [jfz]; exact List.any_eq_true.2 ⟨p, hp, hf⟩)
      rw [itc] at this
      exact List.flatMap_eq_nil_iff.1 this q hq
    · intro hf
      have := hi.r (by rw [ifz]; exact List.any_eq_true.2 ⟨q, hq, hf⟩)
      rw [jtc] at this
      exact List.flatMap_eq_nil_iff.1 this p hp

/-- Operations one behind the other. -/
def Runs (E : Env) (D : CallD) (all : List Oper) (rc : Nat → Rec) : List Nat → St → St → Prop
  | [], st, st' => st = st'
  | i :: L, st, st' => ∃ o ps r0, all[i]? = some o ∧ stepD E D all o st = some (r0, ps) ∧ RecLe r0 (rc i) ∧ Runs E D all rc L (runPs ps st) st'
theorem Runs.front {rc : Nat → Rec} {i : Nat} {ys : List Nat} : ∀ {l : List Nat} {st st' : St}, st.srt → Runs E D all rc (l ++ i :: ys) st st' → (∀ x ∈ l, Ind (rc x) (rc i)) →
    ∃ o ps r0, all[i]? = some o ∧ stepD E D all o st = some (r0, ps) ∧ RecSim r0 (rc i) ∧ Runs E D all rc (l ++ ys) (runPs ps st) st' := by
  intro l
  induction l with
  | nil => rintro st st' _ ⟨o, ps, r0, h1, h2, h3, h4⟩ _; exact ⟨o, ps, r0, h1, h2, h3.toRecSim, h4⟩
  | cons x l ih =>
    rintro st st' hs ⟨o, ps, r0, h1, h2, h3, h4⟩ hi
    obtain ⟨oi, pi, ri, g1, g2, g3, g4⟩ := ih (srt_runs ps hs) h4 fun y hy => hi y (by simp [hy])
    obtain ⟨ri', rj', s1, s2, s3, s4, s5⟩ := stepD_swap hs h2 g2 ((hi x (by simp)).of h3 g3)
    refine ⟨oi, pi, ri', g1, s1, s2.trans g3, o, ps, rj', h1, s3, s4.trans h3, ?_⟩
    rw [← s5]; exact g4
end Go.Own

/- Regions whose order is drawn: what their evaluation says of their run. -/
set_option linter.unusedVariables false
namespace Go.Own
variable {C : Cx} {P : Program} {E : Env} {w w' w2 : World} {I I' I1 I2 : Nat → Prop} {st sv st' : St} {tm : Array Value} {tk tk' : Toks} {ds : List Deferred} {o : Oper} {e : Ef} {D : CallD} {all : List Oper}

theorem fullPs_run (dst : Option Nat) (e : Ef) (st : St) : runPs (fullPs dst e) st = e.run dst st := by
  unfold fullPs Ef.run
  cases e.v with
  | none => rfl
  | some v =>
    cases dst with
    | none => rfl
    | some d => simp only; rw [runPs_append]; rfl

theorem stepD_sound {ops : Array Oper} {rc : Rec} {ps : List Pm} (hE : EnvOK C.P E) (hD : SoundD C.P D) (h : Inv C st tm w I tk) (hd : ∀ d, o.dst = some d → d < st.sl.length) (hf : stepD E D ops.toList o st = some (rc, ps))
    {K : Act → World → Prop} {Q : Exit → Act → World → Prop} (hK : ∀ v w' I' tk', Inv C (runPs ps st) (putT tm o.dst v) w' I' tk' → K ⟨putT tm o.dst v, ds⟩ w') :
    if Region.wanted o (yielded ops tm) then o.wp C.P ⟨tm, ds⟩ w K Q else K (Act.put ⟨tm, ds⟩ o.dst undef) w := by
  have doK : ∀ {g}, goD E D o g st = some (rc, ps) → o.wp C.P ⟨tm, ds⟩ w K Q := by
    intro g hg
    unfold goD at hg
    split at hg
    · rename_i b he
      cases hc : b.res.1 with
      | false => rw [hc] at hg; cases hg
      | true =>
        rw [hc] at hg
        cases hg
        rw [fullPs_run] at hK
        exact opPD_sound (ds := ds) hE hD (view_View _ _ st) h hd he hc hK
    · cases hg
  have dead : ps = fullPs o.dst ⟨[], some .und⟩ → K (Act.put ⟨tm, ds⟩ o.dst undef) w := by
    rintro rfl
    rw [fullPs_run] at hK
    rw [act_put]
    cases hod : o.dst with
    | none =>
      have := hK undef w I tk (by rw [hod]; exact h)
      rwa [hod] at this
    | some q =>
      have h2 := h.put (d := q) (s := .und) (v := undef) (hd q hod) (SRep.of1 (v := .und) rfl)
      have := hK undef w I _ (by rw [hod]; exact h2)
      rwa [hod] at this
  unfold stepD at hf
  split at hf
  · rename_i hg
    rw [if_pos (wanted_no hg)]
    exact doK hf
  · rename_i d want hg
    split at hf
    · rename_i b hb
      have hbl : d < st.sl.length := slot_lt hb (by simp)
      have hr := h.slots d hbl
      rw [hb] at hr
      rw [wanted_bool hg (h.len ▸ hbl) (pRep_bool.1 hr)]
      split at hf
      · rename_i e
        rw [if_pos (by simpa using e)]
        exact doK hf
      · rename_i e
        rw [if_neg (by simpa using e)]
        simp only [skipD, Option.some.injEq, Prod.mk.injEq] at hf
        exact dead hf.2.symm
    · rename_i hb
      have hbl : d < st.sl.length := slot_lt hb (by simp)
      have hr := h.slots d hbl
      rw [hb] at hr
      rw [if_neg (by rw [wanted_und hg (h.len ▸ hbl) hr]; decide)]
      simp only [skipD, Option.some.injEq, Prod.mk.injEq] at hf
      exact dead hf.2.symm
    · cases hf
  · cases hf

/-- Indices from n on. -/
def idx (n : Nat) : Nat → List Nat
  | 0 => []
  | m + 1 => n :: idx (n + 1) m

theorem drawK_runs {R : Type} {r : R} {k : St → Option R} {ah : List Nat} : ∀ (os : List Oper) (n : Nat) {acc : List (Nat × Rec)} {st : St}, (∀ j o, os[j]? = some o → all[n + j]? = some o) →
    drawK E D all ah (numbered n os) acc st k = some r →
    ∃ (rc : Nat → Rec) (st' : St), Runs E D all rc (idx n os.length) st st' ∧ k st' = some r ∧
      (∀ p ∈ acc, ∀ i ∈ idx n os.length, (ah.getD i 0).testBit p.1 = true ∨ indep p.2 (rc i) = true) ∧
      (∀ j ∈ idx n os.length, ∀ i ∈ idx n os.length, j < i → (ah.getD i 0).testBit j = true ∨ indep (rc j) (rc i) = true) := by
  intro os
  induction os with
  | nil => intro n acc st _ h; exact ⟨fun _ => default, st, rfl, h, (fun p _ i hi => by cases hi), fun j hj => by cases hj⟩
  | cons o os ih =>
    intro n acc st hall h
    simp only [numbered, drawK] at h
    obtain ⟨r0, ps, h1, h2⟩ := drawOp_step h
    cases hc : acc.all (fun p => (ah.getD n 0).testBit p.1 || indep p.2 r0) with
    | false => rw [hc] at h2; cases h2
    | true =>
      simp only [hc, cond_true] at h2
      obtain ⟨rc, st', h3, h4, h5, h6⟩ := ih (n + 1) (fun j o' hj => by have := hall (j + 1) o' (by simpa using hj); rwa [show n + (j + 1) = n + 1 + j by omega] at this) h2
      have mem : ∀ (m : Nat) {a x : Nat}, x ∈ idx a m → a ≤ x := by
        intro m
        induction m with
        | zero => intro a x hx; cases hx
        | succ m ih =>
          intro a x hx
          rcases List.mem_cons.1 hx with rfl | hx
          · exact Nat.le_refl _
          · have := ih hx; omega
      let rc' : Nat → Rec := fun i => if i = n then r0 else rc i
      have hrc : ∀ i ∈ idx (n + 1) os.length, rc' i = rc i := fun i hi => by
        have := mem _ hi
        simp only [rc']; rw [if_neg (by omega)]
      have runs : ∀ (L : List Nat) {s s' : St}, (∀ i ∈ L, rc' i = rc i) → Runs E D all rc L s s' → Runs E D all rc' L s s' := by
        intro L
        induction L with
        | nil => intro s s' _ h; exact h
        | cons i L ih =>
          rintro s s' he ⟨o, ps, r1, q1, q2, q4, q3⟩
          exact ⟨o, ps, r1, q1, q2, by rw [he i (by simp)]; exact q4, ih (fun x hx => he x (by simp [hx])) q3⟩
      refine ⟨rc', st', ⟨o, ps, r0, by have := hall 0 o rfl; simpa using this, h1, by simp only [rc', if_true]; exact RecLe.refl r0, runs _ hrc h3⟩, h4, fun p hp i hi => ?_, fun j hj i hi hji => ?_⟩
      · rcases List.mem_cons.1 hi with rfl | hi
        · have := List.all_eq_true.1 hc p hp
          simpa [rc'] using this
        · rw [hrc i hi]; exact h5 p (List.mem_cons_of_mem _ hp) i hi
      · rcases List.mem_cons.1 hi with rfl | hi
        · rcases List.mem_cons.1 hj with rfl | hj
          · omega
          · have := mem _ hj; omega
        · rw [hrc i hi]
          rcases List.mem_cons.1 hj with rfl | hj
          · have := h5 (j, r0) (by simp) i hi
            simpa [rc'] using this
          · rw [hrc j hj]; exact h6 j hj i hi hji

/-- What stands ahead. -/
theorem aheads_get (ops : List Oper) : ∀ (i : Nat), (aheads ops)[i]? = (ops[i]?).map fun o => o.after.toList.foldl (fun s e => bif Region.binds .any e then s ||| 2 ^ e.on ||| ((aheads ops).take i).getD e.on 0 else s) 0 := by
  have key : ∀ (l : List Oper) (acc : List Nat), let F := l.foldl (fun acc o => acc ++ [o.after.toList.foldl (fun s e => bif Region.binds .any e then s ||| 2 ^ e.on ||| acc.getD e.on 0 else s) 0]) acc
      F.take acc.length = acc ∧ ∀ i, F[acc.length + i]? = (l[i]?).map fun o => o.after.toList.foldl (fun s e => bif Region.binds .any e then s ||| 2 ^ e.on ||| (F.take (acc.length + i)).getD e.on 0 else s) 0 := by
    intro l
    induction l with
    | nil => intro acc; simp
    | cons o l ih =>
      intro acc
      simp only [List.foldl_cons]
      obtain ⟨h1, h2⟩ := ih (acc ++ [o.after.toList.foldl (fun s e => bif Region.binds .any e then s ||| 2 ^ e.on ||| acc.getD e.on 0 else s) 0])
      generalize hF : l.foldl (fun acc o => acc ++ [o.after.toList.foldl (fun s e => bif Region.binds .any e then s ||| 2 ^ e.on ||| acc.getD e.on 0 else s) 0]) (acc ++ [o.after.toList.foldl (fun s e => bif Region.binds .any e then s ||| 2 ^ e.on ||| acc.getD e.on 0 else s) 0]) = F at *
      simp only [List.length_append, List.length_cons, List.length_nil, Nat.zero_add] at h1 h2
      have ht : F.take acc.length = acc := by
        have := congrArg (List.take acc.length) h1
        rw [List.take_take, Nat.min_eq_left (by omega)] at this
        rw [this]; simp
      refine ⟨ht, fun i => ?_⟩
      cases i with
      | zero =>
        have h3 : F[acc.length]? = (F.take (acc.length + 1))[acc.length]? := by rw [List.getElem?_take]; simp
        simp only [Nat.add_zero]
        rw [h3, h1, ht]; simp
      | succ i =>
        have := h2 i
        rw [show acc.length + (i + 1) = acc.length + 1 + i by omega, this]; rfl
  intro i
  have := (key ops []).2 i
  simpa [aheads] using this

theorem testBit_fold (g : Edge → Nat) (x : Nat) : ∀ (l : List Edge) (s : Nat), (l.foldl (fun s e => bif Region.binds .any e then s ||| 2 ^ e.on ||| g e else s) s).testBit x = true → s.testBit x = true ∨ ∃ e ∈ l, Region.binds .any e = true ∧ (e.on = x ∨ (g e).testBit x = true) := by
  intro l
  induction l with
  | nil => intro s h; exact .inl h
  | cons e l ih =>
    intro s h
    simp only [List.foldl_cons] at h
    rcases ih _ h with h | ⟨e', h1, h2⟩
    · cases hb : Region.binds .any e with
      | false => simp only [hb, cond_false] at h; exact .inl h
      | true =>
        simp only [hb, cond_true, Nat.testBit_or, Bool.or_eq_true, Nat.testBit_two_pow, decide_eq_true_eq] at h
        rcases h with (h | h) | h
        · exact .inl h
        · exact .inr ⟨e, by simp, hb, .inl h⟩
        · exact .inr ⟨e, by simp, hb, .inr h⟩
    · exact .inr ⟨e', by simp [h1], h2⟩

theorem aheads_bit {ops : List Oper} {i x : Nat} (h : ((aheads ops).getD i 0).testBit x = true) : ∃ o, ops[i]? = some o ∧ ∃ e ∈ o.after.toList, Region.binds .any e = true ∧ (e.on = x ∨ (e.on < i ∧ ((aheads ops).getD e.on 0).testBit x = true)) := by
  rw [List.getD_eq_getElem?_getD, aheads_get] at h
  cases ho : ops[i]? with
  | none => rw [ho] at h; simp at h
  | some o =>
    rw [ho] at h
    simp only [Option.map_some, Option.getD_some] at h
    rcases testBit_fold _ x _ _ h with h | ⟨e, h1, h2, h3⟩
    · simp at h
    · refine ⟨o, rfl, e, h1, h2, h3.imp id fun h4 => ?_⟩
      rw [List.getD_eq_getElem?_getD, List.getElem?_take] at h4
      split at h4
      · rename_i hlt; exact ⟨hlt, by rw [List.getD_eq_getElem?_getD]; exact h4⟩
      · simp at h4

/-- All that stands ahead of one whose direct ones are listed is listed. -/
theorem ahead_listed {ops : Array Oper} {listed : Array Bool} (hdown : ∀ (i : Nat) (o : Oper), ops[i]? = some o → listed.getD i false = true → ∀ e ∈ o.after.toList, Region.binds .any e = true → listed.getD e.on false = true) :
    ∀ (n i x : Nat), i < n → (∀ (o : Oper), ops[i]? = some o → ∀ e ∈ o.after.toList, Region.binds .any e = true → listed.getD e.on false = true) → ((aheads ops.toList).getD i 0).testBit x = true → listed.getD x false = true := by
  intro n
  induction n with
  | zero => intro i x hi; omega
  | succ n ih =>
    intro i x hi h hb
    obtain ⟨o, ho, e, h1, h2, h3⟩ := aheads_bit hb
    have ho' : ops[i]? = some o := by simpa using ho
    have hl := h o ho' e h1 h2
    rcases h3 with rfl | ⟨h3, h4⟩
    · exact hl
    · exact ih e.on x (by omega) (fun o' ho2 => hdown e.on o' ho2 hl) h4

theorem mem_ready {ops : Array Oper} {listed : Array Bool} {i : Nat} (h : i ∈ Region.ready .any ops listed) : i < ops.size ∧ listed.getD i true = false ∧ ∀ (o : Oper), ops[i]? = some o → ∀ e ∈ o.after.toList, Region.binds .any e = true → listed.getD e.on false = true := by
  unfold Region.ready at h
  obtain ⟨h1, h2⟩ := List.mem_filter.1 h
  have hi : i < ops.size := by simpa using h1
  simp only [Bool.and_eq_true, Bool.not_eq_true'] at h2
  refine ⟨hi, h2.1, fun o ho e he hb => ?_⟩
  have h3 := h2.2
  rw [ho] at h3
  simp only [Option.map_some, Option.getD_some] at h3
  rw [Array.all_eq_true'] at h3
  have := h3 e (by simpa using he)
  simpa [hb] using this

theorem ready_of {ops : Array Oper} {listed : Array Bool} {i : Nat} {o : Oper} (ho : ops[i]? = some o) (hl : listed.getD i true = false) (h : ∀ e ∈ o.after.toList, Region.binds .any e = true → listed.getD e.on false = true) : i ∈ Region.ready .any ops listed := by
  have hi : i < ops.size := by
    rcases Nat.lt_or_ge i ops.size with h1 | h1
    · exact h1
    · rw [Array.getElem?_eq_none h1] at ho; cases ho
  unfold Region.ready
  refine List.mem_filter.2 ⟨by simpa using hi, ?_⟩
  simp only [Bool.and_eq_true, Bool.not_eq_true']
  refine ⟨hl, ?_⟩
  rw [ho]
  simp only [Option.map_some, Option.getD_some]
  rw [Array.all_eq_true']
  intro e he
  cases hb : Region.binds .any e
  · rfl
  · simpa using h e (by simpa using he) hb

/-- What is not listed yet, in the text's order. -/
structure Left (ops : Array Oper) (listed : Array Bool) (R : List Nat) : Prop where
  size : listed.size = ops.size
  mem : ∀ i, i ∈ R ↔ i < ops.size ∧ listed.getD i true = false
  sorted : R.Pairwise (· < ·)
  down : ∀ (i : Nat) (o : Oper), ops[i]? = some o → listed.getD i false = true → ∀ e ∈ o.after.toList, Region.binds .any e = true → listed.getD e.on false = true

theorem draw_sound {ops : Array Oper} {rc : Nat → Rec} {stE : St} {Q : Exit → Act → World → Prop} {n : Nat} (hE : EnvOK C.P E) (hD : SoundD C.P D) (hdst : ∀ o ∈ ops.toList, ∀ d, o.dst = some d → d < n)
    (hback : ∀ (i : Nat) (o : Oper), ops[i]? = some o → ∀ e ∈ o.after.toList, Region.binds .any e = true → e.on < i)
    (hind : ∀ i j, i < ops.size → j < i → ((aheads ops.toList).getD i 0).testBit j = true ∨ indep (rc j) (rc i) = true)
    (hQ : ∀ tm w I tk, stE.sl.length = n → Inv C stE tm w I tk → Q .normal ⟨tm, ds⟩ w) :
    ∀ (fuel : Nat) {R : List Nat} {listed : Array Bool} {st : St} {tm : Array Value} {w : World} {I : Nat → Prop} {tk : Toks}, R.length ≤ fuel → Left ops listed R → st.sl.length = n → Inv C st tm w I tk → Runs E D ops.toList rc R st stE →
      wpAny C.P .any ops Q fuel listed ⟨tm, ds⟩ w := by
  intro fuel
  induction fuel with
  | zero =>
    intro R listed st tm w I tk hl hleft hn h hr
    have hR : R = [] := List.length_eq_zero_iff.1 (by omega)
    subst hR
    refine ⟨?_, ?_⟩
    · apply List.eq_nil_iff_forall_not_mem.2
      intro i hi
      obtain ⟨h1, h2, _⟩ := mem_ready hi
      exact absurd ((hleft.mem i).2 ⟨h1, h2⟩) (by simp)
    · have e : st = stE := hr
      subst e
      exact hQ tm w I tk hn h
  | succ fuel ih =>
    intro R listed st tm w I tk hl hleft hn h hr
    refine ⟨fun hnil => ?_, fun i hi => ?_⟩
    · -- the first of those that are left is ready
      cases R with
      | nil =>
        have e : st = stE := hr
        subst e
        exact hQ tm w I tk hn h
      | cons i R =>
        exfalso
        obtain ⟨o, ps, _, ho, _⟩ := hr
        have ho' : ops[i]? = some o := by simpa using ho
        obtain ⟨h1, h2⟩ := (hleft.mem i).1 (by simp)
        have : i ∈ Region.ready .any ops listed := ready_of ho' h2 fun e he hb => by
          have hlt := hback i o ho' e he hb
          have hsz : e.on < listed.size := by rw [hleft.size]; omega
          cases hc : listed.getD e.on false with
          | true => rfl
          | false =>
            exfalso
            have : e.on ∈ i :: R := (hleft.mem e.on).2 ⟨by omega, by simpa [Array.getD, hsz] using hc⟩
            rcases List.mem_cons.1 this with h3 | h3
            · omega
            · have := List.rel_of_pairwise_cons hleft.sorted h3; omega
        rw [hnil] at this; cases this
    · obtain ⟨h1, h2, h3⟩ := mem_ready hi
      have hiR : i ∈ R := (hleft.mem i).2 ⟨h1, h2⟩
      obtain ⟨l, ys, rfl⟩ := List.append_of_mem hiR
      have hlt : ∀ x ∈ l, x < i := fun x hx => by
        have := List.pairwise_append.1 hleft.sorted
        exact this.2.2 x hx i (by simp)
      have hfront := hr.front h.srt (fun x hx => by
        refine indep_spec ?_
        rcases hind i x h1 (hlt x hx) with hb | hb
        · exfalso
          have := ahead_listed hleft.down (i + 1) i x (by omega) h3 hb
          have h4 := ((hleft.mem x).1 (by simp [hx])).2
          have hxs : x < listed.size := by rw [hleft.size]; exact ((hleft.mem x).1 (by simp [hx])).1
          simp [Array.getD, hxs] at this h4
          rw [this] at h4; cases h4
        · exact hb)
      obtain ⟨o, ps, _, ho, hs, _, hrest⟩ := hfront
      have ho' : ops[i]? = some o := by simpa using ho
      have hom : o ∈ ops.toList := List.mem_of_getElem? ho
      unfold wpOp
      rw [ho']
      simp only
      have hnext : Left ops (listed.setIfInBounds i true) (l ++ ys) := by
        have hnd : i ∉ l ++ ys := by
          intro hc
          have hp := List.pairwise_append.1 hleft.sorted
          rcases List.mem_append.1 hc with hc | hc
          · have := hlt i hc; omega
          · have := List.rel_of_pairwise_cons hp.2.1 hc; omega
        have gd : ∀ (x : Nat) (b : Bool), (listed.setIfInBounds i true).getD x b = if x = i then (if i < listed.size then true else b) else listed.getD x b := by
          intro x b
          by_cases hxi : x = i
          · subst hxi
            by_cases hx : x < listed.size <;> simp [Array.getD, hx]
          · rw [if_neg hxi]
            have hne : i ≠ x := fun e => hxi e.symm
            simp [Array.getD_eq_getD_getElem?, Array.getElem?_setIfInBounds_ne hne]
        refine ⟨by simpa using hleft.size, fun x => ?_, ?_, ?_⟩
        · have hm := hleft.mem x
          rw [gd]
          by_cases hxi : x = i
          · subst hxi
            rw [if_pos rfl, if_pos (by rw [hleft.size]; exact h1)]
            constructor
            · intro hc; exact absurd hc hnd
            · intro hc; cases hc.2
          · rw [if_neg hxi, ← hm]
            simp [hxi]
        · have hp := List.pairwise_append.1 hleft.sorted
          refine List.pairwise_append.2 ⟨hp.1, (List.pairwise_cons.1 hp.2.1).2, fun a ha b hb => hp.2.2 a ha b (by simp [hb])⟩
        · intro x q hq hx e he hb
          rw [gd] at hx ⊢
          have hsz : i < listed.size := by rw [hleft.size]; exact h1
          by_cases hei : e.on = i
          · rw [if_pos hei, if_pos hsz]
          · rw [if_neg hei]
            by_cases hxi : x = i
            · subst hxi; exact h3 q hq e he hb
            · rw [if_neg hxi] at hx; exact hleft.down x q hq hx e he hb
      have := stepD_sound (ds := ds) (o := o) (Q := Q) (K := wpAny C.P .any ops Q fuel (listed.setIfInBounds i true)) hE hD h (fun d hd => by rw [hn]; exact hdst o hom d hd) hs (fun v w' I' tk' hi =>
        ih (by simp at hl ⊢; omega) hnext (by rw [runPs_len]; exact hn) hi hrest)
      split
      · rename_i hw; rw [if_pos hw] at this; exact .inl this
      · rename_i hw; rw [if_neg hw] at this; exact this

theorem idx_mem : ∀ (m : Nat) {a x : Nat}, x ∈ idx a m ↔ a ≤ x ∧ x < a + m := by
  intro m
  induction m with
  | zero => intro a x; simp only [idx, List.not_mem_nil, false_iff]; omega
  | succ m ih =>
    intro a x
    simp only [idx, List.mem_cons, ih]
    omega
theorem idx_sorted : ∀ (m a : Nat), (idx a m).Pairwise (· < ·) := by
  intro m
  induction m with
  | zero => intro a; exact List.Pairwise.nil
  | succ m ih => intro a; exact List.pairwise_cons.2 ⟨fun x hx => by have := (idx_mem m).1 hx; omega, ih _⟩
theorem idx_length : ∀ (m a : Nat), (idx a m).length = m := by
  intro m
  induction m with
  | zero => intro a; rfl
  | succ m ih => intro a; simp [idx, ih]

theorem numbered_get : ∀ (l : List Oper) (n i : Nat), (numbered n l)[i]? = (l[i]?).map fun o => (n + i, o) := by
  intro l
  induction l with
  | nil => intro n i; simp [numbered]
  | cons o l ih =>
    intro n i
    cases i with
    | zero => simp [numbered]
    | succ i => simp only [numbered, List.getElem?_cons_succ, ih]; rw [show n + 1 + i = n + (i + 1) by omega]

/-- A region whose order is drawn. -/
theorem regionK_sound {R : Type} {r : R} {id : Nat} {ops : Array Oper} {k : St → Option R} {Q : Exit → Act → World → Prop} {n : Nat} (hE : EnvOK C.P E) (hD : SoundD C.P D) (hdst : ∀ o ∈ ops.toList, ∀ d, o.dst = some d → d < n)
    (hk : ∀ st tm w I tk, k st = some r → st.sl.length = n → Inv C st tm w I tk → Q .normal ⟨tm, ds⟩ w) (h : Inv C st tm w I tk) (hn : st.sl.length = n) (hf : regionK E D ops.toList st k = some r) :
    (Code.region id ops true).wp C.P Q ⟨tm, ds⟩ w := by
  unfold regionK at hf
  cases hb : backs (numbered 0 ops.toList) with
  | false => simp [hb] at hf
  | true =>
    simp only [hb, cond_true] at hf
    obtain ⟨rc, stE, h1, h2, _, h4⟩ := drawK_runs ops.toList 0 (fun j o hj => by simpa using hj) hf
    refine wp_region_any hE.mixed ?_
    have hg := h.grow (w' := { w with drawn := w.drawn + 1 }) (Grew.drew w)
    refine draw_sound (ds := ds) (n := n) hE hD hdst ?_ ?_ (fun tm w I tk hl hi => hk stE tm w I tk h2 hl hi) ops.size ?_ ?_ hn hg h1
    · intro i o ho e he hbe
      have := List.all_eq_true.1 hb (i, o) (List.mem_of_getElem? (i := i) (by rw [numbered_get]; simp [ho]))
      have h5 := List.all_eq_true.1 this e he
      simp only [hbe, Bool.not_true, Bool.false_or] at h5
      exact Nat.le_of_ble_eq_true h5
    · intro i j hi hji
      exact h4 j ((idx_mem _).2 ⟨by omega, by simp; omega⟩) i ((idx_mem _).2 ⟨by omega, by simp; omega⟩) hji
    · rw [idx_length]; simp
    · refine ⟨by simp, fun i => ?_, idx_sorted _ _, fun i o ho hl => ?_⟩
      · rw [idx_mem]
        constructor
        · intro hi; have h6 : i < ops.size := by simpa using hi.2
          exact ⟨h6, by simp [Array.getD, h6]⟩
        · intro hi; exact ⟨by omega, by simpa using hi.1⟩
      · exfalso
        simp only [Array.getD, Array.size_replicate] at hl
        split at hl
        · simp at hl
        · cases hl
end Go.Own

/- Code: what its evaluation says of its run. -/
set_option linter.unusedVariables false
namespace Go.Own
variable {C : Cx} {P : Program} {E : Env} {w w' w2 : World} {I I' I1 I2 : Nat → Prop} {st sv st' : St} {tm : Array Value} {tk tk' : Toks} {ds : List Deferred} {o : Oper} {R : Type}

def dstIn (n : Nat) (o : Oper) : Bool := match o.dst with | some d => decide (d < n) | none => true
/-- Every slot that code sets is one of n. -/
def dstsIn (n : Nat) : Code → Bool
  | .region _ ops _ => ops.toList.all (dstIn n)
  | .seq a b => dstsIn n a && dstsIn n b
  | .cond _ a b => dstsIn n a && dstsIn n b
  | .block _ a => dstsIn n a
  | .loop a => dstsIn n a
  | .scope a => dstsIn n a
  | .rangeFunc .. => false
  | _ => true

def Ex.out : Ex → Exit
  | .normal => .normal
  | .exit id => .exit id
  | .ret => .ret

/-- What goes on behind code answers for its state. -/
def KGood {R : Type} (C : Cx) (ds : List Deferred) (n : Nat) (r : R) (k : Ex → St → Option R) (Q : Exit → Act → World → Prop) : Prop :=
  ∀ ex st tm w I tk, k ex st = some r → st.sl.length = n → Inv C st tm w I tk → Q ex.out ⟨tm, ds⟩ w

/-- The loops of code, by their bodies. -/
def subLoops : Code → List Code
  | .seq a b => subLoops a ++ subLoops b
  | .cond _ a b => subLoops a ++ subLoops b
  | .block _ a => subLoops a
  | .loop a => a :: subLoops a
  | .scope a => subLoops a
  | _ => []

def LoopGood {R : Type} (r : R) (C : Cx) (ds : List Deferred) (n : Nat) (loop : LoopK R) (body : Code) : Prop :=
  ∀ {j : Nat} {st : St} {tm : Array Value} {w : World} {I : Nat → Prop} {tk : Toks} {k : Ex → St → Option R} {Q : Exit → Act → World → Prop}, dstsIn n body = true → loop j body st k = some r → st.sl.length = n →
    Inv C st tm w I tk → KGood C ds n r k Q → (Code.loop body).wp C.P Q ⟨tm, ds⟩ w

theorem codeK_sound {D : CallD} {loop : LoopK R} {r : R} {n : Nat} (hE : EnvOK C.P E) (hD : SoundD C.P D) : ∀ (c : Code) {st : St} {tm : Array Value} {w : World} {I : Nat → Prop} {tk : Toks} {k : Ex → St → Option R} {Q : Exit → Act → World → Prop},
    (∀ body ∈ subLoops c, LoopGood r C ds n loop body) → dstsIn n c = true → codeK E D loop c st k = some r → st.sl.length = n → Inv C st tm w I tk → KGood C ds n r k Q → c.wp C.P Q ⟨tm, ds⟩ w := by
  intro c
  induction c with
  | skip => intro st tm w I tk k Q _ _ hf hn h hk; exact wp_skip (hk .normal st tm w I tk hf hn h)
  | label l => intro st tm w I tk k Q _ _ hf hn h hk; exact wp_label (hk .normal st tm w I tk hf hn h)
  | exit id => intro st tm w I tk k Q _ _ hf hn h hk; exact wp_exit (hk (.exit id) st tm w I tk hf hn h)
  | ret => intro st tm w I tk k Q _ _ hf hn h hk; exact wp_ret (hk .ret st tm w I tk hf hn h)
  | goto l => intro st tm w I tk k Q _ _ hf; cases hf
  | refuse why => intro st tm w I tk k Q _ _ hf; cases hf
  | rangeFunc f ps a b => intro st tm w I tk k Q _ hd; cases hd
  | region id ops drawn =>
    intro st tm w I tk k Q _ hd hf hn h hk
    have hdst : ∀ o ∈ ops.toList, ∀ d, o.dst = some d → d < n := by
      intro o ho d hod
      have := List.all_eq_true.1 hd o ho
      simpa [dstIn, hod] using this
    cases drawn with
    | true =>
      simp only [codeK, cond_true] at hf
      exact regionK_sound (k := k .normal) hE hD hdst (fun st tm w I tk e1 e2 e3 => hk .normal st tm w I tk e1 e2 e3) h hn hf
    | false =>
      simp only [codeK, cond_false] at hf
      exact wp_region_list (opsK_sound hE hD (k := k .normal) (Q := Q) (fun st tm w I tk e1 e2 e3 => hk .normal st tm w I tk e1 e2 e3) ops.toList hdst h hn hf)
  | seq a b iha ihb =>
    intro st tm w I tk k Q hL hd hf hn h hk
    simp only [dstsIn, Bool.and_eq_true] at hd
    simp only [codeK] at hf
    refine wp_seq (iha (fun x hx => hL x (by simp [subLoops, hx])) hd.1 hf hn h ?_)
    intro ex st1 tm1 w1 I1 tk1 e1 e2 e3
    cases ex with
    | normal => exact ihb (fun x hx => hL x (by simp [subLoops, hx])) hd.2 e1 e2 e3 hk
    | exit id => exact hk (.exit id) _ _ _ _ _ e1 e2 e3
    | ret => exact hk .ret _ _ _ _ _ e1 e2 e3
  | cond c a b iha ihb =>
    intro st tm w I tk k Q hL hd hf hn h hk
    simp only [dstsIn, Bool.and_eq_true] at hd
    simp only [codeK] at hf
    have hc := ev_rep (ds := ds) (View.refl st) h c
    split at hf
    · rename_i t e
      rw [e] at hc
      refine wp_cond (t := t) (pRep_bool.1 hc) ?_
      cases t with
      | true => exact iha (fun x hx => hL x (by simp [subLoops, hx])) hd.1 hf hn h hk
      | false => exact ihb (fun x hx => hL x (by simp [subLoops, hx])) hd.2 hf hn h hk
    · cases hf
  | block id a iha =>
    intro st tm w I tk k Q hL hd hf hn h hk
    simp only [codeK] at hf
    refine wp_block (iha hL hd hf hn h ?_)
    intro ex st1 tm1 w1 I1 tk1 e1 e2 e3
    cases ex with
    | normal => exact hk .normal _ _ _ _ _ e1 e2 e3
    | exit i =>
      show (if i = id then Q .normal ⟨tm1, ds⟩ w1 else Q (.exit i) ⟨tm1, ds⟩ w1)
      cases hi : i == id with
      | true =>
        simp only [hi, cond_true] at e1
        rw [if_pos (by simpa using hi)]
        exact hk .normal _ _ _ _ _ e1 e2 e3
      | false =>
        simp only [hi, cond_false] at e1
        rw [if_neg (by simpa using hi)]
        exact hk (.exit i) _ _ _ _ _ e1 e2 e3
    | ret => exact hk .ret _ _ _ _ _ e1 e2 e3
  | loop a iha =>
    intro st tm w I tk k Q hL hd hf hn h hk
    exact hL a (by simp [subLoops]) hd hf hn h hk
  | scope a iha =>
    intro st tm w I tk k Q hL hd hf hn h hk
    refine wp_scope_straight (iha hL hd hf hn h ?_)
    intro ex st1 tm1 w1 I1 tk1 e1 e2 e3
    cases ex with
    | normal => exact hk .normal _ _ _ _ _ e1 e2 e3
    | exit i => exact hk (.exit i) _ _ _ _ _ e1 e2 e3
    | ret => exact hk .ret _ _ _ _ _ e1 e2 e3

/-- A loop whose rounds are told one by one. -/
theorem loopN_good {D : CallD} {loop : LoopK R} {r : R} {n : Nat} (hE : EnvOK C.P E) (hD : SoundD C.P D) {body : Code} (hL : ∀ b ∈ subLoops body, LoopGood r C ds n loop b) :
    ∀ (q : Nat) {st : St} {tm : Array Value} {w : World} {I : Nat → Prop} {tk : Toks} {k : Ex → St → Option R} {Q : Exit → Act → World → Prop}, dstsIn n body = true → loopN (fun st k => codeK E D loop body st k) q st k = some r → st.sl.length = n →
      Inv C st tm w I tk → KGood C ds n r k Q → (Code.loop body).wp C.P Q ⟨tm, ds⟩ w := by
  intro q st tm w I tk k Q hd hf hn h hk
  refine wp_loop_rounds q ?_
  induction q generalizing st tm w I tk with
  | zero => cases hf
  | succ q ihq =>
    rw [rounds_succ]
    refine codeK_sound hE hD body hL hd hf hn h ?_
    intro ex st1 tm1 w1 I1 tk1 e1 e2 e3
    cases ex with
    | normal => exact ihq e1 e2 e3
    | exit i => exact hk (.exit i) _ _ _ _ _ e1 e2 e3
    | ret => exact hk .ret _ _ _ _ _ e1 e2 e3
end Go.Own

/- Loops: a state is brought to a head's shape. -/
set_option linter.unusedVariables false
namespace Go.Own
variable {C : Cx} {P : Program} {E : Env} {w w' w2 : World} {I I' I1 I2 : Nat → Prop} {st sv st' : St} {tm : Array Value} {tk tk' : Toks} {ds : List Deferred} {o : Oper} {R : Type}

theorem set_same (tm : Array Value) (i : Nat) : tm.setIfInBounds i (tm.getD i undef) = tm := by
  apply Array.ext'
  rw [Array.toList_setIfInBounds]
  apply List.ext_getElem?
  intro j
  rw [List.getElem?_set]
  split
  · rename_i hij
    subst hij
    split
    · rename_i h
      have h' : i < tm.size := by simpa using h
      simp [Array.getD, h']
    · rename_i h
      rw [List.getElem?_eq_none (by omega)]
  · rfl
/-- A slot is told anew. -/
theorem Inv.tell (h : Inv C st tm w I tk) {i : Nat} (hi : i < st.sl.length) {s : SV} (hs : SRep w I tk s (tm.getD i undef)) : Inv C { st with sl := st.sl.set i s } tm w I tk := by
  have := h.put hi hs
  rwa [set_same] at this

/-- Data as another type has it: the steps, and what comes. -/
theorem coT_sound (self : Nat) : ∀ {u t : Ty} {x : t.den} {st : St} {tk : Toks} {cs : List Value}, Inv C st tm w I tk → cellsRep w I tk t x cs → ((coT self u t x).1.flatMap Pm.tc).Nodup → (∀ s ∈ (coT self u t x).1.flatMap Pm.tc, s ∉ self :: mentions t) →
    ((coT self u t x).1.all fun p => match p with | .kill s => Nat.blt s 1000000 | .ins _ ⟨.dyn t, _⟩ => t.plain | _ => false) = true →
    ∃ tk', Inv C (runPs (coT self u t x).1 st) tm w I tk' ∧ cellsRep w I tk' (coT self u t x).2.1 (coT self u t x).2.2 cs ∧ (coT self u t x).2.1.frz = t.frz ∧ (t.isTop = false → (coT self u t x).2.1.isTop = false) ∧
      (∀ r, r ∉ (coT self u t x).1.flatMap Pm.tc → tk' r = tk r) ∧ (∀ s ∈ mentions (coT self u t x).2.1, s ∈ self :: mentions t ∨ s ∈ (coT self u t x).1.flatMap Pm.tc) := by
  intro u
  have same : ∀ {t : Ty} {x : t.den} {st : St} {tk : Toks} {cs : List Value}, Inv C st tm w I tk → cellsRep w I tk t x cs → ∃ tk', Inv C (runPs [] st) tm w I tk' ∧ cellsRep w I tk' t x cs ∧ t.frz = t.frz ∧ (t.isTop = false → t.isTop = false) ∧
      (∀ r, r ∉ ([] : List Pm).flatMap Pm.tc → tk' r = tk r) ∧ (∀ s ∈ mentions t, s ∈ self :: mentions t ∨ s ∈ ([] : List Pm).flatMap Pm.tc) :=
    fun h hc => ⟨_, h, hc, rfl, fun h => h, fun _ _ => rfl, fun s hs => .inl (List.mem_cons_of_mem _ hs)⟩
  induction u with
  | pair a b iha ihb =>
    intro t x st tk cs h hc hnd hdj hal
    cases t with
    | pair c d =>
      obtain ⟨c1, c2, rfl, h1, h2⟩ := hc
      simp only [coT, List.flatMap_append, List.all_append, Bool.and_eq_true] at hnd hdj hal ⊢
      obtain ⟨n1, n2, n3⟩ := List.nodup_append.1 hnd
      have d1 : ∀ s ∈ (coT self a c x.1).1.flatMap Pm.tc, s ∉ self :: mentions c := fun s hs hm => hdj s (List.mem_append_left _ hs) (by
        rcases List.mem_cons.1 hm with rfl | hm
        · exact List.mem_cons_self
        · exact List.mem_cons_of_mem _ (List.mem_append_left _ hm))
      have d2 : ∀ s ∈ (coT self b d x.2).1.flatMap Pm.tc, s ∉ self :: mentions d := fun s hs hm => hdj s (List.mem_append_right _ hs) (by
        rcases List.mem_cons.1 hm with rfl | hm
        · exact List.mem_cons_self
        · exact List.mem_cons_of_mem _ (List.mem_append_right _ hm))
      obtain ⟨tk1, i1, g1, f1, t1, e1, m1⟩ := iha h h1 n1 d1 hal.1
      have h2' : cellsRep w I tk1 d x.2 c2 := h2.congr fun s hs => e1 s fun hm => hdj s (List.mem_append_left _ hm) (List.mem_cons_of_mem _ (List.mem_append_right _ hs))
      obtain ⟨tk2, i2, g2, f2, t2, e2, m2⟩ := ihb i1 h2' n2 d2 hal.2
      refine ⟨tk2, by rw [runPs_append]; exact i2, ⟨c1, c2, rfl, g1.congr fun s hs => e2 s fun hm => ?_, g2⟩, by simp only [Ty.frz, f1, f2], fun _ => rfl, fun r hr => ?_, fun s hs => ?_⟩
      · rcases m1 s hs with h3 | h3
        · rcases List.mem_cons.1 h3 with rfl | h3
          · exact hdj s (List.mem_append_right _ hm) List.mem_cons_self
          · exact hdj s (List.mem_append_right _ hm) (List.mem_cons_of_mem _ (List.mem_append_left _ h3))
        · exact n3 s h3 s hm rfl
      · rw [List.mem_append, not_or] at hr
        rw [e2 r hr.2, e1 r hr.1]
      · simp only [mentions, List.mem_append] at hs
        rcases hs with hs | hs
        · rcases m1 s hs with h3 | h3
          · rcases List.mem_cons.1 h3 with rfl | h3
            · exact .inl List.mem_cons_self
            · exact .inl (List.mem_cons_of_mem _ (List.mem_append_left _ h3))
          · exact .inr (List.mem_append_left _ h3)
        · rcases m2 s hs with h3 | h3
          · rcases List.mem_cons.1 h3 with rfl | h3
            · exact .inl List.mem_cons_self
            · exact .inl (List.mem_cons_of_mem _ (List.mem_append_right _ h3))
          · exact .inr (List.mem_append_right _ h3)
    | _ => exact same h hc
  | sl a =>
    intro t x st tk cs h hc hnd hdj hal
    cases t with
    | nsl t =>
      have hc' : cs = [.slice none 0 0] := hc
      subst hc'
      exact ⟨tk, h, ⟨none, 0, rfl, Nat.le_refl _, .inl rfl⟩, rfl, fun _ => rfl, fun _ _ => rfl, fun s hs => by cases hs⟩
    | _ => exact same h hc
  | vw s a =>
    intro t x st tk cs h hc hnd hdj hal
    cases t with
    | nsl t =>
      have hc' : cs = [.slice none 0 0] := hc
      subst hc'
      simp only [coT, newPs, List.all_cons, Bool.and_eq_true, List.all_nil, Bool.and_true] at hal
      have hlt : s < 1000000 := Nat.le_of_ble_eq_true hal.1
      obtain ⟨tk', h1, ⟨q, h2, h3, h4⟩, h5⟩ := h.nilDyn (d := s) (t := t) (fun j => by unfold site; omega) hal.2
      refine ⟨tk', h1, ⟨q, h2, h3, by rw [h4]⟩, rfl, fun _ => rfl, fun r hr => h5 r fun e => hr (by simp [coT, newPs, Pm.tc, e]), fun r hr => .inr ?_⟩
      simp only [coT, mentions, List.mem_singleton] at hr
      subst hr
      simp [coT, newPs, Pm.tc]
    | _ => exact same h hc
  | sf s a pa =>
    intro t x st tk cs h hc hnd hdj hal
    cases t with
    | slf =>
      have hc' : cs = [.pointer none] := hc
      subst hc'
      exact ⟨tk, h, .inl ⟨rfl, rfl⟩, rfl, fun _ => rfl, fun _ _ => rfl, fun r hr => .inl (by simpa [coT, mentions] using hr)⟩
    | _ => exact same h hc
  | _ => intro t x st tk cs h hc hnd hdj hal; exact same h hc
end Go.Own

/- Loops: a state is brought to a head's shape. -/
set_option linter.unusedVariables false
namespace Go.Own
variable {C : Cx} {P : Program} {E : Env} {w w' w2 : World} {I I' I1 I2 : Nat → Prop} {st sv st' : St} {tm : Array Value} {tk tk' : Toks} {ds : List Deferred} {o : Oper} {R : Type}

theorem newOK_spec {av : List Nat} {ps : List Pm} (h : newOK av ps = true) : (ps.flatMap Pm.tc).Nodup ∧ (∀ s ∈ ps.flatMap Pm.tc, s ∉ av) ∧ (ps.all fun p => match p with | .kill s => Nat.blt s 1000000 | .ins _ ⟨.dyn t, _⟩ => t.plain | _ => false) = true := by
  unfold newOK at h
  simp only [Bool.and_eq_true] at h
  exact ⟨nodupB_iff h.1.1, disj_spec h.1.2, h.2⟩

theorem box_stays : ∀ {ps : List Pm} {st : St} {a : Nat} {d : DV}, (ps.all fun p => match p with | .kill s => Nat.blt s 1000000 | .ins _ ⟨.dyn t, _⟩ => t.plain | _ => false) = true → st.box a = some d → ∃ d', (runPs ps st).box a = some d'
  | [], st, a, d, _, h => ⟨d, h⟩
  | p :: ps, st, a, d, ha, h => by
    simp only [List.all_cons, Bool.and_eq_true] at ha
    have : ∃ d', (p.run st).box a = some d' := by
      rw [box_run, h]
      cases p with
      | kill s => exact ⟨_, rfl⟩
      | ins s e =>
        simp only [boxP]
        split
        · exact ⟨_, rfl⟩
        · exact ⟨_, rfl⟩
      | set j u => exact ⟨_, rfl⟩
      | frz s c => exact absurd ha.1 (by simp)
      | del s => exact absurd ha.1 (by simp)
    obtain ⟨d', h'⟩ := this
    exact box_stays (ps := ps) (st := p.run st) ha.2 h'
theorem coS_sound {i : Nat} {s : Sh} {ps : List Pm} (h : Inv C st tm w I tk) (hi : i < st.sl.length) (hc : coS st i s = some ps) : ∃ I' tk', Inv C (runPs ps st) tm w I' tk' := by
  have nil : some [] = some ps → ∃ I' tk', Inv C (runPs ps st) tm w I' tk' := by
    intro e; cases e; exact ⟨I, tk, h⟩
  unfold coS at hc
  split at hc
  · split at hc
    · exact nil hc
    · obtain ⟨r, hr, rfl⟩ := Option.map_eq_some_iff.1 hc
      obtain ⟨fs, d⟩ := r
      obtain ⟨I', tk', hF, h1, h2⟩ := dataF_sound (View.refl st) h (h.slots i hi) hr
      refine ⟨I', tk', ?_⟩
      rw [runPs_append]
      exact hF.inv.tell (by rw [runPs_len]; exact hi) (s := .p d) ⟨h1, h2⟩
  · rename_i t
    split at hc
    · rename_i d hd
      split at hc
      · rename_i fs hfs
        split at hc
        · rename_i d' hd'
          cases hok : newOK (0 :: mentions d'.1) (coT 0 t d'.1 d'.2).1 with
          | false => rw [hok] at hc; cases hc
          | true =>
          rw [hok] at hc
          simp only [cond_true, Option.some.injEq] at hc
          subst hc
          obtain ⟨I', tk', hF⟩ := freezePs_sound (View.refl st) h hfs
          have hsl := hF.inv.slots i (by rw [runPs_len]; exact hi)
          rw [hd'] at hsl
          obtain ⟨n1, n2, n3⟩ := newOK_spec hok
          obtain ⟨ht, hv⟩ := hsl
          -- the value's cells
          have go : ∀ {cs : List Value}, cellsRep w I' tk' d'.1 d'.2 cs → (∀ {tk2 : Toks}, cellsRep w I' tk2 (coT 0 t d'.1 d'.2).2.1 (coT 0 t d'.1 d'.2).2.2 cs → (coT 0 t d'.1 d'.2).2.1.frz = d'.1.frz → valRep w I' tk2 (coT 0 t d'.1 d'.2).2.1 (coT 0 t d'.1 d'.2).2.2 (tm.getD i undef)) →
              ∃ I' tk', Inv C (runPs (fs ++ (coT 0 t d'.1 d'.2).1 ++ [.set i (.sd (coT 0 t d'.1 d'.2).2)]) st) tm w I' tk' := by
            intro cs hcs hval
            obtain ⟨tk2, g1, g2, g3, g4, g5, g6⟩ := coT_sound 0 (u := t) hF.inv hcs n1 n2 n3
            refine ⟨I', tk2, ?_⟩
            rw [runPs_append, runPs_append]
            exact g1.tell (by rw [runPs_len, runPs_len]; exact hi) (s := .sd (coT 0 t d'.1 d'.2).2) ⟨g4 ht, hval g2 g3⟩
          unfold valRep at hv
          split at hv
          · rename_i hag
            obtain ⟨cs, e1, hv⟩ := hv
            refine go hv fun {tk2} hcs hfr => ?_
            unfold valRep
            rw [if_pos (by rw [isAgg_of_frz hfr]; exact hag)]
            exact ⟨cs, e1, hcs⟩
          · rename_i hag
            refine go hv fun {tk2} hcs hfr => ?_
            unfold valRep
            rw [if_neg (by rw [isAgg_of_frz hfr]; exact hag)]
            exact hcs
        · cases hc
      · cases hc
    · cases hc
  · rename_i b t
    split at hc
    · rename_i hs
      cases hok : newOK [] (newPs b ⟨.dyn t, (true, [])⟩) with
      | false => rw [hok] at hc; cases hc
      | true =>
      rw [hok] at hc
      simp only [cond_true, Option.some.injEq] at hc
      subst hc
      obtain ⟨_, _, n3⟩ := newOK_spec hok
      simp only [newPs, List.all_cons, Bool.and_eq_true, List.all_nil, Bool.and_true] at n3
      have hlt : b < 1000000 := Nat.le_of_ble_eq_true n3.1
      obtain ⟨tk', h1, ⟨q, h2, h3, h4⟩, h5⟩ := h.nilDyn (d := b) (t := t) (fun j => by unfold site; omega) n3.2
      have hsl := h.slots i hi
      rw [hs] at hsl
      have e : tm.getD i undef = .slice none 0 0 := hsl
      refine ⟨I, tk', ?_⟩
      rw [runPs_append]
      exact h1.tell (by rw [runPs_len]; exact hi) (s := .va b t) ⟨q, h2, h3, by rw [e, h4]⟩
    · exact nil hc
  · rename_i b t pa
    split at hc
    · rename_i hs
      cases hok : newOK [] (newPs b ⟨.dyn t, (true, [])⟩) with
      | false => rw [hok] at hc; cases hc
      | true =>
      rw [hok] at hc
      simp only [cond_true, Option.some.injEq] at hc
      subst hc
      obtain ⟨_, _, n3⟩ := newOK_spec hok
      simp only [newPs, List.all_cons, Bool.and_eq_true, List.all_nil, Bool.and_true] at n3
      have hlt : b < 1000000 := Nat.le_of_ble_eq_true n3.1
      obtain ⟨tk', h1, ⟨q, h2, h3, h4⟩, h5⟩ := h.nilDyn (d := b) (t := t) (fun j => by unfold site; omega) n3.2
      have hsl := h.slots i hi
      rw [hs] at hsl
      have e : tm.getD i undef = .slice none 0 0 := hsl
      refine ⟨I, tk', ?_⟩
      rw [runPs_append]
      unfold Tk.hdr at h4
      simp only [Value.slice.injEq] at h4
      obtain ⟨k1, k2, k3⟩ := h4
      refine h1.tell (by rw [runPs_len]; exact hi) (s := .vs b t [] 0 0) ⟨q, h2, .inl ⟨rfl, h3, ⟨by omega, by omega⟩, none, by rw [e, k3], fun hq => by omega, by simp [k1]⟩⟩
    · rename_i a u hs
      split at hc
      · rename_i u' x hbx
        simp only [Option.some.injEq] at hc
        subst hc
        have hsl := h.slots i hi
        rw [hs] at hsl
        obtain ⟨q, h1, h2, h3⟩ := hsl
        obtain ⟨q', h4, h5⟩ := h.boxes a _ hbx
        rw [h1] at h4; cases h4
        obtain ⟨-, -, b3, b4, -, -⟩ := h5
        refine ⟨I, tk, ?_⟩
        refine h.tell hi (s := .vs a u [] 0 x.2.length) ⟨q, h1, .inl ⟨rfl, h2, ⟨by omega, by omega⟩, q.ad, by rw [h3]; unfold Tk.hdr; rw [b3]; rfl, fun hq => ?_, Iff.rfl⟩⟩
        cases q.ad with
        | none => rfl
        | some ad => simp [Addr.add]
      · exact nil hc
    · exact nil hc
  · exact nil hc

theorem coSs_sound : ∀ {sh : List (Nat × Sh)} {st : St} {I : Nat → Prop} {tk : Toks} {ps : List Pm}, Inv C st tm w I tk → (∀ p ∈ sh, p.1 < st.sl.length) → coSs st sh = some ps → ∃ I' tk', Inv C (runPs ps st) tm w I' tk' := by
  intro sh
  induction sh with
  | nil => intro st I tk ps h _ hc; cases hc; exact ⟨I, tk, h⟩
  | cons p sh ih =>
    obtain ⟨i, s⟩ := p
    intro st I tk ps h hl hc
    simp only [coSs] at hc
    split at hc
    · rename_i ps1 h1
      obtain ⟨qs, hq, rfl⟩ := Option.map_eq_some_iff.1 hc
      obtain ⟨I1, tk1, h2⟩ := coS_sound h (hl (i, s) (by simp)) h1
      obtain ⟨I2, tk2, h3⟩ := ih h2 (fun p hp => by rw [runPs_len]; exact hl p (by simp [hp])) hq
      exact ⟨I2, tk2, by rw [runPs_append]; exact h3⟩
    · cases hc

theorem coBs_sound : ∀ {bx : List (Nat × Ty)} {st : St} {I : Nat → Prop} {tk : Toks} {m m' : Mt} {ps : List Pm}, Inv C st tm w I tk → coBs st bx m = some (ps, m') → ∃ I' tk', Inv C (runPs ps st) tm w I' tk' := by
  intro bx
  induction bx with
  | nil => intro st I tk m m' ps h hc; cases hc; exact ⟨I, tk, h⟩
  | cons p bx ih =>
    obtain ⟨b, t⟩ := p
    intro st I tk m m' ps h hc
    simp only [coBs] at hc
    split at hc
    · rename_i a ha
      split at hc
      · rename_i d0 hd0
        split at hc
        · rename_i fs hfs
          split at hc
          · rename_i d hd
            cases hok : newOK (a :: mentions d.1) (coT a t d.1 d.2).1 with
            | false => rw [hok] at hc; cases hc
            | true =>
            rw [hok] at hc
            simp only [cond_true] at hc
            obtain ⟨z, hz, e⟩ := Option.map_eq_some_iff.1 hc
            simp only [Prod.mk.injEq] at e
            obtain ⟨rfl, rfl⟩ := e
            obtain ⟨I1, tk1, hF⟩ := freezePs_sound (View.refl st) h hfs
            obtain ⟨n1, n2, n3⟩ := newOK_spec hok
            obtain ⟨q, hq, hr⟩ := hF.inv.boxes a d hd
            have key : ∃ I' tk', Inv C (runPs (fs ++ (coT a t d.1 d.2).1 ++ [.ins a (coT a t d.1 d.2).2]) st) tm w I' tk' := by
              rw [runPs_append, runPs_append]
              cases htop : d.1.isTop with
              | true =>
                -- an own array, or a map: as it is
                have e : coT a t d.1 d.2 = ([], d) := by
                  obtain ⟨dt, dx⟩ := d
                  cases dt <;> first | (cases htop; done) | (cases t <;> rfl)
                rw [e]
                exact ⟨I1, tk1, hF.inv.tellBox hd hq hr⟩
              | false =>
                obtain ⟨k1, k2, bb, cs, k3, k4, k5⟩ := (BoxRep.str (t := d.1) (x := d.2) htop).1 hr
                obtain ⟨tk2, g1, g2, g3, g4, g5, g6⟩ := coT_sound a (u := t) hF.inv k5 n1 n2 n3
                have hna : a ∉ (coT a t d.1 d.2).1.flatMap Pm.tc := fun hm => n2 a hm List.mem_cons_self
                have hq2 : tk2 a = some q := (g5 a hna).trans hq
                have hbx : ∃ d2, (runPs (coT a t d.1 d.2).1 (runPs fs st)).box a = some d2 := by
                  exact box_stays n3 hd
                obtain ⟨d2, hd2⟩ := hbx
                exact ⟨I1, tk2, g1.tellBox hd2 hq2 ((BoxRep.str (g4 htop)).2 ⟨by rw [g3]; exact k1, k2, bb, cs, k3, k4, g2⟩)⟩
            obtain ⟨I2, tk2, h2⟩ := key
            obtain ⟨I3, tk3, h3⟩ := ih h2 hz
            exact ⟨I3, tk3, by rw [runPs_append]; exact h3⟩
          · cases hc
        · cases hc
      · cases hc
    · cases hc
end Go.Own
